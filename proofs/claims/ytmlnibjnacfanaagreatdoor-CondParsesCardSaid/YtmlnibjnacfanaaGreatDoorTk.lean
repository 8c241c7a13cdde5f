/- Layer 8: the reference's not and list for every depth, joined. Layer 8: the reference's Parse: no architecture, a text that is too long. Layer 8: the reference's Parse, walked. Layer 8: the walk of CondParses. -/
import Derived.Test.YtmlnibjnacfanaaGreatDoorTg
import Derived.Test.YtmlnibjnacfanaaGreatDoorDq
import Derived.Deep.DeepCutAuto
import Derived.Test.YtmlnibjnacfanaaGreatDoorSq
import Derived.Test.YtmlnibjnacfanaaGreatDoorEp
import Derived.Test.YtmlnibjnacfanaaGreatDoorGa
namespace Go.Proofs.YtmlnibjnacfanaaGreatDoor
open Go.RowKit

section
variable {g : Nat} {a : Int} {s : ByteArray}
theorem notQ (ha : archB a = true) (hg : 6 ≤ g) : ∀ f, f ≤ 262145 → OneQ 85 #[.pointer (some ⟨g, 0, none⟩)] (pNot s.size a f) g a s f
  | 0, _ => fun _ _ _ _ hN => absurd hN (Nat.not_lt_zero _)
  | f + 1, hf => notQ_step hf ha hg (notQ ha hg f (by omega))
theorem andQ (ha : archB a = true) (hg : 6 ≤ g) (f : Nat) (hf : f ≤ 262145) : OneQ 50 #[.pointer (some ⟨g, 0, none⟩), .bool false] (pAnd s.size a f) g a s f :=
  fun _ _ h hE hN => listQ_and (notQ ha hg f hf) h hE hg hN hf
theorem orQ (ha : archB a = true) (hg : 6 ≤ g) (f : Nat) (hf : f ≤ 262145) : OneQ 50 #[.pointer (some ⟨g, 0, none⟩), .bool true] (pOr s.size a f) g a s f :=
  fun _ _ h hE hN => listQ_or (andQ ha hg f hf) h hE hg hN hf
end

theorem ret_condF {fn : Func} (hfn : fn.results = #[.cell 4 28, .tmp 5, .tmp 6]) {a : Act} {W : World} {R : Ending → World → Prop} {b : Nat} {q k t r v E p : Int} {l : List UInt8} {kv : Value}
    (hB : Blk W b 28 #[.int .i64 q, .int .i64 k, .int .i64 t, .int .i64 r, .string ⟨l.toArray⟩, .int .i64 v, kv]) (h4 : a.tmps[4]? = some (.pointer (some ⟨b, 0, none⟩))) (h5 : a.tmps[5]? = some (.int .i64 E)) (h6 : a.tmps[6]? = some (.int .i64 p)) (hd : a.defers = [])
    (hR : R (.returned (.tuple #[condV q k t r l v kv, .int .i64 E, .int .i64 p])) W) : bodyPost Tryz.prog fn R .ret a W := by
  have a0 : W.cell? ⟨b, 0, none⟩ = some (.int .i64 q) := hB.cell 0
  have a1 : W.cell? ⟨b, 1, none⟩ = some (.int .i64 k) := hB.cell 1
  have a2 : W.cell? ⟨b, 2, none⟩ = some (.int .i64 t) := hB.cell 2
  have a3 : W.cell? ⟨b, 3, none⟩ = some (.int .i64 r) := hB.cell 3
  have a4 : W.cell? ⟨b, 4, none⟩ = some (.string ⟨l.toArray⟩) := hB.cell 4
  have a5 : W.cell? ⟨b, 5, none⟩ = some (.int .i64 v) := hB.cell 5
  have a6 : W.cell? ⟨b, 6, none⟩ = some kv := hB.cell 6
  exact bodyPost_ret (by simp [results, hfn, h4, h5, h6, go_sem, a0, a1, a2, a3, a4, a5, a6]) hd hR
section
variable {a : Int} {s : ByteArray} {w : World}
set_option maxHeartbeats 2000000 in
set_option maxRecDepth 100000 in
theorem parseR_arch (ha : archB a = false) : Calls Tryz.prog 18 #[.int .i64 a, .string s] w (PPost a s.data.toList w) := by
  have hr : parseC a s.data.toList = ((0, noNd), 5, 0) := by unfold parseC; rw [if_pos ha]
  have HR := Lib.hid hr
  have HA := Lib.hid ha
  have HB := Lib.hid ((Blk.new w 28 zeroCond).alloc (.cells zeroCond 28 (0, 0)))
  clear ha hr
  go_enter Tryz.func18, Tryz.ntmps18
  go_wp2_with (go_at_call 41; refine (archR _ _).mono ?_; rw [HA.out]; rintro e w' ⟨rfl, rfl⟩)
  refine ret_condF rfl (b := w.heap.size) (by first | exact (Blk.new w _ _).alloc _ | exact blk_put7 HB.out rfl _ _ _ _ _ _ _) rfl rfl rfl rfl ?_
  refine PPost.mk HR.out (by simp [noNd]) (KidC.nil _ _) ?_
  first
    | exact below_alloc (alloc_b w _) _
    | exact below_put7 (below_alloc (alloc_b w _) _) (Nat.le_refl _) _ _ _ _ _ _ _
set_option maxHeartbeats 2000000 in
set_option maxRecDepth 100000 in
theorem parseR_long (ha : archB a = true) (hs : 262144 < s.size) (hs2 : s.size ≤ 9223372036854775807) : Calls Tryz.prog 18 #[.int .i64 a, .string s] w (PPost a s.data.toList w) := by
  have hr : parseC a s.data.toList = ((0, noNd), 2, 0) := by unfold parseC; rw [if_neg (by simp [ha]), if_pos (by rw [Array.length_toList]; exact hs)]
  have e1 : decide ((262144 : Int) < (s.size : Int)) = true := decide_eq_true (by omega)
  have HR := Lib.hid hr
  have HA := Lib.hid ha
  have HB := Lib.hid ((Blk.new w 28 zeroCond).alloc (.cells zeroCond 28 (0, 0)))
  clear ha hr
  go_enter Tryz.func18, Tryz.ntmps18
  go_wp2_with (go_at_call 41; refine (archR _ _).mono ?_; rw [HA.out]; rintro e w' ⟨rfl, rfl⟩)
  refine ret_condF rfl (b := w.heap.size) (by first | exact (Blk.new w _ _).alloc _ | exact blk_put7 HB.out rfl _ _ _ _ _ _ _) rfl rfl rfl rfl ?_
  refine PPost.mk HR.out (by simp [noNd]) (KidC.nil _ _) ?_
  first
    | exact below_alloc (alloc_b w _) _
    | exact below_put7 (below_alloc (alloc_b w _) _) (Nat.le_refl _) _ _ _ _ _ _ _
end

/-- Where the reference's Parse stands: its two blocks are as they were. -/
structure PIn (w wx : World) (g : Nat) : Prop where
  below : Below w.heap.size w wx
  env : Env wx
  b0 : Blk wx w.heap.size 28 zeroCond
  b1 : Blk wx (w.heap.size + 1) 28 zeroCond
theorem PIn.only {w wx wy : World} {g : Nat} (h : PIn w wx g) (ho : Only g wx wy) (h6 : 6 ≤ g) (hg : w.heap.size + 1 < g) : PIn w wy g :=
  ⟨Only.below h.below (by omega) ho, h.env.only ho h6, h.b0.only ho (by omega), h.b1.only ho (by omega)⟩
theorem PIn.put {w wn : World} {g b : Nat} (h : PIn w wn g) (hE : Env w) (hb : w.heap.size + 1 < b) (u0 u1 u2 u3 u4 u5 : Value) : PIn w (put6 wn b u0 u1 u2 u3 u4 u5) g :=
  ⟨below_put6 h.below (by omega) _ _ _ _ _ _, hE.mono (below_put6 h.below (by omega) _ _ _ _ _ _), (heap_put6 (by omega) _ _ _ _ _ _).trans h.b0, (heap_put6 (by omega) _ _ _ _ _ _).trans h.b1⟩
def pFst (e : Nat) (L : List Tok) : Rs Int := (pHead e L).go fun q L => (pTake e [40] L).go fun _ L => .ok q L
theorem pCond_two (e : Nat) (a : Int) (f : Nat) (L : List Tok) : pCond e a f L = (pFst e L).go fun q L => (pOr e a f L).go fun n L => (pTake e [41] L).go fun _ L => (pEnd L).go fun _ L => .ok (q, n) L := by
  unfold pCond pFst
  cases pHead e L with
  | bad p => rfl
  | ok q L1 =>
    show Rs.go (pTake e [40] L1) _ = Rs.go (Rs.go (pTake e [40] L1) _) _
    cases pTake e [40] L1 <;> rfl
theorem pEnd_bad {α : Type} {e : Nat} {L : List Tok} {k : Unit → List Tok → Rs α} (h : ¬ L = []) : (pEnd L).go k = .bad (ps e L) := by
  cases L with
  | nil => exact absurd rfl h
  | cons t r => rfl
theorem hd_kind {L : List Tok} (ht : ∀ t ∈ L, t.1 ≠ [] ∧ t.1.length ≤ 262144) (h : ¬ L = []) : kindT (hd L) ≠ 0 := by
  cases L with
  | nil => exact absurd rfl h
  | cons t r => exact kind_zero (ht t (List.mem_cons_self ..)).1
theorem kid_put {wc wn : World} {o : Obj} {kv : Value} {f : Fr} (h : KidC wn (fun i => (wc.alloc o).heap.size ≤ i ∧ i < wn.heap.size) kv f) (u0 u1 u2 u3 u4 u5 : Value) :
    KidC (put6 wn wc.heap.size u0 u1 u2 u3 u4 u5) (fun i => wc.heap.size + 1 ≤ i ∧ i < (put6 wn wc.heap.size u0 u1 u2 u3 u4 u5).heap.size) kv f :=
  (h.keep (fun i hi => heap_put6 (by have := hi.1; simp at this; omega) _ _ _ _ _ _)).mono (fun i hi => ⟨by simpa using hi.1, by rw [size_put6]; exact hi.2⟩)
theorem kid_only {x y : World} {g B : Nat} {kv : Value} {f : Fr} (h : KidC x (fun i => B + 1 ≤ i ∧ i < x.heap.size) kv f) (ho : Only g x y) (hg : g < B) :
    KidC y (fun i => B + 1 ≤ i ∧ i < y.heap.size) kv f :=
  (h.keep (fun i hi => ho.block i hi.2 (fun e => by have := hi.1; injection e with e; omega))).mono (fun _ hi => ⟨hi.1, Nat.lt_of_lt_of_le hi.2 ho.size⟩)
theorem rd_al {W : World} {g : Nat} {a : Int} {s : ByteArray} {L : List Tok} {bd : Int} (h : RdR W g a s L bd) (o : Obj) : RdR (W.alloc o) g a s L bd ∧ Only g W (W.alloc o) := ⟨h.below (alloc_b W o), Only.of_below (alloc_b W o)⟩
def HdS (w wx : World) (g : Nat) (a : Int) (s : ByteArray) (res : Rs Int) (v : Value) : Prop :=
  PIn w wx g ∧ ∃ q : Int, v = .int .i64 q ∧ match res with
    | .ok q' L => q' = q ∧ RdR wx g a s L (-1) ∧ L.length ≤ s.size
    | .bad p => BadR wx g p
theorem bad_al {W : World} {g p : Nat} (h : BadR W g p) (o : Obj) : BadR (W.alloc o) g p ∧ Only g W (W.alloc o) := ⟨h.below (alloc_b W o), Only.of_below (alloc_b W o)⟩
theorem cell_put7 {X : World} {B b o : Nat} {v : Value} (h : X.cell? ⟨B, o, none⟩ = some v) (hb : b ≠ B) (u0 u1 u2 u3 u4 u5 u6 : Value) :
    (((((((X.setCell ⟨b, 0, none⟩ u0).setCell ⟨b, 1, none⟩ u1).setCell ⟨b, 2, none⟩ u2).setCell ⟨b, 3, none⟩ u3).setCell ⟨b, 4, none⟩ u4).setCell ⟨b, 5, none⟩ u5).setCell ⟨b, 6, none⟩ u6).drew.cell? ⟨B, o, none⟩ = some v :=
  cell_dr (cell_set (cell_set (cell_set (cell_set (cell_set (cell_set (cell_set h hb u0) hb u1) hb u2) hb u3) hb u4) hb u5) hb u6)
section
variable {a : Int} {s : ByteArray} {w : World}
set_option maxHeartbeats 40000000 in
set_option maxRecDepth 100000 in
theorem parseR_go (ha : archB a = true) (hs : s.size ≤ 262144) (hE : Env w) : Calls Tryz.prog 18 #[.int .i64 a, .string s] w (PPost a s.data.toList w) := by
  obtain ⟨L, hLL⟩ : ∃ L, toks 0 s.data.toList = L := ⟨_, rfl⟩
  have HLL := Lib.hid hLL
  have hLs : L.length ≤ s.size := by rw [← hLL]; exact toks_len 0 _
  have HA := Lib.hid ha
  have HE0 := Lib.hid hE
  have HW0 := Lib.hid (below_alloc (alloc_b w (.cells #[.int .i64 0, .int .i64 0, .int .i64 0, .int .i64 0, .string ⟨#[]⟩, .int .i64 0, .slice none 0 0] 28 (0, 0))) (.cells #[.int .i64 0, .int .i64 0, .int .i64 0, .int .i64 0, .string ⟨#[]⟩, .int .i64 0, .slice none 0 0] 28 (0, 0)))
  have e1 : decide ((262144 : Int) < (s.size : Int)) = false := decide_eq_false (by omega)
  go_enter Tryz.func18, Tryz.ntmps18
  go_wp2_with fail
  refine (archR _ _).mono ?_
  rw [HA.out]
  rintro e wn ⟨rfl, rfl⟩
  go_wp2_with fail
  refine (tokR s 0 (Nat.zero_le _) hs _).mono ?_
  rw [List.drop_zero, hLL]
  rintro e w1 ⟨rfl, hb1⟩
  have hz1 : w.heap.size + 2 ≤ w1.heap.size := by have := hb1.size; simpa using this
  have h6 := hE.size
  have hg : 6 ≤ w1.heap.size := by omega
  have hgw : w.heap.size ≤ w1.heap.size := by omega
  have hg2 : w.heap.size + 1 < w1.heap.size := by omega
  have HD := Lib.hid (RdR.of_blk (w := w1.alloc (.cells #[.int .i64 a, .string s, .int .i64 (kindT (hd L)), .string ⟨(hd L).toArray⟩, .int .i64 (ps s.size L), .int .i64 (nx s.size L), .int .i64 (-1)] 95 (0, 0))) (g := w1.heap.size) (a := a) (bd := -1) (Nat.zero_le _) hs (by rw [List.drop_zero, hLL]) (Blk.new w1 _ _))
  have HP : Hid (PIn w (w1.alloc (.cells #[.int .i64 a, .string s, .int .i64 (kindT (hd L)), .string ⟨(hd L).toArray⟩, .int .i64 (ps s.size L), .int .i64 (nx s.size L), .int .i64 (-1)] 95 (0, 0))) w1.heap.size) := Lib.hid ⟨below_alloc (below_trans HW0.out hb1) (.cells #[.int .i64 a, .string s, .int .i64 (kindT (hd L)), .string ⟨(hd L).toArray⟩, .int .i64 (ps s.size L), .int .i64 (nx s.size L), .int .i64 (-1)] 95 (0, 0)), hE.mono (below_alloc (below_trans HW0.out hb1) (.cells #[.int .i64 a, .string s, .int .i64 (kindT (hd L)), .string ⟨(hd L).toArray⟩, .int .i64 (ps s.size L), .int .i64 (nx s.size L), .int .i64 (-1)] 95 (0, 0))), (((Blk.new w 28 zeroCond).alloc (.cells #[.int .i64 0, .int .i64 0, .int .i64 0, .int .i64 0, .string ⟨#[]⟩, .int .i64 0, .slice none 0 0] 28 (0, 0))).go hb1).alloc (.cells #[.int .i64 a, .string s, .int .i64 (kindT (hd L)), .string ⟨(hd L).toArray⟩, .int .i64 (ps s.size L), .int .i64 (nx s.size L), .int .i64 (-1)] 95 (0, 0)), ((blk_new1 w (.cells #[.int .i64 0, .int .i64 0, .int .i64 0, .int .i64 0, .string ⟨#[]⟩, .int .i64 0, .slice none 0 0] 28 (0, 0)) 28 zeroCond).go hb1).alloc (.cells #[.int .i64 a, .string s, .int .i64 (kindT (hd L)), .string ⟨(hd L).toArray⟩, .int .i64 (ps s.size L), .int .i64 (nx s.size L), .int .i64 (-1)] 95 (0, 0))⟩
  clear hb1 hz1 h6 hLL
  have c2 := HD.out.blk.cell 2
  have c6 := HD.out.blk.cell 6
  go_wp2_with fail
  refine (isR HD.out [102, 111, 114, 97, 108, 108] 1 rfl).mono ?_
  rintro e wn ⟨rfl, rfl⟩
  go_upto_if 28 with fail
  go_cut [9] (fun s9 wx => HdS w wx w1.heap.size a s (pHead s.size L) s9)
  case first =>
    by_cases hF : hd L = [102, 111, 114, 97, 108, 108]
    · have HFF := Lib.hid hF
      rw [decide_eq_true hF]
      clear hF
      go_wp2_with fail
      refine (onR HD.out).mono ?_
      rintro e wn ⟨rfl, hrd, ho⟩
      have HD := Lib.hid hrd
      clear hrd
      have HP := Lib.hid (HP.out.only ho hg hg2)
      clear ho
      (try clear c2); (try clear c6)
      have c2 := HD.out.blk.cell 2
      have c6 := HD.out.blk.cell 6
      go_wp2_with fail
      go_meet
      exact ⟨HP.out, 3, rfl, by rw [pHead, if_pos HFF.out]; exact ⟨rfl, HD.out, Nat.le_trans (tail_le L) hLs⟩⟩
    · have HFF := Lib.hid hF
      rw [decide_eq_false hF]
      clear hF
      by_cases hN : hd L = [126]
      · have HN := Lib.hid (decide_eq_true hN)
        have HNN := Lib.hid hN
        clear hN
        go_wp2_with fail
        refine (isR HD.out [126] 3 rfl).mono ?_
        rintro e wn ⟨rfl, rfl⟩
        rw [HN.out]
        go_wp2_with fail
        refine (onR HD.out).mono ?_
        rintro e wn ⟨rfl, hrd, ho⟩
        have HD := Lib.hid hrd
        clear hrd
        have HP := Lib.hid (HP.out.only ho hg hg2)
        clear ho
        (try clear c2); (try clear c6)
        have c2 := HD.out.blk.cell 2
        have c6 := HD.out.blk.cell 6
        by_cases hX : hd L.tail = [101, 120, 105, 115, 116, 115]
        · have HX := Lib.hid hX
          clear hX
          go_wp2_with fail
          refine (wantR_yes HD.out [101, 120, 105, 115, 116, 115] 1 rfl HX.out).mono ?_
          rintro e wn ⟨rfl, hrd, ho⟩
          have HD := Lib.hid hrd
          clear hrd
          have HP := Lib.hid (HP.out.only ho hg hg2)
          clear ho
          (try clear c2); (try clear c6)
          have c2 := HD.out.blk.cell 2
          have c6 := HD.out.blk.cell 6
          go_wp2_with fail
          go_meet
          exact ⟨HP.out, 2, rfl, by rw [pHead, if_neg HFF.out, if_pos HNN.out, pTake, if_pos (show hd L.tail = existsT from HX.out)]; exact ⟨rfl, HD.out, Nat.le_trans (tail_le _) (Nat.le_trans (tail_le L) hLs)⟩⟩
        · have HX := Lib.hid hX
          clear hX
          go_wp2_with fail
          refine (wantR_no HD.out [101, 120, 105, 115, 116, 115] 1 rfl HX.out).mono ?_
          rintro e wn ⟨rfl, hbd, ho⟩
          have HBD := Lib.hid hbd
          clear hbd
          have HP := Lib.hid (HP.out.only ho hg hg2)
          clear ho
          (try clear c2); (try clear c6)
          have c6 := HBD.out
          unfold BadR at c6
          go_wp2_with fail
          go_meet
          exact ⟨HP.out, 2, rfl, by rw [pHead, if_neg HFF.out, if_pos HNN.out, pTake, if_neg (show ¬ hd L.tail = existsT from HX.out)]; exact HBD.out⟩
      · have HN := Lib.hid (decide_eq_false hN)
        have HNN := Lib.hid hN
        clear hN
        go_wp2_with fail
        refine (isR HD.out [126] 3 rfl).mono ?_
        rintro e wn ⟨rfl, rfl⟩
        rw [HN.out]
        by_cases hX : hd L = [101, 120, 105, 115, 116, 115]
        · have HX := Lib.hid hX
          clear hX
          go_wp2_with fail
          refine (wantR_yes HD.out [101, 120, 105, 115, 116, 115] 1 rfl HX.out).mono ?_
          rintro e wn ⟨rfl, hrd, ho⟩
          have HD := Lib.hid hrd
          clear hrd
          have HP := Lib.hid (HP.out.only ho hg hg2)
          clear ho
          (try clear c2); (try clear c6)
          have c2 := HD.out.blk.cell 2
          have c6 := HD.out.blk.cell 6
          go_wp2_with fail
          go_meet
          exact ⟨HP.out, 1, rfl, by rw [pHead, if_neg HFF.out, if_neg HNN.out, pTake, if_pos (show hd L = existsT from HX.out)]; exact ⟨rfl, HD.out, Nat.le_trans (tail_le L) hLs⟩⟩
        · have HX := Lib.hid hX
          clear hX
          go_wp2_with fail
          refine (wantR_no HD.out [101, 120, 105, 115, 116, 115] 1 rfl HX.out).mono ?_
          rintro e wn ⟨rfl, hbd, ho⟩
          have HBD := Lib.hid hbd
          clear hbd
          have HP := Lib.hid (HP.out.only ho hg hg2)
          clear ho
          (try clear c2); (try clear c6)
          have c6 := HBD.out
          unfold BadR at c6
          go_wp2_with fail
          go_meet
          exact ⟨HP.out, 1, rfl, by rw [pHead, if_neg HFF.out, if_neg HNN.out, pTake, if_neg (show ¬ hd L = existsT from HX.out)]; exact HBD.out⟩
  case rest =>
    obtain ⟨hp, q, rfl, hm⟩ := hcut
    have HP := Lib.hid hp
    (try clear c2 c6)
    clear HD hp
    go_upto_region 15 with fail
    go_cut [38] (fun _ wx => HdS w wx w1.heap.size a s (pFst s.size L) (.int .i64 q))
    case first =>
      cases hh : pHead s.size L with
      | bad p =>
        rw [hh] at hm
        have HPF := Lib.hid (show pFst s.size L = .bad p by rw [pFst, hh]; rfl)
        have HBD := Lib.hid (show BadR wc w1.heap.size p from hm)
        clear hm hh
        go_wp2_with fail
        refine (wantR_bad HBD.out _ _).mono ?_
        rintro e wn ⟨rfl, rfl⟩
        go_wp2_with fail
        go_meet
        exact ⟨HP.out, q, rfl, by rw [HPF.out]; exact HBD.out⟩
      | ok q' Lx =>
        rw [hh] at hm
        obtain ⟨hq, hrd, hl⟩ := hm
        subst hq
        have HD := Lib.hid hrd
        have HPF := Lib.hid (show pFst s.size L = (pTake s.size [40] Lx).go fun _ L => .ok q' L by rw [pFst, hh]; rfl)
        clear hrd hh
        by_cases hX : hd Lx = [40]
        · have HX := Lib.hid hX
          clear hX
          go_wp2_with fail
          refine (wantR_yes HD.out [40] 3 rfl HX.out).mono ?_
          rintro e wn ⟨rfl, hrd, ho⟩
          have HD := Lib.hid hrd
          clear hrd
          have HP := Lib.hid (HP.out.only ho hg hg2)
          clear ho
          (try clear c2); (try clear c6)
          have c2 := HD.out.blk.cell 2
          have c6 := HD.out.blk.cell 6
          go_wp2_with fail
          go_meet
          exact ⟨HP.out, _, rfl, by rw [HPF.out, pTake, if_pos HX.out]; exact ⟨rfl, HD.out, Nat.le_trans (tail_le Lx) hl⟩⟩
        · have HX := Lib.hid hX
          clear hX
          go_wp2_with fail
          refine (wantR_no HD.out [40] 3 rfl HX.out).mono ?_
          rintro e wn ⟨rfl, hbd, ho⟩
          have HBD := Lib.hid hbd
          clear hbd
          have HP := Lib.hid (HP.out.only ho hg hg2)
          clear ho
          (try clear c2); (try clear c6)
          have c6 := HBD.out
          unfold BadR at c6
          go_wp2_with fail
          go_meet
          exact ⟨HP.out, _, rfl, by rw [HPF.out, pTake, if_neg HX.out]; exact HBD.out⟩
    case rest =>
      obtain ⟨hp, q2, hq2, hm⟩ := hcut
      cases hq2
      have HP := Lib.hid hp
      (try clear HD)
      clear hp
      cases hr : pFst s.size L with
      | bad p =>
        rw [hr] at hm
        have HBD := Lib.hid (show BadR wc w1.heap.size p from hm)
        have HF := Lib.hid hr
        clear hm hr
        obtain ⟨hbd, ho⟩ := bad_al HBD.out (.cells #[.int .i64 0, .int .i64 0, .int .i64 0, .string ⟨#[]⟩, .int .i64 0, .slice none 0 0] 26 (0, 0))
        have HBD := Lib.hid hbd
        clear hbd
        have HP := Lib.hid (HP.out.only ho hg hg2)
        clear ho
        (try clear c2); (try clear c6)
        have c6 := HBD.out
        unfold BadR at c6
        have HR := Lib.hid (parseC_bad ha hs (show pCond s.size a (s.size + 1) (toks 0 s.data.toList) = .bad p by rw [HLL.out]; rw [pCond_two, HF.out]; rfl))
        go_wp2_with fail
        refine (wantR_bad HBD.out _ _).mono ?_
        rintro e wn ⟨rfl, rfl⟩
        have m0 : _ = some (Value.int .i64 0) := HP.out.b1.cell 0
        have m1 : _ = some (Value.int .i64 0) := HP.out.b1.cell 1
        have m2 : _ = some (Value.int .i64 0) := HP.out.b1.cell 2
        have m3 : _ = some (Value.int .i64 0) := HP.out.b1.cell 3
        have m4 : _ = some (Value.string ⟨#[]⟩) := HP.out.b1.cell 4
        have m5 : _ = some (Value.int .i64 0) := HP.out.b1.cell 5
        have m6 : _ = some (Value.slice none 0 0) := HP.out.b1.cell 6
        have z0 : _ = some (Value.int .i64 0) := HP.out.b0.cell 0
        have y0 := HP.out.b0.frozen 0
        have z1 : _ = some (Value.int .i64 0) := HP.out.b0.cell 1
        have y1 := HP.out.b0.frozen 1
        have z2 : _ = some (Value.int .i64 0) := HP.out.b0.cell 2
        have y2 := HP.out.b0.frozen 2
        have z3 : _ = some (Value.int .i64 0) := HP.out.b0.cell 3
        have y3 := HP.out.b0.frozen 3
        have z4 : _ = some (Value.string ⟨#[]⟩) := HP.out.b0.cell 4
        have y4 := HP.out.b0.frozen 4
        have z5 : _ = some (Value.int .i64 0) := HP.out.b0.cell 5
        have y5 := HP.out.b0.frozen 5
        have z6 : _ = some (Value.slice none 0 0) := HP.out.b0.cell 6
        have y6 := HP.out.b0.frozen 6
        go_wp2_with fail
        refine wp_region_held_drew (S := (fun y : World => y.cell? ⟨w.heap.size + 1, 0, none⟩ = some (Value.int .i64 0) ∧ y.cell? ⟨w.heap.size + 1, 1, none⟩ = some (Value.int .i64 0) ∧ y.cell? ⟨w.heap.size + 1, 2, none⟩ = some (Value.int .i64 0) ∧ y.cell? ⟨w.heap.size + 1, 3, none⟩ = some (Value.int .i64 0) ∧ y.cell? ⟨w.heap.size + 1, 4, none⟩ = some (Value.string ⟨#[]⟩) ∧ y.cell? ⟨w.heap.size + 1, 5, none⟩ = some (Value.int .i64 0) ∧ y.cell? ⟨w.heap.size + 1, 6, none⟩ = some (Value.slice none 0 0) ∧ y.cell? ⟨w1.heap.size, 6, none⟩ = some (.int .i64 (p : Nat)))) (by kernel_rfl) ⟨m0, m1, m2, m3, m4, m5, m6, c6⟩ (fun hHeld => ?_)
        refine wpAnyH_take (i := 0) (v := ?_) rfl (by kernel_rfl) (by kernel_rfl) (by kernel_rfl) (fun _ _ _ h => h) (Or.inl ⟨by kernel_rfl, ?_⟩) (by assumption) ?_
        rotate_left
        · intro x' hSx
          try dsimp only at hSx
          go_simp
          try with_reducible rfl
        try simp only [Act.put, List.setIfInBounds_toArray]
        refine wpAnyH_take (i := 1) (v := ?_) rfl (by kernel_rfl) (by kernel_rfl) (by kernel_rfl) (fun _ _ _ h => h) (Or.inl ⟨by kernel_rfl, ?_⟩) (by assumption) ?_
        rotate_left
        · intro x' hSx
          try dsimp only at hSx
          go_simp
          try with_reducible rfl
        try simp only [Act.put]
        refine wpAnyH_take (i := 2) (v := ?_) rfl (by kernel_rfl) (by kernel_rfl) (by kernel_rfl) (fun _ _ _ h => h) (Or.inl ⟨by kernel_rfl, ?_⟩) (by assumption) ?_
        rotate_left
        · intro x' hSx
          try dsimp only at hSx
          go_simp
          try with_reducible rfl
        try simp only [Act.put]
        refine wpAnyH_take (i := 3) (v := ?_) rfl (by kernel_rfl) (by kernel_rfl) (by kernel_rfl) (fun _ _ _ h => h) (Or.inl ⟨by kernel_rfl, ?_⟩) (by assumption) ?_
        rotate_left
        · intro x' hSx
          try dsimp only at hSx
          go_simp
          try with_reducible rfl
        try simp only [Act.put]
        refine wpAnyH_take (i := 4) (v := ?_) rfl (by kernel_rfl) (by kernel_rfl) (by kernel_rfl) (fun _ _ _ h => h) (Or.inl ⟨by kernel_rfl, ?_⟩) (by assumption) ?_
        rotate_left
        · intro x' hSx
          try dsimp only at hSx
          go_simp
          try with_reducible rfl
        try simp only [Act.put]
        refine wpAnyH_ready (rs := [5]) (by kernel_rfl) (by simp) ?_
        refine AllReadyH.cons rfl (fun K hK => ?_) AllReadyH.nil
        go_simp
        refine hK.out _ _ ⟨cell_put7 m0 (by omega) _ _ _ _ _ _ _, cell_put7 m1 (by omega) _ _ _ _ _ _ _, cell_put7 m2 (by omega) _ _ _ _ _ _ _, cell_put7 m3 (by omega) _ _ _ _ _ _ _, cell_put7 m4 (by omega) _ _ _ _ _ _ _, cell_put7 m5 (by omega) _ _ _ _ _ _ _, cell_put7 m6 (by omega) _ _ _ _ _ _ _, cell_put7 c6 (by omega) _ _ _ _ _ _ _⟩ (fun hS5 => ?_)
        clear hK K
        try simp only [Act.put, List.setIfInBounds_toArray, List.set_cons_zero, List.set_cons_succ]
        refine wpAnyH_ready (rs := [6]) (by kernel_rfl) (by simp) ?_
        refine AllReadyH.cons rfl (fun K hK => ?_) AllReadyH.nil
        go_simp
        refine hK.out _ _ hS5 (fun hS6 => ?_)
        clear hK K
        try simp only [Act.put, List.setIfInBounds_toArray, List.set_cons_zero, List.set_cons_succ]
        refine wpAnyH_ready (rs := [7]) (by kernel_rfl) (by simp) ?_
        refine AllReadyH.cons rfl (fun K hK => ?_) AllReadyH.nil
        go_simp
        refine hK.out _ _ hS6 (fun _ => ?_)
        clear hK K
        try simp only [Act.put, List.setIfInBounds_toArray, List.set_cons_zero, List.set_cons_succ]
        refine wpAnyH_done (by kernel_rfl) ?_ _
        go_wp2_with fail
        refine ret_condF rfl (b := w.heap.size) (blk_put7 HP.out.b0 rfl _ _ _ _ _ _ _).drew (by first | rfl | simp) (by first | rfl | simp) (by first | rfl | simp) rfl ?_
        exact PPost.mk HR.out (by simp [noNd]) (KidC.nil _ _) (below_put7 HP.out.below (Nat.le_refl _) _ _ _ _ _ _ _).drew
      | ok q' L1 =>
        rw [hr] at hm
        obtain ⟨hq, hrd, hl⟩ := hm
        subst hq
        have HF := Lib.hid hr
        have hgb : w1.heap.size < wc.heap.size := hrd.lt
        obtain ⟨hrd, ho⟩ := rd_al hrd (.cells #[.int .i64 0, .int .i64 0, .int .i64 0, .string ⟨#[]⟩, .int .i64 0, .slice none 0 0] 26 (0, 0))
        have HD := Lib.hid hrd
        clear hrd
        have HP := Lib.hid (HP.out.only ho hg hg2)
        clear ho
        (try clear c2); (try clear c6)
        have c2 := HD.out.blk.cell 2
        have c6 := HD.out.blk.cell 6
        have HZ := Lib.hid (Blk.new wc 26 zeroNode)
        clear hr
        go_wp2_with fail
        refine (orQ HA.out hg (s.size + 1) (by omega) _ L1 HD.out HP.out.env (by omega)).mono ?_
        rintro e wn ⟨n, v, rfl, hnv, ho, hmn⟩
        obtain ⟨hnl, kv, rfl, hkc⟩ := hnv
        obtain ⟨Ak, ck, rfl⟩ := hkc.shape
        (try clear c2); (try clear c6)
        have HP := Lib.hid (HP.out.only ho hg hg2)
        have HZ := Lib.hid (HZ.out.only ho (by omega))
        have HNL := Lib.hid hnl
        have hzn : wc.heap.size + 1 ≤ wn.heap.size := by have := ho.size; simpa using this
        have HPP := Lib.hid (HP.out.put HE0.out (b := wc.heap.size) (by omega) (.int .i64 n.k) (.int .i64 n.t) (.int .i64 n.r) (.string ⟨n.l.toArray⟩) (.int .i64 n.v) (.slice Ak n.kids.len ck))
        have HZP := Lib.hid (blk_put6 HZ.out rfl (.int .i64 n.k) (.int .i64 n.t) (.int .i64 n.r) (.string ⟨n.l.toArray⟩) (.int .i64 n.v) (.slice Ak n.kids.len ck))
        have HKC := Lib.hid (kid_put hkc (.int .i64 n.k) (.int .i64 n.t) (.int .i64 n.r) (.string ⟨n.l.toArray⟩) (.int .i64 n.v) (.slice Ak n.kids.len ck))
        clear hnl hkc ho HD
        have z0 : _ = some (Value.int .i64 0) := HZ.out.cell 0
        have y0 := HZ.out.frozen 0
        have z1 : _ = some (Value.int .i64 0) := HZ.out.cell 1
        have y1 := HZ.out.frozen 1
        have z2 : _ = some (Value.int .i64 0) := HZ.out.cell 2
        have y2 := HZ.out.frozen 2
        have z3 : _ = some (Value.string ⟨#[]⟩) := HZ.out.cell 3
        have y3 := HZ.out.frozen 3
        have z4 : _ = some (Value.int .i64 0) := HZ.out.cell 4
        have y4 := HZ.out.frozen 4
        have z5 : _ = some (Value.slice none 0 0) := HZ.out.cell 5
        have y5 := HZ.out.frozen 5
        cases hr : pOr s.size a (s.size + 1) L1 with
        | bad p =>
          rw [hr] at hmn
          have HO := Lib.hid hr
          have HBD := Lib.hid (BadR.heap (show BadR wn w1.heap.size p from hmn) (heap_put6 (b := wc.heap.size) (by omega) (.int .i64 n.k) (.int .i64 n.t) (.int .i64 n.r) (.string ⟨n.l.toArray⟩) (.int .i64 n.v) (.slice Ak n.kids.len ck)))
          have c6 := HBD.out
          unfold BadR at c6
          clear hmn hr
          go_wp2_with fail
          refine (wantR_bad HBD.out _ _).mono ?_
          rintro e wx ⟨rfl, hw⟩
          have HP : Hid (PIn w wx w1.heap.size) := Lib.hid (hw ▸ HPP.out)
          have HBN : Hid (BadR wx w1.heap.size p) := Lib.hid (hw ▸ HBD.out)
          clear hw c6 HBD HPP HZP HKC z0 z1 z2 z3 z4 z5 y0 y1 y2 y3 y4 y5
          have HBD := HBN
          have c6 := HBD.out
          unfold BadR at c6
          have HR := Lib.hid (parseC_bad ha hs (show pCond s.size a (s.size + 1) (toks 0 s.data.toList) = .bad p by rw [HLL.out]; rw [pCond_two, HF.out]; show Rs.go (pOr s.size a (s.size + 1) L1) _ = _; rw [HO.out]; rfl))
          have m0 : _ = some (Value.int .i64 0) := HP.out.b1.cell 0
          have m1 : _ = some (Value.int .i64 0) := HP.out.b1.cell 1
          have m2 : _ = some (Value.int .i64 0) := HP.out.b1.cell 2
          have m3 : _ = some (Value.int .i64 0) := HP.out.b1.cell 3
          have m4 : _ = some (Value.string ⟨#[]⟩) := HP.out.b1.cell 4
          have m5 : _ = some (Value.int .i64 0) := HP.out.b1.cell 5
          have m6 : _ = some (Value.slice none 0 0) := HP.out.b1.cell 6
          have z0 : _ = some (Value.int .i64 0) := HP.out.b0.cell 0
          have y0 := HP.out.b0.frozen 0
          have z1 : _ = some (Value.int .i64 0) := HP.out.b0.cell 1
          have y1 := HP.out.b0.frozen 1
          have z2 : _ = some (Value.int .i64 0) := HP.out.b0.cell 2
          have y2 := HP.out.b0.frozen 2
          have z3 : _ = some (Value.int .i64 0) := HP.out.b0.cell 3
          have y3 := HP.out.b0.frozen 3
          have z4 : _ = some (Value.string ⟨#[]⟩) := HP.out.b0.cell 4
          have y4 := HP.out.b0.frozen 4
          have z5 : _ = some (Value.int .i64 0) := HP.out.b0.cell 5
          have y5 := HP.out.b0.frozen 5
          have z6 : _ = some (Value.slice none 0 0) := HP.out.b0.cell 6
          have y6 := HP.out.b0.frozen 6
          go_wp2_with fail
          refine wp_region_held_drew (S := (fun y : World => y.cell? ⟨w.heap.size + 1, 0, none⟩ = some (Value.int .i64 0) ∧ y.cell? ⟨w.heap.size + 1, 1, none⟩ = some (Value.int .i64 0) ∧ y.cell? ⟨w.heap.size + 1, 2, none⟩ = some (Value.int .i64 0) ∧ y.cell? ⟨w.heap.size + 1, 3, none⟩ = some (Value.int .i64 0) ∧ y.cell? ⟨w.heap.size + 1, 4, none⟩ = some (Value.string ⟨#[]⟩) ∧ y.cell? ⟨w.heap.size + 1, 5, none⟩ = some (Value.int .i64 0) ∧ y.cell? ⟨w.heap.size + 1, 6, none⟩ = some (Value.slice none 0 0) ∧ y.cell? ⟨w1.heap.size, 6, none⟩ = some (.int .i64 (p : Nat)))) (by kernel_rfl) ⟨m0, m1, m2, m3, m4, m5, m6, c6⟩ (fun hHeld => ?_)
          refine wpAnyH_take (i := 0) (v := ?_) rfl (by kernel_rfl) (by kernel_rfl) (by kernel_rfl) (fun _ _ _ h => h) (Or.inl ⟨by kernel_rfl, ?_⟩) (by assumption) ?_
          rotate_left
          · intro x' hSx
            try dsimp only at hSx
            go_simp
            try with_reducible rfl
          try simp only [Act.put, List.setIfInBounds_toArray]
          refine wpAnyH_take (i := 1) (v := ?_) rfl (by kernel_rfl) (by kernel_rfl) (by kernel_rfl) (fun _ _ _ h => h) (Or.inl ⟨by kernel_rfl, ?_⟩) (by assumption) ?_
          rotate_left
          · intro x' hSx
            try dsimp only at hSx
            go_simp
            try with_reducible rfl
          try simp only [Act.put]
          refine wpAnyH_take (i := 2) (v := ?_) rfl (by kernel_rfl) (by kernel_rfl) (by kernel_rfl) (fun _ _ _ h => h) (Or.inl ⟨by kernel_rfl, ?_⟩) (by assumption) ?_
          rotate_left
          · intro x' hSx
            try dsimp only at hSx
            go_simp
            try with_reducible rfl
          try simp only [Act.put]
          refine wpAnyH_take (i := 3) (v := ?_) rfl (by kernel_rfl) (by kernel_rfl) (by kernel_rfl) (fun _ _ _ h => h) (Or.inl ⟨by kernel_rfl, ?_⟩) (by assumption) ?_
          rotate_left
          · intro x' hSx
            try dsimp only at hSx
            go_simp
            try with_reducible rfl
          try simp only [Act.put]
          refine wpAnyH_take (i := 4) (v := ?_) rfl (by kernel_rfl) (by kernel_rfl) (by kernel_rfl) (fun _ _ _ h => h) (Or.inl ⟨by kernel_rfl, ?_⟩) (by assumption) ?_
          rotate_left
          · intro x' hSx
            try dsimp only at hSx
            go_simp
            try with_reducible rfl
          try simp only [Act.put]
          refine wpAnyH_ready (rs := [5]) (by kernel_rfl) (by simp) ?_
          refine AllReadyH.cons rfl (fun K hK => ?_) AllReadyH.nil
          go_simp
          refine hK.out _ _ ⟨cell_put7 m0 (by omega) _ _ _ _ _ _ _, cell_put7 m1 (by omega) _ _ _ _ _ _ _, cell_put7 m2 (by omega) _ _ _ _ _ _ _, cell_put7 m3 (by omega) _ _ _ _ _ _ _, cell_put7 m4 (by omega) _ _ _ _ _ _ _, cell_put7 m5 (by omega) _ _ _ _ _ _ _, cell_put7 m6 (by omega) _ _ _ _ _ _ _, cell_put7 c6 (by omega) _ _ _ _ _ _ _⟩ (fun hS5 => ?_)
          clear hK K
          try simp only [Act.put, List.setIfInBounds_toArray, List.set_cons_zero, List.set_cons_succ]
          refine wpAnyH_ready (rs := [6]) (by kernel_rfl) (by simp) ?_
          refine AllReadyH.cons rfl (fun K hK => ?_) AllReadyH.nil
          go_simp
          refine hK.out _ _ hS5 (fun hS6 => ?_)
          clear hK K
          try simp only [Act.put, List.setIfInBounds_toArray, List.set_cons_zero, List.set_cons_succ]
          refine wpAnyH_ready (rs := [7]) (by kernel_rfl) (by simp) ?_
          refine AllReadyH.cons rfl (fun K hK => ?_) AllReadyH.nil
          go_simp
          refine hK.out _ _ hS6 (fun _ => ?_)
          clear hK K
          try simp only [Act.put, List.setIfInBounds_toArray, List.set_cons_zero, List.set_cons_succ]
          refine wpAnyH_done (by kernel_rfl) ?_ _
          go_wp2_with fail
          refine ret_condF rfl (b := w.heap.size) (blk_put7 HP.out.b0 rfl _ _ _ _ _ _ _).drew (by first | rfl | simp) (by first | rfl | simp) (by first | rfl | simp) rfl ?_
          exact PPost.mk HR.out (by simp [noNd]) (KidC.nil _ _) (below_put7 HP.out.below (Nat.le_refl _) _ _ _ _ _ _ _).drew
        | ok m L2 =>
          rw [hr] at hmn
          obtain ⟨hnm, hrd, hl2⟩ := hmn
          subst hnm
          have HO := Lib.hid hr
          have HD := Lib.hid (hrd.heap (heap_put6 (b := wc.heap.size) (by omega) (.int .i64 n.k) (.int .i64 n.t) (.int .i64 n.r) (.string ⟨n.l.toArray⟩) (.int .i64 n.v) (.slice Ak n.kids.len ck)))
          clear hrd hr
          have c2 := HD.out.blk.cell 2
          have c6 := HD.out.blk.cell 6
          have HP := HPP
          by_cases hX : hd L2 = [41]
          · have HX := Lib.hid hX
            clear hX
            go_wp2_with fail
            refine (wantR_yes HD.out [41] 3 rfl HX.out).mono ?_
            rintro e wy ⟨rfl, hrd, ho⟩
            have HZ := Lib.hid (HZP.out.only ho (by omega))
            clear HZP HPP
            have HKC := Lib.hid (kid_only HKC.out ho hgb)
            have hzy : wc.heap.size + 1 ≤ wy.heap.size := by have := ho.size; simp only [size_put6] at this; omega
            (try clear z0 z1 z2 z3 z4 z5 y0 y1 y2 y3 y4 y5)
            have HD := Lib.hid hrd
            clear hrd
            have HP := Lib.hid (HP.out.only ho hg hg2)
            clear ho
            (try clear c2); (try clear c6)
            have c2 := HD.out.blk.cell 2
            have c6 := HD.out.blk.cell 6
            by_cases hN : L2.tail = []
            · clear c2
              have HN := Lib.hid hN
              have c2 := HD.out.blk.cell 2
              rw [hN] at c2
              replace c2 : wy.cell? ⟨w1.heap.size, 2, none⟩ = some (.int .i64 0) := c2
              clear hN
              have HR := Lib.hid (parseC_ok ha hs (show pCond s.size a (s.size + 1) (toks 0 s.data.toList) = .ok (_, n) _ by rw [HLL.out]; rw [pCond_two, HF.out]; show Rs.go (pOr s.size a (s.size + 1) L1) _ = _; rw [HO.out]; show Rs.go (pTake s.size [41] L2) _ = _; rw [pTake, if_pos HX.out]; show Rs.go (pEnd L2.tail) _ = _; rw [HN.out]; rfl))
              have m0 : _ = some (Value.int .i64 0) := HP.out.b1.cell 0
              have m1 : _ = some (Value.int .i64 0) := HP.out.b1.cell 1
              have m2 : _ = some (Value.int .i64 0) := HP.out.b1.cell 2
              have m3 : _ = some (Value.int .i64 0) := HP.out.b1.cell 3
              have m4 : _ = some (Value.string ⟨#[]⟩) := HP.out.b1.cell 4
              have m5 : _ = some (Value.int .i64 0) := HP.out.b1.cell 5
              have m6 : _ = some (Value.slice none 0 0) := HP.out.b1.cell 6
              have z0 : _ = some (Value.int .i64 0) := HP.out.b0.cell 0
              have y0 := HP.out.b0.frozen 0
              have z1 : _ = some (Value.int .i64 0) := HP.out.b0.cell 1
              have y1 := HP.out.b0.frozen 1
              have z2 : _ = some (Value.int .i64 0) := HP.out.b0.cell 2
              have y2 := HP.out.b0.frozen 2
              have z3 : _ = some (Value.int .i64 0) := HP.out.b0.cell 3
              have y3 := HP.out.b0.frozen 3
              have z4 : _ = some (Value.string ⟨#[]⟩) := HP.out.b0.cell 4
              have y4 := HP.out.b0.frozen 4
              have z5 : _ = some (Value.int .i64 0) := HP.out.b0.cell 5
              have y5 := HP.out.b0.frozen 5
              have z6 : _ = some (Value.slice none 0 0) := HP.out.b0.cell 6
              have y6 := HP.out.b0.frozen 6
              have x0 : _ = some (Value.int .i64 n.k) := HZ.out.cell 0
              have x1 : _ = some (Value.int .i64 n.t) := HZ.out.cell 1
              have x2 : _ = some (Value.int .i64 n.r) := HZ.out.cell 2
              have x3 : _ = some (Value.string ⟨n.l.toArray⟩) := HZ.out.cell 3
              have x4 : _ = some (Value.int .i64 n.v) := HZ.out.cell 4
              have x5 : _ = some (Value.slice Ak n.kids.len ck) := HZ.out.cell 5
              have HB2 := Lib.hid (below_alloc HP.out.below (.cells #[.int .i64 q', .int .i64 n.k, .int .i64 n.t, .int .i64 n.r, .string ⟨n.l.toArray⟩, .int .i64 n.v, .slice Ak n.kids.len ck] 28 (0, 0)))
              have HSL := Lib.hid (KidC.sl (hi := (wy.alloc (.cells #[.int .i64 q', .int .i64 n.k, .int .i64 n.t, .int .i64 n.r, .string ⟨n.l.toArray⟩, .int .i64 n.v, .slice Ak n.kids.len ck] 28 (0, 0))).heap.size) (fun i hi => by have := hi.2; simp; omega) (HKC.out.keep (fun i hi => Below.heap_alloc wy (.cells #[.int .i64 q', .int .i64 n.k, .int .i64 n.t, .int .i64 n.r, .string ⟨n.l.toArray⟩, .int .i64 n.v, .slice Ak n.kids.len ck] 28 (0, 0)) i hi.2)))
              have HL := Lib.hid (show n.l.length ≤ 9223372036854775807 by have := HNL.out; omega)
              obtain ⟨er, her⟩ : ∃ er, checkC a q' n.k n.t n.r n.l n.v n.kids = er := ⟨_, rfl⟩
              have HER := Lib.hid her
              clear her
              go_wp2_with fail
              refine (checkR a q' n.k n.t n.r n.l n.v _ n.kids _ HL.out HSL.out).mono ?_
              rw [HER.out]
              rintro e w6 ⟨rfl, hb6⟩
              have HB6 := Lib.hid (below_trans HB2.out hb6)
              have HC6 := Lib.hid ((Blk.new wy 28 #[.int .i64 q', .int .i64 n.k, .int .i64 n.t, .int .i64 n.r, .string ⟨n.l.toArray⟩, .int .i64 n.v, .slice Ak n.kids.len ck]).go hb6)
              have HZ0 := Lib.hid ((HP.out.b0.alloc (.cells #[.int .i64 q', .int .i64 n.k, .int .i64 n.t, .int .i64 n.r, .string ⟨n.l.toArray⟩, .int .i64 n.v, .slice Ak n.kids.len ck] 28 (0, 0))).go hb6)
              have HZ1 := Lib.hid ((HP.out.b1.alloc (.cells #[.int .i64 q', .int .i64 n.k, .int .i64 n.t, .int .i64 n.r, .string ⟨n.l.toArray⟩, .int .i64 n.v, .slice Ak n.kids.len ck] 28 (0, 0))).go hb6)
              have HK6 := Lib.hid ((HKC.out.keep (fun i hi => Below.heap_alloc wy (.cells #[.int .i64 q', .int .i64 n.k, .int .i64 n.t, .int .i64 n.r, .string ⟨n.l.toArray⟩, .int .i64 n.v, .slice Ak n.kids.len ck] 28 (0, 0)) i hi.2)).keep (fun i hi => hb6.block i (by have := hi.2; simp; omega)))
              have hz6 : wy.heap.size + 1 ≤ w6.heap.size := by have := hb6.size; simpa using this
              clear hb6 c2 c6 m0 z0 y0 m1 z1 y1 m2 z2 y2 m3 z3 y3 m4 z4 y4 m5 z5 y5 m6 z6 y6 x0 x1 x2 x3 x4 x5
              have z0 : _ = some (Value.int .i64 0) := HZ0.out.cell 0
              have y0 := HZ0.out.frozen 0
              have z1 : _ = some (Value.int .i64 0) := HZ0.out.cell 1
              have y1 := HZ0.out.frozen 1
              have z2 : _ = some (Value.int .i64 0) := HZ0.out.cell 2
              have y2 := HZ0.out.frozen 2
              have z3 : _ = some (Value.int .i64 0) := HZ0.out.cell 3
              have y3 := HZ0.out.frozen 3
              have z4 : _ = some (Value.string ⟨#[]⟩) := HZ0.out.cell 4
              have y4 := HZ0.out.frozen 4
              have z5 : _ = some (Value.int .i64 0) := HZ0.out.cell 5
              have y5 := HZ0.out.frozen 5
              have z6 : _ = some (Value.slice none 0 0) := HZ0.out.cell 6
              have y6 := HZ0.out.frozen 6
              by_cases he : er = 0
              · subst he
                have HR0 := Lib.hid (HR.out.trans (if_pos HER.out))
                have x0 : _ = some (Value.int .i64 q') := HC6.out.cell 0
                have x1 : _ = some (Value.int .i64 n.k) := HC6.out.cell 1
                have x2 : _ = some (Value.int .i64 n.t) := HC6.out.cell 2
                have x3 : _ = some (Value.int .i64 n.r) := HC6.out.cell 3
                have x4 : _ = some (Value.string ⟨n.l.toArray⟩) := HC6.out.cell 4
                have x5 : _ = some (Value.int .i64 n.v) := HC6.out.cell 5
                have x6 : _ = some (Value.slice Ak n.kids.len ck) := HC6.out.cell 6
                go_wp2_with fail
                refine ret_condF rfl (b := w.heap.size) (blk_put7 HZ0.out rfl _ _ _ _ _ _ _) rfl rfl rfl rfl ?_
                refine PPost.mk (p := 0) HR0.out HNL.out ((HK6.out.keep (fun i hi => heap_put7 (by have := hi.1; omega) _ _ _ _ _ _ _)).mono (fun i hi => ?_)) (below_put7 HB6.out (Nat.le_refl _) _ _ _ _ _ _ _)
                have h1 := hi.1
                have h2 := hi.2
                simp only [size_set]
                exact ⟨by omega, by omega⟩
              · have he1 : (er != 0) = true := by simpa using he
                have HR0 := Lib.hid (HR.out.trans ((if_neg (by rw [HER.out]; exact he)).trans (by rw [HER.out])))
                clear he
                have m0 : _ = some (Value.int .i64 0) := HZ1.out.cell 0
                have m1 : _ = some (Value.int .i64 0) := HZ1.out.cell 1
                have m2 : _ = some (Value.int .i64 0) := HZ1.out.cell 2
                have m3 : _ = some (Value.int .i64 0) := HZ1.out.cell 3
                have m4 : _ = some (Value.string ⟨#[]⟩) := HZ1.out.cell 4
                have m5 : _ = some (Value.int .i64 0) := HZ1.out.cell 5
                have m6 : _ = some (Value.slice none 0 0) := HZ1.out.cell 6
                go_wp2_with fail
                refine ret_condF rfl (b := w.heap.size) (blk_put7 HZ0.out rfl _ _ _ _ _ _ _) rfl rfl rfl rfl ?_
                exact PPost.mk (p := 0) HR0.out (by simp [noNd]) (KidC.nil _ _) (below_put7 HB6.out (Nat.le_refl _) _ _ _ _ _ _ _)
            · have hk : (kindT (hd L2.tail) != 0) = true := by simpa using hd_kind HD.out.txt hN
              have HN := Lib.hid hN
              clear hN
              go_wp2_with fail
              refine (wrongR HD.out).mono ?_
              rintro e wz ⟨rfl, hbd, ho⟩
              clear hk
              have HBD := Lib.hid hbd
              clear hbd
              have HP := Lib.hid (HP.out.only ho hg hg2)
              clear ho
              (try clear c2); (try clear c6)
              have c6 := HBD.out
              unfold BadR at c6
              have HR := Lib.hid (parseC_bad ha hs (show pCond s.size a (s.size + 1) (toks 0 s.data.toList) = .bad (ps s.size L2.tail) by rw [HLL.out]; rw [pCond_two, HF.out]; show Rs.go (pOr s.size a (s.size + 1) L1) _ = _; rw [HO.out]; show Rs.go (pTake s.size [41] L2) _ = _; rw [pTake, if_pos HX.out]; show Rs.go (pEnd L2.tail) _ = _; exact pEnd_bad HN.out))
              have m0 : _ = some (Value.int .i64 0) := HP.out.b1.cell 0
              have m1 : _ = some (Value.int .i64 0) := HP.out.b1.cell 1
              have m2 : _ = some (Value.int .i64 0) := HP.out.b1.cell 2
              have m3 : _ = some (Value.int .i64 0) := HP.out.b1.cell 3
              have m4 : _ = some (Value.string ⟨#[]⟩) := HP.out.b1.cell 4
              have m5 : _ = some (Value.int .i64 0) := HP.out.b1.cell 5
              have m6 : _ = some (Value.slice none 0 0) := HP.out.b1.cell 6
              have z0 : _ = some (Value.int .i64 0) := HP.out.b0.cell 0
              have y0 := HP.out.b0.frozen 0
              have z1 : _ = some (Value.int .i64 0) := HP.out.b0.cell 1
              have y1 := HP.out.b0.frozen 1
              have z2 : _ = some (Value.int .i64 0) := HP.out.b0.cell 2
              have y2 := HP.out.b0.frozen 2
              have z3 : _ = some (Value.int .i64 0) := HP.out.b0.cell 3
              have y3 := HP.out.b0.frozen 3
              have z4 : _ = some (Value.string ⟨#[]⟩) := HP.out.b0.cell 4
              have y4 := HP.out.b0.frozen 4
              have z5 : _ = some (Value.int .i64 0) := HP.out.b0.cell 5
              have y5 := HP.out.b0.frozen 5
              have z6 : _ = some (Value.slice none 0 0) := HP.out.b0.cell 6
              have y6 := HP.out.b0.frozen 6
              go_wp2_with fail
              refine wp_region_held_drew (S := (fun y : World => y.cell? ⟨w.heap.size + 1, 0, none⟩ = some (Value.int .i64 0) ∧ y.cell? ⟨w.heap.size + 1, 1, none⟩ = some (Value.int .i64 0) ∧ y.cell? ⟨w.heap.size + 1, 2, none⟩ = some (Value.int .i64 0) ∧ y.cell? ⟨w.heap.size + 1, 3, none⟩ = some (Value.int .i64 0) ∧ y.cell? ⟨w.heap.size + 1, 4, none⟩ = some (Value.string ⟨#[]⟩) ∧ y.cell? ⟨w.heap.size + 1, 5, none⟩ = some (Value.int .i64 0) ∧ y.cell? ⟨w.heap.size + 1, 6, none⟩ = some (Value.slice none 0 0) ∧ y.cell? ⟨w1.heap.size, 6, none⟩ = some (.int .i64 ((ps s.size L2.tail) : Nat)))) (by kernel_rfl) ⟨m0, m1, m2, m3, m4, m5, m6, c6⟩ (fun hHeld => ?_)
              refine wpAnyH_take (i := 0) (v := ?_) rfl (by kernel_rfl) (by kernel_rfl) (by kernel_rfl) (fun _ _ _ h => h) (Or.inl ⟨by kernel_rfl, ?_⟩) (by assumption) ?_
              rotate_left
              · intro x' hSx
                try dsimp only at hSx
                go_simp
                try with_reducible rfl
              try simp only [Act.put, List.setIfInBounds_toArray]
              refine wpAnyH_take (i := 1) (v := ?_) rfl (by kernel_rfl) (by kernel_rfl) (by kernel_rfl) (fun _ _ _ h => h) (Or.inl ⟨by kernel_rfl, ?_⟩) (by assumption) ?_
              rotate_left
              · intro x' hSx
                try dsimp only at hSx
                go_simp
                try with_reducible rfl
              try simp only [Act.put]
              refine wpAnyH_take (i := 2) (v := ?_) rfl (by kernel_rfl) (by kernel_rfl) (by kernel_rfl) (fun _ _ _ h => h) (Or.inl ⟨by kernel_rfl, ?_⟩) (by assumption) ?_
              rotate_left
              · intro x' hSx
                try dsimp only at hSx
                go_simp
                try with_reducible rfl
              try simp only [Act.put]
              refine wpAnyH_take (i := 3) (v := ?_) rfl (by kernel_rfl) (by kernel_rfl) (by kernel_rfl) (fun _ _ _ h => h) (Or.inl ⟨by kernel_rfl, ?_⟩) (by assumption) ?_
              rotate_left
              · intro x' hSx
                try dsimp only at hSx
                go_simp
                try with_reducible rfl
              try simp only [Act.put]
              refine wpAnyH_take (i := 4) (v := ?_) rfl (by kernel_rfl) (by kernel_rfl) (by kernel_rfl) (fun _ _ _ h => h) (Or.inl ⟨by kernel_rfl, ?_⟩) (by assumption) ?_
              rotate_left
              · intro x' hSx
                try dsimp only at hSx
                go_simp
                try with_reducible rfl
              try simp only [Act.put]
              refine wpAnyH_ready (rs := [5]) (by kernel_rfl) (by simp) ?_
              refine AllReadyH.cons rfl (fun K hK => ?_) AllReadyH.nil
              go_simp
              refine hK.out _ _ ⟨cell_put7 m0 (by omega) _ _ _ _ _ _ _, cell_put7 m1 (by omega) _ _ _ _ _ _ _, cell_put7 m2 (by omega) _ _ _ _ _ _ _, cell_put7 m3 (by omega) _ _ _ _ _ _ _, cell_put7 m4 (by omega) _ _ _ _ _ _ _, cell_put7 m5 (by omega) _ _ _ _ _ _ _, cell_put7 m6 (by omega) _ _ _ _ _ _ _, cell_put7 c6 (by omega) _ _ _ _ _ _ _⟩ (fun hS5 => ?_)
              clear hK K
              try simp only [Act.put, List.setIfInBounds_toArray, List.set_cons_zero, List.set_cons_succ]
              refine wpAnyH_ready (rs := [6]) (by kernel_rfl) (by simp) ?_
              refine AllReadyH.cons rfl (fun K hK => ?_) AllReadyH.nil
              go_simp
              refine hK.out _ _ hS5 (fun hS6 => ?_)
              clear hK K
              try simp only [Act.put, List.setIfInBounds_toArray, List.set_cons_zero, List.set_cons_succ]
              refine wpAnyH_ready (rs := [7]) (by kernel_rfl) (by simp) ?_
              refine AllReadyH.cons rfl (fun K hK => ?_) AllReadyH.nil
              go_simp
              refine hK.out _ _ hS6 (fun _ => ?_)
              clear hK K
              try simp only [Act.put, List.setIfInBounds_toArray, List.set_cons_zero, List.set_cons_succ]
              refine wpAnyH_done (by kernel_rfl) ?_ _
              go_wp2_with fail
              refine ret_condF rfl (b := w.heap.size) (blk_put7 HP.out.b0 rfl _ _ _ _ _ _ _).drew (by first | rfl | simp) (by first | rfl | simp) (by first | rfl | simp) rfl ?_
              exact PPost.mk HR.out (by simp [noNd]) (KidC.nil _ _) (below_put7 HP.out.below (Nat.le_refl _) _ _ _ _ _ _ _).drew
          · have HX := Lib.hid hX
            clear hX
            go_wp2_with fail
            refine (wantR_no HD.out [41] 3 rfl HX.out).mono ?_
            rintro e wy ⟨rfl, hbd, ho⟩
            clear HZP HPP HKC
            (try clear z0 z1 z2 z3 z4 z5 y0 y1 y2 y3 y4 y5)
            have HBD := Lib.hid hbd
            clear hbd
            have HP := Lib.hid (HP.out.only ho hg hg2)
            clear ho
            (try clear c2); (try clear c6)
            have c6 := HBD.out
            unfold BadR at c6
            have HR := Lib.hid (parseC_bad ha hs (show pCond s.size a (s.size + 1) (toks 0 s.data.toList) = .bad (ps s.size L2) by rw [HLL.out]; rw [pCond_two, HF.out]; show Rs.go (pOr s.size a (s.size + 1) L1) _ = _; rw [HO.out]; show Rs.go (pTake s.size [41] L2) _ = _; rw [pTake, if_neg HX.out]; rfl))
            have m0 : _ = some (Value.int .i64 0) := HP.out.b1.cell 0
            have m1 : _ = some (Value.int .i64 0) := HP.out.b1.cell 1
            have m2 : _ = some (Value.int .i64 0) := HP.out.b1.cell 2
            have m3 : _ = some (Value.int .i64 0) := HP.out.b1.cell 3
            have m4 : _ = some (Value.string ⟨#[]⟩) := HP.out.b1.cell 4
            have m5 : _ = some (Value.int .i64 0) := HP.out.b1.cell 5
            have m6 : _ = some (Value.slice none 0 0) := HP.out.b1.cell 6
            have z0 : _ = some (Value.int .i64 0) := HP.out.b0.cell 0
            have y0 := HP.out.b0.frozen 0
            have z1 : _ = some (Value.int .i64 0) := HP.out.b0.cell 1
            have y1 := HP.out.b0.frozen 1
            have z2 : _ = some (Value.int .i64 0) := HP.out.b0.cell 2
            have y2 := HP.out.b0.frozen 2
            have z3 : _ = some (Value.int .i64 0) := HP.out.b0.cell 3
            have y3 := HP.out.b0.frozen 3
            have z4 : _ = some (Value.string ⟨#[]⟩) := HP.out.b0.cell 4
            have y4 := HP.out.b0.frozen 4
            have z5 : _ = some (Value.int .i64 0) := HP.out.b0.cell 5
            have y5 := HP.out.b0.frozen 5
            have z6 : _ = some (Value.slice none 0 0) := HP.out.b0.cell 6
            have y6 := HP.out.b0.frozen 6
            go_wp2_with fail
            refine wp_region_held_drew (S := (fun y : World => y.cell? ⟨w.heap.size + 1, 0, none⟩ = some (Value.int .i64 0) ∧ y.cell? ⟨w.heap.size + 1, 1, none⟩ = some (Value.int .i64 0) ∧ y.cell? ⟨w.heap.size + 1, 2, none⟩ = some (Value.int .i64 0) ∧ y.cell? ⟨w.heap.size + 1, 3, none⟩ = some (Value.int .i64 0) ∧ y.cell? ⟨w.heap.size + 1, 4, none⟩ = some (Value.string ⟨#[]⟩) ∧ y.cell? ⟨w.heap.size + 1, 5, none⟩ = some (Value.int .i64 0) ∧ y.cell? ⟨w.heap.size + 1, 6, none⟩ = some (Value.slice none 0 0) ∧ y.cell? ⟨w1.heap.size, 6, none⟩ = some (.int .i64 ((ps s.size L2) : Nat)))) (by kernel_rfl) ⟨m0, m1, m2, m3, m4, m5, m6, c6⟩ (fun hHeld => ?_)
            refine wpAnyH_take (i := 0) (v := ?_) rfl (by kernel_rfl) (by kernel_rfl) (by kernel_rfl) (fun _ _ _ h => h) (Or.inl ⟨by kernel_rfl, ?_⟩) (by assumption) ?_
            rotate_left
            · intro x' hSx
              try dsimp only at hSx
              go_simp
              try with_reducible rfl
            try simp only [Act.put, List.setIfInBounds_toArray]
            refine wpAnyH_take (i := 1) (v := ?_) rfl (by kernel_rfl) (by kernel_rfl) (by kernel_rfl) (fun _ _ _ h => h) (Or.inl ⟨by kernel_rfl, ?_⟩) (by assumption) ?_
            rotate_left
            · intro x' hSx
              try dsimp only at hSx
              go_simp
              try with_reducible rfl
            try simp only [Act.put]
            refine wpAnyH_take (i := 2) (v := ?_) rfl (by kernel_rfl) (by kernel_rfl) (by kernel_rfl) (fun _ _ _ h => h) (Or.inl ⟨by kernel_rfl, ?_⟩) (by assumption) ?_
            rotate_left
            · intro x' hSx
              try dsimp only at hSx
              go_simp
              try with_reducible rfl
            try simp only [Act.put]
            refine wpAnyH_take (i := 3) (v := ?_) rfl (by kernel_rfl) (by kernel_rfl) (by kernel_rfl) (fun _ _ _ h => h) (Or.inl ⟨by kernel_rfl, ?_⟩) (by assumption) ?_
            rotate_left
            · intro x' hSx
              try dsimp only at hSx
              go_simp
              try with_reducible rfl
            try simp only [Act.put]
            refine wpAnyH_take (i := 4) (v := ?_) rfl (by kernel_rfl) (by kernel_rfl) (by kernel_rfl) (fun _ _ _ h => h) (Or.inl ⟨by kernel_rfl, ?_⟩) (by assumption) ?_
            rotate_left
            · intro x' hSx
              try dsimp only at hSx
              go_simp
              try with_reducible rfl
            try simp only [Act.put]
            refine wpAnyH_ready (rs := [5]) (by kernel_rfl) (by simp) ?_
            refine AllReadyH.cons rfl (fun K hK => ?_) AllReadyH.nil
            go_simp
            refine hK.out _ _ ⟨cell_put7 m0 (by omega) _ _ _ _ _ _ _, cell_put7 m1 (by omega) _ _ _ _ _ _ _, cell_put7 m2 (by omega) _ _ _ _ _ _ _, cell_put7 m3 (by omega) _ _ _ _ _ _ _, cell_put7 m4 (by omega) _ _ _ _ _ _ _, cell_put7 m5 (by omega) _ _ _ _ _ _ _, cell_put7 m6 (by omega) _ _ _ _ _ _ _, cell_put7 c6 (by omega) _ _ _ _ _ _ _⟩ (fun hS5 => ?_)
            clear hK K
            try simp only [Act.put, List.setIfInBounds_toArray, List.set_cons_zero, List.set_cons_succ]
            refine wpAnyH_ready (rs := [6]) (by kernel_rfl) (by simp) ?_
            refine AllReadyH.cons rfl (fun K hK => ?_) AllReadyH.nil
            go_simp
            refine hK.out _ _ hS5 (fun hS6 => ?_)
            clear hK K
            try simp only [Act.put, List.setIfInBounds_toArray, List.set_cons_zero, List.set_cons_succ]
            refine wpAnyH_ready (rs := [7]) (by kernel_rfl) (by simp) ?_
            refine AllReadyH.cons rfl (fun K hK => ?_) AllReadyH.nil
            go_simp
            refine hK.out _ _ hS6 (fun _ => ?_)
            clear hK K
            try simp only [Act.put, List.setIfInBounds_toArray, List.set_cons_zero, List.set_cons_succ]
            refine wpAnyH_done (by kernel_rfl) ?_ _
            go_wp2_with fail
            refine ret_condF rfl (b := w.heap.size) (blk_put7 HP.out.b0 rfl _ _ _ _ _ _ _).drew (by first | rfl | simp) (by first | rfl | simp) (by first | rfl | simp) rfl ?_
            exact PPost.mk HR.out (by simp [noNd]) (KidC.nil _ _) (below_put7 HP.out.below (Nat.le_refl _) _ _ _ _ _ _ _).drew
/-- The reference's Parse answers what the plain parser does. -/
theorem parseR (hs : s.size ≤ 9223372036854775807) (hE : Env w) : Calls Tryz.prog 18 #[.int .i64 a, .string s] w (PPost a s.data.toList w) := by
  cases ha : archB a with
  | false => exact parseR_arch ha
  | true =>
    by_cases h : s.size ≤ 262144
    · exact parseR_go ha h hE
    · exact parseR_long ha (by omega) hs
end

/-- What lies in memory once all three conditions are made. -/
structure ParSt (w : World) (S1 S2 S3 : Nat → Prop) (q1 : Int) (n1 : Nd) (kv1 kv2 kv3 : Value) (ba bb bw : Nat) : Prop where
  k1 : KidC w S1 kv1 n1.kids
  k2 : KidC w S2 kv2 n1.kids
  k3 : KidC w S3 kv3 n1.kids
  xa : Blk w ba 28 #[.int .i64 q1, .int .i64 n1.k, .int .i64 n1.t, .int .i64 n1.r, .string ⟨n1.l.toArray⟩, .int .i64 n1.v, kv1]
  xb : Blk w bb 28 #[.int .i64 q1, .int .i64 n1.k, .int .i64 n1.t, .int .i64 n1.r, .string ⟨n1.l.toArray⟩, .int .i64 n1.v, kv2]
  xw : Blk w bw 28 #[.int .i64 q1, .int .i64 n1.k, .int .i64 n1.t, .int .i64 n1.r, .string ⟨n1.l.toArray⟩, .int .i64 n1.v, kv3]
  env : Env w
  s1 : ∀ b, S1 b → b < w.heap.size
  s2 : ∀ b, S2 b → b < w.heap.size
  s3 : ∀ b, S3 b → b < w.heap.size
theorem ParSt.go {w w' : World} {S1 S2 S3 : Nat → Prop} {q1 : Int} {n1 : Nd} {kv1 kv2 kv3 : Value} {ba bb bw : Nat}
    (h : ParSt w S1 S2 S3 q1 n1 kv1 kv2 kv3 ba bb bw) (hb : Below w.heap.size w w') : ParSt w' S1 S2 S3 q1 n1 kv1 kv2 kv3 ba bb bw :=
  ⟨h.k1.keep (fun b hS => hb.block b (h.s1 b hS)), h.k2.keep (fun b hS => hb.block b (h.s2 b hS)), h.k3.keep (fun b hS => hb.block b (h.s3 b hS)),
    h.xa.go hb, h.xb.go hb, h.xw.go hb, h.env.mono hb, fun b hS => Nat.lt_of_lt_of_le (h.s1 b hS) hb.size, fun b hS => Nat.lt_of_lt_of_le (h.s2 b hS) hb.size, fun b hS => Nat.lt_of_lt_of_le (h.s3 b hS) hb.size⟩
/-- What stays behind Spoil. -/
structure ParEnd (w : World) (S2 S3 : Nat → Prop) (q1 : Int) (n1 : Nd) (kv2 kv3 : Value) (bb bw : Nat) : Prop where
  k2 : KidC w S2 kv2 n1.kids
  k3 : KidC w S3 kv3 n1.kids
  xb : Blk w bb 28 #[.int .i64 q1, .int .i64 n1.k, .int .i64 n1.t, .int .i64 n1.r, .string ⟨n1.l.toArray⟩, .int .i64 n1.v, kv2]
  xw : Blk w bw 28 #[.int .i64 q1, .int .i64 n1.k, .int .i64 n1.t, .int .i64 n1.r, .string ⟨n1.l.toArray⟩, .int .i64 n1.v, kv3]
  s2 : ∀ b, S2 b → b < w.heap.size
  s3 : ∀ b, S3 b → b < w.heap.size
theorem ParEnd.of {w : World} {S1 S2 S3 : Nat → Prop} {q1 : Int} {n1 : Nd} {kv1 kv2 kv3 : Value} {ba bb bw : Nat}
    (h : ParSt w S1 S2 S3 q1 n1 kv1 kv2 kv3 ba bb bw) : ParEnd w S2 S3 q1 n1 kv2 kv3 bb bw := ⟨h.k2, h.k3, h.xb, h.xw, h.s2, h.s3⟩
theorem ParEnd.keep {w w' : World} {S2 S3 : Nat → Prop} {q1 : Int} {n1 : Nd} {kv2 kv3 : Value} {bb bw : Nat} (h : ParEnd w S2 S3 q1 n1 kv2 kv3 bb bw) (hk : ∀ b, (S2 b ∨ S3 b ∨ b = bb ∨ b = bw) → w'.heap[b]? = w.heap[b]?) (hz : w.heap.size ≤ w'.heap.size) :
    ParEnd w' S2 S3 q1 n1 kv2 kv3 bb bw :=
  ⟨h.k2.keep (fun b hS => hk b (.inl hS)), h.k3.keep (fun b hS => hk b (.inr (.inl hS))), (hk bb (.inr (.inr (.inl rfl)))).trans h.xb, (hk bw (.inr (.inr (.inr rfl)))).trans h.xw, fun b hS => Nat.lt_of_lt_of_le (h.s2 b hS) hz, fun b hS => Nat.lt_of_lt_of_le (h.s3 b hS) hz⟩
theorem ParEnd.go {w w' : World} {S2 S3 : Nat → Prop} {q1 : Int} {n1 : Nd} {kv2 kv3 : Value} {bb bw : Nat} (h : ParEnd w S2 S3 q1 n1 kv2 kv3 bb bw) (hb : Below w.heap.size w w') : ParEnd w' S2 S3 q1 n1 kv2 kv3 bb bw :=
  h.keep (fun b hS => hb.block b (by
    rcases hS with h1 | h1 | h1 | h1
    · exact h.s2 b h1
    · exact h.s3 b h1
    · rw [h1]; exact h.xb.lt
    · rw [h1]; exact h.xw.lt)) hb.size
set_option maxHeartbeats 8000000 in
set_option maxRecDepth 100000 in
theorem walkCParses (a : Int) (s : ByteArray) (hs : s.size ≤ 9223372036854775807) (w : World) (hE : Env w) :
    Calls Tryz.prog 4 #[.int .i64 a, .string s] w fun e w' => e = .returned (.bool true) ∧ Below w.heap.size w w' := by
  have HE0 := Lib.hid hE
  have HS := Lib.hid hs
  obtain ⟨P, hP⟩ : ∃ P, parseC a s.data.toList = P := ⟨_, rfl⟩
  obtain ⟨⟨q1, n1⟩, E, at1⟩ := P
  have HR := Lib.hid hP
  clear hE hs hP
  go_enter Tryz.func4, Tryz.ntmps4
  go_wp2_with fail
  refine (parseP HS.out HE0.out).mono ?_
  unfold PPost
  rw [HR.out]
  rintro e w3 ⟨kv1, rfl, hnl, hk1, hb3⟩
  obtain ⟨A1, cp1, rfl⟩ := hk1.shape
  have HNL := Lib.hid hnl
  have HK1 := Lib.hid hk1
  have HB3 := Lib.hid hb3
  have hz3 := hb3.size
  have hw4 := Lib.hid (alloc_b w3 (.cells #[.int .i64 q1, .int .i64 n1.k, .int .i64 n1.t, .int .i64 n1.r, .string ⟨n1.l.toArray⟩, .int .i64 n1.v, .slice A1 n1.kids.len cp1] 28 (0, 0)))
  have HE3 := Lib.hid (HE0.out.mono (below_alloc hb3 (.cells #[.int .i64 q1, .int .i64 n1.k, .int .i64 n1.t, .int .i64 n1.r, .string ⟨n1.l.toArray⟩, .int .i64 n1.v, .slice A1 n1.kids.len cp1] 28 (0, 0))))
  clear hnl hk1 hb3
  go_wp2_with fail
  refine (parseP HS.out HE3.out).mono ?_
  unfold PPost
  rw [HR.out]
  rintro e w4 ⟨kv2, rfl, _, hk2, hb4⟩
  obtain ⟨A2, cp2, rfl⟩ := hk2.shape
  have HK2 := Lib.hid hk2
  have HB4 := Lib.hid hb4
  have hz4 : w3.heap.size + 1 ≤ w4.heap.size := by have := hb4.size; simpa using this
  have hbt : Below w.heap.size w (w4.alloc (.cells #[.int .i64 q1, .int .i64 n1.k, .int .i64 n1.t, .int .i64 n1.r, .string ⟨n1.l.toArray⟩, .int .i64 n1.v, .slice A2 n1.kids.len cp2] 28 (0, 0))) := below_alloc (below_trans HB3.out (below_trans hw4.out hb4)) _
  have HBT := Lib.hid hbt
  have HE4 := Lib.hid (HE0.out.mono hbt)
  clear hk2 hb4 hbt
  go_wp2_with fail
  refine (parseR HS.out HE4.out).mono ?_
  unfold PPost
  rw [HR.out]
  rintro e w5 ⟨kv3, rfl, _, hk3, hb5⟩
  obtain ⟨A3, cp3, rfl⟩ := hk3.shape
  have hz5 : w4.heap.size + 1 ≤ w5.heap.size := by have := hb5.size; simpa using this
  have hbx := below_trans HBT.out (below_alloc hb5 (.cells #[.int .i64 q1, .int .i64 n1.k, .int .i64 n1.t, .int .i64 n1.r, .string ⟨n1.l.toArray⟩, .int .i64 n1.v, .slice A3 n1.kids.len cp3] 28 (0, 0)))
  have hq3 : Below w3.heap.size w3 (w5.alloc (.cells #[.int .i64 q1, .int .i64 n1.k, .int .i64 n1.t, .int .i64 n1.r, .string ⟨n1.l.toArray⟩, .int .i64 n1.v, .slice A3 n1.kids.len cp3] 28 (0, 0))) := below_trans (alloc_b w3 (.cells #[.int .i64 q1, .int .i64 n1.k, .int .i64 n1.t, .int .i64 n1.r, .string ⟨n1.l.toArray⟩, .int .i64 n1.v, .slice A1 n1.kids.len cp1] 28 (0, 0))) (below_trans HB4.out (below_trans (alloc_b w4 (.cells #[.int .i64 q1, .int .i64 n1.k, .int .i64 n1.t, .int .i64 n1.r, .string ⟨n1.l.toArray⟩, .int .i64 n1.v, .slice A2 n1.kids.len cp2] 28 (0, 0))) (below_alloc hb5 (.cells #[.int .i64 q1, .int .i64 n1.k, .int .i64 n1.t, .int .i64 n1.r, .string ⟨n1.l.toArray⟩, .int .i64 n1.v, .slice A3 n1.kids.len cp3] 28 (0, 0)))))
  have hq4 : Below w4.heap.size w4 (w5.alloc (.cells #[.int .i64 q1, .int .i64 n1.k, .int .i64 n1.t, .int .i64 n1.r, .string ⟨n1.l.toArray⟩, .int .i64 n1.v, .slice A3 n1.kids.len cp3] 28 (0, 0))) := below_trans (alloc_b w4 (.cells #[.int .i64 q1, .int .i64 n1.k, .int .i64 n1.t, .int .i64 n1.r, .string ⟨n1.l.toArray⟩, .int .i64 n1.v, .slice A2 n1.kids.len cp2] 28 (0, 0))) (below_alloc hb5 (.cells #[.int .i64 q1, .int .i64 n1.k, .int .i64 n1.t, .int .i64 n1.r, .string ⟨n1.l.toArray⟩, .int .i64 n1.v, .slice A3 n1.kids.len cp3] 28 (0, 0)))
  have hqs : (w5.alloc (.cells #[.int .i64 q1, .int .i64 n1.k, .int .i64 n1.t, .int .i64 n1.r, .string ⟨n1.l.toArray⟩, .int .i64 n1.v, .slice A3 n1.kids.len cp3] 28 (0, 0))).heap.size = w5.heap.size + 1 := by simp
  have HQ := Lib.hid (show ParSt (w5.alloc (.cells #[.int .i64 q1, .int .i64 n1.k, .int .i64 n1.t, .int .i64 n1.r, .string ⟨n1.l.toArray⟩, .int .i64 n1.v, .slice A3 n1.kids.len cp3] 28 (0, 0))) (fun b => w.heap.size ≤ b ∧ b < w3.heap.size) (fun b => w3.heap.size + 1 ≤ b ∧ b < w4.heap.size) (fun b => w4.heap.size + 1 ≤ b ∧ b < w5.heap.size) q1 n1 (.slice A1 n1.kids.len cp1) (.slice A2 n1.kids.len cp2) (.slice A3 n1.kids.len cp3) w3.heap.size w4.heap.size w5.heap.size from
    { k1 := HK1.out.keep (fun b hS => hq3.block b hS.2)
      k2 := (HK2.out.mono (fun b hS => ⟨by have := hS.1; simpa using this, hS.2⟩)).keep (fun b hS => hq4.block b hS.2)
      k3 := (hk3.mono (fun b hS => ⟨by have := hS.1; simpa using this, hS.2⟩)).keep (fun b hS => Below.heap_alloc w5 _ b hS.2)
      xa := (Blk.new w3 _ _).go (below_trans HB4.out hq4)
      xb := (Blk.new w4 _ _).go (below_alloc hb5 _)
      xw := Blk.new w5 _ _
      env := HE0.out.mono hbx
      s1 := fun b hS => by have := hS.2; omega
      s2 := fun b hS => by have := hS.2; omega
      s3 := fun b hS => by have := hS.2; omega })
  have HT := Lib.hid hbx
  clear hk3 hb5 hbx hq3 hq4 hqs
  have a0 := HQ.out.xa.cell 0
  have a1 := HQ.out.xa.cell 1
  have a2 := HQ.out.xa.cell 2
  have a3 := HQ.out.xa.cell 3
  have a4 := HQ.out.xa.cell 4
  have a5 := HQ.out.xa.cell 5
  have a6 := HQ.out.xa.cell 6
  have b0 := HQ.out.xb.cell 0
  have b1 := HQ.out.xb.cell 1
  have b2 := HQ.out.xb.cell 2
  have b3 := HQ.out.xb.cell 3
  have b4 := HQ.out.xb.cell 4
  have b5 := HQ.out.xb.cell 5
  have b6 := HQ.out.xb.cell 6
  have d0 := HQ.out.xw.cell 0
  have d1 := HQ.out.xw.cell 1
  have d2 := HQ.out.xw.cell 2
  have d3 := HQ.out.xw.cell 3
  have d4 := HQ.out.xw.cell 4
  have d5 := HQ.out.xw.cell 5
  have d6 := HQ.out.xw.cell 6
  go_wp2_with (first
    | (go_at_call 19; (with_reducible refine (alikeR q1 n1.k n1.t n1.r n1.l n1.v n1.kids _ (.slice A1 n1.kids.len cp1) (.slice A3 n1.kids.len cp3) (HQ.out.k1.sl HQ.out.s1) (HQ.out.k3.sl HQ.out.s3)).mono ?_); rintro e wx ⟨rfl, hbx⟩; have HQ := Lib.hid (HQ.out.go hbx); have HT := Lib.hid (below_trans HT.out hbx); clear hbx; clear a0 a1 a2 a3 a4 a5 a6 b0 b1 b2 b3 b4 b5 b6 d0 d1 d2 d3 d4 d5 d6; have a0 := HQ.out.xa.cell 0; have a1 := HQ.out.xa.cell 1; have a2 := HQ.out.xa.cell 2; have a3 := HQ.out.xa.cell 3; have a4 := HQ.out.xa.cell 4; have a5 := HQ.out.xa.cell 5; have a6 := HQ.out.xa.cell 6; have b0 := HQ.out.xb.cell 0; have b1 := HQ.out.xb.cell 1; have b2 := HQ.out.xb.cell 2; have b3 := HQ.out.xb.cell 3; have b4 := HQ.out.xb.cell 4; have b5 := HQ.out.xb.cell 5; have b6 := HQ.out.xb.cell 6; have d0 := HQ.out.xw.cell 0; have d1 := HQ.out.xw.cell 1; have d2 := HQ.out.xw.cell 2; have d3 := HQ.out.xw.cell 3; have d4 := HQ.out.xw.cell 4; have d5 := HQ.out.xw.cell 5; have d6 := HQ.out.xw.cell 6)
    | (go_at_call 19; (with_reducible refine (alikeR q1 n1.k n1.t n1.r n1.l n1.v n1.kids _ (.slice A2 n1.kids.len cp2) (.slice A3 n1.kids.len cp3) (HQ.out.k2.sl HQ.out.s2) (HQ.out.k3.sl HQ.out.s3)).mono ?_); rintro e wx ⟨rfl, hbx⟩; have HQ := Lib.hid (HQ.out.go hbx); have HT := Lib.hid (below_trans HT.out hbx); clear hbx; clear a0 a1 a2 a3 a4 a5 a6 b0 b1 b2 b3 b4 b5 b6 d0 d1 d2 d3 d4 d5 d6; have a0 := HQ.out.xa.cell 0; have a1 := HQ.out.xa.cell 1; have a2 := HQ.out.xa.cell 2; have a3 := HQ.out.xa.cell 3; have a4 := HQ.out.xa.cell 4; have a5 := HQ.out.xa.cell 5; have a6 := HQ.out.xa.cell 6; have b0 := HQ.out.xb.cell 0; have b1 := HQ.out.xb.cell 1; have b2 := HQ.out.xb.cell 2; have b3 := HQ.out.xb.cell 3; have b4 := HQ.out.xb.cell 4; have b5 := HQ.out.xb.cell 5; have b6 := HQ.out.xb.cell 6; have d0 := HQ.out.xw.cell 0; have d1 := HQ.out.xw.cell 1; have d2 := HQ.out.xw.cell 2; have d3 := HQ.out.xw.cell 3; have d4 := HQ.out.xw.cell 4; have d5 := HQ.out.xw.cell 5; have d6 := HQ.out.xw.cell 6)
    | fail)
  have HPT := Lib.hid HQ.out.k1.part
  refine (spoilR n1.kids wx (fun b => w.heap.size ≤ b ∧ b < w3.heap.size) n1.k n1.t n1.r n1.v ⟨n1.l.toArray⟩ (.slice A1 n1.kids.len cp1) HPT.out HQ.out.s1).mono ?_
  rintro e w7 ⟨rfl, hbl⟩
  have hs2 := HQ.out.xw.lt
  have hs7 := hbl.size
  have HN := Lib.hid ((ParEnd.of HQ.out).keep (w' := w7) (fun b hb => by
    refine hbl.out b ?_ (fun hS => ?_)
    · rcases hb with h | h | h | h
      · exact HQ.out.s2 b h
      · exact HQ.out.s3 b h
      · omega
      · omega
    · have h2 := hS.2
      rcases hb with h | h | h | h
      · have := h.1; omega
      · have := h.1; omega
      · omega
      · omega) hs7)
  have HT := Lib.hid (HT.out.trans (hbl.below (B := w.heap.size) (fun i hS => hS.1) HT.out.size))
  have HE7 := Lib.hid (HE0.out.mono HT.out)
  clear hbl hs2 hs7
  clear a0 a1 a2 a3 a4 a5 a6 b0 b1 b2 b3 b4 b5 b6 d0 d1 d2 d3 d4 d5 d6
  go_wp2_with fail
  refine (parseP HS.out HE7.out).mono ?_
  unfold PPost
  rw [HR.out]
  rintro e w8 ⟨kv4, rfl, _, hk4, hb8⟩
  obtain ⟨A4, cp4, rfl⟩ := hk4.shape
  have hz8 := hb8.size
  have hx8 := below_alloc hb8 (.cells #[.int .i64 q1, .int .i64 n1.k, .int .i64 n1.t, .int .i64 n1.r, .string ⟨n1.l.toArray⟩, .int .i64 n1.v, .slice A4 n1.kids.len cp4] 28 (0, 0))
  have HN := Lib.hid (HN.out.go hx8)
  have HC := Lib.hid (show Blk (w8.alloc (.cells #[.int .i64 q1, .int .i64 n1.k, .int .i64 n1.t, .int .i64 n1.r, .string ⟨n1.l.toArray⟩, .int .i64 n1.v, .slice A4 n1.kids.len cp4] 28 (0, 0))) w8.heap.size 28 #[.int .i64 q1, .int .i64 n1.k, .int .i64 n1.t, .int .i64 n1.r, .string ⟨n1.l.toArray⟩, .int .i64 n1.v, .slice A4 n1.kids.len cp4] from Blk.new w8 _ _)
  have HK4 := Lib.hid (hk4.keep (w' := w8.alloc (.cells #[.int .i64 q1, .int .i64 n1.k, .int .i64 n1.t, .int .i64 n1.r, .string ⟨n1.l.toArray⟩, .int .i64 n1.v, .slice A4 n1.kids.len cp4] 28 (0, 0))) (fun b hS => Below.heap_alloc w8 _ b hS.2))
  have HS4 : Hid (∀ b, (w7.heap.size ≤ b ∧ b < w8.heap.size) → b < (w8.alloc (.cells #[.int .i64 q1, .int .i64 n1.k, .int .i64 n1.t, .int .i64 n1.r, .string ⟨n1.l.toArray⟩, .int .i64 n1.v, .slice A4 n1.kids.len cp4] 28 (0, 0))).heap.size) := Lib.hid (fun b hS => by have := hS.2; simp; omega)
  have HT := Lib.hid (below_trans HT.out hx8)
  clear hk4 hb8 hz8 hx8
  have b0 := HN.out.xb.cell 0
  have b1 := HN.out.xb.cell 1
  have b2 := HN.out.xb.cell 2
  have b3 := HN.out.xb.cell 3
  have b4 := HN.out.xb.cell 4
  have b5 := HN.out.xb.cell 5
  have b6 := HN.out.xb.cell 6
  have d0 := HN.out.xw.cell 0
  have d1 := HN.out.xw.cell 1
  have d2 := HN.out.xw.cell 2
  have d3 := HN.out.xw.cell 3
  have d4 := HN.out.xw.cell 4
  have d5 := HN.out.xw.cell 5
  have d6 := HN.out.xw.cell 6
  have c0 := HC.out.cell 0
  have c1 := HC.out.cell 1
  have c2 := HC.out.cell 2
  have c3 := HC.out.cell 3
  have c4 := HC.out.cell 4
  have c5 := HC.out.cell 5
  have c6 := HC.out.cell 6
  go_wp2_with (first
    | (go_at_call 19; (with_reducible refine (alikeR q1 n1.k n1.t n1.r n1.l n1.v n1.kids _ (.slice A2 n1.kids.len cp2) (.slice A3 n1.kids.len cp3) (HN.out.k2.sl HN.out.s2) (HN.out.k3.sl HN.out.s3)).mono ?_); rintro e wx ⟨rfl, hbx⟩; have HN := Lib.hid (HN.out.go hbx); have HC := Lib.hid (HC.out.go hbx); have HK4 := Lib.hid (HK4.out.keep (fun b hS => hbx.block b (HS4.out b hS))); have HS4 := Lib.hid (fun b hS => Nat.lt_of_lt_of_le (HS4.out b hS) hbx.size); have HT := Lib.hid (below_trans HT.out hbx); clear hbx; clear b0 b1 b2 b3 b4 b5 b6 d0 d1 d2 d3 d4 d5 d6 c0 c1 c2 c3 c4 c5 c6; have b0 := HN.out.xb.cell 0; have b1 := HN.out.xb.cell 1; have b2 := HN.out.xb.cell 2; have b3 := HN.out.xb.cell 3; have b4 := HN.out.xb.cell 4; have b5 := HN.out.xb.cell 5; have b6 := HN.out.xb.cell 6; have d0 := HN.out.xw.cell 0; have d1 := HN.out.xw.cell 1; have d2 := HN.out.xw.cell 2; have d3 := HN.out.xw.cell 3; have d4 := HN.out.xw.cell 4; have d5 := HN.out.xw.cell 5; have d6 := HN.out.xw.cell 6; have c0 := HC.out.cell 0; have c1 := HC.out.cell 1; have c2 := HC.out.cell 2; have c3 := HC.out.cell 3; have c4 := HC.out.cell 4; have c5 := HC.out.cell 5; have c6 := HC.out.cell 6)
    | (go_at_call 19; (with_reducible refine (alikeR q1 n1.k n1.t n1.r n1.l n1.v n1.kids _ (.slice A4 n1.kids.len cp4) (.slice A3 n1.kids.len cp3) (HK4.out.sl HS4.out) (HN.out.k3.sl HN.out.s3)).mono ?_); rintro e wx ⟨rfl, hbx⟩; have HN := Lib.hid (HN.out.go hbx); have HC := Lib.hid (HC.out.go hbx); have HK4 := Lib.hid (HK4.out.keep (fun b hS => hbx.block b (HS4.out b hS))); have HS4 := Lib.hid (fun b hS => Nat.lt_of_lt_of_le (HS4.out b hS) hbx.size); have HT := Lib.hid (below_trans HT.out hbx); clear hbx; clear b0 b1 b2 b3 b4 b5 b6 d0 d1 d2 d3 d4 d5 d6 c0 c1 c2 c3 c4 c5 c6; have b0 := HN.out.xb.cell 0; have b1 := HN.out.xb.cell 1; have b2 := HN.out.xb.cell 2; have b3 := HN.out.xb.cell 3; have b4 := HN.out.xb.cell 4; have b5 := HN.out.xb.cell 5; have b6 := HN.out.xb.cell 6; have d0 := HN.out.xw.cell 0; have d1 := HN.out.xw.cell 1; have d2 := HN.out.xw.cell 2; have d3 := HN.out.xw.cell 3; have d4 := HN.out.xw.cell 4; have d5 := HN.out.xw.cell 5; have d6 := HN.out.xw.cell 6; have c0 := HC.out.cell 0; have c1 := HC.out.cell 1; have c2 := HC.out.cell 2; have c3 := HC.out.cell 3; have c4 := HC.out.cell 4; have c5 := HC.out.cell 5; have c6 := HC.out.cell 6)
    | (go_at_call 16; refine (awakeP (HE0.out.mono HT.out)).mono ?_; rintro e wz ⟨rfl, hbz⟩))
  go_ret
  exact ⟨rfl, below_trans HT.out hbz⟩
end Go.Proofs.YtmlnibjnacfanaaGreatDoor
