/- IntelUses: for every instruction, every thread, every register and value: other registers of the thread stay, and those that are not read do not matter. No condition. -/
import Derived.Test.YtlpcahkchmlghaaDoorUsesW
import Derived.Test.YtlpcahkchmlghaaDoorOpenL
import Derived.Test.YtlpcahkchmlghaaDoorOpenO
import Derived.Test.YtlpcahkchmlghaaDoorRow
import Derived.ChangeMaps5
import Derived.Carry
namespace Go.Proofs.YtlpcahkchmlghaaDoor.Uses
open Go.ChangeShapes Go.WideShapes Go.ChangeAt Go.ChangeMaps Go.RowKit

set_option maxRecDepth 100000 in
theorem contract (H : Type) (enc : TypeId × Value → H) (W : World) (base : Nat) (args : Array Value) (ds gs : List (DataW H)) (before : List MemPlace)
    (hval : ∀ (j : Nat) t v, Tryd.f9.params[j]? = some t → args[j]? = some v → Value.okWide Tryd.prog W .any base t v)
    (hW : DataW.Whole enc Tryd.prog Tryd.f9.params.toList Rows.intelUsesSpec.vars false W args.toList ds gs before) (hE : Env W)
    (hz : (DataW.weightsEach Tryd.prog (Tryd.f9.params.toList ++ (OpenSpec.ofChange Rows.intelUsesSpec).bare.plain.varTypes Tryd.prog) (ds ++ gs)).all (· ≤ reachBytes) = true) :
    Calls Tryd.prog 9 args W fun e W' => ∃ v, e = .returned v ∧ Rows.intelUsesSpec.post enc Tryd.prog Tryd.f9 false true false false W args v W' := by
  have hW' := hW
  obtain ⟨p, q, hA0, hV, rfl, hfz, hnd⟩ := hW
  have hA : DataW.TrodAll enc Tryd.prog W 0 (fun _ => true) true Tryd.f9.params.toList args.toList ds p := hA0
  rw [Tryd.params9] at hA hval
  obtain ⟨v0, vs0, d0, ds0, p0, q0, hargs0, rfl, rfl, h0, r0⟩ := trodAll_cons hA
  obtain ⟨v1, vs1, d1, ds1, p1, q1, hargs1, rfl, rfl, h1, r1⟩ := trodAll_cons r0
  obtain ⟨v2, vs2, d2, ds2, p2, q2, hargs2, rfl, rfl, h2, r2⟩ := trodAll_cons r1
  obtain ⟨rfl, rfl, rfl⟩ := trodAll_nil r2
  subst hargs1
  subst hargs2
  obtain rfl : args = #[v0, v1, v2] := by cases args; simp_all
  have hv0 : Value.okWide Tryd.prog W .any base 23 v0 := hval 0 23 v0 rfl rfl
  have hv1 : Value.okWide Tryd.prog W .any base 47 v1 := hval 1 47 v1 rfl rfl
  have hv2 : Value.okWide Tryd.prog W .any base 58 v2 := hval 2 58 v2 rfl rfl
  rw [Tryd.params9] at hz
  have hz1 : ∀ n ∈ d1.weights Tryd.prog 47, n ≤ reachBytes := fun n hn => by
    have := List.all_eq_true.1 hz n (weights_each_mem (j := 1) rfl rfl n hn)
    simpa using this
  clear hA0 hA
  obtain ⟨op, d, a, b, imm, loc, label, fence, rfl, hl1, hl2⟩ := open_instr hv0 h0
  obtain ⟨u, at_, vs, rfl, ha⟩ := open_local (fun _ => rfl) hv1 h1 hz1
  obtain ⟨reg, Lv, nv, rfl, hl3⟩ := open_other hv2 h2
  refine (walkUses op d a b imm loc label fence u at_ vs reg Lv nv hl1 hl3 W ha hE).mono fun e W' ⟨he, hb⟩ => ?_
  subst he
  exact ⟨_, rfl, post_true laidOutB_prog (by kernel_rfl) rfl rfl Tryd.underlying4 (fun ds hds => by rw [Tryd.params9] at hds; match ds, hds with | [_, _, _], _ => rfl) hW' hb⟩

theorem reads (os : Os) {H : Type} (enc : TypeId × Value → H) : ∃ places, DataW.whole enc Tryd.prog ((laidWorld os).forCall (fun _ _ => 0) ⟨#[], #[insV 0 0 0 0 0 ⟨#[]⟩ ⟨#[]⟩ 0, .agg #[.slice none 0 0, .int .i64 0], .agg #[.int .i64 0, .string ⟨#[]⟩, .int .i64 0]], []⟩).memory Tryd.f9.params.toList Rows.intelUsesSpec.vars false #[(insV 0 0 0 0 0 ⟨#[]⟩ ⟨#[]⟩ 0 : Value), (.agg #[.slice none 0 0, .int .i64 0] : Value), (.agg #[.int .i64 0, .string ⟨#[]⟩, .int .i64 0] : Value)].toList 8 = some ([.agg [.lit (.int .i64 0), .lit (.int .i64 0), .lit (.int .i64 0), .lit (.int .i64 0), .lit (.int .i64 0), .lit (.string []), .lit (.string []), .lit (.int .i64 0)], .agg [.nil, .lit (.int .i64 0)], .agg [.lit (.int .i64 0), .agg [.lit (.string []), .lit (.int .i64 0)]]], [], places) :=
  ⟨[], by kernel_rfl⟩

set_option maxRecDepth 100000 in
theorem lifted (os : Os) (started : os.Started) (H : Type) (enc : TypeId × Value → H) (F : Stop.Interp) :
    ReturnsInHanded {} Tryd.checked os 9 .any ((OpenSpec.ofChange Rows.intelUsesSpec).preRow enc Tryd.prog Tryd.f9 Rows.intelUsesRow.domain false Rows.intelUsesRow.laid) (((OpenSpec.ofChange Rows.intelUsesSpec).at F).post enc Tryd.prog Tryd.f9 false true false false) := by
  obtain ⟨places, hx⟩ := reads os enc
  refine returnsInHanded_of_row (C := Tryd.checked) (s := OpenSpec.ofChange Rows.intelUsesSpec) own started (by kernel_rfl) Tryd.func9
    (witness_row_atRef (enc := enc) (C := Tryd.checked) false (laidWorld os) #[insV 0 0 0 0 0 ⟨#[]⟩ ⟨#[]⟩ 0, .agg #[.slice none 0 0, .int .i64 0], .agg #[.int .i64 0, .string ⟨#[]⟩, .int .i64 0]] rfl (by kernel_rfl) (by kernel_rfl) (by kernel_rfl)
      (OpenSpec.preRow_of_cond 8 hx (by kernel_rfl) (fun k hk => by cases hk) (by kernel_rfl) (laid_met os _))) ?_
  intro W base args ds gs before hval hW _ _ hz hL hS _
  exact contract H enc W base args ds gs before hval hW (env_of hL hS) hz

theorem said : Rows.IntelUsesSaid :=
  OpenClaim.holds_of_cond 9 Tryd.f9 rfl rfl rfl rfl rfl rfl rfl ⟨rfl, rfl, rfl, rfl, rfl⟩ rfl rfl rfl rfl rfl (by kernel_rfl) Tryd.func9 (by kernel_rfl)
    (of_decide_eq_true (by kernel_rfl)) (by unfold Func.isWrapper; first | (rw [if_pos (by decide +kernel)]; kernel_rfl) | (rw [if_neg (by decide +kernel)]; exact ⟨rfl, rfl⟩))
    (fun os started H enc _ F => by rw [OpenClaim.pre_eq_preRow]; exact lifted os started H enc F)

theorem plain (f : FuncId) (fn : Func) (hf : Tryd.pinned.checked.prog.funcNamed "alembic/alembiclaw09.IntelUses" = some f) (hfn : Tryd.pinned.checked.prog.funcs[f]? = some fn) :
    true = Tryd.pinned.checked.prog.looks [] ∧ ∀ (j : Nat) t, fn.params[j]? = some t → Tryd.pinned.checked.prog.wantsStandIn t = false := by
  obtain rfl : f = 9 := Option.some.inj ((show Tryd.prog.funcNamed "alembic/alembiclaw09.IntelUses" = some 9 by kernel_rfl).symm.trans hf) |>.symm
  obtain rfl : fn = Tryd.f9 := (Option.some.inj (Tryd.func9.symm.trans hfn)).symm
  refine ⟨by kernel_rfl, fun j t ht => ?_⟩
  rw [Tryd.params9] at ht
  have hm := Array.mem_of_getElem? ht
  simp only [List.mem_toArray, List.mem_cons, List.not_mem_nil, or_false] at hm
  rcases hm with rfl | rfl | rfl
  · exact (show Tryd.prog.wantsStandIn 23 = false by kernel_rfl)
  · exact (show Tryd.prog.wantsStandIn 47 = false by kernel_rfl)
  · exact (show Tryd.prog.wantsStandIn 58 = false by kernel_rfl)

theorem card : Rows.IntelUsesCardSaid :=
  Claim7.holds_tied_plain_at .later [] _ _ _ _ said (fun _ h => by cases h) (by kernel_rfl) (fun _ h => by cases h) intelUses_row_tie rfl ⟨rfl, rfl⟩ (by kernel_rfl) rfl plain (by kernel_rfl)
end Go.Proofs.YtlpcahkchmlghaaDoor.Uses
namespace Go.Proofs.YtlpcahkchmlghaaDoor
theorem intelUses_card : Rows.IntelUsesCardSaid := Uses.card
#print axioms intelUses_card
end Go.Proofs.YtlpcahkchmlghaaDoor
