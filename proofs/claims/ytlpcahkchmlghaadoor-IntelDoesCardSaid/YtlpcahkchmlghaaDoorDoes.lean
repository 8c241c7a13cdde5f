/- IntelDoes: for every instruction and every thread: what it does, as the document answers; the thread that was handed in stays, what came out is memory of its own. No condition. -/
import Derived.Test.YtlpcahkchmlghaaDoorDoesW
import Derived.Test.YtlpcahkchmlghaaDoorOpenL
import Derived.Test.YtlpcahkchmlghaaDoorRow
import Derived.ChangeMaps5
import Derived.Carry
namespace Go.Proofs.YtlpcahkchmlghaaDoor.Does
open Go.ChangeShapes Go.WideShapes Go.ChangeAt Go.ChangeMaps Go.RowKit

set_option maxRecDepth 100000 in
theorem contract (H : Type) (enc : TypeId × Value → H) (W : World) (base : Nat) (args : Array Value) (ds gs : List (DataW H)) (before : List MemPlace)
    (hval : ∀ (j : Nat) t v, Tryd.f8.params[j]? = some t → args[j]? = some v → Value.okWide Tryd.prog W .any base t v)
    (hW : DataW.Whole enc Tryd.prog Tryd.f8.params.toList Rows.intelDoesSpec.vars false W args.toList ds gs before) (hE : Env W)
    (hz : (DataW.weightsEach Tryd.prog (Tryd.f8.params.toList ++ (OpenSpec.ofChange Rows.intelDoesSpec).bare.plain.varTypes Tryd.prog) (ds ++ gs)).all (· ≤ reachBytes) = true) :
    Calls Tryd.prog 8 args W fun e W' => ∃ v, e = .returned v ∧ Rows.intelDoesSpec.post enc Tryd.prog Tryd.f8 false true false false W args v W' := by
  have hW' := hW
  obtain ⟨p, q, hA0, hV, rfl, hfz, hnd⟩ := hW
  have hA : DataW.TrodAll enc Tryd.prog W 0 (fun _ => true) true Tryd.f8.params.toList args.toList ds p := hA0
  rw [Tryd.params8] at hA hval
  obtain ⟨v0, vs0, d0, ds0, p0, q0, hargs0, rfl, rfl, h0, r0⟩ := trodAll_cons hA
  obtain ⟨v1, vs1, d1, ds1, p1, q1, hargs1, rfl, rfl, h1, r1⟩ := trodAll_cons r0
  obtain ⟨rfl, rfl, rfl⟩ := trodAll_nil r1
  subst hargs1
  obtain rfl : args = #[v0, v1] := by cases args; simp_all
  have hv0 : Value.okWide Tryd.prog W .any base 23 v0 := hval 0 23 v0 rfl rfl
  have hv1 : Value.okWide Tryd.prog W .any base 47 v1 := hval 1 47 v1 rfl rfl
  rw [Tryd.params8] at hz
  have hz1 : ∀ n ∈ d1.weights Tryd.prog 47, n ≤ reachBytes := fun n hn => by
    have := List.all_eq_true.1 hz n (weights_each_mem (j := 1) rfl rfl n hn)
    simpa using this
  clear hA0 hA
  obtain ⟨op, d, a, b, imm, loc, label, fence, rfl, hl1, hl2⟩ := open_instr hv0 h0
  obtain ⟨u, at_, vs, rfl, ha⟩ := open_local (fun _ => rfl) hv1 h1 hz1
  refine (walkDoes op d a b imm loc label fence u at_ vs hl1 ha.1 W ha hE).mono fun e W' ⟨he, hb⟩ => ?_
  subst he
  exact ⟨_, rfl, post_true laidOutB_prog (by kernel_rfl) rfl rfl Tryd.underlying4 (fun ds hds => by rw [Tryd.params8] at hds; match ds, hds with | [_, _], _ => rfl) hW' hb⟩

theorem reads (os : Os) {H : Type} (enc : TypeId × Value → H) : ∃ places, DataW.whole enc Tryd.prog ((laidWorld os).forCall (fun _ _ => 0) ⟨#[], #[insV 0 0 0 0 0 ⟨#[]⟩ ⟨#[]⟩ 0, .agg #[.slice none 0 0, .int .i64 0]], []⟩).memory Tryd.f8.params.toList Rows.intelDoesSpec.vars false #[(insV 0 0 0 0 0 ⟨#[]⟩ ⟨#[]⟩ 0 : Value), (.agg #[.slice none 0 0, .int .i64 0] : Value)].toList 8 = some ([.agg [.lit (.int .i64 0), .lit (.int .i64 0), .lit (.int .i64 0), .lit (.int .i64 0), .lit (.int .i64 0), .lit (.string []), .lit (.string []), .lit (.int .i64 0)], .agg [.nil, .lit (.int .i64 0)]], [], places) :=
  ⟨[], by kernel_rfl⟩

set_option maxRecDepth 100000 in
theorem lifted (os : Os) (started : os.Started) (H : Type) (enc : TypeId × Value → H) (F : Stop.Interp) :
    ReturnsInHanded {} Tryd.checked os 8 .any ((OpenSpec.ofChange Rows.intelDoesSpec).preRow enc Tryd.prog Tryd.f8 Rows.intelDoesRow.domain false Rows.intelDoesRow.laid) (((OpenSpec.ofChange Rows.intelDoesSpec).at F).post enc Tryd.prog Tryd.f8 false true false false) := by
  obtain ⟨places, hx⟩ := reads os enc
  refine returnsInHanded_of_row (C := Tryd.checked) (s := OpenSpec.ofChange Rows.intelDoesSpec) own started (by kernel_rfl) Tryd.func8
    (witness_row_atRef (enc := enc) (C := Tryd.checked) false (laidWorld os) #[insV 0 0 0 0 0 ⟨#[]⟩ ⟨#[]⟩ 0, .agg #[.slice none 0 0, .int .i64 0]] rfl (by kernel_rfl) (by kernel_rfl) (by kernel_rfl)
      (OpenSpec.preRow_of_cond 8 hx (by kernel_rfl) (fun k hk => by cases hk) (by kernel_rfl) (laid_met os _))) ?_
  intro W base args ds gs before hval hW _ _ hz hL hS _
  exact contract H enc W base args ds gs before hval hW (env_of hL hS) hz

theorem said : Rows.IntelDoesSaid :=
  OpenClaim.holds_of_cond 8 Tryd.f8 rfl rfl rfl rfl rfl rfl rfl ⟨rfl, rfl, rfl, rfl, rfl⟩ rfl rfl rfl rfl rfl (by kernel_rfl) Tryd.func8 (by kernel_rfl)
    (of_decide_eq_true (by kernel_rfl)) (by unfold Func.isWrapper; first | (rw [if_pos (by decide +kernel)]; kernel_rfl) | (rw [if_neg (by decide +kernel)]; exact ⟨rfl, rfl⟩))
    (fun os started H enc _ F => by rw [OpenClaim.pre_eq_preRow]; exact lifted os started H enc F)

theorem plain (f : FuncId) (fn : Func) (hf : Tryd.pinned.checked.prog.funcNamed "alembic/alembiclaw09.IntelDoes" = some f) (hfn : Tryd.pinned.checked.prog.funcs[f]? = some fn) :
    true = Tryd.pinned.checked.prog.looks [] ∧ ∀ (j : Nat) t, fn.params[j]? = some t → Tryd.pinned.checked.prog.wantsStandIn t = false := by
  obtain rfl : f = 8 := Option.some.inj ((show Tryd.prog.funcNamed "alembic/alembiclaw09.IntelDoes" = some 8 by kernel_rfl).symm.trans hf) |>.symm
  obtain rfl : fn = Tryd.f8 := (Option.some.inj (Tryd.func8.symm.trans hfn)).symm
  refine ⟨by kernel_rfl, fun j t ht => ?_⟩
  rw [Tryd.params8] at ht
  have hm := Array.mem_of_getElem? ht
  simp only [List.mem_toArray, List.mem_cons, List.not_mem_nil, or_false] at hm
  rcases hm with rfl | rfl
  · exact (show Tryd.prog.wantsStandIn 23 = false by kernel_rfl)
  · exact (show Tryd.prog.wantsStandIn 47 = false by kernel_rfl)

theorem card : Rows.IntelDoesCardSaid :=
  Claim7.holds_tied_plain_at .later [] _ _ _ _ said (fun _ h => by cases h) (by kernel_rfl) (fun _ h => by cases h) intelDoes_row_tie rfl ⟨rfl, rfl⟩ (by kernel_rfl) rfl plain (by kernel_rfl)
end Go.Proofs.YtlpcahkchmlghaaDoor.Does
namespace Go.Proofs.YtlpcahkchmlghaaDoor
theorem intelDoes_card : Rows.IntelDoesCardSaid := Does.card
#print axioms intelDoes_card
end Go.Proofs.YtlpcahkchmlghaaDoor
