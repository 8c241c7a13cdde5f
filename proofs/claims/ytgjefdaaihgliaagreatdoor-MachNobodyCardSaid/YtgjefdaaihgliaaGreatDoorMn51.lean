/- MachNobody: for every test and every pick: a machine that nobody made; answers are memory  -/
import Derived.Test.YtgjefdaaihgliaaGreatDoorMn02
import Derived.Test.YtgjefdaaihgliaaGreatDoorMn08
import Derived.Test.YtgjefdaaihgliaaGreatDoorMn50

namespace Go.Proofs.YtgjefdaaihgliaaGreatDoor.MNob
open Go.ChangeShapes Go.WideShapes Go.ChangeAt Go.ChangeMaps Go.RowKit
set_option maxRecDepth 100000 in
theorem contract (H:Type)(enc:TypeId×Value->H)(W:World)(base:Nat)(args:Array Value)(ds gs:List (DataW H))(before:List MemPlace)
  (hval:∀ (j:Nat) t v,Tryz.f3.params[j]?=some t->args[j]?=some v->Value.okWide Tryz.prog W .any base t v)
  (hW:DataW.Whole enc Tryz.prog Tryz.f3.params.toList Rows.machNobodySpec.vars false W args.toList ds gs before)
  (hz:(DataW.weightsEach Tryz.prog (Tryz.f3.params.toList++(OpenSpec.ofChange Rows.machNobodySpec).bare.plain.varTypes Tryz.prog) (ds++gs)).all (·<=reachBytes)=true) :
  Calls Tryz.prog 3 args W fun e W'=>∃ v,e=.returned v/\Rows.machNobodySpec.post enc Tryz.prog Tryz.f3 false true false false W args v W':=by
 have hW':=hW;obtain⟨p,q,hA0,hV,rfl,hfz,hnd⟩:=hW;have hA:DataW.TrodAll enc Tryz.prog W 0 (fun _=>true) true Tryz.f3.params.toList args.toList ds p:=hA0;rw [Tryz.params3] at hA hval;obtain⟨v0,vs0,d0,ds0,p0,q0,hargs0,rfl,rfl,h0,r0⟩:=trodAll_cons hA;obtain⟨v1,vs1,d1,ds1,p1,q1,hargs1,rfl,rfl,h1,r1⟩:=trodAll_cons r0;obtain⟨rfl,rfl,rfl⟩:=trodAll_nil r1;subst hargs1;obtain rfl:args=#[v0,v1]:=by cases args;simp_all
 have hv0:Value.okWide Tryz.prog W .any base 32 v0:=hval 0 32 v0 rfl rfl;have hv1:Value.okWide Tryz.prog W .any base 3 v1:=hval 1 3 v1 rfl rfl;rw [Tryz.params3] at hz;have hz0:∀ n∈d0.weights Tryz.prog 32,n<=reachBytes:=fun n hn=>by
  have:=List.all_eq_true.1 hz n (Zco (j:=0) rfl rfl n hn);simpa using this
 clear hA0 hA;obtain⟨T,Ai,Ac,ci,cc,kv,rfl,hT⟩:=Zv1 hv0 h0 hz0;obtain⟨n1,rfl,rfl,rfl,wn1⟩:=open_int Tryz.underlying3 hv1 h1;refine (Zqu T Ai Ac ci cc kv n1 W hT).mono fun e W' ⟨he,hb⟩=>?_
 subst he;exact⟨_,rfl,Zv9 Zmu κ rfl rfl Tryz.underlying4 (fun ds hds=>by rw [Tryz.params3] at hds;match ds,hds with | [_,_],_=>rfl) hW' hb⟩
theorem reads (os:Os){H:Type}(enc:TypeId×Value->H):∃ places,DataW.whole enc Tryz.prog ((Zj7 os).forCall (fun _ _=>0) ⟨#[],#[.agg #[.int .i64 0,.string ⟨#[]⟩,.string ⟨#[]⟩,.slice none 0 0,.slice none 0 0,.int .i64 0,.int .i64 0,.int .i64 0,.int .i64 0,.string ⟨#[]⟩,.int .i64 0,.slice none 0 0],.int .i64 0],[]⟩).memory Tryz.f3.params.toList Rows.machNobodySpec.vars false #[(.agg #[.int .i64 0,.string ⟨#[]⟩,.string ⟨#[]⟩,.slice none 0 0,.slice none 0 0,.int .i64 0,.int .i64 0,.int .i64 0,.int .i64 0,.string ⟨#[]⟩,.int .i64 0,.slice none 0 0]:Value),(.int .i64 0:Value)].toList 8=some ([.agg [.lit (.int .i64 0),.lit (.string []),.lit (.string []),.nil,.nil,.agg [.lit (.int .i64 0),.agg [.lit (.int .i64 0),.agg [.lit (.int .i64 0),.lit (.int .i64 0),.lit (.string [])],.lit (.int .i64 0),.nil]]],.lit (.int .i64 0)],[],places):=
 ⟨[],κ⟩
set_option maxRecDepth 100000 in
theorem lifted (os:Os)(started:os.Started)(H:Type)(enc:TypeId×Value->H)(F:Stop.Interp) :
  ReturnsInHanded {} Tryz.checked os 3 .any ((OpenSpec.ofChange Rows.machNobodySpec).preRow enc Tryz.prog Tryz.f3 Rows.machNobodyRow.domain false Rows.machNobodyRow.laid) (((OpenSpec.ofChange Rows.machNobodySpec).at F).post enc Tryz.prog Tryz.f3 false true false false):=by
 obtain⟨places,hx⟩:=reads os enc;refine returnsInHanded_of_row (C:=Tryz.checked) (s:=OpenSpec.ofChange Rows.machNobodySpec) own started κ Tryz.func3
  (witness_row_atRef (enc:=enc) (C:=Tryz.checked) false (Zj7 os) #[.agg #[.int .i64 0,.string ⟨#[]⟩,.string ⟨#[]⟩,.slice none 0 0,.slice none 0 0,.int .i64 0,.int .i64 0,.int .i64 0,.int .i64 0,.string ⟨#[]⟩,.int .i64 0,.slice none 0 0],.int .i64 0] rfl κ κ κ
    (OpenSpec.preRow_of_cond 8 hx κ (fun k hk=>by cases hk) κ (Zys os _))) ?_
 intro W base args ds gs before hval hW _ _ hz hL hS _;exact contract H enc W base args ds gs before hval hW hz
theorem said:Rows.MachNobodySaid:=
 OpenClaim.holds_of_cond 3 Tryz.f3 rfl rfl rfl rfl rfl rfl rfl ⟨rfl,rfl,rfl,rfl,rfl⟩ rfl rfl rfl rfl rfl κ Tryz.func3 closed
  (of_decide_eq_true κ) (by unfold Func.isWrapper;first | (rw [if_pos (by decide +kernel)];kernel_rfl) | (rw [if_neg (by decide +kernel)];exact⟨rfl,rfl⟩))
  (fun os started H enc _ F=>by rw [OpenClaim.pre_eq_preRow];exact lifted os started H enc F)
theorem plain (f:FuncId)(fn:Func)(hf:Tryz.pinned.checked.prog.funcNamed "alembic/alembiclaw21.MachNobody"=some f)(hfn:Tryz.pinned.checked.prog.funcs[f]?=some fn) :
  true=Tryz.pinned.checked.prog.looks []/\∀ (j:Nat) t,fn.params[j]?=some t->Tryz.pinned.checked.prog.wantsStandIn t=false:=by
 obtain rfl:f = 3:=Option.some.inj ((show Tryz.prog.funcNamed "alembic/alembiclaw21.MachNobody"=some 3 by kernel_rfl).symm.trans hf) |>.symm
 obtain rfl:fn=Tryz.f3:=(Option.some.inj (Tryz.func3.symm.trans hfn)).symm;refine⟨κ,fun j t ht=>?_⟩;rw [Tryz.params3] at ht;have hm:=Array.mem_of_getElem? ht;simp only [List.mem_toArray,List.mem_cons,List.not_mem_nil,or_false] at hm;rcases hm with rfl | rfl
 ·exact (show Tryz.prog.wantsStandIn 32=false by kernel_rfl)
 ·exact (show Tryz.prog.wantsStandIn 3=false by kernel_rfl)
end Go.Proofs.YtgjefdaaihgliaaGreatDoor.MNob
