/- The Go function FnExactPeep returns true for every argument, and leaves its arguments as they were; no condition beyond the statement's own. -/
import Derived.Test.YtoomcmaifgkkfaaRows
import Derived.Test.YtoomcmaifgkkfaaQPeep1
import Derived.Test.YtoomcmaifgkkfaaQPeep8
import Derived.WalkKit
import Derived.ProofKit
import Derived.OpenShut
import Derived.ShutString
import Derived.ChangeOld
import Derived.Below
import Derived.Carry
import Derived.SizedLaws
set_option maxRecDepth 100000
namespace Go.Proofs.Ytoomcmaifgkkfaa.fnExactPeep
open Go.ChangeShapes Go.WideShapes Go.ChangeAt Go.RowKit Go.Proofs.Ytoomcmaifgkkfaa.P
open Go.Proofs.La.Zb
open Go.ChangeMaps (open_string shut_string)
set_option linter.unusedVariables false
theorem own:ownKnob Try.prog.godebug=none:=by kernel_rfl
theorem laidOut:laidOutB Try.prog=true:=by kernel_rfl
theorem lifted (os:Os) (started:os.Started) (H:Type) (enc:TypeId × Value→H) :
  ReturnsInHanded {} Try.checked os 4 .any (Rows.fnExactPeepSpec.pre6 enc Try.prog Try.f4 Rows.fnExactPeepRow.domain false) (Rows.fnExactPeepSpec.post enc Try.prog Try.f4 false true false false):=by
 refine returnsInHanded_of_change_sized (C:=Try.checked) own started (by kernel_rfl) Try.func4
  (ChangeSpec.witness6 (enc:=enc) (C:=Try.checked) false ⟨#[],#[.agg #[.slice none 0 0,.int .i64 0,.int .i64 0,.slice none 0 0]],[]⟩ 8 (by kernel_rfl) (by kernel_rfl) (by kernel_rfl) (by kernel_rfl)) ?_
 intro W base args ds gs before ZL hW hcnd E1 _;have hval:∀ (j:Nat) t v,Try.f4.params[j]? = some t→args[j]? = some v→Value.okWide Try.prog W .any base t v:=ZL;have hW':=hW;obtain ⟨p,q,hA0,hV,rfl,hfz,hnd⟩:=hW;have hA:DataW.TrodAll enc Try.prog W 0 (fun _=>true) true Try.f4.params.toList args.toList ds p:=hA0;rw [Try.params4] at hA hval;obtain ⟨v0,vs0,d0,ds0,p0,q0,hargs,rfl,rfl,h0,r0⟩:=trodAll_cons hA;obtain ⟨rfl,rfl,rfl⟩:=trodAll_nil r0;obtain rfl:args=#[v0]:=by cases args;simp_all
 obtain ⟨rfl,rfl⟩:=trodVars_none hV;have n4:=h0;have Z3:∀ x ∈ p0,x.block < W.heap.size:=fun x hx=>by obtain ⟨fu_,J4⟩:=h0;exact DataW.trod_lt _ _ _ _ J4 x hx
 clear hA0 ZL E1;obtain ⟨x0,cs0,rfl,hk0,hf0⟩:=AE Try.underlying25 gI (hval 0 25 v0 rfl rfl) h0;obtain ⟨zb,yb,Kb,Ab,he0,AR,uf,zR,tf⟩:=JE hk0;obtain rfl:cs0=#[.slice zb x0.f0.length yb,.int .i64 x0.f1,.int .i64 x0.f2,.slice Kb x0.f3.length Ab]:=by rw [← Array.toArray_toList (xs:=cs0),he0]
 obtain ⟨k,BR⟩:=Pr x0 hf0;refine (Gg.calls k zb yb x0.f0 x0.f1 x0.f2 Kb Ab x0.f3 _ W uf AR tf zR BR).mono fun e W' ⟨he,bel⟩=>?_
 subst he;exact ⟨_,rfl,_,_,_,[],_,[],hW',trodAll_mk1 (shut_bool Try.underlying4 _),(trodAll_cons_mk (Below.trod laidOut (by kernel_rfl) (of_decide_eq_true (by kernel_rfl)) n4 bel Z3) trodAll_mk0),rfl,bel.frame _,fun h=>by cases h⟩
theorem over:Rows.fnExactPeepRow.holds Try.pinned (OpenSpec.ofChange Rows.fnExactPeepSpec) :=
 OpenClaim.holds_of_wide 4 Try.f4 rfl rfl rfl rfl rfl rfl rfl ⟨rfl,rfl,rfl,rfl,rfl⟩ rfl rfl rfl rfl rfl (by kernel_rfl) Try.func4 (by kernel_rfl)
  (of_decide_eq_true (by kernel_rfl)) (by unfold Func.isWrapper;first|(rw [if_pos (by decide +kernel)];kernel_rfl)|(rw [if_neg (by decide +kernel)];exact ⟨rfl,rfl⟩))
  (fun os started H enc _=>lifted os started H enc)
#print axioms over
end Go.Proofs.Ytoomcmaifgkkfaa.fnExactPeep
namespace Go.Proofs.Ytoomcmaifgkkfaa
theorem fnExactPeep_holds:Rows.FnExactPeepSaid:=fnExactPeep.over
end Go.Proofs.Ytoomcmaifgkkfaa
