/- The Go function FnExactRules returns true for every argument, and leaves its arguments as they were; no condition beyond the statement's own. -/
import Derived.Test.YtoomcmaifgkkfaaRows
import Derived.Test.YtoomcmaifgkkfaaQRules1
import Derived.Test.YtoomcmaifgkkfaaQRules10
import Derived.WalkKit
import Derived.ProofKit
import Derived.OpenShut
import Derived.ShutString
import Derived.ChangeOld
import Derived.Below
import Derived.Carry
import Derived.SizedLaws
set_option maxRecDepth 100000
namespace Go.Proofs.Ytoomcmaifgkkfaa.fnExactRules
open Go.ChangeShapes Go.WideShapes Go.ChangeAt Go.RowKit Go.Proofs.Ytoomcmaifgkkfaa.P
open Go.Proofs.Ia.Qb
open Go.ChangeMaps (open_string shut_string)
set_option linter.unusedVariables false
theorem own:ownKnob Try.prog.godebug=none:=by kernel_rfl
theorem laidOut:laidOutB Try.prog=true:=by kernel_rfl
theorem lifted (os:Os) (started:os.Started) (H:Type) (enc:TypeId × Value→H) :
  ReturnsInHanded {} Try.checked os 8 .any (Rows.fnExactRulesSpec.pre6 enc Try.prog Try.f8 Rows.fnExactRulesRow.domain false) (Rows.fnExactRulesSpec.post enc Try.prog Try.f8 false true false false):=by
 refine returnsInHanded_of_change_sized (C:=Try.checked) own started (by kernel_rfl) Try.func8
  (ChangeSpec.witness6 (enc:=enc) (C:=Try.checked) false ⟨#[],#[.agg #[.slice none 0 0,.int .i64 0,.int .i64 0,.int .i64 0,.slice none 0 0]],[]⟩ 8 (by kernel_rfl) (by kernel_rfl) (by kernel_rfl) (by kernel_rfl)) ?_
 intro W base args ds gs before iW hW hcnd pam _;have hval:∀ (j:Nat) t v,Try.f8.params[j]? = some t→args[j]? = some v→Value.okWide Try.prog W .any base t v:=iW;have hW':=hW;obtain ⟨p,q,hA0,hV,rfl,hfz,Y4⟩:=hW;have hA:DataW.TrodAll enc Try.prog W 0 (fun _=>true) true Try.f8.params.toList args.toList ds p:=hA0;rw [Try.params8] at hA hval;obtain ⟨v0,vs0,d0,ds0,p0,q0,hargs,rfl,rfl,h0,r0⟩:=trodAll_cons hA;obtain ⟨rfl,rfl,rfl⟩:=trodAll_nil r0;obtain rfl:args=#[v0]:=by cases args;simp_all
 obtain ⟨rfl,rfl⟩:=trodVars_none hV;have han:=h0;have ban:∀ x ∈ p0,x.block < W.heap.size:=fun x hx=>by obtain ⟨fu_,qan⟩:=h0;exact DataW.trod_lt _ _ _ _ qan x hx
 clear hA0 iW pam;obtain ⟨x0,cs0,rfl,hk0,E9⟩:=dO Try.underlying40 TR (hval 0 40 v0 rfl rfl) h0;obtain ⟨xb,qb,Pb,Gb,he0,Y6,we,X6,Uf⟩:=qO hk0;obtain rfl:cs0=#[.slice xb x0.f0.length qb,.int .i64 x0.f1,.int .i64 x0.f2,.int .i64 x0.f3,.slice Pb x0.f4.length Gb]:=by rw [← Array.toArray_toList (xs:=cs0),he0]
 obtain ⟨k,Z6⟩:=Zw x0 E9;refine (xg.calls k xb qb x0.f0 x0.f1 x0.f2 x0.f3 Pb Gb x0.f4 _ W we Y6 Uf X6 Z6).mono fun e W' ⟨he,bel⟩=>?_
 subst he;exact ⟨_,rfl,_,_,_,[],_,[],hW',trodAll_mk1 (shut_bool Try.underlying4 _),(trodAll_cons_mk (Below.trod laidOut (by kernel_rfl) (of_decide_eq_true (by kernel_rfl)) han bel ban) trodAll_mk0),rfl,bel.frame _,fun h=>by cases h⟩
theorem over:Rows.fnExactRulesRow.holds Try.pinned (OpenSpec.ofChange Rows.fnExactRulesSpec) :=
 OpenClaim.holds_of_wide 8 Try.f8 rfl rfl rfl rfl rfl rfl rfl ⟨rfl,rfl,rfl,rfl,rfl⟩ rfl rfl rfl rfl rfl (by kernel_rfl) Try.func8 (by kernel_rfl)
  (of_decide_eq_true (by kernel_rfl)) (by unfold Func.isWrapper;first|(rw [if_pos (by decide +kernel)];kernel_rfl)|(rw [if_neg (by decide +kernel)];exact ⟨rfl,rfl⟩))
  (fun os started H enc _=>lifted os started H enc)
#print axioms over
end Go.Proofs.Ytoomcmaifgkkfaa.fnExactRules
namespace Go.Proofs.Ytoomcmaifgkkfaa
theorem fnExactRules_holds:Rows.FnExactRulesSaid:=fnExactRules.over
end Go.Proofs.Ytoomcmaifgkkfaa
