/- The Go function FnExactBacks returns true for every argument, and leaves its arguments as they were; no condition beyond the statement's own. -/
import Derived.Test.YtoomcmaifgkkfaaRows
import Derived.Test.YtoomcmaifgkkfaaQBacks1
import Derived.Test.YtoomcmaifgkkfaaQBacks8
import Derived.WalkKit
import Derived.ProofKit
import Derived.OpenShut
import Derived.ShutString
import Derived.ChangeOld
import Derived.Below
import Derived.Carry
import Derived.SizedLaws
set_option maxRecDepth 100000
namespace Go.Proofs.Ytoomcmaifgkkfaa.fnExactBacks
open Go.ChangeShapes Go.WideShapes Go.ChangeAt Go.RowKit Go.Proofs.Ytoomcmaifgkkfaa.P
open Go.Proofs.ua.zb
open Go.ChangeMaps (open_string shut_string)
set_option linter.unusedVariables false
theorem own:ownKnob Try.prog.godebug=none:=by kernel_rfl
theorem laidOut:laidOutB Try.prog=true:=by kernel_rfl
theorem lifted (os:Os) (started:os.Started) (H:Type) (enc:TypeId × Value→H) :
  ReturnsInHanded {} Try.checked os 10 .any (Rows.fnExactBacksSpec.pre6 enc Try.prog Try.f10 Rows.fnExactBacksRow.domain false) (Rows.fnExactBacksSpec.post enc Try.prog Try.f10 false true false false):=by
 refine returnsInHanded_of_change_sized (C:=Try.checked) own started (by kernel_rfl) Try.func10
  (ChangeSpec.witness6 (enc:=enc) (C:=Try.checked) false ⟨#[],#[.agg #[.slice none 0 0,.int .i64 0,.int .i64 0,.int .i64 0,.slice none 0 0]],[]⟩ 8 (by kernel_rfl) (by kernel_rfl) (by kernel_rfl) (by kernel_rfl)) ?_
 intro W base args ds gs before XL hW hcnd NZ _;have hval:∀ (j:Nat) t v,Try.f10.params[j]? = some t→args[j]? = some v→Value.okWide Try.prog W .any base t v:=XL;have hW':=hW;obtain ⟨p,q,q_,hV,rfl,hfz,uR⟩:=hW;have hA:DataW.TrodAll enc Try.prog W 0 (fun _=>true) true Try.f10.params.toList args.toList ds p:=q_;rw [Try.params10] at hA hval;obtain ⟨v0,vs0,d0,ds0,p0,q0,hargs,rfl,rfl,h0,r0⟩:=trodAll_cons hA;obtain ⟨rfl,rfl,rfl⟩:=trodAll_nil r0;obtain rfl:args=#[v0]:=by cases args;simp_all
 obtain ⟨rfl,rfl⟩:=trodVars_none hV;have L0:=h0;have I0:∀ x ∈ p0,x.block < W.heap.size:=fun x hx=>by obtain ⟨fu_,Z0⟩:=h0;exact DataW.trod_lt _ _ _ _ Z0 x hx
 clear q_ XL NZ;obtain ⟨x0,cs0,rfl,hk0,DS⟩:=yG Try.underlying40 nK (hval 0 40 v0 rfl rfl) h0;obtain ⟨Bb,Ab,Qb,Gb,he0,vS,Nd,uS,Ve⟩:=IG hk0;obtain rfl:cs0=#[.slice Bb x0.f0.length Ab,.int .i64 x0.f1,.int .i64 x0.f2,.int .i64 x0.f3,.slice Qb x0.f4.length Gb]:=by rw [← Array.toArray_toList (xs:=cs0),he0]
 obtain ⟨k,xS⟩:=dr x0 DS;refine (af.calls k Bb Ab x0.f0 x0.f1 x0.f2 x0.f3 Qb Gb x0.f4 _ W Nd vS Ve uS xS).mono fun e W' ⟨he,M_⟩=>?_
 subst he;exact ⟨_,rfl,_,_,_,[],_,[],hW',trodAll_mk1 (shut_bool Try.underlying4 _),(trodAll_cons_mk (Below.trod laidOut (by kernel_rfl) (of_decide_eq_true (by kernel_rfl)) L0 M_ I0) trodAll_mk0),rfl,M_.frame _,fun h=>by cases h⟩
theorem over:Rows.fnExactBacksRow.holds Try.pinned (OpenSpec.ofChange Rows.fnExactBacksSpec) :=
 OpenClaim.holds_of_wide 10 Try.f10 rfl rfl rfl rfl rfl rfl rfl ⟨rfl,rfl,rfl,rfl,rfl⟩ rfl rfl rfl rfl rfl (by kernel_rfl) Try.func10 (by kernel_rfl)
  (of_decide_eq_true (by kernel_rfl)) (by unfold Func.isWrapper;first|(rw [if_pos (by decide +kernel)];kernel_rfl)|(rw [if_neg (by decide +kernel)];exact ⟨rfl,rfl⟩))
  (fun os started H enc _=>lifted os started H enc)
#print axioms over
end Go.Proofs.Ytoomcmaifgkkfaa.fnExactBacks
namespace Go.Proofs.Ytoomcmaifgkkfaa
theorem fnExactBacks_holds:Rows.FnExactBacksSaid:=fnExactBacks.over
end Go.Proofs.Ytoomcmaifgkkfaa
