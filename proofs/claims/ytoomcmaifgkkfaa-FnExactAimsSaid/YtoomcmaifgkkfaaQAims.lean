/- The Go function FnExactAims returns true for every argument, and leaves its arguments as they were; no condition beyond the statement's own. -/
import Derived.Test.YtoomcmaifgkkfaaRows
import Derived.Test.YtoomcmaifgkkfaaQAims1
import Derived.Test.YtoomcmaifgkkfaaQAims5
import Derived.WalkKit
import Derived.ProofKit
import Derived.OpenShut
import Derived.ShutString
import Derived.ChangeOld
import Derived.Below
import Derived.Carry
import Derived.SizedLaws
set_option maxRecDepth 100000
namespace Go.Proofs.Ytoomcmaifgkkfaa.fnExactAims
open Go.ChangeShapes Go.WideShapes Go.ChangeAt Go.RowKit Go.Proofs.Ytoomcmaifgkkfaa.P
open Go.Proofs.Da.qb
open Go.ChangeMaps (open_string shut_string)
set_option linter.unusedVariables false
theorem own:ownKnob Try.prog.godebug=none:=by kernel_rfl
theorem laidOut:laidOutB Try.prog=true:=by kernel_rfl
theorem lifted (os:Os) (started:os.Started) (H:Type) (enc:TypeId × Value→H) :
  ReturnsInHanded {} Try.checked os 3 .any (Rows.fnExactAimsSpec.pre6 enc Try.prog Try.f3 Rows.fnExactAimsRow.domain false) (Rows.fnExactAimsSpec.post enc Try.prog Try.f3 false true false false):=by
 refine returnsInHanded_of_change_sized (C:=Try.checked) own started (by kernel_rfl) Try.func3
  (ChangeSpec.witness6 (enc:=enc) (C:=Try.checked) false ⟨#[],#[.agg #[.slice none 0 0,.int .i64 0,.int .i64 0,.slice none 0 0]],[]⟩ 8 (by kernel_rfl) (by kernel_rfl) (by kernel_rfl) (by kernel_rfl)) ?_
 intro W base args ds gs before CB hW hcnd KL _;have hval:∀ (j:Nat) t v,Try.f3.params[j]? = some t→args[j]? = some v→Value.okWide Try.prog W .any base t v:=CB;have hW':=hW;obtain ⟨p,q,OP,hV,rfl,hfz,yS⟩:=hW;have hA:DataW.TrodAll enc Try.prog W 0 (fun _=>true) true Try.f3.params.toList args.toList ds p:=OP;rw [Try.params3] at hA hval;obtain ⟨v0,wS,d0,JS,p0,q0,hargs,rfl,rfl,h0,r0⟩:=trodAll_cons hA;obtain ⟨rfl,rfl,rfl⟩:=trodAll_nil r0;obtain rfl:args=#[v0]:=by cases args;simp_all
 obtain ⟨rfl,rfl⟩:=trodVars_none hV;have PL:=h0;have OL:∀ x ∈ p0,x.block < W.heap.size:=fun x hx=>by obtain ⟨GS,YL⟩:=h0;exact DataW.trod_lt _ _ _ _ YL x hx
 clear OP CB KL;obtain ⟨x0,cs0,rfl,hk0,qR⟩:=Mw Try.underlying25 Vy (hval 0 25 v0 rfl rfl) h0;obtain ⟨zb,yb,Eb,Ab,sR,pF,Fe,oF,Ee⟩:=Tw hk0;obtain rfl:cs0=#[.slice zb x0.f0.length yb,.int .i64 x0.f1,.int .i64 x0.f2,.slice Eb x0.f3.length Ab]:=by rw [← Array.toArray_toList (xs:=cs0),sR]
 obtain ⟨k,qF⟩:=Um x0 qR;refine (xe.calls k zb yb x0.f0 x0.f1 x0.f2 Eb Ab x0.f3 _ W Fe pF Ee oF qF).mono fun e W' ⟨he,kQ⟩=>?_
 subst he;exact ⟨_,rfl,_,_,_,[],_,[],hW',trodAll_mk1 (shut_bool Try.underlying4 _),(trodAll_cons_mk (Below.trod laidOut (by kernel_rfl) (of_decide_eq_true (by kernel_rfl)) PL kQ OL) trodAll_mk0),rfl,kQ.frame _,fun h=>by cases h⟩
theorem over:Rows.fnExactAimsRow.holds Try.pinned (OpenSpec.ofChange Rows.fnExactAimsSpec) :=
 OpenClaim.holds_of_wide 3 Try.f3 rfl rfl rfl rfl rfl rfl rfl ⟨rfl,rfl,rfl,rfl,rfl⟩ rfl rfl rfl rfl rfl (by kernel_rfl) Try.func3 (by kernel_rfl)
  (of_decide_eq_true (by kernel_rfl)) (by unfold Func.isWrapper;first|(rw [if_pos (by decide +kernel)];kernel_rfl)|(rw [if_neg (by decide +kernel)];exact ⟨rfl,rfl⟩))
  (fun os started H enc _=>lifted os started H enc)
#print axioms over
end Go.Proofs.Ytoomcmaifgkkfaa.fnExactAims
namespace Go.Proofs.Ytoomcmaifgkkfaa
theorem fnExactAims_holds:Rows.FnExactAimsSaid:=fnExactAims.over
end Go.Proofs.Ytoomcmaifgkkfaa
