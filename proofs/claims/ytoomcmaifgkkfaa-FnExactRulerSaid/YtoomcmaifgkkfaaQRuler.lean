/- The Go function FnExactRuler returns true for every argument, and leaves its arguments as they were; no condition beyond the statement's own. -/
import Derived.Test.YtoomcmaifgkkfaaRows
import Derived.Test.YtoomcmaifgkkfaaQRuler1
import Derived.Test.YtoomcmaifgkkfaaQRuler11
import Derived.WalkKit
import Derived.ProofKit
import Derived.OpenShut
import Derived.ShutString
import Derived.ChangeOld
import Derived.Below
import Derived.Carry
import Derived.SizedLaws
set_option maxRecDepth 100000
namespace Go.Proofs.Ytoomcmaifgkkfaa.fnExactRuler
open Go.ChangeShapes Go.WideShapes Go.ChangeAt Go.RowKit Go.Proofs.Ytoomcmaifgkkfaa.P
open Go.Proofs.Ia.Pb
open Go.ChangeMaps (open_string shut_string)
set_option linter.unusedVariables false
theorem own:ownKnob Try.prog.godebug=none:=by kernel_rfl
theorem laidOut:laidOutB Try.prog=true:=by kernel_rfl
theorem lifted (os:Os) (started:os.Started) (H:Type) (enc:TypeId × Value→H) :
  ReturnsInHanded {} Try.checked os 7 .any (Rows.fnExactRulerSpec.pre6 enc Try.prog Try.f7 Rows.fnExactRulerRow.domain false) (Rows.fnExactRulerSpec.post enc Try.prog Try.f7 false true false false):=by
 refine returnsInHanded_of_change_sized (C:=Try.checked) own started (by kernel_rfl) Try.func7
  (ChangeSpec.witness6 (enc:=enc) (C:=Try.checked) false ⟨#[],#[.agg #[.slice none 0 0,.int .i64 0,.int .i64 0,.int .i64 0,.slice none 0 0]],[]⟩ 8 (by kernel_rfl) (by kernel_rfl) (by kernel_rfl) (by kernel_rfl)) ?_
 intro W base args ds gs before VX hW hcnd Van _;have hval:∀ (j:Nat) t v,Try.f7.params[j]? = some t→args[j]? = some v→Value.okWide Try.prog W .any base t v:=VX;have hW':=hW;obtain ⟨p,q,hA0,hV,rfl,hfz,L7⟩:=hW;have hA:DataW.TrodAll enc Try.prog W 0 (fun _=>true) true Try.f7.params.toList args.toList ds p:=hA0;rw [Try.params7] at hA hval;obtain ⟨v0,vs0,d0,ds0,p0,q0,hargs,rfl,rfl,h0,r0⟩:=trodAll_cons hA;obtain ⟨rfl,rfl,rfl⟩:=trodAll_nil r0;obtain rfl:args=#[v0]:=by cases args;simp_all
 obtain ⟨rfl,rfl⟩:=trodVars_none hV;have Lao:=h0;have Hao:∀ x ∈ p0,x.block < W.heap.size:=fun x hx=>by obtain ⟨fu_,Sao⟩:=h0;exact DataW.trod_lt _ _ _ _ Sao x hx
 clear hA0 VX Van;obtain ⟨x0,cs0,rfl,hk0,hf0⟩:=cQ Try.underlying40 RT (hval 0 40 v0 rfl rfl) h0;obtain ⟨qb,mb,Lb,Fb,he0,H9,we,G9,Lf⟩:=oQ hk0;obtain rfl:cs0=#[.slice qb x0.f0.length mb,.int .i64 x0.f1,.int .i64 x0.f2,.int .i64 x0.f3,.slice Lb x0.f4.length Fb]:=by rw [← Array.toArray_toList (xs:=cs0),he0]
 obtain ⟨k,I9⟩:=Fy x0 hf0;refine (Ig.calls k qb mb x0.f0 x0.f1 x0.f2 x0.f3 Lb Fb x0.f4 _ W we H9 Lf G9 I9).mono fun e W' ⟨he,bel⟩=>?_
 subst he;exact ⟨_,rfl,_,_,_,[],_,[],hW',trodAll_mk1 (shut_bool Try.underlying4 _),(trodAll_cons_mk (Below.trod laidOut (by kernel_rfl) (of_decide_eq_true (by kernel_rfl)) Lao bel Hao) trodAll_mk0),rfl,bel.frame _,fun h=>by cases h⟩
theorem over:Rows.fnExactRulerRow.holds Try.pinned (OpenSpec.ofChange Rows.fnExactRulerSpec) :=
 OpenClaim.holds_of_wide 7 Try.f7 rfl rfl rfl rfl rfl rfl rfl ⟨rfl,rfl,rfl,rfl,rfl⟩ rfl rfl rfl rfl rfl (by kernel_rfl) Try.func7 (by kernel_rfl)
  (of_decide_eq_true (by kernel_rfl)) (by unfold Func.isWrapper;first|(rw [if_pos (by decide +kernel)];kernel_rfl)|(rw [if_neg (by decide +kernel)];exact ⟨rfl,rfl⟩))
  (fun os started H enc _=>lifted os started H enc)
#print axioms over
end Go.Proofs.Ytoomcmaifgkkfaa.fnExactRuler
namespace Go.Proofs.Ytoomcmaifgkkfaa
theorem fnExactRuler_holds:Rows.FnExactRulerSaid:=fnExactRuler.over
end Go.Proofs.Ytoomcmaifgkkfaa
