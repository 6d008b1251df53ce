/- The Go function FnExactBelow returns true for every argument, and leaves its arguments as they were; no condition beyond the statement's own. -/
import Derived.Test.YtoomcmaifgkkfaaRows
import Derived.Test.YtoomcmaifgkkfaaQBelow1
import Derived.Test.YtoomcmaifgkkfaaQBelow11
import Derived.WalkKit
import Derived.ProofKit
import Derived.OpenShut
import Derived.ShutString
import Derived.ChangeOld
import Derived.Below
import Derived.Carry
import Derived.SizedLaws
set_option maxRecDepth 100000
namespace Go.Proofs.Ytoomcmaifgkkfaa.fnExactBelow
open Go.ChangeShapes Go.WideShapes Go.ChangeAt Go.RowKit Go.Proofs.Ytoomcmaifgkkfaa.P
open Go.Proofs.Ia.Qb
open Go.ChangeMaps (open_string shut_string)
set_option linter.unusedVariables false
theorem own:ownKnob Try.prog.godebug=none:=by kernel_rfl
theorem laidOut:laidOutB Try.prog=true:=by kernel_rfl
theorem lifted (os:Os) (started:os.Started) (H:Type) (enc:TypeId × Value→H) :
  ReturnsInHanded {} Try.checked os 6 .any (Rows.fnExactBelowSpec.pre6 enc Try.prog Try.f6 Rows.fnExactBelowRow.domain false) (Rows.fnExactBelowSpec.post enc Try.prog Try.f6 false true false false):=by
 refine returnsInHanded_of_change_sized (C:=Try.checked) own started (by kernel_rfl) Try.func6
  (ChangeSpec.witness6 (enc:=enc) (C:=Try.checked) false ⟨#[],#[.agg #[.slice none 0 0,.int .i64 0,.int .i64 0,.int .i64 0,.slice none 0 0],.int .i64 0],[]⟩ 8 (by kernel_rfl) (by kernel_rfl) (by kernel_rfl) (by kernel_rfl)) ?_
 intro W base args ds gs before RV hW hcnd Jal _;have hval:∀ (j:Nat) t v,Try.f6.params[j]? = some t→args[j]? = some v→Value.okWide Try.prog W .any base t v:=RV;have hW':=hW;obtain ⟨p,q,hA0,hV,rfl,hfz,S3⟩:=hW;have hA:DataW.TrodAll enc Try.prog W 0 (fun _=>true) true Try.f6.params.toList args.toList ds p:=hA0;rw [Try.params6] at hA hval;obtain ⟨v0,vs0,d0,ds0,p0,q0,hargs,rfl,rfl,h0,r0⟩:=trodAll_cons hA;obtain ⟨v1,vs1,d1,ds1,p1,q1,rfl,rfl,rfl,h1,r1⟩:=trodAll_cons r0;obtain ⟨rfl,rfl,rfl⟩:=trodAll_nil r1;obtain rfl:args=#[v0,v1]:=by cases args;simp_all
 obtain ⟨rfl,rfl⟩:=trodVars_none hV;have Eam:=h0;have Dam:=h1;have zam:∀ x ∈ p0,x.block < W.heap.size:=fun x hx=>by obtain ⟨fu_,QY⟩:=h0;exact DataW.trod_lt _ _ _ _ QY x hx
 have yam:∀ x ∈ p1,x.block < W.heap.size:=fun x hx=>by obtain ⟨fu_,QY⟩:=h1;exact DataW.trod_lt _ _ _ _ QY x hx
 clear hA0 RV Jal;obtain ⟨x0,cs0,rfl,hk0,M8⟩:=PN Try.underlying40 BR (hval 0 40 v0 rfl rfl) h0;obtain ⟨yb,xb,Rb,Ib,he0,k6,Yd,j6,Hf⟩:=ZN hk0;obtain rfl:cs0=#[.slice yb x0.f0.length xb,.int .i64 x0.f1,.int .i64 x0.f2,.int .i64 x0.f3,.slice Rb x0.f4.length Ib]:=by rw [← Array.toArray_toList (xs:=cs0),he0]
 obtain ⟨x1,rfl,_,_,hw1⟩:=Go.ChangeShapes.open_int Try.underlying3 (hval 1 3 v1 rfl rfl) h1;obtain ⟨k,l6⟩:=uw x0 x1 M8 ((wf_i64 hw1));refine (pg.calls k yb xb x0.f0 x0.f1 x0.f2 x0.f3 Rb Ib x0.f4 x1 _ W Yd k6 Hf j6 l6).mono fun e W' ⟨he,bel⟩=>?_
 subst he;exact ⟨_,rfl,_,_,_,[],_,[],hW',trodAll_mk1 (shut_bool Try.underlying4 _),(trodAll_cons_mk (Below.trod laidOut (by kernel_rfl) (of_decide_eq_true (by kernel_rfl)) Eam bel zam) (trodAll_cons_mk (Below.trod laidOut (by kernel_rfl) (of_decide_eq_true (by kernel_rfl)) Dam bel yam) trodAll_mk0)),rfl,bel.frame _,fun h=>by cases h⟩
theorem over:Rows.fnExactBelowRow.holds Try.pinned (OpenSpec.ofChange Rows.fnExactBelowSpec) :=
 OpenClaim.holds_of_wide 6 Try.f6 rfl rfl rfl rfl rfl rfl rfl ⟨rfl,rfl,rfl,rfl,rfl⟩ rfl rfl rfl rfl rfl (by kernel_rfl) Try.func6 (by kernel_rfl)
  (of_decide_eq_true (by kernel_rfl)) (by unfold Func.isWrapper;first|(rw [if_pos (by decide +kernel)];kernel_rfl)|(rw [if_neg (by decide +kernel)];exact ⟨rfl,rfl⟩))
  (fun os started H enc _=>lifted os started H enc)
#print axioms over
end Go.Proofs.Ytoomcmaifgkkfaa.fnExactBelow
namespace Go.Proofs.Ytoomcmaifgkkfaa
theorem fnExactBelow_holds:Rows.FnExactBelowSaid:=fnExactBelow.over
end Go.Proofs.Ytoomcmaifgkkfaa
