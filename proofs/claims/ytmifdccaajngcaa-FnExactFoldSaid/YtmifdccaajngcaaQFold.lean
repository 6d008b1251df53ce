/- The Go function FnExactFold returns true for every argument, and leaves its arguments as they were; no condition beyond the statement's own. -/
import Derived.Test.YtmifdccaajngcaaRows
import Derived.Test.YtmifdccaajngcaaQFold1
import Derived.Test.YtmifdccaajngcaaQFold11
import Derived.WalkKit
import Derived.ProofKit
import Derived.OpenShut
import Derived.ShutString
import Derived.ChangeOld
import Derived.Below
import Derived.Carry
import Derived.SizedLaws
set_option maxRecDepth 100000
namespace Go.Proofs.Ytmifdccaajngcaa.fnExactFold
open Go.ChangeShapes Go.WideShapes Go.ChangeAt Go.RowKit Go.Proofs.Ytmifdccaajngcaa.P
open Go.Proofs.Ka.Rb
open Go.ChangeMaps (open_string shut_string)
set_option linter.unusedVariables false
theorem own:ownKnob Try.prog.godebug=none:=by kernel_rfl
theorem laidOut:laidOutB Try.prog=true:=by kernel_rfl
theorem lifted (os:Os) (started:os.Started) (H:Type) (enc:TypeId × Value→H) :
  ReturnsInHanded {} Try.checked os 8 .any (Rows.fnExactFoldSpec.pre6 enc Try.prog Try.f8 Rows.fnExactFoldRow.domain false) (Rows.fnExactFoldSpec.post enc Try.prog Try.f8 false true false false):=by
 refine returnsInHanded_of_change_sized (C:=Try.checked) own started (by kernel_rfl) Try.func8
  (ChangeSpec.witness6 (enc:=enc) (C:=Try.checked) false ⟨#[],#[.agg #[.slice none 0 0,.int .i64 0,.int .i64 0,.int .i64 0,.slice none 0 0]],[]⟩ 8 (by kernel_rfl) (by kernel_rfl) (by kernel_rfl) (by kernel_rfl)) ?_
 intro W base args ds gs before ZW hW hcnd Qap _;have hval:∀ (j:Nat) t v,Try.f8.params[j]? = some t→args[j]? = some v→Value.okWide Try.prog W .any base t v:=ZW;have hW':=hW;obtain ⟨p,q,hA0,hV,rfl,hfz,hnd⟩:=hW;have hA:DataW.TrodAll enc Try.prog W 0 (fun _=>true) true Try.f8.params.toList args.toList ds p:=hA0;rw [Try.params8] at hA hval;obtain ⟨v0,vs0,d0,ds0,p0,q0,hargs,rfl,rfl,h0,r0⟩:=trodAll_cons hA;obtain ⟨rfl,rfl,rfl⟩:=trodAll_nil r0;obtain rfl:args=#[v0]:=by cases args;simp_all
 obtain ⟨rfl,rfl⟩:=trodVars_none hV;have Faq:=h0;have Caq:∀ x ∈ p0,x.block < W.heap.size:=fun x hx=>by obtain ⟨fu_,Paq⟩:=h0;exact DataW.trod_lt _ _ _ _ Paq x hx
 clear hA0 ZW Qap;obtain ⟨x0,cs0,rfl,hk0,pK⟩:=YN Try.underlying25 SS (hval 0 25 v0 rfl rfl) h0;obtain ⟨zb,yb,Yb,Nb,he0,P8,Lf,O8,Jg⟩:=pO hk0;obtain rfl:cs0=#[.slice zb x0.f0.length yb,.int .i64 x0.f1,.int .i64 x0.f2,.int .i64 x0.f3,.slice Yb x0.f4.length Nb]:=by rw [← Array.toArray_toList (xs:=cs0),he0]
 obtain ⟨k,Q8⟩:=Px x0 pK;refine (jh.calls k zb yb x0.f0 x0.f1 x0.f2 x0.f3 Yb Nb x0.f4 _ W Lf P8 Jg O8 Q8).mono fun e W' ⟨he,bel⟩=>?_
 subst he;exact ⟨_,rfl,_,_,_,[],_,[],hW',trodAll_mk1 (shut_bool Try.underlying4 _),(trodAll_cons_mk (Below.trod laidOut (by kernel_rfl) (of_decide_eq_true (by kernel_rfl)) Faq bel Caq) trodAll_mk0),rfl,bel.frame _,fun h=>by cases h⟩
theorem over:Rows.fnExactFoldRow.holds Try.pinned (OpenSpec.ofChange Rows.fnExactFoldSpec) :=
 OpenClaim.holds_of_wide 8 Try.f8 rfl rfl rfl rfl rfl rfl rfl ⟨rfl,rfl,rfl,rfl,rfl⟩ rfl rfl rfl rfl rfl (by kernel_rfl) Try.func8 (by kernel_rfl)
  (of_decide_eq_true (by kernel_rfl)) (by unfold Func.isWrapper;first|(rw [if_pos (by decide +kernel)];kernel_rfl)|(rw [if_neg (by decide +kernel)];exact ⟨rfl,rfl⟩))
  (fun os started H enc _=>lifted os started H enc)
#print axioms over
end Go.Proofs.Ytmifdccaajngcaa.fnExactFold
namespace Go.Proofs.Ytmifdccaajngcaa
theorem fnExactFold_holds:Rows.FnExactFoldSaid:=fnExactFold.over
end Go.Proofs.Ytmifdccaajngcaa
