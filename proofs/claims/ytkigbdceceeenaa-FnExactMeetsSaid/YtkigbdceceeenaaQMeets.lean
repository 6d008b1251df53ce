/- The Go function FnExactMeets returns true for every argument, and leaves its arguments as they were; no condition beyond the statement's own. -/
import Derived.Test.YtkigbdceceeenaaRows
import Derived.Test.YtkigbdceceeenaaQMeets1
import Derived.Test.YtkigbdceceeenaaQMeets11
import Derived.WalkKit
import Derived.ProofKit
import Derived.OpenShut
import Derived.ShutString
import Derived.ChangeOld
import Derived.Below
import Derived.Carry
import Derived.SizedLaws
set_option maxRecDepth 100000
namespace Go.Proofs.Ytkigbdceceeenaa.fnExactMeets
open Go.ChangeShapes Go.WideShapes Go.ChangeAt Go.RowKit Go.Proofs.Ytkigbdceceeenaa.P
open Go.Proofs.Pa.Ub
open Go.ChangeMaps (open_string shut_string)
set_option linter.unusedVariables false
theorem own:ownKnob Try.prog.godebug=none:=by kernel_rfl
theorem laidOut:laidOutB Try.prog=true:=by kernel_rfl
theorem lifted (os:Os) (started:os.Started) (H:Type) (enc:TypeId × Value→H) :
  ReturnsInHanded {} Try.checked os 6 .any (Rows.fnExactMeetsSpec.pre6 enc Try.prog Try.f6 Rows.fnExactMeetsRow.domain false) (Rows.fnExactMeetsSpec.post enc Try.prog Try.f6 false true false false):=by
 refine returnsInHanded_of_change_sized (C:=Try.checked) own started (by kernel_rfl) Try.func6
  (ChangeSpec.witness6 (enc:=enc) (C:=Try.checked) false ⟨#[],#[.agg #[.slice none 0 0,.int .i64 0,.int .i64 0,.int .i64 0,.slice none 0 0]],[]⟩ 8 (by kernel_rfl) (by kernel_rfl) (by kernel_rfl) (by kernel_rfl)) ?_
 intro W base args ds gs before QZ hW hcnd sap _;have hval:∀ (j:Nat) t v,Try.f6.params[j]? = some t→args[j]? = some v→Value.okWide Try.prog W .any base t v:=QZ;have hW':=hW;obtain ⟨p,q,hA0,hV,rfl,hfz,hnd⟩:=hW;have hA:DataW.TrodAll enc Try.prog W 0 (fun _=>true) true Try.f6.params.toList args.toList ds p:=hA0;rw [Try.params6] at hA hval;obtain ⟨v0,vs0,d0,ds0,p0,q0,hargs,rfl,rfl,h0,r0⟩:=trodAll_cons hA;obtain ⟨rfl,rfl,rfl⟩:=trodAll_nil r0;obtain rfl:args=#[v0]:=by cases args;simp_all
 obtain ⟨rfl,rfl⟩:=trodVars_none hV;have paq:=h0;have iaq:∀ x ∈ p0,x.block < W.heap.size:=fun x hx=>by obtain ⟨fu_,uaq⟩:=h0;exact DataW.trod_lt _ _ _ _ uaq x hx
 clear hA0 QZ sap;obtain ⟨x0,cs0,rfl,hk0,hf0⟩:=VR Try.underlying25 ZV (hval 0 25 v0 rfl rfl) h0;obtain ⟨Xa,Ya,Mb,Fb,he0,Haa,Vd,Gaa,uf⟩:=oS hk0;obtain rfl:cs0=#[.slice Xa x0.f0.length Ya,.int .i64 x0.f1,.int .i64 x0.f2,.int .i64 x0.f3,.slice Mb x0.f4.length Fb]:=by rw [← Array.toArray_toList (xs:=cs0),he0]
 obtain ⟨k,Kaa⟩:=Jz x0 hf0;refine (Dg.calls k Xa Ya x0.f0 x0.f1 x0.f2 x0.f3 Mb Fb x0.f4 _ W Vd Haa uf Gaa Kaa).mono fun e W' ⟨he,bel⟩=>?_
 subst he;exact ⟨_,rfl,_,_,_,[],_,[],hW',trodAll_mk1 (shut_bool Try.underlying4 _),(trodAll_cons_mk (Below.trod laidOut (by kernel_rfl) (of_decide_eq_true (by kernel_rfl)) paq bel iaq) trodAll_mk0),rfl,bel.frame _,fun h=>by cases h⟩
theorem over:Rows.fnExactMeetsRow.holds Try.pinned (OpenSpec.ofChange Rows.fnExactMeetsSpec) :=
 OpenClaim.holds_of_wide 6 Try.f6 rfl rfl rfl rfl rfl rfl rfl ⟨rfl,rfl,rfl,rfl,rfl⟩ rfl rfl rfl rfl rfl (by kernel_rfl) Try.func6 (by kernel_rfl)
  (of_decide_eq_true (by kernel_rfl)) (by unfold Func.isWrapper;first|(rw [if_pos (by decide +kernel)];kernel_rfl)|(rw [if_neg (by decide +kernel)];exact ⟨rfl,rfl⟩))
  (fun os started H enc _=>lifted os started H enc)
#print axioms over
end Go.Proofs.Ytkigbdceceeenaa.fnExactMeets
namespace Go.Proofs.Ytkigbdceceeenaa
theorem fnExactMeets_holds:Rows.FnExactMeetsSaid:=fnExactMeets.over
end Go.Proofs.Ytkigbdceceeenaa
