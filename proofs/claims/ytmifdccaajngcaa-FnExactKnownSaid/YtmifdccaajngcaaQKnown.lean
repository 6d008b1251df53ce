/- The Go function FnExactKnown returns true for every argument, and leaves its arguments as they were; no condition beyond the statement's own. -/
import Derived.Test.YtmifdccaajngcaaRows
import Derived.Test.YtmifdccaajngcaaQKnown1
import Derived.Test.YtmifdccaajngcaaQKnown11
import Derived.WalkKit
import Derived.ProofKit
import Derived.OpenShut
import Derived.ShutString
import Derived.ChangeOld
import Derived.Below
import Derived.Carry
import Derived.SizedLaws
namespace Go.Proofs.Ytmifdccaajngcaa.fnExactKnown
open Go.ChangeShapes Go.WideShapes Go.ChangeAt Go.RowKit Go.Proofs.Ytmifdccaajngcaa.P
open Go.Proofs.Na.mc
open Go.ChangeMaps (open_string shut_string)
set_option linter.unusedVariables false
theorem own:ownKnob Try.prog.godebug=none:=by kernel_rfl
theorem laidOut:laidOutB Try.prog=true:=by kernel_rfl
set_option maxRecDepth 100000 in
theorem lifted (os:Os) (started:os.Started) (H:Type) (enc:TypeId × Value→H) :
  ReturnsInHanded {} Try.checked os 4 .any (Rows.fnExactKnownSpec.pre6 enc Try.prog Try.f4 Rows.fnExactKnownRow.domain false) (Rows.fnExactKnownSpec.post enc Try.prog Try.f4 false true false false):=by
 refine returnsInHanded_of_change_sized (C:=Try.checked) own started (by kernel_rfl) Try.func4
  (ChangeSpec.witness6 (enc:=enc) (C:=Try.checked) false ⟨#[],#[.agg #[.slice none 0 0,.int .i64 0,.int .i64 0,.int .i64 0,.slice none 0 0],.int .i64 0],[]⟩ 8 (by kernel_rfl) (by kernel_rfl) (by kernel_rfl) (by kernel_rfl)) ?_
 intro W base args ds gs before hval0 hW hcnd hsz0 _
 have hval:∀ (j:Nat) t v,Try.f4.params[j]? = some t→args[j]? = some v→Value.okWide Try.prog W .any base t v:=hval0
 have hW':=hW
 obtain ⟨p,q,hA0,hV,rfl,hfz,hnd⟩:=hW
 have hA:DataW.TrodAll enc Try.prog W 0 (fun _=>true) true Try.f4.params.toList args.toList ds p:=hA0
 rw [Try.params4] at hA hval
 obtain ⟨v0,vs0,d0,ds0,p0,q0,hargs,rfl,rfl,h0,r0⟩:=trodAll_cons hA
 obtain ⟨v1,vs1,d1,ds1,p1,q1,rfl,rfl,rfl,h1,r1⟩:=trodAll_cons r0
 obtain ⟨rfl,rfl,rfl⟩:=trodAll_nil r1
 obtain rfl:args=#[v0,v1]:=by cases args;simp_all
 obtain ⟨rfl,rfl⟩:=trodVars_none hV
 have hk0_:=h0
 have hk1_:=h1
 have hlt0:∀ x ∈ p0,x.block < W.heap.size:=fun x hx=>by obtain ⟨fu_,hfu_⟩:=h0;exact DataW.trod_lt _ _ _ _ hfu_ x hx
 have hlt1:∀ x ∈ p1,x.block < W.heap.size:=fun x hx=>by obtain ⟨fu_,hfu_⟩:=h1;exact DataW.trod_lt _ _ _ _ hfu_ x hx
 clear hA0 hval0 hsz0
 obtain ⟨x0,cs0,rfl,yT,hf0⟩:=rJ Try.underlying25 rM (hval 0 25 v0 rfl rfl) h0
 obtain ⟨Cb,Bb,yc,Xb,he0,hl0_0,Pf,hl0_4,Eg⟩:=BJ yT
 obtain rfl:cs0=#[.slice Cb x0.f0.length Bb,.int .i64 x0.f1,.int .i64 x0.f2,.int .i64 x0.f3,.slice yc x0.f4.length Xb]:=by rw [← Array.toArray_toList (xs:=cs0),he0]
 obtain ⟨x1,rfl,_,_,hw1⟩:=Go.ChangeShapes.open_int Try.underlying3 (hval 1 3 v1 rfl rfl) h1
 obtain ⟨k,hgood⟩:=Lu x0 x1 hf0 ((wf_i64 hw1))
 refine (Kg.calls k Cb Bb x0.f0 x0.f1 x0.f2 x0.f3 yc Xb x0.f4 x1 _ W Pf hl0_0 Eg hl0_4 hgood).mono fun e W' ⟨he,bel⟩=>?_
 subst he
 exact ⟨_,rfl,_,_,_,[],_,[],hW',trodAll_mk1 (shut_bool Try.underlying4 _),(trodAll_cons_mk (Below.trod laidOut (by kernel_rfl) (of_decide_eq_true (by kernel_rfl)) hk0_ bel hlt0) (trodAll_cons_mk (Below.trod laidOut (by kernel_rfl) (of_decide_eq_true (by kernel_rfl)) hk1_ bel hlt1) trodAll_mk0)),rfl,bel.frame _,fun h=>by cases h⟩
theorem over:Rows.fnExactKnownRow.holds Try.pinned (OpenSpec.ofChange Rows.fnExactKnownSpec) :=
 OpenClaim.holds_of_wide 4 Try.f4 rfl rfl rfl rfl rfl rfl rfl ⟨rfl,rfl,rfl,rfl,rfl⟩ rfl rfl rfl rfl rfl (by kernel_rfl) Try.func4 (by kernel_rfl)
  (of_decide_eq_true (by kernel_rfl)) (by unfold Func.isWrapper;first|(rw [if_pos (by decide +kernel)];kernel_rfl)|(rw [if_neg (by decide +kernel)];exact ⟨rfl,rfl⟩))
  (fun os started H enc _=>lifted os started H enc)
#print axioms over
end Go.Proofs.Ytmifdccaajngcaa.fnExactKnown
namespace Go.Proofs.Ytmifdccaajngcaa
theorem fnExactKnown_holds:Rows.FnExactKnownSaid:=fnExactKnown.over
end Go.Proofs.Ytmifdccaajngcaa
