/- The Go function FnExactFresh returns true for every argument, and leaves its arguments as they were; no condition beyond the statement's own. -/
import Derived.Test.YtmifdccaajngcaaRows
import Derived.Test.YtmifdccaajngcaaQFresh1
import Derived.Test.YtmifdccaajngcaaQFresh10
import Derived.WalkKit
import Derived.ProofKit
import Derived.OpenShut
import Derived.ShutString
import Derived.ChangeOld
import Derived.Below
import Derived.Carry
import Derived.SizedLaws
namespace Go.Proofs.Ytmifdccaajngcaa.fnExactFresh
open Go.ChangeShapes Go.WideShapes Go.ChangeAt Go.RowKit Go.Proofs.Ytmifdccaajngcaa.P
open Go.Proofs.Ca.xb
open Go.ChangeMaps (open_string shut_string)
set_option linter.unusedVariables false
theorem own:ownKnob Try.prog.godebug=none:=by kernel_rfl
theorem laidOut:laidOutB Try.prog=true:=by kernel_rfl
set_option maxRecDepth 100000 in
theorem lifted (os:Os) (started:os.Started) (H:Type) (enc:TypeId × Value→H) :
  ReturnsInHanded {} Try.checked os 3 .any (Rows.fnExactFreshSpec.pre6 enc Try.prog Try.f3 Rows.fnExactFreshRow.domain false) (Rows.fnExactFreshSpec.post enc Try.prog Try.f3 false true false false):=by
 refine returnsInHanded_of_change_sized (C:=Try.checked) own started (by kernel_rfl) Try.func3
  (ChangeSpec.witness6 (enc:=enc) (C:=Try.checked) false ⟨#[],#[.agg #[.slice none 0 0,.int .i64 0,.int .i64 0,.int .i64 0,.slice none 0 0],.int .i64 0],[]⟩ 8 (by kernel_rfl) (by kernel_rfl) (by kernel_rfl) (by kernel_rfl)) ?_
 intro W base args ds gs before hval0 hW hcnd hsz0 _
 have hval:∀ (j:Nat) t v,Try.f3.params[j]? = some t→args[j]? = some v→Value.okWide Try.prog W .any base t v:=hval0
 have hW':=hW
 obtain ⟨p,q,hA0,hV,rfl,hfz,hnd⟩:=hW
 have hA:DataW.TrodAll enc Try.prog W 0 (fun _=>true) true Try.f3.params.toList args.toList ds p:=hA0
 rw [Try.params3] at hA hval
 obtain ⟨v0,vs0,d0,ds0,p0,q0,hargs,rfl,rfl,h0,r0⟩:=trodAll_cons hA
 obtain ⟨v1,vs1,d1,ds1,p1,q1,rfl,rfl,rfl,h1,r1⟩:=trodAll_cons r0
 obtain ⟨rfl,rfl,rfl⟩:=trodAll_nil r1
 obtain rfl:args=#[v0,v1]:=by cases args;simp_all
 obtain ⟨rfl,rfl⟩:=trodVars_none hV
 have hk0_:=h0
 have hk1_:=h1
 have hlt0:∀ x ∈ p0,x.block < W.heap.size:=fun x hx=>by obtain ⟨fu_,hfu_⟩:=h0;exact DataW.trod_lt _ _ _ _ hfu_ x hx
 have hlt1:∀ x ∈ p1,x.block < W.heap.size:=fun x hx=>by obtain ⟨fu_,hfu_⟩:=h1;exact DataW.trod_lt _ _ _ _ hfu_ x hx
 clear hA0 hval0 hsz0
 obtain ⟨x0,cs0,rfl,nr,hf0⟩:=CH Try.underlying25 fK (hval 0 25 v0 rfl rfl) h0
 obtain ⟨Ib,Gb,qc,dc,he0,hl0_0,uf,hl0_4,cg⟩:=NH nr
 obtain rfl:cs0=#[.slice Ib x0.f0.length Gb,.int .i64 x0.f1,.int .i64 x0.f2,.int .i64 x0.f3,.slice qc x0.f4.length dc]:=by rw [← Array.toArray_toList (xs:=cs0),he0]
 obtain ⟨x1,rfl,_,_,hw1⟩:=Go.ChangeShapes.open_int Try.underlying3 (hval 1 3 v1 rfl rfl) h1
 obtain ⟨k,hgood⟩:=Gt x0 x1 hf0 ((wf_i64 hw1))
 refine (Ke.calls k Ib Gb x0.f0 x0.f1 x0.f2 x0.f3 qc dc x0.f4 x1 _ W uf hl0_0 cg hl0_4 hgood).mono fun e W' ⟨he,bel⟩=>?_
 subst he
 exact ⟨_,rfl,_,_,_,[],_,[],hW',trodAll_mk1 (shut_bool Try.underlying4 _),(trodAll_cons_mk (Below.trod laidOut (by kernel_rfl) (of_decide_eq_true (by kernel_rfl)) hk0_ bel hlt0) (trodAll_cons_mk (Below.trod laidOut (by kernel_rfl) (of_decide_eq_true (by kernel_rfl)) hk1_ bel hlt1) trodAll_mk0)),rfl,bel.frame _,fun h=>by cases h⟩
theorem over:Rows.fnExactFreshRow.holds Try.pinned (OpenSpec.ofChange Rows.fnExactFreshSpec) :=
 OpenClaim.holds_of_wide 3 Try.f3 rfl rfl rfl rfl rfl rfl rfl ⟨rfl,rfl,rfl,rfl,rfl⟩ rfl rfl rfl rfl rfl (by kernel_rfl) Try.func3 (by kernel_rfl)
  (of_decide_eq_true (by kernel_rfl)) (by unfold Func.isWrapper;first|(rw [if_pos (by decide +kernel)];kernel_rfl)|(rw [if_neg (by decide +kernel)];exact ⟨rfl,rfl⟩))
  (fun os started H enc _=>lifted os started H enc)
#print axioms over
end Go.Proofs.Ytmifdccaajngcaa.fnExactFresh
namespace Go.Proofs.Ytmifdccaajngcaa
theorem fnExactFresh_holds:Rows.FnExactFreshSaid:=fnExactFresh.over
end Go.Proofs.Ytmifdccaajngcaa
