/- The Go function FnExactLoop returns true for every argument, and leaves its arguments as they were; no condition beyond the statement's own. -/
import Derived.Test.YtoomcmaifgkkfaaRows
import Derived.Test.YtoomcmaifgkkfaaQLoop1
import Derived.Test.YtoomcmaifgkkfaaQLoop9
import Derived.WalkKit
import Derived.ProofKit
import Derived.OpenShut
import Derived.ShutString
import Derived.ChangeOld
import Derived.Below
import Derived.Carry
import Derived.SizedLaws
set_option maxRecDepth 100000
namespace Go.Proofs.Ytoomcmaifgkkfaa.fnExactLoop
open Go.ChangeShapes Go.WideShapes Go.ChangeAt Go.RowKit Go.Proofs.Ytoomcmaifgkkfaa.P
open Go.Proofs.Aa.Db
open Go.ChangeMaps (open_string shut_string)
set_option linter.unusedVariables false
theorem own:ownKnob Try.prog.godebug=none:=by kernel_rfl
theorem laidOut:laidOutB Try.prog=true:=by kernel_rfl
theorem lifted (os:Os) (started:os.Started) (H:Type) (enc:TypeId × Value→H) :
  ReturnsInHanded {} Try.checked os 11 .any (Rows.fnExactLoopSpec.pre6 enc Try.prog Try.f11 Rows.fnExactLoopRow.domain false) (Rows.fnExactLoopSpec.post enc Try.prog Try.f11 false true false false):=by
 refine returnsInHanded_of_change_sized (C:=Try.checked) own started (by kernel_rfl) Try.func11
  (ChangeSpec.witness6 (enc:=enc) (C:=Try.checked) false ⟨#[],#[.agg #[.slice none 0 0,.int .i64 0,.int .i64 0,.int .i64 0,.slice none 0 0],.int .i64 0,.int .i64 0],[]⟩ 8 (by kernel_rfl) (by kernel_rfl) (by kernel_rfl) (by kernel_rfl)) ?_
 intro W base args ds gs before AO hW hcnd k7 _;have hval:∀ (j:Nat) t v,Try.f11.params[j]? = some t→args[j]? = some v→Value.okWide Try.prog W .any base t v:=AO;have hW':=hW;obtain ⟨p,q,hA0,hV,rfl,hfz,BU⟩:=hW;have hA:DataW.TrodAll enc Try.prog W 0 (fun _=>true) true Try.f11.params.toList args.toList ds p:=hA0;rw [Try.params11] at hA hval;obtain ⟨v0,vs0,d0,ds0,p0,q0,hargs,rfl,rfl,h0,r0⟩:=trodAll_cons hA;obtain ⟨v1,vs1,d1,ds1,p1,q1,rfl,rfl,rfl,h1,r1⟩:=trodAll_cons r0;obtain ⟨v2,vs2,d2,ds2,p2,q2,rfl,rfl,rfl,h2,r2⟩:=trodAll_cons r1;obtain ⟨rfl,rfl,rfl⟩:=trodAll_nil r2;obtain rfl:args=#[v0,v1,v2]:=by cases args;simp_all
 obtain ⟨rfl,rfl⟩:=trodVars_none hV;have R7:=h0;have Q7:=h1;have P7:=h2;have M7:∀ x ∈ p0,x.block < W.heap.size:=fun x hx=>by obtain ⟨fu_,iJ⟩:=h0;exact DataW.trod_lt _ _ _ _ iJ x hx
 have L7:∀ x ∈ p1,x.block < W.heap.size:=fun x hx=>by obtain ⟨fu_,iJ⟩:=h1;exact DataW.trod_lt _ _ _ _ iJ x hx
 have hlt2:∀ x ∈ p2,x.block < W.heap.size:=fun x hx=>by obtain ⟨fu_,iJ⟩:=h2;exact DataW.trod_lt _ _ _ _ iJ x hx
 clear hA0 AO k7;obtain ⟨x0,cs0,rfl,hk0,LV⟩:=pI Try.underlying40 TL (hval 0 40 v0 rfl rfl) h0;obtain ⟨zb,yb,Ob,Fb,he0,EV,Ad,DV,Fe⟩:=zI hk0;obtain rfl:cs0=#[.slice zb x0.f0.length yb,.int .i64 x0.f1,.int .i64 x0.f2,.int .i64 x0.f3,.slice Ob x0.f4.length Fb]:=by rw [← Array.toArray_toList (xs:=cs0),he0]
 obtain ⟨x1,rfl,_,_,hw1⟩:=Go.ChangeShapes.open_int Try.underlying3 (hval 1 3 v1 rfl rfl) h1;obtain ⟨x2,rfl,_,_,hw2⟩:=Go.ChangeShapes.open_int Try.underlying3 (hval 2 3 v2 rfl rfl) h2;obtain ⟨k,GV⟩:=Iu x0 x1 x2 LV ((wf_i64 hw1)) ((wf_i64 hw2));refine (Yf.calls k zb yb x0.f0 x0.f1 x0.f2 x0.f3 Ob Fb x0.f4 x1 x2 _ W Ad EV Fe DV GV).mono fun e W' ⟨he,K4⟩=>?_
 subst he;exact ⟨_,rfl,_,_,_,[],_,[],hW',trodAll_mk1 (shut_bool Try.underlying4 _),(trodAll_cons_mk (Below.trod laidOut (by kernel_rfl) (of_decide_eq_true (by kernel_rfl)) R7 K4 M7) (trodAll_cons_mk (Below.trod laidOut (by kernel_rfl) (of_decide_eq_true (by kernel_rfl)) Q7 K4 L7) (trodAll_cons_mk (Below.trod laidOut (by kernel_rfl) (of_decide_eq_true (by kernel_rfl)) P7 K4 hlt2) trodAll_mk0))),rfl,K4.frame _,fun h=>by cases h⟩
theorem over:Rows.fnExactLoopRow.holds Try.pinned (OpenSpec.ofChange Rows.fnExactLoopSpec) :=
 OpenClaim.holds_of_wide 11 Try.f11 rfl rfl rfl rfl rfl rfl rfl ⟨rfl,rfl,rfl,rfl,rfl⟩ rfl rfl rfl rfl rfl (by kernel_rfl) Try.func11 (by kernel_rfl)
  (of_decide_eq_true (by kernel_rfl)) (by unfold Func.isWrapper;first|(rw [if_pos (by decide +kernel)];kernel_rfl)|(rw [if_neg (by decide +kernel)];exact ⟨rfl,rfl⟩))
  (fun os started H enc _=>lifted os started H enc)
#print axioms over
end Go.Proofs.Ytoomcmaifgkkfaa.fnExactLoop
namespace Go.Proofs.Ytoomcmaifgkkfaa
theorem fnExactLoop_holds:Rows.FnExactLoopSaid:=fnExactLoop.over
end Go.Proofs.Ytoomcmaifgkkfaa
