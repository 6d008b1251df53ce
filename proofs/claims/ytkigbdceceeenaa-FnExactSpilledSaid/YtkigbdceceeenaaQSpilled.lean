/- The Go function FnExactSpilled returns true for every argument, and leaves its arguments as they were; no condition beyond the statement's own. -/
import Derived.Test.YtkigbdceceeenaaRows
import Derived.Test.YtkigbdceceeenaaQSpilled1
import Derived.Test.YtkigbdceceeenaaQSpilled13
import Derived.WalkKit
import Derived.ProofKit
import Derived.OpenShut
import Derived.ShutString
import Derived.ChangeOld
import Derived.Below
import Derived.Carry
import Derived.SizedLaws
set_option maxRecDepth 100000
namespace Go.Proofs.Ytkigbdceceeenaa.fnExactSpilled
open Go.ChangeShapes Go.WideShapes Go.ChangeAt Go.RowKit Go.Proofs.Ytkigbdceceeenaa.P
open Go.Proofs.Ma.Wb
open Go.ChangeMaps (open_string shut_string)
set_option linter.unusedVariables false
theorem own:ownKnob Try.prog.godebug=none:=by kernel_rfl
theorem laidOut:laidOutB Try.prog=true:=by kernel_rfl
theorem lifted (os:Os) (started:os.Started) (H:Type) (enc:TypeId × Value→H) :
  ReturnsInHanded {} Try.checked os 8 .any (Rows.fnExactSpilledSpec.pre6 enc Try.prog Try.f8 Rows.fnExactSpilledRow.domain false) (Rows.fnExactSpilledSpec.post enc Try.prog Try.f8 false true false false):=by
 refine returnsInHanded_of_change_sized (C:=Try.checked) own started (by kernel_rfl) Try.func8
  (ChangeSpec.witness6 (enc:=enc) (C:=Try.checked) false ⟨#[],#[.agg #[.slice none 0 0,.int .i64 0,.int .i64 0,.int .i64 0,.slice none 0 0],.slice none 0 0],[]⟩ 8 (by kernel_rfl) (by kernel_rfl) (by kernel_rfl) (by kernel_rfl)) ?_
 intro W base args ds gs before T8 hW hcnd dav _;have hval:∀ (j:Nat) t v,Try.f8.params[j]? = some t→args[j]? = some v→Value.okWide Try.prog W .any base t v:=T8;have hW':=hW;obtain ⟨p,q,hA0,hV,rfl,hfz,hnd⟩:=hW;have hA:DataW.TrodAll enc Try.prog W 0 (fun _=>true) true Try.f8.params.toList args.toList ds p:=hA0;rw [Try.params8] at hA hval;obtain ⟨v0,vs0,d0,ds0,p0,q0,hargs,rfl,rfl,h0,r0⟩:=trodAll_cons hA;obtain ⟨v1,vs1,d1,ds1,p1,q1,rfl,rfl,rfl,h1,r1⟩:=trodAll_cons r0;obtain ⟨rfl,rfl,rfl⟩:=trodAll_nil r1;obtain rfl:args=#[v0,v1]:=by cases args;simp_all
 obtain ⟨rfl,rfl⟩:=trodVars_none hV;have Yav:=h0;have Xav:=h1;have Sav:∀ x ∈ p0,x.block < W.heap.size:=fun x hx=>by obtain ⟨fu_,qab⟩:=h0;exact DataW.trod_lt _ _ _ _ qab x hx
 have Rav:∀ x ∈ p1,x.block < W.heap.size:=fun x hx=>by obtain ⟨fu_,qab⟩:=h1;exact DataW.trod_lt _ _ _ _ qab x hx
 clear hA0 T8 dav;obtain ⟨x0,cs0,rfl,hk0,hf0⟩:=eW Try.underlying25 E2 (hval 0 25 v0 rfl rfl) h0;obtain ⟨Wa,Xa,Jb,yb,he0,Iaf,Md,Haf,Qe⟩:=wW hk0;obtain rfl:cs0=#[.slice Wa x0.f0.length Xa,.int .i64 x0.f1,.int .i64 x0.f2,.int .i64 x0.f3,.slice Jb x0.f4.length yb]:=by rw [← Array.toArray_toList (xs:=cs0),he0]
 obtain ⟨A1,n1,c1,rfl⟩:=Go.WideShapes.okWide_slice Try.underlying22 (hval 1 22 v1 rfl rfl);obtain ⟨x1,rfl,hl1,Xk,dJ⟩:=G2 ZP h1;obtain ⟨k,Maf⟩:=iy x0 x1 hf0 dJ;refine (Fg.calls k Wa Xa x0.f0 x0.f1 x0.f2 x0.f3 Jb yb x0.f4 A1 c1 x1 _ W Md Iaf Qe Haf Xk hl1 Maf).mono fun e W' ⟨he,bel⟩=>?_
 subst he;exact ⟨_,rfl,_,_,_,[],_,[],hW',trodAll_mk1 (shut_bool Try.underlying4 _),(trodAll_cons_mk (Below.trod laidOut (by kernel_rfl) (of_decide_eq_true (by kernel_rfl)) Yav bel Sav) (trodAll_cons_mk (Below.trod laidOut (by kernel_rfl) (of_decide_eq_true (by kernel_rfl)) Xav bel Rav) trodAll_mk0)),rfl,bel.frame _,fun h=>by cases h⟩
theorem over:Rows.fnExactSpilledRow.holds Try.pinned (OpenSpec.ofChange Rows.fnExactSpilledSpec) :=
 OpenClaim.holds_of_wide 8 Try.f8 rfl rfl rfl rfl rfl rfl rfl ⟨rfl,rfl,rfl,rfl,rfl⟩ rfl rfl rfl rfl rfl (by kernel_rfl) Try.func8 (by kernel_rfl)
  (of_decide_eq_true (by kernel_rfl)) (by unfold Func.isWrapper;first|(rw [if_pos (by decide +kernel)];kernel_rfl)|(rw [if_neg (by decide +kernel)];exact ⟨rfl,rfl⟩))
  (fun os started H enc _=>lifted os started H enc)
#print axioms over
end Go.Proofs.Ytkigbdceceeenaa.fnExactSpilled
namespace Go.Proofs.Ytkigbdceceeenaa
theorem fnExactSpilled_holds:Rows.FnExactSpilledSaid:=fnExactSpilled.over
end Go.Proofs.Ytkigbdceceeenaa
