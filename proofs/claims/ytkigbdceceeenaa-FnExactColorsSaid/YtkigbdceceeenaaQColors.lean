/- The Go function FnExactColors returns true for every argument, and leaves its arguments as they were; no condition beyond the statement's own. -/
import Derived.Test.YtkigbdceceeenaaRows
import Derived.Test.YtkigbdceceeenaaQColors1
import Derived.Test.YtkigbdceceeenaaQColors13
import Derived.WalkKit
import Derived.ProofKit
import Derived.OpenShut
import Derived.ShutString
import Derived.ChangeOld
import Derived.Below
import Derived.Carry
import Derived.SizedLaws
set_option maxRecDepth 100000
namespace Go.Proofs.Ytkigbdceceeenaa.fnExactColors
open Go.ChangeShapes Go.WideShapes Go.ChangeAt Go.RowKit Go.Proofs.Ytkigbdceceeenaa.P
open Go.Proofs.Ma.Tb
open Go.ChangeMaps (open_string shut_string)
set_option linter.unusedVariables false
theorem own:ownKnob Try.prog.godebug=none:=by kernel_rfl
theorem laidOut:laidOutB Try.prog=true:=by kernel_rfl
theorem lifted (os:Os) (started:os.Started) (H:Type) (enc:TypeId × Value→H) :
  ReturnsInHanded {} Try.checked os 7 .any (Rows.fnExactColorsSpec.pre6 enc Try.prog Try.f7 Rows.fnExactColorsRow.domain false) (Rows.fnExactColorsSpec.post enc Try.prog Try.f7 false true false false):=by
 refine returnsInHanded_of_change_sized (C:=Try.checked) own started (by kernel_rfl) Try.func7
  (ChangeSpec.witness6 (enc:=enc) (C:=Try.checked) false ⟨#[],#[.agg #[.slice none 0 0,.int .i64 0,.int .i64 0,.int .i64 0,.slice none 0 0],.int .i64 0],[]⟩ 8 (by kernel_rfl) (by kernel_rfl) (by kernel_rfl) (by kernel_rfl)) ?_
 intro W base args ds gs before O7 hW hcnd Aau _;have hval:∀ (j:Nat) t v,Try.f7.params[j]? = some t→args[j]? = some v→Value.okWide Try.prog W .any base t v:=O7;have hW':=hW;obtain ⟨p,q,hA0,hV,rfl,hfz,hnd⟩:=hW;have hA:DataW.TrodAll enc Try.prog W 0 (fun _=>true) true Try.f7.params.toList args.toList ds p:=hA0;rw [Try.params7] at hA hval;obtain ⟨v0,vs0,d0,ds0,p0,q0,hargs,rfl,rfl,h0,r0⟩:=trodAll_cons hA;obtain ⟨v1,vs1,d1,ds1,p1,q1,rfl,rfl,rfl,h1,r1⟩:=trodAll_cons r0;obtain ⟨rfl,rfl,rfl⟩:=trodAll_nil r1;obtain rfl:args=#[v0,v1]:=by cases args;simp_all
 obtain ⟨rfl,rfl⟩:=trodVars_none hV;have uav:=h0;have tav:=h1;have oav:∀ x ∈ p0,x.block < W.heap.size:=fun x hx=>by obtain ⟨fu_,Daa⟩:=h0;exact DataW.trod_lt _ _ _ _ Daa x hx
 have nav:∀ x ∈ p1,x.block < W.heap.size:=fun x hx=>by obtain ⟨fu_,Daa⟩:=h1;exact DataW.trod_lt _ _ _ _ Daa x hx
 clear hA0 O7 Aau;obtain ⟨x0,cs0,rfl,hk0,hf0⟩:=iW Try.underlying25 W0 (hval 0 25 v0 rfl rfl) h0;obtain ⟨Ya,Za,Mb,Cb,he0,naf,Rd,maf,kf⟩:=zW hk0;obtain rfl:cs0=#[.slice Ya x0.f0.length Za,.int .i64 x0.f1,.int .i64 x0.f2,.int .i64 x0.f3,.slice Mb x0.f4.length Cb]:=by rw [← Array.toArray_toList (xs:=cs0),he0]
 obtain ⟨x1,rfl,_,_,hw1⟩:=Go.ChangeShapes.open_int Try.underlying3 (hval 1 3 v1 rfl rfl) h1;obtain ⟨k,saf⟩:=Gz x0 x1 hf0 ((wf_i64 hw1));refine (Ng.calls k Ya Za x0.f0 x0.f1 x0.f2 x0.f3 Mb Cb x0.f4 x1 _ W Rd naf kf maf saf).mono fun e W' ⟨he,bel⟩=>?_
 subst he;exact ⟨_,rfl,_,_,_,[],_,[],hW',trodAll_mk1 (shut_bool Try.underlying4 _),(trodAll_cons_mk (Below.trod laidOut (by kernel_rfl) (of_decide_eq_true (by kernel_rfl)) uav bel oav) (trodAll_cons_mk (Below.trod laidOut (by kernel_rfl) (of_decide_eq_true (by kernel_rfl)) tav bel nav) trodAll_mk0)),rfl,bel.frame _,fun h=>by cases h⟩
theorem over:Rows.fnExactColorsRow.holds Try.pinned (OpenSpec.ofChange Rows.fnExactColorsSpec) :=
 OpenClaim.holds_of_wide 7 Try.f7 rfl rfl rfl rfl rfl rfl rfl ⟨rfl,rfl,rfl,rfl,rfl⟩ rfl rfl rfl rfl rfl (by kernel_rfl) Try.func7 (by kernel_rfl)
  (of_decide_eq_true (by kernel_rfl)) (by unfold Func.isWrapper;first|(rw [if_pos (by decide +kernel)];kernel_rfl)|(rw [if_neg (by decide +kernel)];exact ⟨rfl,rfl⟩))
  (fun os started H enc _=>lifted os started H enc)
#print axioms over
end Go.Proofs.Ytkigbdceceeenaa.fnExactColors
namespace Go.Proofs.Ytkigbdceceeenaa
theorem fnExactColors_holds:Rows.FnExactColorsSaid:=fnExactColors.over
end Go.Proofs.Ytkigbdceceeenaa
