/- The Go function FnExactPlaces returns true for every argument, and leaves its arguments as they were; no condition beyond the statement's own. -/
import Derived.Test.YtmifdccaajngcaaRows
import Derived.Test.YtmifdccaajngcaaQPlaces1
import Derived.Test.YtmifdccaajngcaaQPlaces10
import Derived.WalkKit
import Derived.ProofKit
import Derived.OpenShut
import Derived.ShutString
import Derived.ChangeOld
import Derived.Below
import Derived.Carry
import Derived.SizedLaws
set_option maxRecDepth 100000
namespace Go.Proofs.Ytmifdccaajngcaa.fnExactPlaces
open Go.ChangeShapes Go.WideShapes Go.ChangeAt Go.RowKit Go.Proofs.Ytmifdccaajngcaa.P
open Go.Proofs.Sa.Ec
open Go.ChangeMaps (open_string shut_string)
set_option linter.unusedVariables false
theorem own:ownKnob Try.prog.godebug=none:=by kernel_rfl
theorem laidOut:laidOutB Try.prog=true:=by kernel_rfl
theorem lifted (os:Os) (started:os.Started) (H:Type) (enc:TypeId × Value→H) :
  ReturnsInHanded {} Try.checked os 9 .any (Rows.fnExactPlacesSpec.pre6 enc Try.prog Try.f9 Rows.fnExactPlacesRow.domain false) (Rows.fnExactPlacesSpec.post enc Try.prog Try.f9 false true false false):=by
 refine returnsInHanded_of_change_sized (C:=Try.checked) own started (by kernel_rfl) Try.func9
  (ChangeSpec.witness6 (enc:=enc) (C:=Try.checked) false ⟨#[],#[.agg #[.slice none 0 0,.int .i64 0,.int .i64 0,.int .i64 0,.slice none 0 0],.int .i64 0],[]⟩ 8 (by kernel_rfl) (by kernel_rfl) (by kernel_rfl) (by kernel_rfl)) ?_
 intro W base args ds gs before hval0 hW hcnd hsz0 _
 have hval:∀ (j:Nat) t v,Try.f9.params[j]? = some t→args[j]? = some v→Value.okWide Try.prog W .any base t v:=hval0
 have hW':=hW
 obtain ⟨p,q,hA0,hV,rfl,hfz,hnd⟩:=hW
 have hA:DataW.TrodAll enc Try.prog W 0 (fun _=>true) true Try.f9.params.toList args.toList ds p:=hA0
 rw [Try.params9] at hA hval
 obtain ⟨v0,vs0,d0,ds0,p0,q0,hargs,rfl,rfl,h0,r0⟩:=trodAll_cons hA
 obtain ⟨v1,vs1,d1,ds1,p1,q1,rfl,rfl,rfl,h1,r1⟩:=trodAll_cons r0
 obtain ⟨rfl,rfl,rfl⟩:=trodAll_nil r1
 obtain rfl:args=#[v0,v1]:=by cases args;simp_all
 obtain ⟨rfl,rfl⟩:=trodVars_none hV
 have hk0_:=h0
 have hk1_:=h1
 have hlt0:∀ x ∈ p0,x.block < W.heap.size:=fun x hx=>by obtain ⟨fu_,hfu_⟩:=h0;exact DataW.trod_lt _ _ _ _ hfu_ x hx
 have hlt1:∀ x ∈ p1,x.block < W.heap.size:=fun x hx=>by obtain ⟨fu_,hfu_⟩:=h1;exact DataW.trod_lt _ _ _ _ hfu_ x hx
 clear hA0 hval0 hsz0
 obtain ⟨x0,cs0,rfl,oD,hf0⟩:=GK Try.underlying25 wN (hval 0 25 v0 rfl rfl) h0
 obtain ⟨Eb,Db,yc,Zb,he0,hl0_0,Gf,hl0_4,Jg⟩:=SK oD
 obtain rfl:cs0=#[.slice Eb x0.f0.length Db,.int .i64 x0.f1,.int .i64 x0.f2,.int .i64 x0.f3,.slice yc x0.f4.length Zb]:=by rw [← Array.toArray_toList (xs:=cs0),he0]
 obtain ⟨x1,rfl,_,_,hw1⟩:=Go.ChangeShapes.open_int Try.underlying3 (hval 1 3 v1 rfl rfl) h1
 obtain ⟨k,hgood⟩:=vu x0 x1 hf0 ((wf_i64 hw1))
 refine (Ug.calls k Eb Db x0.f0 x0.f1 x0.f2 x0.f3 yc Zb x0.f4 x1 _ W Gf hl0_0 Jg hl0_4 hgood).mono fun e W' ⟨he,bel⟩=>?_
 subst he
 exact ⟨_,rfl,_,_,_,[],_,[],hW',trodAll_mk1 (shut_bool Try.underlying4 _),(trodAll_cons_mk (Below.trod laidOut (by kernel_rfl) (of_decide_eq_true (by kernel_rfl)) hk0_ bel hlt0) (trodAll_cons_mk (Below.trod laidOut (by kernel_rfl) (of_decide_eq_true (by kernel_rfl)) hk1_ bel hlt1) trodAll_mk0)),rfl,bel.frame _,fun h=>by cases h⟩
theorem over:Rows.fnExactPlacesRow.holds Try.pinned (OpenSpec.ofChange Rows.fnExactPlacesSpec) :=
 OpenClaim.holds_of_wide 9 Try.f9 rfl rfl rfl rfl rfl rfl rfl ⟨rfl,rfl,rfl,rfl,rfl⟩ rfl rfl rfl rfl rfl (by kernel_rfl) Try.func9 (by kernel_rfl)
  (of_decide_eq_true (by kernel_rfl)) (by unfold Func.isWrapper;first|(rw [if_pos (by decide +kernel)];kernel_rfl)|(rw [if_neg (by decide +kernel)];exact ⟨rfl,rfl⟩))
  (fun os started H enc _=>lifted os started H enc)
#print axioms over
end Go.Proofs.Ytmifdccaajngcaa.fnExactPlaces
namespace Go.Proofs.Ytmifdccaajngcaa
theorem fnExactPlaces_holds:Rows.FnExactPlacesSaid:=fnExactPlaces.over
end Go.Proofs.Ytmifdccaajngcaa
