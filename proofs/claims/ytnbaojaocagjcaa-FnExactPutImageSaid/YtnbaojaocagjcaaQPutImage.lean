/- The Go function FnExactPutImage returns true for every argument, and leaves its arguments as they were; no condition beyond the statement's own. -/
import Derived.Test.YtnbaojaocagjcaaRows
import Derived.Test.YtnbaojaocagjcaaQPutImage1
import Derived.Test.YtnbaojaocagjcaaQPutImage4
import Derived.WalkKit
import Derived.ProofKit
import Derived.OpenShut
import Derived.ShutString
import Derived.ChangeOld
import Derived.Below
import Derived.Carry
import Derived.SizedLaws
namespace Go.Proofs.Ytnbaojaocagjcaa.fnExactPutImage
open Go.ChangeShapes Go.WideShapes Go.ChangeAt Go.RowKit Go.Proofs.Ytnbaojaocagjcaa.P
open Go.Proofs.YtnbaojaocagjcaaW.PrintWords
open Go.ChangeMaps (open_string shut_string)
set_option linter.unusedVariables false
theorem own : ownKnob Try.prog.godebug = none := by kernel_rfl
theorem laidOut : laidOutB Try.prog = true := by kernel_rfl
set_option maxRecDepth 100000 in
theorem lifted (os : Os) (started : os.Started) (H : Type) (enc : TypeId × Value → H) :
    ReturnsInHanded {} Try.checked os 8 .any (Rows.fnExactPutImageSpec.pre6 enc Try.prog Try.f8 Rows.fnExactPutImageRow.domain false) (Rows.fnExactPutImageSpec.post enc Try.prog Try.f8 false true false false) := by
  refine returnsInHanded_of_change_sized (C := Try.checked) own started (by kernel_rfl) Try.func8
    (ChangeSpec.witness6 (enc := enc) (C := Try.checked) false ⟨#[], #[.agg #[.slice none 0 0, .int .i64 0, .int .i64 0, .slice none 0 0]], []⟩ 8 (by kernel_rfl) (by kernel_rfl) (by kernel_rfl) (by kernel_rfl)) ?_
  intro W base args ds gs before hval0 hW hcnd hsz0 _
  have hval : ∀ (j : Nat) t v, Try.f8.params[j]? = some t → args[j]? = some v → Value.okWide Try.prog W .any base t v := hval0
  have hW' := hW
  obtain ⟨p, q, hA0, hV, rfl, hfz, hnd⟩ := hW
  have hA : DataW.TrodAll enc Try.prog W 0 (fun _ => true) true Try.f8.params.toList args.toList ds p := hA0
  rw [Try.params8] at hA hval
  obtain ⟨v0, vs0, d0, ds0, p0, q0, hargs, rfl, rfl, h0, r0⟩ := trodAll_cons hA
  obtain ⟨rfl, rfl, rfl⟩ := trodAll_nil r0
  obtain rfl : args = #[v0] := by cases args; simp_all
  obtain ⟨rfl, rfl⟩ := trodVars_none hV
  have hk0_ := h0
  have hlt0 : ∀ x ∈ p0, x.block < W.heap.size := fun x hx => by obtain ⟨fu_, hfu_⟩ := h0; exact DataW.trod_lt _ _ _ _ hfu_ x hx
  clear hA0 hval0 hsz0
  obtain ⟨x0, cs0, rfl, hk0, hf0⟩ := open_agg Try.underlying28 opens28 (hval 0 28 v0 rfl rfl) h0
  obtain ⟨A0_0, c0_0, A0_3, c0_3, he0, hl0_0, hc0_0, hl0_3, hc0_3⟩ := k28_open hk0
  obtain rfl : cs0 = #[.slice A0_0 x0.f0.length c0_0, .int .i64 x0.f1, .int .i64 x0.f2, .slice A0_3 x0.f3.length c0_3] := by rw [← Array.toArray_toList (xs := cs0), he0]
  obtain ⟨k, hgood⟩ := FnExactPutImage_good x0 hf0
  refine (laws_FnExactPutImage.calls k A0_0 c0_0 x0.f0 x0.f1 x0.f2 A0_3 c0_3 x0.f3 _ W hc0_0 hl0_0 hc0_3 hl0_3 hgood).mono fun e W' ⟨he, bel⟩ => ?_
  subst he
  exact ⟨_, rfl, _, _, _, [], _, [], hW', trodAll_mk1 (shut_bool Try.underlying4 _), (trodAll_cons_mk (Below.trod laidOut (by kernel_rfl) (of_decide_eq_true (by kernel_rfl)) hk0_ bel hlt0) trodAll_mk0), rfl, bel.frame _, fun h => by cases h⟩
theorem over : Rows.fnExactPutImageRow.holds Try.pinned (OpenSpec.ofChange Rows.fnExactPutImageSpec) :=
  OpenClaim.holds_of_wide 8 Try.f8 rfl rfl rfl rfl rfl rfl rfl ⟨rfl, rfl, rfl, rfl, rfl⟩ rfl rfl rfl rfl rfl (by kernel_rfl) Try.func8 (by kernel_rfl)
    (of_decide_eq_true (by kernel_rfl)) (by unfold Func.isWrapper; first | (rw [if_pos (by decide +kernel)]; kernel_rfl) | (rw [if_neg (by decide +kernel)]; exact ⟨rfl, rfl⟩))
    (fun os started H enc _ => lifted os started H enc)
#print axioms over
end Go.Proofs.Ytnbaojaocagjcaa.fnExactPutImage
namespace Go.Proofs.Ytnbaojaocagjcaa
theorem fnExactPutImage_holds : Rows.FnExactPutImageSaid := fnExactPutImage.over
end Go.Proofs.Ytnbaojaocagjcaa
