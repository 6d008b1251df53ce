-- Written for this claim by gp.py over the kit's print; not trusted: Lean checks it.
import Derived.Test.YtnbaojaocagjcaaOpens
import Derived.Test.YtnbaojaocagjcaaFK
import Derived.Test.YtnbaojaocagjcaaF18
import Derived.Test.YtnbaojaocagjcaaF19
import Derived.Test.YtnbaojaocagjcaaF44
import Derived.Test.YtnbaojaocagjcaaF45
import Derived.Test.YtnbaojaocagjcaaF46
import Derived.Test.YtnbaojaocagjcaaF5
import Derived.Test.YtnbaojaocagjcaaFHPureAll
import Derived.Test.YtnbaojaocagjcaaFHPureImage
import Derived.Test.YtnbaojaocagjcaaFHPureKit
import Derived.Test.YtnbaojaocagjcaaFHPureToWord
namespace Go.Proofs.Ytnbaojaocagjcaa.P
open Go.RowKit Go.Proofs.YtnbaojaocagjcaaW.PrintWords Go.Proofs.YtnbaojaocagjcaaW.PrintLast Go.Proofs.YtnbaojaocagjcaaW.PrintMore
set_option linter.unusedVariables false
set_option linter.unusedSimpArgs false

def neWord (x y : S59) : Bool := !(x.f0 == y.f0) || (!(x.f1 == y.f1) || (!(x.f2 == y.f2) || (!(x.f3 == y.f3) || !(x.f4 == y.f4))))
noncomputable def eqWords (l l' : List S59) : Bool := allB l.length (fun j => ¬ neWord (rd_T59 l (j : Int)) (rd_T59 l' (j : Int)) = true)
theorem ev_l02Ints (l l' : List Int) (hl : l.length ≤ 9223372036854775807) : Ev (fun k => spec_l02Ints.f k l l') (decide (l = l')) := by
  unfold spec_l02Ints.f
  by_cases h : l.length = l'.length
  · refine Ev.pos (by omega) ?_
    have key := ev_all (n := l.length) (R := true) (e := false) (fun j => l.getD j 0 = l'.getD j 0) (fun i k => spec_l02Ints.l0 k l l' (i : Int)) ?_ ?_ ?_
    · rw [allB_eqInts l l' h] at key
      rw [show (bif decide (l = l') then true else false) = decide (l = l') from by cases decide (l = l') <;> rfl] at key
      exact key
    · refine Ev.step (fun k => by rw [spec_l02Ints.l0]) ?_
      exact Ev.neg (by omega) (Ev.now _)
    · intro i hi hp r hr
      refine Ev.step (fun k => by rw [spec_l02Ints.l0]) ?_
      refine Ev.pos (by omega) (Ev.pos (by omega) (Ev.pos (by omega) (Ev.pos hp ?_)))
      rw [wrap_succ hi hl]
      exact hr
    · intro i hi hp
      refine Ev.step (fun k => by rw [spec_l02Ints.l0]) ?_
      exact Ev.pos (by omega) (Ev.pos (by omega) (Ev.pos (by omega) (Ev.neg hp (Ev.now _))))
  · refine Ev.neg (by omega) ?_
    rw [decide_eq_false (fun e => h (by rw [e]))]
    exact Ev.now _
theorem ev_EqualInts (l l' : List Int) (hl : l.length ≤ 9223372036854775807) : Ev (fun k => slices_Equal_int_int.f k l l') (decide (l = l')) := by
  unfold slices_Equal_int_int.f
  by_cases h : l.length = l'.length
  · refine Ev.pos (by omega) ?_
    have key := ev_all (n := l.length) (R := true) (e := false) (fun j => l.getD j 0 = l'.getD j 0) (fun i k => slices_Equal_int_int.l0 k l l' (l.length : Int) (i : Int)) ?_ ?_ ?_
    · rw [allB_eqInts l l' h] at key
      rw [show (bif decide (l = l') then true else false) = decide (l = l') from by cases decide (l = l') <;> rfl] at key
      exact key
    · refine Ev.step (fun k => by rw [slices_Equal_int_int.l0]) ?_
      exact Ev.neg (by omega) (Ev.now _)
    · intro i hi hp r hr
      refine Ev.step (fun k => by rw [slices_Equal_int_int.l0]) ?_
      refine Ev.pos (by omega) (Ev.pos (by omega) (Ev.pos (by omega) (Ev.pos (by omega) (Ev.pos hp ?_))))
      rw [wrap_succ hi hl]
      exact hr
    · intro i hi hp
      refine Ev.step (fun k => by rw [slices_Equal_int_int.l0]) ?_
      exact Ev.pos (by omega) (Ev.pos (by omega) (Ev.pos (by omega) (Ev.pos (by omega) (Ev.neg hp (Ev.now _)))))
  · refine Ev.neg (by omega) ?_
    rw [decide_eq_false (fun e => h (by rw [e]))]
    exact Ev.now _
theorem bif_id (b : Bool) : (bif b then true else false) = b := by cases b <;> rfl
theorem ev_EqualWords (l l' : List S59) (hl : l.length ≤ 9223372036854775807) : Ev (fun k => impl_Word_46.f k l l') (decide (l.length = l'.length) && eqWords l l') := by
  unfold impl_Word_46.f eqWords
  by_cases h : l.length = l'.length
  · refine Ev.pos (by omega) ?_
    rw [decide_eq_true h, Bool.true_and]
    have key := ev_all (n := l.length) (R := true) (e := false) (fun j => ¬ neWord (rd_T59 l (j : Int)) (rd_T59 l' (j : Int)) = true) (fun i k => impl_Word_46.l0 k l l' (l.length : Int) (i : Int)) ?_ ?_ ?_
    · rw [bif_id] at key
      exact key
    · refine Ev.step (fun k => by rw [impl_Word_46.l0]) ?_
      exact Ev.neg (by omega) (Ev.now _)
    · intro i hi hp r hr
      refine Ev.step (fun k => by rw [impl_Word_46.l0]) ?_
      refine Ev.pos (by omega) (Ev.pos (by omega) (Ev.pos (by omega) (Ev.pos (by omega) (Ev.neg hp ?_))))
      rw [wrap_succ hi hl]
      exact hr
    · intro i hi hp
      refine Ev.step (fun k => by rw [impl_Word_46.l0]) ?_
      exact Ev.pos (by omega) (Ev.pos (by omega) (Ev.pos (by omega) (Ev.pos (by omega) (Ev.pos (Classical.not_not.mp hp) (Ev.now _)))))
  · refine Ev.neg (by omega) ?_
    rw [decide_eq_false h, Bool.false_and]
    exact Ev.now _
noncomputable def sameIm (x0 : List Int) (x1 x2 : Int) (x3 : List S59) (y0 : List Int) (y1 y2 : Int) (y3 : List S59) : Bool :=
  decide (x0 = y0) && (decide (x1 = y1) && (decide (x2 = y2) && (decide (x3.length = y3.length) && eqWords x3 y3)))
theorem ev_SameImage_impl (x0 : List Int) (x1 x2 : Int) (x3 : List S59) (y0 : List Int) (y1 y2 : Int) (y3 : List S59) (h0 : x0.length ≤ 9223372036854775807) (h3 : x3.length ≤ 9223372036854775807) :
    Ev (fun k => impl_SameImage.f k x0 x1 x2 x3 y0 y1 y2 y3) (sameIm x0 x1 x2 x3 y0 y1 y2 y3) := by
  unfold impl_SameImage.f sameIm
  refine Ev.bind (ev_EqualInts x0 y0 h0) ?_
  by_cases a : x0 = y0
  · refine Ev.pos (decide_eq_true a) ?_
    rw [decide_eq_true a, Bool.true_and]
    by_cases b : x1 = y1
    · refine Ev.pos b ?_
      rw [decide_eq_true b, Bool.true_and]
      by_cases c : x2 = y2
      · refine Ev.pos c ?_
        rw [decide_eq_true c, Bool.true_and]
        exact Ev.bind (ev_EqualWords x3 y3 h3) (Ev.now _)
      · refine Ev.neg c ?_
        rw [decide_eq_false c]
        exact Ev.now _
    · refine Ev.neg b ?_
      rw [decide_eq_false b]
      exact Ev.now _
  · refine Ev.neg (by rw [decide_eq_false a]; decide) ?_
    rw [decide_eq_false a]
    exact Ev.now _
theorem ev_SameImage_l0 (x0 : List Int) (x1 x2 : Int) (x3 : List S59) (y0 : List Int) (y1 y2 : Int) (y3 : List S59) (h3 : x3.length ≤ 9223372036854775807) (h : x3.length = y3.length) :
    Ev (fun k => spec_SameImage.l0 k 0 x0 x1 x2 x3 y0 y1 y2 y3) (eqWords x3 y3) := by
  unfold eqWords
  have key := ev_all (n := x3.length) (R := true) (e := false) (fun j => ¬ neWord (rd_T59 x3 (j : Int)) (rd_T59 y3 (j : Int)) = true) (fun i k => spec_SameImage.l0 k (i : Int) x0 x1 x2 x3 y0 y1 y2 y3) ?_ ?_ ?_
  · rw [bif_id] at key
    exact key
  · refine Ev.step (fun k => by rw [spec_SameImage.l0]) ?_
    exact Ev.neg (by omega) (Ev.now _)
  · intro i hi hp r hr
    refine Ev.step (fun k => by rw [spec_SameImage.l0]) ?_
    refine Ev.pos (by omega) (Ev.pos (by omega) (Ev.pos (by omega) (Ev.neg hp ?_)))
    rw [wrap_succ hi h3]
    exact hr
  · intro i hi hp
    refine Ev.step (fun k => by rw [spec_SameImage.l0]) ?_
    exact Ev.pos (by omega) (Ev.pos (by omega) (Ev.pos (by omega) (Ev.pos (Classical.not_not.mp hp) (Ev.now _))))
theorem ev_SameImage_no (x0 : List Int) (x1 x2 : Int) (x3 : List S59) (y0 : List Int) (y1 y2 : Int) (y3 : List S59) : Ev (fun k => spec_SameImage.j0 k true x0 x1 x2 x3 y0 y1 y2 y3) false := by
  refine Ev.step (fun k => by rw [spec_SameImage.j0]) ?_
  exact Ev.pos rfl (Ev.now _)
theorem ev_SameImage_spec (x0 : List Int) (x1 x2 : Int) (x3 : List S59) (y0 : List Int) (y1 y2 : Int) (y3 : List S59) (h0 : x0.length ≤ 9223372036854775807) (h3 : x3.length ≤ 9223372036854775807) :
    Ev (fun k => spec_SameImage.f k x0 x1 x2 x3 y0 y1 y2 y3) (sameIm x0 x1 x2 x3 y0 y1 y2 y3) := by
  unfold spec_SameImage.f sameIm
  refine Ev.bind (ev_l02Ints x0 y0 h0) ?_
  by_cases a : x0 = y0
  · refine Ev.pos (decide_eq_true a) ?_
    rw [decide_eq_true a, Bool.true_and]
    by_cases b : x1 = y1
    · refine Ev.pos b ?_
      rw [decide_eq_true b, Bool.true_and]
      by_cases c : x2 = y2
      · refine Ev.pos c ?_
        rw [decide_eq_true c, Bool.true_and]
        by_cases d : x3.length = y3.length
        · rw [decide_eq_true d, Bool.true_and]
          refine Ev.step (fun k => by rw [spec_SameImage.j0]) ?_
          exact Ev.neg (by simp [d]) (ev_SameImage_l0 x0 x1 x2 x3 y0 y1 y2 y3 h3 d)
        · rw [decide_eq_false d]
          refine Ev.step (fun k => by rw [spec_SameImage.j0]) ?_
          exact Ev.pos (by simp; omega) (Ev.now _)
      · refine Ev.neg c ?_
        rw [decide_eq_false c]
        exact ev_SameImage_no _ _ _ _ _ _ _ _
    · refine Ev.neg b ?_
      rw [decide_eq_false b]
      exact ev_SameImage_no _ _ _ _ _ _ _ _
  · refine Ev.neg (by rw [decide_eq_false a]; decide) ?_
    rw [decide_eq_false a]
    exact ev_SameImage_no _ _ _ _ _ _ _ _
theorem FnExactSameImage_good (x y : S28) (hf : fit28 x) (hg : fit28 y) : ∃ k, laws_FnExactSameImage.f k x.f0 x.f1 x.f2 x.f3 y.f0 y.f1 y.f2 y.f3 = some true := by
  obtain ⟨h0, _, _, h3⟩ := hf
  obtain ⟨g0, _, _, g3⟩ := hg
  obtain ⟨t, e1, e2, e3⟩ := sz_image x.f0 x.f1 x.f2 x.f3 1048576 (by omega) (by omega) h0.1 h3.1
  refine Ev.rounds (g := fun k => laws_FnExactSameImage.f k x.f0 x.f1 x.f2 x.f3 y.f0 y.f1 y.f2 y.f3) ?_
  unfold laws_FnExactSameImage.f
  rw [e1]
  refine Ev.val ?_
  by_cases ht : t < 0
  · exact Ev.pos ht (Ev.now _)
  refine Ev.neg ht ?_
  obtain ⟨b0, b3⟩ := e3 (by omega)
  obtain ⟨u, e1, e2, e3⟩ := sz_image y.f0 y.f1 y.f2 y.f3 t (by omega) (by omega) g0.1 g3.1
  rw [e1]
  refine Ev.val ?_
  by_cases hu : u < 0
  · exact Ev.pos hu (Ev.now _)
  refine Ev.neg hu ?_
  obtain ⟨d0, d3⟩ := e3 (by omega)
  have hT := ev_toImage x.f0 x.f1 x.f2 x.f3 b0 b3
  have hU := ev_toImage y.f0 y.f1 y.f2 y.f3 d0 d3
  have hm : (x.f3.map toWord).length ≤ 1048576 := by rw [List.length_map]; exact b3
  have hm' : (y.f3.map toWord).length ≤ 1048576 := by rw [List.length_map]; exact d3
  refine Ev.bind hT (Ev.bind hU (Ev.bind (ev_SameImage_spec _ _ _ _ _ _ _ _ (by show x.f0.length ≤ _; omega) (by show (x.f3.map toWord).length ≤ _; omega)) (Ev.bind hT (Ev.bind hU (Ev.bind (ev_SameImage_impl _ _ _ _ _ _ _ _ (by show x.f0.length ≤ _; omega) (by show (x.f3.map toWord).length ≤ _; omega)) (Ev.neg (by simp) (Ev.bind hT (Ev.bind (ev_eqImage x.f0 x.f1 x.f2 (x.f3.map toWord) (by omega) (by omega)) (Ev.pos rfl (Ev.bind hU (Ev.bind (ev_eqImage y.f0 y.f1 y.f2 (y.f3.map toWord) (by omega) (by omega)) (Ev.pos rfl (Ev.now _)))))))))))))

end Go.Proofs.Ytnbaojaocagjcaa.P
