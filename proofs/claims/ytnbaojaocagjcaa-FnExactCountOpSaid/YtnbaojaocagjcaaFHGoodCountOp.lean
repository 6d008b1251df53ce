-- Written for this claim by gp.py over the kit's print; not trusted: Lean checks it.
import Derived.Test.YtnbaojaocagjcaaOpens
import Derived.Test.YtnbaojaocagjcaaFK
import Derived.Test.YtnbaojaocagjcaaF14
import Derived.Test.YtnbaojaocagjcaaF16
import Derived.Test.YtnbaojaocagjcaaF4
import Derived.Test.YtnbaojaocagjcaaFHPureImage
import Derived.Test.YtnbaojaocagjcaaFHPureKit
import Derived.Test.YtnbaojaocagjcaaFHPureToWord
import Derived.Test.YtnbaojaocagjcaaFHRow
namespace Go.Proofs.Ytnbaojaocagjcaa.P
open Go.RowKit Go.Proofs.YtnbaojaocagjcaaW.PrintWords Go.Proofs.YtnbaojaocagjcaaW.PrintLast Go.Proofs.YtnbaojaocagjcaaW.PrintMore
set_option linter.unusedVariables false
set_option linter.unusedSimpArgs false

/-- How many words have an op. -/
def countOps (l : List S59) (op : Int) : Int := ((l.filter fun x => x.f0 == op).length : Int)
theorem countOps_succ {l : List S59} {op : Int} {i : Nat} (h : i < l.length) : countOps (l.take (i + 1)) op = countOps (l.take i) op + (if (rd_T59 l (i : Int)).f0 = op then 1 else 0) := by
  unfold countOps
  rw [List.take_succ_eq_append_getElem h, List.filter_append]
  have e : (rd_T59 l (i : Int)) = l[i] := by simp [rd_T59, List.getD_eq_getElem?_getD, h]
  rw [e]
  by_cases hc : l[i].f0 = op
  · rw [if_pos hc]; simp [List.filter_cons, hc]
  · rw [if_neg hc]; simp [List.filter_cons, hc]
theorem countOps_le {l : List S59} {op : Int} {i : Nat} : 0 ≤ countOps (l.take i) op ∧ countOps (l.take i) op ≤ l.length := by
  unfold countOps
  have h := List.length_filter_le (fun x : S59 => x.f0 == op) (l.take i)
  rw [List.length_take] at h
  omega
theorem ev_CountOp_spec (x0 : List Int) (x1 x2 : Int) (l : List S59) (op : Int) (hl : l.length ≤ 1048576) : Ev (fun k => spec_CountOp.f k x0 x1 x2 l op) (countOps l op) := by
  unfold spec_CountOp.f
  have key := ev_upto (r := countOps l op) (n := l.length) (fun i => Ev (fun k => spec_CountOp.l0 k op (countOps (l.take i) op) (i : Int) x0 x1 x2 l) (countOps l op)) ?_ ?_ 0 (by omega)
  · exact key
  · refine Ev.step (fun k => by rw [spec_CountOp.l0]) ?_
    rw [List.take_length]
    exact Ev.neg (by omega) (Ev.now _)
  · intro i hi h
    have hs := countOps_succ (op := op) hi
    have hb := countOps_le (l := l) (op := op) (i := i)
    refine Ev.step (fun k => by rw [spec_CountOp.l0]) ?_
    refine Ev.pos (by omega) (Ev.pos (by omega) ?_)
    rw [wrap_succ hi (by omega)]
    by_cases hc : (rd_T59 l (i : Int)).f0 = op
    · refine Ev.pos hc ?_
      rw [if_pos hc] at hs
      rw [wrap_in (by omega) (by omega), ← hs]
      exact h
    · refine Ev.neg hc ?_
      rw [if_neg hc, Int.add_zero] at hs
      rw [← hs]
      exact h
theorem ev_CountOp_impl (x0 : List Int) (x1 x2 : Int) (l : List S59) (op : Int) (hl : l.length ≤ 1048576) : Ev (fun k => impl_CountOp.f k x0 x1 x2 l op) (countOps l op) := by
  unfold impl_CountOp.f
  have key := ev_upto (r := countOps l op) (n := l.length) (fun i => Ev (fun k => impl_CountOp.l0 k op (countOps (l.take i) op) l (l.length : Int) (i : Int)) (countOps l op)) ?_ ?_ 0 (by omega)
  · exact key
  · refine Ev.step (fun k => by rw [impl_CountOp.l0]) ?_
    rw [List.take_length]
    exact Ev.neg (by omega) (Ev.now _)
  · intro i hi h
    have hs := countOps_succ (op := op) hi
    have hb := countOps_le (l := l) (op := op) (i := i)
    refine Ev.step (fun k => by rw [impl_CountOp.l0]) ?_
    refine Ev.pos (by omega) (Ev.pos (by omega) (Ev.pos (by omega) ?_))
    rw [wrap_succ hi (by omega)]
    by_cases hc : (rd_T59 l (i : Int)).f0 = op
    · refine Ev.pos hc ?_
      rw [if_pos hc] at hs
      rw [wrap_in (by omega) (by omega), ← hs]
      exact h
    · refine Ev.neg hc ?_
      rw [if_neg hc, Int.add_zero] at hs
      rw [← hs]
      exact h
theorem FnExactCountOp_good (x : S28) (op : Int) (hf : fit28 x) (hw : fitI op) : ∃ k, laws_FnExactCountOp.f k x.f0 x.f1 x.f2 x.f3 op = some true := by
  obtain ⟨h0, _, _, h3⟩ := hf
  obtain ⟨t, e1, e2, e3⟩ := sz_image x.f0 x.f1 x.f2 x.f3 1048576 (by omega) (by omega) h0.1 h3.1
  refine Ev.rounds (g := fun k => laws_FnExactCountOp.f k x.f0 x.f1 x.f2 x.f3 op) ?_
  unfold laws_FnExactCountOp.f
  rw [e1]
  refine Ev.val ?_
  by_cases ht : t < 0
  · exact Ev.pos ht (Ev.now _)
  refine Ev.neg ht ?_
  obtain ⟨b0, b3⟩ := e3 (by omega)
  have hT := ev_toImage x.f0 x.f1 x.f2 x.f3 b0 b3
  have hm : (x.f3.map toWord).length ≤ 1048576 := by rw [List.length_map]; exact b3
  refine Ev.bind hT (Ev.bind (ev_CountOp_spec _ _ _ _ op hm) (Ev.bind hT (Ev.bind (ev_CountOp_impl _ _ _ _ op hm) (Ev.pos rfl (Ev.bind hT (Ev.bind (ev_eqImage x.f0 x.f1 x.f2 (x.f3.map toWord) (by omega) (by omega)) (Ev.pos rfl (Ev.now _))))))))

end Go.Proofs.Ytnbaojaocagjcaa.P
