-- Written for this claim by gp.py over the kit's print; not trusted: Lean checks it.
import Derived.Test.YtnbaojaocagjcaaFK
import Derived.Test.YtnbaojaocagjcaaF42
import Derived.Test.YtnbaojaocagjcaaF43
import Derived.Test.YtnbaojaocagjcaaF60
import Derived.Test.YtnbaojaocagjcaaF61
import Derived.Test.YtnbaojaocagjcaaFHPureKit
namespace Go.Proofs.Ytnbaojaocagjcaa.P
open Go.RowKit Go.Proofs.YtnbaojaocagjcaaW.PrintWords Go.Proofs.YtnbaojaocagjcaaW.PrintLast Go.Proofs.YtnbaojaocagjcaaW.PrintMore
set_option linter.unusedVariables false
set_option linter.unusedSimpArgs false

def toWord (x : S78) : S59 := ⟨x.f0, x.f1, x.f2, x.f3, x.f4⟩
theorem ev_toWordS (l : List S78) (hl : l.length ≤ 7036874417766) : Ev (fun k => laws_toWordS.f k l) (l.map toWord) := by
  refine Ev.congr (f := fun k => laws_toWordS.l0 k l (List.replicate l.length z59) 0) (fun k => ?_) ?_
  · unfold laws_toWordS.f
    rw [if_pos (by omega), if_pos (by omega)]
    rfl
  · have key := ev_upto (r := l.map toWord) (n := l.length) (fun i => Ev (fun k => laws_toWordS.l0 k l ((l.map toWord).take i ++ List.replicate ((l.map toWord).length - i) z59) (i : Int)) (l.map toWord)) ?_ ?_ 0 (by omega)
    · rw [fill_zero, List.length_map] at key
      exact key
    · refine Ev.step (fun k => by rw [laws_toWordS.l0]) ?_
      refine Ev.neg (by omega) ?_
      have e := fill_all (m := l.map toWord) (z := z59)
      rw [List.length_map] at e
      rw [List.length_map, e]
      exact Ev.now _
    · intro i hi h
      refine Ev.step (fun k => by rw [laws_toWordS.l0]) ?_
      refine Ev.pos (by omega) (Ev.pos (by omega) ?_)
      unfold laws_toWord.f
      refine Ev.val (Ev.pos (by simp; omega) ?_)
      have hc : toWord (rd_T78 l (i : Int)) = (l.map toWord).getD i z59 := by
        simp [rd_T78, List.getD_eq_getElem?_getD, hi]
      have hf := fill_set (m := l.map toWord) (z := z59) (i := i) (by rw [List.length_map]; exact hi)
      rw [← hc] at hf
      rw [wrap_succ hi (by omega), Int.toNat_natCast]
      have e := hf ▸ h
      exact e
theorem ev_eqWordS (l : List S59) (hl : l.length ≤ 9223372036854775807) : Ev (fun k => laws_eqWordS.f k l l) true := by
  refine Ev.congr (f := fun k => laws_eqWordS.l0 k l l 0) (fun k => ?_) ?_
  · unfold laws_eqWordS.f
    rw [if_pos rfl]
  · refine ev_upto (r := true) (n := l.length) (fun i => Ev (fun k => laws_eqWordS.l0 k l l (i : Int)) true) ?_ ?_ 0 (by omega)
    · refine Ev.step (fun k => by rw [laws_eqWordS.l0]) ?_
      exact Ev.neg (by omega) (Ev.now _)
    · intro i hi h
      refine Ev.step (fun k => by rw [laws_eqWordS.l0]) ?_
      refine Ev.pos (by omega) (Ev.pos (by omega) (Ev.pos (by omega) ?_))
      unfold laws_eqWord.f
      simp only [if_true]
      refine Ev.val (Ev.pos rfl ?_)
      rw [wrap_succ hi hl]
      exact h

end Go.Proofs.Ytnbaojaocagjcaa.P
