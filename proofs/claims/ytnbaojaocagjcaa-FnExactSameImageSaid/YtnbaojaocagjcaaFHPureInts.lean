-- Written for this claim by gp.py over the kit's print; not trusted: Lean checks it.
import Derived.Test.YtnbaojaocagjcaaFK
import Derived.Test.YtnbaojaocagjcaaF31
import Derived.Test.YtnbaojaocagjcaaF41
import Derived.Test.YtnbaojaocagjcaaFHPureKit
namespace Go.Proofs.Ytnbaojaocagjcaa.P
open Go.RowKit Go.Proofs.YtnbaojaocagjcaaW.PrintWords Go.Proofs.YtnbaojaocagjcaaW.PrintLast Go.Proofs.YtnbaojaocagjcaaW.PrintMore
set_option linter.unusedVariables false
set_option linter.unusedSimpArgs false

theorem ev_toIntS (l : List Int) (hl : l.length ≤ 35184372088832) : Ev (fun k => laws_toIntS.f k l) l := by
  refine Ev.congr (f := fun k => laws_toIntS.l0 k l (List.replicate l.length 0) 0) (fun k => ?_) ?_
  · unfold laws_toIntS.f
    rw [if_pos (by omega), if_pos (by omega)]
    rfl
  · have key := ev_upto (r := l) (n := l.length) (fun i => Ev (fun k => laws_toIntS.l0 k l (l.take i ++ List.replicate (l.length - i) 0) (i : Int)) l) ?_ ?_ 0 (by omega)
    · simpa using key
    · refine Ev.step (fun k => by rw [laws_toIntS.l0]) ?_
      refine Ev.neg (by omega) ?_
      rw [fill_all]
      exact Ev.now l
    · intro i hi h
      refine Ev.step (fun k => by rw [laws_toIntS.l0]) ?_
      refine Ev.pos (by omega) (Ev.pos (by omega) (Ev.pos (by simp; omega) ?_))
      rw [wrap_succ hi (by omega), rd_nat, Int.toNat_natCast, fill_set hi]
      exact h
theorem ev_eqIntS (l : List Int) (hl : l.length ≤ 9223372036854775807) : Ev (fun k => laws_eqIntS.f k l l) true := by
  refine Ev.congr (f := fun k => laws_eqIntS.l0 k l l 0) (fun k => ?_) ?_
  · unfold laws_eqIntS.f
    rw [if_pos rfl]
  · refine ev_upto (r := true) (n := l.length) (fun i => Ev (fun k => laws_eqIntS.l0 k l l (i : Int)) true) ?_ ?_ 0 (by omega)
    · refine Ev.step (fun k => by rw [laws_eqIntS.l0]) ?_
      exact Ev.neg (by omega) (Ev.now _)
    · intro i hi h
      refine Ev.step (fun k => by rw [laws_eqIntS.l0]) ?_
      refine Ev.pos (by omega) (Ev.pos (by omega) (Ev.pos (by omega) (Ev.pos rfl ?_)))
      rw [wrap_succ hi hl]
      exact h

end Go.Proofs.Ytnbaojaocagjcaa.P
