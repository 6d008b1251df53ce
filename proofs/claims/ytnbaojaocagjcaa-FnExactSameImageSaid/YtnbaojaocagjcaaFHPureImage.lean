-- Written for this claim by gp.py over the kit's print; not trusted: Lean checks it.
import Derived.Test.YtnbaojaocagjcaaFK
import Derived.Test.YtnbaojaocagjcaaF13
import Derived.Test.YtnbaojaocagjcaaF15
import Derived.Test.YtnbaojaocagjcaaF17
import Derived.Test.YtnbaojaocagjcaaF39
import Derived.Test.YtnbaojaocagjcaaF40
import Derived.Test.YtnbaojaocagjcaaFHPureInts
import Derived.Test.YtnbaojaocagjcaaFHPureKit
import Derived.Test.YtnbaojaocagjcaaFHPureToWord
namespace Go.Proofs.Ytnbaojaocagjcaa.P
open Go.RowKit Go.Proofs.YtnbaojaocagjcaaW.PrintWords Go.Proofs.YtnbaojaocagjcaaW.PrintLast Go.Proofs.YtnbaojaocagjcaaW.PrintMore
set_option linter.unusedVariables false
set_option linter.unusedSimpArgs false

theorem sz_ints (l : List Int) (a : Int) (ha : 0 ≤ a) (ha' : a ≤ 1048576) (hl : l.length ≤ 9223372036854775807) : ∃ t, laws_szIntS.f l a = some t ∧ t ≤ a ∧ (0 ≤ t → t + l.length = a) := by
  unfold laws_szIntS.f
  rw [wrap_in (by omega) (by omega)]
  split
  · exact ⟨-1, rfl, by omega, by omega⟩
  · exact ⟨_, rfl, by omega, by omega⟩
theorem sz_words (l : List S78) (a : Int) (ha : 0 ≤ a) (ha' : a ≤ 1048576) (hl : l.length ≤ 9223372036854775807) : ∃ t, laws_szWordS.f l a = some t ∧ t ≤ a ∧ (0 ≤ t → t + l.length = a) := by
  unfold laws_szWordS.f
  rw [wrap_in (by omega) (by omega)]
  split
  · exact ⟨-1, rfl, by omega, by omega⟩
  · exact ⟨_, rfl, by omega, by omega⟩
theorem sz_image (x0 : List Int) (x1 x2 : Int) (x3 : List S78) (a : Int) (ha : 0 ≤ a) (ha' : a ≤ 1048576) (h0 : x0.length ≤ 9223372036854775807) (h3 : x3.length ≤ 9223372036854775807) :
    ∃ t, laws_szImage.f x0 x1 x2 x3 a = some t ∧ t ≤ 1048576 ∧ (0 ≤ t → x0.length ≤ 1048576 ∧ x3.length ≤ 1048576) := by
  obtain ⟨t, e1, e2, e3⟩ := sz_ints x0 a ha ha' h0
  unfold laws_szImage.f
  rw [e1]
  simp only [Option.bind_some]
  by_cases ht : t < 0
  · rw [if_pos ht]
    exact ⟨-1, rfl, by omega, by omega⟩
  · rw [if_neg ht]
    obtain ⟨u, f1, f2, f3⟩ := sz_words x3 t (by omega) (by omega) h3
    rw [f1]
    simp only [Option.bind_some]
    by_cases hu : u < 0
    · rw [if_pos hu]
      exact ⟨-1, rfl, by omega, by omega⟩
    · rw [if_neg hu]
      exact ⟨_, rfl, by omega, by omega⟩
theorem ev_toImage (x0 : List Int) (x1 x2 : Int) (x3 : List S78) (h0 : x0.length ≤ 1048576) (h3 : x3.length ≤ 1048576) : Ev (fun k => laws_toImage.f k x0 x1 x2 x3) (x0, x1, x2, x3.map toWord) := by
  unfold laws_toImage.f
  exact Ev.bind (ev_toIntS x0 (by omega)) (Ev.bind (ev_toWordS x3 (by omega)) (Ev.now _))
theorem ev_eqImage (x0 : List Int) (x1 x2 : Int) (x3 : List S59) (h0 : x0.length ≤ 9223372036854775807) (h3 : x3.length ≤ 9223372036854775807) : Ev (fun k => laws_eqImage.f k x0 x1 x2 x3 x0 x1 x2 x3) true := by
  unfold laws_eqImage.f
  refine Ev.bind (ev_eqIntS x0 h0) ?_
  refine Ev.pos rfl (Ev.pos rfl (Ev.pos rfl ?_))
  refine Ev.bind (ev_eqWordS x3 h3) ?_
  exact Ev.pos rfl (Ev.now _)

end Go.Proofs.Ytnbaojaocagjcaa.P
