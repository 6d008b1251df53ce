-- Written for this claim by gp.py over the kit's print; not trusted: Lean checks it.
import Derived.Test.YtnbaojaocagjcaaFK
namespace Go.Proofs.Ytnbaojaocagjcaa.P
open Go.RowKit Go.Proofs.YtnbaojaocagjcaaW.PrintWords Go.Proofs.YtnbaojaocagjcaaW.PrintLast Go.Proofs.YtnbaojaocagjcaaW.PrintMore
set_option linter.unusedVariables false
set_option linter.unusedSimpArgs false

open Classical in
/-- Whether a test holds of 0 .. n - 1. -/
noncomputable def allB (n : Nat) (p : Nat → Prop) : Bool := decide (∀ j, j < n → p j)
open Classical in
theorem allB_true {n : Nat} {p : Nat → Prop} (h : ∀ j, j < n → p j) : allB n p = true := by
  unfold allB
  exact decide_eq_true h
open Classical in
theorem allB_iff {n : Nat} {p : Nat → Prop} : allB n p = true ↔ ∀ j, j < n → p j := by
  unfold allB
  exact decide_eq_true_iff
theorem allB_false {n i : Nat} {p : Nat → Prop} (hi : i < n) (h : ¬ p i) : allB n p = false := by
  cases e : allB n p with
  | false => rfl
  | true => exact absurd (allB_iff.mp e i hi) h
/-- A loop that goes on while a test holds. -/
theorem ev_all {ρ : Type} {n : Nat} {R e : ρ} (p : Nat → Prop) (f : Nat → Nat → Option ρ) (hend : Ev (f n) R) (hyes : ∀ i, i < n → p i → ∀ r, Ev (f (i + 1)) r → Ev (f i) r) (hno : ∀ i, i < n → ¬ p i → Ev (f i) e) : Ev (f 0) (bif allB n p then R else e) := by
  have key : ∀ d i, i + d = n → (∀ j, j < i → p j) → Ev (f i) (bif allB n p then R else e) := by
    intro d
    induction d with
    | zero =>
      intro i hi h
      have : i = n := by omega
      subst this
      rw [allB_true h]
      exact hend
    | succ d ih =>
      intro i hi h
      by_cases hp : p i
      · refine hyes i (by omega) hp _ (ih (i + 1) (by omega) ?_)
        intro j hj
        by_cases hji : j = i
        · rw [hji]; exact hp
        · exact h j (by omega)
      · rw [allB_false (by omega) hp]
        exact hno i (by omega) hp
  exact key n 0 (by omega) (fun j hj => absurd hj (by omega))
theorem allB_list {α : Type} (l : List α) (z : α) (q : α → Bool) : allB l.length (fun j => q (l.getD j z) = true) = !(l.any fun x => !q x) := by
  rw [Bool.eq_iff_iff, allB_iff]
  simp only [Bool.not_eq_true', List.any_eq_false, Bool.not_eq_true', Bool.not_eq_false]
  constructor
  · intro h x hx
    obtain ⟨j, hj, rfl⟩ := List.mem_iff_getElem.mp hx
    have := h j hj
    rw [List.getD_eq_getElem?_getD, List.getElem?_eq_getElem hj] at this
    simpa using this
  · intro h j hj
    have := h l[j] (List.getElem_mem hj)
    rw [List.getD_eq_getElem?_getD, List.getElem?_eq_getElem hj]
    simpa using this
theorem allB_eqInts (l l' : List Int) (h : l.length = l'.length) : allB l.length (fun j => l.getD j 0 = l'.getD j 0) = decide (l = l') := by
  rw [Bool.eq_iff_iff, allB_iff, decide_eq_true_iff]
  constructor
  · intro hh
    apply List.ext_getElem h
    intro i h1 h2
    have := hh i h1
    rw [List.getD_eq_getElem?_getD, List.getElem?_eq_getElem h1, List.getD_eq_getElem?_getD, List.getElem?_eq_getElem h2] at this
    simpa using this
  · rintro rfl j _
    rfl

end Go.Proofs.Ytnbaojaocagjcaa.P
