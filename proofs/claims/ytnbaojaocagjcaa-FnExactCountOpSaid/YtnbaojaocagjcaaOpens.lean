import Derived.Test.YtnbaojaocagjcaaFHRow
import Derived.Test.YtnbaojaocagjcaaFK
namespace Go.Proofs.Ytnbaojaocagjcaa.P
open Go.RowKit Go.Proofs.YtnbaojaocagjcaaW.PrintWords Go.Proofs.YtnbaojaocagjcaaW.PrintLast Go.Proofs.YtnbaojaocagjcaaW.PrintMore
set_option linter.unusedVariables false
set_option linter.unusedSimpArgs false
theorem opens25 : Opens Try.prog 25 (Kd.slice 3 (Kd.int .i64)) (fun l => l.length ≤ 9223372036854775807 ∧ ∀ a ∈ l, fitI a) := opens_slice Try.underlying25 (by kernel_rfl) (opens_i64 Try.underlying3)
def fit78 (x : S78) : Prop := fitI x.f0 ∧ fitI x.f1 ∧ fitI x.f2 ∧ fitI x.f3 ∧ fitI x.f4
theorem opens78 : Opens Try.prog 78 k78 fit78 := opens_iso (fun p => ⟨p.1, p.2.1, p.2.2.1, p.2.2.2.1, p.2.2.2.2⟩) (fun _ => rfl) (opens_struct Try.underlying78 (by kernel_rfl) (opensF_cons rfl (by kernel_rfl) (by kernel_rfl) (opens_i64 Try.underlying3) (opensF_cons rfl (by kernel_rfl) (by kernel_rfl) (opens_i64 Try.underlying3) (opensF_cons rfl (by kernel_rfl) (by kernel_rfl) (opens_i64 Try.underlying3) (opensF_cons rfl (by kernel_rfl) (by kernel_rfl) (opens_i64 Try.underlying3) (opensF_one rfl (by kernel_rfl) (opens_i64 Try.underlying3)))))))
theorem opens26 : Opens Try.prog 26 (Kd.slice 78 k78) (fun l => l.length ≤ 9223372036854775807 ∧ ∀ a ∈ l, fit78 a) := opens_slice Try.underlying26 (by kernel_rfl) opens78
def fit28 (x : S28) : Prop := (fun l => l.length ≤ 9223372036854775807 ∧ ∀ a ∈ l, fitI a) x.f0 ∧ fitI x.f1 ∧ fitI x.f2 ∧ (fun l => l.length ≤ 9223372036854775807 ∧ ∀ a ∈ l, fit78 a) x.f3
theorem opens28 : Opens Try.prog 28 k28 fit28 := opens_iso (fun p => ⟨p.1, p.2.1, p.2.2.1, p.2.2.2⟩) (fun _ => rfl) (opens_struct Try.underlying28 (by kernel_rfl) (opensF_cons rfl (by kernel_rfl) (by kernel_rfl) opens25 (opensF_cons rfl (by kernel_rfl) (by kernel_rfl) (opens_i64 Try.underlying3) (opensF_cons rfl (by kernel_rfl) (by kernel_rfl) (opens_i64 Try.underlying3) (opensF_one rfl (by kernel_rfl) opens26)))))
end Go.Proofs.Ytnbaojaocagjcaa.P
