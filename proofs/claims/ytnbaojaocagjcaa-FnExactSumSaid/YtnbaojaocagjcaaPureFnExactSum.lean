/- The program's Sum and the reference's Sum return the same number for every string of at most 1048576 bytes (longer ones are answered true at once); no further condition. -/
import Derived.Test.YtnbaojaocagjcaaPFnExactSumx1
namespace Go.Proofs.Ytnbaojaocagjcaa.Pure
open Go.RowKit Go.Proofs.Ytnbaojaocagjcaa.PFnExactSum Go.Proofs.YtnbaojaocagjcaaW.PrintWords Go.Proofs.YtnbaojaocagjcaaW.PrintLast

theorem sum_pair (s : ByteArray) (hs : s.size ≤ 140737488351232) (d : Nat) : ∀ (k : Nat) (i x : Int), 0 ≤ i → i ≤ s.size → (s.size : Int) - i = d → d < k →
    ∃ r, spec_Sum.l0 k s x i = some r ∧ impl_sum.l0 k s x (s.size : Int) i = some r := by
  induction d with
  | zero =>
    intro k i x h0 h1 hd hk
    obtain ⟨k, rfl⟩ : ∃ m, k = m + 1 := ⟨k - 1, by omega⟩
    refine ⟨x, ?_, ?_⟩
    · simp only [spec_Sum.l0]; rw [if_neg (by omega)]
    · simp only [impl_sum.l0]; rw [if_neg (by omega)]
  | succ d ih =>
    intro k i x h0 h1 hd hk
    obtain ⟨k, rfl⟩ : ∃ m, k = m + 1 := ⟨k - 1, by omega⟩
    have hw : wrap64 (i + 1) = i + 1 := by unfold wrap64; omega
    obtain ⟨r, h2, h3⟩ := ih k (i + 1) (((Go.bits .xor .u32 x ((bt s i) % 4294967296)) * 16777619) % 4294967296) (by omega) (by omega) (by omega) (by omega)
    refine ⟨r, ?_, ?_⟩
    · simp only [spec_Sum.l0]; rw [if_pos (by omega), if_pos h0, hw]; exact h2
    · simp only [impl_sum.l0]; rw [if_pos (by omega), if_pos h0, if_pos (by omega), hw]; exact h3
theorem FnExactSum : laws_FnExactSum.Pure := by
  intro s hs
  obtain ⟨r, h1, h2⟩ := sum_pair s hs s.size (s.size + 1) 0 2166136261 (by omega) (by omega) (by omega) (by omega)
  refine ⟨s.size + 1, ?_⟩
  unfold laws_FnExactSum.f spec_Sum.f impl_Sum.f impl_sum.f
  rw [h1, h2]
  simp

end Go.Proofs.Ytnbaojaocagjcaa.Pure
