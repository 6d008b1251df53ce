-- Written for this claim by gp.py over the kit's print; not trusted: Lean checks it.
import Derived.Shelf.Abstract
import Derived.Outline
import Derived.Test.YtnbaojaocagjcaaFK
import Derived.Test.YtnbaojaocagjcaaF66
import Derived.Test.YtnbaojaocagjcaaFHFuncAny
import Derived.Test.YtnbaojaocagjcaaFHFuncInt
namespace Go.Proofs.Ytnbaojaocagjcaa.P
open Go.RowKit Go.Proofs.YtnbaojaocagjcaaW.PrintWords Go.Proofs.YtnbaojaocagjcaaW.PrintLast Go.Proofs.YtnbaojaocagjcaaW.PrintMore
set_option linter.unusedVariables false
set_option linter.unusedSimpArgs false

/-- Whether a lies in b .. c. -/
def inB (a b c : Int) : Bool := decide (b ≤ a) && decide (a ≤ c)
theorem in_any (a b c : Int) (w : World) : Calls Try.prog 66 #[.int .i64 a, .int .i64 b, .int .i64 c] w fun e w' => e = .returned (.bool (inB a b c)) ∧ Drawn0 w w' :=
  impl_in.calls a b c (inB a b c) w (by
    unfold impl_in.f inB
    by_cases h : a ≥ b
    · rw [if_pos h]
      have h' : b ≤ a := h
      simp [h']
    · rw [if_neg h]
      have h' : ¬ b ≤ a := h
      simp [h'])
/-- Whether sizes, params and vars are a program's. -/
def progOk (l : List Int) (p v : Int) : Bool := inB (l.length : Int) 1 4 && !(l.any fun n => !inB n 1 16) && inB p 0 (if v < 6 then v else 6) && decide (v ≤ 20)
set_option maxHeartbeats 1000000 in
theorem isProgram_1 (W : World) (x : Int) : Calls Try.prog 78 #[.int .i64 x] W fun e w' => e = .returned (.bool (!inB x 1 16)) ∧ Below W.heap.size W w' := by
  have HC := Aside0.mk (in_any x 1 16)
  generalize inB x 1 16 = b at HC ⊢
  go_enter Try.func78, Try.ntmps78
  go_wp2_with (go_at_call 66; refine (HC.out _).mono ?_; rintro e w1 ⟨rfl, hb1⟩; have HD := Aside0.mk hb1.below; clear hb1)
  go_ret
  exact ⟨rfl, HD.out⟩
set_option maxHeartbeats 2000000 in
set_option maxRecDepth 100000 in
theorem areStmts_nil (p0 p1 p2 p3 : Value) (A : Option Addr) (c : Nat) (w : World) :
    Calls Try.prog 79 #[.agg #[p0, p1, p2, p3], .slice A 0 c, .int .i64 0] w fun e w' => e = .returned (.bool true) ∧ Below w.heap.size w w' := by
  go_enter Try.func79, Try.ntmps79
  go_wp2
  go_loop [25] (fun i => i = .int .i64 0) (fun _ => 0)
  case atStart => exact rfl
  case round =>
    obtain rfl := hrel
    go_wp2
    go_ret
    exact ⟨rfl, below_alloc (below_alloc (Below.refl _ _) _) _⟩
set_option maxHeartbeats 400000 in
set_option maxRecDepth 100000 in
/-- isProgram where there is no statement: all that a graph or an image asks of it. -/
theorem isProgram_nil (A0 A3 : Option Addr) (c0 c3 : Nat) (l0 : List Int) (a1 a2 : Int) (w : World) (hr0 : Kd.C (Kd.int .i64) w A0 l0.length l0) (hc0 : l0.length ≤ c0) :
    Calls Try.prog 65 #[.agg #[.slice A0 l0.length c0, .int .i64 a1, .int .i64 a2, .slice A3 0 c3]] w fun e w' => e = .returned (.bool (progOk l0 a1 a2)) ∧ Below w.heap.size w w' := by
  have eg := enters_of Try.func78 (by kernel_rfl) rfl
  have hmx := hr0.2.1
  have HC1 := Aside0.mk (in_any (l0.length : Int) 1 4)
  have HC3 := Aside0.mk (in_any a1 0 (if a2 < 6 then a2 else 6))
  have HF := Aside0.mk (fun (W : World) (hb : Below w.heap.size w W) => containsFunc_int 78 #[] (fun n => !inB n 1 16) eg A0 c0 l0 W (Kd.C_below hr0 hb) hc0 (fun W x _ => isProgram_1 W x))
  clear hr0 hc0
  unfold progOk
  by_cases h6 : a2 < 6
  all_goals
    first | rw [if_pos h6] at HC3 ⊢ | rw [if_neg h6] at HC3 ⊢
    cases hb1 : inB (l0.length : Int) 1 4 with
    | false =>
      go_enter Try.func65, Try.ntmps65
      go_wp2_with (first | (go_at_call 66; refine (in_any _ _ _ _).mono ?_; rintro e w1 ⟨rfl, ⟨n, rfl⟩⟩))
      go_ret
      exact ⟨rfl, pw_below_drewN (below_alloc (Below.refl _ _) _) _⟩
    | true =>
      cases hb2 : (l0.any fun n => !inB n 1 16) with
      | true =>
        rw [hb2] at HF
        go_enter Try.func65, Try.ntmps65
        go_wp2_with (first | (go_at_call 66; refine (in_any _ _ _ _).mono ?_; rintro e w1 ⟨rfl, ⟨n, rfl⟩⟩) | (go_at_call 77; refine (HF.out _ (pw_below_drewN (below_alloc (Below.refl _ _) _) _)).mono ?_; rintro e w1 ⟨rfl, hb⟩; have HB := Aside0.mk (below_step (pw_below_drewN (below_alloc (Below.refl _ _) _) _) hb); clear hb))
        go_ret
        exact ⟨rfl, HB.out⟩
      | false =>
        rw [hb2] at HF
        go_enter Try.func65, Try.ntmps65
        go_wp2_with (first | (go_at_call 66; (with_reducible refine (in_any _ _ _ _).mono ?_); rintro e w1 ⟨rfl, ⟨n, rfl⟩⟩) | (go_at_call 77; (with_reducible refine (HF.out _ (pw_below_drewN (below_alloc (Below.refl _ _) _) _)).mono ?_); rintro e w1 ⟨rfl, hb⟩; have HB := Aside0.mk (below_step (pw_below_drewN (below_alloc (Below.refl _ _) _) _) hb); obtain ⟨hc_, hf_⟩ := bcell hb; have hz_ := hb.size; simp at hz_; clear hb) | (go_at_call 79; (with_reducible refine (areStmts_nil _ _ _ _ _ _ _).mono ?_); rintro e w2 ⟨rfl, hb⟩; have HB2 := Aside0.mk (below_step (pw_below_drewN HB.out _) hb); clear hb))
        all_goals
          go_ret
          first
            | exact ⟨by simp [*], HB2.out⟩
            | exact ⟨by simp [*], pw_below_drewN HB.out _⟩
def impl_isProgram.f (l0_0 : List Int) (a0_1 : Int) (a0_2 : Int) (l0_3 : List (S116)) : Option Bool := if l0_3.length = 0 then some (progOk l0_0 a0_1 a0_2) else none
theorem impl_isProgram.calls (A0_0 : Option Addr) (c0_0 : Nat) (l0_0 : List Int) (a0_1 : Int) (a0_2 : Int) (A0_3 : Option Addr) (c0_3 : Nat) (l0_3 : List (S116)) (r : Bool) (w : World) (hr0_0 : Kd.C (Kd.int .i64) w A0_0 l0_0.length l0_0) (hc0_0 : l0_0.length ≤ c0_0) (hr0_3 : Kd.C k116 w A0_3 l0_3.length l0_3) (hc0_3 : l0_3.length ≤ c0_3) (h : impl_isProgram.f l0_0 a0_1 a0_2 l0_3 = some r) :
    Calls Try.prog 65 #[.agg #[.slice A0_0 l0_0.length c0_0, .int .i64 a0_1, .int .i64 a0_2, .slice A0_3 l0_3.length c0_3]] w fun e w' => e = .returned (.bool r) ∧ Below w.heap.size w w' := by
  unfold impl_isProgram.f at h
  split at h
  · rename_i h0
    injection h with h
    subst h
    rw [h0]
    exact isProgram_nil A0_0 A0_3 c0_0 c0_3 l0_0 a0_1 a0_2 w hr0_0 hc0_0
  · cases h

end Go.Proofs.Ytnbaojaocagjcaa.P
