-- Joined by pack.py from FHIsWord, FHIsImage, F30, F33
import Derived.Shelf.Abstract
import Derived.Outline
import Derived.Test.YtnbaojaocagjcaaQDead1
import Derived.Test.YtnbaojaocagjcaaQDead3
section
-- Written for this claim by gp.py over the kit's print; not trusted: Lean checks it.




namespace Go.Proofs.Ytnbaojaocagjcaa.P
open Go.RowKit Go.Proofs.YtnbaojaocagjcaaW.PrintWords Go.Proofs.YtnbaojaocagjcaaW.PrintLast Go.Proofs.YtnbaojaocagjcaaW.PrintMore
set_option linter.unusedVariables false
set_option linter.unusedSimpArgs false

def regOk (n : Int) (has : Bool) : Bool := inB n 0 15 && (has || n == 0)
def wordFin (v most r : Int) (hr : Bool) (a : Int) (ha : Bool) (b : Int) (hb : Bool) : Bool := inB v 0 most && regOk r hr && regOk a ha && regOk b hb
/-- Whether a word is one of an image with so many sizes, slots and words. -/
def wordIs (ns : Int) (slots : Int) (nc : Int) (o r a b v : Int) : Bool :=
  if o = 0 then wordFin 0 0 r true a false b false
  else if o = 1 then wordFin v (wrap64 (slots - 1)) r true a false b false
  else if o = 2 then wordFin v (wrap64 (slots - 1)) r true a false b false
  else if o = 3 then wordFin v 5 r true a true b true
  else if o = 4 then wordFin v (ns - 1) r true a true b false
  else if o = 5 then wordFin v (ns - 1) r true a true b false
  else if o = 6 then wordFin v 0 r true a false b false
  else if o = 7 then wordFin v 0 r true a false b false
  else if o = 8 then wordFin v (nc - 1) r false a false b false
  else if o = 9 then wordFin v (nc - 1) r true a false b false
  else if o = 10 then wordFin v 0 r true a false b false
  else if o = 11 then wordFin v 0 r true a true b false
  else false
set_option maxHeartbeats 400000 in
theorem reg_any (n : Int) (has : Bool) (w : World) : Calls Try.prog 81 #[.int .i64 n, .bool has] w fun e w' => e = .returned (.bool (regOk n has)) ∧ Drawn0 w w' := by
  unfold regOk
  cases has <;> cases h2 : (n == 0)
  all_goals
    go_enter Try.func81, Try.ntmps81
    go_wp2_with (first | (go_at_call 66; (with_reducible refine (in_any _ _ _ _).mono ?_); rintro e w1 ⟨rfl, ⟨m, rfl⟩⟩))
    all_goals
      go_ret
      first
        | exact ⟨by simp [*], ⟨⟨m, rfl⟩⟩⟩

set_option maxHeartbeats 1000000 in
theorem isWordOf_0 (A0 A3 : Option Addr) (c0 c3 n0 n3 : Nat) (p1 slots r a b v : Int) (w : World) (hn0 : n0 ≤ 9223372036854775807) (hn3 : n3 ≤ 9223372036854775807) :
    Calls Try.prog 69 #[.agg #[.slice A0 n0 c0, .int .i64 p1, .int .i64 slots, .slice A3 n3 c3], .agg #[.int .i64 0, .int .i64 r, .int .i64 a, .int .i64 b, .int .i64 v]] w fun e w' => e = .returned (.bool (wordFin 0 0 r true a false b false)) ∧ Below w.heap.size w w' := by
  go_enter Try.func69, Try.ntmps69
  go_wp2_with (first | (go_at_call 66; (with_reducible refine (in_any _ _ _ _).mono ?_); rintro e w1 ⟨rfl, ⟨n, rfl⟩⟩) | (go_at_call 81; (with_reducible refine (reg_any _ _ _).mono ?_); rintro e w1 ⟨rfl, ⟨n, rfl⟩⟩))
  all_goals
    go_ret
    exact ⟨by simp [wordFin, *], by repeat (first | exact Below.refl _ _ | apply pw_below_drewN | apply below_alloc)⟩
set_option maxHeartbeats 1000000 in
theorem isWordOf_1 (A0 A3 : Option Addr) (c0 c3 n0 n3 : Nat) (p1 slots r a b v : Int) (w : World) (hn0 : n0 ≤ 9223372036854775807) (hn3 : n3 ≤ 9223372036854775807) :
    Calls Try.prog 69 #[.agg #[.slice A0 n0 c0, .int .i64 p1, .int .i64 slots, .slice A3 n3 c3], .agg #[.int .i64 1, .int .i64 r, .int .i64 a, .int .i64 b, .int .i64 v]] w fun e w' => e = .returned (.bool (wordFin v (wrap64 (slots - 1)) r true a false b false)) ∧ Below w.heap.size w w' := by
  go_enter Try.func69, Try.ntmps69
  go_wp2_with (first | (go_at_call 66; (with_reducible refine (in_any _ _ _ _).mono ?_); rintro e w1 ⟨rfl, ⟨n, rfl⟩⟩) | (go_at_call 81; (with_reducible refine (reg_any _ _ _).mono ?_); rintro e w1 ⟨rfl, ⟨n, rfl⟩⟩))
  all_goals
    go_ret
    exact ⟨by simp [wordFin, *], by repeat (first | exact Below.refl _ _ | apply pw_below_drewN | apply below_alloc)⟩
set_option maxHeartbeats 1000000 in
theorem isWordOf_2 (A0 A3 : Option Addr) (c0 c3 n0 n3 : Nat) (p1 slots r a b v : Int) (w : World) (hn0 : n0 ≤ 9223372036854775807) (hn3 : n3 ≤ 9223372036854775807) :
    Calls Try.prog 69 #[.agg #[.slice A0 n0 c0, .int .i64 p1, .int .i64 slots, .slice A3 n3 c3], .agg #[.int .i64 2, .int .i64 r, .int .i64 a, .int .i64 b, .int .i64 v]] w fun e w' => e = .returned (.bool (wordFin v (wrap64 (slots - 1)) r true a false b false)) ∧ Below w.heap.size w w' := by
  go_enter Try.func69, Try.ntmps69
  go_wp2_with (first | (go_at_call 66; (with_reducible refine (in_any _ _ _ _).mono ?_); rintro e w1 ⟨rfl, ⟨n, rfl⟩⟩) | (go_at_call 81; (with_reducible refine (reg_any _ _ _).mono ?_); rintro e w1 ⟨rfl, ⟨n, rfl⟩⟩))
  all_goals
    go_ret
    exact ⟨by simp [wordFin, *], by repeat (first | exact Below.refl _ _ | apply pw_below_drewN | apply below_alloc)⟩
set_option maxHeartbeats 1000000 in
theorem isWordOf_3 (A0 A3 : Option Addr) (c0 c3 n0 n3 : Nat) (p1 slots r a b v : Int) (w : World) (hn0 : n0 ≤ 9223372036854775807) (hn3 : n3 ≤ 9223372036854775807) :
    Calls Try.prog 69 #[.agg #[.slice A0 n0 c0, .int .i64 p1, .int .i64 slots, .slice A3 n3 c3], .agg #[.int .i64 3, .int .i64 r, .int .i64 a, .int .i64 b, .int .i64 v]] w fun e w' => e = .returned (.bool (wordFin v 5 r true a true b true)) ∧ Below w.heap.size w w' := by
  go_enter Try.func69, Try.ntmps69
  go_wp2_with (first | (go_at_call 66; (with_reducible refine (in_any _ _ _ _).mono ?_); rintro e w1 ⟨rfl, ⟨n, rfl⟩⟩) | (go_at_call 81; (with_reducible refine (reg_any _ _ _).mono ?_); rintro e w1 ⟨rfl, ⟨n, rfl⟩⟩))
  all_goals
    go_ret
    exact ⟨by simp [wordFin, *], by repeat (first | exact Below.refl _ _ | apply pw_below_drewN | apply below_alloc)⟩
set_option maxHeartbeats 1000000 in
theorem isWordOf_4 (A0 A3 : Option Addr) (c0 c3 n0 n3 : Nat) (p1 slots r a b v : Int) (w : World) (hn0 : n0 ≤ 9223372036854775807) (hn3 : n3 ≤ 9223372036854775807) :
    Calls Try.prog 69 #[.agg #[.slice A0 n0 c0, .int .i64 p1, .int .i64 slots, .slice A3 n3 c3], .agg #[.int .i64 4, .int .i64 r, .int .i64 a, .int .i64 b, .int .i64 v]] w fun e w' => e = .returned (.bool (wordFin v ((n0 : Int) - 1) r true a true b false)) ∧ Below w.heap.size w w' := by
  go_enter Try.func69, Try.ntmps69
  go_wp2_with (first | (go_at_call 66; (with_reducible refine (in_any _ _ _ _).mono ?_); rintro e w1 ⟨rfl, ⟨n, rfl⟩⟩) | (go_at_call 81; (with_reducible refine (reg_any _ _ _).mono ?_); rintro e w1 ⟨rfl, ⟨n, rfl⟩⟩))
  all_goals
    go_ret
    exact ⟨by simp [wordFin, *], by repeat (first | exact Below.refl _ _ | apply pw_below_drewN | apply below_alloc)⟩
set_option maxHeartbeats 1000000 in
theorem isWordOf_5 (A0 A3 : Option Addr) (c0 c3 n0 n3 : Nat) (p1 slots r a b v : Int) (w : World) (hn0 : n0 ≤ 9223372036854775807) (hn3 : n3 ≤ 9223372036854775807) :
    Calls Try.prog 69 #[.agg #[.slice A0 n0 c0, .int .i64 p1, .int .i64 slots, .slice A3 n3 c3], .agg #[.int .i64 5, .int .i64 r, .int .i64 a, .int .i64 b, .int .i64 v]] w fun e w' => e = .returned (.bool (wordFin v ((n0 : Int) - 1) r true a true b false)) ∧ Below w.heap.size w w' := by
  go_enter Try.func69, Try.ntmps69
  go_wp2_with (first | (go_at_call 66; (with_reducible refine (in_any _ _ _ _).mono ?_); rintro e w1 ⟨rfl, ⟨n, rfl⟩⟩) | (go_at_call 81; (with_reducible refine (reg_any _ _ _).mono ?_); rintro e w1 ⟨rfl, ⟨n, rfl⟩⟩))
  all_goals
    go_ret
    exact ⟨by simp [wordFin, *], by repeat (first | exact Below.refl _ _ | apply pw_below_drewN | apply below_alloc)⟩
set_option maxHeartbeats 1000000 in
theorem isWordOf_6 (A0 A3 : Option Addr) (c0 c3 n0 n3 : Nat) (p1 slots r a b v : Int) (w : World) (hn0 : n0 ≤ 9223372036854775807) (hn3 : n3 ≤ 9223372036854775807) :
    Calls Try.prog 69 #[.agg #[.slice A0 n0 c0, .int .i64 p1, .int .i64 slots, .slice A3 n3 c3], .agg #[.int .i64 6, .int .i64 r, .int .i64 a, .int .i64 b, .int .i64 v]] w fun e w' => e = .returned (.bool (wordFin v 0 r true a false b false)) ∧ Below w.heap.size w w' := by
  go_enter Try.func69, Try.ntmps69
  go_wp2_with (first | (go_at_call 66; (with_reducible refine (in_any _ _ _ _).mono ?_); rintro e w1 ⟨rfl, ⟨n, rfl⟩⟩) | (go_at_call 81; (with_reducible refine (reg_any _ _ _).mono ?_); rintro e w1 ⟨rfl, ⟨n, rfl⟩⟩))
  all_goals
    go_ret
    exact ⟨by simp [wordFin, *], by repeat (first | exact Below.refl _ _ | apply pw_below_drewN | apply below_alloc)⟩
set_option maxHeartbeats 1000000 in
theorem isWordOf_7 (A0 A3 : Option Addr) (c0 c3 n0 n3 : Nat) (p1 slots r a b v : Int) (w : World) (hn0 : n0 ≤ 9223372036854775807) (hn3 : n3 ≤ 9223372036854775807) :
    Calls Try.prog 69 #[.agg #[.slice A0 n0 c0, .int .i64 p1, .int .i64 slots, .slice A3 n3 c3], .agg #[.int .i64 7, .int .i64 r, .int .i64 a, .int .i64 b, .int .i64 v]] w fun e w' => e = .returned (.bool (wordFin v 0 r true a false b false)) ∧ Below w.heap.size w w' := by
  go_enter Try.func69, Try.ntmps69
  go_wp2_with (first | (go_at_call 66; (with_reducible refine (in_any _ _ _ _).mono ?_); rintro e w1 ⟨rfl, ⟨n, rfl⟩⟩) | (go_at_call 81; (with_reducible refine (reg_any _ _ _).mono ?_); rintro e w1 ⟨rfl, ⟨n, rfl⟩⟩))
  all_goals
    go_ret
    exact ⟨by simp [wordFin, *], by repeat (first | exact Below.refl _ _ | apply pw_below_drewN | apply below_alloc)⟩
set_option maxHeartbeats 1000000 in
theorem isWordOf_8 (A0 A3 : Option Addr) (c0 c3 n0 n3 : Nat) (p1 slots r a b v : Int) (w : World) (hn0 : n0 ≤ 9223372036854775807) (hn3 : n3 ≤ 9223372036854775807) :
    Calls Try.prog 69 #[.agg #[.slice A0 n0 c0, .int .i64 p1, .int .i64 slots, .slice A3 n3 c3], .agg #[.int .i64 8, .int .i64 r, .int .i64 a, .int .i64 b, .int .i64 v]] w fun e w' => e = .returned (.bool (wordFin v ((n3 : Int) - 1) r false a false b false)) ∧ Below w.heap.size w w' := by
  go_enter Try.func69, Try.ntmps69
  go_wp2_with (first | (go_at_call 66; (with_reducible refine (in_any _ _ _ _).mono ?_); rintro e w1 ⟨rfl, ⟨n, rfl⟩⟩) | (go_at_call 81; (with_reducible refine (reg_any _ _ _).mono ?_); rintro e w1 ⟨rfl, ⟨n, rfl⟩⟩))
  all_goals
    go_ret
    exact ⟨by simp [wordFin, *], by repeat (first | exact Below.refl _ _ | apply pw_below_drewN | apply below_alloc)⟩
set_option maxHeartbeats 1000000 in
theorem isWordOf_9 (A0 A3 : Option Addr) (c0 c3 n0 n3 : Nat) (p1 slots r a b v : Int) (w : World) (hn0 : n0 ≤ 9223372036854775807) (hn3 : n3 ≤ 9223372036854775807) :
    Calls Try.prog 69 #[.agg #[.slice A0 n0 c0, .int .i64 p1, .int .i64 slots, .slice A3 n3 c3], .agg #[.int .i64 9, .int .i64 r, .int .i64 a, .int .i64 b, .int .i64 v]] w fun e w' => e = .returned (.bool (wordFin v ((n3 : Int) - 1) r true a false b false)) ∧ Below w.heap.size w w' := by
  go_enter Try.func69, Try.ntmps69
  go_wp2_with (first | (go_at_call 66; (with_reducible refine (in_any _ _ _ _).mono ?_); rintro e w1 ⟨rfl, ⟨n, rfl⟩⟩) | (go_at_call 81; (with_reducible refine (reg_any _ _ _).mono ?_); rintro e w1 ⟨rfl, ⟨n, rfl⟩⟩))
  all_goals
    go_ret
    exact ⟨by simp [wordFin, *], by repeat (first | exact Below.refl _ _ | apply pw_below_drewN | apply below_alloc)⟩
set_option maxHeartbeats 1000000 in
theorem isWordOf_10 (A0 A3 : Option Addr) (c0 c3 n0 n3 : Nat) (p1 slots r a b v : Int) (w : World) (hn0 : n0 ≤ 9223372036854775807) (hn3 : n3 ≤ 9223372036854775807) :
    Calls Try.prog 69 #[.agg #[.slice A0 n0 c0, .int .i64 p1, .int .i64 slots, .slice A3 n3 c3], .agg #[.int .i64 10, .int .i64 r, .int .i64 a, .int .i64 b, .int .i64 v]] w fun e w' => e = .returned (.bool (wordFin v 0 r true a false b false)) ∧ Below w.heap.size w w' := by
  go_enter Try.func69, Try.ntmps69
  go_wp2_with (first | (go_at_call 66; (with_reducible refine (in_any _ _ _ _).mono ?_); rintro e w1 ⟨rfl, ⟨n, rfl⟩⟩) | (go_at_call 81; (with_reducible refine (reg_any _ _ _).mono ?_); rintro e w1 ⟨rfl, ⟨n, rfl⟩⟩))
  all_goals
    go_ret
    exact ⟨by simp [wordFin, *], by repeat (first | exact Below.refl _ _ | apply pw_below_drewN | apply below_alloc)⟩
set_option maxHeartbeats 1000000 in
theorem isWordOf_11 (A0 A3 : Option Addr) (c0 c3 n0 n3 : Nat) (p1 slots r a b v : Int) (w : World) (hn0 : n0 ≤ 9223372036854775807) (hn3 : n3 ≤ 9223372036854775807) :
    Calls Try.prog 69 #[.agg #[.slice A0 n0 c0, .int .i64 p1, .int .i64 slots, .slice A3 n3 c3], .agg #[.int .i64 11, .int .i64 r, .int .i64 a, .int .i64 b, .int .i64 v]] w fun e w' => e = .returned (.bool (wordFin v 0 r true a true b false)) ∧ Below w.heap.size w w' := by
  go_enter Try.func69, Try.ntmps69
  go_wp2_with (first | (go_at_call 66; (with_reducible refine (in_any _ _ _ _).mono ?_); rintro e w1 ⟨rfl, ⟨n, rfl⟩⟩) | (go_at_call 81; (with_reducible refine (reg_any _ _ _).mono ?_); rintro e w1 ⟨rfl, ⟨n, rfl⟩⟩))
  all_goals
    go_ret
    exact ⟨by simp [wordFin, *], by repeat (first | exact Below.refl _ _ | apply pw_below_drewN | apply below_alloc)⟩
set_option maxHeartbeats 1000000 in
theorem isWordOf_no (A0 A3 : Option Addr) (c0 c3 n0 n3 : Nat) (p1 slots r a b v : Int) (w : World) (hn0 : n0 ≤ 9223372036854775807) (hn3 : n3 ≤ 9223372036854775807) (o : Int) (h0 : (o == 0) = false) (h1 : (o == 1) = false) (h2 : (o == 2) = false) (h3 : (o == 3) = false) (h4 : (o == 4) = false) (h5 : (o == 5) = false) (h6 : (o == 6) = false) (h7 : (o == 7) = false) (h8 : (o == 8) = false) (h9 : (o == 9) = false) (h10 : (o == 10) = false) (h11 : (o == 11) = false) :
    Calls Try.prog 69 #[.agg #[.slice A0 n0 c0, .int .i64 p1, .int .i64 slots, .slice A3 n3 c3], .agg #[.int .i64 o, .int .i64 r, .int .i64 a, .int .i64 b, .int .i64 v]] w fun e w' => e = .returned (.bool false) ∧ Below w.heap.size w w' := by
  go_enter Try.func69, Try.ntmps69
  go_wp2_with (first | (go_at_call 66; (with_reducible refine (in_any _ _ _ _).mono ?_); rintro e w1 ⟨rfl, ⟨n, rfl⟩⟩) | (go_at_call 81; (with_reducible refine (reg_any _ _ _).mono ?_); rintro e w1 ⟨rfl, ⟨n, rfl⟩⟩))
  go_ret
  exact ⟨rfl, by repeat (first | exact Below.refl _ _ | apply pw_below_drewN | apply below_alloc)⟩
theorem isWordOf_any (A0 A3 : Option Addr) (c0 c3 n0 n3 : Nat) (p1 slots r a b v : Int) (w : World) (hn0 : n0 ≤ 9223372036854775807) (hn3 : n3 ≤ 9223372036854775807) (o : Int) :
    Calls Try.prog 69 #[.agg #[.slice A0 n0 c0, .int .i64 p1, .int .i64 slots, .slice A3 n3 c3], .agg #[.int .i64 o, .int .i64 r, .int .i64 a, .int .i64 b, .int .i64 v]] w fun e w' => e = .returned (.bool (wordIs n0 slots n3 o r a b v)) ∧ Below w.heap.size w w' := by
  unfold wordIs
  by_cases h0 : o = 0
  · rw [if_pos h0, h0]
    exact isWordOf_0 A0 A3 c0 c3 n0 n3 p1 slots r a b v w hn0 hn3
  rw [if_neg h0]
  by_cases h1 : o = 1
  · rw [if_pos h1, h1]
    exact isWordOf_1 A0 A3 c0 c3 n0 n3 p1 slots r a b v w hn0 hn3
  rw [if_neg h1]
  by_cases h2 : o = 2
  · rw [if_pos h2, h2]
    exact isWordOf_2 A0 A3 c0 c3 n0 n3 p1 slots r a b v w hn0 hn3
  rw [if_neg h2]
  by_cases h3 : o = 3
  · rw [if_pos h3, h3]
    exact isWordOf_3 A0 A3 c0 c3 n0 n3 p1 slots r a b v w hn0 hn3
  rw [if_neg h3]
  by_cases h4 : o = 4
  · rw [if_pos h4, h4]
    exact isWordOf_4 A0 A3 c0 c3 n0 n3 p1 slots r a b v w hn0 hn3
  rw [if_neg h4]
  by_cases h5 : o = 5
  · rw [if_pos h5, h5]
    exact isWordOf_5 A0 A3 c0 c3 n0 n3 p1 slots r a b v w hn0 hn3
  rw [if_neg h5]
  by_cases h6 : o = 6
  · rw [if_pos h6, h6]
    exact isWordOf_6 A0 A3 c0 c3 n0 n3 p1 slots r a b v w hn0 hn3
  rw [if_neg h6]
  by_cases h7 : o = 7
  · rw [if_pos h7, h7]
    exact isWordOf_7 A0 A3 c0 c3 n0 n3 p1 slots r a b v w hn0 hn3
  rw [if_neg h7]
  by_cases h8 : o = 8
  · rw [if_pos h8, h8]
    exact isWordOf_8 A0 A3 c0 c3 n0 n3 p1 slots r a b v w hn0 hn3
  rw [if_neg h8]
  by_cases h9 : o = 9
  · rw [if_pos h9, h9]
    exact isWordOf_9 A0 A3 c0 c3 n0 n3 p1 slots r a b v w hn0 hn3
  rw [if_neg h9]
  by_cases h10 : o = 10
  · rw [if_pos h10, h10]
    exact isWordOf_10 A0 A3 c0 c3 n0 n3 p1 slots r a b v w hn0 hn3
  rw [if_neg h10]
  by_cases h11 : o = 11
  · rw [if_pos h11, h11]
    exact isWordOf_11 A0 A3 c0 c3 n0 n3 p1 slots r a b v w hn0 hn3
  rw [if_neg h11]
  exact isWordOf_no A0 A3 c0 c3 n0 n3 p1 slots r a b v w hn0 hn3 o (beq_eq_false_iff_ne.mpr h0) (beq_eq_false_iff_ne.mpr h1) (beq_eq_false_iff_ne.mpr h2) (beq_eq_false_iff_ne.mpr h3) (beq_eq_false_iff_ne.mpr h4) (beq_eq_false_iff_ne.mpr h5) (beq_eq_false_iff_ne.mpr h6) (beq_eq_false_iff_ne.mpr h7) (beq_eq_false_iff_ne.mpr h8) (beq_eq_false_iff_ne.mpr h9) (beq_eq_false_iff_ne.mpr h10) (beq_eq_false_iff_ne.mpr h11)

end Go.Proofs.Ytnbaojaocagjcaa.P
end
section
-- Written for this claim by gp.py over the kit's print; not trusted: Lean checks it.







namespace Go.Proofs.Ytnbaojaocagjcaa.P
open Go.RowKit Go.Proofs.YtnbaojaocagjcaaW.PrintWords Go.Proofs.YtnbaojaocagjcaaW.PrintLast Go.Proofs.YtnbaojaocagjcaaW.PrintMore
set_option linter.unusedVariables false
set_option linter.unusedSimpArgs false

/-- Whether an image is ok. -/
def imageOk (l0 : List Int) (p s : Int) (l3 : List S59) : Bool :=
  progOk l0 0 0 && inB p 0 6 && inB s p 1000 && inB (l3.length : Int) 1 6000 && (((rd_T59 l3 ((l3.length : Int) - 1)).f0 == 10) || ((rd_T59 l3 ((l3.length : Int) - 1)).f0 == 8)) &&
    !(l3.any fun x => !wordIs (l0.length : Int) s (l3.length : Int) x.f0 x.f1 x.f2 x.f3 x.f4)
set_option maxHeartbeats 400000 in
theorem isImage_1 (B : Nat) (A0 A3 : Option Addr) (c0 c3 n0 n3 : Nat) (p1 slots : Int) (hn0 : n0 ≤ 9223372036854775807) (hn3 : n3 ≤ 9223372036854775807) (W : World) (x : S59)
    (hb0 : W.cell? ⟨B, 0, none⟩ = some (.slice A0 n0 c0)) (hb1 : W.cell? ⟨B, 1, none⟩ = some (.int .i64 p1)) (hb2 : W.cell? ⟨B, 2, none⟩ = some (.int .i64 slots)) (hb3 : W.cell? ⟨B, 3, none⟩ = some (.slice A3 n3 c3)) (hB : B < W.heap.size) :
    Calls Try.prog 68 #[.agg #[.int .i64 x.f0, .int .i64 x.f1, .int .i64 x.f2, .int .i64 x.f3, .int .i64 x.f4], .pointer (some ⟨B, 0, none⟩)] W
      fun e w' => e = .returned (.bool (!wordIs (n0 : Int) slots (n3 : Int) x.f0 x.f1 x.f2 x.f3 x.f4)) ∧ Below W.heap.size W w' := by
  have hne : B ≠ W.heap.size := by omega
  have HC := Aside0.mk (fun W' => isWordOf_any A0 A3 c0 c3 n0 n3 p1 slots x.f1 x.f2 x.f3 x.f4 W' hn0 hn3 x.f0)
  generalize wordIs (n0 : Int) slots (n3 : Int) x.f0 x.f1 x.f2 x.f3 x.f4 = b at HC ⊢
  go_enter Try.func68, Try.ntmps68
  go_wp2_with (go_at_call 69; (with_reducible refine (HC.out _).mono ?_); rintro e w1 ⟨rfl, hb⟩; have HD := Aside0.mk (below_step (below_alloc (Below.refl _ _) _) hb); clear hb)
  go_ret
  exact ⟨rfl, HD.out⟩
set_option maxHeartbeats 1000000 in
set_option maxRecDepth 100000 in
theorem isImage_any (A0_0 A0_3 : Option Addr) (c0_0 c0_3 : Nat) (l0 : List Int) (p s : Int) (l3 : List (S59)) (w : World) (hr0 : Kd.C (Kd.int .i64) w A0_0 l0.length l0) (hc0 : l0.length ≤ c0_0) (hr3 : Kd.C k59 w A0_3 l3.length l3) (hc3 : l3.length ≤ c0_3) :
    Calls Try.prog 52 #[.agg #[.slice A0_0 l0.length c0_0, .int .i64 p, .int .i64 s, .slice A0_3 l3.length c0_3]] w fun e w' => e = .returned (.bool (imageOk l0 p s l3)) ∧ Below w.heap.size w w' := by
  have eg := enters_of Try.func68 (by kernel_rfl) rfl
  have hm0 := hr0.2.1
  have hm3 := hr3.2.1
  have HP := Aside0.mk (fun (W : World) (hb : Below w.heap.size w W) => isProgram_nil A0_0 none c0_0 0 l0 0 0 W (Kd.C_below hr0 hb) hc0)
  have HF := Aside0.mk (fun (W : World) (hb : Below w.heap.size w W) (h0 : w.heap.size < W.heap.size) (hb0 : W.cell? ⟨w.heap.size, 0, none⟩ = some (.slice A0_0 l0.length c0_0)) (hb1 : W.cell? ⟨w.heap.size, 1, none⟩ = some (.int .i64 p)) (hb2 : W.cell? ⟨w.heap.size, 2, none⟩ = some (.int .i64 s)) (hb3 : W.cell? ⟨w.heap.size, 3, none⟩ = some (.slice A0_3 l3.length c0_3)) =>
    containsFunc_Word 68 #[.pointer (some ⟨w.heap.size, 0, none⟩)] (fun x => !wordIs (l0.length : Int) s (l3.length : Int) x.f0 x.f1 x.f2 x.f3 x.f4) eg A0_3 c0_3 l3 W (Kd.C_below hr3 hb) hc3
      (fun W2 x hb' => isImage_1 w.heap.size A0_0 A0_3 c0_0 c0_3 l0.length l3.length p s hm0 hm3 W2 x ((hb'.cell (p := ⟨w.heap.size, 0, none⟩) h0).trans hb0) ((hb'.cell (p := ⟨w.heap.size, 1, none⟩) h0).trans hb1) ((hb'.cell (p := ⟨w.heap.size, 2, none⟩) h0).trans hb2) ((hb'.cell (p := ⟨w.heap.size, 3, none⟩) h0).trans hb3) (Nat.lt_of_lt_of_le h0 hb'.size)))
  unfold imageOk
  have HR3 := Aside0.mk hr3
  clear hr0 hc0 hr3 hc3
  cases hp0 : progOk l0 0 0 with
  | false =>
    rw [hp0] at HP
    go_enter Try.func52, Try.ntmps52
    go_wp2_with (first | (go_at_call 65; (with_reducible refine (HP.out _ (below_alloc (Below.refl _ _) _)).mono ?_); rintro e w1 ⟨rfl, hb⟩; have HB := Aside0.mk (below_step (below_alloc (Below.refl _ _) _) hb); clear hb))
    go_ret
    exact ⟨by simp, HB.out⟩
  | true =>
    rw [hp0] at HP
    cases hl : inB (l3.length : Int) 1 6000 with
    | false =>
      go_enter Try.func52, Try.ntmps52
      go_wp2_with (first | (go_at_call 65; (with_reducible refine (HP.out _ (below_alloc (Below.refl _ _) _)).mono ?_); rintro e w1 ⟨rfl, hb⟩; have HB := Aside0.mk (below_step (below_alloc (Below.refl _ _) _) hb); obtain ⟨hc_, hf_⟩ := bcell hb; have hz_ := hb.size; simp at hz_; clear hb) | (go_at_call 66; (with_reducible refine (in_any _ _ _ _).mono ?_); rintro e w2 ⟨rfl, ⟨n, rfl⟩⟩))
      all_goals
        go_ret
        exact ⟨by simp [*], by repeat (first | exact HB.out | apply pw_below_drewN | apply below_alloc)⟩
    | true =>
      have hl1 : 1 ≤ l3.length := by
        unfold inB at hl
        simp at hl
        omega
      have q1 : 0 ≤ (l3.length : Int) - 1 := by omega
      have q2 : (l3.length : Int) - 1 < (l3.length : Int) := by omega
      obtain ⟨ad, e1, hx0, _⟩ := at_T59 HR3.out ((l3.length : Int) - 1) q1 q2
      cases e1
      rw [show ((l3.length : Int) - 1).toNat = l3.length - 1 from by omega] at hx0
      generalize (rd_T59 l3 ((l3.length : Int) - 1)).f0 = o at hx0 ⊢
      go_enter Try.func52, Try.ntmps52
      go_wp2_with (first | (go_at_call 65; (with_reducible refine (HP.out _ (below_alloc (Below.refl _ _) _)).mono ?_); rintro e w1 ⟨rfl, hb⟩; have HB := Aside0.mk (below_step (below_alloc (Below.refl _ _) _) hb); obtain ⟨hc_, hf_⟩ := bcell hb; have hz_ := hb.size; simp at hz_; have hx1 := (HB.out.cell (World.block_lt_of_cell? w _ hx0)).trans hx0; clear hb) | (go_at_call 66; (with_reducible refine (in_any _ _ _ _).mono ?_); rintro e w2 ⟨rfl, ⟨n, rfl⟩⟩) | (go_at_call 67; (with_reducible refine (HF.out _ ?s1 ?s2 ?s3 ?s4 ?s5 ?s6).mono ?_); (case s1 => repeat (first | exact HB.out | apply pw_below_drewN)); (case s2 => simp; omega); (case s3 => simp [hc_]); (case s4 => simp [hc_]); (case s5 => simp [hc_]); (case s6 => simp [hc_]); rintro e w3 ⟨rfl, hb⟩; have HB3 := Aside0.mk (below_step (show Below w.heap.size w _ from by repeat (first | exact HB.out | apply pw_below_drewN)) hb); clear hb))
      all_goals
        go_ret
        first
          | exact ⟨by simp [*], HB3.out⟩
          | exact ⟨by simp [*], by repeat (first | exact HB.out | apply pw_below_drewN | apply below_alloc)⟩

def impl_isImage.f (l0_0 : List Int) (a0_1 : Int) (a0_2 : Int) (l0_3 : List (S59)) : Option Bool := some (imageOk l0_0 a0_1 a0_2 l0_3)
theorem impl_isImage.calls (A0_0 : Option Addr) (c0_0 : Nat) (l0_0 : List Int) (a0_1 : Int) (a0_2 : Int) (A0_3 : Option Addr) (c0_3 : Nat) (l0_3 : List (S59)) (r : Bool) (w : World) (hr0_0 : Kd.C (Kd.int .i64) w A0_0 l0_0.length l0_0) (hc0_0 : l0_0.length ≤ c0_0) (hr0_3 : Kd.C k59 w A0_3 l0_3.length l0_3) (hc0_3 : l0_3.length ≤ c0_3) (h : impl_isImage.f l0_0 a0_1 a0_2 l0_3 = some r) :
    Calls Try.prog 52 #[.agg #[.slice A0_0 l0_0.length c0_0, .int .i64 a0_1, .int .i64 a0_2, .slice A0_3 l0_3.length c0_3]] w fun e w' => e = .returned (.bool r) ∧ Below w.heap.size w w' := by
  injection h with h
  subst h
  exact isImage_any A0_0 A0_3 c0_0 c0_3 l0_0 a0_1 a0_2 l0_3 w hr0_0 hc0_0 hr0_3 hc0_3

end Go.Proofs.Ytnbaojaocagjcaa.P
end
section
-- Written for this claim by gp.py over the kit's print; not trusted: Lean checks it.


namespace Go.Proofs.Ytnbaojaocagjcaa.P
open Go.RowKit Go.Proofs.YtnbaojaocagjcaaW.PrintWords Go.Proofs.YtnbaojaocagjcaaW.PrintLast Go.Proofs.YtnbaojaocagjcaaW.PrintMore
attribute [local go_sem] max2_int min2_int max_two min_two max_three min_three max_four min_four
set_option linter.unusedVariables false
set_option linter.unusedSimpArgs false

/-! ### impl_Dead: function 30 -/
mutual
def impl_Dead.l0 : Nat → List Bool → List Int → List Int → Int → Int → List (S59) → Option (List Int)
  | 0, _, _, _, _, _, _ => none
  | k + 1, x3, x4, x102000, x102001, x102002, x102003 => if (x4.length : Int) > 0 then (if 0 < (x4.length : Int) then (if 1 ≤ (x4.length : Int) then ((some (x4.drop (1 : Int).toNat : List Int)).bind fun y110 => (if 0 ≤ (rd x4 0) then (if (rd x4 0) < (x3.length : Int) then (if rdOf false x3 (rd x4 0) = true then (impl_Dead.l0 k x3 y110 x102000 x102001 x102002 x102003) else ((some (x3.set ((rd x4 0) : Int).toNat true : List Bool)).bind fun y114 => (if (rd x4 0) < (x102003.length : Int) then (if ((rd_T59 x102003 (rd x4 0)).f0) = 8 then (impl_Dead.j1 k y114 y110 (rd x4 0) true x102000 x102001 x102002 x102003 ((rd_T59 x102003 (rd x4 0)).f0) ((rd_T59 x102003 (rd x4 0)).f1) ((rd_T59 x102003 (rd x4 0)).f2) ((rd_T59 x102003 (rd x4 0)).f3) ((rd_T59 x102003 (rd x4 0)).f4)) else (impl_Dead.j1 k y114 y110 (rd x4 0) (((rd_T59 x102003 (rd x4 0)).f0) == 9) x102000 x102001 x102002 x102003 ((rd_T59 x102003 (rd x4 0)).f0) ((rd_T59 x102003 (rd x4 0)).f1) ((rd_T59 x102003 (rd x4 0)).f2) ((rd_T59 x102003 (rd x4 0)).f3) ((rd_T59 x102003 (rd x4 0)).f4))) else (none)))) else (none)) else (none))) else (none)) else (none)) else (impl_Dead.l1 k (([] : List Int)) x3 (x3.length : Int) 0)
def impl_Dead.j1 : Nat → List Bool → List Int → Int → Bool → List Int → Int → Int → List (S59) → Int → Int → Int → Int → Int → Option (List Int)
  | 0, _, _, _, _, _, _, _, _, _, _, _, _, _ => none
  | k + 1, x3, x4, x5, x45, x102000, x102001, x102002, x102003, x117000, x117001, x117002, x117003, x117004 => if x45 = true then (if x4.length < 17592186044416 then ((some (x4 ++ [x117004] : List Int)).bind fun y117 => (if x117000 = 8 then (impl_Dead.l0 k x3 y117 x102000 x102001 x102002 x102003) else (if x117000 = 10 then (impl_Dead.l0 k x3 y117 x102000 x102001 x102002 x102003) else (if y117.length < 17592186044416 then (impl_Dead.l0 k x3 (y117 ++ [wrap64 (x5 + 1)]) x102000 x102001 x102002 x102003) else (none))))) else (none)) else (if x117000 = 8 then (impl_Dead.l0 k x3 x4 x102000 x102001 x102002 x102003) else (if x117000 = 10 then (impl_Dead.l0 k x3 x4 x102000 x102001 x102002 x102003) else (if x4.length < 17592186044416 then (impl_Dead.l0 k x3 (x4 ++ [wrap64 (x5 + 1)]) x102000 x102001 x102002 x102003) else (none))))
def impl_Dead.l1 : Nat → List Int → List Bool → Int → Int → Option (List Int)
  | 0, _, _, _, _ => none
  | k + 1, x7, x65, x66, x67 => if x67 < x66 then (if 0 ≤ x67 then (if x67 < (x65.length : Int) then (if rdOf false x65 x67 = true then (impl_Dead.l1 k x7 x65 x66 (wrap64 (x67 + 1))) else (if x7.length < 17592186044416 then (impl_Dead.l1 k (x7 ++ [x67]) x65 x66 (wrap64 (x67 + 1))) else (none))) else (none)) else (none)) else (some x7)
end
def impl_Dead.f (k : Nat) (l0_0 : List Int) (a0_1 : Int) (a0_2 : Int) (l0_3 : List (S59)) : Option (List Int) := (impl_isImage.f l0_0 a0_1 a0_2 l0_3).bind fun t102 => (if t102 = true then (if 0 ≤ (l0_3.length : Int) then (if ((l0_3.length : Int) : Int).toNat ≤ 281474976710656 then (impl_Dead.l0 k (List.replicate ((l0_3.length : Int) : Int).toNat false) (([0] : List Int)) l0_0 a0_1 a0_2 l0_3) else (none)) else (none)) else (some ([] : List Int)))
theorem impl_Dead.mono_l : ∀ k, (∀ y0 y1 y2 y3 y4 y5, LeO (impl_Dead.l0 k y0 y1 y2 y3 y4 y5) (impl_Dead.l0 (k + 1) y0 y1 y2 y3 y4 y5)) ∧ (∀ y0 y1 y2 y3 y4 y5 y6 y7 y8 y9 y10 y11 y12, LeO (impl_Dead.j1 k y0 y1 y2 y3 y4 y5 y6 y7 y8 y9 y10 y11 y12) (impl_Dead.j1 (k + 1) y0 y1 y2 y3 y4 y5 y6 y7 y8 y9 y10 y11 y12)) ∧ (∀ y0 y1 y2 y3, LeO (impl_Dead.l1 k y0 y1 y2 y3) (impl_Dead.l1 (k + 1) y0 y1 y2 y3))
  | 0 => ⟨fun _ _ _ _ _ _ r h => by simp [impl_Dead.l0] at h, fun _ _ _ _ _ _ _ _ _ _ _ _ _ r h => by simp [impl_Dead.j1] at h, fun _ _ _ _ r h => by simp [impl_Dead.l1] at h⟩
  | k + 1 => by
    obtain ⟨ih0, ih1, ih2⟩ := impl_Dead.mono_l k
    refine ⟨?_, ?_, ?_⟩
    · intro y0 y1 y2 y3 y4 y5
      unfold impl_Dead.l0
      repeat' first
      | (with_reducible exact ih0 _ _ _ _ _ _)
      | (with_reducible exact ih1 _ _ _ _ _ _ _ _ _ _ _ _ _)
      | (with_reducible exact ih2 _ _ _ _)
      | (with_reducible exact LeO.refl _)
      | (with_reducible exact LeO.none _)
      | (with_reducible refine LeO.ite ?_ ?_)
      | (with_reducible refine LeO.bind ?_ (fun _ => ?_))
      | exact ih0 _ _ _ _ _ _
      | exact ih1 _ _ _ _ _ _ _ _ _ _ _ _ _
      | exact ih2 _ _ _ _
      | exact LeO.none _
      | refine LeO.ite ?_ ?_
      | refine LeO.bind ?_ (fun _ => ?_)
    · intro y0 y1 y2 y3 y4 y5 y6 y7 y8 y9 y10 y11 y12
      unfold impl_Dead.j1
      repeat' first
      | (with_reducible exact ih0 _ _ _ _ _ _)
      | (with_reducible exact ih1 _ _ _ _ _ _ _ _ _ _ _ _ _)
      | (with_reducible exact ih2 _ _ _ _)
      | (with_reducible exact LeO.refl _)
      | (with_reducible exact LeO.none _)
      | (with_reducible refine LeO.ite ?_ ?_)
      | (with_reducible refine LeO.bind ?_ (fun _ => ?_))
      | exact ih0 _ _ _ _ _ _
      | exact ih1 _ _ _ _ _ _ _ _ _ _ _ _ _
      | exact ih2 _ _ _ _
      | exact LeO.none _
      | refine LeO.ite ?_ ?_
      | refine LeO.bind ?_ (fun _ => ?_)
    · intro y0 y1 y2 y3
      unfold impl_Dead.l1
      repeat' first
      | (with_reducible exact ih0 _ _ _ _ _ _)
      | (with_reducible exact ih1 _ _ _ _ _ _ _ _ _ _ _ _ _)
      | (with_reducible exact ih2 _ _ _ _)
      | (with_reducible exact LeO.refl _)
      | (with_reducible exact LeO.none _)
      | (with_reducible refine LeO.ite ?_ ?_)
      | (with_reducible refine LeO.bind ?_ (fun _ => ?_))
      | exact ih0 _ _ _ _ _ _
      | exact ih1 _ _ _ _ _ _ _ _ _ _ _ _ _
      | exact ih2 _ _ _ _
      | exact LeO.none _
      | refine LeO.ite ?_ ?_
      | refine LeO.bind ?_ (fun _ => ?_)
theorem impl_Dead.mono : ∀ a0 a1 a2 a3 k, LeO (impl_Dead.f k a0 a1 a2 a3) (impl_Dead.f (k + 1) a0 a1 a2 a3) := by
  intro a0 a1 a2 a3 k
  obtain ⟨ih0, ih1, ih2⟩ := impl_Dead.mono_l k
  unfold impl_Dead.f
  repeat' first
      | (with_reducible exact ih0 _ _ _ _ _ _)
      | (with_reducible exact ih1 _ _ _ _ _ _ _ _ _ _ _ _ _)
      | (with_reducible exact ih2 _ _ _ _)
      | (with_reducible exact LeO.refl _)
      | (with_reducible exact LeO.none _)
      | (with_reducible refine LeO.ite ?_ ?_)
      | (with_reducible refine LeO.bind ?_ (fun _ => ?_))
      | exact ih0 _ _ _ _ _ _
      | exact ih1 _ _ _ _ _ _ _ _ _ _ _ _ _
      | exact ih2 _ _ _ _
      | exact LeO.none _
      | refine LeO.ite ?_ ?_
      | refine LeO.bind ?_ (fun _ => ?_)
set_option maxHeartbeats 8000000 in
set_option maxRecDepth 100000 in
theorem impl_Dead.calls (k : Nat) (A0_0 : Option Addr) (c0_0 : Nat) (l0_0 : List Int) (a0_1 : Int) (a0_2 : Int) (A0_3 : Option Addr) (c0_3 : Nat) (l0_3 : List (S59)) (r : List Int) (w : World) (hr0_0 : Kd.C (Kd.int .i64) w A0_0 l0_0.length l0_0) (hc0_0 : l0_0.length ≤ c0_0) (hr0_3 : Kd.C k59 w A0_3 l0_3.length l0_3) (hc0_3 : l0_3.length ≤ c0_3) (h : impl_Dead.f k l0_0 a0_1 a0_2 l0_3 = some r) :
    Calls Try.prog 30 #[.agg #[.slice A0_0 l0_0.length c0_0, .int .i64 a0_1, .int .i64 a0_2, .slice A0_3 l0_3.length c0_3]] w fun e w' => ∃ v0_ : Value, e = .returned (v0_) ∧ Kd.R (Kd.int .i64) 3 w' w.heap.size (fun _ => True) v0_ r ∧ Below w.heap.size w w' := by
  have hu33 := Try.underlying33
  have hu59 := Try.underlying59
  have HR0_0 := Aside0.mk hr0_0
  have HC0_0 := Aside0.mk hc0_0
  clear hr0_0 hc0_0
  have HR0_3 := Aside0.mk hr0_3
  have HC0_3 := Aside0.mk hc0_3
  clear hr0_3 hc0_3
  have HB := Aside0.mk (Below.refl w.heap.size w)
  have H : ((impl_isImage.f l0_0 a0_1 a0_2 l0_3).bind fun t102 => (if t102 = true then (if 0 ≤ (l0_3.length : Int) then (if ((l0_3.length : Int) : Int).toNat ≤ 281474976710656 then (impl_Dead.l0 k (List.replicate ((l0_3.length : Int) : Int).toNat false) (([0] : List Int)) l0_0 a0_1 a0_2 l0_3) else (none)) else (none)) else (some ([] : List Int)))) = some r := h
  clear h
  replace H := Option.bind_eq_some_iff.mp H
  obtain ⟨t102, A20, H⟩ := H
  replace H : (if t102 = true then (if 0 ≤ (l0_3.length : Int) then (if ((l0_3.length : Int) : Int).toNat ≤ 281474976710656 then (impl_Dead.l0 k (List.replicate ((l0_3.length : Int) : Int).toNat false) (([0] : List Int)) l0_0 a0_1 a0_2 l0_3) else (none)) else (none)) else (some ([] : List Int))) = some r := H
  have A2 := Aside0.mk A20
  clear A20
  by_cases c3 : t102 = true
  · subst c3
    have H1 : (if 0 ≤ (l0_3.length : Int) then (if ((l0_3.length : Int) : Int).toNat ≤ 281474976710656 then (impl_Dead.l0 k (List.replicate ((l0_3.length : Int) : Int).toNat false) (([0] : List Int)) l0_0 a0_1 a0_2 l0_3) else (none)) else (none)) = some r := by rw [if_pos rfl] at H; exact H
    clear H
    have H := H1
    clear H1
    by_cases c4 : 0 ≤ (l0_3.length : Int)
    · rw [if_pos c4] at H
      have c4b0 := eq_true c4
      have c4b1 : decide (0 ≤ (l0_3.length : Int)) = true := decide_eq_true c4
      clear c4
      by_cases c5 : ((l0_3.length : Int) : Int).toNat ≤ 281474976710656
      · rw [if_pos c5] at H
        have c5b0 := eq_true c5
        have c5b1 : decide (((l0_3.length : Int) : Int).toNat ≤ 281474976710656) = true := decide_eq_true c5
        clear c5
        obtain ⟨y103, hy103⟩ : ∃ y_ : List Bool, y_ = (List.replicate ((l0_3.length : Int) : Int).toNat false) := ⟨_, rfl⟩
        replace H : (impl_Dead.l0 k y103 (([0] : List Int)) l0_0 a0_1 a0_2 l0_3) = some r := by first | (rw [hy103]; with_reducible exact H) | (have H2_ := (Option.bind_some _ _).symm.trans H; rw [hy103]; with_reducible exact H2_) | (have H2_ := (Option.bind_some _ _).symm.trans H; with_reducible exact H2_) | with_reducible exact H | (rw [hy103]; exact H) | exact H
        have Ny103 := Aside0.mk hy103
        clear hy103
        obtain ⟨y106, hy106⟩ : ∃ y_ : List Int, y_ = (([0] : List Int)) := ⟨_, rfl⟩
        replace H : (impl_Dead.l0 k y103 y106 l0_0 a0_1 a0_2 l0_3) = some r := by first | (rw [hy106]; with_reducible exact H) | (have H2_ := (Option.bind_some _ _).symm.trans H; rw [hy106]; with_reducible exact H2_) | (have H2_ := (Option.bind_some _ _).symm.trans H; with_reducible exact H2_) | with_reducible exact H | (rw [hy106]; exact H) | exact H
        have Ny106 := Aside0.mk hy106
        clear hy106
        have H' := Aside0.mk H
        clear H
        go_enter Try.func30, Try.ntmps30
        go_wp2_with (first | ((with_reducible refine gate_dst (N := 1) rfl ?_); refine box_event ?hg (N := 1) ?hd (cs := #[.slice A0_0 l0_0.length c0_0, .int .i64 a0_1, .int .i64 a0_2, .slice A0_3 l0_3.length c0_3]) (t := 33) ?hr ?_; (case hd => rfl); (case hg => rfl); (case hr => first | (go_simp; done) | (go_simp; rfl)); intro gb101 hg w6 hbox hb; have n0_ := Aside0.mk (below_step (by repeat (first | (with_reducible first | exact HB.out | apply below_alloc | apply pw_below_drewN | apply below_drew1) | exact HB.out)) hb); have n1_ := Aside0.mk (hbox); have n2_ := Aside0.mk ((by rw [hg]; exact (below_size (by repeat (first | (with_reducible first | exact HB.out | apply below_alloc | apply pw_below_drewN | apply below_drew1) | exact HB.out))) : w.heap.size ≤ gb101)); have n3_ := Aside0.mk ((by rw [hg]; exact (below_size (by repeat (first | (with_reducible first | exact HB.out | apply below_alloc | apply pw_below_drewN | apply below_drew1) | exact HB.out))) : w.heap.size ≤ gb101)); clear HB; have HB := n0_; have BK101 := n1_; have GW101 := n2_; have GE101 := n3_; clear n0_ n1_ n2_ n3_; clear hb hbox hg; have hcz7_0 : w6.cell? ⟨gb101, 0, none⟩ = some (.slice A0_0 l0_0.length c0_0) := (blk_cell BK101.out 0).trans rfl; have hcz7_1 : w6.cell? ⟨gb101, 1, none⟩ = some (.int .i64 a0_1) := (blk_cell BK101.out 1).trans rfl; have hcz7_2 : w6.cell? ⟨gb101, 2, none⟩ = some (.int .i64 a0_2) := (blk_cell BK101.out 2).trans rfl; have hcz7_3 : w6.cell? ⟨gb101, 3, none⟩ = some (.slice A0_3 l0_3.length c0_3) := (blk_cell BK101.out 3).trans rfl; have hfz7_0 := blk_frozen BK101.out 0; have hfz7_1 := blk_frozen BK101.out 1; have hfz7_2 := blk_frozen BK101.out 2; have hfz7_3 := blk_frozen BK101.out 3) | ((with_reducible refine gate_callee (f := 52) rfl ?_); refine goesL_ (some 11) rfl rfl Try.func52 (by kernel_rfl) rfl #[.agg #[.slice A0_0 l0_0.length c0_0, .int .i64 a0_1, .int .i64 a0_2, .slice A0_3 l0_3.length c0_3]] rfl (by (try simp only [List.map_toArray, List.map_cons, List.map_nil]); first | done | rfl | (simp only [List.length_drop, List.length_take]; rfl)) ?_; (with_reducible refine (impl_isImage.calls _ _ l0_0 a0_1 a0_2 _ _ l0_3 true _ ?side1 ?side2 ?side3 ?side4 A2.out).mono ?_); (case side1 => repeat (first | exact (Kd.C_below HR0_0.out HB.out) | (with_reducible refine Kd.C_alloc ?_ _) | (with_reducible refine Kd.C_drewN ?_ _) | (with_reducible refine Kd.C_drew ?_))); (case side2 => exact HC0_0.out); (case side3 => repeat (first | exact (Kd.C_below HR0_3.out HB.out) | (with_reducible refine Kd.C_alloc ?_ _) | (with_reducible refine Kd.C_drewN ?_ _) | (with_reducible refine Kd.C_drew ?_))); (case side4 => exact HC0_3.out); rintro e w8 ⟨rfl, hb⟩; refine ⟨_, rfl, ?_⟩; have n0_ := Aside0.mk (blk_below (g := gb101) (o := .cells #[.slice A0_0 l0_0.length c0_0, .int .i64 a0_1, .int .i64 a0_2, .slice A0_3 l0_3.length c0_3] 33 (0, 0)) (by (with_reducible repeat (first | refine blk_drewN ?_ _ | refine blk_drew ?_ | refine blk_alloc ?_ _)); exact BK101.out) hb); have n1_ := Aside0.mk (below_step (by repeat (first | (with_reducible first | exact HB.out | apply below_alloc | apply pw_below_drewN | apply below_drew1 | refine below_set ?_ GE101.out) | exact HB.out)) hb); clear BK101; clear HB; have BK101 := n0_; have HB := n1_; clear n0_ n1_; (try clear hb); (try clear hb2); (try clear hk); (try clear hi); have hcz9_0 : w8.cell? ⟨gb101, 0, none⟩ = some (.slice A0_0 l0_0.length c0_0) := (blk_cell BK101.out 0).trans rfl; have hcz9_1 : w8.cell? ⟨gb101, 1, none⟩ = some (.int .i64 a0_1) := (blk_cell BK101.out 1).trans rfl; have hcz9_2 : w8.cell? ⟨gb101, 2, none⟩ = some (.int .i64 a0_2) := (blk_cell BK101.out 2).trans rfl; have hcz9_3 : w8.cell? ⟨gb101, 3, none⟩ = some (.slice A0_3 l0_3.length c0_3) := (blk_cell BK101.out 3).trans rfl; have hfz9_0 := blk_frozen BK101.out 0; have hfz9_1 := blk_frozen BK101.out 1; have hfz9_2 := blk_frozen BK101.out 2; have hfz9_3 := blk_frozen BK101.out 3) | ((with_reducible refine gate_dst (N := 16) rfl ?_); refine Kd.R_make Kd.bool _ 4 rfl (N := 16) rfl 73 _ _ rfl (l0_3.length : Int) rfl rfl Try.underlying73 (.bool false) 1 info4 rfl (by decide) (by omega) false (ok := fun _ => True) (okp := fun _ => True) rfl (fun _ hk => hk) trivial (of_decide_eq_true (by first | (with_reducible assumption) | assumption)) (Nat.le_trans (Nat.mul_le_mul_right _ (of_decide_eq_true (by first | (with_reducible assumption) | assumption) : (l0_3.length : Int).toNat ≤ 281474976710656)) (by omega)) (Below.refl _ _) (Nat.le_refl _) ?_; intro v104 w10 ho11 hb hg_ hnew_; clear hg_ hnew_; (first | rw [← Ny103.out] at ho11 | (simp only [Int.reduceToNat] at ho11; rw [← Ny103.out] at ho11)); have n0_ := Aside0.mk (Kd.R_lower ho11 (below_size (by repeat (first | (with_reducible first | exact HB.out | apply below_alloc | apply pw_below_drewN | apply below_drew1 | refine below_set ?_ GE101.out) | exact HB.out)))); have n1_ := Aside0.mk (blk_below (g := gb101) (o := .cells #[.slice A0_0 l0_0.length c0_0, .int .i64 a0_1, .int .i64 a0_2, .slice A0_3 l0_3.length c0_3] 33 (0, 0)) (by (with_reducible repeat (first | refine blk_drewN ?_ _ | refine blk_drew ?_ | refine blk_alloc ?_ _)); exact BK101.out) hb); have n2_ := Aside0.mk (below_step (by repeat (first | (with_reducible first | exact HB.out | apply below_alloc | apply pw_below_drewN | apply below_drew1 | refine below_set ?_ GE101.out) | exact HB.out)) hb); clear BK101; clear HB; have HO105 := n0_; have BK101 := n1_; have HB := n2_; clear n0_ n1_ n2_; clear hb ho11) | ((with_reducible refine gate_dst (N := 17) rfl ?_); refine Kd.R_lit (Kd.int .i64) _ 3 ?hg (N := 17) ?hd (xs := ([0] : List Int)) (inner := [.int .i64 0]) (ok := fun _ => True) (okp := fun _ => True) ?hr ?hp (fun _ hk => hk) trivial (Below.refl _ _) (Nat.le_refl _) (by simp) ?_; (case hd => rfl); (case hg => rfl); (case hr => first | (go_simp; done) | (go_simp; rfl)); (case hp => exact (Reps.one (show Kd.M (Kd.int .i64) _ _ _ 0 [.int .i64 0] from rfl) (Reps.none _ _))); intro v107 w12 ho13 hb hg_ hnew_; clear hg_ hnew_; (first | rw [← Ny106.out] at ho13 | (simp only [Int.reduceToNat] at ho13; rw [← Ny106.out] at ho13)); have n0_ := Aside0.mk (Kd.R_below (by (with_reducible repeat (first | apply Kd.R_alloc | apply Kd.R_drewN | apply Kd.R_drew)); exact HO105.out) hb); have n1_ := Aside0.mk (Kd.R_lower ho13 (below_size (by repeat (first | (with_reducible first | exact HB.out | apply below_alloc | apply pw_below_drewN | apply below_drew1 | refine below_set ?_ GE101.out) | exact HB.out)))); have n2_ := Aside0.mk (blk_below (g := gb101) (o := .cells #[.slice A0_0 l0_0.length c0_0, .int .i64 a0_1, .int .i64 a0_2, .slice A0_3 l0_3.length c0_3] 33 (0, 0)) (by (with_reducible repeat (first | refine blk_drewN ?_ _ | refine blk_drew ?_ | refine blk_alloc ?_ _)); exact BK101.out) hb); have n3_ := Aside0.mk (below_step (by repeat (first | (with_reducible first | exact HB.out | apply below_alloc | apply pw_below_drewN | apply below_drew1 | refine below_set ?_ GE101.out) | exact HB.out)) hb); clear HO105; clear BK101; clear HB; have HO105 := n0_; have HO108 := n1_; have BK101 := n2_; have HB := n3_; clear n0_ n1_ n2_ n3_; clear hb ho13))
        go_loopg [4] k (fun kq v4 w' => ∃ (x3_1 : List Bool) (x4_1 : List Int), Aside0 (impl_Dead.l0 kq x3_1 x4_1 l0_0 a0_1 a0_2 l0_3 = some r) ∧ Aside0 (kq ≤ k) ∧ Aside0 (Kd.R Kd.bool 4 w' w.heap.size (fun _ => True) v104 x3_1) ∧ Aside0 (Kd.Q (Kd.int .i64) 3 w' w.heap.size (fun _ => True) v4 x4_1) ∧ Aside0 (w'.heap[gb101]? = some (.cells #[(.slice A0_0 l0_0.length c0_0), .int .i64 a0_1, .int .i64 a0_2, (.slice A0_3 l0_3.length c0_3)] 33 (0, 0))) ∧ Aside0 (Below w.heap.size w w'))
        case atStart => exact ⟨(y103), (y106), H', ⟨Nat.le_refl _⟩, ⟨by (with_reducible repeat (first | apply Kd.R_alloc | apply Kd.R_drewN | apply Kd.R_drew)); exact HO105.out⟩, ⟨Kd.Q_of_R (by (with_reducible repeat (first | apply Kd.R_alloc | apply Kd.R_drewN | apply Kd.R_drew)); exact HO108.out)⟩, ⟨by (with_reducible repeat (first | refine blk_drewN ?_ _ | refine blk_drew ?_ | refine blk_alloc ?_ _)); exact BK101.out⟩, ⟨by repeat (first | (with_reducible first | exact HB.out | apply below_alloc | apply pw_below_drewN | apply below_drew1 | refine below_set ?_ GE101.out) | exact HB.out)⟩⟩
        case round =>
          clear H'
          try clear p2
          try clear c3
          try clear c4
          try clear c4b0
          try clear c4b1
          try clear c5
          try clear c5b0
          try clear c5b1
          try clear hcz7_0
          try clear hcz7_1
          try clear hcz7_2
          try clear hcz7_3
          try clear hcz9_0
          try clear hcz9_1
          try clear hcz9_2
          try clear hcz9_3
          try clear hfz7_0
          try clear hfz7_1
          try clear hfz7_2
          try clear hfz7_3
          try clear hfz9_0
          try clear hfz9_1
          try clear hfz9_2
          try clear hfz9_3
          (try clear HA)
          (try clear HK1)
          (try clear HO_3)
          (try clear HO_4)
          (try clear BK101)
          (try clear HB)
          obtain ⟨x3_1, x4_1, HA, HK1, HO_3, HO_4, BK101, HB⟩ := hrel
          cases gk with
          | zero => exact absurd HA.out (by simp [impl_Dead.l0])
          | succ k1 =>
            have H := HA.out
            clear HA
            simp only [impl_Dead.l0] at H
            by_cases c14 : (x4_1.length : Int) > 0
            · rw [if_pos c14] at H
              have c14b0 : decide (0 < (x4_1.length : Int)) = true := decide_eq_true c14
              have c14b1 : decide (0 < x4_1.length) = true := decide_eq_true (by omega)
              clear c14
              by_cases c15 : 0 < (x4_1.length : Int)
              · rw [if_pos c15] at H
                have c15b0 : decide (0 < (x4_1.length : Int)) = true := decide_eq_true c15
                have c15b1 : decide (0 < x4_1.length) = true := decide_eq_true (by omega)
                clear c15
                by_cases c16 : 1 ≤ (x4_1.length : Int)
                · rw [if_pos c16] at H
                  have c16b0 := eq_true c16
                  have c16b1 : decide (1 ≤ (x4_1.length : Int)) = true := decide_eq_true c16
                  clear c16
                  obtain ⟨y110, hy110⟩ : ∃ y_ : List Int, y_ = (x4_1.drop (1 : Int).toNat) := ⟨_, rfl⟩
                  replace H : (if 0 ≤ (rd x4_1 0) then (if (rd x4_1 0) < (x3_1.length : Int) then (if rdOf false x3_1 (rd x4_1 0) = true then (impl_Dead.l0 k1 x3_1 y110 l0_0 a0_1 a0_2 l0_3) else ((some (x3_1.set ((rd x4_1 0) : Int).toNat true : List Bool)).bind fun y114 => (if (rd x4_1 0) < (l0_3.length : Int) then (if ((rd_T59 l0_3 (rd x4_1 0)).f0) = 8 then (impl_Dead.j1 k1 y114 y110 (rd x4_1 0) true l0_0 a0_1 a0_2 l0_3 ((rd_T59 l0_3 (rd x4_1 0)).f0) ((rd_T59 l0_3 (rd x4_1 0)).f1) ((rd_T59 l0_3 (rd x4_1 0)).f2) ((rd_T59 l0_3 (rd x4_1 0)).f3) ((rd_T59 l0_3 (rd x4_1 0)).f4)) else (impl_Dead.j1 k1 y114 y110 (rd x4_1 0) (((rd_T59 l0_3 (rd x4_1 0)).f0) == 9) l0_0 a0_1 a0_2 l0_3 ((rd_T59 l0_3 (rd x4_1 0)).f0) ((rd_T59 l0_3 (rd x4_1 0)).f1) ((rd_T59 l0_3 (rd x4_1 0)).f2) ((rd_T59 l0_3 (rd x4_1 0)).f3) ((rd_T59 l0_3 (rd x4_1 0)).f4))) else (none)))) else (none)) else (none)) = some r := by first | (rw [hy110]; with_reducible exact H) | (have H2_ := (Option.bind_some _ _).symm.trans H; rw [hy110]; with_reducible exact H2_) | (have H2_ := (Option.bind_some _ _).symm.trans H; with_reducible exact H2_) | with_reducible exact H | (rw [hy110]; exact H) | exact H
                  have Ny110 := Aside0.mk hy110
                  clear hy110
                  by_cases c17 : 0 ≤ (rd x4_1 0)
                  · rw [if_pos c17] at H
                    have c17b0 : decide (0 ≤ (rd x4_1 0)) = true := decide_eq_true c17
                    clear c17
                    by_cases c18 : (rd x4_1 0) < (x3_1.length : Int)
                    · rw [if_pos c18] at H
                      have c18b0 : decide ((rd x4_1 0) < (x3_1.length : Int)) = true := decide_eq_true c18
                      clear c18
                      obtain ⟨bq19, hbq19⟩ : ∃ b_ : Bool, b_ = (rdOf false x3_1 (rd x4_1 0)) := ⟨_, rfl⟩
                      replace H : (if bq19 = true then (impl_Dead.l0 k1 x3_1 y110 l0_0 a0_1 a0_2 l0_3) else ((some (x3_1.set ((rd x4_1 0) : Int).toNat true : List Bool)).bind fun y114 => (if (rd x4_1 0) < (l0_3.length : Int) then (if ((rd_T59 l0_3 (rd x4_1 0)).f0) = 8 then (impl_Dead.j1 k1 y114 y110 (rd x4_1 0) true l0_0 a0_1 a0_2 l0_3 ((rd_T59 l0_3 (rd x4_1 0)).f0) ((rd_T59 l0_3 (rd x4_1 0)).f1) ((rd_T59 l0_3 (rd x4_1 0)).f2) ((rd_T59 l0_3 (rd x4_1 0)).f3) ((rd_T59 l0_3 (rd x4_1 0)).f4)) else (impl_Dead.j1 k1 y114 y110 (rd x4_1 0) (((rd_T59 l0_3 (rd x4_1 0)).f0) == 9) l0_0 a0_1 a0_2 l0_3 ((rd_T59 l0_3 (rd x4_1 0)).f0) ((rd_T59 l0_3 (rd x4_1 0)).f1) ((rd_T59 l0_3 (rd x4_1 0)).f2) ((rd_T59 l0_3 (rd x4_1 0)).f3) ((rd_T59 l0_3 (rd x4_1 0)).f4))) else (none)))) = some r := by rw [← hbq19] at H; exact H
                      have Nbq19 := Aside0.mk hbq19
                      clear hbq19
                      by_cases c20 : bq19 = true
                      · subst c20
                        have H1 : (impl_Dead.l0 k1 x3_1 y110 l0_0 a0_1 a0_2 l0_3) = some r := by rw [if_pos rfl] at H; exact H
                        clear H
                        have H := H1
                        clear H1
                        have H' := Aside0.mk H
                        clear H
                        obtain ⟨Ao21, co21, eo21, _⟩ := Kd.Q_slice HO_4.out
                        subst eo21
                        have p109 : 0 ≤ (0 : Int) := (by omega)
                        have q109 : 0 < (x4_1.length : Int) := of_decide_eq_true (by first | (with_reducible assumption) | assumption)
                        obtain ⟨ad109, e109, hx109_0⟩ := Kd.at_int (Kd.Q_reads' HO_4.out).2.2 0 p109 q109
                        cases e109
                        have qi109 : (0 < x4_1.length) = True := eq_true (by omega)
                        (try rw [show ((0 : Int)).toNat = 0 from rfl] at hx109_0)
                        (try rw [Addr.add_zero'] at hx109_0)
                        replace p109 := eq_true p109
                        replace q109 := eq_true q109
                        have q22 : (1 : Int) ≤ ((x4_1.length : Int) : Int) := of_decide_eq_true (by first | (with_reducible assumption) | assumption)
                        obtain ⟨i022, hi022, _, hsz22, _⟩ := info_parts info3
                        have hcut22 := cut_from (P := Try.prog) 25 3 .i64 Try.underlying25 hi022 1 hsz22 (some ad109) x4_1.length co21 1 (by omega) q22
                        have hr22 := Kd.Q_drop (k := (1 : Int).toNat) HO_4.out (by omega)
                        obtain ⟨A22, hA22⟩ : ∃ A1, A1 = (if co21 = (1 : Int).toNat then (some ad109) else ((some ad109) : Option Addr).map (·.add ((1 : Int).toNat * 1))) := ⟨_, rfl⟩
                        obtain ⟨c22, hc22⟩ : ∃ c1, c1 = co21 - (1 : Int).toNat := ⟨_, rfl⟩
                        have hy22 : y110.length = x4_1.length - (1 : Int).toNat := (by rw [Ny110.out, List.length_drop])
                        rw [← Ny110.out] at hr22
                        rw [← hy22, ← hA22, ← hc22] at hcut22
                        replace hr22 : Kd.Q (Kd.int .i64) 3 wr w.heap.size (fun _ => True) (.slice A22 y110.length c22) y110 := (by rw [hA22, hc22, hy22]; exact hr22)
                        have HE22 : Aside0 ((Value.slice A22 y110.length c22).ownBlock = (.slice (some ad109) x4_1.length co21 : Value).ownBlock) := ⟨by rw [hA22]; split <;> (cases ((some ad109) : Option Addr) <;> rfl)⟩
                        clear hy22 hi022 hsz22 HO_4 hA22 hc22
                        have HO112 := Aside0.mk hr22
                        clear hr22
                        replace q22 := eq_true q22
                        obtain ⟨Ao23, co23, eo23⟩ := Kd.R_slice HO_3.out
                        subst eo23
                        have p113 : 0 ≤ ((rd x4_1 0) : Int) := of_decide_eq_true (by first | (with_reducible assumption) | assumption)
                        have q113 : (rd x4_1 0) < (x3_1.length : Int) := of_decide_eq_true (by first | (with_reducible assumption) | assumption)
                        obtain ⟨ad113, e113, hx113_0⟩ := Kd.at_bool (Kd.R_reads' HO_3.out).2.2 (rd x4_1 0) p113 q113
                        (try rw [← Nbq19.out] at hx113_0)
                        cases e113
                        replace p113 := eq_true p113
                        replace q113 := eq_true q113
                        go_wp2
                        go_roundg k1
                        case measure => have := HK1.out; omega
                        case rel => exact ⟨(x3_1), (y110), H', ⟨by have := HK1.out; omega⟩, ⟨by (with_reducible repeat (first | apply Kd.R_alloc | apply Kd.R_drewN | apply Kd.R_drew)); exact HO_3.out⟩, ⟨by (with_reducible repeat (first | apply Kd.Q_alloc | apply Kd.Q_drewN | apply Kd.Q_drew)); exact HO112.out⟩, ⟨by (with_reducible repeat (first | refine blk_drewN ?_ _ | refine blk_drew ?_ | refine blk_alloc ?_ _)); exact BK101.out⟩, ⟨by repeat (first | (with_reducible first | exact HB.out | apply below_alloc | apply pw_below_drewN | apply below_drew1 | refine below_set ?_ GE101.out) | exact HB.out)⟩⟩
                      · replace c20 := Bool.eq_false_iff.mpr c20
                        subst c20
                        have H1 : ((some (x3_1.set ((rd x4_1 0) : Int).toNat true : List Bool)).bind fun y114 => (if (rd x4_1 0) < (l0_3.length : Int) then (if ((rd_T59 l0_3 (rd x4_1 0)).f0) = 8 then (impl_Dead.j1 k1 y114 y110 (rd x4_1 0) true l0_0 a0_1 a0_2 l0_3 ((rd_T59 l0_3 (rd x4_1 0)).f0) ((rd_T59 l0_3 (rd x4_1 0)).f1) ((rd_T59 l0_3 (rd x4_1 0)).f2) ((rd_T59 l0_3 (rd x4_1 0)).f3) ((rd_T59 l0_3 (rd x4_1 0)).f4)) else (impl_Dead.j1 k1 y114 y110 (rd x4_1 0) (((rd_T59 l0_3 (rd x4_1 0)).f0) == 9) l0_0 a0_1 a0_2 l0_3 ((rd_T59 l0_3 (rd x4_1 0)).f0) ((rd_T59 l0_3 (rd x4_1 0)).f1) ((rd_T59 l0_3 (rd x4_1 0)).f2) ((rd_T59 l0_3 (rd x4_1 0)).f3) ((rd_T59 l0_3 (rd x4_1 0)).f4))) else (none))) = some r := by rw [if_neg (show ¬ (false = true) by decide)] at H; exact H
                        clear H
                        have H := H1
                        clear H1
                        obtain ⟨y114, hy114⟩ : ∃ y_ : List Bool, y_ = (x3_1.set ((rd x4_1 0) : Int).toNat true) := ⟨_, rfl⟩
                        replace H : (if (rd x4_1 0) < (l0_3.length : Int) then (if ((rd_T59 l0_3 (rd x4_1 0)).f0) = 8 then (impl_Dead.j1 k1 y114 y110 (rd x4_1 0) true l0_0 a0_1 a0_2 l0_3 ((rd_T59 l0_3 (rd x4_1 0)).f0) ((rd_T59 l0_3 (rd x4_1 0)).f1) ((rd_T59 l0_3 (rd x4_1 0)).f2) ((rd_T59 l0_3 (rd x4_1 0)).f3) ((rd_T59 l0_3 (rd x4_1 0)).f4)) else (impl_Dead.j1 k1 y114 y110 (rd x4_1 0) (((rd_T59 l0_3 (rd x4_1 0)).f0) == 9) l0_0 a0_1 a0_2 l0_3 ((rd_T59 l0_3 (rd x4_1 0)).f0) ((rd_T59 l0_3 (rd x4_1 0)).f1) ((rd_T59 l0_3 (rd x4_1 0)).f2) ((rd_T59 l0_3 (rd x4_1 0)).f3) ((rd_T59 l0_3 (rd x4_1 0)).f4))) else (none)) = some r := by first | (rw [hy114]; with_reducible exact H) | (have H2_ := (Option.bind_some _ _).symm.trans H; rw [hy114]; with_reducible exact H2_) | (have H2_ := (Option.bind_some _ _).symm.trans H; with_reducible exact H2_) | with_reducible exact H | (rw [hy114]; exact H) | exact H
                        have Ny114 := Aside0.mk hy114
                        clear hy114
                        by_cases c25 : (rd x4_1 0) < (l0_3.length : Int)
                        · rw [if_pos c25] at H
                          have c25b0 : decide ((rd x4_1 0) < (l0_3.length : Int)) = true := decide_eq_true c25
                          clear c25
                          have HC26 := Aside0.mk H
                          clear H
                          obtain ⟨Ao27, co27, eo27, _⟩ := Kd.Q_slice HO_4.out
                          subst eo27
                          have p109 : 0 ≤ (0 : Int) := (by omega)
                          have q109 : 0 < (x4_1.length : Int) := of_decide_eq_true (by first | (with_reducible assumption) | assumption)
                          obtain ⟨ad109, e109, hx109_0⟩ := Kd.at_int (Kd.Q_reads' HO_4.out).2.2 0 p109 q109
                          cases e109
                          have qi109 : (0 < x4_1.length) = True := eq_true (by omega)
                          (try rw [show ((0 : Int)).toNat = 0 from rfl] at hx109_0)
                          (try rw [Addr.add_zero'] at hx109_0)
                          replace p109 := eq_true p109
                          replace q109 := eq_true q109
                          have q28 : (1 : Int) ≤ ((x4_1.length : Int) : Int) := of_decide_eq_true (by first | (with_reducible assumption) | assumption)
                          obtain ⟨i028, hi028, _, hsz28, _⟩ := info_parts info3
                          have hcut28 := cut_from (P := Try.prog) 25 3 .i64 Try.underlying25 hi028 1 hsz28 (some ad109) x4_1.length co27 1 (by omega) q28
                          have hr28 := Kd.Q_drop (k := (1 : Int).toNat) HO_4.out (by omega)
                          obtain ⟨A28, hA28⟩ : ∃ A1, A1 = (if co27 = (1 : Int).toNat then (some ad109) else ((some ad109) : Option Addr).map (·.add ((1 : Int).toNat * 1))) := ⟨_, rfl⟩
                          obtain ⟨c28, hc28⟩ : ∃ c1, c1 = co27 - (1 : Int).toNat := ⟨_, rfl⟩
                          have hy28 : y110.length = x4_1.length - (1 : Int).toNat := (by rw [Ny110.out, List.length_drop])
                          rw [← Ny110.out] at hr28
                          rw [← hy28, ← hA28, ← hc28] at hcut28
                          replace hr28 : Kd.Q (Kd.int .i64) 3 wr w.heap.size (fun _ => True) (.slice A28 y110.length c28) y110 := (by rw [hA28, hc28, hy28]; exact hr28)
                          have HE28 : Aside0 ((Value.slice A28 y110.length c28).ownBlock = (.slice (some ad109) x4_1.length co27 : Value).ownBlock) := ⟨by rw [hA28]; split <;> (cases ((some ad109) : Option Addr) <;> rfl)⟩
                          clear hy28 hi028 hsz28 HO_4 hA28 hc28
                          have HO112 := Aside0.mk hr28
                          clear hr28
                          replace q28 := eq_true q28
                          obtain ⟨Ao29, co29, eo29⟩ := Kd.R_slice HO_3.out
                          subst eo29
                          have p113 : 0 ≤ ((rd x4_1 0) : Int) := of_decide_eq_true (by first | (with_reducible assumption) | assumption)
                          have q113 : (rd x4_1 0) < (x3_1.length : Int) := of_decide_eq_true (by first | (with_reducible assumption) | assumption)
                          obtain ⟨ad113, e113, hx113_0⟩ := Kd.at_bool (Kd.R_reads' HO_3.out).2.2 (rd x4_1 0) p113 q113
                          (try rw [← Nbq19.out] at hx113_0)
                          cases e113
                          replace p113 := eq_true p113
                          replace q113 := eq_true q113
                          have p24 : 0 ≤ ((rd x4_1 0) : Int) := of_decide_eq_true (by first | (with_reducible assumption) | assumption)
                          have q24 : ((rd x4_1 0) : Int) < ((x3_1.length : Int) : Int) := of_decide_eq_true (by first | (with_reducible assumption) | assumption)
                          obtain ⟨go24, co24, eo24, gb24, gl24, cl24, HG24⟩ := Kd.R_form HO_3.out (by omega)
                          (first | cases eo24 | (injection eo24 with ea_ en_ ec_; (first | subst ea_ | (injection ea_ with ea_; subst ea_)); subst ec_; clear en_))
                          have GB24 := Aside0.mk gb24
                          have GG24 := Aside0.mk HG24
                          clear gb24 gl24 HG24
                          (first | simp only [add_plain] at hx113_0 | skip)
                          obtain ⟨hx24_0, hf24_0⟩ := Kd.R_celln false HO_3.out ((rd x4_1 0) : Int) p24 q24
                          replace p24 := eq_true p24
                          replace q24 := eq_true q24
                          have HP30 := Kd.R_putg HO_3.out ((rd x4_1 0) : Int) true
                          go_upto_region 11 with (first | ((with_reducible refine gate_store (t := 4) (p := 32) rfl ?_); refine store_event (t := 4) (p := 32) (v := ?vo_w31) (w1 := (wr.setCell ⟨go24, ((rd x4_1 0) : Int).toNat, none⟩ (.bool true))) ?hg ?ho ?hn ?hr ?_; (case ho => rfl); (case hg => rfl); (case hn => rfl); (case hr => first | (go_simp; done) | (go_simp; rfl)); intro w31 hw; have hg : wr.grownBy w31 (some go24) := (by rw [hw]; exact HP30.2); have hp_ : Kd.R Kd.bool 4 w31 w.heap.size (fun _ => True) (.slice (some ⟨go24, 0, none⟩) x3_1.length co29) y114 := (by rw [hw, Ny114.out]; exact HP30.1); clear HP30; have n0_ := Aside0.mk (hp_); have n1_ := Aside0.mk (Kd.Q_over' (v := (.slice (some ⟨go24, 0, none⟩) x3_1.length co29)) (by (with_reducible repeat (first | apply Kd.Q_alloc | apply Kd.Q_drewN | apply Kd.Q_drew)); exact HO112.out) (Kd.R_typed HO_3.out) (by decide) hg); have n2_ := Aside0.mk (blk_grown (g := gb101) (o := .cells #[.slice A0_0 l0_0.length c0_0, .int .i64 a0_1, .int .i64 a0_2, .slice A0_3 l0_3.length c0_3] 33 (0, 0)) (by (with_reducible repeat (first | refine blk_drewN ?_ _ | refine blk_drew ?_ | refine blk_alloc ?_ _)); exact BK101.out) hg (Kd.R_ne HO_3.out BK101.out (by decide))); have n3_ := Aside0.mk ((by rw [hw]; exact below_set (HB.out) GB24.out : Below w.heap.size w w31)); clear HO_3; clear HO112; clear BK101; clear HB; have HO_3 := n0_; have HO112 := n1_; have BK101 := n2_; have HB := n3_; clear n0_ n1_ n2_ n3_; clear hg hw hp_; have hcz32_0 : w31.cell? ⟨gb101, 0, none⟩ = some (.slice A0_0 l0_0.length c0_0) := (blk_cell BK101.out 0).trans rfl; have hcz32_1 : w31.cell? ⟨gb101, 1, none⟩ = some (.int .i64 a0_1) := (blk_cell BK101.out 1).trans rfl; have hcz32_2 : w31.cell? ⟨gb101, 2, none⟩ = some (.int .i64 a0_2) := (blk_cell BK101.out 2).trans rfl; have hcz32_3 : w31.cell? ⟨gb101, 3, none⟩ = some (.slice A0_3 l0_3.length c0_3) := (blk_cell BK101.out 3).trans rfl; have hfz32_0 := blk_frozen BK101.out 0; have hfz32_1 := blk_frozen BK101.out 1; have hfz32_2 := blk_frozen BK101.out 2; have hfz32_3 := blk_frozen BK101.out 3; have p115 : 0 ≤ ((rd x4_1 0) : Int) := of_decide_eq_true (by first | (with_reducible assumption) | assumption); have q115 : (rd x4_1 0) < (l0_3.length : Int) := of_decide_eq_true (by first | (with_reducible assumption) | assumption); obtain ⟨ad115, e115, hx115_0, hx115_1, hx115_2, hx115_3, hx115_4⟩ := at_T59 HR0_3.out (rd x4_1 0) p115 q115; cases e115; replace hx115_0 := (HB.out.cell (World.block_lt_of_cell? w _ hx115_0)).trans hx115_0; replace hx115_1 := (HB.out.cell (World.block_lt_of_cell? w _ hx115_1)).trans hx115_1; replace hx115_2 := (HB.out.cell (World.block_lt_of_cell? w _ hx115_2)).trans hx115_2; replace hx115_3 := (HB.out.cell (World.block_lt_of_cell? w _ hx115_3)).trans hx115_3; replace hx115_4 := (HB.out.cell (World.block_lt_of_cell? w _ hx115_4)).trans hx115_4; replace p115 := eq_true p115; replace q115 := eq_true q115) | ((with_reducible refine gate_dst (N := 6) rfl ?_); refine box_event ?hg (N := 6) ?hd (cs := #[.int .i64 0, .int .i64 0, .int .i64 0, .int .i64 0, .int .i64 0]) (t := 59) ?hr ?_; (case hd => rfl); (case hg => rfl); (case hr => first | (go_simp; done) | (go_simp; rfl)); intro gb116 hg w33 hbox hb; have n0_ := Aside0.mk (Kd.R_below (by (with_reducible repeat (first | apply Kd.R_alloc | apply Kd.R_drewN | apply Kd.R_drew)); exact HO_3.out) hb); have n1_ := Aside0.mk (Kd.Q_below (by (with_reducible repeat (first | apply Kd.Q_alloc | apply Kd.Q_drewN | apply Kd.Q_drew)); exact HO112.out) hb); have n2_ := Aside0.mk (blk_below (g := gb101) (o := .cells #[.slice A0_0 l0_0.length c0_0, .int .i64 a0_1, .int .i64 a0_2, .slice (some ad115) l0_3.length c0_3] 33 (0, 0)) (by (with_reducible repeat (first | refine blk_drewN ?_ _ | refine blk_drew ?_ | refine blk_alloc ?_ _)); exact BK101.out) hb); have n3_ := Aside0.mk (below_step (by repeat (first | (with_reducible first | exact HB.out | apply below_alloc | apply pw_below_drewN | apply below_drew1 | refine below_set ?_ GE101.out) | exact HB.out)) hb); have n4_ := Aside0.mk (hbox); have n5_ := Aside0.mk ((by rw [hg]; exact (below_size (by repeat (first | (with_reducible first | exact HB.out | apply below_alloc | apply pw_below_drewN | apply below_drew1 | refine below_set ?_ GE101.out) | exact HB.out))) : w.heap.size ≤ gb116)); have n6_ := Aside0.mk ((by rw [hg]; exact (below_size (by repeat (first | (with_reducible first | exact HB.out | apply below_alloc | apply pw_below_drewN | apply below_drew1 | refine below_set ?_ GE101.out) | exact HB.out))) : w.heap.size ≤ gb116)); have n7_ := Aside0.mk ((by rw [hg]; exact Nat.ne_of_lt (blk_lt (g := gb101) (o := .cells #[.slice A0_0 l0_0.length c0_0, .int .i64 a0_1, .int .i64 a0_2, .slice (some ad115) l0_3.length c0_3] 33 (0, 0)) (by (with_reducible repeat (first | refine blk_drewN ?_ _ | refine blk_drew ?_ | refine blk_alloc ?_ _)); exact BK101.out)) : gb101 ≠ gb116)); have n8_ := Aside0.mk ((by rw [hg]; exact Nat.ne_of_gt (blk_lt (g := gb101) (o := .cells #[.slice A0_0 l0_0.length c0_0, .int .i64 a0_1, .int .i64 a0_2, .slice (some ad115) l0_3.length c0_3] 33 (0, 0)) (by (with_reducible repeat (first | refine blk_drewN ?_ _ | refine blk_drew ?_ | refine blk_alloc ?_ _)); exact BK101.out)) : gb116 ≠ gb101)); clear HO_3; clear HO112; clear BK101; clear HB; have HO_3 := n0_; have HO112 := n1_; have BK101 := n2_; have HB := n3_; have BK116 := n4_; have GW116 := n5_; have GE116 := n6_; have NB101_116 := n7_; have NB116_101 := n8_; clear n0_ n1_ n2_ n3_ n4_ n5_ n6_ n7_ n8_; clear hb hbox hg; have hnb34 := NB116_101.out; have hnc34 := NB101_116.out; have hcz35_0 : w33.cell? ⟨gb116, 0, none⟩ = some (.int .i64 0) := (blk_cell BK116.out 0).trans rfl; have hcz35_1 : w33.cell? ⟨gb116, 1, none⟩ = some (.int .i64 0) := (blk_cell BK116.out 1).trans rfl; have hcz35_2 : w33.cell? ⟨gb116, 2, none⟩ = some (.int .i64 0) := (blk_cell BK116.out 2).trans rfl; have hcz35_3 : w33.cell? ⟨gb116, 3, none⟩ = some (.int .i64 0) := (blk_cell BK116.out 3).trans rfl; have hcz35_4 : w33.cell? ⟨gb116, 4, none⟩ = some (.int .i64 0) := (blk_cell BK116.out 4).trans rfl; have hfz35_0 := blk_frozen BK116.out 0; have hfz35_1 := blk_frozen BK116.out 1; have hfz35_2 := blk_frozen BK116.out 2; have hfz35_3 := blk_frozen BK116.out 3; have hfz35_4 := blk_frozen BK116.out 4))
                          (try simp only [Act.put, List.setIfInBounds_toArray, List.set_cons_zero, List.set_cons_succ])
                          go_cut [45] (fun v45 wc => ∃ (kq : Nat) (x45_25 : Bool), v45 = .bool x45_25 ∧ Aside0 (impl_Dead.j1 kq y114 y110 (rd x4_1 0) x45_25 l0_0 a0_1 a0_2 l0_3 ((rd_T59 l0_3 (rd x4_1 0)).f0) ((rd_T59 l0_3 (rd x4_1 0)).f1) ((rd_T59 l0_3 (rd x4_1 0)).f2) ((rd_T59 l0_3 (rd x4_1 0)).f3) ((rd_T59 l0_3 (rd x4_1 0)).f4) = some r) ∧ Aside0 (kq ≤ k1) ∧ Aside0 (Kd.R Kd.bool 4 wc w.heap.size (fun _ => True) (.slice (some ⟨go24, 0, none⟩) x3_1.length co29) y114) ∧ Aside0 (Kd.Q (Kd.int .i64) 3 wc w.heap.size (fun _ => True) (.slice A28 y110.length c28) y110) ∧ Aside0 (wc.heap[gb101]? = some (.cells #[(.slice A0_0 l0_0.length c0_0), .int .i64 a0_1, .int .i64 a0_2, (.slice (some ad115) l0_3.length c0_3)] 33 (0, 0))) ∧ Aside0 (wc.heap[gb116]? = some (.cells #[.int .i64 ((rd_T59 l0_3 (rd x4_1 0)).f0), .int .i64 ((rd_T59 l0_3 (rd x4_1 0)).f1), .int .i64 ((rd_T59 l0_3 (rd x4_1 0)).f2), .int .i64 ((rd_T59 l0_3 (rd x4_1 0)).f3), .int .i64 ((rd_T59 l0_3 (rd x4_1 0)).f4)] 59 (0, 0))) ∧ Aside0 (Below w.heap.size w wc))
                          case first =>
                            have H := HC26.out
                            clear HC26
                            by_cases c36 : ((rd_T59 l0_3 (rd x4_1 0)).f0) = 8
                            · rw [if_pos c36] at H
                              have c36b0 : (((rd_T59 l0_3 (rd x4_1 0)).f0) == 8) = true := beq_iff_eq.mpr c36
                              have c36b1 : (((rd_T59 l0_3 (rd x4_1 0)).f0) != 8) = false := bne_eq_false_iff_eq.mpr c36
                              clear c36
                              (first | rw [c36b0] | (simp only [i64_w, i32_w]; rw [c36b0]) | skip)
                              have H' := Aside0.mk H
                              clear H
                              have hnb37 := NB116_101.out
                              have hnc37 := NB101_116.out
                              have hcz38_0 : w33.cell? ⟨gb116, 0, none⟩ = some (.int .i64 0) := (blk_cell BK116.out 0).trans rfl
                              have hcz38_1 : w33.cell? ⟨gb116, 1, none⟩ = some (.int .i64 0) := (blk_cell BK116.out 1).trans rfl
                              have hcz38_2 : w33.cell? ⟨gb116, 2, none⟩ = some (.int .i64 0) := (blk_cell BK116.out 2).trans rfl
                              have hcz38_3 : w33.cell? ⟨gb116, 3, none⟩ = some (.int .i64 0) := (blk_cell BK116.out 3).trans rfl
                              have hcz38_4 : w33.cell? ⟨gb116, 4, none⟩ = some (.int .i64 0) := (blk_cell BK116.out 4).trans rfl
                              have hfz38_0 := blk_frozen BK116.out 0
                              have hfz38_1 := blk_frozen BK116.out 1
                              have hfz38_2 := blk_frozen BK116.out 2
                              have hfz38_3 := blk_frozen BK116.out 3
                              have hfz38_4 := blk_frozen BK116.out 4
                              go_wp2
                              go_meet
                              case rel => exact ⟨_, (true), (by first | rfl | (simp; done) | (simp [*]; done)), H', ⟨by have := HK1.out; first | omega | exact Nat.le_refl _⟩, ⟨by (with_reducible repeat (first | apply Kd.R_alloc | apply Kd.R_drewN | apply Kd.R_drew)); exact Kd.R_mono (Kd.R_far (p := ⟨gb116, 4, none⟩) (Kd.R_far (p := ⟨gb116, 3, none⟩) (Kd.R_far (p := ⟨gb116, 2, none⟩) (Kd.R_far (p := ⟨gb116, 1, none⟩) (Kd.R_far (p := ⟨gb116, 0, none⟩) (Kd.R_types HO_3.out BK116.out (by decide)) (fun _ hk => hk.2) (.int .i64 ((rd_T59 l0_3 (rd x4_1 0)).f0))) (fun _ hk => hk.2) (.int .i64 ((rd_T59 l0_3 (rd x4_1 0)).f1))) (fun _ hk => hk.2) (.int .i64 ((rd_T59 l0_3 (rd x4_1 0)).f2))) (fun _ hk => hk.2) (.int .i64 ((rd_T59 l0_3 (rd x4_1 0)).f3))) (fun _ hk => hk.2) (.int .i64 ((rd_T59 l0_3 (rd x4_1 0)).f4))) (fun _ hk => trivial)⟩, ⟨by (with_reducible repeat (first | apply Kd.Q_alloc | apply Kd.Q_drewN | apply Kd.Q_drew)); exact Kd.Q_mono (Kd.Q_far (p := ⟨gb116, 4, none⟩) (Kd.Q_far (p := ⟨gb116, 3, none⟩) (Kd.Q_far (p := ⟨gb116, 2, none⟩) (Kd.Q_far (p := ⟨gb116, 1, none⟩) (Kd.Q_far (p := ⟨gb116, 0, none⟩) (Kd.Q_types HO112.out BK116.out (by decide)) (fun _ hk => hk.2) (.int .i64 ((rd_T59 l0_3 (rd x4_1 0)).f0))) (fun _ hk => hk.2) (.int .i64 ((rd_T59 l0_3 (rd x4_1 0)).f1))) (fun _ hk => hk.2) (.int .i64 ((rd_T59 l0_3 (rd x4_1 0)).f2))) (fun _ hk => hk.2) (.int .i64 ((rd_T59 l0_3 (rd x4_1 0)).f3))) (fun _ hk => hk.2) (.int .i64 ((rd_T59 l0_3 (rd x4_1 0)).f4))) (fun _ hk => trivial)⟩, ⟨by (with_reducible repeat (first | refine blk_drewN ?_ _ | refine blk_drew ?_ | refine blk_alloc ?_ _)); refine blk_far ?_ NB101_116.out _; (with_reducible repeat (first | refine blk_drewN ?_ _ | refine blk_drew ?_ | refine blk_alloc ?_ _)); refine blk_far ?_ NB101_116.out _; (with_reducible repeat (first | refine blk_drewN ?_ _ | refine blk_drew ?_ | refine blk_alloc ?_ _)); refine blk_far ?_ NB101_116.out _; (with_reducible repeat (first | refine blk_drewN ?_ _ | refine blk_drew ?_ | refine blk_alloc ?_ _)); refine blk_far ?_ NB101_116.out _; (with_reducible repeat (first | refine blk_drewN ?_ _ | refine blk_drew ?_ | refine blk_alloc ?_ _)); refine blk_far ?_ NB101_116.out _; (with_reducible repeat (first | refine blk_drewN ?_ _ | refine blk_drew ?_ | refine blk_alloc ?_ _)); exact BK101.out⟩, ⟨by (with_reducible repeat (first | refine blk_drewN ?_ _ | refine blk_drew ?_ | refine blk_alloc ?_ _)); refine blk_put (cs := #[.int .i64 ((rd_T59 l0_3 (rd x4_1 0)).f0), .int .i64 ((rd_T59 l0_3 (rd x4_1 0)).f1), .int .i64 ((rd_T59 l0_3 (rd x4_1 0)).f2), .int .i64 ((rd_T59 l0_3 (rd x4_1 0)).f3), .int .i64 0]) ?_ 4 _ rfl; (with_reducible repeat (first | refine blk_drewN ?_ _ | refine blk_drew ?_ | refine blk_alloc ?_ _)); refine blk_put (cs := #[.int .i64 ((rd_T59 l0_3 (rd x4_1 0)).f0), .int .i64 ((rd_T59 l0_3 (rd x4_1 0)).f1), .int .i64 ((rd_T59 l0_3 (rd x4_1 0)).f2), .int .i64 0, .int .i64 0]) ?_ 3 _ rfl; (with_reducible repeat (first | refine blk_drewN ?_ _ | refine blk_drew ?_ | refine blk_alloc ?_ _)); refine blk_put (cs := #[.int .i64 ((rd_T59 l0_3 (rd x4_1 0)).f0), .int .i64 ((rd_T59 l0_3 (rd x4_1 0)).f1), .int .i64 0, .int .i64 0, .int .i64 0]) ?_ 2 _ rfl; (with_reducible repeat (first | refine blk_drewN ?_ _ | refine blk_drew ?_ | refine blk_alloc ?_ _)); refine blk_put (cs := #[.int .i64 ((rd_T59 l0_3 (rd x4_1 0)).f0), .int .i64 0, .int .i64 0, .int .i64 0, .int .i64 0]) ?_ 1 _ rfl; (with_reducible repeat (first | refine blk_drewN ?_ _ | refine blk_drew ?_ | refine blk_alloc ?_ _)); refine blk_put (cs := #[.int .i64 0, .int .i64 0, .int .i64 0, .int .i64 0, .int .i64 0]) ?_ 0 _ rfl; (with_reducible repeat (first | refine blk_drewN ?_ _ | refine blk_drew ?_ | refine blk_alloc ?_ _)); exact BK116.out⟩, ⟨by repeat (first | (with_reducible first | exact HB.out | apply below_alloc | apply pw_below_drewN | apply below_drew1 | refine below_set ?_ GE101.out | refine below_set ?_ GE116.out) | exact HB.out)⟩⟩
                            · rw [if_neg c36] at H
                              have c36b0 : (((rd_T59 l0_3 (rd x4_1 0)).f0) == 8) = false := beq_eq_false_iff_ne.mpr c36
                              have c36b1 : (((rd_T59 l0_3 (rd x4_1 0)).f0) != 8) = true := bne_iff_ne.mpr c36
                              (first | rw [c36b0] | (simp only [i64_w, i32_w]; rw [c36b0]) | skip)
                              have H' := Aside0.mk H
                              clear H
                              have hnb39 := NB116_101.out
                              have hnc39 := NB101_116.out
                              have hcz40_0 : w33.cell? ⟨gb116, 0, none⟩ = some (.int .i64 0) := (blk_cell BK116.out 0).trans rfl
                              have hcz40_1 : w33.cell? ⟨gb116, 1, none⟩ = some (.int .i64 0) := (blk_cell BK116.out 1).trans rfl
                              have hcz40_2 : w33.cell? ⟨gb116, 2, none⟩ = some (.int .i64 0) := (blk_cell BK116.out 2).trans rfl
                              have hcz40_3 : w33.cell? ⟨gb116, 3, none⟩ = some (.int .i64 0) := (blk_cell BK116.out 3).trans rfl
                              have hcz40_4 : w33.cell? ⟨gb116, 4, none⟩ = some (.int .i64 0) := (blk_cell BK116.out 4).trans rfl
                              have hfz40_0 := blk_frozen BK116.out 0
                              have hfz40_1 := blk_frozen BK116.out 1
                              have hfz40_2 := blk_frozen BK116.out 2
                              have hfz40_3 := blk_frozen BK116.out 3
                              have hfz40_4 := blk_frozen BK116.out 4
                              go_wp2
                              go_meet
                              case rel => exact ⟨_, ((((rd_T59 l0_3 (rd x4_1 0)).f0) == 9)), (by first | rfl | (simp; done) | (simp [*]; done)), H', ⟨by have := HK1.out; first | omega | exact Nat.le_refl _⟩, ⟨by (with_reducible repeat (first | apply Kd.R_alloc | apply Kd.R_drewN | apply Kd.R_drew)); exact Kd.R_mono (Kd.R_far (p := ⟨gb116, 4, none⟩) (Kd.R_far (p := ⟨gb116, 3, none⟩) (Kd.R_far (p := ⟨gb116, 2, none⟩) (Kd.R_far (p := ⟨gb116, 1, none⟩) (Kd.R_far (p := ⟨gb116, 0, none⟩) (Kd.R_types HO_3.out BK116.out (by decide)) (fun _ hk => hk.2) (.int .i64 ((rd_T59 l0_3 (rd x4_1 0)).f0))) (fun _ hk => hk.2) (.int .i64 ((rd_T59 l0_3 (rd x4_1 0)).f1))) (fun _ hk => hk.2) (.int .i64 ((rd_T59 l0_3 (rd x4_1 0)).f2))) (fun _ hk => hk.2) (.int .i64 ((rd_T59 l0_3 (rd x4_1 0)).f3))) (fun _ hk => hk.2) (.int .i64 ((rd_T59 l0_3 (rd x4_1 0)).f4))) (fun _ hk => trivial)⟩, ⟨by (with_reducible repeat (first | apply Kd.Q_alloc | apply Kd.Q_drewN | apply Kd.Q_drew)); exact Kd.Q_mono (Kd.Q_far (p := ⟨gb116, 4, none⟩) (Kd.Q_far (p := ⟨gb116, 3, none⟩) (Kd.Q_far (p := ⟨gb116, 2, none⟩) (Kd.Q_far (p := ⟨gb116, 1, none⟩) (Kd.Q_far (p := ⟨gb116, 0, none⟩) (Kd.Q_types HO112.out BK116.out (by decide)) (fun _ hk => hk.2) (.int .i64 ((rd_T59 l0_3 (rd x4_1 0)).f0))) (fun _ hk => hk.2) (.int .i64 ((rd_T59 l0_3 (rd x4_1 0)).f1))) (fun _ hk => hk.2) (.int .i64 ((rd_T59 l0_3 (rd x4_1 0)).f2))) (fun _ hk => hk.2) (.int .i64 ((rd_T59 l0_3 (rd x4_1 0)).f3))) (fun _ hk => hk.2) (.int .i64 ((rd_T59 l0_3 (rd x4_1 0)).f4))) (fun _ hk => trivial)⟩, ⟨by (with_reducible repeat (first | refine blk_drewN ?_ _ | refine blk_drew ?_ | refine blk_alloc ?_ _)); refine blk_far ?_ NB101_116.out _; (with_reducible repeat (first | refine blk_drewN ?_ _ | refine blk_drew ?_ | refine blk_alloc ?_ _)); refine blk_far ?_ NB101_116.out _; (with_reducible repeat (first | refine blk_drewN ?_ _ | refine blk_drew ?_ | refine blk_alloc ?_ _)); refine blk_far ?_ NB101_116.out _; (with_reducible repeat (first | refine blk_drewN ?_ _ | refine blk_drew ?_ | refine blk_alloc ?_ _)); refine blk_far ?_ NB101_116.out _; (with_reducible repeat (first | refine blk_drewN ?_ _ | refine blk_drew ?_ | refine blk_alloc ?_ _)); refine blk_far ?_ NB101_116.out _; (with_reducible repeat (first | refine blk_drewN ?_ _ | refine blk_drew ?_ | refine blk_alloc ?_ _)); exact BK101.out⟩, ⟨by (with_reducible repeat (first | refine blk_drewN ?_ _ | refine blk_drew ?_ | refine blk_alloc ?_ _)); refine blk_put (cs := #[.int .i64 ((rd_T59 l0_3 (rd x4_1 0)).f0), .int .i64 ((rd_T59 l0_3 (rd x4_1 0)).f1), .int .i64 ((rd_T59 l0_3 (rd x4_1 0)).f2), .int .i64 ((rd_T59 l0_3 (rd x4_1 0)).f3), .int .i64 0]) ?_ 4 _ rfl; (with_reducible repeat (first | refine blk_drewN ?_ _ | refine blk_drew ?_ | refine blk_alloc ?_ _)); refine blk_put (cs := #[.int .i64 ((rd_T59 l0_3 (rd x4_1 0)).f0), .int .i64 ((rd_T59 l0_3 (rd x4_1 0)).f1), .int .i64 ((rd_T59 l0_3 (rd x4_1 0)).f2), .int .i64 0, .int .i64 0]) ?_ 3 _ rfl; (with_reducible repeat (first | refine blk_drewN ?_ _ | refine blk_drew ?_ | refine blk_alloc ?_ _)); refine blk_put (cs := #[.int .i64 ((rd_T59 l0_3 (rd x4_1 0)).f0), .int .i64 ((rd_T59 l0_3 (rd x4_1 0)).f1), .int .i64 0, .int .i64 0, .int .i64 0]) ?_ 2 _ rfl; (with_reducible repeat (first | refine blk_drewN ?_ _ | refine blk_drew ?_ | refine blk_alloc ?_ _)); refine blk_put (cs := #[.int .i64 ((rd_T59 l0_3 (rd x4_1 0)).f0), .int .i64 0, .int .i64 0, .int .i64 0, .int .i64 0]) ?_ 1 _ rfl; (with_reducible repeat (first | refine blk_drewN ?_ _ | refine blk_drew ?_ | refine blk_alloc ?_ _)); refine blk_put (cs := #[.int .i64 0, .int .i64 0, .int .i64 0, .int .i64 0, .int .i64 0]) ?_ 0 _ rfl; (with_reducible repeat (first | refine blk_drewN ?_ _ | refine blk_drew ?_ | refine blk_alloc ?_ _)); exact BK116.out⟩, ⟨by repeat (first | (with_reducible first | exact HB.out | apply below_alloc | apply pw_below_drewN | apply below_drew1 | refine below_set ?_ GE101.out | refine below_set ?_ GE116.out) | exact HB.out)⟩⟩
                          case rest =>
                            clear HC26
                            try clear c1
                            try clear p1
                            try clear q1
                            try clear hx1
                            try clear qi1
                            try clear c2
                            try clear p2
                            try clear q2
                            try clear hx2
                            try clear hf2
                            try clear c3
                            try clear c4
                            try clear c4b0
                            try clear c4b1
                            try clear c5
                            try clear c5b0
                            try clear c5b1
                            try clear p10
                            try clear q10
                            try clear hx10
                            try clear qi10
                            try clear p11
                            try clear q11
                            try clear hx11
                            try clear c14
                            try clear c14b0
                            try clear c14b1
                            try clear c15
                            try clear c15b0
                            try clear c15b1
                            try clear c16
                            try clear c16b0
                            try clear c16b1
                            try clear c17
                            try clear c17b0
                            try clear c18
                            try clear c18b0
                            try clear q19
                            try clear c20
                            try clear c22
                            try clear q22
                            try clear p24
                            try clear q24
                            try clear hx24
                            try clear hf24
                            try clear c25
                            try clear c25b0
                            try clear c28
                            try clear q28
                            try clear c30
                            try clear c34
                            try clear c36
                            try clear c36b0
                            try clear c36b1
                            try clear c37
                            try clear c39
                            try clear hcz32_0
                            try clear hcz32_1
                            try clear hcz32_2
                            try clear hcz32_3
                            try clear hcz35_0
                            try clear hcz35_1
                            try clear hcz35_2
                            try clear hcz35_3
                            try clear hcz35_4
                            try clear hcz38_0
                            try clear hcz38_1
                            try clear hcz38_2
                            try clear hcz38_3
                            try clear hcz38_4
                            try clear hcz40_0
                            try clear hcz40_1
                            try clear hcz40_2
                            try clear hcz40_3
                            try clear hcz40_4
                            try clear hcz7_0
                            try clear hcz7_1
                            try clear hcz7_2
                            try clear hcz7_3
                            try clear hcz9_0
                            try clear hcz9_1
                            try clear hcz9_2
                            try clear hcz9_3
                            try clear hfz32_0
                            try clear hfz32_1
                            try clear hfz32_2
                            try clear hfz32_3
                            try clear hfz35_0
                            try clear hfz35_1
                            try clear hfz35_2
                            try clear hfz35_3
                            try clear hfz35_4
                            try clear hfz38_0
                            try clear hfz38_1
                            try clear hfz38_2
                            try clear hfz38_3
                            try clear hfz38_4
                            try clear hfz40_0
                            try clear hfz40_1
                            try clear hfz40_2
                            try clear hfz40_3
                            try clear hfz40_4
                            try clear hfz7_0
                            try clear hfz7_1
                            try clear hfz7_2
                            try clear hfz7_3
                            try clear hfz9_0
                            try clear hfz9_1
                            try clear hfz9_2
                            try clear hfz9_3
                            try clear hx109_0
                            try clear hx113_0
                            try clear hx115_0
                            try clear hx115_1
                            try clear hx115_2
                            try clear hx115_3
                            try clear hx115_4
                            try clear hx24_0
                            try clear p109
                            try clear p113
                            try clear p115
                            try clear p2
                            try clear p24
                            try clear q109
                            try clear q113
                            try clear q115
                            try clear q22
                            try clear q24
                            try clear q28
                            obtain ⟨kq, x45_25, rfl, HA, HJ25, HO_3, HO_4, BK101, BK116, HB⟩ := hcut
                            have hl3_25 := (Kd.R_reads' HO_3.out).1
                            rw [hl3_25] at HO_3
                            (try simp only [hl3_25])
                            (try simp only [hl3_25] at BK101)
                            (try simp only [hl3_25] at BK116)
                            (try simp only [hl3_25] at HO_4)
                            cases kq with
                            | zero => exact absurd HA.out (by simp [impl_Dead.j1])
                            | succ kj25 =>
                              have H := HA.out
                              clear HA
                              simp only [impl_Dead.j1] at H
                              by_cases c41 : x45_25 = true
                              · subst c41
                                have H1 : (if y110.length < 17592186044416 then ((some (y110 ++ [((rd_T59 l0_3 (rd x4_1 0)).f4)] : List Int)).bind fun y117 => (if ((rd_T59 l0_3 (rd x4_1 0)).f0) = 8 then (impl_Dead.l0 kj25 y114 y117 l0_0 a0_1 a0_2 l0_3) else (if ((rd_T59 l0_3 (rd x4_1 0)).f0) = 10 then (impl_Dead.l0 kj25 y114 y117 l0_0 a0_1 a0_2 l0_3) else (if y117.length < 17592186044416 then (impl_Dead.l0 kj25 y114 (y117 ++ [wrap64 ((rd x4_1 0) + 1)]) l0_0 a0_1 a0_2 l0_3) else (none))))) else (none)) = some r := by rw [if_pos rfl] at H; exact H
                                clear H
                                have H := H1
                                clear H1
                                by_cases c42 : y110.length < 17592186044416
                                · rw [if_pos c42] at H
                                  have LMc42 := Aside0.mk c42
                                  clear c42
                                  obtain ⟨y117, hy117⟩ : ∃ y_ : List Int, y_ = (y110 ++ [((rd_T59 l0_3 (rd x4_1 0)).f4)]) := ⟨_, rfl⟩
                                  replace H : (if ((rd_T59 l0_3 (rd x4_1 0)).f0) = 8 then (impl_Dead.l0 kj25 y114 y117 l0_0 a0_1 a0_2 l0_3) else (if ((rd_T59 l0_3 (rd x4_1 0)).f0) = 10 then (impl_Dead.l0 kj25 y114 y117 l0_0 a0_1 a0_2 l0_3) else (if y117.length < 17592186044416 then (impl_Dead.l0 kj25 y114 (y117 ++ [wrap64 ((rd x4_1 0) + 1)]) l0_0 a0_1 a0_2 l0_3) else (none)))) = some r := by first | (rw [hy117]; with_reducible exact H) | (have H2_ := (Option.bind_some _ _).symm.trans H; rw [hy117]; with_reducible exact H2_) | (have H2_ := (Option.bind_some _ _).symm.trans H; with_reducible exact H2_) | with_reducible exact H | (rw [hy117]; exact H) | exact H
                                  have Ny117 := Aside0.mk hy117
                                  clear hy117
                                  by_cases c43 : ((rd_T59 l0_3 (rd x4_1 0)).f0) = 8
                                  · rw [if_pos c43] at H
                                    have c43b0 : (((rd_T59 l0_3 (rd x4_1 0)).f0) == 8) = true := beq_iff_eq.mpr c43
                                    have c43b1 : (((rd_T59 l0_3 (rd x4_1 0)).f0) != 8) = false := bne_eq_false_iff_eq.mpr c43
                                    clear c43
                                    have H' := Aside0.mk H
                                    clear H
                                    have hnb44 := NB116_101.out
                                    have hnc44 := NB101_116.out
                                    have hcz45_0 : wc.cell? ⟨gb116, 0, none⟩ = some (.int .i64 ((rd_T59 l0_3 (rd x4_1 0)).f0)) := (blk_cell BK116.out 0).trans rfl
                                    have hcz45_1 : wc.cell? ⟨gb116, 1, none⟩ = some (.int .i64 ((rd_T59 l0_3 (rd x4_1 0)).f1)) := (blk_cell BK116.out 1).trans rfl
                                    have hcz45_2 : wc.cell? ⟨gb116, 2, none⟩ = some (.int .i64 ((rd_T59 l0_3 (rd x4_1 0)).f2)) := (blk_cell BK116.out 2).trans rfl
                                    have hcz45_3 : wc.cell? ⟨gb116, 3, none⟩ = some (.int .i64 ((rd_T59 l0_3 (rd x4_1 0)).f3)) := (blk_cell BK116.out 3).trans rfl
                                    have hcz45_4 : wc.cell? ⟨gb116, 4, none⟩ = some (.int .i64 ((rd_T59 l0_3 (rd x4_1 0)).f4)) := (blk_cell BK116.out 4).trans rfl
                                    have hfz45_0 := blk_frozen BK116.out 0
                                    have hfz45_1 := blk_frozen BK116.out 1
                                    have hfz45_2 := blk_frozen BK116.out 2
                                    have hfz45_3 := blk_frozen BK116.out 3
                                    have hfz45_4 := blk_frozen BK116.out 4
                                    go_wp2_with (first | ((with_reducible refine gate_builtin (b := .append) (xs := #[.tmp 46, .tmp 49]) rfl ?_); at_builtin; refine Kd.Q_append (Kd.int .i64) (w0 := w) w.heap.size rfl (.tmp 46) (.tmp 49) 25 3 (.int .i64 0) 8 rfl Try.underlying25 info3 rfl (by decide) (by omega) (.slice A28 y110.length c28) y110 ((rd_T59 l0_3 (rd x4_1 0)).f4) [.int .i64 ((rd_T59 l0_3 (rd x4_1 0)).f4)] (fun _ => True) (fun _ => False) rfl rfl ?aP (fun _ hk => hk.elim) ?aF ?aO ?aB ?aS ?aL ?_; (case aP => exact rfl); (case aB => exact (by repeat (first | (with_reducible first | exact HB.out | apply below_alloc | apply pw_below_drewN | apply below_drew1 | refine below_set ?_ GE101.out | refine below_set ?_ GE116.out) | exact HB.out))); (case aF => exact (fun _ _ => trivial)); (case aO => exact (by (with_reducible repeat (first | apply Kd.Q_alloc | apply Kd.Q_drewN | apply Kd.Q_drew)); exact HO_4.out)); (case aS => exact (below_size (by repeat (first | (with_reducible first | exact HB.out | apply below_alloc | apply pw_below_drewN | apply below_drew1 | refine below_set ?_ GE101.out | refine below_set ?_ GE116.out) | exact HB.out)))); (case aL => have := LMc42.out; omega); intro v118 w46 ho hb hg hat; rw [← Ny117.out] at ho; have n0_ := Aside0.mk (Kd.R_over' (by (with_reducible repeat (first | apply Kd.R_alloc | apply Kd.R_drewN | apply Kd.R_drew)); exact HO_3.out) (Kd.Q_typed (by (with_reducible repeat (first | apply Kd.Q_alloc | apply Kd.Q_drewN | apply Kd.Q_drew)); exact HO_4.out)) (by decide) hg); have n1_ := Aside0.mk (blk_grown (g := gb101) (o := .cells #[.slice A0_0 l0_0.length c0_0, .int .i64 a0_1, .int .i64 a0_2, .slice (some ad115) l0_3.length c0_3] 33 (0, 0)) (by (with_reducible repeat (first | refine blk_drewN ?_ _ | refine blk_drew ?_ | refine blk_alloc ?_ _)); exact BK101.out) hg (Kd.Q_ne HO_4.out BK101.out (by decide))); have n2_ := Aside0.mk (blk_grown (g := gb116) (o := .cells #[.int .i64 ((rd_T59 l0_3 (rd x4_1 0)).f0), .int .i64 ((rd_T59 l0_3 (rd x4_1 0)).f1), .int .i64 ((rd_T59 l0_3 (rd x4_1 0)).f2), .int .i64 ((rd_T59 l0_3 (rd x4_1 0)).f3), .int .i64 ((rd_T59 l0_3 (rd x4_1 0)).f4)] 59 (0, 0)) (by (with_reducible repeat (first | refine blk_drewN ?_ _ | refine blk_drew ?_ | refine blk_alloc ?_ _)); exact BK116.out) hg (Kd.Q_ne HO_4.out BK116.out (by decide))); have n3_ := Aside0.mk (hb); have n4_ := Aside0.mk (ho); clear HO_3; clear BK101; clear BK116; clear HB; clear HO_4; have HO_3 := n0_; have BK101 := n1_; have BK116 := n2_; have HB := n3_; have HO119 := n4_; clear n0_ n1_ n2_ n3_ n4_; clear ho hb hg hat; have hcz47_0 : w46.cell? ⟨gb116, 0, none⟩ = some (.int .i64 ((rd_T59 l0_3 (rd x4_1 0)).f0)) := (blk_cell BK116.out 0).trans rfl; have hcz47_1 : w46.cell? ⟨gb116, 1, none⟩ = some (.int .i64 ((rd_T59 l0_3 (rd x4_1 0)).f1)) := (blk_cell BK116.out 1).trans rfl; have hcz47_2 : w46.cell? ⟨gb116, 2, none⟩ = some (.int .i64 ((rd_T59 l0_3 (rd x4_1 0)).f2)) := (blk_cell BK116.out 2).trans rfl; have hcz47_3 : w46.cell? ⟨gb116, 3, none⟩ = some (.int .i64 ((rd_T59 l0_3 (rd x4_1 0)).f3)) := (blk_cell BK116.out 3).trans rfl; have hcz47_4 : w46.cell? ⟨gb116, 4, none⟩ = some (.int .i64 ((rd_T59 l0_3 (rd x4_1 0)).f4)) := (blk_cell BK116.out 4).trans rfl; have hfz47_0 := blk_frozen BK116.out 0; have hfz47_1 := blk_frozen BK116.out 1; have hfz47_2 := blk_frozen BK116.out 2; have hfz47_3 := blk_frozen BK116.out 3; have hfz47_4 := blk_frozen BK116.out 4))
                                    (try simp only [← hl3_25])
                                    go_roundg kj25
                                    case measure => have := HK1.out; have := HJ25.out; omega
                                    case rel => exact ⟨(y114), (y117), H', ⟨by have := HK1.out; have := HJ25.out; omega⟩, ⟨by (try simp only [hl3_25]); (with_reducible repeat (first | apply Kd.R_alloc | apply Kd.R_drewN | apply Kd.R_drew)); exact HO_3.out⟩, ⟨by (try simp only [hl3_25]); (with_reducible repeat (first | apply Kd.Q_alloc | apply Kd.Q_drewN | apply Kd.Q_drew)); exact HO119.out⟩, ⟨by (try simp only [hl3_25]); (with_reducible repeat (first | refine blk_drewN ?_ _ | refine blk_drew ?_ | refine blk_alloc ?_ _)); exact BK101.out⟩, ⟨by repeat (first | (with_reducible first | exact HB.out | apply below_alloc | apply pw_below_drewN | apply below_drew1 | refine below_set ?_ GE101.out | refine below_set ?_ GE116.out) | exact HB.out)⟩⟩
                                  · rw [if_neg c43] at H
                                    have c43b0 : (((rd_T59 l0_3 (rd x4_1 0)).f0) == 8) = false := beq_eq_false_iff_ne.mpr c43
                                    have c43b1 : (((rd_T59 l0_3 (rd x4_1 0)).f0) != 8) = true := bne_iff_ne.mpr c43
                                    by_cases c48 : ((rd_T59 l0_3 (rd x4_1 0)).f0) = 10
                                    · rw [if_pos c48] at H
                                      have c48b0 : (((rd_T59 l0_3 (rd x4_1 0)).f0) == 10) = true := beq_iff_eq.mpr c48
                                      have c48b1 : (((rd_T59 l0_3 (rd x4_1 0)).f0) != 10) = false := bne_eq_false_iff_eq.mpr c48
                                      clear c48
                                      have H' := Aside0.mk H
                                      clear H
                                      have hnb49 := NB116_101.out
                                      have hnc49 := NB101_116.out
                                      have hcz50_0 : wc.cell? ⟨gb116, 0, none⟩ = some (.int .i64 ((rd_T59 l0_3 (rd x4_1 0)).f0)) := (blk_cell BK116.out 0).trans rfl
                                      have hcz50_1 : wc.cell? ⟨gb116, 1, none⟩ = some (.int .i64 ((rd_T59 l0_3 (rd x4_1 0)).f1)) := (blk_cell BK116.out 1).trans rfl
                                      have hcz50_2 : wc.cell? ⟨gb116, 2, none⟩ = some (.int .i64 ((rd_T59 l0_3 (rd x4_1 0)).f2)) := (blk_cell BK116.out 2).trans rfl
                                      have hcz50_3 : wc.cell? ⟨gb116, 3, none⟩ = some (.int .i64 ((rd_T59 l0_3 (rd x4_1 0)).f3)) := (blk_cell BK116.out 3).trans rfl
                                      have hcz50_4 : wc.cell? ⟨gb116, 4, none⟩ = some (.int .i64 ((rd_T59 l0_3 (rd x4_1 0)).f4)) := (blk_cell BK116.out 4).trans rfl
                                      have hfz50_0 := blk_frozen BK116.out 0
                                      have hfz50_1 := blk_frozen BK116.out 1
                                      have hfz50_2 := blk_frozen BK116.out 2
                                      have hfz50_3 := blk_frozen BK116.out 3
                                      have hfz50_4 := blk_frozen BK116.out 4
                                      go_wp2_with (first | ((with_reducible refine gate_builtin (b := .append) (xs := #[.tmp 46, .tmp 49]) rfl ?_); at_builtin; refine Kd.Q_append (Kd.int .i64) (w0 := w) w.heap.size rfl (.tmp 46) (.tmp 49) 25 3 (.int .i64 0) 8 rfl Try.underlying25 info3 rfl (by decide) (by omega) (.slice A28 y110.length c28) y110 ((rd_T59 l0_3 (rd x4_1 0)).f4) [.int .i64 ((rd_T59 l0_3 (rd x4_1 0)).f4)] (fun _ => True) (fun _ => False) rfl rfl ?aP (fun _ hk => hk.elim) ?aF ?aO ?aB ?aS ?aL ?_; (case aP => exact rfl); (case aB => exact (by repeat (first | (with_reducible first | exact HB.out | apply below_alloc | apply pw_below_drewN | apply below_drew1 | refine below_set ?_ GE101.out | refine below_set ?_ GE116.out) | exact HB.out))); (case aF => exact (fun _ _ => trivial)); (case aO => exact (by (with_reducible repeat (first | apply Kd.Q_alloc | apply Kd.Q_drewN | apply Kd.Q_drew)); exact HO_4.out)); (case aS => exact (below_size (by repeat (first | (with_reducible first | exact HB.out | apply below_alloc | apply pw_below_drewN | apply below_drew1 | refine below_set ?_ GE101.out | refine below_set ?_ GE116.out) | exact HB.out)))); (case aL => have := LMc42.out; omega); intro v118 w51 ho hb hg hat; rw [← Ny117.out] at ho; have n0_ := Aside0.mk (Kd.R_over' (by (with_reducible repeat (first | apply Kd.R_alloc | apply Kd.R_drewN | apply Kd.R_drew)); exact HO_3.out) (Kd.Q_typed (by (with_reducible repeat (first | apply Kd.Q_alloc | apply Kd.Q_drewN | apply Kd.Q_drew)); exact HO_4.out)) (by decide) hg); have n1_ := Aside0.mk (blk_grown (g := gb101) (o := .cells #[.slice A0_0 l0_0.length c0_0, .int .i64 a0_1, .int .i64 a0_2, .slice (some ad115) l0_3.length c0_3] 33 (0, 0)) (by (with_reducible repeat (first | refine blk_drewN ?_ _ | refine blk_drew ?_ | refine blk_alloc ?_ _)); exact BK101.out) hg (Kd.Q_ne HO_4.out BK101.out (by decide))); have n2_ := Aside0.mk (blk_grown (g := gb116) (o := .cells #[.int .i64 ((rd_T59 l0_3 (rd x4_1 0)).f0), .int .i64 ((rd_T59 l0_3 (rd x4_1 0)).f1), .int .i64 ((rd_T59 l0_3 (rd x4_1 0)).f2), .int .i64 ((rd_T59 l0_3 (rd x4_1 0)).f3), .int .i64 ((rd_T59 l0_3 (rd x4_1 0)).f4)] 59 (0, 0)) (by (with_reducible repeat (first | refine blk_drewN ?_ _ | refine blk_drew ?_ | refine blk_alloc ?_ _)); exact BK116.out) hg (Kd.Q_ne HO_4.out BK116.out (by decide))); have n3_ := Aside0.mk (hb); have n4_ := Aside0.mk (ho); clear HO_3; clear BK101; clear BK116; clear HB; clear HO_4; have HO_3 := n0_; have BK101 := n1_; have BK116 := n2_; have HB := n3_; have HO119 := n4_; clear n0_ n1_ n2_ n3_ n4_; clear ho hb hg hat; have hcz52_0 : w51.cell? ⟨gb116, 0, none⟩ = some (.int .i64 ((rd_T59 l0_3 (rd x4_1 0)).f0)) := (blk_cell BK116.out 0).trans rfl; have hcz52_1 : w51.cell? ⟨gb116, 1, none⟩ = some (.int .i64 ((rd_T59 l0_3 (rd x4_1 0)).f1)) := (blk_cell BK116.out 1).trans rfl; have hcz52_2 : w51.cell? ⟨gb116, 2, none⟩ = some (.int .i64 ((rd_T59 l0_3 (rd x4_1 0)).f2)) := (blk_cell BK116.out 2).trans rfl; have hcz52_3 : w51.cell? ⟨gb116, 3, none⟩ = some (.int .i64 ((rd_T59 l0_3 (rd x4_1 0)).f3)) := (blk_cell BK116.out 3).trans rfl; have hcz52_4 : w51.cell? ⟨gb116, 4, none⟩ = some (.int .i64 ((rd_T59 l0_3 (rd x4_1 0)).f4)) := (blk_cell BK116.out 4).trans rfl; have hfz52_0 := blk_frozen BK116.out 0; have hfz52_1 := blk_frozen BK116.out 1; have hfz52_2 := blk_frozen BK116.out 2; have hfz52_3 := blk_frozen BK116.out 3; have hfz52_4 := blk_frozen BK116.out 4))
                                      (try simp only [← hl3_25])
                                      go_roundg kj25
                                      case measure => have := HK1.out; have := HJ25.out; omega
                                      case rel => exact ⟨(y114), (y117), H', ⟨by have := HK1.out; have := HJ25.out; omega⟩, ⟨by (try simp only [hl3_25]); (with_reducible repeat (first | apply Kd.R_alloc | apply Kd.R_drewN | apply Kd.R_drew)); exact HO_3.out⟩, ⟨by (try simp only [hl3_25]); (with_reducible repeat (first | apply Kd.Q_alloc | apply Kd.Q_drewN | apply Kd.Q_drew)); exact HO119.out⟩, ⟨by (try simp only [hl3_25]); (with_reducible repeat (first | refine blk_drewN ?_ _ | refine blk_drew ?_ | refine blk_alloc ?_ _)); exact BK101.out⟩, ⟨by repeat (first | (with_reducible first | exact HB.out | apply below_alloc | apply pw_below_drewN | apply below_drew1 | refine below_set ?_ GE101.out | refine below_set ?_ GE116.out) | exact HB.out)⟩⟩
                                    · rw [if_neg c48] at H
                                      have c48b0 : (((rd_T59 l0_3 (rd x4_1 0)).f0) == 10) = false := beq_eq_false_iff_ne.mpr c48
                                      have c48b1 : (((rd_T59 l0_3 (rd x4_1 0)).f0) != 10) = true := bne_iff_ne.mpr c48
                                      by_cases c53 : y117.length < 17592186044416
                                      · rw [if_pos c53] at H
                                        have LMc53 := Aside0.mk c53
                                        clear c53
                                        obtain ⟨y120, hy120⟩ : ∃ y_ : List Int, y_ = (y117 ++ [wrap64 ((rd x4_1 0) + 1)]) := ⟨_, rfl⟩
                                        replace H : (impl_Dead.l0 kj25 y114 y120 l0_0 a0_1 a0_2 l0_3) = some r := by first | (rw [hy120]; with_reducible exact H) | (have H2_ := (Option.bind_some _ _).symm.trans H; rw [hy120]; with_reducible exact H2_) | (have H2_ := (Option.bind_some _ _).symm.trans H; with_reducible exact H2_) | with_reducible exact H | (rw [hy120]; exact H) | exact H
                                        have Ny120 := Aside0.mk hy120
                                        clear hy120
                                        have H' := Aside0.mk H
                                        clear H
                                        have hnb54 := NB116_101.out
                                        have hnc54 := NB101_116.out
                                        have hcz55_0 : wc.cell? ⟨gb116, 0, none⟩ = some (.int .i64 ((rd_T59 l0_3 (rd x4_1 0)).f0)) := (blk_cell BK116.out 0).trans rfl
                                        have hcz55_1 : wc.cell? ⟨gb116, 1, none⟩ = some (.int .i64 ((rd_T59 l0_3 (rd x4_1 0)).f1)) := (blk_cell BK116.out 1).trans rfl
                                        have hcz55_2 : wc.cell? ⟨gb116, 2, none⟩ = some (.int .i64 ((rd_T59 l0_3 (rd x4_1 0)).f2)) := (blk_cell BK116.out 2).trans rfl
                                        have hcz55_3 : wc.cell? ⟨gb116, 3, none⟩ = some (.int .i64 ((rd_T59 l0_3 (rd x4_1 0)).f3)) := (blk_cell BK116.out 3).trans rfl
                                        have hcz55_4 : wc.cell? ⟨gb116, 4, none⟩ = some (.int .i64 ((rd_T59 l0_3 (rd x4_1 0)).f4)) := (blk_cell BK116.out 4).trans rfl
                                        have hfz55_0 := blk_frozen BK116.out 0
                                        have hfz55_1 := blk_frozen BK116.out 1
                                        have hfz55_2 := blk_frozen BK116.out 2
                                        have hfz55_3 := blk_frozen BK116.out 3
                                        have hfz55_4 := blk_frozen BK116.out 4
                                        go_wp2_with (first | ((with_reducible refine gate_builtin (b := .append) (xs := #[.tmp 46, .tmp 49]) rfl ?_); at_builtin; refine Kd.Q_append (Kd.int .i64) (w0 := w) w.heap.size rfl (.tmp 46) (.tmp 49) 25 3 (.int .i64 0) 8 rfl Try.underlying25 info3 rfl (by decide) (by omega) (.slice A28 y110.length c28) y110 ((rd_T59 l0_3 (rd x4_1 0)).f4) [.int .i64 ((rd_T59 l0_3 (rd x4_1 0)).f4)] (fun _ => True) (fun _ => False) rfl rfl ?aP (fun _ hk => hk.elim) ?aF ?aO ?aB ?aS ?aL ?_; (case aP => exact rfl); (case aB => exact (by repeat (first | (with_reducible first | exact HB.out | apply below_alloc | apply pw_below_drewN | apply below_drew1 | refine below_set ?_ GE101.out | refine below_set ?_ GE116.out) | exact HB.out))); (case aF => exact (fun _ _ => trivial)); (case aO => exact (by (with_reducible repeat (first | apply Kd.Q_alloc | apply Kd.Q_drewN | apply Kd.Q_drew)); exact HO_4.out)); (case aS => exact (below_size (by repeat (first | (with_reducible first | exact HB.out | apply below_alloc | apply pw_below_drewN | apply below_drew1 | refine below_set ?_ GE101.out | refine below_set ?_ GE116.out) | exact HB.out)))); (case aL => have := LMc42.out; omega); intro v118 w56 ho hb hg hat; rw [← Ny117.out] at ho; have n0_ := Aside0.mk (Kd.R_over' (by (with_reducible repeat (first | apply Kd.R_alloc | apply Kd.R_drewN | apply Kd.R_drew)); exact HO_3.out) (Kd.Q_typed (by (with_reducible repeat (first | apply Kd.Q_alloc | apply Kd.Q_drewN | apply Kd.Q_drew)); exact HO_4.out)) (by decide) hg); have n1_ := Aside0.mk (blk_grown (g := gb101) (o := .cells #[.slice A0_0 l0_0.length c0_0, .int .i64 a0_1, .int .i64 a0_2, .slice (some ad115) l0_3.length c0_3] 33 (0, 0)) (by (with_reducible repeat (first | refine blk_drewN ?_ _ | refine blk_drew ?_ | refine blk_alloc ?_ _)); exact BK101.out) hg (Kd.Q_ne HO_4.out BK101.out (by decide))); have n2_ := Aside0.mk (blk_grown (g := gb116) (o := .cells #[.int .i64 ((rd_T59 l0_3 (rd x4_1 0)).f0), .int .i64 ((rd_T59 l0_3 (rd x4_1 0)).f1), .int .i64 ((rd_T59 l0_3 (rd x4_1 0)).f2), .int .i64 ((rd_T59 l0_3 (rd x4_1 0)).f3), .int .i64 ((rd_T59 l0_3 (rd x4_1 0)).f4)] 59 (0, 0)) (by (with_reducible repeat (first | refine blk_drewN ?_ _ | refine blk_drew ?_ | refine blk_alloc ?_ _)); exact BK116.out) hg (Kd.Q_ne HO_4.out BK116.out (by decide))); have n3_ := Aside0.mk (hb); have n4_ := Aside0.mk (ho); clear HO_3; clear BK101; clear BK116; clear HB; clear HO_4; have HO_3 := n0_; have BK101 := n1_; have BK116 := n2_; have HB := n3_; have HO119 := n4_; clear n0_ n1_ n2_ n3_ n4_; clear ho hb hg hat; have hcz57_0 : w56.cell? ⟨gb116, 0, none⟩ = some (.int .i64 ((rd_T59 l0_3 (rd x4_1 0)).f0)) := (blk_cell BK116.out 0).trans rfl; have hcz57_1 : w56.cell? ⟨gb116, 1, none⟩ = some (.int .i64 ((rd_T59 l0_3 (rd x4_1 0)).f1)) := (blk_cell BK116.out 1).trans rfl; have hcz57_2 : w56.cell? ⟨gb116, 2, none⟩ = some (.int .i64 ((rd_T59 l0_3 (rd x4_1 0)).f2)) := (blk_cell BK116.out 2).trans rfl; have hcz57_3 : w56.cell? ⟨gb116, 3, none⟩ = some (.int .i64 ((rd_T59 l0_3 (rd x4_1 0)).f3)) := (blk_cell BK116.out 3).trans rfl; have hcz57_4 : w56.cell? ⟨gb116, 4, none⟩ = some (.int .i64 ((rd_T59 l0_3 (rd x4_1 0)).f4)) := (blk_cell BK116.out 4).trans rfl; have hfz57_0 := blk_frozen BK116.out 0; have hfz57_1 := blk_frozen BK116.out 1; have hfz57_2 := blk_frozen BK116.out 2; have hfz57_3 := blk_frozen BK116.out 3; have hfz57_4 := blk_frozen BK116.out 4) | ((with_reducible refine gate_builtin (b := .append) (xs := #[.tmp 59, .tmp 62]) rfl ?_); at_builtin; refine Kd.Q_append (Kd.int .i64) (w0 := w) w.heap.size rfl (.tmp 59) (.tmp 62) 25 3 (.int .i64 0) 8 rfl Try.underlying25 info3 rfl (by decide) (by omega) v118 y117 (wrap64 ((rd x4_1 0) + 1)) [.int .i64 (wrap64 ((rd x4_1 0) + 1))] (fun _ => True) (fun _ => False) rfl rfl ?aP (fun _ hk => hk.elim) ?aF ?aO ?aB ?aS ?aL ?_; (case aP => exact rfl); (case aB => exact (by repeat (first | (with_reducible first | exact HB.out | apply below_alloc | apply pw_below_drewN | apply below_drew1 | refine below_set ?_ GE101.out | refine below_set ?_ GE116.out) | exact HB.out))); (case aF => exact (fun _ _ => trivial)); (case aO => exact (by (with_reducible repeat (first | apply Kd.Q_alloc | apply Kd.Q_drewN | apply Kd.Q_drew)); exact HO119.out)); (case aS => exact (below_size (by repeat (first | (with_reducible first | exact HB.out | apply below_alloc | apply pw_below_drewN | apply below_drew1 | refine below_set ?_ GE101.out | refine below_set ?_ GE116.out) | exact HB.out)))); (case aL => have := LMc53.out; omega); intro v121 w58 ho hb hg hat; rw [← Ny120.out] at ho; have n0_ := Aside0.mk (Kd.R_over' (by (with_reducible repeat (first | apply Kd.R_alloc | apply Kd.R_drewN | apply Kd.R_drew)); exact HO_3.out) (Kd.Q_typed (by (with_reducible repeat (first | apply Kd.Q_alloc | apply Kd.Q_drewN | apply Kd.Q_drew)); exact HO119.out)) (by decide) hg); have n1_ := Aside0.mk (blk_grown (g := gb101) (o := .cells #[.slice A0_0 l0_0.length c0_0, .int .i64 a0_1, .int .i64 a0_2, .slice (some ad115) l0_3.length c0_3] 33 (0, 0)) (by (with_reducible repeat (first | refine blk_drewN ?_ _ | refine blk_drew ?_ | refine blk_alloc ?_ _)); exact BK101.out) hg (Kd.Q_ne HO119.out BK101.out (by decide))); have n2_ := Aside0.mk (blk_grown (g := gb116) (o := .cells #[.int .i64 ((rd_T59 l0_3 (rd x4_1 0)).f0), .int .i64 ((rd_T59 l0_3 (rd x4_1 0)).f1), .int .i64 ((rd_T59 l0_3 (rd x4_1 0)).f2), .int .i64 ((rd_T59 l0_3 (rd x4_1 0)).f3), .int .i64 ((rd_T59 l0_3 (rd x4_1 0)).f4)] 59 (0, 0)) (by (with_reducible repeat (first | refine blk_drewN ?_ _ | refine blk_drew ?_ | refine blk_alloc ?_ _)); exact BK116.out) hg (Kd.Q_ne HO119.out BK116.out (by decide))); have n3_ := Aside0.mk (hb); have n4_ := Aside0.mk (ho); clear HO_3; clear BK101; clear BK116; clear HB; clear HO119; have HO_3 := n0_; have BK101 := n1_; have BK116 := n2_; have HB := n3_; have HO122 := n4_; clear n0_ n1_ n2_ n3_ n4_; clear ho hb hg hat))
                                        (try simp only [← hl3_25])
                                        go_roundg kj25
                                        case measure => have := HK1.out; have := HJ25.out; omega
                                        case rel => exact ⟨(y114), (y120), H', ⟨by have := HK1.out; have := HJ25.out; omega⟩, ⟨by (try simp only [hl3_25]); (with_reducible repeat (first | apply Kd.R_alloc | apply Kd.R_drewN | apply Kd.R_drew)); exact HO_3.out⟩, ⟨by (try simp only [hl3_25]); (with_reducible repeat (first | apply Kd.Q_alloc | apply Kd.Q_drewN | apply Kd.Q_drew)); exact HO122.out⟩, ⟨by (try simp only [hl3_25]); (with_reducible repeat (first | refine blk_drewN ?_ _ | refine blk_drew ?_ | refine blk_alloc ?_ _)); exact BK101.out⟩, ⟨by repeat (first | (with_reducible first | exact HB.out | apply below_alloc | apply pw_below_drewN | apply below_drew1 | refine below_set ?_ GE101.out | refine below_set ?_ GE116.out) | exact HB.out)⟩⟩
                                      · rw [if_neg c53] at H
                                        exact absurd H (by simp)
                                · rw [if_neg c42] at H
                                  exact absurd H (by simp)
                              · replace c41 := Bool.eq_false_iff.mpr c41
                                subst c41
                                have H1 : (if ((rd_T59 l0_3 (rd x4_1 0)).f0) = 8 then (impl_Dead.l0 kj25 y114 y110 l0_0 a0_1 a0_2 l0_3) else (if ((rd_T59 l0_3 (rd x4_1 0)).f0) = 10 then (impl_Dead.l0 kj25 y114 y110 l0_0 a0_1 a0_2 l0_3) else (if y110.length < 17592186044416 then (impl_Dead.l0 kj25 y114 (y110 ++ [wrap64 ((rd x4_1 0) + 1)]) l0_0 a0_1 a0_2 l0_3) else (none)))) = some r := by rw [if_neg (show ¬ (false = true) by decide)] at H; exact H
                                clear H
                                have H := H1
                                clear H1
                                by_cases c59 : ((rd_T59 l0_3 (rd x4_1 0)).f0) = 8
                                · rw [if_pos c59] at H
                                  have c59b0 : (((rd_T59 l0_3 (rd x4_1 0)).f0) == 8) = true := beq_iff_eq.mpr c59
                                  have c59b1 : (((rd_T59 l0_3 (rd x4_1 0)).f0) != 8) = false := bne_eq_false_iff_eq.mpr c59
                                  clear c59
                                  have H' := Aside0.mk H
                                  clear H
                                  have hnb60 := NB116_101.out
                                  have hnc60 := NB101_116.out
                                  have hcz61_0 : wc.cell? ⟨gb116, 0, none⟩ = some (.int .i64 ((rd_T59 l0_3 (rd x4_1 0)).f0)) := (blk_cell BK116.out 0).trans rfl
                                  have hcz61_1 : wc.cell? ⟨gb116, 1, none⟩ = some (.int .i64 ((rd_T59 l0_3 (rd x4_1 0)).f1)) := (blk_cell BK116.out 1).trans rfl
                                  have hcz61_2 : wc.cell? ⟨gb116, 2, none⟩ = some (.int .i64 ((rd_T59 l0_3 (rd x4_1 0)).f2)) := (blk_cell BK116.out 2).trans rfl
                                  have hcz61_3 : wc.cell? ⟨gb116, 3, none⟩ = some (.int .i64 ((rd_T59 l0_3 (rd x4_1 0)).f3)) := (blk_cell BK116.out 3).trans rfl
                                  have hcz61_4 : wc.cell? ⟨gb116, 4, none⟩ = some (.int .i64 ((rd_T59 l0_3 (rd x4_1 0)).f4)) := (blk_cell BK116.out 4).trans rfl
                                  have hfz61_0 := blk_frozen BK116.out 0
                                  have hfz61_1 := blk_frozen BK116.out 1
                                  have hfz61_2 := blk_frozen BK116.out 2
                                  have hfz61_3 := blk_frozen BK116.out 3
                                  have hfz61_4 := blk_frozen BK116.out 4
                                  go_wp2
                                  (try simp only [← hl3_25])
                                  go_roundg kj25
                                  case measure => have := HK1.out; have := HJ25.out; omega
                                  case rel => exact ⟨(y114), (y110), H', ⟨by have := HK1.out; have := HJ25.out; omega⟩, ⟨by (try simp only [hl3_25]); (with_reducible repeat (first | apply Kd.R_alloc | apply Kd.R_drewN | apply Kd.R_drew)); exact HO_3.out⟩, ⟨by (try simp only [hl3_25]); (with_reducible repeat (first | apply Kd.Q_alloc | apply Kd.Q_drewN | apply Kd.Q_drew)); exact HO_4.out⟩, ⟨by (try simp only [hl3_25]); (with_reducible repeat (first | refine blk_drewN ?_ _ | refine blk_drew ?_ | refine blk_alloc ?_ _)); exact BK101.out⟩, ⟨by repeat (first | (with_reducible first | exact HB.out | apply below_alloc | apply pw_below_drewN | apply below_drew1 | refine below_set ?_ GE101.out | refine below_set ?_ GE116.out) | exact HB.out)⟩⟩
                                · rw [if_neg c59] at H
                                  have c59b0 : (((rd_T59 l0_3 (rd x4_1 0)).f0) == 8) = false := beq_eq_false_iff_ne.mpr c59
                                  have c59b1 : (((rd_T59 l0_3 (rd x4_1 0)).f0) != 8) = true := bne_iff_ne.mpr c59
                                  by_cases c62 : ((rd_T59 l0_3 (rd x4_1 0)).f0) = 10
                                  · rw [if_pos c62] at H
                                    have c62b0 : (((rd_T59 l0_3 (rd x4_1 0)).f0) == 10) = true := beq_iff_eq.mpr c62
                                    have c62b1 : (((rd_T59 l0_3 (rd x4_1 0)).f0) != 10) = false := bne_eq_false_iff_eq.mpr c62
                                    clear c62
                                    have H' := Aside0.mk H
                                    clear H
                                    have hnb63 := NB116_101.out
                                    have hnc63 := NB101_116.out
                                    have hcz64_0 : wc.cell? ⟨gb116, 0, none⟩ = some (.int .i64 ((rd_T59 l0_3 (rd x4_1 0)).f0)) := (blk_cell BK116.out 0).trans rfl
                                    have hcz64_1 : wc.cell? ⟨gb116, 1, none⟩ = some (.int .i64 ((rd_T59 l0_3 (rd x4_1 0)).f1)) := (blk_cell BK116.out 1).trans rfl
                                    have hcz64_2 : wc.cell? ⟨gb116, 2, none⟩ = some (.int .i64 ((rd_T59 l0_3 (rd x4_1 0)).f2)) := (blk_cell BK116.out 2).trans rfl
                                    have hcz64_3 : wc.cell? ⟨gb116, 3, none⟩ = some (.int .i64 ((rd_T59 l0_3 (rd x4_1 0)).f3)) := (blk_cell BK116.out 3).trans rfl
                                    have hcz64_4 : wc.cell? ⟨gb116, 4, none⟩ = some (.int .i64 ((rd_T59 l0_3 (rd x4_1 0)).f4)) := (blk_cell BK116.out 4).trans rfl
                                    have hfz64_0 := blk_frozen BK116.out 0
                                    have hfz64_1 := blk_frozen BK116.out 1
                                    have hfz64_2 := blk_frozen BK116.out 2
                                    have hfz64_3 := blk_frozen BK116.out 3
                                    have hfz64_4 := blk_frozen BK116.out 4
                                    go_wp2
                                    (try simp only [← hl3_25])
                                    go_roundg kj25
                                    case measure => have := HK1.out; have := HJ25.out; omega
                                    case rel => exact ⟨(y114), (y110), H', ⟨by have := HK1.out; have := HJ25.out; omega⟩, ⟨by (try simp only [hl3_25]); (with_reducible repeat (first | apply Kd.R_alloc | apply Kd.R_drewN | apply Kd.R_drew)); exact HO_3.out⟩, ⟨by (try simp only [hl3_25]); (with_reducible repeat (first | apply Kd.Q_alloc | apply Kd.Q_drewN | apply Kd.Q_drew)); exact HO_4.out⟩, ⟨by (try simp only [hl3_25]); (with_reducible repeat (first | refine blk_drewN ?_ _ | refine blk_drew ?_ | refine blk_alloc ?_ _)); exact BK101.out⟩, ⟨by repeat (first | (with_reducible first | exact HB.out | apply below_alloc | apply pw_below_drewN | apply below_drew1 | refine below_set ?_ GE101.out | refine below_set ?_ GE116.out) | exact HB.out)⟩⟩
                                  · rw [if_neg c62] at H
                                    have c62b0 : (((rd_T59 l0_3 (rd x4_1 0)).f0) == 10) = false := beq_eq_false_iff_ne.mpr c62
                                    have c62b1 : (((rd_T59 l0_3 (rd x4_1 0)).f0) != 10) = true := bne_iff_ne.mpr c62
                                    by_cases c65 : y110.length < 17592186044416
                                    · rw [if_pos c65] at H
                                      have LMc65 := Aside0.mk c65
                                      clear c65
                                      obtain ⟨y123, hy123⟩ : ∃ y_ : List Int, y_ = (y110 ++ [wrap64 ((rd x4_1 0) + 1)]) := ⟨_, rfl⟩
                                      replace H : (impl_Dead.l0 kj25 y114 y123 l0_0 a0_1 a0_2 l0_3) = some r := by first | (rw [hy123]; with_reducible exact H) | (have H2_ := (Option.bind_some _ _).symm.trans H; rw [hy123]; with_reducible exact H2_) | (have H2_ := (Option.bind_some _ _).symm.trans H; with_reducible exact H2_) | with_reducible exact H | (rw [hy123]; exact H) | exact H
                                      have Ny123 := Aside0.mk hy123
                                      clear hy123
                                      have H' := Aside0.mk H
                                      clear H
                                      have hnb66 := NB116_101.out
                                      have hnc66 := NB101_116.out
                                      have hcz67_0 : wc.cell? ⟨gb116, 0, none⟩ = some (.int .i64 ((rd_T59 l0_3 (rd x4_1 0)).f0)) := (blk_cell BK116.out 0).trans rfl
                                      have hcz67_1 : wc.cell? ⟨gb116, 1, none⟩ = some (.int .i64 ((rd_T59 l0_3 (rd x4_1 0)).f1)) := (blk_cell BK116.out 1).trans rfl
                                      have hcz67_2 : wc.cell? ⟨gb116, 2, none⟩ = some (.int .i64 ((rd_T59 l0_3 (rd x4_1 0)).f2)) := (blk_cell BK116.out 2).trans rfl
                                      have hcz67_3 : wc.cell? ⟨gb116, 3, none⟩ = some (.int .i64 ((rd_T59 l0_3 (rd x4_1 0)).f3)) := (blk_cell BK116.out 3).trans rfl
                                      have hcz67_4 : wc.cell? ⟨gb116, 4, none⟩ = some (.int .i64 ((rd_T59 l0_3 (rd x4_1 0)).f4)) := (blk_cell BK116.out 4).trans rfl
                                      have hfz67_0 := blk_frozen BK116.out 0
                                      have hfz67_1 := blk_frozen BK116.out 1
                                      have hfz67_2 := blk_frozen BK116.out 2
                                      have hfz67_3 := blk_frozen BK116.out 3
                                      have hfz67_4 := blk_frozen BK116.out 4
                                      go_wp2_with (first | ((with_reducible refine gate_builtin (b := .append) (xs := #[.tmp 59, .tmp 62]) rfl ?_); at_builtin; refine Kd.Q_append (Kd.int .i64) (w0 := w) w.heap.size rfl (.tmp 59) (.tmp 62) 25 3 (.int .i64 0) 8 rfl Try.underlying25 info3 rfl (by decide) (by omega) (.slice A28 y110.length c28) y110 (wrap64 ((rd x4_1 0) + 1)) [.int .i64 (wrap64 ((rd x4_1 0) + 1))] (fun _ => True) (fun _ => False) rfl rfl ?aP (fun _ hk => hk.elim) ?aF ?aO ?aB ?aS ?aL ?_; (case aP => exact rfl); (case aB => exact (by repeat (first | (with_reducible first | exact HB.out | apply below_alloc | apply pw_below_drewN | apply below_drew1 | refine below_set ?_ GE101.out | refine below_set ?_ GE116.out) | exact HB.out))); (case aF => exact (fun _ _ => trivial)); (case aO => exact (by (with_reducible repeat (first | apply Kd.Q_alloc | apply Kd.Q_drewN | apply Kd.Q_drew)); exact HO_4.out)); (case aS => exact (below_size (by repeat (first | (with_reducible first | exact HB.out | apply below_alloc | apply pw_below_drewN | apply below_drew1 | refine below_set ?_ GE101.out | refine below_set ?_ GE116.out) | exact HB.out)))); (case aL => have := LMc65.out; omega); intro v124 w68 ho hb hg hat; rw [← Ny123.out] at ho; have n0_ := Aside0.mk (Kd.R_over' (by (with_reducible repeat (first | apply Kd.R_alloc | apply Kd.R_drewN | apply Kd.R_drew)); exact HO_3.out) (Kd.Q_typed (by (with_reducible repeat (first | apply Kd.Q_alloc | apply Kd.Q_drewN | apply Kd.Q_drew)); exact HO_4.out)) (by decide) hg); have n1_ := Aside0.mk (blk_grown (g := gb101) (o := .cells #[.slice A0_0 l0_0.length c0_0, .int .i64 a0_1, .int .i64 a0_2, .slice (some ad115) l0_3.length c0_3] 33 (0, 0)) (by (with_reducible repeat (first | refine blk_drewN ?_ _ | refine blk_drew ?_ | refine blk_alloc ?_ _)); exact BK101.out) hg (Kd.Q_ne HO_4.out BK101.out (by decide))); have n2_ := Aside0.mk (blk_grown (g := gb116) (o := .cells #[.int .i64 ((rd_T59 l0_3 (rd x4_1 0)).f0), .int .i64 ((rd_T59 l0_3 (rd x4_1 0)).f1), .int .i64 ((rd_T59 l0_3 (rd x4_1 0)).f2), .int .i64 ((rd_T59 l0_3 (rd x4_1 0)).f3), .int .i64 ((rd_T59 l0_3 (rd x4_1 0)).f4)] 59 (0, 0)) (by (with_reducible repeat (first | refine blk_drewN ?_ _ | refine blk_drew ?_ | refine blk_alloc ?_ _)); exact BK116.out) hg (Kd.Q_ne HO_4.out BK116.out (by decide))); have n3_ := Aside0.mk (hb); have n4_ := Aside0.mk (ho); clear HO_3; clear BK101; clear BK116; clear HB; clear HO_4; have HO_3 := n0_; have BK101 := n1_; have BK116 := n2_; have HB := n3_; have HO125 := n4_; clear n0_ n1_ n2_ n3_ n4_; clear ho hb hg hat))
                                      (try simp only [← hl3_25])
                                      go_roundg kj25
                                      case measure => have := HK1.out; have := HJ25.out; omega
                                      case rel => exact ⟨(y114), (y123), H', ⟨by have := HK1.out; have := HJ25.out; omega⟩, ⟨by (try simp only [hl3_25]); (with_reducible repeat (first | apply Kd.R_alloc | apply Kd.R_drewN | apply Kd.R_drew)); exact HO_3.out⟩, ⟨by (try simp only [hl3_25]); (with_reducible repeat (first | apply Kd.Q_alloc | apply Kd.Q_drewN | apply Kd.Q_drew)); exact HO125.out⟩, ⟨by (try simp only [hl3_25]); (with_reducible repeat (first | refine blk_drewN ?_ _ | refine blk_drew ?_ | refine blk_alloc ?_ _)); exact BK101.out⟩, ⟨by repeat (first | (with_reducible first | exact HB.out | apply below_alloc | apply pw_below_drewN | apply below_drew1 | refine below_set ?_ GE101.out | refine below_set ?_ GE116.out) | exact HB.out)⟩⟩
                                    · rw [if_neg c65] at H
                                      exact absurd H (by simp)
                        · rw [if_neg c25] at H
                          exact absurd H (by simp)
                    · rw [if_neg c18] at H
                      exact absurd H (by simp)
                  · rw [if_neg c17] at H
                    exact absurd H (by simp)
                · rw [if_neg c16] at H
                  exact absurd H (by simp)
              · rw [if_neg c15] at H
                exact absurd H (by simp)
            · rw [if_neg c14] at H
              have c14b0 : decide (0 < (x4_1.length : Int)) = false := decide_eq_false c14
              have c14b1 : decide (0 < x4_1.length) = false := decide_eq_false (by omega)
              clear c14
              obtain ⟨y126, hy126⟩ : ∃ y_ : List Int, y_ = (([] : List Int)) := ⟨_, rfl⟩
              replace H : (impl_Dead.l1 k1 y126 x3_1 (x3_1.length : Int) 0) = some r := by first | (rw [hy126]; with_reducible exact H) | (have H2_ := (Option.bind_some _ _).symm.trans H; rw [hy126]; with_reducible exact H2_) | (have H2_ := (Option.bind_some _ _).symm.trans H; with_reducible exact H2_) | with_reducible exact H | (rw [hy126]; exact H) | exact H
              have Ny126 := Aside0.mk hy126
              clear hy126
              have H' := Aside0.mk H
              clear H
              obtain ⟨Ao69, co69, eo69, _⟩ := Kd.Q_slice HO_4.out
              subst eo69
              go_wp2_with (first | ((with_reducible refine gate_dst (N := 64) rfl ?_); refine Kd.R_lit (Kd.int .i64) _ 3 ?hg (N := 64) ?hd (xs := ([] : List Int)) (inner := []) (ok := fun _ => True) (okp := fun _ => True) ?hr ?hp (fun _ hk => hk) trivial (Below.refl _ _) (Nat.le_refl _) (by simp) ?_; (case hd => rfl); (case hg => rfl); (case hr => first | (go_simp; done) | (go_simp; rfl)); (case hp => exact (Reps.none _ _)); intro v127 w70 ho71 hb hg_ hnew_; clear hg_ hnew_; (first | rw [← Ny126.out] at ho71 | (simp only [Int.reduceToNat] at ho71; rw [← Ny126.out] at ho71)); have n0_ := Aside0.mk (Kd.R_below (by (with_reducible repeat (first | apply Kd.R_alloc | apply Kd.R_drewN | apply Kd.R_drew)); exact HO_3.out) hb); have n1_ := Aside0.mk (Kd.Q_elder' (by (with_reducible repeat (first | apply Kd.Q_alloc | apply Kd.Q_drewN | apply Kd.Q_drew)); exact HO_4.out) (Kd.R_base ho71) hb); have n2_ := Aside0.mk (Kd.R_lower (Kd.R_new' ho71 (Kd.Q_lt (by (with_reducible repeat (first | apply Kd.Q_alloc | apply Kd.Q_drewN | apply Kd.Q_drew)); exact HO_4.out))) (below_size (by repeat (first | (with_reducible first | exact HB.out | apply below_alloc | apply pw_below_drewN | apply below_drew1 | refine below_set ?_ GE101.out) | exact HB.out)))); have n3_ := Aside0.mk (blk_below (g := gb101) (o := .cells #[.slice A0_0 l0_0.length c0_0, .int .i64 a0_1, .int .i64 a0_2, .slice A0_3 l0_3.length c0_3] 33 (0, 0)) (by (with_reducible repeat (first | refine blk_drewN ?_ _ | refine blk_drew ?_ | refine blk_alloc ?_ _)); exact BK101.out) hb); have n4_ := Aside0.mk (below_step (by repeat (first | (with_reducible first | exact HB.out | apply below_alloc | apply pw_below_drewN | apply below_drew1 | refine below_set ?_ GE101.out) | exact HB.out)) hb); clear HO_3; clear HO_4; clear BK101; clear HB; have HO_3 := n0_; have HO_4 := n1_; have HO128 := n2_; have BK101 := n3_; have HB := n4_; clear n0_ n1_ n2_ n3_ n4_; clear hb ho71; obtain ⟨Ao72, co72, eo72⟩ := Kd.R_slice HO_3.out; subst eo72))
              go_loopg [7, 67] k1 (fun kq v7 v67 w' => ∃ (x7_2 : List Int) (x67_2 : Int), v67 = .int .i64 x67_2 ∧ Aside0 (impl_Dead.l1 kq x7_2 x3_1 (x3_1.length : Int) x67_2 = some r) ∧ Aside0 (kq ≤ k1) ∧ Aside0 (Kd.R (Kd.int .i64) 3 w' w.heap.size (fun _ => True) v7 x7_2) ∧ Aside0 (Kd.R Kd.bool 4 w' w.heap.size (fun _ => True) (.slice Ao72 x3_1.length co72) x3_1) ∧ Aside0 (w'.heap[gb101]? = some (.cells #[(.slice A0_0 l0_0.length c0_0), .int .i64 a0_1, .int .i64 a0_2, (.slice A0_3 l0_3.length c0_3)] 33 (0, 0))) ∧ Aside0 (Below w.heap.size w w'))
              case atStart => exact ⟨(y126), (0), (by first | rfl | (simp; done) | (simp [*]; done)), H', ⟨Nat.le_refl _⟩, ⟨by (with_reducible repeat (first | apply Kd.R_alloc | apply Kd.R_drewN | apply Kd.R_drew)); exact Kd.R_mono HO128.out (fun _ hk => trivial)⟩, ⟨by (with_reducible repeat (first | apply Kd.R_alloc | apply Kd.R_drewN | apply Kd.R_drew)); exact HO_3.out⟩, ⟨by (with_reducible repeat (first | refine blk_drewN ?_ _ | refine blk_drew ?_ | refine blk_alloc ?_ _)); exact BK101.out⟩, ⟨by repeat (first | (with_reducible first | exact HB.out | apply below_alloc | apply pw_below_drewN | apply below_drew1 | refine below_set ?_ GE101.out) | exact HB.out)⟩⟩
              case round =>
                clear H'
                try clear c1
                try clear p1
                try clear q1
                try clear hx1
                try clear qi1
                try clear c2
                try clear p2
                try clear q2
                try clear hx2
                try clear hf2
                try clear c3
                try clear c4
                try clear c4b0
                try clear c4b1
                try clear c5
                try clear c5b0
                try clear c5b1
                try clear c6
                try clear p6
                try clear p10
                try clear q10
                try clear hx10
                try clear qi10
                try clear p11
                try clear q11
                try clear hx11
                try clear c14
                try clear c14b0
                try clear c14b1
                try clear c15
                try clear c15b0
                try clear c15b1
                try clear c16
                try clear c16b0
                try clear c16b1
                try clear c17
                try clear c17b0
                try clear c18
                try clear c18b0
                try clear q19
                try clear c20
                try clear c22
                try clear q22
                try clear p24
                try clear q24
                try clear hx24
                try clear hf24
                try clear c25
                try clear c25b0
                try clear c28
                try clear q28
                try clear c30
                try clear c34
                try clear c36
                try clear c36b0
                try clear c36b1
                try clear c37
                try clear c39
                try clear c41
                try clear c42
                try clear c43
                try clear c43b0
                try clear c43b1
                try clear c44
                try clear c48
                try clear c48b0
                try clear c48b1
                try clear c49
                try clear c52
                try clear c53
                try clear c54
                try clear c59
                try clear c59b0
                try clear c59b1
                try clear c60
                try clear c62
                try clear c62b0
                try clear c62b1
                try clear c63
                try clear p64
                try clear c65
                try clear c66
                try clear hcz32_0
                try clear hcz32_1
                try clear hcz32_2
                try clear hcz32_3
                try clear hcz35_0
                try clear hcz35_1
                try clear hcz35_2
                try clear hcz35_3
                try clear hcz35_4
                try clear hcz38_0
                try clear hcz38_1
                try clear hcz38_2
                try clear hcz38_3
                try clear hcz38_4
                try clear hcz40_0
                try clear hcz40_1
                try clear hcz40_2
                try clear hcz40_3
                try clear hcz40_4
                try clear hcz45_0
                try clear hcz45_1
                try clear hcz45_2
                try clear hcz45_3
                try clear hcz45_4
                try clear hcz47_0
                try clear hcz47_1
                try clear hcz47_2
                try clear hcz47_3
                try clear hcz47_4
                try clear hcz50_0
                try clear hcz50_1
                try clear hcz50_2
                try clear hcz50_3
                try clear hcz50_4
                try clear hcz52_0
                try clear hcz52_1
                try clear hcz52_2
                try clear hcz52_3
                try clear hcz52_4
                try clear hcz55_0
                try clear hcz55_1
                try clear hcz55_2
                try clear hcz55_3
                try clear hcz55_4
                try clear hcz57_0
                try clear hcz57_1
                try clear hcz57_2
                try clear hcz57_3
                try clear hcz57_4
                try clear hcz61_0
                try clear hcz61_1
                try clear hcz61_2
                try clear hcz61_3
                try clear hcz61_4
                try clear hcz64_0
                try clear hcz64_1
                try clear hcz64_2
                try clear hcz64_3
                try clear hcz64_4
                try clear hcz67_0
                try clear hcz67_1
                try clear hcz67_2
                try clear hcz67_3
                try clear hcz67_4
                try clear hcz7_0
                try clear hcz7_1
                try clear hcz7_2
                try clear hcz7_3
                try clear hcz9_0
                try clear hcz9_1
                try clear hcz9_2
                try clear hcz9_3
                try clear hfz32_0
                try clear hfz32_1
                try clear hfz32_2
                try clear hfz32_3
                try clear hfz35_0
                try clear hfz35_1
                try clear hfz35_2
                try clear hfz35_3
                try clear hfz35_4
                try clear hfz38_0
                try clear hfz38_1
                try clear hfz38_2
                try clear hfz38_3
                try clear hfz38_4
                try clear hfz40_0
                try clear hfz40_1
                try clear hfz40_2
                try clear hfz40_3
                try clear hfz40_4
                try clear hfz45_0
                try clear hfz45_1
                try clear hfz45_2
                try clear hfz45_3
                try clear hfz45_4
                try clear hfz47_0
                try clear hfz47_1
                try clear hfz47_2
                try clear hfz47_3
                try clear hfz47_4
                try clear hfz50_0
                try clear hfz50_1
                try clear hfz50_2
                try clear hfz50_3
                try clear hfz50_4
                try clear hfz52_0
                try clear hfz52_1
                try clear hfz52_2
                try clear hfz52_3
                try clear hfz52_4
                try clear hfz55_0
                try clear hfz55_1
                try clear hfz55_2
                try clear hfz55_3
                try clear hfz55_4
                try clear hfz57_0
                try clear hfz57_1
                try clear hfz57_2
                try clear hfz57_3
                try clear hfz57_4
                try clear hfz61_0
                try clear hfz61_1
                try clear hfz61_2
                try clear hfz61_3
                try clear hfz61_4
                try clear hfz64_0
                try clear hfz64_1
                try clear hfz64_2
                try clear hfz64_3
                try clear hfz64_4
                try clear hfz67_0
                try clear hfz67_1
                try clear hfz67_2
                try clear hfz67_3
                try clear hfz67_4
                try clear hfz7_0
                try clear hfz7_1
                try clear hfz7_2
                try clear hfz7_3
                try clear hfz9_0
                try clear hfz9_1
                try clear hfz9_2
                try clear hfz9_3
                try clear hx109_0
                try clear hx113_0
                try clear hx115_0
                try clear hx115_1
                try clear hx115_2
                try clear hx115_3
                try clear hx115_4
                try clear hx24_0
                try clear p1
                try clear p10
                try clear p109
                try clear p11
                try clear p113
                try clear p115
                try clear p2
                try clear p24
                try clear q1
                try clear q10
                try clear q109
                try clear q11
                try clear q113
                try clear q115
                try clear q19
                try clear q2
                try clear q22
                try clear q24
                try clear q28
                (try clear HA)
                (try clear HK2)
                (try clear HO_7)
                (try clear HO_65)
                (try clear BK101)
                (try clear HB)
                obtain ⟨x7_2, x67_2, rfl, HA, HK2, HO_7, HO_65, BK101, HB⟩ := hrel
                cases gk with
                | zero => exact absurd HA.out (by simp [impl_Dead.l1])
                | succ k2 =>
                  have H := HA.out
                  clear HA
                  simp only [impl_Dead.l1] at H
                  by_cases c73 : x67_2 < (x3_1.length : Int)
                  · rw [if_pos c73] at H
                    have c73b0 : decide (x67_2 < (x3_1.length : Int)) = true := decide_eq_true c73
                    clear c73
                    by_cases c74 : 0 ≤ x67_2
                    · rw [if_pos c74] at H
                      have c74b0 : decide (0 ≤ x67_2) = true := decide_eq_true c74
                      clear c74
                      by_cases c75 : x67_2 < (x3_1.length : Int)
                      · rw [if_pos c75] at H
                        have c75b0 : decide (x67_2 < (x3_1.length : Int)) = true := decide_eq_true c75
                        clear c75
                        obtain ⟨bq76, hbq76⟩ : ∃ b_ : Bool, b_ = (rdOf false x3_1 x67_2) := ⟨_, rfl⟩
                        replace H : (if bq76 = true then (impl_Dead.l1 k2 x7_2 x3_1 (x3_1.length : Int) (wrap64 (x67_2 + 1))) else (if x7_2.length < 17592186044416 then (impl_Dead.l1 k2 (x7_2 ++ [x67_2]) x3_1 (x3_1.length : Int) (wrap64 (x67_2 + 1))) else (none))) = some r := by rw [← hbq76] at H; exact H
                        have Nbq76 := Aside0.mk hbq76
                        clear hbq76
                        by_cases c77 : bq76 = true
                        · subst c77
                          have H1 : (impl_Dead.l1 k2 x7_2 x3_1 (x3_1.length : Int) (wrap64 (x67_2 + 1))) = some r := by rw [if_pos rfl] at H; exact H
                          clear H
                          have H := H1
                          clear H1
                          have H' := Aside0.mk H
                          clear H
                          have p129 : 0 ≤ (x67_2 : Int) := of_decide_eq_true (by first | (with_reducible assumption) | assumption)
                          have q129 : x67_2 < (x3_1.length : Int) := of_decide_eq_true (by first | (with_reducible assumption) | assumption)
                          obtain ⟨ad129, e129, hx129_0⟩ := Kd.at_bool (Kd.R_reads' HO_65.out).2.2 x67_2 p129 q129
                          (try rw [← Nbq76.out] at hx129_0)
                          cases e129
                          replace p129 := eq_true p129
                          replace q129 := eq_true q129
                          go_wp2
                          go_roundg k2
                          case measure => have := HK1.out; have := HK2.out; omega
                          case rel => exact ⟨(x7_2), (wrap64 (x67_2 + 1)), (by first | rfl | (simp; done) | (simp [*]; done)), H', ⟨by have := HK1.out; have := HK2.out; omega⟩, ⟨by (with_reducible repeat (first | apply Kd.R_alloc | apply Kd.R_drewN | apply Kd.R_drew)); exact HO_7.out⟩, ⟨by (with_reducible repeat (first | apply Kd.R_alloc | apply Kd.R_drewN | apply Kd.R_drew)); exact HO_65.out⟩, ⟨by (with_reducible repeat (first | refine blk_drewN ?_ _ | refine blk_drew ?_ | refine blk_alloc ?_ _)); exact BK101.out⟩, ⟨by repeat (first | (with_reducible first | exact HB.out | apply below_alloc | apply pw_below_drewN | apply below_drew1 | refine below_set ?_ GE101.out) | exact HB.out)⟩⟩
                        · replace c77 := Bool.eq_false_iff.mpr c77
                          subst c77
                          have H1 : (if x7_2.length < 17592186044416 then (impl_Dead.l1 k2 (x7_2 ++ [x67_2]) x3_1 (x3_1.length : Int) (wrap64 (x67_2 + 1))) else (none)) = some r := by rw [if_neg (show ¬ (false = true) by decide)] at H; exact H
                          clear H
                          have H := H1
                          clear H1
                          by_cases c78 : x7_2.length < 17592186044416
                          · rw [if_pos c78] at H
                            have LMc78 := Aside0.mk c78
                            clear c78
                            obtain ⟨y130, hy130⟩ : ∃ y_ : List Int, y_ = (x7_2 ++ [x67_2]) := ⟨_, rfl⟩
                            replace H : (impl_Dead.l1 k2 y130 x3_1 (x3_1.length : Int) (wrap64 (x67_2 + 1))) = some r := by first | (rw [hy130]; with_reducible exact H) | (have H2_ := (Option.bind_some _ _).symm.trans H; rw [hy130]; with_reducible exact H2_) | (have H2_ := (Option.bind_some _ _).symm.trans H; with_reducible exact H2_) | with_reducible exact H | (rw [hy130]; exact H) | exact H
                            have Ny130 := Aside0.mk hy130
                            clear hy130
                            have H' := Aside0.mk H
                            clear H
                            have p129 : 0 ≤ (x67_2 : Int) := of_decide_eq_true (by first | (with_reducible assumption) | assumption)
                            have q129 : x67_2 < (x3_1.length : Int) := of_decide_eq_true (by first | (with_reducible assumption) | assumption)
                            obtain ⟨ad129, e129, hx129_0⟩ := Kd.at_bool (Kd.R_reads' HO_65.out).2.2 x67_2 p129 q129
                            (try rw [← Nbq76.out] at hx129_0)
                            cases e129
                            replace p129 := eq_true p129
                            replace q129 := eq_true q129
                            go_wp2_with (first | ((with_reducible refine gate_builtin (b := .append) (xs := #[.tmp 74, .tmp 76]) rfl ?_); at_builtin; refine Kd.R_append (Kd.int .i64) (w0 := w) w.heap.size rfl (.tmp 74) (.tmp 76) 25 3 (.int .i64 0) 8 rfl Try.underlying25 info3 rfl (by decide) (by omega) u7 x7_2 x67_2 [.int .i64 x67_2] (fun _ => True) (fun _ => False) rfl rfl ?aP (fun _ hk => hk.elim) ?aF ?aO ?aB ?aS ?aL ?_; (case aP => exact rfl); (case aB => exact (by repeat (first | (with_reducible first | exact HB.out | apply below_alloc | apply pw_below_drewN | apply below_drew1 | refine below_set ?_ GE101.out) | exact HB.out))); (case aF => exact (fun _ _ => trivial)); (case aO => exact (by (with_reducible repeat (first | apply Kd.R_alloc | apply Kd.R_drewN | apply Kd.R_drew)); exact HO_7.out)); (case aS => exact (below_size (by repeat (first | (with_reducible first | exact HB.out | apply below_alloc | apply pw_below_drewN | apply below_drew1 | refine below_set ?_ GE101.out) | exact HB.out)))); (case aL => have := LMc78.out; omega); intro v131 w79 ho hb hg hat; rw [← Ny130.out] at ho; have n0_ := Aside0.mk (Kd.R_over' (by (with_reducible repeat (first | apply Kd.R_alloc | apply Kd.R_drewN | apply Kd.R_drew)); exact HO_65.out) (Kd.R_typed (by (with_reducible repeat (first | apply Kd.R_alloc | apply Kd.R_drewN | apply Kd.R_drew)); exact HO_7.out)) (by decide) hg); have n1_ := Aside0.mk (blk_grown (g := gb101) (o := .cells #[.slice A0_0 l0_0.length c0_0, .int .i64 a0_1, .int .i64 a0_2, .slice A0_3 l0_3.length c0_3] 33 (0, 0)) (by (with_reducible repeat (first | refine blk_drewN ?_ _ | refine blk_drew ?_ | refine blk_alloc ?_ _)); exact BK101.out) hg (Kd.R_ne HO_7.out BK101.out (by decide))); have n2_ := Aside0.mk (hb); have n3_ := Aside0.mk (ho); clear HO_65; clear BK101; clear HB; clear HO_7; have HO_65 := n0_; have BK101 := n1_; have HB := n2_; have HO132 := n3_; clear n0_ n1_ n2_ n3_; clear ho hb hg hat))
                            go_roundg k2
                            case measure => have := HK1.out; have := HK2.out; omega
                            case rel => exact ⟨(y130), (wrap64 (x67_2 + 1)), (by first | rfl | (simp; done) | (simp [*]; done)), H', ⟨by have := HK1.out; have := HK2.out; omega⟩, ⟨by (with_reducible repeat (first | apply Kd.R_alloc | apply Kd.R_drewN | apply Kd.R_drew)); exact HO132.out⟩, ⟨by (with_reducible repeat (first | apply Kd.R_alloc | apply Kd.R_drewN | apply Kd.R_drew)); exact HO_65.out⟩, ⟨by (with_reducible repeat (first | refine blk_drewN ?_ _ | refine blk_drew ?_ | refine blk_alloc ?_ _)); exact BK101.out⟩, ⟨by repeat (first | (with_reducible first | exact HB.out | apply below_alloc | apply pw_below_drewN | apply below_drew1 | refine below_set ?_ GE101.out) | exact HB.out)⟩⟩
                          · rw [if_neg c78] at H
                            exact absurd H (by simp)
                      · rw [if_neg c75] at H
                        exact absurd H (by simp)
                    · rw [if_neg c74] at H
                      exact absurd H (by simp)
                  · rw [if_neg c73] at H
                    have c73b0 : decide (x67_2 < (x3_1.length : Int)) = false := decide_eq_false c73
                    clear c73
                    obtain rfl := Option.some.inj H
                    go_wp2
                    go_ret
                    exact ⟨_, by first | rfl | (simp [errW_none, errW_some] <;> rfl) | (simp [*, errW_none, errW_some] <;> rfl), by (with_reducible repeat (first | apply Kd.R_alloc | apply Kd.R_drewN | apply Kd.R_drew)); exact HO_7.out, by repeat (first | (with_reducible first | exact HB.out | apply below_alloc | apply pw_below_drewN | apply below_drew1 | refine below_set ?_ GE101.out) | exact HB.out)⟩
      · rw [if_neg c5] at H
        exact absurd H (by simp)
    · rw [if_neg c4] at H
      exact absurd H (by simp)
  · replace c3 := Bool.eq_false_iff.mpr c3
    subst c3
    have H1 : (some ([] : List Int)) = some r := by rw [if_neg (show ¬ (false = true) by decide)] at H; exact H
    clear H
    have H := H1
    clear H1
    obtain rfl := Option.some.inj H
    go_enter Try.func30, Try.ntmps30
    go_wp2_with (first | ((with_reducible refine gate_dst (N := 1) rfl ?_); refine box_event ?hg (N := 1) ?hd (cs := #[.slice A0_0 l0_0.length c0_0, .int .i64 a0_1, .int .i64 a0_2, .slice A0_3 l0_3.length c0_3]) (t := 33) ?hr ?_; (case hd => rfl); (case hg => rfl); (case hr => first | (go_simp; done) | (go_simp; rfl)); intro gb101 hg w80 hbox hb; have n0_ := Aside0.mk (below_step (by repeat (first | (with_reducible first | exact HB.out | apply below_alloc | apply pw_below_drewN | apply below_drew1) | exact HB.out)) hb); have n1_ := Aside0.mk (hbox); have n2_ := Aside0.mk ((by rw [hg]; exact (below_size (by repeat (first | (with_reducible first | exact HB.out | apply below_alloc | apply pw_below_drewN | apply below_drew1) | exact HB.out))) : w.heap.size ≤ gb101)); have n3_ := Aside0.mk ((by rw [hg]; exact (below_size (by repeat (first | (with_reducible first | exact HB.out | apply below_alloc | apply pw_below_drewN | apply below_drew1) | exact HB.out))) : w.heap.size ≤ gb101)); clear HB; have HB := n0_; have BK101 := n1_; have GW101 := n2_; have GE101 := n3_; clear n0_ n1_ n2_ n3_; clear hb hbox hg; have hcz81_0 : w80.cell? ⟨gb101, 0, none⟩ = some (.slice A0_0 l0_0.length c0_0) := (blk_cell BK101.out 0).trans rfl; have hcz81_1 : w80.cell? ⟨gb101, 1, none⟩ = some (.int .i64 a0_1) := (blk_cell BK101.out 1).trans rfl; have hcz81_2 : w80.cell? ⟨gb101, 2, none⟩ = some (.int .i64 a0_2) := (blk_cell BK101.out 2).trans rfl; have hcz81_3 : w80.cell? ⟨gb101, 3, none⟩ = some (.slice A0_3 l0_3.length c0_3) := (blk_cell BK101.out 3).trans rfl; have hfz81_0 := blk_frozen BK101.out 0; have hfz81_1 := blk_frozen BK101.out 1; have hfz81_2 := blk_frozen BK101.out 2; have hfz81_3 := blk_frozen BK101.out 3) | ((with_reducible refine gate_callee (f := 52) rfl ?_); refine goesL_ (some 11) rfl rfl Try.func52 (by kernel_rfl) rfl #[.agg #[.slice A0_0 l0_0.length c0_0, .int .i64 a0_1, .int .i64 a0_2, .slice A0_3 l0_3.length c0_3]] rfl (by (try simp only [List.map_toArray, List.map_cons, List.map_nil]); first | done | rfl | (simp only [List.length_drop, List.length_take]; rfl)) ?_; (with_reducible refine (impl_isImage.calls _ _ l0_0 a0_1 a0_2 _ _ l0_3 false _ ?side1 ?side2 ?side3 ?side4 A2.out).mono ?_); (case side1 => repeat (first | exact (Kd.C_below HR0_0.out HB.out) | (with_reducible refine Kd.C_alloc ?_ _) | (with_reducible refine Kd.C_drewN ?_ _) | (with_reducible refine Kd.C_drew ?_))); (case side2 => exact HC0_0.out); (case side3 => repeat (first | exact (Kd.C_below HR0_3.out HB.out) | (with_reducible refine Kd.C_alloc ?_ _) | (with_reducible refine Kd.C_drewN ?_ _) | (with_reducible refine Kd.C_drew ?_))); (case side4 => exact HC0_3.out); rintro e w82 ⟨rfl, hb⟩; refine ⟨_, rfl, ?_⟩; have n0_ := Aside0.mk (blk_below (g := gb101) (o := .cells #[.slice A0_0 l0_0.length c0_0, .int .i64 a0_1, .int .i64 a0_2, .slice A0_3 l0_3.length c0_3] 33 (0, 0)) (by (with_reducible repeat (first | refine blk_drewN ?_ _ | refine blk_drew ?_ | refine blk_alloc ?_ _)); exact BK101.out) hb); have n1_ := Aside0.mk (below_step (by repeat (first | (with_reducible first | exact HB.out | apply below_alloc | apply pw_below_drewN | apply below_drew1 | refine below_set ?_ GE101.out) | exact HB.out)) hb); clear BK101; clear HB; have BK101 := n0_; have HB := n1_; clear n0_ n1_; (try clear hb); (try clear hb2); (try clear hk); (try clear hi)))
    go_ret
    exact ⟨_, by first | rfl | (simp [errW_none, errW_some] <;> rfl) | (simp [*, errW_none, errW_some] <;> rfl), by first | exact Kd.R_nil _ _ _ _ _ | exact Kd.N_nil _ _ _ _ _ | exact Kd.V_nil _ _ _ _ _ | exact Kd.Q_nil _ _ _ _ _ | exact Kd.S_nil _ _ _ _ _, by repeat (first | (with_reducible first | exact HB.out | apply below_alloc | apply pw_below_drewN | apply below_drew1 | refine below_set ?_ GE101.out) | exact HB.out)⟩

end Go.Proofs.Ytnbaojaocagjcaa.P
end
section
-- Written for this claim by gp.py over the kit's print; not trusted: Lean checks it.

namespace Go.Proofs.Ytnbaojaocagjcaa.P
open Go.RowKit Go.Proofs.YtnbaojaocagjcaaW.PrintWords Go.Proofs.YtnbaojaocagjcaaW.PrintLast Go.Proofs.YtnbaojaocagjcaaW.PrintMore
attribute [local go_sem] max2_int min2_int max_two min_two max_three min_three max_four min_four
set_option linter.unusedVariables false
set_option linter.unusedSimpArgs false

/-! ### laws_markIntS: function 33 -/
def laws_markIntS.l0 : Nat → List Int → Int → Int → Option (Int × List Int)
  | 0, _, _, _ => none
  | k + 1, x0, x1, x5 => if x5 < (x0.length : Int) then (if 0 ≤ x5 then (laws_markIntS.l0 k (x0.set (x5 : Int).toNat x1) (wrap64 (x1 + 1)) (wrap64 (x5 + 1))) else (none)) else (some (x1, x0))
def laws_markIntS.f (k : Nat) (l0 : List Int) (a1 : Int) : Option (Int × List Int) := laws_markIntS.l0 k l0 a1 0
theorem laws_markIntS.mono_l : ∀ k, (∀ y0 y1 y2, LeO (laws_markIntS.l0 k y0 y1 y2) (laws_markIntS.l0 (k + 1) y0 y1 y2))
  | 0 => fun _ _ _ r h => by simp [laws_markIntS.l0] at h
  | k + 1 => by
    have ih0 := laws_markIntS.mono_l k
    · intro y0 y1 y2
      unfold laws_markIntS.l0
      repeat' first
      | (with_reducible exact ih0 _ _ _)
      | (with_reducible exact LeO.refl _)
      | (with_reducible exact LeO.none _)
      | (with_reducible refine LeO.ite ?_ ?_)
      | (with_reducible refine LeO.bind ?_ (fun _ => ?_))
      | exact ih0 _ _ _
      | exact LeO.none _
      | refine LeO.ite ?_ ?_
      | refine LeO.bind ?_ (fun _ => ?_)
theorem laws_markIntS.mono : ∀ a0 a1 k, LeO (laws_markIntS.f k a0 a1) (laws_markIntS.f (k + 1) a0 a1) := by
  intro a0 a1 k
  have ih0 := laws_markIntS.mono_l k
  unfold laws_markIntS.f
  repeat' first
      | (with_reducible exact ih0 _ _ _)
      | (with_reducible exact LeO.refl _)
      | (with_reducible exact LeO.none _)
      | (with_reducible refine LeO.ite ?_ ?_)
      | (with_reducible refine LeO.bind ?_ (fun _ => ?_))
      | exact ih0 _ _ _
      | exact LeO.none _
      | refine LeO.ite ?_ ?_
      | refine LeO.bind ?_ (fun _ => ?_)
set_option maxHeartbeats 8000000 in
set_option maxRecDepth 100000 in
theorem laws_markIntS.calls (k : Nat) (P0_ : Nat → Prop) (u9000_ : Value) (l0 : List Int) (a1 : Int) (r1 : Int) (r2 : List Int) (w0 w : World) (hB : Below w0.heap.size w0 w) (ho0 : Kd.R (Kd.int .i64) 3 w w0.heap.size P0_ u9000_ l0) (h : laws_markIntS.f k l0 a1 = some (r1, r2)) :
    Calls Try.prog 33 #[u9000_, .int .i64 a1] w fun e w' => e = .returned (.int .i64 r1) ∧ Kd.R (Kd.int .i64) 3 w' w0.heap.size (fun k_ => (P0_ k_ ∨ w.heap.size ≤ k_)) u9000_ r2 ∧ Below w0.heap.size w0 w' ∧ Kept w w' (fun k_ => P0_ k_) := by
  have HO0 := Aside0.mk (show Kd.R (Kd.int .i64) 3 w w0.heap.size (fun k_ => (P0_ k_ ∨ w.heap.size ≤ k_)) u9000_ l0 from Kd.R_mono ho0 (fun k_ hk => (.inl hk)))
  have HK := Aside0.mk (Kept.refl w (fun k_ => P0_ k_))
  have HW0 := Aside0.mk hB.size
  have HB := Aside0.mk hB
  clear hB
  have H : (laws_markIntS.l0 k l0 a1 0) = some (r1, r2) := h
  clear h
  have H' := Aside0.mk H
  clear H
  go_enter Try.func33, Try.ntmps33
  go_wp2
  go_loopg [1, 5] k (fun kq v1 v5 w' => ∃ (x0_1 : List Int) (x1_1 : Int) (x5_1 : Int), v1 = .int .i64 x1_1 ∧ v5 = .int .i64 x5_1 ∧ Aside0 (laws_markIntS.l0 kq x0_1 x1_1 x5_1 = some (r1, r2)) ∧ Aside0 (kq ≤ k) ∧ Aside0 (Kd.R (Kd.int .i64) 3 w' w0.heap.size (fun k_ => (P0_ k_ ∨ w.heap.size ≤ k_)) u9000_ x0_1) ∧ Aside0 (Kept w w' (fun k_ => P0_ k_)) ∧ Aside0 (Below w0.heap.size w0 w'))
  case atStart => exact ⟨(l0), (a1), (0), (by first | rfl | (simp; done) | (simp [*]; done)), (by first | rfl | (simp; done) | (simp [*]; done)), H', ⟨Nat.le_refl _⟩, ⟨by (with_reducible repeat (first | apply Kd.R_alloc | apply Kd.R_drewN | apply Kd.R_drew)); exact HO0.out⟩, ⟨by repeat (first | (with_reducible first | exact HK.out | apply Kept.alloc | apply Kept.drewN | apply Kept.drew) | exact HK.out)⟩, ⟨by repeat (first | (with_reducible first | exact HB.out | apply below_alloc | apply pw_below_drewN | apply below_drew1) | exact HB.out)⟩⟩
  case round =>
    clear H'
    try clear p2
    (try clear HA)
    (try clear HK1)
    (try clear HO_0)
    (try clear HK)
    (try clear HB)
    obtain ⟨x0_1, x1_1, x5_1, rfl, rfl, HA, HK1, HO_0, HK, HB⟩ := hrel
    cases gk with
    | zero => exact absurd HA.out (by simp [laws_markIntS.l0])
    | succ k1 =>
      have H := HA.out
      clear HA
      simp only [laws_markIntS.l0] at H
      by_cases c3 : x5_1 < (x0_1.length : Int)
      · rw [if_pos c3] at H
        have c3b0 : decide (x5_1 < (x0_1.length : Int)) = true := decide_eq_true c3
        clear c3
        by_cases c4 : 0 ≤ x5_1
        · rw [if_pos c4] at H
          have c4b0 : decide (0 ≤ x5_1) = true := decide_eq_true c4
          clear c4
          obtain ⟨y101, hy101⟩ : ∃ y_ : List Int, y_ = (x0_1.set (x5_1 : Int).toNat x1_1) := ⟨_, rfl⟩
          replace H : (laws_markIntS.l0 k1 y101 (wrap64 (x1_1 + 1)) (wrap64 (x5_1 + 1))) = some (r1, r2) := by first | (rw [hy101]; with_reducible exact H) | (have H2_ := (Option.bind_some _ _).symm.trans H; rw [hy101]; with_reducible exact H2_) | (have H2_ := (Option.bind_some _ _).symm.trans H; with_reducible exact H2_) | with_reducible exact H | (rw [hy101]; exact H) | exact H
          have Ny101 := Aside0.mk hy101
          clear hy101
          have H' := Aside0.mk H
          clear H
          obtain ⟨Ao6, co6, eo6⟩ := Kd.R_slice HO_0.out
          subst eo6
          have p5 : 0 ≤ (x5_1 : Int) := of_decide_eq_true (by first | (with_reducible assumption) | assumption)
          have q5 : (x5_1 : Int) < ((x0_1.length : Int) : Int) := of_decide_eq_true (by first | (with_reducible assumption) | assumption)
          obtain ⟨go5, co5, eo5, gb5, gl5, cl5, HG5⟩ := Kd.R_form HO_0.out (by omega)
          (first | cases eo5 | (injection eo5 with ea_ en_ ec_; (first | subst ea_ | (injection ea_ with ea_; subst ea_)); subst ec_; clear en_))
          have GB5 := Aside0.mk gb5
          have GG5 := Aside0.mk HG5
          clear gb5 gl5 HG5
          have HMgo5 := Aside0.mk (show (P0_ go5 ∨ w.heap.size ≤ go5) from (HO_0.out.1 _ rfl))
          obtain ⟨hx5_0, hf5_0⟩ := Kd.R_celln 0 HO_0.out (x5_1 : Int) p5 q5
          replace p5 := eq_true p5
          replace q5 := eq_true q5
          have HP7 := Kd.R_putg HO_0.out (x5_1 : Int) x1_1
          go_wp2_with (first | ((with_reducible refine gate_store (t := 3) (p := 15) rfl ?_); refine store_event (t := 3) (p := 15) (v := ?vo_w8) (w1 := (wr.setCell ⟨go5, (x5_1 : Int).toNat, none⟩ (.int .i64 x1_1))) ?hg ?ho ?hn ?hr ?_; (case ho => rfl); (case hg => rfl); (case hn => rfl); (case hr => first | (go_simp; done) | (go_simp; rfl)); intro w8 hw; have hg : wr.grownBy w8 (some go5) := (by rw [hw]; exact HP7.2); have hp_ : Kd.R (Kd.int .i64) 3 w8 w0.heap.size (fun k_ => (P0_ k_ ∨ w.heap.size ≤ k_)) (.slice (some ⟨go5, 0, none⟩) x0_1.length co6) y101 := (by rw [hw, Ny101.out]; exact HP7.1); clear HP7; have n0_ := Aside0.mk (hp_); have n1_ := Aside0.mk ((by rw [hw]; exact below_set (HB.out) GB5.out : Below w0.heap.size w0 w8)); have n2_ := Aside0.mk (Kept.of_grown (S := (fun k_ => P0_ k_)) hg (by repeat (first | (with_reducible first | exact HK.out | apply Kept.alloc | apply Kept.drewN | apply Kept.drew) | exact HK.out)) (fun k_ e_ => (HO_0.out.1 k_ e_))); clear HO_0; clear HB; clear HK; have HO_0 := n0_; have HB := n1_; have HK := n2_; clear n0_ n1_ n2_; clear hg hw hp_))
          go_roundg k1
          case measure => have := HK1.out; omega
          case rel => exact ⟨(y101), (wrap64 (x1_1 + 1)), (wrap64 (x5_1 + 1)), (by first | rfl | (simp; done) | (simp [*]; done)), (by first | rfl | (simp; done) | (simp [*]; done)), H', ⟨by have := HK1.out; omega⟩, ⟨by (with_reducible repeat (first | apply Kd.R_alloc | apply Kd.R_drewN | apply Kd.R_drew)); exact HO_0.out⟩, ⟨by repeat (first | (with_reducible first | exact HK.out | apply Kept.alloc | apply Kept.drewN | apply Kept.drew) | exact HK.out)⟩, ⟨by repeat (first | (with_reducible first | exact HB.out | apply below_alloc | apply pw_below_drewN | apply below_drew1) | exact HB.out)⟩⟩
        · rw [if_neg c4] at H
          exact absurd H (by simp)
      · rw [if_neg c3] at H
        have c3b0 : decide (x5_1 < (x0_1.length : Int)) = false := decide_eq_false c3
        clear c3
        simp only [Option.some.injEq, Prod.mk.injEq] at H
        obtain ⟨rfl, rfl⟩ := H
        obtain ⟨Ao9, co9, eo9⟩ := Kd.R_slice HO_0.out
        subst eo9
        go_wp2
        go_ret
        exact ⟨by first | rfl | (simp [errW_none, errW_some] <;> rfl) | (simp [*, errW_none, errW_some] <;> rfl), by (with_reducible repeat (first | apply Kd.R_alloc | apply Kd.R_drewN | apply Kd.R_drew)); exact HO_0.out, by repeat (first | (with_reducible first | exact HB.out | apply below_alloc | apply pw_below_drewN | apply below_drew1) | exact HB.out), by repeat (first | (with_reducible first | exact HK.out | apply Kept.alloc | apply Kept.drewN | apply Kept.drew) | exact HK.out)⟩

end Go.Proofs.Ytnbaojaocagjcaa.P
end
