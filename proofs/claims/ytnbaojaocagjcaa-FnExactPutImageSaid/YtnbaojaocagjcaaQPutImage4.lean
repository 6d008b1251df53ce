-- Joined by pack.py from FHFuncInt, FHIsProgram, FHIsWord, FHIsImage, F38, FHPutBytes, FHPutImage, F28, F8, FHPureKit, FHPureInts, FHPureToWord, FHPureImage, FHPureAll, FHPureImageOk, FHPureSpecImageOk, FHPureSum, FHPurePut, FHGoodPutImage
import Derived.Shelf.Abstract
import Derived.Test.YtnbaojaocagjcaaQPutImage1
import Derived.Test.YtnbaojaocagjcaaQPutImage3
import Derived.Outline
import Derived.Lib.Endian
import Derived.Test.YtnbaojaocagjcaaQPutImage2
section
-- Written for this claim by gp.py over the kit's print; not trusted: Lean checks it.



namespace Go.Proofs.Ytnbaojaocagjcaa.P
open Go.RowKit Go.Proofs.YtnbaojaocagjcaaW.PrintWords Go.Proofs.YtnbaojaocagjcaaW.PrintLast Go.Proofs.YtnbaojaocagjcaaW.PrintMore
set_option linter.unusedVariables false
set_option linter.unusedSimpArgs false

set_option maxHeartbeats 4000000 in
set_option maxRecDepth 100000 in
/-- slices.IndexFunc at int: where the predicate holds first; below 0: nowhere. -/
theorem idxFunc_int (g : Nat) (lb : Array Value) (p : Int → Bool) (eg : ∀ args w, (callFunc g args).run Try.prog w = .ok (.enter g args) w) (A0 : Option Addr) (c0 : Nat) (l0 : List Int) (w : World) (hr0 : Kd.C (Kd.int .i64) w A0 l0.length l0) (hc0 : l0.length ≤ c0)
    (hp : ∀ (W : World) (x : Int), Below w.heap.size w W → Calls Try.prog g (#[(.int .i64 x)] ++ lb) W fun e w' => e = .returned (.bool (p x)) ∧ Below W.heap.size W w') :
    Calls Try.prog 85 #[.slice A0 l0.length c0, .func (.func g) #[] lb] w fun e w' => (∃ i : Int, e = .returned (.int .i64 i) ∧ decide (0 ≤ i) = l0.any p) ∧ Below w.heap.size w w' := by
  have hmx := hr0.2.1
  have HR0 := Aside0.mk hr0
  have HC0 := Aside0.mk hc0
  have HP := Aside0.mk hp
  clear hr0 hc0 hp
  go_enter Try.func85, Try.ntmps85
  go_wp2
  go_loopg [5, 8] l0.length (fun gg _ s8 wr => ∃ kk : Nat, kk ≤ l0.length ∧ l0.length - kk ≤ gg ∧ s8 = .int .i64 kk ∧ Aside0 (Below w.heap.size w wr) ∧ Aside0 ((l0.take kk).any p = false))
  case atStart => exact ⟨0, Nat.zero_le _, by omega, rfl, ⟨Below.refl _ w⟩, ⟨by simp⟩⟩
  case round =>
    (try clear BW)
    (try clear HA)
    obtain ⟨kk, hkk, hg, rfl, BW, HA⟩ := hrel
    by_cases hlt : kk < l0.length
    · have p1 : 0 ≤ (kk : Int) := by omega
      have q1 : (kk : Int) < (l0.length : Int) := by omega
      obtain ⟨ad, e1, hx0⟩ := Kd.at_int HR0.out (kk : Int) p1 q1
      cases e1
      simp only [Int.toNat_natCast] at hx0
      replace hx0 := (BW.out.cell (World.block_lt_of_cell? w _ hx0)).trans hx0
      have hcall := HP.out wr (rd l0 (kk : Int)) BW.out
      cases hq : p (rd l0 (kk : Int)) with
      | true =>
        rw [hq] at hcall
        go_wp2_with (go_at_fn g; refine hcall.mono ?_; rintro e w1 ⟨rfl, hb1⟩)
        go_ret
        exact ⟨⟨_, rfl, by rw [any_hit (d := 0) hlt hq]; simp⟩, BW.out.trans (hb1.mono BW.out.size)⟩
      | false =>
        rw [hq] at hcall
        go_wp2_with (go_at_fn g; refine hcall.mono ?_; rintro e w1 ⟨rfl, hb1⟩)
        go_roundg (l0.length - (kk + 1))
        case measure => omega
        case rel => exact ⟨kk + 1, by omega, by omega, by go_num, ⟨BW.out.trans (hb1.mono BW.out.size)⟩, ⟨any_take_succ (d := 0) hlt HA.out hq⟩⟩
    · have hltz : ¬ (kk : Int) < (l0.length : Int) := by omega
      have he : kk = l0.length := by omega
      subst he
      go_wp2
      go_ret
      exact ⟨⟨_, rfl, by have h_ := HA.out; rw [List.take_length] at h_; rw [h_]; simp⟩, BW.out⟩
set_option maxHeartbeats 4000000 in
/-- slices.ContainsFunc at int. -/
theorem containsFunc_int (g : Nat) (lb : Array Value) (p : Int → Bool) (eg : ∀ args w, (callFunc g args).run Try.prog w = .ok (.enter g args) w) (A0 : Option Addr) (c0 : Nat) (l0 : List Int) (w : World) (hr0 : Kd.C (Kd.int .i64) w A0 l0.length l0) (hc0 : l0.length ≤ c0)
    (hp : ∀ (W : World) (x : Int), Below w.heap.size w W → Calls Try.prog g (#[(.int .i64 x)] ++ lb) W fun e w' => e = .returned (.bool (p x)) ∧ Below W.heap.size W w') :
    Calls Try.prog 77 #[.slice A0 l0.length c0, .func (.func g) #[] lb] w fun e w' => e = .returned (.bool (l0.any p)) ∧ Below w.heap.size w w' := by
  have HI := Aside0.mk (idxFunc_int g lb p eg A0 c0 l0 w hr0 hc0 hp)
  clear hr0 hc0 hp
  go_enter Try.func77, Try.ntmps77
  go_wp2_with (go_at_call 85; refine HI.out.mono ?_; rintro e w1 ⟨⟨i, rfl, hi⟩, hb1⟩; have HD := Aside0.mk hi; clear hi)
  go_ret
  exact ⟨by rw [← HD.out]; first | rfl | simp, hb1⟩

end Go.Proofs.Ytnbaojaocagjcaa.P
end
section
-- Written for this claim by gp.py over the kit's print; not trusted: Lean checks it.






namespace Go.Proofs.Ytnbaojaocagjcaa.P
open Go.RowKit Go.Proofs.YtnbaojaocagjcaaW.PrintWords Go.Proofs.YtnbaojaocagjcaaW.PrintLast Go.Proofs.YtnbaojaocagjcaaW.PrintMore
set_option linter.unusedVariables false
set_option linter.unusedSimpArgs false

/-- Whether a lies in b .. c. -/
def inB (a b c : Int) : Bool := decide (b ≤ a) && decide (a ≤ c)
theorem in_any (a b c : Int) (w : World) : Calls Try.prog 66 #[.int .i64 a, .int .i64 b, .int .i64 c] w fun e w' => e = .returned (.bool (inB a b c)) ∧ Drawn0 w w' :=
  impl_in.calls a b c (inB a b c) w (by
    unfold impl_in.f inB
    by_cases h : a ≥ b
    · rw [if_pos h]
      have h' : b ≤ a := h
      simp [h']
    · rw [if_neg h]
      have h' : ¬ b ≤ a := h
      simp [h'])
/-- Whether sizes, params and vars are a program's. -/
def progOk (l : List Int) (p v : Int) : Bool := inB (l.length : Int) 1 4 && !(l.any fun n => !inB n 1 16) && inB p 0 (if v < 6 then v else 6) && decide (v ≤ 20)
set_option maxHeartbeats 1000000 in
theorem isProgram_1 (W : World) (x : Int) : Calls Try.prog 78 #[.int .i64 x] W fun e w' => e = .returned (.bool (!inB x 1 16)) ∧ Below W.heap.size W w' := by
  have HC := Aside0.mk (in_any x 1 16)
  generalize inB x 1 16 = b at HC ⊢
  go_enter Try.func78, Try.ntmps78
  go_wp2_with (go_at_call 66; refine (HC.out _).mono ?_; rintro e w1 ⟨rfl, hb1⟩; have HD := Aside0.mk hb1.below; clear hb1)
  go_ret
  exact ⟨rfl, HD.out⟩
set_option maxHeartbeats 2000000 in
set_option maxRecDepth 100000 in
theorem areStmts_nil (p0 p1 p2 p3 : Value) (A : Option Addr) (c : Nat) (w : World) :
    Calls Try.prog 79 #[.agg #[p0, p1, p2, p3], .slice A 0 c, .int .i64 0] w fun e w' => e = .returned (.bool true) ∧ Below w.heap.size w w' := by
  go_enter Try.func79, Try.ntmps79
  go_wp2
  go_loop [25] (fun i => i = .int .i64 0) (fun _ => 0)
  case atStart => exact rfl
  case round =>
    obtain rfl := hrel
    go_wp2
    go_ret
    exact ⟨rfl, below_alloc (below_alloc (Below.refl _ _) _) _⟩
set_option maxHeartbeats 400000 in
set_option maxRecDepth 100000 in
/-- isProgram where there is no statement: all that a graph or an image asks of it. -/
theorem isProgram_nil (A0 A3 : Option Addr) (c0 c3 : Nat) (l0 : List Int) (a1 a2 : Int) (w : World) (hr0 : Kd.C (Kd.int .i64) w A0 l0.length l0) (hc0 : l0.length ≤ c0) :
    Calls Try.prog 65 #[.agg #[.slice A0 l0.length c0, .int .i64 a1, .int .i64 a2, .slice A3 0 c3]] w fun e w' => e = .returned (.bool (progOk l0 a1 a2)) ∧ Below w.heap.size w w' := by
  have eg := enters_of Try.func78 (by kernel_rfl) rfl
  have hmx := hr0.2.1
  have HC1 := Aside0.mk (in_any (l0.length : Int) 1 4)
  have HC3 := Aside0.mk (in_any a1 0 (if a2 < 6 then a2 else 6))
  have HF := Aside0.mk (fun (W : World) (hb : Below w.heap.size w W) => containsFunc_int 78 #[] (fun n => !inB n 1 16) eg A0 c0 l0 W (Kd.C_below hr0 hb) hc0 (fun W x _ => isProgram_1 W x))
  clear hr0 hc0
  unfold progOk
  by_cases h6 : a2 < 6
  all_goals
    first | rw [if_pos h6] at HC3 ⊢ | rw [if_neg h6] at HC3 ⊢
    cases hb1 : inB (l0.length : Int) 1 4 with
    | false =>
      go_enter Try.func65, Try.ntmps65
      go_wp2_with (first | (go_at_call 66; refine (in_any _ _ _ _).mono ?_; rintro e w1 ⟨rfl, ⟨n, rfl⟩⟩))
      go_ret
      exact ⟨rfl, pw_below_drewN (below_alloc (Below.refl _ _) _) _⟩
    | true =>
      cases hb2 : (l0.any fun n => !inB n 1 16) with
      | true =>
        rw [hb2] at HF
        go_enter Try.func65, Try.ntmps65
        go_wp2_with (first | (go_at_call 66; refine (in_any _ _ _ _).mono ?_; rintro e w1 ⟨rfl, ⟨n, rfl⟩⟩) | (go_at_call 77; refine (HF.out _ (pw_below_drewN (below_alloc (Below.refl _ _) _) _)).mono ?_; rintro e w1 ⟨rfl, hb⟩; have HB := Aside0.mk (below_step (pw_below_drewN (below_alloc (Below.refl _ _) _) _) hb); clear hb))
        go_ret
        exact ⟨rfl, HB.out⟩
      | false =>
        rw [hb2] at HF
        go_enter Try.func65, Try.ntmps65
        go_wp2_with (first | (go_at_call 66; (with_reducible refine (in_any _ _ _ _).mono ?_); rintro e w1 ⟨rfl, ⟨n, rfl⟩⟩) | (go_at_call 77; (with_reducible refine (HF.out _ (pw_below_drewN (below_alloc (Below.refl _ _) _) _)).mono ?_); rintro e w1 ⟨rfl, hb⟩; have HB := Aside0.mk (below_step (pw_below_drewN (below_alloc (Below.refl _ _) _) _) hb); obtain ⟨hc_, hf_⟩ := bcell hb; have hz_ := hb.size; simp at hz_; clear hb) | (go_at_call 79; (with_reducible refine (areStmts_nil _ _ _ _ _ _ _).mono ?_); rintro e w2 ⟨rfl, hb⟩; have HB2 := Aside0.mk (below_step (pw_below_drewN HB.out _) hb); clear hb))
        all_goals
          go_ret
          first
            | exact ⟨by simp [*], HB2.out⟩
            | exact ⟨by simp [*], pw_below_drewN HB.out _⟩
def impl_isProgram.f (l0_0 : List Int) (a0_1 : Int) (a0_2 : Int) (l0_3 : List (S116)) : Option Bool := if l0_3.length = 0 then some (progOk l0_0 a0_1 a0_2) else none
theorem impl_isProgram.calls (A0_0 : Option Addr) (c0_0 : Nat) (l0_0 : List Int) (a0_1 : Int) (a0_2 : Int) (A0_3 : Option Addr) (c0_3 : Nat) (l0_3 : List (S116)) (r : Bool) (w : World) (hr0_0 : Kd.C (Kd.int .i64) w A0_0 l0_0.length l0_0) (hc0_0 : l0_0.length ≤ c0_0) (hr0_3 : Kd.C k116 w A0_3 l0_3.length l0_3) (hc0_3 : l0_3.length ≤ c0_3) (h : impl_isProgram.f l0_0 a0_1 a0_2 l0_3 = some r) :
    Calls Try.prog 65 #[.agg #[.slice A0_0 l0_0.length c0_0, .int .i64 a0_1, .int .i64 a0_2, .slice A0_3 l0_3.length c0_3]] w fun e w' => e = .returned (.bool r) ∧ Below w.heap.size w w' := by
  unfold impl_isProgram.f at h
  split at h
  · rename_i h0
    injection h with h
    subst h
    rw [h0]
    exact isProgram_nil A0_0 A0_3 c0_0 c0_3 l0_0 a0_1 a0_2 w hr0_0 hc0_0
  · cases h

end Go.Proofs.Ytnbaojaocagjcaa.P
end
section
-- Written for this claim by gp.py over the kit's print; not trusted: Lean checks it.




namespace Go.Proofs.Ytnbaojaocagjcaa.P
open Go.RowKit Go.Proofs.YtnbaojaocagjcaaW.PrintWords Go.Proofs.YtnbaojaocagjcaaW.PrintLast Go.Proofs.YtnbaojaocagjcaaW.PrintMore
set_option linter.unusedVariables false
set_option linter.unusedSimpArgs false

def regOk (n : Int) (has : Bool) : Bool := inB n 0 15 && (has || n == 0)
def wordFin (v most r : Int) (hr : Bool) (a : Int) (ha : Bool) (b : Int) (hb : Bool) : Bool := inB v 0 most && regOk r hr && regOk a ha && regOk b hb
/-- Whether a word is one of an image with so many sizes, slots and words. -/
def wordIs (ns : Int) (slots : Int) (nc : Int) (o r a b v : Int) : Bool :=
  if o = 0 then wordFin 0 0 r true a false b false
  else if o = 1 then wordFin v (wrap64 (slots - 1)) r true a false b false
  else if o = 2 then wordFin v (wrap64 (slots - 1)) r true a false b false
  else if o = 3 then wordFin v 5 r true a true b true
  else if o = 4 then wordFin v (ns - 1) r true a true b false
  else if o = 5 then wordFin v (ns - 1) r true a true b false
  else if o = 6 then wordFin v 0 r true a false b false
  else if o = 7 then wordFin v 0 r true a false b false
  else if o = 8 then wordFin v (nc - 1) r false a false b false
  else if o = 9 then wordFin v (nc - 1) r true a false b false
  else if o = 10 then wordFin v 0 r true a false b false
  else if o = 11 then wordFin v 0 r true a true b false
  else false
set_option maxHeartbeats 400000 in
theorem reg_any (n : Int) (has : Bool) (w : World) : Calls Try.prog 81 #[.int .i64 n, .bool has] w fun e w' => e = .returned (.bool (regOk n has)) ∧ Drawn0 w w' := by
  unfold regOk
  cases has <;> cases h2 : (n == 0)
  all_goals
    go_enter Try.func81, Try.ntmps81
    go_wp2_with (first | (go_at_call 66; (with_reducible refine (in_any _ _ _ _).mono ?_); rintro e w1 ⟨rfl, ⟨m, rfl⟩⟩))
    all_goals
      go_ret
      first
        | exact ⟨by simp [*], ⟨⟨m, rfl⟩⟩⟩

set_option maxHeartbeats 1000000 in
theorem isWordOf_0 (A0 A3 : Option Addr) (c0 c3 n0 n3 : Nat) (p1 slots r a b v : Int) (w : World) (hn0 : n0 ≤ 9223372036854775807) (hn3 : n3 ≤ 9223372036854775807) :
    Calls Try.prog 69 #[.agg #[.slice A0 n0 c0, .int .i64 p1, .int .i64 slots, .slice A3 n3 c3], .agg #[.int .i64 0, .int .i64 r, .int .i64 a, .int .i64 b, .int .i64 v]] w fun e w' => e = .returned (.bool (wordFin 0 0 r true a false b false)) ∧ Below w.heap.size w w' := by
  go_enter Try.func69, Try.ntmps69
  go_wp2_with (first | (go_at_call 66; (with_reducible refine (in_any _ _ _ _).mono ?_); rintro e w1 ⟨rfl, ⟨n, rfl⟩⟩) | (go_at_call 81; (with_reducible refine (reg_any _ _ _).mono ?_); rintro e w1 ⟨rfl, ⟨n, rfl⟩⟩))
  all_goals
    go_ret
    exact ⟨by simp [wordFin, *], by repeat (first | exact Below.refl _ _ | apply pw_below_drewN | apply below_alloc)⟩
set_option maxHeartbeats 1000000 in
theorem isWordOf_1 (A0 A3 : Option Addr) (c0 c3 n0 n3 : Nat) (p1 slots r a b v : Int) (w : World) (hn0 : n0 ≤ 9223372036854775807) (hn3 : n3 ≤ 9223372036854775807) :
    Calls Try.prog 69 #[.agg #[.slice A0 n0 c0, .int .i64 p1, .int .i64 slots, .slice A3 n3 c3], .agg #[.int .i64 1, .int .i64 r, .int .i64 a, .int .i64 b, .int .i64 v]] w fun e w' => e = .returned (.bool (wordFin v (wrap64 (slots - 1)) r true a false b false)) ∧ Below w.heap.size w w' := by
  go_enter Try.func69, Try.ntmps69
  go_wp2_with (first | (go_at_call 66; (with_reducible refine (in_any _ _ _ _).mono ?_); rintro e w1 ⟨rfl, ⟨n, rfl⟩⟩) | (go_at_call 81; (with_reducible refine (reg_any _ _ _).mono ?_); rintro e w1 ⟨rfl, ⟨n, rfl⟩⟩))
  all_goals
    go_ret
    exact ⟨by simp [wordFin, *], by repeat (first | exact Below.refl _ _ | apply pw_below_drewN | apply below_alloc)⟩
set_option maxHeartbeats 1000000 in
theorem isWordOf_2 (A0 A3 : Option Addr) (c0 c3 n0 n3 : Nat) (p1 slots r a b v : Int) (w : World) (hn0 : n0 ≤ 9223372036854775807) (hn3 : n3 ≤ 9223372036854775807) :
    Calls Try.prog 69 #[.agg #[.slice A0 n0 c0, .int .i64 p1, .int .i64 slots, .slice A3 n3 c3], .agg #[.int .i64 2, .int .i64 r, .int .i64 a, .int .i64 b, .int .i64 v]] w fun e w' => e = .returned (.bool (wordFin v (wrap64 (slots - 1)) r true a false b false)) ∧ Below w.heap.size w w' := by
  go_enter Try.func69, Try.ntmps69
  go_wp2_with (first | (go_at_call 66; (with_reducible refine (in_any _ _ _ _).mono ?_); rintro e w1 ⟨rfl, ⟨n, rfl⟩⟩) | (go_at_call 81; (with_reducible refine (reg_any _ _ _).mono ?_); rintro e w1 ⟨rfl, ⟨n, rfl⟩⟩))
  all_goals
    go_ret
    exact ⟨by simp [wordFin, *], by repeat (first | exact Below.refl _ _ | apply pw_below_drewN | apply below_alloc)⟩
set_option maxHeartbeats 1000000 in
theorem isWordOf_3 (A0 A3 : Option Addr) (c0 c3 n0 n3 : Nat) (p1 slots r a b v : Int) (w : World) (hn0 : n0 ≤ 9223372036854775807) (hn3 : n3 ≤ 9223372036854775807) :
    Calls Try.prog 69 #[.agg #[.slice A0 n0 c0, .int .i64 p1, .int .i64 slots, .slice A3 n3 c3], .agg #[.int .i64 3, .int .i64 r, .int .i64 a, .int .i64 b, .int .i64 v]] w fun e w' => e = .returned (.bool (wordFin v 5 r true a true b true)) ∧ Below w.heap.size w w' := by
  go_enter Try.func69, Try.ntmps69
  go_wp2_with (first | (go_at_call 66; (with_reducible refine (in_any _ _ _ _).mono ?_); rintro e w1 ⟨rfl, ⟨n, rfl⟩⟩) | (go_at_call 81; (with_reducible refine (reg_any _ _ _).mono ?_); rintro e w1 ⟨rfl, ⟨n, rfl⟩⟩))
  all_goals
    go_ret
    exact ⟨by simp [wordFin, *], by repeat (first | exact Below.refl _ _ | apply pw_below_drewN | apply below_alloc)⟩
set_option maxHeartbeats 1000000 in
theorem isWordOf_4 (A0 A3 : Option Addr) (c0 c3 n0 n3 : Nat) (p1 slots r a b v : Int) (w : World) (hn0 : n0 ≤ 9223372036854775807) (hn3 : n3 ≤ 9223372036854775807) :
    Calls Try.prog 69 #[.agg #[.slice A0 n0 c0, .int .i64 p1, .int .i64 slots, .slice A3 n3 c3], .agg #[.int .i64 4, .int .i64 r, .int .i64 a, .int .i64 b, .int .i64 v]] w fun e w' => e = .returned (.bool (wordFin v ((n0 : Int) - 1) r true a true b false)) ∧ Below w.heap.size w w' := by
  go_enter Try.func69, Try.ntmps69
  go_wp2_with (first | (go_at_call 66; (with_reducible refine (in_any _ _ _ _).mono ?_); rintro e w1 ⟨rfl, ⟨n, rfl⟩⟩) | (go_at_call 81; (with_reducible refine (reg_any _ _ _).mono ?_); rintro e w1 ⟨rfl, ⟨n, rfl⟩⟩))
  all_goals
    go_ret
    exact ⟨by simp [wordFin, *], by repeat (first | exact Below.refl _ _ | apply pw_below_drewN | apply below_alloc)⟩
set_option maxHeartbeats 1000000 in
theorem isWordOf_5 (A0 A3 : Option Addr) (c0 c3 n0 n3 : Nat) (p1 slots r a b v : Int) (w : World) (hn0 : n0 ≤ 9223372036854775807) (hn3 : n3 ≤ 9223372036854775807) :
    Calls Try.prog 69 #[.agg #[.slice A0 n0 c0, .int .i64 p1, .int .i64 slots, .slice A3 n3 c3], .agg #[.int .i64 5, .int .i64 r, .int .i64 a, .int .i64 b, .int .i64 v]] w fun e w' => e = .returned (.bool (wordFin v ((n0 : Int) - 1) r true a true b false)) ∧ Below w.heap.size w w' := by
  go_enter Try.func69, Try.ntmps69
  go_wp2_with (first | (go_at_call 66; (with_reducible refine (in_any _ _ _ _).mono ?_); rintro e w1 ⟨rfl, ⟨n, rfl⟩⟩) | (go_at_call 81; (with_reducible refine (reg_any _ _ _).mono ?_); rintro e w1 ⟨rfl, ⟨n, rfl⟩⟩))
  all_goals
    go_ret
    exact ⟨by simp [wordFin, *], by repeat (first | exact Below.refl _ _ | apply pw_below_drewN | apply below_alloc)⟩
set_option maxHeartbeats 1000000 in
theorem isWordOf_6 (A0 A3 : Option Addr) (c0 c3 n0 n3 : Nat) (p1 slots r a b v : Int) (w : World) (hn0 : n0 ≤ 9223372036854775807) (hn3 : n3 ≤ 9223372036854775807) :
    Calls Try.prog 69 #[.agg #[.slice A0 n0 c0, .int .i64 p1, .int .i64 slots, .slice A3 n3 c3], .agg #[.int .i64 6, .int .i64 r, .int .i64 a, .int .i64 b, .int .i64 v]] w fun e w' => e = .returned (.bool (wordFin v 0 r true a false b false)) ∧ Below w.heap.size w w' := by
  go_enter Try.func69, Try.ntmps69
  go_wp2_with (first | (go_at_call 66; (with_reducible refine (in_any _ _ _ _).mono ?_); rintro e w1 ⟨rfl, ⟨n, rfl⟩⟩) | (go_at_call 81; (with_reducible refine (reg_any _ _ _).mono ?_); rintro e w1 ⟨rfl, ⟨n, rfl⟩⟩))
  all_goals
    go_ret
    exact ⟨by simp [wordFin, *], by repeat (first | exact Below.refl _ _ | apply pw_below_drewN | apply below_alloc)⟩
set_option maxHeartbeats 1000000 in
theorem isWordOf_7 (A0 A3 : Option Addr) (c0 c3 n0 n3 : Nat) (p1 slots r a b v : Int) (w : World) (hn0 : n0 ≤ 9223372036854775807) (hn3 : n3 ≤ 9223372036854775807) :
    Calls Try.prog 69 #[.agg #[.slice A0 n0 c0, .int .i64 p1, .int .i64 slots, .slice A3 n3 c3], .agg #[.int .i64 7, .int .i64 r, .int .i64 a, .int .i64 b, .int .i64 v]] w fun e w' => e = .returned (.bool (wordFin v 0 r true a false b false)) ∧ Below w.heap.size w w' := by
  go_enter Try.func69, Try.ntmps69
  go_wp2_with (first | (go_at_call 66; (with_reducible refine (in_any _ _ _ _).mono ?_); rintro e w1 ⟨rfl, ⟨n, rfl⟩⟩) | (go_at_call 81; (with_reducible refine (reg_any _ _ _).mono ?_); rintro e w1 ⟨rfl, ⟨n, rfl⟩⟩))
  all_goals
    go_ret
    exact ⟨by simp [wordFin, *], by repeat (first | exact Below.refl _ _ | apply pw_below_drewN | apply below_alloc)⟩
set_option maxHeartbeats 1000000 in
theorem isWordOf_8 (A0 A3 : Option Addr) (c0 c3 n0 n3 : Nat) (p1 slots r a b v : Int) (w : World) (hn0 : n0 ≤ 9223372036854775807) (hn3 : n3 ≤ 9223372036854775807) :
    Calls Try.prog 69 #[.agg #[.slice A0 n0 c0, .int .i64 p1, .int .i64 slots, .slice A3 n3 c3], .agg #[.int .i64 8, .int .i64 r, .int .i64 a, .int .i64 b, .int .i64 v]] w fun e w' => e = .returned (.bool (wordFin v ((n3 : Int) - 1) r false a false b false)) ∧ Below w.heap.size w w' := by
  go_enter Try.func69, Try.ntmps69
  go_wp2_with (first | (go_at_call 66; (with_reducible refine (in_any _ _ _ _).mono ?_); rintro e w1 ⟨rfl, ⟨n, rfl⟩⟩) | (go_at_call 81; (with_reducible refine (reg_any _ _ _).mono ?_); rintro e w1 ⟨rfl, ⟨n, rfl⟩⟩))
  all_goals
    go_ret
    exact ⟨by simp [wordFin, *], by repeat (first | exact Below.refl _ _ | apply pw_below_drewN | apply below_alloc)⟩
set_option maxHeartbeats 1000000 in
theorem isWordOf_9 (A0 A3 : Option Addr) (c0 c3 n0 n3 : Nat) (p1 slots r a b v : Int) (w : World) (hn0 : n0 ≤ 9223372036854775807) (hn3 : n3 ≤ 9223372036854775807) :
    Calls Try.prog 69 #[.agg #[.slice A0 n0 c0, .int .i64 p1, .int .i64 slots, .slice A3 n3 c3], .agg #[.int .i64 9, .int .i64 r, .int .i64 a, .int .i64 b, .int .i64 v]] w fun e w' => e = .returned (.bool (wordFin v ((n3 : Int) - 1) r true a false b false)) ∧ Below w.heap.size w w' := by
  go_enter Try.func69, Try.ntmps69
  go_wp2_with (first | (go_at_call 66; (with_reducible refine (in_any _ _ _ _).mono ?_); rintro e w1 ⟨rfl, ⟨n, rfl⟩⟩) | (go_at_call 81; (with_reducible refine (reg_any _ _ _).mono ?_); rintro e w1 ⟨rfl, ⟨n, rfl⟩⟩))
  all_goals
    go_ret
    exact ⟨by simp [wordFin, *], by repeat (first | exact Below.refl _ _ | apply pw_below_drewN | apply below_alloc)⟩
set_option maxHeartbeats 1000000 in
theorem isWordOf_10 (A0 A3 : Option Addr) (c0 c3 n0 n3 : Nat) (p1 slots r a b v : Int) (w : World) (hn0 : n0 ≤ 9223372036854775807) (hn3 : n3 ≤ 9223372036854775807) :
    Calls Try.prog 69 #[.agg #[.slice A0 n0 c0, .int .i64 p1, .int .i64 slots, .slice A3 n3 c3], .agg #[.int .i64 10, .int .i64 r, .int .i64 a, .int .i64 b, .int .i64 v]] w fun e w' => e = .returned (.bool (wordFin v 0 r true a false b false)) ∧ Below w.heap.size w w' := by
  go_enter Try.func69, Try.ntmps69
  go_wp2_with (first | (go_at_call 66; (with_reducible refine (in_any _ _ _ _).mono ?_); rintro e w1 ⟨rfl, ⟨n, rfl⟩⟩) | (go_at_call 81; (with_reducible refine (reg_any _ _ _).mono ?_); rintro e w1 ⟨rfl, ⟨n, rfl⟩⟩))
  all_goals
    go_ret
    exact ⟨by simp [wordFin, *], by repeat (first | exact Below.refl _ _ | apply pw_below_drewN | apply below_alloc)⟩
set_option maxHeartbeats 1000000 in
theorem isWordOf_11 (A0 A3 : Option Addr) (c0 c3 n0 n3 : Nat) (p1 slots r a b v : Int) (w : World) (hn0 : n0 ≤ 9223372036854775807) (hn3 : n3 ≤ 9223372036854775807) :
    Calls Try.prog 69 #[.agg #[.slice A0 n0 c0, .int .i64 p1, .int .i64 slots, .slice A3 n3 c3], .agg #[.int .i64 11, .int .i64 r, .int .i64 a, .int .i64 b, .int .i64 v]] w fun e w' => e = .returned (.bool (wordFin v 0 r true a true b false)) ∧ Below w.heap.size w w' := by
  go_enter Try.func69, Try.ntmps69
  go_wp2_with (first | (go_at_call 66; (with_reducible refine (in_any _ _ _ _).mono ?_); rintro e w1 ⟨rfl, ⟨n, rfl⟩⟩) | (go_at_call 81; (with_reducible refine (reg_any _ _ _).mono ?_); rintro e w1 ⟨rfl, ⟨n, rfl⟩⟩))
  all_goals
    go_ret
    exact ⟨by simp [wordFin, *], by repeat (first | exact Below.refl _ _ | apply pw_below_drewN | apply below_alloc)⟩
set_option maxHeartbeats 1000000 in
theorem isWordOf_no (A0 A3 : Option Addr) (c0 c3 n0 n3 : Nat) (p1 slots r a b v : Int) (w : World) (hn0 : n0 ≤ 9223372036854775807) (hn3 : n3 ≤ 9223372036854775807) (o : Int) (h0 : (o == 0) = false) (h1 : (o == 1) = false) (h2 : (o == 2) = false) (h3 : (o == 3) = false) (h4 : (o == 4) = false) (h5 : (o == 5) = false) (h6 : (o == 6) = false) (h7 : (o == 7) = false) (h8 : (o == 8) = false) (h9 : (o == 9) = false) (h10 : (o == 10) = false) (h11 : (o == 11) = false) :
    Calls Try.prog 69 #[.agg #[.slice A0 n0 c0, .int .i64 p1, .int .i64 slots, .slice A3 n3 c3], .agg #[.int .i64 o, .int .i64 r, .int .i64 a, .int .i64 b, .int .i64 v]] w fun e w' => e = .returned (.bool false) ∧ Below w.heap.size w w' := by
  go_enter Try.func69, Try.ntmps69
  go_wp2_with (first | (go_at_call 66; (with_reducible refine (in_any _ _ _ _).mono ?_); rintro e w1 ⟨rfl, ⟨n, rfl⟩⟩) | (go_at_call 81; (with_reducible refine (reg_any _ _ _).mono ?_); rintro e w1 ⟨rfl, ⟨n, rfl⟩⟩))
  go_ret
  exact ⟨rfl, by repeat (first | exact Below.refl _ _ | apply pw_below_drewN | apply below_alloc)⟩
theorem isWordOf_any (A0 A3 : Option Addr) (c0 c3 n0 n3 : Nat) (p1 slots r a b v : Int) (w : World) (hn0 : n0 ≤ 9223372036854775807) (hn3 : n3 ≤ 9223372036854775807) (o : Int) :
    Calls Try.prog 69 #[.agg #[.slice A0 n0 c0, .int .i64 p1, .int .i64 slots, .slice A3 n3 c3], .agg #[.int .i64 o, .int .i64 r, .int .i64 a, .int .i64 b, .int .i64 v]] w fun e w' => e = .returned (.bool (wordIs n0 slots n3 o r a b v)) ∧ Below w.heap.size w w' := by
  unfold wordIs
  by_cases h0 : o = 0
  · rw [if_pos h0, h0]
    exact isWordOf_0 A0 A3 c0 c3 n0 n3 p1 slots r a b v w hn0 hn3
  rw [if_neg h0]
  by_cases h1 : o = 1
  · rw [if_pos h1, h1]
    exact isWordOf_1 A0 A3 c0 c3 n0 n3 p1 slots r a b v w hn0 hn3
  rw [if_neg h1]
  by_cases h2 : o = 2
  · rw [if_pos h2, h2]
    exact isWordOf_2 A0 A3 c0 c3 n0 n3 p1 slots r a b v w hn0 hn3
  rw [if_neg h2]
  by_cases h3 : o = 3
  · rw [if_pos h3, h3]
    exact isWordOf_3 A0 A3 c0 c3 n0 n3 p1 slots r a b v w hn0 hn3
  rw [if_neg h3]
  by_cases h4 : o = 4
  · rw [if_pos h4, h4]
    exact isWordOf_4 A0 A3 c0 c3 n0 n3 p1 slots r a b v w hn0 hn3
  rw [if_neg h4]
  by_cases h5 : o = 5
  · rw [if_pos h5, h5]
    exact isWordOf_5 A0 A3 c0 c3 n0 n3 p1 slots r a b v w hn0 hn3
  rw [if_neg h5]
  by_cases h6 : o = 6
  · rw [if_pos h6, h6]
    exact isWordOf_6 A0 A3 c0 c3 n0 n3 p1 slots r a b v w hn0 hn3
  rw [if_neg h6]
  by_cases h7 : o = 7
  · rw [if_pos h7, h7]
    exact isWordOf_7 A0 A3 c0 c3 n0 n3 p1 slots r a b v w hn0 hn3
  rw [if_neg h7]
  by_cases h8 : o = 8
  · rw [if_pos h8, h8]
    exact isWordOf_8 A0 A3 c0 c3 n0 n3 p1 slots r a b v w hn0 hn3
  rw [if_neg h8]
  by_cases h9 : o = 9
  · rw [if_pos h9, h9]
    exact isWordOf_9 A0 A3 c0 c3 n0 n3 p1 slots r a b v w hn0 hn3
  rw [if_neg h9]
  by_cases h10 : o = 10
  · rw [if_pos h10, h10]
    exact isWordOf_10 A0 A3 c0 c3 n0 n3 p1 slots r a b v w hn0 hn3
  rw [if_neg h10]
  by_cases h11 : o = 11
  · rw [if_pos h11, h11]
    exact isWordOf_11 A0 A3 c0 c3 n0 n3 p1 slots r a b v w hn0 hn3
  rw [if_neg h11]
  exact isWordOf_no A0 A3 c0 c3 n0 n3 p1 slots r a b v w hn0 hn3 o (beq_eq_false_iff_ne.mpr h0) (beq_eq_false_iff_ne.mpr h1) (beq_eq_false_iff_ne.mpr h2) (beq_eq_false_iff_ne.mpr h3) (beq_eq_false_iff_ne.mpr h4) (beq_eq_false_iff_ne.mpr h5) (beq_eq_false_iff_ne.mpr h6) (beq_eq_false_iff_ne.mpr h7) (beq_eq_false_iff_ne.mpr h8) (beq_eq_false_iff_ne.mpr h9) (beq_eq_false_iff_ne.mpr h10) (beq_eq_false_iff_ne.mpr h11)

end Go.Proofs.Ytnbaojaocagjcaa.P
end
section
-- Written for this claim by gp.py over the kit's print; not trusted: Lean checks it.







namespace Go.Proofs.Ytnbaojaocagjcaa.P
open Go.RowKit Go.Proofs.YtnbaojaocagjcaaW.PrintWords Go.Proofs.YtnbaojaocagjcaaW.PrintLast Go.Proofs.YtnbaojaocagjcaaW.PrintMore
set_option linter.unusedVariables false
set_option linter.unusedSimpArgs false

/-- Whether an image is ok. -/
def imageOk (l0 : List Int) (p s : Int) (l3 : List S59) : Bool :=
  progOk l0 0 0 && inB p 0 6 && inB s p 1000 && inB (l3.length : Int) 1 6000 && (((rd_T59 l3 ((l3.length : Int) - 1)).f0 == 10) || ((rd_T59 l3 ((l3.length : Int) - 1)).f0 == 8)) &&
    !(l3.any fun x => !wordIs (l0.length : Int) s (l3.length : Int) x.f0 x.f1 x.f2 x.f3 x.f4)
set_option maxHeartbeats 400000 in
theorem isImage_1 (B : Nat) (A0 A3 : Option Addr) (c0 c3 n0 n3 : Nat) (p1 slots : Int) (hn0 : n0 ≤ 9223372036854775807) (hn3 : n3 ≤ 9223372036854775807) (W : World) (x : S59)
    (hb0 : W.cell? ⟨B, 0, none⟩ = some (.slice A0 n0 c0)) (hb1 : W.cell? ⟨B, 1, none⟩ = some (.int .i64 p1)) (hb2 : W.cell? ⟨B, 2, none⟩ = some (.int .i64 slots)) (hb3 : W.cell? ⟨B, 3, none⟩ = some (.slice A3 n3 c3)) (hB : B < W.heap.size) :
    Calls Try.prog 68 #[.agg #[.int .i64 x.f0, .int .i64 x.f1, .int .i64 x.f2, .int .i64 x.f3, .int .i64 x.f4], .pointer (some ⟨B, 0, none⟩)] W
      fun e w' => e = .returned (.bool (!wordIs (n0 : Int) slots (n3 : Int) x.f0 x.f1 x.f2 x.f3 x.f4)) ∧ Below W.heap.size W w' := by
  have hne : B ≠ W.heap.size := by omega
  have HC := Aside0.mk (fun W' => isWordOf_any A0 A3 c0 c3 n0 n3 p1 slots x.f1 x.f2 x.f3 x.f4 W' hn0 hn3 x.f0)
  generalize wordIs (n0 : Int) slots (n3 : Int) x.f0 x.f1 x.f2 x.f3 x.f4 = b at HC ⊢
  go_enter Try.func68, Try.ntmps68
  go_wp2_with (go_at_call 69; (with_reducible refine (HC.out _).mono ?_); rintro e w1 ⟨rfl, hb⟩; have HD := Aside0.mk (below_step (below_alloc (Below.refl _ _) _) hb); clear hb)
  go_ret
  exact ⟨rfl, HD.out⟩
set_option maxHeartbeats 1000000 in
set_option maxRecDepth 100000 in
theorem isImage_any (A0_0 A0_3 : Option Addr) (c0_0 c0_3 : Nat) (l0 : List Int) (p s : Int) (l3 : List (S59)) (w : World) (hr0 : Kd.C (Kd.int .i64) w A0_0 l0.length l0) (hc0 : l0.length ≤ c0_0) (hr3 : Kd.C k59 w A0_3 l3.length l3) (hc3 : l3.length ≤ c0_3) :
    Calls Try.prog 52 #[.agg #[.slice A0_0 l0.length c0_0, .int .i64 p, .int .i64 s, .slice A0_3 l3.length c0_3]] w fun e w' => e = .returned (.bool (imageOk l0 p s l3)) ∧ Below w.heap.size w w' := by
  have eg := enters_of Try.func68 (by kernel_rfl) rfl
  have hm0 := hr0.2.1
  have hm3 := hr3.2.1
  have HP := Aside0.mk (fun (W : World) (hb : Below w.heap.size w W) => isProgram_nil A0_0 none c0_0 0 l0 0 0 W (Kd.C_below hr0 hb) hc0)
  have HF := Aside0.mk (fun (W : World) (hb : Below w.heap.size w W) (h0 : w.heap.size < W.heap.size) (hb0 : W.cell? ⟨w.heap.size, 0, none⟩ = some (.slice A0_0 l0.length c0_0)) (hb1 : W.cell? ⟨w.heap.size, 1, none⟩ = some (.int .i64 p)) (hb2 : W.cell? ⟨w.heap.size, 2, none⟩ = some (.int .i64 s)) (hb3 : W.cell? ⟨w.heap.size, 3, none⟩ = some (.slice A0_3 l3.length c0_3)) =>
    containsFunc_Word 68 #[.pointer (some ⟨w.heap.size, 0, none⟩)] (fun x => !wordIs (l0.length : Int) s (l3.length : Int) x.f0 x.f1 x.f2 x.f3 x.f4) eg A0_3 c0_3 l3 W (Kd.C_below hr3 hb) hc3
      (fun W2 x hb' => isImage_1 w.heap.size A0_0 A0_3 c0_0 c0_3 l0.length l3.length p s hm0 hm3 W2 x ((hb'.cell (p := ⟨w.heap.size, 0, none⟩) h0).trans hb0) ((hb'.cell (p := ⟨w.heap.size, 1, none⟩) h0).trans hb1) ((hb'.cell (p := ⟨w.heap.size, 2, none⟩) h0).trans hb2) ((hb'.cell (p := ⟨w.heap.size, 3, none⟩) h0).trans hb3) (Nat.lt_of_lt_of_le h0 hb'.size)))
  unfold imageOk
  have HR3 := Aside0.mk hr3
  clear hr0 hc0 hr3 hc3
  cases hp0 : progOk l0 0 0 with
  | false =>
    rw [hp0] at HP
    go_enter Try.func52, Try.ntmps52
    go_wp2_with (first | (go_at_call 65; (with_reducible refine (HP.out _ (below_alloc (Below.refl _ _) _)).mono ?_); rintro e w1 ⟨rfl, hb⟩; have HB := Aside0.mk (below_step (below_alloc (Below.refl _ _) _) hb); clear hb))
    go_ret
    exact ⟨by simp, HB.out⟩
  | true =>
    rw [hp0] at HP
    cases hl : inB (l3.length : Int) 1 6000 with
    | false =>
      go_enter Try.func52, Try.ntmps52
      go_wp2_with (first | (go_at_call 65; (with_reducible refine (HP.out _ (below_alloc (Below.refl _ _) _)).mono ?_); rintro e w1 ⟨rfl, hb⟩; have HB := Aside0.mk (below_step (below_alloc (Below.refl _ _) _) hb); obtain ⟨hc_, hf_⟩ := bcell hb; have hz_ := hb.size; simp at hz_; clear hb) | (go_at_call 66; (with_reducible refine (in_any _ _ _ _).mono ?_); rintro e w2 ⟨rfl, ⟨n, rfl⟩⟩))
      all_goals
        go_ret
        exact ⟨by simp [*], by repeat (first | exact HB.out | apply pw_below_drewN | apply below_alloc)⟩
    | true =>
      have hl1 : 1 ≤ l3.length := by
        unfold inB at hl
        simp at hl
        omega
      have q1 : 0 ≤ (l3.length : Int) - 1 := by omega
      have q2 : (l3.length : Int) - 1 < (l3.length : Int) := by omega
      obtain ⟨ad, e1, hx0, _⟩ := at_T59 HR3.out ((l3.length : Int) - 1) q1 q2
      cases e1
      rw [show ((l3.length : Int) - 1).toNat = l3.length - 1 from by omega] at hx0
      generalize (rd_T59 l3 ((l3.length : Int) - 1)).f0 = o at hx0 ⊢
      go_enter Try.func52, Try.ntmps52
      go_wp2_with (first | (go_at_call 65; (with_reducible refine (HP.out _ (below_alloc (Below.refl _ _) _)).mono ?_); rintro e w1 ⟨rfl, hb⟩; have HB := Aside0.mk (below_step (below_alloc (Below.refl _ _) _) hb); obtain ⟨hc_, hf_⟩ := bcell hb; have hz_ := hb.size; simp at hz_; have hx1 := (HB.out.cell (World.block_lt_of_cell? w _ hx0)).trans hx0; clear hb) | (go_at_call 66; (with_reducible refine (in_any _ _ _ _).mono ?_); rintro e w2 ⟨rfl, ⟨n, rfl⟩⟩) | (go_at_call 67; (with_reducible refine (HF.out _ ?s1 ?s2 ?s3 ?s4 ?s5 ?s6).mono ?_); (case s1 => repeat (first | exact HB.out | apply pw_below_drewN)); (case s2 => simp; omega); (case s3 => simp [hc_]); (case s4 => simp [hc_]); (case s5 => simp [hc_]); (case s6 => simp [hc_]); rintro e w3 ⟨rfl, hb⟩; have HB3 := Aside0.mk (below_step (show Below w.heap.size w _ from by repeat (first | exact HB.out | apply pw_below_drewN)) hb); clear hb))
      all_goals
        go_ret
        first
          | exact ⟨by simp [*], HB3.out⟩
          | exact ⟨by simp [*], by repeat (first | exact HB.out | apply pw_below_drewN | apply below_alloc)⟩

def impl_isImage.f (l0_0 : List Int) (a0_1 : Int) (a0_2 : Int) (l0_3 : List (S59)) : Option Bool := some (imageOk l0_0 a0_1 a0_2 l0_3)
theorem impl_isImage.calls (A0_0 : Option Addr) (c0_0 : Nat) (l0_0 : List Int) (a0_1 : Int) (a0_2 : Int) (A0_3 : Option Addr) (c0_3 : Nat) (l0_3 : List (S59)) (r : Bool) (w : World) (hr0_0 : Kd.C (Kd.int .i64) w A0_0 l0_0.length l0_0) (hc0_0 : l0_0.length ≤ c0_0) (hr0_3 : Kd.C k59 w A0_3 l0_3.length l0_3) (hc0_3 : l0_3.length ≤ c0_3) (h : impl_isImage.f l0_0 a0_1 a0_2 l0_3 = some r) :
    Calls Try.prog 52 #[.agg #[.slice A0_0 l0_0.length c0_0, .int .i64 a0_1, .int .i64 a0_2, .slice A0_3 l0_3.length c0_3]] w fun e w' => e = .returned (.bool r) ∧ Below w.heap.size w w' := by
  injection h with h
  subst h
  exact isImage_any A0_0 A0_3 c0_0 c0_3 l0_0 a0_1 a0_2 l0_3 w hr0_0 hc0_0 hr0_3 hc0_3

end Go.Proofs.Ytnbaojaocagjcaa.P
end
section
-- Written for this claim by gp.py over the kit's print; not trusted: Lean checks it.

namespace Go.Proofs.Ytnbaojaocagjcaa.P
open Go.RowKit Go.Proofs.YtnbaojaocagjcaaW.PrintWords Go.Proofs.YtnbaojaocagjcaaW.PrintLast Go.Proofs.YtnbaojaocagjcaaW.PrintMore
attribute [local go_sem] max2_int min2_int max_two min_two max_three min_three max_four min_four
set_option linter.unusedVariables false
set_option linter.unusedSimpArgs false

/-! ### impl_sum: function 38 -/
def impl_sum.l0 : Nat → ByteArray → Int → Int → Int → Option (Int)
  | 0, _, _, _, _ => none
  | k + 1, x0, x3, x6, x7 => if x7 < x6 then (if 0 ≤ x7 then (if x7 < (x0.size : Int) then (impl_sum.l0 k x0 (((Go.bits .xor .u32 x3 ((bt x0 x7) % 4294967296)) * 16777619) % 4294967296) x6 (wrap64 (x7 + 1))) else (none)) else (none)) else (some x3)
def impl_sum.f (k : Nat) (a0 : ByteArray) : Option (Int) := impl_sum.l0 k a0 2166136261 (a0.size : Int) 0
theorem impl_sum.mono_l : ∀ k, (∀ y0 y1 y2 y3, LeO (impl_sum.l0 k y0 y1 y2 y3) (impl_sum.l0 (k + 1) y0 y1 y2 y3))
  | 0 => fun _ _ _ _ r h => by simp [impl_sum.l0] at h
  | k + 1 => by
    have ih0 := impl_sum.mono_l k
    · intro y0 y1 y2 y3
      unfold impl_sum.l0
      repeat' first
      | (with_reducible exact ih0 _ _ _ _)
      | (with_reducible exact LeO.refl _)
      | (with_reducible exact LeO.none _)
      | (with_reducible refine LeO.ite ?_ ?_)
      | (with_reducible refine LeO.bind ?_ (fun _ => ?_))
      | exact ih0 _ _ _ _
      | exact LeO.none _
      | refine LeO.ite ?_ ?_
      | refine LeO.bind ?_ (fun _ => ?_)
theorem impl_sum.mono : ∀ a0 k, LeO (impl_sum.f k a0) (impl_sum.f (k + 1) a0) := by
  intro a0 k
  have ih0 := impl_sum.mono_l k
  unfold impl_sum.f
  repeat' first
      | (with_reducible exact ih0 _ _ _ _)
      | (with_reducible exact LeO.refl _)
      | (with_reducible exact LeO.none _)
      | (with_reducible refine LeO.ite ?_ ?_)
      | (with_reducible refine LeO.bind ?_ (fun _ => ?_))
      | exact ih0 _ _ _ _
      | exact LeO.none _
      | refine LeO.ite ?_ ?_
      | refine LeO.bind ?_ (fun _ => ?_)
set_option maxHeartbeats 8000000 in
set_option maxRecDepth 100000 in
theorem impl_sum.calls (k : Nat) (a0 : ByteArray) (r : Int) (w : World) (h : impl_sum.f k a0 = some r) :
    Calls Try.prog 38 #[.string a0] w fun e w' => e = .returned (.int .u32 r) ∧ Drawn0 w w' := by
  have H : (impl_sum.l0 k a0 2166136261 (a0.size : Int) 0) = some r := h
  clear h
  have H' := Aside0.mk H
  clear H
  go_enter Try.func38, Try.ntmps38
  go_wp2
  go_loopg [3, 7] k (fun kq v3 v7 w' => ∃ (x3_1 : Int) (x7_1 : Int), v3 = .int .u32 x3_1 ∧ v7 = .int .i64 x7_1 ∧ Aside0 (impl_sum.l0 kq a0 x3_1 (a0.size : Int) x7_1 = some r) ∧ Aside0 (kq ≤ k) ∧ Drawn0 w w')
  case atStart => exact ⟨(2166136261), (0), (by first | rfl | (simp; done) | (simp [*]; done)), (by first | rfl | (simp; done) | (simp [*]; done)), H', ⟨Nat.le_refl _⟩, by repeat (first | exact Drawn0.refl _ | apply Drawn0.step)⟩
  case round =>
    clear H'
    (try clear HA)
    (try clear HK1)
    obtain ⟨x3_1, x7_1, rfl, rfl, HA, HK1, ⟨m1, rfl⟩⟩ := hrel
    cases gk with
    | zero => exact absurd HA.out (by simp [impl_sum.l0])
    | succ k1 =>
      have H := HA.out
      clear HA
      simp only [impl_sum.l0] at H
      by_cases c2 : x7_1 < (a0.size : Int)
      · rw [if_pos c2] at H
        have c2b0 : decide (x7_1 < (a0.size : Int)) = true := decide_eq_true c2
        clear c2
        by_cases c3 : 0 ≤ x7_1
        · rw [if_pos c3] at H
          have c3b0 : decide (0 ≤ x7_1) = true := decide_eq_true c3
          clear c3
          by_cases c4 : x7_1 < (a0.size : Int)
          · rw [if_pos c4] at H
            have c4b0 : decide (x7_1 < (a0.size : Int)) = true := decide_eq_true c4
            clear c4
            have H' := Aside0.mk H
            clear H
            have p5 : 0 ≤ (x7_1 : Int) := of_decide_eq_true (by first | (with_reducible assumption) | assumption)
            have q5 : x7_1 < (a0.size : Int) := of_decide_eq_true (by first | (with_reducible assumption) | assumption)
            have hx5 := bt_at a0 x7_1
            replace p5 := eq_true p5
            replace q5 := eq_true q5
            go_wp2
            go_roundg k1
            case measure => have := HK1.out; omega
            case rel => exact ⟨(((Go.bits .xor .u32 x3_1 ((bt a0 x7_1) % 4294967296)) * 16777619) % 4294967296), (wrap64 (x7_1 + 1)), (by first | rfl | (simp; done) | (simp [*]; done)), (by first | rfl | (simp; done) | (simp [*]; done)), H', ⟨by have := HK1.out; omega⟩, by repeat (first | exact Drawn0.refl _ | apply Drawn0.step)⟩
          · rw [if_neg c4] at H
            exact absurd H (by simp)
        · rw [if_neg c3] at H
          exact absurd H (by simp)
      · rw [if_neg c2] at H
        have c2b0 : decide (x7_1 < (a0.size : Int)) = false := decide_eq_false c2
        clear c2
        obtain rfl := Option.some.inj H
        go_wp2
        go_ret
        exact ⟨by first | rfl | (simp; done) | (simp [*]; done), by repeat (first | exact Drawn0.refl _ | apply Drawn0.step)⟩

end Go.Proofs.Ytnbaojaocagjcaa.P
end
section
-- Written for this claim by gp.py over the kit's print; not trusted: Lean checks it.


namespace Go.Proofs.Ytnbaojaocagjcaa.P
open Go.RowKit Go.Proofs.YtnbaojaocagjcaaW.PrintWords Go.Proofs.YtnbaojaocagjcaaW.PrintLast Go.Proofs.YtnbaojaocagjcaaW.PrintMore
set_option linter.unusedVariables false
set_option linter.unusedSimpArgs false

/-- The eight bytes of a number, the greatest first. -/
def be8 (v : Int) : List Int := [v / 72057594037927936, v / 281474976710656 % 256, v / 1099511627776 % 256, v / 4294967296 % 256, v / 16777216 % 256, v / 65536 % 256, v / 256 % 256, v % 256]
/-- What the bytes of some numbers are. -/
def beAll (xs : List Int) : List Int := xs.flatMap fun x => be8 (IntKind.u64.wrap x)
theorem beAll_length (xs : List Int) : (beAll xs).length = 8 * xs.length := by
  induction xs with
  | nil => rfl
  | cons a l ih =>
    unfold beAll at ih ⊢
    rw [List.flatMap_cons, List.length_append, ih]
    simp [be8]
    omega
theorem beAll_append (xs ys : List Int) : beAll (xs ++ ys) = beAll xs ++ beAll ys := by simp [beAll]
theorem own_slice {w : World} {B n : Nat} {sv : Value} {xs : List Value} (h : w.ownsRow B 5 1 sv n xs) : ∃ A c, sv = .slice A n c := by
  rcases h.2 with ⟨rfl, rfl⟩ | ⟨g, cap, cur, rfl, _⟩
  · exact ⟨none, 0, rfl⟩
  · exact ⟨_, _, rfl⟩
theorem u64_range (x : Int) : 0 ≤ IntKind.u64.wrap x ∧ IntKind.u64.wrap x < 18446744073709551616 := by
  have e : IntKind.u64.wrap x = x % 18446744073709551616 := by simp [IntKind.wrap, IntKind.signed, IntKind.bits]
  omega
theorem oneU8 (x : Int) : (Value.int .u8 x).oneCell' = true := rfl
set_option maxHeartbeats 4000000 in
set_option maxRecDepth 100000 in
theorem be_any (B : Nat) (v : Int) (h0 : 0 ≤ v) (hv : v < 18446744073709551616) (sv : Value) (xs : List Int) (n : Nat) (hn : xs.length = n) (w0 w : World) (HB : Below B w0 w) (hown : w.ownsRow B 5 1 sv n (encs (Value.int .u8) xs)) (hBw : B ≤ w.heap.size) (hlim : n + 8 ≤ 140737488355328) :
    Calls Try.prog 71 #[.agg #[], sv, .int .u64 v] w fun e w' => ∃ v', e = .returned v' ∧ w'.ownsRow B 5 1 v' (n + 8) (encs (Value.int .u8) (xs ++ be8 v)) ∧ Below B w0 w' ∧ Kept w w' (fun k => some k = sv.ownBlock) ∧ (∀ k, some k = v'.ownBlock → some k = sv.ownBlock ∨ w.heap.size ≤ k) := by
  subst hn
  obtain ⟨v, rfl⟩ : ∃ m : Nat, v = m := ⟨v.toNat, by omega⟩
  have HB_ := Aside0.mk HB
  clear HB
  go_enter Try.func71, Try.ntmps71
  go_wp2_with (at_builtin; refine print_append_row_of (w0 := w0) (Value.int .u8) 0 B rfl _ _ 71 5 (.int .u8 0) 1 rfl Try.underlying71 info5 rfl (by decide) oneU8 sv xs (be8 v) _ 8 8 rfl rfl ((hown.alloc _).alloc _) ?c1 ((HB_.out.alloc hBw _).alloc (by simp; omega) _) (by simp; omega) (by omega) ?_)
  case c1 =>
    refine ⟨rfl, by decide, fun _ => ⟨_, rfl, fun j hj => ?_⟩⟩
    match j, hj with
    | 0, _ => simp [Addr.add, be8]
    | 1, _ => simp [Addr.add, be8]
    | 2, _ => simp [Addr.add, be8]
    | 3, _ => simp [Addr.add, be8]
    | 4, _ => simp [Addr.add, be8]
    | 5, _ => simp [Addr.add, be8]
    | 6, _ => simp [Addr.add, be8]
    | 7, _ => simp [Addr.add, be8]
  intro v' w2 hown' hb' hgrow hat
  change w2.ownsRow B 5 1 v' (xs.length + 8) _ at hown'
  obtain ⟨A1, c1, rfl⟩ := own_slice hown'
  go_wp2
  go_ret
  refine ⟨.slice A1 (xs.length + 8) c1, rfl, hown', hb', Kept.of_grown hgrow (Kept.alloc (Kept.alloc (Kept.refl w _) _) _) (fun k hk => Or.inl hk.symm), ?_⟩
  intro k hk
  rcases hat with e | ⟨b, e, hb⟩
  · left
    rw [hk, e]
  · right
    rw [e] at hk
    injection hk with hk
    subst hk
    omega
set_option maxHeartbeats 1000000 in
set_option maxRecDepth 100000 in
theorem put_any (B p c m : Nat) (A : Option Addr) (xs : List Int) (sv : Value) (bs : List Int) (hm : bs.length = m) (w0 W : World) (HB : Below B w0 W) (hBp : B ≤ p) (hc : xs.length ≤ c) (hx63 : xs.length ≤ 9223372036854775807)
    (hC : ∀ W', Kept W W' (fun k => k = p ∨ some k = sv.ownBlock) → Kd.C (Kd.int .i64) W' A xs.length xs)
    (hP : W.heap[p]? = some (.cells #[sv] 71 (0, 0))) (hown : W.ownsRow B 5 1 sv m (encs (Value.int .u8) bs)) (hne : some p ≠ sv.ownBlock) (hlim : m + 8 * xs.length ≤ 140737488355328) :
    Calls Try.prog 70 #[.slice A xs.length c, .pointer (some ⟨p, 0, none⟩)] W fun e w' => e = .returned (.tuple #[]) ∧ (∃ sv', w'.heap[p]? = some (.cells #[sv'] 71 (0, 0)) ∧ w'.ownsRow B 5 1 sv' (m + 8 * xs.length) (encs (Value.int .u8) (bs ++ beAll xs)) ∧ some p ≠ sv'.ownBlock ∧ (∀ k, some k = sv'.ownBlock → some k = sv.ownBlock ∨ W.heap.size ≤ k)) ∧ Below B w0 w' ∧ Kept W w' (fun k => k = p ∨ some k = sv.ownBlock) := by
  have HB_ := Aside0.mk HB
  have HC_ := Aside0.mk hC
  have HO_ := Aside0.mk hown
  have HP_ := Aside0.mk hP
  have hps := blk_lt hP
  have hc0 := blk_cell hP 0
  clear HB hC hown
  go_enter Try.func70, Try.ntmps70
  go_wp2
  go_loopg [4, 7] xs.length (fun gg _ s7 wr => ∃ kk : Nat, kk ≤ xs.length ∧ xs.length - kk ≤ gg ∧ s7 = .int .i64 kk ∧ Aside0 (∃ sv', wr.heap[p]? = some (.cells #[sv'] 71 (0, 0)) ∧ wr.ownsRow B 5 1 sv' (m + 8 * kk) (encs (Value.int .u8) (bs ++ beAll (xs.take kk))) ∧ some p ≠ sv'.ownBlock ∧ (∀ k, some k = sv'.ownBlock → some k = sv.ownBlock ∨ W.heap.size ≤ k)) ∧ Aside0 (Below B w0 wr) ∧ Aside0 (Kept W wr (fun k => k = p ∨ some k = sv.ownBlock)))
  case atStart => exact ⟨0, Nat.zero_le _, by omega, rfl, ⟨sv, HP_.out, by simpa [beAll] using HO_.out, hne, fun k hk => Or.inl hk⟩, HB_, ⟨Kept.refl W _⟩⟩
  case round =>
    (try clear HB)
    (try clear HK)
    obtain ⟨kk, hkk, hg, rfl, ⟨sv', hP', hO', hne', hold'⟩, HB', HK'⟩ := hrel
    by_cases hlt : kk < xs.length
    · have p1 : 0 ≤ (kk : Int) := by omega
      have q1 : (kk : Int) < (xs.length : Int) := by omega
      obtain ⟨ad, e1, hx0⟩ := Kd.at_int (HC_.out wr HK'.out) (kk : Int) p1 q1
      cases e1
      simp only [Int.toNat_natCast] at hx0
      obtain ⟨Av, cv, rfl⟩ := own_slice hO'
      have hc1 := (blk_cell hP' 0).trans rfl
      have hf1 := blk_frozen hP' 0
      have hw := HK'.out.1
      obtain ⟨u0, u1⟩ := u64_range (rd xs (kk : Int))
      have hcall := be_any B (IntKind.u64.wrap (rd xs (kk : Int))) u0 u1 _ _ (m + 8 * kk) (by rw [List.length_append, beAll_length, List.length_take]; omega) w0 wr HB'.out hO' (by omega) (by omega)
      have HCL := Aside0.mk hcall
      clear hcall
      go_wp2_with (go_at_call 71; (with_reducible refine HCL.out.mono ?_); rintro e w1 ⟨v1, rfl, hO1, hB1, hK1, hn1⟩; obtain ⟨A1, c1, rfl⟩ := own_slice hO1; have hz1 := blk_kept hP' hK1 hne'; have hcz := (blk_cell hz1 0).trans rfl; have hfz := blk_frozen hz1 0)
      have hnew : beAll (xs.take (kk + 1)) = beAll (xs.take kk) ++ be8 (IntKind.u64.wrap (rd xs (kk : Int))) := by
        rw [List.take_succ_eq_append_getElem hlt, beAll_append]
        simp [beAll, rd, List.getD_eq_getElem?_getD, hlt]
      have hne1 : some p ≠ (Value.slice A1 (m + 8 * kk + 8) c1).ownBlock := by
        intro e
        rcases hn1 p e with h | h
        · exact hne' h
        · omega
      go_roundg (xs.length - (kk + 1))
      case measure => omega
      case rel =>
        refine ⟨kk + 1, by omega, by omega, by go_num, ⟨_, blk_set hz1 0 _, ?_, hne1, ?_⟩, ⟨?_⟩, ⟨?_⟩⟩
        · rw [hnew, ← List.append_assoc]
          exact own_setCell hO1 hne1 _
        · intro k hk
          rcases hn1 k hk with h | h
          · exact hold' k h
          · right; omega
        · exact hB1.setCell hBp _
        · exact Kept.setCell (HK'.out.then_ hK1 (fun k hk => (hold' k hk).elim (fun h => Or.inl (Or.inr h)) Or.inr)) (Or.inl (Or.inl rfl)) _
    · have hltz : ¬ (kk : Int) < (xs.length : Int) := by omega
      have he : kk = xs.length := by omega
      subst he
      rw [List.take_length] at hO'
      go_wp2
      refine bodyPost_end (v := .tuple #[]) ?_ rfl ?_
      · kernel_rfl
      exact ⟨rfl, ⟨sv', hP', hO', hne', hold'⟩, HB'.out, HK'.out⟩
/-- What holds between two puts. -/
def PS (w0 W : World) (im : Array Value) (bs : List Int) (m : Nat) : Prop :=
  bs.length = m ∧ Below w0.heap.size w0 W ∧ W.heap[w0.heap.size]? = some (.cells im 33 (0, 0)) ∧
  ∃ sv, W.heap[w0.heap.size + 2]? = some (.cells #[sv] 71 (0, 0)) ∧ W.ownsRow w0.heap.size 5 1 sv m (encs (Value.int .u8) bs) ∧ (∀ k, some k = sv.ownBlock → w0.heap.size + 1 ≤ k ∧ k ≠ w0.heap.size + 2)
theorem PS.alloc {w0 W : World} {im : Array Value} {bs : List Int} {m : Nat} (h : PS w0 W im bs m) (o : Obj) : PS w0 (W.alloc o) im bs m := by
  obtain ⟨h1, h2, h3, sv, h4, h5, h6⟩ := h
  exact ⟨h1, below_alloc h2 o, blk_alloc h3 o, sv, blk_alloc h4 o, h5.alloc o, h6⟩
theorem PS.set {w0 W : World} {im : Array Value} {bs : List Int} {m : Nat} (h : PS w0 W im bs m) {p : Addr} (u : Value) (hp : w0.heap.size + 2 < p.block) (hn : ∀ sv, W.heap[w0.heap.size + 2]? = some (.cells #[sv] 71 (0, 0)) → some p.block ≠ sv.ownBlock) : PS w0 (W.setCell p u) im bs m := by
  obtain ⟨h1, h2, h3, sv, h4, h5, h6⟩ := h
  exact ⟨h1, h2.setCell (by omega) _, blk_far h3 (by omega) u, sv, blk_far h4 (by omega) u, own_setCell h5 (hn sv h4) u, h6⟩
theorem put_step {w0 W : World} {im : Array Value} {bs : List Int} {m : Nat} (h : PS w0 W im bs m) (c : Nat) (A : Option Addr) (xs : List Int) (hc : xs.length ≤ c) (hx63 : xs.length ≤ 9223372036854775807)
    (hC : ∀ sv, W.heap[w0.heap.size + 2]? = some (.cells #[sv] 71 (0, 0)) → (∀ k, some k = sv.ownBlock → w0.heap.size + 1 ≤ k) → ∀ W', Kept W W' (fun k => k = w0.heap.size + 2 ∨ some k = sv.ownBlock) → Kd.C (Kd.int .i64) W' A xs.length xs) (hlim : m + 8 * xs.length ≤ 140737488355328) :
    Calls Try.prog 70 #[.slice A xs.length c, .pointer (some ⟨w0.heap.size + 2, 0, none⟩)] W fun e w' => e = .returned (.tuple #[]) ∧ PS w0 w' im (bs ++ beAll xs) (m + 8 * xs.length) ∧ W.heap.size ≤ w'.heap.size := by
  obtain ⟨h1, h2, h3, sv, h4, h5, h6⟩ := h
  refine (put_any w0.heap.size (w0.heap.size + 2) c m A xs sv bs h1 w0 W h2 (by omega) hc hx63 (hC sv h4 (fun k hk => (h6 k hk).1)) h4 h5 (fun e => (h6 _ e).2 rfl) hlim).mono ?_
  rintro e w' ⟨rfl, ⟨sv', g1, g2, g3, g4⟩, g5, g6⟩
  refine ⟨rfl, ⟨by rw [List.length_append, beAll_length, h1], g5, blk_kept h3 g6 (fun hh => hh.elim (fun e => by omega) (fun e => by have := (h6 _ e).1; omega)), sv', g1, g2, fun k hk => ?_⟩, g6.1⟩
  have hl := blk_lt h4
  rcases g4 k hk with e | e
  · exact h6 k e
  · exact ⟨by omega, by omega⟩
/-- A put of some numbers that were laid just now. -/
theorem put_new {w0 W : World} {im : Array Value} {bs : List Int} {m : Nat} (h : PS w0 W im bs m) (xs : List Int) (n : Nat) (hn : xs.length = n) (hx63 : n ≤ 9223372036854775807) (g : Nat) (hg : W.heap.size = g) (cs : Array Value) (hcs : cs = (xs.map (Value.int .i64)).toArray) (hlim : m + 8 * n ≤ 140737488355328) :
    Calls Try.prog 70 #[.slice (some ⟨g, 0, none⟩) n n, .pointer (some ⟨w0.heap.size + 2, 0, none⟩)] (W.alloc (.cells cs 3 (0, 0))) fun e w' => e = .returned (.tuple #[]) ∧ PS w0 w' im (bs ++ beAll xs) (m + 8 * n) ∧ W.heap.size ≤ w'.heap.size := by
  subst hn
  subst hg
  refine (put_step (h.alloc _) xs.length _ xs (Nat.le_refl _) hx63 ?_ hlim).mono ?_
  · intro sv hsv hlo W' hk
    obtain ⟨h1, h2, h3, sv', h4, h5, h6⟩ := h
    have e : sv = sv' := by
      have := (blk_alloc h4 _).symm.trans hsv
      injection this with this
      injection this with this
      simpa using this.symm
    subst e
    have hl := blk_lt h4
    have hb := blk_kept (blk_new W (.cells cs 3 (0, 0))) hk (fun hh => hh.elim (fun e => by omega) (fun e => by have := (h5.lt _ e.symm).2; omega))
    refine Kd.C_of_reads (d := 0) ⟨rfl, hx63, fun _ => ⟨_, rfl, fun j hj => ?_⟩⟩
    have := blk_cell hb j
    have e : Addr.add ⟨W.heap.size, 0, none⟩ j = ⟨W.heap.size, j, none⟩ := by
      unfold Addr.add
      split
      · rename_i h; rw [h]
      · simp
    rw [e, this, hcs]
    simp [hj, List.getD_eq_getElem?_getD]
  · rintro e w' ⟨g1, g2, g3⟩
    exact ⟨g1, g2, by simp at g3; omega⟩

end Go.Proofs.Ytnbaojaocagjcaa.P
end
section
-- Written for this claim by gp.py over the kit's print; not trusted: Lean checks it.






namespace Go.Proofs.Ytnbaojaocagjcaa.P
open Go.RowKit Go.Proofs.YtnbaojaocagjcaaW.PrintWords Go.Proofs.YtnbaojaocagjcaaW.PrintLast Go.Proofs.YtnbaojaocagjcaaW.PrintMore
set_option linter.unusedVariables false
set_option linter.unusedSimpArgs false

theorem PS.drewN {w0 W : World} {im : Array Value} {bs : List Int} {m : Nat} (h : PS w0 W im bs m) (n : Nat) : PS w0 (W.drewN n) im bs m := by
  obtain ⟨h1, h2, h3, sv, h4, h5, h6⟩ := h
  exact ⟨h1, pw_below_drewN h2 _, h3, sv, h4, h5, h6⟩
theorem PS.start (w : World) (im : Array Value) : PS w (((w.alloc (.cells im 33 (0, 0))).alloc (.cells #[] 5 (0, 0))).alloc (.cells #[.slice (some ⟨w.heap.size + 1, 0, none⟩) 0 0] 71 (0, 0))) im [] 0 := by
  have e1 : (w.alloc (.cells im 33 (0, 0))).heap.size = w.heap.size + 1 := by simp
  have e2 : ((w.alloc (.cells im 33 (0, 0))).alloc (.cells #[] 5 (0, 0))).heap.size = w.heap.size + 2 := by simp
  have b1 := blk_alloc (blk_alloc (blk_new w (.cells im 33 (0, 0))) (.cells #[] 5 (0, 0))) (.cells #[.slice (some ⟨w.heap.size + 1, 0, none⟩) 0 0] 71 (0, 0))
  have b2 := blk_alloc (blk_new (w.alloc (.cells im 33 (0, 0))) (.cells #[] 5 (0, 0))) (.cells #[.slice (some ⟨w.heap.size + 1, 0, none⟩) 0 0] 71 (0, 0))
  have b3 := blk_new ((w.alloc (.cells im 33 (0, 0))).alloc (.cells #[] 5 (0, 0))) (.cells #[.slice (some ⟨w.heap.size + 1, 0, none⟩) 0 0] 71 (0, 0))
  rw [e1] at b2
  rw [e2] at b3
  refine ⟨rfl, below_alloc (below_alloc (below_alloc (Below.refl _ _) _) _) _, b1, _, b3, ?_, ?_⟩
  · exact ⟨rfl, Or.inr ⟨w.heap.size + 1, 0, #[], rfl, by omega, b2, by omega, by decide, rfl, rfl⟩⟩
  · intro k hk
    simp [Value.ownBlock] at hk
    omega
theorem PS.box {w0 W : World} {im : Array Value} {bs : List Int} {m : Nat} (h : PS w0 W im bs m) (i : Nat) {v : Value} (hv : im[i]? = some v) : W.cell? ⟨w0.heap.size, i, none⟩ = some v := (blk_cell h.2.2.1 i).trans hv
theorem PS.boxf {w0 W : World} {im : Array Value} {bs : List Int} {m : Nat} (h : PS w0 W im bs m) (i : Nat) : W.frozen? ⟨w0.heap.size, i, none⟩ = false := blk_frozen h.2.2.1 i
def wordNums (l : List S59) : List Int := l.flatMap fun x => [x.f0, x.f1, x.f2, x.f3, x.f4]
theorem wordNums_length (l : List S59) : (wordNums l).length = 5 * l.length := by
  induction l with
  | nil => rfl
  | cons a l ih =>
    unfold wordNums at ih ⊢
    rw [List.flatMap_cons, List.length_append, ih]
    simp
    omega
def imageNums (l0 : List Int) (p s : Int) (l3 : List S59) : List Int := [(l0.length : Int)] ++ l0 ++ [p, s, (l3.length : Int)] ++ wordNums l3
set_option maxHeartbeats 1000000 in
set_option maxRecDepth 100000 in
theorem putImage_any (k : Nat) (A0 A3 : Option Addr) (c0 c3 : Nat) (l0 : List Int) (p s : Int) (l3 : List S59) (t : Int) (w : World) (hr0 : Kd.C (Kd.int .i64) w A0 l0.length l0) (hc0 : l0.length ≤ c0) (hr3 : Kd.C k59 w A3 l3.length l3) (hc3 : l3.length ≤ c3)
    (hlim : 8 * (l0.length + 5 * l3.length + 5) ≤ 140737488355328) (ht : impl_sum.f k (strOfNums (beAll (imageNums l0 p s l3))) = some t) :
    Calls Try.prog 54 #[.agg #[.slice A0 l0.length c0, .int .i64 p, .int .i64 s, .slice A3 l3.length c3]] w fun e w' => e = .returned (.string (strOfNums (beAll (imageNums l0 p s l3) ++ beAll [wrap64 t]))) ∧ Below w.heap.size w w' := by
  have eg := enters_of Try.func70 (by kernel_rfl) rfl
  have HR0 := Aside0.mk hr0
  have HR3 := Aside0.mk hr3
  have HT := Aside0.mk ht
  have hm0 := hr0.2.1
  have hm3 := hr3.2.1
  clear hr0 hr3 ht
  have HS := Aside0.mk (PS.start w #[.slice A0 l0.length c0, .int .i64 p, .int .i64 s, .slice A3 l3.length c3])
  go_enter Try.func54, Try.ntmps54
  go_wp2_with (first | (go_at_call 70; refine (put_new HS.out [(l0.length : Int)] 1 rfl (by decide) _ ?g1 _ rfl (by omega)).mono ?_; (case g1 => simp); rintro e w1 ⟨rfl, hps, hsz⟩; have HS1 := Aside0.mk hps; clear hps hsz HS; have hx0 := HS1.out.box 0 rfl; have hf0 := HS1.out.boxf 0; have hx1 := HS1.out.box 1 rfl; have hf1 := HS1.out.boxf 1; have hx2 := HS1.out.box 2 rfl; have hf2 := HS1.out.boxf 2; have hx3 := HS1.out.box 3 rfl; have hf3 := HS1.out.boxf 3) | (go_at_call 70; refine (put_step HS1.out c0 A0 l0 hc0 hm0 ?g2 (by omega)).mono ?_; (case g2 => exact fun sv _ hlo => Kd.C_kept_came (Kd.heap_int .i64) HR0.out HS1.out.2.1 (fun k hk => hk.elim (fun e => by omega) (fun e => by have := hlo k e; omega))); rintro e w2 ⟨rfl, hps, hsz⟩; have HS2 := Aside0.mk hps; clear hps hsz HS1; clear hx0 hf0; clear hx1 hf1; clear hx2 hf2; clear hx3 hf3; have hx0 := HS2.out.box 0 rfl; have hf0 := HS2.out.boxf 0; have hx1 := HS2.out.box 1 rfl; have hf1 := HS2.out.boxf 1; have hx2 := HS2.out.box 2 rfl; have hf2 := HS2.out.boxf 2; have hx3 := HS2.out.box 3 rfl; have hf3 := HS2.out.boxf 3) | (go_at_call 70; refine (put_new HS2.out [p, s, (l3.length : Int)] 3 rfl (by decide) _ ?g3 _ rfl (by omega)).mono ?_; (case g3 => rfl); rintro e w3 ⟨rfl, hps, hsz⟩; have HS3 := Aside0.mk hps; clear hps hsz HS2; clear hx0 hf0; clear hx1 hf1; clear hx2 hf2; clear hx3 hf3; have hx0 := HS3.out.box 0 rfl; have hf0 := HS3.out.boxf 0; have hx1 := HS3.out.box 1 rfl; have hf1 := HS3.out.boxf 1; have hx2 := HS3.out.box 2 rfl; have hf2 := HS3.out.boxf 2; have hx3 := HS3.out.box 3 rfl; have hf3 := HS3.out.boxf 3))
  go_loopg [6, 32] l3.length (fun gg _ s32 wr => ∃ kk : Nat, kk ≤ l3.length ∧ l3.length - kk ≤ gg ∧ s32 = .int .i64 kk ∧ Aside0 (PS w wr #[.slice A0 l0.length c0, .int .i64 p, .int .i64 s, .slice A3 l3.length c3] ([] ++ beAll [(l0.length : Int)] ++ beAll l0 ++ beAll [p, s, (l3.length : Int)] ++ beAll (wordNums (l3.take kk))) (0 + 8 * 1 + 8 * l0.length + 8 * 3 + 8 * (5 * kk))))
  case atStart => exact ⟨0, Nat.zero_le _, by omega, rfl, ⟨by simpa [wordNums, beAll] using HS3.out⟩⟩
  case round =>
    (try clear HP)
    obtain ⟨kk, hkk, hg, rfl, HP⟩ := hrel
    by_cases hlt : kk < l3.length
    · have p1 : 0 ≤ (kk : Int) := by omega
      have q1 : (kk : Int) < (l3.length : Int) := by omega
      obtain ⟨ad, e1, hy⟩ := at_T59 (Kd.C_below HR3.out HP.out.2.1) (kk : Int) p1 q1
      cases e1
      simp only [Int.toNat_natCast] at hy
      obtain ⟨hy0, hy1, hy2, hy3, hy4⟩ := hy
      have hnew : beAll (wordNums (l3.take (kk + 1))) = beAll (wordNums (l3.take kk)) ++ beAll [(rd_T59 l3 (kk : Int)).f0, (rd_T59 l3 (kk : Int)).f1, (rd_T59 l3 (kk : Int)).f2, (rd_T59 l3 (kk : Int)).f3, (rd_T59 l3 (kk : Int)).f4] := by
        have hr : rd_T59 l3 (kk : Int) = l3[kk] := by simp [rd_T59, List.getD_eq_getElem?_getD, hlt]
        rw [List.take_succ_eq_append_getElem hlt, ← beAll_append, hr]
        simp only [wordNums, List.flatMap_append, List.flatMap_cons, List.flatMap_nil, List.append_nil]
      go_wp2_with (first | (go_at_call 70; refine (put_new (HP.out.alloc _) [(rd_T59 l3 (kk : Int)).f0, (rd_T59 l3 (kk : Int)).f1, (rd_T59 l3 (kk : Int)).f2, (rd_T59 l3 (kk : Int)).f3, (rd_T59 l3 (kk : Int)).f4] 5 rfl (by decide) _ ?g4 _ rfl (by omega)).mono ?_; (case g4 => simp); rintro e w5 ⟨rfl, hps, hsz⟩; have HS5 := Aside0.mk hps; clear hps hsz))
      go_roundg (l3.length - (kk + 1))
      case measure => omega
      case rel =>
        refine ⟨kk + 1, by omega, by omega, by go_num, ⟨?_⟩⟩
        have := HS5.out
        rw [hnew, ← List.append_assoc]
        rw [show 0 + 8 * 1 + 8 * l0.length + 8 * 3 + 8 * (5 * (kk + 1)) = 0 + 8 * 1 + 8 * l0.length + 8 * 3 + 8 * (5 * kk) + 8 * 5 from by omega]
        exact this
    · have hltz : ¬ (kk : Int) < (l3.length : Int) := by omega
      have he : kk = l3.length := by omega
      subst he
      rw [List.take_length] at HP
      have hbs : [] ++ beAll [(l0.length : Int)] ++ beAll l0 ++ beAll [p, s, (l3.length : Int)] ++ beAll (wordNums l3) = beAll (imageNums l0 p s l3) := by
        simp only [imageNums, beAll_append, List.nil_append]
      rw [hbs] at HP
      generalize hN : 0 + 8 * 1 + 8 * l0.length + 8 * 3 + 8 * (5 * l3.length) = N at HP
      obtain ⟨g1, g2, g3, sv, g4, g5, g6⟩ := HP.out
      have hcv := own_string (P := Try.prog) Try.underlying71 Try.underlying5 Try.underlying9 g5
      obtain ⟨Av, cv, rfl⟩ := own_slice g5
      have hc1 := (blk_cell g4 0).trans rfl
      have hf1 := blk_frozen g4 0
      go_wp2_with (first | (go_at_call 38; (with_reducible refine (impl_sum.calls k _ t _ HT.out).mono ?_); rintro e w6 ⟨rfl, ⟨nd, rfl⟩⟩) | (go_at_call 70; refine (put_new (HP.out.drewN nd) [wrap64 t] 1 rfl (by decide) _ ?g5 _ rfl (by omega)).mono ?_; (case g5 => simp); rintro e w7 ⟨rfl, ⟨k1, k2, k3, sv7, k4, k5, k6⟩, hsz⟩; have hcv7 := own_string (P := Try.prog) Try.underlying71 Try.underlying5 Try.underlying9 k5; obtain ⟨A7, c7, rfl⟩ := own_slice k5; have hc7 := (blk_cell k4 0).trans rfl; have hf7 := blk_frozen k4 0))
      go_ret
      exact ⟨rfl, k2⟩

/-- The bytes of an image, and the sum of them. -/
def impl_putImage.f (k : Nat) (l0_0 : List Int) (a0_1 : Int) (a0_2 : Int) (l0_3 : List (S59)) : Option ByteArray := if 8 * (l0_0.length + 5 * l0_3.length + 5) ≤ 140737488355328 then (impl_sum.f k (strOfNums (beAll (imageNums l0_0 a0_1 a0_2 l0_3)))).bind fun t => some (strOfNums (beAll (imageNums l0_0 a0_1 a0_2 l0_3) ++ beAll [wrap64 t])) else none
theorem impl_putImage.mono : ∀ a0 a1 a2 a3 k, LeO (impl_putImage.f k a0 a1 a2 a3) (impl_putImage.f (k + 1) a0 a1 a2 a3) := by
  intro a0 a1 a2 a3 k
  unfold impl_putImage.f
  repeat' first
      | (with_reducible exact impl_sum.mono _ _)
      | (with_reducible exact LeO.refl _)
      | (with_reducible exact LeO.none _)
      | (with_reducible apply LeO.bind)
      | split
      | (intro _)
theorem impl_putImage.calls (k : Nat) (A0_0 : Option Addr) (c0_0 : Nat) (l0_0 : List Int) (a0_1 : Int) (a0_2 : Int) (A0_3 : Option Addr) (c0_3 : Nat) (l0_3 : List (S59)) (r : ByteArray) (w : World) (hr0_0 : Kd.C (Kd.int .i64) w A0_0 l0_0.length l0_0) (hc0_0 : l0_0.length ≤ c0_0) (hr0_3 : Kd.C k59 w A0_3 l0_3.length l0_3) (hc0_3 : l0_3.length ≤ c0_3) (h : impl_putImage.f k l0_0 a0_1 a0_2 l0_3 = some r) :
    Calls Try.prog 54 #[.agg #[.slice A0_0 l0_0.length c0_0, .int .i64 a0_1, .int .i64 a0_2, .slice A0_3 l0_3.length c0_3]] w fun e w' => e = .returned (.string r) ∧ Below w.heap.size w w' := by
  unfold impl_putImage.f at h
  split at h
  · rename_i hl
    obtain ⟨t, h1, h2⟩ := Option.bind_eq_some_iff.mp h
    injection h2 with h2
    subst h2
    exact putImage_any k A0_0 A0_3 c0_0 c0_3 l0_0 a0_1 a0_2 l0_3 t w hr0_0 hc0_0 hr0_3 hc0_3 hl h1
  · cases h

end Go.Proofs.Ytnbaojaocagjcaa.P
end
section
-- Written for this claim by gp.py over the kit's print; not trusted: Lean checks it.



namespace Go.Proofs.Ytnbaojaocagjcaa.P
open Go.RowKit Go.Proofs.YtnbaojaocagjcaaW.PrintWords Go.Proofs.YtnbaojaocagjcaaW.PrintLast Go.Proofs.YtnbaojaocagjcaaW.PrintMore
attribute [local go_sem] max2_int min2_int max_two min_two max_three min_three max_four min_four
set_option linter.unusedVariables false
set_option linter.unusedSimpArgs false

/-! ### impl_PutImage: function 28 -/
def impl_PutImage.f (k : Nat) (l0_0 : List Int) (a0_1 : Int) (a0_2 : Int) (l0_3 : List (S59)) : Option (ByteArray) := (impl_isImage.f l0_0 a0_1 a0_2 l0_3).bind fun t102 => (if t102 = true then ((impl_putImage.f k l0_0 a0_1 a0_2 l0_3).bind fun t103 => (some t103)) else (some (⟨#[]⟩ : ByteArray)))
theorem impl_PutImage.mono : ∀ a0 a1 a2 a3 k, LeO (impl_PutImage.f k a0 a1 a2 a3) (impl_PutImage.f (k + 1) a0 a1 a2 a3) := by
  intro a0 a1 a2 a3 k
  unfold impl_PutImage.f
  repeat' first
      | (with_reducible exact impl_putImage.mono _ _ _ _ _)
      | (with_reducible exact LeO.refl _)
      | (with_reducible exact LeO.none _)
      | (with_reducible refine LeO.ite ?_ ?_)
      | (with_reducible refine LeO.bind ?_ (fun _ => ?_))
      | exact impl_putImage.mono _ _ _ _ _
      | exact LeO.none _
      | refine LeO.ite ?_ ?_
      | refine LeO.bind ?_ (fun _ => ?_)
set_option maxHeartbeats 8000000 in
set_option maxRecDepth 100000 in
theorem impl_PutImage.calls (k : Nat) (A0_0 : Option Addr) (c0_0 : Nat) (l0_0 : List Int) (a0_1 : Int) (a0_2 : Int) (A0_3 : Option Addr) (c0_3 : Nat) (l0_3 : List (S59)) (r : ByteArray) (w : World) (hr0_0 : Kd.C (Kd.int .i64) w A0_0 l0_0.length l0_0) (hc0_0 : l0_0.length ≤ c0_0) (hr0_3 : Kd.C k59 w A0_3 l0_3.length l0_3) (hc0_3 : l0_3.length ≤ c0_3) (h : impl_PutImage.f k l0_0 a0_1 a0_2 l0_3 = some r) :
    Calls Try.prog 28 #[.agg #[.slice A0_0 l0_0.length c0_0, .int .i64 a0_1, .int .i64 a0_2, .slice A0_3 l0_3.length c0_3]] w fun e w' => e = .returned (.string r) ∧ Below w.heap.size w w' := by
  have hu33 := Try.underlying33
  have HR0_0 := Aside0.mk hr0_0
  have HC0_0 := Aside0.mk hc0_0
  clear hr0_0 hc0_0
  have HR0_3 := Aside0.mk hr0_3
  have HC0_3 := Aside0.mk hc0_3
  clear hr0_3 hc0_3
  have HB := Aside0.mk (Below.refl w.heap.size w)
  have H : ((impl_isImage.f l0_0 a0_1 a0_2 l0_3).bind fun t102 => (if t102 = true then ((impl_putImage.f k l0_0 a0_1 a0_2 l0_3).bind fun t103 => (some t103)) else (some (⟨#[]⟩ : ByteArray)))) = some r := h
  clear h
  replace H := Option.bind_eq_some_iff.mp H
  obtain ⟨t102, A20, H⟩ := H
  replace H : (if t102 = true then ((impl_putImage.f k l0_0 a0_1 a0_2 l0_3).bind fun t103 => (some t103)) else (some (⟨#[]⟩ : ByteArray))) = some r := H
  have A2 := Aside0.mk A20
  clear A20
  by_cases c3 : t102 = true
  · subst c3
    have H1 : ((impl_putImage.f k l0_0 a0_1 a0_2 l0_3).bind fun t103 => (some t103)) = some r := by rw [if_pos rfl] at H; exact H
    clear H
    have H := H1
    clear H1
    replace H := Option.bind_eq_some_iff.mp H
    obtain ⟨t103, A40, H⟩ := H
    replace H : (some t103) = some r := H
    have A4 := Aside0.mk A40
    clear A40
    obtain rfl := Option.some.inj H
    go_enter Try.func28, Try.ntmps28
    go_wp2_with (first | ((with_reducible refine gate_dst (N := 1) rfl ?_); refine box_event ?hg (N := 1) ?hd (cs := #[.slice A0_0 l0_0.length c0_0, .int .i64 a0_1, .int .i64 a0_2, .slice A0_3 l0_3.length c0_3]) (t := 33) ?hr ?_; (case hd => rfl); (case hg => rfl); (case hr => first | (go_simp; done) | (go_simp; rfl)); intro gb101 hg w5 hbox hb; have n0_ := Aside0.mk (below_step (by repeat (first | (with_reducible first | exact HB.out | apply below_alloc | apply pw_below_drewN | apply below_drew1) | exact HB.out)) hb); have n1_ := Aside0.mk (hbox); have n2_ := Aside0.mk ((by rw [hg]; exact (below_size (by repeat (first | (with_reducible first | exact HB.out | apply below_alloc | apply pw_below_drewN | apply below_drew1) | exact HB.out))) : w.heap.size ≤ gb101)); have n3_ := Aside0.mk ((by rw [hg]; exact (below_size (by repeat (first | (with_reducible first | exact HB.out | apply below_alloc | apply pw_below_drewN | apply below_drew1) | exact HB.out))) : w.heap.size ≤ gb101)); clear HB; have HB := n0_; have BK101 := n1_; have GW101 := n2_; have GE101 := n3_; clear n0_ n1_ n2_ n3_; clear hb hbox hg; have hcz6_0 : w5.cell? ⟨gb101, 0, none⟩ = some (.slice A0_0 l0_0.length c0_0) := (blk_cell BK101.out 0).trans rfl; have hcz6_1 : w5.cell? ⟨gb101, 1, none⟩ = some (.int .i64 a0_1) := (blk_cell BK101.out 1).trans rfl; have hcz6_2 : w5.cell? ⟨gb101, 2, none⟩ = some (.int .i64 a0_2) := (blk_cell BK101.out 2).trans rfl; have hcz6_3 : w5.cell? ⟨gb101, 3, none⟩ = some (.slice A0_3 l0_3.length c0_3) := (blk_cell BK101.out 3).trans rfl; have hfz6_0 := blk_frozen BK101.out 0; have hfz6_1 := blk_frozen BK101.out 1; have hfz6_2 := blk_frozen BK101.out 2; have hfz6_3 := blk_frozen BK101.out 3) | ((with_reducible refine gate_callee (f := 52) rfl ?_); refine goesL_ (some 4) rfl rfl Try.func52 (by kernel_rfl) rfl #[.agg #[.slice A0_0 l0_0.length c0_0, .int .i64 a0_1, .int .i64 a0_2, .slice A0_3 l0_3.length c0_3]] rfl (by (try simp only [List.map_toArray, List.map_cons, List.map_nil]); first | done | rfl | (simp only [List.length_drop, List.length_take]; rfl)) ?_; (with_reducible refine (impl_isImage.calls _ _ l0_0 a0_1 a0_2 _ _ l0_3 true _ ?side1 ?side2 ?side3 ?side4 A2.out).mono ?_); (case side1 => repeat (first | exact (Kd.C_below HR0_0.out HB.out) | (with_reducible refine Kd.C_alloc ?_ _) | (with_reducible refine Kd.C_drewN ?_ _) | (with_reducible refine Kd.C_drew ?_))); (case side2 => exact HC0_0.out); (case side3 => repeat (first | exact (Kd.C_below HR0_3.out HB.out) | (with_reducible refine Kd.C_alloc ?_ _) | (with_reducible refine Kd.C_drewN ?_ _) | (with_reducible refine Kd.C_drew ?_))); (case side4 => exact HC0_3.out); rintro e w7 ⟨rfl, hb⟩; refine ⟨_, rfl, ?_⟩; have n0_ := Aside0.mk (blk_below (g := gb101) (o := .cells #[.slice A0_0 l0_0.length c0_0, .int .i64 a0_1, .int .i64 a0_2, .slice A0_3 l0_3.length c0_3] 33 (0, 0)) (by (with_reducible repeat (first | refine blk_drewN ?_ _ | refine blk_drew ?_ | refine blk_alloc ?_ _)); exact BK101.out) hb); have n1_ := Aside0.mk (below_step (by repeat (first | (with_reducible first | exact HB.out | apply below_alloc | apply pw_below_drewN | apply below_drew1 | refine below_set ?_ GE101.out) | exact HB.out)) hb); clear BK101; clear HB; have BK101 := n0_; have HB := n1_; clear n0_ n1_; (try clear hb); (try clear hb2); (try clear hk); (try clear hi); have hcz8_0 : w7.cell? ⟨gb101, 0, none⟩ = some (.slice A0_0 l0_0.length c0_0) := (blk_cell BK101.out 0).trans rfl; have hcz8_1 : w7.cell? ⟨gb101, 1, none⟩ = some (.int .i64 a0_1) := (blk_cell BK101.out 1).trans rfl; have hcz8_2 : w7.cell? ⟨gb101, 2, none⟩ = some (.int .i64 a0_2) := (blk_cell BK101.out 2).trans rfl; have hcz8_3 : w7.cell? ⟨gb101, 3, none⟩ = some (.slice A0_3 l0_3.length c0_3) := (blk_cell BK101.out 3).trans rfl; have hfz8_0 := blk_frozen BK101.out 0; have hfz8_1 := blk_frozen BK101.out 1; have hfz8_2 := blk_frozen BK101.out 2; have hfz8_3 := blk_frozen BK101.out 3) | ((with_reducible refine gate_callee (f := 54) rfl ?_); refine goesL_ (some 7) rfl rfl Try.func54 (by kernel_rfl) rfl #[.agg #[.slice A0_0 l0_0.length c0_0, .int .i64 a0_1, .int .i64 a0_2, .slice A0_3 l0_3.length c0_3]] rfl (by (try simp only [List.map_toArray, List.map_cons, List.map_nil]); first | done | rfl | (simp only [List.length_drop, List.length_take]; rfl)) ?_; (with_reducible refine (impl_putImage.calls k _ _ l0_0 a0_1 a0_2 _ _ l0_3 t103 _ ?side1 ?side2 ?side3 ?side4 A4.out).mono ?_); (case side1 => repeat (first | exact (Kd.C_below HR0_0.out HB.out) | (with_reducible refine Kd.C_alloc ?_ _) | (with_reducible refine Kd.C_drewN ?_ _) | (with_reducible refine Kd.C_drew ?_))); (case side2 => exact HC0_0.out); (case side3 => repeat (first | exact (Kd.C_below HR0_3.out HB.out) | (with_reducible refine Kd.C_alloc ?_ _) | (with_reducible refine Kd.C_drewN ?_ _) | (with_reducible refine Kd.C_drew ?_))); (case side4 => exact HC0_3.out); rintro e w9 ⟨rfl, hb⟩; refine ⟨_, rfl, ?_⟩; have n0_ := Aside0.mk (blk_below (g := gb101) (o := .cells #[.slice A0_0 l0_0.length c0_0, .int .i64 a0_1, .int .i64 a0_2, .slice A0_3 l0_3.length c0_3] 33 (0, 0)) (by (with_reducible repeat (first | refine blk_drewN ?_ _ | refine blk_drew ?_ | refine blk_alloc ?_ _)); exact BK101.out) hb); have n1_ := Aside0.mk (below_step (by repeat (first | (with_reducible first | exact HB.out | apply below_alloc | apply pw_below_drewN | apply below_drew1 | refine below_set ?_ GE101.out) | exact HB.out)) hb); clear BK101; clear HB; have BK101 := n0_; have HB := n1_; clear n0_ n1_; (try clear hb); (try clear hb2); (try clear hk); (try clear hi)))
    go_ret
    exact ⟨by first | rfl | (simp [errW_none, errW_some] <;> rfl) | (simp [*, errW_none, errW_some] <;> rfl), by repeat (first | (with_reducible first | exact HB.out | apply below_alloc | apply pw_below_drewN | apply below_drew1 | refine below_set ?_ GE101.out) | exact HB.out)⟩
  · replace c3 := Bool.eq_false_iff.mpr c3
    subst c3
    have H1 : (some (⟨#[]⟩ : ByteArray)) = some r := by rw [if_neg (show ¬ (false = true) by decide)] at H; exact H
    clear H
    have H := H1
    clear H1
    obtain rfl := Option.some.inj H
    go_enter Try.func28, Try.ntmps28
    go_wp2_with (first | ((with_reducible refine gate_dst (N := 1) rfl ?_); refine box_event ?hg (N := 1) ?hd (cs := #[.slice A0_0 l0_0.length c0_0, .int .i64 a0_1, .int .i64 a0_2, .slice A0_3 l0_3.length c0_3]) (t := 33) ?hr ?_; (case hd => rfl); (case hg => rfl); (case hr => first | (go_simp; done) | (go_simp; rfl)); intro gb101 hg w10 hbox hb; have n0_ := Aside0.mk (below_step (by repeat (first | (with_reducible first | exact HB.out | apply below_alloc | apply pw_below_drewN | apply below_drew1) | exact HB.out)) hb); have n1_ := Aside0.mk (hbox); have n2_ := Aside0.mk ((by rw [hg]; exact (below_size (by repeat (first | (with_reducible first | exact HB.out | apply below_alloc | apply pw_below_drewN | apply below_drew1) | exact HB.out))) : w.heap.size ≤ gb101)); have n3_ := Aside0.mk ((by rw [hg]; exact (below_size (by repeat (first | (with_reducible first | exact HB.out | apply below_alloc | apply pw_below_drewN | apply below_drew1) | exact HB.out))) : w.heap.size ≤ gb101)); clear HB; have HB := n0_; have BK101 := n1_; have GW101 := n2_; have GE101 := n3_; clear n0_ n1_ n2_ n3_; clear hb hbox hg; have hcz11_0 : w10.cell? ⟨gb101, 0, none⟩ = some (.slice A0_0 l0_0.length c0_0) := (blk_cell BK101.out 0).trans rfl; have hcz11_1 : w10.cell? ⟨gb101, 1, none⟩ = some (.int .i64 a0_1) := (blk_cell BK101.out 1).trans rfl; have hcz11_2 : w10.cell? ⟨gb101, 2, none⟩ = some (.int .i64 a0_2) := (blk_cell BK101.out 2).trans rfl; have hcz11_3 : w10.cell? ⟨gb101, 3, none⟩ = some (.slice A0_3 l0_3.length c0_3) := (blk_cell BK101.out 3).trans rfl; have hfz11_0 := blk_frozen BK101.out 0; have hfz11_1 := blk_frozen BK101.out 1; have hfz11_2 := blk_frozen BK101.out 2; have hfz11_3 := blk_frozen BK101.out 3) | ((with_reducible refine gate_callee (f := 52) rfl ?_); refine goesL_ (some 4) rfl rfl Try.func52 (by kernel_rfl) rfl #[.agg #[.slice A0_0 l0_0.length c0_0, .int .i64 a0_1, .int .i64 a0_2, .slice A0_3 l0_3.length c0_3]] rfl (by (try simp only [List.map_toArray, List.map_cons, List.map_nil]); first | done | rfl | (simp only [List.length_drop, List.length_take]; rfl)) ?_; (with_reducible refine (impl_isImage.calls _ _ l0_0 a0_1 a0_2 _ _ l0_3 false _ ?side1 ?side2 ?side3 ?side4 A2.out).mono ?_); (case side1 => repeat (first | exact (Kd.C_below HR0_0.out HB.out) | (with_reducible refine Kd.C_alloc ?_ _) | (with_reducible refine Kd.C_drewN ?_ _) | (with_reducible refine Kd.C_drew ?_))); (case side2 => exact HC0_0.out); (case side3 => repeat (first | exact (Kd.C_below HR0_3.out HB.out) | (with_reducible refine Kd.C_alloc ?_ _) | (with_reducible refine Kd.C_drewN ?_ _) | (with_reducible refine Kd.C_drew ?_))); (case side4 => exact HC0_3.out); rintro e w12 ⟨rfl, hb⟩; refine ⟨_, rfl, ?_⟩; have n0_ := Aside0.mk (blk_below (g := gb101) (o := .cells #[.slice A0_0 l0_0.length c0_0, .int .i64 a0_1, .int .i64 a0_2, .slice A0_3 l0_3.length c0_3] 33 (0, 0)) (by (with_reducible repeat (first | refine blk_drewN ?_ _ | refine blk_drew ?_ | refine blk_alloc ?_ _)); exact BK101.out) hb); have n1_ := Aside0.mk (below_step (by repeat (first | (with_reducible first | exact HB.out | apply below_alloc | apply pw_below_drewN | apply below_drew1 | refine below_set ?_ GE101.out) | exact HB.out)) hb); clear BK101; clear HB; have BK101 := n0_; have HB := n1_; clear n0_ n1_; (try clear hb); (try clear hb2); (try clear hk); (try clear hi)))
    go_ret
    exact ⟨by first | rfl | (simp [errW_none, errW_some] <;> rfl) | (simp [*, errW_none, errW_some] <;> rfl), by repeat (first | (with_reducible first | exact HB.out | apply below_alloc | apply pw_below_drewN | apply below_drew1 | refine below_set ?_ GE101.out) | exact HB.out)⟩

end Go.Proofs.Ytnbaojaocagjcaa.P
end
section
-- Written for this claim by gp.py over the kit's print; not trusted: Lean checks it.






namespace Go.Proofs.Ytnbaojaocagjcaa.P
open Go.RowKit Go.Proofs.YtnbaojaocagjcaaW.PrintWords Go.Proofs.YtnbaojaocagjcaaW.PrintLast Go.Proofs.YtnbaojaocagjcaaW.PrintMore
attribute [local go_sem] max2_int min2_int max_two min_two max_three min_three max_four min_four
set_option linter.unusedVariables false
set_option linter.unusedSimpArgs false

/-! ### laws_FnExactPutImage: function 8 -/
def laws_FnExactPutImage.f (k : Nat) (l0_0 : List Int) (a0_1 : Int) (a0_2 : Int) (l0_3 : List (S78)) : Option (Bool) := (laws_szImage.f l0_0 a0_1 a0_2 l0_3 1048576).bind fun t102 => (if t102 < 0 then (some true) else ((laws_toImage.f k l0_0 a0_1 a0_2 l0_3).bind fun bt103 => ((spec_PutImage.f k bt103.1 bt103.2.1 bt103.2.2.1 bt103.2.2.2).bind fun t111 => ((laws_toImage.f k l0_0 a0_1 a0_2 l0_3).bind fun bt112 => ((impl_PutImage.f k bt112.1 bt112.2.1 bt112.2.2.1 bt112.2.2.2).bind fun t121 => (if t121.toList = t111.toList then ((laws_toImage.f k l0_0 a0_1 a0_2 l0_3).bind fun bt122 => ((laws_eqImage.f k bt112.1 bt112.2.1 bt112.2.2.1 bt112.2.2.2 bt122.1 bt122.2.1 bt122.2.2.1 bt122.2.2.2).bind fun t130 => (if t130 = true then (some true) else (none)))) else (none)))))))
theorem laws_FnExactPutImage.mono : ∀ a0 a1 a2 a3 k, LeO (laws_FnExactPutImage.f k a0 a1 a2 a3) (laws_FnExactPutImage.f (k + 1) a0 a1 a2 a3) := by
  intro a0 a1 a2 a3 k
  unfold laws_FnExactPutImage.f
  repeat' first
      | (with_reducible exact impl_PutImage.mono _ _ _ _ _)
      | (with_reducible exact laws_eqImage.mono _ _ _ _ _ _ _ _ _)
      | (with_reducible exact laws_toImage.mono _ _ _ _ _)
      | (with_reducible exact spec_PutImage.mono _ _ _ _ _)
      | (with_reducible exact LeO.refl _)
      | (with_reducible exact LeO.none _)
      | (with_reducible refine LeO.ite ?_ ?_)
      | (with_reducible refine LeO.bind ?_ (fun _ => ?_))
      | exact impl_PutImage.mono _ _ _ _ _
      | exact laws_eqImage.mono _ _ _ _ _ _ _ _ _
      | exact laws_toImage.mono _ _ _ _ _
      | exact spec_PutImage.mono _ _ _ _ _
      | exact LeO.none _
      | refine LeO.ite ?_ ?_
      | refine LeO.bind ?_ (fun _ => ?_)
set_option maxHeartbeats 8000000 in
set_option maxRecDepth 100000 in
theorem laws_FnExactPutImage.calls (k : Nat) (A0_0 : Option Addr) (c0_0 : Nat) (l0_0 : List Int) (a0_1 : Int) (a0_2 : Int) (A0_3 : Option Addr) (c0_3 : Nat) (l0_3 : List (S78)) (r : Bool) (w : World) (hr0_0 : Kd.C (Kd.int .i64) w A0_0 l0_0.length l0_0) (hc0_0 : l0_0.length ≤ c0_0) (hr0_3 : Kd.C k78 w A0_3 l0_3.length l0_3) (hc0_3 : l0_3.length ≤ c0_3) (h : laws_FnExactPutImage.f k l0_0 a0_1 a0_2 l0_3 = some r) :
    Calls Try.prog 8 #[.agg #[.slice A0_0 l0_0.length c0_0, .int .i64 a0_1, .int .i64 a0_2, .slice A0_3 l0_3.length c0_3]] w fun e w' => e = .returned (.bool r) ∧ Below w.heap.size w w' := by
  have hu28 := Try.underlying28
  have hu33 := Try.underlying33
  have HR0_0 := Aside0.mk hr0_0
  have HC0_0 := Aside0.mk hc0_0
  clear hr0_0 hc0_0
  have HR0_3 := Aside0.mk hr0_3
  have HC0_3 := Aside0.mk hc0_3
  clear hr0_3 hc0_3
  have HB := Aside0.mk (Below.refl w.heap.size w)
  have H : ((laws_szImage.f l0_0 a0_1 a0_2 l0_3 1048576).bind fun t102 => (if t102 < 0 then (some true) else ((laws_toImage.f k l0_0 a0_1 a0_2 l0_3).bind fun bt103 => ((spec_PutImage.f k bt103.1 bt103.2.1 bt103.2.2.1 bt103.2.2.2).bind fun t111 => ((laws_toImage.f k l0_0 a0_1 a0_2 l0_3).bind fun bt112 => ((impl_PutImage.f k bt112.1 bt112.2.1 bt112.2.2.1 bt112.2.2.2).bind fun t121 => (if t121.toList = t111.toList then ((laws_toImage.f k l0_0 a0_1 a0_2 l0_3).bind fun bt122 => ((laws_eqImage.f k bt112.1 bt112.2.1 bt112.2.2.1 bt112.2.2.2 bt122.1 bt122.2.1 bt122.2.2.1 bt122.2.2.2).bind fun t130 => (if t130 = true then (some true) else (none)))) else (none)))))))) = some r := h
  clear h
  replace H := Option.bind_eq_some_iff.mp H
  obtain ⟨t102, A20, H⟩ := H
  replace H : (if t102 < 0 then (some true) else ((laws_toImage.f k l0_0 a0_1 a0_2 l0_3).bind fun bt103 => ((spec_PutImage.f k bt103.1 bt103.2.1 bt103.2.2.1 bt103.2.2.2).bind fun t111 => ((laws_toImage.f k l0_0 a0_1 a0_2 l0_3).bind fun bt112 => ((impl_PutImage.f k bt112.1 bt112.2.1 bt112.2.2.1 bt112.2.2.2).bind fun t121 => (if t121.toList = t111.toList then ((laws_toImage.f k l0_0 a0_1 a0_2 l0_3).bind fun bt122 => ((laws_eqImage.f k bt112.1 bt112.2.1 bt112.2.2.1 bt112.2.2.2 bt122.1 bt122.2.1 bt122.2.2.1 bt122.2.2.2).bind fun t130 => (if t130 = true then (some true) else (none)))) else (none))))))) = some r := H
  have A2 := Aside0.mk A20
  clear A20
  by_cases c3 : t102 < 0
  · rw [if_pos c3] at H
    have c3b0 : decide (t102 < 0) = true := decide_eq_true c3
    clear c3
    obtain rfl := Option.some.inj H
    go_enter Try.func8, Try.ntmps8
    go_wp2_with (first | ((with_reducible refine gate_dst (N := 1) rfl ?_); refine box_event ?hg (N := 1) ?hd (cs := #[.slice A0_0 l0_0.length c0_0, .int .i64 a0_1, .int .i64 a0_2, .slice A0_3 l0_3.length c0_3]) (t := 28) ?hr ?_; (case hd => rfl); (case hg => rfl); (case hr => first | (go_simp; done) | (go_simp; rfl)); intro gb101 hg w4 hbox hb; have n0_ := Aside0.mk (below_step (by repeat (first | (with_reducible first | exact HB.out | apply below_alloc | apply pw_below_drewN | apply below_drew1) | exact HB.out)) hb); have n1_ := Aside0.mk (hbox); have n2_ := Aside0.mk ((by rw [hg]; exact (below_size (by repeat (first | (with_reducible first | exact HB.out | apply below_alloc | apply pw_below_drewN | apply below_drew1) | exact HB.out))) : w.heap.size ≤ gb101)); have n3_ := Aside0.mk ((by rw [hg]; exact (below_size (by repeat (first | (with_reducible first | exact HB.out | apply below_alloc | apply pw_below_drewN | apply below_drew1) | exact HB.out))) : w.heap.size ≤ gb101)); clear HB; have HB := n0_; have BK101 := n1_; have GW101 := n2_; have GE101 := n3_; clear n0_ n1_ n2_ n3_; clear hb hbox hg; have hcz5_0 : w4.cell? ⟨gb101, 0, none⟩ = some (.slice A0_0 l0_0.length c0_0) := (blk_cell BK101.out 0).trans rfl; have hcz5_1 : w4.cell? ⟨gb101, 1, none⟩ = some (.int .i64 a0_1) := (blk_cell BK101.out 1).trans rfl; have hcz5_2 : w4.cell? ⟨gb101, 2, none⟩ = some (.int .i64 a0_2) := (blk_cell BK101.out 2).trans rfl; have hcz5_3 : w4.cell? ⟨gb101, 3, none⟩ = some (.slice A0_3 l0_3.length c0_3) := (blk_cell BK101.out 3).trans rfl; have hfz5_0 := blk_frozen BK101.out 0; have hfz5_1 := blk_frozen BK101.out 1; have hfz5_2 := blk_frozen BK101.out 2; have hfz5_3 := blk_frozen BK101.out 3) | ((with_reducible refine gate_callee (f := 13) rfl ?_); refine goesL_ (some 9) rfl rfl Try.func13 (by kernel_rfl) rfl #[.agg #[.slice A0_0 l0_0.length c0_0, .int .i64 a0_1, .int .i64 a0_2, .slice A0_3 l0_3.length c0_3], .int .i64 1048576] rfl (by (try simp only [List.map_toArray, List.map_cons, List.map_nil]); first | done | rfl | (simp only [List.length_drop, List.length_take]; rfl)) ?_; (with_reducible refine (laws_szImage.calls _ _ l0_0 a0_1 a0_2 _ _ l0_3 1048576 t102 _ ?side1 ?side2 ?side3 ?side4 A2.out).mono ?_); (case side1 => repeat (first | exact (Kd.C_below HR0_0.out HB.out) | (with_reducible refine Kd.C_alloc ?_ _) | (with_reducible refine Kd.C_drewN ?_ _) | (with_reducible refine Kd.C_drew ?_))); (case side2 => exact HC0_0.out); (case side3 => repeat (first | exact (Kd.C_below HR0_3.out HB.out) | (with_reducible refine Kd.C_alloc ?_ _) | (with_reducible refine Kd.C_drewN ?_ _) | (with_reducible refine Kd.C_drew ?_))); (case side4 => exact HC0_3.out); rintro e w6 ⟨rfl, hb⟩; refine ⟨_, rfl, ?_⟩; have n0_ := Aside0.mk (blk_below (g := gb101) (o := .cells #[.slice A0_0 l0_0.length c0_0, .int .i64 a0_1, .int .i64 a0_2, .slice A0_3 l0_3.length c0_3] 28 (0, 0)) (by (with_reducible repeat (first | refine blk_drewN ?_ _ | refine blk_drew ?_ | refine blk_alloc ?_ _)); exact BK101.out) hb); have n1_ := Aside0.mk (below_step (by repeat (first | (with_reducible first | exact HB.out | apply below_alloc | apply pw_below_drewN | apply below_drew1 | refine below_set ?_ GE101.out) | exact HB.out)) hb); clear BK101; clear HB; have BK101 := n0_; have HB := n1_; clear n0_ n1_; (try clear hb); (try clear hb2); (try clear hk); (try clear hi)))
    go_ret
    exact ⟨by first | rfl | (simp [errW_none, errW_some] <;> rfl) | (simp [*, errW_none, errW_some] <;> rfl), by repeat (first | (with_reducible first | exact HB.out | apply below_alloc | apply pw_below_drewN | apply below_drew1 | refine below_set ?_ GE101.out) | exact HB.out)⟩
  · rw [if_neg c3] at H
    have c3b0 : decide (t102 < 0) = false := decide_eq_false c3
    clear c3
    replace H := Option.bind_eq_some_iff.mp H
    obtain ⟨⟨t103, t106, t107, t108⟩, A70, H⟩ := H
    replace H : ((spec_PutImage.f k t103 t106 t107 t108).bind fun t111 => ((laws_toImage.f k l0_0 a0_1 a0_2 l0_3).bind fun bt112 => ((impl_PutImage.f k bt112.1 bt112.2.1 bt112.2.2.1 bt112.2.2.2).bind fun t121 => (if t121.toList = t111.toList then ((laws_toImage.f k l0_0 a0_1 a0_2 l0_3).bind fun bt122 => ((laws_eqImage.f k bt112.1 bt112.2.1 bt112.2.2.1 bt112.2.2.2 bt122.1 bt122.2.1 bt122.2.2.1 bt122.2.2.2).bind fun t130 => (if t130 = true then (some true) else (none)))) else (none))))) = some r := H
    have A7 := Aside0.mk A70
    clear A70
    replace H := Option.bind_eq_some_iff.mp H
    obtain ⟨t111, A80, H⟩ := H
    replace H : ((laws_toImage.f k l0_0 a0_1 a0_2 l0_3).bind fun bt112 => ((impl_PutImage.f k bt112.1 bt112.2.1 bt112.2.2.1 bt112.2.2.2).bind fun t121 => (if t121.toList = t111.toList then ((laws_toImage.f k l0_0 a0_1 a0_2 l0_3).bind fun bt122 => ((laws_eqImage.f k bt112.1 bt112.2.1 bt112.2.2.1 bt112.2.2.2 bt122.1 bt122.2.1 bt122.2.2.1 bt122.2.2.2).bind fun t130 => (if t130 = true then (some true) else (none)))) else (none)))) = some r := H
    have A8 := Aside0.mk A80
    clear A80
    replace H := Option.bind_eq_some_iff.mp H
    obtain ⟨⟨t112, t115, t116, t117⟩, A90, H⟩ := H
    replace H : ((impl_PutImage.f k t112 t115 t116 t117).bind fun t121 => (if t121.toList = t111.toList then ((laws_toImage.f k l0_0 a0_1 a0_2 l0_3).bind fun bt122 => ((laws_eqImage.f k t112 t115 t116 t117 bt122.1 bt122.2.1 bt122.2.2.1 bt122.2.2.2).bind fun t130 => (if t130 = true then (some true) else (none)))) else (none))) = some r := H
    have A9 := Aside0.mk A90
    clear A90
    replace H := Option.bind_eq_some_iff.mp H
    obtain ⟨t121, A100, H⟩ := H
    replace H : (if t121.toList = t111.toList then ((laws_toImage.f k l0_0 a0_1 a0_2 l0_3).bind fun bt122 => ((laws_eqImage.f k t112 t115 t116 t117 bt122.1 bt122.2.1 bt122.2.2.1 bt122.2.2.2).bind fun t130 => (if t130 = true then (some true) else (none)))) else (none)) = some r := H
    have A10 := Aside0.mk A100
    clear A100
    by_cases c11 : t121.toList = t111.toList
    · rw [if_pos c11] at H
      have c11b0 : (t121.toList == t111.toList) = true := beq_iff_eq.mpr c11
      have c11b1 : (t121.toList != t111.toList) = false := bne_eq_false_iff_eq.mpr c11
      clear c11
      replace H := Option.bind_eq_some_iff.mp H
      obtain ⟨⟨t122, t125, t126, t127⟩, A120, H⟩ := H
      replace H : ((laws_eqImage.f k t112 t115 t116 t117 t122 t125 t126 t127).bind fun t130 => (if t130 = true then (some true) else (none))) = some r := H
      have A12 := Aside0.mk A120
      clear A120
      replace H := Option.bind_eq_some_iff.mp H
      obtain ⟨t130, A130, H⟩ := H
      replace H : (if t130 = true then (some true) else (none)) = some r := H
      have A13 := Aside0.mk A130
      clear A130
      by_cases c14 : t130 = true
      · subst c14
        have H1 : (some true) = some r := by rw [if_pos rfl] at H; exact H
        clear H
        have H := H1
        clear H1
        obtain rfl := Option.some.inj H
        go_enter Try.func8, Try.ntmps8
        try go_wp2_with (first | ((with_reducible refine gate_dst (N := 1) rfl ?_); refine box_event ?hg (N := 1) ?hd (cs := #[.slice A0_0 l0_0.length c0_0, .int .i64 a0_1, .int .i64 a0_2, .slice A0_3 l0_3.length c0_3]) (t := 28) ?hr ?_; (case hd => rfl); (case hg => rfl); (case hr => first | (go_simp; done) | (go_simp; rfl)); intro gb101 hg w15 hbox hb; have n0_ := Aside0.mk (below_step (by repeat (first | (with_reducible first | exact HB.out | apply below_alloc | apply pw_below_drewN | apply below_drew1) | exact HB.out)) hb); have n1_ := Aside0.mk (hbox); have n2_ := Aside0.mk ((by rw [hg]; exact (below_size (by repeat (first | (with_reducible first | exact HB.out | apply below_alloc | apply pw_below_drewN | apply below_drew1) | exact HB.out))) : w.heap.size ≤ gb101)); have n3_ := Aside0.mk ((by rw [hg]; exact (below_size (by repeat (first | (with_reducible first | exact HB.out | apply below_alloc | apply pw_below_drewN | apply below_drew1) | exact HB.out))) : w.heap.size ≤ gb101)); clear HB; have HB := n0_; have BK101 := n1_; have GW101 := n2_; have GE101 := n3_; clear n0_ n1_ n2_ n3_; clear hb hbox hg; have hcz16_0 : w15.cell? ⟨gb101, 0, none⟩ = some (.slice A0_0 l0_0.length c0_0) := (blk_cell BK101.out 0).trans rfl; have hcz16_1 : w15.cell? ⟨gb101, 1, none⟩ = some (.int .i64 a0_1) := (blk_cell BK101.out 1).trans rfl; have hcz16_2 : w15.cell? ⟨gb101, 2, none⟩ = some (.int .i64 a0_2) := (blk_cell BK101.out 2).trans rfl; have hcz16_3 : w15.cell? ⟨gb101, 3, none⟩ = some (.slice A0_3 l0_3.length c0_3) := (blk_cell BK101.out 3).trans rfl; have hfz16_0 := blk_frozen BK101.out 0; have hfz16_1 := blk_frozen BK101.out 1; have hfz16_2 := blk_frozen BK101.out 2; have hfz16_3 := blk_frozen BK101.out 3) | ((with_reducible refine gate_callee (f := 13) rfl ?_); refine goesL_ (some 9) rfl rfl Try.func13 (by kernel_rfl) rfl #[.agg #[.slice A0_0 l0_0.length c0_0, .int .i64 a0_1, .int .i64 a0_2, .slice A0_3 l0_3.length c0_3], .int .i64 1048576] rfl (by (try simp only [List.map_toArray, List.map_cons, List.map_nil]); first | done | rfl | (simp only [List.length_drop, List.length_take]; rfl)) ?_; (with_reducible refine (laws_szImage.calls _ _ l0_0 a0_1 a0_2 _ _ l0_3 1048576 t102 _ ?side1 ?side2 ?side3 ?side4 A2.out).mono ?_); (case side1 => repeat (first | exact (Kd.C_below HR0_0.out HB.out) | (with_reducible refine Kd.C_alloc ?_ _) | (with_reducible refine Kd.C_drewN ?_ _) | (with_reducible refine Kd.C_drew ?_))); (case side2 => exact HC0_0.out); (case side3 => repeat (first | exact (Kd.C_below HR0_3.out HB.out) | (with_reducible refine Kd.C_alloc ?_ _) | (with_reducible refine Kd.C_drewN ?_ _) | (with_reducible refine Kd.C_drew ?_))); (case side4 => exact HC0_3.out); rintro e w17 ⟨rfl, hb⟩; refine ⟨_, rfl, ?_⟩; have n0_ := Aside0.mk (blk_below (g := gb101) (o := .cells #[.slice A0_0 l0_0.length c0_0, .int .i64 a0_1, .int .i64 a0_2, .slice A0_3 l0_3.length c0_3] 28 (0, 0)) (by (with_reducible repeat (first | refine blk_drewN ?_ _ | refine blk_drew ?_ | refine blk_alloc ?_ _)); exact BK101.out) hb); have n1_ := Aside0.mk (below_step (by repeat (first | (with_reducible first | exact HB.out | apply below_alloc | apply pw_below_drewN | apply below_drew1 | refine below_set ?_ GE101.out) | exact HB.out)) hb); clear BK101; clear HB; have BK101 := n0_; have HB := n1_; clear n0_ n1_; (try clear hb); (try clear hb2); (try clear hk); (try clear hi); have hcz18_0 : w17.cell? ⟨gb101, 0, none⟩ = some (.slice A0_0 l0_0.length c0_0) := (blk_cell BK101.out 0).trans rfl; have hcz18_1 : w17.cell? ⟨gb101, 1, none⟩ = some (.int .i64 a0_1) := (blk_cell BK101.out 1).trans rfl; have hcz18_2 : w17.cell? ⟨gb101, 2, none⟩ = some (.int .i64 a0_2) := (blk_cell BK101.out 2).trans rfl; have hcz18_3 : w17.cell? ⟨gb101, 3, none⟩ = some (.slice A0_3 l0_3.length c0_3) := (blk_cell BK101.out 3).trans rfl; have hfz18_0 := blk_frozen BK101.out 0; have hfz18_1 := blk_frozen BK101.out 1; have hfz18_2 := blk_frozen BK101.out 2; have hfz18_3 := blk_frozen BK101.out 3) | ((with_reducible refine gate_callee (f := 15) rfl ?_); refine goesL_ (some 13) rfl rfl Try.func15 (by kernel_rfl) rfl #[.agg #[.slice A0_0 l0_0.length c0_0, .int .i64 a0_1, .int .i64 a0_2, .slice A0_3 l0_3.length c0_3]] rfl (by (try simp only [List.map_toArray, List.map_cons, List.map_nil]); first | done | rfl | (simp only [List.length_drop, List.length_take]; rfl)) ?_; (with_reducible refine (laws_toImage.calls k _ _ l0_0 a0_1 a0_2 _ _ l0_3 t103 t106 t107 t108 _ ?side1 ?side2 ?side3 ?side4 A7.out).mono ?_); (case side1 => repeat (first | exact (Kd.C_below HR0_0.out HB.out) | (with_reducible refine Kd.C_alloc ?_ _) | (with_reducible refine Kd.C_drewN ?_ _) | (with_reducible refine Kd.C_drew ?_))); (case side2 => exact HC0_0.out); (case side3 => repeat (first | exact (Kd.C_below HR0_3.out HB.out) | (with_reducible refine Kd.C_alloc ?_ _) | (with_reducible refine Kd.C_drewN ?_ _) | (with_reducible refine Kd.C_drew ?_))); (case side4 => exact HC0_3.out); rintro e w19 ⟨v104, v109, rfl, ho0, ho1, hb⟩; refine ⟨_, rfl, ?_⟩; have n0_ := Aside0.mk (Kd.R_lower ho0 (below_size (by repeat (first | (with_reducible first | exact HB.out | apply below_alloc | apply pw_below_drewN | apply below_drew1 | refine below_set ?_ GE101.out) | exact HB.out)))); have n1_ := Aside0.mk (Kd.R_lower ho1 (below_size (by repeat (first | (with_reducible first | exact HB.out | apply below_alloc | apply pw_below_drewN | apply below_drew1 | refine below_set ?_ GE101.out) | exact HB.out)))); have n2_ := Aside0.mk (blk_below (g := gb101) (o := .cells #[.slice A0_0 l0_0.length c0_0, .int .i64 a0_1, .int .i64 a0_2, .slice A0_3 l0_3.length c0_3] 28 (0, 0)) (by (with_reducible repeat (first | refine blk_drewN ?_ _ | refine blk_drew ?_ | refine blk_alloc ?_ _)); exact BK101.out) hb); have n3_ := Aside0.mk (below_step (by repeat (first | (with_reducible first | exact HB.out | apply below_alloc | apply pw_below_drewN | apply below_drew1 | refine below_set ?_ GE101.out) | exact HB.out)) hb); clear BK101; clear HB; have HO105 := n0_; have HO110 := n1_; have BK101 := n2_; have HB := n3_; clear n0_ n1_ n2_ n3_; (try clear hb); (try clear hb2); (try clear hk); (try clear hi); (try clear ho0); (try clear ho1); obtain ⟨Ao20, co20, eo20⟩ := Kd.R_slice HO105.out; subst eo20; obtain ⟨Ao21, co21, eo21⟩ := Kd.R_slice HO110.out; subst eo21) | ((with_reducible refine gate_callee (f := 27) rfl ?_); refine goesL_ (some 14) rfl rfl Try.func27 (by kernel_rfl) rfl #[.agg #[.slice Ao20 t103.length co20, .int .i64 t106, .int .i64 t107, .slice Ao21 t108.length co21]] rfl (by (try simp only [List.map_toArray, List.map_cons, List.map_nil]); first | done | rfl | (simp only [List.length_drop, List.length_take]; rfl)) ?_; (with_reducible refine (spec_PutImage.calls k _ _ t103 t106 t107 _ _ t108 t111 _ ?side1 ?side2 ?side3 ?side4 A8.out).mono ?_); (case side1 => repeat (first | exact (Kd.R_reads' HO105.out).2.2 | (with_reducible refine Kd.C_alloc ?_ _) | (with_reducible refine Kd.C_drewN ?_ _) | (with_reducible refine Kd.C_drew ?_))); (case side2 => exact (Kd.R_reads' HO105.out).2.1); (case side3 => repeat (first | exact (Kd.R_reads' HO110.out).2.2 | (with_reducible refine Kd.C_alloc ?_ _) | (with_reducible refine Kd.C_drewN ?_ _) | (with_reducible refine Kd.C_drew ?_))); (case side4 => exact (Kd.R_reads' HO110.out).2.1); rintro e w22 ⟨rfl, hb⟩; refine ⟨_, rfl, ?_⟩; have n0_ := Aside0.mk (Kd.R_below (by (with_reducible repeat (first | apply Kd.R_alloc | apply Kd.R_drewN | apply Kd.R_drew)); exact HO105.out) hb); have n1_ := Aside0.mk (Kd.R_below (by (with_reducible repeat (first | apply Kd.R_alloc | apply Kd.R_drewN | apply Kd.R_drew)); exact HO110.out) hb); have n2_ := Aside0.mk (blk_below (g := gb101) (o := .cells #[.slice A0_0 l0_0.length c0_0, .int .i64 a0_1, .int .i64 a0_2, .slice A0_3 l0_3.length c0_3] 28 (0, 0)) (by (with_reducible repeat (first | refine blk_drewN ?_ _ | refine blk_drew ?_ | refine blk_alloc ?_ _)); exact BK101.out) hb); have n3_ := Aside0.mk (below_step (by repeat (first | (with_reducible first | exact HB.out | apply below_alloc | apply pw_below_drewN | apply below_drew1 | refine below_set ?_ GE101.out) | exact HB.out)) hb); clear HO105; clear HO110; clear BK101; clear HB; have HO105 := n0_; have HO110 := n1_; have BK101 := n2_; have HB := n3_; clear n0_ n1_ n2_ n3_; (try clear hb); (try clear hb2); (try clear hk); (try clear hi); have hcz23_0 : w22.cell? ⟨gb101, 0, none⟩ = some (.slice A0_0 l0_0.length c0_0) := (blk_cell BK101.out 0).trans rfl; have hcz23_1 : w22.cell? ⟨gb101, 1, none⟩ = some (.int .i64 a0_1) := (blk_cell BK101.out 1).trans rfl; have hcz23_2 : w22.cell? ⟨gb101, 2, none⟩ = some (.int .i64 a0_2) := (blk_cell BK101.out 2).trans rfl; have hcz23_3 : w22.cell? ⟨gb101, 3, none⟩ = some (.slice A0_3 l0_3.length c0_3) := (blk_cell BK101.out 3).trans rfl; have hfz23_0 := blk_frozen BK101.out 0; have hfz23_1 := blk_frozen BK101.out 1; have hfz23_2 := blk_frozen BK101.out 2; have hfz23_3 := blk_frozen BK101.out 3) | ((with_reducible refine gate_callee (f := 15) rfl ?_); refine goesL_ (some 16) rfl rfl Try.func15 (by kernel_rfl) rfl #[.agg #[.slice A0_0 l0_0.length c0_0, .int .i64 a0_1, .int .i64 a0_2, .slice A0_3 l0_3.length c0_3]] rfl (by (try simp only [List.map_toArray, List.map_cons, List.map_nil]); first | done | rfl | (simp only [List.length_drop, List.length_take]; rfl)) ?_; (with_reducible refine (laws_toImage.calls k _ _ l0_0 a0_1 a0_2 _ _ l0_3 t112 t115 t116 t117 _ ?side1 ?side2 ?side3 ?side4 A9.out).mono ?_); (case side1 => repeat (first | exact (Kd.C_below HR0_0.out HB.out) | (with_reducible refine Kd.C_alloc ?_ _) | (with_reducible refine Kd.C_drewN ?_ _) | (with_reducible refine Kd.C_drew ?_))); (case side2 => exact HC0_0.out); (case side3 => repeat (first | exact (Kd.C_below HR0_3.out HB.out) | (with_reducible refine Kd.C_alloc ?_ _) | (with_reducible refine Kd.C_drewN ?_ _) | (with_reducible refine Kd.C_drew ?_))); (case side4 => exact HC0_3.out); rintro e w24 ⟨v113, v118, rfl, ho0, ho1, hb⟩; refine ⟨_, rfl, ?_⟩; have n0_ := Aside0.mk (Kd.R_elder' (by (with_reducible repeat (first | apply Kd.R_alloc | apply Kd.R_drewN | apply Kd.R_drew)); exact HO105.out) (Kd.R_base ho0) hb); have n1_ := Aside0.mk (Kd.R_elder' (by (with_reducible repeat (first | apply Kd.R_alloc | apply Kd.R_drewN | apply Kd.R_drew)); exact HO110.out) (Kd.R_base ho1) hb); have n2_ := Aside0.mk (Kd.R_lower (Kd.R_new' ho0 (Kd.R_lt (by (with_reducible repeat (first | apply Kd.R_alloc | apply Kd.R_drewN | apply Kd.R_drew)); exact HO105.out))) (below_size (by repeat (first | (with_reducible first | exact HB.out | apply below_alloc | apply pw_below_drewN | apply below_drew1 | refine below_set ?_ GE101.out) | exact HB.out)))); have n3_ := Aside0.mk (Kd.R_lower (Kd.R_new' ho1 (Kd.R_lt (by (with_reducible repeat (first | apply Kd.R_alloc | apply Kd.R_drewN | apply Kd.R_drew)); exact HO110.out))) (below_size (by repeat (first | (with_reducible first | exact HB.out | apply below_alloc | apply pw_below_drewN | apply below_drew1 | refine below_set ?_ GE101.out) | exact HB.out)))); have n4_ := Aside0.mk (blk_below (g := gb101) (o := .cells #[.slice A0_0 l0_0.length c0_0, .int .i64 a0_1, .int .i64 a0_2, .slice A0_3 l0_3.length c0_3] 28 (0, 0)) (by (with_reducible repeat (first | refine blk_drewN ?_ _ | refine blk_drew ?_ | refine blk_alloc ?_ _)); exact BK101.out) hb); have n5_ := Aside0.mk (below_step (by repeat (first | (with_reducible first | exact HB.out | apply below_alloc | apply pw_below_drewN | apply below_drew1 | refine below_set ?_ GE101.out) | exact HB.out)) hb); clear HO105; clear HO110; clear BK101; clear HB; have HO105 := n0_; have HO110 := n1_; have HO114 := n2_; have HO119 := n3_; have BK101 := n4_; have HB := n5_; clear n0_ n1_ n2_ n3_ n4_ n5_; (try clear hb); (try clear hb2); (try clear hk); (try clear hi); (try clear ho0); (try clear ho1)) | ((with_reducible refine gate_dst (N := 5) rfl ?_); refine box_event ?hg (N := 5) ?hd (cs := #[.slice none 0 0, .int .i64 0, .int .i64 0, .slice none 0 0]) (t := 33) ?hr ?_; (case hd => rfl); (case hg => rfl); (case hr => first | (go_simp; done) | (go_simp; rfl)); intro gb120 hg w25 hbox hb; have n0_ := Aside0.mk (Kd.R_below (by (with_reducible repeat (first | apply Kd.R_alloc | apply Kd.R_drewN | apply Kd.R_drew)); exact HO105.out) hb); have n1_ := Aside0.mk (Kd.R_below (by (with_reducible repeat (first | apply Kd.R_alloc | apply Kd.R_drewN | apply Kd.R_drew)); exact HO110.out) hb); have n2_ := Aside0.mk (Kd.R_below (by (with_reducible repeat (first | apply Kd.R_alloc | apply Kd.R_drewN | apply Kd.R_drew)); exact HO114.out) hb); have n3_ := Aside0.mk (Kd.R_below (by (with_reducible repeat (first | apply Kd.R_alloc | apply Kd.R_drewN | apply Kd.R_drew)); exact HO119.out) hb); have n4_ := Aside0.mk (blk_below (g := gb101) (o := .cells #[.slice A0_0 l0_0.length c0_0, .int .i64 a0_1, .int .i64 a0_2, .slice A0_3 l0_3.length c0_3] 28 (0, 0)) (by (with_reducible repeat (first | refine blk_drewN ?_ _ | refine blk_drew ?_ | refine blk_alloc ?_ _)); exact BK101.out) hb); have n5_ := Aside0.mk (below_step (by repeat (first | (with_reducible first | exact HB.out | apply below_alloc | apply pw_below_drewN | apply below_drew1 | refine below_set ?_ GE101.out) | exact HB.out)) hb); have n6_ := Aside0.mk (hbox); have n7_ := Aside0.mk ((by rw [hg]; exact (below_size (by repeat (first | (with_reducible first | exact HB.out | apply below_alloc | apply pw_below_drewN | apply below_drew1 | refine below_set ?_ GE101.out) | exact HB.out))) : w.heap.size ≤ gb120)); have n8_ := Aside0.mk ((by rw [hg]; exact (below_size (by repeat (first | (with_reducible first | exact HB.out | apply below_alloc | apply pw_below_drewN | apply below_drew1 | refine below_set ?_ GE101.out) | exact HB.out))) : w.heap.size ≤ gb120)); have n9_ := Aside0.mk ((by rw [hg]; exact Nat.ne_of_lt (blk_lt (g := gb101) (o := .cells #[.slice A0_0 l0_0.length c0_0, .int .i64 a0_1, .int .i64 a0_2, .slice A0_3 l0_3.length c0_3] 28 (0, 0)) (by (with_reducible repeat (first | refine blk_drewN ?_ _ | refine blk_drew ?_ | refine blk_alloc ?_ _)); exact BK101.out)) : gb101 ≠ gb120)); have n10_ := Aside0.mk ((by rw [hg]; exact Nat.ne_of_gt (blk_lt (g := gb101) (o := .cells #[.slice A0_0 l0_0.length c0_0, .int .i64 a0_1, .int .i64 a0_2, .slice A0_3 l0_3.length c0_3] 28 (0, 0)) (by (with_reducible repeat (first | refine blk_drewN ?_ _ | refine blk_drew ?_ | refine blk_alloc ?_ _)); exact BK101.out)) : gb120 ≠ gb101)); clear HO105; clear HO110; clear HO114; clear HO119; clear BK101; clear HB; have HO105 := n0_; have HO110 := n1_; have HO114 := n2_; have HO119 := n3_; have BK101 := n4_; have HB := n5_; have BK120 := n6_; have GW120 := n7_; have GE120 := n8_; have NB101_120 := n9_; have NB120_101 := n10_; clear n0_ n1_ n2_ n3_ n4_ n5_ n6_ n7_ n8_ n9_ n10_; clear hb hbox hg; obtain ⟨Ao26, co26, eo26⟩ := Kd.R_slice HO114.out; subst eo26; have hnb27 := NB120_101.out; have hnc27 := NB101_120.out; have hcz28_0 : w25.cell? ⟨gb120, 0, none⟩ = some (.slice none 0 0) := (blk_cell BK120.out 0).trans rfl; have hcz28_1 : w25.cell? ⟨gb120, 1, none⟩ = some (.int .i64 0) := (blk_cell BK120.out 1).trans rfl; have hcz28_2 : w25.cell? ⟨gb120, 2, none⟩ = some (.int .i64 0) := (blk_cell BK120.out 2).trans rfl; have hcz28_3 : w25.cell? ⟨gb120, 3, none⟩ = some (.slice none 0 0) := (blk_cell BK120.out 3).trans rfl; have hfz28_0 := blk_frozen BK120.out 0; have hfz28_1 := blk_frozen BK120.out 1; have hfz28_2 := blk_frozen BK120.out 2; have hfz28_3 := blk_frozen BK120.out 3; obtain ⟨Ao29, co29, eo29⟩ := Kd.R_slice HO119.out; subst eo29) | ((with_reducible refine gate_callee (f := 28) rfl ?_); refine goesL_ (some 18) rfl rfl Try.func28 (by kernel_rfl) rfl #[.agg #[.slice Ao26 t112.length co26, .int .i64 t115, .int .i64 t116, .slice Ao29 t117.length co29]] rfl (by (try simp only [List.map_toArray, List.map_cons, List.map_nil]); first | done | rfl | (simp only [List.length_drop, List.length_take]; rfl)) ?_; (with_reducible refine (impl_PutImage.calls k _ _ t112 t115 t116 _ _ t117 t121 _ ?side1 ?side2 ?side3 ?side4 A10.out).mono ?_); (case side1 => refine (Kd.R_reads' (e := 3) (base := w.heap.size) (ok := fun k_ => (True ∧ some k_ ≠ (.slice Ao20 t103.length co20 : Value).ownBlock)) (n := t112.length) (c := co26) ?_).2.2; exact (by (with_reducible repeat (first | apply Kd.R_alloc | apply Kd.R_drewN | apply Kd.R_drew)); exact (Kd.R_mono (Kd.R_far (p := ⟨gb120, 3, none⟩) (Kd.R_far (p := ⟨gb120, 2, none⟩) (Kd.R_far (p := ⟨gb120, 1, none⟩) (Kd.R_far (p := ⟨gb120, 0, none⟩) (Kd.R_types HO114.out BK120.out (by decide)) (fun _ hk => hk.2) (.slice Ao26 t112.length co26)) (fun _ hk => hk.2) (.int .i64 t115)) (fun _ hk => hk.2) (.int .i64 t116)) (fun _ hk => hk.2) (.slice Ao29 t117.length co29)) (fun _ h_ => h_.1)))); (case side2 => exact (Kd.R_reads' HO114.out).2.1); (case side3 => refine (Kd.R_reads' (e := 59) (base := w.heap.size) (ok := fun k_ => (True ∧ some k_ ≠ (.slice Ao21 t108.length co21 : Value).ownBlock)) (n := t117.length) (c := co29) ?_).2.2; exact (by (with_reducible repeat (first | apply Kd.R_alloc | apply Kd.R_drewN | apply Kd.R_drew)); exact (Kd.R_mono (Kd.R_far (p := ⟨gb120, 3, none⟩) (Kd.R_far (p := ⟨gb120, 2, none⟩) (Kd.R_far (p := ⟨gb120, 1, none⟩) (Kd.R_far (p := ⟨gb120, 0, none⟩) (Kd.R_types HO119.out BK120.out (by decide)) (fun _ hk => hk.2) (.slice Ao26 t112.length co26)) (fun _ hk => hk.2) (.int .i64 t115)) (fun _ hk => hk.2) (.int .i64 t116)) (fun _ hk => hk.2) (.slice Ao29 t117.length co29)) (fun _ h_ => h_.1)))); (case side4 => exact (Kd.R_reads' HO119.out).2.1); rintro e w30 ⟨rfl, hb⟩; refine ⟨_, rfl, ?_⟩; have n0_ := Aside0.mk (Kd.R_below (by (with_reducible repeat (first | apply Kd.R_alloc | apply Kd.R_drewN | apply Kd.R_drew)); exact (Kd.R_mono (Kd.R_far (p := ⟨gb120, 3, none⟩) (Kd.R_far (p := ⟨gb120, 2, none⟩) (Kd.R_far (p := ⟨gb120, 1, none⟩) (Kd.R_far (p := ⟨gb120, 0, none⟩) (Kd.R_types HO105.out BK120.out (by decide)) (fun _ hk => hk.2) (.slice Ao26 t112.length co26)) (fun _ hk => hk.2) (.int .i64 t115)) (fun _ hk => hk.2) (.int .i64 t116)) (fun _ hk => hk.2) (.slice Ao29 t117.length co29)) (fun _ h_ => h_.1))) hb); have n1_ := Aside0.mk (Kd.R_below (by (with_reducible repeat (first | apply Kd.R_alloc | apply Kd.R_drewN | apply Kd.R_drew)); exact (Kd.R_mono (Kd.R_far (p := ⟨gb120, 3, none⟩) (Kd.R_far (p := ⟨gb120, 2, none⟩) (Kd.R_far (p := ⟨gb120, 1, none⟩) (Kd.R_far (p := ⟨gb120, 0, none⟩) (Kd.R_types HO110.out BK120.out (by decide)) (fun _ hk => hk.2) (.slice Ao26 t112.length co26)) (fun _ hk => hk.2) (.int .i64 t115)) (fun _ hk => hk.2) (.int .i64 t116)) (fun _ hk => hk.2) (.slice Ao29 t117.length co29)) (fun _ h_ => h_.1))) hb); have n2_ := Aside0.mk (Kd.R_below (by (with_reducible repeat (first | apply Kd.R_alloc | apply Kd.R_drewN | apply Kd.R_drew)); exact (Kd.R_mono (Kd.R_far (p := ⟨gb120, 3, none⟩) (Kd.R_far (p := ⟨gb120, 2, none⟩) (Kd.R_far (p := ⟨gb120, 1, none⟩) (Kd.R_far (p := ⟨gb120, 0, none⟩) (Kd.R_types HO114.out BK120.out (by decide)) (fun _ hk => hk.2) (.slice Ao26 t112.length co26)) (fun _ hk => hk.2) (.int .i64 t115)) (fun _ hk => hk.2) (.int .i64 t116)) (fun _ hk => hk.2) (.slice Ao29 t117.length co29)) (fun _ h_ => h_.1))) hb); have n3_ := Aside0.mk (Kd.R_below (by (with_reducible repeat (first | apply Kd.R_alloc | apply Kd.R_drewN | apply Kd.R_drew)); exact (Kd.R_mono (Kd.R_far (p := ⟨gb120, 3, none⟩) (Kd.R_far (p := ⟨gb120, 2, none⟩) (Kd.R_far (p := ⟨gb120, 1, none⟩) (Kd.R_far (p := ⟨gb120, 0, none⟩) (Kd.R_types HO119.out BK120.out (by decide)) (fun _ hk => hk.2) (.slice Ao26 t112.length co26)) (fun _ hk => hk.2) (.int .i64 t115)) (fun _ hk => hk.2) (.int .i64 t116)) (fun _ hk => hk.2) (.slice Ao29 t117.length co29)) (fun _ h_ => h_.1))) hb); have n4_ := Aside0.mk (blk_below (g := gb101) (o := .cells #[.slice A0_0 l0_0.length c0_0, .int .i64 a0_1, .int .i64 a0_2, .slice A0_3 l0_3.length c0_3] 28 (0, 0)) (by (with_reducible repeat (first | refine blk_drewN ?_ _ | refine blk_drew ?_ | refine blk_alloc ?_ _)); refine blk_far ?_ NB101_120.out _; (with_reducible repeat (first | refine blk_drewN ?_ _ | refine blk_drew ?_ | refine blk_alloc ?_ _)); refine blk_far ?_ NB101_120.out _; (with_reducible repeat (first | refine blk_drewN ?_ _ | refine blk_drew ?_ | refine blk_alloc ?_ _)); refine blk_far ?_ NB101_120.out _; (with_reducible repeat (first | refine blk_drewN ?_ _ | refine blk_drew ?_ | refine blk_alloc ?_ _)); refine blk_far ?_ NB101_120.out _; (with_reducible repeat (first | refine blk_drewN ?_ _ | refine blk_drew ?_ | refine blk_alloc ?_ _)); exact BK101.out) hb); have n5_ := Aside0.mk (blk_below (g := gb120) (o := .cells #[.slice Ao26 t112.length co26, .int .i64 t115, .int .i64 t116, .slice Ao29 t117.length co29] 33 (0, 0)) (by (with_reducible repeat (first | refine blk_drewN ?_ _ | refine blk_drew ?_ | refine blk_alloc ?_ _)); refine blk_put (cs := #[.slice Ao26 t112.length co26, .int .i64 t115, .int .i64 t116, .slice none 0 0]) ?_ 3 _ rfl; (with_reducible repeat (first | refine blk_drewN ?_ _ | refine blk_drew ?_ | refine blk_alloc ?_ _)); refine blk_put (cs := #[.slice Ao26 t112.length co26, .int .i64 t115, .int .i64 0, .slice none 0 0]) ?_ 2 _ rfl; (with_reducible repeat (first | refine blk_drewN ?_ _ | refine blk_drew ?_ | refine blk_alloc ?_ _)); refine blk_put (cs := #[.slice Ao26 t112.length co26, .int .i64 0, .int .i64 0, .slice none 0 0]) ?_ 1 _ rfl; (with_reducible repeat (first | refine blk_drewN ?_ _ | refine blk_drew ?_ | refine blk_alloc ?_ _)); refine blk_put (cs := #[.slice none 0 0, .int .i64 0, .int .i64 0, .slice none 0 0]) ?_ 0 _ rfl; (with_reducible repeat (first | refine blk_drewN ?_ _ | refine blk_drew ?_ | refine blk_alloc ?_ _)); exact BK120.out) hb); have n6_ := Aside0.mk (below_step (by repeat (first | (with_reducible first | exact HB.out | apply below_alloc | apply pw_below_drewN | apply below_drew1 | refine below_set ?_ GE101.out | refine below_set ?_ GE120.out) | exact HB.out)) hb); clear HO105; clear HO110; clear HO114; clear HO119; clear BK101; clear BK120; clear HB; have HO105 := n0_; have HO110 := n1_; have HO114 := n2_; have HO119 := n3_; have BK101 := n4_; have BK120 := n5_; have HB := n6_; clear n0_ n1_ n2_ n3_ n4_ n5_ n6_; (try clear hb); (try clear hb2); (try clear hk); (try clear hi)))
        have n0_ := Aside0.mk (Kd.R_drew HO105.out)
        have n1_ := Aside0.mk (Kd.R_drew HO110.out)
        have n2_ := Aside0.mk (Kd.R_drew HO114.out)
        have n3_ := Aside0.mk (Kd.R_drew HO119.out)
        have n4_ := Aside0.mk (blk_drew BK101.out)
        have n5_ := Aside0.mk (blk_drew BK120.out)
        have n6_ := Aside0.mk (below_drew1 HB.out)
        clear HO105
        clear HO110
        clear HO114
        clear HO119
        clear BK101
        clear BK120
        clear HB
        have HO105 := n0_
        have HO110 := n1_
        have HO114 := n2_
        have HO119 := n3_
        have BK101 := n4_
        have BK120 := n5_
        have HB := n6_
        clear n0_ n1_ n2_ n3_ n4_ n5_ n6_
        refine start_ (n := 5) (S := fun w' => w'.cell? ⟨gb120, 0, none⟩ = some (.slice Ao26 t112.length co26) ∧ w'.cell? ⟨gb120, 1, none⟩ = some (.int .i64 t115) ∧ w'.cell? ⟨gb120, 2, none⟩ = some (.int .i64 t116) ∧ w'.cell? ⟨gb120, 3, none⟩ = some (.slice Ao29 t117.length co29) ∧ w'.cell? ⟨gb101, 0, none⟩ = some (.slice A0_0 l0_0.length c0_0) ∧ w'.cell? ⟨gb101, 1, none⟩ = some (.int .i64 a0_1) ∧ w'.cell? ⟨gb101, 2, none⟩ = some (.int .i64 a0_2) ∧ w'.cell? ⟨gb101, 3, none⟩ = some (.slice A0_3 l0_3.length c0_3)) (ds := []) #[false, false, false, false, false] (by kernel_rfl) rfl rfl ⟨(blk_cell BK120.out 0).trans rfl, (blk_cell BK120.out 1).trans rfl, (blk_cell BK120.out 2).trans rfl, (blk_cell BK120.out 3).trans rfl, (blk_cell BK101.out 0).trans rfl, (blk_cell BK101.out 1).trans rfl, (blk_cell BK101.out 2).trans rfl, (blk_cell BK101.out 3).trans rfl⟩ (fun hHeld => ?_)
        generalize w30.drew = w31 at HO105 HO110 HO114 HO119 BK101 BK120 HB hHeld ⊢
        refine take_ (i := 0) (N := some 22) (v := ?_) (a' := ?_) #[true, false, false, false, false] rfl rfl (by kernel_rfl) (fun _ _ _ h => h) (Or.inl ⟨by rfl, ?_⟩) hHeld ?_ ?_
        rotate_left
        · rintro w' ⟨s0, s1, s2, s3, s4, s5, s6, s7⟩
          go_simp
          with_reducible rfl
        rotate_left
        · simp only [Act.put, List.setIfInBounds_toArray, List.set_cons_zero, List.set_cons_succ, i64_w, i32_w]
          rfl
        refine take_ (i := 1) (N := some 23) (v := ?_) (a' := ?_) #[true, true, false, false, false] rfl rfl (by kernel_rfl) (fun _ _ _ h => h) (Or.inl ⟨by rfl, ?_⟩) hHeld ?_ ?_
        rotate_left
        · rintro w' ⟨s0, s1, s2, s3, s4, s5, s6, s7⟩
          go_simp
          with_reducible rfl
        rotate_left
        · simp only [Act.put, List.setIfInBounds_toArray, List.set_cons_zero, List.set_cons_succ, i64_w, i32_w]
          rfl
        refine one_ (i := 2) (N := some 24) #[true, true, true, false, false] rfl rfl (by kernel_rfl) (by decide) (fun K hK => ?_)
        refine goes_ Try.func15 (by kernel_rfl) rfl #[.agg #[.slice A0_0 l0_0.length c0_0, .int .i64 a0_1, .int .i64 a0_2, .slice A0_3 l0_3.length c0_3]] (by rfl) rfl rfl (by (try simp only [List.map_toArray, List.map_cons, List.map_nil]); first | done | rfl | (simp only [List.length_drop, List.length_take]; rfl)) ?_
        with_reducible refine (laws_toImage.calls k _ _ l0_0 a0_1 a0_2 _ _ l0_3 t122 t125 t126 t127 _ ?side1 ?side2 ?side3 ?side4 A12.out).mono ?_
        (case side1 => repeat (first | exact (Kd.C_below HR0_0.out HB.out) | (with_reducible refine Kd.C_alloc ?_ _) | (with_reducible refine Kd.C_drewN ?_ _) | (with_reducible refine Kd.C_drew ?_)))
        (case side2 => exact HC0_0.out)
        (case side3 => repeat (first | exact (Kd.C_below HR0_3.out HB.out) | (with_reducible refine Kd.C_alloc ?_ _) | (with_reducible refine Kd.C_drewN ?_ _) | (with_reducible refine Kd.C_drew ?_)))
        (case side4 => exact HC0_3.out)
        rintro e w32 ⟨v123, v128, rfl, ho0, ho1, hb⟩
        refine ⟨_, rfl, ?_⟩
        have n0_ := Aside0.mk (Kd.R_elder' (by (with_reducible repeat (first | apply Kd.R_alloc | apply Kd.R_drewN | apply Kd.R_drew)); exact HO105.out) (Kd.R_base ho0) hb)
        have n1_ := Aside0.mk (Kd.R_elder' (by (with_reducible repeat (first | apply Kd.R_alloc | apply Kd.R_drewN | apply Kd.R_drew)); exact HO110.out) (Kd.R_base ho1) hb)
        have n2_ := Aside0.mk (Kd.R_elder' (by (with_reducible repeat (first | apply Kd.R_alloc | apply Kd.R_drewN | apply Kd.R_drew)); exact HO114.out) (Kd.R_base ho0) hb)
        have n3_ := Aside0.mk (Kd.R_elder' (by (with_reducible repeat (first | apply Kd.R_alloc | apply Kd.R_drewN | apply Kd.R_drew)); exact HO119.out) (Kd.R_base ho1) hb)
        have n4_ := Aside0.mk (Kd.R_lower (Kd.R_new' (Kd.R_new' ho0 (Kd.R_lt (by (with_reducible repeat (first | apply Kd.R_alloc | apply Kd.R_drewN | apply Kd.R_drew)); exact HO105.out))) (Kd.R_lt (by (with_reducible repeat (first | apply Kd.R_alloc | apply Kd.R_drewN | apply Kd.R_drew)); exact HO114.out))) (below_size (by repeat (first | (with_reducible first | exact HB.out | apply below_alloc | apply pw_below_drewN | apply below_drew1 | refine below_set ?_ GE101.out | refine below_set ?_ GE120.out) | exact HB.out))))
        have n5_ := Aside0.mk (Kd.R_lower (Kd.R_new' (Kd.R_new' ho1 (Kd.R_lt (by (with_reducible repeat (first | apply Kd.R_alloc | apply Kd.R_drewN | apply Kd.R_drew)); exact HO110.out))) (Kd.R_lt (by (with_reducible repeat (first | apply Kd.R_alloc | apply Kd.R_drewN | apply Kd.R_drew)); exact HO119.out))) (below_size (by repeat (first | (with_reducible first | exact HB.out | apply below_alloc | apply pw_below_drewN | apply below_drew1 | refine below_set ?_ GE101.out | refine below_set ?_ GE120.out) | exact HB.out))))
        have n6_ := Aside0.mk (blk_below (g := gb101) (o := .cells #[.slice A0_0 l0_0.length c0_0, .int .i64 a0_1, .int .i64 a0_2, .slice A0_3 l0_3.length c0_3] 28 (0, 0)) (by (with_reducible repeat (first | refine blk_drewN ?_ _ | refine blk_drew ?_ | refine blk_alloc ?_ _)); exact BK101.out) hb)
        have n7_ := Aside0.mk (blk_below (g := gb120) (o := .cells #[.slice Ao26 t112.length co26, .int .i64 t115, .int .i64 t116, .slice Ao29 t117.length co29] 33 (0, 0)) (by (with_reducible repeat (first | refine blk_drewN ?_ _ | refine blk_drew ?_ | refine blk_alloc ?_ _)); exact BK120.out) hb)
        have n8_ := Aside0.mk (below_step (by repeat (first | (with_reducible first | exact HB.out | apply below_alloc | apply pw_below_drewN | apply below_drew1 | refine below_set ?_ GE101.out | refine below_set ?_ GE120.out) | exact HB.out)) hb)
        clear HO105
        clear HO110
        clear HO114
        clear HO119
        clear BK101
        clear BK120
        clear HB
        have HO105 := n0_
        have HO110 := n1_
        have HO114 := n2_
        have HO119 := n3_
        have HO124 := n4_
        have HO129 := n5_
        have BK101 := n6_
        have BK120 := n7_
        have HB := n8_
        clear n0_ n1_ n2_ n3_ n4_ n5_ n6_ n7_ n8_
        (try clear hb)
        (try clear hb2)
        (try clear hk)
        (try clear hi)
        (try clear ho0)
        (try clear ho1)
        obtain ⟨Ao33, co33, eo33⟩ := Kd.R_slice HO124.out
        (first | subst eo33 | (injection eo33 with f1_ f2_ f3_; have f4_ := f1_.symm; have f5_ := f3_.symm; clear f1_ f2_ f3_; subst f4_; subst f5_))
        obtain ⟨Ao34, co34, eo34⟩ := Kd.R_slice HO129.out
        (first | subst eo34 | (injection eo34 with f1_ f2_ f3_; have f4_ := f1_.symm; have f5_ := f3_.symm; clear f1_ f2_ f3_; subst f4_; subst f5_))
        refine hK.out _ _ ⟨(blk_cell BK120.out 0).trans rfl, (blk_cell BK120.out 1).trans rfl, (blk_cell BK120.out 2).trans rfl, (blk_cell BK120.out 3).trans rfl, (blk_cell BK101.out 0).trans rfl, (blk_cell BK101.out 1).trans rfl, (blk_cell BK101.out 2).trans rfl, (blk_cell BK101.out 3).trans rfl⟩ (fun hHeld => ?_)
        clear hK K
        refine norm_ (a' := ?_) ?_ ?_
        rotate_left
        · show Act.put _ (some 24) _ = _
          simp only [Act.put, List.setIfInBounds_toArray, List.set_cons_zero, List.set_cons_succ, i64_w, i32_w]
          rfl
        refine one_ (i := 3) (N := some 25) #[true, true, true, true, false] rfl rfl (by kernel_rfl) (by decide) (fun K hK => ?_)
        refine goes_ Try.func17 (by kernel_rfl) rfl #[.agg #[.slice Ao26 t112.length co26, .int .i64 t115, .int .i64 t116, .slice Ao29 t117.length co29], .agg #[.slice Ao33 t122.length co33, .int .i64 t125, .int .i64 t126, .slice Ao34 t127.length co34]] (by rfl) rfl rfl (by (try simp only [List.map_toArray, List.map_cons, List.map_nil]); first | done | rfl | (simp only [List.length_drop, List.length_take]; rfl)) ?_
        with_reducible refine (laws_eqImage.calls k _ _ t112 t115 t116 _ _ t117 _ _ t122 t125 t126 _ _ t127 true _ ?side1 ?side2 ?side3 ?side4 ?side5 ?side6 ?side7 ?side8 A13.out).mono ?_
        (case side1 => repeat (first | exact (Kd.R_reads' HO114.out).2.2 | (with_reducible refine Kd.C_alloc ?_ _) | (with_reducible refine Kd.C_drewN ?_ _) | (with_reducible refine Kd.C_drew ?_)))
        (case side2 => exact (Kd.R_reads' HO114.out).2.1)
        (case side3 => repeat (first | exact (Kd.R_reads' HO119.out).2.2 | (with_reducible refine Kd.C_alloc ?_ _) | (with_reducible refine Kd.C_drewN ?_ _) | (with_reducible refine Kd.C_drew ?_)))
        (case side4 => exact (Kd.R_reads' HO119.out).2.1)
        (case side5 => repeat (first | exact (Kd.R_reads' HO124.out).2.2 | (with_reducible refine Kd.C_alloc ?_ _) | (with_reducible refine Kd.C_drewN ?_ _) | (with_reducible refine Kd.C_drew ?_)))
        (case side6 => exact (Kd.R_reads' HO124.out).2.1)
        (case side7 => repeat (first | exact (Kd.R_reads' HO129.out).2.2 | (with_reducible refine Kd.C_alloc ?_ _) | (with_reducible refine Kd.C_drewN ?_ _) | (with_reducible refine Kd.C_drew ?_)))
        (case side8 => exact (Kd.R_reads' HO129.out).2.1)
        rintro e w35 ⟨rfl, hb⟩
        refine ⟨_, rfl, ?_⟩
        have n0_ := Aside0.mk (Kd.R_below (by (with_reducible repeat (first | apply Kd.R_alloc | apply Kd.R_drewN | apply Kd.R_drew)); exact HO105.out) hb)
        have n1_ := Aside0.mk (Kd.R_below (by (with_reducible repeat (first | apply Kd.R_alloc | apply Kd.R_drewN | apply Kd.R_drew)); exact HO110.out) hb)
        have n2_ := Aside0.mk (Kd.R_below (by (with_reducible repeat (first | apply Kd.R_alloc | apply Kd.R_drewN | apply Kd.R_drew)); exact HO114.out) hb)
        have n3_ := Aside0.mk (Kd.R_below (by (with_reducible repeat (first | apply Kd.R_alloc | apply Kd.R_drewN | apply Kd.R_drew)); exact HO119.out) hb)
        have n4_ := Aside0.mk (Kd.R_below (by (with_reducible repeat (first | apply Kd.R_alloc | apply Kd.R_drewN | apply Kd.R_drew)); exact HO124.out) hb)
        have n5_ := Aside0.mk (Kd.R_below (by (with_reducible repeat (first | apply Kd.R_alloc | apply Kd.R_drewN | apply Kd.R_drew)); exact HO129.out) hb)
        have n6_ := Aside0.mk (blk_below (g := gb101) (o := .cells #[.slice A0_0 l0_0.length c0_0, .int .i64 a0_1, .int .i64 a0_2, .slice A0_3 l0_3.length c0_3] 28 (0, 0)) (by (with_reducible repeat (first | refine blk_drewN ?_ _ | refine blk_drew ?_ | refine blk_alloc ?_ _)); exact BK101.out) hb)
        have n7_ := Aside0.mk (blk_below (g := gb120) (o := .cells #[.slice Ao26 t112.length co26, .int .i64 t115, .int .i64 t116, .slice Ao29 t117.length co29] 33 (0, 0)) (by (with_reducible repeat (first | refine blk_drewN ?_ _ | refine blk_drew ?_ | refine blk_alloc ?_ _)); exact BK120.out) hb)
        have n8_ := Aside0.mk (below_step (by repeat (first | (with_reducible first | exact HB.out | apply below_alloc | apply pw_below_drewN | apply below_drew1 | refine below_set ?_ GE101.out | refine below_set ?_ GE120.out) | exact HB.out)) hb)
        clear HO105
        clear HO110
        clear HO114
        clear HO119
        clear HO124
        clear HO129
        clear BK101
        clear BK120
        clear HB
        have HO105 := n0_
        have HO110 := n1_
        have HO114 := n2_
        have HO119 := n3_
        have HO124 := n4_
        have HO129 := n5_
        have BK101 := n6_
        have BK120 := n7_
        have HB := n8_
        clear n0_ n1_ n2_ n3_ n4_ n5_ n6_ n7_ n8_
        (try clear hb)
        (try clear hb2)
        (try clear hk)
        (try clear hi)
        refine hK.out _ _ ⟨(blk_cell BK120.out 0).trans rfl, (blk_cell BK120.out 1).trans rfl, (blk_cell BK120.out 2).trans rfl, (blk_cell BK120.out 3).trans rfl, (blk_cell BK101.out 0).trans rfl, (blk_cell BK101.out 1).trans rfl, (blk_cell BK101.out 2).trans rfl, (blk_cell BK101.out 3).trans rfl⟩ (fun hHeld => ?_)
        clear hK K
        refine norm_ (a' := ?_) ?_ ?_
        rotate_left
        · show Act.put _ (some 25) _ = _
          simp only [Act.put, List.setIfInBounds_toArray, List.set_cons_zero, List.set_cons_succ, i64_w, i32_w]
          rfl
        refine pure_ (i := 4) (N := some 26) (v := ?_) (a' := ?_) #[true, true, true, true, true] rfl rfl (by kernel_rfl) (fun _ _ _ h => h) (Or.inl ⟨by rfl, ?_⟩) ?_ ?_
        rotate_left
        · intro w'
          go_simp
          with_reducible rfl
        rotate_left
        · simp only [Act.put, List.setIfInBounds_toArray, List.set_cons_zero, List.set_cons_succ, i64_w, i32_w]
          rfl
        refine done_ (by kernel_rfl) ?_
        try go_wp2
        go_ret
        exact ⟨by first | rfl | (simp [errW_none, errW_some] <;> rfl) | (simp [*, errW_none, errW_some] <;> rfl), by repeat (first | (with_reducible first | exact HB.out | apply below_alloc | apply pw_below_drewN | apply below_drew1 | refine below_set ?_ GE101.out | refine below_set ?_ GE120.out) | exact HB.out)⟩
      · replace c14 := Bool.eq_false_iff.mpr c14
        subst c14
        have H1 : (none) = some r := by rw [if_neg (show ¬ (false = true) by decide)] at H; exact H
        clear H
        have H := H1
        clear H1
        exact absurd H (by simp)
    · rw [if_neg c11] at H
      exact absurd H (by simp)

end Go.Proofs.Ytnbaojaocagjcaa.P
end
section
-- Written for this claim by gp.py over the kit's print; not trusted: Lean checks it.



namespace Go.Proofs.Ytnbaojaocagjcaa.P
open Go.RowKit Go.Proofs.YtnbaojaocagjcaaW.PrintWords Go.Proofs.YtnbaojaocagjcaaW.PrintLast Go.Proofs.YtnbaojaocagjcaaW.PrintMore
set_option linter.unusedVariables false
set_option linter.unusedSimpArgs false

theorem Ev.pos {α : Type} {c : Prop} [Decidable c] {f g : Nat → Option α} {r : α} (h : c) (k : Ev f r) : Ev (fun n => if c then f n else g n) r := Ev.congr (fun n => if_pos h) k
theorem Ev.neg {α : Type} {c : Prop} [Decidable c] {f g : Nat → Option α} {r : α} (h : ¬ c) (k : Ev g r) : Ev (fun n => if c then f n else g n) r := Ev.congr (fun n => if_neg h) k
theorem Ev.val {α β : Type} {a : α} {f : Nat → α → Option β} {r : β} (k : Ev (fun n => f n a) r) : Ev (fun n => (some a).bind (f n)) r := Ev.congr (fun n => rfl) k
theorem Ev.here {α : Type} {o : Option α} {r : α} (h : o = some r) : Ev (fun _ => o) r := Ev.congr (fun n => h) (Ev.now r)
theorem wrap_in {x : Int} (h : -9223372036854775808 ≤ x) (h' : x ≤ 9223372036854775807) : wrap64 x = x := by
  unfold wrap64
  omega
theorem wrap_succ {i n : Nat} (h : i < n) (hn : n ≤ 9223372036854775807) : wrap64 ((i : Int) + 1) = ((i + 1 : Nat) : Int) := by
  rw [wrap_in (by omega) (by omega)]
  omega
/-- A loop over 0 .. n - 1. -/
theorem ev_upto {ρ : Type} {n : Nat} {r : ρ} (P : Nat → Prop) (hend : P n) (hstep : ∀ i, i < n → P (i + 1) → P i) : ∀ i, i ≤ n → P i := by
  have key : ∀ d i, i + d = n → P i := by
    intro d
    induction d with
    | zero =>
      intro i hi
      have : i = n := by omega
      exact this ▸ hend
    | succ d ih =>
      intro i hi
      exact hstep i (by omega) (ih (i + 1) (by omega))
  intro i hi
  exact key (n - i) i (by omega)
theorem fill_set {α : Type} {m : List α} {z : α} {i : Nat} (h : i < m.length) : (m.take i ++ List.replicate (m.length - i) z).set i (m.getD i z) = m.take (i + 1) ++ List.replicate (m.length - (i + 1)) z := by
  rw [List.set_append_right _ _ (by rw [List.length_take]; omega), List.length_take, Nat.min_eq_left (by omega), Nat.sub_self]
  rw [show m.length - i = (m.length - (i + 1)) + 1 from by omega, List.replicate_succ, List.set_cons_zero, List.take_succ_eq_append_getElem h, List.append_assoc]
  simp [List.getD_eq_getElem?_getD, List.getElem?_eq_getElem h]
theorem fill_zero {α : Type} {m : List α} {z : α} : m.take 0 ++ List.replicate (m.length - 0) z = List.replicate m.length z := by simp
theorem fill_all {α : Type} {m : List α} {z : α} : m.take m.length ++ List.replicate (m.length - m.length) z = m := by simp
theorem rd_nat (l : List Int) (i : Nat) : rd l (i : Int) = l.getD i 0 := rfl
end Go.Proofs.Ytnbaojaocagjcaa.P
end
section
-- Written for this claim by gp.py over the kit's print; not trusted: Lean checks it.




namespace Go.Proofs.Ytnbaojaocagjcaa.P
open Go.RowKit Go.Proofs.YtnbaojaocagjcaaW.PrintWords Go.Proofs.YtnbaojaocagjcaaW.PrintLast Go.Proofs.YtnbaojaocagjcaaW.PrintMore
set_option linter.unusedVariables false
set_option linter.unusedSimpArgs false

theorem ev_toIntS (l : List Int) (hl : l.length ≤ 35184372088832) : Ev (fun k => laws_toIntS.f k l) l := by
  refine Ev.congr (f := fun k => laws_toIntS.l0 k l (List.replicate l.length 0) 0) (fun k => ?_) ?_
  · unfold laws_toIntS.f
    rw [if_pos (by omega), if_pos (by omega)]
    rfl
  · have key := ev_upto (r := l) (n := l.length) (fun i => Ev (fun k => laws_toIntS.l0 k l (l.take i ++ List.replicate (l.length - i) 0) (i : Int)) l) ?_ ?_ 0 (by omega)
    · simpa using key
    · refine Ev.step (fun k => by rw [laws_toIntS.l0]) ?_
      refine Ev.neg (by omega) ?_
      rw [fill_all]
      exact Ev.now l
    · intro i hi h
      refine Ev.step (fun k => by rw [laws_toIntS.l0]) ?_
      refine Ev.pos (by omega) (Ev.pos (by omega) (Ev.pos (by simp; omega) ?_))
      rw [wrap_succ hi (by omega), rd_nat, Int.toNat_natCast, fill_set hi]
      exact h
theorem ev_eqIntS (l : List Int) (hl : l.length ≤ 9223372036854775807) : Ev (fun k => laws_eqIntS.f k l l) true := by
  refine Ev.congr (f := fun k => laws_eqIntS.l0 k l l 0) (fun k => ?_) ?_
  · unfold laws_eqIntS.f
    rw [if_pos rfl]
  · refine ev_upto (r := true) (n := l.length) (fun i => Ev (fun k => laws_eqIntS.l0 k l l (i : Int)) true) ?_ ?_ 0 (by omega)
    · refine Ev.step (fun k => by rw [laws_eqIntS.l0]) ?_
      exact Ev.neg (by omega) (Ev.now _)
    · intro i hi h
      refine Ev.step (fun k => by rw [laws_eqIntS.l0]) ?_
      refine Ev.pos (by omega) (Ev.pos (by omega) (Ev.pos (by omega) (Ev.pos rfl ?_)))
      rw [wrap_succ hi hl]
      exact h

end Go.Proofs.Ytnbaojaocagjcaa.P
end
section
-- Written for this claim by gp.py over the kit's print; not trusted: Lean checks it.






namespace Go.Proofs.Ytnbaojaocagjcaa.P
open Go.RowKit Go.Proofs.YtnbaojaocagjcaaW.PrintWords Go.Proofs.YtnbaojaocagjcaaW.PrintLast Go.Proofs.YtnbaojaocagjcaaW.PrintMore
set_option linter.unusedVariables false
set_option linter.unusedSimpArgs false

def toWord (x : S78) : S59 := ⟨x.f0, x.f1, x.f2, x.f3, x.f4⟩
theorem ev_toWordS (l : List S78) (hl : l.length ≤ 7036874417766) : Ev (fun k => laws_toWordS.f k l) (l.map toWord) := by
  refine Ev.congr (f := fun k => laws_toWordS.l0 k l (List.replicate l.length z59) 0) (fun k => ?_) ?_
  · unfold laws_toWordS.f
    rw [if_pos (by omega), if_pos (by omega)]
    rfl
  · have key := ev_upto (r := l.map toWord) (n := l.length) (fun i => Ev (fun k => laws_toWordS.l0 k l ((l.map toWord).take i ++ List.replicate ((l.map toWord).length - i) z59) (i : Int)) (l.map toWord)) ?_ ?_ 0 (by omega)
    · rw [fill_zero, List.length_map] at key
      exact key
    · refine Ev.step (fun k => by rw [laws_toWordS.l0]) ?_
      refine Ev.neg (by omega) ?_
      have e := fill_all (m := l.map toWord) (z := z59)
      rw [List.length_map] at e
      rw [List.length_map, e]
      exact Ev.now _
    · intro i hi h
      refine Ev.step (fun k => by rw [laws_toWordS.l0]) ?_
      refine Ev.pos (by omega) (Ev.pos (by omega) ?_)
      unfold laws_toWord.f
      refine Ev.val (Ev.pos (by simp; omega) ?_)
      have hc : toWord (rd_T78 l (i : Int)) = (l.map toWord).getD i z59 := by
        simp [rd_T78, List.getD_eq_getElem?_getD, hi]
      have hf := fill_set (m := l.map toWord) (z := z59) (i := i) (by rw [List.length_map]; exact hi)
      rw [← hc] at hf
      rw [wrap_succ hi (by omega), Int.toNat_natCast]
      have e := hf ▸ h
      exact e
theorem ev_eqWordS (l : List S59) (hl : l.length ≤ 9223372036854775807) : Ev (fun k => laws_eqWordS.f k l l) true := by
  refine Ev.congr (f := fun k => laws_eqWordS.l0 k l l 0) (fun k => ?_) ?_
  · unfold laws_eqWordS.f
    rw [if_pos rfl]
  · refine ev_upto (r := true) (n := l.length) (fun i => Ev (fun k => laws_eqWordS.l0 k l l (i : Int)) true) ?_ ?_ 0 (by omega)
    · refine Ev.step (fun k => by rw [laws_eqWordS.l0]) ?_
      exact Ev.neg (by omega) (Ev.now _)
    · intro i hi h
      refine Ev.step (fun k => by rw [laws_eqWordS.l0]) ?_
      refine Ev.pos (by omega) (Ev.pos (by omega) (Ev.pos (by omega) ?_))
      unfold laws_eqWord.f
      simp only [if_true]
      refine Ev.val (Ev.pos rfl ?_)
      rw [wrap_succ hi hl]
      exact h

end Go.Proofs.Ytnbaojaocagjcaa.P
end
section
-- Written for this claim by gp.py over the kit's print; not trusted: Lean checks it.









namespace Go.Proofs.Ytnbaojaocagjcaa.P
open Go.RowKit Go.Proofs.YtnbaojaocagjcaaW.PrintWords Go.Proofs.YtnbaojaocagjcaaW.PrintLast Go.Proofs.YtnbaojaocagjcaaW.PrintMore
set_option linter.unusedVariables false
set_option linter.unusedSimpArgs false

theorem sz_ints (l : List Int) (a : Int) (ha : 0 ≤ a) (ha' : a ≤ 1048576) (hl : l.length ≤ 9223372036854775807) : ∃ t, laws_szIntS.f l a = some t ∧ t ≤ a ∧ (0 ≤ t → t + l.length = a) := by
  unfold laws_szIntS.f
  rw [wrap_in (by omega) (by omega)]
  split
  · exact ⟨-1, rfl, by omega, by omega⟩
  · exact ⟨_, rfl, by omega, by omega⟩
theorem sz_words (l : List S78) (a : Int) (ha : 0 ≤ a) (ha' : a ≤ 1048576) (hl : l.length ≤ 9223372036854775807) : ∃ t, laws_szWordS.f l a = some t ∧ t ≤ a ∧ (0 ≤ t → t + l.length = a) := by
  unfold laws_szWordS.f
  rw [wrap_in (by omega) (by omega)]
  split
  · exact ⟨-1, rfl, by omega, by omega⟩
  · exact ⟨_, rfl, by omega, by omega⟩
theorem sz_image (x0 : List Int) (x1 x2 : Int) (x3 : List S78) (a : Int) (ha : 0 ≤ a) (ha' : a ≤ 1048576) (h0 : x0.length ≤ 9223372036854775807) (h3 : x3.length ≤ 9223372036854775807) :
    ∃ t, laws_szImage.f x0 x1 x2 x3 a = some t ∧ t ≤ 1048576 ∧ (0 ≤ t → x0.length ≤ 1048576 ∧ x3.length ≤ 1048576) := by
  obtain ⟨t, e1, e2, e3⟩ := sz_ints x0 a ha ha' h0
  unfold laws_szImage.f
  rw [e1]
  simp only [Option.bind_some]
  by_cases ht : t < 0
  · rw [if_pos ht]
    exact ⟨-1, rfl, by omega, by omega⟩
  · rw [if_neg ht]
    obtain ⟨u, f1, f2, f3⟩ := sz_words x3 t (by omega) (by omega) h3
    rw [f1]
    simp only [Option.bind_some]
    by_cases hu : u < 0
    · rw [if_pos hu]
      exact ⟨-1, rfl, by omega, by omega⟩
    · rw [if_neg hu]
      exact ⟨_, rfl, by omega, by omega⟩
theorem ev_toImage (x0 : List Int) (x1 x2 : Int) (x3 : List S78) (h0 : x0.length ≤ 1048576) (h3 : x3.length ≤ 1048576) : Ev (fun k => laws_toImage.f k x0 x1 x2 x3) (x0, x1, x2, x3.map toWord) := by
  unfold laws_toImage.f
  exact Ev.bind (ev_toIntS x0 (by omega)) (Ev.bind (ev_toWordS x3 (by omega)) (Ev.now _))
theorem ev_eqImage (x0 : List Int) (x1 x2 : Int) (x3 : List S59) (h0 : x0.length ≤ 9223372036854775807) (h3 : x3.length ≤ 9223372036854775807) : Ev (fun k => laws_eqImage.f k x0 x1 x2 x3 x0 x1 x2 x3) true := by
  unfold laws_eqImage.f
  refine Ev.bind (ev_eqIntS x0 h0) ?_
  refine Ev.pos rfl (Ev.pos rfl (Ev.pos rfl ?_))
  refine Ev.bind (ev_eqWordS x3 h3) ?_
  exact Ev.pos rfl (Ev.now _)

end Go.Proofs.Ytnbaojaocagjcaa.P
end
section
-- Written for this claim by gp.py over the kit's print; not trusted: Lean checks it.

namespace Go.Proofs.Ytnbaojaocagjcaa.P
open Go.RowKit Go.Proofs.YtnbaojaocagjcaaW.PrintWords Go.Proofs.YtnbaojaocagjcaaW.PrintLast Go.Proofs.YtnbaojaocagjcaaW.PrintMore
set_option linter.unusedVariables false
set_option linter.unusedSimpArgs false

open Classical in
/-- Whether a test holds of 0 .. n - 1. -/
noncomputable def allB (n : Nat) (p : Nat → Prop) : Bool := decide (∀ j, j < n → p j)
open Classical in
theorem allB_true {n : Nat} {p : Nat → Prop} (h : ∀ j, j < n → p j) : allB n p = true := by
  unfold allB
  exact decide_eq_true h
open Classical in
theorem allB_iff {n : Nat} {p : Nat → Prop} : allB n p = true ↔ ∀ j, j < n → p j := by
  unfold allB
  exact decide_eq_true_iff
theorem allB_false {n i : Nat} {p : Nat → Prop} (hi : i < n) (h : ¬ p i) : allB n p = false := by
  cases e : allB n p with
  | false => rfl
  | true => exact absurd (allB_iff.mp e i hi) h
/-- A loop that goes on while a test holds. -/
theorem ev_all {ρ : Type} {n : Nat} {R e : ρ} (p : Nat → Prop) (f : Nat → Nat → Option ρ) (hend : Ev (f n) R) (hyes : ∀ i, i < n → p i → ∀ r, Ev (f (i + 1)) r → Ev (f i) r) (hno : ∀ i, i < n → ¬ p i → Ev (f i) e) : Ev (f 0) (bif allB n p then R else e) := by
  have key : ∀ d i, i + d = n → (∀ j, j < i → p j) → Ev (f i) (bif allB n p then R else e) := by
    intro d
    induction d with
    | zero =>
      intro i hi h
      have : i = n := by omega
      subst this
      rw [allB_true h]
      exact hend
    | succ d ih =>
      intro i hi h
      by_cases hp : p i
      · refine hyes i (by omega) hp _ (ih (i + 1) (by omega) ?_)
        intro j hj
        by_cases hji : j = i
        · rw [hji]; exact hp
        · exact h j (by omega)
      · rw [allB_false (by omega) hp]
        exact hno i (by omega) hp
  exact key n 0 (by omega) (fun j hj => absurd hj (by omega))
theorem allB_list {α : Type} (l : List α) (z : α) (q : α → Bool) : allB l.length (fun j => q (l.getD j z) = true) = !(l.any fun x => !q x) := by
  rw [Bool.eq_iff_iff, allB_iff]
  simp only [Bool.not_eq_true', List.any_eq_false, Bool.not_eq_true', Bool.not_eq_false]
  constructor
  · intro h x hx
    obtain ⟨j, hj, rfl⟩ := List.mem_iff_getElem.mp hx
    have := h j hj
    rw [List.getD_eq_getElem?_getD, List.getElem?_eq_getElem hj] at this
    simpa using this
  · intro h j hj
    have := h l[j] (List.getElem_mem hj)
    rw [List.getD_eq_getElem?_getD, List.getElem?_eq_getElem hj]
    simpa using this
end Go.Proofs.Ytnbaojaocagjcaa.P
end
section
-- Written for this claim by gp.py over the kit's print; not trusted: Lean checks it.






namespace Go.Proofs.Ytnbaojaocagjcaa.P
open Go.RowKit Go.Proofs.YtnbaojaocagjcaaW.PrintWords Go.Proofs.YtnbaojaocagjcaaW.PrintLast Go.Proofs.YtnbaojaocagjcaaW.PrintMore
set_option linter.unusedVariables false
set_option linter.unusedSimpArgs false

theorem specIn (a b c : Int) : spec_l01In.f a b c = some (inB a b c) := by
  unfold spec_l01In.f inB
  by_cases h : a ≥ b
  · rw [if_pos h]
    have h' : b ≤ a := h
    simp [h']
  · rw [if_neg h]
    have h' : ¬ b ≤ a := h
    simp [h']
theorem inB_point (a n : Int) : inB a n n = (a == n) := by
  unfold inB
  rw [Bool.eq_iff_iff]
  simp
  omega
/-- A test and then the rest. -/
theorem Ev.and {b c : Bool} {g : Nat → Option Bool} (h : b = true → Ev g c) : Ev (fun k => if b = true then g k else some false) (b && c) := by
  cases b with
  | false => exact Ev.neg (by decide) (Ev.now _)
  | true => exact Ev.pos rfl (h rfl)
theorem Ev.andP {p : Prop} [Decidable p] {b c : Bool} (e : b = decide p) {g : Nat → Option Bool} (h : b = true → Ev g c) : Ev (fun k => if p then g k else some false) (b && c) := by
  by_cases hp : p
  · have hb : b = true := by rw [e]; exact decide_eq_true hp
    subst hb
    exact Ev.pos hp (h rfl)
  · have hb : b = false := by rw [e]; exact decide_eq_false hp
    subst hb
    exact Ev.neg hp (Ev.now _)
def J3 (x5 x7 : Bool) (o : Int) (x98 : Bool) (N3 r v : Int) : Bool := bif x98 then x5 && (x7 && (v == 0)) else if o = 8 then (r == 0) && (x7 && inB v 0 N3) else if o = 9 then x5 && (x7 && inB v 0 N3) else false
theorem ev_j3 (x5 x7 : Bool) (o : Int) (x98 : Bool) (x0 : List Int) (x1 x2 : Int) (x3 : List S59) (o' r p q v : Int) : Ev (fun k => spec_l13WordOk.j3 k x5 x7 o x98 x0 x1 x2 x3 o' r p q v) (J3 x5 x7 o x98 (wrap64 ((x3.length : Int) - 1)) r v) := by
  refine Ev.step (fun k => by rw [spec_l13WordOk.j3]) ?_
  unfold J3
  cases x98 with
  | true => exact Ev.pos rfl (Ev.and fun _ => Ev.and fun _ => Ev.now _)
  | false =>
    refine Ev.neg (by decide) ?_
    by_cases h8 : o = 8
    · simp only [cond_false, if_pos h8]
      refine Ev.andP (by rw [Bool.eq_iff_iff]; simp) fun _ => Ev.and fun _ => ?_
      rw [specIn]
      exact Ev.now _
    · simp only [cond_false, if_neg h8]
      by_cases h9 : o = 9
      · simp only [if_pos h9]
        refine Ev.and fun _ => Ev.and fun _ => ?_
        rw [specIn]
        exact Ev.now _
      · simp only [if_neg h9]
        exact Ev.now _
def J2 (x5 x6 x7 : Bool) (o : Int) (x61 : Bool) (N0 N3 r q v : Int) : Bool := bif x61 then x5 && (x6 && ((q == 0) && inB v 0 N0)) else if o = 11 then x5 && (x6 && ((q == 0) && (v == 0))) else if o = 6 then J3 x5 x7 o (o == 6) N3 r v else if o = 7 then J3 x5 x7 o (o == 7) N3 r v else J3 x5 x7 o (o == 10) N3 r v
theorem ev_j2 (x5 x6 x7 : Bool) (o : Int) (x61 : Bool) (x0 : List Int) (x1 x2 : Int) (x3 : List S59) (o' r p q v : Int) : Ev (fun k => spec_l13WordOk.j2 k x5 x6 x7 o x61 x0 x1 x2 x3 o' r p q v) (J2 x5 x6 x7 o x61 (wrap64 ((x0.length : Int) - 1)) (wrap64 ((x3.length : Int) - 1)) r q v) := by
  refine Ev.step (fun k => by rw [spec_l13WordOk.j2]) ?_
  unfold J2
  cases x61 with
  | true =>
    refine Ev.pos rfl (Ev.and fun _ => Ev.and fun _ => Ev.andP (by rw [Bool.eq_iff_iff]; simp) fun _ => ?_)
    rw [specIn]
    exact Ev.now _
  | false =>
    refine Ev.neg (by decide) ?_
    by_cases h8 : o = 11
    · simp only [cond_false, if_pos h8]
      exact Ev.and fun _ => Ev.and fun _ => Ev.andP (by rw [Bool.eq_iff_iff]; simp) fun _ => Ev.now _
    · simp only [cond_false, if_neg h8]
      by_cases h6 : o = 6
      · simp only [if_pos h6]
        exact ev_j3 _ _ _ _ _ _ _ _ _ _ _ _ _
      · simp only [if_neg h6]
        by_cases h7 : o = 7
        · simp only [if_pos h7]
          exact ev_j3 _ _ _ _ _ _ _ _ _ _ _ _ _
        · simp only [if_neg h7]
          exact ev_j3 _ _ _ _ _ _ _ _ _ _ _ _ _
def J1 (x5 x6 x7 : Bool) (o : Int) (x30 : Bool) (N2 N0 N3 r q v : Int) : Bool := bif x30 then x5 && (x7 && inB v 0 N2) else if o = 3 then x5 && (x6 && (inB q 0 15 && inB v 0 5)) else if o = 4 then J2 x5 x6 x7 o (o == 4) N0 N3 r q v else J2 x5 x6 x7 o (o == 5) N0 N3 r q v
theorem ev_j1 (x5 x6 x7 : Bool) (o : Int) (x30 : Bool) (x0 : List Int) (x1 x2 : Int) (x3 : List S59) (o' r p q v : Int) : Ev (fun k => spec_l13WordOk.j1 k x5 x6 x7 o x30 x0 x1 x2 x3 o' r p q v) (J1 x5 x6 x7 o x30 (wrap64 (x2 - 1)) (wrap64 ((x0.length : Int) - 1)) (wrap64 ((x3.length : Int) - 1)) r q v) := by
  refine Ev.step (fun k => by rw [spec_l13WordOk.j1]) ?_
  unfold J1
  cases x30 with
  | true =>
    refine Ev.pos rfl (Ev.and fun _ => Ev.and fun _ => ?_)
    rw [specIn]
    exact Ev.now _
  | false =>
    refine Ev.neg (by decide) ?_
    by_cases h8 : o = 3
    · simp only [cond_false, if_pos h8]
      refine Ev.and fun _ => Ev.and fun _ => ?_
      rw [specIn, specIn]
      exact Ev.val (Ev.and fun _ => Ev.now _)
    · simp only [cond_false, if_neg h8]
      by_cases h6 : o = 4
      · simp only [if_pos h6]
        exact ev_j2 _ _ _ _ _ _ _ _ _ _ _ _ _ _
      · simp only [if_neg h6]
        exact ev_j2 _ _ _ _ _ _ _ _ _ _ _ _ _ _
def J0 (x5 x6 x7 : Bool) (o N2 N0 N3 r q v : Int) : Bool := if o = 0 then x5 && x7 else if o = 1 then J1 x5 x6 x7 o (o == 1) N2 N0 N3 r q v else J1 x5 x6 x7 o (o == 2) N2 N0 N3 r q v
theorem ev_j0 (x5 x6 x7 : Bool) (x0 : List Int) (x1 x2 : Int) (x3 : List S59) (o r p q v : Int) : Ev (fun k => spec_l13WordOk.j0 k x5 x6 x7 x0 x1 x2 x3 o r p q v) (J0 x5 x6 x7 o (wrap64 (x2 - 1)) (wrap64 ((x0.length : Int) - 1)) (wrap64 ((x3.length : Int) - 1)) r q v) := by
  refine Ev.step (fun k => by rw [spec_l13WordOk.j0]) ?_
  unfold J0
  by_cases h6 : o = 0
  · simp only [if_pos h6]
    exact Ev.and fun _ => Ev.now _
  · simp only [if_neg h6]
    by_cases h7 : o = 1
    · simp only [if_pos h7]
      exact ev_j1 _ _ _ _ _ _ _ _ _ _ _ _ _ _
    · simp only [if_neg h7]
      exact ev_j1 _ _ _ _ _ _ _ _ _ _ _ _ _ _
theorem wordIs_J0 (N2 N0 N3 o r p q v s n0 n3 : Int) (h0 : n0 - 1 = N0) (h3 : n3 - 1 = N3) (h2 : wrap64 (s - 1) = N2) : wordIs n0 s n3 o r p q v = J0 (inB r 0 15) (inB p 0 15) (p == 0 && q == 0) o N2 N0 N3 r q v := by
  have h0p : (p == 0) = true → inB p 0 15 = true := by intro h; rw [eq_of_beq h]; rfl
  have h0q : (q == 0) = true → inB q 0 15 = true := by intro h; rw [eq_of_beq h]; rfl
  have h0r : (r == 0) = true → inB r 0 15 = true := by intro h; rw [eq_of_beq h]; rfl
  unfold wordIs wordFin regOk J0 J1 J2 J3
  rw [h0, h3, h2, inB_point v 0, inB_point 0 0]
  generalize (p == 0) = P at *
  generalize (q == 0) = Q at *
  generalize (r == 0) = R at *
  generalize (v == 0) = V at *
  generalize inB p 0 15 = p' at *
  generalize inB q 0 15 = q' at *
  generalize inB r 0 15 = r' at *
  generalize inB v 0 N0 = v0 at *
  generalize inB v 0 N2 = v2 at *
  generalize inB v 0 N3 = v3 at *
  generalize inB v 0 5 = v5 at *
  clear h0 h3 h2
  by_cases e0 : o = 0
  · subst e0; simp; cases P <;> cases Q <;> cases R <;> cases r' <;> cases p' <;> cases q' <;> simp_all
  by_cases e1 : o = 1
  · subst e1; simp; cases P <;> cases Q <;> cases R <;> cases r' <;> cases p' <;> cases q' <;> simp_all
  by_cases e2 : o = 2
  · subst e2; simp; cases P <;> cases Q <;> cases R <;> cases r' <;> cases p' <;> cases q' <;> simp_all
  by_cases e3 : o = 3
  · subst e3; simp; cases P <;> cases Q <;> cases R <;> cases r' <;> cases p' <;> cases q' <;> simp_all
  by_cases e4 : o = 4
  · subst e4; simp; cases P <;> cases Q <;> cases R <;> cases r' <;> cases p' <;> cases q' <;> simp_all
  by_cases e5 : o = 5
  · subst e5; simp; cases P <;> cases Q <;> cases R <;> cases r' <;> cases p' <;> cases q' <;> simp_all
  by_cases e6 : o = 6
  · subst e6; simp; cases P <;> cases Q <;> cases R <;> cases r' <;> cases p' <;> cases q' <;> simp_all
  by_cases e7 : o = 7
  · subst e7; simp; cases P <;> cases Q <;> cases R <;> cases r' <;> cases p' <;> cases q' <;> simp_all
  by_cases e8 : o = 8
  · subst e8; simp; cases P <;> cases Q <;> cases R <;> cases r' <;> cases p' <;> cases q' <;> simp_all
  by_cases e9 : o = 9
  · subst e9; simp; cases P <;> cases Q <;> cases R <;> cases r' <;> cases p' <;> cases q' <;> simp_all
  by_cases e10 : o = 10
  · subst e10; simp; cases P <;> cases Q <;> cases R <;> cases r' <;> cases p' <;> cases q' <;> simp_all
  by_cases e11 : o = 11
  · subst e11; simp; cases P <;> cases Q <;> cases R <;> cases r' <;> cases p' <;> cases q' <;> simp_all
  simp [e0, e1, e2, e3, e4, e5, e6, e7, e8, e9, e10, e11]
theorem ev_WordOk (x0 : List Int) (x1 x2 : Int) (x3 : List S59) (o r p q v : Int) (h0 : x0.length ≤ 9223372036854775807) (h3 : x3.length ≤ 9223372036854775807) :
    Ev (fun k => spec_l13WordOk.f k x0 x1 x2 x3 o r p q v) (wordIs (x0.length : Int) x2 (x3.length : Int) o r p q v) := by
  unfold spec_l13WordOk.f
  rw [specIn, specIn]
  refine Ev.val (Ev.val ?_)
  have main := ev_j0 (inB r 0 15) (inB p 0 15) (p == 0 && q == 0) x0 x1 x2 x3 o r p q v
  rw [← wordIs_J0 _ _ _ o r p q v x2 (x0.length : Int) (x3.length : Int) (wrap_in (by omega) (by omega)).symm (wrap_in (by omega) (by omega)).symm rfl] at main
  by_cases hp : p = 0
  · refine Ev.pos hp ?_
    have e : (p == 0 && q == 0) = (q == 0) := by rw [hp]; simp
    rw [e] at main
    exact main
  · refine Ev.neg hp ?_
    have e : (p == 0 && q == 0) = false := by simp [hp]
    rw [e] at main
    exact main

end Go.Proofs.Ytnbaojaocagjcaa.P
end
section
-- Written for this claim by gp.py over the kit's print; not trusted: Lean checks it.








namespace Go.Proofs.Ytnbaojaocagjcaa.P
open Go.RowKit Go.Proofs.YtnbaojaocagjcaaW.PrintWords Go.Proofs.YtnbaojaocagjcaaW.PrintLast Go.Proofs.YtnbaojaocagjcaaW.PrintMore
set_option linter.unusedVariables false
set_option linter.unusedSimpArgs false

theorem rd_impl_Word {l : List S59} {i : Nat} (h : i < l.length) : rd_T59 l (i : Int) = l[i] := by simp [rd_T59, List.getD_eq_getElem?_getD, h]
def lastOk (x3 : List S59) : Bool := ((rd_T59 x3 ((x3.length : Int) - 1)).f0 == 10) || ((rd_T59 x3 ((x3.length : Int) - 1)).f0 == 8)
def wordsOk (x0 : List Int) (x2 : Int) (x3 : List S59) : Bool := !(x3.any fun x => !wordIs (x0.length : Int) x2 (x3.length : Int) x.f0 x.f1 x.f2 x.f3 x.f4)
theorem ev_ImageOk_j1 (b : Bool) (x0 : List Int) (x1 x2 : Int) (x3 : List S59) (h0 : x0.length ≤ 9223372036854775807) (h3 : x3.length ≤ 9223372036854775807) (hb : b = true → 1 ≤ x3.length) :
    Ev (fun k => spec_ImageOk.j1 k (x3.length : Int) (!b) x0 x1 x2 x3) (b && (wordsOk x0 x2 x3 && lastOk x3)) := by
  refine Ev.step (fun k => by rw [spec_ImageOk.j1]) ?_
  cases b with
  | false => exact Ev.pos rfl (Ev.now _)
  | true =>
    have hn := hb rfl
    refine Ev.neg (by decide) ?_
    have key := ev_all (n := x3.length) (R := lastOk x3) (e := false) (fun j => (fun x : S59 => wordIs (x0.length : Int) x2 (x3.length : Int) x.f0 x.f1 x.f2 x.f3 x.f4) (x3.getD j z59) = true) (fun i k => spec_ImageOk.l1 k (x3.length : Int) (i : Int) x0 x1 x2 x3) ?_ ?_ ?_
    · rw [allB_list x3 z59 (fun x : S59 => wordIs (x0.length : Int) x2 (x3.length : Int) x.f0 x.f1 x.f2 x.f3 x.f4)] at key
      rw [Bool.true_and]
      unfold wordsOk
      rw [show ∀ b c : Bool, (b && c) = (bif b then c else false) from by decide]
      exact key
    · refine Ev.step (fun k => by rw [spec_ImageOk.l1]) ?_
      refine Ev.neg (by omega) ?_
      rw [wrap_in (by omega) (by omega)]
      refine Ev.pos (by omega) (Ev.pos (by omega) ?_)
      unfold lastOk
      by_cases h : (rd_T59 x3 ((x3.length : Int) - 1)).f0 = 10
      · rw [h]
        exact Ev.pos rfl (Ev.now _)
      · rw [beq_false_of_ne h, Bool.false_or]
        exact Ev.neg h (Ev.now _)
    · intro i hi hp r hr
      refine Ev.step (fun k => by rw [spec_ImageOk.l1]) ?_
      refine Ev.pos (by omega) (Ev.pos (by omega) (Ev.pos (by omega) ?_))
      refine Ev.bind (ev_WordOk x0 x1 x2 x3 _ _ _ _ _ h0 h3) ?_
      refine Ev.pos hp ?_
      rw [wrap_succ hi h3]
      exact hr
    · intro i hi hp
      refine Ev.step (fun k => by rw [spec_ImageOk.l1]) ?_
      refine Ev.pos (by omega) (Ev.pos (by omega) (Ev.pos (by omega) ?_))
      refine Ev.bind (ev_WordOk x0 x1 x2 x3 _ _ _ _ _ h0 h3) ?_
      exact Ev.neg hp (Ev.now _)
theorem ev_ImageOk_spec (x0 : List Int) (x1 x2 : Int) (x3 : List S59) (h0 : x0.length ≤ 9223372036854775807) (h3 : x3.length ≤ 9223372036854775807) :
    Ev (fun k => spec_ImageOk.f k x0 x1 x2 x3) (imageOk x0 x1 x2 x3) := by
  unfold spec_ImageOk.f
  have tail : Ev (fun k => spec_ImageOk.l0 k (x0.length : Int) x0 x1 x2 x3) (inB (x0.length : Int) 1 4 && (inB x1 0 6 && (inB x2 x1 1000 && (inB (x3.length : Int) 1 6000 && (wordsOk x0 x2 x3 && lastOk x3))))) := by
    have no := ev_ImageOk_j1 false x0 x1 x2 x3 h0 h3 (fun h => Bool.noConfusion h)
    rw [Bool.false_and] at no
    refine Ev.step (fun k => by rw [spec_ImageOk.l0]) ?_
    refine Ev.neg (by omega) ?_
    rw [specIn, specIn, specIn, specIn]
    refine Ev.val ?_
    cases inB (x0.length : Int) 1 4 with
    | false => exact Ev.neg (by decide) no
    | true =>
      refine Ev.pos rfl (Ev.val ?_)
      cases inB x1 0 6 with
      | false => exact Ev.neg (by decide) no
      | true =>
        refine Ev.pos rfl (Ev.val ?_)
        cases inB x2 x1 1000 with
        | false => exact Ev.neg (by decide) no
        | true =>
          refine Ev.pos rfl (Ev.val ?_)
          rw [Bool.true_and, Bool.true_and, Bool.true_and]
          refine ev_ImageOk_j1 _ x0 x1 x2 x3 h0 h3 (fun h => ?_)
          unfold inB at h
          simp at h
          omega
  have key := ev_all (n := x0.length) (R := _) (e := false) (fun j => (fun n : Int => inB n 1 16) (x0.getD j 0) = true) (fun i k => spec_ImageOk.l0 k (i : Int) x0 x1 x2 x3) tail ?_ ?_
  · rw [allB_list x0 0 (fun n : Int => inB n 1 16)] at key
    refine Eq.mp (congrArg _ ?_) key
    unfold imageOk progOk
    rw [show inB 0 0 (if (0 : Int) < 6 then 0 else 6) = true from rfl, show decide ((0 : Int) ≤ 20) = true from rfl]
    show _ = (inB (x0.length : Int) 1 4 && (!(x0.any fun n => !inB n 1 16)) && true && true && inB x1 0 6 && inB x2 x1 1000 && inB (x3.length : Int) 1 6000 && lastOk x3 && wordsOk x0 x2 x3)
    generalize (!(x0.any fun n => !inB n 1 16)) = a
    generalize inB (x0.length : Int) 1 4 = b
    generalize inB x1 0 6 = c
    generalize inB x2 x1 1000 = d
    generalize inB (x3.length : Int) 1 6000 = e
    generalize lastOk x3 = f
    generalize wordsOk x0 x2 x3 = g
    revert a b c d e f g
    decide
  · intro i hi hp r hr
    refine Ev.step (fun k => by rw [spec_ImageOk.l0]) ?_
    refine Ev.pos (by omega) (Ev.pos (by omega) ?_)
    rw [specIn]
    refine Ev.val (Ev.pos hp ?_)
    rw [wrap_succ hi h0]
    exact hr
  · intro i hi hp
    refine Ev.step (fun k => by rw [spec_ImageOk.l0]) ?_
    refine Ev.pos (by omega) (Ev.pos (by omega) ?_)
    rw [specIn]
    exact Ev.val (Ev.neg hp (Ev.now _))

end Go.Proofs.Ytnbaojaocagjcaa.P
end
section
-- Written for this claim by gp.py over the kit's print; not trusted: Lean checks it.



namespace Go.Proofs.Ytnbaojaocagjcaa.P
open Go.RowKit Go.Proofs.YtnbaojaocagjcaaW.PrintWords Go.Proofs.YtnbaojaocagjcaaW.PrintLast Go.Proofs.YtnbaojaocagjcaaW.PrintMore
set_option linter.unusedVariables false
set_option linter.unusedSimpArgs false

theorem sum_both (s : ByteArray) (hs : s.size ≤ 140737488351232) (d : Nat) : ∀ (k : Nat) (i x : Int), 0 ≤ i → i ≤ s.size → (s.size : Int) - i = d → d < k →
    ∃ r, spec_Sum.l0 k s x i = some r ∧ impl_sum.l0 k s x (s.size : Int) i = some r := by
  induction d with
  | zero =>
    intro k i x h0 h1 hd hk
    obtain ⟨k, rfl⟩ : ∃ m, k = m + 1 := ⟨k - 1, by omega⟩
    refine ⟨x, ?_, ?_⟩
    · simp only [spec_Sum.l0]; rw [if_neg (by omega)]
    · simp only [impl_sum.l0]; rw [if_neg (by omega)]
  | succ d ih =>
    intro k i x h0 h1 hd hk
    obtain ⟨k, rfl⟩ : ∃ m, k = m + 1 := ⟨k - 1, by omega⟩
    have hw : wrap64 (i + 1) = i + 1 := by unfold wrap64; omega
    obtain ⟨r, h2, h3⟩ := ih k (i + 1) (((Go.bits .xor .u32 x ((bt s i) % 4294967296)) * 16777619) % 4294967296) (by omega) (by omega) (by omega) (by omega)
    refine ⟨r, ?_, ?_⟩
    · simp only [spec_Sum.l0]; rw [if_pos (by omega), if_pos h0, hw]; exact h2
    · simp only [impl_sum.l0]; rw [if_pos (by omega), if_pos h0, if_pos (by omega), hw]; exact h3
theorem LeO_up {α : Type} {f : Nat → Option α} (h : ∀ k, LeO (f k) (f (k + 1))) {k : Nat} {r : α} (e : f k = some r) : Ev f r := by
  refine ⟨k, fun m hm => ?_⟩
  obtain ⟨d, rfl⟩ : ∃ d, m = k + d := ⟨m - k, by omega⟩
  induction d with
  | zero => exact e
  | succ d ih => exact h (k + d) r (ih (by omega))
theorem ev_sums (s : ByteArray) (hs : s.size ≤ 140737488351232) : ∃ r, Ev (fun k => spec_Sum.f k s) r ∧ Ev (fun k => impl_sum.f k s) r := by
  obtain ⟨r, h1, h2⟩ := sum_both s hs s.size (s.size + 1) 0 2166136261 (by omega) (by omega) (by omega) (by omega)
  exact ⟨r, LeO_up (fun k => spec_Sum.mono s k) h1, LeO_up (fun k => impl_sum.mono s k) h2⟩

end Go.Proofs.Ytnbaojaocagjcaa.P
end
section
-- Written for this claim by gp.py over the kit's print; not trusted: Lean checks it.











namespace Go.Proofs.Ytnbaojaocagjcaa.P
open Go.RowKit Go.Proofs.YtnbaojaocagjcaaW.PrintWords Go.Proofs.YtnbaojaocagjcaaW.PrintLast Go.Proofs.YtnbaojaocagjcaaW.PrintMore
set_option linter.unusedVariables false
set_option linter.unusedSimpArgs false

theorem be8_length (v : Int) : (be8 v).length = 8 := rfl
theorem u64_id {x : Int} (h0 : 0 ≤ x) (h1 : x < 18446744073709551616) : IntKind.u64.wrap x = x := by
  have e : IntKind.u64.wrap x = x % 18446744073709551616 := by simp [IntKind.wrap, IntKind.signed, IntKind.bits]
  omega
theorem byte_of {u d : Int} (h0 : 0 ≤ u) (h1 : u < 18446744073709551616) (hd : 0 < d) : (Int.tmod (IntKind.u64.wrap (Int.tdiv u d)) 256) % 256 = u / d % 256 := by
  have e1 : Int.tdiv u d = u / d := Int.tdiv_eq_ediv_of_nonneg h0
  have e2 : 0 ≤ u / d := Int.ediv_nonneg h0 (by omega)
  have e3 : u / d ≤ u := Int.ediv_le_self d h0
  rw [e1, u64_id e2 (by omega), Int.tmod_eq_emod_of_nonneg e2]
  omega
theorem ev_Num (n : Int) : Ev (fun k => spec_l14Num.f k n) (be8 (IntKind.u64.wrap n)) := by
  obtain ⟨u0, u1⟩ := u64_range n
  unfold spec_l14Num.f
  generalize IntKind.u64.wrap n = u at u0 u1 ⊢
  refine Ev.step (fun k => by rw [spec_l14Num.l0]) ?_
  refine Ev.pos (by decide) (Ev.neg (by decide) (Ev.pos (by simp) ?_))
  rw [show IntKind.u64.wrap (Int.tdiv 72057594037927936 256) = 281474976710656 from by decide, byte_of u0 u1 (d := 72057594037927936) (by decide), show wrap64 (0 + 1) = 1 from wrap_in (by decide) (by decide)]
  refine Ev.step (fun k => by rw [spec_l14Num.l0]) ?_
  refine Ev.pos (by decide) (Ev.neg (by decide) (Ev.pos (by simp) ?_))
  rw [show IntKind.u64.wrap (Int.tdiv 281474976710656 256) = 1099511627776 from by decide, byte_of u0 u1 (d := 281474976710656) (by decide), show wrap64 (1 + 1) = 2 from wrap_in (by decide) (by decide)]
  refine Ev.step (fun k => by rw [spec_l14Num.l0]) ?_
  refine Ev.pos (by decide) (Ev.neg (by decide) (Ev.pos (by simp) ?_))
  rw [show IntKind.u64.wrap (Int.tdiv 1099511627776 256) = 4294967296 from by decide, byte_of u0 u1 (d := 1099511627776) (by decide), show wrap64 (2 + 1) = 3 from wrap_in (by decide) (by decide)]
  refine Ev.step (fun k => by rw [spec_l14Num.l0]) ?_
  refine Ev.pos (by decide) (Ev.neg (by decide) (Ev.pos (by simp) ?_))
  rw [show IntKind.u64.wrap (Int.tdiv 4294967296 256) = 16777216 from by decide, byte_of u0 u1 (d := 4294967296) (by decide), show wrap64 (3 + 1) = 4 from wrap_in (by decide) (by decide)]
  refine Ev.step (fun k => by rw [spec_l14Num.l0]) ?_
  refine Ev.pos (by decide) (Ev.neg (by decide) (Ev.pos (by simp) ?_))
  rw [show IntKind.u64.wrap (Int.tdiv 16777216 256) = 65536 from by decide, byte_of u0 u1 (d := 16777216) (by decide), show wrap64 (4 + 1) = 5 from wrap_in (by decide) (by decide)]
  refine Ev.step (fun k => by rw [spec_l14Num.l0]) ?_
  refine Ev.pos (by decide) (Ev.neg (by decide) (Ev.pos (by simp) ?_))
  rw [show IntKind.u64.wrap (Int.tdiv 65536 256) = 256 from by decide, byte_of u0 u1 (d := 65536) (by decide), show wrap64 (5 + 1) = 6 from wrap_in (by decide) (by decide)]
  refine Ev.step (fun k => by rw [spec_l14Num.l0]) ?_
  refine Ev.pos (by decide) (Ev.neg (by decide) (Ev.pos (by simp) ?_))
  rw [show IntKind.u64.wrap (Int.tdiv 256 256) = 1 from by decide, byte_of u0 u1 (d := 256) (by decide), show wrap64 (6 + 1) = 7 from wrap_in (by decide) (by decide)]
  refine Ev.step (fun k => by rw [spec_l14Num.l0]) ?_
  refine Ev.pos (by decide) (Ev.neg (by decide) (Ev.pos (by simp) ?_))
  rw [show IntKind.u64.wrap (Int.tdiv 1 256) = 0 from by decide, byte_of u0 u1 (d := 1) (by decide), show wrap64 (7 + 1) = 8 from wrap_in (by decide) (by decide)]
  refine Ev.step (fun k => by rw [spec_l14Num.l0]) ?_
  refine Ev.neg (by decide) ?_
  refine Ev.here ?_
  congr 1
  simp [be8]
  omega
theorem beAll_one (n : Int) : beAll [n] = be8 (IntKind.u64.wrap n) := by simp [beAll]
section
variable {x0 : List Int} {x1 x2 : Int} {l : List S59} {r : ByteArray}
theorem ev_Put_l2 {x5 : Int} {ys : List Int} (h5 : ys.length = 5) : ∀ (d j : Nat) (acc : List Int), j + d = 5 → acc.length + 8 * d ≤ 1099511627776 → Ev (fun k => spec_PutImage.l1 k (acc ++ beAll (ys.drop j)) (wrap64 (x5 + 1)) x0 x1 x2 l) r → Ev (fun k => spec_PutImage.l2 k acc x5 ys (j : Int) x0 x1 x2 l) r := by
  intro d
  induction d with
  | zero =>
    intro j acc hj ha h
    refine Ev.step (fun k => by rw [spec_PutImage.l2]) ?_
    refine Ev.neg (by omega) ?_
    rw [List.drop_eq_nil_of_le (by omega)] at h
    simpa [beAll] using h
  | succ d ih =>
    intro j acc hj ha h
    have hj' : j < ys.length := by omega
    have hr : rd ys (j : Int) = ys[j] := by rw [rd_nat, List.getD_eq_getElem?_getD, List.getElem?_eq_getElem hj']; rfl
    refine Ev.step (fun k => by rw [spec_PutImage.l2]) ?_
    refine Ev.pos (by omega) (Ev.pos (by omega) (Ev.pos (by omega) ?_))
    refine Ev.bind (ev_Num _) (Ev.pos (by rw [be8_length]; omega) ?_)
    rw [wrap_succ hj' (by omega)]
    refine ih (j + 1) _ (by omega) (by rw [List.length_append, be8_length]; omega) ?_
    rw [List.drop_eq_getElem_cons hj', show ys[j] :: ys.drop (j + 1) = [ys[j]] ++ ys.drop (j + 1) from rfl, beAll_append, beAll_one, ← List.append_assoc, ← hr] at h
    exact h
theorem ev_Put_l1 (hl : l.length ≤ 1048576) (t : Int) : ∀ (d i : Nat) (acc : List Int), i + d = l.length → acc.length + 40 * d ≤ 109951162777 → Ev (fun k => spec_Sum.f k (strOfNums (acc ++ beAll (wordNums (l.drop i))))) t → Ev (fun k => spec_PutImage.l1 k acc (i : Int) x0 x1 x2 l) (strOfNums (acc ++ beAll (wordNums (l.drop i)) ++ beAll [wrap64 t])) := by
  intro d
  induction d with
  | zero =>
    intro i acc hi ha h
    rw [List.drop_eq_nil_of_le (by omega)] at h ⊢
    have e : acc ++ beAll (wordNums ([] : List S59)) = acc := by simp [wordNums, beAll]
    rw [e] at h ⊢
    refine Ev.step (fun k => by rw [spec_PutImage.l1]) ?_
    refine Ev.neg (by omega) (Ev.bind h (Ev.bind (ev_Num _) (Ev.pos (by rw [be8_length]; omega) ?_)))
    rw [beAll_one]
    exact Ev.now _
  | succ d ih =>
    intro i acc hi ha h
    have hi' : i < l.length := by omega
    have hr : rd_T59 l (i : Int) = l[i] := rd_impl_Word hi'
    have e : beAll (wordNums (l.drop i)) = beAll [l[i].f0, l[i].f1, l[i].f2, l[i].f3, l[i].f4] ++ beAll (wordNums (l.drop (i + 1))) := by
      rw [List.drop_eq_getElem_cons hi', ← beAll_append]
      rfl
    refine Ev.step (fun k => by rw [spec_PutImage.l1]) ?_
    refine Ev.pos (by omega) (Ev.pos (by omega) ?_)
    refine ev_Put_l2 rfl 5 0 acc rfl (by omega) ?_
    rw [wrap_succ hi' (by omega), hr, List.drop_zero]
    rw [e, ← List.append_assoc] at h ⊢
    exact ih (i + 1) _ (by omega) (by rw [List.length_append, beAll_length]; simp; omega) h
theorem ev_Put_l0 (h0 : x0.length ≤ 1048576) (hl : l.length ≤ 1048576) (t : Int) : ∀ (d i : Nat) (acc : List Int), i + d = x0.length → acc.length + 8 * d ≤ 10995116277 → Ev (fun k => spec_Sum.f k (strOfNums (acc ++ beAll (x0.drop i) ++ beAll [x1, x2, (l.length : Int)] ++ beAll (wordNums l)))) t → Ev (fun k => spec_PutImage.l0 k acc (i : Int) x0 x1 x2 l) (strOfNums (acc ++ beAll (x0.drop i) ++ beAll [x1, x2, (l.length : Int)] ++ beAll (wordNums l) ++ beAll [wrap64 t])) := by
  intro d
  induction d with
  | zero =>
    intro i acc hi ha h
    rw [List.drop_eq_nil_of_le (by omega)] at h ⊢
    have e : acc ++ beAll [] ++ beAll [x1, x2, (l.length : Int)] = acc ++ be8 (IntKind.u64.wrap x1) ++ be8 (IntKind.u64.wrap x2) ++ be8 (IntKind.u64.wrap (l.length : Int)) := by simp [beAll]
    rw [e] at h ⊢
    refine Ev.step (fun k => by rw [spec_PutImage.l0]) ?_
    refine Ev.neg (by omega) (Ev.bind (ev_Num _) (Ev.pos (by rw [be8_length]; omega) (Ev.val (Ev.bind (ev_Num _) (Ev.pos (by rw [List.length_append, be8_length, be8_length]; omega) (Ev.val (Ev.bind (ev_Num _) (Ev.pos (by rw [List.length_append, List.length_append, be8_length, be8_length, be8_length]; omega) ?_))))))))
    have := ev_Put_l1 (x0 := x0) (x1 := x1) (x2 := x2) hl t l.length 0 (acc ++ be8 (IntKind.u64.wrap x1) ++ be8 (IntKind.u64.wrap x2) ++ be8 (IntKind.u64.wrap (l.length : Int))) (by omega) (by simp only [List.length_append, be8_length]; omega) (by rw [List.drop_zero]; exact h)
    rw [List.drop_zero] at this
    exact this
  | succ d ih =>
    intro i acc hi ha h
    have hi' : i < x0.length := by omega
    have hr : rd x0 (i : Int) = x0[i] := by rw [rd_nat, List.getD_eq_getElem?_getD, List.getElem?_eq_getElem hi']; rfl
    have e : beAll (x0.drop i) = be8 (IntKind.u64.wrap (rd x0 (i : Int))) ++ beAll (x0.drop (i + 1)) := by
      rw [List.drop_eq_getElem_cons hi', show x0[i] :: x0.drop (i + 1) = [x0[i]] ++ x0.drop (i + 1) from rfl, beAll_append, beAll_one, hr]
    refine Ev.step (fun k => by rw [spec_PutImage.l0]) ?_
    refine Ev.pos (by omega) (Ev.pos (by omega) (Ev.bind (ev_Num _) (Ev.pos (by rw [be8_length]; omega) ?_)))
    rw [wrap_succ hi' (by omega)]
    rw [e, ← List.append_assoc] at h ⊢
    exact ih (i + 1) _ (by omega) (by rw [List.length_append, be8_length]; omega) h
end
theorem ev_PutImage (x0 : List Int) (x1 x2 : Int) (l : List S59) (h0 : x0.length ≤ 1048576) (hl : l.length ≤ 1048576) :
    ∃ r : ByteArray, Ev (fun k => spec_PutImage.f k x0 x1 x2 l) r ∧ Ev (fun k => impl_PutImage.f k x0 x1 x2 l) r := by
  by_cases hok : imageOk x0 x1 x2 l = true
  · have hsz : (strOfNums (beAll (imageNums x0 x1 x2 l))).size ≤ 140737488351232 := by
      rw [strOfNums_size, beAll_length]
      simp only [imageNums, List.length_append, wordNums_length, List.length_cons, List.length_nil]
      omega
    obtain ⟨t, t1, t2⟩ := ev_sums _ hsz
    refine ⟨strOfNums (beAll (imageNums x0 x1 x2 l) ++ beAll [wrap64 t]), ?_, ?_⟩
    · unfold spec_PutImage.f
      refine Ev.bind (ev_ImageOk_spec x0 x1 x2 l (by omega) (by omega)) (Ev.pos hok (Ev.bind (ev_Num _) ?_))
      have e : beAll (imageNums x0 x1 x2 l) = be8 (IntKind.u64.wrap (x0.length : Int)) ++ beAll x0 ++ beAll [x1, x2, (l.length : Int)] ++ beAll (wordNums l) := by
        simp only [imageNums, beAll_append, beAll_one]
      rw [e] at t1 ⊢
      have := ev_Put_l0 (x0 := x0) (x1 := x1) (x2 := x2) (l := l) h0 hl t x0.length 0 (be8 (IntKind.u64.wrap (x0.length : Int))) (by omega) (by rw [be8_length]; omega) (by rw [List.drop_zero]; exact t1)
      rw [List.drop_zero] at this
      exact this
    · unfold impl_PutImage.f impl_isImage.f impl_putImage.f
      exact Ev.val (Ev.pos hok (Ev.bind (Ev.pos (by omega) (Ev.bind t2 (Ev.now _))) (Ev.now _)))
  · refine ⟨⟨#[]⟩, ?_, ?_⟩
    · unfold spec_PutImage.f
      exact Ev.bind (ev_ImageOk_spec x0 x1 x2 l (by omega) (by omega)) (Ev.neg hok (Ev.now _))
    · unfold impl_PutImage.f impl_isImage.f
      exact Ev.val (Ev.neg hok (Ev.now _))

end Go.Proofs.Ytnbaojaocagjcaa.P
end
section
-- Written for this claim by gp.py over the kit's print; not trusted: Lean checks it.







namespace Go.Proofs.Ytnbaojaocagjcaa.P
open Go.RowKit Go.Proofs.YtnbaojaocagjcaaW.PrintWords Go.Proofs.YtnbaojaocagjcaaW.PrintLast Go.Proofs.YtnbaojaocagjcaaW.PrintMore
set_option linter.unusedVariables false
set_option linter.unusedSimpArgs false

theorem FnExactPutImage_good (x : S28) (hf : fit28 x) : ∃ k, laws_FnExactPutImage.f k x.f0 x.f1 x.f2 x.f3 = some true := by
  obtain ⟨h0, _, _, h3⟩ := hf
  obtain ⟨t, e1, e2, e3⟩ := sz_image x.f0 x.f1 x.f2 x.f3 1048576 (by omega) (by omega) h0.1 h3.1
  refine Ev.rounds (g := fun k => laws_FnExactPutImage.f k x.f0 x.f1 x.f2 x.f3) ?_
  unfold laws_FnExactPutImage.f
  rw [e1]
  refine Ev.val ?_
  by_cases ht : t < 0
  · exact Ev.pos ht (Ev.now _)
  refine Ev.neg ht ?_
  obtain ⟨b0, b3⟩ := e3 (by omega)
  have hT := ev_toImage x.f0 x.f1 x.f2 x.f3 b0 b3
  have hm : (x.f3.map toWord).length ≤ 1048576 := by rw [List.length_map]; exact b3
  obtain ⟨r, r1, r2⟩ := ev_PutImage x.f0 x.f1 x.f2 (x.f3.map toWord) b0 hm
  exact Ev.bind hT (Ev.bind r1 (Ev.bind hT (Ev.bind r2 (Ev.pos rfl (Ev.bind hT (Ev.bind (ev_eqImage x.f0 x.f1 x.f2 (x.f3.map toWord) (by omega) (by omega)) (Ev.pos rfl (Ev.now _))))))))

end Go.Proofs.Ytnbaojaocagjcaa.P
end
