-- Joined by pack.py from F35, FHGetBytes, FHFuncAny, FHFuncWord, F66, FHFuncInt, FHIsProgram, FHIsWord, FHIsImage, F38, FHPutBytes
import Derived.Test.YtnbaojaocagjcaaQGetImage1
import Derived.Test.YtnbaojaocagjcaaQGetImage3
import Derived.Test.YtnbaojaocagjcaaQGetImage2
import Derived.Shelf.Abstract
import Derived.Outline
import Derived.Lib.Endian
import Derived.Lib.EndianBits
import Derived.Deep.QuietTactic
import Derived.BigQuiet
import Derived.RegionTactic
import Derived.Stop.LaidErr
import Derived.Lib.Walk
import Derived.WalkKit
section
-- Written for this claim by gp.py over the kit's print; not trusted: Lean checks it.




namespace Go.Proofs.Ytnbaojaocagjcaa.P
open Go.RowKit Go.Proofs.YtnbaojaocagjcaaW.PrintWords Go.Proofs.YtnbaojaocagjcaaW.PrintLast Go.Proofs.YtnbaojaocagjcaaW.PrintMore
attribute [local go_sem] max2_int min2_int max_two min_two max_three min_three max_four min_four
set_option linter.unusedVariables false
set_option linter.unusedSimpArgs false

/-! ### spec_GetImage: function 35 -/
mutual
def spec_GetImage.j0 : Nat → ByteArray → Int → Bool → Option (List Int × Int × Int × (List (S59)) × Bool)
  | 0, _, _, _ => none
  | k + 1, x0, x4, x19 => if x19 = true then (some (([] : List Int), 0, 0, ([] : List (S59)), false)) else ((spec_l14Get.f k x0 0).bind fun t104 => (if x4 < (wrap64 (t104 + 10)) then (spec_GetImage.j1 k x0 x4 t104 true) else ((spec_l14Get.f k x0 (wrap64 ((wrap64 (8 * t104)) + 24))).bind fun t105 => ((spec_l01In.f t105 1 6000).bind fun t106 => (if t106 = true then ((spec_l14Get.f k x0 (wrap64 ((wrap64 (8 * t104)) + 24))).bind fun t107 => (spec_GetImage.j1 k x0 x4 t104 (x4 != (wrap64 ((wrap64 (t104 + 5)) + (wrap64 (5 * t107))))))) else (spec_GetImage.j1 k x0 x4 t104 true))))))
def spec_GetImage.j1 : Nat → ByteArray → Int → Int → Bool → Option (List Int × Int × Int × (List (S59)) × Bool)
  | 0, _, _, _, _ => none
  | k + 1, x0, x4, x5, x48 => if x48 = true then (some (([] : List Int), 0, 0, ([] : List (S59)), false)) else ((spec_l14Get.f k x0 (wrap64 ((wrap64 (8 * x5)) + 8))).bind fun t108 => ((spec_l14Get.f k x0 (wrap64 ((wrap64 (8 * x5)) + 16))).bind fun t109 => (spec_GetImage.l0 k x0 x4 x5 1 ([] : List Int) t108 t109)))
def spec_GetImage.l0 : Nat → ByteArray → Int → Int → Int → List Int → Int → Int → Option (List Int × Int × Int × (List (S59)) × Bool)
  | 0, _, _, _, _, _, _, _ => none
  | k + 1, x0, x4, x5, x7, x111000, x111001, x111002 => if x7 ≤ x5 then ((spec_l14Get.f k x0 (wrap64 (8 * x7))).bind fun t111 => (if x111000.length < 17592186044416 then (spec_GetImage.l0 k x0 x4 x5 (wrap64 (x7 + 1)) (x111000 ++ [t111]) x111001 x111002) else (none))) else (spec_GetImage.l1 k x0 x4 (wrap64 (x5 + 4)) x111000 x111001 x111002 ([] : List (S59)))
def spec_GetImage.l1 : Nat → ByteArray → Int → Int → List Int → Int → Int → List (S59) → Option (List Int × Int × Int × (List (S59)) × Bool)
  | 0, _, _, _, _, _, _, _ => none
  | k + 1, x0, x4, x8, x111000, x111001, x111002, x111003 => if (wrap64 (x8 + 5)) < x4 then ((spec_l14Get.f k x0 (wrap64 (8 * x8))).bind fun t116 => ((spec_l14Get.f k x0 (wrap64 ((wrap64 (8 * x8)) + 8))).bind fun t117 => ((spec_l14Get.f k x0 (wrap64 ((wrap64 (8 * x8)) + 16))).bind fun t118 => ((spec_l14Get.f k x0 (wrap64 ((wrap64 (8 * x8)) + 24))).bind fun t119 => ((spec_l14Get.f k x0 (wrap64 ((wrap64 (8 * x8)) + 32))).bind fun t120 => (if x111003.length < 3518437208883 then (spec_GetImage.l1 k x0 x4 (wrap64 (x8 + 5)) x111000 x111001 x111002 (x111003 ++ [(⟨t116, t117, t118, t119, t120⟩ : S59)])) else (none))))))) else ((spec_PutImage.f k x111000 x111001 x111002 x111003).bind fun t115 => (if t115.toList = x0.toList then (some (x111000, x111001, x111002, x111003, true)) else (some (([] : List Int), 0, 0, ([] : List (S59)), false))))
end
def spec_GetImage.f (k : Nat) (a0 : ByteArray) : Option (List Int × Int × Int × (List (S59)) × Bool) := if (wrap64 ((a0.size : Int) / 8)) < 1 then (spec_GetImage.j0 k a0 (wrap64 ((a0.size : Int) / 8)) true) else ((spec_l14Get.f k a0 0).bind fun t102 => ((spec_l01In.f t102 1 4).bind fun t103 => (spec_GetImage.j0 k a0 (wrap64 ((a0.size : Int) / 8)) (!t103))))
theorem spec_GetImage.mono_l : ∀ k, (∀ y0 y1 y2, LeO (spec_GetImage.j0 k y0 y1 y2) (spec_GetImage.j0 (k + 1) y0 y1 y2)) ∧ (∀ y0 y1 y2 y3, LeO (spec_GetImage.j1 k y0 y1 y2 y3) (spec_GetImage.j1 (k + 1) y0 y1 y2 y3)) ∧ (∀ y0 y1 y2 y3 y4 y5 y6, LeO (spec_GetImage.l0 k y0 y1 y2 y3 y4 y5 y6) (spec_GetImage.l0 (k + 1) y0 y1 y2 y3 y4 y5 y6)) ∧ (∀ y0 y1 y2 y3 y4 y5 y6, LeO (spec_GetImage.l1 k y0 y1 y2 y3 y4 y5 y6) (spec_GetImage.l1 (k + 1) y0 y1 y2 y3 y4 y5 y6))
  | 0 => ⟨fun _ _ _ r h => by simp [spec_GetImage.j0] at h, fun _ _ _ _ r h => by simp [spec_GetImage.j1] at h, fun _ _ _ _ _ _ _ r h => by simp [spec_GetImage.l0] at h, fun _ _ _ _ _ _ _ r h => by simp [spec_GetImage.l1] at h⟩
  | k + 1 => by
    obtain ⟨ih0, ih1, ih2, ih3⟩ := spec_GetImage.mono_l k
    refine ⟨?_, ?_, ?_, ?_⟩
    · intro y0 y1 y2
      unfold spec_GetImage.j0
      repeat' first
      | (with_reducible exact ih0 _ _ _)
      | (with_reducible exact ih1 _ _ _ _)
      | (with_reducible exact ih2 _ _ _ _ _ _ _)
      | (with_reducible exact ih3 _ _ _ _ _ _ _)
      | (with_reducible exact spec_PutImage.mono _ _ _ _ _)
      | (with_reducible exact spec_l14Get.mono _ _ _)
      | (with_reducible exact LeO.refl _)
      | (with_reducible exact LeO.none _)
      | (with_reducible refine LeO.ite ?_ ?_)
      | (with_reducible refine LeO.bind ?_ (fun _ => ?_))
      | exact ih0 _ _ _
      | exact ih1 _ _ _ _
      | exact ih2 _ _ _ _ _ _ _
      | exact ih3 _ _ _ _ _ _ _
      | exact spec_PutImage.mono _ _ _ _ _
      | exact spec_l14Get.mono _ _ _
      | exact LeO.none _
      | refine LeO.ite ?_ ?_
      | refine LeO.bind ?_ (fun _ => ?_)
    · intro y0 y1 y2 y3
      unfold spec_GetImage.j1
      repeat' first
      | (with_reducible exact ih0 _ _ _)
      | (with_reducible exact ih1 _ _ _ _)
      | (with_reducible exact ih2 _ _ _ _ _ _ _)
      | (with_reducible exact ih3 _ _ _ _ _ _ _)
      | (with_reducible exact spec_PutImage.mono _ _ _ _ _)
      | (with_reducible exact spec_l14Get.mono _ _ _)
      | (with_reducible exact LeO.refl _)
      | (with_reducible exact LeO.none _)
      | (with_reducible refine LeO.ite ?_ ?_)
      | (with_reducible refine LeO.bind ?_ (fun _ => ?_))
      | exact ih0 _ _ _
      | exact ih1 _ _ _ _
      | exact ih2 _ _ _ _ _ _ _
      | exact ih3 _ _ _ _ _ _ _
      | exact spec_PutImage.mono _ _ _ _ _
      | exact spec_l14Get.mono _ _ _
      | exact LeO.none _
      | refine LeO.ite ?_ ?_
      | refine LeO.bind ?_ (fun _ => ?_)
    · intro y0 y1 y2 y3 y4 y5 y6
      unfold spec_GetImage.l0
      repeat' first
      | (with_reducible exact ih0 _ _ _)
      | (with_reducible exact ih1 _ _ _ _)
      | (with_reducible exact ih2 _ _ _ _ _ _ _)
      | (with_reducible exact ih3 _ _ _ _ _ _ _)
      | (with_reducible exact spec_PutImage.mono _ _ _ _ _)
      | (with_reducible exact spec_l14Get.mono _ _ _)
      | (with_reducible exact LeO.refl _)
      | (with_reducible exact LeO.none _)
      | (with_reducible refine LeO.ite ?_ ?_)
      | (with_reducible refine LeO.bind ?_ (fun _ => ?_))
      | exact ih0 _ _ _
      | exact ih1 _ _ _ _
      | exact ih2 _ _ _ _ _ _ _
      | exact ih3 _ _ _ _ _ _ _
      | exact spec_PutImage.mono _ _ _ _ _
      | exact spec_l14Get.mono _ _ _
      | exact LeO.none _
      | refine LeO.ite ?_ ?_
      | refine LeO.bind ?_ (fun _ => ?_)
    · intro y0 y1 y2 y3 y4 y5 y6
      unfold spec_GetImage.l1
      repeat' first
      | (with_reducible exact ih0 _ _ _)
      | (with_reducible exact ih1 _ _ _ _)
      | (with_reducible exact ih2 _ _ _ _ _ _ _)
      | (with_reducible exact ih3 _ _ _ _ _ _ _)
      | (with_reducible exact spec_PutImage.mono _ _ _ _ _)
      | (with_reducible exact spec_l14Get.mono _ _ _)
      | (with_reducible exact LeO.refl _)
      | (with_reducible exact LeO.none _)
      | (with_reducible refine LeO.ite ?_ ?_)
      | (with_reducible refine LeO.bind ?_ (fun _ => ?_))
      | exact ih0 _ _ _
      | exact ih1 _ _ _ _
      | exact ih2 _ _ _ _ _ _ _
      | exact ih3 _ _ _ _ _ _ _
      | exact spec_PutImage.mono _ _ _ _ _
      | exact spec_l14Get.mono _ _ _
      | exact LeO.none _
      | refine LeO.ite ?_ ?_
      | refine LeO.bind ?_ (fun _ => ?_)
theorem spec_GetImage.mono : ∀ a0 k, LeO (spec_GetImage.f k a0) (spec_GetImage.f (k + 1) a0) := by
  intro a0 k
  obtain ⟨ih0, ih1, ih2, ih3⟩ := spec_GetImage.mono_l k
  unfold spec_GetImage.f
  repeat' first
      | (with_reducible exact ih0 _ _ _)
      | (with_reducible exact ih1 _ _ _ _)
      | (with_reducible exact ih2 _ _ _ _ _ _ _)
      | (with_reducible exact ih3 _ _ _ _ _ _ _)
      | (with_reducible exact spec_PutImage.mono _ _ _ _ _)
      | (with_reducible exact spec_l14Get.mono _ _ _)
      | (with_reducible exact LeO.refl _)
      | (with_reducible exact LeO.none _)
      | (with_reducible refine LeO.ite ?_ ?_)
      | (with_reducible refine LeO.bind ?_ (fun _ => ?_))
      | exact ih0 _ _ _
      | exact ih1 _ _ _ _
      | exact ih2 _ _ _ _ _ _ _
      | exact ih3 _ _ _ _ _ _ _
      | exact spec_PutImage.mono _ _ _ _ _
      | exact spec_l14Get.mono _ _ _
      | exact LeO.none _
      | refine LeO.ite ?_ ?_
      | refine LeO.bind ?_ (fun _ => ?_)
def spec_GetImage.T11 : Bool × List (List Nat × List Nat) := (true, [([], []), ([0], [0]), ([], []), ([], []), ([3], [3]), ([2, 4], [2, 4]), ([5], [5]), ([1, 6, 5], [1, 6]), ([0, 1, 2, 3, 4, 5, 6, 7], []), ([8, 7, 7, 0, 1, 2, 3, 4, 5, 6, 7], [7, 8])])
def spec_GetImage.B11 : List Nat := [0, 1, 0, 0, 8, 28, 60, 127, 255, 511]
theorem spec_GetImage.tab11 : rtab .any (opsOf Try.f35 11) = spec_GetImage.T11 := by kernel_rfl
theorem spec_GetImage.bits11 : waitsOk spec_GetImage.T11.2 spec_GetImage.B11 = true := by kernel_rfl
def spec_GetImage.T15 : Bool × List (List Nat × List Nat) := (true, [([], []), ([0], [0]), ([], []), ([], []), ([3], [3]), ([2, 4], [2, 4]), ([], []), ([], []), ([7], [7]), ([8], [8]), ([6, 9, 5], [6, 9]), ([], []), ([], []), ([12], [12]), ([13], [13]), ([11, 14, 10], [11, 14]), ([], []), ([], []), ([17], [17]), ([18], [18]), ([16, 19, 15], [16, 19]), ([], []), ([], []), ([22], [22]), ([23], [23]), ([21, 24, 20], [21, 24]), ([5, 10, 15, 20, 25], [5, 10, 15, 20, 25]), ([26], [26]), ([1, 27, 25], [1, 27]), ([0, 1, 2, 3, 4, 5, 6, 7, 8, 9, 10, 11, 12, 13, 14, 15, 16, 17, 18, 19, 20, 21, 22, 23, 24, 25, 26, 27, 28], []), ([29, 28, 28, 0, 1, 2, 3, 4, 5, 6, 7, 8, 9, 10, 11, 12, 13, 14, 15, 16, 17, 18, 19, 20, 21, 22, 23, 24, 25, 26, 27, 28], [28, 29])])
def spec_GetImage.B15 : List Nat := [0, 1, 0, 0, 8, 28, 0, 0, 128, 384, 1020, 0, 0, 4096, 12288, 32764, 0, 0, 131072, 393216, 1048572, 0, 0, 4194304, 12582912, 33554428, 67108860, 134217724, 268435455, 536870911, 1073741823]
theorem spec_GetImage.tab15 : rtab .any (opsOf Try.f35 15) = spec_GetImage.T15 := by kernel_rfl
theorem spec_GetImage.bits15 : waitsOk spec_GetImage.T15.2 spec_GetImage.B15 = true := by kernel_rfl
set_option maxHeartbeats 8000000 in
set_option maxRecDepth 100000 in
theorem spec_GetImage.calls (k : Nat) (a0 : ByteArray) (r1 : List Int) (r2 : Int) (r3 : Int) (r4 : List (S59)) (r5 : Bool) (w : World) (h : spec_GetImage.f k a0 = some (r1, r2, r3, r4, r5)) :
    Calls Try.prog 35 #[.string a0] w fun e w' => ∃ v0_ v3_ : Value, e = .returned (.tuple #[.agg #[v0_, .int .i64 r2, .int .i64 r3, v3_], .bool r5]) ∧ Kd.R (Kd.int .i64) 3 w' w.heap.size (fun _ => True) v0_ r1 ∧ Kd.R k59 59 w' w.heap.size (fun _ => True) v3_ r4 ∧ Below w.heap.size w w' := by
  have hu33 := Try.underlying33
  have hu59 := Try.underlying59
  have HB := Aside0.mk (Below.refl w.heap.size w)
  have H : (if (wrap64 ((a0.size : Int) / 8)) < 1 then (spec_GetImage.j0 k a0 (wrap64 ((a0.size : Int) / 8)) true) else ((spec_l14Get.f k a0 0).bind fun t102 => ((spec_l01In.f t102 1 4).bind fun t103 => (spec_GetImage.j0 k a0 (wrap64 ((a0.size : Int) / 8)) (!t103))))) = some (r1, r2, r3, r4, r5) := h
  clear h
  have HC2 := Aside0.mk H
  clear H
  go_enter Try.func35, Try.ntmps35
  go_upto_region 2 with (first | ((with_reducible refine gate_dst (N := 2) rfl ?_); refine box_event ?hg (N := 2) ?hd (cs := #[.slice none 0 0, .int .i64 0, .int .i64 0, .slice none 0 0]) (t := 33) ?hr ?_; (case hd => rfl); (case hg => rfl); (case hr => first | (go_simp; done) | (go_simp; rfl)); intro gb101 hg w3 hbox hb; have n0_ := Aside0.mk (below_step (by repeat (first | (with_reducible first | exact HB.out | apply below_alloc | apply pw_below_drewN | apply below_drew1) | exact HB.out)) hb); have n1_ := Aside0.mk (hbox); have n2_ := Aside0.mk ((by rw [hg]; exact (below_size (by repeat (first | (with_reducible first | exact HB.out | apply below_alloc | apply pw_below_drewN | apply below_drew1) | exact HB.out))) : w.heap.size ≤ gb101)); have n3_ := Aside0.mk ((by rw [hg]; exact (below_size (by repeat (first | (with_reducible first | exact HB.out | apply below_alloc | apply pw_below_drewN | apply below_drew1) | exact HB.out))) : w.heap.size ≤ gb101)); clear HB; have HB := n0_; have BK101 := n1_; have GW101 := n2_; have GE101 := n3_; clear n0_ n1_ n2_ n3_; clear hb hbox hg))
  (try simp only [Act.put, List.setIfInBounds_toArray, List.set_cons_zero, List.set_cons_succ])
  go_cut [19] (fun v19 wc => ∃ (kq : Nat) (x19_1 : Bool), v19 = .bool x19_1 ∧ Aside0 (spec_GetImage.j0 kq a0 (wrap64 ((a0.size : Int) / 8)) x19_1 = some (r1, r2, r3, r4, r5)) ∧ Aside0 (kq ≤ k) ∧ Aside0 (wc.heap[gb101]? = some (.cells #[(.slice none 0 0), .int .i64 0, .int .i64 0, (.slice none 0 0)] 33 (0, 0))) ∧ Aside0 (Below w.heap.size w wc))
  case first =>
    have H := HC2.out
    clear HC2
    by_cases c4 : (wrap64 ((a0.size : Int) / 8)) < 1
    · rw [if_pos c4] at H
      have c4b0 : decide ((wrap64 ((a0.size : Int) / 8)) < 1) = true := decide_eq_true c4
      clear c4
      (first | rw [c4b0] | (simp only [i64_w, i32_w]; rw [c4b0]) | skip)
      have H' := Aside0.mk H
      clear H
      go_wp2
      go_meet
      case rel => exact ⟨_, (true), (by first | rfl | (simp; done) | (simp [*]; done)), H', ⟨by first | omega | exact Nat.le_refl _⟩, ⟨by (with_reducible repeat (first | refine blk_drewN ?_ _ | refine blk_drew ?_ | refine blk_alloc ?_ _)); exact BK101.out⟩, ⟨by repeat (first | (with_reducible first | exact HB.out | apply below_alloc | apply pw_below_drewN | apply below_drew1 | refine below_set ?_ GE101.out) | exact HB.out)⟩⟩
    · rw [if_neg c4] at H
      have c4b0 : decide ((wrap64 ((a0.size : Int) / 8)) < 1) = false := decide_eq_false c4
      clear c4
      (first | rw [c4b0] | (simp only [i64_w, i32_w]; rw [c4b0]) | skip)
      replace H := Option.bind_eq_some_iff.mp H
      obtain ⟨t102, A50, H⟩ := H
      replace H : ((spec_l01In.f t102 1 4).bind fun t103 => (spec_GetImage.j0 k a0 (wrap64 ((a0.size : Int) / 8)) (!t103))) = some (r1, r2, r3, r4, r5) := H
      have A5 := Aside0.mk A50
      clear A50
      replace H := Option.bind_eq_some_iff.mp H
      obtain ⟨t103, A60, H⟩ := H
      replace H : (spec_GetImage.j0 k a0 (wrap64 ((a0.size : Int) / 8)) (!t103)) = some (r1, r2, r3, r4, r5) := H
      have A6 := Aside0.mk A60
      clear A60
      have H' := Aside0.mk H
      clear H
      go_wp2_with (first | (go_at_call 57; (with_reducible refine (spec_l14Get.calls k a0 0 t102 _ A5.out).mono ?_); rintro e w' ⟨rfl, ⟨nd, rfl⟩⟩) | (go_at_call 50; (with_reducible refine (spec_l01In.calls t102 1 4 t103 _ A6.out).mono ?_); rintro e w' ⟨rfl, ⟨nd, rfl⟩⟩))
      go_meet
      case rel => exact ⟨_, (!t103), (by first | rfl | (simp; done) | (simp [*]; done)), H', ⟨by first | omega | exact Nat.le_refl _⟩, ⟨by (with_reducible repeat (first | refine blk_drewN ?_ _ | refine blk_drew ?_ | refine blk_alloc ?_ _)); exact BK101.out⟩, ⟨by repeat (first | (with_reducible first | exact HB.out | apply below_alloc | apply pw_below_drewN | apply below_drew1 | refine below_set ?_ GE101.out) | exact HB.out)⟩⟩
  case rest =>
    clear HC2
    try clear p2
    try clear c3
    try clear c4
    try clear c4b0
    try clear p6
    obtain ⟨kq, x19_1, rfl, HA, HJ1, BK101, HB⟩ := hcut
    cases kq with
    | zero => exact absurd HA.out (by simp [spec_GetImage.j0])
    | succ kj1 =>
      have H := HA.out
      clear HA
      simp only [spec_GetImage.j0] at H
      by_cases c7 : x19_1 = true
      · subst c7
        have H1 : (some (([] : List Int), 0, 0, ([] : List (S59)), false)) = some (r1, r2, r3, r4, r5) := by rw [if_pos rfl] at H; exact H
        clear H
        have H := H1
        clear H1
        simp only [Option.some.injEq, Prod.mk.injEq] at H
        obtain ⟨rfl, rfl, rfl, rfl, rfl⟩ := H
        have hcz8_0 : wc.cell? ⟨gb101, 0, none⟩ = some (.slice none 0 0) := (blk_cell BK101.out 0).trans rfl
        have hcz8_1 : wc.cell? ⟨gb101, 1, none⟩ = some (.int .i64 0) := (blk_cell BK101.out 1).trans rfl
        have hcz8_2 : wc.cell? ⟨gb101, 2, none⟩ = some (.int .i64 0) := (blk_cell BK101.out 2).trans rfl
        have hcz8_3 : wc.cell? ⟨gb101, 3, none⟩ = some (.slice none 0 0) := (blk_cell BK101.out 3).trans rfl
        have hfz8_0 := blk_frozen BK101.out 0
        have hfz8_1 := blk_frozen BK101.out 1
        have hfz8_2 := blk_frozen BK101.out 2
        have hfz8_3 := blk_frozen BK101.out 3
        go_wp2
        refine bodyPost_ret (results_ct rfl _ _ gb101 33 #[.slice none 0 0, .int .i64 0, .int .i64 0, .slice none 0 0] (0, 0) _ rfl (by (with_reducible repeat (first | refine blk_drewN ?_ _ | refine blk_drew ?_ | refine blk_alloc ?_ _)); refine blk_put (cs := #[.slice none 0 0, .int .i64 0, .int .i64 0, .slice none 0 0]) ?_ 3 _ rfl; (with_reducible repeat (first | refine blk_drewN ?_ _ | refine blk_drew ?_ | refine blk_alloc ?_ _)); refine blk_put (cs := #[.slice none 0 0, .int .i64 0, .int .i64 0, .slice none 0 0]) ?_ 2 _ rfl; (with_reducible repeat (first | refine blk_drewN ?_ _ | refine blk_drew ?_ | refine blk_alloc ?_ _)); refine blk_put (cs := #[.slice none 0 0, .int .i64 0, .int .i64 0, .slice none 0 0]) ?_ 1 _ rfl; (with_reducible repeat (first | refine blk_drewN ?_ _ | refine blk_drew ?_ | refine blk_alloc ?_ _)); refine blk_put (cs := #[.slice none 0 0, .int .i64 0, .int .i64 0, .slice none 0 0]) ?_ 0 _ rfl; (with_reducible repeat (first | refine blk_drewN ?_ _ | refine blk_drew ?_ | refine blk_alloc ?_ _)); exact BK101.out) Try.underlying33 rfl (by kernel_rfl)) rfl ?_
        exact ⟨_, _, by first | rfl | (simp [errW_none, errW_some] <;> rfl) | (simp [*, errW_none, errW_some] <;> rfl), by first | exact Kd.R_nil _ _ _ _ _ | exact Kd.N_nil _ _ _ _ _ | exact Kd.V_nil _ _ _ _ _ | exact Kd.Q_nil _ _ _ _ _ | exact Kd.S_nil _ _ _ _ _, by first | exact Kd.R_nil _ _ _ _ _ | exact Kd.N_nil _ _ _ _ _ | exact Kd.V_nil _ _ _ _ _ | exact Kd.Q_nil _ _ _ _ _ | exact Kd.S_nil _ _ _ _ _, by repeat (first | (with_reducible first | exact HB.out | apply below_alloc | apply pw_below_drewN | apply below_drew1 | refine below_set ?_ GE101.out) | exact HB.out)⟩
      · replace c7 := Bool.eq_false_iff.mpr c7
        subst c7
        have H1 : ((spec_l14Get.f kj1 a0 0).bind fun t104 => (if (wrap64 ((a0.size : Int) / 8)) < (wrap64 (t104 + 10)) then (spec_GetImage.j1 kj1 a0 (wrap64 ((a0.size : Int) / 8)) t104 true) else ((spec_l14Get.f kj1 a0 (wrap64 ((wrap64 (8 * t104)) + 24))).bind fun t105 => ((spec_l01In.f t105 1 6000).bind fun t106 => (if t106 = true then ((spec_l14Get.f kj1 a0 (wrap64 ((wrap64 (8 * t104)) + 24))).bind fun t107 => (spec_GetImage.j1 kj1 a0 (wrap64 ((a0.size : Int) / 8)) t104 ((wrap64 ((a0.size : Int) / 8)) != (wrap64 ((wrap64 (t104 + 5)) + (wrap64 (5 * t107))))))) else (spec_GetImage.j1 kj1 a0 (wrap64 ((a0.size : Int) / 8)) t104 true)))))) = some (r1, r2, r3, r4, r5) := by rw [if_neg (show ¬ (false = true) by decide)] at H; exact H
        clear H
        have H := H1
        clear H1
        replace H := Option.bind_eq_some_iff.mp H
        obtain ⟨t104, A90, H⟩ := H
        replace H : (if (wrap64 ((a0.size : Int) / 8)) < (wrap64 (t104 + 10)) then (spec_GetImage.j1 kj1 a0 (wrap64 ((a0.size : Int) / 8)) t104 true) else ((spec_l14Get.f kj1 a0 (wrap64 ((wrap64 (8 * t104)) + 24))).bind fun t105 => ((spec_l01In.f t105 1 6000).bind fun t106 => (if t106 = true then ((spec_l14Get.f kj1 a0 (wrap64 ((wrap64 (8 * t104)) + 24))).bind fun t107 => (spec_GetImage.j1 kj1 a0 (wrap64 ((a0.size : Int) / 8)) t104 ((wrap64 ((a0.size : Int) / 8)) != (wrap64 ((wrap64 (t104 + 5)) + (wrap64 (5 * t107))))))) else (spec_GetImage.j1 kj1 a0 (wrap64 ((a0.size : Int) / 8)) t104 true))))) = some (r1, r2, r3, r4, r5) := H
        have A9 := Aside0.mk A90
        clear A90
        have HC10 := Aside0.mk H
        clear H
        go_upto_region 5 with (first | ((with_reducible refine gate_callee (f := 57) rfl ?_); refine goesL_ (some 22) rfl rfl Try.func57 (by kernel_rfl) rfl #[.string a0, .int .i64 0] rfl (by (try simp only [List.map_toArray, List.map_cons, List.map_nil]); first | done | rfl | (simp only [List.length_drop, List.length_take]; rfl)) ?_; (with_reducible refine (spec_l14Get.calls kj1 a0 0 t104 _ A9.out).mono ?_); rintro e w' ⟨rfl, ⟨nd, rfl⟩⟩; refine ⟨_, rfl, ?_⟩))
        (try simp only [Act.put, List.setIfInBounds_toArray, List.set_cons_zero, List.set_cons_succ])
        go_cut [48] (fun v48 wc => ∃ (kq : Nat) (x48_9 : Bool), v48 = .bool x48_9 ∧ Aside0 (spec_GetImage.j1 kq a0 (wrap64 ((a0.size : Int) / 8)) t104 x48_9 = some (r1, r2, r3, r4, r5)) ∧ Aside0 (kq ≤ kj1) ∧ Aside0 (wc.heap[gb101]? = some (.cells #[(.slice none 0 0), .int .i64 0, .int .i64 0, (.slice none 0 0)] 33 (0, 0))) ∧ Aside0 (Below w.heap.size w wc))
        case first =>
          have H := HC10.out
          clear HC10
          by_cases c11 : (wrap64 ((a0.size : Int) / 8)) < (wrap64 (t104 + 10))
          · rw [if_pos c11] at H
            have c11b0 : decide ((wrap64 ((a0.size : Int) / 8)) < (wrap64 (t104 + 10))) = true := decide_eq_true c11
            clear c11
            (first | rw [c11b0] | (simp only [i64_w, i32_w]; rw [c11b0]) | skip)
            have H' := Aside0.mk H
            clear H
            go_wp2
            go_meet
            case rel => exact ⟨_, (true), (by first | rfl | (simp; done) | (simp [*]; done)), H', ⟨by have := HJ1.out; first | omega | exact Nat.le_refl _⟩, ⟨by (with_reducible repeat (first | refine blk_drewN ?_ _ | refine blk_drew ?_ | refine blk_alloc ?_ _)); exact BK101.out⟩, ⟨by repeat (first | (with_reducible first | exact HB.out | apply below_alloc | apply pw_below_drewN | apply below_drew1 | refine below_set ?_ GE101.out) | exact HB.out)⟩⟩
          · rw [if_neg c11] at H
            have c11b0 : decide ((wrap64 ((a0.size : Int) / 8)) < (wrap64 (t104 + 10))) = false := decide_eq_false c11
            clear c11
            (first | rw [c11b0] | (simp only [i64_w, i32_w]; rw [c11b0]) | skip)
            replace H := Option.bind_eq_some_iff.mp H
            obtain ⟨t105, A120, H⟩ := H
            replace H : ((spec_l01In.f t105 1 6000).bind fun t106 => (if t106 = true then ((spec_l14Get.f kj1 a0 (wrap64 ((wrap64 (8 * t104)) + 24))).bind fun t107 => (spec_GetImage.j1 kj1 a0 (wrap64 ((a0.size : Int) / 8)) t104 ((wrap64 ((a0.size : Int) / 8)) != (wrap64 ((wrap64 (t104 + 5)) + (wrap64 (5 * t107))))))) else (spec_GetImage.j1 kj1 a0 (wrap64 ((a0.size : Int) / 8)) t104 true))) = some (r1, r2, r3, r4, r5) := H
            have A12 := Aside0.mk A120
            clear A120
            replace H := Option.bind_eq_some_iff.mp H
            obtain ⟨t106, A130, H⟩ := H
            replace H : (if t106 = true then ((spec_l14Get.f kj1 a0 (wrap64 ((wrap64 (8 * t104)) + 24))).bind fun t107 => (spec_GetImage.j1 kj1 a0 (wrap64 ((a0.size : Int) / 8)) t104 ((wrap64 ((a0.size : Int) / 8)) != (wrap64 ((wrap64 (t104 + 5)) + (wrap64 (5 * t107))))))) else (spec_GetImage.j1 kj1 a0 (wrap64 ((a0.size : Int) / 8)) t104 true)) = some (r1, r2, r3, r4, r5) := H
            have A13 := Aside0.mk A130
            clear A130
            by_cases c14 : t106 = true
            · subst c14
              have H1 : ((spec_l14Get.f kj1 a0 (wrap64 ((wrap64 (8 * t104)) + 24))).bind fun t107 => (spec_GetImage.j1 kj1 a0 (wrap64 ((a0.size : Int) / 8)) t104 ((wrap64 ((a0.size : Int) / 8)) != (wrap64 ((wrap64 (t104 + 5)) + (wrap64 (5 * t107))))))) = some (r1, r2, r3, r4, r5) := by rw [if_pos rfl] at H; exact H
              clear H
              have H := H1
              clear H1
              replace H := Option.bind_eq_some_iff.mp H
              obtain ⟨t107, A150, H⟩ := H
              replace H : (spec_GetImage.j1 kj1 a0 (wrap64 ((a0.size : Int) / 8)) t104 ((wrap64 ((a0.size : Int) / 8)) != (wrap64 ((wrap64 (t104 + 5)) + (wrap64 (5 * t107)))))) = some (r1, r2, r3, r4, r5) := H
              have A15 := Aside0.mk A150
              clear A150
              obtain rfl : t107 = t105 := Option.some.inj (A15.out.symm.trans A12.out)
              have H' := Aside0.mk H
              clear H
              go_wp2_with (first | (go_at_call 57; (with_reducible refine (spec_l14Get.calls kj1 a0 (wrap64 ((wrap64 (8 * t104)) + 24)) t107 _ A12.out).mono ?_); rintro e w' ⟨rfl, ⟨nd, rfl⟩⟩) | (go_at_call 50; (with_reducible refine (spec_l01In.calls t107 1 6000 true _ A13.out).mono ?_); rintro e w' ⟨rfl, ⟨nd, rfl⟩⟩) | (go_at_call 57; (with_reducible refine (spec_l14Get.calls kj1 a0 (wrap64 ((wrap64 (8 * t104)) + 24)) t107 _ A15.out).mono ?_); rintro e w' ⟨rfl, ⟨nd, rfl⟩⟩))
              go_meet
              case rel => exact ⟨_, (((wrap64 ((a0.size : Int) / 8)) != (wrap64 ((wrap64 (t104 + 5)) + (wrap64 (5 * t107)))))), (by first | rfl | (simp; done) | (simp [*]; done)), H', ⟨by have := HJ1.out; first | omega | exact Nat.le_refl _⟩, ⟨by (with_reducible repeat (first | refine blk_drewN ?_ _ | refine blk_drew ?_ | refine blk_alloc ?_ _)); exact BK101.out⟩, ⟨by repeat (first | (with_reducible first | exact HB.out | apply below_alloc | apply pw_below_drewN | apply below_drew1 | refine below_set ?_ GE101.out) | exact HB.out)⟩⟩
            · replace c14 := Bool.eq_false_iff.mpr c14
              subst c14
              have H1 : (spec_GetImage.j1 kj1 a0 (wrap64 ((a0.size : Int) / 8)) t104 true) = some (r1, r2, r3, r4, r5) := by rw [if_neg (show ¬ (false = true) by decide)] at H; exact H
              clear H
              have H := H1
              clear H1
              have H' := Aside0.mk H
              clear H
              go_wp2_with (first | (go_at_call 57; (with_reducible refine (spec_l14Get.calls kj1 a0 (wrap64 ((wrap64 (8 * t104)) + 24)) t105 _ A12.out).mono ?_); rintro e w' ⟨rfl, ⟨nd, rfl⟩⟩) | (go_at_call 50; (with_reducible refine (spec_l01In.calls t105 1 6000 false _ A13.out).mono ?_); rintro e w' ⟨rfl, ⟨nd, rfl⟩⟩))
              go_meet
              case rel => exact ⟨_, (true), (by first | rfl | (simp; done) | (simp [*]; done)), H', ⟨by have := HJ1.out; first | omega | exact Nat.le_refl _⟩, ⟨by (with_reducible repeat (first | refine blk_drewN ?_ _ | refine blk_drew ?_ | refine blk_alloc ?_ _)); exact BK101.out⟩, ⟨by repeat (first | (with_reducible first | exact HB.out | apply below_alloc | apply pw_below_drewN | apply below_drew1 | refine below_set ?_ GE101.out) | exact HB.out)⟩⟩
        case rest =>
          clear HC10
          try clear c1
          try clear p2
          try clear c3
          try clear c4
          try clear c4b0
          try clear c5
          try clear p6
          try clear c7
          try clear c11
          try clear c11b0
          try clear c14
          try clear hcz8_0
          try clear hcz8_1
          try clear hcz8_2
          try clear hcz8_3
          try clear hfz8_0
          try clear hfz8_1
          try clear hfz8_2
          try clear hfz8_3
          try clear p2
          try clear p6
          obtain ⟨kq, x48_9, rfl, HA, HJ9, BK101, HB⟩ := hcut
          cases kq with
          | zero => exact absurd HA.out (by simp [spec_GetImage.j1])
          | succ kj9 =>
            have H := HA.out
            clear HA
            simp only [spec_GetImage.j1] at H
            by_cases c16 : x48_9 = true
            · subst c16
              have H1 : (some (([] : List Int), 0, 0, ([] : List (S59)), false)) = some (r1, r2, r3, r4, r5) := by rw [if_pos rfl] at H; exact H
              clear H
              have H := H1
              clear H1
              simp only [Option.some.injEq, Prod.mk.injEq] at H
              obtain ⟨rfl, rfl, rfl, rfl, rfl⟩ := H
              have hcz17_0 : wc.cell? ⟨gb101, 0, none⟩ = some (.slice none 0 0) := (blk_cell BK101.out 0).trans rfl
              have hcz17_1 : wc.cell? ⟨gb101, 1, none⟩ = some (.int .i64 0) := (blk_cell BK101.out 1).trans rfl
              have hcz17_2 : wc.cell? ⟨gb101, 2, none⟩ = some (.int .i64 0) := (blk_cell BK101.out 2).trans rfl
              have hcz17_3 : wc.cell? ⟨gb101, 3, none⟩ = some (.slice none 0 0) := (blk_cell BK101.out 3).trans rfl
              have hfz17_0 := blk_frozen BK101.out 0
              have hfz17_1 := blk_frozen BK101.out 1
              have hfz17_2 := blk_frozen BK101.out 2
              have hfz17_3 := blk_frozen BK101.out 3
              go_wp2
              refine bodyPost_ret (results_ct rfl _ _ gb101 33 #[.slice none 0 0, .int .i64 0, .int .i64 0, .slice none 0 0] (0, 0) _ rfl (by (with_reducible repeat (first | refine blk_drewN ?_ _ | refine blk_drew ?_ | refine blk_alloc ?_ _)); refine blk_put (cs := #[.slice none 0 0, .int .i64 0, .int .i64 0, .slice none 0 0]) ?_ 3 _ rfl; (with_reducible repeat (first | refine blk_drewN ?_ _ | refine blk_drew ?_ | refine blk_alloc ?_ _)); refine blk_put (cs := #[.slice none 0 0, .int .i64 0, .int .i64 0, .slice none 0 0]) ?_ 2 _ rfl; (with_reducible repeat (first | refine blk_drewN ?_ _ | refine blk_drew ?_ | refine blk_alloc ?_ _)); refine blk_put (cs := #[.slice none 0 0, .int .i64 0, .int .i64 0, .slice none 0 0]) ?_ 1 _ rfl; (with_reducible repeat (first | refine blk_drewN ?_ _ | refine blk_drew ?_ | refine blk_alloc ?_ _)); refine blk_put (cs := #[.slice none 0 0, .int .i64 0, .int .i64 0, .slice none 0 0]) ?_ 0 _ rfl; (with_reducible repeat (first | refine blk_drewN ?_ _ | refine blk_drew ?_ | refine blk_alloc ?_ _)); exact BK101.out) Try.underlying33 rfl (by kernel_rfl)) rfl ?_
              exact ⟨_, _, by first | rfl | (simp [errW_none, errW_some] <;> rfl) | (simp [*, errW_none, errW_some] <;> rfl), by first | exact Kd.R_nil _ _ _ _ _ | exact Kd.N_nil _ _ _ _ _ | exact Kd.V_nil _ _ _ _ _ | exact Kd.Q_nil _ _ _ _ _ | exact Kd.S_nil _ _ _ _ _, by first | exact Kd.R_nil _ _ _ _ _ | exact Kd.N_nil _ _ _ _ _ | exact Kd.V_nil _ _ _ _ _ | exact Kd.Q_nil _ _ _ _ _ | exact Kd.S_nil _ _ _ _ _, by repeat (first | (with_reducible first | exact HB.out | apply below_alloc | apply pw_below_drewN | apply below_drew1 | refine below_set ?_ GE101.out) | exact HB.out)⟩
            · replace c16 := Bool.eq_false_iff.mpr c16
              subst c16
              have H1 : ((spec_l14Get.f kj9 a0 (wrap64 ((wrap64 (8 * t104)) + 8))).bind fun t108 => ((spec_l14Get.f kj9 a0 (wrap64 ((wrap64 (8 * t104)) + 16))).bind fun t109 => (spec_GetImage.l0 kj9 a0 (wrap64 ((a0.size : Int) / 8)) t104 1 ([] : List Int) t108 t109))) = some (r1, r2, r3, r4, r5) := by rw [if_neg (show ¬ (false = true) by decide)] at H; exact H
              clear H
              have H := H1
              clear H1
              replace H := Option.bind_eq_some_iff.mp H
              obtain ⟨t108, A180, H⟩ := H
              replace H : ((spec_l14Get.f kj9 a0 (wrap64 ((wrap64 (8 * t104)) + 16))).bind fun t109 => (spec_GetImage.l0 kj9 a0 (wrap64 ((a0.size : Int) / 8)) t104 1 ([] : List Int) t108 t109)) = some (r1, r2, r3, r4, r5) := H
              have A18 := Aside0.mk A180
              clear A180
              replace H := Option.bind_eq_some_iff.mp H
              obtain ⟨t109, A190, H⟩ := H
              replace H : (spec_GetImage.l0 kj9 a0 (wrap64 ((a0.size : Int) / 8)) t104 1 ([] : List Int) t108 t109) = some (r1, r2, r3, r4, r5) := H
              have A19 := Aside0.mk A190
              clear A190
              have H' := Aside0.mk H
              clear H
              go_wp2_with (first | ((with_reducible refine gate_callee (f := 57) rfl ?_); refine goesL_ (some 54) rfl rfl Try.func57 (by kernel_rfl) rfl #[.string a0, .int .i64 (wrap64 ((wrap64 (8 * t104)) + 8))] rfl (by (try simp only [List.map_toArray, List.map_cons, List.map_nil]); first | done | rfl | (simp only [List.length_drop, List.length_take]; rfl)) ?_; (with_reducible refine (spec_l14Get.calls kj9 a0 (wrap64 ((wrap64 (8 * t104)) + 8)) t108 _ A18.out).mono ?_); rintro e w' ⟨rfl, ⟨nd, rfl⟩⟩; refine ⟨_, rfl, ?_⟩; (try (rw [drewN_self wc]; generalize hq_ : World.drewN wc _ = wc; have n0_ : Aside0 (wc.heap[gb101]? = some (.cells #[.slice none 0 0, .int .i64 0, .int .i64 0, .slice none 0 0] 33 (0, 0))) := ⟨by rw [← hq_]; exact (by (with_reducible repeat (first | refine blk_drewN ?_ _ | refine blk_drew ?_ | refine blk_alloc ?_ _)); exact BK101.out)⟩; have n1_ : Aside0 (Below w.heap.size w wc) := ⟨by rw [← hq_]; exact (by repeat (first | (with_reducible first | exact HB.out | apply below_alloc | apply pw_below_drewN | apply below_drew1 | refine below_set ?_ GE101.out) | exact HB.out))⟩; clear BK101 HB hq_; have BK101 := n0_; have HB := n1_; clear n0_ n1_))) | ((with_reducible refine gate_callee (f := 57) rfl ?_); refine goesL_ (some 59) rfl rfl Try.func57 (by kernel_rfl) rfl #[.string a0, .int .i64 (wrap64 ((wrap64 (8 * t104)) + 16))] rfl (by (try simp only [List.map_toArray, List.map_cons, List.map_nil]); first | done | rfl | (simp only [List.length_drop, List.length_take]; rfl)) ?_; (with_reducible refine (spec_l14Get.calls kj9 a0 (wrap64 ((wrap64 (8 * t104)) + 16)) t109 _ A19.out).mono ?_); rintro e w' ⟨rfl, ⟨nd, rfl⟩⟩; refine ⟨_, rfl, ?_⟩; (try (rw [drewN_self wc]; generalize hq_ : World.drewN wc _ = wc; have n0_ : Aside0 (wc.heap[gb101]? = some (.cells #[.slice none 0 0, .int .i64 0, .int .i64 0, .slice none 0 0] 33 (0, 0))) := ⟨by rw [← hq_]; exact (by (with_reducible repeat (first | refine blk_drewN ?_ _ | refine blk_drew ?_ | refine blk_alloc ?_ _)); exact BK101.out)⟩; have n1_ : Aside0 (Below w.heap.size w wc) := ⟨by rw [← hq_]; exact (by repeat (first | (with_reducible first | exact HB.out | apply below_alloc | apply pw_below_drewN | apply below_drew1 | refine below_set ?_ GE101.out) | exact HB.out))⟩; clear BK101 HB hq_; have BK101 := n0_; have HB := n1_; clear n0_ n1_))) | ((with_reducible refine gate_dst (N := 6) rfl ?_); refine box_event ?hg (N := 6) ?hd (cs := #[.slice none 0 0, .int .i64 0, .int .i64 0, .slice none 0 0]) (t := 33) ?hr ?_; (case hd => rfl); (case hg => rfl); (case hr => first | (go_simp; done) | (go_simp; rfl)); intro gb110 hg w20 hbox hb; have n0_ := Aside0.mk (blk_below (g := gb101) (o := .cells #[.slice none 0 0, .int .i64 0, .int .i64 0, .slice none 0 0] 33 (0, 0)) (by (with_reducible repeat (first | refine blk_drewN ?_ _ | refine blk_drew ?_ | refine blk_alloc ?_ _)); exact BK101.out) hb); have n1_ := Aside0.mk (below_step (by repeat (first | (with_reducible first | exact HB.out | apply below_alloc | apply pw_below_drewN | apply below_drew1 | refine below_set ?_ GE101.out) | exact HB.out)) hb); have n2_ := Aside0.mk (hbox); have n3_ := Aside0.mk ((by rw [hg]; exact (below_size (by repeat (first | (with_reducible first | exact HB.out | apply below_alloc | apply pw_below_drewN | apply below_drew1 | refine below_set ?_ GE101.out) | exact HB.out))) : w.heap.size ≤ gb110)); have n4_ := Aside0.mk ((by rw [hg]; exact (below_size (by repeat (first | (with_reducible first | exact HB.out | apply below_alloc | apply pw_below_drewN | apply below_drew1 | refine below_set ?_ GE101.out) | exact HB.out))) : w.heap.size ≤ gb110)); have n5_ := Aside0.mk ((by rw [hg]; exact Nat.ne_of_lt (blk_lt (g := gb101) (o := .cells #[.slice none 0 0, .int .i64 0, .int .i64 0, .slice none 0 0] 33 (0, 0)) (by (with_reducible repeat (first | refine blk_drewN ?_ _ | refine blk_drew ?_ | refine blk_alloc ?_ _)); exact BK101.out)) : gb101 ≠ gb110)); have n6_ := Aside0.mk ((by rw [hg]; exact Nat.ne_of_gt (blk_lt (g := gb101) (o := .cells #[.slice none 0 0, .int .i64 0, .int .i64 0, .slice none 0 0] 33 (0, 0)) (by (with_reducible repeat (first | refine blk_drewN ?_ _ | refine blk_drew ?_ | refine blk_alloc ?_ _)); exact BK101.out)) : gb110 ≠ gb101)); clear BK101; clear HB; have BK101 := n0_; have HB := n1_; have BK110 := n2_; have GW110 := n3_; have GE110 := n4_; have NB101_110 := n5_; have NB110_101 := n6_; clear n0_ n1_ n2_ n3_ n4_ n5_ n6_; clear hb hbox hg; have hnb21 := NB110_101.out; have hnc21 := NB101_110.out; have hcz22_0 : w20.cell? ⟨gb110, 0, none⟩ = some (.slice none 0 0) := (blk_cell BK110.out 0).trans rfl; have hcz22_1 : w20.cell? ⟨gb110, 1, none⟩ = some (.int .i64 0) := (blk_cell BK110.out 1).trans rfl; have hcz22_2 : w20.cell? ⟨gb110, 2, none⟩ = some (.int .i64 0) := (blk_cell BK110.out 2).trans rfl; have hcz22_3 : w20.cell? ⟨gb110, 3, none⟩ = some (.slice none 0 0) := (blk_cell BK110.out 3).trans rfl; have hfz22_0 := blk_frozen BK110.out 0; have hfz22_1 := blk_frozen BK110.out 1; have hfz22_2 := blk_frozen BK110.out 2; have hfz22_3 := blk_frozen BK110.out 3))
              go_loopg [7] kj9 (fun kq v7 w' => ∃ (x7_3 : Int) (x111000_3 : List Int) (u111000 : Value), v7 = .int .i64 x7_3 ∧ Aside0 (spec_GetImage.l0 kq a0 (wrap64 ((a0.size : Int) / 8)) t104 x7_3 x111000_3 t108 t109 = some (r1, r2, r3, r4, r5)) ∧ Aside0 (kq ≤ kj9) ∧ Aside0 (Kd.R (Kd.int .i64) 3 w' w.heap.size (fun _ => True) u111000 x111000_3) ∧ Aside0 (w'.heap[gb101]? = some (.cells #[(.slice none 0 0), .int .i64 0, .int .i64 0, (.slice none 0 0)] 33 (0, 0))) ∧ Aside0 (w'.heap[gb110]? = some (.cells #[u111000, .int .i64 t108, .int .i64 t109, (.slice none 0 0)] 33 (0, 0))) ∧ Aside0 (Below w.heap.size w w'))
              case atStart => exact ⟨(1), (([] : List Int)), (.slice none 0 0), (by first | rfl | (simp; done) | (simp [*]; done)), H', ⟨Nat.le_refl _⟩, ⟨by first | exact Kd.R_nil _ _ _ _ _ | exact Kd.N_nil _ _ _ _ _ | exact Kd.V_nil _ _ _ _ _ | exact Kd.Q_nil _ _ _ _ _ | exact Kd.S_nil _ _ _ _ _⟩, ⟨by (with_reducible repeat (first | refine blk_drewN ?_ _ | refine blk_drew ?_ | refine blk_alloc ?_ _)); refine blk_far ?_ NB101_110.out _; (with_reducible repeat (first | refine blk_drewN ?_ _ | refine blk_drew ?_ | refine blk_alloc ?_ _)); refine blk_far ?_ NB101_110.out _; (with_reducible repeat (first | refine blk_drewN ?_ _ | refine blk_drew ?_ | refine blk_alloc ?_ _)); refine blk_far ?_ NB101_110.out _; (with_reducible repeat (first | refine blk_drewN ?_ _ | refine blk_drew ?_ | refine blk_alloc ?_ _)); refine blk_far ?_ NB101_110.out _; (with_reducible repeat (first | refine blk_drewN ?_ _ | refine blk_drew ?_ | refine blk_alloc ?_ _)); exact BK101.out⟩, ⟨by (with_reducible repeat (first | refine blk_drewN ?_ _ | refine blk_drew ?_ | refine blk_alloc ?_ _)); refine blk_put (cs := #[.slice none 0 0, .int .i64 t108, .int .i64 t109, .slice none 0 0]) ?_ 3 _ rfl; (with_reducible repeat (first | refine blk_drewN ?_ _ | refine blk_drew ?_ | refine blk_alloc ?_ _)); refine blk_put (cs := #[.slice none 0 0, .int .i64 t108, .int .i64 0, .slice none 0 0]) ?_ 2 _ rfl; (with_reducible repeat (first | refine blk_drewN ?_ _ | refine blk_drew ?_ | refine blk_alloc ?_ _)); refine blk_put (cs := #[.slice none 0 0, .int .i64 0, .int .i64 0, .slice none 0 0]) ?_ 1 _ rfl; (with_reducible repeat (first | refine blk_drewN ?_ _ | refine blk_drew ?_ | refine blk_alloc ?_ _)); refine blk_put (cs := #[.slice none 0 0, .int .i64 0, .int .i64 0, .slice none 0 0]) ?_ 0 _ rfl; (with_reducible repeat (first | refine blk_drewN ?_ _ | refine blk_drew ?_ | refine blk_alloc ?_ _)); exact BK110.out⟩, ⟨by repeat (first | (with_reducible first | exact HB.out | apply below_alloc | apply pw_below_drewN | apply below_drew1 | refine below_set ?_ GE101.out | refine below_set ?_ GE110.out) | exact HB.out)⟩⟩
              case round =>
                clear H'
                try clear c1
                try clear c2
                try clear p2
                try clear c3
                try clear c4
                try clear c4b0
                try clear c5
                try clear p6
                try clear c7
                try clear c11
                try clear c11b0
                try clear c14
                try clear c16
                try clear c21
                try clear hcz17_0
                try clear hcz17_1
                try clear hcz17_2
                try clear hcz17_3
                try clear hcz22_0
                try clear hcz22_1
                try clear hcz22_2
                try clear hcz22_3
                try clear hcz8_0
                try clear hcz8_1
                try clear hcz8_2
                try clear hcz8_3
                try clear hfz17_0
                try clear hfz17_1
                try clear hfz17_2
                try clear hfz17_3
                try clear hfz22_0
                try clear hfz22_1
                try clear hfz22_2
                try clear hfz22_3
                try clear hfz8_0
                try clear hfz8_1
                try clear hfz8_2
                try clear hfz8_3
                try clear p2
                try clear p6
                (try clear HA)
                (try clear HK3)
                (try clear HO_111000)
                (try clear BK101)
                (try clear BK110)
                (try clear HB)
                obtain ⟨x7_3, x111000_3, u111000, rfl, HA, HK3, HO_111000, BK101, BK110, HB⟩ := hrel
                cases gk with
                | zero => exact absurd HA.out (by simp [spec_GetImage.l0])
                | succ k3 =>
                  have H := HA.out
                  clear HA
                  simp only [spec_GetImage.l0] at H
                  by_cases c23 : x7_3 ≤ t104
                  · rw [if_pos c23] at H
                    have c23b0 : decide (x7_3 ≤ t104) = true := decide_eq_true c23
                    clear c23
                    replace H := Option.bind_eq_some_iff.mp H
                    obtain ⟨t111, A240, H⟩ := H
                    replace H : (if x111000_3.length < 17592186044416 then (spec_GetImage.l0 k3 a0 (wrap64 ((a0.size : Int) / 8)) t104 (wrap64 (x7_3 + 1)) (x111000_3 ++ [t111]) t108 t109) else (none)) = some (r1, r2, r3, r4, r5) := H
                    have A24 := Aside0.mk A240
                    clear A240
                    by_cases c25 : x111000_3.length < 17592186044416
                    · rw [if_pos c25] at H
                      have LMc25 := Aside0.mk c25
                      clear c25
                      obtain ⟨y112, hy112⟩ : ∃ y_ : List Int, y_ = (x111000_3 ++ [t111]) := ⟨_, rfl⟩
                      replace H : (spec_GetImage.l0 k3 a0 (wrap64 ((a0.size : Int) / 8)) t104 (wrap64 (x7_3 + 1)) y112 t108 t109) = some (r1, r2, r3, r4, r5) := by first | (rw [hy112]; with_reducible exact H) | (have H2_ := (Option.bind_some _ _).symm.trans H; rw [hy112]; with_reducible exact H2_) | (have H2_ := (Option.bind_some _ _).symm.trans H; with_reducible exact H2_) | with_reducible exact H | (rw [hy112]; exact H) | exact H
                      have Ny112 := Aside0.mk hy112
                      clear hy112
                      have H' := Aside0.mk H
                      clear H
                      try go_wp2
                      have n0_ := Aside0.mk (Kd.R_drew HO_111000.out)
                      have n1_ := Aside0.mk (blk_drew BK101.out)
                      have n2_ := Aside0.mk (blk_drew BK110.out)
                      have n3_ := Aside0.mk (below_drew1 HB.out)
                      clear HO_111000
                      clear BK101
                      clear BK110
                      clear HB
                      have HO_111000 := n0_
                      have BK101 := n1_
                      have BK110 := n2_
                      have HB := n3_
                      clear n0_ n1_ n2_ n3_
                      refine start_ (n := 10) (S := fun w' => w'.cell? ⟨gb110, 0, none⟩ = some (u111000) ∧ w'.cell? ⟨gb110, 1, none⟩ = some (.int .i64 t108) ∧ w'.cell? ⟨gb110, 2, none⟩ = some (.int .i64 t109) ∧ w'.cell? ⟨gb110, 3, none⟩ = some (.slice none 0 0)) (ds := [9]) #[false, false, false, false, false, false, false, false, false, false] (by kernel_rfl) rfl rfl ⟨(blk_cell BK110.out 0).trans rfl, (blk_cell BK110.out 1).trans rfl, (blk_cell BK110.out 2).trans rfl, (blk_cell BK110.out 3).trans rfl⟩ (fun hHeld => ?_); refine with_tabW spec_GetImage.tab11 spec_GetImage.bits11 (fun HT_ HW_ => ?_)
                      generalize wr.drew = w26 at HO_111000 BK101 BK110 HB hHeld ⊢
                      refine pure_ (i := 0) (N := some 66) (v := ?_) (a' := ?_) #[true, false, false, false, false, false, false, false, false, false] rfl rfl (any_of HT_.out (by kernel_rfl)) (fun _ _ _ h => h) (Or.inl ⟨by rfl, ?_⟩) ?_ ?_
                      rotate_left
                      · intro w'
                        go_simp
                        with_reducible rfl
                      rotate_left
                      · simp only [Act.put, List.setIfInBounds_toArray, List.set_cons_zero, List.set_cons_succ, i64_w, i32_w]
                        rfl
                      refine pure_ (i := 2) (N := some 68) (v := ?_) (a' := ?_) #[true, false, true, false, false, false, false, false, false, false] rfl rfl (any_of HT_.out (by kernel_rfl)) (fun _ _ _ h => h) (Or.inl ⟨by rfl, ?_⟩) ?_ ?_
                      rotate_left
                      · intro w'
                        go_simp
                        with_reducible rfl
                      rotate_left
                      · simp only [Act.put, List.setIfInBounds_toArray, List.set_cons_zero, List.set_cons_succ, i64_w, i32_w]
                        rfl
                      refine pure_ (i := 3) (N := some 69) (v := ?_) (a' := ?_) #[true, false, true, true, false, false, false, false, false, false] rfl rfl (any_of HT_.out (by kernel_rfl)) (fun _ _ _ h => h) (Or.inl ⟨by rfl, ?_⟩) ?_ ?_
                      rotate_left
                      · intro w'
                        go_simp
                        with_reducible rfl
                      rotate_left
                      · simp only [Act.put, List.setIfInBounds_toArray, List.set_cons_zero, List.set_cons_succ, i64_w, i32_w]
                        rfl
                      refine pure_ (i := 4) (N := some 70) (v := ?_) (a' := ?_) #[true, false, true, true, true, false, false, false, false, false] rfl rfl (any_of HT_.out (by kernel_rfl)) (fun _ _ _ h => h) (Or.inl ⟨by rfl, ?_⟩) ?_ ?_
                      rotate_left
                      · intro w'
                        go_simp
                        with_reducible rfl
                      rotate_left
                      · simp only [Act.put, List.setIfInBounds_toArray, List.set_cons_zero, List.set_cons_succ, i64_w, i32_w]
                        rfl
                      refine take_ (i := 1) (N := some 67) (v := ?_) (a' := ?_) #[true, true, true, true, true, false, false, false, false, false] rfl rfl (take_ofW HT_.out HW_.out (by kernel_rfl)) (fun _ _ _ h => h) (Or.inl ⟨by rfl, ?_⟩) hHeld ?_ ?_
                      rotate_left
                      · rintro w' ⟨s0, s1, s2, s3⟩
                        go_simp
                        with_reducible rfl
                      rotate_left
                      · simp only [Act.put, List.setIfInBounds_toArray, List.set_cons_zero, List.set_cons_succ, i64_w, i32_w]
                        rfl
                      refine one_ (i := 5) (N := some 71) #[true, true, true, true, true, true, false, false, false, false] rfl rfl (one_of HT_.out (by kernel_rfl)) (by decide) (fun K hK => ?_)
                      refine goes_ Try.func57 (by kernel_rfl) rfl #[.string a0, .int .i64 (wrap64 (8 * x7_3))] (by rfl) rfl rfl (by (try simp only [List.map_toArray, List.map_cons, List.map_nil]); first | done | rfl | (simp only [List.length_drop, List.length_take]; rfl)) ?_
                      with_reducible refine (spec_l14Get.calls k3 a0 (wrap64 (8 * x7_3)) t111 _ A24.out).mono ?_
                      rintro e w' ⟨rfl, ⟨nd, rfl⟩⟩
                      refine ⟨_, rfl, ?_⟩
                      refine hK.out _ _ ⟨(blk_cell BK110.out 0).trans rfl, (blk_cell BK110.out 1).trans rfl, (blk_cell BK110.out 2).trans rfl, (blk_cell BK110.out 3).trans rfl⟩ (fun hHeld => ?_)
                      clear hK K
                      refine norm_ (a' := ?_) ?_ ?_
                      rotate_left
                      · show Act.put _ (some 71) _ = _
                        simp only [Act.put, List.setIfInBounds_toArray, List.set_cons_zero, List.set_cons_succ, i64_w, i32_w]
                        rfl
                      refine one_ (i := 6) (N := some 72) #[true, true, true, true, true, true, true, false, false, false] rfl rfl (one_of HT_.out (by kernel_rfl)) (by decide) (fun K hK => ?_)
                      refine value_ (w1 := ?_) (v := ?_) (by rfl) rfl ?_ ?_
                      rotate_left 2
                      · go_simp
                        constructor
                        · rfl
                        · rfl
                      refine hK.out _ _ ⟨(blk_cell (blk_alloc BK110.out _) 0).trans rfl, (blk_cell (blk_alloc BK110.out _) 1).trans rfl, (blk_cell (blk_alloc BK110.out _) 2).trans rfl, (blk_cell (blk_alloc BK110.out _) 3).trans rfl⟩ (fun hHeld => ?_)
                      clear hK K
                      refine norm_ (a' := ?_) ?_ ?_
                      rotate_left
                      · show Act.put _ (some 72) _ = _
                        simp only [Act.put, List.setIfInBounds_toArray, List.set_cons_zero, List.set_cons_succ, i64_w, i32_w]
                        rfl
                      refine one_ (i := 7) (N := some 73) #[true, true, true, true, true, true, true, true, false, false] rfl rfl (one_of HT_.out (by kernel_rfl)) (by decide) (fun K hK => ?_)
                      refine Kd.R_append_step (Kd.int .i64) (w0 := w) w.heap.size (by rfl) (.tmp 67) (.tmp 72) 25 3 (.int .i64 0) 8 rfl Try.underlying25 info3 rfl (by decide) (by omega) u111000 x111000_3 t111 [.int .i64 t111] (fun _ => True) (fun _ => False) rfl rfl ?aP (fun _ hk => hk.elim) ?aF ?aO ?aB ?aS ?aL ?_
                      (case aP => exact rfl)
                      (case aB => exact (by repeat (first | (with_reducible first | exact HB.out | apply below_alloc | apply pw_below_drewN | apply below_drew1 | refine below_set ?_ GE101.out | refine below_set ?_ GE110.out) | exact HB.out)))
                      (case aF => exact (fun _ _ => trivial))
                      (case aO => exact (by (with_reducible repeat (first | apply Kd.R_alloc | apply Kd.R_drewN | apply Kd.R_drew)); exact HO_111000.out))
                      (case aS => exact (below_size (by repeat (first | (with_reducible first | exact HB.out | apply below_alloc | apply pw_below_drewN | apply below_drew1 | refine below_set ?_ GE101.out | refine below_set ?_ GE110.out) | exact HB.out))))
                      (case aL => have := LMc25.out; omega)
                      intro v113 w27 ho hb hg hat
                      rw [← Ny112.out] at ho
                      have n0_ := Aside0.mk (blk_grown (g := gb101) (o := .cells #[.slice none 0 0, .int .i64 0, .int .i64 0, .slice none 0 0] 33 (0, 0)) (by (with_reducible repeat (first | refine blk_drewN ?_ _ | refine blk_drew ?_ | refine blk_alloc ?_ _)); exact BK101.out) hg (Kd.R_ne HO_111000.out BK101.out (by decide)))
                      have n1_ := Aside0.mk (blk_grown (g := gb110) (o := .cells #[u111000, .int .i64 t108, .int .i64 t109, .slice none 0 0] 33 (0, 0)) (by (with_reducible repeat (first | refine blk_drewN ?_ _ | refine blk_drew ?_ | refine blk_alloc ?_ _)); exact BK110.out) hg (Kd.R_ne HO_111000.out BK110.out (by decide)))
                      have n2_ := Aside0.mk (hb)
                      have n3_ := Aside0.mk (ho)
                      clear BK101
                      clear BK110
                      clear HB
                      clear HO_111000
                      have BK101 := n0_
                      have BK110 := n1_
                      have HB := n2_
                      have HO114 := n3_
                      clear n0_ n1_ n2_ n3_
                      clear ho hb hg hat
                      obtain ⟨Ao28, co28, eo28⟩ := Kd.R_slice HO114.out
                      (first | subst eo28 | (injection eo28 with f1_ f2_ f3_; have f4_ := f1_.symm; have f5_ := f3_.symm; clear f1_ f2_ f3_; subst f4_; subst f5_))
                      refine hK.out _ _ ⟨(blk_cell BK110.out 0).trans rfl, (blk_cell BK110.out 1).trans rfl, (blk_cell BK110.out 2).trans rfl, (blk_cell BK110.out 3).trans rfl⟩ (fun hHeld => ?_)
                      clear hK K
                      refine norm_ (a' := ?_) ?_ ?_
                      rotate_left
                      · show Act.put _ (some 73) _ = _
                        simp only [Act.put, List.setIfInBounds_toArray, List.set_cons_zero, List.set_cons_succ, i64_w, i32_w]
                        rfl
                      refine pure_ (i := 8) (N := some 74) (v := ?_) (a' := ?_) #[true, true, true, true, true, true, true, true, true, false] rfl rfl (any_of HT_.out (by kernel_rfl)) (fun _ _ _ h => h) (Or.inl ⟨by rfl, ?_⟩) ?_ ?_
                      rotate_left
                      · intro w'
                        go_simp
                        with_reducible rfl
                      rotate_left
                      · simp only [Act.put, List.setIfInBounds_toArray, List.set_cons_zero, List.set_cons_succ, i64_w, i32_w]
                        rfl
                      refine last_ (i := 9) (N := none) #[true, true, true, true, true, true, true, true, true, true] rfl rfl (one_of HT_.out (by kernel_rfl)) (by decide) (fun K hK => ?_)
                      have hs29 : w27.cell? ⟨gb110, 0, none⟩ = some (u111000) := (blk_cell BK110.out 0).trans rfl
                      have hfs29 := blk_frozen BK110.out 0
                      have hns29_0 := NB101_110.out
                      have hms29_0 := NB110_101.out
                      refine skip_ (w1 := ?_) (by rfl) rfl ?_ ?_
                      rotate_left
                      · go_simp
                        rfl
                      refine hK.out _ _ ?_
                      clear hK K
                      refine done_ (done_of HT_.out (by kernel_rfl)) ?_
                      try go_wp2
                      go_roundg k3
                      case measure => have := HJ1.out; have := HJ9.out; have := HK3.out; omega
                      case rel => exact ⟨(wrap64 (x7_3 + 1)), (y112), (.slice Ao28 y112.length co28), (by first | rfl | (simp; done) | (simp [*]; done)), H', ⟨by have := HJ1.out; have := HJ9.out; have := HK3.out; omega⟩, ⟨by (with_reducible repeat (first | apply Kd.R_alloc | apply Kd.R_drewN | apply Kd.R_drew)); exact Kd.R_mono (Kd.R_far (p := ⟨gb110, 0, none⟩) (Kd.R_types HO114.out BK110.out (by decide)) (fun _ hk => hk.2) (.slice Ao28 y112.length co28)) (fun _ hk => trivial)⟩, ⟨by (with_reducible repeat (first | refine blk_drewN ?_ _ | refine blk_drew ?_ | refine blk_alloc ?_ _)); refine blk_far ?_ NB101_110.out _; (with_reducible repeat (first | refine blk_drewN ?_ _ | refine blk_drew ?_ | refine blk_alloc ?_ _)); exact BK101.out⟩, ⟨by (with_reducible repeat (first | refine blk_drewN ?_ _ | refine blk_drew ?_ | refine blk_alloc ?_ _)); refine blk_put (cs := #[u111000, .int .i64 t108, .int .i64 t109, .slice none 0 0]) ?_ 0 _ rfl; (with_reducible repeat (first | refine blk_drewN ?_ _ | refine blk_drew ?_ | refine blk_alloc ?_ _)); exact BK110.out⟩, ⟨by repeat (first | (with_reducible first | exact HB.out | apply below_alloc | apply pw_below_drewN | apply below_drew1 | refine below_set ?_ GE101.out | refine below_set ?_ GE110.out) | exact HB.out)⟩⟩
                    · rw [if_neg c25] at H
                      exact absurd H (by simp)
                  · rw [if_neg c23] at H
                    have c23b0 : decide (x7_3 ≤ t104) = false := decide_eq_false c23
                    clear c23
                    have H' := Aside0.mk H
                    clear H
                    go_wp2
                    go_loopg [8] k3 (fun kq v8 w' => ∃ (x8_4 : Int) (x111003_4 : List (S59)) (u111003 : Value), v8 = .int .i64 x8_4 ∧ Aside0 (spec_GetImage.l1 kq a0 (wrap64 ((a0.size : Int) / 8)) x8_4 x111000_3 t108 t109 x111003_4 = some (r1, r2, r3, r4, r5)) ∧ Aside0 (kq ≤ k3) ∧ Aside0 (Kd.R (Kd.int .i64) 3 w' w.heap.size (fun _ => True) u111000 x111000_3) ∧ Aside0 (Kd.R k59 59 w' w.heap.size (fun _ => True) u111003 x111003_4) ∧ Aside0 (w'.heap[gb101]? = some (.cells #[(.slice none 0 0), .int .i64 0, .int .i64 0, (.slice none 0 0)] 33 (0, 0))) ∧ Aside0 (w'.heap[gb110]? = some (.cells #[u111000, .int .i64 t108, .int .i64 t109, u111003] 33 (0, 0))) ∧ Aside0 (Below w.heap.size w w'))
                    case atStart => exact ⟨(wrap64 (t104 + 4)), (([] : List (S59))), (.slice none 0 0), (by first | rfl | (simp; done) | (simp [*]; done)), H', ⟨Nat.le_refl _⟩, ⟨by (with_reducible repeat (first | apply Kd.R_alloc | apply Kd.R_drewN | apply Kd.R_drew)); exact HO_111000.out⟩, ⟨by first | exact Kd.R_nil _ _ _ _ _ | exact Kd.N_nil _ _ _ _ _ | exact Kd.V_nil _ _ _ _ _ | exact Kd.Q_nil _ _ _ _ _ | exact Kd.S_nil _ _ _ _ _⟩, ⟨by (with_reducible repeat (first | refine blk_drewN ?_ _ | refine blk_drew ?_ | refine blk_alloc ?_ _)); exact BK101.out⟩, ⟨by (with_reducible repeat (first | refine blk_drewN ?_ _ | refine blk_drew ?_ | refine blk_alloc ?_ _)); exact BK110.out⟩, ⟨by repeat (first | (with_reducible first | exact HB.out | apply below_alloc | apply pw_below_drewN | apply below_drew1 | refine below_set ?_ GE101.out | refine below_set ?_ GE110.out) | exact HB.out)⟩⟩
                    case round =>
                      clear H'
                      try clear c1
                      try clear c2
                      try clear p2
                      try clear c3
                      try clear c4
                      try clear c4b0
                      try clear c5
                      try clear p6
                      try clear c7
                      try clear c11
                      try clear c11b0
                      try clear c14
                      try clear c16
                      try clear c21
                      try clear c23
                      try clear c23b0
                      try clear c25
                      try clear hcz17_0
                      try clear hcz17_1
                      try clear hcz17_2
                      try clear hcz17_3
                      try clear hcz22_0
                      try clear hcz22_1
                      try clear hcz22_2
                      try clear hcz22_3
                      try clear hcz8_0
                      try clear hcz8_1
                      try clear hcz8_2
                      try clear hcz8_3
                      try clear hfz17_0
                      try clear hfz17_1
                      try clear hfz17_2
                      try clear hfz17_3
                      try clear hfz22_0
                      try clear hfz22_1
                      try clear hfz22_2
                      try clear hfz22_3
                      try clear hfz8_0
                      try clear hfz8_1
                      try clear hfz8_2
                      try clear hfz8_3
                      try clear p2
                      try clear p6
                      (try clear HA)
                      (try clear HK4)
                      (try clear HO_111000)
                      (try clear HO_111003)
                      (try clear BK101)
                      (try clear BK110)
                      (try clear HB)
                      obtain ⟨x8_4, x111003_4, u111003, rfl, HA, HK4, HO_111000, HO_111003, BK101, BK110, HB⟩ := hrel
                      cases gk with
                      | zero => exact absurd HA.out (by simp [spec_GetImage.l1])
                      | succ k4 =>
                        have H := HA.out
                        clear HA
                        simp only [spec_GetImage.l1] at H
                        by_cases c30 : (wrap64 (x8_4 + 5)) < (wrap64 ((a0.size : Int) / 8))
                        · rw [if_pos c30] at H
                          have c30b0 : decide ((wrap64 (x8_4 + 5)) < (wrap64 ((a0.size : Int) / 8))) = true := decide_eq_true c30
                          clear c30
                          replace H := Option.bind_eq_some_iff.mp H
                          obtain ⟨t116, A310, H⟩ := H
                          replace H : ((spec_l14Get.f k4 a0 (wrap64 ((wrap64 (8 * x8_4)) + 8))).bind fun t117 => ((spec_l14Get.f k4 a0 (wrap64 ((wrap64 (8 * x8_4)) + 16))).bind fun t118 => ((spec_l14Get.f k4 a0 (wrap64 ((wrap64 (8 * x8_4)) + 24))).bind fun t119 => ((spec_l14Get.f k4 a0 (wrap64 ((wrap64 (8 * x8_4)) + 32))).bind fun t120 => (if x111003_4.length < 3518437208883 then (spec_GetImage.l1 k4 a0 (wrap64 ((a0.size : Int) / 8)) (wrap64 (x8_4 + 5)) x111000_3 t108 t109 (x111003_4 ++ [(⟨t116, t117, t118, t119, t120⟩ : S59)])) else (none)))))) = some (r1, r2, r3, r4, r5) := H
                          have A31 := Aside0.mk A310
                          clear A310
                          replace H := Option.bind_eq_some_iff.mp H
                          obtain ⟨t117, A320, H⟩ := H
                          replace H : ((spec_l14Get.f k4 a0 (wrap64 ((wrap64 (8 * x8_4)) + 16))).bind fun t118 => ((spec_l14Get.f k4 a0 (wrap64 ((wrap64 (8 * x8_4)) + 24))).bind fun t119 => ((spec_l14Get.f k4 a0 (wrap64 ((wrap64 (8 * x8_4)) + 32))).bind fun t120 => (if x111003_4.length < 3518437208883 then (spec_GetImage.l1 k4 a0 (wrap64 ((a0.size : Int) / 8)) (wrap64 (x8_4 + 5)) x111000_3 t108 t109 (x111003_4 ++ [(⟨t116, t117, t118, t119, t120⟩ : S59)])) else (none))))) = some (r1, r2, r3, r4, r5) := H
                          have A32 := Aside0.mk A320
                          clear A320
                          replace H := Option.bind_eq_some_iff.mp H
                          obtain ⟨t118, A330, H⟩ := H
                          replace H : ((spec_l14Get.f k4 a0 (wrap64 ((wrap64 (8 * x8_4)) + 24))).bind fun t119 => ((spec_l14Get.f k4 a0 (wrap64 ((wrap64 (8 * x8_4)) + 32))).bind fun t120 => (if x111003_4.length < 3518437208883 then (spec_GetImage.l1 k4 a0 (wrap64 ((a0.size : Int) / 8)) (wrap64 (x8_4 + 5)) x111000_3 t108 t109 (x111003_4 ++ [(⟨t116, t117, t118, t119, t120⟩ : S59)])) else (none)))) = some (r1, r2, r3, r4, r5) := H
                          have A33 := Aside0.mk A330
                          clear A330
                          replace H := Option.bind_eq_some_iff.mp H
                          obtain ⟨t119, A340, H⟩ := H
                          replace H : ((spec_l14Get.f k4 a0 (wrap64 ((wrap64 (8 * x8_4)) + 32))).bind fun t120 => (if x111003_4.length < 3518437208883 then (spec_GetImage.l1 k4 a0 (wrap64 ((a0.size : Int) / 8)) (wrap64 (x8_4 + 5)) x111000_3 t108 t109 (x111003_4 ++ [(⟨t116, t117, t118, t119, t120⟩ : S59)])) else (none))) = some (r1, r2, r3, r4, r5) := H
                          have A34 := Aside0.mk A340
                          clear A340
                          replace H := Option.bind_eq_some_iff.mp H
                          obtain ⟨t120, A350, H⟩ := H
                          replace H : (if x111003_4.length < 3518437208883 then (spec_GetImage.l1 k4 a0 (wrap64 ((a0.size : Int) / 8)) (wrap64 (x8_4 + 5)) x111000_3 t108 t109 (x111003_4 ++ [(⟨t116, t117, t118, t119, t120⟩ : S59)])) else (none)) = some (r1, r2, r3, r4, r5) := H
                          have A35 := Aside0.mk A350
                          clear A350
                          by_cases c36 : x111003_4.length < 3518437208883
                          · rw [if_pos c36] at H
                            have LMc36 := Aside0.mk c36
                            clear c36
                            obtain ⟨y121, hy121⟩ : ∃ y_ : List (S59), y_ = (x111003_4 ++ [(⟨t116, t117, t118, t119, t120⟩ : S59)]) := ⟨_, rfl⟩
                            replace H : (spec_GetImage.l1 k4 a0 (wrap64 ((a0.size : Int) / 8)) (wrap64 (x8_4 + 5)) x111000_3 t108 t109 y121) = some (r1, r2, r3, r4, r5) := by first | (rw [hy121]; with_reducible exact H) | (have H2_ := (Option.bind_some _ _).symm.trans H; rw [hy121]; with_reducible exact H2_) | (have H2_ := (Option.bind_some _ _).symm.trans H; with_reducible exact H2_) | with_reducible exact H | (rw [hy121]; exact H) | exact H
                            have Ny121 := Aside0.mk hy121
                            clear hy121
                            have H' := Aside0.mk H
                            clear H
                            try go_wp2
                            have n0_ := Aside0.mk (Kd.R_drew HO_111000.out)
                            have n1_ := Aside0.mk (Kd.R_drew HO_111003.out)
                            have n2_ := Aside0.mk (blk_drew BK101.out)
                            have n3_ := Aside0.mk (blk_drew BK110.out)
                            have n4_ := Aside0.mk (below_drew1 HB.out)
                            clear HO_111000
                            clear HO_111003
                            clear BK101
                            clear BK110
                            clear HB
                            have HO_111000 := n0_
                            have HO_111003 := n1_
                            have BK101 := n2_
                            have BK110 := n3_
                            have HB := n4_
                            clear n0_ n1_ n2_ n3_ n4_
                            refine start_ (n := 31) (S := fun w' => w'.cell? ⟨gb110, 0, none⟩ = some (u111000) ∧ w'.cell? ⟨gb110, 1, none⟩ = some (.int .i64 t108) ∧ w'.cell? ⟨gb110, 2, none⟩ = some (.int .i64 t109) ∧ w'.cell? ⟨gb110, 3, none⟩ = some (u111003)) (ds := [30]) #[false, false, false, false, false, false, false, false, false, false, false, false, false, false, false, false, false, false, false, false, false, false, false, false, false, false, false, false, false, false, false] (by kernel_rfl) rfl rfl ⟨(blk_cell BK110.out 0).trans rfl, (blk_cell BK110.out 1).trans rfl, (blk_cell BK110.out 2).trans rfl, (blk_cell BK110.out 3).trans rfl⟩ (fun hHeld => ?_); refine with_tabW spec_GetImage.tab15 spec_GetImage.bits15 (fun HT_ HW_ => ?_)
                            generalize wr.drew = w37 at HO_111000 HO_111003 BK101 BK110 HB hHeld ⊢
                            refine pure_ (i := 0) (N := some 83) (v := ?_) (a' := ?_) #[true, false, false, false, false, false, false, false, false, false, false, false, false, false, false, false, false, false, false, false, false, false, false, false, false, false, false, false, false, false, false] rfl rfl (any_of HT_.out (by kernel_rfl)) (fun _ _ _ h => h) (Or.inl ⟨by rfl, ?_⟩) ?_ ?_
                            rotate_left
                            · intro w'
                              go_simp
                              with_reducible rfl
                            rotate_left
                            · simp only [Act.put, List.setIfInBounds_toArray, List.set_cons_zero, List.set_cons_succ, i64_w, i32_w]
                              rfl
                            refine pure_ (i := 2) (N := some 85) (v := ?_) (a' := ?_) #[true, false, true, false, false, false, false, false, false, false, false, false, false, false, false, false, false, false, false, false, false, false, false, false, false, false, false, false, false, false, false] rfl rfl (any_of HT_.out (by kernel_rfl)) (fun _ _ _ h => h) (Or.inl ⟨by rfl, ?_⟩) ?_ ?_
                            rotate_left
                            · intro w'
                              go_simp
                              with_reducible rfl
                            rotate_left
                            · simp only [Act.put, List.setIfInBounds_toArray, List.set_cons_zero, List.set_cons_succ, i64_w, i32_w]
                              rfl
                            refine pure_ (i := 3) (N := some 86) (v := ?_) (a' := ?_) #[true, false, true, true, false, false, false, false, false, false, false, false, false, false, false, false, false, false, false, false, false, false, false, false, false, false, false, false, false, false, false] rfl rfl (any_of HT_.out (by kernel_rfl)) (fun _ _ _ h => h) (Or.inl ⟨by rfl, ?_⟩) ?_ ?_
                            rotate_left
                            · intro w'
                              go_simp
                              with_reducible rfl
                            rotate_left
                            · simp only [Act.put, List.setIfInBounds_toArray, List.set_cons_zero, List.set_cons_succ, i64_w, i32_w]
                              rfl
                            refine pure_ (i := 4) (N := some 87) (v := ?_) (a' := ?_) #[true, false, true, true, true, false, false, false, false, false, false, false, false, false, false, false, false, false, false, false, false, false, false, false, false, false, false, false, false, false, false] rfl rfl (any_of HT_.out (by kernel_rfl)) (fun _ _ _ h => h) (Or.inl ⟨by rfl, ?_⟩) ?_ ?_
                            rotate_left
                            · intro w'
                              go_simp
                              with_reducible rfl
                            rotate_left
                            · simp only [Act.put, List.setIfInBounds_toArray, List.set_cons_zero, List.set_cons_succ, i64_w, i32_w]
                              rfl
                            refine pure_ (i := 6) (N := some 89) (v := ?_) (a' := ?_) #[true, false, true, true, true, false, true, false, false, false, false, false, false, false, false, false, false, false, false, false, false, false, false, false, false, false, false, false, false, false, false] rfl rfl (any_of HT_.out (by kernel_rfl)) (fun _ _ _ h => h) (Or.inl ⟨by rfl, ?_⟩) ?_ ?_
                            rotate_left
                            · intro w'
                              go_simp
                              with_reducible rfl
                            rotate_left
                            · simp only [Act.put, List.setIfInBounds_toArray, List.set_cons_zero, List.set_cons_succ, i64_w, i32_w]
                              rfl
                            refine pure_ (i := 7) (N := some 90) (v := ?_) (a' := ?_) #[true, false, true, true, true, false, true, true, false, false, false, false, false, false, false, false, false, false, false, false, false, false, false, false, false, false, false, false, false, false, false] rfl rfl (any_of HT_.out (by kernel_rfl)) (fun _ _ _ h => h) (Or.inl ⟨by rfl, ?_⟩) ?_ ?_
                            rotate_left
                            · intro w'
                              go_simp
                              with_reducible rfl
                            rotate_left
                            · simp only [Act.put, List.setIfInBounds_toArray, List.set_cons_zero, List.set_cons_succ, i64_w, i32_w]
                              rfl
                            refine pure_ (i := 8) (N := some 91) (v := ?_) (a' := ?_) #[true, false, true, true, true, false, true, true, true, false, false, false, false, false, false, false, false, false, false, false, false, false, false, false, false, false, false, false, false, false, false] rfl rfl (any_of HT_.out (by kernel_rfl)) (fun _ _ _ h => h) (Or.inl ⟨by rfl, ?_⟩) ?_ ?_
                            rotate_left
                            · intro w'
                              go_simp
                              with_reducible rfl
                            rotate_left
                            · simp only [Act.put, List.setIfInBounds_toArray, List.set_cons_zero, List.set_cons_succ, i64_w, i32_w]
                              rfl
                            refine pure_ (i := 9) (N := some 92) (v := ?_) (a' := ?_) #[true, false, true, true, true, false, true, true, true, true, false, false, false, false, false, false, false, false, false, false, false, false, false, false, false, false, false, false, false, false, false] rfl rfl (any_of HT_.out (by kernel_rfl)) (fun _ _ _ h => h) (Or.inl ⟨by rfl, ?_⟩) ?_ ?_
                            rotate_left
                            · intro w'
                              go_simp
                              with_reducible rfl
                            rotate_left
                            · simp only [Act.put, List.setIfInBounds_toArray, List.set_cons_zero, List.set_cons_succ, i64_w, i32_w]
                              rfl
                            refine pure_ (i := 11) (N := some 94) (v := ?_) (a' := ?_) #[true, false, true, true, true, false, true, true, true, true, false, true, false, false, false, false, false, false, false, false, false, false, false, false, false, false, false, false, false, false, false] rfl rfl (any_of HT_.out (by kernel_rfl)) (fun _ _ _ h => h) (Or.inl ⟨by rfl, ?_⟩) ?_ ?_
                            rotate_left
                            · intro w'
                              go_simp
                              with_reducible rfl
                            rotate_left
                            · simp only [Act.put, List.setIfInBounds_toArray, List.set_cons_zero, List.set_cons_succ, i64_w, i32_w]
                              rfl
                            refine pure_ (i := 12) (N := some 95) (v := ?_) (a' := ?_) #[true, false, true, true, true, false, true, true, true, true, false, true, true, false, false, false, false, false, false, false, false, false, false, false, false, false, false, false, false, false, false] rfl rfl (any_of HT_.out (by kernel_rfl)) (fun _ _ _ h => h) (Or.inl ⟨by rfl, ?_⟩) ?_ ?_
                            rotate_left
                            · intro w'
                              go_simp
                              with_reducible rfl
                            rotate_left
                            · simp only [Act.put, List.setIfInBounds_toArray, List.set_cons_zero, List.set_cons_succ, i64_w, i32_w]
                              rfl
                            refine pure_ (i := 13) (N := some 96) (v := ?_) (a' := ?_) #[true, false, true, true, true, false, true, true, true, true, false, true, true, true, false, false, false, false, false, false, false, false, false, false, false, false, false, false, false, false, false] rfl rfl (any_of HT_.out (by kernel_rfl)) (fun _ _ _ h => h) (Or.inl ⟨by rfl, ?_⟩) ?_ ?_
                            rotate_left
                            · intro w'
                              go_simp
                              with_reducible rfl
                            rotate_left
                            · simp only [Act.put, List.setIfInBounds_toArray, List.set_cons_zero, List.set_cons_succ, i64_w, i32_w]
                              rfl
                            refine pure_ (i := 14) (N := some 97) (v := ?_) (a' := ?_) #[true, false, true, true, true, false, true, true, true, true, false, true, true, true, true, false, false, false, false, false, false, false, false, false, false, false, false, false, false, false, false] rfl rfl (any_of HT_.out (by kernel_rfl)) (fun _ _ _ h => h) (Or.inl ⟨by rfl, ?_⟩) ?_ ?_
                            rotate_left
                            · intro w'
                              go_simp
                              with_reducible rfl
                            rotate_left
                            · simp only [Act.put, List.setIfInBounds_toArray, List.set_cons_zero, List.set_cons_succ, i64_w, i32_w]
                              rfl
                            refine pure_ (i := 16) (N := some 99) (v := ?_) (a' := ?_) #[true, false, true, true, true, false, true, true, true, true, false, true, true, true, true, false, true, false, false, false, false, false, false, false, false, false, false, false, false, false, false] rfl rfl (any_of HT_.out (by kernel_rfl)) (fun _ _ _ h => h) (Or.inl ⟨by rfl, ?_⟩) ?_ ?_
                            rotate_left
                            · intro w'
                              go_simp
                              with_reducible rfl
                            rotate_left
                            · simp only [Act.put, List.setIfInBounds_toArray, List.set_cons_zero, List.set_cons_succ, i64_w, i32_w]
                              rfl
                            refine pure_ (i := 17) (N := some 100) (v := ?_) (a' := ?_) #[true, false, true, true, true, false, true, true, true, true, false, true, true, true, true, false, true, true, false, false, false, false, false, false, false, false, false, false, false, false, false] rfl rfl (any_of HT_.out (by kernel_rfl)) (fun _ _ _ h => h) (Or.inl ⟨by rfl, ?_⟩) ?_ ?_
                            rotate_left
                            · intro w'
                              go_simp
                              with_reducible rfl
                            rotate_left
                            · simp only [Act.put, List.setIfInBounds_toArray, List.set_cons_zero, List.set_cons_succ, i64_w, i32_w]
                              rfl
                            refine pure_ (i := 18) (N := some 101) (v := ?_) (a' := ?_) #[true, false, true, true, true, false, true, true, true, true, false, true, true, true, true, false, true, true, true, false, false, false, false, false, false, false, false, false, false, false, false] rfl rfl (any_of HT_.out (by kernel_rfl)) (fun _ _ _ h => h) (Or.inl ⟨by rfl, ?_⟩) ?_ ?_
                            rotate_left
                            · intro w'
                              go_simp
                              with_reducible rfl
                            rotate_left
                            · simp only [Act.put, List.setIfInBounds_toArray, List.set_cons_zero, List.set_cons_succ, i64_w, i32_w]
                              rfl
                            refine pure_ (i := 19) (N := some 102) (v := ?_) (a' := ?_) #[true, false, true, true, true, false, true, true, true, true, false, true, true, true, true, false, true, true, true, true, false, false, false, false, false, false, false, false, false, false, false] rfl rfl (any_of HT_.out (by kernel_rfl)) (fun _ _ _ h => h) (Or.inl ⟨by rfl, ?_⟩) ?_ ?_
                            rotate_left
                            · intro w'
                              go_simp
                              with_reducible rfl
                            rotate_left
                            · simp only [Act.put, List.setIfInBounds_toArray, List.set_cons_zero, List.set_cons_succ, i64_w, i32_w]
                              rfl
                            refine pure_ (i := 21) (N := some 104) (v := ?_) (a' := ?_) #[true, false, true, true, true, false, true, true, true, true, false, true, true, true, true, false, true, true, true, true, false, true, false, false, false, false, false, false, false, false, false] rfl rfl (any_of HT_.out (by kernel_rfl)) (fun _ _ _ h => h) (Or.inl ⟨by rfl, ?_⟩) ?_ ?_
                            rotate_left
                            · intro w'
                              go_simp
                              with_reducible rfl
                            rotate_left
                            · simp only [Act.put, List.setIfInBounds_toArray, List.set_cons_zero, List.set_cons_succ, i64_w, i32_w]
                              rfl
                            refine pure_ (i := 22) (N := some 105) (v := ?_) (a' := ?_) #[true, false, true, true, true, false, true, true, true, true, false, true, true, true, true, false, true, true, true, true, false, true, true, false, false, false, false, false, false, false, false] rfl rfl (any_of HT_.out (by kernel_rfl)) (fun _ _ _ h => h) (Or.inl ⟨by rfl, ?_⟩) ?_ ?_
                            rotate_left
                            · intro w'
                              go_simp
                              with_reducible rfl
                            rotate_left
                            · simp only [Act.put, List.setIfInBounds_toArray, List.set_cons_zero, List.set_cons_succ, i64_w, i32_w]
                              rfl
                            refine pure_ (i := 23) (N := some 106) (v := ?_) (a' := ?_) #[true, false, true, true, true, false, true, true, true, true, false, true, true, true, true, false, true, true, true, true, false, true, true, true, false, false, false, false, false, false, false] rfl rfl (any_of HT_.out (by kernel_rfl)) (fun _ _ _ h => h) (Or.inl ⟨by rfl, ?_⟩) ?_ ?_
                            rotate_left
                            · intro w'
                              go_simp
                              with_reducible rfl
                            rotate_left
                            · simp only [Act.put, List.setIfInBounds_toArray, List.set_cons_zero, List.set_cons_succ, i64_w, i32_w]
                              rfl
                            refine pure_ (i := 24) (N := some 107) (v := ?_) (a' := ?_) #[true, false, true, true, true, false, true, true, true, true, false, true, true, true, true, false, true, true, true, true, false, true, true, true, true, false, false, false, false, false, false] rfl rfl (any_of HT_.out (by kernel_rfl)) (fun _ _ _ h => h) (Or.inl ⟨by rfl, ?_⟩) ?_ ?_
                            rotate_left
                            · intro w'
                              go_simp
                              with_reducible rfl
                            rotate_left
                            · simp only [Act.put, List.setIfInBounds_toArray, List.set_cons_zero, List.set_cons_succ, i64_w, i32_w]
                              rfl
                            refine take_ (i := 1) (N := some 84) (v := ?_) (a' := ?_) #[true, true, true, true, true, false, true, true, true, true, false, true, true, true, true, false, true, true, true, true, false, true, true, true, true, false, false, false, false, false, false] rfl rfl (take_ofW HT_.out HW_.out (by kernel_rfl)) (fun _ _ _ h => h) (Or.inl ⟨by rfl, ?_⟩) hHeld ?_ ?_
                            rotate_left
                            · rintro w' ⟨s0, s1, s2, s3⟩
                              go_simp
                              with_reducible rfl
                            rotate_left
                            · simp only [Act.put, List.setIfInBounds_toArray, List.set_cons_zero, List.set_cons_succ, i64_w, i32_w]
                              rfl
                            refine one_ (i := 5) (N := some 88) #[true, true, true, true, true, true, true, true, true, true, false, true, true, true, true, false, true, true, true, true, false, true, true, true, true, false, false, false, false, false, false] rfl rfl (one_of HT_.out (by kernel_rfl)) (by decide) (fun K hK => ?_)
                            refine goes_ Try.func57 (by kernel_rfl) rfl #[.string a0, .int .i64 (wrap64 (8 * x8_4))] (by rfl) rfl rfl (by (try simp only [List.map_toArray, List.map_cons, List.map_nil]); first | done | rfl | (simp only [List.length_drop, List.length_take]; rfl)) ?_
                            with_reducible refine (spec_l14Get.calls k4 a0 (wrap64 (8 * x8_4)) t116 _ A31.out).mono ?_
                            rintro e w' ⟨rfl, ⟨nd, rfl⟩⟩
                            refine ⟨_, rfl, ?_⟩
                            refine hK.out _ _ ⟨(blk_cell BK110.out 0).trans rfl, (blk_cell BK110.out 1).trans rfl, (blk_cell BK110.out 2).trans rfl, (blk_cell BK110.out 3).trans rfl⟩ (fun hHeld => ?_)
                            clear hK K
                            refine norm_ (a' := ?_) ?_ ?_
                            rotate_left
                            · show Act.put _ (some 88) _ = _
                              simp only [Act.put, List.setIfInBounds_toArray, List.set_cons_zero, List.set_cons_succ, i64_w, i32_w]
                              rfl
                            refine one_ (i := 10) (N := some 93) #[true, true, true, true, true, true, true, true, true, true, true, true, true, true, true, false, true, true, true, true, false, true, true, true, true, false, false, false, false, false, false] rfl rfl (one_of HT_.out (by kernel_rfl)) (by decide) (fun K hK => ?_)
                            refine goes_ Try.func57 (by kernel_rfl) rfl #[.string a0, .int .i64 (wrap64 ((wrap64 (8 * x8_4)) + 8))] (by rfl) rfl rfl (by (try simp only [List.map_toArray, List.map_cons, List.map_nil]); first | done | rfl | (simp only [List.length_drop, List.length_take]; rfl)) ?_
                            with_reducible refine (spec_l14Get.calls k4 a0 (wrap64 ((wrap64 (8 * x8_4)) + 8)) t117 _ A32.out).mono ?_
                            rintro e w' ⟨rfl, ⟨nd, rfl⟩⟩
                            refine ⟨_, rfl, ?_⟩
                            refine hK.out _ _ ⟨(blk_cell BK110.out 0).trans rfl, (blk_cell BK110.out 1).trans rfl, (blk_cell BK110.out 2).trans rfl, (blk_cell BK110.out 3).trans rfl⟩ (fun hHeld => ?_)
                            clear hK K
                            refine norm_ (a' := ?_) ?_ ?_
                            rotate_left
                            · show Act.put _ (some 93) _ = _
                              simp only [Act.put, List.setIfInBounds_toArray, List.set_cons_zero, List.set_cons_succ, i64_w, i32_w]
                              rfl
                            refine one_ (i := 15) (N := some 98) #[true, true, true, true, true, true, true, true, true, true, true, true, true, true, true, true, true, true, true, true, false, true, true, true, true, false, false, false, false, false, false] rfl rfl (one_of HT_.out (by kernel_rfl)) (by decide) (fun K hK => ?_)
                            refine goes_ Try.func57 (by kernel_rfl) rfl #[.string a0, .int .i64 (wrap64 ((wrap64 (8 * x8_4)) + 16))] (by rfl) rfl rfl (by (try simp only [List.map_toArray, List.map_cons, List.map_nil]); first | done | rfl | (simp only [List.length_drop, List.length_take]; rfl)) ?_
                            with_reducible refine (spec_l14Get.calls k4 a0 (wrap64 ((wrap64 (8 * x8_4)) + 16)) t118 _ A33.out).mono ?_
                            rintro e w' ⟨rfl, ⟨nd, rfl⟩⟩
                            refine ⟨_, rfl, ?_⟩
                            refine hK.out _ _ ⟨(blk_cell BK110.out 0).trans rfl, (blk_cell BK110.out 1).trans rfl, (blk_cell BK110.out 2).trans rfl, (blk_cell BK110.out 3).trans rfl⟩ (fun hHeld => ?_)
                            clear hK K
                            refine norm_ (a' := ?_) ?_ ?_
                            rotate_left
                            · show Act.put _ (some 98) _ = _
                              simp only [Act.put, List.setIfInBounds_toArray, List.set_cons_zero, List.set_cons_succ, i64_w, i32_w]
                              rfl
                            refine one_ (i := 20) (N := some 103) #[true, true, true, true, true, true, true, true, true, true, true, true, true, true, true, true, true, true, true, true, true, true, true, true, true, false, false, false, false, false, false] rfl rfl (one_of HT_.out (by kernel_rfl)) (by decide) (fun K hK => ?_)
                            refine goes_ Try.func57 (by kernel_rfl) rfl #[.string a0, .int .i64 (wrap64 ((wrap64 (8 * x8_4)) + 24))] (by rfl) rfl rfl (by (try simp only [List.map_toArray, List.map_cons, List.map_nil]); first | done | rfl | (simp only [List.length_drop, List.length_take]; rfl)) ?_
                            with_reducible refine (spec_l14Get.calls k4 a0 (wrap64 ((wrap64 (8 * x8_4)) + 24)) t119 _ A34.out).mono ?_
                            rintro e w' ⟨rfl, ⟨nd, rfl⟩⟩
                            refine ⟨_, rfl, ?_⟩
                            refine hK.out _ _ ⟨(blk_cell BK110.out 0).trans rfl, (blk_cell BK110.out 1).trans rfl, (blk_cell BK110.out 2).trans rfl, (blk_cell BK110.out 3).trans rfl⟩ (fun hHeld => ?_)
                            clear hK K
                            refine norm_ (a' := ?_) ?_ ?_
                            rotate_left
                            · show Act.put _ (some 103) _ = _
                              simp only [Act.put, List.setIfInBounds_toArray, List.set_cons_zero, List.set_cons_succ, i64_w, i32_w]
                              rfl
                            refine one_ (i := 25) (N := some 108) #[true, true, true, true, true, true, true, true, true, true, true, true, true, true, true, true, true, true, true, true, true, true, true, true, true, true, false, false, false, false, false] rfl rfl (one_of HT_.out (by kernel_rfl)) (by decide) (fun K hK => ?_)
                            refine goes_ Try.func57 (by kernel_rfl) rfl #[.string a0, .int .i64 (wrap64 ((wrap64 (8 * x8_4)) + 32))] (by rfl) rfl rfl (by (try simp only [List.map_toArray, List.map_cons, List.map_nil]); first | done | rfl | (simp only [List.length_drop, List.length_take]; rfl)) ?_
                            with_reducible refine (spec_l14Get.calls k4 a0 (wrap64 ((wrap64 (8 * x8_4)) + 32)) t120 _ A35.out).mono ?_
                            rintro e w' ⟨rfl, ⟨nd, rfl⟩⟩
                            refine ⟨_, rfl, ?_⟩
                            refine hK.out _ _ ⟨(blk_cell BK110.out 0).trans rfl, (blk_cell BK110.out 1).trans rfl, (blk_cell BK110.out 2).trans rfl, (blk_cell BK110.out 3).trans rfl⟩ (fun hHeld => ?_)
                            clear hK K
                            refine norm_ (a' := ?_) ?_ ?_
                            rotate_left
                            · show Act.put _ (some 108) _ = _
                              simp only [Act.put, List.setIfInBounds_toArray, List.set_cons_zero, List.set_cons_succ, i64_w, i32_w]
                              rfl
                            refine pure_ (i := 26) (N := some 109) (v := ?_) (a' := ?_) #[true, true, true, true, true, true, true, true, true, true, true, true, true, true, true, true, true, true, true, true, true, true, true, true, true, true, true, false, false, false, false] rfl rfl (any_of HT_.out (by kernel_rfl)) (fun _ _ _ h => h) (Or.inl ⟨by rfl, ?_⟩) ?_ ?_
                            rotate_left
                            · intro w'
                              go_simp
                              with_reducible rfl
                            rotate_left
                            · simp only [Act.put, List.setIfInBounds_toArray, List.set_cons_zero, List.set_cons_succ, i64_w, i32_w]
                              rfl
                            refine one_ (i := 27) (N := some 110) #[true, true, true, true, true, true, true, true, true, true, true, true, true, true, true, true, true, true, true, true, true, true, true, true, true, true, true, true, false, false, false] rfl rfl (one_of HT_.out (by kernel_rfl)) (by decide) (fun K hK => ?_)
                            refine value_ (w1 := ?_) (v := ?_) (by rfl) rfl ?_ ?_
                            rotate_left 2
                            · go_simp
                              constructor
                              · rfl
                              · rfl
                            refine hK.out _ _ ⟨(blk_cell (blk_alloc BK110.out _) 0).trans rfl, (blk_cell (blk_alloc BK110.out _) 1).trans rfl, (blk_cell (blk_alloc BK110.out _) 2).trans rfl, (blk_cell (blk_alloc BK110.out _) 3).trans rfl⟩ (fun hHeld => ?_)
                            clear hK K
                            refine norm_ (a' := ?_) ?_ ?_
                            rotate_left
                            · show Act.put _ (some 110) _ = _
                              simp only [Act.put, List.setIfInBounds_toArray, List.set_cons_zero, List.set_cons_succ, i64_w, i32_w]
                              rfl
                            refine one_ (i := 28) (N := some 111) #[true, true, true, true, true, true, true, true, true, true, true, true, true, true, true, true, true, true, true, true, true, true, true, true, true, true, true, true, true, false, false] rfl rfl (one_of HT_.out (by kernel_rfl)) (by decide) (fun K hK => ?_)
                            refine Kd.R_append_step k59 (w0 := w) w.heap.size (by rfl) (.tmp 84) (.tmp 110) 31 59 (.agg #[(.int .i64 0), (.int .i64 0), (.int .i64 0), (.int .i64 0), (.int .i64 0)]) 40 rfl Try.underlying31 info59 rfl (by decide) (by omega) u111003 x111003_4 (⟨t116, t117, t118, t119, t120⟩ : S59) [.int .i64 t116, .int .i64 t117, .int .i64 t118, .int .i64 t119, .int .i64 t120] (fun _ => True) (fun _ => False) rfl rfl ?aP (fun _ hk => hk.elim) ?aF ?aO ?aB ?aS ?aL ?_
                            (case aP => exact k59_mkM _ _ _ (⟨t116, t117, t118, t119, t120⟩ : S59))
                            (case aB => exact (by repeat (first | (with_reducible first | exact HB.out | apply below_alloc | apply pw_below_drewN | apply below_drew1 | refine below_set ?_ GE101.out | refine below_set ?_ GE110.out) | exact HB.out)))
                            (case aF => exact (fun _ _ => trivial))
                            (case aO => exact (by (with_reducible repeat (first | apply Kd.R_alloc | apply Kd.R_drewN | apply Kd.R_drew)); exact HO_111003.out))
                            (case aS => exact (below_size (by repeat (first | (with_reducible first | exact HB.out | apply below_alloc | apply pw_below_drewN | apply below_drew1 | refine below_set ?_ GE101.out | refine below_set ?_ GE110.out) | exact HB.out))))
                            (case aL => have := LMc36.out; omega)
                            intro v122 w38 ho hb hg hat
                            rw [← Ny121.out] at ho
                            have n0_ := Aside0.mk (Kd.R_over' (by (with_reducible repeat (first | apply Kd.R_alloc | apply Kd.R_drewN | apply Kd.R_drew)); exact HO_111000.out) (Kd.R_typed (by (with_reducible repeat (first | apply Kd.R_alloc | apply Kd.R_drewN | apply Kd.R_drew)); exact HO_111003.out)) (by decide) hg)
                            have n1_ := Aside0.mk (blk_grown (g := gb101) (o := .cells #[.slice none 0 0, .int .i64 0, .int .i64 0, .slice none 0 0] 33 (0, 0)) (by (with_reducible repeat (first | refine blk_drewN ?_ _ | refine blk_drew ?_ | refine blk_alloc ?_ _)); exact BK101.out) hg (Kd.R_ne HO_111003.out BK101.out (by decide)))
                            have n2_ := Aside0.mk (blk_grown (g := gb110) (o := .cells #[u111000, .int .i64 t108, .int .i64 t109, u111003] 33 (0, 0)) (by (with_reducible repeat (first | refine blk_drewN ?_ _ | refine blk_drew ?_ | refine blk_alloc ?_ _)); exact BK110.out) hg (Kd.R_ne HO_111003.out BK110.out (by decide)))
                            have n3_ := Aside0.mk (hb)
                            have n4_ := Aside0.mk (ho)
                            clear HO_111000
                            clear BK101
                            clear BK110
                            clear HB
                            clear HO_111003
                            have HO_111000 := n0_
                            have BK101 := n1_
                            have BK110 := n2_
                            have HB := n3_
                            have HO123 := n4_
                            clear n0_ n1_ n2_ n3_ n4_
                            clear ho hb hg hat
                            obtain ⟨Ao39, co39, eo39⟩ := Kd.R_slice HO123.out
                            (first | subst eo39 | (injection eo39 with f1_ f2_ f3_; have f4_ := f1_.symm; have f5_ := f3_.symm; clear f1_ f2_ f3_; subst f4_; subst f5_))
                            refine hK.out _ _ ⟨(blk_cell BK110.out 0).trans rfl, (blk_cell BK110.out 1).trans rfl, (blk_cell BK110.out 2).trans rfl, (blk_cell BK110.out 3).trans rfl⟩ (fun hHeld => ?_)
                            clear hK K
                            refine norm_ (a' := ?_) ?_ ?_
                            rotate_left
                            · show Act.put _ (some 111) _ = _
                              simp only [Act.put, List.setIfInBounds_toArray, List.set_cons_zero, List.set_cons_succ, i64_w, i32_w]
                              rfl
                            refine pure_ (i := 29) (N := some 112) (v := ?_) (a' := ?_) #[true, true, true, true, true, true, true, true, true, true, true, true, true, true, true, true, true, true, true, true, true, true, true, true, true, true, true, true, true, true, false] rfl rfl (any_of HT_.out (by kernel_rfl)) (fun _ _ _ h => h) (Or.inl ⟨by rfl, ?_⟩) ?_ ?_
                            rotate_left
                            · intro w'
                              go_simp
                              with_reducible rfl
                            rotate_left
                            · simp only [Act.put, List.setIfInBounds_toArray, List.set_cons_zero, List.set_cons_succ, i64_w, i32_w]
                              rfl
                            refine last_ (i := 30) (N := none) #[true, true, true, true, true, true, true, true, true, true, true, true, true, true, true, true, true, true, true, true, true, true, true, true, true, true, true, true, true, true, true] rfl rfl (one_of HT_.out (by kernel_rfl)) (by decide) (fun K hK => ?_)
                            have hs40 : w38.cell? ⟨gb110, 3, none⟩ = some (u111003) := (blk_cell BK110.out 3).trans rfl
                            have hfs40 := blk_frozen BK110.out 3
                            have hns40_0 := NB101_110.out
                            have hms40_0 := NB110_101.out
                            refine skip_ (w1 := ?_) (by rfl) rfl ?_ ?_
                            rotate_left
                            · go_simp
                              rfl
                            refine hK.out _ _ ?_
                            clear hK K
                            refine done_ (done_of HT_.out (by kernel_rfl)) ?_
                            try go_wp2
                            go_roundg k4
                            case measure => have := HJ1.out; have := HJ9.out; have := HK3.out; have := HK4.out; omega
                            case rel => exact ⟨(wrap64 (x8_4 + 5)), (y121), (.slice Ao39 y121.length co39), (by first | rfl | (simp; done) | (simp [*]; done)), H', ⟨by have := HJ1.out; have := HJ9.out; have := HK3.out; have := HK4.out; omega⟩, ⟨by (with_reducible repeat (first | apply Kd.R_alloc | apply Kd.R_drewN | apply Kd.R_drew)); exact Kd.R_mono (Kd.R_far (p := ⟨gb110, 3, none⟩) (Kd.R_types HO_111000.out BK110.out (by decide)) (fun _ hk => hk.2) (.slice Ao39 y121.length co39)) (fun _ hk => trivial)⟩, ⟨by (with_reducible repeat (first | apply Kd.R_alloc | apply Kd.R_drewN | apply Kd.R_drew)); exact Kd.R_mono (Kd.R_far (p := ⟨gb110, 3, none⟩) (Kd.R_types HO123.out BK110.out (by decide)) (fun _ hk => hk.2) (.slice Ao39 y121.length co39)) (fun _ hk => trivial)⟩, ⟨by (with_reducible repeat (first | refine blk_drewN ?_ _ | refine blk_drew ?_ | refine blk_alloc ?_ _)); refine blk_far ?_ NB101_110.out _; (with_reducible repeat (first | refine blk_drewN ?_ _ | refine blk_drew ?_ | refine blk_alloc ?_ _)); exact BK101.out⟩, ⟨by (with_reducible repeat (first | refine blk_drewN ?_ _ | refine blk_drew ?_ | refine blk_alloc ?_ _)); refine blk_put (cs := #[u111000, .int .i64 t108, .int .i64 t109, u111003]) ?_ 3 _ rfl; (with_reducible repeat (first | refine blk_drewN ?_ _ | refine blk_drew ?_ | refine blk_alloc ?_ _)); exact BK110.out⟩, ⟨by repeat (first | (with_reducible first | exact HB.out | apply below_alloc | apply pw_below_drewN | apply below_drew1 | refine below_set ?_ GE101.out | refine below_set ?_ GE110.out) | exact HB.out)⟩⟩
                          · rw [if_neg c36] at H
                            exact absurd H (by simp)
                        · rw [if_neg c30] at H
                          have c30b0 : decide ((wrap64 (x8_4 + 5)) < (wrap64 ((a0.size : Int) / 8))) = false := decide_eq_false c30
                          clear c30
                          replace H := Option.bind_eq_some_iff.mp H
                          obtain ⟨t115, A410, H⟩ := H
                          replace H : (if t115.toList = a0.toList then (some (x111000_3, t108, t109, x111003_4, true)) else (some (([] : List Int), 0, 0, ([] : List (S59)), false))) = some (r1, r2, r3, r4, r5) := H
                          have A41 := Aside0.mk A410
                          clear A410
                          by_cases c42 : t115.toList = a0.toList
                          · rw [if_pos c42] at H
                            have c42b0 : (t115.toList == a0.toList) = true := beq_iff_eq.mpr c42
                            have c42b1 : (t115.toList != a0.toList) = false := bne_eq_false_iff_eq.mpr c42
                            clear c42
                            simp only [Option.some.injEq, Prod.mk.injEq] at H
                            obtain ⟨rfl, rfl, rfl, rfl, rfl⟩ := H
                            have hnb43 := NB110_101.out
                            have hnc43 := NB101_110.out
                            have hcz44_0 : wr.cell? ⟨gb110, 0, none⟩ = some (u111000) := (blk_cell BK110.out 0).trans rfl
                            have hcz44_1 : wr.cell? ⟨gb110, 1, none⟩ = some (.int .i64 t108) := (blk_cell BK110.out 1).trans rfl
                            have hcz44_2 : wr.cell? ⟨gb110, 2, none⟩ = some (.int .i64 t109) := (blk_cell BK110.out 2).trans rfl
                            have hcz44_3 : wr.cell? ⟨gb110, 3, none⟩ = some (u111003) := (blk_cell BK110.out 3).trans rfl
                            have hfz44_0 := blk_frozen BK110.out 0
                            have hfz44_1 := blk_frozen BK110.out 1
                            have hfz44_2 := blk_frozen BK110.out 2
                            have hfz44_3 := blk_frozen BK110.out 3
                            obtain ⟨Ao45, co45, eo45⟩ := Kd.R_slice HO_111000.out
                            subst eo45
                            obtain ⟨Ao46, co46, eo46⟩ := Kd.R_slice HO_111003.out
                            subst eo46
                            go_wp2_with (first | ((with_reducible refine gate_callee (f := 27) rfl ?_); refine goesL_ (some 114) rfl rfl Try.func27 (by kernel_rfl) rfl #[.agg #[.slice Ao45 x111000_3.length co45, .int .i64 t108, .int .i64 t109, .slice Ao46 x111003_4.length co46]] rfl (by (try simp only [List.map_toArray, List.map_cons, List.map_nil]); first | done | rfl | (simp only [List.length_drop, List.length_take]; rfl)) ?_; (with_reducible refine (spec_PutImage.calls k4 _ _ x111000_3 t108 t109 _ _ x111003_4 t115 _ ?side1 ?side2 ?side3 ?side4 A41.out).mono ?_); (case side1 => repeat (first | exact (Kd.R_reads' HO_111000.out).2.2 | (with_reducible refine Kd.C_alloc ?_ _) | (with_reducible refine Kd.C_drewN ?_ _) | (with_reducible refine Kd.C_drew ?_))); (case side2 => exact (Kd.R_reads' HO_111000.out).2.1); (case side3 => repeat (first | exact (Kd.R_reads' HO_111003.out).2.2 | (with_reducible refine Kd.C_alloc ?_ _) | (with_reducible refine Kd.C_drewN ?_ _) | (with_reducible refine Kd.C_drew ?_))); (case side4 => exact (Kd.R_reads' HO_111003.out).2.1); rintro e w47 ⟨rfl, hb⟩; refine ⟨_, rfl, ?_⟩; have n0_ := Aside0.mk (Kd.R_below (by (with_reducible repeat (first | apply Kd.R_alloc | apply Kd.R_drewN | apply Kd.R_drew)); exact HO_111000.out) hb); have n1_ := Aside0.mk (Kd.R_below (by (with_reducible repeat (first | apply Kd.R_alloc | apply Kd.R_drewN | apply Kd.R_drew)); exact HO_111003.out) hb); have n2_ := Aside0.mk (blk_below (g := gb101) (o := .cells #[.slice none 0 0, .int .i64 0, .int .i64 0, .slice none 0 0] 33 (0, 0)) (by (with_reducible repeat (first | refine blk_drewN ?_ _ | refine blk_drew ?_ | refine blk_alloc ?_ _)); exact BK101.out) hb); have n3_ := Aside0.mk (blk_below (g := gb110) (o := .cells #[.slice Ao45 x111000_3.length co45, .int .i64 t108, .int .i64 t109, .slice Ao46 x111003_4.length co46] 33 (0, 0)) (by (with_reducible repeat (first | refine blk_drewN ?_ _ | refine blk_drew ?_ | refine blk_alloc ?_ _)); exact BK110.out) hb); have n4_ := Aside0.mk (below_step (by repeat (first | (with_reducible first | exact HB.out | apply below_alloc | apply pw_below_drewN | apply below_drew1 | refine below_set ?_ GE101.out | refine below_set ?_ GE110.out) | exact HB.out)) hb); clear HO_111000; clear HO_111003; clear BK101; clear BK110; clear HB; have HO_111000 := n0_; have HO_111003 := n1_; have BK101 := n2_; have BK110 := n3_; have HB := n4_; clear n0_ n1_ n2_ n3_ n4_; (try clear hb); (try clear hb2); (try clear hk); (try clear hi); have hcz48_0 : w47.cell? ⟨gb110, 0, none⟩ = some (.slice Ao45 x111000_3.length co45) := (blk_cell BK110.out 0).trans rfl; have hcz48_1 : w47.cell? ⟨gb110, 1, none⟩ = some (.int .i64 t108) := (blk_cell BK110.out 1).trans rfl; have hcz48_2 : w47.cell? ⟨gb110, 2, none⟩ = some (.int .i64 t109) := (blk_cell BK110.out 2).trans rfl; have hcz48_3 : w47.cell? ⟨gb110, 3, none⟩ = some (.slice Ao46 x111003_4.length co46) := (blk_cell BK110.out 3).trans rfl; have hfz48_0 := blk_frozen BK110.out 0; have hfz48_1 := blk_frozen BK110.out 1; have hfz48_2 := blk_frozen BK110.out 2; have hfz48_3 := blk_frozen BK110.out 3; have hcz49_0 : w47.cell? ⟨gb101, 0, none⟩ = some (.slice none 0 0) := (blk_cell BK101.out 0).trans rfl; have hcz49_1 : w47.cell? ⟨gb101, 1, none⟩ = some (.int .i64 0) := (blk_cell BK101.out 1).trans rfl; have hcz49_2 : w47.cell? ⟨gb101, 2, none⟩ = some (.int .i64 0) := (blk_cell BK101.out 2).trans rfl; have hcz49_3 : w47.cell? ⟨gb101, 3, none⟩ = some (.slice none 0 0) := (blk_cell BK101.out 3).trans rfl; have hfz49_0 := blk_frozen BK101.out 0; have hfz49_1 := blk_frozen BK101.out 1; have hfz49_2 := blk_frozen BK101.out 2; have hfz49_3 := blk_frozen BK101.out 3))
                            refine bodyPost_ret (results_ct rfl _ _ gb101 33 #[.slice Ao45 x111000_3.length co45, .int .i64 t108, .int .i64 t109, .slice Ao46 x111003_4.length co46] (0, 0) _ rfl (by (with_reducible repeat (first | refine blk_drewN ?_ _ | refine blk_drew ?_ | refine blk_alloc ?_ _)); refine blk_put (cs := #[.slice Ao45 x111000_3.length co45, .int .i64 t108, .int .i64 t109, .slice none 0 0]) ?_ 3 _ rfl; (with_reducible repeat (first | refine blk_drewN ?_ _ | refine blk_drew ?_ | refine blk_alloc ?_ _)); refine blk_put (cs := #[.slice Ao45 x111000_3.length co45, .int .i64 t108, .int .i64 0, .slice none 0 0]) ?_ 2 _ rfl; (with_reducible repeat (first | refine blk_drewN ?_ _ | refine blk_drew ?_ | refine blk_alloc ?_ _)); refine blk_put (cs := #[.slice Ao45 x111000_3.length co45, .int .i64 0, .int .i64 0, .slice none 0 0]) ?_ 1 _ rfl; (with_reducible repeat (first | refine blk_drewN ?_ _ | refine blk_drew ?_ | refine blk_alloc ?_ _)); refine blk_put (cs := #[.slice none 0 0, .int .i64 0, .int .i64 0, .slice none 0 0]) ?_ 0 _ rfl; (with_reducible repeat (first | refine blk_drewN ?_ _ | refine blk_drew ?_ | refine blk_alloc ?_ _)); exact BK101.out) Try.underlying33 rfl (by kernel_rfl)) rfl ?_
                            exact ⟨_, _, by first | rfl | (simp [errW_none, errW_some] <;> rfl) | (simp [*, errW_none, errW_some] <;> rfl), by (with_reducible repeat (first | apply Kd.R_alloc | apply Kd.R_drewN | apply Kd.R_drew)); exact Kd.R_mono (Kd.R_far (p := ⟨gb101, 3, none⟩) (Kd.R_far (p := ⟨gb101, 2, none⟩) (Kd.R_far (p := ⟨gb101, 1, none⟩) (Kd.R_far (p := ⟨gb101, 0, none⟩) (Kd.R_types HO_111000.out BK101.out (by decide)) (fun _ hk => hk.2) (.slice Ao45 x111000_3.length co45)) (fun _ hk => hk.2) (.int .i64 t108)) (fun _ hk => hk.2) (.int .i64 t109)) (fun _ hk => hk.2) (.slice Ao46 x111003_4.length co46)) (fun _ hk => trivial), by (with_reducible repeat (first | apply Kd.R_alloc | apply Kd.R_drewN | apply Kd.R_drew)); exact Kd.R_mono (Kd.R_far (p := ⟨gb101, 3, none⟩) (Kd.R_far (p := ⟨gb101, 2, none⟩) (Kd.R_far (p := ⟨gb101, 1, none⟩) (Kd.R_far (p := ⟨gb101, 0, none⟩) (Kd.R_types HO_111003.out BK101.out (by decide)) (fun _ hk => hk.2) (.slice Ao45 x111000_3.length co45)) (fun _ hk => hk.2) (.int .i64 t108)) (fun _ hk => hk.2) (.int .i64 t109)) (fun _ hk => hk.2) (.slice Ao46 x111003_4.length co46)) (fun _ hk => trivial), by repeat (first | (with_reducible first | exact HB.out | apply below_alloc | apply pw_below_drewN | apply below_drew1 | refine below_set ?_ GE101.out | refine below_set ?_ GE110.out) | exact HB.out)⟩
                          · rw [if_neg c42] at H
                            have c42b0 : (t115.toList == a0.toList) = false := beq_eq_false_iff_ne.mpr c42
                            have c42b1 : (t115.toList != a0.toList) = true := bne_iff_ne.mpr c42
                            simp only [Option.some.injEq, Prod.mk.injEq] at H
                            obtain ⟨rfl, rfl, rfl, rfl, rfl⟩ := H
                            have hnb50 := NB110_101.out
                            have hnc50 := NB101_110.out
                            have hcz51_0 : wr.cell? ⟨gb110, 0, none⟩ = some (u111000) := (blk_cell BK110.out 0).trans rfl
                            have hcz51_1 : wr.cell? ⟨gb110, 1, none⟩ = some (.int .i64 t108) := (blk_cell BK110.out 1).trans rfl
                            have hcz51_2 : wr.cell? ⟨gb110, 2, none⟩ = some (.int .i64 t109) := (blk_cell BK110.out 2).trans rfl
                            have hcz51_3 : wr.cell? ⟨gb110, 3, none⟩ = some (u111003) := (blk_cell BK110.out 3).trans rfl
                            have hfz51_0 := blk_frozen BK110.out 0
                            have hfz51_1 := blk_frozen BK110.out 1
                            have hfz51_2 := blk_frozen BK110.out 2
                            have hfz51_3 := blk_frozen BK110.out 3
                            obtain ⟨Ao52, co52, eo52⟩ := Kd.R_slice HO_111000.out
                            subst eo52
                            obtain ⟨Ao53, co53, eo53⟩ := Kd.R_slice HO_111003.out
                            subst eo53
                            go_wp2_with (first | ((with_reducible refine gate_callee (f := 27) rfl ?_); refine goesL_ (some 114) rfl rfl Try.func27 (by kernel_rfl) rfl #[.agg #[.slice Ao52 x111000_3.length co52, .int .i64 t108, .int .i64 t109, .slice Ao53 x111003_4.length co53]] rfl (by (try simp only [List.map_toArray, List.map_cons, List.map_nil]); first | done | rfl | (simp only [List.length_drop, List.length_take]; rfl)) ?_; (with_reducible refine (spec_PutImage.calls k4 _ _ x111000_3 t108 t109 _ _ x111003_4 t115 _ ?side1 ?side2 ?side3 ?side4 A41.out).mono ?_); (case side1 => repeat (first | exact (Kd.R_reads' HO_111000.out).2.2 | (with_reducible refine Kd.C_alloc ?_ _) | (with_reducible refine Kd.C_drewN ?_ _) | (with_reducible refine Kd.C_drew ?_))); (case side2 => exact (Kd.R_reads' HO_111000.out).2.1); (case side3 => repeat (first | exact (Kd.R_reads' HO_111003.out).2.2 | (with_reducible refine Kd.C_alloc ?_ _) | (with_reducible refine Kd.C_drewN ?_ _) | (with_reducible refine Kd.C_drew ?_))); (case side4 => exact (Kd.R_reads' HO_111003.out).2.1); rintro e w54 ⟨rfl, hb⟩; refine ⟨_, rfl, ?_⟩; have n0_ := Aside0.mk (Kd.R_below (by (with_reducible repeat (first | apply Kd.R_alloc | apply Kd.R_drewN | apply Kd.R_drew)); exact HO_111000.out) hb); have n1_ := Aside0.mk (Kd.R_below (by (with_reducible repeat (first | apply Kd.R_alloc | apply Kd.R_drewN | apply Kd.R_drew)); exact HO_111003.out) hb); have n2_ := Aside0.mk (blk_below (g := gb101) (o := .cells #[.slice none 0 0, .int .i64 0, .int .i64 0, .slice none 0 0] 33 (0, 0)) (by (with_reducible repeat (first | refine blk_drewN ?_ _ | refine blk_drew ?_ | refine blk_alloc ?_ _)); exact BK101.out) hb); have n3_ := Aside0.mk (blk_below (g := gb110) (o := .cells #[.slice Ao52 x111000_3.length co52, .int .i64 t108, .int .i64 t109, .slice Ao53 x111003_4.length co53] 33 (0, 0)) (by (with_reducible repeat (first | refine blk_drewN ?_ _ | refine blk_drew ?_ | refine blk_alloc ?_ _)); exact BK110.out) hb); have n4_ := Aside0.mk (below_step (by repeat (first | (with_reducible first | exact HB.out | apply below_alloc | apply pw_below_drewN | apply below_drew1 | refine below_set ?_ GE101.out | refine below_set ?_ GE110.out) | exact HB.out)) hb); clear HO_111000; clear HO_111003; clear BK101; clear BK110; clear HB; have HO_111000 := n0_; have HO_111003 := n1_; have BK101 := n2_; have BK110 := n3_; have HB := n4_; clear n0_ n1_ n2_ n3_ n4_; (try clear hb); (try clear hb2); (try clear hk); (try clear hi); have hcz55_0 : w54.cell? ⟨gb101, 0, none⟩ = some (.slice none 0 0) := (blk_cell BK101.out 0).trans rfl; have hcz55_1 : w54.cell? ⟨gb101, 1, none⟩ = some (.int .i64 0) := (blk_cell BK101.out 1).trans rfl; have hcz55_2 : w54.cell? ⟨gb101, 2, none⟩ = some (.int .i64 0) := (blk_cell BK101.out 2).trans rfl; have hcz55_3 : w54.cell? ⟨gb101, 3, none⟩ = some (.slice none 0 0) := (blk_cell BK101.out 3).trans rfl; have hfz55_0 := blk_frozen BK101.out 0; have hfz55_1 := blk_frozen BK101.out 1; have hfz55_2 := blk_frozen BK101.out 2; have hfz55_3 := blk_frozen BK101.out 3))
                            refine bodyPost_ret (results_ct rfl _ _ gb101 33 #[.slice none 0 0, .int .i64 0, .int .i64 0, .slice none 0 0] (0, 0) _ rfl (by (with_reducible repeat (first | refine blk_drewN ?_ _ | refine blk_drew ?_ | refine blk_alloc ?_ _)); refine blk_put (cs := #[.slice none 0 0, .int .i64 0, .int .i64 0, .slice none 0 0]) ?_ 3 _ rfl; (with_reducible repeat (first | refine blk_drewN ?_ _ | refine blk_drew ?_ | refine blk_alloc ?_ _)); refine blk_put (cs := #[.slice none 0 0, .int .i64 0, .int .i64 0, .slice none 0 0]) ?_ 2 _ rfl; (with_reducible repeat (first | refine blk_drewN ?_ _ | refine blk_drew ?_ | refine blk_alloc ?_ _)); refine blk_put (cs := #[.slice none 0 0, .int .i64 0, .int .i64 0, .slice none 0 0]) ?_ 1 _ rfl; (with_reducible repeat (first | refine blk_drewN ?_ _ | refine blk_drew ?_ | refine blk_alloc ?_ _)); refine blk_put (cs := #[.slice none 0 0, .int .i64 0, .int .i64 0, .slice none 0 0]) ?_ 0 _ rfl; (with_reducible repeat (first | refine blk_drewN ?_ _ | refine blk_drew ?_ | refine blk_alloc ?_ _)); exact BK101.out) Try.underlying33 rfl (by kernel_rfl)) rfl ?_
                            exact ⟨_, _, by first | rfl | (simp [errW_none, errW_some] <;> rfl) | (simp [*, errW_none, errW_some] <;> rfl), by first | exact Kd.R_nil _ _ _ _ _ | exact Kd.N_nil _ _ _ _ _ | exact Kd.V_nil _ _ _ _ _ | exact Kd.Q_nil _ _ _ _ _ | exact Kd.S_nil _ _ _ _ _, by first | exact Kd.R_nil _ _ _ _ _ | exact Kd.N_nil _ _ _ _ _ | exact Kd.V_nil _ _ _ _ _ | exact Kd.Q_nil _ _ _ _ _ | exact Kd.S_nil _ _ _ _ _, by repeat (first | (with_reducible first | exact HB.out | apply below_alloc | apply pw_below_drewN | apply below_drew1 | refine below_set ?_ GE101.out | refine below_set ?_ GE110.out) | exact HB.out)⟩

end Go.Proofs.Ytnbaojaocagjcaa.P
end
section
-- Written for this claim by gp.py over the kit's print; not trusted: Lean checks it.











namespace Go.Proofs.Ytnbaojaocagjcaa.P
open Go.RowKit Go.Proofs.YtnbaojaocagjcaaW.PrintWords Go.Proofs.YtnbaojaocagjcaaW.PrintLast Go.Proofs.YtnbaojaocagjcaaW.PrintMore
set_option linter.unusedVariables false
set_option linter.unusedSimpArgs false

set_option maxHeartbeats 8000000 in
set_option maxRecDepth 100000 in
theorem be64_any (g o n c : Nat) (b0 b1 b2 b3 b4 b5 b6 b7 : UInt8) (w : World) (hn : 8 ≤ n)
    (c0 : w.cell? ⟨g, o, none⟩ = some (.int .u8 b0.toNat)) (c1 : w.cell? ⟨g, o + 1, none⟩ = some (.int .u8 b1.toNat)) (c2 : w.cell? ⟨g, o + 2, none⟩ = some (.int .u8 b2.toNat)) (c3 : w.cell? ⟨g, o + 3, none⟩ = some (.int .u8 b3.toNat)) (c4 : w.cell? ⟨g, o + 4, none⟩ = some (.int .u8 b4.toNat)) (c5 : w.cell? ⟨g, o + 5, none⟩ = some (.int .u8 b5.toNat)) (c6 : w.cell? ⟨g, o + 6, none⟩ = some (.int .u8 b6.toNat)) (c7 : w.cell? ⟨g, o + 7, none⟩ = some (.int .u8 b7.toNat)) :
    Calls Try.prog 73 #[.agg #[], .slice (some ⟨g, o, none⟩) n c] w fun e w' => e = .returned (.int .u64 (Lib.beNat [b0, b1, b2, b3, b4, b5, b6, b7])) ∧ Below w.heap.size w w' := by
  have d0 := cell?_alloc_old (.cells #[] 93) c0
  have h0 : b0.toNat < 256 := b0.toNat_lt
  have d1 := cell?_alloc_old (.cells #[] 93) c1
  have h1 : b1.toNat < 256 := b1.toNat_lt
  have d2 := cell?_alloc_old (.cells #[] 93) c2
  have h2 : b2.toNat < 256 := b2.toNat_lt
  have d3 := cell?_alloc_old (.cells #[] 93) c3
  have h3 : b3.toNat < 256 := b3.toNat_lt
  have d4 := cell?_alloc_old (.cells #[] 93) c4
  have h4 : b4.toNat < 256 := b4.toNat_lt
  have d5 := cell?_alloc_old (.cells #[] 93) c5
  have h5 : b5.toNat < 256 := b5.toNat_lt
  have d6 := cell?_alloc_old (.cells #[] 93) c6
  have h6 : b6.toNat < 256 := b6.toNat_lt
  have d7 := cell?_alloc_old (.cells #[] 93) c7
  have h7 : b7.toNat < 256 := b7.toNat_lt
  have hv : ((Lib.beNat [b0, b1, b2, b3, b4, b5, b6, b7] : Nat) : Int) = (b7.toNat : Int) + (b6.toNat : Int) * 256 + (b5.toNat : Int) * 65536 + (b4.toNat : Int) * 16777216 + (b3.toNat : Int) * 4294967296 + (b2.toNat : Int) * 1099511627776 + (b1.toNat : Int) * 281474976710656 + (b0.toNat : Int) * 72057594037927936 := by
    simp only [Lib.beNat, Lib.beFrom]
    push_cast
    omega
  have q0 : 0 < n := by omega
  have q1 : (1 : Int) < (n : Int) := by omega
  have q2 : (2 : Int) < (n : Int) := by omega
  have q3 : (3 : Int) < (n : Int) := by omega
  have q4 : (4 : Int) < (n : Int) := by omega
  have q5 : (5 : Int) < (n : Int) := by omega
  have q6 : (6 : Int) < (n : Int) := by omega
  have q7 : (7 : Int) < (n : Int) := by omega
  go_enter Try.func73, Try.ntmps73
  go_wp2
  go_quiet (fail)
  go_wp2
  go_ret
  refine ⟨?_, ((Below.refl _ w).alloc (Nat.le_refl _) _).trans ⟨rfl, rfl, rfl, Nat.le_refl _, fun _ _ => rfl⟩⟩
  simp (disch := omega) only [u64_wrap_id, u64_or8, u64_or16, u64_or24, u64_or32, u64_or40, u64_or48, u64_or56]
  rw [hv]
  rfl
/-- The number at o of a text, or -1. -/
def byteAt (s : ByteArray) (j : Nat) : UInt8 := s.data.toList.getD j 0
def getV (s : ByteArray) (o : Nat) : Int := if s.size - o < 8 then -1 else wrap64 (Lib.beNat [byteAt s o, byteAt s (o + 1), byteAt s (o + 2), byteAt s (o + 3), byteAt s (o + 4), byteAt s (o + 5), byteAt s (o + 6), byteAt s (o + 7)])
def getO (s : ByteArray) (o : Nat) : Nat := if s.size - o < 8 then o else o + 8
/-- What the reader holds: the cell p, the bytes in g. -/
def GS (W : World) (p g : Nat) (s : ByteArray) (o : Nat) : Prop :=
  o ≤ s.size ∧ g ≠ p ∧ g < W.heap.size ∧ (∃ q c, (q = o ∨ s.size ≤ o) ∧ s.size - o ≤ c ∧ W.heap[p]? = some (.cells #[.slice (some ⟨g, q, none⟩) (s.size - o) c] 71 (0, 0))) ∧ ∀ j, j < s.size → W.cell? ⟨g, j, none⟩ = some (.int .u8 (byteAt s j).toNat)
theorem gs_kept {W w1 : World} {p : Nat} (hb : Below W.heap.size W w1) (u : Value) : Kept W (w1.setCell ⟨p, 0, none⟩ u) (fun k => k = p) := Kept.setCell (S := fun k => k = p) (p := ⟨p, 0, none⟩) (Kept.of_below hb _) (Or.inl rfl) u
theorem gs_below {W w1 : World} {p : Nat} (hb : Below W.heap.size W w1) (hp : p ≤ W.heap.size) (u : Value) : Below p W (w1.setCell ⟨p, 0, none⟩ u) := (hb.mono hp).setCell (Nat.le_refl _) u
theorem gs_set (W w1 : World) {p g o q c' : Nat} {A : Value} {s : ByteArray} (ho : o + 8 ≤ s.size) (hgp : g ≠ p) (hgl : g < W.heap.size) (hb : Below W.heap.size W w1) (hP1 : w1.heap[p]? = some (.cells #[A] 71 (0, 0))) (hq : q = o + 8 ∨ s.size ≤ o + 8) (hc : s.size - o - 8 ≤ c')
    (hcs : ∀ j, j < s.size → W.cell? ⟨g, j, none⟩ = some (.int .u8 (byteAt s j).toNat)) : GS (w1.setCell ⟨p, 0, none⟩ (.slice (some ⟨g, q, none⟩) (s.size - o - 8) c')) p g s (o + 8) := by
  have hz := hb.size
  refine ⟨ho, hgp, by simp; omega, ⟨q, c', hq, by omega, ?_⟩, fun j hj => cell_kept (hcs j hj) (gs_kept hb _) hgp⟩
  rw [← Nat.sub_sub]
  exact blk_set hP1 0 _
set_option maxHeartbeats 1000000 in
set_option maxRecDepth 100000 in
theorem get_any (p g o : Nat) (s : ByteArray) (hs : s.size ≤ 9223372036854775807) (W : World) (h : GS W p g s o) :
    Calls Try.prog 72 #[.pointer (some ⟨p, 0, none⟩)] W fun e w' => e = .returned (.int .i64 (getV s o)) ∧ GS w' p g s (getO s o) ∧ Kept W w' (fun k => k = p) ∧ Below p W w' := by
  obtain ⟨ho, hgp, hgl, ⟨q, c, hq, hc, hP⟩, hb⟩ := h
  have hp0 := (blk_cell hP 0).trans rfl
  have hpf := blk_frozen hP 0
  unfold getV getO
  by_cases hlt : s.size - o < 8
  · rw [if_pos hlt, if_pos hlt]
    have hlz : ((s.size - o : Nat) : Int) < 8 := by omega
    go_enter Try.func72, Try.ntmps72
    go_wp2
    go_ret
    exact ⟨rfl, ⟨ho, hgp, hgl, ⟨q, c, hq, hc, hP⟩, hb⟩, Kept.refl W _, Below.refl p W⟩
  · rw [if_neg hlt, if_neg hlt]
    have hlz : ¬ ((s.size - o : Nat) : Int) < 8 := by omega
    have hqo : q = o := hq.elim id (fun h => by omega)
    rw [hqo] at hP
    have hp0 := (blk_cell hP 0).trans rfl
    have hl8 : (8 : Int) ≤ ((s.size - o : Nat) : Int) := by omega
    have HC := Aside0.mk (be64_any g o (s.size - o) c (byteAt s o) (byteAt s (o + 1)) (byteAt s (o + 2)) (byteAt s (o + 3)) (byteAt s (o + 4)) (byteAt s (o + 5)) (byteAt s (o + 6)) (byteAt s (o + 7)) W (by omega) (hb o (by omega)) (hb (o + 1) (by omega)) (hb (o + 2) (by omega)) (hb (o + 3) (by omega)) (hb (o + 4) (by omega)) (hb (o + 5) (by omega)) (hb (o + 6) (by omega)) (hb (o + 7) (by omega)))
    go_enter Try.func72, Try.ntmps72
    go_wp2_with (first | (go_at_call 73; (with_reducible refine HC.out.mono ?_); rintro e w1 ⟨rfl, hb1⟩; have HB1 := Aside0.mk hb1; have hP1 := (hb1.block p (blk_lt hP)).trans hP; have hp1 := (blk_cell hP1 0).trans rfl; have hpf1 := blk_frozen hP1 0; clear hb1))
    all_goals
      go_ret
      first
        | exact ⟨rfl, gs_set W w1 (by omega) hgp hgl HB1.out hP1 (Or.inl rfl) (by omega) hb, gs_kept HB1.out _, gs_below HB1.out (Nat.le_of_lt (blk_lt hP)) _⟩
        | exact ⟨rfl, gs_set W w1 (by omega) hgp hgl HB1.out hP1 (Or.inr (by omega)) (by omega) hb, gs_kept HB1.out _, gs_below HB1.out (Nat.le_of_lt (blk_lt hP)) _⟩

end Go.Proofs.Ytnbaojaocagjcaa.P
end
section
-- Written for this claim by gp.py over the kit's print; not trusted: Lean checks it.


namespace Go.Proofs.Ytnbaojaocagjcaa.P
open Go.RowKit Go.Proofs.YtnbaojaocagjcaaW.PrintWords Go.Proofs.YtnbaojaocagjcaaW.PrintLast Go.Proofs.YtnbaojaocagjcaaW.PrintMore
set_option linter.unusedVariables false
set_option linter.unusedSimpArgs false

theorem bcell {W w1 : World} (hb : Below W.heap.size W w1) : (∀ b o, b < W.heap.size → w1.cell? ⟨b, o, none⟩ = W.cell? ⟨b, o, none⟩) ∧ (∀ b o, b < W.heap.size → w1.frozen? ⟨b, o, none⟩ = W.frozen? ⟨b, o, none⟩) :=
  ⟨fun b o h => hb.cell (p := ⟨b, o, none⟩) h, fun b o h => hb.frozen (p := ⟨b, o, none⟩) h⟩
theorem any_take_succ {α : Type} {l : List α} {p : α → Bool} {k : Nat} {d : α} (hk : k < l.length) (h : (l.take k).any p = false) (hx : p (l.getD k d) = false) : (l.take (k + 1)).any p = false := by
  rw [List.take_succ_eq_append_getElem hk, List.any_append, h]
  simpa [List.getD_eq_getElem?_getD, List.getElem?_eq_getElem hk] using hx
theorem any_hit {α : Type} {l : List α} {p : α → Bool} {k : Nat} {d : α} (hk : k < l.length) (hx : p (l.getD k d) = true) : l.any p = true := by
  rw [List.any_eq_true]
  exact ⟨l[k], List.getElem_mem hk, by simpa [List.getD_eq_getElem?_getD, List.getElem?_eq_getElem hk] using hx⟩

end Go.Proofs.Ytnbaojaocagjcaa.P
end
section
-- Written for this claim by gp.py over the kit's print; not trusted: Lean checks it.



namespace Go.Proofs.Ytnbaojaocagjcaa.P
open Go.RowKit Go.Proofs.YtnbaojaocagjcaaW.PrintWords Go.Proofs.YtnbaojaocagjcaaW.PrintLast Go.Proofs.YtnbaojaocagjcaaW.PrintMore
set_option linter.unusedVariables false
set_option linter.unusedSimpArgs false

set_option maxHeartbeats 4000000 in
set_option maxRecDepth 100000 in
/-- slices.IndexFunc at impl.Word: where the predicate holds first; below 0: nowhere. -/
theorem idxFunc_Word (g : Nat) (lb : Array Value) (p : S59 → Bool) (eg : ∀ args w, (callFunc g args).run Try.prog w = .ok (.enter g args) w) (A0 : Option Addr) (c0 : Nat) (l0 : List S59) (w : World) (hr0 : Kd.C k59 w A0 l0.length l0) (hc0 : l0.length ≤ c0)
    (hp : ∀ (W : World) (x : S59), Below w.heap.size w W → Calls Try.prog g (#[(.agg #[.int .i64 x.f0, .int .i64 x.f1, .int .i64 x.f2, .int .i64 x.f3, .int .i64 x.f4])] ++ lb) W fun e w' => e = .returned (.bool (p x)) ∧ Below W.heap.size W w') :
    Calls Try.prog 80 #[.slice A0 l0.length c0, .func (.func g) #[] lb] w fun e w' => (∃ i : Int, e = .returned (.int .i64 i) ∧ decide (0 ≤ i) = l0.any p) ∧ Below w.heap.size w w' := by
  have hmx := hr0.2.1
  have HR0 := Aside0.mk hr0
  have HC0 := Aside0.mk hc0
  have HP := Aside0.mk hp
  clear hr0 hc0 hp
  go_enter Try.func80, Try.ntmps80
  go_wp2
  go_loopg [5, 8] l0.length (fun gg _ s8 wr => ∃ kk : Nat, kk ≤ l0.length ∧ l0.length - kk ≤ gg ∧ s8 = .int .i64 kk ∧ Aside0 (Below w.heap.size w wr) ∧ Aside0 ((l0.take kk).any p = false))
  case atStart => exact ⟨0, Nat.zero_le _, by omega, rfl, ⟨Below.refl _ w⟩, ⟨by simp⟩⟩
  case round =>
    (try clear BW)
    (try clear HA)
    obtain ⟨kk, hkk, hg, rfl, BW, HA⟩ := hrel
    by_cases hlt : kk < l0.length
    · have p1 : 0 ≤ (kk : Int) := by omega
      have q1 : (kk : Int) < (l0.length : Int) := by omega
      obtain ⟨ad, e1, hx0, hx1, hx2, hx3, hx4⟩ := at_T59 HR0.out (kk : Int) p1 q1
      cases e1
      simp only [Int.toNat_natCast] at hx0 hx1 hx2 hx3 hx4
      replace hx0 := (BW.out.cell (World.block_lt_of_cell? w _ hx0)).trans hx0
      replace hx1 := (BW.out.cell (World.block_lt_of_cell? w _ hx1)).trans hx1
      replace hx2 := (BW.out.cell (World.block_lt_of_cell? w _ hx2)).trans hx2
      replace hx3 := (BW.out.cell (World.block_lt_of_cell? w _ hx3)).trans hx3
      replace hx4 := (BW.out.cell (World.block_lt_of_cell? w _ hx4)).trans hx4
      have hcall := HP.out wr (rd_T59 l0 (kk : Int)) BW.out
      cases hq : p (rd_T59 l0 (kk : Int)) with
      | true =>
        rw [hq] at hcall
        go_wp2_with (go_at_fn g; refine hcall.mono ?_; rintro e w1 ⟨rfl, hb1⟩)
        go_ret
        exact ⟨⟨_, rfl, by rw [any_hit (d := z59) hlt hq]; simp⟩, BW.out.trans (hb1.mono BW.out.size)⟩
      | false =>
        rw [hq] at hcall
        go_wp2_with (go_at_fn g; refine hcall.mono ?_; rintro e w1 ⟨rfl, hb1⟩)
        go_roundg (l0.length - (kk + 1))
        case measure => omega
        case rel => exact ⟨kk + 1, by omega, by omega, by go_num, ⟨BW.out.trans (hb1.mono BW.out.size)⟩, ⟨any_take_succ (d := z59) hlt HA.out hq⟩⟩
    · have hltz : ¬ (kk : Int) < (l0.length : Int) := by omega
      have he : kk = l0.length := by omega
      subst he
      go_wp2
      go_ret
      exact ⟨⟨_, rfl, by have h_ := HA.out; rw [List.take_length] at h_; rw [h_]; simp⟩, BW.out⟩
set_option maxHeartbeats 4000000 in
/-- slices.ContainsFunc at impl.Word. -/
theorem containsFunc_Word (g : Nat) (lb : Array Value) (p : S59 → Bool) (eg : ∀ args w, (callFunc g args).run Try.prog w = .ok (.enter g args) w) (A0 : Option Addr) (c0 : Nat) (l0 : List S59) (w : World) (hr0 : Kd.C k59 w A0 l0.length l0) (hc0 : l0.length ≤ c0)
    (hp : ∀ (W : World) (x : S59), Below w.heap.size w W → Calls Try.prog g (#[(.agg #[.int .i64 x.f0, .int .i64 x.f1, .int .i64 x.f2, .int .i64 x.f3, .int .i64 x.f4])] ++ lb) W fun e w' => e = .returned (.bool (p x)) ∧ Below W.heap.size W w') :
    Calls Try.prog 67 #[.slice A0 l0.length c0, .func (.func g) #[] lb] w fun e w' => e = .returned (.bool (l0.any p)) ∧ Below w.heap.size w w' := by
  have HI := Aside0.mk (idxFunc_Word g lb p eg A0 c0 l0 w hr0 hc0 hp)
  clear hr0 hc0 hp
  go_enter Try.func67, Try.ntmps67
  go_wp2_with (go_at_call 80; refine HI.out.mono ?_; rintro e w1 ⟨⟨i, rfl, hi⟩, hb1⟩; have HD := Aside0.mk hi; clear hi)
  go_ret
  exact ⟨by rw [← HD.out]; first | rfl | simp, hb1⟩

end Go.Proofs.Ytnbaojaocagjcaa.P
end
section
-- Written for this claim by gp.py over the kit's print; not trusted: Lean checks it.

namespace Go.Proofs.Ytnbaojaocagjcaa.P
open Go.RowKit Go.Proofs.YtnbaojaocagjcaaW.PrintWords Go.Proofs.YtnbaojaocagjcaaW.PrintLast Go.Proofs.YtnbaojaocagjcaaW.PrintMore
attribute [local go_sem] max2_int min2_int max_two min_two max_three min_three max_four min_four
set_option linter.unusedVariables false
set_option linter.unusedSimpArgs false

/-! ### impl_in: function 66 -/
def impl_in.f (a0 : Int) (a1 : Int) (a2 : Int) : Option (Bool) := if a0 ≥ a1 then (some (decide (a0 ≤ a2))) else (some false)
set_option maxHeartbeats 8000000 in
set_option maxRecDepth 100000 in
theorem impl_in.calls (a0 : Int) (a1 : Int) (a2 : Int) (r : Bool) (w : World) (h : impl_in.f a0 a1 a2 = some r) :
    Calls Try.prog 66 #[.int .i64 a0, .int .i64 a1, .int .i64 a2] w fun e w' => e = .returned (.bool r) ∧ Drawn0 w w' := by
  have H : (if a0 ≥ a1 then (some (decide (a0 ≤ a2))) else (some false)) = some r := h
  clear h
  by_cases c4 : a0 ≥ a1
  · rw [if_pos c4] at H
    have c4b0 : decide (a1 ≤ a0) = true := decide_eq_true c4
    clear c4
    obtain rfl := Option.some.inj H
    go_enter Try.func66, Try.ntmps66
    go_wp2
    go_ret
    exact ⟨by first | rfl | (simp; done) | (simp [*]; done), by repeat (first | exact Drawn0.refl _ | apply Drawn0.step)⟩
  · rw [if_neg c4] at H
    have c4b0 : decide (a1 ≤ a0) = false := decide_eq_false c4
    clear c4
    obtain rfl := Option.some.inj H
    go_enter Try.func66, Try.ntmps66
    go_wp2
    go_ret
    exact ⟨by first | rfl | (simp; done) | (simp [*]; done), by repeat (first | exact Drawn0.refl _ | apply Drawn0.step)⟩

end Go.Proofs.Ytnbaojaocagjcaa.P
end
section
-- Written for this claim by gp.py over the kit's print; not trusted: Lean checks it.



namespace Go.Proofs.Ytnbaojaocagjcaa.P
open Go.RowKit Go.Proofs.YtnbaojaocagjcaaW.PrintWords Go.Proofs.YtnbaojaocagjcaaW.PrintLast Go.Proofs.YtnbaojaocagjcaaW.PrintMore
set_option linter.unusedVariables false
set_option linter.unusedSimpArgs false

set_option maxHeartbeats 4000000 in
set_option maxRecDepth 100000 in
/-- slices.IndexFunc at int: where the predicate holds first; below 0: nowhere. -/
theorem idxFunc_int (g : Nat) (lb : Array Value) (p : Int → Bool) (eg : ∀ args w, (callFunc g args).run Try.prog w = .ok (.enter g args) w) (A0 : Option Addr) (c0 : Nat) (l0 : List Int) (w : World) (hr0 : Kd.C (Kd.int .i64) w A0 l0.length l0) (hc0 : l0.length ≤ c0)
    (hp : ∀ (W : World) (x : Int), Below w.heap.size w W → Calls Try.prog g (#[(.int .i64 x)] ++ lb) W fun e w' => e = .returned (.bool (p x)) ∧ Below W.heap.size W w') :
    Calls Try.prog 85 #[.slice A0 l0.length c0, .func (.func g) #[] lb] w fun e w' => (∃ i : Int, e = .returned (.int .i64 i) ∧ decide (0 ≤ i) = l0.any p) ∧ Below w.heap.size w w' := by
  have hmx := hr0.2.1
  have HR0 := Aside0.mk hr0
  have HC0 := Aside0.mk hc0
  have HP := Aside0.mk hp
  clear hr0 hc0 hp
  go_enter Try.func85, Try.ntmps85
  go_wp2
  go_loopg [5, 8] l0.length (fun gg _ s8 wr => ∃ kk : Nat, kk ≤ l0.length ∧ l0.length - kk ≤ gg ∧ s8 = .int .i64 kk ∧ Aside0 (Below w.heap.size w wr) ∧ Aside0 ((l0.take kk).any p = false))
  case atStart => exact ⟨0, Nat.zero_le _, by omega, rfl, ⟨Below.refl _ w⟩, ⟨by simp⟩⟩
  case round =>
    (try clear BW)
    (try clear HA)
    obtain ⟨kk, hkk, hg, rfl, BW, HA⟩ := hrel
    by_cases hlt : kk < l0.length
    · have p1 : 0 ≤ (kk : Int) := by omega
      have q1 : (kk : Int) < (l0.length : Int) := by omega
      obtain ⟨ad, e1, hx0⟩ := Kd.at_int HR0.out (kk : Int) p1 q1
      cases e1
      simp only [Int.toNat_natCast] at hx0
      replace hx0 := (BW.out.cell (World.block_lt_of_cell? w _ hx0)).trans hx0
      have hcall := HP.out wr (rd l0 (kk : Int)) BW.out
      cases hq : p (rd l0 (kk : Int)) with
      | true =>
        rw [hq] at hcall
        go_wp2_with (go_at_fn g; refine hcall.mono ?_; rintro e w1 ⟨rfl, hb1⟩)
        go_ret
        exact ⟨⟨_, rfl, by rw [any_hit (d := 0) hlt hq]; simp⟩, BW.out.trans (hb1.mono BW.out.size)⟩
      | false =>
        rw [hq] at hcall
        go_wp2_with (go_at_fn g; refine hcall.mono ?_; rintro e w1 ⟨rfl, hb1⟩)
        go_roundg (l0.length - (kk + 1))
        case measure => omega
        case rel => exact ⟨kk + 1, by omega, by omega, by go_num, ⟨BW.out.trans (hb1.mono BW.out.size)⟩, ⟨any_take_succ (d := 0) hlt HA.out hq⟩⟩
    · have hltz : ¬ (kk : Int) < (l0.length : Int) := by omega
      have he : kk = l0.length := by omega
      subst he
      go_wp2
      go_ret
      exact ⟨⟨_, rfl, by have h_ := HA.out; rw [List.take_length] at h_; rw [h_]; simp⟩, BW.out⟩
set_option maxHeartbeats 4000000 in
/-- slices.ContainsFunc at int. -/
theorem containsFunc_int (g : Nat) (lb : Array Value) (p : Int → Bool) (eg : ∀ args w, (callFunc g args).run Try.prog w = .ok (.enter g args) w) (A0 : Option Addr) (c0 : Nat) (l0 : List Int) (w : World) (hr0 : Kd.C (Kd.int .i64) w A0 l0.length l0) (hc0 : l0.length ≤ c0)
    (hp : ∀ (W : World) (x : Int), Below w.heap.size w W → Calls Try.prog g (#[(.int .i64 x)] ++ lb) W fun e w' => e = .returned (.bool (p x)) ∧ Below W.heap.size W w') :
    Calls Try.prog 77 #[.slice A0 l0.length c0, .func (.func g) #[] lb] w fun e w' => e = .returned (.bool (l0.any p)) ∧ Below w.heap.size w w' := by
  have HI := Aside0.mk (idxFunc_int g lb p eg A0 c0 l0 w hr0 hc0 hp)
  clear hr0 hc0 hp
  go_enter Try.func77, Try.ntmps77
  go_wp2_with (go_at_call 85; refine HI.out.mono ?_; rintro e w1 ⟨⟨i, rfl, hi⟩, hb1⟩; have HD := Aside0.mk hi; clear hi)
  go_ret
  exact ⟨by rw [← HD.out]; first | rfl | simp, hb1⟩

end Go.Proofs.Ytnbaojaocagjcaa.P
end
section
-- Written for this claim by gp.py over the kit's print; not trusted: Lean checks it.






namespace Go.Proofs.Ytnbaojaocagjcaa.P
open Go.RowKit Go.Proofs.YtnbaojaocagjcaaW.PrintWords Go.Proofs.YtnbaojaocagjcaaW.PrintLast Go.Proofs.YtnbaojaocagjcaaW.PrintMore
set_option linter.unusedVariables false
set_option linter.unusedSimpArgs false

/-- Whether a lies in b .. c. -/
def inB (a b c : Int) : Bool := decide (b ≤ a) && decide (a ≤ c)
theorem in_any (a b c : Int) (w : World) : Calls Try.prog 66 #[.int .i64 a, .int .i64 b, .int .i64 c] w fun e w' => e = .returned (.bool (inB a b c)) ∧ Drawn0 w w' :=
  impl_in.calls a b c (inB a b c) w (by
    unfold impl_in.f inB
    by_cases h : a ≥ b
    · rw [if_pos h]
      have h' : b ≤ a := h
      simp [h']
    · rw [if_neg h]
      have h' : ¬ b ≤ a := h
      simp [h'])
/-- Whether sizes, params and vars are a program's. -/
def progOk (l : List Int) (p v : Int) : Bool := inB (l.length : Int) 1 4 && !(l.any fun n => !inB n 1 16) && inB p 0 (if v < 6 then v else 6) && decide (v ≤ 20)
set_option maxHeartbeats 1000000 in
theorem isProgram_1 (W : World) (x : Int) : Calls Try.prog 78 #[.int .i64 x] W fun e w' => e = .returned (.bool (!inB x 1 16)) ∧ Below W.heap.size W w' := by
  have HC := Aside0.mk (in_any x 1 16)
  generalize inB x 1 16 = b at HC ⊢
  go_enter Try.func78, Try.ntmps78
  go_wp2_with (go_at_call 66; refine (HC.out _).mono ?_; rintro e w1 ⟨rfl, hb1⟩; have HD := Aside0.mk hb1.below; clear hb1)
  go_ret
  exact ⟨rfl, HD.out⟩
set_option maxHeartbeats 2000000 in
set_option maxRecDepth 100000 in
theorem areStmts_nil (p0 p1 p2 p3 : Value) (A : Option Addr) (c : Nat) (w : World) :
    Calls Try.prog 79 #[.agg #[p0, p1, p2, p3], .slice A 0 c, .int .i64 0] w fun e w' => e = .returned (.bool true) ∧ Below w.heap.size w w' := by
  go_enter Try.func79, Try.ntmps79
  go_wp2
  go_loop [25] (fun i => i = .int .i64 0) (fun _ => 0)
  case atStart => exact rfl
  case round =>
    obtain rfl := hrel
    go_wp2
    go_ret
    exact ⟨rfl, below_alloc (below_alloc (Below.refl _ _) _) _⟩
set_option maxHeartbeats 400000 in
set_option maxRecDepth 100000 in
/-- isProgram where there is no statement: all that a graph or an image asks of it. -/
theorem isProgram_nil (A0 A3 : Option Addr) (c0 c3 : Nat) (l0 : List Int) (a1 a2 : Int) (w : World) (hr0 : Kd.C (Kd.int .i64) w A0 l0.length l0) (hc0 : l0.length ≤ c0) :
    Calls Try.prog 65 #[.agg #[.slice A0 l0.length c0, .int .i64 a1, .int .i64 a2, .slice A3 0 c3]] w fun e w' => e = .returned (.bool (progOk l0 a1 a2)) ∧ Below w.heap.size w w' := by
  have eg := enters_of Try.func78 (by kernel_rfl) rfl
  have hmx := hr0.2.1
  have HC1 := Aside0.mk (in_any (l0.length : Int) 1 4)
  have HC3 := Aside0.mk (in_any a1 0 (if a2 < 6 then a2 else 6))
  have HF := Aside0.mk (fun (W : World) (hb : Below w.heap.size w W) => containsFunc_int 78 #[] (fun n => !inB n 1 16) eg A0 c0 l0 W (Kd.C_below hr0 hb) hc0 (fun W x _ => isProgram_1 W x))
  clear hr0 hc0
  unfold progOk
  by_cases h6 : a2 < 6
  all_goals
    have hmin : min 6 a2 = if a2 < 6 then a2 else 6 := by split <;> omega
    first | rw [if_pos h6] at HC3 hmin ⊢ | rw [if_neg h6] at HC3 hmin ⊢
    cases hb1 : inB (l0.length : Int) 1 4 with
    | false =>
      go_enter Try.func65, Try.ntmps65
      go_wp2_with (first | (go_at_call 66; refine (in_any _ _ _ _).mono ?_; rintro e w1 ⟨rfl, ⟨n, rfl⟩⟩))
      go_ret
      exact ⟨rfl, pw_below_drewN (below_alloc (Below.refl _ _) _) _⟩
    | true =>
      cases hb2 : (l0.any fun n => !inB n 1 16) with
      | true =>
        rw [hb2] at HF
        go_enter Try.func65, Try.ntmps65
        go_wp2_with (first | (go_at_call 66; refine (in_any _ _ _ _).mono ?_; rintro e w1 ⟨rfl, ⟨n, rfl⟩⟩) | (go_at_call 77; refine (HF.out _ (pw_below_drewN (below_alloc (Below.refl _ _) _) _)).mono ?_; rintro e w1 ⟨rfl, hb⟩; have HB := Aside0.mk (below_step (pw_below_drewN (below_alloc (Below.refl _ _) _) _) hb); clear hb))
        go_ret
        exact ⟨rfl, HB.out⟩
      | false =>
        rw [hb2] at HF
        go_enter Try.func65, Try.ntmps65
        go_wp2_with (first | (go_at_call 66; (with_reducible refine (in_any _ _ _ _).mono ?_); rintro e w1 ⟨rfl, ⟨n, rfl⟩⟩) | (go_at_call 77; (with_reducible refine (HF.out _ (pw_below_drewN (below_alloc (Below.refl _ _) _) _)).mono ?_); rintro e w1 ⟨rfl, hb⟩; have HB := Aside0.mk (below_step (pw_below_drewN (below_alloc (Below.refl _ _) _) _) hb); obtain ⟨hc_, hf_⟩ := bcell hb; have hz_ := hb.size; simp at hz_; clear hb) | (go_at_call 79; (with_reducible refine (areStmts_nil _ _ _ _ _ _ _).mono ?_); rintro e w2 ⟨rfl, hb⟩; have HB2 := Aside0.mk (below_step (pw_below_drewN HB.out _) hb); clear hb))
        all_goals
          go_ret
          first
            | exact ⟨by simp [*], HB2.out⟩
            | exact ⟨by simp [*], pw_below_drewN HB.out _⟩
def impl_isProgram.f (l0_0 : List Int) (a0_1 : Int) (a0_2 : Int) (l0_3 : List (S116)) : Option Bool := if l0_3.length = 0 then some (progOk l0_0 a0_1 a0_2) else none
theorem impl_isProgram.calls (A0_0 : Option Addr) (c0_0 : Nat) (l0_0 : List Int) (a0_1 : Int) (a0_2 : Int) (A0_3 : Option Addr) (c0_3 : Nat) (l0_3 : List (S116)) (r : Bool) (w : World) (hr0_0 : Kd.C (Kd.int .i64) w A0_0 l0_0.length l0_0) (hc0_0 : l0_0.length ≤ c0_0) (hr0_3 : Kd.C k116 w A0_3 l0_3.length l0_3) (hc0_3 : l0_3.length ≤ c0_3) (h : impl_isProgram.f l0_0 a0_1 a0_2 l0_3 = some r) :
    Calls Try.prog 65 #[.agg #[.slice A0_0 l0_0.length c0_0, .int .i64 a0_1, .int .i64 a0_2, .slice A0_3 l0_3.length c0_3]] w fun e w' => e = .returned (.bool r) ∧ Below w.heap.size w w' := by
  unfold impl_isProgram.f at h
  split at h
  · rename_i h0
    injection h with h
    subst h
    rw [h0]
    exact isProgram_nil A0_0 A0_3 c0_0 c0_3 l0_0 a0_1 a0_2 w hr0_0 hc0_0
  · cases h

end Go.Proofs.Ytnbaojaocagjcaa.P
end
section
-- Written for this claim by gp.py over the kit's print; not trusted: Lean checks it.




namespace Go.Proofs.Ytnbaojaocagjcaa.P
open Go.RowKit Go.Proofs.YtnbaojaocagjcaaW.PrintWords Go.Proofs.YtnbaojaocagjcaaW.PrintLast Go.Proofs.YtnbaojaocagjcaaW.PrintMore
set_option linter.unusedVariables false
set_option linter.unusedSimpArgs false

def regOk (n : Int) (has : Bool) : Bool := inB n 0 15 && (has || n == 0)
def wordFin (v most r : Int) (hr : Bool) (a : Int) (ha : Bool) (b : Int) (hb : Bool) : Bool := inB v 0 most && regOk r hr && regOk a ha && regOk b hb
/-- Whether a word is one of an image with so many sizes, slots and words. -/
def wordIs (ns : Int) (slots : Int) (nc : Int) (o r a b v : Int) : Bool :=
  if o = 0 then wordFin 0 0 r true a false b false
  else if o = 1 then wordFin v (wrap64 (slots - 1)) r true a false b false
  else if o = 2 then wordFin v (wrap64 (slots - 1)) r true a false b false
  else if o = 3 then wordFin v 5 r true a true b true
  else if o = 4 then wordFin v (ns - 1) r true a true b false
  else if o = 5 then wordFin v (ns - 1) r true a true b false
  else if o = 6 then wordFin v 0 r true a false b false
  else if o = 7 then wordFin v 0 r true a false b false
  else if o = 8 then wordFin v (nc - 1) r false a false b false
  else if o = 9 then wordFin v (nc - 1) r true a false b false
  else if o = 10 then wordFin v 0 r true a false b false
  else if o = 11 then wordFin v 0 r true a true b false
  else false
set_option maxHeartbeats 400000 in
theorem reg_any (n : Int) (has : Bool) (w : World) : Calls Try.prog 81 #[.int .i64 n, .bool has] w fun e w' => e = .returned (.bool (regOk n has)) ∧ Drawn0 w w' := by
  unfold regOk
  cases has <;> cases h2 : (n == 0)
  all_goals
    go_enter Try.func81, Try.ntmps81
    go_wp2_with (first | (go_at_call 66; (with_reducible refine (in_any _ _ _ _).mono ?_); rintro e w1 ⟨rfl, ⟨m, rfl⟩⟩))
    all_goals
      go_ret
      first
        | exact ⟨by simp [*], ⟨⟨m, rfl⟩⟩⟩

set_option maxHeartbeats 1000000 in
theorem isWordOf_0 (A0 A3 : Option Addr) (c0 c3 n0 n3 : Nat) (p1 slots r a b v : Int) (w : World) (hn0 : n0 ≤ 9223372036854775807) (hn3 : n3 ≤ 9223372036854775807) :
    Calls Try.prog 69 #[.agg #[.slice A0 n0 c0, .int .i64 p1, .int .i64 slots, .slice A3 n3 c3], .agg #[.int .i64 0, .int .i64 r, .int .i64 a, .int .i64 b, .int .i64 v]] w fun e w' => e = .returned (.bool (wordFin 0 0 r true a false b false)) ∧ Below w.heap.size w w' := by
  go_enter Try.func69, Try.ntmps69
  go_wp2_with (first | (go_at_call 66; (with_reducible refine (in_any _ _ _ _).mono ?_); rintro e w1 ⟨rfl, ⟨n, rfl⟩⟩) | (go_at_call 81; (with_reducible refine (reg_any _ _ _).mono ?_); rintro e w1 ⟨rfl, ⟨n, rfl⟩⟩))
  all_goals
    go_ret
    exact ⟨by simp [wordFin, *], by repeat (first | exact Below.refl _ _ | apply pw_below_drewN | apply below_alloc)⟩
set_option maxHeartbeats 1000000 in
theorem isWordOf_1 (A0 A3 : Option Addr) (c0 c3 n0 n3 : Nat) (p1 slots r a b v : Int) (w : World) (hn0 : n0 ≤ 9223372036854775807) (hn3 : n3 ≤ 9223372036854775807) :
    Calls Try.prog 69 #[.agg #[.slice A0 n0 c0, .int .i64 p1, .int .i64 slots, .slice A3 n3 c3], .agg #[.int .i64 1, .int .i64 r, .int .i64 a, .int .i64 b, .int .i64 v]] w fun e w' => e = .returned (.bool (wordFin v (wrap64 (slots - 1)) r true a false b false)) ∧ Below w.heap.size w w' := by
  go_enter Try.func69, Try.ntmps69
  go_wp2_with (first | (go_at_call 66; (with_reducible refine (in_any _ _ _ _).mono ?_); rintro e w1 ⟨rfl, ⟨n, rfl⟩⟩) | (go_at_call 81; (with_reducible refine (reg_any _ _ _).mono ?_); rintro e w1 ⟨rfl, ⟨n, rfl⟩⟩))
  all_goals
    go_ret
    exact ⟨by simp [wordFin, *], by repeat (first | exact Below.refl _ _ | apply pw_below_drewN | apply below_alloc)⟩
set_option maxHeartbeats 1000000 in
theorem isWordOf_2 (A0 A3 : Option Addr) (c0 c3 n0 n3 : Nat) (p1 slots r a b v : Int) (w : World) (hn0 : n0 ≤ 9223372036854775807) (hn3 : n3 ≤ 9223372036854775807) :
    Calls Try.prog 69 #[.agg #[.slice A0 n0 c0, .int .i64 p1, .int .i64 slots, .slice A3 n3 c3], .agg #[.int .i64 2, .int .i64 r, .int .i64 a, .int .i64 b, .int .i64 v]] w fun e w' => e = .returned (.bool (wordFin v (wrap64 (slots - 1)) r true a false b false)) ∧ Below w.heap.size w w' := by
  go_enter Try.func69, Try.ntmps69
  go_wp2_with (first | (go_at_call 66; (with_reducible refine (in_any _ _ _ _).mono ?_); rintro e w1 ⟨rfl, ⟨n, rfl⟩⟩) | (go_at_call 81; (with_reducible refine (reg_any _ _ _).mono ?_); rintro e w1 ⟨rfl, ⟨n, rfl⟩⟩))
  all_goals
    go_ret
    exact ⟨by simp [wordFin, *], by repeat (first | exact Below.refl _ _ | apply pw_below_drewN | apply below_alloc)⟩
set_option maxHeartbeats 1000000 in
theorem isWordOf_3 (A0 A3 : Option Addr) (c0 c3 n0 n3 : Nat) (p1 slots r a b v : Int) (w : World) (hn0 : n0 ≤ 9223372036854775807) (hn3 : n3 ≤ 9223372036854775807) :
    Calls Try.prog 69 #[.agg #[.slice A0 n0 c0, .int .i64 p1, .int .i64 slots, .slice A3 n3 c3], .agg #[.int .i64 3, .int .i64 r, .int .i64 a, .int .i64 b, .int .i64 v]] w fun e w' => e = .returned (.bool (wordFin v 5 r true a true b true)) ∧ Below w.heap.size w w' := by
  go_enter Try.func69, Try.ntmps69
  go_wp2_with (first | (go_at_call 66; (with_reducible refine (in_any _ _ _ _).mono ?_); rintro e w1 ⟨rfl, ⟨n, rfl⟩⟩) | (go_at_call 81; (with_reducible refine (reg_any _ _ _).mono ?_); rintro e w1 ⟨rfl, ⟨n, rfl⟩⟩))
  all_goals
    go_ret
    exact ⟨by simp [wordFin, *], by repeat (first | exact Below.refl _ _ | apply pw_below_drewN | apply below_alloc)⟩
set_option maxHeartbeats 1000000 in
theorem isWordOf_4 (A0 A3 : Option Addr) (c0 c3 n0 n3 : Nat) (p1 slots r a b v : Int) (w : World) (hn0 : n0 ≤ 9223372036854775807) (hn3 : n3 ≤ 9223372036854775807) :
    Calls Try.prog 69 #[.agg #[.slice A0 n0 c0, .int .i64 p1, .int .i64 slots, .slice A3 n3 c3], .agg #[.int .i64 4, .int .i64 r, .int .i64 a, .int .i64 b, .int .i64 v]] w fun e w' => e = .returned (.bool (wordFin v ((n0 : Int) - 1) r true a true b false)) ∧ Below w.heap.size w w' := by
  go_enter Try.func69, Try.ntmps69
  go_wp2_with (first | (go_at_call 66; (with_reducible refine (in_any _ _ _ _).mono ?_); rintro e w1 ⟨rfl, ⟨n, rfl⟩⟩) | (go_at_call 81; (with_reducible refine (reg_any _ _ _).mono ?_); rintro e w1 ⟨rfl, ⟨n, rfl⟩⟩))
  all_goals
    go_ret
    exact ⟨by simp [wordFin, *], by repeat (first | exact Below.refl _ _ | apply pw_below_drewN | apply below_alloc)⟩
set_option maxHeartbeats 1000000 in
theorem isWordOf_5 (A0 A3 : Option Addr) (c0 c3 n0 n3 : Nat) (p1 slots r a b v : Int) (w : World) (hn0 : n0 ≤ 9223372036854775807) (hn3 : n3 ≤ 9223372036854775807) :
    Calls Try.prog 69 #[.agg #[.slice A0 n0 c0, .int .i64 p1, .int .i64 slots, .slice A3 n3 c3], .agg #[.int .i64 5, .int .i64 r, .int .i64 a, .int .i64 b, .int .i64 v]] w fun e w' => e = .returned (.bool (wordFin v ((n0 : Int) - 1) r true a true b false)) ∧ Below w.heap.size w w' := by
  go_enter Try.func69, Try.ntmps69
  go_wp2_with (first | (go_at_call 66; (with_reducible refine (in_any _ _ _ _).mono ?_); rintro e w1 ⟨rfl, ⟨n, rfl⟩⟩) | (go_at_call 81; (with_reducible refine (reg_any _ _ _).mono ?_); rintro e w1 ⟨rfl, ⟨n, rfl⟩⟩))
  all_goals
    go_ret
    exact ⟨by simp [wordFin, *], by repeat (first | exact Below.refl _ _ | apply pw_below_drewN | apply below_alloc)⟩
set_option maxHeartbeats 1000000 in
theorem isWordOf_6 (A0 A3 : Option Addr) (c0 c3 n0 n3 : Nat) (p1 slots r a b v : Int) (w : World) (hn0 : n0 ≤ 9223372036854775807) (hn3 : n3 ≤ 9223372036854775807) :
    Calls Try.prog 69 #[.agg #[.slice A0 n0 c0, .int .i64 p1, .int .i64 slots, .slice A3 n3 c3], .agg #[.int .i64 6, .int .i64 r, .int .i64 a, .int .i64 b, .int .i64 v]] w fun e w' => e = .returned (.bool (wordFin v 0 r true a false b false)) ∧ Below w.heap.size w w' := by
  go_enter Try.func69, Try.ntmps69
  go_wp2_with (first | (go_at_call 66; (with_reducible refine (in_any _ _ _ _).mono ?_); rintro e w1 ⟨rfl, ⟨n, rfl⟩⟩) | (go_at_call 81; (with_reducible refine (reg_any _ _ _).mono ?_); rintro e w1 ⟨rfl, ⟨n, rfl⟩⟩))
  all_goals
    go_ret
    exact ⟨by simp [wordFin, *], by repeat (first | exact Below.refl _ _ | apply pw_below_drewN | apply below_alloc)⟩
set_option maxHeartbeats 1000000 in
theorem isWordOf_7 (A0 A3 : Option Addr) (c0 c3 n0 n3 : Nat) (p1 slots r a b v : Int) (w : World) (hn0 : n0 ≤ 9223372036854775807) (hn3 : n3 ≤ 9223372036854775807) :
    Calls Try.prog 69 #[.agg #[.slice A0 n0 c0, .int .i64 p1, .int .i64 slots, .slice A3 n3 c3], .agg #[.int .i64 7, .int .i64 r, .int .i64 a, .int .i64 b, .int .i64 v]] w fun e w' => e = .returned (.bool (wordFin v 0 r true a false b false)) ∧ Below w.heap.size w w' := by
  go_enter Try.func69, Try.ntmps69
  go_wp2_with (first | (go_at_call 66; (with_reducible refine (in_any _ _ _ _).mono ?_); rintro e w1 ⟨rfl, ⟨n, rfl⟩⟩) | (go_at_call 81; (with_reducible refine (reg_any _ _ _).mono ?_); rintro e w1 ⟨rfl, ⟨n, rfl⟩⟩))
  all_goals
    go_ret
    exact ⟨by simp [wordFin, *], by repeat (first | exact Below.refl _ _ | apply pw_below_drewN | apply below_alloc)⟩
set_option maxHeartbeats 1000000 in
theorem isWordOf_8 (A0 A3 : Option Addr) (c0 c3 n0 n3 : Nat) (p1 slots r a b v : Int) (w : World) (hn0 : n0 ≤ 9223372036854775807) (hn3 : n3 ≤ 9223372036854775807) :
    Calls Try.prog 69 #[.agg #[.slice A0 n0 c0, .int .i64 p1, .int .i64 slots, .slice A3 n3 c3], .agg #[.int .i64 8, .int .i64 r, .int .i64 a, .int .i64 b, .int .i64 v]] w fun e w' => e = .returned (.bool (wordFin v ((n3 : Int) - 1) r false a false b false)) ∧ Below w.heap.size w w' := by
  go_enter Try.func69, Try.ntmps69
  go_wp2_with (first | (go_at_call 66; (with_reducible refine (in_any _ _ _ _).mono ?_); rintro e w1 ⟨rfl, ⟨n, rfl⟩⟩) | (go_at_call 81; (with_reducible refine (reg_any _ _ _).mono ?_); rintro e w1 ⟨rfl, ⟨n, rfl⟩⟩))
  all_goals
    go_ret
    exact ⟨by simp [wordFin, *], by repeat (first | exact Below.refl _ _ | apply pw_below_drewN | apply below_alloc)⟩
set_option maxHeartbeats 1000000 in
theorem isWordOf_9 (A0 A3 : Option Addr) (c0 c3 n0 n3 : Nat) (p1 slots r a b v : Int) (w : World) (hn0 : n0 ≤ 9223372036854775807) (hn3 : n3 ≤ 9223372036854775807) :
    Calls Try.prog 69 #[.agg #[.slice A0 n0 c0, .int .i64 p1, .int .i64 slots, .slice A3 n3 c3], .agg #[.int .i64 9, .int .i64 r, .int .i64 a, .int .i64 b, .int .i64 v]] w fun e w' => e = .returned (.bool (wordFin v ((n3 : Int) - 1) r true a false b false)) ∧ Below w.heap.size w w' := by
  go_enter Try.func69, Try.ntmps69
  go_wp2_with (first | (go_at_call 66; (with_reducible refine (in_any _ _ _ _).mono ?_); rintro e w1 ⟨rfl, ⟨n, rfl⟩⟩) | (go_at_call 81; (with_reducible refine (reg_any _ _ _).mono ?_); rintro e w1 ⟨rfl, ⟨n, rfl⟩⟩))
  all_goals
    go_ret
    exact ⟨by simp [wordFin, *], by repeat (first | exact Below.refl _ _ | apply pw_below_drewN | apply below_alloc)⟩
set_option maxHeartbeats 1000000 in
theorem isWordOf_10 (A0 A3 : Option Addr) (c0 c3 n0 n3 : Nat) (p1 slots r a b v : Int) (w : World) (hn0 : n0 ≤ 9223372036854775807) (hn3 : n3 ≤ 9223372036854775807) :
    Calls Try.prog 69 #[.agg #[.slice A0 n0 c0, .int .i64 p1, .int .i64 slots, .slice A3 n3 c3], .agg #[.int .i64 10, .int .i64 r, .int .i64 a, .int .i64 b, .int .i64 v]] w fun e w' => e = .returned (.bool (wordFin v 0 r true a false b false)) ∧ Below w.heap.size w w' := by
  go_enter Try.func69, Try.ntmps69
  go_wp2_with (first | (go_at_call 66; (with_reducible refine (in_any _ _ _ _).mono ?_); rintro e w1 ⟨rfl, ⟨n, rfl⟩⟩) | (go_at_call 81; (with_reducible refine (reg_any _ _ _).mono ?_); rintro e w1 ⟨rfl, ⟨n, rfl⟩⟩))
  all_goals
    go_ret
    exact ⟨by simp [wordFin, *], by repeat (first | exact Below.refl _ _ | apply pw_below_drewN | apply below_alloc)⟩
set_option maxHeartbeats 1000000 in
theorem isWordOf_11 (A0 A3 : Option Addr) (c0 c3 n0 n3 : Nat) (p1 slots r a b v : Int) (w : World) (hn0 : n0 ≤ 9223372036854775807) (hn3 : n3 ≤ 9223372036854775807) :
    Calls Try.prog 69 #[.agg #[.slice A0 n0 c0, .int .i64 p1, .int .i64 slots, .slice A3 n3 c3], .agg #[.int .i64 11, .int .i64 r, .int .i64 a, .int .i64 b, .int .i64 v]] w fun e w' => e = .returned (.bool (wordFin v 0 r true a true b false)) ∧ Below w.heap.size w w' := by
  go_enter Try.func69, Try.ntmps69
  go_wp2_with (first | (go_at_call 66; (with_reducible refine (in_any _ _ _ _).mono ?_); rintro e w1 ⟨rfl, ⟨n, rfl⟩⟩) | (go_at_call 81; (with_reducible refine (reg_any _ _ _).mono ?_); rintro e w1 ⟨rfl, ⟨n, rfl⟩⟩))
  all_goals
    go_ret
    exact ⟨by simp [wordFin, *], by repeat (first | exact Below.refl _ _ | apply pw_below_drewN | apply below_alloc)⟩
set_option maxHeartbeats 1000000 in
theorem isWordOf_no (A0 A3 : Option Addr) (c0 c3 n0 n3 : Nat) (p1 slots r a b v : Int) (w : World) (hn0 : n0 ≤ 9223372036854775807) (hn3 : n3 ≤ 9223372036854775807) (o : Int) (h0 : (o == 0) = false) (h1 : (o == 1) = false) (h2 : (o == 2) = false) (h3 : (o == 3) = false) (h4 : (o == 4) = false) (h5 : (o == 5) = false) (h6 : (o == 6) = false) (h7 : (o == 7) = false) (h8 : (o == 8) = false) (h9 : (o == 9) = false) (h10 : (o == 10) = false) (h11 : (o == 11) = false) :
    Calls Try.prog 69 #[.agg #[.slice A0 n0 c0, .int .i64 p1, .int .i64 slots, .slice A3 n3 c3], .agg #[.int .i64 o, .int .i64 r, .int .i64 a, .int .i64 b, .int .i64 v]] w fun e w' => e = .returned (.bool false) ∧ Below w.heap.size w w' := by
  go_enter Try.func69, Try.ntmps69
  go_wp2_with (first | (go_at_call 66; (with_reducible refine (in_any _ _ _ _).mono ?_); rintro e w1 ⟨rfl, ⟨n, rfl⟩⟩) | (go_at_call 81; (with_reducible refine (reg_any _ _ _).mono ?_); rintro e w1 ⟨rfl, ⟨n, rfl⟩⟩))
  go_ret
  exact ⟨rfl, by repeat (first | exact Below.refl _ _ | apply pw_below_drewN | apply below_alloc)⟩
theorem isWordOf_any (A0 A3 : Option Addr) (c0 c3 n0 n3 : Nat) (p1 slots r a b v : Int) (w : World) (hn0 : n0 ≤ 9223372036854775807) (hn3 : n3 ≤ 9223372036854775807) (o : Int) :
    Calls Try.prog 69 #[.agg #[.slice A0 n0 c0, .int .i64 p1, .int .i64 slots, .slice A3 n3 c3], .agg #[.int .i64 o, .int .i64 r, .int .i64 a, .int .i64 b, .int .i64 v]] w fun e w' => e = .returned (.bool (wordIs n0 slots n3 o r a b v)) ∧ Below w.heap.size w w' := by
  unfold wordIs
  by_cases h0 : o = 0
  · rw [if_pos h0, h0]
    exact isWordOf_0 A0 A3 c0 c3 n0 n3 p1 slots r a b v w hn0 hn3
  rw [if_neg h0]
  by_cases h1 : o = 1
  · rw [if_pos h1, h1]
    exact isWordOf_1 A0 A3 c0 c3 n0 n3 p1 slots r a b v w hn0 hn3
  rw [if_neg h1]
  by_cases h2 : o = 2
  · rw [if_pos h2, h2]
    exact isWordOf_2 A0 A3 c0 c3 n0 n3 p1 slots r a b v w hn0 hn3
  rw [if_neg h2]
  by_cases h3 : o = 3
  · rw [if_pos h3, h3]
    exact isWordOf_3 A0 A3 c0 c3 n0 n3 p1 slots r a b v w hn0 hn3
  rw [if_neg h3]
  by_cases h4 : o = 4
  · rw [if_pos h4, h4]
    exact isWordOf_4 A0 A3 c0 c3 n0 n3 p1 slots r a b v w hn0 hn3
  rw [if_neg h4]
  by_cases h5 : o = 5
  · rw [if_pos h5, h5]
    exact isWordOf_5 A0 A3 c0 c3 n0 n3 p1 slots r a b v w hn0 hn3
  rw [if_neg h5]
  by_cases h6 : o = 6
  · rw [if_pos h6, h6]
    exact isWordOf_6 A0 A3 c0 c3 n0 n3 p1 slots r a b v w hn0 hn3
  rw [if_neg h6]
  by_cases h7 : o = 7
  · rw [if_pos h7, h7]
    exact isWordOf_7 A0 A3 c0 c3 n0 n3 p1 slots r a b v w hn0 hn3
  rw [if_neg h7]
  by_cases h8 : o = 8
  · rw [if_pos h8, h8]
    exact isWordOf_8 A0 A3 c0 c3 n0 n3 p1 slots r a b v w hn0 hn3
  rw [if_neg h8]
  by_cases h9 : o = 9
  · rw [if_pos h9, h9]
    exact isWordOf_9 A0 A3 c0 c3 n0 n3 p1 slots r a b v w hn0 hn3
  rw [if_neg h9]
  by_cases h10 : o = 10
  · rw [if_pos h10, h10]
    exact isWordOf_10 A0 A3 c0 c3 n0 n3 p1 slots r a b v w hn0 hn3
  rw [if_neg h10]
  by_cases h11 : o = 11
  · rw [if_pos h11, h11]
    exact isWordOf_11 A0 A3 c0 c3 n0 n3 p1 slots r a b v w hn0 hn3
  rw [if_neg h11]
  exact isWordOf_no A0 A3 c0 c3 n0 n3 p1 slots r a b v w hn0 hn3 o (beq_eq_false_iff_ne.mpr h0) (beq_eq_false_iff_ne.mpr h1) (beq_eq_false_iff_ne.mpr h2) (beq_eq_false_iff_ne.mpr h3) (beq_eq_false_iff_ne.mpr h4) (beq_eq_false_iff_ne.mpr h5) (beq_eq_false_iff_ne.mpr h6) (beq_eq_false_iff_ne.mpr h7) (beq_eq_false_iff_ne.mpr h8) (beq_eq_false_iff_ne.mpr h9) (beq_eq_false_iff_ne.mpr h10) (beq_eq_false_iff_ne.mpr h11)

end Go.Proofs.Ytnbaojaocagjcaa.P
end
section
-- Written for this claim by gp.py over the kit's print; not trusted: Lean checks it.







namespace Go.Proofs.Ytnbaojaocagjcaa.P
open Go.RowKit Go.Proofs.YtnbaojaocagjcaaW.PrintWords Go.Proofs.YtnbaojaocagjcaaW.PrintLast Go.Proofs.YtnbaojaocagjcaaW.PrintMore
set_option linter.unusedVariables false
set_option linter.unusedSimpArgs false

/-- Whether an image is ok. -/
def imageOk (l0 : List Int) (p s : Int) (l3 : List S59) : Bool :=
  progOk l0 0 0 && inB p 0 6 && inB s p 1000 && inB (l3.length : Int) 1 6000 && (((rd_T59 l3 ((l3.length : Int) - 1)).f0 == 10) || ((rd_T59 l3 ((l3.length : Int) - 1)).f0 == 8)) &&
    !(l3.any fun x => !wordIs (l0.length : Int) s (l3.length : Int) x.f0 x.f1 x.f2 x.f3 x.f4)
set_option maxHeartbeats 400000 in
theorem isImage_1 (B : Nat) (A0 A3 : Option Addr) (c0 c3 n0 n3 : Nat) (p1 slots : Int) (hn0 : n0 ≤ 9223372036854775807) (hn3 : n3 ≤ 9223372036854775807) (W : World) (x : S59)
    (hb0 : W.cell? ⟨B, 0, none⟩ = some (.slice A0 n0 c0)) (hb1 : W.cell? ⟨B, 1, none⟩ = some (.int .i64 p1)) (hb2 : W.cell? ⟨B, 2, none⟩ = some (.int .i64 slots)) (hb3 : W.cell? ⟨B, 3, none⟩ = some (.slice A3 n3 c3)) (hB : B < W.heap.size) :
    Calls Try.prog 68 #[.agg #[.int .i64 x.f0, .int .i64 x.f1, .int .i64 x.f2, .int .i64 x.f3, .int .i64 x.f4], .pointer (some ⟨B, 0, none⟩)] W
      fun e w' => e = .returned (.bool (!wordIs (n0 : Int) slots (n3 : Int) x.f0 x.f1 x.f2 x.f3 x.f4)) ∧ Below W.heap.size W w' := by
  have hne : B ≠ W.heap.size := by omega
  have HC := Aside0.mk (fun W' => isWordOf_any A0 A3 c0 c3 n0 n3 p1 slots x.f1 x.f2 x.f3 x.f4 W' hn0 hn3 x.f0)
  generalize wordIs (n0 : Int) slots (n3 : Int) x.f0 x.f1 x.f2 x.f3 x.f4 = b at HC ⊢
  go_enter Try.func68, Try.ntmps68
  go_wp2_with (go_at_call 69; (with_reducible refine (HC.out _).mono ?_); rintro e w1 ⟨rfl, hb⟩; have HD := Aside0.mk (below_step (below_alloc (Below.refl _ _) _) hb); clear hb)
  go_ret
  exact ⟨rfl, HD.out⟩
set_option maxHeartbeats 1000000 in
set_option maxRecDepth 100000 in
theorem isImage_any (A0_0 A0_3 : Option Addr) (c0_0 c0_3 : Nat) (l0 : List Int) (p s : Int) (l3 : List (S59)) (w : World) (hr0 : Kd.C (Kd.int .i64) w A0_0 l0.length l0) (hc0 : l0.length ≤ c0_0) (hr3 : Kd.C k59 w A0_3 l3.length l3) (hc3 : l3.length ≤ c0_3) :
    Calls Try.prog 52 #[.agg #[.slice A0_0 l0.length c0_0, .int .i64 p, .int .i64 s, .slice A0_3 l3.length c0_3]] w fun e w' => e = .returned (.bool (imageOk l0 p s l3)) ∧ Below w.heap.size w w' := by
  have eg := enters_of Try.func68 (by kernel_rfl) rfl
  have hm0 := hr0.2.1
  have hm3 := hr3.2.1
  have HP := Aside0.mk (fun (W : World) (hb : Below w.heap.size w W) => isProgram_nil A0_0 none c0_0 0 l0 0 0 W (Kd.C_below hr0 hb) hc0)
  have HF := Aside0.mk (fun (W : World) (hb : Below w.heap.size w W) (h0 : w.heap.size < W.heap.size) (hb0 : W.cell? ⟨w.heap.size, 0, none⟩ = some (.slice A0_0 l0.length c0_0)) (hb1 : W.cell? ⟨w.heap.size, 1, none⟩ = some (.int .i64 p)) (hb2 : W.cell? ⟨w.heap.size, 2, none⟩ = some (.int .i64 s)) (hb3 : W.cell? ⟨w.heap.size, 3, none⟩ = some (.slice A0_3 l3.length c0_3)) =>
    containsFunc_Word 68 #[.pointer (some ⟨w.heap.size, 0, none⟩)] (fun x => !wordIs (l0.length : Int) s (l3.length : Int) x.f0 x.f1 x.f2 x.f3 x.f4) eg A0_3 c0_3 l3 W (Kd.C_below hr3 hb) hc3
      (fun W2 x hb' => isImage_1 w.heap.size A0_0 A0_3 c0_0 c0_3 l0.length l3.length p s hm0 hm3 W2 x ((hb'.cell (p := ⟨w.heap.size, 0, none⟩) h0).trans hb0) ((hb'.cell (p := ⟨w.heap.size, 1, none⟩) h0).trans hb1) ((hb'.cell (p := ⟨w.heap.size, 2, none⟩) h0).trans hb2) ((hb'.cell (p := ⟨w.heap.size, 3, none⟩) h0).trans hb3) (Nat.lt_of_lt_of_le h0 hb'.size)))
  unfold imageOk
  have HR3 := Aside0.mk hr3
  clear hr0 hc0 hr3 hc3
  cases hp0 : progOk l0 0 0 with
  | false =>
    rw [hp0] at HP
    go_enter Try.func52, Try.ntmps52
    go_wp2_with (first | (go_at_call 65; (with_reducible refine (HP.out _ (below_alloc (Below.refl _ _) _)).mono ?_); rintro e w1 ⟨rfl, hb⟩; have HB := Aside0.mk (below_step (below_alloc (Below.refl _ _) _) hb); clear hb))
    go_ret
    exact ⟨by simp, HB.out⟩
  | true =>
    rw [hp0] at HP
    cases hl : inB (l3.length : Int) 1 6000 with
    | false =>
      go_enter Try.func52, Try.ntmps52
      go_wp2_with (first | (go_at_call 65; (with_reducible refine (HP.out _ (below_alloc (Below.refl _ _) _)).mono ?_); rintro e w1 ⟨rfl, hb⟩; have HB := Aside0.mk (below_step (below_alloc (Below.refl _ _) _) hb); obtain ⟨hc_, hf_⟩ := bcell hb; have hz_ := hb.size; simp at hz_; clear hb) | (go_at_call 66; (with_reducible refine (in_any _ _ _ _).mono ?_); rintro e w2 ⟨rfl, ⟨n, rfl⟩⟩))
      all_goals
        go_ret
        exact ⟨by simp [*], by repeat (first | exact HB.out | apply pw_below_drewN | apply below_alloc)⟩
    | true =>
      have hl1 : 1 ≤ l3.length := by
        unfold inB at hl
        simp at hl
        omega
      have q1 : 0 ≤ (l3.length : Int) - 1 := by omega
      have q2 : (l3.length : Int) - 1 < (l3.length : Int) := by omega
      obtain ⟨ad, e1, hx0, _⟩ := at_T59 HR3.out ((l3.length : Int) - 1) q1 q2
      cases e1
      rw [show ((l3.length : Int) - 1).toNat = l3.length - 1 from by omega] at hx0
      generalize (rd_T59 l3 ((l3.length : Int) - 1)).f0 = o at hx0 ⊢
      go_enter Try.func52, Try.ntmps52
      go_wp2_with (first | (go_at_call 65; (with_reducible refine (HP.out _ (below_alloc (Below.refl _ _) _)).mono ?_); rintro e w1 ⟨rfl, hb⟩; have HB := Aside0.mk (below_step (below_alloc (Below.refl _ _) _) hb); obtain ⟨hc_, hf_⟩ := bcell hb; have hz_ := hb.size; simp at hz_; have hx1 := (HB.out.cell (World.block_lt_of_cell? w _ hx0)).trans hx0; clear hb) | (go_at_call 66; (with_reducible refine (in_any _ _ _ _).mono ?_); rintro e w2 ⟨rfl, ⟨n, rfl⟩⟩) | (go_at_call 67; (with_reducible refine (HF.out _ ?s1 ?s2 ?s3 ?s4 ?s5 ?s6).mono ?_); (case s1 => repeat (first | exact HB.out | apply pw_below_drewN)); (case s2 => simp; omega); (case s3 => simp [hc_]); (case s4 => simp [hc_]); (case s5 => simp [hc_]); (case s6 => simp [hc_]); rintro e w3 ⟨rfl, hb⟩; have HB3 := Aside0.mk (below_step (show Below w.heap.size w _ from by repeat (first | exact HB.out | apply pw_below_drewN)) hb); clear hb))
      all_goals
        go_ret
        first
          | exact ⟨by simp [*], HB3.out⟩
          | exact ⟨by simp [*], by repeat (first | exact HB.out | apply pw_below_drewN | apply below_alloc)⟩

def impl_isImage.f (l0_0 : List Int) (a0_1 : Int) (a0_2 : Int) (l0_3 : List (S59)) : Option Bool := some (imageOk l0_0 a0_1 a0_2 l0_3)
theorem impl_isImage.calls (A0_0 : Option Addr) (c0_0 : Nat) (l0_0 : List Int) (a0_1 : Int) (a0_2 : Int) (A0_3 : Option Addr) (c0_3 : Nat) (l0_3 : List (S59)) (r : Bool) (w : World) (hr0_0 : Kd.C (Kd.int .i64) w A0_0 l0_0.length l0_0) (hc0_0 : l0_0.length ≤ c0_0) (hr0_3 : Kd.C k59 w A0_3 l0_3.length l0_3) (hc0_3 : l0_3.length ≤ c0_3) (h : impl_isImage.f l0_0 a0_1 a0_2 l0_3 = some r) :
    Calls Try.prog 52 #[.agg #[.slice A0_0 l0_0.length c0_0, .int .i64 a0_1, .int .i64 a0_2, .slice A0_3 l0_3.length c0_3]] w fun e w' => e = .returned (.bool r) ∧ Below w.heap.size w w' := by
  injection h with h
  subst h
  exact isImage_any A0_0 A0_3 c0_0 c0_3 l0_0 a0_1 a0_2 l0_3 w hr0_0 hc0_0 hr0_3 hc0_3

end Go.Proofs.Ytnbaojaocagjcaa.P
end
section
-- Written for this claim by gp.py over the kit's print; not trusted: Lean checks it.

namespace Go.Proofs.Ytnbaojaocagjcaa.P
open Go.RowKit Go.Proofs.YtnbaojaocagjcaaW.PrintWords Go.Proofs.YtnbaojaocagjcaaW.PrintLast Go.Proofs.YtnbaojaocagjcaaW.PrintMore
attribute [local go_sem] max2_int min2_int max_two min_two max_three min_three max_four min_four
set_option linter.unusedVariables false
set_option linter.unusedSimpArgs false

/-! ### impl_sum: function 38 -/
def impl_sum.l0 : Nat → ByteArray → Int → Int → Int → Option (Int)
  | 0, _, _, _, _ => none
  | k + 1, x0, x3, x6, x7 => if x7 < x6 then (if 0 ≤ x7 then (if x7 < (x0.size : Int) then (impl_sum.l0 k x0 (((Go.bits .xor .u32 x3 ((bt x0 x7) % 4294967296)) * 16777619) % 4294967296) x6 (wrap64 (x7 + 1))) else (none)) else (none)) else (some x3)
def impl_sum.f (k : Nat) (a0 : ByteArray) : Option (Int) := impl_sum.l0 k a0 2166136261 (a0.size : Int) 0
theorem impl_sum.mono_l : ∀ k, (∀ y0 y1 y2 y3, LeO (impl_sum.l0 k y0 y1 y2 y3) (impl_sum.l0 (k + 1) y0 y1 y2 y3))
  | 0 => fun _ _ _ _ r h => by simp [impl_sum.l0] at h
  | k + 1 => by
    have ih0 := impl_sum.mono_l k
    · intro y0 y1 y2 y3
      unfold impl_sum.l0
      repeat' first
      | (with_reducible exact ih0 _ _ _ _)
      | (with_reducible exact LeO.refl _)
      | (with_reducible exact LeO.none _)
      | (with_reducible refine LeO.ite ?_ ?_)
      | (with_reducible refine LeO.bind ?_ (fun _ => ?_))
      | exact ih0 _ _ _ _
      | exact LeO.none _
      | refine LeO.ite ?_ ?_
      | refine LeO.bind ?_ (fun _ => ?_)
theorem impl_sum.mono : ∀ a0 k, LeO (impl_sum.f k a0) (impl_sum.f (k + 1) a0) := by
  intro a0 k
  have ih0 := impl_sum.mono_l k
  unfold impl_sum.f
  repeat' first
      | (with_reducible exact ih0 _ _ _ _)
      | (with_reducible exact LeO.refl _)
      | (with_reducible exact LeO.none _)
      | (with_reducible refine LeO.ite ?_ ?_)
      | (with_reducible refine LeO.bind ?_ (fun _ => ?_))
      | exact ih0 _ _ _ _
      | exact LeO.none _
      | refine LeO.ite ?_ ?_
      | refine LeO.bind ?_ (fun _ => ?_)
set_option maxHeartbeats 8000000 in
set_option maxRecDepth 100000 in
theorem impl_sum.calls (k : Nat) (a0 : ByteArray) (r : Int) (w : World) (h : impl_sum.f k a0 = some r) :
    Calls Try.prog 38 #[.string a0] w fun e w' => e = .returned (.int .u32 r) ∧ Drawn0 w w' := by
  have H : (impl_sum.l0 k a0 2166136261 (a0.size : Int) 0) = some r := h
  clear h
  have H' := Aside0.mk H
  clear H
  go_enter Try.func38, Try.ntmps38
  go_wp2
  go_loopg [3, 7] k (fun kq v3 v7 w' => ∃ (x3_1 : Int) (x7_1 : Int), v3 = .int .u32 x3_1 ∧ v7 = .int .i64 x7_1 ∧ Aside0 (impl_sum.l0 kq a0 x3_1 (a0.size : Int) x7_1 = some r) ∧ Aside0 (kq ≤ k) ∧ Drawn0 w w')
  case atStart => exact ⟨(2166136261), (0), (by first | rfl | (simp; done) | (simp [*]; done)), (by first | rfl | (simp; done) | (simp [*]; done)), H', ⟨Nat.le_refl _⟩, by repeat (first | exact Drawn0.refl _ | apply Drawn0.step)⟩
  case round =>
    clear H'
    (try clear HA)
    (try clear HK1)
    obtain ⟨x3_1, x7_1, rfl, rfl, HA, HK1, ⟨m1, rfl⟩⟩ := hrel
    cases gk with
    | zero => exact absurd HA.out (by simp [impl_sum.l0])
    | succ k1 =>
      have H := HA.out
      clear HA
      simp only [impl_sum.l0] at H
      by_cases c2 : x7_1 < (a0.size : Int)
      · rw [if_pos c2] at H
        have c2b0 : decide (x7_1 < (a0.size : Int)) = true := decide_eq_true c2
        clear c2
        by_cases c3 : 0 ≤ x7_1
        · rw [if_pos c3] at H
          have c3b0 : decide (0 ≤ x7_1) = true := decide_eq_true c3
          clear c3
          by_cases c4 : x7_1 < (a0.size : Int)
          · rw [if_pos c4] at H
            have c4b0 : decide (x7_1 < (a0.size : Int)) = true := decide_eq_true c4
            clear c4
            have H' := Aside0.mk H
            clear H
            have p5 : 0 ≤ (x7_1 : Int) := of_decide_eq_true (by first | (with_reducible assumption) | assumption)
            have q5 : x7_1 < (a0.size : Int) := of_decide_eq_true (by first | (with_reducible assumption) | assumption)
            have hx5 := bt_at a0 x7_1
            replace p5 := eq_true p5
            replace q5 := eq_true q5
            go_wp2
            go_roundg k1
            case measure => have := HK1.out; omega
            case rel => exact ⟨(((Go.bits .xor .u32 x3_1 ((bt a0 x7_1) % 4294967296)) * 16777619) % 4294967296), (wrap64 (x7_1 + 1)), (by first | rfl | (simp; done) | (simp [*]; done)), (by first | rfl | (simp; done) | (simp [*]; done)), H', ⟨by have := HK1.out; omega⟩, by repeat (first | exact Drawn0.refl _ | apply Drawn0.step)⟩
          · rw [if_neg c4] at H
            exact absurd H (by simp)
        · rw [if_neg c3] at H
          exact absurd H (by simp)
      · rw [if_neg c2] at H
        have c2b0 : decide (x7_1 < (a0.size : Int)) = false := decide_eq_false c2
        clear c2
        obtain rfl := Option.some.inj H
        go_wp2
        go_ret
        exact ⟨by first | rfl | (simp; done) | (simp [*]; done), by repeat (first | exact Drawn0.refl _ | apply Drawn0.step)⟩

end Go.Proofs.Ytnbaojaocagjcaa.P
end
section
-- Written for this claim by gp.py over the kit's print; not trusted: Lean checks it.


namespace Go.Proofs.Ytnbaojaocagjcaa.P
open Go.RowKit Go.Proofs.YtnbaojaocagjcaaW.PrintWords Go.Proofs.YtnbaojaocagjcaaW.PrintLast Go.Proofs.YtnbaojaocagjcaaW.PrintMore
set_option linter.unusedVariables false
set_option linter.unusedSimpArgs false

/-- The eight bytes of a number, the greatest first. -/
def be8 (v : Int) : List Int := [v / 72057594037927936, v / 281474976710656 % 256, v / 1099511627776 % 256, v / 4294967296 % 256, v / 16777216 % 256, v / 65536 % 256, v / 256 % 256, v % 256]
/-- What the bytes of some numbers are. -/
def beAll (xs : List Int) : List Int := xs.flatMap fun x => be8 (IntKind.u64.wrap x)
theorem beAll_length (xs : List Int) : (beAll xs).length = 8 * xs.length := by
  induction xs with
  | nil => rfl
  | cons a l ih =>
    unfold beAll at ih ⊢
    rw [List.flatMap_cons, List.length_append, ih]
    simp [be8]
    omega
theorem beAll_append (xs ys : List Int) : beAll (xs ++ ys) = beAll xs ++ beAll ys := by simp [beAll]
theorem own_slice {w : World} {B n : Nat} {sv : Value} {xs : List Value} (h : w.ownsRow B 5 1 sv n xs) : ∃ A c, sv = .slice A n c := by
  rcases h.2 with ⟨rfl, rfl⟩ | ⟨g, cap, cur, rfl, _⟩
  · exact ⟨none, 0, rfl⟩
  · exact ⟨_, _, rfl⟩
theorem u64_range (x : Int) : 0 ≤ IntKind.u64.wrap x ∧ IntKind.u64.wrap x < 18446744073709551616 := by
  have e : IntKind.u64.wrap x = x % 18446744073709551616 := by simp [IntKind.wrap, IntKind.signed, IntKind.bits]
  omega
theorem oneU8 (x : Int) : (Value.int .u8 x).oneCell' = true := rfl
set_option maxHeartbeats 4000000 in
set_option maxRecDepth 100000 in
theorem be_any (B : Nat) (v : Int) (h0 : 0 ≤ v) (hv : v < 18446744073709551616) (sv : Value) (xs : List Int) (n : Nat) (hn : xs.length = n) (w0 w : World) (HB : Below B w0 w) (hown : w.ownsRow B 5 1 sv n (encs (Value.int .u8) xs)) (hBw : B ≤ w.heap.size) (hlim : n + 8 ≤ 140737488355328) :
    Calls Try.prog 71 #[.agg #[], sv, .int .u64 v] w fun e w' => ∃ v', e = .returned v' ∧ w'.ownsRow B 5 1 v' (n + 8) (encs (Value.int .u8) (xs ++ be8 v)) ∧ Below B w0 w' ∧ Kept w w' (fun k => some k = sv.ownBlock) ∧ (∀ k, some k = v'.ownBlock → some k = sv.ownBlock ∨ w.heap.size ≤ k) := by
  subst hn
  obtain ⟨v, rfl⟩ : ∃ m : Nat, v = m := ⟨v.toNat, by omega⟩
  have HB_ := Aside0.mk HB
  clear HB
  go_enter Try.func71, Try.ntmps71
  go_wp2_with (at_builtin; refine print_append_row_of (w0 := w0) (Value.int .u8) 0 B rfl _ _ 71 5 (.int .u8 0) 1 rfl Try.underlying71 info5 rfl (by decide) oneU8 sv xs (be8 v) _ 8 8 rfl rfl ((hown.alloc _).alloc _) ?c1 ((HB_.out.alloc hBw _).alloc (by simp; omega) _) (by simp; omega) (by omega) ?_)
  case c1 =>
    refine ⟨rfl, by decide, fun _ => ⟨_, rfl, fun j hj => ?_⟩⟩
    match j, hj with
    | 0, _ => simp [Addr.add, be8]
    | 1, _ => simp [Addr.add, be8]
    | 2, _ => simp [Addr.add, be8]
    | 3, _ => simp [Addr.add, be8]
    | 4, _ => simp [Addr.add, be8]
    | 5, _ => simp [Addr.add, be8]
    | 6, _ => simp [Addr.add, be8]
    | 7, _ => simp [Addr.add, be8]
  intro v' w2 hown' hb' hgrow hat
  change w2.ownsRow B 5 1 v' (xs.length + 8) _ at hown'
  obtain ⟨A1, c1, rfl⟩ := own_slice hown'
  go_wp2
  go_ret
  refine ⟨.slice A1 (xs.length + 8) c1, rfl, hown', hb', Kept.of_grown hgrow (Kept.alloc (Kept.alloc (Kept.refl w _) _) _) (fun k hk => Or.inl hk.symm), ?_⟩
  intro k hk
  rcases hat with e | ⟨b, e, hb⟩
  · left
    rw [hk, e]
  · right
    rw [e] at hk
    injection hk with hk
    subst hk
    omega
set_option maxHeartbeats 1000000 in
set_option maxRecDepth 100000 in
theorem put_any (B p c m : Nat) (A : Option Addr) (xs : List Int) (sv : Value) (bs : List Int) (hm : bs.length = m) (w0 W : World) (HB : Below B w0 W) (hBp : B ≤ p) (hc : xs.length ≤ c) (hx63 : xs.length ≤ 9223372036854775807)
    (hC : ∀ W', Kept W W' (fun k => k = p ∨ some k = sv.ownBlock) → Kd.C (Kd.int .i64) W' A xs.length xs)
    (hP : W.heap[p]? = some (.cells #[sv] 71 (0, 0))) (hown : W.ownsRow B 5 1 sv m (encs (Value.int .u8) bs)) (hne : some p ≠ sv.ownBlock) (hlim : m + 8 * xs.length ≤ 140737488355328) :
    Calls Try.prog 70 #[.slice A xs.length c, .pointer (some ⟨p, 0, none⟩)] W fun e w' => e = .returned (.tuple #[]) ∧ (∃ sv', w'.heap[p]? = some (.cells #[sv'] 71 (0, 0)) ∧ w'.ownsRow B 5 1 sv' (m + 8 * xs.length) (encs (Value.int .u8) (bs ++ beAll xs)) ∧ some p ≠ sv'.ownBlock ∧ (∀ k, some k = sv'.ownBlock → some k = sv.ownBlock ∨ W.heap.size ≤ k)) ∧ Below B w0 w' ∧ Kept W w' (fun k => k = p ∨ some k = sv.ownBlock) := by
  have HB_ := Aside0.mk HB
  have HC_ := Aside0.mk hC
  have HO_ := Aside0.mk hown
  have HP_ := Aside0.mk hP
  have hps := blk_lt hP
  have hc0 := blk_cell hP 0
  clear HB hC hown
  go_enter Try.func70, Try.ntmps70
  go_wp2
  go_loopg [4, 7] xs.length (fun gg _ s7 wr => ∃ kk : Nat, kk ≤ xs.length ∧ xs.length - kk ≤ gg ∧ s7 = .int .i64 kk ∧ Aside0 (∃ sv', wr.heap[p]? = some (.cells #[sv'] 71 (0, 0)) ∧ wr.ownsRow B 5 1 sv' (m + 8 * kk) (encs (Value.int .u8) (bs ++ beAll (xs.take kk))) ∧ some p ≠ sv'.ownBlock ∧ (∀ k, some k = sv'.ownBlock → some k = sv.ownBlock ∨ W.heap.size ≤ k)) ∧ Aside0 (Below B w0 wr) ∧ Aside0 (Kept W wr (fun k => k = p ∨ some k = sv.ownBlock)))
  case atStart => exact ⟨0, Nat.zero_le _, by omega, rfl, ⟨sv, HP_.out, by simpa [beAll] using HO_.out, hne, fun k hk => Or.inl hk⟩, HB_, ⟨Kept.refl W _⟩⟩
  case round =>
    (try clear HB)
    (try clear HK)
    obtain ⟨kk, hkk, hg, rfl, ⟨sv', hP', hO', hne', hold'⟩, HB', HK'⟩ := hrel
    by_cases hlt : kk < xs.length
    · have p1 : 0 ≤ (kk : Int) := by omega
      have q1 : (kk : Int) < (xs.length : Int) := by omega
      obtain ⟨ad, e1, hx0⟩ := Kd.at_int (HC_.out wr HK'.out) (kk : Int) p1 q1
      cases e1
      simp only [Int.toNat_natCast] at hx0
      obtain ⟨Av, cv, rfl⟩ := own_slice hO'
      have hc1 := (blk_cell hP' 0).trans rfl
      have hf1 := blk_frozen hP' 0
      have hw := HK'.out.1
      obtain ⟨u0, u1⟩ := u64_range (rd xs (kk : Int))
      have hcall := be_any B (IntKind.u64.wrap (rd xs (kk : Int))) u0 u1 _ _ (m + 8 * kk) (by rw [List.length_append, beAll_length, List.length_take]; omega) w0 wr HB'.out hO' (by omega) (by omega)
      have HCL := Aside0.mk hcall
      clear hcall
      go_wp2_with (go_at_call 71; (with_reducible refine HCL.out.mono ?_); rintro e w1 ⟨v1, rfl, hO1, hB1, hK1, hn1⟩; obtain ⟨A1, c1, rfl⟩ := own_slice hO1; have hz1 := blk_kept hP' hK1 hne'; have hcz := (blk_cell hz1 0).trans rfl; have hfz := blk_frozen hz1 0)
      have hnew : beAll (xs.take (kk + 1)) = beAll (xs.take kk) ++ be8 (IntKind.u64.wrap (rd xs (kk : Int))) := by
        rw [List.take_succ_eq_append_getElem hlt, beAll_append]
        simp [beAll, rd, List.getD_eq_getElem?_getD, hlt]
      have hne1 : some p ≠ (Value.slice A1 (m + 8 * kk + 8) c1).ownBlock := by
        intro e
        rcases hn1 p e with h | h
        · exact hne' h
        · omega
      go_roundg (xs.length - (kk + 1))
      case measure => omega
      case rel =>
        refine ⟨kk + 1, by omega, by omega, by go_num, ⟨_, blk_set hz1 0 _, ?_, hne1, ?_⟩, ⟨?_⟩, ⟨?_⟩⟩
        · rw [hnew, ← List.append_assoc]
          exact own_setCell hO1 hne1 _
        · intro k hk
          rcases hn1 k hk with h | h
          · exact hold' k h
          · right; omega
        · exact hB1.setCell hBp _
        · exact Kept.setCell (HK'.out.then_ hK1 (fun k hk => (hold' k hk).elim (fun h => Or.inl (Or.inr h)) Or.inr)) (Or.inl (Or.inl rfl)) _
    · have hltz : ¬ (kk : Int) < (xs.length : Int) := by omega
      have he : kk = xs.length := by omega
      subst he
      rw [List.take_length] at hO'
      go_wp2
      refine bodyPost_end (v := .tuple #[]) ?_ rfl ?_
      · kernel_rfl
      exact ⟨rfl, ⟨sv', hP', hO', hne', hold'⟩, HB'.out, HK'.out⟩
/-- What holds between two puts. -/
def PS (w0 W : World) (im : Array Value) (bs : List Int) (m : Nat) : Prop :=
  bs.length = m ∧ Below w0.heap.size w0 W ∧ W.heap[w0.heap.size]? = some (.cells im 33 (0, 0)) ∧
  ∃ sv, W.heap[w0.heap.size + 2]? = some (.cells #[sv] 71 (0, 0)) ∧ W.ownsRow w0.heap.size 5 1 sv m (encs (Value.int .u8) bs) ∧ (∀ k, some k = sv.ownBlock → w0.heap.size + 1 ≤ k ∧ k ≠ w0.heap.size + 2)
theorem PS.alloc {w0 W : World} {im : Array Value} {bs : List Int} {m : Nat} (h : PS w0 W im bs m) (o : Obj) : PS w0 (W.alloc o) im bs m := by
  obtain ⟨h1, h2, h3, sv, h4, h5, h6⟩ := h
  exact ⟨h1, below_alloc h2 o, blk_alloc h3 o, sv, blk_alloc h4 o, h5.alloc o, h6⟩
theorem PS.set {w0 W : World} {im : Array Value} {bs : List Int} {m : Nat} (h : PS w0 W im bs m) {p : Addr} (u : Value) (hp : w0.heap.size + 2 < p.block) (hn : ∀ sv, W.heap[w0.heap.size + 2]? = some (.cells #[sv] 71 (0, 0)) → some p.block ≠ sv.ownBlock) : PS w0 (W.setCell p u) im bs m := by
  obtain ⟨h1, h2, h3, sv, h4, h5, h6⟩ := h
  exact ⟨h1, h2.setCell (by omega) _, blk_far h3 (by omega) u, sv, blk_far h4 (by omega) u, own_setCell h5 (hn sv h4) u, h6⟩
theorem put_step {w0 W : World} {im : Array Value} {bs : List Int} {m : Nat} (h : PS w0 W im bs m) (c : Nat) (A : Option Addr) (xs : List Int) (hc : xs.length ≤ c) (hx63 : xs.length ≤ 9223372036854775807)
    (hC : ∀ sv, W.heap[w0.heap.size + 2]? = some (.cells #[sv] 71 (0, 0)) → (∀ k, some k = sv.ownBlock → w0.heap.size + 1 ≤ k) → ∀ W', Kept W W' (fun k => k = w0.heap.size + 2 ∨ some k = sv.ownBlock) → Kd.C (Kd.int .i64) W' A xs.length xs) (hlim : m + 8 * xs.length ≤ 140737488355328) :
    Calls Try.prog 70 #[.slice A xs.length c, .pointer (some ⟨w0.heap.size + 2, 0, none⟩)] W fun e w' => e = .returned (.tuple #[]) ∧ PS w0 w' im (bs ++ beAll xs) (m + 8 * xs.length) ∧ W.heap.size ≤ w'.heap.size := by
  obtain ⟨h1, h2, h3, sv, h4, h5, h6⟩ := h
  refine (put_any w0.heap.size (w0.heap.size + 2) c m A xs sv bs h1 w0 W h2 (by omega) hc hx63 (hC sv h4 (fun k hk => (h6 k hk).1)) h4 h5 (fun e => (h6 _ e).2 rfl) hlim).mono ?_
  rintro e w' ⟨rfl, ⟨sv', g1, g2, g3, g4⟩, g5, g6⟩
  refine ⟨rfl, ⟨by rw [List.length_append, beAll_length, h1], g5, blk_kept h3 g6 (fun hh => hh.elim (fun e => by omega) (fun e => by have := (h6 _ e).1; omega)), sv', g1, g2, fun k hk => ?_⟩, g6.1⟩
  have hl := blk_lt h4
  rcases g4 k hk with e | e
  · exact h6 k e
  · exact ⟨by omega, by omega⟩
/-- A put of some numbers that were laid just now. -/
theorem put_new {w0 W : World} {im : Array Value} {bs : List Int} {m : Nat} (h : PS w0 W im bs m) (xs : List Int) (n : Nat) (hn : xs.length = n) (hx63 : n ≤ 9223372036854775807) (g : Nat) (hg : W.heap.size = g) (cs : Array Value) (hcs : cs = (xs.map (Value.int .i64)).toArray) (hlim : m + 8 * n ≤ 140737488355328) :
    Calls Try.prog 70 #[.slice (some ⟨g, 0, none⟩) n n, .pointer (some ⟨w0.heap.size + 2, 0, none⟩)] (W.alloc (.cells cs 3 (0, 0))) fun e w' => e = .returned (.tuple #[]) ∧ PS w0 w' im (bs ++ beAll xs) (m + 8 * n) ∧ W.heap.size ≤ w'.heap.size := by
  subst hn
  subst hg
  refine (put_step (h.alloc _) xs.length _ xs (Nat.le_refl _) hx63 ?_ hlim).mono ?_
  · intro sv hsv hlo W' hk
    obtain ⟨h1, h2, h3, sv', h4, h5, h6⟩ := h
    have e : sv = sv' := by
      have := (blk_alloc h4 _).symm.trans hsv
      injection this with this
      injection this with this
      simpa using this.symm
    subst e
    have hl := blk_lt h4
    have hb := blk_kept (blk_new W (.cells cs 3 (0, 0))) hk (fun hh => hh.elim (fun e => by omega) (fun e => by have := (h5.lt _ e.symm).2; omega))
    refine Kd.C_of_reads (d := 0) ⟨rfl, hx63, fun _ => ⟨_, rfl, fun j hj => ?_⟩⟩
    have := blk_cell hb j
    have e : Addr.add ⟨W.heap.size, 0, none⟩ j = ⟨W.heap.size, j, none⟩ := by
      unfold Addr.add
      split
      · rename_i h; rw [h]
      · simp
    rw [e, this, hcs]
    simp [hj, List.getD_eq_getElem?_getD]
  · rintro e w' ⟨g1, g2, g3⟩
    exact ⟨g1, g2, by simp at g3; omega⟩

end Go.Proofs.Ytnbaojaocagjcaa.P
end
