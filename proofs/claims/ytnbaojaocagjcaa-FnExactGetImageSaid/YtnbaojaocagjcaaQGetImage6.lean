-- Joined by pack.py from FHPureKit, F28, FHPureAll, FHPureImageOk, FHPureSpecImageOk, FHPureSum, FHPurePut, FHPureSpecIn, FHPureGet, F39, F40, F13, F41, F60, F42, F15, FHPureInts, FHPureToWord, FHPureImage, FHPureMarkInts, FHPureMarkWord, FHGoodGetImage
import Derived.Test.YtnbaojaocagjcaaQGetImage1
import Derived.Test.YtnbaojaocagjcaaQGetImage4
import Derived.Test.YtnbaojaocagjcaaQGetImage5
import Derived.Test.YtnbaojaocagjcaaQGetImage2
import Derived.Test.YtnbaojaocagjcaaQGetImage3
section
-- Written for this claim by gp.py over the kit's print; not trusted: Lean checks it.



namespace Go.Proofs.Ytnbaojaocagjcaa.P
open Go.RowKit Go.Proofs.YtnbaojaocagjcaaW.PrintWords Go.Proofs.YtnbaojaocagjcaaW.PrintLast Go.Proofs.YtnbaojaocagjcaaW.PrintMore
set_option linter.unusedVariables false
set_option linter.unusedSimpArgs false

theorem Ev.pos {α : Type} {c : Prop} [Decidable c] {f g : Nat → Option α} {r : α} (h : c) (k : Ev f r) : Ev (fun n => if c then f n else g n) r := Ev.congr (fun n => if_pos h) k
theorem Ev.neg {α : Type} {c : Prop} [Decidable c] {f g : Nat → Option α} {r : α} (h : ¬ c) (k : Ev g r) : Ev (fun n => if c then f n else g n) r := Ev.congr (fun n => if_neg h) k
theorem Ev.val {α β : Type} {a : α} {f : Nat → α → Option β} {r : β} (k : Ev (fun n => f n a) r) : Ev (fun n => (some a).bind (f n)) r := Ev.congr (fun n => rfl) k
theorem Ev.here {α : Type} {o : Option α} {r : α} (h : o = some r) : Ev (fun _ => o) r := Ev.congr (fun n => h) (Ev.now r)
theorem wrap_in {x : Int} (h : -9223372036854775808 ≤ x) (h' : x ≤ 9223372036854775807) : wrap64 x = x := by
  unfold wrap64
  omega
theorem wrap_succ {i n : Nat} (h : i < n) (hn : n ≤ 9223372036854775807) : wrap64 ((i : Int) + 1) = ((i + 1 : Nat) : Int) := by
  rw [wrap_in (by omega) (by omega)]
  omega
/-- A loop over 0 .. n - 1. -/
theorem ev_upto {ρ : Type} {n : Nat} {r : ρ} (P : Nat → Prop) (hend : P n) (hstep : ∀ i, i < n → P (i + 1) → P i) : ∀ i, i ≤ n → P i := by
  have key : ∀ d i, i + d = n → P i := by
    intro d
    induction d with
    | zero =>
      intro i hi
      have : i = n := by omega
      exact this ▸ hend
    | succ d ih =>
      intro i hi
      exact hstep i (by omega) (ih (i + 1) (by omega))
  intro i hi
  exact key (n - i) i (by omega)
theorem rd_nat (l : List Int) (i : Nat) : rd l (i : Int) = l.getD i 0 := rfl
/-- Numbers that follow each other. -/
def iota (m : Int) (n : Nat) : List Int := (List.range n).map fun (j : Nat) => m + (j : Int)
theorem iota_length (m : Int) (n : Nat) : (iota m n).length = n := by simp [iota]
theorem iota_getD {m : Int} {n i : Nat} (h : i < n) : (iota m n).getD i 0 = m + i := by simp [iota, List.getD_eq_getElem?_getD, h]
theorem set_mark {α : Type} {m l : List α} {z : α} {i : Nat} (hl : l.length = m.length) (h : i < m.length) : (m.take i ++ l.drop i).set i (m.getD i z) = m.take (i + 1) ++ l.drop (i + 1) := by
  rw [List.set_append_right _ _ (by rw [List.length_take]; omega), List.length_take, Nat.min_eq_left (by omega), Nat.sub_self]
  rw [List.drop_eq_getElem_cons (by omega), List.set_cons_zero, List.take_succ_eq_append_getElem h, List.append_assoc]
  simp [List.getD_eq_getElem?_getD, List.getElem?_eq_getElem h]
end Go.Proofs.Ytnbaojaocagjcaa.P
end
section
-- Written for this claim by gp.py over the kit's print; not trusted: Lean checks it.



namespace Go.Proofs.Ytnbaojaocagjcaa.P
open Go.RowKit Go.Proofs.YtnbaojaocagjcaaW.PrintWords Go.Proofs.YtnbaojaocagjcaaW.PrintLast Go.Proofs.YtnbaojaocagjcaaW.PrintMore
attribute [local go_sem] max2_int min2_int max_two min_two max_three min_three max_four min_four
set_option linter.unusedVariables false
set_option linter.unusedSimpArgs false

/-! ### impl_PutImage: function 28 -/
def impl_PutImage.f (k : Nat) (l0_0 : List Int) (a0_1 : Int) (a0_2 : Int) (l0_3 : List (S59)) : Option (ByteArray) := (impl_isImage.f l0_0 a0_1 a0_2 l0_3).bind fun t102 => (if t102 = true then ((impl_putImage.f k l0_0 a0_1 a0_2 l0_3).bind fun t103 => (some t103)) else (some (⟨#[]⟩ : ByteArray)))
theorem impl_PutImage.mono : ∀ a0 a1 a2 a3 k, LeO (impl_PutImage.f k a0 a1 a2 a3) (impl_PutImage.f (k + 1) a0 a1 a2 a3) := by
  intro a0 a1 a2 a3 k
  unfold impl_PutImage.f
  repeat' first
      | (with_reducible exact impl_putImage.mono _ _ _ _ _)
      | (with_reducible exact LeO.refl _)
      | (with_reducible exact LeO.none _)
      | (with_reducible refine LeO.ite ?_ ?_)
      | (with_reducible refine LeO.bind ?_ (fun _ => ?_))
      | exact impl_putImage.mono _ _ _ _ _
      | exact LeO.none _
      | refine LeO.ite ?_ ?_
      | refine LeO.bind ?_ (fun _ => ?_)
set_option maxHeartbeats 8000000 in
set_option maxRecDepth 100000 in
theorem impl_PutImage.calls (k : Nat) (A0_0 : Option Addr) (c0_0 : Nat) (l0_0 : List Int) (a0_1 : Int) (a0_2 : Int) (A0_3 : Option Addr) (c0_3 : Nat) (l0_3 : List (S59)) (r : ByteArray) (w : World) (hr0_0 : Kd.C (Kd.int .i64) w A0_0 l0_0.length l0_0) (hc0_0 : l0_0.length ≤ c0_0) (hr0_3 : Kd.C k59 w A0_3 l0_3.length l0_3) (hc0_3 : l0_3.length ≤ c0_3) (h : impl_PutImage.f k l0_0 a0_1 a0_2 l0_3 = some r) :
    Calls Try.prog 28 #[.agg #[.slice A0_0 l0_0.length c0_0, .int .i64 a0_1, .int .i64 a0_2, .slice A0_3 l0_3.length c0_3]] w fun e w' => e = .returned (.string r) ∧ Below w.heap.size w w' := by
  have hu33 := Try.underlying33
  have HR0_0 := Aside0.mk hr0_0
  have HC0_0 := Aside0.mk hc0_0
  clear hr0_0 hc0_0
  have HR0_3 := Aside0.mk hr0_3
  have HC0_3 := Aside0.mk hc0_3
  clear hr0_3 hc0_3
  have HB := Aside0.mk (Below.refl w.heap.size w)
  have H : ((impl_isImage.f l0_0 a0_1 a0_2 l0_3).bind fun t102 => (if t102 = true then ((impl_putImage.f k l0_0 a0_1 a0_2 l0_3).bind fun t103 => (some t103)) else (some (⟨#[]⟩ : ByteArray)))) = some r := h
  clear h
  replace H := Option.bind_eq_some_iff.mp H
  obtain ⟨t102, A20, H⟩ := H
  replace H : (if t102 = true then ((impl_putImage.f k l0_0 a0_1 a0_2 l0_3).bind fun t103 => (some t103)) else (some (⟨#[]⟩ : ByteArray))) = some r := H
  have A2 := Aside0.mk A20
  clear A20
  by_cases c3 : t102 = true
  · subst c3
    have H1 : ((impl_putImage.f k l0_0 a0_1 a0_2 l0_3).bind fun t103 => (some t103)) = some r := by rw [if_pos rfl] at H; exact H
    clear H
    have H := H1
    clear H1
    replace H := Option.bind_eq_some_iff.mp H
    obtain ⟨t103, A40, H⟩ := H
    replace H : (some t103) = some r := H
    have A4 := Aside0.mk A40
    clear A40
    obtain rfl := Option.some.inj H
    go_enter Try.func28, Try.ntmps28
    go_wp2_with (first | ((with_reducible refine gate_dst (N := 1) rfl ?_); refine box_event ?hg (N := 1) ?hd (cs := #[.slice A0_0 l0_0.length c0_0, .int .i64 a0_1, .int .i64 a0_2, .slice A0_3 l0_3.length c0_3]) (t := 33) ?hr ?_; (case hd => rfl); (case hg => rfl); (case hr => first | (go_simp; done) | (go_simp; rfl)); intro gb101 hg w5 hbox hb; have n0_ := Aside0.mk (below_step (by repeat (first | (with_reducible first | exact HB.out | apply below_alloc | apply pw_below_drewN | apply below_drew1) | exact HB.out)) hb); have n1_ := Aside0.mk (hbox); have n2_ := Aside0.mk ((by rw [hg]; exact (below_size (by repeat (first | (with_reducible first | exact HB.out | apply below_alloc | apply pw_below_drewN | apply below_drew1) | exact HB.out))) : w.heap.size ≤ gb101)); have n3_ := Aside0.mk ((by rw [hg]; exact (below_size (by repeat (first | (with_reducible first | exact HB.out | apply below_alloc | apply pw_below_drewN | apply below_drew1) | exact HB.out))) : w.heap.size ≤ gb101)); clear HB; have HB := n0_; have BK101 := n1_; have GW101 := n2_; have GE101 := n3_; clear n0_ n1_ n2_ n3_; clear hb hbox hg; have hcz6_0 : w5.cell? ⟨gb101, 0, none⟩ = some (.slice A0_0 l0_0.length c0_0) := (blk_cell BK101.out 0).trans rfl; have hcz6_1 : w5.cell? ⟨gb101, 1, none⟩ = some (.int .i64 a0_1) := (blk_cell BK101.out 1).trans rfl; have hcz6_2 : w5.cell? ⟨gb101, 2, none⟩ = some (.int .i64 a0_2) := (blk_cell BK101.out 2).trans rfl; have hcz6_3 : w5.cell? ⟨gb101, 3, none⟩ = some (.slice A0_3 l0_3.length c0_3) := (blk_cell BK101.out 3).trans rfl; have hfz6_0 := blk_frozen BK101.out 0; have hfz6_1 := blk_frozen BK101.out 1; have hfz6_2 := blk_frozen BK101.out 2; have hfz6_3 := blk_frozen BK101.out 3) | ((with_reducible refine gate_callee (f := 52) rfl ?_); refine goesL_ (some 4) rfl rfl Try.func52 (by kernel_rfl) rfl #[.agg #[.slice A0_0 l0_0.length c0_0, .int .i64 a0_1, .int .i64 a0_2, .slice A0_3 l0_3.length c0_3]] rfl (by (try simp only [List.map_toArray, List.map_cons, List.map_nil]); first | done | rfl | (simp only [List.length_drop, List.length_take]; rfl)) ?_; (with_reducible refine (impl_isImage.calls _ _ l0_0 a0_1 a0_2 _ _ l0_3 true _ ?side1 ?side2 ?side3 ?side4 A2.out).mono ?_); (case side1 => repeat (first | exact (Kd.C_below HR0_0.out HB.out) | (with_reducible refine Kd.C_alloc ?_ _) | (with_reducible refine Kd.C_drewN ?_ _) | (with_reducible refine Kd.C_drew ?_))); (case side2 => exact HC0_0.out); (case side3 => repeat (first | exact (Kd.C_below HR0_3.out HB.out) | (with_reducible refine Kd.C_alloc ?_ _) | (with_reducible refine Kd.C_drewN ?_ _) | (with_reducible refine Kd.C_drew ?_))); (case side4 => exact HC0_3.out); rintro e w7 ⟨rfl, hb⟩; refine ⟨_, rfl, ?_⟩; have n0_ := Aside0.mk (blk_below (g := gb101) (o := .cells #[.slice A0_0 l0_0.length c0_0, .int .i64 a0_1, .int .i64 a0_2, .slice A0_3 l0_3.length c0_3] 33 (0, 0)) (by (with_reducible repeat (first | refine blk_drewN ?_ _ | refine blk_drew ?_ | refine blk_alloc ?_ _)); exact BK101.out) hb); have n1_ := Aside0.mk (below_step (by repeat (first | (with_reducible first | exact HB.out | apply below_alloc | apply pw_below_drewN | apply below_drew1 | refine below_set ?_ GE101.out) | exact HB.out)) hb); clear BK101; clear HB; have BK101 := n0_; have HB := n1_; clear n0_ n1_; (try clear hb); (try clear hb2); (try clear hk); (try clear hi); have hcz8_0 : w7.cell? ⟨gb101, 0, none⟩ = some (.slice A0_0 l0_0.length c0_0) := (blk_cell BK101.out 0).trans rfl; have hcz8_1 : w7.cell? ⟨gb101, 1, none⟩ = some (.int .i64 a0_1) := (blk_cell BK101.out 1).trans rfl; have hcz8_2 : w7.cell? ⟨gb101, 2, none⟩ = some (.int .i64 a0_2) := (blk_cell BK101.out 2).trans rfl; have hcz8_3 : w7.cell? ⟨gb101, 3, none⟩ = some (.slice A0_3 l0_3.length c0_3) := (blk_cell BK101.out 3).trans rfl; have hfz8_0 := blk_frozen BK101.out 0; have hfz8_1 := blk_frozen BK101.out 1; have hfz8_2 := blk_frozen BK101.out 2; have hfz8_3 := blk_frozen BK101.out 3) | ((with_reducible refine gate_callee (f := 54) rfl ?_); refine goesL_ (some 7) rfl rfl Try.func54 (by kernel_rfl) rfl #[.agg #[.slice A0_0 l0_0.length c0_0, .int .i64 a0_1, .int .i64 a0_2, .slice A0_3 l0_3.length c0_3]] rfl (by (try simp only [List.map_toArray, List.map_cons, List.map_nil]); first | done | rfl | (simp only [List.length_drop, List.length_take]; rfl)) ?_; (with_reducible refine (impl_putImage.calls k _ _ l0_0 a0_1 a0_2 _ _ l0_3 t103 _ ?side1 ?side2 ?side3 ?side4 A4.out).mono ?_); (case side1 => repeat (first | exact (Kd.C_below HR0_0.out HB.out) | (with_reducible refine Kd.C_alloc ?_ _) | (with_reducible refine Kd.C_drewN ?_ _) | (with_reducible refine Kd.C_drew ?_))); (case side2 => exact HC0_0.out); (case side3 => repeat (first | exact (Kd.C_below HR0_3.out HB.out) | (with_reducible refine Kd.C_alloc ?_ _) | (with_reducible refine Kd.C_drewN ?_ _) | (with_reducible refine Kd.C_drew ?_))); (case side4 => exact HC0_3.out); rintro e w9 ⟨rfl, hb⟩; refine ⟨_, rfl, ?_⟩; have n0_ := Aside0.mk (blk_below (g := gb101) (o := .cells #[.slice A0_0 l0_0.length c0_0, .int .i64 a0_1, .int .i64 a0_2, .slice A0_3 l0_3.length c0_3] 33 (0, 0)) (by (with_reducible repeat (first | refine blk_drewN ?_ _ | refine blk_drew ?_ | refine blk_alloc ?_ _)); exact BK101.out) hb); have n1_ := Aside0.mk (below_step (by repeat (first | (with_reducible first | exact HB.out | apply below_alloc | apply pw_below_drewN | apply below_drew1 | refine below_set ?_ GE101.out) | exact HB.out)) hb); clear BK101; clear HB; have BK101 := n0_; have HB := n1_; clear n0_ n1_; (try clear hb); (try clear hb2); (try clear hk); (try clear hi)))
    go_ret
    exact ⟨by first | rfl | (simp [errW_none, errW_some] <;> rfl) | (simp [*, errW_none, errW_some] <;> rfl), by repeat (first | (with_reducible first | exact HB.out | apply below_alloc | apply pw_below_drewN | apply below_drew1 | refine below_set ?_ GE101.out) | exact HB.out)⟩
  · replace c3 := Bool.eq_false_iff.mpr c3
    subst c3
    have H1 : (some (⟨#[]⟩ : ByteArray)) = some r := by rw [if_neg (show ¬ (false = true) by decide)] at H; exact H
    clear H
    have H := H1
    clear H1
    obtain rfl := Option.some.inj H
    go_enter Try.func28, Try.ntmps28
    go_wp2_with (first | ((with_reducible refine gate_dst (N := 1) rfl ?_); refine box_event ?hg (N := 1) ?hd (cs := #[.slice A0_0 l0_0.length c0_0, .int .i64 a0_1, .int .i64 a0_2, .slice A0_3 l0_3.length c0_3]) (t := 33) ?hr ?_; (case hd => rfl); (case hg => rfl); (case hr => first | (go_simp; done) | (go_simp; rfl)); intro gb101 hg w10 hbox hb; have n0_ := Aside0.mk (below_step (by repeat (first | (with_reducible first | exact HB.out | apply below_alloc | apply pw_below_drewN | apply below_drew1) | exact HB.out)) hb); have n1_ := Aside0.mk (hbox); have n2_ := Aside0.mk ((by rw [hg]; exact (below_size (by repeat (first | (with_reducible first | exact HB.out | apply below_alloc | apply pw_below_drewN | apply below_drew1) | exact HB.out))) : w.heap.size ≤ gb101)); have n3_ := Aside0.mk ((by rw [hg]; exact (below_size (by repeat (first | (with_reducible first | exact HB.out | apply below_alloc | apply pw_below_drewN | apply below_drew1) | exact HB.out))) : w.heap.size ≤ gb101)); clear HB; have HB := n0_; have BK101 := n1_; have GW101 := n2_; have GE101 := n3_; clear n0_ n1_ n2_ n3_; clear hb hbox hg; have hcz11_0 : w10.cell? ⟨gb101, 0, none⟩ = some (.slice A0_0 l0_0.length c0_0) := (blk_cell BK101.out 0).trans rfl; have hcz11_1 : w10.cell? ⟨gb101, 1, none⟩ = some (.int .i64 a0_1) := (blk_cell BK101.out 1).trans rfl; have hcz11_2 : w10.cell? ⟨gb101, 2, none⟩ = some (.int .i64 a0_2) := (blk_cell BK101.out 2).trans rfl; have hcz11_3 : w10.cell? ⟨gb101, 3, none⟩ = some (.slice A0_3 l0_3.length c0_3) := (blk_cell BK101.out 3).trans rfl; have hfz11_0 := blk_frozen BK101.out 0; have hfz11_1 := blk_frozen BK101.out 1; have hfz11_2 := blk_frozen BK101.out 2; have hfz11_3 := blk_frozen BK101.out 3) | ((with_reducible refine gate_callee (f := 52) rfl ?_); refine goesL_ (some 4) rfl rfl Try.func52 (by kernel_rfl) rfl #[.agg #[.slice A0_0 l0_0.length c0_0, .int .i64 a0_1, .int .i64 a0_2, .slice A0_3 l0_3.length c0_3]] rfl (by (try simp only [List.map_toArray, List.map_cons, List.map_nil]); first | done | rfl | (simp only [List.length_drop, List.length_take]; rfl)) ?_; (with_reducible refine (impl_isImage.calls _ _ l0_0 a0_1 a0_2 _ _ l0_3 false _ ?side1 ?side2 ?side3 ?side4 A2.out).mono ?_); (case side1 => repeat (first | exact (Kd.C_below HR0_0.out HB.out) | (with_reducible refine Kd.C_alloc ?_ _) | (with_reducible refine Kd.C_drewN ?_ _) | (with_reducible refine Kd.C_drew ?_))); (case side2 => exact HC0_0.out); (case side3 => repeat (first | exact (Kd.C_below HR0_3.out HB.out) | (with_reducible refine Kd.C_alloc ?_ _) | (with_reducible refine Kd.C_drewN ?_ _) | (with_reducible refine Kd.C_drew ?_))); (case side4 => exact HC0_3.out); rintro e w12 ⟨rfl, hb⟩; refine ⟨_, rfl, ?_⟩; have n0_ := Aside0.mk (blk_below (g := gb101) (o := .cells #[.slice A0_0 l0_0.length c0_0, .int .i64 a0_1, .int .i64 a0_2, .slice A0_3 l0_3.length c0_3] 33 (0, 0)) (by (with_reducible repeat (first | refine blk_drewN ?_ _ | refine blk_drew ?_ | refine blk_alloc ?_ _)); exact BK101.out) hb); have n1_ := Aside0.mk (below_step (by repeat (first | (with_reducible first | exact HB.out | apply below_alloc | apply pw_below_drewN | apply below_drew1 | refine below_set ?_ GE101.out) | exact HB.out)) hb); clear BK101; clear HB; have BK101 := n0_; have HB := n1_; clear n0_ n1_; (try clear hb); (try clear hb2); (try clear hk); (try clear hi)))
    go_ret
    exact ⟨by first | rfl | (simp [errW_none, errW_some] <;> rfl) | (simp [*, errW_none, errW_some] <;> rfl), by repeat (first | (with_reducible first | exact HB.out | apply below_alloc | apply pw_below_drewN | apply below_drew1 | refine below_set ?_ GE101.out) | exact HB.out)⟩

end Go.Proofs.Ytnbaojaocagjcaa.P
end
section
-- Written for this claim by gp.py over the kit's print; not trusted: Lean checks it.

namespace Go.Proofs.Ytnbaojaocagjcaa.P
open Go.RowKit Go.Proofs.YtnbaojaocagjcaaW.PrintWords Go.Proofs.YtnbaojaocagjcaaW.PrintLast Go.Proofs.YtnbaojaocagjcaaW.PrintMore
set_option linter.unusedVariables false
set_option linter.unusedSimpArgs false

open Classical in
/-- Whether a test holds of 0 .. n - 1. -/
noncomputable def allB (n : Nat) (p : Nat → Prop) : Bool := decide (∀ j, j < n → p j)
open Classical in
theorem allB_true {n : Nat} {p : Nat → Prop} (h : ∀ j, j < n → p j) : allB n p = true := by
  unfold allB
  exact decide_eq_true h
open Classical in
theorem allB_iff {n : Nat} {p : Nat → Prop} : allB n p = true ↔ ∀ j, j < n → p j := by
  unfold allB
  exact decide_eq_true_iff
theorem allB_false {n i : Nat} {p : Nat → Prop} (hi : i < n) (h : ¬ p i) : allB n p = false := by
  cases e : allB n p with
  | false => rfl
  | true => exact absurd (allB_iff.mp e i hi) h
/-- A loop that goes on while a test holds. -/
theorem ev_all {ρ : Type} {n : Nat} {R e : ρ} (p : Nat → Prop) (f : Nat → Nat → Option ρ) (hend : Ev (f n) R) (hyes : ∀ i, i < n → p i → ∀ r, Ev (f (i + 1)) r → Ev (f i) r) (hno : ∀ i, i < n → ¬ p i → Ev (f i) e) : Ev (f 0) (bif allB n p then R else e) := by
  have key : ∀ d i, i + d = n → (∀ j, j < i → p j) → Ev (f i) (bif allB n p then R else e) := by
    intro d
    induction d with
    | zero =>
      intro i hi h
      have : i = n := by omega
      subst this
      rw [allB_true h]
      exact hend
    | succ d ih =>
      intro i hi h
      by_cases hp : p i
      · refine hyes i (by omega) hp _ (ih (i + 1) (by omega) ?_)
        intro j hj
        by_cases hji : j = i
        · rw [hji]; exact hp
        · exact h j (by omega)
      · rw [allB_false (by omega) hp]
        exact hno i (by omega) hp
  exact key n 0 (by omega) (fun j hj => absurd hj (by omega))
theorem allB_list {α : Type} (l : List α) (z : α) (q : α → Bool) : allB l.length (fun j => q (l.getD j z) = true) = !(l.any fun x => !q x) := by
  rw [Bool.eq_iff_iff, allB_iff]
  simp only [Bool.not_eq_true', List.any_eq_false, Bool.not_eq_true', Bool.not_eq_false]
  constructor
  · intro h x hx
    obtain ⟨j, hj, rfl⟩ := List.mem_iff_getElem.mp hx
    have := h j hj
    rw [List.getD_eq_getElem?_getD, List.getElem?_eq_getElem hj] at this
    simpa using this
  · intro h j hj
    have := h l[j] (List.getElem_mem hj)
    rw [List.getD_eq_getElem?_getD, List.getElem?_eq_getElem hj]
    simpa using this
end Go.Proofs.Ytnbaojaocagjcaa.P
end
section
-- Written for this claim by gp.py over the kit's print; not trusted: Lean checks it.






namespace Go.Proofs.Ytnbaojaocagjcaa.P
open Go.RowKit Go.Proofs.YtnbaojaocagjcaaW.PrintWords Go.Proofs.YtnbaojaocagjcaaW.PrintLast Go.Proofs.YtnbaojaocagjcaaW.PrintMore
set_option linter.unusedVariables false
set_option linter.unusedSimpArgs false

theorem specIn (a b c : Int) : spec_l01In.f a b c = some (inB a b c) := by
  unfold spec_l01In.f inB
  by_cases h : a ≥ b
  · rw [if_pos h]
    have h' : b ≤ a := h
    simp [h']
  · rw [if_neg h]
    have h' : ¬ b ≤ a := h
    simp [h']
theorem inB_point (a n : Int) : inB a n n = (a == n) := by
  unfold inB
  rw [Bool.eq_iff_iff]
  simp
  omega
/-- A test and then the rest. -/
theorem Ev.and {b c : Bool} {g : Nat → Option Bool} (h : b = true → Ev g c) : Ev (fun k => if b = true then g k else some false) (b && c) := by
  cases b with
  | false => exact Ev.neg (by decide) (Ev.now _)
  | true => exact Ev.pos rfl (h rfl)
theorem Ev.andP {p : Prop} [Decidable p] {b c : Bool} (e : b = decide p) {g : Nat → Option Bool} (h : b = true → Ev g c) : Ev (fun k => if p then g k else some false) (b && c) := by
  by_cases hp : p
  · have hb : b = true := by rw [e]; exact decide_eq_true hp
    subst hb
    exact Ev.pos hp (h rfl)
  · have hb : b = false := by rw [e]; exact decide_eq_false hp
    subst hb
    exact Ev.neg hp (Ev.now _)
def J3 (x5 x7 : Bool) (o : Int) (x98 : Bool) (N3 r v : Int) : Bool := bif x98 then x5 && (x7 && (v == 0)) else if o = 8 then (r == 0) && (x7 && inB v 0 N3) else if o = 9 then x5 && (x7 && inB v 0 N3) else false
theorem ev_j3 (x5 x7 : Bool) (o : Int) (x98 : Bool) (x0 : List Int) (x1 x2 : Int) (x3 : List S59) (o' r p q v : Int) : Ev (fun k => spec_l13WordOk.j3 k x5 x7 o x98 x0 x1 x2 x3 o' r p q v) (J3 x5 x7 o x98 (wrap64 ((x3.length : Int) - 1)) r v) := by
  refine Ev.step (fun k => by rw [spec_l13WordOk.j3]) ?_
  unfold J3
  cases x98 with
  | true => exact Ev.pos rfl (Ev.and fun _ => Ev.and fun _ => Ev.now _)
  | false =>
    refine Ev.neg (by decide) ?_
    by_cases h8 : o = 8
    · simp only [cond_false, if_pos h8]
      refine Ev.andP (by rw [Bool.eq_iff_iff]; simp) fun _ => Ev.and fun _ => ?_
      rw [specIn]
      exact Ev.now _
    · simp only [cond_false, if_neg h8]
      by_cases h9 : o = 9
      · simp only [if_pos h9]
        refine Ev.and fun _ => Ev.and fun _ => ?_
        rw [specIn]
        exact Ev.now _
      · simp only [if_neg h9]
        exact Ev.now _
def J2 (x5 x6 x7 : Bool) (o : Int) (x61 : Bool) (N0 N3 r q v : Int) : Bool := bif x61 then x5 && (x6 && ((q == 0) && inB v 0 N0)) else if o = 11 then x5 && (x6 && ((q == 0) && (v == 0))) else if o = 6 then J3 x5 x7 o (o == 6) N3 r v else if o = 7 then J3 x5 x7 o (o == 7) N3 r v else J3 x5 x7 o (o == 10) N3 r v
theorem ev_j2 (x5 x6 x7 : Bool) (o : Int) (x61 : Bool) (x0 : List Int) (x1 x2 : Int) (x3 : List S59) (o' r p q v : Int) : Ev (fun k => spec_l13WordOk.j2 k x5 x6 x7 o x61 x0 x1 x2 x3 o' r p q v) (J2 x5 x6 x7 o x61 (wrap64 ((x0.length : Int) - 1)) (wrap64 ((x3.length : Int) - 1)) r q v) := by
  refine Ev.step (fun k => by rw [spec_l13WordOk.j2]) ?_
  unfold J2
  cases x61 with
  | true =>
    refine Ev.pos rfl (Ev.and fun _ => Ev.and fun _ => Ev.andP (by rw [Bool.eq_iff_iff]; simp) fun _ => ?_)
    rw [specIn]
    exact Ev.now _
  | false =>
    refine Ev.neg (by decide) ?_
    by_cases h8 : o = 11
    · simp only [cond_false, if_pos h8]
      exact Ev.and fun _ => Ev.and fun _ => Ev.andP (by rw [Bool.eq_iff_iff]; simp) fun _ => Ev.now _
    · simp only [cond_false, if_neg h8]
      by_cases h6 : o = 6
      · simp only [if_pos h6]
        exact ev_j3 _ _ _ _ _ _ _ _ _ _ _ _ _
      · simp only [if_neg h6]
        by_cases h7 : o = 7
        · simp only [if_pos h7]
          exact ev_j3 _ _ _ _ _ _ _ _ _ _ _ _ _
        · simp only [if_neg h7]
          exact ev_j3 _ _ _ _ _ _ _ _ _ _ _ _ _
def J1 (x5 x6 x7 : Bool) (o : Int) (x30 : Bool) (N2 N0 N3 r q v : Int) : Bool := bif x30 then x5 && (x7 && inB v 0 N2) else if o = 3 then x5 && (x6 && (inB q 0 15 && inB v 0 5)) else if o = 4 then J2 x5 x6 x7 o (o == 4) N0 N3 r q v else J2 x5 x6 x7 o (o == 5) N0 N3 r q v
theorem ev_j1 (x5 x6 x7 : Bool) (o : Int) (x30 : Bool) (x0 : List Int) (x1 x2 : Int) (x3 : List S59) (o' r p q v : Int) : Ev (fun k => spec_l13WordOk.j1 k x5 x6 x7 o x30 x0 x1 x2 x3 o' r p q v) (J1 x5 x6 x7 o x30 (wrap64 (x2 - 1)) (wrap64 ((x0.length : Int) - 1)) (wrap64 ((x3.length : Int) - 1)) r q v) := by
  refine Ev.step (fun k => by rw [spec_l13WordOk.j1]) ?_
  unfold J1
  cases x30 with
  | true =>
    refine Ev.pos rfl (Ev.and fun _ => Ev.and fun _ => ?_)
    rw [specIn]
    exact Ev.now _
  | false =>
    refine Ev.neg (by decide) ?_
    by_cases h8 : o = 3
    · simp only [cond_false, if_pos h8]
      refine Ev.and fun _ => Ev.and fun _ => ?_
      rw [specIn, specIn]
      exact Ev.val (Ev.and fun _ => Ev.now _)
    · simp only [cond_false, if_neg h8]
      by_cases h6 : o = 4
      · simp only [if_pos h6]
        exact ev_j2 _ _ _ _ _ _ _ _ _ _ _ _ _ _
      · simp only [if_neg h6]
        exact ev_j2 _ _ _ _ _ _ _ _ _ _ _ _ _ _
def J0 (x5 x6 x7 : Bool) (o N2 N0 N3 r q v : Int) : Bool := if o = 0 then x5 && x7 else if o = 1 then J1 x5 x6 x7 o (o == 1) N2 N0 N3 r q v else J1 x5 x6 x7 o (o == 2) N2 N0 N3 r q v
theorem ev_j0 (x5 x6 x7 : Bool) (x0 : List Int) (x1 x2 : Int) (x3 : List S59) (o r p q v : Int) : Ev (fun k => spec_l13WordOk.j0 k x5 x6 x7 x0 x1 x2 x3 o r p q v) (J0 x5 x6 x7 o (wrap64 (x2 - 1)) (wrap64 ((x0.length : Int) - 1)) (wrap64 ((x3.length : Int) - 1)) r q v) := by
  refine Ev.step (fun k => by rw [spec_l13WordOk.j0]) ?_
  unfold J0
  by_cases h6 : o = 0
  · simp only [if_pos h6]
    exact Ev.and fun _ => Ev.now _
  · simp only [if_neg h6]
    by_cases h7 : o = 1
    · simp only [if_pos h7]
      exact ev_j1 _ _ _ _ _ _ _ _ _ _ _ _ _ _
    · simp only [if_neg h7]
      exact ev_j1 _ _ _ _ _ _ _ _ _ _ _ _ _ _
theorem wordIs_J0 (N2 N0 N3 o r p q v s n0 n3 : Int) (h0 : n0 - 1 = N0) (h3 : n3 - 1 = N3) (h2 : wrap64 (s - 1) = N2) : wordIs n0 s n3 o r p q v = J0 (inB r 0 15) (inB p 0 15) (p == 0 && q == 0) o N2 N0 N3 r q v := by
  have h0p : (p == 0) = true → inB p 0 15 = true := by intro h; rw [eq_of_beq h]; rfl
  have h0q : (q == 0) = true → inB q 0 15 = true := by intro h; rw [eq_of_beq h]; rfl
  have h0r : (r == 0) = true → inB r 0 15 = true := by intro h; rw [eq_of_beq h]; rfl
  unfold wordIs wordFin regOk J0 J1 J2 J3
  rw [h0, h3, h2, inB_point v 0, inB_point 0 0]
  generalize (p == 0) = P at *
  generalize (q == 0) = Q at *
  generalize (r == 0) = R at *
  generalize (v == 0) = V at *
  generalize inB p 0 15 = p' at *
  generalize inB q 0 15 = q' at *
  generalize inB r 0 15 = r' at *
  generalize inB v 0 N0 = v0 at *
  generalize inB v 0 N2 = v2 at *
  generalize inB v 0 N3 = v3 at *
  generalize inB v 0 5 = v5 at *
  clear h0 h3 h2
  by_cases e0 : o = 0
  · subst e0; simp; cases P <;> cases Q <;> cases R <;> cases r' <;> cases p' <;> cases q' <;> simp_all
  by_cases e1 : o = 1
  · subst e1; simp; cases P <;> cases Q <;> cases R <;> cases r' <;> cases p' <;> cases q' <;> simp_all
  by_cases e2 : o = 2
  · subst e2; simp; cases P <;> cases Q <;> cases R <;> cases r' <;> cases p' <;> cases q' <;> simp_all
  by_cases e3 : o = 3
  · subst e3; simp; cases P <;> cases Q <;> cases R <;> cases r' <;> cases p' <;> cases q' <;> simp_all
  by_cases e4 : o = 4
  · subst e4; simp; cases P <;> cases Q <;> cases R <;> cases r' <;> cases p' <;> cases q' <;> simp_all
  by_cases e5 : o = 5
  · subst e5; simp; cases P <;> cases Q <;> cases R <;> cases r' <;> cases p' <;> cases q' <;> simp_all
  by_cases e6 : o = 6
  · subst e6; simp; cases P <;> cases Q <;> cases R <;> cases r' <;> cases p' <;> cases q' <;> simp_all
  by_cases e7 : o = 7
  · subst e7; simp; cases P <;> cases Q <;> cases R <;> cases r' <;> cases p' <;> cases q' <;> simp_all
  by_cases e8 : o = 8
  · subst e8; simp; cases P <;> cases Q <;> cases R <;> cases r' <;> cases p' <;> cases q' <;> simp_all
  by_cases e9 : o = 9
  · subst e9; simp; cases P <;> cases Q <;> cases R <;> cases r' <;> cases p' <;> cases q' <;> simp_all
  by_cases e10 : o = 10
  · subst e10; simp; cases P <;> cases Q <;> cases R <;> cases r' <;> cases p' <;> cases q' <;> simp_all
  by_cases e11 : o = 11
  · subst e11; simp; cases P <;> cases Q <;> cases R <;> cases r' <;> cases p' <;> cases q' <;> simp_all
  simp [e0, e1, e2, e3, e4, e5, e6, e7, e8, e9, e10, e11]
theorem ev_WordOk (x0 : List Int) (x1 x2 : Int) (x3 : List S59) (o r p q v : Int) (h0 : x0.length ≤ 9223372036854775807) (h3 : x3.length ≤ 9223372036854775807) :
    Ev (fun k => spec_l13WordOk.f k x0 x1 x2 x3 o r p q v) (wordIs (x0.length : Int) x2 (x3.length : Int) o r p q v) := by
  unfold spec_l13WordOk.f
  rw [specIn, specIn]
  refine Ev.val (Ev.val ?_)
  have main := ev_j0 (inB r 0 15) (inB p 0 15) (p == 0 && q == 0) x0 x1 x2 x3 o r p q v
  rw [← wordIs_J0 _ _ _ o r p q v x2 (x0.length : Int) (x3.length : Int) (wrap_in (by omega) (by omega)).symm (wrap_in (by omega) (by omega)).symm rfl] at main
  by_cases hp : p = 0
  · refine Ev.pos hp ?_
    have e : (p == 0 && q == 0) = (q == 0) := by rw [hp]; simp
    rw [e] at main
    exact main
  · refine Ev.neg hp ?_
    have e : (p == 0 && q == 0) = false := by simp [hp]
    rw [e] at main
    exact main

end Go.Proofs.Ytnbaojaocagjcaa.P
end
section
-- Written for this claim by gp.py over the kit's print; not trusted: Lean checks it.








namespace Go.Proofs.Ytnbaojaocagjcaa.P
open Go.RowKit Go.Proofs.YtnbaojaocagjcaaW.PrintWords Go.Proofs.YtnbaojaocagjcaaW.PrintLast Go.Proofs.YtnbaojaocagjcaaW.PrintMore
set_option linter.unusedVariables false
set_option linter.unusedSimpArgs false

theorem rd_impl_Word {l : List S59} {i : Nat} (h : i < l.length) : rd_T59 l (i : Int) = l[i] := by simp [rd_T59, List.getD_eq_getElem?_getD, h]
def lastOk (x3 : List S59) : Bool := ((rd_T59 x3 ((x3.length : Int) - 1)).f0 == 10) || ((rd_T59 x3 ((x3.length : Int) - 1)).f0 == 8)
def wordsOk (x0 : List Int) (x2 : Int) (x3 : List S59) : Bool := !(x3.any fun x => !wordIs (x0.length : Int) x2 (x3.length : Int) x.f0 x.f1 x.f2 x.f3 x.f4)
theorem ev_ImageOk_j1 (b : Bool) (x0 : List Int) (x1 x2 : Int) (x3 : List S59) (h0 : x0.length ≤ 9223372036854775807) (h3 : x3.length ≤ 9223372036854775807) (hb : b = true → 1 ≤ x3.length) :
    Ev (fun k => spec_ImageOk.j1 k (x3.length : Int) (!b) x0 x1 x2 x3) (b && (wordsOk x0 x2 x3 && lastOk x3)) := by
  refine Ev.step (fun k => by rw [spec_ImageOk.j1]) ?_
  cases b with
  | false => exact Ev.pos rfl (Ev.now _)
  | true =>
    have hn := hb rfl
    refine Ev.neg (by decide) ?_
    have key := ev_all (n := x3.length) (R := lastOk x3) (e := false) (fun j => (fun x : S59 => wordIs (x0.length : Int) x2 (x3.length : Int) x.f0 x.f1 x.f2 x.f3 x.f4) (x3.getD j z59) = true) (fun i k => spec_ImageOk.l1 k (x3.length : Int) (i : Int) x0 x1 x2 x3) ?_ ?_ ?_
    · rw [allB_list x3 z59 (fun x : S59 => wordIs (x0.length : Int) x2 (x3.length : Int) x.f0 x.f1 x.f2 x.f3 x.f4)] at key
      rw [Bool.true_and]
      unfold wordsOk
      rw [show ∀ b c : Bool, (b && c) = (bif b then c else false) from by decide]
      exact key
    · refine Ev.step (fun k => by rw [spec_ImageOk.l1]) ?_
      refine Ev.neg (by omega) ?_
      rw [wrap_in (by omega) (by omega)]
      refine Ev.pos (by omega) (Ev.pos (by omega) ?_)
      unfold lastOk
      by_cases h : (rd_T59 x3 ((x3.length : Int) - 1)).f0 = 10
      · rw [h]
        exact Ev.pos rfl (Ev.now _)
      · rw [beq_false_of_ne h, Bool.false_or]
        exact Ev.neg h (Ev.now _)
    · intro i hi hp r hr
      refine Ev.step (fun k => by rw [spec_ImageOk.l1]) ?_
      refine Ev.pos (by omega) (Ev.pos (by omega) (Ev.pos (by omega) ?_))
      refine Ev.bind (ev_WordOk x0 x1 x2 x3 _ _ _ _ _ h0 h3) ?_
      refine Ev.pos hp ?_
      rw [wrap_succ hi h3]
      exact hr
    · intro i hi hp
      refine Ev.step (fun k => by rw [spec_ImageOk.l1]) ?_
      refine Ev.pos (by omega) (Ev.pos (by omega) (Ev.pos (by omega) ?_))
      refine Ev.bind (ev_WordOk x0 x1 x2 x3 _ _ _ _ _ h0 h3) ?_
      exact Ev.neg hp (Ev.now _)
theorem ev_ImageOk_spec (x0 : List Int) (x1 x2 : Int) (x3 : List S59) (h0 : x0.length ≤ 9223372036854775807) (h3 : x3.length ≤ 9223372036854775807) :
    Ev (fun k => spec_ImageOk.f k x0 x1 x2 x3) (imageOk x0 x1 x2 x3) := by
  unfold spec_ImageOk.f
  have tail : Ev (fun k => spec_ImageOk.l0 k (x0.length : Int) x0 x1 x2 x3) (inB (x0.length : Int) 1 4 && (inB x1 0 6 && (inB x2 x1 1000 && (inB (x3.length : Int) 1 6000 && (wordsOk x0 x2 x3 && lastOk x3))))) := by
    have no := ev_ImageOk_j1 false x0 x1 x2 x3 h0 h3 (fun h => Bool.noConfusion h)
    rw [Bool.false_and] at no
    refine Ev.step (fun k => by rw [spec_ImageOk.l0]) ?_
    refine Ev.neg (by omega) ?_
    rw [specIn, specIn, specIn, specIn]
    refine Ev.val ?_
    cases inB (x0.length : Int) 1 4 with
    | false => exact Ev.neg (by decide) no
    | true =>
      refine Ev.pos rfl (Ev.val ?_)
      cases inB x1 0 6 with
      | false => exact Ev.neg (by decide) no
      | true =>
        refine Ev.pos rfl (Ev.val ?_)
        cases inB x2 x1 1000 with
        | false => exact Ev.neg (by decide) no
        | true =>
          refine Ev.pos rfl (Ev.val ?_)
          rw [Bool.true_and, Bool.true_and, Bool.true_and]
          refine ev_ImageOk_j1 _ x0 x1 x2 x3 h0 h3 (fun h => ?_)
          unfold inB at h
          simp at h
          omega
  have key := ev_all (n := x0.length) (R := _) (e := false) (fun j => (fun n : Int => inB n 1 16) (x0.getD j 0) = true) (fun i k => spec_ImageOk.l0 k (i : Int) x0 x1 x2 x3) tail ?_ ?_
  · rw [allB_list x0 0 (fun n : Int => inB n 1 16)] at key
    refine Eq.mp (congrArg _ ?_) key
    unfold imageOk progOk
    rw [show inB 0 0 (if (0 : Int) < 6 then 0 else 6) = true from rfl, show decide ((0 : Int) ≤ 20) = true from rfl]
    show _ = (inB (x0.length : Int) 1 4 && (!(x0.any fun n => !inB n 1 16)) && true && true && inB x1 0 6 && inB x2 x1 1000 && inB (x3.length : Int) 1 6000 && lastOk x3 && wordsOk x0 x2 x3)
    generalize (!(x0.any fun n => !inB n 1 16)) = a
    generalize inB (x0.length : Int) 1 4 = b
    generalize inB x1 0 6 = c
    generalize inB x2 x1 1000 = d
    generalize inB (x3.length : Int) 1 6000 = e
    generalize lastOk x3 = f
    generalize wordsOk x0 x2 x3 = g
    revert a b c d e f g
    decide
  · intro i hi hp r hr
    refine Ev.step (fun k => by rw [spec_ImageOk.l0]) ?_
    refine Ev.pos (by omega) (Ev.pos (by omega) ?_)
    rw [specIn]
    refine Ev.val (Ev.pos hp ?_)
    rw [wrap_succ hi h0]
    exact hr
  · intro i hi hp
    refine Ev.step (fun k => by rw [spec_ImageOk.l0]) ?_
    refine Ev.pos (by omega) (Ev.pos (by omega) ?_)
    rw [specIn]
    exact Ev.val (Ev.neg hp (Ev.now _))

end Go.Proofs.Ytnbaojaocagjcaa.P
end
section
-- Written for this claim by gp.py over the kit's print; not trusted: Lean checks it.



namespace Go.Proofs.Ytnbaojaocagjcaa.P
open Go.RowKit Go.Proofs.YtnbaojaocagjcaaW.PrintWords Go.Proofs.YtnbaojaocagjcaaW.PrintLast Go.Proofs.YtnbaojaocagjcaaW.PrintMore
set_option linter.unusedVariables false
set_option linter.unusedSimpArgs false

theorem sum_both (s : ByteArray) (hs : s.size ≤ 140737488351232) (d : Nat) : ∀ (k : Nat) (i x : Int), 0 ≤ i → i ≤ s.size → (s.size : Int) - i = d → d < k →
    ∃ r, spec_Sum.l0 k s x i = some r ∧ impl_sum.l0 k s x (s.size : Int) i = some r := by
  induction d with
  | zero =>
    intro k i x h0 h1 hd hk
    obtain ⟨k, rfl⟩ : ∃ m, k = m + 1 := ⟨k - 1, by omega⟩
    refine ⟨x, ?_, ?_⟩
    · simp only [spec_Sum.l0]; rw [if_neg (by omega)]
    · simp only [impl_sum.l0]; rw [if_neg (by omega)]
  | succ d ih =>
    intro k i x h0 h1 hd hk
    obtain ⟨k, rfl⟩ : ∃ m, k = m + 1 := ⟨k - 1, by omega⟩
    have hw : wrap64 (i + 1) = i + 1 := by unfold wrap64; omega
    obtain ⟨r, h2, h3⟩ := ih k (i + 1) (((Go.bits .xor .u32 x ((bt s i) % 4294967296)) * 16777619) % 4294967296) (by omega) (by omega) (by omega) (by omega)
    refine ⟨r, ?_, ?_⟩
    · simp only [spec_Sum.l0]; rw [if_pos (by omega), if_pos h0, hw]; exact h2
    · simp only [impl_sum.l0]; rw [if_pos (by omega), if_pos h0, if_pos (by omega), hw]; exact h3
theorem LeO_up {α : Type} {f : Nat → Option α} (h : ∀ k, LeO (f k) (f (k + 1))) {k : Nat} {r : α} (e : f k = some r) : Ev f r := by
  refine ⟨k, fun m hm => ?_⟩
  obtain ⟨d, rfl⟩ : ∃ d, m = k + d := ⟨m - k, by omega⟩
  induction d with
  | zero => exact e
  | succ d ih => exact h (k + d) r (ih (by omega))
theorem ev_sums (s : ByteArray) (hs : s.size ≤ 140737488351232) : ∃ r, Ev (fun k => spec_Sum.f k s) r ∧ Ev (fun k => impl_sum.f k s) r := by
  obtain ⟨r, h1, h2⟩ := sum_both s hs s.size (s.size + 1) 0 2166136261 (by omega) (by omega) (by omega) (by omega)
  exact ⟨r, LeO_up (fun k => spec_Sum.mono s k) h1, LeO_up (fun k => impl_sum.mono s k) h2⟩

end Go.Proofs.Ytnbaojaocagjcaa.P
end
section
-- Written for this claim by gp.py over the kit's print; not trusted: Lean checks it.











namespace Go.Proofs.Ytnbaojaocagjcaa.P
open Go.RowKit Go.Proofs.YtnbaojaocagjcaaW.PrintWords Go.Proofs.YtnbaojaocagjcaaW.PrintLast Go.Proofs.YtnbaojaocagjcaaW.PrintMore
set_option linter.unusedVariables false
set_option linter.unusedSimpArgs false

theorem be8_length (v : Int) : (be8 v).length = 8 := rfl
theorem u64_id {x : Int} (h0 : 0 ≤ x) (h1 : x < 18446744073709551616) : IntKind.u64.wrap x = x := by
  have e : IntKind.u64.wrap x = x % 18446744073709551616 := by simp [IntKind.wrap, IntKind.signed, IntKind.bits]
  omega
theorem byte_of {u d : Int} (h0 : 0 ≤ u) (h1 : u < 18446744073709551616) (hd : 0 < d) : (Int.tmod (IntKind.u64.wrap (Int.tdiv u d)) 256) % 256 = u / d % 256 := by
  have e1 : Int.tdiv u d = u / d := Int.tdiv_eq_ediv_of_nonneg h0
  have e2 : 0 ≤ u / d := Int.ediv_nonneg h0 (by omega)
  have e3 : u / d ≤ u := Int.ediv_le_self d h0
  rw [e1, u64_id e2 (by omega), Int.tmod_eq_emod_of_nonneg e2]
  omega
theorem ev_Num (n : Int) : Ev (fun k => spec_l14Num.f k n) (be8 (IntKind.u64.wrap n)) := by
  obtain ⟨u0, u1⟩ := u64_range n
  unfold spec_l14Num.f
  generalize IntKind.u64.wrap n = u at u0 u1 ⊢
  refine Ev.step (fun k => by rw [spec_l14Num.l0]) ?_
  refine Ev.pos (by decide) (Ev.neg (by decide) (Ev.pos (by simp) ?_))
  rw [show IntKind.u64.wrap (Int.tdiv 72057594037927936 256) = 281474976710656 from by decide, byte_of u0 u1 (d := 72057594037927936) (by decide), show wrap64 (0 + 1) = 1 from wrap_in (by decide) (by decide)]
  refine Ev.step (fun k => by rw [spec_l14Num.l0]) ?_
  refine Ev.pos (by decide) (Ev.neg (by decide) (Ev.pos (by simp) ?_))
  rw [show IntKind.u64.wrap (Int.tdiv 281474976710656 256) = 1099511627776 from by decide, byte_of u0 u1 (d := 281474976710656) (by decide), show wrap64 (1 + 1) = 2 from wrap_in (by decide) (by decide)]
  refine Ev.step (fun k => by rw [spec_l14Num.l0]) ?_
  refine Ev.pos (by decide) (Ev.neg (by decide) (Ev.pos (by simp) ?_))
  rw [show IntKind.u64.wrap (Int.tdiv 1099511627776 256) = 4294967296 from by decide, byte_of u0 u1 (d := 1099511627776) (by decide), show wrap64 (2 + 1) = 3 from wrap_in (by decide) (by decide)]
  refine Ev.step (fun k => by rw [spec_l14Num.l0]) ?_
  refine Ev.pos (by decide) (Ev.neg (by decide) (Ev.pos (by simp) ?_))
  rw [show IntKind.u64.wrap (Int.tdiv 4294967296 256) = 16777216 from by decide, byte_of u0 u1 (d := 4294967296) (by decide), show wrap64 (3 + 1) = 4 from wrap_in (by decide) (by decide)]
  refine Ev.step (fun k => by rw [spec_l14Num.l0]) ?_
  refine Ev.pos (by decide) (Ev.neg (by decide) (Ev.pos (by simp) ?_))
  rw [show IntKind.u64.wrap (Int.tdiv 16777216 256) = 65536 from by decide, byte_of u0 u1 (d := 16777216) (by decide), show wrap64 (4 + 1) = 5 from wrap_in (by decide) (by decide)]
  refine Ev.step (fun k => by rw [spec_l14Num.l0]) ?_
  refine Ev.pos (by decide) (Ev.neg (by decide) (Ev.pos (by simp) ?_))
  rw [show IntKind.u64.wrap (Int.tdiv 65536 256) = 256 from by decide, byte_of u0 u1 (d := 65536) (by decide), show wrap64 (5 + 1) = 6 from wrap_in (by decide) (by decide)]
  refine Ev.step (fun k => by rw [spec_l14Num.l0]) ?_
  refine Ev.pos (by decide) (Ev.neg (by decide) (Ev.pos (by simp) ?_))
  rw [show IntKind.u64.wrap (Int.tdiv 256 256) = 1 from by decide, byte_of u0 u1 (d := 256) (by decide), show wrap64 (6 + 1) = 7 from wrap_in (by decide) (by decide)]
  refine Ev.step (fun k => by rw [spec_l14Num.l0]) ?_
  refine Ev.pos (by decide) (Ev.neg (by decide) (Ev.pos (by simp) ?_))
  rw [show IntKind.u64.wrap (Int.tdiv 1 256) = 0 from by decide, byte_of u0 u1 (d := 1) (by decide), show wrap64 (7 + 1) = 8 from wrap_in (by decide) (by decide)]
  refine Ev.step (fun k => by rw [spec_l14Num.l0]) ?_
  refine Ev.neg (by decide) ?_
  refine Ev.here ?_
  congr 1
  simp [be8]
  omega
theorem beAll_one (n : Int) : beAll [n] = be8 (IntKind.u64.wrap n) := by simp [beAll]
section
variable {x0 : List Int} {x1 x2 : Int} {l : List S59} {r : ByteArray}
theorem ev_Put_l2 {x5 : Int} {ys : List Int} (h5 : ys.length = 5) : ∀ (d j : Nat) (acc : List Int), j + d = 5 → acc.length + 8 * d ≤ 1099511627776 → Ev (fun k => spec_PutImage.l1 k (acc ++ beAll (ys.drop j)) (wrap64 (x5 + 1)) x0 x1 x2 l) r → Ev (fun k => spec_PutImage.l2 k acc x5 ys (j : Int) x0 x1 x2 l) r := by
  intro d
  induction d with
  | zero =>
    intro j acc hj ha h
    refine Ev.step (fun k => by rw [spec_PutImage.l2]) ?_
    refine Ev.neg (by omega) ?_
    rw [List.drop_eq_nil_of_le (by omega)] at h
    simpa [beAll] using h
  | succ d ih =>
    intro j acc hj ha h
    have hj' : j < ys.length := by omega
    have hr : rd ys (j : Int) = ys[j] := by rw [rd_nat, List.getD_eq_getElem?_getD, List.getElem?_eq_getElem hj']; rfl
    refine Ev.step (fun k => by rw [spec_PutImage.l2]) ?_
    refine Ev.pos (by omega) (Ev.pos (by omega) (Ev.pos (by omega) ?_))
    refine Ev.bind (ev_Num _) (Ev.pos (by rw [be8_length]; omega) ?_)
    rw [wrap_succ hj' (by omega)]
    refine ih (j + 1) _ (by omega) (by rw [List.length_append, be8_length]; omega) ?_
    rw [List.drop_eq_getElem_cons hj', show ys[j] :: ys.drop (j + 1) = [ys[j]] ++ ys.drop (j + 1) from rfl, beAll_append, beAll_one, ← List.append_assoc, ← hr] at h
    exact h
theorem ev_Put_l1 (hl : l.length ≤ 1048576) (t : Int) : ∀ (d i : Nat) (acc : List Int), i + d = l.length → acc.length + 40 * d ≤ 109951162777 → Ev (fun k => spec_Sum.f k (strOfNums (acc ++ beAll (wordNums (l.drop i))))) t → Ev (fun k => spec_PutImage.l1 k acc (i : Int) x0 x1 x2 l) (strOfNums (acc ++ beAll (wordNums (l.drop i)) ++ beAll [wrap64 t])) := by
  intro d
  induction d with
  | zero =>
    intro i acc hi ha h
    rw [List.drop_eq_nil_of_le (by omega)] at h ⊢
    have e : acc ++ beAll (wordNums ([] : List S59)) = acc := by simp [wordNums, beAll]
    rw [e] at h ⊢
    refine Ev.step (fun k => by rw [spec_PutImage.l1]) ?_
    refine Ev.neg (by omega) (Ev.bind h (Ev.bind (ev_Num _) (Ev.pos (by rw [be8_length]; omega) ?_)))
    rw [beAll_one]
    exact Ev.now _
  | succ d ih =>
    intro i acc hi ha h
    have hi' : i < l.length := by omega
    have hr : rd_T59 l (i : Int) = l[i] := rd_impl_Word hi'
    have e : beAll (wordNums (l.drop i)) = beAll [l[i].f0, l[i].f1, l[i].f2, l[i].f3, l[i].f4] ++ beAll (wordNums (l.drop (i + 1))) := by
      rw [List.drop_eq_getElem_cons hi', ← beAll_append]
      rfl
    refine Ev.step (fun k => by rw [spec_PutImage.l1]) ?_
    refine Ev.pos (by omega) (Ev.pos (by omega) ?_)
    refine ev_Put_l2 rfl 5 0 acc rfl (by omega) ?_
    rw [wrap_succ hi' (by omega), hr, List.drop_zero]
    rw [e, ← List.append_assoc] at h ⊢
    exact ih (i + 1) _ (by omega) (by rw [List.length_append, beAll_length]; simp; omega) h
theorem ev_Put_l0 (h0 : x0.length ≤ 1048576) (hl : l.length ≤ 1048576) (t : Int) : ∀ (d i : Nat) (acc : List Int), i + d = x0.length → acc.length + 8 * d ≤ 10995116277 → Ev (fun k => spec_Sum.f k (strOfNums (acc ++ beAll (x0.drop i) ++ beAll [x1, x2, (l.length : Int)] ++ beAll (wordNums l)))) t → Ev (fun k => spec_PutImage.l0 k acc (i : Int) x0 x1 x2 l) (strOfNums (acc ++ beAll (x0.drop i) ++ beAll [x1, x2, (l.length : Int)] ++ beAll (wordNums l) ++ beAll [wrap64 t])) := by
  intro d
  induction d with
  | zero =>
    intro i acc hi ha h
    rw [List.drop_eq_nil_of_le (by omega)] at h ⊢
    have e : acc ++ beAll [] ++ beAll [x1, x2, (l.length : Int)] = acc ++ be8 (IntKind.u64.wrap x1) ++ be8 (IntKind.u64.wrap x2) ++ be8 (IntKind.u64.wrap (l.length : Int)) := by simp [beAll]
    rw [e] at h ⊢
    refine Ev.step (fun k => by rw [spec_PutImage.l0]) ?_
    refine Ev.neg (by omega) (Ev.bind (ev_Num _) (Ev.pos (by rw [be8_length]; omega) (Ev.val (Ev.bind (ev_Num _) (Ev.pos (by rw [List.length_append, be8_length, be8_length]; omega) (Ev.val (Ev.bind (ev_Num _) (Ev.pos (by rw [List.length_append, List.length_append, be8_length, be8_length, be8_length]; omega) ?_))))))))
    have := ev_Put_l1 (x0 := x0) (x1 := x1) (x2 := x2) hl t l.length 0 (acc ++ be8 (IntKind.u64.wrap x1) ++ be8 (IntKind.u64.wrap x2) ++ be8 (IntKind.u64.wrap (l.length : Int))) (by omega) (by simp only [List.length_append, be8_length]; omega) (by rw [List.drop_zero]; exact h)
    rw [List.drop_zero] at this
    exact this
  | succ d ih =>
    intro i acc hi ha h
    have hi' : i < x0.length := by omega
    have hr : rd x0 (i : Int) = x0[i] := by rw [rd_nat, List.getD_eq_getElem?_getD, List.getElem?_eq_getElem hi']; rfl
    have e : beAll (x0.drop i) = be8 (IntKind.u64.wrap (rd x0 (i : Int))) ++ beAll (x0.drop (i + 1)) := by
      rw [List.drop_eq_getElem_cons hi', show x0[i] :: x0.drop (i + 1) = [x0[i]] ++ x0.drop (i + 1) from rfl, beAll_append, beAll_one, hr]
    refine Ev.step (fun k => by rw [spec_PutImage.l0]) ?_
    refine Ev.pos (by omega) (Ev.pos (by omega) (Ev.bind (ev_Num _) (Ev.pos (by rw [be8_length]; omega) ?_)))
    rw [wrap_succ hi' (by omega)]
    rw [e, ← List.append_assoc] at h ⊢
    exact ih (i + 1) _ (by omega) (by rw [List.length_append, be8_length]; omega) h
end
end Go.Proofs.Ytnbaojaocagjcaa.P
end
section
-- Written for this claim by gp.py over the kit's print; not trusted: Lean checks it.



namespace Go.Proofs.Ytnbaojaocagjcaa.P
open Go.RowKit Go.Proofs.YtnbaojaocagjcaaW.PrintWords Go.Proofs.YtnbaojaocagjcaaW.PrintLast Go.Proofs.YtnbaojaocagjcaaW.PrintMore
set_option linter.unusedVariables false
set_option linter.unusedSimpArgs false

theorem inB_spec (a b c : Int) : spec_l01In.f a b c = some (inB a b c) := by
  unfold spec_l01In.f inB
  by_cases h : a ≥ b
  · rw [if_pos h]
    have h' : b ≤ a := h
    simp [h']
  · rw [if_neg h]
    have h' : ¬ b ≤ a := h
    simp [h']

end Go.Proofs.Ytnbaojaocagjcaa.P
end
section
-- Written for this claim by gp.py over the kit's print; not trusted: Lean checks it.
















namespace Go.Proofs.Ytnbaojaocagjcaa.P
open Go.RowKit Go.Proofs.YtnbaojaocagjcaaW.PrintWords Go.Proofs.YtnbaojaocagjcaaW.PrintLast Go.Proofs.YtnbaojaocagjcaaW.PrintMore
set_option linter.unusedVariables false
set_option linter.unusedSimpArgs false

theorem ev_In_spec (a b c : Int) : Ev (fun _ => spec_l01In.f a b c) (inB a b c) := Ev.here (inB_spec a b c)
/-- The first bytes from o on, as a number. -/
def accN (s : ByteArray) (o : Nat) : Nat → Nat
  | 0 => 0
  | j + 1 => 256 * accN s o j + (byteAt s (o + j)).toNat
theorem accN_lt (s : ByteArray) (o j : Nat) : accN s o j < 256 ^ j := by
  induction j with
  | zero => simp [accN]
  | succ j ih =>
    have := (byteAt s (o + j)).toNat_lt
    rw [accN, Nat.pow_succ]
    omega
theorem accN_be (s : ByteArray) (o : Nat) : accN s o 8 = Lib.beNat [byteAt s o, byteAt s (o + 1), byteAt s (o + 2), byteAt s (o + 3), byteAt s (o + 4), byteAt s (o + 5), byteAt s (o + 6), byteAt s (o + 7)] := by
  simp only [Lib.beNat, Lib.beFrom, accN, Nat.add_zero]
  omega
theorem bt_byteAt {s : ByteArray} {i : Nat} (h : i < s.size) : bt s (i : Int) = ((byteAt s i).toNat : Int) := by
  unfold bt byteAt
  rw [dif_pos (by simpa using h)]
  simp only [Int.toNat_natCast]
  rw [List.getD_eq_getElem?_getD, List.getElem?_eq_getElem (by simpa using h)]
  rfl
theorem ev_l14Get (s : ByteArray) (o : Nat) (h : o + 8 ≤ s.size) (hs : s.size ≤ 1048576) : Ev (fun k => spec_l14Get.f k s (o : Int)) (wrap64 (accN s o 8)) := by
  have key : ∀ d j : Nat, j + d = 8 → Ev (fun k => spec_l14Get.l0 k s (o : Int) (accN s o j : Int) (j : Int)) (wrap64 (accN s o 8)) := by
    intro d
    induction d with
    | zero =>
      intro j hj
      obtain rfl : j = 8 := by omega
      refine Ev.step (fun k => by rw [spec_l14Get.l0]) ?_
      exact Ev.neg (by omega) (Ev.now _)
    | succ d ih =>
      intro j hj
      have hb := (byteAt s (o + j)).toNat_lt
      have hw := Aside0.mk (show wrap64 ((o : Int) + (j : Int)) = ((o + j : Nat) : Int) from by rw [wrap_in (by omega) (by omega)]; omega)
      have h56 : accN s o j < 72057594037927936 := by
        have h1 := accN_lt s o j
        have h2 : 256 ^ j ≤ 256 ^ 7 := Nat.pow_le_pow_right (by decide) (by omega)
        have h3 : (256 : Nat) ^ 7 = 72057594037927936 := by decide
        omega
      refine Ev.step (fun k => by rw [spec_l14Get.l0]) ?_
      rw [hw.out]
      refine Ev.pos (by omega) (Ev.pos (by omega) (Ev.pos (by omega) ?_))
      rw [bt_byteAt (by omega), u64_id (x := 256 * (accN s o j : Int)) (by omega) (by omega), u64_id (x := ((byteAt s (o + j)).toNat : Int)) (by omega) (by omega), u64_id (by omega) (by omega), wrap_in (x := (j : Int) + 1) (by omega) (by omega)]
      have := ih (j + 1) (by omega)
      rw [accN] at this
      rw [show (256 * (accN s o j : Int) + ((byteAt s (o + j)).toNat : Int)) = ((256 * accN s o j + (byteAt s (o + j)).toNat : Nat) : Int) from by omega, show (j : Int) + 1 = ((j + 1 : Nat) : Int) from by omega]
      exact this
  exact key 8 0 rfl
theorem ev_num (s : ByteArray) (i : Nat) (h : 8 * i + 8 ≤ s.size) (hs : s.size ≤ 1048576) (o : Int) (ho : o = 8 * (i : Int)) : Ev (fun k => spec_l14Get.f k s o) (numAt s i) := by
  have := ev_l14Get s (8 * i) h hs
  rw [accN_be] at this
  unfold numAt
  rw [if_pos h, ho, show (8 * (i : Int)) = ((8 * i : Nat) : Int) from by omega]
  exact this
theorem numAt_out {s : ByteArray} {i : Nat} (h : s.size < 8 * i + 8) : numAt s i = -1 := by
  unfold numAt
  rw [if_neg (by omega)]
def putText (x0 : List Int) (x1 x2 : Int) (l : List S59) (t : Int) : ByteArray := strOfNums (beAll (imageNums x0 x1 x2 l) ++ beAll [wrap64 t])
theorem putText_size (x0 : List Int) (x1 x2 : Int) (l : List S59) (t : Int) : (putText x0 x1 x2 l t).size = 8 * (x0.length + 5 * l.length + 5) := by
  unfold putText
  rw [strOfNums_size, List.length_append, beAll_length, beAll_length]
  simp only [imageNums, List.length_append, wordNums_length, List.length_cons, List.length_nil]
  omega
theorem ev_putOk (x0 : List Int) (x1 x2 : Int) (l : List S59) (h0 : x0.length ≤ 1048576) (hl : l.length ≤ 1048576) (hok : imageOk x0 x1 x2 l = true) :
    ∃ t : Int, Ev (fun k => spec_PutImage.f k x0 x1 x2 l) (putText x0 x1 x2 l t) ∧ Ev (fun k => impl_putImage.f k x0 x1 x2 l) (putText x0 x1 x2 l t) := by
  have hsz : (strOfNums (beAll (imageNums x0 x1 x2 l))).size ≤ 140737488351232 := by
    rw [strOfNums_size, beAll_length]
    simp only [imageNums, List.length_append, wordNums_length, List.length_cons, List.length_nil]
    omega
  obtain ⟨t, t1, t2⟩ := ev_sums _ hsz
  refine ⟨t, ?_, ?_⟩
  · unfold spec_PutImage.f
    refine Ev.bind (ev_ImageOk_spec x0 x1 x2 l (by omega) (by omega)) (Ev.pos hok (Ev.bind (ev_Num _) ?_))
    have e : beAll (imageNums x0 x1 x2 l) = be8 (IntKind.u64.wrap (x0.length : Int)) ++ beAll x0 ++ beAll [x1, x2, (l.length : Int)] ++ beAll (wordNums l) := by
      simp only [imageNums, beAll_append, beAll_one]
    unfold putText
    rw [e] at t1 ⊢
    have := ev_Put_l0 (x0 := x0) (x1 := x1) (x2 := x2) (l := l) h0 hl t x0.length 0 (be8 (IntKind.u64.wrap (x0.length : Int))) (by omega) (by rw [be8_length]; omega) (by rw [List.drop_zero]; exact t1)
    rw [List.drop_zero] at this
    exact this
  · unfold impl_putImage.f
    exact Ev.pos (by omega) (Ev.bind t2 (Ev.now _))
theorem ev_putNo (x0 : List Int) (x1 x2 : Int) (l : List S59) (h0 : x0.length ≤ 1048576) (hl : l.length ≤ 1048576) (hok : ¬ imageOk x0 x1 x2 l = true) : Ev (fun k => spec_PutImage.f k x0 x1 x2 l) ⟨#[]⟩ := by
  unfold spec_PutImage.f
  exact Ev.bind (ev_ImageOk_spec x0 x1 x2 l (by omega) (by omega)) (Ev.neg hok (Ev.now _))
theorem noText {s r : ByteArray} (h : r.size ≠ s.size) : ¬ r.toList = s.toList := by
  intro e
  apply h
  have := congrArg List.length e
  rw [ByteArray.toList_eq, ByteArray.toList_eq, data_length, data_length] at this
  exact this
section
variable {s : ByteArray} {K Wd n : Nat} {x0 : List Int} {x1 x2 : Int} {R : List Int × Int × Int × List S59 × Bool}
theorem ev_Get_l1 (hs : s.size ≤ 1048576) (hn : n = s.size / 8) (hK : (numAt s 0).toNat = K) (hW : (numAt s (K + 3)).toNat = Wd) (hnK : n = K + 5 + 5 * Wd)
    (hR : Ev (fun k => (spec_PutImage.f k x0 x1 x2 (getWords s)).bind fun t115 => if t115.toList = s.toList then some (x0, x1, x2, getWords s, true) else some (([] : List Int), 0, 0, ([] : List S59), false)) R) :
    ∀ d j : Nat, j + d = Wd → Ev (fun k => spec_GetImage.l1 k s (n : Int) ((K + 4 + 5 * j : Nat) : Int) x0 x1 x2 ((getWords s).take j)) R := by
  have hlen : (getWords s).length = Wd := by rw [getWords_length, hK, hW]
  intro d
  induction d with
  | zero =>
    intro j hj
    obtain rfl : j = Wd := by omega
    have hw5 := Aside0.mk (show wrap64 (((K + 4 + 5 * j : Nat) : Int) + 5) = ((K + 4 + 5 * (j + 1) : Nat) : Int) from by rw [wrap_in (by omega) (by omega)]; omega)
    refine Ev.step (fun k => by rw [spec_GetImage.l1]) ?_
    rw [hw5.out]
    refine Ev.neg (by omega) ?_
    rw [List.take_of_length_le (by omega)]
    exact hR
  | succ d ih =>
    intro j hj
    have hw5 := Aside0.mk (show wrap64 (((K + 4 + 5 * j : Nat) : Int) + 5) = ((K + 4 + 5 * (j + 1) : Nat) : Int) from by rw [wrap_in (by omega) (by omega)]; omega)
    have hw8 := Aside0.mk (show wrap64 (8 * ((K + 4 + 5 * j : Nat) : Int)) = ((8 * (K + 4 + 5 * j) : Nat) : Int) from by rw [wrap_in (by omega) (by omega)]; omega)
    refine Ev.step (fun k => by rw [spec_GetImage.l1]) ?_
    rw [hw5.out, hw8.out]
    refine Ev.pos (by omega) ?_
    refine Ev.bind (ev_num s (K + 4 + 5 * j) (by omega) hs _ (by omega)) ?_
    refine Ev.bind (ev_num s (K + 4 + 5 * j + 1) (by omega) hs _ (by rw [wrap_in (by omega) (by omega)]; omega)) ?_
    refine Ev.bind (ev_num s (K + 4 + 5 * j + 2) (by omega) hs _ (by rw [wrap_in (by omega) (by omega)]; omega)) ?_
    refine Ev.bind (ev_num s (K + 4 + 5 * j + 3) (by omega) hs _ (by rw [wrap_in (by omega) (by omega)]; omega)) ?_
    refine Ev.bind (ev_num s (K + 4 + 5 * j + 4) (by omega) hs _ (by rw [wrap_in (by omega) (by omega)]; omega)) ?_
    refine Ev.pos (by rw [List.length_take]; omega) ?_
    have := ih (j + 1) (by omega)
    rw [getWords_take s j (by rw [hK, hW]; omega), hK] at this
    exact this
theorem ev_Get_l0 (hs : s.size ≤ 1048576) (hn : n = s.size / 8) (hK : (numAt s 0).toNat = K) (hK4 : K ≤ 4) (hW : (numAt s (K + 3)).toNat = Wd) (hnK : n = K + 5 + 5 * Wd)
    (hR : Ev (fun k => (spec_PutImage.f k (getSizes s) x1 x2 (getWords s)).bind fun t115 => if t115.toList = s.toList then some (getSizes s, x1, x2, getWords s, true) else some (([] : List Int), 0, 0, ([] : List S59), false)) R) :
    ∀ d j : Nat, j + d = K → Ev (fun k => spec_GetImage.l0 k s (n : Int) (K : Int) ((1 + j : Nat) : Int) ((getSizes s).take j) x1 x2) R := by
  have hlen : (getSizes s).length = K := by rw [getSizes_length, hK]
  intro d
  induction d with
  | zero =>
    intro j hj
    obtain rfl : j = K := by omega
    refine Ev.step (fun k => by rw [spec_GetImage.l0]) ?_
    refine Ev.neg (by omega) ?_
    rw [show wrap64 ((j : Int) + 4) = ((j + 4 + 5 * 0 : Nat) : Int) from by rw [wrap_in (by omega) (by omega)]; omega]
    have := ev_Get_l1 (x0 := getSizes s) (x1 := x1) (x2 := x2) hs hn hK hW hnK hR Wd 0 (by omega)
    rw [List.take_zero] at this
    rw [List.take_of_length_le (by omega)]
    exact this
  | succ d ih =>
    intro j hj
    have hw8 := Aside0.mk (show wrap64 (8 * ((1 + j : Nat) : Int)) = ((8 * (1 + j) : Nat) : Int) from by rw [wrap_in (by omega) (by omega)]; omega)
    have hw1 := Aside0.mk (show wrap64 (((1 + j : Nat) : Int) + 1) = ((1 + (j + 1) : Nat) : Int) from by rw [wrap_in (by omega) (by omega)]; omega)
    refine Ev.step (fun k => by rw [spec_GetImage.l0]) ?_
    rw [hw8.out, hw1.out]
    refine Ev.pos (by omega) ?_
    refine Ev.bind (ev_num s (j + 1) (by omega) hs _ (by omega)) ?_
    refine Ev.pos (by rw [List.length_take]; omega) ?_
    have := ih (j + 1) (by omega)
    rw [getSizes_take s j (by rw [hK]; omega)] at this
    exact this
end
theorem ev_GetImage (s : ByteArray) (hs : s.size ≤ 1048576) : ∃ r : List Int × Int × Int × List S59 × Bool, Ev (fun k => spec_GetImage.f k s) r ∧ Ev (fun k => impl_getImage.f k s) r ∧ r.1.length ≤ 4 ∧ r.2.2.2.1.length ≤ 6000 := by
  have hwn := Aside0.mk (show wrap64 ((s.size : Int) / 8) = ((s.size / 8 : Nat) : Int) from by rw [wrap_in (by omega) (by omega)]; omega)
  have zero_impl : ¬ (inB (numAt s 0) 1 4 = true ∧ inB (numAt s ((numAt s 0).toNat + 3)) 1 6000 = true) → Ev (fun k => impl_getImage.f k s) (([] : List Int), 0, 0, ([] : List S59), false) := by
    intro h
    unfold impl_getImage.f
    by_cases h1 : inB (numAt s 0) 1 4 = true
    · exact Ev.pos (by omega) (Ev.pos h1 (Ev.neg (fun h2 => h ⟨h1, h2⟩) (Ev.now _)))
    · exact Ev.pos (by omega) (Ev.neg h1 (Ev.now _))
  generalize hn : s.size / 8 = n at hwn
  by_cases hb1 : inB (numAt s 0) 1 4 = true
  · have hK0 : 1 ≤ numAt s 0 ∧ numAt s 0 ≤ 4 := by simpa [inB] using hb1
    obtain ⟨K, hK⟩ : ∃ K : Nat, numAt s 0 = (K : Int) := ⟨(numAt s 0).toNat, by omega⟩
    have hKn : (numAt s 0).toNat = K := by omega
    have hn1 : 1 ≤ n := by
      by_cases h : 8 ≤ s.size
      · omega
      · rw [numAt_out (by omega)] at hK0
        omega
    have size_impl : inB (numAt s (K + 3)) 1 6000 = true → n ≠ K + 5 + 5 * (numAt s (K + 3)).toNat → Ev (fun k => impl_getImage.f k s) (([] : List Int), 0, 0, ([] : List S59), false) := by
      intro hb2 hne
      unfold impl_getImage.f
      refine Ev.pos (by omega) (Ev.pos hb1 ?_)
      rw [hKn]
      refine Ev.pos hb2 ?_
      by_cases hok : imageOk (getSizes s) (numAt s (K + 1)) (numAt s (K + 2)) (getWords s) = true
      · have hw6 : numAt s (K + 3) ≤ 6000 := by simp [inB] at hb2; omega
        have hl0 : (getSizes s).length = K := by rw [getSizes_length, hKn]
        have hl3 : (getWords s).length = (numAt s (K + 3)).toNat := by rw [getWords_length, hKn]
        obtain ⟨t, _, t2⟩ := ev_putOk (getSizes s) (numAt s (K + 1)) (numAt s (K + 2)) (getWords s) (by omega) (by omega) hok
        refine Ev.pos hok (Ev.bind t2 (Ev.neg (noText ?_) (Ev.now _)))
        rw [putText_size, hl0, hl3]
        omega
      · exact Ev.neg hok (Ev.now _)
    unfold spec_GetImage.f
    rw [hwn.out]
    by_cases hk10 : n < K + 10
    · refine ⟨(([] : List Int), (0 : Int), (0 : Int), ([] : List S59), false), Ev.neg (by omega) (Ev.bind (ev_num s 0 (by omega) hs _ (by omega)) (Ev.bind (ev_In_spec _ _ _) ?_)), ?_, ?_, ?_⟩
      · rw [hb1]
        refine Ev.step (fun k => by rw [spec_GetImage.j0]) (Ev.neg (by simp) (Ev.bind (ev_num s 0 (by omega) hs _ (by omega)) ?_))
        rw [hK, wrap_in (x := (K : Int) + 10) (by omega) (by omega)]
        refine Ev.pos (by omega) (Ev.step (fun k => by rw [spec_GetImage.j1]) (Ev.pos rfl (Ev.now _)))
      · by_cases hb2 : inB (numAt s (K + 3)) 1 6000 = true
        · exact size_impl hb2 (by have : 1 ≤ numAt s (K + 3) := by { simp [inB] at hb2; omega }; omega)
        · exact zero_impl (fun h => hb2 (hKn ▸ h.2))
      · simp
      · simp
    · have hw8 := Aside0.mk (show wrap64 (wrap64 (8 * (K : Int)) + 24) = 8 * ((K + 3 : Nat) : Int) from by rw [wrap_in (x := 8 * (K : Int)) (by omega) (by omega), wrap_in (by omega) (by omega)]; omega)
      have hj0 : ∀ {R : List Int × Int × Int × List S59 × Bool}, Ev (fun k => (spec_l14Get.f k s (wrap64 ((wrap64 (8 * (K : Int))) + 24))).bind fun t105 => ((spec_l01In.f t105 1 6000).bind fun t106 => (if t106 = true then ((spec_l14Get.f k s (wrap64 ((wrap64 (8 * (K : Int))) + 24))).bind fun t107 => (spec_GetImage.j1 k s (n : Int) (K : Int) ((n : Int) != (wrap64 ((wrap64 ((K : Int) + 5)) + (wrap64 (5 * t107))))))) else (spec_GetImage.j1 k s (n : Int) (K : Int) true)))) R → Ev (fun k => if (n : Int) < 1 then (spec_GetImage.j0 k s (n : Int) true) else ((spec_l14Get.f k s 0).bind fun t102 => ((spec_l01In.f t102 1 4).bind fun t103 => (spec_GetImage.j0 k s (n : Int) (!t103))))) R := by
        intro R h
        refine Ev.neg (by omega) (Ev.bind (ev_num s 0 (by omega) hs _ (by omega)) (Ev.bind (ev_In_spec _ _ _) ?_))
        rw [hb1]
        refine Ev.step (fun k => by rw [spec_GetImage.j0]) (Ev.neg (by simp) (Ev.bind (ev_num s 0 (by omega) hs _ (by omega)) ?_))
        rw [hK, wrap_in (x := (K : Int) + 10) (by omega) (by omega)]
        exact Ev.neg (by omega) h
      by_cases hb2 : inB (numAt s (K + 3)) 1 6000 = true
      · have hW0 : 1 ≤ numAt s (K + 3) ∧ numAt s (K + 3) ≤ 6000 := by simpa [inB] using hb2
        obtain ⟨Wd, hWd⟩ : ∃ Wd : Nat, numAt s (K + 3) = (Wd : Int) := ⟨(numAt s (K + 3)).toNat, by omega⟩
        have hWn : (numAt s (K + 3)).toNat = Wd := by omega
        have hwr := Aside0.mk (show wrap64 (wrap64 ((K : Int) + 5) + wrap64 (5 * (Wd : Int))) = ((K + 5 + 5 * Wd : Nat) : Int) from by rw [wrap_in (x := (K : Int) + 5) (by omega) (by omega), wrap_in (x := 5 * (Wd : Int)) (by omega) (by omega), wrap_in (by omega) (by omega)]; omega)
        by_cases hnK : n = K + 5 + 5 * Wd
        · have hl0 : (getSizes s).length = K := by rw [getSizes_length, hKn]
          have hl3 : (getWords s).length = Wd := by rw [getWords_length, hKn, hWn]
          have spec_ok : ∀ {R : List Int × Int × Int × List S59 × Bool}, Ev (fun k => (spec_PutImage.f k (getSizes s) (numAt s (K + 1)) (numAt s (K + 2)) (getWords s)).bind fun t115 => if t115.toList = s.toList then some (getSizes s, (numAt s (K + 1)), (numAt s (K + 2)), getWords s, true) else some (([] : List Int), 0, 0, ([] : List S59), false)) R → Ev (fun k => if (n : Int) < 1 then (spec_GetImage.j0 k s (n : Int) true) else ((spec_l14Get.f k s 0).bind fun t102 => ((spec_l01In.f t102 1 4).bind fun t103 => (spec_GetImage.j0 k s (n : Int) (!t103))))) R := by
            intro R hR
            refine hj0 (Ev.bind (ev_num s (K + 3) (by omega) hs _ hw8.out) (Ev.bind (ev_In_spec _ _ _) (Ev.pos hb2 (Ev.bind (ev_num s (K + 3) (by omega) hs _ hw8.out) ?_))))
            rw [hWd, hwr.out, ← hnK]
            refine Ev.step (fun k => by rw [spec_GetImage.j1]) (Ev.neg (by simp) ?_)
            refine Ev.bind (ev_num s (K + 1) (by omega) hs _ (by rw [wrap_in (x := 8 * (K : Int)) (by omega) (by omega), wrap_in (by omega) (by omega)]; omega)) ?_
            refine Ev.bind (ev_num s (K + 2) (by omega) hs _ (by rw [wrap_in (x := 8 * (K : Int)) (by omega) (by omega), wrap_in (by omega) (by omega)]; omega)) ?_
            have := ev_Get_l0 (x1 := numAt s (K + 1)) (x2 := numAt s (K + 2)) hs hn.symm hKn (by omega) hWn hnK hR K 0 (by omega)
            rw [List.take_zero] at this
            exact this
          by_cases hok : imageOk (getSizes s) (numAt s (K + 1)) (numAt s (K + 2)) (getWords s) = true
          · obtain ⟨t, t1, t2⟩ := ev_putOk (getSizes s) (numAt s (K + 1)) (numAt s (K + 2)) (getWords s) (by omega) (by omega) hok
            by_cases he : (putText (getSizes s) (numAt s (K + 1)) (numAt s (K + 2)) (getWords s) t).toList = s.toList
            · refine ⟨(getSizes s, numAt s (K + 1), numAt s (K + 2), getWords s, true), spec_ok (Ev.bind t1 (Ev.pos he (Ev.now _))), ?_, ?_, ?_⟩
              · unfold impl_getImage.f
                refine Ev.pos (by omega) (Ev.pos hb1 ?_)
                rw [hKn]
                exact Ev.pos hb2 (Ev.pos hok (Ev.bind t2 (Ev.pos he (Ev.now _))))
              · simp only; omega
              · simp only; omega
            · refine ⟨(([] : List Int), (0 : Int), (0 : Int), ([] : List S59), false), spec_ok (Ev.bind t1 (Ev.neg he (Ev.now _))), ?_, by simp, by simp⟩
              unfold impl_getImage.f
              refine Ev.pos (by omega) (Ev.pos hb1 ?_)
              rw [hKn]
              exact Ev.pos hb2 (Ev.pos hok (Ev.bind t2 (Ev.neg he (Ev.now _))))
          · refine ⟨(([] : List Int), (0 : Int), (0 : Int), ([] : List S59), false), spec_ok (Ev.bind (ev_putNo _ _ _ _ (by omega) (by omega) hok) (Ev.neg (noText ?_) (Ev.now _))), ?_, by simp, by simp⟩
            · have : (⟨#[]⟩ : ByteArray).size = 0 := rfl
              omega
            · unfold impl_getImage.f
              refine Ev.pos (by omega) (Ev.pos hb1 ?_)
              rw [hKn]
              exact Ev.pos hb2 (Ev.neg hok (Ev.now _))
        · refine ⟨(([] : List Int), (0 : Int), (0 : Int), ([] : List S59), false), hj0 (Ev.bind (ev_num s (K + 3) (by omega) hs _ hw8.out) (Ev.bind (ev_In_spec _ _ _) (Ev.pos hb2 (Ev.bind (ev_num s (K + 3) (by omega) hs _ hw8.out) ?_)))), size_impl hb2 (by omega), by simp, by simp⟩
          rw [hWd, hwr.out]
          refine Ev.step (fun k => by rw [spec_GetImage.j1]) (Ev.pos ?_ (Ev.now _))
          simp
          omega
      · refine ⟨(([] : List Int), (0 : Int), (0 : Int), ([] : List S59), false), hj0 (Ev.bind (ev_num s (K + 3) (by omega) hs _ hw8.out) (Ev.bind (ev_In_spec _ _ _) (Ev.neg hb2 (Ev.step (fun k => by rw [spec_GetImage.j1]) (Ev.pos rfl (Ev.now _)))))), zero_impl (fun h => hb2 (hKn ▸ h.2)), by simp, by simp⟩
  · unfold spec_GetImage.f
    rw [hwn.out]
    by_cases hn1 : n < 1
    · exact ⟨(([] : List Int), (0 : Int), (0 : Int), ([] : List S59), false), Ev.pos (by omega) (Ev.step (fun k => by rw [spec_GetImage.j0]) (Ev.pos rfl (Ev.now _))), zero_impl (fun h => hb1 h.1), by simp, by simp⟩
    · refine ⟨(([] : List Int), (0 : Int), (0 : Int), ([] : List S59), false), Ev.neg (by omega) (Ev.bind (ev_num s 0 (by omega) hs _ (by omega)) (Ev.bind (ev_In_spec _ _ _) ?_)), zero_impl (fun h => hb1 h.1), by simp, by simp⟩
      rw [Bool.not_eq_true] at hb1
      rw [hb1]
      refine Ev.step (fun k => by rw [spec_GetImage.j0]) ?_
      exact Ev.pos (by decide) (Ev.now _)

end Go.Proofs.Ytnbaojaocagjcaa.P
end
section
-- Written for this claim by gp.py over the kit's print; not trusted: Lean checks it.

namespace Go.Proofs.Ytnbaojaocagjcaa.P
open Go.RowKit Go.Proofs.YtnbaojaocagjcaaW.PrintWords Go.Proofs.YtnbaojaocagjcaaW.PrintLast Go.Proofs.YtnbaojaocagjcaaW.PrintMore
attribute [local go_sem] max2_int min2_int max_two min_two max_three min_three max_four min_four
set_option linter.unusedVariables false
set_option linter.unusedSimpArgs false

/-! ### laws_szIntS: function 39 -/
def laws_szIntS.f (l0 : List Int) (a1 : Int) : Option (Int) := if (wrap64 (a1 - (l0.length : Int))) < 0 then (some (-1)) else (some (wrap64 (a1 - (l0.length : Int))))
set_option maxHeartbeats 8000000 in
set_option maxRecDepth 100000 in
theorem laws_szIntS.calls (A0 : Option Addr) (c0 : Nat) (l0 : List Int) (a1 : Int) (r : Int) (w : World) (hr0 : Kd.C (Kd.int .i64) w A0 l0.length l0) (hc0 : l0.length ≤ c0) (h : laws_szIntS.f l0 a1 = some r) :
    Calls Try.prog 39 #[.slice A0 l0.length c0, .int .i64 a1] w fun e w' => e = .returned (.int .i64 r) ∧ Drawn0 w w' := by
  have HR0 := Aside0.mk hr0
  have HC0 := Aside0.mk hc0
  clear hr0 hc0
  have H : (if (wrap64 (a1 - (l0.length : Int))) < 0 then (some (-1)) else (some (wrap64 (a1 - (l0.length : Int))))) = some r := h
  clear h
  by_cases c3 : (wrap64 (a1 - (l0.length : Int))) < 0
  · rw [if_pos c3] at H
    have c3b0 : decide ((wrap64 (a1 - (l0.length : Int))) < 0) = true := decide_eq_true c3
    clear c3
    obtain rfl := Option.some.inj H
    go_enter Try.func39, Try.ntmps39
    go_wp2
    go_ret
    exact ⟨by first | rfl | (simp; done) | (simp [*]; done), by repeat (first | exact Drawn0.refl _ | apply Drawn0.step)⟩
  · rw [if_neg c3] at H
    have c3b0 : decide ((wrap64 (a1 - (l0.length : Int))) < 0) = false := decide_eq_false c3
    clear c3
    obtain rfl := Option.some.inj H
    go_enter Try.func39, Try.ntmps39
    go_wp2
    go_ret
    exact ⟨by first | rfl | (simp; done) | (simp [*]; done), by repeat (first | exact Drawn0.refl _ | apply Drawn0.step)⟩

end Go.Proofs.Ytnbaojaocagjcaa.P
end
section
-- Written for this claim by gp.py over the kit's print; not trusted: Lean checks it.

namespace Go.Proofs.Ytnbaojaocagjcaa.P
open Go.RowKit Go.Proofs.YtnbaojaocagjcaaW.PrintWords Go.Proofs.YtnbaojaocagjcaaW.PrintLast Go.Proofs.YtnbaojaocagjcaaW.PrintMore
attribute [local go_sem] max2_int min2_int max_two min_two max_three min_three max_four min_four
set_option linter.unusedVariables false
set_option linter.unusedSimpArgs false

/-! ### laws_szWordS: function 40 -/
def laws_szWordS.f (l0 : List (S78)) (a1 : Int) : Option (Int) := if (wrap64 (a1 - (l0.length : Int))) < 0 then (some (-1)) else (some (wrap64 (a1 - (l0.length : Int))))
set_option maxHeartbeats 8000000 in
set_option maxRecDepth 100000 in
theorem laws_szWordS.calls (A0 : Option Addr) (c0 : Nat) (l0 : List (S78)) (a1 : Int) (r : Int) (w : World) (hr0 : Kd.C k78 w A0 l0.length l0) (hc0 : l0.length ≤ c0) (h : laws_szWordS.f l0 a1 = some r) :
    Calls Try.prog 40 #[.slice A0 l0.length c0, .int .i64 a1] w fun e w' => e = .returned (.int .i64 r) ∧ Drawn0 w w' := by
  have HR0 := Aside0.mk hr0
  have HC0 := Aside0.mk hc0
  clear hr0 hc0
  have H : (if (wrap64 (a1 - (l0.length : Int))) < 0 then (some (-1)) else (some (wrap64 (a1 - (l0.length : Int))))) = some r := h
  clear h
  by_cases c3 : (wrap64 (a1 - (l0.length : Int))) < 0
  · rw [if_pos c3] at H
    have c3b0 : decide ((wrap64 (a1 - (l0.length : Int))) < 0) = true := decide_eq_true c3
    clear c3
    obtain rfl := Option.some.inj H
    go_enter Try.func40, Try.ntmps40
    go_wp2
    go_ret
    exact ⟨by first | rfl | (simp; done) | (simp [*]; done), by repeat (first | exact Drawn0.refl _ | apply Drawn0.step)⟩
  · rw [if_neg c3] at H
    have c3b0 : decide ((wrap64 (a1 - (l0.length : Int))) < 0) = false := decide_eq_false c3
    clear c3
    obtain rfl := Option.some.inj H
    go_enter Try.func40, Try.ntmps40
    go_wp2
    go_ret
    exact ⟨by first | rfl | (simp; done) | (simp [*]; done), by repeat (first | exact Drawn0.refl _ | apply Drawn0.step)⟩

end Go.Proofs.Ytnbaojaocagjcaa.P
end
section
-- Written for this claim by gp.py over the kit's print; not trusted: Lean checks it.



namespace Go.Proofs.Ytnbaojaocagjcaa.P
open Go.RowKit Go.Proofs.YtnbaojaocagjcaaW.PrintWords Go.Proofs.YtnbaojaocagjcaaW.PrintLast Go.Proofs.YtnbaojaocagjcaaW.PrintMore
attribute [local go_sem] max2_int min2_int max_two min_two max_three min_three max_four min_four
set_option linter.unusedVariables false
set_option linter.unusedSimpArgs false

/-! ### laws_szImage: function 13 -/
def laws_szImage.f (l0_0 : List Int) (a0_1 : Int) (a0_2 : Int) (l0_3 : List (S78)) (a1 : Int) : Option (Int) := (laws_szIntS.f l0_0 a1).bind fun t102 => (if t102 < 0 then (some (-1)) else ((laws_szWordS.f l0_3 t102).bind fun t103 => (if t103 < 0 then (some (-1)) else (some t103))))
set_option maxHeartbeats 8000000 in
set_option maxRecDepth 100000 in
theorem laws_szImage.calls (A0_0 : Option Addr) (c0_0 : Nat) (l0_0 : List Int) (a0_1 : Int) (a0_2 : Int) (A0_3 : Option Addr) (c0_3 : Nat) (l0_3 : List (S78)) (a1 : Int) (r : Int) (w : World) (hr0_0 : Kd.C (Kd.int .i64) w A0_0 l0_0.length l0_0) (hc0_0 : l0_0.length ≤ c0_0) (hr0_3 : Kd.C k78 w A0_3 l0_3.length l0_3) (hc0_3 : l0_3.length ≤ c0_3) (h : laws_szImage.f l0_0 a0_1 a0_2 l0_3 a1 = some r) :
    Calls Try.prog 13 #[.agg #[.slice A0_0 l0_0.length c0_0, .int .i64 a0_1, .int .i64 a0_2, .slice A0_3 l0_3.length c0_3], .int .i64 a1] w fun e w' => e = .returned (.int .i64 r) ∧ Below w.heap.size w w' := by
  have hu28 := Try.underlying28
  have HR0_0 := Aside0.mk hr0_0
  have HC0_0 := Aside0.mk hc0_0
  clear hr0_0 hc0_0
  have HR0_3 := Aside0.mk hr0_3
  have HC0_3 := Aside0.mk hc0_3
  clear hr0_3 hc0_3
  have HB := Aside0.mk (Below.refl w.heap.size w)
  have H : ((laws_szIntS.f l0_0 a1).bind fun t102 => (if t102 < 0 then (some (-1)) else ((laws_szWordS.f l0_3 t102).bind fun t103 => (if t103 < 0 then (some (-1)) else (some t103))))) = some r := h
  clear h
  replace H := Option.bind_eq_some_iff.mp H
  obtain ⟨t102, A30, H⟩ := H
  replace H : (if t102 < 0 then (some (-1)) else ((laws_szWordS.f l0_3 t102).bind fun t103 => (if t103 < 0 then (some (-1)) else (some t103)))) = some r := H
  have A3 := Aside0.mk A30
  clear A30
  by_cases c4 : t102 < 0
  · rw [if_pos c4] at H
    have c4b0 : decide (t102 < 0) = true := decide_eq_true c4
    clear c4
    obtain rfl := Option.some.inj H
    go_enter Try.func13, Try.ntmps13
    go_wp2_with (first | ((with_reducible refine gate_dst (N := 2) rfl ?_); refine box_event ?hg (N := 2) ?hd (cs := #[.slice A0_0 l0_0.length c0_0, .int .i64 a0_1, .int .i64 a0_2, .slice A0_3 l0_3.length c0_3]) (t := 28) ?hr ?_; (case hd => rfl); (case hg => rfl); (case hr => first | (go_simp; done) | (go_simp; rfl)); intro gb101 hg w5 hbox hb; have n0_ := Aside0.mk (below_step (by repeat (first | (with_reducible first | exact HB.out | apply below_alloc | apply pw_below_drewN | apply below_drew1) | exact HB.out)) hb); have n1_ := Aside0.mk (hbox); have n2_ := Aside0.mk ((by rw [hg]; exact (below_size (by repeat (first | (with_reducible first | exact HB.out | apply below_alloc | apply pw_below_drewN | apply below_drew1) | exact HB.out))) : w.heap.size ≤ gb101)); have n3_ := Aside0.mk ((by rw [hg]; exact (below_size (by repeat (first | (with_reducible first | exact HB.out | apply below_alloc | apply pw_below_drewN | apply below_drew1) | exact HB.out))) : w.heap.size ≤ gb101)); clear HB; have HB := n0_; have BK101 := n1_; have GW101 := n2_; have GE101 := n3_; clear n0_ n1_ n2_ n3_; clear hb hbox hg; have hcz6_0 : w5.cell? ⟨gb101, 0, none⟩ = some (.slice A0_0 l0_0.length c0_0) := (blk_cell BK101.out 0).trans rfl; have hcz6_1 : w5.cell? ⟨gb101, 1, none⟩ = some (.int .i64 a0_1) := (blk_cell BK101.out 1).trans rfl; have hcz6_2 : w5.cell? ⟨gb101, 2, none⟩ = some (.int .i64 a0_2) := (blk_cell BK101.out 2).trans rfl; have hcz6_3 : w5.cell? ⟨gb101, 3, none⟩ = some (.slice A0_3 l0_3.length c0_3) := (blk_cell BK101.out 3).trans rfl; have hfz6_0 := blk_frozen BK101.out 0; have hfz6_1 := blk_frozen BK101.out 1; have hfz6_2 := blk_frozen BK101.out 2; have hfz6_3 := blk_frozen BK101.out 3) | ((with_reducible refine gate_callee (f := 39) rfl ?_); refine goesL_ (some 8) rfl rfl Try.func39 (by kernel_rfl) rfl #[.slice A0_0 l0_0.length c0_0, .int .i64 a1] rfl (by (try simp only [List.map_toArray, List.map_cons, List.map_nil]); first | done | rfl | (simp only [List.length_drop, List.length_take]; rfl)) ?_; (with_reducible refine (laws_szIntS.calls _ _ l0_0 a1 t102 _ ?side1 ?side2 A3.out).mono ?_); (case side1 => repeat (first | exact (Kd.C_below HR0_0.out HB.out) | (with_reducible refine Kd.C_alloc ?_ _) | (with_reducible refine Kd.C_drewN ?_ _) | (with_reducible refine Kd.C_drew ?_))); (case side2 => exact HC0_0.out); rintro e w' ⟨rfl, ⟨nd, rfl⟩⟩; refine ⟨_, rfl, ?_⟩))
    go_ret
    exact ⟨by first | rfl | (simp [errW_none, errW_some] <;> rfl) | (simp [*, errW_none, errW_some] <;> rfl), by repeat (first | (with_reducible first | exact HB.out | apply below_alloc | apply pw_below_drewN | apply below_drew1 | refine below_set ?_ GE101.out) | exact HB.out)⟩
  · rw [if_neg c4] at H
    have c4b0 : decide (t102 < 0) = false := decide_eq_false c4
    clear c4
    replace H := Option.bind_eq_some_iff.mp H
    obtain ⟨t103, A70, H⟩ := H
    replace H : (if t103 < 0 then (some (-1)) else (some t103)) = some r := H
    have A7 := Aside0.mk A70
    clear A70
    by_cases c8 : t103 < 0
    · rw [if_pos c8] at H
      have c8b0 : decide (t103 < 0) = true := decide_eq_true c8
      clear c8
      obtain rfl := Option.some.inj H
      go_enter Try.func13, Try.ntmps13
      go_wp2_with (first | ((with_reducible refine gate_dst (N := 2) rfl ?_); refine box_event ?hg (N := 2) ?hd (cs := #[.slice A0_0 l0_0.length c0_0, .int .i64 a0_1, .int .i64 a0_2, .slice A0_3 l0_3.length c0_3]) (t := 28) ?hr ?_; (case hd => rfl); (case hg => rfl); (case hr => first | (go_simp; done) | (go_simp; rfl)); intro gb101 hg w9 hbox hb; have n0_ := Aside0.mk (below_step (by repeat (first | (with_reducible first | exact HB.out | apply below_alloc | apply pw_below_drewN | apply below_drew1) | exact HB.out)) hb); have n1_ := Aside0.mk (hbox); have n2_ := Aside0.mk ((by rw [hg]; exact (below_size (by repeat (first | (with_reducible first | exact HB.out | apply below_alloc | apply pw_below_drewN | apply below_drew1) | exact HB.out))) : w.heap.size ≤ gb101)); have n3_ := Aside0.mk ((by rw [hg]; exact (below_size (by repeat (first | (with_reducible first | exact HB.out | apply below_alloc | apply pw_below_drewN | apply below_drew1) | exact HB.out))) : w.heap.size ≤ gb101)); clear HB; have HB := n0_; have BK101 := n1_; have GW101 := n2_; have GE101 := n3_; clear n0_ n1_ n2_ n3_; clear hb hbox hg; have hcz10_0 : w9.cell? ⟨gb101, 0, none⟩ = some (.slice A0_0 l0_0.length c0_0) := (blk_cell BK101.out 0).trans rfl; have hcz10_1 : w9.cell? ⟨gb101, 1, none⟩ = some (.int .i64 a0_1) := (blk_cell BK101.out 1).trans rfl; have hcz10_2 : w9.cell? ⟨gb101, 2, none⟩ = some (.int .i64 a0_2) := (blk_cell BK101.out 2).trans rfl; have hcz10_3 : w9.cell? ⟨gb101, 3, none⟩ = some (.slice A0_3 l0_3.length c0_3) := (blk_cell BK101.out 3).trans rfl; have hfz10_0 := blk_frozen BK101.out 0; have hfz10_1 := blk_frozen BK101.out 1; have hfz10_2 := blk_frozen BK101.out 2; have hfz10_3 := blk_frozen BK101.out 3) | ((with_reducible refine gate_callee (f := 39) rfl ?_); refine goesL_ (some 8) rfl rfl Try.func39 (by kernel_rfl) rfl #[.slice A0_0 l0_0.length c0_0, .int .i64 a1] rfl (by (try simp only [List.map_toArray, List.map_cons, List.map_nil]); first | done | rfl | (simp only [List.length_drop, List.length_take]; rfl)) ?_; (with_reducible refine (laws_szIntS.calls _ _ l0_0 a1 t102 _ ?side1 ?side2 A3.out).mono ?_); (case side1 => repeat (first | exact (Kd.C_below HR0_0.out HB.out) | (with_reducible refine Kd.C_alloc ?_ _) | (with_reducible refine Kd.C_drewN ?_ _) | (with_reducible refine Kd.C_drew ?_))); (case side2 => exact HC0_0.out); rintro e w' ⟨rfl, ⟨nd, rfl⟩⟩; refine ⟨_, rfl, ?_⟩) | ((with_reducible refine gate_callee (f := 40) rfl ?_); refine goesL_ (some 14) rfl rfl Try.func40 (by kernel_rfl) rfl #[.slice A0_3 l0_3.length c0_3, .int .i64 t102] rfl (by (try simp only [List.map_toArray, List.map_cons, List.map_nil]); first | done | rfl | (simp only [List.length_drop, List.length_take]; rfl)) ?_; (with_reducible refine (laws_szWordS.calls _ _ l0_3 t102 t103 _ ?side1 ?side2 A7.out).mono ?_); (case side1 => repeat (first | exact (Kd.C_below HR0_3.out (by repeat (first | (with_reducible first | exact HB.out | apply below_alloc | apply pw_below_drewN | apply below_drew1 | refine below_set ?_ GE101.out) | exact HB.out))) | (with_reducible refine Kd.C_alloc ?_ _) | (with_reducible refine Kd.C_drewN ?_ _) | (with_reducible refine Kd.C_drew ?_))); (case side2 => exact HC0_3.out); rintro e w' ⟨rfl, ⟨nd, rfl⟩⟩; refine ⟨_, rfl, ?_⟩))
      go_ret
      exact ⟨by first | rfl | (simp [errW_none, errW_some] <;> rfl) | (simp [*, errW_none, errW_some] <;> rfl), by repeat (first | (with_reducible first | exact HB.out | apply below_alloc | apply pw_below_drewN | apply below_drew1 | refine below_set ?_ GE101.out) | exact HB.out)⟩
    · rw [if_neg c8] at H
      have c8b0 : decide (t103 < 0) = false := decide_eq_false c8
      clear c8
      obtain rfl := Option.some.inj H
      go_enter Try.func13, Try.ntmps13
      go_wp2_with (first | ((with_reducible refine gate_dst (N := 2) rfl ?_); refine box_event ?hg (N := 2) ?hd (cs := #[.slice A0_0 l0_0.length c0_0, .int .i64 a0_1, .int .i64 a0_2, .slice A0_3 l0_3.length c0_3]) (t := 28) ?hr ?_; (case hd => rfl); (case hg => rfl); (case hr => first | (go_simp; done) | (go_simp; rfl)); intro gb101 hg w11 hbox hb; have n0_ := Aside0.mk (below_step (by repeat (first | (with_reducible first | exact HB.out | apply below_alloc | apply pw_below_drewN | apply below_drew1) | exact HB.out)) hb); have n1_ := Aside0.mk (hbox); have n2_ := Aside0.mk ((by rw [hg]; exact (below_size (by repeat (first | (with_reducible first | exact HB.out | apply below_alloc | apply pw_below_drewN | apply below_drew1) | exact HB.out))) : w.heap.size ≤ gb101)); have n3_ := Aside0.mk ((by rw [hg]; exact (below_size (by repeat (first | (with_reducible first | exact HB.out | apply below_alloc | apply pw_below_drewN | apply below_drew1) | exact HB.out))) : w.heap.size ≤ gb101)); clear HB; have HB := n0_; have BK101 := n1_; have GW101 := n2_; have GE101 := n3_; clear n0_ n1_ n2_ n3_; clear hb hbox hg; have hcz12_0 : w11.cell? ⟨gb101, 0, none⟩ = some (.slice A0_0 l0_0.length c0_0) := (blk_cell BK101.out 0).trans rfl; have hcz12_1 : w11.cell? ⟨gb101, 1, none⟩ = some (.int .i64 a0_1) := (blk_cell BK101.out 1).trans rfl; have hcz12_2 : w11.cell? ⟨gb101, 2, none⟩ = some (.int .i64 a0_2) := (blk_cell BK101.out 2).trans rfl; have hcz12_3 : w11.cell? ⟨gb101, 3, none⟩ = some (.slice A0_3 l0_3.length c0_3) := (blk_cell BK101.out 3).trans rfl; have hfz12_0 := blk_frozen BK101.out 0; have hfz12_1 := blk_frozen BK101.out 1; have hfz12_2 := blk_frozen BK101.out 2; have hfz12_3 := blk_frozen BK101.out 3) | ((with_reducible refine gate_callee (f := 39) rfl ?_); refine goesL_ (some 8) rfl rfl Try.func39 (by kernel_rfl) rfl #[.slice A0_0 l0_0.length c0_0, .int .i64 a1] rfl (by (try simp only [List.map_toArray, List.map_cons, List.map_nil]); first | done | rfl | (simp only [List.length_drop, List.length_take]; rfl)) ?_; (with_reducible refine (laws_szIntS.calls _ _ l0_0 a1 t102 _ ?side1 ?side2 A3.out).mono ?_); (case side1 => repeat (first | exact (Kd.C_below HR0_0.out HB.out) | (with_reducible refine Kd.C_alloc ?_ _) | (with_reducible refine Kd.C_drewN ?_ _) | (with_reducible refine Kd.C_drew ?_))); (case side2 => exact HC0_0.out); rintro e w' ⟨rfl, ⟨nd, rfl⟩⟩; refine ⟨_, rfl, ?_⟩) | ((with_reducible refine gate_callee (f := 40) rfl ?_); refine goesL_ (some 14) rfl rfl Try.func40 (by kernel_rfl) rfl #[.slice A0_3 l0_3.length c0_3, .int .i64 t102] rfl (by (try simp only [List.map_toArray, List.map_cons, List.map_nil]); first | done | rfl | (simp only [List.length_drop, List.length_take]; rfl)) ?_; (with_reducible refine (laws_szWordS.calls _ _ l0_3 t102 t103 _ ?side1 ?side2 A7.out).mono ?_); (case side1 => repeat (first | exact (Kd.C_below HR0_3.out (by repeat (first | (with_reducible first | exact HB.out | apply below_alloc | apply pw_below_drewN | apply below_drew1 | refine below_set ?_ GE101.out) | exact HB.out))) | (with_reducible refine Kd.C_alloc ?_ _) | (with_reducible refine Kd.C_drewN ?_ _) | (with_reducible refine Kd.C_drew ?_))); (case side2 => exact HC0_3.out); rintro e w' ⟨rfl, ⟨nd, rfl⟩⟩; refine ⟨_, rfl, ?_⟩))
      go_ret
      exact ⟨by first | rfl | (simp [errW_none, errW_some] <;> rfl) | (simp [*, errW_none, errW_some] <;> rfl), by repeat (first | (with_reducible first | exact HB.out | apply below_alloc | apply pw_below_drewN | apply below_drew1 | refine below_set ?_ GE101.out) | exact HB.out)⟩

end Go.Proofs.Ytnbaojaocagjcaa.P
end
section
-- Written for this claim by gp.py over the kit's print; not trusted: Lean checks it.

namespace Go.Proofs.Ytnbaojaocagjcaa.P
open Go.RowKit Go.Proofs.YtnbaojaocagjcaaW.PrintWords Go.Proofs.YtnbaojaocagjcaaW.PrintLast Go.Proofs.YtnbaojaocagjcaaW.PrintMore
attribute [local go_sem] max2_int min2_int max_two min_two max_three min_three max_four min_four
set_option linter.unusedVariables false
set_option linter.unusedSimpArgs false

/-! ### laws_toIntS: function 41 -/
def laws_toIntS.l0 : Nat → List Int → List Int → Int → Option (List Int)
  | 0, _, _, _ => none
  | k + 1, x0, x3, x4 => if x4 < (x0.length : Int) then (if 0 ≤ x4 then (if x4 < (x3.length : Int) then (laws_toIntS.l0 k x0 (x3.set (x4 : Int).toNat (rd x0 x4)) (wrap64 (x4 + 1))) else (none)) else (none)) else (some x3)
def laws_toIntS.f (k : Nat) (l0 : List Int) : Option (List Int) := if 0 ≤ (l0.length : Int) then (if ((l0.length : Int) : Int).toNat ≤ 35184372088832 then (laws_toIntS.l0 k l0 (List.replicate ((l0.length : Int) : Int).toNat 0) 0) else (none)) else (none)
theorem laws_toIntS.mono_l : ∀ k, (∀ y0 y1 y2, LeO (laws_toIntS.l0 k y0 y1 y2) (laws_toIntS.l0 (k + 1) y0 y1 y2))
  | 0 => fun _ _ _ r h => by simp [laws_toIntS.l0] at h
  | k + 1 => by
    have ih0 := laws_toIntS.mono_l k
    · intro y0 y1 y2
      unfold laws_toIntS.l0
      repeat' first
      | (with_reducible exact ih0 _ _ _)
      | (with_reducible exact LeO.refl _)
      | (with_reducible exact LeO.none _)
      | (with_reducible refine LeO.ite ?_ ?_)
      | (with_reducible refine LeO.bind ?_ (fun _ => ?_))
      | exact ih0 _ _ _
      | exact LeO.none _
      | refine LeO.ite ?_ ?_
      | refine LeO.bind ?_ (fun _ => ?_)
theorem laws_toIntS.mono : ∀ a0 k, LeO (laws_toIntS.f k a0) (laws_toIntS.f (k + 1) a0) := by
  intro a0 k
  have ih0 := laws_toIntS.mono_l k
  unfold laws_toIntS.f
  repeat' first
      | (with_reducible exact ih0 _ _ _)
      | (with_reducible exact LeO.refl _)
      | (with_reducible exact LeO.none _)
      | (with_reducible refine LeO.ite ?_ ?_)
      | (with_reducible refine LeO.bind ?_ (fun _ => ?_))
      | exact ih0 _ _ _
      | exact LeO.none _
      | refine LeO.ite ?_ ?_
      | refine LeO.bind ?_ (fun _ => ?_)
set_option maxHeartbeats 8000000 in
set_option maxRecDepth 100000 in
theorem laws_toIntS.calls (k : Nat) (A0 : Option Addr) (c0 : Nat) (l0 : List Int) (r : List Int) (w : World) (hr0 : Kd.C (Kd.int .i64) w A0 l0.length l0) (hc0 : l0.length ≤ c0) (h : laws_toIntS.f k l0 = some r) :
    Calls Try.prog 41 #[.slice A0 l0.length c0] w fun e w' => ∃ v0_ : Value, e = .returned (v0_) ∧ Kd.R (Kd.int .i64) 3 w' w.heap.size (fun _ => True) v0_ r ∧ Below w.heap.size w w' := by
  have HR0 := Aside0.mk hr0
  have HC0 := Aside0.mk hc0
  clear hr0 hc0
  have HB := Aside0.mk (Below.refl w.heap.size w)
  have H : (if 0 ≤ (l0.length : Int) then (if ((l0.length : Int) : Int).toNat ≤ 35184372088832 then (laws_toIntS.l0 k l0 (List.replicate ((l0.length : Int) : Int).toNat 0) 0) else (none)) else (none)) = some r := h
  clear h
  by_cases c2 : 0 ≤ (l0.length : Int)
  · rw [if_pos c2] at H
    have c2b0 := eq_true c2
    have c2b1 : decide (0 ≤ (l0.length : Int)) = true := decide_eq_true c2
    clear c2
    by_cases c3 : ((l0.length : Int) : Int).toNat ≤ 35184372088832
    · rw [if_pos c3] at H
      have c3b0 := eq_true c3
      have c3b1 : decide (((l0.length : Int) : Int).toNat ≤ 35184372088832) = true := decide_eq_true c3
      clear c3
      obtain ⟨y101, hy101⟩ : ∃ y_ : List Int, y_ = (List.replicate ((l0.length : Int) : Int).toNat 0) := ⟨_, rfl⟩
      replace H : (laws_toIntS.l0 k l0 y101 0) = some r := by first | (rw [hy101]; with_reducible exact H) | (have H2_ := (Option.bind_some _ _).symm.trans H; rw [hy101]; with_reducible exact H2_) | (have H2_ := (Option.bind_some _ _).symm.trans H; with_reducible exact H2_) | with_reducible exact H | (rw [hy101]; exact H) | exact H
      have Ny101 := Aside0.mk hy101
      clear hy101
      have H' := Aside0.mk H
      clear H
      go_enter Try.func41, Try.ntmps41
      go_wp2_with (first | ((with_reducible refine gate_dst (N := 7) rfl ?_); refine Kd.R_make (Kd.int .i64) _ 3 rfl (N := 7) rfl 25 _ _ rfl (l0.length : Int) rfl rfl Try.underlying25 (.int .i64 0) 8 info3 rfl (by decide) (by omega) 0 (ok := fun _ => True) (okp := fun _ => True) rfl (fun _ hk => hk) trivial (of_decide_eq_true (by first | (with_reducible assumption) | assumption)) (Nat.le_trans (Nat.mul_le_mul_right _ (of_decide_eq_true (by first | (with_reducible assumption) | assumption) : (l0.length : Int).toNat ≤ 35184372088832)) (by omega)) (Below.refl _ _) (Nat.le_refl _) ?_; intro v102 w4 ho5 hb hg_ hnew_; clear hg_ hnew_; (first | rw [← Ny101.out] at ho5 | (simp only [Int.reduceToNat] at ho5; rw [← Ny101.out] at ho5)); have n0_ := Aside0.mk (Kd.R_lower ho5 (below_size (by repeat (first | (with_reducible first | exact HB.out | apply below_alloc | apply pw_below_drewN | apply below_drew1) | exact HB.out)))); have n1_ := Aside0.mk (below_step (by repeat (first | (with_reducible first | exact HB.out | apply below_alloc | apply pw_below_drewN | apply below_drew1) | exact HB.out)) hb); clear HB; have HO103 := n0_; have HB := n1_; clear n0_ n1_; clear hb ho5))
      go_loopg [4] k (fun kq v4 w' => ∃ (x3_1 : List Int) (x4_1 : Int), v4 = .int .i64 x4_1 ∧ Aside0 (laws_toIntS.l0 kq l0 x3_1 x4_1 = some r) ∧ Aside0 (kq ≤ k) ∧ Aside0 (Kd.R (Kd.int .i64) 3 w' w.heap.size (fun _ => True) v102 x3_1) ∧ Aside0 (Below w.heap.size w w'))
      case atStart => exact ⟨(y101), (0), (by first | rfl | (simp; done) | (simp [*]; done)), H', ⟨Nat.le_refl _⟩, ⟨by (with_reducible repeat (first | apply Kd.R_alloc | apply Kd.R_drewN | apply Kd.R_drew)); exact HO103.out⟩, ⟨by repeat (first | (with_reducible first | exact HB.out | apply below_alloc | apply pw_below_drewN | apply below_drew1) | exact HB.out)⟩⟩
      case round =>
        clear H'
        try clear c2
        try clear c2b0
        try clear c2b1
        try clear p2
        try clear c3
        try clear c3b0
        try clear c3b1
        try clear c4
        (try clear HA)
        (try clear HK1)
        (try clear HO_3)
        (try clear HB)
        obtain ⟨x3_1, x4_1, rfl, HA, HK1, HO_3, HB⟩ := hrel
        cases gk with
        | zero => exact absurd HA.out (by simp [laws_toIntS.l0])
        | succ k1 =>
          have H := HA.out
          clear HA
          simp only [laws_toIntS.l0] at H
          by_cases c6 : x4_1 < (l0.length : Int)
          · rw [if_pos c6] at H
            have c6b0 : decide (x4_1 < (l0.length : Int)) = true := decide_eq_true c6
            clear c6
            by_cases c7 : 0 ≤ x4_1
            · rw [if_pos c7] at H
              have c7b0 : decide (0 ≤ x4_1) = true := decide_eq_true c7
              clear c7
              by_cases c8 : x4_1 < (x3_1.length : Int)
              · rw [if_pos c8] at H
                have c8b0 : decide (x4_1 < (x3_1.length : Int)) = true := decide_eq_true c8
                clear c8
                obtain ⟨y105, hy105⟩ : ∃ y_ : List Int, y_ = (x3_1.set (x4_1 : Int).toNat (rd l0 x4_1)) := ⟨_, rfl⟩
                replace H : (laws_toIntS.l0 k1 l0 y105 (wrap64 (x4_1 + 1))) = some r := by first | (rw [hy105]; with_reducible exact H) | (have H2_ := (Option.bind_some _ _).symm.trans H; rw [hy105]; with_reducible exact H2_) | (have H2_ := (Option.bind_some _ _).symm.trans H; with_reducible exact H2_) | with_reducible exact H | (rw [hy105]; exact H) | exact H
                have Ny105 := Aside0.mk hy105
                clear hy105
                have H' := Aside0.mk H
                clear H
                have p104 : 0 ≤ (x4_1 : Int) := of_decide_eq_true (by first | (with_reducible assumption) | assumption)
                have q104 : x4_1 < (l0.length : Int) := of_decide_eq_true (by first | (with_reducible assumption) | assumption)
                obtain ⟨ad104, e104, hx104_0⟩ := Kd.at_int HR0.out x4_1 p104 q104
                cases e104
                replace hx104_0 := (HB.out.cell (World.block_lt_of_cell? w _ hx104_0)).trans hx104_0
                replace p104 := eq_true p104
                replace q104 := eq_true q104
                have p9 : 0 ≤ (x4_1 : Int) := of_decide_eq_true (by first | (with_reducible assumption) | assumption)
                have q9 : (x4_1 : Int) < ((x3_1.length : Int) : Int) := of_decide_eq_true (by first | (with_reducible assumption) | assumption)
                obtain ⟨go9, co9, eo9, gb9, gl9, cl9, HG9⟩ := Kd.R_form HO_3.out (by omega)
                (first | cases eo9 | (injection eo9 with ea_ en_ ec_; (first | subst ea_ | (injection ea_ with ea_; subst ea_)); subst ec_; clear en_))
                have GB9 := Aside0.mk gb9
                have GG9 := Aside0.mk HG9
                clear gb9 gl9 HG9
                obtain ⟨hx9_0, hf9_0⟩ := Kd.R_celln 0 HO_3.out (x4_1 : Int) p9 q9
                replace p9 := eq_true p9
                replace q9 := eq_true q9
                have HP10 := Kd.R_putg HO_3.out (x4_1 : Int) (rd l0 x4_1)
                go_wp2_with (first | ((with_reducible refine gate_store (t := 3) (p := 20) rfl ?_); refine store_event (t := 3) (p := 20) (v := ?vo_w11) (w1 := (wr.setCell ⟨go9, (x4_1 : Int).toNat, none⟩ (.int .i64 (rd l0 x4_1)))) ?hg ?ho ?hn ?hr ?_; (case ho => rfl); (case hg => rfl); (case hn => rfl); (case hr => first | (go_simp; done) | (go_simp; rfl)); intro w11 hw; have hg : wr.grownBy w11 (some go9) := (by rw [hw]; exact HP10.2); have hp_ : Kd.R (Kd.int .i64) 3 w11 w.heap.size (fun _ => True) (.slice (some ⟨go9, 0, none⟩) x3_1.length co9) y105 := (by rw [hw, Ny105.out]; exact HP10.1); clear HP10; have n0_ := Aside0.mk (hp_); have n1_ := Aside0.mk ((by rw [hw]; exact below_set (HB.out) GB9.out : Below w.heap.size w w11)); clear HO_3; clear HB; have HO_3 := n0_; have HB := n1_; clear n0_ n1_; clear hg hw hp_))
                go_roundg k1
                case measure => have := HK1.out; omega
                case rel => exact ⟨(y105), (wrap64 (x4_1 + 1)), (by first | rfl | (simp; done) | (simp [*]; done)), H', ⟨by have := HK1.out; omega⟩, ⟨by (with_reducible repeat (first | apply Kd.R_alloc | apply Kd.R_drewN | apply Kd.R_drew)); exact HO_3.out⟩, ⟨by repeat (first | (with_reducible first | exact HB.out | apply below_alloc | apply pw_below_drewN | apply below_drew1) | exact HB.out)⟩⟩
              · rw [if_neg c8] at H
                exact absurd H (by simp)
            · rw [if_neg c7] at H
              exact absurd H (by simp)
          · rw [if_neg c6] at H
            have c6b0 : decide (x4_1 < (l0.length : Int)) = false := decide_eq_false c6
            clear c6
            obtain rfl := Option.some.inj H
            go_wp2
            go_ret
            exact ⟨_, by first | rfl | (simp [errW_none, errW_some] <;> rfl) | (simp [*, errW_none, errW_some] <;> rfl), by (with_reducible repeat (first | apply Kd.R_alloc | apply Kd.R_drewN | apply Kd.R_drew)); exact HO_3.out, by repeat (first | (with_reducible first | exact HB.out | apply below_alloc | apply pw_below_drewN | apply below_drew1) | exact HB.out)⟩
    · rw [if_neg c3] at H
      exact absurd H (by simp)
  · rw [if_neg c2] at H
    exact absurd H (by simp)

end Go.Proofs.Ytnbaojaocagjcaa.P
end
section
-- Written for this claim by gp.py over the kit's print; not trusted: Lean checks it.

namespace Go.Proofs.Ytnbaojaocagjcaa.P
open Go.RowKit Go.Proofs.YtnbaojaocagjcaaW.PrintWords Go.Proofs.YtnbaojaocagjcaaW.PrintLast Go.Proofs.YtnbaojaocagjcaaW.PrintMore
attribute [local go_sem] max2_int min2_int max_two min_two max_three min_three max_four min_four
set_option linter.unusedVariables false
set_option linter.unusedSimpArgs false

/-! ### laws_toWord: function 60 -/
def laws_toWord.f (a0_0 : Int) (a0_1 : Int) (a0_2 : Int) (a0_3 : Int) (a0_4 : Int) : Option (Int × Int × Int × Int × Int) := some (a0_0, a0_1, a0_2, a0_3, a0_4)
set_option maxHeartbeats 8000000 in
set_option maxRecDepth 100000 in
theorem laws_toWord.calls (a0_0 : Int) (a0_1 : Int) (a0_2 : Int) (a0_3 : Int) (a0_4 : Int) (r1 : Int) (r2 : Int) (r3 : Int) (r4 : Int) (r5 : Int) (w : World) (h : laws_toWord.f a0_0 a0_1 a0_2 a0_3 a0_4 = some (r1, r2, r3, r4, r5)) :
    Calls Try.prog 60 #[.agg #[.int .i64 a0_0, .int .i64 a0_1, .int .i64 a0_2, .int .i64 a0_3, .int .i64 a0_4]] w fun e w' => e = .returned (.agg #[.int .i64 r1, .int .i64 r2, .int .i64 r3, .int .i64 r4, .int .i64 r5]) ∧ Below w.heap.size w w' := by
  have hu78 := Try.underlying78
  have hu59 := Try.underlying59
  have HB := Aside0.mk (Below.refl w.heap.size w)
  have H : (some (a0_0, a0_1, a0_2, a0_3, a0_4)) = some (r1, r2, r3, r4, r5) := h
  clear h
  simp only [Option.some.injEq, Prod.mk.injEq] at H
  obtain ⟨rfl, rfl, rfl, rfl, rfl⟩ := H
  go_enter Try.func60, Try.ntmps60
  go_wp2_with (first | ((with_reducible refine gate_dst (N := 1) rfl ?_); refine box_event ?hg (N := 1) ?hd (cs := #[.int .i64 a0_0, .int .i64 a0_1, .int .i64 a0_2, .int .i64 a0_3, .int .i64 a0_4]) (t := 78) ?hr ?_; (case hd => rfl); (case hg => rfl); (case hr => first | (go_simp; done) | (go_simp; rfl)); intro gb101 hg w2 hbox hb; have n0_ := Aside0.mk (below_step (by repeat (first | (with_reducible first | exact HB.out | apply below_alloc | apply pw_below_drewN | apply below_drew1) | exact HB.out)) hb); have n1_ := Aside0.mk (hbox); have n2_ := Aside0.mk ((by rw [hg]; exact (below_size (by repeat (first | (with_reducible first | exact HB.out | apply below_alloc | apply pw_below_drewN | apply below_drew1) | exact HB.out))) : w.heap.size ≤ gb101)); have n3_ := Aside0.mk ((by rw [hg]; exact (below_size (by repeat (first | (with_reducible first | exact HB.out | apply below_alloc | apply pw_below_drewN | apply below_drew1) | exact HB.out))) : w.heap.size ≤ gb101)); clear HB; have HB := n0_; have BK101 := n1_; have GW101 := n2_; have GE101 := n3_; clear n0_ n1_ n2_ n3_; clear hb hbox hg) | ((with_reducible refine gate_dst (N := 2) rfl ?_); refine box_event ?hg (N := 2) ?hd (cs := #[.int .i64 0, .int .i64 0, .int .i64 0, .int .i64 0, .int .i64 0]) (t := 59) ?hr ?_; (case hd => rfl); (case hg => rfl); (case hr => first | (go_simp; done) | (go_simp; rfl)); intro gb102 hg w3 hbox hb; have n0_ := Aside0.mk (blk_below (g := gb101) (o := .cells #[.int .i64 a0_0, .int .i64 a0_1, .int .i64 a0_2, .int .i64 a0_3, .int .i64 a0_4] 78 (0, 0)) (by (with_reducible repeat (first | refine blk_drewN ?_ _ | refine blk_drew ?_ | refine blk_alloc ?_ _)); exact BK101.out) hb); have n1_ := Aside0.mk (below_step (by repeat (first | (with_reducible first | exact HB.out | apply below_alloc | apply pw_below_drewN | apply below_drew1 | refine below_set ?_ GE101.out) | exact HB.out)) hb); have n2_ := Aside0.mk (hbox); have n3_ := Aside0.mk ((by rw [hg]; exact (below_size (by repeat (first | (with_reducible first | exact HB.out | apply below_alloc | apply pw_below_drewN | apply below_drew1 | refine below_set ?_ GE101.out) | exact HB.out))) : w.heap.size ≤ gb102)); have n4_ := Aside0.mk ((by rw [hg]; exact (below_size (by repeat (first | (with_reducible first | exact HB.out | apply below_alloc | apply pw_below_drewN | apply below_drew1 | refine below_set ?_ GE101.out) | exact HB.out))) : w.heap.size ≤ gb102)); have n5_ := Aside0.mk ((by rw [hg]; exact Nat.ne_of_lt (blk_lt (g := gb101) (o := .cells #[.int .i64 a0_0, .int .i64 a0_1, .int .i64 a0_2, .int .i64 a0_3, .int .i64 a0_4] 78 (0, 0)) (by (with_reducible repeat (first | refine blk_drewN ?_ _ | refine blk_drew ?_ | refine blk_alloc ?_ _)); exact BK101.out)) : gb101 ≠ gb102)); have n6_ := Aside0.mk ((by rw [hg]; exact Nat.ne_of_gt (blk_lt (g := gb101) (o := .cells #[.int .i64 a0_0, .int .i64 a0_1, .int .i64 a0_2, .int .i64 a0_3, .int .i64 a0_4] 78 (0, 0)) (by (with_reducible repeat (first | refine blk_drewN ?_ _ | refine blk_drew ?_ | refine blk_alloc ?_ _)); exact BK101.out)) : gb102 ≠ gb101)); clear BK101; clear HB; have BK101 := n0_; have HB := n1_; have BK102 := n2_; have GW102 := n3_; have GE102 := n4_; have NB101_102 := n5_; have NB102_101 := n6_; clear n0_ n1_ n2_ n3_ n4_ n5_ n6_; clear hb hbox hg) | ((with_reducible refine gate_dst (N := 3) rfl ?_); refine box_event ?hg (N := 3) ?hd (cs := #[.int .i64 0, .int .i64 0, .int .i64 0, .int .i64 0, .int .i64 0]) (t := 59) ?hr ?_; (case hd => rfl); (case hg => rfl); (case hr => first | (go_simp; done) | (go_simp; rfl)); intro gb103 hg w4 hbox hb; have n0_ := Aside0.mk (blk_below (g := gb101) (o := .cells #[.int .i64 a0_0, .int .i64 a0_1, .int .i64 a0_2, .int .i64 a0_3, .int .i64 a0_4] 78 (0, 0)) (by (with_reducible repeat (first | refine blk_drewN ?_ _ | refine blk_drew ?_ | refine blk_alloc ?_ _)); exact BK101.out) hb); have n1_ := Aside0.mk (blk_below (g := gb102) (o := .cells #[.int .i64 0, .int .i64 0, .int .i64 0, .int .i64 0, .int .i64 0] 59 (0, 0)) (by (with_reducible repeat (first | refine blk_drewN ?_ _ | refine blk_drew ?_ | refine blk_alloc ?_ _)); exact BK102.out) hb); have n2_ := Aside0.mk (below_step (by repeat (first | (with_reducible first | exact HB.out | apply below_alloc | apply pw_below_drewN | apply below_drew1 | refine below_set ?_ GE101.out | refine below_set ?_ GE102.out) | exact HB.out)) hb); have n3_ := Aside0.mk (hbox); have n4_ := Aside0.mk ((by rw [hg]; exact (below_size (by repeat (first | (with_reducible first | exact HB.out | apply below_alloc | apply pw_below_drewN | apply below_drew1 | refine below_set ?_ GE101.out | refine below_set ?_ GE102.out) | exact HB.out))) : w.heap.size ≤ gb103)); have n5_ := Aside0.mk ((by rw [hg]; exact (below_size (by repeat (first | (with_reducible first | exact HB.out | apply below_alloc | apply pw_below_drewN | apply below_drew1 | refine below_set ?_ GE101.out | refine below_set ?_ GE102.out) | exact HB.out))) : w.heap.size ≤ gb103)); have n6_ := Aside0.mk ((by rw [hg]; exact Nat.ne_of_lt (blk_lt (g := gb101) (o := .cells #[.int .i64 a0_0, .int .i64 a0_1, .int .i64 a0_2, .int .i64 a0_3, .int .i64 a0_4] 78 (0, 0)) (by (with_reducible repeat (first | refine blk_drewN ?_ _ | refine blk_drew ?_ | refine blk_alloc ?_ _)); exact BK101.out)) : gb101 ≠ gb103)); have n7_ := Aside0.mk ((by rw [hg]; exact Nat.ne_of_gt (blk_lt (g := gb101) (o := .cells #[.int .i64 a0_0, .int .i64 a0_1, .int .i64 a0_2, .int .i64 a0_3, .int .i64 a0_4] 78 (0, 0)) (by (with_reducible repeat (first | refine blk_drewN ?_ _ | refine blk_drew ?_ | refine blk_alloc ?_ _)); exact BK101.out)) : gb103 ≠ gb101)); have n8_ := Aside0.mk ((by rw [hg]; exact Nat.ne_of_lt (blk_lt (g := gb102) (o := .cells #[.int .i64 0, .int .i64 0, .int .i64 0, .int .i64 0, .int .i64 0] 59 (0, 0)) (by (with_reducible repeat (first | refine blk_drewN ?_ _ | refine blk_drew ?_ | refine blk_alloc ?_ _)); exact BK102.out)) : gb102 ≠ gb103)); have n9_ := Aside0.mk ((by rw [hg]; exact Nat.ne_of_gt (blk_lt (g := gb102) (o := .cells #[.int .i64 0, .int .i64 0, .int .i64 0, .int .i64 0, .int .i64 0] 59 (0, 0)) (by (with_reducible repeat (first | refine blk_drewN ?_ _ | refine blk_drew ?_ | refine blk_alloc ?_ _)); exact BK102.out)) : gb103 ≠ gb102)); clear BK101; clear BK102; clear HB; have BK101 := n0_; have BK102 := n1_; have HB := n2_; have BK103 := n3_; have GW103 := n4_; have GE103 := n5_; have NB101_103 := n6_; have NB103_101 := n7_; have NB102_103 := n8_; have NB103_102 := n9_; clear n0_ n1_ n2_ n3_ n4_ n5_ n6_ n7_ n8_ n9_; clear hb hbox hg; have hnb5 := NB101_102.out; have hnc5 := NB102_101.out; have hnb6 := NB101_103.out; have hnc6 := NB103_101.out; have hcz7_0 : w4.cell? ⟨gb101, 0, none⟩ = some (.int .i64 a0_0) := (blk_cell BK101.out 0).trans rfl; have hcz7_1 : w4.cell? ⟨gb101, 1, none⟩ = some (.int .i64 a0_1) := (blk_cell BK101.out 1).trans rfl; have hcz7_2 : w4.cell? ⟨gb101, 2, none⟩ = some (.int .i64 a0_2) := (blk_cell BK101.out 2).trans rfl; have hcz7_3 : w4.cell? ⟨gb101, 3, none⟩ = some (.int .i64 a0_3) := (blk_cell BK101.out 3).trans rfl; have hcz7_4 : w4.cell? ⟨gb101, 4, none⟩ = some (.int .i64 a0_4) := (blk_cell BK101.out 4).trans rfl; have hfz7_0 := blk_frozen BK101.out 0; have hfz7_1 := blk_frozen BK101.out 1; have hfz7_2 := blk_frozen BK101.out 2; have hfz7_3 := blk_frozen BK101.out 3; have hfz7_4 := blk_frozen BK101.out 4; have hnb8 := NB103_102.out; have hnc8 := NB102_103.out; have hcz9_0 : w4.cell? ⟨gb103, 0, none⟩ = some (.int .i64 0) := (blk_cell BK103.out 0).trans rfl; have hcz9_1 : w4.cell? ⟨gb103, 1, none⟩ = some (.int .i64 0) := (blk_cell BK103.out 1).trans rfl; have hcz9_2 : w4.cell? ⟨gb103, 2, none⟩ = some (.int .i64 0) := (blk_cell BK103.out 2).trans rfl; have hcz9_3 : w4.cell? ⟨gb103, 3, none⟩ = some (.int .i64 0) := (blk_cell BK103.out 3).trans rfl; have hcz9_4 : w4.cell? ⟨gb103, 4, none⟩ = some (.int .i64 0) := (blk_cell BK103.out 4).trans rfl; have hfz9_0 := blk_frozen BK103.out 0; have hfz9_1 := blk_frozen BK103.out 1; have hfz9_2 := blk_frozen BK103.out 2; have hfz9_3 := blk_frozen BK103.out 3; have hfz9_4 := blk_frozen BK103.out 4; have hcz10_0 : w4.cell? ⟨gb102, 0, none⟩ = some (.int .i64 0) := (blk_cell BK102.out 0).trans rfl; have hcz10_1 : w4.cell? ⟨gb102, 1, none⟩ = some (.int .i64 0) := (blk_cell BK102.out 1).trans rfl; have hcz10_2 : w4.cell? ⟨gb102, 2, none⟩ = some (.int .i64 0) := (blk_cell BK102.out 2).trans rfl; have hcz10_3 : w4.cell? ⟨gb102, 3, none⟩ = some (.int .i64 0) := (blk_cell BK102.out 3).trans rfl; have hcz10_4 : w4.cell? ⟨gb102, 4, none⟩ = some (.int .i64 0) := (blk_cell BK102.out 4).trans rfl; have hfz10_0 := blk_frozen BK102.out 0; have hfz10_1 := blk_frozen BK102.out 1; have hfz10_2 := blk_frozen BK102.out 2; have hfz10_3 := blk_frozen BK102.out 3; have hfz10_4 := blk_frozen BK102.out 4))
  refine bodyPost_ret (results_cell_row rfl _ _ gb102 59 #[.int .i64 a0_0, .int .i64 a0_1, .int .i64 a0_2, .int .i64 a0_3, .int .i64 a0_4] (0, 0) _ rfl (by (with_reducible repeat (first | refine blk_drewN ?_ _ | refine blk_drew ?_ | refine blk_alloc ?_ _)); refine blk_put (cs := #[.int .i64 a0_0, .int .i64 a0_1, .int .i64 a0_2, .int .i64 a0_3, .int .i64 0]) ?_ 4 _ rfl; (with_reducible repeat (first | refine blk_drewN ?_ _ | refine blk_drew ?_ | refine blk_alloc ?_ _)); refine blk_put (cs := #[.int .i64 a0_0, .int .i64 a0_1, .int .i64 a0_2, .int .i64 0, .int .i64 0]) ?_ 3 _ rfl; (with_reducible repeat (first | refine blk_drewN ?_ _ | refine blk_drew ?_ | refine blk_alloc ?_ _)); refine blk_put (cs := #[.int .i64 a0_0, .int .i64 a0_1, .int .i64 0, .int .i64 0, .int .i64 0]) ?_ 2 _ rfl; (with_reducible repeat (first | refine blk_drewN ?_ _ | refine blk_drew ?_ | refine blk_alloc ?_ _)); refine blk_put (cs := #[.int .i64 a0_0, .int .i64 0, .int .i64 0, .int .i64 0, .int .i64 0]) ?_ 1 _ rfl; (with_reducible repeat (first | refine blk_drewN ?_ _ | refine blk_drew ?_ | refine blk_alloc ?_ _)); refine blk_put (cs := #[.int .i64 0, .int .i64 0, .int .i64 0, .int .i64 0, .int .i64 0]) ?_ 0 _ rfl; (with_reducible repeat (first | refine blk_drewN ?_ _ | refine blk_drew ?_ | refine blk_alloc ?_ _)); refine blk_far ?_ NB102_103.out _; (with_reducible repeat (first | refine blk_drewN ?_ _ | refine blk_drew ?_ | refine blk_alloc ?_ _)); refine blk_far ?_ NB102_103.out _; (with_reducible repeat (first | refine blk_drewN ?_ _ | refine blk_drew ?_ | refine blk_alloc ?_ _)); refine blk_far ?_ NB102_103.out _; (with_reducible repeat (first | refine blk_drewN ?_ _ | refine blk_drew ?_ | refine blk_alloc ?_ _)); refine blk_far ?_ NB102_103.out _; (with_reducible repeat (first | refine blk_drewN ?_ _ | refine blk_drew ?_ | refine blk_alloc ?_ _)); refine blk_far ?_ NB102_103.out _; (with_reducible repeat (first | refine blk_drewN ?_ _ | refine blk_drew ?_ | refine blk_alloc ?_ _)); exact BK102.out) Try.underlying59 rfl (by kernel_rfl)) rfl ?_
  exact ⟨by first | rfl | (simp [errW_none, errW_some] <;> rfl) | (simp [*, errW_none, errW_some] <;> rfl), by repeat (first | (with_reducible first | exact HB.out | apply below_alloc | apply pw_below_drewN | apply below_drew1 | refine below_set ?_ GE101.out | refine below_set ?_ GE102.out | refine below_set ?_ GE103.out) | exact HB.out)⟩

end Go.Proofs.Ytnbaojaocagjcaa.P
end
section
-- Written for this claim by gp.py over the kit's print; not trusted: Lean checks it.


namespace Go.Proofs.Ytnbaojaocagjcaa.P
open Go.RowKit Go.Proofs.YtnbaojaocagjcaaW.PrintWords Go.Proofs.YtnbaojaocagjcaaW.PrintLast Go.Proofs.YtnbaojaocagjcaaW.PrintMore
attribute [local go_sem] max2_int min2_int max_two min_two max_three min_three max_four min_four
set_option linter.unusedVariables false
set_option linter.unusedSimpArgs false

/-! ### laws_toWordS: function 42 -/
def laws_toWordS.l0 : Nat → List (S78) → List (S59) → Int → Option ((List (S59)))
  | 0, _, _, _ => none
  | k + 1, x0, x3, x4 => if x4 < (x0.length : Int) then (if 0 ≤ x4 then ((laws_toWord.f ((rd_T78 x0 x4).f0) ((rd_T78 x0 x4).f1) ((rd_T78 x0 x4).f2) ((rd_T78 x0 x4).f3) ((rd_T78 x0 x4).f4)).bind fun bt105 => (if x4 < (x3.length : Int) then (laws_toWordS.l0 k x0 (x3.set (x4 : Int).toNat (⟨bt105.1, bt105.2.1, bt105.2.2.1, bt105.2.2.2.1, bt105.2.2.2.2⟩ : S59)) (wrap64 (x4 + 1))) else (none))) else (none)) else (some x3)
def laws_toWordS.f (k : Nat) (l0 : List (S78)) : Option ((List (S59))) := if 0 ≤ (l0.length : Int) then (if ((l0.length : Int) : Int).toNat ≤ 7036874417766 then (laws_toWordS.l0 k l0 (List.replicate ((l0.length : Int) : Int).toNat z59) 0) else (none)) else (none)
theorem laws_toWordS.mono_l : ∀ k, (∀ y0 y1 y2, LeO (laws_toWordS.l0 k y0 y1 y2) (laws_toWordS.l0 (k + 1) y0 y1 y2))
  | 0 => fun _ _ _ r h => by simp [laws_toWordS.l0] at h
  | k + 1 => by
    have ih0 := laws_toWordS.mono_l k
    · intro y0 y1 y2
      unfold laws_toWordS.l0
      repeat' first
      | (with_reducible exact ih0 _ _ _)
      | (with_reducible exact LeO.refl _)
      | (with_reducible exact LeO.none _)
      | (with_reducible refine LeO.ite ?_ ?_)
      | (with_reducible refine LeO.bind ?_ (fun _ => ?_))
      | exact ih0 _ _ _
      | exact LeO.none _
      | refine LeO.ite ?_ ?_
      | refine LeO.bind ?_ (fun _ => ?_)
theorem laws_toWordS.mono : ∀ a0 k, LeO (laws_toWordS.f k a0) (laws_toWordS.f (k + 1) a0) := by
  intro a0 k
  have ih0 := laws_toWordS.mono_l k
  unfold laws_toWordS.f
  repeat' first
      | (with_reducible exact ih0 _ _ _)
      | (with_reducible exact LeO.refl _)
      | (with_reducible exact LeO.none _)
      | (with_reducible refine LeO.ite ?_ ?_)
      | (with_reducible refine LeO.bind ?_ (fun _ => ?_))
      | exact ih0 _ _ _
      | exact LeO.none _
      | refine LeO.ite ?_ ?_
      | refine LeO.bind ?_ (fun _ => ?_)
set_option maxHeartbeats 8000000 in
set_option maxRecDepth 100000 in
theorem laws_toWordS.calls (k : Nat) (A0 : Option Addr) (c0 : Nat) (l0 : List (S78)) (r : List (S59)) (w : World) (hr0 : Kd.C k78 w A0 l0.length l0) (hc0 : l0.length ≤ c0) (h : laws_toWordS.f k l0 = some r) :
    Calls Try.prog 42 #[.slice A0 l0.length c0] w fun e w' => ∃ v0_ : Value, e = .returned (v0_) ∧ Kd.R k59 59 w' w.heap.size (fun _ => True) v0_ r ∧ Below w.heap.size w w' := by
  have hu78 := Try.underlying78
  have hu59 := Try.underlying59
  have HR0 := Aside0.mk hr0
  have HC0 := Aside0.mk hc0
  clear hr0 hc0
  have HB := Aside0.mk (Below.refl w.heap.size w)
  have H : (if 0 ≤ (l0.length : Int) then (if ((l0.length : Int) : Int).toNat ≤ 7036874417766 then (laws_toWordS.l0 k l0 (List.replicate ((l0.length : Int) : Int).toNat z59) 0) else (none)) else (none)) = some r := h
  clear h
  by_cases c2 : 0 ≤ (l0.length : Int)
  · rw [if_pos c2] at H
    have c2b0 := eq_true c2
    have c2b1 : decide (0 ≤ (l0.length : Int)) = true := decide_eq_true c2
    clear c2
    by_cases c3 : ((l0.length : Int) : Int).toNat ≤ 7036874417766
    · rw [if_pos c3] at H
      have c3b0 := eq_true c3
      have c3b1 : decide (((l0.length : Int) : Int).toNat ≤ 7036874417766) = true := decide_eq_true c3
      clear c3
      obtain ⟨y101, hy101⟩ : ∃ y_ : List (S59), y_ = (List.replicate ((l0.length : Int) : Int).toNat z59) := ⟨_, rfl⟩
      replace H : (laws_toWordS.l0 k l0 y101 0) = some r := by first | (rw [hy101]; with_reducible exact H) | (have H2_ := (Option.bind_some _ _).symm.trans H; rw [hy101]; with_reducible exact H2_) | (have H2_ := (Option.bind_some _ _).symm.trans H; with_reducible exact H2_) | with_reducible exact H | (rw [hy101]; exact H) | exact H
      have Ny101 := Aside0.mk hy101
      clear hy101
      have H' := Aside0.mk H
      clear H
      go_enter Try.func42, Try.ntmps42
      go_wp2_with (first | ((with_reducible refine gate_dst (N := 7) rfl ?_); refine Kd.R_make k59 _ 59 rfl (N := 7) rfl 31 _ _ rfl (l0.length : Int) rfl rfl Try.underlying31 (.agg #[(.int .i64 0), (.int .i64 0), (.int .i64 0), (.int .i64 0), (.int .i64 0)]) 40 info59 rfl (by decide) (by omega) z59 (ok := fun _ => True) (okp := fun _ => True) (k59_mkM _ _ _ z59 ) (fun _ hk => hk) trivial (of_decide_eq_true (by first | (with_reducible assumption) | assumption)) (Nat.le_trans (Nat.mul_le_mul_right _ (of_decide_eq_true (by first | (with_reducible assumption) | assumption) : (l0.length : Int).toNat ≤ 7036874417766)) (by omega)) (Below.refl _ _) (Nat.le_refl _) ?_; intro v102 w4 ho5 hb hg_ hnew_; clear hg_ hnew_; (first | rw [← Ny101.out] at ho5 | (simp only [Int.reduceToNat] at ho5; rw [← Ny101.out] at ho5)); have n0_ := Aside0.mk (Kd.R_lower ho5 (below_size (by repeat (first | (with_reducible first | exact HB.out | apply below_alloc | apply pw_below_drewN | apply below_drew1) | exact HB.out)))); have n1_ := Aside0.mk (below_step (by repeat (first | (with_reducible first | exact HB.out | apply below_alloc | apply pw_below_drewN | apply below_drew1) | exact HB.out)) hb); clear HB; have HO103 := n0_; have HB := n1_; clear n0_ n1_; clear hb ho5))
      go_loopg [4] k (fun kq v4 w' => ∃ (x3_1 : List (S59)) (x4_1 : Int), v4 = .int .i64 x4_1 ∧ Aside0 (laws_toWordS.l0 kq l0 x3_1 x4_1 = some r) ∧ Aside0 (kq ≤ k) ∧ Aside0 (Kd.R k59 59 w' w.heap.size (fun _ => True) v102 x3_1) ∧ Aside0 (Below w.heap.size w w'))
      case atStart => exact ⟨(y101), (0), (by first | rfl | (simp; done) | (simp [*]; done)), H', ⟨Nat.le_refl _⟩, ⟨by (with_reducible repeat (first | apply Kd.R_alloc | apply Kd.R_drewN | apply Kd.R_drew)); exact HO103.out⟩, ⟨by repeat (first | (with_reducible first | exact HB.out | apply below_alloc | apply pw_below_drewN | apply below_drew1) | exact HB.out)⟩⟩
      case round =>
        clear H'
        try clear c2
        try clear c2b0
        try clear c2b1
        try clear p2
        try clear c3
        try clear c3b0
        try clear c3b1
        try clear c4
        (try clear HA)
        (try clear HK1)
        (try clear HO_3)
        (try clear HB)
        obtain ⟨x3_1, x4_1, rfl, HA, HK1, HO_3, HB⟩ := hrel
        cases gk with
        | zero => exact absurd HA.out (by simp [laws_toWordS.l0])
        | succ k1 =>
          have H := HA.out
          clear HA
          simp only [laws_toWordS.l0] at H
          by_cases c6 : x4_1 < (l0.length : Int)
          · rw [if_pos c6] at H
            have c6b0 : decide (x4_1 < (l0.length : Int)) = true := decide_eq_true c6
            clear c6
            by_cases c7 : 0 ≤ x4_1
            · rw [if_pos c7] at H
              have c7b0 : decide (0 ≤ x4_1) = true := decide_eq_true c7
              clear c7
              replace H := Option.bind_eq_some_iff.mp H
              obtain ⟨⟨t105, t106, t107, t108, t109⟩, A80, H⟩ := H
              replace H : (if x4_1 < (x3_1.length : Int) then (laws_toWordS.l0 k1 l0 (x3_1.set (x4_1 : Int).toNat (⟨t105, t106, t107, t108, t109⟩ : S59)) (wrap64 (x4_1 + 1))) else (none)) = some r := H
              have A8 := Aside0.mk A80
              clear A80
              by_cases c9 : x4_1 < (x3_1.length : Int)
              · rw [if_pos c9] at H
                have c9b0 : decide (x4_1 < (x3_1.length : Int)) = true := decide_eq_true c9
                clear c9
                obtain ⟨y110, hy110⟩ : ∃ y_ : List (S59), y_ = (x3_1.set (x4_1 : Int).toNat (⟨t105, t106, t107, t108, t109⟩ : S59)) := ⟨_, rfl⟩
                replace H : (laws_toWordS.l0 k1 l0 y110 (wrap64 (x4_1 + 1))) = some r := by first | (rw [hy110]; with_reducible exact H) | (have H2_ := (Option.bind_some _ _).symm.trans H; rw [hy110]; with_reducible exact H2_) | (have H2_ := (Option.bind_some _ _).symm.trans H; with_reducible exact H2_) | with_reducible exact H | (rw [hy110]; exact H) | exact H
                have Ny110 := Aside0.mk hy110
                clear hy110
                have H' := Aside0.mk H
                clear H
                have p104 : 0 ≤ (x4_1 : Int) := of_decide_eq_true (by first | (with_reducible assumption) | assumption)
                have q104 : x4_1 < (l0.length : Int) := of_decide_eq_true (by first | (with_reducible assumption) | assumption)
                obtain ⟨ad104, e104, hx104_0, hx104_1, hx104_2, hx104_3, hx104_4⟩ := at_T78 HR0.out x4_1 p104 q104
                cases e104
                replace hx104_0 := (HB.out.cell (World.block_lt_of_cell? w _ hx104_0)).trans hx104_0
                replace hx104_1 := (HB.out.cell (World.block_lt_of_cell? w _ hx104_1)).trans hx104_1
                replace hx104_2 := (HB.out.cell (World.block_lt_of_cell? w _ hx104_2)).trans hx104_2
                replace hx104_3 := (HB.out.cell (World.block_lt_of_cell? w _ hx104_3)).trans hx104_3
                replace hx104_4 := (HB.out.cell (World.block_lt_of_cell? w _ hx104_4)).trans hx104_4
                replace p104 := eq_true p104
                replace q104 := eq_true q104
                go_wp2_with (first | ((with_reducible refine gate_callee (f := 60) rfl ?_); refine goesL_ (some 20) rfl rfl Try.func60 (by kernel_rfl) rfl #[.agg #[.int .i64 ((rd_T78 l0 x4_1).f0), .int .i64 ((rd_T78 l0 x4_1).f1), .int .i64 ((rd_T78 l0 x4_1).f2), .int .i64 ((rd_T78 l0 x4_1).f3), .int .i64 ((rd_T78 l0 x4_1).f4)]] rfl (by (try simp only [List.map_toArray, List.map_cons, List.map_nil]); first | done | rfl | (simp only [List.length_drop, List.length_take]; rfl)) ?_; (with_reducible refine (laws_toWord.calls ((rd_T78 l0 x4_1).f0) ((rd_T78 l0 x4_1).f1) ((rd_T78 l0 x4_1).f2) ((rd_T78 l0 x4_1).f3) ((rd_T78 l0 x4_1).f4) t105 t106 t107 t108 t109 _ A8.out).mono ?_); rintro e w11 ⟨rfl, hb⟩; refine ⟨_, rfl, ?_⟩; have n0_ := Aside0.mk (Kd.R_below (by (with_reducible repeat (first | apply Kd.R_alloc | apply Kd.R_drewN | apply Kd.R_drew)); exact HO_3.out) hb); have n1_ := Aside0.mk (below_step (by repeat (first | (with_reducible first | exact HB.out | apply below_alloc | apply pw_below_drewN | apply below_drew1) | exact HB.out)) hb); clear HO_3; clear HB; have HO_3 := n0_; have HB := n1_; clear n0_ n1_; (try clear hb); (try clear hb2); (try clear hk); (try clear hi); have p10 : 0 ≤ (x4_1 : Int) := of_decide_eq_true (by first | (with_reducible assumption) | assumption); have q10 : (x4_1 : Int) < ((x3_1.length : Int) : Int) := of_decide_eq_true (by first | (with_reducible assumption) | assumption); obtain ⟨go10, co10, eo10, gb10, gl10, cl10, HG10⟩ := Kd.R_form HO_3.out (by omega); (first | cases eo10 | (injection eo10 with ea_ en_ ec_; (first | subst ea_ | (injection ea_ with ea_; subst ea_)); subst ec_; clear en_)); have GB10 := Aside0.mk gb10; have GG10 := Aside0.mk HG10; clear gb10 gl10 HG10; obtain ⟨ce10, hcl10, hM10, hcc10, hfr10⟩ := Kd.R_elem HO_3.out z59 (x4_1 : Int) p10 q10; obtain rfl := k59_openM hM10; have hx10_0 : w11.cell? ⟨go10, (x4_1 : Int).toNat * 5, none⟩ = some (.int .i64 ((rd_T59 x3_1 x4_1).f0)) := hcc10 0 _ rfl; have hx10_1 : w11.cell? ⟨go10, (x4_1 : Int).toNat * 5 + 1, none⟩ = some (.int .i64 ((rd_T59 x3_1 x4_1).f1)) := hcc10 1 _ rfl; have hx10_2 : w11.cell? ⟨go10, (x4_1 : Int).toNat * 5 + 2, none⟩ = some (.int .i64 ((rd_T59 x3_1 x4_1).f2)) := hcc10 2 _ rfl; have hx10_3 : w11.cell? ⟨go10, (x4_1 : Int).toNat * 5 + 3, none⟩ = some (.int .i64 ((rd_T59 x3_1 x4_1).f3)) := hcc10 3 _ rfl; have hx10_4 : w11.cell? ⟨go10, (x4_1 : Int).toNat * 5 + 4, none⟩ = some (.int .i64 ((rd_T59 x3_1 x4_1).f4)) := hcc10 4 _ rfl; have hf10_0 : w11.frozen? ⟨go10, (x4_1 : Int).toNat * 5, none⟩ = false := hfr10 0; have hf10_1 : w11.frozen? ⟨go10, (x4_1 : Int).toNat * 5 + 1, none⟩ = false := hfr10 1; have hf10_2 : w11.frozen? ⟨go10, (x4_1 : Int).toNat * 5 + 2, none⟩ = false := hfr10 2; have hf10_3 : w11.frozen? ⟨go10, (x4_1 : Int).toNat * 5 + 3, none⟩ = false := hfr10 3; have hf10_4 : w11.frozen? ⟨go10, (x4_1 : Int).toNat * 5 + 4, none⟩ = false := hfr10 4; clear hcl10 hcc10 hfr10 hM10; replace p10 := eq_true p10; replace q10 := eq_true q10; have HX12 := Aside0.mk (show Kd.R k59 59 w11 w.heap.size (fun _ => True) (.slice (some ⟨go10, 0, none⟩) x3_1.length co10) x3_1 from (by (with_reducible repeat (first | apply Kd.R_alloc | apply Kd.R_drewN | apply Kd.R_drew)); exact HO_3.out)); obtain ⟨ce12, hcl12, hM12, hcc12, hfr12⟩ := Kd.R_elem HX12.out z59 (x4_1 : Int) (of_decide_eq_true (by first | (with_reducible assumption) | assumption)) (by have h_ : (x4_1 : Int) < ((x3_1.length : Int) : Int) := of_decide_eq_true (by first | (with_reducible assumption) | assumption); first | exact h_ | (have e_ := (Kd.R_reads' HO_3.out).1; omega) | simpa using h_); obtain rfl := k59_openM hM12; have HP12 := Kd.R_seg HX12.out (x4_1 : Int) (of_decide_eq_true (by first | (with_reducible assumption) | assumption)) (by have h_ : (x4_1 : Int) < ((x3_1.length : Int) : Int) := of_decide_eq_true (by first | (with_reducible assumption) | assumption); first | exact h_ | (have e_ := (Kd.R_reads' HO_3.out).1; omega) | simpa using h_) (seg := [.int .i64 t105, .int .i64 t106, .int .i64 t107, .int .i64 t108, .int .i64 t109]) (j := 0) hcl12 hcc12 (show 5 ≤ 5 from by decide) (x' := (⟨t105, t106, t107, t108, t109⟩ : S59)) (k59_mkM _ _ _ (⟨t105, t106, t107, t108, t109⟩ : S59) ) (fun _ hk => hk); have hx12_0 := hcc12 0 _ rfl; (try simp only [show (k59).sz = 5 from rfl, Nat.mul_one, Nat.add_zero] at hx12_0); have hf12_0 := hfr12 0; (try simp only [show (k59).sz = 5 from rfl, Nat.mul_one, Nat.add_zero] at hf12_0); have hx12_1 := hcc12 1 _ rfl; (try simp only [show (k59).sz = 5 from rfl, Nat.mul_one, Nat.add_zero] at hx12_1); have hf12_1 := hfr12 1; (try simp only [show (k59).sz = 5 from rfl, Nat.mul_one, Nat.add_zero] at hf12_1); have hx12_2 := hcc12 2 _ rfl; (try simp only [show (k59).sz = 5 from rfl, Nat.mul_one, Nat.add_zero] at hx12_2); have hf12_2 := hfr12 2; (try simp only [show (k59).sz = 5 from rfl, Nat.mul_one, Nat.add_zero] at hf12_2); have hx12_3 := hcc12 3 _ rfl; (try simp only [show (k59).sz = 5 from rfl, Nat.mul_one, Nat.add_zero] at hx12_3); have hf12_3 := hfr12 3; (try simp only [show (k59).sz = 5 from rfl, Nat.mul_one, Nat.add_zero] at hf12_3); have hx12_4 := hcc12 4 _ rfl; (try simp only [show (k59).sz = 5 from rfl, Nat.mul_one, Nat.add_zero] at hx12_4); have hf12_4 := hfr12 4; (try simp only [show (k59).sz = 5 from rfl, Nat.mul_one, Nat.add_zero] at hf12_4); clear hcl12 hcc12 hfr12 hM12) | ((with_reducible refine gate_store (t := 59) (p := 21) rfl ?_); refine store_event (t := 59) (p := 21) (v := ?vo_w13) (w1 := (((((w11.setCell ⟨go10, (x4_1 : Int).toNat * 5, none⟩ (.int .i64 t105)).setCell ⟨go10, (x4_1 : Int).toNat * 5 + 1, none⟩ (.int .i64 t106)).setCell ⟨go10, (x4_1 : Int).toNat * 5 + 2, none⟩ (.int .i64 t107)).setCell ⟨go10, (x4_1 : Int).toNat * 5 + 3, none⟩ (.int .i64 t108)).setCell ⟨go10, (x4_1 : Int).toNat * 5 + 4, none⟩ (.int .i64 t109))) ?hg ?ho ?hn ?hr ?_; (case ho => rfl); (case hg => rfl); (case hn => rfl); (case hr => first | (go_simp; done) | (go_simp; rfl)); intro w13 hw; have hg : w11.grownBy w13 (some go10) := (by rw [hw]; exact HP12.2); have hp_ : Kd.R k59 59 w13 w.heap.size (fun _ => True) (.slice (some ⟨go10, 0, none⟩) x3_1.length co10) y110 := (by rw [hw, Ny110.out]; exact HP12.1); clear HP12; have n0_ := Aside0.mk (hp_); have n1_ := Aside0.mk ((by rw [hw]; exact below_set (below_set (below_set (below_set (below_set (HB.out) GB10.out) GB10.out) GB10.out) GB10.out) GB10.out : Below w.heap.size w w13)); clear HO_3; clear HB; have HO_3 := n0_; have HB := n1_; clear n0_ n1_; clear hg hw hp_))
                go_roundg k1
                case measure => have := HK1.out; omega
                case rel => exact ⟨(y110), (wrap64 (x4_1 + 1)), (by first | rfl | (simp; done) | (simp [*]; done)), H', ⟨by have := HK1.out; omega⟩, ⟨by (with_reducible repeat (first | apply Kd.R_alloc | apply Kd.R_drewN | apply Kd.R_drew)); exact HO_3.out⟩, ⟨by repeat (first | (with_reducible first | exact HB.out | apply below_alloc | apply pw_below_drewN | apply below_drew1) | exact HB.out)⟩⟩
              · rw [if_neg c9] at H
                exact absurd H (by simp)
            · rw [if_neg c7] at H
              exact absurd H (by simp)
          · rw [if_neg c6] at H
            have c6b0 : decide (x4_1 < (l0.length : Int)) = false := decide_eq_false c6
            clear c6
            obtain rfl := Option.some.inj H
            go_wp2
            go_ret
            exact ⟨_, by first | rfl | (simp [errW_none, errW_some] <;> rfl) | (simp [*, errW_none, errW_some] <;> rfl), by (with_reducible repeat (first | apply Kd.R_alloc | apply Kd.R_drewN | apply Kd.R_drew)); exact HO_3.out, by repeat (first | (with_reducible first | exact HB.out | apply below_alloc | apply pw_below_drewN | apply below_drew1) | exact HB.out)⟩
    · rw [if_neg c3] at H
      exact absurd H (by simp)
  · rw [if_neg c2] at H
    exact absurd H (by simp)

end Go.Proofs.Ytnbaojaocagjcaa.P
end
section
-- Written for this claim by gp.py over the kit's print; not trusted: Lean checks it.



namespace Go.Proofs.Ytnbaojaocagjcaa.P
open Go.RowKit Go.Proofs.YtnbaojaocagjcaaW.PrintWords Go.Proofs.YtnbaojaocagjcaaW.PrintLast Go.Proofs.YtnbaojaocagjcaaW.PrintMore
attribute [local go_sem] max2_int min2_int max_two min_two max_three min_three max_four min_four
set_option linter.unusedVariables false
set_option linter.unusedSimpArgs false

/-! ### laws_toImage: function 15 -/
def laws_toImage.f (k : Nat) (l0_0 : List Int) (a0_1 : Int) (a0_2 : Int) (l0_3 : List (S78)) : Option (List Int × Int × Int × (List (S59))) := (laws_toIntS.f k l0_0).bind fun t104 => ((laws_toWordS.f k l0_3).bind fun t107 => (some (t104, a0_1, a0_2, t107)))
theorem laws_toImage.mono : ∀ a0 a1 a2 a3 k, LeO (laws_toImage.f k a0 a1 a2 a3) (laws_toImage.f (k + 1) a0 a1 a2 a3) := by
  intro a0 a1 a2 a3 k
  unfold laws_toImage.f
  repeat' first
      | (with_reducible exact laws_toIntS.mono _ _)
      | (with_reducible exact laws_toWordS.mono _ _)
      | (with_reducible exact LeO.refl _)
      | (with_reducible exact LeO.none _)
      | (with_reducible refine LeO.ite ?_ ?_)
      | (with_reducible refine LeO.bind ?_ (fun _ => ?_))
      | exact laws_toIntS.mono _ _
      | exact laws_toWordS.mono _ _
      | exact LeO.none _
      | refine LeO.ite ?_ ?_
      | refine LeO.bind ?_ (fun _ => ?_)
set_option maxHeartbeats 8000000 in
set_option maxRecDepth 100000 in
theorem laws_toImage.calls (k : Nat) (A0_0 : Option Addr) (c0_0 : Nat) (l0_0 : List Int) (a0_1 : Int) (a0_2 : Int) (A0_3 : Option Addr) (c0_3 : Nat) (l0_3 : List (S78)) (r1 : List Int) (r2 : Int) (r3 : Int) (r4 : List (S59)) (w : World) (hr0_0 : Kd.C (Kd.int .i64) w A0_0 l0_0.length l0_0) (hc0_0 : l0_0.length ≤ c0_0) (hr0_3 : Kd.C k78 w A0_3 l0_3.length l0_3) (hc0_3 : l0_3.length ≤ c0_3) (h : laws_toImage.f k l0_0 a0_1 a0_2 l0_3 = some (r1, r2, r3, r4)) :
    Calls Try.prog 15 #[.agg #[.slice A0_0 l0_0.length c0_0, .int .i64 a0_1, .int .i64 a0_2, .slice A0_3 l0_3.length c0_3]] w fun e w' => ∃ v0_ v3_ : Value, e = .returned (.agg #[v0_, .int .i64 r2, .int .i64 r3, v3_]) ∧ Kd.R (Kd.int .i64) 3 w' w.heap.size (fun _ => True) v0_ r1 ∧ Kd.R k59 59 w' w.heap.size (fun _ => True) v3_ r4 ∧ Below w.heap.size w w' := by
  have hu28 := Try.underlying28
  have hu33 := Try.underlying33
  have HR0_0 := Aside0.mk hr0_0
  have HC0_0 := Aside0.mk hc0_0
  clear hr0_0 hc0_0
  have HR0_3 := Aside0.mk hr0_3
  have HC0_3 := Aside0.mk hc0_3
  clear hr0_3 hc0_3
  have HB := Aside0.mk (Below.refl w.heap.size w)
  have H : ((laws_toIntS.f k l0_0).bind fun t104 => ((laws_toWordS.f k l0_3).bind fun t107 => (some (t104, a0_1, a0_2, t107)))) = some (r1, r2, r3, r4) := h
  clear h
  replace H := Option.bind_eq_some_iff.mp H
  obtain ⟨t104, A20, H⟩ := H
  replace H : ((laws_toWordS.f k l0_3).bind fun t107 => (some (t104, a0_1, a0_2, t107))) = some (r1, r2, r3, r4) := H
  have A2 := Aside0.mk A20
  clear A20
  replace H := Option.bind_eq_some_iff.mp H
  obtain ⟨t107, A30, H⟩ := H
  replace H : (some (t104, a0_1, a0_2, t107)) = some (r1, r2, r3, r4) := H
  have A3 := Aside0.mk A30
  clear A30
  simp only [Option.some.injEq, Prod.mk.injEq] at H
  obtain ⟨rfl, rfl, rfl, rfl⟩ := H
  go_enter Try.func15, Try.ntmps15
  go_wp2_with (first | ((with_reducible refine gate_dst (N := 1) rfl ?_); refine box_event ?hg (N := 1) ?hd (cs := #[.slice A0_0 l0_0.length c0_0, .int .i64 a0_1, .int .i64 a0_2, .slice A0_3 l0_3.length c0_3]) (t := 28) ?hr ?_; (case hd => rfl); (case hg => rfl); (case hr => first | (go_simp; done) | (go_simp; rfl)); intro gb101 hg w4 hbox hb; have n0_ := Aside0.mk (below_step (by repeat (first | (with_reducible first | exact HB.out | apply below_alloc | apply pw_below_drewN | apply below_drew1) | exact HB.out)) hb); have n1_ := Aside0.mk (hbox); have n2_ := Aside0.mk ((by rw [hg]; exact (below_size (by repeat (first | (with_reducible first | exact HB.out | apply below_alloc | apply pw_below_drewN | apply below_drew1) | exact HB.out))) : w.heap.size ≤ gb101)); have n3_ := Aside0.mk ((by rw [hg]; exact (below_size (by repeat (first | (with_reducible first | exact HB.out | apply below_alloc | apply pw_below_drewN | apply below_drew1) | exact HB.out))) : w.heap.size ≤ gb101)); clear HB; have HB := n0_; have BK101 := n1_; have GW101 := n2_; have GE101 := n3_; clear n0_ n1_ n2_ n3_; clear hb hbox hg) | ((with_reducible refine gate_dst (N := 2) rfl ?_); refine box_event ?hg (N := 2) ?hd (cs := #[.slice none 0 0, .int .i64 0, .int .i64 0, .slice none 0 0]) (t := 33) ?hr ?_; (case hd => rfl); (case hg => rfl); (case hr => first | (go_simp; done) | (go_simp; rfl)); intro gb102 hg w5 hbox hb; have n0_ := Aside0.mk (blk_below (g := gb101) (o := .cells #[.slice A0_0 l0_0.length c0_0, .int .i64 a0_1, .int .i64 a0_2, .slice A0_3 l0_3.length c0_3] 28 (0, 0)) (by (with_reducible repeat (first | refine blk_drewN ?_ _ | refine blk_drew ?_ | refine blk_alloc ?_ _)); exact BK101.out) hb); have n1_ := Aside0.mk (below_step (by repeat (first | (with_reducible first | exact HB.out | apply below_alloc | apply pw_below_drewN | apply below_drew1 | refine below_set ?_ GE101.out) | exact HB.out)) hb); have n2_ := Aside0.mk (hbox); have n3_ := Aside0.mk ((by rw [hg]; exact (below_size (by repeat (first | (with_reducible first | exact HB.out | apply below_alloc | apply pw_below_drewN | apply below_drew1 | refine below_set ?_ GE101.out) | exact HB.out))) : w.heap.size ≤ gb102)); have n4_ := Aside0.mk ((by rw [hg]; exact (below_size (by repeat (first | (with_reducible first | exact HB.out | apply below_alloc | apply pw_below_drewN | apply below_drew1 | refine below_set ?_ GE101.out) | exact HB.out))) : w.heap.size ≤ gb102)); have n5_ := Aside0.mk ((by rw [hg]; exact Nat.ne_of_lt (blk_lt (g := gb101) (o := .cells #[.slice A0_0 l0_0.length c0_0, .int .i64 a0_1, .int .i64 a0_2, .slice A0_3 l0_3.length c0_3] 28 (0, 0)) (by (with_reducible repeat (first | refine blk_drewN ?_ _ | refine blk_drew ?_ | refine blk_alloc ?_ _)); exact BK101.out)) : gb101 ≠ gb102)); have n6_ := Aside0.mk ((by rw [hg]; exact Nat.ne_of_gt (blk_lt (g := gb101) (o := .cells #[.slice A0_0 l0_0.length c0_0, .int .i64 a0_1, .int .i64 a0_2, .slice A0_3 l0_3.length c0_3] 28 (0, 0)) (by (with_reducible repeat (first | refine blk_drewN ?_ _ | refine blk_drew ?_ | refine blk_alloc ?_ _)); exact BK101.out)) : gb102 ≠ gb101)); clear BK101; clear HB; have BK101 := n0_; have HB := n1_; have BK102 := n2_; have GW102 := n3_; have GE102 := n4_; have NB101_102 := n5_; have NB102_101 := n6_; clear n0_ n1_ n2_ n3_ n4_ n5_ n6_; clear hb hbox hg) | ((with_reducible refine gate_dst (N := 3) rfl ?_); refine box_event ?hg (N := 3) ?hd (cs := #[.slice none 0 0, .int .i64 0, .int .i64 0, .slice none 0 0]) (t := 33) ?hr ?_; (case hd => rfl); (case hg => rfl); (case hr => first | (go_simp; done) | (go_simp; rfl)); intro gb103 hg w6 hbox hb; have n0_ := Aside0.mk (blk_below (g := gb101) (o := .cells #[.slice A0_0 l0_0.length c0_0, .int .i64 a0_1, .int .i64 a0_2, .slice A0_3 l0_3.length c0_3] 28 (0, 0)) (by (with_reducible repeat (first | refine blk_drewN ?_ _ | refine blk_drew ?_ | refine blk_alloc ?_ _)); exact BK101.out) hb); have n1_ := Aside0.mk (blk_below (g := gb102) (o := .cells #[.slice none 0 0, .int .i64 0, .int .i64 0, .slice none 0 0] 33 (0, 0)) (by (with_reducible repeat (first | refine blk_drewN ?_ _ | refine blk_drew ?_ | refine blk_alloc ?_ _)); exact BK102.out) hb); have n2_ := Aside0.mk (below_step (by repeat (first | (with_reducible first | exact HB.out | apply below_alloc | apply pw_below_drewN | apply below_drew1 | refine below_set ?_ GE101.out | refine below_set ?_ GE102.out) | exact HB.out)) hb); have n3_ := Aside0.mk (hbox); have n4_ := Aside0.mk ((by rw [hg]; exact (below_size (by repeat (first | (with_reducible first | exact HB.out | apply below_alloc | apply pw_below_drewN | apply below_drew1 | refine below_set ?_ GE101.out | refine below_set ?_ GE102.out) | exact HB.out))) : w.heap.size ≤ gb103)); have n5_ := Aside0.mk ((by rw [hg]; exact (below_size (by repeat (first | (with_reducible first | exact HB.out | apply below_alloc | apply pw_below_drewN | apply below_drew1 | refine below_set ?_ GE101.out | refine below_set ?_ GE102.out) | exact HB.out))) : w.heap.size ≤ gb103)); have n6_ := Aside0.mk ((by rw [hg]; exact Nat.ne_of_lt (blk_lt (g := gb101) (o := .cells #[.slice A0_0 l0_0.length c0_0, .int .i64 a0_1, .int .i64 a0_2, .slice A0_3 l0_3.length c0_3] 28 (0, 0)) (by (with_reducible repeat (first | refine blk_drewN ?_ _ | refine blk_drew ?_ | refine blk_alloc ?_ _)); exact BK101.out)) : gb101 ≠ gb103)); have n7_ := Aside0.mk ((by rw [hg]; exact Nat.ne_of_gt (blk_lt (g := gb101) (o := .cells #[.slice A0_0 l0_0.length c0_0, .int .i64 a0_1, .int .i64 a0_2, .slice A0_3 l0_3.length c0_3] 28 (0, 0)) (by (with_reducible repeat (first | refine blk_drewN ?_ _ | refine blk_drew ?_ | refine blk_alloc ?_ _)); exact BK101.out)) : gb103 ≠ gb101)); have n8_ := Aside0.mk ((by rw [hg]; exact Nat.ne_of_lt (blk_lt (g := gb102) (o := .cells #[.slice none 0 0, .int .i64 0, .int .i64 0, .slice none 0 0] 33 (0, 0)) (by (with_reducible repeat (first | refine blk_drewN ?_ _ | refine blk_drew ?_ | refine blk_alloc ?_ _)); exact BK102.out)) : gb102 ≠ gb103)); have n9_ := Aside0.mk ((by rw [hg]; exact Nat.ne_of_gt (blk_lt (g := gb102) (o := .cells #[.slice none 0 0, .int .i64 0, .int .i64 0, .slice none 0 0] 33 (0, 0)) (by (with_reducible repeat (first | refine blk_drewN ?_ _ | refine blk_drew ?_ | refine blk_alloc ?_ _)); exact BK102.out)) : gb103 ≠ gb102)); clear BK101; clear BK102; clear HB; have BK101 := n0_; have BK102 := n1_; have HB := n2_; have BK103 := n3_; have GW103 := n4_; have GE103 := n5_; have NB101_103 := n6_; have NB103_101 := n7_; have NB102_103 := n8_; have NB103_102 := n9_; clear n0_ n1_ n2_ n3_ n4_ n5_ n6_ n7_ n8_ n9_; clear hb hbox hg; have hnb7 := NB101_102.out; have hnc7 := NB102_101.out; have hnb8 := NB101_103.out; have hnc8 := NB103_101.out; have hcz9_0 : w6.cell? ⟨gb101, 0, none⟩ = some (.slice A0_0 l0_0.length c0_0) := (blk_cell BK101.out 0).trans rfl; have hcz9_1 : w6.cell? ⟨gb101, 1, none⟩ = some (.int .i64 a0_1) := (blk_cell BK101.out 1).trans rfl; have hcz9_2 : w6.cell? ⟨gb101, 2, none⟩ = some (.int .i64 a0_2) := (blk_cell BK101.out 2).trans rfl; have hcz9_3 : w6.cell? ⟨gb101, 3, none⟩ = some (.slice A0_3 l0_3.length c0_3) := (blk_cell BK101.out 3).trans rfl; have hfz9_0 := blk_frozen BK101.out 0; have hfz9_1 := blk_frozen BK101.out 1; have hfz9_2 := blk_frozen BK101.out 2; have hfz9_3 := blk_frozen BK101.out 3) | ((with_reducible refine gate_callee (f := 41) rfl ?_); refine goesL_ (some 6) rfl rfl Try.func41 (by kernel_rfl) rfl #[.slice A0_0 l0_0.length c0_0] rfl (by (try simp only [List.map_toArray, List.map_cons, List.map_nil]); first | done | rfl | (simp only [List.length_drop, List.length_take]; rfl)) ?_; (with_reducible refine (laws_toIntS.calls k _ _ l0_0 t104 _ ?side1 ?side2 A2.out).mono ?_); (case side1 => repeat (first | exact (Kd.C_below HR0_0.out HB.out) | (with_reducible refine Kd.C_alloc ?_ _) | (with_reducible refine Kd.C_drewN ?_ _) | (with_reducible refine Kd.C_drew ?_))); (case side2 => exact HC0_0.out); rintro e w10 ⟨v105, rfl, ho0, hb⟩; refine ⟨_, rfl, ?_⟩; have n0_ := Aside0.mk (Kd.R_lower ho0 (below_size (by repeat (first | (with_reducible first | exact HB.out | apply below_alloc | apply pw_below_drewN | apply below_drew1 | refine below_set ?_ GE101.out | refine below_set ?_ GE102.out | refine below_set ?_ GE103.out) | exact HB.out)))); have n1_ := Aside0.mk (blk_below (g := gb101) (o := .cells #[.slice A0_0 l0_0.length c0_0, .int .i64 a0_1, .int .i64 a0_2, .slice A0_3 l0_3.length c0_3] 28 (0, 0)) (by (with_reducible repeat (first | refine blk_drewN ?_ _ | refine blk_drew ?_ | refine blk_alloc ?_ _)); exact BK101.out) hb); have n2_ := Aside0.mk (blk_below (g := gb102) (o := .cells #[.slice none 0 0, .int .i64 0, .int .i64 0, .slice none 0 0] 33 (0, 0)) (by (with_reducible repeat (first | refine blk_drewN ?_ _ | refine blk_drew ?_ | refine blk_alloc ?_ _)); exact BK102.out) hb); have n3_ := Aside0.mk (blk_below (g := gb103) (o := .cells #[.slice none 0 0, .int .i64 0, .int .i64 0, .slice none 0 0] 33 (0, 0)) (by (with_reducible repeat (first | refine blk_drewN ?_ _ | refine blk_drew ?_ | refine blk_alloc ?_ _)); exact BK103.out) hb); have n4_ := Aside0.mk (below_step (by repeat (first | (with_reducible first | exact HB.out | apply below_alloc | apply pw_below_drewN | apply below_drew1 | refine below_set ?_ GE101.out | refine below_set ?_ GE102.out | refine below_set ?_ GE103.out) | exact HB.out)) hb); clear BK101; clear BK102; clear BK103; clear HB; have HO106 := n0_; have BK101 := n1_; have BK102 := n2_; have BK103 := n3_; have HB := n4_; clear n0_ n1_ n2_ n3_ n4_; (try clear hb); (try clear hb2); (try clear hk); (try clear hi); (try clear ho0); obtain ⟨Ao11, co11, eo11⟩ := Kd.R_slice HO106.out; subst eo11; have hnb12 := NB103_102.out; have hnc12 := NB102_103.out; have hcz13_0 : w10.cell? ⟨gb103, 0, none⟩ = some (.slice none 0 0) := (blk_cell BK103.out 0).trans rfl; have hcz13_1 : w10.cell? ⟨gb103, 1, none⟩ = some (.int .i64 0) := (blk_cell BK103.out 1).trans rfl; have hcz13_2 : w10.cell? ⟨gb103, 2, none⟩ = some (.int .i64 0) := (blk_cell BK103.out 2).trans rfl; have hcz13_3 : w10.cell? ⟨gb103, 3, none⟩ = some (.slice none 0 0) := (blk_cell BK103.out 3).trans rfl; have hfz13_0 := blk_frozen BK103.out 0; have hfz13_1 := blk_frozen BK103.out 1; have hfz13_2 := blk_frozen BK103.out 2; have hfz13_3 := blk_frozen BK103.out 3; have hcz14_0 : w10.cell? ⟨gb101, 0, none⟩ = some (.slice A0_0 l0_0.length c0_0) := (blk_cell BK101.out 0).trans rfl; have hcz14_1 : w10.cell? ⟨gb101, 1, none⟩ = some (.int .i64 a0_1) := (blk_cell BK101.out 1).trans rfl; have hcz14_2 : w10.cell? ⟨gb101, 2, none⟩ = some (.int .i64 a0_2) := (blk_cell BK101.out 2).trans rfl; have hcz14_3 : w10.cell? ⟨gb101, 3, none⟩ = some (.slice A0_3 l0_3.length c0_3) := (blk_cell BK101.out 3).trans rfl; have hfz14_0 := blk_frozen BK101.out 0; have hfz14_1 := blk_frozen BK101.out 1; have hfz14_2 := blk_frozen BK101.out 2; have hfz14_3 := blk_frozen BK101.out 3) | ((with_reducible refine gate_callee (f := 42) rfl ?_); refine goesL_ (some 16) rfl rfl Try.func42 (by kernel_rfl) rfl #[.slice A0_3 l0_3.length c0_3] rfl (by (try simp only [List.map_toArray, List.map_cons, List.map_nil]); first | done | rfl | (simp only [List.length_drop, List.length_take]; rfl)) ?_; (with_reducible refine (laws_toWordS.calls k _ _ l0_3 t107 _ ?side1 ?side2 A3.out).mono ?_); (case side1 => exact Kd.C_below HR0_3.out (by repeat (first | (with_reducible first | exact HB.out | apply below_alloc | apply pw_below_drewN | apply below_drew1 | refine below_set ?_ GE101.out | refine below_set ?_ GE102.out | refine below_set ?_ GE103.out) | exact HB.out))); (case side2 => exact HC0_3.out); rintro e w15 ⟨v108, rfl, ho0, hb⟩; refine ⟨_, rfl, ?_⟩; have n0_ := Aside0.mk (Kd.R_below (by (with_reducible repeat (first | apply Kd.R_alloc | apply Kd.R_drewN | apply Kd.R_drew)); exact (Kd.R_mono (Kd.R_far (p := ⟨gb103, 2, none⟩) (Kd.R_far (p := ⟨gb103, 1, none⟩) (Kd.R_far (p := ⟨gb103, 0, none⟩) (Kd.R_types HO106.out BK103.out (by decide)) (fun _ hk => hk.2) (.slice Ao11 t104.length co11)) (fun _ hk => hk.2) (.int .i64 a0_1)) (fun _ hk => hk.2) (.int .i64 a0_2)) (fun _ h_ => h_.1))) hb); have n1_ := Aside0.mk (Kd.R_lower ho0 (below_size (by repeat (first | (with_reducible first | exact HB.out | apply below_alloc | apply pw_below_drewN | apply below_drew1 | refine below_set ?_ GE101.out | refine below_set ?_ GE102.out | refine below_set ?_ GE103.out) | exact HB.out)))); have n2_ := Aside0.mk (blk_below (g := gb101) (o := .cells #[.slice A0_0 l0_0.length c0_0, .int .i64 a0_1, .int .i64 a0_2, .slice A0_3 l0_3.length c0_3] 28 (0, 0)) (by (with_reducible repeat (first | refine blk_drewN ?_ _ | refine blk_drew ?_ | refine blk_alloc ?_ _)); refine blk_far ?_ NB101_103.out _; (with_reducible repeat (first | refine blk_drewN ?_ _ | refine blk_drew ?_ | refine blk_alloc ?_ _)); refine blk_far ?_ NB101_103.out _; (with_reducible repeat (first | refine blk_drewN ?_ _ | refine blk_drew ?_ | refine blk_alloc ?_ _)); refine blk_far ?_ NB101_103.out _; (with_reducible repeat (first | refine blk_drewN ?_ _ | refine blk_drew ?_ | refine blk_alloc ?_ _)); exact BK101.out) hb); have n3_ := Aside0.mk (blk_below (g := gb102) (o := .cells #[.slice none 0 0, .int .i64 0, .int .i64 0, .slice none 0 0] 33 (0, 0)) (by (with_reducible repeat (first | refine blk_drewN ?_ _ | refine blk_drew ?_ | refine blk_alloc ?_ _)); refine blk_far ?_ NB102_103.out _; (with_reducible repeat (first | refine blk_drewN ?_ _ | refine blk_drew ?_ | refine blk_alloc ?_ _)); refine blk_far ?_ NB102_103.out _; (with_reducible repeat (first | refine blk_drewN ?_ _ | refine blk_drew ?_ | refine blk_alloc ?_ _)); refine blk_far ?_ NB102_103.out _; (with_reducible repeat (first | refine blk_drewN ?_ _ | refine blk_drew ?_ | refine blk_alloc ?_ _)); exact BK102.out) hb); have n4_ := Aside0.mk (blk_below (g := gb103) (o := .cells #[.slice Ao11 t104.length co11, .int .i64 a0_1, .int .i64 a0_2, .slice none 0 0] 33 (0, 0)) (by (with_reducible repeat (first | refine blk_drewN ?_ _ | refine blk_drew ?_ | refine blk_alloc ?_ _)); refine blk_put (cs := #[.slice Ao11 t104.length co11, .int .i64 a0_1, .int .i64 0, .slice none 0 0]) ?_ 2 _ rfl; (with_reducible repeat (first | refine blk_drewN ?_ _ | refine blk_drew ?_ | refine blk_alloc ?_ _)); refine blk_put (cs := #[.slice Ao11 t104.length co11, .int .i64 0, .int .i64 0, .slice none 0 0]) ?_ 1 _ rfl; (with_reducible repeat (first | refine blk_drewN ?_ _ | refine blk_drew ?_ | refine blk_alloc ?_ _)); refine blk_put (cs := #[.slice none 0 0, .int .i64 0, .int .i64 0, .slice none 0 0]) ?_ 0 _ rfl; (with_reducible repeat (first | refine blk_drewN ?_ _ | refine blk_drew ?_ | refine blk_alloc ?_ _)); exact BK103.out) hb); have n5_ := Aside0.mk (below_step (by repeat (first | (with_reducible first | exact HB.out | apply below_alloc | apply pw_below_drewN | apply below_drew1 | refine below_set ?_ GE101.out | refine below_set ?_ GE102.out | refine below_set ?_ GE103.out) | exact HB.out)) hb); clear HO106; clear BK101; clear BK102; clear BK103; clear HB; have HO106 := n0_; have HO109 := n1_; have BK101 := n2_; have BK102 := n3_; have BK103 := n4_; have HB := n5_; clear n0_ n1_ n2_ n3_ n4_ n5_; (try clear hb); (try clear hb2); (try clear hk); (try clear hi); (try clear ho0); obtain ⟨Ao16, co16, eo16⟩ := Kd.R_slice HO109.out; subst eo16; have hcz17_0 : w15.cell? ⟨gb103, 0, none⟩ = some (.slice Ao11 t104.length co11) := (blk_cell BK103.out 0).trans rfl; have hcz17_1 : w15.cell? ⟨gb103, 1, none⟩ = some (.int .i64 a0_1) := (blk_cell BK103.out 1).trans rfl; have hcz17_2 : w15.cell? ⟨gb103, 2, none⟩ = some (.int .i64 a0_2) := (blk_cell BK103.out 2).trans rfl; have hcz17_3 : w15.cell? ⟨gb103, 3, none⟩ = some (.slice none 0 0) := (blk_cell BK103.out 3).trans rfl; have hfz17_0 := blk_frozen BK103.out 0; have hfz17_1 := blk_frozen BK103.out 1; have hfz17_2 := blk_frozen BK103.out 2; have hfz17_3 := blk_frozen BK103.out 3; have hcz18_0 : w15.cell? ⟨gb102, 0, none⟩ = some (.slice none 0 0) := (blk_cell BK102.out 0).trans rfl; have hcz18_1 : w15.cell? ⟨gb102, 1, none⟩ = some (.int .i64 0) := (blk_cell BK102.out 1).trans rfl; have hcz18_2 : w15.cell? ⟨gb102, 2, none⟩ = some (.int .i64 0) := (blk_cell BK102.out 2).trans rfl; have hcz18_3 : w15.cell? ⟨gb102, 3, none⟩ = some (.slice none 0 0) := (blk_cell BK102.out 3).trans rfl; have hfz18_0 := blk_frozen BK102.out 0; have hfz18_1 := blk_frozen BK102.out 1; have hfz18_2 := blk_frozen BK102.out 2; have hfz18_3 := blk_frozen BK102.out 3))
  refine bodyPost_ret (results_cell_row rfl _ _ gb102 33 #[.slice Ao11 t104.length co11, .int .i64 a0_1, .int .i64 a0_2, .slice Ao16 t107.length co16] (0, 0) _ rfl (by (with_reducible repeat (first | refine blk_drewN ?_ _ | refine blk_drew ?_ | refine blk_alloc ?_ _)); refine blk_put (cs := #[.slice Ao11 t104.length co11, .int .i64 a0_1, .int .i64 a0_2, .slice none 0 0]) ?_ 3 _ rfl; (with_reducible repeat (first | refine blk_drewN ?_ _ | refine blk_drew ?_ | refine blk_alloc ?_ _)); refine blk_put (cs := #[.slice Ao11 t104.length co11, .int .i64 a0_1, .int .i64 0, .slice none 0 0]) ?_ 2 _ rfl; (with_reducible repeat (first | refine blk_drewN ?_ _ | refine blk_drew ?_ | refine blk_alloc ?_ _)); refine blk_put (cs := #[.slice Ao11 t104.length co11, .int .i64 0, .int .i64 0, .slice none 0 0]) ?_ 1 _ rfl; (with_reducible repeat (first | refine blk_drewN ?_ _ | refine blk_drew ?_ | refine blk_alloc ?_ _)); refine blk_put (cs := #[.slice none 0 0, .int .i64 0, .int .i64 0, .slice none 0 0]) ?_ 0 _ rfl; (with_reducible repeat (first | refine blk_drewN ?_ _ | refine blk_drew ?_ | refine blk_alloc ?_ _)); refine blk_far ?_ NB102_103.out _; (with_reducible repeat (first | refine blk_drewN ?_ _ | refine blk_drew ?_ | refine blk_alloc ?_ _)); exact BK102.out) Try.underlying33 rfl (by kernel_rfl)) rfl ?_
  exact ⟨_, _, by first | rfl | (simp [errW_none, errW_some] <;> rfl) | (simp [*, errW_none, errW_some] <;> rfl), by (with_reducible repeat (first | apply Kd.R_alloc | apply Kd.R_drewN | apply Kd.R_drew)); exact Kd.R_mono (Kd.R_far (p := ⟨gb102, 3, none⟩) (Kd.R_far (p := ⟨gb102, 2, none⟩) (Kd.R_far (p := ⟨gb102, 1, none⟩) (Kd.R_far (p := ⟨gb102, 0, none⟩) (Kd.R_far (p := ⟨gb103, 3, none⟩) (Kd.R_types (Kd.R_types HO106.out BK103.out (by decide)) BK102.out (by decide)) (fun _ hk => hk.1.2) (.slice Ao16 t107.length co16)) (fun _ hk => hk.2) (.slice Ao11 t104.length co11)) (fun _ hk => hk.2) (.int .i64 a0_1)) (fun _ hk => hk.2) (.int .i64 a0_2)) (fun _ hk => hk.2) (.slice Ao16 t107.length co16)) (fun _ hk => trivial), by (with_reducible repeat (first | apply Kd.R_alloc | apply Kd.R_drewN | apply Kd.R_drew)); exact Kd.R_mono (Kd.R_far (p := ⟨gb102, 3, none⟩) (Kd.R_far (p := ⟨gb102, 2, none⟩) (Kd.R_far (p := ⟨gb102, 1, none⟩) (Kd.R_far (p := ⟨gb102, 0, none⟩) (Kd.R_far (p := ⟨gb103, 3, none⟩) (Kd.R_types (Kd.R_types HO109.out BK103.out (by decide)) BK102.out (by decide)) (fun _ hk => hk.1.2) (.slice Ao16 t107.length co16)) (fun _ hk => hk.2) (.slice Ao11 t104.length co11)) (fun _ hk => hk.2) (.int .i64 a0_1)) (fun _ hk => hk.2) (.int .i64 a0_2)) (fun _ hk => hk.2) (.slice Ao16 t107.length co16)) (fun _ hk => trivial), by repeat (first | (with_reducible first | exact HB.out | apply below_alloc | apply pw_below_drewN | apply below_drew1 | refine below_set ?_ GE101.out | refine below_set ?_ GE102.out | refine below_set ?_ GE103.out) | exact HB.out)⟩

end Go.Proofs.Ytnbaojaocagjcaa.P
end
section
-- Written for this claim by gp.py over the kit's print; not trusted: Lean checks it.




namespace Go.Proofs.Ytnbaojaocagjcaa.P
open Go.RowKit Go.Proofs.YtnbaojaocagjcaaW.PrintWords Go.Proofs.YtnbaojaocagjcaaW.PrintLast Go.Proofs.YtnbaojaocagjcaaW.PrintMore
set_option linter.unusedVariables false
set_option linter.unusedSimpArgs false

theorem ev_eqIntS (l : List Int) (hl : l.length ≤ 9223372036854775807) : Ev (fun k => laws_eqIntS.f k l l) true := by
  refine Ev.congr (f := fun k => laws_eqIntS.l0 k l l 0) (fun k => ?_) ?_
  · unfold laws_eqIntS.f
    rw [if_pos rfl]
  · refine ev_upto (r := true) (n := l.length) (fun i => Ev (fun k => laws_eqIntS.l0 k l l (i : Int)) true) ?_ ?_ 0 (by omega)
    · refine Ev.step (fun k => by rw [laws_eqIntS.l0]) ?_
      exact Ev.neg (by omega) (Ev.now _)
    · intro i hi h
      refine Ev.step (fun k => by rw [laws_eqIntS.l0]) ?_
      refine Ev.pos (by omega) (Ev.pos (by omega) (Ev.pos (by omega) (Ev.pos rfl ?_)))
      rw [wrap_succ hi hl]
      exact h

end Go.Proofs.Ytnbaojaocagjcaa.P
end
section
-- Written for this claim by gp.py over the kit's print; not trusted: Lean checks it.






namespace Go.Proofs.Ytnbaojaocagjcaa.P
open Go.RowKit Go.Proofs.YtnbaojaocagjcaaW.PrintWords Go.Proofs.YtnbaojaocagjcaaW.PrintLast Go.Proofs.YtnbaojaocagjcaaW.PrintMore
set_option linter.unusedVariables false
set_option linter.unusedSimpArgs false

theorem ev_eqWordS (l : List S59) (hl : l.length ≤ 9223372036854775807) : Ev (fun k => laws_eqWordS.f k l l) true := by
  refine Ev.congr (f := fun k => laws_eqWordS.l0 k l l 0) (fun k => ?_) ?_
  · unfold laws_eqWordS.f
    rw [if_pos rfl]
  · refine ev_upto (r := true) (n := l.length) (fun i => Ev (fun k => laws_eqWordS.l0 k l l (i : Int)) true) ?_ ?_ 0 (by omega)
    · refine Ev.step (fun k => by rw [laws_eqWordS.l0]) ?_
      exact Ev.neg (by omega) (Ev.now _)
    · intro i hi h
      refine Ev.step (fun k => by rw [laws_eqWordS.l0]) ?_
      refine Ev.pos (by omega) (Ev.pos (by omega) (Ev.pos (by omega) ?_))
      unfold laws_eqWord.f
      simp only [if_true]
      refine Ev.val (Ev.pos rfl ?_)
      rw [wrap_succ hi hl]
      exact h

end Go.Proofs.Ytnbaojaocagjcaa.P
end
section
-- Written for this claim by gp.py over the kit's print; not trusted: Lean checks it.









namespace Go.Proofs.Ytnbaojaocagjcaa.P
open Go.RowKit Go.Proofs.YtnbaojaocagjcaaW.PrintWords Go.Proofs.YtnbaojaocagjcaaW.PrintLast Go.Proofs.YtnbaojaocagjcaaW.PrintMore
set_option linter.unusedVariables false
set_option linter.unusedSimpArgs false

theorem ev_eqImage (x0 : List Int) (x1 x2 : Int) (x3 : List S59) (h0 : x0.length ≤ 9223372036854775807) (h3 : x3.length ≤ 9223372036854775807) : Ev (fun k => laws_eqImage.f k x0 x1 x2 x3 x0 x1 x2 x3) true := by
  unfold laws_eqImage.f
  refine Ev.bind (ev_eqIntS x0 h0) ?_
  refine Ev.pos rfl (Ev.pos rfl (Ev.pos rfl ?_))
  refine Ev.bind (ev_eqWordS x3 h3) ?_
  exact Ev.pos rfl (Ev.now _)

end Go.Proofs.Ytnbaojaocagjcaa.P
end
section
-- Written for this claim by gp.py over the kit's print; not trusted: Lean checks it.




namespace Go.Proofs.Ytnbaojaocagjcaa.P
open Go.RowKit Go.Proofs.YtnbaojaocagjcaaW.PrintWords Go.Proofs.YtnbaojaocagjcaaW.PrintLast Go.Proofs.YtnbaojaocagjcaaW.PrintMore
set_option linter.unusedVariables false
set_option linter.unusedSimpArgs false

theorem ev_markIntS (l : List Int) (m : Int) (hm : 0 ≤ m) (hl : m + l.length ≤ 4611686018427387904) : Ev (fun k => laws_markIntS.f k l m) (m + l.length, iota m l.length) := by
  have key := ev_upto (r := (m + (l.length : Int), iota m l.length)) (n := l.length) (fun i => Ev (fun k => laws_markIntS.l0 k ((iota m l.length).take i ++ l.drop i) (m + i) (i : Int)) (m + (l.length : Int), iota m l.length)) ?_ ?_ 0 (by omega)
  · refine Ev.congr (fun k => ?_) key
    unfold laws_markIntS.f
    simp
  · refine Ev.step (fun k => by rw [laws_markIntS.l0]) ?_
    refine Ev.neg (by simp [iota_length]) ?_
    rw [List.drop_length, List.append_nil, List.take_of_length_le (by rw [iota_length]; omega)]
    exact Ev.now _
  · intro i hi h
    refine Ev.step (fun k => by rw [laws_markIntS.l0]) ?_
    refine Ev.pos (by simp [iota_length]; omega) (Ev.pos (by omega) ?_)
    have h1 : m + (i : Int) = (iota m l.length).getD i 0 := (iota_getD hi).symm
    rw [wrap_succ hi (by omega), wrap_in (by omega) (by omega), Int.toNat_natCast]
    rw [show ((iota m l.length).take i ++ l.drop i).set i (m + (i : Int)) = (iota m l.length).take (i + 1) ++ l.drop (i + 1) from by rw [h1]; exact set_mark (by rw [iota_length]) (by rw [iota_length]; exact hi)]
    rw [show m + (i : Int) + 1 = m + ((i + 1 : Nat) : Int) from by omega]
    exact h
theorem ev_heldIntS (m : Int) (n : Nat) (hm : 0 ≤ m) (hl : m + n ≤ 4611686018427387904) : Ev (fun k => laws_heldIntS.f k (iota m n) m) (m + n) := by
  have key := ev_upto (r := m + (n : Int)) (n := n) (fun i => Ev (fun k => laws_heldIntS.l0 k (iota m n) (m + i) (i : Int)) (m + (n : Int))) ?_ ?_ 0 (by omega)
  · refine Ev.congr (fun k => ?_) key
    unfold laws_heldIntS.f
    simp
  · refine Ev.step (fun k => by rw [laws_heldIntS.l0]) ?_
    exact Ev.neg (by rw [iota_length]; omega) (Ev.now _)
  · intro i hi h
    refine Ev.step (fun k => by rw [laws_heldIntS.l0]) ?_
    refine Ev.pos (by rw [iota_length]; omega) (Ev.pos (by omega) (Ev.pos (by rw [rd_nat, iota_getD hi]) ?_))
    rw [wrap_succ hi (by omega), wrap_in (by omega) (by omega)]
    rw [show m + (i : Int) + 1 = m + ((i + 1 : Nat) : Int) from by omega]
    exact h

end Go.Proofs.Ytnbaojaocagjcaa.P
end
section
-- Written for this claim by gp.py over the kit's print; not trusted: Lean checks it.




namespace Go.Proofs.Ytnbaojaocagjcaa.P
open Go.RowKit Go.Proofs.YtnbaojaocagjcaaW.PrintWords Go.Proofs.YtnbaojaocagjcaaW.PrintLast Go.Proofs.YtnbaojaocagjcaaW.PrintMore
set_option linter.unusedVariables false
set_option linter.unusedSimpArgs false

def iotaWord (m : Int) (n : Nat) : List S59 := (List.range n).map fun (j : Nat) => (⟨m + 5 * (j : Int), m + 5 * (j : Int) + 1, m + 5 * (j : Int) + 2, m + 5 * (j : Int) + 3, m + 5 * (j : Int) + 4⟩ : S59)
theorem iotaWord_length (m : Int) (n : Nat) : (iotaWord m n).length = n := by simp [iotaWord]
theorem iotaWord_getD {m : Int} {n j : Nat} (h : j < n) : (iotaWord m n).getD j z59 = (⟨m + 5 * (j : Int), m + 5 * (j : Int) + 1, m + 5 * (j : Int) + 2, m + 5 * (j : Int) + 3, m + 5 * (j : Int) + 4⟩ : S59) := by simp [iotaWord, List.getD_eq_getElem?_getD, h]
theorem rd_set_Word {x : List S59} {i : Nat} (h : i < x.length) (a : S59) : rd_T59 (x.set i a) (i : Int) = a := by
  simp [rd_T59, List.getD_eq_getElem?_getD, h]
theorem ev_markWordS (l : List S59) (m : Int) (hm : 0 ≤ m) (hl : m + 5 * l.length ≤ 4611686018427387904) : Ev (fun k => laws_markWordS.f k l m) (m + 5 * l.length, iotaWord m l.length) := by
  have key := ev_upto (r := (m + 5 * (l.length : Int), iotaWord m l.length)) (n := l.length) (fun i => Ev (fun k => laws_markWordS.l0 k ((iotaWord m l.length).take i ++ l.drop i) (m + 5 * i) (i : Int)) (m + 5 * (l.length : Int), iotaWord m l.length)) ?_ ?_ 0 (by omega)
  · refine Ev.congr (fun k => ?_) key
    unfold laws_markWordS.f
    simp
  · refine Ev.step (fun k => by rw [laws_markWordS.l0]) ?_
    refine Ev.neg (by simp [iotaWord_length]) ?_
    rw [List.drop_length, List.append_nil, List.take_of_length_le (by rw [iotaWord_length]; omega)]
    exact Ev.now _
  · intro i hi h
    have hlen : ((iotaWord m l.length).take i ++ l.drop i).length = l.length := by simp [iotaWord_length]; omega
    have hset := set_mark (m := iotaWord m l.length) (l := l) (z := z59) (i := i) (by rw [iotaWord_length]) (by rw [iotaWord_length]; exact hi)
    rw [iotaWord_getD hi] at hset
    generalize hx : (iotaWord m l.length).take i ++ l.drop i = x at hlen hset ⊢
    refine Ev.step (fun k => by rw [laws_markWordS.l0]) ?_
    refine Ev.pos (by omega) (Ev.pos (by omega) ?_)
    simp only [Int.toNat_natCast, Option.bind_some]
    have hi1 : i < x.length := by omega
    simp only [rd_set_Word hi1, List.set_set]
    rw [wrap_succ hi (by omega)]
    rw [wrap_in (x := m + 5 * (i : Int) + 1) (by omega) (by omega), wrap_in (x := m + 5 * (i : Int) + 1 + 1) (by omega) (by omega), wrap_in (x := m + 5 * (i : Int) + 1 + 1 + 1) (by omega) (by omega), wrap_in (x := m + 5 * (i : Int) + 1 + 1 + 1 + 1) (by omega) (by omega), wrap_in (x := m + 5 * (i : Int) + 1 + 1 + 1 + 1 + 1) (by omega) (by omega)]
    rw [show m + 5 * (i : Int) + 1 + 1 + 1 + 1 + 1 = m + 5 * ((i + 1 : Nat) : Int) from by omega]
    have e := hset ▸ h
    refine Ev.congr (fun k => ?_) e
    congr 3
    all_goals omega
theorem ev_heldWordS (m : Int) (n : Nat) (hm : 0 ≤ m) (hl : m + 5 * n ≤ 4611686018427387904) : Ev (fun k => laws_heldWordS.f k (iotaWord m n) m) (m + 5 * n) := by
  have key := ev_upto (r := m + 5 * (n : Int)) (n := n) (fun i => Ev (fun k => laws_heldWordS.l0 k (iotaWord m n) (m + 5 * i) (i : Int)) (m + 5 * (n : Int))) ?_ ?_ 0 (by omega)
  · refine Ev.congr (fun k => ?_) key
    unfold laws_heldWordS.f
    simp
  · refine Ev.step (fun k => by rw [laws_heldWordS.l0]) ?_
    exact Ev.neg (by rw [iotaWord_length]; omega) (Ev.now _)
  · intro i hi h
    have hr : rd_T59 (iotaWord m n) (i : Int) = (⟨m + 5 * (i : Int), m + 5 * (i : Int) + 1, m + 5 * (i : Int) + 2, m + 5 * (i : Int) + 3, m + 5 * (i : Int) + 4⟩ : S59) := iotaWord_getD hi
    refine Ev.step (fun k => by rw [laws_heldWordS.l0]) ?_
    refine Ev.pos (by rw [iotaWord_length]; omega) (Ev.pos (by omega) ?_)
    rw [wrap_in (x := m + 5 * (i : Int) + 1) (by omega) (by omega), wrap_in (x := m + 5 * (i : Int) + 1 + 1) (by omega) (by omega), wrap_in (x := m + 5 * (i : Int) + 1 + 1 + 1) (by omega) (by omega), wrap_in (x := m + 5 * (i : Int) + 1 + 1 + 1 + 1) (by omega) (by omega), wrap_in (x := m + 5 * (i : Int) + 1 + 1 + 1 + 1 + 1) (by omega) (by omega), hr]
    refine (Ev.pos (by first | (simp; done) | (simp; omega)) (Ev.pos (by first | (simp; done) | (simp; omega)) (Ev.pos (by first | (simp; done) | (simp; omega)) (Ev.pos (by first | (simp; done) | (simp; omega)) (Ev.pos (by first | (simp; done) | (simp; omega)) ?_)))))
    rw [wrap_succ hi (by omega)]
    rw [show m + 5 * (i : Int) + 1 + 1 + 1 + 1 + 1 = m + 5 * ((i + 1 : Nat) : Int) from by omega]
    exact h

end Go.Proofs.Ytnbaojaocagjcaa.P
end
section
-- Written for this claim by gp.py over the kit's print; not trusted: Lean checks it.











namespace Go.Proofs.Ytnbaojaocagjcaa.P
open Go.RowKit Go.Proofs.YtnbaojaocagjcaaW.PrintWords Go.Proofs.YtnbaojaocagjcaaW.PrintLast Go.Proofs.YtnbaojaocagjcaaW.PrintMore
set_option linter.unusedVariables false
set_option linter.unusedSimpArgs false

theorem FnExactGetImage_good (x : ByteArray) (hf : x.size ≤ 9223372036854775807) : ∃ k, laws_FnExactGetImage.f k x = some true := by
  refine Ev.rounds (g := fun k => laws_FnExactGetImage.f k x) ?_
  unfold laws_FnExactGetImage.f
  by_cases hs : (x.size : Int) > 1048576
  · exact Ev.pos hs (Ev.now _)
  refine Ev.neg hs ?_
  obtain ⟨⟨r0, r1, r2, r3, b⟩, e1, e2, h0, h3⟩ := ev_GetImage x (by omega)
  simp only at h0 h3
  have e3 : Ev (fun k => impl_GetImage.f k x) (r0, r1, r2, r3, b) := by
    unfold impl_GetImage.f
    exact Ev.bind e2 (Ev.now _)
  have hq := ev_eqImage r0 r1 r2 r3 (by omega) (by omega)
  have hM : Ev (fun k => laws_markImage.f k r0 r1 r2 r3 1) (1 + r0.length + 5 * r3.length, iota 1 r0.length, iotaWord (1 + r0.length) r3.length) := by
    unfold laws_markImage.f
    exact Ev.bind (ev_markIntS r0 1 (by omega) (by omega)) (Ev.bind (ev_markWordS r3 (1 + r0.length) (by omega) (by omega)) (Ev.now _))
  have hH : Ev (fun k => laws_heldImage.f k (iota 1 r0.length) r1 r2 (iotaWord (1 + r0.length) r3.length) 1) (1 + r0.length + 5 * r3.length) := by
    unfold laws_heldImage.f
    exact Ev.bind (ev_heldIntS 1 r0.length (by omega) (by omega)) (Ev.neg (by omega) (Ev.bind (ev_heldWordS (1 + r0.length) r3.length (by omega) (by omega)) (Ev.neg (by omega) (Ev.now _))))
  refine Ev.bind e1 (Ev.bind e3 (Ev.bind hq (Ev.pos rfl (Ev.neg (by simp) (Ev.bind hM (Ev.bind hH (Ev.neg (by omega) (Ev.pos rfl ?_))))))))
  exact Ev.bind e3 (Ev.bind hq (Ev.pos rfl (Ev.neg (by simp) (Ev.bind hH (Ev.neg (by omega) (Ev.pos rfl (Ev.now _)))))))

end Go.Proofs.Ytnbaojaocagjcaa.P
end
