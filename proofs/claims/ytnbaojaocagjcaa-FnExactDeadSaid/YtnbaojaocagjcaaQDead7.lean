-- Joined by pack.py from F9, FHPureDead, FHPureKit, FHPureDeadEv, FHPureInts, FHPureToWord, FHPureImage, FHPureMarkInts, F59, FHPureMarkWord, FHPureAll, FHPureImageOk
import Derived.Test.YtnbaojaocagjcaaQDead1
import Derived.Test.YtnbaojaocagjcaaQDead5
import Derived.Test.YtnbaojaocagjcaaQDead6
import Derived.Test.YtnbaojaocagjcaaQDead3
import Derived.Test.YtnbaojaocagjcaaQDead4
import Derived.Test.YtnbaojaocagjcaaQDead2
section
-- Written for this claim by gp.py over the kit's print; not trusted: Lean checks it.










namespace Go.Proofs.Ytnbaojaocagjcaa.P
open Go.RowKit Go.Proofs.YtnbaojaocagjcaaW.PrintWords Go.Proofs.YtnbaojaocagjcaaW.PrintLast Go.Proofs.YtnbaojaocagjcaaW.PrintMore
attribute [local go_sem] max2_int min2_int max_two min_two max_three min_three max_four min_four
set_option linter.unusedVariables false
set_option linter.unusedSimpArgs false

/-! ### laws_FnExactDead: function 9 -/
def laws_FnExactDead.f (k : Nat) (l0_0 : List Int) (a0_1 : Int) (a0_2 : Int) (l0_3 : List (S78)) : Option (Bool) := (laws_szImage.f l0_0 a0_1 a0_2 l0_3 1048576).bind fun t102 => (if t102 < 0 then (some true) else ((laws_toImage.f k l0_0 a0_1 a0_2 l0_3).bind fun bt103 => ((spec_Dead.f k bt103.1 bt103.2.1 bt103.2.2.1 bt103.2.2.2).bind fun t111 => ((laws_toImage.f k l0_0 a0_1 a0_2 l0_3).bind fun bt114 => ((impl_Dead.f k bt114.1 bt114.2.1 bt114.2.2.1 bt114.2.2.2).bind fun t123 => ((laws_eqIntS.f k t123 t111).bind fun t126 => (if t126 = true then ((laws_toImage.f k l0_0 a0_1 a0_2 l0_3).bind fun bt127 => ((laws_eqImage.f k bt114.1 bt114.2.1 bt114.2.2.1 bt114.2.2.2 bt127.1 bt127.2.1 bt127.2.2.1 bt127.2.2.2).bind fun t135 => (if t135 = true then ((laws_markImage.f k bt114.1 bt114.2.1 bt114.2.2.1 bt114.2.2.2 1).bind fun bt136 => (if bt136.1 < 0 then (none) else ((laws_eqIntS.f k t123 t111).bind fun t139 => (if t139 = true then ((laws_markIntS.f k t123 1).bind fun bt140 => ((laws_heldIntS.f k bt140.2 1).bind fun t142 => (if t142 < 0 then (none) else (if t142 = bt140.1 then ((laws_toImage.f k l0_0 a0_1 a0_2 l0_3).bind fun bt143 => ((impl_Dead.f k bt143.1 bt143.2.1 bt143.2.2.1 bt143.2.2.2).bind fun t151 => ((laws_eqIntS.f k t151 t111).bind fun t154 => (if t154 = true then ((laws_heldIntS.f k bt140.2 1).bind fun t155 => (if t155 < 0 then (none) else (if t155 = bt140.1 then (some true) else (none)))) else (none))))) else (none))))) else (none))))) else (none)))) else (none))))))))
theorem laws_FnExactDead.mono : ∀ a0 a1 a2 a3 k, LeO (laws_FnExactDead.f k a0 a1 a2 a3) (laws_FnExactDead.f (k + 1) a0 a1 a2 a3) := by
  intro a0 a1 a2 a3 k
  unfold laws_FnExactDead.f
  repeat' first
      | (with_reducible exact impl_Dead.mono _ _ _ _ _)
      | (with_reducible exact laws_eqImage.mono _ _ _ _ _ _ _ _ _)
      | (with_reducible exact laws_eqIntS.mono _ _ _)
      | (with_reducible exact laws_heldIntS.mono _ _ _)
      | (with_reducible exact laws_markImage.mono _ _ _ _ _ _)
      | (with_reducible exact laws_markIntS.mono _ _ _)
      | (with_reducible exact laws_toImage.mono _ _ _ _ _)
      | (with_reducible exact spec_Dead.mono _ _ _ _ _)
      | (with_reducible exact LeO.refl _)
      | (with_reducible exact LeO.none _)
      | (with_reducible refine LeO.ite ?_ ?_)
      | (with_reducible refine LeO.bind ?_ (fun _ => ?_))
      | exact impl_Dead.mono _ _ _ _ _
      | exact laws_eqImage.mono _ _ _ _ _ _ _ _ _
      | exact laws_eqIntS.mono _ _ _
      | exact laws_heldIntS.mono _ _ _
      | exact laws_markImage.mono _ _ _ _ _ _
      | exact laws_markIntS.mono _ _ _
      | exact laws_toImage.mono _ _ _ _ _
      | exact spec_Dead.mono _ _ _ _ _
      | exact LeO.none _
      | refine LeO.ite ?_ ?_
      | refine LeO.bind ?_ (fun _ => ?_)
set_option maxHeartbeats 8000000 in
set_option maxRecDepth 100000 in
theorem laws_FnExactDead.calls (k : Nat) (A0_0 : Option Addr) (c0_0 : Nat) (l0_0 : List Int) (a0_1 : Int) (a0_2 : Int) (A0_3 : Option Addr) (c0_3 : Nat) (l0_3 : List (S78)) (r : Bool) (w : World) (hr0_0 : Kd.C (Kd.int .i64) w A0_0 l0_0.length l0_0) (hc0_0 : l0_0.length ≤ c0_0) (hr0_3 : Kd.C k78 w A0_3 l0_3.length l0_3) (hc0_3 : l0_3.length ≤ c0_3) (h : laws_FnExactDead.f k l0_0 a0_1 a0_2 l0_3 = some r) :
    Calls Try.prog 9 #[.agg #[.slice A0_0 l0_0.length c0_0, .int .i64 a0_1, .int .i64 a0_2, .slice A0_3 l0_3.length c0_3]] w fun e w' => e = .returned (.bool r) ∧ Below w.heap.size w w' := by
  have hu28 := Try.underlying28
  have hu33 := Try.underlying33
  have HR0_0 := Aside0.mk hr0_0
  have HC0_0 := Aside0.mk hc0_0
  clear hr0_0 hc0_0
  have HR0_3 := Aside0.mk hr0_3
  have HC0_3 := Aside0.mk hc0_3
  clear hr0_3 hc0_3
  have HB := Aside0.mk (Below.refl w.heap.size w)
  have H : ((laws_szImage.f l0_0 a0_1 a0_2 l0_3 1048576).bind fun t102 => (if t102 < 0 then (some true) else ((laws_toImage.f k l0_0 a0_1 a0_2 l0_3).bind fun bt103 => ((spec_Dead.f k bt103.1 bt103.2.1 bt103.2.2.1 bt103.2.2.2).bind fun t111 => ((laws_toImage.f k l0_0 a0_1 a0_2 l0_3).bind fun bt114 => ((impl_Dead.f k bt114.1 bt114.2.1 bt114.2.2.1 bt114.2.2.2).bind fun t123 => ((laws_eqIntS.f k t123 t111).bind fun t126 => (if t126 = true then ((laws_toImage.f k l0_0 a0_1 a0_2 l0_3).bind fun bt127 => ((laws_eqImage.f k bt114.1 bt114.2.1 bt114.2.2.1 bt114.2.2.2 bt127.1 bt127.2.1 bt127.2.2.1 bt127.2.2.2).bind fun t135 => (if t135 = true then ((laws_markImage.f k bt114.1 bt114.2.1 bt114.2.2.1 bt114.2.2.2 1).bind fun bt136 => (if bt136.1 < 0 then (none) else ((laws_eqIntS.f k t123 t111).bind fun t139 => (if t139 = true then ((laws_markIntS.f k t123 1).bind fun bt140 => ((laws_heldIntS.f k bt140.2 1).bind fun t142 => (if t142 < 0 then (none) else (if t142 = bt140.1 then ((laws_toImage.f k l0_0 a0_1 a0_2 l0_3).bind fun bt143 => ((impl_Dead.f k bt143.1 bt143.2.1 bt143.2.2.1 bt143.2.2.2).bind fun t151 => ((laws_eqIntS.f k t151 t111).bind fun t154 => (if t154 = true then ((laws_heldIntS.f k bt140.2 1).bind fun t155 => (if t155 < 0 then (none) else (if t155 = bt140.1 then (some true) else (none)))) else (none))))) else (none))))) else (none))))) else (none)))) else (none))))))))) = some r := h
  clear h
  replace H := Option.bind_eq_some_iff.mp H
  obtain ⟨t102, A20, H⟩ := H
  replace H : (if t102 < 0 then (some true) else ((laws_toImage.f k l0_0 a0_1 a0_2 l0_3).bind fun bt103 => ((spec_Dead.f k bt103.1 bt103.2.1 bt103.2.2.1 bt103.2.2.2).bind fun t111 => ((laws_toImage.f k l0_0 a0_1 a0_2 l0_3).bind fun bt114 => ((impl_Dead.f k bt114.1 bt114.2.1 bt114.2.2.1 bt114.2.2.2).bind fun t123 => ((laws_eqIntS.f k t123 t111).bind fun t126 => (if t126 = true then ((laws_toImage.f k l0_0 a0_1 a0_2 l0_3).bind fun bt127 => ((laws_eqImage.f k bt114.1 bt114.2.1 bt114.2.2.1 bt114.2.2.2 bt127.1 bt127.2.1 bt127.2.2.1 bt127.2.2.2).bind fun t135 => (if t135 = true then ((laws_markImage.f k bt114.1 bt114.2.1 bt114.2.2.1 bt114.2.2.2 1).bind fun bt136 => (if bt136.1 < 0 then (none) else ((laws_eqIntS.f k t123 t111).bind fun t139 => (if t139 = true then ((laws_markIntS.f k t123 1).bind fun bt140 => ((laws_heldIntS.f k bt140.2 1).bind fun t142 => (if t142 < 0 then (none) else (if t142 = bt140.1 then ((laws_toImage.f k l0_0 a0_1 a0_2 l0_3).bind fun bt143 => ((impl_Dead.f k bt143.1 bt143.2.1 bt143.2.2.1 bt143.2.2.2).bind fun t151 => ((laws_eqIntS.f k t151 t111).bind fun t154 => (if t154 = true then ((laws_heldIntS.f k bt140.2 1).bind fun t155 => (if t155 < 0 then (none) else (if t155 = bt140.1 then (some true) else (none)))) else (none))))) else (none))))) else (none))))) else (none)))) else (none)))))))) = some r := H
  have A2 := Aside0.mk A20
  clear A20
  by_cases c3 : t102 < 0
  · rw [if_pos c3] at H
    have c3b0 : decide (t102 < 0) = true := decide_eq_true c3
    clear c3
    obtain rfl := Option.some.inj H
    go_enter Try.func9, Try.ntmps9
    go_wp2_with (first | ((with_reducible refine gate_dst (N := 1) rfl ?_); refine box_event ?hg (N := 1) ?hd (cs := #[.slice A0_0 l0_0.length c0_0, .int .i64 a0_1, .int .i64 a0_2, .slice A0_3 l0_3.length c0_3]) (t := 28) ?hr ?_; (case hd => rfl); (case hg => rfl); (case hr => first | (go_simp; done) | (go_simp; rfl)); intro gb101 hg w4 hbox hb; have n0_ := Aside0.mk (below_step (by repeat (first | (with_reducible first | exact HB.out | apply below_alloc | apply pw_below_drewN | apply below_drew1) | exact HB.out)) hb); have n1_ := Aside0.mk (hbox); have n2_ := Aside0.mk ((by rw [hg]; exact (below_size (by repeat (first | (with_reducible first | exact HB.out | apply below_alloc | apply pw_below_drewN | apply below_drew1) | exact HB.out))) : w.heap.size ≤ gb101)); have n3_ := Aside0.mk ((by rw [hg]; exact (below_size (by repeat (first | (with_reducible first | exact HB.out | apply below_alloc | apply pw_below_drewN | apply below_drew1) | exact HB.out))) : w.heap.size ≤ gb101)); clear HB; have HB := n0_; have BK101 := n1_; have GW101 := n2_; have GE101 := n3_; clear n0_ n1_ n2_ n3_; clear hb hbox hg; have hcz5_0 : w4.cell? ⟨gb101, 0, none⟩ = some (.slice A0_0 l0_0.length c0_0) := (blk_cell BK101.out 0).trans rfl; have hcz5_1 : w4.cell? ⟨gb101, 1, none⟩ = some (.int .i64 a0_1) := (blk_cell BK101.out 1).trans rfl; have hcz5_2 : w4.cell? ⟨gb101, 2, none⟩ = some (.int .i64 a0_2) := (blk_cell BK101.out 2).trans rfl; have hcz5_3 : w4.cell? ⟨gb101, 3, none⟩ = some (.slice A0_3 l0_3.length c0_3) := (blk_cell BK101.out 3).trans rfl; have hfz5_0 := blk_frozen BK101.out 0; have hfz5_1 := blk_frozen BK101.out 1; have hfz5_2 := blk_frozen BK101.out 2; have hfz5_3 := blk_frozen BK101.out 3) | ((with_reducible refine gate_callee (f := 13) rfl ?_); refine goesL_ (some 13) rfl rfl Try.func13 (by kernel_rfl) rfl #[.agg #[.slice A0_0 l0_0.length c0_0, .int .i64 a0_1, .int .i64 a0_2, .slice A0_3 l0_3.length c0_3], .int .i64 1048576] rfl (by (try simp only [List.map_toArray, List.map_cons, List.map_nil]); first | done | rfl | (simp only [List.length_drop, List.length_take]; rfl)) ?_; (with_reducible refine (laws_szImage.calls _ _ l0_0 a0_1 a0_2 _ _ l0_3 1048576 t102 _ ?side1 ?side2 ?side3 ?side4 A2.out).mono ?_); (case side1 => repeat (first | exact (Kd.C_below HR0_0.out HB.out) | (with_reducible refine Kd.C_alloc ?_ _) | (with_reducible refine Kd.C_drewN ?_ _) | (with_reducible refine Kd.C_drew ?_))); (case side2 => exact HC0_0.out); (case side3 => repeat (first | exact (Kd.C_below HR0_3.out HB.out) | (with_reducible refine Kd.C_alloc ?_ _) | (with_reducible refine Kd.C_drewN ?_ _) | (with_reducible refine Kd.C_drew ?_))); (case side4 => exact HC0_3.out); rintro e w6 ⟨rfl, hb⟩; refine ⟨_, rfl, ?_⟩; have n0_ := Aside0.mk (blk_below (g := gb101) (o := .cells #[.slice A0_0 l0_0.length c0_0, .int .i64 a0_1, .int .i64 a0_2, .slice A0_3 l0_3.length c0_3] 28 (0, 0)) (by (with_reducible repeat (first | refine blk_drewN ?_ _ | refine blk_drew ?_ | refine blk_alloc ?_ _)); exact BK101.out) hb); have n1_ := Aside0.mk (below_step (by repeat (first | (with_reducible first | exact HB.out | apply below_alloc | apply pw_below_drewN | apply below_drew1 | refine below_set ?_ GE101.out) | exact HB.out)) hb); clear BK101; clear HB; have BK101 := n0_; have HB := n1_; clear n0_ n1_; (try clear hb); (try clear hb2); (try clear hk); (try clear hi)))
    go_ret
    exact ⟨by first | rfl | (simp [errW_none, errW_some] <;> rfl) | (simp [*, errW_none, errW_some] <;> rfl), by repeat (first | (with_reducible first | exact HB.out | apply below_alloc | apply pw_below_drewN | apply below_drew1 | refine below_set ?_ GE101.out) | exact HB.out)⟩
  · rw [if_neg c3] at H
    have c3b0 : decide (t102 < 0) = false := decide_eq_false c3
    clear c3
    replace H := Option.bind_eq_some_iff.mp H
    obtain ⟨⟨t103, t106, t107, t108⟩, A70, H⟩ := H
    replace H : ((spec_Dead.f k t103 t106 t107 t108).bind fun t111 => ((laws_toImage.f k l0_0 a0_1 a0_2 l0_3).bind fun bt114 => ((impl_Dead.f k bt114.1 bt114.2.1 bt114.2.2.1 bt114.2.2.2).bind fun t123 => ((laws_eqIntS.f k t123 t111).bind fun t126 => (if t126 = true then ((laws_toImage.f k l0_0 a0_1 a0_2 l0_3).bind fun bt127 => ((laws_eqImage.f k bt114.1 bt114.2.1 bt114.2.2.1 bt114.2.2.2 bt127.1 bt127.2.1 bt127.2.2.1 bt127.2.2.2).bind fun t135 => (if t135 = true then ((laws_markImage.f k bt114.1 bt114.2.1 bt114.2.2.1 bt114.2.2.2 1).bind fun bt136 => (if bt136.1 < 0 then (none) else ((laws_eqIntS.f k t123 t111).bind fun t139 => (if t139 = true then ((laws_markIntS.f k t123 1).bind fun bt140 => ((laws_heldIntS.f k bt140.2 1).bind fun t142 => (if t142 < 0 then (none) else (if t142 = bt140.1 then ((laws_toImage.f k l0_0 a0_1 a0_2 l0_3).bind fun bt143 => ((impl_Dead.f k bt143.1 bt143.2.1 bt143.2.2.1 bt143.2.2.2).bind fun t151 => ((laws_eqIntS.f k t151 t111).bind fun t154 => (if t154 = true then ((laws_heldIntS.f k bt140.2 1).bind fun t155 => (if t155 < 0 then (none) else (if t155 = bt140.1 then (some true) else (none)))) else (none))))) else (none))))) else (none))))) else (none)))) else (none)))))) = some r := H
    have A7 := Aside0.mk A70
    clear A70
    replace H := Option.bind_eq_some_iff.mp H
    obtain ⟨t111, A80, H⟩ := H
    replace H : ((laws_toImage.f k l0_0 a0_1 a0_2 l0_3).bind fun bt114 => ((impl_Dead.f k bt114.1 bt114.2.1 bt114.2.2.1 bt114.2.2.2).bind fun t123 => ((laws_eqIntS.f k t123 t111).bind fun t126 => (if t126 = true then ((laws_toImage.f k l0_0 a0_1 a0_2 l0_3).bind fun bt127 => ((laws_eqImage.f k bt114.1 bt114.2.1 bt114.2.2.1 bt114.2.2.2 bt127.1 bt127.2.1 bt127.2.2.1 bt127.2.2.2).bind fun t135 => (if t135 = true then ((laws_markImage.f k bt114.1 bt114.2.1 bt114.2.2.1 bt114.2.2.2 1).bind fun bt136 => (if bt136.1 < 0 then (none) else ((laws_eqIntS.f k t123 t111).bind fun t139 => (if t139 = true then ((laws_markIntS.f k t123 1).bind fun bt140 => ((laws_heldIntS.f k bt140.2 1).bind fun t142 => (if t142 < 0 then (none) else (if t142 = bt140.1 then ((laws_toImage.f k l0_0 a0_1 a0_2 l0_3).bind fun bt143 => ((impl_Dead.f k bt143.1 bt143.2.1 bt143.2.2.1 bt143.2.2.2).bind fun t151 => ((laws_eqIntS.f k t151 t111).bind fun t154 => (if t154 = true then ((laws_heldIntS.f k bt140.2 1).bind fun t155 => (if t155 < 0 then (none) else (if t155 = bt140.1 then (some true) else (none)))) else (none))))) else (none))))) else (none))))) else (none)))) else (none))))) = some r := H
    have A8 := Aside0.mk A80
    clear A80
    replace H := Option.bind_eq_some_iff.mp H
    obtain ⟨⟨t114, t117, t118, t119⟩, A90, H⟩ := H
    replace H : ((impl_Dead.f k t114 t117 t118 t119).bind fun t123 => ((laws_eqIntS.f k t123 t111).bind fun t126 => (if t126 = true then ((laws_toImage.f k l0_0 a0_1 a0_2 l0_3).bind fun bt127 => ((laws_eqImage.f k t114 t117 t118 t119 bt127.1 bt127.2.1 bt127.2.2.1 bt127.2.2.2).bind fun t135 => (if t135 = true then ((laws_markImage.f k t114 t117 t118 t119 1).bind fun bt136 => (if bt136.1 < 0 then (none) else ((laws_eqIntS.f k t123 t111).bind fun t139 => (if t139 = true then ((laws_markIntS.f k t123 1).bind fun bt140 => ((laws_heldIntS.f k bt140.2 1).bind fun t142 => (if t142 < 0 then (none) else (if t142 = bt140.1 then ((laws_toImage.f k l0_0 a0_1 a0_2 l0_3).bind fun bt143 => ((impl_Dead.f k bt143.1 bt143.2.1 bt143.2.2.1 bt143.2.2.2).bind fun t151 => ((laws_eqIntS.f k t151 t111).bind fun t154 => (if t154 = true then ((laws_heldIntS.f k bt140.2 1).bind fun t155 => (if t155 < 0 then (none) else (if t155 = bt140.1 then (some true) else (none)))) else (none))))) else (none))))) else (none))))) else (none)))) else (none)))) = some r := H
    have A9 := Aside0.mk A90
    clear A90
    replace H := Option.bind_eq_some_iff.mp H
    obtain ⟨t123, A100, H⟩ := H
    replace H : ((laws_eqIntS.f k t123 t111).bind fun t126 => (if t126 = true then ((laws_toImage.f k l0_0 a0_1 a0_2 l0_3).bind fun bt127 => ((laws_eqImage.f k t114 t117 t118 t119 bt127.1 bt127.2.1 bt127.2.2.1 bt127.2.2.2).bind fun t135 => (if t135 = true then ((laws_markImage.f k t114 t117 t118 t119 1).bind fun bt136 => (if bt136.1 < 0 then (none) else ((laws_eqIntS.f k t123 t111).bind fun t139 => (if t139 = true then ((laws_markIntS.f k t123 1).bind fun bt140 => ((laws_heldIntS.f k bt140.2 1).bind fun t142 => (if t142 < 0 then (none) else (if t142 = bt140.1 then ((laws_toImage.f k l0_0 a0_1 a0_2 l0_3).bind fun bt143 => ((impl_Dead.f k bt143.1 bt143.2.1 bt143.2.2.1 bt143.2.2.2).bind fun t151 => ((laws_eqIntS.f k t151 t111).bind fun t154 => (if t154 = true then ((laws_heldIntS.f k bt140.2 1).bind fun t155 => (if t155 < 0 then (none) else (if t155 = bt140.1 then (some true) else (none)))) else (none))))) else (none))))) else (none))))) else (none)))) else (none))) = some r := H
    have A10 := Aside0.mk A100
    clear A100
    replace H := Option.bind_eq_some_iff.mp H
    obtain ⟨t126, A110, H⟩ := H
    replace H : (if t126 = true then ((laws_toImage.f k l0_0 a0_1 a0_2 l0_3).bind fun bt127 => ((laws_eqImage.f k t114 t117 t118 t119 bt127.1 bt127.2.1 bt127.2.2.1 bt127.2.2.2).bind fun t135 => (if t135 = true then ((laws_markImage.f k t114 t117 t118 t119 1).bind fun bt136 => (if bt136.1 < 0 then (none) else ((laws_eqIntS.f k t123 t111).bind fun t139 => (if t139 = true then ((laws_markIntS.f k t123 1).bind fun bt140 => ((laws_heldIntS.f k bt140.2 1).bind fun t142 => (if t142 < 0 then (none) else (if t142 = bt140.1 then ((laws_toImage.f k l0_0 a0_1 a0_2 l0_3).bind fun bt143 => ((impl_Dead.f k bt143.1 bt143.2.1 bt143.2.2.1 bt143.2.2.2).bind fun t151 => ((laws_eqIntS.f k t151 t111).bind fun t154 => (if t154 = true then ((laws_heldIntS.f k bt140.2 1).bind fun t155 => (if t155 < 0 then (none) else (if t155 = bt140.1 then (some true) else (none)))) else (none))))) else (none))))) else (none))))) else (none)))) else (none)) = some r := H
    have A11 := Aside0.mk A110
    clear A110
    by_cases c12 : t126 = true
    · subst c12
      have H1 : ((laws_toImage.f k l0_0 a0_1 a0_2 l0_3).bind fun bt127 => ((laws_eqImage.f k t114 t117 t118 t119 bt127.1 bt127.2.1 bt127.2.2.1 bt127.2.2.2).bind fun t135 => (if t135 = true then ((laws_markImage.f k t114 t117 t118 t119 1).bind fun bt136 => (if bt136.1 < 0 then (none) else ((laws_eqIntS.f k t123 t111).bind fun t139 => (if t139 = true then ((laws_markIntS.f k t123 1).bind fun bt140 => ((laws_heldIntS.f k bt140.2 1).bind fun t142 => (if t142 < 0 then (none) else (if t142 = bt140.1 then ((laws_toImage.f k l0_0 a0_1 a0_2 l0_3).bind fun bt143 => ((impl_Dead.f k bt143.1 bt143.2.1 bt143.2.2.1 bt143.2.2.2).bind fun t151 => ((laws_eqIntS.f k t151 t111).bind fun t154 => (if t154 = true then ((laws_heldIntS.f k bt140.2 1).bind fun t155 => (if t155 < 0 then (none) else (if t155 = bt140.1 then (some true) else (none)))) else (none))))) else (none))))) else (none))))) else (none)))) = some r := by rw [if_pos rfl] at H; exact H
      clear H
      have H := H1
      clear H1
      replace H := Option.bind_eq_some_iff.mp H
      obtain ⟨⟨t127, t130, t131, t132⟩, A130, H⟩ := H
      replace H : ((laws_eqImage.f k t114 t117 t118 t119 t127 t130 t131 t132).bind fun t135 => (if t135 = true then ((laws_markImage.f k t114 t117 t118 t119 1).bind fun bt136 => (if bt136.1 < 0 then (none) else ((laws_eqIntS.f k t123 t111).bind fun t139 => (if t139 = true then ((laws_markIntS.f k t123 1).bind fun bt140 => ((laws_heldIntS.f k bt140.2 1).bind fun t142 => (if t142 < 0 then (none) else (if t142 = bt140.1 then ((laws_toImage.f k l0_0 a0_1 a0_2 l0_3).bind fun bt143 => ((impl_Dead.f k bt143.1 bt143.2.1 bt143.2.2.1 bt143.2.2.2).bind fun t151 => ((laws_eqIntS.f k t151 t111).bind fun t154 => (if t154 = true then ((laws_heldIntS.f k bt140.2 1).bind fun t155 => (if t155 < 0 then (none) else (if t155 = bt140.1 then (some true) else (none)))) else (none))))) else (none))))) else (none))))) else (none))) = some r := H
      have A13 := Aside0.mk A130
      clear A130
      replace H := Option.bind_eq_some_iff.mp H
      obtain ⟨t135, A140, H⟩ := H
      replace H : (if t135 = true then ((laws_markImage.f k t114 t117 t118 t119 1).bind fun bt136 => (if bt136.1 < 0 then (none) else ((laws_eqIntS.f k t123 t111).bind fun t139 => (if t139 = true then ((laws_markIntS.f k t123 1).bind fun bt140 => ((laws_heldIntS.f k bt140.2 1).bind fun t142 => (if t142 < 0 then (none) else (if t142 = bt140.1 then ((laws_toImage.f k l0_0 a0_1 a0_2 l0_3).bind fun bt143 => ((impl_Dead.f k bt143.1 bt143.2.1 bt143.2.2.1 bt143.2.2.2).bind fun t151 => ((laws_eqIntS.f k t151 t111).bind fun t154 => (if t154 = true then ((laws_heldIntS.f k bt140.2 1).bind fun t155 => (if t155 < 0 then (none) else (if t155 = bt140.1 then (some true) else (none)))) else (none))))) else (none))))) else (none))))) else (none)) = some r := H
      have A14 := Aside0.mk A140
      clear A140
      by_cases c15 : t135 = true
      · subst c15
        have H1 : ((laws_markImage.f k t114 t117 t118 t119 1).bind fun bt136 => (if bt136.1 < 0 then (none) else ((laws_eqIntS.f k t123 t111).bind fun t139 => (if t139 = true then ((laws_markIntS.f k t123 1).bind fun bt140 => ((laws_heldIntS.f k bt140.2 1).bind fun t142 => (if t142 < 0 then (none) else (if t142 = bt140.1 then ((laws_toImage.f k l0_0 a0_1 a0_2 l0_3).bind fun bt143 => ((impl_Dead.f k bt143.1 bt143.2.1 bt143.2.2.1 bt143.2.2.2).bind fun t151 => ((laws_eqIntS.f k t151 t111).bind fun t154 => (if t154 = true then ((laws_heldIntS.f k bt140.2 1).bind fun t155 => (if t155 < 0 then (none) else (if t155 = bt140.1 then (some true) else (none)))) else (none))))) else (none))))) else (none))))) = some r := by rw [if_pos rfl] at H; exact H
        clear H
        have H := H1
        clear H1
        replace H := Option.bind_eq_some_iff.mp H
        obtain ⟨⟨t136, t137, t138⟩, A160, H⟩ := H
        replace H : (if t136 < 0 then (none) else ((laws_eqIntS.f k t123 t111).bind fun t139 => (if t139 = true then ((laws_markIntS.f k t123 1).bind fun bt140 => ((laws_heldIntS.f k bt140.2 1).bind fun t142 => (if t142 < 0 then (none) else (if t142 = bt140.1 then ((laws_toImage.f k l0_0 a0_1 a0_2 l0_3).bind fun bt143 => ((impl_Dead.f k bt143.1 bt143.2.1 bt143.2.2.1 bt143.2.2.2).bind fun t151 => ((laws_eqIntS.f k t151 t111).bind fun t154 => (if t154 = true then ((laws_heldIntS.f k bt140.2 1).bind fun t155 => (if t155 < 0 then (none) else (if t155 = bt140.1 then (some true) else (none)))) else (none))))) else (none))))) else (none)))) = some r := H
        have A16 := Aside0.mk A160
        clear A160
        by_cases c17 : t136 < 0
        · rw [if_pos c17] at H
          exact absurd H (by simp)
        · rw [if_neg c17] at H
          have c17b0 : decide (t136 < 0) = false := decide_eq_false c17
          clear c17
          replace H := Option.bind_eq_some_iff.mp H
          obtain ⟨t139, A180, H⟩ := H
          replace H : (if t139 = true then ((laws_markIntS.f k t123 1).bind fun bt140 => ((laws_heldIntS.f k bt140.2 1).bind fun t142 => (if t142 < 0 then (none) else (if t142 = bt140.1 then ((laws_toImage.f k l0_0 a0_1 a0_2 l0_3).bind fun bt143 => ((impl_Dead.f k bt143.1 bt143.2.1 bt143.2.2.1 bt143.2.2.2).bind fun t151 => ((laws_eqIntS.f k t151 t111).bind fun t154 => (if t154 = true then ((laws_heldIntS.f k bt140.2 1).bind fun t155 => (if t155 < 0 then (none) else (if t155 = bt140.1 then (some true) else (none)))) else (none))))) else (none))))) else (none)) = some r := H
          have A18 := Aside0.mk A180
          clear A180
          by_cases c19 : t139 = true
          · subst c19
            have H1 : ((laws_markIntS.f k t123 1).bind fun bt140 => ((laws_heldIntS.f k bt140.2 1).bind fun t142 => (if t142 < 0 then (none) else (if t142 = bt140.1 then ((laws_toImage.f k l0_0 a0_1 a0_2 l0_3).bind fun bt143 => ((impl_Dead.f k bt143.1 bt143.2.1 bt143.2.2.1 bt143.2.2.2).bind fun t151 => ((laws_eqIntS.f k t151 t111).bind fun t154 => (if t154 = true then ((laws_heldIntS.f k bt140.2 1).bind fun t155 => (if t155 < 0 then (none) else (if t155 = bt140.1 then (some true) else (none)))) else (none))))) else (none))))) = some r := by rw [if_pos rfl] at H; exact H
            clear H
            have H := H1
            clear H1
            replace H := Option.bind_eq_some_iff.mp H
            obtain ⟨⟨t140, t141⟩, A200, H⟩ := H
            replace H : ((laws_heldIntS.f k t141 1).bind fun t142 => (if t142 < 0 then (none) else (if t142 = t140 then ((laws_toImage.f k l0_0 a0_1 a0_2 l0_3).bind fun bt143 => ((impl_Dead.f k bt143.1 bt143.2.1 bt143.2.2.1 bt143.2.2.2).bind fun t151 => ((laws_eqIntS.f k t151 t111).bind fun t154 => (if t154 = true then ((laws_heldIntS.f k t141 1).bind fun t155 => (if t155 < 0 then (none) else (if t155 = t140 then (some true) else (none)))) else (none))))) else (none)))) = some r := H
            have A20 := Aside0.mk A200
            clear A200
            replace H := Option.bind_eq_some_iff.mp H
            obtain ⟨t142, A210, H⟩ := H
            replace H : (if t142 < 0 then (none) else (if t142 = t140 then ((laws_toImage.f k l0_0 a0_1 a0_2 l0_3).bind fun bt143 => ((impl_Dead.f k bt143.1 bt143.2.1 bt143.2.2.1 bt143.2.2.2).bind fun t151 => ((laws_eqIntS.f k t151 t111).bind fun t154 => (if t154 = true then ((laws_heldIntS.f k t141 1).bind fun t155 => (if t155 < 0 then (none) else (if t155 = t140 then (some true) else (none)))) else (none))))) else (none))) = some r := H
            have A21 := Aside0.mk A210
            clear A210
            by_cases c22 : t142 < 0
            · rw [if_pos c22] at H
              exact absurd H (by simp)
            · rw [if_neg c22] at H
              have c22b0 : decide (t142 < 0) = false := decide_eq_false c22
              clear c22
              by_cases c23 : t142 = t140
              · rw [if_pos c23] at H
                have c23b0 : (t142 == t140) = true := beq_iff_eq.mpr c23
                have c23b1 : (t142 != t140) = false := bne_eq_false_iff_eq.mpr c23
                clear c23
                replace H := Option.bind_eq_some_iff.mp H
                obtain ⟨⟨t143, t146, t147, t148⟩, A240, H⟩ := H
                replace H : ((impl_Dead.f k t143 t146 t147 t148).bind fun t151 => ((laws_eqIntS.f k t151 t111).bind fun t154 => (if t154 = true then ((laws_heldIntS.f k t141 1).bind fun t155 => (if t155 < 0 then (none) else (if t155 = t140 then (some true) else (none)))) else (none)))) = some r := H
                have A24 := Aside0.mk A240
                clear A240
                replace H := Option.bind_eq_some_iff.mp H
                obtain ⟨t151, A250, H⟩ := H
                replace H : ((laws_eqIntS.f k t151 t111).bind fun t154 => (if t154 = true then ((laws_heldIntS.f k t141 1).bind fun t155 => (if t155 < 0 then (none) else (if t155 = t140 then (some true) else (none)))) else (none))) = some r := H
                have A25 := Aside0.mk A250
                clear A250
                replace H := Option.bind_eq_some_iff.mp H
                obtain ⟨t154, A260, H⟩ := H
                replace H : (if t154 = true then ((laws_heldIntS.f k t141 1).bind fun t155 => (if t155 < 0 then (none) else (if t155 = t140 then (some true) else (none)))) else (none)) = some r := H
                have A26 := Aside0.mk A260
                clear A260
                by_cases c27 : t154 = true
                · subst c27
                  have H1 : ((laws_heldIntS.f k t141 1).bind fun t155 => (if t155 < 0 then (none) else (if t155 = t140 then (some true) else (none)))) = some r := by rw [if_pos rfl] at H; exact H
                  clear H
                  have H := H1
                  clear H1
                  replace H := Option.bind_eq_some_iff.mp H
                  obtain ⟨t155, A280, H⟩ := H
                  replace H : (if t155 < 0 then (none) else (if t155 = t140 then (some true) else (none))) = some r := H
                  have A28 := Aside0.mk A280
                  clear A280
                  by_cases c29 : t155 < 0
                  · rw [if_pos c29] at H
                    exact absurd H (by simp)
                  · rw [if_neg c29] at H
                    have c29b0 : decide (t155 < 0) = false := decide_eq_false c29
                    clear c29
                    by_cases c30 : t155 = t140
                    · rw [if_pos c30] at H
                      have c30b0 : (t155 == t140) = true := beq_iff_eq.mpr c30
                      have c30b1 : (t155 != t140) = false := bne_eq_false_iff_eq.mpr c30
                      clear c30
                      obtain rfl := Option.some.inj H
                      go_enter Try.func9, Try.ntmps9
                      try go_wp2_with (first | ((with_reducible refine gate_dst (N := 1) rfl ?_); refine box_event ?hg (N := 1) ?hd (cs := #[.slice A0_0 l0_0.length c0_0, .int .i64 a0_1, .int .i64 a0_2, .slice A0_3 l0_3.length c0_3]) (t := 28) ?hr ?_; (case hd => rfl); (case hg => rfl); (case hr => first | (go_simp; done) | (go_simp; rfl)); intro gb101 hg w31 hbox hb; have n0_ := Aside0.mk (below_step (by repeat (first | (with_reducible first | exact HB.out | apply below_alloc | apply pw_below_drewN | apply below_drew1) | exact HB.out)) hb); have n1_ := Aside0.mk (hbox); have n2_ := Aside0.mk ((by rw [hg]; exact (below_size (by repeat (first | (with_reducible first | exact HB.out | apply below_alloc | apply pw_below_drewN | apply below_drew1) | exact HB.out))) : w.heap.size ≤ gb101)); have n3_ := Aside0.mk ((by rw [hg]; exact (below_size (by repeat (first | (with_reducible first | exact HB.out | apply below_alloc | apply pw_below_drewN | apply below_drew1) | exact HB.out))) : w.heap.size ≤ gb101)); clear HB; have HB := n0_; have BK101 := n1_; have GW101 := n2_; have GE101 := n3_; clear n0_ n1_ n2_ n3_; clear hb hbox hg; have hcz32_0 : w31.cell? ⟨gb101, 0, none⟩ = some (.slice A0_0 l0_0.length c0_0) := (blk_cell BK101.out 0).trans rfl; have hcz32_1 : w31.cell? ⟨gb101, 1, none⟩ = some (.int .i64 a0_1) := (blk_cell BK101.out 1).trans rfl; have hcz32_2 : w31.cell? ⟨gb101, 2, none⟩ = some (.int .i64 a0_2) := (blk_cell BK101.out 2).trans rfl; have hcz32_3 : w31.cell? ⟨gb101, 3, none⟩ = some (.slice A0_3 l0_3.length c0_3) := (blk_cell BK101.out 3).trans rfl; have hfz32_0 := blk_frozen BK101.out 0; have hfz32_1 := blk_frozen BK101.out 1; have hfz32_2 := blk_frozen BK101.out 2; have hfz32_3 := blk_frozen BK101.out 3) | ((with_reducible refine gate_callee (f := 13) rfl ?_); refine goesL_ (some 13) rfl rfl Try.func13 (by kernel_rfl) rfl #[.agg #[.slice A0_0 l0_0.length c0_0, .int .i64 a0_1, .int .i64 a0_2, .slice A0_3 l0_3.length c0_3], .int .i64 1048576] rfl (by (try simp only [List.map_toArray, List.map_cons, List.map_nil]); first | done | rfl | (simp only [List.length_drop, List.length_take]; rfl)) ?_; (with_reducible refine (laws_szImage.calls _ _ l0_0 a0_1 a0_2 _ _ l0_3 1048576 t102 _ ?side1 ?side2 ?side3 ?side4 A2.out).mono ?_); (case side1 => repeat (first | exact (Kd.C_below HR0_0.out HB.out) | (with_reducible refine Kd.C_alloc ?_ _) | (with_reducible refine Kd.C_drewN ?_ _) | (with_reducible refine Kd.C_drew ?_))); (case side2 => exact HC0_0.out); (case side3 => repeat (first | exact (Kd.C_below HR0_3.out HB.out) | (with_reducible refine Kd.C_alloc ?_ _) | (with_reducible refine Kd.C_drewN ?_ _) | (with_reducible refine Kd.C_drew ?_))); (case side4 => exact HC0_3.out); rintro e w33 ⟨rfl, hb⟩; refine ⟨_, rfl, ?_⟩; have n0_ := Aside0.mk (blk_below (g := gb101) (o := .cells #[.slice A0_0 l0_0.length c0_0, .int .i64 a0_1, .int .i64 a0_2, .slice A0_3 l0_3.length c0_3] 28 (0, 0)) (by (with_reducible repeat (first | refine blk_drewN ?_ _ | refine blk_drew ?_ | refine blk_alloc ?_ _)); exact BK101.out) hb); have n1_ := Aside0.mk (below_step (by repeat (first | (with_reducible first | exact HB.out | apply below_alloc | apply pw_below_drewN | apply below_drew1 | refine below_set ?_ GE101.out) | exact HB.out)) hb); clear BK101; clear HB; have BK101 := n0_; have HB := n1_; clear n0_ n1_; (try clear hb); (try clear hb2); (try clear hk); (try clear hi); have hcz34_0 : w33.cell? ⟨gb101, 0, none⟩ = some (.slice A0_0 l0_0.length c0_0) := (blk_cell BK101.out 0).trans rfl; have hcz34_1 : w33.cell? ⟨gb101, 1, none⟩ = some (.int .i64 a0_1) := (blk_cell BK101.out 1).trans rfl; have hcz34_2 : w33.cell? ⟨gb101, 2, none⟩ = some (.int .i64 a0_2) := (blk_cell BK101.out 2).trans rfl; have hcz34_3 : w33.cell? ⟨gb101, 3, none⟩ = some (.slice A0_3 l0_3.length c0_3) := (blk_cell BK101.out 3).trans rfl; have hfz34_0 := blk_frozen BK101.out 0; have hfz34_1 := blk_frozen BK101.out 1; have hfz34_2 := blk_frozen BK101.out 2; have hfz34_3 := blk_frozen BK101.out 3) | ((with_reducible refine gate_callee (f := 15) rfl ?_); refine goesL_ (some 17) rfl rfl Try.func15 (by kernel_rfl) rfl #[.agg #[.slice A0_0 l0_0.length c0_0, .int .i64 a0_1, .int .i64 a0_2, .slice A0_3 l0_3.length c0_3]] rfl (by (try simp only [List.map_toArray, List.map_cons, List.map_nil]); first | done | rfl | (simp only [List.length_drop, List.length_take]; rfl)) ?_; (with_reducible refine (laws_toImage.calls k _ _ l0_0 a0_1 a0_2 _ _ l0_3 t103 t106 t107 t108 _ ?side1 ?side2 ?side3 ?side4 A7.out).mono ?_); (case side1 => repeat (first | exact (Kd.C_below HR0_0.out HB.out) | (with_reducible refine Kd.C_alloc ?_ _) | (with_reducible refine Kd.C_drewN ?_ _) | (with_reducible refine Kd.C_drew ?_))); (case side2 => exact HC0_0.out); (case side3 => repeat (first | exact (Kd.C_below HR0_3.out HB.out) | (with_reducible refine Kd.C_alloc ?_ _) | (with_reducible refine Kd.C_drewN ?_ _) | (with_reducible refine Kd.C_drew ?_))); (case side4 => exact HC0_3.out); rintro e w35 ⟨v104, v109, rfl, ho0, ho1, hb⟩; refine ⟨_, rfl, ?_⟩; have n0_ := Aside0.mk (Kd.R_lower ho0 (below_size (by repeat (first | (with_reducible first | exact HB.out | apply below_alloc | apply pw_below_drewN | apply below_drew1 | refine below_set ?_ GE101.out) | exact HB.out)))); have n1_ := Aside0.mk (Kd.R_lower ho1 (below_size (by repeat (first | (with_reducible first | exact HB.out | apply below_alloc | apply pw_below_drewN | apply below_drew1 | refine below_set ?_ GE101.out) | exact HB.out)))); have n2_ := Aside0.mk (blk_below (g := gb101) (o := .cells #[.slice A0_0 l0_0.length c0_0, .int .i64 a0_1, .int .i64 a0_2, .slice A0_3 l0_3.length c0_3] 28 (0, 0)) (by (with_reducible repeat (first | refine blk_drewN ?_ _ | refine blk_drew ?_ | refine blk_alloc ?_ _)); exact BK101.out) hb); have n3_ := Aside0.mk (below_step (by repeat (first | (with_reducible first | exact HB.out | apply below_alloc | apply pw_below_drewN | apply below_drew1 | refine below_set ?_ GE101.out) | exact HB.out)) hb); clear BK101; clear HB; have HO105 := n0_; have HO110 := n1_; have BK101 := n2_; have HB := n3_; clear n0_ n1_ n2_ n3_; (try clear hb); (try clear hb2); (try clear hk); (try clear hi); (try clear ho0); (try clear ho1); obtain ⟨Ao36, co36, eo36⟩ := Kd.R_slice HO105.out; subst eo36; obtain ⟨Ao37, co37, eo37⟩ := Kd.R_slice HO110.out; subst eo37) | ((with_reducible refine gate_callee (f := 29) rfl ?_); refine goesL_ (some 18) rfl rfl Try.func29 (by kernel_rfl) rfl #[.agg #[.slice Ao36 t103.length co36, .int .i64 t106, .int .i64 t107, .slice Ao37 t108.length co37]] rfl (by (try simp only [List.map_toArray, List.map_cons, List.map_nil]); first | done | rfl | (simp only [List.length_drop, List.length_take]; rfl)) ?_; (with_reducible refine (spec_Dead.calls k _ _ t103 t106 t107 _ _ t108 t111 _ ?side1 ?side2 ?side3 ?side4 A8.out).mono ?_); (case side1 => repeat (first | exact (Kd.R_reads' HO105.out).2.2 | (with_reducible refine Kd.C_alloc ?_ _) | (with_reducible refine Kd.C_drewN ?_ _) | (with_reducible refine Kd.C_drew ?_))); (case side2 => exact (Kd.R_reads' HO105.out).2.1); (case side3 => repeat (first | exact (Kd.R_reads' HO110.out).2.2 | (with_reducible refine Kd.C_alloc ?_ _) | (with_reducible refine Kd.C_drewN ?_ _) | (with_reducible refine Kd.C_drew ?_))); (case side4 => exact (Kd.R_reads' HO110.out).2.1); rintro e w38 ⟨v112, rfl, ho0, hb⟩; refine ⟨_, rfl, ?_⟩; have n0_ := Aside0.mk (Kd.R_elder' (by (with_reducible repeat (first | apply Kd.R_alloc | apply Kd.R_drewN | apply Kd.R_drew)); exact HO105.out) (Kd.R_base ho0) hb); have n1_ := Aside0.mk (Kd.R_below (by (with_reducible repeat (first | apply Kd.R_alloc | apply Kd.R_drewN | apply Kd.R_drew)); exact HO110.out) hb); have n2_ := Aside0.mk (Kd.R_lower (Kd.R_new' ho0 (Kd.R_lt (by (with_reducible repeat (first | apply Kd.R_alloc | apply Kd.R_drewN | apply Kd.R_drew)); exact HO105.out))) (below_size (by repeat (first | (with_reducible first | exact HB.out | apply below_alloc | apply pw_below_drewN | apply below_drew1 | refine below_set ?_ GE101.out) | exact HB.out)))); have n3_ := Aside0.mk (blk_below (g := gb101) (o := .cells #[.slice A0_0 l0_0.length c0_0, .int .i64 a0_1, .int .i64 a0_2, .slice A0_3 l0_3.length c0_3] 28 (0, 0)) (by (with_reducible repeat (first | refine blk_drewN ?_ _ | refine blk_drew ?_ | refine blk_alloc ?_ _)); exact BK101.out) hb); have n4_ := Aside0.mk (below_step (by repeat (first | (with_reducible first | exact HB.out | apply below_alloc | apply pw_below_drewN | apply below_drew1 | refine below_set ?_ GE101.out) | exact HB.out)) hb); clear HO105; clear HO110; clear BK101; clear HB; have HO105 := n0_; have HO110 := n1_; have HO113 := n2_; have BK101 := n3_; have HB := n4_; clear n0_ n1_ n2_ n3_ n4_; (try clear hb); (try clear hb2); (try clear hk); (try clear hi); (try clear ho0); have hcz39_0 : w38.cell? ⟨gb101, 0, none⟩ = some (.slice A0_0 l0_0.length c0_0) := (blk_cell BK101.out 0).trans rfl; have hcz39_1 : w38.cell? ⟨gb101, 1, none⟩ = some (.int .i64 a0_1) := (blk_cell BK101.out 1).trans rfl; have hcz39_2 : w38.cell? ⟨gb101, 2, none⟩ = some (.int .i64 a0_2) := (blk_cell BK101.out 2).trans rfl; have hcz39_3 : w38.cell? ⟨gb101, 3, none⟩ = some (.slice A0_3 l0_3.length c0_3) := (blk_cell BK101.out 3).trans rfl; have hfz39_0 := blk_frozen BK101.out 0; have hfz39_1 := blk_frozen BK101.out 1; have hfz39_2 := blk_frozen BK101.out 2; have hfz39_3 := blk_frozen BK101.out 3) | ((with_reducible refine gate_callee (f := 15) rfl ?_); refine goesL_ (some 20) rfl rfl Try.func15 (by kernel_rfl) rfl #[.agg #[.slice A0_0 l0_0.length c0_0, .int .i64 a0_1, .int .i64 a0_2, .slice A0_3 l0_3.length c0_3]] rfl (by (try simp only [List.map_toArray, List.map_cons, List.map_nil]); first | done | rfl | (simp only [List.length_drop, List.length_take]; rfl)) ?_; (with_reducible refine (laws_toImage.calls k _ _ l0_0 a0_1 a0_2 _ _ l0_3 t114 t117 t118 t119 _ ?side1 ?side2 ?side3 ?side4 A9.out).mono ?_); (case side1 => repeat (first | exact (Kd.C_below HR0_0.out HB.out) | (with_reducible refine Kd.C_alloc ?_ _) | (with_reducible refine Kd.C_drewN ?_ _) | (with_reducible refine Kd.C_drew ?_))); (case side2 => exact HC0_0.out); (case side3 => repeat (first | exact (Kd.C_below HR0_3.out HB.out) | (with_reducible refine Kd.C_alloc ?_ _) | (with_reducible refine Kd.C_drewN ?_ _) | (with_reducible refine Kd.C_drew ?_))); (case side4 => exact HC0_3.out); rintro e w40 ⟨v115, v120, rfl, ho0, ho1, hb⟩; refine ⟨_, rfl, ?_⟩; have n0_ := Aside0.mk (Kd.R_elder' (by (with_reducible repeat (first | apply Kd.R_alloc | apply Kd.R_drewN | apply Kd.R_drew)); exact HO105.out) (Kd.R_base ho0) hb); have n1_ := Aside0.mk (Kd.R_elder' (by (with_reducible repeat (first | apply Kd.R_alloc | apply Kd.R_drewN | apply Kd.R_drew)); exact HO110.out) (Kd.R_base ho1) hb); have n2_ := Aside0.mk (Kd.R_elder' (by (with_reducible repeat (first | apply Kd.R_alloc | apply Kd.R_drewN | apply Kd.R_drew)); exact HO113.out) (Kd.R_base ho0) hb); have n3_ := Aside0.mk (Kd.R_lower (Kd.R_new' (Kd.R_new' ho0 (Kd.R_lt (by (with_reducible repeat (first | apply Kd.R_alloc | apply Kd.R_drewN | apply Kd.R_drew)); exact HO105.out))) (Kd.R_lt (by (with_reducible repeat (first | apply Kd.R_alloc | apply Kd.R_drewN | apply Kd.R_drew)); exact HO113.out))) (below_size (by repeat (first | (with_reducible first | exact HB.out | apply below_alloc | apply pw_below_drewN | apply below_drew1 | refine below_set ?_ GE101.out) | exact HB.out)))); have n4_ := Aside0.mk (Kd.R_lower (Kd.R_new' ho1 (Kd.R_lt (by (with_reducible repeat (first | apply Kd.R_alloc | apply Kd.R_drewN | apply Kd.R_drew)); exact HO110.out))) (below_size (by repeat (first | (with_reducible first | exact HB.out | apply below_alloc | apply pw_below_drewN | apply below_drew1 | refine below_set ?_ GE101.out) | exact HB.out)))); have n5_ := Aside0.mk (blk_below (g := gb101) (o := .cells #[.slice A0_0 l0_0.length c0_0, .int .i64 a0_1, .int .i64 a0_2, .slice A0_3 l0_3.length c0_3] 28 (0, 0)) (by (with_reducible repeat (first | refine blk_drewN ?_ _ | refine blk_drew ?_ | refine blk_alloc ?_ _)); exact BK101.out) hb); have n6_ := Aside0.mk (below_step (by repeat (first | (with_reducible first | exact HB.out | apply below_alloc | apply pw_below_drewN | apply below_drew1 | refine below_set ?_ GE101.out) | exact HB.out)) hb); clear HO105; clear HO110; clear HO113; clear BK101; clear HB; have HO105 := n0_; have HO110 := n1_; have HO113 := n2_; have HO116 := n3_; have HO121 := n4_; have BK101 := n5_; have HB := n6_; clear n0_ n1_ n2_ n3_ n4_ n5_ n6_; (try clear hb); (try clear hb2); (try clear hk); (try clear hi); (try clear ho0); (try clear ho1)) | ((with_reducible refine gate_dst (N := 5) rfl ?_); refine box_event ?hg (N := 5) ?hd (cs := #[.slice none 0 0, .int .i64 0, .int .i64 0, .slice none 0 0]) (t := 33) ?hr ?_; (case hd => rfl); (case hg => rfl); (case hr => first | (go_simp; done) | (go_simp; rfl)); intro gb122 hg w41 hbox hb; have n0_ := Aside0.mk (Kd.R_below (by (with_reducible repeat (first | apply Kd.R_alloc | apply Kd.R_drewN | apply Kd.R_drew)); exact HO105.out) hb); have n1_ := Aside0.mk (Kd.R_below (by (with_reducible repeat (first | apply Kd.R_alloc | apply Kd.R_drewN | apply Kd.R_drew)); exact HO110.out) hb); have n2_ := Aside0.mk (Kd.R_below (by (with_reducible repeat (first | apply Kd.R_alloc | apply Kd.R_drewN | apply Kd.R_drew)); exact HO113.out) hb); have n3_ := Aside0.mk (Kd.R_below (by (with_reducible repeat (first | apply Kd.R_alloc | apply Kd.R_drewN | apply Kd.R_drew)); exact HO116.out) hb); have n4_ := Aside0.mk (Kd.R_below (by (with_reducible repeat (first | apply Kd.R_alloc | apply Kd.R_drewN | apply Kd.R_drew)); exact HO121.out) hb); have n5_ := Aside0.mk (blk_below (g := gb101) (o := .cells #[.slice A0_0 l0_0.length c0_0, .int .i64 a0_1, .int .i64 a0_2, .slice A0_3 l0_3.length c0_3] 28 (0, 0)) (by (with_reducible repeat (first | refine blk_drewN ?_ _ | refine blk_drew ?_ | refine blk_alloc ?_ _)); exact BK101.out) hb); have n6_ := Aside0.mk (below_step (by repeat (first | (with_reducible first | exact HB.out | apply below_alloc | apply pw_below_drewN | apply below_drew1 | refine below_set ?_ GE101.out) | exact HB.out)) hb); have n7_ := Aside0.mk (hbox); have n8_ := Aside0.mk ((by rw [hg]; exact (below_size (by repeat (first | (with_reducible first | exact HB.out | apply below_alloc | apply pw_below_drewN | apply below_drew1 | refine below_set ?_ GE101.out) | exact HB.out))) : w.heap.size ≤ gb122)); have n9_ := Aside0.mk ((by rw [hg]; exact (below_size (by repeat (first | (with_reducible first | exact HB.out | apply below_alloc | apply pw_below_drewN | apply below_drew1 | refine below_set ?_ GE101.out) | exact HB.out))) : w.heap.size ≤ gb122)); have n10_ := Aside0.mk ((by rw [hg]; exact Nat.ne_of_lt (blk_lt (g := gb101) (o := .cells #[.slice A0_0 l0_0.length c0_0, .int .i64 a0_1, .int .i64 a0_2, .slice A0_3 l0_3.length c0_3] 28 (0, 0)) (by (with_reducible repeat (first | refine blk_drewN ?_ _ | refine blk_drew ?_ | refine blk_alloc ?_ _)); exact BK101.out)) : gb101 ≠ gb122)); have n11_ := Aside0.mk ((by rw [hg]; exact Nat.ne_of_gt (blk_lt (g := gb101) (o := .cells #[.slice A0_0 l0_0.length c0_0, .int .i64 a0_1, .int .i64 a0_2, .slice A0_3 l0_3.length c0_3] 28 (0, 0)) (by (with_reducible repeat (first | refine blk_drewN ?_ _ | refine blk_drew ?_ | refine blk_alloc ?_ _)); exact BK101.out)) : gb122 ≠ gb101)); clear HO105; clear HO110; clear HO113; clear HO116; clear HO121; clear BK101; clear HB; have HO105 := n0_; have HO110 := n1_; have HO113 := n2_; have HO116 := n3_; have HO121 := n4_; have BK101 := n5_; have HB := n6_; have BK122 := n7_; have GW122 := n8_; have GE122 := n9_; have NB101_122 := n10_; have NB122_101 := n11_; clear n0_ n1_ n2_ n3_ n4_ n5_ n6_ n7_ n8_ n9_ n10_ n11_; clear hb hbox hg; obtain ⟨Ao42, co42, eo42⟩ := Kd.R_slice HO116.out; subst eo42; have hnb43 := NB122_101.out; have hnc43 := NB101_122.out; have hcz44_0 : w41.cell? ⟨gb122, 0, none⟩ = some (.slice none 0 0) := (blk_cell BK122.out 0).trans rfl; have hcz44_1 : w41.cell? ⟨gb122, 1, none⟩ = some (.int .i64 0) := (blk_cell BK122.out 1).trans rfl; have hcz44_2 : w41.cell? ⟨gb122, 2, none⟩ = some (.int .i64 0) := (blk_cell BK122.out 2).trans rfl; have hcz44_3 : w41.cell? ⟨gb122, 3, none⟩ = some (.slice none 0 0) := (blk_cell BK122.out 3).trans rfl; have hfz44_0 := blk_frozen BK122.out 0; have hfz44_1 := blk_frozen BK122.out 1; have hfz44_2 := blk_frozen BK122.out 2; have hfz44_3 := blk_frozen BK122.out 3; obtain ⟨Ao45, co45, eo45⟩ := Kd.R_slice HO121.out; subst eo45) | ((with_reducible refine gate_callee (f := 30) rfl ?_); refine goesL_ (some 22) rfl rfl Try.func30 (by kernel_rfl) rfl #[.agg #[.slice Ao42 t114.length co42, .int .i64 t117, .int .i64 t118, .slice Ao45 t119.length co45]] rfl (by (try simp only [List.map_toArray, List.map_cons, List.map_nil]); first | done | rfl | (simp only [List.length_drop, List.length_take]; rfl)) ?_; (with_reducible refine (impl_Dead.calls k _ _ t114 t117 t118 _ _ t119 t123 _ ?side1 ?side2 ?side3 ?side4 A10.out).mono ?_); (case side1 => refine (Kd.R_reads' (e := 3) (base := w.heap.size) (ok := fun k_ => ((True ∧ some k_ ≠ (.slice Ao36 t103.length co36 : Value).ownBlock) ∧ some k_ ≠ (v112 : Value).ownBlock)) (n := t114.length) (c := co42) ?_).2.2; exact (by (with_reducible repeat (first | apply Kd.R_alloc | apply Kd.R_drewN | apply Kd.R_drew)); exact (Kd.R_mono (Kd.R_far (p := ⟨gb122, 3, none⟩) (Kd.R_far (p := ⟨gb122, 2, none⟩) (Kd.R_far (p := ⟨gb122, 1, none⟩) (Kd.R_far (p := ⟨gb122, 0, none⟩) (Kd.R_types HO116.out BK122.out (by decide)) (fun _ hk => hk.2) (.slice Ao42 t114.length co42)) (fun _ hk => hk.2) (.int .i64 t117)) (fun _ hk => hk.2) (.int .i64 t118)) (fun _ hk => hk.2) (.slice Ao45 t119.length co45)) (fun _ h_ => h_.1)))); (case side2 => exact (Kd.R_reads' HO116.out).2.1); (case side3 => refine (Kd.R_reads' (e := 59) (base := w.heap.size) (ok := fun k_ => (True ∧ some k_ ≠ (.slice Ao37 t108.length co37 : Value).ownBlock)) (n := t119.length) (c := co45) ?_).2.2; exact (by (with_reducible repeat (first | apply Kd.R_alloc | apply Kd.R_drewN | apply Kd.R_drew)); exact (Kd.R_mono (Kd.R_far (p := ⟨gb122, 3, none⟩) (Kd.R_far (p := ⟨gb122, 2, none⟩) (Kd.R_far (p := ⟨gb122, 1, none⟩) (Kd.R_far (p := ⟨gb122, 0, none⟩) (Kd.R_types HO121.out BK122.out (by decide)) (fun _ hk => hk.2) (.slice Ao42 t114.length co42)) (fun _ hk => hk.2) (.int .i64 t117)) (fun _ hk => hk.2) (.int .i64 t118)) (fun _ hk => hk.2) (.slice Ao45 t119.length co45)) (fun _ h_ => h_.1)))); (case side4 => exact (Kd.R_reads' HO121.out).2.1); rintro e w46 ⟨v124, rfl, ho0, hb⟩; refine ⟨_, rfl, ?_⟩; have n0_ := Aside0.mk (Kd.R_elder' (by (with_reducible repeat (first | apply Kd.R_alloc | apply Kd.R_drewN | apply Kd.R_drew)); exact (Kd.R_mono (Kd.R_far (p := ⟨gb122, 3, none⟩) (Kd.R_far (p := ⟨gb122, 2, none⟩) (Kd.R_far (p := ⟨gb122, 1, none⟩) (Kd.R_far (p := ⟨gb122, 0, none⟩) (Kd.R_types HO105.out BK122.out (by decide)) (fun _ hk => hk.2) (.slice Ao42 t114.length co42)) (fun _ hk => hk.2) (.int .i64 t117)) (fun _ hk => hk.2) (.int .i64 t118)) (fun _ hk => hk.2) (.slice Ao45 t119.length co45)) (fun _ h_ => h_.1))) (Kd.R_base ho0) hb); have n1_ := Aside0.mk (Kd.R_below (by (with_reducible repeat (first | apply Kd.R_alloc | apply Kd.R_drewN | apply Kd.R_drew)); exact (Kd.R_mono (Kd.R_far (p := ⟨gb122, 3, none⟩) (Kd.R_far (p := ⟨gb122, 2, none⟩) (Kd.R_far (p := ⟨gb122, 1, none⟩) (Kd.R_far (p := ⟨gb122, 0, none⟩) (Kd.R_types HO110.out BK122.out (by decide)) (fun _ hk => hk.2) (.slice Ao42 t114.length co42)) (fun _ hk => hk.2) (.int .i64 t117)) (fun _ hk => hk.2) (.int .i64 t118)) (fun _ hk => hk.2) (.slice Ao45 t119.length co45)) (fun _ h_ => h_.1))) hb); have n2_ := Aside0.mk (Kd.R_elder' (by (with_reducible repeat (first | apply Kd.R_alloc | apply Kd.R_drewN | apply Kd.R_drew)); exact (Kd.R_mono (Kd.R_far (p := ⟨gb122, 3, none⟩) (Kd.R_far (p := ⟨gb122, 2, none⟩) (Kd.R_far (p := ⟨gb122, 1, none⟩) (Kd.R_far (p := ⟨gb122, 0, none⟩) (Kd.R_types HO113.out BK122.out (by decide)) (fun _ hk => hk.2) (.slice Ao42 t114.length co42)) (fun _ hk => hk.2) (.int .i64 t117)) (fun _ hk => hk.2) (.int .i64 t118)) (fun _ hk => hk.2) (.slice Ao45 t119.length co45)) (fun _ h_ => h_.1))) (Kd.R_base ho0) hb); have n3_ := Aside0.mk (Kd.R_elder' (by (with_reducible repeat (first | apply Kd.R_alloc | apply Kd.R_drewN | apply Kd.R_drew)); exact (Kd.R_mono (Kd.R_far (p := ⟨gb122, 3, none⟩) (Kd.R_far (p := ⟨gb122, 2, none⟩) (Kd.R_far (p := ⟨gb122, 1, none⟩) (Kd.R_far (p := ⟨gb122, 0, none⟩) (Kd.R_types HO116.out BK122.out (by decide)) (fun _ hk => hk.2) (.slice Ao42 t114.length co42)) (fun _ hk => hk.2) (.int .i64 t117)) (fun _ hk => hk.2) (.int .i64 t118)) (fun _ hk => hk.2) (.slice Ao45 t119.length co45)) (fun _ h_ => h_.1))) (Kd.R_base ho0) hb); have n4_ := Aside0.mk (Kd.R_below (by (with_reducible repeat (first | apply Kd.R_alloc | apply Kd.R_drewN | apply Kd.R_drew)); exact (Kd.R_mono (Kd.R_far (p := ⟨gb122, 3, none⟩) (Kd.R_far (p := ⟨gb122, 2, none⟩) (Kd.R_far (p := ⟨gb122, 1, none⟩) (Kd.R_far (p := ⟨gb122, 0, none⟩) (Kd.R_types HO121.out BK122.out (by decide)) (fun _ hk => hk.2) (.slice Ao42 t114.length co42)) (fun _ hk => hk.2) (.int .i64 t117)) (fun _ hk => hk.2) (.int .i64 t118)) (fun _ hk => hk.2) (.slice Ao45 t119.length co45)) (fun _ h_ => h_.1))) hb); have n5_ := Aside0.mk (Kd.R_lower (Kd.R_new' (Kd.R_new' (Kd.R_new' ho0 (Kd.R_lt (by (with_reducible repeat (first | apply Kd.R_alloc | apply Kd.R_drewN | apply Kd.R_drew)); exact (Kd.R_mono (Kd.R_far (p := ⟨gb122, 3, none⟩) (Kd.R_far (p := ⟨gb122, 2, none⟩) (Kd.R_far (p := ⟨gb122, 1, none⟩) (Kd.R_far (p := ⟨gb122, 0, none⟩) (Kd.R_types HO105.out BK122.out (by decide)) (fun _ hk => hk.2) (.slice Ao42 t114.length co42)) (fun _ hk => hk.2) (.int .i64 t117)) (fun _ hk => hk.2) (.int .i64 t118)) (fun _ hk => hk.2) (.slice Ao45 t119.length co45)) (fun _ h_ => h_.1))))) (Kd.R_lt (by (with_reducible repeat (first | apply Kd.R_alloc | apply Kd.R_drewN | apply Kd.R_drew)); exact (Kd.R_mono (Kd.R_far (p := ⟨gb122, 3, none⟩) (Kd.R_far (p := ⟨gb122, 2, none⟩) (Kd.R_far (p := ⟨gb122, 1, none⟩) (Kd.R_far (p := ⟨gb122, 0, none⟩) (Kd.R_types HO113.out BK122.out (by decide)) (fun _ hk => hk.2) (.slice Ao42 t114.length co42)) (fun _ hk => hk.2) (.int .i64 t117)) (fun _ hk => hk.2) (.int .i64 t118)) (fun _ hk => hk.2) (.slice Ao45 t119.length co45)) (fun _ h_ => h_.1))))) (Kd.R_lt (by (with_reducible repeat (first | apply Kd.R_alloc | apply Kd.R_drewN | apply Kd.R_drew)); exact (Kd.R_mono (Kd.R_far (p := ⟨gb122, 3, none⟩) (Kd.R_far (p := ⟨gb122, 2, none⟩) (Kd.R_far (p := ⟨gb122, 1, none⟩) (Kd.R_far (p := ⟨gb122, 0, none⟩) (Kd.R_types HO116.out BK122.out (by decide)) (fun _ hk => hk.2) (.slice Ao42 t114.length co42)) (fun _ hk => hk.2) (.int .i64 t117)) (fun _ hk => hk.2) (.int .i64 t118)) (fun _ hk => hk.2) (.slice Ao45 t119.length co45)) (fun _ h_ => h_.1))))) (below_size (by repeat (first | (with_reducible first | exact HB.out | apply below_alloc | apply pw_below_drewN | apply below_drew1 | refine below_set ?_ GE101.out | refine below_set ?_ GE122.out) | exact HB.out)))); have n6_ := Aside0.mk (blk_below (g := gb101) (o := .cells #[.slice A0_0 l0_0.length c0_0, .int .i64 a0_1, .int .i64 a0_2, .slice A0_3 l0_3.length c0_3] 28 (0, 0)) (by (with_reducible repeat (first | refine blk_drewN ?_ _ | refine blk_drew ?_ | refine blk_alloc ?_ _)); refine blk_far ?_ NB101_122.out _; (with_reducible repeat (first | refine blk_drewN ?_ _ | refine blk_drew ?_ | refine blk_alloc ?_ _)); refine blk_far ?_ NB101_122.out _; (with_reducible repeat (first | refine blk_drewN ?_ _ | refine blk_drew ?_ | refine blk_alloc ?_ _)); refine blk_far ?_ NB101_122.out _; (with_reducible repeat (first | refine blk_drewN ?_ _ | refine blk_drew ?_ | refine blk_alloc ?_ _)); refine blk_far ?_ NB101_122.out _; (with_reducible repeat (first | refine blk_drewN ?_ _ | refine blk_drew ?_ | refine blk_alloc ?_ _)); exact BK101.out) hb); have n7_ := Aside0.mk (blk_below (g := gb122) (o := .cells #[.slice Ao42 t114.length co42, .int .i64 t117, .int .i64 t118, .slice Ao45 t119.length co45] 33 (0, 0)) (by (with_reducible repeat (first | refine blk_drewN ?_ _ | refine blk_drew ?_ | refine blk_alloc ?_ _)); refine blk_put (cs := #[.slice Ao42 t114.length co42, .int .i64 t117, .int .i64 t118, .slice none 0 0]) ?_ 3 _ rfl; (with_reducible repeat (first | refine blk_drewN ?_ _ | refine blk_drew ?_ | refine blk_alloc ?_ _)); refine blk_put (cs := #[.slice Ao42 t114.length co42, .int .i64 t117, .int .i64 0, .slice none 0 0]) ?_ 2 _ rfl; (with_reducible repeat (first | refine blk_drewN ?_ _ | refine blk_drew ?_ | refine blk_alloc ?_ _)); refine blk_put (cs := #[.slice Ao42 t114.length co42, .int .i64 0, .int .i64 0, .slice none 0 0]) ?_ 1 _ rfl; (with_reducible repeat (first | refine blk_drewN ?_ _ | refine blk_drew ?_ | refine blk_alloc ?_ _)); refine blk_put (cs := #[.slice none 0 0, .int .i64 0, .int .i64 0, .slice none 0 0]) ?_ 0 _ rfl; (with_reducible repeat (first | refine blk_drewN ?_ _ | refine blk_drew ?_ | refine blk_alloc ?_ _)); exact BK122.out) hb); have n8_ := Aside0.mk (below_step (by repeat (first | (with_reducible first | exact HB.out | apply below_alloc | apply pw_below_drewN | apply below_drew1 | refine below_set ?_ GE101.out | refine below_set ?_ GE122.out) | exact HB.out)) hb); clear HO105; clear HO110; clear HO113; clear HO116; clear HO121; clear BK101; clear BK122; clear HB; have HO105 := n0_; have HO110 := n1_; have HO113 := n2_; have HO116 := n3_; have HO121 := n4_; have HO125 := n5_; have BK101 := n6_; have BK122 := n7_; have HB := n8_; clear n0_ n1_ n2_ n3_ n4_ n5_ n6_ n7_ n8_; (try clear hb); (try clear hb2); (try clear hk); (try clear hi); (try clear ho0); obtain ⟨Ao47, co47, eo47⟩ := Kd.R_slice HO125.out; subst eo47; obtain ⟨Ao48, co48, eo48⟩ := Kd.R_slice HO113.out; subst eo48) | ((with_reducible refine gate_callee (f := 31) rfl ?_); refine goesL_ (some 25) rfl rfl Try.func31 (by kernel_rfl) rfl #[.slice Ao47 t123.length co47, .slice Ao48 t111.length co48] rfl (by (try simp only [List.map_toArray, List.map_cons, List.map_nil]); first | done | rfl | (simp only [List.length_drop, List.length_take]; rfl)) ?_; (with_reducible refine (laws_eqIntS.calls k _ _ t123 _ _ t111 true _ ?side1 ?side2 ?side3 ?side4 A11.out).mono ?_); (case side1 => repeat (first | exact (Kd.R_reads' HO125.out).2.2 | (with_reducible refine Kd.C_alloc ?_ _) | (with_reducible refine Kd.C_drewN ?_ _) | (with_reducible refine Kd.C_drew ?_))); (case side2 => exact (Kd.R_reads' HO125.out).2.1); (case side3 => repeat (first | exact (Kd.R_reads' HO113.out).2.2 | (with_reducible refine Kd.C_alloc ?_ _) | (with_reducible refine Kd.C_drewN ?_ _) | (with_reducible refine Kd.C_drew ?_))); (case side4 => exact (Kd.R_reads' HO113.out).2.1); rintro e w' ⟨rfl, ⟨nd, rfl⟩⟩; refine ⟨_, rfl, ?_⟩))
                      (try (rw [drewN_self w46]; generalize hq_ : World.drewN w46 _ = w46; have n0_ : Aside0 (Kd.R (Kd.int .i64) 3 w46 w.heap.size (fun k_ => (((True ∧ some k_ ≠ (.slice Ao48 t111.length co48 : Value).ownBlock) ∧ some k_ ≠ (.slice Ao42 t114.length co42 : Value).ownBlock) ∧ some k_ ≠ (.slice Ao47 t123.length co47 : Value).ownBlock)) (.slice Ao36 t103.length co36) t103) := ⟨by rw [← hq_]; exact (by (with_reducible repeat (first | apply Kd.R_alloc | apply Kd.R_drewN | apply Kd.R_drew)); exact HO105.out)⟩; have n1_ : Aside0 (Kd.R k59 59 w46 w.heap.size (fun k_ => (True ∧ some k_ ≠ (.slice Ao45 t119.length co45 : Value).ownBlock)) (.slice Ao37 t108.length co37) t108) := ⟨by rw [← hq_]; exact (by (with_reducible repeat (first | apply Kd.R_alloc | apply Kd.R_drewN | apply Kd.R_drew)); exact HO110.out)⟩; have n2_ : Aside0 (Kd.R (Kd.int .i64) 3 w46 w.heap.size (fun k_ => (((True ∧ some k_ ≠ (.slice Ao36 t103.length co36 : Value).ownBlock) ∧ some k_ ≠ (.slice Ao42 t114.length co42 : Value).ownBlock) ∧ some k_ ≠ (.slice Ao47 t123.length co47 : Value).ownBlock)) (.slice Ao48 t111.length co48) t111) := ⟨by rw [← hq_]; exact (by (with_reducible repeat (first | apply Kd.R_alloc | apply Kd.R_drewN | apply Kd.R_drew)); exact HO113.out)⟩; have n3_ : Aside0 (Kd.R (Kd.int .i64) 3 w46 w.heap.size (fun k_ => (((True ∧ some k_ ≠ (.slice Ao36 t103.length co36 : Value).ownBlock) ∧ some k_ ≠ (.slice Ao48 t111.length co48 : Value).ownBlock) ∧ some k_ ≠ (.slice Ao47 t123.length co47 : Value).ownBlock)) (.slice Ao42 t114.length co42) t114) := ⟨by rw [← hq_]; exact (by (with_reducible repeat (first | apply Kd.R_alloc | apply Kd.R_drewN | apply Kd.R_drew)); exact HO116.out)⟩; have n4_ : Aside0 (Kd.R k59 59 w46 w.heap.size (fun k_ => (True ∧ some k_ ≠ (.slice Ao37 t108.length co37 : Value).ownBlock)) (.slice Ao45 t119.length co45) t119) := ⟨by rw [← hq_]; exact (by (with_reducible repeat (first | apply Kd.R_alloc | apply Kd.R_drewN | apply Kd.R_drew)); exact HO121.out)⟩; have n5_ : Aside0 (Kd.R (Kd.int .i64) 3 w46 w.heap.size (fun k_ => (((True ∧ some k_ ≠ (.slice Ao36 t103.length co36 : Value).ownBlock) ∧ some k_ ≠ (.slice Ao48 t111.length co48 : Value).ownBlock) ∧ some k_ ≠ (.slice Ao42 t114.length co42 : Value).ownBlock)) (.slice Ao47 t123.length co47) t123) := ⟨by rw [← hq_]; exact (by (with_reducible repeat (first | apply Kd.R_alloc | apply Kd.R_drewN | apply Kd.R_drew)); exact HO125.out)⟩; have n6_ : Aside0 (w46.heap[gb101]? = some (.cells #[.slice A0_0 l0_0.length c0_0, .int .i64 a0_1, .int .i64 a0_2, .slice A0_3 l0_3.length c0_3] 28 (0, 0))) := ⟨by rw [← hq_]; exact (by (with_reducible repeat (first | refine blk_drewN ?_ _ | refine blk_drew ?_ | refine blk_alloc ?_ _)); exact BK101.out)⟩; have n7_ : Aside0 (w46.heap[gb122]? = some (.cells #[.slice Ao42 t114.length co42, .int .i64 t117, .int .i64 t118, .slice Ao45 t119.length co45] 33 (0, 0))) := ⟨by rw [← hq_]; exact (by (with_reducible repeat (first | refine blk_drewN ?_ _ | refine blk_drew ?_ | refine blk_alloc ?_ _)); exact BK122.out)⟩; have n8_ : Aside0 (Below w.heap.size w w46) := ⟨by rw [← hq_]; exact (by repeat (first | (with_reducible first | exact HB.out | apply below_alloc | apply pw_below_drewN | apply below_drew1 | refine below_set ?_ GE101.out | refine below_set ?_ GE122.out) | exact HB.out))⟩; clear HO105 HO110 HO113 HO116 HO121 HO125 BK101 BK122 HB hq_; have HO105 := n0_; have HO110 := n1_; have HO113 := n2_; have HO116 := n3_; have HO121 := n4_; have HO125 := n5_; have BK101 := n6_; have BK122 := n7_; have HB := n8_; clear n0_ n1_ n2_ n3_ n4_ n5_ n6_ n7_ n8_))
                      have n0_ := Aside0.mk (Kd.R_drew HO105.out)
                      have n1_ := Aside0.mk (Kd.R_drew HO110.out)
                      have n2_ := Aside0.mk (Kd.R_drew HO113.out)
                      have n3_ := Aside0.mk (Kd.R_drew HO116.out)
                      have n4_ := Aside0.mk (Kd.R_drew HO121.out)
                      have n5_ := Aside0.mk (Kd.R_drew HO125.out)
                      have n6_ := Aside0.mk (blk_drew BK101.out)
                      have n7_ := Aside0.mk (blk_drew BK122.out)
                      have n8_ := Aside0.mk (below_drew1 HB.out)
                      clear HO105
                      clear HO110
                      clear HO113
                      clear HO116
                      clear HO121
                      clear HO125
                      clear BK101
                      clear BK122
                      clear HB
                      have HO105 := n0_
                      have HO110 := n1_
                      have HO113 := n2_
                      have HO116 := n3_
                      have HO121 := n4_
                      have HO125 := n5_
                      have BK101 := n6_
                      have BK122 := n7_
                      have HB := n8_
                      clear n0_ n1_ n2_ n3_ n4_ n5_ n6_ n7_ n8_
                      refine start_ (n := 5) (S := fun w' => w'.cell? ⟨gb122, 0, none⟩ = some (.slice Ao42 t114.length co42) ∧ w'.cell? ⟨gb122, 1, none⟩ = some (.int .i64 t117) ∧ w'.cell? ⟨gb122, 2, none⟩ = some (.int .i64 t118) ∧ w'.cell? ⟨gb122, 3, none⟩ = some (.slice Ao45 t119.length co45) ∧ w'.cell? ⟨gb101, 0, none⟩ = some (.slice A0_0 l0_0.length c0_0) ∧ w'.cell? ⟨gb101, 1, none⟩ = some (.int .i64 a0_1) ∧ w'.cell? ⟨gb101, 2, none⟩ = some (.int .i64 a0_2) ∧ w'.cell? ⟨gb101, 3, none⟩ = some (.slice A0_3 l0_3.length c0_3)) (ds := []) #[false, false, false, false, false] (by kernel_rfl) rfl rfl ⟨(blk_cell BK122.out 0).trans rfl, (blk_cell BK122.out 1).trans rfl, (blk_cell BK122.out 2).trans rfl, (blk_cell BK122.out 3).trans rfl, (blk_cell BK101.out 0).trans rfl, (blk_cell BK101.out 1).trans rfl, (blk_cell BK101.out 2).trans rfl, (blk_cell BK101.out 3).trans rfl⟩ (fun hHeld => ?_)
                      generalize w46.drew = w49 at HO105 HO110 HO113 HO116 HO121 HO125 BK101 BK122 HB hHeld ⊢
                      refine take_ (i := 0) (N := some 27) (v := ?_) (a' := ?_) #[true, false, false, false, false] rfl rfl (by kernel_rfl) (fun _ _ _ h => h) (Or.inl ⟨by rfl, ?_⟩) hHeld ?_ ?_
                      rotate_left
                      · rintro w' ⟨s0, s1, s2, s3, s4, s5, s6, s7⟩
                        go_simp
                        with_reducible rfl
                      rotate_left
                      · simp only [Act.put, List.setIfInBounds_toArray, List.set_cons_zero, List.set_cons_succ, i64_w, i32_w]
                        rfl
                      refine take_ (i := 1) (N := some 28) (v := ?_) (a' := ?_) #[true, true, false, false, false] rfl rfl (by kernel_rfl) (fun _ _ _ h => h) (Or.inl ⟨by rfl, ?_⟩) hHeld ?_ ?_
                      rotate_left
                      · rintro w' ⟨s0, s1, s2, s3, s4, s5, s6, s7⟩
                        go_simp
                        with_reducible rfl
                      rotate_left
                      · simp only [Act.put, List.setIfInBounds_toArray, List.set_cons_zero, List.set_cons_succ, i64_w, i32_w]
                        rfl
                      refine one_ (i := 2) (N := some 29) #[true, true, true, false, false] rfl rfl (by kernel_rfl) (by decide) (fun K hK => ?_)
                      refine goes_ Try.func15 (by kernel_rfl) rfl #[.agg #[.slice A0_0 l0_0.length c0_0, .int .i64 a0_1, .int .i64 a0_2, .slice A0_3 l0_3.length c0_3]] (by rfl) rfl rfl (by (try simp only [List.map_toArray, List.map_cons, List.map_nil]); first | done | rfl | (simp only [List.length_drop, List.length_take]; rfl)) ?_
                      with_reducible refine (laws_toImage.calls k _ _ l0_0 a0_1 a0_2 _ _ l0_3 t127 t130 t131 t132 _ ?side1 ?side2 ?side3 ?side4 A13.out).mono ?_
                      (case side1 => repeat (first | exact (Kd.C_below HR0_0.out HB.out) | (with_reducible refine Kd.C_alloc ?_ _) | (with_reducible refine Kd.C_drewN ?_ _) | (with_reducible refine Kd.C_drew ?_)))
                      (case side2 => exact HC0_0.out)
                      (case side3 => repeat (first | exact (Kd.C_below HR0_3.out HB.out) | (with_reducible refine Kd.C_alloc ?_ _) | (with_reducible refine Kd.C_drewN ?_ _) | (with_reducible refine Kd.C_drew ?_)))
                      (case side4 => exact HC0_3.out)
                      rintro e w50 ⟨v128, v133, rfl, ho0, ho1, hb⟩
                      refine ⟨_, rfl, ?_⟩
                      have n0_ := Aside0.mk (Kd.R_elder' (by (with_reducible repeat (first | apply Kd.R_alloc | apply Kd.R_drewN | apply Kd.R_drew)); exact HO105.out) (Kd.R_base ho0) hb)
                      have n1_ := Aside0.mk (Kd.R_elder' (by (with_reducible repeat (first | apply Kd.R_alloc | apply Kd.R_drewN | apply Kd.R_drew)); exact HO110.out) (Kd.R_base ho1) hb)
                      have n2_ := Aside0.mk (Kd.R_elder' (by (with_reducible repeat (first | apply Kd.R_alloc | apply Kd.R_drewN | apply Kd.R_drew)); exact HO113.out) (Kd.R_base ho0) hb)
                      have n3_ := Aside0.mk (Kd.R_elder' (by (with_reducible repeat (first | apply Kd.R_alloc | apply Kd.R_drewN | apply Kd.R_drew)); exact HO116.out) (Kd.R_base ho0) hb)
                      have n4_ := Aside0.mk (Kd.R_elder' (by (with_reducible repeat (first | apply Kd.R_alloc | apply Kd.R_drewN | apply Kd.R_drew)); exact HO121.out) (Kd.R_base ho1) hb)
                      have n5_ := Aside0.mk (Kd.R_elder' (by (with_reducible repeat (first | apply Kd.R_alloc | apply Kd.R_drewN | apply Kd.R_drew)); exact HO125.out) (Kd.R_base ho0) hb)
                      have n6_ := Aside0.mk (Kd.R_lower (Kd.R_new' (Kd.R_new' (Kd.R_new' (Kd.R_new' ho0 (Kd.R_lt (by (with_reducible repeat (first | apply Kd.R_alloc | apply Kd.R_drewN | apply Kd.R_drew)); exact HO105.out))) (Kd.R_lt (by (with_reducible repeat (first | apply Kd.R_alloc | apply Kd.R_drewN | apply Kd.R_drew)); exact HO113.out))) (Kd.R_lt (by (with_reducible repeat (first | apply Kd.R_alloc | apply Kd.R_drewN | apply Kd.R_drew)); exact HO116.out))) (Kd.R_lt (by (with_reducible repeat (first | apply Kd.R_alloc | apply Kd.R_drewN | apply Kd.R_drew)); exact HO125.out))) (below_size (by repeat (first | (with_reducible first | exact HB.out | apply below_alloc | apply pw_below_drewN | apply below_drew1 | refine below_set ?_ GE101.out | refine below_set ?_ GE122.out) | exact HB.out))))
                      have n7_ := Aside0.mk (Kd.R_lower (Kd.R_new' (Kd.R_new' ho1 (Kd.R_lt (by (with_reducible repeat (first | apply Kd.R_alloc | apply Kd.R_drewN | apply Kd.R_drew)); exact HO110.out))) (Kd.R_lt (by (with_reducible repeat (first | apply Kd.R_alloc | apply Kd.R_drewN | apply Kd.R_drew)); exact HO121.out))) (below_size (by repeat (first | (with_reducible first | exact HB.out | apply below_alloc | apply pw_below_drewN | apply below_drew1 | refine below_set ?_ GE101.out | refine below_set ?_ GE122.out) | exact HB.out))))
                      have n8_ := Aside0.mk (blk_below (g := gb101) (o := .cells #[.slice A0_0 l0_0.length c0_0, .int .i64 a0_1, .int .i64 a0_2, .slice A0_3 l0_3.length c0_3] 28 (0, 0)) (by (with_reducible repeat (first | refine blk_drewN ?_ _ | refine blk_drew ?_ | refine blk_alloc ?_ _)); exact BK101.out) hb)
                      have n9_ := Aside0.mk (blk_below (g := gb122) (o := .cells #[.slice Ao42 t114.length co42, .int .i64 t117, .int .i64 t118, .slice Ao45 t119.length co45] 33 (0, 0)) (by (with_reducible repeat (first | refine blk_drewN ?_ _ | refine blk_drew ?_ | refine blk_alloc ?_ _)); exact BK122.out) hb)
                      have n10_ := Aside0.mk (below_step (by repeat (first | (with_reducible first | exact HB.out | apply below_alloc | apply pw_below_drewN | apply below_drew1 | refine below_set ?_ GE101.out | refine below_set ?_ GE122.out) | exact HB.out)) hb)
                      clear HO105
                      clear HO110
                      clear HO113
                      clear HO116
                      clear HO121
                      clear HO125
                      clear BK101
                      clear BK122
                      clear HB
                      have HO105 := n0_
                      have HO110 := n1_
                      have HO113 := n2_
                      have HO116 := n3_
                      have HO121 := n4_
                      have HO125 := n5_
                      have HO129 := n6_
                      have HO134 := n7_
                      have BK101 := n8_
                      have BK122 := n9_
                      have HB := n10_
                      clear n0_ n1_ n2_ n3_ n4_ n5_ n6_ n7_ n8_ n9_ n10_
                      (try clear hb)
                      (try clear hb2)
                      (try clear hk)
                      (try clear hi)
                      (try clear ho0)
                      (try clear ho1)
                      obtain ⟨Ao51, co51, eo51⟩ := Kd.R_slice HO129.out
                      (first | subst eo51 | (injection eo51 with f1_ f2_ f3_; have f4_ := f1_.symm; have f5_ := f3_.symm; clear f1_ f2_ f3_; subst f4_; subst f5_))
                      obtain ⟨Ao52, co52, eo52⟩ := Kd.R_slice HO134.out
                      (first | subst eo52 | (injection eo52 with f1_ f2_ f3_; have f4_ := f1_.symm; have f5_ := f3_.symm; clear f1_ f2_ f3_; subst f4_; subst f5_))
                      refine hK.out _ _ ⟨(blk_cell BK122.out 0).trans rfl, (blk_cell BK122.out 1).trans rfl, (blk_cell BK122.out 2).trans rfl, (blk_cell BK122.out 3).trans rfl, (blk_cell BK101.out 0).trans rfl, (blk_cell BK101.out 1).trans rfl, (blk_cell BK101.out 2).trans rfl, (blk_cell BK101.out 3).trans rfl⟩ (fun hHeld => ?_)
                      clear hK K
                      refine norm_ (a' := ?_) ?_ ?_
                      rotate_left
                      · show Act.put _ (some 29) _ = _
                        simp only [Act.put, List.setIfInBounds_toArray, List.set_cons_zero, List.set_cons_succ, i64_w, i32_w]
                        rfl
                      refine one_ (i := 3) (N := some 30) #[true, true, true, true, false] rfl rfl (by kernel_rfl) (by decide) (fun K hK => ?_)
                      refine goes_ Try.func17 (by kernel_rfl) rfl #[.agg #[.slice Ao42 t114.length co42, .int .i64 t117, .int .i64 t118, .slice Ao45 t119.length co45], .agg #[.slice Ao51 t127.length co51, .int .i64 t130, .int .i64 t131, .slice Ao52 t132.length co52]] (by rfl) rfl rfl (by (try simp only [List.map_toArray, List.map_cons, List.map_nil]); first | done | rfl | (simp only [List.length_drop, List.length_take]; rfl)) ?_
                      with_reducible refine (laws_eqImage.calls k _ _ t114 t117 t118 _ _ t119 _ _ t127 t130 t131 _ _ t132 true _ ?side1 ?side2 ?side3 ?side4 ?side5 ?side6 ?side7 ?side8 A14.out).mono ?_
                      (case side1 => repeat (first | exact (Kd.R_reads' HO116.out).2.2 | (with_reducible refine Kd.C_alloc ?_ _) | (with_reducible refine Kd.C_drewN ?_ _) | (with_reducible refine Kd.C_drew ?_)))
                      (case side2 => exact (Kd.R_reads' HO116.out).2.1)
                      (case side3 => repeat (first | exact (Kd.R_reads' HO121.out).2.2 | (with_reducible refine Kd.C_alloc ?_ _) | (with_reducible refine Kd.C_drewN ?_ _) | (with_reducible refine Kd.C_drew ?_)))
                      (case side4 => exact (Kd.R_reads' HO121.out).2.1)
                      (case side5 => repeat (first | exact (Kd.R_reads' HO129.out).2.2 | (with_reducible refine Kd.C_alloc ?_ _) | (with_reducible refine Kd.C_drewN ?_ _) | (with_reducible refine Kd.C_drew ?_)))
                      (case side6 => exact (Kd.R_reads' HO129.out).2.1)
                      (case side7 => repeat (first | exact (Kd.R_reads' HO134.out).2.2 | (with_reducible refine Kd.C_alloc ?_ _) | (with_reducible refine Kd.C_drewN ?_ _) | (with_reducible refine Kd.C_drew ?_)))
                      (case side8 => exact (Kd.R_reads' HO134.out).2.1)
                      rintro e w53 ⟨rfl, hb⟩
                      refine ⟨_, rfl, ?_⟩
                      have n0_ := Aside0.mk (Kd.R_below (by (with_reducible repeat (first | apply Kd.R_alloc | apply Kd.R_drewN | apply Kd.R_drew)); exact HO105.out) hb)
                      have n1_ := Aside0.mk (Kd.R_below (by (with_reducible repeat (first | apply Kd.R_alloc | apply Kd.R_drewN | apply Kd.R_drew)); exact HO110.out) hb)
                      have n2_ := Aside0.mk (Kd.R_below (by (with_reducible repeat (first | apply Kd.R_alloc | apply Kd.R_drewN | apply Kd.R_drew)); exact HO113.out) hb)
                      have n3_ := Aside0.mk (Kd.R_below (by (with_reducible repeat (first | apply Kd.R_alloc | apply Kd.R_drewN | apply Kd.R_drew)); exact HO116.out) hb)
                      have n4_ := Aside0.mk (Kd.R_below (by (with_reducible repeat (first | apply Kd.R_alloc | apply Kd.R_drewN | apply Kd.R_drew)); exact HO121.out) hb)
                      have n5_ := Aside0.mk (Kd.R_below (by (with_reducible repeat (first | apply Kd.R_alloc | apply Kd.R_drewN | apply Kd.R_drew)); exact HO125.out) hb)
                      have n6_ := Aside0.mk (Kd.R_below (by (with_reducible repeat (first | apply Kd.R_alloc | apply Kd.R_drewN | apply Kd.R_drew)); exact HO129.out) hb)
                      have n7_ := Aside0.mk (Kd.R_below (by (with_reducible repeat (first | apply Kd.R_alloc | apply Kd.R_drewN | apply Kd.R_drew)); exact HO134.out) hb)
                      have n8_ := Aside0.mk (blk_below (g := gb101) (o := .cells #[.slice A0_0 l0_0.length c0_0, .int .i64 a0_1, .int .i64 a0_2, .slice A0_3 l0_3.length c0_3] 28 (0, 0)) (by (with_reducible repeat (first | refine blk_drewN ?_ _ | refine blk_drew ?_ | refine blk_alloc ?_ _)); exact BK101.out) hb)
                      have n9_ := Aside0.mk (blk_below (g := gb122) (o := .cells #[.slice Ao42 t114.length co42, .int .i64 t117, .int .i64 t118, .slice Ao45 t119.length co45] 33 (0, 0)) (by (with_reducible repeat (first | refine blk_drewN ?_ _ | refine blk_drew ?_ | refine blk_alloc ?_ _)); exact BK122.out) hb)
                      have n10_ := Aside0.mk (below_step (by repeat (first | (with_reducible first | exact HB.out | apply below_alloc | apply pw_below_drewN | apply below_drew1 | refine below_set ?_ GE101.out | refine below_set ?_ GE122.out) | exact HB.out)) hb)
                      clear HO105
                      clear HO110
                      clear HO113
                      clear HO116
                      clear HO121
                      clear HO125
                      clear HO129
                      clear HO134
                      clear BK101
                      clear BK122
                      clear HB
                      have HO105 := n0_
                      have HO110 := n1_
                      have HO113 := n2_
                      have HO116 := n3_
                      have HO121 := n4_
                      have HO125 := n5_
                      have HO129 := n6_
                      have HO134 := n7_
                      have BK101 := n8_
                      have BK122 := n9_
                      have HB := n10_
                      clear n0_ n1_ n2_ n3_ n4_ n5_ n6_ n7_ n8_ n9_ n10_
                      (try clear hb)
                      (try clear hb2)
                      (try clear hk)
                      (try clear hi)
                      refine hK.out _ _ ⟨(blk_cell BK122.out 0).trans rfl, (blk_cell BK122.out 1).trans rfl, (blk_cell BK122.out 2).trans rfl, (blk_cell BK122.out 3).trans rfl, (blk_cell BK101.out 0).trans rfl, (blk_cell BK101.out 1).trans rfl, (blk_cell BK101.out 2).trans rfl, (blk_cell BK101.out 3).trans rfl⟩ (fun hHeld => ?_)
                      clear hK K
                      refine norm_ (a' := ?_) ?_ ?_
                      rotate_left
                      · show Act.put _ (some 30) _ = _
                        simp only [Act.put, List.setIfInBounds_toArray, List.set_cons_zero, List.set_cons_succ, i64_w, i32_w]
                        rfl
                      refine pure_ (i := 4) (N := some 31) (v := ?_) (a' := ?_) #[true, true, true, true, true] rfl rfl (by kernel_rfl) (fun _ _ _ h => h) (Or.inl ⟨by rfl, ?_⟩) ?_ ?_
                      rotate_left
                      · intro w'
                        go_simp
                        with_reducible rfl
                      rotate_left
                      · simp only [Act.put, List.setIfInBounds_toArray, List.set_cons_zero, List.set_cons_succ, i64_w, i32_w]
                        rfl
                      refine done_ (by kernel_rfl) ?_
                      have hcz54_0 : w53.cell? ⟨gb122, 0, none⟩ = some (.slice Ao42 t114.length co42) := (blk_cell BK122.out 0).trans rfl
                      have hcz54_1 : w53.cell? ⟨gb122, 1, none⟩ = some (.int .i64 t117) := (blk_cell BK122.out 1).trans rfl
                      have hcz54_2 : w53.cell? ⟨gb122, 2, none⟩ = some (.int .i64 t118) := (blk_cell BK122.out 2).trans rfl
                      have hcz54_3 : w53.cell? ⟨gb122, 3, none⟩ = some (.slice Ao45 t119.length co45) := (blk_cell BK122.out 3).trans rfl
                      have hfz54_0 := blk_frozen BK122.out 0
                      have hfz54_1 := blk_frozen BK122.out 1
                      have hfz54_2 := blk_frozen BK122.out 2
                      have hfz54_3 := blk_frozen BK122.out 3
                      try go_wp2_with (first | ((with_reducible refine gate_callee (f := 32) rfl ?_); refine goesL_ (some 34) rfl rfl Try.func32 (by kernel_rfl) rfl #[.agg #[.slice Ao42 t114.length co42, .int .i64 t117, .int .i64 t118, .slice Ao45 t119.length co45], .int .i64 1] rfl (by (try simp only [List.map_toArray, List.map_cons, List.map_nil]); first | done | rfl | (simp only [List.length_drop, List.length_take]; rfl)) ?_; (with_reducible refine (laws_markImage.calls k (fun k_ => some k_ = (.slice Ao42 t114.length co42 : Value).ownBlock) (.slice Ao42 t114.length co42) t114 t117 t118 (fun k_ => some k_ = (.slice Ao45 t119.length co45 : Value).ownBlock) (.slice Ao45 t119.length co45) t119 1 t136 t137 t138 w _ ?side1 ?side2 ?side3 A16.out).mono ?_); (case side1 => repeat (first | (with_reducible first | exact HB.out | apply below_alloc | apply pw_below_drewN | apply below_drew1 | refine below_set ?_ GE101.out | refine below_set ?_ GE122.out) | exact HB.out)); (case side2 => exact Kd.R_tight rfl HO116.out); (case side3 => exact Kd.R_tight rfl HO121.out); rintro e w55 ⟨rfl, hy0, hy1, hb, hkp⟩; refine ⟨_, rfl, ?_⟩; have n0_ := Aside0.mk (blk_kept (by (with_reducible repeat (first | refine blk_drewN ?_ _ | refine blk_drew ?_ | refine blk_alloc ?_ _)); exact BK101.out) hkp (fun hs_ => Or.elim hs_ (fun e_ => (fun e_ => (Kd.R_ne HO116.out BK101.out (by decide)) e_) e_) (fun e_ => (fun e_ => (Kd.R_ne HO121.out BK101.out (by decide)) e_) e_))); have n1_ := Aside0.mk (Kd.R_mono (ok' := fun k_ => some k_ ≠ (.slice Ao48 t111.length co48 : Value).ownBlock ∧ some k_ ≠ (.slice Ao42 t114.length co42 : Value).ownBlock ∧ some k_ ≠ (.slice Ao47 t123.length co47 : Value).ownBlock ∧ some k_ ≠ (.slice Ao51 t127.length co51 : Value).ownBlock) (Kd.R_keptB ((Kd.R_apart' HO105.out (Kd.R_typed HO121.out) (by decide))) hkp (fun k_ hk_ hs_ => Or.elim hs_ (fun e_ => (hk_.1.1.1.2) e_) (fun e_ => (hk_.2) e_))) (fun k_ hk_ => ⟨hk_.1.1.1.1.1.2, hk_.1.1.1.1.2, hk_.1.1.1.2, hk_.1.1.2⟩)); have n2_ := Aside0.mk (Kd.R_mono (ok' := fun k_ => some k_ ≠ (.slice Ao45 t119.length co45 : Value).ownBlock ∧ some k_ ≠ (.slice Ao52 t132.length co52 : Value).ownBlock) (Kd.R_keptB ((Kd.R_apart' HO110.out (Kd.R_typed HO116.out) (by decide))) hkp (fun k_ hk_ hs_ => Or.elim hs_ (fun e_ => (hk_.2) e_) (fun e_ => (hk_.1.1.2) e_))) (fun k_ hk_ => ⟨hk_.1.1.1.2, hk_.1.1.2⟩)); have n3_ := Aside0.mk (Kd.R_mono (ok' := fun k_ => some k_ ≠ (.slice Ao36 t103.length co36 : Value).ownBlock ∧ some k_ ≠ (.slice Ao42 t114.length co42 : Value).ownBlock ∧ some k_ ≠ (.slice Ao47 t123.length co47 : Value).ownBlock ∧ some k_ ≠ (.slice Ao51 t127.length co51 : Value).ownBlock) (Kd.R_keptB ((Kd.R_apart' HO113.out (Kd.R_typed HO121.out) (by decide))) hkp (fun k_ hk_ hs_ => Or.elim hs_ (fun e_ => (hk_.1.1.1.2) e_) (fun e_ => (hk_.2) e_))) (fun k_ hk_ => ⟨hk_.1.1.1.1.1.2, hk_.1.1.1.1.2, hk_.1.1.1.2, hk_.1.1.2⟩)); have n4_ := Aside0.mk (Kd.R_reok rfl hy0 (fun k_ e_ => HO116.out.1 k_ e_)); have n5_ := Aside0.mk (Kd.R_reok rfl hy1 (fun k_ e_ => HO121.out.1 k_ e_)); have n6_ := Aside0.mk (blk_kept (by (with_reducible repeat (first | refine blk_drewN ?_ _ | refine blk_drew ?_ | refine blk_alloc ?_ _)); exact BK122.out) hkp (fun hs_ => Or.elim hs_ (fun e_ => (fun e_ => (Kd.R_ne HO116.out BK122.out (by decide)) e_) e_) (fun e_ => (fun e_ => (Kd.R_ne HO121.out BK122.out (by decide)) e_) e_))); have n7_ := Aside0.mk (Kd.R_mono (ok' := fun k_ => some k_ ≠ (.slice Ao36 t103.length co36 : Value).ownBlock ∧ some k_ ≠ (.slice Ao48 t111.length co48 : Value).ownBlock ∧ some k_ ≠ (.slice Ao42 t114.length co42 : Value).ownBlock ∧ some k_ ≠ (.slice Ao51 t127.length co51 : Value).ownBlock) (Kd.R_keptB ((Kd.R_apart' HO125.out (Kd.R_typed HO121.out) (by decide))) hkp (fun k_ hk_ hs_ => Or.elim hs_ (fun e_ => (hk_.1.1.2) e_) (fun e_ => (hk_.2) e_))) (fun k_ hk_ => ⟨hk_.1.1.1.1.1.2, hk_.1.1.1.1.2, hk_.1.1.1.2, hk_.1.1.2⟩)); have n8_ := Aside0.mk (Kd.R_mono (ok' := fun k_ => some k_ ≠ (.slice Ao36 t103.length co36 : Value).ownBlock ∧ some k_ ≠ (.slice Ao48 t111.length co48 : Value).ownBlock ∧ some k_ ≠ (.slice Ao42 t114.length co42 : Value).ownBlock ∧ some k_ ≠ (.slice Ao47 t123.length co47 : Value).ownBlock) (Kd.R_keptB ((Kd.R_apart' HO129.out (Kd.R_typed HO121.out) (by decide))) hkp (fun k_ hk_ hs_ => Or.elim hs_ (fun e_ => (hk_.1.1.2) e_) (fun e_ => (hk_.2) e_))) (fun k_ hk_ => ⟨hk_.1.1.1.1.1.2, hk_.1.1.1.1.2, hk_.1.1.1.2, hk_.1.1.2⟩)); have n9_ := Aside0.mk (Kd.R_mono (ok' := fun k_ => some k_ ≠ (.slice Ao37 t108.length co37 : Value).ownBlock ∧ some k_ ≠ (.slice Ao45 t119.length co45 : Value).ownBlock) (Kd.R_keptB ((Kd.R_apart' HO134.out (Kd.R_typed HO116.out) (by decide))) hkp (fun k_ hk_ hs_ => Or.elim hs_ (fun e_ => (hk_.2) e_) (fun e_ => (hk_.1.2) e_))) (fun k_ hk_ => ⟨hk_.1.1.1.2, hk_.1.1.2⟩)); have n10_ := Aside0.mk (hb); clear BK101; clear HO105; clear HO110; clear HO113; clear HO116; clear HO121; clear BK122; clear HO125; clear HO129; clear HO134; clear HB; have BK101 := n0_; have HO105 := n1_; have HO110 := n2_; have HO113 := n3_; have HO116 := n4_; have HO121 := n5_; have BK122 := n6_; have HO125 := n7_; have HO129 := n8_; have HO134 := n9_; have HB := n10_; clear n0_ n1_ n2_ n3_ n4_ n5_ n6_ n7_ n8_ n9_ n10_; (try clear hb); (try clear hkp); (try clear hy0); (try clear hy1)) | (go_at_call 31; (with_reducible refine (laws_eqIntS.calls k _ _ t123 _ _ t111 true _ ?side1 ?side2 ?side3 ?side4 A18.out).mono ?_); (case side1 => repeat (first | exact (Kd.R_reads' HO125.out).2.2 | (with_reducible refine Kd.C_alloc ?_ _) | (with_reducible refine Kd.C_drewN ?_ _) | (with_reducible refine Kd.C_drew ?_))); (case side2 => exact (Kd.R_reads' HO125.out).2.1); (case side3 => repeat (first | exact (Kd.R_reads' HO113.out).2.2 | (with_reducible refine Kd.C_alloc ?_ _) | (with_reducible refine Kd.C_drewN ?_ _) | (with_reducible refine Kd.C_drew ?_))); (case side4 => exact (Kd.R_reads' HO113.out).2.1); rintro e w' ⟨rfl, ⟨nd, rfl⟩⟩) | ((with_reducible refine gate_callee (f := 33) rfl ?_); refine goesL_ (some 45) rfl rfl Try.func33 (by kernel_rfl) rfl #[.slice Ao47 t123.length co47, .int .i64 1] rfl (by (try simp only [List.map_toArray, List.map_cons, List.map_nil]); first | done | rfl | (simp only [List.length_drop, List.length_take]; rfl)) ?_; (with_reducible refine (laws_markIntS.calls k (fun k_ => some k_ = (.slice Ao47 t123.length co47 : Value).ownBlock) (.slice Ao47 t123.length co47) t123 1 t140 t141 w _ ?side1 ?side2 A20.out).mono ?_); (case side1 => repeat (first | (with_reducible first | exact HB.out | apply below_alloc | apply pw_below_drewN | apply below_drew1 | refine below_set ?_ GE101.out | refine below_set ?_ GE122.out) | exact HB.out)); (case side2 => exact Kd.R_tight rfl HO125.out); rintro e w56 ⟨rfl, hy0, hb, hkp⟩; refine ⟨_, rfl, ?_⟩; have n0_ := Aside0.mk (blk_kept (by (with_reducible repeat (first | refine blk_drewN ?_ _ | refine blk_drew ?_ | refine blk_alloc ?_ _)); exact BK101.out) hkp (fun hs_ => (fun e_ => (Kd.R_ne HO125.out BK101.out (by decide)) e_) hs_)); have n1_ := Aside0.mk (Kd.R_mono (ok' := fun k_ => some k_ ≠ (.slice Ao48 t111.length co48 : Value).ownBlock ∧ some k_ ≠ (.slice Ao42 t114.length co42 : Value).ownBlock ∧ some k_ ≠ (.slice Ao47 t123.length co47 : Value).ownBlock ∧ some k_ ≠ (.slice Ao51 t127.length co51 : Value).ownBlock) (Kd.R_keptB (HO105.out) hkp (fun k_ hk_ hs_ => (hk_.2.2.1) hs_)) (fun k_ hk_ => ⟨hk_.1.1, hk_.1.2.1, hk_.1.2.2.1, hk_.1.2.2.2⟩)); have n2_ := Aside0.mk (Kd.R_mono (ok' := fun k_ => some k_ ≠ (.slice Ao45 t119.length co45 : Value).ownBlock ∧ some k_ ≠ (.slice Ao52 t132.length co52 : Value).ownBlock) (Kd.R_keptB ((Kd.R_apart' HO110.out (Kd.R_typed HO125.out) (by decide))) hkp (fun k_ hk_ hs_ => (hk_.2) hs_)) (fun k_ hk_ => ⟨hk_.1.1.1, hk_.1.1.2⟩)); have n3_ := Aside0.mk (Kd.R_mono (ok' := fun k_ => some k_ ≠ (.slice Ao36 t103.length co36 : Value).ownBlock ∧ some k_ ≠ (.slice Ao42 t114.length co42 : Value).ownBlock ∧ some k_ ≠ (.slice Ao47 t123.length co47 : Value).ownBlock ∧ some k_ ≠ (.slice Ao51 t127.length co51 : Value).ownBlock) (Kd.R_keptB (HO113.out) hkp (fun k_ hk_ hs_ => (hk_.2.2.1) hs_)) (fun k_ hk_ => ⟨hk_.1.1, hk_.1.2.1, hk_.1.2.2.1, hk_.1.2.2.2⟩)); have n4_ := Aside0.mk (Kd.R_mono (ok' := fun k_ => some k_ ≠ (.slice Ao36 t103.length co36 : Value).ownBlock ∧ some k_ ≠ (.slice Ao48 t111.length co48 : Value).ownBlock ∧ some k_ ≠ (.slice Ao47 t123.length co47 : Value).ownBlock ∧ some k_ ≠ (.slice Ao51 t127.length co51 : Value).ownBlock) (Kd.R_keptB (HO116.out) hkp (fun k_ hk_ hs_ => (hk_.1.2) hs_)) (fun k_ hk_ => ⟨hk_.1.1.1.1.2, hk_.1.1.1.2, hk_.1.1.2, hk_.1.2⟩)); have n5_ := Aside0.mk (Kd.R_mono (ok' := fun k_ => some k_ ≠ (.slice Ao37 t108.length co37 : Value).ownBlock ∧ some k_ ≠ (.slice Ao52 t132.length co52 : Value).ownBlock) (Kd.R_keptB ((Kd.R_apart' HO121.out (Kd.R_typed HO125.out) (by decide))) hkp (fun k_ hk_ hs_ => (hk_.2) hs_)) (fun k_ hk_ => ⟨hk_.1.1.1.2, hk_.1.1.2⟩)); have n6_ := Aside0.mk (blk_kept (by (with_reducible repeat (first | refine blk_drewN ?_ _ | refine blk_drew ?_ | refine blk_alloc ?_ _)); exact BK122.out) hkp (fun hs_ => (fun e_ => (Kd.R_ne HO125.out BK122.out (by decide)) e_) hs_)); have n7_ := Aside0.mk (Kd.R_reok rfl hy0 (fun k_ e_ => HO125.out.1 k_ e_)); have n8_ := Aside0.mk (Kd.R_mono (ok' := fun k_ => some k_ ≠ (.slice Ao36 t103.length co36 : Value).ownBlock ∧ some k_ ≠ (.slice Ao48 t111.length co48 : Value).ownBlock ∧ some k_ ≠ (.slice Ao42 t114.length co42 : Value).ownBlock ∧ some k_ ≠ (.slice Ao47 t123.length co47 : Value).ownBlock) (Kd.R_keptB (HO129.out) hkp (fun k_ hk_ hs_ => (hk_.2.2.2) hs_)) (fun k_ hk_ => ⟨hk_.1.1, hk_.1.2.1, hk_.1.2.2.1, hk_.1.2.2.2⟩)); have n9_ := Aside0.mk (Kd.R_mono (ok' := fun k_ => some k_ ≠ (.slice Ao37 t108.length co37 : Value).ownBlock ∧ some k_ ≠ (.slice Ao45 t119.length co45 : Value).ownBlock) (Kd.R_keptB ((Kd.R_apart' HO134.out (Kd.R_typed HO125.out) (by decide))) hkp (fun k_ hk_ hs_ => (hk_.2) hs_)) (fun k_ hk_ => ⟨hk_.1.1.1, hk_.1.1.2⟩)); have n10_ := Aside0.mk (hb); clear BK101; clear HO105; clear HO110; clear HO113; clear HO116; clear HO121; clear BK122; clear HO125; clear HO129; clear HO134; clear HB; have BK101 := n0_; have HO105 := n1_; have HO110 := n2_; have HO113 := n3_; have HO116 := n4_; have HO121 := n5_; have BK122 := n6_; have HO125 := n7_; have HO129 := n8_; have HO134 := n9_; have HB := n10_; clear n0_ n1_ n2_ n3_ n4_ n5_ n6_ n7_ n8_ n9_ n10_; (try clear hb); (try clear hkp); (try clear hy0)) | ((with_reducible refine gate_callee (f := 34) rfl ?_); refine goesL_ (some 48) rfl rfl Try.func34 (by kernel_rfl) rfl #[.slice Ao47 t141.length co47, .int .i64 1] rfl (by (try simp only [List.map_toArray, List.map_cons, List.map_nil]); first | done | (rw [show t141.length = t123.length from (Kd.R_reads' HO125.out).1.symm] <;> rfl) | rfl | (simp only [List.length_drop, List.length_take]; rfl)) ?_; (with_reducible refine (laws_heldIntS.calls k _ _ t141 1 t142 _ ?side1 ?side2 A21.out).mono ?_); (case side1 => repeat (first | exact (Kd.R_reads' HO125.out).2.2 | (with_reducible refine Kd.C_alloc ?_ _) | (with_reducible refine Kd.C_drewN ?_ _) | (with_reducible refine Kd.C_drew ?_))); (case side2 => rw [show t141.length = t123.length from (Kd.R_reads' HO125.out).1.symm]; exact (Kd.R_reads' HO125.out).2.1); rintro e w' ⟨rfl, ⟨nd, rfl⟩⟩; refine ⟨_, rfl, ?_⟩; have hcz57_0 : w56.cell? ⟨gb101, 0, none⟩ = some (.slice A0_0 l0_0.length c0_0) := (blk_cell BK101.out 0).trans rfl; have hcz57_1 : w56.cell? ⟨gb101, 1, none⟩ = some (.int .i64 a0_1) := (blk_cell BK101.out 1).trans rfl; have hcz57_2 : w56.cell? ⟨gb101, 2, none⟩ = some (.int .i64 a0_2) := (blk_cell BK101.out 2).trans rfl; have hcz57_3 : w56.cell? ⟨gb101, 3, none⟩ = some (.slice A0_3 l0_3.length c0_3) := (blk_cell BK101.out 3).trans rfl; have hfz57_0 := blk_frozen BK101.out 0; have hfz57_1 := blk_frozen BK101.out 1; have hfz57_2 := blk_frozen BK101.out 2; have hfz57_3 := blk_frozen BK101.out 3) | ((with_reducible refine gate_callee (f := 15) rfl ?_); refine goesL_ (some 55) rfl rfl Try.func15 (by kernel_rfl) rfl #[.agg #[.slice A0_0 l0_0.length c0_0, .int .i64 a0_1, .int .i64 a0_2, .slice A0_3 l0_3.length c0_3]] rfl (by (try simp only [List.map_toArray, List.map_cons, List.map_nil]); first | done | rfl | (simp only [List.length_drop, List.length_take]; rfl)) ?_; (with_reducible refine (laws_toImage.calls k _ _ l0_0 a0_1 a0_2 _ _ l0_3 t143 t146 t147 t148 _ ?side1 ?side2 ?side3 ?side4 A24.out).mono ?_); (case side1 => repeat (first | exact (Kd.C_below HR0_0.out (by repeat (first | (with_reducible first | exact HB.out | apply below_alloc | apply pw_below_drewN | apply below_drew1 | refine below_set ?_ GE101.out | refine below_set ?_ GE122.out) | exact HB.out))) | (with_reducible refine Kd.C_alloc ?_ _) | (with_reducible refine Kd.C_drewN ?_ _) | (with_reducible refine Kd.C_drew ?_))); (case side2 => exact HC0_0.out); (case side3 => repeat (first | exact (Kd.C_below HR0_3.out (by repeat (first | (with_reducible first | exact HB.out | apply below_alloc | apply pw_below_drewN | apply below_drew1 | refine below_set ?_ GE101.out | refine below_set ?_ GE122.out) | exact HB.out))) | (with_reducible refine Kd.C_alloc ?_ _) | (with_reducible refine Kd.C_drewN ?_ _) | (with_reducible refine Kd.C_drew ?_))); (case side4 => exact HC0_3.out); rintro e w58 ⟨v144, v149, rfl, ho0, ho1, hb⟩; refine ⟨_, rfl, ?_⟩; have n0_ := Aside0.mk (Kd.R_elder' (by (with_reducible repeat (first | apply Kd.R_alloc | apply Kd.R_drewN | apply Kd.R_drew)); exact HO105.out) (Kd.R_base ho0) hb); have n1_ := Aside0.mk (Kd.R_elder' (by (with_reducible repeat (first | apply Kd.R_alloc | apply Kd.R_drewN | apply Kd.R_drew)); exact HO110.out) (Kd.R_base ho1) hb); have n2_ := Aside0.mk (Kd.R_elder' (by (with_reducible repeat (first | apply Kd.R_alloc | apply Kd.R_drewN | apply Kd.R_drew)); exact HO113.out) (Kd.R_base ho0) hb); have n3_ := Aside0.mk (Kd.R_elder' (by (with_reducible repeat (first | apply Kd.R_alloc | apply Kd.R_drewN | apply Kd.R_drew)); exact HO116.out) (Kd.R_base ho0) hb); have n4_ := Aside0.mk (Kd.R_elder' (by (with_reducible repeat (first | apply Kd.R_alloc | apply Kd.R_drewN | apply Kd.R_drew)); exact HO121.out) (Kd.R_base ho1) hb); have n5_ := Aside0.mk (Kd.R_elder' (by (with_reducible repeat (first | apply Kd.R_alloc | apply Kd.R_drewN | apply Kd.R_drew)); exact HO125.out) (Kd.R_base ho0) hb); have n6_ := Aside0.mk (Kd.R_elder' (by (with_reducible repeat (first | apply Kd.R_alloc | apply Kd.R_drewN | apply Kd.R_drew)); exact HO129.out) (Kd.R_base ho0) hb); have n7_ := Aside0.mk (Kd.R_elder' (by (with_reducible repeat (first | apply Kd.R_alloc | apply Kd.R_drewN | apply Kd.R_drew)); exact HO134.out) (Kd.R_base ho1) hb); have n8_ := Aside0.mk (Kd.R_lower (Kd.R_new' (Kd.R_new' (Kd.R_new' (Kd.R_new' (Kd.R_new' ho0 (Kd.R_lt (by (with_reducible repeat (first | apply Kd.R_alloc | apply Kd.R_drewN | apply Kd.R_drew)); exact HO105.out))) (Kd.R_lt (by (with_reducible repeat (first | apply Kd.R_alloc | apply Kd.R_drewN | apply Kd.R_drew)); exact HO113.out))) (Kd.R_lt (by (with_reducible repeat (first | apply Kd.R_alloc | apply Kd.R_drewN | apply Kd.R_drew)); exact HO116.out))) (Kd.R_lt (by (with_reducible repeat (first | apply Kd.R_alloc | apply Kd.R_drewN | apply Kd.R_drew)); exact HO125.out))) (Kd.R_lt (by (with_reducible repeat (first | apply Kd.R_alloc | apply Kd.R_drewN | apply Kd.R_drew)); exact HO129.out))) (below_size (by repeat (first | (with_reducible first | exact HB.out | apply below_alloc | apply pw_below_drewN | apply below_drew1 | refine below_set ?_ GE101.out | refine below_set ?_ GE122.out) | exact HB.out)))); have n9_ := Aside0.mk (Kd.R_lower (Kd.R_new' (Kd.R_new' (Kd.R_new' ho1 (Kd.R_lt (by (with_reducible repeat (first | apply Kd.R_alloc | apply Kd.R_drewN | apply Kd.R_drew)); exact HO110.out))) (Kd.R_lt (by (with_reducible repeat (first | apply Kd.R_alloc | apply Kd.R_drewN | apply Kd.R_drew)); exact HO121.out))) (Kd.R_lt (by (with_reducible repeat (first | apply Kd.R_alloc | apply Kd.R_drewN | apply Kd.R_drew)); exact HO134.out))) (below_size (by repeat (first | (with_reducible first | exact HB.out | apply below_alloc | apply pw_below_drewN | apply below_drew1 | refine below_set ?_ GE101.out | refine below_set ?_ GE122.out) | exact HB.out)))); have n10_ := Aside0.mk (blk_below (g := gb101) (o := .cells #[.slice A0_0 l0_0.length c0_0, .int .i64 a0_1, .int .i64 a0_2, .slice A0_3 l0_3.length c0_3] 28 (0, 0)) (by (with_reducible repeat (first | refine blk_drewN ?_ _ | refine blk_drew ?_ | refine blk_alloc ?_ _)); exact BK101.out) hb); have n11_ := Aside0.mk (blk_below (g := gb122) (o := .cells #[.slice Ao42 t114.length co42, .int .i64 t117, .int .i64 t118, .slice Ao45 t119.length co45] 33 (0, 0)) (by (with_reducible repeat (first | refine blk_drewN ?_ _ | refine blk_drew ?_ | refine blk_alloc ?_ _)); exact BK122.out) hb); have n12_ := Aside0.mk (below_step (by repeat (first | (with_reducible first | exact HB.out | apply below_alloc | apply pw_below_drewN | apply below_drew1 | refine below_set ?_ GE101.out | refine below_set ?_ GE122.out) | exact HB.out)) hb); clear HO105; clear HO110; clear HO113; clear HO116; clear HO121; clear HO125; clear HO129; clear HO134; clear BK101; clear BK122; clear HB; have HO105 := n0_; have HO110 := n1_; have HO113 := n2_; have HO116 := n3_; have HO121 := n4_; have HO125 := n5_; have HO129 := n6_; have HO134 := n7_; have HO145 := n8_; have HO150 := n9_; have BK101 := n10_; have BK122 := n11_; have HB := n12_; clear n0_ n1_ n2_ n3_ n4_ n5_ n6_ n7_ n8_ n9_ n10_ n11_ n12_; (try clear hb); (try clear hb2); (try clear hk); (try clear hi); (try clear ho0); (try clear ho1); obtain ⟨Ao59, co59, eo59⟩ := Kd.R_slice HO145.out; subst eo59; obtain ⟨Ao60, co60, eo60⟩ := Kd.R_slice HO150.out; subst eo60) | ((with_reducible refine gate_callee (f := 30) rfl ?_); refine goesL_ (some 56) rfl rfl Try.func30 (by kernel_rfl) rfl #[.agg #[.slice Ao59 t143.length co59, .int .i64 t146, .int .i64 t147, .slice Ao60 t148.length co60]] rfl (by (try simp only [List.map_toArray, List.map_cons, List.map_nil]); first | done | rfl | (simp only [List.length_drop, List.length_take]; rfl)) ?_; (with_reducible refine (impl_Dead.calls k _ _ t143 t146 t147 _ _ t148 t151 _ ?side1 ?side2 ?side3 ?side4 A25.out).mono ?_); (case side1 => repeat (first | exact (Kd.R_reads' HO145.out).2.2 | (with_reducible refine Kd.C_alloc ?_ _) | (with_reducible refine Kd.C_drewN ?_ _) | (with_reducible refine Kd.C_drew ?_))); (case side2 => exact (Kd.R_reads' HO145.out).2.1); (case side3 => repeat (first | exact (Kd.R_reads' HO150.out).2.2 | (with_reducible refine Kd.C_alloc ?_ _) | (with_reducible refine Kd.C_drewN ?_ _) | (with_reducible refine Kd.C_drew ?_))); (case side4 => exact (Kd.R_reads' HO150.out).2.1); rintro e w61 ⟨v152, rfl, ho0, hb⟩; refine ⟨_, rfl, ?_⟩; have n0_ := Aside0.mk (Kd.R_elder' (by (with_reducible repeat (first | apply Kd.R_alloc | apply Kd.R_drewN | apply Kd.R_drew)); exact HO105.out) (Kd.R_base ho0) hb); have n1_ := Aside0.mk (Kd.R_below (by (with_reducible repeat (first | apply Kd.R_alloc | apply Kd.R_drewN | apply Kd.R_drew)); exact HO110.out) hb); have n2_ := Aside0.mk (Kd.R_elder' (by (with_reducible repeat (first | apply Kd.R_alloc | apply Kd.R_drewN | apply Kd.R_drew)); exact HO113.out) (Kd.R_base ho0) hb); have n3_ := Aside0.mk (Kd.R_elder' (by (with_reducible repeat (first | apply Kd.R_alloc | apply Kd.R_drewN | apply Kd.R_drew)); exact HO116.out) (Kd.R_base ho0) hb); have n4_ := Aside0.mk (Kd.R_below (by (with_reducible repeat (first | apply Kd.R_alloc | apply Kd.R_drewN | apply Kd.R_drew)); exact HO121.out) hb); have n5_ := Aside0.mk (Kd.R_elder' (by (with_reducible repeat (first | apply Kd.R_alloc | apply Kd.R_drewN | apply Kd.R_drew)); exact HO125.out) (Kd.R_base ho0) hb); have n6_ := Aside0.mk (Kd.R_elder' (by (with_reducible repeat (first | apply Kd.R_alloc | apply Kd.R_drewN | apply Kd.R_drew)); exact HO129.out) (Kd.R_base ho0) hb); have n7_ := Aside0.mk (Kd.R_below (by (with_reducible repeat (first | apply Kd.R_alloc | apply Kd.R_drewN | apply Kd.R_drew)); exact HO134.out) hb); have n8_ := Aside0.mk (Kd.R_elder' (by (with_reducible repeat (first | apply Kd.R_alloc | apply Kd.R_drewN | apply Kd.R_drew)); exact HO145.out) (Kd.R_base ho0) hb); have n9_ := Aside0.mk (Kd.R_below (by (with_reducible repeat (first | apply Kd.R_alloc | apply Kd.R_drewN | apply Kd.R_drew)); exact HO150.out) hb); have n10_ := Aside0.mk (Kd.R_lower (Kd.R_new' (Kd.R_new' (Kd.R_new' (Kd.R_new' (Kd.R_new' (Kd.R_new' ho0 (Kd.R_lt (by (with_reducible repeat (first | apply Kd.R_alloc | apply Kd.R_drewN | apply Kd.R_drew)); exact HO105.out))) (Kd.R_lt (by (with_reducible repeat (first | apply Kd.R_alloc | apply Kd.R_drewN | apply Kd.R_drew)); exact HO113.out))) (Kd.R_lt (by (with_reducible repeat (first | apply Kd.R_alloc | apply Kd.R_drewN | apply Kd.R_drew)); exact HO116.out))) (Kd.R_lt (by (with_reducible repeat (first | apply Kd.R_alloc | apply Kd.R_drewN | apply Kd.R_drew)); exact HO125.out))) (Kd.R_lt (by (with_reducible repeat (first | apply Kd.R_alloc | apply Kd.R_drewN | apply Kd.R_drew)); exact HO129.out))) (Kd.R_lt (by (with_reducible repeat (first | apply Kd.R_alloc | apply Kd.R_drewN | apply Kd.R_drew)); exact HO145.out))) (below_size (by repeat (first | (with_reducible first | exact HB.out | apply below_alloc | apply pw_below_drewN | apply below_drew1 | refine below_set ?_ GE101.out | refine below_set ?_ GE122.out) | exact HB.out)))); have n11_ := Aside0.mk (blk_below (g := gb101) (o := .cells #[.slice A0_0 l0_0.length c0_0, .int .i64 a0_1, .int .i64 a0_2, .slice A0_3 l0_3.length c0_3] 28 (0, 0)) (by (with_reducible repeat (first | refine blk_drewN ?_ _ | refine blk_drew ?_ | refine blk_alloc ?_ _)); exact BK101.out) hb); have n12_ := Aside0.mk (blk_below (g := gb122) (o := .cells #[.slice Ao42 t114.length co42, .int .i64 t117, .int .i64 t118, .slice Ao45 t119.length co45] 33 (0, 0)) (by (with_reducible repeat (first | refine blk_drewN ?_ _ | refine blk_drew ?_ | refine blk_alloc ?_ _)); exact BK122.out) hb); have n13_ := Aside0.mk (below_step (by repeat (first | (with_reducible first | exact HB.out | apply below_alloc | apply pw_below_drewN | apply below_drew1 | refine below_set ?_ GE101.out | refine below_set ?_ GE122.out) | exact HB.out)) hb); clear HO105; clear HO110; clear HO113; clear HO116; clear HO121; clear HO125; clear HO129; clear HO134; clear HO145; clear HO150; clear BK101; clear BK122; clear HB; have HO105 := n0_; have HO110 := n1_; have HO113 := n2_; have HO116 := n3_; have HO121 := n4_; have HO125 := n5_; have HO129 := n6_; have HO134 := n7_; have HO145 := n8_; have HO150 := n9_; have HO153 := n10_; have BK101 := n11_; have BK122 := n12_; have HB := n13_; clear n0_ n1_ n2_ n3_ n4_ n5_ n6_ n7_ n8_ n9_ n10_ n11_ n12_ n13_; (try clear hb); (try clear hb2); (try clear hk); (try clear hi); (try clear ho0); obtain ⟨Ao62, co62, eo62⟩ := Kd.R_slice HO153.out; subst eo62) | ((with_reducible refine gate_callee (f := 31) rfl ?_); refine goesL_ (some 59) rfl rfl Try.func31 (by kernel_rfl) rfl #[.slice Ao62 t151.length co62, .slice Ao48 t111.length co48] rfl (by (try simp only [List.map_toArray, List.map_cons, List.map_nil]); first | done | rfl | (simp only [List.length_drop, List.length_take]; rfl)) ?_; (with_reducible refine (laws_eqIntS.calls k _ _ t151 _ _ t111 true _ ?side1 ?side2 ?side3 ?side4 A26.out).mono ?_); (case side1 => repeat (first | exact (Kd.R_reads' HO153.out).2.2 | (with_reducible refine Kd.C_alloc ?_ _) | (with_reducible refine Kd.C_drewN ?_ _) | (with_reducible refine Kd.C_drew ?_))); (case side2 => exact (Kd.R_reads' HO153.out).2.1); (case side3 => repeat (first | exact (Kd.R_reads' HO113.out).2.2 | (with_reducible refine Kd.C_alloc ?_ _) | (with_reducible refine Kd.C_drewN ?_ _) | (with_reducible refine Kd.C_drew ?_))); (case side4 => exact (Kd.R_reads' HO113.out).2.1); rintro e w' ⟨rfl, ⟨nd, rfl⟩⟩; refine ⟨_, rfl, ?_⟩) | ((with_reducible refine gate_callee (f := 34) rfl ?_); refine goesL_ (some 63) rfl rfl Try.func34 (by kernel_rfl) rfl #[.slice Ao47 t141.length co47, .int .i64 1] rfl (by (try simp only [List.map_toArray, List.map_cons, List.map_nil]); first | done | (rw [show t141.length = t123.length from (Kd.R_reads' HO125.out).1.symm] <;> rfl) | rfl | (simp only [List.length_drop, List.length_take]; rfl)) ?_; (with_reducible refine (laws_heldIntS.calls k _ _ t141 1 t155 _ ?side1 ?side2 A28.out).mono ?_); (case side1 => repeat (first | exact (Kd.R_reads' HO125.out).2.2 | (with_reducible refine Kd.C_alloc ?_ _) | (with_reducible refine Kd.C_drewN ?_ _) | (with_reducible refine Kd.C_drew ?_))); (case side2 => rw [show t141.length = t123.length from (Kd.R_reads' HO125.out).1.symm]; exact (Kd.R_reads' HO125.out).2.1); rintro e w' ⟨rfl, ⟨nd, rfl⟩⟩; refine ⟨_, rfl, ?_⟩))
                      go_ret
                      exact ⟨by first | rfl | (simp [errW_none, errW_some] <;> rfl) | (simp [*, errW_none, errW_some] <;> rfl), by repeat (first | (with_reducible first | exact HB.out | apply below_alloc | apply pw_below_drewN | apply below_drew1 | refine below_set ?_ GE101.out | refine below_set ?_ GE122.out) | exact HB.out)⟩
                    · rw [if_neg c30] at H
                      exact absurd H (by simp)
                · replace c27 := Bool.eq_false_iff.mpr c27
                  subst c27
                  have H1 : (none) = some r := by rw [if_neg (show ¬ (false = true) by decide)] at H; exact H
                  clear H
                  have H := H1
                  clear H1
                  exact absurd H (by simp)
              · rw [if_neg c23] at H
                exact absurd H (by simp)
          · replace c19 := Bool.eq_false_iff.mpr c19
            subst c19
            have H1 : (none) = some r := by rw [if_neg (show ¬ (false = true) by decide)] at H; exact H
            clear H
            have H := H1
            clear H1
            exact absurd H (by simp)
      · replace c15 := Bool.eq_false_iff.mpr c15
        subst c15
        have H1 : (none) = some r := by rw [if_neg (show ¬ (false = true) by decide)] at H; exact H
        clear H
        have H := H1
        clear H1
        exact absurd H (by simp)
    · replace c12 := Bool.eq_false_iff.mpr c12
      subst c12
      have H1 : (none) = some r := by rw [if_neg (show ¬ (false = true) by decide)] at H; exact H
      clear H
      have H := H1
      clear H1
      exact absurd H (by simp)

end Go.Proofs.Ytnbaojaocagjcaa.P
end
section
-- Written for this claim by gp.py over the kit's print; not trusted: Lean checks it.

namespace Go.Proofs.Ytnbaojaocagjcaa.P
open Go.RowKit Go.Proofs.YtnbaojaocagjcaaW.PrintWords Go.Proofs.YtnbaojaocagjcaaW.PrintLast Go.Proofs.YtnbaojaocagjcaaW.PrintMore
set_option linter.unusedVariables false
set_option linter.unusedSimpArgs false

/-! The words that no way reaches: what both worklists answer. -/
def opAt (l : List S59) (i : Nat) : Int := (rd_T59 l (i : Int)).f0
def nxt (l : List S59) (i : Nat) : List Int :=
  (if opAt l i = 8 ∨ opAt l i = 9 then [(rd_T59 l (i : Int)).f4] else []) ++ (if opAt l i = 8 ∨ opAt l i = 10 then [] else [((i + 1 : Nat) : Int)])
inductive Rch (nx : Nat → List Int) : Nat → Prop
  | zero : Rch nx 0
  | step {i : Nat} {j : Int} : Rch nx i → j ∈ nx i → Rch nx j.toNat
def seen (s : List Bool) (j : Nat) : Bool := s.getD j false
theorem rdOf_nat (s : List Bool) (j : Nat) : rdOf false s (j : Int) = seen s j := rfl
theorem seen_set {s : List Bool} {i j : Nat} (hi : i < s.length) : seen (s.set i true) j = (decide (i = j) || seen s j) := by
  unfold seen
  rw [List.getD_eq_getElem?_getD, List.getD_eq_getElem?_getD, List.getElem?_set]
  by_cases h : i = j
  · simp [h]
    subst h
    simp [hi]
  · simp [h]
def news (s : List Bool) : Nat := s.count false
theorem news_set {s : List Bool} {i : Nat} (hi : i < s.length) (h : seen s i = false) : news (s.set i true) + 1 = news s := by
  unfold news
  rw [List.count_set hi]
  unfold seen at h
  rw [List.getD_eq_getElem?_getD, List.getElem?_eq_getElem hi] at h
  have h' : s[i] = false := by simpa using h
  have hp : 0 < s.count false := List.count_pos_iff.mpr (h' ▸ List.getElem_mem hi)
  simp [h']
  omega
def pushOne (p : List Bool × List Int) (j : Int) : List Bool × List Int := if seen p.1 j.toNat = true then p else (p.1.set j.toNat true, p.2 ++ [j])
/-- What a worklist that marks when it pushes holds. -/
structure InvS (n : Nat) (nx : Nat → List Int) (s : List Bool) (q : List Int) : Prop where
  len : s.length = n
  rng : ∀ j ∈ q, 0 ≤ j ∧ j < n ∧ seen s j.toNat = true
  rch : ∀ j, seen s j = true → Rch nx j
  cap : q.length + news s ≤ n
  zer : seen s 0 = true
/-- All that a marked one names that waits no more is marked; but for what is still to be pushed. -/
def Shut (nx : Nat → List Int) (s : List Bool) (q : List Int) (i : Nat) : Prop := ∀ j, seen s j = true → (j : Int) ∉ q → j ≠ i → ∀ m ∈ nx j, seen s m.toNat = true
theorem push_inv {n : Nat} {nx : Nat → List Int} {s : List Bool} {q : List Int} {i : Nat} (h : InvS n nx s q) (hs : Shut nx s q i) {j : Int} (h0 : 0 ≤ j) (h1 : j < n) (hr : Rch nx j.toNat) :
    InvS n nx (pushOne (s, q) j).1 (pushOne (s, q) j).2 ∧ Shut nx (pushOne (s, q) j).1 (pushOne (s, q) j).2 i ∧ seen (pushOne (s, q) j).1 j.toNat = true ∧ (∀ m, seen s m = true → seen (pushOne (s, q) j).1 m = true) ∧ 2 * news (pushOne (s, q) j).1 + (pushOne (s, q) j).2.length ≤ 2 * news s + q.length := by
  have hl : j.toNat < s.length := by rw [h.len]; omega
  unfold pushOne
  by_cases hc : seen s j.toNat = true
  · simp only [if_pos hc]
    exact ⟨h, hs, hc, fun m hm => hm, Nat.le_refl _⟩
  · simp only [if_neg hc]
    have hf : seen s j.toNat = false := by simpa using hc
    have hn := news_set hl hf
    have hk : ∀ m, seen s m = true → seen (s.set j.toNat true) m = true := fun m hm => by rw [seen_set hl, hm, Bool.or_true]
    refine ⟨⟨?_, ?_, ?_, ?_, ?_⟩, ?_, ?_, hk, ?_⟩
    · rw [List.length_set]; exact h.len
    · intro m hm
      rcases List.mem_append.mp hm with hm | hm
      · obtain ⟨a, b, c⟩ := h.rng m hm
        exact ⟨a, b, hk _ c⟩
      · rw [List.mem_singleton] at hm
        subst hm
        refine ⟨h0, h1, ?_⟩
        rw [seen_set hl]
        simp
    · intro m hm
      rw [seen_set hl] at hm
      by_cases e : j.toNat = m
      · rw [← e]; exact hr
      · simp [e] at hm
        exact h.rch m hm
    · have := h.cap
      rw [List.length_append, List.length_singleton]
      omega
    · exact hk _ h.zer
    · intro a ha hq hi m hm
      rw [seen_set hl] at ha
      have hq' : (a : Int) ∉ q ∧ (a : Int) ≠ j := by
        rw [List.mem_append, List.mem_singleton] at hq
        exact ⟨fun x => hq (Or.inl x), fun x => hq (Or.inr x)⟩
      have e : j.toNat ≠ a := fun e => hq'.2 (by omega)
      simp [e] at ha
      exact hk _ (hs a ha hq'.1 hi m hm)
    · rw [seen_set hl]; simp
    · rw [List.length_append, List.length_singleton]
      omega
theorem push_all {n : Nat} {nx : Nat → List Int} {i : Nat} (hi : Rch nx i) : ∀ (l : List Int) (s : List Bool) (q : List Int), InvS n nx s q → Shut nx s q i → (∀ j ∈ l, 0 ≤ j ∧ j < n ∧ j ∈ nx i) →
    InvS n nx (l.foldl pushOne (s, q)).1 (l.foldl pushOne (s, q)).2 ∧ Shut nx (l.foldl pushOne (s, q)).1 (l.foldl pushOne (s, q)).2 i ∧ (∀ j ∈ l, seen (l.foldl pushOne (s, q)).1 j.toNat = true) ∧ (∀ m, seen s m = true → seen (l.foldl pushOne (s, q)).1 m = true) ∧ 2 * news (l.foldl pushOne (s, q)).1 + (l.foldl pushOne (s, q)).2.length ≤ 2 * news s + q.length := by
  intro l
  induction l with
  | nil => intro s q h hs _; exact ⟨h, hs, fun j hj => absurd hj (by simp), fun m hm => hm, Nat.le_refl _⟩
  | cons j l ih =>
    intro s q h hs hl
    obtain ⟨a, b, c⟩ := hl j (by simp)
    obtain ⟨p1, p2, p3, p4, p5⟩ := push_inv h hs a b (Rch.step hi c)
    obtain ⟨q1, q2, q3, q4, q5⟩ := ih _ _ p1 p2 (fun m hm => hl m (by simp [hm]))
    refine ⟨q1, q2, ?_, fun m hm => q4 m (p4 m hm), Nat.le_trans q5 p5⟩
    intro m hm
    rcases List.mem_cons.mp hm with e | hm
    · subst e; exact q4 _ p3
    · exact q3 m hm
/-- What a worklist that marks when it takes holds. -/
structure InvI (n : Nat) (nx : Nat → List Int) (s : List Bool) (q : List Int) : Prop where
  len : s.length = n
  rng : ∀ j ∈ q, 0 ≤ j ∧ j < n ∧ Rch nx j.toNat
  rch : ∀ j, seen s j = true → Rch nx j
  cap : q.length + 2 * news s ≤ 1 + 2 * n
  zer : seen s 0 = true ∨ (0 : Int) ∈ q
  shut : ∀ j, seen s j = true → ∀ m ∈ nx j, seen s m.toNat = true ∨ m ∈ q
theorem take_inv {n : Nat} {nx : Nat → List Int} {s : List Bool} {i : Int} {q : List Int} (hn : ∀ a, a < n → (nx a).length ≤ 2 ∧ ∀ j ∈ nx a, 0 ≤ j ∧ j < n) (h : InvI n nx s (i :: q)) (hf : seen s i.toNat = false) : InvI n nx (s.set i.toNat true) (q ++ nx i.toNat) := by
  obtain ⟨h0, h1, hr⟩ := h.rng i (by simp)
  have hl : i.toNat < s.length := by rw [h.len]; omega
  obtain ⟨n1, n2⟩ := hn i.toNat (by omega)
  have hw := news_set hl hf
  refine ⟨by rw [List.length_set]; exact h.len, ?_, ?_, ?_, ?_, ?_⟩
  · intro j hj
    rcases List.mem_append.mp hj with hj | hj
    · exact h.rng j (by simp [hj])
    · exact ⟨(n2 j hj).1, (n2 j hj).2, Rch.step hr hj⟩
  · intro m hm
    rw [seen_set hl] at hm
    by_cases e : i.toNat = m
    · rw [← e]; exact hr
    · simp [e] at hm
      exact h.rch m hm
  · have := h.cap
    rw [List.length_cons] at this
    rw [List.length_append]
    omega
  · rw [seen_set hl]
    rcases h.zer with z | z
    · left; rw [z, Bool.or_true]
    · rcases List.mem_cons.mp z with z | z
      · left
        rw [← z]
        simp
      · right
        exact List.mem_append.mpr (Or.inl z)
  · intro j hj m hm
    rw [seen_set hl] at hj
    by_cases e : i.toNat = j
    · right
      rw [← e] at hm
      exact List.mem_append.mpr (Or.inr hm)
    · simp [e] at hj
      rw [seen_set hl]
      rcases h.shut j hj m hm with z | z
      · left; rw [z, Bool.or_true]
      · rcases List.mem_cons.mp z with z | z
        · left
          rw [z]
          simp
        · right
          exact List.mem_append.mpr (Or.inl z)
theorem skip_inv {n : Nat} {nx : Nat → List Int} {s : List Bool} {i : Int} {q : List Int} (h : InvI n nx s (i :: q)) (hf : seen s i.toNat = true) : InvI n nx s q := by
  refine ⟨h.len, fun j hj => h.rng j (by simp [hj]), h.rch, ?_, ?_, ?_⟩
  · have := h.cap
    rw [List.length_cons] at this
    omega
  · rcases h.zer with z | z
    · left; exact z
    · rcases List.mem_cons.mp z with z | z
      · left
        rw [← z] at hf
        exact hf
      · right; exact z
  · intro j hj m hm
    rcases h.shut j hj m hm with z | z
    · left; exact z
    · rcases List.mem_cons.mp z with z | z
      · left; rw [z]; exact hf
      · right; exact z
theorem seen_ext {s t : List Bool} (hl : s.length = t.length) (h : ∀ j, seen s j = true ↔ seen t j = true) : s = t := by
  apply List.ext_getElem hl
  intro i h1 h2
  have := h i
  unfold seen at this
  rw [List.getD_eq_getElem?_getD, List.getElem?_eq_getElem h1, List.getD_eq_getElem?_getD, List.getElem?_eq_getElem h2] at this
  simp only [Option.getD_some] at this
  exact Bool.eq_iff_iff.mpr this
theorem endS {n : Nat} {nx : Nat → List Int} {s : List Bool} (h : InvS n nx s []) (hs : ∀ j, seen s j = true → ∀ m ∈ nx j, seen s m.toNat = true) : ∀ j, seen s j = true ↔ Rch nx j := by
  intro j
  refine ⟨h.rch j, fun r => ?_⟩
  induction r with
  | zero => exact h.zer
  | step _ hm ih => exact hs _ ih _ hm
theorem endI {n : Nat} {nx : Nat → List Int} {s : List Bool} (h : InvI n nx s []) : ∀ j, seen s j = true ↔ Rch nx j := by
  intro j
  refine ⟨h.rch j, fun r => ?_⟩
  induction r with
  | zero => exact h.zer.resolve_right (by simp)
  | step _ hm ih => exact (h.shut _ ih _ hm).resolve_right (by simp)
def deadL : List Bool → Nat → List Int
  | [], _ => []
  | b :: t, i => if b = true then deadL t (i + 1) else (i : Int) :: deadL t (i + 1)
theorem deadL_length : ∀ (s : List Bool) (i : Nat), (deadL s i).length ≤ s.length := by
  intro s
  induction s with
  | nil => intro i; simp [deadL]
  | cons b t ih =>
    intro i
    unfold deadL
    have := ih (i + 1)
    split <;> simp <;> omega

end Go.Proofs.Ytnbaojaocagjcaa.P
end
section
-- Written for this claim by gp.py over the kit's print; not trusted: Lean checks it.



namespace Go.Proofs.Ytnbaojaocagjcaa.P
open Go.RowKit Go.Proofs.YtnbaojaocagjcaaW.PrintWords Go.Proofs.YtnbaojaocagjcaaW.PrintLast Go.Proofs.YtnbaojaocagjcaaW.PrintMore
set_option linter.unusedVariables false
set_option linter.unusedSimpArgs false

theorem Ev.pos {α : Type} {c : Prop} [Decidable c] {f g : Nat → Option α} {r : α} (h : c) (k : Ev f r) : Ev (fun n => if c then f n else g n) r := Ev.congr (fun n => if_pos h) k
theorem Ev.neg {α : Type} {c : Prop} [Decidable c] {f g : Nat → Option α} {r : α} (h : ¬ c) (k : Ev g r) : Ev (fun n => if c then f n else g n) r := Ev.congr (fun n => if_neg h) k
theorem Ev.val {α β : Type} {a : α} {f : Nat → α → Option β} {r : β} (k : Ev (fun n => f n a) r) : Ev (fun n => (some a).bind (f n)) r := Ev.congr (fun n => rfl) k
theorem wrap_in {x : Int} (h : -9223372036854775808 ≤ x) (h' : x ≤ 9223372036854775807) : wrap64 x = x := by
  unfold wrap64
  omega
theorem wrap_succ {i n : Nat} (h : i < n) (hn : n ≤ 9223372036854775807) : wrap64 ((i : Int) + 1) = ((i + 1 : Nat) : Int) := by
  rw [wrap_in (by omega) (by omega)]
  omega
/-- A loop over 0 .. n - 1. -/
theorem ev_upto {ρ : Type} {n : Nat} {r : ρ} (P : Nat → Prop) (hend : P n) (hstep : ∀ i, i < n → P (i + 1) → P i) : ∀ i, i ≤ n → P i := by
  have key : ∀ d i, i + d = n → P i := by
    intro d
    induction d with
    | zero =>
      intro i hi
      have : i = n := by omega
      exact this ▸ hend
    | succ d ih =>
      intro i hi
      exact hstep i (by omega) (ih (i + 1) (by omega))
  intro i hi
  exact key (n - i) i (by omega)
theorem fill_set {α : Type} {m : List α} {z : α} {i : Nat} (h : i < m.length) : (m.take i ++ List.replicate (m.length - i) z).set i (m.getD i z) = m.take (i + 1) ++ List.replicate (m.length - (i + 1)) z := by
  rw [List.set_append_right _ _ (by rw [List.length_take]; omega), List.length_take, Nat.min_eq_left (by omega), Nat.sub_self]
  rw [show m.length - i = (m.length - (i + 1)) + 1 from by omega, List.replicate_succ, List.set_cons_zero, List.take_succ_eq_append_getElem h, List.append_assoc]
  simp [List.getD_eq_getElem?_getD, List.getElem?_eq_getElem h]
theorem fill_zero {α : Type} {m : List α} {z : α} : m.take 0 ++ List.replicate (m.length - 0) z = List.replicate m.length z := by simp
theorem fill_all {α : Type} {m : List α} {z : α} : m.take m.length ++ List.replicate (m.length - m.length) z = m := by simp
theorem rd_nat (l : List Int) (i : Nat) : rd l (i : Int) = l.getD i 0 := rfl
/-- Numbers that follow each other. -/
def iota (m : Int) (n : Nat) : List Int := (List.range n).map fun (j : Nat) => m + (j : Int)
theorem iota_length (m : Int) (n : Nat) : (iota m n).length = n := by simp [iota]
theorem iota_getD {m : Int} {n i : Nat} (h : i < n) : (iota m n).getD i 0 = m + i := by simp [iota, List.getD_eq_getElem?_getD, h]
theorem set_mark {α : Type} {m l : List α} {z : α} {i : Nat} (hl : l.length = m.length) (h : i < m.length) : (m.take i ++ l.drop i).set i (m.getD i z) = m.take (i + 1) ++ l.drop (i + 1) := by
  rw [List.set_append_right _ _ (by rw [List.length_take]; omega), List.length_take, Nat.min_eq_left (by omega), Nat.sub_self]
  rw [List.drop_eq_getElem_cons (by omega), List.set_cons_zero, List.take_succ_eq_append_getElem h, List.append_assoc]
  simp [List.getD_eq_getElem?_getD, List.getElem?_eq_getElem h]
end Go.Proofs.Ytnbaojaocagjcaa.P
end
section
-- Written for this claim by gp.py over the kit's print; not trusted: Lean checks it.






namespace Go.Proofs.Ytnbaojaocagjcaa.P
open Go.RowKit Go.Proofs.YtnbaojaocagjcaaW.PrintWords Go.Proofs.YtnbaojaocagjcaaW.PrintLast Go.Proofs.YtnbaojaocagjcaaW.PrintMore
set_option linter.unusedVariables false
set_option linter.unusedSimpArgs false

theorem nxt_len (l : List S59) (i : Nat) : (nxt l i).length ≤ 2 := by
  unfold nxt
  rw [List.length_append]
  split <;> split <;> simp
section
variable {l : List S59} {x0 : List Int} {x1 x2 : Int}
theorem ev_Dead_l2 (s : List Bool) (hs : s.length ≤ 1048576) : Ev (fun k => spec_Dead.l2 k [] s 0) (deadL s 0) := by
  have key := ev_upto (ρ := Unit) (r := ()) (n := s.length) (fun i => ∀ acc : List Int, acc.length ≤ i → Ev (fun k => spec_Dead.l2 k acc s (i : Int)) (acc ++ deadL (s.drop i) i)) ?_ ?_ 0 (by omega)
  · exact key [] (by simp)
  · intro acc _
    refine Ev.step (fun k => by rw [spec_Dead.l2]) ?_
    rw [List.drop_length]
    simp only [deadL, List.append_nil]
    exact Ev.neg (by omega) (Ev.now _)
  · intro i hi h acc ha
    refine Ev.step (fun k => by rw [spec_Dead.l2]) ?_
    refine Ev.pos (by omega) (Ev.pos (by omega) ?_)
    rw [wrap_succ hi (by omega), List.drop_eq_getElem_cons hi, rdOf_nat]
    have e : seen s i = s[i] := by simp [seen, List.getD_eq_getElem?_getD, hi]
    rw [e]
    unfold deadL
    cases hb : s[i] with
    | true => exact Ev.pos rfl (h acc (by omega))
    | false =>
      refine Ev.neg (by decide) (Ev.pos (by omega) ?_)
      have := h (acc ++ [(i : Int)]) (by rw [List.length_append, List.length_singleton]; omega)
      rw [List.append_assoc] at this
      exact this
theorem ev_Dead_l1i (s : List Bool) (hs : s.length ≤ 1048576) : Ev (fun k => impl_Dead.l1 k [] s (s.length : Int) 0) (deadL s 0) := by
  have key := ev_upto (ρ := Unit) (r := ()) (n := s.length) (fun i => ∀ acc : List Int, acc.length ≤ i → Ev (fun k => impl_Dead.l1 k acc s (s.length : Int) (i : Int)) (acc ++ deadL (s.drop i) i)) ?_ ?_ 0 (by omega)
  · exact key [] (by simp)
  · intro acc _
    refine Ev.step (fun k => by rw [impl_Dead.l1]) ?_
    rw [List.drop_length]
    simp only [deadL, List.append_nil]
    exact Ev.neg (by omega) (Ev.now _)
  · intro i hi h acc ha
    refine Ev.step (fun k => by rw [impl_Dead.l1]) ?_
    refine Ev.pos (by omega) (Ev.pos (by omega) (Ev.pos (by omega) ?_))
    rw [wrap_succ hi (by omega), List.drop_eq_getElem_cons hi, rdOf_nat]
    have e : seen s i = s[i] := by simp [seen, List.getD_eq_getElem?_getD, hi]
    rw [e]
    unfold deadL
    cases hb : s[i] with
    | true => exact Ev.pos rfl (h acc (by omega))
    | false =>
      refine Ev.neg (by decide) (Ev.pos (by omega) ?_)
      have := h (acc ++ [(i : Int)]) (by rw [List.length_append, List.length_singleton]; omega)
      rw [List.append_assoc] at this
      exact this
/-- What the pushes of a list leave. -/
theorem ev_Dead_l1 {ys acc : List Int} {r : List Int} {n : Nat} (hn : n ≤ 1048576) (hy : ys.length ≤ 2) :
    ∀ (d i : Nat) (s : List Bool) (q : List Int), i + d = ys.length → s.length = n → q.length + d ≤ 4 * n + 8 → (∀ j ∈ ys, 0 ≤ j ∧ j < n) →
    Ev (fun k => spec_Dead.l0 k acc ((ys.drop i).foldl pushOne (s, q)).1 ((ys.drop i).foldl pushOne (s, q)).2 x0 x1 x2 l) r → Ev (fun k => spec_Dead.l1 k acc s q ys (i : Int) x0 x1 x2 l) r := by
  intro d
  induction d with
  | zero =>
    intro i s q hi hs hq hr he
    have e : i = ys.length := by omega
    subst e
    rw [List.drop_length] at he
    refine Ev.step (fun k => by rw [spec_Dead.l1]) ?_
    exact Ev.neg (by omega) he
  | succ d ih =>
    intro i s q hi hs hq hr he
    have hi' : i < ys.length := by omega
    obtain ⟨j0, j1⟩ := hr ys[i] (List.getElem_mem hi')
    have hrd : rd ys (i : Int) = ys[i] := by rw [rd_nat, List.getD_eq_getElem?_getD, List.getElem?_eq_getElem hi']; rfl
    rw [List.drop_eq_getElem_cons hi', List.foldl_cons] at he
    refine Ev.step (fun k => by rw [spec_Dead.l1]) ?_
    refine Ev.pos (by omega) (Ev.pos (by omega) ?_)
    rw [hrd]
    refine Ev.pos j0 (Ev.pos (by omega) ?_)
    rw [wrap_succ hi' (by omega)]
    have hse : rdOf false s ys[i] = seen s ys[i].toNat := rfl
    rw [hse]
    by_cases hc : seen s ys[i].toNat = true
    · refine Ev.pos hc ?_
      have e : pushOne (s, q) ys[i] = (s, q) := by unfold pushOne; rw [if_pos hc]
      rw [e] at he
      exact ih (i + 1) s q (by omega) hs (by omega) hr he
    · refine Ev.neg hc (Ev.pos (by omega) ?_)
      have e : pushOne (s, q) ys[i] = (s.set ys[i].toNat true, q ++ [ys[i]]) := by unfold pushOne; rw [if_neg hc]
      rw [e] at he
      exact ih (i + 1) _ _ (by omega) (by rw [List.length_set]; exact hs) (by rw [List.length_append, List.length_singleton]; omega) hr he
theorem ev_Dead_turn {acc q : List Int} {s : List Bool} {r : List Int} {i : Int} (hn : l.length ≤ 1048576) (h0 : 0 ≤ i) (h1 : i < l.length) (hs : s.length = l.length) (hq : q.length ≤ l.length) (hr : ∀ j ∈ nxt l i.toNat, 0 ≤ j ∧ j < l.length)
    (he : Ev (fun k => spec_Dead.l0 k acc ((nxt l i.toNat).foldl pushOne (s, q)).1 ((nxt l i.toNat).foldl pushOne (s, q)).2 x0 x1 x2 l) r) : Ev (fun k => spec_Dead.l0 k acc s (i :: q) x0 x1 x2 l) r := by
  have hl := nxt_len l i.toNat
  have key : Ev (fun k => spec_Dead.j3 k acc s q (nxt l i.toNat) x0 x1 x2 l) r := by
    refine Ev.step (fun k => by rw [spec_Dead.j3]) ?_
    exact ev_Dead_l1 (n := l.length) hn hl (nxt l i.toNat).length 0 s q (by omega) hs (by omega) hr he
  have ei : ((i.toNat : Nat) : Int) = i := by omega
  have hop : opAt l i.toNat = (rd_T59 l i).f0 := by unfold opAt; rw [ei]
  have hw : wrap64 (i + 1) = ((i.toNat + 1 : Nat) : Int) := by rw [wrap_in (by omega) (by omega)]; omega
  refine Ev.step (fun k => by rw [spec_Dead.l0]) ?_
  have hrd : rd (i :: q) 0 = i := rfl
  refine Ev.pos (by simp <;> omega) (Ev.pos (by simp <;> omega) (Ev.pos (by simp <;> omega) ?_))
  rw [hrd]
  refine Ev.val (Ev.val (Ev.pos h0 (Ev.pos h1 ?_)))
  unfold spec_l13Goes.f
  show Ev (fun k => (if (rd_T59 l i).f0 = 8 then some true else some ((rd_T59 l i).f0 == 9)).bind fun t121 => if t121 = true then if ([] : List Int).length < 17592186044416 then spec_Dead.j1 k acc s q i [(rd_T59 l i).f4] x0 x1 x2 l else none else spec_Dead.j1 k acc s q i [] x0 x1 x2 l) r
  unfold nxt at key
  rw [hop, ei] at key
  by_cases h8 : (rd_T59 l i).f0 = 8
  · rw [if_pos h8]
    rw [if_pos (Or.inl h8), if_pos (Or.inl h8), List.append_nil] at key
    refine Ev.val (Ev.pos rfl (Ev.pos (by simp) ?_))
    refine Ev.step (fun k => by rw [spec_Dead.j1]) ?_
    refine Ev.pos h0 (Ev.pos h1 (Ev.pos h8 ?_))
    refine Ev.step (fun k => by rw [spec_Dead.j2]) ?_
    exact Ev.neg (by decide) key
  · rw [if_neg h8]
    have tail : ∀ ys : List Int, ys.length ≤ 1 → Ev (fun k => spec_Dead.j3 k acc s q (ys ++ (if (rd_T59 l i).f0 = 8 ∨ (rd_T59 l i).f0 = 10 then [] else [((i.toNat + 1 : Nat) : Int)])) x0 x1 x2 l) r → Ev (fun k => spec_Dead.j1 k acc s q i ys x0 x1 x2 l) r := by
      intro ys hys hk
      refine Ev.step (fun k => by rw [spec_Dead.j1]) ?_
      refine Ev.pos h0 (Ev.pos h1 (Ev.neg h8 ?_))
      refine Ev.step (fun k => by rw [spec_Dead.j2]) ?_
      by_cases h10 : (rd_T59 l i).f0 = 10
      · rw [if_pos (Or.inr h10), List.append_nil] at hk
        exact Ev.neg (by rw [h10]; decide) hk
      · rw [if_neg (fun h => h.elim h8 h10)] at hk
        refine Ev.pos (by simp [h10]) (Ev.pos (by omega) ?_)
        rw [hw]
        exact hk
    refine Ev.val ?_
    by_cases h9 : (rd_T59 l i).f0 = 9
    · refine Ev.pos (by rw [h9]; rfl) (Ev.pos (by simp) ?_)
      rw [if_pos (Or.inr h9)] at key
      exact tail _ (by simp) key
    · refine Ev.neg (by simp [h9]) ?_
      rw [if_neg (fun h => h.elim h8 h9)] at key
      exact tail [] (by simp) key
theorem ev_Dead_seek {r : List Int} (hn : l.length ≤ 1048576) (hx : ∀ a, a < l.length → ∀ j ∈ nxt l a, 0 ≤ j ∧ j < l.length)
    (hend : ∀ s : List Bool, s.length = l.length → (∀ j, seen s j = true ↔ Rch (nxt l) j) → Ev (fun k => spec_Dead.l2 k [] s 0) r) :
    ∀ (m : Nat) (s : List Bool) (q : List Int), 2 * news s + q.length ≤ m → InvS l.length (nxt l) s q → (∀ j, seen s j = true → (j : Int) ∉ q → ∀ m ∈ nxt l j, seen s m.toNat = true) → Ev (fun k => spec_Dead.l0 k [] s q x0 x1 x2 l) r := by
  intro m
  induction m with
  | zero =>
    intro s q hm h hs
    cases q with
    | cons i q => rw [List.length_cons] at hm; omega
    | nil =>
      refine Ev.step (fun k => by rw [spec_Dead.l0]) ?_
      exact Ev.neg (by simp) (hend s h.len (endS h (fun j hj => hs j hj (by simp))))
  | succ m ih =>
    intro s q hm h hs
    cases q with
    | nil =>
      refine Ev.step (fun k => by rw [spec_Dead.l0]) ?_
      exact Ev.neg (by simp) (hend s h.len (endS h (fun j hj => hs j hj (by simp))))
    | cons i q =>
      obtain ⟨h0, h1, h2⟩ := h.rng i (by simp)
      have hi : i.toNat < l.length := by omega
      have hR := h.rch _ h2
      have hc := h.cap
      rw [List.length_cons] at hc hm
      have g : InvS l.length (nxt l) s q := ⟨h.len, fun j hj => h.rng j (by simp [hj]), h.rch, by omega, h.zer⟩
      have gs : Shut (nxt l) s q i.toNat := by
        intro j hj hq hji
        refine hs j hj ?_
        intro hmem
        rcases List.mem_cons.mp hmem with e | e
        · exact hji (by omega)
        · exact hq e
      obtain ⟨a1, a2, a3, a4, a5⟩ := push_all hR (nxt l i.toNat) s q g gs (fun j hj => ⟨(hx _ hi j hj).1, (hx _ hi j hj).2, hj⟩)
      refine ev_Dead_turn hn h0 h1 h.len (by omega) (hx _ hi) ?_
      refine ih _ _ (by omega) a1 ?_
      intro j hj hq
      by_cases e : j = i.toNat
      · intro m hm'
        rw [e] at hm'
        exact a3 m hm'
      · exact a2 j hj hq e
theorem ev_Dead_take {q : List Int} {s : List Bool} {r : List Int} {i : Int} (hn : l.length ≤ 1048576) (h0 : 0 ≤ i) (h1 : i < l.length) (hs : s.length = l.length) (hq : q.length ≤ 4 * l.length + 4) (hf : seen s i.toNat = false)
    (he : Ev (fun k => impl_Dead.l0 k (s.set i.toNat true) (q ++ nxt l i.toNat) x0 x1 x2 l) r) : Ev (fun k => impl_Dead.l0 k s (i :: q) x0 x1 x2 l) r := by
  have ei : ((i.toNat : Nat) : Int) = i := by omega
  have hop : opAt l i.toNat = (rd_T59 l i).f0 := by unfold opAt; rw [ei]
  have hw : wrap64 (i + 1) = ((i.toNat + 1 : Nat) : Int) := by rw [wrap_in (by omega) (by omega)]; omega
  refine Ev.step (fun k => by rw [impl_Dead.l0]) ?_
  have hrd : rd (i :: q) 0 = i := rfl
  refine Ev.pos (by simp <;> omega) (Ev.pos (by simp <;> omega) (Ev.pos (by simp <;> omega) ?_))
  rw [hrd]
  refine Ev.val (Ev.pos h0 (Ev.pos (by omega) ?_))
  have hse : rdOf false s i = seen s i.toNat := rfl
  rw [hse]
  refine Ev.neg (by rw [hf]; decide) (Ev.val (Ev.pos h1 ?_))
  unfold nxt at he
  rw [hop, ei] at he
  show Ev (fun k => if (rd_T59 l i).f0 = 8 then impl_Dead.j1 k (s.set i.toNat true) q i true x0 x1 x2 l (rd_T59 l i).f0 (rd_T59 l i).f1 (rd_T59 l i).f2 (rd_T59 l i).f3 (rd_T59 l i).f4 else impl_Dead.j1 k (s.set i.toNat true) q i ((rd_T59 l i).f0 == 9) x0 x1 x2 l (rd_T59 l i).f0 (rd_T59 l i).f1 (rd_T59 l i).f2 (rd_T59 l i).f3 (rd_T59 l i).f4) r
  generalize (rd_T59 l i).f0 = o at *
  generalize (rd_T59 l i).f4 = v at *
  by_cases h8 : o = 8
  · rw [if_pos (Or.inl h8), if_pos (Or.inl h8), List.append_nil] at he
    refine Ev.pos h8 ?_
    refine Ev.step (fun k => by rw [impl_Dead.j1]) ?_
    exact Ev.pos rfl (Ev.pos (by omega) (Ev.val (Ev.pos h8 he)))
  · refine Ev.neg h8 ?_
    refine Ev.step (fun k => by rw [impl_Dead.j1]) ?_
    by_cases h9 : o = 9
    · rw [if_pos (Or.inr h9), if_neg (by omega)] at he
      refine Ev.pos (by rw [h9]; rfl) (Ev.pos (by omega) (Ev.val (Ev.neg h8 (Ev.neg (by omega) (Ev.pos (by rw [List.length_append, List.length_singleton]; omega) ?_)))))
      rw [hw, List.append_assoc]
      exact he
    · rw [if_neg (fun h => h.elim h8 h9), List.nil_append] at he
      refine Ev.neg (by simp [h9]) (Ev.neg h8 ?_)
      by_cases h10 : o = 10
      · rw [if_pos (Or.inr h10), List.append_nil] at he
        exact Ev.pos h10 he
      · rw [if_neg (fun h => h.elim h8 h10)] at he
        refine Ev.neg h10 (Ev.pos (by omega) ?_)
        rw [hw]
        exact he
theorem ev_Dead_look {r : List Int} (hn : l.length ≤ 1048576) (hx : ∀ a, a < l.length → ∀ j ∈ nxt l a, 0 ≤ j ∧ j < l.length)
    (hend : ∀ s : List Bool, s.length = l.length → (∀ j, seen s j = true ↔ Rch (nxt l) j) → Ev (fun k => impl_Dead.l1 k [] s (s.length : Int) 0) r) :
    ∀ (m : Nat) (s : List Bool) (q : List Int), 3 * news s + q.length ≤ m → InvI l.length (nxt l) s q → Ev (fun k => impl_Dead.l0 k s q x0 x1 x2 l) r := by
  intro m
  induction m with
  | zero =>
    intro s q hm h
    cases q with
    | cons i q => rw [List.length_cons] at hm; omega
    | nil =>
      refine Ev.step (fun k => by rw [impl_Dead.l0]) ?_
      exact Ev.neg (by simp) (hend s h.len (endI h))
  | succ m ih =>
    intro s q hm h
    cases q with
    | nil =>
      refine Ev.step (fun k => by rw [impl_Dead.l0]) ?_
      exact Ev.neg (by simp) (hend s h.len (endI h))
    | cons i q =>
      obtain ⟨h0, h1, h2⟩ := h.rng i (by simp)
      have hi : i.toNat < s.length := by rw [h.len]; omega
      have hc := h.cap
      rw [List.length_cons] at hc hm
      by_cases hf : seen s i.toNat = true
      · have g := skip_inv h hf
        refine Ev.step (fun k => by rw [impl_Dead.l0]) ?_
        have hrd : rd (i :: q) 0 = i := rfl
        refine Ev.pos (by simp <;> omega) (Ev.pos (by simp <;> omega) (Ev.pos (by simp <;> omega) ?_))
        rw [hrd]
        refine Ev.val (Ev.pos h0 (Ev.pos (by omega) (Ev.pos hf ?_)))
        exact ih s q (by omega) g
      · have hf' : seen s i.toNat = false := by simpa using hf
        have g := take_inv (fun a ha => ⟨nxt_len l a, hx a ha⟩) h hf'
        have hw := news_set hi hf'
        have hl := nxt_len l i.toNat
        refine ev_Dead_take hn h0 h1 h.len (by omega) hf' ?_
        exact ih _ _ (by rw [List.length_append]; omega) g
end

end Go.Proofs.Ytnbaojaocagjcaa.P
end
section
-- Written for this claim by gp.py over the kit's print; not trusted: Lean checks it.




namespace Go.Proofs.Ytnbaojaocagjcaa.P
open Go.RowKit Go.Proofs.YtnbaojaocagjcaaW.PrintWords Go.Proofs.YtnbaojaocagjcaaW.PrintLast Go.Proofs.YtnbaojaocagjcaaW.PrintMore
set_option linter.unusedVariables false
set_option linter.unusedSimpArgs false

theorem ev_toIntS (l : List Int) (hl : l.length ≤ 35184372088832) : Ev (fun k => laws_toIntS.f k l) l := by
  refine Ev.congr (f := fun k => laws_toIntS.l0 k l (List.replicate l.length 0) 0) (fun k => ?_) ?_
  · unfold laws_toIntS.f
    rw [if_pos (by omega), if_pos (by omega)]
    rfl
  · have key := ev_upto (r := l) (n := l.length) (fun i => Ev (fun k => laws_toIntS.l0 k l (l.take i ++ List.replicate (l.length - i) 0) (i : Int)) l) ?_ ?_ 0 (by omega)
    · simpa using key
    · refine Ev.step (fun k => by rw [laws_toIntS.l0]) ?_
      refine Ev.neg (by omega) ?_
      rw [fill_all]
      exact Ev.now l
    · intro i hi h
      refine Ev.step (fun k => by rw [laws_toIntS.l0]) ?_
      refine Ev.pos (by omega) (Ev.pos (by omega) (Ev.pos (by simp; omega) ?_))
      rw [wrap_succ hi (by omega), rd_nat, Int.toNat_natCast, fill_set hi]
      exact h
theorem ev_eqIntS (l : List Int) (hl : l.length ≤ 9223372036854775807) : Ev (fun k => laws_eqIntS.f k l l) true := by
  refine Ev.congr (f := fun k => laws_eqIntS.l0 k l l 0) (fun k => ?_) ?_
  · unfold laws_eqIntS.f
    rw [if_pos rfl]
  · refine ev_upto (r := true) (n := l.length) (fun i => Ev (fun k => laws_eqIntS.l0 k l l (i : Int)) true) ?_ ?_ 0 (by omega)
    · refine Ev.step (fun k => by rw [laws_eqIntS.l0]) ?_
      exact Ev.neg (by omega) (Ev.now _)
    · intro i hi h
      refine Ev.step (fun k => by rw [laws_eqIntS.l0]) ?_
      refine Ev.pos (by omega) (Ev.pos (by omega) (Ev.pos (by omega) (Ev.pos rfl ?_)))
      rw [wrap_succ hi hl]
      exact h

end Go.Proofs.Ytnbaojaocagjcaa.P
end
section
-- Written for this claim by gp.py over the kit's print; not trusted: Lean checks it.






namespace Go.Proofs.Ytnbaojaocagjcaa.P
open Go.RowKit Go.Proofs.YtnbaojaocagjcaaW.PrintWords Go.Proofs.YtnbaojaocagjcaaW.PrintLast Go.Proofs.YtnbaojaocagjcaaW.PrintMore
set_option linter.unusedVariables false
set_option linter.unusedSimpArgs false

def toWord (x : S78) : S59 := ⟨x.f0, x.f1, x.f2, x.f3, x.f4⟩
theorem ev_toWordS (l : List S78) (hl : l.length ≤ 7036874417766) : Ev (fun k => laws_toWordS.f k l) (l.map toWord) := by
  refine Ev.congr (f := fun k => laws_toWordS.l0 k l (List.replicate l.length z59) 0) (fun k => ?_) ?_
  · unfold laws_toWordS.f
    rw [if_pos (by omega), if_pos (by omega)]
    rfl
  · have key := ev_upto (r := l.map toWord) (n := l.length) (fun i => Ev (fun k => laws_toWordS.l0 k l ((l.map toWord).take i ++ List.replicate ((l.map toWord).length - i) z59) (i : Int)) (l.map toWord)) ?_ ?_ 0 (by omega)
    · rw [fill_zero, List.length_map] at key
      exact key
    · refine Ev.step (fun k => by rw [laws_toWordS.l0]) ?_
      refine Ev.neg (by omega) ?_
      have e := fill_all (m := l.map toWord) (z := z59)
      rw [List.length_map] at e
      rw [List.length_map, e]
      exact Ev.now _
    · intro i hi h
      refine Ev.step (fun k => by rw [laws_toWordS.l0]) ?_
      refine Ev.pos (by omega) (Ev.pos (by omega) ?_)
      unfold laws_toWord.f
      refine Ev.val (Ev.pos (by simp; omega) ?_)
      have hc : toWord (rd_T78 l (i : Int)) = (l.map toWord).getD i z59 := by
        simp [rd_T78, List.getD_eq_getElem?_getD, hi]
      have hf := fill_set (m := l.map toWord) (z := z59) (i := i) (by rw [List.length_map]; exact hi)
      rw [← hc] at hf
      rw [wrap_succ hi (by omega), Int.toNat_natCast]
      have e := hf ▸ h
      exact e
theorem ev_eqWordS (l : List S59) (hl : l.length ≤ 9223372036854775807) : Ev (fun k => laws_eqWordS.f k l l) true := by
  refine Ev.congr (f := fun k => laws_eqWordS.l0 k l l 0) (fun k => ?_) ?_
  · unfold laws_eqWordS.f
    rw [if_pos rfl]
  · refine ev_upto (r := true) (n := l.length) (fun i => Ev (fun k => laws_eqWordS.l0 k l l (i : Int)) true) ?_ ?_ 0 (by omega)
    · refine Ev.step (fun k => by rw [laws_eqWordS.l0]) ?_
      exact Ev.neg (by omega) (Ev.now _)
    · intro i hi h
      refine Ev.step (fun k => by rw [laws_eqWordS.l0]) ?_
      refine Ev.pos (by omega) (Ev.pos (by omega) (Ev.pos (by omega) ?_))
      unfold laws_eqWord.f
      simp only [if_true]
      refine Ev.val (Ev.pos rfl ?_)
      rw [wrap_succ hi hl]
      exact h

end Go.Proofs.Ytnbaojaocagjcaa.P
end
section
-- Written for this claim by gp.py over the kit's print; not trusted: Lean checks it.









namespace Go.Proofs.Ytnbaojaocagjcaa.P
open Go.RowKit Go.Proofs.YtnbaojaocagjcaaW.PrintWords Go.Proofs.YtnbaojaocagjcaaW.PrintLast Go.Proofs.YtnbaojaocagjcaaW.PrintMore
set_option linter.unusedVariables false
set_option linter.unusedSimpArgs false

theorem sz_ints (l : List Int) (a : Int) (ha : 0 ≤ a) (ha' : a ≤ 1048576) (hl : l.length ≤ 9223372036854775807) : ∃ t, laws_szIntS.f l a = some t ∧ t ≤ a ∧ (0 ≤ t → t + l.length = a) := by
  unfold laws_szIntS.f
  rw [wrap_in (by omega) (by omega)]
  split
  · exact ⟨-1, rfl, by omega, by omega⟩
  · exact ⟨_, rfl, by omega, by omega⟩
theorem sz_words (l : List S78) (a : Int) (ha : 0 ≤ a) (ha' : a ≤ 1048576) (hl : l.length ≤ 9223372036854775807) : ∃ t, laws_szWordS.f l a = some t ∧ t ≤ a ∧ (0 ≤ t → t + l.length = a) := by
  unfold laws_szWordS.f
  rw [wrap_in (by omega) (by omega)]
  split
  · exact ⟨-1, rfl, by omega, by omega⟩
  · exact ⟨_, rfl, by omega, by omega⟩
theorem sz_image (x0 : List Int) (x1 x2 : Int) (x3 : List S78) (a : Int) (ha : 0 ≤ a) (ha' : a ≤ 1048576) (h0 : x0.length ≤ 9223372036854775807) (h3 : x3.length ≤ 9223372036854775807) :
    ∃ t, laws_szImage.f x0 x1 x2 x3 a = some t ∧ t ≤ 1048576 ∧ (0 ≤ t → x0.length ≤ 1048576 ∧ x3.length ≤ 1048576) := by
  obtain ⟨t, e1, e2, e3⟩ := sz_ints x0 a ha ha' h0
  unfold laws_szImage.f
  rw [e1]
  simp only [Option.bind_some]
  by_cases ht : t < 0
  · rw [if_pos ht]
    exact ⟨-1, rfl, by omega, by omega⟩
  · rw [if_neg ht]
    obtain ⟨u, f1, f2, f3⟩ := sz_words x3 t (by omega) (by omega) h3
    rw [f1]
    simp only [Option.bind_some]
    by_cases hu : u < 0
    · rw [if_pos hu]
      exact ⟨-1, rfl, by omega, by omega⟩
    · rw [if_neg hu]
      exact ⟨_, rfl, by omega, by omega⟩
theorem ev_toImage (x0 : List Int) (x1 x2 : Int) (x3 : List S78) (h0 : x0.length ≤ 1048576) (h3 : x3.length ≤ 1048576) : Ev (fun k => laws_toImage.f k x0 x1 x2 x3) (x0, x1, x2, x3.map toWord) := by
  unfold laws_toImage.f
  exact Ev.bind (ev_toIntS x0 (by omega)) (Ev.bind (ev_toWordS x3 (by omega)) (Ev.now _))
theorem ev_eqImage (x0 : List Int) (x1 x2 : Int) (x3 : List S59) (h0 : x0.length ≤ 9223372036854775807) (h3 : x3.length ≤ 9223372036854775807) : Ev (fun k => laws_eqImage.f k x0 x1 x2 x3 x0 x1 x2 x3) true := by
  unfold laws_eqImage.f
  refine Ev.bind (ev_eqIntS x0 h0) ?_
  refine Ev.pos rfl (Ev.pos rfl (Ev.pos rfl ?_))
  refine Ev.bind (ev_eqWordS x3 h3) ?_
  exact Ev.pos rfl (Ev.now _)

end Go.Proofs.Ytnbaojaocagjcaa.P
end
section
-- Written for this claim by gp.py over the kit's print; not trusted: Lean checks it.




namespace Go.Proofs.Ytnbaojaocagjcaa.P
open Go.RowKit Go.Proofs.YtnbaojaocagjcaaW.PrintWords Go.Proofs.YtnbaojaocagjcaaW.PrintLast Go.Proofs.YtnbaojaocagjcaaW.PrintMore
set_option linter.unusedVariables false
set_option linter.unusedSimpArgs false

theorem ev_markIntS (l : List Int) (m : Int) (hm : 0 ≤ m) (hl : m + l.length ≤ 4611686018427387904) : Ev (fun k => laws_markIntS.f k l m) (m + l.length, iota m l.length) := by
  have key := ev_upto (r := (m + (l.length : Int), iota m l.length)) (n := l.length) (fun i => Ev (fun k => laws_markIntS.l0 k ((iota m l.length).take i ++ l.drop i) (m + i) (i : Int)) (m + (l.length : Int), iota m l.length)) ?_ ?_ 0 (by omega)
  · refine Ev.congr (fun k => ?_) key
    unfold laws_markIntS.f
    simp
  · refine Ev.step (fun k => by rw [laws_markIntS.l0]) ?_
    refine Ev.neg (by simp [iota_length]) ?_
    rw [List.drop_length, List.append_nil, List.take_of_length_le (by rw [iota_length]; omega)]
    exact Ev.now _
  · intro i hi h
    refine Ev.step (fun k => by rw [laws_markIntS.l0]) ?_
    refine Ev.pos (by simp [iota_length]; omega) (Ev.pos (by omega) ?_)
    have h1 : m + (i : Int) = (iota m l.length).getD i 0 := (iota_getD hi).symm
    rw [wrap_succ hi (by omega), wrap_in (by omega) (by omega), Int.toNat_natCast]
    rw [show ((iota m l.length).take i ++ l.drop i).set i (m + (i : Int)) = (iota m l.length).take (i + 1) ++ l.drop (i + 1) from by rw [h1]; exact set_mark (by rw [iota_length]) (by rw [iota_length]; exact hi)]
    rw [show m + (i : Int) + 1 = m + ((i + 1 : Nat) : Int) from by omega]
    exact h
theorem ev_heldIntS (m : Int) (n : Nat) (hm : 0 ≤ m) (hl : m + n ≤ 4611686018427387904) : Ev (fun k => laws_heldIntS.f k (iota m n) m) (m + n) := by
  have key := ev_upto (r := m + (n : Int)) (n := n) (fun i => Ev (fun k => laws_heldIntS.l0 k (iota m n) (m + i) (i : Int)) (m + (n : Int))) ?_ ?_ 0 (by omega)
  · refine Ev.congr (fun k => ?_) key
    unfold laws_heldIntS.f
    simp
  · refine Ev.step (fun k => by rw [laws_heldIntS.l0]) ?_
    exact Ev.neg (by rw [iota_length]; omega) (Ev.now _)
  · intro i hi h
    refine Ev.step (fun k => by rw [laws_heldIntS.l0]) ?_
    refine Ev.pos (by rw [iota_length]; omega) (Ev.pos (by omega) (Ev.pos (by rw [rd_nat, iota_getD hi]) ?_))
    rw [wrap_succ hi (by omega), wrap_in (by omega) (by omega)]
    rw [show m + (i : Int) + 1 = m + ((i + 1 : Nat) : Int) from by omega]
    exact h

end Go.Proofs.Ytnbaojaocagjcaa.P
end
section
-- Written for this claim by gp.py over the kit's print; not trusted: Lean checks it.

namespace Go.Proofs.Ytnbaojaocagjcaa.P
open Go.RowKit Go.Proofs.YtnbaojaocagjcaaW.PrintWords Go.Proofs.YtnbaojaocagjcaaW.PrintLast Go.Proofs.YtnbaojaocagjcaaW.PrintMore
attribute [local go_sem] max2_int min2_int max_two min_two max_three min_three max_four min_four
set_option linter.unusedVariables false
set_option linter.unusedSimpArgs false

/-! ### laws_heldWordS: function 59 -/
def laws_heldWordS.l0 : Nat → List (S59) → Int → Int → Option (Int)
  | 0, _, _, _ => none
  | k + 1, x0, x1, x5 => if x5 < (x0.length : Int) then (if 0 ≤ x5 then (if ((rd_T59 x0 x5).f0) = x1 then (if ((rd_T59 x0 x5).f1) = (wrap64 (x1 + 1)) then (if ((rd_T59 x0 x5).f2) = (wrap64 ((wrap64 (x1 + 1)) + 1)) then (if ((rd_T59 x0 x5).f3) = (wrap64 ((wrap64 ((wrap64 (x1 + 1)) + 1)) + 1)) then (if ((rd_T59 x0 x5).f4) = (wrap64 ((wrap64 ((wrap64 ((wrap64 (x1 + 1)) + 1)) + 1)) + 1)) then (laws_heldWordS.l0 k x0 (wrap64 ((wrap64 ((wrap64 ((wrap64 ((wrap64 (x1 + 1)) + 1)) + 1)) + 1)) + 1)) (wrap64 (x5 + 1))) else (some (-1))) else (some (-1))) else (some (-1))) else (some (-1))) else (some (-1))) else (none)) else (some x1)
def laws_heldWordS.f (k : Nat) (l0 : List (S59)) (a1 : Int) : Option (Int) := laws_heldWordS.l0 k l0 a1 0
theorem laws_heldWordS.mono_l : ∀ k, (∀ y0 y1 y2, LeO (laws_heldWordS.l0 k y0 y1 y2) (laws_heldWordS.l0 (k + 1) y0 y1 y2))
  | 0 => fun _ _ _ r h => by simp [laws_heldWordS.l0] at h
  | k + 1 => by
    have ih0 := laws_heldWordS.mono_l k
    · intro y0 y1 y2
      unfold laws_heldWordS.l0
      repeat' first
      | (with_reducible exact ih0 _ _ _)
      | (with_reducible exact LeO.refl _)
      | (with_reducible exact LeO.none _)
      | (with_reducible refine LeO.ite ?_ ?_)
      | (with_reducible refine LeO.bind ?_ (fun _ => ?_))
      | exact ih0 _ _ _
      | exact LeO.none _
      | refine LeO.ite ?_ ?_
      | refine LeO.bind ?_ (fun _ => ?_)
theorem laws_heldWordS.mono : ∀ a0 a1 k, LeO (laws_heldWordS.f k a0 a1) (laws_heldWordS.f (k + 1) a0 a1) := by
  intro a0 a1 k
  have ih0 := laws_heldWordS.mono_l k
  unfold laws_heldWordS.f
  repeat' first
      | (with_reducible exact ih0 _ _ _)
      | (with_reducible exact LeO.refl _)
      | (with_reducible exact LeO.none _)
      | (with_reducible refine LeO.ite ?_ ?_)
      | (with_reducible refine LeO.bind ?_ (fun _ => ?_))
      | exact ih0 _ _ _
      | exact LeO.none _
      | refine LeO.ite ?_ ?_
      | refine LeO.bind ?_ (fun _ => ?_)
set_option maxHeartbeats 8000000 in
set_option maxRecDepth 100000 in
theorem laws_heldWordS.calls (k : Nat) (A0 : Option Addr) (c0 : Nat) (l0 : List (S59)) (a1 : Int) (r : Int) (w : World) (hr0 : Kd.C k59 w A0 l0.length l0) (hc0 : l0.length ≤ c0) (h : laws_heldWordS.f k l0 a1 = some r) :
    Calls Try.prog 59 #[.slice A0 l0.length c0, .int .i64 a1] w fun e w' => e = .returned (.int .i64 r) ∧ Drawn0 w w' := by
  have HR0 := Aside0.mk hr0
  have HC0 := Aside0.mk hc0
  clear hr0 hc0
  have H : (laws_heldWordS.l0 k l0 a1 0) = some r := h
  clear h
  have H' := Aside0.mk H
  clear H
  go_enter Try.func59, Try.ntmps59
  go_wp2
  go_loopg [1, 5] k (fun kq v1 v5 w' => ∃ (x1_1 : Int) (x5_1 : Int), v1 = .int .i64 x1_1 ∧ v5 = .int .i64 x5_1 ∧ Aside0 (laws_heldWordS.l0 kq l0 x1_1 x5_1 = some r) ∧ Aside0 (kq ≤ k) ∧ Drawn0 w w')
  case atStart => exact ⟨(a1), (0), (by first | rfl | (simp; done) | (simp [*]; done)), (by first | rfl | (simp; done) | (simp [*]; done)), H', ⟨Nat.le_refl _⟩, by repeat (first | exact Drawn0.refl _ | apply Drawn0.step)⟩
  case round =>
    clear H'
    try clear p2
    (try clear HA)
    (try clear HK1)
    obtain ⟨x1_1, x5_1, rfl, rfl, HA, HK1, ⟨m1, rfl⟩⟩ := hrel
    cases gk with
    | zero => exact absurd HA.out (by simp [laws_heldWordS.l0])
    | succ k1 =>
      have H := HA.out
      clear HA
      simp only [laws_heldWordS.l0] at H
      by_cases c3 : x5_1 < (l0.length : Int)
      · rw [if_pos c3] at H
        have c3b0 : decide (x5_1 < (l0.length : Int)) = true := decide_eq_true c3
        clear c3
        by_cases c4 : 0 ≤ x5_1
        · rw [if_pos c4] at H
          have c4b0 : decide (0 ≤ x5_1) = true := decide_eq_true c4
          clear c4
          by_cases c5 : ((rd_T59 l0 x5_1).f0) = x1_1
          · rw [if_pos c5] at H
            have c5b0 : (((rd_T59 l0 x5_1).f0) == x1_1) = true := beq_iff_eq.mpr c5
            have c5b1 : (((rd_T59 l0 x5_1).f0) != x1_1) = false := bne_eq_false_iff_eq.mpr c5
            clear c5
            by_cases c6 : ((rd_T59 l0 x5_1).f1) = (wrap64 (x1_1 + 1))
            · rw [if_pos c6] at H
              have c6b0 : (((rd_T59 l0 x5_1).f1) == (wrap64 (x1_1 + 1))) = true := beq_iff_eq.mpr c6
              have c6b1 : (((rd_T59 l0 x5_1).f1) != (wrap64 (x1_1 + 1))) = false := bne_eq_false_iff_eq.mpr c6
              clear c6
              by_cases c7 : ((rd_T59 l0 x5_1).f2) = (wrap64 ((wrap64 (x1_1 + 1)) + 1))
              · rw [if_pos c7] at H
                have c7b0 : (((rd_T59 l0 x5_1).f2) == (wrap64 ((wrap64 (x1_1 + 1)) + 1))) = true := beq_iff_eq.mpr c7
                have c7b1 : (((rd_T59 l0 x5_1).f2) != (wrap64 ((wrap64 (x1_1 + 1)) + 1))) = false := bne_eq_false_iff_eq.mpr c7
                clear c7
                by_cases c8 : ((rd_T59 l0 x5_1).f3) = (wrap64 ((wrap64 ((wrap64 (x1_1 + 1)) + 1)) + 1))
                · rw [if_pos c8] at H
                  have c8b0 : (((rd_T59 l0 x5_1).f3) == (wrap64 ((wrap64 ((wrap64 (x1_1 + 1)) + 1)) + 1))) = true := beq_iff_eq.mpr c8
                  have c8b1 : (((rd_T59 l0 x5_1).f3) != (wrap64 ((wrap64 ((wrap64 (x1_1 + 1)) + 1)) + 1))) = false := bne_eq_false_iff_eq.mpr c8
                  clear c8
                  by_cases c9 : ((rd_T59 l0 x5_1).f4) = (wrap64 ((wrap64 ((wrap64 ((wrap64 (x1_1 + 1)) + 1)) + 1)) + 1))
                  · rw [if_pos c9] at H
                    have c9b0 : (((rd_T59 l0 x5_1).f4) == (wrap64 ((wrap64 ((wrap64 ((wrap64 (x1_1 + 1)) + 1)) + 1)) + 1))) = true := beq_iff_eq.mpr c9
                    have c9b1 : (((rd_T59 l0 x5_1).f4) != (wrap64 ((wrap64 ((wrap64 ((wrap64 (x1_1 + 1)) + 1)) + 1)) + 1))) = false := bne_eq_false_iff_eq.mpr c9
                    clear c9
                    have H' := Aside0.mk H
                    clear H
                    have p101 : 0 ≤ (x5_1 : Int) := of_decide_eq_true (by first | (with_reducible assumption) | assumption)
                    have q101 : x5_1 < (l0.length : Int) := of_decide_eq_true (by first | (with_reducible assumption) | assumption)
                    obtain ⟨ad101, e101, hx101_0, hx101_1, hx101_2, hx101_3, hx101_4⟩ := at_T59 HR0.out x5_1 p101 q101
                    cases e101
                    replace p101 := eq_true p101
                    replace q101 := eq_true q101
                    have p102 : 0 ≤ (x5_1 : Int) := of_decide_eq_true (by first | (with_reducible assumption) | assumption)
                    have q102 : x5_1 < (l0.length : Int) := of_decide_eq_true (by first | (with_reducible assumption) | assumption)
                    obtain ⟨ad102, e102, hx102_0, hx102_1, hx102_2, hx102_3, hx102_4⟩ := at_T59 HR0.out x5_1 p102 q102
                    obtain rfl : ad101 = ad102 := (by injection e102)
                    replace p102 := eq_true p102
                    replace q102 := eq_true q102
                    have p103 : 0 ≤ (x5_1 : Int) := of_decide_eq_true (by first | (with_reducible assumption) | assumption)
                    have q103 : x5_1 < (l0.length : Int) := of_decide_eq_true (by first | (with_reducible assumption) | assumption)
                    obtain ⟨ad103, e103, hx103_0, hx103_1, hx103_2, hx103_3, hx103_4⟩ := at_T59 HR0.out x5_1 p103 q103
                    obtain rfl : ad101 = ad103 := (by injection e103)
                    replace p103 := eq_true p103
                    replace q103 := eq_true q103
                    have p104 : 0 ≤ (x5_1 : Int) := of_decide_eq_true (by first | (with_reducible assumption) | assumption)
                    have q104 : x5_1 < (l0.length : Int) := of_decide_eq_true (by first | (with_reducible assumption) | assumption)
                    obtain ⟨ad104, e104, hx104_0, hx104_1, hx104_2, hx104_3, hx104_4⟩ := at_T59 HR0.out x5_1 p104 q104
                    obtain rfl : ad101 = ad104 := (by injection e104)
                    replace p104 := eq_true p104
                    replace q104 := eq_true q104
                    have p105 : 0 ≤ (x5_1 : Int) := of_decide_eq_true (by first | (with_reducible assumption) | assumption)
                    have q105 : x5_1 < (l0.length : Int) := of_decide_eq_true (by first | (with_reducible assumption) | assumption)
                    obtain ⟨ad105, e105, hx105_0, hx105_1, hx105_2, hx105_3, hx105_4⟩ := at_T59 HR0.out x5_1 p105 q105
                    obtain rfl : ad101 = ad105 := (by injection e105)
                    replace p105 := eq_true p105
                    replace q105 := eq_true q105
                    go_wp2
                    go_roundg k1
                    case measure => have := HK1.out; omega
                    case rel => exact ⟨(wrap64 ((wrap64 ((wrap64 ((wrap64 ((wrap64 (x1_1 + 1)) + 1)) + 1)) + 1)) + 1)), (wrap64 (x5_1 + 1)), (by first | rfl | (simp; done) | (simp [*]; done)), (by first | rfl | (simp; done) | (simp [*]; done)), H', ⟨by have := HK1.out; omega⟩, by repeat (first | exact Drawn0.refl _ | apply Drawn0.step)⟩
                  · rw [if_neg c9] at H
                    have c9b0 : (((rd_T59 l0 x5_1).f4) == (wrap64 ((wrap64 ((wrap64 ((wrap64 (x1_1 + 1)) + 1)) + 1)) + 1))) = false := beq_eq_false_iff_ne.mpr c9
                    have c9b1 : (((rd_T59 l0 x5_1).f4) != (wrap64 ((wrap64 ((wrap64 ((wrap64 (x1_1 + 1)) + 1)) + 1)) + 1))) = true := bne_iff_ne.mpr c9
                    obtain rfl := Option.some.inj H
                    have p101 : 0 ≤ (x5_1 : Int) := of_decide_eq_true (by first | (with_reducible assumption) | assumption)
                    have q101 : x5_1 < (l0.length : Int) := of_decide_eq_true (by first | (with_reducible assumption) | assumption)
                    obtain ⟨ad101, e101, hx101_0, hx101_1, hx101_2, hx101_3, hx101_4⟩ := at_T59 HR0.out x5_1 p101 q101
                    cases e101
                    replace p101 := eq_true p101
                    replace q101 := eq_true q101
                    have p102 : 0 ≤ (x5_1 : Int) := of_decide_eq_true (by first | (with_reducible assumption) | assumption)
                    have q102 : x5_1 < (l0.length : Int) := of_decide_eq_true (by first | (with_reducible assumption) | assumption)
                    obtain ⟨ad102, e102, hx102_0, hx102_1, hx102_2, hx102_3, hx102_4⟩ := at_T59 HR0.out x5_1 p102 q102
                    obtain rfl : ad101 = ad102 := (by injection e102)
                    replace p102 := eq_true p102
                    replace q102 := eq_true q102
                    have p103 : 0 ≤ (x5_1 : Int) := of_decide_eq_true (by first | (with_reducible assumption) | assumption)
                    have q103 : x5_1 < (l0.length : Int) := of_decide_eq_true (by first | (with_reducible assumption) | assumption)
                    obtain ⟨ad103, e103, hx103_0, hx103_1, hx103_2, hx103_3, hx103_4⟩ := at_T59 HR0.out x5_1 p103 q103
                    obtain rfl : ad101 = ad103 := (by injection e103)
                    replace p103 := eq_true p103
                    replace q103 := eq_true q103
                    have p104 : 0 ≤ (x5_1 : Int) := of_decide_eq_true (by first | (with_reducible assumption) | assumption)
                    have q104 : x5_1 < (l0.length : Int) := of_decide_eq_true (by first | (with_reducible assumption) | assumption)
                    obtain ⟨ad104, e104, hx104_0, hx104_1, hx104_2, hx104_3, hx104_4⟩ := at_T59 HR0.out x5_1 p104 q104
                    obtain rfl : ad101 = ad104 := (by injection e104)
                    replace p104 := eq_true p104
                    replace q104 := eq_true q104
                    have p105 : 0 ≤ (x5_1 : Int) := of_decide_eq_true (by first | (with_reducible assumption) | assumption)
                    have q105 : x5_1 < (l0.length : Int) := of_decide_eq_true (by first | (with_reducible assumption) | assumption)
                    obtain ⟨ad105, e105, hx105_0, hx105_1, hx105_2, hx105_3, hx105_4⟩ := at_T59 HR0.out x5_1 p105 q105
                    obtain rfl : ad101 = ad105 := (by injection e105)
                    replace p105 := eq_true p105
                    replace q105 := eq_true q105
                    go_wp2
                    go_ret
                    exact ⟨by first | rfl | (simp; done) | (simp [*]; done), by repeat (first | exact Drawn0.refl _ | apply Drawn0.step)⟩
                · rw [if_neg c8] at H
                  have c8b0 : (((rd_T59 l0 x5_1).f3) == (wrap64 ((wrap64 ((wrap64 (x1_1 + 1)) + 1)) + 1))) = false := beq_eq_false_iff_ne.mpr c8
                  have c8b1 : (((rd_T59 l0 x5_1).f3) != (wrap64 ((wrap64 ((wrap64 (x1_1 + 1)) + 1)) + 1))) = true := bne_iff_ne.mpr c8
                  obtain rfl := Option.some.inj H
                  have p101 : 0 ≤ (x5_1 : Int) := of_decide_eq_true (by first | (with_reducible assumption) | assumption)
                  have q101 : x5_1 < (l0.length : Int) := of_decide_eq_true (by first | (with_reducible assumption) | assumption)
                  obtain ⟨ad101, e101, hx101_0, hx101_1, hx101_2, hx101_3, hx101_4⟩ := at_T59 HR0.out x5_1 p101 q101
                  cases e101
                  replace p101 := eq_true p101
                  replace q101 := eq_true q101
                  have p102 : 0 ≤ (x5_1 : Int) := of_decide_eq_true (by first | (with_reducible assumption) | assumption)
                  have q102 : x5_1 < (l0.length : Int) := of_decide_eq_true (by first | (with_reducible assumption) | assumption)
                  obtain ⟨ad102, e102, hx102_0, hx102_1, hx102_2, hx102_3, hx102_4⟩ := at_T59 HR0.out x5_1 p102 q102
                  obtain rfl : ad101 = ad102 := (by injection e102)
                  replace p102 := eq_true p102
                  replace q102 := eq_true q102
                  have p103 : 0 ≤ (x5_1 : Int) := of_decide_eq_true (by first | (with_reducible assumption) | assumption)
                  have q103 : x5_1 < (l0.length : Int) := of_decide_eq_true (by first | (with_reducible assumption) | assumption)
                  obtain ⟨ad103, e103, hx103_0, hx103_1, hx103_2, hx103_3, hx103_4⟩ := at_T59 HR0.out x5_1 p103 q103
                  obtain rfl : ad101 = ad103 := (by injection e103)
                  replace p103 := eq_true p103
                  replace q103 := eq_true q103
                  have p104 : 0 ≤ (x5_1 : Int) := of_decide_eq_true (by first | (with_reducible assumption) | assumption)
                  have q104 : x5_1 < (l0.length : Int) := of_decide_eq_true (by first | (with_reducible assumption) | assumption)
                  obtain ⟨ad104, e104, hx104_0, hx104_1, hx104_2, hx104_3, hx104_4⟩ := at_T59 HR0.out x5_1 p104 q104
                  obtain rfl : ad101 = ad104 := (by injection e104)
                  replace p104 := eq_true p104
                  replace q104 := eq_true q104
                  go_wp2
                  go_ret
                  exact ⟨by first | rfl | (simp; done) | (simp [*]; done), by repeat (first | exact Drawn0.refl _ | apply Drawn0.step)⟩
              · rw [if_neg c7] at H
                have c7b0 : (((rd_T59 l0 x5_1).f2) == (wrap64 ((wrap64 (x1_1 + 1)) + 1))) = false := beq_eq_false_iff_ne.mpr c7
                have c7b1 : (((rd_T59 l0 x5_1).f2) != (wrap64 ((wrap64 (x1_1 + 1)) + 1))) = true := bne_iff_ne.mpr c7
                obtain rfl := Option.some.inj H
                have p101 : 0 ≤ (x5_1 : Int) := of_decide_eq_true (by first | (with_reducible assumption) | assumption)
                have q101 : x5_1 < (l0.length : Int) := of_decide_eq_true (by first | (with_reducible assumption) | assumption)
                obtain ⟨ad101, e101, hx101_0, hx101_1, hx101_2, hx101_3, hx101_4⟩ := at_T59 HR0.out x5_1 p101 q101
                cases e101
                replace p101 := eq_true p101
                replace q101 := eq_true q101
                have p102 : 0 ≤ (x5_1 : Int) := of_decide_eq_true (by first | (with_reducible assumption) | assumption)
                have q102 : x5_1 < (l0.length : Int) := of_decide_eq_true (by first | (with_reducible assumption) | assumption)
                obtain ⟨ad102, e102, hx102_0, hx102_1, hx102_2, hx102_3, hx102_4⟩ := at_T59 HR0.out x5_1 p102 q102
                obtain rfl : ad101 = ad102 := (by injection e102)
                replace p102 := eq_true p102
                replace q102 := eq_true q102
                have p103 : 0 ≤ (x5_1 : Int) := of_decide_eq_true (by first | (with_reducible assumption) | assumption)
                have q103 : x5_1 < (l0.length : Int) := of_decide_eq_true (by first | (with_reducible assumption) | assumption)
                obtain ⟨ad103, e103, hx103_0, hx103_1, hx103_2, hx103_3, hx103_4⟩ := at_T59 HR0.out x5_1 p103 q103
                obtain rfl : ad101 = ad103 := (by injection e103)
                replace p103 := eq_true p103
                replace q103 := eq_true q103
                go_wp2
                go_ret
                exact ⟨by first | rfl | (simp; done) | (simp [*]; done), by repeat (first | exact Drawn0.refl _ | apply Drawn0.step)⟩
            · rw [if_neg c6] at H
              have c6b0 : (((rd_T59 l0 x5_1).f1) == (wrap64 (x1_1 + 1))) = false := beq_eq_false_iff_ne.mpr c6
              have c6b1 : (((rd_T59 l0 x5_1).f1) != (wrap64 (x1_1 + 1))) = true := bne_iff_ne.mpr c6
              obtain rfl := Option.some.inj H
              have p101 : 0 ≤ (x5_1 : Int) := of_decide_eq_true (by first | (with_reducible assumption) | assumption)
              have q101 : x5_1 < (l0.length : Int) := of_decide_eq_true (by first | (with_reducible assumption) | assumption)
              obtain ⟨ad101, e101, hx101_0, hx101_1, hx101_2, hx101_3, hx101_4⟩ := at_T59 HR0.out x5_1 p101 q101
              cases e101
              replace p101 := eq_true p101
              replace q101 := eq_true q101
              have p102 : 0 ≤ (x5_1 : Int) := of_decide_eq_true (by first | (with_reducible assumption) | assumption)
              have q102 : x5_1 < (l0.length : Int) := of_decide_eq_true (by first | (with_reducible assumption) | assumption)
              obtain ⟨ad102, e102, hx102_0, hx102_1, hx102_2, hx102_3, hx102_4⟩ := at_T59 HR0.out x5_1 p102 q102
              obtain rfl : ad101 = ad102 := (by injection e102)
              replace p102 := eq_true p102
              replace q102 := eq_true q102
              go_wp2
              go_ret
              exact ⟨by first | rfl | (simp; done) | (simp [*]; done), by repeat (first | exact Drawn0.refl _ | apply Drawn0.step)⟩
          · rw [if_neg c5] at H
            have c5b0 : (((rd_T59 l0 x5_1).f0) == x1_1) = false := beq_eq_false_iff_ne.mpr c5
            have c5b1 : (((rd_T59 l0 x5_1).f0) != x1_1) = true := bne_iff_ne.mpr c5
            obtain rfl := Option.some.inj H
            have p101 : 0 ≤ (x5_1 : Int) := of_decide_eq_true (by first | (with_reducible assumption) | assumption)
            have q101 : x5_1 < (l0.length : Int) := of_decide_eq_true (by first | (with_reducible assumption) | assumption)
            obtain ⟨ad101, e101, hx101_0, hx101_1, hx101_2, hx101_3, hx101_4⟩ := at_T59 HR0.out x5_1 p101 q101
            cases e101
            replace p101 := eq_true p101
            replace q101 := eq_true q101
            go_wp2
            go_ret
            exact ⟨by first | rfl | (simp; done) | (simp [*]; done), by repeat (first | exact Drawn0.refl _ | apply Drawn0.step)⟩
        · rw [if_neg c4] at H
          exact absurd H (by simp)
      · rw [if_neg c3] at H
        have c3b0 : decide (x5_1 < (l0.length : Int)) = false := decide_eq_false c3
        clear c3
        obtain rfl := Option.some.inj H
        go_wp2
        go_ret
        exact ⟨by first | rfl | (simp; done) | (simp [*]; done), by repeat (first | exact Drawn0.refl _ | apply Drawn0.step)⟩

end Go.Proofs.Ytnbaojaocagjcaa.P
end
section
-- Written for this claim by gp.py over the kit's print; not trusted: Lean checks it.




namespace Go.Proofs.Ytnbaojaocagjcaa.P
open Go.RowKit Go.Proofs.YtnbaojaocagjcaaW.PrintWords Go.Proofs.YtnbaojaocagjcaaW.PrintLast Go.Proofs.YtnbaojaocagjcaaW.PrintMore
set_option linter.unusedVariables false
set_option linter.unusedSimpArgs false

def iotaWord (m : Int) (n : Nat) : List S59 := (List.range n).map fun (j : Nat) => (⟨m + 5 * (j : Int), m + 5 * (j : Int) + 1, m + 5 * (j : Int) + 2, m + 5 * (j : Int) + 3, m + 5 * (j : Int) + 4⟩ : S59)
theorem iotaWord_length (m : Int) (n : Nat) : (iotaWord m n).length = n := by simp [iotaWord]
theorem iotaWord_getD {m : Int} {n j : Nat} (h : j < n) : (iotaWord m n).getD j z59 = (⟨m + 5 * (j : Int), m + 5 * (j : Int) + 1, m + 5 * (j : Int) + 2, m + 5 * (j : Int) + 3, m + 5 * (j : Int) + 4⟩ : S59) := by simp [iotaWord, List.getD_eq_getElem?_getD, h]
theorem rd_set_Word {x : List S59} {i : Nat} (h : i < x.length) (a : S59) : rd_T59 (x.set i a) (i : Int) = a := by
  simp [rd_T59, List.getD_eq_getElem?_getD, h]
theorem ev_markWordS (l : List S59) (m : Int) (hm : 0 ≤ m) (hl : m + 5 * l.length ≤ 4611686018427387904) : Ev (fun k => laws_markWordS.f k l m) (m + 5 * l.length, iotaWord m l.length) := by
  have key := ev_upto (r := (m + 5 * (l.length : Int), iotaWord m l.length)) (n := l.length) (fun i => Ev (fun k => laws_markWordS.l0 k ((iotaWord m l.length).take i ++ l.drop i) (m + 5 * i) (i : Int)) (m + 5 * (l.length : Int), iotaWord m l.length)) ?_ ?_ 0 (by omega)
  · refine Ev.congr (fun k => ?_) key
    unfold laws_markWordS.f
    simp
  · refine Ev.step (fun k => by rw [laws_markWordS.l0]) ?_
    refine Ev.neg (by simp [iotaWord_length]) ?_
    rw [List.drop_length, List.append_nil, List.take_of_length_le (by rw [iotaWord_length]; omega)]
    exact Ev.now _
  · intro i hi h
    have hlen : ((iotaWord m l.length).take i ++ l.drop i).length = l.length := by simp [iotaWord_length]; omega
    have hset := set_mark (m := iotaWord m l.length) (l := l) (z := z59) (i := i) (by rw [iotaWord_length]) (by rw [iotaWord_length]; exact hi)
    rw [iotaWord_getD hi] at hset
    generalize hx : (iotaWord m l.length).take i ++ l.drop i = x at hlen hset ⊢
    refine Ev.step (fun k => by rw [laws_markWordS.l0]) ?_
    refine Ev.pos (by omega) (Ev.pos (by omega) ?_)
    simp only [Int.toNat_natCast, Option.bind_some]
    have hi1 : i < x.length := by omega
    simp only [rd_set_Word hi1, List.set_set]
    rw [wrap_succ hi (by omega)]
    rw [wrap_in (x := m + 5 * (i : Int) + 1) (by omega) (by omega), wrap_in (x := m + 5 * (i : Int) + 1 + 1) (by omega) (by omega), wrap_in (x := m + 5 * (i : Int) + 1 + 1 + 1) (by omega) (by omega), wrap_in (x := m + 5 * (i : Int) + 1 + 1 + 1 + 1) (by omega) (by omega), wrap_in (x := m + 5 * (i : Int) + 1 + 1 + 1 + 1 + 1) (by omega) (by omega)]
    rw [show m + 5 * (i : Int) + 1 + 1 + 1 + 1 + 1 = m + 5 * ((i + 1 : Nat) : Int) from by omega]
    have e := hset ▸ h
    refine Ev.congr (fun k => ?_) e
    congr 3
    all_goals omega
end Go.Proofs.Ytnbaojaocagjcaa.P
end
section
-- Written for this claim by gp.py over the kit's print; not trusted: Lean checks it.

namespace Go.Proofs.Ytnbaojaocagjcaa.P
open Go.RowKit Go.Proofs.YtnbaojaocagjcaaW.PrintWords Go.Proofs.YtnbaojaocagjcaaW.PrintLast Go.Proofs.YtnbaojaocagjcaaW.PrintMore
set_option linter.unusedVariables false
set_option linter.unusedSimpArgs false

open Classical in
/-- Whether a test holds of 0 .. n - 1. -/
noncomputable def allB (n : Nat) (p : Nat → Prop) : Bool := decide (∀ j, j < n → p j)
open Classical in
theorem allB_true {n : Nat} {p : Nat → Prop} (h : ∀ j, j < n → p j) : allB n p = true := by
  unfold allB
  exact decide_eq_true h
open Classical in
theorem allB_iff {n : Nat} {p : Nat → Prop} : allB n p = true ↔ ∀ j, j < n → p j := by
  unfold allB
  exact decide_eq_true_iff
theorem allB_false {n i : Nat} {p : Nat → Prop} (hi : i < n) (h : ¬ p i) : allB n p = false := by
  cases e : allB n p with
  | false => rfl
  | true => exact absurd (allB_iff.mp e i hi) h
/-- A loop that goes on while a test holds. -/
theorem ev_all {ρ : Type} {n : Nat} {R e : ρ} (p : Nat → Prop) (f : Nat → Nat → Option ρ) (hend : Ev (f n) R) (hyes : ∀ i, i < n → p i → ∀ r, Ev (f (i + 1)) r → Ev (f i) r) (hno : ∀ i, i < n → ¬ p i → Ev (f i) e) : Ev (f 0) (bif allB n p then R else e) := by
  have key : ∀ d i, i + d = n → (∀ j, j < i → p j) → Ev (f i) (bif allB n p then R else e) := by
    intro d
    induction d with
    | zero =>
      intro i hi h
      have : i = n := by omega
      subst this
      rw [allB_true h]
      exact hend
    | succ d ih =>
      intro i hi h
      by_cases hp : p i
      · refine hyes i (by omega) hp _ (ih (i + 1) (by omega) ?_)
        intro j hj
        by_cases hji : j = i
        · rw [hji]; exact hp
        · exact h j (by omega)
      · rw [allB_false (by omega) hp]
        exact hno i (by omega) hp
  exact key n 0 (by omega) (fun j hj => absurd hj (by omega))
theorem allB_list {α : Type} (l : List α) (z : α) (q : α → Bool) : allB l.length (fun j => q (l.getD j z) = true) = !(l.any fun x => !q x) := by
  rw [Bool.eq_iff_iff, allB_iff]
  simp only [Bool.not_eq_true', List.any_eq_false, Bool.not_eq_true', Bool.not_eq_false]
  constructor
  · intro h x hx
    obtain ⟨j, hj, rfl⟩ := List.mem_iff_getElem.mp hx
    have := h j hj
    rw [List.getD_eq_getElem?_getD, List.getElem?_eq_getElem hj] at this
    simpa using this
  · intro h j hj
    have := h l[j] (List.getElem_mem hj)
    rw [List.getD_eq_getElem?_getD, List.getElem?_eq_getElem hj]
    simpa using this
end Go.Proofs.Ytnbaojaocagjcaa.P
end
section
-- Written for this claim by gp.py over the kit's print; not trusted: Lean checks it.






namespace Go.Proofs.Ytnbaojaocagjcaa.P
open Go.RowKit Go.Proofs.YtnbaojaocagjcaaW.PrintWords Go.Proofs.YtnbaojaocagjcaaW.PrintLast Go.Proofs.YtnbaojaocagjcaaW.PrintMore
set_option linter.unusedVariables false
set_option linter.unusedSimpArgs false

theorem specIn (a b c : Int) : spec_l01In.f a b c = some (inB a b c) := by
  unfold spec_l01In.f inB
  by_cases h : a ≥ b
  · rw [if_pos h]
    have h' : b ≤ a := h
    simp [h']
  · rw [if_neg h]
    have h' : ¬ b ≤ a := h
    simp [h']
theorem inB_point (a n : Int) : inB a n n = (a == n) := by
  unfold inB
  rw [Bool.eq_iff_iff]
  simp
  omega
/-- A test and then the rest. -/
theorem Ev.and {b c : Bool} {g : Nat → Option Bool} (h : b = true → Ev g c) : Ev (fun k => if b = true then g k else some false) (b && c) := by
  cases b with
  | false => exact Ev.neg (by decide) (Ev.now _)
  | true => exact Ev.pos rfl (h rfl)
theorem Ev.andP {p : Prop} [Decidable p] {b c : Bool} (e : b = decide p) {g : Nat → Option Bool} (h : b = true → Ev g c) : Ev (fun k => if p then g k else some false) (b && c) := by
  by_cases hp : p
  · have hb : b = true := by rw [e]; exact decide_eq_true hp
    subst hb
    exact Ev.pos hp (h rfl)
  · have hb : b = false := by rw [e]; exact decide_eq_false hp
    subst hb
    exact Ev.neg hp (Ev.now _)
def J3 (x5 x7 : Bool) (o : Int) (x98 : Bool) (N3 r v : Int) : Bool := bif x98 then x5 && (x7 && (v == 0)) else if o = 8 then (r == 0) && (x7 && inB v 0 N3) else if o = 9 then x5 && (x7 && inB v 0 N3) else false
theorem ev_j3 (x5 x7 : Bool) (o : Int) (x98 : Bool) (x0 : List Int) (x1 x2 : Int) (x3 : List S59) (o' r p q v : Int) : Ev (fun k => spec_l13WordOk.j3 k x5 x7 o x98 x0 x1 x2 x3 o' r p q v) (J3 x5 x7 o x98 (wrap64 ((x3.length : Int) - 1)) r v) := by
  refine Ev.step (fun k => by rw [spec_l13WordOk.j3]) ?_
  unfold J3
  cases x98 with
  | true => exact Ev.pos rfl (Ev.and fun _ => Ev.and fun _ => Ev.now _)
  | false =>
    refine Ev.neg (by decide) ?_
    by_cases h8 : o = 8
    · simp only [cond_false, if_pos h8]
      refine Ev.andP (by rw [Bool.eq_iff_iff]; simp) fun _ => Ev.and fun _ => ?_
      rw [specIn]
      exact Ev.now _
    · simp only [cond_false, if_neg h8]
      by_cases h9 : o = 9
      · simp only [if_pos h9]
        refine Ev.and fun _ => Ev.and fun _ => ?_
        rw [specIn]
        exact Ev.now _
      · simp only [if_neg h9]
        exact Ev.now _
def J2 (x5 x6 x7 : Bool) (o : Int) (x61 : Bool) (N0 N3 r q v : Int) : Bool := bif x61 then x5 && (x6 && ((q == 0) && inB v 0 N0)) else if o = 11 then x5 && (x6 && ((q == 0) && (v == 0))) else if o = 6 then J3 x5 x7 o (o == 6) N3 r v else if o = 7 then J3 x5 x7 o (o == 7) N3 r v else J3 x5 x7 o (o == 10) N3 r v
theorem ev_j2 (x5 x6 x7 : Bool) (o : Int) (x61 : Bool) (x0 : List Int) (x1 x2 : Int) (x3 : List S59) (o' r p q v : Int) : Ev (fun k => spec_l13WordOk.j2 k x5 x6 x7 o x61 x0 x1 x2 x3 o' r p q v) (J2 x5 x6 x7 o x61 (wrap64 ((x0.length : Int) - 1)) (wrap64 ((x3.length : Int) - 1)) r q v) := by
  refine Ev.step (fun k => by rw [spec_l13WordOk.j2]) ?_
  unfold J2
  cases x61 with
  | true =>
    refine Ev.pos rfl (Ev.and fun _ => Ev.and fun _ => Ev.andP (by rw [Bool.eq_iff_iff]; simp) fun _ => ?_)
    rw [specIn]
    exact Ev.now _
  | false =>
    refine Ev.neg (by decide) ?_
    by_cases h8 : o = 11
    · simp only [cond_false, if_pos h8]
      exact Ev.and fun _ => Ev.and fun _ => Ev.andP (by rw [Bool.eq_iff_iff]; simp) fun _ => Ev.now _
    · simp only [cond_false, if_neg h8]
      by_cases h6 : o = 6
      · simp only [if_pos h6]
        exact ev_j3 _ _ _ _ _ _ _ _ _ _ _ _ _
      · simp only [if_neg h6]
        by_cases h7 : o = 7
        · simp only [if_pos h7]
          exact ev_j3 _ _ _ _ _ _ _ _ _ _ _ _ _
        · simp only [if_neg h7]
          exact ev_j3 _ _ _ _ _ _ _ _ _ _ _ _ _
def J1 (x5 x6 x7 : Bool) (o : Int) (x30 : Bool) (N2 N0 N3 r q v : Int) : Bool := bif x30 then x5 && (x7 && inB v 0 N2) else if o = 3 then x5 && (x6 && (inB q 0 15 && inB v 0 5)) else if o = 4 then J2 x5 x6 x7 o (o == 4) N0 N3 r q v else J2 x5 x6 x7 o (o == 5) N0 N3 r q v
theorem ev_j1 (x5 x6 x7 : Bool) (o : Int) (x30 : Bool) (x0 : List Int) (x1 x2 : Int) (x3 : List S59) (o' r p q v : Int) : Ev (fun k => spec_l13WordOk.j1 k x5 x6 x7 o x30 x0 x1 x2 x3 o' r p q v) (J1 x5 x6 x7 o x30 (wrap64 (x2 - 1)) (wrap64 ((x0.length : Int) - 1)) (wrap64 ((x3.length : Int) - 1)) r q v) := by
  refine Ev.step (fun k => by rw [spec_l13WordOk.j1]) ?_
  unfold J1
  cases x30 with
  | true =>
    refine Ev.pos rfl (Ev.and fun _ => Ev.and fun _ => ?_)
    rw [specIn]
    exact Ev.now _
  | false =>
    refine Ev.neg (by decide) ?_
    by_cases h8 : o = 3
    · simp only [cond_false, if_pos h8]
      refine Ev.and fun _ => Ev.and fun _ => ?_
      rw [specIn, specIn]
      exact Ev.val (Ev.and fun _ => Ev.now _)
    · simp only [cond_false, if_neg h8]
      by_cases h6 : o = 4
      · simp only [if_pos h6]
        exact ev_j2 _ _ _ _ _ _ _ _ _ _ _ _ _ _
      · simp only [if_neg h6]
        exact ev_j2 _ _ _ _ _ _ _ _ _ _ _ _ _ _
def J0 (x5 x6 x7 : Bool) (o N2 N0 N3 r q v : Int) : Bool := if o = 0 then x5 && x7 else if o = 1 then J1 x5 x6 x7 o (o == 1) N2 N0 N3 r q v else J1 x5 x6 x7 o (o == 2) N2 N0 N3 r q v
theorem ev_j0 (x5 x6 x7 : Bool) (x0 : List Int) (x1 x2 : Int) (x3 : List S59) (o r p q v : Int) : Ev (fun k => spec_l13WordOk.j0 k x5 x6 x7 x0 x1 x2 x3 o r p q v) (J0 x5 x6 x7 o (wrap64 (x2 - 1)) (wrap64 ((x0.length : Int) - 1)) (wrap64 ((x3.length : Int) - 1)) r q v) := by
  refine Ev.step (fun k => by rw [spec_l13WordOk.j0]) ?_
  unfold J0
  by_cases h6 : o = 0
  · simp only [if_pos h6]
    exact Ev.and fun _ => Ev.now _
  · simp only [if_neg h6]
    by_cases h7 : o = 1
    · simp only [if_pos h7]
      exact ev_j1 _ _ _ _ _ _ _ _ _ _ _ _ _ _
    · simp only [if_neg h7]
      exact ev_j1 _ _ _ _ _ _ _ _ _ _ _ _ _ _
theorem wordIs_J0 (N2 N0 N3 o r p q v s n0 n3 : Int) (h0 : n0 - 1 = N0) (h3 : n3 - 1 = N3) (h2 : wrap64 (s - 1) = N2) : wordIs n0 s n3 o r p q v = J0 (inB r 0 15) (inB p 0 15) (p == 0 && q == 0) o N2 N0 N3 r q v := by
  have h0p : (p == 0) = true → inB p 0 15 = true := by intro h; rw [eq_of_beq h]; rfl
  have h0q : (q == 0) = true → inB q 0 15 = true := by intro h; rw [eq_of_beq h]; rfl
  have h0r : (r == 0) = true → inB r 0 15 = true := by intro h; rw [eq_of_beq h]; rfl
  unfold wordIs wordFin regOk J0 J1 J2 J3
  rw [h0, h3, h2, inB_point v 0, inB_point 0 0]
  generalize (p == 0) = P at *
  generalize (q == 0) = Q at *
  generalize (r == 0) = R at *
  generalize (v == 0) = V at *
  generalize inB p 0 15 = p' at *
  generalize inB q 0 15 = q' at *
  generalize inB r 0 15 = r' at *
  generalize inB v 0 N0 = v0 at *
  generalize inB v 0 N2 = v2 at *
  generalize inB v 0 N3 = v3 at *
  generalize inB v 0 5 = v5 at *
  clear h0 h3 h2
  by_cases e0 : o = 0
  · subst e0; simp; cases P <;> cases Q <;> cases R <;> cases r' <;> cases p' <;> cases q' <;> simp_all
  by_cases e1 : o = 1
  · subst e1; simp; cases P <;> cases Q <;> cases R <;> cases r' <;> cases p' <;> cases q' <;> simp_all
  by_cases e2 : o = 2
  · subst e2; simp; cases P <;> cases Q <;> cases R <;> cases r' <;> cases p' <;> cases q' <;> simp_all
  by_cases e3 : o = 3
  · subst e3; simp; cases P <;> cases Q <;> cases R <;> cases r' <;> cases p' <;> cases q' <;> simp_all
  by_cases e4 : o = 4
  · subst e4; simp; cases P <;> cases Q <;> cases R <;> cases r' <;> cases p' <;> cases q' <;> simp_all
  by_cases e5 : o = 5
  · subst e5; simp; cases P <;> cases Q <;> cases R <;> cases r' <;> cases p' <;> cases q' <;> simp_all
  by_cases e6 : o = 6
  · subst e6; simp; cases P <;> cases Q <;> cases R <;> cases r' <;> cases p' <;> cases q' <;> simp_all
  by_cases e7 : o = 7
  · subst e7; simp; cases P <;> cases Q <;> cases R <;> cases r' <;> cases p' <;> cases q' <;> simp_all
  by_cases e8 : o = 8
  · subst e8; simp; cases P <;> cases Q <;> cases R <;> cases r' <;> cases p' <;> cases q' <;> simp_all
  by_cases e9 : o = 9
  · subst e9; simp; cases P <;> cases Q <;> cases R <;> cases r' <;> cases p' <;> cases q' <;> simp_all
  by_cases e10 : o = 10
  · subst e10; simp; cases P <;> cases Q <;> cases R <;> cases r' <;> cases p' <;> cases q' <;> simp_all
  by_cases e11 : o = 11
  · subst e11; simp; cases P <;> cases Q <;> cases R <;> cases r' <;> cases p' <;> cases q' <;> simp_all
  simp [e0, e1, e2, e3, e4, e5, e6, e7, e8, e9, e10, e11]
theorem ev_WordOk (x0 : List Int) (x1 x2 : Int) (x3 : List S59) (o r p q v : Int) (h0 : x0.length ≤ 9223372036854775807) (h3 : x3.length ≤ 9223372036854775807) :
    Ev (fun k => spec_l13WordOk.f k x0 x1 x2 x3 o r p q v) (wordIs (x0.length : Int) x2 (x3.length : Int) o r p q v) := by
  unfold spec_l13WordOk.f
  rw [specIn, specIn]
  refine Ev.val (Ev.val ?_)
  have main := ev_j0 (inB r 0 15) (inB p 0 15) (p == 0 && q == 0) x0 x1 x2 x3 o r p q v
  rw [← wordIs_J0 _ _ _ o r p q v x2 (x0.length : Int) (x3.length : Int) (wrap_in (by omega) (by omega)).symm (wrap_in (by omega) (by omega)).symm rfl] at main
  by_cases hp : p = 0
  · refine Ev.pos hp ?_
    have e : (p == 0 && q == 0) = (q == 0) := by rw [hp]; simp
    rw [e] at main
    exact main
  · refine Ev.neg hp ?_
    have e : (p == 0 && q == 0) = false := by simp [hp]
    rw [e] at main
    exact main

end Go.Proofs.Ytnbaojaocagjcaa.P
end
