-- Joined by pack.py from FHPutImage, FHGetImage, F36, F34, F59, F37, F10
import Derived.Shelf.Abstract
import Derived.Outline
import Derived.Lib.Endian
import Derived.Test.YtnbaojaocagjcaaQGetImage1
import Derived.Test.YtnbaojaocagjcaaQGetImage4
import Derived.Lib.ConvBytes
import Derived.Test.YtnbaojaocagjcaaQGetImage2
section
-- Written for this claim by gp.py over the kit's print; not trusted: Lean checks it.






namespace Go.Proofs.Ytnbaojaocagjcaa.P
open Go.RowKit Go.Proofs.YtnbaojaocagjcaaW.PrintWords Go.Proofs.YtnbaojaocagjcaaW.PrintLast Go.Proofs.YtnbaojaocagjcaaW.PrintMore
set_option linter.unusedVariables false
set_option linter.unusedSimpArgs false

theorem PS.drewN {w0 W : World} {im : Array Value} {bs : List Int} {m : Nat} (h : PS w0 W im bs m) (n : Nat) : PS w0 (W.drewN n) im bs m := by
  obtain ⟨h1, h2, h3, sv, h4, h5, h6⟩ := h
  exact ⟨h1, pw_below_drewN h2 _, h3, sv, h4, h5, h6⟩
theorem PS.start (w : World) (im : Array Value) : PS w (((w.alloc (.cells im 33 (0, 0))).alloc (.cells #[] 5 (0, 0))).alloc (.cells #[.slice (some ⟨w.heap.size + 1, 0, none⟩) 0 0] 71 (0, 0))) im [] 0 := by
  have e1 : (w.alloc (.cells im 33 (0, 0))).heap.size = w.heap.size + 1 := by simp
  have e2 : ((w.alloc (.cells im 33 (0, 0))).alloc (.cells #[] 5 (0, 0))).heap.size = w.heap.size + 2 := by simp
  have b1 := blk_alloc (blk_alloc (blk_new w (.cells im 33 (0, 0))) (.cells #[] 5 (0, 0))) (.cells #[.slice (some ⟨w.heap.size + 1, 0, none⟩) 0 0] 71 (0, 0))
  have b2 := blk_alloc (blk_new (w.alloc (.cells im 33 (0, 0))) (.cells #[] 5 (0, 0))) (.cells #[.slice (some ⟨w.heap.size + 1, 0, none⟩) 0 0] 71 (0, 0))
  have b3 := blk_new ((w.alloc (.cells im 33 (0, 0))).alloc (.cells #[] 5 (0, 0))) (.cells #[.slice (some ⟨w.heap.size + 1, 0, none⟩) 0 0] 71 (0, 0))
  rw [e1] at b2
  rw [e2] at b3
  refine ⟨rfl, below_alloc (below_alloc (below_alloc (Below.refl _ _) _) _) _, b1, _, b3, ?_, ?_⟩
  · exact ⟨rfl, Or.inr ⟨w.heap.size + 1, 0, #[], rfl, by omega, b2, by omega, by decide, rfl, rfl⟩⟩
  · intro k hk
    simp [Value.ownBlock] at hk
    omega
theorem PS.box {w0 W : World} {im : Array Value} {bs : List Int} {m : Nat} (h : PS w0 W im bs m) (i : Nat) {v : Value} (hv : im[i]? = some v) : W.cell? ⟨w0.heap.size, i, none⟩ = some v := (blk_cell h.2.2.1 i).trans hv
theorem PS.boxf {w0 W : World} {im : Array Value} {bs : List Int} {m : Nat} (h : PS w0 W im bs m) (i : Nat) : W.frozen? ⟨w0.heap.size, i, none⟩ = false := blk_frozen h.2.2.1 i
def wordNums (l : List S59) : List Int := l.flatMap fun x => [x.f0, x.f1, x.f2, x.f3, x.f4]
theorem wordNums_length (l : List S59) : (wordNums l).length = 5 * l.length := by
  induction l with
  | nil => rfl
  | cons a l ih =>
    unfold wordNums at ih ⊢
    rw [List.flatMap_cons, List.length_append, ih]
    simp
    omega
def imageNums (l0 : List Int) (p s : Int) (l3 : List S59) : List Int := [(l0.length : Int)] ++ l0 ++ [p, s, (l3.length : Int)] ++ wordNums l3
set_option maxHeartbeats 1000000 in
set_option maxRecDepth 100000 in
theorem putImage_any (k : Nat) (A0 A3 : Option Addr) (c0 c3 : Nat) (l0 : List Int) (p s : Int) (l3 : List S59) (t : Int) (w : World) (hr0 : Kd.C (Kd.int .i64) w A0 l0.length l0) (hc0 : l0.length ≤ c0) (hr3 : Kd.C k59 w A3 l3.length l3) (hc3 : l3.length ≤ c3)
    (hlim : 8 * (l0.length + 5 * l3.length + 5) ≤ 140737488355328) (ht : impl_sum.f k (strOfNums (beAll (imageNums l0 p s l3))) = some t) :
    Calls Try.prog 54 #[.agg #[.slice A0 l0.length c0, .int .i64 p, .int .i64 s, .slice A3 l3.length c3]] w fun e w' => e = .returned (.string (strOfNums (beAll (imageNums l0 p s l3) ++ beAll [wrap64 t]))) ∧ Below w.heap.size w w' := by
  have eg := enters_of Try.func70 (by kernel_rfl) rfl
  have HR0 := Aside0.mk hr0
  have HR3 := Aside0.mk hr3
  have HT := Aside0.mk ht
  have hm0 := hr0.2.1
  have hm3 := hr3.2.1
  clear hr0 hr3 ht
  have HS := Aside0.mk (PS.start w #[.slice A0 l0.length c0, .int .i64 p, .int .i64 s, .slice A3 l3.length c3])
  go_enter Try.func54, Try.ntmps54
  go_wp2_with (first | (go_at_call 70; refine (put_new HS.out [(l0.length : Int)] 1 rfl (by decide) _ ?g1 _ rfl (by omega)).mono ?_; (case g1 => simp); rintro e w1 ⟨rfl, hps, hsz⟩; have HS1 := Aside0.mk hps; clear hps hsz HS; have hx0 := HS1.out.box 0 rfl; have hf0 := HS1.out.boxf 0; have hx1 := HS1.out.box 1 rfl; have hf1 := HS1.out.boxf 1; have hx2 := HS1.out.box 2 rfl; have hf2 := HS1.out.boxf 2; have hx3 := HS1.out.box 3 rfl; have hf3 := HS1.out.boxf 3) | (go_at_call 70; refine (put_step HS1.out c0 A0 l0 hc0 hm0 ?g2 (by omega)).mono ?_; (case g2 => exact fun sv _ hlo => Kd.C_kept_came (Kd.heap_int .i64) HR0.out HS1.out.2.1 (fun k hk => hk.elim (fun e => by omega) (fun e => by have := hlo k e; omega))); rintro e w2 ⟨rfl, hps, hsz⟩; have HS2 := Aside0.mk hps; clear hps hsz HS1; clear hx0 hf0; clear hx1 hf1; clear hx2 hf2; clear hx3 hf3; have hx0 := HS2.out.box 0 rfl; have hf0 := HS2.out.boxf 0; have hx1 := HS2.out.box 1 rfl; have hf1 := HS2.out.boxf 1; have hx2 := HS2.out.box 2 rfl; have hf2 := HS2.out.boxf 2; have hx3 := HS2.out.box 3 rfl; have hf3 := HS2.out.boxf 3) | (go_at_call 70; refine (put_new HS2.out [p, s, (l3.length : Int)] 3 rfl (by decide) _ ?g3 _ rfl (by omega)).mono ?_; (case g3 => rfl); rintro e w3 ⟨rfl, hps, hsz⟩; have HS3 := Aside0.mk hps; clear hps hsz HS2; clear hx0 hf0; clear hx1 hf1; clear hx2 hf2; clear hx3 hf3; have hx0 := HS3.out.box 0 rfl; have hf0 := HS3.out.boxf 0; have hx1 := HS3.out.box 1 rfl; have hf1 := HS3.out.boxf 1; have hx2 := HS3.out.box 2 rfl; have hf2 := HS3.out.boxf 2; have hx3 := HS3.out.box 3 rfl; have hf3 := HS3.out.boxf 3))
  go_loopg [6, 32] l3.length (fun gg _ s32 wr => ∃ kk : Nat, kk ≤ l3.length ∧ l3.length - kk ≤ gg ∧ s32 = .int .i64 kk ∧ Aside0 (PS w wr #[.slice A0 l0.length c0, .int .i64 p, .int .i64 s, .slice A3 l3.length c3] ([] ++ beAll [(l0.length : Int)] ++ beAll l0 ++ beAll [p, s, (l3.length : Int)] ++ beAll (wordNums (l3.take kk))) (0 + 8 * 1 + 8 * l0.length + 8 * 3 + 8 * (5 * kk))))
  case atStart => exact ⟨0, Nat.zero_le _, by omega, rfl, ⟨by simpa [wordNums, beAll] using HS3.out⟩⟩
  case round =>
    (try clear HP)
    obtain ⟨kk, hkk, hg, rfl, HP⟩ := hrel
    by_cases hlt : kk < l3.length
    · have p1 : 0 ≤ (kk : Int) := by omega
      have q1 : (kk : Int) < (l3.length : Int) := by omega
      obtain ⟨ad, e1, hy⟩ := at_T59 (Kd.C_below HR3.out HP.out.2.1) (kk : Int) p1 q1
      cases e1
      simp only [Int.toNat_natCast] at hy
      obtain ⟨hy0, hy1, hy2, hy3, hy4⟩ := hy
      have hnew : beAll (wordNums (l3.take (kk + 1))) = beAll (wordNums (l3.take kk)) ++ beAll [(rd_T59 l3 (kk : Int)).f0, (rd_T59 l3 (kk : Int)).f1, (rd_T59 l3 (kk : Int)).f2, (rd_T59 l3 (kk : Int)).f3, (rd_T59 l3 (kk : Int)).f4] := by
        have hr : rd_T59 l3 (kk : Int) = l3[kk] := by simp [rd_T59, List.getD_eq_getElem?_getD, hlt]
        rw [List.take_succ_eq_append_getElem hlt, ← beAll_append, hr]
        simp only [wordNums, List.flatMap_append, List.flatMap_cons, List.flatMap_nil, List.append_nil]
      go_wp2_with (first | (go_at_call 70; refine (put_new (HP.out.alloc _) [(rd_T59 l3 (kk : Int)).f0, (rd_T59 l3 (kk : Int)).f1, (rd_T59 l3 (kk : Int)).f2, (rd_T59 l3 (kk : Int)).f3, (rd_T59 l3 (kk : Int)).f4] 5 rfl (by decide) _ ?g4 _ rfl (by omega)).mono ?_; (case g4 => simp); rintro e w5 ⟨rfl, hps, hsz⟩; have HS5 := Aside0.mk hps; clear hps hsz))
      go_roundg (l3.length - (kk + 1))
      case measure => omega
      case rel =>
        refine ⟨kk + 1, by omega, by omega, by go_num, ⟨?_⟩⟩
        have := HS5.out
        rw [hnew, ← List.append_assoc]
        rw [show 0 + 8 * 1 + 8 * l0.length + 8 * 3 + 8 * (5 * (kk + 1)) = 0 + 8 * 1 + 8 * l0.length + 8 * 3 + 8 * (5 * kk) + 8 * 5 from by omega]
        exact this
    · have hltz : ¬ (kk : Int) < (l3.length : Int) := by omega
      have he : kk = l3.length := by omega
      subst he
      rw [List.take_length] at HP
      have hbs : [] ++ beAll [(l0.length : Int)] ++ beAll l0 ++ beAll [p, s, (l3.length : Int)] ++ beAll (wordNums l3) = beAll (imageNums l0 p s l3) := by
        simp only [imageNums, beAll_append, List.nil_append]
      rw [hbs] at HP
      generalize hN : 0 + 8 * 1 + 8 * l0.length + 8 * 3 + 8 * (5 * l3.length) = N at HP
      obtain ⟨g1, g2, g3, sv, g4, g5, g6⟩ := HP.out
      have hcv := own_string (P := Try.prog) Try.underlying71 Try.underlying5 Try.underlying9 g5
      obtain ⟨Av, cv, rfl⟩ := own_slice g5
      have hc1 := (blk_cell g4 0).trans rfl
      have hf1 := blk_frozen g4 0
      go_wp2_with (first | (go_at_call 38; (with_reducible refine (impl_sum.calls k _ t _ HT.out).mono ?_); rintro e w6 ⟨rfl, ⟨nd, rfl⟩⟩) | (go_at_call 70; refine (put_new (HP.out.drewN nd) [wrap64 t] 1 rfl (by decide) _ ?g5 _ rfl (by omega)).mono ?_; (case g5 => simp); rintro e w7 ⟨rfl, ⟨k1, k2, k3, sv7, k4, k5, k6⟩, hsz⟩; have hcv7 := own_string (P := Try.prog) Try.underlying71 Try.underlying5 Try.underlying9 k5; obtain ⟨A7, c7, rfl⟩ := own_slice k5; have hc7 := (blk_cell k4 0).trans rfl; have hf7 := blk_frozen k4 0))
      go_ret
      exact ⟨rfl, k2⟩

/-- The bytes of an image, and the sum of them. -/
def impl_putImage.f (k : Nat) (l0_0 : List Int) (a0_1 : Int) (a0_2 : Int) (l0_3 : List (S59)) : Option ByteArray := if 8 * (l0_0.length + 5 * l0_3.length + 5) ≤ 140737488355328 then (impl_sum.f k (strOfNums (beAll (imageNums l0_0 a0_1 a0_2 l0_3)))).bind fun t => some (strOfNums (beAll (imageNums l0_0 a0_1 a0_2 l0_3) ++ beAll [wrap64 t])) else none
theorem impl_putImage.mono : ∀ a0 a1 a2 a3 k, LeO (impl_putImage.f k a0 a1 a2 a3) (impl_putImage.f (k + 1) a0 a1 a2 a3) := by
  intro a0 a1 a2 a3 k
  unfold impl_putImage.f
  repeat' first
      | (with_reducible exact impl_sum.mono _ _)
      | (with_reducible exact LeO.refl _)
      | (with_reducible exact LeO.none _)
      | (with_reducible apply LeO.bind)
      | split
      | (intro _)
theorem impl_putImage.calls (k : Nat) (A0_0 : Option Addr) (c0_0 : Nat) (l0_0 : List Int) (a0_1 : Int) (a0_2 : Int) (A0_3 : Option Addr) (c0_3 : Nat) (l0_3 : List (S59)) (r : ByteArray) (w : World) (hr0_0 : Kd.C (Kd.int .i64) w A0_0 l0_0.length l0_0) (hc0_0 : l0_0.length ≤ c0_0) (hr0_3 : Kd.C k59 w A0_3 l0_3.length l0_3) (hc0_3 : l0_3.length ≤ c0_3) (h : impl_putImage.f k l0_0 a0_1 a0_2 l0_3 = some r) :
    Calls Try.prog 54 #[.agg #[.slice A0_0 l0_0.length c0_0, .int .i64 a0_1, .int .i64 a0_2, .slice A0_3 l0_3.length c0_3]] w fun e w' => e = .returned (.string r) ∧ Below w.heap.size w w' := by
  unfold impl_putImage.f at h
  split at h
  · rename_i hl
    obtain ⟨t, h1, h2⟩ := Option.bind_eq_some_iff.mp h
    injection h2 with h2
    subst h2
    exact putImage_any k A0_0 A0_3 c0_0 c0_3 l0_0 a0_1 a0_2 l0_3 t w hr0_0 hc0_0 hr0_3 hc0_3 hl h1
  · cases h

end Go.Proofs.Ytnbaojaocagjcaa.P
end
section
-- Written for this claim by gp.py over the kit's print; not trusted: Lean checks it.









namespace Go.Proofs.Ytnbaojaocagjcaa.P
open Go.RowKit Go.Proofs.YtnbaojaocagjcaaW.PrintWords Go.Proofs.YtnbaojaocagjcaaW.PrintLast Go.Proofs.YtnbaojaocagjcaaW.PrintMore
set_option linter.unusedVariables false
set_option linter.unusedSimpArgs false

/-- The number that lies i-th in a text, or -1. -/
def numAt (s : ByteArray) (i : Nat) : Int := if 8 * i + 8 ≤ s.size then wrap64 (Lib.beNat [byteAt s (8 * i), byteAt s (8 * i + 1), byteAt s (8 * i + 2), byteAt s (8 * i + 3), byteAt s (8 * i + 4), byteAt s (8 * i + 5), byteAt s (8 * i + 6), byteAt s (8 * i + 7)]) else -1
def posAt (s : ByteArray) (i : Nat) : Nat := if 8 * i ≤ s.size then 8 * i else 8 * (s.size / 8)
theorem numAt_get (s : ByteArray) (i : Nat) : getV s (posAt s i) = numAt s i ∧ getO s (posAt s i) = posAt s (i + 1) := by
  unfold getV getO numAt posAt
  by_cases h1 : 8 * i ≤ s.size
  · rw [if_pos h1]
    by_cases h2 : 8 * i + 8 ≤ s.size
    · rw [if_neg (show ¬ s.size - 8 * i < 8 by omega), if_pos h2, if_neg (show ¬ s.size - 8 * i < 8 by omega), if_pos (show 8 * (i + 1) ≤ s.size by omega)]
      exact ⟨rfl, by omega⟩
    · rw [if_pos (show s.size - 8 * i < 8 by omega), if_neg h2, if_pos (show s.size - 8 * i < 8 by omega), if_neg (show ¬ 8 * (i + 1) ≤ s.size by omega)]
      exact ⟨rfl, by omega⟩
  · rw [if_neg h1, if_pos (show s.size - 8 * (s.size / 8) < 8 by omega), if_neg (show ¬ 8 * i + 8 ≤ s.size by omega), if_pos (show s.size - 8 * (s.size / 8) < 8 by omega), if_neg (show ¬ 8 * (i + 1) ≤ s.size by omega)]
    exact ⟨rfl, rfl⟩
theorem posAt_zero (s : ByteArray) : posAt s 0 = 0 := by simp [posAt]
def wordAt (s : ByteArray) (i : Nat) : S59 := ⟨numAt s i, numAt s (i + 1), numAt s (i + 2), numAt s (i + 3), numAt s (i + 4)⟩
def getSizes (s : ByteArray) : List Int := (List.range (numAt s 0).toNat).map fun j => numAt s (j + 1)
def getWords (s : ByteArray) : List S59 := (List.range (numAt s ((numAt s 0).toNat + 3)).toNat).map fun j => wordAt s ((numAt s 0).toNat + 4 + 5 * j)
/-- What holds between two reads: r the result's block, p the reader's, g the bytes', q the image's. -/
def GI (B N : Nat) (w0 : World) (r p g q : Nat) (s : ByteArray) (i : Nat) (rs m : Array Value) (W : World) : Prop :=
  Below B w0 W ∧ W.heap[r]? = some (.cells rs 33 (0, 0)) ∧ GS W p g s (posAt s i) ∧ W.heap[q]? = some (.cells m 33 (0, 0)) ∧ N ≤ W.heap.size ∧ (B ≤ p ∧ r < N ∧ p < N ∧ g < N ∧ q < N ∧ r ≠ p ∧ r ≠ q ∧ p ≠ q ∧ g ≠ q ∧ B ≤ q ∧ B ≤ N ∧ B ≤ r ∧ g ≠ r)
section
variable {B N : Nat} {w0 W : World} {r p g q : Nat} {s : ByteArray} {i : Nat} {rs m : Array Value}
theorem GS.below {W W' : World} {p g o : Nat} {s : ByteArray} (h : GS W p g s o) (hk : Kept W W' (fun k => k ≠ p ∧ k ≠ g)) : GS W' p g s o := by
  obtain ⟨ho, hgp, hgl, ⟨q, c, hq, hc, hP⟩, hb⟩ := h
  exact ⟨ho, hgp, Nat.lt_of_lt_of_le hgl hk.1, ⟨q, c, hq, hc, blk_kept hP hk (fun h => h.1 rfl)⟩, fun j hj => cell_kept (hb j hj) hk (fun h => h.2 rfl)⟩
theorem GI.box (h : GI B N w0 r p g q s i rs m W) (j : Nat) {v : Value} (hv : m[j]? = some v) : W.cell? ⟨q, j, none⟩ = some v := (blk_cell h.2.2.2.1 j).trans hv
theorem GI.boxf (h : GI B N w0 r p g q s i rs m W) (j : Nat) : W.frozen? ⟨q, j, none⟩ = false := blk_frozen h.2.2.2.1 j
theorem GI.drewN (h : GI B N w0 r p g q s i rs m W) (n : Nat) : GI B N w0 r p g q s i rs m (W.drewN n) := by
  obtain ⟨h1, h2, h3, h4, h5, h6⟩ := h
  exact ⟨pw_below_drewN h1 n, h2, h3, h4, h5, h6⟩
theorem GI.drew (h : GI B N w0 r p g q s i rs m W) : GI B N w0 r p g q s i rs m W.drew := by
  obtain ⟨h1, h2, h3, h4, h5, h6⟩ := h
  exact ⟨below_drew h1, h2, h3, h4, h5, h6⟩
theorem GI.below {W' : World} (h : GI B N w0 r p g q s i rs m W) (hb : Below W.heap.size W W') : GI B N w0 r p g q s i rs m W' := by
  obtain ⟨h1, h2, h3, h4, h5, h6⟩ := h
  refine ⟨h1.trans (hb.mono (Nat.le_trans ?_ h5)), blk_below h2 hb, GS.below h3 (Kept.of_below hb _), blk_below h4 hb, Nat.le_trans h5 hb.size, h6⟩
  exact h6.2.2.2.2.2.2.2.2.2.2.1
theorem GI.alloc (h : GI B N w0 r p g q s i rs m W) (o : Obj) : GI B N w0 r p g q s i rs m (W.alloc o) := h.below (below_alloc (Below.refl _ _) o)
/-- A cell of the image is written. -/
theorem GI.set (h : GI B N w0 r p g q s i rs m W) (j : Nat) (u : Value) : GI B N w0 r p g q s i rs (m.setIfInBounds j u) (W.setCell ⟨q, j, none⟩ u) := by
  obtain ⟨h1, h2, h3, h4, h5, b1, b2, b3, b4, b5, b6, b7, b8, b9, b10, b11, b12, b13⟩ := h
  have hk : Kept W (W.setCell ⟨q, j, none⟩ u) (fun k => k = q) := Kept.setCell (S := fun k => k = q) (p := ⟨q, j, none⟩) (Kept.refl W _) (Or.inl rfl) u
  exact ⟨h1.setCell b10 _, blk_far h2 b7 u, GS.below h3 (hk.mono (fun k e => by subst e; exact ⟨fun e => b8 e.symm, fun e => b9 e.symm⟩)), blk_set h4 j u, by simpa using h5, b1, b2, b3, b4, b5, b6, b7, b8, b9, b10, b11, b12, b13⟩
/-- A cell of the result is written. -/
theorem GI.setr (h : GI B N w0 r p g q s i rs m W) (j : Nat) (u : Value) : GI B N w0 r p g q s i (rs.setIfInBounds j u) m (W.setCell ⟨r, j, none⟩ u) := by
  obtain ⟨h1, h2, h3, h4, h5, b1, b2, b3, b4, b5, b6, b7, b8, b9, b10, b11, b12, b13⟩ := h
  have hk : Kept W (W.setCell ⟨r, j, none⟩ u) (fun k => k = r) := Kept.setCell (S := fun k => k = r) (p := ⟨r, j, none⟩) (Kept.refl W _) (Or.inl rfl) u
  exact ⟨h1.setCell b12 _, blk_set h2 j u, GS.below h3 (hk.mono (fun k e => by subst e; exact ⟨b6, fun e => b13 e.symm⟩)), blk_far h4 (fun e => b7 e.symm) u, by simpa using h5, b1, b2, b3, b4, b5, b6, b7, b8, b9, b10, b11, b12, b13⟩
/-- A row behind all of them is written, or made. -/
theorem GI.grown {W' : World} {row : Option Nat} (h : GI B N w0 r p g q s i rs m W) (hg : W.grownBy W' row) (hr : ∀ k, row = some k → N ≤ k) : GI B N w0 r p g q s i rs m W' := by
  obtain ⟨h1, h2, h3, h4, h5, b1, b2, b3, b4, b5, b6, b7, b8, b9, b10, b11, b12, b13⟩ := h
  have hk : Kept W W' (fun k => N ≤ k) := Kept.of_grown hg (Kept.refl W _) (fun k e => Or.inl (hr k e))
  refine ⟨h1.grown hg (by omega) (fun k e => Nat.le_trans b11 (hr k e)), blk_kept h2 hk (by omega), GS.below h3 (hk.mono (fun k e => ⟨by omega, by omega⟩)), blk_kept h4 hk (by omega), Nat.le_trans h5 hk.1, b1, b2, b3, b4, b5, b6, b7, b8, b9, b10, b11, b12, b13⟩
theorem get_nth (hs : s.size ≤ 9223372036854775807) (h : GI B N w0 r p g q s i rs m W) :
    Calls Try.prog 72 #[.pointer (some ⟨p, 0, none⟩)] W fun e w' => e = .returned (.int .i64 (numAt s i)) ∧ GI B N w0 r p g q s (i + 1) rs m w' ∧ Kept W w' (fun k => k = p) := by
  obtain ⟨h1, h2, h3, h4, h5, b1, b2, b3, b4, b5, b6, b7, b8, b9, b10, b11, b12, b13⟩ := h
  obtain ⟨e1, e2⟩ := numAt_get s i
  refine (get_any p g (posAt s i) s hs W h3).mono ?_
  rintro e w' ⟨rfl, g1, g2, g3⟩
  rw [e1]
  rw [e2] at g1
  exact ⟨rfl, ⟨h1.trans (g3.mono b1), blk_kept h2 g2 b6, g1, blk_kept h4 g2 (fun e => b8 e.symm), Nat.le_trans h5 g2.1, b1, b2, b3, b4, b5, b6, b7, b8, b9, b10, b11, b12, b13⟩, g2⟩
end
theorem row_kept {α : Type} {d : Kd α} {e N : Nat} {W W' : World} {S : Nat → Prop} {v : Value} {xs : List α} (h : d.R e W N (fun _ => True) v xs) (hk : Kept W W' S) (hS : ∀ k, S k → k < N) : d.R e W' N (fun _ => True) v xs :=
  Kd.R_mono (Kd.R_kept (Kd.R_bound h) hk (fun k h1 h2 => by have := hS k h2; have := h1.2.1; omega)) (fun _ _ => trivial)
theorem row_below {α : Type} {d : Kd α} {e N : Nat} {W W' : World} {v : Value} {xs : List α} (h : d.R e W N (fun _ => True) v xs) (hb : Below W.heap.size W W') : d.R e W' N (fun _ => True) v xs := Kd.R_below h hb
def impl_getImage.f (k : Nat) (a0 : ByteArray) : Option (List Int × Int × Int × (List S59) × Bool) :=
  if a0.size ≤ 140737488351232 then
    if inB (numAt a0 0) 1 4 = true then
      if inB (numAt a0 ((numAt a0 0).toNat + 3)) 1 6000 = true then
        if imageOk (getSizes a0) (numAt a0 ((numAt a0 0).toNat + 1)) (numAt a0 ((numAt a0 0).toNat + 2)) (getWords a0) = true then
          (impl_putImage.f k (getSizes a0) (numAt a0 ((numAt a0 0).toNat + 1)) (numAt a0 ((numAt a0 0).toNat + 2)) (getWords a0)).bind fun t => if t.toList = a0.toList then some (getSizes a0, numAt a0 ((numAt a0 0).toNat + 1), numAt a0 ((numAt a0 0).toNat + 2), getWords a0, true) else some (([] : List Int), 0, 0, ([] : List S59), false)
        else some (([] : List Int), 0, 0, ([] : List S59), false)
      else some (([] : List Int), 0, 0, ([] : List S59), false)
    else some (([] : List Int), 0, 0, ([] : List S59), false)
  else none
theorem impl_getImage.mono : ∀ a0 k, LeO (impl_getImage.f k a0) (impl_getImage.f (k + 1) a0) := by
  intro a0 k
  unfold impl_getImage.f
  repeat' first
      | (with_reducible exact impl_putImage.mono _ _ _ _ _)
      | (with_reducible exact LeO.refl _)
      | (with_reducible exact LeO.none _)
      | (with_reducible apply LeO.bind)
      | split
      | (intro _)
theorem bytes_below {w0 W : World} (h : Below w0.heap.size w0 W) (e : TypeId) (s : ByteArray) : Below w0.heap.size w0 (Lib.bytesWorld W e s) := by
  refine ⟨h.os, h.tape, h.output, ?_, fun i hi => (Lib.bytesWorld_at_old W e s i (Nat.lt_of_lt_of_le hi h.size)).trans (h.block i hi)⟩
  rw [Lib.bytesWorld_size]
  exact Nat.le_trans h.size (Nat.le_succ _)
def zim : Array Value := #[.slice none 0 0, .int .i64 0, .int .i64 0, .slice none 0 0]
theorem GI.start (w : World) (s : ByteArray) (c : Nat) (hc : s.size ≤ c) : GI w.heap.size (w.heap.size + 4) w w.heap.size (w.heap.size + 2) (w.heap.size + 1) (w.heap.size + 3) s 0 zim zim
    (((Lib.bytesWorld (w.alloc (.cells #[.slice none 0 0, .int .i64 0, .int .i64 0, .slice none 0 0] 33 (0, 0))) 5 s).alloc (.cells #[.slice (some ⟨w.heap.size + 1, 0, none⟩) s.size c] 71 (0, 0))).alloc (.cells #[.slice none 0 0, .int .i64 0, .int .i64 0, .slice none 0 0] 33 (0, 0))) := by
  have e1 : (w.alloc (.cells #[.slice none 0 0, .int .i64 0, .int .i64 0, .slice none 0 0] 33 (0, 0))).heap.size = w.heap.size + 1 := by simp
  have n0 := blk_new w (.cells #[.slice none 0 0, .int .i64 0, .int .i64 0, .slice none 0 0] 33 (0, 0))
  have b0 := below_alloc (Below.refl _ w) (.cells #[.slice none 0 0, .int .i64 0, .int .i64 0, .slice none 0 0] 33 (0, 0))
  generalize w.alloc (.cells #[.slice none 0 0, .int .i64 0, .int .i64 0, .slice none 0 0] 33 (0, 0)) = W1 at e1 n0 b0 ⊢
  have e2 : (Lib.bytesWorld W1 5 s).heap.size = w.heap.size + 2 := by rw [Lib.bytesWorld_size, e1]
  have b2 := bytes_below b0 5 s
  have n2 : (Lib.bytesWorld W1 5 s).heap[w.heap.size]? = _ := (Lib.bytesWorld_at_old W1 5 s w.heap.size (by omega)).trans n0
  have c2 := fun (j : Nat) (hj : j < s.size) => Lib.bytesWorld_cell W1 5 s j hj
  rw [e1] at c2
  generalize Lib.bytesWorld W1 5 s = W2 at e2 b2 n2 c2 ⊢
  have e3 : (W2.alloc (.cells #[.slice (some ⟨w.heap.size + 1, 0, none⟩) s.size c] 71 (0, 0))).heap.size = w.heap.size + 3 := by simp; omega
  have n3 := blk_new W2 (.cells #[.slice (some ⟨w.heap.size + 1, 0, none⟩) s.size c] 71 (0, 0))
  rw [e2] at n3
  have m3 := blk_alloc n2 (.cells #[.slice (some ⟨w.heap.size + 1, 0, none⟩) s.size c] 71 (0, 0))
  have b3 := below_alloc b2 (.cells #[.slice (some ⟨w.heap.size + 1, 0, none⟩) s.size c] 71 (0, 0))
  have c3 := fun (j : Nat) (hj : j < s.size) => pw_cell_below (below_alloc (Below.refl _ W2) (.cells #[.slice (some ⟨w.heap.size + 1, 0, none⟩) s.size c] 71 (0, 0))) (c2 j hj)
  generalize W2.alloc (.cells #[.slice (some ⟨w.heap.size + 1, 0, none⟩) s.size c] 71 (0, 0)) = W3 at e3 n3 m3 b3 c3 ⊢
  have n4 := blk_new W3 (.cells #[.slice none 0 0, .int .i64 0, .int .i64 0, .slice none 0 0] 33 (0, 0))
  rw [e3] at n4
  have hz : (W3.alloc (.cells #[.slice none 0 0, .int .i64 0, .int .i64 0, .slice none 0 0] 33 (0, 0))).heap.size = w.heap.size + 4 := by simp; omega
  refine ⟨below_alloc b3 _, blk_alloc m3 _, ?_, n4, by omega, by omega, by omega, by omega, by omega, by omega, by omega, by omega, by omega, by omega, by omega, by omega, by omega, by omega⟩
  rw [posAt_zero]
  refine ⟨Nat.zero_le _, by omega, by omega, ⟨0, c, Or.inl rfl, by omega, ?_⟩, fun j hj => pw_cell_below (below_alloc (Below.refl _ W3) _) (c3 j hj)⟩
  rw [Nat.sub_zero]
  exact blk_alloc n3 _
/-- What the walk reads of the result's block, and of the image's. -/
theorem GI.rcells {B N : Nat} {w0 W : World} {r p g q : Nat} {s : ByteArray} {i : Nat} {a b c d : Value} {m : Array Value} (h : GI B N w0 r p g q s i #[a, b, c, d] m W) :
    (W.cell? ⟨r, 0, none⟩ = some a ∧ W.cell? ⟨r, 1, none⟩ = some b ∧ W.cell? ⟨r, 2, none⟩ = some c ∧ W.cell? ⟨r, 3, none⟩ = some d) ∧ (W.frozen? ⟨r, 0, none⟩ = false ∧ W.frozen? ⟨r, 1, none⟩ = false ∧ W.frozen? ⟨r, 2, none⟩ = false ∧ W.frozen? ⟨r, 3, none⟩ = false) :=
  ⟨⟨(blk_cell h.2.1 0).trans rfl, (blk_cell h.2.1 1).trans rfl, (blk_cell h.2.1 2).trans rfl, (blk_cell h.2.1 3).trans rfl⟩, blk_frozen h.2.1 0, blk_frozen h.2.1 1, blk_frozen h.2.1 2, blk_frozen h.2.1 3⟩
theorem GI.mcells {B N : Nat} {w0 W : World} {r p g q : Nat} {s : ByteArray} {i : Nat} {a b c d : Value} {rs : Array Value} (h : GI B N w0 r p g q s i rs #[a, b, c, d] W) :
    (W.cell? ⟨q, 0, none⟩ = some a ∧ W.cell? ⟨q, 1, none⟩ = some b ∧ W.cell? ⟨q, 2, none⟩ = some c ∧ W.cell? ⟨q, 3, none⟩ = some d) ∧ (W.frozen? ⟨q, 0, none⟩ = false ∧ W.frozen? ⟨q, 1, none⟩ = false ∧ W.frozen? ⟨q, 2, none⟩ = false ∧ W.frozen? ⟨q, 3, none⟩ = false) :=
  ⟨⟨(blk_cell h.2.2.2.1 0).trans rfl, (blk_cell h.2.2.2.1 1).trans rfl, (blk_cell h.2.2.2.1 2).trans rfl, (blk_cell h.2.2.2.1 3).trans rfl⟩, blk_frozen h.2.2.2.1 0, blk_frozen h.2.2.2.1 1, blk_frozen h.2.2.2.1 2, blk_frozen h.2.2.2.1 3⟩
/-- The whole of the result is written. -/
theorem GI.set4 {B N : Nat} {w0 W : World} {r p g q : Nat} {s : ByteArray} {i : Nat} {a b c d a' b' c' d' : Value} {m : Array Value} (h : GI B N w0 r p g q s i #[a, b, c, d] m W) :
    GI B N w0 r p g q s i #[a', b', c', d'] m ((((W.setCell ⟨r, 0, none⟩ a').setCell ⟨r, 1, none⟩ b').setCell ⟨r, 2, none⟩ c').setCell ⟨r, 3, none⟩ d') := (((h.setr 0 a').setr 1 b').setr 2 c').setr 3 d'
set_option maxHeartbeats 1000000 in
set_option maxRecDepth 100000 in
theorem getImage_no1 (a0 : ByteArray) (hs : a0.size ≤ 140737488351232) (hb1 : inB (numAt a0 0) 1 4 = false) (w : World) :
    Calls Try.prog 58 #[.string a0] w fun e w' => e = .returned (.tuple #[.agg #[.slice none 0 0, .int .i64 0, .int .i64 0, .slice none 0 0], .bool false]) ∧ Below w.heap.size w w' := by
  have eg := enters_of Try.func72 (by kernel_rfl) rfl
  have hcv := fun (W : World) => Lib.run_convert_string_bytes (P := Try.prog) W 9 71 5 a0 Try.underlying9 Try.underlying71 Try.underlying5
  have hbz := fun (W : World) => Lib.bytesWorld_size W 5 a0
  go_enter Try.func58, Try.ntmps58
  go_wp2_with (first | (go_at_call 72; (with_reducible refine (get_nth (by omega) (GI.start w a0 _ (grownCap_ge _ _ _ _))).mono ?_); rintro e w1 ⟨rfl, hg, hk⟩; obtain ⟨⟨hr0, hr1, hr2, hr3⟩, hf0, hf1, hf2, hf3⟩ := hg.rcells; have HG := Aside0.mk hg; clear hg hk) | (go_at_call 66; (with_reducible refine (in_any _ _ _ _).mono ?_); rintro e w2 ⟨rfl, ⟨n, rfl⟩⟩))
  have HE := (GI.set4 (a' := .slice none 0 0) (b' := .int .i64 0) (c' := .int .i64 0) (d' := .slice none 0 0) HG.out).drewN n
  refine bodyPost_ret (results_ct rfl _ _ w.heap.size 33 #[.slice none 0 0, .int .i64 0, .int .i64 0, .slice none 0 0] (0, 0) _ rfl ?_ Try.underlying33 rfl (by kernel_rfl)) rfl ?_
  · exact HE.2.1
  · exact ⟨rfl, HE.1⟩
theorem getSizes_length (s : ByteArray) : (getSizes s).length = (numAt s 0).toNat := by simp [getSizes]
theorem getWords_length (s : ByteArray) : (getWords s).length = (numAt s ((numAt s 0).toNat + 3)).toNat := by simp [getWords]
theorem getSizes_take (s : ByteArray) (j : Nat) (h : j < (numAt s 0).toNat) : (getSizes s).take (j + 1) = (getSizes s).take j ++ [numAt s (j + 1)] := by
  rw [List.take_succ_eq_append_getElem (by rw [getSizes_length]; exact h)]
  simp [getSizes]
theorem getWords_take (s : ByteArray) (j : Nat) (h : j < (numAt s ((numAt s 0).toNat + 3)).toNat) : (getWords s).take (j + 1) = (getWords s).take j ++ [wordAt s ((numAt s 0).toNat + 4 + 5 * j)] := by
  rw [List.take_succ_eq_append_getElem (by rw [getWords_length]; exact h)]
  simp [getWords]
theorem GI.kept1 {N : Nat} {W : World} {q j : Nat} (u : Value) : Kept W (W.setCell ⟨q, j, none⟩ u) (fun k => k = q) := Kept.setCell (S := fun k => k = q) (p := ⟨q, j, none⟩) (Kept.refl W _) (Or.inl rfl) u
set_option maxHeartbeats 4000000 in
set_option maxRecDepth 100000 in
theorem getImage_yes (k : Nat) (a0 : ByteArray) (hs : a0.size ≤ 140737488351232) (K : Nat) (hK : numAt a0 0 = (K : Int)) (hb1 : inB (K : Int) 1 4 = true) (hK4 : K ≤ 4) (hK1 : 1 ≤ K) (r1 : List Int) (r2 : Int) (r3 : Int) (r4 : List (S59)) (r5 : Bool) (w : World) (h : impl_getImage.f k a0 = some (r1, r2, r3, r4, r5)) :
    Calls Try.prog 58 #[.string a0] w fun e w' => ∃ v0_ v3_ : Value, e = .returned (.tuple #[.agg #[v0_, .int .i64 r2, .int .i64 r3, v3_], .bool r5]) ∧ Kd.R (Kd.int .i64) 3 w' w.heap.size (fun _ => True) v0_ r1 ∧ Kd.R k59 59 w' w.heap.size (fun _ => True) v3_ r4 ∧ Below w.heap.size w w' := by
  have eg := enters_of Try.func72 (by kernel_rfl) rfl
  have hcv := fun (W : World) => Lib.run_convert_string_bytes (P := Try.prog) W 9 71 5 a0 Try.underlying9 Try.underlying71 Try.underlying5
  have hbz := fun (W : World) => Lib.bytesWorld_size W 5 a0
  have hKn : (numAt a0 0).toNat = K := by omega
  have HKn := Aside0.mk hKn
  have hlS : (getSizes a0).length = K := by rw [getSizes_length, hKn]
  have HS := Aside0.mk hlS
  have HK := Aside0.mk hK
  have H := Aside0.mk h
  clear h hK hKn hlS
  go_enter Try.func58, Try.ntmps58
  go_wp2_with (first | (go_at_call 72; (with_reducible refine (get_nth (by omega) (GI.start w a0 _ (grownCap_ge _ _ _ _))).mono ?_); rintro e w1 ⟨rfl, hg, hk⟩; rw [HK.out]; have HG := Aside0.mk hg; clear hg hk) | (go_at_call 66; (with_reducible refine (in_any _ _ _ _).mono ?_); rintro e w2 ⟨rfl, ⟨n, rfl⟩⟩))
  have HG2 := Aside0.mk (HG.out.drewN n)
  clear HG
  generalize w1.drewN n = w2 at HG2 ⊢
  go_loopg [20] K (fun gg v20 wr => ∃ (j : Nat) (v0 : Value), j ≤ K ∧ K - j ≤ gg ∧ v20 = .int .i64 j ∧ Aside0 (GI w.heap.size (w.heap.size + 4) w w.heap.size (w.heap.size + 2) (w.heap.size + 1) (w.heap.size + 3) a0 (j + 1) #[.slice none 0 0, .int .i64 0, .int .i64 0, .slice none 0 0] #[v0, .int .i64 0, .int .i64 0, .slice none 0 0] wr) ∧ Aside0 (Kd.R (Kd.int .i64) 3 wr (w.heap.size + 4) (fun _ => True) v0 ((getSizes a0).take j)))
  case atStart => exact ⟨0, .slice none 0 0, Nat.zero_le _, by omega, rfl, HG2, ⟨Kd.R_nil _ _ _ _ _⟩⟩
  case round =>
    clear HG2
    (try clear HG)
    (try clear HR)
    obtain ⟨j, v0, hj, hg, rfl, HG, HR⟩ := hrel
    by_cases hlt : j < K
    · have hltb : decide ((j : Int) < (K : Int)) = true := decide_eq_true (by omega)
      go_wp2
      have HGd := Aside0.mk (HG.out.drew)
      have HRd := Aside0.mk (Kd.R_drew HR.out)
      clear HG HR
      refine start_ (n := 8) (S := fun w' => w'.cell? ⟨w.heap.size + 3, 0, none⟩ = some v0) (ds := [7]) #[false, false, false, false, false, false, false, false] (by kernel_rfl) rfl rfl (HGd.out.mcells.1.1) (fun hHeld => ?_)
      generalize wr.drew = w4 at HGd HRd hHeld ⊢
      refine pure_ (i := 0) (N := some 22) (v := ?_) (a' := ?_) #[true, false, false, false, false, false, false, false] rfl rfl (by kernel_rfl) (fun _ _ _ h => h) (Or.inl ⟨by rfl, ?_⟩) ?_ ?_
      rotate_left
      · intro w'
        go_simp
        with_reducible rfl
      rotate_left
      · simp only [Act.put, List.setIfInBounds_toArray, List.set_cons_zero, List.set_cons_succ, i64_w, i32_w]
        rfl
      refine pure_ (i := 2) (N := some 24) (v := ?_) (a' := ?_) #[true, false, true, false, false, false, false, false] rfl rfl (by kernel_rfl) (fun _ _ _ h => h) (Or.inl ⟨by rfl, ?_⟩) ?_ ?_
      rotate_left
      · intro w'
        go_simp
        with_reducible rfl
      rotate_left
      · simp only [Act.put, List.setIfInBounds_toArray, List.set_cons_zero, List.set_cons_succ, i64_w, i32_w]
        rfl
      refine take_ (i := 1) (N := some 23) (v := ?_) (a' := ?_) #[true, true, true, false, false, false, false, false] rfl rfl (by kernel_rfl) (fun _ _ _ h => h) (Or.inl ⟨by rfl, ?_⟩) hHeld ?_ ?_
      rotate_left
      · intro w' s0
        go_simp
        with_reducible rfl
      rotate_left
      · simp only [Act.put, List.setIfInBounds_toArray, List.set_cons_zero, List.set_cons_succ, i64_w, i32_w]
        rfl
      refine one_ (i := 3) (N := some 25) #[true, true, true, true, false, false, false, false] rfl rfl (by kernel_rfl) (by decide) (fun K hK => ?_)
      refine call_ 72 #[.pointer (some ⟨w.heap.size + 2, 0, none⟩)] (by rfl) rfl (by first | (go_simp; done) | (go_simp; exact eg _ _)) ?_
      refine (get_nth (by omega) HGd.out).mono ?_
      rintro e w5 ⟨rfl, hg5, hk5⟩
      have HG5 := Aside0.mk hg5
      have HR5 := Aside0.mk (row_kept HRd.out hk5 (fun k e => by omega))
      clear hg5 hk5
      refine ⟨_, rfl, ?_⟩
      refine hK.out _ _ (HG5.out.mcells.1.1) (fun hHeld => ?_)
      clear hK K
      refine norm_ (a' := ?_) ?_ ?_
      rotate_left
      · show Act.put _ (some 25) _ = _
        simp only [Act.put, List.setIfInBounds_toArray, List.set_cons_zero, List.set_cons_succ, i64_w, i32_w]
        rfl
      refine one_ (i := 4) (N := some 26) #[true, true, true, true, true, false, false, false] rfl rfl (by kernel_rfl) (by decide) (fun K hK => ?_)
      refine value_ (w1 := ?_) (v := ?_) (by rfl) rfl ?_ ?_
      rotate_left 2
      · go_simp
        constructor
        · rfl
        · rfl
      refine hK.out _ _ ((HG5.out.alloc _).mcells.1.1) (fun hHeld => ?_)
      clear hK K
      refine norm_ (a' := ?_) ?_ ?_
      rotate_left
      · show Act.put _ (some 26) _ = _
        simp only [Act.put, List.setIfInBounds_toArray, List.set_cons_zero, List.set_cons_succ, i64_w, i32_w]
        rfl
      refine one_ (i := 5) (N := some 27) #[true, true, true, true, true, true, false, false] rfl rfl (by kernel_rfl) (by decide) (fun K hK => ?_)
      refine Kd.R_append_step (Kd.int .i64) (w0 := w5) (w.heap.size + 4) (by rfl) (.tmp 23) (.tmp 26) 25 3 (.int .i64 0) 8 rfl Try.underlying25 info3 rfl (by decide) (by omega) v0 ((getSizes a0).take j) (numAt a0 (j + 1)) [.int .i64 (numAt a0 (j + 1))] (fun _ => True) (fun _ => False) rfl rfl ?aP (fun _ hk => hk.elim) (fun _ _ => trivial) HR5.out (Below.refl _ _) HG5.out.2.2.2.2.1 ?aL ?_
      (case aP => exact rfl)
      (case aL => have := HS.out; rw [List.length_take]; omega)
      intro v6 w6 ho hb hgr hat
      rw [← getSizes_take a0 j (by have := HKn.out; omega)] at ho
      obtain ⟨y, hy⟩ : ∃ y_ : List Int, y_ = (getSizes a0).take (j + 1) := ⟨_, rfl⟩
      rw [← hy] at ho
      have Ny := Aside0.mk hy
      clear hy
      have HG6 := Aside0.mk (HG5.out.grown hgr (fun k e => by obtain ⟨inner, hi⟩ := Kd.R_own HR5.out; exact own_base hi k e))
      have HR6 := Aside0.mk ho
      obtain ⟨A6, c6, rfl⟩ := Kd.R_slice ho
      clear ho hb hgr hat
      refine hK.out _ _ (HG6.out.mcells.1.1) (fun hHeld => ?_)
      clear hK K
      refine norm_ (a' := ?_) ?_ ?_
      rotate_left
      · show Act.put _ (some 27) _ = _
        simp only [Act.put, List.setIfInBounds_toArray, List.set_cons_zero, List.set_cons_succ, i64_w, i32_w]
        rfl
      refine pure_ (i := 6) (N := some 28) (v := ?_) (a' := ?_) #[true, true, true, true, true, true, true, false] rfl rfl (by kernel_rfl) (fun _ _ _ h => h) (Or.inl ⟨by rfl, ?_⟩) ?_ ?_
      rotate_left
      · intro w'
        go_simp
        with_reducible rfl
      rotate_left
      · simp only [Act.put, List.setIfInBounds_toArray, List.set_cons_zero, List.set_cons_succ, i64_w, i32_w]
        rfl
      refine last_ (i := 7) (N := none) #[true, true, true, true, true, true, true, true] rfl rfl (by kernel_rfl) (by decide) (fun K hK => ?_)
      have hx6 := HG6.out.mcells.1.1
      have hf6 := HG6.out.mcells.2.1
      refine skip_ (w1 := ?_) (by rfl) rfl ?_ ?_
      rotate_left
      · go_simp
        rfl
      refine hK.out _ _ ?_
      clear hK K
      refine done_ (by kernel_rfl) ?_
      go_wp2
      go_roundg (K - (j + 1))
      case measure => omega
      case rel => exact ⟨j + 1, _, by omega, by omega, by go_num, ⟨HG6.out.set 0 _⟩, ⟨by rw [← Ny.out]; exact row_kept HR6.out (GI.kept1 (N := 0) _) (fun k e => by omega)⟩⟩
    · have hltb : decide ((j : Int) < (K : Int)) = false := decide_eq_false (by omega)
      obtain rfl : j = K := by omega
      obtain ⟨⟨hq0, hq1, hq2, hq3⟩, hf0, hf1, hf2, hf3⟩ := HG.out.mcells
      have HRS := Aside0.mk (show Kd.R (Kd.int .i64) 3 wr (w.heap.size + 4) (fun _ => True) v0 (getSizes a0) from by have := HR.out; rw [List.take_of_length_le (by rw [HS.out]; omega)] at this; exact this)
      clear HR
      have hone0 : v0.oneCell' = true := one_of_R HRS
      cases hb2 : inB (numAt a0 (j + 3)) 1 6000 with
      | false =>
        go_wp2_with (first | (go_at_call 72; (with_reducible refine (get_nth (i := j + 1) (by omega) HG.out).mono ?_); rintro e w5 ⟨rfl, hg5, hk5⟩; have HG5 := Aside0.mk hg5; have HK5 := Aside0.mk hk5; obtain ⟨⟨hq50, hq51, hq52, hq53⟩, hf50, hf51, hf52, hf53⟩ := hg5.mcells; clear hg5 hk5) | (go_at_call 72; (with_reducible refine (get_nth (i := j + 2) (by omega) (HG5.out.set 1 _)).mono ?_); rintro e w6 ⟨rfl, hg6, hk6⟩; have HG6 := Aside0.mk hg6; have HK6 := Aside0.mk hk6; obtain ⟨⟨hq60, hq61, hq62, hq63⟩, hf60, hf61, hf62, hf63⟩ := hg6.mcells; clear hg6 hk6) | (go_at_call 72; (with_reducible refine (get_nth (i := j + 3) (by omega) (HG6.out.set 2 _)).mono ?_); rintro e w7 ⟨rfl, hg7, hk7⟩; have HG7 := Aside0.mk hg7; have HK7 := Aside0.mk hk7; obtain ⟨⟨hr0, hr1, hr2, hr3⟩, hr4, hr5, hr6, hr7⟩ := hg7.rcells; clear hg7 hk7) | (go_at_call 66; (with_reducible refine (in_any _ _ _ _).mono ?_); rintro e w8 ⟨rfl, ⟨n2, rfl⟩⟩))
        have HE := (GI.set4 (a' := .slice none 0 0) (b' := .int .i64 0) (c' := .int .i64 0) (d' := .slice none 0 0) HG7.out).drewN n2
        have hz : (([] : List Int), (0 : Int), (0 : Int), ([] : List S59), false) = (r1, r2, r3, r4, r5) := by
          have h := H.out
          unfold impl_getImage.f at h
          rw [if_pos hs, HK.out, if_pos hb1, Int.toNat_natCast, hb2, if_neg (by simp)] at h
          exact Option.some.inj h
        cases hz
        refine bodyPost_ret (results_ct rfl _ _ w.heap.size 33 #[.slice none 0 0, .int .i64 0, .int .i64 0, .slice none 0 0] (0, 0) _ rfl ?_ Try.underlying33 rfl (by kernel_rfl)) rfl ?_
        · exact HE.2.1
        · exact ⟨_, _, rfl, Kd.R_nil _ _ _ _ _, Kd.R_nil _ _ _ _ _, HE.1⟩
      | true =>
        obtain ⟨D, hD⟩ : ∃ D : Nat, numAt a0 (j + 3) = (D : Int) := ⟨(numAt a0 (j + 3)).toNat, by simp [inB] at hb2; omega⟩
        have hD6 : D ≤ 6000 := by simp [inB] at hb2; omega
        have HD := Aside0.mk hD
        rw [hD] at hb2
        have HLW := Aside0.mk (show (getWords a0).length = D from by rw [getWords_length, HKn.out, hD]; rfl)
        clear hD
        go_wp2_with (first | (go_at_call 72; (with_reducible refine (get_nth (i := j + 1) (by omega) HG.out).mono ?_); rintro e w5 ⟨rfl, hg5, hk5⟩; have HG5 := Aside0.mk hg5; have HK5 := Aside0.mk hk5; obtain ⟨⟨hq50, hq51, hq52, hq53⟩, hf50, hf51, hf52, hf53⟩ := hg5.mcells; clear hg5 hk5) | (go_at_call 72; (with_reducible refine (get_nth (i := j + 2) (by omega) (HG5.out.set 1 _)).mono ?_); rintro e w6 ⟨rfl, hg6, hk6⟩; have HG6 := Aside0.mk hg6; have HK6 := Aside0.mk hk6; obtain ⟨⟨hq60, hq61, hq62, hq63⟩, hf60, hf61, hf62, hf63⟩ := hg6.mcells; clear hg6 hk6) | (go_at_call 72; (with_reducible refine (get_nth (i := j + 3) (by omega) (HG6.out.set 2 _)).mono ?_); rintro e w7 ⟨rfl, hg7, hk7⟩; rw [HD.out]; have HG7 := Aside0.mk hg7; have HK7 := Aside0.mk hk7; clear hg7 hk7) | (go_at_call 66; (with_reducible refine (in_any _ _ _ _).mono ?_); rintro e w8 ⟨rfl, ⟨n2, rfl⟩⟩))
        have HG8 := Aside0.mk (HG7.out.drewN n2)
        have HR8 := Aside0.mk (Kd.R_drewN (row_kept (row_kept (row_kept (row_kept (row_kept HRS.out HK5.out (fun k e => by omega)) (GI.kept1 (N := 0) (q := w.heap.size + 3) (j := 1) (.int .i64 (numAt a0 (j + 1)))) (fun k e => by omega)) HK6.out (fun k e => by omega)) (GI.kept1 (N := 0) (q := w.heap.size + 3) (j := 2) (.int .i64 (numAt a0 (j + 2)))) (fun k e => by omega)) HK7.out (fun k e => by omega)) n2)
        clear HG HG5 HG6 HG7 HK5 HK6 HK7 HRS hq0 hq1 hq2 hq3 hf0 hf1 hf2 hf3 hq50 hq51 hq52 hq53 hf50 hf51 hf52 hf53 hq60 hq61 hq62 hq63 hf60 hf61 hf62 hf63
        generalize w7.drewN n2 = w8 at HG8 HR8 ⊢
        go_loopg [43] D (fun gg v43 wr2 => ∃ (i : Nat) (v3 : Value), i ≤ D ∧ D - i ≤ gg ∧ v43 = .int .i64 i ∧ Aside0 (GI w.heap.size (w.heap.size + 4) w w.heap.size (w.heap.size + 2) (w.heap.size + 1) (w.heap.size + 3) a0 (j + 4 + 5 * i) #[.slice none 0 0, .int .i64 0, .int .i64 0, .slice none 0 0] #[v0, .int .i64 (numAt a0 (j + 1)), .int .i64 (numAt a0 (j + 2)), v3] wr2) ∧ Aside0 (Kd.R (Kd.int .i64) 3 wr2 (w.heap.size + 4) (fun _ => True) v0 (getSizes a0)) ∧ Aside0 (Kd.R k59 59 wr2 (w.heap.size + 4) (fun _ => True) v3 ((getWords a0).take i)))
        case atStart => exact ⟨0, .slice none 0 0, Nat.zero_le _, by omega, rfl, HG8, HR8, ⟨Kd.R_nil _ _ _ _ _⟩⟩
        case round =>
          clear HG8 HR8
          (try clear HG)
          (try clear HR)
          (try clear HV)
          obtain ⟨i, v3, hi, hg, rfl, HG, HR, HV⟩ := hrel
          by_cases hlti : i < D
          · have hltc : decide ((i : Int) < (D : Int)) = true := decide_eq_true (by omega)
            go_wp2
            have HGd := Aside0.mk (HG.out.drew)
            have HRd := Aside0.mk (Kd.R_drew HR.out)
            have HVd := Aside0.mk (Kd.R_drew HV.out)
            clear HG HR HV
            refine start_ (n := 17) (S := fun w' => w'.cell? ⟨w.heap.size + 3, 3, none⟩ = some v3) (ds := [16]) #[false, false, false, false, false, false, false, false, false, false, false, false, false, false, false, false, false] (by kernel_rfl) rfl rfl (HGd.out.mcells.1.2.2.2) (fun hHeld => ?_)
            generalize wr.drew = w14 at HGd HRd HVd hHeld ⊢
            refine pure_ (i := 0) (N := some 45) (v := ?_) (a' := ?_) #[true, false, false, false, false, false, false, false, false, false, false, false, false, false, false, false, false] rfl rfl (by kernel_rfl) (fun _ _ _ h => h) (Or.inl ⟨by rfl, ?_⟩) ?_ ?_
            rotate_left
            · intro w'
              go_simp
              with_reducible rfl
            rotate_left
            · simp only [Act.put, List.setIfInBounds_toArray, List.set_cons_zero, List.set_cons_succ, i64_w, i32_w]
              rfl
            refine pure_ (i := 2) (N := some 47) (v := ?_) (a' := ?_) #[true, false, true, false, false, false, false, false, false, false, false, false, false, false, false, false, false] rfl rfl (by kernel_rfl) (fun _ _ _ h => h) (Or.inl ⟨by rfl, ?_⟩) ?_ ?_
            rotate_left
            · intro w'
              go_simp
              with_reducible rfl
            rotate_left
            · simp only [Act.put, List.setIfInBounds_toArray, List.set_cons_zero, List.set_cons_succ, i64_w, i32_w]
              rfl
            refine pure_ (i := 4) (N := some 49) (v := ?_) (a' := ?_) #[true, false, true, false, true, false, false, false, false, false, false, false, false, false, false, false, false] rfl rfl (by kernel_rfl) (fun _ _ _ h => h) (Or.inl ⟨by rfl, ?_⟩) ?_ ?_
            rotate_left
            · intro w'
              go_simp
              with_reducible rfl
            rotate_left
            · simp only [Act.put, List.setIfInBounds_toArray, List.set_cons_zero, List.set_cons_succ, i64_w, i32_w]
              rfl
            refine pure_ (i := 6) (N := some 51) (v := ?_) (a' := ?_) #[true, false, true, false, true, false, true, false, false, false, false, false, false, false, false, false, false] rfl rfl (by kernel_rfl) (fun _ _ _ h => h) (Or.inl ⟨by rfl, ?_⟩) ?_ ?_
            rotate_left
            · intro w'
              go_simp
              with_reducible rfl
            rotate_left
            · simp only [Act.put, List.setIfInBounds_toArray, List.set_cons_zero, List.set_cons_succ, i64_w, i32_w]
              rfl
            refine pure_ (i := 8) (N := some 53) (v := ?_) (a' := ?_) #[true, false, true, false, true, false, true, false, true, false, false, false, false, false, false, false, false] rfl rfl (by kernel_rfl) (fun _ _ _ h => h) (Or.inl ⟨by rfl, ?_⟩) ?_ ?_
            rotate_left
            · intro w'
              go_simp
              with_reducible rfl
            rotate_left
            · simp only [Act.put, List.setIfInBounds_toArray, List.set_cons_zero, List.set_cons_succ, i64_w, i32_w]
              rfl
            refine pure_ (i := 10) (N := some 55) (v := ?_) (a' := ?_) #[true, false, true, false, true, false, true, false, true, false, true, false, false, false, false, false, false] rfl rfl (by kernel_rfl) (fun _ _ _ h => h) (Or.inl ⟨by rfl, ?_⟩) ?_ ?_
            rotate_left
            · intro w'
              go_simp
              with_reducible rfl
            rotate_left
            · simp only [Act.put, List.setIfInBounds_toArray, List.set_cons_zero, List.set_cons_succ, i64_w, i32_w]
              rfl
            refine take_ (i := 1) (N := some 46) (v := ?_) (a' := ?_) #[true, true, true, false, true, false, true, false, true, false, true, false, false, false, false, false, false] rfl rfl (by kernel_rfl) (fun _ _ _ h => h) (Or.inl ⟨by rfl, ?_⟩) hHeld ?_ ?_
            rotate_left
            · intro w' s0
              go_simp
              with_reducible rfl
            rotate_left
            · simp only [Act.put, List.setIfInBounds_toArray, List.set_cons_zero, List.set_cons_succ, i64_w, i32_w]
              rfl
            refine one_ (i := 3) (N := some 48) #[true, true, true, true, true, false, true, false, true, false, true, false, false, false, false, false, false] rfl rfl (by kernel_rfl) (by decide) (fun K hK => ?_)
            refine call_ 72 #[.pointer (some ⟨w.heap.size + 2, 0, none⟩)] (by rfl) rfl (by first | (go_simp; done) | (go_simp; exact eg _ _)) ?_
            refine (get_nth (i := j + 4 + 5 * i + 0) (by omega) HGd.out).mono ?_
            rintro e wc0 ⟨rfl, hgc, hkc⟩
            have HGc0 := Aside0.mk hgc
            have HRc0 := Aside0.mk (row_kept HRd.out hkc (fun k e => by omega))
            have HVc0 := Aside0.mk (row_kept HVd.out hkc (fun k e => by omega))
            clear hgc hkc
            refine ⟨_, rfl, ?_⟩
            refine hK.out _ _ (HGc0.out.mcells.1.2.2.2) (fun hHeld => ?_)
            clear hK K
            refine norm_ (a' := ?_) ?_ ?_
            rotate_left
            · show Act.put _ (some 48) _ = _
              simp only [Act.put, List.setIfInBounds_toArray, List.set_cons_zero, List.set_cons_succ, i64_w, i32_w]
              rfl
            refine one_ (i := 5) (N := some 50) #[true, true, true, true, true, true, true, false, true, false, true, false, false, false, false, false, false] rfl rfl (by kernel_rfl) (by decide) (fun K hK => ?_)
            refine call_ 72 #[.pointer (some ⟨w.heap.size + 2, 0, none⟩)] (by rfl) rfl (by first | (go_simp; done) | (go_simp; exact eg _ _)) ?_
            refine (get_nth (i := j + 4 + 5 * i + 1) (by omega) HGc0.out).mono ?_
            rintro e wc1 ⟨rfl, hgc, hkc⟩
            have HGc1 := Aside0.mk hgc
            have HRc1 := Aside0.mk (row_kept HRc0.out hkc (fun k e => by omega))
            have HVc1 := Aside0.mk (row_kept HVc0.out hkc (fun k e => by omega))
            clear hgc hkc
            refine ⟨_, rfl, ?_⟩
            refine hK.out _ _ (HGc1.out.mcells.1.2.2.2) (fun hHeld => ?_)
            clear hK K
            refine norm_ (a' := ?_) ?_ ?_
            rotate_left
            · show Act.put _ (some 50) _ = _
              simp only [Act.put, List.setIfInBounds_toArray, List.set_cons_zero, List.set_cons_succ, i64_w, i32_w]
              rfl
            refine one_ (i := 7) (N := some 52) #[true, true, true, true, true, true, true, true, true, false, true, false, false, false, false, false, false] rfl rfl (by kernel_rfl) (by decide) (fun K hK => ?_)
            refine call_ 72 #[.pointer (some ⟨w.heap.size + 2, 0, none⟩)] (by rfl) rfl (by first | (go_simp; done) | (go_simp; exact eg _ _)) ?_
            refine (get_nth (i := j + 4 + 5 * i + 2) (by omega) HGc1.out).mono ?_
            rintro e wc2 ⟨rfl, hgc, hkc⟩
            have HGc2 := Aside0.mk hgc
            have HRc2 := Aside0.mk (row_kept HRc1.out hkc (fun k e => by omega))
            have HVc2 := Aside0.mk (row_kept HVc1.out hkc (fun k e => by omega))
            clear hgc hkc
            refine ⟨_, rfl, ?_⟩
            refine hK.out _ _ (HGc2.out.mcells.1.2.2.2) (fun hHeld => ?_)
            clear hK K
            refine norm_ (a' := ?_) ?_ ?_
            rotate_left
            · show Act.put _ (some 52) _ = _
              simp only [Act.put, List.setIfInBounds_toArray, List.set_cons_zero, List.set_cons_succ, i64_w, i32_w]
              rfl
            refine one_ (i := 9) (N := some 54) #[true, true, true, true, true, true, true, true, true, true, true, false, false, false, false, false, false] rfl rfl (by kernel_rfl) (by decide) (fun K hK => ?_)
            refine call_ 72 #[.pointer (some ⟨w.heap.size + 2, 0, none⟩)] (by rfl) rfl (by first | (go_simp; done) | (go_simp; exact eg _ _)) ?_
            refine (get_nth (i := j + 4 + 5 * i + 3) (by omega) HGc2.out).mono ?_
            rintro e wc3 ⟨rfl, hgc, hkc⟩
            have HGc3 := Aside0.mk hgc
            have HRc3 := Aside0.mk (row_kept HRc2.out hkc (fun k e => by omega))
            have HVc3 := Aside0.mk (row_kept HVc2.out hkc (fun k e => by omega))
            clear hgc hkc
            refine ⟨_, rfl, ?_⟩
            refine hK.out _ _ (HGc3.out.mcells.1.2.2.2) (fun hHeld => ?_)
            clear hK K
            refine norm_ (a' := ?_) ?_ ?_
            rotate_left
            · show Act.put _ (some 54) _ = _
              simp only [Act.put, List.setIfInBounds_toArray, List.set_cons_zero, List.set_cons_succ, i64_w, i32_w]
              rfl
            refine one_ (i := 11) (N := some 56) #[true, true, true, true, true, true, true, true, true, true, true, true, false, false, false, false, false] rfl rfl (by kernel_rfl) (by decide) (fun K hK => ?_)
            refine call_ 72 #[.pointer (some ⟨w.heap.size + 2, 0, none⟩)] (by rfl) rfl (by first | (go_simp; done) | (go_simp; exact eg _ _)) ?_
            refine (get_nth (i := j + 4 + 5 * i + 4) (by omega) HGc3.out).mono ?_
            rintro e wc4 ⟨rfl, hgc, hkc⟩
            have HGc4 := Aside0.mk hgc
            have HRc4 := Aside0.mk (row_kept HRc3.out hkc (fun k e => by omega))
            have HVc4 := Aside0.mk (row_kept HVc3.out hkc (fun k e => by omega))
            clear hgc hkc
            refine ⟨_, rfl, ?_⟩
            refine hK.out _ _ (HGc4.out.mcells.1.2.2.2) (fun hHeld => ?_)
            clear hK K
            refine norm_ (a' := ?_) ?_ ?_
            rotate_left
            · show Act.put _ (some 56) _ = _
              simp only [Act.put, List.setIfInBounds_toArray, List.set_cons_zero, List.set_cons_succ, i64_w, i32_w]
              rfl
            refine pure_ (i := 12) (N := some 57) (v := ?_) (a' := ?_) #[true, true, true, true, true, true, true, true, true, true, true, true, true, false, false, false, false] rfl rfl (by kernel_rfl) (fun _ _ _ h => h) (Or.inl ⟨by rfl, ?_⟩) ?_ ?_
            rotate_left
            · intro w'
              go_simp
              with_reducible rfl
            rotate_left
            · simp only [Act.put, List.setIfInBounds_toArray, List.set_cons_zero, List.set_cons_succ, i64_w, i32_w]
              rfl
            refine one_ (i := 13) (N := some 58) #[true, true, true, true, true, true, true, true, true, true, true, true, true, true, false, false, false] rfl rfl (by kernel_rfl) (by decide) (fun K hK => ?_)
            refine value_ (w1 := ?_) (v := ?_) (by rfl) rfl ?_ ?_
            rotate_left 2
            · go_simp
              constructor
              · rfl
              · rfl
            refine hK.out _ _ ((HGc4.out.alloc _).mcells.1.2.2.2) (fun hHeld => ?_)
            clear hK K
            refine norm_ (a' := ?_) ?_ ?_
            rotate_left
            · show Act.put _ (some 58) _ = _
              simp only [Act.put, List.setIfInBounds_toArray, List.set_cons_zero, List.set_cons_succ, i64_w, i32_w]
              rfl
            refine one_ (i := 14) (N := some 59) #[true, true, true, true, true, true, true, true, true, true, true, true, true, true, true, false, false] rfl rfl (by kernel_rfl) (by decide) (fun K hK => ?_)
            refine Kd.R_append_step k59 (w0 := wc4) (w.heap.size + 4) (by rfl) (.tmp 46) (.tmp 58) 31 59 (.agg #[(.int .i64 0), (.int .i64 0), (.int .i64 0), (.int .i64 0), (.int .i64 0)]) 40 rfl Try.underlying31 info59 rfl (by decide) (by omega) v3 ((getWords a0).take i) (wordAt a0 (j + 4 + 5 * i)) [.int .i64 (numAt a0 (j + 4 + 5 * i)), .int .i64 (numAt a0 (j + 4 + 5 * i + 1)), .int .i64 (numAt a0 (j + 4 + 5 * i + 2)), .int .i64 (numAt a0 (j + 4 + 5 * i + 3)), .int .i64 (numAt a0 (j + 4 + 5 * i + 4))] (fun _ => True) (fun _ => False) rfl rfl ?bP (fun _ hk => hk.elim) (fun _ _ => trivial) HVc4.out (Below.refl _ _) HGc4.out.2.2.2.2.1 ?bL ?_
            (case bP => exact k59_mkM _ _ _ (wordAt a0 (j + 4 + 5 * i)))
            (case bL => have := HLW.out; rw [List.length_take]; omega)
            intro v6 w6 ho hb hgr hat
            have hgt := getWords_take a0 i (by have := HKn.out; have := HD.out; rw [HKn.out]; omega)
            rw [HKn.out] at hgt
            rw [← hgt] at ho
            obtain ⟨y, hy⟩ : ∃ y_ : List S59, y_ = (getWords a0).take (i + 1) := ⟨_, rfl⟩
            rw [← hy] at ho
            have Ny := Aside0.mk hy
            clear hy hgt
            have HG6 := Aside0.mk (HGc4.out.grown hgr (fun k e => by obtain ⟨inner, hi⟩ := Kd.R_own HVc4.out; exact own_base hi k e))
            have HR6 := Aside0.mk (Kd.R_over' HRc4.out (Kd.R_typed HVc4.out) (by decide) hgr)
            have HV6 := Aside0.mk ho
            obtain ⟨A6, c6, rfl⟩ := Kd.R_slice ho
            clear ho hb hgr hat
            refine hK.out _ _ (HG6.out.mcells.1.2.2.2) (fun hHeld => ?_)
            clear hK K
            refine norm_ (a' := ?_) ?_ ?_
            rotate_left
            · show Act.put _ (some 59) _ = _
              simp only [Act.put, List.setIfInBounds_toArray, List.set_cons_zero, List.set_cons_succ, i64_w, i32_w]
              rfl
            refine pure_ (i := 15) (N := some 60) (v := ?_) (a' := ?_) #[true, true, true, true, true, true, true, true, true, true, true, true, true, true, true, true, false] rfl rfl (by kernel_rfl) (fun _ _ _ h => h) (Or.inl ⟨by rfl, ?_⟩) ?_ ?_
            rotate_left
            · intro w'
              go_simp
              with_reducible rfl
            rotate_left
            · simp only [Act.put, List.setIfInBounds_toArray, List.set_cons_zero, List.set_cons_succ, i64_w, i32_w]
              rfl
            refine last_ (i := 16) (N := none) #[true, true, true, true, true, true, true, true, true, true, true, true, true, true, true, true, true] rfl rfl (by kernel_rfl) (by decide) (fun K hK => ?_)
            have hx6 := HG6.out.mcells.1.2.2.2
            have hf6 := HG6.out.mcells.2.2.2.2
            refine skip_ (w1 := ?_) (by rfl) rfl ?_ ?_
            rotate_left
            · go_simp
              rfl
            refine hK.out _ _ ?_
            clear hK K
            refine done_ (by kernel_rfl) ?_
            go_wp2
            go_roundg (D - (i + 1))
            case measure => omega
            case rel => exact ⟨i + 1, _, by omega, by omega, by go_num, ⟨HG6.out.set 3 _⟩, ⟨row_kept HR6.out (GI.kept1 (N := 0) _) (fun k e => by omega)⟩, ⟨by rw [← Ny.out]; exact row_kept HV6.out (GI.kept1 (N := 0) _) (fun k e => by omega)⟩⟩
          · have hltc : decide ((i : Int) < (D : Int)) = false := decide_eq_false (by omega)
            obtain rfl : i = D := by omega
            have HVW := Aside0.mk (show Kd.R k59 59 wr (w.heap.size + 4) (fun _ => True) v3 (getWords a0) from by have := HV.out; rw [List.take_of_length_le (by rw [HLW.out]; omega)] at this; exact this)
            clear HV
            obtain ⟨⟨hq0, hq1, hq2, hq3⟩, hf0, hf1, hf2, hf3⟩ := HG.out.mcells
            obtain ⟨⟨hr0, hr1, hr2, hr3⟩, hr4, hr5, hr6, hr7⟩ := HG.out.rcells
            obtain ⟨A0, c0, rfl, hl0, hC0⟩ := Kd.R_reads HR.out
            obtain ⟨A3, c3, rfl, hl3, hC3⟩ := Kd.R_reads HVW.out
            have HC0 := Aside0.mk hC0
            have HC3 := Aside0.mk hC3
            have HL0 := Aside0.mk hl0
            have HL3 := Aside0.mk hl3
            clear hC0 hC3 hl0 hl3
            have HF := H.out
            unfold impl_getImage.f at HF
            rw [if_pos hs, HK.out, if_pos hb1, Int.toNat_natCast, HD.out, if_pos hb2] at HF
            cases hok : imageOk (getSizes a0) (numAt a0 (j + 1)) (numAt a0 (j + 2)) (getWords a0) with
            | false =>
              rw [hok, if_neg (by simp)] at HF
              have HI := Aside0.mk (show impl_isImage.f (getSizes a0) (numAt a0 (j + 1)) (numAt a0 (j + 2)) (getWords a0) = some false from by unfold impl_isImage.f; rw [hok])
              cases HF
              clear hok
              go_wp2_with (first | (go_at_call 52; (with_reducible refine (impl_isImage.calls A0 c0 (getSizes a0) (numAt a0 (j + 1)) (numAt a0 (j + 2)) A3 c3 (getWords a0) false wr HC0.out HL0.out HC3.out HL3.out HI.out).mono ?_); rintro e w1 ⟨rfl, hbi⟩; have HB1 := Aside0.mk hbi; have HG1 := Aside0.mk (HG.out.below hbi); have HC01 := Aside0.mk (Kd.C_below HC0.out hbi); have HC31 := Aside0.mk (Kd.C_below HC3.out hbi); obtain ⟨⟨hq10, hq11, hq12, hq13⟩, hf10, hf11, hf12, hf13⟩ := HG1.out.mcells; obtain ⟨⟨hr10, hr11, hr12, hr13⟩, hr14, hr15, hr16, hr17⟩ := HG1.out.rcells; clear hbi))
              have HE := GI.set4 (a' := .slice none 0 0) (b' := .int .i64 0) (c' := .int .i64 0) (d' := .slice none 0 0) HG1.out
              refine bodyPost_ret (results_ct rfl _ _ w.heap.size 33 #[.slice none 0 0, .int .i64 0, .int .i64 0, .slice none 0 0] (0, 0) _ rfl ?_ Try.underlying33 rfl (by kernel_rfl)) rfl ?_
              · exact HE.2.1
              · exact ⟨_, _, rfl, Kd.R_nil _ _ _ _ _, Kd.R_nil _ _ _ _ _, HE.1⟩
            | true =>
              rw [hok, if_pos rfl] at HF
              have HI := Aside0.mk (show impl_isImage.f (getSizes a0) (numAt a0 (j + 1)) (numAt a0 (j + 2)) (getWords a0) = some true from by unfold impl_isImage.f; rw [hok])
              clear hok
              obtain ⟨t, ht, HF⟩ := Option.bind_eq_some_iff.mp HF
              have HT := Aside0.mk ht
              clear ht
              by_cases ht : t.toList = a0.toList
              · rw [if_pos ht] at HF
                have htb0 : (t.toList == a0.toList) = true := beq_iff_eq.mpr ht
                have htb1 : (t.toList != a0.toList) = false := bne_eq_false_iff_eq.mpr ht
                clear ht
                cases HF
                go_wp2_with (first | (go_at_call 52; (with_reducible refine (impl_isImage.calls A0 c0 (getSizes a0) (numAt a0 (j + 1)) (numAt a0 (j + 2)) A3 c3 (getWords a0) true wr HC0.out HL0.out HC3.out HL3.out HI.out).mono ?_); rintro e w1 ⟨rfl, hbi⟩; have HB1 := Aside0.mk hbi; have HG1 := Aside0.mk (HG.out.below hbi); have HC01 := Aside0.mk (Kd.C_below HC0.out hbi); have HC31 := Aside0.mk (Kd.C_below HC3.out hbi); obtain ⟨⟨hq10, hq11, hq12, hq13⟩, hf10, hf11, hf12, hf13⟩ := HG1.out.mcells; obtain ⟨⟨hr10, hr11, hr12, hr13⟩, hr14, hr15, hr16, hr17⟩ := HG1.out.rcells; clear hbi) | (go_at_call 54; (with_reducible refine (impl_putImage.calls k A0 c0 (getSizes a0) (numAt a0 (j + 1)) (numAt a0 (j + 2)) A3 c3 (getWords a0) t w1 HC01.out HL0.out HC31.out HL3.out HT.out).mono ?_); rintro e w2 ⟨rfl, hbp⟩; have HB2 := Aside0.mk hbp; have HG2 := Aside0.mk (HG1.out.below hbp); obtain ⟨⟨hq20, hq21, hq22, hq23⟩, hf20, hf21, hf22, hf23⟩ := HG2.out.mcells; obtain ⟨⟨hr20, hr21, hr22, hr23⟩, hr24, hr25, hr26, hr27⟩ := HG2.out.rcells; clear hbp))
                have HE := GI.set4 (a' := .slice A0 (getSizes a0).length c0) (b' := .int .i64 (numAt a0 (j + 1))) (c' := .int .i64 (numAt a0 (j + 2))) (d' := .slice A3 (getWords a0).length c3) HG2.out
                refine bodyPost_ret (results_ct rfl _ _ w.heap.size 33 #[.slice A0 (getSizes a0).length c0, .int .i64 (numAt a0 (j + 1)), .int .i64 (numAt a0 (j + 2)), .slice A3 (getWords a0).length c3] (0, 0) _ rfl ?_ Try.underlying33 rfl (by kernel_rfl)) rfl ?_
                · exact HE.2.1
                · refine ⟨_, _, rfl, ?_, ?_, HE.1⟩
                  · exact Kd.R_lower (row_kept (row_kept (row_kept (row_kept (row_below (row_below HR.out HB1.out) HB2.out) (GI.kept1 (N := 0) _) (fun k e => by omega)) (GI.kept1 (N := 0) _) (fun k e => by omega)) (GI.kept1 (N := 0) _) (fun k e => by omega)) (GI.kept1 (N := 0) _) (fun k e => by omega)) (Nat.le_add_right _ 4)
                  · exact Kd.R_lower (row_kept (row_kept (row_kept (row_kept (row_below (row_below HVW.out HB1.out) HB2.out) (GI.kept1 (N := 0) _) (fun k e => by omega)) (GI.kept1 (N := 0) _) (fun k e => by omega)) (GI.kept1 (N := 0) _) (fun k e => by omega)) (GI.kept1 (N := 0) _) (fun k e => by omega)) (Nat.le_add_right _ 4)
              · rw [if_neg ht] at HF
                have htb0 : (t.toList == a0.toList) = false := beq_eq_false_iff_ne.mpr ht
                have htb1 : (t.toList != a0.toList) = true := bne_iff_ne.mpr ht
                clear ht
                cases HF
                go_wp2_with (first | (go_at_call 52; (with_reducible refine (impl_isImage.calls A0 c0 (getSizes a0) (numAt a0 (j + 1)) (numAt a0 (j + 2)) A3 c3 (getWords a0) true wr HC0.out HL0.out HC3.out HL3.out HI.out).mono ?_); rintro e w1 ⟨rfl, hbi⟩; have HB1 := Aside0.mk hbi; have HG1 := Aside0.mk (HG.out.below hbi); have HC01 := Aside0.mk (Kd.C_below HC0.out hbi); have HC31 := Aside0.mk (Kd.C_below HC3.out hbi); obtain ⟨⟨hq10, hq11, hq12, hq13⟩, hf10, hf11, hf12, hf13⟩ := HG1.out.mcells; obtain ⟨⟨hr10, hr11, hr12, hr13⟩, hr14, hr15, hr16, hr17⟩ := HG1.out.rcells; clear hbi) | (go_at_call 54; (with_reducible refine (impl_putImage.calls k A0 c0 (getSizes a0) (numAt a0 (j + 1)) (numAt a0 (j + 2)) A3 c3 (getWords a0) t w1 HC01.out HL0.out HC31.out HL3.out HT.out).mono ?_); rintro e w2 ⟨rfl, hbp⟩; have HB2 := Aside0.mk hbp; have HG2 := Aside0.mk (HG1.out.below hbp); obtain ⟨⟨hq20, hq21, hq22, hq23⟩, hf20, hf21, hf22, hf23⟩ := HG2.out.mcells; obtain ⟨⟨hr20, hr21, hr22, hr23⟩, hr24, hr25, hr26, hr27⟩ := HG2.out.rcells; clear hbp))
                have HE := GI.set4 (a' := .slice none 0 0) (b' := .int .i64 0) (c' := .int .i64 0) (d' := .slice none 0 0) HG2.out
                refine bodyPost_ret (results_ct rfl _ _ w.heap.size 33 #[.slice none 0 0, .int .i64 0, .int .i64 0, .slice none 0 0] (0, 0) _ rfl ?_ Try.underlying33 rfl (by kernel_rfl)) rfl ?_
                · exact HE.2.1
                · exact ⟨_, _, rfl, Kd.R_nil _ _ _ _ _, Kd.R_nil _ _ _ _ _, HE.1⟩
theorem impl_getImage.calls (k : Nat) (a0 : ByteArray) (r1 : List Int) (r2 : Int) (r3 : Int) (r4 : List (S59)) (r5 : Bool) (w : World) (h : impl_getImage.f k a0 = some (r1, r2, r3, r4, r5)) :
    Calls Try.prog 58 #[.string a0] w fun e w' => ∃ v0_ v3_ : Value, e = .returned (.tuple #[.agg #[v0_, .int .i64 r2, .int .i64 r3, v3_], .bool r5]) ∧ Kd.R (Kd.int .i64) 3 w' w.heap.size (fun _ => True) v0_ r1 ∧ Kd.R k59 59 w' w.heap.size (fun _ => True) v3_ r4 ∧ Below w.heap.size w w' := by
  by_cases hs : a0.size ≤ 140737488351232
  · cases hb1 : inB (numAt a0 0) 1 4 with
    | false =>
      unfold impl_getImage.f at h
      rw [if_pos hs, hb1, if_neg (by simp)] at h
      cases h
      refine (getImage_no1 a0 hs hb1 w).mono ?_
      rintro e w' ⟨rfl, hb⟩
      exact ⟨_, _, rfl, Kd.R_nil _ _ _ _ _, Kd.R_nil _ _ _ _ _, hb⟩
    | true =>
      have h4 : 1 ≤ numAt a0 0 ∧ numAt a0 0 ≤ 4 := by simpa [inB] using hb1
      obtain ⟨K, hK⟩ : ∃ K : Nat, numAt a0 0 = (K : Int) := ⟨(numAt a0 0).toNat, by omega⟩
      exact getImage_yes k a0 hs K hK (hK ▸ hb1) (by omega) (by omega) r1 r2 r3 r4 r5 w h
  · unfold impl_getImage.f at h
    rw [if_neg hs] at h
    cases h

end Go.Proofs.Ytnbaojaocagjcaa.P
end
section
-- Written for this claim by gp.py over the kit's print; not trusted: Lean checks it.


namespace Go.Proofs.Ytnbaojaocagjcaa.P
open Go.RowKit Go.Proofs.YtnbaojaocagjcaaW.PrintWords Go.Proofs.YtnbaojaocagjcaaW.PrintLast Go.Proofs.YtnbaojaocagjcaaW.PrintMore
attribute [local go_sem] max2_int min2_int max_two min_two max_three min_three max_four min_four
set_option linter.unusedVariables false
set_option linter.unusedSimpArgs false

/-! ### impl_GetImage: function 36 -/
def impl_GetImage.f (k : Nat) (a0 : ByteArray) : Option (List Int × Int × Int × (List (S59)) × Bool) := (impl_getImage.f k a0).bind fun bt102 => (some (bt102.1, bt102.2.1, bt102.2.2.1, bt102.2.2.2.1, bt102.2.2.2.2))
theorem impl_GetImage.mono : ∀ a0 k, LeO (impl_GetImage.f k a0) (impl_GetImage.f (k + 1) a0) := by
  intro a0 k
  unfold impl_GetImage.f
  repeat' first
      | (with_reducible exact impl_getImage.mono _ _)
      | (with_reducible exact LeO.refl _)
      | (with_reducible exact LeO.none _)
      | (with_reducible refine LeO.ite ?_ ?_)
      | (with_reducible refine LeO.bind ?_ (fun _ => ?_))
      | exact impl_getImage.mono _ _
      | exact LeO.none _
      | refine LeO.ite ?_ ?_
      | refine LeO.bind ?_ (fun _ => ?_)
set_option maxHeartbeats 8000000 in
set_option maxRecDepth 100000 in
theorem impl_GetImage.calls (k : Nat) (a0 : ByteArray) (r1 : List Int) (r2 : Int) (r3 : Int) (r4 : List (S59)) (r5 : Bool) (w : World) (h : impl_GetImage.f k a0 = some (r1, r2, r3, r4, r5)) :
    Calls Try.prog 36 #[.string a0] w fun e w' => ∃ v0_ v3_ : Value, e = .returned (.tuple #[.agg #[v0_, .int .i64 r2, .int .i64 r3, v3_], .bool r5]) ∧ Kd.R (Kd.int .i64) 3 w' w.heap.size (fun _ => True) v0_ r1 ∧ Kd.R k59 59 w' w.heap.size (fun _ => True) v3_ r4 ∧ Below w.heap.size w w' := by
  have hu33 := Try.underlying33
  have HB := Aside0.mk (Below.refl w.heap.size w)
  have H : ((impl_getImage.f k a0).bind fun bt102 => (some (bt102.1, bt102.2.1, bt102.2.2.1, bt102.2.2.2.1, bt102.2.2.2.2))) = some (r1, r2, r3, r4, r5) := h
  clear h
  replace H := Option.bind_eq_some_iff.mp H
  obtain ⟨⟨t102, t105, t106, t107, t110⟩, A20, H⟩ := H
  replace H : (some (t102, t105, t106, t107, t110)) = some (r1, r2, r3, r4, r5) := H
  have A2 := Aside0.mk A20
  clear A20
  simp only [Option.some.injEq, Prod.mk.injEq] at H
  obtain ⟨rfl, rfl, rfl, rfl, rfl⟩ := H
  go_enter Try.func36, Try.ntmps36
  go_wp2_with (first | ((with_reducible refine gate_dst (N := 2) rfl ?_); refine box_event ?hg (N := 2) ?hd (cs := #[.slice none 0 0, .int .i64 0, .int .i64 0, .slice none 0 0]) (t := 33) ?hr ?_; (case hd => rfl); (case hg => rfl); (case hr => first | (go_simp; done) | (go_simp; rfl)); intro gb101 hg w3 hbox hb; have n0_ := Aside0.mk (below_step (by repeat (first | (with_reducible first | exact HB.out | apply below_alloc | apply pw_below_drewN | apply below_drew1) | exact HB.out)) hb); have n1_ := Aside0.mk (hbox); have n2_ := Aside0.mk ((by rw [hg]; exact (below_size (by repeat (first | (with_reducible first | exact HB.out | apply below_alloc | apply pw_below_drewN | apply below_drew1) | exact HB.out))) : w.heap.size ≤ gb101)); have n3_ := Aside0.mk ((by rw [hg]; exact (below_size (by repeat (first | (with_reducible first | exact HB.out | apply below_alloc | apply pw_below_drewN | apply below_drew1) | exact HB.out))) : w.heap.size ≤ gb101)); clear HB; have HB := n0_; have BK101 := n1_; have GW101 := n2_; have GE101 := n3_; clear n0_ n1_ n2_ n3_; clear hb hbox hg) | ((with_reducible refine gate_callee (f := 58) rfl ?_); refine goesL_ (some 5) rfl rfl Try.func58 (by kernel_rfl) rfl #[.string a0] rfl (by (try simp only [List.map_toArray, List.map_cons, List.map_nil]); first | done | rfl | (simp only [List.length_drop, List.length_take]; rfl)) ?_; (with_reducible refine (impl_getImage.calls k a0 t102 t105 t106 t107 t110 _ A2.out).mono ?_); rintro e w4 ⟨v103, v108, rfl, ho0, ho1, hb⟩; refine ⟨_, rfl, ?_⟩; have n0_ := Aside0.mk (Kd.R_lower ho0 (below_size (by repeat (first | (with_reducible first | exact HB.out | apply below_alloc | apply pw_below_drewN | apply below_drew1 | refine below_set ?_ GE101.out) | exact HB.out)))); have n1_ := Aside0.mk (Kd.R_lower ho1 (below_size (by repeat (first | (with_reducible first | exact HB.out | apply below_alloc | apply pw_below_drewN | apply below_drew1 | refine below_set ?_ GE101.out) | exact HB.out)))); have n2_ := Aside0.mk (blk_below (g := gb101) (o := .cells #[.slice none 0 0, .int .i64 0, .int .i64 0, .slice none 0 0] 33 (0, 0)) (by (with_reducible repeat (first | refine blk_drewN ?_ _ | refine blk_drew ?_ | refine blk_alloc ?_ _)); exact BK101.out) hb); have n3_ := Aside0.mk (below_step (by repeat (first | (with_reducible first | exact HB.out | apply below_alloc | apply pw_below_drewN | apply below_drew1 | refine below_set ?_ GE101.out) | exact HB.out)) hb); clear BK101; clear HB; have HO104 := n0_; have HO109 := n1_; have BK101 := n2_; have HB := n3_; clear n0_ n1_ n2_ n3_; (try clear hb); (try clear hb2); (try clear hk); (try clear hi); (try clear ho0); (try clear ho1); obtain ⟨Ao5, co5, eo5⟩ := Kd.R_slice HO104.out; subst eo5; have hcz6_0 : w4.cell? ⟨gb101, 0, none⟩ = some (.slice none 0 0) := (blk_cell BK101.out 0).trans rfl; have hcz6_1 : w4.cell? ⟨gb101, 1, none⟩ = some (.int .i64 0) := (blk_cell BK101.out 1).trans rfl; have hcz6_2 : w4.cell? ⟨gb101, 2, none⟩ = some (.int .i64 0) := (blk_cell BK101.out 2).trans rfl; have hcz6_3 : w4.cell? ⟨gb101, 3, none⟩ = some (.slice none 0 0) := (blk_cell BK101.out 3).trans rfl; have hfz6_0 := blk_frozen BK101.out 0; have hfz6_1 := blk_frozen BK101.out 1; have hfz6_2 := blk_frozen BK101.out 2; have hfz6_3 := blk_frozen BK101.out 3; obtain ⟨Ao7, co7, eo7⟩ := Kd.R_slice HO109.out; subst eo7))
  refine bodyPost_ret (results_ct rfl _ _ gb101 33 #[.slice Ao5 t102.length co5, .int .i64 t105, .int .i64 t106, .slice Ao7 t107.length co7] (0, 0) _ rfl (by (with_reducible repeat (first | refine blk_drewN ?_ _ | refine blk_drew ?_ | refine blk_alloc ?_ _)); refine blk_put (cs := #[.slice Ao5 t102.length co5, .int .i64 t105, .int .i64 t106, .slice none 0 0]) ?_ 3 _ rfl; (with_reducible repeat (first | refine blk_drewN ?_ _ | refine blk_drew ?_ | refine blk_alloc ?_ _)); refine blk_put (cs := #[.slice Ao5 t102.length co5, .int .i64 t105, .int .i64 0, .slice none 0 0]) ?_ 2 _ rfl; (with_reducible repeat (first | refine blk_drewN ?_ _ | refine blk_drew ?_ | refine blk_alloc ?_ _)); refine blk_put (cs := #[.slice Ao5 t102.length co5, .int .i64 0, .int .i64 0, .slice none 0 0]) ?_ 1 _ rfl; (with_reducible repeat (first | refine blk_drewN ?_ _ | refine blk_drew ?_ | refine blk_alloc ?_ _)); refine blk_put (cs := #[.slice none 0 0, .int .i64 0, .int .i64 0, .slice none 0 0]) ?_ 0 _ rfl; (with_reducible repeat (first | refine blk_drewN ?_ _ | refine blk_drew ?_ | refine blk_alloc ?_ _)); exact BK101.out) Try.underlying33 rfl (by kernel_rfl)) rfl ?_
  exact ⟨_, _, by first | rfl | (simp [errW_none, errW_some] <;> rfl) | (simp [*, errW_none, errW_some] <;> rfl), by (with_reducible repeat (first | apply Kd.R_alloc | apply Kd.R_drewN | apply Kd.R_drew)); exact Kd.R_mono (Kd.R_far (p := ⟨gb101, 3, none⟩) (Kd.R_far (p := ⟨gb101, 2, none⟩) (Kd.R_far (p := ⟨gb101, 1, none⟩) (Kd.R_far (p := ⟨gb101, 0, none⟩) (Kd.R_types HO104.out BK101.out (by decide)) (fun _ hk => hk.2) (.slice Ao5 t102.length co5)) (fun _ hk => hk.2) (.int .i64 t105)) (fun _ hk => hk.2) (.int .i64 t106)) (fun _ hk => hk.2) (.slice Ao7 t107.length co7)) (fun _ hk => trivial), by (with_reducible repeat (first | apply Kd.R_alloc | apply Kd.R_drewN | apply Kd.R_drew)); exact Kd.R_mono (Kd.R_far (p := ⟨gb101, 3, none⟩) (Kd.R_far (p := ⟨gb101, 2, none⟩) (Kd.R_far (p := ⟨gb101, 1, none⟩) (Kd.R_far (p := ⟨gb101, 0, none⟩) (Kd.R_types HO109.out BK101.out (by decide)) (fun _ hk => hk.2) (.slice Ao5 t102.length co5)) (fun _ hk => hk.2) (.int .i64 t105)) (fun _ hk => hk.2) (.int .i64 t106)) (fun _ hk => hk.2) (.slice Ao7 t107.length co7)) (fun _ hk => trivial), by repeat (first | (with_reducible first | exact HB.out | apply below_alloc | apply pw_below_drewN | apply below_drew1 | refine below_set ?_ GE101.out) | exact HB.out)⟩

end Go.Proofs.Ytnbaojaocagjcaa.P
end
section
-- Written for this claim by gp.py over the kit's print; not trusted: Lean checks it.

namespace Go.Proofs.Ytnbaojaocagjcaa.P
open Go.RowKit Go.Proofs.YtnbaojaocagjcaaW.PrintWords Go.Proofs.YtnbaojaocagjcaaW.PrintLast Go.Proofs.YtnbaojaocagjcaaW.PrintMore
attribute [local go_sem] max2_int min2_int max_two min_two max_three min_three max_four min_four
set_option linter.unusedVariables false
set_option linter.unusedSimpArgs false

/-! ### laws_heldIntS: function 34 -/
def laws_heldIntS.l0 : Nat → List Int → Int → Int → Option (Int)
  | 0, _, _, _ => none
  | k + 1, x0, x1, x5 => if x5 < (x0.length : Int) then (if 0 ≤ x5 then (if (rd x0 x5) = x1 then (laws_heldIntS.l0 k x0 (wrap64 (x1 + 1)) (wrap64 (x5 + 1))) else (some (-1))) else (none)) else (some x1)
def laws_heldIntS.f (k : Nat) (l0 : List Int) (a1 : Int) : Option (Int) := laws_heldIntS.l0 k l0 a1 0
theorem laws_heldIntS.mono_l : ∀ k, (∀ y0 y1 y2, LeO (laws_heldIntS.l0 k y0 y1 y2) (laws_heldIntS.l0 (k + 1) y0 y1 y2))
  | 0 => fun _ _ _ r h => by simp [laws_heldIntS.l0] at h
  | k + 1 => by
    have ih0 := laws_heldIntS.mono_l k
    · intro y0 y1 y2
      unfold laws_heldIntS.l0
      repeat' first
      | (with_reducible exact ih0 _ _ _)
      | (with_reducible exact LeO.refl _)
      | (with_reducible exact LeO.none _)
      | (with_reducible refine LeO.ite ?_ ?_)
      | (with_reducible refine LeO.bind ?_ (fun _ => ?_))
      | exact ih0 _ _ _
      | exact LeO.none _
      | refine LeO.ite ?_ ?_
      | refine LeO.bind ?_ (fun _ => ?_)
theorem laws_heldIntS.mono : ∀ a0 a1 k, LeO (laws_heldIntS.f k a0 a1) (laws_heldIntS.f (k + 1) a0 a1) := by
  intro a0 a1 k
  have ih0 := laws_heldIntS.mono_l k
  unfold laws_heldIntS.f
  repeat' first
      | (with_reducible exact ih0 _ _ _)
      | (with_reducible exact LeO.refl _)
      | (with_reducible exact LeO.none _)
      | (with_reducible refine LeO.ite ?_ ?_)
      | (with_reducible refine LeO.bind ?_ (fun _ => ?_))
      | exact ih0 _ _ _
      | exact LeO.none _
      | refine LeO.ite ?_ ?_
      | refine LeO.bind ?_ (fun _ => ?_)
set_option maxHeartbeats 8000000 in
set_option maxRecDepth 100000 in
theorem laws_heldIntS.calls (k : Nat) (A0 : Option Addr) (c0 : Nat) (l0 : List Int) (a1 : Int) (r : Int) (w : World) (hr0 : Kd.C (Kd.int .i64) w A0 l0.length l0) (hc0 : l0.length ≤ c0) (h : laws_heldIntS.f k l0 a1 = some r) :
    Calls Try.prog 34 #[.slice A0 l0.length c0, .int .i64 a1] w fun e w' => e = .returned (.int .i64 r) ∧ Drawn0 w w' := by
  have HR0 := Aside0.mk hr0
  have HC0 := Aside0.mk hc0
  clear hr0 hc0
  have H : (laws_heldIntS.l0 k l0 a1 0) = some r := h
  clear h
  have H' := Aside0.mk H
  clear H
  go_enter Try.func34, Try.ntmps34
  go_wp2
  go_loopg [1, 5] k (fun kq v1 v5 w' => ∃ (x1_1 : Int) (x5_1 : Int), v1 = .int .i64 x1_1 ∧ v5 = .int .i64 x5_1 ∧ Aside0 (laws_heldIntS.l0 kq l0 x1_1 x5_1 = some r) ∧ Aside0 (kq ≤ k) ∧ Drawn0 w w')
  case atStart => exact ⟨(a1), (0), (by first | rfl | (simp; done) | (simp [*]; done)), (by first | rfl | (simp; done) | (simp [*]; done)), H', ⟨Nat.le_refl _⟩, by repeat (first | exact Drawn0.refl _ | apply Drawn0.step)⟩
  case round =>
    clear H'
    try clear p2
    (try clear HA)
    (try clear HK1)
    obtain ⟨x1_1, x5_1, rfl, rfl, HA, HK1, ⟨m1, rfl⟩⟩ := hrel
    cases gk with
    | zero => exact absurd HA.out (by simp [laws_heldIntS.l0])
    | succ k1 =>
      have H := HA.out
      clear HA
      simp only [laws_heldIntS.l0] at H
      by_cases c3 : x5_1 < (l0.length : Int)
      · rw [if_pos c3] at H
        have c3b0 : decide (x5_1 < (l0.length : Int)) = true := decide_eq_true c3
        clear c3
        by_cases c4 : 0 ≤ x5_1
        · rw [if_pos c4] at H
          have c4b0 : decide (0 ≤ x5_1) = true := decide_eq_true c4
          clear c4
          by_cases c5 : (rd l0 x5_1) = x1_1
          · rw [if_pos c5] at H
            have c5b0 : ((rd l0 x5_1) == x1_1) = true := beq_iff_eq.mpr c5
            have c5b1 : ((rd l0 x5_1) != x1_1) = false := bne_eq_false_iff_eq.mpr c5
            clear c5
            have H' := Aside0.mk H
            clear H
            have p101 : 0 ≤ (x5_1 : Int) := of_decide_eq_true (by first | (with_reducible assumption) | assumption)
            have q101 : x5_1 < (l0.length : Int) := of_decide_eq_true (by first | (with_reducible assumption) | assumption)
            obtain ⟨ad101, e101, hx101_0⟩ := Kd.at_int HR0.out x5_1 p101 q101
            cases e101
            replace p101 := eq_true p101
            replace q101 := eq_true q101
            go_wp2
            go_roundg k1
            case measure => have := HK1.out; omega
            case rel => exact ⟨(wrap64 (x1_1 + 1)), (wrap64 (x5_1 + 1)), (by first | rfl | (simp; done) | (simp [*]; done)), (by first | rfl | (simp; done) | (simp [*]; done)), H', ⟨by have := HK1.out; omega⟩, by repeat (first | exact Drawn0.refl _ | apply Drawn0.step)⟩
          · rw [if_neg c5] at H
            have c5b0 : ((rd l0 x5_1) == x1_1) = false := beq_eq_false_iff_ne.mpr c5
            have c5b1 : ((rd l0 x5_1) != x1_1) = true := bne_iff_ne.mpr c5
            obtain rfl := Option.some.inj H
            have p101 : 0 ≤ (x5_1 : Int) := of_decide_eq_true (by first | (with_reducible assumption) | assumption)
            have q101 : x5_1 < (l0.length : Int) := of_decide_eq_true (by first | (with_reducible assumption) | assumption)
            obtain ⟨ad101, e101, hx101_0⟩ := Kd.at_int HR0.out x5_1 p101 q101
            cases e101
            replace p101 := eq_true p101
            replace q101 := eq_true q101
            go_wp2
            go_ret
            exact ⟨by first | rfl | (simp; done) | (simp [*]; done), by repeat (first | exact Drawn0.refl _ | apply Drawn0.step)⟩
        · rw [if_neg c4] at H
          exact absurd H (by simp)
      · rw [if_neg c3] at H
        have c3b0 : decide (x5_1 < (l0.length : Int)) = false := decide_eq_false c3
        clear c3
        obtain rfl := Option.some.inj H
        go_wp2
        go_ret
        exact ⟨by first | rfl | (simp; done) | (simp [*]; done), by repeat (first | exact Drawn0.refl _ | apply Drawn0.step)⟩

end Go.Proofs.Ytnbaojaocagjcaa.P
end
section
-- Written for this claim by gp.py over the kit's print; not trusted: Lean checks it.

namespace Go.Proofs.Ytnbaojaocagjcaa.P
open Go.RowKit Go.Proofs.YtnbaojaocagjcaaW.PrintWords Go.Proofs.YtnbaojaocagjcaaW.PrintLast Go.Proofs.YtnbaojaocagjcaaW.PrintMore
attribute [local go_sem] max2_int min2_int max_two min_two max_three min_three max_four min_four
set_option linter.unusedVariables false
set_option linter.unusedSimpArgs false

/-! ### laws_heldWordS: function 59 -/
def laws_heldWordS.l0 : Nat → List (S59) → Int → Int → Option (Int)
  | 0, _, _, _ => none
  | k + 1, x0, x1, x5 => if x5 < (x0.length : Int) then (if 0 ≤ x5 then (if ((rd_T59 x0 x5).f0) = x1 then (if ((rd_T59 x0 x5).f1) = (wrap64 (x1 + 1)) then (if ((rd_T59 x0 x5).f2) = (wrap64 ((wrap64 (x1 + 1)) + 1)) then (if ((rd_T59 x0 x5).f3) = (wrap64 ((wrap64 ((wrap64 (x1 + 1)) + 1)) + 1)) then (if ((rd_T59 x0 x5).f4) = (wrap64 ((wrap64 ((wrap64 ((wrap64 (x1 + 1)) + 1)) + 1)) + 1)) then (laws_heldWordS.l0 k x0 (wrap64 ((wrap64 ((wrap64 ((wrap64 ((wrap64 (x1 + 1)) + 1)) + 1)) + 1)) + 1)) (wrap64 (x5 + 1))) else (some (-1))) else (some (-1))) else (some (-1))) else (some (-1))) else (some (-1))) else (none)) else (some x1)
def laws_heldWordS.f (k : Nat) (l0 : List (S59)) (a1 : Int) : Option (Int) := laws_heldWordS.l0 k l0 a1 0
theorem laws_heldWordS.mono_l : ∀ k, (∀ y0 y1 y2, LeO (laws_heldWordS.l0 k y0 y1 y2) (laws_heldWordS.l0 (k + 1) y0 y1 y2))
  | 0 => fun _ _ _ r h => by simp [laws_heldWordS.l0] at h
  | k + 1 => by
    have ih0 := laws_heldWordS.mono_l k
    · intro y0 y1 y2
      unfold laws_heldWordS.l0
      repeat' first
      | (with_reducible exact ih0 _ _ _)
      | (with_reducible exact LeO.refl _)
      | (with_reducible exact LeO.none _)
      | (with_reducible refine LeO.ite ?_ ?_)
      | (with_reducible refine LeO.bind ?_ (fun _ => ?_))
      | exact ih0 _ _ _
      | exact LeO.none _
      | refine LeO.ite ?_ ?_
      | refine LeO.bind ?_ (fun _ => ?_)
theorem laws_heldWordS.mono : ∀ a0 a1 k, LeO (laws_heldWordS.f k a0 a1) (laws_heldWordS.f (k + 1) a0 a1) := by
  intro a0 a1 k
  have ih0 := laws_heldWordS.mono_l k
  unfold laws_heldWordS.f
  repeat' first
      | (with_reducible exact ih0 _ _ _)
      | (with_reducible exact LeO.refl _)
      | (with_reducible exact LeO.none _)
      | (with_reducible refine LeO.ite ?_ ?_)
      | (with_reducible refine LeO.bind ?_ (fun _ => ?_))
      | exact ih0 _ _ _
      | exact LeO.none _
      | refine LeO.ite ?_ ?_
      | refine LeO.bind ?_ (fun _ => ?_)
set_option maxHeartbeats 8000000 in
set_option maxRecDepth 100000 in
theorem laws_heldWordS.calls (k : Nat) (A0 : Option Addr) (c0 : Nat) (l0 : List (S59)) (a1 : Int) (r : Int) (w : World) (hr0 : Kd.C k59 w A0 l0.length l0) (hc0 : l0.length ≤ c0) (h : laws_heldWordS.f k l0 a1 = some r) :
    Calls Try.prog 59 #[.slice A0 l0.length c0, .int .i64 a1] w fun e w' => e = .returned (.int .i64 r) ∧ Drawn0 w w' := by
  have HR0 := Aside0.mk hr0
  have HC0 := Aside0.mk hc0
  clear hr0 hc0
  have H : (laws_heldWordS.l0 k l0 a1 0) = some r := h
  clear h
  have H' := Aside0.mk H
  clear H
  go_enter Try.func59, Try.ntmps59
  go_wp2
  go_loopg [1, 5] k (fun kq v1 v5 w' => ∃ (x1_1 : Int) (x5_1 : Int), v1 = .int .i64 x1_1 ∧ v5 = .int .i64 x5_1 ∧ Aside0 (laws_heldWordS.l0 kq l0 x1_1 x5_1 = some r) ∧ Aside0 (kq ≤ k) ∧ Drawn0 w w')
  case atStart => exact ⟨(a1), (0), (by first | rfl | (simp; done) | (simp [*]; done)), (by first | rfl | (simp; done) | (simp [*]; done)), H', ⟨Nat.le_refl _⟩, by repeat (first | exact Drawn0.refl _ | apply Drawn0.step)⟩
  case round =>
    clear H'
    try clear p2
    (try clear HA)
    (try clear HK1)
    obtain ⟨x1_1, x5_1, rfl, rfl, HA, HK1, ⟨m1, rfl⟩⟩ := hrel
    cases gk with
    | zero => exact absurd HA.out (by simp [laws_heldWordS.l0])
    | succ k1 =>
      have H := HA.out
      clear HA
      simp only [laws_heldWordS.l0] at H
      by_cases c3 : x5_1 < (l0.length : Int)
      · rw [if_pos c3] at H
        have c3b0 : decide (x5_1 < (l0.length : Int)) = true := decide_eq_true c3
        clear c3
        by_cases c4 : 0 ≤ x5_1
        · rw [if_pos c4] at H
          have c4b0 : decide (0 ≤ x5_1) = true := decide_eq_true c4
          clear c4
          by_cases c5 : ((rd_T59 l0 x5_1).f0) = x1_1
          · rw [if_pos c5] at H
            have c5b0 : (((rd_T59 l0 x5_1).f0) == x1_1) = true := beq_iff_eq.mpr c5
            have c5b1 : (((rd_T59 l0 x5_1).f0) != x1_1) = false := bne_eq_false_iff_eq.mpr c5
            clear c5
            by_cases c6 : ((rd_T59 l0 x5_1).f1) = (wrap64 (x1_1 + 1))
            · rw [if_pos c6] at H
              have c6b0 : (((rd_T59 l0 x5_1).f1) == (wrap64 (x1_1 + 1))) = true := beq_iff_eq.mpr c6
              have c6b1 : (((rd_T59 l0 x5_1).f1) != (wrap64 (x1_1 + 1))) = false := bne_eq_false_iff_eq.mpr c6
              clear c6
              by_cases c7 : ((rd_T59 l0 x5_1).f2) = (wrap64 ((wrap64 (x1_1 + 1)) + 1))
              · rw [if_pos c7] at H
                have c7b0 : (((rd_T59 l0 x5_1).f2) == (wrap64 ((wrap64 (x1_1 + 1)) + 1))) = true := beq_iff_eq.mpr c7
                have c7b1 : (((rd_T59 l0 x5_1).f2) != (wrap64 ((wrap64 (x1_1 + 1)) + 1))) = false := bne_eq_false_iff_eq.mpr c7
                clear c7
                by_cases c8 : ((rd_T59 l0 x5_1).f3) = (wrap64 ((wrap64 ((wrap64 (x1_1 + 1)) + 1)) + 1))
                · rw [if_pos c8] at H
                  have c8b0 : (((rd_T59 l0 x5_1).f3) == (wrap64 ((wrap64 ((wrap64 (x1_1 + 1)) + 1)) + 1))) = true := beq_iff_eq.mpr c8
                  have c8b1 : (((rd_T59 l0 x5_1).f3) != (wrap64 ((wrap64 ((wrap64 (x1_1 + 1)) + 1)) + 1))) = false := bne_eq_false_iff_eq.mpr c8
                  clear c8
                  by_cases c9 : ((rd_T59 l0 x5_1).f4) = (wrap64 ((wrap64 ((wrap64 ((wrap64 (x1_1 + 1)) + 1)) + 1)) + 1))
                  · rw [if_pos c9] at H
                    have c9b0 : (((rd_T59 l0 x5_1).f4) == (wrap64 ((wrap64 ((wrap64 ((wrap64 (x1_1 + 1)) + 1)) + 1)) + 1))) = true := beq_iff_eq.mpr c9
                    have c9b1 : (((rd_T59 l0 x5_1).f4) != (wrap64 ((wrap64 ((wrap64 ((wrap64 (x1_1 + 1)) + 1)) + 1)) + 1))) = false := bne_eq_false_iff_eq.mpr c9
                    clear c9
                    have H' := Aside0.mk H
                    clear H
                    have p101 : 0 ≤ (x5_1 : Int) := of_decide_eq_true (by first | (with_reducible assumption) | assumption)
                    have q101 : x5_1 < (l0.length : Int) := of_decide_eq_true (by first | (with_reducible assumption) | assumption)
                    obtain ⟨ad101, e101, hx101_0, hx101_1, hx101_2, hx101_3, hx101_4⟩ := at_T59 HR0.out x5_1 p101 q101
                    cases e101
                    replace p101 := eq_true p101
                    replace q101 := eq_true q101
                    have p102 : 0 ≤ (x5_1 : Int) := of_decide_eq_true (by first | (with_reducible assumption) | assumption)
                    have q102 : x5_1 < (l0.length : Int) := of_decide_eq_true (by first | (with_reducible assumption) | assumption)
                    obtain ⟨ad102, e102, hx102_0, hx102_1, hx102_2, hx102_3, hx102_4⟩ := at_T59 HR0.out x5_1 p102 q102
                    obtain rfl : ad101 = ad102 := (by injection e102)
                    replace p102 := eq_true p102
                    replace q102 := eq_true q102
                    have p103 : 0 ≤ (x5_1 : Int) := of_decide_eq_true (by first | (with_reducible assumption) | assumption)
                    have q103 : x5_1 < (l0.length : Int) := of_decide_eq_true (by first | (with_reducible assumption) | assumption)
                    obtain ⟨ad103, e103, hx103_0, hx103_1, hx103_2, hx103_3, hx103_4⟩ := at_T59 HR0.out x5_1 p103 q103
                    obtain rfl : ad101 = ad103 := (by injection e103)
                    replace p103 := eq_true p103
                    replace q103 := eq_true q103
                    have p104 : 0 ≤ (x5_1 : Int) := of_decide_eq_true (by first | (with_reducible assumption) | assumption)
                    have q104 : x5_1 < (l0.length : Int) := of_decide_eq_true (by first | (with_reducible assumption) | assumption)
                    obtain ⟨ad104, e104, hx104_0, hx104_1, hx104_2, hx104_3, hx104_4⟩ := at_T59 HR0.out x5_1 p104 q104
                    obtain rfl : ad101 = ad104 := (by injection e104)
                    replace p104 := eq_true p104
                    replace q104 := eq_true q104
                    have p105 : 0 ≤ (x5_1 : Int) := of_decide_eq_true (by first | (with_reducible assumption) | assumption)
                    have q105 : x5_1 < (l0.length : Int) := of_decide_eq_true (by first | (with_reducible assumption) | assumption)
                    obtain ⟨ad105, e105, hx105_0, hx105_1, hx105_2, hx105_3, hx105_4⟩ := at_T59 HR0.out x5_1 p105 q105
                    obtain rfl : ad101 = ad105 := (by injection e105)
                    replace p105 := eq_true p105
                    replace q105 := eq_true q105
                    go_wp2
                    go_roundg k1
                    case measure => have := HK1.out; omega
                    case rel => exact ⟨(wrap64 ((wrap64 ((wrap64 ((wrap64 ((wrap64 (x1_1 + 1)) + 1)) + 1)) + 1)) + 1)), (wrap64 (x5_1 + 1)), (by first | rfl | (simp; done) | (simp [*]; done)), (by first | rfl | (simp; done) | (simp [*]; done)), H', ⟨by have := HK1.out; omega⟩, by repeat (first | exact Drawn0.refl _ | apply Drawn0.step)⟩
                  · rw [if_neg c9] at H
                    have c9b0 : (((rd_T59 l0 x5_1).f4) == (wrap64 ((wrap64 ((wrap64 ((wrap64 (x1_1 + 1)) + 1)) + 1)) + 1))) = false := beq_eq_false_iff_ne.mpr c9
                    have c9b1 : (((rd_T59 l0 x5_1).f4) != (wrap64 ((wrap64 ((wrap64 ((wrap64 (x1_1 + 1)) + 1)) + 1)) + 1))) = true := bne_iff_ne.mpr c9
                    obtain rfl := Option.some.inj H
                    have p101 : 0 ≤ (x5_1 : Int) := of_decide_eq_true (by first | (with_reducible assumption) | assumption)
                    have q101 : x5_1 < (l0.length : Int) := of_decide_eq_true (by first | (with_reducible assumption) | assumption)
                    obtain ⟨ad101, e101, hx101_0, hx101_1, hx101_2, hx101_3, hx101_4⟩ := at_T59 HR0.out x5_1 p101 q101
                    cases e101
                    replace p101 := eq_true p101
                    replace q101 := eq_true q101
                    have p102 : 0 ≤ (x5_1 : Int) := of_decide_eq_true (by first | (with_reducible assumption) | assumption)
                    have q102 : x5_1 < (l0.length : Int) := of_decide_eq_true (by first | (with_reducible assumption) | assumption)
                    obtain ⟨ad102, e102, hx102_0, hx102_1, hx102_2, hx102_3, hx102_4⟩ := at_T59 HR0.out x5_1 p102 q102
                    obtain rfl : ad101 = ad102 := (by injection e102)
                    replace p102 := eq_true p102
                    replace q102 := eq_true q102
                    have p103 : 0 ≤ (x5_1 : Int) := of_decide_eq_true (by first | (with_reducible assumption) | assumption)
                    have q103 : x5_1 < (l0.length : Int) := of_decide_eq_true (by first | (with_reducible assumption) | assumption)
                    obtain ⟨ad103, e103, hx103_0, hx103_1, hx103_2, hx103_3, hx103_4⟩ := at_T59 HR0.out x5_1 p103 q103
                    obtain rfl : ad101 = ad103 := (by injection e103)
                    replace p103 := eq_true p103
                    replace q103 := eq_true q103
                    have p104 : 0 ≤ (x5_1 : Int) := of_decide_eq_true (by first | (with_reducible assumption) | assumption)
                    have q104 : x5_1 < (l0.length : Int) := of_decide_eq_true (by first | (with_reducible assumption) | assumption)
                    obtain ⟨ad104, e104, hx104_0, hx104_1, hx104_2, hx104_3, hx104_4⟩ := at_T59 HR0.out x5_1 p104 q104
                    obtain rfl : ad101 = ad104 := (by injection e104)
                    replace p104 := eq_true p104
                    replace q104 := eq_true q104
                    have p105 : 0 ≤ (x5_1 : Int) := of_decide_eq_true (by first | (with_reducible assumption) | assumption)
                    have q105 : x5_1 < (l0.length : Int) := of_decide_eq_true (by first | (with_reducible assumption) | assumption)
                    obtain ⟨ad105, e105, hx105_0, hx105_1, hx105_2, hx105_3, hx105_4⟩ := at_T59 HR0.out x5_1 p105 q105
                    obtain rfl : ad101 = ad105 := (by injection e105)
                    replace p105 := eq_true p105
                    replace q105 := eq_true q105
                    go_wp2
                    go_ret
                    exact ⟨by first | rfl | (simp; done) | (simp [*]; done), by repeat (first | exact Drawn0.refl _ | apply Drawn0.step)⟩
                · rw [if_neg c8] at H
                  have c8b0 : (((rd_T59 l0 x5_1).f3) == (wrap64 ((wrap64 ((wrap64 (x1_1 + 1)) + 1)) + 1))) = false := beq_eq_false_iff_ne.mpr c8
                  have c8b1 : (((rd_T59 l0 x5_1).f3) != (wrap64 ((wrap64 ((wrap64 (x1_1 + 1)) + 1)) + 1))) = true := bne_iff_ne.mpr c8
                  obtain rfl := Option.some.inj H
                  have p101 : 0 ≤ (x5_1 : Int) := of_decide_eq_true (by first | (with_reducible assumption) | assumption)
                  have q101 : x5_1 < (l0.length : Int) := of_decide_eq_true (by first | (with_reducible assumption) | assumption)
                  obtain ⟨ad101, e101, hx101_0, hx101_1, hx101_2, hx101_3, hx101_4⟩ := at_T59 HR0.out x5_1 p101 q101
                  cases e101
                  replace p101 := eq_true p101
                  replace q101 := eq_true q101
                  have p102 : 0 ≤ (x5_1 : Int) := of_decide_eq_true (by first | (with_reducible assumption) | assumption)
                  have q102 : x5_1 < (l0.length : Int) := of_decide_eq_true (by first | (with_reducible assumption) | assumption)
                  obtain ⟨ad102, e102, hx102_0, hx102_1, hx102_2, hx102_3, hx102_4⟩ := at_T59 HR0.out x5_1 p102 q102
                  obtain rfl : ad101 = ad102 := (by injection e102)
                  replace p102 := eq_true p102
                  replace q102 := eq_true q102
                  have p103 : 0 ≤ (x5_1 : Int) := of_decide_eq_true (by first | (with_reducible assumption) | assumption)
                  have q103 : x5_1 < (l0.length : Int) := of_decide_eq_true (by first | (with_reducible assumption) | assumption)
                  obtain ⟨ad103, e103, hx103_0, hx103_1, hx103_2, hx103_3, hx103_4⟩ := at_T59 HR0.out x5_1 p103 q103
                  obtain rfl : ad101 = ad103 := (by injection e103)
                  replace p103 := eq_true p103
                  replace q103 := eq_true q103
                  have p104 : 0 ≤ (x5_1 : Int) := of_decide_eq_true (by first | (with_reducible assumption) | assumption)
                  have q104 : x5_1 < (l0.length : Int) := of_decide_eq_true (by first | (with_reducible assumption) | assumption)
                  obtain ⟨ad104, e104, hx104_0, hx104_1, hx104_2, hx104_3, hx104_4⟩ := at_T59 HR0.out x5_1 p104 q104
                  obtain rfl : ad101 = ad104 := (by injection e104)
                  replace p104 := eq_true p104
                  replace q104 := eq_true q104
                  go_wp2
                  go_ret
                  exact ⟨by first | rfl | (simp; done) | (simp [*]; done), by repeat (first | exact Drawn0.refl _ | apply Drawn0.step)⟩
              · rw [if_neg c7] at H
                have c7b0 : (((rd_T59 l0 x5_1).f2) == (wrap64 ((wrap64 (x1_1 + 1)) + 1))) = false := beq_eq_false_iff_ne.mpr c7
                have c7b1 : (((rd_T59 l0 x5_1).f2) != (wrap64 ((wrap64 (x1_1 + 1)) + 1))) = true := bne_iff_ne.mpr c7
                obtain rfl := Option.some.inj H
                have p101 : 0 ≤ (x5_1 : Int) := of_decide_eq_true (by first | (with_reducible assumption) | assumption)
                have q101 : x5_1 < (l0.length : Int) := of_decide_eq_true (by first | (with_reducible assumption) | assumption)
                obtain ⟨ad101, e101, hx101_0, hx101_1, hx101_2, hx101_3, hx101_4⟩ := at_T59 HR0.out x5_1 p101 q101
                cases e101
                replace p101 := eq_true p101
                replace q101 := eq_true q101
                have p102 : 0 ≤ (x5_1 : Int) := of_decide_eq_true (by first | (with_reducible assumption) | assumption)
                have q102 : x5_1 < (l0.length : Int) := of_decide_eq_true (by first | (with_reducible assumption) | assumption)
                obtain ⟨ad102, e102, hx102_0, hx102_1, hx102_2, hx102_3, hx102_4⟩ := at_T59 HR0.out x5_1 p102 q102
                obtain rfl : ad101 = ad102 := (by injection e102)
                replace p102 := eq_true p102
                replace q102 := eq_true q102
                have p103 : 0 ≤ (x5_1 : Int) := of_decide_eq_true (by first | (with_reducible assumption) | assumption)
                have q103 : x5_1 < (l0.length : Int) := of_decide_eq_true (by first | (with_reducible assumption) | assumption)
                obtain ⟨ad103, e103, hx103_0, hx103_1, hx103_2, hx103_3, hx103_4⟩ := at_T59 HR0.out x5_1 p103 q103
                obtain rfl : ad101 = ad103 := (by injection e103)
                replace p103 := eq_true p103
                replace q103 := eq_true q103
                go_wp2
                go_ret
                exact ⟨by first | rfl | (simp; done) | (simp [*]; done), by repeat (first | exact Drawn0.refl _ | apply Drawn0.step)⟩
            · rw [if_neg c6] at H
              have c6b0 : (((rd_T59 l0 x5_1).f1) == (wrap64 (x1_1 + 1))) = false := beq_eq_false_iff_ne.mpr c6
              have c6b1 : (((rd_T59 l0 x5_1).f1) != (wrap64 (x1_1 + 1))) = true := bne_iff_ne.mpr c6
              obtain rfl := Option.some.inj H
              have p101 : 0 ≤ (x5_1 : Int) := of_decide_eq_true (by first | (with_reducible assumption) | assumption)
              have q101 : x5_1 < (l0.length : Int) := of_decide_eq_true (by first | (with_reducible assumption) | assumption)
              obtain ⟨ad101, e101, hx101_0, hx101_1, hx101_2, hx101_3, hx101_4⟩ := at_T59 HR0.out x5_1 p101 q101
              cases e101
              replace p101 := eq_true p101
              replace q101 := eq_true q101
              have p102 : 0 ≤ (x5_1 : Int) := of_decide_eq_true (by first | (with_reducible assumption) | assumption)
              have q102 : x5_1 < (l0.length : Int) := of_decide_eq_true (by first | (with_reducible assumption) | assumption)
              obtain ⟨ad102, e102, hx102_0, hx102_1, hx102_2, hx102_3, hx102_4⟩ := at_T59 HR0.out x5_1 p102 q102
              obtain rfl : ad101 = ad102 := (by injection e102)
              replace p102 := eq_true p102
              replace q102 := eq_true q102
              go_wp2
              go_ret
              exact ⟨by first | rfl | (simp; done) | (simp [*]; done), by repeat (first | exact Drawn0.refl _ | apply Drawn0.step)⟩
          · rw [if_neg c5] at H
            have c5b0 : (((rd_T59 l0 x5_1).f0) == x1_1) = false := beq_eq_false_iff_ne.mpr c5
            have c5b1 : (((rd_T59 l0 x5_1).f0) != x1_1) = true := bne_iff_ne.mpr c5
            obtain rfl := Option.some.inj H
            have p101 : 0 ≤ (x5_1 : Int) := of_decide_eq_true (by first | (with_reducible assumption) | assumption)
            have q101 : x5_1 < (l0.length : Int) := of_decide_eq_true (by first | (with_reducible assumption) | assumption)
            obtain ⟨ad101, e101, hx101_0, hx101_1, hx101_2, hx101_3, hx101_4⟩ := at_T59 HR0.out x5_1 p101 q101
            cases e101
            replace p101 := eq_true p101
            replace q101 := eq_true q101
            go_wp2
            go_ret
            exact ⟨by first | rfl | (simp; done) | (simp [*]; done), by repeat (first | exact Drawn0.refl _ | apply Drawn0.step)⟩
        · rw [if_neg c4] at H
          exact absurd H (by simp)
      · rw [if_neg c3] at H
        have c3b0 : decide (x5_1 < (l0.length : Int)) = false := decide_eq_false c3
        clear c3
        obtain rfl := Option.some.inj H
        go_wp2
        go_ret
        exact ⟨by first | rfl | (simp; done) | (simp [*]; done), by repeat (first | exact Drawn0.refl _ | apply Drawn0.step)⟩

end Go.Proofs.Ytnbaojaocagjcaa.P
end
section
-- Written for this claim by gp.py over the kit's print; not trusted: Lean checks it.



namespace Go.Proofs.Ytnbaojaocagjcaa.P
open Go.RowKit Go.Proofs.YtnbaojaocagjcaaW.PrintWords Go.Proofs.YtnbaojaocagjcaaW.PrintLast Go.Proofs.YtnbaojaocagjcaaW.PrintMore
attribute [local go_sem] max2_int min2_int max_two min_two max_three min_three max_four min_four
set_option linter.unusedVariables false
set_option linter.unusedSimpArgs false

/-! ### laws_heldImage: function 37 -/
def laws_heldImage.f (k : Nat) (l0_0 : List Int) (a0_1 : Int) (a0_2 : Int) (l0_3 : List (S59)) (a1 : Int) : Option (Int) := (laws_heldIntS.f k l0_0 a1).bind fun t102 => (if t102 < 0 then (some (-1)) else ((laws_heldWordS.f k l0_3 t102).bind fun t103 => (if t103 < 0 then (some (-1)) else (some t103))))
theorem laws_heldImage.mono : ∀ a0 a1 a2 a3 a4 k, LeO (laws_heldImage.f k a0 a1 a2 a3 a4) (laws_heldImage.f (k + 1) a0 a1 a2 a3 a4) := by
  intro a0 a1 a2 a3 a4 k
  unfold laws_heldImage.f
  repeat' first
      | (with_reducible exact laws_heldIntS.mono _ _ _)
      | (with_reducible exact laws_heldWordS.mono _ _ _)
      | (with_reducible exact LeO.refl _)
      | (with_reducible exact LeO.none _)
      | (with_reducible refine LeO.ite ?_ ?_)
      | (with_reducible refine LeO.bind ?_ (fun _ => ?_))
      | exact laws_heldIntS.mono _ _ _
      | exact laws_heldWordS.mono _ _ _
      | exact LeO.none _
      | refine LeO.ite ?_ ?_
      | refine LeO.bind ?_ (fun _ => ?_)
set_option maxHeartbeats 8000000 in
set_option maxRecDepth 100000 in
theorem laws_heldImage.calls (k : Nat) (A0_0 : Option Addr) (c0_0 : Nat) (l0_0 : List Int) (a0_1 : Int) (a0_2 : Int) (A0_3 : Option Addr) (c0_3 : Nat) (l0_3 : List (S59)) (a1 : Int) (r : Int) (w : World) (hr0_0 : Kd.C (Kd.int .i64) w A0_0 l0_0.length l0_0) (hc0_0 : l0_0.length ≤ c0_0) (hr0_3 : Kd.C k59 w A0_3 l0_3.length l0_3) (hc0_3 : l0_3.length ≤ c0_3) (h : laws_heldImage.f k l0_0 a0_1 a0_2 l0_3 a1 = some r) :
    Calls Try.prog 37 #[.agg #[.slice A0_0 l0_0.length c0_0, .int .i64 a0_1, .int .i64 a0_2, .slice A0_3 l0_3.length c0_3], .int .i64 a1] w fun e w' => e = .returned (.int .i64 r) ∧ Below w.heap.size w w' := by
  have hu33 := Try.underlying33
  have HR0_0 := Aside0.mk hr0_0
  have HC0_0 := Aside0.mk hc0_0
  clear hr0_0 hc0_0
  have HR0_3 := Aside0.mk hr0_3
  have HC0_3 := Aside0.mk hc0_3
  clear hr0_3 hc0_3
  have HB := Aside0.mk (Below.refl w.heap.size w)
  have H : ((laws_heldIntS.f k l0_0 a1).bind fun t102 => (if t102 < 0 then (some (-1)) else ((laws_heldWordS.f k l0_3 t102).bind fun t103 => (if t103 < 0 then (some (-1)) else (some t103))))) = some r := h
  clear h
  replace H := Option.bind_eq_some_iff.mp H
  obtain ⟨t102, A30, H⟩ := H
  replace H : (if t102 < 0 then (some (-1)) else ((laws_heldWordS.f k l0_3 t102).bind fun t103 => (if t103 < 0 then (some (-1)) else (some t103)))) = some r := H
  have A3 := Aside0.mk A30
  clear A30
  by_cases c4 : t102 < 0
  · rw [if_pos c4] at H
    have c4b0 : decide (t102 < 0) = true := decide_eq_true c4
    clear c4
    obtain rfl := Option.some.inj H
    go_enter Try.func37, Try.ntmps37
    go_wp2_with (first | ((with_reducible refine gate_dst (N := 2) rfl ?_); refine box_event ?hg (N := 2) ?hd (cs := #[.slice A0_0 l0_0.length c0_0, .int .i64 a0_1, .int .i64 a0_2, .slice A0_3 l0_3.length c0_3]) (t := 33) ?hr ?_; (case hd => rfl); (case hg => rfl); (case hr => first | (go_simp; done) | (go_simp; rfl)); intro gb101 hg w5 hbox hb; have n0_ := Aside0.mk (below_step (by repeat (first | (with_reducible first | exact HB.out | apply below_alloc | apply pw_below_drewN | apply below_drew1) | exact HB.out)) hb); have n1_ := Aside0.mk (hbox); have n2_ := Aside0.mk ((by rw [hg]; exact (below_size (by repeat (first | (with_reducible first | exact HB.out | apply below_alloc | apply pw_below_drewN | apply below_drew1) | exact HB.out))) : w.heap.size ≤ gb101)); have n3_ := Aside0.mk ((by rw [hg]; exact (below_size (by repeat (first | (with_reducible first | exact HB.out | apply below_alloc | apply pw_below_drewN | apply below_drew1) | exact HB.out))) : w.heap.size ≤ gb101)); clear HB; have HB := n0_; have BK101 := n1_; have GW101 := n2_; have GE101 := n3_; clear n0_ n1_ n2_ n3_; clear hb hbox hg; have hcz6_0 : w5.cell? ⟨gb101, 0, none⟩ = some (.slice A0_0 l0_0.length c0_0) := (blk_cell BK101.out 0).trans rfl; have hcz6_1 : w5.cell? ⟨gb101, 1, none⟩ = some (.int .i64 a0_1) := (blk_cell BK101.out 1).trans rfl; have hcz6_2 : w5.cell? ⟨gb101, 2, none⟩ = some (.int .i64 a0_2) := (blk_cell BK101.out 2).trans rfl; have hcz6_3 : w5.cell? ⟨gb101, 3, none⟩ = some (.slice A0_3 l0_3.length c0_3) := (blk_cell BK101.out 3).trans rfl; have hfz6_0 := blk_frozen BK101.out 0; have hfz6_1 := blk_frozen BK101.out 1; have hfz6_2 := blk_frozen BK101.out 2; have hfz6_3 := blk_frozen BK101.out 3) | ((with_reducible refine gate_callee (f := 34) rfl ?_); refine goesL_ (some 8) rfl rfl Try.func34 (by kernel_rfl) rfl #[.slice A0_0 l0_0.length c0_0, .int .i64 a1] rfl (by (try simp only [List.map_toArray, List.map_cons, List.map_nil]); first | done | rfl | (simp only [List.length_drop, List.length_take]; rfl)) ?_; (with_reducible refine (laws_heldIntS.calls k _ _ l0_0 a1 t102 _ ?side1 ?side2 A3.out).mono ?_); (case side1 => repeat (first | exact (Kd.C_below HR0_0.out HB.out) | (with_reducible refine Kd.C_alloc ?_ _) | (with_reducible refine Kd.C_drewN ?_ _) | (with_reducible refine Kd.C_drew ?_))); (case side2 => exact HC0_0.out); rintro e w' ⟨rfl, ⟨nd, rfl⟩⟩; refine ⟨_, rfl, ?_⟩))
    go_ret
    exact ⟨by first | rfl | (simp [errW_none, errW_some] <;> rfl) | (simp [*, errW_none, errW_some] <;> rfl), by repeat (first | (with_reducible first | exact HB.out | apply below_alloc | apply pw_below_drewN | apply below_drew1 | refine below_set ?_ GE101.out) | exact HB.out)⟩
  · rw [if_neg c4] at H
    have c4b0 : decide (t102 < 0) = false := decide_eq_false c4
    clear c4
    replace H := Option.bind_eq_some_iff.mp H
    obtain ⟨t103, A70, H⟩ := H
    replace H : (if t103 < 0 then (some (-1)) else (some t103)) = some r := H
    have A7 := Aside0.mk A70
    clear A70
    by_cases c8 : t103 < 0
    · rw [if_pos c8] at H
      have c8b0 : decide (t103 < 0) = true := decide_eq_true c8
      clear c8
      obtain rfl := Option.some.inj H
      go_enter Try.func37, Try.ntmps37
      go_wp2_with (first | ((with_reducible refine gate_dst (N := 2) rfl ?_); refine box_event ?hg (N := 2) ?hd (cs := #[.slice A0_0 l0_0.length c0_0, .int .i64 a0_1, .int .i64 a0_2, .slice A0_3 l0_3.length c0_3]) (t := 33) ?hr ?_; (case hd => rfl); (case hg => rfl); (case hr => first | (go_simp; done) | (go_simp; rfl)); intro gb101 hg w9 hbox hb; have n0_ := Aside0.mk (below_step (by repeat (first | (with_reducible first | exact HB.out | apply below_alloc | apply pw_below_drewN | apply below_drew1) | exact HB.out)) hb); have n1_ := Aside0.mk (hbox); have n2_ := Aside0.mk ((by rw [hg]; exact (below_size (by repeat (first | (with_reducible first | exact HB.out | apply below_alloc | apply pw_below_drewN | apply below_drew1) | exact HB.out))) : w.heap.size ≤ gb101)); have n3_ := Aside0.mk ((by rw [hg]; exact (below_size (by repeat (first | (with_reducible first | exact HB.out | apply below_alloc | apply pw_below_drewN | apply below_drew1) | exact HB.out))) : w.heap.size ≤ gb101)); clear HB; have HB := n0_; have BK101 := n1_; have GW101 := n2_; have GE101 := n3_; clear n0_ n1_ n2_ n3_; clear hb hbox hg; have hcz10_0 : w9.cell? ⟨gb101, 0, none⟩ = some (.slice A0_0 l0_0.length c0_0) := (blk_cell BK101.out 0).trans rfl; have hcz10_1 : w9.cell? ⟨gb101, 1, none⟩ = some (.int .i64 a0_1) := (blk_cell BK101.out 1).trans rfl; have hcz10_2 : w9.cell? ⟨gb101, 2, none⟩ = some (.int .i64 a0_2) := (blk_cell BK101.out 2).trans rfl; have hcz10_3 : w9.cell? ⟨gb101, 3, none⟩ = some (.slice A0_3 l0_3.length c0_3) := (blk_cell BK101.out 3).trans rfl; have hfz10_0 := blk_frozen BK101.out 0; have hfz10_1 := blk_frozen BK101.out 1; have hfz10_2 := blk_frozen BK101.out 2; have hfz10_3 := blk_frozen BK101.out 3) | ((with_reducible refine gate_callee (f := 34) rfl ?_); refine goesL_ (some 8) rfl rfl Try.func34 (by kernel_rfl) rfl #[.slice A0_0 l0_0.length c0_0, .int .i64 a1] rfl (by (try simp only [List.map_toArray, List.map_cons, List.map_nil]); first | done | rfl | (simp only [List.length_drop, List.length_take]; rfl)) ?_; (with_reducible refine (laws_heldIntS.calls k _ _ l0_0 a1 t102 _ ?side1 ?side2 A3.out).mono ?_); (case side1 => repeat (first | exact (Kd.C_below HR0_0.out HB.out) | (with_reducible refine Kd.C_alloc ?_ _) | (with_reducible refine Kd.C_drewN ?_ _) | (with_reducible refine Kd.C_drew ?_))); (case side2 => exact HC0_0.out); rintro e w' ⟨rfl, ⟨nd, rfl⟩⟩; refine ⟨_, rfl, ?_⟩) | ((with_reducible refine gate_callee (f := 59) rfl ?_); refine goesL_ (some 14) rfl rfl Try.func59 (by kernel_rfl) rfl #[.slice A0_3 l0_3.length c0_3, .int .i64 t102] rfl (by (try simp only [List.map_toArray, List.map_cons, List.map_nil]); first | done | rfl | (simp only [List.length_drop, List.length_take]; rfl)) ?_; (with_reducible refine (laws_heldWordS.calls k _ _ l0_3 t102 t103 _ ?side1 ?side2 A7.out).mono ?_); (case side1 => repeat (first | exact (Kd.C_below HR0_3.out (by repeat (first | (with_reducible first | exact HB.out | apply below_alloc | apply pw_below_drewN | apply below_drew1 | refine below_set ?_ GE101.out) | exact HB.out))) | (with_reducible refine Kd.C_alloc ?_ _) | (with_reducible refine Kd.C_drewN ?_ _) | (with_reducible refine Kd.C_drew ?_))); (case side2 => exact HC0_3.out); rintro e w' ⟨rfl, ⟨nd, rfl⟩⟩; refine ⟨_, rfl, ?_⟩))
      go_ret
      exact ⟨by first | rfl | (simp [errW_none, errW_some] <;> rfl) | (simp [*, errW_none, errW_some] <;> rfl), by repeat (first | (with_reducible first | exact HB.out | apply below_alloc | apply pw_below_drewN | apply below_drew1 | refine below_set ?_ GE101.out) | exact HB.out)⟩
    · rw [if_neg c8] at H
      have c8b0 : decide (t103 < 0) = false := decide_eq_false c8
      clear c8
      obtain rfl := Option.some.inj H
      go_enter Try.func37, Try.ntmps37
      go_wp2_with (first | ((with_reducible refine gate_dst (N := 2) rfl ?_); refine box_event ?hg (N := 2) ?hd (cs := #[.slice A0_0 l0_0.length c0_0, .int .i64 a0_1, .int .i64 a0_2, .slice A0_3 l0_3.length c0_3]) (t := 33) ?hr ?_; (case hd => rfl); (case hg => rfl); (case hr => first | (go_simp; done) | (go_simp; rfl)); intro gb101 hg w11 hbox hb; have n0_ := Aside0.mk (below_step (by repeat (first | (with_reducible first | exact HB.out | apply below_alloc | apply pw_below_drewN | apply below_drew1) | exact HB.out)) hb); have n1_ := Aside0.mk (hbox); have n2_ := Aside0.mk ((by rw [hg]; exact (below_size (by repeat (first | (with_reducible first | exact HB.out | apply below_alloc | apply pw_below_drewN | apply below_drew1) | exact HB.out))) : w.heap.size ≤ gb101)); have n3_ := Aside0.mk ((by rw [hg]; exact (below_size (by repeat (first | (with_reducible first | exact HB.out | apply below_alloc | apply pw_below_drewN | apply below_drew1) | exact HB.out))) : w.heap.size ≤ gb101)); clear HB; have HB := n0_; have BK101 := n1_; have GW101 := n2_; have GE101 := n3_; clear n0_ n1_ n2_ n3_; clear hb hbox hg; have hcz12_0 : w11.cell? ⟨gb101, 0, none⟩ = some (.slice A0_0 l0_0.length c0_0) := (blk_cell BK101.out 0).trans rfl; have hcz12_1 : w11.cell? ⟨gb101, 1, none⟩ = some (.int .i64 a0_1) := (blk_cell BK101.out 1).trans rfl; have hcz12_2 : w11.cell? ⟨gb101, 2, none⟩ = some (.int .i64 a0_2) := (blk_cell BK101.out 2).trans rfl; have hcz12_3 : w11.cell? ⟨gb101, 3, none⟩ = some (.slice A0_3 l0_3.length c0_3) := (blk_cell BK101.out 3).trans rfl; have hfz12_0 := blk_frozen BK101.out 0; have hfz12_1 := blk_frozen BK101.out 1; have hfz12_2 := blk_frozen BK101.out 2; have hfz12_3 := blk_frozen BK101.out 3) | ((with_reducible refine gate_callee (f := 34) rfl ?_); refine goesL_ (some 8) rfl rfl Try.func34 (by kernel_rfl) rfl #[.slice A0_0 l0_0.length c0_0, .int .i64 a1] rfl (by (try simp only [List.map_toArray, List.map_cons, List.map_nil]); first | done | rfl | (simp only [List.length_drop, List.length_take]; rfl)) ?_; (with_reducible refine (laws_heldIntS.calls k _ _ l0_0 a1 t102 _ ?side1 ?side2 A3.out).mono ?_); (case side1 => repeat (first | exact (Kd.C_below HR0_0.out HB.out) | (with_reducible refine Kd.C_alloc ?_ _) | (with_reducible refine Kd.C_drewN ?_ _) | (with_reducible refine Kd.C_drew ?_))); (case side2 => exact HC0_0.out); rintro e w' ⟨rfl, ⟨nd, rfl⟩⟩; refine ⟨_, rfl, ?_⟩) | ((with_reducible refine gate_callee (f := 59) rfl ?_); refine goesL_ (some 14) rfl rfl Try.func59 (by kernel_rfl) rfl #[.slice A0_3 l0_3.length c0_3, .int .i64 t102] rfl (by (try simp only [List.map_toArray, List.map_cons, List.map_nil]); first | done | rfl | (simp only [List.length_drop, List.length_take]; rfl)) ?_; (with_reducible refine (laws_heldWordS.calls k _ _ l0_3 t102 t103 _ ?side1 ?side2 A7.out).mono ?_); (case side1 => repeat (first | exact (Kd.C_below HR0_3.out (by repeat (first | (with_reducible first | exact HB.out | apply below_alloc | apply pw_below_drewN | apply below_drew1 | refine below_set ?_ GE101.out) | exact HB.out))) | (with_reducible refine Kd.C_alloc ?_ _) | (with_reducible refine Kd.C_drewN ?_ _) | (with_reducible refine Kd.C_drew ?_))); (case side2 => exact HC0_3.out); rintro e w' ⟨rfl, ⟨nd, rfl⟩⟩; refine ⟨_, rfl, ?_⟩))
      go_ret
      exact ⟨by first | rfl | (simp [errW_none, errW_some] <;> rfl) | (simp [*, errW_none, errW_some] <;> rfl), by repeat (first | (with_reducible first | exact HB.out | apply below_alloc | apply pw_below_drewN | apply below_drew1 | refine below_set ?_ GE101.out) | exact HB.out)⟩

end Go.Proofs.Ytnbaojaocagjcaa.P
end
section
-- Written for this claim by gp.py over the kit's print; not trusted: Lean checks it.






namespace Go.Proofs.Ytnbaojaocagjcaa.P
open Go.RowKit Go.Proofs.YtnbaojaocagjcaaW.PrintWords Go.Proofs.YtnbaojaocagjcaaW.PrintLast Go.Proofs.YtnbaojaocagjcaaW.PrintMore
attribute [local go_sem] max2_int min2_int max_two min_two max_three min_three max_four min_four
set_option linter.unusedVariables false
set_option linter.unusedSimpArgs false

/-! ### laws_FnExactGetImage: function 10 -/
def laws_FnExactGetImage.f (k : Nat) (a0 : ByteArray) : Option (Bool) := if (a0.size : Int) > 1048576 then (some true) else ((spec_GetImage.f k a0).bind fun bt101 => ((impl_GetImage.f k a0).bind fun bt111 => ((laws_eqImage.f k bt111.1 bt111.2.1 bt111.2.2.1 bt111.2.2.2.1 bt101.1 bt101.2.1 bt101.2.2.1 bt101.2.2.2.1).bind fun t121 => (if t121 = true then (if (bt111.2.2.2.2 != bt101.2.2.2.2) = true then (none) else ((laws_markImage.f k bt111.1 bt111.2.1 bt111.2.2.1 bt111.2.2.2.1 1).bind fun bt122 => ((laws_heldImage.f k bt122.2.1 bt111.2.1 bt111.2.2.1 bt122.2.2 1).bind fun t125 => (if t125 < 0 then (none) else (if t125 = bt122.1 then ((impl_GetImage.f k a0).bind fun bt126 => ((laws_eqImage.f k bt126.1 bt126.2.1 bt126.2.2.1 bt126.2.2.2.1 bt101.1 bt101.2.1 bt101.2.2.1 bt101.2.2.2.1).bind fun t136 => (if t136 = true then (if (bt126.2.2.2.2 != bt101.2.2.2.2) = true then (none) else ((laws_heldImage.f k bt122.2.1 bt111.2.1 bt111.2.2.1 bt122.2.2 1).bind fun t137 => (if t137 < 0 then (none) else (if t137 = bt122.1 then (some true) else (none))))) else (none)))) else (none)))))) else (none)))))
theorem laws_FnExactGetImage.mono : ∀ a0 k, LeO (laws_FnExactGetImage.f k a0) (laws_FnExactGetImage.f (k + 1) a0) := by
  intro a0 k
  unfold laws_FnExactGetImage.f
  repeat' first
      | (with_reducible exact impl_GetImage.mono _ _)
      | (with_reducible exact laws_eqImage.mono _ _ _ _ _ _ _ _ _)
      | (with_reducible exact laws_heldImage.mono _ _ _ _ _ _)
      | (with_reducible exact laws_markImage.mono _ _ _ _ _ _)
      | (with_reducible exact spec_GetImage.mono _ _)
      | (with_reducible exact LeO.refl _)
      | (with_reducible exact LeO.none _)
      | (with_reducible refine LeO.ite ?_ ?_)
      | (with_reducible refine LeO.bind ?_ (fun _ => ?_))
      | exact impl_GetImage.mono _ _
      | exact laws_eqImage.mono _ _ _ _ _ _ _ _ _
      | exact laws_heldImage.mono _ _ _ _ _ _
      | exact laws_markImage.mono _ _ _ _ _ _
      | exact spec_GetImage.mono _ _
      | exact LeO.none _
      | refine LeO.ite ?_ ?_
      | refine LeO.bind ?_ (fun _ => ?_)
set_option maxHeartbeats 8000000 in
set_option maxRecDepth 100000 in
theorem laws_FnExactGetImage.calls (k : Nat) (a0 : ByteArray) (r : Bool) (w : World) (h : laws_FnExactGetImage.f k a0 = some r) :
    Calls Try.prog 10 #[.string a0] w fun e w' => e = .returned (.bool r) ∧ Below w.heap.size w w' := by
  have hu33 := Try.underlying33
  have HB := Aside0.mk (Below.refl w.heap.size w)
  have H : (if (a0.size : Int) > 1048576 then (some true) else ((spec_GetImage.f k a0).bind fun bt101 => ((impl_GetImage.f k a0).bind fun bt111 => ((laws_eqImage.f k bt111.1 bt111.2.1 bt111.2.2.1 bt111.2.2.2.1 bt101.1 bt101.2.1 bt101.2.2.1 bt101.2.2.2.1).bind fun t121 => (if t121 = true then (if (bt111.2.2.2.2 != bt101.2.2.2.2) = true then (none) else ((laws_markImage.f k bt111.1 bt111.2.1 bt111.2.2.1 bt111.2.2.2.1 1).bind fun bt122 => ((laws_heldImage.f k bt122.2.1 bt111.2.1 bt111.2.2.1 bt122.2.2 1).bind fun t125 => (if t125 < 0 then (none) else (if t125 = bt122.1 then ((impl_GetImage.f k a0).bind fun bt126 => ((laws_eqImage.f k bt126.1 bt126.2.1 bt126.2.2.1 bt126.2.2.2.1 bt101.1 bt101.2.1 bt101.2.2.1 bt101.2.2.2.1).bind fun t136 => (if t136 = true then (if (bt126.2.2.2.2 != bt101.2.2.2.2) = true then (none) else ((laws_heldImage.f k bt122.2.1 bt111.2.1 bt111.2.2.1 bt122.2.2 1).bind fun t137 => (if t137 < 0 then (none) else (if t137 = bt122.1 then (some true) else (none))))) else (none)))) else (none)))))) else (none)))))) = some r := h
  clear h
  by_cases c2 : (a0.size : Int) > 1048576
  · rw [if_pos c2] at H
    have c2b0 : decide (1048576 < (a0.size : Int)) = true := decide_eq_true c2
    have c2b1 : decide (1048576 < a0.size) = true := decide_eq_true (by omega)
    clear c2
    obtain rfl := Option.some.inj H
    go_enter Try.func10, Try.ntmps10
    go_wp2
    go_ret
    exact ⟨by first | rfl | (simp [errW_none, errW_some] <;> rfl) | (simp [*, errW_none, errW_some] <;> rfl), by repeat (first | (with_reducible first | exact HB.out | apply below_alloc | apply pw_below_drewN | apply below_drew1) | exact HB.out)⟩
  · rw [if_neg c2] at H
    have c2b0 : decide (1048576 < (a0.size : Int)) = false := decide_eq_false c2
    have c2b1 : decide (1048576 < a0.size) = false := decide_eq_false (by omega)
    clear c2
    replace H := Option.bind_eq_some_iff.mp H
    obtain ⟨⟨t101, t104, t105, t106, t109⟩, A30, H⟩ := H
    replace H : ((impl_GetImage.f k a0).bind fun bt111 => ((laws_eqImage.f k bt111.1 bt111.2.1 bt111.2.2.1 bt111.2.2.2.1 t101 t104 t105 t106).bind fun t121 => (if t121 = true then (if (bt111.2.2.2.2 != t109) = true then (none) else ((laws_markImage.f k bt111.1 bt111.2.1 bt111.2.2.1 bt111.2.2.2.1 1).bind fun bt122 => ((laws_heldImage.f k bt122.2.1 bt111.2.1 bt111.2.2.1 bt122.2.2 1).bind fun t125 => (if t125 < 0 then (none) else (if t125 = bt122.1 then ((impl_GetImage.f k a0).bind fun bt126 => ((laws_eqImage.f k bt126.1 bt126.2.1 bt126.2.2.1 bt126.2.2.2.1 t101 t104 t105 t106).bind fun t136 => (if t136 = true then (if (bt126.2.2.2.2 != t109) = true then (none) else ((laws_heldImage.f k bt122.2.1 bt111.2.1 bt111.2.2.1 bt122.2.2 1).bind fun t137 => (if t137 < 0 then (none) else (if t137 = bt122.1 then (some true) else (none))))) else (none)))) else (none)))))) else (none)))) = some r := H
    have A3 := Aside0.mk A30
    clear A30
    replace H := Option.bind_eq_some_iff.mp H
    obtain ⟨⟨t111, t114, t115, t116, t119⟩, A40, H⟩ := H
    replace H : ((laws_eqImage.f k t111 t114 t115 t116 t101 t104 t105 t106).bind fun t121 => (if t121 = true then (if (t119 != t109) = true then (none) else ((laws_markImage.f k t111 t114 t115 t116 1).bind fun bt122 => ((laws_heldImage.f k bt122.2.1 t114 t115 bt122.2.2 1).bind fun t125 => (if t125 < 0 then (none) else (if t125 = bt122.1 then ((impl_GetImage.f k a0).bind fun bt126 => ((laws_eqImage.f k bt126.1 bt126.2.1 bt126.2.2.1 bt126.2.2.2.1 t101 t104 t105 t106).bind fun t136 => (if t136 = true then (if (bt126.2.2.2.2 != t109) = true then (none) else ((laws_heldImage.f k bt122.2.1 t114 t115 bt122.2.2 1).bind fun t137 => (if t137 < 0 then (none) else (if t137 = bt122.1 then (some true) else (none))))) else (none)))) else (none)))))) else (none))) = some r := H
    have A4 := Aside0.mk A40
    clear A40
    replace H := Option.bind_eq_some_iff.mp H
    obtain ⟨t121, A50, H⟩ := H
    replace H : (if t121 = true then (if (t119 != t109) = true then (none) else ((laws_markImage.f k t111 t114 t115 t116 1).bind fun bt122 => ((laws_heldImage.f k bt122.2.1 t114 t115 bt122.2.2 1).bind fun t125 => (if t125 < 0 then (none) else (if t125 = bt122.1 then ((impl_GetImage.f k a0).bind fun bt126 => ((laws_eqImage.f k bt126.1 bt126.2.1 bt126.2.2.1 bt126.2.2.2.1 t101 t104 t105 t106).bind fun t136 => (if t136 = true then (if (bt126.2.2.2.2 != t109) = true then (none) else ((laws_heldImage.f k bt122.2.1 t114 t115 bt122.2.2 1).bind fun t137 => (if t137 < 0 then (none) else (if t137 = bt122.1 then (some true) else (none))))) else (none)))) else (none)))))) else (none)) = some r := H
    have A5 := Aside0.mk A50
    clear A50
    by_cases c6 : t121 = true
    · subst c6
      have H1 : (if (t119 != t109) = true then (none) else ((laws_markImage.f k t111 t114 t115 t116 1).bind fun bt122 => ((laws_heldImage.f k bt122.2.1 t114 t115 bt122.2.2 1).bind fun t125 => (if t125 < 0 then (none) else (if t125 = bt122.1 then ((impl_GetImage.f k a0).bind fun bt126 => ((laws_eqImage.f k bt126.1 bt126.2.1 bt126.2.2.1 bt126.2.2.2.1 t101 t104 t105 t106).bind fun t136 => (if t136 = true then (if (bt126.2.2.2.2 != t109) = true then (none) else ((laws_heldImage.f k bt122.2.1 t114 t115 bt122.2.2 1).bind fun t137 => (if t137 < 0 then (none) else (if t137 = bt122.1 then (some true) else (none))))) else (none)))) else (none)))))) = some r := by rw [if_pos rfl] at H; exact H
      clear H
      have H := H1
      clear H1
      by_cases c7 : (t119 != t109) = true
      · rw [if_pos c7] at H
        exact absurd H (by simp)
      · rw [if_neg c7] at H
        have c7b0 : (t119 != t109) = false := by simpa using c7
        (try (have c7b1 : decide (t119 = t109) = true := by simpa using c7))
        (try (have c7b2 : (t119 == t109) = true := by simpa using c7))
        clear c7
        replace H := Option.bind_eq_some_iff.mp H
        obtain ⟨⟨t122, t123, t124⟩, A80, H⟩ := H
        replace H : ((laws_heldImage.f k t123 t114 t115 t124 1).bind fun t125 => (if t125 < 0 then (none) else (if t125 = t122 then ((impl_GetImage.f k a0).bind fun bt126 => ((laws_eqImage.f k bt126.1 bt126.2.1 bt126.2.2.1 bt126.2.2.2.1 t101 t104 t105 t106).bind fun t136 => (if t136 = true then (if (bt126.2.2.2.2 != t109) = true then (none) else ((laws_heldImage.f k t123 t114 t115 t124 1).bind fun t137 => (if t137 < 0 then (none) else (if t137 = t122 then (some true) else (none))))) else (none)))) else (none)))) = some r := H
        have A8 := Aside0.mk A80
        clear A80
        replace H := Option.bind_eq_some_iff.mp H
        obtain ⟨t125, A90, H⟩ := H
        replace H : (if t125 < 0 then (none) else (if t125 = t122 then ((impl_GetImage.f k a0).bind fun bt126 => ((laws_eqImage.f k bt126.1 bt126.2.1 bt126.2.2.1 bt126.2.2.2.1 t101 t104 t105 t106).bind fun t136 => (if t136 = true then (if (bt126.2.2.2.2 != t109) = true then (none) else ((laws_heldImage.f k t123 t114 t115 t124 1).bind fun t137 => (if t137 < 0 then (none) else (if t137 = t122 then (some true) else (none))))) else (none)))) else (none))) = some r := H
        have A9 := Aside0.mk A90
        clear A90
        by_cases c10 : t125 < 0
        · rw [if_pos c10] at H
          exact absurd H (by simp)
        · rw [if_neg c10] at H
          have c10b0 : decide (t125 < 0) = false := decide_eq_false c10
          clear c10
          by_cases c11 : t125 = t122
          · rw [if_pos c11] at H
            have c11b0 : (t125 == t122) = true := beq_iff_eq.mpr c11
            have c11b1 : (t125 != t122) = false := bne_eq_false_iff_eq.mpr c11
            clear c11
            replace H := Option.bind_eq_some_iff.mp H
            obtain ⟨⟨t126, t129, t130, t131, t134⟩, A120, H⟩ := H
            replace H : ((laws_eqImage.f k t126 t129 t130 t131 t101 t104 t105 t106).bind fun t136 => (if t136 = true then (if (t134 != t109) = true then (none) else ((laws_heldImage.f k t123 t114 t115 t124 1).bind fun t137 => (if t137 < 0 then (none) else (if t137 = t122 then (some true) else (none))))) else (none))) = some r := H
            have A12 := Aside0.mk A120
            clear A120
            replace H := Option.bind_eq_some_iff.mp H
            obtain ⟨t136, A130, H⟩ := H
            replace H : (if t136 = true then (if (t134 != t109) = true then (none) else ((laws_heldImage.f k t123 t114 t115 t124 1).bind fun t137 => (if t137 < 0 then (none) else (if t137 = t122 then (some true) else (none))))) else (none)) = some r := H
            have A13 := Aside0.mk A130
            clear A130
            by_cases c14 : t136 = true
            · subst c14
              have H1 : (if (t134 != t109) = true then (none) else ((laws_heldImage.f k t123 t114 t115 t124 1).bind fun t137 => (if t137 < 0 then (none) else (if t137 = t122 then (some true) else (none))))) = some r := by rw [if_pos rfl] at H; exact H
              clear H
              have H := H1
              clear H1
              by_cases c15 : (t134 != t109) = true
              · rw [if_pos c15] at H
                exact absurd H (by simp)
              · rw [if_neg c15] at H
                have c15b0 : (t134 != t109) = false := by simpa using c15
                (try (have c15b1 : decide (t134 = t109) = true := by simpa using c15))
                (try (have c15b2 : (t134 == t109) = true := by simpa using c15))
                clear c15
                replace H := Option.bind_eq_some_iff.mp H
                obtain ⟨t137, A160, H⟩ := H
                replace H : (if t137 < 0 then (none) else (if t137 = t122 then (some true) else (none))) = some r := H
                have A16 := Aside0.mk A160
                clear A160
                by_cases c17 : t137 < 0
                · rw [if_pos c17] at H
                  exact absurd H (by simp)
                · rw [if_neg c17] at H
                  have c17b0 : decide (t137 < 0) = false := decide_eq_false c17
                  clear c17
                  by_cases c18 : t137 = t122
                  · rw [if_pos c18] at H
                    have c18b0 : (t137 == t122) = true := beq_iff_eq.mpr c18
                    have c18b1 : (t137 != t122) = false := bne_eq_false_iff_eq.mpr c18
                    clear c18
                    obtain rfl := Option.some.inj H
                    go_enter Try.func10, Try.ntmps10
                    go_wp2_with (first | ((with_reducible refine gate_callee (f := 35) rfl ?_); refine goesL_ (some 16) rfl rfl Try.func35 (by kernel_rfl) rfl #[.string a0] rfl (by (try simp only [List.map_toArray, List.map_cons, List.map_nil]); first | done | rfl | (simp only [List.length_drop, List.length_take]; rfl)) ?_; (with_reducible refine (spec_GetImage.calls k a0 t101 t104 t105 t106 t109 _ A3.out).mono ?_); rintro e w19 ⟨v102, v107, rfl, ho0, ho1, hb⟩; refine ⟨_, rfl, ?_⟩; have n0_ := Aside0.mk (Kd.R_lower ho0 (below_size (by repeat (first | (with_reducible first | exact HB.out | apply below_alloc | apply pw_below_drewN | apply below_drew1) | exact HB.out)))); have n1_ := Aside0.mk (Kd.R_lower ho1 (below_size (by repeat (first | (with_reducible first | exact HB.out | apply below_alloc | apply pw_below_drewN | apply below_drew1) | exact HB.out)))); have n2_ := Aside0.mk (below_step (by repeat (first | (with_reducible first | exact HB.out | apply below_alloc | apply pw_below_drewN | apply below_drew1) | exact HB.out)) hb); clear HB; have HO103 := n0_; have HO108 := n1_; have HB := n2_; clear n0_ n1_ n2_; (try clear hb); (try clear hb2); (try clear hk); (try clear hi); (try clear ho0); (try clear ho1)) | ((with_reducible refine gate_dst (N := 3) rfl ?_); refine box_event ?hg (N := 3) ?hd (cs := #[.slice none 0 0, .int .i64 0, .int .i64 0, .slice none 0 0]) (t := 33) ?hr ?_; (case hd => rfl); (case hg => rfl); (case hr => first | (go_simp; done) | (go_simp; rfl)); intro gb110 hg w20 hbox hb; have n0_ := Aside0.mk (Kd.R_below (by (with_reducible repeat (first | apply Kd.R_alloc | apply Kd.R_drewN | apply Kd.R_drew)); exact HO103.out) hb); have n1_ := Aside0.mk (Kd.R_below (by (with_reducible repeat (first | apply Kd.R_alloc | apply Kd.R_drewN | apply Kd.R_drew)); exact HO108.out) hb); have n2_ := Aside0.mk (below_step (by repeat (first | (with_reducible first | exact HB.out | apply below_alloc | apply pw_below_drewN | apply below_drew1) | exact HB.out)) hb); have n3_ := Aside0.mk (hbox); have n4_ := Aside0.mk ((by rw [hg]; exact (below_size (by repeat (first | (with_reducible first | exact HB.out | apply below_alloc | apply pw_below_drewN | apply below_drew1) | exact HB.out))) : w.heap.size ≤ gb110)); have n5_ := Aside0.mk ((by rw [hg]; exact (below_size (by repeat (first | (with_reducible first | exact HB.out | apply below_alloc | apply pw_below_drewN | apply below_drew1) | exact HB.out))) : w.heap.size ≤ gb110)); clear HO103; clear HO108; clear HB; have HO103 := n0_; have HO108 := n1_; have HB := n2_; have BK110 := n3_; have GW110 := n4_; have GE110 := n5_; clear n0_ n1_ n2_ n3_ n4_ n5_; clear hb hbox hg; obtain ⟨Ao21, co21, eo21⟩ := Kd.R_slice HO103.out; subst eo21; have hcz22_0 : w20.cell? ⟨gb110, 0, none⟩ = some (.slice none 0 0) := (blk_cell BK110.out 0).trans rfl; have hcz22_1 : w20.cell? ⟨gb110, 1, none⟩ = some (.int .i64 0) := (blk_cell BK110.out 1).trans rfl; have hcz22_2 : w20.cell? ⟨gb110, 2, none⟩ = some (.int .i64 0) := (blk_cell BK110.out 2).trans rfl; have hcz22_3 : w20.cell? ⟨gb110, 3, none⟩ = some (.slice none 0 0) := (blk_cell BK110.out 3).trans rfl; have hfz22_0 := blk_frozen BK110.out 0; have hfz22_1 := blk_frozen BK110.out 1; have hfz22_2 := blk_frozen BK110.out 2; have hfz22_3 := blk_frozen BK110.out 3; obtain ⟨Ao23, co23, eo23⟩ := Kd.R_slice HO108.out; subst eo23) | ((with_reducible refine gate_callee (f := 36) rfl ?_); refine goesL_ (some 21) rfl rfl Try.func36 (by kernel_rfl) rfl #[.string a0] rfl (by (try simp only [List.map_toArray, List.map_cons, List.map_nil]); first | done | rfl | (simp only [List.length_drop, List.length_take]; rfl)) ?_; (with_reducible refine (impl_GetImage.calls k a0 t111 t114 t115 t116 t119 _ A4.out).mono ?_); rintro e w24 ⟨v112, v117, rfl, ho0, ho1, hb⟩; refine ⟨_, rfl, ?_⟩; have n0_ := Aside0.mk (Kd.R_elder' (by (with_reducible repeat (first | apply Kd.R_alloc | apply Kd.R_drewN | apply Kd.R_drew)); exact (Kd.R_mono (Kd.R_far (p := ⟨gb110, 3, none⟩) (Kd.R_far (p := ⟨gb110, 2, none⟩) (Kd.R_far (p := ⟨gb110, 1, none⟩) (Kd.R_far (p := ⟨gb110, 0, none⟩) (Kd.R_types HO103.out BK110.out (by decide)) (fun _ hk => hk.2) (.slice Ao21 t101.length co21)) (fun _ hk => hk.2) (.int .i64 t104)) (fun _ hk => hk.2) (.int .i64 t105)) (fun _ hk => hk.2) (.slice Ao23 t106.length co23)) (fun _ h_ => h_.1))) (Kd.R_base ho0) hb); have n1_ := Aside0.mk (Kd.R_elder' (by (with_reducible repeat (first | apply Kd.R_alloc | apply Kd.R_drewN | apply Kd.R_drew)); exact (Kd.R_mono (Kd.R_far (p := ⟨gb110, 3, none⟩) (Kd.R_far (p := ⟨gb110, 2, none⟩) (Kd.R_far (p := ⟨gb110, 1, none⟩) (Kd.R_far (p := ⟨gb110, 0, none⟩) (Kd.R_types HO108.out BK110.out (by decide)) (fun _ hk => hk.2) (.slice Ao21 t101.length co21)) (fun _ hk => hk.2) (.int .i64 t104)) (fun _ hk => hk.2) (.int .i64 t105)) (fun _ hk => hk.2) (.slice Ao23 t106.length co23)) (fun _ h_ => h_.1))) (Kd.R_base ho1) hb); have n2_ := Aside0.mk (Kd.R_lower (Kd.R_new' ho0 (Kd.R_lt (by (with_reducible repeat (first | apply Kd.R_alloc | apply Kd.R_drewN | apply Kd.R_drew)); exact (Kd.R_mono (Kd.R_far (p := ⟨gb110, 3, none⟩) (Kd.R_far (p := ⟨gb110, 2, none⟩) (Kd.R_far (p := ⟨gb110, 1, none⟩) (Kd.R_far (p := ⟨gb110, 0, none⟩) (Kd.R_types HO103.out BK110.out (by decide)) (fun _ hk => hk.2) (.slice Ao21 t101.length co21)) (fun _ hk => hk.2) (.int .i64 t104)) (fun _ hk => hk.2) (.int .i64 t105)) (fun _ hk => hk.2) (.slice Ao23 t106.length co23)) (fun _ h_ => h_.1))))) (below_size (by repeat (first | (with_reducible first | exact HB.out | apply below_alloc | apply pw_below_drewN | apply below_drew1 | refine below_set ?_ GE110.out) | exact HB.out)))); have n3_ := Aside0.mk (Kd.R_lower (Kd.R_new' ho1 (Kd.R_lt (by (with_reducible repeat (first | apply Kd.R_alloc | apply Kd.R_drewN | apply Kd.R_drew)); exact (Kd.R_mono (Kd.R_far (p := ⟨gb110, 3, none⟩) (Kd.R_far (p := ⟨gb110, 2, none⟩) (Kd.R_far (p := ⟨gb110, 1, none⟩) (Kd.R_far (p := ⟨gb110, 0, none⟩) (Kd.R_types HO108.out BK110.out (by decide)) (fun _ hk => hk.2) (.slice Ao21 t101.length co21)) (fun _ hk => hk.2) (.int .i64 t104)) (fun _ hk => hk.2) (.int .i64 t105)) (fun _ hk => hk.2) (.slice Ao23 t106.length co23)) (fun _ h_ => h_.1))))) (below_size (by repeat (first | (with_reducible first | exact HB.out | apply below_alloc | apply pw_below_drewN | apply below_drew1 | refine below_set ?_ GE110.out) | exact HB.out)))); have n4_ := Aside0.mk (blk_below (g := gb110) (o := .cells #[.slice Ao21 t101.length co21, .int .i64 t104, .int .i64 t105, .slice Ao23 t106.length co23] 33 (0, 0)) (by (with_reducible repeat (first | refine blk_drewN ?_ _ | refine blk_drew ?_ | refine blk_alloc ?_ _)); refine blk_put (cs := #[.slice Ao21 t101.length co21, .int .i64 t104, .int .i64 t105, .slice none 0 0]) ?_ 3 _ rfl; (with_reducible repeat (first | refine blk_drewN ?_ _ | refine blk_drew ?_ | refine blk_alloc ?_ _)); refine blk_put (cs := #[.slice Ao21 t101.length co21, .int .i64 t104, .int .i64 0, .slice none 0 0]) ?_ 2 _ rfl; (with_reducible repeat (first | refine blk_drewN ?_ _ | refine blk_drew ?_ | refine blk_alloc ?_ _)); refine blk_put (cs := #[.slice Ao21 t101.length co21, .int .i64 0, .int .i64 0, .slice none 0 0]) ?_ 1 _ rfl; (with_reducible repeat (first | refine blk_drewN ?_ _ | refine blk_drew ?_ | refine blk_alloc ?_ _)); refine blk_put (cs := #[.slice none 0 0, .int .i64 0, .int .i64 0, .slice none 0 0]) ?_ 0 _ rfl; (with_reducible repeat (first | refine blk_drewN ?_ _ | refine blk_drew ?_ | refine blk_alloc ?_ _)); exact BK110.out) hb); have n5_ := Aside0.mk (below_step (by repeat (first | (with_reducible first | exact HB.out | apply below_alloc | apply pw_below_drewN | apply below_drew1 | refine below_set ?_ GE110.out) | exact HB.out)) hb); clear HO103; clear HO108; clear BK110; clear HB; have HO103 := n0_; have HO108 := n1_; have HO113 := n2_; have HO118 := n3_; have BK110 := n4_; have HB := n5_; clear n0_ n1_ n2_ n3_ n4_ n5_; (try clear hb); (try clear hb2); (try clear hk); (try clear hi); (try clear ho0); (try clear ho1)) | ((with_reducible refine gate_dst (N := 5) rfl ?_); refine box_event ?hg (N := 5) ?hd (cs := #[.slice none 0 0, .int .i64 0, .int .i64 0, .slice none 0 0]) (t := 33) ?hr ?_; (case hd => rfl); (case hg => rfl); (case hr => first | (go_simp; done) | (go_simp; rfl)); intro gb120 hg w25 hbox hb; have n0_ := Aside0.mk (Kd.R_below (by (with_reducible repeat (first | apply Kd.R_alloc | apply Kd.R_drewN | apply Kd.R_drew)); exact HO103.out) hb); have n1_ := Aside0.mk (Kd.R_below (by (with_reducible repeat (first | apply Kd.R_alloc | apply Kd.R_drewN | apply Kd.R_drew)); exact HO108.out) hb); have n2_ := Aside0.mk (Kd.R_below (by (with_reducible repeat (first | apply Kd.R_alloc | apply Kd.R_drewN | apply Kd.R_drew)); exact HO113.out) hb); have n3_ := Aside0.mk (Kd.R_below (by (with_reducible repeat (first | apply Kd.R_alloc | apply Kd.R_drewN | apply Kd.R_drew)); exact HO118.out) hb); have n4_ := Aside0.mk (blk_below (g := gb110) (o := .cells #[.slice Ao21 t101.length co21, .int .i64 t104, .int .i64 t105, .slice Ao23 t106.length co23] 33 (0, 0)) (by (with_reducible repeat (first | refine blk_drewN ?_ _ | refine blk_drew ?_ | refine blk_alloc ?_ _)); exact BK110.out) hb); have n5_ := Aside0.mk (below_step (by repeat (first | (with_reducible first | exact HB.out | apply below_alloc | apply pw_below_drewN | apply below_drew1 | refine below_set ?_ GE110.out) | exact HB.out)) hb); have n6_ := Aside0.mk (hbox); have n7_ := Aside0.mk ((by rw [hg]; exact (below_size (by repeat (first | (with_reducible first | exact HB.out | apply below_alloc | apply pw_below_drewN | apply below_drew1 | refine below_set ?_ GE110.out) | exact HB.out))) : w.heap.size ≤ gb120)); have n8_ := Aside0.mk ((by rw [hg]; exact (below_size (by repeat (first | (with_reducible first | exact HB.out | apply below_alloc | apply pw_below_drewN | apply below_drew1 | refine below_set ?_ GE110.out) | exact HB.out))) : w.heap.size ≤ gb120)); have n9_ := Aside0.mk ((by rw [hg]; exact Nat.ne_of_lt (blk_lt (g := gb110) (o := .cells #[.slice Ao21 t101.length co21, .int .i64 t104, .int .i64 t105, .slice Ao23 t106.length co23] 33 (0, 0)) (by (with_reducible repeat (first | refine blk_drewN ?_ _ | refine blk_drew ?_ | refine blk_alloc ?_ _)); exact BK110.out)) : gb110 ≠ gb120)); have n10_ := Aside0.mk ((by rw [hg]; exact Nat.ne_of_gt (blk_lt (g := gb110) (o := .cells #[.slice Ao21 t101.length co21, .int .i64 t104, .int .i64 t105, .slice Ao23 t106.length co23] 33 (0, 0)) (by (with_reducible repeat (first | refine blk_drewN ?_ _ | refine blk_drew ?_ | refine blk_alloc ?_ _)); exact BK110.out)) : gb120 ≠ gb110)); clear HO103; clear HO108; clear HO113; clear HO118; clear BK110; clear HB; have HO103 := n0_; have HO108 := n1_; have HO113 := n2_; have HO118 := n3_; have BK110 := n4_; have HB := n5_; have BK120 := n6_; have GW120 := n7_; have GE120 := n8_; have NB110_120 := n9_; have NB120_110 := n10_; clear n0_ n1_ n2_ n3_ n4_ n5_ n6_ n7_ n8_ n9_ n10_; clear hb hbox hg; obtain ⟨Ao26, co26, eo26⟩ := Kd.R_slice HO113.out; subst eo26; have hnb27 := NB120_110.out; have hnc27 := NB110_120.out; have hcz28_0 : w25.cell? ⟨gb120, 0, none⟩ = some (.slice none 0 0) := (blk_cell BK120.out 0).trans rfl; have hcz28_1 : w25.cell? ⟨gb120, 1, none⟩ = some (.int .i64 0) := (blk_cell BK120.out 1).trans rfl; have hcz28_2 : w25.cell? ⟨gb120, 2, none⟩ = some (.int .i64 0) := (blk_cell BK120.out 2).trans rfl; have hcz28_3 : w25.cell? ⟨gb120, 3, none⟩ = some (.slice none 0 0) := (blk_cell BK120.out 3).trans rfl; have hfz28_0 := blk_frozen BK120.out 0; have hfz28_1 := blk_frozen BK120.out 1; have hfz28_2 := blk_frozen BK120.out 2; have hfz28_3 := blk_frozen BK120.out 3; obtain ⟨Ao29, co29, eo29⟩ := Kd.R_slice HO118.out; subst eo29; have hcz30_0 : w25.cell? ⟨gb110, 0, none⟩ = some (.slice Ao21 t101.length co21) := (blk_cell BK110.out 0).trans rfl; have hcz30_1 : w25.cell? ⟨gb110, 1, none⟩ = some (.int .i64 t104) := (blk_cell BK110.out 1).trans rfl; have hcz30_2 : w25.cell? ⟨gb110, 2, none⟩ = some (.int .i64 t105) := (blk_cell BK110.out 2).trans rfl; have hcz30_3 : w25.cell? ⟨gb110, 3, none⟩ = some (.slice Ao23 t106.length co23) := (blk_cell BK110.out 3).trans rfl; have hfz30_0 := blk_frozen BK110.out 0; have hfz30_1 := blk_frozen BK110.out 1; have hfz30_2 := blk_frozen BK110.out 2; have hfz30_3 := blk_frozen BK110.out 3) | ((with_reducible refine gate_callee (f := 17) rfl ?_); refine goesL_ (some 26) rfl rfl Try.func17 (by kernel_rfl) rfl #[.agg #[.slice Ao26 t111.length co26, .int .i64 t114, .int .i64 t115, .slice Ao29 t116.length co29], .agg #[.slice Ao21 t101.length co21, .int .i64 t104, .int .i64 t105, .slice Ao23 t106.length co23]] rfl (by (try simp only [List.map_toArray, List.map_cons, List.map_nil]); first | done | rfl | (simp only [List.length_drop, List.length_take]; rfl)) ?_; (with_reducible refine (laws_eqImage.calls k _ _ t111 t114 t115 _ _ t116 _ _ t101 t104 t105 _ _ t106 true _ ?side1 ?side2 ?side3 ?side4 ?side5 ?side6 ?side7 ?side8 A5.out).mono ?_); (case side1 => refine (Kd.R_reads' (e := 3) (base := w.heap.size) (ok := fun k_ => (True ∧ some k_ ≠ (.slice Ao21 t101.length co21 : Value).ownBlock)) (n := t111.length) (c := co26) ?_).2.2; exact (by (with_reducible repeat (first | apply Kd.R_alloc | apply Kd.R_drewN | apply Kd.R_drew)); exact (Kd.R_mono (Kd.R_far (p := ⟨gb120, 3, none⟩) (Kd.R_far (p := ⟨gb120, 2, none⟩) (Kd.R_far (p := ⟨gb120, 1, none⟩) (Kd.R_far (p := ⟨gb120, 0, none⟩) (Kd.R_types HO113.out BK120.out (by decide)) (fun _ hk => hk.2) (.slice Ao26 t111.length co26)) (fun _ hk => hk.2) (.int .i64 t114)) (fun _ hk => hk.2) (.int .i64 t115)) (fun _ hk => hk.2) (.slice Ao29 t116.length co29)) (fun _ h_ => h_.1)))); (case side2 => exact (Kd.R_reads' HO113.out).2.1); (case side3 => refine (Kd.R_reads' (e := 59) (base := w.heap.size) (ok := fun k_ => (True ∧ some k_ ≠ (.slice Ao23 t106.length co23 : Value).ownBlock)) (n := t116.length) (c := co29) ?_).2.2; exact (by (with_reducible repeat (first | apply Kd.R_alloc | apply Kd.R_drewN | apply Kd.R_drew)); exact (Kd.R_mono (Kd.R_far (p := ⟨gb120, 3, none⟩) (Kd.R_far (p := ⟨gb120, 2, none⟩) (Kd.R_far (p := ⟨gb120, 1, none⟩) (Kd.R_far (p := ⟨gb120, 0, none⟩) (Kd.R_types HO118.out BK120.out (by decide)) (fun _ hk => hk.2) (.slice Ao26 t111.length co26)) (fun _ hk => hk.2) (.int .i64 t114)) (fun _ hk => hk.2) (.int .i64 t115)) (fun _ hk => hk.2) (.slice Ao29 t116.length co29)) (fun _ h_ => h_.1)))); (case side4 => exact (Kd.R_reads' HO118.out).2.1); (case side5 => refine (Kd.R_reads' (e := 3) (base := w.heap.size) (ok := fun k_ => (True ∧ some k_ ≠ (.slice Ao26 t111.length co26 : Value).ownBlock)) (n := t101.length) (c := co21) ?_).2.2; exact (by (with_reducible repeat (first | apply Kd.R_alloc | apply Kd.R_drewN | apply Kd.R_drew)); exact (Kd.R_mono (Kd.R_far (p := ⟨gb120, 3, none⟩) (Kd.R_far (p := ⟨gb120, 2, none⟩) (Kd.R_far (p := ⟨gb120, 1, none⟩) (Kd.R_far (p := ⟨gb120, 0, none⟩) (Kd.R_types HO103.out BK120.out (by decide)) (fun _ hk => hk.2) (.slice Ao26 t111.length co26)) (fun _ hk => hk.2) (.int .i64 t114)) (fun _ hk => hk.2) (.int .i64 t115)) (fun _ hk => hk.2) (.slice Ao29 t116.length co29)) (fun _ h_ => h_.1)))); (case side6 => exact (Kd.R_reads' HO103.out).2.1); (case side7 => refine (Kd.R_reads' (e := 59) (base := w.heap.size) (ok := fun k_ => (True ∧ some k_ ≠ (.slice Ao29 t116.length co29 : Value).ownBlock)) (n := t106.length) (c := co23) ?_).2.2; exact (by (with_reducible repeat (first | apply Kd.R_alloc | apply Kd.R_drewN | apply Kd.R_drew)); exact (Kd.R_mono (Kd.R_far (p := ⟨gb120, 3, none⟩) (Kd.R_far (p := ⟨gb120, 2, none⟩) (Kd.R_far (p := ⟨gb120, 1, none⟩) (Kd.R_far (p := ⟨gb120, 0, none⟩) (Kd.R_types HO108.out BK120.out (by decide)) (fun _ hk => hk.2) (.slice Ao26 t111.length co26)) (fun _ hk => hk.2) (.int .i64 t114)) (fun _ hk => hk.2) (.int .i64 t115)) (fun _ hk => hk.2) (.slice Ao29 t116.length co29)) (fun _ h_ => h_.1)))); (case side8 => exact (Kd.R_reads' HO108.out).2.1); rintro e w31 ⟨rfl, hb⟩; refine ⟨_, rfl, ?_⟩; have n0_ := Aside0.mk (Kd.R_below (by (with_reducible repeat (first | apply Kd.R_alloc | apply Kd.R_drewN | apply Kd.R_drew)); exact (Kd.R_mono (Kd.R_far (p := ⟨gb120, 3, none⟩) (Kd.R_far (p := ⟨gb120, 2, none⟩) (Kd.R_far (p := ⟨gb120, 1, none⟩) (Kd.R_far (p := ⟨gb120, 0, none⟩) (Kd.R_types HO103.out BK120.out (by decide)) (fun _ hk => hk.2) (.slice Ao26 t111.length co26)) (fun _ hk => hk.2) (.int .i64 t114)) (fun _ hk => hk.2) (.int .i64 t115)) (fun _ hk => hk.2) (.slice Ao29 t116.length co29)) (fun _ h_ => h_.1))) hb); have n1_ := Aside0.mk (Kd.R_below (by (with_reducible repeat (first | apply Kd.R_alloc | apply Kd.R_drewN | apply Kd.R_drew)); exact (Kd.R_mono (Kd.R_far (p := ⟨gb120, 3, none⟩) (Kd.R_far (p := ⟨gb120, 2, none⟩) (Kd.R_far (p := ⟨gb120, 1, none⟩) (Kd.R_far (p := ⟨gb120, 0, none⟩) (Kd.R_types HO108.out BK120.out (by decide)) (fun _ hk => hk.2) (.slice Ao26 t111.length co26)) (fun _ hk => hk.2) (.int .i64 t114)) (fun _ hk => hk.2) (.int .i64 t115)) (fun _ hk => hk.2) (.slice Ao29 t116.length co29)) (fun _ h_ => h_.1))) hb); have n2_ := Aside0.mk (Kd.R_below (by (with_reducible repeat (first | apply Kd.R_alloc | apply Kd.R_drewN | apply Kd.R_drew)); exact (Kd.R_mono (Kd.R_far (p := ⟨gb120, 3, none⟩) (Kd.R_far (p := ⟨gb120, 2, none⟩) (Kd.R_far (p := ⟨gb120, 1, none⟩) (Kd.R_far (p := ⟨gb120, 0, none⟩) (Kd.R_types HO113.out BK120.out (by decide)) (fun _ hk => hk.2) (.slice Ao26 t111.length co26)) (fun _ hk => hk.2) (.int .i64 t114)) (fun _ hk => hk.2) (.int .i64 t115)) (fun _ hk => hk.2) (.slice Ao29 t116.length co29)) (fun _ h_ => h_.1))) hb); have n3_ := Aside0.mk (Kd.R_below (by (with_reducible repeat (first | apply Kd.R_alloc | apply Kd.R_drewN | apply Kd.R_drew)); exact (Kd.R_mono (Kd.R_far (p := ⟨gb120, 3, none⟩) (Kd.R_far (p := ⟨gb120, 2, none⟩) (Kd.R_far (p := ⟨gb120, 1, none⟩) (Kd.R_far (p := ⟨gb120, 0, none⟩) (Kd.R_types HO118.out BK120.out (by decide)) (fun _ hk => hk.2) (.slice Ao26 t111.length co26)) (fun _ hk => hk.2) (.int .i64 t114)) (fun _ hk => hk.2) (.int .i64 t115)) (fun _ hk => hk.2) (.slice Ao29 t116.length co29)) (fun _ h_ => h_.1))) hb); have n4_ := Aside0.mk (blk_below (g := gb110) (o := .cells #[.slice Ao21 t101.length co21, .int .i64 t104, .int .i64 t105, .slice Ao23 t106.length co23] 33 (0, 0)) (by (with_reducible repeat (first | refine blk_drewN ?_ _ | refine blk_drew ?_ | refine blk_alloc ?_ _)); refine blk_far ?_ NB110_120.out _; (with_reducible repeat (first | refine blk_drewN ?_ _ | refine blk_drew ?_ | refine blk_alloc ?_ _)); refine blk_far ?_ NB110_120.out _; (with_reducible repeat (first | refine blk_drewN ?_ _ | refine blk_drew ?_ | refine blk_alloc ?_ _)); refine blk_far ?_ NB110_120.out _; (with_reducible repeat (first | refine blk_drewN ?_ _ | refine blk_drew ?_ | refine blk_alloc ?_ _)); refine blk_far ?_ NB110_120.out _; (with_reducible repeat (first | refine blk_drewN ?_ _ | refine blk_drew ?_ | refine blk_alloc ?_ _)); exact BK110.out) hb); have n5_ := Aside0.mk (blk_below (g := gb120) (o := .cells #[.slice Ao26 t111.length co26, .int .i64 t114, .int .i64 t115, .slice Ao29 t116.length co29] 33 (0, 0)) (by (with_reducible repeat (first | refine blk_drewN ?_ _ | refine blk_drew ?_ | refine blk_alloc ?_ _)); refine blk_put (cs := #[.slice Ao26 t111.length co26, .int .i64 t114, .int .i64 t115, .slice none 0 0]) ?_ 3 _ rfl; (with_reducible repeat (first | refine blk_drewN ?_ _ | refine blk_drew ?_ | refine blk_alloc ?_ _)); refine blk_put (cs := #[.slice Ao26 t111.length co26, .int .i64 t114, .int .i64 0, .slice none 0 0]) ?_ 2 _ rfl; (with_reducible repeat (first | refine blk_drewN ?_ _ | refine blk_drew ?_ | refine blk_alloc ?_ _)); refine blk_put (cs := #[.slice Ao26 t111.length co26, .int .i64 0, .int .i64 0, .slice none 0 0]) ?_ 1 _ rfl; (with_reducible repeat (first | refine blk_drewN ?_ _ | refine blk_drew ?_ | refine blk_alloc ?_ _)); refine blk_put (cs := #[.slice none 0 0, .int .i64 0, .int .i64 0, .slice none 0 0]) ?_ 0 _ rfl; (with_reducible repeat (first | refine blk_drewN ?_ _ | refine blk_drew ?_ | refine blk_alloc ?_ _)); exact BK120.out) hb); have n6_ := Aside0.mk (below_step (by repeat (first | (with_reducible first | exact HB.out | apply below_alloc | apply pw_below_drewN | apply below_drew1 | refine below_set ?_ GE110.out | refine below_set ?_ GE120.out) | exact HB.out)) hb); clear HO103; clear HO108; clear HO113; clear HO118; clear BK110; clear BK120; clear HB; have HO103 := n0_; have HO108 := n1_; have HO113 := n2_; have HO118 := n3_; have BK110 := n4_; have BK120 := n5_; have HB := n6_; clear n0_ n1_ n2_ n3_ n4_ n5_ n6_; (try clear hb); (try clear hb2); (try clear hk); (try clear hi); have hcz32_0 : w31.cell? ⟨gb120, 0, none⟩ = some (.slice Ao26 t111.length co26) := (blk_cell BK120.out 0).trans rfl; have hcz32_1 : w31.cell? ⟨gb120, 1, none⟩ = some (.int .i64 t114) := (blk_cell BK120.out 1).trans rfl; have hcz32_2 : w31.cell? ⟨gb120, 2, none⟩ = some (.int .i64 t115) := (blk_cell BK120.out 2).trans rfl; have hcz32_3 : w31.cell? ⟨gb120, 3, none⟩ = some (.slice Ao29 t116.length co29) := (blk_cell BK120.out 3).trans rfl; have hfz32_0 := blk_frozen BK120.out 0; have hfz32_1 := blk_frozen BK120.out 1; have hfz32_2 := blk_frozen BK120.out 2; have hfz32_3 := blk_frozen BK120.out 3) | ((with_reducible refine gate_callee (f := 32) rfl ?_); refine goesL_ (some 35) rfl rfl Try.func32 (by kernel_rfl) rfl #[.agg #[.slice Ao26 t111.length co26, .int .i64 t114, .int .i64 t115, .slice Ao29 t116.length co29], .int .i64 1] rfl (by (try simp only [List.map_toArray, List.map_cons, List.map_nil]); first | done | rfl | (simp only [List.length_drop, List.length_take]; rfl)) ?_; (with_reducible refine (laws_markImage.calls k (fun k_ => some k_ = (.slice Ao26 t111.length co26 : Value).ownBlock) (.slice Ao26 t111.length co26) t111 t114 t115 (fun k_ => some k_ = (.slice Ao29 t116.length co29 : Value).ownBlock) (.slice Ao29 t116.length co29) t116 1 t122 t123 t124 w _ ?side1 ?side2 ?side3 A8.out).mono ?_); (case side1 => repeat (first | (with_reducible first | exact HB.out | apply below_alloc | apply pw_below_drewN | apply below_drew1 | refine below_set ?_ GE110.out | refine below_set ?_ GE120.out) | exact HB.out)); (case side2 => exact Kd.R_tight rfl HO113.out); (case side3 => exact Kd.R_tight rfl HO118.out); rintro e w33 ⟨rfl, hy0, hy1, hb, hkp⟩; refine ⟨_, rfl, ?_⟩; have n0_ := Aside0.mk (Kd.R_mono (ok' := fun k_ => some k_ ≠ (.slice Ao26 t111.length co26 : Value).ownBlock) (Kd.R_keptB ((Kd.R_apart' HO103.out (Kd.R_typed HO118.out) (by decide))) hkp (fun k_ hk_ hs_ => Or.elim hs_ (fun e_ => (hk_.1.2) e_) (fun e_ => (hk_.2) e_))) (fun k_ hk_ => hk_.1.1.2)); have n1_ := Aside0.mk (Kd.R_mono (ok' := fun k_ => some k_ ≠ (.slice Ao29 t116.length co29 : Value).ownBlock) (Kd.R_keptB ((Kd.R_apart' HO108.out (Kd.R_typed HO113.out) (by decide))) hkp (fun k_ hk_ hs_ => Or.elim hs_ (fun e_ => (hk_.2) e_) (fun e_ => (hk_.1.2) e_))) (fun k_ hk_ => hk_.1.1.2)); have n2_ := Aside0.mk (blk_kept (by (with_reducible repeat (first | refine blk_drewN ?_ _ | refine blk_drew ?_ | refine blk_alloc ?_ _)); exact BK110.out) hkp (fun hs_ => Or.elim hs_ (fun e_ => (fun e_ => (Kd.R_ne HO113.out BK110.out (by decide)) e_) e_) (fun e_ => (fun e_ => (Kd.R_ne HO118.out BK110.out (by decide)) e_) e_))); have n3_ := Aside0.mk (Kd.R_reok rfl hy0 (fun k_ e_ => HO113.out.1 k_ e_)); have n4_ := Aside0.mk (Kd.R_reok rfl hy1 (fun k_ e_ => HO118.out.1 k_ e_)); have n5_ := Aside0.mk (blk_kept (by (with_reducible repeat (first | refine blk_drewN ?_ _ | refine blk_drew ?_ | refine blk_alloc ?_ _)); exact BK120.out) hkp (fun hs_ => Or.elim hs_ (fun e_ => (fun e_ => (Kd.R_ne HO113.out BK120.out (by decide)) e_) e_) (fun e_ => (fun e_ => (Kd.R_ne HO118.out BK120.out (by decide)) e_) e_))); have n6_ := Aside0.mk (hb); clear HO103; clear HO108; clear BK110; clear HO113; clear HO118; clear BK120; clear HB; have HO103 := n0_; have HO108 := n1_; have BK110 := n2_; have HO113 := n3_; have HO118 := n4_; have BK120 := n5_; have HB := n6_; clear n0_ n1_ n2_ n3_ n4_ n5_ n6_; (try clear hb); (try clear hkp); (try clear hy0); (try clear hy1); have hcz34_0 : w33.cell? ⟨gb120, 0, none⟩ = some (.slice Ao26 t111.length co26) := (blk_cell BK120.out 0).trans rfl; have hcz34_1 : w33.cell? ⟨gb120, 1, none⟩ = some (.int .i64 t114) := (blk_cell BK120.out 1).trans rfl; have hcz34_2 : w33.cell? ⟨gb120, 2, none⟩ = some (.int .i64 t115) := (blk_cell BK120.out 2).trans rfl; have hcz34_3 : w33.cell? ⟨gb120, 3, none⟩ = some (.slice Ao29 t116.length co29) := (blk_cell BK120.out 3).trans rfl; have hfz34_0 := blk_frozen BK120.out 0; have hfz34_1 := blk_frozen BK120.out 1; have hfz34_2 := blk_frozen BK120.out 2; have hfz34_3 := blk_frozen BK120.out 3) | ((with_reducible refine gate_callee (f := 37) rfl ?_); refine goesL_ (some 38) rfl rfl Try.func37 (by kernel_rfl) rfl #[.agg #[.slice Ao26 t123.length co26, .int .i64 t114, .int .i64 t115, .slice Ao29 t124.length co29], .int .i64 1] rfl (by (try simp only [List.map_toArray, List.map_cons, List.map_nil]); first | done | (rw [show t123.length = t111.length from (Kd.R_reads' HO113.out).1.symm, show t124.length = t116.length from (Kd.R_reads' HO118.out).1.symm] <;> rfl) | rfl | (simp only [List.length_drop, List.length_take]; rfl)) ?_; (with_reducible refine (laws_heldImage.calls k _ _ t123 t114 t115 _ _ t124 1 t125 _ ?side1 ?side2 ?side3 ?side4 A9.out).mono ?_); (case side1 => repeat (first | exact (Kd.R_reads' HO113.out).2.2 | (with_reducible refine Kd.C_alloc ?_ _) | (with_reducible refine Kd.C_drewN ?_ _) | (with_reducible refine Kd.C_drew ?_))); (case side2 => rw [show t123.length = t111.length from (Kd.R_reads' HO113.out).1.symm]; exact (Kd.R_reads' HO113.out).2.1); (case side3 => repeat (first | exact (Kd.R_reads' HO118.out).2.2 | (with_reducible refine Kd.C_alloc ?_ _) | (with_reducible refine Kd.C_drewN ?_ _) | (with_reducible refine Kd.C_drew ?_))); (case side4 => rw [show t124.length = t116.length from (Kd.R_reads' HO118.out).1.symm]; exact (Kd.R_reads' HO118.out).2.1); rintro e w35 ⟨rfl, hb⟩; refine ⟨_, rfl, ?_⟩; have n0_ := Aside0.mk (Kd.R_below (by (with_reducible repeat (first | apply Kd.R_alloc | apply Kd.R_drewN | apply Kd.R_drew)); exact HO103.out) hb); have n1_ := Aside0.mk (Kd.R_below (by (with_reducible repeat (first | apply Kd.R_alloc | apply Kd.R_drewN | apply Kd.R_drew)); exact HO108.out) hb); have n2_ := Aside0.mk (Kd.R_below (by (with_reducible repeat (first | apply Kd.R_alloc | apply Kd.R_drewN | apply Kd.R_drew)); exact HO113.out) hb); have n3_ := Aside0.mk (Kd.R_below (by (with_reducible repeat (first | apply Kd.R_alloc | apply Kd.R_drewN | apply Kd.R_drew)); exact HO118.out) hb); have n4_ := Aside0.mk (blk_below (g := gb110) (o := .cells #[.slice Ao21 t101.length co21, .int .i64 t104, .int .i64 t105, .slice Ao23 t106.length co23] 33 (0, 0)) (by (with_reducible repeat (first | refine blk_drewN ?_ _ | refine blk_drew ?_ | refine blk_alloc ?_ _)); exact BK110.out) hb); have n5_ := Aside0.mk (blk_below (g := gb120) (o := .cells #[.slice Ao26 t111.length co26, .int .i64 t114, .int .i64 t115, .slice Ao29 t116.length co29] 33 (0, 0)) (by (with_reducible repeat (first | refine blk_drewN ?_ _ | refine blk_drew ?_ | refine blk_alloc ?_ _)); exact BK120.out) hb); have n6_ := Aside0.mk (below_step (by repeat (first | (with_reducible first | exact HB.out | apply below_alloc | apply pw_below_drewN | apply below_drew1 | refine below_set ?_ GE110.out | refine below_set ?_ GE120.out) | exact HB.out)) hb); clear HO103; clear HO108; clear HO113; clear HO118; clear BK110; clear BK120; clear HB; have HO103 := n0_; have HO108 := n1_; have HO113 := n2_; have HO118 := n3_; have BK110 := n4_; have BK120 := n5_; have HB := n6_; clear n0_ n1_ n2_ n3_ n4_ n5_ n6_; (try clear hb); (try clear hb2); (try clear hk); (try clear hi)) | ((with_reducible refine gate_callee (f := 36) rfl ?_); refine goesL_ (some 46) rfl rfl Try.func36 (by kernel_rfl) rfl #[.string a0] rfl (by (try simp only [List.map_toArray, List.map_cons, List.map_nil]); first | done | rfl | (simp only [List.length_drop, List.length_take]; rfl)) ?_; (with_reducible refine (impl_GetImage.calls k a0 t126 t129 t130 t131 t134 _ A12.out).mono ?_); rintro e w36 ⟨v127, v132, rfl, ho0, ho1, hb⟩; refine ⟨_, rfl, ?_⟩; have n0_ := Aside0.mk (Kd.R_elder' (by (with_reducible repeat (first | apply Kd.R_alloc | apply Kd.R_drewN | apply Kd.R_drew)); exact HO103.out) (Kd.R_base ho0) hb); have n1_ := Aside0.mk (Kd.R_elder' (by (with_reducible repeat (first | apply Kd.R_alloc | apply Kd.R_drewN | apply Kd.R_drew)); exact HO108.out) (Kd.R_base ho1) hb); have n2_ := Aside0.mk (Kd.R_elder' (by (with_reducible repeat (first | apply Kd.R_alloc | apply Kd.R_drewN | apply Kd.R_drew)); exact HO113.out) (Kd.R_base ho0) hb); have n3_ := Aside0.mk (Kd.R_elder' (by (with_reducible repeat (first | apply Kd.R_alloc | apply Kd.R_drewN | apply Kd.R_drew)); exact HO118.out) (Kd.R_base ho1) hb); have n4_ := Aside0.mk (Kd.R_lower (Kd.R_new' (Kd.R_new' ho0 (Kd.R_lt (by (with_reducible repeat (first | apply Kd.R_alloc | apply Kd.R_drewN | apply Kd.R_drew)); exact HO103.out))) (Kd.R_lt (by (with_reducible repeat (first | apply Kd.R_alloc | apply Kd.R_drewN | apply Kd.R_drew)); exact HO113.out))) (below_size (by repeat (first | (with_reducible first | exact HB.out | apply below_alloc | apply pw_below_drewN | apply below_drew1 | refine below_set ?_ GE110.out | refine below_set ?_ GE120.out) | exact HB.out)))); have n5_ := Aside0.mk (Kd.R_lower (Kd.R_new' (Kd.R_new' ho1 (Kd.R_lt (by (with_reducible repeat (first | apply Kd.R_alloc | apply Kd.R_drewN | apply Kd.R_drew)); exact HO108.out))) (Kd.R_lt (by (with_reducible repeat (first | apply Kd.R_alloc | apply Kd.R_drewN | apply Kd.R_drew)); exact HO118.out))) (below_size (by repeat (first | (with_reducible first | exact HB.out | apply below_alloc | apply pw_below_drewN | apply below_drew1 | refine below_set ?_ GE110.out | refine below_set ?_ GE120.out) | exact HB.out)))); have n6_ := Aside0.mk (blk_below (g := gb110) (o := .cells #[.slice Ao21 t101.length co21, .int .i64 t104, .int .i64 t105, .slice Ao23 t106.length co23] 33 (0, 0)) (by (with_reducible repeat (first | refine blk_drewN ?_ _ | refine blk_drew ?_ | refine blk_alloc ?_ _)); exact BK110.out) hb); have n7_ := Aside0.mk (blk_below (g := gb120) (o := .cells #[.slice Ao26 t111.length co26, .int .i64 t114, .int .i64 t115, .slice Ao29 t116.length co29] 33 (0, 0)) (by (with_reducible repeat (first | refine blk_drewN ?_ _ | refine blk_drew ?_ | refine blk_alloc ?_ _)); exact BK120.out) hb); have n8_ := Aside0.mk (below_step (by repeat (first | (with_reducible first | exact HB.out | apply below_alloc | apply pw_below_drewN | apply below_drew1 | refine below_set ?_ GE110.out | refine below_set ?_ GE120.out) | exact HB.out)) hb); clear HO103; clear HO108; clear HO113; clear HO118; clear BK110; clear BK120; clear HB; have HO103 := n0_; have HO108 := n1_; have HO113 := n2_; have HO118 := n3_; have HO128 := n4_; have HO133 := n5_; have BK110 := n6_; have BK120 := n7_; have HB := n8_; clear n0_ n1_ n2_ n3_ n4_ n5_ n6_ n7_ n8_; (try clear hb); (try clear hb2); (try clear hk); (try clear hi); (try clear ho0); (try clear ho1)) | ((with_reducible refine gate_dst (N := 9) rfl ?_); refine box_event ?hg (N := 9) ?hd (cs := #[.slice none 0 0, .int .i64 0, .int .i64 0, .slice none 0 0]) (t := 33) ?hr ?_; (case hd => rfl); (case hg => rfl); (case hr => first | (go_simp; done) | (go_simp; rfl)); intro gb135 hg w37 hbox hb; have n0_ := Aside0.mk (Kd.R_below (by (with_reducible repeat (first | apply Kd.R_alloc | apply Kd.R_drewN | apply Kd.R_drew)); exact HO103.out) hb); have n1_ := Aside0.mk (Kd.R_below (by (with_reducible repeat (first | apply Kd.R_alloc | apply Kd.R_drewN | apply Kd.R_drew)); exact HO108.out) hb); have n2_ := Aside0.mk (Kd.R_below (by (with_reducible repeat (first | apply Kd.R_alloc | apply Kd.R_drewN | apply Kd.R_drew)); exact HO113.out) hb); have n3_ := Aside0.mk (Kd.R_below (by (with_reducible repeat (first | apply Kd.R_alloc | apply Kd.R_drewN | apply Kd.R_drew)); exact HO118.out) hb); have n4_ := Aside0.mk (Kd.R_below (by (with_reducible repeat (first | apply Kd.R_alloc | apply Kd.R_drewN | apply Kd.R_drew)); exact HO128.out) hb); have n5_ := Aside0.mk (Kd.R_below (by (with_reducible repeat (first | apply Kd.R_alloc | apply Kd.R_drewN | apply Kd.R_drew)); exact HO133.out) hb); have n6_ := Aside0.mk (blk_below (g := gb110) (o := .cells #[.slice Ao21 t101.length co21, .int .i64 t104, .int .i64 t105, .slice Ao23 t106.length co23] 33 (0, 0)) (by (with_reducible repeat (first | refine blk_drewN ?_ _ | refine blk_drew ?_ | refine blk_alloc ?_ _)); exact BK110.out) hb); have n7_ := Aside0.mk (blk_below (g := gb120) (o := .cells #[.slice Ao26 t111.length co26, .int .i64 t114, .int .i64 t115, .slice Ao29 t116.length co29] 33 (0, 0)) (by (with_reducible repeat (first | refine blk_drewN ?_ _ | refine blk_drew ?_ | refine blk_alloc ?_ _)); exact BK120.out) hb); have n8_ := Aside0.mk (below_step (by repeat (first | (with_reducible first | exact HB.out | apply below_alloc | apply pw_below_drewN | apply below_drew1 | refine below_set ?_ GE110.out | refine below_set ?_ GE120.out) | exact HB.out)) hb); have n9_ := Aside0.mk (hbox); have n10_ := Aside0.mk ((by rw [hg]; exact (below_size (by repeat (first | (with_reducible first | exact HB.out | apply below_alloc | apply pw_below_drewN | apply below_drew1 | refine below_set ?_ GE110.out | refine below_set ?_ GE120.out) | exact HB.out))) : w.heap.size ≤ gb135)); have n11_ := Aside0.mk ((by rw [hg]; exact (below_size (by repeat (first | (with_reducible first | exact HB.out | apply below_alloc | apply pw_below_drewN | apply below_drew1 | refine below_set ?_ GE110.out | refine below_set ?_ GE120.out) | exact HB.out))) : w.heap.size ≤ gb135)); have n12_ := Aside0.mk ((by rw [hg]; exact Nat.ne_of_lt (blk_lt (g := gb110) (o := .cells #[.slice Ao21 t101.length co21, .int .i64 t104, .int .i64 t105, .slice Ao23 t106.length co23] 33 (0, 0)) (by (with_reducible repeat (first | refine blk_drewN ?_ _ | refine blk_drew ?_ | refine blk_alloc ?_ _)); exact BK110.out)) : gb110 ≠ gb135)); have n13_ := Aside0.mk ((by rw [hg]; exact Nat.ne_of_gt (blk_lt (g := gb110) (o := .cells #[.slice Ao21 t101.length co21, .int .i64 t104, .int .i64 t105, .slice Ao23 t106.length co23] 33 (0, 0)) (by (with_reducible repeat (first | refine blk_drewN ?_ _ | refine blk_drew ?_ | refine blk_alloc ?_ _)); exact BK110.out)) : gb135 ≠ gb110)); have n14_ := Aside0.mk ((by rw [hg]; exact Nat.ne_of_lt (blk_lt (g := gb120) (o := .cells #[.slice Ao26 t111.length co26, .int .i64 t114, .int .i64 t115, .slice Ao29 t116.length co29] 33 (0, 0)) (by (with_reducible repeat (first | refine blk_drewN ?_ _ | refine blk_drew ?_ | refine blk_alloc ?_ _)); exact BK120.out)) : gb120 ≠ gb135)); have n15_ := Aside0.mk ((by rw [hg]; exact Nat.ne_of_gt (blk_lt (g := gb120) (o := .cells #[.slice Ao26 t111.length co26, .int .i64 t114, .int .i64 t115, .slice Ao29 t116.length co29] 33 (0, 0)) (by (with_reducible repeat (first | refine blk_drewN ?_ _ | refine blk_drew ?_ | refine blk_alloc ?_ _)); exact BK120.out)) : gb135 ≠ gb120)); clear HO103; clear HO108; clear HO113; clear HO118; clear HO128; clear HO133; clear BK110; clear BK120; clear HB; have HO103 := n0_; have HO108 := n1_; have HO113 := n2_; have HO118 := n3_; have HO128 := n4_; have HO133 := n5_; have BK110 := n6_; have BK120 := n7_; have HB := n8_; have BK135 := n9_; have GW135 := n10_; have GE135 := n11_; have NB110_135 := n12_; have NB135_110 := n13_; have NB120_135 := n14_; have NB135_120 := n15_; clear n0_ n1_ n2_ n3_ n4_ n5_ n6_ n7_ n8_ n9_ n10_ n11_ n12_ n13_ n14_ n15_; clear hb hbox hg; obtain ⟨Ao38, co38, eo38⟩ := Kd.R_slice HO128.out; subst eo38; have hnb39 := NB135_110.out; have hnc39 := NB110_135.out; have hnb40 := NB135_120.out; have hnc40 := NB120_135.out; have hcz41_0 : w37.cell? ⟨gb135, 0, none⟩ = some (.slice none 0 0) := (blk_cell BK135.out 0).trans rfl; have hcz41_1 : w37.cell? ⟨gb135, 1, none⟩ = some (.int .i64 0) := (blk_cell BK135.out 1).trans rfl; have hcz41_2 : w37.cell? ⟨gb135, 2, none⟩ = some (.int .i64 0) := (blk_cell BK135.out 2).trans rfl; have hcz41_3 : w37.cell? ⟨gb135, 3, none⟩ = some (.slice none 0 0) := (blk_cell BK135.out 3).trans rfl; have hfz41_0 := blk_frozen BK135.out 0; have hfz41_1 := blk_frozen BK135.out 1; have hfz41_2 := blk_frozen BK135.out 2; have hfz41_3 := blk_frozen BK135.out 3; obtain ⟨Ao42, co42, eo42⟩ := Kd.R_slice HO133.out; subst eo42; have hcz43_0 : w37.cell? ⟨gb110, 0, none⟩ = some (.slice Ao21 t101.length co21) := (blk_cell BK110.out 0).trans rfl; have hcz43_1 : w37.cell? ⟨gb110, 1, none⟩ = some (.int .i64 t104) := (blk_cell BK110.out 1).trans rfl; have hcz43_2 : w37.cell? ⟨gb110, 2, none⟩ = some (.int .i64 t105) := (blk_cell BK110.out 2).trans rfl; have hcz43_3 : w37.cell? ⟨gb110, 3, none⟩ = some (.slice Ao23 t106.length co23) := (blk_cell BK110.out 3).trans rfl; have hfz43_0 := blk_frozen BK110.out 0; have hfz43_1 := blk_frozen BK110.out 1; have hfz43_2 := blk_frozen BK110.out 2; have hfz43_3 := blk_frozen BK110.out 3) | ((with_reducible refine gate_callee (f := 17) rfl ?_); refine goesL_ (some 51) rfl rfl Try.func17 (by kernel_rfl) rfl #[.agg #[.slice Ao38 t126.length co38, .int .i64 t129, .int .i64 t130, .slice Ao42 t131.length co42], .agg #[.slice Ao21 t101.length co21, .int .i64 t104, .int .i64 t105, .slice Ao23 t106.length co23]] rfl (by (try simp only [List.map_toArray, List.map_cons, List.map_nil]); first | done | rfl | (simp only [List.length_drop, List.length_take]; rfl)) ?_; (with_reducible refine (laws_eqImage.calls k _ _ t126 t129 t130 _ _ t131 _ _ t101 t104 t105 _ _ t106 true _ ?side1 ?side2 ?side3 ?side4 ?side5 ?side6 ?side7 ?side8 A13.out).mono ?_); (case side1 => refine (Kd.R_reads' (e := 3) (base := w.heap.size) (ok := fun k_ => ((True ∧ some k_ ≠ (.slice Ao21 t101.length co21 : Value).ownBlock) ∧ some k_ ≠ (.slice Ao26 t111.length co26 : Value).ownBlock)) (n := t126.length) (c := co38) ?_).2.2; exact (by (with_reducible repeat (first | apply Kd.R_alloc | apply Kd.R_drewN | apply Kd.R_drew)); exact (Kd.R_mono (Kd.R_far (p := ⟨gb135, 3, none⟩) (Kd.R_far (p := ⟨gb135, 2, none⟩) (Kd.R_far (p := ⟨gb135, 1, none⟩) (Kd.R_far (p := ⟨gb135, 0, none⟩) (Kd.R_types HO128.out BK135.out (by decide)) (fun _ hk => hk.2) (.slice Ao38 t126.length co38)) (fun _ hk => hk.2) (.int .i64 t129)) (fun _ hk => hk.2) (.int .i64 t130)) (fun _ hk => hk.2) (.slice Ao42 t131.length co42)) (fun _ h_ => h_.1)))); (case side2 => exact (Kd.R_reads' HO128.out).2.1); (case side3 => refine (Kd.R_reads' (e := 59) (base := w.heap.size) (ok := fun k_ => ((True ∧ some k_ ≠ (.slice Ao23 t106.length co23 : Value).ownBlock) ∧ some k_ ≠ (.slice Ao29 t116.length co29 : Value).ownBlock)) (n := t131.length) (c := co42) ?_).2.2; exact (by (with_reducible repeat (first | apply Kd.R_alloc | apply Kd.R_drewN | apply Kd.R_drew)); exact (Kd.R_mono (Kd.R_far (p := ⟨gb135, 3, none⟩) (Kd.R_far (p := ⟨gb135, 2, none⟩) (Kd.R_far (p := ⟨gb135, 1, none⟩) (Kd.R_far (p := ⟨gb135, 0, none⟩) (Kd.R_types HO133.out BK135.out (by decide)) (fun _ hk => hk.2) (.slice Ao38 t126.length co38)) (fun _ hk => hk.2) (.int .i64 t129)) (fun _ hk => hk.2) (.int .i64 t130)) (fun _ hk => hk.2) (.slice Ao42 t131.length co42)) (fun _ h_ => h_.1)))); (case side4 => exact (Kd.R_reads' HO133.out).2.1); (case side5 => refine (Kd.R_reads' (e := 3) (base := w.heap.size) (ok := fun k_ => (some k_ ≠ (.slice Ao26 t111.length co26 : Value).ownBlock ∧ some k_ ≠ (.slice Ao38 t126.length co38 : Value).ownBlock)) (n := t101.length) (c := co21) ?_).2.2; exact (by (with_reducible repeat (first | apply Kd.R_alloc | apply Kd.R_drewN | apply Kd.R_drew)); exact (Kd.R_mono (Kd.R_far (p := ⟨gb135, 3, none⟩) (Kd.R_far (p := ⟨gb135, 2, none⟩) (Kd.R_far (p := ⟨gb135, 1, none⟩) (Kd.R_far (p := ⟨gb135, 0, none⟩) (Kd.R_types HO103.out BK135.out (by decide)) (fun _ hk => hk.2) (.slice Ao38 t126.length co38)) (fun _ hk => hk.2) (.int .i64 t129)) (fun _ hk => hk.2) (.int .i64 t130)) (fun _ hk => hk.2) (.slice Ao42 t131.length co42)) (fun _ h_ => h_.1)))); (case side6 => exact (Kd.R_reads' HO103.out).2.1); (case side7 => refine (Kd.R_reads' (e := 59) (base := w.heap.size) (ok := fun k_ => (some k_ ≠ (.slice Ao29 t116.length co29 : Value).ownBlock ∧ some k_ ≠ (.slice Ao42 t131.length co42 : Value).ownBlock)) (n := t106.length) (c := co23) ?_).2.2; exact (by (with_reducible repeat (first | apply Kd.R_alloc | apply Kd.R_drewN | apply Kd.R_drew)); exact (Kd.R_mono (Kd.R_far (p := ⟨gb135, 3, none⟩) (Kd.R_far (p := ⟨gb135, 2, none⟩) (Kd.R_far (p := ⟨gb135, 1, none⟩) (Kd.R_far (p := ⟨gb135, 0, none⟩) (Kd.R_types HO108.out BK135.out (by decide)) (fun _ hk => hk.2) (.slice Ao38 t126.length co38)) (fun _ hk => hk.2) (.int .i64 t129)) (fun _ hk => hk.2) (.int .i64 t130)) (fun _ hk => hk.2) (.slice Ao42 t131.length co42)) (fun _ h_ => h_.1)))); (case side8 => exact (Kd.R_reads' HO108.out).2.1); rintro e w44 ⟨rfl, hb⟩; refine ⟨_, rfl, ?_⟩; have n0_ := Aside0.mk (Kd.R_below (by (with_reducible repeat (first | apply Kd.R_alloc | apply Kd.R_drewN | apply Kd.R_drew)); exact (Kd.R_mono (Kd.R_far (p := ⟨gb135, 3, none⟩) (Kd.R_far (p := ⟨gb135, 2, none⟩) (Kd.R_far (p := ⟨gb135, 1, none⟩) (Kd.R_far (p := ⟨gb135, 0, none⟩) (Kd.R_types HO103.out BK135.out (by decide)) (fun _ hk => hk.2) (.slice Ao38 t126.length co38)) (fun _ hk => hk.2) (.int .i64 t129)) (fun _ hk => hk.2) (.int .i64 t130)) (fun _ hk => hk.2) (.slice Ao42 t131.length co42)) (fun _ h_ => h_.1))) hb); have n1_ := Aside0.mk (Kd.R_below (by (with_reducible repeat (first | apply Kd.R_alloc | apply Kd.R_drewN | apply Kd.R_drew)); exact (Kd.R_mono (Kd.R_far (p := ⟨gb135, 3, none⟩) (Kd.R_far (p := ⟨gb135, 2, none⟩) (Kd.R_far (p := ⟨gb135, 1, none⟩) (Kd.R_far (p := ⟨gb135, 0, none⟩) (Kd.R_types HO108.out BK135.out (by decide)) (fun _ hk => hk.2) (.slice Ao38 t126.length co38)) (fun _ hk => hk.2) (.int .i64 t129)) (fun _ hk => hk.2) (.int .i64 t130)) (fun _ hk => hk.2) (.slice Ao42 t131.length co42)) (fun _ h_ => h_.1))) hb); have n2_ := Aside0.mk (Kd.R_below (by (with_reducible repeat (first | apply Kd.R_alloc | apply Kd.R_drewN | apply Kd.R_drew)); exact (Kd.R_mono (Kd.R_far (p := ⟨gb135, 3, none⟩) (Kd.R_far (p := ⟨gb135, 2, none⟩) (Kd.R_far (p := ⟨gb135, 1, none⟩) (Kd.R_far (p := ⟨gb135, 0, none⟩) (Kd.R_types HO113.out BK135.out (by decide)) (fun _ hk => hk.2) (.slice Ao38 t126.length co38)) (fun _ hk => hk.2) (.int .i64 t129)) (fun _ hk => hk.2) (.int .i64 t130)) (fun _ hk => hk.2) (.slice Ao42 t131.length co42)) (fun _ h_ => h_.1))) hb); have n3_ := Aside0.mk (Kd.R_below (by (with_reducible repeat (first | apply Kd.R_alloc | apply Kd.R_drewN | apply Kd.R_drew)); exact (Kd.R_mono (Kd.R_far (p := ⟨gb135, 3, none⟩) (Kd.R_far (p := ⟨gb135, 2, none⟩) (Kd.R_far (p := ⟨gb135, 1, none⟩) (Kd.R_far (p := ⟨gb135, 0, none⟩) (Kd.R_types HO118.out BK135.out (by decide)) (fun _ hk => hk.2) (.slice Ao38 t126.length co38)) (fun _ hk => hk.2) (.int .i64 t129)) (fun _ hk => hk.2) (.int .i64 t130)) (fun _ hk => hk.2) (.slice Ao42 t131.length co42)) (fun _ h_ => h_.1))) hb); have n4_ := Aside0.mk (Kd.R_below (by (with_reducible repeat (first | apply Kd.R_alloc | apply Kd.R_drewN | apply Kd.R_drew)); exact (Kd.R_mono (Kd.R_far (p := ⟨gb135, 3, none⟩) (Kd.R_far (p := ⟨gb135, 2, none⟩) (Kd.R_far (p := ⟨gb135, 1, none⟩) (Kd.R_far (p := ⟨gb135, 0, none⟩) (Kd.R_types HO128.out BK135.out (by decide)) (fun _ hk => hk.2) (.slice Ao38 t126.length co38)) (fun _ hk => hk.2) (.int .i64 t129)) (fun _ hk => hk.2) (.int .i64 t130)) (fun _ hk => hk.2) (.slice Ao42 t131.length co42)) (fun _ h_ => h_.1))) hb); have n5_ := Aside0.mk (Kd.R_below (by (with_reducible repeat (first | apply Kd.R_alloc | apply Kd.R_drewN | apply Kd.R_drew)); exact (Kd.R_mono (Kd.R_far (p := ⟨gb135, 3, none⟩) (Kd.R_far (p := ⟨gb135, 2, none⟩) (Kd.R_far (p := ⟨gb135, 1, none⟩) (Kd.R_far (p := ⟨gb135, 0, none⟩) (Kd.R_types HO133.out BK135.out (by decide)) (fun _ hk => hk.2) (.slice Ao38 t126.length co38)) (fun _ hk => hk.2) (.int .i64 t129)) (fun _ hk => hk.2) (.int .i64 t130)) (fun _ hk => hk.2) (.slice Ao42 t131.length co42)) (fun _ h_ => h_.1))) hb); have n6_ := Aside0.mk (blk_below (g := gb110) (o := .cells #[.slice Ao21 t101.length co21, .int .i64 t104, .int .i64 t105, .slice Ao23 t106.length co23] 33 (0, 0)) (by (with_reducible repeat (first | refine blk_drewN ?_ _ | refine blk_drew ?_ | refine blk_alloc ?_ _)); refine blk_far ?_ NB110_135.out _; (with_reducible repeat (first | refine blk_drewN ?_ _ | refine blk_drew ?_ | refine blk_alloc ?_ _)); refine blk_far ?_ NB110_135.out _; (with_reducible repeat (first | refine blk_drewN ?_ _ | refine blk_drew ?_ | refine blk_alloc ?_ _)); refine blk_far ?_ NB110_135.out _; (with_reducible repeat (first | refine blk_drewN ?_ _ | refine blk_drew ?_ | refine blk_alloc ?_ _)); refine blk_far ?_ NB110_135.out _; (with_reducible repeat (first | refine blk_drewN ?_ _ | refine blk_drew ?_ | refine blk_alloc ?_ _)); exact BK110.out) hb); have n7_ := Aside0.mk (blk_below (g := gb120) (o := .cells #[.slice Ao26 t111.length co26, .int .i64 t114, .int .i64 t115, .slice Ao29 t116.length co29] 33 (0, 0)) (by (with_reducible repeat (first | refine blk_drewN ?_ _ | refine blk_drew ?_ | refine blk_alloc ?_ _)); refine blk_far ?_ NB120_135.out _; (with_reducible repeat (first | refine blk_drewN ?_ _ | refine blk_drew ?_ | refine blk_alloc ?_ _)); refine blk_far ?_ NB120_135.out _; (with_reducible repeat (first | refine blk_drewN ?_ _ | refine blk_drew ?_ | refine blk_alloc ?_ _)); refine blk_far ?_ NB120_135.out _; (with_reducible repeat (first | refine blk_drewN ?_ _ | refine blk_drew ?_ | refine blk_alloc ?_ _)); refine blk_far ?_ NB120_135.out _; (with_reducible repeat (first | refine blk_drewN ?_ _ | refine blk_drew ?_ | refine blk_alloc ?_ _)); exact BK120.out) hb); have n8_ := Aside0.mk (blk_below (g := gb135) (o := .cells #[.slice Ao38 t126.length co38, .int .i64 t129, .int .i64 t130, .slice Ao42 t131.length co42] 33 (0, 0)) (by (with_reducible repeat (first | refine blk_drewN ?_ _ | refine blk_drew ?_ | refine blk_alloc ?_ _)); refine blk_put (cs := #[.slice Ao38 t126.length co38, .int .i64 t129, .int .i64 t130, .slice none 0 0]) ?_ 3 _ rfl; (with_reducible repeat (first | refine blk_drewN ?_ _ | refine blk_drew ?_ | refine blk_alloc ?_ _)); refine blk_put (cs := #[.slice Ao38 t126.length co38, .int .i64 t129, .int .i64 0, .slice none 0 0]) ?_ 2 _ rfl; (with_reducible repeat (first | refine blk_drewN ?_ _ | refine blk_drew ?_ | refine blk_alloc ?_ _)); refine blk_put (cs := #[.slice Ao38 t126.length co38, .int .i64 0, .int .i64 0, .slice none 0 0]) ?_ 1 _ rfl; (with_reducible repeat (first | refine blk_drewN ?_ _ | refine blk_drew ?_ | refine blk_alloc ?_ _)); refine blk_put (cs := #[.slice none 0 0, .int .i64 0, .int .i64 0, .slice none 0 0]) ?_ 0 _ rfl; (with_reducible repeat (first | refine blk_drewN ?_ _ | refine blk_drew ?_ | refine blk_alloc ?_ _)); exact BK135.out) hb); have n9_ := Aside0.mk (below_step (by repeat (first | (with_reducible first | exact HB.out | apply below_alloc | apply pw_below_drewN | apply below_drew1 | refine below_set ?_ GE110.out | refine below_set ?_ GE120.out | refine below_set ?_ GE135.out) | exact HB.out)) hb); clear HO103; clear HO108; clear HO113; clear HO118; clear HO128; clear HO133; clear BK110; clear BK120; clear BK135; clear HB; have HO103 := n0_; have HO108 := n1_; have HO113 := n2_; have HO118 := n3_; have HO128 := n4_; have HO133 := n5_; have BK110 := n6_; have BK120 := n7_; have BK135 := n8_; have HB := n9_; clear n0_ n1_ n2_ n3_ n4_ n5_ n6_ n7_ n8_ n9_; (try clear hb); (try clear hb2); (try clear hk); (try clear hi); have hcz45_0 : w44.cell? ⟨gb120, 0, none⟩ = some (.slice Ao26 t111.length co26) := (blk_cell BK120.out 0).trans rfl; have hcz45_1 : w44.cell? ⟨gb120, 1, none⟩ = some (.int .i64 t114) := (blk_cell BK120.out 1).trans rfl; have hcz45_2 : w44.cell? ⟨gb120, 2, none⟩ = some (.int .i64 t115) := (blk_cell BK120.out 2).trans rfl; have hcz45_3 : w44.cell? ⟨gb120, 3, none⟩ = some (.slice Ao29 t116.length co29) := (blk_cell BK120.out 3).trans rfl; have hfz45_0 := blk_frozen BK120.out 0; have hfz45_1 := blk_frozen BK120.out 1; have hfz45_2 := blk_frozen BK120.out 2; have hfz45_3 := blk_frozen BK120.out 3) | ((with_reducible refine gate_callee (f := 37) rfl ?_); refine goesL_ (some 60) rfl rfl Try.func37 (by kernel_rfl) rfl #[.agg #[.slice Ao26 t123.length co26, .int .i64 t114, .int .i64 t115, .slice Ao29 t124.length co29], .int .i64 1] rfl (by (try simp only [List.map_toArray, List.map_cons, List.map_nil]); first | done | (rw [show t123.length = t111.length from (Kd.R_reads' HO113.out).1.symm, show t124.length = t116.length from (Kd.R_reads' HO118.out).1.symm] <;> rfl) | rfl | (simp only [List.length_drop, List.length_take]; rfl)) ?_; (with_reducible refine (laws_heldImage.calls k _ _ t123 t114 t115 _ _ t124 1 t137 _ ?side1 ?side2 ?side3 ?side4 A16.out).mono ?_); (case side1 => repeat (first | exact (Kd.R_reads' HO113.out).2.2 | (with_reducible refine Kd.C_alloc ?_ _) | (with_reducible refine Kd.C_drewN ?_ _) | (with_reducible refine Kd.C_drew ?_))); (case side2 => rw [show t123.length = t111.length from (Kd.R_reads' HO113.out).1.symm]; exact (Kd.R_reads' HO113.out).2.1); (case side3 => repeat (first | exact (Kd.R_reads' HO118.out).2.2 | (with_reducible refine Kd.C_alloc ?_ _) | (with_reducible refine Kd.C_drewN ?_ _) | (with_reducible refine Kd.C_drew ?_))); (case side4 => rw [show t124.length = t116.length from (Kd.R_reads' HO118.out).1.symm]; exact (Kd.R_reads' HO118.out).2.1); rintro e w46 ⟨rfl, hb⟩; refine ⟨_, rfl, ?_⟩; have n0_ := Aside0.mk (Kd.R_below (by (with_reducible repeat (first | apply Kd.R_alloc | apply Kd.R_drewN | apply Kd.R_drew)); exact HO103.out) hb); have n1_ := Aside0.mk (Kd.R_below (by (with_reducible repeat (first | apply Kd.R_alloc | apply Kd.R_drewN | apply Kd.R_drew)); exact HO108.out) hb); have n2_ := Aside0.mk (Kd.R_below (by (with_reducible repeat (first | apply Kd.R_alloc | apply Kd.R_drewN | apply Kd.R_drew)); exact HO113.out) hb); have n3_ := Aside0.mk (Kd.R_below (by (with_reducible repeat (first | apply Kd.R_alloc | apply Kd.R_drewN | apply Kd.R_drew)); exact HO118.out) hb); have n4_ := Aside0.mk (Kd.R_below (by (with_reducible repeat (first | apply Kd.R_alloc | apply Kd.R_drewN | apply Kd.R_drew)); exact HO128.out) hb); have n5_ := Aside0.mk (Kd.R_below (by (with_reducible repeat (first | apply Kd.R_alloc | apply Kd.R_drewN | apply Kd.R_drew)); exact HO133.out) hb); have n6_ := Aside0.mk (blk_below (g := gb110) (o := .cells #[.slice Ao21 t101.length co21, .int .i64 t104, .int .i64 t105, .slice Ao23 t106.length co23] 33 (0, 0)) (by (with_reducible repeat (first | refine blk_drewN ?_ _ | refine blk_drew ?_ | refine blk_alloc ?_ _)); exact BK110.out) hb); have n7_ := Aside0.mk (blk_below (g := gb120) (o := .cells #[.slice Ao26 t111.length co26, .int .i64 t114, .int .i64 t115, .slice Ao29 t116.length co29] 33 (0, 0)) (by (with_reducible repeat (first | refine blk_drewN ?_ _ | refine blk_drew ?_ | refine blk_alloc ?_ _)); exact BK120.out) hb); have n8_ := Aside0.mk (blk_below (g := gb135) (o := .cells #[.slice Ao38 t126.length co38, .int .i64 t129, .int .i64 t130, .slice Ao42 t131.length co42] 33 (0, 0)) (by (with_reducible repeat (first | refine blk_drewN ?_ _ | refine blk_drew ?_ | refine blk_alloc ?_ _)); exact BK135.out) hb); have n9_ := Aside0.mk (below_step (by repeat (first | (with_reducible first | exact HB.out | apply below_alloc | apply pw_below_drewN | apply below_drew1 | refine below_set ?_ GE110.out | refine below_set ?_ GE120.out | refine below_set ?_ GE135.out) | exact HB.out)) hb); clear HO103; clear HO108; clear HO113; clear HO118; clear HO128; clear HO133; clear BK110; clear BK120; clear BK135; clear HB; have HO103 := n0_; have HO108 := n1_; have HO113 := n2_; have HO118 := n3_; have HO128 := n4_; have HO133 := n5_; have BK110 := n6_; have BK120 := n7_; have BK135 := n8_; have HB := n9_; clear n0_ n1_ n2_ n3_ n4_ n5_ n6_ n7_ n8_ n9_; (try clear hb); (try clear hb2); (try clear hk); (try clear hi)))
                    go_ret
                    exact ⟨by first | rfl | (simp [errW_none, errW_some] <;> rfl) | (simp [*, errW_none, errW_some] <;> rfl), by repeat (first | (with_reducible first | exact HB.out | apply below_alloc | apply pw_below_drewN | apply below_drew1 | refine below_set ?_ GE110.out | refine below_set ?_ GE120.out | refine below_set ?_ GE135.out) | exact HB.out)⟩
                  · rw [if_neg c18] at H
                    exact absurd H (by simp)
            · replace c14 := Bool.eq_false_iff.mpr c14
              subst c14
              have H1 : (none) = some r := by rw [if_neg (show ¬ (false = true) by decide)] at H; exact H
              clear H
              have H := H1
              clear H1
              exact absurd H (by simp)
          · rw [if_neg c11] at H
            exact absurd H (by simp)
    · replace c6 := Bool.eq_false_iff.mpr c6
      subst c6
      have H1 : (none) = some r := by rw [if_neg (show ¬ (false = true) by decide)] at H; exact H
      clear H
      have H := H1
      clear H1
      exact absurd H (by simp)

end Go.Proofs.Ytnbaojaocagjcaa.P
end
