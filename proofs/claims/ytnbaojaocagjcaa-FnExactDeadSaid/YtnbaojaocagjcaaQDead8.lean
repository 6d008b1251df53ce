-- Joined by pack.py from FHPureSpecImageOk, FHGoodDead
import Derived.Test.YtnbaojaocagjcaaQDead1
import Derived.Test.YtnbaojaocagjcaaQDead2
import Derived.Test.YtnbaojaocagjcaaQDead4
import Derived.Test.YtnbaojaocagjcaaQDead3
import Derived.Test.YtnbaojaocagjcaaQDead7
import Derived.Test.YtnbaojaocagjcaaQDead5
section
-- Written for this claim by gp.py over the kit's print; not trusted: Lean checks it.








namespace Go.Proofs.Ytnbaojaocagjcaa.P
open Go.RowKit Go.Proofs.YtnbaojaocagjcaaW.PrintWords Go.Proofs.YtnbaojaocagjcaaW.PrintLast Go.Proofs.YtnbaojaocagjcaaW.PrintMore
set_option linter.unusedVariables false
set_option linter.unusedSimpArgs false

theorem rd_impl_Word {l : List S59} {i : Nat} (h : i < l.length) : rd_T59 l (i : Int) = l[i] := by simp [rd_T59, List.getD_eq_getElem?_getD, h]
def lastOk (x3 : List S59) : Bool := ((rd_T59 x3 ((x3.length : Int) - 1)).f0 == 10) || ((rd_T59 x3 ((x3.length : Int) - 1)).f0 == 8)
def wordsOk (x0 : List Int) (x2 : Int) (x3 : List S59) : Bool := !(x3.any fun x => !wordIs (x0.length : Int) x2 (x3.length : Int) x.f0 x.f1 x.f2 x.f3 x.f4)
theorem ev_ImageOk_j1 (b : Bool) (x0 : List Int) (x1 x2 : Int) (x3 : List S59) (h0 : x0.length ≤ 9223372036854775807) (h3 : x3.length ≤ 9223372036854775807) (hb : b = true → 1 ≤ x3.length) :
    Ev (fun k => spec_ImageOk.j1 k (x3.length : Int) (!b) x0 x1 x2 x3) (b && (wordsOk x0 x2 x3 && lastOk x3)) := by
  refine Ev.step (fun k => by rw [spec_ImageOk.j1]) ?_
  cases b with
  | false => exact Ev.pos rfl (Ev.now _)
  | true =>
    have hn := hb rfl
    refine Ev.neg (by decide) ?_
    have key := ev_all (n := x3.length) (R := lastOk x3) (e := false) (fun j => (fun x : S59 => wordIs (x0.length : Int) x2 (x3.length : Int) x.f0 x.f1 x.f2 x.f3 x.f4) (x3.getD j z59) = true) (fun i k => spec_ImageOk.l1 k (x3.length : Int) (i : Int) x0 x1 x2 x3) ?_ ?_ ?_
    · rw [allB_list x3 z59 (fun x : S59 => wordIs (x0.length : Int) x2 (x3.length : Int) x.f0 x.f1 x.f2 x.f3 x.f4)] at key
      rw [Bool.true_and]
      unfold wordsOk
      rw [show ∀ b c : Bool, (b && c) = (bif b then c else false) from by decide]
      exact key
    · refine Ev.step (fun k => by rw [spec_ImageOk.l1]) ?_
      refine Ev.neg (by omega) ?_
      rw [wrap_in (by omega) (by omega)]
      refine Ev.pos (by omega) (Ev.pos (by omega) ?_)
      unfold lastOk
      by_cases h : (rd_T59 x3 ((x3.length : Int) - 1)).f0 = 10
      · rw [h]
        exact Ev.pos rfl (Ev.now _)
      · rw [beq_false_of_ne h, Bool.false_or]
        exact Ev.neg h (Ev.now _)
    · intro i hi hp r hr
      refine Ev.step (fun k => by rw [spec_ImageOk.l1]) ?_
      refine Ev.pos (by omega) (Ev.pos (by omega) (Ev.pos (by omega) ?_))
      refine Ev.bind (ev_WordOk x0 x1 x2 x3 _ _ _ _ _ h0 h3) ?_
      refine Ev.pos hp ?_
      rw [wrap_succ hi h3]
      exact hr
    · intro i hi hp
      refine Ev.step (fun k => by rw [spec_ImageOk.l1]) ?_
      refine Ev.pos (by omega) (Ev.pos (by omega) (Ev.pos (by omega) ?_))
      refine Ev.bind (ev_WordOk x0 x1 x2 x3 _ _ _ _ _ h0 h3) ?_
      exact Ev.neg hp (Ev.now _)
theorem ev_ImageOk_spec (x0 : List Int) (x1 x2 : Int) (x3 : List S59) (h0 : x0.length ≤ 9223372036854775807) (h3 : x3.length ≤ 9223372036854775807) :
    Ev (fun k => spec_ImageOk.f k x0 x1 x2 x3) (imageOk x0 x1 x2 x3) := by
  unfold spec_ImageOk.f
  have tail : Ev (fun k => spec_ImageOk.l0 k (x0.length : Int) x0 x1 x2 x3) (inB (x0.length : Int) 1 4 && (inB x1 0 6 && (inB x2 x1 1000 && (inB (x3.length : Int) 1 6000 && (wordsOk x0 x2 x3 && lastOk x3))))) := by
    have no := ev_ImageOk_j1 false x0 x1 x2 x3 h0 h3 (fun h => Bool.noConfusion h)
    rw [Bool.false_and] at no
    refine Ev.step (fun k => by rw [spec_ImageOk.l0]) ?_
    refine Ev.neg (by omega) ?_
    rw [specIn, specIn, specIn, specIn]
    refine Ev.val ?_
    cases inB (x0.length : Int) 1 4 with
    | false => exact Ev.neg (by decide) no
    | true =>
      refine Ev.pos rfl (Ev.val ?_)
      cases inB x1 0 6 with
      | false => exact Ev.neg (by decide) no
      | true =>
        refine Ev.pos rfl (Ev.val ?_)
        cases inB x2 x1 1000 with
        | false => exact Ev.neg (by decide) no
        | true =>
          refine Ev.pos rfl (Ev.val ?_)
          rw [Bool.true_and, Bool.true_and, Bool.true_and]
          refine ev_ImageOk_j1 _ x0 x1 x2 x3 h0 h3 (fun h => ?_)
          unfold inB at h
          simp at h
          omega
  have key := ev_all (n := x0.length) (R := _) (e := false) (fun j => (fun n : Int => inB n 1 16) (x0.getD j 0) = true) (fun i k => spec_ImageOk.l0 k (i : Int) x0 x1 x2 x3) tail ?_ ?_
  · rw [allB_list x0 0 (fun n : Int => inB n 1 16)] at key
    refine Eq.mp (congrArg _ ?_) key
    unfold imageOk progOk
    rw [show inB 0 0 (if (0 : Int) < 6 then 0 else 6) = true from rfl, show decide ((0 : Int) ≤ 20) = true from rfl]
    show _ = (inB (x0.length : Int) 1 4 && (!(x0.any fun n => !inB n 1 16)) && true && true && inB x1 0 6 && inB x2 x1 1000 && inB (x3.length : Int) 1 6000 && lastOk x3 && wordsOk x0 x2 x3)
    generalize (!(x0.any fun n => !inB n 1 16)) = a
    generalize inB (x0.length : Int) 1 4 = b
    generalize inB x1 0 6 = c
    generalize inB x2 x1 1000 = d
    generalize inB (x3.length : Int) 1 6000 = e
    generalize lastOk x3 = f
    generalize wordsOk x0 x2 x3 = g
    revert a b c d e f g
    decide
  · intro i hi hp r hr
    refine Ev.step (fun k => by rw [spec_ImageOk.l0]) ?_
    refine Ev.pos (by omega) (Ev.pos (by omega) ?_)
    rw [specIn]
    refine Ev.val (Ev.pos hp ?_)
    rw [wrap_succ hi h0]
    exact hr
  · intro i hi hp
    refine Ev.step (fun k => by rw [spec_ImageOk.l0]) ?_
    refine Ev.pos (by omega) (Ev.pos (by omega) ?_)
    rw [specIn]
    exact Ev.val (Ev.neg hp (Ev.now _))

end Go.Proofs.Ytnbaojaocagjcaa.P
end
section
-- Written for this claim by gp.py over the kit's print; not trusted: Lean checks it.


















namespace Go.Proofs.Ytnbaojaocagjcaa.P
open Go.RowKit Go.Proofs.YtnbaojaocagjcaaW.PrintWords Go.Proofs.YtnbaojaocagjcaaW.PrintLast Go.Proofs.YtnbaojaocagjcaaW.PrintMore
set_option linter.unusedVariables false
set_option linter.unusedSimpArgs false

theorem nxt_range {x0 : List Int} {x1 x2 : Int} {l : List S59} (h : imageOk x0 x1 x2 l = true) : 0 < l.length ∧ ∀ a, a < l.length → ∀ j ∈ nxt l a, 0 ≤ j ∧ j < l.length := by
  unfold imageOk at h
  simp only [Bool.and_eq_true] at h
  obtain ⟨⟨⟨⟨⟨_, _⟩, _⟩, hn⟩, hlast⟩, hw⟩ := h
  unfold inB at hn
  simp only [Bool.and_eq_true, decide_eq_true_eq] at hn
  refine ⟨by omega, fun a ha j hj => ?_⟩
  have hr : rd_T59 l (a : Int) = l[a] := rd_impl_Word ha
  have hword : wordIs (x0.length : Int) x2 (l.length : Int) l[a].f0 l[a].f1 l[a].f2 l[a].f3 l[a].f4 = true := by
    simp at hw
    exact hw _ (List.getElem_mem ha)
  have hl : rd_T59 l ((l.length : Int) - 1) = l[l.length - 1] := by
    have := rd_impl_Word (l := l) (i := l.length - 1) (by omega)
    rw [← this]
    congr 1
    omega
  rw [hl] at hlast
  unfold nxt opAt at hj
  rw [hr] at hj
  rcases List.mem_append.mp hj with hj | hj
  · split at hj
    · rename_i ho
      rw [List.mem_singleton] at hj
      subst hj
      unfold wordIs at hword
      rcases ho with ho | ho
      · rw [ho] at hword
        simp [wordFin] at hword
        have := hword.1.1.1
        unfold inB at this
        simp at this
        omega
      · rw [ho] at hword
        simp [wordFin] at hword
        have := hword.1.1.1
        unfold inB at this
        simp at this
        omega
    · cases hj
  · split at hj
    · cases hj
    · rename_i ho
      rw [List.mem_singleton] at hj
      subst hj
      have hne : a ≠ l.length - 1 := by
        intro e
        subst e
        simp at hlast
        rcases hlast with e | e
        · exact ho (Or.inr e)
        · exact ho (Or.inl e)
      omega
theorem seen_first (n : Nat) (hn : 0 < n) (j : Nat) : seen ((List.replicate n false).set 0 true) j = decide (j = 0) := by
  rw [seen_set (by simp; omega)]
  have : seen (List.replicate n false) j = false := by
    unfold seen
    rw [List.getD_eq_getElem?_getD, List.getElem?_replicate]
    split <;> rfl
  rw [this, Bool.or_false]
  by_cases h : j = 0
  · simp [h]
  · simp [h]
    omega
theorem seen_none (n j : Nat) : seen (List.replicate n false) j = false := by
  unfold seen
  rw [List.getD_eq_getElem?_getD, List.getElem?_replicate]
  split <;> rfl
theorem news_none (n : Nat) : news (List.replicate n false) = n := by simp [news]
theorem ev_Dead (x0 : List Int) (x1 x2 : Int) (l : List S59) (h0 : x0.length ≤ 1048576) (hl : l.length ≤ 1048576) :
    ∃ r : List Int, r.length ≤ 1048576 ∧ Ev (fun k => spec_Dead.f k x0 x1 x2 l) r ∧ Ev (fun k => impl_Dead.f k x0 x1 x2 l) r := by
  by_cases hok : imageOk x0 x1 x2 l = true
  · obtain ⟨hn, hx⟩ := nxt_range hok
    have fin : ∃ sf : List Bool, sf.length = l.length ∧ ∀ s : List Bool, s.length = l.length → (∀ j, seen s j = true ↔ Rch (nxt l) j) → s = sf := by
      classical
      by_cases hex : ∃ sf : List Bool, sf.length = l.length ∧ ∀ j, seen sf j = true ↔ Rch (nxt l) j
      · obtain ⟨sf, h1, h2⟩ := hex
        exact ⟨sf, h1, fun s hs hj => seen_ext (by rw [hs, h1]) (fun j => (hj j).trans (h2 j).symm)⟩
      · exact ⟨List.replicate l.length false, by simp, fun s hs hj => absurd ⟨s, hs, hj⟩ hex⟩
    obtain ⟨sf, f1, f2⟩ := fin
    refine ⟨deadL sf 0, by have := deadL_length sf 0; omega, ?_, ?_⟩
    · unfold spec_Dead.f
      refine Ev.val (Ev.bind (ev_ImageOk_spec x0 x1 x2 l (by omega) (by omega)) ?_)
      refine Ev.pos hok (Ev.pos (by omega) (Ev.pos (by omega) (Ev.val (Ev.pos (by simp <;> omega) ?_))))
      have hs0 : (((List.replicate ((l.length : Int)).toNat false).set (0 : Int).toNat true : List Bool)) = (List.replicate l.length false).set 0 true := rfl
      rw [hs0]
      have hw0 := news_set (s := List.replicate l.length false) (i := 0) (by simp; omega) (seen_none _ _)
      rw [news_none] at hw0
      refine ev_Dead_seek hl hx (fun s hs hj => ?_) _ _ _ (Nat.le_refl _) ⟨by simp, ?_, ?_, ?_, ?_⟩ ?_
      · rw [f2 s hs hj]
        exact ev_Dead_l2 sf (by omega)
      · intro j hj
        rw [List.mem_singleton] at hj
        subst hj
        refine ⟨by omega, by omega, ?_⟩
        rw [seen_first _ hn]
        rfl
      · intro j hj
        rw [seen_first _ hn] at hj
        rw [of_decide_eq_true hj]
        exact Rch.zero
      · rw [List.length_singleton]
        omega
      · rw [seen_first _ hn]
        rfl
      · intro j hj hq
        rw [seen_first _ hn] at hj
        have := of_decide_eq_true hj
        subst this
        simp at hq
    · unfold impl_Dead.f impl_isImage.f
      refine Ev.val (Ev.pos hok (Ev.pos (by omega) (Ev.pos (by omega) ?_)))
      have hs0 : ((List.replicate ((l.length : Int)).toNat false : List Bool)) = List.replicate l.length false := rfl
      rw [hs0]
      refine ev_Dead_look hl hx (fun s hs hj => ?_) _ _ _ (Nat.le_refl _) ⟨by simp, ?_, ?_, ?_, ?_, ?_⟩
      · rw [f2 s hs hj]
        exact ev_Dead_l1i sf (by omega)
      · intro j hj
        rw [List.mem_singleton] at hj
        subst hj
        exact ⟨by omega, by omega, Rch.zero⟩
      · intro j hj
        rw [seen_none] at hj
        cases hj
      · rw [news_none, List.length_singleton]
        omega
      · right
        simp
      · intro j hj
        rw [seen_none] at hj
        cases hj
  · refine ⟨[], by simp, ?_, ?_⟩
    · unfold spec_Dead.f
      refine Ev.val (Ev.bind (ev_ImageOk_spec x0 x1 x2 l (by omega) (by omega)) ?_)
      exact Ev.neg hok (Ev.now _)
    · unfold impl_Dead.f impl_isImage.f
      exact Ev.val (Ev.neg hok (Ev.now _))
theorem FnExactDead_good (x : S28) (hf : fit28 x) : ∃ k, laws_FnExactDead.f k x.f0 x.f1 x.f2 x.f3 = some true := by
  obtain ⟨h0, _, _, h3⟩ := hf
  obtain ⟨t, e1, e2, e3⟩ := sz_image x.f0 x.f1 x.f2 x.f3 1048576 (by omega) (by omega) h0.1 h3.1
  refine Ev.rounds (g := fun k => laws_FnExactDead.f k x.f0 x.f1 x.f2 x.f3) ?_
  unfold laws_FnExactDead.f
  rw [e1]
  refine Ev.val ?_
  by_cases ht : t < 0
  · exact Ev.pos ht (Ev.now _)
  refine Ev.neg ht ?_
  obtain ⟨b0, b3⟩ := e3 (by omega)
  have hT := ev_toImage x.f0 x.f1 x.f2 x.f3 b0 b3
  have hm : (x.f3.map toWord).length ≤ 1048576 := by rw [List.length_map]; exact b3
  obtain ⟨r, r1, r2, r3⟩ := ev_Dead x.f0 x.f1 x.f2 (x.f3.map toWord) b0 hm
  have hq := ev_eqIntS r (by omega)
  refine Ev.bind hT (Ev.bind r2 (Ev.bind hT (Ev.bind r3 (Ev.bind hq (Ev.pos rfl (Ev.bind hT (Ev.bind (ev_eqImage x.f0 x.f1 x.f2 (x.f3.map toWord) (by omega) (by omega)) (Ev.pos rfl ?_))))))))
  have hM : Ev (fun k => laws_markImage.f k x.f0 x.f1 x.f2 (x.f3.map toWord) 1) (1 + x.f0.length + 5 * (x.f3.map toWord).length, iota 1 x.f0.length, iotaWord (1 + x.f0.length) (x.f3.map toWord).length) := by
    unfold laws_markImage.f
    exact Ev.bind (ev_markIntS x.f0 1 (by omega) (by omega)) (Ev.bind (ev_markWordS (x.f3.map toWord) (1 + x.f0.length) (by omega) (by omega)) (Ev.now _))
  have hI := ev_markIntS r 1 (by omega) (by omega)
  have hH := ev_heldIntS 1 r.length (by omega) (by omega)
  refine Ev.bind hM (Ev.neg (by omega) (Ev.bind hq ?_))
  refine Ev.pos rfl (Ev.bind hI (Ev.bind hH (Ev.neg (by omega) (Ev.pos rfl (Ev.bind hT (Ev.bind r3 (Ev.bind hq (Ev.pos rfl (Ev.bind hH (Ev.neg (by omega) (Ev.pos rfl (Ev.now _))))))))))))

end Go.Proofs.Ytnbaojaocagjcaa.P
end
