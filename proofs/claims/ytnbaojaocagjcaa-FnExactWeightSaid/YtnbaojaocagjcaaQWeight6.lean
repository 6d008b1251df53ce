-- Joined by pack.py from FHPureGraph, FHGoodWeight
import Derived.Test.YtnbaojaocagjcaaQWeight1
import Derived.Test.YtnbaojaocagjcaaQWeight2
import Derived.Test.YtnbaojaocagjcaaQWeight4
import Derived.Test.YtnbaojaocagjcaaQWeight3
import Derived.Test.YtnbaojaocagjcaaQWeight5
section
-- Written for this claim by gp.py over the kit's print; not trusted: Lean checks it.
















namespace Go.Proofs.Ytnbaojaocagjcaa.P
open Go.RowKit Go.Proofs.YtnbaojaocagjcaaW.PrintWords Go.Proofs.YtnbaojaocagjcaaW.PrintLast Go.Proofs.YtnbaojaocagjcaaW.PrintMore
set_option linter.unusedVariables false
set_option linter.unusedSimpArgs false

def textsI (l : List S109) : Nat := (l.map fun x => x.f6.size).sum
def szI (l : List S109) : Nat := l.length + textsI l
def szB (l : List S83) : Nat := l.length + (l.map fun x => szI x.f0).sum
theorem rd_laws_Instr {l : List S109} {i : Nat} (h : i < l.length) : rd_T109 l (i : Int) = l[i] := by simp [rd_T109, List.getD_eq_getElem?_getD, h]
theorem rd_laws_Block {l : List S83} {i : Nat} (h : i < l.length) : rd_T83 l (i : Int) = l[i] := by simp [rd_T83, List.getD_eq_getElem?_getD, h]
theorem ev_szInstrS (l : List S109) (a : Int) (ha : 0 ≤ a) (ha' : a ≤ 1048576) (hl : l.length ≤ 9223372036854775807) (ht : ∀ x ∈ l, x.f6.size ≤ 9223372036854775807) :
    ∃ t, Ev (fun k => laws_szInstrS.f k l a) t ∧ t ≤ a ∧ (0 ≤ t → t + szI l = a) := by
  have key := ev_upto (ρ := Unit) (r := ()) (n := l.length) (fun i => ∀ a : Int, 0 ≤ a → a ≤ 1048576 → ∃ t, Ev (fun k => laws_szInstrS.l0 k l a (i : Int)) t ∧ t ≤ a ∧ (0 ≤ t → t + textsI (l.drop i) = a)) ?_ ?_ 0 (by omega)
  · unfold laws_szInstrS.f
    rw [wrap_in (by omega) (by omega)]
    by_cases h : a - (l.length : Int) < 0
    · exact ⟨-1, Ev.pos h (Ev.now _), by omega, by omega⟩
    · obtain ⟨t, e1, e2, e3⟩ := key (a - l.length) (by omega) (by omega)
      refine ⟨t, Ev.neg h e1, by omega, fun h0 => ?_⟩
      have := e3 h0
      rw [List.drop_zero] at this
      unfold szI
      omega
  · intro a h0 h1
    refine ⟨a, ?_, by omega, ?_⟩
    · refine Ev.step (fun k => by rw [laws_szInstrS.l0]) ?_
      exact Ev.neg (by omega) (Ev.now _)
    · intro _
      rw [List.drop_length]
      simp [textsI]
  · intro i hi ih a h0 h1
    have hx := ht l[i] (List.getElem_mem hi)
    have hd : textsI (l.drop i) = l[i].f6.size + textsI (l.drop (i + 1)) := by
      rw [List.drop_eq_getElem_cons hi]
      simp only [textsI, List.map_cons, List.sum_cons]
    by_cases h : a - (l[i].f6.size : Int) < 0
    · refine ⟨-1, ?_, by omega, by omega⟩
      refine Ev.step (fun k => by rw [laws_szInstrS.l0]) ?_
      refine Ev.pos (by omega) (Ev.pos (by omega) ?_)
      rw [rd_laws_Instr hi]
      unfold laws_szInstr.f
      rw [wrap_in (by omega) (by omega), if_pos h]
      exact Ev.val (Ev.pos (by decide) (Ev.now _))
    · obtain ⟨t, e1, e2, e3⟩ := ih (a - l[i].f6.size) (by omega) (by omega)
      refine ⟨t, ?_, by omega, fun hh => by have := e3 hh; omega⟩
      refine Ev.step (fun k => by rw [laws_szInstrS.l0]) ?_
      refine Ev.pos (by omega) (Ev.pos (by omega) ?_)
      rw [rd_laws_Instr hi]
      unfold laws_szInstr.f
      rw [wrap_in (by omega) (by omega), if_neg h]
      refine Ev.val (Ev.neg (by omega) ?_)
      rw [wrap_succ hi hl]
      exact e1
theorem ev_szBlockS (l : List S83) (a : Int) (ha : 0 ≤ a) (ha' : a ≤ 1048576) (hl : l.length ≤ 9223372036854775807) (ht : ∀ x ∈ l, x.f0.length ≤ 9223372036854775807 ∧ ∀ y ∈ x.f0, y.f6.size ≤ 9223372036854775807) :
    ∃ t, Ev (fun k => laws_szBlockS.f k l a) t ∧ t ≤ a ∧ (0 ≤ t → t + szB l = a) := by
  have key := ev_upto (ρ := Unit) (r := ()) (n := l.length) (fun i => ∀ a : Int, 0 ≤ a → a ≤ 1048576 → ∃ t, Ev (fun k => laws_szBlockS.l0 k l a (i : Int)) t ∧ t ≤ a ∧ (0 ≤ t → t + ((l.drop i).map fun x => szI x.f0).sum = a)) ?_ ?_ 0 (by omega)
  · unfold laws_szBlockS.f
    rw [wrap_in (by omega) (by omega)]
    by_cases h : a - (l.length : Int) < 0
    · exact ⟨-1, Ev.pos h (Ev.now _), by omega, by omega⟩
    · obtain ⟨t, e1, e2, e3⟩ := key (a - l.length) (by omega) (by omega)
      refine ⟨t, Ev.neg h e1, by omega, fun h0 => ?_⟩
      have := e3 h0
      rw [List.drop_zero] at this
      unfold szB
      omega
  · intro a h0 h1
    refine ⟨a, ?_, by omega, ?_⟩
    · refine Ev.step (fun k => by rw [laws_szBlockS.l0]) ?_
      exact Ev.neg (by omega) (Ev.now _)
    · intro _
      rw [List.drop_length]
      simp
  · intro i hi ih a h0 h1
    have hx := ht l[i] (List.getElem_mem hi)
    have hd : ((l.drop i).map fun x => szI x.f0).sum = szI l[i].f0 + ((l.drop (i + 1)).map fun x => szI x.f0).sum := by
      rw [List.drop_eq_getElem_cons hi]
      simp only [List.map_cons, List.sum_cons]
    obtain ⟨u, f1, f2, f3⟩ := ev_szInstrS l[i].f0 a h0 h1 hx.1 hx.2
    by_cases h : u < 0
    · refine ⟨-1, ?_, by omega, by omega⟩
      refine Ev.step (fun k => by rw [laws_szBlockS.l0]) ?_
      refine Ev.pos (by omega) (Ev.pos (by omega) ?_)
      rw [rd_laws_Block hi]
      unfold laws_szBlock.f
      refine Ev.bind (Ev.bind f1 (Ev.pos h (Ev.now _))) ?_
      exact Ev.pos (by decide) (Ev.now _)
    · obtain ⟨t, e1, e2, e3⟩ := ih u (by omega) (by omega)
      have := f3 (by omega)
      refine ⟨t, ?_, by omega, fun hh => by have := e3 hh; omega⟩
      refine Ev.step (fun k => by rw [laws_szBlockS.l0]) ?_
      refine Ev.pos (by omega) (Ev.pos (by omega) ?_)
      rw [rd_laws_Block hi]
      unfold laws_szBlock.f
      refine Ev.bind (Ev.bind f1 (Ev.neg h (Ev.now _))) ?_
      refine Ev.neg (by omega) ?_
      rw [wrap_succ hi hl]
      exact e1
theorem le_sum_nat {l : List Nat} {n : Nat} (h : n ∈ l) : n ≤ l.sum := by
  induction l with
  | nil => cases h
  | cons a l ih =>
    rw [List.sum_cons]
    cases h with
    | head => omega
    | tail _ h => have := ih h; omega
theorem sz_le_block {l : List S83} {n : Nat} (h : szB l ≤ n) : l.length ≤ n ∧ ∀ x ∈ l, x.f0.length ≤ n := by
  unfold szB at h
  refine ⟨by omega, fun x hx => ?_⟩
  have : szI x.f0 ≤ (l.map fun x => szI x.f0).sum := le_sum_nat (List.mem_map.mpr ⟨x, hx, rfl⟩)
  unfold szI at this h
  omega
theorem ev_szGraph (x0 : List Int) (x1 x2 x3 : Int) (x4 : List S83) (a : Int) (ha : 0 ≤ a) (ha' : a ≤ 1048576) (h0 : x0.length ≤ 9223372036854775807) (hl : x4.length ≤ 9223372036854775807) (ht : ∀ x ∈ x4, x.f0.length ≤ 9223372036854775807 ∧ ∀ y ∈ x.f0, y.f6.size ≤ 9223372036854775807) :
    ∃ t, Ev (fun k => laws_szGraph.f k x0 x1 x2 x3 x4 a) t ∧ t ≤ a ∧ (0 ≤ t → t + x0.length + szB x4 = a) := by
  obtain ⟨t, e1, e2, e3⟩ := sz_ints x0 a ha ha' h0
  unfold laws_szGraph.f
  rw [e1]
  simp only [Option.bind_some]
  by_cases ht' : t < 0
  · exact ⟨-1, Ev.pos ht' (Ev.now _), by omega, by omega⟩
  · obtain ⟨u, f1, f2, f3⟩ := ev_szBlockS x4 t (by omega) (by omega) hl ht
    by_cases hu : u < 0
    · exact ⟨-1, Ev.neg ht' (Ev.bind f1 (Ev.pos hu (Ev.now _))), by omega, by omega⟩
    · exact ⟨u, Ev.neg ht' (Ev.bind f1 (Ev.neg hu (Ev.now _))), by omega, fun _ => by have := e3 (by omega); have := f3 (by omega); omega⟩
def toBlock (x : S83) : S66 := ⟨x.f0.map toInstr, x.f1, x.f2, x.f3, x.f4⟩
theorem ev_toBlockS (l : List S83) (hl : l.length ≤ 1048576) (hb : ∀ x ∈ l, x.f0.length ≤ 1048576) : Ev (fun k => laws_toBlockS.f k l) (l.map toBlock) := by
  refine Ev.congr (f := fun k => laws_toBlockS.l0 k l (List.replicate l.length z66) 0) (fun k => ?_) ?_
  · unfold laws_toBlockS.f
    rw [if_pos (by omega), if_pos (by omega)]
    rfl
  · have key := ev_upto (r := l.map toBlock) (n := l.length) (fun i => Ev (fun k => laws_toBlockS.l0 k l ((l.map toBlock).take i ++ List.replicate ((l.map toBlock).length - i) z66) (i : Int)) (l.map toBlock)) ?_ ?_ 0 (by omega)
    · rw [fill_zero, List.length_map] at key
      exact key
    · refine Ev.step (fun k => by rw [laws_toBlockS.l0]) ?_
      refine Ev.neg (by omega) ?_
      have e := fill_all (m := l.map toBlock) (z := z66)
      rw [List.length_map] at e
      rw [List.length_map, e]
      exact Ev.now _
    · intro i hi h
      refine Ev.step (fun k => by rw [laws_toBlockS.l0]) ?_
      refine Ev.pos (by omega) (Ev.pos (by omega) ?_)
      unfold laws_toBlock.f
      have hx := hb l[i] (List.getElem_mem hi)
      rw [rd_laws_Block hi]
      refine Ev.bind (Ev.bind (ev_toInstrS l[i].f0 (by omega)) (Ev.now _)) ?_
      refine Ev.pos (by simp; omega) ?_
      have hc : toBlock l[i] = (l.map toBlock).getD i z66 := by
        simp [List.getD_eq_getElem?_getD, hi]
      have hf := fill_set (m := l.map toBlock) (z := z66) (i := i) (by rw [List.length_map]; exact hi)
      rw [← hc] at hf
      rw [wrap_succ hi (by omega), Int.toNat_natCast]
      have e := hf ▸ h
      exact e
theorem rd_impl_Block {l : List S66} {i : Nat} (h : i < l.length) : rd_T66 l (i : Int) = l[i] := by simp [rd_T66, List.getD_eq_getElem?_getD, h]
theorem rd_impl_Instr {l : List S110} {i : Nat} (h : i < l.length) : rd_T110 l (i : Int) = l[i] := by simp [rd_T110, List.getD_eq_getElem?_getD, h]
theorem ev_eqBlockS (l : List S66) (hl : l.length ≤ 9223372036854775807) (hb : ∀ x ∈ l, x.f0.length ≤ 9223372036854775807) : Ev (fun k => laws_eqBlockS.f k l l) true := by
  refine Ev.congr (f := fun k => laws_eqBlockS.l0 k l l 0) (fun k => ?_) ?_
  · unfold laws_eqBlockS.f
    rw [if_pos rfl]
  · refine ev_upto (r := true) (n := l.length) (fun i => Ev (fun k => laws_eqBlockS.l0 k l l (i : Int)) true) ?_ ?_ 0 (by omega)
    · refine Ev.step (fun k => by rw [laws_eqBlockS.l0]) ?_
      exact Ev.neg (by omega) (Ev.now _)
    · intro i hi h
      refine Ev.step (fun k => by rw [laws_eqBlockS.l0]) ?_
      refine Ev.pos (by omega) (Ev.pos (by omega) (Ev.pos (by omega) ?_))
      unfold laws_eqBlock.f
      rw [rd_impl_Block hi]
      refine Ev.bind (Ev.bind (ev_eqInstrS l[i].f0 (hb _ (List.getElem_mem hi))) (Ev.pos rfl (Ev.pos rfl (Ev.pos rfl (Ev.pos rfl (Ev.pos rfl (Ev.now _))))))) (Ev.pos rfl ?_)
      rw [wrap_succ hi hl]
      exact h
theorem ev_toGraph (x0 : List Int) (x1 x2 x3 : Int) (x4 : List S83) (h0 : x0.length ≤ 1048576) (hl : x4.length ≤ 1048576) (hb : ∀ x ∈ x4, x.f0.length ≤ 1048576) : Ev (fun k => laws_toGraph.f k x0 x1 x2 x3 x4) (x0, x1, x2, x3, x4.map toBlock) := by
  unfold laws_toGraph.f
  exact Ev.bind (ev_toIntS x0 (by omega)) (Ev.bind (ev_toBlockS x4 hl hb) (Ev.now _))
theorem ev_eqGraph (x0 : List Int) (x1 x2 x3 : Int) (x4 : List S66) (h0 : x0.length ≤ 9223372036854775807) (hl : x4.length ≤ 9223372036854775807) (hb : ∀ x ∈ x4, x.f0.length ≤ 9223372036854775807) : Ev (fun k => laws_eqGraph.f k x0 x1 x2 x3 x4 x0 x1 x2 x3 x4) true := by
  unfold laws_eqGraph.f
  refine Ev.bind (ev_eqIntS x0 h0) ?_
  refine Ev.pos rfl (Ev.pos rfl (Ev.pos rfl (Ev.pos rfl ?_)))
  exact Ev.bind (ev_eqBlockS x4 hl hb) (Ev.pos rfl (Ev.now _))

end Go.Proofs.Ytnbaojaocagjcaa.P
end
section
-- Written for this claim by gp.py over the kit's print; not trusted: Lean checks it.







namespace Go.Proofs.Ytnbaojaocagjcaa.P
open Go.RowKit Go.Proofs.YtnbaojaocagjcaaW.PrintWords Go.Proofs.YtnbaojaocagjcaaW.PrintLast Go.Proofs.YtnbaojaocagjcaaW.PrintMore
set_option linter.unusedVariables false
set_option linter.unusedSimpArgs false

/-- What the graph weighs, from the i-th block on, when the blocks before weigh n. -/
def weighs (l : List S66) (n : Int) : Int := l.foldl (fun n x => wrap64 (n + (x.f0.length : Int))) n
theorem ev_Weight_spec (x0 : List Int) (x1 x2 x3 : Int) (x4 : List S66) (hl : x4.length ≤ 1048576) : Ev (fun k => spec_Weight.f k x0 x1 x2 x3 x4) (weighs x4 (x4.length : Int)) := by
  unfold spec_Weight.f
  have key := ev_upto (ρ := Unit) (r := ()) (n := x4.length) (fun i => ∀ n : Int, Ev (fun k => spec_Weight.l0 k n (i : Int) x0 x1 x2 x3 x4) (weighs (x4.drop i) n)) ?_ ?_ 0 (by omega)
  · exact key _
  · intro n
    refine Ev.step (fun k => by rw [spec_Weight.l0]) ?_
    rw [List.drop_length]
    exact Ev.neg (by omega) (Ev.now _)
  · intro i hi h n
    refine Ev.step (fun k => by rw [spec_Weight.l0]) ?_
    refine Ev.pos (by omega) (Ev.pos (by omega) ?_)
    rw [rd_impl_Block hi, wrap_succ hi (by omega), List.drop_eq_getElem_cons hi]
    exact h _
theorem ev_Weight_impl (x0 : List Int) (x1 x2 x3 : Int) (x4 : List S66) (hl : x4.length ≤ 1048576) : Ev (fun k => impl_Weight.f k x0 x1 x2 x3 x4) (weighs x4 (x4.length : Int)) := by
  unfold impl_Weight.f
  have key := ev_upto (ρ := Unit) (r := ()) (n := x4.length) (fun i => ∀ n : Int, Ev (fun k => impl_Weight.l0 k n x4 (x4.length : Int) (i : Int)) (weighs (x4.drop i) n)) ?_ ?_ 0 (by omega)
  · exact key _
  · intro n
    refine Ev.step (fun k => by rw [impl_Weight.l0]) ?_
    rw [List.drop_length]
    exact Ev.neg (by omega) (Ev.now _)
  · intro i hi h n
    refine Ev.step (fun k => by rw [impl_Weight.l0]) ?_
    refine Ev.pos (by omega) (Ev.pos (by omega) (Ev.pos (by omega) ?_))
    rw [rd_impl_Block hi, wrap_succ hi (by omega), List.drop_eq_getElem_cons hi]
    exact h _
theorem FnExactWeight_good (x : S40) (hf : fit40 x) : ∃ k, laws_FnExactWeight.f k x.f0 x.f1 x.f2 x.f3 x.f4 = some true := by
  obtain ⟨h0, _, _, _, h4⟩ := hf
  obtain ⟨t, e1, e2, e3⟩ := ev_szGraph x.f0 x.f1 x.f2 x.f3 x.f4 1048576 (by omega) (by omega) h0.1 h4.1 (fun b hb => ⟨(h4.2 b hb).1.1, fun y hy => ((h4.2 b hb).1.2 y hy).2.2.2.2.2.2⟩)
  refine Ev.rounds (g := fun k => laws_FnExactWeight.f k x.f0 x.f1 x.f2 x.f3 x.f4) ?_
  unfold laws_FnExactWeight.f
  refine Ev.bind e1 ?_
  by_cases ht : t < 0
  · exact Ev.pos ht (Ev.now _)
  refine Ev.neg ht ?_
  have hz := e3 (by omega)
  obtain ⟨b1, b2⟩ := sz_le_block (l := x.f4) (n := 1048576) (by omega)
  have hT := ev_toGraph x.f0 x.f1 x.f2 x.f3 x.f4 (by omega) b1 b2
  have hm : (x.f4.map toBlock).length ≤ 1048576 := by rw [List.length_map]; exact b1
  have hm2 : ∀ y ∈ x.f4.map toBlock, y.f0.length ≤ 9223372036854775807 := by
    intro y hy
    obtain ⟨z, hz, rfl⟩ := List.mem_map.mp hy
    have := b2 z hz
    unfold toBlock
    rw [List.length_map]
    omega
  refine Ev.bind hT (Ev.bind (ev_Weight_spec _ _ _ _ _ hm) (Ev.bind hT (Ev.bind (ev_Weight_impl _ _ _ _ _ hm) (Ev.pos rfl (Ev.bind hT (Ev.bind (ev_eqGraph x.f0 x.f1 x.f2 x.f3 (x.f4.map toBlock) (by omega) (by omega) hm2) (Ev.pos rfl (Ev.now _))))))))

end Go.Proofs.Ytnbaojaocagjcaa.P
end
