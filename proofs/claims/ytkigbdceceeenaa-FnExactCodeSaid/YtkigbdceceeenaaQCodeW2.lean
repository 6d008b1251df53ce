import Derived.Test.YtkigbdceceeenaaQCodeW1
import Derived.Laws.StructEq
section
namespace Go.Proofs.Oa.Rb
open Go.RowKit
section
variable {P:Program} {d:Nat} {xs ys:Array Value} {f:Field} {fs:List Field} {a b:Value} {r s:Bool} {w:World}
theorem NV (hn:(f.name == "_")=false) (ha:(part f.type xs f.offset).run P w = .ok a w) (hb:(part f.type ys f.offset).run P w = .ok b w) (he:(Op.equalIn d f.type a b).run P w = .ok r w):(Op.eqFields d xs ys [f]).run P w = .ok r w:=by
 have hn':f.name ≠ "_" := by simpa using hn
 simp only [Op.eqFields,if_pos hn',Sem.run_bind,ha,hb,he,Result.andThen_ok];cases r <;> simp
theorem Bs (hn:(f.name == "_")=false) (ha:(part f.type xs f.offset).run P w = .ok a w) (hb:(part f.type ys f.offset).run P w = .ok b w) (he:(Op.equalIn d f.type a b).run P w = .ok r w) (hr:(Op.eqFields d xs ys fs).run P w = .ok s w):(Op.eqFields d xs ys (f :: fs)).run P w = .ok (r && s) w:=by
 have hn':f.name ≠ "_" := by simpa using hn
 rw [Op.eqFields];simp only [if_pos hn',Sem.run_bind,ha,hb,he,Result.andThen_ok];cases r
 ·simp
 ·simpa using hr
theorem kac {t:TypeId} {fs:Array Field} (hu:P.underlying t=some (.struct fs)) (hp:P.stoodInHeld t=false) (h:(Op.eqFields d xs ys fs.toList).run P w = .ok r w):(Op.equalIn (d + 1) t (.agg xs) (.agg ys)).run P w = .ok r w:=by
 have hf:P.fieldsOf t=fs:=by simp [Program.fieldsOf,hu]
 rw [run_equalIn_struct (P:=P) w d t xs ys (by rw [hf];exact hu) hp,hf];exact h
end
end Go.Proofs.Oa.Rb
end
section
namespace Go.Proofs.Oa.Rb
theorem Wc.one {α:Type} {R:α→List Value→Prop} {ps:List α} {cs:List Value} {p:α} {v:Value} (hp:R p [v]) (h:Wc R 1 ps cs):Wc R 1 (p :: ps) (v :: cs):=by
 refine ⟨by simp [h.1],fun j q hq=>?_⟩;cases j with
 | zero =>
  simp only [List.getElem?_cons_zero,Option.some.injEq] at hq;subst hq
  simpa using hp
 | succ j =>
  simp only [List.getElem?_cons_succ] at hq;have h1:=h.2 j q hq
  simpa [Nat.mul_one] using h1
theorem Wc.front {α:Type} {R:α→List Value→Prop} {size:Nat} {ps:List α} {cs c all:List Value} {p:α} (hp:R p c) (hc:c.length=size) (h:Wc R size ps cs) (ha:c ++ cs=all):Wc R size (p :: ps) all:=by
 subst ha;refine ⟨by rw [List.length_append,hc,h.1,List.length_cons,Nat.succ_mul,Nat.add_comm],fun j q hq=>?_⟩;cases j with
 | zero =>
  simp only [List.getElem?_cons_zero,Option.some.injEq] at hq;subst hq;rw [Nat.zero_mul,List.drop_zero,List.take_append_of_le_length (by omega),List.take_of_length_le (by omega)];exact hp
 | succ j =>
  simp only [List.getElem?_cons_succ] at hq;have h1:=h.2 j q hq;rw [Nat.succ_mul,List.drop_append,List.drop_of_length_le (by rw [hc];exact Nat.le_add_left _ _),List.nil_append,hc,Nat.add_sub_cancel];exact h1
theorem Wc.c2 {α:Type} {R:α→List Value→Prop} {ps:List α} {cs:List Value} {p:α} {va vb:Value} (hp:R p [va,vb]) (h:Wc R 2 ps cs):Wc R 2 (p :: ps) (va :: vb :: cs):=Wc.front hp rfl h rfl
theorem Wc.c3 {α:Type} {R:α→List Value→Prop} {ps:List α} {cs:List Value} {p:α} {va vb vc:Value} (hp:R p [va,vb,vc]) (h:Wc R 3 ps cs):Wc R 3 (p :: ps) (va :: vb :: vc :: cs):=Wc.front hp rfl h rfl
theorem Wc.c4 {α:Type} {R:α→List Value→Prop} {ps:List α} {cs:List Value} {p:α} {va vb vc vd:Value} (hp:R p [va,vb,vc,vd]) (h:Wc R 4 ps cs):Wc R 4 (p :: ps) (va :: vb :: vc :: vd :: cs):=Wc.front hp rfl h rfl
theorem Wc.c5 {α:Type} {R:α→List Value→Prop} {ps:List α} {cs:List Value} {p:α} {va vb vc vd ve:Value} (hp:R p [va,vb,vc,vd,ve]) (h:Wc R 5 ps cs):Wc R 5 (p :: ps) (va :: vb :: vc :: vd :: ve :: cs):=Wc.front hp rfl h rfl
theorem Wc.c6 {α:Type} {R:α→List Value→Prop} {ps:List α} {cs:List Value} {p:α} {va vb vc vd ve vf:Value} (hp:R p [va,vb,vc,vd,ve,vf]) (h:Wc R 6 ps cs):Wc R 6 (p :: ps) (va :: vb :: vc :: vd :: ve :: vf :: cs):=Wc.front hp rfl h rfl
theorem Wc.c7 {α:Type} {R:α→List Value→Prop} {ps:List α} {cs:List Value} {p:α} {va vb vc vd ve vf vg:Value} (hp:R p [va,vb,vc,vd,ve,vf,vg]) (h:Wc R 7 ps cs):Wc R 7 (p :: ps) (va :: vb :: vc :: vd :: ve :: vf :: vg :: cs):=Wc.front hp rfl h rfl
theorem Wc.c8 {α:Type} {R:α→List Value→Prop} {ps:List α} {cs:List Value} {p:α} {va vb vc vd ve vf vg vh:Value} (hp:R p [va,vb,vc,vd,ve,vf,vg,vh]) (h:Wc R 8 ps cs):Wc R 8 (p :: ps) (va :: vb :: vc :: vd :: ve :: vf :: vg :: vh :: cs):=Wc.front hp rfl h rfl
theorem Wc.c9 {α:Type} {R:α→List Value→Prop} {ps:List α} {cs:List Value} {p:α} {va vb vc vd ve vf vg vh vi:Value} (hp:R p [va,vb,vc,vd,ve,vf,vg,vh,vi]) (h:Wc R 9 ps cs):Wc R 9 (p :: ps) (va :: vb :: vc :: vd :: ve :: vf :: vg :: vh :: vi :: cs):=Wc.front hp rfl h rfl
theorem Wc.WM {α:Type} {R:α→List Value→Prop} {ps:List α} {cs:List Value} {p:α} {va vb vc vd ve vf vg vh vi vj:Value} (hp:R p [va,vb,vc,vd,ve,vf,vg,vh,vi,vj]) (h:Wc R 10 ps cs):Wc R 10 (p :: ps) (va :: vb :: vc :: vd :: ve :: vf :: vg :: vh :: vi :: vj :: cs):=Wc.front hp rfl h rfl
end Go.Proofs.Oa.Rb
end
section
namespace Go.Proofs.Oa.Pd
section
variable {P:Program} {ops:Array Oper} {Q:Exit→Act→World→Prop} {md:Region.Mode} {T:Bool × List (List Nat × List Nat)} {B:List Nat} {O:List Nat} {b:Nat→Bool} {i j n:Nat}
end
end Go.Proofs.Oa.Pd
end
section
namespace Go.Proofs.Oa.Rb
open Go.RowKit
end Go.Proofs.Oa.Rb
namespace Go.Proofs.Oa.Pd
section
variable {ops:Array Oper} {a:Act} {o og:Oper} {g:Nat} {t:Tmp} {u:Bool}
end
end Go.Proofs.Oa.Pd
end
section
namespace Go.Proofs.Oa.Rb
open Go.RowKit
section
variable {P:Program} {ops:Array Oper} {rest:List Oper} {o:Oper} {a:Act} {Q:Exit→Act→World→Prop} {W:World}
theorem Vj (hw:Region.wanted o (yielded ops a.tmps)=true) (h:wpList P ops Q ({ o with guard:=none } :: rest) a W):wpList P ops Q (o :: rest) a W:=by
 have h1:Region.wanted { o with guard:=none } (yielded ops a.tmps)=true:=rfl;unfold wpList at h ⊢;rw [if_pos h1] at h;rw [if_pos hw];exact h
end
end Go.Proofs.Oa.Rb
end
section
namespace Go.Proofs.Oa.Rb
open Go.RowKit
namespace Kd
section
variable {α:Type} {d:Kd α} {e base n cap g:Nat} {ok xy Sh:Nat→Prop} {w w1 W:World} {v v1:Value} {xs ys:List α}
end
section
variable {P:Program} {ops:Array Oper} {rest:List Oper} {o:Oper} {a:Act} {Q:Exit→Act→World→Prop} {Kc:Act→World→Prop} {α:Type}
end
end Kd
end Go.Proofs.Oa.Rb
end
section
namespace Go.Proofs.Oa.Re
open Go.RowKit Go.Proofs.Oa.Rb
namespace Kd
open Go.Proofs.Oa.Rb.Kd
end Kd
namespace Kd
open Go.Proofs.Oa.Rb.Kd
section
variable {α:Type} {d:Kd α} {e base g N:Nat} {ok:Nat→Prop} {W w1:World} {u v:Value} {xs:List α}
end
end Kd
theorem Mh (k k':IntKind) (x y:Int):Builtin.max2 (.int k x) (.int k' y)=pure (.int k (if x < y then y else x)):=by simp only [Builtin.max2,gt_iff_lt]
theorem ki (k k':IntKind) (x y:Int):Builtin.min2 (.int k x) (.int k' y)=pure (.int k (if y < x then y else x)):=by simp only [Builtin.min2]
theorem rj (ats:Array TypeId) (ty:TypeId) (a b:Value):Builtin.max_ ats ty #[a,b]=(Builtin.max2 a b >>= fun s=>pure s):=by simp only [Builtin.max_,List.foldlM_cons,List.foldlM_nil]
theorem Kj (ats:Array TypeId) (ty:TypeId) (a b:Value):Builtin.min_ ats ty #[a,b]=(Builtin.min2 a b >>= fun s=>pure s):=by simp only [Builtin.min_,List.foldlM_cons,List.foldlM_nil]
theorem th (ats:Array TypeId) (ty:TypeId) (a b c:Value):Builtin.max_ ats ty #[a,b,c]=(Builtin.max2 a b >>= fun s=>Builtin.max2 s c >>= fun s=>pure s):=by simp only [Builtin.max_,List.foldlM_cons,List.foldlM_nil]
theorem qh (ats:Array TypeId) (ty:TypeId) (a b c:Value):Builtin.min_ ats ty #[a,b,c]=(Builtin.min2 a b >>= fun s=>Builtin.min2 s c >>= fun s=>pure s):=by simp only [Builtin.min_,List.foldlM_cons,List.foldlM_nil]
theorem ni (ats:Array TypeId) (ty:TypeId) (a b c d:Value):Builtin.max_ ats ty #[a,b,c,d]=(Builtin.max2 a b >>= fun s=>Builtin.max2 s c >>= fun s=>Builtin.max2 s d >>= fun s=>pure s):=by simp only [Builtin.max_,List.foldlM_cons,List.foldlM_nil]
theorem ji (ats:Array TypeId) (ty:TypeId) (a b c d:Value):Builtin.min_ ats ty #[a,b,c,d]=(Builtin.min2 a b >>= fun s=>Builtin.min2 s c >>= fun s=>Builtin.min2 s d >>= fun s=>pure s):=by simp only [Builtin.min_,List.foldlM_cons,List.foldlM_nil]
end Go.Proofs.Oa.Re
namespace Go.Proofs.Oa.Rb
open Go.RowKit
section
variable {P:Program} {ops:Array Oper} {rest:List Oper} {o:Oper} {a:Act} {Q:Exit→Act→World→Prop} {W:World}
theorem Cb {f:FuncId} {as:Array Operand} {ts:Array TypeId} (_ho:o.op = .call { callee:=.value (.func f),args:=as,argTypes:=ts }) (h:wpList P ops Q (o :: rest) a W):wpList P ops Q (o :: rest) a W:=h
theorem Qe {b:Builtin} {xs:Array Operand} {ts:Array TypeId} (_ho:o.op = .call { callee:=.builtin b,args:=xs,argTypes:=ts }) (h:wpList P ops Q (o :: rest) a W):wpList P ops Q (o :: rest) a W:=h
end
namespace Kd
section
variable {α:Type} {d:Kd α} {e base:Nat} {ok:Nat→Prop} {W w1:World} {v:Value} {xs:List α}
end
section
variable {α:Type} {d:Kd α} {e base g n cap:Nat} {ok Io Sh:Nat→Prop} {W:World} {xs:List α} {i:Int} {c:List Value}
theorem dad (hH:H d e W base ok (.slice (some ⟨g,0,none⟩) n cap) xs i Io c) (h0:0 ≤ i) (h1:i < n) {seg:List Value} {j:Nat} (hj:j + seg.length ≤ d.sz)
  {x':α} (hM:d.M W base Sh x' (c.take j ++ seg ++ c.drop (j + seg.length))) (Yr:∀ k,Sh k→Io k) :
  S d e (W.setCells g (i.toNat * d.sz + j) seg) base ok (.slice (some ⟨g,0,none⟩) n cap) (xs.set i.toNat x')∧W.grownBy (W.setCells g (i.toNat * d.sz + j) seg) (some g) :=
 L9 (QM:=fun _=>False) (uad hH (fun _ hk=>⟨hk,fun h=>h⟩)) h0 h1 hj hM (fun k hk=>.inl (Yr k hk)) (fun _ hk=>hk.elim)
end
section
variable {α:Type} {d:Kd α} {e base b b' g N:Nat} {ok ok1:Nat→Prop} {W W2 w1:World} {u v:Value} {xs ys:List α} {S:Nat→Prop}
theorem tO (hE:d.E=[]) (h:d.R e W base ok1 v xs) (hok:∀ k,v.ownBlock=some k→ok k):d.R e W base ok v xs:=yc (MA hE h) (fun k hk=>hok k hk.symm)
theorem wR (h:d.R e W base ok v xs) (hk:Kept W W2 S) (hne:∀ k,ok k→¬ S k):d.R e W2 base (fun k=>ok k∧(¬ S k∧k < W.heap.size)) v xs :=
 Kh (yc (Xf h) (fun k hk=>⟨hk.1,hne k hk.1,hk.2.2.1⟩)) hk (fun _ hk=>hk.2.1)
end
end Kd
end Go.Proofs.Oa.Rb
namespace Go.Proofs.Oa.Rb
open Go.RowKit
namespace Kd
def V {α:Type} (d:Kd α) (_e:Nat) (W:World) (_base:Nat) (ok:Nat→Prop) (v:Value) (xs:List α):Prop:=∃ A c,v = .slice A xs.length c∧xs.length ≤ c∧F d W ok A xs.length xs
section
variable {α β:Type} {d:Kd α} {e base base' n m c g N' lo hi:Nat} {ok xy S:Nat→Prop} {w W w1:World} {A:Option Addr} {ad:Addr} {u v v1:Value} {xs:List α}
theorem eH (d:Kd α) (e:Nat) (W:World) (base:Nat) (ok:Nat→Prop):V d e W base ok (.slice none 0 0) []:=⟨none,0,rfl,Nat.le_refl _,Ban d W ok⟩
theorem mad {M:Nat→Prop} (h:d.R e w1 W.heap.size ok v xs) (hle:w.heap.size ≤ W.heap.size) (hM:∀ k,w.heap.size ≤ k→M k):d.R e w1 W.heap.size (fun k=>M k∧ok k) v xs:=yc (Xf h) (fun k hk=>⟨hM k (Nat.le_trans hle hk.2.1),hk.1⟩)
end
end Kd
theorem Ja {w w':World} {a:Addr} {v:Value} (h:Below w.heap.size w w') (hx:w.cell? a=some v):w'.cell? a=some v:=(h.cell (World.block_lt_of_cell? w _ hx)).trans hx
theorem Va {p:Prop} [Decidable p] (h:decide p=true:=by first|(with_reducible assumption)|assumption):p:=of_decide_eq_true h
theorem Xaz {w:World} {g:Nat} {t:TypeId} {sM rM qM pM:Value} {r:List Value} (h:w.heap[g]? = some (.cells (sM :: rM :: qM :: pM :: r).toArray t (0,0))):w.cell? ⟨g,0,none⟩=some sM∧w.cell? ⟨g,1,none⟩=some rM∧w.cell? ⟨g,2,none⟩=some qM∧w.cell? ⟨g,3,none⟩=some pM:=⟨(ja h 0).trans rfl,(ja h 1).trans rfl,(ja h 2).trans rfl,(ja h 3).trans rfl⟩
theorem Waz {w:World} {g:Nat} {t:TypeId} {sM rM qM pM iW:Value} {r:List Value} (h:w.heap[g]? = some (.cells (sM :: rM :: qM :: pM :: iW :: r).toArray t (0,0))):w.cell? ⟨g,0,none⟩=some sM∧w.cell? ⟨g,1,none⟩=some rM∧w.cell? ⟨g,2,none⟩=some qM∧w.cell? ⟨g,3,none⟩=some pM∧w.cell? ⟨g,4,none⟩=some iW:=⟨(ja h 0).trans rfl,(ja h 1).trans rfl,(ja h 2).trans rfl,(ja h 3).trans rfl,(ja h 4).trans rfl⟩
theorem Vaz {w:World} {g:Nat} {t:TypeId} {sM rM qM pM iW a5_ a6_:Value} {r:List Value} (h:w.heap[g]? = some (.cells (sM :: rM :: qM :: pM :: iW :: a5_ :: a6_ :: r).toArray t (0,0))):w.cell? ⟨g,0,none⟩=some sM∧w.cell? ⟨g,1,none⟩=some rM∧w.cell? ⟨g,2,none⟩=some qM∧w.cell? ⟨g,3,none⟩=some pM∧w.cell? ⟨g,4,none⟩=some iW∧w.cell? ⟨g,5,none⟩=some a5_∧w.cell? ⟨g,6,none⟩=some a6_:=⟨(ja h 0).trans rfl,(ja h 1).trans rfl,(ja h 2).trans rfl,(ja h 3).trans rfl,(ja h 4).trans rfl,(ja h 5).trans rfl,(ja h 6).trans rfl⟩
theorem bT {w:World} {g:Nat} {t:TypeId} {sM rM qM pM:Value} {r:List Value} (h:w.heap[g]? = some (.cells (sM :: rM :: qM :: pM :: r).toArray t (0,0))):w.cell? ⟨g,0,none⟩=some sM∧w.cell? ⟨g,1,none⟩=some rM∧w.cell? ⟨g,2,none⟩=some qM∧w.cell? ⟨g,3,none⟩=some pM∧w.frozen? ⟨g,0,none⟩=false∧w.frozen? ⟨g,1,none⟩=false∧w.frozen? ⟨g,2,none⟩=false∧w.frozen? ⟨g,3,none⟩=false:=⟨(ja h 0).trans rfl,(ja h 1).trans rfl,(ja h 2).trans rfl,(ja h 3).trans rfl,qa h 0,qa h 1,qa h 2,qa h 3⟩
theorem ri {w:World} {g:Nat} {t:TypeId} {sM rM qM pM iW:Value} {r:List Value} (h:w.heap[g]? = some (.cells (sM :: rM :: qM :: pM :: iW :: r).toArray t (0,0))):w.cell? ⟨g,0,none⟩=some sM∧w.cell? ⟨g,1,none⟩=some rM∧w.cell? ⟨g,2,none⟩=some qM∧w.cell? ⟨g,3,none⟩=some pM∧w.cell? ⟨g,4,none⟩=some iW∧w.frozen? ⟨g,0,none⟩=false∧w.frozen? ⟨g,1,none⟩=false∧w.frozen? ⟨g,2,none⟩=false∧w.frozen? ⟨g,3,none⟩=false∧w.frozen? ⟨g,4,none⟩=false:=⟨(ja h 0).trans rfl,(ja h 1).trans rfl,(ja h 2).trans rfl,(ja h 3).trans rfl,(ja h 4).trans rfl,qa h 0,qa h 1,qa h 2,qa h 3,qa h 4⟩
theorem kj {w:World} {g:Nat} {t:TypeId} {sM rM qM pM iW a5_ a6_:Value} {r:List Value} (h:w.heap[g]? = some (.cells (sM :: rM :: qM :: pM :: iW :: a5_ :: a6_ :: r).toArray t (0,0))):w.cell? ⟨g,0,none⟩=some sM∧w.cell? ⟨g,1,none⟩=some rM∧w.cell? ⟨g,2,none⟩=some qM∧w.cell? ⟨g,3,none⟩=some pM∧w.cell? ⟨g,4,none⟩=some iW∧w.cell? ⟨g,5,none⟩=some a5_∧w.cell? ⟨g,6,none⟩=some a6_∧w.frozen? ⟨g,0,none⟩=false∧w.frozen? ⟨g,1,none⟩=false∧w.frozen? ⟨g,2,none⟩=false∧w.frozen? ⟨g,3,none⟩=false∧w.frozen? ⟨g,4,none⟩=false∧w.frozen? ⟨g,5,none⟩=false∧w.frozen? ⟨g,6,none⟩=false:=⟨(ja h 0).trans rfl,(ja h 1).trans rfl,(ja h 2).trans rfl,(ja h 3).trans rfl,(ja h 4).trans rfl,(ja h 5).trans rfl,(ja h 6).trans rfl,qa h 0,qa h 1,qa h 2,qa h 3,qa h 4,qa h 5,qa h 6⟩
end Go.Proofs.Oa.Rb
end
