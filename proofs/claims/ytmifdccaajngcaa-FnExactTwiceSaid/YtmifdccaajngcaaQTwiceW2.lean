import Derived.Test.YtmifdccaajngcaaQTwiceW1
section
namespace Go.Proofs.Na.Ec
theorem Gf.one {α:Type} {R:α→List Value→Prop} {ps:List α} {cs:List Value} {p:α} {v:Value} (hp:R p [v]) (h:Gf R 1 ps cs):Gf R 1 (p :: ps) (v :: cs):=by
 refine ⟨by simp [h.1],fun j q hq=>?_⟩;cases j with
 | zero =>
  simp only [List.getElem?_cons_zero,Option.some.injEq] at hq;subst hq
  simpa using hp
 | succ j =>
  simp only [List.getElem?_cons_succ] at hq;have h1:=h.2 j q hq
  simpa [Nat.mul_one] using h1
theorem Gf.front {α:Type} {R:α→List Value→Prop} {size:Nat} {ps:List α} {cs c all:List Value} {p:α} (hp:R p c) (hc:c.length=size) (h:Gf R size ps cs) (ha:c ++ cs=all):Gf R size (p :: ps) all:=by
 subst ha;refine ⟨by rw [List.length_append,hc,h.1,List.length_cons,Nat.succ_mul,Nat.add_comm],fun j q hq=>?_⟩;cases j with
 | zero =>
  simp only [List.getElem?_cons_zero,Option.some.injEq] at hq;subst hq;rw [Nat.zero_mul,List.drop_zero,List.take_append_of_le_length (by omega),List.take_of_length_le (by omega)];exact hp
 | succ j =>
  simp only [List.getElem?_cons_succ] at hq;have h1:=h.2 j q hq;rw [Nat.succ_mul,List.drop_append,List.drop_of_length_le (by rw [hc];exact Nat.le_add_left _ _),List.nil_append,hc,Nat.add_sub_cancel];exact h1
theorem Gf.c2 {α:Type} {R:α→List Value→Prop} {ps:List α} {cs:List Value} {p:α} {va vb:Value} (hp:R p [va,vb]) (h:Gf R 2 ps cs):Gf R 2 (p :: ps) (va :: vb :: cs):=Gf.front hp rfl h rfl
theorem Gf.c3 {α:Type} {R:α→List Value→Prop} {ps:List α} {cs:List Value} {p:α} {va vb vc:Value} (hp:R p [va,vb,vc]) (h:Gf R 3 ps cs):Gf R 3 (p :: ps) (va :: vb :: vc :: cs):=Gf.front hp rfl h rfl
theorem Gf.c4 {α:Type} {R:α→List Value→Prop} {ps:List α} {cs:List Value} {p:α} {va vb vc vd:Value} (hp:R p [va,vb,vc,vd]) (h:Gf R 4 ps cs):Gf R 4 (p :: ps) (va :: vb :: vc :: vd :: cs):=Gf.front hp rfl h rfl
theorem Gf.c5 {α:Type} {R:α→List Value→Prop} {ps:List α} {cs:List Value} {p:α} {va vb vc vd ve:Value} (hp:R p [va,vb,vc,vd,ve]) (h:Gf R 5 ps cs):Gf R 5 (p :: ps) (va :: vb :: vc :: vd :: ve :: cs):=Gf.front hp rfl h rfl
theorem Gf.c6 {α:Type} {R:α→List Value→Prop} {ps:List α} {cs:List Value} {p:α} {va vb vc vd ve vf:Value} (hp:R p [va,vb,vc,vd,ve,vf]) (h:Gf R 6 ps cs):Gf R 6 (p :: ps) (va :: vb :: vc :: vd :: ve :: vf :: cs):=Gf.front hp rfl h rfl
theorem Gf.c7 {α:Type} {R:α→List Value→Prop} {ps:List α} {cs:List Value} {p:α} {va vb vc vd ve vf vg:Value} (hp:R p [va,vb,vc,vd,ve,vf,vg]) (h:Gf R 7 ps cs):Gf R 7 (p :: ps) (va :: vb :: vc :: vd :: ve :: vf :: vg :: cs):=Gf.front hp rfl h rfl
theorem Gf.c8 {α:Type} {R:α→List Value→Prop} {ps:List α} {cs:List Value} {p:α} {va vb vc vd ve vf vg vh:Value} (hp:R p [va,vb,vc,vd,ve,vf,vg,vh]) (h:Gf R 8 ps cs):Gf R 8 (p :: ps) (va :: vb :: vc :: vd :: ve :: vf :: vg :: vh :: cs):=Gf.front hp rfl h rfl
theorem Gf.c9 {α:Type} {R:α→List Value→Prop} {ps:List α} {cs:List Value} {p:α} {va vb vc vd ve vf vg vh vi:Value} (hp:R p [va,vb,vc,vd,ve,vf,vg,vh,vi]) (h:Gf R 9 ps cs):Gf R 9 (p :: ps) (va :: vb :: vc :: vd :: ve :: vf :: vg :: vh :: vi :: cs):=Gf.front hp rfl h rfl
theorem Gf.zH {α:Type} {R:α→List Value→Prop} {ps:List α} {cs:List Value} {p:α} {va vb vc vd ve vf vg vh vi vj:Value} (hp:R p [va,vb,vc,vd,ve,vf,vg,vh,vi,vj]) (h:Gf R 10 ps cs):Gf R 10 (p :: ps) (va :: vb :: vc :: vd :: ve :: vf :: vg :: vh :: vi :: vj :: cs):=Gf.front hp rfl h rfl
end Go.Proofs.Na.Ec
end
section
namespace Go.Proofs.Na.gf
section
variable {P:Program} {ops:Array Oper} {Q:Exit→Act→World→Prop} {md:Region.Mode} {T:Bool × List (List Nat × List Nat)} {B:List Nat} {O:List Nat} {b:Nat→Bool} {i j n:Nat}
end
end Go.Proofs.Na.gf
end
section
namespace Go.Proofs.Na.Ec
open Go.RowKit
end Go.Proofs.Na.Ec
namespace Go.Proofs.Na.gf
section
variable {ops:Array Oper} {a:Act} {o og:Oper} {g:Nat} {t:Tmp} {u:Bool}
end
end Go.Proofs.Na.gf
end
section
namespace Go.Proofs.Na.Ec
open Go.RowKit
section
variable {P:Program} {ops:Array Oper} {rest:List Oper} {o:Oper} {a:Act} {Q:Exit→Act→World→Prop} {W:World}
theorem Zj (hw:Region.wanted o (yielded ops a.tmps)=true) (h:wpList P ops Q ({ o with guard:=none } :: rest) a W):wpList P ops Q (o :: rest) a W:=by
 have h1:Region.wanted { o with guard:=none } (yielded ops a.tmps)=true:=rfl;unfold wpList at h ⊢;rw [if_pos h1] at h;rw [if_pos hw];exact h
end
end Go.Proofs.Na.Ec
end
section
namespace Go.Proofs.Na.Ec
open Go.RowKit
namespace Kd
section
variable {α:Type} {d:Kd α} {e base n cap g:Nat} {ok Es Bl:Nat→Prop} {w w1 W:World} {v v1:Value} {xs ys:List α}
theorem XO {rows:List (List Value)} {i:Int} {x':α} {c':List Value} (h0:∀ k,(Value.slice (some ⟨g,0,none⟩) n cap).ownBlock=some k→ok k) (hl:rows.length=xs.length) (hf:∀ (j:Nat) (x:α) (c:List Value),xs[j]? = some x→rows[j]? = some c→FK d W (fun k=>ok k∧some k ≠ (Value.slice (some ⟨g,0,none⟩) n cap).ownBlock) x c)
  (hR:(raw d.sz).R e w1 base (fun _=>True) (.slice (some ⟨g,0,none⟩) n cap) (rows.set i.toNat c')) (hg:W.grownBy w1 (some g)) (hM:FK d W Bl x' c') (zq:∀ k,Bl k→ok k∧k ≠ g):N d e w1 base ok (.slice (some ⟨g,0,none⟩) n cap) (xs.set i.toNat x'):=by
 have mP:some g=(Value.slice (some ⟨g,0,none⟩) n cap).ownBlock:=by simp [Value.ownBlock]
 refine ⟨h0,rows.set i.toNat c',by rw [List.length_set,List.length_set,hl],dO hR,fun j x c hx hc=>?_⟩;have hjl:j < xs.length:=by have:=(List.getElem?_eq_some_iff.1 hx).1;rwa [List.length_set] at this
 by_cases hji:j=i.toNat
 ·subst hji;rw [List.getElem?_set_self hjl] at hx;rw [List.getElem?_set_self (by omega)] at hc;injection hx with hx
  injection hc with hc
  rw [← hx,← hc];exact lB (RF hM (fun k hk hlt=>hg.block k hlt (fun he=>(zq k hk).2 (by injection he)))) (fun k hk=>⟨(zq k hk).1,fun he=>(zq k hk).2 (by rw [← mP] at he;injection he)⟩)
 ·rw [List.getElem?_set_ne (Ne.symm hji)] at hx hc;exact RF (hf j x c hx hc) (fun k hk hlt=>hg.block k hlt (by rw [mP];exact hk.2))
theorem yad (h:N d e W base ok (.slice (some ⟨g,0,none⟩) n cap) xs) (i:Int) (h0:0 ≤ i) (h1:i < n) {c seg:List Value} {j:Nat} (Gy:c.length=d.sz) (Pn:∀ j u,c[j]? = some u→W.cell? ⟨g,i.toNat * d.sz + j,none⟩=some u)
  (hj:j + seg.length ≤ d.sz) {x':α} (hM:FK d W Bl x' (c.take j ++ seg ++ c.drop (j + seg.length))) (zq:∀ k,Bl k→ok k∧k ≠ g) :
  N d e (W.setCells g (i.toNat * d.sz + j) seg) base ok (.slice (some ⟨g,0,none⟩) n cap) (xs.set i.toNat x')∧W.grownBy (W.setCells g (i.toNat * d.sz + j) seg) (some g):=by
 obtain ⟨hown,rows,hl,hR,hf⟩:=h;obtain ⟨h2,h3⟩:=Fq (mU hR) i h0 h1 (c:=c) (seg:=seg) (j:=j) (x':=c.take j ++ seg ++ c.drop (j + seg.length)) (Bl:=fun _=>False) Gy Pn hj ⟨rfl,d.ql (SF hM),d.Rk (SF hM)⟩ (fun _ hk=>hk.elim);exact ⟨XO hown hl hf h2 h3 hM zq,h3⟩
end
section
variable {P:Program} {ops:Array Oper} {rest:List Oper} {o:Oper} {a:Act} {Q:Exit→Act→World→Prop} {Kc:Act→World→Prop} {α:Type}
end
end Kd
end Go.Proofs.Na.Ec
end
section
namespace Go.Proofs.Na.Eg
open Go.RowKit Go.Proofs.Na.Ec
namespace Kd
open Go.Proofs.Na.Ec.Kd
end Kd
namespace Kd
open Go.Proofs.Na.Ec.Kd
section
variable {α:Type} {d:Kd α} {e base g N:Nat} {ok:Nat→Prop} {W w1:World} {u v:Value} {xs:List α}
end
end Kd
theorem Yk (k k':IntKind) (x y:Int):Builtin.max2 (.int k x) (.int k' y)=pure (.int k (if x < y then y else x)):=by simp only [Builtin.max2,gt_iff_lt]
theorem Wk (k k':IntKind) (x y:Int):Builtin.min2 (.int k x) (.int k' y)=pure (.int k (if y < x then y else x)):=by simp only [Builtin.min2]
theorem Gm (ats:Array TypeId) (ty:TypeId) (a b:Value):Builtin.max_ ats ty #[a,b]=(Builtin.max2 a b >>= fun s=>pure s):=by simp only [Builtin.max_,List.foldlM_cons,List.foldlM_nil]
theorem Fm (ats:Array TypeId) (ty:TypeId) (a b:Value):Builtin.min_ ats ty #[a,b]=(Builtin.min2 a b >>= fun s=>pure s):=by simp only [Builtin.min_,List.foldlM_cons,List.foldlM_nil]
theorem tj (ats:Array TypeId) (ty:TypeId) (a b c:Value):Builtin.max_ ats ty #[a,b,c]=(Builtin.max2 a b >>= fun s=>Builtin.max2 s c >>= fun s=>pure s):=by simp only [Builtin.max_,List.foldlM_cons,List.foldlM_nil]
theorem sj (ats:Array TypeId) (ty:TypeId) (a b c:Value):Builtin.min_ ats ty #[a,b,c]=(Builtin.min2 a b >>= fun s=>Builtin.min2 s c >>= fun s=>pure s):=by simp only [Builtin.min_,List.foldlM_cons,List.foldlM_nil]
theorem Xk (ats:Array TypeId) (ty:TypeId) (a b c d:Value):Builtin.max_ ats ty #[a,b,c,d]=(Builtin.max2 a b >>= fun s=>Builtin.max2 s c >>= fun s=>Builtin.max2 s d >>= fun s=>pure s):=by simp only [Builtin.max_,List.foldlM_cons,List.foldlM_nil]
theorem Vk (ats:Array TypeId) (ty:TypeId) (a b c d:Value):Builtin.min_ ats ty #[a,b,c,d]=(Builtin.min2 a b >>= fun s=>Builtin.min2 s c >>= fun s=>Builtin.min2 s d >>= fun s=>pure s):=by simp only [Builtin.min_,List.foldlM_cons,List.foldlM_nil]
end Go.Proofs.Na.Eg
namespace Go.Proofs.Na.Ec
open Go.RowKit
section
variable {P:Program} {ops:Array Oper} {rest:List Oper} {o:Oper} {a:Act} {Q:Exit→Act→World→Prop} {W:World}
theorem Gb {f:FuncId} {as:Array Operand} {ts:Array TypeId} (_ho:o.op = .call { callee:=.value (.func f),args:=as,argTypes:=ts }) (h:wpList P ops Q (o :: rest) a W):wpList P ops Q (o :: rest) a W:=h
theorem Lg {b:Builtin} {xs:Array Operand} {ts:Array TypeId} (_ho:o.op = .call { callee:=.builtin b,args:=xs,argTypes:=ts }) (h:wpList P ops Q (o :: rest) a W):wpList P ops Q (o :: rest) a W:=h
end
namespace Kd
section
variable {α:Type} {d:Kd α} {e base:Nat} {ok:Nat→Prop} {W w1:World} {v:Value} {xs:List α}
end
section
variable {α:Type} {d:Kd α} {e base g n cap:Nat} {ok xq Bl:Nat→Prop} {W:World} {xs:List α} {i:Int} {c:List Value}
end
section
variable {α:Type} {d:Kd α} {e base b b' g N:Nat} {ok ok1:Nat→Prop} {W W2 w1:World} {u v:Value} {xs ys:List α} {S:Nat→Prop}
end
end Kd
end Go.Proofs.Na.Ec
namespace Go.Proofs.Na.Ec
open Go.RowKit
namespace Kd
def V {α:Type} (d:Kd α) (_e:Nat) (W:World) (_base:Nat) (ok:Nat→Prop) (v:Value) (xs:List α):Prop:=∃ A c,v = .slice A xs.length c∧xs.length ≤ c∧F d W ok A xs.length xs
section
variable {α β:Type} {d:Kd α} {e base base' n m c g N' lo hi:Nat} {ok Es S:Nat→Prop} {w W w1:World} {A:Option Addr} {ad:Addr} {u v v1:Value} {xs:List α}
theorem dad (d:Kd α) (e:Nat) (W:World) (base:Nat) (ok:Nat→Prop):V d e W base ok (.slice none 0 0) []:=⟨none,0,rfl,Nat.le_refl _,Cae d W ok⟩
theorem SR {M:Nat→Prop} (h:d.R e w1 W.heap.size ok v xs) (hle:w.heap.size ≤ W.heap.size) (hM:∀ k,w.heap.size ≤ k→M k):d.R e w1 W.heap.size (fun k=>M k∧ok k) v xs:=Gc (Yh h) (fun k hk=>⟨hM k (Nat.le_trans hle hk.2.1),hk.1⟩)
end
end Kd
theorem Da {w w':World} {a:Addr} {v:Value} (h:Below w.heap.size w w') (hx:w.cell? a=some v):w'.cell? a=some v:=(h.cell (World.block_lt_of_cell? w _ hx)).trans hx
end Go.Proofs.Na.Ec
end
