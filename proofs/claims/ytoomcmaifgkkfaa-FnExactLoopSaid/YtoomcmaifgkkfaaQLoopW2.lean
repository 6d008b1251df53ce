import Derived.Test.YtoomcmaifgkkfaaQLoopW1
import Derived.Laws.StructEq
section
namespace Go.Proofs.Aa.Db
open Go.RowKit
namespace Kd
def tag {α:Type} (f:Nat→Nat) (d:Kd α):Kd (α × Nat) where
 sz:=d.sz
 E:=d.E
 K:=fun w x cs=>d.K w x.1 cs
 M:=fun w base ok x cs=>d.M w base (fun k=>ok k∧f k=x.2) x.1 cs
 ni:=fun h=>d.ni h
 Vh:=fun h=>d.Vh h
 Mg:=fun hb h=>d.Mg hb h
 af:=fun h=>d.af h
 je:=fun hok h=>d.je (fun k hk=>⟨hok k hk.1,hk.2⟩) h
 qf:=fun h=>d.je (fun _ hk=>⟨⟨hk.1.1,hk.2⟩,hk.1.2⟩) (d.qf h)
 Zf:=fun hm h=>d.Zf (fun k hk=>hm k hk.1) h
 Lg:=fun hb h=>d.Lg hb h
def bare {α:Type} (d:Kd α):Kd α where
 sz:=d.sz
 E:=d.E
 K:=d.K
 M:=fun w base _ x cs=>d.M w base (fun _=>False) x cs
 ni:=fun h=>d.ni h
 Vh:=fun h=>d.Vh h
 Mg:=fun hb h=>d.Mg hb h
 af:=fun h=>d.af h
 je:=fun _ h=>h
 qf:=fun h=>h
 Zf:=fun _ h=>d.Zf (fun _ hk=>hk.elim) h
 Lg:=fun hb h=>d.Lg hb h
def raw (sz:Nat):Kd (List Value) where
 sz:=sz
 E:=[]
 K:=fun _ x cs=>cs=x∧cs.length=sz∧∀ u ∈ cs,u.oneCell' = true
 M:=fun _ _ _ x cs=>cs=x∧cs.length=sz∧∀ u ∈ cs,u.oneCell' = true
 ni:=fun h=>h.2.1
 Vh:=fun h=>h.2.2
 Mg:=fun _ h=>h
 af:=fun h=>h
 je:=fun _ h=>h
 qf:=fun h=>h
 Zf:=fun _ h=>h
 Lg:=fun _ h=>h
def S {α:Type} (d:Kd α) (e:Nat) (w:World) (base:Nat) (ok:Nat→Prop) (v:Value) (xs:List α):Prop:=∃ f,(tag f d).R e w base ok v xs.zipIdx
section
variable {α β:Type} {d:Kd α} {d':Kd β} {e e':Nat} {w w1 W:World} {base b:Nat} {ok cl yU oku:Nat→Prop} {u v:Value} {xs:List α} {ys:List β}
theorem Bp {xs:List α} {j:Nat} {p:α} (h:xs[j]? = some p):xs.zipIdx[j]? = some (p,j):=by rw [List.getElem?_zipIdx,h,Nat.zero_add];rfl
theorem sL (h:S d e w base ok v xs):d.R e w base ok v xs:=by
 obtain ⟨f,h0,inner,ho,hr⟩:=h;rw [List.length_zipIdx] at ho;exact ⟨h0,inner,ho,by have:=hr.1;rw [List.length_zipIdx] at this;exact this,fun j p hj=>d.je (fun _ hk=>hk.1) (hr.2 j (p,j) (Bp hj))⟩
theorem Ji (hE:d.E=[]) (h:d.R e w base ok v xs):d.R e w base (fun k=>some k=v.ownBlock) v xs:=by
 obtain ⟨h0,inner,ho,hr⟩:=h;refine ⟨fun k hk=>hk.symm,inner,ho,hr.wm (fun p c hp=>d.je (fun k hk=>?_) (d.qf hp))⟩;obtain ⟨_,_,_,q,hq,_⟩:=hk;rw [hE] at hq;cases hq
theorem nX (d:Kd α) (e:Nat) (w:World) (base:Nat) (ok:Nat→Prop):S d e w base ok (.slice none 0 0) []:=⟨fun _=>0,Nt _ _ _ _ _⟩
theorem wg (h:S d e w base ok v xs) (hok:∀ k,ok k→cl k):S d e w base cl v xs:=by
 obtain ⟨f,h⟩:=h;exact ⟨f,Eb h hok⟩
theorem Ro (h:S d e w base ok v xs):S d e w base (fun k=>ok k∧base ≤ k∧k < w.heap.size∧∃ q,q ∈ e :: d.E∧∃ cells,w.heap[k]? = some (.cells cells q (0,0))) v xs:=by
 obtain ⟨f,h⟩:=h;exact ⟨f,We h⟩
theorem xT (h:S d e w base ok v xs) (hm:∀ k,ok k→w1.heap[k]? = w.heap[k]?):S d e w1 base ok v xs:=by
 obtain ⟨f,h⟩:=h;exact ⟨f,Du h hm⟩
theorem Ov {base':Nat} (h:S d e w base ok v xs) (hb:base' ≤ base):S d e w base' ok v xs:=by
 obtain ⟨f,h⟩:=h;exact ⟨f,Xc h hb⟩
theorem TD (h:S d e w base ok v xs) (hm:∀ k,ok k→k < w.heap.size→w1.heap[k]? = w.heap[k]?):S d e w1 base ok v xs :=
 wg (xT (Ro h) (fun k hk=>hm k hk.1 hk.2.2.1)) (fun _ hk=>hk.1)
theorem ki (h:S d e w base ok v xs) (hb:Below w.heap.size w w1):S d e w1 base ok v xs:=TD h (fun k _ hk=>hb.block k hk)
theorem Rf (h:S d e w base ok v xs) (o:Obj):S d e (w.alloc o) base ok v xs:=ki h (ia (Below.refl _ _) o)
theorem Cg (h:S d e w base ok v xs):S d e w.drew base ok v xs:=ki h (Am (Below.refl _ _))
theorem Qf (h:S d e w base ok v xs) (m:Nat):S d e (w.drewN m) base ok v xs:=ki h (ga (Below.refl _ _) m)
theorem jy (h:S d e w base ok v xs) {p:Addr} (hok:∀ k,ok k→k ≠ p.block) (u:Value):S d e (w.setCell p u) base ok v xs:=TD h (fun k ho _=>Below.heap_setCell w p u k (hok k ho))
theorem ZF (h:S d e w base ok v xs) {g t:Nat} {cells:Array Value} (hb:w.heap[g]? = some (.cells cells t (0,0))) (ht:∀ q,q ∈ e :: d.E→q ≠ t):S d e w base (fun k=>ok k∧k ≠ g) v xs:=by
 obtain ⟨f,h⟩:=h;exact ⟨f,Xj h hb ht⟩
theorem Iq (h:S d e w base ok v xs):∀ k,v.ownBlock=some k→∃ cells,w.heap[k]? = some (.cells cells e (0,0)):=Dk (sL h)
theorem L_ (h:S d e w base ok v xs):∀ k,v.ownBlock=some k→k < w.heap.size:=Yi (sL h)
theorem Qw (h:S d e W base ok u xs) (hbase:∀ k,v.ownBlock=some k→W.heap.size ≤ k) (hb:Below W.heap.size W w1):S d e w1 base (fun k=>ok k∧some k ≠ v.ownBlock) u xs:=by
 obtain ⟨f,h⟩:=h;exact ⟨f,Ag h hbase hb⟩
theorem wT (h:S d e w1 W.heap.size ok v xs) (hlt:∀ k,u.ownBlock=some k→k < W.heap.size):S d e w1 W.heap.size (fun k=>ok k∧some k ≠ u.ownBlock) v xs:=by
 obtain ⟨f,h⟩:=h;exact ⟨f,Bh h hlt⟩
theorem Tz {v1:Value} (h:S d e W base (fun k=>ok k∧some k ≠ v.ownBlock) u xs) (hg:W.grownBy w1 v.ownBlock) (hat:v1.ownBlock=v.ownBlock ∨ ∃ b,v1.ownBlock=some b∧W.heap.size ≤ b):S d e w1 base (fun k=>ok k∧some k ≠ v1.ownBlock) u xs:=by
 obtain ⟨f,h⟩:=h;exact ⟨f,qg h hg hat⟩
theorem mX (h:S d e W base ok u xs) (hb:Below W.heap.size W w1):S d e w1 base (fun k=>ok k∧k < W.heap.size) u xs :=
 wg (ki (Ro h) hb) (fun _ hk=>⟨hk.1,hk.2.2.1⟩)
theorem wK (h:(bare d).R e w base ok v xs):S d e w base ok v xs:=by
 obtain ⟨h0,inner,ho,hr⟩:=h;refine ⟨fun _=>0,h0,inner,by rw [List.length_zipIdx];exact ho,by rw [List.length_zipIdx];exact hr.1,fun j p hj=>?_⟩;rw [List.getElem?_zipIdx,Nat.zero_add] at hj;obtain ⟨x,hx,rfl⟩:=Option.map_eq_some_iff.1 hj;exact d.je (fun _ hk=>hk.elim) (hr.2 j x hx)
theorem pX {f f':Nat→Nat} {zs:List (α × Nat)} (h:(tag f d).R e w base ok v zs) (hf:∀ k,ok k→k < w.heap.size→f' k=f k):(tag f' d).R e w base ok v zs:=by
 obtain ⟨h0,inner,ho,hr⟩:=We h;exact ⟨fun k hk=>(h0 k hk).1,inner,ho,hr.1,fun j p hj=>d.je (fun k hk=>⟨⟨hk.1.1.1,hk.1.2⟩,(hf k hk.1.1.1 hk.1.1.2.2.1).trans hk.2⟩) (hr.2 j p hj)⟩
end
section
variable {α β:Type} {d:Kd α} {d':Kd β} {e e' g:Nat} {w w1 W:World} {base b:Nat} {ok cl yU oku:Nat→Prop} {u v:Value} {xs:List α} {ys:List β}
theorem K_ (h:S d e w base ok v xs) {t:Nat} {cells:Array Value} (hb:w.heap[g]? = some (.cells cells t (0,0))) (ht:e ≠ t):some g ≠ v.ownBlock:=xp (sL h) hb ht
theorem Pw (h:S d e w base ok v xs) (hp:0 < xs.length):∃ g cap,v = .slice (some ⟨g,0,none⟩) xs.length cap∧base ≤ g∧g < w.heap.size∧∃ cells,w.heap[g]? = some (.cells cells e (0,0)):=qj (sL h) hp
theorem Jq (h:S d e w base ok v xs):∃ A c,v = .slice A xs.length c:=Vb (sL h)
theorem vN (h:S d e w base ok v xs):∃ A c,v = .slice A xs.length c∧xs.length ≤ c∧d.C w A xs.length xs:=Pv (sL h)
theorem Uh {A:Option Addr} {n c:Nat} (h:S d e w base ok (.slice A n c) xs):n=xs.length∧n ≤ c∧d.C w A xs.length xs:=Ua (sL h)
theorem vK (h:S d e w base ok v xs) (a:Nat) (ha:w.heap.size ≤ a):S d e w base (fun k=>ok k∧k ≠ a) v xs:=wg (Ro h) (fun k hk=>⟨hk.1,by have:=hk.2.2.1;omega⟩)
theorem OH (xs:List α) (p:α):(xs ++ [p]).zipIdx=xs.zipIdx ++ [(p,xs.length)]:=by rw [List.zipIdx_append];simp
end
section
open Classical in
theorem lX {α:Type} {d:Kd α} {e base:Nat} {yU:Nat→Prop} {w:World} {v:Value} {xs:List α} (h:S d e w base yU v xs) (m:Nat) (Yg:Nat→Prop) (hap:∀ k,Yg k→¬ yU k):∃ f,(∀ k,Yg k→f k=m)∧(tag f d).R e w base yU v xs.zipIdx:=by
 obtain ⟨f,h⟩:=h;exact ⟨fun k=>if Yg k then m else f k,fun k hk=>if_pos hk,pX h (fun k hk _=>if_neg (fun h2=>hap k h2 hk))⟩
variable {P:Program} {ops:Array Oper} {rest:List Oper} {o:Oper} {a:Act} {Q:Exit→Act→World→Prop} {Kc:Act→World→Prop} {α:Type}
theorem xK (d:Kd α) {w0 W:World} (base:Nat) (hgd:o.guard=none) (s x:Operand) (t e:TypeId) (z:Value) (bytes:Nat)
  (ho:o.op = .call { callee:=.builtin .append,args:=#[s,x],argTypes:=#[t,t] })
  (ht:P.underlying t=some (.slice e)) (hinfo:(P.info? e).map (fun i=>(i.zero,i.size,i.bytes))=some (some z,d.sz,bytes)) (hz:z.cells.size=d.sz) (hs0:0 < d.sz) (hb0:0 < bytes)
  (v:Value) (xs:List α) (p:α) (cs:List Value) (ok Yg:Nat→Prop) (hs:a.eval s=v) (hx:a.eval x = .slice (some ⟨W.heap.size,0,none⟩) 1 1) (hp:d.M W base Yg p cs) (Kl:∀ k,Yg k→ok k∧some k ≠ v.ownBlock) (Ig:∀ k,W.heap.size ≤ k→ok k)
  (HO:S d e W base (fun k=>ok k∧¬ Yg k) v xs) (HB:Below base w0 W) (hbase:base ≤ W.heap.size) (hl:(xs.length + 1) * bytes ≤ 140737488355328)
  (h:∀ v1 w1,S d e w1 base ok v1 (xs ++ [p])→Below base w0 w1→W.grownBy w1 v.ownBlock→(v1.ownBlock=v.ownBlock ∨ ∃ b,v1.ownBlock=some b∧W.heap.size ≤ b)→wpList P ops Q rest (a.put o.dst v1) w1) :
  wpList P ops Q (o :: rest) a (W.alloc (.cells cs.toArray e)):=by
 obtain ⟨f,hf,hR⟩:=lX HO xs.length Yg (fun _ hk h2=>h2.2 hk);refine Fm (tag f d) base hgd s x t e z bytes ho ht hinfo hz hs0 hb0 v xs.zipIdx (p,xs.length) cs ok Yg hs hx (d.je (fun k hk=>⟨hk,hf k hk⟩) hp) Kl Ig (Eb hR (fun _ hk=>hk.1)) HB hbase (by rw [List.length_zipIdx];exact hl) ?_;intro v1 w1 hr;rw [← OH] at hr;exact h v1 w1 ⟨f,hr⟩
theorem oX (d:Kd α) {w0 W:World} (base e:Nat) (hgd:o.guard=none) {N:Tmp} (_hd:o.dst=some N) {xs:List α} {inner:List Value} {ok Yg:Nat→Prop}
  (hrun:(execOp a.eval o).run P W = .ok (.value (.slice (some ⟨W.heap.size,0,none⟩) xs.length xs.length)) (W.alloc (.cells inner.toArray e)))
  (fM:Pc (d.M W base (fun _=>False)) d.sz xs inner) (_hok:∀ k,Yg k→ok k) (Ig:ok W.heap.size) (HB:Below base w0 W) (hbase:base ≤ W.heap.size) (hm:xs.length ≤ 9223372036854775807)
  (h:∀ v1 w1,S d e w1 base ok v1 xs→Below base w0 w1→W.grownBy w1 none→(∃ b,v1.ownBlock=some b∧W.heap.size ≤ b)→wpList P ops Q rest (a.put o.dst v1) w1):wpList P ops Q (o :: rest) a W :=
 Yj (bare d) base e hgd _hd (ok:=ok) (Yg:=ok) hrun fM (fun _ hk=>hk) Ig HB hbase hm (fun v1 w1 hr=>h v1 w1 (wK hr))
theorem uK (d:Kd α) {w0 W:World} (base e:Nat) (hgd:o.guard=none) {N:Tmp} (hd:o.dst=some N) (t:TypeId) (x y:Operand) (ho:o.op = .makeSlice t x y) (n:Int) (hx:a.eval x = .int .i64 n) (hy:a.eval y = .int .i64 n)
  (ht:P.underlying t=some (.slice e)) (z:Value) (bytes:Nat) (hinfo:(P.info? e).map (fun i=>(i.zero,i.size,i.bytes))=some (some z,d.sz,bytes)) (hz:z.cells.size=d.sz) (hs0:0 < d.sz) (hb0:0 < bytes)
  (z0:α) {ok Yg:Nat→Prop} (hzero:d.M W base (fun _=>False) z0 z.cells.toList) (_hok:∀ k,Yg k→ok k) (Ig:ok W.heap.size) (h0:0 ≤ n) (hl:n.toNat * bytes ≤ 281474976710656) (HB:Below base w0 W) (hbase:base ≤ W.heap.size)
  (h:∀ v1 w1,S d e w1 base ok v1 (List.replicate n.toNat z0)→Below base w0 w1→W.grownBy w1 none→(∃ b,v1.ownBlock=some b∧W.heap.size ≤ b)→wpList P ops Q rest (a.put o.dst v1) w1):wpList P ops Q (o :: rest) a W :=
 Mr (bare d) base e hgd hd t x y ho n hx hy ht z bytes hinfo hz hs0 hb0 z0 (ok:=ok) (Yg:=ok) hzero (fun _ hk=>hk) Ig h0 hl HB hbase (fun v1 w1 hr=>h v1 w1 (wK hr))
end
def R3 {α:Type} (f:Nat→Nat) (d:Kd α) (i:Nat) (c:List Value):Kd (α × Nat) where
 sz:=d.sz
 E:=d.E
 K:=fun w x cs=>(x.2=i→cs=c∧cs.length=d.sz∧∀ u ∈ cs,u.oneCell' = true)∧(x.2 ≠ i→d.K w x.1 cs)
 M:=fun w base ok x cs=>(x.2=i→cs=c∧cs.length=d.sz∧∀ u ∈ cs,u.oneCell' = true)∧(x.2 ≠ i→d.M w base (fun k=>ok k∧f k=x.2) x.1 cs)
 ni:=fun {w x cs} h=>by
  by_cases hx:x.2=i
  ·exact (h.1 hx).2.1
  ·exact d.ni (h.2 hx)
 Vh:=fun {w x cs} h=>by
  by_cases hx:x.2=i
  ·exact (h.1 hx).2.2
  ·exact d.Vh (h.2 hx)
 Mg:=fun hb h=>⟨h.1,fun hx=>d.Mg hb (h.2 hx)⟩
 af:=fun h=>⟨h.1,fun hx=>d.af (h.2 hx)⟩
 je:=fun hok h=>⟨h.1,fun hx=>d.je (fun k hk=>⟨hok k hk.1,hk.2⟩) (h.2 hx)⟩
 qf:=fun h=>⟨h.1,fun hx=>d.je (fun _ hk=>⟨⟨hk.1.1,hk.2⟩,hk.1.2⟩) (d.qf (h.2 hx))⟩
 Zf:=fun hm h=>⟨h.1,fun hx=>d.Zf (fun k hk=>hm k hk.1) (h.2 hx)⟩
 Lg:=fun hb h=>⟨h.1,fun hx=>d.Lg hb (h.2 hx)⟩
def H {α:Type} (d:Kd α) (e:Nat) (w:World) (base:Nat) (ok:Nat→Prop) (v:Value) (xs:List α) (i:Int) (dm:Nat→Prop) (c:List Value):Prop :=
 (∀ k,dm k→ok k)∧∃ f,(R3 f d i.toNat c).R e w base (fun k=>ok k∧¬ dm k) v xs.zipIdx
section
variable {α β:Type} {d:Kd α} {e e' g n cap:Nat} {w w1 W:World} {base:Nat} {ok cl dm Yg:Nat→Prop} {u v:Value} {xs:List α} {i:Int} {c:List Value}
theorem yT (h:S d e W base ok (.slice (some ⟨g,0,none⟩) n cap) xs) (z:α) (i:Int) (h0:0 ≤ i) (h1:i < n) :
  ∃ (dm:Nat→Prop) (c:List Value),c.length=d.sz∧d.M W base dm (xs.getD i.toNat z) c∧(∀ j u,c[j]? = some u→W.cell? ⟨g,i.toNat * d.sz + j,none⟩=some u)∧(∀ k,dm k→ok k∧k ≠ g)∧H d e W base ok (.slice (some ⟨g,0,none⟩) n cap) xs i dm c:=by
 obtain ⟨f,hR⟩:=h;have hn:=(Ua hR).1;rw [List.length_zipIdx] at hn;have hgo:some g=(Value.slice (some ⟨g,0,none⟩) n cap).ownBlock:=by simp [Value.ownBlock]
 obtain ⟨xR,inner,ho,hr⟩:=hR;have hil:i.toNat < xs.length:=by omega
 have hlen:inner.length=xs.length * d.sz:=by have:=hr.1;rw [List.length_zipIdx] at this;exact this
 have eM:i.toNat * d.sz + d.sz ≤ inner.length:=by rw [hlen,← Nat.succ_mul];exact Nat.mul_le_mul_right _ hil
 have hM:=hr.2 i.toNat _ (Bp (List.getElem?_eq_getElem hil));have O7:∀ k,some k ≠ (Value.slice (some ⟨g,0,none⟩) n cap).ownBlock→k ≠ g:=fun k hk he=>hk (by rw [he];exact hgo)
 refine ⟨fun k=>(ok k∧k ≠ g)∧f k=i.toNat,(inner.drop (i.toNat * d.sz)).take d.sz,by rw [List.length_take,List.length_drop];omega,?_,fun j u hu=>?_,fun k hk=>hk.1,fun k hk=>hk.1.1,f,fun k hk=>⟨xR k hk,fun h2=>h2.1.2 ?_⟩,inner,ho,hr.1,fun m p hm=>?_⟩
 ·rw [List.getD_eq_getElem?_getD,List.getElem?_eq_getElem hil];exact d.je (fun k hk=>⟨⟨hk.1.1,O7 k hk.1.2⟩,hk.2⟩) hM
 ·rw [List.getElem?_take] at hu
  split at hu
  ·rw [List.getElem?_drop] at hu;have:=ho.cells (g:=g) hgo.symm _ u hu
   rwa [add_plain] at this
  ·cases hu
 ·rw [← hgo] at hk;injection hk with hk;exact hk.symm
 ·have hold:=hr.2 m p hm
  have hp2:p.2=m:=by
   rw [List.getElem?_zipIdx,Nat.zero_add] at hm;obtain ⟨q,_,rfl⟩:=Option.map_eq_some_iff.1 hm
   rfl
  refine ⟨fun hx=>?_,fun hx=>d.je (fun k hk=>⟨⟨⟨hk.1.1,fun h2=>hx ?_⟩,hk.1.2⟩,hk.2⟩) hold⟩
  ·have LO:m=i.toNat:=by omega
   subst LO;exact ⟨rfl,d.ni (d.af hM),d.Vh (d.af hM)⟩
  ·rw [← hk.2];exact h2.2
open Classical in
theorem LK (h:H d e w base ok v xs i dm c) {x':α} (hM:d.M w base Yg x' c) (hok:∀ k,Yg k→dm k):S d e w base ok v (xs.set i.toNat x'):=by
 obtain ⟨ho,f,h0,inner,hown,hr⟩:=h;refine ⟨fun k=>if dm k then i.toNat else f k,fun k hk=>(h0 k hk).1,inner,by rw [List.length_zipIdx,List.length_set];rw [List.length_zipIdx] at hown;exact hown,by have:=hr.1;rw [List.length_zipIdx] at this;rw [List.length_zipIdx,List.length_set];exact this,fun m p hm=>?_⟩;rw [List.getElem?_zipIdx,Nat.zero_add] at hm;obtain ⟨q,hq,rfl⟩:=Option.map_eq_some_iff.1 hm
 have hml:m < xs.length:=by
  have:=(List.getElem?_eq_some_iff.1 hq).1
  rwa [List.length_set] at this
 by_cases LO:m=i.toNat
 ·subst LO;rw [List.getElem?_set_self hml] at hq;injection hq with hq
  subst hq;have hc:=((hr.2 i.toNat _ (Bp (List.getElem?_eq_getElem hml))).1 rfl).1
  show d.M w base _ x' ((inner.drop (i.toNat * d.sz)).take d.sz)
  rw [show (inner.drop (i.toNat * d.sz)).take d.sz=c from hc];exact d.je (fun k hk=>⟨⟨ho k (hok k hk),fun he=>(h0 k he.symm).2 (hok k hk)⟩,if_pos (hok k hk)⟩) hM
 ·rw [List.getElem?_set_ne (Ne.symm LO)] at hq;exact d.je (fun k hk=>⟨⟨hk.1.1.1,hk.1.2⟩,(if_neg hk.1.1.2).trans hk.2⟩) ((hr.2 m (q,m) (Bp hq)).2 LO)
theorem fG (h:H d e w base ok v xs i dm c):H d e w base ok v xs i (fun k=>dm k ∨ ok k∧w.heap.size ≤ k) c:=by
 obtain ⟨ho,f,h⟩:=h;exact ⟨fun k hk=>hk.elim (ho k) (fun h2=>h2.1),f,Eb (We h) (fun k hk=>⟨hk.1.1,fun h2=>h2.elim hk.1.2 (fun h3=>by have:=hk.2.2.1;omega)⟩)⟩
theorem KK (h:H d e w base ok v xs i dm c) (hm:∀ k,ok k→¬ dm k→k < w.heap.size→w1.heap[k]? = w.heap[k]?):H d e w1 base ok v xs i dm c:=by
 obtain ⟨ho,f,h⟩:=h;exact ⟨ho,f,Rw h (fun k hk hlt=>hm k hk.1 hk.2 hlt)⟩
theorem JN (h:H d e w base ok v xs i dm c) (hb:Below w.heap.size w w1):H d e w1 base ok v xs i dm c:=KK h (fun k _ _ hlt=>hb.block k hlt)
theorem FT (h:H d e w base ok v xs i dm c) (hok:∀ k,ok k→cl k):H d e w base cl v xs i dm c:=by
 obtain ⟨ho,f,h⟩:=h;exact ⟨fun k hk=>hok k (ho k hk),f,Eb h (fun k hk=>⟨hok k hk.1,hk.2⟩)⟩
theorem ET {WL:Nat→Prop} (h:H d e w base (fun k=>ok k∧¬ WL k) v xs i dm c) (hg:∀ k,WL k→ok k):H d e w base ok v xs i (fun k=>dm k ∨ WL k) c:=by
 obtain ⟨ho,f,h⟩:=h;exact ⟨fun k hk=>hk.elim (fun h2=>(ho k h2).1) (hg k),f,Eb h (fun k hk=>⟨hk.1.1,fun h2=>h2.elim hk.2 hk.1.2⟩)⟩
theorem Bu (h:S d e W base ok (.slice (some ⟨g,0,none⟩) n cap) xs) (z:α) (i:Int) (h0:0 ≤ i) (h1:i < n) :
  ∃ (dm:Nat→Prop) (c:List Value),c.length=d.sz∧d.M W base dm (xs.getD i.toNat z) c∧(∀ j u,c[j]? = some u→W.cell? ⟨g,i.toNat * d.sz + j,none⟩=some u)∧(∀ j,W.frozen? ⟨g,i.toNat * d.sz + j,none⟩=false)∧(∀ k,dm k→ok k∧k ≠ g)∧H d e W base ok (.slice (some ⟨g,0,none⟩) n cap) xs i dm c:=by
 obtain ⟨_,_,_,_,hfr⟩:=Ci (sL h) z i h0 h1;obtain ⟨dm,c,Ru,hM,yw,Uy,hH⟩:=yT h z i h0 h1;exact ⟨dm,c,Ru,hM,yw,hfr,Uy,hH⟩
theorem GX (h:H d e W base ok (.slice (some ⟨g,0,none⟩) n cap) xs i dm c) (h0:0 ≤ i) (h1:i < n) :
  ∃ rows:List (List Value),rows.length=xs.length∧(raw d.sz).R e W base (fun _=>True) (.slice (some ⟨g,0,none⟩) n cap) rows∧c.length=d.sz∧(∀ u ∈ c,u.oneCell' = true)∧(∀ j u,c[j]? = some u→W.cell? ⟨g,i.toNat * d.sz + j,none⟩=some u) ∧
   ∀ w1 c',W.grownBy w1 (some g)→(raw d.sz).R e w1 base (fun _=>True) (.slice (some ⟨g,0,none⟩) n cap) (rows.set i.toNat c')→H d e w1 base ok (.slice (some ⟨g,0,none⟩) n cap) xs i dm c':=by
 obtain ⟨hoo,f,hR⟩:=h;have hn:=(Ua hR).1;rw [List.length_zipIdx] at hn;have hgo:some g=(Value.slice (some ⟨g,0,none⟩) n cap).ownBlock:=by simp [Value.ownBlock]
 obtain ⟨xR,inner,ho,hr⟩:=hR;have hil:i.toNat < xs.length:=by omega
 have hlen:inner.length=xs.length * d.sz:=by have:=hr.1;rw [List.length_zipIdx] at this;exact this
 have O7:∀ k,some k ≠ (Value.slice (some ⟨g,0,none⟩) n cap).ownBlock→k ≠ g:=fun k hk he=>hk (by rw [he];exact hgo)
 have pL:=(hr.2 i.toNat _ (Bp (List.getElem?_eq_getElem hil))).1 rfl;rw [pL.1] at pL;have hc:=((hr.2 i.toNat _ (Bp (List.getElem?_eq_getElem hil))).1 rfl).1;refine ⟨(List.range xs.length).map fun j=>(inner.drop (j * d.sz)).take d.sz,by rw [List.length_map,List.length_range],⟨fun _ _=>trivial,inner,?_,?_,fun j p hj=>?_⟩,pL.2.1,pL.2.2,fun j u hu=>?_,fun w1 c' hg uR=>?_⟩
 ·rw [List.length_map,List.length_range];rw [List.length_zipIdx] at ho;exact ho
 ·rw [List.length_map,List.length_range];exact hlen
 ·rw [List.getElem?_map] at hj;obtain ⟨j',hj',rfl⟩:=Option.map_eq_some_iff.1 hj;obtain ⟨hl,he⟩:=List.getElem?_eq_some_iff.1 hj';rw [List.getElem_range] at he;subst he;rw [List.length_range] at hl;have hm:=(R3 f d i.toNat c).af (hr.2 j _ (Bp (List.getElem?_eq_getElem hl)));exact ⟨rfl,(R3 f d i.toNat c).ni hm,(R3 f d i.toNat c).Vh hm⟩
 ·rw [← hc,List.getElem?_take] at hu
  split at hu
  ·rw [List.getElem?_drop] at hu;have:=ho.cells (g:=g) hgo.symm _ u hu
   rwa [add_plain] at this
  ·cases hu
 ·obtain ⟨_,inner',ho',hr'⟩:=uR;have hl':inner'.length=xs.length * d.sz:=by have:=hr'.1;rw [List.length_set,List.length_map,List.length_range] at this;exact this
  rw [List.length_set,List.length_map,List.length_range] at ho';refine ⟨hoo,f,xR,inner',by rw [List.length_zipIdx];exact ho',by rw [List.length_zipIdx];exact hl',fun m p hm=>?_⟩;rw [List.getElem?_zipIdx,Nat.zero_add] at hm;obtain ⟨q,hq,rfl⟩:=Option.map_eq_some_iff.1 hm;have hml:m < xs.length:=(List.getElem?_eq_some_iff.1 hq).1;have hold:=hr.2 m (q,m) (Bp hq);refine ⟨fun hx=>?_,fun hx=>?_⟩
  ·have hx':m=i.toNat:=hx;subst hx';exact hr'.2 i.toNat c' (List.getElem?_set_self (by rw [List.length_map,List.length_range];exact hml))
  ·have hx':m ≠ i.toNat:=hx
   have hcm:=(hr'.2 m ((inner.drop (m * d.sz)).take d.sz) (by
    rw [List.getElem?_set_ne (Ne.symm hx'),List.getElem?_map,List.getElem?_eq_getElem (by rw [List.length_range];exact hml),List.getElem_range]
    rfl)).1
   show d.M w1 base _ q ((inner'.drop (m * d.sz)).take d.sz)
   rw [show (inner'.drop (m * d.sz)).take d.sz=_ from hcm];exact d.je (fun k hk=>hk.1) (d.Zf (w1:=w1) (fun k hk=>hg.block k hk.2.2.1 (fun he=>O7 k hk.1.1.2 (by injection he))) (d.qf (hold.2 hx)))
theorem KP (h:H d e W base ok (.slice (some ⟨g,0,none⟩) n cap) xs i dm c) (h0:0 ≤ i) (h1:i < n) {seg:List Value} {j:Nat} (hj:j + seg.length ≤ d.sz) (hone:∀ q ∈ seg,q.oneCell' = true) :
  H d e (W.setCells g (i.toNat * d.sz + j) seg) base ok (.slice (some ⟨g,0,none⟩) n cap) xs i dm (c.take j ++ seg ++ c.drop (j + seg.length))∧W.grownBy (W.setCells g (i.toNat * d.sz + j) seg) (some g):=by
 obtain ⟨rows,_,uR,Ru,hco,yw,QV⟩:=GX h h0 h1
 obtain ⟨h2,h3⟩:=Lt uR i h0 h1 (c:=c) (seg:=seg) (j:=j) (x':=c.take j ++ seg ++ c.drop (j + seg.length)) (Yg:=fun _=>False) Ru yw hj
  ⟨rfl,by
   show (c.take j ++ seg ++ c.drop (j + seg.length)).length=d.sz
   simp only [List.length_append,List.length_take,List.length_drop];omega,fun u hu=>by
   rcases List.mem_append.1 hu with hu|hu
   ·rcases List.mem_append.1 hu with hu|hu
    ·exact hco u (List.mem_of_mem_take hu)
    ·exact hone u hu
   ·exact hco u (List.mem_of_mem_drop hu)⟩ (fun _ hk=>hk.elim)
 exact ⟨QV _ _ h3 h2,h3⟩
theorem CP {WL:Nat→Prop} (hH:H d e W base (fun k=>ok k∧¬ WL k) (.slice (some ⟨g,0,none⟩) n cap) xs i dm c) (h0:0 ≤ i) (h1:i < n) {seg:List Value} {j:Nat} (hj:j + seg.length ≤ d.sz)
  {x':α} (hM:d.M W base Yg x' (c.take j ++ seg ++ c.drop (j + seg.length))) (Kl:∀ k,Yg k→dm k ∨ WL k) (hg:∀ k,WL k→ok k∧k ≠ g) :
  S d e (W.setCells g (i.toNat * d.sz + j) seg) base ok (.slice (some ⟨g,0,none⟩) n cap) (xs.set i.toNat x')∧W.grownBy (W.setCells g (i.toNat * d.sz + j) seg) (some g):=by
 have hne:∀ k,dm k ∨ WL k→k ≠ g:=by
  intro k hk he;subst he
  rcases hk with hk|hk
  ·obtain ⟨_,f,hR⟩:=hH;exact (hR.1 k (by simp [Value.ownBlock])).2 hk
  ·exact (hg k hk).2 rfl
 obtain ⟨h2,h3⟩:=KP (ET hH (fun k hk=>(hg k hk).1)) h0 h1 hj (fun q hq=>d.Vh (d.af hM) q (List.mem_append_left _ (List.mem_append_right _ hq)));exact ⟨LK h2 (XD hM (fun k hk hlt=>h3.block k hlt (fun he=>hne k (Kl k hk) (by injection he)))) Kl,h3⟩
end
section
variable {P:Program} {ops:Array Oper} {rest:List Oper} {o:Oper} {a:Act} {Q:Exit→Act→World→Prop} {α:Type}
end
end Kd
end Go.Proofs.Aa.Db
end
section
namespace Go.Proofs.Aa.Db
open Go.RowKit
namespace Kd
section
variable {α:Type} {n:Nat} {d:Kd α} {hs:0 < d.sz} {w:World} {base:Nat} {ok:Nat→Prop} {xs:List α} {cs:List Value}
end
section
variable {α:Type} {n:Nat} {enc:α→Value} {h1:∀ x,(enc x).oneCell' = true} {hs:0 < (scalar enc h1).sz} {w:World} {base:Nat} {ok:Nat→Prop} {xs:List α} {cs:List Value}
end
end Kd
end Go.Proofs.Aa.Db
end
section
namespace Go.Proofs.Aa.Db
open Go.RowKit
section
variable {P:Program}
end
namespace Kd
section
variable {P:Program} {ops:Array Oper} {rest:List Oper} {o:Oper} {a:Act} {Q:Exit→Act→World→Prop} {Kc:Act→World→Prop} {α:Type}
end
section
variable {α:Type} {d:Kd α} {e:Nat} {w:World} {base:Nat} {ok:Nat→Prop} {v:Value} {xs:List α}
end
section
variable {P:Program} {ops:Array Oper} {rest:List Oper} {o:Oper} {a:Act} {Q:Exit→Act→World→Prop} {Kc:Act→World→Prop} {α:Type}
end
end Kd
end Go.Proofs.Aa.Db
end
section
namespace Go.Proofs.Aa.Db
open Go.RowKit
namespace Kd
structure Heap {α:Type} (d:Kd α):Prop where
 K:∀ {w w1:World} {x:α} {cs:List Value},(∀ k,k < w.heap.size→w1.heap[k]? = w.heap[k]?)→d.K w x cs→d.K w1 x cs
theorem pH {w w1:World} (hb:∀ k,k < w.heap.size→w1.heap[k]? = w.heap[k]?) {a:Addr} {v:Value} (h:w.cell? a=some v):w1.cell? a=some v:=by
 have:=hb a.block (World.block_lt_of_cell? w a h)
 simpa [World.cell?,this] using h
theorem Heap.C {α:Type} {d:Kd α} (hd:Heap d) {w w1:World} {A:Option Addr} {n:Nat} {xs:List α} (hb:∀ k,k < w.heap.size→w1.heap[k]? = w.heap[k]?) (h:d.C w A n xs):d.C w1 A n xs :=
 ⟨h.1,h.2.1,fun hn=>by
  obtain ⟨ad,e,hc⟩:=h.2.2 hn;refine ⟨ad,e,fun j p hj=>?_⟩;obtain ⟨c,hs,hr,hcell⟩:=hc j p hj
  exact ⟨c,hs,hd.K hb hr,fun i u hu=>pH hb (hcell i u hu)⟩⟩
theorem Sh (k:IntKind):Heap (Kd.int k):=⟨fun _ h=>h⟩
theorem oB:Heap Kd.string:=⟨fun _ h=>h⟩
theorem nD {α:Type} {d:Kd α} (e:Nat) (hd:Heap d):Heap (slice e d):=⟨by
 rintro w w1 x cs hb ⟨A,c,rfl,hl,hr⟩
 exact ⟨A,c,rfl,hl,hd.C hb hr⟩⟩
theorem Xh {α β:Type} {a:Kd α} {b:Kd β} (ha:Heap a) (hb':Heap b):Heap (pair a b):=⟨by
 rintro w w1 x cs hb ⟨c0,c1,rfl,h0,h1⟩
 exact ⟨c0,c1,rfl,ha.K hb h0,hb'.K hb h1⟩⟩
theorem qB {α β:Type} {d:Kd α} (f:β→α) (hd:Heap d):Heap (nL d f):=⟨fun hb h=>hd.K hb h⟩
section
variable {α:Type} {d:Kd α} {e base g n c:Nat} {ok:Nat→Prop} {w w0 W:World} {A:Option Addr} {xs:List α}
end
end Kd
end Go.Proofs.Aa.Db
end
section
namespace Go.Proofs.Aa.Db
open Go.RowKit
def Kept (w W:World) (S:Nat→Prop):Prop:=w.heap.size ≤ W.heap.size∧∀ i,i < w.heap.size→¬ S i→W.heap[i]? = w.heap[i]?
section
variable {w W W2:World} {S S2 S':Nat→Prop}
theorem Kept.refl (w:World) (S:Nat→Prop):Kept w w S:=⟨Nat.le_refl _,fun _ _ _=>rfl⟩
theorem Kept.xj (h:Below w.heap.size w W) (S:Nat→Prop):Kept w W S:=⟨h.size,fun i hi _=>h.block i hi⟩
theorem Kept.mono (h:Kept w W S) (hs:∀ k,S k→S' k):Kept w W S':=⟨h.1,fun i hi hn=>h.2 i hi (fun hk=>hn (hs i hk))⟩
theorem Kept.Lu (h:Kept w W S) (k:Kept W W2 S2) (hs:∀ k,S2 k→S k ∨ w.heap.size ≤ k):Kept w W2 S :=
 ⟨Nat.le_trans h.1 k.1,fun i hi hn=>(k.2 i (Nat.lt_of_lt_of_le hi h.1) (fun h2=>(hs i h2).elim hn (fun h3=>by omega))).trans (h.2 i hi hn)⟩
theorem Kept.Af {row:Option Nat} (hg:W.grownBy W2 row) (h:Kept w W S) (hr:∀ k,row=some k→S k ∨ w.heap.size ≤ k):Kept w W2 S :=
 h.Lu (S2:=fun k=>row=some k) ⟨hg.size,fun i hi hn=>hg.block i hi (fun he=>hn he.symm)⟩ hr
theorem Kept.below (h:Kept w W S) (hb:Below W.heap.size W W2):Kept w W2 S:=h.Lu (Kept.xj hb (fun _=>False)) (fun _ hk=>hk.elim)
theorem Kept.alloc (h:Kept w W S) (o:Obj):Kept w (W.alloc o) S:=h.below (ia (Below.refl _ _) o)
theorem Kept.drew (h:Kept w W S):Kept w W.drew S:=h
theorem Kept.drewN (h:Kept w W S) (m:Nat):Kept w (W.drewN m) S:=h
theorem Kept.setCell (h:Kept w W S) {p:Addr} (hp:S p.block ∨ w.heap.size ≤ p.block) (u:Value):Kept w (W.setCell p u) S :=
 h.Lu (S2:=fun k=>k=p.block) ⟨by simp [World.setCell],fun i _ hn=>Below.heap_setCell W p u i hn⟩ (fun k hk=>by rw [hk];exact hp)
theorem Kept.keep {g:Nat} (h:sg w W g none) (k:Kept W W2 S2) (hs:∀ k,S2 k→w.heap.size ≤ k):sg w W2 g none :=
 ⟨Nat.le_trans h.1 k.1,fun i hi hg hr=>(k.2 i (Nat.lt_of_lt_of_le hi h.1) (fun h2=>by have:=hs i h2;omega)).trans (h.2 i hi hg hr)⟩
theorem jg {g:Nat} {o:Obj} (hb:W.heap[g]? = some o) (hk:Kept W W2 S) (hne:¬ S g):W2.heap[g]? = some o:=(hk.2 g (Te hb) hne).trans hb
theorem Fq {a:Addr} {v:Value} (hc:W.cell? a=some v) (hk:Kept W W2 S) (hne:¬ S a.block):W2.cell? a=some v:=by
 have:=hk.2 a.block (World.block_lt_of_cell? W a hc) hne
 simpa [World.cell?,this] using hc
end
namespace Kd
section
variable {α:Type} {d:Kd α} {e base n c:Nat} {ok dm S S2:Nat→Prop} {w w0 W W1 W2:World} {v:Value} {A:Option Addr} {xs:List α} {i:Int} {cs:List Value}
theorem gq (h:d.R e W base ok v xs) (hk:Kept W W2 S) (hne:∀ k,ok k→¬ S k):d.R e W2 base ok v xs:=Rw h (fun k ho hlt=>hk.2 k hlt (hne k ho))
theorem DT (h:d.Q e W base ok v xs) (hk:Kept W W2 S) (hne:∀ k,ok k→¬ S k):d.Q e W2 base ok v xs:=VD h (fun k ho hlt=>hk.2 k hlt (hne k ho))
theorem Sz (h:Kd.S d e W base ok v xs) (hk:Kept W W2 S) (hne:∀ k,ok k→¬ S k):Kd.S d e W2 base ok v xs:=TD h (fun k ho hlt=>hk.2 k hlt (hne k ho))
theorem JT (h:Kd.H d e W base ok v xs i dm cs) (hk:Kept W W2 S) (hne:∀ k,ok k→¬ dm k→¬ S k):Kd.H d e W2 base ok v xs i dm cs:=KK h (fun k ho hn hlt=>hk.2 k hlt (hne k ho hn))
theorem Jm (h:d.R e W base ok (.slice A n c) xs) (hok:∀ k,ok k→¬ S k):∀ W',Kept W W' S→d.C W' A n xs:=fun W' hk=>by
 have h2:=Ua (gq h hk hok);rw [h2.1];exact h2.2.2
theorem mq (hd:Heap d) (h:d.C w0 A n xs) (hb:Below w0.heap.size w0 W) (hS:∀ k,S k→w0.heap.size ≤ k):∀ W',Kept W W' S→d.C W' A n xs:=fun W' hk =>
 hd.C (fun k hlt=>(hk.2 k (Nat.lt_of_lt_of_le hlt hb.size) (fun h2=>by have:=hS k h2;omega)).trans (hb.block k hlt)) h
theorem jE (h:∀ W',Kept w W' S→d.C W' A n xs) (hk:Kept w W S):d.C W A n xs:=h W hk
end
end Kd
end Go.Proofs.Aa.Db
end
section
namespace Go.Proofs.Aa.Db
open Go.RowKit
def Pr (P:World→Prop) (W:World) (ok:Nat→Prop):Prop:=∀ W':World,(∀ k,ok k→k < W.heap.size→W'.heap[k]? = W.heap[k]?)→P W'
theorem CM {W W1:World} {k:Nat} (h:W1.heap[k]? = W.heap[k]?) (hlt:k < W.heap.size):k < W1.heap.size:=by
 rw [Array.getElem?_eq_getElem hlt] at h;exact (Array.getElem?_eq_some_iff.1 h).1
namespace Pr
variable {P Q:World→Prop} {W W1:World} {ok cl:Nat→Prop}
theorem now (h:Pr P W ok):P W:=h W (fun _ _ _=>rfl)
theorem mono (h:Pr P W ok) (hok:∀ k,ok k→cl k):Pr P W cl:=fun W' hW=>h W' (fun k hk hlt=>hW k (hok k hk) hlt)
theorem bound (h:Pr P W ok):Pr P W (fun k=>ok k∧k < W.heap.size):=fun W' hW=>h W' (fun k hk hlt=>hW k ⟨hk,hlt⟩ hlt)
theorem step (h:Pr P W ok) (hm:∀ k,ok k→k < W.heap.size→W1.heap[k]? = W.heap[k]?):Pr P W1 ok:=fun W' hW=>h W' (fun k hk hlt=>(hW k hk (CM (hm k hk hlt) hlt)).trans (hm k hk hlt))
theorem imp (h:Pr P W ok) (hi:∀ W',P W'→Q W'):Pr Q W ok:=fun W' hW=>hi W' (h W' hW)
theorem old (h:Pr P W ok) (hb:Below W.heap.size W W1):Pr P W1 (fun k=>ok k∧k < W.heap.size):=(h.bound).step (fun k _ hlt=>hb.block k hlt)
end Pr
namespace Kd
def F {α:Type} (d:Kd α) (W:World) (ok:Nat→Prop) (A:Option Addr) (n:Nat) (xs:List α):Prop:=Pr (fun W=>d.C W A n xs) W ok
def FK {α:Type} (d:Kd α) (W:World) (ok:Nat→Prop) (x:α) (c:List Value):Prop:=Pr (fun W=>d.K W x c) W ok
section
variable {α β:Type} {d:Kd α} {e base n n' cc g N:Nat} {ok cl Yg S:Nat→Prop} {w w0 w1 W W1:World} {A A':Option Addr} {u v v1:Value} {xs:List α} {xs':List β} {d':Kd β} {x:α} {c:List Value}
theorem fZ (d:Kd α) (W:World) (ok:Nat→Prop):F d W ok none ([]:List α).length []:=fun W' _=>rG d W'
theorem oO (h:d.M W base ok x c):FK d W ok x c:=fun _ hW=>d.af (XD h hW)
end
end Kd
end Go.Proofs.Aa.Db
end
section
namespace Go.Proofs.Aa.Db
open Go.RowKit
namespace Kd
def chunks (sz:Nat) (n:Nat) (inner:List Value):List (List Value):=(List.range n).map fun j=>(inner.drop (j * sz)).take sz
theorem Wi (sz n:Nat) (inner:List Value):(chunks sz n inner).length=n:=by simp [chunks]
theorem oH {sz n:Nat} {inner:List Value} {j:Nat} (hj:j < n):(chunks sz n inner)[j]? = some ((inner.drop (j * sz)).take sz):=by simp [chunks,hj]
theorem Jw {sz n:Nat} {inner:List Value} {j:Nat} {c:List Value} (h:(chunks sz n inner)[j]? = some c):c=(inner.drop (j * sz)).take sz:=by
 have hj:j < n:=by have:=(List.getElem?_eq_some_iff.1 h).1;rwa [Wi] at this
 rw [oH hj] at h;injection h with h
 exact h.symm
theorem ZH {α:Type} {Rr:α→List Value→Prop} {sz:Nat} {xs:List α} {inner:List Value} (h:Pc Rr sz xs inner) (hR:∀ x c,Rr x c→c.length=sz∧∀ u ∈ c,u.oneCell' = true):Pc (fun x cs=>cs=x∧cs.length=sz∧∀ u ∈ cs,u.oneCell' = true) sz (chunks sz xs.length inner) inner:=by
 refine ⟨by rw [Wi];exact h.1,fun j p hj=>?_⟩;have hjl:j < xs.length:=by have:=(List.getElem?_eq_some_iff.1 hj).1;rwa [Wi] at this
 have hp:=Jw hj;exact ⟨hp.symm,hR _ _ (h.2 j _ (List.getElem?_eq_getElem hjl))⟩
section
variable {α:Type} {d:Kd α} {e base n cc g:Nat} {ok cl Yg S:Nat→Prop} {w w1 W W1:World} {A:Option Addr} {u v v1:Value} {xs:List α} {x:α} {c:List Value}
def N {α:Type} (d:Kd α) (e:Nat) (w:World) (base:Nat) (ok:Nat→Prop) (v:Value) (xs:List α):Prop :=
 (∀ k,v.ownBlock=some k→ok k)∧∃ rows:List (List Value),rows.length=xs.length∧(raw d.sz).R e w base (fun k=>some k=v.ownBlock) v rows∧∀ (j:Nat) (x:α) (c:List Value),xs[j]? = some x→rows[j]? = some c→FK d w (fun k=>ok k∧some k ≠ v.ownBlock) x c
theorem R_N (h:d.R e w base ok v xs):N d e w base ok v xs:=by
 obtain ⟨h0,inner,ho,hr⟩:=h;refine ⟨h0,chunks d.sz xs.length inner,Wi _ _ _,⟨fun k hk=>hk.symm,inner,by rw [Wi];exact ho,ZH hr (fun x c hp=>⟨d.ni (d.af hp),d.Vh (d.af hp)⟩)⟩,fun j x c hx hc=>?_⟩;rw [Jw hc];exact oO (hr.2 j x hx)
theorem yX (d:Kd α) (e:Nat) (w:World) (base:Nat) (ok:Nat→Prop):N d e w base ok (.slice none 0 0) []:=R_N (Nt _ _ _ _ _)
theorem FN (h:N d e w base ok v xs):∃ A c,v = .slice A xs.length c:=by
 obtain ⟨_,rows,hl,hR,_⟩:=h;obtain ⟨A,c,he⟩:=Vb hR;exact ⟨A,c,by rw [he,hl]⟩
end
end Kd
end Go.Proofs.Aa.Db
end
section
namespace Go.Proofs.Aa.Db
open Go.RowKit
namespace Kd
section
variable {α:Type} {d:Kd α} {W:World} {g n:Nat} {S ok:Nat→Prop} {A:Option Addr} {ad:Addr} {xs:List α}
end
end Kd
end Go.Proofs.Aa.Db
end
section
namespace Go.Proofs.Aa.Db
open Go.RowKit
section
variable {w w' u:World} {m B g:Nat} {o:Obj} {row:Option Nat} {S:Nat→Prop} {a:Addr} {v:Value}
end
namespace Kd
section
variable {α:Type} {d:Kd α} {e base n m:Nat} {ok:Nat→Prop} {w w':World} {v:Value} {A:Option Addr} {xs:List α}
end
end Kd
end Go.Proofs.Aa.Db
end
section
namespace Go.Proofs.Aa.Db
open Go.RowKit
section
variable {P:Program} {d:Nat} {xs ys:Array Value} {f:Field} {fs:List Field} {a b:Value} {r s:Bool} {w:World}
theorem LB (hn:(f.name == "_")=false) (ha:(part f.type xs f.offset).run P w = .ok a w) (hb:(part f.type ys f.offset).run P w = .ok b w) (he:(Op.equalIn d f.type a b).run P w = .ok r w):(Op.eqFields d xs ys [f]).run P w = .ok r w:=by
 have hn':f.name ≠ "_" := by simpa using hn
 simp only [Op.eqFields,if_pos hn',Sem.run_bind,ha,hb,he,Result.andThen_ok];cases r <;> simp
theorem Vi (hn:(f.name == "_")=false) (ha:(part f.type xs f.offset).run P w = .ok a w) (hb:(part f.type ys f.offset).run P w = .ok b w) (he:(Op.equalIn d f.type a b).run P w = .ok r w) (hr:(Op.eqFields d xs ys fs).run P w = .ok s w):(Op.eqFields d xs ys (f :: fs)).run P w = .ok (r && s) w:=by
 have hn':f.name ≠ "_" := by simpa using hn
 rw [Op.eqFields];simp only [if_pos hn',Sem.run_bind,ha,hb,he,Result.andThen_ok];cases r
 ·simp
 ·simpa using hr
theorem TJ {t:TypeId} {fs:Array Field} (hu:P.underlying t=some (.struct fs)) (hp:P.stoodInHeld t=false) (h:(Op.eqFields d xs ys fs.toList).run P w = .ok r w):(Op.equalIn (d + 1) t (.agg xs) (.agg ys)).run P w = .ok r w:=by
 have hf:P.fieldsOf t=fs:=by simp [Program.fieldsOf,hu]
 rw [run_equalIn_struct (P:=P) w d t xs ys (by rw [hf];exact hu) hp,hf];exact h
end
end Go.Proofs.Aa.Db
end
section
namespace Go.Proofs.Aa.Db
theorem Pc.one {α:Type} {R:α→List Value→Prop} {ps:List α} {cs:List Value} {p:α} {v:Value} (hp:R p [v]) (h:Pc R 1 ps cs):Pc R 1 (p :: ps) (v :: cs):=by
 refine ⟨by simp [h.1],fun j q hq=>?_⟩;cases j with
 | zero =>
  simp only [List.getElem?_cons_zero,Option.some.injEq] at hq;subst hq
  simpa using hp
 | succ j =>
  simp only [List.getElem?_cons_succ] at hq;have h1:=h.2 j q hq
  simpa [Nat.mul_one] using h1
theorem Pc.front {α:Type} {R:α→List Value→Prop} {size:Nat} {ps:List α} {cs c all:List Value} {p:α} (hp:R p c) (hc:c.length=size) (h:Pc R size ps cs) (ha:c ++ cs=all):Pc R size (p :: ps) all:=by
 subst ha;refine ⟨by rw [List.length_append,hc,h.1,List.length_cons,Nat.succ_mul,Nat.add_comm],fun j q hq=>?_⟩;cases j with
 | zero =>
  simp only [List.getElem?_cons_zero,Option.some.injEq] at hq;subst hq;rw [Nat.zero_mul,List.drop_zero,List.take_append_of_le_length (by omega),List.take_of_length_le (by omega)];exact hp
 | succ j =>
  simp only [List.getElem?_cons_succ] at hq;have h1:=h.2 j q hq;rw [Nat.succ_mul,List.drop_append,List.drop_of_length_le (by rw [hc];exact Nat.le_add_left _ _),List.nil_append,hc,Nat.add_sub_cancel];exact h1
theorem Pc.c2 {α:Type} {R:α→List Value→Prop} {ps:List α} {cs:List Value} {p:α} {va vb:Value} (hp:R p [va,vb]) (h:Pc R 2 ps cs):Pc R 2 (p :: ps) (va :: vb :: cs):=Pc.front hp rfl h rfl
theorem Pc.c3 {α:Type} {R:α→List Value→Prop} {ps:List α} {cs:List Value} {p:α} {va vb vc:Value} (hp:R p [va,vb,vc]) (h:Pc R 3 ps cs):Pc R 3 (p :: ps) (va :: vb :: vc :: cs):=Pc.front hp rfl h rfl
theorem Pc.c4 {α:Type} {R:α→List Value→Prop} {ps:List α} {cs:List Value} {p:α} {va vb vc vd:Value} (hp:R p [va,vb,vc,vd]) (h:Pc R 4 ps cs):Pc R 4 (p :: ps) (va :: vb :: vc :: vd :: cs):=Pc.front hp rfl h rfl
theorem Pc.c5 {α:Type} {R:α→List Value→Prop} {ps:List α} {cs:List Value} {p:α} {va vb vc vd ve:Value} (hp:R p [va,vb,vc,vd,ve]) (h:Pc R 5 ps cs):Pc R 5 (p :: ps) (va :: vb :: vc :: vd :: ve :: cs):=Pc.front hp rfl h rfl
theorem Pc.c6 {α:Type} {R:α→List Value→Prop} {ps:List α} {cs:List Value} {p:α} {va vb vc vd ve vf:Value} (hp:R p [va,vb,vc,vd,ve,vf]) (h:Pc R 6 ps cs):Pc R 6 (p :: ps) (va :: vb :: vc :: vd :: ve :: vf :: cs):=Pc.front hp rfl h rfl
theorem Pc.c7 {α:Type} {R:α→List Value→Prop} {ps:List α} {cs:List Value} {p:α} {va vb vc vd ve vf vg:Value} (hp:R p [va,vb,vc,vd,ve,vf,vg]) (h:Pc R 7 ps cs):Pc R 7 (p :: ps) (va :: vb :: vc :: vd :: ve :: vf :: vg :: cs):=Pc.front hp rfl h rfl
theorem Pc.c8 {α:Type} {R:α→List Value→Prop} {ps:List α} {cs:List Value} {p:α} {va vb vc vd ve vf vg vh:Value} (hp:R p [va,vb,vc,vd,ve,vf,vg,vh]) (h:Pc R 8 ps cs):Pc R 8 (p :: ps) (va :: vb :: vc :: vd :: ve :: vf :: vg :: vh :: cs):=Pc.front hp rfl h rfl
theorem Pc.c9 {α:Type} {R:α→List Value→Prop} {ps:List α} {cs:List Value} {p:α} {va vb vc vd ve vf vg vh vi:Value} (hp:R p [va,vb,vc,vd,ve,vf,vg,vh,vi]) (h:Pc R 9 ps cs):Pc R 9 (p :: ps) (va :: vb :: vc :: vd :: ve :: vf :: vg :: vh :: vi :: cs):=Pc.front hp rfl h rfl
theorem Pc.mK {α:Type} {R:α→List Value→Prop} {ps:List α} {cs:List Value} {p:α} {va vb vc vd ve vf vg vh vi vj:Value} (hp:R p [va,vb,vc,vd,ve,vf,vg,vh,vi,vj]) (h:Pc R 10 ps cs):Pc R 10 (p :: ps) (va :: vb :: vc :: vd :: ve :: vf :: vg :: vh :: vi :: vj :: cs):=Pc.front hp rfl h rfl
end Go.Proofs.Aa.Db
end
section
namespace Go.Proofs.Aa.Tc
def up (b:Nat→Bool) (i:Nat):Nat→Bool:=fun j=>if j=i then true else b j
section
variable {P:Program} {ops:Array Oper} {Q:Exit→Act→World→Prop} {md:Region.Mode} {T:Bool × List (List Nat × List Nat)} {B:List Nat} {O:List Nat} {b:Nat→Bool} {i j n:Nat}
end
end Go.Proofs.Aa.Tc
end
section
namespace Go.Proofs.Aa.Db
open Go.RowKit
end Go.Proofs.Aa.Db
namespace Go.Proofs.Aa.Tc
section
variable {ops:Array Oper} {a:Act} {o og:Oper} {g:Nat} {t:Tmp} {u:Bool}
end
end Go.Proofs.Aa.Tc
end
section
namespace Go.Proofs.Aa.Db
open Go.RowKit
section
variable {P:Program} {ops:Array Oper} {rest:List Oper} {o:Oper} {a:Act} {Q:Exit→Act→World→Prop} {W:World}
theorem xm (hw:Region.wanted o (yielded ops a.tmps)=true) (h:wpList P ops Q ({ o with guard:=none } :: rest) a W):wpList P ops Q (o :: rest) a W:=by
 have h1:Region.wanted { o with guard:=none } (yielded ops a.tmps)=true:=rfl;unfold wpList at h ⊢;rw [if_pos h1] at h;rw [if_pos hw];exact h
end
end Go.Proofs.Aa.Db
end
section
namespace Go.Proofs.Aa.Db
open Go.RowKit
namespace Kd
section
variable {α:Type} {d:Kd α} {e base n cap g:Nat} {ok cl Yg:Nat→Prop} {w w1 W:World} {v v1:Value} {xs ys:List α}
end
section
variable {P:Program} {ops:Array Oper} {rest:List Oper} {o:Oper} {a:Act} {Q:Exit→Act→World→Prop} {Kc:Act→World→Prop} {α:Type}
end
end Kd
end Go.Proofs.Aa.Db
end
section
namespace Go.Proofs.Aa.ke
open Go.RowKit Go.Proofs.Aa.Db
namespace Kd
open Go.Proofs.Aa.Db.Kd
end Kd
namespace Kd
open Go.Proofs.Aa.Db.Kd
section
variable {α:Type} {d:Kd α} {e base g N:Nat} {ok:Nat→Prop} {W w1:World} {u v:Value} {xs:List α}
end
end Kd
theorem fh (k k':IntKind) (x y:Int):Builtin.max2 (.int k x) (.int k' y)=pure (.int k (if x < y then y else x)):=by simp only [Builtin.max2,gt_iff_lt]
theorem bh (k k':IntKind) (x y:Int):Builtin.min2 (.int k x) (.int k' y)=pure (.int k (if y < x then y else x)):=by simp only [Builtin.min2]
theorem Zh (ats:Array TypeId) (ty:TypeId) (a b:Value):Builtin.max_ ats ty #[a,b]=(Builtin.max2 a b >>= fun s=>pure s):=by simp only [Builtin.max_,List.foldlM_cons,List.foldlM_nil]
theorem Yh (ats:Array TypeId) (ty:TypeId) (a b:Value):Builtin.min_ ats ty #[a,b]=(Builtin.min2 a b >>= fun s=>pure s):=by simp only [Builtin.min_,List.foldlM_cons,List.foldlM_nil]
theorem mg (ats:Array TypeId) (ty:TypeId) (a b c:Value):Builtin.max_ ats ty #[a,b,c]=(Builtin.max2 a b >>= fun s=>Builtin.max2 s c >>= fun s=>pure s):=by simp only [Builtin.max_,List.foldlM_cons,List.foldlM_nil]
theorem lg (ats:Array TypeId) (ty:TypeId) (a b c:Value):Builtin.min_ ats ty #[a,b,c]=(Builtin.min2 a b >>= fun s=>Builtin.min2 s c >>= fun s=>pure s):=by simp only [Builtin.min_,List.foldlM_cons,List.foldlM_nil]
theorem dh (ats:Array TypeId) (ty:TypeId) (a b c d:Value):Builtin.max_ ats ty #[a,b,c,d]=(Builtin.max2 a b >>= fun s=>Builtin.max2 s c >>= fun s=>Builtin.max2 s d >>= fun s=>pure s):=by simp only [Builtin.max_,List.foldlM_cons,List.foldlM_nil]
theorem ah (ats:Array TypeId) (ty:TypeId) (a b c d:Value):Builtin.min_ ats ty #[a,b,c,d]=(Builtin.min2 a b >>= fun s=>Builtin.min2 s c >>= fun s=>Builtin.min2 s d >>= fun s=>pure s):=by simp only [Builtin.min_,List.foldlM_cons,List.foldlM_nil]
end Go.Proofs.Aa.ke
namespace Go.Proofs.Aa.Db
open Go.RowKit
section
variable {P:Program} {ops:Array Oper} {rest:List Oper} {o:Oper} {a:Act} {Q:Exit→Act→World→Prop} {W:World}
theorem Kb {f:FuncId} {as:Array Operand} {ts:Array TypeId} (_ho:o.op = .call { callee:=.value (.func f),args:=as,argTypes:=ts }) (h:wpList P ops Q (o :: rest) a W):wpList P ops Q (o :: rest) a W:=h
theorem Bg {b:Builtin} {xs:Array Operand} {ts:Array TypeId} (_ho:o.op = .call { callee:=.builtin b,args:=xs,argTypes:=ts }) (h:wpList P ops Q (o :: rest) a W):wpList P ops Q (o :: rest) a W:=h
end
namespace Kd
section
variable {α:Type} {d:Kd α} {e base:Nat} {ok:Nat→Prop} {W w1:World} {v:Value} {xs:List α}
end
section
variable {α:Type} {d:Kd α} {e base g n cap:Nat} {ok dm Yg:Nat→Prop} {W:World} {xs:List α} {i:Int} {c:List Value}
theorem vT (hH:H d e W base ok (.slice (some ⟨g,0,none⟩) n cap) xs i dm c) (h0:0 ≤ i) (h1:i < n) {seg:List Value} {j:Nat} (hj:j + seg.length ≤ d.sz)
  {x':α} (hM:d.M W base Yg x' (c.take j ++ seg ++ c.drop (j + seg.length))) (Kl:∀ k,Yg k→dm k) :
  S d e (W.setCells g (i.toNat * d.sz + j) seg) base ok (.slice (some ⟨g,0,none⟩) n cap) (xs.set i.toNat x')∧W.grownBy (W.setCells g (i.toNat * d.sz + j) seg) (some g) :=
 CP (WL:=fun _=>False) (FT hH (fun _ hk=>⟨hk,fun h=>h⟩)) h0 h1 hj hM (fun k hk=>.inl (Kl k hk)) (fun _ hk=>hk.elim)
end
section
variable {α:Type} {d:Kd α} {e base b b' g N:Nat} {ok ok1:Nat→Prop} {W W2 w1:World} {u v:Value} {xs ys:List α} {S:Nat→Prop}
theorem yK (hE:d.E=[]) (h:d.R e W base ok1 v xs) (hok:∀ k,v.ownBlock=some k→ok k):d.R e W base ok v xs:=Eb (Ji hE h) (fun k hk=>hok k hk.symm)
theorem Ot (h:d.R e W base ok v xs) (hk:Kept W W2 S) (hne:∀ k,ok k→¬ S k):d.R e W2 base (fun k=>ok k∧(¬ S k∧k < W.heap.size)) v xs :=
 gq (Eb (We h) (fun k hk=>⟨hk.1,hne k hk.1,hk.2.2.1⟩)) hk (fun _ hk=>hk.2.1)
theorem EN (h:d.Q e W base ok v xs) (hk:Kept W W2 S) (hne:∀ k,ok k→¬ S k):d.Q e W2 base (fun k=>ok k∧(¬ S k∧k < W.heap.size)) v xs :=
 DT (Vg (Dn h) (fun k hk=>⟨hk.1,hne k hk.1,hk.2.2.1⟩)) hk (fun _ hk=>hk.2.1)
theorem wN (h:Kd.S d e W base ok v xs) (hk:Kept W W2 S) (hne:∀ k,ok k→¬ S k):Kd.S d e W2 base (fun k=>ok k∧(¬ S k∧k < W.heap.size)) v xs :=
 Sz (wg (Ro h) (fun k hk=>⟨hk.1,hne k hk.1,hk.2.2.1⟩)) hk (fun _ hk=>hk.2.1)
end
end Kd
end Go.Proofs.Aa.Db
namespace Go.Proofs.Aa.Db
open Go.RowKit
namespace Kd
def V {α:Type} (d:Kd α) (_e:Nat) (W:World) (_base:Nat) (ok:Nat→Prop) (v:Value) (xs:List α):Prop:=∃ A c,v = .slice A xs.length c∧xs.length ≤ c∧F d W ok A xs.length xs
section
variable {α β:Type} {d:Kd α} {e base base' n m c g N' lo hi:Nat} {ok cl S:Nat→Prop} {w W w1:World} {A:Option Addr} {ad:Addr} {u v v1:Value} {xs:List α}
theorem iX (d:Kd α) (e:Nat) (W:World) (base:Nat) (ok:Nat→Prop):V d e W base ok (.slice none 0 0) []:=⟨none,0,rfl,Nat.le_refl _,fZ d W ok⟩
theorem AK {M:Nat→Prop} (h:d.R e w1 W.heap.size ok v xs) (hle:w.heap.size ≤ W.heap.size) (hM:∀ k,w.heap.size ≤ k→M k):d.R e w1 W.heap.size (fun k=>M k∧ok k) v xs:=Eb (We h) (fun k hk=>⟨hM k (Nat.le_trans hle hk.2.1),hk.1⟩)
end
end Kd
theorem Jb {w w':World} {a:Addr} {v:Value} (h:Below w.heap.size w w') (hx:w.cell? a=some v):w'.cell? a=some v:=(h.cell (World.block_lt_of_cell? w _ hx)).trans hx
theorem Ja {p:Prop} [Decidable p] (h:decide p=true:=by first|(with_reducible assumption)|assumption):p:=of_decide_eq_true h
theorem Gz {w:World} {g:Nat} {t:TypeId} {a0_ a1_ a2_ a3_ a4_:Value} {r:List Value} (h:w.heap[g]? = some (.cells (a0_ :: a1_ :: a2_ :: a3_ :: a4_ :: r).toArray t (0,0))):w.cell? ⟨g,0,none⟩=some a0_∧w.cell? ⟨g,1,none⟩=some a1_∧w.cell? ⟨g,2,none⟩=some a2_∧w.cell? ⟨g,3,none⟩=some a3_∧w.cell? ⟨g,4,none⟩=some a4_∧w.frozen? ⟨g,0,none⟩=false∧w.frozen? ⟨g,1,none⟩=false∧w.frozen? ⟨g,2,none⟩=false∧w.frozen? ⟨g,3,none⟩=false∧w.frozen? ⟨g,4,none⟩=false:=⟨(ya h 0).trans rfl,(ya h 1).trans rfl,(ya h 2).trans rfl,(ya h 3).trans rfl,(ya h 4).trans rfl,za h 0,za h 1,za h 2,za h 3,za h 4⟩
end Go.Proofs.Aa.Db
end
