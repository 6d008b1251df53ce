import Derived.Below
import Derived.Deep.Draws
import Derived.Deep.AppendLies
import Derived.Maps.AppendAt
import Derived.OwnWalk
import Derived.Laws.BytesArg
import Derived.Laws.MakeOwn
import Derived.Laws.OwnMore
import Derived.Deep.OwnRows
import Derived.Tactics
import Derived.Lib.ConvBytes
import Derived.Laws.Slices
import Derived.WalkKit
import Derived.KernelRfl
import Derived.RowKit3
import Derived.Deep.LoopGhost
import Derived.Deep.QuietTactic
import Derived.BigQuiet
import Derived.WideLaws
import Derived.Deep.DeepCutAuto
import Derived.Deep.CutBlock
import Derived.Deep.RegionHeld3
import Derived.Laws.Rows
import Derived.Lib.AppendStr
import Derived.ArgAppend
import Derived.Laws.IdiomCopy
import Derived.RowKit
import Derived.OrdersHeld
import Derived.Laws.BitsLemmas
section
set_option linter.unusedVariables false
set_option linter.unusedSimpArgs false
namespace Go.Proofs.ua.zb
open Go.RowKit
structure aa (p:Prop):Prop where mk :: (out:p)
structure Nb (w w':World):Prop where mk :: (out:∃ n,w' = w.drewN n)
theorem Nb.refl (w:World):Nb w w:=⟨⟨0,rfl⟩⟩
theorem Nb.step {w w':World} (h:Nb w w') (n:Nat):Nb w (w'.drewN n):=by
 obtain ⟨m,rfl⟩:=h;exact ⟨⟨m + n,World.drewN_drewN ..⟩⟩
theorem Nb.grown {w w':World} (h:Nb w w'):Grown w w':=by
 obtain ⟨n,rfl⟩:=h
 induction n with
 | zero=>exact Grown.refl _
 | succ n ih=>rw [← World.drew_drewN];exact Grown.drew ih
theorem Nb.below {w w':World} (h:Nb w w'):Below w.heap.size w w':=by
 obtain ⟨n,rfl⟩:=h
 induction n with
 | zero=>exact Below.refl _ _
 | succ n ih=>rw [← World.drew_drewN];exact ih.drew
def rd (xs:List Int) (i:Int):Int:=xs.getD i.toNat 0
def eO (k:IntKind) (xs:List Int):List Value:=xs.map fun x=>.int k x
theorem ia {w W:World} (h:Below w.heap.size w W) (o:Obj):Below w.heap.size w (W.alloc o):=h.alloc h.size o
theorem Mk {B:Nat} {w W:World} (h:Below B w W):Below B w W.drew:=⟨h.os,h.tape,h.output,h.size,h.block⟩
theorem ga {B:Nat} {w W:World} (h:Below B w W) (n:Nat):Below B w (W.drewN n):=⟨h.os,h.tape,h.output,h.size,h.block⟩
theorem Np {B:Nat} {w w1 w2:World} (h:Below B w w1) (hB:B ≤ w1.heap.size) (k:Below w1.heap.size w1 w2):Below B w w2 :=
 h.trans ⟨k.os,k.tape,k.output,k.size,fun i hi=>k.block i (Nat.lt_of_lt_of_le hi hB)⟩
theorem zn {B:Nat} {w w1:World} (h:Below B w w1) (row:Option Nat) (hB:B ≤ w1.heap.size) {w2:World} (hg:w1.grownBy w2 row) (hr:∀ k,row=some k→B ≤ k):Below B w w2:=h.grown hg hB hr
theorem Qu {w w1:World} (h:Below w.heap.size w w1) (row:Option Nat):w.grownBy w1 row:=⟨h.os,h.tape,h.output,h.size,fun i hi _=>h.block i hi⟩
theorem Xe {w w1:World} (h:Below w.heap.size w w1) {a:Addr} {v:Value} (hc:w.cell? a=some v):w1.cell? a=some v:=(h.cell (World.block_lt_of_cell? w a hc)).trans hc
theorem add_plain (g j:Nat):(⟨g,0,none⟩:Addr).add j=⟨g,j,none⟩:=by unfold Addr.add;split <;> simp_all
def Vf (w:World) (k:IntKind) (A:Option Addr) (n:Nat) (xs:List Int):Prop :=
 xs.length=n∧n ≤ 9223372036854775807∧(0 < n→∃ ad,A=some ad∧∀ j,j < n→w.cell? (ad.add j)=some (.int k (xs.getD j 0)))
theorem Vf.at_ {w:World} {k:IntKind} {A:Option Addr} {n:Nat} {xs:List Int} (h:Vf w k A n xs) (i:Int) (h0:0 ≤ i) (h1:i < n):∃ ad,A=some ad∧w.cell? (ad.add i.toNat)=some (.int k (rd xs i)):=by
 obtain ⟨ad,e,hc⟩:=h.2.2 (by omega);exact ⟨ad,e,hc _ (by omega)⟩
theorem Vf.below {w w1:World} {k:IntKind} {A:Option Addr} {n:Nat} {xs:List Int} (h:Vf w k A n xs) (hb:Below w.heap.size w w1):Vf w1 k A n xs :=
 ⟨h.1,h.2.1,fun hn=>by
  obtain ⟨ad,e,hc⟩:=h.2.2 hn
  exact ⟨ad,e,fun j hj=>Xe hb (hc j hj)⟩⟩
theorem mK (W:World) (base:Nat) (e:TypeId) (size:Nat):W.ownsRow base e size (.slice none 0 0) 0 []:=⟨by simp,.inl ⟨rfl,rfl⟩⟩
theorem Cn {w:World} {base:Nat} {e:TypeId} {size n:Nat} {v:Value} {xs:List Value} (h:w.ownsRow base e size v n xs) (k:Nat) (hk:v.ownBlock=some k):base ≤ k:=by
 rcases h.2 with ⟨rfl,_⟩|⟨g,cap,cur,rfl,hb,_⟩
 ·simp [Value.ownBlock] at hk
 ·have:g=k:=by simpa [Value.ownBlock] using hk
  omega
theorem uG {w:World} {base:Nat} {e:TypeId} {size n:Nat} {v:Value} {xs:List Value} (h:w.ownsRow base e size v n xs) (k:Nat) (hk:v.ownBlock=some k):k < w.heap.size:=by
 rcases h.2 with ⟨rfl,_⟩|⟨g,cap,cur,rfl,hb,hh,_⟩
 ·simp [Value.ownBlock] at hk
 ·have:g=k:=by simpa [Value.ownBlock] using hk
  subst this;exact (Array.getElem?_eq_some_iff.1 hh).1
theorem Iw {w w1:World} {base:Nat} {e:TypeId} {size n:Nat} {v:Value} {xs:List Value} (h:w.ownsRow base e size v n xs) (hb:Below w.heap.size w w1):w1.ownsRow base e size v n xs :=
 h.kept (Qu hb none) (by cases v.ownBlock <;> simp)
theorem ME {w:World} {base n:Nat} {e:TypeId} {size:Nat} {v:Value} {xs:List Value} (h:w.ownsRow base e size v n xs):∃ A c,v = .slice A n c:=by
 rcases h.2 with ⟨rfl,rfl⟩|⟨g,cap,cur,rfl,_⟩
 ·exact ⟨none,0,rfl⟩
 ·exact ⟨_,cap,rfl⟩
theorem fB {P:Program} {w:World} {base n:Nat} {e' src dst e:TypeId} {v:Value} {xs:List Int} (hs:P.underlying src=some (.slice e)) (he:P.underlying e=some (.int .u8)) (hd:P.underlying dst=some .string)
  (h:w.ownsRow base e' 1 v n (eO .u8 xs)):(convert src dst v).run P w = .ok (.string (strOfNums xs)) w:=by
 have hl:xs.length=n:=by have:=h.1;simp [eO] at this;exact this
 rcases h.2 with ⟨rfl,rfl⟩|⟨g,cap,cur,rfl,_⟩
 ·obtain rfl:xs=[]:=List.eq_nil_of_length_eq_zero hl;exact run_convert_bytes_nil w src e hs he 0 0 dst hd
 ·refine run_convert_bytes_arg w src e hs he g 0 n cap xs hl (fun i hi=>?_) dst hd;have hc:=h.cells (g:=g) rfl i (.int .u8 (xs.getD i 0)) (by simp [eO,List.getElem?_eq_getElem (show i < xs.length by omega),List.getD_eq_getElem?_getD]);have ha:(⟨g,0,none⟩:Addr).add i=⟨g,0 + i,none⟩:=by unfold Addr.add;split <;> simp_all
  rwa [ha] at hc
section
variable {P:Program} {ops:Array Oper} {rest:List Oper} {o:Oper} {a:Act} {Q:Exit→Act→World→Prop}
end
section
variable {P:Program}
end
section
variable {P:Program} {ops:Array Oper} {rest:List Oper} {o:Oper} {a:Act} {Q:Exit→Act→World→Prop}
end
theorem Vf.ah {w:World} {k:IntKind} {A:Option Addr} {n:Nat} {xs:List Int} (h:Vf w k A n xs) (i:Nat) (hi:i ≤ n):Vf w k A i (xs.take i):=by
 refine ⟨by rw [List.length_take,h.1];omega,by have:=h.2.1;omega,fun hp=>?_⟩;obtain ⟨ad,e,hc⟩:=h.2.2 (by omega);refine ⟨ad,e,fun j hj=>?_⟩;rw [hc j (by omega)];simp [List.getD_eq_getElem?_getD,hj]
def Bg {α:Type} (a b:Option α):Prop:=∀ r,a=some r→b=some r
theorem Bg.refl {α:Type} (a:Option α):Bg a a:=fun _ h=>h
theorem Bg.none {α:Type} (b:Option α):Bg Option.none b:=fun _ h=>by cases h
theorem Bg.trans {α:Type} {a b c:Option α} (h:Bg a b) (k:Bg b c):Bg a c:=fun r hr=>k r (h r hr)
theorem Bg.ite {α:Type} {c:Prop} [Decidable c] {a a' b b':Option α} (h:Bg a a') (k:Bg b b'):Bg (if c then a else b) (if c then a' else b'):=by
 split
 ·exact h
 ·exact k
theorem Bg.bind {α β:Type} {a a':Option α} {f f':α→Option β} (h:Bg a a') (k:∀ x,Bg (f x) (f' x)):Bg (a.bind f) (a'.bind f'):=by
 intro r hr;obtain ⟨x,hx,hf⟩:=Option.bind_eq_some_iff.1 hr;exact Option.bind_eq_some_iff.2 ⟨x,h x hx,k x r hf⟩
theorem Bg.map {α β:Type} {a a':Option α} (f:α→β) (h:Bg a a'):Bg (a.map f) (a'.map f):=by
 intro r hr;obtain ⟨x,hx,hf⟩:=Option.map_eq_some_iff.1 hr;exact Option.map_eq_some_iff.2 ⟨x,h x hx,hf⟩
theorem Ss {α:Type} {g:Nat→Option α} (h:∀ k,Bg (g k) (g (k + 1))) (k:Nat):∀ j,Bg (g k) (g (k + j))
 | 0=>Bg.refl _
 | j + 1=>(Ss h k j).trans (h (k + j))
theorem FF {α:Type} {g:Nat→Option α} (h:∀ k,Bg (g k) (g (k + 1))) {k k':Nat} (hk:k ≤ k') {r:α} (hr:g k=some r):g k' = some r:=by
 have:=Ss h k (k' - k) r hr
 rwa [Nat.add_sub_cancel' hk] at this
def Fc {α:Type} (R:α→List Value→Prop) (size:Nat) (ps:List α) (cs:List Value):Prop :=
 cs.length=ps.length * size∧∀ j p,ps[j]? = some p→R p ((cs.drop (j * size)).take size)
theorem Fc.none {α:Type} (R:α→List Value→Prop) (size:Nat):Fc R size [] []:=⟨by simp,fun j p h=>by simp at h⟩
theorem Fc.snoc {α:Type} {R:α→List Value→Prop} {size:Nat} {ps:List α} {cs c:List Value} {p:α} (h:Fc R size ps cs) (hp:R p c) (hc:c.length=size):Fc R size (ps ++ [p]) (cs ++ c):=by
 refine ⟨by rw [List.length_append,h.1,hc,List.length_append,List.length_singleton,Nat.add_mul,Nat.one_mul],fun j q hq=>?_⟩
 rcases Nat.lt_or_ge j ps.length with hj|hj
 ·rw [List.getElem?_append_left hj] at hq;have h1:j * size + size ≤ cs.length:=by rw [h.1,← Nat.succ_mul];exact Nat.mul_le_mul_right _ hj
  have h2:=h.2 j q hq;rw [List.drop_append_of_le_length (by omega),List.take_append_of_le_length (by rw [List.length_drop];omega)];exact h2
 ·have hj':j=ps.length:=by
   have:=(List.getElem?_eq_some_iff.1 hq).1;rw [List.length_append,List.length_singleton] at this;omega
  subst hj';have hq':p=q:=by simpa using hq
  subst hq';rw [← h.1,List.drop_left,← hc,List.take_length];exact hp
theorem Fc.Lk {α:Type} {R R':α→List Value→Prop} {size:Nat} {ps:List α} {cs:List Value} (h:Fc R size ps cs) (hR:∀ p c,R p c→R' p c):Fc R' size ps cs:=⟨h.1,fun j p hj=>hR _ _ (h.2 j p hj)⟩
def Uf {α:Type} (R:α→List Value→Prop) (size:Nat) (w:World) (A:Option Addr) (n:Nat) (ps:List α):Prop :=
 ps.length=n∧n ≤ 9223372036854775807∧(0 < n→∃ ad,A=some ad∧∀ j p,ps[j]? = some p→∃ c,c.length=size∧R p c∧∀ i u,c[i]? = some u→w.cell? (ad.add (j * size + i))=some u)
theorem Uf.J3 {α:Type} {R:α→List Value→Prop} {size:Nat} {w:World} {A:Option Addr} {n:Nat} {ps:List α} (h:Uf R size w A n ps) (d:α) (i:Int) (h0:0 ≤ i) (h1:i < n) :
  ∃ ad c,A=some ad∧c.length=size∧R (ps.getD i.toNat d) c∧∀ j u,c[j]? = some u→w.cell? (ad.add (i.toNat * size + j))=some u:=by
 obtain ⟨ad,e,hc⟩:=h.2.2 (by omega);have hl:i.toNat < ps.length:=by have:=h.1;omega
 obtain ⟨c,hs,hr,hcell⟩:=hc i.toNat _ (List.getElem?_eq_getElem hl);refine ⟨ad,c,e,hs,?_,hcell⟩;rw [List.getD_eq_getElem?_getD,List.getElem?_eq_getElem hl];exact hr
theorem Uf.Lk {α:Type} {R R':α→List Value→Prop} {size:Nat} {w w1:World} {A:Option Addr} {n:Nat} {ps:List α} (h:Uf R size w A n ps) (hb:Below w.heap.size w w1) (hR:∀ p c,R p c→R' p c):Uf R' size w1 A n ps :=
 ⟨h.1,h.2.1,fun hn=>by
  obtain ⟨ad,e,hc⟩:=h.2.2 hn;refine ⟨ad,e,fun j p hj=>?_⟩;obtain ⟨c,hs,hr,hcell⟩:=hc j p hj
  exact ⟨c,hs,hR _ _ hr,fun i u hu=>Xe hb (hcell i u hu)⟩⟩
theorem Mv {α:Type} {R:α→List Value→Prop} {w:World} {base n size:Nat} {e:TypeId} {v:Value} {ps:List α} {cs:List Value} (h:w.ownsRow base e size v n cs) (hR:Fc R size ps cs) (hn:ps.length=n) :
  ∃ A c,v = .slice A n c∧Uf R size w A n ps:=by
 rcases Nat.eq_zero_or_pos n with h0|h0
 ·rcases h.2 with ⟨rfl,rfl⟩|⟨g,cap,cur,rfl,_⟩
  ·exact ⟨none,0,rfl,hn,by omega,fun hp=>absurd hp (by omega)⟩
  ·exact ⟨_,cap,rfl,hn,by omega,fun hp=>absurd hp (by omega)⟩
 ·obtain ⟨g,cap,rfl,_,_⟩:=h.form h0
  have hm:n ≤ 9223372036854775807:=by
   rcases h.2 with ⟨_,h1⟩|⟨g',cap',cur,he,_,_,h1,h2,_⟩
   ·omega
   ·simp only [maxLen] at h2;omega
  refine ⟨_,cap,rfl,hn,hm,fun _=>⟨_,rfl,fun j p hj=>⟨(cs.drop (j * size)).take size,?_,hR.2 j p hj,fun i u hu=>?_⟩⟩⟩
  ·have hjl:=(List.getElem?_eq_some_iff.1 hj).1;have h1:j * size + size ≤ cs.length:=by rw [hR.1,← Nat.succ_mul];exact Nat.mul_le_mul_right _ hjl
   rw [List.length_take,List.length_drop];omega
  ·refine h.cells (g:=g) rfl _ u ?_;rw [List.getElem?_take] at hu
   split at hu
   ·rw [List.getElem?_drop] at hu;exact hu
   ·cases hu
theorem ie (ad:Addr) (m j:Nat) (hj:0 < j):ad.add (m + j)=⟨(ad.add m).block,(ad.add m).off + j,none⟩:=by
 unfold Addr.add
 by_cases hm:m=0
 ·subst hm;simp [Nat.ne_of_gt hj]
 ·simp [hm,Nat.add_assoc]
section
variable {P:Program} {ops:Array Oper} {rest:List Oper} {o:Oper} {a:Act} {Q:Exit→Act→World→Prop}
theorem Kk {w0 W:World} (base:Nat) (hgd:o.guard=none) (s x:Operand) (t e:TypeId) (z:Value) (size bytes:Nat)
  (ho:o.op = .call { callee:=.builtin .append,args:=#[s,x],argTypes:=#[t,t] })
  (ht:P.underlying t=some (.slice e)) (hinfo:(P.info? e).map (fun i=>(i.zero,i.size,i.bytes))=some (some z,size,bytes)) (hz:z.cells.size=size) (hs0:0 < size) (hb0:0 < bytes)
  (v:Value) (n:Nat) (xs ys:List Value) (hs:a.eval s=v) (hx:a.eval x = .slice (some ⟨W.heap.size,0,none⟩) 1 1) (hys:ys.length=size) (h1:∀ u ∈ ys,u.oneCell' = true)
  (HO:W.ownsRow base e size v n xs) (HB:Below base w0 W) (hbase:base ≤ W.heap.size) (hl:(n + 1) * bytes ≤ 140737488355328)
  (h:∀ v1 w1,w1.ownsRow base e size v1 (n + 1) (xs ++ ys)→Below base w0 w1→W.grownBy w1 v.ownBlock→(v1.ownBlock=v.ownBlock ∨ ∃ b,v1.ownBlock=some b∧W.heap.size ≤ b)→wpList P ops Q rest (a.put o.dst v1) w1) :
  wpList P ops Q (o :: rest) a (W.alloc (.cells ys.toArray e)):=by
 obtain ⟨i0,hi,hzz⟩:=Option.map_eq_some_iff.1 hinfo;simp only [Prod.mk.injEq] at hzz;obtain ⟨hz0,hz1,hz2⟩:=hzz;have hlen:n + 1 ≤ 140737488355328:=Nat.le_trans (Nat.le_mul_of_pos_right _ hb0) hl
 refine wpList_append_own_at (W.alloc (.cells ys.toArray e)) hgd s x t ho base e i0 z size bytes ht hi hz0 hz1 hz2 hz hs0 v n xs hs (HO.alloc _) ⟨W.heap.size,0,none⟩ 1 1 ys hx (by rw [hys];simp)
  (by simpa using World.news_of_block (cs:=ys.toArray) (t:=e) (fr:=(0,0)) (heap_alloc_new W (.cells ys.toArray e))) h1 (by simp only [maxLen];omega) hl (by simp;omega) ?_
 intro v1 w1 hown hg _ hat;refine h v1 w1 hown ((HB.alloc hbase _).grown hg (by simp;omega) (Cn HO)) (World.grownBy.trans (World.grownBy_alloc W _ _) hg) ?_
 rcases hat with hat|hat
 ·exact .inl hat
 ·exact .inr ⟨_,hat,by simp⟩
end
theorem rG {w:World} {base:Nat} {e t:TypeId} {size n g:Nat} {v:Value} {xs:List Value} {cs:Array Value} (h:w.ownsRow base e size v n xs) (hg:w.heap[g]? = some (.cells cs t (0,0))) (hne:e ≠ t):some g ≠ v.ownBlock:=by
 rcases h.2 with ⟨rfl,_⟩|⟨g',cap,cur,rfl,_,hh,_⟩
 ·simp [Value.ownBlock]
 ·intro he;have:g=g':=by simpa [Value.ownBlock] using he
  subst this;rw [hg] at hh;injection hh with hh
  injection hh with _ ht
  exact hne ht.symm
theorem Jx {w:World} {g:Nat} {t:TypeId} {cs:Array Value} (h:w.heap[g]? = some (.cells cs t (0,0))) (i:Nat) (u:Value):(w.setCell ⟨g,i,none⟩ u).heap[g]? = some (.cells (cs.setIfInBounds i u) t (0,0)):=by
 simp [World.setCell,Array.getElem?_modify,h]
theorem Ld {w:World} {g:Nat} {t:TypeId} {cs:Array Value} (h:w.heap[g]? = some (.cells cs t (0,0))) {p:Addr} (hp:g ≠ p.block) (u:Value):(w.setCell p u).heap[g]? = some (.cells cs t (0,0)):=(Below.heap_setCell w p u g hp).trans h
theorem Le {w:World} {g:Nat} {o:Obj} (h:w.heap[g]? = some o):g < w.heap.size:=(Array.getElem?_eq_some_iff.1 h).1
theorem qa {w:World} {g:Nat} {t:TypeId} {cs:Array Value} (h:w.heap[g]? = some (.cells cs t (0,0))) (i:Nat):w.cell? ⟨g,i,none⟩=cs[i]?:=cell_of_row w g i cs t (0,0) h
theorem Aa {w:World} {g:Nat} {t:TypeId} {cs:Array Value} (h:w.heap[g]? = some (.cells cs t (0,0))) (i:Nat):w.frozen? ⟨g,i,none⟩=false:=by simp [World.frozen?,h]
theorem yf {w w1:World} {g:Nat} {o:Obj} {row:Option Nat} (h:w.heap[g]? = some o) (hg:w.grownBy w1 row) (hne:some g ≠ row):w1.heap[g]? = some o:=(hg.block g (Le h) hne).trans h
def Lf (w w':World) (g:Nat) (row:Option Nat):Prop:=w.heap.size ≤ w'.heap.size∧∀ i,i < w.heap.size→i ≠ g→some i ≠ row→w'.heap[i]? = w.heap[i]?
theorem Lf.refl (w:World) (g:Nat) (row:Option Nat):Lf w w g row:=⟨Nat.le_refl _,fun _ _ _ _=>rfl⟩
theorem Lf.Te {w w1:World} {row:Option Nat} (h:w.grownBy w1 row) (g:Nat):Lf w w1 g row:=⟨h.size,fun i hi _ hr=>h.block i hi hr⟩
theorem Lf.Wh {w w1:World} (h:Below w.heap.size w w1) (g:Nat) (row:Option Nat):Lf w w1 g row:=⟨h.size,fun i hi _ _=>h.block i hi⟩
theorem Lf.trans {w w1 w2:World} {g:Nat} {row TN:Option Nat} (h:Lf w w1 g row) (k:Lf w1 w2 g TN) (hr:TN=row ∨ ∃ b,TN=some b∧w.heap.size ≤ b):Lf w w2 g row :=
 ⟨Nat.le_trans h.1 k.1,fun i hi hg hn=>by
  refine (k.2 i (Nat.lt_of_lt_of_le hi h.1) hg ?_).trans (h.2 i hi hg hn)
  rcases hr with rfl|⟨b,rfl,hb⟩
  ·exact hn
  ·intro e;injection e with e
   omega⟩
theorem Lf.blk {w w1:World} {g g':Nat} {row:Option Nat} {o:Obj} (h:Lf w w1 g row) (hb:w.heap[g']? = some o) (hg:g' ≠ g) (hr:some g' ≠ row):w1.heap[g']? = some o:=(h.2 g' (Le hb) hg hr).trans hb
theorem Lf.own {w w1:World} {g:Nat} {row:Option Nat} {base:Nat} {e:TypeId} {size n:Nat} {v:Value} {xs:List Value} (h:Lf w w1 g row) (ho:w.ownsRow base e size v n xs) (hg:v.ownBlock ≠ some g) (hr:v.ownBlock=none ∨ v.ownBlock ≠ row):w1.ownsRow base e size v n xs:=by
 obtain ⟨h1,h2⟩:=ho;refine ⟨h1,?_⟩
 rcases h2 with h2|⟨b,cap,cur,rfl,hb,hh,r⟩
 ·exact .inl h2
 ·refine .inr ⟨b,cap,cur,rfl,hb,h.blk hh ?_ ?_,r⟩
  ·intro e;exact hg (by rw [← e];rfl)
  ·rcases hr with hr|hr
   ·simp [Value.ownBlock] at hr
   ·exact hr
def Ev {α:Type} (g:Nat→Option α) (r:α):Prop:=∃ K,∀ k,K ≤ k→g k=some r
theorem Ev.of {α:Type} {g:Nat→Option α} {r:α} (hg:∀ k,Bg (g k) (g (k + 1))) {k:Nat} (h:g k=some r):Ev g r:=⟨k,fun _ hk=>FF hg hk h⟩
theorem Ev.now {α:Type} (r:α):Ev (fun _=>some r) r:=⟨0,fun _ _=>rfl⟩
theorem Ev.rounds {α:Type} {g:Nat→Option α} {r:α} (h:Ev g r):∃ k,g k=some r:=by
 obtain ⟨K,h⟩:=h;exact ⟨K,h K (Nat.le_refl _)⟩
theorem Ev.bind {α β:Type} {g:Nat→Option α} {f:Nat→α→Option β} {a:α} {r:β} (h:Ev g a) (k:Ev (fun n=>f n a) r):Ev (fun n=>(g n).bind (f n)) r:=by
 obtain ⟨K,h⟩:=h;obtain ⟨K',k⟩:=k;refine ⟨max K K',fun n hn=>?_⟩;have h1:=h n (by omega);have h2:=k n (by omega);simp only [h1,Option.bind_some];exact h2
theorem Ev.step {α:Type} {g f:Nat→Option α} {r:α} (h:∀ k,g (k + 1)=f k) (k:Ev f r):Ev g r:=by
 obtain ⟨K,k⟩:=k;refine ⟨K + 1,fun n hn=>?_⟩;obtain ⟨m,rfl⟩:∃ m,n=m + 1:=⟨n - 1,by omega⟩;rw [h];exact k m (by omega)
theorem Ev.congr {α:Type} {g f:Nat→Option α} {r:α} (h:∀ k,g k=f k) (k:Ev f r):Ev g r:=by
 obtain ⟨K,k⟩:=k;exact ⟨K,fun n hn=>(h n).trans (k n hn)⟩
section
variable {P:Program} {ops:Array Oper} {o:Oper} {a:Act} {Q:Exit→Act→World→Prop} {K:Act→World→Prop}
end
theorem eB {w:World} {base base':Nat} {e:TypeId} {size n:Nat} {v:Value} {xs:List Value} (h:w.ownsRow base e size v n xs) (hb:base' ≤ base):w.ownsRow base' e size v n xs:=by
 obtain ⟨h1,h2⟩:=h;refine ⟨h1,?_⟩
 rcases h2 with h2|⟨g,cap,cur,rfl,hg,r⟩
 ·exact .inl h2
 ·exact .inr ⟨g,cap,cur,rfl,Nat.le_trans hb hg,r⟩
section
variable {α:Type} {enc:α→Value} {d:α}
def Xk (enc:α→Value) (xs:List α):List Value:=xs.map enc
def Tf (d:α) (xs:List α) (i:Int):α:=xs.getD i.toNat d
theorem Ws (xs:List α):(Xk enc xs).length=xs.length:=by simp [Xk]
theorem dI (xs:List α) (j:Nat) (h:j < xs.length):(Xk enc xs)[j]? = some (enc (xs.getD j d)):=by
 simp [Xk,List.getElem?_eq_getElem h,List.getD_eq_getElem?_getD]
def Kf (enc:α→Value) (d:α) (w:World) (A:Option Addr) (n:Nat) (xs:List α):Prop :=
 xs.length=n∧n ≤ 9223372036854775807∧(0 < n→∃ ad,A=some ad∧∀ j,j < n→w.cell? (ad.add j)=some (enc (xs.getD j d)))
theorem Kf.at_ {w:World} {A:Option Addr} {n:Nat} {xs:List α} (h:Kf enc d w A n xs) (i:Int) (h0:0 ≤ i) (h1:i < n):∃ ad,A=some ad∧w.cell? (ad.add i.toNat)=some (enc (Tf d xs i)):=by
 obtain ⟨ad,e,hc⟩:=h.2.2 (by omega);exact ⟨ad,e,hc _ (by omega)⟩
theorem Kf.below {w w1:World} {A:Option Addr} {n:Nat} {xs:List α} (h:Kf enc d w A n xs) (hb:Below w.heap.size w w1):Kf enc d w1 A n xs :=
 ⟨h.1,h.2.1,fun hn=>by
  obtain ⟨ad,e,hc⟩:=h.2.2 hn
  exact ⟨ad,e,fun j hj=>Xe hb (hc j hj)⟩⟩
theorem Kf.ah {w:World} {A:Option Addr} {n:Nat} {xs:List α} (h:Kf enc d w A n xs) (i:Nat) (hi:i ≤ n):Kf enc d w A i (xs.take i):=by
 refine ⟨by rw [List.length_take,h.1];omega,by have:=h.2.1;omega,fun hp=>?_⟩;obtain ⟨ad,e,hc⟩:=h.2.2 (by omega);refine ⟨ad,e,fun j hj=>?_⟩;rw [hc j (by omega)];simp [List.getD_eq_getElem?_getD,hj]
theorem OE {W:World} {base g n cap:Nat} {e:TypeId} {xs:List α} (h:W.ownsRow base e 1 (.slice (some ⟨g,0,none⟩) n cap) n (Xk enc xs)) (i:Int) (h0:0 ≤ i) (h1:i < n) :
  W.cell? ⟨g,i.toNat,none⟩=some (enc (Tf d xs i))∧W.frozen? ⟨g,i.toNat,none⟩=false:=by
 have hl:xs.length=n:=by have:=h.1;simp [Xk] at this;exact this
 constructor
 ·have hc:=h.cells (g:=g) rfl i.toNat _ (dI (d:=d) xs i.toNat (by omega))
  rwa [add_plain] at hc
 ·rcases h.2 with ⟨h',_⟩|⟨g',cap',cur,h',_,hh,_⟩
  ·cases h'
  ·have:g=g':=by injection h' with h';injection h' with h';injection h' with h'
   subst this;simp [World.frozen?,hh]
theorem Jw {W:World} {base g n cap:Nat} {e:TypeId} {xs:List α} (h:W.ownsRow base e 1 (.slice (some ⟨g,0,none⟩) n cap) n (Xk enc xs)) (i:Int) (x:α) :
  (W.setCell ⟨g,i.toNat,none⟩ (enc x)).ownsRow base e 1 (.slice (some ⟨g,0,none⟩) n cap) n (Xk enc (xs.set i.toNat x))∧W.grownBy (W.setCell ⟨g,i.toNat,none⟩ (enc x)) (some g):=by
 have hs:=h.stored i.toNat (enc x);have he:(Xk enc xs).set i.toNat (enc x)=Xk enc (xs.set i.toNat x):=by simp [Xk,List.map_set]
 rwa [he] at hs
end
section
variable {α:Type} {P:Program} {ops:Array Oper} {rest:List Oper} {o:Oper} {a:Act} {Q:Exit→Act→World→Prop}
end
theorem Ca {w:World} {g:Nat} {o:Obj} (h:w.heap[g]? = some o) (o':Obj):(w.alloc o').heap[g]? = some o:=(Below.heap_alloc w o' g (Le h)).trans h
theorem Ea {w:World} {g:Nat} {o:Obj} (h:w.heap[g]? = some o):w.drew.heap[g]? = some o:=h
theorem Da {w:World} {g:Nat} {o:Obj} (h:w.heap[g]? = some o) (n:Nat):(w.drewN n).heap[g]? = some o:=h
theorem Ua {w w1:World} {g:Nat} {o:Obj} (h:w.heap[g]? = some o) (hb:Below w.heap.size w w1):w1.heap[g]? = some o:=(hb.block g (Le h)).trans h
theorem si (w:World) (o:Obj):(w.alloc o).heap[w.heap.size]? = some o:=heap_alloc_new w o
section
variable {P:Program}
end
theorem cO {w:World} {base n m c size:Nat} {e:TypeId} {A:Option Addr} {xs:List Value} (h:w.ownsRow base e size (.slice A m c) n xs):m ≤ c:=by
 rcases h.2 with ⟨he,_⟩|⟨g,cap,cur,he,_,_,hnc,_⟩
 ·injection he with _ h2 h3
  omega
 ·injection he with _ h2 h3
  omega
def wg {α:Type} (R:α→List Value→Prop) (e:TypeId) (size:Nat) (w:World) (base:Nat) (v:Value) (ps:List α):Prop :=
 ∃ inner,w.ownsRow base e size v ps.length inner∧Fc R size ps inner
section
variable {α:Type} {R R':α→List Value→Prop} {e:TypeId} {size:Nat} {w w1:World} {base:Nat} {v:Value} {ps:List α}
theorem wg.none_ (R:α→List Value→Prop) (e:TypeId) (size:Nat) (w:World) (base:Nat):wg R e size w base (.slice none 0 0) []:=⟨[],mK _ _ _ _,Fc.none _ _⟩
theorem wg.Lk (h:wg R e size w base v ps) (hR:∀ p c,R p c→R' p c):wg R' e size w base v ps:=by
 obtain ⟨inner,ho,hr⟩:=h;exact ⟨inner,ho,hr.Lk hR⟩
theorem wg.below (h:wg R e size w base v ps) (hb:Below w.heap.size w w1):wg R e size w1 base v ps:=by
 obtain ⟨inner,ho,hr⟩:=h;exact ⟨inner,Iw ho hb,hr⟩
theorem wg.keep (h:wg R e size w base v ps) {g:Nat} {t:TypeId} {cells:Array Value} (hb:w.heap[g]? = some (.cells cells t (0,0))) (ht:e ≠ t) (hk:Lf w w1 g none):wg R e size w1 base v ps:=by
 obtain ⟨inner,ho,hr⟩:=h;exact ⟨inner,hk.own ho (Ne.symm (rG ho hb ht)) (by cases v.ownBlock <;> simp),hr⟩
theorem wg.reads (h:wg R e size w base v ps):∃ A c,v = .slice A ps.length c∧ps.length ≤ c∧Uf R size w A ps.length ps:=by
 obtain ⟨inner,ho,hr⟩:=h;obtain ⟨A,c,rfl,hrow⟩:=Mv ho hr rfl;exact ⟨A,c,rfl,cO ho,hrow⟩
theorem wg.DG (h:wg R e size w base v ps) {g:Nat} {t:TypeId} {cells:Array Value} (hb:w.heap[g]? = some (.cells cells t (0,0))) (ht:e ≠ t):some g ≠ v.ownBlock:=by
 obtain ⟨inner,ho,hr⟩:=h;exact rG ho hb ht
end
section
variable {P:Program} {ops:Array Oper} {rest:List Oper} {o:Oper} {a:Act} {Q:Exit→Act→World→Prop} {α:Type} {R:α→List Value→Prop}
theorem wg.append {w0 W:World} (base:Nat) (hgd:o.guard=none) (s x:Operand) (t e:TypeId) (z:Value) (size bytes:Nat)
  (ho:o.op = .call { callee:=.builtin .append,args:=#[s,x],argTypes:=#[t,t] })
  (ht:P.underlying t=some (.slice e)) (hinfo:(P.info? e).map (fun i=>(i.zero,i.size,i.bytes))=some (some z,size,bytes)) (hz:z.cells.size=size) (hs0:0 < size) (hb0:0 < bytes)
  (v:Value) (ps:List α) (p:α) (cs:List Value) (hs:a.eval s=v) (hx:a.eval x = .slice (some ⟨W.heap.size,0,none⟩) 1 1) (hp:R p cs) (hcs:cs.length=size) (h1:∀ u ∈ cs,u.oneCell' = true)
  (HO:wg R e size W base v ps) (HB:Below base w0 W) (hbase:base ≤ W.heap.size) (hl:(ps.length + 1) * bytes ≤ 140737488355328)
  (h:∀ v1 w1,wg R e size w1 base v1 (ps ++ [p])→Below base w0 w1→W.grownBy w1 v.ownBlock→(v1.ownBlock=v.ownBlock ∨ ∃ b,v1.ownBlock=some b∧W.heap.size ≤ b)→wpList P ops Q rest (a.put o.dst v1) w1) :
  wpList P ops Q (o :: rest) a (W.alloc (.cells cs.toArray e)):=by
 obtain ⟨inner,hown,hr⟩:=HO;refine Kk base hgd s x t e z size bytes ho ht hinfo hz hs0 hb0 v ps.length inner cs hs hx hcs h1 hown HB hbase hl ?_;intro v1 w1 hown1 Xm Dv IK;exact h v1 w1 ⟨inner ++ cs,by rw [List.length_append,List.length_singleton];exact hown1,hr.snoc hp hcs⟩ Xm Dv IK
end
section
variable {P:Program} {ops:Array Oper} {o:Oper} {a:Act} {Q:Exit→Act→World→Prop} {K:Act→World→Prop} {α:Type} {R:α→List Value→Prop}
end
theorem Uf.JG {α:Type} {R:α→List Value→Prop} {size:Nat} {w:World} {ad:Addr} {n:Nat} {ps:List α} (h:Uf R size w (some ad) n ps) :
  ∃ inner,Fc R size ps inner∧∀ j u,inner[j]? = some u→w.cell? (ad.add j)=some u:=by
 have key:∀ m,m ≤ ps.length→∃ inner,Fc R size (ps.take m) inner∧∀ j u,inner[j]? = some u→w.cell? (ad.add j)=some u:=by
  intro m
  induction m with
  | zero=>exact fun _=>⟨[],Fc.none _ _,fun j u hu=>by simp at hu⟩
  | succ m ih =>
   intro hm;obtain ⟨inner,hr,hc⟩:=ih (by omega);obtain ⟨ad',he,hcell⟩:=h.2.2 (by have:=h.1;omega);injection he with he
   subst he;obtain ⟨c,Us,hp,Ou⟩:=hcell m _ (List.getElem?_eq_getElem (show m < ps.length by omega));refine ⟨inner ++ c,?_,fun j u hu=>?_⟩
   ·rw [List.take_succ_eq_append_getElem (show m < ps.length by omega)];exact hr.snoc hp Us
   ·have hil:inner.length=m * size:=by rw [hr.1,List.length_take,Nat.min_eq_left (by omega)]
    rcases Nat.lt_or_ge j inner.length with hj|hj
    ·rw [List.getElem?_append_left hj] at hu;exact hc j u hu
    ·rw [List.getElem?_append_right hj] at hu;have:=Ou (j - inner.length) u hu
     rwa [hil,Nat.add_sub_cancel' (by omega)] at this
 obtain ⟨inner,hr,hc⟩:=key ps.length (Nat.le_refl _);rw [List.take_length] at hr;exact ⟨inner,hr,hc⟩
section
variable {α:Type} {P:Program}
end
section
variable {P:Program} {ops:Array Oper} {rest:List Oper} {o:Oper} {a:Act} {Q:Exit→Act→World→Prop}
end
structure Kd (α:Type) where
 sz:Nat
 E:List Nat
 K:World→α→List Value→Prop
 M:World→Nat→(Nat→Prop)→α→List Value→Prop
 Ch:∀ {w x cs},K w x cs→cs.length=sz
 oh:∀ {w x cs},K w x cs→∀ u ∈ cs,u.oneCell' = true
 pg:∀ {w w1:World} {x cs},Below w.heap.size w w1→K w x cs→K w1 x cs
 we:∀ {w base ok x cs},M w base ok x cs→K w x cs
 xd:∀ {w base ok Wk x cs},(∀ k,ok k→Wk k)→M w base ok x cs→M w base Wk x cs
 Ge:∀ {w:World} {base ok x cs},M w base ok x cs→M w base (fun k=>ok k∧base ≤ k∧k < w.heap.size∧∃ q,q ∈ E∧∃ cells,w.heap[k]? = some (.cells cells q (0,0))) x cs
 zf:∀ {w w1:World} {base ok x cs},(∀ k,ok k→w1.heap[k]? = w.heap[k]?)→M w base ok x cs→M w1 base ok x cs
 ng:∀ {w base base' ok x cs},base' ≤ base→M w base ok x cs→M w base' ok x cs
theorem sG {w w1:World} {base:Nat} {e:TypeId} {size n:Nat} {v:Value} {xs:List Value} (h:w.ownsRow base e size v n xs) (hm:∀ k,v.ownBlock=some k→w1.heap[k]? = w.heap[k]?):w1.ownsRow base e size v n xs:=by
 obtain ⟨h1,h2⟩:=h;refine ⟨h1,?_⟩
 rcases h2 with h2|⟨g,cap,cur,rfl,hg,hh,r⟩
 ·exact .inl h2
 ·exact .inr ⟨g,cap,cur,rfl,hg,(hm g (by simp [Value.ownBlock])).trans hh,r⟩
theorem xo {w:World} {base:Nat} {e:TypeId} {size n:Nat} {v:Value} {xs:List Value} (h:w.ownsRow base e size v n xs) (k:Nat) (hk:v.ownBlock=some k):∃ cells,w.heap[k]? = some (.cells cells e (0,0)):=by
 rcases h.2 with ⟨rfl,_⟩|⟨g,cap,cur,rfl,hg,hh,r⟩
 ·simp [Value.ownBlock] at hk
 ·have:g=k:=by simpa [Value.ownBlock] using hk
  subst this;exact ⟨cur,hh⟩
namespace Kd
def C {α:Type} (d:Kd α) (w:World) (A:Option Addr) (n:Nat) (xs:List α):Prop:=Uf (d.K w) d.sz w A n xs
def R {α:Type} (d:Kd α) (e:Nat) (w:World) (base:Nat) (ok:Nat→Prop) (v:Value) (xs:List α):Prop :=
 (∀ k,v.ownBlock=some k→ok k)∧wg (d.M w base (fun k=>ok k∧some k ≠ v.ownBlock)) e d.sz w base v xs
section
variable {α:Type} {d:Kd α} {e:Nat} {w w1:World} {base:Nat} {ok Wk:Nat→Prop} {v:Value} {xs:List α}
theorem yb {A:Option Addr} {n:Nat} (h:d.C w A n xs) (hb:Below w.heap.size w w1):d.C w1 A n xs:=Uf.Lk h hb (fun _ _ hp=>d.pg hb hp)
theorem Zs (d:Kd α) (e:Nat) (w:World) (base:Nat) (ok:Nat→Prop):d.R e w base ok (.slice none 0 0) []:=⟨fun k hk=>by simp [Value.ownBlock] at hk,wg.none_ _ _ _ _ _⟩
theorem Db (h:d.R e w base ok v xs) (hok:∀ k,ok k→Wk k):d.R e w base Wk v xs:=⟨fun k hk=>hok k (h.1 k hk),h.2.Lk (fun _ _ hp=>d.xd (fun k hk=>⟨hok k hk.1,hk.2⟩) hp)⟩
theorem Fe (h:d.R e w base ok v xs):d.R e w base (fun k=>ok k∧base ≤ k∧k < w.heap.size∧∃ q,q ∈ e :: d.E∧∃ cells,w.heap[k]? = some (.cells cells q (0,0))) v xs:=by
 obtain ⟨h0,inner,ho,hr⟩:=h;refine ⟨fun k hk=>?_,inner,ho,hr.Lk (fun _ _ hp=>d.xd (fun k hk=>?_) (d.Ge hp))⟩
 ·obtain ⟨cells,hc⟩:=xo ho k hk;exact ⟨h0 k hk,Cn ho k hk,uG ho k hk,e,List.mem_cons_self,cells,hc⟩
 ·obtain ⟨⟨h1,h2⟩,h3,h4,q,hq,hc⟩:=hk;exact ⟨⟨h1,h3,h4,q,List.mem_cons_of_mem _ hq,hc⟩,h2⟩
theorem Fs (h:d.R e w base ok v xs) (hm:∀ k,ok k→w1.heap[k]? = w.heap[k]?):d.R e w1 base ok v xs:=by
 obtain ⟨h0,inner,ho,hr⟩:=h;exact ⟨h0,inner,sG ho (fun k hk=>hm k (h0 k hk)),hr.Lk (fun _ _ hp=>d.zf (fun k hk=>hm k hk.1) hp)⟩
theorem Xc {base':Nat} (h:d.R e w base ok v xs) (hb:base' ≤ base):d.R e w base' ok v xs:=by
 obtain ⟨h0,inner,ho,hr⟩:=h;exact ⟨h0,inner,eB ho hb,hr.Lk (fun _ _ hp=>d.ng hb hp)⟩
theorem qv (h:d.R e w base ok v xs) (hm:∀ k,ok k→k < w.heap.size→w1.heap[k]? = w.heap[k]?):d.R e w1 base ok v xs :=
 Db (Fs (Fe h) (fun k hk=>hm k hk.1 hk.2.2.1)) (fun _ hk=>hk.1)
theorem aC {x:α} {cs:List Value} (h:d.M w base ok x cs) (hm:∀ k,ok k→k < w.heap.size→w1.heap[k]? = w.heap[k]?):d.M w1 base ok x cs :=
 d.xd (fun _ hk=>hk.1) (d.zf (fun k hk=>hm k hk.1 hk.2.2.1) (d.Ge h))
theorem Xb (h:d.R e w base ok v xs) (hb:Below w.heap.size w w1):d.R e w1 base ok v xs:=qv h (fun k _ hk=>hb.block k hk)
theorem oL {x:α} {cs:List Value} (h:d.M w base ok x cs) (hb:Below w.heap.size w w1):d.M w1 base ok x cs:=aC h (fun k _ hk=>hb.block k hk)
theorem Zq (h:d.R e w base ok v xs) {row:Option Nat} (hg:w.grownBy w1 row) (hok:∀ k,ok k→some k ≠ row):d.R e w1 base ok v xs:=qv h (fun k ho hk=>hg.block k hk (hok k ho))
theorem ei (h:d.R e w base ok v xs) {p:Addr} (hok:∀ k,ok k→k ≠ p.block) (u:Value):d.R e (w.setCell p u) base ok v xs:=qv h (fun k ho _=>Below.heap_setCell w p u k (hok k ho))
theorem Om (h:d.R e w base ok v xs) {g t:Nat} {cells:Array Value} (hb:w.heap[g]? = some (.cells cells t (0,0))) (ht:∀ q,q ∈ e :: d.E→q ≠ t):d.R e w base (fun k=>ok k∧k ≠ g) v xs :=
 Db (Fe h) (fun k hk=>⟨hk.1,by
  obtain ⟨_,_,_,q,hq,cells',hc⟩:=hk;rintro rfl;rw [hc] at hb;injection hb with hb
  injection hb with _ hb
  exact ht q hq hb⟩)
theorem OM (h:d.R e w base ok v xs) {g t:Nat} {cells:Array Value} (hb:w.heap[g]? = some (.cells cells t (0,0))) (ht:∀ q,q ∈ e :: d.E→q ≠ t) (j:Nat) (u:Value):d.R e (w.setCell ⟨g,j,none⟩ u) base ok v xs :=
 Db (ei (p:=⟨g,j,none⟩) (Om h hb ht) (fun _ hk=>hk.2) u) (fun _ hk=>hk.1)
theorem ou (h:d.R e w base ok v xs):∃ A c,v = .slice A xs.length c∧xs.length ≤ c∧d.C w A xs.length xs:=by
 obtain ⟨A,c,he,hl,hr⟩:=wg.reads h.2;exact ⟨A,c,he,hl,hr.Lk (Below.refl _ _) (fun _ _ hp=>d.we hp)⟩
theorem ic (h:d.R e w base ok v xs):∃ A c,v = .slice A xs.length c:=by
 obtain ⟨A,c,he,_⟩:=ou h;exact ⟨A,c,he⟩
theorem bE (h:d.R e w base ok v xs):∃ inner,w.ownsRow base e d.sz v xs.length inner:=by
 obtain ⟨_,inner,ho,_⟩:=h;exact ⟨inner,ho⟩
theorem Pp (h:d.R e w base ok v xs) {g t:Nat} {cells:Array Value} (hb:w.heap[g]? = some (.cells cells t (0,0))) (ht:e ≠ t):some g ≠ v.ownBlock:=wg.DG h.2 hb ht
end
def scalar {α:Type} (enc:α→Value) (h1:∀ x,(enc x).oneCell' = true):Kd α where
 sz:=1
 E:=[]
 K:=fun _ x cs=>cs=[enc x]
 M:=fun _ _ _ x cs=>cs=[enc x]
 Ch:=fun h=>by rw [h];rfl
 oh:=fun h u hu=>by
  rw [h] at hu;rw [List.mem_singleton.1 hu];exact h1 _
 pg:=fun _ h=>h
 we:=fun h=>h
 xd:=fun _ h=>h
 Ge:=fun h=>h
 zf:=fun _ h=>h
 ng:=fun _ h=>h
def int (k:IntKind):Kd Int:=scalar (Value.int k) (fun _=>rfl)
def bool:Kd Bool:=scalar Value.bool (fun _=>rfl)
def string:Kd ByteArray:=scalar Value.string (fun _=>rfl)
def slice {α:Type} (e:Nat) (d:Kd α):Kd (List α) where
 sz:=1
 E:=e :: d.E
 K:=fun w xs cs=>∃ A c,cs=[.slice A xs.length c]∧xs.length ≤ c∧d.C w A xs.length xs
 M:=fun w base ok xs cs=>∃ v,cs=[v]∧d.R e w base ok v xs
 Ch:=by
  rintro w x cs ⟨A,c,rfl,_⟩
  rfl
 oh:=by
  rintro w x cs ⟨A,c,rfl,_⟩ u hu;rw [List.mem_singleton.1 hu]
  rfl
 pg:=by
  rintro w w1 x cs hb ⟨A,c,rfl,hl,hr⟩;exact ⟨A,c,rfl,hl,yb hr hb⟩
 we:=by
  rintro w base ok x cs ⟨v,rfl,h⟩;obtain ⟨A,c,rfl,hl,hr⟩:=ou h;exact ⟨A,c,rfl,hl,hr⟩
 xd:=by
  rintro w base ok Wk x cs hok ⟨v,rfl,h⟩;exact ⟨v,rfl,Db h hok⟩
 Ge:=by
  rintro w base ok x cs ⟨v,rfl,h⟩;exact ⟨v,rfl,Fe h⟩
 zf:=by
  rintro w w1 base ok x cs hm ⟨v,rfl,h⟩;exact ⟨v,rfl,Fs h hm⟩
 ng:=by
  rintro w base base' ok x cs hb ⟨v,rfl,h⟩;exact ⟨v,rfl,Xc h hb⟩
def pair {α β:Type} (a:Kd α) (b:Kd β):Kd (α × β) where
 sz:=a.sz + b.sz
 E:=a.E ++ b.E
 K:=fun w x cs=>∃ c0 c1,cs=c0 ++ c1∧a.K w x.1 c0∧b.K w x.2 c1
 M:=fun w base ok x cs=>∃ c0 c1,cs=c0 ++ c1∧a.M w base ok x.1 c0∧b.M w base ok x.2 c1
 Ch:=by
  rintro w x cs ⟨c0,c1,rfl,h0,h1⟩;rw [List.length_append,a.Ch h0,b.Ch h1]
 oh:=by
  rintro w x cs ⟨c0,c1,rfl,h0,h1⟩ u hu
  rcases List.mem_append.1 hu with hu|hu
  ·exact a.oh h0 u hu
  ·exact b.oh h1 u hu
 pg:=by
  rintro w w1 x cs hb ⟨c0,c1,rfl,h0,h1⟩;exact ⟨c0,c1,rfl,a.pg hb h0,b.pg hb h1⟩
 we:=by
  rintro w base ok x cs ⟨c0,c1,rfl,h0,h1⟩;exact ⟨c0,c1,rfl,a.we h0,b.we h1⟩
 xd:=by
  rintro w base ok Wk x cs hok ⟨c0,c1,rfl,h0,h1⟩;exact ⟨c0,c1,rfl,a.xd hok h0,b.xd hok h1⟩
 Ge:=by
  rintro w base ok x cs ⟨c0,c1,rfl,h0,h1⟩;refine ⟨c0,c1,rfl,a.xd ?_ (a.Ge h0),b.xd ?_ (b.Ge h1)⟩
  ·rintro k ⟨h2,h3,h4,q,hq,hc⟩;exact ⟨h2,h3,h4,q,List.mem_append_left _ hq,hc⟩
  ·rintro k ⟨h2,h3,h4,q,hq,hc⟩;exact ⟨h2,h3,h4,q,List.mem_append_right _ hq,hc⟩
 zf:=by
  rintro w w1 base ok x cs hm ⟨c0,c1,rfl,h0,h1⟩;exact ⟨c0,c1,rfl,a.zf hm h0,b.zf hm h1⟩
 ng:=by
  rintro w base base' ok x cs hb ⟨c0,c1,rfl,h0,h1⟩;exact ⟨c0,c1,rfl,a.ng hb h0,b.ng hb h1⟩
def AJ {α β:Type} (d:Kd α) (f:β→α):Kd β where
 sz:=d.sz
 E:=d.E
 K:=fun w x cs=>d.K w (f x) cs
 M:=fun w base ok x cs=>d.M w base ok (f x) cs
 Ch:=d.Ch
 oh:=d.oh
 pg:=d.pg
 we:=d.we
 xd:=d.xd
 Ge:=d.Ge
 zf:=d.zf
 ng:=d.ng
def bot {α:Type} (sz:Nat) (E:List Nat):Kd α where
 sz:=sz
 E:=E
 K:=fun _ _ _=>False
 M:=fun _ _ _ _ _=>False
 Ch:=fun h=>h.elim
 oh:=fun h=>h.elim
 pg:=fun _ h=>h
 we:=fun h=>h
 xd:=fun _ h=>h
 Ge:=fun h=>h
 zf:=fun _ h=>h
 ng:=fun _ h=>h
def upto {α:Type} (F:Kd α→Kd α) (sz:Nat) (E:List Nat):Nat→Kd α
 | 0=>bot sz E
 | n + 1=>F (upto F sz E n)
def fix {α:Type} (F:Kd α→Kd α) (sz:Nat) (E:List Nat) (hs:∀ n,(upto F sz E n).sz=sz) (hE:∀ n q,q ∈ (upto F sz E n).E→q ∈ E):Kd α where
 sz:=sz
 E:=E
 K:=fun w x cs=>∃ n,(upto F sz E n).K w x cs
 M:=fun w base ok x cs=>∃ n,(upto F sz E n).M w base ok x cs
 Ch:=by
  rintro w x cs ⟨n,h⟩;rw [(upto F sz E n).Ch h,hs n]
 oh:=by
  rintro w x cs ⟨n,h⟩;exact (upto F sz E n).oh h
 pg:=by
  rintro w w1 x cs hb ⟨n,h⟩;exact ⟨n,(upto F sz E n).pg hb h⟩
 we:=by
  rintro w base ok x cs ⟨n,h⟩;exact ⟨n,(upto F sz E n).we h⟩
 xd:=by
  rintro w base ok Wk x cs hok ⟨n,h⟩;exact ⟨n,(upto F sz E n).xd hok h⟩
 Ge:=by
  rintro w base ok x cs ⟨n,h⟩;refine ⟨n,(upto F sz E n).xd ?_ ((upto F sz E n).Ge h)⟩;rintro k ⟨h2,h3,h4,q,hq,hc⟩;exact ⟨h2,h3,h4,q,hE n q hq,hc⟩
 zf:=by
  rintro w w1 base ok x cs hm ⟨n,h⟩;exact ⟨n,(upto F sz E n).zf hm h⟩
 ng:=by
  rintro w base base' ok x cs hb ⟨n,h⟩;exact ⟨n,(upto F sz E n).ng hb h⟩
theorem vA {α:Type} {d:Kd α} {w:World} {A:Option Addr} {n:Nat} {xs:List α} (h:d.C w A n xs) (z:α) (i:Int) (h0:0 ≤ i) (h1:i < n) :
  ∃ ad c,A=some ad∧c.length=d.sz∧d.K w (xs.getD i.toNat z) c∧∀ j u,c[j]? = some u→w.cell? (ad.add (i.toNat * d.sz + j))=some u:=Uf.J3 h z i h0 h1
theorem XB {α:Type} {d:Kd α} {e base:Nat} {ok Ag:Nat→Prop} {W w1:World} {v v1:Value} {xs:List α} {p:α} {inner cs:List Value} (h0:∀ k,v.ownBlock=some k→ok k) (hr:Fc (d.M W base (fun k=>ok k∧some k ≠ v.ownBlock)) d.sz xs inner) (hp:d.M W base Ag p cs) (uk:∀ k,Ag k→ok k∧some k ≠ v.ownBlock) (ig:∀ k,W.heap.size ≤ k→ok k)
  (hown:w1.ownsRow base e d.sz v1 (xs.length + 1) (inner ++ cs)) (hg:W.grownBy w1 v.ownBlock) (hat:v1.ownBlock=v.ownBlock ∨ ∃ b,v1.ownBlock=some b∧W.heap.size ≤ b):d.R e w1 base ok v1 (xs ++ [p]):=by
 have hne:∀ k,some k ≠ v.ownBlock→k < W.heap.size→some k ≠ v1.ownBlock:=by
  intro k hk hlt
  rcases hat with hat|⟨b,hb,hle⟩
  ·rw [hat];exact hk
  ·rw [hb];intro he;injection he with he
   omega
 have step:∀ {q:α} {c:List Value} {o:Nat→Prop},d.M W base o q c→(∀ k,o k→ok k∧some k ≠ v.ownBlock)→d.M w1 base (fun k=>ok k∧some k ≠ v1.ownBlock) q c:=by
  intro q c o hq ho;have h1:=d.zf (w1:=w1) (fun k hk=>hg.block k hk.2.2.1 (ho k hk.1).2) (d.Ge hq);exact d.xd (fun k hk=>⟨(ho k hk.1).1,hne k (ho k hk.1).2 hk.2.2.1⟩) h1
 refine ⟨fun k hk=>?_,inner ++ cs,by rw [List.length_append,List.length_singleton];exact hown,?_⟩
 ·rcases hat with hat|⟨b,hb,hle⟩
  ·exact h0 k (hat ▸ hk)
  ·rw [hb] at hk;injection hk with hk
   exact ig k (by omega)
 ·exact (hr.Lk (fun _ _ hq=>step hq (fun _ hk=>hk))).snoc (step hp uk) (d.Ch (d.we hp))
section
variable {P:Program} {ops:Array Oper} {rest:List Oper} {o:Oper} {a:Act} {Q:Exit→Act→World→Prop} {α:Type}
theorem Sl (d:Kd α) {w0 W:World} (base:Nat) (hgd:o.guard=none) (s x:Operand) (t e:TypeId) (z:Value) (bytes:Nat)
  (ho:o.op = .call { callee:=.builtin .append,args:=#[s,x],argTypes:=#[t,t] })
  (ht:P.underlying t=some (.slice e)) (hinfo:(P.info? e).map (fun i=>(i.zero,i.size,i.bytes))=some (some z,d.sz,bytes)) (hz:z.cells.size=d.sz) (hs0:0 < d.sz) (hb0:0 < bytes)
  (v:Value) (xs:List α) (p:α) (cs:List Value) (ok Ag:Nat→Prop) (hs:a.eval s=v) (hx:a.eval x = .slice (some ⟨W.heap.size,0,none⟩) 1 1) (hp:d.M W base Ag p cs) (uk:∀ k,Ag k→ok k∧some k ≠ v.ownBlock) (ig:∀ k,W.heap.size ≤ k→ok k)
  (HO:d.R e W base ok v xs) (HB:Below base w0 W) (hbase:base ≤ W.heap.size) (hl:(xs.length + 1) * bytes ≤ 140737488355328)
  (h:∀ v1 w1,d.R e w1 base ok v1 (xs ++ [p])→Below base w0 w1→W.grownBy w1 v.ownBlock→(v1.ownBlock=v.ownBlock ∨ ∃ b,v1.ownBlock=some b∧W.heap.size ≤ b)→wpList P ops Q rest (a.put o.dst v1) w1) :
  wpList P ops Q (o :: rest) a (W.alloc (.cells cs.toArray e)):=by
 obtain ⟨h0,inner,hown,hr⟩:=HO;refine Kk base hgd s x t e z d.sz bytes ho ht hinfo hz hs0 hb0 v xs.length inner cs hs hx (d.Ch (d.we hp)) (d.oh (d.we hp)) hown HB hbase hl ?_;intro v1 w1 hown1 Xm Dv IK;exact h v1 w1 (XB h0 hr hp uk ig hown1 Dv IK) Xm Dv IK
end
section
variable {P:Program} {ops:Array Oper} {o:Oper} {a:Act} {Q:Exit→Act→World→Prop} {Kc:Act→World→Prop} {α:Type}
end
theorem Ky {α:Type} {enc:α→Value} (xs:List α):Fc (fun (x:α) (cs:List Value)=>cs=[enc x]) 1 xs (Xk enc xs):=by
 refine ⟨by simp [Xk],fun j p hj=>?_⟩;obtain ⟨hl,hp⟩:=List.getElem?_eq_some_iff.1 hj;have hl':j < (Xk enc xs).length:=by rw [Ws];exact hl
 rw [Nat.mul_one,List.drop_eq_getElem_cons hl'];simp [Xk,hp]
theorem fA {α:Type} {enc:α→Value} {h1:∀ x,(enc x).oneCell' = true} {e:Nat} {w:World} {base:Nat} {ok:Nat→Prop} {v:Value} {xs:List α} (ho:w.ownsRow base e 1 v xs.length (Xk enc xs)) (hok:∀ k,v.ownBlock=some k→ok k):(scalar enc h1).R e w base ok v xs:=⟨hok,Xk enc xs,ho,Ky xs⟩
theorem cq {α:Type} {enc:α→Value} {h1:∀ x,(enc x).oneCell' = true} {e:Nat} {w:World} {base:Nat} {ok:Nat→Prop} {v:Value} {xs:List α} (h:(scalar enc h1).R e w base ok v xs):w.ownsRow base e 1 v xs.length (Xk enc xs):=by
 obtain ⟨_,inner,ho,hr⟩:=h
 have:inner=Xk enc xs:=by
  apply List.ext_getElem?;intro j
  rcases Nat.lt_or_ge j xs.length with hj|hj
  ·have h2:=hr.2 j _ (List.getElem?_eq_getElem hj);have hl:j < inner.length:=by have:=hr.1;simp [scalar] at this;omega
   have h3:(inner.drop (j * 1)).take 1=[enc xs[j]]:=h2;rw [Nat.mul_one,List.drop_eq_getElem_cons hl] at h3
   have h4:inner[j]=enc xs[j]:=by
    have h5:=congrArg List.head? h3;rw [List.take_succ_cons] at h5;exact Option.some.inj h5
   rw [List.getElem?_eq_getElem hl,h4];simp [Xk,List.getElem?_eq_getElem hj]
  ·have h3:inner.length=xs.length:=by have:=hr.1;simp [scalar] at this;omega
   rw [List.getElem?_eq_none (by omega),List.getElem?_eq_none (by rw [Ws];omega)]
 rw [← this];exact ho
theorem Ap {α:Type} {enc:α→Value} {d:α} {h1:∀ x,(enc x).oneCell' = true} {w:World} {A:Option Addr} {n:Nat} {xs:List α} (h:(scalar enc h1).C w A n xs):Kf enc d w A n xs:=by
 refine ⟨h.1,h.2.1,fun hn=>?_⟩;obtain ⟨ad,e,hc⟩:=h.2.2 hn;refine ⟨ad,e,fun j hj=>?_⟩;have hl:j < xs.length:=by have:=h.1;omega
 obtain ⟨c,_,hK,hcell⟩:=hc j _ (List.getElem?_eq_getElem hl);have hK':c=[enc xs[j]]:=hK;subst hK';have:=hcell 0 _ rfl
 simpa [scalar,List.getD_eq_getElem?_getD,List.getElem?_eq_getElem hl] using this
end Kd
namespace Kd
def Sub {α β:Type} (F:Kd α→Kd β) (E:List Nat):Prop:=∀ d:Kd α,(∀ q,q ∈ d.E→q ∈ E)→∀ q,q ∈ (F d).E→q ∈ E
theorem sub_const {α β:Type} {E:List Nat} (k:Kd β) (h:∀ q,q ∈ k.E→q ∈ E):Sub (fun _:Kd α=>k) E:=fun _ _=>h
theorem MA {α:Type} {E:List Nat}:Sub (fun d:Kd α=>d) E:=fun _ h=>h
theorem sr {α β:Type} {E:List Nat} (e:Nat) {G:Kd α→Kd β} (he:e ∈ E) (hG:Sub G E):Sub (fun d=>slice e (G d)) E:=fun d h q hq=>by
 rcases List.mem_cons.1 hq with rfl|hq
 ·exact he
 ·exact hG d h q hq
theorem Gi {α β γ:Type} {E:List Nat} {G:Kd α→Kd β} {H:Kd α→Kd γ} (hG:Sub G E) (hH:Sub H E):Sub (fun d=>pair (G d) (H d)) E:=fun d h q hq=>by
 rcases List.mem_append.1 hq with hq|hq
 ·exact hG d h q hq
 ·exact hH d h q hq
theorem sC {α β γ:Type} {E:List Nat} {G:Kd α→Kd β} (f:γ→β) (hG:Sub G E):Sub (fun d=>AJ (G d) f) E:=hG
theorem IA {α:Type} {F:Kd α→Kd α} {sz:Nat} {E:List Nat} (h:Sub F E):∀ n q,q ∈ (upto F sz E n).E→q ∈ E
 | 0,_,hq=>hq
 | n + 1,q,hq=>h _ (IA h n) q hq
theorem qC {α:Type} {F:Kd α→Kd α} {sz:Nat} {E:List Nat} (h:∀ d:Kd α,(F d).sz=sz):∀ n,(upto F sz E n).sz=sz
 | 0=>rfl
 | _ + 1=>h _
section
variable {α:Type} {F:Kd α→Kd α} {sz:Nat} {E:List Nat} {hs:∀ n,(upto F sz E n).sz=sz} {hE:∀ n q,q ∈ (upto F sz E n).E→q ∈ E}
end
end Kd
namespace Kd
theorem kg {α:Type} {d:Kd α} {e base:Nat} {ok:Nat→Prop} {W w1:World} {u v v1:Value} {xs:List α} (h:d.R e W base (fun k=>ok k∧some k ≠ v.ownBlock) u xs) (hg:W.grownBy w1 v.ownBlock) (hat:v1.ownBlock=v.ownBlock ∨ ∃ b,v1.ownBlock=some b∧W.heap.size ≤ b):d.R e w1 base (fun k=>ok k∧some k ≠ v1.ownBlock) u xs:=by
 refine Db (Fs (Fe h) (fun k hk=>hg.block k hk.2.2.1 hk.1.2)) (fun k hk=>⟨hk.1.1,?_⟩)
 rcases hat with hat|⟨b,hb,hle⟩
 ·rw [hat];exact hk.1.2
 ·rw [hb];intro he;injection he with he
  have:=hk.2.2.1;omega
theorem BU {α:Type} {d:Kd α} {e base:Nat} {ok:Nat→Prop} {w:World} {v:Value} {xs:List α} (h:d.R e w base ok v xs):(slice e d).M w base ok xs [v]:=⟨v,rfl,h⟩
end Kd
namespace Kd
section
variable {α β:Type} {d:Kd α} {d':Kd β} {e e':Nat} {w w1 W:World} {base b b':Nat} {ok Wk rR V6:Nat→Prop} {v u:Value} {xs:List α} {ys:List β}
theorem Ka (h:d.R e w base ok v xs) (o:Obj):d.R e (w.alloc o) base ok v xs:=Xb h (ia (Below.refl _ _) o)
theorem Sa (h:d.R e w base ok v xs):d.R e w.drew base ok v xs:=Xb h (Mk (Below.refl _ _))
theorem La (h:d.R e w base ok v xs) (m:Nat):d.R e (w.drewN m) base ok v xs:=Xb h (ga (Below.refl _ _) m)
theorem ee {A:Option Addr} {n:Nat} (h:d.C w A n xs) (o:Obj):d.C (w.alloc o) A n xs:=yb h (ia (Below.refl _ _) o)
theorem We {A:Option Addr} {n:Nat} (h:d.C w A n xs):d.C w.drew A n xs:=yb h (Mk (Below.refl _ _))
theorem Zd {A:Option Addr} {n:Nat} (h:d.C w A n xs) (m:Nat):d.C (w.drewN m) A n xs:=yb h (ga (Below.refl _ _) m)
theorem vE (d:Kd α) (w:World):d.C w none ([]:List α).length []:=⟨rfl,by simp,fun h=>absurd h (Nat.lt_irrefl 0)⟩
theorem Wa {A:Option Addr} {n c:Nat} (h:d.R e w base ok (.slice A n c) xs):n=xs.length∧n ≤ c∧d.C w A xs.length xs:=by
 obtain ⟨A',c',he,hl,hr⟩:=ou h;injection he with h1 h2 h3
 subst h1;exact ⟨h2,by omega,hr⟩
theorem ek (h:d.R e w base ok v xs):∀ k,v.ownBlock=some k→k < w.heap.size:=by
 obtain ⟨inner,ho⟩:=bE h;exact uG ho
theorem ug (h:d.R e w base ok v xs):∀ k,v.ownBlock=some k→base ≤ k:=by
 obtain ⟨inner,ho⟩:=bE h;exact Cn ho
theorem Uh (h:d.R e w base ok v xs) (hp:0 < xs.length):∃ g cap,v = .slice (some ⟨g,0,none⟩) xs.length cap∧base ≤ g∧g < w.heap.size∧∃ cells,w.heap[g]? = some (.cells cells e (0,0)):=by
 obtain ⟨inner,ho⟩:=bE h;obtain ⟨g,cap,he,hb,hl⟩:=ho.form hp;obtain ⟨cells,hc⟩:=xo ho g (by rw [he];simp [Value.ownBlock]);exact ⟨g,cap,he,hb,hl,cells,hc⟩
end
section
variable {w W:World} {A:Option Addr} {n:Nat}
theorem Ud {k:IntKind} {xs:List Int} (h:(Kd.int k).C w A n xs) (i:Int) (h0:0 ≤ i) (h1:i < n):∃ ad,A=some ad∧w.cell? (ad.add i.toNat)=some (.int k (rd xs i)) :=
 Kf.at_ (Ap (enc:=Value.int k) (d:=(0:Int)) (h1:=fun _=>rfl) h) i h0 h1
theorem Ui {xs:List Bool} (h:Kd.bool.C w A n xs) (i:Int) (h0:0 ≤ i) (h1:i < n):∃ ad,A=some ad∧w.cell? (ad.add i.toNat)=some (.bool (Tf false xs i)) :=
 Kf.at_ (Ap (enc:=Value.bool) (d:=false) (h1:=fun _=>rfl) h) i h0 h1
theorem Jo {xs:List ByteArray} (h:Kd.string.C w A n xs) (i:Int) (h0:0 ≤ i) (h1:i < n):∃ ad,A=some ad∧w.cell? (ad.add i.toNat)=some (.string (Tf ByteArray.empty xs i)) :=
 Kf.at_ (Ap (enc:=Value.string) (d:=ByteArray.empty) (h1:=fun _=>rfl) h) i h0 h1
variable {α:Type} {enc:α→Value} {h1:∀ x,(enc x).oneCell' = true} {e base g cap:Nat} {ok:Nat→Prop} {xs:List α}
theorem uQ (d:α) (h:(scalar enc h1).R e W base ok (.slice (some ⟨g,0,none⟩) xs.length cap) xs) (i:Int) (h0:0 ≤ i) (hi:i < xs.length):W.cell? ⟨g,i.toNat,none⟩=some (enc (Tf d xs i))∧W.frozen? ⟨g,i.toNat,none⟩=false:=OE (cq h) i h0 hi
theorem PM (h:(scalar enc h1).R e W base ok (.slice (some ⟨g,0,none⟩) xs.length cap) xs) (i:Int) (x:α):(scalar enc h1).R e (W.setCell ⟨g,i.toNat,none⟩ (enc x)) base ok (.slice (some ⟨g,0,none⟩) xs.length cap) (xs.set i.toNat x)∧W.grownBy (W.setCell ⟨g,i.toNat,none⟩ (enc x)) (some g):=by
 obtain ⟨ho,hg⟩:=Jw (cq h) i x;exact ⟨fA (by rw [List.length_set];exact ho) h.1,hg⟩
end
section
variable {P:Program} {ops:Array Oper} {rest:List Oper} {o:Oper} {a:Act} {Q:Exit→Act→World→Prop}
theorem tw {W w1:World} {v:Value} (hgd:o.guard=none) (hrun:(execOp a.eval o).run P W = .ok (.value v) w1) (h:wpList P ops Q rest (a.put o.dst v) w1):wpList P ops Q (o :: rest) a W:=by
 refine wpList_plain hgd fun K hK=>?_
 unfold Oper.wp;rw [hrun];exact hK _ _ h
variable {α:Type}
theorem jk (d:Kd α) {w0 W:World} (base e:Nat) (hgd:o.guard=none) {N:Tmp} (_hd:o.dst=some N) {xs:List α} {inner:List Value} {ok Ag:Nat→Prop}
  (hrun:(execOp a.eval o).run P W = .ok (.value (.slice (some ⟨W.heap.size,0,none⟩) xs.length xs.length)) (W.alloc (.cells inner.toArray e)))
  (yK:Fc (d.M W base Ag) d.sz xs inner) (hok:∀ k,Ag k→ok k) (ig:ok W.heap.size) (HB:Below base w0 W) (hbase:base ≤ W.heap.size) (hm:xs.length ≤ 9223372036854775807)
  (h:∀ v1 w1,d.R e w1 base ok v1 xs→Below base w0 w1→W.grownBy w1 none→(∃ b,v1.ownBlock=some b∧W.heap.size ≤ b)→wpList P ops Q rest (a.put o.dst v1) w1):wpList P ops Q (o :: rest) a W:=by
 refine tw hgd hrun (h _ _ ⟨fun k hk=>?_,inner,?_,?_⟩ (HB.alloc hbase _) (World.grownBy_alloc W _ none) ⟨W.heap.size,by simp [Value.ownBlock],Nat.le_refl _⟩)
 ·have:W.heap.size=k:=by simpa [Value.ownBlock] using hk
  subst this;exact ig
 ·have h2:=World.ownsRow_lit (base:=base) (e:=e) (size:=d.sz) W inner.toArray xs.length hbase (by simpa [maxLen] using hm) (by simpa using yK.1)
  simpa using h2
 ·refine yK.Lk (fun p c hp=>d.xd (fun k hk=>⟨hok k hk.1,fun he=>?_⟩) (oL (d.Ge hp) (ia (Below.refl _ _) _)));have h3:k=W.heap.size:=by simpa [Value.ownBlock] using he
  have:=hk.2.2.1;omega
theorem EE {α:Type} {R:α→List Value→Prop} {z:Value} {size:Nat} {z0:α} (hz:z.cells.size=size) (hs:0 < size) (h0:R z0 z.cells.toList) (m:Nat):Fc R size (List.replicate m z0) (madeCells z.cells (m * size)).toList:=by
 refine ⟨by simp [size_madeCells],fun j p hj=>?_⟩;obtain ⟨hjl,hp⟩:=List.getElem?_eq_some_iff.1 hj;have hjm:j < m:=by simpa using hjl
 have hp':z0=p:=by simpa using hp
 subst hp';have hle:j * size + size ≤ m * size:=by rw [← Nat.succ_mul];exact Nat.mul_le_mul_right _ hjm
 have:((madeCells z.cells (m * size)).toList.drop (j * size)).take size=z.cells.toList:=by
  apply List.ext_getElem
  ·simp [size_madeCells,hz];omega
  ·intro i h1 h2;have hi:i < size:=by rw [Array.length_toList,hz] at h2;exact h2
   have hmod:(j * size + i) % size=i:=by
    rw [Nat.mul_comm,Nat.mul_add_mod];exact Nat.mod_eq_of_lt hi
   simp [madeCells,hz,hmod];rw [getElem!_pos z.cells i (by omega)]
 rw [this];exact h0
theorem Qp (d:Kd α) {w0 W:World} (base e:Nat) (hgd:o.guard=none) {N:Tmp} (hd:o.dst=some N) (t:TypeId) (x y:Operand) (ho:o.op = .makeSlice t x y) (n:Int) (hx:a.eval x = .int .i64 n) (hy:a.eval y = .int .i64 n)
  (ht:P.underlying t=some (.slice e)) (z:Value) (bytes:Nat) (hinfo:(P.info? e).map (fun i=>(i.zero,i.size,i.bytes))=some (some z,d.sz,bytes)) (hz:z.cells.size=d.sz) (hs0:0 < d.sz) (hb0:0 < bytes)
  (z0:α) {ok Ag:Nat→Prop} (hzero:d.M W base Ag z0 z.cells.toList) (hok:∀ k,Ag k→ok k) (ig:ok W.heap.size) (h0:0 ≤ n) (hl:n.toNat * bytes ≤ 281474976710656) (HB:Below base w0 W) (hbase:base ≤ W.heap.size)
  (h:∀ v1 w1,d.R e w1 base ok v1 (List.replicate n.toNat z0)→Below base w0 w1→W.grownBy w1 none→(∃ b,v1.ownBlock=some b∧W.heap.size ≤ b)→wpList P ops Q rest (a.put o.dst v1) w1):wpList P ops Q (o :: rest) a W:=by
 obtain ⟨m,rfl⟩:=Int.eq_ofNat_of_zero_le h0;simp only [Int.toNat_natCast] at hl h;obtain ⟨i0,hi,hzz⟩:=Option.map_eq_some_iff.1 hinfo;simp only [Prod.mk.injEq] at hzz;obtain ⟨hz0,hz1,hz2⟩:=hzz;have hm:m ≤ 281474976710656:=Nat.le_trans (Nat.le_mul_of_pos_right _ hb0) hl
 have hr:=run_make (P:=P) W t e i0 z ht hi hz0 .i64 .i64 (m:Int) (m:Int) (by omega) (by omega)
  (by
   have h3:((i0.bytes * m:Nat):Int) ≤ 281474976710656:=by rw [hz2,Nat.mul_comm];omega
   rwa [Int.natCast_mul] at h3) (by omega)
 simp only [Int.toNat_natCast] at hr;rw [hz1] at hr;refine jk d base e hgd hd (xs:=List.replicate m z0) (inner:=(madeCells z.cells (m * d.sz)).toList) (Ag:=Ag) (ok:=ok) ?_ (EE hz hs0 hzero m) hok ig HB hbase (by simp;omega) h;simp [execOp,ho,hx,hy,hr]
end
end Kd
theorem qG {w:World} {base n m c size:Nat} {e:TypeId} {A:Option Addr} {xs:List Value} (h:w.ownsRow base e size (.slice A n c) n xs) (hm:m ≤ n):w.ownsRow base e size (.slice A m c) m (xs.take (m * size)):=by
 obtain ⟨h1,h2⟩:=h;refine ⟨by rw [List.length_take,h1];exact Nat.min_eq_left (Nat.mul_le_mul_right _ hm),?_⟩
 rcases h2 with ⟨he,h0⟩|⟨g,cap,cur,he,hb,hh,hnc,hcm,hcs,ht⟩
 ·injection he with ha _ hc
  subst ha;subst hc;exact .inl ⟨by rw [show m=0 by omega],by omega⟩
 ·injection he with ha _ hc
  subst ha;subst hc;refine .inr ⟨g,c,cur,rfl,hb,hh,by omega,hcm,hcs,?_⟩;rw [← ht,List.take_take,Nat.min_eq_left (Nat.mul_le_mul_right _ hm)]
section
variable {P:Program}
theorem KB (t e:TypeId) (kh:IntKind) {i:TypeInfo} (ht:P.underlying t=some (.slice e)) (hi:P.info? e=some i) (A:Option Addr) (n c:Nat) (j:Int) (h0:0 ≤ j) (hm:j ≤ n) (hc:n ≤ c) :
  ∀ W:World,(Instr.slice t (.slice A n c) none (some (.int kh j)) none).run P W = .ok (.slice A j.toNat c) W:=by
 intro W;have hel:P.elem t=e:=by simp [Program.elem,ht]
 have hu:P.underlying t=some (.slice (P.elem t)):=by rw [hel];exact ht
 have ha:(A.map fun x=>x.add 0)=A:=by cases A <;> simp [Addr.add]
 rw [run_slice_h W t A n c hu kh j h0 (by omega),hel];simp [sizeOf,typeInfo,hi,sliced,Result.andThen,ha]
theorem Xu (t e:TypeId) (kl:IntKind) {i:TypeInfo} (ht:P.underlying t=some (.slice e)) (hi:P.info? e=some i) (size:Nat) (hsz:i.size=size) (A:Option Addr) (n c:Nat) (j:Int) (h0:0 ≤ j) (hm:j ≤ n) :
  ∀ W:World,(Instr.slice t (.slice A n c) (some (.int kl j)) none none).run P W = .ok (.slice (if c=j.toNat then A else A.map (·.add (j.toNat * size))) (n - j.toNat) (c - j.toNat)) W:=by
 intro W;have hel:P.elem t=e:=by simp [Program.elem,ht]
 have hu:P.underlying t=some (.slice (P.elem t)):=by rw [hel];exact ht
 rw [run_slice_l W t A n c hu kl j h0 hm,hel];simp [sizeOf,typeInfo,hi,hsz,sliced,Result.andThen]
end
def kn (w:World) (base:Nat) (e:TypeId) (size:Nat) (v:Value) (n:Nat) (xs:List Value):Prop :=
 xs.length=n * size ∧
 ((n=0∧∃ A,v = .slice A 0 0∧∀ a,A=some a→base ≤ a.block∧∃ cur,w.heap[a.block]? = some (.cells cur e (0,0))) ∨
  ∃ g off cap cur,v = .slice (some ⟨g,off * size,none⟩) n cap∧base ≤ g∧w.heap[g]? = some (.cells cur e (0,0))∧n ≤ cap∧off + cap ≤ maxLen∧cur.size=(off + cap) * size∧(cur.toList.drop (off * size)).take (n * size)=xs)
section
variable {w w1:World} {base n size:Nat} {e:TypeId} {v:Value} {xs:List Value}
theorem zu (h:w.ownsRow base e size v n xs):kn w base e size v n xs:=by
 obtain ⟨h1,h2⟩:=h;refine ⟨h1,?_⟩
 rcases h2 with ⟨rfl,h0⟩|⟨g,cap,cur,rfl,hb,hh,hnc,hcm,hcs,ht⟩
 ·exact .inl ⟨h0,none,rfl,fun a ha=>by cases ha⟩
 ·exact .inr ⟨g,0,cap,cur,by rw [Nat.zero_mul],hb,hh,hnc,by rw [Nat.zero_add];exact hcm,by rw [Nat.zero_add];exact hcs,by rw [Nat.zero_mul,List.drop_zero];exact ht⟩
theorem jG (h:kn w base e size v n xs) (hm:∀ k,v.ownBlock=some k→w1.heap[k]? = w.heap[k]?):kn w1 base e size v n xs:=by
 obtain ⟨h1,h2⟩:=h;refine ⟨h1,?_⟩
 rcases h2 with ⟨h0,A,rfl,hA⟩|⟨g,off,cap,cur,rfl,hg,hh,r⟩
 ·refine .inl ⟨h0,A,rfl,fun a ha=>?_⟩;obtain ⟨hb,cur,hc⟩:=hA a ha;subst ha;exact ⟨hb,cur,(hm a.block (by simp [Value.ownBlock])).trans hc⟩
 ·exact .inr ⟨g,off,cap,cur,rfl,hg,(hm g (by simp [Value.ownBlock])).trans hh,r⟩
theorem bq (h:kn w base e size v n xs) (k:Nat) (hk:v.ownBlock=some k):base ≤ k∧∃ cells,w.heap[k]? = some (.cells cells e (0,0)):=by
 rcases h.2 with ⟨_,A,rfl,hA⟩|⟨g,off,cap,cur,rfl,hg,hh,r⟩
 ·cases A with
  | none=>simp [Value.ownBlock] at hk
  | some a =>
   have:a.block=k:=by simpa [Value.ownBlock] using hk
   subst this;exact hA a rfl
 ·have:g=k:=by simpa [Value.ownBlock] using hk
  subst this;exact ⟨hg,cur,hh⟩
theorem UN (h:kn w base e size v n xs) (k:Nat) (hk:v.ownBlock=some k):k < w.heap.size:=by
 obtain ⟨_,cells,hc⟩:=bq h k hk;exact (Array.getElem?_eq_some_iff.1 hc).1
theorem XJ {base':Nat} (h:kn w base e size v n xs) (hb:base' ≤ base):kn w base' e size v n xs:=by
 obtain ⟨h1,h2⟩:=h;refine ⟨h1,?_⟩
 rcases h2 with ⟨h0,A,rfl,hA⟩|⟨g,off,cap,cur,rfl,hg,r⟩
 ·exact .inl ⟨h0,A,rfl,fun a ha=>⟨Nat.le_trans hb (hA a ha).1,(hA a ha).2⟩⟩
 ·exact .inr ⟨g,off,cap,cur,rfl,Nat.le_trans hb hg,r⟩
theorem tC (h:kn w base e size v n xs):∃ A c,v = .slice A n c∧n ≤ c:=by
 rcases h.2 with ⟨h0,A,rfl,_⟩|⟨g,off,cap,cur,rfl,hg,hh,hnc,r⟩
 ·exact ⟨A,0,by rw [h0],by omega⟩
 ·exact ⟨_,cap,rfl,hnc⟩
theorem VR (h:kn w base e size v n xs):n ≤ 9223372036854775807:=by
 rcases h.2 with ⟨h0,_⟩|⟨g,off,cap,cur,rfl,hg,hh,hnc,hm,r⟩
 ·omega
 ·simp only [maxLen] at hm;omega
theorem Lm (g o j:Nat):(⟨g,o,none⟩:Addr).add j=⟨g,o + j,none⟩:=by unfold Addr.add;split <;> simp_all
theorem YJ {A:Option Addr} {c:Nat} (h:kn w base e size (.slice A n c) n xs) (hn:0 < n):∃ ad,A=some ad∧∀ j u,xs[j]? = some u→w.cell? (ad.add j)=some u:=by
 rcases h.2 with ⟨h0,_⟩|⟨g,off,cap,cur,he,hg,hh,hnc,hm,hcs,ht⟩
 ·omega
 ·injection he with ha _ hc
  subst ha;refine ⟨_,rfl,fun j u hu=>?_⟩;rw [Lm,cell_of_row w g _ cur e (0,0) hh];rw [← ht,List.getElem?_take] at hu
  split at hu
  ·rw [List.getElem?_drop] at hu;rw [← Array.getElem?_toList];exact hu
  ·cases hu
theorem VN {A:Option Addr} {c k:Nat} (h:kn w base e size (.slice A n c) n xs) (hk:k ≤ n):kn w base e size (.slice (if c=k then A else A.map (·.add (k * size))) (n - k) (c - k)) (n - k) (xs.drop (k * size)):=by
 obtain ⟨h1,h2⟩:=h;refine ⟨by rw [List.length_drop,h1,Nat.sub_mul],?_⟩
 rcases h2 with ⟨h0,A',he,hA⟩|⟨g,off,cap,cur,he,hb,hh,hnc,hcm,hcs,ht⟩
 ·injection he with ha hb hc
  subst ha;subst hc;have hk0:k=0:=by omega
  subst hk0;exact .inl ⟨by omega,A,by rw [if_pos rfl,h0],hA⟩
 ·injection he with ha _ hc
  subst ha;subst hc
  by_cases W9:c=k
  ·rw [if_pos W9];refine .inl ⟨by omega,some ⟨g,off * size,none⟩,?_,fun a ha=>?_⟩
   ·rw [show n - k=0 by omega,show c - k=0 by omega]
   ·injection ha with ha
    subst ha;exact ⟨hb,cur,hh⟩
  ·rw [if_neg W9];refine .inr ⟨g,off + k,c - k,cur,?_,hb,hh,by omega,by omega,by rw [hcs];congr 1;omega,?_⟩
   ·rw [Option.map_some,Lm,Nat.add_mul]
   ·rw [← ht,List.drop_take,List.drop_drop,Nat.add_mul,Nat.sub_mul]
theorem mm {g:Nat}:∀ (vs:List Value) (o:Nat) {w:World} (k:Nat),k ≠ g→(w.setCells g o vs).heap[k]? = w.heap[k]?
 | [],_,_,_,_=>rfl
 | v :: r,o,w,k,hk=>by
  rw [World.setCells,mm r (o + 1) k hk];exact Below.heap_setCell w ⟨g,o,none⟩ v k hk
theorem Dl (g:Nat):∀ (vs:List Value) (o:Nat) (w:World),(w.setCells g o vs).os=w.os∧(w.setCells g o vs).tape=w.tape∧(w.setCells g o vs).output=w.output∧(w.setCells g o vs).heap.size=w.heap.size
 | [],_,_=>⟨rfl,rfl,rfl,rfl⟩
 | v :: r,o,w=>by
  obtain ⟨h1,h2,h3,h4⟩:=Dl g r (o + 1) (w.setCell ⟨g,o,none⟩ v);rw [World.setCells];exact ⟨h1,h2,h3,by rw [h4];simp [World.setCell]⟩
theorem jm {g:Nat} {e:TypeId}:∀ (vs:List Value) (o:Nat) (w:World) (cur:Array Value),w.heap[g]? = some (.cells cur e (0,0))→o + vs.length ≤ cur.size →
  ∃ cur',(w.setCells g o vs).heap[g]? = some (.cells cur' e (0,0))∧cur'.size=cur.size∧cur'.toList=cur.toList.take o ++ vs ++ cur.toList.drop (o + vs.length)
 | [],o,w,cur,h,_=>⟨cur,h,rfl,by simp⟩
 | v :: r,o,w,cur,h,hl=>by
  have h2:=Jx h o v;simp only [List.length_cons] at hl;obtain ⟨cur',h3,h4,h5⟩:=jm r (o + 1) (w.setCell ⟨g,o,none⟩ v) _ h2 (by simp;omega);refine ⟨cur',h3,by rw [h4];simp,?_⟩;rw [h5,Array.toList_setIfInBounds];have ho:o < cur.toList.length:=by rw [Array.length_toList];omega
  rw [List.take_set,List.drop_set_of_lt (by omega)];simp only [List.length_cons];rw [show o + 1 + r.length=o + (r.length + 1) by omega]
  congr 1
  rw [List.take_succ_eq_append_getElem ho,List.set_append_right _ _ (by rw [List.length_take];omega)];have ho':o < cur.size:=by omega
  simp [Nat.min_eq_left (Nat.le_of_lt ho')]
end
section
variable {P:Program}
theorem kG (w:World) (base:Nat) (t ty e:TypeId) (i:TypeInfo) (z:Value) (size bytes:Nat) (ht:P.underlying t=some (.slice e)) (hi:P.info? e=some i) (hz:i.zero=some z)
  (hsize:i.size=size) (hby:i.bytes=bytes) (hzs:z.cells.size=size) (hsz:0 < size)
  (v:Value) (n:Nat) (xs:List Value) (hown:kn w base e size v n xs)
  (a:Addr) (m c:Nat) (news:List Value) (hl:news.length=m * size) (hnews:∀ j u,news[j]? = some u→w.cell? (a.add j)=some u) (h1:∀ u ∈ news,u.oneCell' = true) (hm:0 < m)
  (h63:n + m ≤ maxLen) (hbytes:(n + m) * bytes ≤ 140737488355328) (hbase:base ≤ w.heap.size) :
  ∃ v' w',(Builtin.append_ #[t,t] ty #[v,.slice (some a) m c]).run P w = .ok v' w'∧kn w' base e size v' (n + m) (xs ++ news)∧w.grownBy w' v.ownBlock∧(v'.ownBlock=v.ownBlock ∨ ∃ b,v'.ownBlock=some b∧w.heap.size ≤ b):=by
 have grows:∀ (b:Addr) (cap:Nat),cap < n + m→(∀ j u,xs[j]? = some u→w.cell? (b.add j)=some u)→v = .slice (some b) n cap →
   ∃ v' w',(Builtin.append_ #[t,t] ty #[v,.slice (some a) m c]).run P w = .ok v' w'∧kn w' base e size v' (n + m) (xs ++ news)∧w.grownBy w' v.ownBlock∧(v'.ownBlock=v.ownBlock ∨ ∃ b,v'.ownBlock=some b∧w.heap.size ≤ b):=by
  intro b cap hcap Vn hv;obtain ⟨v',w',hr,ho,hg⟩:=run_append_arg_grows (P:=P) (w:=w) t ty e i z size bytes ht hi hz hsize hby hzs hsz b n cap xs hown.1 Vn a m c news hl hnews hcap h63 hbytes;refine ⟨v',w',by rw [hv];exact hr,XJ (zu ho) hbase,⟨hg.os,hg.tape,hg.output,hg.size,fun k hk _=>hg.block k hk (by simp)⟩,?_⟩;obtain ⟨g',cap',he,hb,_⟩:=ho.form (by omega);exact .inr ⟨g',by rw [he];simp [Value.ownBlock],hb⟩
 rcases hown.2 with ⟨h0,A,hv,hA⟩|⟨g,off,cap,cur,hv,hbg,hg,hnc,hcm,hcs,htake⟩
 ·cases A with
  | none =>
   subst h0;have ho:w.ownsRow base e size v 0 xs:=⟨hown.1,.inl ⟨hv,rfl⟩⟩;obtain ⟨v',w',hr,ho',hg,_,hat⟩:=run_append_own_at (P:=P) w base t ty e i z size bytes ht hi hz hsize hby hzs hsz v 0 xs ho a m c news hl hnews h1 h63 hbytes hbase;refine ⟨v',w',hr,zu ho',hg,?_⟩
   rcases hat with hat|hat
   ·exact .inl hat
   ·exact .inr ⟨_,hat,Nat.le_refl _⟩
  | some b =>
   have hx:xs=[]:=List.eq_nil_of_length_eq_zero (by rw [hown.1,h0,Nat.zero_mul]);exact grows b 0 (by omega) (fun j u hu=>by rw [hx] at hu;simp at hu) (by rw [hv,h0])
 ·by_cases hroom:n + m ≤ cap
  ·have hfit:off * size + n * size + news.length ≤ cur.size:=by
    rw [hl,hcs,← Nat.add_mul,← Nat.add_mul];exact Nat.mul_le_mul_right _ (by omega)
   subst hsize
   have hr:=run_append_room_cells (P:=P) (w:=w) t ty e i ht hi g (off * i.size) n cap a m c news hl hnews h1 hroom
    (fun j hj=>by rw [cell_of_row w g _ cur e (0,0) hg];simp;omega) (fun j _=>Aa hg _)
   obtain ⟨cur',h3,h4,h5⟩:=jm news (off * i.size + n * i.size) w cur hg hfit;obtain ⟨s1,s2,s3,s4⟩:=Dl g news (off * i.size + n * i.size) w
   refine ⟨_,_,by rw [hv];exact hr,⟨by rw [List.length_append,hown.1,hl,Nat.add_mul],.inr ⟨g,off,cap,cur',rfl,hbg,h3,hroom,hcm,by rw [h4,hcs],?_⟩⟩,
    ⟨s1,s2,s3,by rw [s4];exact Nat.le_refl _,fun k _ hk=>mm news _ k (fun he=>hk (by rw [hv,he];simp [Value.ownBlock]))⟩,.inl (by rw [hv];rfl)⟩
   rw [h5,List.append_assoc,List.drop_append_of_le_length (by rw [List.length_take,Array.length_toList];omega),List.drop_take];rw [show off * i.size + n * i.size - off * i.size=n * i.size by omega,htake];rw [← List.append_assoc];exact List.take_left' (by rw [List.length_append,hown.1,hl,Nat.add_mul])
  ·refine grows ⟨g,off * size,none⟩ cap (by omega) (fun j u hu=>?_) hv;rw [Lm,cell_of_row w g _ cur e (0,0) hg];rw [← htake,List.getElem?_take] at hu
   split at hu
   ·rw [List.getElem?_drop] at hu;rw [← Array.getElem?_toList];exact hu
   ·cases hu
end
namespace Kd
theorem DE {α:Type} {R:α→List Value→Prop} {size m:Nat} {ps:List α} {cs:List Value} (h:Fc R size ps cs) (hm:m ≤ ps.length):Fc R size (ps.take m) (cs.take (m * size)):=by
 refine ⟨by rw [List.length_take,List.length_take,h.1,Nat.min_eq_left hm,Nat.min_eq_left (Nat.mul_le_mul_right _ hm)],fun j p hj=>?_⟩;rw [List.getElem?_take] at hj
 split at hj
 ·rename_i hjm;have:=h.2 j p hj;have hle:j * size + size ≤ m * size:=by rw [← Nat.succ_mul];exact Nat.mul_le_mul_right _ hjm
  rw [List.drop_take,List.take_take,Nat.min_eq_left (by omega)];exact this
 ·cases hj
theorem FE {α:Type} {R:α→List Value→Prop} {size m:Nat} {ps:List α} {cs:List Value} (h:Fc R size ps cs):Fc R size (ps.drop m) (cs.drop (m * size)):=by
 refine ⟨by rw [List.length_drop,List.length_drop,h.1,Nat.sub_mul],fun j p hj=>?_⟩;rw [List.getElem?_drop] at hj;have:=h.2 (m + j) p hj;rw [List.drop_drop,← Nat.add_mul];exact this
theorem Tx {α:Type} {d:Kd α} {e m n c:Nat} {w:World} {base:Nat} {ok:Nat→Prop} {A:Option Addr} {xs:List α} (h:d.R e w base ok (.slice A n c) xs) (hm:m ≤ xs.length):d.R e w base ok (.slice A m c) (xs.take m):=by
 obtain ⟨h0,inner,ho,hr⟩:=h
 have hn:n=xs.length:=by
  obtain ⟨A',c',he⟩:=ME ho;injection he
 subst hn
 have hb:∀ x y:Nat,(Value.slice A x c).ownBlock=(Value.slice A y c).ownBlock:=by
  intro x y;cases A <;> rfl
 refine ⟨fun k hk=>h0 k (by rw [hb _ m];exact hk),inner.take (m * d.sz),?_,?_⟩
 ·rw [List.length_take,Nat.min_eq_left hm];exact qG ho hm
 ·rw [hb m xs.length];exact DE hr hm
def Q {α:Type} (d:Kd α) (e:Nat) (w:World) (base:Nat) (ok:Nat→Prop) (v:Value) (xs:List α):Prop :=
 (∀ k,v.ownBlock=some k→ok k)∧∃ inner,kn w base e d.sz v xs.length inner∧Fc (d.M w base (fun k=>ok k∧some k ≠ v.ownBlock)) d.sz xs inner
section
variable {α:Type} {d:Kd α} {e:Nat} {w w1 W:World} {base:Nat} {ok Wk:Nat→Prop} {v:Value} {xs:List α}
theorem YB (h:d.R e w base ok v xs):d.Q e w base ok v xs:=by
 obtain ⟨h0,inner,ho,hr⟩:=h;exact ⟨h0,inner,zu ho,hr⟩
theorem rU (d:Kd α) (e:Nat) (w:World) (base:Nat) (ok:Nat→Prop):d.Q e w base ok (.slice none 0 0) []:=YB (Zs d e w base ok)
theorem Pm (h:d.Q e w base ok v xs) (hok:∀ k,ok k→Wk k):d.Q e w base Wk v xs:=by
 obtain ⟨h0,inner,ho,hr⟩:=h;exact ⟨fun k hk=>hok k (h0 k hk),inner,ho,hr.Lk (fun _ _ hp=>d.xd (fun k hk=>⟨hok k hk.1,hk.2⟩) hp)⟩
theorem ru (h:d.Q e w base ok v xs):d.Q e w base (fun k=>ok k∧base ≤ k∧k < w.heap.size∧∃ q,q ∈ e :: d.E∧∃ cells,w.heap[k]? = some (.cells cells q (0,0))) v xs:=by
 obtain ⟨h0,inner,ho,hr⟩:=h;refine ⟨fun k hk=>?_,inner,ho,hr.Lk (fun _ _ hp=>d.xd (fun k hk=>?_) (d.Ge hp))⟩
 ·obtain ⟨hb,cells,hc⟩:=bq ho k hk;exact ⟨h0 k hk,hb,UN ho k hk,e,List.mem_cons_self,cells,hc⟩
 ·obtain ⟨⟨h1,h2⟩,h3,h4,q,hq,hc⟩:=hk;exact ⟨⟨h1,h3,h4,q,List.mem_cons_of_mem _ hq,hc⟩,h2⟩
theorem Ux (h:d.Q e w base ok v xs) (hm:∀ k,ok k→w1.heap[k]? = w.heap[k]?):d.Q e w1 base ok v xs:=by
 obtain ⟨h0,inner,ho,hr⟩:=h;exact ⟨h0,inner,jG ho (fun k hk=>hm k (h0 k hk)),hr.Lk (fun _ _ hp=>d.zf (fun k hk=>hm k hk.1) hp)⟩
theorem vQ (h:d.Q e w base ok v xs) (hm:∀ k,ok k→k < w.heap.size→w1.heap[k]? = w.heap[k]?):d.Q e w1 base ok v xs:=Pm (Ux (ru h) (fun k hk=>hm k hk.1 hk.2.2.1)) (fun _ hk=>hk.1)
theorem Vx (h:d.Q e w base ok v xs) (hb:Below w.heap.size w w1):d.Q e w1 base ok v xs:=vQ h (fun k _ hk=>hb.block k hk)
theorem mg (h:d.Q e w base ok v xs) (o:Obj):d.Q e (w.alloc o) base ok v xs:=Vx h (ia (Below.refl _ _) o)
theorem Lg (h:d.Q e w base ok v xs):d.Q e w.drew base ok v xs:=Vx h (Mk (Below.refl _ _))
theorem lg (h:d.Q e w base ok v xs) (m:Nat):d.Q e (w.drewN m) base ok v xs:=Vx h (ga (Below.refl _ _) m)
theorem tU (h:d.Q e w base ok v xs):∀ k,v.ownBlock=some k→k < w.heap.size:=by
 obtain ⟨_,inner,ho,_⟩:=h;exact UN ho
theorem sU (h:d.Q e w base ok v xs) {g t:Nat} {cells:Array Value} (hb:w.heap[g]? = some (.cells cells t (0,0))) (ht:e ≠ t):some g ≠ v.ownBlock:=by
 obtain ⟨_,inner,ho,_⟩:=h;intro he;obtain ⟨_,cells',hc⟩:=bq ho g he.symm;rw [hc] at hb;injection hb with hb
 injection hb with _ hb
 exact ht hb
theorem br (h:d.Q e w base ok v xs):∃ A c,v = .slice A xs.length c∧xs.length ≤ c:=by
 obtain ⟨_,inner,ho,_⟩:=h;exact tC ho
theorem uv {A:Option Addr} {n c:Nat} (h:d.Q e w base ok (.slice A n c) xs):n=xs.length∧n ≤ c∧d.C w A xs.length xs:=by
 obtain ⟨_,inner,ho,hr⟩:=h;obtain ⟨A',c',he,hl⟩:=tC ho;injection he with h1 h2 h3
 subst h1;subst h2;subst h3;refine ⟨rfl,hl,rfl,VR ho,fun hp=>?_⟩;obtain ⟨ad,ha,hc⟩:=YJ ho hp;refine ⟨ad,ha,fun j p hj=>⟨(inner.drop (j * d.sz)).take d.sz,?_,d.we (hr.2 j p hj),fun i u hu=>?_⟩⟩
 ·have hjl:=(List.getElem?_eq_some_iff.1 hj).1;have h1:j * d.sz + d.sz ≤ inner.length:=by rw [hr.1,← Nat.succ_mul];exact Nat.mul_le_mul_right _ hjl
  rw [List.length_take,List.length_drop];omega
 ·refine hc _ u ?_;rw [List.getElem?_take] at hu
  split at hu
  ·rw [List.getElem?_drop] at hu;exact hu
  ·cases hu
theorem RI {A:Option Addr} {k n c:Nat} (h:d.Q e w base ok (.slice A n c) xs) (hk:k ≤ xs.length):d.Q e w base ok (.slice (if c=k then A else A.map (·.add (k * d.sz))) (n - k) (c - k)) (xs.drop k):=by
 have hn:n=xs.length:=(uv h).1;subst hn;obtain ⟨h0,inner,ho,hr⟩:=h
 have hb:(Value.slice (if c=k then A else A.map (·.add (k * d.sz))) (xs.length - k) (c - k)).ownBlock=(Value.slice A xs.length c).ownBlock:=by
  split
  ·cases A <;> rfl
  ·cases A with
   | none=>rfl
   | some a=>simp [Value.ownBlock];unfold Addr.add;split <;> rfl
 refine ⟨fun j hj=>h0 j (by rw [← hb];exact hj),inner.drop (k * d.sz),?_,?_⟩
 ·rw [List.length_drop];exact VN ho hk
 ·rw [hb];exact FE hr
theorem mL {u v1:Value} {ys:List α} {e':Nat} (h:d.Q e' W base (fun k=>ok k∧some k ≠ v.ownBlock) u ys) (hg:W.grownBy w1 v.ownBlock) (hat:v1.ownBlock=v.ownBlock ∨ ∃ b,v1.ownBlock=some b∧W.heap.size ≤ b):d.Q e' w1 base (fun k=>ok k∧some k ≠ v1.ownBlock) u ys:=by
 refine Pm (Ux (ru h) (fun k hk=>hg.block k hk.2.2.1 hk.1.2)) (fun k hk=>⟨hk.1.1,?_⟩)
 rcases hat with hat|⟨b,hb,hle⟩
 ·rw [hat];exact hk.1.2
 ·rw [hb];intro he;injection he with he
  have:=hk.2.2.1;omega
theorem ZB {Ag:Nat→Prop} {v1:Value} {p:α} {inner cs:List Value} (h0:∀ k,v.ownBlock=some k→ok k) (hr:Fc (d.M W base (fun k=>ok k∧some k ≠ v.ownBlock)) d.sz xs inner) (hp:d.M W base Ag p cs) (uk:∀ k,Ag k→ok k∧some k ≠ v.ownBlock) (ig:∀ k,W.heap.size ≤ k→ok k)
  (hown:kn w1 base e d.sz v1 (xs.length + 1) (inner ++ cs)) (hg:W.grownBy w1 v.ownBlock) (hat:v1.ownBlock=v.ownBlock ∨ ∃ b,v1.ownBlock=some b∧W.heap.size ≤ b):d.Q e w1 base ok v1 (xs ++ [p]):=by
 have hne:∀ k,some k ≠ v.ownBlock→k < W.heap.size→some k ≠ v1.ownBlock:=by
  intro k hk hlt
  rcases hat with hat|⟨b,hb,hle⟩
  ·rw [hat];exact hk
  ·rw [hb];intro he;injection he with he
   omega
 have step:∀ {q:α} {c:List Value} {o:Nat→Prop},d.M W base o q c→(∀ k,o k→ok k∧some k ≠ v.ownBlock)→d.M w1 base (fun k=>ok k∧some k ≠ v1.ownBlock) q c:=by
  intro q c o hq ho;have h1:=d.zf (w1:=w1) (fun k hk=>hg.block k hk.2.2.1 (ho k hk.1).2) (d.Ge hq);exact d.xd (fun k hk=>⟨(ho k hk.1).1,hne k (ho k hk.1).2 hk.2.2.1⟩) h1
 refine ⟨fun k hk=>?_,inner ++ cs,by rw [List.length_append,List.length_singleton];exact hown,?_⟩
 ·rcases hat with hat|⟨b,hb,hle⟩
  ·exact h0 k (hat ▸ hk)
  ·rw [hb] at hk;injection hk with hk
   exact ig k (by omega)
 ·exact (hr.Lk (fun _ _ hq=>step hq (fun _ hk=>hk))).snoc (step hp uk) (d.Ch (d.we hp))
end
section
variable {P:Program} {ops:Array Oper} {rest:List Oper} {o:Oper} {a:Act} {Q':Exit→Act→World→Prop} {Kc:Act→World→Prop} {α:Type}
theorem qU (d:Kd α) {w0 W:World} (base:Nat) (t ty e:TypeId) (z:Value) (bytes:Nat)
  (ht:P.underlying t=some (.slice e)) (hinfo:(P.info? e).map (fun i=>(i.zero,i.size,i.bytes))=some (some z,d.sz,bytes)) (hz:z.cells.size=d.sz) (hs0:0 < d.sz) (hb0:0 < bytes)
  (v:Value) (xs:List α) (p:α) (cs:List Value) (ok Ag:Nat→Prop) (hp:d.M W base Ag p cs) (uk:∀ k,Ag k→ok k∧some k ≠ v.ownBlock) (ig:∀ k,W.heap.size ≤ k→ok k)
  (HO:d.Q e W base ok v xs) (HB:Below base w0 W) (hbase:base ≤ W.heap.size) (hl:(xs.length + 1) * bytes ≤ 140737488355328) :
  ∃ v1 w1,(Builtin.append_ #[t,t] ty #[v,.slice (some ⟨W.heap.size,0,none⟩) 1 1]).run P (W.alloc (.cells cs.toArray e)) = .ok v1 w1∧d.Q e w1 base ok v1 (xs ++ [p])∧Below base w0 w1∧W.grownBy w1 v.ownBlock∧(v1.ownBlock=v.ownBlock ∨ ∃ b,v1.ownBlock=some b∧W.heap.size ≤ b):=by
 obtain ⟨h0,inner,hown,hr⟩:=HO;obtain ⟨i0,hi,hzz⟩:=Option.map_eq_some_iff.1 hinfo;simp only [Prod.mk.injEq] at hzz;obtain ⟨hz0,hz1,hz2⟩:=hzz;have hlen:xs.length + 1 ≤ 140737488355328:=Nat.le_trans (Nat.le_mul_of_pos_right _ hb0) hl;have Us:=d.Ch (d.we hp);have hq:kn (W.alloc (.cells cs.toArray e)) base e d.sz v xs.length inner:=jG hown (fun k hk=>Below.heap_alloc W _ k (UN hown k hk))
 obtain ⟨v1,w1,hrun,hq1,Dv,hat⟩:=kG (P:=P) (W.alloc (.cells cs.toArray e)) base t ty e i0 z d.sz bytes ht hi hz0 hz1 hz2 hz hs0 v xs.length inner hq ⟨W.heap.size,0,none⟩ 1 1 cs (by rw [Us,Nat.one_mul])
  (by simpa using World.news_of_block (cs:=cs.toArray) (t:=e) (fr:=(0,0)) (heap_alloc_new W (.cells cs.toArray e))) (d.oh (d.we hp)) (by omega) (by simp only [maxLen];omega) hl (by simp;omega)
 have hg:W.grownBy w1 v.ownBlock:=World.grownBy.trans (World.grownBy_alloc W _ _) Dv
 have hat':v1.ownBlock=v.ownBlock ∨ ∃ b,v1.ownBlock=some b∧W.heap.size ≤ b:=by
  rcases hat with hat|⟨b,hb,hle⟩
  ·exact .inl hat
  ·exact .inr ⟨b,hb,by rw [World.size_alloc] at hle;omega⟩
 exact ⟨v1,w1,hrun,ZB h0 hr hp uk ig hq1 hg hat',HB.grown hg hbase (fun k hk=>(bq hown k hk).1),hg,hat'⟩
theorem jA (d:Kd α) {w0 W:World} (base:Nat) (hgd:o.guard=none) (s x:Operand) (t e:TypeId) (z:Value) (bytes:Nat)
  (ho:o.op = .call { callee:=.builtin .append,args:=#[s,x],argTypes:=#[t,t] })
  (ht:P.underlying t=some (.slice e)) (hinfo:(P.info? e).map (fun i=>(i.zero,i.size,i.bytes))=some (some z,d.sz,bytes)) (hz:z.cells.size=d.sz) (hs0:0 < d.sz) (hb0:0 < bytes)
  (v:Value) (xs:List α) (p:α) (cs:List Value) (ok Ag:Nat→Prop) (hs:a.eval s=v) (hx:a.eval x = .slice (some ⟨W.heap.size,0,none⟩) 1 1) (hp:d.M W base Ag p cs) (uk:∀ k,Ag k→ok k∧some k ≠ v.ownBlock) (ig:∀ k,W.heap.size ≤ k→ok k)
  (HO:d.Q e W base ok v xs) (HB:Below base w0 W) (hbase:base ≤ W.heap.size) (hl:(xs.length + 1) * bytes ≤ 140737488355328)
  (h:∀ v1 w1,d.Q e w1 base ok v1 (xs ++ [p])→Below base w0 w1→W.grownBy w1 v.ownBlock→(v1.ownBlock=v.ownBlock ∨ ∃ b,v1.ownBlock=some b∧W.heap.size ≤ b)→wpList P ops Q' rest (a.put o.dst v1) w1) :
  wpList P ops Q' (o :: rest) a (W.alloc (.cells cs.toArray e)):=by
 obtain ⟨v1,w1,hr,h1,h2,h3,h4⟩:=qU (P:=P) d base t o.type e z bytes ht hinfo hz hs0 hb0 v xs p cs ok Ag hp uk ig HO HB hbase hl;refine wpList_plain hgd fun K hK=>?_
 unfold Oper.wp execOp;simp only [ho,resolve,invoke,builtin,Sem.run_bind,Sem.run_pure,Result.andThen_ok,List.map_toArray,List.map_cons,List.map_nil,hs,hx,hr];exact hK _ _ (h v1 w1 h1 h2 h3 h4)
end
end Kd
namespace Kd
section
variable {α:Type} {d:Kd α} {e e':Nat} {w w1 W:World} {base:Nat} {ok:Nat→Prop} {u v:Value} {xs:List α}
theorem tj (h:d.R e w base ok v xs):∀ k,v.ownBlock=some k→∃ cells,w.heap[k]? = some (.cells cells e (0,0)):=by
 obtain ⟨inner,ho⟩:=bE h;exact fun k hk=>xo ho k hk
theorem wj (h:d.R e W base ok u xs) (fS:∀ k,v.ownBlock=some k→∃ cells,W.heap[k]? = some (.cells cells e' (0,0))) (ht:∀ q,q ∈ e :: d.E→q ≠ e') (hg:W.grownBy w1 v.ownBlock):d.R e w1 base ok u xs:=by
 refine Db (Fs (Fe h) (fun k hk=>hg.block k hk.2.2.1 (fun he=>?_))) (fun _ hk=>hk.1);obtain ⟨_,_,_,q,hq,cells,hc⟩:=hk;obtain ⟨cells',hc'⟩:=fS k he.symm;rw [hc] at hc';injection hc' with hc'
 injection hc' with _ hc'
 exact ht q hq hc'
theorem jo (h:d.R e W base ok u xs) (fS:∀ k,v.ownBlock=some k→∃ cells,W.heap[k]? = some (.cells cells e' (0,0))) (ht:∀ q,q ∈ e :: d.E→q ≠ e'):d.R e W base (fun k=>ok k∧some k ≠ v.ownBlock) u xs:=by
 refine Db (Fe h) (fun k hk=>⟨hk.1,fun he=>?_⟩);obtain ⟨_,_,_,q,hq,cells,hc⟩:=hk;obtain ⟨cells',hc'⟩:=fS k he.symm;rw [hc] at hc';injection hc' with hc'
 injection hc' with _ hc'
 exact ht q hq hc'
theorem mh (hu:d.R e W base ok u xs) (hbase:∀ k,v.ownBlock=some k→W.heap.size ≤ k) (hb:Below W.heap.size W w1):d.R e w1 base (fun k=>ok k∧some k ≠ v.ownBlock) u xs :=
 Db (Fs (Fe hu) (fun k hk=>hb.block k hk.2.2.1)) (fun k hk=>⟨hk.1,fun he=>by have:=hbase k he.symm;have:=hk.2.2.1;omega⟩)
theorem Wi (h:d.R e w1 W.heap.size ok v xs) (hlt:∀ k,u.ownBlock=some k→k < W.heap.size):d.R e w1 W.heap.size (fun k=>ok k∧some k ≠ u.ownBlock) v xs :=
 Db (Fe h) (fun k hk=>⟨hk.1,fun he=>by have:=hlt k he.symm;have:=hk.2.1;omega⟩)
theorem jL (h:d.Q e w base ok v xs):∀ k,v.ownBlock=some k→∃ cells,w.heap[k]? = some (.cells cells e (0,0)):=by
 obtain ⟨_,inner,ho,_⟩:=h;exact fun k hk=>(bq ho k hk).2
theorem kL (h:d.Q e W base ok u xs) (fS:∀ k,v.ownBlock=some k→∃ cells,W.heap[k]? = some (.cells cells e' (0,0))) (ht:∀ q,q ∈ e :: d.E→q ≠ e') (hg:W.grownBy w1 v.ownBlock):d.Q e w1 base ok u xs:=by
 refine Pm (Ux (ru h) (fun k hk=>hg.block k hk.2.2.1 (fun he=>?_))) (fun _ hk=>hk.1);obtain ⟨_,_,_,q,hq,cells,hc⟩:=hk;obtain ⟨cells',hc'⟩:=fS k he.symm;rw [hc] at hc';injection hc' with hc'
 injection hc' with _ hc'
 exact ht q hq hc'
theorem iA (hu:d.Q e W base ok u xs) (hbase:∀ k,v.ownBlock=some k→W.heap.size ≤ k) (hb:Below W.heap.size W w1):d.Q e w1 base (fun k=>ok k∧some k ≠ v.ownBlock) u xs :=
 Pm (Ux (ru hu) (fun k hk=>hb.block k hk.2.2.1)) (fun k hk=>⟨hk.1,fun he=>by have:=hbase k he.symm;have:=hk.2.2.1;omega⟩)
theorem fresh' (hlt:∀ k,u.ownBlock=some k→k < W.heap.size):∀ k,W.heap.size ≤ k→some k ≠ u.ownBlock:=fun k hk he=>by have:=hlt k he.symm;omega
end
end Kd
theorem Yp {α:Type} (a seg:List α) (o:Nat) (h:o + seg.length ≤ a.length) (q:Nat) :
  (a.take o ++ seg ++ a.drop (o + seg.length))[q]? = if q < o then a[q]? else if q < o + seg.length then seg[q - o]? else a[q]?:=by
 have hl:(a.take o).length=o:=by rw [List.length_take];omega
 rw [List.append_assoc]
 by_cases h1:q < o
 ·rw [if_pos h1,List.getElem?_append_left (by omega),List.getElem?_take,if_pos h1]
 ·rw [if_neg h1,List.getElem?_append_right (by omega),hl]
  by_cases h2:q < o + seg.length
  ·rw [if_pos h2,List.getElem?_append_left (by omega)]
  ·rw [if_neg h2,List.getElem?_append_right (by omega),List.getElem?_drop]
   congr 1
   omega
namespace Kd
section
variable {α:Type} {d:Kd α} {e base g n cap:Nat} {ok Ag:Nat→Prop} {W:World} {xs:List α}
theorem wh (h:d.R e W base ok (.slice (some ⟨g,0,none⟩) n cap) xs) (z:α) (i:Int) (h0:0 ≤ i) (h1:i < n) :
  ∃ c,c.length=d.sz∧d.M W base (fun k=>ok k∧k ≠ g) (xs.getD i.toNat z) c∧(∀ j u,c[j]? = some u→W.cell? ⟨g,i.toNat * d.sz + j,none⟩=some u)∧∀ j,W.frozen? ⟨g,i.toNat * d.sz + j,none⟩=false:=by
 obtain ⟨hn,hnc,hC⟩:=Wa h;obtain ⟨_,inner,ho,hr⟩:=h;have hil:i.toNat < xs.length:=by omega
 have xK:i.toNat * d.sz + d.sz ≤ inner.length:=by rw [hr.1,← Nat.succ_mul];exact Nat.mul_le_mul_right _ hil
 have hM:=hr.2 i.toNat _ (List.getElem?_eq_getElem hil);refine ⟨(inner.drop (i.toNat * d.sz)).take d.sz,by rw [List.length_take,List.length_drop];omega,?_,fun j u hu=>?_,fun j=>?_⟩
 ·rw [List.getD_eq_getElem?_getD,List.getElem?_eq_getElem hil];exact d.xd (fun k hk=>⟨hk.1,fun he=>hk.2 (by rw [he];simp [Value.ownBlock])⟩) hM
 ·rw [List.getElem?_take] at hu
  split at hu
  ·rw [List.getElem?_drop] at hu;have:=ho.cells (g:=g) (by simp [Value.ownBlock]) _ u hu
   rwa [add_plain] at this
  ·cases hu
 ·obtain ⟨cells,hc⟩:=xo ho g (by simp [Value.ownBlock]);exact Aa hc _
theorem gp (h:d.R e W base ok (.slice (some ⟨g,0,none⟩) n cap) xs) (i:Int) (h0:0 ≤ i) (h1:i < n) {c seg:List Value} {j:Nat} (Us:c.length=d.sz) (Ou:∀ j u,c[j]? = some u→W.cell? ⟨g,i.toNat * d.sz + j,none⟩=some u)
  (hj:j + seg.length ≤ d.sz) {x':α} (hM:d.M W base Ag x' (c.take j ++ seg ++ c.drop (j + seg.length))) (uk:∀ k,Ag k→ok k∧k ≠ g) :
  d.R e (W.setCells g (i.toNat * d.sz + j) seg) base ok (.slice (some ⟨g,0,none⟩) n cap) (xs.set i.toNat x')∧W.grownBy (W.setCells g (i.toNat * d.sz + j) seg) (some g):=by
 obtain ⟨hn,hnc,_⟩:=Wa h;obtain ⟨hok,inner,ho,hr⟩:=h;have hil:i.toNat < xs.length:=by omega
 have xK:i.toNat * d.sz + d.sz ≤ inner.length:=by rw [hr.1,← Nat.succ_mul];exact Nat.mul_le_mul_right _ hil
 have hin:inner.length=n * d.sz:=by rw [hr.1,hn]
 obtain ⟨ho1,TZ⟩:=ho
 rcases TZ with ⟨hv,_⟩|⟨g',cap',cur,hv,hb,hh,Cab,hcm,hcs,ht⟩
 ·cases hv
 injection hv with ha _ hc
 injection ha with ha
 injection ha with hg
 subst hg;subst hc
 have hfit:i.toNat * d.sz + j + seg.length ≤ cur.size:=by
  have:n * d.sz ≤ cap * d.sz:=Nat.mul_le_mul_right _ hnc;omega
 obtain ⟨cur',h3,h4,h5⟩:=jm seg (i.toNat * d.sz + j) W cur hh hfit;obtain ⟨s1,s2,s3,s4⟩:=Dl g seg (i.toNat * d.sz + j) W;have cP:∀ k,k ≠ g→(W.setCells g (i.toNat * d.sz + j) seg).heap[k]? = W.heap[k]?:=fun k hk=>mm seg _ k hk
 have hcin:∀ q,q < d.sz→c[q]? = inner[i.toNat * d.sz + q]?:=by
  intro q hq;have hq':q < c.length:=by omega
  have h6:=Ou q _ (List.getElem?_eq_getElem hq');rw [cell_of_row W g _ cur e (0,0) hh] at h6;rw [List.getElem?_eq_getElem hq',← h6,← ht,List.getElem?_take,if_pos (by rw [← hn];omega),Array.getElem?_toList]
 refine ⟨⟨hok,inner.take (i.toNat * d.sz + j) ++ seg ++ inner.drop (i.toNat * d.sz + j + seg.length),⟨?_,.inr ⟨g,cap,cur',by rw [List.length_set,hn],hb,h3,by rw [List.length_set,← hn];exact hnc,hcm,by rw [h4,hcs],?_⟩⟩,?_⟩,
  ⟨s1,s2,s3,by rw [s4];exact Nat.le_refl _,fun k _ hk=>cP k (fun he=>hk (by rw [he]))⟩⟩
 ·rw [List.length_set];simp only [List.length_append,List.length_take,List.length_drop];rw [hr.1] at xK ⊢;omega
 ·rw [List.length_set,← hn];apply List.ext_getElem?;intro q;rw [List.getElem?_take,h5];rw [Yp cur.toList seg (i.toNat * d.sz + j) (by rw [Array.length_toList];omega) q,Yp inner seg (i.toNat * d.sz + j) (by omega) q]
  have D2:∀ q,q < n * d.sz→cur.toList[q]? = inner[q]?:=by
   intro q hq;rw [← ht,List.getElem?_take,if_pos (by rw [← hn];exact hq)]
  by_cases hq:q < n * d.sz
  ·rw [if_pos hq,D2 q hq]
  ·rw [if_neg hq,if_neg (by omega),if_neg (by omega),List.getElem?_eq_none (by omega)]
 ·refine ⟨?_,fun m p hm=>?_⟩
  ·rw [List.length_set];simp only [List.length_append,List.length_take,List.length_drop];rw [hr.1] at xK ⊢;omega
  ·have hml:m < xs.length:=by
    have:=(List.getElem?_eq_some_iff.1 hm).1
    rwa [List.length_set] at this
   have O8:m * d.sz + d.sz ≤ inner.length:=by rw [hr.1,← Nat.succ_mul];exact Nat.mul_le_mul_right _ hml
   have hgo:some g=(Value.slice (some ⟨g,0,none⟩) n cap).ownBlock:=by simp [Value.ownBlock]
   by_cases cM:m=i.toNat
   ·subst cM;rw [List.getElem?_set_self (by omega)] at hm;injection hm with hm
    subst hm
    have Vn:((inner.take (i.toNat * d.sz + j) ++ seg ++ inner.drop (i.toNat * d.sz + j + seg.length)).drop (i.toNat * d.sz)).take d.sz=c.take j ++ seg ++ c.drop (j + seg.length):=by
     apply List.ext_getElem?;intro q;rw [List.getElem?_take,List.getElem?_drop,Yp inner seg _ (by omega),Yp c seg j (by omega) q]
     by_cases hq:q < d.sz
     ·rw [if_pos hq,hcin q hq]
      by_cases hq1:q < j
      ·rw [if_pos (by omega),if_pos hq1]
      ·rw [if_neg (by omega),if_neg hq1]
       by_cases BJ:q < j + seg.length
       ·rw [if_pos (by omega),if_pos BJ]
        congr 1
        omega
       ·rw [if_neg (by omega),if_neg BJ]
     ·rw [if_neg hq,if_neg (by omega),if_neg (by omega),List.getElem?_eq_none (by omega)]
    rw [Vn];refine d.xd (fun k hk=>?_) (d.zf (w1:=W.setCells g (i.toNat * d.sz + j) seg) (fun k hk=>cP k (uk k hk).2) hM);exact ⟨(uk k hk).1,fun he=>(uk k hk).2 (by rw [← hgo] at he;injection he)⟩
   ·rw [List.getElem?_set_ne (by omega)] at hm;have hold:=hr.2 m p hm
    have Vn:((inner.take (i.toNat * d.sz + j) ++ seg ++ inner.drop (i.toNat * d.sz + j + seg.length)).drop (m * d.sz)).take d.sz=(inner.drop (m * d.sz)).take d.sz:=by
     apply List.ext_getElem?;intro q;rw [List.getElem?_take,List.getElem?_take,List.getElem?_drop,List.getElem?_drop,Yp inner seg _ (by omega)]
     by_cases hq:q < d.sz
     ·rw [if_pos hq,if_pos hq]
      rcases Nat.lt_or_gt_of_ne cM with hlt|hgt
      ·have:m * d.sz + d.sz ≤ i.toNat * d.sz:=by rw [← Nat.succ_mul];exact Nat.mul_le_mul_right _ hlt
       rw [if_pos (by omega)]
      ·have:i.toNat * d.sz + d.sz ≤ m * d.sz:=by rw [← Nat.succ_mul];exact Nat.mul_le_mul_right _ hgt
       rw [if_neg (by omega),if_neg (by omega)]
     ·rw [if_neg hq,if_neg hq]
    rw [Vn];refine d.zf (fun k hk=>cP k (fun he=>hk.2 (by rw [he];exact hgo))) hold
end
end Kd
namespace Kd
section
variable {α:Type} {F:Kd α→Kd α} {sz:Nat} {E:List Nat} {hs:∀ n,(upto F sz E n).sz=sz} {hE:∀ n q,q ∈ (upto F sz E n).E→q ∈ E}
end
end Kd
namespace Kd
theorem Ns {α:Type} {R:α→List Value→Prop} {size:Nat} {ps qs:List α} {cs ds:List Value} (h:Fc R size ps cs) (h':Fc R size qs ds):Fc R size (ps ++ qs) (cs ++ ds):=by
 refine ⟨by rw [List.length_append,List.length_append,h.1,h'.1,Nat.add_mul],fun j p hj=>?_⟩
 rcases Nat.lt_or_ge j ps.length with hlt|hge
 ·rw [List.getElem?_append_left hlt] at hj;have hle:j * size + size ≤ cs.length:=by rw [h.1,← Nat.succ_mul];exact Nat.mul_le_mul_right _ hlt
  rw [List.drop_append_of_le_length (by omega),List.take_append_of_le_length (by rw [List.length_drop];omega)];exact h.2 j p hj
 ·rw [List.getElem?_append_right hge] at hj;have h2:=h'.2 (j - ps.length) p hj;have hle:ps.length * size ≤ j * size:=Nat.mul_le_mul_right _ hge;rw [List.drop_append,List.drop_eq_nil_of_le (by rw [h.1];exact hle),List.nil_append,h.1,← Nat.sub_mul];exact h2
section
variable {P:Program} {ops:Array Oper} {rest:List Oper} {o:Oper} {a:Act} {Q:Exit→Act→World→Prop} {α:Type}
theorem lp (d:Kd α) {Rr:α→List Value→Prop} {w0 W:World} (base:Nat) (hgd:o.guard=none) (s x:Operand) (t e:TypeId) (z:Value) (bytes:Nat)
  (ho:o.op = .call { callee:=.builtin .append,args:=#[s,x],argTypes:=#[t,t] })
  (ht:P.underlying t=some (.slice e)) (hinfo:(P.info? e).map (fun i=>(i.zero,i.size,i.bytes))=some (some z,d.sz,bytes)) (hz:z.cells.size=d.sz) (hs0:0 < d.sz) (hb0:0 < bytes)
  (v:Value) (xs ys:List α) (A:Option Addr) (m c:Nat) (ok Ag:Nat→Prop) (hs:a.eval s=v) (hx:a.eval x = .slice A m c)
  (HO:d.R e W base ok v xs) (HR:Uf Rr d.sz W A m ys) (U2:∀ x cs,Rr x cs→d.M W base Ag x cs) (uk:∀ k,Ag k→ok k∧some k ≠ v.ownBlock) (ig:∀ k,W.heap.size ≤ k→ok k)
  (HB:Below base w0 W) (hbase:base ≤ W.heap.size) (hl:(xs.length + m) * bytes ≤ 140737488355328)
  (h:∀ v1 w1,d.R e w1 base ok v1 (xs ++ ys)→Below base w0 w1→W.grownBy w1 v.ownBlock→(v1.ownBlock=v.ownBlock ∨ ∃ b,v1.ownBlock=some b∧W.heap.size ≤ b)→wpList P ops Q rest (a.put o.dst v1) w1) :
  wpList P ops Q (o :: rest) a W:=by
 obtain ⟨i0,hi,hzz⟩:=Option.map_eq_some_iff.1 hinfo;simp only [Prod.mk.injEq] at hzz;obtain ⟨hz0,hz1,hz2⟩:=hzz;have hm:ys.length=m:=HR.1;have hlen:xs.length + m ≤ 140737488355328:=Nat.le_trans (Nat.le_mul_of_pos_right _ hb0) hl;obtain ⟨hok,inner,hown,hr⟩:=HO
 have hrun:∃ v1 w1,(Builtin.append_ #[t,t] o.type #[v,.slice A m c]).run P W = .ok v1 w1∧d.R e w1 base ok v1 (xs ++ ys)∧W.grownBy w1 v.ownBlock∧(v1.ownBlock=v.ownBlock ∨ ∃ b,v1.ownBlock=some b∧W.heap.size ≤ b):=by
  rcases A with _|ad
  ·have h0:m=0:=by
    rcases Nat.eq_zero_or_pos m with h0|h0
    ·exact h0
    ·obtain ⟨ad,h,_⟩:=HR.2.2 h0;cases h
   subst h0;obtain rfl:ys=[]:=List.eq_nil_of_length_eq_zero hm;refine ⟨v,W,?_,by rw [List.append_nil];exact ⟨hok,inner,hown,hr⟩,World.grownBy.refl W _,.inl rfl⟩
   rcases hown.2 with ⟨rfl,hn⟩|⟨g,cap,cur,rfl,_,_,hnc,_⟩
   ·simp [Builtin.append_,run_underlying ht,sizeOf,typeInfo,hi,Builtin.lenOf,Builtin.firstCells]
   ·simp [Builtin.append_,run_underlying ht,sizeOf,typeInfo,hi,Builtin.lenOf,Builtin.firstCells,hnc,storeCells]
  ·obtain ⟨news,UZ,hnc⟩:=Uf.JG HR;have AK:Fc (d.M W base Ag) d.sz ys news:=UZ.Lk (fun p c hp=>U2 p c hp)
   have hone:∀ u ∈ news,u.oneCell' = true:=by
    intro u hu;obtain ⟨q,hq,rfl⟩:=List.mem_iff_getElem.1 hu
    have qW:q / d.sz < ys.length:=by
     rw [Nat.div_lt_iff_lt_mul hs0];rw [← AK.1];exact hq
    have hc:=AK.2 (q / d.sz) _ (List.getElem?_eq_getElem qW);refine d.oh (d.we hc) _ ?_;rw [List.mem_iff_getElem?];refine ⟨q % d.sz,?_⟩;rw [List.getElem?_take,if_pos (Nat.mod_lt _ hs0),List.getElem?_drop,Nat.mul_comm,Nat.div_add_mod,List.getElem?_eq_getElem hq]
   obtain ⟨v1,w1,hrun,h2,hg,_,hat⟩:=run_append_own_at (P:=P) W base t o.type e i0 z d.sz bytes ht hi hz0 hz1 hz2 hz hs0 v xs.length inner hown ad m c news (by rw [AK.1,hm]) hnc hone (by simp only [maxLen];omega) hl hbase
   have hat':v1.ownBlock=v.ownBlock ∨ ∃ b,v1.ownBlock=some b∧W.heap.size ≤ b:=by
    rcases hat with hat|hat
    ·exact .inl hat
    ·exact .inr ⟨_,hat,Nat.le_refl _⟩
   have hne:∀ k,some k ≠ v.ownBlock→k < W.heap.size→some k ≠ v1.ownBlock:=by
    intro k hk hlt
    rcases hat' with hat|⟨b,hb,hle⟩
    ·rw [hat];exact hk
    ·rw [hb];intro he;injection he with he
     omega
   have step:∀ {q:α} {c:List Value} {o:Nat→Prop},d.M W base o q c→(∀ k,o k→ok k∧some k ≠ v.ownBlock)→d.M w1 base (fun k=>ok k∧some k ≠ v1.ownBlock) q c:=by
    intro q c o hq ho;have h1:=d.zf (w1:=w1) (fun k hk=>hg.block k hk.2.2.1 (ho k hk.1).2) (d.Ge hq);exact d.xd (fun k hk=>⟨(ho k hk.1).1,hne k (ho k hk.1).2 hk.2.2.1⟩) h1
   refine ⟨v1,w1,hrun,⟨fun k hk=>?_,inner ++ news,by rw [List.length_append,hm];exact h2,Ns (hr.Lk (fun _ _ hq=>step hq (fun _ hk=>hk))) (AK.Lk (fun _ _ hq=>step hq uk))⟩,hg,hat'⟩
   rcases hat' with hat|⟨b,hb,hle⟩
   ·exact hok k (hat ▸ hk)
   ·rw [hb] at hk;injection hk with hk
    exact ig k (by omega)
 obtain ⟨v1,w1,hr1,h1,hg,hat⟩:=hrun;refine wpList_plain hgd fun K hK=>?_
 unfold Oper.wp execOp;simp only [ho,resolve,invoke,builtin,Sem.run_bind,Sem.run_pure,Result.andThen_ok,List.map_toArray,List.map_cons,List.map_nil,hs,hx,hr1];exact hK _ _ (h v1 w1 h1 (HB.grown hg hbase (Cn hown)) hg hat)
end
end Kd
namespace Kd
section
variable {P:Program} {ops:Array Oper} {rest:List Oper} {o:Oper} {a:Act} {Q:Exit→Act→World→Prop} {α:Type}
end
end Kd
theorem add_add (a:Addr) (i j:Nat):(a.add i).add j=a.add (i + j):=by
 unfold Addr.add
 by_cases h1:i=0 <;> by_cases h2:j=0 <;> simp [h1,h2,Nat.add_assoc]
namespace Kd
section
variable {α:Type} {k:Kd α} {w:World} {A:Option Addr} {xs:List α} {m c:Nat}
theorem Ks (h:k.C w A xs.length xs) (hm:m ≤ xs.length):k.C w A (xs.take m).length (xs.take m):=by
 have hl:(xs.take m).length=m:=by rw [List.length_take];omega
 refine ⟨rfl,by rw [hl];have:=h.2.1;omega,fun hp=>?_⟩;obtain ⟨ad,e,hc⟩:=h.2.2 (by omega);refine ⟨ad,e,fun j p hj=>hc j p ?_⟩;rw [List.getElem?_take] at hj
 split at hj
 ·exact hj
 ·cases hj
theorem rJ (h:k.C w A xs.length xs) (hm:m ≤ xs.length) (hc:xs.length ≤ c):k.C w (if c=m then A else A.map (·.add (m * k.sz))) (xs.drop m).length (xs.drop m):=by
 have hl:(xs.drop m).length=xs.length - m:=List.length_drop;refine ⟨rfl,by rw [hl];have:=h.2.1;omega,fun hp=>?_⟩;rw [hl] at hp;obtain ⟨ad,rfl,hcell⟩:=h.2.2 (by omega);rw [if_neg (by omega)];refine ⟨ad.add (m * k.sz),rfl,fun j p hj=>?_⟩;rw [List.getElem?_drop] at hj;obtain ⟨cs,h1,h2,h3⟩:=hcell (m + j) p hj;refine ⟨cs,h1,h2,fun i u hu=>?_⟩;rw [add_add,show m * k.sz + (j * k.sz + i)=(m + j) * k.sz + i by rw [Nat.add_mul];omega];exact h3 i u hu
end
end Kd
section
variable {P:Program}
end
theorem Ra {w W:World} (h:Below w.heap.size w W):w.heap.size ≤ W.heap.size:=h.size
theorem Fa {w W w2:World} (h:Below w.heap.size w W) (k:Below W.heap.size W w2):Below w.heap.size w w2:=Np h h.size k
theorem Vf.nil (W:World) (k:IntKind):Vf W k none ([]:List Int).length []:=⟨rfl,by simp,fun h=>absurd h (Nat.lt_irrefl 0)⟩
theorem Vf.drewN {W:World} {k:IntKind} {A:Option Addr} {n:Nat} {xs:List Int} (h:Vf W k A n xs) (m:Nat):Vf (W.drewN m) k A n xs:=h
theorem ya {w W:World} {g j:Nat} {v:Value} (h:Below w.heap.size w W) (hg:w.heap.size ≤ g):Below w.heap.size w (W.setCell ⟨g,j,none⟩ v):=h.setCell hg _
theorem nw {w W:World} {g:Nat} (h:Lf w W g none) {a:Addr} {v:Value} (hc:w.cell? a=some v) (hne:a.block ≠ g):W.cell? a=some v:=by
 have:=h.2 a.block (World.block_lt_of_cell? w a hc) hne (by simp)
 simpa [World.cell?,this] using hc
theorem Aw (a:Addr) (i:Nat):(a.add i).block=a.block:=by unfold Addr.add;split <;> rfl
theorem Kf.nil {α:Type} (enc:α→Value) (d:α) (W:World):Kf enc d W none ([]:List α).length []:=⟨rfl,by simp,fun h=>absurd h (Nat.lt_irrefl 0)⟩
theorem Kf.drewN {α:Type} {enc:α→Value} {d:α} {W:World} {A:Option Addr} {n:Nat} {xs:List α} (h:Kf enc d W A n xs) (m:Nat):Kf enc d (W.drewN m) A n xs:=h
theorem Vf.keep {w W:World} {k:IntKind} {A:Option Addr} {n g:Nat} {xs:List Int} (h:Vf w k A n xs) (hk:Lf w W g none) (hf:∀ ad,A=some ad→0 < n→ad.block ≠ g):Vf W k A n xs :=
 ⟨h.1,h.2.1,fun hn=>by
  obtain ⟨ad,e,hc⟩:=h.2.2 hn
  exact ⟨ad,e,fun j hj=>nw hk (hc j hj) (by rw [Aw];exact hf ad e hn)⟩⟩
theorem Kf.keep {α:Type} {enc:α→Value} {d:α} {w W:World} {A:Option Addr} {n g:Nat} {xs:List α} (h:Kf enc d w A n xs) (hk:Lf w W g none) (hf:∀ ad,A=some ad→0 < n→ad.block ≠ g):Kf enc d W A n xs :=
 ⟨h.1,h.2.1,fun hn=>by
  obtain ⟨ad,e,hc⟩:=h.2.2 hn
  exact ⟨ad,e,fun j hj=>nw hk (hc j hj) (by rw [Aw];exact hf ad e hn)⟩⟩
theorem Td {w:World} {g:Nat} {t:TypeId} {cs cs':Array Value} (h:w.heap[g]? = some (.cells cs t (0,0))) (i:Nat) (u:Value) (e:cs.setIfInBounds i u=cs'):(w.setCell ⟨g,i,none⟩ u).heap[g]? = some (.cells cs' t (0,0)):=e ▸ Jx h i u
theorem ja {base:Nat} {w W:World} (h:Below base w W):Below base w W.drew:=h.drew
namespace Kd
section
variable {α β:Type} {d:Kd α} {d':Kd β} {e e' base base' n:Nat} {ok Wk:Nat→Prop} {w W w1 W1:World} {v u:Value} {xs:List α} {ys:List β} {A:Option Addr} {c:Nat}
end
section
variable {α:Type} {enc:α→Value} {h1:∀ x,(enc x).oneCell' = true} {w W:World} {A:Option Addr} {n g:Nat} {xs:List α}
end
end Kd
namespace Kd
section
variable {α:Type} {d:Kd α} {e base g:Nat} {ok:Nat→Prop} {w w1:World} {v:Value} {xs:List α} {o:Obj}
end
end Kd
section
variable {P:Program} {ops:Array Oper} {rest:List Oper} {o:Oper} {a:Act} {Q:Exit→Act→World→Prop}
theorem Jc {W:World} (hgd:o.guard=none) {N:Tmp} (_hd:o.dst=some N) {cs:Array Value} {t:TypeId}
  (hrun:(execOp a.eval o).run P W = .ok (.value (.pointer (some ⟨W.heap.size,0,none⟩))) (W.alloc (.cells cs t (0,0))))
  (h:∀ g,g=W.heap.size→∀ w1,w1.heap[g]? = some (.cells cs t (0,0))→Below W.heap.size W w1→wpList P ops Q rest (a.put o.dst (.pointer (some ⟨g,0,none⟩))) w1):wpList P ops Q (o :: rest) a W :=
 Kd.tw hgd hrun (h _ rfl _ (si W _) (ia (Below.refl _ _) _))
end
namespace Kd
section
variable {α:Type} {enc:α→Value} {h1:∀ x,(enc x).oneCell' = true} {e base g n cap:Nat} {ok:Nat→Prop} {W:World} {xs:List α}
theorem Yf (d:α) (h:(scalar enc h1).R e W base ok (.slice (some ⟨g,0,none⟩) n cap) xs) (i:Int) (h0:0 ≤ i) (hi:i < n):W.cell? ⟨g,i.toNat,none⟩=some (enc (Tf d xs i))∧W.frozen? ⟨g,i.toNat,none⟩=false:=by
 obtain ⟨rfl,_⟩:=Wa h;exact uQ d h i h0 hi
theorem PI (h:(scalar enc h1).R e W base ok (.slice (some ⟨g,0,none⟩) n cap) xs) (i:Int) (x:α):(scalar enc h1).R e (W.setCell ⟨g,i.toNat,none⟩ (enc x)) base ok (.slice (some ⟨g,0,none⟩) n cap) (xs.set i.toNat x):=by
 obtain ⟨rfl,_⟩:=Wa h;exact (PM h i x).1
end
end Kd
section
variable {P:Program} {ops:Array Oper} {rest:List Oper} {o:Oper} {a:Act} {Q:Exit→Act→World→Prop}
theorem Uc {W w1:World} (hgd:o.guard=none) {t:TypeId} {p:Tmp} {v:Operand} (_ho:o.op = .store t (.tmp p) v) (hN:o.dst=none)
  (hrun:(execOp a.eval o).run P W = .ok .skip w1) (h:∀ w',w' = w1→wpList P ops Q rest a w'):wpList P ops Q (o :: rest) a W:=by
 refine wpList_plain hgd fun K hK=>?_
 unfold Oper.wp;rw [hrun]
 show K (a.put o.dst undef) w1
 rw [hN];exact hK _ _ (h _ rfl)
end
namespace Kd
section
variable {α:Type} {enc:α→Value} {h1:∀ x,(enc x).oneCell' = true} {e base g n cap:Nat} {ok:Nat→Prop} {W:World} {xs:List α}
theorem kj (h:(scalar enc h1).R e W base ok (.slice (some ⟨g,0,none⟩) n cap) xs) (i:Int) (x:α):(scalar enc h1).R e (W.setCell ⟨g,i.toNat,none⟩ (enc x)) base ok (.slice (some ⟨g,0,none⟩) n cap) (xs.set i.toNat x)∧W.grownBy (W.setCell ⟨g,i.toNat,none⟩ (enc x)) (some g):=by
 obtain ⟨rfl,_⟩:=Wa h;exact PM h i x
end
end Kd
section
variable {P:Program} {ops:Array Oper} {rest:List Oper} {o:Oper} {a:Act} {Q:Exit→Act→World→Prop} {W:World}
theorem Lb {N:Tmp} (_hN:o.dst=some N) (h:wpList P ops Q (o :: rest) a W):wpList P ops Q (o :: rest) a W:=h
theorem Od {t:TypeId} {p:Tmp} {v:Operand} (_ho:o.op = .store t (.tmp p) v) (h:wpList P ops Q (o :: rest) a W):wpList P ops Q (o :: rest) a W:=h
end
section
variable {P:Program} {ops:Array Oper} {o:Oper} {a:Act} {Q:Exit→Act→World→Prop} {Kc:Act→World→Prop}
namespace Kd
variable {α:Type}
theorem Tc (d:Kd α) {Rr:α→List Value→Prop} {w0 W:World} (base:Nat) (hw:Region.wanted o (yielded ops a.tmps)=true) (s x:Operand) (t e:TypeId) (z:Value) (bytes:Nat)
  (ho:o.op = .call { callee:=.builtin .append,args:=#[s,x],argTypes:=#[t,t] })
  (ht:P.underlying t=some (.slice e)) (hinfo:(P.info? e).map (fun i=>(i.zero,i.size,i.bytes))=some (some z,d.sz,bytes)) (hz:z.cells.size=d.sz) (hs0:0 < d.sz) (hb0:0 < bytes)
  (v:Value) (xs ys:List α) (A:Option Addr) (m c:Nat) (ok Ag:Nat→Prop) (hs:a.eval s=v) (hx:a.eval x = .slice A m c)
  (HO:d.R e W base ok v xs) (HR:Uf Rr d.sz W A m ys) (U2:∀ x cs,Rr x cs→d.M W base Ag x cs) (uk:∀ k,Ag k→ok k∧some k ≠ v.ownBlock) (ig:∀ k,W.heap.size ≤ k→ok k)
  (HB:Below base w0 W) (hbase:base ≤ W.heap.size) (hl:(xs.length + m) * bytes ≤ 140737488355328)
  (h:∀ v1 w1,d.R e w1 base ok v1 (xs ++ ys)→Below base w0 w1→W.grownBy w1 v.ownBlock→(v1.ownBlock=v.ownBlock ∨ ∃ b,v1.ownBlock=some b∧W.heap.size ≤ b)→Kc (a.put o.dst v1) w1) :
  if Region.wanted o (yielded ops a.tmps)=true then Oper.wp P o a W Kc Q else Kc (a.put o.dst undef) W:=by
 obtain ⟨i0,hi,hzz⟩:=Option.map_eq_some_iff.1 hinfo;simp only [Prod.mk.injEq] at hzz;obtain ⟨hz0,hz1,hz2⟩:=hzz;have hm:ys.length=m:=HR.1;have hlen:xs.length + m ≤ 140737488355328:=Nat.le_trans (Nat.le_mul_of_pos_right _ hb0) hl;obtain ⟨hok,inner,hown,hr⟩:=HO
 have hrun:∃ v1 w1,(Builtin.append_ #[t,t] o.type #[v,.slice A m c]).run P W = .ok v1 w1∧d.R e w1 base ok v1 (xs ++ ys)∧W.grownBy w1 v.ownBlock∧(v1.ownBlock=v.ownBlock ∨ ∃ b,v1.ownBlock=some b∧W.heap.size ≤ b):=by
  rcases A with _|ad
  ·have h0:m=0:=by
    rcases Nat.eq_zero_or_pos m with h0|h0
    ·exact h0
    ·obtain ⟨ad,h,_⟩:=HR.2.2 h0;cases h
   subst h0;obtain rfl:ys=[]:=List.eq_nil_of_length_eq_zero hm;refine ⟨v,W,?_,by rw [List.append_nil];exact ⟨hok,inner,hown,hr⟩,World.grownBy.refl W _,.inl rfl⟩
   rcases hown.2 with ⟨rfl,hn⟩|⟨g,cap,cur,rfl,_,_,hnc,_⟩
   ·simp [Builtin.append_,run_underlying ht,sizeOf,typeInfo,hi,Builtin.lenOf,Builtin.firstCells]
   ·simp [Builtin.append_,run_underlying ht,sizeOf,typeInfo,hi,Builtin.lenOf,Builtin.firstCells,hnc,storeCells]
  ·obtain ⟨news,UZ,hnc⟩:=Uf.JG HR;have AK:Fc (d.M W base Ag) d.sz ys news:=UZ.Lk (fun p c hp=>U2 p c hp)
   have hone:∀ u ∈ news,u.oneCell' = true:=by
    intro u hu;obtain ⟨q,hq,rfl⟩:=List.mem_iff_getElem.1 hu
    have qW:q / d.sz < ys.length:=by
     rw [Nat.div_lt_iff_lt_mul hs0];rw [← AK.1];exact hq
    have hc:=AK.2 (q / d.sz) _ (List.getElem?_eq_getElem qW);refine d.oh (d.we hc) _ ?_;rw [List.mem_iff_getElem?];refine ⟨q % d.sz,?_⟩;rw [List.getElem?_take,if_pos (Nat.mod_lt _ hs0),List.getElem?_drop,Nat.mul_comm,Nat.div_add_mod,List.getElem?_eq_getElem hq]
   obtain ⟨v1,w1,hrun,h2,hg,_,hat⟩:=run_append_own_at (P:=P) W base t o.type e i0 z d.sz bytes ht hi hz0 hz1 hz2 hz hs0 v xs.length inner hown ad m c news (by rw [AK.1,hm]) hnc hone (by simp only [maxLen];omega) hl hbase
   have hat':v1.ownBlock=v.ownBlock ∨ ∃ b,v1.ownBlock=some b∧W.heap.size ≤ b:=by
    rcases hat with hat|hat
    ·exact .inl hat
    ·exact .inr ⟨_,hat,Nat.le_refl _⟩
   have hne:∀ k,some k ≠ v.ownBlock→k < W.heap.size→some k ≠ v1.ownBlock:=by
    intro k hk hlt
    rcases hat' with hat|⟨b,hb,hle⟩
    ·rw [hat];exact hk
    ·rw [hb];intro he;injection he with he
     omega
   have step:∀ {q:α} {c:List Value} {o:Nat→Prop},d.M W base o q c→(∀ k,o k→ok k∧some k ≠ v.ownBlock)→d.M w1 base (fun k=>ok k∧some k ≠ v1.ownBlock) q c:=by
    intro q c o hq ho;have h1:=d.zf (w1:=w1) (fun k hk=>hg.block k hk.2.2.1 (ho k hk.1).2) (d.Ge hq);exact d.xd (fun k hk=>⟨(ho k hk.1).1,hne k (ho k hk.1).2 hk.2.2.1⟩) h1
   refine ⟨v1,w1,hrun,⟨fun k hk=>?_,inner ++ news,by rw [List.length_append,hm];exact h2,Ns (hr.Lk (fun _ _ hq=>step hq (fun _ hk=>hk))) (AK.Lk (fun _ _ hq=>step hq uk))⟩,hg,hat'⟩
   rcases hat' with hat|⟨b,hb,hle⟩
   ·exact hok k (hat ▸ hk)
   ·rw [hb] at hk;injection hk with hk
    exact ig k (by omega)
 obtain ⟨v1,w1,hr1,h1,hg,hat⟩:=hrun;rw [if_pos hw];unfold Oper.wp execOp;simp only [ho,resolve,invoke,builtin,Sem.run_bind,Sem.run_pure,Result.andThen_ok,List.map_toArray,List.map_cons,List.map_nil,hs,hx,hr1];exact h v1 w1 h1 (HB.grown hg hbase (Cn hown)) hg hat
end Kd
end
section
variable {P:Program} {tmps:Array Value} {w:World}
end
namespace Kd
section
variable {P:Program} {α:Type}
end
section
variable {P:Program} {ops:Array Oper} {rest:List Oper} {o:Oper} {a:Act} {Q:Exit→Act→World→Prop} {Kc:Act→World→Prop} {α:Type}
end
end Kd
end Go.Proofs.ua.zb
end
section
namespace Go.Proofs.ua.Lc
section
variable {P:Program} {ops:Array Oper} {Q:Exit→Act→World→Prop} {md:Region.Mode} {S:World→Prop} {ds:List Nat}
def Region.Qj (md:Region.Mode) (ops:Array Oper) (i:Nat):Nat→Nat→Bool
 | 0,_=>false
 | fuel + 1,d=>match ops[d]? with
  | some o=>o.after.any fun e=>Region.binds md e && (e.on == i || Region.Qj md ops i fuel e.on)
  | none=>false
def Region.Wq (md:Region.Mode) (ops:Array Oper) (listed:Array Bool):Bool :=
 (List.range ops.size).all fun j=>!listed.getD j false || match ops[j]? with
  | some o=>o.after.all fun e=>!Region.binds md e || listed.getD e.on false
  | none=>true
def Region.wC (md:Region.Mode) (ops:Array Oper) (listed:Array Bool) (ds:List Nat) (i:Nat):Bool :=
 ds.all fun d=>listed.getD d true || Region.Qj md ops i ops.size d
def Zg (md:Region.Mode) (ops:Array Oper) (listed:Array Bool):Prop :=
 ∀ j oj,ops[j]? = some oj→listed.getD j false=true→∀ e ∈ oj.after,Region.binds md e=true→listed.getD e.on false=true
theorem Region.Hx {listed:Array Bool} (h:Region.Wq md ops listed=true):Zg md ops listed:=by
 intro j oj hj hl e he hb;have hlt:j < ops.size:=(Array.getElem?_eq_some_iff.1 hj).1;have h1:=List.all_eq_true.1 h j (List.mem_range.2 hlt);simp only [hl,hj,Bool.not_true,Bool.false_or] at h1;have h2:=Array.all_eq_true_iff_forall_mem.1 h1 e he
 simpa [hb] using h2
theorem Zg.set {listed:Array Bool} {i:Nat} (h:Zg md ops listed) (hi:i ∈ Region.ready md ops listed):Zg md ops (listed.setIfInBounds i true):=by
 obtain ⟨_,oi,hoi,hall⟩:=mem_ready.1 hi;intro j oj hj hl e he hb
 by_cases hij:i=j
 ·subst hij;have:oj=oi:=Option.some.inj (hj.symm.trans hoi);subst this;exact getD_set_true (hall e he hb)
 ·rw [getD_set_ne false hij] at hl;exact getD_set_true (h j oj hj hl e he hb)
theorem Region.Zp {listed:Array Bool} {i:Nat} (hc:Zg md ops listed):∀ (fuel d:Nat),Region.Qj md ops i fuel d=true→listed.getD d false=true→listed.getD i false=true
 | 0,_,h,_=>by simp [Region.Qj] at h
 | fuel + 1,d,h,hl=>by
  unfold Region.Qj at h;cases ho:ops[d]? with
  | none=>rw [ho] at h;simp at h
  | some o =>
   rw [ho] at h;obtain ⟨e,he,h1⟩:=Array.any_eq_true'.1 h;simp only [Bool.and_eq_true,Bool.or_eq_true,beq_iff_eq] at h1;have hle:=hc d o ho hl e he h1.1
   rcases h1.2 with h2|h2
   ·rw [← h2];exact hle
   ·exact Region.Zp hc fuel e.on h2 hle
theorem Region.vt {listed:Array Bool} {i d fuel:Nat} (hc:Zg md ops listed) (hr:Region.Qj md ops i fuel d=true) (hun:listed.getD i true=false):d ∉ Region.ready md ops listed:=by
 intro hd;obtain ⟨_,o,ho,hall⟩:=mem_ready.1 hd
 have hi:listed.getD i false=true:=by
  cases fuel with
  | zero=>simp [Region.Qj] at hr
  | succ n =>
   unfold Region.Qj at hr;rw [ho] at hr;obtain ⟨e,he,h1⟩:=Array.any_eq_true'.1 hr;simp only [Bool.and_eq_true,Bool.or_eq_true,beq_iff_eq] at h1;have hle:=hall e he h1.1
   rcases h1.2 with h2|h2
   ·rw [← h2];exact hle
   ·exact Region.Zp hc n e.on h2 hle
 rcases Nat.lt_or_ge i listed.size with h'|h'
 ·simp [h'] at hun hi;rw [hun] at hi;cases hi
 ·simp [Array.getElem?_eq_none h'] at hun
def ec (P:Program) (md:Region.Mode) (ops:Array Oper) (Q:Exit→Act→World→Prop) (S:World→Prop) (ds:List Nat):Nat→Array Bool→Act→World→Prop
 | 0,listed,a,w=>Region.ready md ops listed=[]∧Q .normal a w
 | fuel + 1,listed,a,w =>
  (Region.ready md ops listed=[]→Q .normal a w) ∧
  ∀ i ∈ Region.ready md ops listed,wpOp P ops Q i (fun a' w'=>(i ∉ ds→S w→S w')∧ec P md ops Q S ds fuel (listed.setIfInBounds i true) a' w') a w
theorem Vo:∀ (fuel:Nat) (listed:Array Bool) (a:Act) (w:World),ec P md ops Q S ds fuel listed a w→wpAny P md ops Q fuel listed a w
 | 0,_,_,_,h=>h
 | fuel + 1,_,_,_,h=>⟨h.1,fun i hi=>wpOp_mono (fun a' w' h'=>Vo fuel _ a' w' h'.2) (h.2 i hi)⟩
theorem ot {i:Nat} {oi:Oper} {v:Value} (hi:ops[i]? = some oi) (hsel:∀ (j:Nat) (o:Oper) cs b,ops[j]? = some o→o.op ≠ .select cs b)
  (hQ:∀ c a w,Q (.panic c) (a.put oi.dst v) w→Q (.panic c) a w) (n:Nat) :
  ∀ (fuel:Nat) (listed:Array Bool) (a:Act) (w:World),
   (∀ j oj,ops[j]? = some oj→j ≠ i→listed.getD j true=false→(∀ e ∈ oj.after,Region.binds md e=true→e.on ≠ i)→oi.apart ops oj=true) →
   Zg md ops listed→(∀ d ∈ ds,listed.getD d true=false→Region.Qj md ops i n d=true) →
   i ∈ Region.ready md ops listed→YieldsIf P ops S oi v a→S w →
   ec P md ops Q S ds fuel (listed.setIfInBounds i true) (a.put oi.dst v) w→ec P md ops Q S ds (fuel + 1) listed a w:=by
 intro fuel
 induction fuel with
 | zero =>
  intro listed a w _ _ _ hr hy hS H;refine ⟨fun h=>(by rw [h] at hr;cases hr),fun j hj=>?_⟩
  by_cases hji:j=i
  ·subst hji;exact hy.wpOp hi hS ⟨fun _ h=>h,H⟩
  ·have:=ready_mono hj hji;rw [H.1] at this;cases this
 | succ fuel ih =>
  intro listed a w hfree hc hd hr hy hS H;refine ⟨fun h=>(by rw [h] at hr;cases hr),fun j hj=>?_⟩
  by_cases hji:j=i
  ·subst hji;exact hy.wpOp hi hS ⟨fun _ h=>h,H⟩
  ·have h1:=H.2 j (ready_mono hj hji);obtain ⟨qB,oj,KO,hall⟩:=mem_ready.1 hj;have mF:=(mem_ready.1 hr).1
   have hnot:∀ e ∈ oj.after,Region.binds md e=true→e.on ≠ i:=fun e he hb heq=>by
    have h1:=hall e he hb;rw [heq] at h1
    rcases Nat.lt_or_ge i listed.size with h'|h'
    ·simp [h'] at mF h1;rw [mF] at h1;cases h1
    ·simp [Array.getElem?_eq_none h'] at h1
   have hjd:j ∉ ds:=fun hm=>Region.vt hc (hd j hm qB) mF hj
   have h2:=wpOp_putIf KO (hfree j oj KO hji qB hnot) (fun cs b=>hsel i oi cs b hi) (fun cs b=>hsel j oj cs b KO) hQ hy h1
   have rB:∀ k ok,ops[k]? = some ok→k ≠ i→(listed.setIfInBounds j true).getD k true=false →
     (∀ e ∈ ok.after,Region.binds md e=true→e.on ≠ i)→oi.apart ops ok=true:=fun k ok hk hki hun hno=>by
    refine hfree k ok hk hki ?_ hno
    by_cases hjk:j=k
    ·subst hjk;exact qB
    ·rw [getD_set_ne true hjk] at hun;exact hun
   have hd':∀ d ∈ ds,(listed.setIfInBounds j true).getD d true=false→Region.Qj md ops i n d=true:=fun d hm hun=>by
    refine hd d hm ?_
    by_cases hjk:j=d
    ·subst hjk;exact qB
    ·rw [getD_set_ne true hjk] at hun;exact hun
   refine wpOp_mono (fun a' w' h3=>⟨h3.2.1,ih (listed.setIfInBounds j true) a' w' rB (hc.set hj) hd' (ready_mono hr (Ne.symm hji)) h3.1 (h3.2.1 hjd hS) ?_⟩) h2;rw [Array.setIfInBounds_comm _ _ hji];exact h3.2.2
theorem Iv {i:Nat} {oi:Oper} {v:Value} (hi:ops[i]? = some oi) (hsel:∀ (j:Nat) (o:Oper) cs b,ops[j]? = some o→o.op ≠ .select cs b)
  (hQ:∀ c a w,Q (.panic c) (a.put oi.dst v) w→Q (.panic c) a w) :
  ∀ (fuel:Nat) (listed:Array Bool) (a:Act) (w:World),
   (∀ j oj,ops[j]? = some oj→j ≠ i→listed.getD j true=false→(∀ e ∈ oj.after,Region.binds md e=true→e.on ≠ i)→oi.apart ops oj=true) →
   i ∈ Region.ready md ops listed→Yields P ops oi v a →
   ec P md ops Q S ds fuel (listed.setIfInBounds i true) (a.put oi.dst v) w→ec P md ops Q S ds (fuel + 1) listed a w:=by
 intro fuel
 induction fuel with
 | zero =>
  intro listed a w _ hr hy H;refine ⟨fun h=>(by rw [h] at hr;cases hr),fun j hj=>?_⟩
  by_cases hji:j=i
  ·subst hji;exact (hy.yieldsIf (S:=fun _=>True)).wpOp hi trivial ⟨fun _ h=>h,H⟩
  ·have:=ready_mono hj hji;rw [H.1] at this;cases this
 | succ fuel ih =>
  intro listed a w hfree hr hy H;refine ⟨fun h=>(by rw [h] at hr;cases hr),fun j hj=>?_⟩
  by_cases hji:j=i
  ·subst hji;exact (hy.yieldsIf (S:=fun _=>True)).wpOp hi trivial ⟨fun _ h=>h,H⟩
  ·have h1:=H.2 j (ready_mono hj hji);obtain ⟨qB,oj,KO,hall⟩:=mem_ready.1 hj;have mF:=(mem_ready.1 hr).1
   have hnot:∀ e ∈ oj.after,Region.binds md e=true→e.on ≠ i:=fun e he hb heq=>by
    have h1:=hall e he hb;rw [heq] at h1
    rcases Nat.lt_or_ge i listed.size with h'|h'
    ·simp [h'] at mF h1;rw [mF] at h1;cases h1
    ·simp [Array.getElem?_eq_none h'] at h1
   have h2:=wpOp_put KO (hfree j oj KO hji qB hnot) (fun cs b=>hsel i oi cs b hi) (fun cs b=>hsel j oj cs b KO) hQ hy h1
   have rB:∀ k ok,ops[k]? = some ok→k ≠ i→(listed.setIfInBounds j true).getD k true=false →
     (∀ e ∈ ok.after,Region.binds md e=true→e.on ≠ i)→oi.apart ops ok=true:=fun k ok hk hki hun hno=>by
    refine hfree k ok hk hki ?_ hno
    by_cases hjk:j=k
    ·subst hjk;exact qB
    ·rw [getD_set_ne true hjk] at hun;exact hun
   refine wpOp_mono (fun a' w' h3=>⟨h3.2.1,ih (listed.setIfInBounds j true) a' w' rB (ready_mono hr (Ne.symm hji)) h3.1 ?_⟩) h2;rw [Array.setIfInBounds_comm _ _ hji];exact h3.2.2
theorem tu {i:Nat} {oi:Oper} {v:Value} {fuel:Nat} {listed:Array Bool} {a:Act} {w:World} (hi:ops[i]? = some oi)
  (hs:Region.noSelect ops=true) (hf:Region.free md ops listed i=true) (hr:(Region.ready md ops listed).contains i=true)
  (hc:Region.Wq md ops listed=true) (hl:Region.wC md ops listed ds i=true)
  (hQ:∀ c a w,Q (.panic c) (a.put oi.dst v) w→Q (.panic c) a w) (hy:YieldsIf P ops S oi v a) (hS:S w)
  (h:ec P md ops Q S ds fuel (listed.setIfInBounds i true) (a.put oi.dst v) w):ec P md ops Q S ds (fuel + 1) listed a w :=
 ot hi (Region.noSelect_spec hs) hQ ops.size fuel listed a w (Region.free_spec hi hf) (Region.Hx hc)
  (fun d hm hun=>by have:=List.all_eq_true.1 hl d hm;rw [hun] at this;simpa using this) (by simpa using hr) hy hS h
theorem Jv {rs:List Nat} {fuel:Nat} {listed:Array Bool} {a:Act} {w:World} (hr:Region.ready md ops listed=rs) (hne:rs ≠ [])
  (h:∀ i ∈ rs,wpOp P ops Q i (fun a' w'=>(i ∉ ds→S w→S w')∧ec P md ops Q S ds fuel (listed.setIfInBounds i true) a' w') a w):ec P md ops Q S ds (fuel + 1) listed a w :=
 ⟨fun h0=>absurd (hr ▸ h0) hne,hr ▸ h⟩
theorem uu {listed:Array Bool} {a:Act} {w:World} (hr:Region.ready md ops listed=[]) (h:Q .normal a w) :
  ∀ fuel,ec P md ops Q S ds fuel listed a w
 | 0=>⟨hr,h⟩
 | _ + 1=>⟨fun _=>h,by rw [hr];simp⟩
theorem su {id:Nat} {a:Act} {w:World} (hm:P.follows .mixedOrders=true)
  (h:ec P .any ops Q S ds ops.size (Array.replicate ops.size false) a { w with drawn:=w.drawn + 1 }):(Code.region id ops true).wp P Q a w :=
 wp_region_any hm (Vo _ _ _ _ h)
end
section
variable {P:Program} {ops:Array Oper} {Q:Exit→Act→World→Prop} {md:Region.Mode} {S:World→Prop} {ds:List Nat}
def qf (P:Program) (md:Region.Mode) (ops:Array Oper) (Q:Exit→Act→World→Prop) (S:World→Prop) (ds:List Nat) (fuel:Nat) (listed:Array Bool) (a:Act) (w:World) (rs:List Nat):Prop :=
 ∀ i ∈ rs,wpOp P ops Q i (fun a' w'=>(i ∉ ds→S w→S w')∧ec P md ops Q S ds fuel (listed.setIfInBounds i true) a' w') a w
theorem qf.nil {fuel:Nat} {listed:Array Bool} {a:Act} {w:World}:qf P md ops Q S ds fuel listed a w []:=fun _ h=>by cases h
theorem qf.cons {fuel:Nat} {listed:Array Bool} {a:Act} {w:World} {i:Nat} {o:Oper} {rs:List Nat} (ho:ops[i]? = some o) (hd:i ∉ ds)
  (h:∀ K':Act→World→Prop,Shut (∀ a w,S w→(S w→ec P md ops Q S ds fuel (listed.setIfInBounds i true) a w)→K' a w)→if Region.wanted o (yielded ops a.tmps)=true then Oper.wp P o a w K' Q else K' (a.put o.dst undef) w)
  (hs:qf P md ops Q S ds fuel listed a w rs):qf P md ops Q S ds fuel listed a w (i :: rs):=fun j hj=>by
 rcases List.mem_cons.1 hj with rfl|hj
 ·exact wpOp_step ho (fun K' hK=>h K' (fun a w hS hW=>hK a w ⟨fun _ _=>hS,hW hS⟩))
 ·exact hs j hj
theorem qf.sF {fuel:Nat} {listed:Array Bool} {a:Act} {w:World} {i:Nat} {o:Oper} {rs:List Nat} (ho:ops[i]? = some o) (hd:i ∈ ds)
  (h:∀ K':Act→World→Prop,Shut (∀ a w,ec P md ops Q S ds fuel (listed.setIfInBounds i true) a w→K' a w)→if Region.wanted o (yielded ops a.tmps)=true then Oper.wp P o a w K' Q else K' (a.put o.dst undef) w)
  (hs:qf P md ops Q S ds fuel listed a w rs):qf P md ops Q S ds fuel listed a w (i :: rs):=fun j hj=>by
 rcases List.mem_cons.1 hj with rfl|hj
 ·exact wpOp_step ho (fun K' hK=>h K' (fun a w hW=>hK a w ⟨fun hn=>absurd hd hn,hW⟩))
 ·exact hs j hj
theorem Oj {rs:List Nat} {fuel:Nat} {listed:Array Bool} {a:Act} {w:World} (hr:Region.ready md ops listed=rs) (hne:rs ≠ [])
  (h:qf P md ops Q S ds fuel listed a w rs):ec P md ops Q S ds (fuel + 1) listed a w:=Jv hr hne h
theorem Pj {id n:Nat} {a:Act} {w:World} (l:Array Bool) (hm:P.follows .mixedOrders=true) (hn:ops.size=n) (hl:Array.replicate n false=l) (hS:S w.drew)
  (h:S w.drew→ec P .any ops Q S ds n l a w.drew):(Code.region id ops true).wp P Q a w:=by
 subst hn;subst hl;exact su hm (h hS)
def Cy (md:Region.Mode) (ops:Array Oper) (ds:List Nat) (l l':Array Bool) (i:Nat):Bool :=
 Region.noSelect ops && Region.free md ops l i && (Region.ready md ops l).contains i && Region.Wq md ops l && Region.wC md ops l ds i && (l.setIfInBounds i true == l')
theorem ah {i:Nat} {N:Option Tmp} {oi:Oper} {v:Value} {fuel:Nat} {l:Array Bool} {a:Act} {w:World} (l':Array Bool) (hi:ops[i]? = some oi) (hN:oi.dst=N) (hc:Cy md ops ds l l' i=true)
  (hQ:∀ c a w,Q (.panic c) (a.put oi.dst v) w→Q (.panic c) a w) (hy:YieldsIf P ops S oi v a) (hS:S w) {a':Act} (ha:a.put N v=a')
  (h:ec P md ops Q S ds fuel l' a' w):ec P md ops Q S ds (fuel + 1) l a w:=by
 subst ha;subst hN;simp only [Cy,Bool.and_eq_true,beq_iff_eq] at hc;obtain ⟨⟨⟨⟨⟨h1,h2⟩,h3⟩,h4⟩,h5⟩,h6⟩:=hc;subst h6;exact tu hi h1 h2 h3 h4 h5 hQ hy hS h
def ZK (md:Region.Mode) (ops:Array Oper) (l l':Array Bool) (i:Nat):Bool :=
 Region.noSelect ops && Region.free md ops l i && (Region.ready md ops l).contains i && (l.setIfInBounds i true == l')
theorem Dc {i:Nat} {N:Option Tmp} {oi:Oper} {v:Value} {fuel:Nat} {l:Array Bool} {a:Act} {w:World} (l':Array Bool) (hi:ops[i]? = some oi) (hN:oi.dst=N) (hc:ZK md ops l l' i=true)
  (hQ:∀ c a w,Q (.panic c) (a.put oi.dst v) w→Q (.panic c) a w) (hy:Yields P ops oi v a) {a':Act} (ha:a.put N v=a')
  (h:ec P md ops Q S ds fuel l' a' w):ec P md ops Q S ds (fuel + 1) l a w:=by
 subst ha;subst hN;simp only [ZK,Bool.and_eq_true,beq_iff_eq] at hc;obtain ⟨⟨⟨h1,h2⟩,h3⟩,h6⟩:=hc;subst h6;exact Iv hi (Region.noSelect_spec h1) hQ fuel l a w (Region.free_spec hi h2) (by simpa using h3) hy h
def tr (md:Region.Mode) (ops:Array Oper) (l l':Array Bool) (i:Nat):Bool:=(Region.ready md ops l == [i]) && (l.setIfInBounds i true == l')
theorem dn {i:Nat} {N:Option Tmp} {oi:Oper} {fuel:Nat} {l:Array Bool} {a:Act} {w:World} (l':Array Bool) (hi:ops[i]? = some oi) (hN:oi.dst=N) (hc:tr md ops l l' i=true) (hd:i ∉ ds)
  (h:∀ K:Act→World→Prop,Shut (∀ a' w',S w'→(S w'→ec P md ops Q S ds fuel l' a' w')→K a' w')→if Region.wanted oi (yielded ops a.tmps)=true then Oper.wp P oi a w K Q else K (a.put N undef) w) :
  ec P md ops Q S ds (fuel + 1) l a w:=by
 subst hN;simp only [tr,Bool.and_eq_true,beq_iff_eq] at hc;obtain ⟨h1,h2⟩:=hc;subst h2;exact Oj h1 (by simp) (qf.cons hi hd (fun K hK=>h K hK) qf.nil)
theorem Ts {i:Nat} {N:Option Tmp} {oi:Oper} {fuel:Nat} {l:Array Bool} {a:Act} {w:World} (l':Array Bool) (hi:ops[i]? = some oi) (hN:oi.dst=N) (hc:tr md ops l l' i=true) (hd:i ∈ ds)
  (h:∀ K:Act→World→Prop,Shut (∀ a' w',ec P md ops Q S ds fuel l' a' w'→K a' w')→if Region.wanted oi (yielded ops a.tmps)=true then Oper.wp P oi a w K Q else K (a.put N undef) w) :
  ec P md ops Q S ds (fuel + 1) l a w:=by
 subst hN;simp only [tr,Bool.and_eq_true,beq_iff_eq] at hc;obtain ⟨h1,h2⟩:=hc;subst h2;exact Oj h1 (by simp) (qf.sF hi hd (fun K hK=>h K hK) qf.nil)
theorem Ym {l:Array Bool} {a:Act} {w:World} {n:Nat} (hr:(Region.ready md ops l == [])=true) (h:Q .normal a w):ec P md ops Q S ds n l a w:=uu (by simpa using hr) h n
theorem QJ {i j:Nat} {Ni Nj:Option Tmp} {oi oj:Oper} {fuel:Nat} {l:Array Bool} {a:Act} {w:World} (li lj:Array Bool) (hi:ops[i]? = some oi) (hj:ops[j]? = some oj) (hNi:oi.dst=Ni) (hNj:oj.dst=Nj)
  (hc:(Region.ready md ops l == [i,j] && l.setIfInBounds i true == li && l.setIfInBounds j true == lj)=true) (hdi:i ∉ ds) (hdj:j ∉ ds)
  (h1:∀ K:Act→World→Prop,Shut (∀ a' w',S w'→(S w'→ec P md ops Q S ds fuel li a' w')→K a' w')→if Region.wanted oi (yielded ops a.tmps)=true then Oper.wp P oi a w K Q else K (a.put Ni undef) w)
  (h2:∀ K:Act→World→Prop,Shut (∀ a' w',S w'→(S w'→ec P md ops Q S ds fuel lj a' w')→K a' w')→if Region.wanted oj (yielded ops a.tmps)=true then Oper.wp P oj a w K Q else K (a.put Nj undef) w) :
  ec P md ops Q S ds (fuel + 1) l a w:=by
 subst hNi;subst hNj;simp only [Bool.and_eq_true,beq_iff_eq] at hc;obtain ⟨⟨h3,h4⟩,h5⟩:=hc;subst h4;subst h5;exact Oj h3 (by simp) (qf.cons hi hdi (fun K hK=>h1 K hK) (qf.cons hj hdj (fun K hK=>h2 K hK) qf.nil))
def Jk:Act→List (Tmp × Value)→Act
 | a,[]=>a
 | a,(n,v) :: r=>Jk (a.put (some n) v) r
theorem TL {σ:Type} {fuel:Nat} {l:Array Bool} {a:Act} {w:World} (fuel':Nat) (l':Array Bool) (ns:σ→List (Tmp × Value)) (F:σ→World→Prop)
  (JS:∀ s w',F s w'→ec P md ops Q S ds fuel' l' (Jk a (ns s)) w')
  (h:(∀ s w',F s w'→ec P md ops Q S ds fuel' l' (Jk a (ns s)) w')→ec P md ops Q S ds fuel l a w):ec P md ops Q S ds fuel l a w:=h JS
theorem Ze {fuel:Nat} {l:Array Bool} {a a':Act} {w:World} (ha:a=a') (h:ec P md ops Q S ds fuel l a' w):ec P md ops Q S ds fuel l a w:=by
 subst ha;exact h
theorem vT {oi:Oper} {N:Option Tmp} {a:Act} {w:World} {K:Act→World→Prop} (f:FuncId) (args:Array Value) (hw:Region.wanted oi (yielded ops a.tmps)=true) (hN:oi.dst=N) (hrun:(execOp a.eval oi).run P w = .ok (.enter f args) w)
  (h:Calls P f args w fun e w'=>∃ v,e = .returned v∧K (a.put N v) w'):if Region.wanted oi (yielded ops a.tmps)=true then Oper.wp P oi a w K Q else K (a.put N undef) w:=by
 rw [if_pos hw];subst hN;unfold Oper.wp;rw [hrun,Oper.upon_enter];refine h.mono fun e w'' hh=>?_
 obtain ⟨v,rfl,hk⟩:=hh;exact hk
theorem SD {f:FuncId} {fn:Func} (hf:P.funcs[f]? = some fn) (hname:(fn.name == "runtime.NumGoroutine")=false) (hb:fn.body.isSome=true) (args:Array Value) (w:World):(callFunc f args).run P w = .ok (.enter f args) w:=by
 have h1:fn.name ≠ "runtime.NumGoroutine" := by simpa using hname
 obtain ⟨c,hc⟩:=Option.isSome_iff_exists.1 hb;simp [callFunc,hf,h1,hc]
theorem Oq {oi:Oper} {N:Option Tmp} {a:Act} {w:World} {K:Act→World→Prop} {f:FuncId} {fn:Func} {as:Array Operand} {ts:Array TypeId} (hf:P.funcs[f]? = some fn) (hname:(fn.name == "runtime.NumGoroutine")=false) (hb:fn.body.isSome=true) (args:Array Value)
  (hw:Region.wanted oi (yielded ops a.tmps)=true) (hN:oi.dst=N) (hop:oi.op = .call { callee:=.value (.func f),args:=as,argTypes:=ts }) (hargs:as.map a.eval=args)
  (h:Calls P f args w fun e w'=>∃ v,e = .returned v∧K (a.put N v) w'):if Region.wanted oi (yielded ops a.tmps)=true then Oper.wp P oi a w K Q else K (a.put N undef) w:=by
 refine vT f args hw hN ?_ h;have he:=SD hf hname hb args w;unfold execOp;simp [hop,resolve,Deferred.ofValue,invoke,Act.eval,hargs,he]
theorem Ke {rest:List Oper} {oi:Oper} {a:Act} {w:World} (N:Option Tmp) (hd:oi.dst=N) (hg:oi.guard=none) {f:FuncId} {fn:Func} {as:Array Operand} {ts:Array TypeId} (hf:P.funcs[f]? = some fn) (hname:(fn.name == "runtime.NumGoroutine")=false) (hb:fn.body.isSome=true) (args:Array Value)
  (hop:oi.op = .call { callee:=.value (.func f),args:=as,argTypes:=ts }) (hargs:as.map a.eval=args)
  (h:Calls P f args w fun e w'=>∃ v,e = .returned v∧wpList P ops Q rest (a.put N v) w'):wpList P ops Q (oi :: rest) a w:=by
 refine wpList_plain hg fun K hK=>?_
 have he:=SD hf hname hb args w
 have hrun:(execOp a.eval oi).run P w = .ok (.enter f args) w:=by
  unfold execOp;simp [hop,resolve,Deferred.ofValue,invoke,Act.eval,hargs,he]
 unfold Oper.wp;rw [hrun,Oper.upon_enter];refine h.mono fun e w'' hh=>?_
 obtain ⟨v,rfl,hk⟩:=hh;subst hd;exact hK _ _ hk
theorem Dk {oi:Oper} {N:Option Tmp} {a:Act} {w w1:World} {v:Value} {K:Act→World→Prop} (hw:Region.wanted oi (yielded ops a.tmps)=true) (hN:oi.dst=N) (hrun:(execOp a.eval oi).run P w = .ok (.value v) w1)
  (h:K (a.put N v) w1):if Region.wanted oi (yielded ops a.tmps)=true then Oper.wp P oi a w K Q else K (a.put N undef) w:=by
 rw [if_pos hw];subst hN;unfold Oper.wp;rw [hrun];exact h
theorem eG {oi:Oper} {a:Act} {w w1:World} {K:Act→World→Prop} (hw:Region.wanted oi (yielded ops a.tmps)=true) (hN:oi.dst=none) (hrun:(execOp a.eval oi).run P w = .ok .skip w1)
  (h:K a w1):if Region.wanted oi (yielded ops a.tmps)=true then Oper.wp P oi a w K Q else K (a.put none undef) w:=by
 rw [if_pos hw];unfold Oper.wp;rw [hrun]
 show K (a.put oi.dst undef) w1
 rw [hN];exact h
theorem Eb (n:Int):IntKind.i64.wrap n=Go.RowKit.wrap64 n:=by unfold Go.RowKit.wrap64;exact IntKind.wrap_i64 n
theorem Fb (n:Int):IntKind.i32.wrap n=Go.RowKit.wrap32 n:=by unfold Go.RowKit.wrap32;exact IntKind.wrap_i32 n
end
end Go.Proofs.ua.Lc
end
section
namespace Go.Proofs.ua.Lc
open Go.Proofs.ua.zb (aa)
def yo (md:Region.Mode) (o:Oper):List Nat:=(o.after.toList.filter (fun e=>Region.binds md e)).map (fun e=>e.on)
def Ix (md:Region.Mode) (ops:Array Oper) (i:Nat) (oi:Oper):List Nat:=(List.range ops.size).filter fun j=>!(j == i) && match ops[j]? with
 | some oj=>!(oj.after.any (fun e=>Region.binds md e && e.on == i) || oi.apart ops oj)
 | none=>false
def Ik (md:Region.Mode) (ops:Array Oper):Bool × List (List Nat × List Nat):=(Region.noSelect ops,(List.range ops.size).map fun i=>match ops[i]? with
 | some o=>(yo md o,Ix md ops i o)
 | none=>([],[]))
def gl (T:List (List Nat × List Nat)) (l:List Bool) (i:Nat):Bool:=!l.getD i true && match T[i]? with
 | some r=>r.1.all (fun j=>l.getD j false)
 | none=>false
def yu (T:List (List Nat × List Nat)) (l:List Bool):List Nat:=(List.range T.length).filter (gl T l)
def Fz (T:List (List Nat × List Nat)) (l:List Bool) (i:Nat):Bool:=match T[i]? with
 | some r=>r.2.all (fun j=>l.getD j true)
 | none=>false
def ku (T:List (List Nat × List Nat)) (l:List Bool):Bool:=(List.range T.length).all fun j=>!l.getD j false || match T[j]? with
 | some r=>r.1.all (fun k=>l.getD k false)
 | none=>true
def ur (T:List (List Nat × List Nat)) (i:Nat):Nat→Nat→Bool
 | 0,_=>false
 | fuel + 1,d=>match T[d]? with
  | some r=>r.1.any fun j=>j == i || ur T i fuel j
  | none=>false
def vC (T:List (List Nat × List Nat)) (l:List Bool) (ds:List Nat) (i:Nat):Bool:=ds.all fun d=>l.getD d true || ur T i T.length d
section
variable {md:Region.Mode} {ops:Array Oper} {T:Bool × List (List Nat × List Nat)} {l l' li lj lk:Array Bool} {ds:List Nat} {i j k:Nat}
theorem gd (l:Array Bool) (j:Nat) (b:Bool):l.getD j b=l.toList.getD j b:=by simp [Array.getD_eq_getD_getElem?,List.getD_eq_getElem?_getD]
theorem mw (o:Oper) (p:Nat→Bool):o.after.all (fun e=>!Region.binds md e || p e.on)=(yo md o).all p:=by
 unfold yo;rw [← Array.all_toList]
 induction o.after.toList with
 | nil=>rfl
 | cons e r ih =>
  rw [List.all_cons,ih,List.filter_cons];cases h:Region.binds md e <;> simp
theorem QE (o:Oper) (p:Nat→Bool):o.after.any (fun e=>Region.binds md e && p e.on)=(yo md o).any p:=by
 unfold yo;rw [← Array.any_toList]
 induction o.after.toList with
 | nil=>rfl
 | cons e r ih =>
  rw [List.any_cons,ih,List.filter_cons];cases h:Region.binds md e <;> simp
theorem fl:(Ik md ops).2.length=ops.size:=by simp [Ik]
theorem qo {o:Oper} (h:ops[i]? = some o):(Ik md ops).2[i]? = some (yo md o,Ix md ops i o):=by
 have hi:=(Array.getElem?_eq_some_iff.1 h).1;unfold Ik;rw [List.getElem?_map,List.getElem?_range hi,Option.map_some,h]
theorem uo (h:ops[i]? = none):(Ik md ops).2[i]? = none:=by
 have hi:ops.size ≤ i:=Array.getElem?_eq_none_iff.1 h;exact List.getElem?_eq_none (by rw [fl];exact hi)
theorem TA:gl (Ik md ops).2 l.toList i=(!l.getD i true && ((ops[i]?).map (·.after.all fun e=>!Region.binds md e || l.getD e.on false)).getD false):=by
 unfold gl;rw [gd];cases h:ops[i]? with
 | none=>rw [uo h];rfl
 | some o =>
  rw [qo h];simp only [Option.map_some,Option.getD_some];rw [← mw];simp only [gd]
theorem xu:Region.ready md ops l=yu (Ik md ops).2 l.toList:=by
 unfold Region.ready yu;rw [fl];refine List.filter_congr (fun i _=>?_);rw [TA]
theorem RD:Region.free md ops l i=Fz (Ik md ops).2 l.toList i:=by
 unfold Region.free Fz;cases h:ops[i]? with
 | none=>rw [uo h]
 | some oi =>
  rw [qo h];simp only [Ix];rw [List.all_filter]
  congr 1
  funext j
  rw [gd];cases hj:ops[j]? with
  | none=>cases (j == i) <;> cases (l.toList.getD j true) <;> simp
  | some oj =>
   cases (j == i) <;> cases (l.toList.getD j true) <;> cases (oj.after.any (fun e=>Region.binds md e && e.on == i) || oi.apart ops oj) <;> simp_all
theorem xF:Region.Wq md ops l=ku (Ik md ops).2 l.toList:=by
 unfold Region.Wq ku;rw [fl]
 congr 1
 funext j
 rw [gd];cases h:ops[j]? with
 | none=>rw [uo h]
 | some o =>
  rw [qo h];simp only;rw [← mw];simp only [gd]
theorem My:∀ (fuel d:Nat),Region.Qj md ops i fuel d=ur (Ik md ops).2 i fuel d
 | 0,_=>rfl
 | fuel + 1,d=>by
  unfold Region.Qj ur;cases h:ops[d]? with
  | none=>rw [uo h]
  | some o =>
   rw [qo h];simp only;rw [← QE]
   congr 1
   funext e
   rw [My fuel]
theorem sK:Region.wC md ops l ds i=vC (Ik md ops).2 l.toList ds i:=by
 unfold Region.wC vC;rw [fl]
 congr 1
 funext d
 rw [gd,My]
theorem Qs (h:gl T.2 l.toList i=true) (hT:Ik md ops=T):(Region.ready md ops l).contains i=true:=by
 subst hT;rw [xu];unfold yu;rw [List.contains_iff_mem,List.mem_filter,List.mem_range];refine ⟨?_,h⟩;unfold gl at h;rw [Bool.and_eq_true] at h;cases hq:(Ik md ops).2[i]? with
 | none=>rw [hq] at h;simp at h
 | some r=>exact (List.getElem?_eq_some_iff.1 hq).1
theorem PA (h:(l.toList.set i true == l'.toList)=true):(l.setIfInBounds i true == l')=true:=by
 rw [beq_iff_eq] at h ⊢;apply Array.ext';rw [Array.toList_setIfInBounds];exact h
def cU (T:Bool × List (List Nat × List Nat)) (l l':List Bool) (i:Nat):Bool:=T.1 && Fz T.2 l i && gl T.2 l i && (l.set i true == l')
theorem sg (hT:Ik md ops=T) (h:cU T l.toList l'.toList i=true):ZK md ops l l' i=true:=by
 simp only [cU,Bool.and_eq_true] at h;obtain ⟨⟨⟨h1,h2⟩,h3⟩,h4⟩:=h;have h5:=Qs h3 hT;have h6:=PA h4;subst hT;simp only [ZK,Bool.and_eq_true];exact ⟨⟨⟨h1,by rw [RD];exact h2⟩,h5⟩,h6⟩
def cG (T:Bool × List (List Nat × List Nat)) (ds:List Nat) (l l':List Bool) (i:Nat):Bool:=T.1 && Fz T.2 l i && gl T.2 l i && ku T.2 l && vC T.2 l ds i && (l.set i true == l')
theorem RJ (hT:Ik md ops=T) (h:cG T ds l.toList l'.toList i=true):Cy md ops ds l l' i=true:=by
 simp only [cG,Bool.and_eq_true] at h;obtain ⟨⟨⟨⟨⟨h1,h2⟩,h3⟩,h4⟩,h5⟩,h6⟩:=h;have h7:=Qs h3 hT;have h8:=PA h6;subst hT;simp only [Cy,Bool.and_eq_true];exact ⟨⟨⟨⟨⟨h1,by rw [RD];exact h2⟩,h7⟩,by rw [xF];exact h4⟩,by rw [sK];exact h5⟩,h8⟩
theorem Lw (hT:Ik md ops=T) (h:(yu T.2 l.toList == [i] && l.toList.set i true == l'.toList)=true):tr md ops l l' i=true:=by
 simp only [Bool.and_eq_true] at h;obtain ⟨h1,h2⟩:=h;subst hT;simp only [tr,Bool.and_eq_true];exact ⟨by rw [xu];exact h1,PA h2⟩
theorem Fx (hT:Ik md ops=T) (h:(yu T.2 l.toList == [])=true):(Region.ready md ops l == [])=true:=by
 subst hT;rw [xu];exact h
def LN (B:List Nat) (d:Nat):List Nat→Nat
 | []=>0
 | n :: r=>(2 ^ n ||| (if n < d then B.getD n 0 else 0)) ||| LN B d r
def Yl (T:List (List Nat × List Nat)) (B:List Nat):Bool:=(List.range T.length).all fun d=>match T[d]? with
 | some r=>(B.getD d 0 ||| LN B d r.1) == LN B d r.1
 | none=>false
theorem rC {B:List Nat} {d i:Nat}:∀ {ns:List Nat},(LN B d ns).testBit i=true→∃ n ∈ ns,n=i ∨ (n < d∧(B.getD n 0).testBit i=true)
 | [],h=>by simp [LN] at h
 | n :: r,h=>by
  unfold LN at h;rw [Nat.testBit_or,Nat.testBit_or,Bool.or_eq_true,Bool.or_eq_true] at h
  rcases h with (h|h)|h
  ·rw [Nat.testBit_two_pow] at h;exact ⟨n,List.mem_cons_self,.inl (by simpa using h)⟩
  ·by_cases hn:n < d
   ·rw [if_pos hn] at h;exact ⟨n,List.mem_cons_self,.inr ⟨hn,h⟩⟩
   ·rw [if_neg hn] at h;simp at h
  ·obtain ⟨m,hm,h2⟩:=rC h;exact ⟨m,List.mem_cons_of_mem _ hm,h2⟩
theorem jw {T:List (List Nat × List Nat)} {B:List Nat} (hB:Yl T B=true):∀ (fuel d:Nat),d < fuel→d < T.length→(B.getD d 0).testBit i=true→ur T i fuel d=true
 | 0,d,h,_,_=>by omega
 | fuel + 1,d,h,hd,hb=>by
  have h1:=List.all_eq_true.1 hB d (List.mem_range.2 hd);cases hr:T[d]? with
  | none=>rw [hr] at h1;simp at h1
  | some r =>
   rw [hr] at h1;simp only [beq_iff_eq] at h1;have h2:(LN B d r.1).testBit i=true:=by rw [← h1,Nat.testBit_or,hb,Bool.true_or]
   obtain ⟨n,hn,h3⟩:=rC h2;unfold ur;rw [hr];simp only;rw [List.any_eq_true];refine ⟨n,hn,?_⟩
   rcases h3 with rfl|⟨h4,h5⟩
   ·simp
   ·rw [jw hB fuel n (by omega) (by omega) h5,Bool.or_true]
def SL (T:List (List Nat × List Nat)) (B:List Nat) (l:List Bool) (ds:List Nat) (i:Nat):Bool:=ds.all fun d=>l.getD d true || (decide (d < T.length) && (B.getD d 0).testBit i)
def OL (T:Bool × List (List Nat × List Nat)) (B:List Nat) (ds:List Nat) (l l':List Bool) (i:Nat):Bool:=T.1 && Fz T.2 l i && gl T.2 l i && ku T.2 l && SL T.2 B l ds i && (l.set i true == l')
theorem Aj {B:List Nat} (hT:Ik md ops=T) (hB:Yl T.2 B=true) (h:OL T B ds l.toList l'.toList i=true):Cy md ops ds l l' i=true:=by
 refine RJ hT ?_;simp only [OL,cG,Bool.and_eq_true] at h ⊢;obtain ⟨⟨⟨⟨⟨h1,h2⟩,h3⟩,h4⟩,h5⟩,h6⟩:=h;refine ⟨⟨⟨⟨⟨h1,h2⟩,h3⟩,h4⟩,?_⟩,h6⟩;unfold SL at h5;unfold vC;rw [List.all_eq_true] at h5 ⊢;intro d hd;have h7:=h5 d hd;rw [Bool.or_eq_true,Bool.and_eq_true,decide_eq_true_eq] at h7
 rcases h7 with h7|⟨h8,h9⟩
 ·rw [h7,Bool.true_or]
 ·rw [jw hB _ d h8 h8 h9,Bool.or_true]
theorem ir {P:Program} {Q:Exit→Act→World→Prop} {S:World→Prop} {n:Nat} {a:Act} {w:World} {B:List Nat} (hT:Ik md ops=T) (hB:Yl T.2 B=true) (h:aa (Ik md ops=T)→aa (Yl T.2 B=true)→ec P md ops Q S ds n l a w):ec P md ops Q S ds n l a w:=h ⟨hT⟩ ⟨hB⟩
end
def bp:Code→Nat→Option (Array Oper)
 | .region id ops _,k=>if id == k then some ops else none
 | .seq a b,k=>match bp a k with
  | some o=>some o
  | none=>bp b k
 | .cond _ a b,k=>match bp a k with
  | some o=>some o
  | none=>bp b k
 | .block _ c,k=>bp c k
 | .loop c,k=>bp c k
 | .scope c,k=>bp c k
 | .rangeFunc _ _ a b,k=>match bp a k with
  | some o=>some o
  | none=>bp b k
 | _,_=>none
def opsOf (f:Func) (k:Nat):Array Oper:=((f.body.bind fun c=>bp c k)).getD #[]
end Go.Proofs.ua.Lc
end
section
namespace Go.Proofs.ua.Lc
section
variable {P:Program} {ops:Array Oper} {Q:Exit→Act→World→Prop} {md:Region.Mode} {S:World→Prop} {ds:List Nat} {T:Bool × List (List Nat × List Nat)}
end
end Go.Proofs.ua.Lc
end
section
namespace Go.Proofs.ua.zb
open Go.RowKit
namespace Kd
section
variable {α:Type} {d:Kd α} {e base g o n cap:Nat} {ok Ag:Nat→Prop} {w W:World} {v:Value} {xs:List α}
end
section
variable {α:Type} {enc:α→Value} {h1:∀ x,(enc x).oneCell' = true} {e base g o n cap:Nat} {ok:Nat→Prop} {W:World} {xs:List α}
end
end Kd
end Go.Proofs.ua.zb
end
