import Derived.Test.YtkigbdceceeenaaQSpilled1
import Derived.Test.YtkigbdceceeenaaQSpilled7
import Derived.Shelf.Abstract
import Derived.Test.YtkigbdceceeenaaQSpilled3
import Derived.Test.YtkigbdceceeenaaQSpilled2
import Derived.Test.YtkigbdceceeenaaQSpilled4
set_option maxHeartbeats 8000000
set_option maxRecDepth 100000
section
namespace Go.Proofs.Ytkigbdceceeenaa.P
open Go.RowKit Go.Proofs.Ma.Wb Go.Proofs.Ma.Jd Go.Proofs.Ma.Fe
set_option linter.unusedVariables false
set_option linter.unusedSimpArgs false
def Og (x:Le):List Int :=
 if x.f0=1 ∨ x.f0=6 then [x.f2] else if x.f0=2 then [x.f2,x.f3] else if x.f0=3 ∨ x.f0=4 then [x.f3] ++ (if 0 ≤ x.f2 then [x.f2] else []) ++ (if x.f0=4 then [x.f4] else []) else []
def Xm (x:Le):Int:=if x.f0=4 then -1 else if x.f0=6 then -1 else x.f1
def Wt (n:Nat) (x:Le):Prop:=(∀ u ∈ Og x,0 ≤ u∧u < (n:Int))∧(¬ x.f0=4→¬ x.f0=6→0 ≤ x.f1∧x.f1 < (n:Int))
theorem Vt (x:Le):(Og x).length ≤ 3:=by
 unfold Og
 by_cases h1:x.f0=1 ∨ x.f0=6
 ·rw [if_pos h1];simp
 ·rw [if_neg h1]
  by_cases h2:x.f0=2
  ·rw [if_pos h2];simp
  ·rw [if_neg h2]
   by_cases h3:x.f0=3 ∨ x.f0=4
   ·rw [if_pos h3]
    by_cases h4:0 ≤ x.f2
    ·rw [if_pos h4]
     by_cases h5:x.f0=4
     ·rw [if_pos h5];simp
     ·rw [if_neg h5];simp
    ·rw [if_neg h4]
     by_cases h5:x.f0=4
     ·rw [if_pos h5];simp
     ·rw [if_neg h5];simp
   ·rw [if_neg h3];simp
def Vg (s:List Bool) (u:Int):List Bool:=s.set u.toNat true
def vo (s:List Bool) (x:Le):List Bool:=(Og x).foldl Vg (if Xm x ≥ 0 then s.set (Xm x).toNat false else s)
def Ei (b:He) (s:List Bool):List Bool:=if b.f1=0 then s else s.set b.f2.toNat true
def QC (b:He) (s:List Bool):List Bool:=b.f0.foldr (fun x s=>vo s x) (Ei b s)
theorem Si:∀ (l:List Int) (s:List Bool),(l.foldl Vg s).length=s.length
 | [],_=>rfl
 | u :: l,s=>by rw [List.foldl_cons,Si l];unfold Vg;rw [List.length_set]
theorem iV (s:List Bool) (x:Le):(vo s x).length=s.length:=by
 unfold vo;rw [Si]
 by_cases h:Xm x ≥ 0
 ·rw [if_pos h,List.length_set]
 ·rw [if_neg h]
theorem xm (b:He) (s:List Bool):(Ei b s).length=s.length:=by
 unfold Ei
 by_cases h:b.f1=0
 ·rw [if_pos h]
 ·rw [if_neg h,List.length_set]
theorem vC (l:List Le) (s:List Bool):(l.foldr (fun x s=>vo s x) s).length=s.length:=by
 induction l with
 | nil=>rfl
 | cons x l ih=>rw [List.foldr_cons,iV,ih]
theorem Es (b:He) (s:List Bool):(QC b s).length=s.length:=by
 unfold QC;rw [vC,xm]
theorem Nj {s:List Bool} {i j:Nat} {b:Bool} (hi:i < s.length):seen (s.set i b) j=if i=j then b else seen s j:=by
 unfold seen;rw [List.getD_eq_getElem?_getD,List.getD_eq_getElem?_getD,List.getElem?_set]
 by_cases h:i=j
 ·rw [if_pos h,if_pos h,if_pos hi];rfl
 ·rw [if_neg h,if_neg h]
def bk1 (u:Nat) (x:Le) (b:Bool):Bool:=if (u:Int) ∈ Og x then true else if Xm x=(u:Int) then false else b
def IU (u:Nat) (k:He) (b:Bool):Bool:=if k.f1=0 then b else if k.f2=(u:Int) then true else b
def m0 (u:Nat) (k:He) (b:Bool):Bool:=k.f0.foldr (bk1 u) (IU u k b)
theorem iY {u:Nat} {x:Le} {a b:Bool} (h:a=true→b=true):bk1 u x a=true→bk1 u x b=true:=by
 unfold bk1
 by_cases h1:(u:Int) ∈ Og x
 ·rw [if_pos h1,if_pos h1];exact id
 ·rw [if_neg h1,if_neg h1]
  by_cases h2:Xm x=(u:Int)
  ·rw [if_pos h2,if_pos h2];exact id
  ·rw [if_neg h2,if_neg h2];exact h
theorem nw {u:Nat} {k:He} {a b:Bool} (h:a=true→b=true):m0 u k a=true→m0 u k b=true:=by
 unfold m0
 have he:IU u k a=true→IU u k b=true:=by
  unfold IU
  by_cases h1:k.f1=0
  ·rw [if_pos h1,if_pos h1];exact h
  ·rw [if_neg h1,if_neg h1]
   by_cases h2:k.f2=(u:Int)
   ·rw [if_pos h2,if_pos h2];exact id
   ·rw [if_neg h2,if_neg h2];exact h
 induction k.f0 with
 | nil=>exact he
 | cons x l ih=>exact iY ih
theorem gn:∀ (l:List Int) (s:List Bool) (u:Nat),(∀ a ∈ l,0 ≤ a∧a < (s.length:Int))→seen (l.foldl Vg s) u=(decide ((u:Int) ∈ l) || seen s u)
 | [],s,u,_=>by simp
 | a :: l,s,u,h=>by
  obtain ⟨a0,a1⟩:=h a (by simp);rw [List.foldl_cons,gn l (Vg s a) u (fun c hc=>by unfold Vg;rw [List.length_set];exact h c (by simp [hc]))];unfold Vg;rw [Nj (by omega)]
  by_cases e:a.toNat=u
  ·rw [if_pos e,decide_eq_true (show (u:Int) ∈ a :: l from List.mem_cons.2 (Or.inl (by omega)))];simp
  ·rw [if_neg e]
   have:(u:Int) ∈ a :: l ↔ (u:Int) ∈ l:=by
    rw [List.mem_cons];exact ⟨fun h=>h.resolve_left (by omega),Or.inr⟩
   rw [decide_eq_decide.2 this]
theorem bP {s:List Bool} {x:Le} {u:Nat} (hx:Wt s.length x):seen (vo s x) u=bk1 u x (seen s u):=by
 obtain ⟨h1,h2⟩:=hx;unfold vo bk1
 have hm:Xm x ≥ 0→(Xm x).toNat < s.length:=by
  unfold Xm;intro h
  by_cases h4:x.f0=4
  ·rw [if_pos h4] at h;omega
  ·rw [if_neg h4] at h ⊢
   by_cases h6:x.f0=6
   ·rw [if_pos h6] at h;omega
   ·rw [if_neg h6] at h ⊢;have:=h2 h4 h6;omega
 have hlen:(if Xm x ≥ 0 then s.set (Xm x).toNat false else s).length=s.length:=by
  by_cases h:Xm x ≥ 0
  ·rw [if_pos h,List.length_set]
  ·rw [if_neg h]
 rw [gn _ _ _ (fun a ha=>by rw [hlen];exact h1 a ha)]
 by_cases hu:(u:Int) ∈ Og x
 ·rw [if_pos hu,decide_eq_true hu];rfl
 ·rw [if_neg hu,decide_eq_false hu,Bool.false_or]
  by_cases h:Xm x ≥ 0
  ·rw [if_pos h,Nj (hm h)]
   by_cases e:Xm x=(u:Int)
   ·rw [if_pos e,if_pos (by omega)]
   ·rw [if_neg e,if_neg (by omega)]
  ·rw [if_neg h,if_neg (by omega)]
def lu (n:Nat) (b:He):Prop:=b.f0.length ≤ 1048576∧(¬ b.f1=0→0 ≤ b.f2∧b.f2 < (n:Int))∧∀ x ∈ b.f0,Wt n x
theorem GU {s:List Bool} {b:He} {u:Nat} (hb:¬ b.f1=0→0 ≤ b.f2∧b.f2 < (s.length:Int)):seen (Ei b s) u=IU u b (seen s u):=by
 unfold Ei IU
 by_cases h:b.f1=0
 ·rw [if_pos h,if_pos h]
 ·have:=hb h;rw [if_neg h,if_neg h,Nj (by omega)]
  by_cases e:b.f2=(u:Int)
  ·rw [if_pos e,if_pos (by omega)]
  ·rw [if_neg e,if_neg (by omega)]
theorem mw {s:List Bool} {b:He} {u:Nat} (hb:lu s.length b):seen (QC b s) u=m0 u b (seen s u):=by
 unfold QC m0;obtain ⟨_,h2,h3⟩:=hb;have he:=GU (u:=u) h2;have hl:=xm b s;generalize Ei b s=s0 at he hl;rw [← he];clear he h2;generalize b.f0=cd at h3 ⊢
 induction cd with
 | nil=>rfl
 | cons x l ih =>
  rw [List.foldr_cons,List.foldr_cons,bP (by rw [vC,hl];exact h3 x (by simp)),ih (fun y hy=>h3 y (by simp [hy]))]
inductive LB (bs:List He) (u:Nat):Nat→Prop
 | gen {i:Nat} {t:Int}:t ∈ Rt bs i→m0 u (za bs t) false=true→LB bs u i
 | step {i:Nat} {t:Int}:t ∈ Rt bs i→m0 u (za bs t) true=true→LB bs u t.toNat→LB bs u i
noncomputable def pn (bs:List He) (n i:Nat):List Bool:=open Classical in (List.range n).map fun u=>decide (LB bs u i)
noncomputable def bf (bs:List He) (n:Nat):List (List Bool):=(List.range bs.length).map (pn bs n)
theorem Yj (bs:List He) (n i:Nat):(pn bs n i).length=n:=by simp [pn]
theorem Rj (bs:List He) (n:Nat):(bf bs n).length=bs.length:=by simp [bf]
theorem fq {bs:List He} {n i u:Nat} (hu:u < n):seen (pn bs n i) u=true ↔ LB bs u i:=by simp [seen,pn,List.getD_eq_getElem?_getD,hu]
def Lm (bs:List He) (n:Nat):Prop:=uB bs∧n ≤ 1048576∧∀ b ∈ bs,lu n b
def Be (X:List (List Bool)) (i:Nat):List Bool:=X.getD i []
theorem Vp {X:List (List Bool)} {i k:Nat} {x:List Bool} (hi:i < X.length):Be (X.set i x) k=if i=k then x else Be X k:=by
 unfold Be;rw [List.getD_eq_getElem?_getD,List.getD_eq_getElem?_getD,List.getElem?_set]
 by_cases h:i=k
 ·rw [if_pos h,if_pos h,if_pos hi];rfl
 ·rw [if_neg h,if_neg h]
structure jG (bs:List He) (n:Nat) (X Y:List (List Bool)):Prop where
 xl:X.length=bs.length
 yl:Y.length=bs.length
 xr:∀ i,i < bs.length→(Be X i).length=n
 yr:∀ i,i < bs.length→(Be Y i).length=n
 xs:∀ i u,i < bs.length→seen (Be X i) u=true→LB bs u i
 ys:∀ i u,i < bs.length→seen (Be Y i) u=true→m0 u (za bs (i:Int)) (seen (Be X i) u)=true
section
variable {bs:List He} {n:Nat} {X Y:List (List Bool)}
theorem jG.or (h:jG bs n X Y) (hE:uB bs) {i s:Nat} {t:Int} (hi:i < bs.length) (ht:t ∈ Rt bs i) (hs:s < n):jG bs n (X.set i ((Be X i).set s (seen (Be X i) s || seen (Be Y t.toNat) s))) Y:=by
 obtain ⟨t0,t1⟩:=hE.2.2 i hi t ht;have hil:i < X.length:=by rw [h.xl];exact hi
 have NW:s < (Be X i).length:=by rw [h.xr i hi];exact hs
 refine ⟨by rw [List.length_set];exact h.xl,h.yl,fun k hk=>?_,h.yr,fun k u hk hu=>?_,fun k u hk hu=>?_⟩
 ·rw [Vp hil]
  by_cases e:i=k
  ·rw [if_pos e,List.length_set];exact h.xr i hi
  ·rw [if_neg e];exact h.xr k hk
 ·rw [Vp hil] at hu
  by_cases e:i=k
  ·subst e;rw [if_pos rfl,Nj NW] at hu
   by_cases e2:s=u
   ·subst e2;rw [if_pos rfl,Bool.or_eq_true] at hu
    rcases hu with hu|hu
    ·exact h.xs i s hk hu
    ·have hy:=h.ys t.toNat s (by omega) hu;rw [Int.toNat_of_nonneg t0] at hy;cases hb:seen (Be X t.toNat) s with
     | false=>rw [hb] at hy;exact LB.gen ht hy
     | true=>rw [hb] at hy;exact LB.step ht hy (h.xs t.toNat s (by omega) hb)
   ·rw [if_neg e2] at hu;exact h.xs i u hk hu
  ·rw [if_neg e] at hu;exact h.xs k u hk hu
 ·have hy:=h.ys k u hk hu;rw [Vp hil]
  by_cases e:i=k
  ·subst e;rw [if_pos rfl,Nj NW]
   by_cases e2:s=u
   ·subst e2;rw [if_pos rfl];exact nw (fun hb=>by rw [hb];rfl) hy
   ·rw [if_neg e2];exact hy
  ·rw [if_neg e];exact hy
theorem jG.put (h:jG bs n X Y) (hO:Lm bs n) {i:Nat} (hi:i < bs.length):jG bs n X (Y.set i (QC (za bs (i:Int)) (Be X i))):=by
 have hil:i < Y.length:=by rw [h.yl];exact hi
 have hb:lu n (za bs (i:Int)):=by rw [mh hi];exact hO.2.2 _ (List.getElem_mem hi)
 refine ⟨h.xl,by rw [List.length_set];exact h.yl,h.xr,fun k hk=>?_,h.xs,fun k u hk hu=>?_⟩
 ·rw [Vp hil]
  by_cases e:i=k
  ·rw [if_pos e,Es];exact h.xr i hi
  ·rw [if_neg e];exact h.yr k hk
 ·rw [Vp hil] at hu
  by_cases e:i=k
  ·subst e;rw [if_pos rfl,mw (by rw [h.xr i hi];exact hb)] at hu;exact hu
  ·rw [if_neg e] at hu;exact h.ys k u hk hu
def StE (bs:List He) (X Y:List (List Bool)) (i:Nat):Prop:=(∀ t ∈ Rt bs i,∀ u,seen (Be Y t.toNat) u=true→seen (Be X i) u=true)∧Be Y i=QC (za bs (i:Int)) (Be X i)
theorem jG.done (h:jG bs n X Y) (hO:Lm bs n) (hst:∀ i,i < bs.length→StE bs X Y i):X=bf bs n:=by
 have hE:=hO.1
 have key:∀ u i,LB bs u i→i < bs.length→seen (Be X i) u=true:=by
  intro u i hl
  have turn:∀ (i:Nat) (t:Int),i < bs.length→t ∈ Rt bs i→m0 u (za bs t) (seen (Be X t.toNat) u)=true→seen (Be X i) u=true:=by
   intro i t hi ht h1;obtain ⟨t0,t1⟩:=hE.2.2 i hi t ht;have htn:t.toNat < bs.length:=by omega
   refine (hst i hi).1 t ht u ?_;rw [(hst t.toNat htn).2,mw (by rw [h.xr _ htn,mh htn];exact hO.2.2 _ (List.getElem_mem htn)),Int.toNat_of_nonneg t0];exact h1
  induction hl with
  | @gen i t ht h1 =>
   intro hi;exact turn i t hi ht (nw (fun hf=>by cases hf) h1)
  | @step i t ht h1 _ ih =>
   intro hi;obtain ⟨t0,t1⟩:=hE.2.2 i hi t ht;exact turn i t hi ht (nw (fun _=>ih (by omega)) h1)
 apply List.ext_getElem
 ·rw [h.xl,Rj]
 ·intro i h1 h2;have hi:i < bs.length:=by rw [← h.xl];exact h1
  have e1:X[i]=Be X i:=by simp [Be,List.getD_eq_getElem?_getD,h1]
  have e2:(bf bs n)[i]=pn bs n i:=by simp [bf]
  rw [e1,e2];refine Bz (by rw [h.xr i hi,Yj]) (fun u=>?_)
  constructor
  ·intro hu;have hun:u < n:=by have:=Em hu;rw [h.xr i hi] at this;exact this
   exact (fq hun).2 (h.xs i u hi hu)
  ·intro hu;have hun:u < n:=by have:=Em hu;rw [Yj] at this;exact this
   exact key u i ((fq hun).1 hu) hi
def cnt (s:List Bool):Nat:=s.count true
def Gr (Y:List (List Bool)):Nat:=(Y.map cnt).sum
theorem uF:∀ (Y:List (List Bool)) (i:Nat) (x:List Bool),i < Y.length→Gr (Y.set i x) + cnt (Be Y i)=Gr Y + cnt x
 | [],i,x,h=>by simp at h
 | y :: Y,0,x,_=>by
  simp only [Gr,List.set_cons_zero,List.map_cons,List.sum_cons,Be,List.getD_cons_zero];omega
 | y :: Y,i + 1,x,h=>by
  have ih:=uF Y i x (by simpa using h);simp only [Gr,List.set_cons_succ,List.map_cons,List.sum_cons,Be,List.getD_cons_succ] at ih ⊢;omega
theorem KO:∀ (a b:List Bool),a.length=b.length→(∀ u,seen a u=true→seen b u=true)→cnt a ≤ cnt b∧(a ≠ b→cnt a < cnt b)
 | [],[],_,_=>⟨Nat.le_refl _,fun h=>absurd rfl h⟩
 | [],_ :: _,h,_=>by cases h
 | _ :: _,[],h,_=>by cases h
 | x :: a,y :: b,hl,h=>by
  obtain ⟨h1,h2⟩:=KO a b (by simpa using hl) (fun u hu=>h (u + 1) hu);have h0:x=true→y=true:=h 0;unfold cnt at h1 h2 ⊢;rw [List.count_cons,List.count_cons];cases x with
  | false =>
   cases y with
   | false=>exact ⟨by simpa using h1,fun hne=>by have:=h2 (fun e=>hne (by rw [e]));simpa using this⟩
   | true=>exact ⟨by simp;omega,fun _=>by simp;omega⟩
  | true =>
   have hy:=h0 rfl;subst hy;exact ⟨by simpa using h1,fun hne=>by have:=h2 (fun e=>hne (by rw [e]));simpa using this⟩
theorem m7 (a:List Bool):cnt a ≤ a.length:=List.count_le_length
theorem oK {m:Nat}:∀ (Y:List (List Bool)),(∀ i,i < Y.length→(Be Y i).length ≤ m)→Gr Y ≤ m * Y.length
 | [],_=>by simp [Gr]
 | y :: Y,h=>by
  have h1:=oK Y (fun i hi=>h (i + 1) (by simpa using hi));have h2:=h 0 (by simp);have h3:=m7 y;have h4:(Be (y :: Y) 0)=y:=rfl;rw [h4] at h2;simp only [Gr,List.map_cons,List.sum_cons,List.length_cons,Nat.mul_succ] at h1 ⊢;omega
theorem jG.grow (h:jG bs n X Y) (hO:Lm bs n) {i:Nat} (hi:i < bs.length) (hne:QC (za bs (i:Int)) (Be X i) ≠ Be Y i):Gr Y < Gr (Y.set i (QC (za bs (i:Int)) (Be X i))):=by
 have hb:lu n (za bs (i:Int)):=by rw [mh hi];exact hO.2.2 _ (List.getElem_mem hi)
 have h1:=uF Y i (QC (za bs (i:Int)) (Be X i)) (by rw [h.yl];exact hi)
 have h2:=(KO (Be Y i) (QC (za bs (i:Int)) (Be X i)) (by rw [Es,h.xr i hi,h.yr i hi]) (fun u hu=>by
  rw [mw (by rw [h.xr i hi];exact hb)]
  exact h.ys i u hi hu)).2 (fun e=>hne e.symm)
 omega
theorem jG.start (bs:List He) (n:Nat):jG bs n (List.replicate bs.length (List.replicate n false)) (List.replicate bs.length (List.replicate n false)):=by
 have hr:∀ i,i < bs.length→Be (List.replicate bs.length (List.replicate n false)) i=List.replicate n false:=fun i hi=>by
  unfold Be;rw [List.getD_eq_getElem?_getD,List.getElem?_replicate,if_pos hi];rfl
 refine ⟨by simp,by simp,fun i hi=>by rw [hr i hi];simp,fun i hi=>by rw [hr i hi];simp,fun i u hi hu=>?_,fun i u hi hu=>?_⟩
 ·rw [hr i hi,CB] at hu;cases hu
 ·rw [hr i hi,CB] at hu;cases hu
end
end Go.Proofs.Ytkigbdceceeenaa.P
end
section
namespace Go.Proofs.Ytkigbdceceeenaa.P
open Go.RowKit Go.Proofs.Ma.Wb Go.Proofs.Ma.Jd Go.Proofs.Ma.Fe
set_option linter.unusedVariables false
set_option linter.unusedSimpArgs false
def xG (w:World) (N:Nat):World:={ w with heap:=w.heap.extract 0 N }
theorem gm {w:World} {N:Nat} (h:N ≤ w.heap.size):(xG w N).heap.size=N:=by
 unfold xG;simp;omega
theorem Zy {w:World} {N:Nat} (h:N ≤ w.heap.size):Below (xG w N).heap.size (xG w N) w:=by
 refine ⟨rfl,rfl,rfl,by rw [gm h];exact h,fun k hk=>?_⟩;rw [gm h] at hk
 show w.heap[k]? = (w.heap.extract 0 N)[k]?
 rw [Array.getElem?_extract];simp;omega
section
variable {St:Type} (f:St→Le→List Bool→St)
def Br:List Le→List Bool→St→St
 | [],_,st=>st
 | x :: r,s,st=>Br r (vo s x) (f st x s)
theorem sF {code:List Le} {q:Nat} (h:q < code.length) (s:List Bool) (st:St):Br f (code.take (q + 1)).reverse s st=Br f (code.take q).reverse (vo s (Ea code (q:Int))) (f st (Ea code (q:Int)) s):=by
 rw [List.take_succ_eq_append_getElem h,List.reverse_append,Rk h]
 rfl
def zy (bs:List He) (X:List (List Bool)) (st:St) (i:Nat):St:=Br f (za bs (i:Int)).f0.reverse (Ei (za bs (i:Int)) (Be X i)) st
def Fh (bs:List He) (X:List (List Bool)) (i:Nat) (st:St):St:=((List.range bs.length).drop i).foldl (zy f bs X) st
theorem Ap {bs:List He} {X:List (List Bool)} {i:Nat} (h:i < bs.length) (st:St):Fh f bs X i st=Fh f bs X (i + 1) (zy f bs X st i):=by
 unfold Fh;rw [List.drop_eq_getElem_cons (by rw [List.length_range];exact h),List.foldl_cons,List.getElem_range]
theorem Oq (bs:List He) (X:List (List Bool)) (st:St):Fh f bs X bs.length st=st:=by
 unfold Fh;rw [List.drop_eq_nil_of_le (by rw [List.length_range];exact Nat.le_refl _)]
 rfl
end
def L8 (S:Nat→Prop) (w:World) (k:Nat):Prop:=S k ∨ w.heap.size ≤ k
structure DV (S:Nat→Prop) (w:World) (o:Obj) (wr:World):Prop where
 k:Kept w wr (L8 S w)
 b:Below 0 w wr
 hx:wr.heap[w.heap.size]? = some o
section
variable {S:Nat→Prop} {w wr W:World} {o:Obj}
theorem Nr {B:Nat} (h:Below B wr W):Below 0 wr W:=⟨h.os,h.tape,h.output,h.size,fun k hk=>by omega⟩
theorem DV.below (h:DV S w o wr) (hb:Below wr.heap.size wr W):DV S w o W:=⟨h.k.below hb,h.b.trans (Nr hb),Va h.hx hb⟩
theorem DV.kept (h:DV S w o wr) (hS:∀ k,S k→k < w.heap.size) (hk:Kept wr W S) (hb:Below 0 wr W):DV S w o W :=
 ⟨h.k.Fp hk (fun _ h2=>Or.inl (Or.inl h2)),h.b.trans hb,Ve h.hx hk (fun e=>by have:=hS _ e;omega)⟩
theorem DV.le (h:DV S w o wr):w.heap.size < wr.heap.size:=Pc h.hx
end
end Go.Proofs.Ytkigbdceceeenaa.P
end
section
namespace Go.Proofs.Ytkigbdceceeenaa.P
open Go.RowKit Go.Proofs.Ma.Wb Go.Proofs.Ma.Jd Go.Proofs.Ma.Fe
set_option linter.unusedVariables false
set_option linter.unusedSimpArgs false
attribute [local go_sem] Gi Xi Jj ak Sh Rh Yi Wi
def Th.f (Qb:Int) (Ja:Int) (Ga:Int) (Ia:Int) (Db:Int) (Dc:Int) (Bc:ByteArray):Option (Int):=if Qb=4 then (some (-1)) else (if Qb=6 then (some (-1)) else (some Ja))
theorem Th.calls (Qb:Int) (Ja:Int) (Ga:Int) (Ia:Int) (Db:Int) (Dc:Int) (Bc:ByteArray) (r:Int) (w:World) (h:Th.f Qb Ja Ga Ia Db Dc Bc=some r) :
  Calls Try.prog 87 #[.agg #[.int .i64 Qb,.int .i64 Ja,.int .i64 Ga,.int .i64 Ia,.int .i64 Db,.int .i64 Dc,.string Bc]] w fun e w'=>e = .returned (.int .i64 r)∧Below w.heap.size w w':=by
 have kA:=Try.underlying65;have HB:=ga.mk (Below.refl w.heap.size w);have H:(if Qb=4 then (some (-1)) else (if Qb=6 then (some (-1)) else (some Ja)))=some r:=h;clear h
 by_cases c2:Qb=4
 ·rw [if_pos c2] at H;have fu:(Qb == 4)=true:=beq_iff_eq.mpr c2;have yw:(Qb != 4)=false:=bne_eq_false_iff_eq.mpr c2;clear c2;obtain rfl:=Option.some.inj H;go_enter Try.func87,Try.ntmps87;go_wp2_with (first|((with_reducible refine qb (N:=1) rfl ?_);refine Ib ?hg (N:=1) ?hd (cs:=#[.int .i64 Qb,.int .i64 Ja,.int .i64 Ga,.int .i64 Ia,.int .i64 Db,.int .i64 Dc,.string Bc]) (t:=65) ?hr ?_;(case hd=>rfl);(case hg=>rfl);(case hr=>first|(go_simp;done)|(go_simp;rfl));intro ya hg w3 Sb hb;have Cb:=ga.mk (Na CaH hb);have Eb:=ga.mk (Sb);have Rb:=ga.mk ((by rw [hg];exact (La CaH):w.heap.size ≤ ya));have Gc:=ga.mk ((by rw [hg];exact (La CaH):w.heap.size ≤ ya));clear HB;have HB:=Cb;have oa:=Eb;have Nd:=Rb;have Ta:=Gc;clear Cb Eb Rb Gc hb Sb hg;have mC:w3.cell? ⟨ya,0,none⟩=some (.int .i64 Qb):=(ia oa.out 0).trans rfl;have lC:w3.cell? ⟨ya,1,none⟩=some (.int .i64 Ja):=(ia oa.out 1).trans rfl;have kC:w3.cell? ⟨ya,2,none⟩=some (.int .i64 Ga):=(ia oa.out 2).trans rfl;have jC:w3.cell? ⟨ya,3,none⟩=some (.int .i64 Ia):=(ia oa.out 3).trans rfl;have iC:w3.cell? ⟨ya,4,none⟩=some (.int .i64 Db):=(ia oa.out 4).trans rfl;have mJ:w3.cell? ⟨ya,5,none⟩=some (.int .i64 Dc):=(ia oa.out 5).trans rfl;have lJ:w3.cell? ⟨ya,6,none⟩=some (.string Bc):=(ia oa.out 6).trans rfl;have ZB:=aa oa.out 0;have YB:=aa oa.out 1;have XB:=aa oa.out 2;have WB:=aa oa.out 3;have VB:=aa oa.out 4;have jI:=aa oa.out 5;have iI:=aa oa.out 6));go_ret;exact ⟨by first|rfl|(simp [Pa,Oa] <;> rfl)|(simp [*,Pa,Oa] <;> rfl),EaH⟩
 ·rw [if_neg c2] at H;have fu:(Qb == 4)=false:=beq_eq_false_iff_ne.mpr c2;have yw:(Qb != 4)=true:=bne_iff_ne.mpr c2
  by_cases c5:Qb=6
  ·rw [if_pos c5] at H;have Nk:(Qb == 6)=true:=beq_iff_eq.mpr c5;have bz:(Qb != 6)=false:=bne_eq_false_iff_eq.mpr c5;clear c5;obtain rfl:=Option.some.inj H;go_enter Try.func87,Try.ntmps87;go_wp2_with (first|((with_reducible refine qb (N:=1) rfl ?_);refine Ib ?hg (N:=1) ?hd (cs:=#[.int .i64 Qb,.int .i64 Ja,.int .i64 Ga,.int .i64 Ia,.int .i64 Db,.int .i64 Dc,.string Bc]) (t:=65) ?hr ?_;(case hd=>rfl);(case hg=>rfl);(case hr=>first|(go_simp;done)|(go_simp;rfl));intro ya hg w6 Sb hb;have Cb:=ga.mk (Na CaH hb);have Eb:=ga.mk (Sb);have Rb:=ga.mk ((by rw [hg];exact (La CaH):w.heap.size ≤ ya));have Gc:=ga.mk ((by rw [hg];exact (La CaH):w.heap.size ≤ ya));clear HB;have HB:=Cb;have oa:=Eb;have Nd:=Rb;have Ta:=Gc;clear Cb Eb Rb Gc hb Sb hg;have Dk:w6.cell? ⟨ya,0,none⟩=some (.int .i64 Qb):=(ia oa.out 0).trans rfl;have Ck:w6.cell? ⟨ya,1,none⟩=some (.int .i64 Ja):=(ia oa.out 1).trans rfl;have Bk:w6.cell? ⟨ya,2,none⟩=some (.int .i64 Ga):=(ia oa.out 2).trans rfl;have Ak:w6.cell? ⟨ya,3,none⟩=some (.int .i64 Ia):=(ia oa.out 3).trans rfl;have zk:w6.cell? ⟨ya,4,none⟩=some (.int .i64 Db):=(ia oa.out 4).trans rfl;have fJ:w6.cell? ⟨ya,5,none⟩=some (.int .i64 Dc):=(ia oa.out 5).trans rfl;have eJ:w6.cell? ⟨ya,6,none⟩=some (.string Bc):=(ia oa.out 6).trans rfl;have xk:=aa oa.out 0;have vk:=aa oa.out 1;have uk:=aa oa.out 2;have sk:=aa oa.out 3;have qk:=aa oa.out 4;have bI:=aa oa.out 5;have ZH:=aa oa.out 6));go_ret;exact ⟨by first|rfl|(simp [Pa,Oa] <;> rfl)|(simp [*,Pa,Oa] <;> rfl),EaH⟩
  ·rw [if_neg c5] at H;have Nk:(Qb == 6)=false:=beq_eq_false_iff_ne.mpr c5;have bz:(Qb != 6)=true:=bne_iff_ne.mpr c5;obtain rfl:=Option.some.inj H;go_enter Try.func87,Try.ntmps87;go_wp2_with (first|((with_reducible refine qb (N:=1) rfl ?_);refine Ib ?hg (N:=1) ?hd (cs:=#[.int .i64 Qb,.int .i64 Ja,.int .i64 Ga,.int .i64 Ia,.int .i64 Db,.int .i64 Dc,.string Bc]) (t:=65) ?hr ?_;(case hd=>rfl);(case hg=>rfl);(case hr=>first|(go_simp;done)|(go_simp;rfl));intro ya hg w8 Sb hb;have Cb:=ga.mk (Na CaH hb);have Eb:=ga.mk (Sb);have Rb:=ga.mk ((by rw [hg];exact (La CaH):w.heap.size ≤ ya));have Gc:=ga.mk ((by rw [hg];exact (La CaH):w.heap.size ≤ ya));clear HB;have HB:=Cb;have oa:=Eb;have Nd:=Rb;have Ta:=Gc;clear Cb Eb Rb Gc hb Sb hg;have Qh:w8.cell? ⟨ya,0,none⟩=some (.int .i64 Qb):=(ia oa.out 0).trans rfl;have Ph:w8.cell? ⟨ya,1,none⟩=some (.int .i64 Ja):=(ia oa.out 1).trans rfl;have Oh:w8.cell? ⟨ya,2,none⟩=some (.int .i64 Ga):=(ia oa.out 2).trans rfl;have Nh:w8.cell? ⟨ya,3,none⟩=some (.int .i64 Ia):=(ia oa.out 3).trans rfl;have Mh:w8.cell? ⟨ya,4,none⟩=some (.int .i64 Db):=(ia oa.out 4).trans rfl;have Fab:w8.cell? ⟨ya,5,none⟩=some (.int .i64 Dc):=(ia oa.out 5).trans rfl;have Eab:w8.cell? ⟨ya,6,none⟩=some (.string Bc):=(ia oa.out 6).trans rfl;have Lh:=aa oa.out 0;have Kh:=aa oa.out 1;have Jh:=aa oa.out 2;have Ih:=aa oa.out 3;have Hh:=aa oa.out 4;have pab:=aa oa.out 5;have oab:=aa oa.out 6));go_ret;exact ⟨by first|rfl|(simp [Pa,Oa] <;> rfl)|(simp [*,Pa,Oa] <;> rfl),EaH⟩
mutual
def Gd.j0:Nat→List Int→Int→Bool→Int→Int→Int→Int→Int→Int→ByteArray→Option (List Int)
 | 0,_,_,_,_,_,_,_,_,_,_=>none
 | k + 1,x3,x6,x7,Fc,Uc,Mc,Ic,jc,dn,bn=>if x7=true then (if x3.length < 17592186044416 then (some (x3 ++ [Mc])) else (none)) else (if x6=2 then ((some (([Mc,Ic]:List Int):List Int)).bind fun gh=>(if x3.length + gh.length < 17592186044416 then (some (x3 ++ gh)) else (none))) else (if x6=3 then (Gd.j1 k x3 (x6 == 3) Fc Uc Mc Ic jc dn bn) else (Gd.j1 k x3 (x6 == 4) Fc Uc Mc Ic jc dn bn)))
def Gd.j1:Nat→List Int→Bool→Int→Int→Int→Int→Int→Int→ByteArray→Option (List Int)
 | 0,_,_,_,_,_,_,_,_,_=>none
 | k + 1,x3,oD,Fc,Uc,Mc,Ic,jc,dn,bn=>if oD=true then (if x3.length < 17592186044416 then ((some (x3 ++ [Ic]:List Int)).bind fun Rm=>(if Mc ≥ 0 then (if Rm.length < 17592186044416 then ((some (Rm ++ [Mc]:List Int)).bind fun Tt=>(if Fc=4 then (if Tt.length < 17592186044416 then (some (Tt ++ [jc])) else (none)) else (some Tt))) else (none)) else (if Fc=4 then (if Rm.length < 17592186044416 then (some (Rm ++ [jc])) else (none)) else (some Rm)))) else (none)) else (some x3)
end
def Gd.f (k:Nat) (Qb:Int) (Ja:Int) (Ga:Int) (Ia:Int) (Db:Int) (Dc:Int) (Bc:ByteArray):Option (List Int):=(some (([]:List Int):List Int)).bind fun Dd=>(if Qb=1 then (Gd.j0 k Dd Qb (Qb == 1) Qb Ja Ga Ia Db Dc Bc) else (Gd.j0 k Dd Qb (Qb == 6) Qb Ja Ga Ia Db Dc Bc))
theorem Gd.calls (k:Nat) (Qb:Int) (Ja:Int) (Ga:Int) (Ia:Int) (Db:Int) (Dc:Int) (Bc:ByteArray) (r:List Int) (w:World) (h:Gd.f k Qb Ja Ga Ia Db Dc Bc=some r) :
  Calls Try.prog 88 #[.agg #[.int .i64 Qb,.int .i64 Ja,.int .i64 Ga,.int .i64 Ia,.int .i64 Db,.int .i64 Dc,.string Bc]] w fun e w'=>∃ wm:Value,e = .returned (wm)∧Kd.R (Kd.int .i64) 3 w' w.heap.size (fun _=>True) wm r∧Below w.heap.size w w':=by
 have kA:=Try.underlying65;have HB:=ga.mk (Below.refl w.heap.size w);have H:((some (([]:List Int):List Int)).bind fun Dd=>(if Qb=1 then (Gd.j0 k Dd Qb (Qb == 1) Qb Ja Ga Ia Db Dc Bc) else (Gd.j0 k Dd Qb (Qb == 6) Qb Ja Ga Ia Db Dc Bc)))=some r:=h;clear h;obtain ⟨Dd,kf⟩:∃ y_:List Int,y_=(([]:List Int)):=⟨_,rfl⟩;replace H:(if Qb=1 then (Gd.j0 k Dd Qb (Qb == 1) Qb Ja Ga Ia Db Dc Bc) else (Gd.j0 k Dd Qb (Qb == 6) Qb Ja Ga Ia Db Dc Bc))=some r:=by first|(rw [kf];with_reducible exact H)|(have Td:=(Option.bind_some _ _).symm.trans H;rw [kf];with_reducible exact Td)|(have Td:=(Option.bind_some _ _).symm.trans H;with_reducible exact Td)|with_reducible exact H|(rw [kf];exact H)|exact H
 have Ci:=ga.mk kf;clear kf;have jU:=ga.mk H;clear H;go_enter Try.func88,Try.ntmps88
 go_upto_if 7 with (first|((with_reducible refine qb (N:=1) rfl ?_);refine Ib ?hg (N:=1) ?hd (cs:=#[.int .i64 Qb,.int .i64 Ja,.int .i64 Ga,.int .i64 Ia,.int .i64 Db,.int .i64 Dc,.string Bc]) (t:=65) ?hr ?_;(case hd=>rfl);(case hg=>rfl);(case hr=>first|(go_simp;done)|(go_simp;rfl));intro ya hg w3 Sb hb;have Cb:=ga.mk (Na CaH hb);have Eb:=ga.mk (Sb);have Rb:=ga.mk ((by rw [hg];exact (La CaH):w.heap.size ≤ ya));have Gc:=ga.mk ((by rw [hg];exact (La CaH):w.heap.size ≤ ya));clear HB;have HB:=Cb;have oa:=Eb;have Nd:=Rb;have Ta:=Gc;clear Cb Eb Rb Gc hb Sb hg)|((with_reducible refine qb (N:=4) rfl ?_);refine Kd.Vj (Kd.int .i64) _ 3 ?hg (N:=4) ?hd (xs:=([]:List Int)) (inner:=[]) (ok:=fun _=>True) (Di:=fun _=>True) ?hr ?hp (fun _ hk=>hk) trivial (Below.refl _ _) (Nat.le_refl _) (by simp) ?_;(case hd=>rfl);(case hg=>rfl);(case hr=>first|(go_simp;done)|(go_simp;rfl));(case hp=>exact (Sd.none _ _));intro Sm w4 iF hb Wm Ye;clear Wm Ye;(first|rw [← Ci.out] at iF|(simp only [Int.reduceToNat] at iF;rw [← Ci.out] at iF));have Cb:=ga.mk (Kd.Wd iF (La BaH));have Eb:=ga.mk (Va (g:=ya) (o:=.cells #[.int .i64 Qb,.int .i64 Ja,.int .i64 Ga,.int .i64 Ia,.int .i64 Db,.int .i64 Dc,.string Bc] 65 (0,0)) DaH hb);have Rb:=ga.mk (Na BaH hb);clear oa HB;have Cg:=Cb;have oa:=Eb;have HB:=Rb;clear Cb Eb Rb hb iF;have ur:w4.cell? ⟨ya,0,none⟩=some (.int .i64 Qb):=(ia oa.out 0).trans rfl;have tr:w4.cell? ⟨ya,1,none⟩=some (.int .i64 Ja):=(ia oa.out 1).trans rfl;have sr:w4.cell? ⟨ya,2,none⟩=some (.int .i64 Ga):=(ia oa.out 2).trans rfl;have nr:w4.cell? ⟨ya,3,none⟩=some (.int .i64 Ia):=(ia oa.out 3).trans rfl;have kr:w4.cell? ⟨ya,4,none⟩=some (.int .i64 Db):=(ia oa.out 4).trans rfl;have av:w4.cell? ⟨ya,5,none⟩=some (.int .i64 Dc):=(ia oa.out 5).trans rfl;have Zu:w4.cell? ⟨ya,6,none⟩=some (.string Bc):=(ia oa.out 6).trans rfl;have jr:=aa oa.out 0;have ir:=aa oa.out 1;have gr:=aa oa.out 2;have er:=aa oa.out 3;have dr:=aa oa.out 4;have Ju:=aa oa.out 5;have Iu:=aa oa.out 6))
 (try simp only [Act.put,List.setIfInBounds_toArray,List.set_cons_zero,List.set_cons_succ])
 go_cut [7] (fun v7 wc=>∃ (kq:Nat) (Ng:Bool),v7 = .bool Ng∧ga (Gd.j0 kq Dd Qb Ng Qb Ja Ga Ia Db Dc Bc=some r)∧ga (kq ≤ k)∧ga (Kd.R (Kd.int .i64) 3 wc w.heap.size (fun _=>True) Sm Dd)∧ga (wc.heap[ya]? = some (.cells #[.int .i64 Qb,.int .i64 Ja,.int .i64 Ga,.int .i64 Ia,.int .i64 Db,.int .i64 Dc,.string Bc] 65 (0,0)))∧ga (Below w.heap.size w wc))
 case first =>
  have H:=jU.out;clear jU
  by_cases c7:Qb=1
  ·rw [if_pos c7] at H;have qm:(Qb == 1)=true:=beq_iff_eq.mpr c7;have eu:(Qb != 1)=false:=bne_eq_false_iff_eq.mpr c7;clear c7;(first|rw [qm]|(simp only [qc,tc];rw [qm])|skip);have H':=ga.mk H;clear H;go_wp2
   go_meet
   case rel=>exact ⟨_,((Qb == 1)),IaH,H',⟨by first|omega|exact Nat.le_refl _⟩,⟨XaH⟩,⟨HaH⟩,⟨EaH⟩⟩
  ·rw [if_neg c7] at H;have qm:(Qb == 1)=false:=beq_eq_false_iff_ne.mpr c7;have eu:(Qb != 1)=true:=bne_iff_ne.mpr c7;(first|rw [qm]|(simp only [qc,tc];rw [qm])|skip);have H':=ga.mk H;clear H;go_wp2
   go_meet
   case rel=>exact ⟨_,((Qb == 6)),IaH,H',⟨by first|omega|exact Nat.le_refl _⟩,⟨XaH⟩,⟨HaH⟩,⟨EaH⟩⟩
 case rest =>
  clear jU
  try clear p2
  try clear c7
  try clear qm
  try clear eu
  try clear ur
  try clear tr
  try clear sr
  try clear nr
  try clear kr
  try clear av
  try clear Zu
  try clear jr
  try clear ir
  try clear gr
  try clear er
  try clear dr
  try clear Ju
  try clear Iu
  obtain ⟨kq,Ng,rfl,HA,S_,Qc,oa,HB⟩:=hcut;cases kq with
  | zero=>exact absurd HA.out (by simp [Gd.j0])
  | succ pW =>
   have H:=HA.out;clear HA;simp only [Gd.j0] at H
   by_cases c8:Ng=true
   ·subst c8;have H1:(if Dd.length < 17592186044416 then (some (Dd ++ [Ga])) else (none))=some r:=by rw [if_pos rfl] at H;exact H
    clear H;have H:=H1;clear H1
    by_cases c9:Dd.length < 17592186044416
    ·rw [if_pos c9] at H;have Rac:=ga.mk c9;clear c9;obtain ⟨ie,Ff⟩:∃ y_:List Int,y_=(Dd ++ [Ga]):=⟨_,rfl⟩;replace H:(some ie)=some r:=by first|(rw [Ff];with_reducible exact H)|(have Td:=(Option.bind_some _ _).symm.trans H;rw [Ff];with_reducible exact Td)|(have Td:=(Option.bind_some _ _).symm.trans H;with_reducible exact Td)|with_reducible exact H|(rw [Ff];exact H)|exact H
     have om:=ga.mk Ff;clear Ff;obtain rfl:=Option.some.inj H;have Ai:wc.cell? ⟨ya,0,none⟩=some (.int .i64 Qb):=(ia oa.out 0).trans rfl;have zi:wc.cell? ⟨ya,1,none⟩=some (.int .i64 Ja):=(ia oa.out 1).trans rfl;have si:wc.cell? ⟨ya,2,none⟩=some (.int .i64 Ga):=(ia oa.out 2).trans rfl;have ri:wc.cell? ⟨ya,3,none⟩=some (.int .i64 Ia):=(ia oa.out 3).trans rfl;have qi:wc.cell? ⟨ya,4,none⟩=some (.int .i64 Db):=(ia oa.out 4).trans rfl;have eB:wc.cell? ⟨ya,5,none⟩=some (.int .i64 Dc):=(ia oa.out 5).trans rfl;have dB:wc.cell? ⟨ya,6,none⟩=some (.string Bc):=(ia oa.out 6).trans rfl;have ni:=aa oa.out 0;have ki:=aa oa.out 1;have ji:=aa oa.out 2;have ei:=aa oa.out 3;have di:=aa oa.out 4;have LA:=aa oa.out 5;have KA:=aa oa.out 6;go_wp2_with (first|((with_reducible refine we (b:=.append) (xs:=#[.tmp 10,.tmp 13]) rfl ?_);at_builtin;refine Kd.Xh (Kd.int .i64) (w0:=w) w.heap.size rfl (.tmp 10) (.tmp 13) 22 3 (.int .i64 0) 8 rfl Try.underlying22 info3 rfl (by decide) (by omega) Sm Dd Ga [.int .i64 Ga] (fun _=>True) (fun _=>False) rfl rfl ?aP (fun _ hk=>hk.elim) ?aF ?aO ?aB ?aS ?aL ?_;(case aP=>exact rfl);(case aB=>exact BaH);(case aF=>exact (fun _ _=>trivial));(case aO=>exact TaH);(case aS=>exact (La BaH));(case aL=>have:=Rac.out;omega);intro yB Xj ho hb hg hat;rw [← om.out] at ho;have Cb:=ga.mk (xd (g:=ya) (o:=.cells #[.int .i64 Qb,.int .i64 Ja,.int .i64 Ga,.int .i64 Ia,.int .i64 Db,.int .i64 Dc,.string Bc] 65 (0,0)) DaH hg (Kd.Fk Qc.out oa.out (by decide)));have Eb:=ga.mk (hb);have Rb:=ga.mk (ho);clear oa HB Qc;have oa:=Cb;have HB:=Eb;have Dj:=Rb;clear Cb Eb Rb ho hb hg hat));go_ret;exact ⟨_,by first|rfl|(simp [Pa,Oa] <;> rfl)|(simp [*,Pa,Oa] <;> rfl),jaI,EaH⟩
    ·rw [if_neg c9] at H;exact absurd H (by simp)
   ·replace c8:=Bool.eq_false_iff.mpr c8;subst c8;have H1:(if Qb=2 then ((some (([Ga,Ia]:List Int):List Int)).bind fun gh=>(if Dd.length + gh.length < 17592186044416 then (some (Dd ++ gh)) else (none))) else (if Qb=3 then (Gd.j1 pW Dd (Qb == 3) Qb Ja Ga Ia Db Dc Bc) else (Gd.j1 pW Dd (Qb == 4) Qb Ja Ga Ia Db Dc Bc)))=some r:=by rw [if_neg (show ¬ (false=true) by decide)] at H;exact H
    clear H;have H:=H1;clear H1
    by_cases gu:Qb=2
    ·rw [if_pos gu] at H;have bY:(Qb == 2)=true:=beq_iff_eq.mpr gu;have g_:(Qb != 2)=false:=bne_eq_false_iff_eq.mpr gu;clear gu;obtain ⟨gh,Ef⟩:∃ y_:List Int,y_=(([Ga,Ia]:List Int)):=⟨_,rfl⟩;replace H:(if Dd.length + gh.length < 17592186044416 then (some (Dd ++ gh)) else (none))=some r:=by first|(rw [Ef];with_reducible exact H)|(have Td:=(Option.bind_some _ _).symm.trans H;rw [Ef];with_reducible exact Td)|(have Td:=(Option.bind_some _ _).symm.trans H;with_reducible exact Td)|with_reducible exact H|(rw [Ef];exact H)|exact H
     have Wj:=ga.mk Ef;clear Ef
     by_cases VC:Dd.length + gh.length < 17592186044416
     ·rw [if_pos VC] at H;have Eak:=ga.mk VC;clear VC;obtain ⟨Zm,sj⟩:∃ y_:List Int,y_=(Dd ++ gh):=⟨_,rfl⟩;replace H:(some Zm)=some r:=by first|(rw [sj];with_reducible exact H)|(have Td:=(Option.bind_some _ _).symm.trans H;rw [sj];with_reducible exact Td)|(have Td:=(Option.bind_some _ _).symm.trans H;with_reducible exact Td)|with_reducible exact H|(rw [sj];exact H)|exact H
      have Hy:=ga.mk sj;clear sj;obtain rfl:=Option.some.inj H;have Eh:wc.cell? ⟨ya,0,none⟩=some (.int .i64 Qb):=(ia oa.out 0).trans rfl;have Dh:wc.cell? ⟨ya,1,none⟩=some (.int .i64 Ja):=(ia oa.out 1).trans rfl;have Ch:wc.cell? ⟨ya,2,none⟩=some (.int .i64 Ga):=(ia oa.out 2).trans rfl;have Bh:wc.cell? ⟨ya,3,none⟩=some (.int .i64 Ia):=(ia oa.out 3).trans rfl;have Ah:wc.cell? ⟨ya,4,none⟩=some (.int .i64 Db):=(ia oa.out 4).trans rfl;have iT:wc.cell? ⟨ya,5,none⟩=some (.int .i64 Dc):=(ia oa.out 5).trans rfl;have gT:wc.cell? ⟨ya,6,none⟩=some (.string Bc):=(ia oa.out 6).trans rfl;have zh:=aa oa.out 0;have yh:=aa oa.out 1;have xh:=aa oa.out 2;have wh:=aa oa.out 3;have uh:=aa oa.out 4;have TR:=aa oa.out 5;have SR:=aa oa.out 6;go_wp2_with (first|((with_reducible refine qb (N:=22) rfl ?_);refine Kd.Vj (Kd.int .i64) _ 3 ?hg (N:=22) ?hd (xs:=([Ga,Ia]:List Int)) (inner:=[.int .i64 Ga,.int .i64 Ia]) (ok:=fun _=>True) (Di:=fun _=>True) ?hr ?hp (fun _ hk=>hk) trivial (Below.refl _ _) (Nat.le_refl _) (by simp) ?_;(case hd=>rfl);(case hg=>rfl);(case hr=>first|(go_simp;done)|(go_simp;rfl));(case hp=>exact (Sd.one (show Kd.M (Kd.int .i64) _ _ _ Ga [.int .i64 Ga] from rfl) (Sd.one (show Kd.M (Kd.int .i64) _ _ _ Ia [.int .i64 Ia] from rfl) (Sd.none _ _))));intro nG um TU hb Wm Ye;clear Wm Ye;(first|rw [← Wj.out] at TU|(simp only [Int.reduceToNat] at TU;rw [← Wj.out] at TU));have Cb:=ga.mk (Kd.JF TaH (Kd.KF TU) hb);have Eb:=ga.mk (Kd.Wd (Kd.zY TU (Kd.I7 TaH)) (La BaH));have Rb:=ga.mk (Va (g:=ya) (o:=.cells #[.int .i64 Qb,.int .i64 Ja,.int .i64 Ga,.int .i64 Ia,.int .i64 Db,.int .i64 Dc,.string Bc] 65 (0,0)) DaH hb);have Gc:=ga.mk (Na BaH hb);clear Qc oa HB;have Qc:=Cb;have Ij:=Eb;have oa:=Rb;have HB:=Gc;clear Cb Eb Rb Gc hb TU;obtain ⟨Nay,rax,cax⟩:=Kd.Bd Ij.out;subst cax)|((with_reducible refine we (b:=.append) (xs:=#[.tmp 17,.tmp 22]) rfl ?_);at_builtin;refine Kd.Tk (Kd.int .i64) (w0:=w) w.heap.size rfl (.tmp 17) (.tmp 22) 22 3 (.int .i64 0) 8 rfl Try.underlying22 info3 rfl (by decide) (by omega) Sm Dd gh _ _ _ (fun k_=>some k_ ≠ (.slice Nay gh.length rax:Value).ownBlock) (fun _=>False) rfl rfl ?aO ?aR (fun _ _ h=>h) (fun _ h=>h.elim) ?aF ?aB ?aS ?aL ?_;(case aR=>repeat (first|exact (Kd.Vb Ij.out).2.2|(with_reducible refine Kd.Lb ?_ _)|(with_reducible refine Kd.Kb ?_ _)|(with_reducible refine Kd.Xb ?_)));(case aB=>exact BaH);(case aF=>exact (fun k_ hk=>Kd.fresh' (Kd.I7 maI) k_ hk));(case aO=>exact (by (with_reducible repeat (first|apply Kd.mb|apply Kd.jb|apply Kd.Gb));exact Kd.Xd Qc.out (fun _ hk=>hk.2)));(case aS=>exact (La BaH));(case aL=>have:=Eak.out;omega);intro MV js ho hb hg hat;rw [← Hy.out] at ho;have Cb:=ga.mk (xd (g:=ya) (o:=.cells #[.int .i64 Qb,.int .i64 Ja,.int .i64 Ga,.int .i64 Ia,.int .i64 Db,.int .i64 Dc,.string Bc] 65 (0,0)) DaH hg (Kd.Fk Qc.out oa.out (by decide)));have Eb:=ga.mk (Kd.J7 (ok:=(fun _=>True)) maI hg hat);have Rb:=ga.mk (hb);have Gc:=ga.mk (ho);clear oa Ij HB Qc;have oa:=Cb;have Ij:=Eb;have HB:=Rb;have Bw:=Gc;clear Cb Eb Rb Gc ho hb hg hat));go_ret;exact ⟨_,by first|rfl|(simp [Pa,Oa] <;> rfl)|(simp [*,Pa,Oa] <;> rfl),by (with_reducible repeat (first|apply Kd.mb|apply Kd.jb|apply Kd.Gb));exact Kd.Xd Bw.out (fun _ hk=>trivial),EaH⟩
     ·rw [if_neg VC] at H;exact absurd H (by simp)
    ·rw [if_neg gu] at H;have bY:(Qb == 2)=false:=beq_eq_false_iff_ne.mpr gu;have g_:(Qb != 2)=true:=bne_iff_ne.mpr gu;have Mad:=ga.mk H;clear H
     go_upto_if 24 with (fail)
     go_cut [24] (fun v24 wc=>∃ (kq:Nat) (mH:Bool),v24 = .bool mH∧ga (Gd.j1 kq Dd mH Qb Ja Ga Ia Db Dc Bc=some r)∧ga (kq ≤ pW)∧ga (Kd.R (Kd.int .i64) 3 wc w.heap.size (fun _=>True) Sm Dd)∧ga (wc.heap[ya]? = some (.cells #[.int .i64 Qb,.int .i64 Ja,.int .i64 Ga,.int .i64 Ia,.int .i64 Db,.int .i64 Dc,.string Bc] 65 (0,0)))∧ga (Below w.heap.size w wc))
     case first =>
      have H:=Mad.out;clear Mad
      by_cases vm:Qb=3
      ·rw [if_pos vm] at H;have Jr:(Qb == 3)=true:=beq_iff_eq.mpr vm;have Y9:(Qb != 3)=false:=bne_eq_false_iff_eq.mpr vm;clear vm;(first|rw [Jr]|(simp only [qc,tc];rw [Jr])|skip);have H':=ga.mk H;clear H;go_wp2
       go_meet
       case rel=>exact ⟨_,((Qb == 3)),IaH,H',⟨by have:=S_.out;first|omega|exact Nat.le_refl _⟩,⟨PaH⟩,⟨HaH⟩,⟨EaH⟩⟩
      ·rw [if_neg vm] at H;have Jr:(Qb == 3)=false:=beq_eq_false_iff_ne.mpr vm;have Y9:(Qb != 3)=true:=bne_iff_ne.mpr vm;(first|rw [Jr]|(simp only [qc,tc];rw [Jr])|skip);have H':=ga.mk H;clear H;go_wp2
       go_meet
       case rel=>exact ⟨_,((Qb == 4)),IaH,H',⟨by have:=S_.out;first|omega|exact Nat.le_refl _⟩,⟨PaH⟩,⟨HaH⟩,⟨EaH⟩⟩
     case rest =>
      clear Mad
      try clear c1
      try clear c2
      try clear p2
      try clear c7
      try clear qm
      try clear eu
      try clear c8
      try clear c9
      try clear gu
      try clear bY
      try clear g_
      try clear VC
      try clear vm
      try clear Jr
      try clear Y9
      try clear Ai
      try clear zi
      try clear si
      try clear ri
      try clear qi
      try clear eB
      try clear dB
      try clear Eh
      try clear Dh
      try clear Ch
      try clear Bh
      try clear Ah
      try clear iT
      try clear gT
      try clear ur
      try clear tr
      try clear sr
      try clear nr
      try clear kr
      try clear av
      try clear Zu
      try clear ni
      try clear ki
      try clear ji
      try clear ei
      try clear di
      try clear LA
      try clear KA
      try clear zh
      try clear yh
      try clear xh
      try clear wh
      try clear uh
      try clear TR
      try clear SR
      try clear jr
      try clear ir
      try clear gr
      try clear er
      try clear dr
      try clear Ju
      try clear Iu
      try clear p2
      obtain ⟨kq,mH,rfl,HA,QaF,Qc,oa,HB⟩:=hcut;cases kq with
      | zero=>exact absurd HA.out (by simp [Gd.j1])
      | succ SaD =>
       have H:=HA.out;clear HA;simp only [Gd.j1] at H
       by_cases Ir:mH=true
       ·subst Ir;have H1:(if Dd.length < 17592186044416 then ((some (Dd ++ [Ia]:List Int)).bind fun Rm=>(if Ga ≥ 0 then (if Rm.length < 17592186044416 then ((some (Rm ++ [Ga]:List Int)).bind fun Tt=>(if Qb=4 then (if Tt.length < 17592186044416 then (some (Tt ++ [Db])) else (none)) else (some Tt))) else (none)) else (if Qb=4 then (if Rm.length < 17592186044416 then (some (Rm ++ [Db])) else (none)) else (some Rm)))) else (none))=some r:=by rw [if_pos rfl] at H;exact H
        clear H;have H:=H1;clear H1
        by_cases bH:Dd.length < 17592186044416
        ·rw [if_pos bH] at H;have NT:=ga.mk bH;clear bH;obtain ⟨Rm,Jp⟩:∃ y_:List Int,y_=(Dd ++ [Ia]):=⟨_,rfl⟩;replace H:(if Ga ≥ 0 then (if Rm.length < 17592186044416 then ((some (Rm ++ [Ga]:List Int)).bind fun Tt=>(if Qb=4 then (if Tt.length < 17592186044416 then (some (Tt ++ [Db])) else (none)) else (some Tt))) else (none)) else (if Qb=4 then (if Rm.length < 17592186044416 then (some (Rm ++ [Db])) else (none)) else (some Rm)))=some r:=by first|(rw [Jp];with_reducible exact H)|(have Td:=(Option.bind_some _ _).symm.trans H;rw [Jp];with_reducible exact Td)|(have Td:=(Option.bind_some _ _).symm.trans H;with_reducible exact Td)|with_reducible exact H|(rw [Jp];exact H)|exact H
         have WC:=ga.mk Jp;clear Jp
         by_cases Dy:Ga ≥ 0
         ·rw [if_pos Dy] at H;have AF:decide (0 ≤ Ga)=true:=decide_eq_true Dy;clear Dy
          by_cases zF:Rm.length < 17592186044416
          ·rw [if_pos zF] at H;have v_:=ga.mk zF;clear zF;obtain ⟨Tt,qw⟩:∃ y_:List Int,y_=(Rm ++ [Ga]):=⟨_,rfl⟩;replace H:(if Qb=4 then (if Tt.length < 17592186044416 then (some (Tt ++ [Db])) else (none)) else (some Tt))=some r:=by first|(rw [qw];with_reducible exact H)|(have Td:=(Option.bind_some _ _).symm.trans H;rw [qw];with_reducible exact Td)|(have Td:=(Option.bind_some _ _).symm.trans H;with_reducible exact Td)|with_reducible exact H|(rw [qw];exact H)|exact H
           have DT:=ga.mk qw;clear qw
           by_cases kD:Qb=4
           ·rw [if_pos kD] at H;have aH:(Qb == 4)=true:=beq_iff_eq.mpr kD;have Waj:(Qb != 4)=false:=bne_eq_false_iff_eq.mpr kD;clear kD
            by_cases gG:Tt.length < 17592186044416
            ·rw [if_pos gG] at H;have Cak:=ga.mk gG;clear gG;obtain ⟨oaa,ow⟩:∃ y_:List Int,y_=(Tt ++ [Db]):=⟨_,rfl⟩;replace H:(some oaa)=some r:=by first|(rw [ow];with_reducible exact H)|(have Td:=(Option.bind_some _ _).symm.trans H;rw [ow];with_reducible exact Td)|(have Td:=(Option.bind_some _ _).symm.trans H;with_reducible exact Td)|with_reducible exact H|(rw [ow];exact H)|exact H
             have CT:=ga.mk ow;clear ow;obtain rfl:=Option.some.inj H;have Hx:wc.cell? ⟨ya,0,none⟩=some (.int .i64 Qb):=(ia oa.out 0).trans rfl;have Gx:wc.cell? ⟨ya,1,none⟩=some (.int .i64 Ja):=(ia oa.out 1).trans rfl;have Fx:wc.cell? ⟨ya,2,none⟩=some (.int .i64 Ga):=(ia oa.out 2).trans rfl;have Ex:wc.cell? ⟨ya,3,none⟩=some (.int .i64 Ia):=(ia oa.out 3).trans rfl;have Dx:wc.cell? ⟨ya,4,none⟩=some (.int .i64 Db):=(ia oa.out 4).trans rfl;have ZJ:wc.cell? ⟨ya,5,none⟩=some (.int .i64 Dc):=(ia oa.out 5).trans rfl;have YJ:wc.cell? ⟨ya,6,none⟩=some (.string Bc):=(ia oa.out 6).trans rfl;have Xw:=aa oa.out 0;have Ww:=aa oa.out 1;have Vw:=aa oa.out 2;have Uw:=aa oa.out 3;have Tw:=aa oa.out 4;have YI:=aa oa.out 5;have XI:=aa oa.out 6;go_wp2_with (first|((with_reducible refine we (b:=.append) (xs:=#[.tmp 27,.tmp 30]) rfl ?_);at_builtin;refine Kd.Xh (Kd.int .i64) (w0:=w) w.heap.size rfl (.tmp 27) (.tmp 30) 22 3 (.int .i64 0) 8 rfl Try.underlying22 info3 rfl (by decide) (by omega) Sm Dd Ia [.int .i64 Ia] (fun _=>True) (fun _=>False) rfl rfl ?aP (fun _ hk=>hk.elim) ?aF ?aO ?aB ?aS ?aL ?_;(case aP=>exact rfl);(case aB=>exact BaH);(case aF=>exact (fun _ _=>trivial));(case aO=>exact TaH);(case aS=>exact (La BaH));(case aL=>have:=NT.out;omega);intro yN ew ho hb hg hat;rw [← WC.out] at ho;have Cb:=ga.mk (xd (g:=ya) (o:=.cells #[.int .i64 Qb,.int .i64 Ja,.int .i64 Ga,.int .i64 Ia,.int .i64 Db,.int .i64 Dc,.string Bc] 65 (0,0)) DaH hg (Kd.Fk Qc.out oa.out (by decide)));have Eb:=ga.mk (hb);have Rb:=ga.mk (ho);clear oa HB Qc;have oa:=Cb;have HB:=Eb;have Qr:=Rb;clear Cb Eb Rb ho hb hg hat;have aE:ew.cell? ⟨ya,0,none⟩=some (.int .i64 Qb):=(ia oa.out 0).trans rfl;have ZD:ew.cell? ⟨ya,1,none⟩=some (.int .i64 Ja):=(ia oa.out 1).trans rfl;have YD:ew.cell? ⟨ya,2,none⟩=some (.int .i64 Ga):=(ia oa.out 2).trans rfl;have XD:ew.cell? ⟨ya,3,none⟩=some (.int .i64 Ia):=(ia oa.out 3).trans rfl;have WD:ew.cell? ⟨ya,4,none⟩=some (.int .i64 Db):=(ia oa.out 4).trans rfl;have Z5:ew.cell? ⟨ya,5,none⟩=some (.int .i64 Dc):=(ia oa.out 5).trans rfl;have Y5:ew.cell? ⟨ya,6,none⟩=some (.string Bc):=(ia oa.out 6).trans rfl;have GD:=aa oa.out 0;have FD:=aa oa.out 1;have ED:=aa oa.out 2;have DD:=aa oa.out 3;have CD:=aa oa.out 4;have Y3:=aa oa.out 5;have X3:=aa oa.out 6)|((with_reducible refine we (b:=.append) (xs:=#[.tmp 35,.tmp 38]) rfl ?_);at_builtin;refine Kd.Xh (Kd.int .i64) (w0:=w) w.heap.size rfl (.tmp 35) (.tmp 38) 22 3 (.int .i64 0) 8 rfl Try.underlying22 info3 rfl (by decide) (by omega) yN Rm Ga [.int .i64 Ga] (fun _=>True) (fun _=>False) rfl rfl ?aP (fun _ hk=>hk.elim) ?aF ?aO ?aB ?aS ?aL ?_;(case aP=>exact rfl);(case aB=>exact BaH);(case aF=>exact (fun _ _=>trivial));(case aO=>exact (by (with_reducible repeat (first|apply Kd.mb|apply Kd.jb|apply Kd.Gb));exact Qr.out));(case aS=>exact (La BaH));(case aL=>have:=v_.out;omega);intro zaa xB ho hb hg hat;rw [← DT.out] at ho;have Cb:=ga.mk (xd (g:=ya) (o:=.cells #[.int .i64 Qb,.int .i64 Ja,.int .i64 Ga,.int .i64 Ia,.int .i64 Db,.int .i64 Dc,.string Bc] 65 (0,0)) DaH hg (Kd.Fk Qr.out oa.out (by decide)));have Eb:=ga.mk (hb);have Rb:=ga.mk (ho);clear oa HB Qr;have oa:=Cb;have HB:=Eb;have UF:=Rb;clear Cb Eb Rb ho hb hg hat;have RA:xB.cell? ⟨ya,0,none⟩=some (.int .i64 Qb):=(ia oa.out 0).trans rfl;have QA:xB.cell? ⟨ya,1,none⟩=some (.int .i64 Ja):=(ia oa.out 1).trans rfl;have PA:xB.cell? ⟨ya,2,none⟩=some (.int .i64 Ga):=(ia oa.out 2).trans rfl;have OA:xB.cell? ⟨ya,3,none⟩=some (.int .i64 Ia):=(ia oa.out 3).trans rfl;have NA:xB.cell? ⟨ya,4,none⟩=some (.int .i64 Db):=(ia oa.out 4).trans rfl;have S5:xB.cell? ⟨ya,5,none⟩=some (.int .i64 Dc):=(ia oa.out 5).trans rfl;have R5:xB.cell? ⟨ya,6,none⟩=some (.string Bc):=(ia oa.out 6).trans rfl;have yA:=aa oa.out 0;have xA:=aa oa.out 1;have wA:=aa oa.out 2;have vA:=aa oa.out 3;have uA:=aa oa.out 4;have R3:=aa oa.out 5;have Q3:=aa oa.out 6)|((with_reducible refine we (b:=.append) (xs:=#[.tmp 43,.tmp 46]) rfl ?_);at_builtin;refine Kd.Xh (Kd.int .i64) (w0:=w) w.heap.size rfl (.tmp 43) (.tmp 46) 22 3 (.int .i64 0) 8 rfl Try.underlying22 info3 rfl (by decide) (by omega) zaa Tt Db [.int .i64 Db] (fun _=>True) (fun _=>False) rfl rfl ?aP (fun _ hk=>hk.elim) ?aF ?aO ?aB ?aS ?aL ?_;(case aP=>exact rfl);(case aB=>exact BaH);(case aF=>exact (fun _ _=>trivial));(case aO=>exact (by (with_reducible repeat (first|apply Kd.mb|apply Kd.jb|apply Kd.Gb));exact UF.out));(case aS=>exact (La BaH));(case aL=>have:=Cak.out;omega);intro uau oN ho hb hg hat;rw [← CT.out] at ho;have Cb:=ga.mk (xd (g:=ya) (o:=.cells #[.int .i64 Qb,.int .i64 Ja,.int .i64 Ga,.int .i64 Ia,.int .i64 Db,.int .i64 Dc,.string Bc] 65 (0,0)) DaH hg (Kd.Fk UF.out oa.out (by decide)));have Eb:=ga.mk (hb);have Rb:=ga.mk (ho);clear oa HB UF;have oa:=Cb;have HB:=Eb;have DZ:=Rb;clear Cb Eb Rb ho hb hg hat));go_ret;exact ⟨_,by first|rfl|(simp [Pa,Oa] <;> rfl)|(simp [*,Pa,Oa] <;> rfl),by (with_reducible repeat (first|apply Kd.mb|apply Kd.jb|apply Kd.Gb));exact DZ.out,EaH⟩
            ·rw [if_neg gG] at H;exact absurd H (by simp)
           ·rw [if_neg kD] at H;have aH:(Qb == 4)=false:=beq_eq_false_iff_ne.mpr kD;have Waj:(Qb != 4)=true:=bne_iff_ne.mpr kD;obtain rfl:=Option.some.inj H;have bT:wc.cell? ⟨ya,0,none⟩=some (.int .i64 Qb):=(ia oa.out 0).trans rfl;have aT:wc.cell? ⟨ya,1,none⟩=some (.int .i64 Ja):=(ia oa.out 1).trans rfl;have ZS:wc.cell? ⟨ya,2,none⟩=some (.int .i64 Ga):=(ia oa.out 2).trans rfl;have YS:wc.cell? ⟨ya,3,none⟩=some (.int .i64 Ia):=(ia oa.out 3).trans rfl;have XS:wc.cell? ⟨ya,4,none⟩=some (.int .i64 Db):=(ia oa.out 4).trans rfl;have WS:wc.cell? ⟨ya,5,none⟩=some (.int .i64 Dc):=(ia oa.out 5).trans rfl;have VS:wc.cell? ⟨ya,6,none⟩=some (.string Bc):=(ia oa.out 6).trans rfl;have NR:=aa oa.out 0;have MR:=aa oa.out 1;have LR:=aa oa.out 2;have KR:=aa oa.out 3;have JR:=aa oa.out 4;have GR:=aa oa.out 5;have FR:=aa oa.out 6;go_wp2_with (first|((with_reducible refine we (b:=.append) (xs:=#[.tmp 27,.tmp 30]) rfl ?_);at_builtin;refine Kd.Xh (Kd.int .i64) (w0:=w) w.heap.size rfl (.tmp 27) (.tmp 30) 22 3 (.int .i64 0) 8 rfl Try.underlying22 info3 rfl (by decide) (by omega) Sm Dd Ia [.int .i64 Ia] (fun _=>True) (fun _=>False) rfl rfl ?aP (fun _ hk=>hk.elim) ?aF ?aO ?aB ?aS ?aL ?_;(case aP=>exact rfl);(case aB=>exact BaH);(case aF=>exact (fun _ _=>trivial));(case aO=>exact TaH);(case aS=>exact (La BaH));(case aL=>have:=NT.out;omega);intro yN qH ho hb hg hat;rw [← WC.out] at ho;have Cb:=ga.mk (xd (g:=ya) (o:=.cells #[.int .i64 Qb,.int .i64 Ja,.int .i64 Ga,.int .i64 Ia,.int .i64 Db,.int .i64 Dc,.string Bc] 65 (0,0)) DaH hg (Kd.Fk Qc.out oa.out (by decide)));have Eb:=ga.mk (hb);have Rb:=ga.mk (ho);clear oa HB Qc;have oa:=Cb;have HB:=Eb;have Qr:=Rb;clear Cb Eb Rb ho hb hg hat;have NS:qH.cell? ⟨ya,0,none⟩=some (.int .i64 Qb):=(ia oa.out 0).trans rfl;have MS:qH.cell? ⟨ya,1,none⟩=some (.int .i64 Ja):=(ia oa.out 1).trans rfl;have LS:qH.cell? ⟨ya,2,none⟩=some (.int .i64 Ga):=(ia oa.out 2).trans rfl;have KS:qH.cell? ⟨ya,3,none⟩=some (.int .i64 Ia):=(ia oa.out 3).trans rfl;have JS:qH.cell? ⟨ya,4,none⟩=some (.int .i64 Db):=(ia oa.out 4).trans rfl;have Fas:qH.cell? ⟨ya,5,none⟩=some (.int .i64 Dc):=(ia oa.out 5).trans rfl;have Eas:qH.cell? ⟨ya,6,none⟩=some (.string Bc):=(ia oa.out 6).trans rfl;have xR:=aa oa.out 0;have wR:=aa oa.out 1;have vR:=aa oa.out 2;have uR:=aa oa.out 3;have tR:=aa oa.out 4;have wap:=aa oa.out 5;have vap:=aa oa.out 6)|((with_reducible refine we (b:=.append) (xs:=#[.tmp 35,.tmp 38]) rfl ?_);at_builtin;refine Kd.Xh (Kd.int .i64) (w0:=w) w.heap.size rfl (.tmp 35) (.tmp 38) 22 3 (.int .i64 0) 8 rfl Try.underlying22 info3 rfl (by decide) (by omega) yN Rm Ga [.int .i64 Ga] (fun _=>True) (fun _=>False) rfl rfl ?aP (fun _ hk=>hk.elim) ?aF ?aO ?aB ?aS ?aL ?_;(case aP=>exact rfl);(case aB=>exact BaH);(case aF=>exact (fun _ _=>trivial));(case aO=>exact (by (with_reducible repeat (first|apply Kd.mb|apply Kd.jb|apply Kd.Gb));exact Qr.out));(case aS=>exact (La BaH));(case aL=>have:=v_.out;omega);intro zaa AE ho hb hg hat;rw [← DT.out] at ho;have Cb:=ga.mk (xd (g:=ya) (o:=.cells #[.int .i64 Qb,.int .i64 Ja,.int .i64 Ga,.int .i64 Ia,.int .i64 Db,.int .i64 Dc,.string Bc] 65 (0,0)) DaH hg (Kd.Fk Qr.out oa.out (by decide)));have Eb:=ga.mk (hb);have Rb:=ga.mk (ho);clear oa HB Qr;have oa:=Cb;have HB:=Eb;have UF:=Rb;clear Cb Eb Rb ho hb hg hat;have GS:AE.cell? ⟨ya,0,none⟩=some (.int .i64 Qb):=(ia oa.out 0).trans rfl;have ES:AE.cell? ⟨ya,1,none⟩=some (.int .i64 Ja):=(ia oa.out 1).trans rfl;have DS:AE.cell? ⟨ya,2,none⟩=some (.int .i64 Ga):=(ia oa.out 2).trans rfl;have CS:AE.cell? ⟨ya,3,none⟩=some (.int .i64 Ia):=(ia oa.out 3).trans rfl;have BS:AE.cell? ⟨ya,4,none⟩=some (.int .i64 Db):=(ia oa.out 4).trans rfl;have Bas:AE.cell? ⟨ya,5,none⟩=some (.int .i64 Dc):=(ia oa.out 5).trans rfl;have Aas:AE.cell? ⟨ya,6,none⟩=some (.string Bc):=(ia oa.out 6).trans rfl;have sR:=aa oa.out 0;have rR:=aa oa.out 1;have qR:=aa oa.out 2;have pR:=aa oa.out 3;have oR:=aa oa.out 4;have sap:=aa oa.out 5;have rap:=aa oa.out 6));go_ret;exact ⟨_,by first|rfl|(simp [Pa,Oa] <;> rfl)|(simp [*,Pa,Oa] <;> rfl),by (with_reducible repeat (first|apply Kd.mb|apply Kd.jb|apply Kd.Gb));exact UF.out,EaH⟩
          ·rw [if_neg zF] at H;exact absurd H (by simp)
         ·rw [if_neg Dy] at H;have AF:decide (0 ≤ Ga)=false:=decide_eq_false Dy;clear Dy
          by_cases yV:Qb=4
          ·rw [if_pos yV] at H;have S9:(Qb == 4)=true:=beq_iff_eq.mpr yV;have Paj:(Qb != 4)=false:=bne_eq_false_iff_eq.mpr yV;clear yV
           by_cases L0:Rm.length < 17592186044416
           ·rw [if_pos L0] at H;have zak:=ga.mk L0;clear L0;obtain ⟨eau,KL⟩:∃ y_:List Int,y_=(Rm ++ [Db]):=⟨_,rfl⟩;replace H:(some eau)=some r:=by first|(rw [KL];with_reducible exact H)|(have Td:=(Option.bind_some _ _).symm.trans H;rw [KL];with_reducible exact Td)|(have Td:=(Option.bind_some _ _).symm.trans H;with_reducible exact Td)|with_reducible exact H|(rw [KL];exact H)|exact H
            have sak:=ga.mk KL;clear KL;obtain rfl:=Option.some.inj H;have Cx:wc.cell? ⟨ya,0,none⟩=some (.int .i64 Qb):=(ia oa.out 0).trans rfl;have Bx:wc.cell? ⟨ya,1,none⟩=some (.int .i64 Ja):=(ia oa.out 1).trans rfl;have zx:wc.cell? ⟨ya,2,none⟩=some (.int .i64 Ga):=(ia oa.out 2).trans rfl;have yx:wc.cell? ⟨ya,3,none⟩=some (.int .i64 Ia):=(ia oa.out 3).trans rfl;have xx:wc.cell? ⟨ya,4,none⟩=some (.int .i64 Db):=(ia oa.out 4).trans rfl;have DJ:wc.cell? ⟨ya,5,none⟩=some (.int .i64 Dc):=(ia oa.out 5).trans rfl;have CJ:wc.cell? ⟨ya,6,none⟩=some (.string Bc):=(ia oa.out 6).trans rfl;have Sw:=aa oa.out 0;have Rw:=aa oa.out 1;have Qw:=aa oa.out 2;have Pw:=aa oa.out 3;have Ow:=aa oa.out 4;have BI:=aa oa.out 5;have zI:=aa oa.out 6;go_wp2_with (first|((with_reducible refine we (b:=.append) (xs:=#[.tmp 27,.tmp 30]) rfl ?_);at_builtin;refine Kd.Xh (Kd.int .i64) (w0:=w) w.heap.size rfl (.tmp 27) (.tmp 30) 22 3 (.int .i64 0) 8 rfl Try.underlying22 info3 rfl (by decide) (by omega) Sm Dd Ia [.int .i64 Ia] (fun _=>True) (fun _=>False) rfl rfl ?aP (fun _ hk=>hk.elim) ?aF ?aO ?aB ?aS ?aL ?_;(case aP=>exact rfl);(case aB=>exact BaH);(case aF=>exact (fun _ _=>trivial));(case aO=>exact TaH);(case aS=>exact (La BaH));(case aL=>have:=NT.out;omega);intro yN MC ho hb hg hat;rw [← WC.out] at ho;have Cb:=ga.mk (xd (g:=ya) (o:=.cells #[.int .i64 Qb,.int .i64 Ja,.int .i64 Ga,.int .i64 Ia,.int .i64 Db,.int .i64 Dc,.string Bc] 65 (0,0)) DaH hg (Kd.Fk Qc.out oa.out (by decide)));have Eb:=ga.mk (hb);have Rb:=ga.mk (ho);clear oa HB Qc;have oa:=Cb;have HB:=Eb;have Qr:=Rb;clear Cb Eb Rb ho hb hg hat;have BJ:MC.cell? ⟨ya,0,none⟩=some (.int .i64 Qb):=(ia oa.out 0).trans rfl;have AJ:MC.cell? ⟨ya,1,none⟩=some (.int .i64 Ja):=(ia oa.out 1).trans rfl;have zJ:MC.cell? ⟨ya,2,none⟩=some (.int .i64 Ga):=(ia oa.out 2).trans rfl;have yJ:MC.cell? ⟨ya,3,none⟩=some (.int .i64 Ia):=(ia oa.out 3).trans rfl;have xJ:MC.cell? ⟨ya,4,none⟩=some (.int .i64 Db):=(ia oa.out 4).trans rfl;have sS:MC.cell? ⟨ya,5,none⟩=some (.int .i64 Dc):=(ia oa.out 5).trans rfl;have rS:MC.cell? ⟨ya,6,none⟩=some (.string Bc):=(ia oa.out 6).trans rfl;have yI:=aa oa.out 0;have xI:=aa oa.out 1;have wI:=aa oa.out 2;have vI:=aa oa.out 3;have uI:=aa oa.out 4;have fR:=aa oa.out 5;have eR:=aa oa.out 6)|((with_reducible refine we (b:=.append) (xs:=#[.tmp 43,.tmp 46]) rfl ?_);at_builtin;refine Kd.Xh (Kd.int .i64) (w0:=w) w.heap.size rfl (.tmp 43) (.tmp 46) 22 3 (.int .i64 0) 8 rfl Try.underlying22 info3 rfl (by decide) (by omega) yN Rm Db [.int .i64 Db] (fun _=>True) (fun _=>False) rfl rfl ?aP (fun _ hk=>hk.elim) ?aF ?aO ?aB ?aS ?aL ?_;(case aP=>exact rfl);(case aB=>exact BaH);(case aF=>exact (fun _ _=>trivial));(case aO=>exact (by (with_reducible repeat (first|apply Kd.mb|apply Kd.jb|apply Kd.Gb));exact Qr.out));(case aS=>exact (La BaH));(case aL=>have:=zak.out;omega);intro LaD w43 ho hb hg hat;rw [← sak.out] at ho;have Cb:=ga.mk (xd (g:=ya) (o:=.cells #[.int .i64 Qb,.int .i64 Ja,.int .i64 Ga,.int .i64 Ia,.int .i64 Db,.int .i64 Dc,.string Bc] 65 (0,0)) DaH hg (Kd.Fk Qr.out oa.out (by decide)));have Eb:=ga.mk (hb);have Rb:=ga.mk (ho);clear oa HB Qr;have oa:=Cb;have HB:=Eb;have eal:=Rb;clear Cb Eb Rb ho hb hg hat));go_ret;exact ⟨_,by first|rfl|(simp [Pa,Oa] <;> rfl)|(simp [*,Pa,Oa] <;> rfl),by (with_reducible repeat (first|apply Kd.mb|apply Kd.jb|apply Kd.Gb));exact eal.out,EaH⟩
           ·rw [if_neg L0] at H;exact absurd H (by simp)
          ·rw [if_neg yV] at H;have S9:(Qb == 4)=false:=beq_eq_false_iff_ne.mpr yV;have Paj:(Qb != 4)=true:=bne_iff_ne.mpr yV;obtain rfl:=Option.some.inj H;have wJ:wc.cell? ⟨ya,0,none⟩=some (.int .i64 Qb):=(ia oa.out 0).trans rfl;have vJ:wc.cell? ⟨ya,1,none⟩=some (.int .i64 Ja):=(ia oa.out 1).trans rfl;have uJ:wc.cell? ⟨ya,2,none⟩=some (.int .i64 Ga):=(ia oa.out 2).trans rfl;have tJ:wc.cell? ⟨ya,3,none⟩=some (.int .i64 Ia):=(ia oa.out 3).trans rfl;have sJ:wc.cell? ⟨ya,4,none⟩=some (.int .i64 Db):=(ia oa.out 4).trans rfl;have kS:wc.cell? ⟨ya,5,none⟩=some (.int .i64 Dc):=(ia oa.out 5).trans rfl;have jS:wc.cell? ⟨ya,6,none⟩=some (.string Bc):=(ia oa.out 6).trans rfl;have tI:=aa oa.out 0;have sI:=aa oa.out 1;have rI:=aa oa.out 2;have qI:=aa oa.out 3;have pI:=aa oa.out 4;have XQ:=aa oa.out 5;have WQ:=aa oa.out 6;go_wp2_with (first|((with_reducible refine we (b:=.append) (xs:=#[.tmp 27,.tmp 30]) rfl ?_);at_builtin;refine Kd.Xh (Kd.int .i64) (w0:=w) w.heap.size rfl (.tmp 27) (.tmp 30) 22 3 (.int .i64 0) 8 rfl Try.underlying22 info3 rfl (by decide) (by omega) Sm Dd Ia [.int .i64 Ia] (fun _=>True) (fun _=>False) rfl rfl ?aP (fun _ hk=>hk.elim) ?aF ?aO ?aB ?aS ?aL ?_;(case aP=>exact rfl);(case aB=>exact BaH);(case aF=>exact (fun _ _=>trivial));(case aO=>exact TaH);(case aS=>exact (La BaH));(case aL=>have:=NT.out;omega);intro yN Y0 ho hb hg hat;rw [← WC.out] at ho;have Cb:=ga.mk (xd (g:=ya) (o:=.cells #[.int .i64 Qb,.int .i64 Ja,.int .i64 Ga,.int .i64 Ia,.int .i64 Db,.int .i64 Dc,.string Bc] 65 (0,0)) DaH hg (Kd.Fk Qc.out oa.out (by decide)));have Eb:=ga.mk (hb);have Rb:=ga.mk (ho);clear oa HB Qc;have oa:=Cb;have HB:=Eb;have Qr:=Rb;clear Cb Eb Rb ho hb hg hat;have iS:Y0.cell? ⟨ya,0,none⟩=some (.int .i64 Qb):=(ia oa.out 0).trans rfl;have gS:Y0.cell? ⟨ya,1,none⟩=some (.int .i64 Ja):=(ia oa.out 1).trans rfl;have fS:Y0.cell? ⟨ya,2,none⟩=some (.int .i64 Ga):=(ia oa.out 2).trans rfl;have eS:Y0.cell? ⟨ya,3,none⟩=some (.int .i64 Ia):=(ia oa.out 3).trans rfl;have dS:Y0.cell? ⟨ya,4,none⟩=some (.int .i64 Db):=(ia oa.out 4).trans rfl;have L5:Y0.cell? ⟨ya,5,none⟩=some (.int .i64 Dc):=(ia oa.out 5).trans rfl;have K5:Y0.cell? ⟨ya,6,none⟩=some (.string Bc):=(ia oa.out 6).trans rfl;have VQ:=aa oa.out 0;have UQ:=aa oa.out 1;have TQ:=aa oa.out 2;have SQ:=aa oa.out 3;have RQ:=aa oa.out 4;have K3:=aa oa.out 5;have J3:=aa oa.out 6));go_ret;exact ⟨_,by first|rfl|(simp [Pa,Oa] <;> rfl)|(simp [*,Pa,Oa] <;> rfl),by (with_reducible repeat (first|apply Kd.mb|apply Kd.jb|apply Kd.Gb));exact Qr.out,EaH⟩
        ·rw [if_neg bH] at H;exact absurd H (by simp)
       ·replace Ir:=Bool.eq_false_iff.mpr Ir;subst Ir;have H1:(some Dd)=some r:=by rw [if_neg (show ¬ (false=true) by decide)] at H;exact H
        clear H;have H:=H1;clear H1;obtain rfl:=Option.some.inj H;go_wp2;go_ret;exact ⟨_,by first|rfl|(simp [Pa,Oa] <;> rfl)|(simp [*,Pa,Oa] <;> rfl),PaH,EaH⟩
mutual
def ue.j0:Nat→List Bool→Int→Int→Int→Int→Int→Int→ByteArray→Option (List Bool)
 | 0,_,_,_,_,_,_,_,_=>none
 | k + 1,x0,Fc,Uc,Mc,Ic,jc,dn,bn=>(Gd.f k Fc Uc Mc Ic jc dn bn).bind fun t104=>(ue.l0 k x0 t104 (t104.length:Int) 0)
def ue.l0:Nat→List Bool→List Int→Int→Int→Option (List Bool)
 | 0,_,_,_,_=>none
 | k + 1,x0,vB,qD,kz=>if kz < qD then (if 0 ≤ kz then (if kz < (vB.length:Int) then (if 0 ≤ (rd vB kz) then (if (rd vB kz) < (x0.length:Int) then (ue.l0 k (x0.set ((rd vB kz):Int).toNat true) vB qD (wrap64 (kz + 1))) else (none)) else (none)) else (none)) else (none)) else (some x0)
end
def ue.f (k:Nat) (l0:List Bool) (Lc:Int) (Zb:Int) (Tb:Int) (Ub:Int) (nc:Int) (Wc:Int) (zd:ByteArray):Option (List Bool):=(Th.f Lc Zb Tb Ub nc Wc zd).bind fun t102=>(if t102 ≥ 0 then (if 0 ≤ t102 then (if t102 < (l0.length:Int) then (ue.j0 k (l0.set (t102:Int).toNat false) Lc Zb Tb Ub nc Wc zd) else (none)) else (none)) else (ue.j0 k l0 Lc Zb Tb Ub nc Wc zd))
theorem ue.calls (k:Nat) (Ml:Nat→Prop) (Eg:Value) (l0:List Bool) (Lc:Int) (Zb:Int) (Tb:Int) (Ub:Int) (nc:Int) (Wc:Int) (zd:ByteArray) (r:List Bool) (w0 w:World) (hB:Below w0.heap.size w0 w) (Hi:Kd.R Kd.bool 4 w w0.heap.size Ml Eg l0) (h:ue.f k l0 Lc Zb Tb Ub nc Wc zd=some r) :
  Calls Try.prog 79 #[Eg,.agg #[.int .i64 Lc,.int .i64 Zb,.int .i64 Tb,.int .i64 Ub,.int .i64 nc,.int .i64 Wc,.string zd]] w fun e w'=>e = .returned (.tuple #[])∧Kd.R Kd.bool 4 w' w0.heap.size (fun k_=>(Ml k_ ∨ w.heap.size ≤ k_)) Eg r∧Below w0.heap.size w0 w'∧Kept w w' (fun k_=>Ml k_):=by
 have kA:=Try.underlying65;have jH:=ga.mk (show Kd.R Kd.bool 4 w w0.heap.size (fun k_=>(Ml k_ ∨ w.heap.size ≤ k_)) Eg l0 from Kd.Xd Hi (fun k_ hk=>(.inl hk)));have HK:=ga.mk (Kept.refl w (fun k_=>Ml k_));have HW0:=ga.mk hB.size;have HB:=ga.mk hB;clear hB;have H:((Th.f Lc Zb Tb Ub nc Wc zd).bind fun t102=>(if t102 ≥ 0 then (if 0 ≤ t102 then (if t102 < (l0.length:Int) then (ue.j0 k (l0.set (t102:Int).toNat false) Lc Zb Tb Ub nc Wc zd) else (none)) else (none)) else (ue.j0 k l0 Lc Zb Tb Ub nc Wc zd)))=some r:=h;clear h;replace H:=Option.bind_eq_some_iff.mp H;obtain ⟨t102,Zv,H⟩:=H;replace H:(if t102 ≥ 0 then (if 0 ≤ t102 then (if t102 < (l0.length:Int) then (ue.j0 k (l0.set (t102:Int).toNat false) Lc Zb Tb Ub nc Wc zd) else (none)) else (none)) else (ue.j0 k l0 Lc Zb Tb Ub nc Wc zd))=some r:=H;have A3:=ga.mk Zv;clear Zv;have R0:=ga.mk H;clear H;go_enter Try.func79,Try.ntmps79
 go_upto_if 10 with (first|((with_reducible refine qb (N:=3) rfl ?_);refine Ib ?hg (N:=3) ?hd (cs:=#[.int .i64 Lc,.int .i64 Zb,.int .i64 Tb,.int .i64 Ub,.int .i64 nc,.int .i64 Wc,.string zd]) (t:=65) ?hr ?_;(case hd=>rfl);(case hg=>rfl);(case hr=>first|(go_simp;done)|(go_simp;rfl));intro ya hg w5 Sb hb;have Cb:=ga.mk (Kd.oc (by (with_reducible repeat (first|apply Kd.mb|apply Kd.jb|apply Kd.Gb));exact jH.out) hb);have Eb:=ga.mk (Kept.below (S:=(fun k_=>Ml k_)) QaH hb);have Rb:=ga.mk (Na CaH hb);have Gc:=ga.mk (Sb);have kg:=ga.mk ((by rw [hg];exact (by first|exact HK.out.1|exact (show Kept w _ (fun k_=>Ml k_) from by repeat (first|(with_reducible first|exact HK.out|apply Kept.alloc|apply Kept.drewN|apply Kept.drew)|exact HK.out)).1):w.heap.size ≤ ya));have Rg:=ga.mk ((by rw [hg];exact (La CaH):w0.heap.size ≤ ya));clear jH HK HB;have jH:=Cb;have HK:=Eb;have HB:=Rb;have oa:=Gc;have Nd:=kg;have Ta:=Rg;clear Cb Eb Rb Gc kg Rg hb Sb hg;have ur:w5.cell? ⟨ya,0,none⟩=some (.int .i64 Lc):=(ia oa.out 0).trans rfl;have tr:w5.cell? ⟨ya,1,none⟩=some (.int .i64 Zb):=(ia oa.out 1).trans rfl;have sr:w5.cell? ⟨ya,2,none⟩=some (.int .i64 Tb):=(ia oa.out 2).trans rfl;have nr:w5.cell? ⟨ya,3,none⟩=some (.int .i64 Ub):=(ia oa.out 3).trans rfl;have kr:w5.cell? ⟨ya,4,none⟩=some (.int .i64 nc):=(ia oa.out 4).trans rfl;have av:w5.cell? ⟨ya,5,none⟩=some (.int .i64 Wc):=(ia oa.out 5).trans rfl;have Zu:w5.cell? ⟨ya,6,none⟩=some (.string zd):=(ia oa.out 6).trans rfl;have jr:=aa oa.out 0;have ir:=aa oa.out 1;have gr:=aa oa.out 2;have er:=aa oa.out 3;have dr:=aa oa.out 4;have Ju:=aa oa.out 5;have Iu:=aa oa.out 6)|((with_reducible refine Bb (f:=87) rfl ?_);refine Tc (some 8) rfl rfl Try.func87 (by kernel_rfl) rfl #[.agg #[.int .i64 Lc,.int .i64 Zb,.int .i64 Tb,.int .i64 Ub,.int .i64 nc,.int .i64 Wc,.string zd]] rfl FaH ?_;(with_reducible refine (Th.calls Lc Zb Tb Ub nc Wc zd t102 _ A3.out).mono ?_);rintro e w7 ⟨rfl,hb⟩;refine ⟨_,rfl,?_⟩;have Cb:=ga.mk (Kd.oc (by (with_reducible repeat (first|apply Kd.mb|apply Kd.jb|apply Kd.Gb));exact jH.out) hb);have Eb:=ga.mk (Va (g:=ya) (o:=.cells #[.int .i64 Lc,.int .i64 Zb,.int .i64 Tb,.int .i64 Ub,.int .i64 nc,.int .i64 Wc,.string zd] 65 (0,0)) DaH hb);have Rb:=ga.mk (Kept.below (S:=(fun k_=>Ml k_)) SaH hb);have Gc:=ga.mk (Na BaH hb);clear jH oa HK HB;have jH:=Cb;have oa:=Eb;have HK:=Rb;have HB:=Gc;clear Cb Eb Rb Gc;(try clear hb);(try clear jj);(try clear hk);(try clear hi)))
 (try simp only [Act.put,List.setIfInBounds_toArray,List.set_cons_zero,List.set_cons_succ])
 go_cut [] (fun wc=>∃ (kq:Nat) (IV:List Bool),ga (ue.j0 kq IV Lc Zb Tb Ub nc Wc zd=some r)∧ga (kq ≤ k)∧ga (Kd.R Kd.bool 4 wc w0.heap.size (fun k_=>(Ml k_ ∨ w.heap.size ≤ k_)) Eg IV)∧ga (wc.heap[ya]? = some (.cells #[.int .i64 Lc,.int .i64 Zb,.int .i64 Tb,.int .i64 Ub,.int .i64 nc,.int .i64 Wc,.string zd] 65 (0,0)))∧ga (Kept w wc (fun k_=>Ml k_))∧ga (Below w0.heap.size w0 wc))
 case first =>
  have H:=R0.out;clear R0
  by_cases c8:t102 ≥ 0
  ·rw [if_pos c8] at H;have Qt:decide (0 ≤ t102)=true:=decide_eq_true c8;clear c8;(first|rw [Qt]|(simp only [qc,tc];rw [Qt])|skip)
   by_cases c9:0 ≤ t102
   ·rw [if_pos c9] at H;have gy:decide (0 ≤ t102)=true:=decide_eq_true c9;clear c9
    by_cases Gt:t102 < (l0.length:Int)
    ·rw [if_pos Gt] at H;have iu:decide (t102 < (l0.length:Int))=true:=decide_eq_true Gt;clear Gt;obtain ⟨qg,Ql⟩:∃ y_:List Bool,y_=(l0.set (t102:Int).toNat false):=⟨_,rfl⟩;replace H:(ue.j0 k qg Lc Zb Tb Ub nc Wc zd)=some r:=by first|(rw [Ql];with_reducible exact H)|(have Td:=(Option.bind_some _ _).symm.trans H;rw [Ql];with_reducible exact Td)|(have Td:=(Option.bind_some _ _).symm.trans H;with_reducible exact Td)|with_reducible exact H|(rw [Ql];exact H)|exact H
     have XC:=ga.mk Ql;clear Ql;have H':=ga.mk H;clear H;have iL:0 ≤ (t102:Int):=Ua;have gL:(t102:Int) < ((l0.length:Int):Int):=Ua;obtain ⟨oF,xw,AO,JX,Rab,uax,JZ⟩:=Kd.Ul jH.out (by omega);(first|cases AO|(injection AO with Kk Xy Yy;(first|subst Kk|(injection Kk with Kk;subst Kk));subst Yy;clear Xy));have Sad:=ga.mk JX;have zay:=ga.mk JZ;clear JX Rab JZ;have Ead:=ga.mk (show (Ml oF ∨ w.heap.size ≤ oF) from (jH.out.1 _ rfl));obtain ⟨gF,Aab⟩:=Kd.Cj false jH.out (t102:Int) iL gL;replace iL:=eq_true iL;replace gL:=eq_true gL;have RF:=Kd.yo jH.out (t102:Int) false;go_wp2_with (first|((with_reducible refine af (t:=4) (p:=13) rfl ?_);refine Ie (t:=4) (p:=13) (v:=?LV) (w1:=(w7.setCell ⟨oF,(t102:Int).toNat,none⟩ (.bool false))) ?hg ?ho ?hn ?hr ?_;(case ho=>rfl);(case hg=>rfl);(case hn=>rfl);(case hr=>first|(go_simp;done)|(go_simp;rfl));intro Wr hw;have hg:w7.grownBy Wr (some oF):=(by rw [hw];exact RF.2);have Pm:Kd.R Kd.bool 4 Wr w0.heap.size (fun k_=>(Ml k_ ∨ w.heap.size ≤ k_)) (.slice (some ⟨oF,0,none⟩) l0.length xw) qg:=(by rw [hw,XC.out];exact RF.1);clear RF;have Cb:=ga.mk (Pm);have Eb:=ga.mk (xd (g:=ya) (o:=.cells #[.int .i64 Lc,.int .i64 Zb,.int .i64 Tb,.int .i64 Ub,.int .i64 nc,.int .i64 Wc,.string zd] 65 (0,0)) DaH hg (Kd.Fk jH.out oa.out (by decide)));have Rb:=ga.mk ((by rw [hw];exact ua (HB.out) Sad.out:Below w0.heap.size w0 Wr));have Gc:=ga.mk (Kept.mj (S:=(fun k_=>Ml k_)) hg SaH (fun k_ e_=>(jH.out.1 k_ e_)));clear jH oa HB HK;have jH:=Cb;have oa:=Eb;have HB:=Rb;have HK:=Gc;clear Cb Eb Rb Gc hg hw Pm))
     go_meet
     case rel=>exact ⟨_,(qg),H',⟨by first|omega|exact Nat.le_refl _⟩,⟨vaI⟩,⟨HaH⟩,⟨MaH⟩,⟨EaH⟩⟩
    ·rw [if_neg Gt] at H;exact absurd H (by simp)
   ·rw [if_neg c9] at H;exact absurd H (by simp)
  ·rw [if_neg c8] at H;have Qt:decide (0 ≤ t102)=false:=decide_eq_false c8;clear c8;(first|rw [Qt]|(simp only [qc,tc];rw [Qt])|skip);have H':=ga.mk H;clear H;go_wp2
   go_meet
   case rel=>exact ⟨_,(l0),H',⟨by first|omega|exact Nat.le_refl _⟩,⟨vaI⟩,⟨HaH⟩,⟨MaH⟩,⟨EaH⟩⟩
 case rest =>
  clear R0
  try clear c1
  try clear p1
  try clear q1
  try clear hx1
  try clear p2
  try clear c7
  try clear c8
  try clear Qt
  try clear c9
  try clear gy
  try clear Gt
  try clear iu
  try clear iL
  try clear gL
  try clear EW
  try clear Bab
  try clear ur
  try clear tr
  try clear sr
  try clear nr
  try clear kr
  try clear av
  try clear Zu
  try clear jr
  try clear ir
  try clear gr
  try clear er
  try clear dr
  try clear Ju
  try clear Iu
  try clear gF
  try clear iL
  try clear gL
  obtain ⟨kq,IV,HA,HJ3,gf,oa,HK,HB⟩:=hcut;cases kq with
  | zero=>exact absurd HA.out (by simp [ue.j0])
  | succ K2 =>
   have H:=HA.out;clear HA;simp only [ue.j0] at H;replace H:=Option.bind_eq_some_iff.mp H;obtain ⟨t104,jN,H⟩:=H;replace H:(ue.l0 K2 IV t104 (t104.length:Int) 0)=some r:=H;have A14:=ga.mk jN;clear jN;have H':=ga.mk H;clear H;have cB:wc.cell? ⟨ya,0,none⟩=some (.int .i64 Lc):=(ia oa.out 0).trans rfl;have bB:wc.cell? ⟨ya,1,none⟩=some (.int .i64 Zb):=(ia oa.out 1).trans rfl;have ZA:wc.cell? ⟨ya,2,none⟩=some (.int .i64 Tb):=(ia oa.out 2).trans rfl;have YA:wc.cell? ⟨ya,3,none⟩=some (.int .i64 Ub):=(ia oa.out 3).trans rfl;have XA:wc.cell? ⟨ya,4,none⟩=some (.int .i64 nc):=(ia oa.out 4).trans rfl;have N6:wc.cell? ⟨ya,5,none⟩=some (.int .i64 Wc):=(ia oa.out 5).trans rfl;have M6:wc.cell? ⟨ya,6,none⟩=some (.string zd):=(ia oa.out 6).trans rfl;have JA:=aa oa.out 0;have IA:=aa oa.out 1;have GA:=aa oa.out 2;have FA:=aa oa.out 3;have EA:=aa oa.out 4;have P4:=aa oa.out 5;have O4:=aa oa.out 6;go_wp2_with (first|((with_reducible refine Bb (f:=88) rfl ?_);refine Tc (some 15) rfl rfl Try.func88 (by kernel_rfl) rfl #[.agg #[.int .i64 Lc,.int .i64 Zb,.int .i64 Tb,.int .i64 Ub,.int .i64 nc,.int .i64 Wc,.string zd]] rfl FaH ?_;(with_reducible refine (Gd.calls K2 Lc Zb Tb Ub nc Wc zd t104 _ A14.out).mono ?_);rintro e qz ⟨D1,rfl,Hi,hb⟩;refine ⟨_,rfl,?_⟩;have Cb:=ga.mk (Kd.oc YaH hb);have Eb:=ga.mk (Kd.Wd (Kd.yY (M:=fun k_=>(Ml k_ ∨ w.heap.size ≤ k_)) Hi (by first|exact HK.out.1|exact (show Kept w _ (fun k_=>Ml k_) from by repeat (first|(with_reducible first|exact HK.out|apply Kept.alloc|apply Kept.drewN|apply Kept.drew|refine Kept.setCell ?_ (.inr Nd.out) _)|exact HK.out)).1) (fun k_ h_=>.inr h_)) (La BaH));have Rb:=ga.mk (Va (g:=ya) (o:=.cells #[.int .i64 Lc,.int .i64 Zb,.int .i64 Tb,.int .i64 Ub,.int .i64 nc,.int .i64 Wc,.string zd] 65 (0,0)) DaH hb);have Gc:=ga.mk (Kept.below (S:=(fun k_=>Ml k_)) SaH hb);have kg:=ga.mk (Na BaH hb);clear gf oa HK HB;have gf:=Cb;have su:=Eb;have oa:=Rb;have HK:=Gc;have HB:=kg;clear Cb Eb Rb Gc kg;(try clear hb);(try clear jj);(try clear hk);(try clear hi);(try clear Hi);obtain ⟨Oay,sax,dax⟩:=Kd.Bd su.out;subst dax))
   go_loopg [17] K2 (fun kq v17 w'=>∃ (pH:List Bool) (ij:Int),v17 = .int .i64 ij∧ga (ue.l0 kq pH t104 (t104.length:Int) ij=some r)∧ga (kq ≤ K2)∧ga (Kd.R Kd.bool 4 w' w0.heap.size (fun k_=>(Ml k_ ∨ w.heap.size ≤ k_)) Eg pH)∧ga (Kd.R (Kd.int .i64) 3 w' w0.heap.size (fun k_=>(Ml k_ ∨ w.heap.size ≤ k_)) (.slice Oay t104.length sax) t104)∧ga (w'.heap[ya]? = some (.cells #[.int .i64 Lc,.int .i64 Zb,.int .i64 Tb,.int .i64 Ub,.int .i64 nc,.int .i64 Wc,.string zd] 65 (0,0)))∧ga (Kept w w' (fun k_=>Ml k_))∧ga (Below w0.heap.size w0 w'))
   case atStart=>exact ⟨(IV),(0),IaH,H',⟨Nat.le_refl _⟩,⟨iaI⟩,⟨by (with_reducible repeat (first|apply Kd.mb|apply Kd.jb|apply Kd.Gb));exact Kd.Xd su.out (fun _ hk=>hk.1)⟩,⟨HaH⟩,⟨MaH⟩,⟨EaH⟩⟩
   case round =>
    clear H'
    try clear c1
    try clear p1
    try clear q1
    try clear hx1
    try clear p2
    try clear c7
    try clear c8
    try clear Qt
    try clear c9
    try clear gy
    try clear Gt
    try clear iu
    try clear iL
    try clear gL
    try clear EW
    try clear Bab
    try clear cB
    try clear bB
    try clear ZA
    try clear YA
    try clear XA
    try clear N6
    try clear M6
    try clear ur
    try clear tr
    try clear sr
    try clear nr
    try clear kr
    try clear av
    try clear Zu
    try clear JA
    try clear IA
    try clear GA
    try clear FA
    try clear EA
    try clear P4
    try clear O4
    try clear jr
    try clear ir
    try clear gr
    try clear er
    try clear dr
    try clear Ju
    try clear Iu
    try clear gF
    try clear p1
    try clear iL
    try clear p2
    try clear q1
    try clear gL
    (try clear HA);(try clear Cm);(try clear gf);(try clear iH);(try clear oa);(try clear HK);(try clear HB);obtain ⟨pH,ij,rfl,HA,Cm,gf,iH,oa,HK,HB⟩:=hrel;cases gk with
    | zero=>exact absurd HA.out (by simp [ue.l0])
    | succ k2 =>
     have H:=HA.out;clear HA;simp only [ue.l0] at H
     by_cases Ko:ij < (t104.length:Int)
     ·rw [if_pos Ko] at H;have Jo:decide (ij < (t104.length:Int))=true:=decide_eq_true Ko;clear Ko
      by_cases Ll:0 ≤ ij
      ·rw [if_pos Ll] at H;have Kr:decide (0 ≤ ij)=true:=decide_eq_true Ll;clear Ll
       by_cases vm:ij < (t104.length:Int)
       ·rw [if_pos vm] at H;have Jr:decide (ij < (t104.length:Int))=true:=decide_eq_true vm;clear vm
        by_cases Ir:0 ≤ (rd t104 ij)
        ·rw [if_pos Ir] at H;have GM:decide (0 ≤ (rd t104 ij))=true:=decide_eq_true Ir;clear Ir
         by_cases bH:(rd t104 ij) < (pH.length:Int)
         ·rw [if_pos bH] at H;have Xaj:decide ((rd t104 ij) < (pH.length:Int))=true:=decide_eq_true bH;clear bH;obtain ⟨gh,Ef⟩:∃ y_:List Bool,y_=(pH.set ((rd t104 ij):Int).toNat true):=⟨_,rfl⟩;replace H:(ue.l0 k2 gh t104 (t104.length:Int) (wrap64 (ij + 1)))=some r:=by first|(rw [Ef];with_reducible exact H)|(have Td:=(Option.bind_some _ _).symm.trans H;rw [Ef];with_reducible exact Td)|(have Td:=(Option.bind_some _ _).symm.trans H;with_reducible exact Td)|with_reducible exact H|(rw [Ef];exact H)|exact H
          have Wj:=ga.mk Ef;clear Ef;have H':=ga.mk H;clear H;have Zx:0 ≤ (ij:Int):=Ua;have Yx:ij < (t104.length:Int):=Ua;obtain ⟨Fy,FO,Fs⟩:=Kd.Rf (Kd.Vb iH.out).2.2 ij Zx Yx;cases FO;replace Zx:=eq_true Zx;replace Yx:=eq_true Yx;have p23:0 ≤ ((rd t104 ij):Int):=Ua;have q23:((rd t104 ij):Int) < ((pH.length:Int):Int):=Ua;obtain ⟨WU,cac,j7,daj,Iaw,faF,Jal⟩:=Kd.Ul gf.out (by omega);(first|cases j7|(injection j7 with Kk Xy Yy;(first|subst Kk|(injection Kk with Kk;subst Kk));subst Yy;clear Xy));have Gay:=ga.mk daj;have kaG:=ga.mk Jal;clear daj Iaw Jal;have Yax:=ga.mk (show (Ml WU ∨ w.heap.size ≤ WU) from (gf.out.1 _ rfl));obtain ⟨Wau,haw⟩:=Kd.Cj false gf.out ((rd t104 ij):Int) p23 q23;replace p23:=eq_true p23;replace q23:=eq_true q23;have QF:=Kd.yo gf.out ((rd t104 ij):Int) true;go_wp2_with (first|((with_reducible refine af (t:=4) (p:=23) rfl ?_);refine Ie (t:=4) (p:=23) (v:=?KV) (w1:=(wr.setCell ⟨WU,((rd t104 ij):Int).toNat,none⟩ (.bool true))) ?hg ?ho ?hn ?hr ?_;(case ho=>rfl);(case hg=>rfl);(case hn=>rfl);(case hr=>first|(go_simp;done)|(go_simp;rfl));intro Jy hw;have hg:wr.grownBy Jy (some WU):=(by rw [hw];exact QF.2);have Pm:Kd.R Kd.bool 4 Jy w0.heap.size (fun k_=>(Ml k_ ∨ w.heap.size ≤ k_)) (.slice (some ⟨WU,0,none⟩) pH.length cac) gh:=(by rw [hw,Wj.out];exact QF.1);clear QF;have Cb:=ga.mk (Pm);have Eb:=ga.mk (Kd.Jv (v:=(.slice (some ⟨WU,0,none⟩) pH.length cac)) (by (with_reducible repeat (first|apply Kd.mb|apply Kd.jb|apply Kd.Gb));exact iH.out) (Kd.Ht gf.out) (by decide) hg);have Rb:=ga.mk (xd (g:=ya) (o:=.cells #[.int .i64 Lc,.int .i64 Zb,.int .i64 Tb,.int .i64 Ub,.int .i64 nc,.int .i64 Wc,.string zd] 65 (0,0)) DaH hg (Kd.Fk gf.out oa.out (by decide)));have Gc:=ga.mk ((by rw [hw];exact ua (HB.out) Gay.out:Below w0.heap.size w0 Jy));have kg:=ga.mk (Kept.mj (S:=(fun k_=>Ml k_)) hg SaH (fun k_ e_=>(gf.out.1 k_ e_)));clear gf iH oa HB HK;have gf:=Cb;have iH:=Eb;have oa:=Rb;have HB:=Gc;have HK:=kg;clear Cb Eb Rb Gc kg hg hw Pm))
          go_roundg k2
          case measure=>have:=HJ3.out;have:=Cm.out;omega
          case rel=>exact ⟨(gh),(wrap64 (ij + 1)),IaH,H',⟨by have:=HJ3.out;have:=Cm.out;omega⟩,⟨iaI⟩,⟨by (with_reducible repeat (first|apply Kd.mb|apply Kd.jb|apply Kd.Gb));exact iH.out⟩,⟨HaH⟩,⟨MaH⟩,⟨EaH⟩⟩
         ·rw [if_neg bH] at H;exact absurd H (by simp)
        ·rw [if_neg Ir] at H;exact absurd H (by simp)
       ·rw [if_neg vm] at H;exact absurd H (by simp)
      ·rw [if_neg Ll] at H;exact absurd H (by simp)
     ·rw [if_neg Ko] at H;have Jo:decide (ij < (t104.length:Int))=false:=decide_eq_false Ko;clear Ko;obtain rfl:=Option.some.inj H;go_wp2
      first|go_end0|((try simp only [Exit.inBlock,Exit.then]);refine bodyPost_ret (results_none rfl _ _ _) rfl ?_)
      exact ⟨by first|rfl|(simp [Pa,Oa] <;> rfl)|(simp [*,Pa,Oa] <;> rfl),iaI,EaH,MaH⟩
theorem Rq {x:Le} (h:x.f0=1 ∨ x.f0=6):Og x=[x.f2]:=if_pos h
theorem zB {x:Le} (h:x.f0=2):Og x=[x.f2,x.f3]:=by
 unfold Og;rw [if_neg (by omega),if_pos h]
theorem Gw {x:Le} (h:x.f0=3 ∨ x.f0=4):Og x=[x.f3] ++ (if 0 ≤ x.f2 then [x.f2] else []) ++ (if x.f0=4 then [x.f4] else []):=by
 unfold Og;rw [if_neg (by omega),if_neg (by omega),if_pos h]
theorem rz {x:Le} (h1:¬ (x.f0=1 ∨ x.f0=6)) (h2:¬ x.f0=2) (h3:¬ (x.f0=3 ∨ x.f0=4)):Og x=[]:=by
 unfold Og;rw [if_neg h1,if_neg h2,if_neg h3]
theorem IE {x:Le} (ha:0 ≤ x.f2) (h4:x.f0=4):Og x=[x.f3] ++ [x.f2] ++ [x.f4]:=by rw [Gw (Or.inr h4),if_pos ha,if_pos h4]
theorem FE {x:Le} (ha:0 ≤ x.f2) (h3:x.f0=3 ∨ x.f0=4) (h4:¬ x.f0=4):Og x=[x.f3] ++ [x.f2]:=by rw [Gw h3,if_pos ha,if_neg h4];rfl
theorem EE {x:Le} (ha:¬ 0 ≤ x.f2) (h4:x.f0=4):Og x=[x.f3] ++ [x.f4]:=by rw [Gw (Or.inr h4),if_neg ha,if_pos h4];rfl
theorem DE {x:Le} (ha:¬ 0 ≤ x.f2) (h3:x.f0=3 ∨ x.f0=4) (h4:¬ x.f0=4):Og x=[x.f3]:=by rw [Gw h3,if_neg ha,if_neg h4];rfl
theorem XG (x:Le):Ev (fun k=>Gd.f k x.f0 x.f1 x.f2 x.f3 x.f4 x.f5 x.f6) (Og x):=by
 unfold Gd.f;refine Ev.val ?_
 by_cases h1:x.f0=1
 ·rw [Rq (Or.inl h1)];refine Ev.pos h1 (Ev.step (fun k=>by rw [Gd.j0]) ?_);exact Ev.pos (by rw [h1];rfl) (Ev.pos (by simp) (Ev.now _))
 refine Ev.neg h1 (Ev.step (fun k=>by rw [Gd.j0]) ?_)
 by_cases h6:x.f0=6
 ·rw [Rq (Or.inr h6)];exact Ev.pos (by rw [h6];rfl) (Ev.pos (by simp) (Ev.now _))
 refine Ev.neg (by simp [h6]) ?_
 by_cases h2:x.f0=2
 ·rw [zB h2];exact Ev.pos h2 (Ev.val (Ev.pos (by simp) (Ev.now _)))
 refine Ev.neg h2 ?_
 have key:∀ b:Bool,(b=true ↔ x.f0=3 ∨ x.f0=4)→Ev (fun k=>Gd.j1 k [] b x.f0 x.f1 x.f2 x.f3 x.f4 x.f5 x.f6) (Og x):=by
  intro b hb;refine Ev.step (fun k=>by rw [Gd.j1]) ?_
  by_cases U6:b=true
  ·have h34:=hb.1 U6;refine Ev.pos U6 (Ev.pos (by simp) (Ev.val ?_))
   by_cases ha:0 ≤ x.f2
   ·refine Ev.pos ha (Ev.pos (by simp) (Ev.val ?_))
    by_cases h4:x.f0=4
    ·rw [IE ha h4];exact Ev.pos h4 (Ev.pos (by simp) (Ev.now _))
    ·rw [FE ha h34 h4];exact Ev.neg h4 (Ev.now _)
   ·refine Ev.neg ha ?_
    by_cases h4:x.f0=4
    ·rw [EE ha h4];exact Ev.pos h4 (Ev.pos (by simp) (Ev.now _))
    ·rw [DE ha h34 h4];exact Ev.neg h4 (Ev.now _)
  ·rw [rz (fun h=>h.elim h1 h6) h2 (fun h=>U6 (hb.2 h))];exact Ev.neg U6 (Ev.now _)
 by_cases h3:x.f0=3
 ·exact Ev.pos h3 (key _ (by simp [h3]))
 ·exact Ev.neg h3 (key _ (by simp [h3]))
theorem gK (x:Le):Ev (fun k=>Ke.f k x.f0 x.f1 x.f2 x.f3 x.f4 x.f5 x.f6) (Og x):=by
 unfold Ke.f
 by_cases h1:x.f0=1
 ·rw [Rq (Or.inl h1)];refine Ev.pos h1 (Ev.step (fun k=>by rw [Ke.j0]) ?_);exact Ev.pos (by rw [h1];rfl) (Ev.now _)
 refine Ev.neg h1 (Ev.step (fun k=>by rw [Ke.j0]) ?_)
 by_cases h6:x.f0=6
 ·rw [Rq (Or.inr h6)];exact Ev.pos (by rw [h6];rfl) (Ev.now _)
 refine Ev.neg (by simp [h6]) ?_
 by_cases h2:x.f0=2
 ·rw [zB h2];exact Ev.pos h2 (Ev.now _)
 refine Ev.neg h2 ?_
 have key:∀ b:Bool,(b=true ↔ x.f0=3 ∨ x.f0=4)→Ev (fun k=>Ke.j1 k b x.f0 x.f1 x.f2 x.f3 x.f4 x.f5 x.f6) (Og x):=by
  intro b hb;refine Ev.step (fun k=>by rw [Ke.j1]) ?_
  by_cases U6:b=true
  ·have h34:=hb.1 U6;refine Ev.pos U6 (Ev.val ?_)
   by_cases ha:0 ≤ x.f2
   ·refine Ev.pos ha (Ev.pos (by simp) (Ev.val ?_))
    by_cases h4:x.f0=4
    ·rw [IE ha h4];exact Ev.pos h4 (Ev.pos (by simp) (Ev.now _))
    ·rw [FE ha h34 h4];exact Ev.neg h4 (Ev.now _)
   ·refine Ev.neg ha ?_
    by_cases h4:x.f0=4
    ·rw [EE ha h4];exact Ev.pos h4 (Ev.pos (by simp) (Ev.now _))
    ·rw [DE ha h34 h4];exact Ev.neg h4 (Ev.now _)
  ·rw [rz (fun h=>h.elim h1 h6) h2 (fun h=>U6 (hb.2 h))];exact Ev.neg U6 (Ev.now _)
 by_cases h3:x.f0=3
 ·exact Ev.pos h3 (key _ (by simp [h3]))
 ·exact Ev.neg h3 (key _ (by simp [h3]))
theorem qO (us:List Int) (hl:us.length ≤ 1048576):∀ (d i:Nat) (s:List Bool),i + d=us.length→(∀ u ∈ us,0 ≤ u∧u < (s.length:Int))→Ev (fun k=>ue.l0 k s us (us.length:Int) (i:Int)) ((us.drop i).foldl Vg s):=by
 intro d
 induction d with
 | zero =>
  intro i s hi _;obtain rfl:i=us.length:=by omega
  rw [List.drop_length];refine Ev.step (fun k=>by rw [ue.l0]) ?_;exact Ev.neg (by omega) (Ev.now _)
 | succ d ih =>
  intro i s hi hu;have hi':i < us.length:=by omega
  obtain ⟨u0,u1⟩:=hu _ (List.getElem_mem hi');rw [List.drop_eq_getElem_cons hi',List.foldl_cons];refine Ev.step (fun k=>by rw [ue.l0]) ?_;refine Ev.pos (by omega) (Ev.pos (by omega) (Ev.pos (by omega) ?_));rw [Oo hi',Rd hi' (by omega)];exact Ev.pos u0 (Ev.pos u1 (ih (i + 1) _ (by omega) (fun u h=>by rw [List.length_set];exact hu u h)))
theorem fK (s:List Bool) (x:Le) (hx:Wt s.length x):Ev (fun k=>ue.f k s x.f0 x.f1 x.f2 x.f3 x.f4 x.f5 x.f6) (vo s x):=by
 obtain ⟨h1,h2⟩:=hx
 have hm:Th.f x.f0 x.f1 x.f2 x.f3 x.f4 x.f5 x.f6=some (Xm x):=by
  unfold Th.f Xm
  by_cases h4:x.f0=4
  ·rw [if_pos h4,if_pos h4]
  ·rw [if_neg h4,if_neg h4]
   by_cases h6:x.f0=6
   ·rw [if_pos h6,if_pos h6]
   ·rw [if_neg h6,if_neg h6]
 have C0:=Vt x;unfold ue.f vo;rw [hm];refine Ev.val ?_
 have tail:∀ s2:List Bool,s2.length=s.length→Ev (fun k=>ue.j0 k s2 x.f0 x.f1 x.f2 x.f3 x.f4 x.f5 x.f6) ((Og x).foldl Vg s2):=by
  intro s2 G0;refine Ev.step (fun k=>by rw [ue.j0]) ?_;refine Ev.bind (XG x) ?_;have:=qO (Og x) (by omega) (Og x).length 0 s2 (by omega) (fun u hu=>by rw [G0];exact h1 u hu)
  rwa [List.drop_zero] at this
 by_cases h:Xm x ≥ 0
 ·rw [if_pos h]
  have hlt:Xm x < (s.length:Int):=by
   have h':=h;unfold Xm at h' ⊢
   by_cases h4:x.f0=4
   ·rw [if_pos h4] at h';omega
   ·rw [if_neg h4] at h' ⊢
    by_cases h6:x.f0=6
    ·rw [if_pos h6] at h';omega
    ·rw [if_neg h6];exact (h2 h4 h6).2
  exact Ev.pos h (Ev.pos h (Ev.pos hlt (tail _ (by rw [List.length_set]))))
 ·rw [if_neg h];exact Ev.neg h (tail _ rfl)
theorem BM (us:List Int) (hl:us.length ≤ 1048576):∀ (d i:Nat) (s:List Bool),i + d=us.length→(∀ u ∈ us,0 ≤ u∧u < (s.length:Int))→Ev (fun k=>Nc.l0 k s us (i:Int)) ((us.drop i).foldl Vg s):=by
 intro d
 induction d with
 | zero =>
  intro i s hi _;obtain rfl:i=us.length:=by omega
  rw [List.drop_length];refine Ev.step (fun k=>by rw [Nc.l0]) ?_;exact Ev.neg (by omega) (Ev.now _)
 | succ d ih =>
  intro i s hi hu;have hi':i < us.length:=by omega
  obtain ⟨u0,u1⟩:=hu _ (List.getElem_mem hi');rw [List.drop_eq_getElem_cons hi',List.foldl_cons];refine Ev.step (fun k=>by rw [Nc.l0]) ?_;refine Ev.pos (by omega) (Ev.pos (by omega) ?_);rw [Oo hi',Rd hi' (by omega)];exact Ev.pos u0 (Ev.pos u1 (ih (i + 1) _ (by omega) (fun u h=>by rw [List.length_set];exact hu u h)))
theorem CM (s:List Bool) (x:Le) (hx:Wt s.length x):Ev (fun k=>Nc.f k x.f0 x.f1 x.f2 x.f3 x.f4 x.f5 x.f6 s) (vo s x):=by
 obtain ⟨h1,h2⟩:=hx;have C0:=Vt x;unfold Nc.f vo Ig.f
 have tail:∀ s2:List Bool,s2.length=s.length→Ev (fun k=>Nc.j0 k s2 x.f0 x.f1 x.f2 x.f3 x.f4 x.f5 x.f6) ((Og x).foldl Vg s2):=by
  intro s2 G0;refine Ev.step (fun k=>by rw [Nc.j0]) ?_;refine Ev.bind (gK x) ?_;have:=BM (Og x) (by omega) (Og x).length 0 s2 (by omega) (fun u hu=>by rw [G0];exact h1 u hu)
  rwa [List.drop_zero] at this
 by_cases h4:x.f0=4
 ·rw [if_pos h4];have hm:Xm x = -1:=if_pos h4;rw [if_neg (by omega)];exact Ev.val (Ev.neg (by decide) (tail _ rfl))
 ·rw [if_neg h4];refine Ev.val ?_
  by_cases h6:x.f0=6
  ·have hm:Xm x = -1:=by unfold Xm;rw [if_neg h4,if_pos h6]
   rw [if_neg (by omega)];exact Ev.neg (by simp [h6]) (tail _ rfl)
  ·have hm:Xm x=x.f1:=by unfold Xm;rw [if_neg h4,if_neg h6]
   obtain ⟨d0,d1⟩:=h2 h4 h6;rw [hm,if_pos d0];exact Ev.pos (by simp [h6]) (Ev.pos d0 (Ev.pos d1 (tail _ (by rw [List.length_set]))))
def Ce.l0:Nat→List Int→List Bool→Int→Int→Option (List Int)
 | 0,_,_,_,_=>none
 | k + 1,x3,x7,x8,x9=>if x9 < x8 then (if 0 ≤ x9 then (if x9 < (x7.length:Int) then (if sg false x7 x9=true then (if x3.length < 17592186044416 then (Ce.l0 k (x3 ++ [x9]) x7 x8 (wrap64 (x9 + 1))) else (none)) else (Ce.l0 k x3 x7 x8 (wrap64 (x9 + 1)))) else (none)) else (none)) else (some x3)
def Ce.f (k:Nat) (l0:List Bool):Option (List Int):=Ce.l0 k (([]:List Int)) l0 (l0.length:Int) 0
theorem Ce.calls (k:Nat) (A0:Option Addr) (c0:Nat) (l0:List Bool) (r:List Int) (w:World) (Om:Kd.C Kd.bool w A0 l0.length l0) (hc0:l0.length ≤ c0) (h:Ce.f k l0=some r) :
  Calls Try.prog 48 #[.slice A0 l0.length c0] w fun e w'=>∃ wm:Value,e = .returned (wm)∧Kd.R (Kd.int .i64) 3 w' w.heap.size (fun _=>True) wm r∧Below w.heap.size w w':=by
 have Io:=ga.mk Om;have dN:=ga.mk hc0;clear Om hc0;have HB:=ga.mk (Below.refl w.heap.size w);have H:(Ce.l0 k (([]:List Int)) l0 (l0.length:Int) 0)=some r:=h;clear h;obtain ⟨mg,xg⟩:∃ y_:List Int,y_=(([]:List Int)):=⟨_,rfl⟩;replace H:(Ce.l0 k mg l0 (l0.length:Int) 0)=some r:=by first|(rw [xg];with_reducible exact H)|(have Td:=(Option.bind_some _ _).symm.trans H;rw [xg];with_reducible exact Td)|(have Td:=(Option.bind_some _ _).symm.trans H;with_reducible exact Td)|with_reducible exact H|(rw [xg];exact H)|exact H
 have Am:=ga.mk xg;clear xg;have H':=ga.mk H;clear H;go_enter Try.func48,Try.ntmps48;go_wp2_with (first|((with_reducible refine qb (N:=6) rfl ?_);refine Kd.Vj (Kd.int .i64) _ 3 ?hg (N:=6) ?hd (xs:=([]:List Int)) (inner:=[]) (ok:=fun _=>True) (Di:=fun _=>True) ?hr ?hp (fun _ hk=>hk) trivial (Below.refl _ _) (Nat.le_refl _) (by simp) ?_;(case hd=>rfl);(case hg=>rfl);(case hr=>first|(go_simp;done)|(go_simp;rfl));(case hp=>exact (Sd.none _ _));intro uL w2 ho3 hb Wm Ye;clear Wm Ye;(first|rw [← Am.out] at ho3|(simp only [Int.reduceToNat] at ho3;rw [← Am.out] at ho3));have Cb:=ga.mk (Kd.Wd ho3 (La CaH));have Eb:=ga.mk (Na CaH hb);clear HB;have tu:=Cb;have HB:=Eb;clear Cb Eb hb ho3))
 go_loopg [3,9] k (fun kq v3 v9 w'=>∃ (xe:List Int) (nh:Int),v9 = .int .i64 nh∧ga (Ce.l0 kq xe l0 (l0.length:Int) nh=some r)∧ga (kq ≤ k)∧ga (Kd.R (Kd.int .i64) 3 w' w.heap.size (fun _=>True) v3 xe)∧ga (Below w.heap.size w w'))
 case atStart=>exact ⟨(mg),(0),IaH,H',⟨Nat.le_refl _⟩,⟨by (with_reducible repeat (first|apply Kd.mb|apply Kd.jb|apply Kd.Gb));exact tu.out⟩,⟨JaH⟩⟩
 case round =>
  clear H'
  try clear p2
  (try clear HA);(try clear pg);(try clear Qc);(try clear HB);obtain ⟨xe,nh,rfl,HA,pg,Qc,HB⟩:=hrel;cases gk with
  | zero=>exact absurd HA.out (by simp [Ce.l0])
  | succ k1 =>
   have H:=HA.out;clear HA;simp only [Ce.l0] at H
   by_cases c4:nh < (l0.length:Int)
   ·rw [if_pos c4] at H;have Tl:decide (nh < (l0.length:Int))=true:=decide_eq_true c4;clear c4
    by_cases c5:0 ≤ nh
    ·rw [if_pos c5] at H;have Nk:decide (0 ≤ nh)=true:=decide_eq_true c5;clear c5
     by_cases c6:nh < (l0.length:Int)
     ·rw [if_pos c6] at H;have Mp:decide (nh < (l0.length:Int))=true:=decide_eq_true c6;clear c6;obtain ⟨bq7,Jab⟩:∃ b_:Bool,b_=(sg false l0 nh):=⟨_,rfl⟩;replace H:(if bq7=true then (if xe.length < 17592186044416 then (Ce.l0 k1 (xe ++ [nh]) l0 (l0.length:Int) (wrap64 (nh + 1))) else (none)) else (Ce.l0 k1 xe l0 (l0.length:Int) (wrap64 (nh + 1))))=some r:=by rw [← Jab] at H;exact H
      have wak:=ga.mk Jab;clear Jab
      by_cases c8:bq7=true
      ·subst c8;have H1:(if xe.length < 17592186044416 then (Ce.l0 k1 (xe ++ [nh]) l0 (l0.length:Int) (wrap64 (nh + 1))) else (none))=some r:=by rw [if_pos rfl] at H;exact H
       clear H;have H:=H1;clear H1
       by_cases c9:xe.length < 17592186044416
       ·rw [if_pos c9] at H;have Rac:=ga.mk c9;clear c9;obtain ⟨ie,Ff⟩:∃ y_:List Int,y_=(xe ++ [nh]):=⟨_,rfl⟩;replace H:(Ce.l0 k1 ie l0 (l0.length:Int) (wrap64 (nh + 1)))=some r:=by first|(rw [Ff];with_reducible exact H)|(have Td:=(Option.bind_some _ _).symm.trans H;rw [Ff];with_reducible exact Td)|(have Td:=(Option.bind_some _ _).symm.trans H;with_reducible exact Td)|with_reducible exact H|(rw [Ff];exact H)|exact H
        have om:=ga.mk Ff;clear Ff;have H':=ga.mk H;clear H;have yu:0 ≤ (nh:Int):=Ua;have xu:nh < (l0.length:Int):=Ua;obtain ⟨vT,nK,Lj⟩:=Kd.Mg Io.out nh yu xu;(try rw [← wak.out] at Lj);cases nK;replace Lj:=Sa HB.out Lj;replace yu:=eq_true yu;replace xu:=eq_true xu;go_wp2_with (first|((with_reducible refine we (b:=.append) (xs:=#[.tmp 15,.tmp 17]) rfl ?_);at_builtin;refine Kd.Xh (Kd.int .i64) (w0:=w) w.heap.size rfl (.tmp 15) (.tmp 17) 22 3 (.int .i64 0) 8 rfl Try.underlying22 info3 rfl (by decide) (by omega) u3 xe nh [.int .i64 nh] (fun _=>True) (fun _=>False) rfl rfl ?aP (fun _ hk=>hk.elim) ?aF ?aO ?aB ?aS ?aL ?_;(case aP=>exact rfl);(case aB=>exact CaH);(case aF=>exact (fun _ _=>trivial));(case aO=>exact TaH);(case aS=>exact (La CaH));(case aL=>have:=Rac.out;omega);intro yB Yp ho hb hg hat;rw [← om.out] at ho;have Cb:=ga.mk (hb);have Eb:=ga.mk (ho);clear HB Qc;have HB:=Cb;have Dj:=Eb;clear Cb Eb ho hb hg hat))
        go_roundg k1
        case measure=>have:=pg.out;omega
        case rel=>exact ⟨(ie),(wrap64 (nh + 1)),IaH,H',⟨by have:=pg.out;omega⟩,⟨jaI⟩,⟨JaH⟩⟩
       ·rw [if_neg c9] at H;exact absurd H (by simp)
      ·replace c8:=Bool.eq_false_iff.mpr c8;subst c8;have H1:(Ce.l0 k1 xe l0 (l0.length:Int) (wrap64 (nh + 1)))=some r:=by rw [if_neg (show ¬ (false=true) by decide)] at H;exact H
       clear H;have H:=H1;clear H1;have H':=ga.mk H;clear H;have yu:0 ≤ (nh:Int):=Ua;have xu:nh < (l0.length:Int):=Ua;obtain ⟨vT,nK,Lj⟩:=Kd.Mg Io.out nh yu xu;(try rw [← wak.out] at Lj);cases nK;replace Lj:=Sa HB.out Lj;replace yu:=eq_true yu;replace xu:=eq_true xu;go_wp2
       go_roundg k1
       case measure=>have:=pg.out;omega
       case rel=>exact ⟨(xe),(wrap64 (nh + 1)),IaH,H',⟨by have:=pg.out;omega⟩,⟨PaH⟩,⟨JaH⟩⟩
     ·rw [if_neg c6] at H;exact absurd H (by simp)
    ·rw [if_neg c5] at H;exact absurd H (by simp)
   ·rw [if_neg c4] at H;have Tl:decide (nh < (l0.length:Int))=false:=decide_eq_false c4;clear c4;obtain rfl:=Option.some.inj H;go_wp2;go_ret;exact ⟨_,by first|rfl|(simp [Pa,Oa] <;> rfl)|(simp [*,Pa,Oa] <;> rfl),PaH,JaH⟩
def rj.f (Qa:List Int) (Ja:Int) (Ga:Int) (Ia:Int) (Aa:List (He)) (l1:List (List Bool)) (a2:Int):Option (List Bool):=(some (([]:List Bool):List Bool)).bind fun Dd=>(if 0 ≤ a2 then (if a2 < (l1.length:Int) then (if Dd.length + (Rc l1 a2).length < 140737488355328 then ((some (Dd ++ (Rc l1 a2):List Bool)).bind fun ze=>(if a2 < (Aa.length:Int) then (if ((za Aa a2).f1)=0 then (some ze) else (if 0 ≤ ((za Aa a2).f2) then (if ((za Aa a2).f2) < (ze.length:Int) then (some (ze.set (((za Aa a2).f2):Int).toNat true)) else (none)) else (none))) else (none))) else (none)) else (none)) else (none))
theorem rj.calls (Wa:Option Addr) (Xa:Nat) (Qa:List Int) (Ja:Int) (Ga:Int) (Ia:Int) (Jb:Option Addr) (yb:Nat) (Aa:List (He)) (A1:Option Addr) (c1:Nat) (l1:List (List Bool)) (a2:Int) (r:List Bool) (w:World) (Od:Kd.C (Kd.int .i64) w Wa Qa.length Qa) (Md:Qa.length ≤ Xa) (Re:Kd.C iq w Jb Aa.length Aa) (Qe:Aa.length ≤ yb) (Kp:Kd.C (Kd.slice 4 Kd.bool) w A1 l1.length l1) (Xk:l1.length ≤ c1) (h:rj.f Qa Ja Ga Ia Aa l1 a2=some r) :
  Calls Try.prog 81 #[.agg #[.slice Wa Qa.length Xa,.int .i64 Ja,.int .i64 Ga,.int .i64 Ia,.slice Jb Aa.length yb],.slice A1 l1.length c1,.int .i64 a2] w fun e w'=>∃ wm:Value,e = .returned (wm)∧Kd.R Kd.bool 4 w' w.heap.size (fun _=>True) wm r∧Below w.heap.size w w':=by
 have KB:=Try.underlying30;have JB:=Try.underlying59;have fe:=ga.mk Od;have ye:=ga.mk Md;clear Od Md;have We:=ga.mk Re;have Xf:=ga.mk Qe;clear Re Qe;have Uo:=ga.mk Kp;have FG:=ga.mk Xk;clear Kp Xk;have HB:=ga.mk (Below.refl w.heap.size w);have H:((some (([]:List Bool):List Bool)).bind fun Dd=>(if 0 ≤ a2 then (if a2 < (l1.length:Int) then (if Dd.length + (Rc l1 a2).length < 140737488355328 then ((some (Dd ++ (Rc l1 a2):List Bool)).bind fun ze=>(if a2 < (Aa.length:Int) then (if ((za Aa a2).f1)=0 then (some ze) else (if 0 ≤ ((za Aa a2).f2) then (if ((za Aa a2).f2) < (ze.length:Int) then (some (ze.set (((za Aa a2).f2):Int).toNat true)) else (none)) else (none))) else (none))) else (none)) else (none)) else (none)))=some r:=h;clear h;obtain ⟨Dd,kf⟩:∃ y_:List Bool,y_=(([]:List Bool)):=⟨_,rfl⟩;replace H:(if 0 ≤ a2 then (if a2 < (l1.length:Int) then (if Dd.length + (Rc l1 a2).length < 140737488355328 then ((some (Dd ++ (Rc l1 a2):List Bool)).bind fun ze=>(if a2 < (Aa.length:Int) then (if ((za Aa a2).f1)=0 then (some ze) else (if 0 ≤ ((za Aa a2).f2) then (if ((za Aa a2).f2) < (ze.length:Int) then (some (ze.set (((za Aa a2).f2):Int).toNat true)) else (none)) else (none))) else (none))) else (none)) else (none)) else (none))=some r:=by first|(rw [kf];with_reducible exact H)|(have Td:=(Option.bind_some _ _).symm.trans H;rw [kf];with_reducible exact Td)|(have Td:=(Option.bind_some _ _).symm.trans H;with_reducible exact Td)|with_reducible exact H|(rw [kf];exact H)|exact H
 have Ci:=ga.mk kf;clear kf
 by_cases c4:0 ≤ a2
 ·rw [if_pos c4] at H;have Tl:decide (0 ≤ a2)=true:=decide_eq_true c4;clear c4
  by_cases c5:a2 < (l1.length:Int)
  ·rw [if_pos c5] at H;have Nk:decide (a2 < (l1.length:Int))=true:=decide_eq_true c5;clear c5
   by_cases c6:Dd.length + (Rc l1 a2).length < 140737488355328
   ·rw [if_pos c6] at H;have yak:=ga.mk c6;clear c6;obtain ⟨ze,tw⟩:∃ y_:List Bool,y_=(Dd ++ (Rc l1 a2)):=⟨_,rfl⟩;replace H:(if a2 < (Aa.length:Int) then (if ((za Aa a2).f1)=0 then (some ze) else (if 0 ≤ ((za Aa a2).f2) then (if ((za Aa a2).f2) < (ze.length:Int) then (some (ze.set (((za Aa a2).f2):Int).toNat true)) else (none)) else (none))) else (none))=some r:=by first|(rw [tw];with_reducible exact H)|(have Td:=(Option.bind_some _ _).symm.trans H;rw [tw];with_reducible exact Td)|(have Td:=(Option.bind_some _ _).symm.trans H;with_reducible exact Td)|with_reducible exact H|(rw [tw];exact H)|exact H
    have ET:=ga.mk tw;clear tw
    by_cases c7:a2 < (Aa.length:Int)
    ·rw [if_pos c7] at H;have qm:decide (a2 < (Aa.length:Int))=true:=decide_eq_true c7;clear c7
     by_cases c8:((za Aa a2).f1)=0
     ·rw [if_pos c8] at H;have Qt:(((za Aa a2).f1) == 0)=true:=beq_iff_eq.mpr c8;have EM:(((za Aa a2).f1) != 0)=false:=bne_eq_false_iff_eq.mpr c8;clear c8;obtain rfl:=Option.some.inj H;go_enter Try.func81,Try.ntmps81;go_wp2_with (first|((with_reducible refine qb (N:=3) rfl ?_);refine Ib ?hg (N:=3) ?hd (cs:=#[.slice Wa Qa.length Xa,.int .i64 Ja,.int .i64 Ga,.int .i64 Ia,.slice Jb Aa.length yb]) (t:=30) ?hr ?_;(case hd=>rfl);(case hg=>rfl);(case hr=>first|(go_simp;done)|(go_simp;rfl));intro ya hg w9 Sb hb;have Cb:=ga.mk (Na CaH hb);have Eb:=ga.mk (Sb);have Rb:=ga.mk ((by rw [hg];exact (La CaH):w.heap.size ≤ ya));have Gc:=ga.mk ((by rw [hg];exact (La CaH):w.heap.size ≤ ya));clear HB;have HB:=Cb;have oa:=Eb;have Nd:=Rb;have Ta:=Gc;clear Cb Eb Rb Gc hb Sb hg)|((with_reducible refine qb (N:=9) rfl ?_);refine Kd.Vj Kd.bool _ 4 ?hg (N:=9) ?hd (xs:=([]:List Bool)) (inner:=[]) (ok:=fun _=>True) (Di:=fun _=>True) ?hr ?hp (fun _ hk=>hk) trivial (Below.refl _ _) (Nat.le_refl _) (by simp) ?_;(case hd=>rfl);(case hg=>rfl);(case hr=>first|(go_simp;done)|(go_simp;rfl));(case hp=>exact (Sd.none _ _));intro Sm Yp Bq hb Wm Ye;clear Wm Ye;(first|rw [← Ci.out] at Bq|(simp only [Int.reduceToNat] at Bq;rw [← Ci.out] at Bq));have Cb:=ga.mk (Kd.Wd Bq (La BaH));have Eb:=ga.mk (Va (g:=ya) (o:=.cells #[.slice Wa Qa.length Xa,.int .i64 Ja,.int .i64 Ga,.int .i64 Ia,.slice Jb Aa.length yb] 30 (0,0)) DaH hb);have Rb:=ga.mk (Na BaH hb);clear oa HB;have Cg:=Cb;have oa:=Eb;have HB:=Rb;clear Cb Eb Rb hb Bq;have Vm:0 ≤ (a2:Int):=Ua;have Um:a2 < (l1.length:Int):=Ua;obtain ⟨Ii,Yh,yg,sC,qh,yj,zj⟩:=Qo Uo.out a2 Vm Um;cases sC;replace qh:=Sa HB.out qh;have Bo:=ga.mk zj;have Mv:=ga.mk yj;clear zj yj;replace Vm:=eq_true Vm;replace Um:=eq_true Um)|((with_reducible refine we (b:=.append) (xs:=#[.tmp 9,.tmp 13]) rfl ?_);at_builtin;refine Kd.Tk Kd.bool (w0:=w) w.heap.size rfl (.tmp 9) (.tmp 13) 60 4 (.bool false) 1 rfl Try.underlying60 Qv rfl (by decide) (by omega) Sm Dd (Rc l1 a2) _ _ _ (fun _=>True) (fun _=>False) rfl rfl ?aO ?aR (fun _ _ h=>h) (fun _ h=>h.elim) ?aF ?aB ?aS ?aL ?_;(case aR=>repeat (first|exact (Kd.Ab Bo.out HB.out)|(with_reducible refine Kd.Lb ?_ _)|(with_reducible refine Kd.Kb ?_ _)|(with_reducible refine Kd.Xb ?_)));(case aB=>exact BaH);(case aF=>exact (fun _ _=>trivial));(case aO=>exact faI);(case aS=>exact (La BaH));(case aL=>have:=yak.out;omega);intro NV Xr ho hb hg hat;rw [← ET.out] at ho;have Cb:=ga.mk (xd (g:=ya) (o:=.cells #[.slice Wa Qa.length Xa,.int .i64 Ja,.int .i64 Ga,.int .i64 Ia,.slice Jb Aa.length yb] 30 (0,0)) DaH hg (Kd.Fk Cg.out oa.out (by decide)));have Eb:=ga.mk (hb);have Rb:=ga.mk (ho);clear oa HB Cg;have oa:=Cb;have HB:=Eb;have Ok:=Rb;clear Cb Eb Rb ho hb hg hat;have yt:Xr.cell? ⟨ya,0,none⟩=some (.slice Wa Qa.length Xa):=(ia oa.out 0).trans rfl;have vt:Xr.cell? ⟨ya,1,none⟩=some (.int .i64 Ja):=(ia oa.out 1).trans rfl;have qt:Xr.cell? ⟨ya,2,none⟩=some (.int .i64 Ga):=(ia oa.out 2).trans rfl;have ot:Xr.cell? ⟨ya,3,none⟩=some (.int .i64 Ia):=(ia oa.out 3).trans rfl;have nt:Xr.cell? ⟨ya,4,none⟩=some (.slice Jb Aa.length yb):=(ia oa.out 4).trans rfl;have Ss:=aa oa.out 0;have Rs:=aa oa.out 1;have Qs:=aa oa.out 2;have Ns:=aa oa.out 3;have Ms:=aa oa.out 4;have cg:0 ≤ (a2:Int):=Ua;have bg:a2 < (Aa.length:Int):=Ua;obtain ⟨Tf,Co,uo,Yk,Pd,zl,vl,ql,gl,Cl,Dl⟩:=Fj We.out a2 cg bg;cases Yk;replace Pd:=Sa HB.out Pd;replace zl:=Sa HB.out zl;replace vl:=Sa HB.out vl;replace ql:=Sa HB.out ql;replace gl:=Sa HB.out gl;have uE:=ga.mk Dl;have wE:=ga.mk Cl;clear Dl Cl;replace cg:=eq_true cg;replace bg:=eq_true bg)|((with_reducible refine qb (N:=8) rfl ?_);refine Ib ?hg (N:=8) ?hd (cs:=#[.slice none 0 0,.int .i64 0,.int .i64 0,.int .i64 0,.int .i64 0]) (t:=59) ?hr ?_;(case hd=>rfl);(case hg=>rfl);(case hr=>first|(go_simp;done)|(go_simp;rfl));intro Zg hg Ky Sb hb;have Cb:=ga.mk (Kd.oc (by (with_reducible repeat (first|apply Kd.mb|apply Kd.jb|apply Kd.Gb));exact Ok.out) hb);have Eb:=ga.mk (Va (g:=ya) (o:=.cells #[.slice Wa Qa.length Xa,.int .i64 Ja,.int .i64 Ga,.int .i64 Ia,.slice (some Tf) Aa.length yb] 30 (0,0)) DaH hb);have Rb:=ga.mk (Na BaH hb);have Gc:=ga.mk (Sb);have kg:=ga.mk ((by rw [hg];exact (La BaH):w.heap.size ≤ Zg));have Rg:=ga.mk ((by rw [hg];exact (La BaH):w.heap.size ≤ Zg));have Vh:=ga.mk ((by rw [hg];exact Nat.ne_of_lt (Pc (g:=ya) (o:=.cells #[.slice Wa Qa.length Xa,.int .i64 Ja,.int .i64 Ga,.int .i64 Ia,.slice (some Tf) Aa.length yb] 30 (0,0)) DaH):ya ≠ Zg));have SE:=ga.mk ((by rw [hg];exact Nat.ne_of_gt (Pc (g:=ya) (o:=.cells #[.slice Wa Qa.length Xa,.int .i64 Ja,.int .i64 Ga,.int .i64 Ia,.slice (some Tf) Aa.length yb] 30 (0,0)) DaH):Zg ≠ ya));clear Ok oa HB;have Ok:=Cb;have oa:=Eb;have HB:=Rb;have fh:=Gc;have Xal:=kg;have mU:=Rg;have Qm:=Vh;have DC:=SE;clear Cb Eb Rb Gc kg Rg Vh SE hb Sb hg;have Eaf:=DC.out;have paf:=Qm.out;have zp:Ky.cell? ⟨Zg,0,none⟩=some (.slice none 0 0):=(ia fh.out 0).trans rfl;have yp:Ky.cell? ⟨Zg,1,none⟩=some (.int .i64 0):=(ia fh.out 1).trans rfl;have xp:Ky.cell? ⟨Zg,2,none⟩=some (.int .i64 0):=(ia fh.out 2).trans rfl;have vp:Ky.cell? ⟨Zg,3,none⟩=some (.int .i64 0):=(ia fh.out 3).trans rfl;have qp:Ky.cell? ⟨Zg,4,none⟩=some (.int .i64 0):=(ia fh.out 4).trans rfl;have lp:=aa fh.out 0;have gp:=aa fh.out 1;have ep:=aa fh.out 2;have bp:=aa fh.out 3;have Zo:=aa fh.out 4));go_ret;exact ⟨_,by first|rfl|(simp [Pa,Oa] <;> rfl)|(simp [*,Pa,Oa] <;> rfl),by (with_reducible repeat (first|apply Kd.mb|apply Kd.jb|apply Kd.Gb));exact Kd.Xd (Kd.Tg (p:=⟨Zg,4,none⟩) (Kd.Tg (p:=⟨Zg,3,none⟩) (Kd.Tg (p:=⟨Zg,2,none⟩) (Kd.Tg (p:=⟨Zg,1,none⟩) (Kd.Tg (p:=⟨Zg,0,none⟩) (Kd.Dp Ok.out fh.out (by decide)) (fun _ hk=>hk.2) (.slice Co ((za Aa a2).f0).length uo)) (fun _ hk=>hk.2) (.int .i64 ((za Aa a2).f1))) (fun _ hk=>hk.2) (.int .i64 ((za Aa a2).f2))) (fun _ hk=>hk.2) (.int .i64 ((za Aa a2).f3))) (fun _ hk=>hk.2) (.int .i64 ((za Aa a2).f4))) (fun _ hk=>trivial),by repeat (first|(with_reducible first|exact HB.out|apply qa|apply ja|apply ta|refine ua ?_ Ta.out|refine ua ?_ mU.out)|exact HB.out)⟩
     ·rw [if_neg c8] at H;have Qt:(((za Aa a2).f1) == 0)=false:=beq_eq_false_iff_ne.mpr c8;have EM:(((za Aa a2).f1) != 0)=true:=bne_iff_ne.mpr c8
      by_cases Ym:0 ≤ ((za Aa a2).f2)
      ·rw [if_pos Ym] at H;have zm:decide (0 ≤ ((za Aa a2).f2))=true:=decide_eq_true Ym;clear Ym
       by_cases Ko:((za Aa a2).f2) < (ze.length:Int)
       ·rw [if_pos Ko] at H;have Jo:decide (((za Aa a2).f2) < (ze.length:Int))=true:=decide_eq_true Ko;clear Ko;obtain ⟨Zm,sj⟩:∃ y_:List Bool,y_=(ze.set (((za Aa a2).f2):Int).toNat true):=⟨_,rfl⟩;replace H:(some Zm)=some r:=by first|(rw [sj];with_reducible exact H)|(have Td:=(Option.bind_some _ _).symm.trans H;rw [sj];with_reducible exact Td)|(have Td:=(Option.bind_some _ _).symm.trans H;with_reducible exact Td)|with_reducible exact H|(rw [sj];exact H)|exact H
        have Hy:=ga.mk sj;clear sj;obtain rfl:=Option.some.inj H;go_enter Try.func81,Try.ntmps81;go_wp2_with (first|((with_reducible refine qb (N:=3) rfl ?_);refine Ib ?hg (N:=3) ?hd (cs:=#[.slice Wa Qa.length Xa,.int .i64 Ja,.int .i64 Ga,.int .i64 Ia,.slice Jb Aa.length yb]) (t:=30) ?hr ?_;(case hd=>rfl);(case hg=>rfl);(case hr=>first|(go_simp;done)|(go_simp;rfl));intro ya hg w20 Sb hb;have Cb:=ga.mk (Na CaH hb);have Eb:=ga.mk (Sb);have Rb:=ga.mk ((by rw [hg];exact (La CaH):w.heap.size ≤ ya));have Gc:=ga.mk ((by rw [hg];exact (La CaH):w.heap.size ≤ ya));clear HB;have HB:=Cb;have oa:=Eb;have Nd:=Rb;have Ta:=Gc;clear Cb Eb Rb Gc hb Sb hg)|((with_reducible refine qb (N:=9) rfl ?_);refine Kd.Vj Kd.bool _ 4 ?hg (N:=9) ?hd (xs:=([]:List Bool)) (inner:=[]) (ok:=fun _=>True) (Di:=fun _=>True) ?hr ?hp (fun _ hk=>hk) trivial (Below.refl _ _) (Nat.le_refl _) (by simp) ?_;(case hd=>rfl);(case hg=>rfl);(case hr=>first|(go_simp;done)|(go_simp;rfl));(case hp=>exact (Sd.none _ _));intro Sm Vq XW hb Wm Ye;clear Wm Ye;(first|rw [← Ci.out] at XW|(simp only [Int.reduceToNat] at XW;rw [← Ci.out] at XW));have Cb:=ga.mk (Kd.Wd XW (La BaH));have Eb:=ga.mk (Va (g:=ya) (o:=.cells #[.slice Wa Qa.length Xa,.int .i64 Ja,.int .i64 Ga,.int .i64 Ia,.slice Jb Aa.length yb] 30 (0,0)) DaH hb);have Rb:=ga.mk (Na BaH hb);clear oa HB;have Cg:=Cb;have oa:=Eb;have HB:=Rb;clear Cb Eb Rb hb XW;have Vm:0 ≤ (a2:Int):=Ua;have Um:a2 < (l1.length:Int):=Ua;obtain ⟨Ii,Yh,yg,sC,qh,yj,zj⟩:=Qo Uo.out a2 Vm Um;cases sC;replace qh:=Sa HB.out qh;have Bo:=ga.mk zj;have Mv:=ga.mk yj;clear zj yj;replace Vm:=eq_true Vm;replace Um:=eq_true Um)|((with_reducible refine we (b:=.append) (xs:=#[.tmp 9,.tmp 13]) rfl ?_);at_builtin;refine Kd.Tk Kd.bool (w0:=w) w.heap.size rfl (.tmp 9) (.tmp 13) 60 4 (.bool false) 1 rfl Try.underlying60 Qv rfl (by decide) (by omega) Sm Dd (Rc l1 a2) _ _ _ (fun _=>True) (fun _=>False) rfl rfl ?aO ?aR (fun _ _ h=>h) (fun _ h=>h.elim) ?aF ?aB ?aS ?aL ?_;(case aR=>repeat (first|exact (Kd.Ab Bo.out HB.out)|(with_reducible refine Kd.Lb ?_ _)|(with_reducible refine Kd.Kb ?_ _)|(with_reducible refine Kd.Xb ?_)));(case aB=>exact BaH);(case aF=>exact (fun _ _=>trivial));(case aO=>exact faI);(case aS=>exact (La BaH));(case aL=>have:=yak.out;omega);intro NV Qq ho hb hg hat;rw [← ET.out] at ho;have Cb:=ga.mk (xd (g:=ya) (o:=.cells #[.slice Wa Qa.length Xa,.int .i64 Ja,.int .i64 Ga,.int .i64 Ia,.slice Jb Aa.length yb] 30 (0,0)) DaH hg (Kd.Fk Cg.out oa.out (by decide)));have Eb:=ga.mk (hb);have Rb:=ga.mk (ho);clear oa HB Cg;have oa:=Cb;have HB:=Eb;have Ok:=Rb;clear Cb Eb Rb ho hb hg hat;have Nq:Qq.cell? ⟨ya,0,none⟩=some (.slice Wa Qa.length Xa):=(ia oa.out 0).trans rfl;have Mq:Qq.cell? ⟨ya,1,none⟩=some (.int .i64 Ja):=(ia oa.out 1).trans rfl;have Kq:Qq.cell? ⟨ya,2,none⟩=some (.int .i64 Ga):=(ia oa.out 2).trans rfl;have Jq:Qq.cell? ⟨ya,3,none⟩=some (.int .i64 Ia):=(ia oa.out 3).trans rfl;have Iq:Qq.cell? ⟨ya,4,none⟩=some (.slice Jb Aa.length yb):=(ia oa.out 4).trans rfl;have Hq:=aa oa.out 0;have Gq:=aa oa.out 1;have Fq:=aa oa.out 2;have Dq:=aa oa.out 3;have Cq:=aa oa.out 4;have cg:0 ≤ (a2:Int):=Ua;have bg:a2 < (Aa.length:Int):=Ua;obtain ⟨Tf,Co,uo,Yk,Pd,zl,vl,ql,gl,Cl,Dl⟩:=Fj We.out a2 cg bg;cases Yk;replace Pd:=Sa HB.out Pd;replace zl:=Sa HB.out zl;replace vl:=Sa HB.out vl;replace ql:=Sa HB.out ql;replace gl:=Sa HB.out gl;have uE:=ga.mk Dl;have wE:=ga.mk Cl;clear Dl Cl;replace cg:=eq_true cg;replace bg:=eq_true bg)|((with_reducible refine qb (N:=8) rfl ?_);refine Ib ?hg (N:=8) ?hd (cs:=#[.slice none 0 0,.int .i64 0,.int .i64 0,.int .i64 0,.int .i64 0]) (t:=59) ?hr ?_;(case hd=>rfl);(case hg=>rfl);(case hr=>first|(go_simp;done)|(go_simp;rfl));intro Zg hg Jy Sb hb;have Cb:=ga.mk (Kd.oc (by (with_reducible repeat (first|apply Kd.mb|apply Kd.jb|apply Kd.Gb));exact Ok.out) hb);have Eb:=ga.mk (Va (g:=ya) (o:=.cells #[.slice Wa Qa.length Xa,.int .i64 Ja,.int .i64 Ga,.int .i64 Ia,.slice (some Tf) Aa.length yb] 30 (0,0)) DaH hb);have Rb:=ga.mk (Na BaH hb);have Gc:=ga.mk (Sb);have kg:=ga.mk ((by rw [hg];exact (La BaH):w.heap.size ≤ Zg));have Rg:=ga.mk ((by rw [hg];exact (La BaH):w.heap.size ≤ Zg));have Vh:=ga.mk ((by rw [hg];exact Nat.ne_of_lt (Pc (g:=ya) (o:=.cells #[.slice Wa Qa.length Xa,.int .i64 Ja,.int .i64 Ga,.int .i64 Ia,.slice (some Tf) Aa.length yb] 30 (0,0)) DaH):ya ≠ Zg));have SE:=ga.mk ((by rw [hg];exact Nat.ne_of_gt (Pc (g:=ya) (o:=.cells #[.slice Wa Qa.length Xa,.int .i64 Ja,.int .i64 Ga,.int .i64 Ia,.slice (some Tf) Aa.length yb] 30 (0,0)) DaH):Zg ≠ ya));clear Ok oa HB;have Ok:=Cb;have oa:=Eb;have HB:=Rb;have fh:=Gc;have Xal:=kg;have mU:=Rg;have Qm:=Vh;have DC:=SE;clear Cb Eb Rb Gc kg Rg Vh SE hb Sb hg;have zaf:=DC.out;have kaf:=Qm.out;have Hx:Jy.cell? ⟨Zg,0,none⟩=some (.slice none 0 0):=(ia fh.out 0).trans rfl;have Gx:Jy.cell? ⟨Zg,1,none⟩=some (.int .i64 0):=(ia fh.out 1).trans rfl;have Fx:Jy.cell? ⟨Zg,2,none⟩=some (.int .i64 0):=(ia fh.out 2).trans rfl;have Ex:Jy.cell? ⟨Zg,3,none⟩=some (.int .i64 0):=(ia fh.out 3).trans rfl;have Dx:Jy.cell? ⟨Zg,4,none⟩=some (.int .i64 0):=(ia fh.out 4).trans rfl;have Xw:=aa fh.out 0;have Ww:=aa fh.out 1;have Vw:=aa fh.out 2;have Uw:=aa fh.out 3;have Tw:=aa fh.out 4)|((with_reducible refine af (t:=59) (p:=8) rfl ?_);refine Ie (t:=59) (p:=8) (v:=?vaa) (w1:=(((((Jy.setCell ⟨Zg,0,none⟩ (.slice Co ((za Aa a2).f0).length uo)).setCell ⟨Zg,1,none⟩ (.int .i64 ((za Aa a2).f1))).setCell ⟨Zg,2,none⟩ (.int .i64 ((za Aa a2).f2))).setCell ⟨Zg,3,none⟩ (.int .i64 ((za Aa a2).f3))).setCell ⟨Zg,4,none⟩ (.int .i64 ((za Aa a2).f4)))) ?hg ?ho ?hn ?hr ?_;(case ho=>rfl);(case hg=>rfl);(case hn=>rfl);(case hr=>first|(go_simp;done)|(go_simp;rfl));intro ew hw;have Cb:ga (Kd.R Kd.bool 4 ew w.heap.size (fun _=>True) NV ze):=⟨(by rw [hw];exact (by (with_reducible repeat (first|apply Kd.mb|apply Kd.jb|apply Kd.Gb));exact Kd.Xd (Kd.Tg (p:=⟨Zg,4,none⟩) (Kd.Tg (p:=⟨Zg,3,none⟩) (Kd.Tg (p:=⟨Zg,2,none⟩) (Kd.Tg (p:=⟨Zg,1,none⟩) (Kd.Tg (p:=⟨Zg,0,none⟩) (Kd.Dp Ok.out fh.out (by decide)) (fun _ hk=>hk.2) (.slice Co ((za Aa a2).f0).length uo)) (fun _ hk=>hk.2) (.int .i64 ((za Aa a2).f1))) (fun _ hk=>hk.2) (.int .i64 ((za Aa a2).f2))) (fun _ hk=>hk.2) (.int .i64 ((za Aa a2).f3))) (fun _ hk=>hk.2) (.int .i64 ((za Aa a2).f4))) (fun _ hk=>trivial)))⟩;have Eb:ga (ew.heap[ya]? = some (.cells #[.slice Wa Qa.length Xa,.int .i64 Ja,.int .i64 Ga,.int .i64 Ia,.slice (some Tf) Aa.length yb] 30 (0,0))):=⟨(by rw [hw];exact (by (with_reducible repeat (first|refine Ba ?_ _|refine Fa ?_|refine Ca ?_ _));refine Ed ?_ Qm.out _;(with_reducible repeat (first|refine Ba ?_ _|refine Fa ?_|refine Ca ?_ _));refine Ed ?_ Qm.out _;(with_reducible repeat (first|refine Ba ?_ _|refine Fa ?_|refine Ca ?_ _));refine Ed ?_ Qm.out _;(with_reducible repeat (first|refine Ba ?_ _|refine Fa ?_|refine Ca ?_ _));refine Ed ?_ Qm.out _;(with_reducible repeat (first|refine Ba ?_ _|refine Fa ?_|refine Ca ?_ _));refine Ed ?_ Qm.out _;(with_reducible repeat (first|refine Ba ?_ _|refine Fa ?_|refine Ca ?_ _));exact oa.out))⟩;have Rb:ga (ew.heap[Zg]? = some (.cells #[.slice Co ((za Aa a2).f0).length uo,.int .i64 ((za Aa a2).f1),.int .i64 ((za Aa a2).f2),.int .i64 ((za Aa a2).f3),.int .i64 ((za Aa a2).f4)] 59 (0,0))):=⟨(by rw [hw];exact (by (with_reducible repeat (first|refine Ba ?_ _|refine Fa ?_|refine Ca ?_ _));refine Vd (cs:=#[.slice Co ((za Aa a2).f0).length uo,.int .i64 ((za Aa a2).f1),.int .i64 ((za Aa a2).f2),.int .i64 ((za Aa a2).f3),.int .i64 0]) ?_ 4 _ rfl;(with_reducible repeat (first|refine Ba ?_ _|refine Fa ?_|refine Ca ?_ _));refine Vd (cs:=#[.slice Co ((za Aa a2).f0).length uo,.int .i64 ((za Aa a2).f1),.int .i64 ((za Aa a2).f2),.int .i64 0,.int .i64 0]) ?_ 3 _ rfl;(with_reducible repeat (first|refine Ba ?_ _|refine Fa ?_|refine Ca ?_ _));refine Vd (cs:=#[.slice Co ((za Aa a2).f0).length uo,.int .i64 ((za Aa a2).f1),.int .i64 0,.int .i64 0,.int .i64 0]) ?_ 2 _ rfl;(with_reducible repeat (first|refine Ba ?_ _|refine Fa ?_|refine Ca ?_ _));refine Vd (cs:=#[.slice Co ((za Aa a2).f0).length uo,.int .i64 0,.int .i64 0,.int .i64 0,.int .i64 0]) ?_ 1 _ rfl;(with_reducible repeat (first|refine Ba ?_ _|refine Fa ?_|refine Ca ?_ _));refine Vd (cs:=#[.slice none 0 0,.int .i64 0,.int .i64 0,.int .i64 0,.int .i64 0]) ?_ 0 _ rfl;(with_reducible repeat (first|refine Ba ?_ _|refine Fa ?_|refine Ca ?_ _));exact fh.out))⟩;have Gc:ga (Below w.heap.size w ew):=⟨(by rw [hw];exact (by repeat (first|(with_reducible first|exact HB.out|apply qa|apply ja|apply ta|refine ua ?_ Ta.out|refine ua ?_ mU.out)|exact HB.out)))⟩;clear hw Ok oa fh HB;have Ok:=Cb;have oa:=Eb;have fh:=Rb;have HB:=Gc;clear Cb Eb Rb Gc;have aE:ew.cell? ⟨Zg,0,none⟩=some (.slice Co ((za Aa a2).f0).length uo):=(ia fh.out 0).trans rfl;have ZD:ew.cell? ⟨Zg,1,none⟩=some (.int .i64 ((za Aa a2).f1)):=(ia fh.out 1).trans rfl;have YD:ew.cell? ⟨Zg,2,none⟩=some (.int .i64 ((za Aa a2).f2)):=(ia fh.out 2).trans rfl;have XD:ew.cell? ⟨Zg,3,none⟩=some (.int .i64 ((za Aa a2).f3)):=(ia fh.out 3).trans rfl;have WD:ew.cell? ⟨Zg,4,none⟩=some (.int .i64 ((za Aa a2).f4)):=(ia fh.out 4).trans rfl;have GD:=aa fh.out 0;have FD:=aa fh.out 1;have ED:=aa fh.out 2;have DD:=aa fh.out 3;have CD:=aa fh.out 4;have p19:0 ≤ (((za Aa a2).f2):Int):=Ua;have q19:(((za Aa a2).f2):Int) < ((ze.length:Int):Int):=Ua;obtain ⟨Pab,qax,naj,faj,Kaw,haF,Lal⟩:=Kd.Ul Ok.out (by omega);(first|cases naj|(injection naj with Kk Xy Yy;(first|subst Kk|(injection Kk with Kk;subst Kk));subst Yy;clear Xy));have Iay:=ga.mk faj;have maG:=ga.mk Lal;clear faj Kaw Lal;obtain ⟨Yau,jaw⟩:=Kd.Cj false Ok.out (((za Aa a2).f2):Int) p19 q19;replace p19:=eq_true p19;replace q19:=eq_true q19;obtain ⟨naz,jaz⟩:=Kd.Cj false Ok.out (((za Aa a2).f2):Int) (Ua) (Ua);have vad:=Kd.yo Ok.out (((za Aa a2).f2):Int) true)|((with_reducible refine af (t:=4) (p:=26) rfl ?_);refine Ie (t:=4) (p:=26) (v:=?lau) (w1:=(ew.setCell ⟨Pab,(((za Aa a2).f2):Int).toNat,none⟩ (.bool true))) ?hg ?ho ?hn ?hr ?_;(case ho=>rfl);(case hg=>rfl);(case hn=>rfl);(case hr=>first|(go_simp;done)|(go_simp;rfl));intro fL hw;have hg:ew.grownBy fL (some Pab):=(by rw [hw];exact vad.2);have Pm:Kd.R Kd.bool 4 fL w.heap.size (fun _=>True) (.slice (some ⟨Pab,0,none⟩) ze.length qax) Zm:=(by rw [hw,Hy.out];exact vad.1);clear vad;have Cb:=ga.mk (xd (g:=ya) (o:=.cells #[.slice Wa Qa.length Xa,.int .i64 Ja,.int .i64 Ga,.int .i64 Ia,.slice (some Tf) Aa.length yb] 30 (0,0)) DaH hg (Kd.Fk Ok.out oa.out (by decide)));have Eb:=ga.mk (Pm);have Rb:=ga.mk (xd (g:=Zg) (o:=.cells #[.slice Co ((za Aa a2).f0).length uo,.int .i64 ((za Aa a2).f1),.int .i64 ((za Aa a2).f2),.int .i64 ((za Aa a2).f3),.int .i64 ((za Aa a2).f4)] 59 (0,0)) (by (with_reducible repeat (first|refine Ba ?_ _|refine Fa ?_|refine Ca ?_ _));exact fh.out) hg (Kd.Fk Ok.out fh.out (by decide)));have Gc:=ga.mk ((by rw [hw];exact ua (HB.out) Iay.out:Below w.heap.size w fL));clear oa Ok fh HB;have oa:=Cb;have Ok:=Eb;have fh:=Rb;have HB:=Gc;clear Cb Eb Rb Gc hg hw Pm));go_ret;exact ⟨_,by first|rfl|(simp [Pa,Oa] <;> rfl)|(simp [*,Pa,Oa] <;> rfl),by (with_reducible repeat (first|apply Kd.mb|apply Kd.jb|apply Kd.Gb));exact Ok.out,by repeat (first|(with_reducible first|exact HB.out|apply qa|apply ja|apply ta|refine ua ?_ Ta.out|refine ua ?_ mU.out)|exact HB.out)⟩
       ·rw [if_neg Ko] at H;exact absurd H (by simp)
      ·rw [if_neg Ym] at H;exact absurd H (by simp)
    ·rw [if_neg c7] at H;exact absurd H (by simp)
   ·rw [if_neg c6] at H;exact absurd H (by simp)
  ·rw [if_neg c5] at H;exact absurd H (by simp)
 ·rw [if_neg c4] at H;exact absurd H (by simp)
end Go.Proofs.Ytkigbdceceeenaa.P
end
