import Derived.Test.YtkigbdceceeenaaQMeets1
import Derived.Test.YtkigbdceceeenaaQMeets7
import Derived.Shelf.Abstract
import Derived.Test.YtkigbdceceeenaaQMeets3
import Derived.Test.YtkigbdceceeenaaQMeets2
import Derived.Test.YtkigbdceceeenaaQMeets4
set_option maxHeartbeats 8000000
set_option maxRecDepth 100000
section
namespace Go.Proofs.Ytkigbdceceeenaa.P
open Go.RowKit Go.Proofs.Pa.Ub Go.Proofs.Pa.Sd Go.Proofs.Pa.Xe
set_option linter.unusedVariables false
set_option linter.unusedSimpArgs false
def ni (x:Be):List Int :=
 if x.f0=1 ∨ x.f0=6 then [x.f2] else if x.f0=2 then [x.f2,x.f3] else if x.f0=3 ∨ x.f0=4 then [x.f3] ++ (if 0 ≤ x.f2 then [x.f2] else []) ++ (if x.f0=4 then [x.f4] else []) else []
def Vp (x:Be):Int:=if x.f0=4 then -1 else if x.f0=6 then -1 else x.f1
def bu (n:Nat) (x:Be):Prop:=(∀ u ∈ ni x,0 ≤ u∧u < (n:Int))∧(¬ x.f0=4→¬ x.f0=6→0 ≤ x.f1∧x.f1 < (n:Int))
theorem xE (x:Be):(ni x).length ≤ 3:=by
 unfold ni
 by_cases h1:x.f0=1 ∨ x.f0=6
 ·rw [if_pos h1];simp
 ·rw [if_neg h1]
  by_cases h2:x.f0=2
  ·rw [if_pos h2];simp
  ·rw [if_neg h2]
   by_cases h3:x.f0=3 ∨ x.f0=4
   ·rw [if_pos h3]
    by_cases h4:0 ≤ x.f2
    ·rw [if_pos h4]
     by_cases h5:x.f0=4
     ·rw [if_pos h5];simp
     ·rw [if_neg h5];simp
    ·rw [if_neg h4]
     by_cases h5:x.f0=4
     ·rw [if_pos h5];simp
     ·rw [if_neg h5];simp
   ·rw [if_neg h3];simp
def IC (s:List Bool) (u:Int):List Bool:=s.set u.toNat true
def Am (s:List Bool) (x:Be):List Bool:=(ni x).foldl IC (if Vp x ≥ 0 then s.set (Vp x).toNat false else s)
def Sg (b:Re) (s:List Bool):List Bool:=if b.f1=0 then s else s.set b.f2.toNat true
def KA (b:Re) (s:List Bool):List Bool:=b.f0.foldr (fun x s=>Am s x) (Sg b s)
theorem Aw:∀ (l:List Int) (s:List Bool),(l.foldl IC s).length=s.length
 | [],_=>rfl
 | u :: l,s=>by rw [List.foldl_cons,Aw l];unfold IC;rw [List.length_set]
theorem bR (s:List Bool) (x:Be):(Am s x).length=s.length:=by
 unfold Am;rw [Aw]
 by_cases h:Vp x ≥ 0
 ·rw [if_pos h,List.length_set]
 ·rw [if_neg h]
theorem Nk (b:Re) (s:List Bool):(Sg b s).length=s.length:=by
 unfold Sg
 by_cases h:b.f1=0
 ·rw [if_pos h]
 ·rw [if_neg h,List.length_set]
theorem vA (l:List Be) (s:List Bool):(l.foldr (fun x s=>Am s x) s).length=s.length:=by
 induction l with
 | nil=>rfl
 | cons x l ih=>rw [List.foldr_cons,bR,ih]
theorem Xp (b:Re) (s:List Bool):(KA b s).length=s.length:=by
 unfold KA;rw [vA,Nk]
theorem zi {s:List Bool} {i j:Nat} {b:Bool} (hi:i < s.length):seen (s.set i b) j=if i=j then b else seen s j:=by
 unfold seen;rw [List.getD_eq_getElem?_getD,List.getD_eq_getElem?_getD,List.getElem?_set]
 by_cases h:i=j
 ·rw [if_pos h,if_pos h,if_pos hi];rfl
 ·rw [if_neg h,if_neg h]
def j_ (u:Nat) (x:Be) (b:Bool):Bool:=if (u:Int) ∈ ni x then true else if Vp x=(u:Int) then false else b
def wQ (u:Nat) (k:Re) (b:Bool):Bool:=if k.f1=0 then b else if k.f2=(u:Int) then true else b
def jV (u:Nat) (k:Re) (b:Bool):Bool:=k.f0.foldr (j_ u) (wQ u k b)
theorem pU {u:Nat} {x:Be} {a b:Bool} (h:a=true→b=true):j_ u x a=true→j_ u x b=true:=by
 unfold j_
 by_cases h1:(u:Int) ∈ ni x
 ·rw [if_pos h1,if_pos h1];exact id
 ·rw [if_neg h1,if_neg h1]
  by_cases h2:Vp x=(u:Int)
  ·rw [if_pos h2,if_pos h2];exact id
  ·rw [if_neg h2,if_neg h2];exact h
theorem au {u:Nat} {k:Re} {a b:Bool} (h:a=true→b=true):jV u k a=true→jV u k b=true:=by
 unfold jV
 have he:wQ u k a=true→wQ u k b=true:=by
  unfold wQ
  by_cases h1:k.f1=0
  ·rw [if_pos h1,if_pos h1];exact h
  ·rw [if_neg h1,if_neg h1]
   by_cases h2:k.f2=(u:Int)
   ·rw [if_pos h2,if_pos h2];exact id
   ·rw [if_neg h2,if_neg h2];exact h
 induction k.f0 with
 | nil=>exact he
 | cons x l ih=>exact pU ih
theorem Vt:∀ (l:List Int) (s:List Bool) (u:Nat),(∀ a ∈ l,0 ≤ a∧a < (s.length:Int))→seen (l.foldl IC s) u=(decide ((u:Int) ∈ l) || seen s u)
 | [],s,u,_=>by simp
 | a :: l,s,u,h=>by
  obtain ⟨a0,a1⟩:=h a (by simp);rw [List.foldl_cons,Vt l (IC s a) u (fun c hc=>by unfold IC;rw [List.length_set];exact h c (by simp [hc]))];unfold IC;rw [zi (by omega)]
  by_cases e:a.toNat=u
  ·rw [if_pos e,decide_eq_true (show (u:Int) ∈ a :: l from List.mem_cons.2 (Or.inl (by omega)))];simp
  ·rw [if_neg e]
   have:(u:Int) ∈ a :: l ↔ (u:Int) ∈ l:=by
    rw [List.mem_cons];exact ⟨fun h=>h.resolve_left (by omega),Or.inr⟩
   rw [decide_eq_decide.2 this]
theorem CL {s:List Bool} {x:Be} {u:Nat} (hx:bu s.length x):seen (Am s x) u=j_ u x (seen s u):=by
 obtain ⟨h1,h2⟩:=hx;unfold Am j_
 have hm:Vp x ≥ 0→(Vp x).toNat < s.length:=by
  unfold Vp;intro h
  by_cases h4:x.f0=4
  ·rw [if_pos h4] at h;omega
  ·rw [if_neg h4] at h ⊢
   by_cases h6:x.f0=6
   ·rw [if_pos h6] at h;omega
   ·rw [if_neg h6] at h ⊢;have:=h2 h4 h6;omega
 have hlen:(if Vp x ≥ 0 then s.set (Vp x).toNat false else s).length=s.length:=by
  by_cases h:Vp x ≥ 0
  ·rw [if_pos h,List.length_set]
  ·rw [if_neg h]
 rw [Vt _ _ _ (fun a ha=>by rw [hlen];exact h1 a ha)]
 by_cases hu:(u:Int) ∈ ni x
 ·rw [if_pos hu,decide_eq_true hu];rfl
 ·rw [if_neg hu,decide_eq_false hu,Bool.false_or]
  by_cases h:Vp x ≥ 0
  ·rw [if_pos h,zi (hm h)]
   by_cases e:Vp x=(u:Int)
   ·rw [if_pos e,if_pos (by omega)]
   ·rw [if_neg e,if_neg (by omega)]
  ·rw [if_neg h,if_neg (by omega)]
def xu (n:Nat) (b:Re):Prop:=b.f0.length ≤ 1048576∧(¬ b.f1=0→0 ≤ b.f2∧b.f2 < (n:Int))∧∀ x ∈ b.f0,bu n x
theorem vQ {s:List Bool} {b:Re} {u:Nat} (hb:¬ b.f1=0→0 ≤ b.f2∧b.f2 < (s.length:Int)):seen (Sg b s) u=wQ u b (seen s u):=by
 unfold Sg wQ
 by_cases h:b.f1=0
 ·rw [if_pos h,if_pos h]
 ·have:=hb h;rw [if_neg h,if_neg h,zi (by omega)]
  by_cases e:b.f2=(u:Int)
  ·rw [if_pos e,if_pos (by omega)]
  ·rw [if_neg e,if_neg (by omega)]
theorem Zt {s:List Bool} {b:Re} {u:Nat} (hb:xu s.length b):seen (KA b s) u=jV u b (seen s u):=by
 unfold KA jV;obtain ⟨_,h2,h3⟩:=hb;have he:=vQ (u:=u) h2;have hl:=Nk b s;generalize Sg b s=s0 at he hl;rw [← he];clear he h2;generalize b.f0=cd at h3 ⊢
 induction cd with
 | nil=>rfl
 | cons x l ih =>
  rw [List.foldr_cons,List.foldr_cons,CL (by rw [vA,hl];exact h3 x (by simp)),ih (fun y hy=>h3 y (by simp [hy]))]
inductive LB (bs:List Re) (u:Nat):Nat→Prop
 | gen {i:Nat} {t:Int}:t ∈ Xq bs i→jV u (Ea bs t) false=true→LB bs u i
 | step {i:Nat} {t:Int}:t ∈ Xq bs i→jV u (Ea bs t) true=true→LB bs u t.toNat→LB bs u i
noncomputable def Jl (bs:List Re) (n i:Nat):List Bool:=open Classical in (List.range n).map fun u=>decide (LB bs u i)
noncomputable def Ke (bs:List Re) (n:Nat):List (List Bool):=(List.range bs.length).map (Jl bs n)
theorem Ji (bs:List Re) (n i:Nat):(Jl bs n i).length=n:=by simp [Jl]
theorem Di (bs:List Re) (n:Nat):(Ke bs n).length=bs.length:=by simp [Ke]
theorem Bo {bs:List Re} {n i u:Nat} (hu:u < n):seen (Jl bs n i) u=true ↔ LB bs u i:=by simp [seen,Jl,List.getD_eq_getElem?_getD,hu]
def jo (bs:List Re) (n:Nat):Prop:=Kz bs∧n ≤ 1048576∧∀ b ∈ bs,xu n b
def ee (X:List (List Bool)) (i:Nat):List Bool:=X.getD i []
theorem Yn {X:List (List Bool)} {i k:Nat} {x:List Bool} (hi:i < X.length):ee (X.set i x) k=if i=k then x else ee X k:=by
 unfold ee;rw [List.getD_eq_getElem?_getD,List.getD_eq_getElem?_getD,List.getElem?_set]
 by_cases h:i=k
 ·rw [if_pos h,if_pos h,if_pos hi];rfl
 ·rw [if_neg h,if_neg h]
structure VD (bs:List Re) (n:Nat) (X Y:List (List Bool)):Prop where
 xl:X.length=bs.length
 yl:Y.length=bs.length
 xr:∀ i,i < bs.length→(ee X i).length=n
 yr:∀ i,i < bs.length→(ee Y i).length=n
 xs:∀ i u,i < bs.length→seen (ee X i) u=true→LB bs u i
 ys:∀ i u,i < bs.length→seen (ee Y i) u=true→jV u (Ea bs (i:Int)) (seen (ee X i) u)=true
section
variable {bs:List Re} {n:Nat} {X Y:List (List Bool)}
theorem VD.or (h:VD bs n X Y) (hE:Kz bs) {i s:Nat} {t:Int} (hi:i < bs.length) (ht:t ∈ Xq bs i) (hs:s < n):VD bs n (X.set i ((ee X i).set s (seen (ee X i) s || seen (ee Y t.toNat) s))) Y:=by
 obtain ⟨t0,t1⟩:=hE.2.2 i hi t ht;have hil:i < X.length:=by rw [h.xl];exact hi
 have JS:s < (ee X i).length:=by rw [h.xr i hi];exact hs
 refine ⟨by rw [List.length_set];exact h.xl,h.yl,fun k hk=>?_,h.yr,fun k u hk hu=>?_,fun k u hk hu=>?_⟩
 ·rw [Yn hil]
  by_cases e:i=k
  ·rw [if_pos e,List.length_set];exact h.xr i hi
  ·rw [if_neg e];exact h.xr k hk
 ·rw [Yn hil] at hu
  by_cases e:i=k
  ·subst e;rw [if_pos rfl,zi JS] at hu
   by_cases e2:s=u
   ·subst e2;rw [if_pos rfl,Bool.or_eq_true] at hu
    rcases hu with hu|hu
    ·exact h.xs i s hk hu
    ·have hy:=h.ys t.toNat s (by omega) hu;rw [Int.toNat_of_nonneg t0] at hy;cases hb:seen (ee X t.toNat) s with
     | false=>rw [hb] at hy;exact LB.gen ht hy
     | true=>rw [hb] at hy;exact LB.step ht hy (h.xs t.toNat s (by omega) hb)
   ·rw [if_neg e2] at hu;exact h.xs i u hk hu
  ·rw [if_neg e] at hu;exact h.xs k u hk hu
 ·have hy:=h.ys k u hk hu;rw [Yn hil]
  by_cases e:i=k
  ·subst e;rw [if_pos rfl,zi JS]
   by_cases e2:s=u
   ·subst e2;rw [if_pos rfl];exact au (fun hb=>by rw [hb];rfl) hy
   ·rw [if_neg e2];exact hy
  ·rw [if_neg e];exact hy
theorem VD.put (h:VD bs n X Y) (hO:jo bs n) {i:Nat} (hi:i < bs.length):VD bs n X (Y.set i (KA (Ea bs (i:Int)) (ee X i))):=by
 have hil:i < Y.length:=by rw [h.yl];exact hi
 have hb:xu n (Ea bs (i:Int)):=by rw [th hi];exact hO.2.2 _ (List.getElem_mem hi)
 refine ⟨h.xl,by rw [List.length_set];exact h.yl,h.xr,fun k hk=>?_,h.xs,fun k u hk hu=>?_⟩
 ·rw [Yn hil]
  by_cases e:i=k
  ·rw [if_pos e,Xp];exact h.xr i hi
  ·rw [if_neg e];exact h.yr k hk
 ·rw [Yn hil] at hu
  by_cases e:i=k
  ·subst e;rw [if_pos rfl,Zt (by rw [h.xr i hi];exact hb)] at hu;exact hu
  ·rw [if_neg e] at hu;exact h.ys k u hk hu
def StE (bs:List Re) (X Y:List (List Bool)) (i:Nat):Prop:=(∀ t ∈ Xq bs i,∀ u,seen (ee Y t.toNat) u=true→seen (ee X i) u=true)∧ee Y i=KA (Ea bs (i:Int)) (ee X i)
theorem VD.done (h:VD bs n X Y) (hO:jo bs n) (hst:∀ i,i < bs.length→StE bs X Y i):X=Ke bs n:=by
 have hE:=hO.1
 have key:∀ u i,LB bs u i→i < bs.length→seen (ee X i) u=true:=by
  intro u i hl
  have turn:∀ (i:Nat) (t:Int),i < bs.length→t ∈ Xq bs i→jV u (Ea bs t) (seen (ee X t.toNat) u)=true→seen (ee X i) u=true:=by
   intro i t hi ht h1;obtain ⟨t0,t1⟩:=hE.2.2 i hi t ht;have htn:t.toNat < bs.length:=by omega
   refine (hst i hi).1 t ht u ?_;rw [(hst t.toNat htn).2,Zt (by rw [h.xr _ htn,th htn];exact hO.2.2 _ (List.getElem_mem htn)),Int.toNat_of_nonneg t0];exact h1
  induction hl with
  | @gen i t ht h1 =>
   intro hi;exact turn i t hi ht (au (fun hf=>by cases hf) h1)
  | @step i t ht h1 _ ih =>
   intro hi;obtain ⟨t0,t1⟩:=hE.2.2 i hi t ht;exact turn i t hi ht (au (fun _=>ih (by omega)) h1)
 apply List.ext_getElem
 ·rw [h.xl,Di]
 ·intro i h1 h2;have hi:i < bs.length:=by rw [← h.xl];exact h1
  have e1:X[i]=ee X i:=by simp [ee,List.getD_eq_getElem?_getD,h1]
  have e2:(Ke bs n)[i]=Jl bs n i:=by simp [Ke]
  rw [e1,e2];refine JC (by rw [h.xr i hi,Ji]) (fun u=>?_)
  constructor
  ·intro hu;have hun:u < n:=by have:=Sk hu;rw [h.xr i hi] at this;exact this
   exact (Bo hun).2 (h.xs i u hi hu)
  ·intro hu;have hun:u < n:=by have:=Sk hu;rw [Ji] at this;exact this
   exact key u i ((Bo hun).1 hu) hi
def cnt (s:List Bool):Nat:=s.count true
def Cp (Y:List (List Bool)):Nat:=(Y.map cnt).sum
theorem uD:∀ (Y:List (List Bool)) (i:Nat) (x:List Bool),i < Y.length→Cp (Y.set i x) + cnt (ee Y i)=Cp Y + cnt x
 | [],i,x,h=>by simp at h
 | y :: Y,0,x,_=>by
  simp only [Cp,List.set_cons_zero,List.map_cons,List.sum_cons,ee,List.getD_cons_zero];omega
 | y :: Y,i + 1,x,h=>by
  have ih:=uD Y i x (by simpa using h);simp only [Cp,List.set_cons_succ,List.map_cons,List.sum_cons,ee,List.getD_cons_succ] at ih ⊢;omega
theorem qL:∀ (a b:List Bool),a.length=b.length→(∀ u,seen a u=true→seen b u=true)→cnt a ≤ cnt b∧(a ≠ b→cnt a < cnt b)
 | [],[],_,_=>⟨Nat.le_refl _,fun h=>absurd rfl h⟩
 | [],_ :: _,h,_=>by cases h
 | _ :: _,[],h,_=>by cases h
 | x :: a,y :: b,hl,h=>by
  obtain ⟨h1,h2⟩:=qL a b (by simpa using hl) (fun u hu=>h (u + 1) hu);have h0:x=true→y=true:=h 0;unfold cnt at h1 h2 ⊢;rw [List.count_cons,List.count_cons];cases x with
  | false =>
   cases y with
   | false=>exact ⟨by simpa using h1,fun hne=>by have:=h2 (fun e=>hne (by rw [e]));simpa using this⟩
   | true=>exact ⟨by simp;omega,fun _=>by simp;omega⟩
  | true =>
   have hy:=h0 rfl;subst hy;exact ⟨by simpa using h1,fun hne=>by have:=h2 (fun e=>hne (by rw [e]));simpa using this⟩
theorem UY (a:List Bool):cnt a ≤ a.length:=List.count_le_length
theorem QH {m:Nat}:∀ (Y:List (List Bool)),(∀ i,i < Y.length→(ee Y i).length ≤ m)→Cp Y ≤ m * Y.length
 | [],_=>by simp [Cp]
 | y :: Y,h=>by
  have h1:=QH Y (fun i hi=>h (i + 1) (by simpa using hi));have h2:=h 0 (by simp);have h3:=UY y;have h4:(ee (y :: Y) 0)=y:=rfl;rw [h4] at h2;simp only [Cp,List.map_cons,List.sum_cons,List.length_cons,Nat.mul_succ] at h1 ⊢;omega
theorem VD.grow (h:VD bs n X Y) (hO:jo bs n) {i:Nat} (hi:i < bs.length) (hne:KA (Ea bs (i:Int)) (ee X i) ≠ ee Y i):Cp Y < Cp (Y.set i (KA (Ea bs (i:Int)) (ee X i))):=by
 have hb:xu n (Ea bs (i:Int)):=by rw [th hi];exact hO.2.2 _ (List.getElem_mem hi)
 have h1:=uD Y i (KA (Ea bs (i:Int)) (ee X i)) (by rw [h.yl];exact hi)
 have h2:=(qL (ee Y i) (KA (Ea bs (i:Int)) (ee X i)) (by rw [Xp,h.xr i hi,h.yr i hi]) (fun u hu=>by
  rw [Zt (by rw [h.xr i hi];exact hb)]
  exact h.ys i u hi hu)).2 (fun e=>hne e.symm)
 omega
theorem VD.start (bs:List Re) (n:Nat):VD bs n (List.replicate bs.length (List.replicate n false)) (List.replicate bs.length (List.replicate n false)):=by
 have hr:∀ i,i < bs.length→ee (List.replicate bs.length (List.replicate n false)) i=List.replicate n false:=fun i hi=>by
  unfold ee;rw [List.getD_eq_getElem?_getD,List.getElem?_replicate,if_pos hi];rfl
 refine ⟨by simp,by simp,fun i hi=>by rw [hr i hi];simp,fun i hi=>by rw [hr i hi];simp,fun i u hi hu=>?_,fun i u hi hu=>?_⟩
 ·rw [hr i hi,Sz] at hu;cases hu
 ·rw [hr i hi,Sz] at hu;cases hu
end
end Go.Proofs.Ytkigbdceceeenaa.P
end
section
namespace Go.Proofs.Ytkigbdceceeenaa.P
open Go.RowKit Go.Proofs.Pa.Ub Go.Proofs.Pa.Sd Go.Proofs.Pa.Xe
set_option linter.unusedVariables false
set_option linter.unusedSimpArgs false
def oE (w:World) (N:Nat):World:={ w with heap:=w.heap.extract 0 N }
theorem xk {w:World} {N:Nat} (h:N ≤ w.heap.size):(oE w N).heap.size=N:=by
 unfold oE;simp;omega
theorem Rw {w:World} {N:Nat} (h:N ≤ w.heap.size):Below (oE w N).heap.size (oE w N) w:=by
 refine ⟨rfl,rfl,rfl,by rw [xk h];exact h,fun k hk=>?_⟩;rw [xk h] at hk
 show w.heap[k]? = (w.heap.extract 0 N)[k]?
 rw [Array.getElem?_extract];simp;omega
section
variable {St:Type} (f:St→Be→List Bool→St)
def yp:List Be→List Bool→St→St
 | [],_,st=>st
 | x :: r,s,st=>yp r (Am s x) (f st x s)
theorem rD {code:List Be} {q:Nat} (h:q < code.length) (s:List Bool) (st:St):yp f (code.take (q + 1)).reverse s st=yp f (code.take q).reverse (Am s (Da code (q:Int))) (f st (Da code (q:Int)) s):=by
 rw [List.take_succ_eq_append_getElem h,List.reverse_append,Rq h]
 rfl
def Iw (bs:List Re) (X:List (List Bool)) (st:St) (i:Nat):St:=yp f (Ea bs (i:Int)).f0.reverse (Sg (Ea bs (i:Int)) (ee X i)) st
def Hg (bs:List Re) (X:List (List Bool)) (i:Nat) (st:St):St:=((List.range bs.length).drop i).foldl (Iw f bs X) st
theorem Bn {bs:List Re} {X:List (List Bool)} {i:Nat} (h:i < bs.length) (st:St):Hg f bs X i st=Hg f bs X (i + 1) (Iw f bs X st i):=by
 unfold Hg;rw [List.drop_eq_getElem_cons (by rw [List.length_range];exact h),List.foldl_cons,List.getElem_range]
theorem Xo (bs:List Re) (X:List (List Bool)) (st:St):Hg f bs X bs.length st=st:=by
 unfold Hg;rw [List.drop_eq_nil_of_le (by rw [List.length_range];exact Nat.le_refl _)]
 rfl
end
def JZ (S:Nat→Prop) (w:World) (k:Nat):Prop:=S k ∨ w.heap.size ≤ k
structure uR (S:Nat→Prop) (w:World) (o:Obj) (wr:World):Prop where
 k:Kept w wr (JZ S w)
 b:Below 0 w wr
 hx:wr.heap[w.heap.size]? = some o
section
variable {S:Nat→Prop} {w wr W:World} {o:Obj}
theorem Gp {B:Nat} (h:Below B wr W):Below 0 wr W:=⟨h.os,h.tape,h.output,h.size,fun k hk=>by omega⟩
theorem uR.below (h:uR S w o wr) (hb:Below wr.heap.size wr W):uR S w o W:=⟨h.k.below hb,h.b.trans (Gp hb),Va h.hx hb⟩
theorem uR.kept (h:uR S w o wr) (hS:∀ k,S k→k < w.heap.size) (hk:Kept wr W S) (hb:Below 0 wr W):uR S w o W :=
 ⟨h.k.mo hk (fun _ h2=>Or.inl (Or.inl h2)),h.b.trans hb,Pf h.hx hk (fun e=>by have:=hS _ e;omega)⟩
theorem uR.le (h:uR S w o wr):w.heap.size < wr.heap.size:=Ec h.hx
end
end Go.Proofs.Ytkigbdceceeenaa.P
end
section
namespace Go.Proofs.Ytkigbdceceeenaa.P
open Go.RowKit Go.Proofs.Pa.Ub Go.Proofs.Pa.Sd Go.Proofs.Pa.Xe
set_option linter.unusedVariables false
set_option linter.unusedSimpArgs false
attribute [local go_sem] Jh Bi tj nk wh uh Ci Ai
def ji.f (Eb:Int) (La:Int) (Ja:Int) (Ma:Int) (xb:Int) (jc:Int) (fc:ByteArray):Option (Int):=if Eb=4 then (some (-1)) else (if Eb=6 then (some (-1)) else (some La))
theorem ji.calls (Eb:Int) (La:Int) (Ja:Int) (Ma:Int) (xb:Int) (jc:Int) (fc:ByteArray) (r:Int) (w:World) (h:ji.f Eb La Ja Ma xb jc fc=some r) :
  Calls Try.prog 87 #[.agg #[.int .i64 Eb,.int .i64 La,.int .i64 Ja,.int .i64 Ma,.int .i64 xb,.int .i64 jc,.string fc]] w fun e w'=>e = .returned (.int .i64 r)∧Below w.heap.size w w':=by
 have aA:=Try.underlying65;have HB:=ga.mk (Below.refl w.heap.size w);have H:(if Eb=4 then (some (-1)) else (if Eb=6 then (some (-1)) else (some La)))=some r:=h;clear h
 by_cases c2:Eb=4
 ·rw [if_pos c2] at H;have vw:(Eb == 4)=true:=beq_iff_eq.mpr c2;have uA:(Eb != 4)=false:=bne_eq_false_iff_eq.mpr c2;clear c2;obtain rfl:=Option.some.inj H;go_enter Try.func87,Try.ntmps87;go_wp2_with (first|((with_reducible refine qb (N:=1) rfl ?_);refine Gb ?hg (N:=1) ?hd (cs:=#[.int .i64 Eb,.int .i64 La,.int .i64 Ja,.int .i64 Ma,.int .i64 xb,.int .i64 jc,.string fc]) (t:=65) ?hr ?_;(case hd=>rfl);(case hg=>rfl);(case hr=>first|(go_simp;done)|(go_simp;rfl));intro ya hg w3 Ob hb;have yb:=ga.mk (Qa (by repeat (first|(with_reducible first|exact HB.out|apply qa|apply ja|apply ta)|exact HB.out)) hb);have Ib:=ga.mk (Ob);have Nb:=ga.mk ((by rw [hg];exact (Ia (by repeat (first|(with_reducible first|exact HB.out|apply qa|apply ja|apply ta)|exact HB.out))):w.heap.size ≤ ya));have Dc:=ga.mk ((by rw [hg];exact (Ia (by repeat (first|(with_reducible first|exact HB.out|apply qa|apply ja|apply ta)|exact HB.out))):w.heap.size ≤ ya));clear HB;have HB:=yb;have oa:=Ib;have Nd:=Nb;have Ta:=Dc;clear yb Ib Nb Dc hb Ob hg;have oA:w3.cell? ⟨ya,0,none⟩=some (.int .i64 Eb):=(ia oa.out 0).trans rfl;have nA:w3.cell? ⟨ya,1,none⟩=some (.int .i64 La):=(ia oa.out 1).trans rfl;have mA:w3.cell? ⟨ya,2,none⟩=some (.int .i64 Ja):=(ia oa.out 2).trans rfl;have lA:w3.cell? ⟨ya,3,none⟩=some (.int .i64 Ma):=(ia oa.out 3).trans rfl;have kA:w3.cell? ⟨ya,4,none⟩=some (.int .i64 xb):=(ia oa.out 4).trans rfl;have VG:w3.cell? ⟨ya,5,none⟩=some (.int .i64 jc):=(ia oa.out 5).trans rfl;have UG:w3.cell? ⟨ya,6,none⟩=some (.string fc):=(ia oa.out 6).trans rfl;have gA:=aa oa.out 0;have fA:=aa oa.out 1;have eA:=aa oa.out 2;have dA:=aa oa.out 3;have cA:=aa oa.out 4;have YF:=aa oa.out 5;have XF:=aa oa.out 6));go_ret;exact ⟨by first|rfl|(simp [Oa,Na] <;> rfl)|(simp [*,Oa,Na] <;> rfl),by repeat (first|(with_reducible first|exact HB.out|apply qa|apply ja|apply ta|refine ua ?_ Ta.out)|exact HB.out)⟩
 ·rw [if_neg c2] at H;have vw:(Eb == 4)=false:=beq_eq_false_iff_ne.mpr c2;have uA:(Eb != 4)=true:=bne_iff_ne.mpr c2
  by_cases c5:Eb=6
  ·rw [if_pos c5] at H;have Ui:(Eb == 6)=true:=beq_iff_eq.mpr c5;have Tw:(Eb != 6)=false:=bne_eq_false_iff_eq.mpr c5;clear c5;obtain rfl:=Option.some.inj H;go_enter Try.func87,Try.ntmps87;go_wp2_with (first|((with_reducible refine qb (N:=1) rfl ?_);refine Gb ?hg (N:=1) ?hd (cs:=#[.int .i64 Eb,.int .i64 La,.int .i64 Ja,.int .i64 Ma,.int .i64 xb,.int .i64 jc,.string fc]) (t:=65) ?hr ?_;(case hd=>rfl);(case hg=>rfl);(case hr=>first|(go_simp;done)|(go_simp;rfl));intro ya hg w6 Ob hb;have yb:=ga.mk (Qa (by repeat (first|(with_reducible first|exact HB.out|apply qa|apply ja|apply ta)|exact HB.out)) hb);have Ib:=ga.mk (Ob);have Nb:=ga.mk ((by rw [hg];exact (Ia (by repeat (first|(with_reducible first|exact HB.out|apply qa|apply ja|apply ta)|exact HB.out))):w.heap.size ≤ ya));have Dc:=ga.mk ((by rw [hg];exact (Ia (by repeat (first|(with_reducible first|exact HB.out|apply qa|apply ja|apply ta)|exact HB.out))):w.heap.size ≤ ya));clear HB;have HB:=yb;have oa:=Ib;have Nd:=Nb;have Ta:=Dc;clear yb Ib Nb Dc hb Ob hg;have Ms:w6.cell? ⟨ya,0,none⟩=some (.int .i64 Eb):=(ia oa.out 0).trans rfl;have Ls:w6.cell? ⟨ya,1,none⟩=some (.int .i64 La):=(ia oa.out 1).trans rfl;have Ks:w6.cell? ⟨ya,2,none⟩=some (.int .i64 Ja):=(ia oa.out 2).trans rfl;have Js:w6.cell? ⟨ya,3,none⟩=some (.int .i64 Ma):=(ia oa.out 3).trans rfl;have Hs:w6.cell? ⟨ya,4,none⟩=some (.int .i64 xb):=(ia oa.out 4).trans rfl;have NG:w6.cell? ⟨ya,5,none⟩=some (.int .i64 jc):=(ia oa.out 5).trans rfl;have MG:w6.cell? ⟨ya,6,none⟩=some (.string fc):=(ia oa.out 6).trans rfl;have Ur:=aa oa.out 0;have Tr:=aa oa.out 1;have Sr:=aa oa.out 2;have Qr:=aa oa.out 3;have Pr:=aa oa.out 4;have PF:=aa oa.out 5;have NF:=aa oa.out 6));go_ret;exact ⟨by first|rfl|(simp [Oa,Na] <;> rfl)|(simp [*,Oa,Na] <;> rfl),by repeat (first|(with_reducible first|exact HB.out|apply qa|apply ja|apply ta|refine ua ?_ Ta.out)|exact HB.out)⟩
  ·rw [if_neg c5] at H;have Ui:(Eb == 6)=false:=beq_eq_false_iff_ne.mpr c5;have Tw:(Eb != 6)=true:=bne_iff_ne.mpr c5;obtain rfl:=Option.some.inj H;go_enter Try.func87,Try.ntmps87;go_wp2_with (first|((with_reducible refine qb (N:=1) rfl ?_);refine Gb ?hg (N:=1) ?hd (cs:=#[.int .i64 Eb,.int .i64 La,.int .i64 Ja,.int .i64 Ma,.int .i64 xb,.int .i64 jc,.string fc]) (t:=65) ?hr ?_;(case hd=>rfl);(case hg=>rfl);(case hr=>first|(go_simp;done)|(go_simp;rfl));intro ya hg w8 Ob hb;have yb:=ga.mk (Qa (by repeat (first|(with_reducible first|exact HB.out|apply qa|apply ja|apply ta)|exact HB.out)) hb);have Ib:=ga.mk (Ob);have Nb:=ga.mk ((by rw [hg];exact (Ia (by repeat (first|(with_reducible first|exact HB.out|apply qa|apply ja|apply ta)|exact HB.out))):w.heap.size ≤ ya));have Dc:=ga.mk ((by rw [hg];exact (Ia (by repeat (first|(with_reducible first|exact HB.out|apply qa|apply ja|apply ta)|exact HB.out))):w.heap.size ≤ ya));clear HB;have HB:=yb;have oa:=Ib;have Nd:=Nb;have Ta:=Dc;clear yb Ib Nb Dc hb Ob hg;have xm:w8.cell? ⟨ya,0,none⟩=some (.int .i64 Eb):=(ia oa.out 0).trans rfl;have wm:w8.cell? ⟨ya,1,none⟩=some (.int .i64 La):=(ia oa.out 1).trans rfl;have vm:w8.cell? ⟨ya,2,none⟩=some (.int .i64 Ja):=(ia oa.out 2).trans rfl;have um:w8.cell? ⟨ya,3,none⟩=some (.int .i64 Ma):=(ia oa.out 3).trans rfl;have rm:w8.cell? ⟨ya,4,none⟩=some (.int .i64 xb):=(ia oa.out 4).trans rfl;have Z5:w8.cell? ⟨ya,5,none⟩=some (.int .i64 jc):=(ia oa.out 5).trans rfl;have Y5:w8.cell? ⟨ya,6,none⟩=some (.string fc):=(ia oa.out 6).trans rfl;have qm:=aa oa.out 0;have om:=aa oa.out 1;have mm:=aa oa.out 2;have jm:=aa oa.out 3;have gm:=aa oa.out 4;have K5:=aa oa.out 5;have J5:=aa oa.out 6));go_ret;exact ⟨by first|rfl|(simp [Oa,Na] <;> rfl)|(simp [*,Oa,Na] <;> rfl),by repeat (first|(with_reducible first|exact HB.out|apply qa|apply ja|apply ta|refine ua ?_ Ta.out)|exact HB.out)⟩
mutual
def qd.j0:Nat→List Int→Int→Bool→Int→Int→Int→Int→Int→Int→ByteArray→Option (List Int)
 | 0,_,_,_,_,_,_,_,_,_,_=>none
 | k + 1,x3,x6,x7,Cc,Tc,Ic,Gc,Wb,Gl,Fl=>if x7=true then (if x3.length < 17592186044416 then (some (x3 ++ [Ic])) else (none)) else (if x6=2 then ((some (([Ic,Gc]:List Int):List Int)).bind fun Bg=>(if x3.length + Bg.length < 17592186044416 then (some (x3 ++ Bg)) else (none))) else (if x6=3 then (qd.j1 k x3 (x6 == 3) Cc Tc Ic Gc Wb Gl Fl) else (qd.j1 k x3 (x6 == 4) Cc Tc Ic Gc Wb Gl Fl)))
def qd.j1:Nat→List Int→Bool→Int→Int→Int→Int→Int→Int→ByteArray→Option (List Int)
 | 0,_,_,_,_,_,_,_,_,_=>none
 | k + 1,x3,x24,Cc,Tc,Ic,Gc,Wb,Gl,Fl=>if x24=true then (if x3.length < 17592186044416 then ((some (x3 ++ [Gc]:List Int)).bind fun Dl=>(if Ic ≥ 0 then (if Dl.length < 17592186044416 then ((some (Dl ++ [Ic]:List Int)).bind fun gp=>(if Cc=4 then (if gp.length < 17592186044416 then (some (gp ++ [Wb])) else (none)) else (some gp))) else (none)) else (if Cc=4 then (if Dl.length < 17592186044416 then (some (Dl ++ [Wb])) else (none)) else (some Dl)))) else (none)) else (some x3)
end
def qd.f (k:Nat) (Eb:Int) (La:Int) (Ja:Int) (Ma:Int) (xb:Int) (jc:Int) (fc:ByteArray):Option (List Int):=(some (([]:List Int):List Int)).bind fun ld=>(if Eb=1 then (qd.j0 k ld Eb (Eb == 1) Eb La Ja Ma xb jc fc) else (qd.j0 k ld Eb (Eb == 6) Eb La Ja Ma xb jc fc))
theorem qd.calls (k:Nat) (Eb:Int) (La:Int) (Ja:Int) (Ma:Int) (xb:Int) (jc:Int) (fc:ByteArray) (r:List Int) (w:World) (h:qd.f k Eb La Ja Ma xb jc fc=some r) :
  Calls Try.prog 88 #[.agg #[.int .i64 Eb,.int .i64 La,.int .i64 Ja,.int .i64 Ma,.int .i64 xb,.int .i64 jc,.string fc]] w fun e w'=>∃ Hl:Value,e = .returned (Hl)∧Kd.R (Kd.int .i64) 3 w' w.heap.size (fun _=>True) Hl r∧Below w.heap.size w w':=by
 have aA:=Try.underlying65;have HB:=ga.mk (Below.refl w.heap.size w);have H:((some (([]:List Int):List Int)).bind fun ld=>(if Eb=1 then (qd.j0 k ld Eb (Eb == 1) Eb La Ja Ma xb jc fc) else (qd.j0 k ld Eb (Eb == 6) Eb La Ja Ma xb jc fc)))=some r:=h;clear h;obtain ⟨ld,tf⟩:∃ y_:List Int,y_=(([]:List Int)):=⟨_,rfl⟩;replace H:(if Eb=1 then (qd.j0 k ld Eb (Eb == 1) Eb La Ja Ma xb jc fc) else (qd.j0 k ld Eb (Eb == 6) Eb La Ja Ma xb jc fc))=some r:=by first|(rw [tf];with_reducible exact H)|(have Md:=(Option.bind_some _ _).symm.trans H;rw [tf];with_reducible exact Md)|(have Md:=(Option.bind_some _ _).symm.trans H;with_reducible exact Md)|with_reducible exact H|(rw [tf];exact H)|exact H
 have Ch:=ga.mk tf;clear tf;have YP:=ga.mk H;clear H;go_enter Try.func88,Try.ntmps88
 go_upto_if 7 with (first|((with_reducible refine qb (N:=1) rfl ?_);refine Gb ?hg (N:=1) ?hd (cs:=#[.int .i64 Eb,.int .i64 La,.int .i64 Ja,.int .i64 Ma,.int .i64 xb,.int .i64 jc,.string fc]) (t:=65) ?hr ?_;(case hd=>rfl);(case hg=>rfl);(case hr=>first|(go_simp;done)|(go_simp;rfl));intro ya hg w3 Ob hb;have yb:=ga.mk (Qa (by repeat (first|(with_reducible first|exact HB.out|apply qa|apply ja|apply ta)|exact HB.out)) hb);have Ib:=ga.mk (Ob);have Nb:=ga.mk ((by rw [hg];exact (Ia (by repeat (first|(with_reducible first|exact HB.out|apply qa|apply ja|apply ta)|exact HB.out))):w.heap.size ≤ ya));have Dc:=ga.mk ((by rw [hg];exact (Ia (by repeat (first|(with_reducible first|exact HB.out|apply qa|apply ja|apply ta)|exact HB.out))):w.heap.size ≤ ya));clear HB;have HB:=yb;have oa:=Ib;have Nd:=Nb;have Ta:=Dc;clear yb Ib Nb Dc hb Ob hg)|((with_reducible refine qb (N:=4) rfl ?_);refine Kd.ej (Kd.int .i64) _ 3 ?hg (N:=4) ?hd (xs:=([]:List Int)) (inner:=[]) (ok:=fun _=>True) (Tg:=fun _=>True) ?hr ?hp (fun _ hk=>hk) trivial (Below.refl _ _) (Nat.le_refl _) (by simp) ?_;(case hd=>rfl);(case hg=>rfl);(case hr=>first|(go_simp;done)|(go_simp;rfl));(case hp=>exact (xd.none _ _));intro En w4 dD hb Al He;clear Al He;(first|rw [← Ch.out] at dD|(simp only [Int.reduceToNat] at dD;rw [← Ch.out] at dD));have yb:=ga.mk (Kd.we dD (Ia (by repeat (first|(with_reducible first|exact HB.out|apply qa|apply ja|apply ta|refine ua ?_ Ta.out)|exact HB.out))));have Ib:=ga.mk (Va (g:=ya) (o:=.cells #[.int .i64 Eb,.int .i64 La,.int .i64 Ja,.int .i64 Ma,.int .i64 xb,.int .i64 jc,.string fc] 65 (0,0)) (by (with_reducible repeat (first|refine Ba ?_ _|refine Fa ?_|refine Ca ?_ _));exact oa.out) hb);have Nb:=ga.mk (Qa (by repeat (first|(with_reducible first|exact HB.out|apply qa|apply ja|apply ta|refine ua ?_ Ta.out)|exact HB.out)) hb);clear oa HB;have mg:=yb;have oa:=Ib;have HB:=Nb;clear yb Ib Nb hb dD;have Vm:w4.cell? ⟨ya,0,none⟩=some (.int .i64 Eb):=(ia oa.out 0).trans rfl;have Um:w4.cell? ⟨ya,1,none⟩=some (.int .i64 La):=(ia oa.out 1).trans rfl;have Sm:w4.cell? ⟨ya,2,none⟩=some (.int .i64 Ja):=(ia oa.out 2).trans rfl;have Rm:w4.cell? ⟨ya,3,none⟩=some (.int .i64 Ma):=(ia oa.out 3).trans rfl;have Qm:w4.cell? ⟨ya,4,none⟩=some (.int .i64 xb):=(ia oa.out 4).trans rfl;have Qs:w4.cell? ⟨ya,5,none⟩=some (.int .i64 jc):=(ia oa.out 5).trans rfl;have Ns:w4.cell? ⟨ya,6,none⟩=some (.string fc):=(ia oa.out 6).trans rfl;have Pm:=aa oa.out 0;have Om:=aa oa.out 1;have Nm:=aa oa.out 2;have Mm:=aa oa.out 3;have Lm:=aa oa.out 4;have Wr:=aa oa.out 5;have Vr:=aa oa.out 6))
 (try simp only [Act.put,List.setIfInBounds_toArray,List.set_cons_zero,List.set_cons_succ])
 go_cut [7] (fun v7 wc=>∃ (kq:Nat) (TA:Bool),v7 = .bool TA∧ga (qd.j0 kq ld Eb TA Eb La Ja Ma xb jc fc=some r)∧ga (kq ≤ k)∧ga (Kd.R (Kd.int .i64) 3 wc w.heap.size (fun _=>True) En ld)∧ga (wc.heap[ya]? = some (.cells #[.int .i64 Eb,.int .i64 La,.int .i64 Ja,.int .i64 Ma,.int .i64 xb,.int .i64 jc,.string fc] 65 (0,0)))∧ga (Below w.heap.size w wc))
 case first =>
  have H:=YP.out;clear YP
  by_cases c7:Eb=1
  ·rw [if_pos c7] at H;have Ek:(Eb == 1)=true:=beq_iff_eq.mpr c7;have kr:(Eb != 1)=false:=bne_eq_false_iff_eq.mpr c7;clear c7;(first|rw [Ek]|(simp only [Zb,dc];rw [Ek])|skip);have H':=ga.mk H;clear H;go_wp2
   go_meet
   case rel=>exact ⟨_,((Eb == 1)),(by first|rfl|(simp;done)|(simp [*];done)),H',⟨by first|omega|exact Nat.le_refl _⟩,⟨by (with_reducible repeat (first|apply Kd.Ab|apply Kd.zb|apply Kd.Pb));exact mg.out⟩,⟨by (with_reducible repeat (first|refine Ba ?_ _|refine Fa ?_|refine Ca ?_ _));exact oa.out⟩,⟨by repeat (first|(with_reducible first|exact HB.out|apply qa|apply ja|apply ta|refine ua ?_ Ta.out)|exact HB.out)⟩⟩
  ·rw [if_neg c7] at H;have Ek:(Eb == 1)=false:=beq_eq_false_iff_ne.mpr c7;have kr:(Eb != 1)=true:=bne_iff_ne.mpr c7;(first|rw [Ek]|(simp only [Zb,dc];rw [Ek])|skip);have H':=ga.mk H;clear H;go_wp2
   go_meet
   case rel=>exact ⟨_,((Eb == 6)),(by first|rfl|(simp;done)|(simp [*];done)),H',⟨by first|omega|exact Nat.le_refl _⟩,⟨by (with_reducible repeat (first|apply Kd.Ab|apply Kd.zb|apply Kd.Pb));exact mg.out⟩,⟨by (with_reducible repeat (first|refine Ba ?_ _|refine Fa ?_|refine Ca ?_ _));exact oa.out⟩,⟨by repeat (first|(with_reducible first|exact HB.out|apply qa|apply ja|apply ta|refine ua ?_ Ta.out)|exact HB.out)⟩⟩
 case rest =>
  clear YP
  try clear p2
  try clear c7
  try clear Ek
  try clear kr
  try clear Vm
  try clear Um
  try clear Sm
  try clear Rm
  try clear Qm
  try clear Qs
  try clear Ns
  try clear Pm
  try clear Om
  try clear Nm
  try clear Mm
  try clear Lm
  try clear Wr
  try clear Vr
  obtain ⟨kq,TA,rfl,HA,D3,Mc,oa,HB⟩:=hcut;cases kq with
  | zero=>exact absurd HA.out (by simp [qd.j0])
  | succ gS =>
   have H:=HA.out;clear HA;simp only [qd.j0] at H
   by_cases c8:TA=true
   ·subst c8;have H1:(if ld.length < 17592186044416 then (some (ld ++ [Ja])) else (none))=some r:=by rw [if_pos rfl] at H;exact H
    clear H;have H:=H1;clear H1
    by_cases c9:ld.length < 17592186044416
    ·rw [if_pos c9] at H;have y8:=ga.mk c9;clear c9;obtain ⟨Od,lf⟩:∃ y_:List Int,y_=(ld ++ [Ja]):=⟨_,rfl⟩;replace H:(some Od)=some r:=by first|(rw [lf];with_reducible exact H)|(have Md:=(Option.bind_some _ _).symm.trans H;rw [lf];with_reducible exact Md)|(have Md:=(Option.bind_some _ _).symm.trans H;with_reducible exact Md)|with_reducible exact H|(rw [lf];exact H)|exact H
     have Dk:=ga.mk lf;clear lf;obtain rfl:=Option.some.inj H;have Yh:wc.cell? ⟨ya,0,none⟩=some (.int .i64 Eb):=(ia oa.out 0).trans rfl;have Xh:wc.cell? ⟨ya,1,none⟩=some (.int .i64 La):=(ia oa.out 1).trans rfl;have Wh:wc.cell? ⟨ya,2,none⟩=some (.int .i64 Ja):=(ia oa.out 2).trans rfl;have Vh:wc.cell? ⟨ya,3,none⟩=some (.int .i64 Ma):=(ia oa.out 3).trans rfl;have Uh:wc.cell? ⟨ya,4,none⟩=some (.int .i64 xb):=(ia oa.out 4).trans rfl;have uz:wc.cell? ⟨ya,5,none⟩=some (.int .i64 jc):=(ia oa.out 5).trans rfl;have rz:wc.cell? ⟨ya,6,none⟩=some (.string fc):=(ia oa.out 6).trans rfl;have Th:=aa oa.out 0;have Sh:=aa oa.out 1;have Rh:=aa oa.out 2;have Qh:=aa oa.out 3;have Ph:=aa oa.out 4;have Wy:=aa oa.out 5;have Vy:=aa oa.out 6;go_wp2_with (first|((with_reducible refine Ld (b:=.append) (xs:=#[.tmp 10,.tmp 13]) rfl ?_);at_builtin;refine Kd.Wg (Kd.int .i64) (w0:=w) w.heap.size rfl (.tmp 10) (.tmp 13) 22 3 (.int .i64 0) 8 rfl Try.underlying22 info3 rfl (by decide) (by omega) En ld Ja [.int .i64 Ja] (fun _=>True) (fun _=>False) rfl rfl ?aP (fun _ hk=>hk.elim) ?aF ?aO ?aB ?aS ?aL ?_;(case aP=>exact rfl);(case aB=>exact (by repeat (first|(with_reducible first|exact HB.out|apply qa|apply ja|apply ta|refine ua ?_ Ta.out)|exact HB.out)));(case aF=>exact (fun _ _=>trivial));(case aO=>exact (by (with_reducible repeat (first|apply Kd.Ab|apply Kd.zb|apply Kd.Pb));exact Mc.out));(case aS=>exact (Ia (by repeat (first|(with_reducible first|exact HB.out|apply qa|apply ja|apply ta|refine ua ?_ Ta.out)|exact HB.out))));(case aL=>have:=y8.out;omega);intro Oz Zi ho hb hg hat;rw [← Dk.out] at ho;have yb:=ga.mk (td (g:=ya) (o:=.cells #[.int .i64 Eb,.int .i64 La,.int .i64 Ja,.int .i64 Ma,.int .i64 xb,.int .i64 jc,.string fc] 65 (0,0)) (by (with_reducible repeat (first|refine Ba ?_ _|refine Fa ?_|refine Ca ?_ _));exact oa.out) hg (Kd.Bl Mc.out oa.out (by decide)));have Ib:=ga.mk (hb);have Nb:=ga.mk (ho);clear oa HB Mc;have oa:=yb;have HB:=Ib;have di:=Nb;clear yb Ib Nb ho hb hg hat));go_ret;exact ⟨_,by first|rfl|(simp [Oa,Na] <;> rfl)|(simp [*,Oa,Na] <;> rfl),by (with_reducible repeat (first|apply Kd.Ab|apply Kd.zb|apply Kd.Pb));exact di.out,by repeat (first|(with_reducible first|exact HB.out|apply qa|apply ja|apply ta|refine ua ?_ Ta.out)|exact HB.out)⟩
    ·rw [if_neg c9] at H;exact absurd H (by simp)
   ·replace c8:=Bool.eq_false_iff.mpr c8;subst c8;have H1:(if Eb=2 then ((some (([Ja,Ma]:List Int):List Int)).bind fun Bg=>(if ld.length + Bg.length < 17592186044416 then (some (ld ++ Bg)) else (none))) else (if Eb=3 then (qd.j1 gS ld (Eb == 3) Eb La Ja Ma xb jc fc) else (qd.j1 gS ld (Eb == 4) Eb La Ja Ma xb jc fc)))=some r:=by rw [if_neg (show ¬ (false=true) by decide)] at H;exact H
    clear H;have H:=H1;clear H1
    by_cases wu:Eb=2
    ·rw [if_pos wu] at H;have SE:(Eb == 2)=true:=beq_iff_eq.mpr wu;have Q1:(Eb != 2)=false:=bne_eq_false_iff_eq.mpr wu;clear wu;obtain ⟨Bg,kf⟩:∃ y_:List Int,y_=(([Ja,Ma]:List Int)):=⟨_,rfl⟩;replace H:(if ld.length + Bg.length < 17592186044416 then (some (ld ++ Bg)) else (none))=some r:=by first|(rw [kf];with_reducible exact H)|(have Md:=(Option.bind_some _ _).symm.trans H;rw [kf];with_reducible exact Md)|(have Md:=(Option.bind_some _ _).symm.trans H;with_reducible exact Md)|with_reducible exact H|(rw [kf];exact H)|exact H
     have Hi:=ga.mk kf;clear kf
     by_cases nC:ld.length + Bg.length < 17592186044416
     ·rw [if_pos nC] at H;have Aaf:=ga.mk nC;clear nC;obtain ⟨lp,Ln⟩:∃ y_:List Int,y_=(ld ++ Bg):=⟨_,rfl⟩;replace H:(some lp)=some r:=by first|(rw [Ln];with_reducible exact H)|(have Md:=(Option.bind_some _ _).symm.trans H;rw [Ln];with_reducible exact Md)|(have Md:=(Option.bind_some _ _).symm.trans H;with_reducible exact Md)|with_reducible exact H|(rw [Ln];exact H)|exact H
      have YE:=ga.mk Ln;clear Ln;obtain rfl:=Option.some.inj H;have Nj:wc.cell? ⟨ya,0,none⟩=some (.int .i64 Eb):=(ia oa.out 0).trans rfl;have Mj:wc.cell? ⟨ya,1,none⟩=some (.int .i64 La):=(ia oa.out 1).trans rfl;have Lj:wc.cell? ⟨ya,2,none⟩=some (.int .i64 Ja):=(ia oa.out 2).trans rfl;have Kj:wc.cell? ⟨ya,3,none⟩=some (.int .i64 Ma):=(ia oa.out 3).trans rfl;have Jj:wc.cell? ⟨ya,4,none⟩=some (.int .i64 xb):=(ia oa.out 4).trans rfl;have bP:wc.cell? ⟨ya,5,none⟩=some (.int .i64 jc):=(ia oa.out 5).trans rfl;have ZO:wc.cell? ⟨ya,6,none⟩=some (.string fc):=(ia oa.out 6).trans rfl;have Gj:=aa oa.out 0;have Fj:=aa oa.out 1;have Ej:=aa oa.out 2;have Dj:=aa oa.out 3;have Cj:=aa oa.out 4;have NN:=aa oa.out 5;have MN:=aa oa.out 6;go_wp2_with (first|((with_reducible refine qb (N:=22) rfl ?_);refine Kd.ej (Kd.int .i64) _ 3 ?hg (N:=22) ?hd (xs:=([Ja,Ma]:List Int)) (inner:=[.int .i64 Ja,.int .i64 Ma]) (ok:=fun _=>True) (Tg:=fun _=>True) ?hr ?hp (fun _ hk=>hk) trivial (Below.refl _ _) (Nat.le_refl _) (by simp) ?_;(case hd=>rfl);(case hg=>rfl);(case hr=>first|(go_simp;done)|(go_simp;rfl));(case hp=>exact (xd.one (show Kd.M (Kd.int .i64) _ _ _ Ja [.int .i64 Ja] from rfl) (xd.one (show Kd.M (Kd.int .i64) _ _ _ Ma [.int .i64 Ma] from rfl) (xd.none _ _))));intro ZD Un IQ hb Al He;clear Al He;(first|rw [← Hi.out] at IQ|(simp only [Int.reduceToNat] at IQ;rw [← Hi.out] at IQ));have yb:=ga.mk (Kd.ED (by (with_reducible repeat (first|apply Kd.Ab|apply Kd.zb|apply Kd.Pb));exact Mc.out) (Kd.ax IQ) hb);have Ib:=ga.mk (Kd.we (Kd.EU IQ (Kd.cZ (by (with_reducible repeat (first|apply Kd.Ab|apply Kd.zb|apply Kd.Pb));exact Mc.out))) (Ia (by repeat (first|(with_reducible first|exact HB.out|apply qa|apply ja|apply ta|refine ua ?_ Ta.out)|exact HB.out))));have Nb:=ga.mk (Va (g:=ya) (o:=.cells #[.int .i64 Eb,.int .i64 La,.int .i64 Ja,.int .i64 Ma,.int .i64 xb,.int .i64 jc,.string fc] 65 (0,0)) (by (with_reducible repeat (first|refine Ba ?_ _|refine Fa ?_|refine Ca ?_ _));exact oa.out) hb);have Dc:=ga.mk (Qa (by repeat (first|(with_reducible first|exact HB.out|apply qa|apply ja|apply ta|refine ua ?_ Ta.out)|exact HB.out)) hb);clear Mc oa HB;have Mc:=yb;have qi:=Ib;have oa:=Nb;have HB:=Dc;clear yb Ib Nb Dc hb IQ;obtain ⟨Kas,Car,mar⟩:=Kd.Zd qi.out;subst mar)|((with_reducible refine Ld (b:=.append) (xs:=#[.tmp 17,.tmp 22]) rfl ?_);at_builtin;refine Kd.mj (Kd.int .i64) (w0:=w) w.heap.size rfl (.tmp 17) (.tmp 22) 22 3 (.int .i64 0) 8 rfl Try.underlying22 info3 rfl (by decide) (by omega) En ld Bg _ _ _ (fun k_=>some k_ ≠ (.slice Kas Bg.length Car:Value).ownBlock) (fun _=>False) rfl rfl ?aO ?aR (fun _ _ h=>h) (fun _ h=>h.elim) ?aF ?aB ?aS ?aL ?_;(case aR=>repeat (first|exact (Kd.Bc qi.out).2.2|(with_reducible refine Kd.Rb ?_ _)|(with_reducible refine Kd.Qb ?_ _)|(with_reducible refine Kd.Yb ?_)));(case aB=>exact (by repeat (first|(with_reducible first|exact HB.out|apply qa|apply ja|apply ta|refine ua ?_ Ta.out)|exact HB.out)));(case aF=>exact (fun k_ hk=>Kd.fresh' (Kd.cZ (by (with_reducible repeat (first|apply Kd.Ab|apply Kd.zb|apply Kd.Pb));exact qi.out)) k_ hk));(case aO=>exact (by (with_reducible repeat (first|apply Kd.Ab|apply Kd.zb|apply Kd.Pb));exact Kd.Bd Mc.out (fun _ hk=>hk.2)));(case aS=>exact (Ia (by repeat (first|(with_reducible first|exact HB.out|apply qa|apply ja|apply ta|refine ua ?_ Ta.out)|exact HB.out))));(case aL=>have:=Aaf.out;omega);intro j4 Ct ho hb hg hat;rw [← YE.out] at ho;have yb:=ga.mk (td (g:=ya) (o:=.cells #[.int .i64 Eb,.int .i64 La,.int .i64 Ja,.int .i64 Ma,.int .i64 xb,.int .i64 jc,.string fc] 65 (0,0)) (by (with_reducible repeat (first|refine Ba ?_ _|refine Fa ?_|refine Ca ?_ _));exact oa.out) hg (Kd.Bl Mc.out oa.out (by decide)));have Ib:=ga.mk (Kd.yP (ok:=(fun _=>True)) (by (with_reducible repeat (first|apply Kd.Ab|apply Kd.zb|apply Kd.Pb));exact qi.out) hg hat);have Nb:=ga.mk (hb);have Dc:=ga.mk (ho);clear oa qi HB Mc;have oa:=yb;have qi:=Ib;have HB:=Nb;have MD:=Dc;clear yb Ib Nb Dc ho hb hg hat));go_ret;exact ⟨_,by first|rfl|(simp [Oa,Na] <;> rfl)|(simp [*,Oa,Na] <;> rfl),by (with_reducible repeat (first|apply Kd.Ab|apply Kd.zb|apply Kd.Pb));exact Kd.Bd MD.out (fun _ hk=>trivial),by repeat (first|(with_reducible first|exact HB.out|apply qa|apply ja|apply ta|refine ua ?_ Ta.out)|exact HB.out)⟩
     ·rw [if_neg nC] at H;exact absurd H (by simp)
    ·rw [if_neg wu] at H;have SE:(Eb == 2)=false:=beq_eq_false_iff_ne.mpr wu;have Q1:(Eb != 2)=true:=bne_iff_ne.mpr wu;have G9:=ga.mk H;clear H
     go_upto_if 24 with (fail)
     go_cut [24] (fun v24 wc=>∃ (kq:Nat) (fF:Bool),v24 = .bool fF∧ga (qd.j1 kq ld fF Eb La Ja Ma xb jc fc=some r)∧ga (kq ≤ gS)∧ga (Kd.R (Kd.int .i64) 3 wc w.heap.size (fun _=>True) En ld)∧ga (wc.heap[ya]? = some (.cells #[.int .i64 Eb,.int .i64 La,.int .i64 Ja,.int .i64 Ma,.int .i64 xb,.int .i64 jc,.string fc] 65 (0,0)))∧ga (Below w.heap.size w wc))
     case first =>
      have H:=G9.out;clear G9
      by_cases Np:Eb=3
      ·rw [if_pos Np] at H;have Jw:(Eb == 3)=true:=beq_iff_eq.mpr Np;have N1:(Eb != 3)=false:=bne_eq_false_iff_eq.mpr Np;clear Np;(first|rw [Jw]|(simp only [Zb,dc];rw [Jw])|skip);have H':=ga.mk H;clear H;go_wp2
       go_meet
       case rel=>exact ⟨_,((Eb == 3)),(by first|rfl|(simp;done)|(simp [*];done)),H',⟨by have:=D3.out;first|omega|exact Nat.le_refl _⟩,⟨by (with_reducible repeat (first|apply Kd.Ab|apply Kd.zb|apply Kd.Pb));exact Mc.out⟩,⟨by (with_reducible repeat (first|refine Ba ?_ _|refine Fa ?_|refine Ca ?_ _));exact oa.out⟩,⟨by repeat (first|(with_reducible first|exact HB.out|apply qa|apply ja|apply ta|refine ua ?_ Ta.out)|exact HB.out)⟩⟩
      ·rw [if_neg Np] at H;have Jw:(Eb == 3)=false:=beq_eq_false_iff_ne.mpr Np;have N1:(Eb != 3)=true:=bne_iff_ne.mpr Np;(first|rw [Jw]|(simp only [Zb,dc];rw [Jw])|skip);have H':=ga.mk H;clear H;go_wp2
       go_meet
       case rel=>exact ⟨_,((Eb == 4)),(by first|rfl|(simp;done)|(simp [*];done)),H',⟨by have:=D3.out;first|omega|exact Nat.le_refl _⟩,⟨by (with_reducible repeat (first|apply Kd.Ab|apply Kd.zb|apply Kd.Pb));exact Mc.out⟩,⟨by (with_reducible repeat (first|refine Ba ?_ _|refine Fa ?_|refine Ca ?_ _));exact oa.out⟩,⟨by repeat (first|(with_reducible first|exact HB.out|apply qa|apply ja|apply ta|refine ua ?_ Ta.out)|exact HB.out)⟩⟩
     case rest =>
      clear G9
      try clear c1
      try clear c2
      try clear p2
      try clear c7
      try clear Ek
      try clear kr
      try clear c8
      try clear c9
      try clear wu
      try clear SE
      try clear Q1
      try clear nC
      try clear Np
      try clear Jw
      try clear N1
      try clear Yh
      try clear Xh
      try clear Wh
      try clear Vh
      try clear Uh
      try clear uz
      try clear rz
      try clear Nj
      try clear Mj
      try clear Lj
      try clear Kj
      try clear Jj
      try clear bP
      try clear ZO
      try clear Vm
      try clear Um
      try clear Sm
      try clear Rm
      try clear Qm
      try clear Qs
      try clear Ns
      try clear Th
      try clear Sh
      try clear Rh
      try clear Qh
      try clear Ph
      try clear Wy
      try clear Vy
      try clear Gj
      try clear Fj
      try clear Ej
      try clear Dj
      try clear Cj
      try clear NN
      try clear MN
      try clear Pm
      try clear Om
      try clear Nm
      try clear Mm
      try clear Lm
      try clear Wr
      try clear Vr
      try clear p2
      obtain ⟨kq,fF,rfl,HA,eaA,Mc,oa,HB⟩:=hcut;cases kq with
      | zero=>exact absurd HA.out (by simp [qd.j1])
      | succ qay =>
       have H:=HA.out;clear HA;simp only [qd.j1] at H
       by_cases Pt:fF=true
       ·subst Pt;have H1:(if ld.length < 17592186044416 then ((some (ld ++ [Ma]:List Int)).bind fun Dl=>(if Ja ≥ 0 then (if Dl.length < 17592186044416 then ((some (Dl ++ [Ja]:List Int)).bind fun gp=>(if Eb=4 then (if gp.length < 17592186044416 then (some (gp ++ [xb])) else (none)) else (some gp))) else (none)) else (if Eb=4 then (if Dl.length < 17592186044416 then (some (Dl ++ [xb])) else (none)) else (some Dl)))) else (none))=some r:=by rw [if_pos rfl] at H;exact H
        clear H;have H:=H1;clear H1
        by_cases mP:ld.length < 17592186044416
        ·rw [if_pos mP] at H;have EP:=ga.mk mP;clear mP;obtain ⟨Dl,Kn⟩:∃ y_:List Int,y_=(ld ++ [Ma]):=⟨_,rfl⟩;replace H:(if Ja ≥ 0 then (if Dl.length < 17592186044416 then ((some (Dl ++ [Ja]:List Int)).bind fun gp=>(if Eb=4 then (if gp.length < 17592186044416 then (some (gp ++ [xb])) else (none)) else (some gp))) else (none)) else (if Eb=4 then (if Dl.length < 17592186044416 then (some (Dl ++ [xb])) else (none)) else (some Dl)))=some r:=by first|(rw [Kn];with_reducible exact H)|(have Md:=(Option.bind_some _ _).symm.trans H;rw [Kn];with_reducible exact Md)|(have Md:=(Option.bind_some _ _).symm.trans H;with_reducible exact Md)|with_reducible exact H|(rw [Kn];exact H)|exact H
         have OA:=ga.mk Kn;clear Kn
         by_cases eB:Ja ≥ 0
         ·rw [if_pos eB] at H;have lP:decide (0 ≤ Ja)=true:=decide_eq_true eB;clear eB
          by_cases YQ:Dl.length < 17592186044416
          ·rw [if_pos YQ] at H;have E2:=ga.mk YQ;clear YQ;obtain ⟨gp,Jn⟩:∃ y_:List Int,y_=(Dl ++ [Ja]):=⟨_,rfl⟩;replace H:(if Eb=4 then (if gp.length < 17592186044416 then (some (gp ++ [xb])) else (none)) else (some gp))=some r:=by first|(rw [Jn];with_reducible exact H)|(have Md:=(Option.bind_some _ _).symm.trans H;rw [Jn];with_reducible exact Md)|(have Md:=(Option.bind_some _ _).symm.trans H;with_reducible exact Md)|with_reducible exact H|(rw [Jn];exact H)|exact H
           have XE:=ga.mk Jn;clear Jn
           by_cases rI:Eb=4
           ·rw [if_pos rI] at H;have iU:(Eb == 4)=true:=beq_iff_eq.mpr rI;have Rae:(Eb != 4)=false:=bne_eq_false_iff_eq.mpr rI;clear rI
            by_cases qR:gp.length < 17592186044416
            ·rw [if_pos qR] at H;have vaf:=ga.mk qR;clear qR;obtain ⟨S3,cu⟩:∃ y_:List Int,y_=(gp ++ [xb]):=⟨_,rfl⟩;replace H:(some S3)=some r:=by first|(rw [cu];with_reducible exact H)|(have Md:=(Option.bind_some _ _).symm.trans H;rw [cu];with_reducible exact Md)|(have Md:=(Option.bind_some _ _).symm.trans H;with_reducible exact Md)|with_reducible exact H|(rw [cu];exact H)|exact H
             have zP:=ga.mk cu;clear cu;obtain rfl:=Option.some.inj H;have Fv:wc.cell? ⟨ya,0,none⟩=some (.int .i64 Eb):=(ia oa.out 0).trans rfl;have Dv:wc.cell? ⟨ya,1,none⟩=some (.int .i64 La):=(ia oa.out 1).trans rfl;have Cv:wc.cell? ⟨ya,2,none⟩=some (.int .i64 Ja):=(ia oa.out 2).trans rfl;have Bv:wc.cell? ⟨ya,3,none⟩=some (.int .i64 Ma):=(ia oa.out 3).trans rfl;have Av:wc.cell? ⟨ya,4,none⟩=some (.int .i64 xb):=(ia oa.out 4).trans rfl;have CH:wc.cell? ⟨ya,5,none⟩=some (.int .i64 jc):=(ia oa.out 5).trans rfl;have BH:wc.cell? ⟨ya,6,none⟩=some (.string fc):=(ia oa.out 6).trans rfl;have Ru:=aa oa.out 0;have Qu:=aa oa.out 1;have Pu:=aa oa.out 2;have Ou:=aa oa.out 3;have Nu:=aa oa.out 4;have GG:=aa oa.out 5;have FG:=aa oa.out 6;go_wp2_with (first|((with_reducible refine Ld (b:=.append) (xs:=#[.tmp 27,.tmp 30]) rfl ?_);at_builtin;refine Kd.Wg (Kd.int .i64) (w0:=w) w.heap.size rfl (.tmp 27) (.tmp 30) 22 3 (.int .i64 0) 8 rfl Try.underlying22 info3 rfl (by decide) (by omega) En ld Ma [.int .i64 Ma] (fun _=>True) (fun _=>False) rfl rfl ?aP (fun _ hk=>hk.elim) ?aF ?aO ?aB ?aS ?aL ?_;(case aP=>exact rfl);(case aB=>exact (by repeat (first|(with_reducible first|exact HB.out|apply qa|apply ja|apply ta|refine ua ?_ Ta.out)|exact HB.out)));(case aF=>exact (fun _ _=>trivial));(case aO=>exact (by (with_reducible repeat (first|apply Kd.Ab|apply Kd.zb|apply Kd.Pb));exact Mc.out));(case aS=>exact (Ia (by repeat (first|(with_reducible first|exact HB.out|apply qa|apply ja|apply ta|refine ua ?_ Ta.out)|exact HB.out))));(case aL=>have:=EP.out;omega);intro BI Ut ho hb hg hat;rw [← OA.out] at ho;have yb:=ga.mk (td (g:=ya) (o:=.cells #[.int .i64 Eb,.int .i64 La,.int .i64 Ja,.int .i64 Ma,.int .i64 xb,.int .i64 jc,.string fc] 65 (0,0)) (by (with_reducible repeat (first|refine Ba ?_ _|refine Fa ?_|refine Ca ?_ _));exact oa.out) hg (Kd.Bl Mc.out oa.out (by decide)));have Ib:=ga.mk (hb);have Nb:=ga.mk (ho);clear oa HB Mc;have oa:=yb;have HB:=Ib;have Tn:=Nb;clear yb Ib Nb ho hb hg hat;have XB:Ut.cell? ⟨ya,0,none⟩=some (.int .i64 Eb):=(ia oa.out 0).trans rfl;have WB:Ut.cell? ⟨ya,1,none⟩=some (.int .i64 La):=(ia oa.out 1).trans rfl;have VB:Ut.cell? ⟨ya,2,none⟩=some (.int .i64 Ja):=(ia oa.out 2).trans rfl;have UB:Ut.cell? ⟨ya,3,none⟩=some (.int .i64 Ma):=(ia oa.out 3).trans rfl;have TB:Ut.cell? ⟨ya,4,none⟩=some (.int .i64 xb):=(ia oa.out 4).trans rfl;have nY:Ut.cell? ⟨ya,5,none⟩=some (.int .i64 jc):=(ia oa.out 5).trans rfl;have mY:Ut.cell? ⟨ya,6,none⟩=some (.string fc):=(ia oa.out 6).trans rfl;have xB:=aa oa.out 0;have wB:=aa oa.out 1;have vB:=aa oa.out 2;have uB:=aa oa.out 3;have tB:=aa oa.out 4;have ZW:=aa oa.out 5;have YW:=aa oa.out 6)|((with_reducible refine Ld (b:=.append) (xs:=#[.tmp 35,.tmp 38]) rfl ?_);at_builtin;refine Kd.Wg (Kd.int .i64) (w0:=w) w.heap.size rfl (.tmp 35) (.tmp 38) 22 3 (.int .i64 0) 8 rfl Try.underlying22 info3 rfl (by decide) (by omega) BI Dl Ja [.int .i64 Ja] (fun _=>True) (fun _=>False) rfl rfl ?aP (fun _ hk=>hk.elim) ?aF ?aO ?aB ?aS ?aL ?_;(case aP=>exact rfl);(case aB=>exact (by repeat (first|(with_reducible first|exact HB.out|apply qa|apply ja|apply ta|refine ua ?_ Ta.out)|exact HB.out)));(case aF=>exact (fun _ _=>trivial));(case aO=>exact (by (with_reducible repeat (first|apply Kd.Ab|apply Kd.zb|apply Kd.Pb));exact Tn.out));(case aS=>exact (Ia (by repeat (first|(with_reducible first|exact HB.out|apply qa|apply ja|apply ta|refine ua ?_ Ta.out)|exact HB.out))));(case aL=>have:=E2.out;omega);intro FV Nz ho hb hg hat;rw [← XE.out] at ho;have yb:=ga.mk (td (g:=ya) (o:=.cells #[.int .i64 Eb,.int .i64 La,.int .i64 Ja,.int .i64 Ma,.int .i64 xb,.int .i64 jc,.string fc] 65 (0,0)) (by (with_reducible repeat (first|refine Ba ?_ _|refine Fa ?_|refine Ca ?_ _));exact oa.out) hg (Kd.Bl Tn.out oa.out (by decide)));have Ib:=ga.mk (hb);have Nb:=ga.mk (ho);clear oa HB Tn;have oa:=yb;have HB:=Ib;have Hz:=Nb;clear yb Ib Nb ho hb hg hat;have jz:Nz.cell? ⟨ya,0,none⟩=some (.int .i64 Eb):=(ia oa.out 0).trans rfl;have iz:Nz.cell? ⟨ya,1,none⟩=some (.int .i64 La):=(ia oa.out 1).trans rfl;have gz:Nz.cell? ⟨ya,2,none⟩=some (.int .i64 Ja):=(ia oa.out 2).trans rfl;have fz:Nz.cell? ⟨ya,3,none⟩=some (.int .i64 Ma):=(ia oa.out 3).trans rfl;have ez:Nz.cell? ⟨ya,4,none⟩=some (.int .i64 xb):=(ia oa.out 4).trans rfl;have eY:Nz.cell? ⟨ya,5,none⟩=some (.int .i64 jc):=(ia oa.out 5).trans rfl;have dY:Nz.cell? ⟨ya,6,none⟩=some (.string fc):=(ia oa.out 6).trans rfl;have Py:=aa oa.out 0;have Oy:=aa oa.out 1;have Ny:=aa oa.out 2;have My:=aa oa.out 3;have Ly:=aa oa.out 4;have SW:=aa oa.out 5;have RW:=aa oa.out 6)|((with_reducible refine Ld (b:=.append) (xs:=#[.tmp 43,.tmp 46]) rfl ?_);at_builtin;refine Kd.Wg (Kd.int .i64) (w0:=w) w.heap.size rfl (.tmp 43) (.tmp 46) 22 3 (.int .i64 0) 8 rfl Try.underlying22 info3 rfl (by decide) (by omega) FV gp xb [.int .i64 xb] (fun _=>True) (fun _=>False) rfl rfl ?aP (fun _ hk=>hk.elim) ?aF ?aO ?aB ?aS ?aL ?_;(case aP=>exact rfl);(case aB=>exact (by repeat (first|(with_reducible first|exact HB.out|apply qa|apply ja|apply ta|refine ua ?_ Ta.out)|exact HB.out)));(case aF=>exact (fun _ _=>trivial));(case aO=>exact (by (with_reducible repeat (first|apply Kd.Ab|apply Kd.zb|apply Kd.Pb));exact Hz.out));(case aS=>exact (Ia (by repeat (first|(with_reducible first|exact HB.out|apply qa|apply ja|apply ta|refine ua ?_ Ta.out)|exact HB.out))));(case aL=>have:=vaf.out;omega);intro Mao lR ho hb hg hat;rw [← zP.out] at ho;have yb:=ga.mk (td (g:=ya) (o:=.cells #[.int .i64 Eb,.int .i64 La,.int .i64 Ja,.int .i64 Ma,.int .i64 xb,.int .i64 jc,.string fc] 65 (0,0)) (by (with_reducible repeat (first|refine Ba ?_ _|refine Fa ?_|refine Ca ?_ _));exact oa.out) hg (Kd.Bl Hz.out oa.out (by decide)));have Ib:=ga.mk (hb);have Nb:=ga.mk (ho);clear oa HB Hz;have oa:=yb;have HB:=Ib;have SU:=Nb;clear yb Ib Nb ho hb hg hat));go_ret;exact ⟨_,by first|rfl|(simp [Oa,Na] <;> rfl)|(simp [*,Oa,Na] <;> rfl),by (with_reducible repeat (first|apply Kd.Ab|apply Kd.zb|apply Kd.Pb));exact SU.out,by repeat (first|(with_reducible first|exact HB.out|apply qa|apply ja|apply ta|refine ua ?_ Ta.out)|exact HB.out)⟩
            ·rw [if_neg qR] at H;exact absurd H (by simp)
           ·rw [if_neg rI] at H;have iU:(Eb == 4)=false:=beq_eq_false_iff_ne.mpr rI;have Rae:(Eb != 4)=true:=bne_iff_ne.mpr rI;obtain rfl:=Option.some.inj H;have MO:wc.cell? ⟨ya,0,none⟩=some (.int .i64 Eb):=(ia oa.out 0).trans rfl;have LO:wc.cell? ⟨ya,1,none⟩=some (.int .i64 La):=(ia oa.out 1).trans rfl;have KO:wc.cell? ⟨ya,2,none⟩=some (.int .i64 Ja):=(ia oa.out 2).trans rfl;have JO:wc.cell? ⟨ya,3,none⟩=some (.int .i64 Ma):=(ia oa.out 3).trans rfl;have FO:wc.cell? ⟨ya,4,none⟩=some (.int .i64 xb):=(ia oa.out 4).trans rfl;have EO:wc.cell? ⟨ya,5,none⟩=some (.int .i64 jc):=(ia oa.out 5).trans rfl;have CO:wc.cell? ⟨ya,6,none⟩=some (.string fc):=(ia oa.out 6).trans rfl;have BN:=aa oa.out 0;have zN:=aa oa.out 1;have yN:=aa oa.out 2;have xN:=aa oa.out 3;have wN:=aa oa.out 4;have vN:=aa oa.out 5;have uN:=aa oa.out 6;go_wp2_with (first|((with_reducible refine Ld (b:=.append) (xs:=#[.tmp 27,.tmp 30]) rfl ?_);at_builtin;refine Kd.Wg (Kd.int .i64) (w0:=w) w.heap.size rfl (.tmp 27) (.tmp 30) 22 3 (.int .i64 0) 8 rfl Try.underlying22 info3 rfl (by decide) (by omega) En ld Ma [.int .i64 Ma] (fun _=>True) (fun _=>False) rfl rfl ?aP (fun _ hk=>hk.elim) ?aF ?aO ?aB ?aS ?aL ?_;(case aP=>exact rfl);(case aB=>exact (by repeat (first|(with_reducible first|exact HB.out|apply qa|apply ja|apply ta|refine ua ?_ Ta.out)|exact HB.out)));(case aF=>exact (fun _ _=>trivial));(case aO=>exact (by (with_reducible repeat (first|apply Kd.Ab|apply Kd.zb|apply Kd.Pb));exact Mc.out));(case aS=>exact (Ia (by repeat (first|(with_reducible first|exact HB.out|apply qa|apply ja|apply ta|refine ua ?_ Ta.out)|exact HB.out))));(case aL=>have:=EP.out;omega);intro BI kF ho hb hg hat;rw [← OA.out] at ho;have yb:=ga.mk (td (g:=ya) (o:=.cells #[.int .i64 Eb,.int .i64 La,.int .i64 Ja,.int .i64 Ma,.int .i64 xb,.int .i64 jc,.string fc] 65 (0,0)) (by (with_reducible repeat (first|refine Ba ?_ _|refine Fa ?_|refine Ca ?_ _));exact oa.out) hg (Kd.Bl Mc.out oa.out (by decide)));have Ib:=ga.mk (hb);have Nb:=ga.mk (ho);clear oa HB Mc;have oa:=yb;have HB:=Ib;have Tn:=Nb;clear yb Ib Nb ho hb hg hat;have uO:kF.cell? ⟨ya,0,none⟩=some (.int .i64 Eb):=(ia oa.out 0).trans rfl;have tO:kF.cell? ⟨ya,1,none⟩=some (.int .i64 La):=(ia oa.out 1).trans rfl;have sO:kF.cell? ⟨ya,2,none⟩=some (.int .i64 Ja):=(ia oa.out 2).trans rfl;have rO:kF.cell? ⟨ya,3,none⟩=some (.int .i64 Ma):=(ia oa.out 3).trans rfl;have qO:kF.cell? ⟨ya,4,none⟩=some (.int .i64 xb):=(ia oa.out 4).trans rfl;have Dan:kF.cell? ⟨ya,5,none⟩=some (.int .i64 jc):=(ia oa.out 5).trans rfl;have Ban:kF.cell? ⟨ya,6,none⟩=some (.string fc):=(ia oa.out 6).trans rfl;have mN:=aa oa.out 0;have lN:=aa oa.out 1;have kN:=aa oa.out 2;have jN:=aa oa.out 3;have iN:=aa oa.out 4;have oak:=aa oa.out 5;have nak:=aa oa.out 6)|((with_reducible refine Ld (b:=.append) (xs:=#[.tmp 35,.tmp 38]) rfl ?_);at_builtin;refine Kd.Wg (Kd.int .i64) (w0:=w) w.heap.size rfl (.tmp 35) (.tmp 38) 22 3 (.int .i64 0) 8 rfl Try.underlying22 info3 rfl (by decide) (by omega) BI Dl Ja [.int .i64 Ja] (fun _=>True) (fun _=>False) rfl rfl ?aP (fun _ hk=>hk.elim) ?aF ?aO ?aB ?aS ?aL ?_;(case aP=>exact rfl);(case aB=>exact (by repeat (first|(with_reducible first|exact HB.out|apply qa|apply ja|apply ta|refine ua ?_ Ta.out)|exact HB.out)));(case aF=>exact (fun _ _=>trivial));(case aO=>exact (by (with_reducible repeat (first|apply Kd.Ab|apply Kd.zb|apply Kd.Pb));exact Tn.out));(case aS=>exact (Ia (by repeat (first|(with_reducible first|exact HB.out|apply qa|apply ja|apply ta|refine ua ?_ Ta.out)|exact HB.out))));(case aL=>have:=E2.out;omega);intro FV yC ho hb hg hat;rw [← XE.out] at ho;have yb:=ga.mk (td (g:=ya) (o:=.cells #[.int .i64 Eb,.int .i64 La,.int .i64 Ja,.int .i64 Ma,.int .i64 xb,.int .i64 jc,.string fc] 65 (0,0)) (by (with_reducible repeat (first|refine Ba ?_ _|refine Fa ?_|refine Ca ?_ _));exact oa.out) hg (Kd.Bl Tn.out oa.out (by decide)));have Ib:=ga.mk (hb);have Nb:=ga.mk (ho);clear oa HB Tn;have oa:=yb;have HB:=Ib;have Hz:=Nb;clear yb Ib Nb ho hb hg hat;have pO:yC.cell? ⟨ya,0,none⟩=some (.int .i64 Eb):=(ia oa.out 0).trans rfl;have oO:yC.cell? ⟨ya,1,none⟩=some (.int .i64 La):=(ia oa.out 1).trans rfl;have nO:yC.cell? ⟨ya,2,none⟩=some (.int .i64 Ja):=(ia oa.out 2).trans rfl;have mO:yC.cell? ⟨ya,3,none⟩=some (.int .i64 Ma):=(ia oa.out 3).trans rfl;have lO:yC.cell? ⟨ya,4,none⟩=some (.int .i64 xb):=(ia oa.out 4).trans rfl;have yan:yC.cell? ⟨ya,5,none⟩=some (.int .i64 jc):=(ia oa.out 5).trans rfl;have xan:yC.cell? ⟨ya,6,none⟩=some (.string fc):=(ia oa.out 6).trans rfl;have gN:=aa oa.out 0;have fN:=aa oa.out 1;have eN:=aa oa.out 2;have dN:=aa oa.out 3;have cN:=aa oa.out 4;have kak:=aa oa.out 5;have jak:=aa oa.out 6));go_ret;exact ⟨_,by first|rfl|(simp [Oa,Na] <;> rfl)|(simp [*,Oa,Na] <;> rfl),by (with_reducible repeat (first|apply Kd.Ab|apply Kd.zb|apply Kd.Pb));exact Hz.out,by repeat (first|(with_reducible first|exact HB.out|apply qa|apply ja|apply ta|refine ua ?_ Ta.out)|exact HB.out)⟩
          ·rw [if_neg YQ] at H;exact absurd H (by simp)
         ·rw [if_neg eB] at H;have lP:decide (0 ≤ Ja)=false:=decide_eq_false eB;clear eB
          by_cases oR:Eb=4
          ·rw [if_pos oR] at H;have C1:(Eb == 4)=true:=beq_iff_eq.mpr oR;have Iae:(Eb != 4)=false:=bne_eq_false_iff_eq.mpr oR;clear oR
           by_cases pV:Dl.length < 17592186044416
           ·rw [if_pos pV] at H;have saf:=ga.mk pV;clear pV;obtain ⟨Aao,TI⟩:∃ y_:List Int,y_=(Dl ++ [xb]):=⟨_,rfl⟩;replace H:(some Aao)=some r:=by first|(rw [TI];with_reducible exact H)|(have Md:=(Option.bind_some _ _).symm.trans H;rw [TI];with_reducible exact Md)|(have Md:=(Option.bind_some _ _).symm.trans H;with_reducible exact Md)|with_reducible exact H|(rw [TI];exact H)|exact H
            have maf:=ga.mk TI;clear TI;obtain rfl:=Option.some.inj H;have dz:wc.cell? ⟨ya,0,none⟩=some (.int .i64 Eb):=(ia oa.out 0).trans rfl;have bz:wc.cell? ⟨ya,1,none⟩=some (.int .i64 La):=(ia oa.out 1).trans rfl;have az:wc.cell? ⟨ya,2,none⟩=some (.int .i64 Ja):=(ia oa.out 2).trans rfl;have Zy:wc.cell? ⟨ya,3,none⟩=some (.int .i64 Ma):=(ia oa.out 3).trans rfl;have Yy:wc.cell? ⟨ya,4,none⟩=some (.int .i64 xb):=(ia oa.out 4).trans rfl;have iO:wc.cell? ⟨ya,5,none⟩=some (.int .i64 jc):=(ia oa.out 5).trans rfl;have gO:wc.cell? ⟨ya,6,none⟩=some (.string fc):=(ia oa.out 6).trans rfl;have Ky:=aa oa.out 0;have Jy:=aa oa.out 1;have Iy:=aa oa.out 2;have Hy:=aa oa.out 3;have Gy:=aa oa.out 4;have ZM:=aa oa.out 5;have YM:=aa oa.out 6;go_wp2_with (first|((with_reducible refine Ld (b:=.append) (xs:=#[.tmp 27,.tmp 30]) rfl ?_);at_builtin;refine Kd.Wg (Kd.int .i64) (w0:=w) w.heap.size rfl (.tmp 27) (.tmp 30) 22 3 (.int .i64 0) 8 rfl Try.underlying22 info3 rfl (by decide) (by omega) En ld Ma [.int .i64 Ma] (fun _=>True) (fun _=>False) rfl rfl ?aP (fun _ hk=>hk.elim) ?aF ?aO ?aB ?aS ?aL ?_;(case aP=>exact rfl);(case aB=>exact (by repeat (first|(with_reducible first|exact HB.out|apply qa|apply ja|apply ta|refine ua ?_ Ta.out)|exact HB.out)));(case aF=>exact (fun _ _=>trivial));(case aO=>exact (by (with_reducible repeat (first|apply Kd.Ab|apply Kd.zb|apply Kd.Pb));exact Mc.out));(case aS=>exact (Ia (by repeat (first|(with_reducible first|exact HB.out|apply qa|apply ja|apply ta|refine ua ?_ Ta.out)|exact HB.out))));(case aL=>have:=EP.out;omega);intro BI xC ho hb hg hat;rw [← OA.out] at ho;have yb:=ga.mk (td (g:=ya) (o:=.cells #[.int .i64 Eb,.int .i64 La,.int .i64 Ja,.int .i64 Ma,.int .i64 xb,.int .i64 jc,.string fc] 65 (0,0)) (by (with_reducible repeat (first|refine Ba ?_ _|refine Fa ?_|refine Ca ?_ _));exact oa.out) hg (Kd.Bl Mc.out oa.out (by decide)));have Ib:=ga.mk (hb);have Nb:=ga.mk (ho);clear oa HB Mc;have oa:=yb;have HB:=Ib;have Tn:=Nb;clear yb Ib Nb ho hb hg hat;have lH:xC.cell? ⟨ya,0,none⟩=some (.int .i64 Eb):=(ia oa.out 0).trans rfl;have kH:xC.cell? ⟨ya,1,none⟩=some (.int .i64 La):=(ia oa.out 1).trans rfl;have jH:xC.cell? ⟨ya,2,none⟩=some (.int .i64 Ja):=(ia oa.out 2).trans rfl;have iH:xC.cell? ⟨ya,3,none⟩=some (.int .i64 Ma):=(ia oa.out 3).trans rfl;have gH:xC.cell? ⟨ya,4,none⟩=some (.int .i64 xb):=(ia oa.out 4).trans rfl;have ZN:xC.cell? ⟨ya,5,none⟩=some (.int .i64 jc):=(ia oa.out 5).trans rfl;have YN:xC.cell? ⟨ya,6,none⟩=some (.string fc):=(ia oa.out 6).trans rfl;have oG:=aa oa.out 0;have nG:=aa oa.out 1;have mG:=aa oa.out 2;have lG:=aa oa.out 3;have kG:=aa oa.out 4;have RM:=aa oa.out 5;have QM:=aa oa.out 6)|((with_reducible refine Ld (b:=.append) (xs:=#[.tmp 43,.tmp 46]) rfl ?_);at_builtin;refine Kd.Wg (Kd.int .i64) (w0:=w) w.heap.size rfl (.tmp 43) (.tmp 46) 22 3 (.int .i64 0) 8 rfl Try.underlying22 info3 rfl (by decide) (by omega) BI Dl xb [.int .i64 xb] (fun _=>True) (fun _=>False) rfl rfl ?aP (fun _ hk=>hk.elim) ?aF ?aO ?aB ?aS ?aL ?_;(case aP=>exact rfl);(case aB=>exact (by repeat (first|(with_reducible first|exact HB.out|apply qa|apply ja|apply ta|refine ua ?_ Ta.out)|exact HB.out)));(case aF=>exact (fun _ _=>trivial));(case aO=>exact (by (with_reducible repeat (first|apply Kd.Ab|apply Kd.zb|apply Kd.Pb));exact Tn.out));(case aS=>exact (Ia (by repeat (first|(with_reducible first|exact HB.out|apply qa|apply ja|apply ta|refine ua ?_ Ta.out)|exact HB.out))));(case aL=>have:=saf.out;omega);intro fay w43 ho hb hg hat;rw [← maf.out] at ho;have yb:=ga.mk (td (g:=ya) (o:=.cells #[.int .i64 Eb,.int .i64 La,.int .i64 Ja,.int .i64 Ma,.int .i64 xb,.int .i64 jc,.string fc] 65 (0,0)) (by (with_reducible repeat (first|refine Ba ?_ _|refine Fa ?_|refine Ca ?_ _));exact oa.out) hg (Kd.Bl Tn.out oa.out (by decide)));have Ib:=ga.mk (hb);have Nb:=ga.mk (ho);clear oa HB Tn;have oa:=yb;have HB:=Ib;have dag:=Nb;clear yb Ib Nb ho hb hg hat));go_ret;exact ⟨_,by first|rfl|(simp [Oa,Na] <;> rfl)|(simp [*,Oa,Na] <;> rfl),by (with_reducible repeat (first|apply Kd.Ab|apply Kd.zb|apply Kd.Pb));exact dag.out,by repeat (first|(with_reducible first|exact HB.out|apply qa|apply ja|apply ta|refine ua ?_ Ta.out)|exact HB.out)⟩
           ·rw [if_neg pV] at H;exact absurd H (by simp)
          ·rw [if_neg oR] at H;have C1:(Eb == 4)=false:=beq_eq_false_iff_ne.mpr oR;have Iae:(Eb != 4)=true:=bne_iff_ne.mpr oR;obtain rfl:=Option.some.inj H;have fH:wc.cell? ⟨ya,0,none⟩=some (.int .i64 Eb):=(ia oa.out 0).trans rfl;have eH:wc.cell? ⟨ya,1,none⟩=some (.int .i64 La):=(ia oa.out 1).trans rfl;have dH:wc.cell? ⟨ya,2,none⟩=some (.int .i64 Ja):=(ia oa.out 2).trans rfl;have cH:wc.cell? ⟨ya,3,none⟩=some (.int .i64 Ma):=(ia oa.out 3).trans rfl;have bH:wc.cell? ⟨ya,4,none⟩=some (.int .i64 xb):=(ia oa.out 4).trans rfl;have SN:wc.cell? ⟨ya,5,none⟩=some (.int .i64 jc):=(ia oa.out 5).trans rfl;have RN:wc.cell? ⟨ya,6,none⟩=some (.string fc):=(ia oa.out 6).trans rfl;have jG:=aa oa.out 0;have iG:=aa oa.out 1;have gG:=aa oa.out 2;have fG:=aa oa.out 3;have eG:=aa oa.out 4;have KM:=aa oa.out 5;have JM:=aa oa.out 6;go_wp2_with (first|((with_reducible refine Ld (b:=.append) (xs:=#[.tmp 27,.tmp 30]) rfl ?_);at_builtin;refine Kd.Wg (Kd.int .i64) (w0:=w) w.heap.size rfl (.tmp 27) (.tmp 30) 22 3 (.int .i64 0) 8 rfl Try.underlying22 info3 rfl (by decide) (by omega) En ld Ma [.int .i64 Ma] (fun _=>True) (fun _=>False) rfl rfl ?aP (fun _ hk=>hk.elim) ?aF ?aO ?aB ?aS ?aL ?_;(case aP=>exact rfl);(case aB=>exact (by repeat (first|(with_reducible first|exact HB.out|apply qa|apply ja|apply ta|refine ua ?_ Ta.out)|exact HB.out)));(case aF=>exact (fun _ _=>trivial));(case aO=>exact (by (with_reducible repeat (first|apply Kd.Ab|apply Kd.zb|apply Kd.Pb));exact Mc.out));(case aS=>exact (Ia (by repeat (first|(with_reducible first|exact HB.out|apply qa|apply ja|apply ta|refine ua ?_ Ta.out)|exact HB.out))));(case aL=>have:=EP.out;omega);intro BI BV ho hb hg hat;rw [← OA.out] at ho;have yb:=ga.mk (td (g:=ya) (o:=.cells #[.int .i64 Eb,.int .i64 La,.int .i64 Ja,.int .i64 Ma,.int .i64 xb,.int .i64 jc,.string fc] 65 (0,0)) (by (with_reducible repeat (first|refine Ba ?_ _|refine Fa ?_|refine Ca ?_ _));exact oa.out) hg (Kd.Bl Mc.out oa.out (by decide)));have Ib:=ga.mk (hb);have Nb:=ga.mk (ho);clear oa HB Mc;have oa:=yb;have HB:=Ib;have Tn:=Nb;clear yb Ib Nb ho hb hg hat;have XX:BV.cell? ⟨ya,0,none⟩=some (.int .i64 Eb):=(ia oa.out 0).trans rfl;have WX:BV.cell? ⟨ya,1,none⟩=some (.int .i64 La):=(ia oa.out 1).trans rfl;have VX:BV.cell? ⟨ya,2,none⟩=some (.int .i64 Ja):=(ia oa.out 2).trans rfl;have UX:BV.cell? ⟨ya,3,none⟩=some (.int .i64 Ma):=(ia oa.out 3).trans rfl;have SX:BV.cell? ⟨ya,4,none⟩=some (.int .i64 xb):=(ia oa.out 4).trans rfl;have kan:BV.cell? ⟨ya,5,none⟩=some (.int .i64 jc):=(ia oa.out 5).trans rfl;have jan:BV.cell? ⟨ya,6,none⟩=some (.string fc):=(ia oa.out 6).trans rfl;have MW:=aa oa.out 0;have LW:=aa oa.out 1;have KW:=aa oa.out 2;have JW:=aa oa.out 3;have IW:=aa oa.out 4;have Zaj:=aa oa.out 5;have Yaj:=aa oa.out 6));go_ret;exact ⟨_,by first|rfl|(simp [Oa,Na] <;> rfl)|(simp [*,Oa,Na] <;> rfl),by (with_reducible repeat (first|apply Kd.Ab|apply Kd.zb|apply Kd.Pb));exact Tn.out,by repeat (first|(with_reducible first|exact HB.out|apply qa|apply ja|apply ta|refine ua ?_ Ta.out)|exact HB.out)⟩
        ·rw [if_neg mP] at H;exact absurd H (by simp)
       ·replace Pt:=Bool.eq_false_iff.mpr Pt;subst Pt;have H1:(some ld)=some r:=by rw [if_neg (show ¬ (false=true) by decide)] at H;exact H
        clear H;have H:=H1;clear H1;obtain rfl:=Option.some.inj H;go_wp2;go_ret;exact ⟨_,by first|rfl|(simp [Oa,Na] <;> rfl)|(simp [*,Oa,Na] <;> rfl),by (with_reducible repeat (first|apply Kd.Ab|apply Kd.zb|apply Kd.Pb));exact Mc.out,by repeat (first|(with_reducible first|exact HB.out|apply qa|apply ja|apply ta|refine ua ?_ Ta.out)|exact HB.out)⟩
mutual
def Rd.j0:Nat→List Bool→Int→Int→Int→Int→Int→Int→ByteArray→Option (List Bool)
 | 0,_,_,_,_,_,_,_,_=>none
 | k + 1,x0,Cc,Tc,Ic,Gc,Wb,Gl,Fl=>(qd.f k Cc Tc Ic Gc Wb Gl Fl).bind fun t104=>(Rd.l0 k x0 t104 (t104.length:Int) 0)
def Rd.l0:Nat→List Bool→List Int→Int→Int→Option (List Bool)
 | 0,_,_,_,_=>none
 | k + 1,x0,H_,x16,T3=>if T3 < x16 then (if 0 ≤ T3 then (if T3 < (H_.length:Int) then (if 0 ≤ (rd H_ T3) then (if (rd H_ T3) < (x0.length:Int) then (Rd.l0 k (x0.set ((rd H_ T3):Int).toNat true) H_ x16 (wrap64 (T3 + 1))) else (none)) else (none)) else (none)) else (none)) else (some x0)
end
def Rd.f (k:Nat) (l0:List Bool) (oc:Int) (Tb:Int) (Kb:Int) (Lb:Int) (Xb:Int) (Lc:Int) (Vc:ByteArray):Option (List Bool):=(ji.f oc Tb Kb Lb Xb Lc Vc).bind fun t102=>(if t102 ≥ 0 then (if 0 ≤ t102 then (if t102 < (l0.length:Int) then (Rd.j0 k (l0.set (t102:Int).toNat false) oc Tb Kb Lb Xb Lc Vc) else (none)) else (none)) else (Rd.j0 k l0 oc Tb Kb Lb Xb Lc Vc))
theorem Rd.calls (k:Nat) (Ki:Nat→Prop) (Lf:Value) (l0:List Bool) (oc:Int) (Tb:Int) (Kb:Int) (Lb:Int) (Xb:Int) (Lc:Int) (Vc:ByteArray) (r:List Bool) (w0 w:World) (hB:Below w0.heap.size w0 w) (Vj:Kd.R Kd.bool 4 w w0.heap.size Ki Lf l0) (h:Rd.f k l0 oc Tb Kb Lb Xb Lc Vc=some r) :
  Calls Try.prog 79 #[Lf,.agg #[.int .i64 oc,.int .i64 Tb,.int .i64 Kb,.int .i64 Lb,.int .i64 Xb,.int .i64 Lc,.string Vc]] w fun e w'=>e = .returned (.tuple #[])∧Kd.R Kd.bool 4 w' w0.heap.size (fun k_=>(Ki k_ ∨ w.heap.size ≤ k_)) Lf r∧Below w0.heap.size w0 w'∧Kept w w' (fun k_=>Ki k_):=by
 have aA:=Try.underlying65;have bF:=ga.mk (show Kd.R Kd.bool 4 w w0.heap.size (fun k_=>(Ki k_ ∨ w.heap.size ≤ k_)) Lf l0 from Kd.Bd Vj (fun k_ hk=>(.inl hk)));have HK:=ga.mk (Kept.refl w (fun k_=>Ki k_));have HW0:=ga.mk hB.size;have HB:=ga.mk hB;clear hB;have H:((ji.f oc Tb Kb Lb Xb Lc Vc).bind fun t102=>(if t102 ≥ 0 then (if 0 ≤ t102 then (if t102 < (l0.length:Int) then (Rd.j0 k (l0.set (t102:Int).toNat false) oc Tb Kb Lb Xb Lc Vc) else (none)) else (none)) else (Rd.j0 k l0 oc Tb Kb Lb Xb Lc Vc)))=some r:=h;clear h;replace H:=Option.bind_eq_some_iff.mp H;obtain ⟨t102,jx,H⟩:=H;replace H:(if t102 ≥ 0 then (if 0 ≤ t102 then (if t102 < (l0.length:Int) then (Rd.j0 k (l0.set (t102:Int).toNat false) oc Tb Kb Lb Xb Lc Vc) else (none)) else (none)) else (Rd.j0 k l0 oc Tb Kb Lb Xb Lc Vc))=some r:=H;have A3:=ga.mk jx;clear jx;have vV:=ga.mk H;clear H;go_enter Try.func79,Try.ntmps79
 go_upto_if 10 with (first|((with_reducible refine qb (N:=3) rfl ?_);refine Gb ?hg (N:=3) ?hd (cs:=#[.int .i64 oc,.int .i64 Tb,.int .i64 Kb,.int .i64 Lb,.int .i64 Xb,.int .i64 Lc,.string Vc]) (t:=65) ?hr ?_;(case hd=>rfl);(case hg=>rfl);(case hr=>first|(go_simp;done)|(go_simp;rfl));intro ya hg w5 Ob hb;have yb:=ga.mk (Kd.pg (by (with_reducible repeat (first|apply Kd.Ab|apply Kd.zb|apply Kd.Pb));exact bF.out) hb);have Ib:=ga.mk (Kept.below (S:=(fun k_=>Ki k_)) (by repeat (first|(with_reducible first|exact HK.out|apply Kept.alloc|apply Kept.drewN|apply Kept.drew)|exact HK.out)) hb);have Nb:=ga.mk (Qa (by repeat (first|(with_reducible first|exact HB.out|apply qa|apply ja|apply ta)|exact HB.out)) hb);have Dc:=ga.mk (Ob);have Vf:=ga.mk ((by rw [hg];exact (by first|exact HK.out.1|exact (show Kept w _ (fun k_=>Ki k_) from by repeat (first|(with_reducible first|exact HK.out|apply Kept.alloc|apply Kept.drewN|apply Kept.drew)|exact HK.out)).1):w.heap.size ≤ ya));have Kg:=ga.mk ((by rw [hg];exact (Ia (by repeat (first|(with_reducible first|exact HB.out|apply qa|apply ja|apply ta)|exact HB.out))):w0.heap.size ≤ ya));clear bF HK HB;have bF:=yb;have HK:=Ib;have HB:=Nb;have oa:=Dc;have Nd:=Vf;have Ta:=Kg;clear yb Ib Nb Dc Vf Kg hb Ob hg;have Vm:w5.cell? ⟨ya,0,none⟩=some (.int .i64 oc):=(ia oa.out 0).trans rfl;have Um:w5.cell? ⟨ya,1,none⟩=some (.int .i64 Tb):=(ia oa.out 1).trans rfl;have Sm:w5.cell? ⟨ya,2,none⟩=some (.int .i64 Kb):=(ia oa.out 2).trans rfl;have Rm:w5.cell? ⟨ya,3,none⟩=some (.int .i64 Lb):=(ia oa.out 3).trans rfl;have Qm:w5.cell? ⟨ya,4,none⟩=some (.int .i64 Xb):=(ia oa.out 4).trans rfl;have Qs:w5.cell? ⟨ya,5,none⟩=some (.int .i64 Lc):=(ia oa.out 5).trans rfl;have Ns:w5.cell? ⟨ya,6,none⟩=some (.string Vc):=(ia oa.out 6).trans rfl;have Pm:=aa oa.out 0;have Om:=aa oa.out 1;have Nm:=aa oa.out 2;have Mm:=aa oa.out 3;have Lm:=aa oa.out 4;have Wr:=aa oa.out 5;have Vr:=aa oa.out 6)|((with_reducible refine mb (f:=87) rfl ?_);refine Fc (some 8) rfl rfl Try.func87 (by kernel_rfl) rfl #[.agg #[.int .i64 oc,.int .i64 Tb,.int .i64 Kb,.int .i64 Lb,.int .i64 Xb,.int .i64 Lc,.string Vc]] rfl (by (try simp only [List.map_toArray,List.map_cons,List.map_nil]);first|done|rfl|(simp only [List.length_drop,List.length_take];rfl)) ?_;(with_reducible refine (ji.calls oc Tb Kb Lb Xb Lc Vc t102 _ A3.out).mono ?_);rintro e w7 ⟨rfl,hb⟩;refine ⟨_,rfl,?_⟩;have yb:=ga.mk (Kd.pg (by (with_reducible repeat (first|apply Kd.Ab|apply Kd.zb|apply Kd.Pb));exact bF.out) hb);have Ib:=ga.mk (Va (g:=ya) (o:=.cells #[.int .i64 oc,.int .i64 Tb,.int .i64 Kb,.int .i64 Lb,.int .i64 Xb,.int .i64 Lc,.string Vc] 65 (0,0)) (by (with_reducible repeat (first|refine Ba ?_ _|refine Fa ?_|refine Ca ?_ _));exact oa.out) hb);have Nb:=ga.mk (Kept.below (S:=(fun k_=>Ki k_)) (by repeat (first|(with_reducible first|exact HK.out|apply Kept.alloc|apply Kept.drewN|apply Kept.drew|refine Kept.setCell ?_ (.inr Nd.out) _)|exact HK.out)) hb);have Dc:=ga.mk (Qa (by repeat (first|(with_reducible first|exact HB.out|apply qa|apply ja|apply ta|refine ua ?_ Ta.out)|exact HB.out)) hb);clear bF oa HK HB;have bF:=yb;have oa:=Ib;have HK:=Nb;have HB:=Dc;clear yb Ib Nb Dc;(try clear hb);(try clear bk);(try clear hk);(try clear hi)))
 (try simp only [Act.put,List.setIfInBounds_toArray,List.set_cons_zero,List.set_cons_succ])
 go_cut [] (fun wc=>∃ (kq:Nat) (xR:List Bool),ga (Rd.j0 kq xR oc Tb Kb Lb Xb Lc Vc=some r)∧ga (kq ≤ k)∧ga (Kd.R Kd.bool 4 wc w0.heap.size (fun k_=>(Ki k_ ∨ w.heap.size ≤ k_)) Lf xR)∧ga (wc.heap[ya]? = some (.cells #[.int .i64 oc,.int .i64 Tb,.int .i64 Kb,.int .i64 Lb,.int .i64 Xb,.int .i64 Lc,.string Vc] 65 (0,0)))∧ga (Kept w wc (fun k_=>Ki k_))∧ga (Below w0.heap.size w0 wc))
 case first =>
  have H:=vV.out;clear vV
  by_cases c8:t102 ≥ 0
  ·rw [if_pos c8] at H;have Uq:decide (0 ≤ t102)=true:=decide_eq_true c8;clear c8;(first|rw [Uq]|(simp only [Zb,dc];rw [Uq])|skip)
   by_cases c9:0 ≤ t102
   ·rw [if_pos c9] at H;have cB:decide (0 ≤ t102)=true:=decide_eq_true c9;clear c9
    by_cases Qt:t102 < (l0.length:Int)
    ·rw [if_pos Qt] at H;have Kw:decide (t102 < (l0.length:Int))=true:=decide_eq_true Qt;clear Qt;obtain ⟨Tf,Zj⟩:∃ y_:List Bool,y_=(l0.set (t102:Int).toNat false):=⟨_,rfl⟩;replace H:(Rd.j0 k Tf oc Tb Kb Lb Xb Lc Vc)=some r:=by first|(rw [Zj];with_reducible exact H)|(have Md:=(Option.bind_some _ _).symm.trans H;rw [Zj];with_reducible exact Md)|(have Md:=(Option.bind_some _ _).symm.trans H;with_reducible exact Md)|with_reducible exact H|(rw [Zj];exact H)|exact H
     have PA:=ga.mk Zj;clear Zj;have H':=ga.mk H;clear H;have mI:0 ≤ (t102:Int):=Ua;have lI:(t102:Int) < ((l0.length:Int):Int):=Ua;obtain ⟨jD,uu,nL,RT,J6,Ear,CA⟩:=Kd.Cm bF.out (by omega);(first|cases nL|(injection nL with Zk ZA bB;(first|subst Zk|(injection Zk with Zk;subst Zk));subst bB;clear ZA));have M9:=ga.mk RT;have Bas:=ga.mk CA;clear RT J6 CA;have m9:=ga.mk (show (Ki jD ∨ w.heap.size ≤ jD) from (bF.out.1 _ rfl));obtain ⟨bD,U5⟩:=Kd.zk false bF.out (t102:Int) mI lI;replace mI:=eq_true mI;replace lI:=eq_true lI;have KD:=Kd.Hp bF.out (t102:Int) false;go_wp2_with (first|((with_reducible refine Df (t:=4) (p:=13) rfl ?_);refine Oe (t:=4) (p:=13) (v:=?zR) (w1:=(w7.setCell ⟨jD,(t102:Int).toNat,none⟩ (.bool false))) ?hg ?ho ?hn ?hr ?_;(case ho=>rfl);(case hg=>rfl);(case hn=>rfl);(case hr=>first|(go_simp;done)|(go_simp;rfl));intro Yq hw;have hg:w7.grownBy Yq (some jD):=(by rw [hw];exact KD.2);have Mn:Kd.R Kd.bool 4 Yq w0.heap.size (fun k_=>(Ki k_ ∨ w.heap.size ≤ k_)) (.slice (some ⟨jD,0,none⟩) l0.length uu) Tf:=(by rw [hw,PA.out];exact KD.1);clear KD;have yb:=ga.mk (Mn);have Ib:=ga.mk (td (g:=ya) (o:=.cells #[.int .i64 oc,.int .i64 Tb,.int .i64 Kb,.int .i64 Lb,.int .i64 Xb,.int .i64 Lc,.string Vc] 65 (0,0)) (by (with_reducible repeat (first|refine Ba ?_ _|refine Fa ?_|refine Ca ?_ _));exact oa.out) hg (Kd.Bl bF.out oa.out (by decide)));have Nb:=ga.mk ((by rw [hw];exact ua (HB.out) M9.out:Below w0.heap.size w0 Yq));have Dc:=ga.mk (Kept.Ih (S:=(fun k_=>Ki k_)) hg (by repeat (first|(with_reducible first|exact HK.out|apply Kept.alloc|apply Kept.drewN|apply Kept.drew|refine Kept.setCell ?_ (.inr Nd.out) _)|exact HK.out)) (fun k_ e_=>(bF.out.1 k_ e_)));clear bF oa HB HK;have bF:=yb;have oa:=Ib;have HB:=Nb;have HK:=Dc;clear yb Ib Nb Dc hg hw Mn))
     go_meet
     case rel=>exact ⟨_,(Tf),H',⟨by first|omega|exact Nat.le_refl _⟩,⟨by (with_reducible repeat (first|apply Kd.Ab|apply Kd.zb|apply Kd.Pb));exact bF.out⟩,⟨by (with_reducible repeat (first|refine Ba ?_ _|refine Fa ?_|refine Ca ?_ _));exact oa.out⟩,⟨by repeat (first|(with_reducible first|exact HK.out|apply Kept.alloc|apply Kept.drewN|apply Kept.drew|refine Kept.setCell ?_ (.inr Nd.out) _)|exact HK.out)⟩,⟨by repeat (first|(with_reducible first|exact HB.out|apply qa|apply ja|apply ta|refine ua ?_ Ta.out)|exact HB.out)⟩⟩
    ·rw [if_neg Qt] at H;exact absurd H (by simp)
   ·rw [if_neg c9] at H;exact absurd H (by simp)
  ·rw [if_neg c8] at H;have Uq:decide (0 ≤ t102)=false:=decide_eq_false c8;clear c8;(first|rw [Uq]|(simp only [Zb,dc];rw [Uq])|skip);have H':=ga.mk H;clear H;go_wp2
   go_meet
   case rel=>exact ⟨_,(l0),H',⟨by first|omega|exact Nat.le_refl _⟩,⟨by (with_reducible repeat (first|apply Kd.Ab|apply Kd.zb|apply Kd.Pb));exact bF.out⟩,⟨by (with_reducible repeat (first|refine Ba ?_ _|refine Fa ?_|refine Ca ?_ _));exact oa.out⟩,⟨by repeat (first|(with_reducible first|exact HK.out|apply Kept.alloc|apply Kept.drewN|apply Kept.drew|refine Kept.setCell ?_ (.inr Nd.out) _)|exact HK.out)⟩,⟨by repeat (first|(with_reducible first|exact HB.out|apply qa|apply ja|apply ta|refine ua ?_ Ta.out)|exact HB.out)⟩⟩
 case rest =>
  clear vV
  try clear c1
  try clear p1
  try clear q1
  try clear hx1
  try clear p2
  try clear c7
  try clear c8
  try clear Uq
  try clear c9
  try clear cB
  try clear Qt
  try clear Kw
  try clear mI
  try clear lI
  try clear xS
  try clear V5
  try clear Vm
  try clear Um
  try clear Sm
  try clear Rm
  try clear Qm
  try clear Qs
  try clear Ns
  try clear Pm
  try clear Om
  try clear Nm
  try clear Mm
  try clear Lm
  try clear Wr
  try clear Vr
  try clear bD
  try clear mI
  try clear lI
  obtain ⟨kq,xR,HA,HJ3,Me,oa,HK,HB⟩:=hcut;cases kq with
  | zero=>exact absurd HA.out (by simp [Rd.j0])
  | succ fW =>
   have H:=HA.out;clear HA;simp only [Rd.j0] at H;replace H:=Option.bind_eq_some_iff.mp H;obtain ⟨t104,UJ,H⟩:=H;replace H:(Rd.l0 fW xR t104 (t104.length:Int) 0)=some r:=H;have A14:=ga.mk UJ;clear UJ;have H':=ga.mk H;clear H;have qz:wc.cell? ⟨ya,0,none⟩=some (.int .i64 oc):=(ia oa.out 0).trans rfl;have pz:wc.cell? ⟨ya,1,none⟩=some (.int .i64 Tb):=(ia oa.out 1).trans rfl;have oz:wc.cell? ⟨ya,2,none⟩=some (.int .i64 Kb):=(ia oa.out 2).trans rfl;have mz:wc.cell? ⟨ya,3,none⟩=some (.int .i64 Lb):=(ia oa.out 3).trans rfl;have kz:wc.cell? ⟨ya,4,none⟩=some (.int .i64 Xb):=(ia oa.out 4).trans rfl;have GY:wc.cell? ⟨ya,5,none⟩=some (.int .i64 Lc):=(ia oa.out 5).trans rfl;have FY:wc.cell? ⟨ya,6,none⟩=some (.string Vc):=(ia oa.out 6).trans rfl;have Uy:=aa oa.out 0;have Ty:=aa oa.out 1;have Sy:=aa oa.out 2;have Ry:=aa oa.out 3;have Qy:=aa oa.out 4;have sX:=aa oa.out 5;have rX:=aa oa.out 6;go_wp2_with (first|((with_reducible refine mb (f:=88) rfl ?_);refine Fc (some 15) rfl rfl Try.func88 (by kernel_rfl) rfl #[.agg #[.int .i64 oc,.int .i64 Tb,.int .i64 Kb,.int .i64 Lb,.int .i64 Xb,.int .i64 Lc,.string Vc]] rfl (by (try simp only [List.map_toArray,List.map_cons,List.map_nil]);first|done|rfl|(simp only [List.length_drop,List.length_take];rfl)) ?_;(with_reducible refine (qd.calls fW oc Tb Kb Lb Xb Lc Vc t104 _ A14.out).mono ?_);rintro e sx ⟨GV,rfl,Vj,hb⟩;refine ⟨_,rfl,?_⟩;have yb:=ga.mk (Kd.pg (by (with_reducible repeat (first|apply Kd.Ab|apply Kd.zb|apply Kd.Pb));exact Me.out) hb);have Ib:=ga.mk (Kd.we (Kd.DU (M:=fun k_=>(Ki k_ ∨ w.heap.size ≤ k_)) Vj (by first|exact HK.out.1|exact (show Kept w _ (fun k_=>Ki k_) from by repeat (first|(with_reducible first|exact HK.out|apply Kept.alloc|apply Kept.drewN|apply Kept.drew|refine Kept.setCell ?_ (.inr Nd.out) _)|exact HK.out)).1) (fun k_ h_=>.inr h_)) (Ia (by repeat (first|(with_reducible first|exact HB.out|apply qa|apply ja|apply ta|refine ua ?_ Ta.out)|exact HB.out))));have Nb:=ga.mk (Va (g:=ya) (o:=.cells #[.int .i64 oc,.int .i64 Tb,.int .i64 Kb,.int .i64 Lb,.int .i64 Xb,.int .i64 Lc,.string Vc] 65 (0,0)) (by (with_reducible repeat (first|refine Ba ?_ _|refine Fa ?_|refine Ca ?_ _));exact oa.out) hb);have Dc:=ga.mk (Kept.below (S:=(fun k_=>Ki k_)) (by repeat (first|(with_reducible first|exact HK.out|apply Kept.alloc|apply Kept.drewN|apply Kept.drew|refine Kept.setCell ?_ (.inr Nd.out) _)|exact HK.out)) hb);have Vf:=ga.mk (Qa (by repeat (first|(with_reducible first|exact HB.out|apply qa|apply ja|apply ta|refine ua ?_ Ta.out)|exact HB.out)) hb);clear Me oa HK HB;have Me:=yb;have Br:=Ib;have oa:=Nb;have HK:=Dc;have HB:=Vf;clear yb Ib Nb Dc Vf;(try clear hb);(try clear bk);(try clear hk);(try clear hi);(try clear Vj);obtain ⟨Las,Dar,nar⟩:=Kd.Zd Br.out;subst nar))
   go_loopg [17] fW (fun kq v17 w'=>∃ (jF:List Bool) (Yi:Int),v17 = .int .i64 Yi∧ga (Rd.l0 kq jF t104 (t104.length:Int) Yi=some r)∧ga (kq ≤ fW)∧ga (Kd.R Kd.bool 4 w' w0.heap.size (fun k_=>(Ki k_ ∨ w.heap.size ≤ k_)) Lf jF)∧ga (Kd.R (Kd.int .i64) 3 w' w0.heap.size (fun k_=>(Ki k_ ∨ w.heap.size ≤ k_)) (.slice Las t104.length Dar) t104)∧ga (w'.heap[ya]? = some (.cells #[.int .i64 oc,.int .i64 Tb,.int .i64 Kb,.int .i64 Lb,.int .i64 Xb,.int .i64 Lc,.string Vc] 65 (0,0)))∧ga (Kept w w' (fun k_=>Ki k_))∧ga (Below w0.heap.size w0 w'))
   case atStart=>exact ⟨(xR),(0),(by first|rfl|(simp;done)|(simp [*];done)),H',⟨Nat.le_refl _⟩,⟨by (with_reducible repeat (first|apply Kd.Ab|apply Kd.zb|apply Kd.Pb));exact Me.out⟩,⟨by (with_reducible repeat (first|apply Kd.Ab|apply Kd.zb|apply Kd.Pb));exact Kd.Bd Br.out (fun _ hk=>hk.1)⟩,⟨by (with_reducible repeat (first|refine Ba ?_ _|refine Fa ?_|refine Ca ?_ _));exact oa.out⟩,⟨by repeat (first|(with_reducible first|exact HK.out|apply Kept.alloc|apply Kept.drewN|apply Kept.drew|refine Kept.setCell ?_ (.inr Nd.out) _)|exact HK.out)⟩,⟨by repeat (first|(with_reducible first|exact HB.out|apply qa|apply ja|apply ta|refine ua ?_ Ta.out)|exact HB.out)⟩⟩
   case round =>
    clear H'
    try clear c1
    try clear p1
    try clear q1
    try clear hx1
    try clear p2
    try clear c7
    try clear c8
    try clear Uq
    try clear c9
    try clear cB
    try clear Qt
    try clear Kw
    try clear mI
    try clear lI
    try clear xS
    try clear V5
    try clear qz
    try clear pz
    try clear oz
    try clear mz
    try clear kz
    try clear GY
    try clear FY
    try clear Vm
    try clear Um
    try clear Sm
    try clear Rm
    try clear Qm
    try clear Qs
    try clear Ns
    try clear Uy
    try clear Ty
    try clear Sy
    try clear Ry
    try clear Qy
    try clear sX
    try clear rX
    try clear Pm
    try clear Om
    try clear Nm
    try clear Mm
    try clear Lm
    try clear Wr
    try clear Vr
    try clear bD
    try clear p1
    try clear mI
    try clear p2
    try clear q1
    try clear lI
    (try clear HA);(try clear Dr);(try clear Me);(try clear ZE);(try clear oa);(try clear HK);(try clear HB);obtain ⟨jF,Yi,rfl,HA,Dr,Me,ZE,oa,HK,HB⟩:=hrel;cases gk with
    | zero=>exact absurd HA.out (by simp [Rd.l0])
    | succ k2 =>
     have H:=HA.out;clear HA;simp only [Rd.l0] at H
     by_cases Pp:Yi < (t104.length:Int)
     ·rw [if_pos Pp] at H;have qo:decide (Yi < (t104.length:Int))=true:=decide_eq_true Pp;clear Pp
      by_cases Pn:0 ≤ Yi
      ·rw [if_pos Pn] at H;have vu:decide (0 ≤ Yi)=true:=decide_eq_true Pn;clear Pn
       by_cases Np:Yi < (t104.length:Int)
       ·rw [if_pos Np] at H;have Jw:decide (Yi < (t104.length:Int))=true:=decide_eq_true Np;clear Np
        by_cases Pt:0 ≤ (rd t104 Yi)
        ·rw [if_pos Pt] at H;have nP:decide (0 ≤ (rd t104 Yi))=true:=decide_eq_true Pt;clear Pt
         by_cases mP:(rd t104 Yi) < (jF.length:Int)
         ·rw [if_pos mP] at H;have Xaw:decide ((rd t104 Yi) < (jF.length:Int))=true:=decide_eq_true mP;clear mP;obtain ⟨Bg,kf⟩:∃ y_:List Bool,y_=(jF.set ((rd t104 Yi):Int).toNat true):=⟨_,rfl⟩;replace H:(Rd.l0 k2 Bg t104 (t104.length:Int) (wrap64 (Yi + 1)))=some r:=by first|(rw [kf];with_reducible exact H)|(have Md:=(Option.bind_some _ _).symm.trans H;rw [kf];with_reducible exact Md)|(have Md:=(Option.bind_some _ _).symm.trans H;with_reducible exact Md)|with_reducible exact H|(rw [kf];exact H)|exact H
          have Hi:=ga.mk kf;clear kf;have H':=ga.mk H;clear H;have wK:0 ≤ (Yi:Int):=Ua;have qK:Yi < (t104.length:Int):=Ua;obtain ⟨faf,W6,gW⟩:=Kd.Ik (Kd.Bc ZE.out).2.2 Yi wK qK;cases W6;replace wK:=eq_true wK;replace qK:=eq_true qK;have p23:0 ≤ ((rd t104 Yi):Int):=Ua;have q23:((rd t104 Yi):Int) < ((jF.length:Int):Int):=Ua;obtain ⟨LQ,Z6,RY,Yad,Uaq,qaz,Cag⟩:=Kd.Cm Me.out (by omega);(first|cases RY|(injection RY with Zk ZA bB;(first|subst Zk|(injection Zk with Zk;subst Zk));subst bB;clear ZA));have Eas:=ga.mk Yad;have waA:=ga.mk Cag;clear Yad Uaq Cag;have das:=ga.mk (show (Ki LQ ∨ w.heap.size ≤ LQ) from (Me.out.1 _ rfl));obtain ⟨kap,xaq⟩:=Kd.zk false Me.out ((rd t104 Yi):Int) p23 q23;replace p23:=eq_true p23;replace q23:=eq_true q23;have JD:=Kd.Hp Me.out ((rd t104 Yi):Int) true;go_wp2_with (first|((with_reducible refine Df (t:=4) (p:=23) rfl ?_);refine Oe (t:=4) (p:=23) (v:=?yR) (w1:=(wr.setCell ⟨LQ,((rd t104 Yi):Int).toNat,none⟩ (.bool true))) ?hg ?ho ?hn ?hr ?_;(case ho=>rfl);(case hg=>rfl);(case hn=>rfl);(case hr=>first|(go_simp;done)|(go_simp;rfl));intro qx hw;have hg:wr.grownBy qx (some LQ):=(by rw [hw];exact JD.2);have Mn:Kd.R Kd.bool 4 qx w0.heap.size (fun k_=>(Ki k_ ∨ w.heap.size ≤ k_)) (.slice (some ⟨LQ,0,none⟩) jF.length Z6) Bg:=(by rw [hw,Hi.out];exact JD.1);clear JD;have yb:=ga.mk (Mn);have Ib:=ga.mk (Kd.gw (v:=(.slice (some ⟨LQ,0,none⟩) jF.length Z6)) (by (with_reducible repeat (first|apply Kd.Ab|apply Kd.zb|apply Kd.Pb));exact ZE.out) (Kd.ew Me.out) (by decide) hg);have Nb:=ga.mk (td (g:=ya) (o:=.cells #[.int .i64 oc,.int .i64 Tb,.int .i64 Kb,.int .i64 Lb,.int .i64 Xb,.int .i64 Lc,.string Vc] 65 (0,0)) (by (with_reducible repeat (first|refine Ba ?_ _|refine Fa ?_|refine Ca ?_ _));exact oa.out) hg (Kd.Bl Me.out oa.out (by decide)));have Dc:=ga.mk ((by rw [hw];exact ua (HB.out) Eas.out:Below w0.heap.size w0 qx));have Vf:=ga.mk (Kept.Ih (S:=(fun k_=>Ki k_)) hg (by repeat (first|(with_reducible first|exact HK.out|apply Kept.alloc|apply Kept.drewN|apply Kept.drew|refine Kept.setCell ?_ (.inr Nd.out) _)|exact HK.out)) (fun k_ e_=>(Me.out.1 k_ e_)));clear Me ZE oa HB HK;have Me:=yb;have ZE:=Ib;have oa:=Nb;have HB:=Dc;have HK:=Vf;clear yb Ib Nb Dc Vf hg hw Mn))
          go_roundg k2
          case measure=>have:=HJ3.out;have:=Dr.out;omega
          case rel=>exact ⟨(Bg),(wrap64 (Yi + 1)),(by first|rfl|(simp;done)|(simp [*];done)),H',⟨by have:=HJ3.out;have:=Dr.out;omega⟩,⟨by (with_reducible repeat (first|apply Kd.Ab|apply Kd.zb|apply Kd.Pb));exact Me.out⟩,⟨by (with_reducible repeat (first|apply Kd.Ab|apply Kd.zb|apply Kd.Pb));exact ZE.out⟩,⟨by (with_reducible repeat (first|refine Ba ?_ _|refine Fa ?_|refine Ca ?_ _));exact oa.out⟩,⟨by repeat (first|(with_reducible first|exact HK.out|apply Kept.alloc|apply Kept.drewN|apply Kept.drew|refine Kept.setCell ?_ (.inr Nd.out) _)|exact HK.out)⟩,⟨by repeat (first|(with_reducible first|exact HB.out|apply qa|apply ja|apply ta|refine ua ?_ Ta.out)|exact HB.out)⟩⟩
         ·rw [if_neg mP] at H;exact absurd H (by simp)
        ·rw [if_neg Pt] at H;exact absurd H (by simp)
       ·rw [if_neg Np] at H;exact absurd H (by simp)
      ·rw [if_neg Pn] at H;exact absurd H (by simp)
     ·rw [if_neg Pp] at H;have qo:decide (Yi < (t104.length:Int))=false:=decide_eq_false Pp;clear Pp;obtain rfl:=Option.some.inj H;go_wp2
      first|go_end0|((try simp only [Exit.inBlock,Exit.then]);refine bodyPost_ret (results_none rfl _ _ _) rfl ?_)
      exact ⟨by first|rfl|(simp [Oa,Na] <;> rfl)|(simp [*,Oa,Na] <;> rfl),by (with_reducible repeat (first|apply Kd.Ab|apply Kd.zb|apply Kd.Pb));exact Me.out,by repeat (first|(with_reducible first|exact HB.out|apply qa|apply ja|apply ta|refine ua ?_ Ta.out)|exact HB.out),by repeat (first|(with_reducible first|exact HK.out|apply Kept.alloc|apply Kept.drewN|apply Kept.drew|refine Kept.setCell ?_ (.inr Nd.out) _)|exact HK.out)⟩
theorem ep {x:Be} (h:x.f0=1 ∨ x.f0=6):ni x=[x.f2]:=if_pos h
theorem Pz {x:Be} (h:x.f0=2):ni x=[x.f2,x.f3]:=by
 unfold ni;rw [if_neg (by omega),if_pos h]
theorem Eu {x:Be} (h:x.f0=3 ∨ x.f0=4):ni x=[x.f3] ++ (if 0 ≤ x.f2 then [x.f2] else []) ++ (if x.f0=4 then [x.f4] else []):=by
 unfold ni;rw [if_neg (by omega),if_neg (by omega),if_pos h]
theorem ux {x:Be} (h1:¬ (x.f0=1 ∨ x.f0=6)) (h2:¬ x.f0=2) (h3:¬ (x.f0=3 ∨ x.f0=4)):ni x=[]:=by
 unfold ni;rw [if_neg h1,if_neg h2,if_neg h3]
theorem DC {x:Be} (ha:0 ≤ x.f2) (h4:x.f0=4):ni x=[x.f3] ++ [x.f2] ++ [x.f4]:=by rw [Eu (Or.inr h4),if_pos ha,if_pos h4]
theorem CC {x:Be} (ha:0 ≤ x.f2) (h3:x.f0=3 ∨ x.f0=4) (h4:¬ x.f0=4):ni x=[x.f3] ++ [x.f2]:=by rw [Eu h3,if_pos ha,if_neg h4];rfl
theorem BC {x:Be} (ha:¬ 0 ≤ x.f2) (h4:x.f0=4):ni x=[x.f3] ++ [x.f4]:=by rw [Eu (Or.inr h4),if_neg ha,if_pos h4];rfl
theorem zC {x:Be} (ha:¬ 0 ≤ x.f2) (h3:x.f0=3 ∨ x.f0=4) (h4:¬ x.f0=4):ni x=[x.f3]:=by rw [Eu h3,if_neg ha,if_neg h4];rfl
theorem NQ (x:Be):Ev (fun k=>qd.f k x.f0 x.f1 x.f2 x.f3 x.f4 x.f5 x.f6) (ni x):=by
 unfold qd.f;refine Ev.val ?_
 by_cases h1:x.f0=1
 ·rw [ep (Or.inl h1)];refine Ev.pos h1 (Ev.step (fun k=>by rw [qd.j0]) ?_);exact Ev.pos (by rw [h1];rfl) (Ev.pos (by simp) (Ev.now _))
 refine Ev.neg h1 (Ev.step (fun k=>by rw [qd.j0]) ?_)
 by_cases h6:x.f0=6
 ·rw [ep (Or.inr h6)];exact Ev.pos (by rw [h6];rfl) (Ev.pos (by simp) (Ev.now _))
 refine Ev.neg (by simp [h6]) ?_
 by_cases h2:x.f0=2
 ·rw [Pz h2];exact Ev.pos h2 (Ev.val (Ev.pos (by simp) (Ev.now _)))
 refine Ev.neg h2 ?_
 have key:∀ b:Bool,(b=true ↔ x.f0=3 ∨ x.f0=4)→Ev (fun k=>qd.j1 k [] b x.f0 x.f1 x.f2 x.f3 x.f4 x.f5 x.f6) (ni x):=by
  intro b hb;refine Ev.step (fun k=>by rw [qd.j1]) ?_
  by_cases NY:b=true
  ·have h34:=hb.1 NY;refine Ev.pos NY (Ev.pos (by simp) (Ev.val ?_))
   by_cases ha:0 ≤ x.f2
   ·refine Ev.pos ha (Ev.pos (by simp) (Ev.val ?_))
    by_cases h4:x.f0=4
    ·rw [DC ha h4];exact Ev.pos h4 (Ev.pos (by simp) (Ev.now _))
    ·rw [CC ha h34 h4];exact Ev.neg h4 (Ev.now _)
   ·refine Ev.neg ha ?_
    by_cases h4:x.f0=4
    ·rw [BC ha h4];exact Ev.pos h4 (Ev.pos (by simp) (Ev.now _))
    ·rw [zC ha h34 h4];exact Ev.neg h4 (Ev.now _)
  ·rw [ux (fun h=>h.elim h1 h6) h2 (fun h=>NY (hb.2 h))];exact Ev.neg NY (Ev.now _)
 by_cases h3:x.f0=3
 ·exact Ev.pos h3 (key _ (by simp [h3]))
 ·exact Ev.neg h3 (key _ (by simp [h3]))
theorem QY (x:Be):Ev (fun k=>Ee.f k x.f0 x.f1 x.f2 x.f3 x.f4 x.f5 x.f6) (ni x):=by
 unfold Ee.f
 by_cases h1:x.f0=1
 ·rw [ep (Or.inl h1)];refine Ev.pos h1 (Ev.step (fun k=>by rw [Ee.j0]) ?_);exact Ev.pos (by rw [h1];rfl) (Ev.now _)
 refine Ev.neg h1 (Ev.step (fun k=>by rw [Ee.j0]) ?_)
 by_cases h6:x.f0=6
 ·rw [ep (Or.inr h6)];exact Ev.pos (by rw [h6];rfl) (Ev.now _)
 refine Ev.neg (by simp [h6]) ?_
 by_cases h2:x.f0=2
 ·rw [Pz h2];exact Ev.pos h2 (Ev.now _)
 refine Ev.neg h2 ?_
 have key:∀ b:Bool,(b=true ↔ x.f0=3 ∨ x.f0=4)→Ev (fun k=>Ee.j1 k b x.f0 x.f1 x.f2 x.f3 x.f4 x.f5 x.f6) (ni x):=by
  intro b hb;refine Ev.step (fun k=>by rw [Ee.j1]) ?_
  by_cases NY:b=true
  ·have h34:=hb.1 NY;refine Ev.pos NY (Ev.val ?_)
   by_cases ha:0 ≤ x.f2
   ·refine Ev.pos ha (Ev.pos (by simp) (Ev.val ?_))
    by_cases h4:x.f0=4
    ·rw [DC ha h4];exact Ev.pos h4 (Ev.pos (by simp) (Ev.now _))
    ·rw [CC ha h34 h4];exact Ev.neg h4 (Ev.now _)
   ·refine Ev.neg ha ?_
    by_cases h4:x.f0=4
    ·rw [BC ha h4];exact Ev.pos h4 (Ev.pos (by simp) (Ev.now _))
    ·rw [zC ha h34 h4];exact Ev.neg h4 (Ev.now _)
  ·rw [ux (fun h=>h.elim h1 h6) h2 (fun h=>NY (hb.2 h))];exact Ev.neg NY (Ev.now _)
 by_cases h3:x.f0=3
 ·exact Ev.pos h3 (key _ (by simp [h3]))
 ·exact Ev.neg h3 (key _ (by simp [h3]))
theorem dL (us:List Int) (hl:us.length ≤ 1048576):∀ (d i:Nat) (s:List Bool),i + d=us.length→(∀ u ∈ us,0 ≤ u∧u < (s.length:Int))→Ev (fun k=>Rd.l0 k s us (us.length:Int) (i:Int)) ((us.drop i).foldl IC s):=by
 intro d
 induction d with
 | zero =>
  intro i s hi _;obtain rfl:i=us.length:=by omega
  rw [List.drop_length];refine Ev.step (fun k=>by rw [Rd.l0]) ?_;exact Ev.neg (by omega) (Ev.now _)
 | succ d ih =>
  intro i s hi hu;have hi':i < us.length:=by omega
  obtain ⟨u0,u1⟩:=hu _ (List.getElem_mem hi');rw [List.drop_eq_getElem_cons hi',List.foldl_cons];refine Ev.step (fun k=>by rw [Rd.l0]) ?_;refine Ev.pos (by omega) (Ev.pos (by omega) (Ev.pos (by omega) ?_));rw [qp hi',De hi' (by omega)];exact Ev.pos u0 (Ev.pos u1 (ih (i + 1) _ (by omega) (fun u h=>by rw [List.length_set];exact hu u h)))
theorem LH (s:List Bool) (x:Be) (hx:bu s.length x):Ev (fun k=>Rd.f k s x.f0 x.f1 x.f2 x.f3 x.f4 x.f5 x.f6) (Am s x):=by
 obtain ⟨h1,h2⟩:=hx
 have hm:ji.f x.f0 x.f1 x.f2 x.f3 x.f4 x.f5 x.f6=some (Vp x):=by
  unfold ji.f Vp
  by_cases h4:x.f0=4
  ·rw [if_pos h4,if_pos h4]
  ·rw [if_neg h4,if_neg h4]
   by_cases h6:x.f0=6
   ·rw [if_pos h6,if_pos h6]
   ·rw [if_neg h6,if_neg h6]
 have hul:=xE x;unfold Rd.f Am;rw [hm];refine Ev.val ?_
 have tail:∀ s2:List Bool,s2.length=s.length→Ev (fun k=>Rd.j0 k s2 x.f0 x.f1 x.f2 x.f3 x.f4 x.f5 x.f6) ((ni x).foldl IC s2):=by
  intro s2 kV;refine Ev.step (fun k=>by rw [Rd.j0]) ?_;refine Ev.bind (NQ x) ?_;have:=dL (ni x) (by omega) (ni x).length 0 s2 (by omega) (fun u hu=>by rw [kV];exact h1 u hu)
  rwa [List.drop_zero] at this
 by_cases h:Vp x ≥ 0
 ·rw [if_pos h]
  have hlt:Vp x < (s.length:Int):=by
   have h':=h;unfold Vp at h' ⊢
   by_cases h4:x.f0=4
   ·rw [if_pos h4] at h';omega
   ·rw [if_neg h4] at h' ⊢
    by_cases h6:x.f0=6
    ·rw [if_pos h6] at h';omega
    ·rw [if_neg h6];exact (h2 h4 h6).2
  exact Ev.pos h (Ev.pos h (Ev.pos hlt (tail _ (by rw [List.length_set]))))
 ·rw [if_neg h];exact Ev.neg h (tail _ rfl)
theorem AJ (us:List Int) (hl:us.length ≤ 1048576):∀ (d i:Nat) (s:List Bool),i + d=us.length→(∀ u ∈ us,0 ≤ u∧u < (s.length:Int))→Ev (fun k=>qc.l0 k s us (i:Int)) ((us.drop i).foldl IC s):=by
 intro d
 induction d with
 | zero =>
  intro i s hi _;obtain rfl:i=us.length:=by omega
  rw [List.drop_length];refine Ev.step (fun k=>by rw [qc.l0]) ?_;exact Ev.neg (by omega) (Ev.now _)
 | succ d ih =>
  intro i s hi hu;have hi':i < us.length:=by omega
  obtain ⟨u0,u1⟩:=hu _ (List.getElem_mem hi');rw [List.drop_eq_getElem_cons hi',List.foldl_cons];refine Ev.step (fun k=>by rw [qc.l0]) ?_;refine Ev.pos (by omega) (Ev.pos (by omega) ?_);rw [qp hi',De hi' (by omega)];exact Ev.pos u0 (Ev.pos u1 (ih (i + 1) _ (by omega) (fun u h=>by rw [List.length_set];exact hu u h)))
theorem BJ (s:List Bool) (x:Be) (hx:bu s.length x):Ev (fun k=>qc.f k x.f0 x.f1 x.f2 x.f3 x.f4 x.f5 x.f6 s) (Am s x):=by
 obtain ⟨h1,h2⟩:=hx;have hul:=xE x;unfold qc.f Am qh.f
 have tail:∀ s2:List Bool,s2.length=s.length→Ev (fun k=>qc.j0 k s2 x.f0 x.f1 x.f2 x.f3 x.f4 x.f5 x.f6) ((ni x).foldl IC s2):=by
  intro s2 kV;refine Ev.step (fun k=>by rw [qc.j0]) ?_;refine Ev.bind (QY x) ?_;have:=AJ (ni x) (by omega) (ni x).length 0 s2 (by omega) (fun u hu=>by rw [kV];exact h1 u hu)
  rwa [List.drop_zero] at this
 by_cases h4:x.f0=4
 ·rw [if_pos h4];have hm:Vp x = -1:=if_pos h4;rw [if_neg (by omega)];exact Ev.val (Ev.neg (by decide) (tail _ rfl))
 ·rw [if_neg h4];refine Ev.val ?_
  by_cases h6:x.f0=6
  ·have hm:Vp x = -1:=by unfold Vp;rw [if_neg h4,if_pos h6]
   rw [if_neg (by omega)];exact Ev.neg (by simp [h6]) (tail _ rfl)
  ·have hm:Vp x=x.f1:=by unfold Vp;rw [if_neg h4,if_neg h6]
   obtain ⟨d0,d1⟩:=h2 h4 h6;rw [hm,if_pos d0];exact Ev.pos (by simp [h6]) (Ev.pos d0 (Ev.pos d1 (tail _ (by rw [List.length_set]))))
def Jd.l0:Nat→List Int→List Bool→Int→Int→Option (List Int)
 | 0,_,_,_,_=>none
 | k + 1,x3,x7,x8,x9=>if x9 < x8 then (if 0 ≤ x9 then (if x9 < (x7.length:Int) then (if lg false x7 x9=true then (if x3.length < 17592186044416 then (Jd.l0 k (x3 ++ [x9]) x7 x8 (wrap64 (x9 + 1))) else (none)) else (Jd.l0 k x3 x7 x8 (wrap64 (x9 + 1)))) else (none)) else (none)) else (some x3)
def Jd.f (k:Nat) (l0:List Bool):Option (List Int):=Jd.l0 k (([]:List Int)) l0 (l0.length:Int) 0
theorem Jd.calls (k:Nat) (A0:Option Addr) (c0:Nat) (l0:List Bool) (r:List Int) (w:World) (Ck:Kd.C Kd.bool w A0 l0.length l0) (hc0:l0.length ≤ c0) (h:Jd.f k l0=some r) :
  Calls Try.prog 48 #[.slice A0 l0.length c0] w fun e w'=>∃ Hl:Value,e = .returned (Hl)∧Kd.R (Kd.int .i64) 3 w' w.heap.size (fun _=>True) Hl r∧Below w.heap.size w w':=by
 have fl:=ga.mk Ck;have dI:=ga.mk hc0;clear Ck hc0;have HB:=ga.mk (Below.refl w.heap.size w);have H:(Jd.l0 k (([]:List Int)) l0 (l0.length:Int) 0)=some r:=h;clear h;obtain ⟨Qf,Uf⟩:∃ y_:List Int,y_=(([]:List Int)):=⟨_,rfl⟩;replace H:(Jd.l0 k Qf l0 (l0.length:Int) 0)=some r:=by first|(rw [Uf];with_reducible exact H)|(have Md:=(Option.bind_some _ _).symm.trans H;rw [Uf];with_reducible exact Md)|(have Md:=(Option.bind_some _ _).symm.trans H;with_reducible exact Md)|with_reducible exact H|(rw [Uf];exact H)|exact H
 have Qk:=ga.mk Uf;clear Uf;have H':=ga.mk H;clear H;go_enter Try.func48,Try.ntmps48;go_wp2_with (first|((with_reducible refine qb (N:=6) rfl ?_);refine Kd.ej (Kd.int .i64) _ 3 ?hg (N:=6) ?hd (xs:=([]:List Int)) (inner:=[]) (ok:=fun _=>True) (Tg:=fun _=>True) ?hr ?hp (fun _ hk=>hk) trivial (Below.refl _ _) (Nat.le_refl _) (by simp) ?_;(case hd=>rfl);(case hg=>rfl);(case hr=>first|(go_simp;done)|(go_simp;rfl));(case hp=>exact (xd.none _ _));intro CI w2 ho3 hb Al He;clear Al He;(first|rw [← Qk.out] at ho3|(simp only [Int.reduceToNat] at ho3;rw [← Qk.out] at ho3));have yb:=ga.mk (Kd.we ho3 (Ia (by repeat (first|(with_reducible first|exact HB.out|apply qa|apply ja|apply ta)|exact HB.out))));have Ib:=ga.mk (Qa (by repeat (first|(with_reducible first|exact HB.out|apply qa|apply ja|apply ta)|exact HB.out)) hb);clear HB;have Cr:=yb;have HB:=Ib;clear yb Ib hb ho3))
 go_loopg [3,9] k (fun kq v3 v9 w'=>∃ (od:List Int) (Cg:Int),v9 = .int .i64 Cg∧ga (Jd.l0 kq od l0 (l0.length:Int) Cg=some r)∧ga (kq ≤ k)∧ga (Kd.R (Kd.int .i64) 3 w' w.heap.size (fun _=>True) v3 od)∧ga (Below w.heap.size w w'))
 case atStart=>exact ⟨(Qf),(0),(by first|rfl|(simp;done)|(simp [*];done)),H',⟨Nat.le_refl _⟩,⟨by (with_reducible repeat (first|apply Kd.Ab|apply Kd.zb|apply Kd.Pb));exact Cr.out⟩,⟨by repeat (first|(with_reducible first|exact HB.out|apply qa|apply ja|apply ta)|exact HB.out)⟩⟩
 case round =>
  clear H'
  try clear p2
  (try clear HA);(try clear Xf);(try clear Mc);(try clear HB);obtain ⟨od,Cg,rfl,HA,Xf,Mc,HB⟩:=hrel;cases gk with
  | zero=>exact absurd HA.out (by simp [Jd.l0])
  | succ k1 =>
   have H:=HA.out;clear HA;simp only [Jd.l0] at H
   by_cases c4:Cg < (l0.length:Int)
   ·rw [if_pos c4] at H;have cj:decide (Cg < (l0.length:Int))=true:=decide_eq_true c4;clear c4
    by_cases c5:0 ≤ Cg
    ·rw [if_pos c5] at H;have Ui:decide (0 ≤ Cg)=true:=decide_eq_true c5;clear c5
     by_cases c6:Cg < (l0.length:Int)
     ·rw [if_pos c6] at H;have zm:decide (Cg < (l0.length:Int))=true:=decide_eq_true c6;clear c6;obtain ⟨bq7,m6⟩:∃ b_:Bool,b_=(lg false l0 Cg):=⟨_,rfl⟩;replace H:(if bq7=true then (if od.length < 17592186044416 then (Jd.l0 k1 (od ++ [Cg]) l0 (l0.length:Int) (wrap64 (Cg + 1))) else (none)) else (Jd.l0 k1 od l0 (l0.length:Int) (wrap64 (Cg + 1))))=some r:=by rw [← m6] at H;exact H
      have paf:=ga.mk m6;clear m6
      by_cases c8:bq7=true
      ·subst c8;have H1:(if od.length < 17592186044416 then (Jd.l0 k1 (od ++ [Cg]) l0 (l0.length:Int) (wrap64 (Cg + 1))) else (none))=some r:=by rw [if_pos rfl] at H;exact H
       clear H;have H:=H1;clear H1
       by_cases c9:od.length < 17592186044416
       ·rw [if_pos c9] at H;have y8:=ga.mk c9;clear c9;obtain ⟨Od,lf⟩:∃ y_:List Int,y_=(od ++ [Cg]):=⟨_,rfl⟩;replace H:(Jd.l0 k1 Od l0 (l0.length:Int) (wrap64 (Cg + 1)))=some r:=by first|(rw [lf];with_reducible exact H)|(have Md:=(Option.bind_some _ _).symm.trans H;rw [lf];with_reducible exact Md)|(have Md:=(Option.bind_some _ _).symm.trans H;with_reducible exact Md)|with_reducible exact H|(rw [lf];exact H)|exact H
        have Dk:=ga.mk lf;clear lf;have H':=ga.mk H;clear H;have Kr:0 ≤ (Cg:Int):=Ua;have Jr:Cg < (l0.length:Int):=Ua;obtain ⟨rP,OH,si⟩:=Kd.Rj fl.out Cg Kr Jr;(try rw [← paf.out] at si);cases OH;replace si:=Sa HB.out si;replace Kr:=eq_true Kr;replace Jr:=eq_true Jr;go_wp2_with (first|((with_reducible refine Ld (b:=.append) (xs:=#[.tmp 15,.tmp 17]) rfl ?_);at_builtin;refine Kd.Wg (Kd.int .i64) (w0:=w) w.heap.size rfl (.tmp 15) (.tmp 17) 22 3 (.int .i64 0) 8 rfl Try.underlying22 info3 rfl (by decide) (by omega) u3 od Cg [.int .i64 Cg] (fun _=>True) (fun _=>False) rfl rfl ?aP (fun _ hk=>hk.elim) ?aF ?aO ?aB ?aS ?aL ?_;(case aP=>exact rfl);(case aB=>exact (by repeat (first|(with_reducible first|exact HB.out|apply qa|apply ja|apply ta)|exact HB.out)));(case aF=>exact (fun _ _=>trivial));(case aO=>exact (by (with_reducible repeat (first|apply Kd.Ab|apply Kd.zb|apply Kd.Pb));exact Mc.out));(case aS=>exact (Ia (by repeat (first|(with_reducible first|exact HB.out|apply qa|apply ja|apply ta)|exact HB.out))));(case aL=>have:=y8.out;omega);intro Oz Wq ho hb hg hat;rw [← Dk.out] at ho;have yb:=ga.mk (hb);have Ib:=ga.mk (ho);clear HB Mc;have HB:=yb;have di:=Ib;clear yb Ib ho hb hg hat))
        go_roundg k1
        case measure=>have:=Xf.out;omega
        case rel=>exact ⟨(Od),(wrap64 (Cg + 1)),(by first|rfl|(simp;done)|(simp [*];done)),H',⟨by have:=Xf.out;omega⟩,⟨by (with_reducible repeat (first|apply Kd.Ab|apply Kd.zb|apply Kd.Pb));exact di.out⟩,⟨by repeat (first|(with_reducible first|exact HB.out|apply qa|apply ja|apply ta)|exact HB.out)⟩⟩
       ·rw [if_neg c9] at H;exact absurd H (by simp)
      ·replace c8:=Bool.eq_false_iff.mpr c8;subst c8;have H1:(Jd.l0 k1 od l0 (l0.length:Int) (wrap64 (Cg + 1)))=some r:=by rw [if_neg (show ¬ (false=true) by decide)] at H;exact H
       clear H;have H:=H1;clear H1;have H':=ga.mk H;clear H;have Kr:0 ≤ (Cg:Int):=Ua;have Jr:Cg < (l0.length:Int):=Ua;obtain ⟨rP,OH,si⟩:=Kd.Rj fl.out Cg Kr Jr;(try rw [← paf.out] at si);cases OH;replace si:=Sa HB.out si;replace Kr:=eq_true Kr;replace Jr:=eq_true Jr;go_wp2
       go_roundg k1
       case measure=>have:=Xf.out;omega
       case rel=>exact ⟨(od),(wrap64 (Cg + 1)),(by first|rfl|(simp;done)|(simp [*];done)),H',⟨by have:=Xf.out;omega⟩,⟨by (with_reducible repeat (first|apply Kd.Ab|apply Kd.zb|apply Kd.Pb));exact Mc.out⟩,⟨by repeat (first|(with_reducible first|exact HB.out|apply qa|apply ja|apply ta)|exact HB.out)⟩⟩
     ·rw [if_neg c6] at H;exact absurd H (by simp)
    ·rw [if_neg c5] at H;exact absurd H (by simp)
   ·rw [if_neg c4] at H;have cj:decide (Cg < (l0.length:Int))=false:=decide_eq_false c4;clear c4;obtain rfl:=Option.some.inj H;go_wp2;go_ret;exact ⟨_,by first|rfl|(simp [Oa,Na] <;> rfl)|(simp [*,Oa,Na] <;> rfl),by (with_reducible repeat (first|apply Kd.Ab|apply Kd.zb|apply Kd.Pb));exact Mc.out,by repeat (first|(with_reducible first|exact HB.out|apply qa|apply ja|apply ta)|exact HB.out)⟩
def Mh.f (Ra:List Int) (La:Int) (Ja:Int) (Ma:Int) (Aa:List (Re)) (l1:List (List Bool)) (a2:Int):Option (List Bool):=(some (([]:List Bool):List Bool)).bind fun ld=>(if 0 ≤ a2 then (if a2 < (l1.length:Int) then (if ld.length + (Pd l1 a2).length < 140737488355328 then ((some (ld ++ (Pd l1 a2):List Bool)).bind fun Wd=>(if a2 < (Aa.length:Int) then (if ((Ea Aa a2).f1)=0 then (some Wd) else (if 0 ≤ ((Ea Aa a2).f2) then (if ((Ea Aa a2).f2) < (Wd.length:Int) then (some (Wd.set (((Ea Aa a2).f2):Int).toNat true)) else (none)) else (none))) else (none))) else (none)) else (none)) else (none))
theorem Mh.calls (Xa:Option Addr) (Ya:Nat) (Ra:List Int) (La:Int) (Ja:Int) (Ma:Int) (Mb:Option Addr) (Fb:Nat) (Aa:List (Re)) (A1:Option Addr) (c1:Nat) (l1:List (List Bool)) (a2:Int) (r:List Bool) (w:World) (Xd:Kd.C (Kd.int .i64) w Xa Ra.length Ra) (Vd:Ra.length ≤ Ya) (Ff:Kd.C Kp w Mb Aa.length Aa) (uf:Aa.length ≤ Fb) (Zq:Kd.C (Kd.slice 4 Kd.bool) w A1 l1.length l1) (Vn:l1.length ≤ c1) (h:Mh.f Ra La Ja Ma Aa l1 a2=some r) :
  Calls Try.prog 81 #[.agg #[.slice Xa Ra.length Ya,.int .i64 La,.int .i64 Ja,.int .i64 Ma,.slice Mb Aa.length Fb],.slice A1 l1.length c1,.int .i64 a2] w fun e w'=>∃ Hl:Value,e = .returned (Hl)∧Kd.R Kd.bool 4 w' w.heap.size (fun _=>True) Hl r∧Below w.heap.size w w':=by
 have eE:=Try.underlying30;have YA:=Try.underlying59;have Ye:=ga.mk Xd;have gf:=ga.mk Vd;clear Xd Vd;have wg:=ga.mk Ff;have ei:=ga.mk uf;clear Ff uf;have gx:=ga.mk Zq;have ZP:=ga.mk Vn;clear Zq Vn;have HB:=ga.mk (Below.refl w.heap.size w);have H:((some (([]:List Bool):List Bool)).bind fun ld=>(if 0 ≤ a2 then (if a2 < (l1.length:Int) then (if ld.length + (Pd l1 a2).length < 140737488355328 then ((some (ld ++ (Pd l1 a2):List Bool)).bind fun Wd=>(if a2 < (Aa.length:Int) then (if ((Ea Aa a2).f1)=0 then (some Wd) else (if 0 ≤ ((Ea Aa a2).f2) then (if ((Ea Aa a2).f2) < (Wd.length:Int) then (some (Wd.set (((Ea Aa a2).f2):Int).toNat true)) else (none)) else (none))) else (none))) else (none)) else (none)) else (none)))=some r:=h;clear h;obtain ⟨ld,tf⟩:∃ y_:List Bool,y_=(([]:List Bool)):=⟨_,rfl⟩;replace H:(if 0 ≤ a2 then (if a2 < (l1.length:Int) then (if ld.length + (Pd l1 a2).length < 140737488355328 then ((some (ld ++ (Pd l1 a2):List Bool)).bind fun Wd=>(if a2 < (Aa.length:Int) then (if ((Ea Aa a2).f1)=0 then (some Wd) else (if 0 ≤ ((Ea Aa a2).f2) then (if ((Ea Aa a2).f2) < (Wd.length:Int) then (some (Wd.set (((Ea Aa a2).f2):Int).toNat true)) else (none)) else (none))) else (none))) else (none)) else (none)) else (none))=some r:=by first|(rw [tf];with_reducible exact H)|(have Md:=(Option.bind_some _ _).symm.trans H;rw [tf];with_reducible exact Md)|(have Md:=(Option.bind_some _ _).symm.trans H;with_reducible exact Md)|with_reducible exact H|(rw [tf];exact H)|exact H
 have Ch:=ga.mk tf;clear tf
 by_cases c4:0 ≤ a2
 ·rw [if_pos c4] at H;have cj:decide (0 ≤ a2)=true:=decide_eq_true c4;clear c4
  by_cases c5:a2 < (l1.length:Int)
  ·rw [if_pos c5] at H;have Ui:decide (a2 < (l1.length:Int))=true:=decide_eq_true c5;clear c5
   by_cases c6:ld.length + (Pd l1 a2).length < 140737488355328
   ·rw [if_pos c6] at H;have raf:=ga.mk c6;clear c6;obtain ⟨Wd,fu⟩:∃ y_:List Bool,y_=(ld ++ (Pd l1 a2)):=⟨_,rfl⟩;replace H:(if a2 < (Aa.length:Int) then (if ((Ea Aa a2).f1)=0 then (some Wd) else (if 0 ≤ ((Ea Aa a2).f2) then (if ((Ea Aa a2).f2) < (Wd.length:Int) then (some (Wd.set (((Ea Aa a2).f2):Int).toNat true)) else (none)) else (none))) else (none))=some r:=by first|(rw [fu];with_reducible exact H)|(have Md:=(Option.bind_some _ _).symm.trans H;rw [fu];with_reducible exact Md)|(have Md:=(Option.bind_some _ _).symm.trans H;with_reducible exact Md)|with_reducible exact H|(rw [fu];exact H)|exact H
    have AP:=ga.mk fu;clear fu
    by_cases c7:a2 < (Aa.length:Int)
    ·rw [if_pos c7] at H;have Ek:decide (a2 < (Aa.length:Int))=true:=decide_eq_true c7;clear c7
     by_cases c8:((Ea Aa a2).f1)=0
     ·rw [if_pos c8] at H;have Uq:(((Ea Aa a2).f1) == 0)=true:=beq_iff_eq.mpr c8;have CJ:(((Ea Aa a2).f1) != 0)=false:=bne_eq_false_iff_eq.mpr c8;clear c8;obtain rfl:=Option.some.inj H;go_enter Try.func81,Try.ntmps81;go_wp2_with (first|((with_reducible refine qb (N:=3) rfl ?_);refine Gb ?hg (N:=3) ?hd (cs:=#[.slice Xa Ra.length Ya,.int .i64 La,.int .i64 Ja,.int .i64 Ma,.slice Mb Aa.length Fb]) (t:=30) ?hr ?_;(case hd=>rfl);(case hg=>rfl);(case hr=>first|(go_simp;done)|(go_simp;rfl));intro ya hg w9 Ob hb;have yb:=ga.mk (Qa (by repeat (first|(with_reducible first|exact HB.out|apply qa|apply ja|apply ta)|exact HB.out)) hb);have Ib:=ga.mk (Ob);have Nb:=ga.mk ((by rw [hg];exact (Ia (by repeat (first|(with_reducible first|exact HB.out|apply qa|apply ja|apply ta)|exact HB.out))):w.heap.size ≤ ya));have Dc:=ga.mk ((by rw [hg];exact (Ia (by repeat (first|(with_reducible first|exact HB.out|apply qa|apply ja|apply ta)|exact HB.out))):w.heap.size ≤ ya));clear HB;have HB:=yb;have oa:=Ib;have Nd:=Nb;have Ta:=Dc;clear yb Ib Nb Dc hb Ob hg)|((with_reducible refine qb (N:=9) rfl ?_);refine Kd.ej Kd.bool _ 4 ?hg (N:=9) ?hd (xs:=([]:List Bool)) (inner:=[]) (ok:=fun _=>True) (Tg:=fun _=>True) ?hr ?hp (fun _ hk=>hk) trivial (Below.refl _ _) (Nat.le_refl _) (by simp) ?_;(case hd=>rfl);(case hg=>rfl);(case hr=>first|(go_simp;done)|(go_simp;rfl));(case hp=>exact (xd.none _ _));intro En Wq Wo hb Al He;clear Al He;(first|rw [← Ch.out] at Wo|(simp only [Int.reduceToNat] at Wo;rw [← Ch.out] at Wo));have yb:=ga.mk (Kd.we Wo (Ia (by repeat (first|(with_reducible first|exact HB.out|apply qa|apply ja|apply ta|refine ua ?_ Ta.out)|exact HB.out))));have Ib:=ga.mk (Va (g:=ya) (o:=.cells #[.slice Xa Ra.length Ya,.int .i64 La,.int .i64 Ja,.int .i64 Ma,.slice Mb Aa.length Fb] 30 (0,0)) (by (with_reducible repeat (first|refine Ba ?_ _|refine Fa ?_|refine Ca ?_ _));exact oa.out) hb);have Nb:=ga.mk (Qa (by repeat (first|(with_reducible first|exact HB.out|apply qa|apply ja|apply ta|refine ua ?_ Ta.out)|exact HB.out)) hb);clear oa HB;have mg:=yb;have oa:=Ib;have HB:=Nb;clear yb Ib Nb hb Wo;have Ao:0 ≤ (a2:Int):=Ua;have yo:a2 < (l1.length:Int):=Ua;obtain ⟨Jm,Mk,Gk,tD,Dh,Aj,Bj⟩:=Vq gx.out a2 Ao yo;cases tD;replace Dh:=Sa HB.out Dh;have Zo:=ga.mk Bj;have ow:=ga.mk Aj;clear Bj Aj;replace Ao:=eq_true Ao;replace yo:=eq_true yo)|((with_reducible refine Ld (b:=.append) (xs:=#[.tmp 9,.tmp 13]) rfl ?_);at_builtin;refine Kd.mj Kd.bool (w0:=w) w.heap.size rfl (.tmp 9) (.tmp 13) 60 4 (.bool false) 1 rfl Try.underlying60 Ew rfl (by decide) (by omega) En ld (Pd l1 a2) _ _ _ (fun _=>True) (fun _=>False) rfl rfl ?aO ?aR (fun _ _ h=>h) (fun _ h=>h.elim) ?aF ?aB ?aS ?aL ?_;(case aR=>repeat (first|exact (Kd.Jb Zo.out HB.out)|(with_reducible refine Kd.Rb ?_ _)|(with_reducible refine Kd.Qb ?_ _)|(with_reducible refine Kd.Yb ?_)));(case aB=>exact (by repeat (first|(with_reducible first|exact HB.out|apply qa|apply ja|apply ta|refine ua ?_ Ta.out)|exact HB.out)));(case aF=>exact (fun _ _=>trivial));(case aO=>exact (by (with_reducible repeat (first|apply Kd.Ab|apply Kd.zb|apply Kd.Pb));exact mg.out));(case aS=>exact (Ia (by repeat (first|(with_reducible first|exact HB.out|apply qa|apply ja|apply ta|refine ua ?_ Ta.out)|exact HB.out))));(case aL=>have:=raf.out;omega);intro AR Ht ho hb hg hat;rw [← AP.out] at ho;have yb:=ga.mk (td (g:=ya) (o:=.cells #[.slice Xa Ra.length Ya,.int .i64 La,.int .i64 Ja,.int .i64 Ma,.slice Mb Aa.length Fb] 30 (0,0)) (by (with_reducible repeat (first|refine Ba ?_ _|refine Fa ?_|refine Ca ?_ _));exact oa.out) hg (Kd.Bl mg.out oa.out (by decide)));have Ib:=ga.mk (hb);have Nb:=ga.mk (ho);clear oa HB mg;have oa:=yb;have HB:=Ib;have fj:=Nb;clear yb Ib Nb ho hb hg hat;have Gq:Ht.cell? ⟨ya,0,none⟩=some (.slice Xa Ra.length Ya):=(ia oa.out 0).trans rfl;have Fq:Ht.cell? ⟨ya,1,none⟩=some (.int .i64 La):=(ia oa.out 1).trans rfl;have Dq:Ht.cell? ⟨ya,2,none⟩=some (.int .i64 Ja):=(ia oa.out 2).trans rfl;have Cq:Ht.cell? ⟨ya,3,none⟩=some (.int .i64 Ma):=(ia oa.out 3).trans rfl;have Bq:Ht.cell? ⟨ya,4,none⟩=some (.slice Mb Aa.length Fb):=(ia oa.out 4).trans rfl;have mq:=aa oa.out 0;have lq:=aa oa.out 1;have jq:=aa oa.out 2;have iq:=aa oa.out 3;have gq:=aa oa.out 4;have zo:0 ≤ (a2:Int):=Ua;have xo:a2 < (Aa.length:Int):=Ua;obtain ⟨Ig,Lk,Fk,sD,ri,yj,xj,wj,uj,Nh,Oh⟩:=Vi wg.out a2 zo xo;cases sD;replace ri:=Sa HB.out ri;replace yj:=Sa HB.out yj;replace xj:=Sa HB.out xj;replace wj:=Sa HB.out wj;replace uj:=Sa HB.out uj;have Em:=ga.mk Oh;have nw:=ga.mk Nh;clear Oh Nh;replace zo:=eq_true zo;replace xo:=eq_true xo)|((with_reducible refine qb (N:=8) rfl ?_);refine Gb ?hg (N:=8) ?hd (cs:=#[.slice none 0 0,.int .i64 0,.int .i64 0,.int .i64 0,.int .i64 0]) (t:=59) ?hr ?_;(case hd=>rfl);(case hg=>rfl);(case hr=>first|(go_simp;done)|(go_simp;rfl));intro ug hg Mw Ob hb;have yb:=ga.mk (Kd.pg (by (with_reducible repeat (first|apply Kd.Ab|apply Kd.zb|apply Kd.Pb));exact fj.out) hb);have Ib:=ga.mk (Va (g:=ya) (o:=.cells #[.slice Xa Ra.length Ya,.int .i64 La,.int .i64 Ja,.int .i64 Ma,.slice (some Ig) Aa.length Fb] 30 (0,0)) (by (with_reducible repeat (first|refine Ba ?_ _|refine Fa ?_|refine Ca ?_ _));exact oa.out) hb);have Nb:=ga.mk (Qa (by repeat (first|(with_reducible first|exact HB.out|apply qa|apply ja|apply ta|refine ua ?_ Ta.out)|exact HB.out)) hb);have Dc:=ga.mk (Ob);have Vf:=ga.mk ((by rw [hg];exact (Ia (by repeat (first|(with_reducible first|exact HB.out|apply qa|apply ja|apply ta|refine ua ?_ Ta.out)|exact HB.out))):w.heap.size ≤ ug));have Kg:=ga.mk ((by rw [hg];exact (Ia (by repeat (first|(with_reducible first|exact HB.out|apply qa|apply ja|apply ta|refine ua ?_ Ta.out)|exact HB.out))):w.heap.size ≤ ug));have Rg:=ga.mk ((by rw [hg];exact Nat.ne_of_lt (Ec (g:=ya) (o:=.cells #[.slice Xa Ra.length Ya,.int .i64 La,.int .i64 Ja,.int .i64 Ma,.slice (some Ig) Aa.length Fb] 30 (0,0)) (by (with_reducible repeat (first|refine Ba ?_ _|refine Fa ?_|refine Ca ?_ _));exact oa.out)):ya ≠ ug));have LI:=ga.mk ((by rw [hg];exact Nat.ne_of_gt (Ec (g:=ya) (o:=.cells #[.slice Xa Ra.length Ya,.int .i64 La,.int .i64 Ja,.int .i64 Ma,.slice (some Ig) Aa.length Fb] 30 (0,0)) (by (with_reducible repeat (first|refine Ba ?_ _|refine Fa ?_|refine Ca ?_ _));exact oa.out)):ug ≠ ya));clear fj oa HB;have fj:=yb;have oa:=Ib;have HB:=Nb;have Ag:=Dc;have Sag:=Vf;have cQ:=Kg;have zl:=Rg;have AA:=LI;clear yb Ib Nb Dc Vf Kg Rg LI hb Ob hg;have Eaa:=AA.out;have saa:=zl.out;have zn:Mw.cell? ⟨ug,0,none⟩=some (.slice none 0 0):=(ia Ag.out 0).trans rfl;have vn:Mw.cell? ⟨ug,1,none⟩=some (.int .i64 0):=(ia Ag.out 1).trans rfl;have sn:Mw.cell? ⟨ug,2,none⟩=some (.int .i64 0):=(ia Ag.out 2).trans rfl;have qn:Mw.cell? ⟨ug,3,none⟩=some (.int .i64 0):=(ia Ag.out 3).trans rfl;have pn:Mw.cell? ⟨ug,4,none⟩=some (.int .i64 0):=(ia Ag.out 4).trans rfl;have kn:=aa Ag.out 0;have jn:=aa Ag.out 1;have gn:=aa Ag.out 2;have en:=aa Ag.out 3;have dn:=aa Ag.out 4));go_ret;exact ⟨_,by first|rfl|(simp [Oa,Na] <;> rfl)|(simp [*,Oa,Na] <;> rfl),by (with_reducible repeat (first|apply Kd.Ab|apply Kd.zb|apply Kd.Pb));exact Kd.Bd (Kd.Gh (p:=⟨ug,4,none⟩) (Kd.Gh (p:=⟨ug,3,none⟩) (Kd.Gh (p:=⟨ug,2,none⟩) (Kd.Gh (p:=⟨ug,1,none⟩) (Kd.Gh (p:=⟨ug,0,none⟩) (Kd.Nq fj.out Ag.out (by decide)) (fun _ hk=>hk.2) (.slice Lk ((Ea Aa a2).f0).length Fk)) (fun _ hk=>hk.2) (.int .i64 ((Ea Aa a2).f1))) (fun _ hk=>hk.2) (.int .i64 ((Ea Aa a2).f2))) (fun _ hk=>hk.2) (.int .i64 ((Ea Aa a2).f3))) (fun _ hk=>hk.2) (.int .i64 ((Ea Aa a2).f4))) (fun _ hk=>trivial),by repeat (first|(with_reducible first|exact HB.out|apply qa|apply ja|apply ta|refine ua ?_ Ta.out|refine ua ?_ cQ.out)|exact HB.out)⟩
     ·rw [if_neg c8] at H;have Uq:(((Ea Aa a2).f1) == 0)=false:=beq_eq_false_iff_ne.mpr c8;have CJ:(((Ea Aa a2).f1) != 0)=true:=bne_iff_ne.mpr c8
      by_cases Qp:0 ≤ ((Ea Aa a2).f2)
      ·rw [if_pos Qp] at H;have Dp:decide (0 ≤ ((Ea Aa a2).f2))=true:=decide_eq_true Qp;clear Qp
       by_cases Pp:((Ea Aa a2).f2) < (Wd.length:Int)
       ·rw [if_pos Pp] at H;have qo:decide (((Ea Aa a2).f2) < (Wd.length:Int))=true:=decide_eq_true Pp;clear Pp;obtain ⟨lp,Ln⟩:∃ y_:List Bool,y_=(Wd.set (((Ea Aa a2).f2):Int).toNat true):=⟨_,rfl⟩;replace H:(some lp)=some r:=by first|(rw [Ln];with_reducible exact H)|(have Md:=(Option.bind_some _ _).symm.trans H;rw [Ln];with_reducible exact Md)|(have Md:=(Option.bind_some _ _).symm.trans H;with_reducible exact Md)|with_reducible exact H|(rw [Ln];exact H)|exact H
        have YE:=ga.mk Ln;clear Ln;obtain rfl:=Option.some.inj H;go_enter Try.func81,Try.ntmps81;go_wp2_with (first|((with_reducible refine qb (N:=3) rfl ?_);refine Gb ?hg (N:=3) ?hd (cs:=#[.slice Xa Ra.length Ya,.int .i64 La,.int .i64 Ja,.int .i64 Ma,.slice Mb Aa.length Fb]) (t:=30) ?hr ?_;(case hd=>rfl);(case hg=>rfl);(case hr=>first|(go_simp;done)|(go_simp;rfl));intro ya hg w20 Ob hb;have yb:=ga.mk (Qa (by repeat (first|(with_reducible first|exact HB.out|apply qa|apply ja|apply ta)|exact HB.out)) hb);have Ib:=ga.mk (Ob);have Nb:=ga.mk ((by rw [hg];exact (Ia (by repeat (first|(with_reducible first|exact HB.out|apply qa|apply ja|apply ta)|exact HB.out))):w.heap.size ≤ ya));have Dc:=ga.mk ((by rw [hg];exact (Ia (by repeat (first|(with_reducible first|exact HB.out|apply qa|apply ja|apply ta)|exact HB.out))):w.heap.size ≤ ya));clear HB;have HB:=yb;have oa:=Ib;have Nd:=Nb;have Ta:=Dc;clear yb Ib Nb Dc hb Ob hg)|((with_reducible refine qb (N:=9) rfl ?_);refine Kd.ej Kd.bool _ 4 ?hg (N:=9) ?hd (xs:=([]:List Bool)) (inner:=[]) (ok:=fun _=>True) (Tg:=fun _=>True) ?hr ?hp (fun _ hk=>hk) trivial (Below.refl _ _) (Nat.le_refl _) (by simp) ?_;(case hd=>rfl);(case hg=>rfl);(case hr=>first|(go_simp;done)|(go_simp;rfl));(case hp=>exact (xd.none _ _));intro En Xn TS hb Al He;clear Al He;(first|rw [← Ch.out] at TS|(simp only [Int.reduceToNat] at TS;rw [← Ch.out] at TS));have yb:=ga.mk (Kd.we TS (Ia (by repeat (first|(with_reducible first|exact HB.out|apply qa|apply ja|apply ta|refine ua ?_ Ta.out)|exact HB.out))));have Ib:=ga.mk (Va (g:=ya) (o:=.cells #[.slice Xa Ra.length Ya,.int .i64 La,.int .i64 Ja,.int .i64 Ma,.slice Mb Aa.length Fb] 30 (0,0)) (by (with_reducible repeat (first|refine Ba ?_ _|refine Fa ?_|refine Ca ?_ _));exact oa.out) hb);have Nb:=ga.mk (Qa (by repeat (first|(with_reducible first|exact HB.out|apply qa|apply ja|apply ta|refine ua ?_ Ta.out)|exact HB.out)) hb);clear oa HB;have mg:=yb;have oa:=Ib;have HB:=Nb;clear yb Ib Nb hb TS;have Ao:0 ≤ (a2:Int):=Ua;have yo:a2 < (l1.length:Int):=Ua;obtain ⟨Jm,Mk,Gk,tD,Dh,Aj,Bj⟩:=Vq gx.out a2 Ao yo;cases tD;replace Dh:=Sa HB.out Dh;have Zo:=ga.mk Bj;have ow:=ga.mk Aj;clear Bj Aj;replace Ao:=eq_true Ao;replace yo:=eq_true yo)|((with_reducible refine Ld (b:=.append) (xs:=#[.tmp 9,.tmp 13]) rfl ?_);at_builtin;refine Kd.mj Kd.bool (w0:=w) w.heap.size rfl (.tmp 9) (.tmp 13) 60 4 (.bool false) 1 rfl Try.underlying60 Ew rfl (by decide) (by omega) En ld (Pd l1 a2) _ _ _ (fun _=>True) (fun _=>False) rfl rfl ?aO ?aR (fun _ _ h=>h) (fun _ h=>h.elim) ?aF ?aB ?aS ?aL ?_;(case aR=>repeat (first|exact (Kd.Jb Zo.out HB.out)|(with_reducible refine Kd.Rb ?_ _)|(with_reducible refine Kd.Qb ?_ _)|(with_reducible refine Kd.Yb ?_)));(case aB=>exact (by repeat (first|(with_reducible first|exact HB.out|apply qa|apply ja|apply ta|refine ua ?_ Ta.out)|exact HB.out)));(case aF=>exact (fun _ _=>trivial));(case aO=>exact (by (with_reducible repeat (first|apply Kd.Ab|apply Kd.zb|apply Kd.Pb));exact mg.out));(case aS=>exact (Ia (by repeat (first|(with_reducible first|exact HB.out|apply qa|apply ja|apply ta|refine ua ?_ Ta.out)|exact HB.out))));(case aL=>have:=raf.out;omega);intro AR Hr ho hb hg hat;rw [← AP.out] at ho;have yb:=ga.mk (td (g:=ya) (o:=.cells #[.slice Xa Ra.length Ya,.int .i64 La,.int .i64 Ja,.int .i64 Ma,.slice Mb Aa.length Fb] 30 (0,0)) (by (with_reducible repeat (first|refine Ba ?_ _|refine Fa ?_|refine Ca ?_ _));exact oa.out) hg (Kd.Bl mg.out oa.out (by decide)));have Ib:=ga.mk (hb);have Nb:=ga.mk (ho);clear oa HB mg;have oa:=yb;have HB:=Ib;have fj:=Nb;clear yb Ib Nb ho hb hg hat;have Vs:Hr.cell? ⟨ya,0,none⟩=some (.slice Xa Ra.length Ya):=(ia oa.out 0).trans rfl;have Us:Hr.cell? ⟨ya,1,none⟩=some (.int .i64 La):=(ia oa.out 1).trans rfl;have Ts:Hr.cell? ⟨ya,2,none⟩=some (.int .i64 Ja):=(ia oa.out 2).trans rfl;have Ss:Hr.cell? ⟨ya,3,none⟩=some (.int .i64 Ma):=(ia oa.out 3).trans rfl;have Rs:Hr.cell? ⟨ya,4,none⟩=some (.slice Mb Aa.length Fb):=(ia oa.out 4).trans rfl;have Bs:=aa oa.out 0;have js:=aa oa.out 1;have Zr:=aa oa.out 2;have Yr:=aa oa.out 3;have Xr:=aa oa.out 4;have zo:0 ≤ (a2:Int):=Ua;have xo:a2 < (Aa.length:Int):=Ua;obtain ⟨Ig,Lk,Fk,sD,ri,yj,xj,wj,uj,Nh,Oh⟩:=Vi wg.out a2 zo xo;cases sD;replace ri:=Sa HB.out ri;replace yj:=Sa HB.out yj;replace xj:=Sa HB.out xj;replace wj:=Sa HB.out wj;replace uj:=Sa HB.out uj;have Em:=ga.mk Oh;have nw:=ga.mk Nh;clear Oh Nh;replace zo:=eq_true zo;replace xo:=eq_true xo)|((with_reducible refine qb (N:=8) rfl ?_);refine Gb ?hg (N:=8) ?hd (cs:=#[.slice none 0 0,.int .i64 0,.int .i64 0,.int .i64 0,.int .i64 0]) (t:=59) ?hr ?_;(case hd=>rfl);(case hg=>rfl);(case hr=>first|(go_simp;done)|(go_simp;rfl));intro ug hg qx Ob hb;have yb:=ga.mk (Kd.pg (by (with_reducible repeat (first|apply Kd.Ab|apply Kd.zb|apply Kd.Pb));exact fj.out) hb);have Ib:=ga.mk (Va (g:=ya) (o:=.cells #[.slice Xa Ra.length Ya,.int .i64 La,.int .i64 Ja,.int .i64 Ma,.slice (some Ig) Aa.length Fb] 30 (0,0)) (by (with_reducible repeat (first|refine Ba ?_ _|refine Fa ?_|refine Ca ?_ _));exact oa.out) hb);have Nb:=ga.mk (Qa (by repeat (first|(with_reducible first|exact HB.out|apply qa|apply ja|apply ta|refine ua ?_ Ta.out)|exact HB.out)) hb);have Dc:=ga.mk (Ob);have Vf:=ga.mk ((by rw [hg];exact (Ia (by repeat (first|(with_reducible first|exact HB.out|apply qa|apply ja|apply ta|refine ua ?_ Ta.out)|exact HB.out))):w.heap.size ≤ ug));have Kg:=ga.mk ((by rw [hg];exact (Ia (by repeat (first|(with_reducible first|exact HB.out|apply qa|apply ja|apply ta|refine ua ?_ Ta.out)|exact HB.out))):w.heap.size ≤ ug));have Rg:=ga.mk ((by rw [hg];exact Nat.ne_of_lt (Ec (g:=ya) (o:=.cells #[.slice Xa Ra.length Ya,.int .i64 La,.int .i64 Ja,.int .i64 Ma,.slice (some Ig) Aa.length Fb] 30 (0,0)) (by (with_reducible repeat (first|refine Ba ?_ _|refine Fa ?_|refine Ca ?_ _));exact oa.out)):ya ≠ ug));have LI:=ga.mk ((by rw [hg];exact Nat.ne_of_gt (Ec (g:=ya) (o:=.cells #[.slice Xa Ra.length Ya,.int .i64 La,.int .i64 Ja,.int .i64 Ma,.slice (some Ig) Aa.length Fb] 30 (0,0)) (by (with_reducible repeat (first|refine Ba ?_ _|refine Fa ?_|refine Ca ?_ _));exact oa.out)):ug ≠ ya));clear fj oa HB;have fj:=yb;have oa:=Ib;have HB:=Nb;have Ag:=Dc;have Sag:=Vf;have cQ:=Kg;have zl:=Rg;have AA:=LI;clear yb Ib Nb Dc Vf Kg Rg LI hb Ob hg;have Aaa:=AA.out;have oaa:=zl.out;have Fv:qx.cell? ⟨ug,0,none⟩=some (.slice none 0 0):=(ia Ag.out 0).trans rfl;have Dv:qx.cell? ⟨ug,1,none⟩=some (.int .i64 0):=(ia Ag.out 1).trans rfl;have Cv:qx.cell? ⟨ug,2,none⟩=some (.int .i64 0):=(ia Ag.out 2).trans rfl;have Bv:qx.cell? ⟨ug,3,none⟩=some (.int .i64 0):=(ia Ag.out 3).trans rfl;have Av:qx.cell? ⟨ug,4,none⟩=some (.int .i64 0):=(ia Ag.out 4).trans rfl;have Ru:=aa Ag.out 0;have Qu:=aa Ag.out 1;have Pu:=aa Ag.out 2;have Ou:=aa Ag.out 3;have Nu:=aa Ag.out 4)|((with_reducible refine Df (t:=59) (p:=8) rfl ?_);refine Oe (t:=59) (p:=8) (v:=?V3) (w1:=(((((qx.setCell ⟨ug,0,none⟩ (.slice Lk ((Ea Aa a2).f0).length Fk)).setCell ⟨ug,1,none⟩ (.int .i64 ((Ea Aa a2).f1))).setCell ⟨ug,2,none⟩ (.int .i64 ((Ea Aa a2).f2))).setCell ⟨ug,3,none⟩ (.int .i64 ((Ea Aa a2).f3))).setCell ⟨ug,4,none⟩ (.int .i64 ((Ea Aa a2).f4)))) ?hg ?ho ?hn ?hr ?_;(case ho=>rfl);(case hg=>rfl);(case hn=>rfl);(case hr=>first|(go_simp;done)|(go_simp;rfl));intro Ut hw;have yb:ga (Kd.R Kd.bool 4 Ut w.heap.size (fun _=>True) AR Wd):=⟨(by rw [hw];exact (by (with_reducible repeat (first|apply Kd.Ab|apply Kd.zb|apply Kd.Pb));exact Kd.Bd (Kd.Gh (p:=⟨ug,4,none⟩) (Kd.Gh (p:=⟨ug,3,none⟩) (Kd.Gh (p:=⟨ug,2,none⟩) (Kd.Gh (p:=⟨ug,1,none⟩) (Kd.Gh (p:=⟨ug,0,none⟩) (Kd.Nq fj.out Ag.out (by decide)) (fun _ hk=>hk.2) (.slice Lk ((Ea Aa a2).f0).length Fk)) (fun _ hk=>hk.2) (.int .i64 ((Ea Aa a2).f1))) (fun _ hk=>hk.2) (.int .i64 ((Ea Aa a2).f2))) (fun _ hk=>hk.2) (.int .i64 ((Ea Aa a2).f3))) (fun _ hk=>hk.2) (.int .i64 ((Ea Aa a2).f4))) (fun _ hk=>trivial)))⟩;have Ib:ga (Ut.heap[ya]? = some (.cells #[.slice Xa Ra.length Ya,.int .i64 La,.int .i64 Ja,.int .i64 Ma,.slice (some Ig) Aa.length Fb] 30 (0,0))):=⟨(by rw [hw];exact (by (with_reducible repeat (first|refine Ba ?_ _|refine Fa ?_|refine Ca ?_ _));refine Je ?_ zl.out _;(with_reducible repeat (first|refine Ba ?_ _|refine Fa ?_|refine Ca ?_ _));refine Je ?_ zl.out _;(with_reducible repeat (first|refine Ba ?_ _|refine Fa ?_|refine Ca ?_ _));refine Je ?_ zl.out _;(with_reducible repeat (first|refine Ba ?_ _|refine Fa ?_|refine Ca ?_ _));refine Je ?_ zl.out _;(with_reducible repeat (first|refine Ba ?_ _|refine Fa ?_|refine Ca ?_ _));refine Je ?_ zl.out _;(with_reducible repeat (first|refine Ba ?_ _|refine Fa ?_|refine Ca ?_ _));exact oa.out))⟩;have Nb:ga (Ut.heap[ug]? = some (.cells #[.slice Lk ((Ea Aa a2).f0).length Fk,.int .i64 ((Ea Aa a2).f1),.int .i64 ((Ea Aa a2).f2),.int .i64 ((Ea Aa a2).f3),.int .i64 ((Ea Aa a2).f4)] 59 (0,0))):=⟨(by rw [hw];exact (by (with_reducible repeat (first|refine Ba ?_ _|refine Fa ?_|refine Ca ?_ _));refine Ie (cs:=#[.slice Lk ((Ea Aa a2).f0).length Fk,.int .i64 ((Ea Aa a2).f1),.int .i64 ((Ea Aa a2).f2),.int .i64 ((Ea Aa a2).f3),.int .i64 0]) ?_ 4 _ rfl;(with_reducible repeat (first|refine Ba ?_ _|refine Fa ?_|refine Ca ?_ _));refine Ie (cs:=#[.slice Lk ((Ea Aa a2).f0).length Fk,.int .i64 ((Ea Aa a2).f1),.int .i64 ((Ea Aa a2).f2),.int .i64 0,.int .i64 0]) ?_ 3 _ rfl;(with_reducible repeat (first|refine Ba ?_ _|refine Fa ?_|refine Ca ?_ _));refine Ie (cs:=#[.slice Lk ((Ea Aa a2).f0).length Fk,.int .i64 ((Ea Aa a2).f1),.int .i64 0,.int .i64 0,.int .i64 0]) ?_ 2 _ rfl;(with_reducible repeat (first|refine Ba ?_ _|refine Fa ?_|refine Ca ?_ _));refine Ie (cs:=#[.slice Lk ((Ea Aa a2).f0).length Fk,.int .i64 0,.int .i64 0,.int .i64 0,.int .i64 0]) ?_ 1 _ rfl;(with_reducible repeat (first|refine Ba ?_ _|refine Fa ?_|refine Ca ?_ _));refine Ie (cs:=#[.slice none 0 0,.int .i64 0,.int .i64 0,.int .i64 0,.int .i64 0]) ?_ 0 _ rfl;(with_reducible repeat (first|refine Ba ?_ _|refine Fa ?_|refine Ca ?_ _));exact Ag.out))⟩;have Dc:ga (Below w.heap.size w Ut):=⟨(by rw [hw];exact (by repeat (first|(with_reducible first|exact HB.out|apply qa|apply ja|apply ta|refine ua ?_ Ta.out|refine ua ?_ cQ.out)|exact HB.out)))⟩;clear hw fj oa Ag HB;have fj:=yb;have oa:=Ib;have Ag:=Nb;have HB:=Dc;clear yb Ib Nb Dc;have XB:Ut.cell? ⟨ug,0,none⟩=some (.slice Lk ((Ea Aa a2).f0).length Fk):=(ia Ag.out 0).trans rfl;have WB:Ut.cell? ⟨ug,1,none⟩=some (.int .i64 ((Ea Aa a2).f1)):=(ia Ag.out 1).trans rfl;have VB:Ut.cell? ⟨ug,2,none⟩=some (.int .i64 ((Ea Aa a2).f2)):=(ia Ag.out 2).trans rfl;have UB:Ut.cell? ⟨ug,3,none⟩=some (.int .i64 ((Ea Aa a2).f3)):=(ia Ag.out 3).trans rfl;have TB:Ut.cell? ⟨ug,4,none⟩=some (.int .i64 ((Ea Aa a2).f4)):=(ia Ag.out 4).trans rfl;have xB:=aa Ag.out 0;have wB:=aa Ag.out 1;have vB:=aa Ag.out 2;have uB:=aa Ag.out 3;have tB:=aa Ag.out 4;have p19:0 ≤ (((Ea Aa a2).f2):Int):=Ua;have q19:(((Ea Aa a2).f2):Int) < ((Wd.length:Int):Int):=Ua;obtain ⟨G6,Bar,iae,aae,Waq,saz,Eag⟩:=Kd.Cm fj.out (by omega);(first|cases iae|(injection iae with Zk ZA bB;(first|subst Zk|(injection Zk with Zk;subst Zk));subst bB;clear ZA));have Gas:=ga.mk aae;have yaA:=ga.mk Eag;clear aae Waq Eag;obtain ⟨nap,zaq⟩:=Kd.zk false fj.out (((Ea Aa a2).f2):Int) p19 q19;replace p19:=eq_true p19;replace q19:=eq_true q19;obtain ⟨uat,oat⟩:=Kd.zk false fj.out (((Ea Aa a2).f2):Int) (Ua) (Ua);have V8:=Kd.Hp fj.out (((Ea Aa a2).f2):Int) true)|((with_reducible refine Df (t:=4) (p:=26) rfl ?_);refine Oe (t:=4) (p:=26) (v:=?Dao) (w1:=(Ut.setCell ⟨G6,(((Ea Aa a2).f2):Int).toNat,none⟩ (.bool true))) ?hg ?ho ?hn ?hr ?_;(case ho=>rfl);(case hg=>rfl);(case hn=>rfl);(case hr=>first|(go_simp;done)|(go_simp;rfl));intro kI hw;have hg:Ut.grownBy kI (some G6):=(by rw [hw];exact V8.2);have Mn:Kd.R Kd.bool 4 kI w.heap.size (fun _=>True) (.slice (some ⟨G6,0,none⟩) Wd.length Bar) lp:=(by rw [hw,YE.out];exact V8.1);clear V8;have yb:=ga.mk (td (g:=ya) (o:=.cells #[.slice Xa Ra.length Ya,.int .i64 La,.int .i64 Ja,.int .i64 Ma,.slice (some Ig) Aa.length Fb] 30 (0,0)) (by (with_reducible repeat (first|refine Ba ?_ _|refine Fa ?_|refine Ca ?_ _));exact oa.out) hg (Kd.Bl fj.out oa.out (by decide)));have Ib:=ga.mk (Mn);have Nb:=ga.mk (td (g:=ug) (o:=.cells #[.slice Lk ((Ea Aa a2).f0).length Fk,.int .i64 ((Ea Aa a2).f1),.int .i64 ((Ea Aa a2).f2),.int .i64 ((Ea Aa a2).f3),.int .i64 ((Ea Aa a2).f4)] 59 (0,0)) (by (with_reducible repeat (first|refine Ba ?_ _|refine Fa ?_|refine Ca ?_ _));exact Ag.out) hg (Kd.Bl fj.out Ag.out (by decide)));have Dc:=ga.mk ((by rw [hw];exact ua (HB.out) Gas.out:Below w.heap.size w kI));clear oa fj Ag HB;have oa:=yb;have fj:=Ib;have Ag:=Nb;have HB:=Dc;clear yb Ib Nb Dc hg hw Mn));go_ret;exact ⟨_,by first|rfl|(simp [Oa,Na] <;> rfl)|(simp [*,Oa,Na] <;> rfl),by (with_reducible repeat (first|apply Kd.Ab|apply Kd.zb|apply Kd.Pb));exact fj.out,by repeat (first|(with_reducible first|exact HB.out|apply qa|apply ja|apply ta|refine ua ?_ Ta.out|refine ua ?_ cQ.out)|exact HB.out)⟩
       ·rw [if_neg Pp] at H;exact absurd H (by simp)
      ·rw [if_neg Qp] at H;exact absurd H (by simp)
    ·rw [if_neg c7] at H;exact absurd H (by simp)
   ·rw [if_neg c6] at H;exact absurd H (by simp)
  ·rw [if_neg c5] at H;exact absurd H (by simp)
 ·rw [if_neg c4] at H;exact absurd H (by simp)
end Go.Proofs.Ytkigbdceceeenaa.P
end
