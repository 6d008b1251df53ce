import Derived.Test.YtkigbdceceeenaaQColors1
import Derived.Test.YtkigbdceceeenaaQColors7
import Derived.Shelf.Abstract
import Derived.Test.YtkigbdceceeenaaQColors3
import Derived.Test.YtkigbdceceeenaaQColors2
import Derived.Test.YtkigbdceceeenaaQColors4
set_option maxHeartbeats 8000000
set_option maxRecDepth 100000
section
namespace Go.Proofs.Ytkigbdceceeenaa.P
open Go.RowKit Go.Proofs.Ma.Tb Go.Proofs.Ma.Gd Go.Proofs.Ma.De
set_option linter.unusedVariables false
set_option linter.unusedSimpArgs false
def Hg (x:He):List Int :=
 if x.f0=1 ∨ x.f0=6 then [x.f2] else if x.f0=2 then [x.f2,x.f3] else if x.f0=3 ∨ x.f0=4 then [x.f3] ++ (if 0 ≤ x.f2 then [x.f2] else []) ++ (if x.f0=4 then [x.f4] else []) else []
def Am (x:He):Int:=if x.f0=4 then -1 else if x.f0=6 then -1 else x.f1
def Ys (n:Nat) (x:He):Prop:=(∀ u ∈ Hg x,0 ≤ u∧u < (n:Int))∧(¬ x.f0=4→¬ x.f0=6→0 ≤ x.f1∧x.f1 < (n:Int))
theorem Xs (x:He):(Hg x).length ≤ 3:=by
 unfold Hg
 by_cases h1:x.f0=1 ∨ x.f0=6
 ·rw [if_pos h1];simp
 ·rw [if_neg h1]
  by_cases h2:x.f0=2
  ·rw [if_pos h2];simp
  ·rw [if_neg h2]
   by_cases h3:x.f0=3 ∨ x.f0=4
   ·rw [if_pos h3]
    by_cases h4:0 ≤ x.f2
    ·rw [if_pos h4]
     by_cases h5:x.f0=4
     ·rw [if_pos h5];simp
     ·rw [if_neg h5];simp
    ·rw [if_neg h4]
     by_cases h5:x.f0=4
     ·rw [if_pos h5];simp
     ·rw [if_neg h5];simp
   ·rw [if_neg h3];simp
def Mg (s:List Bool) (u:Int):List Bool:=s.set u.toNat true
def Zn (s:List Bool) (x:He):List Bool:=(Hg x).foldl Mg (if Am x ≥ 0 then s.set (Am x).toNat false else s)
def Ph (b:Je) (s:List Bool):List Bool:=if b.f1=0 then s else s.set b.f2.toNat true
def oD (b:Je) (s:List Bool):List Bool:=b.f0.foldr (fun x s=>Zn s x) (Ph b s)
theorem di:∀ (l:List Int) (s:List Bool),(l.foldl Mg s).length=s.length
 | [],_=>rfl
 | u :: l,s=>by rw [List.foldl_cons,di l];unfold Mg;rw [List.length_set]
theorem nV (s:List Bool) (x:He):(Zn s x).length=s.length:=by
 unfold Zn;rw [di]
 by_cases h:Am x ≥ 0
 ·rw [if_pos h,List.length_set]
 ·rw [if_neg h]
theorem Sl (b:Je) (s:List Bool):(Ph b s).length=s.length:=by
 unfold Ph
 by_cases h:b.f1=0
 ·rw [if_pos h]
 ·rw [if_neg h,List.length_set]
theorem SC (l:List He) (s:List Bool):(l.foldr (fun x s=>Zn s x) s).length=s.length:=by
 induction l with
 | nil=>rfl
 | cons x l ih=>rw [List.foldr_cons,nV,ih]
theorem Jr (b:Je) (s:List Bool):(oD b s).length=s.length:=by
 unfold oD;rw [SC,Sl]
theorem Ji {s:List Bool} {i j:Nat} {b:Bool} (hi:i < s.length):seen (s.set i b) j=if i=j then b else seen s j:=by
 unfold seen;rw [List.getD_eq_getElem?_getD,List.getD_eq_getElem?_getD,List.getElem?_set]
 by_cases h:i=j
 ·rw [if_pos h,if_pos h,if_pos hi];rfl
 ·rw [if_neg h,if_neg h]
def bk1 (u:Nat) (x:He) (b:Bool):Bool:=if (u:Int) ∈ Hg x then true else if Am x=(u:Int) then false else b
def KU (u:Nat) (k:Je) (b:Bool):Bool:=if k.f1=0 then b else if k.f2=(u:Int) then true else b
def CZ (u:Nat) (k:Je) (b:Bool):Bool:=k.f0.foldr (bk1 u) (KU u k b)
theorem sY {u:Nat} {x:He} {a b:Bool} (h:a=true→b=true):bk1 u x a=true→bk1 u x b=true:=by
 unfold bk1
 by_cases h1:(u:Int) ∈ Hg x
 ·rw [if_pos h1,if_pos h1];exact id
 ·rw [if_neg h1,if_neg h1]
  by_cases h2:Am x=(u:Int)
  ·rw [if_pos h2,if_pos h2];exact id
  ·rw [if_neg h2,if_neg h2];exact h
theorem dw {u:Nat} {k:Je} {a b:Bool} (h:a=true→b=true):CZ u k a=true→CZ u k b=true:=by
 unfold CZ
 have he:KU u k a=true→KU u k b=true:=by
  unfold KU
  by_cases h1:k.f1=0
  ·rw [if_pos h1,if_pos h1];exact h
  ·rw [if_neg h1,if_neg h1]
   by_cases h2:k.f2=(u:Int)
   ·rw [if_pos h2,if_pos h2];exact id
   ·rw [if_neg h2,if_neg h2];exact h
 induction k.f0 with
 | nil=>exact he
 | cons x l ih=>exact sY ih
theorem Em:∀ (l:List Int) (s:List Bool) (u:Nat),(∀ a ∈ l,0 ≤ a∧a < (s.length:Int))→seen (l.foldl Mg s) u=(decide ((u:Int) ∈ l) || seen s u)
 | [],s,u,_=>by simp
 | a :: l,s,u,h=>by
  obtain ⟨a0,a1⟩:=h a (by simp);rw [List.foldl_cons,Em l (Mg s a) u (fun c hc=>by unfold Mg;rw [List.length_set];exact h c (by simp [hc]))];unfold Mg;rw [Ji (by omega)]
  by_cases e:a.toNat=u
  ·rw [if_pos e,decide_eq_true (show (u:Int) ∈ a :: l from List.mem_cons.2 (Or.inl (by omega)))];simp
  ·rw [if_neg e]
   have:(u:Int) ∈ a :: l ↔ (u:Int) ∈ l:=by
    rw [List.mem_cons];exact ⟨fun h=>h.resolve_left (by omega),Or.inr⟩
   rw [decide_eq_decide.2 this]
theorem PO {s:List Bool} {x:He} {u:Nat} (hx:Ys s.length x):seen (Zn s x) u=bk1 u x (seen s u):=by
 obtain ⟨h1,h2⟩:=hx;unfold Zn bk1
 have hm:Am x ≥ 0→(Am x).toNat < s.length:=by
  unfold Am;intro h
  by_cases h4:x.f0=4
  ·rw [if_pos h4] at h;omega
  ·rw [if_neg h4] at h ⊢
   by_cases h6:x.f0=6
   ·rw [if_pos h6] at h;omega
   ·rw [if_neg h6] at h ⊢;have:=h2 h4 h6;omega
 have hlen:(if Am x ≥ 0 then s.set (Am x).toNat false else s).length=s.length:=by
  by_cases h:Am x ≥ 0
  ·rw [if_pos h,List.length_set]
  ·rw [if_neg h]
 rw [Em _ _ _ (fun a ha=>by rw [hlen];exact h1 a ha)]
 by_cases hu:(u:Int) ∈ Hg x
 ·rw [if_pos hu,decide_eq_true hu];rfl
 ·rw [if_neg hu,decide_eq_false hu,Bool.false_or]
  by_cases h:Am x ≥ 0
  ·rw [if_pos h,Ji (hm h)]
   by_cases e:Am x=(u:Int)
   ·rw [if_pos e,if_pos (by omega)]
   ·rw [if_neg e,if_neg (by omega)]
  ·rw [if_neg h,if_neg (by omega)]
def Dt (n:Nat) (b:Je):Prop:=b.f0.length ≤ 1048576∧(¬ b.f1=0→0 ≤ b.f2∧b.f2 < (n:Int))∧∀ x ∈ b.f0,Ys n x
theorem JU {s:List Bool} {b:Je} {u:Nat} (hb:¬ b.f1=0→0 ≤ b.f2∧b.f2 < (s.length:Int)):seen (Ph b s) u=KU u b (seen s u):=by
 unfold Ph KU
 by_cases h:b.f1=0
 ·rw [if_pos h,if_pos h]
 ·have:=hb h;rw [if_neg h,if_neg h,Ji (by omega)]
  by_cases e:b.f2=(u:Int)
  ·rw [if_pos e,if_pos (by omega)]
  ·rw [if_neg e,if_neg (by omega)]
theorem cw {s:List Bool} {b:Je} {u:Nat} (hb:Dt s.length b):seen (oD b s) u=CZ u b (seen s u):=by
 unfold oD CZ;obtain ⟨_,h2,h3⟩:=hb;have he:=JU (u:=u) h2;have hl:=Sl b s;generalize Ph b s=s0 at he hl;rw [← he];clear he h2;generalize b.f0=cd at h3 ⊢
 induction cd with
 | nil=>rfl
 | cons x l ih =>
  rw [List.foldr_cons,List.foldr_cons,PO (by rw [SC,hl];exact h3 x (by simp)),ih (fun y hy=>h3 y (by simp [hy]))]
inductive LB (bs:List Je) (u:Nat):Nat→Prop
 | gen {i:Nat} {t:Int}:t ∈ Vs bs i→CZ u (za bs t) false=true→LB bs u i
 | step {i:Nat} {t:Int}:t ∈ Vs bs i→CZ u (za bs t) true=true→LB bs u t.toNat→LB bs u i
noncomputable def Gm (bs:List Je) (n i:Nat):List Bool:=open Classical in (List.range n).map fun u=>decide (LB bs u i)
noncomputable def Ye (bs:List Je) (n:Nat):List (List Bool):=(List.range bs.length).map (Gm bs n)
theorem Gj (bs:List Je) (n i:Nat):(Gm bs n i).length=n:=by simp [Gm]
theorem Aj (bs:List Je) (n:Nat):(Ye bs n).length=bs.length:=by simp [Ye]
theorem Kp {bs:List Je} {n i u:Nat} (hu:u < n):seen (Gm bs n i) u=true ↔ LB bs u i:=by simp [seen,Gm,List.getD_eq_getElem?_getD,hu]
def mm (bs:List Je) (n:Nat):Prop:=SB bs∧n ≤ 1048576∧∀ b ∈ bs,Dt n b
def qe (X:List (List Bool)) (i:Nat):List Bool:=X.getD i []
theorem Cp {X:List (List Bool)} {i k:Nat} {x:List Bool} (hi:i < X.length):qe (X.set i x) k=if i=k then x else qe X k:=by
 unfold qe;rw [List.getD_eq_getElem?_getD,List.getD_eq_getElem?_getD,List.getElem?_set]
 by_cases h:i=k
 ·rw [if_pos h,if_pos h,if_pos hi];rfl
 ·rw [if_neg h,if_neg h]
structure DG (bs:List Je) (n:Nat) (X Y:List (List Bool)):Prop where
 xl:X.length=bs.length
 yl:Y.length=bs.length
 xr:∀ i,i < bs.length→(qe X i).length=n
 yr:∀ i,i < bs.length→(qe Y i).length=n
 xs:∀ i u,i < bs.length→seen (qe X i) u=true→LB bs u i
 ys:∀ i u,i < bs.length→seen (qe Y i) u=true→CZ u (za bs (i:Int)) (seen (qe X i) u)=true
section
variable {bs:List Je} {n:Nat} {X Y:List (List Bool)}
theorem DG.or (h:DG bs n X Y) (hE:SB bs) {i s:Nat} {t:Int} (hi:i < bs.length) (ht:t ∈ Vs bs i) (hs:s < n):DG bs n (X.set i ((qe X i).set s (seen (qe X i) s || seen (qe Y t.toNat) s))) Y:=by
 obtain ⟨t0,t1⟩:=hE.2.2 i hi t ht;have hil:i < X.length:=by rw [h.xl];exact hi
 have PW:s < (qe X i).length:=by rw [h.xr i hi];exact hs
 refine ⟨by rw [List.length_set];exact h.xl,h.yl,fun k hk=>?_,h.yr,fun k u hk hu=>?_,fun k u hk hu=>?_⟩
 ·rw [Cp hil]
  by_cases e:i=k
  ·rw [if_pos e,List.length_set];exact h.xr i hi
  ·rw [if_neg e];exact h.xr k hk
 ·rw [Cp hil] at hu
  by_cases e:i=k
  ·subst e;rw [if_pos rfl,Ji PW] at hu
   by_cases e2:s=u
   ·subst e2;rw [if_pos rfl,Bool.or_eq_true] at hu
    rcases hu with hu|hu
    ·exact h.xs i s hk hu
    ·have hy:=h.ys t.toNat s (by omega) hu;rw [Int.toNat_of_nonneg t0] at hy;cases hb:seen (qe X t.toNat) s with
     | false=>rw [hb] at hy;exact LB.gen ht hy
     | true=>rw [hb] at hy;exact LB.step ht hy (h.xs t.toNat s (by omega) hb)
   ·rw [if_neg e2] at hu;exact h.xs i u hk hu
  ·rw [if_neg e] at hu;exact h.xs k u hk hu
 ·have hy:=h.ys k u hk hu;rw [Cp hil]
  by_cases e:i=k
  ·subst e;rw [if_pos rfl,Ji PW]
   by_cases e2:s=u
   ·subst e2;rw [if_pos rfl];exact dw (fun hb=>by rw [hb];rfl) hy
   ·rw [if_neg e2];exact hy
  ·rw [if_neg e];exact hy
theorem DG.put (h:DG bs n X Y) (hO:mm bs n) {i:Nat} (hi:i < bs.length):DG bs n X (Y.set i (oD (za bs (i:Int)) (qe X i))):=by
 have hil:i < Y.length:=by rw [h.yl];exact hi
 have hb:Dt n (za bs (i:Int)):=by rw [Zg hi];exact hO.2.2 _ (List.getElem_mem hi)
 refine ⟨h.xl,by rw [List.length_set];exact h.yl,h.xr,fun k hk=>?_,h.xs,fun k u hk hu=>?_⟩
 ·rw [Cp hil]
  by_cases e:i=k
  ·rw [if_pos e,Jr];exact h.xr i hi
  ·rw [if_neg e];exact h.yr k hk
 ·rw [Cp hil] at hu
  by_cases e:i=k
  ·subst e;rw [if_pos rfl,cw (by rw [h.xr i hi];exact hb)] at hu;exact hu
  ·rw [if_neg e] at hu;exact h.ys k u hk hu
def StE (bs:List Je) (X Y:List (List Bool)) (i:Nat):Prop:=(∀ t ∈ Vs bs i,∀ u,seen (qe Y t.toNat) u=true→seen (qe X i) u=true)∧qe Y i=oD (za bs (i:Int)) (qe X i)
theorem DG.done (h:DG bs n X Y) (hO:mm bs n) (hst:∀ i,i < bs.length→StE bs X Y i):X=Ye bs n:=by
 have hE:=hO.1
 have key:∀ u i,LB bs u i→i < bs.length→seen (qe X i) u=true:=by
  intro u i hl
  have turn:∀ (i:Nat) (t:Int),i < bs.length→t ∈ Vs bs i→CZ u (za bs t) (seen (qe X t.toNat) u)=true→seen (qe X i) u=true:=by
   intro i t hi ht h1;obtain ⟨t0,t1⟩:=hE.2.2 i hi t ht;have htn:t.toNat < bs.length:=by omega
   refine (hst i hi).1 t ht u ?_;rw [(hst t.toNat htn).2,cw (by rw [h.xr _ htn,Zg htn];exact hO.2.2 _ (List.getElem_mem htn)),Int.toNat_of_nonneg t0];exact h1
  induction hl with
  | @gen i t ht h1 =>
   intro hi;exact turn i t hi ht (dw (fun hf=>by cases hf) h1)
  | @step i t ht h1 _ ih =>
   intro hi;obtain ⟨t0,t1⟩:=hE.2.2 i hi t ht;exact turn i t hi ht (dw (fun _=>ih (by omega)) h1)
 apply List.ext_getElem
 ·rw [h.xl,Aj]
 ·intro i h1 h2;have hi:i < bs.length:=by rw [← h.xl];exact h1
  have e1:X[i]=qe X i:=by simp [qe,List.getD_eq_getElem?_getD,h1]
  have e2:(Ye bs n)[i]=Gm bs n i:=by simp [Ye]
  rw [e1,e2];refine Zz (by rw [h.xr i hi,Gj]) (fun u=>?_)
  constructor
  ·intro hu;have hun:u < n:=by have:=Yl hu;rw [h.xr i hi] at this;exact this
   exact (Kp hun).2 (h.xs i u hi hu)
  ·intro hu;have hun:u < n:=by have:=Yl hu;rw [Gj] at this;exact this
   exact key u i ((Kp hun).1 hu) hi
def cnt (s:List Bool):Nat:=s.count true
def Yq (Y:List (List Bool)):Nat:=(Y.map cnt).sum
theorem bG:∀ (Y:List (List Bool)) (i:Nat) (x:List Bool),i < Y.length→Yq (Y.set i x) + cnt (qe Y i)=Yq Y + cnt x
 | [],i,x,h=>by simp at h
 | y :: Y,0,x,_=>by
  simp only [Yq,List.set_cons_zero,List.map_cons,List.sum_cons,qe,List.getD_cons_zero];omega
 | y :: Y,i + 1,x,h=>by
  have ih:=bG Y i x (by simpa using h);simp only [Yq,List.set_cons_succ,List.map_cons,List.sum_cons,qe,List.getD_cons_succ] at ih ⊢;omega
theorem yO:∀ (a b:List Bool),a.length=b.length→(∀ u,seen a u=true→seen b u=true)→cnt a ≤ cnt b∧(a ≠ b→cnt a < cnt b)
 | [],[],_,_=>⟨Nat.le_refl _,fun h=>absurd rfl h⟩
 | [],_ :: _,h,_=>by cases h
 | _ :: _,[],h,_=>by cases h
 | x :: a,y :: b,hl,h=>by
  obtain ⟨h1,h2⟩:=yO a b (by simpa using hl) (fun u hu=>h (u + 1) hu);have h0:x=true→y=true:=h 0;unfold cnt at h1 h2 ⊢;rw [List.count_cons,List.count_cons];cases x with
  | false =>
   cases y with
   | false=>exact ⟨by simpa using h1,fun hne=>by have:=h2 (fun e=>hne (by rw [e]));simpa using this⟩
   | true=>exact ⟨by simp;omega,fun _=>by simp;omega⟩
  | true =>
   have hy:=h0 rfl;subst hy;exact ⟨by simpa using h1,fun hne=>by have:=h2 (fun e=>hne (by rw [e]));simpa using this⟩
theorem X5 (a:List Bool):cnt a ≤ a.length:=List.count_le_length
theorem tK {m:Nat}:∀ (Y:List (List Bool)),(∀ i,i < Y.length→(qe Y i).length ≤ m)→Yq Y ≤ m * Y.length
 | [],_=>by simp [Yq]
 | y :: Y,h=>by
  have h1:=tK Y (fun i hi=>h (i + 1) (by simpa using hi));have h2:=h 0 (by simp);have h3:=X5 y;have h4:(qe (y :: Y) 0)=y:=rfl;rw [h4] at h2;simp only [Yq,List.map_cons,List.sum_cons,List.length_cons,Nat.mul_succ] at h1 ⊢;omega
theorem DG.grow (h:DG bs n X Y) (hO:mm bs n) {i:Nat} (hi:i < bs.length) (hne:oD (za bs (i:Int)) (qe X i) ≠ qe Y i):Yq Y < Yq (Y.set i (oD (za bs (i:Int)) (qe X i))):=by
 have hb:Dt n (za bs (i:Int)):=by rw [Zg hi];exact hO.2.2 _ (List.getElem_mem hi)
 have h1:=bG Y i (oD (za bs (i:Int)) (qe X i)) (by rw [h.yl];exact hi)
 have h2:=(yO (qe Y i) (oD (za bs (i:Int)) (qe X i)) (by rw [Jr,h.xr i hi,h.yr i hi]) (fun u hu=>by
  rw [cw (by rw [h.xr i hi];exact hb)]
  exact h.ys i u hi hu)).2 (fun e=>hne e.symm)
 omega
theorem DG.start (bs:List Je) (n:Nat):DG bs n (List.replicate bs.length (List.replicate n false)) (List.replicate bs.length (List.replicate n false)):=by
 have hr:∀ i,i < bs.length→qe (List.replicate bs.length (List.replicate n false)) i=List.replicate n false:=fun i hi=>by
  unfold qe;rw [List.getD_eq_getElem?_getD,List.getElem?_replicate,if_pos hi];rfl
 refine ⟨by simp,by simp,fun i hi=>by rw [hr i hi];simp,fun i hi=>by rw [hr i hi];simp,fun i u hi hu=>?_,fun i u hi hu=>?_⟩
 ·rw [hr i hi,Iw] at hu;cases hu
 ·rw [hr i hi,Iw] at hu;cases hu
end
end Go.Proofs.Ytkigbdceceeenaa.P
end
section
namespace Go.Proofs.Ytkigbdceceeenaa.P
open Go.RowKit Go.Proofs.Ma.Tb Go.Proofs.Ma.Gd Go.Proofs.Ma.De
set_option linter.unusedVariables false
set_option linter.unusedSimpArgs false
def UG (w:World) (N:Nat):World:={ w with heap:=w.heap.extract 0 N }
theorem Gl {w:World} {N:Nat} (h:N ≤ w.heap.size):(UG w N).heap.size=N:=by
 unfold UG;simp;omega
theorem Bz {w:World} {N:Nat} (h:N ≤ w.heap.size):Below (UG w N).heap.size (UG w N) w:=by
 refine ⟨rfl,rfl,rfl,by rw [Gl h];exact h,fun k hk=>?_⟩;rw [Gl h] at hk
 show w.heap[k]? = (w.heap.extract 0 N)[k]?
 rw [Array.getElem?_extract];simp;omega
section
variable {St:Type} (f:St→He→List Bool→St)
def Vq:List He→List Bool→St→St
 | [],_,st=>st
 | x :: r,s,st=>Vq r (Zn s x) (f st x s)
theorem aG {code:List He} {q:Nat} (h:q < code.length) (s:List Bool) (st:St):Vq f (code.take (q + 1)).reverse s st=Vq f (code.take q).reverse (Zn s (Ea code (q:Int))) (f st (Ea code (q:Int)) s):=by
 rw [List.take_succ_eq_append_getElem h,List.reverse_append,sk h]
 rfl
def Xy (bs:List Je) (X:List (List Bool)) (st:St) (i:Nat):St:=Vq f (za bs (i:Int)).f0.reverse (Ph (za bs (i:Int)) (qe X i)) st
def dh (bs:List Je) (X:List (List Bool)) (i:Nat) (st:St):St:=((List.range bs.length).drop i).foldl (Xy f bs X) st
theorem Qo {bs:List Je} {X:List (List Bool)} {i:Nat} (h:i < bs.length) (st:St):dh f bs X i st=dh f bs X (i + 1) (Xy f bs X st i):=by
 unfold dh;rw [List.drop_eq_getElem_cons (by rw [List.length_range];exact h),List.foldl_cons,List.getElem_range]
theorem wq (bs:List Je) (X:List (List Bool)) (st:St):dh f bs X bs.length st=st:=by
 unfold dh;rw [List.drop_eq_nil_of_le (by rw [List.length_range];exact Nat.le_refl _)]
 rfl
end
def I7 (S:Nat→Prop) (w:World) (k:Nat):Prop:=S k ∨ w.heap.size ≤ k
structure GV (S:Nat→Prop) (w:World) (o:Obj) (wr:World):Prop where
 k:Kept w wr (I7 S w)
 b:Below 0 w wr
 hx:wr.heap[w.heap.size]? = some o
section
variable {S:Nat→Prop} {w wr W:World} {o:Obj}
theorem ir {B:Nat} (h:Below B wr W):Below 0 wr W:=⟨h.os,h.tape,h.output,h.size,fun k hk=>by omega⟩
theorem GV.below (h:GV S w o wr) (hb:Below wr.heap.size wr W):GV S w o W:=⟨h.k.below hb,h.b.trans (ir hb),Va h.hx hb⟩
theorem GV.kept (h:GV S w o wr) (hS:∀ k,S k→k < w.heap.size) (hk:Kept wr W S) (hb:Below 0 wr W):GV S w o W :=
 ⟨h.k.Wo hk (fun _ h2=>Or.inl (Or.inl h2)),h.b.trans hb,Ve h.hx hk (fun e=>by have:=hS _ e;omega)⟩
theorem GV.le (h:GV S w o wr):w.heap.size < wr.heap.size:=Nc h.hx
end
end Go.Proofs.Ytkigbdceceeenaa.P
end
section
namespace Go.Proofs.Ytkigbdceceeenaa.P
open Go.RowKit Go.Proofs.Ma.Tb Go.Proofs.Ma.Gd Go.Proofs.Ma.De
set_option linter.unusedVariables false
set_option linter.unusedSimpArgs false
attribute [local go_sem] Rh si wj Nj qh oh zi ri
def th.f (Kb:Int) (Ja:Int) (Ga:Int) (Ia:Int) (Db:Int) (Bc:Int) (tc:ByteArray):Option (Int):=if Kb=4 then (some (-1)) else (if Kb=6 then (some (-1)) else (some Ja))
theorem th.calls (Kb:Int) (Ja:Int) (Ga:Int) (Ia:Int) (Db:Int) (Bc:Int) (tc:ByteArray) (r:Int) (w:World) (h:th.f Kb Ja Ga Ia Db Bc tc=some r) :
  Calls Try.prog 87 #[.agg #[.int .i64 Kb,.int .i64 Ja,.int .i64 Ga,.int .i64 Ia,.int .i64 Db,.int .i64 Bc,.string tc]] w fun e w'=>e = .returned (.int .i64 r)∧Below w.heap.size w w':=by
 have MA:=Try.underlying65;have HB:=ga.mk (Below.refl w.heap.size w);have H:(if Kb=4 then (some (-1)) else (if Kb=6 then (some (-1)) else (some Ja)))=some r:=h;clear h
 by_cases c2:Kb=4
 ·rw [if_pos c2] at H;have vt:(Kb == 4)=true:=beq_iff_eq.mpr c2;have xw:(Kb != 4)=false:=bne_eq_false_iff_eq.mpr c2;clear c2;obtain rfl:=Option.some.inj H;go_enter Try.func87,Try.ntmps87;go_wp2_with (first|((with_reducible refine Ab (N:=1) rfl ?_);refine Lb ?hg (N:=1) ?hd (cs:=#[.int .i64 Kb,.int .i64 Ja,.int .i64 Ga,.int .i64 Ia,.int .i64 Db,.int .i64 Bc,.string tc]) (t:=65) ?hr ?_;(case hd=>rfl);(case hg=>rfl);(case hr=>first|(go_simp;done)|(go_simp;rfl));intro ya hg w3 Sb hb;have Eb:=ga.mk (Ra uaH hb);have Fb:=ga.mk (Sb);have Ob:=ga.mk ((by rw [hg];exact (La uaH):w.heap.size ≤ ya));have Ec:=ga.mk ((by rw [hg];exact (La uaH):w.heap.size ≤ ya));clear HB;have HB:=Eb;have oa:=Fb;have Vd:=Ob;have Ta:=Ec;clear Eb Fb Ob Ec hb Sb hg;have MC:w3.cell? ⟨ya,0,none⟩=some (.int .i64 Kb):=(ia oa.out 0).trans rfl;have LC:w3.cell? ⟨ya,1,none⟩=some (.int .i64 Ja):=(ia oa.out 1).trans rfl;have KC:w3.cell? ⟨ya,2,none⟩=some (.int .i64 Ga):=(ia oa.out 2).trans rfl;have JC:w3.cell? ⟨ya,3,none⟩=some (.int .i64 Ia):=(ia oa.out 3).trans rfl;have IC:w3.cell? ⟨ya,4,none⟩=some (.int .i64 Db):=(ia oa.out 4).trans rfl;have BJ:w3.cell? ⟨ya,5,none⟩=some (.int .i64 Bc):=(ia oa.out 5).trans rfl;have AJ:w3.cell? ⟨ya,6,none⟩=some (.string tc):=(ia oa.out 6).trans rfl;have yC:=aa oa.out 0;have xC:=aa oa.out 1;have wC:=aa oa.out 2;have vC:=aa oa.out 3;have uC:=aa oa.out 4;have LI:=aa oa.out 5;have KI:=aa oa.out 6));go_ret;exact ⟨by first|rfl|(simp [Pa,Oa] <;> rfl)|(simp [*,Pa,Oa] <;> rfl),xaH⟩
 ·rw [if_neg c2] at H;have vt:(Kb == 4)=false:=beq_eq_false_iff_ne.mpr c2;have xw:(Kb != 4)=true:=bne_iff_ne.mpr c2
  by_cases c5:Kb=6
  ·rw [if_pos c5] at H;have fk:(Kb == 6)=true:=beq_iff_eq.mpr c5;have Dz:(Kb != 6)=false:=bne_eq_false_iff_eq.mpr c5;clear c5;obtain rfl:=Option.some.inj H;go_enter Try.func87,Try.ntmps87;go_wp2_with (first|((with_reducible refine Ab (N:=1) rfl ?_);refine Lb ?hg (N:=1) ?hd (cs:=#[.int .i64 Kb,.int .i64 Ja,.int .i64 Ga,.int .i64 Ia,.int .i64 Db,.int .i64 Bc,.string tc]) (t:=65) ?hr ?_;(case hd=>rfl);(case hg=>rfl);(case hr=>first|(go_simp;done)|(go_simp;rfl));intro ya hg w6 Sb hb;have Eb:=ga.mk (Ra uaH hb);have Fb:=ga.mk (Sb);have Ob:=ga.mk ((by rw [hg];exact (La uaH):w.heap.size ≤ ya));have Ec:=ga.mk ((by rw [hg];exact (La uaH):w.heap.size ≤ ya));clear HB;have HB:=Eb;have oa:=Fb;have Vd:=Ob;have Ta:=Ec;clear Eb Fb Ob Ec hb Sb hg;have Hu:w6.cell? ⟨ya,0,none⟩=some (.int .i64 Kb):=(ia oa.out 0).trans rfl;have Gu:w6.cell? ⟨ya,1,none⟩=some (.int .i64 Ja):=(ia oa.out 1).trans rfl;have Fu:w6.cell? ⟨ya,2,none⟩=some (.int .i64 Ga):=(ia oa.out 2).trans rfl;have Eu:w6.cell? ⟨ya,3,none⟩=some (.int .i64 Ia):=(ia oa.out 3).trans rfl;have Du:w6.cell? ⟨ya,4,none⟩=some (.int .i64 Db):=(ia oa.out 4).trans rfl;have uJ:w6.cell? ⟨ya,5,none⟩=some (.int .i64 Bc):=(ia oa.out 5).trans rfl;have tJ:w6.cell? ⟨ya,6,none⟩=some (.string tc):=(ia oa.out 6).trans rfl;have Zt:=aa oa.out 0;have Yt:=aa oa.out 1;have Xt:=aa oa.out 2;have Wt:=aa oa.out 3;have Vt:=aa oa.out 4;have DI:=aa oa.out 5;have CI:=aa oa.out 6));go_ret;exact ⟨by first|rfl|(simp [Pa,Oa] <;> rfl)|(simp [*,Pa,Oa] <;> rfl),xaH⟩
  ·rw [if_neg c5] at H;have fk:(Kb == 6)=false:=beq_eq_false_iff_ne.mpr c5;have Dz:(Kb != 6)=true:=bne_iff_ne.mpr c5;obtain rfl:=Option.some.inj H;go_enter Try.func87,Try.ntmps87;go_wp2_with (first|((with_reducible refine Ab (N:=1) rfl ?_);refine Lb ?hg (N:=1) ?hd (cs:=#[.int .i64 Kb,.int .i64 Ja,.int .i64 Ga,.int .i64 Ia,.int .i64 Db,.int .i64 Bc,.string tc]) (t:=65) ?hr ?_;(case hd=>rfl);(case hg=>rfl);(case hr=>first|(go_simp;done)|(go_simp;rfl));intro ya hg w8 Sb hb;have Eb:=ga.mk (Ra uaH hb);have Fb:=ga.mk (Sb);have Ob:=ga.mk ((by rw [hg];exact (La uaH):w.heap.size ≤ ya));have Ec:=ga.mk ((by rw [hg];exact (La uaH):w.heap.size ≤ ya));clear HB;have HB:=Eb;have oa:=Fb;have Vd:=Ob;have Ta:=Ec;clear Eb Fb Ob Ec hb Sb hg;have Ln:w8.cell? ⟨ya,0,none⟩=some (.int .i64 Kb):=(ia oa.out 0).trans rfl;have Kn:w8.cell? ⟨ya,1,none⟩=some (.int .i64 Ja):=(ia oa.out 1).trans rfl;have Jn:w8.cell? ⟨ya,2,none⟩=some (.int .i64 Ga):=(ia oa.out 2).trans rfl;have Gn:w8.cell? ⟨ya,3,none⟩=some (.int .i64 Ia):=(ia oa.out 3).trans rfl;have En:w8.cell? ⟨ya,4,none⟩=some (.int .i64 Db):=(ia oa.out 4).trans rfl;have Raa:w8.cell? ⟨ya,5,none⟩=some (.int .i64 Bc):=(ia oa.out 5).trans rfl;have Qaa:w8.cell? ⟨ya,6,none⟩=some (.string tc):=(ia oa.out 6).trans rfl;have gn:=aa oa.out 0;have en:=aa oa.out 1;have dn:=aa oa.out 2;have bn:=aa oa.out 3;have Zm:=aa oa.out 4;have Caa:=aa oa.out 5;have Baa:=aa oa.out 6));go_ret;exact ⟨by first|rfl|(simp [Pa,Oa] <;> rfl)|(simp [*,Pa,Oa] <;> rfl),xaH⟩
mutual
def Dd.j0:Nat→List Int→Int→Bool→Int→Int→Int→Int→Int→Int→ByteArray→Option (List Int)
 | 0,_,_,_,_,_,_,_,_,_,_=>none
 | k + 1,x3,x6,x7,yc,Qc,Gc,Dc,Yb,Cm,Bm=>if x7=true then (if x3.length < 17592186044416 then (some (x3 ++ [Gc])) else (none)) else (if x6=2 then ((some (([Gc,Dc]:List Int):List Int)).bind fun Yg=>(if x3.length + Yg.length < 17592186044416 then (some (x3 ++ Yg)) else (none))) else (if x6=3 then (Dd.j1 k x3 (x6 == 3) yc Qc Gc Dc Yb Cm Bm) else (Dd.j1 k x3 (x6 == 4) yc Qc Gc Dc Yb Cm Bm)))
def Dd.j1:Nat→List Int→Bool→Int→Int→Int→Int→Int→Int→ByteArray→Option (List Int)
 | 0,_,_,_,_,_,_,_,_,_=>none
 | k + 1,x3,OD,yc,Qc,Gc,Dc,Yb,Cm,Bm=>if OD=true then (if x3.length < 17592186044416 then ((some (x3 ++ [Dc]:List Int)).bind fun Ll=>(if Gc ≥ 0 then (if Ll.length < 17592186044416 then ((some (Ll ++ [Gc]:List Int)).bind fun Ws=>(if yc=4 then (if Ws.length < 17592186044416 then (some (Ws ++ [Yb])) else (none)) else (some Ws))) else (none)) else (if yc=4 then (if Ll.length < 17592186044416 then (some (Ll ++ [Yb])) else (none)) else (some Ll)))) else (none)) else (some x3)
end
def Dd.f (k:Nat) (Kb:Int) (Ja:Int) (Ga:Int) (Ia:Int) (Db:Int) (Bc:Int) (tc:ByteArray):Option (List Int):=(some (([]:List Int):List Int)).bind fun ud=>(if Kb=1 then (Dd.j0 k ud Kb (Kb == 1) Kb Ja Ga Ia Db Bc tc) else (Dd.j0 k ud Kb (Kb == 6) Kb Ja Ga Ia Db Bc tc))
theorem Dd.calls (k:Nat) (Kb:Int) (Ja:Int) (Ga:Int) (Ia:Int) (Db:Int) (Bc:Int) (tc:ByteArray) (r:List Int) (w:World) (h:Dd.f k Kb Ja Ga Ia Db Bc tc=some r) :
  Calls Try.prog 88 #[.agg #[.int .i64 Kb,.int .i64 Ja,.int .i64 Ga,.int .i64 Ia,.int .i64 Db,.int .i64 Bc,.string tc]] w fun e w'=>∃ Nl:Value,e = .returned (Nl)∧Kd.R (Kd.int .i64) 3 w' w.heap.size (fun _=>True) Nl r∧Below w.heap.size w w':=by
 have MA:=Try.underlying65;have HB:=ga.mk (Below.refl w.heap.size w);have H:((some (([]:List Int):List Int)).bind fun ud=>(if Kb=1 then (Dd.j0 k ud Kb (Kb == 1) Kb Ja Ga Ia Db Bc tc) else (Dd.j0 k ud Kb (Kb == 6) Kb Ja Ga Ia Db Bc tc)))=some r:=h;clear h;obtain ⟨ud,jf⟩:∃ y_:List Int,y_=(([]:List Int)):=⟨_,rfl⟩;replace H:(if Kb=1 then (Dd.j0 k ud Kb (Kb == 1) Kb Ja Ga Ia Db Bc tc) else (Dd.j0 k ud Kb (Kb == 6) Kb Ja Ga Ia Db Bc tc))=some r:=by first|(rw [jf];with_reducible exact H)|(have Ed:=(Option.bind_some _ _).symm.trans H;rw [jf];with_reducible exact Ed)|(have Ed:=(Option.bind_some _ _).symm.trans H;with_reducible exact Ed)|with_reducible exact H|(rw [jf];exact H)|exact H
 have ei:=ga.mk jf;clear jf;have iU:=ga.mk H;clear H;go_enter Try.func88,Try.ntmps88
 go_upto_if 7 with (first|((with_reducible refine Ab (N:=1) rfl ?_);refine Lb ?hg (N:=1) ?hd (cs:=#[.int .i64 Kb,.int .i64 Ja,.int .i64 Ga,.int .i64 Ia,.int .i64 Db,.int .i64 Bc,.string tc]) (t:=65) ?hr ?_;(case hd=>rfl);(case hg=>rfl);(case hr=>first|(go_simp;done)|(go_simp;rfl));intro ya hg w3 Sb hb;have Eb:=ga.mk (Ra uaH hb);have Fb:=ga.mk (Sb);have Ob:=ga.mk ((by rw [hg];exact (La uaH):w.heap.size ≤ ya));have Ec:=ga.mk ((by rw [hg];exact (La uaH):w.heap.size ≤ ya));clear HB;have HB:=Eb;have oa:=Fb;have Vd:=Ob;have Ta:=Ec;clear Eb Fb Ob Ec hb Sb hg)|((with_reducible refine Ab (N:=4) rfl ?_);refine Kd.Hj (Kd.int .i64) _ 3 ?hg (N:=4) ?hd (xs:=([]:List Int)) (inner:=[]) (ok:=fun _=>True) (Dh:=fun _=>True) ?hr ?hp (fun _ hk=>hk) trivial (Below.refl _ _) (Nat.le_refl _) (by simp) ?_;(case hd=>rfl);(case hg=>rfl);(case hr=>first|(go_simp;done)|(go_simp;rfl));(case hp=>exact (Pd.none _ _));intro wm w4 JF hb gm Pe;clear gm Pe;(first|rw [← ei.out] at JF|(simp only [Int.reduceToNat] at JF;rw [← ei.out] at JF));have Eb:=ga.mk (Kd.Nd JF (La taH));have Fb:=ga.mk (Va (g:=ya) (o:=.cells #[.int .i64 Kb,.int .i64 Ja,.int .i64 Ga,.int .i64 Ia,.int .i64 Db,.int .i64 Bc,.string tc] 65 (0,0)) vaH hb);have Ob:=ga.mk (Ra taH hb);clear oa HB;have Sg:=Eb;have oa:=Fb;have HB:=Ob;clear Eb Fb Ob hb JF;have Uq:w4.cell? ⟨ya,0,none⟩=some (.int .i64 Kb):=(ia oa.out 0).trans rfl;have Rq:w4.cell? ⟨ya,1,none⟩=some (.int .i64 Ja):=(ia oa.out 1).trans rfl;have Qq:w4.cell? ⟨ya,2,none⟩=some (.int .i64 Ga):=(ia oa.out 2).trans rfl;have Pq:w4.cell? ⟨ya,3,none⟩=some (.int .i64 Ia):=(ia oa.out 3).trans rfl;have Oq:w4.cell? ⟨ya,4,none⟩=some (.int .i64 Db):=(ia oa.out 4).trans rfl;have Ju:w4.cell? ⟨ya,5,none⟩=some (.int .i64 Bc):=(ia oa.out 5).trans rfl;have Iu:w4.cell? ⟨ya,6,none⟩=some (.string tc):=(ia oa.out 6).trans rfl;have Nq:=aa oa.out 0;have Mq:=aa oa.out 1;have Kq:=aa oa.out 2;have Jq:=aa oa.out 3;have Iq:=aa oa.out 4;have bu:=aa oa.out 5;have au:=aa oa.out 6))
 (try simp only [Act.put,List.setIfInBounds_toArray,List.set_cons_zero,List.set_cons_succ])
 go_cut [7] (fun v7 wc=>∃ (kq:Nat) (Fj:Bool),v7 = .bool Fj∧ga (Dd.j0 kq ud Kb Fj Kb Ja Ga Ia Db Bc tc=some r)∧ga (kq ≤ k)∧ga (Kd.R (Kd.int .i64) 3 wc w.heap.size (fun _=>True) wm ud)∧ga (wc.heap[ya]? = some (.cells #[.int .i64 Kb,.int .i64 Ja,.int .i64 Ga,.int .i64 Ia,.int .i64 Db,.int .i64 Bc,.string tc] 65 (0,0)))∧ga (Below w.heap.size w wc))
 case first =>
  have H:=iU.out;clear iU
  by_cases c7:Kb=1
  ·rw [if_pos c7] at H;have Xk:(Kb == 1)=true:=beq_iff_eq.mpr c7;have qt:(Kb != 1)=false:=bne_eq_false_iff_eq.mpr c7;clear c7;(first|rw [Xk]|(simp only [nc,oc];rw [Xk])|skip);have H':=ga.mk H;clear H;go_wp2
   go_meet
   case rel=>exact ⟨_,((Kb == 1)),AaH,H',⟨by first|omega|exact Nat.le_refl _⟩,⟨SaH⟩,⟨zaH⟩,⟨xaH⟩⟩
  ·rw [if_neg c7] at H;have Xk:(Kb == 1)=false:=beq_eq_false_iff_ne.mpr c7;have qt:(Kb != 1)=true:=bne_iff_ne.mpr c7;(first|rw [Xk]|(simp only [nc,oc];rw [Xk])|skip);have H':=ga.mk H;clear H;go_wp2
   go_meet
   case rel=>exact ⟨_,((Kb == 6)),AaH,H',⟨by first|omega|exact Nat.le_refl _⟩,⟨SaH⟩,⟨zaH⟩,⟨xaH⟩⟩
 case rest =>
  clear iU
  try clear p2
  try clear c7
  try clear Xk
  try clear qt
  try clear Uq
  try clear Rq
  try clear Qq
  try clear Pq
  try clear Oq
  try clear Ju
  try clear Iu
  try clear Nq
  try clear Mq
  try clear Kq
  try clear Jq
  try clear Iq
  try clear bu
  try clear au
  obtain ⟨kq,Fj,rfl,HA,g_,Oc,oa,HB⟩:=hcut;cases kq with
  | zero=>exact absurd HA.out (by simp [Dd.j0])
  | succ rW =>
   have H:=HA.out;clear HA;simp only [Dd.j0] at H
   by_cases c8:Fj=true
   ·subst c8;have H1:(if ud.length < 17592186044416 then (some (ud ++ [Ga])) else (none))=some r:=by rw [if_pos rfl] at H;exact H
    clear H;have H:=H1;clear H1
    by_cases c9:ud.length < 17592186044416
    ·rw [if_pos c9] at H;have mac:=ga.mk c9;clear c9;obtain ⟨Wd,Gf⟩:∃ y_:List Int,y_=(ud ++ [Ga]):=⟨_,rfl⟩;replace H:(some Wd)=some r:=by first|(rw [Gf];with_reducible exact H)|(have Ed:=(Option.bind_some _ _).symm.trans H;rw [Gf];with_reducible exact Ed)|(have Ed:=(Option.bind_some _ _).symm.trans H;with_reducible exact Ed)|with_reducible exact H|(rw [Gf];exact H)|exact H
     have Jl:=ga.mk Gf;clear Gf;obtain rfl:=Option.some.inj H;have Nh:wc.cell? ⟨ya,0,none⟩=some (.int .i64 Kb):=(ia oa.out 0).trans rfl;have Mh:wc.cell? ⟨ya,1,none⟩=some (.int .i64 Ja):=(ia oa.out 1).trans rfl;have Lh:wc.cell? ⟨ya,2,none⟩=some (.int .i64 Ga):=(ia oa.out 2).trans rfl;have Kh:wc.cell? ⟨ya,3,none⟩=some (.int .i64 Ia):=(ia oa.out 3).trans rfl;have Jh:wc.cell? ⟨ya,4,none⟩=some (.int .i64 Db):=(ia oa.out 4).trans rfl;have vB:wc.cell? ⟨ya,5,none⟩=some (.int .i64 Bc):=(ia oa.out 5).trans rfl;have uB:wc.cell? ⟨ya,6,none⟩=some (.string tc):=(ia oa.out 6).trans rfl;have Ih:=aa oa.out 0;have Hh:=aa oa.out 1;have Gh:=aa oa.out 2;have Fh:=aa oa.out 3;have Eh:=aa oa.out 4;have gB:=aa oa.out 5;have fB:=aa oa.out 6;go_wp2_with (first|((with_reducible refine Jd (b:=.append) (xs:=#[.tmp 10,.tmp 13]) rfl ?_);at_builtin;refine Kd.Rg (Kd.int .i64) (w0:=w) w.heap.size rfl (.tmp 10) (.tmp 13) 22 3 (.int .i64 0) 8 rfl Try.underlying22 info3 rfl (by decide) (by omega) wm ud Ga [.int .i64 Ga] (fun _=>True) (fun _=>False) rfl rfl ?aP (fun _ hk=>hk.elim) ?aF ?aO ?aB ?aS ?aL ?_;(case aP=>exact rfl);(case aB=>exact taH);(case aF=>exact (fun _ _=>trivial));(case aO=>exact NaH);(case aS=>exact (La taH));(case aL=>have:=mac.out;omega);intro XB ck ho hb hg hat;rw [← Jl.out] at ho;have Eb:=ga.mk (Vc (g:=ya) (o:=.cells #[.int .i64 Kb,.int .i64 Ja,.int .i64 Ga,.int .i64 Ia,.int .i64 Db,.int .i64 Bc,.string tc] 65 (0,0)) vaH hg (Kd.tj Oc.out oa.out (by decide)));have Fb:=ga.mk (hb);have Ob:=ga.mk (ho);clear oa HB Oc;have oa:=Eb;have HB:=Fb;have nj:=Ob;clear Eb Fb Ob ho hb hg hat));go_ret;exact ⟨_,by first|rfl|(simp [Pa,Oa] <;> rfl)|(simp [*,Pa,Oa] <;> rfl),baI,xaH⟩
    ·rw [if_neg c9] at H;exact absurd H (by simp)
   ·replace c8:=Bool.eq_false_iff.mpr c8;subst c8;have H1:(if Kb=2 then ((some (([Ga,Ia]:List Int):List Int)).bind fun Yg=>(if ud.length + Yg.length < 17592186044416 then (some (ud ++ Yg)) else (none))) else (if Kb=3 then (Dd.j1 rW ud (Kb == 3) Kb Ja Ga Ia Db Bc tc) else (Dd.j1 rW ud (Kb == 4) Kb Ja Ga Ia Db Bc tc)))=some r:=by rw [if_neg (show ¬ (false=true) by decide)] at H;exact H
    clear H;have H:=H1;clear H1
    by_cases Ss:Kb=2
    ·rw [if_pos Ss] at H;have EH:(Kb == 2)=true:=beq_iff_eq.mpr Ss;have k9:(Kb != 2)=false:=bne_eq_false_iff_eq.mpr Ss;clear Ss;obtain ⟨Yg,Ff⟩:∃ y_:List Int,y_=(([Ga,Ia]:List Int)):=⟨_,rfl⟩;replace H:(if ud.length + Yg.length < 17592186044416 then (some (ud ++ Yg)) else (none))=some r:=by first|(rw [Ff];with_reducible exact H)|(have Ed:=(Option.bind_some _ _).symm.trans H;rw [Ff];with_reducible exact Ed)|(have Ed:=(Option.bind_some _ _).symm.trans H;with_reducible exact Ed)|with_reducible exact H|(rw [Ff];exact H)|exact H
     have Ej:=ga.mk Ff;clear Ff
     by_cases KD:ud.length + Yg.length < 17592186044416
     ·rw [if_pos KD] at H;have kak:=ga.mk KD;clear KD;obtain ⟨Bq,Yo⟩:∃ y_:List Int,y_=(ud ++ Yg):=⟨_,rfl⟩;replace H:(some Bq)=some r:=by first|(rw [Yo];with_reducible exact H)|(have Ed:=(Option.bind_some _ _).symm.trans H;rw [Yo];with_reducible exact Ed)|(have Ed:=(Option.bind_some _ _).symm.trans H;with_reducible exact Ed)|with_reducible exact H|(rw [Yo];exact H)|exact H
      have KH:=ga.mk Yo;clear Yo;obtain rfl:=Option.some.inj H;have ij:wc.cell? ⟨ya,0,none⟩=some (.int .i64 Kb):=(ia oa.out 0).trans rfl;have fj:wc.cell? ⟨ya,1,none⟩=some (.int .i64 Ja):=(ia oa.out 1).trans rfl;have ej:wc.cell? ⟨ya,2,none⟩=some (.int .i64 Ga):=(ia oa.out 2).trans rfl;have cj:wc.cell? ⟨ya,3,none⟩=some (.int .i64 Ia):=(ia oa.out 3).trans rfl;have aj:wc.cell? ⟨ya,4,none⟩=some (.int .i64 Db):=(ia oa.out 4).trans rfl;have lT:wc.cell? ⟨ya,5,none⟩=some (.int .i64 Bc):=(ia oa.out 5).trans rfl;have kT:wc.cell? ⟨ya,6,none⟩=some (.string tc):=(ia oa.out 6).trans rfl;have Zi:=aa oa.out 0;have Yi:=aa oa.out 1;have Xi:=aa oa.out 2;have Wi:=aa oa.out 3;have Vi:=aa oa.out 4;have RR:=aa oa.out 5;have PR:=aa oa.out 6;go_wp2_with (first|((with_reducible refine Ab (N:=22) rfl ?_);refine Kd.Hj (Kd.int .i64) _ 3 ?hg (N:=22) ?hd (xs:=([Ga,Ia]:List Int)) (inner:=[.int .i64 Ga,.int .i64 Ia]) (ok:=fun _=>True) (Dh:=fun _=>True) ?hr ?hp (fun _ hk=>hk) trivial (Below.refl _ _) (Nat.le_refl _) (by simp) ?_;(case hd=>rfl);(case hg=>rfl);(case hr=>first|(go_simp;done)|(go_simp;rfl));(case hp=>exact (Pd.one (show Kd.M (Kd.int .i64) _ _ _ Ga [.int .i64 Ga] from rfl) (Pd.one (show Kd.M (Kd.int .i64) _ _ _ Ia [.int .i64 Ia] from rfl) (Pd.none _ _))));intro IG zm VU hb gm Pe;clear gm Pe;(first|rw [← Ej.out] at VU|(simp only [Int.reduceToNat] at VU;rw [← Ej.out] at VU));have Eb:=ga.mk (Kd.Bw NaH (Kd.Av VU) hb);have Fb:=ga.mk (Kd.Nd (Kd.kG VU (Kd.UO NaH)) (La taH));have Ob:=ga.mk (Va (g:=ya) (o:=.cells #[.int .i64 Kb,.int .i64 Ja,.int .i64 Ga,.int .i64 Ia,.int .i64 Db,.int .i64 Bc,.string tc] 65 (0,0)) vaH hb);have Ec:=ga.mk (Ra taH hb);clear Oc oa HB;have Oc:=Eb;have uj:=Fb;have oa:=Ob;have HB:=Ec;clear Eb Fb Ob Ec hb VU;obtain ⟨cay,Law,Baw⟩:=Kd.od uj.out;subst Baw)|((with_reducible refine Jd (b:=.append) (xs:=#[.tmp 17,.tmp 22]) rfl ?_);at_builtin;refine Kd.vk (Kd.int .i64) (w0:=w) w.heap.size rfl (.tmp 17) (.tmp 22) 22 3 (.int .i64 0) 8 rfl Try.underlying22 info3 rfl (by decide) (by omega) wm ud Yg _ _ _ (fun k_=>some k_ ≠ (.slice cay Yg.length Law:Value).ownBlock) (fun _=>False) rfl rfl ?aO ?aR (fun _ _ h=>h) (fun _ h=>h.elim) ?aF ?aB ?aS ?aL ?_;(case aR=>repeat (first|exact (Kd.Rb uj.out).2.2|(with_reducible refine Kd.dc ?_ _)|(with_reducible refine Kd.Zb ?_ _)|(with_reducible refine Kd.Fc ?_)));(case aB=>exact taH);(case aF=>exact (fun k_ hk=>Kd.fresh' (Kd.UO jaI) k_ hk));(case aO=>exact (by (with_reducible repeat (first|apply Kd.Xa|apply Kd.Wa|apply Kd.gb));exact Kd.xd Oc.out (fun _ hk=>hk.2)));(case aS=>exact (La taH));(case aL=>have:=kak.out;omega);intro N_ zo ho hb hg hat;rw [← KH.out] at ho;have Eb:=ga.mk (Vc (g:=ya) (o:=.cells #[.int .i64 Kb,.int .i64 Ja,.int .i64 Ga,.int .i64 Ia,.int .i64 Db,.int .i64 Bc,.string tc] 65 (0,0)) vaH hg (Kd.tj Oc.out oa.out (by decide)));have Fb:=ga.mk (Kd.UE (ok:=(fun _=>True)) jaI hg hat);have Ob:=ga.mk (hb);have Ec:=ga.mk (ho);clear oa uj HB Oc;have oa:=Eb;have uj:=Fb;have HB:=Ob;have qG:=Ec;clear Eb Fb Ob Ec ho hb hg hat));go_ret;exact ⟨_,by first|rfl|(simp [Pa,Oa] <;> rfl)|(simp [*,Pa,Oa] <;> rfl),by (with_reducible repeat (first|apply Kd.Xa|apply Kd.Wa|apply Kd.gb));exact Kd.xd qG.out (fun _ hk=>trivial),xaH⟩
     ·rw [if_neg KD] at H;exact absurd H (by simp)
    ·rw [if_neg Ss] at H;have EH:(Kb == 2)=false:=beq_eq_false_iff_ne.mpr Ss;have k9:(Kb != 2)=true:=bne_iff_ne.mpr Ss;have lad:=ga.mk H;clear H
     go_upto_if 24 with (fail)
     go_cut [24] (fun v24 wc=>∃ (kq:Nat) (TH:Bool),v24 = .bool TH∧ga (Dd.j1 kq ud TH Kb Ja Ga Ia Db Bc tc=some r)∧ga (kq ≤ rW)∧ga (Kd.R (Kd.int .i64) 3 wc w.heap.size (fun _=>True) wm ud)∧ga (wc.heap[ya]? = some (.cells #[.int .i64 Kb,.int .i64 Ja,.int .i64 Ga,.int .i64 Ia,.int .i64 Db,.int .i64 Bc,.string tc] 65 (0,0)))∧ga (Below w.heap.size w wc))
     case first =>
      have H:=lad.out;clear lad
      by_cases tr:Kb=3
      ·rw [if_pos tr] at H;have Zy:(Kb == 3)=true:=beq_iff_eq.mpr tr;have b9:(Kb != 3)=false:=bne_eq_false_iff_eq.mpr tr;clear tr;(first|rw [Zy]|(simp only [nc,oc];rw [Zy])|skip);have H':=ga.mk H;clear H;go_wp2
       go_meet
       case rel=>exact ⟨_,((Kb == 3)),AaH,H',⟨by have:=g_.out;first|omega|exact Nat.le_refl _⟩,⟨HaH⟩,⟨zaH⟩,⟨xaH⟩⟩
      ·rw [if_neg tr] at H;have Zy:(Kb == 3)=false:=beq_eq_false_iff_ne.mpr tr;have b9:(Kb != 3)=true:=bne_iff_ne.mpr tr;(first|rw [Zy]|(simp only [nc,oc];rw [Zy])|skip);have H':=ga.mk H;clear H;go_wp2
       go_meet
       case rel=>exact ⟨_,((Kb == 4)),AaH,H',⟨by have:=g_.out;first|omega|exact Nat.le_refl _⟩,⟨HaH⟩,⟨zaH⟩,⟨xaH⟩⟩
     case rest =>
      clear lad
      try clear c1
      try clear c2
      try clear p2
      try clear c7
      try clear Xk
      try clear qt
      try clear c8
      try clear c9
      try clear Ss
      try clear EH
      try clear k9
      try clear KD
      try clear tr
      try clear Zy
      try clear b9
      try clear Nh
      try clear Mh
      try clear Lh
      try clear Kh
      try clear Jh
      try clear vB
      try clear uB
      try clear ij
      try clear fj
      try clear ej
      try clear cj
      try clear aj
      try clear lT
      try clear kT
      try clear Uq
      try clear Rq
      try clear Qq
      try clear Pq
      try clear Oq
      try clear Ju
      try clear Iu
      try clear Ih
      try clear Hh
      try clear Gh
      try clear Fh
      try clear Eh
      try clear gB
      try clear fB
      try clear Zi
      try clear Yi
      try clear Xi
      try clear Wi
      try clear Vi
      try clear RR
      try clear PR
      try clear Nq
      try clear Mq
      try clear Kq
      try clear Jq
      try clear Iq
      try clear bu
      try clear au
      try clear p2
      obtain ⟨kq,TH,rfl,HA,waF,Oc,oa,HB⟩:=hcut;cases kq with
      | zero=>exact absurd HA.out (by simp [Dd.j1])
      | succ yaD =>
       have H:=HA.out;clear HA;simp only [Dd.j1] at H
       by_cases Hs:TH=true
       ·subst Hs;have H1:(if ud.length < 17592186044416 then ((some (ud ++ [Ia]:List Int)).bind fun Ll=>(if Ga ≥ 0 then (if Ll.length < 17592186044416 then ((some (Ll ++ [Ga]:List Int)).bind fun Ws=>(if Kb=4 then (if Ws.length < 17592186044416 then (some (Ws ++ [Db])) else (none)) else (some Ws))) else (none)) else (if Kb=4 then (if Ll.length < 17592186044416 then (some (Ll ++ [Db])) else (none)) else (some Ll)))) else (none))=some r:=by rw [if_pos rfl] at H;exact H
        clear H;have H:=H1;clear H1
        by_cases VB:ud.length < 17592186044416
        ·rw [if_pos VB] at H;have VT:=ga.mk VB;clear VB;obtain ⟨Ll,fl⟩:∃ y_:List Int,y_=(ud ++ [Ia]):=⟨_,rfl⟩;replace H:(if Ga ≥ 0 then (if Ll.length < 17592186044416 then ((some (Ll ++ [Ga]:List Int)).bind fun Ws=>(if Kb=4 then (if Ws.length < 17592186044416 then (some (Ws ++ [Db])) else (none)) else (some Ws))) else (none)) else (if Kb=4 then (if Ll.length < 17592186044416 then (some (Ll ++ [Db])) else (none)) else (some Ll)))=some r:=by first|(rw [fl];with_reducible exact H)|(have Ed:=(Option.bind_some _ _).symm.trans H;rw [fl];with_reducible exact Ed)|(have Ed:=(Option.bind_some _ _).symm.trans H;with_reducible exact Ed)|with_reducible exact H|(rw [fl];exact H)|exact H
         have Cw:=ga.mk fl;clear fl
         by_cases Yy:Ga ≥ 0
         ·rw [if_pos Yy] at H;have uD:decide (0 ≤ Ga)=true:=decide_eq_true Yy;clear Yy
          by_cases CH:Ll.length < 17592186044416
          ·rw [if_pos CH] at H;have G9:=ga.mk CH;clear CH;obtain ⟨Ws,jw⟩:∃ y_:List Int,y_=(Ll ++ [Ga]):=⟨_,rfl⟩;replace H:(if Kb=4 then (if Ws.length < 17592186044416 then (some (Ws ++ [Db])) else (none)) else (some Ws))=some r:=by first|(rw [jw];with_reducible exact H)|(have Ed:=(Option.bind_some _ _).symm.trans H;rw [jw];with_reducible exact Ed)|(have Ed:=(Option.bind_some _ _).symm.trans H;with_reducible exact Ed)|with_reducible exact H|(rw [jw];exact H)|exact H
           have PT:=ga.mk jw;clear jw
           by_cases JD:Kb=4
           ·rw [if_pos JD] at H;have rM:(Kb == 4)=true:=beq_iff_eq.mpr JD;have zaj:(Kb != 4)=false:=bne_eq_false_iff_eq.mpr JD;clear JD
            by_cases Jz:Ws.length < 17592186044416
            ·rw [if_pos Jz] at H;have iak:=ga.mk Jz;clear Jz;obtain ⟨C_,gw⟩:∃ y_:List Int,y_=(Ws ++ [Db]):=⟨_,rfl⟩;replace H:(some C_)=some r:=by first|(rw [gw];with_reducible exact H)|(have Ed:=(Option.bind_some _ _).symm.trans H;rw [gw];with_reducible exact Ed)|(have Ed:=(Option.bind_some _ _).symm.trans H;with_reducible exact Ed)|with_reducible exact H|(rw [gw];exact H)|exact H
             have OT:=ga.mk gw;clear gw;obtain rfl:=Option.some.inj H;have Tx:wc.cell? ⟨ya,0,none⟩=some (.int .i64 Kb):=(ia oa.out 0).trans rfl;have Sx:wc.cell? ⟨ya,1,none⟩=some (.int .i64 Ja):=(ia oa.out 1).trans rfl;have Rx:wc.cell? ⟨ya,2,none⟩=some (.int .i64 Ga):=(ia oa.out 2).trans rfl;have Qx:wc.cell? ⟨ya,3,none⟩=some (.int .i64 Ia):=(ia oa.out 3).trans rfl;have Px:wc.cell? ⟨ya,4,none⟩=some (.int .i64 Db):=(ia oa.out 4).trans rfl;have eK:wc.cell? ⟨ya,5,none⟩=some (.int .i64 Bc):=(ia oa.out 5).trans rfl;have dK:wc.cell? ⟨ya,6,none⟩=some (.string tc):=(ia oa.out 6).trans rfl;have ax:=aa oa.out 0;have Zw:=aa oa.out 1;have Yw:=aa oa.out 2;have Xw:=aa oa.out 3;have Ww:=aa oa.out 4;have oJ:=aa oa.out 5;have nJ:=aa oa.out 6;go_wp2_with (first|((with_reducible refine Jd (b:=.append) (xs:=#[.tmp 27,.tmp 30]) rfl ?_);at_builtin;refine Kd.Rg (Kd.int .i64) (w0:=w) w.heap.size rfl (.tmp 27) (.tmp 30) 22 3 (.int .i64 0) 8 rfl Try.underlying22 info3 rfl (by decide) (by omega) wm ud Ia [.int .i64 Ia] (fun _=>True) (fun _=>False) rfl rfl ?aP (fun _ hk=>hk.elim) ?aF ?aO ?aB ?aS ?aL ?_;(case aP=>exact rfl);(case aB=>exact taH);(case aF=>exact (fun _ _=>trivial));(case aO=>exact NaH);(case aS=>exact (La taH));(case aL=>have:=VT.out;omega);intro fz Tv ho hb hg hat;rw [← Cw.out] at ho;have Eb:=ga.mk (Vc (g:=ya) (o:=.cells #[.int .i64 Kb,.int .i64 Ja,.int .i64 Ga,.int .i64 Ia,.int .i64 Db,.int .i64 Bc,.string tc] 65 (0,0)) vaH hg (Kd.tj Oc.out oa.out (by decide)));have Fb:=ga.mk (hb);have Ob:=ga.mk (ho);clear oa HB Oc;have oa:=Eb;have HB:=Fb;have yp:=Ob;clear Eb Fb Ob ho hb hg hat;have tB:Tv.cell? ⟨ya,0,none⟩=some (.int .i64 Kb):=(ia oa.out 0).trans rfl;have sB:Tv.cell? ⟨ya,1,none⟩=some (.int .i64 Ja):=(ia oa.out 1).trans rfl;have rB:Tv.cell? ⟨ya,2,none⟩=some (.int .i64 Ga):=(ia oa.out 2).trans rfl;have qB:Tv.cell? ⟨ya,3,none⟩=some (.int .i64 Ia):=(ia oa.out 3).trans rfl;have oB:Tv.cell? ⟨ya,4,none⟩=some (.int .i64 Db):=(ia oa.out 4).trans rfl;have X4:Tv.cell? ⟨ya,5,none⟩=some (.int .i64 Bc):=(ia oa.out 5).trans rfl;have W4:Tv.cell? ⟨ya,6,none⟩=some (.string tc):=(ia oa.out 6).trans rfl;have eB:=aa oa.out 0;have dB:=aa oa.out 1;have cB:=aa oa.out 2;have bB:=aa oa.out 3;have ZA:=aa oa.out 4;have Z2:=aa oa.out 5;have Y2:=aa oa.out 6)|((with_reducible refine Jd (b:=.append) (xs:=#[.tmp 35,.tmp 38]) rfl ?_);at_builtin;refine Kd.Rg (Kd.int .i64) (w0:=w) w.heap.size rfl (.tmp 35) (.tmp 38) 22 3 (.int .i64 0) 8 rfl Try.underlying22 info3 rfl (by decide) (by omega) fz Ll Ga [.int .i64 Ga] (fun _=>True) (fun _=>False) rfl rfl ?aP (fun _ hk=>hk.elim) ?aF ?aO ?aB ?aS ?aL ?_;(case aP=>exact rfl);(case aB=>exact taH);(case aF=>exact (fun _ _=>trivial));(case aO=>exact (by (with_reducible repeat (first|apply Kd.Xa|apply Kd.Wa|apply Kd.gb));exact yp.out));(case aS=>exact (La taH));(case aL=>have:=G9.out;omega);intro M_ GG ho hb hg hat;rw [← PT.out] at ho;have Eb:=ga.mk (Vc (g:=ya) (o:=.cells #[.int .i64 Kb,.int .i64 Ja,.int .i64 Ga,.int .i64 Ia,.int .i64 Db,.int .i64 Bc,.string tc] 65 (0,0)) vaH hg (Kd.tj yp.out oa.out (by decide)));have Fb:=ga.mk (hb);have Ob:=ga.mk (ho);clear oa HB yp;have oa:=Eb;have HB:=Fb;have pG:=Ob;clear Eb Fb Ob ho hb hg hat;have nB:GG.cell? ⟨ya,0,none⟩=some (.int .i64 Kb):=(ia oa.out 0).trans rfl;have mB:GG.cell? ⟨ya,1,none⟩=some (.int .i64 Ja):=(ia oa.out 1).trans rfl;have lB:GG.cell? ⟨ya,2,none⟩=some (.int .i64 Ga):=(ia oa.out 2).trans rfl;have kB:GG.cell? ⟨ya,3,none⟩=some (.int .i64 Ia):=(ia oa.out 3).trans rfl;have jB:GG.cell? ⟨ya,4,none⟩=some (.int .i64 Db):=(ia oa.out 4).trans rfl;have P4:GG.cell? ⟨ya,5,none⟩=some (.int .i64 Bc):=(ia oa.out 5).trans rfl;have O4:GG.cell? ⟨ya,6,none⟩=some (.string tc):=(ia oa.out 6).trans rfl;have YA:=aa oa.out 0;have XA:=aa oa.out 1;have WA:=aa oa.out 2;have VA:=aa oa.out 3;have UA:=aa oa.out 4;have Q2:=aa oa.out 5;have P2:=aa oa.out 6)|((with_reducible refine Jd (b:=.append) (xs:=#[.tmp 43,.tmp 46]) rfl ?_);at_builtin;refine Kd.Rg (Kd.int .i64) (w0:=w) w.heap.size rfl (.tmp 43) (.tmp 46) 22 3 (.int .i64 0) 8 rfl Try.underlying22 info3 rfl (by decide) (by omega) M_ Ws Db [.int .i64 Db] (fun _=>True) (fun _=>False) rfl rfl ?aP (fun _ hk=>hk.elim) ?aF ?aO ?aB ?aS ?aL ?_;(case aP=>exact rfl);(case aB=>exact taH);(case aF=>exact (fun _ _=>trivial));(case aO=>exact (by (with_reducible repeat (first|apply Kd.Xa|apply Kd.Wa|apply Kd.gb));exact pG.out));(case aS=>exact (La taH));(case aL=>have:=iak.out;omega);intro Qat XM ho hb hg hat;rw [← OT.out] at ho;have Eb:=ga.mk (Vc (g:=ya) (o:=.cells #[.int .i64 Kb,.int .i64 Ja,.int .i64 Ga,.int .i64 Ia,.int .i64 Db,.int .i64 Bc,.string tc] 65 (0,0)) vaH hg (Kd.tj pG.out oa.out (by decide)));have Fb:=ga.mk (hb);have Ob:=ga.mk (ho);clear oa HB pG;have oa:=Eb;have HB:=Fb;have gZ:=Ob;clear Eb Fb Ob ho hb hg hat));go_ret;exact ⟨_,by first|rfl|(simp [Pa,Oa] <;> rfl)|(simp [*,Pa,Oa] <;> rfl),by (with_reducible repeat (first|apply Kd.Xa|apply Kd.Wa|apply Kd.gb));exact gZ.out,xaH⟩
            ·rw [if_neg Jz] at H;exact absurd H (by simp)
           ·rw [if_neg JD] at H;have rM:(Kb == 4)=false:=beq_eq_false_iff_ne.mpr JD;have zaj:(Kb != 4)=true:=bne_iff_ne.mpr JD;obtain rfl:=Option.some.inj H;have ZS:wc.cell? ⟨ya,0,none⟩=some (.int .i64 Kb):=(ia oa.out 0).trans rfl;have YS:wc.cell? ⟨ya,1,none⟩=some (.int .i64 Ja):=(ia oa.out 1).trans rfl;have XS:wc.cell? ⟨ya,2,none⟩=some (.int .i64 Ga):=(ia oa.out 2).trans rfl;have WS:wc.cell? ⟨ya,3,none⟩=some (.int .i64 Ia):=(ia oa.out 3).trans rfl;have VS:wc.cell? ⟨ya,4,none⟩=some (.int .i64 Db):=(ia oa.out 4).trans rfl;have US:wc.cell? ⟨ya,5,none⟩=some (.int .i64 Bc):=(ia oa.out 5).trans rfl;have TS:wc.cell? ⟨ya,6,none⟩=some (.string tc):=(ia oa.out 6).trans rfl;have ER:=aa oa.out 0;have DR:=aa oa.out 1;have CR:=aa oa.out 2;have BR:=aa oa.out 3;have AR:=aa oa.out 4;have zR:=aa oa.out 5;have yR:=aa oa.out 6;go_wp2_with (first|((with_reducible refine Jd (b:=.append) (xs:=#[.tmp 27,.tmp 30]) rfl ?_);at_builtin;refine Kd.Rg (Kd.int .i64) (w0:=w) w.heap.size rfl (.tmp 27) (.tmp 30) 22 3 (.int .i64 0) 8 rfl Try.underlying22 info3 rfl (by decide) (by omega) wm ud Ia [.int .i64 Ia] (fun _=>True) (fun _=>False) rfl rfl ?aP (fun _ hk=>hk.elim) ?aF ?aO ?aB ?aS ?aL ?_;(case aP=>exact rfl);(case aB=>exact taH);(case aF=>exact (fun _ _=>trivial));(case aO=>exact NaH);(case aS=>exact (La taH));(case aL=>have:=VT.out;omega);intro fz eH ho hb hg hat;rw [← Cw.out] at ho;have Eb:=ga.mk (Vc (g:=ya) (o:=.cells #[.int .i64 Kb,.int .i64 Ja,.int .i64 Ga,.int .i64 Ia,.int .i64 Db,.int .i64 Bc,.string tc] 65 (0,0)) vaH hg (Kd.tj Oc.out oa.out (by decide)));have Fb:=ga.mk (hb);have Ob:=ga.mk (ho);clear oa HB Oc;have oa:=Eb;have HB:=Fb;have yp:=Ob;clear Eb Fb Ob ho hb hg hat;have LS:eH.cell? ⟨ya,0,none⟩=some (.int .i64 Kb):=(ia oa.out 0).trans rfl;have KS:eH.cell? ⟨ya,1,none⟩=some (.int .i64 Ja):=(ia oa.out 1).trans rfl;have JS:eH.cell? ⟨ya,2,none⟩=some (.int .i64 Ga):=(ia oa.out 2).trans rfl;have GS:eH.cell? ⟨ya,3,none⟩=some (.int .i64 Ia):=(ia oa.out 3).trans rfl;have ES:eH.cell? ⟨ya,4,none⟩=some (.int .i64 Db):=(ia oa.out 4).trans rfl;have tas:eH.cell? ⟨ya,5,none⟩=some (.int .i64 Bc):=(ia oa.out 5).trans rfl;have sas:eH.cell? ⟨ya,6,none⟩=some (.string tc):=(ia oa.out 6).trans rfl;have qR:=aa oa.out 0;have pR:=aa oa.out 1;have oR:=aa oa.out 2;have nR:=aa oa.out 3;have mR:=aa oa.out 4;have jap:=aa oa.out 5;have iap:=aa oa.out 6)|((with_reducible refine Jd (b:=.append) (xs:=#[.tmp 35,.tmp 38]) rfl ?_);at_builtin;refine Kd.Rg (Kd.int .i64) (w0:=w) w.heap.size rfl (.tmp 35) (.tmp 38) 22 3 (.int .i64 0) 8 rfl Try.underlying22 info3 rfl (by decide) (by omega) fz Ll Ga [.int .i64 Ga] (fun _=>True) (fun _=>False) rfl rfl ?aP (fun _ hk=>hk.elim) ?aF ?aO ?aB ?aS ?aL ?_;(case aP=>exact rfl);(case aB=>exact taH);(case aF=>exact (fun _ _=>trivial));(case aO=>exact (by (with_reducible repeat (first|apply Kd.Xa|apply Kd.Wa|apply Kd.gb));exact yp.out));(case aS=>exact (La taH));(case aL=>have:=G9.out;omega);intro M_ eF ho hb hg hat;rw [← PT.out] at ho;have Eb:=ga.mk (Vc (g:=ya) (o:=.cells #[.int .i64 Kb,.int .i64 Ja,.int .i64 Ga,.int .i64 Ia,.int .i64 Db,.int .i64 Bc,.string tc] 65 (0,0)) vaH hg (Kd.tj yp.out oa.out (by decide)));have Fb:=ga.mk (hb);have Ob:=ga.mk (ho);clear oa HB yp;have oa:=Eb;have HB:=Fb;have pG:=Ob;clear Eb Fb Ob ho hb hg hat;have DS:eF.cell? ⟨ya,0,none⟩=some (.int .i64 Kb):=(ia oa.out 0).trans rfl;have CS:eF.cell? ⟨ya,1,none⟩=some (.int .i64 Ja):=(ia oa.out 1).trans rfl;have BS:eF.cell? ⟨ya,2,none⟩=some (.int .i64 Ga):=(ia oa.out 2).trans rfl;have zS:eF.cell? ⟨ya,3,none⟩=some (.int .i64 Ia):=(ia oa.out 3).trans rfl;have yS:eF.cell? ⟨ya,4,none⟩=some (.int .i64 Db):=(ia oa.out 4).trans rfl;have pas:eF.cell? ⟨ya,5,none⟩=some (.int .i64 Bc):=(ia oa.out 5).trans rfl;have oas:eF.cell? ⟨ya,6,none⟩=some (.string tc):=(ia oa.out 6).trans rfl;have lR:=aa oa.out 0;have kR:=aa oa.out 1;have jR:=aa oa.out 2;have iR:=aa oa.out 3;have gR:=aa oa.out 4;have bap:=aa oa.out 5;have aap:=aa oa.out 6));go_ret;exact ⟨_,by first|rfl|(simp [Pa,Oa] <;> rfl)|(simp [*,Pa,Oa] <;> rfl),by (with_reducible repeat (first|apply Kd.Xa|apply Kd.Wa|apply Kd.gb));exact pG.out,xaH⟩
          ·rw [if_neg CH] at H;exact absurd H (by simp)
         ·rw [if_neg Yy] at H;have uD:decide (0 ≤ Ga)=false:=decide_eq_false Yy;clear Yy
          by_cases XK:Kb=4
          ·rw [if_pos XK] at H;have vT:(Kb == 4)=true:=beq_iff_eq.mpr XK;have vaj:(Kb != 4)=false:=bne_eq_false_iff_eq.mpr XK;clear XK
           by_cases bN:Ll.length < 17592186044416
           ·rw [if_pos bN] at H;have fak:=ga.mk bN;clear bN;obtain ⟨yat,AL⟩:∃ y_:List Int,y_=(Ll ++ [Db]):=⟨_,rfl⟩;replace H:(some yat)=some r:=by first|(rw [AL];with_reducible exact H)|(have Ed:=(Option.bind_some _ _).symm.trans H;rw [AL];with_reducible exact Ed)|(have Ed:=(Option.bind_some _ _).symm.trans H;with_reducible exact Ed)|with_reducible exact H|(rw [AL];exact H)|exact H
            have Waj:=ga.mk AL;clear AL;obtain rfl:=Option.some.inj H;have Ox:wc.cell? ⟨ya,0,none⟩=some (.int .i64 Kb):=(ia oa.out 0).trans rfl;have Nx:wc.cell? ⟨ya,1,none⟩=some (.int .i64 Ja):=(ia oa.out 1).trans rfl;have Mx:wc.cell? ⟨ya,2,none⟩=some (.int .i64 Ga):=(ia oa.out 2).trans rfl;have Lx:wc.cell? ⟨ya,3,none⟩=some (.int .i64 Ia):=(ia oa.out 3).trans rfl;have Kx:wc.cell? ⟨ya,4,none⟩=some (.int .i64 Db):=(ia oa.out 4).trans rfl;have SJ:wc.cell? ⟨ya,5,none⟩=some (.int .i64 Bc):=(ia oa.out 5).trans rfl;have RJ:wc.cell? ⟨ya,6,none⟩=some (.string tc):=(ia oa.out 6).trans rfl;have Vw:=aa oa.out 0;have Uw:=aa oa.out 1;have Tw:=aa oa.out 2;have Sw:=aa oa.out 3;have Rw:=aa oa.out 4;have cJ:=aa oa.out 5;have bJ:=aa oa.out 6;go_wp2_with (first|((with_reducible refine Jd (b:=.append) (xs:=#[.tmp 27,.tmp 30]) rfl ?_);at_builtin;refine Kd.Rg (Kd.int .i64) (w0:=w) w.heap.size rfl (.tmp 27) (.tmp 30) 22 3 (.int .i64 0) 8 rfl Try.underlying22 info3 rfl (by decide) (by omega) wm ud Ia [.int .i64 Ia] (fun _=>True) (fun _=>False) rfl rfl ?aP (fun _ hk=>hk.elim) ?aF ?aO ?aB ?aS ?aL ?_;(case aP=>exact rfl);(case aB=>exact taH);(case aF=>exact (fun _ _=>trivial));(case aO=>exact NaH);(case aS=>exact (La taH));(case aL=>have:=VT.out;omega);intro fz jD ho hb hg hat;rw [← Cw.out] at ho;have Eb:=ga.mk (Vc (g:=ya) (o:=.cells #[.int .i64 Kb,.int .i64 Ja,.int .i64 Ga,.int .i64 Ia,.int .i64 Db,.int .i64 Bc,.string tc] 65 (0,0)) vaH hg (Kd.tj Oc.out oa.out (by decide)));have Fb:=ga.mk (hb);have Ob:=ga.mk (ho);clear oa HB Oc;have oa:=Eb;have HB:=Fb;have yp:=Ob;clear Eb Fb Ob ho hb hg hat;have QJ:jD.cell? ⟨ya,0,none⟩=some (.int .i64 Kb):=(ia oa.out 0).trans rfl;have PJ:jD.cell? ⟨ya,1,none⟩=some (.int .i64 Ja):=(ia oa.out 1).trans rfl;have OJ:jD.cell? ⟨ya,2,none⟩=some (.int .i64 Ga):=(ia oa.out 2).trans rfl;have NJ:jD.cell? ⟨ya,3,none⟩=some (.int .i64 Ia):=(ia oa.out 3).trans rfl;have MJ:jD.cell? ⟨ya,4,none⟩=some (.int .i64 Db):=(ia oa.out 4).trans rfl;have pS:jD.cell? ⟨ya,5,none⟩=some (.int .i64 Bc):=(ia oa.out 5).trans rfl;have oS:jD.cell? ⟨ya,6,none⟩=some (.string tc):=(ia oa.out 6).trans rfl;have aJ:=aa oa.out 0;have ZI:=aa oa.out 1;have YI:=aa oa.out 2;have XI:=aa oa.out 3;have WI:=aa oa.out 4;have XQ:=aa oa.out 5;have WQ:=aa oa.out 6)|((with_reducible refine Jd (b:=.append) (xs:=#[.tmp 43,.tmp 46]) rfl ?_);at_builtin;refine Kd.Rg (Kd.int .i64) (w0:=w) w.heap.size rfl (.tmp 43) (.tmp 46) 22 3 (.int .i64 0) 8 rfl Try.underlying22 info3 rfl (by decide) (by omega) fz Ll Db [.int .i64 Db] (fun _=>True) (fun _=>False) rfl rfl ?aP (fun _ hk=>hk.elim) ?aF ?aO ?aB ?aS ?aL ?_;(case aP=>exact rfl);(case aB=>exact taH);(case aF=>exact (fun _ _=>trivial));(case aO=>exact (by (with_reducible repeat (first|apply Kd.Xa|apply Kd.Wa|apply Kd.gb));exact yp.out));(case aS=>exact (La taH));(case aL=>have:=fak.out;omega);intro raD w43 ho hb hg hat;rw [← Waj.out] at ho;have Eb:=ga.mk (Vc (g:=ya) (o:=.cells #[.int .i64 Kb,.int .i64 Ja,.int .i64 Ga,.int .i64 Ia,.int .i64 Db,.int .i64 Bc,.string tc] 65 (0,0)) vaH hg (Kd.tj yp.out oa.out (by decide)));have Fb:=ga.mk (hb);have Ob:=ga.mk (ho);clear oa HB yp;have oa:=Eb;have HB:=Fb;have Qak:=Ob;clear Eb Fb Ob ho hb hg hat));go_ret;exact ⟨_,by first|rfl|(simp [Pa,Oa] <;> rfl)|(simp [*,Pa,Oa] <;> rfl),by (with_reducible repeat (first|apply Kd.Xa|apply Kd.Wa|apply Kd.gb));exact Qak.out,xaH⟩
           ·rw [if_neg bN] at H;exact absurd H (by simp)
          ·rw [if_neg XK] at H;have vT:(Kb == 4)=false:=beq_eq_false_iff_ne.mpr XK;have vaj:(Kb != 4)=true:=bne_iff_ne.mpr XK;obtain rfl:=Option.some.inj H;have LJ:wc.cell? ⟨ya,0,none⟩=some (.int .i64 Kb):=(ia oa.out 0).trans rfl;have KJ:wc.cell? ⟨ya,1,none⟩=some (.int .i64 Ja):=(ia oa.out 1).trans rfl;have JJ:wc.cell? ⟨ya,2,none⟩=some (.int .i64 Ga):=(ia oa.out 2).trans rfl;have IJ:wc.cell? ⟨ya,3,none⟩=some (.int .i64 Ia):=(ia oa.out 3).trans rfl;have HJ:wc.cell? ⟨ya,4,none⟩=some (.int .i64 Db):=(ia oa.out 4).trans rfl;have iS:wc.cell? ⟨ya,5,none⟩=some (.int .i64 Bc):=(ia oa.out 5).trans rfl;have gS:wc.cell? ⟨ya,6,none⟩=some (.string tc):=(ia oa.out 6).trans rfl;have VI:=aa oa.out 0;have UI:=aa oa.out 1;have TI:=aa oa.out 2;have SI:=aa oa.out 3;have RI:=aa oa.out 4;have OQ:=aa oa.out 5;have NQ:=aa oa.out 6;go_wp2_with (first|((with_reducible refine Jd (b:=.append) (xs:=#[.tmp 27,.tmp 30]) rfl ?_);at_builtin;refine Kd.Rg (Kd.int .i64) (w0:=w) w.heap.size rfl (.tmp 27) (.tmp 30) 22 3 (.int .i64 0) 8 rfl Try.underlying22 info3 rfl (by decide) (by omega) wm ud Ia [.int .i64 Ia] (fun _=>True) (fun _=>False) rfl rfl ?aP (fun _ hk=>hk.elim) ?aF ?aO ?aB ?aS ?aL ?_;(case aP=>exact rfl);(case aB=>exact taH);(case aF=>exact (fun _ _=>trivial));(case aO=>exact NaH);(case aS=>exact (La taH));(case aL=>have:=VT.out;omega);intro fz UZ ho hb hg hat;rw [← Cw.out] at ho;have Eb:=ga.mk (Vc (g:=ya) (o:=.cells #[.int .i64 Kb,.int .i64 Ja,.int .i64 Ga,.int .i64 Ia,.int .i64 Db,.int .i64 Bc,.string tc] 65 (0,0)) vaH hg (Kd.tj Oc.out oa.out (by decide)));have Fb:=ga.mk (hb);have Ob:=ga.mk (ho);clear oa HB Oc;have oa:=Eb;have HB:=Fb;have yp:=Ob;clear Eb Fb Ob ho hb hg hat;have fS:UZ.cell? ⟨ya,0,none⟩=some (.int .i64 Kb):=(ia oa.out 0).trans rfl;have eS:UZ.cell? ⟨ya,1,none⟩=some (.int .i64 Ja):=(ia oa.out 1).trans rfl;have dS:UZ.cell? ⟨ya,2,none⟩=some (.int .i64 Ga):=(ia oa.out 2).trans rfl;have cS:UZ.cell? ⟨ya,3,none⟩=some (.int .i64 Ia):=(ia oa.out 3).trans rfl;have bS:UZ.cell? ⟨ya,4,none⟩=some (.int .i64 Db):=(ia oa.out 4).trans rfl;have J4:UZ.cell? ⟨ya,5,none⟩=some (.int .i64 Bc):=(ia oa.out 5).trans rfl;have I4:UZ.cell? ⟨ya,6,none⟩=some (.string tc):=(ia oa.out 6).trans rfl;have MQ:=aa oa.out 0;have LQ:=aa oa.out 1;have KQ:=aa oa.out 2;have JQ:=aa oa.out 3;have IQ:=aa oa.out 4;have J2:=aa oa.out 5;have I2:=aa oa.out 6));go_ret;exact ⟨_,by first|rfl|(simp [Pa,Oa] <;> rfl)|(simp [*,Pa,Oa] <;> rfl),by (with_reducible repeat (first|apply Kd.Xa|apply Kd.Wa|apply Kd.gb));exact yp.out,xaH⟩
        ·rw [if_neg VB] at H;exact absurd H (by simp)
       ·replace Hs:=Bool.eq_false_iff.mpr Hs;subst Hs;have H1:(some ud)=some r:=by rw [if_neg (show ¬ (false=true) by decide)] at H;exact H
        clear H;have H:=H1;clear H1;obtain rfl:=Option.some.inj H;go_wp2;go_ret;exact ⟨_,by first|rfl|(simp [Pa,Oa] <;> rfl)|(simp [*,Pa,Oa] <;> rfl),HaH,xaH⟩
mutual
def Zd.j0:Nat→List Bool→Int→Int→Int→Int→Int→Int→ByteArray→Option (List Bool)
 | 0,_,_,_,_,_,_,_,_=>none
 | k + 1,x0,yc,Qc,Gc,Dc,Yb,Cm,Bm=>(Dd.f k yc Qc Gc Dc Yb Cm Bm).bind fun t104=>(Zd.l0 k x0 t104 (t104.length:Int) 0)
def Zd.l0:Nat→List Bool→List Int→Int→Int→Option (List Bool)
 | 0,_,_,_,_=>none
 | k + 1,x0,ZE,tU,WB=>if WB < tU then (if 0 ≤ WB then (if WB < (ZE.length:Int) then (if 0 ≤ (rd ZE WB) then (if (rd ZE WB) < (x0.length:Int) then (Zd.l0 k (x0.set ((rd ZE WB):Int).toNat true) ZE tU (wrap64 (WB + 1))) else (none)) else (none)) else (none)) else (none)) else (some x0)
end
def Zd.f (k:Nat) (l0:List Bool) (Jc:Int) (Vb:Int) (Pb:Int) (Qb:Int) (jc:Int) (Sc:Int) (td:ByteArray):Option (List Bool):=(th.f Jc Vb Pb Qb jc Sc td).bind fun t102=>(if t102 ≥ 0 then (if 0 ≤ t102 then (if t102 < (l0.length:Int) then (Zd.j0 k (l0.set (t102:Int).toNat false) Jc Vb Pb Qb jc Sc td) else (none)) else (none)) else (Zd.j0 k l0 Jc Vb Pb Qb jc Sc td))
theorem Zd.calls (k:Nat) (Yk:Nat→Prop) (Bg:Value) (l0:List Bool) (Jc:Int) (Vb:Int) (Pb:Int) (Qb:Int) (jc:Int) (Sc:Int) (td:ByteArray) (r:List Bool) (w0 w:World) (hB:Below w0.heap.size w0 w) (Lk:Kd.R Kd.bool 4 w w0.heap.size Yk Bg l0) (h:Zd.f k l0 Jc Vb Pb Qb jc Sc td=some r) :
  Calls Try.prog 79 #[Bg,.agg #[.int .i64 Jc,.int .i64 Vb,.int .i64 Pb,.int .i64 Qb,.int .i64 jc,.int .i64 Sc,.string td]] w fun e w'=>e = .returned (.tuple #[])∧Kd.R Kd.bool 4 w' w0.heap.size (fun k_=>(Yk k_ ∨ w.heap.size ≤ k_)) Bg r∧Below w0.heap.size w0 w'∧Kept w w' (fun k_=>Yk k_):=by
 have MA:=Try.underlying65;have QH:=ga.mk (show Kd.R Kd.bool 4 w w0.heap.size (fun k_=>(Yk k_ ∨ w.heap.size ≤ k_)) Bg l0 from Kd.xd Lk (fun k_ hk=>(.inl hk)));have HK:=ga.mk (Kept.refl w (fun k_=>Yk k_));have HW0:=ga.mk hB.size;have HB:=ga.mk hB;clear hB;have H:((th.f Jc Vb Pb Qb jc Sc td).bind fun t102=>(if t102 ≥ 0 then (if 0 ≤ t102 then (if t102 < (l0.length:Int) then (Zd.j0 k (l0.set (t102:Int).toNat false) Jc Vb Pb Qb jc Sc td) else (none)) else (none)) else (Zd.j0 k l0 Jc Vb Pb Qb jc Sc td)))=some r:=h;clear h;replace H:=Option.bind_eq_some_iff.mp H;obtain ⟨t102,Kz,H⟩:=H;replace H:(if t102 ≥ 0 then (if 0 ≤ t102 then (if t102 < (l0.length:Int) then (Zd.j0 k (l0.set (t102:Int).toNat false) Jc Vb Pb Qb jc Sc td) else (none)) else (none)) else (Zd.j0 k l0 Jc Vb Pb Qb jc Sc td))=some r:=H;have A3:=ga.mk Kz;clear Kz;have PZ:=ga.mk H;clear H;go_enter Try.func79,Try.ntmps79
 go_upto_if 10 with (first|((with_reducible refine Ab (N:=3) rfl ?_);refine Lb ?hg (N:=3) ?hd (cs:=#[.int .i64 Jc,.int .i64 Vb,.int .i64 Pb,.int .i64 Qb,.int .i64 jc,.int .i64 Sc,.string td]) (t:=65) ?hr ?_;(case hd=>rfl);(case hg=>rfl);(case hr=>first|(go_simp;done)|(go_simp;rfl));intro ya hg w5 Sb hb;have Eb:=ga.mk (Kd.ld (by (with_reducible repeat (first|apply Kd.Xa|apply Kd.Wa|apply Kd.gb));exact QH.out) hb);have Fb:=ga.mk (Kept.below (S:=(fun k_=>Yk k_)) IaH hb);have Ob:=ga.mk (Ra uaH hb);have Ec:=ga.mk (Sb);have gf:=ga.mk ((by rw [hg];exact (by first|exact HK.out.1|exact (show Kept w _ (fun k_=>Yk k_) from by repeat (first|(with_reducible first|exact HK.out|apply Kept.alloc|apply Kept.drewN|apply Kept.drew)|exact HK.out)).1):w.heap.size ≤ ya));have Zf:=ga.mk ((by rw [hg];exact (La uaH):w0.heap.size ≤ ya));clear QH HK HB;have QH:=Eb;have HK:=Fb;have HB:=Ob;have oa:=Ec;have Vd:=gf;have Ta:=Zf;clear Eb Fb Ob Ec gf Zf hb Sb hg;have Uq:w5.cell? ⟨ya,0,none⟩=some (.int .i64 Jc):=(ia oa.out 0).trans rfl;have Rq:w5.cell? ⟨ya,1,none⟩=some (.int .i64 Vb):=(ia oa.out 1).trans rfl;have Qq:w5.cell? ⟨ya,2,none⟩=some (.int .i64 Pb):=(ia oa.out 2).trans rfl;have Pq:w5.cell? ⟨ya,3,none⟩=some (.int .i64 Qb):=(ia oa.out 3).trans rfl;have Oq:w5.cell? ⟨ya,4,none⟩=some (.int .i64 jc):=(ia oa.out 4).trans rfl;have Ju:w5.cell? ⟨ya,5,none⟩=some (.int .i64 Sc):=(ia oa.out 5).trans rfl;have Iu:w5.cell? ⟨ya,6,none⟩=some (.string td):=(ia oa.out 6).trans rfl;have Nq:=aa oa.out 0;have Mq:=aa oa.out 1;have Kq:=aa oa.out 2;have Jq:=aa oa.out 3;have Iq:=aa oa.out 4;have bu:=aa oa.out 5;have au:=aa oa.out 6)|((with_reducible refine yb (f:=87) rfl ?_);refine Pc (some 8) rfl rfl Try.func87 (by kernel_rfl) rfl #[.agg #[.int .i64 Jc,.int .i64 Vb,.int .i64 Pb,.int .i64 Qb,.int .i64 jc,.int .i64 Sc,.string td]] rfl waH ?_;(with_reducible refine (th.calls Jc Vb Pb Qb jc Sc td t102 _ A3.out).mono ?_);rintro e w7 ⟨rfl,hb⟩;refine ⟨_,rfl,?_⟩;have Eb:=ga.mk (Kd.ld (by (with_reducible repeat (first|apply Kd.Xa|apply Kd.Wa|apply Kd.gb));exact QH.out) hb);have Fb:=ga.mk (Va (g:=ya) (o:=.cells #[.int .i64 Jc,.int .i64 Vb,.int .i64 Pb,.int .i64 Qb,.int .i64 jc,.int .i64 Sc,.string td] 65 (0,0)) vaH hb);have Ob:=ga.mk (Kept.below (S:=(fun k_=>Yk k_)) LaH hb);have Ec:=ga.mk (Ra taH hb);clear QH oa HK HB;have QH:=Eb;have oa:=Fb;have HK:=Ob;have HB:=Ec;clear Eb Fb Ob Ec;(try clear hb);(try clear Uj);(try clear hk);(try clear hi)))
 (try simp only [Act.put,List.setIfInBounds_toArray,List.set_cons_zero,List.set_cons_succ])
 go_cut [] (fun wc=>∃ (kq:Nat) (MV:List Bool),ga (Zd.j0 kq MV Jc Vb Pb Qb jc Sc td=some r)∧ga (kq ≤ k)∧ga (Kd.R Kd.bool 4 wc w0.heap.size (fun k_=>(Yk k_ ∨ w.heap.size ≤ k_)) Bg MV)∧ga (wc.heap[ya]? = some (.cells #[.int .i64 Jc,.int .i64 Vb,.int .i64 Pb,.int .i64 Qb,.int .i64 jc,.int .i64 Sc,.string td] 65 (0,0)))∧ga (Kept w wc (fun k_=>Yk k_))∧ga (Below w0.heap.size w0 wc))
 case first =>
  have H:=PZ.out;clear PZ
  by_cases c8:t102 ≥ 0
  ·rw [if_pos c8] at H;have Zq:decide (0 ≤ t102)=true:=decide_eq_true c8;clear c8;(first|rw [Zq]|(simp only [nc,oc];rw [Zq])|skip)
   by_cases c9:0 ≤ t102
   ·rw [if_pos c9] at H;have Pv:decide (0 ≤ t102)=true:=decide_eq_true c9;clear c9
    by_cases Ts:t102 < (l0.length:Int)
    ·rw [if_pos Ts] at H;have Bt:decide (t102 < (l0.length:Int))=true:=decide_eq_true Ts;clear Ts;obtain ⟨Ag,bp⟩:∃ y_:List Bool,y_=(l0.set (t102:Int).toNat false):=⟨_,rfl⟩;replace H:(Zd.j0 k Ag Jc Vb Pb Qb jc Sc td)=some r:=by first|(rw [bp];with_reducible exact H)|(have Ed:=(Option.bind_some _ _).symm.trans H;rw [bp];with_reducible exact Ed)|(have Ed:=(Option.bind_some _ _).symm.trans H;with_reducible exact Ed)|with_reducible exact H|(rw [bp];exact H)|exact H
     have IM:=ga.mk bp;clear bp;have H':=ga.mk H;clear H;have KG:0 ≤ (t102:Int):=Ua;have JG:(t102:Int) < ((l0.length:Int):Int):=Ua;obtain ⟨QF,vw,oO,PX,jab,Oaw,dD⟩:=Kd.Xj QH.out (by omega);(first|cases oO|(injection oO with qj sw tw;(first|subst qj|(injection qj with qj;subst qj));subst tw;clear sw));have rad:=ga.mk PX;have Kax:=ga.mk dD;clear PX jab dD;have Zac:=ga.mk (show (Yk QF ∨ w.heap.size ≤ QF) from (QH.out.1 _ rfl));obtain ⟨FF,Maa⟩:=Kd.Yh false QH.out (t102:Int) KG JG;replace KG:=eq_true KG;replace JG:=eq_true JG;have oG:=Kd.Ml QH.out (t102:Int) false;go_wp2_with (first|((with_reducible refine Ke (t:=4) (p:=13) rfl ?_);refine me (t:=4) (p:=13) (v:=?QV) (w1:=(w7.setCell ⟨QF,(t102:Int).toNat,none⟩ (.bool false))) ?hg ?ho ?hn ?hr ?_;(case ho=>rfl);(case hg=>rfl);(case hn=>rfl);(case hr=>first|(go_simp;done)|(go_simp;rfl));intro sr hw;have hg:w7.grownBy sr (some QF):=(by rw [hw];exact oG.2);have Il:Kd.R Kd.bool 4 sr w0.heap.size (fun k_=>(Yk k_ ∨ w.heap.size ≤ k_)) (.slice (some ⟨QF,0,none⟩) l0.length vw) Ag:=(by rw [hw,IM.out];exact oG.1);clear oG;have Eb:=ga.mk (Il);have Fb:=ga.mk (Vc (g:=ya) (o:=.cells #[.int .i64 Jc,.int .i64 Vb,.int .i64 Pb,.int .i64 Qb,.int .i64 jc,.int .i64 Sc,.string td] 65 (0,0)) vaH hg (Kd.tj QH.out oa.out (by decide)));have Ob:=ga.mk ((by rw [hw];exact ua (HB.out) rad.out:Below w0.heap.size w0 sr));have Ec:=ga.mk (Kept.Ki (S:=(fun k_=>Yk k_)) hg LaH (fun k_ e_=>(QH.out.1 k_ e_)));clear QH oa HB HK;have QH:=Eb;have oa:=Fb;have HB:=Ob;have HK:=Ec;clear Eb Fb Ob Ec hg hw Il))
     go_meet
     case rel=>exact ⟨_,(Ag),H',⟨by first|omega|exact Nat.le_refl _⟩,⟨taI⟩,⟨zaH⟩,⟨EaH⟩,⟨xaH⟩⟩
    ·rw [if_neg Ts] at H;exact absurd H (by simp)
   ·rw [if_neg c9] at H;exact absurd H (by simp)
  ·rw [if_neg c8] at H;have Zq:decide (0 ≤ t102)=false:=decide_eq_false c8;clear c8;(first|rw [Zq]|(simp only [nc,oc];rw [Zq])|skip);have H':=ga.mk H;clear H;go_wp2
   go_meet
   case rel=>exact ⟨_,(l0),H',⟨by first|omega|exact Nat.le_refl _⟩,⟨taI⟩,⟨zaH⟩,⟨EaH⟩,⟨xaH⟩⟩
 case rest =>
  clear PZ
  try clear c1
  try clear p1
  try clear q1
  try clear hx1
  try clear p2
  try clear c7
  try clear c8
  try clear Zq
  try clear c9
  try clear Pv
  try clear Ts
  try clear Bt
  try clear KG
  try clear JG
  try clear LN
  try clear Naa
  try clear Uq
  try clear Rq
  try clear Qq
  try clear Pq
  try clear Oq
  try clear Ju
  try clear Iu
  try clear Nq
  try clear Mq
  try clear Kq
  try clear Jq
  try clear Iq
  try clear bu
  try clear au
  try clear FF
  try clear KG
  try clear JG
  obtain ⟨kq,MV,HA,HJ3,bf,oa,HK,HB⟩:=hcut;cases kq with
  | zero=>exact absurd HA.out (by simp [Zd.j0])
  | succ F1 =>
   have H:=HA.out;clear HA;simp only [Zd.j0] at H;replace H:=Option.bind_eq_some_iff.mp H;obtain ⟨t104,xG,H⟩:=H;replace H:(Zd.l0 F1 MV t104 (t104.length:Int) 0)=some r:=H;have A14:=ga.mk xG;clear xG;have H':=ga.mk H;clear H;have vq:wc.cell? ⟨ya,0,none⟩=some (.int .i64 Jc):=(ia oa.out 0).trans rfl;have uq:wc.cell? ⟨ya,1,none⟩=some (.int .i64 Vb):=(ia oa.out 1).trans rfl;have rq:wc.cell? ⟨ya,2,none⟩=some (.int .i64 Pb):=(ia oa.out 2).trans rfl;have qq:wc.cell? ⟨ya,3,none⟩=some (.int .i64 Qb):=(ia oa.out 3).trans rfl;have oq:wc.cell? ⟨ya,4,none⟩=some (.int .i64 jc):=(ia oa.out 4).trans rfl;have F5:wc.cell? ⟨ya,5,none⟩=some (.int .i64 Sc):=(ia oa.out 5).trans rfl;have E5:wc.cell? ⟨ya,6,none⟩=some (.string td):=(ia oa.out 6).trans rfl;have mq:=aa oa.out 0;have lq:=aa oa.out 1;have jq:=aa oa.out 2;have iq:=aa oa.out 3;have gq:=aa oa.out 4;have J3:=aa oa.out 5;have I3:=aa oa.out 6;go_wp2_with (first|((with_reducible refine yb (f:=88) rfl ?_);refine Pc (some 15) rfl rfl Try.func88 (by kernel_rfl) rfl #[.agg #[.int .i64 Jc,.int .i64 Vb,.int .i64 Pb,.int .i64 Qb,.int .i64 jc,.int .i64 Sc,.string td]] rfl waH ?_;(with_reducible refine (Dd.calls F1 Jc Vb Pb Qb jc Sc td t104 _ A14.out).mono ?_);rintro e Hz ⟨gz,rfl,Lk,hb⟩;refine ⟨_,rfl,?_⟩;have Eb:=ga.mk (Kd.ld TaH hb);have Fb:=ga.mk (Kd.Nd (Kd.MY (M:=fun k_=>(Yk k_ ∨ w.heap.size ≤ k_)) Lk (by first|exact HK.out.1|exact (show Kept w _ (fun k_=>Yk k_) from by repeat (first|(with_reducible first|exact HK.out|apply Kept.alloc|apply Kept.drewN|apply Kept.drew|refine Kept.setCell ?_ (.inr Vd.out) _)|exact HK.out)).1) (fun k_ h_=>.inr h_)) (La taH));have Ob:=ga.mk (Va (g:=ya) (o:=.cells #[.int .i64 Jc,.int .i64 Vb,.int .i64 Pb,.int .i64 Qb,.int .i64 jc,.int .i64 Sc,.string td] 65 (0,0)) vaH hb);have Ec:=ga.mk (Kept.below (S:=(fun k_=>Yk k_)) LaH hb);have gf:=ga.mk (Ra taH hb);clear bf oa HK HB;have bf:=Eb;have Kl:=Fb;have oa:=Ob;have HK:=Ec;have HB:=gf;clear Eb Fb Ob Ec gf;(try clear hb);(try clear Uj);(try clear hk);(try clear hi);(try clear Lk);obtain ⟨eay,Maw,Caw⟩:=Kd.od Kl.out;subst Caw))
   go_loopg [17] F1 (fun kq v17 w'=>∃ (WH:List Bool) (bk:Int),v17 = .int .i64 bk∧ga (Zd.l0 kq WH t104 (t104.length:Int) bk=some r)∧ga (kq ≤ F1)∧ga (Kd.R Kd.bool 4 w' w0.heap.size (fun k_=>(Yk k_ ∨ w.heap.size ≤ k_)) Bg WH)∧ga (Kd.R (Kd.int .i64) 3 w' w0.heap.size (fun k_=>(Yk k_ ∨ w.heap.size ≤ k_)) (.slice eay t104.length Maw) t104)∧ga (w'.heap[ya]? = some (.cells #[.int .i64 Jc,.int .i64 Vb,.int .i64 Pb,.int .i64 Qb,.int .i64 jc,.int .i64 Sc,.string td] 65 (0,0)))∧ga (Kept w w' (fun k_=>Yk k_))∧ga (Below w0.heap.size w0 w'))
   case atStart=>exact ⟨(MV),(0),AaH,H',⟨Nat.le_refl _⟩,⟨caI⟩,⟨by (with_reducible repeat (first|apply Kd.Xa|apply Kd.Wa|apply Kd.gb));exact Kd.xd Kl.out (fun _ hk=>hk.1)⟩,⟨zaH⟩,⟨EaH⟩,⟨xaH⟩⟩
   case round =>
    clear H'
    try clear c1
    try clear p1
    try clear q1
    try clear hx1
    try clear p2
    try clear c7
    try clear c8
    try clear Zq
    try clear c9
    try clear Pv
    try clear Ts
    try clear Bt
    try clear KG
    try clear JG
    try clear LN
    try clear Naa
    try clear vq
    try clear uq
    try clear rq
    try clear qq
    try clear oq
    try clear F5
    try clear E5
    try clear Uq
    try clear Rq
    try clear Qq
    try clear Pq
    try clear Oq
    try clear Ju
    try clear Iu
    try clear mq
    try clear lq
    try clear jq
    try clear iq
    try clear gq
    try clear J3
    try clear I3
    try clear Nq
    try clear Mq
    try clear Kq
    try clear Jq
    try clear Iq
    try clear bu
    try clear au
    try clear FF
    try clear p1
    try clear KG
    try clear p2
    try clear q1
    try clear JG
    (try clear HA);(try clear zl);(try clear bf);(try clear OH);(try clear oa);(try clear HK);(try clear HB);obtain ⟨WH,bk,rfl,HA,zl,bf,OH,oa,HK,HB⟩:=hrel;cases gk with
    | zero=>exact absurd HA.out (by simp [Zd.l0])
    | succ k2 =>
     have H:=HA.out;clear HA;simp only [Zd.l0] at H
     by_cases dr:bk < (t104.length:Int)
     ·rw [if_pos dr] at H;have qp:decide (bk < (t104.length:Int))=true:=decide_eq_true dr;clear dr
      by_cases lp:0 ≤ bk
      ·rw [if_pos lp] at H;have yw:decide (0 ≤ bk)=true:=decide_eq_true lp;clear lp
       by_cases tr:bk < (t104.length:Int)
       ·rw [if_pos tr] at H;have Zy:decide (bk < (t104.length:Int))=true:=decide_eq_true tr;clear tr
        by_cases Hs:0 ≤ (rd t104 bk)
        ·rw [if_pos Hs] at H;have DH:decide (0 ≤ (rd t104 bk))=true:=decide_eq_true Hs;clear Hs
         by_cases VB:(rd t104 bk) < (WH.length:Int)
         ·rw [if_pos VB] at H;have sM:decide ((rd t104 bk) < (WH.length:Int))=true:=decide_eq_true VB;clear VB;obtain ⟨Yg,Ff⟩:∃ y_:List Bool,y_=(WH.set ((rd t104 bk):Int).toNat true):=⟨_,rfl⟩;replace H:(Zd.l0 k2 Yg t104 (t104.length:Int) (wrap64 (bk + 1)))=some r:=by first|(rw [Ff];with_reducible exact H)|(have Ed:=(Option.bind_some _ _).symm.trans H;rw [Ff];with_reducible exact Ed)|(have Ed:=(Option.bind_some _ _).symm.trans H;with_reducible exact Ed)|with_reducible exact H|(rw [Ff];exact H)|exact H
          have Ej:=ga.mk Ff;clear Ff;have H':=ga.mk H;clear H;have BN:0 ≤ (bk:Int):=Ua;have xN:bk < (t104.length:Int):=Ua;obtain ⟨Oaj,wab,I1⟩:=Kd.Bi (Kd.Rb OH.out).2.2 bk BN xN;cases wab;replace BN:=eq_true BN;replace xN:=eq_true xN;have p23:0 ≤ ((rd t104 bk):Int):=Ua;have q23:((rd t104 bk):Int) < ((WH.length:Int):Int):=Ua;obtain ⟨YU,W5,fV,Jai,faw,KaE,pal⟩:=Kd.Xj bf.out (by omega);(first|cases fV|(injection fV with qj sw tw;(first|subst qj|(injection qj with qj;subst qj));subst tw;clear sw));have Sax:=ga.mk Jai;have SaF:=ga.mk pal;clear Jai faw pal;have qax:=ga.mk (show (Yk YU ∨ w.heap.size ≤ YU) from (bf.out.1 _ rfl));obtain ⟨uau,Fav⟩:=Kd.Yh false bf.out ((rd t104 bk):Int) p23 q23;replace p23:=eq_true p23;replace q23:=eq_true q23;have nG:=Kd.Ml bf.out ((rd t104 bk):Int) true;go_wp2_with (first|((with_reducible refine Ke (t:=4) (p:=23) rfl ?_);refine me (t:=4) (p:=23) (v:=?PV) (w1:=(wr.setCell ⟨YU,((rd t104 bk):Int).toNat,none⟩ (.bool true))) ?hg ?ho ?hn ?hr ?_;(case ho=>rfl);(case hg=>rfl);(case hn=>rfl);(case hr=>first|(go_simp;done)|(go_simp;rfl));intro Pz hw;have hg:wr.grownBy Pz (some YU):=(by rw [hw];exact nG.2);have Il:Kd.R Kd.bool 4 Pz w0.heap.size (fun k_=>(Yk k_ ∨ w.heap.size ≤ k_)) (.slice (some ⟨YU,0,none⟩) WH.length W5) Yg:=(by rw [hw,Ej.out];exact nG.1);clear nG;have Eb:=ga.mk (Il);have Fb:=ga.mk (Kd.mj (v:=(.slice (some ⟨YU,0,none⟩) WH.length W5)) (by (with_reducible repeat (first|apply Kd.Xa|apply Kd.Wa|apply Kd.gb));exact OH.out) (Kd.mh bf.out) (by decide) hg);have Ob:=ga.mk (Vc (g:=ya) (o:=.cells #[.int .i64 Jc,.int .i64 Vb,.int .i64 Pb,.int .i64 Qb,.int .i64 jc,.int .i64 Sc,.string td] 65 (0,0)) vaH hg (Kd.tj bf.out oa.out (by decide)));have Ec:=ga.mk ((by rw [hw];exact ua (HB.out) Sax.out:Below w0.heap.size w0 Pz));have gf:=ga.mk (Kept.Ki (S:=(fun k_=>Yk k_)) hg LaH (fun k_ e_=>(bf.out.1 k_ e_)));clear bf OH oa HB HK;have bf:=Eb;have OH:=Fb;have oa:=Ob;have HB:=Ec;have HK:=gf;clear Eb Fb Ob Ec gf hg hw Il))
          go_roundg k2
          case measure=>have:=HJ3.out;have:=zl.out;omega
          case rel=>exact ⟨(Yg),(wrap64 (bk + 1)),AaH,H',⟨by have:=HJ3.out;have:=zl.out;omega⟩,⟨caI⟩,⟨by (with_reducible repeat (first|apply Kd.Xa|apply Kd.Wa|apply Kd.gb));exact OH.out⟩,⟨zaH⟩,⟨EaH⟩,⟨xaH⟩⟩
         ·rw [if_neg VB] at H;exact absurd H (by simp)
        ·rw [if_neg Hs] at H;exact absurd H (by simp)
       ·rw [if_neg tr] at H;exact absurd H (by simp)
      ·rw [if_neg lp] at H;exact absurd H (by simp)
     ·rw [if_neg dr] at H;have qp:decide (bk < (t104.length:Int))=false:=decide_eq_false dr;clear dr;obtain rfl:=Option.some.inj H;go_wp2
      first|go_end0|((try simp only [Exit.inBlock,Exit.then]);refine bodyPost_ret (results_none rfl _ _ _) rfl ?_)
      exact ⟨by first|rfl|(simp [Pa,Oa] <;> rfl)|(simp [*,Pa,Oa] <;> rfl),caI,xaH,EaH⟩
theorem zq {x:He} (h:x.f0=1 ∨ x.f0=6):Hg x=[x.f2]:=if_pos h
theorem YB {x:He} (h:x.f0=2):Hg x=[x.f2,x.f3]:=by
 unfold Hg;rw [if_neg (by omega),if_pos h]
theorem Hw {x:He} (h:x.f0=3 ∨ x.f0=4):Hg x=[x.f3] ++ (if 0 ≤ x.f2 then [x.f2] else []) ++ (if x.f0=4 then [x.f4] else []):=by
 unfold Hg;rw [if_neg (by omega),if_neg (by omega),if_pos h]
theorem Qz {x:He} (h1:¬ (x.f0=1 ∨ x.f0=6)) (h2:¬ x.f0=2) (h3:¬ (x.f0=3 ∨ x.f0=4)):Hg x=[]:=by
 unfold Hg;rw [if_neg h1,if_neg h2,if_neg h3]
theorem kF {x:He} (ha:0 ≤ x.f2) (h4:x.f0=4):Hg x=[x.f3] ++ [x.f2] ++ [x.f4]:=by rw [Hw (Or.inr h4),if_pos ha,if_pos h4]
theorem jF {x:He} (ha:0 ≤ x.f2) (h3:x.f0=3 ∨ x.f0=4) (h4:¬ x.f0=4):Hg x=[x.f3] ++ [x.f2]:=by rw [Hw h3,if_pos ha,if_neg h4];rfl
theorem iF {x:He} (ha:¬ 0 ≤ x.f2) (h4:x.f0=4):Hg x=[x.f3] ++ [x.f4]:=by rw [Hw (Or.inr h4),if_neg ha,if_pos h4];rfl
theorem gF {x:He} (ha:¬ 0 ≤ x.f2) (h3:x.f0=3 ∨ x.f0=4) (h4:¬ x.f0=4):Hg x=[x.f3]:=by rw [Hw h3,if_neg ha,if_neg h4];rfl
theorem uH (x:He):Ev (fun k=>Dd.f k x.f0 x.f1 x.f2 x.f3 x.f4 x.f5 x.f6) (Hg x):=by
 unfold Dd.f;refine Ev.val ?_
 by_cases h1:x.f0=1
 ·rw [zq (Or.inl h1)];refine Ev.pos h1 (Ev.step (fun k=>by rw [Dd.j0]) ?_);exact Ev.pos (by rw [h1];rfl) (Ev.pos (by simp) (Ev.now _))
 refine Ev.neg h1 (Ev.step (fun k=>by rw [Dd.j0]) ?_)
 by_cases h6:x.f0=6
 ·rw [zq (Or.inr h6)];exact Ev.pos (by rw [h6];rfl) (Ev.pos (by simp) (Ev.now _))
 refine Ev.neg (by simp [h6]) ?_
 by_cases h2:x.f0=2
 ·rw [YB h2];exact Ev.pos h2 (Ev.val (Ev.pos (by simp) (Ev.now _)))
 refine Ev.neg h2 ?_
 have key:∀ b:Bool,(b=true ↔ x.f0=3 ∨ x.f0=4)→Ev (fun k=>Dd.j1 k [] b x.f0 x.f1 x.f2 x.f3 x.f4 x.f5 x.f6) (Hg x):=by
  intro b hb;refine Ev.step (fun k=>by rw [Dd.j1]) ?_
  by_cases M5:b=true
  ·have h34:=hb.1 M5;refine Ev.pos M5 (Ev.pos (by simp) (Ev.val ?_))
   by_cases ha:0 ≤ x.f2
   ·refine Ev.pos ha (Ev.pos (by simp) (Ev.val ?_))
    by_cases h4:x.f0=4
    ·rw [kF ha h4];exact Ev.pos h4 (Ev.pos (by simp) (Ev.now _))
    ·rw [jF ha h34 h4];exact Ev.neg h4 (Ev.now _)
   ·refine Ev.neg ha ?_
    by_cases h4:x.f0=4
    ·rw [iF ha h4];exact Ev.pos h4 (Ev.pos (by simp) (Ev.now _))
    ·rw [gF ha h34 h4];exact Ev.neg h4 (Ev.now _)
  ·rw [Qz (fun h=>h.elim h1 h6) h2 (fun h=>M5 (hb.2 h))];exact Ev.neg M5 (Ev.now _)
 by_cases h3:x.f0=3
 ·exact Ev.pos h3 (key _ (by simp [h3]))
 ·exact Ev.neg h3 (key _ (by simp [h3]))
theorem oK (x:He):Ev (fun k=>Ge.f k x.f0 x.f1 x.f2 x.f3 x.f4 x.f5 x.f6) (Hg x):=by
 unfold Ge.f
 by_cases h1:x.f0=1
 ·rw [zq (Or.inl h1)];refine Ev.pos h1 (Ev.step (fun k=>by rw [Ge.j0]) ?_);exact Ev.pos (by rw [h1];rfl) (Ev.now _)
 refine Ev.neg h1 (Ev.step (fun k=>by rw [Ge.j0]) ?_)
 by_cases h6:x.f0=6
 ·rw [zq (Or.inr h6)];exact Ev.pos (by rw [h6];rfl) (Ev.now _)
 refine Ev.neg (by simp [h6]) ?_
 by_cases h2:x.f0=2
 ·rw [YB h2];exact Ev.pos h2 (Ev.now _)
 refine Ev.neg h2 ?_
 have key:∀ b:Bool,(b=true ↔ x.f0=3 ∨ x.f0=4)→Ev (fun k=>Ge.j1 k b x.f0 x.f1 x.f2 x.f3 x.f4 x.f5 x.f6) (Hg x):=by
  intro b hb;refine Ev.step (fun k=>by rw [Ge.j1]) ?_
  by_cases M5:b=true
  ·have h34:=hb.1 M5;refine Ev.pos M5 (Ev.val ?_)
   by_cases ha:0 ≤ x.f2
   ·refine Ev.pos ha (Ev.pos (by simp) (Ev.val ?_))
    by_cases h4:x.f0=4
    ·rw [kF ha h4];exact Ev.pos h4 (Ev.pos (by simp) (Ev.now _))
    ·rw [jF ha h34 h4];exact Ev.neg h4 (Ev.now _)
   ·refine Ev.neg ha ?_
    by_cases h4:x.f0=4
    ·rw [iF ha h4];exact Ev.pos h4 (Ev.pos (by simp) (Ev.now _))
    ·rw [gF ha h34 h4];exact Ev.neg h4 (Ev.now _)
  ·rw [Qz (fun h=>h.elim h1 h6) h2 (fun h=>M5 (hb.2 h))];exact Ev.neg M5 (Ev.now _)
 by_cases h3:x.f0=3
 ·exact Ev.pos h3 (key _ (by simp [h3]))
 ·exact Ev.neg h3 (key _ (by simp [h3]))
theorem gO (us:List Int) (hl:us.length ≤ 1048576):∀ (d i:Nat) (s:List Bool),i + d=us.length→(∀ u ∈ us,0 ≤ u∧u < (s.length:Int))→Ev (fun k=>Zd.l0 k s us (us.length:Int) (i:Int)) ((us.drop i).foldl Mg s):=by
 intro d
 induction d with
 | zero =>
  intro i s hi _;obtain rfl:i=us.length:=by omega
  rw [List.drop_length];refine Ev.step (fun k=>by rw [Zd.l0]) ?_;exact Ev.neg (by omega) (Ev.now _)
 | succ d ih =>
  intro i s hi hu;have hi':i < us.length:=by omega
  obtain ⟨u0,u1⟩:=hu _ (List.getElem_mem hi');rw [List.drop_eq_getElem_cons hi',List.foldl_cons];refine Ev.step (fun k=>by rw [Zd.l0]) ?_;refine Ev.pos (by omega) (Ev.pos (by omega) (Ev.pos (by omega) ?_));rw [Kj hi',Xd hi' (by omega)];exact Ev.pos u0 (Ev.pos u1 (ih (i + 1) _ (by omega) (fun u h=>by rw [List.length_set];exact hu u h)))
theorem nK (s:List Bool) (x:He) (hx:Ys s.length x):Ev (fun k=>Zd.f k s x.f0 x.f1 x.f2 x.f3 x.f4 x.f5 x.f6) (Zn s x):=by
 obtain ⟨h1,h2⟩:=hx
 have hm:th.f x.f0 x.f1 x.f2 x.f3 x.f4 x.f5 x.f6=some (Am x):=by
  unfold th.f Am
  by_cases h4:x.f0=4
  ·rw [if_pos h4,if_pos h4]
  ·rw [if_neg h4,if_neg h4]
   by_cases h6:x.f0=6
   ·rw [if_pos h6,if_pos h6]
   ·rw [if_neg h6,if_neg h6]
 have DZ:=Xs x;unfold Zd.f Zn;rw [hm];refine Ev.val ?_
 have tail:∀ s2:List Bool,s2.length=s.length→Ev (fun k=>Zd.j0 k s2 x.f0 x.f1 x.f2 x.f3 x.f4 x.f5 x.f6) ((Hg x).foldl Mg s2):=by
  intro s2 lQ;refine Ev.step (fun k=>by rw [Zd.j0]) ?_;refine Ev.bind (uH x) ?_;have:=gO (Hg x) (by omega) (Hg x).length 0 s2 (by omega) (fun u hu=>by rw [lQ];exact h1 u hu)
  rwa [List.drop_zero] at this
 by_cases h:Am x ≥ 0
 ·rw [if_pos h]
  have hlt:Am x < (s.length:Int):=by
   have h':=h;unfold Am at h' ⊢
   by_cases h4:x.f0=4
   ·rw [if_pos h4] at h';omega
   ·rw [if_neg h4] at h' ⊢
    by_cases h6:x.f0=6
    ·rw [if_pos h6] at h';omega
    ·rw [if_neg h6];exact (h2 h4 h6).2
  exact Ev.pos h (Ev.pos h (Ev.pos hlt (tail _ (by rw [List.length_set]))))
 ·rw [if_neg h];exact Ev.neg h (tail _ rfl)
theorem mM (us:List Int) (hl:us.length ≤ 1048576):∀ (d i:Nat) (s:List Bool),i + d=us.length→(∀ u ∈ us,0 ≤ u∧u < (s.length:Int))→Ev (fun k=>Lc.l0 k s us (i:Int)) ((us.drop i).foldl Mg s):=by
 intro d
 induction d with
 | zero =>
  intro i s hi _;obtain rfl:i=us.length:=by omega
  rw [List.drop_length];refine Ev.step (fun k=>by rw [Lc.l0]) ?_;exact Ev.neg (by omega) (Ev.now _)
 | succ d ih =>
  intro i s hi hu;have hi':i < us.length:=by omega
  obtain ⟨u0,u1⟩:=hu _ (List.getElem_mem hi');rw [List.drop_eq_getElem_cons hi',List.foldl_cons];refine Ev.step (fun k=>by rw [Lc.l0]) ?_;refine Ev.pos (by omega) (Ev.pos (by omega) ?_);rw [Kj hi',Xd hi' (by omega)];exact Ev.pos u0 (Ev.pos u1 (ih (i + 1) _ (by omega) (fun u h=>by rw [List.length_set];exact hu u h)))
theorem nM (s:List Bool) (x:He) (hx:Ys s.length x):Ev (fun k=>Lc.f k x.f0 x.f1 x.f2 x.f3 x.f4 x.f5 x.f6 s) (Zn s x):=by
 obtain ⟨h1,h2⟩:=hx;have DZ:=Xs x;unfold Lc.f Zn Eg.f
 have tail:∀ s2:List Bool,s2.length=s.length→Ev (fun k=>Lc.j0 k s2 x.f0 x.f1 x.f2 x.f3 x.f4 x.f5 x.f6) ((Hg x).foldl Mg s2):=by
  intro s2 lQ;refine Ev.step (fun k=>by rw [Lc.j0]) ?_;refine Ev.bind (oK x) ?_;have:=mM (Hg x) (by omega) (Hg x).length 0 s2 (by omega) (fun u hu=>by rw [lQ];exact h1 u hu)
  rwa [List.drop_zero] at this
 by_cases h4:x.f0=4
 ·rw [if_pos h4];have hm:Am x = -1:=if_pos h4;rw [if_neg (by omega)];exact Ev.val (Ev.neg (by decide) (tail _ rfl))
 ·rw [if_neg h4];refine Ev.val ?_
  by_cases h6:x.f0=6
  ·have hm:Am x = -1:=by unfold Am;rw [if_neg h4,if_pos h6]
   rw [if_neg (by omega)];exact Ev.neg (by simp [h6]) (tail _ rfl)
  ·have hm:Am x=x.f1:=by unfold Am;rw [if_neg h4,if_neg h6]
   obtain ⟨d0,d1⟩:=h2 h4 h6;rw [hm,if_pos d0];exact Ev.pos (by simp [h6]) (Ev.pos d0 (Ev.pos d1 (tail _ (by rw [List.length_set]))))
def ze.l0:Nat→List Int→List Bool→Int→Int→Option (List Int)
 | 0,_,_,_,_=>none
 | k + 1,x3,x7,x8,x9=>if x9 < x8 then (if 0 ≤ x9 then (if x9 < (x7.length:Int) then (if Vf false x7 x9=true then (if x3.length < 17592186044416 then (ze.l0 k (x3 ++ [x9]) x7 x8 (wrap64 (x9 + 1))) else (none)) else (ze.l0 k x3 x7 x8 (wrap64 (x9 + 1)))) else (none)) else (none)) else (some x3)
def ze.f (k:Nat) (l0:List Bool):Option (List Int):=ze.l0 k (([]:List Int)) l0 (l0.length:Int) 0
theorem ze.calls (k:Nat) (A0:Option Addr) (c0:Nat) (l0:List Bool) (r:List Int) (w:World) (Ul:Kd.C Kd.bool w A0 l0.length l0) (hc0:l0.length ≤ c0) (h:ze.f k l0=some r) :
  Calls Try.prog 48 #[.slice A0 l0.length c0] w fun e w'=>∃ Nl:Value,e = .returned (Nl)∧Kd.R (Kd.int .i64) 3 w' w.heap.size (fun _=>True) Nl r∧Below w.heap.size w w':=by
 have ym:=ga.mk Ul;have eL:=ga.mk hc0;clear Ul hc0;have HB:=ga.mk (Below.refl w.heap.size w);have H:(ze.l0 k (([]:List Int)) l0 (l0.length:Int) 0)=some r:=h;clear h;obtain ⟨Yf,Hf⟩:∃ y_:List Int,y_=(([]:List Int)):=⟨_,rfl⟩;replace H:(ze.l0 k Yf l0 (l0.length:Int) 0)=some r:=by first|(rw [Hf];with_reducible exact H)|(have Ed:=(Option.bind_some _ _).symm.trans H;rw [Hf];with_reducible exact Ed)|(have Ed:=(Option.bind_some _ _).symm.trans H;with_reducible exact Ed)|with_reducible exact H|(rw [Hf];exact H)|exact H
 have Tk:=ga.mk Hf;clear Hf;have H':=ga.mk H;clear H;go_enter Try.func48,Try.ntmps48;go_wp2_with (first|((with_reducible refine Ab (N:=6) rfl ?_);refine Kd.Hj (Kd.int .i64) _ 3 ?hg (N:=6) ?hd (xs:=([]:List Int)) (inner:=[]) (ok:=fun _=>True) (Dh:=fun _=>True) ?hr ?hp (fun _ hk=>hk) trivial (Below.refl _ _) (Nat.le_refl _) (by simp) ?_;(case hd=>rfl);(case hg=>rfl);(case hr=>first|(go_simp;done)|(go_simp;rfl));(case hp=>exact (Pd.none _ _));intro fF w2 ho3 hb gm Pe;clear gm Pe;(first|rw [← Tk.out] at ho3|(simp only [Int.reduceToNat] at ho3;rw [← Tk.out] at ho3));have Eb:=ga.mk (Kd.Nd ho3 (La uaH));have Fb:=ga.mk (Ra uaH hb);clear HB;have nr:=Eb;have HB:=Fb;clear Eb Fb hb ho3))
 go_loopg [3,9] k (fun kq v3 v9 w'=>∃ (ie:List Int) (ah:Int),v9 = .int .i64 ah∧ga (ze.l0 kq ie l0 (l0.length:Int) ah=some r)∧ga (kq ≤ k)∧ga (Kd.R (Kd.int .i64) 3 w' w.heap.size (fun _=>True) v3 ie)∧ga (Below w.heap.size w w'))
 case atStart=>exact ⟨(Yf),(0),AaH,H',⟨Nat.le_refl _⟩,⟨saI⟩,⟨BaH⟩⟩
 case round =>
  clear H'
  try clear p2
  (try clear HA);(try clear wg);(try clear Oc);(try clear HB);obtain ⟨ie,ah,rfl,HA,wg,Oc,HB⟩:=hrel;cases gk with
  | zero=>exact absurd HA.out (by simp [ze.l0])
  | succ k1 =>
   have H:=HA.out;clear HA;simp only [ze.l0] at H
   by_cases c4:ah < (l0.length:Int)
   ·rw [if_pos c4] at H;have jk:decide (ah < (l0.length:Int))=true:=decide_eq_true c4;clear c4
    by_cases c5:0 ≤ ah
    ·rw [if_pos c5] at H;have fk:decide (0 ≤ ah)=true:=decide_eq_true c5;clear c5
     by_cases c6:ah < (l0.length:Int)
     ·rw [if_pos c6] at H;have gp:decide (ah < (l0.length:Int))=true:=decide_eq_true c6;clear c6;obtain ⟨bq7,Xaa⟩:∃ b_:Bool,b_=(Vf false l0 ah):=⟨_,rfl⟩;replace H:(if bq7=true then (if ie.length < 17592186044416 then (ze.l0 k1 (ie ++ [ah]) l0 (l0.length:Int) (wrap64 (ah + 1))) else (none)) else (ze.l0 k1 ie l0 (l0.length:Int) (wrap64 (ah + 1))))=some r:=by rw [← Xaa] at H;exact H
      have Zaj:=ga.mk Xaa;clear Xaa
      by_cases c8:bq7=true
      ·subst c8;have H1:(if ie.length < 17592186044416 then (ze.l0 k1 (ie ++ [ah]) l0 (l0.length:Int) (wrap64 (ah + 1))) else (none))=some r:=by rw [if_pos rfl] at H;exact H
       clear H;have H:=H1;clear H1
       by_cases c9:ie.length < 17592186044416
       ·rw [if_pos c9] at H;have mac:=ga.mk c9;clear c9;obtain ⟨Wd,Gf⟩:∃ y_:List Int,y_=(ie ++ [ah]):=⟨_,rfl⟩;replace H:(ze.l0 k1 Wd l0 (l0.length:Int) (wrap64 (ah + 1)))=some r:=by first|(rw [Gf];with_reducible exact H)|(have Ed:=(Option.bind_some _ _).symm.trans H;rw [Gf];with_reducible exact Ed)|(have Ed:=(Option.bind_some _ _).symm.trans H;with_reducible exact Ed)|with_reducible exact H|(rw [Gf];exact H)|exact H
        have Jl:=ga.mk Gf;clear Gf;have H':=ga.mk H;clear H;have Rl:0 ≤ (ah:Int):=Ua;have Ql:ah < (l0.length:Int):=Ua;obtain ⟨iG,zz,ig⟩:=Kd.lg ym.out ah Rl Ql;(try rw [← Zaj.out] at ig);cases zz;replace ig:=Sa HB.out ig;replace Rl:=eq_true Rl;replace Ql:=eq_true Ql;go_wp2_with (first|((with_reducible refine Jd (b:=.append) (xs:=#[.tmp 15,.tmp 17]) rfl ?_);at_builtin;refine Kd.Rg (Kd.int .i64) (w0:=w) w.heap.size rfl (.tmp 15) (.tmp 17) 22 3 (.int .i64 0) 8 rfl Try.underlying22 info3 rfl (by decide) (by omega) u3 ie ah [.int .i64 ah] (fun _=>True) (fun _=>False) rfl rfl ?aP (fun _ hk=>hk.elim) ?aF ?aO ?aB ?aS ?aL ?_;(case aP=>exact rfl);(case aB=>exact uaH);(case aF=>exact (fun _ _=>trivial));(case aO=>exact NaH);(case aS=>exact (La uaH));(case aL=>have:=mac.out;omega);intro XB Us ho hb hg hat;rw [← Jl.out] at ho;have Eb:=ga.mk (hb);have Fb:=ga.mk (ho);clear HB Oc;have HB:=Eb;have nj:=Fb;clear Eb Fb ho hb hg hat))
        go_roundg k1
        case measure=>have:=wg.out;omega
        case rel=>exact ⟨(Wd),(wrap64 (ah + 1)),AaH,H',⟨by have:=wg.out;omega⟩,⟨baI⟩,⟨BaH⟩⟩
       ·rw [if_neg c9] at H;exact absurd H (by simp)
      ·replace c8:=Bool.eq_false_iff.mpr c8;subst c8;have H1:(ze.l0 k1 ie l0 (l0.length:Int) (wrap64 (ah + 1)))=some r:=by rw [if_neg (show ¬ (false=true) by decide)] at H;exact H
       clear H;have H:=H1;clear H1;have H':=ga.mk H;clear H;have Rl:0 ≤ (ah:Int):=Ua;have Ql:ah < (l0.length:Int):=Ua;obtain ⟨iG,zz,ig⟩:=Kd.lg ym.out ah Rl Ql;(try rw [← Zaj.out] at ig);cases zz;replace ig:=Sa HB.out ig;replace Rl:=eq_true Rl;replace Ql:=eq_true Ql;go_wp2
       go_roundg k1
       case measure=>have:=wg.out;omega
       case rel=>exact ⟨(ie),(wrap64 (ah + 1)),AaH,H',⟨by have:=wg.out;omega⟩,⟨HaH⟩,⟨BaH⟩⟩
     ·rw [if_neg c6] at H;exact absurd H (by simp)
    ·rw [if_neg c5] at H;exact absurd H (by simp)
   ·rw [if_neg c4] at H;have jk:decide (ah < (l0.length:Int))=false:=decide_eq_false c4;clear c4;obtain rfl:=Option.some.inj H;go_wp2;go_ret;exact ⟨_,by first|rfl|(simp [Pa,Oa] <;> rfl)|(simp [*,Pa,Oa] <;> rfl),HaH,BaH⟩
def Ni.f (Qa:List Int) (Ja:Int) (Ga:Int) (Ia:Int) (Aa:List (Je)) (l1:List (List Bool)) (a2:Int):Option (List Bool):=(some (([]:List Bool):List Bool)).bind fun ud=>(if 0 ≤ a2 then (if a2 < (l1.length:Int) then (if ud.length + (yd l1 a2).length < 140737488355328 then ((some (ud ++ (yd l1 a2):List Bool)).bind fun je=>(if a2 < (Aa.length:Int) then (if ((za Aa a2).f1)=0 then (some je) else (if 0 ≤ ((za Aa a2).f2) then (if ((za Aa a2).f2) < (je.length:Int) then (some (je.set (((za Aa a2).f2):Int).toNat true)) else (none)) else (none))) else (none))) else (none)) else (none)) else (none))
theorem Ni.calls (Ya:Option Addr) (Za:Nat) (Qa:List Int) (Ja:Int) (Ga:Int) (Ia:Int) (Mb:Option Addr) (Cb:Nat) (Aa:List (Je)) (A1:Option Addr) (c1:Nat) (l1:List (List Bool)) (a2:Int) (r:List Bool) (w:World) (Ud:Kd.C (Kd.int .i64) w Ya Qa.length Qa) (Rd:Qa.length ≤ Za) (yf:Kd.C Fq w Mb Aa.length Aa) (kf:Aa.length ≤ Cb) (Zs:Kd.C (Kd.slice 4 Kd.bool) w A1 l1.length l1) (xm:l1.length ≤ c1) (h:Ni.f Qa Ja Ga Ia Aa l1 a2=some r) :
  Calls Try.prog 81 #[.agg #[.slice Ya Qa.length Za,.int .i64 Ja,.int .i64 Ga,.int .i64 Ia,.slice Mb Aa.length Cb],.slice A1 l1.length c1,.int .i64 a2] w fun e w'=>∃ Nl:Value,e = .returned (Nl)∧Kd.R Kd.bool 4 w' w.heap.size (fun _=>True) Nl r∧Below w.heap.size w w':=by
 have GF:=Try.underlying30;have kC:=Try.underlying59;have Ze:=ga.mk Ud;have Af:=ga.mk Rd;clear Ud Rd;have xg:=ga.mk yf;have ki:=ga.mk kf;clear yf kf;have NB:=ga.mk Zs;have jU:=ga.mk xm;clear Zs xm;have HB:=ga.mk (Below.refl w.heap.size w);have H:((some (([]:List Bool):List Bool)).bind fun ud=>(if 0 ≤ a2 then (if a2 < (l1.length:Int) then (if ud.length + (yd l1 a2).length < 140737488355328 then ((some (ud ++ (yd l1 a2):List Bool)).bind fun je=>(if a2 < (Aa.length:Int) then (if ((za Aa a2).f1)=0 then (some je) else (if 0 ≤ ((za Aa a2).f2) then (if ((za Aa a2).f2) < (je.length:Int) then (some (je.set (((za Aa a2).f2):Int).toNat true)) else (none)) else (none))) else (none))) else (none)) else (none)) else (none)))=some r:=h;clear h;obtain ⟨ud,jf⟩:∃ y_:List Bool,y_=(([]:List Bool)):=⟨_,rfl⟩;replace H:(if 0 ≤ a2 then (if a2 < (l1.length:Int) then (if ud.length + (yd l1 a2).length < 140737488355328 then ((some (ud ++ (yd l1 a2):List Bool)).bind fun je=>(if a2 < (Aa.length:Int) then (if ((za Aa a2).f1)=0 then (some je) else (if 0 ≤ ((za Aa a2).f2) then (if ((za Aa a2).f2) < (je.length:Int) then (some (je.set (((za Aa a2).f2):Int).toNat true)) else (none)) else (none))) else (none))) else (none)) else (none)) else (none))=some r:=by first|(rw [jf];with_reducible exact H)|(have Ed:=(Option.bind_some _ _).symm.trans H;rw [jf];with_reducible exact Ed)|(have Ed:=(Option.bind_some _ _).symm.trans H;with_reducible exact Ed)|with_reducible exact H|(rw [jf];exact H)|exact H
 have ei:=ga.mk jf;clear jf
 by_cases c4:0 ≤ a2
 ·rw [if_pos c4] at H;have jk:decide (0 ≤ a2)=true:=decide_eq_true c4;clear c4
  by_cases c5:a2 < (l1.length:Int)
  ·rw [if_pos c5] at H;have fk:decide (a2 < (l1.length:Int))=true:=decide_eq_true c5;clear c5
   by_cases c6:ud.length + (yd l1 a2).length < 140737488355328
   ·rw [if_pos c6] at H;have cak:=ga.mk c6;clear c6;obtain ⟨je,ow⟩:∃ y_:List Bool,y_=(ud ++ (yd l1 a2)):=⟨_,rfl⟩;replace H:(if a2 < (Aa.length:Int) then (if ((za Aa a2).f1)=0 then (some je) else (if 0 ≤ ((za Aa a2).f2) then (if ((za Aa a2).f2) < (je.length:Int) then (some (je.set (((za Aa a2).f2):Int).toNat true)) else (none)) else (none))) else (none))=some r:=by first|(rw [ow];with_reducible exact H)|(have Ed:=(Option.bind_some _ _).symm.trans H;rw [ow];with_reducible exact Ed)|(have Ed:=(Option.bind_some _ _).symm.trans H;with_reducible exact Ed)|with_reducible exact H|(rw [ow];exact H)|exact H
    have QT:=ga.mk ow;clear ow
    by_cases c7:a2 < (Aa.length:Int)
    ·rw [if_pos c7] at H;have Xk:decide (a2 < (Aa.length:Int))=true:=decide_eq_true c7;clear c7
     by_cases c8:((za Aa a2).f1)=0
     ·rw [if_pos c8] at H;have Zq:(((za Aa a2).f1) == 0)=true:=beq_iff_eq.mpr c8;have pM:(((za Aa a2).f1) != 0)=false:=bne_eq_false_iff_eq.mpr c8;clear c8;obtain rfl:=Option.some.inj H;go_enter Try.func81,Try.ntmps81;go_wp2_with (first|((with_reducible refine Ab (N:=3) rfl ?_);refine Lb ?hg (N:=3) ?hd (cs:=#[.slice Ya Qa.length Za,.int .i64 Ja,.int .i64 Ga,.int .i64 Ia,.slice Mb Aa.length Cb]) (t:=30) ?hr ?_;(case hd=>rfl);(case hg=>rfl);(case hr=>first|(go_simp;done)|(go_simp;rfl));intro ya hg w9 Sb hb;have Eb:=ga.mk (Ra uaH hb);have Fb:=ga.mk (Sb);have Ob:=ga.mk ((by rw [hg];exact (La uaH):w.heap.size ≤ ya));have Ec:=ga.mk ((by rw [hg];exact (La uaH):w.heap.size ≤ ya));clear HB;have HB:=Eb;have oa:=Fb;have Vd:=Ob;have Ta:=Ec;clear Eb Fb Ob Ec hb Sb hg)|((with_reducible refine Ab (N:=9) rfl ?_);refine Kd.Hj Kd.bool _ 4 ?hg (N:=9) ?hd (xs:=([]:List Bool)) (inner:=[]) (ok:=fun _=>True) (Dh:=fun _=>True) ?hr ?hp (fun _ hk=>hk) trivial (Below.refl _ _) (Nat.le_refl _) (by simp) ?_;(case hd=>rfl);(case hg=>rfl);(case hr=>first|(go_simp;done)|(go_simp;rfl));(case hp=>exact (Pd.none _ _));intro wm Us fq hb gm Pe;clear gm Pe;(first|rw [← ei.out] at fq|(simp only [Int.reduceToNat] at fq;rw [← ei.out] at fq));have Eb:=ga.mk (Kd.Nd fq (La taH));have Fb:=ga.mk (Va (g:=ya) (o:=.cells #[.slice Ya Qa.length Za,.int .i64 Ja,.int .i64 Ga,.int .i64 Ia,.slice Mb Aa.length Cb] 30 (0,0)) vaH hb);have Ob:=ga.mk (Ra taH hb);clear oa HB;have Sg:=Eb;have oa:=Fb;have HB:=Ob;clear Eb Fb Ob hb fq;have Mj:0 ≤ (a2:Int):=Ua;have Lj:a2 < (l1.length:Int):=Ua;obtain ⟨wh,Bh,pg,uw,Xf,Ti,Ui⟩:=wv NB.out a2 Mj Lj;cases uw;replace Xf:=Sa HB.out Xf;have fo:=ga.mk Ui;have Cv:=ga.mk Ti;clear Ui Ti;replace Mj:=eq_true Mj;replace Lj:=eq_true Lj)|((with_reducible refine Jd (b:=.append) (xs:=#[.tmp 9,.tmp 13]) rfl ?_);at_builtin;refine Kd.vk Kd.bool (w0:=w) w.heap.size rfl (.tmp 9) (.tmp 13) 60 4 (.bool false) 1 rfl Try.underlying60 Ir rfl (by decide) (by omega) wm ud (yd l1 a2) _ _ _ (fun _=>True) (fun _=>False) rfl rfl ?aO ?aR (fun _ _ h=>h) (fun _ h=>h.elim) ?aF ?aB ?aS ?aL ?_;(case aR=>repeat (first|exact (Kd.Nb fo.out HB.out)|(with_reducible refine Kd.dc ?_ _)|(with_reducible refine Kd.Zb ?_ _)|(with_reducible refine Kd.Fc ?_)));(case aB=>exact taH);(case aF=>exact (fun _ _=>trivial));(case aO=>exact faI);(case aS=>exact (La taH));(case aL=>have:=cak.out;omega);intro gae Ks ho hb hg hat;rw [← QT.out] at ho;have Eb:=ga.mk (Vc (g:=ya) (o:=.cells #[.slice Ya Qa.length Za,.int .i64 Ja,.int .i64 Ga,.int .i64 Ia,.slice Mb Aa.length Cb] 30 (0,0)) vaH hg (Kd.tj Sg.out oa.out (by decide)));have Fb:=ga.mk (hb);have Ob:=ga.mk (ho);clear oa HB Sg;have oa:=Eb;have HB:=Fb;have vm:=Ob;clear Eb Fb Ob ho hb hg hat;have Gs:Ks.cell? ⟨ya,0,none⟩=some (.slice Ya Qa.length Za):=(ia oa.out 0).trans rfl;have Fs:Ks.cell? ⟨ya,1,none⟩=some (.int .i64 Ja):=(ia oa.out 1).trans rfl;have Es:Ks.cell? ⟨ya,2,none⟩=some (.int .i64 Ga):=(ia oa.out 2).trans rfl;have Ds:Ks.cell? ⟨ya,3,none⟩=some (.int .i64 Ia):=(ia oa.out 3).trans rfl;have Cs:Ks.cell? ⟨ya,4,none⟩=some (.slice Mb Aa.length Cb):=(ia oa.out 4).trans rfl;have Wr:=aa oa.out 0;have Vr:=aa oa.out 1;have Ur:=aa oa.out 2;have Tr:=aa oa.out 3;have Sr:=aa oa.out 4;have Ot:0 ≤ (a2:Int):=Ua;have Nt:a2 < (Aa.length:Int):=Ua;obtain ⟨jh,jo,Yn,rK,Kk,Jk,Ik,Gk,Fk,Nk,Ok⟩:=sj xg.out a2 Ot Nt;cases rK;replace Kk:=Sa HB.out Kk;replace Jk:=Sa HB.out Jk;replace Ik:=Sa HB.out Ik;replace Gk:=Sa HB.out Gk;replace Fk:=Sa HB.out Fk;have WE:=ga.mk Ok;have XE:=ga.mk Nk;clear Ok Nk;replace Ot:=eq_true Ot;replace Nt:=eq_true Nt)|((with_reducible refine Ab (N:=8) rfl ?_);refine Lb ?hg (N:=8) ?hd (cs:=#[.slice none 0 0,.int .i64 0,.int .i64 0,.int .i64 0,.int .i64 0]) (t:=59) ?hr ?_;(case hd=>rfl);(case hg=>rfl);(case hr=>first|(go_simp;done)|(go_simp;rfl));intro Qg hg dz Sb hb;have Eb:=ga.mk (Kd.ld (by (with_reducible repeat (first|apply Kd.Xa|apply Kd.Wa|apply Kd.gb));exact vm.out) hb);have Fb:=ga.mk (Va (g:=ya) (o:=.cells #[.slice Ya Qa.length Za,.int .i64 Ja,.int .i64 Ga,.int .i64 Ia,.slice (some jh) Aa.length Cb] 30 (0,0)) vaH hb);have Ob:=ga.mk (Ra taH hb);have Ec:=ga.mk (Sb);have gf:=ga.mk ((by rw [hg];exact (La taH):w.heap.size ≤ Qg));have Zf:=ga.mk ((by rw [hg];exact (La taH):w.heap.size ≤ Qg));have gh:=ga.mk ((by rw [hg];exact Nat.ne_of_lt (Nc (g:=ya) (o:=.cells #[.slice Ya Qa.length Za,.int .i64 Ja,.int .i64 Ga,.int .i64 Ia,.slice (some jh) Aa.length Cb] 30 (0,0)) vaH):ya ≠ Qg));have lD:=ga.mk ((by rw [hg];exact Nat.ne_of_gt (Nc (g:=ya) (o:=.cells #[.slice Ya Qa.length Za,.int .i64 Ja,.int .i64 Ga,.int .i64 Ia,.slice (some jh) Aa.length Cb] 30 (0,0)) vaH):Qg ≠ ya));clear vm oa HB;have vm:=Eb;have oa:=Fb;have HB:=Ob;have Xg:=Ec;have Gal:=gf;have mU:=Zf;have um:=gh;have ZC:=lD;clear Eb Fb Ob Ec gf Zf gh lD hb Sb hg;have jaf:=ZC.out;have Uae:=um.out;have Po:dz.cell? ⟨Qg,0,none⟩=some (.slice none 0 0):=(ia Xg.out 0).trans rfl;have Oo:dz.cell? ⟨Qg,1,none⟩=some (.int .i64 0):=(ia Xg.out 1).trans rfl;have Mo:dz.cell? ⟨Qg,2,none⟩=some (.int .i64 0):=(ia Xg.out 2).trans rfl;have Lo:dz.cell? ⟨Qg,3,none⟩=some (.int .i64 0):=(ia Xg.out 3).trans rfl;have Ko:dz.cell? ⟨Qg,4,none⟩=some (.int .i64 0):=(ia Xg.out 4).trans rfl;have Jo:=aa Xg.out 0;have Io:=aa Xg.out 1;have Ho:=aa Xg.out 2;have Fo:=aa Xg.out 3;have Eo:=aa Xg.out 4));go_ret;exact ⟨_,by first|rfl|(simp [Pa,Oa] <;> rfl)|(simp [*,Pa,Oa] <;> rfl),by (with_reducible repeat (first|apply Kd.Xa|apply Kd.Wa|apply Kd.gb));exact Kd.xd (Kd.Kg (p:=⟨Qg,4,none⟩) (Kd.Kg (p:=⟨Qg,3,none⟩) (Kd.Kg (p:=⟨Qg,2,none⟩) (Kd.Kg (p:=⟨Qg,1,none⟩) (Kd.Kg (p:=⟨Qg,0,none⟩) (Kd.Uo vm.out Xg.out (by decide)) (fun _ hk=>hk.2) (.slice jo ((za Aa a2).f0).length Yn)) (fun _ hk=>hk.2) (.int .i64 ((za Aa a2).f1))) (fun _ hk=>hk.2) (.int .i64 ((za Aa a2).f2))) (fun _ hk=>hk.2) (.int .i64 ((za Aa a2).f3))) (fun _ hk=>hk.2) (.int .i64 ((za Aa a2).f4))) (fun _ hk=>trivial),by repeat (first|(with_reducible first|exact HB.out|apply qa|apply ja|apply ta|refine ua ?_ Ta.out|refine ua ?_ mU.out)|exact HB.out)⟩
     ·rw [if_neg c8] at H;have Zq:(((za Aa a2).f1) == 0)=false:=beq_eq_false_iff_ne.mpr c8;have pM:(((za Aa a2).f1) != 0)=true:=bne_iff_ne.mpr c8
      by_cases yt:0 ≤ ((za Aa a2).f2)
      ·rw [if_pos yt] at H;have Hp:decide (0 ≤ ((za Aa a2).f2))=true:=decide_eq_true yt;clear yt
       by_cases dr:((za Aa a2).f2) < (je.length:Int)
       ·rw [if_pos dr] at H;have qp:decide (((za Aa a2).f2) < (je.length:Int))=true:=decide_eq_true dr;clear dr;obtain ⟨Bq,Yo⟩:∃ y_:List Bool,y_=(je.set (((za Aa a2).f2):Int).toNat true):=⟨_,rfl⟩;replace H:(some Bq)=some r:=by first|(rw [Yo];with_reducible exact H)|(have Ed:=(Option.bind_some _ _).symm.trans H;rw [Yo];with_reducible exact Ed)|(have Ed:=(Option.bind_some _ _).symm.trans H;with_reducible exact Ed)|with_reducible exact H|(rw [Yo];exact H)|exact H
        have KH:=ga.mk Yo;clear Yo;obtain rfl:=Option.some.inj H;go_enter Try.func81,Try.ntmps81;go_wp2_with (first|((with_reducible refine Ab (N:=3) rfl ?_);refine Lb ?hg (N:=3) ?hd (cs:=#[.slice Ya Qa.length Za,.int .i64 Ja,.int .i64 Ga,.int .i64 Ia,.slice Mb Aa.length Cb]) (t:=30) ?hr ?_;(case hd=>rfl);(case hg=>rfl);(case hr=>first|(go_simp;done)|(go_simp;rfl));intro ya hg w20 Sb hb;have Eb:=ga.mk (Ra uaH hb);have Fb:=ga.mk (Sb);have Ob:=ga.mk ((by rw [hg];exact (La uaH):w.heap.size ≤ ya));have Ec:=ga.mk ((by rw [hg];exact (La uaH):w.heap.size ≤ ya));clear HB;have HB:=Eb;have oa:=Fb;have Vd:=Ob;have Ta:=Ec;clear Eb Fb Ob Ec hb Sb hg)|((with_reducible refine Ab (N:=9) rfl ?_);refine Kd.Hj Kd.bool _ 4 ?hg (N:=9) ?hd (xs:=([]:List Bool)) (inner:=[]) (ok:=fun _=>True) (Dh:=fun _=>True) ?hr ?hp (fun _ hk=>hk) trivial (Below.refl _ _) (Nat.le_refl _) (by simp) ?_;(case hd=>rfl);(case hg=>rfl);(case hr=>first|(go_simp;done)|(go_simp;rfl));(case hp=>exact (Pd.none _ _));intro wm Br YW hb gm Pe;clear gm Pe;(first|rw [← ei.out] at YW|(simp only [Int.reduceToNat] at YW;rw [← ei.out] at YW));have Eb:=ga.mk (Kd.Nd YW (La taH));have Fb:=ga.mk (Va (g:=ya) (o:=.cells #[.slice Ya Qa.length Za,.int .i64 Ja,.int .i64 Ga,.int .i64 Ia,.slice Mb Aa.length Cb] 30 (0,0)) vaH hb);have Ob:=ga.mk (Ra taH hb);clear oa HB;have Sg:=Eb;have oa:=Fb;have HB:=Ob;clear Eb Fb Ob hb YW;have Mj:0 ≤ (a2:Int):=Ua;have Lj:a2 < (l1.length:Int):=Ua;obtain ⟨wh,Bh,pg,uw,Xf,Ti,Ui⟩:=wv NB.out a2 Mj Lj;cases uw;replace Xf:=Sa HB.out Xf;have fo:=ga.mk Ui;have Cv:=ga.mk Ti;clear Ui Ti;replace Mj:=eq_true Mj;replace Lj:=eq_true Lj)|((with_reducible refine Jd (b:=.append) (xs:=#[.tmp 9,.tmp 13]) rfl ?_);at_builtin;refine Kd.vk Kd.bool (w0:=w) w.heap.size rfl (.tmp 9) (.tmp 13) 60 4 (.bool false) 1 rfl Try.underlying60 Ir rfl (by decide) (by omega) wm ud (yd l1 a2) _ _ _ (fun _=>True) (fun _=>False) rfl rfl ?aO ?aR (fun _ _ h=>h) (fun _ h=>h.elim) ?aF ?aB ?aS ?aL ?_;(case aR=>repeat (first|exact (Kd.Nb fo.out HB.out)|(with_reducible refine Kd.dc ?_ _)|(with_reducible refine Kd.Zb ?_ _)|(with_reducible refine Kd.Fc ?_)));(case aB=>exact taH);(case aF=>exact (fun _ _=>trivial));(case aO=>exact faI);(case aS=>exact (La taH));(case aL=>have:=cak.out;omega);intro gae Mt ho hb hg hat;rw [← QT.out] at ho;have Eb:=ga.mk (Vc (g:=ya) (o:=.cells #[.slice Ya Qa.length Za,.int .i64 Ja,.int .i64 Ga,.int .i64 Ia,.slice Mb Aa.length Cb] 30 (0,0)) vaH hg (Kd.tj Sg.out oa.out (by decide)));have Fb:=ga.mk (hb);have Ob:=ga.mk (ho);clear oa HB Sg;have oa:=Eb;have HB:=Fb;have vm:=Ob;clear Eb Fb Ob ho hb hg hat;have Ou:Mt.cell? ⟨ya,0,none⟩=some (.slice Ya Qa.length Za):=(ia oa.out 0).trans rfl;have Nu:Mt.cell? ⟨ya,1,none⟩=some (.int .i64 Ja):=(ia oa.out 1).trans rfl;have Mu:Mt.cell? ⟨ya,2,none⟩=some (.int .i64 Ga):=(ia oa.out 2).trans rfl;have Lu:Mt.cell? ⟨ya,3,none⟩=some (.int .i64 Ia):=(ia oa.out 3).trans rfl;have Ku:Mt.cell? ⟨ya,4,none⟩=some (.slice Mb Aa.length Cb):=(ia oa.out 4).trans rfl;have ju:=aa oa.out 0;have iu:=aa oa.out 1;have gu:=aa oa.out 2;have fu:=aa oa.out 3;have eu:=aa oa.out 4;have Ot:0 ≤ (a2:Int):=Ua;have Nt:a2 < (Aa.length:Int):=Ua;obtain ⟨jh,jo,Yn,rK,Kk,Jk,Ik,Gk,Fk,Nk,Ok⟩:=sj xg.out a2 Ot Nt;cases rK;replace Kk:=Sa HB.out Kk;replace Jk:=Sa HB.out Jk;replace Ik:=Sa HB.out Ik;replace Gk:=Sa HB.out Gk;replace Fk:=Sa HB.out Fk;have WE:=ga.mk Ok;have XE:=ga.mk Nk;clear Ok Nk;replace Ot:=eq_true Ot;replace Nt:=eq_true Nt)|((with_reducible refine Ab (N:=8) rfl ?_);refine Lb ?hg (N:=8) ?hd (cs:=#[.slice none 0 0,.int .i64 0,.int .i64 0,.int .i64 0,.int .i64 0]) (t:=59) ?hr ?_;(case hd=>rfl);(case hg=>rfl);(case hr=>first|(go_simp;done)|(go_simp;rfl));intro Qg hg Pz Sb hb;have Eb:=ga.mk (Kd.ld (by (with_reducible repeat (first|apply Kd.Xa|apply Kd.Wa|apply Kd.gb));exact vm.out) hb);have Fb:=ga.mk (Va (g:=ya) (o:=.cells #[.slice Ya Qa.length Za,.int .i64 Ja,.int .i64 Ga,.int .i64 Ia,.slice (some jh) Aa.length Cb] 30 (0,0)) vaH hb);have Ob:=ga.mk (Ra taH hb);have Ec:=ga.mk (Sb);have gf:=ga.mk ((by rw [hg];exact (La taH):w.heap.size ≤ Qg));have Zf:=ga.mk ((by rw [hg];exact (La taH):w.heap.size ≤ Qg));have gh:=ga.mk ((by rw [hg];exact Nat.ne_of_lt (Nc (g:=ya) (o:=.cells #[.slice Ya Qa.length Za,.int .i64 Ja,.int .i64 Ga,.int .i64 Ia,.slice (some jh) Aa.length Cb] 30 (0,0)) vaH):ya ≠ Qg));have lD:=ga.mk ((by rw [hg];exact Nat.ne_of_gt (Nc (g:=ya) (o:=.cells #[.slice Ya Qa.length Za,.int .i64 Ja,.int .i64 Ga,.int .i64 Ia,.slice (some jh) Aa.length Cb] 30 (0,0)) vaH):Qg ≠ ya));clear vm oa HB;have vm:=Eb;have oa:=Fb;have HB:=Ob;have Xg:=Ec;have Gal:=gf;have mU:=Zf;have um:=gh;have ZC:=lD;clear Eb Fb Ob Ec gf Zf gh lD hb Sb hg;have eaf:=ZC.out;have Pae:=um.out;have Tx:Pz.cell? ⟨Qg,0,none⟩=some (.slice none 0 0):=(ia Xg.out 0).trans rfl;have Sx:Pz.cell? ⟨Qg,1,none⟩=some (.int .i64 0):=(ia Xg.out 1).trans rfl;have Rx:Pz.cell? ⟨Qg,2,none⟩=some (.int .i64 0):=(ia Xg.out 2).trans rfl;have Qx:Pz.cell? ⟨Qg,3,none⟩=some (.int .i64 0):=(ia Xg.out 3).trans rfl;have Px:Pz.cell? ⟨Qg,4,none⟩=some (.int .i64 0):=(ia Xg.out 4).trans rfl;have ax:=aa Xg.out 0;have Zw:=aa Xg.out 1;have Yw:=aa Xg.out 2;have Xw:=aa Xg.out 3;have Ww:=aa Xg.out 4)|((with_reducible refine Ke (t:=59) (p:=8) rfl ?_);refine me (t:=59) (p:=8) (v:=?G_) (w1:=(((((Pz.setCell ⟨Qg,0,none⟩ (.slice jo ((za Aa a2).f0).length Yn)).setCell ⟨Qg,1,none⟩ (.int .i64 ((za Aa a2).f1))).setCell ⟨Qg,2,none⟩ (.int .i64 ((za Aa a2).f2))).setCell ⟨Qg,3,none⟩ (.int .i64 ((za Aa a2).f3))).setCell ⟨Qg,4,none⟩ (.int .i64 ((za Aa a2).f4)))) ?hg ?ho ?hn ?hr ?_;(case ho=>rfl);(case hg=>rfl);(case hn=>rfl);(case hr=>first|(go_simp;done)|(go_simp;rfl));intro Tv hw;have Eb:ga (Kd.R Kd.bool 4 Tv w.heap.size (fun _=>True) gae je):=⟨(by rw [hw];exact (by (with_reducible repeat (first|apply Kd.Xa|apply Kd.Wa|apply Kd.gb));exact Kd.xd (Kd.Kg (p:=⟨Qg,4,none⟩) (Kd.Kg (p:=⟨Qg,3,none⟩) (Kd.Kg (p:=⟨Qg,2,none⟩) (Kd.Kg (p:=⟨Qg,1,none⟩) (Kd.Kg (p:=⟨Qg,0,none⟩) (Kd.Uo vm.out Xg.out (by decide)) (fun _ hk=>hk.2) (.slice jo ((za Aa a2).f0).length Yn)) (fun _ hk=>hk.2) (.int .i64 ((za Aa a2).f1))) (fun _ hk=>hk.2) (.int .i64 ((za Aa a2).f2))) (fun _ hk=>hk.2) (.int .i64 ((za Aa a2).f3))) (fun _ hk=>hk.2) (.int .i64 ((za Aa a2).f4))) (fun _ hk=>trivial)))⟩;have Fb:ga (Tv.heap[ya]? = some (.cells #[.slice Ya Qa.length Za,.int .i64 Ja,.int .i64 Ga,.int .i64 Ia,.slice (some jh) Aa.length Cb] 30 (0,0))):=⟨(by rw [hw];exact (by (with_reducible repeat (first|refine Ca ?_ _|refine Fa ?_|refine Da ?_ _));refine Bd ?_ um.out _;(with_reducible repeat (first|refine Ca ?_ _|refine Fa ?_|refine Da ?_ _));refine Bd ?_ um.out _;(with_reducible repeat (first|refine Ca ?_ _|refine Fa ?_|refine Da ?_ _));refine Bd ?_ um.out _;(with_reducible repeat (first|refine Ca ?_ _|refine Fa ?_|refine Da ?_ _));refine Bd ?_ um.out _;(with_reducible repeat (first|refine Ca ?_ _|refine Fa ?_|refine Da ?_ _));refine Bd ?_ um.out _;(with_reducible repeat (first|refine Ca ?_ _|refine Fa ?_|refine Da ?_ _));exact oa.out))⟩;have Ob:ga (Tv.heap[Qg]? = some (.cells #[.slice jo ((za Aa a2).f0).length Yn,.int .i64 ((za Aa a2).f1),.int .i64 ((za Aa a2).f2),.int .i64 ((za Aa a2).f3),.int .i64 ((za Aa a2).f4)] 59 (0,0))):=⟨(by rw [hw];exact (by (with_reducible repeat (first|refine Ca ?_ _|refine Fa ?_|refine Da ?_ _));refine Qd (cs:=#[.slice jo ((za Aa a2).f0).length Yn,.int .i64 ((za Aa a2).f1),.int .i64 ((za Aa a2).f2),.int .i64 ((za Aa a2).f3),.int .i64 0]) ?_ 4 _ rfl;(with_reducible repeat (first|refine Ca ?_ _|refine Fa ?_|refine Da ?_ _));refine Qd (cs:=#[.slice jo ((za Aa a2).f0).length Yn,.int .i64 ((za Aa a2).f1),.int .i64 ((za Aa a2).f2),.int .i64 0,.int .i64 0]) ?_ 3 _ rfl;(with_reducible repeat (first|refine Ca ?_ _|refine Fa ?_|refine Da ?_ _));refine Qd (cs:=#[.slice jo ((za Aa a2).f0).length Yn,.int .i64 ((za Aa a2).f1),.int .i64 0,.int .i64 0,.int .i64 0]) ?_ 2 _ rfl;(with_reducible repeat (first|refine Ca ?_ _|refine Fa ?_|refine Da ?_ _));refine Qd (cs:=#[.slice jo ((za Aa a2).f0).length Yn,.int .i64 0,.int .i64 0,.int .i64 0,.int .i64 0]) ?_ 1 _ rfl;(with_reducible repeat (first|refine Ca ?_ _|refine Fa ?_|refine Da ?_ _));refine Qd (cs:=#[.slice none 0 0,.int .i64 0,.int .i64 0,.int .i64 0,.int .i64 0]) ?_ 0 _ rfl;(with_reducible repeat (first|refine Ca ?_ _|refine Fa ?_|refine Da ?_ _));exact Xg.out))⟩;have Ec:ga (Below w.heap.size w Tv):=⟨(by rw [hw];exact (by repeat (first|(with_reducible first|exact HB.out|apply qa|apply ja|apply ta|refine ua ?_ Ta.out|refine ua ?_ mU.out)|exact HB.out)))⟩;clear hw vm oa Xg HB;have vm:=Eb;have oa:=Fb;have Xg:=Ob;have HB:=Ec;clear Eb Fb Ob Ec;have tB:Tv.cell? ⟨Qg,0,none⟩=some (.slice jo ((za Aa a2).f0).length Yn):=(ia Xg.out 0).trans rfl;have sB:Tv.cell? ⟨Qg,1,none⟩=some (.int .i64 ((za Aa a2).f1)):=(ia Xg.out 1).trans rfl;have rB:Tv.cell? ⟨Qg,2,none⟩=some (.int .i64 ((za Aa a2).f2)):=(ia Xg.out 2).trans rfl;have qB:Tv.cell? ⟨Qg,3,none⟩=some (.int .i64 ((za Aa a2).f3)):=(ia Xg.out 3).trans rfl;have oB:Tv.cell? ⟨Qg,4,none⟩=some (.int .i64 ((za Aa a2).f4)):=(ia Xg.out 4).trans rfl;have eB:=aa Xg.out 0;have dB:=aa Xg.out 1;have cB:=aa Xg.out 2;have bB:=aa Xg.out 3;have ZA:=aa Xg.out 4;have p19:0 ≤ (((za Aa a2).f2):Int):=Ua;have q19:(((za Aa a2).f2):Int) < ((je.length:Int):Int):=Ua;obtain ⟨fab,Kaw,Uai,Lai,haw,MaE,ral⟩:=Kd.Xj vm.out (by omega);(first|cases Uai|(injection Uai with qj sw tw;(first|subst qj|(injection qj with qj;subst qj));subst tw;clear sw));have Uax:=ga.mk Lai;have UaF:=ga.mk ral;clear Lai haw ral;obtain ⟨wau,Hav⟩:=Kd.Yh false vm.out (((za Aa a2).f2):Int) p19 q19;replace p19:=eq_true p19;replace q19:=eq_true q19;obtain ⟨Lay,Hay⟩:=Kd.Yh false vm.out (((za Aa a2).f2):Int) (Ua) (Ua);have Qac:=Kd.Ml vm.out (((za Aa a2).f2):Int) true)|((with_reducible refine Ke (t:=4) (p:=26) rfl ?_);refine me (t:=4) (p:=26) (v:=?Gat) (w1:=(Tv.setCell ⟨fab,(((za Aa a2).f2):Int).toNat,none⟩ (.bool true))) ?hg ?ho ?hn ?hr ?_;(case ho=>rfl);(case hg=>rfl);(case hn=>rfl);(case hr=>first|(go_simp;done)|(go_simp;rfl));intro RK hw;have hg:Tv.grownBy RK (some fab):=(by rw [hw];exact Qac.2);have Il:Kd.R Kd.bool 4 RK w.heap.size (fun _=>True) (.slice (some ⟨fab,0,none⟩) je.length Kaw) Bq:=(by rw [hw,KH.out];exact Qac.1);clear Qac;have Eb:=ga.mk (Vc (g:=ya) (o:=.cells #[.slice Ya Qa.length Za,.int .i64 Ja,.int .i64 Ga,.int .i64 Ia,.slice (some jh) Aa.length Cb] 30 (0,0)) vaH hg (Kd.tj vm.out oa.out (by decide)));have Fb:=ga.mk (Il);have Ob:=ga.mk (Vc (g:=Qg) (o:=.cells #[.slice jo ((za Aa a2).f0).length Yn,.int .i64 ((za Aa a2).f1),.int .i64 ((za Aa a2).f2),.int .i64 ((za Aa a2).f3),.int .i64 ((za Aa a2).f4)] 59 (0,0)) (by (with_reducible repeat (first|refine Ca ?_ _|refine Fa ?_|refine Da ?_ _));exact Xg.out) hg (Kd.tj vm.out Xg.out (by decide)));have Ec:=ga.mk ((by rw [hw];exact ua (HB.out) Uax.out:Below w.heap.size w RK));clear oa vm Xg HB;have oa:=Eb;have vm:=Fb;have Xg:=Ob;have HB:=Ec;clear Eb Fb Ob Ec hg hw Il));go_ret;exact ⟨_,by first|rfl|(simp [Pa,Oa] <;> rfl)|(simp [*,Pa,Oa] <;> rfl),by (with_reducible repeat (first|apply Kd.Xa|apply Kd.Wa|apply Kd.gb));exact vm.out,by repeat (first|(with_reducible first|exact HB.out|apply qa|apply ja|apply ta|refine ua ?_ Ta.out|refine ua ?_ mU.out)|exact HB.out)⟩
       ·rw [if_neg dr] at H;exact absurd H (by simp)
      ·rw [if_neg yt] at H;exact absurd H (by simp)
    ·rw [if_neg c7] at H;exact absurd H (by simp)
   ·rw [if_neg c6] at H;exact absurd H (by simp)
  ·rw [if_neg c5] at H;exact absurd H (by simp)
 ·rw [if_neg c4] at H;exact absurd H (by simp)
end Go.Proofs.Ytkigbdceceeenaa.P
end
