import Derived.Shelf.Abstract
import Derived.Outline
import Derived.RegionTactic
import Derived.Test.YtoomcmaifgkkfaaQPeep1
import Derived.Test.YtoomcmaifgkkfaaQPeep4
import Derived.Test.YtoomcmaifgkkfaaQPeep2
import Derived.Test.YtoomcmaifgkkfaaQPeep5
import Derived.Test.YtoomcmaifgkkfaaQPeep6
import Derived.Test.YtoomcmaifgkkfaaQPeep3
import Derived.Test.YtoomcmaifgkkfaaQPeep7
section
namespace Go.Proofs.Ytoomcmaifgkkfaa.P
open Go.RowKit Go.Proofs.La.Zb Go.Proofs.La.Me Go.Proofs.La.Ig
set_option linter.unusedVariables false
set_option linter.unusedSimpArgs false
attribute [local go_sem] Kj Ij Vk Uk Mi Li Jj Hj
theorem Eu (d:Array Int) (hd:∀ i j:Nat,i ≤ j→j < d.size→d[i]! ≤ d[j]!):∀ m:Nat,m ≤ d.size→(Go.Lib.compactUpTo d m).Pairwise (· < ·)∧∀ x,x ∈ Go.Lib.compactUpTo d m ↔ ∃ j,j < m∧d[j]! = x:=by
 intro m
 induction m with
 | zero =>
  intro _;simp [Go.Lib.compactUpTo]
 | succ m ih =>
  intro hm;obtain ⟨h1,h2⟩:=ih (by omega);rw [Go.Lib.compactUpTo_succ]
  by_cases hk:Go.Lib.keeps d m=true
  ·rw [if_pos hk];have hk2:m=0 ∨ d[m]! ≠ d[m - 1]!:=by simpa [Go.Lib.keeps] using hk
   refine ⟨List.pairwise_append.2 ⟨h1,by simp,fun a ha b hb=>?_⟩,fun x=>?_⟩
   ·rw [List.mem_singleton] at hb;subst hb;obtain ⟨j,hj,rfl⟩:=(h2 a).1 ha;have e1:=hd j (m - 1) (by omega) (by omega);have e2:=hd (m - 1) m (by omega) (by omega)
    rcases hk2 with e|e
    ·omega
    ·omega
   ·rw [List.mem_append,h2,List.mem_singleton]
    constructor
    ·rintro (⟨j,hj,e⟩|e)
     ·exact ⟨j,by omega,e⟩
     ·exact ⟨m,by omega,e.symm⟩
    ·rintro ⟨j,hj,e⟩
     by_cases hjm:j=m
     ·subst hjm;exact Or.inr e.symm
     ·exact Or.inl ⟨j,by omega,e⟩
  ·rw [if_neg hk,List.append_nil];refine ⟨h1,fun x=>?_⟩;rw [h2]
   have hk2:m ≠ 0∧d[m]! = d[m - 1]!:=by
    have:¬ (m=0 ∨ d[m]! ≠ d[m - 1]!):=by simpa [Go.Lib.keeps] using hk
    exact ⟨fun e=>this (Or.inl e),Decidable.byContradiction fun e=>this (Or.inr e)⟩
   constructor
   ·rintro ⟨j,hj,e⟩;exact ⟨j,by omega,e⟩
   ·rintro ⟨j,hj,e⟩
    by_cases hjm:j=m
    ·subst hjm;exact ⟨j - 1,by omega,by rw [← hk2.2];exact e⟩
    ·exact ⟨j,by omega,e⟩
theorem wH (l:List Int):(Xo l).Pairwise (· < ·)∧∀ x,x ∈ Xo l ↔ x ∈ l:=by
 have hp:(l.mergeSort fun x y=>decide (x ≤ y)).Pairwise (fun a b=>decide (a ≤ b)=true):=List.pairwise_mergeSort (le:=fun x y:Int=>decide (x ≤ y)) (fun a b c h1 h2=>by simp at h1 h2 ⊢;omega) (fun a b=>by simp;omega) l;have hm:∀ x,x ∈ (l.mergeSort fun x y=>decide (x ≤ y)) ↔ x ∈ l:=fun x=>List.mem_mergeSort
 unfold Xo;generalize (l.mergeSort fun x y=>decide (x ≤ y))=s at hp hm
 have hd:∀ i j:Nat,i ≤ j→j < s.toArray.size→s.toArray[i]! ≤ s.toArray[j]!:=by
  intro i j hij hj;have hj':j < s.length:=by simpa using hj
  rcases Nat.lt_or_ge i j with h|h
  ·have:=List.pairwise_iff_getElem.1 hp i j (by omega) hj' h
   simpa [show i < s.length by omega,hj'] using this
  ·obtain rfl:i=j:=by omega
   exact Int.le_refl _
 obtain ⟨h1,h2⟩:=Eu s.toArray hd s.length (by simp);refine ⟨h1,fun x=>?_⟩;rw [← hm];refine (h2 x).trans ?_;rw [List.mem_iff_getElem]
 constructor
 ·rintro ⟨j,hj,e⟩;exact ⟨j,hj,by simpa [hj] using e⟩
 ·rintro ⟨j,hj,e⟩;exact ⟨j,hj,by simpa [hj] using e⟩
theorem Ev.pos {α:Type} {c:Prop} [Decidable c] {f g:Nat→Option α} {r:α} (h:c) (k:Ev f r):Ev (fun n=>if c then f n else g n) r:=Ev.congr (fun n=>if_pos h) k
theorem Ev.neg {α:Type} {c:Prop} [Decidable c] {f g:Nat→Option α} {r:α} (h:¬ c) (k:Ev g r):Ev (fun n=>if c then f n else g n) r:=Ev.congr (fun n=>if_neg h) k
theorem Ev.val {α β:Type} {a:α} {f:Nat→α→Option β} {r:β} (k:Ev (fun n=>f n a) r):Ev (fun n=>(some a).bind (f n)) r:=Ev.congr (fun n=>rfl) k
theorem yg {x:Int} (h:-9223372036854775808 ≤ x) (h':x ≤ 9223372036854775807):wrap64 x=x:=by
 unfold wrap64;omega
theorem pg {i n:Nat} (h:i < n) (hn:n ≤ 9223372036854775807):wrap64 ((i:Int) + 1)=((i + 1:Nat):Int):=by
 rw [yg (by omega) (by omega)];omega
theorem nj {ρ:Type} {n:Nat} {r:ρ} (P:Nat→Prop) (hend:P n) (hstep:∀ i,i < n→P (i + 1)→P i):∀ i,i ≤ n→P i:=by
 have key:∀ d i,i + d=n→P i:=by
  intro d
  induction d with
  | zero =>
   intro i hi;have:i=n:=by omega
   exact this ▸ hend
  | succ d ih =>
   intro i hi;exact hstep i (by omega) (ih (i + 1) (by omega))
 intro i hi;exact key (n - i) i (by omega)
theorem jz {α:Type} {m:List α} {z:α} {i:Nat} (h:i < m.length):(m.take i ++ List.replicate (m.length - i) z).set i (m.getD i z)=m.take (i + 1) ++ List.replicate (m.length - (i + 1)) z:=by
 rw [List.set_append_right _ _ (by rw [List.length_take];omega),List.length_take,Nat.min_eq_left (by omega),Nat.sub_self];rw [show m.length - i=(m.length - (i + 1)) + 1 from by omega,List.replicate_succ,List.set_cons_zero,List.take_succ_eq_append_getElem h,List.append_assoc];simp [List.getD_eq_getElem?_getD,List.getElem?_eq_getElem h]
theorem BD {α:Type} {m:List α} {z:α}:m.take 0 ++ List.replicate (m.length - 0) z=List.replicate m.length z:=by simp
theorem kz {α:Type} {m:List α} {z:α}:m.take m.length ++ List.replicate (m.length - m.length) z=m:=by simp
theorem wE (l:List Int) (i:Nat):rd l (i:Int)=l.getD i 0:=rfl
def iota (m:Int) (n:Nat):List Int:=(List.range n).map fun (j:Nat)=>m + (j:Int)
theorem Di (m:Int) (n:Nat):(iota m n).length=n:=by simp [iota]
theorem Bv {m:Int} {n i:Nat} (h:i < n):(iota m n).getD i 0=m + i:=by simp [iota,List.getD_eq_getElem?_getD,h]
theorem Cy {α:Type} {m l:List α} {z:α} {i:Nat} (hl:l.length=m.length) (h:i < m.length):(m.take i ++ l.drop i).set i (m.getD i z)=m.take (i + 1) ++ l.drop (i + 1):=by
 rw [List.set_append_right _ _ (by rw [List.length_take];omega),List.length_take,Nat.min_eq_left (by omega),Nat.sub_self];rw [List.drop_eq_getElem_cons (by omega),List.set_cons_zero,List.take_succ_eq_append_getElem h,List.append_assoc];simp [List.getD_eq_getElem?_getD,List.getElem?_eq_getElem h]
theorem CD (l:List Int) (hl:l.length ≤ 35184372088832):Ev (fun k=>me.f k l) l:=by
 refine Ev.congr (f:=fun k=>me.l0 k l (List.replicate l.length 0) 0) (fun k=>?_) ?_
 ·unfold me.f;rw [if_pos (by omega),if_pos (by omega)]
  rfl
 ·have key:=nj (r:=l) (n:=l.length) (fun i=>Ev (fun k=>me.l0 k l (l.take i ++ List.replicate (l.length - i) 0) (i:Int)) l) ?_ ?_ 0 (by omega)
  ·simpa using key
  ·refine Ev.step (fun k=>by rw [me.l0]) ?_;refine Ev.neg (by omega) ?_;rw [kz];exact Ev.now l
  ·intro i hi h;refine Ev.step (fun k=>by rw [me.l0]) ?_;refine Ev.pos (by omega) (Ev.pos (by omega) (Ev.pos (by simp;omega) ?_));rw [pg hi (by omega),wE,Int.toNat_natCast,jz hi];exact h
theorem DD (l:List Int) (hl:l.length ≤ 9223372036854775807):Ev (fun k=>Nd.f k l l) true:=by
 refine Ev.congr (f:=fun k=>Nd.l0 k l l 0) (fun k=>?_) ?_
 ·unfold Nd.f;rw [if_pos rfl]
 ·refine nj (r:=true) (n:=l.length) (fun i=>Ev (fun k=>Nd.l0 k l l (i:Int)) true) ?_ ?_ 0 (by omega)
  ·refine Ev.step (fun k=>by rw [Nd.l0]) ?_;exact Ev.neg (by omega) (Ev.now _)
  ·intro i hi h;refine Ev.step (fun k=>by rw [Nd.l0]) ?_;refine Ev.pos (by omega) (Ev.pos (by omega) (Ev.pos (by omega) (Ev.pos rfl ?_)));rw [pg hi hl];exact h
theorem cI (l:List Int) (a:Int) (ha:0 ≤ a) (ha':a ≤ 1048576) (hl:l.length ≤ 9223372036854775807):∃ t,fh.f l a=some t∧t ≤ a∧(0 ≤ t→t + l.length=a):=by
 unfold fh.f;rw [yg (by omega) (by omega)]
 split
 ·exact ⟨-1,rfl,by omega,by omega⟩
 ·exact ⟨_,rfl,by omega,by omega⟩
def ak (x:Ns):Wc:=⟨x.f0,x.f1,x.f2,x.f3,x.f4⟩
theorem IA (l:List Ns) (hl:l.length ≤ 7036874417766):Ev (fun k=>Ad.f k l) (l.map ak):=by
 refine Ev.congr (f:=fun k=>Ad.l0 k l (List.replicate l.length Sm) 0) (fun k=>?_) ?_
 ·unfold Ad.f;rw [if_pos (by omega),if_pos (by omega)]
  rfl
 ·have key:=nj (r:=l.map ak) (n:=l.length) (fun i=>Ev (fun k=>Ad.l0 k l ((l.map ak).take i ++ List.replicate ((l.map ak).length - i) Sm) (i:Int)) (l.map ak)) ?_ ?_ 0 (by omega)
  ·rw [BD,List.length_map] at key;exact key
  ·refine Ev.step (fun k=>by rw [Ad.l0]) ?_;refine Ev.neg (by omega) ?_;have e:=kz (m:=l.map ak) (z:=Sm);rw [List.length_map] at e;rw [List.length_map,e];exact Ev.now _
  ·intro i hi h;refine Ev.step (fun k=>by rw [Ad.l0]) ?_;refine Ev.pos (by omega) (Ev.pos (by omega) ?_);unfold Jk.f;refine Ev.val (Ev.pos (by simp;omega) ?_)
   have hc:ak (Ug l (i:Int))=(l.map ak).getD i Sm:=by
    simp [Ug,List.getD_eq_getElem?_getD,hi]
   have hf:=jz (m:=l.map ak) (z:=Sm) (i:=i) (by rw [List.length_map];exact hi);rw [← hc] at hf;rw [pg hi (by omega),Int.toNat_natCast];have e:=hf ▸ h;exact e
theorem KA (l:List Wc) (hl:l.length ≤ 9223372036854775807):Ev (fun k=>oc.f k l l) true:=by
 refine Ev.congr (f:=fun k=>oc.l0 k l l 0) (fun k=>?_) ?_
 ·unfold oc.f;rw [if_pos rfl]
 ·refine nj (r:=true) (n:=l.length) (fun i=>Ev (fun k=>oc.l0 k l l (i:Int)) true) ?_ ?_ 0 (by omega)
  ·refine Ev.step (fun k=>by rw [oc.l0]) ?_;exact Ev.neg (by omega) (Ev.now _)
  ·intro i hi h;refine Ev.step (fun k=>by rw [oc.l0]) ?_;refine Ev.pos (by omega) (Ev.pos (by omega) (Ev.pos (by omega) ?_));unfold tj.f;simp only [if_true];refine Ev.val (Ev.pos rfl ?_);rw [pg hi hl];exact h
theorem tE (l:List Ns) (a:Int) (ha:0 ≤ a) (ha':a ≤ 1048576) (hl:l.length ≤ 9223372036854775807):∃ t,zg.f l a=some t∧t ≤ a∧(0 ≤ t→t + l.length=a):=by
 unfold zg.f;rw [yg (by omega) (by omega)]
 split
 ·exact ⟨-1,rfl,by omega,by omega⟩
 ·exact ⟨_,rfl,by omega,by omega⟩
theorem uE (x0:List Int) (x1 x2:Int) (x3:List Ns) (a:Int) (ha:0 ≤ a) (ha':a ≤ 1048576) (h0:x0.length ≤ 9223372036854775807) (h3:x3.length ≤ 9223372036854775807) :
  ∃ t,gh.f x0 x1 x2 x3 a=some t∧t ≤ 1048576∧(0 ≤ t→x0.length ≤ 1048576∧x3.length ≤ 1048576):=by
 obtain ⟨t,e1,e2,e3⟩:=cI x0 a ha ha' h0;unfold gh.f;rw [e1];simp only [Option.bind_some]
 by_cases ht:t < 0
 ·rw [if_pos ht];exact ⟨-1,rfl,by omega,by omega⟩
 ·rw [if_neg ht];obtain ⟨u,f1,f2,f3⟩:=tE x3 t (by omega) (by omega) h3;rw [f1];simp only [Option.bind_some]
  by_cases hu:u < 0
  ·rw [if_pos hu];exact ⟨-1,rfl,by omega,by omega⟩
  ·rw [if_neg hu];exact ⟨_,rfl,by omega,by omega⟩
theorem JA (x0:List Int) (x1 x2:Int) (x3:List Ns) (h0:x0.length ≤ 1048576) (h3:x3.length ≤ 1048576):Ev (fun k=>Yb.f k x0 x1 x2 x3) (x0,x1,x2,x3.map ak):=by
 unfold Yb.f;exact Ev.bind (CD x0 (by omega)) (Ev.bind (IA x3 (by omega)) (Ev.now _))
theorem Cu (x0:List Int) (x1 x2:Int) (x3:List Wc) (h0:x0.length ≤ 9223372036854775807) (h3:x3.length ≤ 9223372036854775807):Ev (fun k=>Fb.f k x0 x1 x2 x3 x0 x1 x2 x3) true:=by
 unfold Fb.f;refine Ev.bind (DD x0 h0) ?_;refine Ev.pos rfl (Ev.pos rfl (Ev.pos rfl ?_));refine Ev.bind (KA x3 h3) ?_;exact Ev.pos rfl (Ev.now _)
theorem mz (l:List Int) (m:Int) (hm:0 ≤ m) (hl:m + l.length ≤ 4611686018427387904):Ev (fun k=>Md.f k l m) (m + l.length,iota m l.length):=by
 have key:=nj (r:=(m + (l.length:Int),iota m l.length)) (n:=l.length) (fun i=>Ev (fun k=>Md.l0 k ((iota m l.length).take i ++ l.drop i) (m + i) (i:Int)) (m + (l.length:Int),iota m l.length)) ?_ ?_ 0 (by omega)
 ·refine Ev.congr (fun k=>?_) key;unfold Md.f;simp
 ·refine Ev.step (fun k=>by rw [Md.l0]) ?_;refine Ev.neg (by simp [Di]) ?_;rw [List.drop_length,List.append_nil,List.take_of_length_le (by rw [Di];omega)];exact Ev.now _
 ·intro i hi h;refine Ev.step (fun k=>by rw [Md.l0]) ?_;refine Ev.pos (by simp [Di];omega) (Ev.pos (by omega) ?_);have h1:m + (i:Int)=(iota m l.length).getD i 0:=(Bv hi).symm;rw [pg hi (by omega),yg (by omega) (by omega),Int.toNat_natCast];rw [show ((iota m l.length).take i ++ l.drop i).set i (m + (i:Int))=(iota m l.length).take (i + 1) ++ l.drop (i + 1) from by rw [h1];exact Cy (by rw [Di]) (by rw [Di];exact hi)];rw [show m + (i:Int) + 1=m + ((i + 1:Nat):Int) from by omega];exact h
theorem oz (m:Int) (n:Nat) (hm:0 ≤ m) (hl:m + n ≤ 4611686018427387904):Ev (fun k=>Cd.f k (iota m n) m) (m + n):=by
 have key:=nj (r:=m + (n:Int)) (n:=n) (fun i=>Ev (fun k=>Cd.l0 k (iota m n) (m + i) (i:Int)) (m + (n:Int))) ?_ ?_ 0 (by omega)
 ·refine Ev.congr (fun k=>?_) key;unfold Cd.f;simp
 ·refine Ev.step (fun k=>by rw [Cd.l0]) ?_;exact Ev.neg (by rw [Di];omega) (Ev.now _)
 ·intro i hi h;refine Ev.step (fun k=>by rw [Cd.l0]) ?_;refine Ev.pos (by rw [Di];omega) (Ev.pos (by omega) (Ev.pos (by rw [wE,Bv hi]) ?_));rw [pg hi (by omega),yg (by omega) (by omega)];rw [show m + (i:Int) + 1=m + ((i + 1:Nat):Int) from by omega];exact h
def ug (m:Int) (n:Nat):List Wc:=(List.range n).map fun (j:Nat)=>(⟨m + 5 * (j:Int),m + 5 * (j:Int) + 1,m + 5 * (j:Int) + 2,m + 5 * (j:Int) + 3,m + 5 * (j:Int) + 4⟩:Wc)
theorem sg (m:Int) (n:Nat):(ug m n).length=n:=by simp [ug]
theorem Ap {m:Int} {n j:Nat} (h:j < n):(ug m n).getD j Sm=(⟨m + 5 * (j:Int),m + 5 * (j:Int) + 1,m + 5 * (j:Int) + 2,m + 5 * (j:Int) + 3,m + 5 * (j:Int) + 4⟩:Wc):=by simp [ug,List.getD_eq_getElem?_getD,h]
theorem Gy {x:List Wc} {i:Nat} (h:i < x.length) (a:Wc):ta (x.set i a) (i:Int)=a:=by
 simp [ta,List.getD_eq_getElem?_getD,h]
theorem Mx (l:List Wc) (m:Int) (hm:0 ≤ m) (hl:m + 5 * l.length ≤ 4611686018427387904):Ev (fun k=>Jc.f k l m) (m + 5 * l.length,ug m l.length):=by
 have key:=nj (r:=(m + 5 * (l.length:Int),ug m l.length)) (n:=l.length) (fun i=>Ev (fun k=>Jc.l0 k ((ug m l.length).take i ++ l.drop i) (m + 5 * i) (i:Int)) (m + 5 * (l.length:Int),ug m l.length)) ?_ ?_ 0 (by omega)
 ·refine Ev.congr (fun k=>?_) key;unfold Jc.f;simp
 ·refine Ev.step (fun k=>by rw [Jc.l0]) ?_;refine Ev.neg (by simp [sg]) ?_;rw [List.drop_length,List.append_nil,List.take_of_length_le (by rw [sg];omega)];exact Ev.now _
 ·intro i hi h;have hlen:((ug m l.length).take i ++ l.drop i).length=l.length:=by simp [sg];omega
  have ez:=Cy (m:=ug m l.length) (l:=l) (z:=Sm) (i:=i) (by rw [sg]) (by rw [sg];exact hi);rw [Ap hi] at ez;generalize hx:(ug m l.length).take i ++ l.drop i=x at hlen ez ⊢;refine Ev.step (fun k=>by rw [Jc.l0]) ?_;refine Ev.pos (by omega) (Ev.pos (by omega) ?_);simp only [Int.toNat_natCast,Option.bind_some];have hi1:i < x.length:=by omega
  simp only [Gy hi1,List.set_set];rw [pg hi (by omega)];rw [yg (x:=m + 5 * (i:Int) + 1) (by omega) (by omega),yg (x:=m + 5 * (i:Int) + 1 + 1) (by omega) (by omega),yg (x:=m + 5 * (i:Int) + 1 + 1 + 1) (by omega) (by omega),yg (x:=m + 5 * (i:Int) + 1 + 1 + 1 + 1) (by omega) (by omega),yg (x:=m + 5 * (i:Int) + 1 + 1 + 1 + 1 + 1) (by omega) (by omega)];rw [show m + 5 * (i:Int) + 1 + 1 + 1 + 1 + 1=m + 5 * ((i + 1:Nat):Int) from by omega];have e:=ez ▸ h;refine Ev.congr (fun k=>?_) e
  congr 3
  all_goals omega
theorem Nx (m:Int) (n:Nat) (hm:0 ≤ m) (hl:m + 5 * n ≤ 4611686018427387904):Ev (fun k=>td.f k (ug m n) m) (m + 5 * n):=by
 have key:=nj (r:=m + 5 * (n:Int)) (n:=n) (fun i=>Ev (fun k=>td.l0 k (ug m n) (m + 5 * i) (i:Int)) (m + 5 * (n:Int))) ?_ ?_ 0 (by omega)
 ·refine Ev.congr (fun k=>?_) key;unfold td.f;simp
 ·refine Ev.step (fun k=>by rw [td.l0]) ?_;exact Ev.neg (by rw [sg];omega) (Ev.now _)
 ·intro i hi h;have hr:ta (ug m n) (i:Int)=(⟨m + 5 * (i:Int),m + 5 * (i:Int) + 1,m + 5 * (i:Int) + 2,m + 5 * (i:Int) + 3,m + 5 * (i:Int) + 4⟩:Wc):=Ap hi;refine Ev.step (fun k=>by rw [td.l0]) ?_;refine Ev.pos (by rw [sg];omega) (Ev.pos (by omega) ?_);rw [yg (x:=m + 5 * (i:Int) + 1) (by omega) (by omega),yg (x:=m + 5 * (i:Int) + 1 + 1) (by omega) (by omega),yg (x:=m + 5 * (i:Int) + 1 + 1 + 1) (by omega) (by omega),yg (x:=m + 5 * (i:Int) + 1 + 1 + 1 + 1) (by omega) (by omega),yg (x:=m + 5 * (i:Int) + 1 + 1 + 1 + 1 + 1) (by omega) (by omega),hr];refine (Ev.pos (by first|(simp;done)|(simp;omega)) (Ev.pos (by first|(simp;done)|(simp;omega)) (Ev.pos (by first|(simp;done)|(simp;omega)) (Ev.pos (by first|(simp;done)|(simp;omega)) (Ev.pos (by first|(simp;done)|(simp;omega)) ?_)))));rw [pg hi (by omega)];rw [show m + 5 * (i:Int) + 1 + 1 + 1 + 1 + 1=m + 5 * ((i + 1:Nat):Int) from by omega];exact h
end Go.Proofs.Ytoomcmaifgkkfaa.P
end
section
namespace Go.Proofs.Ytoomcmaifgkkfaa.P
open Go.RowKit Go.Proofs.La.Zb Go.Proofs.La.Me Go.Proofs.La.Ig
set_option linter.unusedVariables false
set_option linter.unusedSimpArgs false
open Classical in
noncomputable def Zx (n:Nat) (p:Nat→Prop):Bool:=decide (∀ j,j < n→p j)
open Classical in
theorem LD {n:Nat} {p:Nat→Prop} (h:∀ j,j < n→p j):Zx n p=true:=by
 unfold Zx;exact decide_eq_true h
open Classical in
theorem Az {n:Nat} {p:Nat→Prop}:Zx n p=true ↔ ∀ j,j < n→p j:=by
 unfold Zx;exact decide_eq_true_iff
theorem RA {n i:Nat} {p:Nat→Prop} (hi:i < n) (h:¬ p i):Zx n p=false:=by
 cases e:Zx n p with
 | false=>rfl
 | true=>exact absurd (Az.mp e i hi) h
theorem VG {ρ:Type} {n:Nat} {R e:ρ} (p:Nat→Prop) (f:Nat→Nat→Option ρ) (hend:Ev (f n) R) (hyes:∀ i,i < n→p i→∀ r,Ev (f (i + 1)) r→Ev (f i) r) (hno:∀ i,i < n→¬ p i→Ev (f i) e):Ev (f 0) (bif Zx n p then R else e):=by
 have key:∀ d i,i + d=n→(∀ j,j < i→p j)→Ev (f i) (bif Zx n p then R else e):=by
  intro d
  induction d with
  | zero =>
   intro i hi h;have:i=n:=by omega
   subst this;rw [LD h];exact hend
  | succ d ih =>
   intro i hi h
   by_cases hp:p i
   ·refine hyes i (by omega) hp _ (ih (i + 1) (by omega) ?_);intro j hj
    by_cases hji:j=i
    ·rw [hji];exact hp
    ·exact h j (by omega)
   ·rw [RA (by omega) hp];exact hno i (by omega) hp
 exact key n 0 (by omega) (fun j hj=>absurd hj (by omega))
theorem Ov {α:Type} (l:List α) (z:α) (q:α→Bool):Zx l.length (fun j=>q (l.getD j z)=true) = !(l.any fun x=>!q x):=by
 rw [Bool.eq_iff_iff,Az];simp only [Bool.not_eq_true',List.any_eq_false,Bool.not_eq_true',Bool.not_eq_false]
 constructor
 ·intro h x hx;obtain ⟨j,hj,rfl⟩:=List.mem_iff_getElem.mp hx;have:=h j hj;rw [List.getD_eq_getElem?_getD,List.getElem?_eq_getElem hj] at this
  simpa using this
 ·intro h j hj;have:=h l[j] (List.getElem_mem hj);rw [List.getD_eq_getElem?_getD,List.getElem?_eq_getElem hj]
  simpa using this
end Go.Proofs.Ytoomcmaifgkkfaa.P
end
section
namespace Go.Proofs.Ytoomcmaifgkkfaa.P
open Go.RowKit Go.Proofs.La.Zb Go.Proofs.La.Me Go.Proofs.La.Ig
set_option linter.unusedVariables false
set_option linter.unusedSimpArgs false
theorem Cj (a b c:Int):Eb.f a b c=some (cj a b c):=by
 unfold Eb.f cj
 by_cases h:a ≥ b
 ·rw [if_pos h];have h':b ≤ a:=h;simp [h']
 ·rw [if_neg h];have h':¬ b ≤ a:=h;simp [h']
theorem Cv (a n:Int):cj a n n=(a == n):=by
 unfold cj;rw [Bool.eq_iff_iff];simp;omega
theorem Ev.and {b c:Bool} {g:Nat→Option Bool} (h:b=true→Ev g c):Ev (fun k=>if b=true then g k else some false) (b && c):=by
 cases b with
 | false=>exact Ev.neg (by decide) (Ev.now _)
 | true=>exact Ev.pos rfl (h rfl)
theorem Ev.eP {p:Prop} [Decidable p] {b c:Bool} (e:b=decide p) {g:Nat→Option Bool} (h:b=true→Ev g c):Ev (fun k=>if p then g k else some false) (b && c):=by
 by_cases hp:p
 ·have hb:b=true:=by rw [e];exact decide_eq_true hp
  subst hb;exact Ev.pos hp (h rfl)
 ·have hb:b=false:=by rw [e];exact decide_eq_false hp
  subst hb;exact Ev.neg hp (Ev.now _)
def J3 (x5 x7:Bool) (o:Int) (sN:Bool) (N3 r v:Int):Bool:=bif sN then x5 && (x7 && (v == 0)) else if o=8 then (r == 0) && (x7 && cj v 0 N3) else if o=9 then x5 && (x7 && cj v 0 N3) else false
theorem UG (x5 x7:Bool) (o:Int) (sN:Bool) (x0:List Int) (x1 x2:Int) (x3:List Wc) (o' r p q v:Int):Ev (fun k=>Bb.j3 k x5 x7 o sN x0 x1 x2 x3 o' r p q v) (J3 x5 x7 o sN (wrap64 ((x3.length:Int) - 1)) r v):=by
 refine Ev.step (fun k=>by rw [Bb.j3]) ?_;unfold J3;cases sN with
 | true=>exact Ev.pos rfl (Ev.and fun _=>Ev.and fun _=>Ev.now _)
 | false =>
  refine Ev.neg (by decide) ?_
  by_cases h8:o=8
  ·simp only [cond_false,if_pos h8];refine Ev.eP (by rw [Bool.eq_iff_iff];simp) fun _=>Ev.and fun _=>?_
   rw [Cj];exact Ev.now _
  ·simp only [cond_false,if_neg h8]
   by_cases h9:o=9
   ·simp only [if_pos h9];refine Ev.and fun _=>Ev.and fun _=>?_
    rw [Cj];exact Ev.now _
   ·simp only [if_neg h9];exact Ev.now _
def J2 (x5 x6 x7:Bool) (o:Int) (tN:Bool) (N0 N3 r q v:Int):Bool:=bif tN then x5 && (x6 && ((q == 0) && cj v 0 N0)) else if o=11 then x5 && (x6 && ((q == 0) && (v == 0))) else if o=6 then J3 x5 x7 o (o == 6) N3 r v else if o=7 then J3 x5 x7 o (o == 7) N3 r v else J3 x5 x7 o (o == 10) N3 r v
theorem tM (x5 x6 x7:Bool) (o:Int) (tN:Bool) (x0:List Int) (x1 x2:Int) (x3:List Wc) (o' r p q v:Int):Ev (fun k=>Bb.j2 k x5 x6 x7 o tN x0 x1 x2 x3 o' r p q v) (J2 x5 x6 x7 o tN (wrap64 ((x0.length:Int) - 1)) (wrap64 ((x3.length:Int) - 1)) r q v):=by
 refine Ev.step (fun k=>by rw [Bb.j2]) ?_;unfold J2;cases tN with
 | true =>
  refine Ev.pos rfl (Ev.and fun _=>Ev.and fun _=>Ev.eP (by rw [Bool.eq_iff_iff];simp) fun _=>?_);rw [Cj];exact Ev.now _
 | false =>
  refine Ev.neg (by decide) ?_
  by_cases h8:o=11
  ·simp only [cond_false,if_pos h8];exact Ev.and fun _=>Ev.and fun _=>Ev.eP (by rw [Bool.eq_iff_iff];simp) fun _=>Ev.now _
  ·simp only [cond_false,if_neg h8]
   by_cases h6:o=6
   ·simp only [if_pos h6];exact UG _ _ _ _ _ _ _ _ _ _ _ _ _
   ·simp only [if_neg h6]
    by_cases h7:o=7
    ·simp only [if_pos h7];exact UG _ _ _ _ _ _ _ _ _ _ _ _ _
    ·simp only [if_neg h7];exact UG _ _ _ _ _ _ _ _ _ _ _ _ _
def J1 (x5 x6 x7:Bool) (o:Int) (uN:Bool) (N2 N0 N3 r q v:Int):Bool:=bif uN then x5 && (x7 && cj v 0 N2) else if o=3 then x5 && (x6 && (cj q 0 15 && cj v 0 5)) else if o=4 then J2 x5 x6 x7 o (o == 4) N0 N3 r q v else J2 x5 x6 x7 o (o == 5) N0 N3 r q v
theorem uM (x5 x6 x7:Bool) (o:Int) (uN:Bool) (x0:List Int) (x1 x2:Int) (x3:List Wc) (o' r p q v:Int):Ev (fun k=>Bb.j1 k x5 x6 x7 o uN x0 x1 x2 x3 o' r p q v) (J1 x5 x6 x7 o uN (wrap64 (x2 - 1)) (wrap64 ((x0.length:Int) - 1)) (wrap64 ((x3.length:Int) - 1)) r q v):=by
 refine Ev.step (fun k=>by rw [Bb.j1]) ?_;unfold J1;cases uN with
 | true =>
  refine Ev.pos rfl (Ev.and fun _=>Ev.and fun _=>?_);rw [Cj];exact Ev.now _
 | false =>
  refine Ev.neg (by decide) ?_
  by_cases h8:o=3
  ·simp only [cond_false,if_pos h8];refine Ev.and fun _=>Ev.and fun _=>?_
   rw [Cj,Cj];exact Ev.val (Ev.and fun _=>Ev.now _)
  ·simp only [cond_false,if_neg h8]
   by_cases h6:o=4
   ·simp only [if_pos h6];exact tM _ _ _ _ _ _ _ _ _ _ _ _ _ _
   ·simp only [if_neg h6];exact tM _ _ _ _ _ _ _ _ _ _ _ _ _ _
def J0 (x5 x6 x7:Bool) (o N2 N0 N3 r q v:Int):Bool:=if o=0 then x5 && x7 else if o=1 then J1 x5 x6 x7 o (o == 1) N2 N0 N3 r q v else J1 x5 x6 x7 o (o == 2) N2 N0 N3 r q v
theorem qT (x5 x6 x7:Bool) (x0:List Int) (x1 x2:Int) (x3:List Wc) (o r p q v:Int):Ev (fun k=>Bb.j0 k x5 x6 x7 x0 x1 x2 x3 o r p q v) (J0 x5 x6 x7 o (wrap64 (x2 - 1)) (wrap64 ((x0.length:Int) - 1)) (wrap64 ((x3.length:Int) - 1)) r q v):=by
 refine Ev.step (fun k=>by rw [Bb.j0]) ?_;unfold J0
 by_cases h6:o=0
 ·simp only [if_pos h6];exact Ev.and fun _=>Ev.now _
 ·simp only [if_neg h6]
  by_cases h7:o=1
  ·simp only [if_pos h7];exact uM _ _ _ _ _ _ _ _ _ _ _ _ _ _
  ·simp only [if_neg h7];exact uM _ _ _ _ _ _ _ _ _ _ _ _ _ _
theorem XC (N2 N0 N3 o r p q v s n0 n3:Int) (h0:n0 - 1=N0) (h3:n3 - 1=N3) (h2:wrap64 (s - 1)=N2):Bj n0 s n3 o r p q v=J0 (cj r 0 15) (cj p 0 15) (p == 0 && q == 0) o N2 N0 N3 r q v:=by
 have h0p:(p == 0)=true→cj p 0 15=true:=by intro h;rw [eq_of_beq h];rfl
 have h0q:(q == 0)=true→cj q 0 15=true:=by intro h;rw [eq_of_beq h];rfl
 have h0r:(r == 0)=true→cj r 0 15=true:=by intro h;rw [eq_of_beq h];rfl
 unfold Bj Xd qv J0 J1 J2 J3;rw [h0,h3,h2,Cv v 0,Cv 0 0];generalize (p == 0)=P at *;generalize (q == 0)=Q at *;generalize (r == 0)=R at *;generalize (v == 0)=V at *;generalize cj p 0 15=p' at *;generalize cj q 0 15=q' at *;generalize cj r 0 15=r' at *;generalize cj v 0 N0=v0 at *;generalize cj v 0 N2=v2 at *;generalize cj v 0 N3=v3 at *;generalize cj v 0 5=v5 at *;clear h0 h3 h2
 by_cases e0:o=0
 ·subst e0;simp;cases P <;> cases Q <;> cases R <;> cases r' <;> cases p' <;> cases q' <;> simp_all
 by_cases e1:o=1
 ·subst e1;simp;cases P <;> cases Q <;> cases R <;> cases r' <;> cases p' <;> cases q' <;> simp_all
 by_cases e2:o=2
 ·subst e2;simp;cases P <;> cases Q <;> cases R <;> cases r' <;> cases p' <;> cases q' <;> simp_all
 by_cases e3:o=3
 ·subst e3;simp;cases P <;> cases Q <;> cases R <;> cases r' <;> cases p' <;> cases q' <;> simp_all
 by_cases e4:o=4
 ·subst e4;simp;cases P <;> cases Q <;> cases R <;> cases r' <;> cases p' <;> cases q' <;> simp_all
 by_cases e5:o=5
 ·subst e5;simp;cases P <;> cases Q <;> cases R <;> cases r' <;> cases p' <;> cases q' <;> simp_all
 by_cases e6:o=6
 ·subst e6;simp;cases P <;> cases Q <;> cases R <;> cases r' <;> cases p' <;> cases q' <;> simp_all
 by_cases e7:o=7
 ·subst e7;simp;cases P <;> cases Q <;> cases R <;> cases r' <;> cases p' <;> cases q' <;> simp_all
 by_cases e8:o=8
 ·subst e8;simp;cases P <;> cases Q <;> cases R <;> cases r' <;> cases p' <;> cases q' <;> simp_all
 by_cases e9:o=9
 ·subst e9;simp;cases P <;> cases Q <;> cases R <;> cases r' <;> cases p' <;> cases q' <;> simp_all
 by_cases e10:o=10
 ·subst e10;simp;cases P <;> cases Q <;> cases R <;> cases r' <;> cases p' <;> cases q' <;> simp_all
 by_cases e11:o=11
 ·subst e11;simp;cases P <;> cases Q <;> cases R <;> cases r' <;> cases p' <;> cases q' <;> simp_all
 simp [e0,e1,e2,e3,e4,e5,e6,e7,e8,e9,e10,e11]
theorem Jv (x0:List Int) (x1 x2:Int) (x3:List Wc) (o r p q v:Int) (h0:x0.length ≤ 9223372036854775807) (h3:x3.length ≤ 9223372036854775807) :
  Ev (fun k=>Bb.f k x0 x1 x2 x3 o r p q v) (Bj (x0.length:Int) x2 (x3.length:Int) o r p q v):=by
 unfold Bb.f;rw [Cj,Cj];refine Ev.val (Ev.val ?_);have main:=qT (cj r 0 15) (cj p 0 15) (p == 0 && q == 0) x0 x1 x2 x3 o r p q v;rw [← XC _ _ _ o r p q v x2 (x0.length:Int) (x3.length:Int) (yg (by omega) (by omega)).symm (yg (by omega) (by omega)).symm rfl] at main
 by_cases hp:p=0
 ·refine Ev.pos hp ?_;have e:(p == 0 && q == 0)=(q == 0):=by rw [hp];simp
  rw [e] at main;exact main
 ·refine Ev.neg hp ?_;have e:(p == 0 && q == 0)=false:=by simp [hp]
  rw [e] at main;exact main
theorem Dj {l:List Wc} {i:Nat} (h:i < l.length):ta l (i:Int)=l[i]:=by simp [ta,List.getD_eq_getElem?_getD,h]
def Hr (x3:List Wc):Bool:=((ta x3 ((x3.length:Int) - 1)).f0 == 10) || ((ta x3 ((x3.length:Int) - 1)).f0 == 8)
def Mp (x0:List Int) (x2:Int) (x3:List Wc):Bool:=!(x3.any fun x=>!Bj (x0.length:Int) x2 (x3.length:Int) x.f0 x.f1 x.f2 x.f3 x.f4)
theorem Bp (b:Bool) (x0:List Int) (x1 x2:Int) (x3:List Wc) (h0:x0.length ≤ 9223372036854775807) (h3:x3.length ≤ 9223372036854775807) (hb:b=true→1 ≤ x3.length) :
  Ev (fun k=>mb.j1 k (x3.length:Int) (!b) x0 x1 x2 x3) (b && (Mp x0 x2 x3 && Hr x3)):=by
 refine Ev.step (fun k=>by rw [mb.j1]) ?_;cases b with
 | false=>exact Ev.pos rfl (Ev.now _)
 | true =>
  have hn:=hb rfl;refine Ev.neg (by decide) ?_;have key:=VG (n:=x3.length) (R:=Hr x3) (e:=false) (fun j=>(fun x:Wc=>Bj (x0.length:Int) x2 (x3.length:Int) x.f0 x.f1 x.f2 x.f3 x.f4) (x3.getD j Sm)=true) (fun i k=>mb.l1 k (x3.length:Int) (i:Int) x0 x1 x2 x3) ?_ ?_ ?_
  ·rw [Ov x3 Sm (fun x:Wc=>Bj (x0.length:Int) x2 (x3.length:Int) x.f0 x.f1 x.f2 x.f3 x.f4)] at key;rw [Bool.true_and];unfold Mp;rw [show ∀ b c:Bool,(b && c)=(bif b then c else false) from by decide];exact key
  ·refine Ev.step (fun k=>by rw [mb.l1]) ?_;refine Ev.neg (by omega) ?_;rw [yg (by omega) (by omega)];refine Ev.pos (by omega) (Ev.pos (by omega) ?_);unfold Hr
   by_cases h:(ta x3 ((x3.length:Int) - 1)).f0=10
   ·rw [h];exact Ev.pos rfl (Ev.now _)
   ·rw [beq_false_of_ne h,Bool.false_or];exact Ev.neg h (Ev.now _)
  ·intro i hi hp r hr;refine Ev.step (fun k=>by rw [mb.l1]) ?_;refine Ev.pos (by omega) (Ev.pos (by omega) (Ev.pos (by omega) ?_));refine Ev.bind (Jv x0 x1 x2 x3 _ _ _ _ _ h0 h3) ?_;refine Ev.pos hp ?_;rw [pg hi h3];exact hr
  ·intro i hi hp;refine Ev.step (fun k=>by rw [mb.l1]) ?_;refine Ev.pos (by omega) (Ev.pos (by omega) (Ev.pos (by omega) ?_));refine Ev.bind (Jv x0 x1 x2 x3 _ _ _ _ _ h0 h3) ?_;exact Ev.neg hp (Ev.now _)
theorem zn (x0:List Int) (x1 x2:Int) (x3:List Wc) (h0:x0.length ≤ 9223372036854775807) (h3:x3.length ≤ 9223372036854775807) :
  Ev (fun k=>mb.f k x0 x1 x2 x3) (Wk x0 x1 x2 x3):=by
 unfold mb.f
 have tail:Ev (fun k=>mb.l0 k (x0.length:Int) x0 x1 x2 x3) (cj (x0.length:Int) 1 4 && (cj x1 0 6 && (cj x2 x1 1000 && (cj (x3.length:Int) 1 6000 && (Mp x0 x2 x3 && Hr x3))))):=by
  have no:=Bp false x0 x1 x2 x3 h0 h3 (fun h=>Bool.noConfusion h);rw [Bool.false_and] at no;refine Ev.step (fun k=>by rw [mb.l0]) ?_;refine Ev.neg (by omega) ?_;rw [Cj,Cj,Cj,Cj];refine Ev.val ?_;cases cj (x0.length:Int) 1 4 with
  | false=>exact Ev.neg (by decide) no
  | true =>
   refine Ev.pos rfl (Ev.val ?_);cases cj x1 0 6 with
   | false=>exact Ev.neg (by decide) no
   | true =>
    refine Ev.pos rfl (Ev.val ?_);cases cj x2 x1 1000 with
    | false=>exact Ev.neg (by decide) no
    | true =>
     refine Ev.pos rfl (Ev.val ?_);rw [Bool.true_and,Bool.true_and,Bool.true_and];refine Bp _ x0 x1 x2 x3 h0 h3 (fun h=>?_);unfold cj at h;simp at h;omega
 have key:=VG (n:=x0.length) (R:=_) (e:=false) (fun j=>(fun n:Int=>cj n 1 16) (x0.getD j 0)=true) (fun i k=>mb.l0 k (i:Int) x0 x1 x2 x3) tail ?_ ?_
 ·rw [Ov x0 0 (fun n:Int=>cj n 1 16)] at key;refine Eq.mp (congrArg _ ?_) key;unfold Wk ku;rw [show cj 0 0 (if (0:Int) < 6 then 0 else 6)=true from rfl,show decide ((0:Int) ≤ 20)=true from rfl]
  show _=(cj (x0.length:Int) 1 4 && (!(x0.any fun n=>!cj n 1 16)) && true && true && cj x1 0 6 && cj x2 x1 1000 && cj (x3.length:Int) 1 6000 && Hr x3 && Mp x0 x2 x3)
  generalize (!(x0.any fun n=>!cj n 1 16))=a;generalize cj (x0.length:Int) 1 4=b;generalize cj x1 0 6=c;generalize cj x2 x1 1000=d;generalize cj (x3.length:Int) 1 6000=e;generalize Hr x3=f;generalize Mp x0 x2 x3=g;revert a b c d e f g
  decide
 ·intro i hi hp r hr;refine Ev.step (fun k=>by rw [mb.l0]) ?_;refine Ev.pos (by omega) (Ev.pos (by omega) ?_);rw [Cj];refine Ev.val (Ev.pos hp ?_);rw [pg hi h0];exact hr
 ·intro i hi hp;refine Ev.step (fun k=>by rw [mb.l0]) ?_;refine Ev.pos (by omega) (Ev.pos (by omega) ?_);rw [Cj];exact Ev.val (Ev.neg hp (Ev.now _))
def aj (l:List Wc):List Int:=(l.filter fun x=>decide (x.f0=8 ∨ x.f0=9)).map fun x=>x.f4
theorem Jp (x:Wc) (l:List Wc):aj (x :: l)=if x.f0=8 ∨ x.f0=9 then x.f4 :: aj l else aj l:=by
 unfold aj;rw [List.filter_cons]
 by_cases h:x.f0=8 ∨ x.f0=9
 ·rw [if_pos (by simpa using h),if_pos h,List.map_cons]
 ·rw [if_neg (by simpa using h),if_neg h]
theorem qL (x0:List Int) (x1 x2:Int) (l:List Wc) (hl:l.length ≤ 1048576):Ev (fun k=>Ke.f k x0 x1 x2 l) (Xo (aj l)):=by
 unfold Ke.f;have key:=nj (ρ:=Unit) (r:=()) (n:=l.length) (fun i=>∀ acc:List Int,acc.length ≤ i→Ev (fun k=>Ke.l0 k acc l (l.length:Int) (i:Int)) (Xo (acc ++ aj (l.drop i)))) ?_ ?_ 0 (by omega)
 ·exact key [] (by simp)
 ·intro acc ha;refine Ev.step (fun k=>by rw [Ke.l0]) ?_;rw [List.drop_length,show aj []=[] from rfl,List.append_nil];refine Ev.neg (by omega) ?_;rw [show Ng.f acc=some (Xo acc) from by unfold Ng.f;exact if_pos (by omega)];exact Ev.val (Ev.now _)
 ·intro i hi h acc ha;have hr:ta l (i:Int)=l[i]:=Dj hi;refine Ev.step (fun k=>by rw [Ke.l0]) ?_;refine Ev.pos (by omega) (Ev.pos (by omega) (Ev.pos (by omega) ?_));rw [pg hi (by omega),List.drop_eq_getElem_cons hi,Jp,hr]
  by_cases h8:l[i].f0=8
  ·rw [if_pos (Or.inl h8)];refine Ev.pos h8 (Ev.pos (by omega) ?_);have:=h (acc ++ [l[i].f4]) (by rw [List.length_append,List.length_singleton];omega)
   rwa [List.append_assoc] at this
  ·refine Ev.neg h8 ?_
   by_cases h9:l[i].f0=9
   ·rw [if_pos (Or.inr h9)];refine Ev.pos h9 (Ev.pos (by omega) ?_);have:=h (acc ++ [l[i].f4]) (by rw [List.length_append,List.length_singleton];omega)
    rwa [List.append_assoc] at this
   ·rw [if_neg (fun hc=>hc.elim h8 h9)];exact Ev.neg h9 (h acc (by omega))
def opAt (l:List Wc) (i:Nat):Int:=(ta l (i:Int)).f0
def G0 (l:List Wc) (i:Nat):List Int :=
 (if opAt l i=8 ∨ opAt l i=9 then [(ta l (i:Int)).f4] else []) ++ (if opAt l i=8 ∨ opAt l i=10 then [] else [((i + 1:Nat):Int)])
def seen (s:List Bool) (j:Nat):Bool:=s.getD j false
theorem vE {s:List Bool} {i j:Nat} (hi:i < s.length):seen (s.set i true) j=(decide (i=j) || seen s j):=by
 unfold seen;rw [List.getD_eq_getElem?_getD,List.getD_eq_getElem?_getD,List.getElem?_set]
 by_cases h:i=j
 ·simp [h];subst h;simp [hi]
 ·simp [h]
def news (s:List Bool):Nat:=s.count false
def Shut (nx:Nat→List Int) (s:List Bool) (q:List Int) (i:Nat):Prop:=∀ j,seen s j=true→(j:Int) ∉ q→j ≠ i→∀ m ∈ nx j,seen s m.toNat=true
theorem iD {x0:List Int} {x1 x2:Int} {l:List Wc} (h:Wk x0 x1 x2 l=true):0 < l.length∧∀ a,a < l.length→∀ j ∈ G0 l a,0 ≤ j∧j < l.length:=by
 unfold Wk at h;simp only [Bool.and_eq_true] at h;obtain ⟨⟨⟨⟨⟨_,_⟩,_⟩,hn⟩,TE⟩,hw⟩:=h;unfold cj at hn;simp only [Bool.and_eq_true,decide_eq_true_eq] at hn;refine ⟨by omega,fun a ha j hj=>?_⟩;have hr:ta l (a:Int)=l[a]:=Dj ha
 have ru:Bj (x0.length:Int) x2 (l.length:Int) l[a].f0 l[a].f1 l[a].f2 l[a].f3 l[a].f4=true:=by
  simp at hw;exact hw _ (List.getElem_mem ha)
 have hl:ta l ((l.length:Int) - 1)=l[l.length - 1]:=by
  have:=Dj (l:=l) (i:=l.length - 1) (by omega);rw [← this]
  congr 1
  omega
 rw [hl] at TE;unfold G0 opAt at hj;rw [hr] at hj
 rcases List.mem_append.mp hj with hj|hj
 ·split at hj
  ·rename_i ho;rw [List.mem_singleton] at hj;subst hj;unfold Bj at ru
   rcases ho with ho|ho
   ·rw [ho] at ru;simp [Xd] at ru;have:=ru.1.1.1;unfold cj at this;simp at this;omega
   ·rw [ho] at ru;simp [Xd] at ru;have:=ru.1.1.1;unfold cj at this;simp at this;omega
  ·cases hj
 ·split at hj
  ·cases hj
  ·rename_i ho;rw [List.mem_singleton] at hj;subst hj
   have hne:a ≠ l.length - 1:=by
    intro e;subst e;simp at TE
    rcases TE with e|e
    ·exact ho (Or.inr e)
    ·exact ho (Or.inl e)
   omega
theorem YC (n j:Nat):seen (List.replicate n false) j=false:=by
 unfold seen;rw [List.getD_eq_getElem?_getD,List.getElem?_replicate]
 split <;> rfl
theorem bw {x0:List Int} {x1 x2:Int} {l:List Wc} (hl:l.length ≤ 1048576) (h:Wk x0 x1 x2 l=true):Gr l=true:=by
 unfold Gr;simp only [Bool.and_eq_true,decide_eq_true_eq];refine ⟨hl,List.all_eq_true.2 fun x hx=>decide_eq_true fun hg=>?_⟩;obtain ⟨i,hi,rfl⟩:=List.mem_iff_getElem.1 hx
 have h2:=(iD h).2 i hi l[i].f4 (by
  unfold G0 opAt;rw [Dj hi,if_pos hg]
  simp)
 exact h2
section
variable {l:List Wc} {x0 y0:List Int} {x1 x2 y1 y2:Int} {y3:List Wc} {R:List Int × Int × Int × List Wc}
theorem Tr (a0 a1 a2 a3 a4:Int):Zf.f a0 a1 a2 a3 a4=some (decide (a0=8 ∨ a0=9)):=by
 unfold Zf.f
 by_cases h:a0=8
 ·rw [if_pos h];simp [h]
 ·rw [if_neg h]
  by_cases h9:a0=9
  ·simp [h9]
  ·simp [h,h9]
theorem LA (kl:List Wc) (pl:List Int) (hk:kl.length ≤ 1048576) (hg:∀ x ∈ kl,x.f0=8 ∨ x.f0=9→0 ≤ x.f4∧x.f4 < (pl.length:Int)):Ev (fun k=>Db.l2 k pl kl 0 y0 y1 y2 y3) (y0,y1,y2,kl.map (Tg pl)):=by
 have key:=nj (ρ:=Unit) (r:=()) (n:=kl.length) (fun m=>Ev (fun k=>Db.l2 k pl ((kl.map (Tg pl)).take m ++ kl.drop m) (m:Int) y0 y1 y2 y3) (y0,y1,y2,kl.map (Tg pl))) ?_ ?_ 0 (by omega)
 ·simpa using key
 ·refine Ev.step (fun k=>by rw [Db.l2]) ?_;rw [List.drop_length,List.append_nil,List.take_of_length_le (by rw [List.length_map];omega)];exact Ev.neg (by rw [List.length_map];omega) (Ev.now _)
 ·intro m hm h;have AZ:((kl.map (Tg pl)).take m ++ kl.drop m).length=kl.length:=by rw [List.length_append,List.length_take,List.length_drop,List.length_map];omega
  have hr:ta ((kl.map (Tg pl)).take m ++ kl.drop m) (m:Int)=kl[m]:=by
   unfold ta;rw [Int.toNat_natCast,List.getD_eq_getElem?_getD,List.getElem?_append_right (by rw [List.length_take];omega),List.length_take,List.length_map,Nat.min_eq_left (by omega),Nat.sub_self,List.getElem?_drop,Nat.add_zero];simp [List.getElem?_eq_getElem hm]
  have ez:∀ y,((kl.map (Tg pl)).take m ++ kl.drop m).set m y=(kl.map (Tg pl)).take m ++ y :: kl.drop (m + 1):=by
   intro y;rw [List.set_append_right _ _ (by rw [List.length_take];omega),List.length_take,List.length_map,Nat.min_eq_left (by omega),Nat.sub_self,List.drop_eq_getElem_cons hm,List.set_cons_zero]
  have hnext:(kl.map (Tg pl)).take (m + 1) ++ kl.drop (m + 1)=(kl.map (Tg pl)).take m ++ Tg pl kl[m] :: kl.drop (m + 1):=by
   rw [List.take_succ_eq_append_getElem (by rw [List.length_map];exact hm),List.getElem_map,List.append_assoc,List.singleton_append]
  refine Ev.step (fun k=>by rw [Db.l2]) ?_;refine Ev.pos (by rw [AZ];omega) (Ev.pos (by omega) ?_);rw [Tr,hr,pg hm (by omega),Int.toNat_natCast,ez];refine Ev.val ?_
  by_cases hgo:kl[m].f0=8 ∨ kl[m].f0=9
  ·obtain ⟨g0,g1⟩:=hg _ (List.getElem_mem hm) hgo;refine Ev.pos (by simp [hgo]) (Ev.pos g0 (Ev.pos g1 ?_));rw [hnext] at h;unfold Tg at h;rw [if_pos hgo] at h;exact h
  ·refine Ev.neg (by simpa using hgo) ?_;rw [hnext] at h;have e:Tg pl kl[m]=kl[m]:=by unfold Tg;rw [if_neg hgo]
   rw [e,← List.drop_eq_getElem_cons hm] at h;exact h
theorem MA (gs:List Int) (s:List Bool) (hl:l.length ≤ 1048576) (hs:s.length=l.length) (hm:∀ i:Nat,i < l.length→av false s (i:Int)=decide ((i:Int) ∈ gs))
  (he:Ev (fun k=>Db.l2 k (Ki l gs l.length) (ef l gs l.length) 0 y0 y1 y2 y3) R):Ev (fun k=>Db.l1 k s [] [] 0 x0 x1 x2 l y0 y1 y2 y3) R:=by
 have key:=nj (ρ:=Unit) (r:=()) (n:=l.length) (fun i=>Ev (fun k=>Db.l1 k s (Ki l gs i) (ef l gs i) (i:Int) x0 x1 x2 l y0 y1 y2 y3) R) ?_ ?_ 0 (by omega)
 ·exact key
 ·refine Ev.step (fun k=>by rw [Db.l1]) ?_;exact Ev.neg (by omega) he
 ·intro i hi h;have j4:=Lj l gs i;have hpl:=Ej l gs i
  have yes:Jl l i=false ∨ (i:Int) ∈ gs→Ev (fun k=>Db.l1 k s (Ki l gs (i + 1)) (ef l gs i ++ [ta l (i:Int)]) ((i + 1:Nat):Int) x0 x1 x2 l y0 y1 y2 y3) R:=by
   intro hh
   have e:ef l gs (i + 1)=ef l gs i ++ [ta l (i:Int)]:=if_neg (fun hc=>by
    rcases hh with h1|h1
    ·rw [h1] at hc;exact absurd hc.1 (by simp)
    ·exact hc.2 h1)
   rw [← e];exact h
  refine Ev.step (fun k=>by rw [Db.l1]) ?_;refine Ev.pos (by omega) (Ev.pos (by omega) (Ev.pos (by omega) (Ev.val ?_)));rw [pg hi (by omega),hm i hi]
  by_cases h0:(i:Int) > 0
  ·refine Ev.pos h0 ?_
   by_cases h1:(ta l (i:Int)).f0=1
   ·refine Ev.pos h1 (Ev.pos (by omega) ?_)
    by_cases hg:(i:Int) ∈ gs
    ·exact Ev.pos (by simp [hg]) (Ev.pos (by omega) (yes (Or.inr hg)))
    ·refine Ev.neg (by simp [hg]) ?_;have ew:wrap64 ((i:Int) - 1)=((i - 1:Nat):Int):=by rw [yg (by omega) (by omega)];omega
     rw [ew];refine Ev.pos (by omega) (Ev.pos (by omega) ?_)
     have ea:Jl l i=XG (ta l ((i - 1:Nat):Int)) (ta l (i:Int)):=by
      unfold Jl;rw [h1];have:0 < i:=by omega
      simp [this]
     by_cases hq:XG (ta l ((i - 1:Nat):Int)) (ta l (i:Int))=true
     ·refine Ev.pos hq ?_;have e:ef l gs (i + 1)=ef l gs i:=if_pos ⟨by rw [ea];exact hq,hg⟩;rw [e] at h;exact h
     ·refine Ev.neg hq (Ev.pos (by omega) (yes (Or.inl ?_)));rw [ea]
      simpa using hq
   ·refine Ev.neg h1 (Ev.pos (by omega) (yes (Or.inl ?_)));unfold Jl;rw [beq_eq_false_iff_ne.2 h1];simp
  ·refine Ev.neg h0 (Ev.pos (by omega) (yes (Or.inl ?_)));unfold Jl;have:¬ 0 < i:=by omega
   simp [this]
theorem NA (hl:l.length ≤ 1048576) (hg:∀ x ∈ l,x.f0=8 ∨ x.f0=9→0 ≤ x.f4∧x.f4 < (l.length:Int))
  (he:∀ s:List Bool,s.length=l.length→(∀ i:Nat,i < l.length→av false s (i:Int)=decide ((i:Int) ∈ aj l))→Ev (fun k=>Db.l1 k s [] [] 0 x0 x1 x2 l y0 y1 y2 y3) R) :
  Ev (fun k=>Db.l0 k (List.replicate l.length false) 0 x0 x1 x2 l y0 y1 y2 y3) R:=by
 have key:=nj (ρ:=Unit) (r:=()) (n:=l.length) (fun i=>∀ s:List Bool,s.length=l.length→(∀ j:Nat,seen s j=decide ((j:Int) ∈ aj (l.take i)))→Ev (fun k=>Db.l0 k s (i:Int) x0 x1 x2 l y0 y1 y2 y3) R) ?_ ?_ 0 (by omega)
 ·refine key _ (by simp) (fun j=>?_);rw [YC];simp [aj]
 ·intro s hs hj;rw [List.take_length] at hj;refine Ev.step (fun k=>by rw [Db.l0]) ?_;exact Ev.neg (by omega) (he s hs (fun i _=>hj i))
 ·intro i hi h s hs hj;have hr:ta l (i:Int)=l[i]:=Dj hi
  have ht:aj (l.take (i + 1))=aj (l.take i) ++ aj [l[i]]:=by
   rw [List.take_succ_eq_append_getElem hi];unfold aj;rw [List.filter_append,List.map_append]
  refine Ev.step (fun k=>by rw [Db.l0]) ?_;refine Ev.pos (by omega) (Ev.pos (by omega) ?_);rw [Tr,hr,pg hi (by omega)];refine Ev.val ?_
  by_cases hgo:l[i].f0=8 ∨ l[i].f0=9
  ·obtain ⟨g0,g1⟩:=hg _ (List.getElem_mem hi) hgo;refine Ev.pos (by simp [hgo]) (Ev.pos g0 (Ev.pos (by omega) (h _ (by rw [List.length_set];exact hs) (fun j=>?_))));rw [vE (by omega),hj j,ht,Jp,if_pos hgo,show aj []=[] from rfl]
   by_cases e:(j:Int)=l[i].f4
   ·have:l[i].f4.toNat=j:=by omega
    simp [this,← e]
   ·have:¬ l[i].f4.toNat=j:=by omega
    simp [this,e]
  ·refine Ev.neg (by simpa using hgo) (h s hs (fun j=>?_));rw [hj j,ht,Jp,if_neg hgo,show aj []=[] from rfl,List.append_nil]
end
theorem rL (x0:List Int) (x1 x2:Int) (l:List Wc) (h0:x0.length ≤ 1048576) (hl:l.length ≤ 1048576) :
  ∃ r:List Wc,r.length ≤ 1048576∧Ev (fun k=>Db.f k x0 x1 x2 l) (x0,x1,x2,r)∧Ev (fun k=>Bd.f k x0 x1 x2 l) (x0,x1,x2,r):=by
 have c1:dh.f x0 x1 x2 l=some (x0,x1,x2,l):=by
  unfold dh.f;simp only [Option.bind_some,List.length_nil,Nat.zero_add,List.nil_append];rw [if_pos (by omega),if_pos (by omega)]
 have c2:yh.f x0 x1 x2 l=some (x0,x1,x2,l):=by
  unfold yh.f;simp only [Option.bind_some,List.length_nil,Nat.zero_add,List.nil_append];rw [if_pos (by omega),if_pos (by omega)]
 by_cases hok:Wk x0 x1 x2 l=true
 ·have hp:=bw hl hok
  have hg:∀ x ∈ l,x.f0=8 ∨ x.f0=9→0 ≤ x.f4∧x.f4 < (l.length:Int):=by
   intro x hx;unfold Gr at hp;simp only [Bool.and_eq_true] at hp;exact of_decide_eq_true (List.all_eq_true.1 hp.2 x hx)
  refine ⟨(ef l (Xo (aj l)) l.length).map (Tg (Ki l (Xo (aj l)) l.length)),by rw [List.length_map];have:=Lj l (Xo (aj l)) l.length;omega,?_,?_⟩
  ·unfold Db.f;rw [c1];refine Ev.val (Ev.bind (zn x0 x1 x2 l (by omega) (by omega)) (Ev.pos hok (Ev.pos (by omega) (Ev.pos (by omega) ?_))));have hs0:List.replicate ((l.length:Int)).toNat false=List.replicate l.length false:=rfl;rw [hs0];refine NA hl hg (fun s hs hm=>?_);refine MA (Xo (aj l)) s hl hs (fun i hi=>?_) ?_
   ·rw [hm i hi];exact decide_eq_decide.2 ((wH (aj l)).2 _).symm
   ·refine LA _ _ (by have:=Lj l (Xo (aj l)) l.length;omega) (fun x hx hgo=>?_);rw [Ej];exact hg x (Av l _ l.length (Nat.le_refl _) x hx) hgo
  ·unfold Bd.f uj.f Fh.f;rw [c2];refine Ev.bind (Ev.val (Ev.val (Ev.pos hok (Ev.bind (qL x0 x1 x2 l hl) (Ev.pos hp (Ev.now _)))))) (Ev.now _)
 ·refine ⟨l,hl,?_,?_⟩
  ·unfold Db.f;rw [c1];exact Ev.val (Ev.bind (zn x0 x1 x2 l (by omega) (by omega)) (Ev.neg hok (Ev.now _)))
  ·unfold Bd.f uj.f Fh.f;rw [c2];exact Ev.bind (Ev.val (Ev.val (Ev.neg hok (Ev.now _)))) (Ev.now _)
theorem Pr (x:kU) (hf:sM x):∃ k,Gg.f k x.f0 x.f1 x.f2 x.f3=some true:=by
 obtain ⟨h0,_,_,h3⟩:=hf;obtain ⟨t,e1,e2,e3⟩:=uE x.f0 x.f1 x.f2 x.f3 1048576 (by omega) (by omega) h0.1 h3.1;refine Ev.rounds (g:=fun k=>Gg.f k x.f0 x.f1 x.f2 x.f3) ?_;unfold Gg.f;rw [e1];refine Ev.val ?_
 by_cases ht:t < 0
 ·exact Ev.pos ht (Ev.now _)
 refine Ev.neg ht ?_;obtain ⟨b0,b3⟩:=e3 (by omega);have hT:=JA x.f0 x.f1 x.f2 x.f3 b0 b3;have hm:(x.f3.map ak).length ≤ 1048576:=by rw [List.length_map];exact b3
 obtain ⟨r,r1,r2,r3⟩:=rL x.f0 x.f1 x.f2 (x.f3.map ak) b0 hm;have hq:=Cu x.f0 x.f1 x.f2 r (by omega) (by omega);have Js:=Cu x.f0 x.f1 x.f2 (x.f3.map ak) (by omega) (by omega)
 have mark:∀ l:List Wc,l.length ≤ 1048576→Ev (fun k=>dc.f k x.f0 x.f1 x.f2 l 1) (1 + x.f0.length + 5 * l.length,iota 1 x.f0.length,ug (1 + x.f0.length) l.length):=by
  intro l hl;unfold dc.f;exact Ev.bind (mz x.f0 1 (by omega) (by omega)) (Ev.bind (Mx l (1 + x.f0.length) (by omega) (by omega)) (Ev.now _))
 have hH:Ev (fun k=>Lb.f k (iota 1 x.f0.length) x.f1 x.f2 (ug (1 + x.f0.length) r.length) 1) (1 + x.f0.length + 5 * r.length):=by
  unfold Lb.f;exact Ev.bind (oz 1 x.f0.length (by omega) (by omega)) (Ev.neg (by omega) (Ev.bind (Nx (1 + x.f0.length) r.length (by omega) (by omega)) (Ev.neg (by omega) (Ev.now _))))
 refine Ev.bind hT (Ev.bind r2 (Ev.bind hT (Ev.bind r3 (Ev.bind hq (Ev.pos rfl (Ev.bind hT (Ev.bind Js (Ev.pos rfl (Ev.bind (mark _ hm) (Ev.neg (by omega) (Ev.bind hq (Ev.pos rfl (Ev.bind (mark r r1) (Ev.bind hH (Ev.neg (by omega) (Ev.pos rfl ?_))))))))))))))));exact Ev.bind hT (Ev.bind r3 (Ev.bind hq (Ev.pos rfl (Ev.bind hH (Ev.neg (by omega) (Ev.pos rfl (Ev.now _)))))))
end Go.Proofs.Ytoomcmaifgkkfaa.P
end
