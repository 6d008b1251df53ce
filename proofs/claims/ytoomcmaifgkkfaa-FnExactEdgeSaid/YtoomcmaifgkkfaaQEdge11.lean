import Derived.Test.YtoomcmaifgkkfaaQEdge1
import Derived.Test.YtoomcmaifgkkfaaQEdge3
import Derived.Test.YtoomcmaifgkkfaaQEdge4
import Derived.Test.YtoomcmaifgkkfaaQEdge10
import Derived.Test.YtoomcmaifgkkfaaQEdge9
import Derived.Test.YtoomcmaifgkkfaaQEdge6
import Derived.Test.YtoomcmaifgkkfaaQEdge5
import Derived.Shelf.Abstract
import Derived.Outline
import Derived.Test.YtoomcmaifgkkfaaQEdge8
set_option maxHeartbeats 8000000
set_option maxRecDepth 100000
section
namespace Go.Proofs.Ytoomcmaifgkkfaa.P
open Go.RowKit Go.Proofs.Ia.Zb Go.Proofs.Ia.Qd Go.Proofs.Ia.Me
set_option linter.unusedVariables false
set_option linter.unusedSimpArgs false
def Z5 (bs:List Df) (a:Int) (i:Nat):List Int:=(ij bs i).filter fun j=>decide (j ≠ a)
section
variable {l0:List Int} {p v s:Int} {bs:List Df}
theorem NV (hE:Zf bs) {a:Nat} (ha:0 ≠ a) (k:Nat):Kq (Z5 bs (a:Int)) k ↔ RA (ij bs) a k:=by
 constructor
 ·intro h
  induction h with
  | zero=>exact RA.zero ha
  | @step i j hr hj ih =>
   obtain ⟨h1,h2⟩:=List.mem_filter.1 hj;have:=hE.2.2 i (qt hE ih.bL) j h1;rw [decide_eq_true_eq] at h2;exact RA.step ih h1 (by omega)
 ·intro h
  induction h with
  | zero _=>exact Kq.zero
  | @step i j hr hj hne ih =>
   have:=hE.2.2 i (qt hE hr.bL) j hj;exact Kq.step ih (List.mem_filter.2 ⟨hj,by rw [decide_eq_true_eq];omega⟩)
theorem UH {ys:List Int} {a:Int} {r:List Bool} {n:Nat} (hn:n ≤ 1048576) (hy:ys.length ≤ 2) :
  ∀ (d i:Nat) (sn:List Bool) (q:List Int),i + d=ys.length→sn.length=n→q.length + d ≤ 4 * n + 8→(∀ j ∈ ys,0 ≤ j∧j < n) →
  Ev (fun k=>Mb.l0 k a (((ys.drop i).filter fun j=>decide (j ≠ a)).foldl jg (sn,q)).1 (((ys.drop i).filter fun j=>decide (j ≠ a)).foldl jg (sn,q)).2 l0 p v s bs) r→Ev (fun k=>Mb.l1 k a sn q ys (i:Int) l0 p v s bs) r:=by
 intro d
 induction d with
 | zero =>
  intro i sn q hi hs hq hr he;have e:i=ys.length:=by omega
  subst e;rw [List.drop_length,List.filter_nil] at he;refine Ev.step (fun k=>by rw [Mb.l1]) ?_;exact Ev.neg (by omega) he
 | succ d ih =>
  intro i sn q hi hs hq hr he;have hi':i < ys.length:=by omega
  obtain ⟨j0,j1⟩:=hr ys[i] (List.getElem_mem hi');have hrd:rd ys (i:Int)=ys[i]:=by rw [eF,List.getD_eq_getElem?_getD,List.getElem?_eq_getElem hi'];rfl
  rw [List.drop_eq_getElem_cons hi',List.filter_cons] at he;refine Ev.step (fun k=>by rw [Mb.l1]) ?_;refine Ev.pos (by omega) (Ev.pos (by omega) ?_);rw [hrd];rw [Be hi' (by omega)];have hse:qg false sn ys[i]=seen sn ys[i].toNat:=rfl;rw [hse]
  by_cases ha:ys[i]=a
  ·refine Ev.pos ha ?_;rw [if_neg (by simp [ha])] at he;exact ih (i + 1) sn q (by omega) hs (by omega) hr he
  ·rw [if_pos (by simp [ha]),List.foldl_cons] at he;refine Ev.neg ha (Ev.pos j0 (Ev.pos (by omega) ?_))
   by_cases hc:seen sn ys[i].toNat=true
   ·refine Ev.pos hc ?_;have e:jg (sn,q) ys[i]=(sn,q):=by unfold jg;rw [if_pos hc]
    rw [e] at he;exact ih (i + 1) sn q (by omega) hs (by omega) hr he
   ·refine Ev.neg hc (Ev.pos (by omega) ?_);have e:jg (sn,q) ys[i]=(sn.set ys[i].toNat true,q ++ [ys[i]]):=by unfold jg;rw [if_neg hc]
    rw [e] at he;exact ih (i + 1) _ _ (by omega) (by rw [List.length_set];exact hs) (by rw [List.length_append,List.length_singleton];omega) hr he
theorem eD {a:Int} (hE:Zf bs) :
  ∀ (m:Nat) (sn:List Bool) (q:List Int),2 * news sn + q.length ≤ m→iE bs.length (Z5 bs a) sn q→(∀ j,seen sn j=true→(j:Int) ∉ q→∀ m ∈ Z5 bs a j,seen sn m.toNat=true)→∃ t:List Bool,t.length=bs.length∧(∀ j,seen t j=true ↔ Kq (Z5 bs a) j)∧Ev (fun k=>Mb.l0 k a sn q l0 p v s bs) t:=by
 have hn:=hE.2.1;intro m
 induction m with
 | zero =>
  intro sn q hm h hs;cases q with
  | cons i q=>rw [List.length_cons] at hm;omega
  | nil=>exact ⟨sn,h.len,YY h (fun j hj=>hs j hj (by simp)),Ev.step (fun k=>by rw [Mb.l0]) (Ev.neg (by simp) (Ev.now _))⟩
 | succ m ih =>
  intro sn q hm h hs;cases q with
  | nil=>exact ⟨sn,h.len,YY h (fun j hj=>hs j hj (by simp)),Ev.step (fun k=>by rw [Mb.l0]) (Ev.neg (by simp) (Ev.now _))⟩
  | cons i q =>
   obtain ⟨h0,h1,h2⟩:=h.bS i (by simp);have hi:i.toNat < bs.length:=by omega
   have hR:=h.bL _ h2;have hc:=h.cap;rw [List.length_cons] at hc hm;have g:iE bs.length (Z5 bs a) sn q:=⟨h.len,fun j hj=>h.bS j (by simp [hj]),h.bL,by omega,h.BV⟩
   have gs:Shut (Z5 bs a) sn q i.toNat:=by
    intro j hj hq hji;refine hs j hj ?_;intro hmem
    rcases List.mem_cons.mp hmem with e|e
    ·exact hji (by omega)
    ·exact hq e
   obtain ⟨a1,a2,a3,a4,a5⟩:=fJ hR (Z5 bs a i.toNat) sn q g gs (fun j hj=>⟨(hE.2.2 _ hi j (List.mem_filter.1 hj).1).1,(hE.2.2 _ hi j (List.mem_filter.1 hj).1).2,hj⟩);have hit:((i.toNat:Nat):Int)=i:=Int.toNat_of_nonneg h0;have W0:(ij bs i.toNat).length ≤ 2:=xl _;have U_:ig.f (Ta bs i).f0 (Ta bs i).f1 (Ta bs i).f2 (Ta bs i).f3 (Ta bs i).f4=some (ij bs i.toNat):=by unfold ij;rw [hit];exact Zz _
   have hrd:rd (i :: q) 0=i:=rfl;have hl:=h.len
   obtain ⟨t,t1,t2,t3⟩:=ih _ _ (by omega) a1 (by
    intro j hj hq
    by_cases e:j=i.toNat
    ·intro m hm';rw [e] at hm';exact a3 m hm'
    ·exact a2 j hj hq e)
   refine ⟨t,t1,t2,?_⟩;refine Ev.step (fun k=>by rw [Mb.l0]) ?_;refine Ev.pos (by rw [List.length_cons];omega) (Ev.pos (by rw [List.length_cons];omega) ?_);rw [hrd];refine Ev.pos h0 (Ev.pos h1 ?_);rw [U_];refine Ev.val (Ev.pos (by rw [List.length_cons];omega) ?_);refine UH (n:=bs.length) hn W0 (ij bs i.toNat).length 0 sn q (by omega) hl (by omega) (hE.2.2 _ hi) ?_;rw [List.drop_zero];exact t3
theorem YQ (hE:Zf bs) (a:Nat) (ha:0 ≠ a):∃ t:List Bool,t.length=bs.length∧(∀ j,seen t j=true ↔ RA (ij bs) a j)∧Ev (fun k=>Mb.f k l0 p v s bs 0 (a:Int) (List.replicate bs.length false)) t:=by
 obtain ⟨t,t1,t2,t3⟩:=eD (a:=(a:Int)) (l0:=l0) (p:=p) (v:=v) (s:=s) hE _ ((List.replicate bs.length false).set 0 true) [0] (Nat.le_refl _) (OC hE.1) (fun j hj hq=>by
  rw [Jo _ hE.1,decide_eq_true_eq] at hj;subst hj
  exact absurd (by simp) hq)
 refine ⟨t,t1,fun j=>(t2 j).trans (NV hE ha j),?_⟩;unfold Mb.f;exact Ev.pos (by omega) (Ev.pos (by rw [List.length_replicate];have:=hE.1;omega) t3)
noncomputable def qm (bs:List Df) (i:Nat):List Bool:=open Classical in (List.range bs.length).map fun k=>decide (Dom (ij bs) i k)
noncomputable def Zs (bs:List Df):List (List Bool):=(List.range bs.length).map (qm bs)
theorem Qo (bs:List Df) (i:Nat):(qm bs i).length=bs.length:=by simp [qm]
theorem Io (bs:List Df):(Zs bs).length=bs.length:=by simp [Zs]
theorem GV {bs:List Df} {i:Nat} (hi:i < bs.length):(Zs bs).getD i []=qm bs i:=by simp [Zs,List.getD_eq_getElem?_getD,hi]
theorem EP {bs:List Df} {i k:Nat} (hk:k < bs.length):(qm bs i).getD k false=true ↔ Dom (ij bs) i k:=by simp [qm,List.getD_eq_getElem?_getD,hk]
theorem bD {r:List (List Bool)} (hE:Zf bs) (he:∀ cm:List Bool,cm.length=bs.length→(∀ j,seen cm j=true ↔ Kq (ij bs) j)→Ev (fun k=>yb.l1 k (bs.length:Int) cm [] 0 l0 p v s bs) r) :
  Ev (fun k=>yb.l0 k (bs.length:Int) (List.replicate bs.length false) (yd bs) 0 l0 p v s bs) r:=by
 have hrl:=eo bs;have hn:=hE.2.1;have key:=dh (r:=r) (n:=(yd bs).length) (fun i=>∀ cm:List Bool,cm.length=bs.length→(∀ j:Nat,seen cm j=true ↔ (j:Int) ∈ (yd bs).take i)→Ev (fun k=>yb.l0 k (bs.length:Int) cm (yd bs) (i:Int) l0 p v s bs) r) ?_ ?_ 0 (by omega)
 ·exact key _ (by simp) (fun j=>by rw [Hs];simp)
 ·intro cm hc hs;refine Ev.step (fun k=>by rw [yb.l0]) ?_;refine Ev.neg (by omega) (he cm hc (fun j=>?_));rw [hs,List.take_length,Hh hE,Int.toNat_natCast];exact ⟨fun h=>h.2,fun h=>⟨by omega,h⟩⟩
 ·intro i hi h cm hc hs;obtain ⟨x0,xr⟩:=(Hh hE _).1 (List.getElem_mem hi);have hx:=qt hE xr;refine Ev.step (fun k=>by rw [yb.l0]) ?_;refine Ev.pos (by omega) (Ev.pos (by omega) ?_);rw [Ek hi,Be hi (by omega)];refine Ev.pos x0 (Ev.pos (by rw [hc];omega) (h _ (by rw [List.length_set];exact hc) (fun j=>?_)));rw [Pj (by rw [hc];exact hx),Bool.or_eq_true,decide_eq_true_eq,hs,List.take_succ_eq_append_getElem hi,List.mem_append,List.mem_singleton]
  constructor
  ·rintro (h|h)
   ·right;omega
   ·left;exact h
  ·rintro (h|h)
   ·right;exact h
   ·left;omega
theorem Su {r:List (List Bool)} {cm wo:List Bool} {acc:List (List Bool)} {i:Nat} (hE:Zf bs) (hi:i < bs.length) (hc:cm.length=bs.length) (P7:∀ j,seen cm j=true ↔ Kq (ij bs) j) (hw:wo.length=bs.length) (hwr:Kq (ij bs) i→∀ j,Kq (ij bs) j→(seen wo j=true ↔ RA (ij bs) i j)) (ha:acc.length ≤ bs.length)
  (he:Ev (fun k=>yb.l1 k (bs.length:Int) cm (acc ++ [qm bs i]) ((i + 1:Nat):Int) l0 p v s bs) r) :
  Ev (fun k=>yb.l2 k (bs.length:Int) cm acc (i:Int) wo (List.replicate bs.length false) 0 l0 p v s bs) r:=by
 have hn:=hE.2.1;have key:=dh (r:=r) (n:=bs.length) (fun j=>Ev (fun k=>yb.l2 k (bs.length:Int) cm acc (i:Int) wo ((qm bs i).take j ++ List.replicate (bs.length - j) false) (j:Int) l0 p v s bs) r) ?_ ?_ 0 (by omega)
 ·simpa using key
 ·have e:(qm bs i).take bs.length ++ List.replicate (bs.length - bs.length) false=qm bs i:=by rw [List.take_of_length_le (by rw [Qo];omega),Nat.sub_self,List.replicate_zero,List.append_nil]
  rw [e];refine Ev.step (fun k=>by rw [yb.l2]) ?_;refine Ev.neg (by omega) (Ev.pos (by omega) ?_);rw [Be hi (by omega)];exact he
 ·intro j hj h
  have SC:∀ b:Bool,b=(qm bs i).getD j false→((qm bs i).take j ++ List.replicate (bs.length - j) false).set j b=(qm bs i).take (j + 1) ++ List.replicate (bs.length - (j + 1)) false:=by
   intro b hb;subst hb;have:=Bz (m:=qm bs i) (z:=false) (i:=j) (by rw [Qo];exact hj);rw [Qo] at this;exact this
  have hln:((qm bs i).take j ++ List.replicate (bs.length - j) false).length=bs.length:=by rw [List.length_append,List.length_take,List.length_replicate,Qo];omega
  have s1:qg false cm (i:Int)=seen cm i:=rfl;have s2:qg false cm (j:Int)=seen cm j:=rfl;have s3:qg false wo (j:Int)=seen wo j:=rfl;refine Ev.step (fun k=>by rw [yb.l2]) ?_;refine Ev.pos (by omega) (Ev.pos (by omega) (Ev.pos (by omega) ?_));rw [s1,s2,s3,Int.toNat_natCast,Be hj (by omega)];have hdom:=EP (bs:=bs) (i:=i) hj
  by_cases vV:seen cm i=true
  ·refine Ev.pos vV (Ev.pos (by omega) (Ev.pos (by omega) ?_))
   by_cases hcj:seen cm j=true
   ·refine Ev.pos hcj (Ev.pos (by omega) (Ev.pos (by rw [hln];omega) ?_));rw [SC]
    ·exact h
    ·have hri:=(P7 i).1 vV;have hrj:=(P7 j).1 hcj;have hwj:=hwr hri j hrj;cases hwb:seen wo j with
     | true =>
      cases hd:(qm bs i).getD j false with
      | false=>rfl
      | true=>exact absurd (hwj.1 hwb) (hdom.1 hd).2.2
     | false=>exact (hdom.2 ⟨hri,hrj,fun hra=>by rw [hwj.2 hra] at hwb;cases hwb⟩).symm
   ·refine Ev.neg hcj (Ev.pos (by rw [hln];omega) ?_);rw [SC]
    ·exact h
    ·cases hd:(qm bs i).getD j false with
     | false=>rfl
     | true=>exact absurd ((P7 j).2 (hdom.1 hd).2.1) hcj
  ·refine Ev.neg vV (Ev.pos (by omega) (Ev.pos (by rw [hln];omega) ?_));rw [SC]
   ·exact h
   ·cases hd:(qm bs i).getD j false with
    | false=>rfl
    | true=>exact absurd ((P7 i).2 (hdom.1 hd).1) vV
theorem aD {cm:List Bool} (hE:Zf bs) (hc:cm.length=bs.length) (P7:∀ j,seen cm j=true ↔ Kq (ij bs) j):Ev (fun k=>yb.l1 k (bs.length:Int) cm [] 0 l0 p v s bs) (Zs bs):=by
 have hn:=hE.2.1;have key:=dh (r:=Zs bs) (n:=bs.length) (fun i=>Ev (fun k=>yb.l1 k (bs.length:Int) cm ((Zs bs).take i) (i:Int) l0 p v s bs) (Zs bs)) ?_ ?_ 0 (by omega)
 ·exact key
 ·refine Ev.step (fun k=>by rw [yb.l1]) ?_;refine Ev.neg (by omega) ?_;rw [List.take_of_length_le (by rw [Io];omega)];exact Ev.now _
 ·intro i hi h
  have hti:(Zs bs).take (i + 1)=(Zs bs).take i ++ [qm bs i]:=by
   rw [List.take_succ_eq_append_getElem (by rw [Io];exact hi)];simp [Zs]
  rw [hti] at h;have hlt:((Zs bs).take i).length ≤ bs.length:=by rw [List.length_take,Io];omega
  refine Ev.step (fun k=>by rw [yb.l1]) ?_;refine Ev.pos (by omega) (Ev.pos (by omega) (Ev.pos (by omega) (Ev.val ?_)));rw [Int.toNat_natCast]
  by_cases h0:i=0
  ·subst h0;refine Ev.pos rfl ?_;refine Ev.step (fun k=>by rw [yb.j2]) ?_;refine Ev.pos (by omega) (Ev.pos (by omega) ?_);rw [Int.toNat_natCast];refine Su hE hi hc P7 (by simp) (fun _ j hj=>?_) hlt h;rw [Hs];exact ⟨(fun h=>by cases h),fun h=>absurd h (Dom.zero hj).2.2⟩
  ·obtain ⟨t,t1,t2,t3⟩:=YQ (l0:=l0) (p:=p) (v:=v) (s:=s) hE i (fun e=>h0 e.symm);refine Ev.neg (by omega) (Ev.bind t3 ?_);refine Ev.step (fun k=>by rw [yb.j2]) ?_;refine Ev.pos (by omega) (Ev.pos (by omega) ?_);rw [Int.toNat_natCast];exact Su hE hi hc P7 t1 (fun _ j _=>t2 j) hlt h
theorem aK (h0:l0.length ≤ 1048576) (hl:bs.length ≤ 1048576) (ht:qe bs ≤ 1048576) (hok:Rl l0 p v s bs=true):Ev (fun k=>yb.f k l0 p v s bs) (Zs bs):=by
 have hE:=Vw hok;unfold yb.f;refine Ev.pos (by omega) (Ev.pos (by omega) (Ev.bind (VH h0 hl ht hok) ?_));rw [Int.toNat_natCast];exact bD hE (fun cm h1 h2=>aD hE h1 h2)
end
end Go.Proofs.Ytoomcmaifgkkfaa.P
end
section
namespace Go.Proofs.Ytoomcmaifgkkfaa.P
open Go.RowKit Go.Proofs.Ia.Zb Go.Proofs.Ia.Qd Go.Proofs.Ia.Me
set_option linter.unusedVariables false
set_option linter.unusedSimpArgs false
theorem KA (l:List Int) (a:Int) (hl:l.length ≤ 9223372036854775807):Ev (fun k=>tc.f k l a) (decide (a ∈ l)):=by
 obtain ⟨k,r,h1,h2⟩:=QC l a hl;refine Ev.of (fun k=>tc.mono _ _ _) (k:=k) ?_;unfold tc.f;rw [h1];exact congrArg some (decide_eq_decide.2 h2)
section
variable {l0:List Int} {p v s:Int} {bs:List Df}
theorem pQ {k:Nat} (hk:k < bs.length):qn (Dk bs) k=iB bs k:=by simp [qn,Dk,List.getD_eq_getElem?_getD,hk]
theorem nK (hE:Zf bs) {i:Int} {k:Nat}:i ∈ iB bs k ↔ 0 ≤ i∧Dom (ij bs) i.toNat k:=by
 unfold iB;rw [List.mem_filter,Hh hE]
 constructor
 ·rintro ⟨⟨h0,_⟩,h⟩;exact ⟨h0,by simpa using h⟩
 ·rintro ⟨h0,h⟩;exact ⟨⟨h0,h.1⟩,by simpa using h⟩
theorem zL (hE:Zf bs):oh.f l0 p v s bs=some (Dk bs):=by
 unfold oh.f;rw [if_pos hE]
end
end Go.Proofs.Ytoomcmaifgkkfaa.P
end
section
namespace Go.Proofs.Ytoomcmaifgkkfaa.P
open Go.RowKit Go.Proofs.Ia.Zb Go.Proofs.Ia.Qd Go.Proofs.Ia.Me
set_option linter.unusedVariables false
set_option linter.unusedSimpArgs false
theorem Dom.trans {nx:Nat→List Int} {x y z:Nat} (h1:Dom nx x y) (h2:Dom nx y z):Dom nx x z:=by
 refine ⟨h1.1,h2.2.1,fun hr=>h2.2.2 ?_⟩
 have key:∀ v,RA nx x v→RA nx y v:=by
  intro v hv
  induction hv with
  | zero h0=>exact RA.zero (fun e=>h1.2.2 (e ▸ RA.zero h0))
  | @step u t hu ht hne ih=>exact RA.step ih ht (fun e=>h1.2.2 (e ▸ RA.step hu ht hne))
 exact key z hr
section
variable {bs:List Df}
end
end Go.Proofs.Ytoomcmaifgkkfaa.P
end
section
namespace Go.Proofs.Ytoomcmaifgkkfaa.P
open Go.RowKit Go.Proofs.Ia.Zb Go.Proofs.Ia.Qd Go.Proofs.Ia.Me
set_option linter.unusedVariables false
set_option linter.unusedSimpArgs false
section
variable {l0:List Int} {p v s:Int} {bs:List Df}
theorem S5 {i:Nat} (hi:i < bs.length):Fg (Zs bs) (i:Int)=qm bs i:=GV hi
theorem cJ {i:Nat} (hi:i < bs.length):Je (Dk bs) (i:Int)=iB bs i:=by
 rw [← pQ hi]
 rfl
end
end Go.Proofs.Ytoomcmaifgkkfaa.P
end
section
namespace Go.Proofs.Ytoomcmaifgkkfaa.P
open Go.RowKit Go.Proofs.Ia.Zb Go.Proofs.Ia.Qd Go.Proofs.Ia.Me
set_option linter.unusedVariables false
set_option linter.unusedSimpArgs false
section
variable {l0:List Int} {p v s:Int} {bs:List Df}
noncomputable def bR (bs:List Df) (b q:Nat) (t:Int):Bool:=qg false (qm bs b) (q:Int) && (decide (t=(b:Int)) || !qg false (qm bs b) t)
noncomputable def edQ (bs:List Df) (b q:Nat):List Int:=(ij bs q).filter (bR bs b q)
noncomputable def ER (bs:List Df) (b:Nat):Nat→List Int
 | 0=>[]
 | q + 1=>ER bs b q ++ edQ bs b q
theorem Hq (b:Nat):∀ q,(ER bs b q).length ≤ 2 * q
 | 0=>by simp [ER]
 | q + 1=>by
  have h1:=Hq b q;have h2:(edQ bs b q).length ≤ 2:=Nat.le_trans (List.length_filter_le _ _) (xl _);unfold ER;rw [List.length_append];omega
theorem mK (hE:Zf bs) {b q:Nat} (hq:q < bs.length):decide ((b:Int) ∈ iB bs q)=qg false (qm bs b) (q:Int):=by
 have h1:=EP (bs:=bs) (i:=b) hq;have h2:qg false (qm bs b) (q:Int)=(qm bs b).getD q false:=rfl;rw [h2]
 by_cases hd:Dom (ij bs) b q
 ·rw [h1.2 hd];exact decide_eq_true ((nK hE).2 ⟨by omega,by rw [Int.toNat_natCast];exact hd⟩)
 ·rw [decide_eq_false (fun h=>hd (by have:=((nK hE).1 h).2;rwa [Int.toNat_natCast] at this))];cases hb:(qm bs b).getD q false with
  | false=>rfl
  | true=>exact absurd (h1.1 hb) hd
theorem iK {acc:List (List Int)} {r:List (List Int)} {b q:Nat} (hE:Zf bs) (hb:b < bs.length) (hq:q < bs.length) {ts:List Int} (hts:∀ t ∈ ts,0 ≤ t∧t < (bs.length:Int)) (htl:ts.length ≤ 2) :
  ∀ (d i:Nat) (x6:List Int),i + d=ts.length→x6.length + d ≤ 4000000→Ev (fun k=>Cc.l1 k acc (Zs bs) (b:Int) (((ts.drop i).filter (bR bs b q)).foldl Qq x6) ((q + 1:Nat):Int) l0 p v s bs) r →
  Ev (fun k=>Cc.l2 k acc (Zs bs) (b:Int) x6 (q:Int) ts (i:Int) l0 p v s bs) r:=by
 have hn:=hE.2.1;have htb:=Io bs;intro d
 induction d with
 | zero =>
  intro i x6 hi hx he;obtain rfl:i=ts.length:=by omega
  rw [List.drop_length,List.filter_nil] at he;refine Ev.step (fun k=>by rw [Cc.l2]) (Ev.neg (by omega) ?_);rw [Be hq (by omega)];exact he
 | succ d ih =>
  intro i x6 hi hx he;have hi':i < ts.length:=by omega
  obtain ⟨t0,t1⟩:=hts _ (List.getElem_mem hi');rw [List.drop_eq_getElem_cons hi',List.filter_cons] at he;refine Ev.step (fun k=>by rw [Cc.l2]) (Ev.pos (by omega) (Ev.pos (by omega) (Ev.pos (by omega) (Ev.pos (by omega) ?_))));rw [S5 hb,Qo,Ek hi',Be hi' (by omega)];refine Ev.pos (by omega) ?_
  have ha:Ke.f x6 ts[i]=some (Qq x6 ts[i]):=by
   unfold Ke.f;rw [if_pos (by omega)]
  have hal:=TA x6 ts[i]
  by_cases h1:qg false (qm bs b) (q:Int)=true
  ·refine Ev.pos h1 (Ev.pos (by omega) (Ev.pos t0 (Ev.pos (by omega) ?_)))
   by_cases h2:qg false (qm bs b) ts[i]=true
   ·refine Ev.pos h2 ?_
    by_cases h3:ts[i]=(b:Int)
    ·rw [if_pos (by unfold bR;rw [h1,decide_eq_true h3];rfl),List.foldl_cons] at he;refine Ev.pos h3 ?_;rw [ha];exact Ev.val (ih (i + 1) _ (by omega) (by omega) he)
    ·rw [if_neg (by unfold bR;rw [h1,h2,decide_eq_false h3];simp)] at he;exact Ev.neg h3 (ih (i + 1) _ (by omega) (by omega) he)
   ·rw [if_pos (by unfold bR;rw [h1,Bool.eq_false_iff.2 h2];simp),List.foldl_cons] at he;refine Ev.neg h2 ?_;rw [ha];exact Ev.val (ih (i + 1) _ (by omega) (by omega) he)
  ·rw [if_neg (by unfold bR;rw [Bool.eq_false_iff.2 h1];simp)] at he;exact Ev.neg h1 (ih (i + 1) _ (by omega) (by omega) he)
noncomputable def mm (bs:List Df):List (List Int):=(List.range bs.length).map fun b=>gx (ER bs b bs.length)
theorem Xk:(mm bs).length=bs.length:=by simp [mm]
theorem gD {i:Nat} (hi:i < bs.length):(mm bs).take (i + 1)=(mm bs).take i ++ [gx (ER bs i bs.length)]:=by
 rw [List.take_succ_eq_append_getElem (by rw [Xk];exact hi)];simp [mm]
theorem dU (hE:Zf bs):Ev (fun k=>Cc.l0 k [] (Zs bs) 0 l0 p v s bs) (mm bs):=by
 have hn:=hE.2.1;have htb:=Io bs;have key:=dh (r:=mm bs) (n:=bs.length) (fun i=>Ev (fun k=>Cc.l0 k ((mm bs).take i) (Zs bs) (i:Int) l0 p v s bs) (mm bs)) ?_ ?_ 0 (by omega)
 ·exact key
 ·refine Ev.step (fun k=>by rw [Cc.l0]) (Ev.neg (by omega) ?_);rw [List.take_of_length_le (by rw [Xk];omega)];exact Ev.now _
 ·intro b hb h;rw [gD hb] at h;refine Ev.step (fun k=>by rw [Cc.l0]) (Ev.pos (by omega) ?_);have key:=dh (r:=mm bs) (n:=bs.length) (fun q=>Ev (fun k=>Cc.l1 k ((mm bs).take b) (Zs bs) (b:Int) ((ER bs b q).foldl Qq []) (q:Int) l0 p v s bs) (mm bs)) ?_ ?_ 0 (by omega)
  ·exact key
  ·refine Ev.step (fun k=>by rw [Cc.l1]) (Ev.neg (by omega) (Ev.pos (by rw [List.length_take,Xk];omega) ?_));rw [BU,Be hb (by omega)];exact h
  ·intro q hq h2;have hl:=zz (ER bs b q) [];have hl2:=Hq (bs:=bs) b q;refine Ev.step (fun k=>by rw [Cc.l1]) (Ev.pos (by omega) (Ev.pos (by omega) (Ev.pos (by omega) ?_)));rw [Zz];refine Ev.val ?_;refine iK hE hb hq (ts:=ij bs q) (hE.2.2 q hq) (xl _) (ij bs q).length 0 _ (by omega) (by have:(ij bs q).length ≤ 2:=xl _;simp only [List.length_nil] at hl;omega) ?_;rw [List.drop_zero,← List.foldl_append];exact h2
theorem jK {acc:List (List Int)} {r:List (List Int)} {b q:Nat} {n:Int} (hE:Zf bs) (hb:b < bs.length) (hq:q < bs.length) {ts:List Int} (hts:∀ t ∈ ts,0 ≤ t∧t < (bs.length:Int)) (htl:ts.length ≤ 2) :
  ∀ (d i:Nat) (x6:List Int),i + d=ts.length→x6.length + d ≤ 4000000→Ev (fun k=>yc.l1 k (Dk bs) acc (b:Int) (x6 ++ (ts.drop i).filter (bR bs b q)) n (b:Int) bs (bs.length:Int) ((q + 1:Nat):Int) l0 p v s bs) r →
  Ev (fun k=>yc.l2 k (Dk bs) acc (b:Int) x6 (q:Int) n (b:Int) bs (bs.length:Int) (q:Int) ts (ts.length:Int) (i:Int) l0 p v s bs) r:=by
 have hn:=hE.2.1;have hrl:=xw bs;have hdq:=MA bs q;intro d
 induction d with
 | zero =>
  intro i x6 hi hx he;obtain rfl:i=ts.length:=by omega
  rw [List.drop_length,List.filter_nil,List.append_nil] at he;refine Ev.step (fun k=>by rw [yc.l2]) (Ev.neg (by omega) ?_);rw [Be hq (by omega)];exact he
 | succ d ih =>
  intro i x6 hi hx he;have hi':i < ts.length:=by omega
  obtain ⟨t0,t1⟩:=hts _ (List.getElem_mem hi');rw [List.drop_eq_getElem_cons hi',List.filter_cons] at he;refine Ev.step (fun k=>by rw [yc.l2]) (Ev.pos (by omega) (Ev.pos (by omega) (Ev.pos (by omega) (Ev.pos (by omega) (Ev.pos (by omega) ?_)))));rw [cJ hq,Ek hi',Be hi' (by omega)];refine Ev.bind (KA (iB bs q) (b:Int) (by omega)) ?_;rw [mK hE hq]
  have app:bR bs b q ts[i]=true→Ev (fun k=>yc.l2 k (Dk bs) acc (b:Int) (x6 ++ [ts[i]]) (q:Int) n (b:Int) bs (bs.length:Int) (q:Int) ts (ts.length:Int) ((i + 1:Nat):Int) l0 p v s bs) r:=by
   intro hc;rw [if_pos hc] at he;refine ih (i + 1) _ (by omega) (by rw [List.length_append,List.length_singleton];omega) ?_;rw [List.append_assoc,List.singleton_append];exact he
  have skip:bR bs b q ts[i]=false→Ev (fun k=>yc.l2 k (Dk bs) acc (b:Int) x6 (q:Int) n (b:Int) bs (bs.length:Int) (q:Int) ts (ts.length:Int) ((i + 1:Nat):Int) l0 p v s bs) r:=by
   intro hc;rw [if_neg (by rw [hc];simp)] at he;exact ih (i + 1) _ (by omega) (by omega) he
  by_cases h1:qg false (qm bs b) (q:Int)=true
  ·refine Ev.pos h1 ?_
   by_cases h3:ts[i]=(b:Int)
   ·exact Ev.pos h3 (Ev.pos (by omega) (app (by unfold bR;rw [h1,decide_eq_true h3];rfl)))
   ·refine Ev.neg h3 (Ev.pos t0 (Ev.pos (by omega) ?_));obtain ⟨tn,htn⟩:∃ tn:Nat,ts[i]=(tn:Int):=⟨ts[i].toNat,(Int.toNat_of_nonneg t0).symm⟩;have Aaa:tn < bs.length:=by omega
    have hdt:=MA bs tn;have hrr:Je (Dk bs) ts[i]=iB bs tn:=by rw [htn];exact cJ Aaa
    rw [hrr];refine Ev.bind (KA (iB bs tn) (b:Int) (by omega)) ?_;rw [mK hE Aaa,← htn]
    by_cases h2:qg false (qm bs b) ts[i]=true
    ·exact Ev.pos h2 (skip (by unfold bR;rw [h1,h2,decide_eq_false h3];rfl))
    ·exact Ev.neg h2 (Ev.pos (by omega) (app (by unfold bR;rw [h1,Bool.eq_false_iff.2 h2];simp)))
  ·exact Ev.neg h1 (skip (by unfold bR;rw [Bool.eq_false_iff.2 h1];rfl))
theorem eU (hE:Zf bs):Ev (fun k=>yc.l0 k (Dk bs) [] (bs.length:Int) 0 l0 p v s bs) (mm bs):=by
 have hn:=hE.2.1;have hrl:=xw bs;have key:=dh (r:=mm bs) (n:=bs.length) (fun i=>Ev (fun k=>yc.l0 k (Dk bs) ((mm bs).take i) (bs.length:Int) (i:Int) l0 p v s bs) (mm bs)) ?_ ?_ 0 (by omega)
 ·exact key
 ·refine Ev.step (fun k=>by rw [yc.l0]) (Ev.neg (by omega) ?_);rw [List.take_of_length_le (by rw [Xk];omega)];exact Ev.now _
 ·intro b hb h;rw [gD hb] at h;refine Ev.step (fun k=>by rw [yc.l0]) (Ev.pos (by omega) ?_);have key:=dh (r:=mm bs) (n:=bs.length) (fun q=>Ev (fun k=>yc.l1 k (Dk bs) ((mm bs).take b) (b:Int) (ER bs b q) (bs.length:Int) (b:Int) bs (bs.length:Int) (q:Int) l0 p v s bs) (mm bs)) ?_ ?_ 0 (by omega)
  ·exact key
  ·have hl2:=Hq (bs:=bs) b bs.length;refine Ev.step (fun k=>by rw [yc.l1]) (Ev.neg (by omega) ?_)
   have ha:Ng.f (ER bs b bs.length)=some (gx (ER bs b bs.length)):=by
    unfold Ng.f;rw [if_pos (by omega)]
   rw [ha];refine Ev.val (Ev.pos (by rw [List.length_take,Xk];omega) ?_);rw [Be hb (by omega)];exact h
  ·intro q hq h2;have hl2:=Hq (bs:=bs) b q;refine Ev.step (fun k=>by rw [yc.l1]) (Ev.pos (by omega) (Ev.pos (by omega) (Ev.pos (by omega) ?_)));rw [aA];refine Ev.val ?_;refine jK hE hb hq (ts:=ij bs q) (hE.2.2 q hq) (xl _) (ij bs q).length 0 _ (by omega) (by have:(ij bs q).length ≤ 2:=xl _;omega) ?_;rw [List.drop_zero];exact h2
theorem WY (l0:List Int) (p v s:Int) (bs:List Df) (h0:l0.length ≤ 1048576) (hl:bs.length ≤ 1048576) (ht:qe bs ≤ 1048576) :
  ∃ r:List (List Int),Ev (fun k=>Cc.f k l0 p v s bs) r∧Ev (fun k=>yc.f k l0 p v s bs) r∧r.length ≤ 300∧∀ x ∈ r,x.length ≤ 600:=by
 by_cases hok:Rl l0 p v s bs=true
 ·have hE:=Vw hok;have hb:=CE (OH hok).1;refine ⟨mm bs,?_,?_,by rw [Xk];omega,fun x hx=>?_⟩
  ·unfold Cc.f;exact Ev.val (Ev.bind (Sw h0 hl ht) (Ev.pos hok (Ev.bind (aK h0 hl ht hok) (dU hE))))
  ·unfold yc.f;refine Ev.bind (cD h0 hl ht) (Ev.pos hok ?_);rw [zL hE];exact Ev.val (eU hE)
  ·obtain ⟨b,_,rfl⟩:=List.mem_map.1 hx;have h1:=yK (ER bs b bs.length);have h2:=Hq (bs:=bs) b bs.length;omega
 ·refine ⟨[],?_,?_,by simp,fun x hx=>by cases hx⟩
  ·unfold Cc.f;exact Ev.val (Ev.bind (Sw h0 hl ht) (Ev.neg hok (Ev.now _)))
  ·unfold yc.f;exact Ev.bind (cD h0 hl ht) (Ev.neg hok (Ev.now _))
end
end Go.Proofs.Ytoomcmaifgkkfaa.P
end
section
namespace Go.Proofs.Ytoomcmaifgkkfaa.P
open Go.RowKit Go.Proofs.Ia.Zb Go.Proofs.Ia.Qd Go.Proofs.Ia.Me
set_option linter.unusedVariables false
set_option linter.unusedSimpArgs false
attribute [local go_sem] Wi Ui jk fk Ch Bh Vi Ti
def Bd.l0:Nat→Int→ByteArray→Option (ByteArray)
 | 0,_,_=>none
 | k + 1,x0,x3=>if x0 > 0 then ((some (([(wrap64 (48 + (Int.tmod x0 10))) % 256]:List Int):List Int)).bind fun pg=>(if (strOfNums pg).size + x3.size ≤ 9223372036854775807 then (Bd.l0 k (wrap64 (Int.tdiv x0 10)) ((strOfNums pg) ++ x3)) else (none))) else (if 1 + x3.size ≤ 9223372036854775807 then (some ((⟨#[109]⟩:ByteArray) ++ x3)) else (none))
def Bd.f (k:Nat) (a0:Int):Option (ByteArray):=if a0 ≤ 0 then (some (⟨#[109,48]⟩:ByteArray)) else (Bd.l0 k a0 (⟨#[]⟩:ByteArray))
theorem Bd.calls (k:Nat) (a0:Int) (r:ByteArray) (w:World) (h:Bd.f k a0=some r) :
  Calls Try.prog 127 #[.int .i64 a0] w fun e w'=>e = .returned (.string r)∧Below w.heap.size w w':=by
 have HB:=aa.mk (Below.refl w.heap.size w);have H:(if a0 ≤ 0 then (some (⟨#[109,48]⟩:ByteArray)) else (Bd.l0 k a0 (⟨#[]⟩:ByteArray)))=some r:=h;clear h
 by_cases c2:a0 ≤ 0
 ·rw [if_pos c2] at H;have Yt:decide (a0 ≤ 0)=true:=decide_eq_true c2;clear c2;obtain rfl:=Option.some.inj H;go_enter Try.func127,Try.ntmps127;go_wp2;go_ret;exact ⟨by first|rfl|(simp [Ra,Qa] <;> rfl)|(simp [*,Ra,Qa] <;> rfl),by repeat (first|(with_reducible first|exact HB.out|apply oa|apply ia|apply qa)|exact HB.out)⟩
 ·rw [if_neg c2] at H;have Yt:decide (a0 ≤ 0)=false:=decide_eq_false c2;clear c2;have H':=aa.mk H;clear H;go_enter Try.func127,Try.ntmps127;go_wp2
  go_loopg [0,3] k (fun kq v0 v3 w'=>∃ (ke:Int) (Tc:ByteArray),v0 = .int .i64 ke∧v3 = .string Tc∧aa (Bd.l0 kq ke Tc=some r)∧aa (kq ≤ k)∧aa (Below w.heap.size w w'))
  case atStart=>exact ⟨(a0),((⟨#[]⟩:ByteArray)),(by first|rfl|(simp;done)|(simp [*];done)),(by first|rfl|(simp;done)|(simp [*];done)),H',⟨Nat.le_refl _⟩,⟨by repeat (first|(with_reducible first|exact HB.out|apply oa|apply ia|apply qa)|exact HB.out)⟩⟩
  case round =>
   clear H'
   try clear c1
   try clear c2
   try clear Yt
   try clear p2
   (try clear HA);(try clear Cf);(try clear HB);obtain ⟨ke,Tc,rfl,rfl,HA,Cf,HB⟩:=hrel;cases gk with
   | zero=>exact absurd HA.out (by simp [Bd.l0])
   | succ k1 =>
    have H:=HA.out;clear HA;simp only [Bd.l0] at H
    by_cases c3:ke > 0
    ·rw [if_pos c3] at H;have bh:decide (0 < ke)=true:=decide_eq_true c3;clear c3;obtain ⟨pg,yg⟩:∃ y_:List Int,y_=(([(wrap64 (48 + (Int.tmod ke 10))) % 256]:List Int)):=⟨_,rfl⟩;replace H:(if (strOfNums pg).size + Tc.size ≤ 9223372036854775807 then (Bd.l0 k1 (wrap64 (Int.tdiv ke 10)) ((strOfNums pg) ++ Tc)) else (none))=some r:=by first|(rw [yg];with_reducible exact H)|(have Ud:=(Option.bind_some _ _).symm.trans H;rw [yg];with_reducible exact Ud)|(have Ud:=(Option.bind_some _ _).symm.trans H;with_reducible exact Ud)|with_reducible exact H|(rw [yg];exact H)|exact H
     have Cl:=aa.mk yg;clear yg
     by_cases c4:(strOfNums pg).size + Tc.size ≤ 9223372036854775807
     ·rw [if_pos c4] at H;have Mk:=eq_true c4;have Xae:decide ((strOfNums pg).size + Tc.size ≤ 9223372036854775807)=true:=decide_eq_true c4
      try have Vaz:(9223372036854775807 < (strOfNums pg).size + Tc.size)=False:=eq_false (Nat.not_lt.2 c4)
      have H':=aa.mk H;clear H;go_wp2_with (first|((with_reducible refine Bb (N:=12) rfl ?_);refine Kd.Bl (Kd.int .u8) _ 5 ?hg (N:=12) ?hd (xs:=([(wrap64 (48 + (Int.tmod ke 10))) % 256]:List Int)) (inner:=[.int .u8 ((wrap64 (48 + (Int.tmod ke 10))) % 256)]) (ok:=fun _=>True) (Oh:=fun _=>True) ?hr ?hp (fun _ hk=>hk) trivial (Below.refl _ _) (Nat.le_refl _) (by simp) ?_;(case hd=>rfl);(case hg=>rfl);(case hr=>first|(go_simp;done)|(go_simp;rfl));(case hp=>exact (Td.one (show Kd.M (Kd.int .u8) _ _ _ ((wrap64 (48 + (Int.tmod ke 10))) % 256) [.int .u8 ((wrap64 (48 + (Int.tmod ke 10))) % 256)] from rfl) (Td.none _ _)));intro SI w5 yJ hb gl Ee;clear gl Ee;(first|rw [← Cl.out] at yJ|(simp only [Int.reduceToNat] at yJ;rw [← Cl.out] at yJ));have Cb:=aa.mk (Kd.xe yJ (Ja (by repeat (first|(with_reducible first|exact HB.out|apply oa|apply ia|apply qa)|exact HB.out))));have Lb:=aa.mk (Oa (by repeat (first|(with_reducible first|exact HB.out|apply oa|apply ia|apply qa)|exact HB.out)) hb);clear HB;have Ws:=Cb;have HB:=Lb;clear Cb Lb hb yJ;have laz:=OL (P:=Try.prog) Try.underlying148 Try.underlying5 Try.underlying9 (Kd.Kx Ws.out)))
      go_roundg k1
      case measure=>have:=Cf.out;omega
      case rel=>exact ⟨(wrap64 (Int.tdiv ke 10)),((strOfNums pg) ++ Tc),(by first|rfl|(simp;done)|(simp [*];done)),(by first|rfl|(simp;done)|(simp [*];done)),H',⟨by have:=Cf.out;omega⟩,⟨by repeat (first|(with_reducible first|exact HB.out|apply oa|apply ia|apply qa)|exact HB.out)⟩⟩
     ·rw [if_neg c4] at H;exact absurd H (by simp)
    ·rw [if_neg c3] at H;have bh:decide (0 < ke)=false:=decide_eq_false c3;clear c3
     by_cases c8:1 + Tc.size ≤ 9223372036854775807
     ·rw [if_pos c8] at H;have uM:=eq_true c8;have eZ:decide (1 + Tc.size ≤ 9223372036854775807)=true:=decide_eq_true c8
      try have Uaz:(9223372036854775807 < 1 + Tc.size)=False:=eq_false (Nat.not_lt.2 c8)
      obtain rfl:=Option.some.inj H;go_wp2;go_ret;exact ⟨by first|rfl|(simp [Ra,Qa] <;> rfl)|(simp [*,Ra,Qa] <;> rfl),by repeat (first|(with_reducible first|exact HB.out|apply oa|apply ia|apply qa)|exact HB.out)⟩
     ·rw [if_neg c8] at H;exact absurd H (by simp)
def jd.l0:Nat→List (ud)→Int→Int→Option (Int × (List (ud)))
 | 0,_,_,_=>none
 | k + 1,x0,x1,x5=>if x5 < (x0.length:Int) then (if 0 ≤ x5 then ((some (x0.set (x5:Int).toNat (⟨x1,(Da x0 x5).f1,(Da x0 x5).f2,(Da x0 x5).f3,(Da x0 x5).f4,(Da x0 x5).f5,(Da x0 x5).f6⟩:ud):List (ud))).bind fun pg=>((some (pg.set (x5:Int).toNat (⟨(Da pg x5).f0,wrap64 (x1 + 1),(Da pg x5).f2,(Da pg x5).f3,(Da pg x5).f4,(Da pg x5).f5,(Da pg x5).f6⟩:ud):List (ud))).bind fun ze=>((some (ze.set (x5:Int).toNat (⟨(Da ze x5).f0,(Da ze x5).f1,wrap64 ((wrap64 (x1 + 1)) + 1),(Da ze x5).f3,(Da ze x5).f4,(Da ze x5).f5,(Da ze x5).f6⟩:ud):List (ud))).bind fun Sg=>((some (Sg.set (x5:Int).toNat (⟨(Da Sg x5).f0,(Da Sg x5).f1,(Da Sg x5).f2,wrap64 ((wrap64 ((wrap64 (x1 + 1)) + 1)) + 1),(Da Sg x5).f4,(Da Sg x5).f5,(Da Sg x5).f6⟩:ud):List (ud))).bind fun ng=>((some (ng.set (x5:Int).toNat (⟨(Da ng x5).f0,(Da ng x5).f1,(Da ng x5).f2,(Da ng x5).f3,wrap64 ((wrap64 ((wrap64 ((wrap64 (x1 + 1)) + 1)) + 1)) + 1),(Da ng x5).f5,(Da ng x5).f6⟩:ud):List (ud))).bind fun ef=>((some (ef.set (x5:Int).toNat (⟨(Da ef x5).f0,(Da ef x5).f1,(Da ef x5).f2,(Da ef x5).f3,(Da ef x5).f4,wrap64 ((wrap64 ((wrap64 ((wrap64 ((wrap64 (x1 + 1)) + 1)) + 1)) + 1)) + 1),(Da ef x5).f6⟩:ud):List (ud))).bind fun Ze=>((Bd.f k (wrap64 ((wrap64 ((wrap64 ((wrap64 ((wrap64 ((wrap64 (x1 + 1)) + 1)) + 1)) + 1)) + 1)) + 1))).bind fun t107=>(jd.l0 k (Ze.set (x5:Int).toNat (⟨(Da Ze x5).f0,(Da Ze x5).f1,(Da Ze x5).f2,(Da Ze x5).f3,(Da Ze x5).f4,(Da Ze x5).f5,t107⟩:ud)) (wrap64 ((wrap64 ((wrap64 ((wrap64 ((wrap64 ((wrap64 ((wrap64 (x1 + 1)) + 1)) + 1)) + 1)) + 1)) + 1)) + 1)) (wrap64 (x5 + 1)))))))))) else (none)) else (some (x1,x0))
def jd.f (k:Nat) (l0:List (ud)) (a1:Int):Option (Int × (List (ud))):=jd.l0 k l0 a1 0
theorem jd.calls (k:Nat) (ak:Nat→Prop) (Lf:Value) (l0:List (ud)) (a1:Int) (r1:Int) (r2:List (ud)) (w0 w:World) (hB:Below w0.heap.size w0 w) (Bg:Kd.R sg 122 w w0.heap.size ak Lf l0) (h:jd.f k l0 a1=some (r1,r2)) :
  Calls Try.prog 111 #[Lf,.int .i64 a1] w fun e w'=>e = .returned (.int .i64 r1)∧Kd.R sg 122 w' w0.heap.size (fun k_=>(ak k_ ∨ w.heap.size ≤ k_)) Lf r2∧Below w0.heap.size w0 w'∧Kept w w' (fun k_=>ak k_):=by
 have HO0:=aa.mk (show Kd.R sg 122 w w0.heap.size (fun k_=>(ak k_ ∨ w.heap.size ≤ k_)) Lf l0 from Kd.mc Bg (fun k_ hk=>(.inl hk)));have HK:=aa.mk (Kept.refl w (fun k_=>ak k_));have HW0:=aa.mk hB.size;have HB:=aa.mk hB;clear hB;have H:(jd.l0 k l0 a1 0)=some (r1,r2):=h;clear h;have H':=aa.mk H;clear H;go_enter Try.func111,Try.ntmps111;go_wp2
 go_loopg [1,5] k (fun kq v1 v5 w'=>∃ (ke:List (ud)) (Ae:Int) (Ca:Int),v1 = .int .i64 Ae∧v5 = .int .i64 Ca∧aa (jd.l0 kq ke Ae Ca=some (r1,r2))∧aa (kq ≤ k)∧aa (Kd.R sg 122 w' w0.heap.size (fun k_=>(ak k_ ∨ w.heap.size ≤ k_)) Lf ke)∧aa (Kept w w' (fun k_=>ak k_))∧aa (Below w0.heap.size w0 w'))
 case atStart=>exact ⟨(l0),(a1),(0),(by first|rfl|(simp;done)|(simp [*];done)),(by first|rfl|(simp;done)|(simp [*];done)),H',⟨Nat.le_refl _⟩,⟨by (with_reducible repeat (first|apply Kd.Va|apply Kd.Wa|apply Kd.jb));exact HO0.out⟩,⟨by repeat (first|(with_reducible first|exact HK.out|apply Kept.alloc|apply Kept.drewN|apply Kept.drew)|exact HK.out)⟩,⟨by repeat (first|(with_reducible first|exact HB.out|apply oa|apply ia|apply qa)|exact HB.out)⟩⟩
 case round =>
  clear H'
  try clear c1
  try clear p2
  (try clear HA);(try clear Cf);(try clear yf);(try clear HK);(try clear HB);obtain ⟨ke,Ae,Ca,rfl,rfl,HA,Cf,yf,HK,HB⟩:=hrel;cases gk with
  | zero=>exact absurd HA.out (by simp [jd.l0])
  | succ k1 =>
   have H:=HA.out;clear HA;simp only [jd.l0] at H
   by_cases c3:Ca < (ke.length:Int)
   ·rw [if_pos c3] at H;have bh:decide (Ca < (ke.length:Int))=true:=decide_eq_true c3;clear c3
    by_cases c4:0 ≤ Ca
    ·rw [if_pos c4] at H;have Mk:decide (0 ≤ Ca)=true:=decide_eq_true c4;clear c4;obtain ⟨pg,yg⟩:∃ y_:List (ud),y_=(ke.set (Ca:Int).toNat (⟨Ae,(Da ke Ca).f1,(Da ke Ca).f2,(Da ke Ca).f3,(Da ke Ca).f4,(Da ke Ca).f5,(Da ke Ca).f6⟩:ud)):=⟨_,rfl⟩;replace H:((some (pg.set (Ca:Int).toNat (⟨(Da pg Ca).f0,wrap64 (Ae + 1),(Da pg Ca).f2,(Da pg Ca).f3,(Da pg Ca).f4,(Da pg Ca).f5,(Da pg Ca).f6⟩:ud):List (ud))).bind fun ze=>((some (ze.set (Ca:Int).toNat (⟨(Da ze Ca).f0,(Da ze Ca).f1,wrap64 ((wrap64 (Ae + 1)) + 1),(Da ze Ca).f3,(Da ze Ca).f4,(Da ze Ca).f5,(Da ze Ca).f6⟩:ud):List (ud))).bind fun Sg=>((some (Sg.set (Ca:Int).toNat (⟨(Da Sg Ca).f0,(Da Sg Ca).f1,(Da Sg Ca).f2,wrap64 ((wrap64 ((wrap64 (Ae + 1)) + 1)) + 1),(Da Sg Ca).f4,(Da Sg Ca).f5,(Da Sg Ca).f6⟩:ud):List (ud))).bind fun ng=>((some (ng.set (Ca:Int).toNat (⟨(Da ng Ca).f0,(Da ng Ca).f1,(Da ng Ca).f2,(Da ng Ca).f3,wrap64 ((wrap64 ((wrap64 ((wrap64 (Ae + 1)) + 1)) + 1)) + 1),(Da ng Ca).f5,(Da ng Ca).f6⟩:ud):List (ud))).bind fun ef=>((some (ef.set (Ca:Int).toNat (⟨(Da ef Ca).f0,(Da ef Ca).f1,(Da ef Ca).f2,(Da ef Ca).f3,(Da ef Ca).f4,wrap64 ((wrap64 ((wrap64 ((wrap64 ((wrap64 (Ae + 1)) + 1)) + 1)) + 1)) + 1),(Da ef Ca).f6⟩:ud):List (ud))).bind fun Ze=>((Bd.f k1 (wrap64 ((wrap64 ((wrap64 ((wrap64 ((wrap64 ((wrap64 (Ae + 1)) + 1)) + 1)) + 1)) + 1)) + 1))).bind fun t107=>(jd.l0 k1 (Ze.set (Ca:Int).toNat (⟨(Da Ze Ca).f0,(Da Ze Ca).f1,(Da Ze Ca).f2,(Da Ze Ca).f3,(Da Ze Ca).f4,(Da Ze Ca).f5,t107⟩:ud)) (wrap64 ((wrap64 ((wrap64 ((wrap64 ((wrap64 ((wrap64 ((wrap64 (Ae + 1)) + 1)) + 1)) + 1)) + 1)) + 1)) + 1)) (wrap64 (Ca + 1)))))))))=some (r1,r2):=by first|(rw [yg];with_reducible exact H)|(have Ud:=(Option.bind_some _ _).symm.trans H;rw [yg];with_reducible exact Ud)|(have Ud:=(Option.bind_some _ _).symm.trans H;with_reducible exact Ud)|with_reducible exact H|(rw [yg];exact H)|exact H
     have Cl:=aa.mk yg;clear yg;obtain ⟨ze,xg⟩:∃ y_:List (ud),y_=(pg.set (Ca:Int).toNat (⟨(Da pg Ca).f0,wrap64 (Ae + 1),(Da pg Ca).f2,(Da pg Ca).f3,(Da pg Ca).f4,(Da pg Ca).f5,(Da pg Ca).f6⟩:ud)):=⟨_,rfl⟩;replace H:((some (ze.set (Ca:Int).toNat (⟨(Da ze Ca).f0,(Da ze Ca).f1,wrap64 ((wrap64 (Ae + 1)) + 1),(Da ze Ca).f3,(Da ze Ca).f4,(Da ze Ca).f5,(Da ze Ca).f6⟩:ud):List (ud))).bind fun Sg=>((some (Sg.set (Ca:Int).toNat (⟨(Da Sg Ca).f0,(Da Sg Ca).f1,(Da Sg Ca).f2,wrap64 ((wrap64 ((wrap64 (Ae + 1)) + 1)) + 1),(Da Sg Ca).f4,(Da Sg Ca).f5,(Da Sg Ca).f6⟩:ud):List (ud))).bind fun ng=>((some (ng.set (Ca:Int).toNat (⟨(Da ng Ca).f0,(Da ng Ca).f1,(Da ng Ca).f2,(Da ng Ca).f3,wrap64 ((wrap64 ((wrap64 ((wrap64 (Ae + 1)) + 1)) + 1)) + 1),(Da ng Ca).f5,(Da ng Ca).f6⟩:ud):List (ud))).bind fun ef=>((some (ef.set (Ca:Int).toNat (⟨(Da ef Ca).f0,(Da ef Ca).f1,(Da ef Ca).f2,(Da ef Ca).f3,(Da ef Ca).f4,wrap64 ((wrap64 ((wrap64 ((wrap64 ((wrap64 (Ae + 1)) + 1)) + 1)) + 1)) + 1),(Da ef Ca).f6⟩:ud):List (ud))).bind fun Ze=>((Bd.f k1 (wrap64 ((wrap64 ((wrap64 ((wrap64 ((wrap64 ((wrap64 (Ae + 1)) + 1)) + 1)) + 1)) + 1)) + 1))).bind fun t107=>(jd.l0 k1 (Ze.set (Ca:Int).toNat (⟨(Da Ze Ca).f0,(Da Ze Ca).f1,(Da Ze Ca).f2,(Da Ze Ca).f3,(Da Ze Ca).f4,(Da Ze Ca).f5,t107⟩:ud)) (wrap64 ((wrap64 ((wrap64 ((wrap64 ((wrap64 ((wrap64 ((wrap64 (Ae + 1)) + 1)) + 1)) + 1)) + 1)) + 1)) + 1)) (wrap64 (Ca + 1))))))))=some (r1,r2):=by first|(rw [xg];with_reducible exact H)|(have Ud:=(Option.bind_some _ _).symm.trans H;rw [xg];with_reducible exact Ud)|(have Ud:=(Option.bind_some _ _).symm.trans H;with_reducible exact Ud)|with_reducible exact H|(rw [xg];exact H)|exact H
     have Fh:=aa.mk xg;clear xg;obtain ⟨Sg,Ou⟩:∃ y_:List (ud),y_=(ze.set (Ca:Int).toNat (⟨(Da ze Ca).f0,(Da ze Ca).f1,wrap64 ((wrap64 (Ae + 1)) + 1),(Da ze Ca).f3,(Da ze Ca).f4,(Da ze Ca).f5,(Da ze Ca).f6⟩:ud)):=⟨_,rfl⟩;replace H:((some (Sg.set (Ca:Int).toNat (⟨(Da Sg Ca).f0,(Da Sg Ca).f1,(Da Sg Ca).f2,wrap64 ((wrap64 ((wrap64 (Ae + 1)) + 1)) + 1),(Da Sg Ca).f4,(Da Sg Ca).f5,(Da Sg Ca).f6⟩:ud):List (ud))).bind fun ng=>((some (ng.set (Ca:Int).toNat (⟨(Da ng Ca).f0,(Da ng Ca).f1,(Da ng Ca).f2,(Da ng Ca).f3,wrap64 ((wrap64 ((wrap64 ((wrap64 (Ae + 1)) + 1)) + 1)) + 1),(Da ng Ca).f5,(Da ng Ca).f6⟩:ud):List (ud))).bind fun ef=>((some (ef.set (Ca:Int).toNat (⟨(Da ef Ca).f0,(Da ef Ca).f1,(Da ef Ca).f2,(Da ef Ca).f3,(Da ef Ca).f4,wrap64 ((wrap64 ((wrap64 ((wrap64 ((wrap64 (Ae + 1)) + 1)) + 1)) + 1)) + 1),(Da ef Ca).f6⟩:ud):List (ud))).bind fun Ze=>((Bd.f k1 (wrap64 ((wrap64 ((wrap64 ((wrap64 ((wrap64 ((wrap64 (Ae + 1)) + 1)) + 1)) + 1)) + 1)) + 1))).bind fun t107=>(jd.l0 k1 (Ze.set (Ca:Int).toNat (⟨(Da Ze Ca).f0,(Da Ze Ca).f1,(Da Ze Ca).f2,(Da Ze Ca).f3,(Da Ze Ca).f4,(Da Ze Ca).f5,t107⟩:ud)) (wrap64 ((wrap64 ((wrap64 ((wrap64 ((wrap64 ((wrap64 ((wrap64 (Ae + 1)) + 1)) + 1)) + 1)) + 1)) + 1)) + 1)) (wrap64 (Ca + 1)))))))=some (r1,r2):=by first|(rw [Ou];with_reducible exact H)|(have Ud:=(Option.bind_some _ _).symm.trans H;rw [Ou];with_reducible exact Ud)|(have Ud:=(Option.bind_some _ _).symm.trans H;with_reducible exact Ud)|with_reducible exact H|(rw [Ou];exact H)|exact H
     have RU:=aa.mk Ou;clear Ou;obtain ⟨ng,Oo⟩:∃ y_:List (ud),y_=(Sg.set (Ca:Int).toNat (⟨(Da Sg Ca).f0,(Da Sg Ca).f1,(Da Sg Ca).f2,wrap64 ((wrap64 ((wrap64 (Ae + 1)) + 1)) + 1),(Da Sg Ca).f4,(Da Sg Ca).f5,(Da Sg Ca).f6⟩:ud)):=⟨_,rfl⟩;replace H:((some (ng.set (Ca:Int).toNat (⟨(Da ng Ca).f0,(Da ng Ca).f1,(Da ng Ca).f2,(Da ng Ca).f3,wrap64 ((wrap64 ((wrap64 ((wrap64 (Ae + 1)) + 1)) + 1)) + 1),(Da ng Ca).f5,(Da ng Ca).f6⟩:ud):List (ud))).bind fun ef=>((some (ef.set (Ca:Int).toNat (⟨(Da ef Ca).f0,(Da ef Ca).f1,(Da ef Ca).f2,(Da ef Ca).f3,(Da ef Ca).f4,wrap64 ((wrap64 ((wrap64 ((wrap64 ((wrap64 (Ae + 1)) + 1)) + 1)) + 1)) + 1),(Da ef Ca).f6⟩:ud):List (ud))).bind fun Ze=>((Bd.f k1 (wrap64 ((wrap64 ((wrap64 ((wrap64 ((wrap64 ((wrap64 (Ae + 1)) + 1)) + 1)) + 1)) + 1)) + 1))).bind fun t107=>(jd.l0 k1 (Ze.set (Ca:Int).toNat (⟨(Da Ze Ca).f0,(Da Ze Ca).f1,(Da Ze Ca).f2,(Da Ze Ca).f3,(Da Ze Ca).f4,(Da Ze Ca).f5,t107⟩:ud)) (wrap64 ((wrap64 ((wrap64 ((wrap64 ((wrap64 ((wrap64 ((wrap64 (Ae + 1)) + 1)) + 1)) + 1)) + 1)) + 1)) + 1)) (wrap64 (Ca + 1))))))=some (r1,r2):=by first|(rw [Oo];with_reducible exact H)|(have Ud:=(Option.bind_some _ _).symm.trans H;rw [Oo];with_reducible exact Ud)|(have Ud:=(Option.bind_some _ _).symm.trans H;with_reducible exact Ud)|with_reducible exact H|(rw [Oo];exact H)|exact H
     have MK:=aa.mk Oo;clear Oo;obtain ⟨ef,yh⟩:∃ y_:List (ud),y_=(ng.set (Ca:Int).toNat (⟨(Da ng Ca).f0,(Da ng Ca).f1,(Da ng Ca).f2,(Da ng Ca).f3,wrap64 ((wrap64 ((wrap64 ((wrap64 (Ae + 1)) + 1)) + 1)) + 1),(Da ng Ca).f5,(Da ng Ca).f6⟩:ud)):=⟨_,rfl⟩;replace H:((some (ef.set (Ca:Int).toNat (⟨(Da ef Ca).f0,(Da ef Ca).f1,(Da ef Ca).f2,(Da ef Ca).f3,(Da ef Ca).f4,wrap64 ((wrap64 ((wrap64 ((wrap64 ((wrap64 (Ae + 1)) + 1)) + 1)) + 1)) + 1),(Da ef Ca).f6⟩:ud):List (ud))).bind fun Ze=>((Bd.f k1 (wrap64 ((wrap64 ((wrap64 ((wrap64 ((wrap64 ((wrap64 (Ae + 1)) + 1)) + 1)) + 1)) + 1)) + 1))).bind fun t107=>(jd.l0 k1 (Ze.set (Ca:Int).toNat (⟨(Da Ze Ca).f0,(Da Ze Ca).f1,(Da Ze Ca).f2,(Da Ze Ca).f3,(Da Ze Ca).f4,(Da Ze Ca).f5,t107⟩:ud)) (wrap64 ((wrap64 ((wrap64 ((wrap64 ((wrap64 ((wrap64 ((wrap64 (Ae + 1)) + 1)) + 1)) + 1)) + 1)) + 1)) + 1)) (wrap64 (Ca + 1)))))=some (r1,r2):=by first|(rw [yh];with_reducible exact H)|(have Ud:=(Option.bind_some _ _).symm.trans H;rw [yh];with_reducible exact Ud)|(have Ud:=(Option.bind_some _ _).symm.trans H;with_reducible exact Ud)|with_reducible exact H|(rw [yh];exact H)|exact H
     have Br:=aa.mk yh;clear yh;obtain ⟨Ze,Nu⟩:∃ y_:List (ud),y_=(ef.set (Ca:Int).toNat (⟨(Da ef Ca).f0,(Da ef Ca).f1,(Da ef Ca).f2,(Da ef Ca).f3,(Da ef Ca).f4,wrap64 ((wrap64 ((wrap64 ((wrap64 ((wrap64 (Ae + 1)) + 1)) + 1)) + 1)) + 1),(Da ef Ca).f6⟩:ud)):=⟨_,rfl⟩;replace H:((Bd.f k1 (wrap64 ((wrap64 ((wrap64 ((wrap64 ((wrap64 ((wrap64 (Ae + 1)) + 1)) + 1)) + 1)) + 1)) + 1))).bind fun t107=>(jd.l0 k1 (Ze.set (Ca:Int).toNat (⟨(Da Ze Ca).f0,(Da Ze Ca).f1,(Da Ze Ca).f2,(Da Ze Ca).f3,(Da Ze Ca).f4,(Da Ze Ca).f5,t107⟩:ud)) (wrap64 ((wrap64 ((wrap64 ((wrap64 ((wrap64 ((wrap64 ((wrap64 (Ae + 1)) + 1)) + 1)) + 1)) + 1)) + 1)) + 1)) (wrap64 (Ca + 1))))=some (r1,r2):=by first|(rw [Nu];with_reducible exact H)|(have Ud:=(Option.bind_some _ _).symm.trans H;rw [Nu];with_reducible exact Ud)|(have Ud:=(Option.bind_some _ _).symm.trans H;with_reducible exact Ud)|with_reducible exact H|(rw [Nu];exact H)|exact H
     have VP:=aa.mk Nu;clear Nu;replace H:=Option.bind_eq_some_iff.mp H;obtain ⟨t107,oV,H⟩:=H;replace H:(jd.l0 k1 (Ze.set (Ca:Int).toNat (⟨(Da Ze Ca).f0,(Da Ze Ca).f1,(Da Ze Ca).f2,(Da Ze Ca).f3,(Da Ze Ca).f4,(Da Ze Ca).f5,t107⟩:ud)) (wrap64 ((wrap64 ((wrap64 ((wrap64 ((wrap64 ((wrap64 ((wrap64 (Ae + 1)) + 1)) + 1)) + 1)) + 1)) + 1)) + 1)) (wrap64 (Ca + 1)))=some (r1,r2):=H;have B5:=aa.mk oV;clear oV;obtain ⟨sC,Kk⟩:∃ y_:List (ud),y_=(Ze.set (Ca:Int).toNat (⟨(Da Ze Ca).f0,(Da Ze Ca).f1,(Da Ze Ca).f2,(Da Ze Ca).f3,(Da Ze Ca).f4,(Da Ze Ca).f5,t107⟩:ud)):=⟨_,rfl⟩;replace H:(jd.l0 k1 sC (wrap64 ((wrap64 ((wrap64 ((wrap64 ((wrap64 ((wrap64 ((wrap64 (Ae + 1)) + 1)) + 1)) + 1)) + 1)) + 1)) + 1)) (wrap64 (Ca + 1)))=some (r1,r2):=by first|(rw [Kk];with_reducible exact H)|(have Ud:=(Option.bind_some _ _).symm.trans H;rw [Kk];with_reducible exact Ud)|(have Ud:=(Option.bind_some _ _).symm.trans H;with_reducible exact Ud)|with_reducible exact H|(rw [Kk];exact H)|exact H
     have Hw:=aa.mk Kk;clear Kk;have H':=aa.mk H;clear H;obtain ⟨K_,Uu,r8⟩:=Kd.xd yf.out;subst r8;have p5:0 ≤ (Ca:Int):=Pa;have q5:(Ca:Int) < ((ke.length:Int):Int):=Pa;obtain ⟨Kg,co5,Y7,gb5,gl5,cl5,V4⟩:=Kd.gm yf.out (by omega);(first|cases Y7|(injection Y7 with Xj Uw Ww;(first|subst Xj|(injection Xj with Xj;subst Xj));subst Ww;clear Uw));have NZ:=aa.mk gb5;have GG5:=aa.mk V4;clear gb5 gl5 V4;have rag:=aa.mk (show (ak Kg ∨ w.heap.size ≤ Kg) from (yf.out.1 _ rfl));obtain ⟨ce5,sar,hM5,QJ,IJ⟩:=Kd.Zj yf.out Rk (Ca:Int) p5 q5;obtain rfl:=Gg hM5;have yaa:wr.cell? ⟨Kg,(Ca:Int).toNat * 7,none⟩=some (.int .i64 ((Da ke Ca).f0)):=QJ 0 _ rfl;have vau:wr.cell? ⟨Kg,(Ca:Int).toNat * 7 + 1,none⟩=some (.int .i64 ((Da ke Ca).f1)):=QJ 1 _ rfl;have uau:wr.cell? ⟨Kg,(Ca:Int).toNat * 7 + 2,none⟩=some (.int .i64 ((Da ke Ca).f2)):=QJ 2 _ rfl;have tau:wr.cell? ⟨Kg,(Ca:Int).toNat * 7 + 3,none⟩=some (.int .i64 ((Da ke Ca).f3)):=QJ 3 _ rfl;have sau:wr.cell? ⟨Kg,(Ca:Int).toNat * 7 + 4,none⟩=some (.int .i64 ((Da ke Ca).f4)):=QJ 4 _ rfl;have rau:wr.cell? ⟨Kg,(Ca:Int).toNat * 7 + 5,none⟩=some (.int .i64 ((Da ke Ca).f5)):=QJ 5 _ rfl;have qau:wr.cell? ⟨Kg,(Ca:Int).toNat * 7 + 6,none⟩=some (.string ((Da ke Ca).f6)):=QJ 6 _ rfl;have Dac:wr.frozen? ⟨Kg,(Ca:Int).toNat * 7,none⟩=false:=IJ 0;have Haw:wr.frozen? ⟨Kg,(Ca:Int).toNat * 7 + 1,none⟩=false:=IJ 1;have Gaw:wr.frozen? ⟨Kg,(Ca:Int).toNat * 7 + 2,none⟩=false:=IJ 2;have Faw:wr.frozen? ⟨Kg,(Ca:Int).toNat * 7 + 3,none⟩=false:=IJ 3;have Eaw:wr.frozen? ⟨Kg,(Ca:Int).toNat * 7 + 4,none⟩=false:=IJ 4;have Daw:wr.frozen? ⟨Kg,(Ca:Int).toNat * 7 + 5,none⟩=false:=IJ 5;have Caw:wr.frozen? ⟨Kg,(Ca:Int).toNat * 7 + 6,none⟩=false:=IJ 6;clear sar QJ IJ hM5;replace p5:=eq_true p5;replace q5:=eq_true q5;have Xaf:=aa.mk (show Kd.R sg 122 wr w0.heap.size (fun k_=>(ak k_ ∨ w.heap.size ≤ k_)) (.slice (some ⟨Kg,0,none⟩) ke.length Uu) ke from (by (with_reducible repeat (first|apply Kd.Va|apply Kd.Wa|apply Kd.jb));exact yf.out));obtain ⟨Taz,V1,pae,OT,G1⟩:=Kd.Zj Xaf.out Rk (Ca:Int) (Pa) (by have h_:(Ca:Int) < ((ke.length:Int):Int):=Pa;first|exact h_|(have e_:=(Kd.Rb yf.out).1;omega)|simpa using h_);obtain rfl:=Gg pae;have PM:=Kd.Jz Xaf.out (Ca:Int) (Pa) (by have h_:(Ca:Int) < ((ke.length:Int):Int):=Pa;first|exact h_|(have e_:=(Kd.Rb yf.out).1;omega)|simpa using h_) (seg:=[.int .i64 Ae]) (j:=0) V1 OT (show 1 ≤ 7 from by decide) (x':=(⟨Ae,(Da ke Ca).f1,(Da ke Ca).f2,(Da ke Ca).f3,(Da ke Ca).f4,(Da ke Ca).f5,(Da ke Ca).f6⟩:ud)) (ym _ _ _ (⟨Ae,(Da ke Ca).f1,(Da ke Ca).f2,(Da ke Ca).f3,(Da ke Ca).f4,(Da ke Ca).f5,(Da ke Ca).f6⟩:ud) ) (fun _ hk=>hk);have K6:=OT 0 _ rfl;(try simp only [show (sg).sz=7 from rfl,Nat.mul_one,Nat.add_zero] at K6);have D7:=G1 0;(try simp only [show (sg).sz=7 from rfl,Nat.mul_one,Nat.add_zero] at D7);clear V1 OT G1 pae;go_wp2_with (first|((with_reducible refine Ef (t:=3) (p:=16) rfl ?_);refine Xe (t:=3) (p:=16) (v:=?G5) (w1:=(wr.setCell ⟨Kg,(Ca:Int).toNat * 7,none⟩ (.int .i64 Ae))) ?hg ?ho ?hn ?hr ?_;(case ho=>rfl);(case hg=>rfl);(case hn=>rfl);(case hr=>first|(go_simp;done)|(go_simp;rfl));intro Fs hw;have hg:wr.grownBy Fs (some Kg):=(by rw [hw];exact PM.2);have Mm:Kd.R sg 122 Fs w0.heap.size (fun k_=>(ak k_ ∨ w.heap.size ≤ k_)) (.slice (some ⟨Kg,0,none⟩) ke.length Uu) pg:=(by rw [hw,Cl.out];exact PM.1);clear PM;have Cb:=aa.mk (Mm);have Lb:=aa.mk ((by rw [hw];exact ua (HB.out) NZ.out:Below w0.heap.size w0 Fs));have Pb:=aa.mk (Kept.fh (S:=(fun k_=>ak k_)) hg (by repeat (first|(with_reducible first|exact HK.out|apply Kept.alloc|apply Kept.drewN|apply Kept.drew)|exact HK.out)) (fun k_ e_=>(yf.out.1 k_ e_)));clear yf HB HK;have yf:=Cb;have HB:=Lb;have HK:=Pb;clear Cb Lb Pb hg hw Mm;have p6:0 ≤ (Ca:Int):=Pa;have q6:(Ca:Int) < ((ke.length:Int):Int):=Pa;obtain ⟨ce6,rar,hM6,PJ,GJ⟩:=Kd.Zj yf.out Rk (Ca:Int) p6 q6;obtain rfl:=Gg hM6;have zE:Fs.cell? ⟨Kg,(Ca:Int).toNat * 7,none⟩=some (.int .i64 ((Da pg Ca).f0)):=PJ 0 _ rfl;have pau:Fs.cell? ⟨Kg,(Ca:Int).toNat * 7 + 1,none⟩=some (.int .i64 ((Da pg Ca).f1)):=PJ 1 _ rfl;have oau:Fs.cell? ⟨Kg,(Ca:Int).toNat * 7 + 2,none⟩=some (.int .i64 ((Da pg Ca).f2)):=PJ 2 _ rfl;have nau:Fs.cell? ⟨Kg,(Ca:Int).toNat * 7 + 3,none⟩=some (.int .i64 ((Da pg Ca).f3)):=PJ 3 _ rfl;have mau:Fs.cell? ⟨Kg,(Ca:Int).toNat * 7 + 4,none⟩=some (.int .i64 ((Da pg Ca).f4)):=PJ 4 _ rfl;have lau:Fs.cell? ⟨Kg,(Ca:Int).toNat * 7 + 5,none⟩=some (.int .i64 ((Da pg Ca).f5)):=PJ 5 _ rfl;have kau:Fs.cell? ⟨Kg,(Ca:Int).toNat * 7 + 6,none⟩=some (.string ((Da pg Ca).f6)):=PJ 6 _ rfl;have oT:Fs.frozen? ⟨Kg,(Ca:Int).toNat * 7,none⟩=false:=GJ 0;have Aaw:Fs.frozen? ⟨Kg,(Ca:Int).toNat * 7 + 1,none⟩=false:=GJ 1;have zaw:Fs.frozen? ⟨Kg,(Ca:Int).toNat * 7 + 2,none⟩=false:=GJ 2;have yaw:Fs.frozen? ⟨Kg,(Ca:Int).toNat * 7 + 3,none⟩=false:=GJ 3;have xaw:Fs.frozen? ⟨Kg,(Ca:Int).toNat * 7 + 4,none⟩=false:=GJ 4;have waw:Fs.frozen? ⟨Kg,(Ca:Int).toNat * 7 + 5,none⟩=false:=GJ 5;have vaw:Fs.frozen? ⟨Kg,(Ca:Int).toNat * 7 + 6,none⟩=false:=GJ 6;clear rar PJ GJ hM6;replace p6:=eq_true p6;replace q6:=eq_true q6;have Waf:=aa.mk (show Kd.R sg 122 Fs w0.heap.size (fun k_=>(ak k_ ∨ w.heap.size ≤ k_)) (.slice (some ⟨Kg,0,none⟩) ke.length Uu) pg from (by (with_reducible repeat (first|apply Kd.Va|apply Kd.Wa|apply Kd.jb));exact yf.out));obtain ⟨Saz,U1,oae,NT,E1⟩:=Kd.Zj Waf.out Rk (Ca:Int) (Pa) (by have h_:(Ca:Int) < ((ke.length:Int):Int):=Pa;first|exact h_|(have e_:=(Kd.Rb yf.out).1;omega)|simpa using h_);obtain rfl:=Gg oae;have u_:=Kd.Jz Waf.out (Ca:Int) (Pa) (by have h_:(Ca:Int) < ((ke.length:Int):Int):=Pa;first|exact h_|(have e_:=(Kd.Rb yf.out).1;omega)|simpa using h_) (seg:=[.int .i64 (wrap64 (Ae + 1))]) (j:=1) U1 NT (show 2 ≤ 7 from by decide) (x':=(⟨(Da pg Ca).f0,wrap64 (Ae + 1),(Da pg Ca).f2,(Da pg Ca).f3,(Da pg Ca).f4,(Da pg Ca).f5,(Da pg Ca).f6⟩:ud)) (ym _ _ _ (⟨(Da pg Ca).f0,wrap64 (Ae + 1),(Da pg Ca).f2,(Da pg Ca).f3,(Da pg Ca).f4,(Da pg Ca).f5,(Da pg Ca).f6⟩:ud) ) (fun _ hk=>hk);have J6:=NT 1 _ rfl;(try simp only [show (sg).sz=7 from rfl,Nat.mul_one,Nat.add_zero] at J6);have C7:=E1 1;(try simp only [show (sg).sz=7 from rfl,Nat.mul_one,Nat.add_zero] at C7);clear U1 NT E1 oae)|((with_reducible refine Ef (t:=3) (p:=23) rfl ?_);refine Xe (t:=3) (p:=23) (v:=?jap) (w1:=(Fs.setCell ⟨Kg,(Ca:Int).toNat * 7 + 1,none⟩ (.int .i64 (wrap64 (Ae + 1))))) ?hg ?ho ?hn ?hr ?_;(case ho=>rfl);(case hg=>rfl);(case hn=>rfl);(case hr=>first|(go_simp;done)|(go_simp;rfl));intro kn hw;have hg:Fs.grownBy kn (some Kg):=(by rw [hw];exact u_.2);have Mm:Kd.R sg 122 kn w0.heap.size (fun k_=>(ak k_ ∨ w.heap.size ≤ k_)) (.slice (some ⟨Kg,0,none⟩) ke.length Uu) ze:=(by rw [hw,Fh.out];exact u_.1);clear u_;have Cb:=aa.mk (Mm);have Lb:=aa.mk ((by rw [hw];exact ua (HB.out) NZ.out:Below w0.heap.size w0 kn));have Pb:=aa.mk (Kept.fh (S:=(fun k_=>ak k_)) hg (by repeat (first|(with_reducible first|exact HK.out|apply Kept.alloc|apply Kept.drewN|apply Kept.drew)|exact HK.out)) (fun k_ e_=>(yf.out.1 k_ e_)));clear yf HB HK;have yf:=Cb;have HB:=Lb;have HK:=Pb;clear Cb Lb Pb hg hw Mm;have p7:0 ≤ (Ca:Int):=Pa;have q7:(Ca:Int) < ((ke.length:Int):Int):=Pa;obtain ⟨ce7,qar,hM7,OJ,FJ⟩:=Kd.Zj yf.out Rk (Ca:Int) p7 q7;obtain rfl:=Gg hM7;have NS:kn.cell? ⟨Kg,(Ca:Int).toNat * 7,none⟩=some (.int .i64 ((Da ze Ca).f0)):=OJ 0 _ rfl;have jau:kn.cell? ⟨Kg,(Ca:Int).toNat * 7 + 1,none⟩=some (.int .i64 ((Da ze Ca).f1)):=OJ 1 _ rfl;have iau:kn.cell? ⟨Kg,(Ca:Int).toNat * 7 + 2,none⟩=some (.int .i64 ((Da ze Ca).f2)):=OJ 2 _ rfl;have hau:kn.cell? ⟨Kg,(Ca:Int).toNat * 7 + 3,none⟩=some (.int .i64 ((Da ze Ca).f3)):=OJ 3 _ rfl;have gau:kn.cell? ⟨Kg,(Ca:Int).toNat * 7 + 4,none⟩=some (.int .i64 ((Da ze Ca).f4)):=OJ 4 _ rfl;have fau:kn.cell? ⟨Kg,(Ca:Int).toNat * 7 + 5,none⟩=some (.int .i64 ((Da ze Ca).f5)):=OJ 5 _ rfl;have eau:kn.cell? ⟨Kg,(Ca:Int).toNat * 7 + 6,none⟩=some (.string ((Da ze Ca).f6)):=OJ 6 _ rfl;have Cac:kn.frozen? ⟨Kg,(Ca:Int).toNat * 7,none⟩=false:=FJ 0;have uaw:kn.frozen? ⟨Kg,(Ca:Int).toNat * 7 + 1,none⟩=false:=FJ 1;have taw:kn.frozen? ⟨Kg,(Ca:Int).toNat * 7 + 2,none⟩=false:=FJ 2;have saw:kn.frozen? ⟨Kg,(Ca:Int).toNat * 7 + 3,none⟩=false:=FJ 3;have qaw:kn.frozen? ⟨Kg,(Ca:Int).toNat * 7 + 4,none⟩=false:=FJ 4;have paw:kn.frozen? ⟨Kg,(Ca:Int).toNat * 7 + 5,none⟩=false:=FJ 5;have oaw:kn.frozen? ⟨Kg,(Ca:Int).toNat * 7 + 6,none⟩=false:=FJ 6;clear qar OJ FJ hM7;replace p7:=eq_true p7;replace q7:=eq_true q7;have Vaf:=aa.mk (show Kd.R sg 122 kn w0.heap.size (fun k_=>(ak k_ ∨ w.heap.size ≤ k_)) (.slice (some ⟨Kg,0,none⟩) ke.length Uu) ze from (by (with_reducible repeat (first|apply Kd.Va|apply Kd.Wa|apply Kd.jb));exact yf.out));obtain ⟨Raz,T1,nae,MT,D1⟩:=Kd.Zj Vaf.out Rk (Ca:Int) (Pa) (by have h_:(Ca:Int) < ((ke.length:Int):Int):=Pa;first|exact h_|(have e_:=(Kd.Rb yf.out).1;omega)|simpa using h_);obtain rfl:=Gg nae;have r_:=Kd.Jz Vaf.out (Ca:Int) (Pa) (by have h_:(Ca:Int) < ((ke.length:Int):Int):=Pa;first|exact h_|(have e_:=(Kd.Rb yf.out).1;omega)|simpa using h_) (seg:=[.int .i64 (wrap64 ((wrap64 (Ae + 1)) + 1))]) (j:=2) T1 MT (show 3 ≤ 7 from by decide) (x':=(⟨(Da ze Ca).f0,(Da ze Ca).f1,wrap64 ((wrap64 (Ae + 1)) + 1),(Da ze Ca).f3,(Da ze Ca).f4,(Da ze Ca).f5,(Da ze Ca).f6⟩:ud)) (ym _ _ _ (⟨(Da ze Ca).f0,(Da ze Ca).f1,wrap64 ((wrap64 (Ae + 1)) + 1),(Da ze Ca).f3,(Da ze Ca).f4,(Da ze Ca).f5,(Da ze Ca).f6⟩:ud) ) (fun _ hk=>hk);have I6:=MT 2 _ rfl;(try simp only [show (sg).sz=7 from rfl,Nat.mul_one,Nat.add_zero] at I6);have B7:=D1 2;(try simp only [show (sg).sz=7 from rfl,Nat.mul_one,Nat.add_zero] at B7);clear T1 MT D1 nae)|((with_reducible refine Ef (t:=3) (p:=30) rfl ?_);refine Xe (t:=3) (p:=30) (v:=?eap) (w1:=(kn.setCell ⟨Kg,(Ca:Int).toNat * 7 + 2,none⟩ (.int .i64 (wrap64 ((wrap64 (Ae + 1)) + 1))))) ?hg ?ho ?hn ?hr ?_;(case ho=>rfl);(case hg=>rfl);(case hn=>rfl);(case hr=>first|(go_simp;done)|(go_simp;rfl));intro Rz hw;have hg:kn.grownBy Rz (some Kg):=(by rw [hw];exact r_.2);have Mm:Kd.R sg 122 Rz w0.heap.size (fun k_=>(ak k_ ∨ w.heap.size ≤ k_)) (.slice (some ⟨Kg,0,none⟩) ke.length Uu) Sg:=(by rw [hw,RU.out];exact r_.1);clear r_;have Cb:=aa.mk (Mm);have Lb:=aa.mk ((by rw [hw];exact ua (HB.out) NZ.out:Below w0.heap.size w0 Rz));have Pb:=aa.mk (Kept.fh (S:=(fun k_=>ak k_)) hg (by repeat (first|(with_reducible first|exact HK.out|apply Kept.alloc|apply Kept.drewN|apply Kept.drew)|exact HK.out)) (fun k_ e_=>(yf.out.1 k_ e_)));clear yf HB HK;have yf:=Cb;have HB:=Lb;have HK:=Pb;clear Cb Lb Pb hg hw Mm;have p8:0 ≤ (Ca:Int):=Pa;have q8:(Ca:Int) < ((ke.length:Int):Int):=Pa;obtain ⟨ce8,oar,hM8,NJ,EJ⟩:=Kd.Zj yf.out Rk (Ca:Int) p8 q8;obtain rfl:=Gg hM8;have XZ:Rz.cell? ⟨Kg,(Ca:Int).toNat * 7,none⟩=some (.int .i64 ((Da Sg Ca).f0)):=NJ 0 _ rfl;have dau:Rz.cell? ⟨Kg,(Ca:Int).toNat * 7 + 1,none⟩=some (.int .i64 ((Da Sg Ca).f1)):=NJ 1 _ rfl;have cau:Rz.cell? ⟨Kg,(Ca:Int).toNat * 7 + 2,none⟩=some (.int .i64 ((Da Sg Ca).f2)):=NJ 2 _ rfl;have bau:Rz.cell? ⟨Kg,(Ca:Int).toNat * 7 + 3,none⟩=some (.int .i64 ((Da Sg Ca).f3)):=NJ 3 _ rfl;have aau:Rz.cell? ⟨Kg,(Ca:Int).toNat * 7 + 4,none⟩=some (.int .i64 ((Da Sg Ca).f4)):=NJ 4 _ rfl;have Zat:Rz.cell? ⟨Kg,(Ca:Int).toNat * 7 + 5,none⟩=some (.int .i64 ((Da Sg Ca).f5)):=NJ 5 _ rfl;have Yat:Rz.cell? ⟨Kg,(Ca:Int).toNat * 7 + 6,none⟩=some (.string ((Da Sg Ca).f6)):=NJ 6 _ rfl;have I1:Rz.frozen? ⟨Kg,(Ca:Int).toNat * 7,none⟩=false:=EJ 0;have naw:Rz.frozen? ⟨Kg,(Ca:Int).toNat * 7 + 1,none⟩=false:=EJ 1;have maw:Rz.frozen? ⟨Kg,(Ca:Int).toNat * 7 + 2,none⟩=false:=EJ 2;have kaw:Rz.frozen? ⟨Kg,(Ca:Int).toNat * 7 + 3,none⟩=false:=EJ 3;have jaw:Rz.frozen? ⟨Kg,(Ca:Int).toNat * 7 + 4,none⟩=false:=EJ 4;have iaw:Rz.frozen? ⟨Kg,(Ca:Int).toNat * 7 + 5,none⟩=false:=EJ 5;have haw:Rz.frozen? ⟨Kg,(Ca:Int).toNat * 7 + 6,none⟩=false:=EJ 6;clear oar NJ EJ hM8;replace p8:=eq_true p8;replace q8:=eq_true q8;have Uaf:=aa.mk (show Kd.R sg 122 Rz w0.heap.size (fun k_=>(ak k_ ∨ w.heap.size ≤ k_)) (.slice (some ⟨Kg,0,none⟩) ke.length Uu) Sg from (by (with_reducible repeat (first|apply Kd.Va|apply Kd.Wa|apply Kd.jb));exact yf.out));obtain ⟨Qaz,O1,mae,KT,C1⟩:=Kd.Zj Uaf.out Rk (Ca:Int) (Pa) (by have h_:(Ca:Int) < ((ke.length:Int):Int):=Pa;first|exact h_|(have e_:=(Kd.Rb yf.out).1;omega)|simpa using h_);obtain rfl:=Gg mae;have q_:=Kd.Jz Uaf.out (Ca:Int) (Pa) (by have h_:(Ca:Int) < ((ke.length:Int):Int):=Pa;first|exact h_|(have e_:=(Kd.Rb yf.out).1;omega)|simpa using h_) (seg:=[.int .i64 (wrap64 ((wrap64 ((wrap64 (Ae + 1)) + 1)) + 1))]) (j:=3) O1 KT (show 4 ≤ 7 from by decide) (x':=(⟨(Da Sg Ca).f0,(Da Sg Ca).f1,(Da Sg Ca).f2,wrap64 ((wrap64 ((wrap64 (Ae + 1)) + 1)) + 1),(Da Sg Ca).f4,(Da Sg Ca).f5,(Da Sg Ca).f6⟩:ud)) (ym _ _ _ (⟨(Da Sg Ca).f0,(Da Sg Ca).f1,(Da Sg Ca).f2,wrap64 ((wrap64 ((wrap64 (Ae + 1)) + 1)) + 1),(Da Sg Ca).f4,(Da Sg Ca).f5,(Da Sg Ca).f6⟩:ud) ) (fun _ hk=>hk);have H6:=KT 3 _ rfl;(try simp only [show (sg).sz=7 from rfl,Nat.mul_one,Nat.add_zero] at H6);have y7:=C1 3;(try simp only [show (sg).sz=7 from rfl,Nat.mul_one,Nat.add_zero] at y7);clear O1 KT C1 mae)|((with_reducible refine Ef (t:=3) (p:=37) rfl ?_);refine Xe (t:=3) (p:=37) (v:=?dap) (w1:=(Rz.setCell ⟨Kg,(Ca:Int).toNat * 7 + 3,none⟩ (.int .i64 (wrap64 ((wrap64 ((wrap64 (Ae + 1)) + 1)) + 1))))) ?hg ?ho ?hn ?hr ?_;(case ho=>rfl);(case hg=>rfl);(case hn=>rfl);(case hr=>first|(go_simp;done)|(go_simp;rfl));intro xq hw;have hg:Rz.grownBy xq (some Kg):=(by rw [hw];exact q_.2);have Mm:Kd.R sg 122 xq w0.heap.size (fun k_=>(ak k_ ∨ w.heap.size ≤ k_)) (.slice (some ⟨Kg,0,none⟩) ke.length Uu) ng:=(by rw [hw,MK.out];exact q_.1);clear q_;have Cb:=aa.mk (Mm);have Lb:=aa.mk ((by rw [hw];exact ua (HB.out) NZ.out:Below w0.heap.size w0 xq));have Pb:=aa.mk (Kept.fh (S:=(fun k_=>ak k_)) hg (by repeat (first|(with_reducible first|exact HK.out|apply Kept.alloc|apply Kept.drewN|apply Kept.drew)|exact HK.out)) (fun k_ e_=>(yf.out.1 k_ e_)));clear yf HB HK;have yf:=Cb;have HB:=Lb;have HK:=Pb;clear Cb Lb Pb hg hw Mm;have p9:0 ≤ (Ca:Int):=Pa;have q9:(Ca:Int) < ((ke.length:Int):Int):=Pa;obtain ⟨ce9,nar,hM9,MJ,DJ⟩:=Kd.Zj yf.out Rk (Ca:Int) p9 q9;obtain rfl:=Gg hM9;have MS:xq.cell? ⟨Kg,(Ca:Int).toNat * 7,none⟩=some (.int .i64 ((Da ng Ca).f0)):=MJ 0 _ rfl;have Xat:xq.cell? ⟨Kg,(Ca:Int).toNat * 7 + 1,none⟩=some (.int .i64 ((Da ng Ca).f1)):=MJ 1 _ rfl;have Wat:xq.cell? ⟨Kg,(Ca:Int).toNat * 7 + 2,none⟩=some (.int .i64 ((Da ng Ca).f2)):=MJ 2 _ rfl;have Vat:xq.cell? ⟨Kg,(Ca:Int).toNat * 7 + 3,none⟩=some (.int .i64 ((Da ng Ca).f3)):=MJ 3 _ rfl;have Uat:xq.cell? ⟨Kg,(Ca:Int).toNat * 7 + 4,none⟩=some (.int .i64 ((Da ng Ca).f4)):=MJ 4 _ rfl;have Tat:xq.cell? ⟨Kg,(Ca:Int).toNat * 7 + 5,none⟩=some (.int .i64 ((Da ng Ca).f5)):=MJ 5 _ rfl;have Qat:xq.cell? ⟨Kg,(Ca:Int).toNat * 7 + 6,none⟩=some (.string ((Da ng Ca).f6)):=MJ 6 _ rfl;have nT:xq.frozen? ⟨Kg,(Ca:Int).toNat * 7,none⟩=false:=DJ 0;have gaw:xq.frozen? ⟨Kg,(Ca:Int).toNat * 7 + 1,none⟩=false:=DJ 1;have faw:xq.frozen? ⟨Kg,(Ca:Int).toNat * 7 + 2,none⟩=false:=DJ 2;have eaw:xq.frozen? ⟨Kg,(Ca:Int).toNat * 7 + 3,none⟩=false:=DJ 3;have daw:xq.frozen? ⟨Kg,(Ca:Int).toNat * 7 + 4,none⟩=false:=DJ 4;have caw:xq.frozen? ⟨Kg,(Ca:Int).toNat * 7 + 5,none⟩=false:=DJ 5;have baw:xq.frozen? ⟨Kg,(Ca:Int).toNat * 7 + 6,none⟩=false:=DJ 6;clear nar MJ DJ hM9;replace p9:=eq_true p9;replace q9:=eq_true q9;have Taf:=aa.mk (show Kd.R sg 122 xq w0.heap.size (fun k_=>(ak k_ ∨ w.heap.size ≤ k_)) (.slice (some ⟨Kg,0,none⟩) ke.length Uu) ng from (by (with_reducible repeat (first|apply Kd.Va|apply Kd.Wa|apply Kd.jb));exact yf.out));obtain ⟨Paz,N1,lae,JT,Z0⟩:=Kd.Zj Taf.out Rk (Ca:Int) (Pa) (by have h_:(Ca:Int) < ((ke.length:Int):Int):=Pa;first|exact h_|(have e_:=(Kd.Rb yf.out).1;omega)|simpa using h_);obtain rfl:=Gg lae;have p_:=Kd.Jz Taf.out (Ca:Int) (Pa) (by have h_:(Ca:Int) < ((ke.length:Int):Int):=Pa;first|exact h_|(have e_:=(Kd.Rb yf.out).1;omega)|simpa using h_) (seg:=[.int .i64 (wrap64 ((wrap64 ((wrap64 ((wrap64 (Ae + 1)) + 1)) + 1)) + 1))]) (j:=4) N1 JT (show 5 ≤ 7 from by decide) (x':=(⟨(Da ng Ca).f0,(Da ng Ca).f1,(Da ng Ca).f2,(Da ng Ca).f3,wrap64 ((wrap64 ((wrap64 ((wrap64 (Ae + 1)) + 1)) + 1)) + 1),(Da ng Ca).f5,(Da ng Ca).f6⟩:ud)) (ym _ _ _ (⟨(Da ng Ca).f0,(Da ng Ca).f1,(Da ng Ca).f2,(Da ng Ca).f3,wrap64 ((wrap64 ((wrap64 ((wrap64 (Ae + 1)) + 1)) + 1)) + 1),(Da ng Ca).f5,(Da ng Ca).f6⟩:ud) ) (fun _ hk=>hk);have G6:=JT 4 _ rfl;(try simp only [show (sg).sz=7 from rfl,Nat.mul_one,Nat.add_zero] at G6);have o7:=Z0 4;(try simp only [show (sg).sz=7 from rfl,Nat.mul_one,Nat.add_zero] at o7);clear N1 JT Z0 lae)|((with_reducible refine Ef (t:=3) (p:=44) rfl ?_);refine Xe (t:=3) (p:=44) (v:=?bap) (w1:=(xq.setCell ⟨Kg,(Ca:Int).toNat * 7 + 4,none⟩ (.int .i64 (wrap64 ((wrap64 ((wrap64 ((wrap64 (Ae + 1)) + 1)) + 1)) + 1))))) ?hg ?ho ?hn ?hr ?_;(case ho=>rfl);(case hg=>rfl);(case hn=>rfl);(case hr=>first|(go_simp;done)|(go_simp;rfl));intro Kw hw;have hg:xq.grownBy Kw (some Kg):=(by rw [hw];exact p_.2);have Mm:Kd.R sg 122 Kw w0.heap.size (fun k_=>(ak k_ ∨ w.heap.size ≤ k_)) (.slice (some ⟨Kg,0,none⟩) ke.length Uu) ef:=(by rw [hw,Br.out];exact p_.1);clear p_;have Cb:=aa.mk (Mm);have Lb:=aa.mk ((by rw [hw];exact ua (HB.out) NZ.out:Below w0.heap.size w0 Kw));have Pb:=aa.mk (Kept.fh (S:=(fun k_=>ak k_)) hg (by repeat (first|(with_reducible first|exact HK.out|apply Kept.alloc|apply Kept.drewN|apply Kept.drew)|exact HK.out)) (fun k_ e_=>(yf.out.1 k_ e_)));clear yf HB HK;have yf:=Cb;have HB:=Lb;have HK:=Pb;clear Cb Lb Pb hg hw Mm;have vE:0 ≤ (Ca:Int):=Pa;have uE:(Ca:Int) < ((ke.length:Int):Int):=Pa;obtain ⟨Iae,LJ,SJ,wk,vk⟩:=Kd.Zj yf.out Rk (Ca:Int) vE uE;obtain rfl:=Gg SJ;have US:Kw.cell? ⟨Kg,(Ca:Int).toNat * 7,none⟩=some (.int .i64 ((Da ef Ca).f0)):=wk 0 _ rfl;have TS:Kw.cell? ⟨Kg,(Ca:Int).toNat * 7 + 1,none⟩=some (.int .i64 ((Da ef Ca).f1)):=wk 1 _ rfl;have SS:Kw.cell? ⟨Kg,(Ca:Int).toNat * 7 + 2,none⟩=some (.int .i64 ((Da ef Ca).f2)):=wk 2 _ rfl;have RS:Kw.cell? ⟨Kg,(Ca:Int).toNat * 7 + 3,none⟩=some (.int .i64 ((Da ef Ca).f3)):=wk 3 _ rfl;have QS:Kw.cell? ⟨Kg,(Ca:Int).toNat * 7 + 4,none⟩=some (.int .i64 ((Da ef Ca).f4)):=wk 4 _ rfl;have N6:Kw.cell? ⟨Kg,(Ca:Int).toNat * 7 + 5,none⟩=some (.int .i64 ((Da ef Ca).f5)):=wk 5 _ rfl;have M6:Kw.cell? ⟨Kg,(Ca:Int).toNat * 7 + 6,none⟩=some (.string ((Da ef Ca).f6)):=wk 6 _ rfl;have wT:Kw.frozen? ⟨Kg,(Ca:Int).toNat * 7,none⟩=false:=vk 0;have vT:Kw.frozen? ⟨Kg,(Ca:Int).toNat * 7 + 1,none⟩=false:=vk 1;have uT:Kw.frozen? ⟨Kg,(Ca:Int).toNat * 7 + 2,none⟩=false:=vk 2;have tT:Kw.frozen? ⟨Kg,(Ca:Int).toNat * 7 + 3,none⟩=false:=vk 3;have rT:Kw.frozen? ⟨Kg,(Ca:Int).toNat * 7 + 4,none⟩=false:=vk 4;have F7:Kw.frozen? ⟨Kg,(Ca:Int).toNat * 7 + 5,none⟩=false:=vk 5;have E7:Kw.frozen? ⟨Kg,(Ca:Int).toNat * 7 + 6,none⟩=false:=vk 6;clear LJ wk vk SJ;replace vE:=eq_true vE;replace uE:=eq_true uE;have Saf:=aa.mk (show Kd.R sg 122 Kw w0.heap.size (fun k_=>(ak k_ ∨ w.heap.size ≤ k_)) (.slice (some ⟨Kg,0,none⟩) ke.length Uu) ef from (by (with_reducible repeat (first|apply Kd.Va|apply Kd.Wa|apply Kd.jb));exact yf.out));obtain ⟨Oaz,L1,kae,FT,Y0⟩:=Kd.Zj Saf.out Rk (Ca:Int) (Pa) (by have h_:(Ca:Int) < ((ke.length:Int):Int):=Pa;first|exact h_|(have e_:=(Kd.Rb yf.out).1;omega)|simpa using h_);obtain rfl:=Gg kae;have o_:=Kd.Jz Saf.out (Ca:Int) (Pa) (by have h_:(Ca:Int) < ((ke.length:Int):Int):=Pa;first|exact h_|(have e_:=(Kd.Rb yf.out).1;omega)|simpa using h_) (seg:=[.int .i64 (wrap64 ((wrap64 ((wrap64 ((wrap64 ((wrap64 (Ae + 1)) + 1)) + 1)) + 1)) + 1))]) (j:=5) L1 FT (show 6 ≤ 7 from by decide) (x':=(⟨(Da ef Ca).f0,(Da ef Ca).f1,(Da ef Ca).f2,(Da ef Ca).f3,(Da ef Ca).f4,wrap64 ((wrap64 ((wrap64 ((wrap64 ((wrap64 (Ae + 1)) + 1)) + 1)) + 1)) + 1),(Da ef Ca).f6⟩:ud)) (ym _ _ _ (⟨(Da ef Ca).f0,(Da ef Ca).f1,(Da ef Ca).f2,(Da ef Ca).f3,(Da ef Ca).f4,wrap64 ((wrap64 ((wrap64 ((wrap64 ((wrap64 (Ae + 1)) + 1)) + 1)) + 1)) + 1),(Da ef Ca).f6⟩:ud) ) (fun _ hk=>hk);have F6:=FT 5 _ rfl;(try simp only [show (sg).sz=7 from rfl,Nat.mul_one,Nat.add_zero] at F6);have n7:=Y0 5;(try simp only [show (sg).sz=7 from rfl,Nat.mul_one,Nat.add_zero] at n7);clear L1 FT Y0 kae)|((with_reducible refine Ef (t:=3) (p:=51) rfl ?_);refine Xe (t:=3) (p:=51) (v:=?aap) (w1:=(Kw.setCell ⟨Kg,(Ca:Int).toNat * 7 + 5,none⟩ (.int .i64 (wrap64 ((wrap64 ((wrap64 ((wrap64 ((wrap64 (Ae + 1)) + 1)) + 1)) + 1)) + 1))))) ?hg ?ho ?hn ?hr ?_;(case ho=>rfl);(case hg=>rfl);(case hn=>rfl);(case hr=>first|(go_simp;done)|(go_simp;rfl));intro R_ hw;have hg:Kw.grownBy R_ (some Kg):=(by rw [hw];exact o_.2);have Mm:Kd.R sg 122 R_ w0.heap.size (fun k_=>(ak k_ ∨ w.heap.size ≤ k_)) (.slice (some ⟨Kg,0,none⟩) ke.length Uu) Ze:=(by rw [hw,VP.out];exact o_.1);clear o_;have Cb:=aa.mk (Mm);have Lb:=aa.mk ((by rw [hw];exact ua (HB.out) NZ.out:Below w0.heap.size w0 R_));have Pb:=aa.mk (Kept.fh (S:=(fun k_=>ak k_)) hg (by repeat (first|(with_reducible first|exact HK.out|apply Kept.alloc|apply Kept.drewN|apply Kept.drew)|exact HK.out)) (fun k_ e_=>(yf.out.1 k_ e_)));clear yf HB HK;have yf:=Cb;have HB:=Lb;have HK:=Pb;clear Cb Lb Pb hg hw Mm)|((with_reducible refine Ab (f:=127) rfl ?_);refine Uc (some 57) rfl rfl Try.func127 (by kernel_rfl) rfl #[.int .i64 (wrap64 ((wrap64 ((wrap64 ((wrap64 ((wrap64 ((wrap64 (Ae + 1)) + 1)) + 1)) + 1)) + 1)) + 1))] rfl (by (try simp only [List.map_toArray,List.map_cons,List.map_nil]);first|done|rfl|(simp only [List.length_drop,List.length_take];rfl)) ?_;(with_reducible refine (Bd.calls k1 (wrap64 ((wrap64 ((wrap64 ((wrap64 ((wrap64 ((wrap64 (Ae + 1)) + 1)) + 1)) + 1)) + 1)) + 1)) t107 _ B5.out).mono ?_);rintro e lp ⟨rfl,hb⟩;refine ⟨_,rfl,?_⟩;have Cb:=aa.mk (Kd.lg (by (with_reducible repeat (first|apply Kd.Va|apply Kd.Wa|apply Kd.jb));exact yf.out) hb);have Lb:=aa.mk (Kept.below (S:=(fun k_=>ak k_)) (by repeat (first|(with_reducible first|exact HK.out|apply Kept.alloc|apply Kept.drewN|apply Kept.drew)|exact HK.out)) hb);have Pb:=aa.mk (Oa (by repeat (first|(with_reducible first|exact HB.out|apply oa|apply ia|apply qa)|exact HB.out)) hb);clear yf HK HB;have yf:=Cb;have HK:=Lb;have HB:=Pb;clear Cb Lb Pb;(try clear hb);(try clear Gj);(try clear hk);(try clear hi);have p12:0 ≤ (Ca:Int):=Pa;have q12:(Ca:Int) < ((ke.length:Int):Int):=Pa;obtain ⟨Hae,DE,RJ,Tj,uk⟩:=Kd.Zj yf.out Rk (Ca:Int) p12 q12;obtain rfl:=Gg RJ;have vF:lp.cell? ⟨Kg,(Ca:Int).toNat * 7,none⟩=some (.int .i64 ((Da Ze Ca).f0)):=Tj 0 _ rfl;have uF:lp.cell? ⟨Kg,(Ca:Int).toNat * 7 + 1,none⟩=some (.int .i64 ((Da Ze Ca).f1)):=Tj 1 _ rfl;have sF:lp.cell? ⟨Kg,(Ca:Int).toNat * 7 + 2,none⟩=some (.int .i64 ((Da Ze Ca).f2)):=Tj 2 _ rfl;have rF:lp.cell? ⟨Kg,(Ca:Int).toNat * 7 + 3,none⟩=some (.int .i64 ((Da Ze Ca).f3)):=Tj 3 _ rfl;have qF:lp.cell? ⟨Kg,(Ca:Int).toNat * 7 + 4,none⟩=some (.int .i64 ((Da Ze Ca).f4)):=Tj 4 _ rfl;have PS:lp.cell? ⟨Kg,(Ca:Int).toNat * 7 + 5,none⟩=some (.int .i64 ((Da Ze Ca).f5)):=Tj 5 _ rfl;have OS:lp.cell? ⟨Kg,(Ca:Int).toNat * 7 + 6,none⟩=some (.string ((Da Ze Ca).f6)):=Tj 6 _ rfl;have OG:lp.frozen? ⟨Kg,(Ca:Int).toNat * 7,none⟩=false:=uk 0;have NG:lp.frozen? ⟨Kg,(Ca:Int).toNat * 7 + 1,none⟩=false:=uk 1;have MG:lp.frozen? ⟨Kg,(Ca:Int).toNat * 7 + 2,none⟩=false:=uk 2;have LG:lp.frozen? ⟨Kg,(Ca:Int).toNat * 7 + 3,none⟩=false:=uk 3;have KG:lp.frozen? ⟨Kg,(Ca:Int).toNat * 7 + 4,none⟩=false:=uk 4;have qT:lp.frozen? ⟨Kg,(Ca:Int).toNat * 7 + 5,none⟩=false:=uk 5;have pT:lp.frozen? ⟨Kg,(Ca:Int).toNat * 7 + 6,none⟩=false:=uk 6;clear DE Tj uk RJ;replace p12:=eq_true p12;replace q12:=eq_true q12;have Raf:=aa.mk (show Kd.R sg 122 lp w0.heap.size (fun k_=>(ak k_ ∨ w.heap.size ≤ k_)) (.slice (some ⟨Kg,0,none⟩) ke.length Uu) Ze from (by (with_reducible repeat (first|apply Kd.Va|apply Kd.Wa|apply Kd.jb));exact yf.out));obtain ⟨Naz,K1,jae,ET,X0⟩:=Kd.Zj Raf.out Rk (Ca:Int) (Pa) (by have h_:(Ca:Int) < ((ke.length:Int):Int):=Pa;first|exact h_|(have e_:=(Kd.Rb yf.out).1;omega)|simpa using h_);obtain rfl:=Gg jae;have l_:=Kd.Jz Raf.out (Ca:Int) (Pa) (by have h_:(Ca:Int) < ((ke.length:Int):Int):=Pa;first|exact h_|(have e_:=(Kd.Rb yf.out).1;omega)|simpa using h_) (seg:=[.string t107]) (j:=6) K1 ET (show 7 ≤ 7 from by decide) (x':=(⟨(Da Ze Ca).f0,(Da Ze Ca).f1,(Da Ze Ca).f2,(Da Ze Ca).f3,(Da Ze Ca).f4,(Da Ze Ca).f5,t107⟩:ud)) (ym _ _ _ (⟨(Da Ze Ca).f0,(Da Ze Ca).f1,(Da Ze Ca).f2,(Da Ze Ca).f3,(Da Ze Ca).f4,(Da Ze Ca).f5,t107⟩:ud) ) (fun _ hk=>hk);have E6:=ET 6 _ rfl;(try simp only [show (sg).sz=7 from rfl,Nat.mul_one,Nat.add_zero] at E6);have l7:=X0 6;(try simp only [show (sg).sz=7 from rfl,Nat.mul_one,Nat.add_zero] at l7);clear K1 ET X0 jae)|((with_reducible refine Ef (t:=9) (p:=59) rfl ?_);refine Xe (t:=9) (p:=59) (v:=?Zao) (w1:=(lp.setCell ⟨Kg,(Ca:Int).toNat * 7 + 6,none⟩ (.string t107))) ?hg ?ho ?hn ?hr ?_;(case ho=>rfl);(case hg=>rfl);(case hn=>rfl);(case hr=>first|(go_simp;done)|(go_simp;rfl));intro pL hw;have hg:lp.grownBy pL (some Kg):=(by rw [hw];exact l_.2);have Mm:Kd.R sg 122 pL w0.heap.size (fun k_=>(ak k_ ∨ w.heap.size ≤ k_)) (.slice (some ⟨Kg,0,none⟩) ke.length Uu) sC:=(by rw [hw,Hw.out];exact l_.1);clear l_;have Cb:=aa.mk (Mm);have Lb:=aa.mk ((by rw [hw];exact ua (HB.out) NZ.out:Below w0.heap.size w0 pL));have Pb:=aa.mk (Kept.fh (S:=(fun k_=>ak k_)) hg (by repeat (first|(with_reducible first|exact HK.out|apply Kept.alloc|apply Kept.drewN|apply Kept.drew)|exact HK.out)) (fun k_ e_=>(yf.out.1 k_ e_)));clear yf HB HK;have yf:=Cb;have HB:=Lb;have HK:=Pb;clear Cb Lb Pb hg hw Mm))
     go_roundg k1
     case measure=>have:=Cf.out;omega
     case rel=>exact ⟨(sC),(wrap64 ((wrap64 ((wrap64 ((wrap64 ((wrap64 ((wrap64 ((wrap64 (Ae + 1)) + 1)) + 1)) + 1)) + 1)) + 1)) + 1)),(wrap64 (Ca + 1)),(by first|rfl|(simp;done)|(simp [*];done)),(by first|rfl|(simp;done)|(simp [*];done)),H',⟨by have:=Cf.out;omega⟩,⟨by (with_reducible repeat (first|apply Kd.Va|apply Kd.Wa|apply Kd.jb));exact yf.out⟩,⟨by repeat (first|(with_reducible first|exact HK.out|apply Kept.alloc|apply Kept.drewN|apply Kept.drew)|exact HK.out)⟩,⟨by repeat (first|(with_reducible first|exact HB.out|apply oa|apply ia|apply qa)|exact HB.out)⟩⟩
    ·rw [if_neg c4] at H;exact absurd H (by simp)
   ·rw [if_neg c3] at H;have bh:decide (Ca < (ke.length:Int))=false:=decide_eq_false c3;clear c3;simp only [Option.some.injEq,Prod.mk.injEq] at H;obtain ⟨rfl,rfl⟩:=H;obtain ⟨IaA,Daz,cas⟩:=Kd.xd yf.out;subst cas;go_wp2;go_ret;exact ⟨by first|rfl|(simp [Ra,Qa] <;> rfl)|(simp [*,Ra,Qa] <;> rfl),by (with_reducible repeat (first|apply Kd.Va|apply Kd.Wa|apply Kd.jb));exact yf.out,by repeat (first|(with_reducible first|exact HB.out|apply oa|apply ia|apply qa)|exact HB.out),by repeat (first|(with_reducible first|exact HK.out|apply Kept.alloc|apply Kept.drewN|apply Kept.drew)|exact HK.out)⟩
def ue.l0:Nat→List Int→Int→Int→Option (Int × List Int)
 | 0,_,_,_=>none
 | k + 1,x0,x1,x5=>if x5 < (x0.length:Int) then (if 0 ≤ x5 then (ue.l0 k (x0.set (x5:Int).toNat x1) (wrap64 (x1 + 1)) (wrap64 (x5 + 1))) else (none)) else (some (x1,x0))
def ue.f (k:Nat) (l0:List Int) (a1:Int):Option (Int × List Int):=ue.l0 k l0 a1 0
theorem ue.calls (k:Nat) (ak:Nat→Prop) (Lf:Value) (l0:List Int) (a1:Int) (r1:Int) (r2:List Int) (w0 w:World) (hB:Below w0.heap.size w0 w) (Bg:Kd.R (Kd.int .i64) 3 w w0.heap.size ak Lf l0) (h:ue.f k l0 a1=some (r1,r2)) :
  Calls Try.prog 20 #[Lf,.int .i64 a1] w fun e w'=>e = .returned (.int .i64 r1)∧Kd.R (Kd.int .i64) 3 w' w0.heap.size (fun k_=>(ak k_ ∨ w.heap.size ≤ k_)) Lf r2∧Below w0.heap.size w0 w'∧Kept w w' (fun k_=>ak k_):=by
 have HO0:=aa.mk (show Kd.R (Kd.int .i64) 3 w w0.heap.size (fun k_=>(ak k_ ∨ w.heap.size ≤ k_)) Lf l0 from Kd.mc Bg (fun k_ hk=>(.inl hk)));have HK:=aa.mk (Kept.refl w (fun k_=>ak k_));have HW0:=aa.mk hB.size;have HB:=aa.mk hB;clear hB;have H:(ue.l0 k l0 a1 0)=some (r1,r2):=h;clear h;have H':=aa.mk H;clear H;go_enter Try.func20,Try.ntmps20;go_wp2
 go_loopg [1,5] k (fun kq v1 v5 w'=>∃ (ke:List Int) (Ae:Int) (Ca:Int),v1 = .int .i64 Ae∧v5 = .int .i64 Ca∧aa (ue.l0 kq ke Ae Ca=some (r1,r2))∧aa (kq ≤ k)∧aa (Kd.R (Kd.int .i64) 3 w' w0.heap.size (fun k_=>(ak k_ ∨ w.heap.size ≤ k_)) Lf ke)∧aa (Kept w w' (fun k_=>ak k_))∧aa (Below w0.heap.size w0 w'))
 case atStart=>exact ⟨(l0),(a1),(0),(by first|rfl|(simp;done)|(simp [*];done)),(by first|rfl|(simp;done)|(simp [*];done)),H',⟨Nat.le_refl _⟩,⟨by (with_reducible repeat (first|apply Kd.Va|apply Kd.Wa|apply Kd.jb));exact HO0.out⟩,⟨by repeat (first|(with_reducible first|exact HK.out|apply Kept.alloc|apply Kept.drewN|apply Kept.drew)|exact HK.out)⟩,⟨by repeat (first|(with_reducible first|exact HB.out|apply oa|apply ia|apply qa)|exact HB.out)⟩⟩
 case round =>
  clear H'
  try clear c2
  try clear p2
  (try clear HA);(try clear Cf);(try clear yf);(try clear HK);(try clear HB);obtain ⟨ke,Ae,Ca,rfl,rfl,HA,Cf,yf,HK,HB⟩:=hrel;cases gk with
  | zero=>exact absurd HA.out (by simp [ue.l0])
  | succ k1 =>
   have H:=HA.out;clear HA;simp only [ue.l0] at H
   by_cases c3:Ca < (ke.length:Int)
   ·rw [if_pos c3] at H;have bh:decide (Ca < (ke.length:Int))=true:=decide_eq_true c3;clear c3
    by_cases c4:0 ≤ Ca
    ·rw [if_pos c4] at H;have Mk:decide (0 ≤ Ca)=true:=decide_eq_true c4;clear c4;obtain ⟨pg,yg⟩:∃ y_:List Int,y_=(ke.set (Ca:Int).toNat Ae):=⟨_,rfl⟩;replace H:(ue.l0 k1 pg (wrap64 (Ae + 1)) (wrap64 (Ca + 1)))=some (r1,r2):=by first|(rw [yg];with_reducible exact H)|(have Ud:=(Option.bind_some _ _).symm.trans H;rw [yg];with_reducible exact Ud)|(have Ud:=(Option.bind_some _ _).symm.trans H;with_reducible exact Ud)|with_reducible exact H|(rw [yg];exact H)|exact H
     have Cl:=aa.mk yg;clear yg;have H':=aa.mk H;clear H;obtain ⟨Ao6,Dz,eo6⟩:=Kd.xd yf.out;subst eo6;have p5:0 ≤ (Ca:Int):=Pa;have q5:(Ca:Int) < ((ke.length:Int):Int):=Pa;obtain ⟨Kg,co5,Y7,gb5,gl5,cl5,V4⟩:=Kd.gm yf.out (by omega);(first|cases Y7|(injection Y7 with Xj Uw Ww;(first|subst Xj|(injection Xj with Xj;subst Xj));subst Ww;clear Uw));have NZ:=aa.mk gb5;have GG5:=aa.mk V4;clear gb5 gl5 V4;have rag:=aa.mk (show (ak Kg ∨ w.heap.size ≤ Kg) from (yf.out.1 _ rfl));obtain ⟨yaa,Dac⟩:=Kd.Vh 0 yf.out (Ca:Int) p5 q5;replace p5:=eq_true p5;replace q5:=eq_true q5;have HP7:=Kd.Vn yf.out (Ca:Int) Ae;go_wp2_with (first|((with_reducible refine Ef (t:=3) (p:=15) rfl ?_);refine Xe (t:=3) (p:=15) (v:=?Dat) (w1:=(wr.setCell ⟨Kg,(Ca:Int).toNat,none⟩ (.int .i64 Ae))) ?hg ?ho ?hn ?hr ?_;(case ho=>rfl);(case hg=>rfl);(case hn=>rfl);(case hr=>first|(go_simp;done)|(go_simp;rfl));intro w8 hw;have hg:wr.grownBy w8 (some Kg):=(by rw [hw];exact HP7.2);have Mm:Kd.R (Kd.int .i64) 3 w8 w0.heap.size (fun k_=>(ak k_ ∨ w.heap.size ≤ k_)) (.slice (some ⟨Kg,0,none⟩) ke.length Dz) pg:=(by rw [hw,Cl.out];exact HP7.1);clear HP7;have Cb:=aa.mk (Mm);have Lb:=aa.mk ((by rw [hw];exact ua (HB.out) NZ.out:Below w0.heap.size w0 w8));have Pb:=aa.mk (Kept.fh (S:=(fun k_=>ak k_)) hg (by repeat (first|(with_reducible first|exact HK.out|apply Kept.alloc|apply Kept.drewN|apply Kept.drew)|exact HK.out)) (fun k_ e_=>(yf.out.1 k_ e_)));clear yf HB HK;have yf:=Cb;have HB:=Lb;have HK:=Pb;clear Cb Lb Pb hg hw Mm))
     go_roundg k1
     case measure=>have:=Cf.out;omega
     case rel=>exact ⟨(pg),(wrap64 (Ae + 1)),(wrap64 (Ca + 1)),(by first|rfl|(simp;done)|(simp [*];done)),(by first|rfl|(simp;done)|(simp [*];done)),H',⟨by have:=Cf.out;omega⟩,⟨by (with_reducible repeat (first|apply Kd.Va|apply Kd.Wa|apply Kd.jb));exact yf.out⟩,⟨by repeat (first|(with_reducible first|exact HK.out|apply Kept.alloc|apply Kept.drewN|apply Kept.drew)|exact HK.out)⟩,⟨by repeat (first|(with_reducible first|exact HB.out|apply oa|apply ia|apply qa)|exact HB.out)⟩⟩
    ·rw [if_neg c4] at H;exact absurd H (by simp)
   ·rw [if_neg c3] at H;have bh:decide (Ca < (ke.length:Int))=false:=decide_eq_false c3;clear c3;simp only [Option.some.injEq,Prod.mk.injEq] at H;obtain ⟨rfl,rfl⟩:=H;obtain ⟨Ao9,co9,eo9⟩:=Kd.xd yf.out;subst eo9;go_wp2;go_ret;exact ⟨by first|rfl|(simp [Ra,Qa] <;> rfl)|(simp [*,Ra,Qa] <;> rfl),by (with_reducible repeat (first|apply Kd.Va|apply Kd.Wa|apply Kd.jb));exact yf.out,by repeat (first|(with_reducible first|exact HB.out|apply oa|apply ia|apply qa)|exact HB.out),by repeat (first|(with_reducible first|exact HK.out|apply Kept.alloc|apply Kept.drewN|apply Kept.drew)|exact HK.out)⟩
def Wf.f (k:Nat):List Df→Int→Option (Int × List Df)
 | [],a=>some (a,[])
 | x :: l,a=>(jd.f k x.f0 a).bind fun t=>(Wf.f k l (wrap64 (wrap64 (wrap64 (wrap64 (t.1 + 1) + 1) + 1) + 1))).bind fun u=>some (u.1,⟨t.2,t.1,wrap64 (t.1 + 1),wrap64 (wrap64 (t.1 + 1) + 1),wrap64 (wrap64 (wrap64 (t.1 + 1) + 1) + 1)⟩ :: u.2)
theorem iN {α:Type} {done l:List α} {j:Nat} (x y:α) (h:done.length=j):(done ++ x :: l).set j y=(done ++ [y]) ++ l:=by
 subst h;rw [List.set_append_right _ _ (Nat.le_refl _),Nat.sub_self,List.set_cons_zero,List.append_assoc]
 rfl
theorem Wf.calls (k:Nat) (ak:Nat→Prop) (Lf:Value) (l0:List Df) (a1:Int) (r1:Int) (r2:List Df) (w0 w:World) (hB:Below w0.heap.size w0 w) (Bg:Kd.S Pr 83 w w0.heap.size ak Lf l0) (h:Wf.f k l0 a1=some (r1,r2)) :
  Calls Try.prog 84 #[Lf,.int .i64 a1] w fun e w'=>e = .returned (.int .i64 r1)∧Kd.S Pr 83 w' w0.heap.size (fun k_=>(ak k_ ∨ w.heap.size ≤ k_)) Lf r2∧Below w0.heap.size w0 w'∧Kept w w' (fun k_=>ak k_):=by
 obtain ⟨A,c,rfl,LD,hC⟩:=Kd.OP Bg;have hm:=hC.2.1;have HS:=aa.mk (Kd.Ld Bg (wj:=fun k_=>ak k_ ∨ w.heap.size ≤ k_) (fun k_ hk=>.inl hk));have HB:=aa.mk hB;have HK:=aa.mk (Kept.refl w (fun k_=>ak k_));have HH:=aa.mk h;clear Bg hC hB h;go_enter Try.func84,Try.ntmps84;go_wp2
 go_loopg [1,5] l0.length (fun gg v1 v5 wr=>∃ (j:Nat) (a:Int) (done rest:List Df),j ≤ l0.length∧l0.length - j ≤ gg∧v1 = .int .i64 a∧v5 = .int .i64 j∧aa (done.length=j∧Wf.f k (l0.drop j) a=some (r1,rest)∧r2=done ++ rest)∧aa (Kd.S Pr 83 wr w0.heap.size (fun k_=>ak k_ ∨ w.heap.size ≤ k_) (.slice A l0.length c) (done ++ l0.drop j))∧aa (Below w0.heap.size w0 wr)∧aa (Kept w wr (fun k_=>ak k_)))
 case atStart=>exact ⟨0,a1,[],r2,Nat.zero_le _,by omega,rfl,rfl,⟨rfl,by simpa using HH.out,rfl⟩,⟨by simpa using HS.out⟩,HB,HK⟩
 case round =>
  clear HS HB HK HH;(try clear HD);(try clear HS);(try clear HB);(try clear HK);obtain ⟨j,a,done,rest,hj,hg,rfl,rfl,HD,HS,HB,HK⟩:=hrel
  by_cases hlt:j < l0.length
  ·have eA:decide ((j:Int) < (l0.length:Int))=true:=decide_eq_true (by omega);obtain ⟨d1,d2,d3⟩:=HD.out;have Yy:l0.drop j=l0[j] :: l0.drop (j + 1):=List.drop_eq_getElem_cons hlt;rw [Yy] at d2;unfold Wf.f at d2;obtain ⟨⟨a2,ku⟩,t1,d2⟩:=Option.bind_eq_some_iff.mp d2;obtain ⟨⟨r1',rest'⟩,u1,d2⟩:=Option.bind_eq_some_iff.mp d2
   obtain ⟨rfl,rfl⟩:r1' = r1∧(⟨ku,a2,wrap64 (a2 + 1),wrap64 (wrap64 (a2 + 1) + 1),wrap64 (wrap64 (wrap64 (a2 + 1) + 1) + 1)⟩:Df) :: rest' = rest:=by
    have:=Option.some.inj d2;exact ⟨congrArg Prod.fst this,congrArg Prod.snd this⟩
   have hlen:(done ++ l0.drop j).length=l0.length:=by rw [List.length_append,List.length_drop,d1];omega
   obtain ⟨g,cap,e1,hbg,Taq,cells,Bs⟩:=Kd.rI HS.out (by rw [hlen];omega);obtain rfl:A=some ⟨g,0,none⟩:=by injection e1
   clear e1;have pW:=(Kd.sR HS.out).1 g rfl;obtain ⟨Lp,cs,hcs,hM,gB,Q7,GF,hH⟩:=Kd.sA HS.out II (j:Int) (by omega) (by omega)
   have hx:(done ++ l0.drop j).getD (Int.toNat (j:Int)) II=l0[j]:=by
    rw [Yy,Int.toNat_natCast,List.getD_eq_getElem?_getD,List.getElem?_append_right (by omega),d1];simp [List.getElem?_eq_getElem hlt]
   rw [hx] at hM;obtain ⟨v0,rfl,hR⟩:=cA hM;obtain ⟨A5,c5,rfl⟩:=Kd.xd hR;have y0:=gB 0 _ rfl;have F_:=aa.mk (gB 1 _ rfl);have HC2:=aa.mk (gB 2 _ rfl);have X4:=aa.mk (gB 3 _ rfl);have HC4:=aa.mk (gB 4 _ rfl);have HH:=aa.mk hH;have HR:=aa.mk hR;have HT:=aa.mk t1;have HU:=aa.mk u1;have x_:=aa.mk GF;have HG:=aa.mk pW;have HX:=aa.mk Bs;have HD:=aa.mk (And.intro d1 d3);have HDR:=aa.mk Yy;simp only [Int.toNat_natCast,show Pr.sz=5 from rfl,Nat.add_zero] at y0 F_ HC2 X4 HC4;clear hH hR gB Q7 hM hx GF pW Bs t1 u1 d1 d2 d3 Yy hcs;go_wp2_with (first|(go_at_call 111;(with_reducible refine (jd.calls k Lp _ l0[j].f0 a a2 ku w0 wr HB.out HR.out HT.out).mono ?_);rintro e w1 ⟨rfl,hr,hb,hk⟩;have OM:=aa.mk hr;have wu:=aa.mk hb;have Cf:=aa.mk hk;have G0:¬ Lp g:=fun h=>(x_.out g h).2 rfl;have hblk:=Og HX.out hk G0;have z1:=dw F_.out hk G0;have z2:=dw HC2.out hk G0;have z3:=dw X4.out hk G0;have z4:=dw HC4.out hk G0;have z5:=ga hblk (j * 5 + 1);have z6:=ga hblk (j * 5 + 2);have z7:=ga hblk (j * 5 + 3);have z8:=ga hblk (j * 5 + 4);clear hr hb hk G0 hblk));have HH1:=aa.mk (Kd.VU (Kd.xI HH.out) Cf.out (fun k_ _ hn hs=>hn (.inl hs)));obtain ⟨HS1,hgr⟩:=Kd.U3 HH1.out (by omega) (by omega) (seg:=[.int .i64 a2,.int .i64 (wrap64 (a2 + 1)),.int .i64 (wrap64 (wrap64 (a2 + 1) + 1)),.int .i64 (wrap64 (wrap64 (wrap64 (a2 + 1) + 1) + 1))]) (j:=1) (show 1 + 4 ≤ 5 from by decide) (by intro q hq;simp at hq;rcases hq with rfl|rfl|rfl|rfl <;> rfl)
   go_roundg (l0.length - (j + 1))
   case measure=>omega
   case rel =>
    have hle:w.heap.size ≤ wr.heap.size:=HK.out.1;have G0:∀ k_,(Lp k_ ∨ wr.heap.size ≤ k_)→k_ ≠ g:=fun k_ hk=>hk.elim (fun h=>(x_.out k_ h).2) (fun h=>by omega)
    have hin:=Kd.Kz OM.out hgr (fun k_ hk e=>G0 k_ hk (by injection e));have hfin:=Kd.LM HS1 (x':=⟨ku,a2,wrap64 (a2 + 1),wrap64 (wrap64 (a2 + 1) + 1),wrap64 (wrap64 (wrap64 (a2 + 1) + 1) + 1)⟩) (mF _ _ _ _ hin) (fun k_ hk=>hk.elim .inl (fun h=>.inr ⟨.inr (by omega),h⟩))
    have SC:(done ++ l0.drop j).set (Int.toNat (j:Int)) (⟨ku,a2,wrap64 (a2 + 1),wrap64 (wrap64 (a2 + 1) + 1),wrap64 (wrap64 (wrap64 (a2 + 1) + 1) + 1)⟩:Df)=(done ++ [⟨ku,a2,wrap64 (a2 + 1),wrap64 (wrap64 (a2 + 1) + 1),wrap64 (wrap64 (wrap64 (a2 + 1) + 1) + 1)⟩]) ++ l0.drop (j + 1):=by
     rw [HDR.out,Int.toNat_natCast];exact iN _ _ HD.out.1
    rw [SC] at hfin;have hb4:=wu.out.grown hgr wu.out.size (fun k_ e=>by injection e with e;omega);have hk4:=Kept.fh hgr (HK.out.wC Cf.out (fun k_ hk=>(x_.out k_ hk).1)) (fun k_ e=>by injection e with e;subst e;exact HG.out);exact ⟨j + 1,_,_,rest',by omega,by omega,rfl,by go_num,⟨by simp [HD.out.1],HU.out,by rw [HD.out.2];simp⟩,⟨hfin⟩,⟨hb4⟩,⟨hk4⟩⟩
  ·have eA:decide ((j:Int) < (l0.length:Int))=false:=decide_eq_false (by omega);obtain rfl:j=l0.length:=by omega
   obtain ⟨d1,d2,d3⟩:=HD.out;rw [List.drop_length] at d2;unfold Wf.f at d2
   obtain ⟨rfl,rfl⟩:a=r1∧[]=rest:=by
    have:=Option.some.inj d2;exact ⟨congrArg Prod.fst this,congrArg Prod.snd this⟩
   have HD:=aa.mk d3;clear d1 d2 d3;go_wp2;go_ret;refine ⟨rfl,?_,HB.out,HK.out⟩;have:=HS.out;rw [List.drop_length] at this;rw [HD.out];exact this
def xh.f (k:Nat) (Ma:List Int) (La:Int) (Na:Int) (Ka:Int) (Ea:List Df) (a1:Int):Option (Int × List Int × List Df):=(ue.f k Ma a1).bind fun t=>(Wf.f k Ea t.1).bind fun u=>some (u.1,t.2,u.2)
theorem xh.calls (k:Nat) (JK:Nat→Prop) (Lf:Value) (Ma:List Int) (La:Int) (Na:Int) (Ka:Int) (IK:Nat→Prop) (rL:Value) (Ea:List Df) (a1:Int) (r1:Int) (r2:List Int) (r3:List Df) (w0 w:World) (hB:Below w0.heap.size w0 w) (gT:Kd.R (Kd.int .i64) 3 w w0.heap.size JK Lf Ma) (fT:Kd.S Pr 83 w w0.heap.size IK rL Ea) (h:xh.f k Ma La Na Ka Ea a1=some (r1,r2,r3)) :
  Calls Try.prog 32 #[.agg #[Lf,.int .i64 La,.int .i64 Na,.int .i64 Ka,rL],.int .i64 a1] w fun e w'=>e = .returned (.int .i64 r1)∧Kd.R (Kd.int .i64) 3 w' w0.heap.size (fun k_=>((JK k_ ∨ IK k_) ∨ w.heap.size ≤ k_)) Lf r2∧Kd.S Pr 83 w' w0.heap.size (fun k_=>((JK k_ ∨ IK k_) ∨ w.heap.size ≤ k_)) rL r3∧Below w0.heap.size w0 w'∧Kept w w' (fun k_=>JK k_ ∨ IK k_):=by
 obtain ⟨A0,c0,rfl⟩:=Kd.xd gT;obtain ⟨A4,c4,rfl⟩:=Kd.Kj fT;unfold xh.f at h;obtain ⟨⟨b1,b2⟩,t1,h⟩:=Option.bind_eq_some_iff.mp h;obtain ⟨⟨b3,b4⟩,t2,h⟩:=Option.bind_eq_some_iff.mp h
 obtain ⟨rfl,rfl,rfl⟩:b3=r1∧b2=r2∧b4=r3:=by
  have:=Option.some.inj h;exact ⟨congrArg Prod.fst this,congrArg (fun x=>x.2.1) this,congrArg (fun x=>x.2.2) this⟩
 obtain ⟨W1,Mg⟩:∃ W1,W1=w.alloc (.cells #[.slice A0 Ma.length c0,.int .i64 La,.int .i64 Na,.int .i64 Ka,.slice A4 Ea.length c4] 45 (0,0)):=⟨_,rfl⟩;have HW:=aa.mk Mg;have hbW:Below w.heap.size w W1:=by rw [Mg];exact oa (Below.refl _ _) _
 have hX1:W1.heap[w.heap.size]? = some (.cells #[.slice A0 Ma.length c0,.int .i64 La,.int .i64 Na,.int .i64 Ka,.slice A4 Ea.length c4] 45 (0,0)):=by rw [Mg];exact sr _ _
 have H0:=aa.mk (Kd.Wh (Kd.lg gT hbW));have H4:=aa.mk (Kd.jw (Kd.Wd fT hbW));have HB:=aa.mk (hB.trans (hbW.mono hB.size));have HK:=aa.mk (Kept.vl hbW (fun k_=>JK k_ ∨ IK k_));have HT1:=aa.mk t1;have HT2:=aa.mk t2;have HX:=aa.mk hX1;have hx0:=(ja hX1 0).trans rfl;clear Mg hbW gT fT hB t1 t2 h hX1;go_enter Try.func32,Try.ntmps32
 go_upto_region 1 with (fail)
 rw [← HW.out];clear HW;go_wp2_with (first|(go_at_call 20;(with_reducible refine (ue.calls k _ _ Ma a1 b1 b2 w0 W1 HB.out H0.out HT1.out).mono ?_);rintro e w2 ⟨rfl,hr,hb,hk⟩;have HR2:=aa.mk hr;have zu:=aa.mk hb;have Qk:=aa.mk hk;have HX2:=aa.mk (Og HX.out hk (by rintro ⟨_,_,_,q,hq,cells,hc⟩;rw [HX.out] at hc;injection hc with hc;injection hc with _ hc;rw [← hc] at hq;simp [Kd.int,Kd.scalar] at hq));have hy4:=(ja HX2.out 4).trans rfl;have HS2:=aa.mk (Kd.rA H4.out Qk.out (by rintro k_ ⟨_,_,_,q,hq,cells,hc⟩ ⟨_,_,_,q2,uV,O8,fL⟩;rw [hc] at fL;injection fL with fL;injection fL with _ fL;rw [← fL] at uV;simp [Kd.int,Kd.scalar] at uV;rw [uV] at hq;revert hq;decide));clear hr hb hk)|(go_at_call 84;(with_reducible refine (Wf.calls k _ _ Ea b1 b3 b4 w0 w2 zu.out HS2.out HT2.out).mono ?_);rintro e w3 ⟨rfl,hr,hb,hk⟩;have HR3:=aa.mk hr;have UE:=aa.mk hb;have yx:=aa.mk hk;clear hr hb hk));go_ret;refine ⟨rfl,?_,?_,UE.out,?_⟩
 ·refine Kd.mc (Kd.zD HR2.out yx.out ?_) (fun k_ hk=>hk.elim (fun h=>.inl (.inl h.1)) (fun h=>.inr (Nat.le_trans HK.out.1 h)));rintro k_ hk ⟨_,_,hlt,q2,uV,O8,fL⟩
  rcases hk with ⟨_,_,_,q,hq,cells,hc⟩|hk
  ·rw [hc] at fL;injection fL with fL
   injection fL with _ fL
   rw [← fL] at uV;simp [Kd.int,Kd.scalar] at hq;rw [hq] at uV;revert uV
   decide
  ·omega
 ·exact Kd.Ld HR3.out (fun k_ hk=>hk.elim (fun h=>.inl (.inr h.1)) (fun h=>.inr (Nat.le_trans HK.out.1 (Nat.le_trans Qk.out.1 h))))
 ·exact (HK.out.wC Qk.out (fun k_ hk=>.inl (.inl hk.1))).wC yx.out (fun k_ hk=>.inl (.inr hk.1))
def Le.l0:Nat→List Int→Int→Int→Option (Int)
 | 0,_,_,_=>none
 | k + 1,x0,x1,x5=>if x5 < (x0.length:Int) then (if 0 ≤ x5 then (if (rd x0 x5)=x1 then (Le.l0 k x0 (wrap64 (x1 + 1)) (wrap64 (x5 + 1))) else (some (-1))) else (none)) else (some x1)
def Le.f (k:Nat) (l0:List Int) (a1:Int):Option (Int):=Le.l0 k l0 a1 0
theorem Le.calls (k:Nat) (A0:Option Addr) (c0:Nat) (l0:List Int) (a1:Int) (r:Int) (w:World) (Qj:Kd.C (Kd.int .i64) w A0 l0.length l0) (hc0:l0.length ≤ c0) (h:Le.f k l0 a1=some r) :
  Calls Try.prog 21 #[.slice A0 l0.length c0,.int .i64 a1] w fun e w'=>e = .returned (.int .i64 r)∧Fc w w':=by
 have en:=aa.mk Qj;have kE:=aa.mk hc0;clear Qj hc0;have H:(Le.l0 k l0 a1 0)=some r:=h;clear h;have H':=aa.mk H;clear H;go_enter Try.func21,Try.ntmps21;go_wp2
 go_loopg [1,5] k (fun kq v1 v5 w'=>∃ (Ae:Int) (Ca:Int),v1 = .int .i64 Ae∧v5 = .int .i64 Ca∧aa (Le.l0 kq l0 Ae Ca=some r)∧aa (kq ≤ k)∧Fc w w')
 case atStart=>exact ⟨(a1),(0),(by first|rfl|(simp;done)|(simp [*];done)),(by first|rfl|(simp;done)|(simp [*];done)),H',⟨Nat.le_refl _⟩,by repeat (first|exact Fc.refl _|apply Fc.step)⟩
 case round =>
  clear H'
  try clear c2
  try clear p2
  (try clear HA);(try clear Cf);obtain ⟨Ae,Ca,rfl,rfl,HA,Cf,⟨m1,rfl⟩⟩:=hrel;cases gk with
  | zero=>exact absurd HA.out (by simp [Le.l0])
  | succ k1 =>
   have H:=HA.out;clear HA;simp only [Le.l0] at H
   by_cases c3:Ca < (l0.length:Int)
   ·rw [if_pos c3] at H;have bh:decide (Ca < (l0.length:Int))=true:=decide_eq_true c3;clear c3
    by_cases c4:0 ≤ Ca
    ·rw [if_pos c4] at H;have Mk:decide (0 ≤ Ca)=true:=decide_eq_true c4;clear c4
     by_cases c5:(rd l0 Ca)=Ae
     ·rw [if_pos c5] at H;have Sn:((rd l0 Ca) == Ae)=true:=beq_iff_eq.mpr c5;have nA:((rd l0 Ca) != Ae)=false:=bne_eq_false_iff_eq.mpr c5;clear c5;have H':=aa.mk H;clear H;have jf:0 ≤ (Ca:Int):=Pa;have gf:Ca < (l0.length:Int):=Pa;obtain ⟨Fe,Qi,Sd⟩:=Kd.Ce en.out Ca jf gf;cases Qi;replace jf:=eq_true jf;replace gf:=eq_true gf;go_wp2
      go_roundg k1
      case measure=>have:=Cf.out;omega
      case rel=>exact ⟨(wrap64 (Ae + 1)),(wrap64 (Ca + 1)),(by first|rfl|(simp;done)|(simp [*];done)),(by first|rfl|(simp;done)|(simp [*];done)),H',⟨by have:=Cf.out;omega⟩,by repeat (first|exact Fc.refl _|apply Fc.step)⟩
     ·rw [if_neg c5] at H;have Sn:((rd l0 Ca) == Ae)=false:=beq_eq_false_iff_ne.mpr c5;have nA:((rd l0 Ca) != Ae)=true:=bne_iff_ne.mpr c5;obtain rfl:=Option.some.inj H;have jf:0 ≤ (Ca:Int):=Pa;have gf:Ca < (l0.length:Int):=Pa;obtain ⟨Fe,Qi,Sd⟩:=Kd.Ce en.out Ca jf gf;cases Qi;replace jf:=eq_true jf;replace gf:=eq_true gf;go_wp2;go_ret;exact ⟨by first|rfl|(simp;done)|(simp [*];done),by repeat (first|exact Fc.refl _|apply Fc.step)⟩
    ·rw [if_neg c4] at H;exact absurd H (by simp)
   ·rw [if_neg c3] at H;have bh:decide (Ca < (l0.length:Int))=false:=decide_eq_false c3;clear c3;obtain rfl:=Option.some.inj H;go_wp2;go_ret;exact ⟨by first|rfl|(simp;done)|(simp [*];done),by repeat (first|exact Fc.refl _|apply Fc.step)⟩
theorem JA (l:List Int) (m:Int) (hm:0 ≤ m) (hl:m + l.length ≤ 4611686018427387904):Ev (fun k=>ue.f k l m) (m + l.length,iota m l.length):=by
 have key:=dh (r:=(m + (l.length:Int),iota m l.length)) (n:=l.length) (fun i=>Ev (fun k=>ue.l0 k ((iota m l.length).take i ++ l.drop i) (m + i) (i:Int)) (m + (l.length:Int),iota m l.length)) ?_ ?_ 0 (by omega)
 ·refine Ev.congr (fun k=>?_) key;unfold ue.f;simp
 ·refine Ev.step (fun k=>by rw [ue.l0]) ?_;refine Ev.neg (by simp [Gk]) ?_;rw [List.drop_length,List.append_nil,List.take_of_length_le (by rw [Gk];omega)];exact Ev.now _
 ·intro i hi h;refine Ev.step (fun k=>by rw [ue.l0]) ?_;refine Ev.pos (by simp [Gk];omega) (Ev.pos (by omega) ?_);have h1:m + (i:Int)=(iota m l.length).getD i 0:=(yE hi).symm;rw [Be hi (by omega),Pg (by omega) (by omega),Int.toNat_natCast];rw [show ((iota m l.length).take i ++ l.drop i).set i (m + (i:Int))=(iota m l.length).take (i + 1) ++ l.drop (i + 1) from by rw [h1];exact YI (by rw [Gk]) (by rw [Gk];exact hi)];rw [show m + (i:Int) + 1=m + ((i + 1:Nat):Int) from by omega];exact h
theorem cK (m:Int) (n:Nat) (hm:0 ≤ m) (hl:m + n ≤ 4611686018427387904):Ev (fun k=>Le.f k (iota m n) m) (m + n):=by
 have key:=dh (r:=m + (n:Int)) (n:=n) (fun i=>Ev (fun k=>Le.l0 k (iota m n) (m + i) (i:Int)) (m + (n:Int))) ?_ ?_ 0 (by omega)
 ·refine Ev.congr (fun k=>?_) key;unfold Le.f;simp
 ·refine Ev.step (fun k=>by rw [Le.l0]) ?_;exact Ev.neg (by rw [Gk];omega) (Ev.now _)
 ·intro i hi h;refine Ev.step (fun k=>by rw [Le.l0]) ?_;refine Ev.pos (by rw [Gk];omega) (Ev.pos (by omega) (Ev.pos (by rw [eF,yE hi]) ?_));rw [Be hi (by omega),Pg (by omega) (by omega)];rw [show m + (i:Int) + 1=m + ((i + 1:Nat):Int) from by omega];exact h
theorem uw (a:Int):(strOfNums [a]).size=1:=by
 simp [strOfNums]
 rfl
theorem jF (n:Int) (hn:n ≤ 4611686018427387904):∃ t,Ev (fun k=>Bd.f k n) t:=by
 have key:∀ (d:Nat) (x:Int) (s:ByteArray),0 ≤ x→x < (10 ^ d:Nat)→x ≤ 4611686018427387904→s.size + d ≤ 1000000→∃ t,Ev (fun k=>Bd.l0 k x s) t:=by
  intro d
  induction d with
  | zero =>
   intro x s h0 h1 _ hs;have h1':x < 1:=h1;refine ⟨_,Ev.step (fun k=>by rw [Bd.l0]) (Ev.neg (by omega) (Ev.pos (by omega) (Ev.now _)))⟩
  | succ d ih =>
   intro x s h0 h1 h2 hs
   by_cases hx:x > 0
   ·have e1:Int.tdiv x 10=x / 10:=Int.tdiv_eq_ediv_of_nonneg h0;have e2:wrap64 (x / 10)=x / 10:=Pg (by omega) (by omega)
    have h1':x / 10 < (10 ^ d:Nat):=by
     have:((10 ^ (d + 1):Nat):Int)=(10 ^ d:Nat) * 10:=by rw [Nat.pow_succ];simp
     rw [this] at h1;omega
    obtain ⟨t,ht⟩:=ih (x / 10) (strOfNums [(wrap64 (48 + (Int.tmod x 10))) % 256] ++ s) (by omega) h1' (by omega) (by rw [ByteArray.size_append,uw];omega);refine ⟨t,Ev.step (fun k=>by rw [Bd.l0]) (Ev.pos hx ?_)⟩;simp only [Option.bind_some];refine Ev.pos (by rw [uw];omega) ?_;rw [e1,e2];exact ht
   ·exact ⟨_,Ev.step (fun k=>by rw [Bd.l0]) (Ev.neg hx (Ev.pos (by omega) (Ev.now _)))⟩
 unfold Bd.f
 by_cases h:n ≤ 0
 ·exact ⟨_,Ev.pos h (Ev.now _)⟩
 ·obtain ⟨t,ht⟩:=key 19 n ⟨#[]⟩ (by omega) (by omega) hn (by decide);exact ⟨t,Ev.neg h ht⟩
def qj (T:Nat→ByteArray) (m:Int) (n:Nat):List ud:=(List.range n).map fun (j:Nat)=>(⟨m + 7 * (j:Int),m + 7 * (j:Int) + 1,m + 7 * (j:Int) + 2,m + 7 * (j:Int) + 3,m + 7 * (j:Int) + 4,m + 7 * (j:Int) + 5,T j⟩:ud)
theorem nj (T:Nat→ByteArray) (m:Int) (n:Nat):(qj T m n).length=n:=by simp [qj]
theorem NC {T:Nat→ByteArray} {m:Int} {n j:Nat} (h:j < n):(qj T m n).getD j Rk=(⟨m + 7 * (j:Int),m + 7 * (j:Int) + 1,m + 7 * (j:Int) + 2,m + 7 * (j:Int) + 3,m + 7 * (j:Int) + 4,m + 7 * (j:Int) + 5,T j⟩:ud):=by simp [qj,List.getD_eq_getElem?_getD,h]
theorem dF {x:List ud} {i:Nat} (h:i < x.length) (a:ud):Da (x.set i a) (i:Int)=a:=by
 simp [Da,List.getD_eq_getElem?_getD,h]
theorem laa {a:Int} (h0:0 ≤ a) (h1:a + 7 ≤ 4611686018427387904):wrap64 (a + 1)=a + 1∧wrap64 (a + 1 + 1)=a + 2∧wrap64 (a + 2 + 1)=a + 3∧wrap64 (a + 3 + 1)=a + 4∧wrap64 (a + 4 + 1)=a + 5∧wrap64 (a + 5 + 1)=a + 6∧wrap64 (a + 6 + 1)=a + 7:=by
 refine ⟨?_,?_,?_,?_,?_,?_,?_⟩
 all_goals
  rw [Pg (by omega) (by omega)]
  try omega
def BR (l:List Df):Nat:=(l.map fun x=>7 * x.f0.length + 4).sum
theorem JC (x:Df) (l:List Df):BR (x :: l)=7 * x.f0.length + 4 + BR l:=by simp [BR]
theorem maa {a:Int} (h0:0 ≤ a) (h1:a + 4 ≤ 4611686018427387904):wrap64 (a + 1)=a + 1∧wrap64 (a + 1 + 1)=a + 2∧wrap64 (a + 2 + 1)=a + 3∧wrap64 (a + 3 + 1)=a + 4:=by
 refine ⟨?_,?_,?_,?_⟩
 all_goals
  rw [Pg (by omega) (by omega)]
  try omega
theorem aE (l:List ud) (m:Int) (hm:0 ≤ m) (hl:m + 7 * l.length ≤ 4611686018427387904):∃ ms:List ud,Ev (fun k=>jd.f k l m) (m + 7 * l.length,ms):=by
 have hT:∀ j:Nat,∃ t,j < l.length→Ev (fun k=>Bd.f k (m + 7 * (j:Int) + 6)) t:=by
  intro j
  by_cases hj:j < l.length
  ·obtain ⟨t,ht⟩:=jF (m + 7 * (j:Int) + 6) (by omega);exact ⟨t,fun _=>ht⟩
  ·exact ⟨⟨#[]⟩,fun h=>absurd h hj⟩
 obtain ⟨T,hT⟩:=Classical.axiomOfChoice hT;refine ⟨qj T m l.length,?_⟩
 ·have key:=dh (r:=(m + 7 * (l.length:Int),qj T m l.length)) (n:=l.length) (fun i=>Ev (fun k=>jd.l0 k ((qj T m l.length).take i ++ l.drop i) (m + 7 * i) (i:Int)) (m + 7 * (l.length:Int),qj T m l.length)) ?_ ?_ 0 (by omega)
  ·refine Ev.congr (fun k=>?_) key;unfold jd.f;simp
  ·refine Ev.step (fun k=>by rw [jd.l0]) ?_;refine Ev.neg (by simp [nj]) ?_;rw [List.drop_length,List.append_nil,List.take_of_length_le (by rw [nj];omega)];exact Ev.now _
  ·intro i hi h;have hlen:((qj T m l.length).take i ++ l.drop i).length=l.length:=by simp [nj];omega
   have SC:=YI (m:=qj T m l.length) (l:=l) (z:=Rk) (i:=i) (by rw [nj]) (by rw [nj];exact hi);rw [NC hi] at SC;generalize hx:(qj T m l.length).take i ++ l.drop i=x at hlen SC ⊢;refine Ev.step (fun k=>by rw [jd.l0]) ?_;refine Ev.pos (by omega) (Ev.pos (by omega) ?_);simp only [Int.toNat_natCast,Option.bind_some];have hi1:i < x.length:=by omega
   simp only [dF hi1,List.set_set];obtain ⟨w1,w2,w3,w4,w5,w6,w7⟩:=laa (a:=m + 7 * (i:Int)) (by omega) (by omega);simp only [w1,w2,w3,w4,w5,w6,w7];refine Ev.bind (hT i hi) ?_;rw [Be hi (by omega),show m + 7 * (i:Int) + 7=m + 7 * ((i + 1:Nat):Int) from by omega,SC];exact h
theorem cE (l:List Df):∀ (m:Int),0 ≤ m→m + BR l ≤ 4611686018427387904→∃ ms:List Df,Ev (fun k=>Wf.f k l m) (m + BR l,ms):=by
 induction l with
 | nil =>
  intro m hm hl;refine ⟨[],?_⟩;unfold Wf.f;simp only [BR,List.map_nil,List.sum_nil,Int.natCast_zero,Int.add_zero];exact Ev.now _
 | cons x l ih =>
  intro m hm hl;rw [JC] at hl;obtain ⟨c,c1⟩:=aE x.f0 m hm (by omega);obtain ⟨ms,m1⟩:=ih (m + 7 * x.f0.length + 4) (by omega) (by omega);obtain ⟨w1,w2,w3,w4⟩:=maa (a:=m + 7 * (x.f0.length:Int)) (by omega) (by omega);have hv:m + ((7 * x.f0.length + 4 + BR l:Nat):Int)=m + 7 * (x.f0.length:Int) + 4 + BR l:=by omega
  rw [JC,hv];refine ⟨⟨c,m + 7 * x.f0.length,m + 7 * x.f0.length + 1,m + 7 * x.f0.length + 2,m + 7 * x.f0.length + 3⟩ :: ms,?_⟩;unfold Wf.f;refine Ev.bind c1 ?_;simp only [w1,w2,w3,w4];exact Ev.bind m1 (Ev.now _)
theorem bE (l0:List Int) (p v s:Int) (l4:List Df) (m:Int) (hm:0 ≤ m) (hl:m + l0.length + BR l4 ≤ 4611686018427387904):∃ ms:List Df,Ev (fun k=>xh.f k l0 p v s l4 m) (m + l0.length + BR l4,iota m l0.length,ms):=by
 obtain ⟨ms,m1⟩:=cE l4 (m + l0.length) (by omega) (by omega);refine ⟨ms,?_⟩;unfold xh.f;exact Ev.bind (JA l0 m hm (by omega)) (Ev.bind m1 (Ev.now _))
theorem k6 (l:List Df):BR l ≤ 7 * qe l + 4 * l.length:=by
 induction l with
 | nil=>simp [BR]
 | cons x l ih =>
  have:qe (x :: l)=x.f0.length + qe l:=by simp [qe]
  rw [JC,this,List.length_cons];omega
theorem vL (l:List dm):qe (l.map Qg) ≤ N5 l:=by
 unfold qe N5;rw [List.map_map]
 have:∀ l:List dm,(l.map ((fun (x:Df)=>x.f0.length) ∘ Qg)).sum ≤ (l.map fun x=>oQ x.f0).sum:=by
  intro l
  induction l with
  | nil=>simp
  | cons a l ih =>
   rw [List.map_cons,List.map_cons,List.sum_cons,List.sum_cons]
   have:((fun (x:Df)=>x.f0.length) ∘ Qg) a ≤ oQ a.f0:=by
    simp [Qg,oQ]
   omega
 have:=this l;omega
theorem cM (x:X_) (hf:aU x):∃ t:Int,Ev (fun k=>Yi.f k x.f0 x.f1 x.f2 x.f3 x.f4 1048576) t∧(¬ t < 0→x.f0.length ≤ 1048576∧(x.f4.map Qg).length ≤ 1048576∧qe (x.f4.map Qg) ≤ 1048576 ∧
  Ev (fun k=>nh.f k x.f0 x.f1 x.f2 x.f3 x.f4) (x.f0,x.f1,x.f2,x.f3,x.f4.map Qg)∧Ev (fun k=>Cj.f k x.f0 x.f1 x.f2 x.f3 (x.f4.map Qg) x.f0 x.f1 x.f2 x.f3 (x.f4.map Qg)) true ∧
  ∃ M:Int × List Int × List Df,Ev (fun k=>xh.f k x.f0 x.f1 x.f2 x.f3 (x.f4.map Qg) 1) M∧0 ≤ M.1∧M.1 ≤ 4398046511104):=by
 obtain ⟨h0,_,_,_,h4⟩:=hf;obtain ⟨t,e1,e2,e3⟩:=iM x.f0 x.f1 x.f2 x.f3 x.f4 1048576 (by omega) (by omega) h0.1 h4.1 (fun y hy=>⟨(h4.2 y hy).1.1,fun z hz=>((h4.2 y hy).1.2 z hz).2.2.2.2.2.2⟩);refine ⟨t,e1,fun ht=>?_⟩;have e:=e3 (by omega);obtain ⟨hb4,hbc⟩:=WI (l:=x.f4) (n:=1048576) (by omega);have hl:(x.f4.map Qg).length ≤ 1048576:=by rw [List.length_map];exact hb4
 have hst:=vL x.f4;have hm:=k6 (x.f4.map Qg);obtain ⟨ms,m1⟩:=bE x.f0 x.f1 x.f2 x.f3 (x.f4.map Qg) 1 (by omega) (by omega)
 exact ⟨by omega,hl,by omega,gM x.f0 x.f1 x.f2 x.f3 x.f4 (by omega) hb4 hbc,kM x.f0 x.f1 x.f2 x.f3 (x.f4.map Qg) (by omega) (by omega) (fun y hy=>by
  have:=aZ _ _ hy
  omega),_,m1,by simp only;omega,by simp only;omega⟩
def we.l0:Nat→List (List Int)→List (List Int)→Int→Option (Bool)
 | 0,_,_,_=>none
 | k + 1,x0,x1,x5=>if x5 < (x0.length:Int) then (if 0 ≤ x5 then (if x5 < (x1.length:Int) then ((Jd.f k (Je x0 x5) (Je x1 x5)).bind fun t103=>(if t103=true then (we.l0 k x0 x1 (wrap64 (x5 + 1))) else (some false))) else (none)) else (none)) else (some true)
def we.f (k:Nat) (l0:List (List Int)) (l1:List (List Int)):Option (Bool):=if (l0.length:Int)=(l1.length:Int) then (we.l0 k l0 l1 0) else (some false)
theorem we.calls (k:Nat) (A0:Option Addr) (c0:Nat) (l0:List (List Int)) (A1:Option Addr) (c1:Nat) (l1:List (List Int)) (r:Bool) (w:World) (Qj:Kd.C (Kd.slice 3 (Kd.int .i64)) w A0 l0.length l0) (hc0:l0.length ≤ c0) (hr1:Kd.C (Kd.slice 3 (Kd.int .i64)) w A1 l1.length l1) (hc1:l1.length ≤ c1) (h:we.f k l0 l1=some r) :
  Calls Try.prog 37 #[.slice A0 l0.length c0,.slice A1 l1.length c1] w fun e w'=>e = .returned (.bool r)∧Fc w w':=by
 have en:=aa.mk Qj;have kE:=aa.mk hc0;clear Qj hc0;have OM:=aa.mk hr1;have F_:=aa.mk hc1;clear hr1 hc1;have H:(if (l0.length:Int)=(l1.length:Int) then (we.l0 k l0 l1 0) else (some false))=some r:=h;clear h
 by_cases c3:(l0.length:Int)=(l1.length:Int)
 ·rw [if_pos c3] at H;have bh:((l0.length:Int) == (l1.length:Int))=true:=beq_iff_eq.mpr c3;have Uo:((l0.length:Int) != (l1.length:Int))=false:=bne_eq_false_iff_eq.mpr c3;have qD:(l0.length == l1.length)=true:=by first|simpa using c3|(simp at c3 ⊢;omega)
  clear c3;have H':=aa.mk H;clear H;go_enter Try.func37,Try.ntmps37;go_wp2
  repeat (go_quiet (fail);try go_wp2)
  go_loopg [5] k (fun kq v5 w'=>∃ (Ca:Int),v5 = .int .i64 Ca∧aa (we.l0 kq l0 l1 Ca=some r)∧aa (kq ≤ k)∧Fc w w')
  case atStart=>exact ⟨(0),(by first|rfl|(simp;done)|(simp [*];done)),H',⟨Nat.le_refl _⟩,by repeat (first|exact Fc.refl _|apply Fc.step)⟩
  case round =>
   clear H'
   try clear c1
   try clear p2
   try clear c3
   try clear bh
   try clear Uo
   try clear qD
   (try clear HA);(try clear Cf);obtain ⟨Ca,rfl,HA,Cf,⟨m1,rfl⟩⟩:=hrel;cases gk with
   | zero=>exact absurd HA.out (by simp [we.l0])
   | succ k1 =>
    have H:=HA.out;clear HA;simp only [we.l0] at H
    by_cases c4:Ca < (l0.length:Int)
    ·rw [if_pos c4] at H;have Mk:decide (Ca < (l0.length:Int))=true:=decide_eq_true c4;clear c4
     by_cases c5:0 ≤ Ca
     ·rw [if_pos c5] at H;have Sn:decide (0 ≤ Ca)=true:=decide_eq_true c5;clear c5
      by_cases c6:Ca < (l1.length:Int)
      ·rw [if_pos c6] at H;have Ro:decide (Ca < (l1.length:Int))=true:=decide_eq_true c6;clear c6;replace H:=Option.bind_eq_some_iff.mp H;obtain ⟨t103,jL,H⟩:=H;replace H:(if t103=true then (we.l0 k1 l0 l1 (wrap64 (Ca + 1))) else (some false))=some r:=H;have A7:=aa.mk jL;clear jL
       by_cases c8:t103=true
       ·subst c8;have H1:(we.l0 k1 l0 l1 (wrap64 (Ca + 1)))=some r:=by rw [if_pos rfl] at H;exact H
        clear H;have H:=H1;clear H1;have H':=aa.mk H;clear H;have jf:0 ≤ (Ca:Int):=Pa;have gf:Ca < (l0.length:Int):=Pa;obtain ⟨Fe,jm,Zl,Qi,Sd,Wg,Xg⟩:=Jp en.out Ca jf gf;cases Qi;have uh:=aa.mk Xg;have Yh:=aa.mk Wg;clear Xg Wg;replace jf:=eq_true jf;replace gf:=eq_true gf;have Mi:0 ≤ (Ca:Int):=Pa;have Li:Ca < (l1.length:Int):=Pa;obtain ⟨Gf,sx,cx,Cs,qf,Qm,Um⟩:=Jp OM.out Ca Mi Li;cases Cs;have Zk:=aa.mk Um;have bn:=aa.mk Qm;clear Um Qm;replace Mi:=eq_true Mi;replace Li:=eq_true Li;go_wp2_with (first|(go_at_call 17;(with_reducible refine (Jd.calls k1 _ _ (Je l0 Ca) _ _ (Je l1 Ca) true _ ?jc ?ic ?Ed ?Dd A7.out).mono ?_);(case jc=>repeat (first|exact uh.out|(with_reducible refine Kd.Jb ?_ _)|(with_reducible refine Kd.Gb ?_ _)|(with_reducible refine Kd.dc ?_)));(case ic=>exact Yh.out);(case Ed=>repeat (first|exact Zk.out|(with_reducible refine Kd.Jb ?_ _)|(with_reducible refine Kd.Gb ?_ _)|(with_reducible refine Kd.dc ?_)));(case Dd=>exact bn.out);rintro e w' ⟨rfl,⟨nd,rfl⟩⟩;(try first|exact ⟨rfl,_,World.drewN_drewN _ _ _⟩|exact ⟨rfl,_,Eq.trans (World.drewN_drewN _ _ _) (congrArg (World.drewN _) (Nat.add_assoc _ _ _))⟩)))
        repeat (go_quiet (first|(go_at_call 17;(with_reducible refine (Jd.calls k1 _ _ (Je l0 Ca) _ _ (Je l1 Ca) true _ ?jc ?ic ?Ed ?Dd A7.out).mono ?_);(case jc=>repeat (first|exact uh.out|(with_reducible refine Kd.Jb ?_ _)|(with_reducible refine Kd.Gb ?_ _)|(with_reducible refine Kd.dc ?_)));(case ic=>exact Yh.out);(case Ed=>repeat (first|exact Zk.out|(with_reducible refine Kd.Jb ?_ _)|(with_reducible refine Kd.Gb ?_ _)|(with_reducible refine Kd.dc ?_)));(case Dd=>exact bn.out);rintro e w' ⟨rfl,⟨nd,rfl⟩⟩;(try first|exact ⟨rfl,_,World.drewN_drewN _ _ _⟩|exact ⟨rfl,_,Eq.trans (World.drewN_drewN _ _ _) (congrArg (World.drewN _) (Nat.add_assoc _ _ _))⟩)));try go_wp2_with (first|(go_at_call 17;(with_reducible refine (Jd.calls k1 _ _ (Je l0 Ca) _ _ (Je l1 Ca) true _ ?jc ?ic ?Ed ?Dd A7.out).mono ?_);(case jc=>repeat (first|exact uh.out|(with_reducible refine Kd.Jb ?_ _)|(with_reducible refine Kd.Gb ?_ _)|(with_reducible refine Kd.dc ?_)));(case ic=>exact Yh.out);(case Ed=>repeat (first|exact Zk.out|(with_reducible refine Kd.Jb ?_ _)|(with_reducible refine Kd.Gb ?_ _)|(with_reducible refine Kd.dc ?_)));(case Dd=>exact bn.out);rintro e w' ⟨rfl,⟨nd,rfl⟩⟩;(try first|exact ⟨rfl,_,World.drewN_drewN _ _ _⟩|exact ⟨rfl,_,Eq.trans (World.drewN_drewN _ _ _) (congrArg (World.drewN _) (Nat.add_assoc _ _ _))⟩))))
        go_roundg k1
        case measure=>have:=Cf.out;omega
        case rel=>exact ⟨(wrap64 (Ca + 1)),(by first|rfl|(simp;done)|(simp [*];done)),H',⟨by have:=Cf.out;omega⟩,by repeat (first|exact Fc.refl _|apply Fc.step)⟩
       ·replace c8:=Bool.eq_false_iff.mpr c8;subst c8;have H1:(some false)=some r:=by rw [if_neg (show ¬ (false=true) by decide)] at H;exact H
        clear H;have H:=H1;clear H1;obtain rfl:=Option.some.inj H;have jf:0 ≤ (Ca:Int):=Pa;have gf:Ca < (l0.length:Int):=Pa;obtain ⟨Fe,jm,Zl,Qi,Sd,Wg,Xg⟩:=Jp en.out Ca jf gf;cases Qi;have uh:=aa.mk Xg;have Yh:=aa.mk Wg;clear Xg Wg;replace jf:=eq_true jf;replace gf:=eq_true gf;have Mi:0 ≤ (Ca:Int):=Pa;have Li:Ca < (l1.length:Int):=Pa;obtain ⟨Gf,sx,cx,Cs,qf,Qm,Um⟩:=Jp OM.out Ca Mi Li;cases Cs;have Zk:=aa.mk Um;have bn:=aa.mk Qm;clear Um Qm;replace Mi:=eq_true Mi;replace Li:=eq_true Li;go_wp2_with (first|(go_at_call 17;(with_reducible refine (Jd.calls k1 _ _ (Je l0 Ca) _ _ (Je l1 Ca) false _ ?jc ?ic ?Ed ?Dd A7.out).mono ?_);(case jc=>repeat (first|exact uh.out|(with_reducible refine Kd.Jb ?_ _)|(with_reducible refine Kd.Gb ?_ _)|(with_reducible refine Kd.dc ?_)));(case ic=>exact Yh.out);(case Ed=>repeat (first|exact Zk.out|(with_reducible refine Kd.Jb ?_ _)|(with_reducible refine Kd.Gb ?_ _)|(with_reducible refine Kd.dc ?_)));(case Dd=>exact bn.out);rintro e w' ⟨rfl,⟨nd,rfl⟩⟩;(try first|exact ⟨rfl,_,World.drewN_drewN _ _ _⟩|exact ⟨rfl,_,Eq.trans (World.drewN_drewN _ _ _) (congrArg (World.drewN _) (Nat.add_assoc _ _ _))⟩)))
        repeat (go_quiet (first|(go_at_call 17;(with_reducible refine (Jd.calls k1 _ _ (Je l0 Ca) _ _ (Je l1 Ca) false _ ?jc ?ic ?Ed ?Dd A7.out).mono ?_);(case jc=>repeat (first|exact uh.out|(with_reducible refine Kd.Jb ?_ _)|(with_reducible refine Kd.Gb ?_ _)|(with_reducible refine Kd.dc ?_)));(case ic=>exact Yh.out);(case Ed=>repeat (first|exact Zk.out|(with_reducible refine Kd.Jb ?_ _)|(with_reducible refine Kd.Gb ?_ _)|(with_reducible refine Kd.dc ?_)));(case Dd=>exact bn.out);rintro e w' ⟨rfl,⟨nd,rfl⟩⟩;(try first|exact ⟨rfl,_,World.drewN_drewN _ _ _⟩|exact ⟨rfl,_,Eq.trans (World.drewN_drewN _ _ _) (congrArg (World.drewN _) (Nat.add_assoc _ _ _))⟩)));try go_wp2_with (first|(go_at_call 17;(with_reducible refine (Jd.calls k1 _ _ (Je l0 Ca) _ _ (Je l1 Ca) false _ ?jc ?ic ?Ed ?Dd A7.out).mono ?_);(case jc=>repeat (first|exact uh.out|(with_reducible refine Kd.Jb ?_ _)|(with_reducible refine Kd.Gb ?_ _)|(with_reducible refine Kd.dc ?_)));(case ic=>exact Yh.out);(case Ed=>repeat (first|exact Zk.out|(with_reducible refine Kd.Jb ?_ _)|(with_reducible refine Kd.Gb ?_ _)|(with_reducible refine Kd.dc ?_)));(case Dd=>exact bn.out);rintro e w' ⟨rfl,⟨nd,rfl⟩⟩;(try first|exact ⟨rfl,_,World.drewN_drewN _ _ _⟩|exact ⟨rfl,_,Eq.trans (World.drewN_drewN _ _ _) (congrArg (World.drewN _) (Nat.add_assoc _ _ _))⟩))))
        go_ret;exact ⟨by first|rfl|(simp;done)|(simp [*];done),by repeat (first|exact Fc.refl _|apply Fc.step)⟩
      ·rw [if_neg c6] at H;exact absurd H (by simp)
     ·rw [if_neg c5] at H;exact absurd H (by simp)
    ·rw [if_neg c4] at H;have Mk:decide (Ca < (l0.length:Int))=false:=decide_eq_false c4;clear c4;obtain rfl:=Option.some.inj H;go_wp2
     repeat (go_quiet (fail);try go_wp2)
     go_ret;exact ⟨by first|rfl|(simp;done)|(simp [*];done),by repeat (first|exact Fc.refl _|apply Fc.step)⟩
 ·rw [if_neg c3] at H;have bh:((l0.length:Int) == (l1.length:Int))=false:=beq_eq_false_iff_ne.mpr c3;have Uo:((l0.length:Int) != (l1.length:Int))=true:=bne_iff_ne.mpr c3;have qD:(l0.length == l1.length)=false:=by first|simpa using c3|(simp at c3 ⊢;omega)
  obtain rfl:=Option.some.inj H;go_enter Try.func37,Try.ntmps37;go_wp2
  repeat (go_quiet (fail);try go_wp2)
  go_ret;exact ⟨by first|rfl|(simp;done)|(simp [*];done),by repeat (first|exact Fc.refl _|apply Fc.step)⟩
def je.l0:Nat→List (List Int)→Int→Int→Option (Int)
 | 0,_,_,_=>none
 | k + 1,x0,x1,x5=>if x5 < (x0.length:Int) then (if 0 ≤ x5 then ((Le.f k (Je x0 x5) x1).bind fun t102=>(if t102 < 0 then (some (-1)) else (je.l0 k x0 t102 (wrap64 (x5 + 1))))) else (none)) else (some x1)
def je.f (k:Nat) (l0:List (List Int)) (a1:Int):Option (Int):=je.l0 k l0 a1 0
theorem je.calls (k:Nat) (A0:Option Addr) (c0:Nat) (l0:List (List Int)) (a1:Int) (r:Int) (w:World) (Qj:Kd.C (Kd.slice 3 (Kd.int .i64)) w A0 l0.length l0) (hc0:l0.length ≤ c0) (h:je.f k l0 a1=some r) :
  Calls Try.prog 39 #[.slice A0 l0.length c0,.int .i64 a1] w fun e w'=>e = .returned (.int .i64 r)∧Fc w w':=by
 have en:=aa.mk Qj;have kE:=aa.mk hc0;clear Qj hc0;have H:(je.l0 k l0 a1 0)=some r:=h;clear h;have H':=aa.mk H;clear H;go_enter Try.func39,Try.ntmps39;go_wp2
 go_loopg [1,5] k (fun kq v1 v5 w'=>∃ (Ae:Int) (Ca:Int),v1 = .int .i64 Ae∧v5 = .int .i64 Ca∧aa (je.l0 kq l0 Ae Ca=some r)∧aa (kq ≤ k)∧Fc w w')
 case atStart=>exact ⟨(a1),(0),(by first|rfl|(simp;done)|(simp [*];done)),(by first|rfl|(simp;done)|(simp [*];done)),H',⟨Nat.le_refl _⟩,by repeat (first|exact Fc.refl _|apply Fc.step)⟩
 case round =>
  clear H'
  try clear p2
  (try clear HA);(try clear Cf);obtain ⟨Ae,Ca,rfl,rfl,HA,Cf,⟨m1,rfl⟩⟩:=hrel;cases gk with
  | zero=>exact absurd HA.out (by simp [je.l0])
  | succ k1 =>
   have H:=HA.out;clear HA;simp only [je.l0] at H
   by_cases c3:Ca < (l0.length:Int)
   ·rw [if_pos c3] at H;have bh:decide (Ca < (l0.length:Int))=true:=decide_eq_true c3;clear c3
    by_cases c4:0 ≤ Ca
    ·rw [if_pos c4] at H;have Mk:decide (0 ≤ Ca)=true:=decide_eq_true c4;clear c4;replace H:=Option.bind_eq_some_iff.mp H;obtain ⟨t102,n5,H⟩:=H;replace H:(if t102 < 0 then (some (-1)) else (je.l0 k1 l0 t102 (wrap64 (Ca + 1))))=some r:=H;have A5:=aa.mk n5;clear n5
     by_cases c6:t102 < 0
     ·rw [if_pos c6] at H;have Ro:decide (t102 < 0)=true:=decide_eq_true c6;clear c6;obtain rfl:=Option.some.inj H;have jf:0 ≤ (Ca:Int):=Pa;have gf:Ca < (l0.length:Int):=Pa;obtain ⟨Fe,jm,Zl,Qi,Sd,Wg,Xg⟩:=Jp en.out Ca jf gf;cases Qi;have uh:=aa.mk Xg;have Yh:=aa.mk Wg;clear Xg Wg;replace jf:=eq_true jf;replace gf:=eq_true gf;go_wp2_with (first|((with_reducible refine Ab (f:=21) rfl ?_);refine Uc (some 17) rfl rfl Try.func21 (by kernel_rfl) rfl #[.slice jm (Je l0 Ca).length Zl,.int .i64 Ae] rfl (by (try simp only [List.map_toArray,List.map_cons,List.map_nil]);first|done|rfl|(simp only [List.length_drop,List.length_take];rfl)) ?_;(with_reducible refine (Le.calls k1 _ _ (Je l0 Ca) Ae t102 _ ?jc ?ic A5.out).mono ?_);(case jc=>repeat (first|exact uh.out|(with_reducible refine Kd.Jb ?_ _)|(with_reducible refine Kd.Gb ?_ _)|(with_reducible refine Kd.dc ?_)));(case ic=>exact Yh.out);rintro e w' ⟨rfl,⟨nd,rfl⟩⟩;refine ⟨_,rfl,?_⟩));go_ret;exact ⟨by first|rfl|(simp;done)|(simp [*];done),by repeat (first|exact Fc.refl _|apply Fc.step)⟩
     ·rw [if_neg c6] at H;have Ro:decide (t102 < 0)=false:=decide_eq_false c6;clear c6;have H':=aa.mk H;clear H;have jf:0 ≤ (Ca:Int):=Pa;have gf:Ca < (l0.length:Int):=Pa;obtain ⟨Fe,jm,Zl,Qi,Sd,Wg,Xg⟩:=Jp en.out Ca jf gf;cases Qi;have uh:=aa.mk Xg;have Yh:=aa.mk Wg;clear Xg Wg;replace jf:=eq_true jf;replace gf:=eq_true gf;go_wp2_with (first|((with_reducible refine Ab (f:=21) rfl ?_);refine Uc (some 17) rfl rfl Try.func21 (by kernel_rfl) rfl #[.slice jm (Je l0 Ca).length Zl,.int .i64 Ae] rfl (by (try simp only [List.map_toArray,List.map_cons,List.map_nil]);first|done|rfl|(simp only [List.length_drop,List.length_take];rfl)) ?_;(with_reducible refine (Le.calls k1 _ _ (Je l0 Ca) Ae t102 _ ?jc ?ic A5.out).mono ?_);(case jc=>repeat (first|exact uh.out|(with_reducible refine Kd.Jb ?_ _)|(with_reducible refine Kd.Gb ?_ _)|(with_reducible refine Kd.dc ?_)));(case ic=>exact Yh.out);rintro e w' ⟨rfl,⟨nd,rfl⟩⟩;refine ⟨_,rfl,?_⟩))
      go_roundg k1
      case measure=>have:=Cf.out;omega
      case rel=>exact ⟨(t102),(wrap64 (Ca + 1)),(by first|rfl|(simp;done)|(simp [*];done)),(by first|rfl|(simp;done)|(simp [*];done)),H',⟨by have:=Cf.out;omega⟩,by repeat (first|exact Fc.refl _|apply Fc.step)⟩
    ·rw [if_neg c4] at H;exact absurd H (by simp)
   ·rw [if_neg c3] at H;have bh:decide (Ca < (l0.length:Int))=false:=decide_eq_false c3;clear c3;obtain rfl:=Option.some.inj H;go_wp2;go_ret;exact ⟨by first|rfl|(simp;done)|(simp [*];done),by repeat (first|exact Fc.refl _|apply Fc.step)⟩
theorem Bw (k:Nat) (A:Option Addr) (c n:Nat) (l:List (List Int)) (a r:Int) (w:World) (hn:l.length=n) (hr:Kd.C (Kd.slice 3 (Kd.int .i64)) w A l.length l) (hc:n ≤ c) (h:je.f k l a=some r):Calls Try.prog 39 #[.slice A n c,.int .i64 a] w fun e w'=>e = .returned (.int .i64 r)∧Fc w w':=by
 subst hn;exact je.calls k A c l a r w hr hc h
def Vf.f (k:Nat):List (List Int)→Int→Option (Int × List (List Int))
 | [],a=>some (a,[])
 | x :: l,a=>(ue.f k x a).bind fun t=>(Vf.f k l t.1).bind fun u=>some (u.1,t.2 :: u.2)
theorem Vf.calls (k:Nat) (ak:Nat→Prop) (Lf:Value) (l0:List (List Int)) (a1:Int) (r1:Int) (r2:List (List Int)) (w0 w:World) (hB:Below w0.heap.size w0 w) (Bg:Kd.S (Kd.slice 3 (Kd.int .i64)) 22 w w0.heap.size ak Lf l0) (h:Vf.f k l0 a1=some (r1,r2)) :
  Calls Try.prog 38 #[Lf,.int .i64 a1] w fun e w'=>e = .returned (.int .i64 r1)∧Kd.S (Kd.slice 3 (Kd.int .i64)) 22 w' w0.heap.size (fun k_=>(ak k_ ∨ w.heap.size ≤ k_)) Lf r2∧Below w0.heap.size w0 w'∧Kept w w' (fun k_=>ak k_):=by
 obtain ⟨A,c,rfl,LD,hC⟩:=Kd.OP Bg;have hm:=hC.2.1;have HS:=aa.mk (Kd.Ld Bg (wj:=fun k_=>ak k_ ∨ w.heap.size ≤ k_) (fun k_ hk=>.inl hk));have HB:=aa.mk hB;have HK:=aa.mk (Kept.refl w (fun k_=>ak k_));have HH:=aa.mk h;clear Bg hC hB h;go_enter Try.func38,Try.ntmps38;go_wp2
 go_loopg [1,5] l0.length (fun gg v1 v5 wr=>∃ (j:Nat) (a:Int) (done rest:List (List Int)),j ≤ l0.length∧l0.length - j ≤ gg∧v1 = .int .i64 a∧v5 = .int .i64 j∧aa (done.length=j∧Vf.f k (l0.drop j) a=some (r1,rest)∧r2=done ++ rest)∧aa (Kd.S (Kd.slice 3 (Kd.int .i64)) 22 wr w0.heap.size (fun k_=>ak k_ ∨ w.heap.size ≤ k_) (.slice A l0.length c) (done ++ l0.drop j))∧aa (Below w0.heap.size w0 wr)∧aa (Kept w wr (fun k_=>ak k_)))
 case atStart=>exact ⟨0,a1,[],r2,Nat.zero_le _,by omega,rfl,rfl,⟨rfl,by simpa using HH.out,rfl⟩,⟨by simpa using HS.out⟩,HB,HK⟩
 case round =>
  clear HS HB HK HH;(try clear HD);(try clear HS);(try clear HB);(try clear HK);obtain ⟨j,a,done,rest,hj,hg,rfl,rfl,HD,HS,HB,HK⟩:=hrel
  by_cases hlt:j < l0.length
  ·have eA:decide ((j:Int) < (l0.length:Int))=true:=decide_eq_true (by omega);have p1:0 ≤ (j:Int):=by omega
   have p2:(j:Int) < (l0.length:Int):=by omega
   obtain ⟨d1,d2,d3⟩:=HD.out;have Yy:l0.drop j=l0[j] :: l0.drop (j + 1):=List.drop_eq_getElem_cons hlt;rw [Yy] at d2;unfold Vf.f at d2;obtain ⟨⟨a2,ku⟩,t1,d2⟩:=Option.bind_eq_some_iff.mp d2;obtain ⟨⟨r1',rest'⟩,u1,d2⟩:=Option.bind_eq_some_iff.mp d2
   obtain ⟨rfl,rfl⟩:r1' = r1∧ku :: rest' = rest:=by
    have:=Option.some.inj d2;exact ⟨congrArg Prod.fst this,congrArg Prod.snd this⟩
   have hlen:(done ++ l0.drop j).length=l0.length:=by rw [List.length_append,List.length_drop,d1];omega
   obtain ⟨g,cap,e1,hbg,Taq,cells,Bs⟩:=Kd.rI HS.out (by rw [hlen];omega);obtain rfl:A=some ⟨g,0,none⟩:=by injection e1
   clear e1;have pW:=(Kd.sR HS.out).1 g rfl;obtain ⟨Lp,cs,hcs,hM,gB,Q7,GF,hH⟩:=Kd.sA HS.out [] (j:Int) (by omega) (by omega)
   have hx:(done ++ l0.drop j).getD (Int.toNat (j:Int)) []=l0[j]:=by
    rw [Yy,Int.toNat_natCast,List.getD_eq_getElem?_getD,List.getElem?_append_right (by omega),d1];simp [List.getElem?_eq_getElem hlt]
   rw [hx] at hM;obtain ⟨v0,rfl,hR⟩:=hM;obtain ⟨A5,c5,rfl⟩:=Kd.xd hR;have y0:=gB 0 _ rfl;have HH:=aa.mk hH;have HR:=aa.mk hR;have HT:=aa.mk t1;have HU:=aa.mk u1;have x_:=aa.mk GF;have HD:=aa.mk (And.intro d1 d3);have HDR:=aa.mk Yy;simp only [Int.toNat_natCast,show (Kd.slice 3 (Kd.int .i64)).sz=1 from rfl,Nat.add_zero,Nat.mul_one] at y0;clear hH hR gB Q7 hx GF pW Bs t1 u1 d1 d2 d3 Yy hcs;go_wp2_with (first|(go_at_call 20;(with_reducible refine (ue.calls k Lp _ l0[j] a a2 ku w0 wr HB.out HR.out HT.out).mono ?_);rintro e w1 ⟨rfl,hr,hb,hk⟩;have OM:=aa.mk hr;have wu:=aa.mk hb;have Cf:=aa.mk hk;clear hr hb hk));have HH1:=aa.mk (Kd.VU (Kd.xI HH.out) Cf.out (fun k_ _ hn hs=>hn (.inl hs)))
   go_roundg (l0.length - (j + 1))
   case measure=>omega
   case rel =>
    have hle:w.heap.size ≤ wr.heap.size:=HK.out.1;have hfin:=Kd.LM HH1.out (x':=ku) (show (Kd.slice 3 (Kd.int .i64)).M w1 w0.heap.size (fun k_=>Lp k_ ∨ wr.heap.size ≤ k_) ku [.slice A5 l0[j].length c5] from ⟨_,rfl,OM.out⟩) (fun k_ hk=>hk.elim .inl (fun h=>.inr ⟨.inr (by omega),h⟩))
    have SC:(done ++ l0.drop j).set (Int.toNat (j:Int)) ku=(done ++ [ku]) ++ l0.drop (j + 1):=by
     rw [HDR.out,Int.toNat_natCast];exact iN _ _ HD.out.1
    rw [SC] at hfin;have hk4:=HK.out.wC Cf.out (fun k_ hk=>(x_.out k_ hk).1);exact ⟨j + 1,_,_,rest',by omega,by omega,rfl,by go_num,⟨by simp [HD.out.1],HU.out,by rw [HD.out.2];simp⟩,⟨hfin⟩,wu,⟨hk4⟩⟩
  ·have eA:decide ((j:Int) < (l0.length:Int))=false:=decide_eq_false (by omega);obtain rfl:j=l0.length:=by omega
   obtain ⟨d1,d2,d3⟩:=HD.out;rw [List.drop_length] at d2;unfold Vf.f at d2
   obtain ⟨rfl,rfl⟩:a=r1∧[]=rest:=by
    have:=Option.some.inj d2;exact ⟨congrArg Prod.fst this,congrArg Prod.snd this⟩
   have HD:=aa.mk d3;clear d1 d2 d3;go_wp2;go_ret;refine ⟨rfl,?_,HB.out,HK.out⟩;have:=HS.out;rw [List.drop_length] at this;rw [HD.out];exact this
def J3 (x5 x7:Bool) (o:Int) (x98:Bool) (N3 r v:Int):Bool:=bif x98 then x5 && (x7 && (v == 0)) else if o=8 then (r == 0) && (x7 && Vk v 0 N3) else if o=9 then x5 && (x7 && Vk v 0 N3) else false
def J2 (x5 x6 x7:Bool) (o:Int) (x61:Bool) (N0 N3 r q v:Int):Bool:=bif x61 then x5 && (x6 && ((q == 0) && Vk v 0 N0)) else if o=11 then x5 && (x6 && ((q == 0) && (v == 0))) else if o=6 then J3 x5 x7 o (o == 6) N3 r v else if o=7 then J3 x5 x7 o (o == 7) N3 r v else J3 x5 x7 o (o == 10) N3 r v
def J1 (x5 x6 x7:Bool) (o:Int) (x30:Bool) (N2 N0 N3 r q v:Int):Bool:=bif x30 then x5 && (x7 && Vk v 0 N2) else if o=3 then x5 && (x6 && (Vk q 0 15 && Vk v 0 5)) else if o=4 then J2 x5 x6 x7 o (o == 4) N0 N3 r q v else J2 x5 x6 x7 o (o == 5) N0 N3 r q v
def J0 (x5 x6 x7:Bool) (o N2 N0 N3 r q v:Int):Bool:=if o=0 then x5 && x7 else if o=1 then J1 x5 x6 x7 o (o == 1) N2 N0 N3 r q v else J1 x5 x6 x7 o (o == 2) N2 N0 N3 r q v
end Go.Proofs.Ytoomcmaifgkkfaa.P
end
