import Derived.Test.YtkigbdceceeenaaQPressure1
import Derived.Test.YtkigbdceceeenaaQPressure6
import Derived.Test.YtkigbdceceeenaaQPressure4
import Derived.Test.YtkigbdceceeenaaQPressure5
import Derived.Test.YtkigbdceceeenaaQPressure10
import Derived.Test.YtkigbdceceeenaaQPressure11
import Derived.Shelf.Abstract
import Derived.Outline
import Derived.Test.YtkigbdceceeenaaQPressure7
import Derived.Test.YtkigbdceceeenaaQPressure8
section
namespace Go.Proofs.Ytkigbdceceeenaa.P
open Go.RowKit Go.Proofs.Oa.Wb Go.Proofs.Oa.Vd Go.Proofs.Oa.Xe
set_option linter.unusedVariables false
set_option linter.unusedSimpArgs false
def cO (s:List Bool):Int:=((Ok s s.length).length:Int)
theorem ZH (s:List Bool) (hm:s.length ≤ 1048576):∀ (d i:Nat),i + d=s.length→Ev (fun k=>Rc.l0 k s ((Ok s i).length:Int) (i:Int)) (cO s):=by
 intro d
 induction d with
 | zero =>
  intro i hi;obtain rfl:i=s.length:=by omega
  refine Ev.step (fun k=>by rw [Rc.l0]) ?_;exact Ev.neg (by omega) (Ev.now _)
 | succ d ih =>
  intro i hi;have hl:=fE s i;have h:=ih (i + 1) (by omega);refine Ev.step (fun k=>by rw [Rc.l0]) ?_;refine Ev.pos (by omega) (Ev.pos (by omega) ?_);rw [qw,Ee (show i < s.length by omega) (by omega)]
  by_cases hs:seen s i=true
  ·rw [cE hs,List.length_append,List.length_singleton] at h;rw [show wrap64 (((Ok s i).length:Int) + 1)=(((Ok s i).length + 1:Nat):Int) from by unfold wrap64;omega];exact Ev.pos hs h
  ·rw [eE hs] at h;exact Ev.neg hs h
theorem TC (s:List Bool) (hm:s.length ≤ 1048576):Ev (fun k=>Rc.f k s) (cO s):=ZH s hm s.length 0 (by omega)
def Jv (bs:List Ce) (X:List (List Bool)) (i:Nat) (z:Int):Prop :=
 (∀ q,q < (Aa bs (i:Int)).f0.length→cO (zo (Aa bs (i:Int)).f0 (q + 1) (qg (Aa bs (i:Int)) (Yd X i))) ≤ z)∧cO (zo (Aa bs (i:Int)).f0 0 (qg (Aa bs (i:Int)) (Yd X i))) ≤ z
theorem PK {a b z:Int}:max a b ≤ z ↔ a ≤ z∧b ≤ z:=by omega
theorem dI (code:List Rf) (x:List Bool) (z:Int):∀ (q:Nat) (m:Int),q ≤ code.length→(bA bE (code.take q).reverse (zo code q x) m ≤ z ↔ m ≤ z∧∀ q',q' < q→cO (zo code (q' + 1) x) ≤ z)
 | 0,m,_=>by
  rw [List.take_zero];exact ⟨fun h=>⟨h,fun q hq=>by omega⟩,fun h=>h.1⟩
 | q + 1,m,hq=>by
  rw [UC bE (by omega),← Qo (by omega),dI code x z q _ (by omega)]
  show max m (cO (zo code (q + 1) x)) ≤ z∧_ ↔ _
  rw [PK];refine ⟨fun h=>⟨h.1.1,fun q' hq'=>?_⟩,fun h=>⟨⟨h.1,h.2 q (by omega)⟩,fun q' hq'=>h.2 q' (by omega)⟩⟩
  by_cases e:q' = q
  ·subst e;exact h.1.2
  ·exact h.2 q' (by omega)
theorem cA (bs:List Ce) (X:List (List Bool)) (z:Int):∀ (d i:Nat) (m:Int),i + d=bs.length→(Ai bE bs X i m ≤ z ↔ m ≤ z∧∀ j,i ≤ j→j < bs.length→∀ q,q < (Aa bs (j:Int)).f0.length→cO (zo (Aa bs (j:Int)).f0 (q + 1) (qg (Aa bs (j:Int)) (Yd X j))) ≤ z)
 | 0,i,m,h=>by
  obtain rfl:i=bs.length:=by omega
  rw [Iy];exact ⟨fun h=>⟨h,fun j h1 h2=>by omega⟩,fun h=>h.1⟩
 | d + 1,i,m,h=>by
  rw [Gv bE (by omega),cA bs X z d (i + 1) _ (by omega)];have hb:=dI (Aa bs (i:Int)).f0 (qg (Aa bs (i:Int)) (Yd X i)) z _ m (Nat.le_refl _);rw [List.take_length,qt] at hb;unfold eI;rw [hb];refine ⟨fun h=>⟨h.1.1,fun j h1 h2=>?_⟩,fun h=>⟨⟨h.1,h.2 i (Nat.le_refl _) (by omega)⟩,fun j h1 h2=>h.2 j (by omega) h2⟩⟩
  by_cases e:j=i
  ·subst e;exact h.1.2
  ·exact h.2 j (by omega) h2
theorem sH {bs:List Ce} {n:Nat} (hO:jn bs n) (z:Int):∀ (l:List Nat) (m:Int),(∀ j ∈ l,j < bs.length)→(l.foldl (Vz bs n) m ≤ z ↔ m ≤ z∧∀ j ∈ l,cO (zo (Aa bs (j:Int)).f0 0 (qg (Aa bs (j:Int)) (Yd (ze bs n) j))) ≤ z)
 | [],m,_=>⟨fun h=>⟨h,fun j hj=>by cases hj⟩,fun h=>h.1⟩
 | i :: l,m,hl=>by
  rw [List.foldl_cons,sH hO z l _ (fun j hj=>hl j (by simp [hj]))]
  have he:Vz bs n m i=max m (cO (zo (Aa bs (i:Int)).f0 0 (qg (Aa bs (i:Int)) (Yd (ze bs n) i)))):=by
   rw [fD,rC (hl i (by simp))];unfold Vz cO;rw [zm,Kg]
  rw [he,PK];refine ⟨fun h=>⟨h.1.1,fun j hj=>?_⟩,fun h=>⟨⟨h.1,h.2 i (by simp)⟩,fun j hj=>h.2 j (by simp [hj])⟩⟩
  rcases List.mem_cons.1 hj with e|e
  ·subst e;exact h.1.2
  ·exact h.2 j e
theorem tH {bs:List Ce} {n:Nat} (hO:jn bs n) (z:Int):vC bs n ≤ z ↔ 0 ≤ z∧∀ j,j < bs.length→Jv bs (ze bs n) j z:=by
 unfold vC XP Jv;rw [cA bs (ze bs n) z bs.length 0 _ (by omega),sH hO z _ _ (fun j hj=>List.mem_range.1 hj)];exact ⟨fun h=>⟨h.1.1,fun j hj=>⟨h.2 j (Nat.zero_le _) hj,h.1.2 j (List.mem_range.2 hj)⟩⟩,fun h=>⟨⟨h.1,fun j hj=>(h.2 j (List.mem_range.1 hj)).2⟩,fun j _ hj=>(h.2 j hj).1⟩⟩
section
variable {bs:List Ce} {n:Nat} (l0:List Int) (p v:Int)
theorem RJ {i:Nat} {P:Int→Prop} (hO:jn bs n) (hi:i < bs.length) (X:List (List Bool)) (x:List Bool) (hx:x.length=n)
  (hK:∀ m:Int,∃ w,Ev (fun k=>qb.l0 k m X (wrap64 ((i:Int) + 1)) l0 p v (n:Int) bs) w∧∀ z,w ≤ z ↔ m ≤ z∧P z) :
  ∀ (q:Nat) (m:Int),q ≤ (Aa bs (i:Int)).f0.length→∃ w,Ev (fun k=>qb.l1 k m X (i:Int) (zo (Aa bs (i:Int)).f0 q x) ((q:Int) - 1) l0 p v (n:Int) bs (Aa bs (i:Int)).f0 (Aa bs (i:Int)).f1 (Aa bs (i:Int)).f2 (Aa bs (i:Int)).f3 (Aa bs (i:Int)).f4) w ∧
   ∀ z,w ≤ z ↔ m ≤ z∧(∀ q',q' < q→cO (zo (Aa bs (i:Int)).f0 q' x) ≤ z)∧cO (zo (Aa bs (i:Int)).f0 0 x) ≤ z∧P z:=by
 have hb:=cr hO hi;have hn:=hO.2.1;intro q
 induction q with
 | zero =>
  intro m _;have hc:=TC (zo (Aa bs (i:Int)).f0 0 x) (by rw [ot,hx];exact hn)
  by_cases hgt:cO (zo (Aa bs (i:Int)).f0 0 x) > m
  ·obtain ⟨w,e1,e2⟩:=hK (cO (zo (Aa bs (i:Int)).f0 0 x));refine ⟨w,?_,fun z=>?_⟩
   ·refine Ev.step (fun k=>by rw [qb.l1]) ?_;exact Ev.neg (by omega) (Ev.bind hc (Ev.pos hgt e1))
   ·rw [e2 z];exact ⟨fun h=>⟨by omega,fun q' hq'=>by omega,h.1,h.2⟩,fun h=>⟨h.2.2.1,h.2.2.2⟩⟩
  ·obtain ⟨w,e1,e2⟩:=hK m;refine ⟨w,?_,fun z=>?_⟩
   ·refine Ev.step (fun k=>by rw [qb.l1]) ?_;exact Ev.neg (by omega) (Ev.bind hc (Ev.neg hgt e1))
   ·rw [e2 z];exact ⟨fun h=>⟨h.1,fun q' hq'=>by omega,by omega,h.2⟩,fun h=>⟨h.1,h.2.2.2⟩⟩
 | succ q ih =>
  intro m hq;have h1:=hb.1;have he:=cI (zo (Aa bs (i:Int)).f0 (q + 1) x) (Ta (Aa bs (i:Int)).f0 (q:Int)) (by rw [ot,hx];exact BC hb (by omega));rw [← Qo (by omega)] at he;have hc:=TC (zo (Aa bs (i:Int)).f0 q x) (by rw [ot,hx];exact hn)
  by_cases hgt:cO (zo (Aa bs (i:Int)).f0 q x) > m
  ·obtain ⟨w,e1,e2⟩:=ih (cO (zo (Aa bs (i:Int)).f0 q x)) (by omega);refine ⟨w,?_,fun z=>?_⟩
   ·refine Ev.step (fun k=>by rw [qb.l1]) ?_;rw [succ_pred];refine Ev.pos (by omega) (Ev.pos (by omega) (Ev.pos (by omega) (Ev.bind he (Ev.bind hc (Ev.pos hgt ?_)))));rw [Ch (by omega)];exact e1
   ·rw [e2 z];refine ⟨fun h=>⟨by omega,fun q' hq'=>?_,h.2.2⟩,fun h=>⟨h.2.1 q (by omega),fun q' hq'=>h.2.1 q' (by omega),h.2.2⟩⟩
    by_cases e:q' = q
    ·subst e;exact h.1
    ·exact h.2.1 q' (by omega)
  ·obtain ⟨w,e1,e2⟩:=ih m (by omega);refine ⟨w,?_,fun z=>?_⟩
   ·refine Ev.step (fun k=>by rw [qb.l1]) ?_;rw [succ_pred];refine Ev.pos (by omega) (Ev.pos (by omega) (Ev.pos (by omega) (Ev.bind he (Ev.bind hc (Ev.neg hgt ?_)))));rw [Ch (by omega)];exact e1
   ·rw [e2 z];refine ⟨fun h=>⟨h.1,fun q' hq'=>?_,h.2.2⟩,fun h=>⟨h.1,fun q' hq'=>h.2.1 q' (by omega),h.2.2⟩⟩
    by_cases e:q' = q
    ·subst e;omega
    ·exact h.2.1 q' (by omega)
end
theorem oP {b:Ce} {s:List Bool} (hb:ou s.length b) (hs:s.length ≤ 1048576):jf.f b.f0 b.f1 b.f2 b.f3 b.f4 s=some (qg b s):=by
 unfold jf.f qg;rw [Option.bind_some,if_pos (by simp;omega),Option.bind_some,List.nil_append]
 by_cases hf:b.f1=0
 ·rw [if_pos hf,if_pos hf]
 ·have:=hb.2.1 hf;rw [if_neg hf,if_neg hf,if_pos (by omega),if_pos (by omega)]
section
variable {bs:List Ce} {n:Nat} (l0:List Int) (p v:Int)
theorem SJ (hO:jn bs n):∀ (d i:Nat) (m:Int),i + d=bs.length→∃ w,Ev (fun k=>qb.l0 k m (ze bs n) (i:Int) l0 p v (n:Int) bs) w∧∀ z,w ≤ z ↔ m ≤ z∧∀ j,i ≤ j→j < bs.length→Jv bs (ze bs n) j z:=by
 have hl:=hO.1.2.1;have hn:=hO.2.1;intro d
 induction d with
 | zero =>
  intro i m hi;refine ⟨m,?_,fun z=>⟨fun h=>⟨h,fun j h1 h2=>by omega⟩,fun h=>h.1⟩⟩;refine Ev.step (fun k=>by rw [qb.l0]) ?_;exact Ev.neg (by omega) (Ev.now _)
 | succ d ih =>
  intro i m hi;have N4:i < bs.length:=by omega
  have hb:=cr hO N4;have hrl:(Yd (ze bs n) i).length=n:=by rw [rC N4];exact Kg _ _ _
  have hE:=oP (b:=Aa bs (i:Int)) (s:=Yd (ze bs n) i) (by rw [hrl];exact hb) (by rw [hrl];exact hn);have hEl:(qg (Aa bs (i:Int)) (Yd (ze bs n) i)).length=n:=by rw [Pm,hrl]
  have hc:=TC (qg (Aa bs (i:Int)) (Yd (ze bs n) i)) (by rw [hEl];exact hn);have hend:zo (Aa bs (i:Int)).f0 (Aa bs (i:Int)).f0.length (qg (Aa bs (i:Int)) (Yd (ze bs n) i))=qg (Aa bs (i:Int)) (Yd (ze bs n) i):=qt _ _;have key:=fun m':Int=>RJ l0 p v (P:=fun z=>∀ j,i + 1 ≤ j→j < bs.length→Jv bs (ze bs n) j z) hO N4 (ze bs n) _ hEl (fun m=>by rw [Ee N4 (by omega)];exact ih (i + 1) m (by omega)) (Aa bs (i:Int)).f0.length m' (Nat.le_refl _)
  have start:∀ m' w,Ev (fun k=>qb.l1 k m' (ze bs n) (i:Int) (zo (Aa bs (i:Int)).f0 (Aa bs (i:Int)).f0.length (qg (Aa bs (i:Int)) (Yd (ze bs n) i))) (((Aa bs (i:Int)).f0.length:Int) - 1) l0 p v (n:Int) bs (Aa bs (i:Int)).f0 (Aa bs (i:Int)).f1 (Aa bs (i:Int)).f2 (Aa bs (i:Int)).f3 (Aa bs (i:Int)).f4) w→Ev (fun k=>qb.j2 k m' (ze bs n) (i:Int) (qg (Aa bs (i:Int)) (Yd (ze bs n) i)) l0 p v (n:Int) bs (Aa bs (i:Int)).f0 (Aa bs (i:Int)).f1 (Aa bs (i:Int)).f2 (Aa bs (i:Int)).f3 (Aa bs (i:Int)).f4) w:=fun m' w h=>by
   refine Ev.step (fun k=>by rw [qb.j2]) ?_;rw [Ch hb.1];rw [hend] at h;exact h
  have split:∀ z,(∀ j,i ≤ j→j < bs.length→Jv bs (ze bs n) j z) ↔ Jv bs (ze bs n) i z∧∀ j,i + 1 ≤ j→j < bs.length→Jv bs (ze bs n) j z:=fun z =>
   ⟨fun h=>⟨h i (Nat.le_refl _) N4,fun j h1 h2=>h j (by omega) h2⟩,fun h j h1 h2=>by
    by_cases e:j=i
    ·subst e;exact h.1
    ·exact h.2 j (by omega) h2⟩
  have low:∀ z,(∀ q',q' < (Aa bs (i:Int)).f0.length→cO (zo (Aa bs (i:Int)).f0 q' (qg (Aa bs (i:Int)) (Yd (ze bs n) i))) ≤ z)→(0 < (Aa bs (i:Int)).f0.length→cO (qg (Aa bs (i:Int)) (Yd (ze bs n) i)) ≤ z)→cO (zo (Aa bs (i:Int)).f0 0 (qg (Aa bs (i:Int)) (Yd (ze bs n) i))) ≤ z→Jv bs (ze bs n) i z:=fun z h1 h2 h3=>⟨fun q hq=>by
    by_cases e:q + 1=(Aa bs (i:Int)).f0.length
    ·rw [e,hend];exact h2 (by omega)
    ·exact h1 (q + 1) (by omega),h3⟩
  have high:∀ z,Jv bs (ze bs n) i z→(∀ q',q' < (Aa bs (i:Int)).f0.length→cO (zo (Aa bs (i:Int)).f0 q' (qg (Aa bs (i:Int)) (Yd (ze bs n) i))) ≤ z):=fun z h q' hq'=>by
   cases q' with
   | zero=>exact h.2
   | succ q=>exact h.1 q (by omega)
  have top:∀ z,0 < (Aa bs (i:Int)).f0.length→Jv bs (ze bs n) i z→cO (qg (Aa bs (i:Int)) (Yd (ze bs n) i)) ≤ z:=fun z h0 h=>by
   have:=h.1 ((Aa bs (i:Int)).f0.length - 1) (by omega);rw [Nat.sub_add_cancel (by omega),hend] at this;exact this
  by_cases hgt:cO (qg (Aa bs (i:Int)) (Yd (ze bs n) i)) > m
  ·by_cases hL:((Aa bs (i:Int)).f0.length:Int) > 0
   ·obtain ⟨w,e1,e2⟩:=key (cO (qg (Aa bs (i:Int)) (Yd (ze bs n) i)));refine ⟨w,?_,fun z=>?_⟩
    ·refine Ev.step (fun k=>by rw [qb.l0]) ?_;rw [gz];refine Ev.pos (by omega) (Ev.pos (by omega) (Ev.pos (by rw [Zg];omega) (Ev.bind (Ev.here hE) (Ev.bind hc (Ev.pos hgt ?_)))));refine Ev.step (fun k=>by rw [qb.j1]) ?_;exact Ev.pos (decide_eq_true hL) (start _ _ e1)
    ·rw [e2 z,split z];exact ⟨fun h=>⟨by omega,low z h.2.1 (fun _=>h.1) h.2.2.1,h.2.2.2⟩,fun h=>⟨top z (by omega) h.2.1,high z h.2.1,h.2.1.2,h.2.2⟩⟩
   ·obtain ⟨w,e1,e2⟩:=key m;refine ⟨w,?_,fun z=>?_⟩
    ·refine Ev.step (fun k=>by rw [qb.l0]) ?_;rw [gz];refine Ev.pos (by omega) (Ev.pos (by omega) (Ev.pos (by rw [Zg];omega) (Ev.bind (Ev.here hE) (Ev.bind hc (Ev.pos hgt ?_)))));refine Ev.step (fun k=>by rw [qb.j1]) ?_;exact Ev.neg (by rw [decide_eq_false hL];simp) (start _ _ e1)
    ·rw [e2 z,split z];exact ⟨fun h=>⟨h.1,low z h.2.1 (fun h0=>by omega) h.2.2.1,h.2.2.2⟩,fun h=>⟨h.1,high z h.2.1,h.2.1.2,h.2.2⟩⟩
  ·obtain ⟨w,e1,e2⟩:=key m;refine ⟨w,?_,fun z=>?_⟩
   ·refine Ev.step (fun k=>by rw [qb.l0]) ?_;rw [gz];refine Ev.pos (by omega) (Ev.pos (by omega) (Ev.pos (by rw [Zg];omega) (Ev.bind (Ev.here hE) (Ev.bind hc (Ev.neg hgt ?_)))));refine Ev.step (fun k=>by rw [qb.j1]) ?_;exact Ev.neg (by simp) (start _ _ e1)
   ·rw [e2 z,split z];exact ⟨fun h=>⟨h.1,low z h.2.1 (fun _=>by have:=h.1;omega) h.2.2.1,h.2.2.2⟩,fun h=>⟨h.1,high z h.2.1,h.2.1.2,h.2.2⟩⟩
end
theorem YH (l0:List Int) (p v s:Int) (bs:List Ce) (h0:l0.length ≤ 1048576) (hl:bs.length ≤ 1048576) (ht:Ld bs ≤ 1048576) :
  ∃ r:Int,Ev (fun k=>qb.f k l0 p v s bs) r∧Ev (fun k=>We.f k l0 p v s bs) r:=by
 by_cases hok:Wl l0 p v s bs=true
 ·have hh:=vz (Hy hok).1;obtain ⟨n,rfl⟩:∃ n:Nat,s=(n:Int):=⟨s.toNat,by omega⟩;have hO:=nT hok ht;obtain ⟨w,e1,e2⟩:=SJ l0 p v hO bs.length 0 0 (by omega)
  have hw:w=vC bs n:=by
   have h1:=(tH hO w).2 (by have:=(e2 w).1 (Int.le_refl _);exact ⟨this.1,fun j hj=>this.2 j (Nat.zero_le _) hj⟩);have h2:=(e2 (vC bs n)).2 (by have:=(tH hO (vC bs n)).1 (Int.le_refl _);exact ⟨this.1,fun j _ hj=>this.2 j hj⟩);omega
  refine ⟨vC bs n,?_,?_⟩
  ·unfold qb.f;rw [← hw];exact Ev.bind (SC h0 hl ht) (Ev.pos hok (Ev.bind (MJ l0 p v hO) e1))
  ·unfold We.f;refine Ev.bind (QC h0 hl ht) (Ev.pos hok ?_);rw [if_pos ⟨by omega,by rw [Int.toNat_natCast];exact hO⟩,Int.toNat_natCast];exact Ev.now _
 ·refine ⟨-1,?_,?_⟩
  ·unfold qb.f;exact Ev.bind (SC h0 hl ht) (Ev.neg hok (Ev.now _))
  ·unfold We.f;exact Ev.bind (QC h0 hl ht) (Ev.neg hok (Ev.now _))
end Go.Proofs.Ytkigbdceceeenaa.P
end
section
namespace Go.Proofs.Ytkigbdceceeenaa.P
open Go.RowKit Go.Proofs.Oa.Wb Go.Proofs.Oa.Vd Go.Proofs.Oa.Xe
set_option linter.unusedVariables false
set_option linter.unusedSimpArgs false
attribute [local go_sem] bh Gh Ki Cj Mg Lg Hh Fh
def ng.l0:Nat→List Int→Int→Int→Option (Int × List Int)
 | 0,_,_,_=>none
 | k + 1,x0,x1,x5=>if x5 < (x0.length:Int) then (if 0 ≤ x5 then (ng.l0 k (x0.set (x5:Int).toNat x1) (wrap64 (x1 + 1)) (wrap64 (x5 + 1))) else (none)) else (some (x1,x0))
def ng.f (k:Nat) (l0:List Int) (a1:Int):Option (Int × List Int):=ng.l0 k l0 a1 0
def Lf.l0:Nat→Int→ByteArray→Option (ByteArray)
 | 0,_,_=>none
 | k + 1,x0,x3=>if x0 > 0 then ((some (([(wrap64 (48 + (Int.tmod x0 10))) % 256]:List Int):List Int)).bind fun Om=>(if (strOfNums Om).size + x3.size ≤ 9223372036854775807 then (Lf.l0 k (wrap64 (Int.tdiv x0 10)) ((strOfNums Om) ++ x3)) else (none))) else (if 1 + x3.size ≤ 9223372036854775807 then (some ((⟨#[109]⟩:ByteArray) ++ x3)) else (none))
def Lf.f (k:Nat) (a0:Int):Option (ByteArray):=if a0 ≤ 0 then (some (⟨#[109,48]⟩:ByteArray)) else (Lf.l0 k a0 (⟨#[]⟩:ByteArray))
def Nf.l0:Nat→List (Rf)→Int→Int→Option (Int × (List (Rf)))
 | 0,_,_,_=>none
 | k + 1,x0,x1,x5=>if x5 < (x0.length:Int) then (if 0 ≤ x5 then ((some (x0.set (x5:Int).toNat (⟨x1,(Ta x0 x5).f1,(Ta x0 x5).f2,(Ta x0 x5).f3,(Ta x0 x5).f4,(Ta x0 x5).f5,(Ta x0 x5).f6⟩:Rf):List (Rf))).bind fun Om=>((some (Om.set (x5:Int).toNat (⟨(Ta Om x5).f0,wrap64 (x1 + 1),(Ta Om x5).f2,(Ta Om x5).f3,(Ta Om x5).f4,(Ta Om x5).f5,(Ta Om x5).f6⟩:Rf):List (Rf))).bind fun Te=>((some (Te.set (x5:Int).toNat (⟨(Ta Te x5).f0,(Ta Te x5).f1,wrap64 ((wrap64 (x1 + 1)) + 1),(Ta Te x5).f3,(Ta Te x5).f4,(Ta Te x5).f5,(Ta Te x5).f6⟩:Rf):List (Rf))).bind fun Kv=>((some (Kv.set (x5:Int).toNat (⟨(Ta Kv x5).f0,(Ta Kv x5).f1,(Ta Kv x5).f2,wrap64 ((wrap64 ((wrap64 (x1 + 1)) + 1)) + 1),(Ta Kv x5).f4,(Ta Kv x5).f5,(Ta Kv x5).f6⟩:Rf):List (Rf))).bind fun EI=>((some (EI.set (x5:Int).toNat (⟨(Ta EI x5).f0,(Ta EI x5).f1,(Ta EI x5).f2,(Ta EI x5).f3,wrap64 ((wrap64 ((wrap64 ((wrap64 (x1 + 1)) + 1)) + 1)) + 1),(Ta EI x5).f5,(Ta EI x5).f6⟩:Rf):List (Rf))).bind fun Ag=>((some (Ag.set (x5:Int).toNat (⟨(Ta Ag x5).f0,(Ta Ag x5).f1,(Ta Ag x5).f2,(Ta Ag x5).f3,(Ta Ag x5).f4,wrap64 ((wrap64 ((wrap64 ((wrap64 ((wrap64 (x1 + 1)) + 1)) + 1)) + 1)) + 1),(Ta Ag x5).f6⟩:Rf):List (Rf))).bind fun Xk=>((Lf.f k (wrap64 ((wrap64 ((wrap64 ((wrap64 ((wrap64 ((wrap64 (x1 + 1)) + 1)) + 1)) + 1)) + 1)) + 1))).bind fun t107=>(Nf.l0 k (Xk.set (x5:Int).toNat (⟨(Ta Xk x5).f0,(Ta Xk x5).f1,(Ta Xk x5).f2,(Ta Xk x5).f3,(Ta Xk x5).f4,(Ta Xk x5).f5,t107⟩:Rf)) (wrap64 ((wrap64 ((wrap64 ((wrap64 ((wrap64 ((wrap64 ((wrap64 (x1 + 1)) + 1)) + 1)) + 1)) + 1)) + 1)) + 1)) (wrap64 (x5 + 1)))))))))) else (none)) else (some (x1,x0))
def Nf.f (k:Nat) (l0:List (Rf)) (a1:Int):Option (Int × (List (Rf))):=Nf.l0 k l0 a1 0
def zi.f (k:Nat):List Ce→Int→Option (Int × List Ce)
 | [],a=>some (a,[])
 | x :: l,a=>(Nf.f k x.f0 a).bind fun t=>(zi.f k l (wrap64 (wrap64 (wrap64 (wrap64 (t.1 + 1) + 1) + 1) + 1))).bind fun u=>some (u.1,⟨t.2,t.1,wrap64 (t.1 + 1),wrap64 (wrap64 (t.1 + 1) + 1),wrap64 (wrap64 (wrap64 (t.1 + 1) + 1) + 1)⟩ :: u.2)
def Fo.f (k:Nat) (Pa:List Int) (Ka:Int) (Ga:Int) (Ia:Int) (Da:List Ce) (a1:Int):Option (Int × List Int × List Ce):=(ng.f k Pa a1).bind fun t=>(zi.f k Da t.1).bind fun u=>some (u.1,t.2,u.2)
theorem TH (l:List Int) (m:Int) (hm:0 ≤ m) (hl:m + l.length ≤ 4611686018427387904):Ev (fun k=>ng.f k l m) (m + l.length,iota m l.length):=by
 have key:=Xl (r:=(m + (l.length:Int),iota m l.length)) (n:=l.length) (fun i=>Ev (fun k=>ng.l0 k ((iota m l.length).take i ++ l.drop i) (m + i) (i:Int)) (m + (l.length:Int),iota m l.length)) ?_ ?_ 0 (by omega)
 ·refine Ev.congr (fun k=>?_) key;unfold ng.f;simp
 ·refine Ev.step (fun k=>by rw [ng.l0]) ?_;refine Ev.neg (by simp [Qm]) ?_;rw [List.drop_length,List.append_nil,List.take_of_length_le (by rw [Qm];omega)];exact Ev.now _
 ·intro i hi h;refine Ev.step (fun k=>by rw [ng.l0]) ?_;refine Ev.pos (by simp [Qm];omega) (Ev.pos (by omega) ?_);have h1:m + (i:Int)=(iota m l.length).getD i 0:=(RO hi).symm;rw [Ee hi (by omega),ah (by omega) (by omega),Int.toNat_natCast];rw [show ((iota m l.length).take i ++ l.drop i).set i (m + (i:Int))=(iota m l.length).take (i + 1) ++ l.drop (i + 1) from by rw [h1];exact nH (by rw [Qm]) (by rw [Qm];exact hi)];rw [show m + (i:Int) + 1=m + ((i + 1:Nat):Int) from by omega];exact h
theorem vv (a:Int):(strOfNums [a]).size=1:=by
 simp [strOfNums]
 rfl
theorem RE (n:Int) (hn:n ≤ 4611686018427387904):∃ t,Ev (fun k=>Lf.f k n) t:=by
 have key:∀ (d:Nat) (x:Int) (s:ByteArray),0 ≤ x→x < (10 ^ d:Nat)→x ≤ 4611686018427387904→s.size + d ≤ 1000000→∃ t,Ev (fun k=>Lf.l0 k x s) t:=by
  intro d
  induction d with
  | zero =>
   intro x s h0 h1 _ hs;have h1':x < 1:=h1;refine ⟨_,Ev.step (fun k=>by rw [Lf.l0]) (Ev.neg (by omega) (Ev.pos (by omega) (Ev.now _)))⟩
  | succ d ih =>
   intro x s h0 h1 h2 hs
   by_cases hx:x > 0
   ·have e1:Int.tdiv x 10=x / 10:=Int.tdiv_eq_ediv_of_nonneg h0;have e2:wrap64 (x / 10)=x / 10:=ah (by omega) (by omega)
    have h1':x / 10 < (10 ^ d:Nat):=by
     have:((10 ^ (d + 1):Nat):Int)=(10 ^ d:Nat) * 10:=by rw [Nat.pow_succ];simp
     rw [this] at h1;omega
    obtain ⟨t,ht⟩:=ih (x / 10) (strOfNums [(wrap64 (48 + (Int.tmod x 10))) % 256] ++ s) (by omega) h1' (by omega) (by rw [ByteArray.size_append,vv];omega);refine ⟨t,Ev.step (fun k=>by rw [Lf.l0]) (Ev.pos hx ?_)⟩;simp only [Option.bind_some];refine Ev.pos (by rw [vv];omega) ?_;rw [e1,e2];exact ht
   ·exact ⟨_,Ev.step (fun k=>by rw [Lf.l0]) (Ev.neg hx (Ev.pos (by omega) (Ev.now _)))⟩
 unfold Lf.f
 by_cases h:n ≤ 0
 ·exact ⟨_,Ev.pos h (Ev.now _)⟩
 ·obtain ⟨t,ht⟩:=key 19 n ⟨#[]⟩ (by omega) (by omega) hn (by decide);exact ⟨t,Ev.neg h ht⟩
def Jh (T:Nat→ByteArray) (m:Int) (n:Nat):List Rf:=(List.range n).map fun (j:Nat)=>(⟨m + 7 * (j:Int),m + 7 * (j:Int) + 1,m + 7 * (j:Int) + 2,m + 7 * (j:Int) + 3,m + 7 * (j:Int) + 4,m + 7 * (j:Int) + 5,T j⟩:Rf)
theorem Ih (T:Nat→ByteArray) (m:Int) (n:Nat):(Jh T m n).length=n:=by simp [Jh]
theorem FC {T:Nat→ByteArray} {m:Int} {n j:Nat} (h:j < n):(Jh T m n).getD j XD=(⟨m + 7 * (j:Int),m + 7 * (j:Int) + 1,m + 7 * (j:Int) + 2,m + 7 * (j:Int) + 3,m + 7 * (j:Int) + 4,m + 7 * (j:Int) + 5,T j⟩:Rf):=by simp [Jh,List.getD_eq_getElem?_getD,h]
theorem JE {x:List Rf} {i:Nat} (h:i < x.length) (a:Rf):Ta (x.set i a) (i:Int)=a:=by
 simp [Ta,List.getD_eq_getElem?_getD,h]
theorem R2 {a:Int} (h0:0 ≤ a) (h1:a + 7 ≤ 4611686018427387904):wrap64 (a + 1)=a + 1∧wrap64 (a + 1 + 1)=a + 2∧wrap64 (a + 2 + 1)=a + 3∧wrap64 (a + 3 + 1)=a + 4∧wrap64 (a + 4 + 1)=a + 5∧wrap64 (a + 5 + 1)=a + 6∧wrap64 (a + 6 + 1)=a + 7:=by
 refine ⟨?_,?_,?_,?_,?_,?_,?_⟩
 all_goals
  rw [ah (by omega) (by omega)]
  try omega
def yP (l:List Ce):Nat:=(l.map fun x=>7 * x.f0.length + 4).sum
theorem zC (x:Ce) (l:List Ce):yP (x :: l)=7 * x.f0.length + 4 + yP l:=by simp [yP]
theorem T2 {a:Int} (h0:0 ≤ a) (h1:a + 4 ≤ 4611686018427387904):wrap64 (a + 1)=a + 1∧wrap64 (a + 1 + 1)=a + 2∧wrap64 (a + 2 + 1)=a + 3∧wrap64 (a + 3 + 1)=a + 4:=by
 refine ⟨?_,?_,?_,?_⟩
 all_goals
  rw [ah (by omega) (by omega)]
  try omega
theorem OD (l:List Rf) (m:Int) (hm:0 ≤ m) (hl:m + 7 * l.length ≤ 4611686018427387904):∃ ms:List Rf,Ev (fun k=>Nf.f k l m) (m + 7 * l.length,ms):=by
 have hT:∀ j:Nat,∃ t,j < l.length→Ev (fun k=>Lf.f k (m + 7 * (j:Int) + 6)) t:=by
  intro j
  by_cases hj:j < l.length
  ·obtain ⟨t,ht⟩:=RE (m + 7 * (j:Int) + 6) (by omega);exact ⟨t,fun _=>ht⟩
  ·exact ⟨⟨#[]⟩,fun h=>absurd h hj⟩
 obtain ⟨T,hT⟩:=Classical.axiomOfChoice hT;refine ⟨Jh T m l.length,?_⟩
 ·have key:=Xl (r:=(m + 7 * (l.length:Int),Jh T m l.length)) (n:=l.length) (fun i=>Ev (fun k=>Nf.l0 k ((Jh T m l.length).take i ++ l.drop i) (m + 7 * i) (i:Int)) (m + 7 * (l.length:Int),Jh T m l.length)) ?_ ?_ 0 (by omega)
  ·refine Ev.congr (fun k=>?_) key;unfold Nf.f;simp
  ·refine Ev.step (fun k=>by rw [Nf.l0]) ?_;refine Ev.neg (by simp [Ih]) ?_;rw [List.drop_length,List.append_nil,List.take_of_length_le (by rw [Ih];omega)];exact Ev.now _
  ·intro i hi h;have hlen:((Jh T m l.length).take i ++ l.drop i).length=l.length:=by simp [Ih];omega
   have mY:=nH (m:=Jh T m l.length) (l:=l) (z:=XD) (i:=i) (by rw [Ih]) (by rw [Ih];exact hi);rw [FC hi] at mY;generalize hx:(Jh T m l.length).take i ++ l.drop i=x at hlen mY ⊢;refine Ev.step (fun k=>by rw [Nf.l0]) ?_;refine Ev.pos (by omega) (Ev.pos (by omega) ?_);simp only [Int.toNat_natCast,Option.bind_some];have hi1:i < x.length:=by omega
   simp only [JE hi1,List.set_set];obtain ⟨w1,w2,w3,w4,w5,w6,w7⟩:=R2 (a:=m + 7 * (i:Int)) (by omega) (by omega);simp only [w1,w2,w3,w4,w5,w6,w7];refine Ev.bind (hT i hi) ?_;rw [Ee hi (by omega),show m + 7 * (i:Int) + 7=m + 7 * ((i + 1:Nat):Int) from by omega,mY];exact h
theorem QD (l:List Ce):∀ (m:Int),0 ≤ m→m + yP l ≤ 4611686018427387904→∃ ms:List Ce,Ev (fun k=>zi.f k l m) (m + yP l,ms):=by
 induction l with
 | nil =>
  intro m hm hl;refine ⟨[],?_⟩;unfold zi.f;simp only [yP,List.map_nil,List.sum_nil,Int.natCast_zero,Int.add_zero];exact Ev.now _
 | cons x l ih =>
  intro m hm hl;rw [zC] at hl;obtain ⟨c,c1⟩:=OD x.f0 m hm (by omega);obtain ⟨ms,m1⟩:=ih (m + 7 * x.f0.length + 4) (by omega) (by omega);obtain ⟨w1,w2,w3,w4⟩:=T2 (a:=m + 7 * (x.f0.length:Int)) (by omega) (by omega);have hv:m + ((7 * x.f0.length + 4 + yP l:Nat):Int)=m + 7 * (x.f0.length:Int) + 4 + yP l:=by omega
  rw [zC,hv];refine ⟨⟨c,m + 7 * x.f0.length,m + 7 * x.f0.length + 1,m + 7 * x.f0.length + 2,m + 7 * x.f0.length + 3⟩ :: ms,?_⟩;unfold zi.f;refine Ev.bind c1 ?_;simp only [w1,w2,w3,w4];exact Ev.bind m1 (Ev.now _)
theorem PD (l0:List Int) (p v s:Int) (l4:List Ce) (m:Int) (hm:0 ≤ m) (hl:m + l0.length + yP l4 ≤ 4611686018427387904):∃ ms:List Ce,Ev (fun k=>Fo.f k l0 p v s l4 m) (m + l0.length + yP l4,iota m l0.length,ms):=by
 obtain ⟨ms,m1⟩:=QD l4 (m + l0.length) (by omega) (by omega);refine ⟨ms,?_⟩;unfold Fo.f;exact Ev.bind (TH l0 m hm (by omega)) (Ev.bind m1 (Ev.now _))
theorem VX (l:List Ce):yP l ≤ 7 * Ld l + 4 * l.length:=by
 induction l with
 | nil=>simp [yP]
 | cons x l ih =>
  have:Ld (x :: l)=x.f0.length + Ld l:=by simp [Ld]
  rw [zC,this,List.length_cons];omega
theorem KI (l:List Xv):Ld (l.map Mf) ≤ OX l:=by
 unfold Ld OX;rw [List.map_map]
 have:∀ l:List Xv,(l.map ((fun (x:Ce)=>x.f0.length) ∘ Mf)).sum ≤ (l.map fun x=>tO x.f0).sum:=by
  intro l
  induction l with
  | nil=>simp
  | cons a l ih =>
   rw [List.map_cons,List.map_cons,List.sum_cons,List.sum_cons]
   have:((fun (x:Ce)=>x.f0.length) ∘ Mf) a ≤ tO a.f0:=by
    simp [Mf,tO]
   omega
 have:=this l;omega
theorem IJ (x:C2) (hf:eR x):∃ t:Int,Ev (fun k=>Cg.f k x.f0 x.f1 x.f2 x.f3 x.f4 1048576) t∧(¬ t < 0→x.f0.length ≤ 1048576∧(x.f4.map Mf).length ≤ 1048576∧Ld (x.f4.map Mf) ≤ 1048576 ∧
  Ev (fun k=>xd.f k x.f0 x.f1 x.f2 x.f3 x.f4) (x.f0,x.f1,x.f2,x.f3,x.f4.map Mf)∧Ev (fun k=>bf.f k x.f0 x.f1 x.f2 x.f3 (x.f4.map Mf) x.f0 x.f1 x.f2 x.f3 (x.f4.map Mf)) true ∧
  ∃ M:Int × List Int × List Ce,Ev (fun k=>Fo.f k x.f0 x.f1 x.f2 x.f3 (x.f4.map Mf) 1) M∧0 ≤ M.1∧M.1 ≤ 4398046511104):=by
 obtain ⟨h0,_,_,_,h4⟩:=hf;obtain ⟨t,e1,e2,e3⟩:=LJ x.f0 x.f1 x.f2 x.f3 x.f4 1048576 (by omega) (by omega) h0.1 h4.1 (fun y hy=>⟨(h4.2 y hy).1.1,fun z hz=>((h4.2 y hy).1.2 z hz).2.2.2.2.2.2⟩);refine ⟨t,e1,fun ht=>?_⟩;have e:=e3 (by omega);obtain ⟨hb4,hbc⟩:=mH (l:=x.f4) (n:=1048576) (by omega);have hl:(x.f4.map Mf).length ≤ 1048576:=by rw [List.length_map];exact hb4
 have hst:=KI x.f4;have hm:=VX (x.f4.map Mf);obtain ⟨ms,m1⟩:=PD x.f0 x.f1 x.f2 x.f3 (x.f4.map Mf) 1 (by omega) (by omega)
 exact ⟨by omega,hl,by omega,KJ x.f0 x.f1 x.f2 x.f3 x.f4 (by omega) hb4 hbc,NJ x.f0 x.f1 x.f2 x.f3 (x.f4.map Mf) (by omega) (by omega) (fun y hy=>by
  have:=QN _ _ hy
  omega),_,m1,by simp only;omega,by simp only;omega⟩
theorem vu (x:C2) (hf:eR x):∃ k,Uf.f k x.f0 x.f1 x.f2 x.f3 x.f4=some true:=by
 obtain ⟨t,e1,e2⟩:=IJ x hf;refine Ev.rounds (g:=fun k=>Uf.f k x.f0 x.f1 x.f2 x.f3 x.f4) ?_;unfold Uf.f;refine Ev.bind e1 ?_
 by_cases ht:t < 0
 ·exact Ev.pos ht (Ev.now _)
 refine Ev.neg ht ?_;obtain ⟨h0,hl,hst,hT,hq,⟨M1,M2,M3⟩,hM,hM0,_⟩:=e2 ht;obtain ⟨r,r1,r2⟩:=YH x.f0 x.f1 x.f2 x.f3 (x.f4.map Mf) h0 hl hst;exact Ev.bind hT (Ev.bind r1 (Ev.bind hT (Ev.bind r2 (Ev.pos rfl (Ev.bind hT (Ev.bind hq (Ev.pos rfl (Ev.now _))))))))
end Go.Proofs.Ytkigbdceceeenaa.P
end
