import Derived.Test.YtmifdccaajngcaaQFold1
import Derived.Test.YtmifdccaajngcaaQFold8
import Derived.Test.YtmifdccaajngcaaQFold9
import Derived.Test.YtmifdccaajngcaaQFold2
import Derived.Test.YtmifdccaajngcaaQFold3
import Derived.Test.YtmifdccaajngcaaQFold5
import Derived.Shelf.Abstract
import Derived.Outline
import Derived.RegionTactic
import Derived.Test.YtmifdccaajngcaaQFold7
import Derived.OpenShut
set_option maxHeartbeats 8000000
set_option maxRecDepth 100000
section
namespace Go.Proofs.Ytmifdccaajngcaa.P
open Go.RowKit Go.Proofs.Ka.Rb Go.Proofs.Ka.Vd Go.Proofs.Ka.ef
set_option linter.unusedVariables false
set_option linter.unusedSimpArgs false
def uI (n:Nat) (kn:List Bool) (vs:List Int) (f:Int→Option Int):Prop :=
 kn.length=n∧vs.length=n∧∀ q:Int,0 ≤ q→q < n→Ah false kn q=(f q).isSome∧∀ v,f q=some v→rd vs q=v
theorem uI.set {n:Nat} {kn:List Bool} {vs:List Int} {f f':Int→Option Int} (h:uI n kn vs f) (d v:Int) (b:Bool) (h0:0 ≤ d) (h1:d < (n:Int)) (hd:f' d=if b=true then some v else none) (hf:∀ q,¬ q=d→f' q=f q):uI n (kn.set d.toNat b) (vs.set d.toNat v) f':=by
 obtain ⟨h2,h3,h4⟩:=h;refine ⟨by rw [List.length_set];exact h2,by rw [List.length_set];exact h3,fun q q0 q1=>?_⟩
 by_cases e:q=d
 ·subst e;unfold Ah rd;have k2:(kn.set q.toNat b).getD q.toNat false=b:=by rw [List.getD_eq_getElem?_getD,List.getElem?_set_self (by omega)];rfl
  have k3:(vs.set q.toNat v).getD q.toNat 0=v:=by rw [List.getD_eq_getElem?_getD,List.getElem?_set_self (by omega)];rfl
  rw [k2,k3,hd];cases b with
  | true=>exact ⟨rfl,fun u hu=>by injection hu⟩
  | false=>exact ⟨rfl,fun u hu=>by cases hu⟩
 ·have hne:d.toNat ≠ q.toNat:=by omega
  have k2:Ah false (kn.set d.toNat b) q=Ah false kn q:=by
   unfold Ah;rw [List.getD_eq_getElem?_getD,List.getElem?_set_ne hne,← List.getD_eq_getElem?_getD]
  have k3:rd (vs.set d.toNat v) q=rd vs q:=by
   unfold rd;rw [List.getD_eq_getElem?_getD,List.getElem?_set_ne hne,← List.getD_eq_getElem?_getD]
  rw [k2,k3,hf q e];exact h4 q q0 q1
theorem VH (n:Nat) (kn:List Bool) (vs:List Int) (f:Int→Option Int) (x:ue) (h:uI n kn vs f) (hx:GX (n:Int) x=true) :
  ∃ Tw vs',Ev (fun k=>Fb.f k x.f0 x.f1 x.f2 x.f3 x.f4 x.f5 x.f6 kn vs) ((Xg f x).f0,(Xg f x).f1,(Xg f x).f2,(Xg f x).f3,(Xg f x).f4,(Xg f x).f5,(Xg f x).f6,Tw,vs')∧uI n Tw vs' (Fk f (Xg f x)):=by
 obtain ⟨⟨c1,c2,c3,_⟩,_⟩:=kE.1 hx;obtain ⟨l1,l2,hk⟩:=h
 have tail:∀ y:ue,y.f0=x.f0 ∨ y.f0=0∧¬ x.f0=4∧¬ x.f0=6→y.f1=x.f1→∃ Tw vs',Ev (fun k=>(uf.f y.f0 y.f1 y.f2 y.f3 y.f4 y.f5 y.f6).bind fun t=>if t=true then (if 0 ≤ y.f1 then (if y.f1 < (kn.length:Int) then (if y.f1 < (vs.length:Int) then (some (y.f0,y.f1,y.f2,y.f3,y.f4,y.f5,y.f6,kn.set (y.f1:Int).toNat (y.f0 == 0),vs.set (y.f1:Int).toNat y.f5)) else none) else none) else none) else some (y.f0,y.f1,y.f2,y.f3,y.f4,y.f5,y.f6,kn,vs)) (y.f0,y.f1,y.f2,y.f3,y.f4,y.f5,y.f6,Tw,vs')∧uI n Tw vs' (Fk f y):=by
  intro y h0 h1
  by_cases hd:¬ y.f0=4∧¬ y.f0=6
  ·have Zm:¬ x.f0=4∧¬ x.f0=6:=by omega
   obtain ⟨d0,d1⟩:=c3 Zm;refine ⟨kn.set (y.f1).toNat (y.f0 == 0),vs.set (y.f1).toNat y.f5,?_,?_⟩
   ·refine Ev.bind (fQ y) ?_;rw [decide_eq_true hd];exact Ev.pos rfl (Ev.pos (by omega) (Ev.pos (by omega) (Ev.pos (by omega) (Ev.now _))))
   ·have hm:Th y=y.f1:=by unfold Th;rw [if_neg hd.1,if_neg hd.2]
    refine uI.set ⟨l1,l2,hk⟩ y.f1 y.f5 (y.f0 == 0) (by omega) (by omega) ?_ ?_
    ·unfold Fk;rw [hm];simp only [if_neg (show ¬ y.f1 < 0 by omega)]
     by_cases hz:y.f0=0
     ·rw [if_pos hz];simp [Mp,hz]
     ·rw [if_neg hz];simp [Mp,hz]
    ·intro q hq;unfold Fk;rw [hm];simp only [if_neg (show ¬ y.f1 < 0 by omega)]
     by_cases hz:y.f0=0
     ·rw [if_pos hz];simp [Mp,hq]
     ·rw [if_neg hz];simp [Mp,hq]
  ·refine ⟨kn,vs,?_,?_⟩
   ·refine Ev.bind (fQ y) ?_;rw [decide_eq_false hd];exact Ev.neg (by simp) (Ev.now _)
   ·have hm:Th y < 0:=by
     unfold Th
     by_cases h4:y.f0=4
     ·rw [if_pos h4];omega
     ·rw [if_neg h4,if_pos (by omega)];omega
    unfold Fk;rw [if_neg (by omega),if_pos hm];exact ⟨l1,l2,hk⟩
 have j1F:Xg f x=x→∃ Tw vs',Ev (fun k=>Fb.j1 k kn vs false x.f0 x.f1 x.f2 x.f3 x.f4 x.f5 x.f6) ((Xg f x).f0,(Xg f x).f1,(Xg f x).f2,(Xg f x).f3,(Xg f x).f4,(Xg f x).f5,(Xg f x).f6,Tw,vs')∧uI n Tw vs' (Fk f (Xg f x)):=by
  intro e;rw [e];obtain ⟨Tw,vs',t1,t2⟩:=tail x (Or.inl rfl) rfl;exact ⟨Tw,vs',Ev.step (fun k=>by rw [Fb.j1]) (Ev.neg (by simp) t1),t2⟩
 unfold Fb.f
 by_cases o1:x.f0=1
 ·obtain ⟨a0,a1⟩:=c1 (Or.inl o1);obtain ⟨e1,e2⟩:=hk x.f2 a0 a1;cases hf:f x.f2 with
  | some v =>
   have e:Xg f x=(⟨0,x.f1,0,0,0,v,⟨#[]⟩⟩:ue):=by unfold Xg;rw [if_pos ⟨o1,by rw [hf];rfl⟩,hf];rfl
   obtain ⟨Tw,vs',t1,t2⟩:=tail (⟨0,x.f1,0,0,0,v,⟨#[]⟩⟩:ue) (Or.inr ⟨rfl,by omega,by omega⟩) rfl;rw [e];refine ⟨Tw,vs',Ev.pos o1 (Ev.pos a0 (Ev.pos (by omega) ?_)),t2⟩;refine Ev.step (fun k=>by rw [Fb.j0]) (Ev.pos (by rw [e1,hf];rfl) (Ev.pos a0 (Ev.pos (by omega) ?_)));rw [e2 v hf];exact t1
  | none =>
   have e:Xg f x=x:=by unfold Xg;rw [if_neg (by rw [hf];simp),if_neg (by omega)]
   obtain ⟨Tw,vs',t1,t2⟩:=j1F e;refine ⟨Tw,vs',Ev.pos o1 (Ev.pos a0 (Ev.pos (by omega) ?_)),t2⟩;refine Ev.step (fun k=>by rw [Fb.j0]) (Ev.neg (by rw [e1,hf];simp) (Ev.neg (by omega) t1))
 ·by_cases o2:x.f0=2
  ·obtain ⟨a0,a1⟩:=c1 (Or.inr o2);obtain ⟨b0,b1⟩:=c2 o2;obtain ⟨e1,e2⟩:=hk x.f2 a0 a1;obtain ⟨e3,e4⟩:=hk x.f3 b0 b1;cases hf:f x.f2 with
   | some v =>
    cases hg:f x.f3 with
    | some u =>
     have e:Xg f x=(⟨0,x.f1,0,0,0,NA x.f6 v u,⟨#[]⟩⟩:ue):=by unfold Xg;rw [if_neg (by omega),if_pos ⟨o2,by rw [hf];rfl,by rw [hg];rfl⟩,hf,hg];rfl
     obtain ⟨Tw,vs',t1,t2⟩:=tail (⟨0,x.f1,0,0,0,NA x.f6 v u,⟨#[]⟩⟩:ue) (Or.inr ⟨rfl,by omega,by omega⟩) rfl;rw [e];refine ⟨Tw,vs',Ev.neg o1 ?_,t2⟩;refine Ev.step (fun k=>by rw [Fb.j0]) (Ev.neg (by simp) (Ev.pos o2 (Ev.pos a0 (Ev.pos (by omega) (Ev.pos (by rw [e1,hf];rfl) (Ev.pos b0 (Ev.pos (by omega) ?_)))))));refine Ev.step (fun k=>by rw [Fb.j1]) (Ev.pos (by rw [e3,hg];rfl) (Ev.pos a0 (Ev.pos (by omega) (Ev.pos b0 (Ev.pos (by omega) ?_)))));rw [e2 v hf,e4 u hg];exact Ev.bind (Ev.here (Rz _ _ _)) t1
    | none =>
     have e:Xg f x=x:=by unfold Xg;rw [if_neg (by omega),if_neg (by rw [hg];simp)]
     obtain ⟨Tw,vs',t1,t2⟩:=j1F e;refine ⟨Tw,vs',Ev.neg o1 ?_,t2⟩;refine Ev.step (fun k=>by rw [Fb.j0]) (Ev.neg (by simp) (Ev.pos o2 (Ev.pos a0 (Ev.pos (by omega) (Ev.pos (by rw [e1,hf];rfl) (Ev.pos b0 (Ev.pos (by omega) ?_)))))));rw [e3,hg];exact t1
   | none =>
    have e:Xg f x=x:=by unfold Xg;rw [if_neg (by omega),if_neg (by rw [hf];simp)]
    obtain ⟨Tw,vs',t1,t2⟩:=j1F e;refine ⟨Tw,vs',Ev.neg o1 ?_,t2⟩;exact Ev.step (fun k=>by rw [Fb.j0]) (Ev.neg (by simp) (Ev.pos o2 (Ev.pos a0 (Ev.pos (by omega) (Ev.neg (by rw [e1,hf];simp) t1)))))
  ·have e:Xg f x=x:=by unfold Xg;rw [if_neg (by omega),if_neg (by omega)]
   obtain ⟨Tw,vs',t1,t2⟩:=j1F e;refine ⟨Tw,vs',Ev.neg o1 ?_,t2⟩;exact Ev.step (fun k=>by rw [Fb.j0]) (Ev.neg (by simp) (Ev.neg o2 t1))
theorem nM (n:Nat) (kn:List Bool) (vs:List Int) (f:Int→Option Int) (x:ue) (Mn Ln:Nat→Prop) (u1 u2:Value) (w0 w:World) (hB:Below w0.heap.size w0 w) (ho1:Kd.R Kd.bool 4 w w0.heap.size Mn u1 kn) (wS:Kd.R (Kd.int .i64) 3 w w0.heap.size Ln u2 vs) (h:uI n kn vs f) (hx:GX (n:Int) x=true) :
  Calls Try.prog 74 #[.agg #[.int .i64 x.f0,.int .i64 x.f1,.int .i64 x.f2,.int .i64 x.f3,.int .i64 x.f4,.int .i64 x.f5,.string x.f6],u1,u2] w fun e w'=>e = .returned (.agg #[.int .i64 (Xg f x).f0,.int .i64 (Xg f x).f1,.int .i64 (Xg f x).f2,.int .i64 (Xg f x).f3,.int .i64 (Xg f x).f4,.int .i64 (Xg f x).f5,.string (Xg f x).f6]) ∧
   ∃ Tw vs',uI n Tw vs' (Fk f (Xg f x))∧Kd.R Kd.bool 4 w' w0.heap.size (fun k_=>((Mn k_ ∨ Ln k_) ∨ w.heap.size ≤ k_)) u1 Tw∧Kd.R (Kd.int .i64) 3 w' w0.heap.size (fun k_=>((Mn k_ ∨ Ln k_) ∨ w.heap.size ≤ k_)) u2 vs'∧Below w0.heap.size w0 w'∧Kept w w' (fun k_=>Mn k_ ∨ Ln k_):=by
 obtain ⟨Tw,vs',he,hk⟩:=VH n kn vs f x h hx;obtain ⟨k,hk2⟩:=Ev.rounds he;refine (Fb.calls k _ _ _ _ _ _ _ Mn u1 kn Ln u2 vs _ _ _ _ _ _ _ _ _ w0 w hB ho1 wS hk2).mono ?_;rintro e w' ⟨h1,h2,h3,h4,h5⟩;exact ⟨h1,Tw,vs',hk,h2,h3,h4,h5⟩
structure xE (w0 w:World) (P_:Nat→Prop) (A:Option Addr) (n c:Nat) (Ak:Option Addr) (ns ck:Nat) (Av:Option Addr) (cv:Nat) (f:Int→Option Int) (xs:List ue) (W:World):Prop where
 s:w0.heap.size ≤ w.heap.size
 kv:∃ kn vs,uI ns kn vs f∧Kd.R Kd.bool 4 W w0.heap.size (fun k_=>w.heap.size ≤ k_) (.slice Ak ns ck) kn∧Kd.R (Kd.int .i64) 3 W w0.heap.size (fun k_=>w.heap.size ≤ k_) (.slice Av ns cv) vs
 x:Kd.R Di 70 W w0.heap.size (fun k_=>P_ k_∧k_ < w.heap.size) (.slice A n c) xs
 bl:Below w0.heap.size w0 W
 k:Kept w W P_
section
variable {w0 w W W2:World} {P_:Nat→Prop} {gb n c ns ck cv:Nat} {A Ak Av:Option Addr} {f f2:Int→Option Int} {xs:List ue}
theorem xE.below (h:xE w0 w P_ A n c Ak ns ck Av cv f xs W) (hb:Below W.heap.size W W2):xE w0 w P_ A n c Ak ns ck Av cv f xs W2:=by
 obtain ⟨kn,vs,h1,h2,h3⟩:=h.kv;exact ⟨h.s,⟨kn,vs,h1,Kd.Dc h2 hb,Kd.Dc h3 hb⟩,Kd.Dc h.x hb,Ra h.bl hb,h.k.below hb⟩
theorem xE.turn {kn2:List Bool} {vs2:List Int} (h:xE w0 w P_ A n c Ak ns ck Av cv f xs W) (hv:uI ns kn2 vs2 f2) (h1:Kd.R Kd.bool 4 W2 w0.heap.size (fun k_=>((w.heap.size ≤ k_ ∨ w.heap.size ≤ k_) ∨ W.heap.size ≤ k_)) (.slice Ak ns ck) kn2) (h2:Kd.R (Kd.int .i64) 3 W2 w0.heap.size (fun k_=>((w.heap.size ≤ k_ ∨ w.heap.size ≤ k_) ∨ W.heap.size ≤ k_)) (.slice Av ns cv) vs2) (hb:Below w0.heap.size w0 W2) (hk:Kept W W2 (fun k_=>w.heap.size ≤ k_ ∨ w.heap.size ≤ k_)):xE w0 w P_ A n c Ak ns ck Av cv f2 xs W2:=by
 have hle:=h.k.1;have hm:∀ k_,((w.heap.size ≤ k_ ∨ w.heap.size ≤ k_) ∨ W.heap.size ≤ k_)→w.heap.size ≤ k_:=fun k_ e=>by omega
 exact ⟨h.s,⟨kn2,vs2,hv,Kd.Tc h1 hm,Kd.Tc h2 hm⟩,Kd.Ql h.x hk (fun k_ e1 e2=>by have:=e1.2;omega),hb,h.k.yp hk (fun k_ e=>Or.inr (by omega))⟩
theorem xE.cells (h:xE w0 w P_ A n c Ak ns ck Av cv f xs W) (j:Nat) (hj:j < n):∃ gb,A=some ⟨gb,0,none⟩ ∧
  (∀ (q:Nat) (u:Value),[Value.int .i64 (Ia xs (j:Int)).f0,.int .i64 (Ia xs (j:Int)).f1,.int .i64 (Ia xs (j:Int)).f2,.int .i64 (Ia xs (j:Int)).f3,.int .i64 (Ia xs (j:Int)).f4,.int .i64 (Ia xs (j:Int)).f5,.string (Ia xs (j:Int)).f6][q]? = some u→W.cell? ⟨gb,j * 7 + q,none⟩=some u)∧∀ q,W.frozen? ⟨gb,j * 7 + q,none⟩=false:=by
 have hx:=h.x;obtain ⟨e1,_,hC⟩:=Kd.oc hx;obtain ⟨ad,e2,_⟩:=kf hC (j:Int) (by omega) (by omega);subst e2;obtain ⟨gb,rfl⟩:=Kd.CE hx;obtain ⟨cs,MM,hM,Aq,IP⟩:=Kd.Wi hx yq (j:Int) (by omega) (by omega);obtain rfl:=eA (Kd.Ig _ hM);simp only [Int.toNat_natCast,show Di.sz=7 from rfl] at Aq IP;exact ⟨gb,rfl,Aq,IP⟩
theorem xE.elem (h:xE w0 w P_ (some ⟨gb,0,none⟩) n c Ak ns ck Av cv f xs W) (j:Nat) (hj:j < n) (x:ue) (hx:Ia xs (j:Int)=x):W.cell? ⟨gb,j * 7,none⟩=some (.int .i64 x.f0)∧W.cell? ⟨gb,j * 7 + 1,none⟩=some (.int .i64 x.f1)∧W.cell? ⟨gb,j * 7 + 2,none⟩=some (.int .i64 x.f2)∧W.cell? ⟨gb,j * 7 + 3,none⟩=some (.int .i64 x.f3)∧W.cell? ⟨gb,j * 7 + 4,none⟩=some (.int .i64 x.f4)∧W.cell? ⟨gb,j * 7 + 5,none⟩=some (.int .i64 x.f5)∧W.cell? ⟨gb,j * 7 + 6,none⟩=some (.string x.f6):=by
 obtain ⟨gb',e,hc,hf⟩:=h.cells j hj;injection e with e
 injection e with e
 subst e hx;exact ⟨hc 0 _ rfl,hc 1 _ rfl,hc 2 _ rfl,hc 3 _ rfl,hc 4 _ rfl,hc 5 _ rfl,hc 6 _ rfl⟩
theorem xE.frozen (h:xE w0 w P_ (some ⟨gb,0,none⟩) n c Ak ns ck Av cv f xs W) (j:Nat) (hj:j < n):W.frozen? ⟨gb,j * 7,none⟩=false∧W.frozen? ⟨gb,j * 7 + 1,none⟩=false∧W.frozen? ⟨gb,j * 7 + 2,none⟩=false∧W.frozen? ⟨gb,j * 7 + 3,none⟩=false∧W.frozen? ⟨gb,j * 7 + 4,none⟩=false∧W.frozen? ⟨gb,j * 7 + 5,none⟩=false∧W.frozen? ⟨gb,j * 7 + 6,none⟩=false:=by
 obtain ⟨gb',e,_,hf⟩:=h.cells j hj;injection e with e
 injection e with e
 subst e;exact ⟨hf 0,hf 1,hf 2,hf 3,hf 4,hf 5,hf 6⟩
theorem xE.put (h:xE w0 w P_ (some ⟨gb,0,none⟩) n c Ak ns ck Av cv f xs W) (j:Nat) (hj:j < n) (x':ue) :
  xE w0 w P_ (some ⟨gb,0,none⟩) n c Ak ns ck Av cv f (xs.set j x') (((((((W.setCell ⟨gb,j * 7,none⟩ (.int .i64 x'.f0)).setCell ⟨gb,j * 7 + 1,none⟩ (.int .i64 x'.f1)).setCell ⟨gb,j * 7 + 2,none⟩ (.int .i64 x'.f2)).setCell ⟨gb,j * 7 + 3,none⟩ (.int .i64 x'.f3)).setCell ⟨gb,j * 7 + 4,none⟩ (.int .i64 x'.f4)).setCell ⟨gb,j * 7 + 5,none⟩ (.int .i64 x'.f5)).setCell ⟨gb,j * 7 + 6,none⟩ (.string x'.f6)):=by
 obtain ⟨gb',e,hc,_⟩:=h.cells j hj;injection e with e
 injection e with e
 subst e;have hs:=Kd.Oq h.x (j:Int) (by omega) (by omega) (seg:=[.int .i64 x'.f0,.int .i64 x'.f1,.int .i64 x'.f2,.int .i64 x'.f3,.int .i64 x'.f4,.int .i64 x'.f5,.string x'.f6]) (c:=[Value.int .i64 (Ia xs (j:Int)).f0,.int .i64 (Ia xs (j:Int)).f1,.int .i64 (Ia xs (j:Int)).f2,.int .i64 (Ia xs (j:Int)).f3,.int .i64 (Ia xs (j:Int)).f4,.int .i64 (Ia xs (j:Int)).f5,.string (Ia xs (j:Int)).f6]) (j:=0) rfl (fun q u hq=>by rw [Int.toNat_natCast];exact hc q u hq) (show 0 + 7 ≤ 7 by decide) (x':=x') (zk:=fun _=>False) (Uk _ _ _ x') (fun _ hk=>hk.elim);simp only [Int.toNat_natCast,show Di.sz=7 from rfl,Nat.add_zero] at hs;have hg:=h.x.1 gb rfl;have S5:=Kd.VA h.x gb rfl;have hle:=h.k.1;obtain ⟨kn,vs,h1,h2,h3⟩:=h.kv;exact ⟨h.s,⟨kn,vs,h1,Kd.Xo h2 hs.2 (fun k_ hk e=>by injection e with e;have:=hg.2;omega),Kd.Xo h3 hs.2 (fun k_ hk e=>by injection e with e;have:=hg.2;omega)⟩,hs.1,h.bl.grown hs.2 h.bl.size (fun k_ e=>by injection e with e;rw [← e];exact S5),Kept.Pg hs.2 h.k (fun k_ e=>Or.inl (by injection e with e;rw [← e];exact hg.1))⟩
theorem xE.at_ (h:xE w0 w P_ A n c Ak ns ck Av cv f xs W) (s:Int) (h0:0 ≤ s) (h1:s < (ns:Int)):∃ go gv v,Ak=some ⟨go,0,none⟩∧Av=some ⟨gv,0,none⟩∧W.cell? ⟨go,s.toNat,none⟩=some (.bool (f s).isSome)∧W.cell? ⟨gv,s.toNat,none⟩=some (.int .i64 v)∧((f s).isSome=true→(f s).getD 0=v):=by
 obtain ⟨kn,vs,⟨l1,l2,hk⟩,h2,h3⟩:=h.kv;obtain ⟨e1,_,hC⟩:=Kd.oc h2;obtain ⟨ad,e2,hx⟩:=Kd.Kw hC s h0 (by omega);subst e2;obtain ⟨go,rfl⟩:=Kd.CE h2;obtain ⟨e3,_,hD⟩:=Kd.oc h3;obtain ⟨ad,e4,hy⟩:=Kd.Ij hD s h0 (by omega);subst e4;obtain ⟨gv,rfl⟩:=Kd.CE h3;obtain ⟨k1,k2⟩:=hk s h0 h1;refine ⟨go,gv,rd vs s,rfl,rfl,?_,by simpa [add_plain] using hy,fun hs=>?_⟩
 ·rw [← k1]
  simpa [add_plain] using hx
 ·cases hf:f s with
  | none=>rw [hf] at hs;cases hs
  | some u=>rw [k2 u hf];rfl
end
theorem kG (n:Nat) (hn:n ≤ 1048576):Ev (fun k=>Ke.f k (n:Int)) (List.replicate n 0):=by
 unfold Ke.f;have key:=Fi (n:=n) (r:=List.replicate n (0:Int)) (fun i=>Ev (fun k=>Ke.l0 k (n:Int) (List.replicate i 0) (i:Int)) (List.replicate n 0)) ?_ ?_ 0 (Nat.zero_le _)
 ·exact key
 ·refine Ev.step (fun k=>by rw [Ke.l0]) (Ev.neg (by omega) (Ev.now _))
 ·intro i hi ih;rw [List.replicate_succ',← mg hi (by omega)] at ih;exact Ev.step (fun k=>by rw [Ke.l0]) (Ev.pos (by omega) (Ev.pos (by rw [List.length_replicate];omega) ih))
theorem gM (n:Nat) (w:World) (hn:n ≤ 1048576) :
  Calls Try.prog 73 #[.int .i64 (n:Int)] w fun e w'=>∃ Zs:Value,e = .returned (Zs)∧Kd.R (Kd.int .i64) 3 w' w.heap.size (fun _=>True) Zs (List.replicate n 0)∧Below w.heap.size w w':=by
 obtain ⟨k,hk⟩:=Ev.rounds (kG n hn);exact Ke.calls k _ _ w hk
theorem uI.none_ (n:Nat):uI n (List.replicate n false) (List.replicate n 0) (fun _=>none):=by
 refine ⟨by simp,by simp,fun q h0 h1=>⟨?_,fun v h=>by cases h⟩⟩;unfold Ah;rw [List.getD_eq_getElem?_getD,List.getElem?_replicate]
 split <;> rfl
end Go.Proofs.Ytmifdccaajngcaa.P
end
section
namespace Go.Proofs.Ytmifdccaajngcaa.P
open Go.RowKit Go.Proofs.Ka.Rb Go.Proofs.Ka.Vd Go.Proofs.Ka.ef
set_option linter.unusedVariables false
set_option linter.unusedSimpArgs false
def Kl.f (k:Nat) (Ua:List Int) (Ja:Int) (La:Int) (Pa:Int) (Qa:List (lf)):Option (List Int × Int × Int × Int × List (lf)) :=
 (Zd.f k Ua Ja La Pa Qa).bind fun G=>(Ya.f k Ua Ja La Pa Qa).bind fun t =>
  if t=true then
   if 0 ≤ Pa∧Pa ≤ 1000∧Qa.length=G.2.2.2.2.length∧(G.2.2.2.2.all fun b=>OH Pa b)=true then some (G.1,G.2.1,G.2.2.1,G.2.2.2.1,G.2.2.2.2.map (Sn (fun _=>none))) else none
  else some G
theorem Kl.calls (k:Nat) (zb:Option Addr) (yb:Nat) (Ua:List Int) (Ja:Int) (La:Int) (Pa:Int) (Yb:Option Addr) (Nb:Nat) (Qa:List (lf)) (r1:List Int) (r2:Int) (r3:Int) (r4:Int) (r5:List (lf)) (w:World) (Pf:Kd.C (Kd.int .i64) w zb Ua.length Ua) (Lf:Ua.length ≤ yb) (Ng:Kd.C Ok w Yb Qa.length Qa) (Jg:Qa.length ≤ Nb) (h:Kl.f k Ua Ja La Pa Qa=some (r1,r2,r3,r4,r5)) :
  Calls Try.prog 32 #[.agg #[.slice zb Ua.length yb,.int .i64 Ja,.int .i64 La,.int .i64 Pa,.slice Yb Qa.length Nb]] w fun e w'=>∃ Zs RI:Value,e = .returned (.agg #[Zs,.int .i64 r2,.int .i64 r3,.int .i64 r4,RI])∧Kd.R (Kd.int .i64) 3 w' w.heap.size (fun _=>True) Zs r1∧Kd.S Ok 68 w' w.heap.size (fun _=>True) RI r5∧Below w.heap.size w w':=by
 unfold Kl.f at h;obtain ⟨⟨g1,g2,g3,g4,g5⟩,tG,h⟩:=Option.bind_eq_some_iff.mp h;obtain ⟨t,tT,h⟩:=Option.bind_eq_some_iff.mp h;have TG:=ia.mk tG;have TT_:=ia.mk tT;obtain ⟨W1,dg⟩:∃ W1,W1=(w.alloc (.cells #[.slice zb Ua.length yb,.int .i64 Ja,.int .i64 La,.int .i64 Pa,.slice Yb Qa.length Nb] 30 (0,0))).alloc (.cells #[.slice none 0 0,.int .i64 0,.int .i64 0,.int .i64 0,.slice none 0 0] 30 (0,0)):=⟨_,rfl⟩;have HW:=ia.mk dg;have XP:Below w.heap.size w W1:=by rw [dg];exact ta (ta (Below.refl _ _) _) _
 have HX:=ia.mk (show W1.heap[w.heap.size]? = some (.cells #[.slice zb Ua.length yb,.int .i64 Ja,.int .i64 La,.int .i64 Pa,.slice Yb Qa.length Nb] 30 (0,0)) by rw [dg];exact ya (ri _ _) _);have HZ:=ia.mk (show W1.heap[w.heap.size + 1]? = some (.cells #[.slice none 0 0,.int .i64 0,.int .i64 0,.int .i64 0,.slice none 0 0] 30 (0,0)) by rw [dg];have:=ri (w.alloc (.cells #[.slice zb Ua.length yb,.int .i64 Ja,.int .i64 La,.int .i64 Pa,.slice Yb Qa.length Nb] 30 (0,0))) (.cells #[.slice none 0 0,.int .i64 0,.int .i64 0,.int .i64 0,.slice none 0 0] 30 (0,0));simpa using this);have HB:=ia.mk XP;have qh:=ia.mk Pf;have WL:=ia.mk Ng;have ZL:=ia.mk Lf;have YL:=ia.mk Jg;have HH:=ia.mk h;have hx0:=(ga HX.out 0).trans rfl;have hx1:=(ga HX.out 1).trans rfl;have cn:=(ga HX.out 2).trans rfl;have Zl:=(ga HX.out 3).trans rfl;have Zm:=(ga HX.out 4).trans rfl;clear dg XP Pf Ng Lf Jg h tG tT;go_enter Try.func32,Try.ntmps32
 go_upto_region 1 with (fail)
 rw [← HW.out];clear HW
 go_upto_region 2 with (first|(go_at_call 65;(with_reducible refine (Zd.calls k zb yb Ua Ja La Pa Yb Nb Qa g1 g2 g3 g4 g5 W1 (Kd.Lb qh.out HB.out) ZL.out (Kd.Lb WL.out HB.out) YL.out TG.out).mono ?_);rintro e w2 ⟨v0,v4,rfl,Cl,mo,hb⟩;obtain ⟨B0,d0,rfl⟩:=Kd.Oe Cl;obtain ⟨B4,d4,rfl⟩:=Kd.Gi mo;have bF:=ia.mk (Kd.xh Cl HB.out.size);have K4:=ia.mk (Kd.Hs mo HB.out.size);have Zo:=ia.mk (Ra HB.out hb);have G4:=ia.mk (Ta HX.out hb);have C4:=ia.mk (Ta HZ.out hb);clear Cl mo hb HB HX HZ hx0 hx1 cn Zl Zm))
 have Bx:=ta (Below.refl w2.heap.size w2) (.cells #[.slice B0 g1.length d0,.int .i64 g2,.int .i64 g3,.int .i64 g4,.slice B4 g5.length d4] 30 (0,0));have AO:=ri w2 (.cells #[.slice B0 g1.length d0,.int .i64 g2,.int .i64 g3,.int .i64 g4,.slice B4 g5.length d4] 30 (0,0));generalize w2.alloc (.cells #[.slice B0 g1.length d0,.int .i64 g2,.int .i64 g3,.int .i64 g4,.slice B4 g5.length d4] 30 (0,0))=w3 at Bx AO ⊢;have jN:=ia.mk (Kd.Dc bF.out Bx);have FW:=ia.mk (Kd.ee K4.out Bx);have Uw:=ia.mk (Ra Zo.out Bx);have FG:=ia.mk (Ta G4.out Bx);have DW:=ia.mk (Ta C4.out Bx);have TR:=ia.mk AO;have HQ3:=ia.mk (show w.heap.size + 1 < w2.heap.size from jc C4.out);have hx0:=(ga FG.out 0).trans rfl;have hx1:=(ga FG.out 1).trans rfl;have cn:=(ga FG.out 2).trans rfl;have Zl:=(ga FG.out 3).trans rfl;have Zm:=(ga FG.out 4).trans rfl;clear Bx AO bF K4 Zo G4 C4;generalize w2.heap.size=b3 at TR HQ3 ⊢;cases t with
 | false =>
  have h:=HH.out;rw [if_neg (by simp)] at h;cases h
  go_upto_region 3 with (first|(go_at_call 53;(with_reducible refine (Ya.calls k zb yb Ua Ja La Pa Yb Nb Qa false w3 (Kd.Lb qh.out Uw.out) ZL.out (Kd.Lb WL.out Uw.out) YL.out TT_.out).mono ?_);rintro e w4 ⟨rfl,hb⟩;have KW:=ia.mk (Kd.Dc jN.out hb);have VR:=ia.mk (Kd.ee FW.out hb);have zN:=ia.mk (Ra Uw.out hb);have Nw:=ia.mk (Ta DW.out hb);have ZE:=ia.mk (Ta TR.out hb);clear hb jN FW Uw FG DW TR hx0 hx1 cn Zl Zm))
  have hv0:=(ga ZE.out 0).trans rfl;have hv1:=(ga ZE.out 1).trans rfl;have hv2:=(ga ZE.out 2).trans rfl;have AO:=(ga ZE.out 3).trans rfl;have HM:=(ga ZE.out 4).trans rfl;have hz0:=(ga Nw.out 0).trans rfl;have BZ:=aa Nw.out 0;have hz1:=(ga Nw.out 1).trans rfl;have AZ:=aa Nw.out 1;have hz2:=(ga Nw.out 2).trans rfl;have zZ:=aa Nw.out 2;have hz3:=(ga Nw.out 3).trans rfl;have yZ:=aa Nw.out 3;have hz4:=(ga Nw.out 4).trans rfl;have xZ:=aa Nw.out 4;go_wp2;have SE:=Ds (z:=w.heap.size + 1) (g2:=r2) (g3:=r3) (g4:=r4) Nw.out KW.out VR.out zN.out (Nat.le_succ _);refine bodyPost_ret (results_cell_row rfl _ _ (w.heap.size + 1) 30 #[.slice B0 r1.length d0,.int .i64 r2,.int .i64 r3,.int .i64 r4,.slice B4 r5.length d4] (0,0) _ rfl SE.1 Try.underlying30 rfl (by kernel_rfl)) rfl ?_;exact ⟨_,_,rfl,SE.2.1,SE.2.2.1,SE.2.2.2⟩
 | true =>
  have h:=HH.out;rw [if_pos rfl] at h
  by_cases hok:0 ≤ Pa∧Pa ≤ 1000∧Qa.length=g5.length∧(g5.all fun b=>OH Pa b)=true
  case neg=>rw [if_neg hok] at h;cases h
  rw [if_pos hok] at h;cases h;obtain ⟨s0,s1,hll,hok⟩:=hok;obtain ⟨ns,rfl⟩:=Int.eq_ofNat_of_zero_le s0;simp only [Int.toNat_natCast] at *;have HNS:=ia.mk (show ns ≤ 1000 by omega);have HLL:=ia.mk hll;have Y4:=ia.mk (List.all_eq_true.1 hok);clear hok s0 s1 hll
  go_upto_region 4 with (first|(go_at_call 53;(with_reducible refine (Ya.calls k zb yb Ua Ja La (ns:Int) Yb Nb Qa true w3 (Kd.Lb qh.out Uw.out) ZL.out (Kd.Lb WL.out Uw.out) YL.out TT_.out).mono ?_);rintro e w4 ⟨rfl,hb⟩;have HX4:=ia.mk (Ta FG.out hb);have KW:=ia.mk (Kd.Dc jN.out hb);have VR:=ia.mk (Kd.ee FW.out hb);have zN:=ia.mk (Ra Uw.out hb);have Nw:=ia.mk (Ta DW.out hb);have ZE:=ia.mk (Ta TR.out hb);clear hb jN FW Uw FG DW TR hx0 hx1 cn Zl Zm))
  have M8:=(Kd.Re VR.out).2.2.2.1;go_wp2
  go_loopg [4] g5.length (fun gg v4 wr=>∃ j:Nat,j ≤ g5.length∧g5.length - j ≤ gg∧v4 = .int .i64 j∧ia (Kd.S Ok 68 wr w.heap.size (fun _=>True) (.slice B4 g5.length d4) ((g5.map (Sn (fun _=>none))).take j ++ g5.drop j))∧ia (Kd.R (Kd.int .i64) 3 wr w.heap.size (fun _=>True) (.slice B0 r1.length d0) r1)∧ia (wr.heap[b3]? = some (.cells #[.slice B0 r1.length d0,.int .i64 r2,.int .i64 r3,.int .i64 r4,.slice B4 g5.length d4] 30 (0,0)))∧ia (wr.heap[w.heap.size + 1]? = some (.cells #[.slice none 0 0,.int .i64 0,.int .i64 0,.int .i64 0,.slice none 0 0] 30 (0,0)))∧ia (Below w.heap.size w wr)∧ia (wr.heap[w.heap.size]? = some (.cells #[.slice zb Ua.length yb,.int .i64 Ja,.int .i64 La,.int .i64 (ns:Int),.slice Yb Qa.length Nb] 30 (0,0))))
  case atStart=>exact ⟨0,Nat.zero_le _,by omega,rfl,⟨by simpa using VR.out⟩,KW,ZE,Nw,zN,HX4⟩
  case round =>
   clear VR KW ZE Nw zN HX4;(try clear HS);(try clear HO);(try clear HV);(try clear HZ);(try clear HB);(try clear HX);obtain ⟨j,hj,hg,rfl,HS,HO,HV,HZ,HB,HX⟩:=hrel;have hxl:=(ga HX.out 4).trans rfl
   by_cases hlt:j < g5.length
   ·have p1:0 ≤ (j:Int):=by omega
    have p2:(j:Int) < (g5.length:Int):=by omega
    have tH:decide ((j:Int) < (Qa.length:Int))=true:=by rw [HLL.out];exact decide_eq_true p2
    have Baq:j < Qa.length:=by rw [HLL.out];exact hlt
    have sq:g5.drop j=g5[j] :: g5.drop (j + 1):=List.drop_eq_getElem_cons hlt;have hlen:((g5.map (Sn (fun _=>none))).take j ++ g5.drop j).length=g5.length:=by rw [List.length_append,List.length_take,List.length_map,List.length_drop];omega
    obtain ⟨g,cap,e1,hbg,cT,cells,ai⟩:=Kd.yE HS.out (by rw [hlen];omega);obtain rfl:B4=some ⟨g,0,none⟩:=by injection e1
    clear e1;obtain ⟨Zj,cs,hcs,hM,Aq,IP,xB,hH⟩:=Kd.SA (Kd.Js HS.out) mB (j:Int) (by omega) (by omega)
    have hx:((g5.map (Sn (fun _=>none))).take j ++ g5.drop j).getD (Int.toNat (j:Int)) mB=g5[j]:=by
     rw [sq,Int.toNat_natCast,List.getD_eq_getElem?_getD,List.getElem?_append_right (by rw [List.length_take];omega),List.length_take,List.length_map,Nat.min_eq_left (by omega),Nat.sub_self];simp [List.getElem?_eq_getElem hlt]
    rw [hx] at hM;obtain ⟨v0,rfl,hR⟩:=Bp hM;obtain ⟨A5,c5,rfl⟩:=Kd.Oe hR;have y0:=Aq 0 _ rfl;have y1:=Aq 1 _ rfl;have y2:=Aq 2 _ rfl;have y3:=Aq 3 _ rfl;have y4:=Aq 4 _ rfl;simp only [Int.toNat_natCast,show Ok.sz=5 from rfl,Nat.add_zero] at y0 y1 y2 y3 y4;have C5:=ia.mk ai;have Ux:=ia.mk (And.intro ((ga ai (j * 5)).symm.trans y0) (And.intro ((ga ai (j * 5 + 1)).symm.trans y1) (And.intro ((ga ai (j * 5 + 2)).symm.trans y2) (And.intro ((ga ai (j * 5 + 3)).symm.trans y3) ((ga ai (j * 5 + 4)).symm.trans y4)))));have LY:=ia.mk hH;have Y5:=ia.mk hR;have iN:=ia.mk xB;have hok:=Y4.out g5[j] (List.getElem_mem hlt);have m5:=ia.mk (AA.1 hok);have VY:=ia.mk sq;have b6:=ia.mk (show ((g5.map (Sn (fun _=>none))).take j).length=j by rw [List.length_take,List.length_map];omega);have HM:=(ga HV.out 4).trans rfl;have k6:=ia.mk (And.intro hbg cT);have yN:=ia.mk (show ¬ (Zj g ∨ g=wr.heap.size) from fun h=>h.elim (fun h=>(iN.out _ h).2 rfl) (fun h=>by omega));clear hH hR Aq IP hM hx xB sq hcs ai hok hbg cT
    go_upto_region 8 with (fail)
    have Sm:=ta (Below.refl wr.heap.size wr) (.cells #[.slice A5 g5[j].f0.length c5,.int .i64 g5[j].f1,.int .i64 g5[j].f2,.int .i64 g5[j].f3,.int .i64 g5[j].f4] 68 (0,0));have ZZ:=ri wr (.cells #[.slice A5 g5[j].f0.length c5,.int .i64 g5[j].f1,.int .i64 g5[j].f2,.int .i64 g5[j].f3,.int .i64 g5[j].f4] 68 (0,0));have hz1:(wr.alloc (.cells #[.slice A5 g5[j].f0.length c5,.int .i64 g5[j].f1,.int .i64 g5[j].f2,.int .i64 g5[j].f3,.int .i64 g5[j].f4] 68 (0,0))).heap.size=wr.heap.size + 1:=by simp
    generalize wr.alloc (.cells #[.slice A5 g5[j].f0.length c5,.int .i64 g5[j].f1,.int .i64 g5[j].f2,.int .i64 g5[j].f3,.int .i64 g5[j].f4] 68 (0,0))=W1 at Sm ZZ hz1 ⊢;have n5:=ia.mk (Kd.PL LY.out Sm);have xN:=ia.mk (Kd.Tc (Kd.Kg (Kd.Dc Y5.out Sm)) (fun k_ hk=>(⟨hk.1,hk.2.2.1⟩:Zj k_∧k_ < W1.heap.size)))
    have SG:=ia.mk (Kd.Dc (Kd.Tc (Kd.Kg HO.out) (fun k_ hk=>(show ¬ (Zj k_ ∨ k_=wr.heap.size) from fun h=>h.elim (fun h=>by
     obtain ⟨_,_,_,q,hq,cells,hc⟩:=hk;rw [List.mem_singleton.1 (show q ∈ [3] from hq)] at hc
     exact Lk hc (by decide) (iN.out _ h).1.2.2.2) (fun h=>by have:=hk.2.2.1;omega)))) Sm)
    have e5:=ia.mk (show ¬ (Zj b3 ∨ b3=wr.heap.size) from fun h=>h.elim (fun h=>Lk HV.out (by decide) (iN.out _ h).1.2.2.2) (fun h=>by have:=jc HV.out;omega));have b5:=ia.mk (show ¬ (Zj (w.heap.size + 1) ∨ w.heap.size + 1=wr.heap.size) from fun h=>h.elim (fun h=>Lk HZ.out (by decide) (iN.out _ h).1.2.2.2) (fun h=>by have:=jc HZ.out;omega));have j5:=ia.mk (show ¬ (Zj w.heap.size ∨ w.heap.size=wr.heap.size) from fun h=>h.elim (fun h=>Lk HX.out (by decide) (iN.out _ h).1.2.2.2) (fun h=>by have:=jc HX.out;omega));have HV1:=ia.mk (Ta HV.out Sm);have HZ1:=ia.mk (Ta HZ.out Sm);have HX1:=ia.mk (Ta HX.out Sm);have MW:=ia.mk (Ta C5.out Sm);have BN:=ia.mk (Ra HB.out Sm);have HBX:=ia.mk ZZ;have kN:=ia.mk (show ¬ Zj wr.heap.size from fun h=>by have:=(iN.out _ h).1.2.2.1;omega);have aM:=ia.mk (show w.heap.size ≤ wr.heap.size∧wr.heap.size < W1.heap.size from ⟨HB.out.size,by omega⟩);clear y0 y1 y2 y3 y4 HM hxl Sm ZZ hz1 LY Y5 HO HV HZ HX C5 HB HS;generalize wr.heap.size=gx at HBX kN aM SG e5 b5 j5 yN n5 ⊢;have Zl:=(ga HX1.out 3).trans rfl;have h0n:(0:Int) ≤ (ns:Int):=Int.natCast_nonneg ns;have N8:(ns:Int).toNat * 1 ≤ 281474976710656:=by have:=HNS.out;omega
    go_upto_region 9 with (first|((with_reducible refine Ib (N:=30) rfl ?_);refine Kd.AE Kd.bool (w0:=W1) W1.heap.size 4 rfl (N:=30) rfl 96 _ _ rfl (ns:Int) rfl rfl Try.underlying96 (.bool false) 1 X6 rfl (by decide) (by omega) false (ok:=fun _=>True) (zk:=fun _=>True) rfl (fun _ hk=>hk) trivial h0n N8 (Below.refl _ _) (Nat.le_refl _) ?_;intro v1 W2 wS Li eJ hnew2;clear hnew2 eJ;have bF:=ia.mk wS;have Zo:=ia.mk Li;clear wS Li Zl))
    have Zl:=(ga (Ta HX1.out Zo.out) 3).trans rfl;have hns:ns ≤ 1048576:=by have:=HNS.out;omega
    obtain ⟨Ak,ck,e6⟩:=Kd.Oe bF.out;simp only [List.length_replicate,Int.toNat_natCast] at e6;subst e6;go_wp2_with (first|(go_at_call 73;(with_reducible refine (gM ns _ hns).mono ?_);rintro e W3 ⟨v3,rfl,bX,Bx⟩;have jN:=ia.mk bX;have Uw:=ia.mk Bx;clear bX Bx Zl));obtain ⟨Av,cv,e7⟩:=Kd.Oe jN.out;simp only [List.length_replicate] at e7;subst e7
    have HQ:=ia.mk (show xE w W1 Zj A5 g5[j].f0.length c5 Ak ns ck Av cv (Cx Xg Fk (fun _=>none) g5[j].f0 0) ((Il Xg Fk (fun _=>none) g5[j].f0).take 0 ++ g5[j].f0.drop 0) W3 from by
     have h2:=bF.out;rw [Int.toNat_natCast] at h2;have R1:Below W1.heap.size W1 W3:=OA Zo.out Zo.out.size Uw.out
     refine ⟨by have:=aM.out;omega,⟨_,_,uI.none_ ns,Kd.xh (Kd.Tc (Kd.Kg (Kd.Dc h2 Uw.out)) (fun _ hk=>hk.2.1)) (by have:=aM.out;omega),Kd.xh (Kd.Tc (Kd.Kg jN.out) (fun _ hk=>Nat.le_trans Zo.out.size hk.2.1)) (by have:=aM.out;have:=Zo.out.size;omega)⟩,by simpa using Kd.Dc xN.out R1,Ra BN.out R1,(Kept.refl W1 Zj).below R1⟩)
    have nB:=ia.mk (And.intro SG.out (And.intro HV1.out (And.intro HZ1.out (And.intro HX1.out (And.intro MW.out HBX.out)))));have HL:=ia.mk (Gj (U:=Xg) (N:=Fk) (fun _=>none) g5[j].f0);clear bF Zo jN Uw SG HV1 HZ1 HX1 MW HBX h0n N8
    go_loopg [8] g5[j].f0.length (fun gg v8 wq=>∃ m:Nat,m ≤ g5[j].f0.length∧g5[j].f0.length - m ≤ gg∧v8 = .int .i64 m∧ia (xE w W1 Zj A5 g5[j].f0.length c5 Ak ns ck Av cv (Cx Xg Fk (fun _=>none) g5[j].f0 m) ((Il Xg Fk (fun _=>none) g5[j].f0).take m ++ g5[j].f0.drop m) wq))
    case atStart=>exact ⟨0,Nat.zero_le _,by omega,rfl,HQ⟩
    case round =>
     clear HQ;(try clear HQ);obtain ⟨m,hm,hgm,rfl,HQ⟩:=hrel;have LI:=ia.mk (ie nB.out.2.2.2.2.2 HQ.out.k kN.out);have hb0:=(ga LI.out 0).trans rfl
     by_cases hml:m < g5[j].f0.length
     ·have q1:0 ≤ (m:Int):=by omega
      have mae:g5[j].f0.length ≤ 1048576:=m5.out.1.1;have q2:(m:Int) < (g5[j].f0.length:Int):=by omega
      have yaq:decide ((m:Int) < (g5[j].f0.length:Int))=true:=decide_eq_true q2;have hst:=HQ.out;rw [yA hml] at hst;obtain ⟨gb,e1,-,-⟩:=hst.cells m hml;subst e1;have HS:=ia.mk hst;have KY:=ia.mk (m5.out.1.2 (Ia g5[j].f0 (m:Int)) (by simp only [Ia,Int.toNat_natCast,List.getD_eq_getElem?_getD,List.getElem?_eq_getElem hml,Option.getD_some];exact List.getElem_mem hml));have I4:=ia.mk (fun z z'=>bG (U:=Xg) (N:=Fk) (s0:=fun _=>none) z z' hml);have HE:=ia.mk (cG (U:=Xg) (N:=Fk) (s0:=fun _=>none) hml);have X4:=ia.mk (aG (U:=Xg) (N:=Fk) (fun _=>none) hml);have VE:=ia.mk (fun z=>EL (U:=Xg) (N:=Fk) (s0:=fun _=>none) z hml);clear hst HQ;generalize Ia g5[j].f0 (m:Int)=x at HS HE X4 KY;generalize Cx Xg Fk (fun _=>none) g5[j].f0 m=fj at HS HE X4;obtain ⟨hx0,hx1,cn,Zl,Zm,ju,iu⟩:=HS.out.elem m hml x (VE.out x)
      go_upto_region 13 with (fail)
      have HD:=ia.mk (HS.out.below (Jk (Below.refl _ _)));have HBD:=ia.mk (Ca LI.out);clear hb0 hx0 hx1 cn Zl Zm ju iu;refine Mi (n:=13) (S:=fun w'=>w'.cell? ⟨gx,0,none⟩=some (.slice (some ⟨gb,0,none⟩) g5[j].f0.length c5)∧w'.cell? ⟨gb,m * 7,none⟩=some (.int .i64 x.f0)∧w'.cell? ⟨gb,m * 7 + 1,none⟩=some (.int .i64 x.f1)∧w'.cell? ⟨gb,m * 7 + 2,none⟩=some (.int .i64 x.f2)∧w'.cell? ⟨gb,m * 7 + 3,none⟩=some (.int .i64 x.f3)∧w'.cell? ⟨gb,m * 7 + 4,none⟩=some (.int .i64 x.f4)∧w'.cell? ⟨gb,m * 7 + 5,none⟩=some (.int .i64 x.f5)∧w'.cell? ⟨gb,m * 7 + 6,none⟩=some (.string x.f6)) (ds:=[12]) #[false,false,false,false,false,false,false,false,false,false,false,false,false] (by kernel_rfl) rfl rfl ⟨(ga HBD.out 0).trans rfl,(HD.out.elem m hml x (VE.out x)).1,(HD.out.elem m hml x (VE.out x)).2.1,(HD.out.elem m hml x (VE.out x)).2.2.1,(HD.out.elem m hml x (VE.out x)).2.2.2.1,(HD.out.elem m hml x (VE.out x)).2.2.2.2.1,(HD.out.elem m hml x (VE.out x)).2.2.2.2.2.1,(HD.out.elem m hml x (VE.out x)).2.2.2.2.2.2⟩ (fun hHeld=>?_);generalize wr.drew=wd at HD HBD hHeld ⊢;refine Ic (i:=0) (N:=some 41) (v:=?_) (a':=?_) #[true,false,false,false,false,false,false,false,false,false,false,false,false] rfl rfl (by kernel_rfl) (fun _ _ _ h=>h) (Or.inl ⟨by rfl,?_⟩) ?_ ?_;rotate_left
      ·intro w';go_simp;with_reducible rfl
      rotate_left
      ·simp only [Act.put,List.setIfInBounds_toArray,List.set_cons_zero,List.set_cons_succ,Cb,Db]
       rfl
      refine Ic (i:=2) (N:=some 43) (v:=?_) (a':=?_) #[true,false,true,false,false,false,false,false,false,false,false,false,false] rfl rfl (by kernel_rfl) (fun _ _ _ h=>h) (Or.inl ⟨by rfl,?_⟩) ?_ ?_;rotate_left
      ·intro w';go_simp;with_reducible rfl
      rotate_left
      ·simp only [Act.put,List.setIfInBounds_toArray,List.set_cons_zero,List.set_cons_succ,Cb,Db]
       rfl
      refine Ic (i:=3) (N:=some 44) (v:=?_) (a':=?_) #[true,false,true,true,false,false,false,false,false,false,false,false,false] rfl rfl (by kernel_rfl) (fun _ _ _ h=>h) (Or.inl ⟨by rfl,?_⟩) ?_ ?_;rotate_left
      ·intro w';go_simp;with_reducible rfl
      rotate_left
      ·simp only [Act.put,List.setIfInBounds_toArray,List.set_cons_zero,List.set_cons_succ,Cb,Db]
       rfl
      refine Ic (i:=5) (N:=some 46) (v:=?_) (a':=?_) #[true,false,true,true,false,true,false,false,false,false,false,false,false] rfl rfl (by kernel_rfl) (fun _ _ _ h=>h) (Or.inl ⟨by rfl,?_⟩) ?_ ?_;rotate_left
      ·intro w';go_simp;with_reducible rfl
      rotate_left
      ·simp only [Act.put,List.setIfInBounds_toArray,List.set_cons_zero,List.set_cons_succ,Cb,Db]
       rfl
      refine Ic (i:=8) (N:=some 49) (v:=?_) (a':=?_) #[true,false,true,true,false,true,false,false,true,false,false,false,false] rfl rfl (by kernel_rfl) (fun _ _ _ h=>h) (Or.inl ⟨by rfl,?_⟩) ?_ ?_;rotate_left
      ·intro w';go_simp;with_reducible rfl
      rotate_left
      ·simp only [Act.put,List.setIfInBounds_toArray,List.set_cons_zero,List.set_cons_succ,Cb,Db]
       rfl
      refine Ic (i:=9) (N:=some 50) (v:=?_) (a':=?_) #[true,false,true,true,false,true,false,false,true,true,false,false,false] rfl rfl (by kernel_rfl) (fun _ _ _ h=>h) (Or.inl ⟨by rfl,?_⟩) ?_ ?_;rotate_left
      ·intro w';go_simp;with_reducible rfl
      rotate_left
      ·simp only [Act.put,List.setIfInBounds_toArray,List.set_cons_zero,List.set_cons_succ,Cb,Db]
       rfl
      refine Mf (i:=1) (N:=some 42) (v:=?_) (a':=?_) #[true,true,true,true,false,true,false,false,true,true,false,false,false] rfl rfl (by kernel_rfl) (fun _ _ _ h=>h) (Or.inl ⟨by rfl,?_⟩) hHeld ?_ ?_;rotate_left
      ·rintro w' ⟨s0,s1,s2,s3,s4,s5,s6,s7⟩;go_simp;with_reducible rfl
      rotate_left
      ·simp only [Act.put,List.setIfInBounds_toArray,List.set_cons_zero,List.set_cons_succ,Cb,Db]
       rfl
      refine Mf (i:=4) (N:=some 45) (v:=?_) (a':=?_) #[true,true,true,true,true,true,false,false,true,true,false,false,false] rfl rfl (by kernel_rfl) (fun _ _ _ h=>h) (Or.inl ⟨by rfl,?_⟩) hHeld ?_ ?_;rotate_left
      ·rintro w' ⟨s0,s1,s2,s3,s4,s5,s6,s7⟩;go_simp;with_reducible rfl
      rotate_left
      ·simp only [Act.put,List.setIfInBounds_toArray,List.set_cons_zero,List.set_cons_succ,Cb,Db]
       rfl
      refine Ic (i:=6) (N:=some 47) (v:=?_) (a':=?_) #[true,true,true,true,true,true,true,false,true,true,false,false,false] rfl rfl (by kernel_rfl) (fun _ _ _ h=>h) (Or.inl ⟨by rfl,?_⟩) ?_ ?_;rotate_left
      ·intro w';go_simp;with_reducible rfl
      rotate_left
      ·simp only [Act.put,List.setIfInBounds_toArray,List.set_cons_zero,List.set_cons_succ,Cb,Db]
       rfl
      refine Mf (i:=7) (N:=some 48) (v:=?_) (a':=?_) #[true,true,true,true,true,true,true,true,true,true,false,false,false] rfl rfl (by kernel_rfl) (fun _ _ _ h=>h) (Or.inl ⟨by rfl,?_⟩) hHeld ?_ ?_;rotate_left
      ·rintro w' ⟨s0,s1,s2,s3,s4,s5,s6,s7⟩;go_simp;with_reducible rfl
      rotate_left
      ·simp only [Act.put,List.setIfInBounds_toArray,List.set_cons_zero,List.set_cons_succ,Cb,Db]
       rfl
      refine Gq (i:=10) (N:=some 51) #[true,true,true,true,true,true,true,true,true,true,true,false,false] rfl rfl (by kernel_rfl) (by decide) (fun K hK=>?_);obtain ⟨kn,vs,hkv,KB,R5⟩:=HD.out.kv;have HKV:=ia.mk hkv;have pag:=ia.mk KB;have oag:=ia.mk R5;clear hkv KB R5;refine Um Try.func74 (by kernel_rfl) rfl #[.agg #[.int .i64 x.f0,.int .i64 x.f1,.int .i64 x.f2,.int .i64 x.f3,.int .i64 x.f4,.int .i64 x.f5,.string x.f6],.slice Ak ns ck,.slice Av ns cv] (by rfl) rfl rfl (by simp only [List.map_toArray,List.map_cons,List.map_nil];rfl) ?_;with_reducible refine (nM ns kn vs fj x (fun k_=>W1.heap.size ≤ k_) (fun k_=>W1.heap.size ≤ k_) (.slice Ak ns ck) (.slice Av ns cv) w wd HD.out.bl pag.out oag.out HKV.out KY.out).mono ?_
      rintro e wc ⟨rfl,Tw,vs',hv,h1,h2,hb,hk⟩;refine ⟨_,rfl,?_⟩;have HT:=ia.mk (HD.out.turn hv h1 h2 hb hk);have HBT:=ia.mk (ie nB.out.2.2.2.2.2 HT.out.k kN.out);clear hv h1 h2 hb hk HKV pag oag;refine hK.out _ _ ⟨(ga HBT.out 0).trans rfl,(HT.out.elem m hml x (VE.out x)).1,(HT.out.elem m hml x (VE.out x)).2.1,(HT.out.elem m hml x (VE.out x)).2.2.1,(HT.out.elem m hml x (VE.out x)).2.2.2.1,(HT.out.elem m hml x (VE.out x)).2.2.2.2.1,(HT.out.elem m hml x (VE.out x)).2.2.2.2.2.1,(HT.out.elem m hml x (VE.out x)).2.2.2.2.2.2⟩ (fun hHeld=>?_);clear hK K;refine Mm (a':=?_) ?_ ?_;rotate_left
      ·show Act.put _ (some 51) _=_
       simp only [Act.put,List.setIfInBounds_toArray,List.set_cons_zero,List.set_cons_succ,Cb,Db]
       rfl
      refine Ic (i:=11) (N:=some 52) (v:=?_) (a':=?_) #[true,true,true,true,true,true,true,true,true,true,true,true,false] rfl rfl (by kernel_rfl) (fun _ _ _ h=>h) (Or.inl ⟨by rfl,?_⟩) ?_ ?_;rotate_left
      ·intro w';go_simp;with_reducible rfl
      rotate_left
      ·simp only [Act.put,List.setIfInBounds_toArray,List.set_cons_zero,List.set_cons_succ,Cb,Db]
       rfl
      refine dA (i:=12) (N:=none) #[true,true,true,true,true,true,true,true,true,true,true,true,true] rfl rfl (by kernel_rfl) (by decide) (fun K hK=>?_);obtain ⟨hx0,hx1,cn,Zl,Zm,ju,iu⟩:=HT.out.elem m hml x (VE.out x);obtain ⟨pK,tN,sN,rN,qN,U0,S0⟩:=HT.out.frozen m hml;have HN:=ia.mk (HT.out.put m hml (Xg fj x));refine Sz (w1:=?_) (by rfl) rfl ?_ ?_;rotate_left
      ·go_simp
       rfl
      refine hK.out _ _ ?_;clear hK K;refine Fl (by kernel_rfl) ?_;clear hHeld;go_wp2
      go_roundg (g5[j].f0.length - (m + 1))
      case measure=>omega
      case rel=>exact ⟨m + 1,by omega,by omega,by go_num,⟨by rw [X4.out,← HE.out,← I4.out];exact HN.out⟩⟩
     ·have yaq:decide ((m:Int) < (g5[j].f0.length:Int))=false:=decide_eq_false (by omega);obtain rfl:m=g5[j].f0.length:=by omega
      have hs:=HQ.out;rw [List.drop_length,List.append_nil,List.take_of_length_le (by rw [HL.out];omega)] at hs;have HS:=ia.mk hs;clear hs HQ;have Sm:=(ga LI.out 1).trans rfl;have Li:=(ga LI.out 2).trans rfl;have Bx:=(ga LI.out 3).trans rfl;have YP:=(ga LI.out 4).trans rfl;have rae:=aa LI.out 0;have qae:=aa LI.out 1;have pae:=aa LI.out 2;have oae:=aa LI.out 3;have nae:=aa LI.out 4
      by_cases h1:g5[j].f1=1
      case neg =>
       have b1:(g5[j].f1 == 1)=false:=beq_eq_false_iff_ne.2 h1;have F5:=ia.mk (show Sn (fun _=>none) g5[j]=(⟨Il Xg Fk (fun _=>none) g5[j].f0,g5[j].f1,g5[j].f2,g5[j].f3,g5[j].f4⟩:lf) from by unfold Sn;rw [if_neg (fun h=>h1 h.1)]);clear h1;have Qw:=ia.mk (HS.out.k.mono (fun k_ h=>(Or.inl h:Zj k_ ∨ k_=gx)));have GW:=ia.mk (Kd.Tc HS.out.x (fun _ hk=>hk.1));have UG:=ia.mk HS.out.bl;clear HS;have gn:=ia.mk (ie nB.out.2.2.2.2.1 Qw.out yN.out);have GI:=ia.mk (ie nB.out.2.1 Qw.out e5.out);have FQ:=ia.mk (ie nB.out.2.2.1 Qw.out b5.out);have lR:=ia.mk (ie nB.out.2.2.2.1 Qw.out j5.out);have Z4:=ia.mk (Kd.Ql nB.out.1 Qw.out (fun _ h=>h));have HM:=(ga GI.out 4).trans rfl;have he0:=(ga gn.out (j * 5)).trans Ux.out.1;have he1:=(ga gn.out (j * 5 + 1)).trans Ux.out.2.1;have he2:=(ga gn.out (j * 5 + 2)).trans Ux.out.2.2.1;have he3:=(ga gn.out (j * 5 + 3)).trans Ux.out.2.2.2.1;have he4:=(ga gn.out (j * 5 + 4)).trans Ux.out.2.2.2.2;have pK:=aa gn.out (j * 5);have tN:=aa gn.out (j * 5 + 1);have sN:=aa gn.out (j * 5 + 2);have rN:=aa gn.out (j * 5 + 3);have qN:=aa gn.out (j * 5 + 4);have UR:=ia.mk (Kd.QA (Kd.Mx n5.out Qw.out (fun k_ h1 h2 h3=>h3.elim h2 (fun e=>by have:=h1.2.2.1;omega))) (by omega) p2 (seg:=[.slice A5 g5[j].f0.length c5,.int .i64 g5[j].f1,.int .i64 g5[j].f2,.int .i64 g5[j].f3,.int .i64 g5[j].f4]) (j:=0) (show 0 + 5 ≤ 5 by decide) (x':=(⟨Il Xg Fk (fun _=>none) g5[j].f0,g5[j].f1,g5[j].f2,g5[j].f3,g5[j].f4⟩:lf)) (Vk _ _ _ (⟨Il Xg Fk (fun _=>none) g5[j].f0,g5[j].f1,g5[j].f2,g5[j].f3,g5[j].f4⟩:lf) GW.out) (fun _ h=>h));go_wp2
       go_roundg (g5.length - (j + 1))
       case measure=>omega
       case rel =>
        have Us:=UR.out.1;have hgr:=UR.out.2;rw [← F5.out] at Us
        have hne:∀ {b:Nat} {cs:Array Value} {t:Nat},wr.heap[b]? = some (.cells cs t (0,0))→t ≠ 68→some b ≠ some g:=fun hb ht e=>by
         injection e with e
         subst e;rw [gn.out] at hb;injection hb with hb
         injection hb with _ hb
         exact ht hb.symm
        refine ⟨j + 1,by omega,by omega,by go_num,⟨?_⟩,⟨Kd.Tc (Kd.Xo (Kd.Kg Z4.out) hgr (fun k_ hk=>by
         obtain ⟨_,_,_,q,hq,cells,hc⟩:=hk;rw [List.mem_singleton.1 (show q ∈ [3] from hq)] at hc
         exact hne hc (by decide))) (fun _ _=>trivial)⟩,⟨Oc GI.out hgr (hne GI.out (by decide))⟩,⟨Oc FQ.out hgr (hne FQ.out (by decide))⟩,⟨UG.out.grown hgr UG.out.size (fun k_ e=>by injection e with e;rw [← e];exact k6.out.1)⟩,⟨Oc lR.out hgr (hne lR.out (by decide))⟩⟩
        have Lt:((g5.map (Sn (fun _=>none))).take j ++ g5.drop j).set (Int.toNat (j:Int)) (Sn (fun _=>none) g5[j])=(g5.map (Sn (fun _=>none))).take (j + 1) ++ g5.drop (j + 1):=by
         rw [VY.out,Int.toNat_natCast,Sq _ _ b6.out,List.take_succ_eq_append_getElem (by rw [List.length_map];exact hlt),List.getElem_map]
        rw [← Lt];exact Kd.xg Us (fun _ _=>trivial)
      have b1:(g5[j].f1 == 1)=true:=beq_iff_eq.2 h1;obtain ⟨q0,q1⟩:=m5.out.2.1 h1;obtain ⟨go,gv,va,rfl,rfl,hqk,hqv,hva⟩:=HS.out.at_ g5[j].f2 q0 q1;have SR:=ia.mk hva;clear hva;obtain ⟨oa,GG⟩:∃ v,ia ((Cx Xg Fk (fun _=>none) g5[j].f0 g5[j].f0.length g5[j].f2).isSome=v):=⟨_,⟨rfl⟩⟩;rw [GG.out] at hqk;cases oa with
      | false =>
       have F5:=ia.mk (show Sn (fun _=>none) g5[j]=(⟨Il Xg Fk (fun _=>none) g5[j].f0,g5[j].f1,g5[j].f2,g5[j].f3,g5[j].f4⟩:lf) from by unfold Sn;rw [if_neg (fun h=>by have:=h.2;rw [GG.out] at this;cases this)]);clear h1;have Qw:=ia.mk (HS.out.k.mono (fun k_ h=>(Or.inl h:Zj k_ ∨ k_=gx)));have GW:=ia.mk (Kd.Tc HS.out.x (fun _ hk=>hk.1));have UG:=ia.mk HS.out.bl;clear HS;have gn:=ia.mk (ie nB.out.2.2.2.2.1 Qw.out yN.out);have GI:=ia.mk (ie nB.out.2.1 Qw.out e5.out);have FQ:=ia.mk (ie nB.out.2.2.1 Qw.out b5.out);have lR:=ia.mk (ie nB.out.2.2.2.1 Qw.out j5.out);have Z4:=ia.mk (Kd.Ql nB.out.1 Qw.out (fun _ h=>h));have HM:=(ga GI.out 4).trans rfl;have he0:=(ga gn.out (j * 5)).trans Ux.out.1;have he1:=(ga gn.out (j * 5 + 1)).trans Ux.out.2.1;have he2:=(ga gn.out (j * 5 + 2)).trans Ux.out.2.2.1;have he3:=(ga gn.out (j * 5 + 3)).trans Ux.out.2.2.2.1;have he4:=(ga gn.out (j * 5 + 4)).trans Ux.out.2.2.2.2;have pK:=aa gn.out (j * 5);have tN:=aa gn.out (j * 5 + 1);have sN:=aa gn.out (j * 5 + 2);have rN:=aa gn.out (j * 5 + 3);have qN:=aa gn.out (j * 5 + 4);have UR:=ia.mk (Kd.QA (Kd.Mx n5.out Qw.out (fun k_ h1 h2 h3=>h3.elim h2 (fun e=>by have:=h1.2.2.1;omega))) (by omega) p2 (seg:=[.slice A5 g5[j].f0.length c5,.int .i64 g5[j].f1,.int .i64 g5[j].f2,.int .i64 g5[j].f3,.int .i64 g5[j].f4]) (j:=0) (show 0 + 5 ≤ 5 by decide) (x':=(⟨Il Xg Fk (fun _=>none) g5[j].f0,g5[j].f1,g5[j].f2,g5[j].f3,g5[j].f4⟩:lf)) (Vk _ _ _ (⟨Il Xg Fk (fun _=>none) g5[j].f0,g5[j].f1,g5[j].f2,g5[j].f3,g5[j].f4⟩:lf) GW.out) (fun _ h=>h));go_wp2
       go_roundg (g5.length - (j + 1))
       case measure=>omega
       case rel =>
        have Us:=UR.out.1;have hgr:=UR.out.2;rw [← F5.out] at Us
        have hne:∀ {b:Nat} {cs:Array Value} {t:Nat},wr.heap[b]? = some (.cells cs t (0,0))→t ≠ 68→some b ≠ some g:=fun hb ht e=>by
         injection e with e
         subst e;rw [gn.out] at hb;injection hb with hb
         injection hb with _ hb
         exact ht hb.symm
        refine ⟨j + 1,by omega,by omega,by go_num,⟨?_⟩,⟨Kd.Tc (Kd.Xo (Kd.Kg Z4.out) hgr (fun k_ hk=>by
         obtain ⟨_,_,_,q,hq,cells,hc⟩:=hk;rw [List.mem_singleton.1 (show q ∈ [3] from hq)] at hc
         exact hne hc (by decide))) (fun _ _=>trivial)⟩,⟨Oc GI.out hgr (hne GI.out (by decide))⟩,⟨Oc FQ.out hgr (hne FQ.out (by decide))⟩,⟨UG.out.grown hgr UG.out.size (fun k_ e=>by injection e with e;rw [← e];exact k6.out.1)⟩,⟨Oc lR.out hgr (hne lR.out (by decide))⟩⟩
        have Lt:((g5.map (Sn (fun _=>none))).take j ++ g5.drop j).set (Int.toNat (j:Int)) (Sn (fun _=>none) g5[j])=(g5.map (Sn (fun _=>none))).take (j + 1) ++ g5.drop (j + 1):=by
         rw [VY.out,Int.toNat_natCast,Sq _ _ b6.out,List.take_succ_eq_append_getElem (by rw [List.length_map];exact hlt),List.getElem_map]
        rw [← Lt];exact Kd.xg Us (fun _ _=>trivial)
      | true =>
       by_cases h0:va=0
       ·have b0:(va == 0)=true:=beq_iff_eq.2 h0;have F5:=ia.mk (show Sn (fun _=>none) g5[j]=(⟨Il Xg Fk (fun _=>none) g5[j].f0,0,0,g5[j].f4,0⟩:lf) from by unfold Sn zA;rw [if_pos ⟨h1,GG.out⟩,SR.out GG.out,if_pos h0]);clear h0 h1;have Qw:=ia.mk (show Kept W1 (((((wr.setCell ⟨gx,0,none⟩ (.slice A5 g5[j].f0.length c5)).setCell ⟨gx,1,none⟩ (.int .i64 0)).setCell ⟨gx,2,none⟩ (.int .i64 0)).setCell ⟨gx,3,none⟩ (.int .i64 g5[j].f4)).setCell ⟨gx,4,none⟩ (.int .i64 0)) _ from (Kept.setCell (p:=⟨gx,4,none⟩) (Kept.setCell (p:=⟨gx,3,none⟩) (Kept.setCell (p:=⟨gx,2,none⟩) (Kept.setCell (p:=⟨gx,1,none⟩) (Kept.setCell (p:=⟨gx,0,none⟩) (HS.out.k.mono (fun k_ h=>(Or.inl h:Zj k_ ∨ k_=gx))) (Or.inl (Or.inr rfl)) (.slice A5 g5[j].f0.length c5)) (Or.inl (Or.inr rfl)) (.int .i64 0)) (Or.inl (Or.inr rfl)) (.int .i64 0)) (Or.inl (Or.inr rfl)) (.int .i64 g5[j].f4)) (Or.inl (Or.inr rfl)) (.int .i64 0)));have GW:=ia.mk (show Kd.R _ _ (((((wr.setCell ⟨gx,0,none⟩ (.slice A5 g5[j].f0.length c5)).setCell ⟨gx,1,none⟩ (.int .i64 0)).setCell ⟨gx,2,none⟩ (.int .i64 0)).setCell ⟨gx,3,none⟩ (.int .i64 g5[j].f4)).setCell ⟨gx,4,none⟩ (.int .i64 0)) _ _ _ _ from (Kd.Eb (Kd.Eb (Kd.Eb (Kd.Eb (Kd.Eb (Kd.Tc HS.out.x (fun _ hk=>hk.1)) (p:=⟨gx,0,none⟩) (fun k_ h e=>kN.out ((show k_=gx from e) ▸ h)) (.slice A5 g5[j].f0.length c5)) (p:=⟨gx,1,none⟩) (fun k_ h e=>kN.out ((show k_=gx from e) ▸ h)) (.int .i64 0)) (p:=⟨gx,2,none⟩) (fun k_ h e=>kN.out ((show k_=gx from e) ▸ h)) (.int .i64 0)) (p:=⟨gx,3,none⟩) (fun k_ h e=>kN.out ((show k_=gx from e) ▸ h)) (.int .i64 g5[j].f4)) (p:=⟨gx,4,none⟩) (fun k_ h e=>kN.out ((show k_=gx from e) ▸ h)) (.int .i64 0)));have UG:=ia.mk (show Below _ _ (((((wr.setCell ⟨gx,0,none⟩ (.slice A5 g5[j].f0.length c5)).setCell ⟨gx,1,none⟩ (.int .i64 0)).setCell ⟨gx,2,none⟩ (.int .i64 0)).setCell ⟨gx,3,none⟩ (.int .i64 g5[j].f4)).setCell ⟨gx,4,none⟩ (.int .i64 0)) from (((((HS.out.bl.setCell (p:=⟨gx,0,none⟩) aM.out.1 (.slice A5 g5[j].f0.length c5)).setCell (p:=⟨gx,1,none⟩) aM.out.1 (.int .i64 0)).setCell (p:=⟨gx,2,none⟩) aM.out.1 (.int .i64 0)).setCell (p:=⟨gx,3,none⟩) aM.out.1 (.int .i64 g5[j].f4)).setCell (p:=⟨gx,4,none⟩) aM.out.1 (.int .i64 0)));have Nx:=ia.mk (show (((((wr.setCell ⟨gx,0,none⟩ (.slice A5 g5[j].f0.length c5)).setCell ⟨gx,1,none⟩ (.int .i64 0)).setCell ⟨gx,2,none⟩ (.int .i64 0)).setCell ⟨gx,3,none⟩ (.int .i64 g5[j].f4)).setCell ⟨gx,4,none⟩ (.int .i64 0)).heap[gx]? = _ from (jb (jb (jb (jb (jb LI.out 0 (.slice A5 g5[j].f0.length c5) rfl) 1 (.int .i64 0) rfl) 2 (.int .i64 0) rfl) 3 (.int .i64 g5[j].f4) rfl) 4 (.int .i64 0) rfl))
        go_upto_region 19 with (fail)
        clear hb0 Sm Li Bx YP rae qae pae oae nae hqk hqv HS LI;generalize (((((wr.setCell ⟨gx,0,none⟩ (.slice A5 g5[j].f0.length c5)).setCell ⟨gx,1,none⟩ (.int .i64 0)).setCell ⟨gx,2,none⟩ (.int .i64 0)).setCell ⟨gx,3,none⟩ (.int .i64 g5[j].f4)).setCell ⟨gx,4,none⟩ (.int .i64 0))=W9 at Qw GW UG Nx ⊢;have hb0:=(ga Nx.out 0).trans rfl;have Sm:=(ga Nx.out 1).trans rfl;have Li:=(ga Nx.out 2).trans rfl;have Bx:=(ga Nx.out 3).trans rfl;have YP:=(ga Nx.out 4).trans rfl;have gn:=ia.mk (ie nB.out.2.2.2.2.1 Qw.out yN.out);have GI:=ia.mk (ie nB.out.2.1 Qw.out e5.out);have FQ:=ia.mk (ie nB.out.2.2.1 Qw.out b5.out);have lR:=ia.mk (ie nB.out.2.2.2.1 Qw.out j5.out);have Z4:=ia.mk (Kd.Ql nB.out.1 Qw.out (fun _ h=>h));have HM:=(ga GI.out 4).trans rfl;have he0:=(ga gn.out (j * 5)).trans Ux.out.1;have he1:=(ga gn.out (j * 5 + 1)).trans Ux.out.2.1;have he2:=(ga gn.out (j * 5 + 2)).trans Ux.out.2.2.1;have he3:=(ga gn.out (j * 5 + 3)).trans Ux.out.2.2.2.1;have he4:=(ga gn.out (j * 5 + 4)).trans Ux.out.2.2.2.2;have pK:=aa gn.out (j * 5);have tN:=aa gn.out (j * 5 + 1);have sN:=aa gn.out (j * 5 + 2);have rN:=aa gn.out (j * 5 + 3);have qN:=aa gn.out (j * 5 + 4);have UR:=ia.mk (Kd.QA (Kd.Mx n5.out Qw.out (fun k_ h1 h2 h3=>h3.elim h2 (fun e=>by have:=h1.2.2.1;omega))) (by omega) p2 (seg:=[.slice A5 g5[j].f0.length c5,.int .i64 0,.int .i64 0,.int .i64 g5[j].f4,.int .i64 0]) (j:=0) (show 0 + 5 ≤ 5 by decide) (x':=(⟨Il Xg Fk (fun _=>none) g5[j].f0,0,0,g5[j].f4,0⟩:lf)) (Vk _ _ _ (⟨Il Xg Fk (fun _=>none) g5[j].f0,0,0,g5[j].f4,0⟩:lf) GW.out) (fun _ h=>h));go_wp2
        go_roundg (g5.length - (j + 1))
        case measure=>omega
        case rel =>
         have Us:=UR.out.1;have hgr:=UR.out.2;rw [← F5.out] at Us
         have hne:∀ {b:Nat} {cs:Array Value} {t:Nat},W9.heap[b]? = some (.cells cs t (0,0))→t ≠ 68→some b ≠ some g:=fun hb ht e=>by
          injection e with e
          subst e;rw [gn.out] at hb;injection hb with hb
          injection hb with _ hb
          exact ht hb.symm
         refine ⟨j + 1,by omega,by omega,by go_num,⟨?_⟩,⟨Kd.Tc (Kd.Xo (Kd.Kg Z4.out) hgr (fun k_ hk=>by
          obtain ⟨_,_,_,q,hq,cells,hc⟩:=hk;rw [List.mem_singleton.1 (show q ∈ [3] from hq)] at hc
          exact hne hc (by decide))) (fun _ _=>trivial)⟩,⟨Oc GI.out hgr (hne GI.out (by decide))⟩,⟨Oc FQ.out hgr (hne FQ.out (by decide))⟩,⟨UG.out.grown hgr UG.out.size (fun k_ e=>by injection e with e;rw [← e];exact k6.out.1)⟩,⟨Oc lR.out hgr (hne lR.out (by decide))⟩⟩
         have Lt:((g5.map (Sn (fun _=>none))).take j ++ g5.drop j).set (Int.toNat (j:Int)) (Sn (fun _=>none) g5[j])=(g5.map (Sn (fun _=>none))).take (j + 1) ++ g5.drop (j + 1):=by
          rw [VY.out,Int.toNat_natCast,Sq _ _ b6.out,List.take_succ_eq_append_getElem (by rw [List.length_map];exact hlt),List.getElem_map]
         rw [← Lt];exact Kd.xg Us (fun _ _=>trivial)
       ·have b0:(va == 0)=false:=beq_eq_false_iff_ne.2 h0;have F5:=ia.mk (show Sn (fun _=>none) g5[j]=(⟨Il Xg Fk (fun _=>none) g5[j].f0,0,0,g5[j].f3,0⟩:lf) from by unfold Sn zA;rw [if_pos ⟨h1,GG.out⟩,SR.out GG.out,if_neg h0]);clear h0 h1;have Qw:=ia.mk (show Kept W1 (((((wr.setCell ⟨gx,0,none⟩ (.slice A5 g5[j].f0.length c5)).setCell ⟨gx,1,none⟩ (.int .i64 0)).setCell ⟨gx,2,none⟩ (.int .i64 0)).setCell ⟨gx,3,none⟩ (.int .i64 g5[j].f3)).setCell ⟨gx,4,none⟩ (.int .i64 0)) _ from (Kept.setCell (p:=⟨gx,4,none⟩) (Kept.setCell (p:=⟨gx,3,none⟩) (Kept.setCell (p:=⟨gx,2,none⟩) (Kept.setCell (p:=⟨gx,1,none⟩) (Kept.setCell (p:=⟨gx,0,none⟩) (HS.out.k.mono (fun k_ h=>(Or.inl h:Zj k_ ∨ k_=gx))) (Or.inl (Or.inr rfl)) (.slice A5 g5[j].f0.length c5)) (Or.inl (Or.inr rfl)) (.int .i64 0)) (Or.inl (Or.inr rfl)) (.int .i64 0)) (Or.inl (Or.inr rfl)) (.int .i64 g5[j].f3)) (Or.inl (Or.inr rfl)) (.int .i64 0)));have GW:=ia.mk (show Kd.R _ _ (((((wr.setCell ⟨gx,0,none⟩ (.slice A5 g5[j].f0.length c5)).setCell ⟨gx,1,none⟩ (.int .i64 0)).setCell ⟨gx,2,none⟩ (.int .i64 0)).setCell ⟨gx,3,none⟩ (.int .i64 g5[j].f3)).setCell ⟨gx,4,none⟩ (.int .i64 0)) _ _ _ _ from (Kd.Eb (Kd.Eb (Kd.Eb (Kd.Eb (Kd.Eb (Kd.Tc HS.out.x (fun _ hk=>hk.1)) (p:=⟨gx,0,none⟩) (fun k_ h e=>kN.out ((show k_=gx from e) ▸ h)) (.slice A5 g5[j].f0.length c5)) (p:=⟨gx,1,none⟩) (fun k_ h e=>kN.out ((show k_=gx from e) ▸ h)) (.int .i64 0)) (p:=⟨gx,2,none⟩) (fun k_ h e=>kN.out ((show k_=gx from e) ▸ h)) (.int .i64 0)) (p:=⟨gx,3,none⟩) (fun k_ h e=>kN.out ((show k_=gx from e) ▸ h)) (.int .i64 g5[j].f3)) (p:=⟨gx,4,none⟩) (fun k_ h e=>kN.out ((show k_=gx from e) ▸ h)) (.int .i64 0)));have UG:=ia.mk (show Below _ _ (((((wr.setCell ⟨gx,0,none⟩ (.slice A5 g5[j].f0.length c5)).setCell ⟨gx,1,none⟩ (.int .i64 0)).setCell ⟨gx,2,none⟩ (.int .i64 0)).setCell ⟨gx,3,none⟩ (.int .i64 g5[j].f3)).setCell ⟨gx,4,none⟩ (.int .i64 0)) from (((((HS.out.bl.setCell (p:=⟨gx,0,none⟩) aM.out.1 (.slice A5 g5[j].f0.length c5)).setCell (p:=⟨gx,1,none⟩) aM.out.1 (.int .i64 0)).setCell (p:=⟨gx,2,none⟩) aM.out.1 (.int .i64 0)).setCell (p:=⟨gx,3,none⟩) aM.out.1 (.int .i64 g5[j].f3)).setCell (p:=⟨gx,4,none⟩) aM.out.1 (.int .i64 0)));have Nx:=ia.mk (show (((((wr.setCell ⟨gx,0,none⟩ (.slice A5 g5[j].f0.length c5)).setCell ⟨gx,1,none⟩ (.int .i64 0)).setCell ⟨gx,2,none⟩ (.int .i64 0)).setCell ⟨gx,3,none⟩ (.int .i64 g5[j].f3)).setCell ⟨gx,4,none⟩ (.int .i64 0)).heap[gx]? = _ from (jb (jb (jb (jb (jb LI.out 0 (.slice A5 g5[j].f0.length c5) rfl) 1 (.int .i64 0) rfl) 2 (.int .i64 0) rfl) 3 (.int .i64 g5[j].f3) rfl) 4 (.int .i64 0) rfl))
        go_upto_region 19 with (fail)
        clear hb0 Sm Li Bx YP rae qae pae oae nae hqk hqv HS LI;generalize (((((wr.setCell ⟨gx,0,none⟩ (.slice A5 g5[j].f0.length c5)).setCell ⟨gx,1,none⟩ (.int .i64 0)).setCell ⟨gx,2,none⟩ (.int .i64 0)).setCell ⟨gx,3,none⟩ (.int .i64 g5[j].f3)).setCell ⟨gx,4,none⟩ (.int .i64 0))=W9 at Qw GW UG Nx ⊢;have hb0:=(ga Nx.out 0).trans rfl;have Sm:=(ga Nx.out 1).trans rfl;have Li:=(ga Nx.out 2).trans rfl;have Bx:=(ga Nx.out 3).trans rfl;have YP:=(ga Nx.out 4).trans rfl;have gn:=ia.mk (ie nB.out.2.2.2.2.1 Qw.out yN.out);have GI:=ia.mk (ie nB.out.2.1 Qw.out e5.out);have FQ:=ia.mk (ie nB.out.2.2.1 Qw.out b5.out);have lR:=ia.mk (ie nB.out.2.2.2.1 Qw.out j5.out);have Z4:=ia.mk (Kd.Ql nB.out.1 Qw.out (fun _ h=>h));have HM:=(ga GI.out 4).trans rfl;have he0:=(ga gn.out (j * 5)).trans Ux.out.1;have he1:=(ga gn.out (j * 5 + 1)).trans Ux.out.2.1;have he2:=(ga gn.out (j * 5 + 2)).trans Ux.out.2.2.1;have he3:=(ga gn.out (j * 5 + 3)).trans Ux.out.2.2.2.1;have he4:=(ga gn.out (j * 5 + 4)).trans Ux.out.2.2.2.2;have pK:=aa gn.out (j * 5);have tN:=aa gn.out (j * 5 + 1);have sN:=aa gn.out (j * 5 + 2);have rN:=aa gn.out (j * 5 + 3);have qN:=aa gn.out (j * 5 + 4);have UR:=ia.mk (Kd.QA (Kd.Mx n5.out Qw.out (fun k_ h1 h2 h3=>h3.elim h2 (fun e=>by have:=h1.2.2.1;omega))) (by omega) p2 (seg:=[.slice A5 g5[j].f0.length c5,.int .i64 0,.int .i64 0,.int .i64 g5[j].f3,.int .i64 0]) (j:=0) (show 0 + 5 ≤ 5 by decide) (x':=(⟨Il Xg Fk (fun _=>none) g5[j].f0,0,0,g5[j].f3,0⟩:lf)) (Vk _ _ _ (⟨Il Xg Fk (fun _=>none) g5[j].f0,0,0,g5[j].f3,0⟩:lf) GW.out) (fun _ h=>h));go_wp2
        go_roundg (g5.length - (j + 1))
        case measure=>omega
        case rel =>
         have Us:=UR.out.1;have hgr:=UR.out.2;rw [← F5.out] at Us
         have hne:∀ {b:Nat} {cs:Array Value} {t:Nat},W9.heap[b]? = some (.cells cs t (0,0))→t ≠ 68→some b ≠ some g:=fun hb ht e=>by
          injection e with e
          subst e;rw [gn.out] at hb;injection hb with hb
          injection hb with _ hb
          exact ht hb.symm
         refine ⟨j + 1,by omega,by omega,by go_num,⟨?_⟩,⟨Kd.Tc (Kd.Xo (Kd.Kg Z4.out) hgr (fun k_ hk=>by
          obtain ⟨_,_,_,q,hq,cells,hc⟩:=hk;rw [List.mem_singleton.1 (show q ∈ [3] from hq)] at hc
          exact hne hc (by decide))) (fun _ _=>trivial)⟩,⟨Oc GI.out hgr (hne GI.out (by decide))⟩,⟨Oc FQ.out hgr (hne FQ.out (by decide))⟩,⟨UG.out.grown hgr UG.out.size (fun k_ e=>by injection e with e;rw [← e];exact k6.out.1)⟩,⟨Oc lR.out hgr (hne lR.out (by decide))⟩⟩
         have Lt:((g5.map (Sn (fun _=>none))).take j ++ g5.drop j).set (Int.toNat (j:Int)) (Sn (fun _=>none) g5[j])=(g5.map (Sn (fun _=>none))).take (j + 1) ++ g5.drop (j + 1):=by
          rw [VY.out,Int.toNat_natCast,Sq _ _ b6.out,List.take_succ_eq_append_getElem (by rw [List.length_map];exact hlt),List.getElem_map]
         rw [← Lt];exact Kd.xg Us (fun _ _=>trivial)
   ·have tH:decide ((j:Int) < (Qa.length:Int))=false:=by rw [HLL.out];exact decide_eq_false (by omega)
    have Baq:¬ j < Qa.length:=by rw [HLL.out];omega
    obtain rfl:j=g5.length:=by omega
    have hs:=HS.out;rw [List.drop_length,List.append_nil,List.take_of_length_le (by rw [List.length_map];omega)] at hs;have HS:=ia.mk hs;clear hs;have hv0:=(ga HV.out 0).trans rfl;have hv1:=(ga HV.out 1).trans rfl;have hv2:=(ga HV.out 2).trans rfl;have AO:=(ga HV.out 3).trans rfl;have HM:=(ga HV.out 4).trans rfl;have hz0:=(ga HZ.out 0).trans rfl;have BZ:=aa HZ.out 0;have hz1:=(ga HZ.out 1).trans rfl;have AZ:=aa HZ.out 1;have hz2:=(ga HZ.out 2).trans rfl;have zZ:=aa HZ.out 2;have hz3:=(ga HZ.out 3).trans rfl;have yZ:=aa HZ.out 3;have hz4:=(ga HZ.out 4).trans rfl;have xZ:=aa HZ.out 4;go_wp2;have SE:=Ds (z:=w.heap.size + 1) (g2:=r2) (g3:=r3) (g4:=r4) HZ.out HO.out HS.out HB.out (Nat.le_succ _);refine bodyPost_ret (results_cell_row rfl _ _ (w.heap.size + 1) 30 #[.slice B0 r1.length d0,.int .i64 r2,.int .i64 r3,.int .i64 r4,.slice B4 g5.length d4] (0,0) _ rfl SE.1 Try.underlying30 rfl (by kernel_rfl)) rfl ?_;exact ⟨_,_,rfl,SE.2.1,SE.2.2.1,SE.2.2.2⟩
theorem U1 {n0:Nat} {s:Int} {x:ue} (h:Wk n0 s x=true) (hs:0 ≤ s) (hs':s ≤ 1000) (hw:(Lit.int .i64 x.f5).wf=true):GX s x=true:=by
 refine kE.2 ⟨?_,hw⟩;unfold Wk Xk at h
 by_cases o0:x.f0=0
 ·simp [o0,nk] at h ⊢;omega
 by_cases o1:x.f0=1
 ·simp [o1,nk] at h ⊢;omega
 by_cases o2:x.f0=2
 ·simp [o2,nk] at h ⊢;omega
 by_cases o3:x.f0=3
 ·simp [o3,nk] at h ⊢;omega
 by_cases o4:x.f0=4
 ·simp [o4,nk] at h ⊢;omega
 by_cases o5:x.f0=5
 ·simp [o5,nk] at h ⊢;omega
 by_cases o6:x.f0=6
 ·simp [o6,nk] at h ⊢;omega
 simp [o0,o1,o2,o3,o4,o5,o6] at h
theorem Jaf {l0:List Int} {s:Int} {l4:List lf} {b:lf} (h:Wm l0 s l4 b=true) (hs:0 ≤ s) (hs':s ≤ 1000):(b.f1=1→0 ≤ b.f2∧b.f2 < s)∧-1 ≤ b.f2∧b.f2 ≤ 1000:=by
 unfold Wm Yj at h;simp only [Bool.and_eq_true] at h;have h2:=h.2
 by_cases h0:b.f1=0
 ·rw [if_pos h0] at h2;simp at h2;omega
 ·rw [if_neg h0] at h2
  by_cases h1:b.f1=1
  ·rw [if_pos h1] at h2;simp [nk] at h2;omega
  ·rw [if_neg h1] at h2
   by_cases h3:b.f1=2
   ·rw [if_pos h3] at h2;simp [nk] at h2;omega
   ·rw [if_neg h3] at h2;simp at h2
theorem bQ {l0:List Int} {p v s:Int} {l4:List lf} (h:Dl l0 p v s l4=true) (hw:∀ b ∈ l4,∀ i ∈ b.f0,(Lit.int .i64 i.f5).wf=true):0 ≤ s∧s ≤ 1000∧(l4.all fun b=>OH s b)=true:=by
 obtain ⟨hh,hb,ht⟩:=gE h;have hd:=LM hh;refine ⟨by omega,by omega,?_⟩;rw [List.all_eq_true];intro b hm;have hk:=hb b hm;have hc:=Ew l4 b hm;have hi:=oI hk;exact AA.2 ⟨⟨by omega,fun x hx=>U1 (hi x hx) (by omega) (by omega) (hw b hm x hx)⟩,Jaf hk (by omega) (by omega)⟩
def V1 (l0:List Int) (p v s:Int) (l4:List lf):List lf:=if Dl l0 p v s l4=true then l4.map (Sn (fun _=>none)) else l4
theorem QH (f:Int→Option Int) (b:lf):(Sn f b).f0.length=b.f0.length:=by
 unfold Sn
 split <;> simp [Gj]
theorem iW (l0:List Int) (p v s:Int) (l4:List lf) (h0:l0.length ≤ 1048576) (hl:l4.length ≤ 1048576) (ht:Nd l4 ≤ 1048576) (hw:∀ b ∈ l4,∀ i ∈ b.f0,(Lit.int .i64 i.f5).wf=true) :
  ∃ r,Ev (fun k=>Kl.f k l0 p v s l4) r∧Ev (fun k=>Mk.f k l0 p v s l4) r∧r.1.length ≤ 1048576∧r.2.2.2.2.length ≤ 1048576∧Nd r.2.2.2.2 ≤ 1048576:=by
 refine ⟨(l0,p,v,s,V1 l0 p v s l4),?_,?_,h0,?_,?_⟩
 ·unfold Kl.f;refine Ev.bind (WH h0 hl ht) (Ev.bind (aI h0 hl ht) ?_);unfold V1
  by_cases hg:Dl l0 p v s l4=true
  ·rw [if_pos hg,if_pos hg];obtain ⟨a,b,c⟩:=bQ hg hw;exact Ev.pos ⟨a,b,rfl,c⟩ (Ev.now _)
  ·rw [if_neg hg,if_neg hg];exact Ev.now _
 ·unfold Mk.f;refine Ev.bind (lE h0 hl ht) (Ev.bind (XH h0 hl ht) ?_);unfold V1
  by_cases hg:Dl l0 p v s l4=true
  ·rw [if_pos hg,if_pos hg];obtain ⟨a,b,c⟩:=bQ hg hw;exact Ev.pos ⟨a,b,c⟩ (Ev.now _)
  ·rw [if_neg hg,if_neg hg];exact Ev.now _
 ·show (V1 l0 p v s l4).length ≤ _
  unfold V1
  split
  ·rw [List.length_map];exact hl
  ·exact hl
 ·show Nd (V1 l0 p v s l4) ≤ _
  unfold V1
  split
  ·have e:Nd (l4.map (Sn (fun _=>none)))=Nd l4:=by
    unfold Nd;rw [List.map_map]
    congr 1
    exact List.map_congr_left (fun b _=>QH _ b)
   rw [e];exact ht
  ·exact ht
theorem NM (x:T3) (hf:GL x):∀ b ∈ x.f4.map zg,∀ i ∈ b.f0,(Lit.int .i64 i.f5).wf=true:=by
 obtain ⟨_,_,_,_,h4⟩:=hf;intro b hb i hi;obtain ⟨y,hy,rfl⟩:=List.mem_map.1 hb;obtain ⟨z,hz,rfl⟩:=List.mem_map.1 hi;have h:=((h4.2 y hy).1.2 z hz).2.2.2.2.2.1;unfold iq at h;exact WalkArith.wf_i64 (show _∧_ from ⟨h.1,h.2⟩)
attribute [local go_sem] Ph Nh Oi Ni gh fh Oh Mh
def ec.l0:Nat→List (ue)→Int→Int→Option (Int)
 | 0,_,_,_=>none
 | k + 1,x0,x1,x5=>if x5 < (x0.length:Int) then (if 0 ≤ x5 then (if ((Ia x0 x5).f0)=x1 then (if ((Ia x0 x5).f1)=(wrap64 (x1 + 1)) then (if ((Ia x0 x5).f2)=(wrap64 ((wrap64 (x1 + 1)) + 1)) then (if ((Ia x0 x5).f3)=(wrap64 ((wrap64 ((wrap64 (x1 + 1)) + 1)) + 1)) then (if ((Ia x0 x5).f4)=(wrap64 ((wrap64 ((wrap64 ((wrap64 (x1 + 1)) + 1)) + 1)) + 1)) then (if ((Ia x0 x5).f5)=(wrap64 ((wrap64 ((wrap64 ((wrap64 ((wrap64 (x1 + 1)) + 1)) + 1)) + 1)) + 1)) then ((ld.f k (wrap64 ((wrap64 ((wrap64 ((wrap64 ((wrap64 ((wrap64 (x1 + 1)) + 1)) + 1)) + 1)) + 1)) + 1))).bind fun t108=>(if ((Ia x0 x5).f6).toList=t108.toList then (ec.l0 k x0 (wrap64 ((wrap64 ((wrap64 ((wrap64 ((wrap64 ((wrap64 ((wrap64 (x1 + 1)) + 1)) + 1)) + 1)) + 1)) + 1)) + 1)) (wrap64 (x5 + 1))) else (some (-1)))) else (some (-1))) else (some (-1))) else (some (-1))) else (some (-1))) else (some (-1))) else (some (-1))) else (none)) else (some x1)
def ec.f (k:Nat) (l0:List (ue)) (a1:Int):Option (Int):=ec.l0 k l0 a1 0
def ec.T22:Bool × List (List Nat × List Nat):=(true,[([],[]),([],[]),([0,1],[0,1]),([2],[2]),([3],[3]),([],[]),([5],[5]),([4,6],[4,6])])
def ec.B22:List Nat:=[0,0,3,7,15,0,32,127]
theorem ec.UW:Ll .any (opsOf Try.f103 22)=ec.T22:=by kernel_rfl
theorem ec.sQ:Qk ec.T22.2 ec.B22=true:=by kernel_rfl
theorem ec.calls (k:Nat) (A0:Option Addr) (c0:Nat) (l0:List (ue)) (a1:Int) (r:Int) (w:World) (ak:Kd.C Di w A0 l0.length l0) (hc0:l0.length ≤ c0) (h:ec.f k l0 a1=some r) :
  Calls Try.prog 103 #[.slice A0 l0.length c0,.int .i64 a1] w fun e w'=>e = .returned (.int .i64 r)∧Below w.heap.size w w':=by
 have qh:=ia.mk ak;have JG:=ia.mk hc0;clear ak hc0;have HB:=ia.mk (Below.refl w.heap.size w);have H:(ec.l0 k l0 a1 0)=some r:=h;clear h;have H':=ia.mk H;clear H;go_enter Try.func103,Try.ntmps103;go_wp2
 go_loopg [1,5] k (fun kq v1 v5 w'=>∃ (od:Int) (Fa:Int),v1 = .int .i64 od∧v5 = .int .i64 Fa∧ia (ec.l0 kq l0 od Fa=some r)∧ia (kq ≤ k)∧ia (Below w.heap.size w w'))
 case atStart=>exact ⟨(a1),(0),(by first|rfl|(simp;done)|(simp [*];done)),(by first|rfl|(simp;done)|(simp [*];done)),H',⟨Nat.le_refl _⟩,⟨by repeat (first|(with_reducible first|exact HB.out|apply ta|apply ja|apply ua)|exact HB.out)⟩⟩
 case round =>
  clear H'
  try clear c1
  try clear p2
  (try clear HA);(try clear Wh);(try clear HB);obtain ⟨od,Fa,rfl,rfl,HA,Wh,HB⟩:=hrel;cases gk with
  | zero=>exact absurd HA.out (by simp [ec.l0])
  | succ k1 =>
   have H:=HA.out;clear HA;simp only [ec.l0] at H
   by_cases c3:Fa < (l0.length:Int)
   ·rw [if_pos c3] at H;have Xh:decide (Fa < (l0.length:Int))=true:=decide_eq_true c3;clear c3
    by_cases c4:0 ≤ Fa
    ·rw [if_pos c4] at H;have Zi:decide (0 ≤ Fa)=true:=decide_eq_true c4;clear c4
     by_cases c5:((Ia l0 Fa).f0)=od
     ·rw [if_pos c5] at H;have en:(((Ia l0 Fa).f0) == od)=true:=beq_iff_eq.mpr c5;have Nq:(((Ia l0 Fa).f0) != od)=false:=bne_eq_false_iff_eq.mpr c5;clear c5
      by_cases c6:((Ia l0 Fa).f1)=(wrap64 (od + 1))
      ·rw [if_pos c6] at H;have dn:(((Ia l0 Fa).f1) == (wrap64 (od + 1)))=true:=beq_iff_eq.mpr c6;have Gx:(((Ia l0 Fa).f1) != (wrap64 (od + 1)))=false:=bne_eq_false_iff_eq.mpr c6;clear c6
       by_cases c7:((Ia l0 Fa).f2)=(wrap64 ((wrap64 (od + 1)) + 1))
       ·rw [if_pos c7] at H;have Jl:(((Ia l0 Fa).f2) == (wrap64 ((wrap64 (od + 1)) + 1)))=true:=beq_iff_eq.mpr c7;have Mq:(((Ia l0 Fa).f2) != (wrap64 ((wrap64 (od + 1)) + 1)))=false:=bne_eq_false_iff_eq.mpr c7;clear c7
        by_cases c8:((Ia l0 Fa).f3)=(wrap64 ((wrap64 ((wrap64 (od + 1)) + 1)) + 1))
        ·rw [if_pos c8] at H;have Gp:(((Ia l0 Fa).f3) == (wrap64 ((wrap64 ((wrap64 (od + 1)) + 1)) + 1)))=true:=beq_iff_eq.mpr c8;have fy:(((Ia l0 Fa).f3) != (wrap64 ((wrap64 ((wrap64 (od + 1)) + 1)) + 1)))=false:=bne_eq_false_iff_eq.mpr c8;clear c8
         by_cases c9:((Ia l0 Fa).f4)=(wrap64 ((wrap64 ((wrap64 ((wrap64 (od + 1)) + 1)) + 1)) + 1))
         ·rw [if_pos c9] at H;have Hw:(((Ia l0 Fa).f4) == (wrap64 ((wrap64 ((wrap64 ((wrap64 (od + 1)) + 1)) + 1)) + 1)))=true:=beq_iff_eq.mpr c9;have qE:(((Ia l0 Fa).f4) != (wrap64 ((wrap64 ((wrap64 ((wrap64 (od + 1)) + 1)) + 1)) + 1)))=false:=bne_eq_false_iff_eq.mpr c9;clear c9
          by_cases Fs:((Ia l0 Fa).f5)=(wrap64 ((wrap64 ((wrap64 ((wrap64 ((wrap64 (od + 1)) + 1)) + 1)) + 1)) + 1))
          ·rw [if_pos Fs] at H;have KA:(((Ia l0 Fa).f5) == (wrap64 ((wrap64 ((wrap64 ((wrap64 ((wrap64 (od + 1)) + 1)) + 1)) + 1)) + 1)))=true:=beq_iff_eq.mpr Fs;have JA:(((Ia l0 Fa).f5) != (wrap64 ((wrap64 ((wrap64 ((wrap64 ((wrap64 (od + 1)) + 1)) + 1)) + 1)) + 1)))=false:=bne_eq_false_iff_eq.mpr Fs;clear Fs;replace H:=Option.bind_eq_some_iff.mp H;obtain ⟨t108,MG,H⟩:=H;replace H:(if ((Ia l0 Fa).f6).toList=t108.toList then (ec.l0 k1 l0 (wrap64 ((wrap64 ((wrap64 ((wrap64 ((wrap64 ((wrap64 ((wrap64 (od + 1)) + 1)) + 1)) + 1)) + 1)) + 1)) + 1)) (wrap64 (Fa + 1))) else (some (-1)))=some r:=H;have nS:=ia.mk MG;clear MG
           by_cases BB:((Ia l0 Fa).f6).toList=t108.toList
           ·rw [if_pos BB] at H;have Gaf:(((Ia l0 Fa).f6).toList == t108.toList)=true:=beq_iff_eq.mpr BB;have Faf:(((Ia l0 Fa).f6).toList != t108.toList)=false:=bne_eq_false_iff_eq.mpr BB;clear BB;have H':=ia.mk H;clear H;have Td:0 ≤ (Fa:Int):=of_decide_eq_true (by first|(with_reducible assumption)|assumption);have Sd:Fa < (l0.length:Int):=of_decide_eq_true (by first|(with_reducible assumption)|assumption);obtain ⟨mc,Sg,uc,Nc,Mc,Lc,Jc,Je,Ie⟩:=kf qh.out Fa Td Sd;cases Sg;replace uc:=Ea HB.out uc;replace Nc:=Ea HB.out Nc;replace Mc:=Ea HB.out Mc;replace Lc:=Ea HB.out Lc;replace Jc:=Ea HB.out Jc;replace Je:=Ea HB.out Je;replace Ie:=Ea HB.out Ie;replace Td:=eq_true Td;replace Sd:=eq_true Sd;have Mg:0 ≤ (Fa:Int):=of_decide_eq_true (by first|(with_reducible assumption)|assumption);have Lg:Fa < (l0.length:Int):=of_decide_eq_true (by first|(with_reducible assumption)|assumption);obtain ⟨Me,El,Ld,He,Ge,Fe,Ee,Rf,Qf⟩:=kf qh.out Fa Mg Lg;obtain rfl:mc=Me:=(by injection El);replace Ld:=Ea HB.out Ld;replace He:=Ea HB.out He;replace Ge:=Ea HB.out Ge;replace Fe:=Ea HB.out Fe;replace Ee:=Ea HB.out Ee;replace Rf:=Ea HB.out Rf;replace Qf:=Ea HB.out Qf;replace Mg:=eq_true Mg;replace Lg:=eq_true Lg;have Zg:0 ≤ (Fa:Int):=of_decide_eq_true (by first|(with_reducible assumption)|assumption);have Yg:Fa < (l0.length:Int):=of_decide_eq_true (by first|(with_reducible assumption)|assumption);obtain ⟨Ef,Nl,Bd,Ae,ze,ye,xe,pg,ng⟩:=kf qh.out Fa Zg Yg;obtain rfl:mc=Ef:=(by injection Nl);replace Bd:=Ea HB.out Bd;replace Ae:=Ea HB.out Ae;replace ze:=Ea HB.out ze;replace ye:=Ea HB.out ye;replace xe:=Ea HB.out xe;replace pg:=Ea HB.out pg;replace ng:=Ea HB.out ng;replace Zg:=eq_true Zg;replace Yg:=eq_true Yg;have bh:0 ≤ (Fa:Int):=of_decide_eq_true (by first|(with_reducible assumption)|assumption);have ah:Fa < (l0.length:Int):=of_decide_eq_true (by first|(with_reducible assumption)|assumption);obtain ⟨xj,Ml,Ud,Df,Cf,Bf,Af,qi,ni⟩:=kf qh.out Fa bh ah;obtain rfl:mc=xj:=(by injection Ml);replace Ud:=Ea HB.out Ud;replace Df:=Ea HB.out Df;replace Cf:=Ea HB.out Cf;replace Bf:=Ea HB.out Bf;replace Af:=Ea HB.out Af;replace qi:=Ea HB.out qi;replace ni:=Ea HB.out ni;replace bh:=eq_true bh;replace ah:=eq_true ah;have Bj:0 ≤ (Fa:Int):=of_decide_eq_true (by first|(with_reducible assumption)|assumption);have Aj:Fa < (l0.length:Int):=of_decide_eq_true (by first|(with_reducible assumption)|assumption);obtain ⟨Hi,Lq,Yf,Eg,Dg,Cg,Bg,cl,Zk⟩:=kf qh.out Fa Bj Aj;obtain rfl:mc=Hi:=(by injection Lq);replace Yf:=Ea HB.out Yf;replace Eg:=Ea HB.out Eg;replace Dg:=Ea HB.out Dg;replace Cg:=Ea HB.out Cg;replace Bg:=Ea HB.out Bg;replace cl:=Ea HB.out cl;replace Zk:=Ea HB.out Zk;replace Bj:=eq_true Bj;replace Aj:=eq_true Aj;have Rp:0 ≤ (Fa:Int):=of_decide_eq_true (by first|(with_reducible assumption)|assumption);have Pp:Fa < (l0.length:Int):=of_decide_eq_true (by first|(with_reducible assumption)|assumption);obtain ⟨Lw,nE,Ei,jj,ij,gj,ej,ko,jo⟩:=kf qh.out Fa Rp Pp;obtain rfl:mc=Lw:=(by injection nE);replace Ei:=Ea HB.out Ei;replace jj:=Ea HB.out jj;replace ij:=Ea HB.out ij;replace gj:=Ea HB.out gj;replace ej:=Ea HB.out ej;replace ko:=Ea HB.out ko;replace jo:=Ea HB.out jo;replace Rp:=eq_true Rp;replace Pp:=eq_true Pp
            try go_wp2
            have Kb:=ia.mk (ua HB.out);clear HB;have HB:=Kb;clear Kb;have kH:0 ≤ (Fa:Int):=of_decide_eq_true (by first|(with_reducible assumption)|assumption);have iH:Fa < (l0.length:Int):=of_decide_eq_true (by first|(with_reducible assumption)|assumption);obtain ⟨uQ,J2,Cn,Bn,zn,vn,tn,sn,qn⟩:=kf qh.out Fa kH iH;have Hu:=qn;have Iu:=sn;have Ju:=tn;have Ku:=vn;have Lu:=zn;have Mu:=Bn;have Nu:=Cn;obtain rfl:mc=uQ:=(by injection J2);replace Cn:=Ea HB.out Cn;replace Bn:=Ea HB.out Bn;replace zn:=Ea HB.out zn;replace vn:=Ea HB.out vn;replace tn:=Ea HB.out tn;replace sn:=Ea HB.out sn;replace qn:=Ea HB.out qn;replace kH:=eq_true kH;replace iH:=eq_true iH;refine Mi (n:=8) (S:=fun w'=>w'.cell? (mc.add ((Fa).toNat * 7))=some (.int .i64 ((Ia l0 Fa).f0))∧w'.cell? ⟨(mc.add ((Fa).toNat * 7)).block,(mc.add ((Fa).toNat * 7)).off + 1,none⟩=some (.int .i64 ((Ia l0 Fa).f1))∧w'.cell? ⟨(mc.add ((Fa).toNat * 7)).block,(mc.add ((Fa).toNat * 7)).off + 2,none⟩=some (.int .i64 ((Ia l0 Fa).f2))∧w'.cell? ⟨(mc.add ((Fa).toNat * 7)).block,(mc.add ((Fa).toNat * 7)).off + 3,none⟩=some (.int .i64 ((Ia l0 Fa).f3))∧w'.cell? ⟨(mc.add ((Fa).toNat * 7)).block,(mc.add ((Fa).toNat * 7)).off + 4,none⟩=some (.int .i64 ((Ia l0 Fa).f4))∧w'.cell? ⟨(mc.add ((Fa).toNat * 7)).block,(mc.add ((Fa).toNat * 7)).off + 5,none⟩=some (.int .i64 ((Ia l0 Fa).f5))∧w'.cell? ⟨(mc.add ((Fa).toNat * 7)).block,(mc.add ((Fa).toNat * 7)).off + 6,none⟩=some (.string ((Ia l0 Fa).f6))) (ds:=[]) #[false,false,false,false,false,false,false,false] (by kernel_rfl) rfl rfl ⟨(Ea HB.out Nu),(Ea HB.out Mu),(Ea HB.out Lu),(Ea HB.out Ku),(Ea HB.out Ju),(Ea HB.out Iu),(Ea HB.out Hu)⟩ (fun hHeld=>?_);refine dh ec.UW ec.sQ (fun We Jm=>?_);generalize wr.drew=dF at HB Cn Bn zn vn tn sn qn hHeld ⊢;refine Ic (i:=0) (N:=some 66) (v:=?_) (a':=?_) #[true,false,false,false,false,false,false,false] rfl rfl (nc We.out (by kernel_rfl)) (fun _ _ _ h=>h) (Or.inl ⟨by rfl,?_⟩) ?_ ?_;rotate_left
            ·intro w';go_simp;with_reducible rfl
            rotate_left
            ·simp only [Act.put,List.setIfInBounds_toArray,List.set_cons_zero,List.set_cons_succ,Cb,Db]
             rfl
            refine Ic (i:=1) (N:=some 67) (v:=?_) (a':=?_) #[true,true,false,false,false,false,false,false] rfl rfl (nc We.out (by kernel_rfl)) (fun _ _ _ h=>h) (Or.inl ⟨by rfl,?_⟩) ?_ ?_;rotate_left
            ·intro w';go_simp;with_reducible rfl
            rotate_left
            ·simp only [Act.put,List.setIfInBounds_toArray,List.set_cons_zero,List.set_cons_succ,Cb,Db]
             rfl
            refine Ic (i:=2) (N:=some 68) (v:=?_) (a':=?_) #[true,true,true,false,false,false,false,false] rfl rfl (nc We.out (by kernel_rfl)) (fun _ _ _ h=>h) (Or.inl ⟨by rfl,?_⟩) ?_ ?_;rotate_left
            ·intro w';go_simp;with_reducible rfl
            rotate_left
            ·simp only [Act.put,List.setIfInBounds_toArray,List.set_cons_zero,List.set_cons_succ,Cb,Db]
             rfl
            refine Ic (i:=3) (N:=some 69) (v:=?_) (a':=?_) #[true,true,true,true,false,false,false,false] rfl rfl (nc We.out (by kernel_rfl)) (fun _ _ _ h=>h) (Or.inl ⟨by rfl,?_⟩) ?_ ?_;rotate_left
            ·intro w';go_simp;with_reducible rfl
            rotate_left
            ·simp only [Act.put,List.setIfInBounds_toArray,List.set_cons_zero,List.set_cons_succ,Cb,Db]
             rfl
            refine Ic (i:=5) (N:=some 71) (v:=?_) (a':=?_) #[true,true,true,true,false,true,false,false] rfl rfl (nc We.out (by kernel_rfl)) (fun _ _ _ h=>h) (Or.inl ⟨by rfl,?_⟩) ?_ ?_;rotate_left
            ·intro w';go_simp;with_reducible rfl
            rotate_left
            ·simp only [Act.put,List.setIfInBounds_toArray,List.set_cons_zero,List.set_cons_succ,Cb,Db]
             rfl
            refine Mf (i:=4) (N:=some 70) (v:=?_) (a':=?_) #[true,true,true,true,true,true,false,false] rfl rfl (Od We.out Jm.out (by kernel_rfl)) (fun _ _ _ h=>h) (Or.inl ⟨by rfl,?_⟩) hHeld ?_ ?_;rotate_left
            ·rintro w' ⟨s0,s1,s2,s3,s4,s5,s6⟩;go_simp;with_reducible rfl
            rotate_left
            ·simp only [Act.put,List.setIfInBounds_toArray,List.set_cons_zero,List.set_cons_succ,Cb,Db]
             rfl
            refine Gq (i:=6) (N:=some 72) #[true,true,true,true,true,true,true,false] rfl rfl (jk We.out (by kernel_rfl)) (by decide) (fun K hK=>?_);refine Um Try.func121 (by kernel_rfl) rfl #[.int .i64 (wrap64 ((wrap64 ((wrap64 ((wrap64 ((wrap64 ((wrap64 (od + 1)) + 1)) + 1)) + 1)) + 1)) + 1))] (by rfl) rfl rfl (by (try simp only [List.map_toArray,List.map_cons,List.map_nil]);first|done|rfl|(simp only [List.length_drop,List.length_take];rfl)) ?_;with_reducible refine (ld.calls k1 (wrap64 ((wrap64 ((wrap64 ((wrap64 ((wrap64 ((wrap64 (od + 1)) + 1)) + 1)) + 1)) + 1)) + 1)) t108 _ nS.out).mono ?_
            rintro e Ns ⟨rfl,hb⟩;refine ⟨_,rfl,?_⟩;have Kb:=ia.mk (Ra (by repeat (first|(with_reducible first|exact HB.out|apply ta|apply ja|apply ua)|exact HB.out)) hb);clear HB;have HB:=Kb;clear Kb;(try clear hb);(try clear Li);(try clear hk);(try clear hi);refine hK.out _ _ ⟨(Ea HB.out Nu),(Ea HB.out Mu),(Ea HB.out Lu),(Ea HB.out Ku),(Ea HB.out Ju),(Ea HB.out Iu),(Ea HB.out Hu)⟩ (fun hHeld=>?_);clear hK K;refine Mm (a':=?_) ?_ ?_;rotate_left
            ·show Act.put _ (some 72) _=_
             simp only [Act.put,List.setIfInBounds_toArray,List.set_cons_zero,List.set_cons_succ,Cb,Db]
             rfl
            refine Ic (i:=7) (N:=some 73) (v:=?_) (a':=?_) #[true,true,true,true,true,true,true,true] rfl rfl (nc We.out (by kernel_rfl)) (fun _ _ _ h=>h) (Or.inl ⟨by rfl,?_⟩) ?_ ?_;rotate_left
            ·intro w';go_simp;with_reducible rfl
            rotate_left
            ·simp only [Act.put,List.setIfInBounds_toArray,List.set_cons_zero,List.set_cons_succ,Cb,Db]
             rfl
            refine Fl (Vi We.out (by kernel_rfl)) ?_
            try go_wp2
            go_roundg k1
            case measure=>have:=Wh.out;omega
            case rel=>exact ⟨(wrap64 ((wrap64 ((wrap64 ((wrap64 ((wrap64 ((wrap64 ((wrap64 (od + 1)) + 1)) + 1)) + 1)) + 1)) + 1)) + 1)),(wrap64 (Fa + 1)),(by first|rfl|(simp;done)|(simp [*];done)),(by first|rfl|(simp;done)|(simp [*];done)),H',⟨by have:=Wh.out;omega⟩,⟨by repeat (first|(with_reducible first|exact HB.out|apply ta|apply ja|apply ua)|exact HB.out)⟩⟩
           ·rw [if_neg BB] at H;have Gaf:(((Ia l0 Fa).f6).toList == t108.toList)=false:=beq_eq_false_iff_ne.mpr BB;have Faf:(((Ia l0 Fa).f6).toList != t108.toList)=true:=bne_iff_ne.mpr BB;obtain rfl:=Option.some.inj H;have Td:0 ≤ (Fa:Int):=of_decide_eq_true (by first|(with_reducible assumption)|assumption);have Sd:Fa < (l0.length:Int):=of_decide_eq_true (by first|(with_reducible assumption)|assumption);obtain ⟨mc,Sg,uc,Nc,Mc,Lc,Jc,Je,Ie⟩:=kf qh.out Fa Td Sd;cases Sg;replace uc:=Ea HB.out uc;replace Nc:=Ea HB.out Nc;replace Mc:=Ea HB.out Mc;replace Lc:=Ea HB.out Lc;replace Jc:=Ea HB.out Jc;replace Je:=Ea HB.out Je;replace Ie:=Ea HB.out Ie;replace Td:=eq_true Td;replace Sd:=eq_true Sd;have Mg:0 ≤ (Fa:Int):=of_decide_eq_true (by first|(with_reducible assumption)|assumption);have Lg:Fa < (l0.length:Int):=of_decide_eq_true (by first|(with_reducible assumption)|assumption);obtain ⟨Me,El,Ld,He,Ge,Fe,Ee,Rf,Qf⟩:=kf qh.out Fa Mg Lg;obtain rfl:mc=Me:=(by injection El);replace Ld:=Ea HB.out Ld;replace He:=Ea HB.out He;replace Ge:=Ea HB.out Ge;replace Fe:=Ea HB.out Fe;replace Ee:=Ea HB.out Ee;replace Rf:=Ea HB.out Rf;replace Qf:=Ea HB.out Qf;replace Mg:=eq_true Mg;replace Lg:=eq_true Lg;have Zg:0 ≤ (Fa:Int):=of_decide_eq_true (by first|(with_reducible assumption)|assumption);have Yg:Fa < (l0.length:Int):=of_decide_eq_true (by first|(with_reducible assumption)|assumption);obtain ⟨Ef,Nl,Bd,Ae,ze,ye,xe,pg,ng⟩:=kf qh.out Fa Zg Yg;obtain rfl:mc=Ef:=(by injection Nl);replace Bd:=Ea HB.out Bd;replace Ae:=Ea HB.out Ae;replace ze:=Ea HB.out ze;replace ye:=Ea HB.out ye;replace xe:=Ea HB.out xe;replace pg:=Ea HB.out pg;replace ng:=Ea HB.out ng;replace Zg:=eq_true Zg;replace Yg:=eq_true Yg;have bh:0 ≤ (Fa:Int):=of_decide_eq_true (by first|(with_reducible assumption)|assumption);have ah:Fa < (l0.length:Int):=of_decide_eq_true (by first|(with_reducible assumption)|assumption);obtain ⟨xj,Ml,Ud,Df,Cf,Bf,Af,qi,ni⟩:=kf qh.out Fa bh ah;obtain rfl:mc=xj:=(by injection Ml);replace Ud:=Ea HB.out Ud;replace Df:=Ea HB.out Df;replace Cf:=Ea HB.out Cf;replace Bf:=Ea HB.out Bf;replace Af:=Ea HB.out Af;replace qi:=Ea HB.out qi;replace ni:=Ea HB.out ni;replace bh:=eq_true bh;replace ah:=eq_true ah;have Bj:0 ≤ (Fa:Int):=of_decide_eq_true (by first|(with_reducible assumption)|assumption);have Aj:Fa < (l0.length:Int):=of_decide_eq_true (by first|(with_reducible assumption)|assumption);obtain ⟨Hi,Lq,Yf,Eg,Dg,Cg,Bg,cl,Zk⟩:=kf qh.out Fa Bj Aj;obtain rfl:mc=Hi:=(by injection Lq);replace Yf:=Ea HB.out Yf;replace Eg:=Ea HB.out Eg;replace Dg:=Ea HB.out Dg;replace Cg:=Ea HB.out Cg;replace Bg:=Ea HB.out Bg;replace cl:=Ea HB.out cl;replace Zk:=Ea HB.out Zk;replace Bj:=eq_true Bj;replace Aj:=eq_true Aj;have Rp:0 ≤ (Fa:Int):=of_decide_eq_true (by first|(with_reducible assumption)|assumption);have Pp:Fa < (l0.length:Int):=of_decide_eq_true (by first|(with_reducible assumption)|assumption);obtain ⟨Lw,nE,Ei,jj,ij,gj,ej,ko,jo⟩:=kf qh.out Fa Rp Pp;obtain rfl:mc=Lw:=(by injection nE);replace Ei:=Ea HB.out Ei;replace jj:=Ea HB.out jj;replace ij:=Ea HB.out ij;replace gj:=Ea HB.out gj;replace ej:=Ea HB.out ej;replace ko:=Ea HB.out ko;replace jo:=Ea HB.out jo;replace Rp:=eq_true Rp;replace Pp:=eq_true Pp
            try go_wp2
            have Kb:=ia.mk (ua HB.out);clear HB;have HB:=Kb;clear Kb;have kH:0 ≤ (Fa:Int):=of_decide_eq_true (by first|(with_reducible assumption)|assumption);have iH:Fa < (l0.length:Int):=of_decide_eq_true (by first|(with_reducible assumption)|assumption);obtain ⟨uQ,J2,Cn,Bn,zn,vn,tn,sn,qn⟩:=kf qh.out Fa kH iH;have Hu:=qn;have Iu:=sn;have Ju:=tn;have Ku:=vn;have Lu:=zn;have Mu:=Bn;have Nu:=Cn;obtain rfl:mc=uQ:=(by injection J2);replace Cn:=Ea HB.out Cn;replace Bn:=Ea HB.out Bn;replace zn:=Ea HB.out zn;replace vn:=Ea HB.out vn;replace tn:=Ea HB.out tn;replace sn:=Ea HB.out sn;replace qn:=Ea HB.out qn;replace kH:=eq_true kH;replace iH:=eq_true iH;refine Mi (n:=8) (S:=fun w'=>w'.cell? (mc.add ((Fa).toNat * 7))=some (.int .i64 ((Ia l0 Fa).f0))∧w'.cell? ⟨(mc.add ((Fa).toNat * 7)).block,(mc.add ((Fa).toNat * 7)).off + 1,none⟩=some (.int .i64 ((Ia l0 Fa).f1))∧w'.cell? ⟨(mc.add ((Fa).toNat * 7)).block,(mc.add ((Fa).toNat * 7)).off + 2,none⟩=some (.int .i64 ((Ia l0 Fa).f2))∧w'.cell? ⟨(mc.add ((Fa).toNat * 7)).block,(mc.add ((Fa).toNat * 7)).off + 3,none⟩=some (.int .i64 ((Ia l0 Fa).f3))∧w'.cell? ⟨(mc.add ((Fa).toNat * 7)).block,(mc.add ((Fa).toNat * 7)).off + 4,none⟩=some (.int .i64 ((Ia l0 Fa).f4))∧w'.cell? ⟨(mc.add ((Fa).toNat * 7)).block,(mc.add ((Fa).toNat * 7)).off + 5,none⟩=some (.int .i64 ((Ia l0 Fa).f5))∧w'.cell? ⟨(mc.add ((Fa).toNat * 7)).block,(mc.add ((Fa).toNat * 7)).off + 6,none⟩=some (.string ((Ia l0 Fa).f6))) (ds:=[]) #[false,false,false,false,false,false,false,false] (by kernel_rfl) rfl rfl ⟨(Ea HB.out Nu),(Ea HB.out Mu),(Ea HB.out Lu),(Ea HB.out Ku),(Ea HB.out Ju),(Ea HB.out Iu),(Ea HB.out Hu)⟩ (fun hHeld=>?_);refine dh ec.UW ec.sQ (fun We Jm=>?_);generalize wr.drew=rq at HB Cn Bn zn vn tn sn qn hHeld ⊢;refine Ic (i:=0) (N:=some 66) (v:=?_) (a':=?_) #[true,false,false,false,false,false,false,false] rfl rfl (nc We.out (by kernel_rfl)) (fun _ _ _ h=>h) (Or.inl ⟨by rfl,?_⟩) ?_ ?_;rotate_left
            ·intro w';go_simp;with_reducible rfl
            rotate_left
            ·simp only [Act.put,List.setIfInBounds_toArray,List.set_cons_zero,List.set_cons_succ,Cb,Db]
             rfl
            refine Ic (i:=1) (N:=some 67) (v:=?_) (a':=?_) #[true,true,false,false,false,false,false,false] rfl rfl (nc We.out (by kernel_rfl)) (fun _ _ _ h=>h) (Or.inl ⟨by rfl,?_⟩) ?_ ?_;rotate_left
            ·intro w';go_simp;with_reducible rfl
            rotate_left
            ·simp only [Act.put,List.setIfInBounds_toArray,List.set_cons_zero,List.set_cons_succ,Cb,Db]
             rfl
            refine Ic (i:=2) (N:=some 68) (v:=?_) (a':=?_) #[true,true,true,false,false,false,false,false] rfl rfl (nc We.out (by kernel_rfl)) (fun _ _ _ h=>h) (Or.inl ⟨by rfl,?_⟩) ?_ ?_;rotate_left
            ·intro w';go_simp;with_reducible rfl
            rotate_left
            ·simp only [Act.put,List.setIfInBounds_toArray,List.set_cons_zero,List.set_cons_succ,Cb,Db]
             rfl
            refine Ic (i:=3) (N:=some 69) (v:=?_) (a':=?_) #[true,true,true,true,false,false,false,false] rfl rfl (nc We.out (by kernel_rfl)) (fun _ _ _ h=>h) (Or.inl ⟨by rfl,?_⟩) ?_ ?_;rotate_left
            ·intro w';go_simp;with_reducible rfl
            rotate_left
            ·simp only [Act.put,List.setIfInBounds_toArray,List.set_cons_zero,List.set_cons_succ,Cb,Db]
             rfl
            refine Ic (i:=5) (N:=some 71) (v:=?_) (a':=?_) #[true,true,true,true,false,true,false,false] rfl rfl (nc We.out (by kernel_rfl)) (fun _ _ _ h=>h) (Or.inl ⟨by rfl,?_⟩) ?_ ?_;rotate_left
            ·intro w';go_simp;with_reducible rfl
            rotate_left
            ·simp only [Act.put,List.setIfInBounds_toArray,List.set_cons_zero,List.set_cons_succ,Cb,Db]
             rfl
            refine Mf (i:=4) (N:=some 70) (v:=?_) (a':=?_) #[true,true,true,true,true,true,false,false] rfl rfl (Od We.out Jm.out (by kernel_rfl)) (fun _ _ _ h=>h) (Or.inl ⟨by rfl,?_⟩) hHeld ?_ ?_;rotate_left
            ·rintro w' ⟨s0,s1,s2,s3,s4,s5,s6⟩;go_simp;with_reducible rfl
            rotate_left
            ·simp only [Act.put,List.setIfInBounds_toArray,List.set_cons_zero,List.set_cons_succ,Cb,Db]
             rfl
            refine Gq (i:=6) (N:=some 72) #[true,true,true,true,true,true,true,false] rfl rfl (jk We.out (by kernel_rfl)) (by decide) (fun K hK=>?_);refine Um Try.func121 (by kernel_rfl) rfl #[.int .i64 (wrap64 ((wrap64 ((wrap64 ((wrap64 ((wrap64 ((wrap64 (od + 1)) + 1)) + 1)) + 1)) + 1)) + 1))] (by rfl) rfl rfl (by (try simp only [List.map_toArray,List.map_cons,List.map_nil]);first|done|rfl|(simp only [List.length_drop,List.length_take];rfl)) ?_;with_reducible refine (ld.calls k1 (wrap64 ((wrap64 ((wrap64 ((wrap64 ((wrap64 ((wrap64 (od + 1)) + 1)) + 1)) + 1)) + 1)) + 1)) t108 _ nS.out).mono ?_
            rintro e tB ⟨rfl,hb⟩;refine ⟨_,rfl,?_⟩;have Kb:=ia.mk (Ra (by repeat (first|(with_reducible first|exact HB.out|apply ta|apply ja|apply ua)|exact HB.out)) hb);clear HB;have HB:=Kb;clear Kb;(try clear hb);(try clear Li);(try clear hk);(try clear hi);refine hK.out _ _ ⟨(Ea HB.out Nu),(Ea HB.out Mu),(Ea HB.out Lu),(Ea HB.out Ku),(Ea HB.out Ju),(Ea HB.out Iu),(Ea HB.out Hu)⟩ (fun hHeld=>?_);clear hK K;refine Mm (a':=?_) ?_ ?_;rotate_left
            ·show Act.put _ (some 72) _=_
             simp only [Act.put,List.setIfInBounds_toArray,List.set_cons_zero,List.set_cons_succ,Cb,Db]
             rfl
            refine Ic (i:=7) (N:=some 73) (v:=?_) (a':=?_) #[true,true,true,true,true,true,true,true] rfl rfl (nc We.out (by kernel_rfl)) (fun _ _ _ h=>h) (Or.inl ⟨by rfl,?_⟩) ?_ ?_;rotate_left
            ·intro w';go_simp;with_reducible rfl
            rotate_left
            ·simp only [Act.put,List.setIfInBounds_toArray,List.set_cons_zero,List.set_cons_succ,Cb,Db]
             rfl
            refine Fl (Vi We.out (by kernel_rfl)) ?_
            try go_wp2
            go_ret;exact ⟨by first|rfl|(simp [Na,Ma] <;> rfl)|(simp [*,Na,Ma] <;> rfl),by repeat (first|(with_reducible first|exact HB.out|apply ta|apply ja|apply ua)|exact HB.out)⟩
          ·rw [if_neg Fs] at H;have KA:(((Ia l0 Fa).f5) == (wrap64 ((wrap64 ((wrap64 ((wrap64 ((wrap64 (od + 1)) + 1)) + 1)) + 1)) + 1)))=false:=beq_eq_false_iff_ne.mpr Fs;have JA:(((Ia l0 Fa).f5) != (wrap64 ((wrap64 ((wrap64 ((wrap64 ((wrap64 (od + 1)) + 1)) + 1)) + 1)) + 1)))=true:=bne_iff_ne.mpr Fs;obtain rfl:=Option.some.inj H;have Td:0 ≤ (Fa:Int):=of_decide_eq_true (by first|(with_reducible assumption)|assumption);have Sd:Fa < (l0.length:Int):=of_decide_eq_true (by first|(with_reducible assumption)|assumption);obtain ⟨mc,Sg,uc,Nc,Mc,Lc,Jc,Je,Ie⟩:=kf qh.out Fa Td Sd;cases Sg;replace uc:=Ea HB.out uc;replace Nc:=Ea HB.out Nc;replace Mc:=Ea HB.out Mc;replace Lc:=Ea HB.out Lc;replace Jc:=Ea HB.out Jc;replace Je:=Ea HB.out Je;replace Ie:=Ea HB.out Ie;replace Td:=eq_true Td;replace Sd:=eq_true Sd;have Mg:0 ≤ (Fa:Int):=of_decide_eq_true (by first|(with_reducible assumption)|assumption);have Lg:Fa < (l0.length:Int):=of_decide_eq_true (by first|(with_reducible assumption)|assumption);obtain ⟨Me,El,Ld,He,Ge,Fe,Ee,Rf,Qf⟩:=kf qh.out Fa Mg Lg;obtain rfl:mc=Me:=(by injection El);replace Ld:=Ea HB.out Ld;replace He:=Ea HB.out He;replace Ge:=Ea HB.out Ge;replace Fe:=Ea HB.out Fe;replace Ee:=Ea HB.out Ee;replace Rf:=Ea HB.out Rf;replace Qf:=Ea HB.out Qf;replace Mg:=eq_true Mg;replace Lg:=eq_true Lg;have Zg:0 ≤ (Fa:Int):=of_decide_eq_true (by first|(with_reducible assumption)|assumption);have Yg:Fa < (l0.length:Int):=of_decide_eq_true (by first|(with_reducible assumption)|assumption);obtain ⟨Ef,Nl,Bd,Ae,ze,ye,xe,pg,ng⟩:=kf qh.out Fa Zg Yg;obtain rfl:mc=Ef:=(by injection Nl);replace Bd:=Ea HB.out Bd;replace Ae:=Ea HB.out Ae;replace ze:=Ea HB.out ze;replace ye:=Ea HB.out ye;replace xe:=Ea HB.out xe;replace pg:=Ea HB.out pg;replace ng:=Ea HB.out ng;replace Zg:=eq_true Zg;replace Yg:=eq_true Yg;have bh:0 ≤ (Fa:Int):=of_decide_eq_true (by first|(with_reducible assumption)|assumption);have ah:Fa < (l0.length:Int):=of_decide_eq_true (by first|(with_reducible assumption)|assumption);obtain ⟨xj,Ml,Ud,Df,Cf,Bf,Af,qi,ni⟩:=kf qh.out Fa bh ah;obtain rfl:mc=xj:=(by injection Ml);replace Ud:=Ea HB.out Ud;replace Df:=Ea HB.out Df;replace Cf:=Ea HB.out Cf;replace Bf:=Ea HB.out Bf;replace Af:=Ea HB.out Af;replace qi:=Ea HB.out qi;replace ni:=Ea HB.out ni;replace bh:=eq_true bh;replace ah:=eq_true ah;have Bj:0 ≤ (Fa:Int):=of_decide_eq_true (by first|(with_reducible assumption)|assumption);have Aj:Fa < (l0.length:Int):=of_decide_eq_true (by first|(with_reducible assumption)|assumption);obtain ⟨Hi,Lq,Yf,Eg,Dg,Cg,Bg,cl,Zk⟩:=kf qh.out Fa Bj Aj;obtain rfl:mc=Hi:=(by injection Lq);replace Yf:=Ea HB.out Yf;replace Eg:=Ea HB.out Eg;replace Dg:=Ea HB.out Dg;replace Cg:=Ea HB.out Cg;replace Bg:=Ea HB.out Bg;replace cl:=Ea HB.out cl;replace Zk:=Ea HB.out Zk;replace Bj:=eq_true Bj;replace Aj:=eq_true Aj;have Rp:0 ≤ (Fa:Int):=of_decide_eq_true (by first|(with_reducible assumption)|assumption);have Pp:Fa < (l0.length:Int):=of_decide_eq_true (by first|(with_reducible assumption)|assumption);obtain ⟨Lw,nE,Ei,jj,ij,gj,ej,ko,jo⟩:=kf qh.out Fa Rp Pp;obtain rfl:mc=Lw:=(by injection nE);replace Ei:=Ea HB.out Ei;replace jj:=Ea HB.out jj;replace ij:=Ea HB.out ij;replace gj:=Ea HB.out gj;replace ej:=Ea HB.out ej;replace ko:=Ea HB.out ko;replace jo:=Ea HB.out jo;replace Rp:=eq_true Rp;replace Pp:=eq_true Pp;go_wp2;go_ret;exact ⟨by first|rfl|(simp [Na,Ma] <;> rfl)|(simp [*,Na,Ma] <;> rfl),by repeat (first|(with_reducible first|exact HB.out|apply ta|apply ja|apply ua)|exact HB.out)⟩
         ·rw [if_neg c9] at H;have Hw:(((Ia l0 Fa).f4) == (wrap64 ((wrap64 ((wrap64 ((wrap64 (od + 1)) + 1)) + 1)) + 1)))=false:=beq_eq_false_iff_ne.mpr c9;have qE:(((Ia l0 Fa).f4) != (wrap64 ((wrap64 ((wrap64 ((wrap64 (od + 1)) + 1)) + 1)) + 1)))=true:=bne_iff_ne.mpr c9;obtain rfl:=Option.some.inj H;have Td:0 ≤ (Fa:Int):=of_decide_eq_true (by first|(with_reducible assumption)|assumption);have Sd:Fa < (l0.length:Int):=of_decide_eq_true (by first|(with_reducible assumption)|assumption);obtain ⟨mc,Sg,uc,Nc,Mc,Lc,Jc,Je,Ie⟩:=kf qh.out Fa Td Sd;cases Sg;replace uc:=Ea HB.out uc;replace Nc:=Ea HB.out Nc;replace Mc:=Ea HB.out Mc;replace Lc:=Ea HB.out Lc;replace Jc:=Ea HB.out Jc;replace Je:=Ea HB.out Je;replace Ie:=Ea HB.out Ie;replace Td:=eq_true Td;replace Sd:=eq_true Sd;have Mg:0 ≤ (Fa:Int):=of_decide_eq_true (by first|(with_reducible assumption)|assumption);have Lg:Fa < (l0.length:Int):=of_decide_eq_true (by first|(with_reducible assumption)|assumption);obtain ⟨Me,El,Ld,He,Ge,Fe,Ee,Rf,Qf⟩:=kf qh.out Fa Mg Lg;obtain rfl:mc=Me:=(by injection El);replace Ld:=Ea HB.out Ld;replace He:=Ea HB.out He;replace Ge:=Ea HB.out Ge;replace Fe:=Ea HB.out Fe;replace Ee:=Ea HB.out Ee;replace Rf:=Ea HB.out Rf;replace Qf:=Ea HB.out Qf;replace Mg:=eq_true Mg;replace Lg:=eq_true Lg;have Zg:0 ≤ (Fa:Int):=of_decide_eq_true (by first|(with_reducible assumption)|assumption);have Yg:Fa < (l0.length:Int):=of_decide_eq_true (by first|(with_reducible assumption)|assumption);obtain ⟨Ef,Nl,Bd,Ae,ze,ye,xe,pg,ng⟩:=kf qh.out Fa Zg Yg;obtain rfl:mc=Ef:=(by injection Nl);replace Bd:=Ea HB.out Bd;replace Ae:=Ea HB.out Ae;replace ze:=Ea HB.out ze;replace ye:=Ea HB.out ye;replace xe:=Ea HB.out xe;replace pg:=Ea HB.out pg;replace ng:=Ea HB.out ng;replace Zg:=eq_true Zg;replace Yg:=eq_true Yg;have bh:0 ≤ (Fa:Int):=of_decide_eq_true (by first|(with_reducible assumption)|assumption);have ah:Fa < (l0.length:Int):=of_decide_eq_true (by first|(with_reducible assumption)|assumption);obtain ⟨xj,Ml,Ud,Df,Cf,Bf,Af,qi,ni⟩:=kf qh.out Fa bh ah;obtain rfl:mc=xj:=(by injection Ml);replace Ud:=Ea HB.out Ud;replace Df:=Ea HB.out Df;replace Cf:=Ea HB.out Cf;replace Bf:=Ea HB.out Bf;replace Af:=Ea HB.out Af;replace qi:=Ea HB.out qi;replace ni:=Ea HB.out ni;replace bh:=eq_true bh;replace ah:=eq_true ah;have Bj:0 ≤ (Fa:Int):=of_decide_eq_true (by first|(with_reducible assumption)|assumption);have Aj:Fa < (l0.length:Int):=of_decide_eq_true (by first|(with_reducible assumption)|assumption);obtain ⟨Hi,Lq,Yf,Eg,Dg,Cg,Bg,cl,Zk⟩:=kf qh.out Fa Bj Aj;obtain rfl:mc=Hi:=(by injection Lq);replace Yf:=Ea HB.out Yf;replace Eg:=Ea HB.out Eg;replace Dg:=Ea HB.out Dg;replace Cg:=Ea HB.out Cg;replace Bg:=Ea HB.out Bg;replace cl:=Ea HB.out cl;replace Zk:=Ea HB.out Zk;replace Bj:=eq_true Bj;replace Aj:=eq_true Aj;go_wp2;go_ret;exact ⟨by first|rfl|(simp [Na,Ma] <;> rfl)|(simp [*,Na,Ma] <;> rfl),by repeat (first|(with_reducible first|exact HB.out|apply ta|apply ja|apply ua)|exact HB.out)⟩
        ·rw [if_neg c8] at H;have Gp:(((Ia l0 Fa).f3) == (wrap64 ((wrap64 ((wrap64 (od + 1)) + 1)) + 1)))=false:=beq_eq_false_iff_ne.mpr c8;have fy:(((Ia l0 Fa).f3) != (wrap64 ((wrap64 ((wrap64 (od + 1)) + 1)) + 1)))=true:=bne_iff_ne.mpr c8;obtain rfl:=Option.some.inj H;have Td:0 ≤ (Fa:Int):=of_decide_eq_true (by first|(with_reducible assumption)|assumption);have Sd:Fa < (l0.length:Int):=of_decide_eq_true (by first|(with_reducible assumption)|assumption);obtain ⟨mc,Sg,uc,Nc,Mc,Lc,Jc,Je,Ie⟩:=kf qh.out Fa Td Sd;cases Sg;replace uc:=Ea HB.out uc;replace Nc:=Ea HB.out Nc;replace Mc:=Ea HB.out Mc;replace Lc:=Ea HB.out Lc;replace Jc:=Ea HB.out Jc;replace Je:=Ea HB.out Je;replace Ie:=Ea HB.out Ie;replace Td:=eq_true Td;replace Sd:=eq_true Sd;have Mg:0 ≤ (Fa:Int):=of_decide_eq_true (by first|(with_reducible assumption)|assumption);have Lg:Fa < (l0.length:Int):=of_decide_eq_true (by first|(with_reducible assumption)|assumption);obtain ⟨Me,El,Ld,He,Ge,Fe,Ee,Rf,Qf⟩:=kf qh.out Fa Mg Lg;obtain rfl:mc=Me:=(by injection El);replace Ld:=Ea HB.out Ld;replace He:=Ea HB.out He;replace Ge:=Ea HB.out Ge;replace Fe:=Ea HB.out Fe;replace Ee:=Ea HB.out Ee;replace Rf:=Ea HB.out Rf;replace Qf:=Ea HB.out Qf;replace Mg:=eq_true Mg;replace Lg:=eq_true Lg;have Zg:0 ≤ (Fa:Int):=of_decide_eq_true (by first|(with_reducible assumption)|assumption);have Yg:Fa < (l0.length:Int):=of_decide_eq_true (by first|(with_reducible assumption)|assumption);obtain ⟨Ef,Nl,Bd,Ae,ze,ye,xe,pg,ng⟩:=kf qh.out Fa Zg Yg;obtain rfl:mc=Ef:=(by injection Nl);replace Bd:=Ea HB.out Bd;replace Ae:=Ea HB.out Ae;replace ze:=Ea HB.out ze;replace ye:=Ea HB.out ye;replace xe:=Ea HB.out xe;replace pg:=Ea HB.out pg;replace ng:=Ea HB.out ng;replace Zg:=eq_true Zg;replace Yg:=eq_true Yg;have bh:0 ≤ (Fa:Int):=of_decide_eq_true (by first|(with_reducible assumption)|assumption);have ah:Fa < (l0.length:Int):=of_decide_eq_true (by first|(with_reducible assumption)|assumption);obtain ⟨xj,Ml,Ud,Df,Cf,Bf,Af,qi,ni⟩:=kf qh.out Fa bh ah;obtain rfl:mc=xj:=(by injection Ml);replace Ud:=Ea HB.out Ud;replace Df:=Ea HB.out Df;replace Cf:=Ea HB.out Cf;replace Bf:=Ea HB.out Bf;replace Af:=Ea HB.out Af;replace qi:=Ea HB.out qi;replace ni:=Ea HB.out ni;replace bh:=eq_true bh;replace ah:=eq_true ah;go_wp2;go_ret;exact ⟨by first|rfl|(simp [Na,Ma] <;> rfl)|(simp [*,Na,Ma] <;> rfl),by repeat (first|(with_reducible first|exact HB.out|apply ta|apply ja|apply ua)|exact HB.out)⟩
       ·rw [if_neg c7] at H;have Jl:(((Ia l0 Fa).f2) == (wrap64 ((wrap64 (od + 1)) + 1)))=false:=beq_eq_false_iff_ne.mpr c7;have Mq:(((Ia l0 Fa).f2) != (wrap64 ((wrap64 (od + 1)) + 1)))=true:=bne_iff_ne.mpr c7;obtain rfl:=Option.some.inj H;have Td:0 ≤ (Fa:Int):=of_decide_eq_true (by first|(with_reducible assumption)|assumption);have Sd:Fa < (l0.length:Int):=of_decide_eq_true (by first|(with_reducible assumption)|assumption);obtain ⟨mc,Sg,uc,Nc,Mc,Lc,Jc,Je,Ie⟩:=kf qh.out Fa Td Sd;cases Sg;replace uc:=Ea HB.out uc;replace Nc:=Ea HB.out Nc;replace Mc:=Ea HB.out Mc;replace Lc:=Ea HB.out Lc;replace Jc:=Ea HB.out Jc;replace Je:=Ea HB.out Je;replace Ie:=Ea HB.out Ie;replace Td:=eq_true Td;replace Sd:=eq_true Sd;have Mg:0 ≤ (Fa:Int):=of_decide_eq_true (by first|(with_reducible assumption)|assumption);have Lg:Fa < (l0.length:Int):=of_decide_eq_true (by first|(with_reducible assumption)|assumption);obtain ⟨Me,El,Ld,He,Ge,Fe,Ee,Rf,Qf⟩:=kf qh.out Fa Mg Lg;obtain rfl:mc=Me:=(by injection El);replace Ld:=Ea HB.out Ld;replace He:=Ea HB.out He;replace Ge:=Ea HB.out Ge;replace Fe:=Ea HB.out Fe;replace Ee:=Ea HB.out Ee;replace Rf:=Ea HB.out Rf;replace Qf:=Ea HB.out Qf;replace Mg:=eq_true Mg;replace Lg:=eq_true Lg;have Zg:0 ≤ (Fa:Int):=of_decide_eq_true (by first|(with_reducible assumption)|assumption);have Yg:Fa < (l0.length:Int):=of_decide_eq_true (by first|(with_reducible assumption)|assumption);obtain ⟨Ef,Nl,Bd,Ae,ze,ye,xe,pg,ng⟩:=kf qh.out Fa Zg Yg;obtain rfl:mc=Ef:=(by injection Nl);replace Bd:=Ea HB.out Bd;replace Ae:=Ea HB.out Ae;replace ze:=Ea HB.out ze;replace ye:=Ea HB.out ye;replace xe:=Ea HB.out xe;replace pg:=Ea HB.out pg;replace ng:=Ea HB.out ng;replace Zg:=eq_true Zg;replace Yg:=eq_true Yg;go_wp2;go_ret;exact ⟨by first|rfl|(simp [Na,Ma] <;> rfl)|(simp [*,Na,Ma] <;> rfl),by repeat (first|(with_reducible first|exact HB.out|apply ta|apply ja|apply ua)|exact HB.out)⟩
      ·rw [if_neg c6] at H;have dn:(((Ia l0 Fa).f1) == (wrap64 (od + 1)))=false:=beq_eq_false_iff_ne.mpr c6;have Gx:(((Ia l0 Fa).f1) != (wrap64 (od + 1)))=true:=bne_iff_ne.mpr c6;obtain rfl:=Option.some.inj H;have Td:0 ≤ (Fa:Int):=of_decide_eq_true (by first|(with_reducible assumption)|assumption);have Sd:Fa < (l0.length:Int):=of_decide_eq_true (by first|(with_reducible assumption)|assumption);obtain ⟨mc,Sg,uc,Nc,Mc,Lc,Jc,Je,Ie⟩:=kf qh.out Fa Td Sd;cases Sg;replace uc:=Ea HB.out uc;replace Nc:=Ea HB.out Nc;replace Mc:=Ea HB.out Mc;replace Lc:=Ea HB.out Lc;replace Jc:=Ea HB.out Jc;replace Je:=Ea HB.out Je;replace Ie:=Ea HB.out Ie;replace Td:=eq_true Td;replace Sd:=eq_true Sd;have Mg:0 ≤ (Fa:Int):=of_decide_eq_true (by first|(with_reducible assumption)|assumption);have Lg:Fa < (l0.length:Int):=of_decide_eq_true (by first|(with_reducible assumption)|assumption);obtain ⟨Me,El,Ld,He,Ge,Fe,Ee,Rf,Qf⟩:=kf qh.out Fa Mg Lg;obtain rfl:mc=Me:=(by injection El);replace Ld:=Ea HB.out Ld;replace He:=Ea HB.out He;replace Ge:=Ea HB.out Ge;replace Fe:=Ea HB.out Fe;replace Ee:=Ea HB.out Ee;replace Rf:=Ea HB.out Rf;replace Qf:=Ea HB.out Qf;replace Mg:=eq_true Mg;replace Lg:=eq_true Lg;go_wp2;go_ret;exact ⟨by first|rfl|(simp [Na,Ma] <;> rfl)|(simp [*,Na,Ma] <;> rfl),by repeat (first|(with_reducible first|exact HB.out|apply ta|apply ja|apply ua)|exact HB.out)⟩
     ·rw [if_neg c5] at H;have en:(((Ia l0 Fa).f0) == od)=false:=beq_eq_false_iff_ne.mpr c5;have Nq:(((Ia l0 Fa).f0) != od)=true:=bne_iff_ne.mpr c5;obtain rfl:=Option.some.inj H;have Td:0 ≤ (Fa:Int):=of_decide_eq_true (by first|(with_reducible assumption)|assumption);have Sd:Fa < (l0.length:Int):=of_decide_eq_true (by first|(with_reducible assumption)|assumption);obtain ⟨mc,Sg,uc,Nc,Mc,Lc,Jc,Je,Ie⟩:=kf qh.out Fa Td Sd;cases Sg;replace uc:=Ea HB.out uc;replace Nc:=Ea HB.out Nc;replace Mc:=Ea HB.out Mc;replace Lc:=Ea HB.out Lc;replace Jc:=Ea HB.out Jc;replace Je:=Ea HB.out Je;replace Ie:=Ea HB.out Ie;replace Td:=eq_true Td;replace Sd:=eq_true Sd;go_wp2;go_ret;exact ⟨by first|rfl|(simp [Na,Ma] <;> rfl)|(simp [*,Na,Ma] <;> rfl),by repeat (first|(with_reducible first|exact HB.out|apply ta|apply ja|apply ua)|exact HB.out)⟩
    ·rw [if_neg c4] at H;exact absurd H (by simp)
   ·rw [if_neg c3] at H;have Xh:decide (Fa < (l0.length:Int))=false:=decide_eq_false c3;clear c3;obtain rfl:=Option.some.inj H;go_wp2;go_ret;exact ⟨by first|rfl|(simp [Na,Ma] <;> rfl)|(simp [*,Na,Ma] <;> rfl),by repeat (first|(with_reducible first|exact HB.out|apply ta|apply ja|apply ua)|exact HB.out)⟩
def je.l0:Nat→List Int→Int→Int→Option (Int)
 | 0,_,_,_=>none
 | k + 1,x0,x1,x5=>if x5 < (x0.length:Int) then (if 0 ≤ x5 then (if (rd x0 x5)=x1 then (je.l0 k x0 (wrap64 (x1 + 1)) (wrap64 (x5 + 1))) else (some (-1))) else (none)) else (some x1)
def je.f (k:Nat) (l0:List Int) (a1:Int):Option (Int):=je.l0 k l0 a1 0
theorem je.calls (k:Nat) (A0:Option Addr) (c0:Nat) (l0:List Int) (a1:Int) (r:Int) (w:World) (ak:Kd.C (Kd.int .i64) w A0 l0.length l0) (hc0:l0.length ≤ c0) (h:je.f k l0 a1=some r) :
  Calls Try.prog 23 #[.slice A0 l0.length c0,.int .i64 a1] w fun e w'=>e = .returned (.int .i64 r)∧ic w w':=by
 have qh:=ia.mk ak;have JG:=ia.mk hc0;clear ak hc0;have H:(je.l0 k l0 a1 0)=some r:=h;clear h;have H':=ia.mk H;clear H;go_enter Try.func23,Try.ntmps23;go_wp2
 go_loopg [1,5] k (fun kq v1 v5 w'=>∃ (od:Int) (Fa:Int),v1 = .int .i64 od∧v5 = .int .i64 Fa∧ia (je.l0 kq l0 od Fa=some r)∧ia (kq ≤ k)∧ic w w')
 case atStart=>exact ⟨(a1),(0),(by first|rfl|(simp;done)|(simp [*];done)),(by first|rfl|(simp;done)|(simp [*];done)),H',⟨Nat.le_refl _⟩,by repeat (first|exact ic.refl _|apply ic.step)⟩
 case round =>
  clear H'
  try clear c2
  try clear p2
  (try clear HA);(try clear Wh);obtain ⟨od,Fa,rfl,rfl,HA,Wh,⟨m1,rfl⟩⟩:=hrel;cases gk with
  | zero=>exact absurd HA.out (by simp [je.l0])
  | succ k1 =>
   have H:=HA.out;clear HA;simp only [je.l0] at H
   by_cases c3:Fa < (l0.length:Int)
   ·rw [if_pos c3] at H;have Xh:decide (Fa < (l0.length:Int))=true:=decide_eq_true c3;clear c3
    by_cases c4:0 ≤ Fa
    ·rw [if_pos c4] at H;have Zi:decide (0 ≤ Fa)=true:=decide_eq_true c4;clear c4
     by_cases c5:(rd l0 Fa)=od
     ·rw [if_pos c5] at H;have en:((rd l0 Fa) == od)=true:=beq_iff_eq.mpr c5;have Nq:((rd l0 Fa) != od)=false:=bne_eq_false_iff_eq.mpr c5;clear c5;have H':=ia.mk H;clear H;have Td:0 ≤ (Fa:Int):=of_decide_eq_true (by first|(with_reducible assumption)|assumption);have Sd:Fa < (l0.length:Int):=of_decide_eq_true (by first|(with_reducible assumption)|assumption);obtain ⟨mc,Sg,uc⟩:=Kd.Ij qh.out Fa Td Sd;cases Sg;replace Td:=eq_true Td;replace Sd:=eq_true Sd;go_wp2
      go_roundg k1
      case measure=>have:=Wh.out;omega
      case rel=>exact ⟨(wrap64 (od + 1)),(wrap64 (Fa + 1)),(by first|rfl|(simp;done)|(simp [*];done)),(by first|rfl|(simp;done)|(simp [*];done)),H',⟨by have:=Wh.out;omega⟩,by repeat (first|exact ic.refl _|apply ic.step)⟩
     ·rw [if_neg c5] at H;have en:((rd l0 Fa) == od)=false:=beq_eq_false_iff_ne.mpr c5;have Nq:((rd l0 Fa) != od)=true:=bne_iff_ne.mpr c5;obtain rfl:=Option.some.inj H;have Td:0 ≤ (Fa:Int):=of_decide_eq_true (by first|(with_reducible assumption)|assumption);have Sd:Fa < (l0.length:Int):=of_decide_eq_true (by first|(with_reducible assumption)|assumption);obtain ⟨mc,Sg,uc⟩:=Kd.Ij qh.out Fa Td Sd;cases Sg;replace Td:=eq_true Td;replace Sd:=eq_true Sd;go_wp2;go_ret;exact ⟨by first|rfl|(simp;done)|(simp [*];done),by repeat (first|exact ic.refl _|apply ic.step)⟩
    ·rw [if_neg c4] at H;exact absurd H (by simp)
   ·rw [if_neg c3] at H;have Xh:decide (Fa < (l0.length:Int))=false:=decide_eq_false c3;clear c3;obtain rfl:=Option.some.inj H;go_wp2;go_ret;exact ⟨by first|rfl|(simp;done)|(simp [*];done),by repeat (first|exact ic.refl _|apply ic.step)⟩
end Go.Proofs.Ytmifdccaajngcaa.P
end
