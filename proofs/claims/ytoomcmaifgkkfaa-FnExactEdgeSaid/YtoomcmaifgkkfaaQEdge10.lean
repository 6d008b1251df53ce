import Derived.Test.YtoomcmaifgkkfaaQEdge1
import Derived.Test.YtoomcmaifgkkfaaQEdge9
import Derived.Test.YtoomcmaifgkkfaaQEdge6
import Derived.Shelf.Abstract
import Derived.Test.YtoomcmaifgkkfaaQEdge5
import Derived.Outline
import Derived.BigQuiet
import Derived.RegionTactic
import Derived.StillTailTactics
import Derived.Test.YtoomcmaifgkkfaaQEdge4
import Derived.Test.YtoomcmaifgkkfaaQEdge7
import Derived.Test.YtoomcmaifgkkfaaQEdge2
import Derived.Test.YtoomcmaifgkkfaaQEdge3
set_option maxHeartbeats 8000000
set_option maxRecDepth 100000
section
namespace Go.Proofs.Ytoomcmaifgkkfaa.P
open Go.RowKit Go.Proofs.Ia.Zb Go.Proofs.Ia.Qd Go.Proofs.Ia.Me
set_option linter.unusedVariables false
set_option linter.unusedSimpArgs false
inductive RA (nx:Nat→List Int) (a:Nat):Nat→Prop
 | zero:0 ≠ a→RA nx a 0
 | step {i:Nat} {j:Int}:RA nx a i→j ∈ nx i→j.toNat ≠ a→RA nx a j.toNat
def Dom (nx:Nat→List Int) (i k:Nat):Prop:=Kq nx i∧Kq nx k∧¬ RA nx i k
theorem RA.bL {nx:Nat→List Int} {a k:Nat} (h:RA nx a k):Kq nx k:=by
 induction h with
 | zero _=>exact Kq.zero
 | step _ hj _ ih=>exact Kq.step ih hj
theorem RA.ne {nx:Nat→List Int} {a k:Nat} (h:RA nx a k):k ≠ a:=by
 cases h with
 | zero h=>exact h
 | step _ _ h=>exact h
theorem Dom.zero {nx:Nat→List Int} {k:Nat} (h:Kq nx k):Dom nx 0 k:=by
 have key:∀ j,RA nx 0 j→False:=fun j h=>by
  induction h with
  | zero h=>exact h rfl
  | step _ _ _ ih=>exact ih
 exact ⟨Kq.zero,h,key k⟩
theorem Dom.at0 {nx:Nat→List Int} {i:Nat} (h:Dom nx i 0):i=0:=Decidable.byContradiction fun hc=>h.2.2 (RA.zero (fun e=>hc e.symm))
theorem Dom.back {nx:Nat→List Int} {i b:Nat} {t:Int} (h:Dom nx i t.toNat) (hb:Kq nx b) (ht:t ∈ nx b) (hne:t.toNat ≠ i):Dom nx i b:=⟨h.1,hb,fun hr=>h.2.2 (RA.step hr ht hne)⟩
noncomputable def iB (bs:List Df) (k:Nat):List Int:=open Classical in (yd bs).filter fun i=>decide (Dom (ij bs) i.toNat k)
noncomputable def Dk (bs:List Df):List (List Int):=(List.range bs.length).map (iB bs)
def qn (D:List (List Int)) (k:Nat):List Int:=D.getD k []
theorem qq {D:List (List Int)} {i k:Nat} {x:List Int} (hi:i < D.length):qn (D.set i x) k=if i=k then x else qn D k:=by
 unfold qn;rw [List.getD_eq_getElem?_getD,List.getD_eq_getElem?_getD,List.getElem?_set]
 by_cases h:i=k
 ·rw [if_pos h,if_pos h,if_pos hi];rfl
 ·rw [if_neg h,if_neg h]
def dB (D:List (List Int)):Nat:=(D.map List.length).sum
theorem XI:∀ (D:List (List Int)) (i:Nat) (x:List Int),i < D.length→dB (D.set i x) + (qn D i).length=dB D + x.length
 | [],i,x,h=>by simp at h
 | y :: D,0,x,_=>by
  simp only [dB,List.set_cons_zero,List.map_cons,List.sum_cons,qn,List.getD_cons_zero];omega
 | y :: D,i + 1,x,h=>by
  have ih:=XI D i x (by simpa using h);simp only [dB,List.set_cons_succ,List.map_cons,List.sum_cons,qn,List.getD_cons_succ] at ih ⊢;omega
def Cz (D:List (List Int)) (b t:Nat) (r:Int):Bool:=if r=(t:Int) then false else !decide (r ∈ qn D b)
def pn (D:List (List Int)) (b t:Nat):List Int:=(qn D t).filter fun r=>!Cz D b t r
def OkE (D:List (List Int)) (b t:Nat):Prop:=∀ r ∈ qn D t,r=(t:Int) ∨ r ∈ qn D b
theorem lF (D:List (List Int)) (b t:Nat):(pn D b t).length ≤ (qn D t).length:=List.length_filter_le _ _
theorem CS {D:List (List Int)} {b t:Nat} (h:¬ (pn D b t).length < (qn D t).length):pn D b t=qn D t∧OkE D b t:=by
 have he:(pn D b t).length=(qn D t).length:=by have:=lF D b t;omega
 unfold pn at he ⊢;have h2:=List.length_filter_eq_length_iff.1 he;refine ⟨List.filter_eq_self.2 h2,fun r hr=>?_⟩;have:=h2 r hr;unfold Cz at this
 by_cases hrt:r=(t:Int)
 ·exact Or.inl hrt
 ·rw [if_neg hrt] at this
  right
  simpa using this
structure nZ (bs:List Df) (D:List (List Int)):Prop where
 len:D.length=bs.length
 fil:∀ k,∃ q:Int→Bool,qn D k=(yd bs).filter q
 unr:∀ k,¬ Kq (ij bs) k→qn D k=[]
 dom:∀ i k,Dom (ij bs) i k→(i:Int) ∈ qn D k
 zero:qn D 0=[0]
section
variable {bs:List Df} {D:List (List Int)}
theorem nZ.step (h:nZ bs D) (hE:Zf bs) {b:Nat} {t:Int} (hb:Kq (ij bs) b) (ht:t ∈ ij bs b):nZ bs (D.set t.toNat (pn D b t.toNat)):=by
 have hbl:=qt hE hb;obtain ⟨t0,t1⟩:=hE.2.2 b hbl t ht;have htl:t.toNat < D.length:=by rw [h.len];omega
 refine ⟨by rw [List.length_set];exact h.len,fun k=>?_,fun k hk=>?_,fun i k hik=>?_,?_⟩
 ·rw [qq htl]
  by_cases e:t.toNat=k
  ·rw [if_pos e];obtain ⟨q,hq⟩:=h.fil t.toNat;refine ⟨fun x=>q x && !Cz D b t.toNat x,?_⟩;unfold pn;rw [hq,List.filter_filter]
   congr 1
   funext x
   exact Bool.and_comm _ _
  ·rw [if_neg e];exact h.fil k
 ·rw [qq htl]
  by_cases e:t.toNat=k
  ·exact absurd (e ▸ Kq.step hb ht) hk
  ·rw [if_neg e];exact h.unr k hk
 ·rw [qq htl]
  by_cases e:t.toNat=k
  ·rw [if_pos e];subst e;unfold pn;refine List.mem_filter.2 ⟨h.dom i _ hik,?_⟩;unfold Cz
   by_cases hi:(i:Int)=((t.toNat:Nat):Int)
   ·rw [if_pos hi];rfl
   ·rw [if_neg hi];have:=h.dom i b (hik.back hb ht (by omega));simp [this]
  ·rw [if_neg e];exact h.dom i k hik
 ·rw [qq htl]
  by_cases e:t.toNat=0
  ·rw [if_pos e,e];unfold pn;rw [h.zero];simp [Cz]
  ·rw [if_neg e];exact h.zero
theorem nZ.done (h:nZ bs D) (hE:Zf bs) (hOk:∀ b,Kq (ij bs) b→∀ t ∈ ij bs b,OkE D b t.toNat):D=Dk bs:=by
 have key:∀ (i k:Nat),RA (ij bs) i k→(i:Int) ∉ qn D k:=by
  intro i k hr
  induction hr with
  | zero h0 =>
   rw [h.zero,List.mem_singleton];omega
  | @step u t hu ht hne ih =>
   intro hm;obtain ⟨t0,t1⟩:=hE.2.2 u (qt hE hu.bL) t ht
   rcases hOk u hu.bL t ht _ hm with e|e
   ·omega
   ·exact ih e
 have hrow:∀ k,k < bs.length→qn D k=iB bs k:=by
  intro k hk;obtain ⟨q,hq⟩:=h.fil k;unfold iB;rw [hq];apply List.filter_congr;intro x hx;obtain ⟨x0,xr⟩:=(Hh hE x).1 hx;have hxn:((x.toNat:Nat):Int)=x:=Int.toNat_of_nonneg x0
  have hiff:q x=true ↔ Dom (ij bs) x.toNat k:=by
   constructor
   ·intro hqx;have hm:x ∈ qn D k:=by rw [hq];exact List.mem_filter.2 ⟨hx,hqx⟩
    have hk2:Kq (ij bs) k:=Classical.byContradiction fun hn=>by rw [h.unr k hn] at hm;cases hm
    refine ⟨xr,hk2,fun hr=>key _ _ hr ?_⟩;rw [hxn];exact hm
   ·intro hd;have:=h.dom _ _ hd;rw [hxn,hq] at this;exact (List.mem_filter.1 this).2
  by_cases hd:Dom (ij bs) x.toNat k
  ·rw [hiff.2 hd];exact (@decide_eq_true _ (Classical.propDecidable _) hd).symm
  ·refine Eq.trans ?_ (@decide_eq_false _ (Classical.propDecidable _) hd).symm;cases hqx:q x with
   | false=>rfl
   | true=>exact absurd (hiff.1 hqx) hd
 unfold Dk;apply List.ext_getElem
 ·rw [List.length_map,List.length_range];exact h.len
 ·intro k h1 h2;rw [List.getElem_map,List.getElem_range,← hrow k (by rw [← h.len];exact h1)];simp [qn,List.getD_eq_getElem?_getD,h1]
noncomputable def wI (bs:List Df) (i:Nat) (D:List (List Int)):Prop:=D.length=bs.length∧∀ k,qn D k=if (k:Int) ∈ (yd bs).take i then yd bs else []
theorem wI.start (bs:List Df):wI bs 0 (List.replicate bs.length []):=by
 refine ⟨by simp,fun k=>?_⟩;unfold qn;rw [List.getD_eq_getElem?_getD,List.getElem?_replicate]
 by_cases h:k < bs.length
 ·rw [if_pos h];simp
 ·rw [if_neg h];simp
theorem wI.next {i:Nat} (h:wI bs i D) (hE:Zf bs) (hi:i < (yd bs).length):wI bs (i + 1) (D.set ((yd bs)[i]).toNat (yd bs)):=by
 obtain ⟨x0,xr⟩:=(Hh hE _).1 (List.getElem_mem hi);have hl:=qt hE xr;refine ⟨by rw [List.length_set];exact h.1,fun k=>?_⟩;rw [qq (by rw [h.1];exact hl),h.2 k,List.take_succ_eq_append_getElem hi]
 by_cases e:((yd bs)[i]).toNat=k
 ·rw [if_pos e,if_pos (by rw [List.mem_append,List.mem_singleton];right;omega)]
 ·rw [if_neg e]
  have:(k:Int) ∈ (yd bs).take i ++ [(yd bs)[i]] ↔ (k:Int) ∈ (yd bs).take i:=by
   rw [List.mem_append,List.mem_singleton]
   constructor
   ·rintro (h|h)
    ·exact h
    ·omega
   ·exact Or.inl
  by_cases hm:(k:Int) ∈ (yd bs).take i
  ·rw [if_pos hm,if_pos (this.2 hm)]
  ·rw [if_neg hm,if_neg (fun h=>hm (this.1 h))]
theorem kL (hE:Zf bs):(0:Int) ∈ yd bs:=(Hh hE 0).2 ⟨by omega,Kq.zero⟩
theorem wI.go (h:wI bs (yd bs).length D) (hE:Zf bs):nZ bs (D.set 0 [0]):=by
 have hD:∀ k,qn D k=if (k:Int) ∈ yd bs then yd bs else []:=fun k=>by rw [h.2 k,List.take_length]
 have h0:0 < D.length:=by rw [h.1];exact hE.1
 have hz:[0]=(yd bs).filter fun x=>decide (x=0):=by
  refine kF _ _ (by simp) ((Xz bs).filter _) (fun x=>?_);rw [List.mem_singleton,List.mem_filter,decide_eq_true_eq]
  constructor
  ·rintro rfl;exact ⟨kL hE,rfl⟩
  ·exact fun h=>h.2
 have hmem:∀ k:Nat,(k:Int) ∈ yd bs ↔ Kq (ij bs) k:=fun k=>by
  rw [Hh hE,Int.toNat_natCast];exact ⟨fun h=>h.2,fun h=>⟨by omega,h⟩⟩
 refine ⟨by rw [List.length_set];exact h.1,fun k=>?_,fun k hk=>?_,fun i k hik=>?_,?_⟩
 ·rw [qq h0]
  by_cases e:0=k
  ·rw [if_pos e];exact ⟨_,hz⟩
  ·rw [if_neg e,hD]
   by_cases hm:(k:Int) ∈ yd bs
   ·rw [if_pos hm];exact ⟨fun _=>true,(List.filter_eq_self.2 (fun _ _=>rfl)).symm⟩
   ·rw [if_neg hm];exact ⟨fun _=>false,(List.filter_eq_nil_iff.2 (fun _ _=>by simp)).symm⟩
 ·rw [qq h0]
  by_cases e:0=k
  ·subst e;exact absurd Kq.zero hk
  ·rw [if_neg e,hD,if_neg (fun hm=>hk ((hmem k).1 hm))]
 ·rw [qq h0]
  by_cases e:0=k
  ·rw [if_pos e];subst e;rw [hik.at0];simp
  ·rw [if_neg e,hD,if_pos ((hmem k).2 hik.2.1)];exact (hmem i).2 hik.1
 ·rw [qq h0,if_pos rfl]
theorem xw (bs:List Df):(Dk bs).length=bs.length:=by simp [Dk]
theorem MA (bs:List Df) (k:Nat):(iB bs k).length ≤ bs.length:=Nat.le_trans (List.length_filter_le _ _) (eo bs)
end
end Go.Proofs.Ytoomcmaifgkkfaa.P
end
section
namespace Go.Proofs.Ytoomcmaifgkkfaa.P
open Go.RowKit Go.Proofs.Ia.Zb Go.Proofs.Ia.Qd Go.Proofs.Ia.Me
set_option linter.unusedVariables false
set_option linter.unusedSimpArgs false
attribute [local go_sem] Wi Ui jk fk Ch Bh Vi Ti
theorem zae (d:Nat) (w:World) (x0 y0:Int) (x1 y1:Int) (x2 y2:Int) (x3 y3:Int) (x4 y4:Int) :
  (Op.equalIn (d + 2) 67 (.agg #[.int .i64 x0,.int .i64 x1,.int .i64 x2,.int .i64 x3,.int .i64 x4]) (.agg #[.int .i64 y0,.int .i64 y1,.int .i64 y2,.int .i64 y3,.int .i64 y4])).run Try.prog w = .ok (x0 == y0 && (x1 == y1 && (x2 == y2 && (x3 == y3 && (x4 == y4))))) w:=by
 refine fU Try.underlying67 (by kernel_rfl) ?_;refine zl (by rfl) (by go_simp;rfl) (by go_simp;rfl) (by go_simp) ?_;refine zl (by rfl) (by go_simp;rfl) (by go_simp;rfl) (by go_simp) ?_;refine zl (by rfl) (by go_simp;rfl) (by go_simp;rfl) (by go_simp) ?_;refine zl (by rfl) (by go_simp;rfl) (by go_simp;rfl) (by go_simp) ?_;exact kK (by rfl) (by go_simp;rfl) (by go_simp;rfl) (by go_simp)
theorem QC (l:List Int) (a:Int) (hl:l.length ≤ 9223372036854775807):∃ k r,Tb.f k l a=some r∧(r ≥ 0 ↔ a ∈ l):=by
 have key:∀ d i:Nat,i + d=l.length→∃ k r,Tb.l0 k l a (l.length:Int) (i:Int)=some r∧(r ≥ 0 ↔ a ∈ l.drop i):=by
  intro d
  induction d with
  | zero =>
   intro i hi;refine ⟨1,-1,?_,?_⟩
   ·rw [Tb.l0,if_neg (by omega)]
   ·rw [List.drop_of_length_le (by omega)];simp
  | succ d ih =>
   intro i hi;obtain ⟨k,r,h1,h2⟩:=ih (i + 1) (by omega);have hlt:i < l.length:=by omega
   have hr:rd l (i:Int)=l[i]:=by simp [rd,List.getD_eq_getElem?_getD,hlt]
   by_cases e:a=l[i]
   ·refine ⟨k + 1,i,?_,?_⟩
    ·rw [Tb.l0,if_pos (by omega),if_pos (by omega),if_pos (by omega),hr,if_pos e]
    ·rw [List.drop_eq_getElem_cons hlt,e];exact ⟨fun _=>List.mem_cons_self,fun _=>by omega⟩
   ·refine ⟨k + 1,r,?_,?_⟩
    ·rw [Tb.l0,if_pos (by omega),if_pos (by omega),if_pos (by omega),hr,if_neg e,show wrap64 ((i:Int) + 1)=((i + 1:Nat):Int) from by unfold wrap64;omega,h1]
    ·rw [List.drop_eq_getElem_cons hlt,h2,List.mem_cons];exact ⟨Or.inr,fun h=>h.resolve_left e⟩
 obtain ⟨k,r,h1,h2⟩:=key l.length 0 (by omega);exact ⟨k,r,h1,by simpa using h2⟩
theorem bI (A0:Option Addr) (c0:Nat) (l0:List Int) (a1:Int) (w:World) (Qj:Kd.C (Kd.int .i64) w A0 l0.length l0) (hc0:l0.length ≤ c0) :
  Calls Try.prog 83 #[.slice A0 l0.length c0,.int .i64 a1] w fun e w'=>e = .returned (.bool (decide (a1 ∈ l0)))∧Fc w w':=by
 obtain ⟨k,r,h1,h2⟩:=QC l0 a1 Qj.2.1
 have h:tc.f k l0 a1=some (decide (a1 ∈ l0)):=by
  unfold tc.f;rw [h1];exact congrArg some (decide_eq_decide.2 h2)
 exact tc.calls k A0 c0 l0 a1 _ w Qj hc0 h
def PP (w:World) (N p r q:Nat) (im m:Array Value) (v0:Value) (s0:List Int) (v4:Value) (gs:List Int) (W:World):Prop :=
 Below w.heap.size w W∧W.heap[p]? = some (.cells im 30 (0,0))∧W.heap[r]? = some (.cells #[.slice none 0 0,.int .i64 0,.int .i64 0,.slice none 0 0] 30 (0,0))∧W.heap[q]? = some (.cells m 30 (0,0)) ∧
 Kd.R (Kd.int .i64) 3 W w.heap.size (fun k=>k < N) v0 s0∧Kd.R (Kd.int .i64) 3 W w.heap.size (fun k=>k < N) v4 gs∧(w.heap.size ≤ q∧w.heap.size ≤ r∧p < N∧q < N∧r < N∧p ≠ q∧r ≠ q∧w.heap.size ≤ N∧N ≤ W.heap.size)
section
variable {w W W':World} {N p r q:Nat} {im m:Array Value} {v0 v4:Value} {s0 gs:List Int}
theorem PP.up (h:PP w N p r q im m v0 s0 v4 gs W) (hb:Below w.heap.size w W') (hk:Kept W W' (fun k=>N ≤ k)):PP w N p r q im m v0 s0 v4 gs W':=by
 obtain ⟨h1,h2,h3,h4,h5,h6,b1,b2,b3,b4,b5,b6,b7,b8,b9⟩:=h;exact ⟨hb,Og h2 hk (by omega),Og h3 hk (by omega),Og h4 hk (by omega),Kd.zD h5 hk (fun k a b=>by omega),Kd.zD h6 hk (fun k a b=>by omega),b1,b2,b3,b4,b5,b6,b7,b8,Nat.le_trans b9 hk.1⟩
theorem PP.below (h:PP w N p r q im m v0 s0 v4 gs W) (hb:Below W.heap.size W W'):PP w N p r q im m v0 s0 v4 gs W':=h.up (Oa h.1 hb) (Kept.vl hb _)
theorem PP.alloc (h:PP w N p r q im m v0 s0 v4 gs W) (o:Obj):PP w N p r q im m v0 s0 v4 gs (W.alloc o):=h.below (oa (Below.refl _ _) o)
theorem PP.grown {row:Option Nat} (h:PP w N p r q im m v0 s0 v4 gs W) (hg:W.grownBy W' row) (hr:∀ k,row=some k→N ≤ k):PP w N p r q im m v0 s0 v4 gs W' :=
 h.up (Cu h.1 row h.1.size hg (fun k e=>Nat.le_trans h.2.2.2.2.2.2.2.2.2.2.2.2.2.1 (hr k e))) (Kept.fh hg (Kept.refl _ _) (fun k e=>Or.inl (hr k e)))
theorem PP.set (h:PP w N p r q im m v0 s0 v4 gs W) (j:Nat) (u:Value):PP w N p r q im (m.setIfInBounds j u) v0 s0 v4 gs (W.setCell ⟨q,j,none⟩ u):=by
 obtain ⟨h1,h2,h3,h4,h5,h6,b1,b2,b3,b4,b5,b6,b7,b8,b9⟩:=h;exact ⟨h1.setCell b1 _,Qe h2 b6 u,Qe h3 b7 u,mI h4 j u,Kd.G3 h5 h4 (by decide) j u,Kd.G3 h6 h4 (by decide) j u,b1,b2,b3,b4,b5,b6,b7,b8,by simpa using b9⟩
end
attribute [local go_sem high] zae
end Go.Proofs.Ytoomcmaifgkkfaa.P
end
section
namespace Go.Proofs.Ytoomcmaifgkkfaa.P
open Go.RowKit Go.Proofs.Ia.Zb Go.Proofs.Ia.Qd Go.Proofs.Ia.Me
set_option linter.unusedVariables false
set_option linter.unusedSimpArgs false
theorem rR {W1 W:World} {base g n cap i:Nat} {P:Nat→Prop} {D:List (List Int)} {v:Value} {xs:List Int}
  (h:Kd.S (Kd.slice 3 (Kd.int .i64)) 22 W1 base P (.slice (some ⟨g,0,none⟩) n cap) D) (hb:Below W1.heap.size W1 W) (hi:i < n)
  (hx:Kd.R (Kd.int .i64) 3 W base (fun k=>P k∧W1.heap.size ≤ k) v xs) :
  Kd.S (Kd.slice 3 (Kd.int .i64)) 22 (W.setCell ⟨g,i,none⟩ v) base P (.slice (some ⟨g,0,none⟩) n cap) (D.set i xs)∧W.grownBy (W.setCell ⟨g,i,none⟩ v) (some g):=by
 obtain ⟨Lp,c,LD,hM,gB,Q7,GF,hH⟩:=Kd.sA h ([]:List Int) (i:Int) (by omega) (by omega);have hH2:=Kd.uZ (Kd.xI hH) hb;have eae:c.length=1:=LD
 obtain ⟨u,rfl⟩:∃ u,c=[u]:=by
  rcases c with _|⟨u,_|⟨u2,c⟩⟩
  ·simp at eae
  ·exact ⟨u,rfl⟩
  ·simp at eae
 have hs:=Kd.F9 (d:=Kd.slice 3 (Kd.int .i64)) hH2 (by omega) (by omega) (seg:=[v]) (j:=0) (show 0 + 1 ≤ 1 from by decide) (x':=xs) (Oh:=fun k=>P k∧W1.heap.size ≤ k) (show (Kd.slice 3 (Kd.int .i64)).M W base (fun k=>P k∧W1.heap.size ≤ k) xs [v] from ⟨v,rfl,hx⟩) (fun k hk=>Or.inr hk);rw [Int.toNat_natCast,show i * (Kd.slice 3 (Kd.int .i64)).sz + 0=i from by show i * 1 + 0=i;omega] at hs;exact hs
theorem BK {W:World} {base g n cap i:Nat} {P:Nat→Prop} {D:List (List Int)} (h:Kd.S (Kd.slice 3 (Kd.int .i64)) 22 W base P (.slice (some ⟨g,0,none⟩) n cap) D) (hi:i < n) :
  ∃ (A:Option Addr) (c:Nat),W.cell? ⟨g,i,none⟩=some (.slice A (qn D i).length c)∧W.frozen? ⟨g,i,none⟩=false∧(qn D i).length ≤ c∧Kd.C (Kd.int .i64) W A (qn D i).length (qn D i):=by
 obtain ⟨Lp,c,LD,hM,gB,Q7,GF,hH⟩:=Kd.sA h ([]:List Int) (i:Int) (by omega) (by omega);rw [Int.toNat_natCast] at hM gB Q7;obtain ⟨A,cc,hc,hl,hC⟩:=Kd.Ag _ hM;have h1:=gB 0 _ (by rw [hc];rfl);have h2:=Q7 0;rw [show i * (Kd.slice 3 (Kd.int .i64)).sz + 0=i from by show i * 1 + 0=i;omega] at h1 h2;exact ⟨A,cc,h1,h2,hl,hC⟩
structure MD (w wA:World) (b4 g cap n:Nat) (D:List (List Int)) (wr:World):Prop where
 bl:Below w.heap.size w wr
 k:Kept wA wr (fun k=>k=g)
 v:wr.heap[b4]? = some (.cells #[.slice (some ⟨g,0,none⟩) n cap] 53 (0,0))
 row:Kd.S (Kd.slice 3 (Kd.int .i64)) 22 wr w.heap.size (fun k=>k ≠ b4) (.slice (some ⟨g,0,none⟩) n cap) D
 ne:b4 ≠ g
 gb:w.heap.size ≤ g
section
variable {w wA wr W:World} {b4 g cap n:Nat} {D:List (List Int)}
theorem MD.below (h:MD w wA b4 g cap n D wr) (hb:Below wr.heap.size wr W):MD w wA b4 g cap n D W :=
 ⟨Oa h.bl hb,h.k.below hb,Xa h.v hb,Kd.Wd h.row hb,h.ne,h.gb⟩
theorem MD.put (h:MD w wA b4 g cap n D wr) (hb:Below wr.heap.size wr W) {i:Nat} (hi:i < n) {v:Value} {xs:List Int} (hx:Kd.R (Kd.int .i64) 3 W w.heap.size (fun k=>k ≠ b4∧wr.heap.size ≤ k) v xs):MD w wA b4 g cap n (D.set i xs) (W.setCell ⟨g,i,none⟩ v):=by
 obtain ⟨h1,h2⟩:=rR h.row hb hi hx;have hw:=h.below hb
 exact ⟨hw.bl.grown h2 hw.bl.size (fun k e=>by injection e with e;rw [← e];exact h.gb),Kept.fh h2 hw.k (fun k e=>Or.inl (by injection e with e;exact e.symm)),
  (Below.heap_setCell W ⟨g,i,none⟩ v b4 hw.ne).trans hw.v,h1,hw.ne,hw.gb⟩
theorem MD.cell (h:MD w wA b4 g cap n D wr):wr.cell? ⟨b4,0,none⟩=some (.slice (some ⟨g,0,none⟩) n cap):=(ja h.v 0).trans rfl
theorem MD.at (h:MD w wA b4 g cap n D wr) {i:Nat} (hi:i < n):∃ (A:Option Addr) (c:Nat),wr.cell? ⟨g,i,none⟩=some (.slice A (qn D i).length c)∧wr.frozen? ⟨g,i,none⟩=false∧(qn D i).length ≤ c∧Kd.C (Kd.int .i64) wr A (qn D i).length (qn D i):=BK h.row hi
theorem MD.glt (h:MD w wA b4 g cap n D wr):g < wr.heap.size:=Kd.H9 h.row g rfl
theorem MD.blt (h:MD w wA b4 g cap n D wr):b4 < wr.heap.size:=qd h.v
end
theorem AL (tQ b4 q9 g n cap b t:Nat) (D:List (List Int)) (A:Option Addr) (c:Nat) (r:Int) (W:World) (DR:b < n)
  (h11:W.cell? ⟨tQ,0,none⟩=some (.int .i64 t)) (h4:W.cell? ⟨b4,0,none⟩=some (.slice (some ⟨g,0,none⟩) n cap)) (h9:W.cell? ⟨q9,0,none⟩=some (.int .i64 b))
  (hr:W.cell? ⟨g,b,none⟩=some (.slice A (qn D b).length c)) (hl:(qn D b).length ≤ c) (hC:Kd.C (Kd.int .i64) W A (qn D b).length (qn D b)) :
  Calls Try.prog 109 (#[.int .i64 r] ++ #[.pointer (some ⟨tQ,0,none⟩),.pointer (some ⟨b4,0,none⟩),.pointer (some ⟨q9,0,none⟩)]) W fun e w'=>e = .returned (.bool (Cz D b t r))∧Below W.heap.size W w':=by
 have HC:=aa.mk (bI A c (qn D b) r W hC hl);have p0:0 ≤ (b:Int):=by omega
 have p1:(b:Int) < (n:Int):=by omega
 clear hC hl
 by_cases h:r=(t:Int)
 ·have hb:(r != (t:Int))=false:=by rw [h];exact bne_self_eq_false' (t:Int)
  have HD:=aa.mk (show Cz D b t r=false from if_pos h);clear h;go_enter Try.func109,Try.ntmps109;go_wp2_with (first|(go_at_call 83;(refine HC.out.mono ?_);rintro e cB ⟨rfl,⟨⟨nd,rfl⟩⟩⟩));go_ret;exact ⟨by rw [HD.out];rfl,Below.refl _ _⟩
 ·have hb:(r != (t:Int))=true:=bne_iff_ne.2 h;have HD:=aa.mk (show Cz D b t r = !decide (r ∈ qn D b) from if_neg h);clear h;go_enter Try.func109,Try.ntmps109;go_wp2_with (first|(go_at_call 83;(refine HC.out.mono ?_);rintro e cB ⟨rfl,⟨⟨nd,rfl⟩⟩⟩));go_ret;exact ⟨by rw [HD.out];rfl,ia (Below.refl _ _) _⟩
end Go.Proofs.Ytoomcmaifgkkfaa.P
end
section
namespace Go.Proofs.Ytoomcmaifgkkfaa.P
open Go.RowKit Go.Proofs.Ia.Zb Go.Proofs.Ia.Qd Go.Proofs.Ia.Me
set_option linter.unusedVariables false
set_option linter.unusedSimpArgs false
noncomputable def oh.f (Ma:List Int) (La:Int) (Na:Int) (Ka:Int) (Ea:List (Df)):Option (List (List Int)):=open Classical in if Zf Ea then some (Dk Ea) else none
noncomputable def SoE (bs:List Df) (D:List (List Int)) (i:Nat):Prop:=∀ b ∈ (yd bs).take i,∀ t ∈ ij bs b.toNat,OkE D b.toNat t.toNat
def SoJ (D:List (List Int)) (b:Nat) (ts:List Int) (j:Nat):Prop:=∀ t ∈ ts.take j,OkE D b t.toNat
theorem SoE.next {bs:List Df} {D:List (List Int)} {i:Nat} (h:SoE bs D i) (hi:i < (yd bs).length) (hj:SoJ D ((yd bs)[i]).toNat (ij bs ((yd bs)[i]).toNat) (ij bs ((yd bs)[i]).toNat).length):SoE bs D (i + 1):=by
 intro b hb t ht;rw [List.take_succ_eq_append_getElem hi,List.mem_append,List.mem_singleton] at hb
 rcases hb with hb|hb
 ·exact h b hb t ht
 ·subst hb;exact hj t (by rw [List.take_length];exact ht)
theorem SoJ.next {D:List (List Int)} {b:Nat} {ts:List Int} {j:Nat} (h:SoJ D b ts j) (hj:j < ts.length) (ho:OkE D b (ts[j]).toNat):SoJ D b ts (j + 1):=by
 intro t ht;rw [List.take_succ_eq_append_getElem hj,List.mem_append,List.mem_singleton] at ht
 rcases ht with ht|ht
 ·exact h t ht
 ·subst ht;exact ho
structure K9 (bs:List Df) (D:List (List Int)) (m:Nat) (a:Bool) (i:Nat):Prop where
 inv:nZ bs D
 le:dB D ≤ m
 lt:a=true→dB D < m
 so:a=false→SoE bs D i
theorem K9.keep {bs:List Df} {D:List (List Int)} {m:Nat} {a:Bool} {i:Nat} (h:K9 bs D m a i) (hE:Zf bs) (hi:i < (yd bs).length) {t:Int} (ht:t ∈ ij bs ((yd bs)[i]).toNat)
  (hlt:(pn D ((yd bs)[i]).toNat t.toNat).length < (qn D t.toNat).length):K9 bs (D.set t.toNat (pn D ((yd bs)[i]).toNat t.toNat)) m true i:=by
 obtain ⟨x0,xr⟩:=(Hh hE _).1 (List.getElem_mem hi);obtain ⟨t0,t1⟩:=hE.2.2 _ (qt hE xr) t ht;have hs:=XI D t.toNat (pn D ((yd bs)[i]).toNat t.toNat) (by rw [h.inv.len];omega);have:=h.le;exact ⟨h.inv.step hE xr ht,by omega,fun _=>by omega,fun e=>by cases e⟩
theorem AQ {P:Nat→Prop} {w1:World} {base n B:Nat} {v:Value} (h:Kd.S (Kd.slice 3 (Kd.int .i64)) 22 w1 base P v (List.replicate ((n:Int)).toNat [])) (hn:0 < n) (hat:∃ b,v.ownBlock=some b∧B ≤ b) :
  ∃ g cap,v = .slice (some ⟨g,0,none⟩) n cap∧B ≤ g∧g < w1.heap.size∧Kd.S (Kd.slice 3 (Kd.int .i64)) 22 w1 base P (.slice (some ⟨g,0,none⟩) n cap) (List.replicate n []):=by
 rw [Int.toNat_natCast] at h;obtain ⟨g,cap,hv,hb,hl,-⟩:=Kd.rI h (by rw [List.length_replicate];exact hn);rw [List.length_replicate] at hv;obtain ⟨b,h1,h2⟩:=hat;rw [hv] at h1;obtain rfl:g=b:=by simpa [Value.ownBlock] using h1
 exact ⟨g,cap,hv,h2,hl,hv ▸ h⟩
theorem MD.fresh {w wA wd w1:World} {b4 g cap n:Nat} {D:List (List Int)} {ok:Nat→Prop} {v:Value} {xs:List Int} (h:MD w wA b4 g cap n D wd) (ho:Kd.R (Kd.int .i64) 3 w1 wd.heap.size ok v xs):Kd.R (Kd.int .i64) 3 w1 w.heap.size (fun k=>k ≠ b4∧wd.heap.size ≤ k) v xs :=
 Kd.xe (Kd.mc (Kd.Wh ho) (fun k hk=>⟨by have:=h.blt;have:=hk.2.1;omega,hk.2.1⟩)) h.bl.size
theorem bJ {bs:List Df} (hE:Zf bs) {i:Nat} (hi:i < (yd bs).length) {A:Option Addr} {W:World} (hC:Kd.C (Kd.int .i64) W A (yd bs).length (yd bs)) :
  ∃ (ad:Addr) (b:Nat),A=some ad∧(yd bs)[i]=(b:Int)∧b < bs.length∧Kq (ij bs) b∧W.cell? (ad.add i)=some (.int .i64 (b:Int)):=by
 obtain ⟨x0,xr⟩:=(Hh hE _).1 (List.getElem_mem hi);obtain ⟨ad,e1,hx⟩:=Kd.Ce hC (i:Int) (by omega) (by omega);rw [Int.toNat_natCast,Ek hi] at hx;exact ⟨ad,((yd bs)[i]).toNat,e1,(Int.toNat_of_nonneg x0).symm,qt hE xr,xr,by rw [Int.toNat_of_nonneg x0];exact hx⟩
theorem Q5 {w wA kn Rz:World} {tQ b4 q9 g cap n b tn ck:Nat} {D:List (List Int)} {Ak:Option Addr} {ok:Nat→Prop} (h:MD w wA b4 g cap n D kn) (h11:kn.heap[tQ]? = some (.cells #[.int .i64 (tn:Int)] 3 (0,0))) (h9:kn.heap[q9]? = some (.cells #[.int .i64 (b:Int)] 3 (0,0)))
  (DR:b < n) (hbd:Below kn.heap.size kn Rz) (ho:Kd.R (Kd.int .i64) 3 Rz kn.heap.size ok (.slice Ak (qn D tn).length ck) (qn D tn)) :
  Calls Try.prog 74 #[.slice Ak (qn D tn).length ck,.func (.func 109) #[] #[.pointer (some ⟨tQ,0,none⟩),.pointer (some ⟨b4,0,none⟩),.pointer (some ⟨q9,0,none⟩)]] Rz fun e w'=>e = .returned (.slice Ak (pn D b tn).length ck)∧Kd.R (Kd.int .i64) 3 w' kn.heap.size (fun _=>True) (.slice Ak (pn D b tn).length ck) (pn D b tn)∧Below kn.heap.size kn w':=by
 have hown:∀ k,(Value.slice Ak (qn D tn).length ck).ownBlock=some k→kn.heap.size ≤ k:=Kd.cg ho;have taa:=Kd.vaf h.row hbd;refine (oK 109 #[.pointer (some ⟨tQ,0,none⟩),.pointer (some ⟨b4,0,none⟩),.pointer (some ⟨q9,0,none⟩)] (Cz D b tn) (enters_of Try.func109 (by kernel_rfl) rfl) (fun k=>some k=(Value.slice Ak (qn D tn).length ck).ownBlock) Ak ck (qn D tn) kn.heap.size kn Rz hbd hbd.size (Kd.th rfl ho) (fun W x hk=>?_)).mono ?_
 ·have tap:=Kd.rA taa hk (fun k hk e=>by have:=hown k e.symm;have:=hk.2;omega);obtain ⟨A,c,hc,-,hl,hC⟩:=BK tap DR;have hne:∀ q,q < kn.heap.size→¬ some q=(Value.slice Ak (qn D tn).length ck).ownBlock:=fun q hq e=>by have:=hown q e.symm;omega
  exact AL tQ b4 q9 g n cap b tn D A c x W DR
   ((ja (Og (Xa h11 hbd) hk (hne _ (qd h11))) 0).trans rfl) ((ja (Og (Xa h.v hbd) hk (hne _ h.blt)) 0).trans rfl) ((ja (Og (Xa h9 hbd) hk (hne _ (qd h9))) 0).trans rfl) hc hl hC
 ·rintro e w' ⟨he,hr,hb,-⟩;exact ⟨he,Kd.mc hr (fun _ _=>trivial),hb⟩
theorem MV {bs:List Df} {D:List (List Int)} (h:nZ bs D) (hn:bs.length ≤ 1048576) (k:Nat):(qn D k).length ≤ 1048576:=by
 obtain ⟨q,hq⟩:=h.fil k;rw [hq];exact Nat.le_trans (List.length_filter_le _ _) (Nat.le_trans (eo bs) hn)
theorem fW {bs:List Df} (hE:Zf bs) {b j:Nat} (hb:b < bs.length) (hj:j < (ij bs b).length) {A:Option Addr} {W:World} (hC:Kd.C (Kd.int .i64) W A (ij bs b).length (ij bs b)) :
  ∃ (ad:Addr) (t:Nat),A=some ad∧(ij bs b)[j]=(t:Int)∧t < bs.length∧W.cell? (ad.add j)=some (.int .i64 (t:Int)):=by
 obtain ⟨t0,t1⟩:=hE.2.2 b hb _ (List.getElem_mem hj);obtain ⟨ad,e1,hx⟩:=Kd.Ce hC (j:Int) (by omega) (by omega);rw [Int.toNat_natCast,Ek hj] at hx;exact ⟨ad,((ij bs b)[j]).toNat,e1,(Int.toNat_of_nonneg t0).symm,by omega,by rw [Int.toNat_of_nonneg t0];exact hx⟩
theorem oh.calls (xb:Option Addr) (qb:Nat) (Ma:List Int) (La:Int) (Na:Int) (Ka:Int) (Qb:Option Addr) (Kb:Nat) (Ea:List (Df)) (r:List (List Int)) (w:World) (Re:Kd.C (Kd.int .i64) w xb Ma.length Ma) (Pe:Ma.length ≤ qb) (Cg:Kd.C Pr w Qb Ea.length Ea) (zg:Ea.length ≤ Kb) (h:oh.f Ma La Na Ka Ea=some r) :
  Calls Try.prog 82 #[.agg #[.slice xb Ma.length qb,.int .i64 La,.int .i64 Na,.int .i64 Ka,.slice Qb Ea.length Kb]] w fun e w'=>∃ Kp:Value,e = .returned (Kp)∧Kd.S (Kd.slice 3 (Kd.int .i64)) 22 w' w.heap.size (fun _=>True) Kp r∧Below w.heap.size w w':=by
 unfold oh.f at h
 by_cases hE:Zf Ea
 case neg=>rw [if_neg hE] at h;cases h
 rw [if_pos hE] at h;obtain rfl:=Option.some.inj h;clear h;obtain ⟨R,hR,hRl,hRa⟩:=bU (l0:=Ma) (p:=La) (v:=Na) (s:=Ka) hE;obtain ⟨ko,hko⟩:=Ev.rounds hR;have HO_:=aa.mk hko
 have HRA:=aa.mk (show Ng.f R=some (yd Ea) from by
  unfold Ng.f
  rw [if_pos (by have:=hE.2.1;omega),hRa])
 have HE:=aa.mk hE;have hn0:0 < Ea.length:=hE.1;have hn1:Ea.length ≤ 1048576:=hE.2.1;have HML:=aa.mk (eo Ea);have HN:=aa.mk (And.intro hn0 hn1);clear hR hRl hRa hko hE;obtain ⟨W1,Mg⟩:∃ W1,W1=w.alloc (.cells #[.slice xb Ma.length qb,.int .i64 La,.int .i64 Na,.int .i64 Ka,.slice Qb Ea.length Kb] 45 (0,0)):=⟨_,rfl⟩;have HW:=aa.mk Mg;have HB:=aa.mk (show Below w.heap.size w W1 by rw [Mg];exact oa (Below.refl _ _) _);have HX:=aa.mk (show W1.heap[w.heap.size]? = some (.cells #[.slice xb Ma.length qb,.int .i64 La,.int .i64 Na,.int .i64 Ka,.slice Qb Ea.length Kb] 45 (0,0)) by rw [Mg];exact sr _ _);have en:=aa.mk Re;have zZ:=aa.mk Cg;have S4:=aa.mk Pe;have R4:=aa.mk zg;have hx0:=(ja HX.out 0).trans rfl;have hx1:=(ja HX.out 1).trans rfl;have hx2:=(ja HX.out 2).trans rfl;have fB:=(ja HX.out 3).trans rfl;have Pz:=(ja HX.out 4).trans rfl;clear Mg Re Cg Pe zg hn0 hn1;go_enter Try.func82,Try.ntmps82
 go_upto_region 1 with (fail)
 rw [← HW.out];clear HW
 go_upto_region 2 with (first|(go_at_call 78;(with_reducible refine (Gd.calls ko xb qb Ma La Na Ka Qb Kb Ea R W1 (Kd.Ib en.out HB.out) S4.out (Kd.Ib zZ.out HB.out) R4.out HO_.out).mono ?_);rintro e w2 ⟨v2,rfl,ho,hb⟩;have HO2:=aa.mk ho;have zu:=aa.mk (Oa HB.out hb);have eV:=aa.mk hb;have HX2:=aa.mk (Xa HX.out hb);clear ho hb hx0 hx1 hx2 fB Pz)|(go_at_call 86;(with_reducible refine (Ng.calls (fun _=>True) v2 R (yd Ea) W1 w2 eV.out HO2.out HRA.out).mono ?_);rintro e w3 ⟨v3,rfl,ho,hb,hk⟩;obtain ⟨Ar,cr,rfl⟩:=Kd.xd ho;have XA:=aa.mk ho;have UE:=aa.mk (Oa HB.out hb);have HX3:=aa.mk (Xa HX.out hb);clear ho hb hk))
 have X4:=aa.mk (Kd.Rb XA.out).2.2;have hrl:(yd Ea).length ≤ 1048576:=Nat.le_trans HML.out HN.out.2;clear XA HO2 zu eV HX2 HO_ HRA HX HB;have Pz:=(ja HX3.out 4).trans rfl;have HMK:=aa.mk (show ((Ea.length:Int)).toNat * 24 ≤ 281474976710656 from by have:=HN.out;omega);have h0n:(0:Int) ≤ (Ea.length:Int):=by omega
 go_upto_region 3 with (first|((with_reducible refine Bb (N:=19) rfl ?_);refine Kd.IU (Kd.slice 3 (Kd.int .i64)) (w0:=w) w.heap.size 22 rfl (N:=19) rfl 53 _ _ rfl (Ea.length:Int) rfl rfl Try.underlying53 (.slice none 0 0) 24 PC rfl (by decide) (by omega) [] (ok:=fun _=>True) (Oh:=fun _=>True) ⟨_,rfl,Kd.WA _ _ _ _ _⟩ (fun _ hk=>hk) trivial h0n HMK.out UE.out UE.out.size ?_;intro v4 w4 hs hb hg hat;obtain ⟨g,cap,rfl,hgb,W0,hs⟩:=AQ hs HN.out.1 hat;have HS4:=aa.mk hs;have iL:=aa.mk hb;have bV:=aa.mk hg;have HZ:=aa.mk hgb;have HGL:=aa.mk W0;clear hs hb hg hat hgb W0))
 have hae:Below w3.heap.size w3 w4:=(Below.refl _ w3).grown bV.out (Nat.le_refl _) (fun k e=>by cases e);have hb5:=oa (Below.refl w4.heap.size w4) (.cells #[.slice (some ⟨g,0,none⟩) Ea.length cap] 53 (0,0));have hv5:=sr w4 (.cells #[.slice (some ⟨g,0,none⟩) Ea.length cap] 53 (0,0));generalize w4.alloc (.cells #[.slice (some ⟨g,0,none⟩) Ea.length cap] 53 (0,0))=wA at hb5 hv5 ⊢;have HBA:=aa.mk (Oa hae hb5);have HXA:=aa.mk (Xa HX3.out HBA.out);have HBL:=aa.mk (show Below w.heap.size w wA from tD UE.out UE.out.size HBA.out);have HCR:=aa.mk (fun W' hk=>Kd.Yu (S:=fun k=>k=g) (Kd.Sj .i64) X4.out HBA.out (fun k e=>e ▸ HZ.out) W' hk);have HS:=aa.mk (show MD w wA w4.heap.size g cap Ea.length (List.replicate Ea.length []) wA from ⟨HBL.out,Kept.refl _ _,hv5,Kd.Ld (Kd.Wd (Kd.JU HS4.out w4.heap.size (Nat.le_refl _)) hb5) (fun k hk=>hk.2),by have:=HGL.out;omega,Nat.le_trans UE.out.size HZ.out⟩);have HNX:=aa.mk (show w.heap.size ≠ g from by have:=qd HX3.out;have:=HZ.out;omega);have HI:=aa.mk (wI.start Ea);clear hae hb5 hv5 HS4 iL bV HGL HX3 X4 UE h0n HMK Pz;generalize w4.heap.size=b4 at HS ⊢;go_wp2
 go_loopg [22] (yd Ea).length (fun gg v22 wr=>∃ (i:Nat) (D:List (List Int)),i ≤ (yd Ea).length∧(yd Ea).length - i ≤ gg∧v22 = .int .i64 i∧aa (wI Ea i D)∧aa (MD w wA b4 g cap Ea.length D wr))
 case atStart=>exact ⟨0,_,Nat.zero_le _,by omega,rfl,HI,HS⟩
 case round =>
  clear HI HS;(try clear D);(try clear HI);(try clear HS);obtain ⟨i,D,hi,hgg,rfl,HI,HS⟩:=hrel
  by_cases hlt:i < (yd Ea).length
  ·have eA:decide ((i:Int) < ((yd Ea).length:Int))=true:=decide_eq_true (by omega);have p1:0 ≤ (i:Int):=by omega
   have p2:(i:Int) < ((yd Ea).length:Int):=by omega
   obtain ⟨ad,b,e1,hb,DR,hbr,hx⟩:=bJ HE.out hlt (HCR.out wr HS.out.k);subst e1;have HNI:=aa.mk (HI.out.next HE.out hlt);rw [hb,Int.toNat_natCast] at HNI;have q1:0 ≤ (b:Int):=by omega
   have q2:(b:Int) < (Ea.length:Int):=by omega
   clear hb hbr
   go_upto_region 6 with (fail)
   have HD:=aa.mk (HS.out.below (Jq (Below.refl wr.heap.size wr)));clear HS HI hx;refine fl (n:=7) (S:=fun w'=>w'.cell? ⟨b4,0,none⟩=some (.slice (some ⟨g,0,none⟩) Ea.length cap)) (ds:=[6]) #[false,false,false,false,false,false,false] (by kernel_rfl) rfl rfl (HD.out.cell) (fun hHeld=>?_);generalize wr.drew=wd at HD hHeld ⊢;refine od (i:=1) (N:=some 27) (v:=?_) (a':=?_) #[false,true,false,false,false,false,false] rfl rfl (by kernel_rfl) (fun _ _ _ h=>h) (Or.inl ⟨by rfl,?_⟩) ?_ ?_;rotate_left
   ·intro w';go_simp;with_reducible rfl
   rotate_left
   ·simp only [Act.put,List.setIfInBounds_toArray,List.set_cons_zero,List.set_cons_succ,Vb,Wb]
    rfl
   refine od (i:=3) (N:=some 29) (v:=?_) (a':=?_) #[false,true,false,true,false,false,false] rfl rfl (by kernel_rfl) (fun _ _ _ h=>h) (Or.inl ⟨by rfl,?_⟩) ?_ ?_;rotate_left
   ·intro w';go_simp;with_reducible rfl
   rotate_left
   ·simp only [Act.put,List.setIfInBounds_toArray,List.set_cons_zero,List.set_cons_succ,Vb,Wb]
    rfl
   refine Ih (i:=0) (N:=some 26) (v:=?_) (a':=?_) #[true,true,false,true,false,false,false] rfl rfl (by kernel_rfl) (fun _ _ _ h=>h) (Or.inl ⟨by rfl,?_⟩) hHeld ?_ ?_;rotate_left
   ·intro w' s0;go_simp;with_reducible rfl
   rotate_left
   ·simp only [Act.put,List.setIfInBounds_toArray,List.set_cons_zero,List.set_cons_succ,Vb,Wb]
    rfl
   refine Ko (i:=2) (N:=some 28) #[true,true,true,true,false,false,false] rfl rfl (by kernel_rfl) (by decide) (fun K hK=>?_);refine yq (w1:=?_) (v:=?_) (by rfl) rfl ?_ ?_;rotate_left 2
   ·go_simp
    constructor
    ·rfl
    ·rfl
   refine hK.out _ _ ((HD.out.below (oa (Below.refl _ _) _)).cell) (fun hHeld=>?_);clear hK K;refine Rg (a':=?_) ?_ ?_;rotate_left
   ·show Act.put _ (some 28) _=_
    simp only [Act.put,List.setIfInBounds_toArray,List.set_cons_zero,List.set_cons_succ,Vb,Wb]
    rfl
   refine Ko (i:=4) (N:=some 30) #[true,true,true,true,true,false,false] rfl rfl (by kernel_rfl) (by decide) (fun K hK=>?_);refine Kd.Te (Kd.int .i64) (w0:=wd) wd.heap.size (by rfl) (.tmp 28) (.tmp 29) 22 3 (.int .i64 0) 8 rfl Try.underlying22 info3 rfl (by decide) (by omega) (.slice (some ⟨wd.heap.size,0,none⟩) 0 0) [] (yd Ea) (some ad) (yd Ea).length cr (fun _=>True) (fun _=>False) rfl rfl (bu (Kd.int .i64) 3 wd wd.heap.size (Nat.le_refl _)) ?aR (fun _ _ h=>h) (fun _ hk=>hk.elim) (fun _ _=>trivial) (oa (Below.refl _ _) _) (oa (Below.refl _ _) _).size ?aL ?_
   (case aR=>exact HCR.out _ (HD.out.below (oa (Below.refl _ _) _)).k)
   (case aL=>have:=HML.out;have:=HN.out.2;simp;omega)
   intro v1 w1 ho Ys KD hat;rw [List.nil_append] at ho;clear KD hat;obtain ⟨A1,c1,rfl⟩:=Kd.xd ho;have HD1:=aa.mk (HD.out.below Ys);have HP:=aa.mk (HD.out.put Ys DR (HD.out.fresh ho));clear ho Ys;refine hK.out _ _ (HD1.out.cell) (fun hHeld=>?_);clear hK K;refine Rg (a':=?_) ?_ ?_;rotate_left
   ·show Act.put _ (some 30) _=_
    simp only [Act.put,List.setIfInBounds_toArray,List.set_cons_zero,List.set_cons_succ,Vb,Wb]
    rfl
   refine od (i:=5) (N:=some 31) (v:=?_) (a':=?_) #[true,true,true,true,true,true,false] rfl rfl (by kernel_rfl) (fun _ _ _ h=>h) (Or.inl ⟨by rfl,?_⟩) ?_ ?_;rotate_left
   ·intro w';go_simp;with_reducible rfl
   rotate_left
   ·simp only [Act.put,List.setIfInBounds_toArray,List.set_cons_zero,List.set_cons_succ,Vb,Wb]
    rfl
   refine BS (i:=6) (N:=none) #[true,true,true,true,true,true,true] rfl rfl (by kernel_rfl) (by decide) (fun K hK=>?_);obtain ⟨Ao,co,hc,hf,-,-⟩:=HD1.out.at DR;refine ZR (w1:=?_) (by rfl) rfl ?_ ?_;rotate_left
   ·go_simp
    rfl
   refine hK.out _ _ ?_;clear hK K;refine Mp (by kernel_rfl) ?_;clear hHeld;go_wp2
   go_roundg ((yd Ea).length - (i + 1))
   case measure=>omega
   case rel=>exact ⟨i + 1,_,by omega,by omega,by go_num,HNI,HP⟩
  ·have eA:decide ((i:Int) < ((yd Ea).length:Int))=false:=decide_eq_false (by omega);obtain rfl:i=(yd Ea).length:=by omega
   have Y3:=aa.mk (HI.out.go HE.out);have hv:=HS.out.cell;obtain ⟨A0,c0,WQ,hf0,-,-⟩:=HS.out.at (i:=0) HN.out.1;have q0:(0:Int) < (Ea.length:Int):=by have:=HN.out.1;omega
   have s1:=HS.out.glt;have s2:=HS.out.blt;have hp:=HS.out.put (oa (Below.refl _ _) (.cells #[.int .i64 0] 3 (0,0))) HN.out.1 (HS.out.fresh (yD wr wr.heap.size 0 (Nat.le_refl _)));rw [World.setCell_alloc_past _ _ _ _ s1] at hp;have HP:=aa.mk hp;clear hp
   go_upto_region 9 with (fail)
   clear HI HS hv WQ hf0 s1 s2 q0 eA hlt hgg hi;generalize (wr.setCell ⟨g,0,none⟩ (.slice (some ⟨wr.heap.size,0,none⟩) 1 1)).alloc (.cells #[.int .i64 0] 3 (0,0))=w8 at HP ⊢;generalize D.set 0 [0]=D at Y3 HP;go_wp2
   go_loopg [7] (dB D + 1) (fun gg v7 wr=>∃ (D:List (List Int)) (a:Bool),v7 = .bool a∧dB D + (if a=true then 1 else 0) ≤ gg∧aa (nZ Ea D)∧aa (a=false→SoE Ea D (yd Ea).length)∧aa (MD w wA b4 g cap Ea.length D wr))
   case atStart=>exact ⟨_,true,rfl,by simp,Y3,⟨fun e=>by cases e⟩,HP⟩
   case round =>
    clear Y3 HP;(try clear D);(try clear Y3);(try clear V9);(try clear HS);obtain ⟨D,a,rfl,hgg,Y3,V9,HS⟩:=hrel;cases a with
    | false =>
     have HDE:=aa.mk (Y3.out.done HE.out (fun b hb t ht=>by
      have h:=V9.out rfl (b:Int) (by rw [List.take_length];exact (Hh HE.out _).2 ⟨by omega,by rw [Int.toNat_natCast];exact hb⟩) t (by rw [Int.toNat_natCast];exact ht)
      rwa [Int.toNat_natCast] at h))
     have hv:=HS.out.cell;go_wp2;go_ret;exact ⟨_,rfl,by rw [← HDE.out];exact Kd.Ld HS.out.row (fun _ _=>trivial),HS.out.bl⟩
    | true =>
     have eab:=hgg;rw [if_pos rfl] at eab;have HJ:=aa.mk (show K9 Ea D (dB D) false 0 from ⟨Y3.out,Nat.le_refl _,(fun e=>by cases e),(fun _ b hb=>by simp at hb)⟩);clear Y3 V9 hgg;generalize dB D=m0 at HJ eab;go_wp2
     go_loopg [7,39] (yd Ea).length (fun g3 v7 v39 wr=>∃ (i:Nat) (D:List (List Int)) (a:Bool),v7 = .bool a∧v39 = .int .i64 i∧i ≤ (yd Ea).length∧(yd Ea).length - i ≤ g3∧aa (K9 Ea D m0 a i)∧aa (MD w wA b4 g cap Ea.length D wr))
     case atStart=>exact ⟨0,_,false,rfl,rfl,Nat.zero_le _,by omega,HJ,HS⟩
     case round =>
      clear HJ HS;(try clear D);(try clear HJ);(try clear HS);obtain ⟨i,D,a,rfl,rfl,hi,dL,HJ,HS⟩:=hrel
      by_cases hlt:i < (yd Ea).length
      ·have eA:decide ((i:Int) < ((yd Ea).length:Int))=true:=decide_eq_true (by omega);have p1:0 ≤ (i:Int):=by omega
       have p2:(i:Int) < ((yd Ea).length:Int):=by omega
       obtain ⟨ad,b,e1,hb,DR,hbr,hx⟩:=bJ HE.out hlt (HCR.out wr HS.out.k);subst e1;have HRB:=aa.mk hb;clear hb hbr
       go_upto_region 15 with (fail)
       have hb9:=oa (Below.refl wr.heap.size wr) (.cells #[.int .i64 (b:Int)] 3 (0,0));have hv9:=sr wr (.cells #[.int .i64 (b:Int)] 3 (0,0));generalize wr.alloc (.cells #[.int .i64 (b:Int)] 3 (0,0))=w9 at hb9 hv9 ⊢;have HS9:=aa.mk (HS.out.below hb9);have HQ9:=aa.mk hv9;have HN9:=aa.mk (show wr.heap.size ≠ g from by have:=HS.out.glt;omega);clear hb9 hv9 HS hx;generalize wr.heap.size=q9 at HQ9 HN9 ⊢;have hq9:=(ja HQ9.out 0).trans rfl;have Pz:=(ja (Og HXA.out HS9.out.k HNX.out) 4).trans rfl;obtain ⟨ag,Ac,cc,e1,hc0,hc1,fL,wV,hc4,LD,hcC⟩:=Nk (Kd.Ib zZ.out HS9.out.bl) (b:Int) (by omega) (by omega);subst e1;simp only [Int.toNat_natCast] at hc0 hc1 fL wV hc4;have q1:0 ≤ (b:Int):=by omega
       have q2:(b:Int) < (Ea.length:Int):=by omega
       have Pas:=aa.mk (show bg.f (Ta Ea (b:Int)).f0 (Ta Ea (b:Int)).f1 (Ta Ea (b:Int)).f2 (Ta Ea (b:Int)).f3 (Ta Ea (b:Int)).f4=some (ij Ea b) from aA _);have HCC:=aa.mk hcC;have HCL:=aa.mk LD;clear hcC LD;have htl:(ij Ea b).length ≤ 2:=xl _;go_wp2_with (first|(go_at_call 75;(with_reducible refine (bg.calls Ac cc (Ta Ea (b:Int)).f0 (Ta Ea (b:Int)).f1 (Ta Ea (b:Int)).f2 (Ta Ea (b:Int)).f3 (Ta Ea (b:Int)).f4 (ij Ea b) w9 HCC.out HCL.out Pas.out).mono ?_);rintro e Fs ⟨v15,rfl,ho,hb⟩;obtain ⟨An,cn,rfl⟩:=Kd.xd ho;have kag:=aa.mk ho;have VK:=aa.mk hb;clear ho hb hc0 hc1 fL wV hc4 Pz hq9));have bag:=aa.mk (HS9.out.below VK.out);have Las:=aa.mk (Xa HQ9.out VK.out);have U4:=aa.mk HS9.out.glt;have HNC:=aa.mk (fun W' hk=>Kd.UM (S:=fun k=>k=g) (Kd.mc (Kd.Wh kag.out) (fun k hk=>hk.2.1)) (fun k hk e=>by have:=U4.out;omega) W' hk);have HNE:=aa.mk (rfl:ij Ea b=ij Ea b);clear HS9 kag VK HCC HCL HQ9
       go_loopg [7,50] (ij Ea b).length (fun g4 v7 v50 wr=>∃ (j:Nat) (D:List (List Int)) (a:Bool),v7 = .bool a∧v50 = .int .i64 j∧j ≤ (ij Ea b).length∧(ij Ea b).length - j ≤ g4∧aa (K9 Ea D m0 a i)∧aa (a=false→SoJ D b (ij Ea b) j)∧aa (MD w wA b4 g cap Ea.length D wr)∧aa (Kept Fs wr (fun k=>k=g)))
       case atStart=>exact ⟨0,_,_,rfl,rfl,Nat.zero_le _,by omega,HJ,⟨fun _ t ht=>by simp at ht⟩,bag,⟨Kept.refl _ _⟩⟩
       case round =>
        clear HJ bag;(try clear D);(try clear HJ);(try clear V9);(try clear HS);(try clear HK);obtain ⟨j,D,a,rfl,rfl,hj,cL,HJ,V9,HS,HK⟩:=hrel
        by_cases hjt:j < (ij Ea b).length
        ·have Raq:decide ((j:Int) < ((ij Ea b).length:Int))=true:=decide_eq_true (by omega);have r1:0 ≤ (j:Int):=by omega
         have r2:(j:Int) < ((ij Ea b).length:Int):=by omega
         obtain ⟨an,tn,e1,ht,htn,hx⟩:=fW HE.out DR hjt (HNC.out wr HK.out);subst e1;have HT:=aa.mk ht;clear ht
         go_upto_region 18 with (fail)
         have WT:=oa (Below.refl wr.heap.size wr) (.cells #[.int .i64 (tn:Int)] 3 (0,0));have O6:=sr wr (.cells #[.int .i64 (tn:Int)] 3 (0,0));generalize wr.alloc (.cells #[.int .i64 (tn:Int)] 3 (0,0))=kn at WT O6 ⊢;have NM:=aa.mk (HS.out.below WT);have BI:=aa.mk O6;have eag:=aa.mk (Xa (Og Las.out HK.out HN9.out) WT);have vag:=aa.mk (HK.out.below WT);clear WT O6 HS HK hx;generalize wr.heap.size=tQ at BI ⊢;have UK:=aa.mk (oa (Below.refl kn.heap.size kn) (.cells #[] 3 (0,0)));obtain ⟨At,ct,hrt,-,hlt',hCt⟩:=(NM.out.below UK.out).at htn;have HCt:=aa.mk hCt;have hv4:=(NM.out.below UK.out).cell;have Faa:=(ja (Xa BI.out UK.out) 0).trans rfl;have t1:0 ≤ (tn:Int):=by omega
         have t2:(tn:Int) < (Ea.length:Int):=by omega
         have HEM:=aa.mk (bu (Kd.int .i64) 3 kn kn.heap.size (Nat.le_refl _));have HLN:=aa.mk (show (([]:List Int).length + (qn D tn).length) * 8 ≤ 140737488355328 from by have:=MV HJ.out.inv HN.out.2 tn;simp;omega);have hmf:∀ (fn:Fn) (first cap:Array Value) (w:World),(Instr.makeFunc fn first cap).run Try.prog w = .ok (.func fn first cap) w:=fun _ _ _ _=>rfl
         clear hCt
         go_upto_region 19 with (first|((with_reducible refine Bb (N:=59) rfl ?_);refine Kd.Gw (Kd.int .i64) (w0:=kn) kn.heap.size rfl (.tmp 54) (.tmp 58) 22 3 (.int .i64 0) 8 rfl Try.underlying22 info3 rfl (by decide) (by omega) (.slice (some ⟨kn.heap.size,0,none⟩) 0 0) [] (qn D tn) At (qn D tn).length ct (fun _=>True) (fun _=>False) rfl rfl HEM.out HCt.out (fun _ _ h=>h) (fun _ hk=>hk.elim) (fun _ _=>trivial) UK.out UK.out.size HLN.out ?_;intro v19 Rz ho Ys KD hat;rw [List.nil_append] at ho;obtain ⟨Ak,ck,rfl⟩:=Kd.xd ho;have HDC:=aa.mk (Q5 NM.out BI.out eag.out DR Ys ho);clear ho Ys KD hat hrt hv4 Faa)|(go_at_call 74;(with_reducible refine HDC.out.mono ?_);rintro e w20 ⟨rfl,Eaa,iae⟩;have dag:=aa.mk Eaa;have dV:=aa.mk iae;clear Eaa iae HDC))
         have X9:=aa.mk (NM.out.below dV.out);have HP:=aa.mk (NM.out.put dV.out htn (NM.out.fresh dag.out));have uag:=aa.mk (vag.out.below dV.out);have hv4:=X9.out.cell;have Faa:=(ja (Xa BI.out dV.out) 0).trans rfl;obtain ⟨At,ct,hrt,hft,-,-⟩:=X9.out.at htn;clear NM eag vag HEM HLN HCt UK dag hlt' BI dV
         by_cases hk:(pn D b tn).length < (qn D tn).length
         ·have hkb:decide (((pn D b tn).length:Int) < ((qn D tn).length:Int))=true:=decide_eq_true (by omega);have HJN:=aa.mk (HJ.out.keep HE.out hlt (t:=(ij Ea b)[j]) (by rw [HRB.out,Int.toNat_natCast];exact List.getElem_mem hjt) (by rw [HRB.out,HT.out,Int.toNat_natCast,Int.toNat_natCast];exact hk));rw [HRB.out,HT.out,Int.toNat_natCast,Int.toNat_natCast] at HJN;have hGK:=HP.out.k;go_wp2
          go_roundg ((ij Ea b).length - (j + 1))
          case measure=>omega
          case rel=>exact ⟨j + 1,_,true,rfl,by go_num,by omega,by omega,HJN,⟨fun e=>by cases e⟩,HP,⟨uag.out.setCell (Or.inl rfl) _⟩⟩
         ·have hkb:decide (((pn D b tn).length:Int) < ((qn D tn).length:Int))=false:=decide_eq_false (by omega);have x_:=aa.mk (CS hk).2;clear HP;go_wp2
          go_roundg ((ij Ea b).length - (j + 1))
          case measure=>omega
          case rel=>exact ⟨j + 1,D,a,rfl,by go_num,by omega,by omega,HJ,⟨fun e=>(V9.out e).next hjt (by rw [HT.out,Int.toNat_natCast];exact x_.out)⟩,X9,uag⟩
        ·have Raq:decide ((j:Int) < ((ij Ea b).length:Int))=false:=decide_eq_false (by omega);obtain rfl:j=(ij Ea b).length:=by omega
         have HJN:=aa.mk (show K9 Ea D m0 a (i + 1) from ⟨HJ.out.inv,HJ.out.le,HJ.out.lt,fun e=>(HJ.out.so e).next hlt (by rw [HRB.out,Int.toNat_natCast];exact V9.out e)⟩);go_wp2
         go_roundg ((yd Ea).length - (i + 1))
         case measure=>omega
         case rel=>exact ⟨i + 1,D,a,rfl,by go_num,by omega,by omega,HJN,HS⟩
      ·have eA:decide ((i:Int) < ((yd Ea).length:Int))=false:=decide_eq_false (by omega);obtain rfl:i=(yd Ea).length:=by omega
       have h1:=HJ.out.le;have h2:=HJ.out.lt
       have HM:=aa.mk (show dB D + (if a=true then 1 else 0) < m0 + 1 from by
        cases a with
        | false=>rw [if_neg (by simp)];omega
        | true=>have:=h2 rfl;rw [if_pos rfl];omega)
       clear h1 h2;go_wp2
       go_roundg (dB D + (if a=true then 1 else 0))
       case measure=>have:=HM.out;omega
       case rel=>exact ⟨D,a,rfl,Nat.le_refl _,⟨HJ.out.inv⟩,⟨HJ.out.so⟩,HS⟩
attribute [local go_sem] Wi Ui jk fk Ch Bh Vi Ti
mutual
noncomputable def yc.l0:Nat→List (List Int)→List (List Int)→Int→Int→List Int→Int→Int→Int→List (Df)→Option ((List (List Int)))
 | 0,_,_,_,_,_,_,_,_,_=>none
 | k + 1,x3,x4,NR,zR,Mc,Nc,Lc,Jc,Nb=>if zR < NR then (yc.l1 k x3 x4 zR (([]:List Int)) NR zR Nb (Nb.length:Int) 0 Mc Nc Lc Jc Nb) else (some x4)
noncomputable def yc.l1:Nat→List (List Int)→List (List Int)→Int→List Int→Int→Int→List (Df)→Int→Int→List Int→Int→Int→Int→List (Df)→Option ((List (List Int)))
 | 0,_,_,_,_,_,_,_,_,_,_,_,_,_,_=>none
 | k + 1,x3,x4,x5,x6,NR,zR,nQ,RZ,XK,Mc,Nc,Lc,Jc,Nb=>if XK < RZ then (if 0 ≤ XK then (if XK < (nQ.length:Int) then ((bg.f ((Ta nQ XK).f0) ((Ta nQ XK).f1) ((Ta nQ XK).f2) ((Ta nQ XK).f3) ((Ta nQ XK).f4)).bind fun t120=>(yc.l2 k x3 x4 x5 x6 XK NR zR nQ RZ XK t120 (t120.length:Int) 0 Mc Nc Lc Jc Nb)) else (none)) else (none)) else ((Ng.f x6).bind fun t112=>(if x4.length < 5864062014805 then (yc.l0 k x3 (x4 ++ [t112]) NR (wrap64 (zR + 1)) Mc Nc Lc Jc Nb) else (none)))
noncomputable def yc.l2:Nat→List (List Int)→List (List Int)→Int→List Int→Int→Int→Int→List (Df)→Int→Int→List Int→Int→Int→List Int→Int→Int→Int→List (Df)→Option ((List (List Int)))
 | 0,_,_,_,_,_,_,_,_,_,_,_,_,_,_,_,_,_,_=>none
 | k + 1,x3,x4,x5,x6,x7,NR,zR,nQ,RZ,XK,JD,x34,mQ,Mc,Nc,Lc,Jc,Nb=>if mQ < x34 then (if 0 ≤ mQ then (if mQ < (JD.length:Int) then (if 0 ≤ x7 then (if x7 < (x3.length:Int) then ((tc.f k (Je x3 x7) x5).bind fun t125=>(if t125=true then (if (rd JD mQ)=x5 then (if x6.length < 17592186044416 then (yc.l2 k x3 x4 x5 (x6 ++ [rd JD mQ]) x7 NR zR nQ RZ XK JD x34 (wrap64 (mQ + 1)) Mc Nc Lc Jc Nb) else (none)) else (if 0 ≤ (rd JD mQ) then (if (rd JD mQ) < (x3.length:Int) then ((tc.f k (Je x3 (rd JD mQ)) x5).bind fun t130=>(if t130=true then (yc.l2 k x3 x4 x5 x6 x7 NR zR nQ RZ XK JD x34 (wrap64 (mQ + 1)) Mc Nc Lc Jc Nb) else (if x6.length < 17592186044416 then (yc.l2 k x3 x4 x5 (x6 ++ [rd JD mQ]) x7 NR zR nQ RZ XK JD x34 (wrap64 (mQ + 1)) Mc Nc Lc Jc Nb) else (none)))) else (none)) else (none))) else (yc.l2 k x3 x4 x5 x6 x7 NR zR nQ RZ XK JD x34 (wrap64 (mQ + 1)) Mc Nc Lc Jc Nb))) else (none)) else (none)) else (none)) else (none)) else (yc.l1 k x3 x4 x5 x6 NR zR nQ RZ (wrap64 (XK + 1)) Mc Nc Lc Jc Nb)
end
noncomputable def yc.f (k:Nat) (Ma:List Int) (La:Int) (Na:Int) (Ka:Int) (Ea:List (Df)):Option ((List (List Int))):=(Bc.f k Ma La Na Ka Ea).bind fun t102=>(if t102=true then ((oh.f Ma La Na Ka Ea).bind fun t103=>(yc.l0 k t103 (([]:List (List Int))) (Ea.length:Int) 0 Ma La Na Ka Ea)) else (some ([]:List (List Int))))
theorem yc.calls (k:Nat) (xb:Option Addr) (qb:Nat) (Ma:List Int) (La:Int) (Na:Int) (Ka:Int) (Qb:Option Addr) (Kb:Nat) (Ea:List (Df)) (r:List (List Int)) (w:World) (Re:Kd.C (Kd.int .i64) w xb Ma.length Ma) (Pe:Ma.length ≤ qb) (Cg:Kd.C Pr w Qb Ea.length Ea) (zg:Ea.length ≤ Kb) (h:yc.f k Ma La Na Ka Ea=some r) :
  Calls Try.prog 41 #[.agg #[.slice xb Ma.length qb,.int .i64 La,.int .i64 Na,.int .i64 Ka,.slice Qb Ea.length Kb]] w fun e w'=>∃ Kp:Value,e = .returned (Kp)∧Kd.S (Kd.slice 3 (Kd.int .i64)) 22 w' w.heap.size (fun _=>True) Kp r∧Below w.heap.size w w':=by
 have RC:=Try.underlying45;have dA:=Try.underlying83;have Ue:=aa.mk Re;have af:=aa.mk Pe;clear Re Pe;have Xf:=aa.mk Cg;have Zg:=aa.mk zg;clear Cg zg;have HB:=aa.mk (Below.refl w.heap.size w);have H:((Bc.f k Ma La Na Ka Ea).bind fun t102=>(if t102=true then ((oh.f Ma La Na Ka Ea).bind fun t103=>(yc.l0 k t103 (([]:List (List Int))) (Ea.length:Int) 0 Ma La Na Ka Ea)) else (some ([]:List (List Int)))))=some r:=h;clear h;replace H:=Option.bind_eq_some_iff.mp H;obtain ⟨t102,nE,H⟩:=H;replace H:(if t102=true then ((oh.f Ma La Na Ka Ea).bind fun t103=>(yc.l0 k t103 (([]:List (List Int))) (Ea.length:Int) 0 Ma La Na Ka Ea)) else (some ([]:List (List Int))))=some r:=H;have A2:=aa.mk nE;clear nE
 by_cases c3:t102=true
 ·subst c3;have H1:((oh.f Ma La Na Ka Ea).bind fun t103=>(yc.l0 k t103 (([]:List (List Int))) (Ea.length:Int) 0 Ma La Na Ka Ea))=some r:=by rw [if_pos rfl] at H;exact H
  clear H;have H:=H1;clear H1;replace H:=Option.bind_eq_some_iff.mp H;obtain ⟨t103,mE,H⟩:=H;replace H:(yc.l0 k t103 (([]:List (List Int))) (Ea.length:Int) 0 Ma La Na Ka Ea)=some r:=H;have A4:=aa.mk mE;clear mE;obtain ⟨Ze,Nu⟩:∃ y_:List (List Int),y_=(([]:List (List Int))):=⟨_,rfl⟩;replace H:(yc.l0 k t103 Ze (Ea.length:Int) 0 Ma La Na Ka Ea)=some r:=by first|(rw [Nu];with_reducible exact H)|(have Ud:=(Option.bind_some _ _).symm.trans H;rw [Nu];with_reducible exact Ud)|(have Ud:=(Option.bind_some _ _).symm.trans H;with_reducible exact Ud)|with_reducible exact H|(rw [Nu];exact H)|exact H
  have VP:=aa.mk Nu;clear Nu;have H':=aa.mk H;clear H;go_enter Try.func41,Try.ntmps41;go_wp2_with (first|((with_reducible refine Bb (N:=1) rfl ?_);refine Ob ?hg (N:=1) ?hd (cs:=#[.slice xb Ma.length qb,.int .i64 La,.int .i64 Na,.int .i64 Ka,.slice Qb Ea.length Kb]) (t:=45) ?hr ?_;(case hd=>rfl);(case hg=>rfl);(case hr=>first|(go_simp;done)|(go_simp;rfl));intro za hg w5 oc hb;have Cb:=aa.mk (Oa (by repeat (first|(with_reducible first|exact HB.out|apply oa|apply ia|apply qa)|exact HB.out)) hb);have Lb:=aa.mk (oc);have Pb:=aa.mk ((by rw [hg];exact (Ja (by repeat (first|(with_reducible first|exact HB.out|apply oa|apply ia|apply qa)|exact HB.out))):w.heap.size ≤ za));have Ec:=aa.mk ((by rw [hg];exact (Ja (by repeat (first|(with_reducible first|exact HB.out|apply oa|apply ia|apply qa)|exact HB.out))):w.heap.size ≤ za));clear HB;have HB:=Cb;have ta:=Lb;have He:=Pb;have Ua:=Ec;clear Cb Lb Pb Ec hb oc hg;have js:w5.cell? ⟨za,0,none⟩=some (.slice xb Ma.length qb):=(ja ta.out 0).trans rfl;have Zr:w5.cell? ⟨za,1,none⟩=some (.int .i64 La):=(ja ta.out 1).trans rfl;have Yr:w5.cell? ⟨za,2,none⟩=some (.int .i64 Na):=(ja ta.out 2).trans rfl;have Xr:w5.cell? ⟨za,3,none⟩=some (.int .i64 Ka):=(ja ta.out 3).trans rfl;have Wr:w5.cell? ⟨za,4,none⟩=some (.slice Qb Ea.length Kb):=(ja ta.out 4).trans rfl;have Vr:=ga ta.out 0;have Ur:=ga ta.out 1;have Tr:=ga ta.out 2;have Sr:=ga ta.out 3;have Qr:=ga ta.out 4)|((with_reducible refine Ab (f:=71) rfl ?_);refine Uc (some 12) rfl rfl Try.func71 (by kernel_rfl) rfl #[.agg #[.slice xb Ma.length qb,.int .i64 La,.int .i64 Na,.int .i64 Ka,.slice Qb Ea.length Kb]] rfl (by (try simp only [List.map_toArray,List.map_cons,List.map_nil]);first|done|rfl|(simp only [List.length_drop,List.length_take];rfl)) ?_;(with_reducible refine (Bc.calls k _ _ Ma La Na Ka _ _ Ea true _ ?jc ?ic ?Ed ?Dd A2.out).mono ?_);(case jc=>repeat (first|exact (Kd.Ib Ue.out HB.out)|(with_reducible refine Kd.Jb ?_ _)|(with_reducible refine Kd.Gb ?_ _)|(with_reducible refine Kd.dc ?_)));(case ic=>exact af.out);(case Ed=>repeat (first|exact (Kd.Ib Xf.out HB.out)|(with_reducible refine Kd.Jb ?_ _)|(with_reducible refine Kd.Gb ?_ _)|(with_reducible refine Kd.dc ?_)));(case Dd=>exact Zg.out);rintro e w7 ⟨rfl,hb⟩;refine ⟨_,rfl,?_⟩;have Cb:=aa.mk (Xa (g:=za) (o:=.cells #[.slice xb Ma.length qb,.int .i64 La,.int .i64 Na,.int .i64 Ka,.slice Qb Ea.length Kb] 45 (0,0)) (by (with_reducible repeat (first|refine Aa ?_ _|refine Fa ?_|refine Ba ?_ _));exact ta.out) hb);have Lb:=aa.mk (Oa (by repeat (first|(with_reducible first|exact HB.out|apply oa|apply ia|apply qa|refine ua ?_ Ua.out)|exact HB.out)) hb);clear ta HB;have ta:=Cb;have HB:=Lb;clear Cb Lb;(try clear hb);(try clear Gj);(try clear hk);(try clear hi);have Rn:w7.cell? ⟨za,0,none⟩=some (.slice xb Ma.length qb):=(ja ta.out 0).trans rfl;have Qn:w7.cell? ⟨za,1,none⟩=some (.int .i64 La):=(ja ta.out 1).trans rfl;have Pn:w7.cell? ⟨za,2,none⟩=some (.int .i64 Na):=(ja ta.out 2).trans rfl;have Nn:w7.cell? ⟨za,3,none⟩=some (.int .i64 Ka):=(ja ta.out 3).trans rfl;have Mn:w7.cell? ⟨za,4,none⟩=some (.slice Qb Ea.length Kb):=(ja ta.out 4).trans rfl;have Ln:=ga ta.out 0;have Kn:=ga ta.out 1;have Jn:=ga ta.out 2;have Gn:=ga ta.out 3;have En:=ga ta.out 4)|((with_reducible refine Ab (f:=82) rfl ?_);refine Uc (some 15) rfl rfl Try.func82 (by kernel_rfl) rfl #[.agg #[.slice xb Ma.length qb,.int .i64 La,.int .i64 Na,.int .i64 Ka,.slice Qb Ea.length Kb]] rfl (by (try simp only [List.map_toArray,List.map_cons,List.map_nil]);first|done|rfl|(simp only [List.length_drop,List.length_take];rfl)) ?_;(with_reducible refine (oh.calls _ _ Ma La Na Ka _ _ Ea t103 _ ?jc ?ic ?Ed ?Dd A4.out).mono ?_);(case jc=>repeat (first|exact (Kd.Ib Ue.out HB.out)|(with_reducible refine Kd.Jb ?_ _)|(with_reducible refine Kd.Gb ?_ _)|(with_reducible refine Kd.dc ?_)));(case ic=>exact af.out);(case Ed=>repeat (first|exact (Kd.Ib Xf.out HB.out)|(with_reducible refine Kd.Jb ?_ _)|(with_reducible refine Kd.Gb ?_ _)|(with_reducible refine Kd.dc ?_)));(case Dd=>exact Zg.out);rintro e w9 ⟨RD,rfl,Bg,hb⟩;refine ⟨_,rfl,?_⟩;have Cb:=aa.mk (Kd.Lj Bg (Ja (by repeat (first|(with_reducible first|exact HB.out|apply oa|apply ia|apply qa|refine ua ?_ Ua.out)|exact HB.out))));have Lb:=aa.mk (Xa (g:=za) (o:=.cells #[.slice xb Ma.length qb,.int .i64 La,.int .i64 Na,.int .i64 Ka,.slice Qb Ea.length Kb] 45 (0,0)) (by (with_reducible repeat (first|refine Aa ?_ _|refine Fa ?_|refine Ba ?_ _));exact ta.out) hb);have Pb:=aa.mk (Oa (by repeat (first|(with_reducible first|exact HB.out|apply oa|apply ia|apply qa|refine ua ?_ Ua.out)|exact HB.out)) hb);clear ta HB;have SK:=Cb;have ta:=Lb;have HB:=Pb;clear Cb Lb Pb;(try clear hb);(try clear Gj);(try clear hk);(try clear hi);(try clear Bg))|((with_reducible refine Bb (N:=16) rfl ?_);refine Kd.VA (Kd.slice 3 (Kd.int .i64)) _ 22 ?hg (N:=16) ?hd (xs:=([]:List (List Int))) (inner:=[]) (ok:=fun _=>True) (Oh:=fun _=>True) ?hr ?hp (fun _ hk=>hk) trivial (Below.refl _ _) (Nat.le_refl _) (by simp) ?_;(case hd=>rfl);(case hg=>rfl);(case hr=>first|(go_simp;done)|(go_simp;rfl));(case hp=>exact (Td.none _ _));intro v107 Nq xp hb gl Ee;clear gl Ee;(first|rw [← VP.out] at xp|(simp only [Int.reduceToNat] at xp;rw [← VP.out] at xp));have Cb:=aa.mk (Kd.ej (by (with_reducible repeat (first|apply Kd.Yb|apply Kd.Xb|apply Kd.Dc));exact SK.out) (Kd.J9 xp) hb);have Lb:=aa.mk (Kd.Lj (Kd.FU xp (Kd.H9 (by (with_reducible repeat (first|apply Kd.Yb|apply Kd.Xb|apply Kd.Dc));exact SK.out))) (Ja (by repeat (first|(with_reducible first|exact HB.out|apply oa|apply ia|apply qa|refine ua ?_ Ua.out)|exact HB.out))));have Pb:=aa.mk (Xa (g:=za) (o:=.cells #[.slice xb Ma.length qb,.int .i64 La,.int .i64 Na,.int .i64 Ka,.slice Qb Ea.length Kb] 45 (0,0)) (by (with_reducible repeat (first|refine Aa ?_ _|refine Fa ?_|refine Ba ?_ _));exact ta.out) hb);have Ec:=aa.mk (Oa (by repeat (first|(with_reducible first|exact HB.out|apply oa|apply ia|apply qa|refine ua ?_ Ua.out)|exact HB.out)) hb);clear SK ta HB;have SK:=Cb;have Dl:=Lb;have ta:=Pb;have HB:=Ec;clear Cb Lb Pb Ec hb xp;have Ql:Nq.cell? ⟨za,0,none⟩=some (.slice xb Ma.length qb):=(ja ta.out 0).trans rfl;have Ol:Nq.cell? ⟨za,1,none⟩=some (.int .i64 La):=(ja ta.out 1).trans rfl;have Nl:Nq.cell? ⟨za,2,none⟩=some (.int .i64 Na):=(ja ta.out 2).trans rfl;have Ml:Nq.cell? ⟨za,3,none⟩=some (.int .i64 Ka):=(ja ta.out 3).trans rfl;have Ll:Nq.cell? ⟨za,4,none⟩=some (.slice Qb Ea.length Kb):=(ja ta.out 4).trans rfl;have Kl:=ga ta.out 0;have Jl:=ga ta.out 1;have Il:=ga ta.out 2;have Hl:=ga ta.out 3;have Gl:=ga ta.out 4))
  go_loopg [4,20] k (fun kq v4 v20 w'=>∃ (nc:List (List Int)) (Oe:Int),v20 = .int .i64 Oe∧aa (yc.l0 kq t103 nc (Ea.length:Int) Oe Ma La Na Ka Ea=some r)∧aa (kq ≤ k)∧aa (Kd.S (Kd.slice 3 (Kd.int .i64)) 22 w' w.heap.size (fun k_=>some k_ ≠ (v4:Value).ownBlock) RD t103)∧aa (Kd.S (Kd.slice 3 (Kd.int .i64)) 22 w' w.heap.size (fun k_=>some k_ ≠ (RD:Value).ownBlock) v4 nc)∧aa (w'.heap[za]? = some (.cells #[(.slice xb Ma.length qb),.int .i64 La,.int .i64 Na,.int .i64 Ka,(.slice Qb Ea.length Kb)] 45 (0,0)))∧aa (Below w.heap.size w w'))
  case atStart=>exact ⟨(Ze),(0),(by first|rfl|(simp;done)|(simp [*];done)),H',⟨Nat.le_refl _⟩,⟨by (with_reducible repeat (first|apply Kd.Yb|apply Kd.Xb|apply Kd.Dc));exact Kd.Ld SK.out (fun _ hk=>hk.2)⟩,⟨by (with_reducible repeat (first|apply Kd.Yb|apply Kd.Xb|apply Kd.Dc));exact Kd.Ld Dl.out (fun _ hk=>hk.2)⟩,⟨by (with_reducible repeat (first|refine Aa ?_ _|refine Fa ?_|refine Ba ?_ _));exact ta.out⟩,⟨by repeat (first|(with_reducible first|exact HB.out|apply oa|apply ia|apply qa|refine ua ?_ Ua.out)|exact HB.out)⟩⟩
  case round =>
   clear H'
   try clear p2
   try clear c3
   try clear c4
   try clear c7
   try clear c8
   try clear Ql
   try clear Ol
   try clear Nl
   try clear Ml
   try clear Ll
   try clear js
   try clear Zr
   try clear Yr
   try clear Xr
   try clear Wr
   try clear Rn
   try clear Qn
   try clear Pn
   try clear Nn
   try clear Mn
   try clear Kl
   try clear Jl
   try clear Il
   try clear Hl
   try clear Gl
   try clear Vr
   try clear Ur
   try clear Tr
   try clear Sr
   try clear Qr
   try clear Ln
   try clear Kn
   try clear Jn
   try clear Gn
   try clear En
   (try clear HA);(try clear Cf);(try clear Ub);(try clear uc);(try clear ta);(try clear HB);obtain ⟨nc,Oe,rfl,HA,Cf,Ub,uc,ta,HB⟩:=hrel;cases gk with
   | zero=>exact absurd HA.out (by simp [yc.l0])
   | succ k1 =>
    have H:=HA.out;clear HA;simp only [yc.l0] at H
    by_cases ax:Oe < (Ea.length:Int)
    ·rw [if_pos ax] at H;have Ew:decide (Oe < (Ea.length:Int))=true:=decide_eq_true ax;clear ax;obtain ⟨Ax,Jk⟩:∃ y_:List Int,y_=(([]:List Int)):=⟨_,rfl⟩;replace H:(yc.l1 k1 t103 nc Oe Ax (Ea.length:Int) Oe Ea (Ea.length:Int) 0 Ma La Na Ka Ea)=some r:=by first|(rw [Jk];with_reducible exact H)|(have Ud:=(Option.bind_some _ _).symm.trans H;rw [Jk];with_reducible exact Ud)|(have Ud:=(Option.bind_some _ _).symm.trans H;with_reducible exact Ud)|with_reducible exact H|(rw [Jk];exact H)|exact H
     have Ts:=aa.mk Jk;clear Jk;have H':=aa.mk H;clear H;go_wp2_with (first|((with_reducible refine Bb (N:=23) rfl ?_);refine Kd.Bl (Kd.int .i64) _ 3 ?hg (N:=23) ?hd (xs:=([]:List Int)) (inner:=[]) (ok:=fun _=>True) (Oh:=fun _=>True) ?hr ?hp (fun _ hk=>hk) trivial (Below.refl _ _) (Nat.le_refl _) (by simp) ?_;(case hd=>rfl);(case hg=>rfl);(case hr=>first|(go_simp;done)|(go_simp;rfl));(case hp=>exact (Td.none _ _));intro K5 cB Wk hb gl Ee;clear gl Ee;(first|rw [← Ts.out] at Wk|(simp only [Int.reduceToNat] at Wk;rw [← Ts.out] at Wk));have Cb:=aa.mk (Kd.ej (by (with_reducible repeat (first|apply Kd.Yb|apply Kd.Xb|apply Kd.Dc));exact Ub.out) (Kd.cg Wk) hb);have Lb:=aa.mk (Kd.ej (by (with_reducible repeat (first|apply Kd.Yb|apply Kd.Xb|apply Kd.Dc));exact uc.out) (Kd.cg Wk) hb);have Pb:=aa.mk (Kd.xe Wk (Ja (by repeat (first|(with_reducible first|exact HB.out|apply oa|apply ia|apply qa|refine ua ?_ Ua.out)|exact HB.out))));have Ec:=aa.mk (Xa (g:=za) (o:=.cells #[.slice xb Ma.length qb,.int .i64 La,.int .i64 Na,.int .i64 Ka,.slice Qb Ea.length Kb] 45 (0,0)) (by (with_reducible repeat (first|refine Aa ?_ _|refine Fa ?_|refine Ba ?_ _));exact ta.out) hb);have fe:=aa.mk (Oa (by repeat (first|(with_reducible first|exact HB.out|apply oa|apply ia|apply qa|refine ua ?_ Ua.out)|exact HB.out)) hb);clear Ub uc ta HB;have Ub:=Cb;have uc:=Lb;have RK:=Pb;have ta:=Ec;have HB:=fe;clear Cb Lb Pb Ec fe hb Wk;have cw:cB.cell? ⟨za,0,none⟩=some (.slice xb Ma.length qb):=(ja ta.out 0).trans rfl;have bw:cB.cell? ⟨za,1,none⟩=some (.int .i64 La):=(ja ta.out 1).trans rfl;have Zv:cB.cell? ⟨za,2,none⟩=some (.int .i64 Na):=(ja ta.out 2).trans rfl;have Yv:cB.cell? ⟨za,3,none⟩=some (.int .i64 Ka):=(ja ta.out 3).trans rfl;have Xv:cB.cell? ⟨za,4,none⟩=some (.slice Qb Ea.length Kb):=(ja ta.out 4).trans rfl;have Mv:=ga ta.out 0;have Lv:=ga ta.out 1;have Kv:=ga ta.out 2;have Jv:=ga ta.out 3;have Iv:=ga ta.out 4))
     go_loopg [6,27] k1 (fun kq v6 v27 w'=>∃ (bp:List Int) (Gc:Int),v27 = .int .i64 Gc∧aa (yc.l1 kq t103 nc Oe bp (Ea.length:Int) Oe Ea (Ea.length:Int) Gc Ma La Na Ka Ea=some r)∧aa (kq ≤ k1)∧aa (Kd.S (Kd.slice 3 (Kd.int .i64)) 22 w' w.heap.size (fun k_=>some k_ ≠ (u4:Value).ownBlock∧some k_ ≠ (v6:Value).ownBlock) RD t103)∧aa (Kd.S (Kd.slice 3 (Kd.int .i64)) 22 w' w.heap.size (fun k_=>some k_ ≠ (RD:Value).ownBlock∧some k_ ≠ (v6:Value).ownBlock) u4 nc)∧aa (Kd.R (Kd.int .i64) 3 w' w.heap.size (fun _=>True) v6 bp)∧aa (w'.heap[za]? = some (.cells #[(.slice xb Ma.length qb),.int .i64 La,.int .i64 Na,.int .i64 Ka,(.slice Qb Ea.length Kb)] 45 (0,0)))∧aa (Below w.heap.size w w'))
     case atStart=>exact ⟨(Ax),(0),(by first|rfl|(simp;done)|(simp [*];done)),H',⟨Nat.le_refl _⟩,⟨by (with_reducible repeat (first|apply Kd.Yb|apply Kd.Xb|apply Kd.Dc));exact Ub.out⟩,⟨by (with_reducible repeat (first|apply Kd.Yb|apply Kd.Xb|apply Kd.Dc));exact uc.out⟩,⟨by (with_reducible repeat (first|apply Kd.Va|apply Kd.Wa|apply Kd.jb));exact RK.out⟩,⟨by (with_reducible repeat (first|refine Aa ?_ _|refine Fa ?_|refine Ba ?_ _));exact ta.out⟩,⟨by repeat (first|(with_reducible first|exact HB.out|apply oa|apply ia|apply qa|refine ua ?_ Ua.out)|exact HB.out)⟩⟩
     case round =>
      clear H'
      try clear c1
      try clear p2
      try clear c3
      try clear c4
      try clear c7
      try clear c8
      try clear ax
      try clear Ew
      try clear Ql
      try clear Ol
      try clear Nl
      try clear Ml
      try clear Ll
      try clear cw
      try clear bw
      try clear Zv
      try clear Yv
      try clear Xv
      try clear js
      try clear Zr
      try clear Yr
      try clear Xr
      try clear Wr
      try clear Rn
      try clear Qn
      try clear Pn
      try clear Nn
      try clear Mn
      try clear Kl
      try clear Jl
      try clear Il
      try clear Hl
      try clear Gl
      try clear Mv
      try clear Lv
      try clear Kv
      try clear Jv
      try clear Iv
      try clear Vr
      try clear Ur
      try clear Tr
      try clear Sr
      try clear Qr
      try clear Ln
      try clear Kn
      try clear Jn
      try clear Gn
      try clear En
      try clear p2
      (try clear HA);(try clear Qk);(try clear Ub);(try clear uc);(try clear Ge);(try clear ta);(try clear HB);obtain ⟨bp,Gc,rfl,HA,Qk,Ub,uc,Ge,ta,HB⟩:=hrel;cases gk with
      | zero=>exact absurd HA.out (by simp [yc.l1])
      | succ k2 =>
       have H:=HA.out;clear HA;simp only [yc.l1] at H
       by_cases qw:Gc < (Ea.length:Int)
       ·rw [if_pos qw] at H;have Ls:decide (Gc < (Ea.length:Int))=true:=decide_eq_true qw;clear qw
        by_cases Gs:0 ≤ Gc
        ·rw [if_pos Gs] at H;have vn:decide (0 ≤ Gc)=true:=decide_eq_true Gs;clear Gs
         by_cases gw:Gc < (Ea.length:Int)
         ·rw [if_pos gw] at H;have QA:decide (Gc < (Ea.length:Int))=true:=decide_eq_true gw;clear gw;replace H:=Option.bind_eq_some_iff.mp H;obtain ⟨t120,jV,H⟩:=H;replace H:(yc.l2 k2 t103 nc Oe bp Gc (Ea.length:Int) Oe Ea (Ea.length:Int) Gc t120 (t120.length:Int) 0 Ma La Na Ka Ea)=some r:=H;have nE:=aa.mk jV;clear jV;have H':=aa.mk H;clear H;have XV:0 ≤ (Gc:Int):=Pa;have SV:Gc < (Ea.length:Int):=Pa;obtain ⟨wD,Wn,Tn,kas,AF,zF,yF,xF,wF,DN,MN⟩:=Nk Xf.out Gc XV SV;cases kas
          try replace AF:=Sa HB.out AF
          try replace zF:=Sa HB.out zF
          try replace yF:=Sa HB.out yF
          try replace xF:=Sa HB.out xF
          try replace wF:=Sa HB.out wF
          have BZ:=aa.mk MN;have JZ:=aa.mk DN;clear MN DN;replace XV:=eq_true XV;replace SV:=eq_true SV;go_wp2_with (first|((with_reducible refine Bb (N:=8) rfl ?_);refine Ob ?hg (N:=8) ?hd (cs:=#[.slice none 0 0,.int .i64 0,.int .i64 0,.int .i64 0,.int .i64 0]) (t:=83) ?hr ?_;(case hd=>rfl);(case hg=>rfl);(case hr=>first|(go_simp;done)|(go_simp;rfl));intro Jh hg xq oc hb;have Cb:=aa.mk (Kd.Wd (by (with_reducible repeat (first|apply Kd.Yb|apply Kd.Xb|apply Kd.Dc));exact Ub.out) hb);have Lb:=aa.mk (Kd.Wd (by (with_reducible repeat (first|apply Kd.Yb|apply Kd.Xb|apply Kd.Dc));exact uc.out) hb);have Pb:=aa.mk (Kd.lg (by (with_reducible repeat (first|apply Kd.Va|apply Kd.Wa|apply Kd.jb));exact Ge.out) hb);have Ec:=aa.mk (Xa (g:=za) (o:=.cells #[.slice xb Ma.length qb,.int .i64 La,.int .i64 Na,.int .i64 Ka,.slice (some wD) Ea.length Kb] 45 (0,0)) (by (with_reducible repeat (first|refine Aa ?_ _|refine Fa ?_|refine Ba ?_ _));exact ta.out) hb);have fe:=aa.mk (Oa (by repeat (first|(with_reducible first|exact HB.out|apply oa|apply ia|apply qa|refine ua ?_ Ua.out)|exact HB.out)) hb);have Af:=aa.mk (oc);have Ah:=aa.mk ((by rw [hg];exact (Ja (by repeat (first|(with_reducible first|exact HB.out|apply oa|apply ia|apply qa|refine ua ?_ Ua.out)|exact HB.out))):w.heap.size ≤ Jh));have iJ:=aa.mk ((by rw [hg];exact (Ja (by repeat (first|(with_reducible first|exact HB.out|apply oa|apply ia|apply qa|refine ua ?_ Ua.out)|exact HB.out))):w.heap.size ≤ Jh));have kN:=aa.mk ((by rw [hg];exact Nat.ne_of_lt (qd (g:=za) (o:=.cells #[.slice xb Ma.length qb,.int .i64 La,.int .i64 Na,.int .i64 Ka,.slice (some wD) Ea.length Kb] 45 (0,0)) (by (with_reducible repeat (first|refine Aa ?_ _|refine Fa ?_|refine Ba ?_ _));exact ta.out)):za ≠ Jh));have zS:=aa.mk ((by rw [hg];exact Nat.ne_of_gt (qd (g:=za) (o:=.cells #[.slice xb Ma.length qb,.int .i64 La,.int .i64 Na,.int .i64 Ka,.slice (some wD) Ea.length Kb] 45 (0,0)) (by (with_reducible repeat (first|refine Aa ?_ _|refine Fa ?_|refine Ba ?_ _));exact ta.out)):Jh ≠ za));clear Ub uc Ge ta HB;have Ub:=Cb;have uc:=Lb;have Ge:=Pb;have ta:=Ec;have HB:=fe;have Zh:=Af;have Yax:=Ah;have Xs:=iJ;have vq:=kN;have uR:=zS;clear Cb Lb Pb Ec fe Af Ah iJ kN zS hb oc hg;have O0:=uR.out;have K0:=vq.out;have Eo:xq.cell? ⟨Jh,0,none⟩=some (.slice none 0 0):=(ja Zh.out 0).trans rfl;have Co:xq.cell? ⟨Jh,1,none⟩=some (.int .i64 0):=(ja Zh.out 1).trans rfl;have Bo:xq.cell? ⟨Jh,2,none⟩=some (.int .i64 0):=(ja Zh.out 2).trans rfl;have zo:xq.cell? ⟨Jh,3,none⟩=some (.int .i64 0):=(ja Zh.out 3).trans rfl;have yo:xq.cell? ⟨Jh,4,none⟩=some (.int .i64 0):=(ja Zh.out 4).trans rfl;have xo:=ga Zh.out 0;have vo:=ga Zh.out 1;have uo:=ga Zh.out 2;have qo:=ga Zh.out 3;have oo:=ga Zh.out 4)|((with_reducible refine Ab (f:=75) rfl ?_);refine Uc (some 33) rfl rfl Try.func75 (by kernel_rfl) rfl #[.agg #[.slice Wn ((Ta Ea Gc).f0).length Tn,.int .i64 ((Ta Ea Gc).f1),.int .i64 ((Ta Ea Gc).f2),.int .i64 ((Ta Ea Gc).f3),.int .i64 ((Ta Ea Gc).f4)]] rfl (by (try simp only [List.map_toArray,List.map_cons,List.map_nil]);first|done|rfl|(simp only [List.length_drop,List.length_take];rfl)) ?_;(with_reducible refine (bg.calls _ _ ((Ta Ea Gc).f0) ((Ta Ea Gc).f1) ((Ta Ea Gc).f2) ((Ta Ea Gc).f3) ((Ta Ea Gc).f4) t120 _ ?jc ?ic nE.out).mono ?_);(case jc=>exact Kd.Ib BZ.out (by repeat (first|(with_reducible first|exact HB.out|apply oa|apply ia|apply qa|refine ua ?_ Ua.out|refine ua ?_ Xs.out)|exact HB.out)));(case ic=>exact JZ.out);rintro e RR ⟨oap,rfl,Bg,hb⟩;refine ⟨_,rfl,?_⟩;have Cb:=aa.mk (Kd.ej (by (with_reducible repeat (first|apply Kd.Yb|apply Kd.Xb|apply Kd.Dc));exact (Kd.Ld (Kd.Np (p:=⟨Jh,4,none⟩) (Kd.Np (p:=⟨Jh,3,none⟩) (Kd.Np (p:=⟨Jh,2,none⟩) (Kd.Np (p:=⟨Jh,1,none⟩) (Kd.Np (p:=⟨Jh,0,none⟩) (Kd.nC Ub.out Zh.out (by decide)) (fun _ hk=>hk.2) (.slice Wn ((Ta Ea Gc).f0).length Tn)) (fun _ hk=>hk.2) (.int .i64 ((Ta Ea Gc).f1))) (fun _ hk=>hk.2) (.int .i64 ((Ta Ea Gc).f2))) (fun _ hk=>hk.2) (.int .i64 ((Ta Ea Gc).f3))) (fun _ hk=>hk.2) (.int .i64 ((Ta Ea Gc).f4))) (fun _ h_=>h_.1))) (Kd.cg Bg) hb);have Lb:=aa.mk (Kd.ej (by (with_reducible repeat (first|apply Kd.Yb|apply Kd.Xb|apply Kd.Dc));exact (Kd.Ld (Kd.Np (p:=⟨Jh,4,none⟩) (Kd.Np (p:=⟨Jh,3,none⟩) (Kd.Np (p:=⟨Jh,2,none⟩) (Kd.Np (p:=⟨Jh,1,none⟩) (Kd.Np (p:=⟨Jh,0,none⟩) (Kd.nC uc.out Zh.out (by decide)) (fun _ hk=>hk.2) (.slice Wn ((Ta Ea Gc).f0).length Tn)) (fun _ hk=>hk.2) (.int .i64 ((Ta Ea Gc).f1))) (fun _ hk=>hk.2) (.int .i64 ((Ta Ea Gc).f2))) (fun _ hk=>hk.2) (.int .i64 ((Ta Ea Gc).f3))) (fun _ hk=>hk.2) (.int .i64 ((Ta Ea Gc).f4))) (fun _ h_=>h_.1))) (Kd.cg Bg) hb);have Pb:=aa.mk (Kd.Mh (by (with_reducible repeat (first|apply Kd.Va|apply Kd.Wa|apply Kd.jb));exact (Kd.mc (Kd.ji (p:=⟨Jh,4,none⟩) (Kd.ji (p:=⟨Jh,3,none⟩) (Kd.ji (p:=⟨Jh,2,none⟩) (Kd.ji (p:=⟨Jh,1,none⟩) (Kd.ji (p:=⟨Jh,0,none⟩) (Kd.rq Ge.out Zh.out (by decide)) (fun _ hk=>hk.2) (.slice Wn ((Ta Ea Gc).f0).length Tn)) (fun _ hk=>hk.2) (.int .i64 ((Ta Ea Gc).f1))) (fun _ hk=>hk.2) (.int .i64 ((Ta Ea Gc).f2))) (fun _ hk=>hk.2) (.int .i64 ((Ta Ea Gc).f3))) (fun _ hk=>hk.2) (.int .i64 ((Ta Ea Gc).f4))) (fun _ h_=>h_.1))) (Kd.cg Bg) hb);have Ec:=aa.mk (Kd.xe (Kd.Yj Bg (Kd.Pk (by (with_reducible repeat (first|apply Kd.Va|apply Kd.Wa|apply Kd.jb));exact (Kd.mc (Kd.ji (p:=⟨Jh,4,none⟩) (Kd.ji (p:=⟨Jh,3,none⟩) (Kd.ji (p:=⟨Jh,2,none⟩) (Kd.ji (p:=⟨Jh,1,none⟩) (Kd.ji (p:=⟨Jh,0,none⟩) (Kd.rq Ge.out Zh.out (by decide)) (fun _ hk=>hk.2) (.slice Wn ((Ta Ea Gc).f0).length Tn)) (fun _ hk=>hk.2) (.int .i64 ((Ta Ea Gc).f1))) (fun _ hk=>hk.2) (.int .i64 ((Ta Ea Gc).f2))) (fun _ hk=>hk.2) (.int .i64 ((Ta Ea Gc).f3))) (fun _ hk=>hk.2) (.int .i64 ((Ta Ea Gc).f4))) (fun _ h_=>h_.1))))) (Ja (by repeat (first|(with_reducible first|exact HB.out|apply oa|apply ia|apply qa|refine ua ?_ Ua.out|refine ua ?_ Xs.out)|exact HB.out))));have fe:=aa.mk (Xa (g:=za) (o:=.cells #[.slice xb Ma.length qb,.int .i64 La,.int .i64 Na,.int .i64 Ka,.slice (some wD) Ea.length Kb] 45 (0,0)) (by (with_reducible repeat (first|refine Aa ?_ _|refine Fa ?_|refine Ba ?_ _));refine Qe ?_ vq.out _;(with_reducible repeat (first|refine Aa ?_ _|refine Fa ?_|refine Ba ?_ _));refine Qe ?_ vq.out _;(with_reducible repeat (first|refine Aa ?_ _|refine Fa ?_|refine Ba ?_ _));refine Qe ?_ vq.out _;(with_reducible repeat (first|refine Aa ?_ _|refine Fa ?_|refine Ba ?_ _));refine Qe ?_ vq.out _;(with_reducible repeat (first|refine Aa ?_ _|refine Fa ?_|refine Ba ?_ _));refine Qe ?_ vq.out _;(with_reducible repeat (first|refine Aa ?_ _|refine Fa ?_|refine Ba ?_ _));exact ta.out) hb);have Af:=aa.mk (Xa (g:=Jh) (o:=.cells #[.slice Wn ((Ta Ea Gc).f0).length Tn,.int .i64 ((Ta Ea Gc).f1),.int .i64 ((Ta Ea Gc).f2),.int .i64 ((Ta Ea Gc).f3),.int .i64 ((Ta Ea Gc).f4)] 83 (0,0)) (by (with_reducible repeat (first|refine Aa ?_ _|refine Fa ?_|refine Ba ?_ _));refine bf (cs:=#[.slice Wn ((Ta Ea Gc).f0).length Tn,.int .i64 ((Ta Ea Gc).f1),.int .i64 ((Ta Ea Gc).f2),.int .i64 ((Ta Ea Gc).f3),.int .i64 0]) ?_ 4 _ rfl;(with_reducible repeat (first|refine Aa ?_ _|refine Fa ?_|refine Ba ?_ _));refine bf (cs:=#[.slice Wn ((Ta Ea Gc).f0).length Tn,.int .i64 ((Ta Ea Gc).f1),.int .i64 ((Ta Ea Gc).f2),.int .i64 0,.int .i64 0]) ?_ 3 _ rfl;(with_reducible repeat (first|refine Aa ?_ _|refine Fa ?_|refine Ba ?_ _));refine bf (cs:=#[.slice Wn ((Ta Ea Gc).f0).length Tn,.int .i64 ((Ta Ea Gc).f1),.int .i64 0,.int .i64 0,.int .i64 0]) ?_ 2 _ rfl;(with_reducible repeat (first|refine Aa ?_ _|refine Fa ?_|refine Ba ?_ _));refine bf (cs:=#[.slice Wn ((Ta Ea Gc).f0).length Tn,.int .i64 0,.int .i64 0,.int .i64 0,.int .i64 0]) ?_ 1 _ rfl;(with_reducible repeat (first|refine Aa ?_ _|refine Fa ?_|refine Ba ?_ _));refine bf (cs:=#[.slice none 0 0,.int .i64 0,.int .i64 0,.int .i64 0,.int .i64 0]) ?_ 0 _ rfl;(with_reducible repeat (first|refine Aa ?_ _|refine Fa ?_|refine Ba ?_ _));exact Zh.out) hb);have Ah:=aa.mk (Oa (by repeat (first|(with_reducible first|exact HB.out|apply oa|apply ia|apply qa|refine ua ?_ Ua.out|refine ua ?_ Xs.out)|exact HB.out)) hb);clear Ub uc Ge ta Zh HB;have Ub:=Cb;have uc:=Lb;have Ge:=Pb;have fQ:=Ec;have ta:=fe;have Zh:=Af;have HB:=Ah;clear Cb Lb Pb Ec fe Af Ah;(try clear hb);(try clear Gj);(try clear hk);(try clear hi);(try clear Bg);obtain ⟨PZ,jA,eas⟩:=Kd.xd fQ.out;subst eas))
          go_loopg [6,35] k2 (fun kq v6 v35 w'=>∃ (Dg:List Int) (Vd:Int),v35 = .int .i64 Vd∧aa (yc.l2 kq t103 nc Oe Dg Gc (Ea.length:Int) Oe Ea (Ea.length:Int) Gc t120 (t120.length:Int) Vd Ma La Na Ka Ea=some r)∧aa (kq ≤ k2)∧aa (Kd.S (Kd.slice 3 (Kd.int .i64)) 22 w' w.heap.size (fun k_=>some k_ ≠ (u4:Value).ownBlock∧some k_ ≠ (v6:Value).ownBlock∧some k_ ≠ ((.slice PZ t120.length jA):Value).ownBlock) RD t103)∧aa (Kd.S (Kd.slice 3 (Kd.int .i64)) 22 w' w.heap.size (fun k_=>some k_ ≠ (RD:Value).ownBlock∧some k_ ≠ (v6:Value).ownBlock∧some k_ ≠ ((.slice PZ t120.length jA):Value).ownBlock) u4 nc)∧aa (Kd.R (Kd.int .i64) 3 w' w.heap.size (fun k_=>some k_ ≠ ((.slice PZ t120.length jA):Value).ownBlock) v6 Dg)∧aa (Kd.R (Kd.int .i64) 3 w' w.heap.size (fun k_=>some k_ ≠ (v6:Value).ownBlock) (.slice PZ t120.length jA) t120)∧aa (w'.heap[za]? = some (.cells #[(.slice xb Ma.length qb),.int .i64 La,.int .i64 Na,.int .i64 Ka,(.slice (some wD) Ea.length Kb)] 45 (0,0)))∧aa (w'.heap[Jh]? = some (.cells #[(.slice Wn ((Ta Ea Gc).f0).length Tn),.int .i64 ((Ta Ea Gc).f1),.int .i64 ((Ta Ea Gc).f2),.int .i64 ((Ta Ea Gc).f3),.int .i64 ((Ta Ea Gc).f4)] 83 (0,0)))∧aa (Below w.heap.size w w'))
          case atStart=>exact ⟨(bp),(0),(by first|rfl|(simp;done)|(simp [*];done)),H',⟨Nat.le_refl _⟩,⟨by (with_reducible repeat (first|apply Kd.Yb|apply Kd.Xb|apply Kd.Dc));exact Kd.Ld Ub.out (fun _ hk=>⟨hk.1.1,⟨hk.1.2,hk.2⟩⟩)⟩,⟨by (with_reducible repeat (first|apply Kd.Yb|apply Kd.Xb|apply Kd.Dc));exact Kd.Ld uc.out (fun _ hk=>⟨hk.1.1,⟨hk.1.2,hk.2⟩⟩)⟩,⟨by (with_reducible repeat (first|apply Kd.Va|apply Kd.Wa|apply Kd.jb));exact Kd.mc Ge.out (fun _ hk=>hk.2)⟩,⟨by (with_reducible repeat (first|apply Kd.Va|apply Kd.Wa|apply Kd.jb));exact Kd.mc fQ.out (fun _ hk=>hk.2)⟩,⟨by (with_reducible repeat (first|refine Aa ?_ _|refine Fa ?_|refine Ba ?_ _));exact ta.out⟩,⟨by (with_reducible repeat (first|refine Aa ?_ _|refine Fa ?_|refine Ba ?_ _));exact Zh.out⟩,⟨by repeat (first|(with_reducible first|exact HB.out|apply oa|apply ia|apply qa|refine ua ?_ Ua.out|refine ua ?_ Xs.out)|exact HB.out)⟩⟩
          case round =>
           clear H'
           try clear c1
           try clear p1
           try clear q1
           try clear hx1
           try clear c2
           try clear p2
           try clear c3
           try clear c4
           try clear c7
           try clear c8
           try clear oR
           try clear p11
           try clear tQ
           try clear L6
           try clear ax
           try clear Ew
           try clear qw
           try clear Ls
           try clear Gs
           try clear vn
           try clear gw
           try clear QA
           try clear eE
           try clear Ql
           try clear Ol
           try clear Nl
           try clear Ml
           try clear Ll
           try clear cw
           try clear bw
           try clear Zv
           try clear Yv
           try clear Xv
           try clear Eo
           try clear Co
           try clear Bo
           try clear zo
           try clear yo
           try clear js
           try clear Zr
           try clear Yr
           try clear Xr
           try clear Wr
           try clear Rn
           try clear Qn
           try clear Pn
           try clear Nn
           try clear Mn
           try clear Kl
           try clear Jl
           try clear Il
           try clear Hl
           try clear Gl
           try clear Mv
           try clear Lv
           try clear Kv
           try clear Jv
           try clear Iv
           try clear xo
           try clear vo
           try clear uo
           try clear qo
           try clear oo
           try clear Vr
           try clear Ur
           try clear Tr
           try clear Sr
           try clear Qr
           try clear Ln
           try clear Kn
           try clear Jn
           try clear Gn
           try clear En
           try clear AF
           try clear zF
           try clear yF
           try clear xF
           try clear wF
           try clear XV
           try clear p2
           try clear SV
           (try clear HA);(try clear yx);(try clear Ub);(try clear uc);(try clear Ge);(try clear Zo);(try clear ta);(try clear Zh);(try clear HB);obtain ⟨Dg,Vd,rfl,HA,yx,Ub,uc,Ge,Zo,ta,Zh,HB⟩:=hrel;cases gk with
           | zero=>exact absurd HA.out (by simp [yc.l2])
           | succ k3 =>
            have H:=HA.out;clear HA;simp only [yc.l2] at H
            by_cases MI:Vd < (t120.length:Int)
            ·rw [if_pos MI] at H;have vU:decide (Vd < (t120.length:Int))=true:=decide_eq_true MI;clear MI
             by_cases rD:0 ≤ Vd
             ·rw [if_pos rD] at H;have daf:decide (0 ≤ Vd)=true:=decide_eq_true rD;clear rD
              by_cases Zt:Vd < (t120.length:Int)
              ·rw [if_pos Zt] at H;have nr:decide (Vd < (t120.length:Int))=true:=decide_eq_true Zt;clear Zt
               by_cases ew:0 ≤ Gc
               ·rw [if_pos ew] at H;have Vu:decide (0 ≤ Gc)=true:=decide_eq_true ew;clear ew
                by_cases yu:Gc < (t103.length:Int)
                ·rw [if_pos yu] at H;have OA:decide (Gc < (t103.length:Int))=true:=decide_eq_true yu;clear yu;replace H:=Option.bind_eq_some_iff.mp H;obtain ⟨t125,fah,H⟩:=H;replace H:(if t125=true then (if (rd t120 Vd)=Oe then (if Dg.length < 17592186044416 then (yc.l2 k3 t103 nc Oe (Dg ++ [rd t120 Vd]) Gc (Ea.length:Int) Oe Ea (Ea.length:Int) Gc t120 (t120.length:Int) (wrap64 (Vd + 1)) Ma La Na Ka Ea) else (none)) else (if 0 ≤ (rd t120 Vd) then (if (rd t120 Vd) < (t103.length:Int) then ((tc.f k3 (Je t103 (rd t120 Vd)) Oe).bind fun t130=>(if t130=true then (yc.l2 k3 t103 nc Oe Dg Gc (Ea.length:Int) Oe Ea (Ea.length:Int) Gc t120 (t120.length:Int) (wrap64 (Vd + 1)) Ma La Na Ka Ea) else (if Dg.length < 17592186044416 then (yc.l2 k3 t103 nc Oe (Dg ++ [rd t120 Vd]) Gc (Ea.length:Int) Oe Ea (Ea.length:Int) Gc t120 (t120.length:Int) (wrap64 (Vd + 1)) Ma La Na Ka Ea) else (none)))) else (none)) else (none))) else (yc.l2 k3 t103 nc Oe Dg Gc (Ea.length:Int) Oe Ea (Ea.length:Int) Gc t120 (t120.length:Int) (wrap64 (Vd + 1)) Ma La Na Ka Ea))=some r:=H;have A31:=aa.mk fah;clear fah
                 by_cases LI:t125=true
                 ·subst LI;have H1:(if (rd t120 Vd)=Oe then (if Dg.length < 17592186044416 then (yc.l2 k3 t103 nc Oe (Dg ++ [rd t120 Vd]) Gc (Ea.length:Int) Oe Ea (Ea.length:Int) Gc t120 (t120.length:Int) (wrap64 (Vd + 1)) Ma La Na Ka Ea) else (none)) else (if 0 ≤ (rd t120 Vd) then (if (rd t120 Vd) < (t103.length:Int) then ((tc.f k3 (Je t103 (rd t120 Vd)) Oe).bind fun t130=>(if t130=true then (yc.l2 k3 t103 nc Oe Dg Gc (Ea.length:Int) Oe Ea (Ea.length:Int) Gc t120 (t120.length:Int) (wrap64 (Vd + 1)) Ma La Na Ka Ea) else (if Dg.length < 17592186044416 then (yc.l2 k3 t103 nc Oe (Dg ++ [rd t120 Vd]) Gc (Ea.length:Int) Oe Ea (Ea.length:Int) Gc t120 (t120.length:Int) (wrap64 (Vd + 1)) Ma La Na Ka Ea) else (none)))) else (none)) else (none)))=some r:=by rw [if_pos rfl] at H;exact H
                  clear H;have H:=H1;clear H1
                  by_cases xx:(rd t120 Vd)=Oe
                  ·rw [if_pos xx] at H;have tU:((rd t120 Vd) == Oe)=true:=beq_iff_eq.mpr xx;have sU:((rd t120 Vd) != Oe)=false:=bne_eq_false_iff_eq.mpr xx;clear xx
                   by_cases ux:Dg.length < 17592186044416
                   ·rw [if_pos ux] at H;have TU:=aa.mk ux;clear ux;obtain ⟨NI,Mo⟩:∃ y_:List Int,y_=(Dg ++ [rd t120 Vd]):=⟨_,rfl⟩;replace H:(yc.l2 k3 t103 nc Oe NI Gc (Ea.length:Int) Oe Ea (Ea.length:Int) Gc t120 (t120.length:Int) (wrap64 (Vd + 1)) Ma La Na Ka Ea)=some r:=by first|(rw [Mo];with_reducible exact H)|(have Ud:=(Option.bind_some _ _).symm.trans H;rw [Mo];with_reducible exact Ud)|(have Ud:=(Option.bind_some _ _).symm.trans H;with_reducible exact Ud)|with_reducible exact H|(rw [Mo];exact H)|exact H
                    have KK:=aa.mk Mo;clear Mo;have H':=aa.mk H;clear H;have ql:0 ≤ (Vd:Int):=Pa;have jl:Vd < (t120.length:Int):=Pa;obtain ⟨Vo,Xw,nk⟩:=Kd.Ce (Kd.Rb Zo.out).2.2 Vd ql jl;cases Xw;replace ql:=eq_true ql;replace jl:=eq_true jl;obtain ⟨jat,dI,k8⟩:=Kd.Kj Ub.out;subst k8;have Dn:0 ≤ (Gc:Int):=Pa;have Cn:Gc < (t103.length:Int):=Pa;obtain ⟨tr,qx,bx,iD,Sp,Om,Rm⟩:=Jp (Kd.Xc Ub.out).2.2 Gc Dn Cn;cases iD;obtain ⟨nU,Ow,Qw,Fq⟩:=Kd.Qs Ub.out [] Gc Dn (by first|exact Cn|exact Pa|(have e_:=(Kd.Xc Ub.out).1;omega));obtain ⟨ZE,rfl,Hj⟩:=Qw;have Ug:=Fq 0 _ rfl;rw [Nat.add_zero,show ((Kd.slice 3 (Kd.int .i64))).sz=1 from rfl,Nat.mul_one] at Ug;replace Ug:=Option.some.inj (Ug.symm.trans Sp);rw [Ug] at Hj;have sq:=aa.mk (show Kd.R (Kd.int .i64) 3 _ _ _ _ (Je t103 Gc) from Hj);clear Ug Hj Fq Ow;have Ym:=aa.mk Rm;have gu:=aa.mk Om;clear Rm Om;replace Dn:=eq_true Dn;replace Cn:=eq_true Cn;go_wp2_with (first|((with_reducible refine Ab (f:=83) rfl ?_);refine Uc (some 44) rfl rfl Try.func83 (by kernel_rfl) rfl #[.slice qx (Je t103 Gc).length bx,.int .i64 Oe] rfl (by (try simp only [List.map_toArray,List.map_cons,List.map_nil]);first|done|rfl|(simp only [List.length_drop,List.length_take];rfl)) ?_;(with_reducible refine (tc.calls k3 _ _ (Je t103 Gc) Oe true _ ?jc ?ic A31.out).mono ?_);(case jc=>repeat (first|exact (by repeat (first|(with_reducible exact Ym.out)|(with_reducible refine Kd.Jb ?_ _)|(with_reducible refine Kd.Gb ?_ _)|(with_reducible refine Kd.dc ?_)|exact Ym.out))|(with_reducible refine Kd.Jb ?_ _)|(with_reducible refine Kd.Gb ?_ _)|(with_reducible refine Kd.dc ?_)));(case ic=>exact gu.out);rintro e w' ⟨rfl,⟨nd,rfl⟩⟩;refine ⟨_,rfl,?_⟩)|((with_reducible refine Eg (b:=.append) (xs:=#[.tmp 59,.tmp 61]) rfl ?_);at_builtin;refine Kd.Ss (Kd.int .i64) (w0:=w) w.heap.size rfl (.tmp 59) (.tmp 61) 22 3 (.int .i64 0) 8 rfl Try.underlying22 info3 rfl (by decide) (by omega) u6 Dg (rd t120 Vd) [.int .i64 (rd t120 Vd)] (fun k_=>some k_ ≠ (.slice (some Vo) t120.length jA:Value).ownBlock) (fun _=>False) rfl rfl ?aP (fun _ hk=>hk.elim) ?aF ?aO ?aB ?aS ?aL ?_;(case aP=>exact rfl);(case aB=>exact (by repeat (first|(with_reducible first|exact HB.out|apply oa|apply ia|apply qa|refine ua ?_ Ua.out|refine ua ?_ Xs.out)|exact HB.out)));(case aF=>exact (fun k_ hk=>Kd.fresh' (Kd.Pk (by (with_reducible repeat (first|apply Kd.Va|apply Kd.Wa|apply Kd.jb));exact Zo.out)) k_ hk));(case aO=>exact (by (with_reducible repeat (first|apply Kd.Va|apply Kd.Wa|apply Kd.jb));exact Ge.out));(case aS=>exact (Ja (by repeat (first|(with_reducible first|exact HB.out|apply oa|apply ia|apply qa|refine ua ?_ Ua.out|refine ua ?_ Xs.out)|exact HB.out))));(case aL=>have:=TU.out;omega);intro v127 pE ho hb hg hat;rw [← KK.out] at ho;have Cb:=aa.mk (Kd.vr (ok:=(fun k_=>some k_ ≠ (u4:Value).ownBlock∧some k_ ≠ (.slice (some Vo) t120.length jA:Value).ownBlock)) (by (with_reducible repeat (first|apply Kd.Yb|apply Kd.Xb|apply Kd.Dc));exact Kd.Ld Ub.out (fun _ hk=>⟨⟨hk.1,hk.2.2⟩,hk.2.1⟩)) hg hat);have Lb:=aa.mk (Kd.vr (ok:=(fun k_=>some k_ ≠ (.slice (some tr) t103.length dI:Value).ownBlock∧some k_ ≠ (.slice (some Vo) t120.length jA:Value).ownBlock)) (by (with_reducible repeat (first|apply Kd.Yb|apply Kd.Xb|apply Kd.Dc));exact Kd.Ld uc.out (fun _ hk=>⟨⟨hk.1,hk.2.2⟩,hk.2.1⟩)) hg hat);have Pb:=aa.mk (Kd.Yg (ok:=(fun _=>True)) (by (with_reducible repeat (first|apply Kd.Va|apply Kd.Wa|apply Kd.jb));exact Kd.mc Zo.out (fun _ hk=>⟨trivial,hk⟩)) hg hat);have Ec:=aa.mk (Ff (g:=za) (o:=.cells #[.slice xb Ma.length qb,.int .i64 La,.int .i64 Na,.int .i64 Ka,.slice (some wD) Ea.length Kb] 45 (0,0)) (by (with_reducible repeat (first|refine Aa ?_ _|refine Fa ?_|refine Ba ?_ _));exact ta.out) hg (Kd.Xo Ge.out ta.out (by decide)));have fe:=aa.mk (Ff (g:=Jh) (o:=.cells #[.slice Wn ((Ta Ea Gc).f0).length Tn,.int .i64 ((Ta Ea Gc).f1),.int .i64 ((Ta Ea Gc).f2),.int .i64 ((Ta Ea Gc).f3),.int .i64 ((Ta Ea Gc).f4)] 83 (0,0)) (by (with_reducible repeat (first|refine Aa ?_ _|refine Fa ?_|refine Ba ?_ _));exact Zh.out) hg (Kd.Xo Ge.out Zh.out (by decide)));have Af:=aa.mk (Kd.Yg (ok:=(fun k_=>some k_ ≠ (.slice (some tr) t103.length dI:Value).ownBlock∧some k_ ≠ (u4:Value).ownBlock∧some k_ ≠ (.slice (some Vo) t120.length jA:Value).ownBlock)) (by (with_reducible repeat (first|apply Kd.Va|apply Kd.Wa|apply Kd.jb));exact Kd.mc sq.out (fun _ hk=>⟨⟨hk.2,⟨hk.1.1,hk.1.2.2⟩⟩,hk.1.2.1⟩)) hg hat);have Ah:=aa.mk (hb);have iJ:=aa.mk (ho);clear Ub uc Zo ta Zh sq HB Ge;have Ub:=Cb;have uc:=Lb;have Zo:=Pb;have ta:=Ec;have Zh:=fe;have sq:=Af;have HB:=Ah;have Oz:=iJ;clear Cb Lb Pb Ec fe Af Ah iJ ho hb hg hat))
                    go_roundg k3
                    case measure=>have:=Cf.out;have:=Qk.out;have:=yx.out;omega
                    case rel=>exact ⟨(NI),(wrap64 (Vd + 1)),(by first|rfl|(simp;done)|(simp [*];done)),H',⟨by have:=Cf.out;have:=Qk.out;have:=yx.out;omega⟩,⟨by (with_reducible repeat (first|apply Kd.Yb|apply Kd.Xb|apply Kd.Dc));exact Kd.Ld Ub.out (fun _ hk=>⟨hk.1.1,⟨hk.2,hk.1.2⟩⟩)⟩,⟨by (with_reducible repeat (first|apply Kd.Yb|apply Kd.Xb|apply Kd.Dc));exact Kd.Ld uc.out (fun _ hk=>⟨hk.1.1,⟨hk.2,hk.1.2⟩⟩)⟩,⟨by (with_reducible repeat (first|apply Kd.Va|apply Kd.Wa|apply Kd.jb));exact Oz.out⟩,⟨by (with_reducible repeat (first|apply Kd.Va|apply Kd.Wa|apply Kd.jb));exact Kd.mc Zo.out (fun _ hk=>hk.2)⟩,⟨by (with_reducible repeat (first|refine Aa ?_ _|refine Fa ?_|refine Ba ?_ _));exact ta.out⟩,⟨by (with_reducible repeat (first|refine Aa ?_ _|refine Fa ?_|refine Ba ?_ _));exact Zh.out⟩,⟨by repeat (first|(with_reducible first|exact HB.out|apply oa|apply ia|apply qa|refine ua ?_ Ua.out|refine ua ?_ Xs.out)|exact HB.out)⟩⟩
                   ·rw [if_neg ux] at H;exact absurd H (by simp)
                  ·rw [if_neg xx] at H;have tU:((rd t120 Vd) == Oe)=false:=beq_eq_false_iff_ne.mpr xx;have sU:((rd t120 Vd) != Oe)=true:=bne_iff_ne.mpr xx
                   by_cases GR:0 ≤ (rd t120 Vd)
                   ·rw [if_pos GR] at H;have D2:decide (0 ≤ (rd t120 Vd))=true:=decide_eq_true GR;clear GR
                    by_cases gZ:(rd t120 Vd) < (t103.length:Int)
                    ·rw [if_pos gZ] at H;have baf:decide ((rd t120 Vd) < (t103.length:Int))=true:=decide_eq_true gZ;clear gZ;replace H:=Option.bind_eq_some_iff.mp H;obtain ⟨t130,bah,H⟩:=H;replace H:(if t130=true then (yc.l2 k3 t103 nc Oe Dg Gc (Ea.length:Int) Oe Ea (Ea.length:Int) Gc t120 (t120.length:Int) (wrap64 (Vd + 1)) Ma La Na Ka Ea) else (if Dg.length < 17592186044416 then (yc.l2 k3 t103 nc Oe (Dg ++ [rd t120 Vd]) Gc (Ea.length:Int) Oe Ea (Ea.length:Int) Gc t120 (t120.length:Int) (wrap64 (Vd + 1)) Ma La Na Ka Ea) else (none)))=some r:=H;have A39:=aa.mk bah;clear bah
                     by_cases c40:t130=true
                     ·subst c40;have H1:(yc.l2 k3 t103 nc Oe Dg Gc (Ea.length:Int) Oe Ea (Ea.length:Int) Gc t120 (t120.length:Int) (wrap64 (Vd + 1)) Ma La Na Ka Ea)=some r:=by rw [if_pos rfl] at H;exact H
                      clear H;have H:=H1;clear H1;have H':=aa.mk H;clear H;have ql:0 ≤ (Vd:Int):=Pa;have jl:Vd < (t120.length:Int):=Pa;obtain ⟨Vo,Xw,nk⟩:=Kd.Ce (Kd.Rb Zo.out).2.2 Vd ql jl;cases Xw;replace ql:=eq_true ql;replace jl:=eq_true jl;obtain ⟨J_,cI,nM⟩:=Kd.Kj Ub.out;subst nM;have Dn:0 ≤ (Gc:Int):=Pa;have Cn:Gc < (t103.length:Int):=Pa;obtain ⟨tr,qx,bx,iD,Sp,Om,Rm⟩:=Jp (Kd.Xc Ub.out).2.2 Gc Dn Cn;cases iD;obtain ⟨nU,Ow,Qw,Fq⟩:=Kd.Qs Ub.out [] Gc Dn (by first|exact Cn|exact Pa|(have e_:=(Kd.Xc Ub.out).1;omega));obtain ⟨ZE,rfl,Hj⟩:=Qw;have Ug:=Fq 0 _ rfl;rw [Nat.add_zero,show ((Kd.slice 3 (Kd.int .i64))).sz=1 from rfl,Nat.mul_one] at Ug;replace Ug:=Option.some.inj (Ug.symm.trans Sp);rw [Ug] at Hj;have sq:=aa.mk (show Kd.R (Kd.int .i64) 3 _ _ _ _ (Je t103 Gc) from Hj);clear Ug Hj Fq Ow;have Ym:=aa.mk Rm;have gu:=aa.mk Om;clear Rm Om;replace Dn:=eq_true Dn;replace Cn:=eq_true Cn;go_wp2_with (first|((with_reducible refine Ab (f:=83) rfl ?_);refine Uc (some 44) rfl rfl Try.func83 (by kernel_rfl) rfl #[.slice qx (Je t103 Gc).length bx,.int .i64 Oe] rfl (by (try simp only [List.map_toArray,List.map_cons,List.map_nil]);first|done|rfl|(simp only [List.length_drop,List.length_take];rfl)) ?_;(with_reducible refine (tc.calls k3 _ _ (Je t103 Gc) Oe true _ ?jc ?ic A31.out).mono ?_);(case jc=>repeat (first|exact (by repeat (first|(with_reducible exact Ym.out)|(with_reducible refine Kd.Jb ?_ _)|(with_reducible refine Kd.Gb ?_ _)|(with_reducible refine Kd.dc ?_)|exact Ym.out))|(with_reducible refine Kd.Jb ?_ _)|(with_reducible refine Kd.Gb ?_ _)|(with_reducible refine Kd.dc ?_)));(case ic=>exact gu.out);rintro e w' ⟨rfl,⟨nd,rfl⟩⟩;refine ⟨_,rfl,?_⟩;have Nr:0 ≤ ((rd t120 Vd):Int):=Pa;have Lr:(rd t120 Vd) < (t103.length:Int):=Pa;obtain ⟨Iz,M_,Y8,YH,Fl,uy,zy⟩:=Jp (Kd.Xc Ub.out).2.2 (rd t120 Vd) Nr Lr;obtain rfl:tr=Iz:=(by injection YH);obtain ⟨Gae,aM,bM,VC⟩:=Kd.Qs Ub.out [] (rd t120 Vd) Nr (by first|exact Lr|exact Pa|(have e_:=(Kd.Xc Ub.out).1;omega));obtain ⟨DV,rfl,Wt⟩:=bM;have Lm:=VC 0 _ rfl;rw [Nat.add_zero,show ((Kd.slice 3 (Kd.int .i64))).sz=1 from rfl,Nat.mul_one] at Lm;replace Lm:=Option.some.inj (Lm.symm.trans Fl);rw [Lm] at Wt;have rC:=aa.mk (show Kd.R (Kd.int .i64) 3 _ _ _ _ (Je t103 (rd t120 Vd)) from Wt);clear Lm Wt VC aM;have Mz:=aa.mk zy;have CI:=aa.mk uy;clear zy uy;replace Nr:=eq_true Nr;replace Lr:=eq_true Lr)|(go_at_call 83;(with_reducible refine (tc.calls k3 _ _ (Je t103 (rd t120 Vd)) Oe true _ ?jc ?ic A39.out).mono ?_);(case jc=>repeat (first|exact (by repeat (first|(with_reducible exact Mz.out)|(with_reducible refine Kd.Jb ?_ _)|(with_reducible refine Kd.Gb ?_ _)|(with_reducible refine Kd.dc ?_)|exact Mz.out))|(with_reducible refine Kd.Jb ?_ _)|(with_reducible refine Kd.Gb ?_ _)|(with_reducible refine Kd.dc ?_)));(case ic=>exact CI.out);rintro e w' ⟨rfl,⟨nd,rfl⟩⟩))
                      go_roundg k3
                      case measure=>have:=Cf.out;have:=Qk.out;have:=yx.out;omega
                      case rel=>exact ⟨(Dg),(wrap64 (Vd + 1)),(by first|rfl|(simp;done)|(simp [*];done)),H',⟨by have:=Cf.out;have:=Qk.out;have:=yx.out;omega⟩,⟨by (with_reducible repeat (first|apply Kd.Yb|apply Kd.Xb|apply Kd.Dc));exact Ub.out⟩,⟨by (with_reducible repeat (first|apply Kd.Yb|apply Kd.Xb|apply Kd.Dc));exact uc.out⟩,⟨by (with_reducible repeat (first|apply Kd.Va|apply Kd.Wa|apply Kd.jb));exact Ge.out⟩,⟨by (with_reducible repeat (first|apply Kd.Va|apply Kd.Wa|apply Kd.jb));exact Zo.out⟩,⟨by (with_reducible repeat (first|refine Aa ?_ _|refine Fa ?_|refine Ba ?_ _));exact ta.out⟩,⟨by (with_reducible repeat (first|refine Aa ?_ _|refine Fa ?_|refine Ba ?_ _));exact Zh.out⟩,⟨by repeat (first|(with_reducible first|exact HB.out|apply oa|apply ia|apply qa|refine ua ?_ Ua.out|refine ua ?_ Xs.out)|exact HB.out)⟩⟩
                     ·replace c40:=Bool.eq_false_iff.mpr c40;subst c40;have H1:(if Dg.length < 17592186044416 then (yc.l2 k3 t103 nc Oe (Dg ++ [rd t120 Vd]) Gc (Ea.length:Int) Oe Ea (Ea.length:Int) Gc t120 (t120.length:Int) (wrap64 (Vd + 1)) Ma La Na Ka Ea) else (none))=some r:=by rw [if_neg (show ¬ (false=true) by decide)] at H;exact H
                      clear H;have H:=H1;clear H1
                      by_cases gL:Dg.length < 17592186044416
                      ·rw [if_pos gL] at H;have Kaf:=aa.mk gL;clear gL;obtain ⟨gaa,pJ⟩:∃ y_:List Int,y_=(Dg ++ [rd t120 Vd]):=⟨_,rfl⟩;replace H:(yc.l2 k3 t103 nc Oe gaa Gc (Ea.length:Int) Oe Ea (Ea.length:Int) Gc t120 (t120.length:Int) (wrap64 (Vd + 1)) Ma La Na Ka Ea)=some r:=by first|(rw [pJ];with_reducible exact H)|(have Ud:=(Option.bind_some _ _).symm.trans H;rw [pJ];with_reducible exact Ud)|(have Ud:=(Option.bind_some _ _).symm.trans H;with_reducible exact Ud)|with_reducible exact H|(rw [pJ];exact H)|exact H
                       have Baf:=aa.mk pJ;clear pJ;have H':=aa.mk H;clear H;have ql:0 ≤ (Vd:Int):=Pa;have jl:Vd < (t120.length:Int):=Pa;obtain ⟨Vo,Xw,nk⟩:=Kd.Ce (Kd.Rb Zo.out).2.2 Vd ql jl;cases Xw;replace ql:=eq_true ql;replace jl:=eq_true jl;obtain ⟨CaA,M8,Tar⟩:=Kd.Kj Ub.out;subst Tar;have Dn:0 ≤ (Gc:Int):=Pa;have Cn:Gc < (t103.length:Int):=Pa;obtain ⟨tr,qx,bx,iD,Sp,Om,Rm⟩:=Jp (Kd.Xc Ub.out).2.2 Gc Dn Cn;cases iD;obtain ⟨nU,Ow,Qw,Fq⟩:=Kd.Qs Ub.out [] Gc Dn (by first|exact Cn|exact Pa|(have e_:=(Kd.Xc Ub.out).1;omega));obtain ⟨ZE,rfl,Hj⟩:=Qw;have Ug:=Fq 0 _ rfl;rw [Nat.add_zero,show ((Kd.slice 3 (Kd.int .i64))).sz=1 from rfl,Nat.mul_one] at Ug;replace Ug:=Option.some.inj (Ug.symm.trans Sp);rw [Ug] at Hj;have sq:=aa.mk (show Kd.R (Kd.int .i64) 3 _ _ _ _ (Je t103 Gc) from Hj);clear Ug Hj Fq Ow;have Ym:=aa.mk Rm;have gu:=aa.mk Om;clear Rm Om;replace Dn:=eq_true Dn;replace Cn:=eq_true Cn;go_wp2_with (first|((with_reducible refine Ab (f:=83) rfl ?_);refine Uc (some 44) rfl rfl Try.func83 (by kernel_rfl) rfl #[.slice qx (Je t103 Gc).length bx,.int .i64 Oe] rfl (by (try simp only [List.map_toArray,List.map_cons,List.map_nil]);first|done|rfl|(simp only [List.length_drop,List.length_take];rfl)) ?_;(with_reducible refine (tc.calls k3 _ _ (Je t103 Gc) Oe true _ ?jc ?ic A31.out).mono ?_);(case jc=>repeat (first|exact (by repeat (first|(with_reducible exact Ym.out)|(with_reducible refine Kd.Jb ?_ _)|(with_reducible refine Kd.Gb ?_ _)|(with_reducible refine Kd.dc ?_)|exact Ym.out))|(with_reducible refine Kd.Jb ?_ _)|(with_reducible refine Kd.Gb ?_ _)|(with_reducible refine Kd.dc ?_)));(case ic=>exact gu.out);rintro e w' ⟨rfl,⟨nd,rfl⟩⟩;refine ⟨_,rfl,?_⟩;have Nr:0 ≤ ((rd t120 Vd):Int):=Pa;have Lr:(rd t120 Vd) < (t103.length:Int):=Pa;obtain ⟨Iz,M_,Y8,YH,Fl,uy,zy⟩:=Jp (Kd.Xc Ub.out).2.2 (rd t120 Vd) Nr Lr;obtain rfl:tr=Iz:=(by injection YH);obtain ⟨Gae,aM,bM,VC⟩:=Kd.Qs Ub.out [] (rd t120 Vd) Nr (by first|exact Lr|exact Pa|(have e_:=(Kd.Xc Ub.out).1;omega));obtain ⟨DV,rfl,Wt⟩:=bM;have Lm:=VC 0 _ rfl;rw [Nat.add_zero,show ((Kd.slice 3 (Kd.int .i64))).sz=1 from rfl,Nat.mul_one] at Lm;replace Lm:=Option.some.inj (Lm.symm.trans Fl);rw [Lm] at Wt;have rC:=aa.mk (show Kd.R (Kd.int .i64) 3 _ _ _ _ (Je t103 (rd t120 Vd)) from Wt);clear Lm Wt VC aM;have Mz:=aa.mk zy;have CI:=aa.mk uy;clear zy uy;replace Nr:=eq_true Nr;replace Lr:=eq_true Lr)|(go_at_call 83;(with_reducible refine (tc.calls k3 _ _ (Je t103 (rd t120 Vd)) Oe false _ ?jc ?ic A39.out).mono ?_);(case jc=>repeat (first|exact (by repeat (first|(with_reducible exact Mz.out)|(with_reducible refine Kd.Jb ?_ _)|(with_reducible refine Kd.Gb ?_ _)|(with_reducible refine Kd.dc ?_)|exact Mz.out))|(with_reducible refine Kd.Jb ?_ _)|(with_reducible refine Kd.Gb ?_ _)|(with_reducible refine Kd.dc ?_)));(case ic=>exact CI.out);rintro e w' ⟨rfl,⟨nd,rfl⟩⟩)|((with_reducible refine Eg (b:=.append) (xs:=#[.tmp 59,.tmp 61]) rfl ?_);at_builtin;refine Kd.Ss (Kd.int .i64) (w0:=w) w.heap.size rfl (.tmp 59) (.tmp 61) 22 3 (.int .i64 0) 8 rfl Try.underlying22 info3 rfl (by decide) (by omega) u6 Dg (rd t120 Vd) [.int .i64 (rd t120 Vd)] (fun k_=>some k_ ≠ (.slice (some Vo) t120.length jA:Value).ownBlock) (fun _=>False) rfl rfl ?aP (fun _ hk=>hk.elim) ?aF ?aO ?aB ?aS ?aL ?_;(case aP=>exact rfl);(case aB=>exact (by repeat (first|(with_reducible first|exact HB.out|apply oa|apply ia|apply qa|refine ua ?_ Ua.out|refine ua ?_ Xs.out)|exact HB.out)));(case aF=>exact (fun k_ hk=>Kd.fresh' (Kd.Pk (by (with_reducible repeat (first|apply Kd.Va|apply Kd.Wa|apply Kd.jb));exact Zo.out)) k_ hk));(case aO=>exact (by (with_reducible repeat (first|apply Kd.Va|apply Kd.Wa|apply Kd.jb));exact Ge.out));(case aS=>exact (Ja (by repeat (first|(with_reducible first|exact HB.out|apply oa|apply ia|apply qa|refine ua ?_ Ua.out|refine ua ?_ Xs.out)|exact HB.out))));(case aL=>have:=Kaf.out;omega);intro Eay w44 ho hb hg hat;rw [← Baf.out] at ho;have Cb:=aa.mk (Kd.vr (ok:=(fun k_=>some k_ ≠ (u4:Value).ownBlock∧some k_ ≠ (.slice (some Vo) t120.length jA:Value).ownBlock)) (by (with_reducible repeat (first|apply Kd.Yb|apply Kd.Xb|apply Kd.Dc));exact Kd.Ld Ub.out (fun _ hk=>⟨⟨hk.1,hk.2.2⟩,hk.2.1⟩)) hg hat);have Lb:=aa.mk (Kd.vr (ok:=(fun k_=>some k_ ≠ (.slice (some tr) t103.length M8:Value).ownBlock∧some k_ ≠ (.slice (some Vo) t120.length jA:Value).ownBlock)) (by (with_reducible repeat (first|apply Kd.Yb|apply Kd.Xb|apply Kd.Dc));exact Kd.Ld uc.out (fun _ hk=>⟨⟨hk.1,hk.2.2⟩,hk.2.1⟩)) hg hat);have Pb:=aa.mk (Kd.Yg (ok:=(fun _=>True)) (by (with_reducible repeat (first|apply Kd.Va|apply Kd.Wa|apply Kd.jb));exact Kd.mc Zo.out (fun _ hk=>⟨trivial,hk⟩)) hg hat);have Ec:=aa.mk (Ff (g:=za) (o:=.cells #[.slice xb Ma.length qb,.int .i64 La,.int .i64 Na,.int .i64 Ka,.slice (some wD) Ea.length Kb] 45 (0,0)) (by (with_reducible repeat (first|refine Aa ?_ _|refine Fa ?_|refine Ba ?_ _));exact ta.out) hg (Kd.Xo Ge.out ta.out (by decide)));have fe:=aa.mk (Ff (g:=Jh) (o:=.cells #[.slice Wn ((Ta Ea Gc).f0).length Tn,.int .i64 ((Ta Ea Gc).f1),.int .i64 ((Ta Ea Gc).f2),.int .i64 ((Ta Ea Gc).f3),.int .i64 ((Ta Ea Gc).f4)] 83 (0,0)) (by (with_reducible repeat (first|refine Aa ?_ _|refine Fa ?_|refine Ba ?_ _));exact Zh.out) hg (Kd.Xo Ge.out Zh.out (by decide)));have Af:=aa.mk (Kd.Yg (ok:=(fun k_=>some k_ ≠ (.slice (some tr) t103.length M8:Value).ownBlock∧some k_ ≠ (u4:Value).ownBlock∧some k_ ≠ (.slice (some Vo) t120.length jA:Value).ownBlock)) (by (with_reducible repeat (first|apply Kd.Va|apply Kd.Wa|apply Kd.jb));exact Kd.mc sq.out (fun _ hk=>⟨⟨hk.2,⟨hk.1.1,hk.1.2.2⟩⟩,hk.1.2.1⟩)) hg hat);have Ah:=aa.mk (Kd.Yg (ok:=(fun k_=>some k_ ≠ (.slice (some tr) t103.length M8:Value).ownBlock∧some k_ ≠ (u4:Value).ownBlock∧some k_ ≠ (.slice (some Vo) t120.length jA:Value).ownBlock)) (by (with_reducible repeat (first|apply Kd.Va|apply Kd.Wa|apply Kd.jb));exact Kd.mc rC.out (fun _ hk=>⟨⟨hk.2,⟨hk.1.1,hk.1.2.2⟩⟩,hk.1.2.1⟩)) hg hat);have iJ:=aa.mk (hb);have kN:=aa.mk (ho);clear Ub uc Zo ta Zh sq rC HB Ge;have Ub:=Cb;have uc:=Lb;have Zo:=Pb;have ta:=Ec;have Zh:=fe;have sq:=Af;have rC:=Ah;have HB:=iJ;have lag:=kN;clear Cb Lb Pb Ec fe Af Ah iJ kN ho hb hg hat))
                       go_roundg k3
                       case measure=>have:=Cf.out;have:=Qk.out;have:=yx.out;omega
                       case rel=>exact ⟨(gaa),(wrap64 (Vd + 1)),(by first|rfl|(simp;done)|(simp [*];done)),H',⟨by have:=Cf.out;have:=Qk.out;have:=yx.out;omega⟩,⟨by (with_reducible repeat (first|apply Kd.Yb|apply Kd.Xb|apply Kd.Dc));exact Kd.Ld Ub.out (fun _ hk=>⟨hk.1.1,⟨hk.2,hk.1.2⟩⟩)⟩,⟨by (with_reducible repeat (first|apply Kd.Yb|apply Kd.Xb|apply Kd.Dc));exact Kd.Ld uc.out (fun _ hk=>⟨hk.1.1,⟨hk.2,hk.1.2⟩⟩)⟩,⟨by (with_reducible repeat (first|apply Kd.Va|apply Kd.Wa|apply Kd.jb));exact lag.out⟩,⟨by (with_reducible repeat (first|apply Kd.Va|apply Kd.Wa|apply Kd.jb));exact Kd.mc Zo.out (fun _ hk=>hk.2)⟩,⟨by (with_reducible repeat (first|refine Aa ?_ _|refine Fa ?_|refine Ba ?_ _));exact ta.out⟩,⟨by (with_reducible repeat (first|refine Aa ?_ _|refine Fa ?_|refine Ba ?_ _));exact Zh.out⟩,⟨by repeat (first|(with_reducible first|exact HB.out|apply oa|apply ia|apply qa|refine ua ?_ Ua.out|refine ua ?_ Xs.out)|exact HB.out)⟩⟩
                      ·rw [if_neg gL] at H;exact absurd H (by simp)
                    ·rw [if_neg gZ] at H;exact absurd H (by simp)
                   ·rw [if_neg GR] at H;exact absurd H (by simp)
                 ·replace LI:=Bool.eq_false_iff.mpr LI;subst LI;have H1:(yc.l2 k3 t103 nc Oe Dg Gc (Ea.length:Int) Oe Ea (Ea.length:Int) Gc t120 (t120.length:Int) (wrap64 (Vd + 1)) Ma La Na Ka Ea)=some r:=by rw [if_neg (show ¬ (false=true) by decide)] at H;exact H
                  clear H;have H:=H1;clear H1;have H':=aa.mk H;clear H;have ql:0 ≤ (Vd:Int):=Pa;have jl:Vd < (t120.length:Int):=Pa;obtain ⟨Vo,Xw,nk⟩:=Kd.Ce (Kd.Rb Zo.out).2.2 Vd ql jl;cases Xw;replace ql:=eq_true ql;replace jl:=eq_true jl;obtain ⟨iat,ras,e8⟩:=Kd.Kj Ub.out;subst e8;have Dn:0 ≤ (Gc:Int):=Pa;have Cn:Gc < (t103.length:Int):=Pa;obtain ⟨tr,qx,bx,iD,Sp,Om,Rm⟩:=Jp (Kd.Xc Ub.out).2.2 Gc Dn Cn;cases iD;obtain ⟨nU,Ow,Qw,Fq⟩:=Kd.Qs Ub.out [] Gc Dn (by first|exact Cn|exact Pa|(have e_:=(Kd.Xc Ub.out).1;omega));obtain ⟨ZE,rfl,Hj⟩:=Qw;have Ug:=Fq 0 _ rfl;rw [Nat.add_zero,show ((Kd.slice 3 (Kd.int .i64))).sz=1 from rfl,Nat.mul_one] at Ug;replace Ug:=Option.some.inj (Ug.symm.trans Sp);rw [Ug] at Hj;have sq:=aa.mk (show Kd.R (Kd.int .i64) 3 _ _ _ _ (Je t103 Gc) from Hj);clear Ug Hj Fq Ow;have Ym:=aa.mk Rm;have gu:=aa.mk Om;clear Rm Om;replace Dn:=eq_true Dn;replace Cn:=eq_true Cn;go_wp2_with (first|((with_reducible refine Ab (f:=83) rfl ?_);refine Uc (some 44) rfl rfl Try.func83 (by kernel_rfl) rfl #[.slice qx (Je t103 Gc).length bx,.int .i64 Oe] rfl (by (try simp only [List.map_toArray,List.map_cons,List.map_nil]);first|done|rfl|(simp only [List.length_drop,List.length_take];rfl)) ?_;(with_reducible refine (tc.calls k3 _ _ (Je t103 Gc) Oe false _ ?jc ?ic A31.out).mono ?_);(case jc=>repeat (first|exact (by repeat (first|(with_reducible exact Ym.out)|(with_reducible refine Kd.Jb ?_ _)|(with_reducible refine Kd.Gb ?_ _)|(with_reducible refine Kd.dc ?_)|exact Ym.out))|(with_reducible refine Kd.Jb ?_ _)|(with_reducible refine Kd.Gb ?_ _)|(with_reducible refine Kd.dc ?_)));(case ic=>exact gu.out);rintro e w' ⟨rfl,⟨nd,rfl⟩⟩;refine ⟨_,rfl,?_⟩))
                  go_roundg k3
                  case measure=>have:=Cf.out;have:=Qk.out;have:=yx.out;omega
                  case rel=>exact ⟨(Dg),(wrap64 (Vd + 1)),(by first|rfl|(simp;done)|(simp [*];done)),H',⟨by have:=Cf.out;have:=Qk.out;have:=yx.out;omega⟩,⟨by (with_reducible repeat (first|apply Kd.Yb|apply Kd.Xb|apply Kd.Dc));exact Ub.out⟩,⟨by (with_reducible repeat (first|apply Kd.Yb|apply Kd.Xb|apply Kd.Dc));exact uc.out⟩,⟨by (with_reducible repeat (first|apply Kd.Va|apply Kd.Wa|apply Kd.jb));exact Ge.out⟩,⟨by (with_reducible repeat (first|apply Kd.Va|apply Kd.Wa|apply Kd.jb));exact Zo.out⟩,⟨by (with_reducible repeat (first|refine Aa ?_ _|refine Fa ?_|refine Ba ?_ _));exact ta.out⟩,⟨by (with_reducible repeat (first|refine Aa ?_ _|refine Fa ?_|refine Ba ?_ _));exact Zh.out⟩,⟨by repeat (first|(with_reducible first|exact HB.out|apply oa|apply ia|apply qa|refine ua ?_ Ua.out|refine ua ?_ Xs.out)|exact HB.out)⟩⟩
                ·rw [if_neg yu] at H;exact absurd H (by simp)
               ·rw [if_neg ew] at H;exact absurd H (by simp)
              ·rw [if_neg Zt] at H;exact absurd H (by simp)
             ·rw [if_neg rD] at H;exact absurd H (by simp)
            ·rw [if_neg MI] at H;have vU:decide (Vd < (t120.length:Int))=false:=decide_eq_false MI;clear MI;have H':=aa.mk H;clear H;go_wp2
             go_roundg k3
             case measure=>have:=Cf.out;have:=Qk.out;have:=yx.out;omega
             case rel=>exact ⟨(Dg),(wrap64 (Gc + 1)),(by first|rfl|(simp;done)|(simp [*];done)),H',⟨by have:=Cf.out;have:=Qk.out;have:=yx.out;omega⟩,⟨by (with_reducible repeat (first|apply Kd.Yb|apply Kd.Xb|apply Kd.Dc));exact Kd.Ld Ub.out (fun _ hk=>⟨hk.1,hk.2.1⟩)⟩,⟨by (with_reducible repeat (first|apply Kd.Yb|apply Kd.Xb|apply Kd.Dc));exact Kd.Ld uc.out (fun _ hk=>⟨hk.1,hk.2.1⟩)⟩,⟨by (with_reducible repeat (first|apply Kd.Va|apply Kd.Wa|apply Kd.jb));exact Kd.mc Ge.out (fun _ hk=>trivial)⟩,⟨by (with_reducible repeat (first|refine Aa ?_ _|refine Fa ?_|refine Ba ?_ _));exact ta.out⟩,⟨by repeat (first|(with_reducible first|exact HB.out|apply oa|apply ia|apply qa|refine ua ?_ Ua.out|refine ua ?_ Xs.out)|exact HB.out)⟩⟩
         ·rw [if_neg gw] at H;exact absurd H (by simp)
        ·rw [if_neg Gs] at H;exact absurd H (by simp)
       ·rw [if_neg qw] at H;have Ls:decide (Gc < (Ea.length:Int))=false:=decide_eq_false qw;clear qw;replace H:=Option.bind_eq_some_iff.mp H;obtain ⟨t112,Zag,H⟩:=H;replace H:(if nc.length < 5864062014805 then (yc.l0 k2 t103 (nc ++ [t112]) (Ea.length:Int) (wrap64 (Oe + 1)) Ma La Na Ka Ea) else (none))=some r:=H;have A46:=aa.mk Zag;clear Zag
        by_cases fZ:nc.length < 5864062014805
        ·rw [if_pos fZ] at H;have Iaf:=aa.mk fZ;clear fZ;obtain ⟨jaa,uJ⟩:∃ y_:List (List Int),y_=(nc ++ [t112]):=⟨_,rfl⟩;replace H:(yc.l0 k2 t103 jaa (Ea.length:Int) (wrap64 (Oe + 1)) Ma La Na Ka Ea)=some r:=by first|(rw [uJ];with_reducible exact H)|(have Ud:=(Option.bind_some _ _).symm.trans H;rw [uJ];with_reducible exact Ud)|(have Ud:=(Option.bind_some _ _).symm.trans H;with_reducible exact Ud)|with_reducible exact H|(rw [uJ];exact H)|exact H
         have Gaf:=aa.mk uJ;clear uJ;have H':=aa.mk H;clear H;obtain ⟨lE,su,ZQ⟩:=Kd.xd Ge.out;subst ZQ;go_wp2_with (first|((with_reducible refine Ab (f:=86) rfl ?_);refine Uc (some 67) rfl rfl Try.func86 (by kernel_rfl) rfl #[.slice lE bp.length su] rfl (by (try simp only [List.map_toArray,List.map_cons,List.map_nil]);first|done|rfl|(simp only [List.length_drop,List.length_take];rfl)) ?_;(with_reducible refine (Ng.calls (fun k_=>some k_=(.slice lE bp.length su:Value).ownBlock) (.slice lE bp.length su) bp t112 w _ ?jc ?ic A46.out).mono ?_);(case jc=>repeat (first|(with_reducible first|exact HB.out|apply oa|apply ia|apply qa|refine ua ?_ Ua.out)|exact HB.out));(case ic=>exact Kd.th rfl Ge.out);rintro e w49 ⟨TR,rfl,Bg,hb,hkp⟩;refine ⟨_,rfl,?_⟩;have Cb:=aa.mk (Kd.Ld (wj:=fun k_=>some k_ ≠ (u4:Value).ownBlock∧some k_ ≠ (TR:Value).ownBlock) (Kd.Mj (Ub.out) hkp (fun k_ wg hs_=>(wg.2) hs_)) (fun k_ wg=>⟨wg.1.1,fun e_=>Or.elim (Bg.1 k_ e_.symm) (fun hs_=>wg.2.1 hs_) (fun yt=>Nat.not_le.2 wg.2.2 yt)⟩));have Lb:=aa.mk (Kd.Ld (wj:=fun k_=>some k_ ≠ (RD:Value).ownBlock∧some k_ ≠ (TR:Value).ownBlock) (Kd.Mj (uc.out) hkp (fun k_ wg hs_=>(wg.2) hs_)) (fun k_ wg=>⟨wg.1.1,fun e_=>Or.elim (Bg.1 k_ e_.symm) (fun hs_=>wg.2.1 hs_) (fun yt=>Nat.not_le.2 wg.2.2 yt)⟩));have Pb:=aa.mk (Og (by (with_reducible repeat (first|refine Aa ?_ _|refine Fa ?_|refine Ba ?_ _));exact ta.out) hkp (fun hs_=>(fun e_=>(Kd.Xo Ge.out ta.out (by decide)) e_) hs_));have Ec:=aa.mk (Kd.mc (wj:=fun k_=>True) Bg (fun k_ wg=>trivial));have fe:=aa.mk (hb);clear Ub uc ta HB Ge;have Ub:=Cb;have uc:=Lb;have ta:=Pb;have gj:=Ec;have HB:=fe;clear Cb Lb Pb Ec fe;(try clear hb);(try clear hkp);(try clear Bg);obtain ⟨I_,K8,Qar⟩:=Kd.xd gj.out;subst Qar)|((with_reducible refine Eg (b:=.append) (xs:=#[.tmp 65,.tmp 68]) rfl ?_);at_builtin;refine Kd.Wu (Kd.slice 3 (Kd.int .i64)) (w0:=w) w.heap.size rfl (.tmp 65) (.tmp 68) 53 22 (.slice none 0 0) 24 rfl Try.underlying53 PC rfl (by decide) (by omega) u4 nc t112 [.slice I_ t112.length K8] (fun k_=>some k_ ≠ (RD:Value).ownBlock) (fun k_=>some k_=(.slice I_ t112.length K8:Value).ownBlock) rfl rfl ?aP (fun k_ wg=>((Kd.mc (wj:=fun k_=>((fun k_=>some k_ ≠ (RD:Value).ownBlock)) k_∧some k_ ≠ (u4:Value).ownBlock) (Kd.Nh (Kd.Nh (gj.out) (Kd.Uh Ub.out) (by decide)) (Kd.Uh uc.out) (by decide)) (fun k_ hk=>⟨hk.1.2,hk.2⟩))).1 k_ wg.symm) ?aF ?aO ?aB ?aS ?aL ?_;(case aP=>exact Kd.OK (Kd.mc (Kd.th rfl (Kd.mc (wj:=fun k_=>((fun k_=>some k_ ≠ (RD:Value).ownBlock)) k_∧some k_ ≠ (u4:Value).ownBlock) (Kd.Nh (Kd.Nh (gj.out) (Kd.Uh Ub.out) (by decide)) (Kd.Uh uc.out) (by decide)) (fun k_ hk=>⟨hk.1.2,hk.2⟩))) (fun _ h_=>h_)));(case aB=>exact (by repeat (first|(with_reducible first|exact HB.out|apply oa|apply ia|apply qa|refine ua ?_ Ua.out)|exact HB.out)));(case aF=>exact (fun k_ hk=>Kd.fresh' (Kd.H9 (by (with_reducible repeat (first|apply Kd.Yb|apply Kd.Xb|apply Kd.Dc));exact Ub.out)) k_ hk));(case aO=>exact (by (with_reducible repeat (first|apply Kd.Yb|apply Kd.Xb|apply Kd.Dc));exact Kd.Ld uc.out (fun k_ hk=>⟨hk.1,fun e_=>hk.2 e_⟩)));(case aS=>exact (Ja (by repeat (first|(with_reducible first|exact HB.out|apply oa|apply ia|apply qa|refine ua ?_ Ua.out)|exact HB.out))));(case aL=>have:=Iaf.out;omega);intro cF aN ho hb hg hat;rw [← Gaf.out] at ho;have Cb:=aa.mk (Kd.vr (ok:=(fun k_=>some k_ ≠ (.slice I_ t112.length K8:Value).ownBlock)) (by (with_reducible repeat (first|apply Kd.Yb|apply Kd.Xb|apply Kd.Dc));exact Kd.Ld Ub.out (fun _ hk=>⟨hk.2,hk.1⟩)) hg hat);have Lb:=aa.mk (Ff (g:=za) (o:=.cells #[.slice xb Ma.length qb,.int .i64 La,.int .i64 Na,.int .i64 Ka,.slice Qb Ea.length Kb] 45 (0,0)) (by (with_reducible repeat (first|refine Aa ?_ _|refine Fa ?_|refine Ba ?_ _));exact ta.out) hg (Kd.GU uc.out ta.out (by decide)));have Pb:=aa.mk (hb);have Ec:=aa.mk (ho);clear Ub ta HB uc gj;have Ub:=Cb;have ta:=Lb;have HB:=Pb;have SE:=Ec;clear Cb Lb Pb Ec ho hb hg hat))
         go_roundg k2
         case measure=>have:=Cf.out;have:=Qk.out;omega
         case rel=>exact ⟨(jaa),(wrap64 (Oe + 1)),(by first|rfl|(simp;done)|(simp [*];done)),H',⟨by have:=Cf.out;have:=Qk.out;omega⟩,⟨by (with_reducible repeat (first|apply Kd.Yb|apply Kd.Xb|apply Kd.Dc));exact Kd.Ld Ub.out (fun _ hk=>hk.2)⟩,⟨by (with_reducible repeat (first|apply Kd.Yb|apply Kd.Xb|apply Kd.Dc));exact SE.out⟩,⟨by (with_reducible repeat (first|refine Aa ?_ _|refine Fa ?_|refine Ba ?_ _));exact ta.out⟩,⟨by repeat (first|(with_reducible first|exact HB.out|apply oa|apply ia|apply qa|refine ua ?_ Ua.out)|exact HB.out)⟩⟩
        ·rw [if_neg fZ] at H;exact absurd H (by simp)
    ·rw [if_neg ax] at H;have Ew:decide (Oe < (Ea.length:Int))=false:=decide_eq_false ax;clear ax;obtain rfl:=Option.some.inj H;go_wp2;go_ret;exact ⟨_,by first|rfl|(simp [Ra,Qa] <;> rfl)|(simp [*,Ra,Qa] <;> rfl),by (with_reducible repeat (first|apply Kd.Yb|apply Kd.Xb|apply Kd.Dc));exact Kd.Ld uc.out (fun _ hk=>trivial),by repeat (first|(with_reducible first|exact HB.out|apply oa|apply ia|apply qa|refine ua ?_ Ua.out)|exact HB.out)⟩
 ·replace c3:=Bool.eq_false_iff.mpr c3;subst c3;have H1:(some ([]:List (List Int)))=some r:=by rw [if_neg (show ¬ (false=true) by decide)] at H;exact H
  clear H;have H:=H1;clear H1;obtain rfl:=Option.some.inj H;go_enter Try.func41,Try.ntmps41;go_wp2_with (first|((with_reducible refine Bb (N:=1) rfl ?_);refine Ob ?hg (N:=1) ?hd (cs:=#[.slice xb Ma.length qb,.int .i64 La,.int .i64 Na,.int .i64 Ka,.slice Qb Ea.length Kb]) (t:=45) ?hr ?_;(case hd=>rfl);(case hg=>rfl);(case hr=>first|(go_simp;done)|(go_simp;rfl));intro za hg CV oc hb;have Cb:=aa.mk (Oa (by repeat (first|(with_reducible first|exact HB.out|apply oa|apply ia|apply qa)|exact HB.out)) hb);have Lb:=aa.mk (oc);have Pb:=aa.mk ((by rw [hg];exact (Ja (by repeat (first|(with_reducible first|exact HB.out|apply oa|apply ia|apply qa)|exact HB.out))):w.heap.size ≤ za));have Ec:=aa.mk ((by rw [hg];exact (Ja (by repeat (first|(with_reducible first|exact HB.out|apply oa|apply ia|apply qa)|exact HB.out))):w.heap.size ≤ za));clear HB;have HB:=Cb;have ta:=Lb;have He:=Pb;have Ua:=Ec;clear Cb Lb Pb Ec hb oc hg;have TB:CV.cell? ⟨za,0,none⟩=some (.slice xb Ma.length qb):=(ja ta.out 0).trans rfl;have SB:CV.cell? ⟨za,1,none⟩=some (.int .i64 La):=(ja ta.out 1).trans rfl;have RB:CV.cell? ⟨za,2,none⟩=some (.int .i64 Na):=(ja ta.out 2).trans rfl;have QB:CV.cell? ⟨za,3,none⟩=some (.int .i64 Ka):=(ja ta.out 3).trans rfl;have PB:CV.cell? ⟨za,4,none⟩=some (.slice Qb Ea.length Kb):=(ja ta.out 4).trans rfl;have xB:=ga ta.out 0;have wB:=ga ta.out 1;have vB:=ga ta.out 2;have uB:=ga ta.out 3;have tB:=ga ta.out 4)|((with_reducible refine Ab (f:=71) rfl ?_);refine Uc (some 12) rfl rfl Try.func71 (by kernel_rfl) rfl #[.agg #[.slice xb Ma.length qb,.int .i64 La,.int .i64 Na,.int .i64 Ka,.slice Qb Ea.length Kb]] rfl (by (try simp only [List.map_toArray,List.map_cons,List.map_nil]);first|done|rfl|(simp only [List.length_drop,List.length_take];rfl)) ?_;(with_reducible refine (Bc.calls k _ _ Ma La Na Ka _ _ Ea false _ ?jc ?ic ?Ed ?Dd A2.out).mono ?_);(case jc=>repeat (first|exact (Kd.Ib Ue.out HB.out)|(with_reducible refine Kd.Jb ?_ _)|(with_reducible refine Kd.Gb ?_ _)|(with_reducible refine Kd.dc ?_)));(case ic=>exact af.out);(case Ed=>repeat (first|exact (Kd.Ib Xf.out HB.out)|(with_reducible refine Kd.Jb ?_ _)|(with_reducible refine Kd.Gb ?_ _)|(with_reducible refine Kd.dc ?_)));(case Dd=>exact Zg.out);rintro e w54 ⟨rfl,hb⟩;refine ⟨_,rfl,?_⟩;have Cb:=aa.mk (Xa (g:=za) (o:=.cells #[.slice xb Ma.length qb,.int .i64 La,.int .i64 Na,.int .i64 Ka,.slice Qb Ea.length Kb] 45 (0,0)) (by (with_reducible repeat (first|refine Aa ?_ _|refine Fa ?_|refine Ba ?_ _));exact ta.out) hb);have Lb:=aa.mk (Oa (by repeat (first|(with_reducible first|exact HB.out|apply oa|apply ia|apply qa|refine ua ?_ Ua.out)|exact HB.out)) hb);clear ta HB;have ta:=Cb;have HB:=Lb;clear Cb Lb;(try clear hb);(try clear Gj);(try clear hk);(try clear hi)));go_ret;exact ⟨_,by first|rfl|(simp [Ra,Qa] <;> rfl)|(simp [*,Ra,Qa] <;> rfl),by first|exact Kd.F3 _ _ _ _ _|exact Kd.S3 _ _ _ _ _|exact Kd.D3 _ _ _ _ _|exact Kd.K3 _ _ _ _ _|exact Kd.WA _ _ _ _ _,by repeat (first|(with_reducible first|exact HB.out|apply oa|apply ia|apply qa|refine ua ?_ Ua.out)|exact HB.out)⟩
section
variable {l0:List Int} {p v s:Int} {l4:List Df}
theorem OH (h:Rl l0 p v s l4=true):fA l0 p v s l4.length=true∧(∀ b ∈ l4,Iq l0 s l4 b=true)∧qe l4 ≤ 1000:=by
 unfold Rl at h;simp only [Bool.and_eq_true,Bool.not_eq_true',List.any_eq_false,decide_eq_true_eq] at h;exact ⟨h.1,fun b hb=>by have:=h.2.1 b hb;simpa using this,h.2.2⟩
theorem aZ (l:List Df) (b:Df) (hb:b ∈ l):b.f0.length ≤ qe l:=by
 unfold qe;exact KC (List.mem_map.mpr ⟨b,hb,rfl⟩)
end
end Go.Proofs.Ytoomcmaifgkkfaa.P
end
section
namespace Go.Proofs.Ytoomcmaifgkkfaa.P
open Go.RowKit Go.Proofs.Ia.Zb Go.Proofs.Ia.Qd Go.Proofs.Ia.Me
set_option linter.unusedVariables false
set_option linter.unusedSimpArgs false
attribute [local go_sem] Wi Ui jk fk Ch Bh Vi Ti
def uj:List Bool→Nat→List Int
 | [],_=>[]
 | b :: s,i=>if b=true then (i:Int) :: uj s (i + 1) else uj s (i + 1)
theorem Bx:∀ (s:List Bool) (i:Nat),(uj s i).length ≤ s.length
 | [],_=>Nat.le_refl _
 | b :: s,i=>by
  have:=Bx s (i + 1);unfold uj
  by_cases h:b=true
  ·rw [if_pos h];simp;omega
  ·rw [if_neg h];simp;omega
theorem rE:∀ (s t:List Bool) (i:Nat),uj (s ++ t) i=uj s i ++ uj t (i + s.length)
 | [],t,i=>by simp [uj]
 | b :: s,t,i=>by
  have:=rE s t (i + 1);simp only [List.cons_append,uj,this,List.length_cons];rw [show i + 1 + s.length=i + (s.length + 1) from by omega]
  by_cases h:b=true
  ·rw [if_pos h,if_pos h];rfl
  ·rw [if_neg h,if_neg h]
theorem sL (s:List Bool) (i:Nat) (hi:i < s.length):uj (s.take (i + 1)) 0=if s[i]=true then uj (s.take i) 0 ++ [(i:Int)] else uj (s.take i) 0:=by
 rw [List.take_succ_eq_append_getElem hi,rE,List.length_take,Nat.min_eq_left (by omega),Nat.zero_add];unfold uj uj
 by_cases h:s[i]=true
 ·rw [if_pos h,if_pos h]
 ·rw [if_neg h,if_neg h,List.append_nil]
def Tw (s:List Bool):List Int:=s.map fun b=>if b=true then 1 else 0
theorem Tu (s:List Bool):(Tw s).length=s.length:=by simp [Tw]
theorem DP (s:List Bool) {j:Int} (h0:0 ≤ j) (h1:j < (s.length:Int)):rd (Tw s) j=if seen s j.toNat=true then 1 else 0:=by
 have hl:j.toNat < s.length:=by omega
 simp [rd,Tw,seen,List.getD_eq_getElem?_getD,hl]
theorem lK (s:List Bool) (i:Nat):(Tw s).set i 1=Tw (s.set i true):=by
 unfold Tw;rw [List.map_set]
 rfl
theorem cU (n:Nat) (hn:n ≤ 1048576):Ev (fun k=>Od.f k (n:Int)) (List.replicate n 0):=by
 unfold Od.f;have key:=dh (r:=List.replicate n (0:Int)) (n:=n) (fun i=>Ev (fun k=>Od.l0 k (n:Int) (List.replicate i 0) (i:Int)) (List.replicate n 0)) ?_ ?_ 0 (by omega)
 ·exact key
 ·refine Ev.step (fun k=>by rw [Od.l0]) ?_;exact Ev.neg (by omega) (Ev.now _)
 ·intro i hi h;refine Ev.step (fun k=>by rw [Od.l0]) ?_;refine Ev.pos (by omega) (Ev.pos (by rw [List.length_replicate];omega) ?_);rw [Be hi (by omega),← List.replicate_succ'];exact h
section
variable {l0:List Int} {p v s:Int} {bs:List Df}
theorem XH {ys acc:List Int} {r:List Int} {n:Nat} (hn:n ≤ 1048576) (hy:ys.length ≤ 2) :
  ∀ (d i:Nat) (sn:List Bool) (q:List Int),i + d=ys.length→sn.length=n→q.length + d ≤ 4 * n + 8→(∀ j ∈ ys,0 ≤ j∧j < n) →
  Ev (fun k=>Sb.l0 k acc (Tw ((ys.drop i).foldl jg (sn,q)).1) ((ys.drop i).foldl jg (sn,q)).2 l0 p v s bs) r→Ev (fun k=>Sb.l1 k acc (Tw sn) q ys (i:Int) l0 p v s bs) r:=by
 intro d
 induction d with
 | zero =>
  intro i sn q hi hs hq hr he;have e:i=ys.length:=by omega
  subst e;rw [List.drop_length] at he;refine Ev.step (fun k=>by rw [Sb.l1]) ?_;exact Ev.neg (by omega) he
 | succ d ih =>
  intro i sn q hi hs hq hr he;have hi':i < ys.length:=by omega
  obtain ⟨j0,j1⟩:=hr ys[i] (List.getElem_mem hi');have hrd:rd ys (i:Int)=ys[i]:=by rw [eF,List.getD_eq_getElem?_getD,List.getElem?_eq_getElem hi'];rfl
  rw [List.drop_eq_getElem_cons hi',List.foldl_cons] at he;refine Ev.step (fun k=>by rw [Sb.l1]) ?_;refine Ev.pos (by omega) (Ev.pos (by omega) ?_);rw [hrd];refine Ev.pos j0 (Ev.pos (by rw [Tu];omega) ?_);rw [Be hi' (by omega),DP sn j0 (by omega)]
  by_cases hc:seen sn ys[i].toNat=true
  ·rw [if_pos hc];refine Ev.neg (by decide) ?_;have e:jg (sn,q) ys[i]=(sn,q):=by unfold jg;rw [if_pos hc]
   rw [e] at he;exact ih (i + 1) sn q (by omega) hs (by omega) hr he
  ·rw [if_neg hc];refine Ev.pos rfl (Ev.pos (by omega) ?_);have e:jg (sn,q) ys[i]=(sn.set ys[i].toNat true,q ++ [ys[i]]):=by unfold jg;rw [if_neg hc]
   rw [e] at he;rw [lK];exact ih (i + 1) _ _ (by omega) (by rw [List.length_set];exact hs) (by rw [List.length_append,List.length_singleton];omega) hr he
theorem fD {r:List Int} (hE:Zf bs) (hend:∀ sn:List Bool,sn.length=bs.length→(∀ j,seen sn j=true ↔ Kq (ij bs) j)→Ev (fun k=>Sb.l2 k [] (Tw sn) 0) r) :
  ∀ (m:Nat) (sn:List Bool) (q:List Int),2 * news sn + q.length ≤ m→iE bs.length (ij bs) sn q→(∀ j,seen sn j=true→(j:Int) ∉ q→∀ m ∈ ij bs j,seen sn m.toNat=true)→Ev (fun k=>Sb.l0 k [] (Tw sn) q l0 p v s bs) r:=by
 have hn:=hE.2.1;intro m
 induction m with
 | zero =>
  intro sn q hm h hs;cases q with
  | cons i q=>rw [List.length_cons] at hm;omega
  | nil =>
   refine Ev.step (fun k=>by rw [Sb.l0]) ?_;exact Ev.neg (by simp) (hend sn h.len (YY h (fun j hj=>hs j hj (by simp))))
 | succ m ih =>
  intro sn q hm h hs;cases q with
  | nil =>
   refine Ev.step (fun k=>by rw [Sb.l0]) ?_;exact Ev.neg (by simp) (hend sn h.len (YY h (fun j hj=>hs j hj (by simp))))
  | cons i q =>
   obtain ⟨h0,h1,h2⟩:=h.bS i (by simp);have hi:i.toNat < bs.length:=by omega
   have hR:=h.bL _ h2;have hc:=h.cap;rw [List.length_cons] at hc hm;have g:iE bs.length (ij bs) sn q:=⟨h.len,fun j hj=>h.bS j (by simp [hj]),h.bL,by omega,h.BV⟩
   have gs:Shut (ij bs) sn q i.toNat:=by
    intro j hj hq hji;refine hs j hj ?_;intro hmem
    rcases List.mem_cons.mp hmem with e|e
    ·exact hji (by omega)
    ·exact hq e
   obtain ⟨a1,a2,a3,a4,a5⟩:=fJ hR (ij bs i.toNat) sn q g gs (fun j hj=>⟨(hE.2.2 _ hi j hj).1,(hE.2.2 _ hi j hj).2,hj⟩);have hit:((i.toNat:Nat):Int)=i:=Int.toNat_of_nonneg h0;have W0:(ij bs i.toNat).length ≤ 2:=xl _;have U_:ig.f (Ta bs i).f0 (Ta bs i).f1 (Ta bs i).f2 (Ta bs i).f3 (Ta bs i).f4=some (ij bs i.toNat):=by unfold ij;rw [hit];exact Zz _
   have hrd:rd (i :: q) 0=i:=rfl;refine Ev.step (fun k=>by rw [Sb.l0]) ?_;refine Ev.pos (by rw [List.length_cons];omega) (Ev.pos (by rw [List.length_cons];omega) ?_);rw [hrd];refine Ev.pos h0 (Ev.pos h1 ?_);rw [U_];refine Ev.val (Ev.pos (by rw [List.length_cons];omega) ?_);have hl:=h.len;refine XH (n:=bs.length) hn W0 (ij bs i.toNat).length 0 sn q (by omega) hl (by omega) (hE.2.2 _ hi) ?_;refine ih _ _ (by rw [List.drop_zero];omega) (by rw [List.drop_zero];exact a1) ?_;rw [List.drop_zero];intro j hj hq
   by_cases e:j=i.toNat
   ·intro m hm';rw [e] at hm';exact a3 m hm'
   ·exact a2 j hj hq e
theorem WH (sn:List Bool) (hs:sn.length ≤ 1048576):Ev (fun k=>Sb.l2 k [] (Tw sn) 0) (uj sn 0):=by
 have key:=dh (r:=uj sn 0) (n:=sn.length) (fun i=>Ev (fun k=>Sb.l2 k (uj (sn.take i) 0) (Tw sn) (i:Int)) (uj sn 0)) ?_ ?_ 0 (by omega)
 ·exact key
 ·refine Ev.step (fun k=>by rw [Sb.l2]) ?_;refine Ev.neg (by rw [Tu];omega) ?_;rw [List.take_length];exact Ev.now _
 ·intro i hi h;have ht:=Bx (sn.take i) 0;rw [List.length_take] at ht;refine Ev.step (fun k=>by rw [Sb.l2]) ?_;refine Ev.pos (by rw [Tu];omega) (Ev.pos (by omega) ?_);rw [Be hi (by omega),DP sn (by omega) (by omega),Int.toNat_natCast];have hse:seen sn i=sn[i]:=by simp [seen,List.getD_eq_getElem?_getD,hi]
  rw [hse];rw [sL sn i hi] at h
  by_cases hc:sn[i]=true
  ·rw [if_pos hc] at h ⊢;exact Ev.pos rfl (Ev.pos (by omega) h)
  ·rw [if_neg hc] at h ⊢;exact Ev.neg (by decide) h
theorem Sz:∀ (sn:List Bool) (i:Nat) (x:Int),x ∈ uj sn i ↔ ∃ j:Nat,j < sn.length∧seen sn j=true∧x=((i + j:Nat):Int)
 | [],i,x=>by simp [uj]
 | b :: sn,i,x=>by
  have ih:=Sz sn (i + 1) x;have hs0:seen (b :: sn) 0=b:=rfl;have hs1:∀ j,seen (b :: sn) (j + 1)=seen sn j:=fun j=>rfl
  unfold uj
  constructor
  ·intro h
   by_cases hb:b=true
   ·rw [if_pos hb] at h
    rcases List.mem_cons.1 h with h|h
    ·exact ⟨0,by simp,by rw [hs0];exact hb,by rw [h];rfl⟩
    ·obtain ⟨j,h1,h2,h3⟩:=ih.1 h;exact ⟨j + 1,by simpa using h1,by rw [hs1];exact h2,by omega⟩
   ·rw [if_neg hb] at h;obtain ⟨j,h1,h2,h3⟩:=ih.1 h;exact ⟨j + 1,by simpa using h1,by rw [hs1];exact h2,by omega⟩
  ·rintro ⟨j,h1,h2,h3⟩
   have hrest:(∃ j',j=j' + 1)→x ∈ uj sn (i + 1):=by
    rintro ⟨j',rfl⟩;exact ih.2 ⟨j',by simpa using h1,by rw [← hs1];exact h2,by omega⟩
   by_cases hb:b=true
   ·rw [if_pos hb]
    rcases j with _|j
    ·exact List.mem_cons.2 (Or.inl (by omega))
    ·exact List.mem_cons.2 (Or.inr (hrest ⟨j,rfl⟩))
   ·rw [if_neg hb]
    rcases j with _|j
    ·rw [hs0] at h2;exact absurd h2 hb
    ·exact hrest ⟨j,rfl⟩
theorem UI:∀ (sn:List Bool) (i:Nat),(uj sn i).Pairwise (· < ·)
 | [],i=>by simp [uj]
 | b :: sn,i=>by
  have ih:=UI sn (i + 1);unfold uj
  by_cases hb:b=true
  ·rw [if_pos hb,List.pairwise_cons];refine ⟨fun x hx=>?_,ih⟩;obtain ⟨j,_,_,h3⟩:=(Sz sn (i + 1) x).1 hx;omega
  ·rw [if_neg hb];exact ih
theorem TI (hE:Zf bs) (sn:List Bool) (hs:sn.length=bs.length) (h:∀ j,seen sn j=true ↔ Kq (ij bs) j):uj sn 0=yd bs:=by
 refine kF _ _ (UI sn 0) (Xz bs) (fun x=>?_);rw [Sz,Hh hE]
 constructor
 ·rintro ⟨j,h1,h2,h3⟩;rw [Nat.zero_add] at h3;subst h3;exact ⟨by omega,(h _).1 (by rw [Int.toNat_natCast];exact h2)⟩
 ·rintro ⟨h0,hr⟩;exact ⟨x.toNat,by rw [hs];exact qt hE hr,(h _).2 hr,by omega⟩
theorem Jo (n:Nat) (hn:0 < n) (j:Nat):seen ((List.replicate n false).set 0 true) j=decide (j=0):=by
 rw [Pj (by simpa using hn),Hs,Bool.or_false]
 by_cases h:j=0
 ·subst h;rfl
 ·rw [decide_eq_false h,decide_eq_false (fun e=>h e.symm)]
theorem OC {n:Nat} {nx:Nat→List Int} (hn:0 < n):iE n nx ((List.replicate n false).set 0 true) [0]:=by
 refine ⟨by simp,fun j hj=>?_,fun j hj=>?_,?_,?_⟩
 ·rw [List.mem_singleton] at hj;subst hj;exact ⟨by omega,by omega,by rw [Jo n hn];rfl⟩
 ·rw [Jo n hn,decide_eq_true_eq] at hj;subst hj;exact Kq.zero
 ·have:=Lx (s:=List.replicate n false) (i:=0) (by simpa using hn) (Hs _ _);rw [bA] at this;rw [List.length_singleton];omega
 ·rw [Jo n hn];rfl
theorem VH (h0:l0.length ≤ 1048576) (hl:bs.length ≤ 1048576) (ht:qe bs ≤ 1048576) (hok:Rl l0 p v s bs=true):Ev (fun k=>Sb.f k l0 p v s bs) (yd bs):=by
 have hE:=Vw hok;unfold Sb.f;refine Ev.val (Ev.bind (Sw h0 hl ht) ?_);refine Ev.pos hok (Ev.bind (cU bs.length hl) (Ev.pos (by rw [List.length_replicate];have:=hE.1;omega) ?_))
 have e:(List.replicate bs.length (0:Int)).set (0:Int).toNat 1=Tw ((List.replicate bs.length false).set 0 true):=by
  rw [← lK];unfold Tw;rw [List.map_replicate]
  rfl
 rw [e];refine fD hE (fun sn hs hr=>?_) _ _ _ (Nat.le_refl _) (OC hE.1) (fun j hj hq=>?_)
 ·rw [← TI hE sn hs hr];exact WH sn (by omega)
 ·rw [Jo _ hE.1,decide_eq_true_eq] at hj;subst hj;exact absurd (by simp) hq
end
end Go.Proofs.Ytoomcmaifgkkfaa.P
end
