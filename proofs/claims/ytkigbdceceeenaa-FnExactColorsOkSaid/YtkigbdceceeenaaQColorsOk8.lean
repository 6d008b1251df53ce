import Derived.Test.YtkigbdceceeenaaQColorsOk1
import Derived.Test.YtkigbdceceeenaaQColorsOk5
import Derived.Test.YtkigbdceceeenaaQColorsOk7
import Derived.Test.YtkigbdceceeenaaQColorsOk6
import Derived.Shelf.Abstract
import Derived.Test.YtkigbdceceeenaaQColorsOk2
set_option maxHeartbeats 8000000
set_option maxRecDepth 100000
section
namespace Go.Proofs.Ytkigbdceceeenaa.P
open Go.RowKit Go.Proofs.Pa.Xb Go.Proofs.Pa.Pd Go.Proofs.Pa.Oe
set_option linter.unusedVariables false
set_option linter.unusedSimpArgs false
theorem Qf (a b c:Int):Ev (fun _=>Za.f a b c) (Pk a b c):=Ev.here (VI a b c)
theorem Q2 (t:ByteArray):Ev (fun k=>Ge.f k ([(⟨#[61,61]⟩:ByteArray),(⟨#[60]⟩:ByteArray),(⟨#[38]⟩:ByteArray),(⟨#[43]⟩:ByteArray),(⟨#[45]⟩:ByteArray),(⟨#[42]⟩:ByteArray)]:List ByteArray) t) (dx t):=by
 refine ⟨8,fun k hk=>?_⟩;obtain ⟨m,rfl⟩:∃ m,k=m + 8:=⟨k - 8,by omega⟩;unfold Ge.f dx nK;simp only [Ge.l0,List.any_cons,List.any_nil]
 by_cases h0:t.toList=[61,61]
 ·simp [Pf,h0]
 by_cases h1:t.toList=[60]
 ·simp [Pf,h1,wrap64]
 by_cases h2:t.toList=[38]
 ·simp [Pf,h2,wrap64]
 by_cases h3:t.toList=[43]
 ·simp [Pf,h3,wrap64]
 by_cases h4:t.toList=[45]
 ·simp [Pf,h4,wrap64]
 by_cases h5:t.toList=[42]
 ·simp [Pf,h5,wrap64]
 simp [Pf,Ne.symm h0,Ne.symm h1,Ne.symm h2,Ne.symm h3,Ne.symm h4,Ne.symm h5,h0,h1,h2,h3,h4,h5,wrap64]
theorem yK (s d:Int):Pk d 0 (s - 1)=Lk s d:=by
 unfold Pk Lk;rw [Bool.eq_iff_iff];simp;omega
def AF (D A B C M:Bool) (o d a b n:Int) (t:ByteArray):Bool :=
 if o=0 then D && (a == 0 && b == 0)
 else if o=1 then D && (A && (b == 0 && n == 0))
 else if o=2 then D && (A && (B && (n == 0 && dx t)))
 else if o=3 then D && M
 else if o=4 then d == 0 && (M && C)
 else if o=5 then D && (a == 0 && (b == 0 && n == 0))
 else if o=6 then d == 0 && (A && (b == 0 && n == 0))
 else false
theorem Ev.yz {b:Bool} {f:Nat→Option Bool} {r:Bool} (hf:b=true→Ev f r):Ev (fun n=>if b=true then f n else some false) (b && r):=by
 cases b with
 | true=>exact Ev.pos rfl (hf rfl)
 | false=>exact Ev.neg (by simp) (Ev.now _)
theorem Ev.wE {c:Prop} [Decidable c] {f:Nat→Option Bool} {r:Bool} (hf:c→Ev f r):Ev (fun n=>if c then f n else some false) (decide c && r):=by
 by_cases h:c
 ·rw [decide_eq_true h];exact Ev.pos h (hf h)
 ·rw [decide_eq_false h];exact Ev.neg h (Ev.now _)
section
variable {l0:List Int} {p v s:Int} {l4:List Ke} {o d a b c n:Int} {t:ByteArray}
theorem oJ (D A B M:Bool) (x:Bool) (hs:0 ≤ s) (hs':s ≤ 1000):Ev (fun k=>jb.j1 k D A B M x l0 p v s l4 o d a b c n t) (!x && AF D A B (Lk s c) M o d a b n t):=by
 refine Ev.step (fun k=>by rw [jb.j1]) ?_;cases x with
 | true=>exact Ev.pos rfl (Ev.now _)
 | false =>
  refine Ev.neg (by simp) ?_;rw [Bool.not_false,Bool.true_and];unfold AF
  by_cases h0:o=0
  ·rw [if_pos h0];exact Ev.pos h0 (Ev.yz fun _=>Ev.wE fun _=>Ev.now _)
  rw [if_neg h0];refine Ev.neg h0 ?_
  by_cases h1:o=1
  ·rw [if_pos h1];exact Ev.pos h1 (Ev.yz fun _=>Ev.yz fun _=>Ev.wE fun _=>Ev.now _)
  rw [if_neg h1];refine Ev.neg h1 ?_
  by_cases h2:o=2
  ·rw [if_pos h2];exact Ev.pos h2 (Ev.yz fun _=>Ev.yz fun _=>Ev.yz fun _=>Ev.wE fun _=>Ev.bind (Q2 t) (Ev.now _))
  rw [if_neg h2];refine Ev.neg h2 ?_
  by_cases h3:o=3
  ·rw [if_pos h3,if_pos h3];exact (Ev.yz fun _=>Ev.now _)
  rw [if_neg h3,if_neg h3]
  by_cases h4:o=4
  ·rw [if_pos h4,if_pos h4];refine (Ev.wE fun _=>Ev.yz fun _=>?_);rw [Ai (x:=s - 1) (by omega) (by omega),← yK];exact Ev.bind (Qf _ _ _) (Ev.now _)
  rw [if_neg h4,if_neg h4]
  by_cases h5:o=5
  ·rw [if_pos h5,if_pos h5];exact (Ev.yz fun _=>Ev.wE fun _=>Ev.wE fun _=>Ev.now _)
  rw [if_neg h5,if_neg h5]
  by_cases h6:o=6
  ·rw [if_pos h6,if_pos h6];exact (Ev.wE fun _=>Ev.yz fun _=>Ev.wE fun _=>Ev.now _)
  rw [if_neg h6,if_neg h6];exact Ev.now _
theorem Kn (M:Bool) (hM:M=((Lk s a || a == -1) && (Lk s b && Pk n 0 ((l0.length:Int) - 1)))) (hs:0 ≤ s) (hs':s ≤ 1000):Ev (fun k=>jb.j0 k (Lk s d) (Lk s a) (Lk s b) M l0 p v s l4 o d a b c n t) (Vl l0.length s o d a b c n t):=by
 refine Ev.step (fun k=>by rw [jb.j0]) ?_
 have key:∀ x:Bool,(x=if o=2 then (c != 0) else if t.toList=[] then (if o=4 then false else (c != 0)) else true)→Ev (fun k=>jb.j1 k (Lk s d) (Lk s a) (Lk s b) M x l0 p v s l4 o d a b c n t) (Vl l0.length s o d a b c n t):=by
  intro x hx
  have e:Vl l0.length s o d a b c n t=(!x && AF (Lk s d) (Lk s a) (Lk s b) (Lk s c) M o d a b n t):=by
   subst hM;subst hx;unfold Vl AF
   by_cases h0:o=0
   ·subst h0;rw [Bool.eq_iff_iff]
    by_cases ht:t.toList=[] <;> simp [ht]
    all_goals (constructor <;> intro h <;> simp_all)
   by_cases h1:o=1
   ·subst h1;rw [Bool.eq_iff_iff]
    by_cases ht:t.toList=[] <;> simp [ht]
    all_goals (constructor <;> intro h <;> simp_all)
   by_cases h2:o=2
   ·subst h2;rw [Bool.eq_iff_iff];simp
    constructor <;> intro h <;> simp_all
   by_cases h3:o=3
   ·subst h3;rw [Bool.eq_iff_iff]
    by_cases ht:t.toList=[] <;> simp [ht]
    all_goals (constructor <;> intro h <;> simp_all)
   by_cases h4:o=4
   ·subst h4;rw [Bool.eq_iff_iff]
    by_cases ht:t.toList=[] <;> simp [ht]
    all_goals (constructor <;> intro h <;> simp_all)
   by_cases h5:o=5
   ·subst h5;rw [Bool.eq_iff_iff]
    by_cases ht:t.toList=[] <;> simp [ht]
    all_goals (constructor <;> intro h <;> simp_all)
   by_cases h6:o=6
   ·subst h6;rw [Bool.eq_iff_iff]
    by_cases ht:t.toList=[] <;> simp [ht]
    all_goals (constructor <;> intro h <;> simp_all)
   simp [h0,h1,h2,h3,h4,h5,h6]
  rw [e];exact oJ _ _ _ _ _ hs hs'
 by_cases h2:o=2
 ·exact Ev.pos h2 (Ev.neg (by omega) (key _ (by rw [if_pos h2])))
 ·refine Ev.neg h2 ?_
  by_cases ht:t.toList=([]:List UInt8)
  ·refine Ev.pos ht ?_
   by_cases h4:o=4
   ·exact Ev.pos h4 (key _ (by rw [if_neg h2,if_pos ht,if_pos h4]))
   ·exact Ev.neg h4 (key _ (by rw [if_neg h2,if_pos ht,if_neg h4]))
  ·exact Ev.neg ht (key _ (by rw [if_neg h2,if_neg ht]))
theorem sD (hs:0 ≤ s) (hs':s ≤ 1000) (hl:l0.length ≤ 1048576):Ev (fun k=>jb.f k l0 p v s l4 o d a b c n t) (Vl l0.length s o d a b c n t):=by
 unfold jb.f;rw [Ai (x:=s - 1) (by omega) (by omega),Ai (x:=(l0.length:Int) - 1) (by omega) (by omega)];refine Ev.bind (Qf _ _ _) (Ev.bind (Qf _ _ _) (Ev.bind (Qf _ _ _) ?_));simp only [yK];cases ha:Lk s a with
 | true =>
  refine Ev.pos rfl ?_;cases hb:Lk s b with
  | true=>exact Ev.pos rfl (Ev.bind (Qf _ _ _) (by have:=Kn (l0:=l0) (p:=p) (v:=v) (s:=s) (l4:=l4) (o:=o) (d:=d) (a:=a) (b:=b) (c:=c) (n:=n) (t:=t) (Pk n 0 ((l0.length:Int) - 1)) (by simp [ha,hb]) hs hs';rw [ha,hb] at this;exact this))
  | false=>exact Ev.neg (by simp) (by have:=Kn (l0:=l0) (p:=p) (v:=v) (s:=s) (l4:=l4) (o:=o) (d:=d) (a:=a) (b:=b) (c:=c) (n:=n) (t:=t) false (by simp [hb]) hs hs';rw [ha,hb] at this;exact this)
 | false =>
  refine Ev.neg (by simp) ?_
  by_cases h1:a = -1
  ·refine Ev.pos h1 ?_;cases hb:Lk s b with
   | true=>exact Ev.pos rfl (Ev.bind (Qf _ _ _) (by have:=Kn (l0:=l0) (p:=p) (v:=v) (s:=s) (l4:=l4) (o:=o) (d:=d) (a:=a) (b:=b) (c:=c) (n:=n) (t:=t) (Pk n 0 ((l0.length:Int) - 1)) (by simp [h1,hb]) hs hs';rw [ha,hb] at this;exact this))
   | false=>exact Ev.neg (by simp) (by have:=Kn (l0:=l0) (p:=p) (v:=v) (s:=s) (l4:=l4) (o:=o) (d:=d) (a:=a) (b:=b) (c:=c) (n:=n) (t:=t) false (by simp [hb]) hs hs';rw [ha,hb] at this;exact this)
  ·exact Ev.neg h1 (by have:=Kn (l0:=l0) (p:=p) (v:=v) (s:=s) (l4:=l4) (o:=o) (d:=d) (a:=a) (b:=b) (c:=c) (n:=n) (t:=t) false (by simp [ha,h1]) hs hs';rw [ha] at this;exact this)
theorem qL (code:List lg) (j ba tg els:Int) (hs:0 ≤ s) (hs':s ≤ 1000) (hl:l0.length ≤ 1048576) (I1:l4.length ≤ 1048576) (hc:code.length ≤ 1048576):Ev (fun k=>oc.f k l0 p v s l4 code j ba tg els) (Uj l0.length s l4.length code j ba tg els):=by
 unfold oc.f;have key:=sL (n:=code.length) (R:=(if j=0 then Pk tg 0 ((l4.length:Int) - 1) && ba == 0 && els == 0 else if j=1 then Pk tg 0 ((l4.length:Int) - 1) && Pk els 0 ((l4.length:Int) - 1) && Lk s ba else if j=2 then Lk s ba && tg == 0 && els == 0 else false)) (e:=false) (fun i=>Wm l0.length s (code.getD i DE)=true) (fun i k=>oc.l0 k (i:Int) l0 p v s l4 code j ba tg els) ?_ ?_ ?_
 ·have e:(bif lB code.length (fun i=>Wm l0.length s (code.getD i DE)=true) then (if j=0 then Pk tg 0 ((l4.length:Int) - 1) && ba == 0 && els == 0 else if j=1 then Pk tg 0 ((l4.length:Int) - 1) && Pk els 0 ((l4.length:Int) - 1) && Lk s ba else if j=2 then Lk s ba && tg == 0 && els == 0 else false) else false)=Uj l0.length s l4.length code j ba tg els:=by
   rw [FA];unfold Uj;rw [decide_eq_true hs,Bool.and_true];cases (!(code.any fun x=>!Wm l0.length s x)) <;> rfl
  rw [e] at key;exact key
 ·refine Ev.step (fun k=>by rw [oc.l0]) (Ev.neg (by omega) ?_);rw [Ai (x:=s - 1) (by omega) (by omega),Ai (x:=(l4.length:Int) - 1) (by omega) (by omega)];refine Ev.bind (Qf _ _ _) (Ev.bind (Qf _ _ _) ?_);rw [yK s ba]
  by_cases h0:j=0
  ·rw [if_pos h0,if_pos h0,Bool.and_assoc];exact Ev.yz fun _=>Ev.wE fun _=>Ev.now _
  rw [if_neg h0,if_neg h0]
  by_cases h1:j=1
  ·rw [if_pos h1,if_pos h1,Bool.and_assoc,Bool.and_comm (Pk els 0 ((l4.length:Int) - 1))];exact Ev.yz fun _=>Ev.yz fun _=>Ev.bind (Qf _ _ _) (Ev.now _)
  rw [if_neg h1,if_neg h1]
  by_cases h2:j=2
  ·rw [if_pos h2,if_pos h2,Bool.and_assoc];exact Ev.yz fun _=>Ev.wE fun _=>Ev.now _
  rw [if_neg h2,if_neg h2];exact Ev.now _
 ·intro i hi hp r hr;refine Ev.step (fun k=>by rw [oc.l0]) (Ev.pos (by omega) (Ev.pos (by omega) ?_));refine Ev.bind (sD hs hs' hl) ?_;have hq:Vl l0.length s (Ua code (i:Int)).f0 (Ua code (i:Int)).f1 (Ua code (i:Int)).f2 (Ua code (i:Int)).f3 (Ua code (i:Int)).f4 (Ua code (i:Int)).f5 (Ua code (i:Int)).f6=true:=hp;refine Ev.pos hq ?_;rw [Zd hi (by omega)];exact hr
 ·intro i hi hp;refine Ev.step (fun k=>by rw [oc.l0]) (Ev.pos (by omega) (Ev.pos (by omega) ?_));refine Ev.bind (sD hs hs' hl) ?_;exact Ev.neg hp (Ev.now _)
end
def Vd (l:List Ke):Nat:=(l.map fun x=>x.f0.length).sum
def lA (l0:List Int) (p v s:Int) (n4:Nat):Bool:=Gw l0 p v && Pk s v 1000 && Pk (n4:Int) 1 300
def Sp (l0:List Int) (s:Int) (l4:List Ke) (x:Ke):Bool:=Uj l0.length s l4.length x.f0 x.f1 x.f2 x.f3 x.f4
def ql (l0:List Int) (p v s:Int) (l4:List Ke):Bool:=lA l0 p v s l4.length && (!(l4.any fun x=>!Sp l0 s l4 x) && decide (Vd l4 ≤ 1000))
theorem ax (l:List Ke) (i:Nat) (h:i < l.length):Vd (l.take (i + 1))=Vd (l.take i) + l[i].f0.length:=by
 unfold Vd;rw [List.take_succ_eq_append_getElem h,List.map_append,List.sum_append];simp
theorem MC (l:List Nat) (i:Nat):(l.take i).sum ≤ l.sum:=by
 conv=>rhs;rw [← List.take_append_drop i l]
 rw [List.sum_append];omega
theorem NC (l:List Ke) (i:Nat):Vd (l.take i) ≤ Vd l:=by
 unfold Vd;rw [List.map_take];exact MC _ _
theorem kA {l0:List Int} {p v s:Int} {n4:Nat} (h:lA l0 p v s n4=true):1 ≤ l0.length∧l0.length ≤ 4∧0 ≤ p∧p ≤ v∧p ≤ 6∧v ≤ 20∧v ≤ s∧s ≤ 1000∧1 ≤ n4∧n4 ≤ 300:=by
 unfold lA Gw Pk at h;simp only [Bool.and_eq_true,decide_eq_true_eq] at h;obtain ⟨⟨⟨⟨⟨⟨h1,h2⟩,_⟩,h3,h4⟩,h5⟩,h6,h7⟩,h8,h9⟩:=h
 split at h4 <;> omega
section
variable {l0:List Int} {p v s:Int} {l4:List Ke}
theorem Nw (h0:l0.length ≤ 1048576) (I1:l4.length ≤ 1048576) (ht:Vd l4 ≤ 1048576):Ev (fun k=>Yb.f k l0 p v s l4) (ql l0 p v s l4):=by
 unfold Yb.f Cg.f;simp only [List.length_nil,if_true];refine Ev.val ?_
 have no:∀ {r:Bool},r=false→Ev (fun k=>Yb.j0 k true l0 p v s l4) r:=by
  intro r hr;subst hr;exact Ev.step (fun k=>by rw [Yb.j0]) (Ev.pos rfl (Ev.now _))
 unfold ql lA;cases hp:Gw l0 p v with
 | false=>exact Ev.neg (by simp) (no (by simp))
 | true =>
  refine Ev.pos rfl (Ev.bind (Ev.here (eD _ _ _)) ?_);cases hv:Pk s v 1000 with
  | false=>exact Ev.neg (by simp) (no (by simp))
  | true =>
   refine Ev.pos rfl (Ev.bind (Ev.here (eD _ _ _)) ?_);cases hn:Pk (l4.length:Int) 1 300 with
   | false=>exact no (by simp)
   | true =>
    refine Ev.step (fun k=>by rw [Yb.j0]) (Ev.neg (by simp) ?_);simp only [Bool.true_and];have key:=sL (n:=l4.length) (R:=decide (Vd l4 ≤ 1000)) (e:=false) (fun i=>Sp l0 s l4 (l4.getD i WJ)=true) (fun i k=>Yb.l0 k (Vd (l4.take i):Int) l4 (l4.length:Int) (i:Int) l0 p v s l4) ?_ ?_ ?_
    ·have e:(bif lB l4.length (fun i=>Sp l0 s l4 (l4.getD i WJ)=true) then decide (Vd l4 ≤ 1000) else false)=(!(l4.any fun x=>!Sp l0 s l4 x) && decide (Vd l4 ≤ 1000)):=by
      rw [FA];cases (!(l4.any fun x=>!Sp l0 s l4 x)) <;> rfl
     rw [e] at key
     simpa [Vd] using key
    ·refine Ev.step (fun k=>by rw [Yb.l0]) (Ev.neg (by omega) ?_);rw [List.take_length]
     have e:decide ((Vd l4:Int) ≤ 1000)=decide (Vd l4 ≤ 1000):=by
      rw [Bool.eq_iff_iff,decide_eq_true_iff,decide_eq_true_iff];omega
     rw [e];exact Ev.now _
    ·intro i hi hq r hr;refine Ev.step (fun k=>by rw [Yb.l0]) (Ev.pos (by omega) (Ev.pos (by omega) (Ev.pos (by omega) ?_)));unfold qj.f;have hq':Uj l0.length s l4.length (Ea l4 (i:Int)).f0 (Ea l4 (i:Int)).f1 (Ea l4 (i:Int)).f2 (Ea l4 (i:Int)).f3 (Ea l4 (i:Int)).f4=true:=hq;refine Ev.val (Ev.pos hq' ?_);have h1:=ax l4 i hi;have h2:=NC l4 (i + 1);rw [Qh hi,Zd hi (by omega),Ai (x:=(Vd (l4.take i):Int) + (l4[i].f0.length:Int)) (by omega) (by omega),show (Vd (l4.take i):Int) + (l4[i].f0.length:Int)=(Vd (l4.take (i + 1)):Int) from by omega];exact hr
    ·intro i hi hq;refine Ev.step (fun k=>by rw [Yb.l0]) (Ev.pos (by omega) (Ev.pos (by omega) (Ev.pos (by omega) ?_)));unfold qj.f;exact Ev.val (Ev.neg hq (Ev.now _))
theorem Ow (h0:l0.length ≤ 1048576) (I1:l4.length ≤ 1048576) (ht:Vd l4 ≤ 1048576):Ev (fun k=>Xa.f k l0 p v s l4) (ql l0 p v s l4):=by
 unfold Xa.f
 have no:∀ {r:Bool},r=false→Ev (fun k=>Xa.j1 k true l0 p v s l4) r:=by
  intro r hr;subst hr;exact Ev.step (fun k=>by rw [Xa.j1]) (Ev.pos rfl (Ev.now _))
 have key:=sL (n:=l0.length) (R:=Pk (l0.length:Int) 1 4 && (Pk v 0 20 && (Pk p 0 6 && (decide (p ≤ v) && (Pk s v 1000 && (Pk (l4.length:Int) 1 300 && (!(l4.any fun x=>!Sp l0 s l4 x) && decide (Vd l4 ≤ 1000)))))))) (e:=false) (fun i=>Pk (l0.getD i 0) 1 16=true) (fun i k=>Xa.l0 k (i:Int) l0 p v s l4) ?_ ?_ ?_
 ·have e:(bif lB l0.length (fun i=>Pk (l0.getD i 0) 1 16=true) then (Pk (l0.length:Int) 1 4 && (Pk v 0 20 && (Pk p 0 6 && (decide (p ≤ v) && (Pk s v 1000 && (Pk (l4.length:Int) 1 300 && (!(l4.any fun x=>!Sp l0 s l4 x) && decide (Vd l4 ≤ 1000)))))))) else false)=ql l0 p v s l4:=by
   rw [FA l0 0 (fun x=>Pk x 1 16)];unfold ql lA Gw;rw [Bool.eq_iff_iff];cases (!(l0.any fun x=>!Pk x 1 16))
   ·simp
   ·simp only [cond_true,Bool.and_eq_true,Pk,decide_eq_true_eq,and_assoc,true_and]
    constructor
    ·rintro ⟨h1,h2,h3,h4,h5,h6,h7,h8⟩;refine ⟨h1,h2,h5,?_,h4,h8⟩
     split <;> omega
    ·rintro ⟨h1,h2,h5,h6,h4,h7,h8,h9⟩;refine ⟨h1,h2,?_⟩
     split at h6 <;> exact ⟨by omega,by omega,by omega,by omega,by omega,h7,h8,h9⟩
  rw [e] at key;exact key
 ·refine Ev.step (fun k=>by rw [Xa.l0]) (Ev.neg (by omega) ?_);refine Ev.bind (Qf _ _ _) ?_;cases hb0:Pk (l0.length:Int) 1 4 with
  | false=>exact Ev.neg (by simp) (no (by simp))
  | true =>
   refine Ev.pos rfl (Ev.bind (Qf _ _ _) ?_);cases yA:Pk v 0 20 with
   | false=>exact Ev.neg (by simp) (no (by simp))
   | true =>
    refine Ev.pos rfl (Ev.bind (Qf _ _ _) ?_);cases ni:Pk p 0 6 with
    | false=>exact Ev.neg (by simp) (no (by simp))
    | true =>
     refine Ev.pos rfl ?_
     by_cases hpv:p > v
     ·refine Ev.pos hpv (no ?_);rw [decide_eq_false (show ¬ p ≤ v from by omega)];simp
     ·refine Ev.neg hpv (Ev.bind (Qf _ _ _) ?_);rw [decide_eq_true (show p ≤ v from by omega)];cases hb3:Pk s v 1000 with
      | false=>exact Ev.neg (by simp) (no (by simp))
      | true =>
       refine Ev.pos rfl (Ev.bind (Qf _ _ _) ?_);cases hb4:Pk (l4.length:Int) 1 300 with
       | false=>exact no (by simp)
       | true =>
        refine Ev.step (fun k=>by rw [Xa.j1]) (Ev.neg (by simp) ?_);simp only [Bool.true_and];have hs0:0 ≤ s∧s ≤ 1000:=by simp [Pk] at yA hb3;omega
        have key:=Am (r:=true) (n:=l4.length) (fun i=>Vd (l4.take i) ≤ 1000→Ev (fun k=>Xa.l1 k (Vd (l4.take i):Int) (i:Int) l0 p v s l4) (!((l4.drop i).any fun x=>!Sp l0 s l4 x) && decide (Vd l4 ≤ 1000))) ?_ ?_ 0 (by omega) (by simp [Vd])
        ·rw [List.drop_zero] at key
         simpa [Vd] using key
        ·intro h;rw [List.take_length] at h;refine Ev.step (fun k=>by rw [Xa.l1]) (Ev.neg (by omega) ?_);rw [List.drop_length,decide_eq_true h];exact Ev.now _
        ·intro i hi ih h;have h1:=ax l4 i hi;have h2:=NC l4 (i + 1);refine Ev.step (fun k=>by rw [Xa.l1]) (Ev.pos (by omega) (Ev.pos (by omega) ?_));rw [Qh hi,Ai (x:=(Vd (l4.take i):Int) + (l4[i].f0.length:Int)) (by omega) (by omega),show (Vd (l4.take i):Int) + (l4[i].f0.length:Int)=(Vd (l4.take (i + 1)):Int) from by omega]
         have hd:((l4.drop i).any fun x=>!Sp l0 s l4 x)=(!Sp l0 s l4 l4[i] || (l4.drop (i + 1)).any fun x=>!Sp l0 s l4 x):=by
          rw [List.drop_eq_getElem_cons hi,List.any_cons]
         rw [hd]
         by_cases hgt:(Vd (l4.take (i + 1)):Int) > 1000
         ·rw [decide_eq_false (show ¬ Vd l4 ≤ 1000 from by omega),Bool.and_false];exact Ev.pos hgt (Ev.now _)
         ·refine Ev.neg hgt (Ev.bind (qL _ _ _ _ _ hs0.1 hs0.2 h0 I1 (by omega)) ?_);cases hq:Sp l0 s l4 l4[i] with
          | false =>
           have hq':¬ Uj l0.length s l4.length l4[i].f0 l4[i].f1 l4[i].f2 l4[i].f3 l4[i].f4=true:=by
            have e:Uj l0.length s l4.length l4[i].f0 l4[i].f1 l4[i].f2 l4[i].f3 l4[i].f4=false:=hq;rw [e];simp
           exact Ev.neg hq' (Ev.now _)
          | true =>
           have hq':Uj l0.length s l4.length l4[i].f0 l4[i].f1 l4[i].f2 l4[i].f3 l4[i].f4=true:=hq;refine Ev.pos hq' ?_;rw [Zd hi (by omega),Bool.not_true,Bool.false_or];exact ih (by omega)
 ·intro i hi hq r hr;refine Ev.step (fun k=>by rw [Xa.l0]) (Ev.pos (by omega) (Ev.pos (by omega) ?_));refine Ev.bind (Qf _ _ _) (Ev.pos hq ?_);rw [Zd hi (by omega)];exact hr
 ·intro i hi hq;refine Ev.step (fun k=>by rw [Xa.l0]) (Ev.pos (by omega) (Ev.pos (by omega) ?_));exact Ev.bind (Qf _ _ _) (Ev.neg hq (Ev.now _))
end
end Go.Proofs.Ytkigbdceceeenaa.P
end
section
namespace Go.Proofs.Ytkigbdceceeenaa.P
open Go.RowKit Go.Proofs.Pa.Xb Go.Proofs.Pa.Pd Go.Proofs.Pa.Oe
set_option linter.unusedVariables false
set_option linter.unusedSimpArgs false
theorem lp {l:List Int} {j:Nat} (hj:j < l.length):rd l (j:Int)=l[j]:=by simp [rd,List.getD_eq_getElem?_getD,hj]
def eJ (b:Ke):List Int:=if b.f1=0 then [b.f3] else if b.f1=1 then [b.f3,b.f4] else []
theorem fQ (b:Ke):Gl.f b.f0 b.f1 b.f2 b.f3 b.f4=some (eJ b):=by
 unfold Gl.f eJ
 by_cases h0:b.f1=0
 ·rw [if_pos h0,if_pos h0]
 ·rw [if_neg h0,if_neg h0]
  by_cases h1:b.f1=1
  ·rw [if_pos h1,if_pos h1]
  ·rw [if_neg h1,if_neg h1]
theorem dQ (b:Ke):Gk.f b.f0 b.f1 b.f2 b.f3 b.f4=some (eJ b):=by
 unfold Gk.f eJ
 by_cases h0:b.f1=0
 ·rw [if_pos h0,if_pos h0]
 ·rw [if_neg h0,if_neg h0]
  by_cases h1:b.f1=1
  ·rw [if_pos h1,if_pos h1]
  ·rw [if_neg h1,if_neg h1]
theorem dJ (b:Ke):(eJ b).length ≤ 2:=by
 unfold eJ
 by_cases h0:b.f1=0
 ·rw [if_pos h0];simp
 ·rw [if_neg h0]
  by_cases h1:b.f1=1
  ·rw [if_pos h1];simp
  ·rw [if_neg h1];simp
def Jr (bs:List Ke) (i:Nat):List Int:=eJ (Ea bs (i:Int))
def Lz (bs:List Ke):Prop:=0 < bs.length∧bs.length ≤ 1048576∧∀ i,i < bs.length→∀ j ∈ Jr bs i,0 ≤ j∧j < (bs.length:Int)
theorem BL {l0:List Int} {p v s:Int} {bs:List Ke} (h:ql l0 p v s bs=true):Lz bs:=by
 unfold ql at h;simp only [Bool.and_eq_true] at h;obtain ⟨h1,h2,-⟩:=h;have hh:=kA h1;refine ⟨by omega,by omega,fun i hi j hj=>?_⟩
 have hb:Sp l0 s bs bs[i]=true:=by
  simp only [Bool.not_eq_true',List.any_eq_false] at h2;have:=h2 _ (List.getElem_mem hi)
  simpa using this
 unfold Sp Uj at hb;simp only [Bool.and_eq_true] at hb;obtain ⟨-,hb⟩:=hb;unfold Jr at hj;rw [Qh hi] at hj;unfold eJ at hj
 by_cases h0:bs[i].f1=0
 ·rw [if_pos h0] at hj hb;simp only [Bool.and_eq_true,Pk,decide_eq_true_eq] at hb;rw [List.mem_singleton] at hj;subst hj;omega
 ·rw [if_neg h0] at hj hb
  by_cases h1:bs[i].f1=1
  ·rw [if_pos h1] at hj hb;simp only [Bool.and_eq_true,Pk,decide_eq_true_eq] at hb;simp only [List.mem_cons,List.not_mem_nil,or_false] at hj
   rcases hj with hj|hj <;> subst hj <;> omega
  ·rw [if_neg h1] at hj;cases hj
def seen (s:List Bool) (j:Nat):Bool:=s.getD j false
theorem bk (s:List Bool) (j:Nat):Pf false s (j:Int)=seen s j:=rfl
theorem Zk {s:List Bool} {j:Nat} (h:seen s j=true):j < s.length:=by
 unfold seen at h
 rcases Nat.lt_or_ge j s.length with h'|h'
 ·exact h'
 ·rw [List.getD_eq_getElem?_getD,List.getElem?_eq_none h'] at h;simp at h
def news (s:List Bool):Nat:=s.count false
def Shut (nx:Nat→List Int) (s:List Bool) (q:List Int) (i:Nat):Prop:=∀ j,seen s j=true→(j:Int) ∉ q→j ≠ i→∀ m ∈ nx j,seen s m.toNat=true
theorem PC {s t:List Bool} (hl:s.length=t.length) (h:∀ j,seen s j=true ↔ seen t j=true):s=t:=by
 apply List.ext_getElem hl;intro i h1 h2;have:=h i;unfold seen at this;rw [List.getD_eq_getElem?_getD,List.getElem?_eq_getElem h1,List.getD_eq_getElem?_getD,List.getElem?_eq_getElem h2] at this;simp only [Option.getD_some] at this;exact Bool.eq_iff_iff.mpr this
theorem Uz (n j:Nat):seen (List.replicate n false) j=false:=by
 unfold seen;rw [List.getD_eq_getElem?_getD,List.getElem?_replicate]
 by_cases h:j < n
 ·rw [if_pos h];rfl
 ·rw [if_neg h];rfl
def Li (x:lg):List Int :=
 if x.f0=1 ∨ x.f0=6 then [x.f2] else if x.f0=2 then [x.f2,x.f3] else if x.f0=3 ∨ x.f0=4 then [x.f3] ++ (if 0 ≤ x.f2 then [x.f2] else []) ++ (if x.f0=4 then [x.f4] else []) else []
def iq (x:lg):Int:=if x.f0=4 then -1 else if x.f0=6 then -1 else x.f1
def yu (n:Nat) (x:lg):Prop:=(∀ u ∈ Li x,0 ≤ u∧u < (n:Int))∧(¬ x.f0=4→¬ x.f0=6→0 ≤ x.f1∧x.f1 < (n:Int))
theorem IE (x:lg):(Li x).length ≤ 3:=by
 unfold Li
 by_cases h1:x.f0=1 ∨ x.f0=6
 ·rw [if_pos h1];simp
 ·rw [if_neg h1]
  by_cases h2:x.f0=2
  ·rw [if_pos h2];simp
  ·rw [if_neg h2]
   by_cases h3:x.f0=3 ∨ x.f0=4
   ·rw [if_pos h3]
    by_cases h4:0 ≤ x.f2
    ·rw [if_pos h4]
     by_cases h5:x.f0=4
     ·rw [if_pos h5];simp
     ·rw [if_neg h5];simp
    ·rw [if_neg h4]
     by_cases h5:x.f0=4
     ·rw [if_pos h5];simp
     ·rw [if_neg h5];simp
   ·rw [if_neg h3];simp
def OC (s:List Bool) (u:Int):List Bool:=s.set u.toNat true
def Em (s:List Bool) (x:lg):List Bool:=(Li x).foldl OC (if iq x ≥ 0 then s.set (iq x).toNat false else s)
def Eh (b:Ke) (s:List Bool):List Bool:=if b.f1=0 then s else s.set b.f2.toNat true
def RA (b:Ke) (s:List Bool):List Bool:=b.f0.foldr (fun x s=>Em s x) (Eh b s)
theorem iw:∀ (l:List Int) (s:List Bool),(l.foldl OC s).length=s.length
 | [],_=>rfl
 | u :: l,s=>by rw [List.foldl_cons,iw l];unfold OC;rw [List.length_set]
theorem UQ (s:List Bool) (x:lg):(Em s x).length=s.length:=by
 unfold Em;rw [iw]
 by_cases h:iq x ≥ 0
 ·rw [if_pos h,List.length_set]
 ·rw [if_neg h]
theorem Uk (b:Ke) (s:List Bool):(Eh b s).length=s.length:=by
 unfold Eh
 by_cases h:b.f1=0
 ·rw [if_pos h]
 ·rw [if_neg h,List.length_set]
theorem EA (l:List lg) (s:List Bool):(l.foldr (fun x s=>Em s x) s).length=s.length:=by
 induction l with
 | nil=>rfl
 | cons x l ih=>rw [List.foldr_cons,UQ,ih]
theorem lq (b:Ke) (s:List Bool):(RA b s).length=s.length:=by
 unfold RA;rw [EA,Uk]
theorem Ti {s:List Bool} {i j:Nat} {b:Bool} (hi:i < s.length):seen (s.set i b) j=if i=j then b else seen s j:=by
 unfold seen;rw [List.getD_eq_getElem?_getD,List.getD_eq_getElem?_getD,List.getElem?_set]
 by_cases h:i=j
 ·rw [if_pos h,if_pos h,if_pos hi];rfl
 ·rw [if_neg h,if_neg h]
def O6 (u:Nat) (x:lg) (b:Bool):Bool:=if (u:Int) ∈ Li x then true else if iq x=(u:Int) then false else b
def pQ (u:Nat) (k:Ke) (b:Bool):Bool:=if k.f1=0 then b else if k.f2=(u:Int) then true else b
def qU (u:Nat) (k:Ke) (b:Bool):Bool:=k.f0.foldr (O6 u) (pQ u k b)
theorem pT {u:Nat} {x:lg} {a b:Bool} (h:a=true→b=true):O6 u x a=true→O6 u x b=true:=by
 unfold O6
 by_cases h1:(u:Int) ∈ Li x
 ·rw [if_pos h1,if_pos h1];exact id
 ·rw [if_neg h1,if_neg h1]
  by_cases h2:iq x=(u:Int)
  ·rw [if_pos h2,if_pos h2];exact id
  ·rw [if_neg h2,if_neg h2];exact h
theorem xu {u:Nat} {k:Ke} {a b:Bool} (h:a=true→b=true):qU u k a=true→qU u k b=true:=by
 unfold qU
 have he:pQ u k a=true→pQ u k b=true:=by
  unfold pQ
  by_cases h1:k.f1=0
  ·rw [if_pos h1,if_pos h1];exact h
  ·rw [if_neg h1,if_neg h1]
   by_cases h2:k.f2=(u:Int)
   ·rw [if_pos h2,if_pos h2];exact id
   ·rw [if_neg h2,if_neg h2];exact h
 induction k.f0 with
 | nil=>exact he
 | cons x l ih=>exact pT ih
theorem ru:∀ (l:List Int) (s:List Bool) (u:Nat),(∀ a ∈ l,0 ≤ a∧a < (s.length:Int))→seen (l.foldl OC s) u=(decide ((u:Int) ∈ l) || seen s u)
 | [],s,u,_=>by simp
 | a :: l,s,u,h=>by
  obtain ⟨a0,a1⟩:=h a (by simp);rw [List.foldl_cons,ru l (OC s a) u (fun c hc=>by unfold OC;rw [List.length_set];exact h c (by simp [hc]))];unfold OC;rw [Ti (by omega)]
  by_cases e:a.toNat=u
  ·rw [if_pos e,decide_eq_true (show (u:Int) ∈ a :: l from List.mem_cons.2 (Or.inl (by omega)))];simp
  ·rw [if_neg e]
   have:(u:Int) ∈ a :: l ↔ (u:Int) ∈ l:=by
    rw [List.mem_cons];exact ⟨fun h=>h.resolve_left (by omega),Or.inr⟩
   rw [decide_eq_decide.2 this]
theorem TL {s:List Bool} {x:lg} {u:Nat} (hx:yu s.length x):seen (Em s x) u=O6 u x (seen s u):=by
 obtain ⟨h1,h2⟩:=hx;unfold Em O6
 have hm:iq x ≥ 0→(iq x).toNat < s.length:=by
  unfold iq;intro h
  by_cases h4:x.f0=4
  ·rw [if_pos h4] at h;omega
  ·rw [if_neg h4] at h ⊢
   by_cases h6:x.f0=6
   ·rw [if_pos h6] at h;omega
   ·rw [if_neg h6] at h ⊢;have:=h2 h4 h6;omega
 have hlen:(if iq x ≥ 0 then s.set (iq x).toNat false else s).length=s.length:=by
  by_cases h:iq x ≥ 0
  ·rw [if_pos h,List.length_set]
  ·rw [if_neg h]
 rw [ru _ _ _ (fun a ha=>by rw [hlen];exact h1 a ha)]
 by_cases hu:(u:Int) ∈ Li x
 ·rw [if_pos hu,decide_eq_true hu];rfl
 ·rw [if_neg hu,decide_eq_false hu,Bool.false_or]
  by_cases h:iq x ≥ 0
  ·rw [if_pos h,Ti (hm h)]
   by_cases e:iq x=(u:Int)
   ·rw [if_pos e,if_pos (by omega)]
   ·rw [if_neg e,if_neg (by omega)]
  ·rw [if_neg h,if_neg (by omega)]
def Gu (n:Nat) (b:Ke):Prop:=b.f0.length ≤ 1048576∧(¬ b.f1=0→0 ≤ b.f2∧b.f2 < (n:Int))∧∀ x ∈ b.f0,yu n x
theorem oQ {s:List Bool} {b:Ke} {u:Nat} (hb:¬ b.f1=0→0 ≤ b.f2∧b.f2 < (s.length:Int)):seen (Eh b s) u=pQ u b (seen s u):=by
 unfold Eh pQ
 by_cases h:b.f1=0
 ·rw [if_pos h,if_pos h]
 ·have:=hb h;rw [if_neg h,if_neg h,Ti (by omega)]
  by_cases e:b.f2=(u:Int)
  ·rw [if_pos e,if_pos (by omega)]
  ·rw [if_neg e,if_neg (by omega)]
theorem wu {s:List Bool} {b:Ke} {u:Nat} (hb:Gu s.length b):seen (RA b s) u=qU u b (seen s u):=by
 unfold RA qU;obtain ⟨_,h2,h3⟩:=hb;have he:=oQ (u:=u) h2;have hl:=Uk b s;generalize Eh b s=s0 at he hl;rw [← he];clear he h2;generalize b.f0=cd at h3 ⊢
 induction cd with
 | nil=>rfl
 | cons x l ih =>
  rw [List.foldr_cons,List.foldr_cons,TL (by rw [EA,hl];exact h3 x (by simp)),ih (fun y hy=>h3 y (by simp [hy]))]
inductive LB (bs:List Ke) (u:Nat):Nat→Prop
 | gen {i:Nat} {t:Int}:t ∈ Jr bs i→qU u (Ea bs t) false=true→LB bs u i
 | step {i:Nat} {t:Int}:t ∈ Jr bs i→qU u (Ea bs t) true=true→LB bs u t.toNat→LB bs u i
noncomputable def Sl (bs:List Ke) (n i:Nat):List Bool:=open Classical in (List.range n).map fun u=>decide (LB bs u i)
noncomputable def De (bs:List Ke) (n:Nat):List (List Bool):=(List.range bs.length).map (Sl bs n)
theorem jj (bs:List Ke) (n i:Nat):(Sl bs n i).length=n:=by simp [Sl]
theorem Zi (bs:List Ke) (n:Nat):(De bs n).length=bs.length:=by simp [De]
theorem xo {bs:List Ke} {n i u:Nat} (hu:u < n):seen (Sl bs n i) u=true ↔ LB bs u i:=by simp [seen,Sl,List.getD_eq_getElem?_getD,hu]
def Zn (bs:List Ke) (n:Nat):Prop:=Lz bs∧n ≤ 1048576∧∀ b ∈ bs,Gu n b
def Sd (X:List (List Bool)) (i:Nat):List Bool:=X.getD i []
theorem Sn {X:List (List Bool)} {i k:Nat} {x:List Bool} (hi:i < X.length):Sd (X.set i x) k=if i=k then x else Sd X k:=by
 unfold Sd;rw [List.getD_eq_getElem?_getD,List.getD_eq_getElem?_getD,List.getElem?_set]
 by_cases h:i=k
 ·rw [if_pos h,if_pos h,if_pos hi];rfl
 ·rw [if_neg h,if_neg h]
structure bE (bs:List Ke) (n:Nat) (X Y:List (List Bool)):Prop where
 xl:X.length=bs.length
 yl:Y.length=bs.length
 xr:∀ i,i < bs.length→(Sd X i).length=n
 yr:∀ i,i < bs.length→(Sd Y i).length=n
 xs:∀ i u,i < bs.length→seen (Sd X i) u=true→LB bs u i
 ys:∀ i u,i < bs.length→seen (Sd Y i) u=true→qU u (Ea bs (i:Int)) (seen (Sd X i) u)=true
section
variable {bs:List Ke} {n:Nat} {X Y:List (List Bool)}
theorem bE.or (h:bE bs n X Y) (hE:Lz bs) {i s:Nat} {t:Int} (hi:i < bs.length) (ht:t ∈ Jr bs i) (hs:s < n):bE bs n (X.set i ((Sd X i).set s (seen (Sd X i) s || seen (Sd Y t.toNat) s))) Y:=by
 obtain ⟨t0,t1⟩:=hE.2.2 i hi t ht;have hil:i < X.length:=by rw [h.xl];exact hi
 have nS:s < (Sd X i).length:=by rw [h.xr i hi];exact hs
 refine ⟨by rw [List.length_set];exact h.xl,h.yl,fun k hk=>?_,h.yr,fun k u hk hu=>?_,fun k u hk hu=>?_⟩
 ·rw [Sn hil]
  by_cases e:i=k
  ·rw [if_pos e,List.length_set];exact h.xr i hi
  ·rw [if_neg e];exact h.xr k hk
 ·rw [Sn hil] at hu
  by_cases e:i=k
  ·subst e;rw [if_pos rfl,Ti nS] at hu
   by_cases e2:s=u
   ·subst e2;rw [if_pos rfl,Bool.or_eq_true] at hu
    rcases hu with hu|hu
    ·exact h.xs i s hk hu
    ·have hy:=h.ys t.toNat s (by omega) hu;rw [Int.toNat_of_nonneg t0] at hy;cases hb:seen (Sd X t.toNat) s with
     | false=>rw [hb] at hy;exact LB.gen ht hy
     | true=>rw [hb] at hy;exact LB.step ht hy (h.xs t.toNat s (by omega) hb)
   ·rw [if_neg e2] at hu;exact h.xs i u hk hu
  ·rw [if_neg e] at hu;exact h.xs k u hk hu
 ·have hy:=h.ys k u hk hu;rw [Sn hil]
  by_cases e:i=k
  ·subst e;rw [if_pos rfl,Ti nS]
   by_cases e2:s=u
   ·subst e2;rw [if_pos rfl];exact xu (fun hb=>by rw [hb];rfl) hy
   ·rw [if_neg e2];exact hy
  ·rw [if_neg e];exact hy
theorem bE.put (h:bE bs n X Y) (hO:Zn bs n) {i:Nat} (hi:i < bs.length):bE bs n X (Y.set i (RA (Ea bs (i:Int)) (Sd X i))):=by
 have hil:i < Y.length:=by rw [h.yl];exact hi
 have hb:Gu n (Ea bs (i:Int)):=by rw [Qh hi];exact hO.2.2 _ (List.getElem_mem hi)
 refine ⟨h.xl,by rw [List.length_set];exact h.yl,h.xr,fun k hk=>?_,h.xs,fun k u hk hu=>?_⟩
 ·rw [Sn hil]
  by_cases e:i=k
  ·rw [if_pos e,lq];exact h.xr i hi
  ·rw [if_neg e];exact h.yr k hk
 ·rw [Sn hil] at hu
  by_cases e:i=k
  ·subst e;rw [if_pos rfl,wu (by rw [h.xr i hi];exact hb)] at hu;exact hu
  ·rw [if_neg e] at hu;exact h.ys k u hk hu
def StE (bs:List Ke) (X Y:List (List Bool)) (i:Nat):Prop:=(∀ t ∈ Jr bs i,∀ u,seen (Sd Y t.toNat) u=true→seen (Sd X i) u=true)∧Sd Y i=RA (Ea bs (i:Int)) (Sd X i)
theorem bE.done (h:bE bs n X Y) (hO:Zn bs n) (hst:∀ i,i < bs.length→StE bs X Y i):X=De bs n:=by
 have hE:=hO.1
 have key:∀ u i,LB bs u i→i < bs.length→seen (Sd X i) u=true:=by
  intro u i hl
  have turn:∀ (i:Nat) (t:Int),i < bs.length→t ∈ Jr bs i→qU u (Ea bs t) (seen (Sd X t.toNat) u)=true→seen (Sd X i) u=true:=by
   intro i t hi ht h1;obtain ⟨t0,t1⟩:=hE.2.2 i hi t ht;have htn:t.toNat < bs.length:=by omega
   refine (hst i hi).1 t ht u ?_;rw [(hst t.toNat htn).2,wu (by rw [h.xr _ htn,Qh htn];exact hO.2.2 _ (List.getElem_mem htn)),Int.toNat_of_nonneg t0];exact h1
  induction hl with
  | @gen i t ht h1 =>
   intro hi;exact turn i t hi ht (xu (fun hf=>by cases hf) h1)
  | @step i t ht h1 _ ih =>
   intro hi;obtain ⟨t0,t1⟩:=hE.2.2 i hi t ht;exact turn i t hi ht (xu (fun _=>ih (by omega)) h1)
 apply List.ext_getElem
 ·rw [h.xl,Zi]
 ·intro i h1 h2;have hi:i < bs.length:=by rw [← h.xl];exact h1
  have e1:X[i]=Sd X i:=by simp [Sd,List.getD_eq_getElem?_getD,h1]
  have e2:(De bs n)[i]=Sl bs n i:=by simp [De]
  rw [e1,e2];refine PC (by rw [h.xr i hi,jj]) (fun u=>?_)
  constructor
  ·intro hu;have hun:u < n:=by have:=Zk hu;rw [h.xr i hi] at this;exact this
   exact (xo hun).2 (h.xs i u hi hu)
  ·intro hu;have hun:u < n:=by have:=Zk hu;rw [jj] at this;exact this
   exact key u i ((xo hun).1 hu) hi
def cnt (s:List Bool):Nat:=s.count true
def Rp (Y:List (List Bool)):Nat:=(Y.map cnt).sum
theorem vD:∀ (Y:List (List Bool)) (i:Nat) (x:List Bool),i < Y.length→Rp (Y.set i x) + cnt (Sd Y i)=Rp Y + cnt x
 | [],i,x,h=>by simp at h
 | y :: Y,0,x,_=>by
  simp only [Rp,List.set_cons_zero,List.map_cons,List.sum_cons,Sd,List.getD_cons_zero];omega
 | y :: Y,i + 1,x,h=>by
  have ih:=vD Y i x (by simpa using h);simp only [Rp,List.set_cons_succ,List.map_cons,List.sum_cons,Sd,List.getD_cons_succ] at ih ⊢;omega
theorem FL:∀ (a b:List Bool),a.length=b.length→(∀ u,seen a u=true→seen b u=true)→cnt a ≤ cnt b∧(a ≠ b→cnt a < cnt b)
 | [],[],_,_=>⟨Nat.le_refl _,fun h=>absurd rfl h⟩
 | [],_ :: _,h,_=>by cases h
 | _ :: _,[],h,_=>by cases h
 | x :: a,y :: b,hl,h=>by
  obtain ⟨h1,h2⟩:=FL a b (by simpa using hl) (fun u hu=>h (u + 1) hu);have h0:x=true→y=true:=h 0;unfold cnt at h1 h2 ⊢;rw [List.count_cons,List.count_cons];cases x with
  | false =>
   cases y with
   | false=>exact ⟨by simpa using h1,fun hne=>by have:=h2 (fun e=>hne (by rw [e]));simpa using this⟩
   | true=>exact ⟨by simp;omega,fun _=>by simp;omega⟩
  | true =>
   have hy:=h0 rfl;subst hy;exact ⟨by simpa using h1,fun hne=>by have:=h2 (fun e=>hne (by rw [e]));simpa using this⟩
theorem NX (a:List Bool):cnt a ≤ a.length:=List.count_le_length
theorem YH {m:Nat}:∀ (Y:List (List Bool)),(∀ i,i < Y.length→(Sd Y i).length ≤ m)→Rp Y ≤ m * Y.length
 | [],_=>by simp [Rp]
 | y :: Y,h=>by
  have h1:=YH Y (fun i hi=>h (i + 1) (by simpa using hi));have h2:=h 0 (by simp);have h3:=NX y;have h4:(Sd (y :: Y) 0)=y:=rfl;rw [h4] at h2;simp only [Rp,List.map_cons,List.sum_cons,List.length_cons,Nat.mul_succ] at h1 ⊢;omega
theorem bE.grow (h:bE bs n X Y) (hO:Zn bs n) {i:Nat} (hi:i < bs.length) (hne:RA (Ea bs (i:Int)) (Sd X i) ≠ Sd Y i):Rp Y < Rp (Y.set i (RA (Ea bs (i:Int)) (Sd X i))):=by
 have hb:Gu n (Ea bs (i:Int)):=by rw [Qh hi];exact hO.2.2 _ (List.getElem_mem hi)
 have h1:=vD Y i (RA (Ea bs (i:Int)) (Sd X i)) (by rw [h.yl];exact hi)
 have h2:=(FL (Sd Y i) (RA (Ea bs (i:Int)) (Sd X i)) (by rw [lq,h.xr i hi,h.yr i hi]) (fun u hu=>by
  rw [wu (by rw [h.xr i hi];exact hb)]
  exact h.ys i u hi hu)).2 (fun e=>hne e.symm)
 omega
theorem bE.start (bs:List Ke) (n:Nat):bE bs n (List.replicate bs.length (List.replicate n false)) (List.replicate bs.length (List.replicate n false)):=by
 have hr:∀ i,i < bs.length→Sd (List.replicate bs.length (List.replicate n false)) i=List.replicate n false:=fun i hi=>by
  unfold Sd;rw [List.getD_eq_getElem?_getD,List.getElem?_replicate,if_pos hi];rfl
 refine ⟨by simp,by simp,fun i hi=>by rw [hr i hi];simp,fun i hi=>by rw [hr i hi];simp,fun i u hi hu=>?_,fun i u hi hu=>?_⟩
 ·rw [hr i hi,Uz] at hu;cases hu
 ·rw [hr i hi,Uz] at hu;cases hu
end
end Go.Proofs.Ytkigbdceceeenaa.P
end
section
namespace Go.Proofs.Ytkigbdceceeenaa.P
open Go.RowKit Go.Proofs.Pa.Xb Go.Proofs.Pa.Pd Go.Proofs.Pa.Oe
set_option linter.unusedVariables false
set_option linter.unusedSimpArgs false
def tE (w:World) (N:Nat):World:={ w with heap:=w.heap.extract 0 N }
theorem Mk {w:World} {N:Nat} (h:N ≤ w.heap.size):(tE w N).heap.size=N:=by
 unfold tE;simp;omega
theorem Qw {w:World} {N:Nat} (h:N ≤ w.heap.size):Below (tE w N).heap.size (tE w N) w:=by
 refine ⟨rfl,rfl,rfl,by rw [Mk h];exact h,fun k hk=>?_⟩;rw [Mk h] at hk
 show w.heap[k]? = (w.heap.extract 0 N)[k]?
 rw [Array.getElem?_extract];simp;omega
section
variable {St:Type} (f:St→lg→List Bool→St)
def Pp:List lg→List Bool→St→St
 | [],_,st=>st
 | x :: r,s,st=>Pp r (Em s x) (f st x s)
theorem tD {code:List lg} {q:Nat} (h:q < code.length) (s:List Bool) (st:St):Pp f (code.take (q + 1)).reverse s st=Pp f (code.take q).reverse (Em s (Ua code (q:Int))) (f st (Ua code (q:Int)) s):=by
 rw [List.take_succ_eq_append_getElem h,List.reverse_append,vr h]
 rfl
def tw (bs:List Ke) (X:List (List Bool)) (st:St) (i:Nat):St:=Pp f (Ea bs (i:Int)).f0.reverse (Eh (Ea bs (i:Int)) (Sd X i)) st
def Eg (bs:List Ke) (X:List (List Bool)) (i:Nat) (st:St):St:=((List.range bs.length).drop i).foldl (tw f bs X) st
theorem qn {bs:List Ke} {X:List (List Bool)} {i:Nat} (h:i < bs.length) (st:St):Eg f bs X i st=Eg f bs X (i + 1) (tw f bs X st i):=by
 unfold Eg;rw [List.drop_eq_getElem_cons (by rw [List.length_range];exact h),List.foldl_cons,List.getElem_range]
theorem Po (bs:List Ke) (X:List (List Bool)) (st:St):Eg f bs X bs.length st=st:=by
 unfold Eg;rw [List.drop_eq_nil_of_le (by rw [List.length_range];exact Nat.le_refl _)]
 rfl
end
def CY (S:Nat→Prop) (w:World) (k:Nat):Prop:=S k ∨ w.heap.size ≤ k
structure oR (S:Nat→Prop) (w:World) (o:Obj) (wr:World):Prop where
 k:Kept w wr (CY S w)
 b:Below 0 w wr
 hx:wr.heap[w.heap.size]? = some o
section
variable {S:Nat→Prop} {w wr W:World} {o:Obj}
theorem Vp {B:Nat} (h:Below B wr W):Below 0 wr W:=⟨h.os,h.tape,h.output,h.size,fun k hk=>by omega⟩
theorem oR.below (h:oR S w o wr) (hb:Below wr.heap.size wr W):oR S w o W:=⟨h.k.below hb,h.b.trans (Vp hb),Ta h.hx hb⟩
theorem oR.kept (h:oR S w o wr) (hS:∀ k,S k→k < w.heap.size) (hk:Kept wr W S) (hb:Below 0 wr W):oR S w o W :=
 ⟨h.k.bu hk (fun _ h2=>Or.inl (Or.inl h2)),h.b.trans hb,wg h.hx hk (fun e=>by have:=hS _ e;omega)⟩
theorem oR.le (h:oR S w o wr):w.heap.size < wr.heap.size:=Jc h.hx
end
end Go.Proofs.Ytkigbdceceeenaa.P
end
section
namespace Go.Proofs.Ytkigbdceceeenaa.P
open Go.RowKit Go.Proofs.Pa.Xb Go.Proofs.Pa.Pd Go.Proofs.Pa.Oe
set_option linter.unusedVariables false
set_option linter.unusedSimpArgs false
attribute [local go_sem] Bi Xi Jj Ik Uh Th Yi Wi
def Ph.f (Nb:Int) (Ja:Int) (Fa:Int) (Ia:Int) (zb:Int) (qc:Int) (nc:ByteArray):Option (Bool):=if Nb=4 then (some false) else (some (Nb != 6))
theorem Ph.calls (Nb:Int) (Ja:Int) (Fa:Int) (Ia:Int) (zb:Int) (qc:Int) (nc:ByteArray) (r:Bool) (w:World) (h:Ph.f Nb Ja Fa Ia zb qc nc=some r) :
  Calls Try.prog 73 #[.agg #[.int .i64 Nb,.int .i64 Ja,.int .i64 Fa,.int .i64 Ia,.int .i64 zb,.int .i64 qc,.string nc]] w fun e w'=>e = .returned (.bool r)∧Below w.heap.size w w':=by
 have Yz:=Try.underlying65;have HB:=ja.mk (Below.refl w.heap.size w);have H:(if Nb=4 then (some false) else (some (Nb != 6)))=some r:=h;clear h
 by_cases c2:Nb=4
 ·rw [if_pos c2] at H;have DA:(Nb == 4)=true:=beq_iff_eq.mpr c2;have CA:(Nb != 4)=false:=bne_eq_false_iff_eq.mpr c2;clear c2;obtain rfl:=Option.some.inj H;go_enter Try.func73,Try.ntmps73;go_wp2_with (first|((with_reducible refine qb (N:=1) rfl ?_);refine Gb ?hg (N:=1) ?hd (cs:=#[.int .i64 Nb,.int .i64 Ja,.int .i64 Fa,.int .i64 Ia,.int .i64 zb,.int .i64 qc,.string nc]) (t:=65) ?hr ?_;(case hd=>rfl);(case hg=>rfl);(case hr=>first|(go_simp;done)|(go_simp;rfl));intro ya hg w3 Rb hb;have Eb:=ja.mk (Na (by repeat (first|(with_reducible first|exact HB.out|apply qa|apply ia|apply ta)|exact HB.out)) hb);have Jb:=ja.mk (Rb);have Ub:=ja.mk ((by rw [hg];exact (Ga (by repeat (first|(with_reducible first|exact HB.out|apply qa|apply ia|apply ta)|exact HB.out))):w.heap.size ≤ ya));have uc:=ja.mk ((by rw [hg];exact (Ga (by repeat (first|(with_reducible first|exact HB.out|apply qa|apply ia|apply ta)|exact HB.out))):w.heap.size ≤ ya));clear HB;have HB:=Eb;have oa:=Jb;have xd:=Ub;have Ra:=uc;clear Eb Jb Ub uc hb Rb hg;have wA:w3.cell? ⟨ya,0,none⟩=some (.int .i64 Nb):=(ga oa.out 0).trans rfl;have vA:w3.cell? ⟨ya,1,none⟩=some (.int .i64 Ja):=(ga oa.out 1).trans rfl;have uA:w3.cell? ⟨ya,2,none⟩=some (.int .i64 Fa):=(ga oa.out 2).trans rfl;have tA:w3.cell? ⟨ya,3,none⟩=some (.int .i64 Ia):=(ga oa.out 3).trans rfl;have sA:w3.cell? ⟨ya,4,none⟩=some (.int .i64 zb):=(ga oa.out 4).trans rfl;have TG:w3.cell? ⟨ya,5,none⟩=some (.int .i64 qc):=(ga oa.out 5).trans rfl;have SG:w3.cell? ⟨ya,6,none⟩=some (.string nc):=(ga oa.out 6).trans rfl;have jA:=aa oa.out 0;have iA:=aa oa.out 1;have gA:=aa oa.out 2;have fA:=aa oa.out 3;have eA:=aa oa.out 4;have RF:=aa oa.out 5;have QF:=aa oa.out 6));go_ret;exact ⟨by first|rfl|(simp [Ma,La] <;> rfl)|(simp [*,Ma,La] <;> rfl),by repeat (first|(with_reducible first|exact HB.out|apply qa|apply ia|apply ta|refine ua ?_ Ra.out)|exact HB.out)⟩
 ·rw [if_neg c2] at H;have DA:(Nb == 4)=false:=beq_eq_false_iff_ne.mpr c2;have CA:(Nb != 4)=true:=bne_iff_ne.mpr c2;obtain rfl:=Option.some.inj H;go_enter Try.func73,Try.ntmps73;go_wp2_with (first|((with_reducible refine qb (N:=1) rfl ?_);refine Gb ?hg (N:=1) ?hd (cs:=#[.int .i64 Nb,.int .i64 Ja,.int .i64 Fa,.int .i64 Ia,.int .i64 zb,.int .i64 qc,.string nc]) (t:=65) ?hr ?_;(case hd=>rfl);(case hg=>rfl);(case hr=>first|(go_simp;done)|(go_simp;rfl));intro ya hg w5 Rb hb;have Eb:=ja.mk (Na (by repeat (first|(with_reducible first|exact HB.out|apply qa|apply ia|apply ta)|exact HB.out)) hb);have Jb:=ja.mk (Rb);have Ub:=ja.mk ((by rw [hg];exact (Ga (by repeat (first|(with_reducible first|exact HB.out|apply qa|apply ia|apply ta)|exact HB.out))):w.heap.size ≤ ya));have uc:=ja.mk ((by rw [hg];exact (Ga (by repeat (first|(with_reducible first|exact HB.out|apply qa|apply ia|apply ta)|exact HB.out))):w.heap.size ≤ ya));clear HB;have HB:=Eb;have oa:=Jb;have xd:=Ub;have Ra:=uc;clear Eb Jb Ub uc hb Rb hg;have Lp:w5.cell? ⟨ya,0,none⟩=some (.int .i64 Nb):=(ga oa.out 0).trans rfl;have Kp:w5.cell? ⟨ya,1,none⟩=some (.int .i64 Ja):=(ga oa.out 1).trans rfl;have Jp:w5.cell? ⟨ya,2,none⟩=some (.int .i64 Fa):=(ga oa.out 2).trans rfl;have Ip:w5.cell? ⟨ya,3,none⟩=some (.int .i64 Ia):=(ga oa.out 3).trans rfl;have Hp:w5.cell? ⟨ya,4,none⟩=some (.int .i64 zb):=(ga oa.out 4).trans rfl;have Ct:w5.cell? ⟨ya,5,none⟩=some (.int .i64 qc):=(ga oa.out 5).trans rfl;have Bt:w5.cell? ⟨ya,6,none⟩=some (.string nc):=(ga oa.out 6).trans rfl;have Ep:=aa oa.out 0;have Dp:=aa oa.out 1;have Cp:=aa oa.out 2;have Bp:=aa oa.out 3;have Ap:=aa oa.out 4;have Xs:=aa oa.out 5;have Ws:=aa oa.out 6));go_ret;exact ⟨by first|rfl|(simp [Ma,La] <;> rfl)|(simp [*,Ma,La] <;> rfl),by repeat (first|(with_reducible first|exact HB.out|apply qa|apply ia|apply ta|refine ua ?_ Ra.out)|exact HB.out)⟩
mutual
def Ae.j0:Nat→Int→Bool→Int→Int→Int→Int→Int→Int→ByteArray→Option (List Int)
 | 0,_,_,_,_,_,_,_,_,_=>none
 | k + 1,x5,x6,Cc,Uc,Ic,Gc,ec,Nl,Ml=>if x6=true then (some (([Ic]:List Int))) else (if x5=2 then (some (([Ic,Gc]:List Int))) else (if x5=3 then (Ae.j1 k (x5 == 3) Cc Uc Ic Gc ec Nl Ml) else (Ae.j1 k (x5 == 4) Cc Uc Ic Gc ec Nl Ml)))
def Ae.j1:Nat→Bool→Int→Int→Int→Int→Int→Int→ByteArray→Option (List Int)
 | 0,_,_,_,_,_,_,_,_=>none
 | k + 1,x19,Cc,Uc,Ic,Gc,ec,Nl,Ml=>if x19=true then ((some (([Gc]:List Int):List Int)).bind fun Fg=>(if Ic ≥ 0 then (if Fg.length < 17592186044416 then ((some (Fg ++ [Ic]:List Int)).bind fun gp=>(if Cc=4 then (if gp.length < 17592186044416 then (some (gp ++ [ec])) else (none)) else (some gp))) else (none)) else (if Cc=4 then (if Fg.length < 17592186044416 then (some (Fg ++ [ec])) else (none)) else (some Fg)))) else (some (([]:List Int)))
end
def Ae.f (k:Nat) (Nb:Int) (Ja:Int) (Fa:Int) (Ia:Int) (zb:Int) (qc:Int) (nc:ByteArray):Option (List Int):=if Nb=1 then (Ae.j0 k Nb (Nb == 1) Nb Ja Fa Ia zb qc nc) else (Ae.j0 k Nb (Nb == 6) Nb Ja Fa Ia zb qc nc)
theorem Ae.calls (k:Nat) (Nb:Int) (Ja:Int) (Fa:Int) (Ia:Int) (zb:Int) (qc:Int) (nc:ByteArray) (r:List Int) (w:World) (h:Ae.f k Nb Ja Fa Ia zb qc nc=some r) :
  Calls Try.prog 74 #[.agg #[.int .i64 Nb,.int .i64 Ja,.int .i64 Fa,.int .i64 Ia,.int .i64 zb,.int .i64 qc,.string nc]] w fun e w'=>∃ Bn:Value,e = .returned (Bn)∧Kd.R (Kd.int .i64) 3 w' w.heap.size (fun _=>True) Bn r∧Below w.heap.size w w':=by
 have Yz:=Try.underlying65;have HB:=ja.mk (Below.refl w.heap.size w);have H:(if Nb=1 then (Ae.j0 k Nb (Nb == 1) Nb Ja Fa Ia zb qc nc) else (Ae.j0 k Nb (Nb == 6) Nb Ja Fa Ia zb qc nc))=some r:=h;clear h;have bU:=ja.mk H;clear H;go_enter Try.func74,Try.ntmps74
 go_upto_if 6 with (first|((with_reducible refine qb (N:=1) rfl ?_);refine Gb ?hg (N:=1) ?hd (cs:=#[.int .i64 Nb,.int .i64 Ja,.int .i64 Fa,.int .i64 Ia,.int .i64 zb,.int .i64 qc,.string nc]) (t:=65) ?hr ?_;(case hd=>rfl);(case hg=>rfl);(case hr=>first|(go_simp;done)|(go_simp;rfl));intro ya hg w3 Rb hb;have Eb:=ja.mk (Na (by repeat (first|(with_reducible first|exact HB.out|apply qa|apply ia|apply ta)|exact HB.out)) hb);have Jb:=ja.mk (Rb);have Ub:=ja.mk ((by rw [hg];exact (Ga (by repeat (first|(with_reducible first|exact HB.out|apply qa|apply ia|apply ta)|exact HB.out))):w.heap.size ≤ ya));have uc:=ja.mk ((by rw [hg];exact (Ga (by repeat (first|(with_reducible first|exact HB.out|apply qa|apply ia|apply ta)|exact HB.out))):w.heap.size ≤ ya));clear HB;have HB:=Eb;have oa:=Jb;have xd:=Ub;have Ra:=uc;clear Eb Jb Ub uc hb Rb hg;have wA:w3.cell? ⟨ya,0,none⟩=some (.int .i64 Nb):=(ga oa.out 0).trans rfl;have vA:w3.cell? ⟨ya,1,none⟩=some (.int .i64 Ja):=(ga oa.out 1).trans rfl;have uA:w3.cell? ⟨ya,2,none⟩=some (.int .i64 Fa):=(ga oa.out 2).trans rfl;have tA:w3.cell? ⟨ya,3,none⟩=some (.int .i64 Ia):=(ga oa.out 3).trans rfl;have sA:w3.cell? ⟨ya,4,none⟩=some (.int .i64 zb):=(ga oa.out 4).trans rfl;have TG:w3.cell? ⟨ya,5,none⟩=some (.int .i64 qc):=(ga oa.out 5).trans rfl;have SG:w3.cell? ⟨ya,6,none⟩=some (.string nc):=(ga oa.out 6).trans rfl;have jA:=aa oa.out 0;have iA:=aa oa.out 1;have gA:=aa oa.out 2;have fA:=aa oa.out 3;have eA:=aa oa.out 4;have RF:=aa oa.out 5;have QF:=aa oa.out 6))
 (try simp only [Act.put,List.setIfInBounds_toArray,List.set_cons_zero,List.set_cons_succ])
 go_cut [6] (fun v6 wc=>∃ (kq:Nat) (Ek:Bool),v6 = .bool Ek∧ja (Ae.j0 kq Nb Ek Nb Ja Fa Ia zb qc nc=some r)∧ja (kq ≤ k)∧ja (wc.heap[ya]? = some (.cells #[.int .i64 Nb,.int .i64 Ja,.int .i64 Fa,.int .i64 Ia,.int .i64 zb,.int .i64 qc,.string nc] 65 (0,0)))∧ja (Below w.heap.size w wc))
 case first =>
  have H:=bU.out;clear bU
  by_cases c5:Nb=1
  ·rw [if_pos c5] at H;have ak:(Nb == 1)=true:=beq_iff_eq.mpr c5;have BA:(Nb != 1)=false:=bne_eq_false_iff_eq.mpr c5;clear c5;(first|rw [ak]|(simp only [ic,jc];rw [ak])|skip);have H':=ja.mk H;clear H;go_wp2
   go_meet
   case rel=>exact ⟨_,((Nb == 1)),(by first|rfl|(simp;done)|(simp [*];done)),H',⟨by first|omega|exact Nat.le_refl _⟩,⟨by (with_reducible repeat (first|refine Aa ?_ _|refine Da ?_|refine Ba ?_ _));exact oa.out⟩,⟨by repeat (first|(with_reducible first|exact HB.out|apply qa|apply ia|apply ta|refine ua ?_ Ra.out)|exact HB.out)⟩⟩
  ·rw [if_neg c5] at H;have ak:(Nb == 1)=false:=beq_eq_false_iff_ne.mpr c5;have BA:(Nb != 1)=true:=bne_iff_ne.mpr c5;(first|rw [ak]|(simp only [ic,jc];rw [ak])|skip);have H':=ja.mk H;clear H;go_wp2
   go_meet
   case rel=>exact ⟨_,((Nb == 6)),(by first|rfl|(simp;done)|(simp [*];done)),H',⟨by first|omega|exact Nat.le_refl _⟩,⟨by (with_reducible repeat (first|refine Aa ?_ _|refine Da ?_|refine Ba ?_ _));exact oa.out⟩,⟨by repeat (first|(with_reducible first|exact HB.out|apply qa|apply ia|apply ta|refine ua ?_ Ra.out)|exact HB.out)⟩⟩
 case rest =>
  clear bU
  try clear p2
  try clear c5
  try clear ak
  try clear BA
  try clear wA
  try clear vA
  try clear uA
  try clear tA
  try clear sA
  try clear TG
  try clear SG
  try clear jA
  try clear iA
  try clear gA
  try clear fA
  try clear eA
  try clear RF
  try clear QF
  obtain ⟨kq,Ek,rfl,HA,JZ,oa,HB⟩:=hcut;cases kq with
  | zero=>exact absurd HA.out (by simp [Ae.j0])
  | succ XR =>
   have H:=HA.out;clear HA;simp only [Ae.j0] at H
   by_cases c6:Ek=true
   ·subst c6;have H1:(some (([Fa]:List Int)))=some r:=by rw [if_pos rfl] at H;exact H
    clear H;have H:=H1;clear H1;obtain ⟨tf,sg⟩:∃ y_:List Int,y_=(([Fa]:List Int)):=⟨_,rfl⟩;replace H:(some tf)=some r:=by first|(rw [sg];with_reducible exact H)|(have Ie:=(Option.bind_some _ _).symm.trans H;rw [sg];with_reducible exact Ie)|(have Ie:=(Option.bind_some _ _).symm.trans H;with_reducible exact Ie)|with_reducible exact H|(rw [sg];exact H)|exact H
    have Wj:=ja.mk sg;clear sg;obtain rfl:=Option.some.inj H;have Ak:wc.cell? ⟨ya,0,none⟩=some (.int .i64 Nb):=(ga oa.out 0).trans rfl;have zk:wc.cell? ⟨ya,1,none⟩=some (.int .i64 Ja):=(ga oa.out 1).trans rfl;have xk:wc.cell? ⟨ya,2,none⟩=some (.int .i64 Fa):=(ga oa.out 2).trans rfl;have vk:wc.cell? ⟨ya,3,none⟩=some (.int .i64 Ia):=(ga oa.out 3).trans rfl;have uk:wc.cell? ⟨ya,4,none⟩=some (.int .i64 zb):=(ga oa.out 4).trans rfl;have MG:wc.cell? ⟨ya,5,none⟩=some (.int .i64 qc):=(ga oa.out 5).trans rfl;have LG:wc.cell? ⟨ya,6,none⟩=some (.string nc):=(ga oa.out 6).trans rfl;have qk:=aa oa.out 0;have nk:=aa oa.out 1;have jk:=aa oa.out 2;have fk:=aa oa.out 3;have ek:=aa oa.out 4;have JF:=aa oa.out 5;have GF:=aa oa.out 6;go_wp2_with (first|((with_reducible refine qb (N:=11) rfl ?_);refine Kd.Bk (Kd.int .i64) _ 3 ?hg (N:=11) ?hd (xs:=([Fa]:List Int)) (inner:=[.int .i64 Fa]) (ok:=fun _=>True) (Sh:=fun _=>True) ?hr ?hp (fun _ hk=>hk) trivial (Below.refl _ _) (Nat.le_refl _) (by simp) ?_;(case hd=>rfl);(case hg=>rfl);(case hr=>first|(go_simp;done)|(go_simp;rfl));(case hp=>exact (Ed.one (show Kd.M (Kd.int .i64) _ _ _ Fa [.int .i64 Fa] from rfl) (Ed.none _ _)));intro qo w8 U7 hb Vn yf;clear Vn yf;(first|rw [← Wj.out] at U7|(simp only [Int.reduceToNat] at U7;rw [← Wj.out] at U7));have Eb:=ja.mk (Kd.Qd U7 (Ga (by repeat (first|(with_reducible first|exact HB.out|apply qa|apply ia|apply ta|refine ua ?_ Ra.out)|exact HB.out))));have Jb:=ja.mk (Ta (g:=ya) (o:=.cells #[.int .i64 Nb,.int .i64 Ja,.int .i64 Fa,.int .i64 Ia,.int .i64 zb,.int .i64 qc,.string nc] 65 (0,0)) (by (with_reducible repeat (first|refine Aa ?_ _|refine Da ?_|refine Ba ?_ _));exact oa.out) hb);have Ub:=ja.mk (Na (by repeat (first|(with_reducible first|exact HB.out|apply qa|apply ia|apply ta|refine ua ?_ Ra.out)|exact HB.out)) hb);clear oa HB;have si:=Eb;have oa:=Jb;have HB:=Ub;clear Eb Jb Ub hb U7));go_ret;exact ⟨_,by first|rfl|(simp [Ma,La] <;> rfl)|(simp [*,Ma,La] <;> rfl),by (with_reducible repeat (first|apply Kd.yb|apply Kd.xb|apply Kd.Pb));exact si.out,by repeat (first|(with_reducible first|exact HB.out|apply qa|apply ia|apply ta|refine ua ?_ Ra.out)|exact HB.out)⟩
   ·replace c6:=Bool.eq_false_iff.mpr c6;subst c6;have H1:(if Nb=2 then (some (([Fa,Ia]:List Int))) else (if Nb=3 then (Ae.j1 XR (Nb == 3) Nb Ja Fa Ia zb qc nc) else (Ae.j1 XR (Nb == 4) Nb Ja Fa Ia zb qc nc)))=some r:=by rw [if_neg (show ¬ (false=true) by decide)] at H;exact H
    clear H;have H:=H1;clear H1
    by_cases ku:Nb=2
    ·rw [if_pos ku] at H;have vw:(Nb == 2)=true:=beq_iff_eq.mpr ku;have sZ:(Nb != 2)=false:=bne_eq_false_iff_eq.mpr ku;clear ku;obtain ⟨Gh,Jf⟩:∃ y_:List Int,y_=(([Fa,Ia]:List Int)):=⟨_,rfl⟩;replace H:(some Gh)=some r:=by first|(rw [Jf];with_reducible exact H)|(have Ie:=(Option.bind_some _ _).symm.trans H;rw [Jf];with_reducible exact Ie)|(have Ie:=(Option.bind_some _ _).symm.trans H;with_reducible exact Ie)|with_reducible exact H|(rw [Jf];exact H)|exact H
     have Il:=ja.mk Jf;clear Jf;obtain rfl:=Option.some.inj H;have Nt:wc.cell? ⟨ya,0,none⟩=some (.int .i64 Nb):=(ga oa.out 0).trans rfl;have Mt:wc.cell? ⟨ya,1,none⟩=some (.int .i64 Ja):=(ga oa.out 1).trans rfl;have Lt:wc.cell? ⟨ya,2,none⟩=some (.int .i64 Fa):=(ga oa.out 2).trans rfl;have Kt:wc.cell? ⟨ya,3,none⟩=some (.int .i64 Ia):=(ga oa.out 3).trans rfl;have Jt:wc.cell? ⟨ya,4,none⟩=some (.int .i64 zb):=(ga oa.out 4).trans rfl;have CX:wc.cell? ⟨ya,5,none⟩=some (.int .i64 qc):=(ga oa.out 5).trans rfl;have BX:wc.cell? ⟨ya,6,none⟩=some (.string nc):=(ga oa.out 6).trans rfl;have yt:=aa oa.out 0;have vt:=aa oa.out 1;have qt:=aa oa.out 2;have ot:=aa oa.out 3;have nt:=aa oa.out 4;have sW:=aa oa.out 5;have rW:=aa oa.out 6;go_wp2_with (first|((with_reducible refine qb (N:=18) rfl ?_);refine Kd.Bk (Kd.int .i64) _ 3 ?hg (N:=18) ?hd (xs:=([Fa,Ia]:List Int)) (inner:=[.int .i64 Fa,.int .i64 Ia]) (ok:=fun _=>True) (Sh:=fun _=>True) ?hr ?hp (fun _ hk=>hk) trivial (Below.refl _ _) (Nat.le_refl _) (by simp) ?_;(case hd=>rfl);(case hg=>rfl);(case hr=>first|(go_simp;done)|(go_simp;rfl));(case hp=>exact (Ed.one (show Kd.M (Kd.int .i64) _ _ _ Fa [.int .i64 Fa] from rfl) (Ed.one (show Kd.M (Kd.int .i64) _ _ _ Ia [.int .i64 Ia] from rfl) (Ed.none _ _))));intro Qz qu yS hb Vn yf;clear Vn yf;(first|rw [← Il.out] at yS|(simp only [Int.reduceToNat] at yS;rw [← Il.out] at yS));have Eb:=ja.mk (Kd.Qd yS (Ga (by repeat (first|(with_reducible first|exact HB.out|apply qa|apply ia|apply ta|refine ua ?_ Ra.out)|exact HB.out))));have Jb:=ja.mk (Ta (g:=ya) (o:=.cells #[.int .i64 Nb,.int .i64 Ja,.int .i64 Fa,.int .i64 Ia,.int .i64 zb,.int .i64 qc,.string nc] 65 (0,0)) (by (with_reducible repeat (first|refine Aa ?_ _|refine Da ?_|refine Ba ?_ _));exact oa.out) hb);have Ub:=ja.mk (Na (by repeat (first|(with_reducible first|exact HB.out|apply qa|apply ia|apply ta|refine ua ?_ Ra.out)|exact HB.out)) hb);clear oa HB;have Hi:=Eb;have oa:=Jb;have HB:=Ub;clear Eb Jb Ub hb yS));go_ret;exact ⟨_,by first|rfl|(simp [Ma,La] <;> rfl)|(simp [*,Ma,La] <;> rfl),by (with_reducible repeat (first|apply Kd.yb|apply Kd.xb|apply Kd.Pb));exact Hi.out,by repeat (first|(with_reducible first|exact HB.out|apply qa|apply ia|apply ta|refine ua ?_ Ra.out)|exact HB.out)⟩
    ·rw [if_neg ku] at H;have vw:(Nb == 2)=false:=beq_eq_false_iff_ne.mpr ku;have sZ:(Nb != 2)=true:=bne_iff_ne.mpr ku;have T5:=ja.mk H;clear H
     go_upto_if 19 with (fail)
     go_cut [19] (fun v19 wc=>∃ (kq:Nat) (nF:Bool),v19 = .bool nF∧ja (Ae.j1 kq nF Nb Ja Fa Ia zb qc nc=some r)∧ja (kq ≤ XR)∧ja (wc.heap[ya]? = some (.cells #[.int .i64 Nb,.int .i64 Ja,.int .i64 Fa,.int .i64 Ia,.int .i64 zb,.int .i64 qc,.string nc] 65 (0,0)))∧ja (Below w.heap.size w wc))
     case first =>
      have H:=T5.out;clear T5
      by_cases DI:Nb=3
      ·rw [if_pos DI] at H;have dF:(Nb == 3)=true:=beq_iff_eq.mpr DI;have pZ:(Nb != 3)=false:=bne_eq_false_iff_eq.mpr DI;clear DI;(first|rw [dF]|(simp only [ic,jc];rw [dF])|skip);have H':=ja.mk H;clear H;go_wp2
       go_meet
       case rel=>exact ⟨_,((Nb == 3)),(by first|rfl|(simp;done)|(simp [*];done)),H',⟨by have:=JZ.out;first|omega|exact Nat.le_refl _⟩,⟨by (with_reducible repeat (first|refine Aa ?_ _|refine Da ?_|refine Ba ?_ _));exact oa.out⟩,⟨by repeat (first|(with_reducible first|exact HB.out|apply qa|apply ia|apply ta|refine ua ?_ Ra.out)|exact HB.out)⟩⟩
      ·rw [if_neg DI] at H;have dF:(Nb == 3)=false:=beq_eq_false_iff_ne.mpr DI;have pZ:(Nb != 3)=true:=bne_iff_ne.mpr DI;(first|rw [dF]|(simp only [ic,jc];rw [dF])|skip);have H':=ja.mk H;clear H;go_wp2
       go_meet
       case rel=>exact ⟨_,((Nb == 4)),(by first|rfl|(simp;done)|(simp [*];done)),H',⟨by have:=JZ.out;first|omega|exact Nat.le_refl _⟩,⟨by (with_reducible repeat (first|refine Aa ?_ _|refine Da ?_|refine Ba ?_ _));exact oa.out⟩,⟨by repeat (first|(with_reducible first|exact HB.out|apply qa|apply ia|apply ta|refine ua ?_ Ra.out)|exact HB.out)⟩⟩
     case rest =>
      clear T5
      try clear c1
      try clear p2
      try clear c5
      try clear ak
      try clear BA
      try clear c6
      try clear c7
      try clear ku
      try clear vw
      try clear sZ
      try clear DI
      try clear dF
      try clear pZ
      try clear Nt
      try clear Mt
      try clear Lt
      try clear Kt
      try clear Jt
      try clear CX
      try clear BX
      try clear wA
      try clear vA
      try clear uA
      try clear tA
      try clear sA
      try clear TG
      try clear SG
      try clear Ak
      try clear zk
      try clear xk
      try clear vk
      try clear uk
      try clear MG
      try clear LG
      try clear yt
      try clear vt
      try clear qt
      try clear ot
      try clear nt
      try clear sW
      try clear rW
      try clear jA
      try clear iA
      try clear gA
      try clear fA
      try clear eA
      try clear RF
      try clear QF
      try clear qk
      try clear nk
      try clear jk
      try clear fk
      try clear ek
      try clear JF
      try clear GF
      try clear p2
      obtain ⟨kq,nF,rfl,HA,Cau,oa,HB⟩:=hcut;cases kq with
      | zero=>exact absurd HA.out (by simp [Ae.j1])
      | succ Yas =>
       have H:=HA.out;clear HA;simp only [Ae.j1] at H
       by_cases VA:nF=true
       ·subst VA;have H1:((some (([Ia]:List Int):List Int)).bind fun Fg=>(if Fa ≥ 0 then (if Fg.length < 17592186044416 then ((some (Fg ++ [Fa]:List Int)).bind fun gp=>(if Nb=4 then (if gp.length < 17592186044416 then (some (gp ++ [zb])) else (none)) else (some gp))) else (none)) else (if Nb=4 then (if Fg.length < 17592186044416 then (some (Fg ++ [zb])) else (none)) else (some Fg))))=some r:=by rw [if_pos rfl] at H;exact H
        clear H;have H:=H1;clear H1;obtain ⟨Fg,Hf⟩:∃ y_:List Int,y_=(([Ia]:List Int)):=⟨_,rfl⟩;replace H:(if Fa ≥ 0 then (if Fg.length < 17592186044416 then ((some (Fg ++ [Fa]:List Int)).bind fun gp=>(if Nb=4 then (if gp.length < 17592186044416 then (some (gp ++ [zb])) else (none)) else (some gp))) else (none)) else (if Nb=4 then (if Fg.length < 17592186044416 then (some (Fg ++ [zb])) else (none)) else (some Fg)))=some r:=by first|(rw [Hf];with_reducible exact H)|(have Ie:=(Option.bind_some _ _).symm.trans H;rw [Hf];with_reducible exact Ie)|(have Ie:=(Option.bind_some _ _).symm.trans H;with_reducible exact Ie)|with_reducible exact H|(rw [Hf];exact H)|exact H
        have Bj:=ja.mk Hf;clear Hf
        by_cases Qo:Fa ≥ 0
        ·rw [if_pos Qo] at H;have Bm:decide (0 ≤ Fa)=true:=decide_eq_true Qo;clear Qo
         by_cases Zp:Fg.length < 17592186044416
         ·rw [if_pos Zp] at H;have BZ:=ja.mk Zp;clear Zp;obtain ⟨gp,Jn⟩:∃ y_:List Int,y_=(Fg ++ [Fa]):=⟨_,rfl⟩;replace H:(if Nb=4 then (if gp.length < 17592186044416 then (some (gp ++ [zb])) else (none)) else (some gp))=some r:=by first|(rw [Jn];with_reducible exact H)|(have Ie:=(Option.bind_some _ _).symm.trans H;rw [Jn];with_reducible exact Ie)|(have Ie:=(Option.bind_some _ _).symm.trans H;with_reducible exact Ie)|with_reducible exact H|(rw [Jn];exact H)|exact H
          have gF:=ja.mk Jn;clear Jn
          by_cases Xk:Nb=4
          ·rw [if_pos Xk] at H;have fu:(Nb == 4)=true:=beq_iff_eq.mpr Xk;have iT:(Nb != 4)=false:=bne_eq_false_iff_eq.mpr Xk;clear Xk
           by_cases Mn:gp.length < 17592186044416
           ·rw [if_pos Mn] at H;have Jac:=ja.mk Mn;clear Mn;obtain ⟨vn,Bu⟩:∃ y_:List Int,y_=(gp ++ [zb]):=⟨_,rfl⟩;replace H:(some vn)=some r:=by first|(rw [Bu];with_reducible exact H)|(have Ie:=(Option.bind_some _ _).symm.trans H;rw [Bu];with_reducible exact Ie)|(have Ie:=(Option.bind_some _ _).symm.trans H;with_reducible exact Ie)|with_reducible exact H|(rw [Bu];exact H)|exact H
            have fF:=ja.mk Bu;clear Bu;obtain rfl:=Option.some.inj H;have jC:wc.cell? ⟨ya,0,none⟩=some (.int .i64 Nb):=(ga oa.out 0).trans rfl;have iC:wc.cell? ⟨ya,1,none⟩=some (.int .i64 Ja):=(ga oa.out 1).trans rfl;have gC:wc.cell? ⟨ya,2,none⟩=some (.int .i64 Fa):=(ga oa.out 2).trans rfl;have fC:wc.cell? ⟨ya,3,none⟩=some (.int .i64 Ia):=(ga oa.out 3).trans rfl;have eC:wc.cell? ⟨ya,4,none⟩=some (.int .i64 zb):=(ga oa.out 4).trans rfl;have hak:wc.cell? ⟨ya,5,none⟩=some (.int .i64 qc):=(ga oa.out 5).trans rfl;have gak:wc.cell? ⟨ya,6,none⟩=some (.string nc):=(ga oa.out 6).trans rfl;have JB:=aa oa.out 0;have IB:=aa oa.out 1;have FB:=aa oa.out 2;have EB:=aa oa.out 3;have DB:=aa oa.out 4;have aah:=aa oa.out 5;have Zag:=aa oa.out 6;go_wp2_with (first|((with_reducible refine qb (N:=24) rfl ?_);refine Kd.Bk (Kd.int .i64) _ 3 ?hg (N:=24) ?hd (xs:=([Ia]:List Int)) (inner:=[.int .i64 Ia]) (ok:=fun _=>True) (Sh:=fun _=>True) ?hr ?hp (fun _ hk=>hk) trivial (Below.refl _ _) (Nat.le_refl _) (by simp) ?_;(case hd=>rfl);(case hg=>rfl);(case hr=>first|(go_simp;done)|(go_simp;rfl));(case hp=>exact (Ed.one (show Kd.M (Kd.int .i64) _ _ _ Ia [.int .i64 Ia] from rfl) (Ed.none _ _)));intro iE FE wS hb Vn yf;clear Vn yf;(first|rw [← Bj.out] at wS|(simp only [Int.reduceToNat] at wS;rw [← Bj.out] at wS));have Eb:=ja.mk (Kd.Qd wS (Ga (by repeat (first|(with_reducible first|exact HB.out|apply qa|apply ia|apply ta|refine ua ?_ Ra.out)|exact HB.out))));have Jb:=ja.mk (Ta (g:=ya) (o:=.cells #[.int .i64 Nb,.int .i64 Ja,.int .i64 Fa,.int .i64 Ia,.int .i64 zb,.int .i64 qc,.string nc] 65 (0,0)) (by (with_reducible repeat (first|refine Aa ?_ _|refine Da ?_|refine Ba ?_ _));exact oa.out) hb);have Ub:=ja.mk (Na (by repeat (first|(with_reducible first|exact HB.out|apply qa|apply ia|apply ta|refine ua ?_ Ra.out)|exact HB.out)) hb);clear oa HB;have Oi:=Eb;have oa:=Jb;have HB:=Ub;clear Eb Jb Ub hb wS;have Qq:FE.cell? ⟨ya,0,none⟩=some (.int .i64 Nb):=(ga oa.out 0).trans rfl;have Pq:FE.cell? ⟨ya,1,none⟩=some (.int .i64 Ja):=(ga oa.out 1).trans rfl;have Oq:FE.cell? ⟨ya,2,none⟩=some (.int .i64 Fa):=(ga oa.out 2).trans rfl;have Nq:FE.cell? ⟨ya,3,none⟩=some (.int .i64 Ia):=(ga oa.out 3).trans rfl;have Mq:FE.cell? ⟨ya,4,none⟩=some (.int .i64 zb):=(ga oa.out 4).trans rfl;have nX:FE.cell? ⟨ya,5,none⟩=some (.int .i64 qc):=(ga oa.out 5).trans rfl;have mX:FE.cell? ⟨ya,6,none⟩=some (.string nc):=(ga oa.out 6).trans rfl;have uq:=aa oa.out 0;have tq:=aa oa.out 1;have rq:=aa oa.out 2;have qq:=aa oa.out 3;have oq:=aa oa.out 4;have dW:=aa oa.out 5;have cW:=aa oa.out 6)|((with_reducible refine ee (b:=.append) (xs:=#[.tmp 28,.tmp 31]) rfl ?_);at_builtin;refine Kd.ai (Kd.int .i64) (w0:=w) w.heap.size rfl (.tmp 28) (.tmp 31) 22 3 (.int .i64 0) 8 rfl Try.underlying22 info3 rfl (by decide) (by omega) iE Fg Fa [.int .i64 Fa] (fun _=>True) (fun _=>False) rfl rfl ?aP (fun _ hk=>hk.elim) ?aF ?aO ?aB ?aS ?aL ?_;(case aP=>exact rfl);(case aB=>exact (by repeat (first|(with_reducible first|exact HB.out|apply qa|apply ia|apply ta|refine ua ?_ Ra.out)|exact HB.out)));(case aF=>exact (fun _ _=>trivial));(case aO=>exact (by (with_reducible repeat (first|apply Kd.yb|apply Kd.xb|apply Kd.Pb));exact Oi.out));(case aS=>exact (Ga (by repeat (first|(with_reducible first|exact HB.out|apply qa|apply ia|apply ta|refine ua ?_ Ra.out)|exact HB.out))));(case aL=>have:=BZ.out;omega);intro B0 Dw ho hb hg hat;rw [← gF.out] at ho;have Eb:=ja.mk (Dd (g:=ya) (o:=.cells #[.int .i64 Nb,.int .i64 Ja,.int .i64 Fa,.int .i64 Ia,.int .i64 zb,.int .i64 qc,.string nc] 65 (0,0)) (by (with_reducible repeat (first|refine Aa ?_ _|refine Da ?_|refine Ba ?_ _));exact oa.out) hg (Kd.Fm Oi.out oa.out (by decide)));have Jb:=ja.mk (hb);have Ub:=ja.mk (ho);clear oa HB Oi;have oa:=Eb;have HB:=Jb;have OD:=Ub;clear Eb Jb Ub ho hb hg hat;have Ht:Dw.cell? ⟨ya,0,none⟩=some (.int .i64 Nb):=(ga oa.out 0).trans rfl;have Gt:Dw.cell? ⟨ya,1,none⟩=some (.int .i64 Ja):=(ga oa.out 1).trans rfl;have Ft:Dw.cell? ⟨ya,2,none⟩=some (.int .i64 Fa):=(ga oa.out 2).trans rfl;have Et:Dw.cell? ⟨ya,3,none⟩=some (.int .i64 Ia):=(ga oa.out 3).trans rfl;have Dt:Dw.cell? ⟨ya,4,none⟩=some (.int .i64 zb):=(ga oa.out 4).trans rfl;have dak:Dw.cell? ⟨ya,5,none⟩=some (.int .i64 qc):=(ga oa.out 5).trans rfl;have cak:Dw.cell? ⟨ya,6,none⟩=some (.string nc):=(ga oa.out 6).trans rfl;have jt:=aa oa.out 0;have ct:=aa oa.out 1;have bt:=aa oa.out 2;have Zs:=aa oa.out 3;have Ys:=aa oa.out 4;have Wag:=aa oa.out 5;have Vag:=aa oa.out 6)|((with_reducible refine ee (b:=.append) (xs:=#[.tmp 36,.tmp 39]) rfl ?_);at_builtin;refine Kd.ai (Kd.int .i64) (w0:=w) w.heap.size rfl (.tmp 36) (.tmp 39) 22 3 (.int .i64 0) 8 rfl Try.underlying22 info3 rfl (by decide) (by omega) B0 gp zb [.int .i64 zb] (fun _=>True) (fun _=>False) rfl rfl ?aP (fun _ hk=>hk.elim) ?aF ?aO ?aB ?aS ?aL ?_;(case aP=>exact rfl);(case aB=>exact (by repeat (first|(with_reducible first|exact HB.out|apply qa|apply ia|apply ta|refine ua ?_ Ra.out)|exact HB.out)));(case aF=>exact (fun _ _=>trivial));(case aO=>exact (by (with_reducible repeat (first|apply Kd.yb|apply Kd.xb|apply Kd.Pb));exact OD.out));(case aS=>exact (Ga (by repeat (first|(with_reducible first|exact HB.out|apply qa|apply ia|apply ta|refine ua ?_ Ra.out)|exact HB.out))));(case aL=>have:=Jac.out;omega);intro iK w27 ho hb hg hat;rw [← fF.out] at ho;have Eb:=ja.mk (Dd (g:=ya) (o:=.cells #[.int .i64 Nb,.int .i64 Ja,.int .i64 Fa,.int .i64 Ia,.int .i64 zb,.int .i64 qc,.string nc] 65 (0,0)) (by (with_reducible repeat (first|refine Aa ?_ _|refine Da ?_|refine Ba ?_ _));exact oa.out) hg (Kd.Fm OD.out oa.out (by decide)));have Jb:=ja.mk (hb);have Ub:=ja.mk (ho);clear oa HB OD;have oa:=Eb;have HB:=Jb;have Yp:=Ub;clear Eb Jb Ub ho hb hg hat));go_ret;exact ⟨_,by first|rfl|(simp [Ma,La] <;> rfl)|(simp [*,Ma,La] <;> rfl),by (with_reducible repeat (first|apply Kd.yb|apply Kd.xb|apply Kd.Pb));exact Yp.out,by repeat (first|(with_reducible first|exact HB.out|apply qa|apply ia|apply ta|refine ua ?_ Ra.out)|exact HB.out)⟩
           ·rw [if_neg Mn] at H;exact absurd H (by simp)
          ·rw [if_neg Xk] at H;have fu:(Nb == 4)=false:=beq_eq_false_iff_ne.mpr Xk;have iT:(Nb != 4)=true:=bne_iff_ne.mpr Xk;obtain rfl:=Option.some.inj H;have VO:wc.cell? ⟨ya,0,none⟩=some (.int .i64 Nb):=(ga oa.out 0).trans rfl;have UO:wc.cell? ⟨ya,1,none⟩=some (.int .i64 Ja):=(ga oa.out 1).trans rfl;have RO:wc.cell? ⟨ya,2,none⟩=some (.int .i64 Fa):=(ga oa.out 2).trans rfl;have QO:wc.cell? ⟨ya,3,none⟩=some (.int .i64 Ia):=(ga oa.out 3).trans rfl;have PO:wc.cell? ⟨ya,4,none⟩=some (.int .i64 zb):=(ga oa.out 4).trans rfl;have lX:wc.cell? ⟨ya,5,none⟩=some (.int .i64 qc):=(ga oa.out 5).trans rfl;have kX:wc.cell? ⟨ya,6,none⟩=some (.string nc):=(ga oa.out 6).trans rfl;have TN:=aa oa.out 0;have SN:=aa oa.out 1;have RN:=aa oa.out 2;have QN:=aa oa.out 3;have PN:=aa oa.out 4;have bW:=aa oa.out 5;have aW:=aa oa.out 6;go_wp2_with (first|((with_reducible refine qb (N:=24) rfl ?_);refine Kd.Bk (Kd.int .i64) _ 3 ?hg (N:=24) ?hd (xs:=([Ia]:List Int)) (inner:=[.int .i64 Ia]) (ok:=fun _=>True) (Sh:=fun _=>True) ?hr ?hp (fun _ hk=>hk) trivial (Below.refl _ _) (Nat.le_refl _) (by simp) ?_;(case hd=>rfl);(case hg=>rfl);(case hr=>first|(go_simp;done)|(go_simp;rfl));(case hp=>exact (Ed.one (show Kd.M (Kd.int .i64) _ _ _ Ia [.int .i64 Ia] from rfl) (Ed.none _ _)));intro iE vI vS hb Vn yf;clear Vn yf;(first|rw [← Bj.out] at vS|(simp only [Int.reduceToNat] at vS;rw [← Bj.out] at vS));have Eb:=ja.mk (Kd.Qd vS (Ga (by repeat (first|(with_reducible first|exact HB.out|apply qa|apply ia|apply ta|refine ua ?_ Ra.out)|exact HB.out))));have Jb:=ja.mk (Ta (g:=ya) (o:=.cells #[.int .i64 Nb,.int .i64 Ja,.int .i64 Fa,.int .i64 Ia,.int .i64 zb,.int .i64 qc,.string nc] 65 (0,0)) (by (with_reducible repeat (first|refine Aa ?_ _|refine Da ?_|refine Ba ?_ _));exact oa.out) hb);have Ub:=ja.mk (Na (by repeat (first|(with_reducible first|exact HB.out|apply qa|apply ia|apply ta|refine ua ?_ Ra.out)|exact HB.out)) hb);clear oa HB;have Oi:=Eb;have oa:=Jb;have HB:=Ub;clear Eb Jb Ub hb vS;have dz:vI.cell? ⟨ya,0,none⟩=some (.int .i64 Nb):=(ga oa.out 0).trans rfl;have bz:vI.cell? ⟨ya,1,none⟩=some (.int .i64 Ja):=(ga oa.out 1).trans rfl;have az:vI.cell? ⟨ya,2,none⟩=some (.int .i64 Fa):=(ga oa.out 2).trans rfl;have Zy:vI.cell? ⟨ya,3,none⟩=some (.int .i64 Ia):=(ga oa.out 3).trans rfl;have Yy:vI.cell? ⟨ya,4,none⟩=some (.int .i64 zb):=(ga oa.out 4).trans rfl;have ZW:vI.cell? ⟨ya,5,none⟩=some (.int .i64 qc):=(ga oa.out 5).trans rfl;have YW:vI.cell? ⟨ya,6,none⟩=some (.string nc):=(ga oa.out 6).trans rfl;have Gy:=aa oa.out 0;have Fy:=aa oa.out 1;have Ey:=aa oa.out 2;have Dy:=aa oa.out 3;have Cy:=aa oa.out 4;have RV:=aa oa.out 5;have QV:=aa oa.out 6)|((with_reducible refine ee (b:=.append) (xs:=#[.tmp 28,.tmp 31]) rfl ?_);at_builtin;refine Kd.ai (Kd.int .i64) (w0:=w) w.heap.size rfl (.tmp 28) (.tmp 31) 22 3 (.int .i64 0) 8 rfl Try.underlying22 info3 rfl (by decide) (by omega) iE Fg Fa [.int .i64 Fa] (fun _=>True) (fun _=>False) rfl rfl ?aP (fun _ hk=>hk.elim) ?aF ?aO ?aB ?aS ?aL ?_;(case aP=>exact rfl);(case aB=>exact (by repeat (first|(with_reducible first|exact HB.out|apply qa|apply ia|apply ta|refine ua ?_ Ra.out)|exact HB.out)));(case aF=>exact (fun _ _=>trivial));(case aO=>exact (by (with_reducible repeat (first|apply Kd.yb|apply Kd.xb|apply Kd.Pb));exact Oi.out));(case aS=>exact (Ga (by repeat (first|(with_reducible first|exact HB.out|apply qa|apply ia|apply ta|refine ua ?_ Ra.out)|exact HB.out))));(case aL=>have:=BZ.out;omega);intro B0 tI ho hb hg hat;rw [← gF.out] at ho;have Eb:=ja.mk (Dd (g:=ya) (o:=.cells #[.int .i64 Nb,.int .i64 Ja,.int .i64 Fa,.int .i64 Ia,.int .i64 zb,.int .i64 qc,.string nc] 65 (0,0)) (by (with_reducible repeat (first|refine Aa ?_ _|refine Da ?_|refine Ba ?_ _));exact oa.out) hg (Kd.Fm Oi.out oa.out (by decide)));have Jb:=ja.mk (hb);have Ub:=ja.mk (ho);clear oa HB Oi;have oa:=Eb;have HB:=Jb;have OD:=Ub;clear Eb Jb Ub ho hb hg hat;have DH:tI.cell? ⟨ya,0,none⟩=some (.int .i64 Nb):=(ga oa.out 0).trans rfl;have CH:tI.cell? ⟨ya,1,none⟩=some (.int .i64 Ja):=(ga oa.out 1).trans rfl;have BH:tI.cell? ⟨ya,2,none⟩=some (.int .i64 Fa):=(ga oa.out 2).trans rfl;have AH:tI.cell? ⟨ya,3,none⟩=some (.int .i64 Ia):=(ga oa.out 3).trans rfl;have zH:tI.cell? ⟨ya,4,none⟩=some (.int .i64 zb):=(ga oa.out 4).trans rfl;have OO:tI.cell? ⟨ya,5,none⟩=some (.int .i64 qc):=(ga oa.out 5).trans rfl;have MO:tI.cell? ⟨ya,6,none⟩=some (.string nc):=(ga oa.out 6).trans rfl;have CG:=aa oa.out 0;have BG:=aa oa.out 1;have AG:=aa oa.out 2;have zG:=aa oa.out 3;have yG:=aa oa.out 4;have NN:=aa oa.out 5;have MN:=aa oa.out 6));go_ret;exact ⟨_,by first|rfl|(simp [Ma,La] <;> rfl)|(simp [*,Ma,La] <;> rfl),by (with_reducible repeat (first|apply Kd.yb|apply Kd.xb|apply Kd.Pb));exact OD.out,by repeat (first|(with_reducible first|exact HB.out|apply qa|apply ia|apply ta|refine ua ?_ Ra.out)|exact HB.out)⟩
         ·rw [if_neg Zp] at H;exact absurd H (by simp)
        ·rw [if_neg Qo] at H;have Bm:decide (0 ≤ Fa)=false:=decide_eq_false Qo;clear Qo
         by_cases wJ:Nb=4
         ·rw [if_pos wJ] at H;have kZ:(Nb == 4)=true:=beq_iff_eq.mpr wJ;have Xab:(Nb != 4)=false:=bne_eq_false_iff_eq.mpr wJ;clear wJ
          by_cases zI:Fg.length < 17592186044416
          ·rw [if_pos zI] at H;have Gac:=ja.mk zI;clear zI;obtain ⟨Kr,Au⟩:∃ y_:List Int,y_=(Fg ++ [zb]):=⟨_,rfl⟩;replace H:(some Kr)=some r:=by first|(rw [Au];with_reducible exact H)|(have Ie:=(Option.bind_some _ _).symm.trans H;rw [Au];with_reducible exact Ie)|(have Ie:=(Option.bind_some _ _).symm.trans H;with_reducible exact Ie)|with_reducible exact H|(rw [Au];exact H)|exact H
           have yP:=ja.mk Au;clear Au;obtain rfl:=Option.some.inj H;have yH:wc.cell? ⟨ya,0,none⟩=some (.int .i64 Nb):=(ga oa.out 0).trans rfl;have xH:wc.cell? ⟨ya,1,none⟩=some (.int .i64 Ja):=(ga oa.out 1).trans rfl;have wH:wc.cell? ⟨ya,2,none⟩=some (.int .i64 Fa):=(ga oa.out 2).trans rfl;have vH:wc.cell? ⟨ya,3,none⟩=some (.int .i64 Ia):=(ga oa.out 3).trans rfl;have uH:wc.cell? ⟨ya,4,none⟩=some (.int .i64 zb):=(ga oa.out 4).trans rfl;have Zaj:wc.cell? ⟨ya,5,none⟩=some (.int .i64 qc):=(ga oa.out 5).trans rfl;have Yaj:wc.cell? ⟨ya,6,none⟩=some (.string nc):=(ga oa.out 6).trans rfl;have xG:=aa oa.out 0;have wG:=aa oa.out 1;have vG:=aa oa.out 2;have uG:=aa oa.out 3;have tG:=aa oa.out 4;have Rag:=aa oa.out 5;have Qag:=aa oa.out 6;go_wp2_with (first|((with_reducible refine qb (N:=24) rfl ?_);refine Kd.Bk (Kd.int .i64) _ 3 ?hg (N:=24) ?hd (xs:=([Ia]:List Int)) (inner:=[.int .i64 Ia]) (ok:=fun _=>True) (Sh:=fun _=>True) ?hr ?hp (fun _ hk=>hk) trivial (Below.refl _ _) (Nat.le_refl _) (by simp) ?_;(case hd=>rfl);(case hg=>rfl);(case hr=>first|(go_simp;done)|(go_simp;rfl));(case hp=>exact (Ed.one (show Kd.M (Kd.int .i64) _ _ _ Ia [.int .i64 Ia] from rfl) (Ed.none _ _)));intro iE GU uS hb Vn yf;clear Vn yf;(first|rw [← Bj.out] at uS|(simp only [Int.reduceToNat] at uS;rw [← Bj.out] at uS));have Eb:=ja.mk (Kd.Qd uS (Ga (by repeat (first|(with_reducible first|exact HB.out|apply qa|apply ia|apply ta|refine ua ?_ Ra.out)|exact HB.out))));have Jb:=ja.mk (Ta (g:=ya) (o:=.cells #[.int .i64 Nb,.int .i64 Ja,.int .i64 Fa,.int .i64 Ia,.int .i64 zb,.int .i64 qc,.string nc] 65 (0,0)) (by (with_reducible repeat (first|refine Aa ?_ _|refine Da ?_|refine Ba ?_ _));exact oa.out) hb);have Ub:=ja.mk (Na (by repeat (first|(with_reducible first|exact HB.out|apply qa|apply ia|apply ta|refine ua ?_ Ra.out)|exact HB.out)) hb);clear oa HB;have Oi:=Eb;have oa:=Jb;have HB:=Ub;clear Eb Jb Ub hb uS;have tH:GU.cell? ⟨ya,0,none⟩=some (.int .i64 Nb):=(ga oa.out 0).trans rfl;have sH:GU.cell? ⟨ya,1,none⟩=some (.int .i64 Ja):=(ga oa.out 1).trans rfl;have rH:GU.cell? ⟨ya,2,none⟩=some (.int .i64 Fa):=(ga oa.out 2).trans rfl;have qH:GU.cell? ⟨ya,3,none⟩=some (.int .i64 Ia):=(ga oa.out 3).trans rfl;have pH:GU.cell? ⟨ya,4,none⟩=some (.int .i64 zb):=(ga oa.out 4).trans rfl;have VW:GU.cell? ⟨ya,5,none⟩=some (.int .i64 qc):=(ga oa.out 5).trans rfl;have UW:GU.cell? ⟨ya,6,none⟩=some (.string nc):=(ga oa.out 6).trans rfl;have sG:=aa oa.out 0;have rG:=aa oa.out 1;have qG:=aa oa.out 2;have pG:=aa oa.out 3;have oG:=aa oa.out 4;have NV:=aa oa.out 5;have MV:=aa oa.out 6)|((with_reducible refine ee (b:=.append) (xs:=#[.tmp 36,.tmp 39]) rfl ?_);at_builtin;refine Kd.ai (Kd.int .i64) (w0:=w) w.heap.size rfl (.tmp 36) (.tmp 39) 22 3 (.int .i64 0) 8 rfl Try.underlying22 info3 rfl (by decide) (by omega) iE Fg zb [.int .i64 zb] (fun _=>True) (fun _=>False) rfl rfl ?aP (fun _ hk=>hk.elim) ?aF ?aO ?aB ?aS ?aL ?_;(case aP=>exact rfl);(case aB=>exact (by repeat (first|(with_reducible first|exact HB.out|apply qa|apply ia|apply ta|refine ua ?_ Ra.out)|exact HB.out)));(case aF=>exact (fun _ _=>trivial));(case aO=>exact (by (with_reducible repeat (first|apply Kd.yb|apply Kd.xb|apply Kd.Pb));exact Oi.out));(case aS=>exact (Ga (by repeat (first|(with_reducible first|exact HB.out|apply qa|apply ia|apply ta|refine ua ?_ Ra.out)|exact HB.out))));(case aL=>have:=Gac.out;omega);intro m0 EY ho hb hg hat;rw [← yP.out] at ho;have Eb:=ja.mk (Dd (g:=ya) (o:=.cells #[.int .i64 Nb,.int .i64 Ja,.int .i64 Fa,.int .i64 Ia,.int .i64 zb,.int .i64 qc,.string nc] 65 (0,0)) (by (with_reducible repeat (first|refine Aa ?_ _|refine Da ?_|refine Ba ?_ _));exact oa.out) hg (Kd.Fm Oi.out oa.out (by decide)));have Jb:=ja.mk (hb);have Ub:=ja.mk (ho);clear oa HB Oi;have oa:=Eb;have HB:=Jb;have ND:=Ub;clear Eb Jb Ub ho hb hg hat));go_ret;exact ⟨_,by first|rfl|(simp [Ma,La] <;> rfl)|(simp [*,Ma,La] <;> rfl),by (with_reducible repeat (first|apply Kd.yb|apply Kd.xb|apply Kd.Pb));exact ND.out,by repeat (first|(with_reducible first|exact HB.out|apply qa|apply ia|apply ta|refine ua ?_ Ra.out)|exact HB.out)⟩
          ·rw [if_neg zI] at H;exact absurd H (by simp)
         ·rw [if_neg wJ] at H;have kZ:(Nb == 4)=false:=beq_eq_false_iff_ne.mpr wJ;have Xab:(Nb != 4)=true:=bne_iff_ne.mpr wJ;obtain rfl:=Option.some.inj H;have oH:wc.cell? ⟨ya,0,none⟩=some (.int .i64 Nb):=(ga oa.out 0).trans rfl;have nH:wc.cell? ⟨ya,1,none⟩=some (.int .i64 Ja):=(ga oa.out 1).trans rfl;have mH:wc.cell? ⟨ya,2,none⟩=some (.int .i64 Fa):=(ga oa.out 2).trans rfl;have lH:wc.cell? ⟨ya,3,none⟩=some (.int .i64 Ia):=(ga oa.out 3).trans rfl;have kH:wc.cell? ⟨ya,4,none⟩=some (.int .i64 zb):=(ga oa.out 4).trans rfl;have Vaj:wc.cell? ⟨ya,5,none⟩=some (.int .i64 qc):=(ga oa.out 5).trans rfl;have Uaj:wc.cell? ⟨ya,6,none⟩=some (.string nc):=(ga oa.out 6).trans rfl;have nG:=aa oa.out 0;have mG:=aa oa.out 1;have lG:=aa oa.out 2;have kG:=aa oa.out 3;have jG:=aa oa.out 4;have Nag:=aa oa.out 5;have Mag:=aa oa.out 6;go_wp2_with (first|((with_reducible refine qb (N:=24) rfl ?_);refine Kd.Bk (Kd.int .i64) _ 3 ?hg (N:=24) ?hd (xs:=([Ia]:List Int)) (inner:=[.int .i64 Ia]) (ok:=fun _=>True) (Sh:=fun _=>True) ?hr ?hp (fun _ hk=>hk) trivial (Below.refl _ _) (Nat.le_refl _) (by simp) ?_;(case hd=>rfl);(case hg=>rfl);(case hr=>first|(go_simp;done)|(go_simp;rfl));(case hp=>exact (Ed.one (show Kd.M (Kd.int .i64) _ _ _ Ia [.int .i64 Ia] from rfl) (Ed.none _ _)));intro iE sI sS hb Vn yf;clear Vn yf;(first|rw [← Bj.out] at sS|(simp only [Int.reduceToNat] at sS;rw [← Bj.out] at sS));have Eb:=ja.mk (Kd.Qd sS (Ga (by repeat (first|(with_reducible first|exact HB.out|apply qa|apply ia|apply ta|refine ua ?_ Ra.out)|exact HB.out))));have Jb:=ja.mk (Ta (g:=ya) (o:=.cells #[.int .i64 Nb,.int .i64 Ja,.int .i64 Fa,.int .i64 Ia,.int .i64 zb,.int .i64 qc,.string nc] 65 (0,0)) (by (with_reducible repeat (first|refine Aa ?_ _|refine Da ?_|refine Ba ?_ _));exact oa.out) hb);have Ub:=ja.mk (Na (by repeat (first|(with_reducible first|exact HB.out|apply qa|apply ia|apply ta|refine ua ?_ Ra.out)|exact HB.out)) hb);clear oa HB;have Oi:=Eb;have oa:=Jb;have HB:=Ub;clear Eb Jb Ub hb sS;have dH:sI.cell? ⟨ya,0,none⟩=some (.int .i64 Nb):=(ga oa.out 0).trans rfl;have cH:sI.cell? ⟨ya,1,none⟩=some (.int .i64 Ja):=(ga oa.out 1).trans rfl;have bH:sI.cell? ⟨ya,2,none⟩=some (.int .i64 Fa):=(ga oa.out 2).trans rfl;have aH:sI.cell? ⟨ya,3,none⟩=some (.int .i64 Ia):=(ga oa.out 3).trans rfl;have ZG:sI.cell? ⟨ya,4,none⟩=some (.int .i64 zb):=(ga oa.out 4).trans rfl;have eO:sI.cell? ⟨ya,5,none⟩=some (.int .i64 qc):=(ga oa.out 5).trans rfl;have dO:sI.cell? ⟨ya,6,none⟩=some (.string nc):=(ga oa.out 6).trans rfl;have cG:=aa oa.out 0;have bG:=aa oa.out 1;have aG:=aa oa.out 2;have ZF:=aa oa.out 3;have YF:=aa oa.out 4;have gN:=aa oa.out 5;have fN:=aa oa.out 6));go_ret;exact ⟨_,by first|rfl|(simp [Ma,La] <;> rfl)|(simp [*,Ma,La] <;> rfl),by (with_reducible repeat (first|apply Kd.yb|apply Kd.xb|apply Kd.Pb));exact Oi.out,by repeat (first|(with_reducible first|exact HB.out|apply qa|apply ia|apply ta|refine ua ?_ Ra.out)|exact HB.out)⟩
       ·replace VA:=Bool.eq_false_iff.mpr VA;subst VA;have H1:(some (([]:List Int)))=some r:=by rw [if_neg (show ¬ (false=true) by decide)] at H;exact H
        clear H;have H:=H1;clear H1;obtain ⟨TZ,zu⟩:∃ y_:List Int,y_=(([]:List Int)):=⟨_,rfl⟩;replace H:(some TZ)=some r:=by first|(rw [zu];with_reducible exact H)|(have Ie:=(Option.bind_some _ _).symm.trans H;rw [zu];with_reducible exact Ie)|(have Ie:=(Option.bind_some _ _).symm.trans H;with_reducible exact Ie)|with_reducible exact H|(rw [zu];exact H)|exact H
        have xP:=ja.mk zu;clear zu;obtain rfl:=Option.some.inj H;go_wp2_with (first|((with_reducible refine qb (N:=42) rfl ?_);refine Kd.Bk (Kd.int .i64) _ 3 ?hg (N:=42) ?hd (xs:=([]:List Int)) (inner:=[]) (ok:=fun _=>True) (Sh:=fun _=>True) ?hr ?hp (fun _ hk=>hk) trivial (Below.refl _ _) (Nat.le_refl _) (by simp) ?_;(case hd=>rfl);(case hg=>rfl);(case hr=>first|(go_simp;done)|(go_simp;rfl));(case hp=>exact (Ed.none _ _));intro hal mU rS hb Vn yf;clear Vn yf;(first|rw [← xP.out] at rS|(simp only [Int.reduceToNat] at rS;rw [← xP.out] at rS));have Eb:=ja.mk (Kd.Qd rS (Ga (by repeat (first|(with_reducible first|exact HB.out|apply qa|apply ia|apply ta|refine ua ?_ Ra.out)|exact HB.out))));have Jb:=ja.mk (Ta (g:=ya) (o:=.cells #[.int .i64 Nb,.int .i64 Ja,.int .i64 Fa,.int .i64 Ia,.int .i64 zb,.int .i64 qc,.string nc] 65 (0,0)) (by (with_reducible repeat (first|refine Aa ?_ _|refine Da ?_|refine Ba ?_ _));exact oa.out) hb);have Ub:=ja.mk (Na (by repeat (first|(with_reducible first|exact HB.out|apply qa|apply ia|apply ta|refine ua ?_ Ra.out)|exact HB.out)) hb);clear oa HB;have WT:=Eb;have oa:=Jb;have HB:=Ub;clear Eb Jb Ub hb rS));go_ret;exact ⟨_,by first|rfl|(simp [Ma,La] <;> rfl)|(simp [*,Ma,La] <;> rfl),by (with_reducible repeat (first|apply Kd.yb|apply Kd.xb|apply Kd.Pb));exact WT.out,by repeat (first|(with_reducible first|exact HB.out|apply qa|apply ia|apply ta|refine ua ?_ Ra.out)|exact HB.out)⟩
mutual
def Dc.j0:Nat→List Bool→Int→Int→Int→Int→Int→Int→ByteArray→Option (List Bool)
 | 0,_,_,_,_,_,_,_,_=>none
 | k + 1,x1,Cc,Uc,Ic,Gc,ec,Nl,Ml=>(Ae.f k Cc Uc Ic Gc ec Nl Ml).bind fun t104=>(Dc.l0 k x1 t104 0)
def Dc.l0:Nat→List Bool→List Int→Int→Option (List Bool)
 | 0,_,_,_=>none
 | k + 1,x1,x4,x5=>if x5 < (x4.length:Int) then (if 0 ≤ x5 then (if 0 ≤ (rd x4 x5) then (if (rd x4 x5) < (x1.length:Int) then (Dc.l0 k (x1.set ((rd x4 x5):Int).toNat true) x4 (wrap64 (x5 + 1))) else (none)) else (none)) else (none)) else (some x1)
end
def Dc.f (k:Nat) (Nb:Int) (Ja:Int) (Fa:Int) (Ia:Int) (zb:Int) (qc:Int) (nc:ByteArray) (l1:List Bool):Option (List Bool):=(Ph.f Nb Ja Fa Ia zb qc nc).bind fun t102=>(if t102=true then (if 0 ≤ Ja then (if Ja < (l1.length:Int) then (Dc.j0 k (l1.set (Ja:Int).toNat false) Nb Ja Fa Ia zb qc nc) else (none)) else (none)) else (Dc.j0 k l1 Nb Ja Fa Ia zb qc nc))
theorem Dc.calls (k:Nat) (Nb:Int) (Ja:Int) (Fa:Int) (Ia:Int) (zb:Int) (qc:Int) (nc:ByteArray) (ZD:Nat→Prop) (Pm:Value) (l1:List Bool) (r:List Bool) (w0 w:World) (hB:Below w0.heap.size w0 w) (UM:Kd.R Kd.bool 4 w w0.heap.size ZD Pm l1) (h:Dc.f k Nb Ja Fa Ia zb qc nc l1=some r) :
  Calls Try.prog 44 #[.agg #[.int .i64 Nb,.int .i64 Ja,.int .i64 Fa,.int .i64 Ia,.int .i64 zb,.int .i64 qc,.string nc],Pm] w fun e w'=>e = .returned (.tuple #[])∧Kd.R Kd.bool 4 w' w0.heap.size (fun k_=>(ZD k_ ∨ w.heap.size ≤ k_)) Pm r∧Below w0.heap.size w0 w'∧Kept w w' (fun k_=>ZD k_):=by
 have Yz:=Try.underlying65;have bK:=ja.mk (show Kd.R Kd.bool 4 w w0.heap.size (fun k_=>(ZD k_ ∨ w.heap.size ≤ k_)) Pm l1 from Kd.Td UM (fun k_ hk=>(.inl hk)));have HK:=ja.mk (Kept.refl w (fun k_=>ZD k_));have HW0:=ja.mk hB.size;have HB:=ja.mk hB;clear hB;have H:((Ph.f Nb Ja Fa Ia zb qc nc).bind fun t102=>(if t102=true then (if 0 ≤ Ja then (if Ja < (l1.length:Int) then (Dc.j0 k (l1.set (Ja:Int).toNat false) Nb Ja Fa Ia zb qc nc) else (none)) else (none)) else (Dc.j0 k l1 Nb Ja Fa Ia zb qc nc)))=some r:=h;clear h;replace H:=Option.bind_eq_some_iff.mp H;obtain ⟨t102,cw,H⟩:=H;replace H:(if t102=true then (if 0 ≤ Ja then (if Ja < (l1.length:Int) then (Dc.j0 k (l1.set (Ja:Int).toNat false) Nb Ja Fa Ia zb qc nc) else (none)) else (none)) else (Dc.j0 k l1 Nb Ja Fa Ia zb qc nc))=some r:=H;have A3:=ja.mk cw;clear cw;have Q5:=ja.mk H;clear H;go_enter Try.func44,Try.ntmps44
 go_upto_if 7 with (first|((with_reducible refine qb (N:=2) rfl ?_);refine Gb ?hg (N:=2) ?hd (cs:=#[.int .i64 Nb,.int .i64 Ja,.int .i64 Fa,.int .i64 Ia,.int .i64 zb,.int .i64 qc,.string nc]) (t:=65) ?hr ?_;(case hd=>rfl);(case hg=>rfl);(case hr=>first|(go_simp;done)|(go_simp;rfl));intro ya hg w5 Rb hb;have Eb:=ja.mk (Kd.kf (by (with_reducible repeat (first|apply Kd.yb|apply Kd.xb|apply Kd.Pb));exact bK.out) hb);have Jb:=ja.mk (Kept.below (S:=(fun k_=>ZD k_)) (by repeat (first|(with_reducible first|exact HK.out|apply Kept.alloc|apply Kept.drewN|apply Kept.drew)|exact HK.out)) hb);have Ub:=ja.mk (Na (by repeat (first|(with_reducible first|exact HB.out|apply qa|apply ia|apply ta)|exact HB.out)) hb);have uc:=ja.mk (Rb);have lf:=ja.mk ((by rw [hg];exact (by first|exact HK.out.1|exact (show Kept w _ (fun k_=>ZD k_) from by repeat (first|(with_reducible first|exact HK.out|apply Kept.alloc|apply Kept.drewN|apply Kept.drew)|exact HK.out)).1):w.heap.size ≤ ya));have Vf:=ja.mk ((by rw [hg];exact (Ga (by repeat (first|(with_reducible first|exact HB.out|apply qa|apply ia|apply ta)|exact HB.out))):w0.heap.size ≤ ya));clear bK HK HB;have bK:=Eb;have HK:=Jb;have HB:=Ub;have oa:=uc;have xd:=lf;have Ra:=Vf;clear Eb Jb Ub uc lf Vf hb Rb hg;have Lp:w5.cell? ⟨ya,0,none⟩=some (.int .i64 Nb):=(ga oa.out 0).trans rfl;have Kp:w5.cell? ⟨ya,1,none⟩=some (.int .i64 Ja):=(ga oa.out 1).trans rfl;have Jp:w5.cell? ⟨ya,2,none⟩=some (.int .i64 Fa):=(ga oa.out 2).trans rfl;have Ip:w5.cell? ⟨ya,3,none⟩=some (.int .i64 Ia):=(ga oa.out 3).trans rfl;have Hp:w5.cell? ⟨ya,4,none⟩=some (.int .i64 zb):=(ga oa.out 4).trans rfl;have Ct:w5.cell? ⟨ya,5,none⟩=some (.int .i64 qc):=(ga oa.out 5).trans rfl;have Bt:w5.cell? ⟨ya,6,none⟩=some (.string nc):=(ga oa.out 6).trans rfl;have Ep:=aa oa.out 0;have Dp:=aa oa.out 1;have Cp:=aa oa.out 2;have Bp:=aa oa.out 3;have Ap:=aa oa.out 4;have Xs:=aa oa.out 5;have Ws:=aa oa.out 6)|((with_reducible refine mb (f:=73) rfl ?_);refine Mc (some 7) rfl rfl Try.func73 (by kernel_rfl) rfl #[.agg #[.int .i64 Nb,.int .i64 Ja,.int .i64 Fa,.int .i64 Ia,.int .i64 zb,.int .i64 qc,.string nc]] rfl (by (try simp only [List.map_toArray,List.map_cons,List.map_nil]);first|done|rfl|(simp only [List.length_drop,List.length_take];rfl)) ?_;(with_reducible refine (Ph.calls Nb Ja Fa Ia zb qc nc t102 _ A3.out).mono ?_);rintro e w7 ⟨rfl,hb⟩;refine ⟨_,rfl,?_⟩;have Eb:=ja.mk (Kd.kf (by (with_reducible repeat (first|apply Kd.yb|apply Kd.xb|apply Kd.Pb));exact bK.out) hb);have Jb:=ja.mk (Ta (g:=ya) (o:=.cells #[.int .i64 Nb,.int .i64 Ja,.int .i64 Fa,.int .i64 Ia,.int .i64 zb,.int .i64 qc,.string nc] 65 (0,0)) (by (with_reducible repeat (first|refine Aa ?_ _|refine Da ?_|refine Ba ?_ _));exact oa.out) hb);have Ub:=ja.mk (Kept.below (S:=(fun k_=>ZD k_)) (by repeat (first|(with_reducible first|exact HK.out|apply Kept.alloc|apply Kept.drewN|apply Kept.drew|refine Kept.setCell ?_ (.inr xd.out) _)|exact HK.out)) hb);have uc:=ja.mk (Na (by repeat (first|(with_reducible first|exact HB.out|apply qa|apply ia|apply ta|refine ua ?_ Ra.out)|exact HB.out)) hb);clear bK oa HK HB;have bK:=Eb;have oa:=Jb;have HK:=Ub;have HB:=uc;clear Eb Jb Ub uc;(try clear hb);(try clear ni);(try clear hk);(try clear hi)))
 (try simp only [Act.put,List.setIfInBounds_toArray,List.set_cons_zero,List.set_cons_succ])
 go_cut [] (fun wc=>∃ (kq:Nat) (rR:List Bool),ja (Dc.j0 kq rR Nb Ja Fa Ia zb qc nc=some r)∧ja (kq ≤ k)∧ja (Kd.R Kd.bool 4 wc w0.heap.size (fun k_=>(ZD k_ ∨ w.heap.size ≤ k_)) Pm rR)∧ja (wc.heap[ya]? = some (.cells #[.int .i64 Nb,.int .i64 Ja,.int .i64 Fa,.int .i64 Ia,.int .i64 zb,.int .i64 qc,.string nc] 65 (0,0)))∧ja (Kept w wc (fun k_=>ZD k_))∧ja (Below w0.heap.size w0 wc))
 case first =>
  have H:=Q5.out;clear Q5
  by_cases c8:t102=true
  ·subst c8;have H1:(if 0 ≤ Ja then (if Ja < (l1.length:Int) then (Dc.j0 k (l1.set (Ja:Int).toNat false) Nb Ja Fa Ia zb qc nc) else (none)) else (none))=some r:=by rw [if_pos rfl] at H;exact H
   clear H;have H:=H1;clear H1
   by_cases c9:0 ≤ Ja
   ·rw [if_pos c9] at H;have iB:decide (0 ≤ Ja)=true:=decide_eq_true c9;clear c9;(first|rw [iB]|(simp only [ic,jc];rw [iB])|skip)
    by_cases ku:Ja < (l1.length:Int)
    ·rw [if_pos ku] at H;have vw:decide (Ja < (l1.length:Int))=true:=decide_eq_true ku;clear ku;obtain ⟨Bw,Du⟩:∃ y_:List Bool,y_=(l1.set (Ja:Int).toNat false):=⟨_,rfl⟩;replace H:(Dc.j0 k Bw Nb Ja Fa Ia zb qc nc)=some r:=by first|(rw [Du];with_reducible exact H)|(have Ie:=(Option.bind_some _ _).symm.trans H;rw [Du];with_reducible exact Ie)|(have Ie:=(Option.bind_some _ _).symm.trans H;with_reducible exact Ie)|with_reducible exact H|(rw [Du];exact H)|exact H
     have OT:=ja.mk Du;clear Du;have H':=ja.mk H;clear H;have kr:w7.cell? ⟨ya,0,none⟩=some (.int .i64 Nb):=(ga oa.out 0).trans rfl;have jr:w7.cell? ⟨ya,1,none⟩=some (.int .i64 Ja):=(ga oa.out 1).trans rfl;have ir:w7.cell? ⟨ya,2,none⟩=some (.int .i64 Fa):=(ga oa.out 2).trans rfl;have gr:w7.cell? ⟨ya,3,none⟩=some (.int .i64 Ia):=(ga oa.out 3).trans rfl;have er:w7.cell? ⟨ya,4,none⟩=some (.int .i64 zb):=(ga oa.out 4).trans rfl;have eP:w7.cell? ⟨ya,5,none⟩=some (.int .i64 qc):=(ga oa.out 5).trans rfl;have dP:w7.cell? ⟨ya,6,none⟩=some (.string nc):=(ga oa.out 6).trans rfl;have Kq:=aa oa.out 0;have Jq:=aa oa.out 1;have Iq:=aa oa.out 2;have Hq:=aa oa.out 3;have Gq:=aa oa.out 4;have cO:=aa oa.out 5;have bO:=aa oa.out 6;have xI:0 ≤ (Ja:Int):=Sa;have wI:(Ja:Int) < ((l1.length:Int):Int):=Sa;obtain ⟨oD,Fu,zL,PS,O2,Xan,ZT⟩:=Kd.Yn bK.out (by omega);(first|cases zL|(injection zL with Ln rE sE;(first|subst Ln|(injection Ln with Ln;subst Ln));subst sE;clear rE));have Y5:=ja.mk PS;have Rao:=ja.mk ZT;clear PS O2 ZT;have E5:=ja.mk (show (ZD oD ∨ w.heap.size ≤ oD) from (bK.out.1 _ rfl));obtain ⟨gD,S1⟩:=Kd.zl false bK.out (Ja:Int) xI wI;replace xI:=eq_true xI;replace wI:=eq_true wI;have C5:=Kd.Hr bK.out (Ja:Int) false;go_wp2_with (first|((with_reducible refine Yh (t:=4) (p:=11) rfl ?_);refine Lg (t:=4) (p:=11) (v:=?cal) (w1:=(w7.setCell ⟨oD,(Ja:Int).toNat,none⟩ (.bool false))) ?hg ?ho ?hn ?hr ?_;(case ho=>rfl);(case hg=>rfl);(case hn=>rfl);(case hr=>first|(go_simp;done)|(go_simp;rfl));intro Mz hw;have hg:w7.grownBy Mz (some oD):=(by rw [hw];exact C5.2);have ey:Kd.R Kd.bool 4 Mz w0.heap.size (fun k_=>(ZD k_ ∨ w.heap.size ≤ k_)) (.slice (some ⟨oD,0,none⟩) l1.length Fu) Bw:=(by rw [hw,OT.out];exact C5.1);clear C5;have Eb:=ja.mk (ey);have Jb:=ja.mk (Dd (g:=ya) (o:=.cells #[.int .i64 Nb,.int .i64 Ja,.int .i64 Fa,.int .i64 Ia,.int .i64 zb,.int .i64 qc,.string nc] 65 (0,0)) (by (with_reducible repeat (first|refine Aa ?_ _|refine Da ?_|refine Ba ?_ _));exact oa.out) hg (Kd.Fm bK.out oa.out (by decide)));have Ub:=ja.mk ((by rw [hw];exact ua (HB.out) Y5.out:Below w0.heap.size w0 Mz));have uc:=ja.mk (Kept.uu (S:=(fun k_=>ZD k_)) hg (by repeat (first|(with_reducible first|exact HK.out|apply Kept.alloc|apply Kept.drewN|apply Kept.drew|refine Kept.setCell ?_ (.inr xd.out) _)|exact HK.out)) (fun k_ e_=>(bK.out.1 k_ e_)));clear bK oa HB HK;have bK:=Eb;have oa:=Jb;have HB:=Ub;have HK:=uc;clear Eb Jb Ub uc hg hw ey))
     go_meet
     case rel=>exact ⟨_,(Bw),H',⟨by first|omega|exact Nat.le_refl _⟩,⟨by (with_reducible repeat (first|apply Kd.yb|apply Kd.xb|apply Kd.Pb));exact bK.out⟩,⟨by (with_reducible repeat (first|refine Aa ?_ _|refine Da ?_|refine Ba ?_ _));exact oa.out⟩,⟨by repeat (first|(with_reducible first|exact HK.out|apply Kept.alloc|apply Kept.drewN|apply Kept.drew|refine Kept.setCell ?_ (.inr xd.out) _)|exact HK.out)⟩,⟨by repeat (first|(with_reducible first|exact HB.out|apply qa|apply ia|apply ta|refine ua ?_ Ra.out)|exact HB.out)⟩⟩
    ·rw [if_neg ku] at H;exact absurd H (by simp)
   ·rw [if_neg c9] at H;exact absurd H (by simp)
  ·replace c8:=Bool.eq_false_iff.mpr c8;subst c8;have H1:(Dc.j0 k l1 Nb Ja Fa Ia zb qc nc)=some r:=by rw [if_neg (show ¬ (false=true) by decide)] at H;exact H
   clear H;have H:=H1;clear H1;have H':=ja.mk H;clear H;go_wp2
   go_meet
   case rel=>exact ⟨_,(l1),H',⟨by first|omega|exact Nat.le_refl _⟩,⟨by (with_reducible repeat (first|apply Kd.yb|apply Kd.xb|apply Kd.Pb));exact bK.out⟩,⟨by (with_reducible repeat (first|refine Aa ?_ _|refine Da ?_|refine Ba ?_ _));exact oa.out⟩,⟨by repeat (first|(with_reducible first|exact HK.out|apply Kept.alloc|apply Kept.drewN|apply Kept.drew|refine Kept.setCell ?_ (.inr xd.out) _)|exact HK.out)⟩,⟨by repeat (first|(with_reducible first|exact HB.out|apply qa|apply ia|apply ta|refine ua ?_ Ra.out)|exact HB.out)⟩⟩
 case rest =>
  clear Q5
  try clear c1
  try clear p1
  try clear q1
  try clear hx1
  try clear p2
  try clear c4
  try clear c7
  try clear c8
  try clear c9
  try clear iB
  try clear ku
  try clear vw
  try clear xI
  try clear wI
  try clear kS
  try clear T1
  try clear kr
  try clear jr
  try clear ir
  try clear gr
  try clear er
  try clear eP
  try clear dP
  try clear Lp
  try clear Kp
  try clear Jp
  try clear Ip
  try clear Hp
  try clear Ct
  try clear Bt
  try clear Kq
  try clear Jq
  try clear Iq
  try clear Hq
  try clear Gq
  try clear cO
  try clear bO
  try clear Ep
  try clear Dp
  try clear Cp
  try clear Bp
  try clear Ap
  try clear Xs
  try clear Ws
  try clear gD
  try clear xI
  try clear wI
  obtain ⟨kq,rR,HA,HJ3,Hu,oa,HK,HB⟩:=hcut;cases kq with
  | zero=>exact absurd HA.out (by simp [Dc.j0])
  | succ gV =>
   have H:=HA.out;clear HA;simp only [Dc.j0] at H;replace H:=Option.bind_eq_some_iff.mp H;obtain ⟨t104,UJ,H⟩:=H;replace H:(Dc.l0 gV rR t104 0)=some r:=H;have QZ:=ja.mk UJ;clear UJ;have H':=ja.mk H;clear H;have pn:wc.cell? ⟨ya,0,none⟩=some (.int .i64 Nb):=(ga oa.out 0).trans rfl;have kn:wc.cell? ⟨ya,1,none⟩=some (.int .i64 Ja):=(ga oa.out 1).trans rfl;have jn:wc.cell? ⟨ya,2,none⟩=some (.int .i64 Fa):=(ga oa.out 2).trans rfl;have gn:wc.cell? ⟨ya,3,none⟩=some (.int .i64 Ia):=(ga oa.out 3).trans rfl;have en:wc.cell? ⟨ya,4,none⟩=some (.int .i64 zb):=(ga oa.out 4).trans rfl;have rC:wc.cell? ⟨ya,5,none⟩=some (.int .i64 qc):=(ga oa.out 5).trans rfl;have qC:wc.cell? ⟨ya,6,none⟩=some (.string nc):=(ga oa.out 6).trans rfl;have dn:=aa oa.out 0;have bn:=aa oa.out 1;have Zm:=aa oa.out 2;have Ym:=aa oa.out 3;have Xm:=aa oa.out 4;have SB:=aa oa.out 5;have RB:=aa oa.out 6;go_wp2_with (first|((with_reducible refine mb (f:=74) rfl ?_);refine Mc (some 13) rfl rfl Try.func74 (by kernel_rfl) rfl #[.agg #[.int .i64 Nb,.int .i64 Ja,.int .i64 Fa,.int .i64 Ia,.int .i64 zb,.int .i64 qc,.string nc]] rfl (by (try simp only [List.map_toArray,List.map_cons,List.map_nil]);first|done|rfl|(simp only [List.length_drop,List.length_take];rfl)) ?_;(with_reducible refine (Ae.calls gV Nb Ja Fa Ia zb qc nc t104 _ QZ.out).mono ?_);rintro e gK ⟨JU,rfl,Qi,hb⟩;refine ⟨_,rfl,?_⟩;have Eb:=ja.mk (Kd.kf (by (with_reducible repeat (first|apply Kd.yb|apply Kd.xb|apply Kd.Pb));exact Hu.out) hb);have Jb:=ja.mk (Kd.Qd (Kd.JT (M:=fun k_=>(ZD k_ ∨ w.heap.size ≤ k_)) Qi (by first|exact HK.out.1|exact (show Kept w _ (fun k_=>ZD k_) from by repeat (first|(with_reducible first|exact HK.out|apply Kept.alloc|apply Kept.drewN|apply Kept.drew|refine Kept.setCell ?_ (.inr xd.out) _)|exact HK.out)).1) (fun k_ h_=>.inr h_)) (Ga (by repeat (first|(with_reducible first|exact HB.out|apply qa|apply ia|apply ta|refine ua ?_ Ra.out)|exact HB.out))));have Ub:=ja.mk (Ta (g:=ya) (o:=.cells #[.int .i64 Nb,.int .i64 Ja,.int .i64 Fa,.int .i64 Ia,.int .i64 zb,.int .i64 qc,.string nc] 65 (0,0)) (by (with_reducible repeat (first|refine Aa ?_ _|refine Da ?_|refine Ba ?_ _));exact oa.out) hb);have uc:=ja.mk (Kept.below (S:=(fun k_=>ZD k_)) (by repeat (first|(with_reducible first|exact HK.out|apply Kept.alloc|apply Kept.drewN|apply Kept.drew|refine Kept.setCell ?_ (.inr xd.out) _)|exact HK.out)) hb);have lf:=ja.mk (Na (by repeat (first|(with_reducible first|exact HB.out|apply qa|apply ia|apply ta|refine ua ?_ Ra.out)|exact HB.out)) hb);clear Hu oa HK HB;have Hu:=Eb;have Ds:=Jb;have oa:=Ub;have HK:=uc;have HB:=lf;clear Eb Jb Ub uc lf;(try clear hb);(try clear ni);(try clear hk);(try clear hi);(try clear Qi)))
   go_loopg [5] gV (fun kq v5 w'=>∃ (mF:List Bool) (Km:Int),v5 = .int .i64 Km∧ja (Dc.l0 kq mF t104 Km=some r)∧ja (kq ≤ gV)∧ja (Kd.R Kd.bool 4 w' w0.heap.size (fun k_=>(ZD k_ ∨ w.heap.size ≤ k_)) Pm mF)∧ja (Kd.R (Kd.int .i64) 3 w' w0.heap.size (fun k_=>(ZD k_ ∨ w.heap.size ≤ k_)) JU t104)∧ja (w'.heap[ya]? = some (.cells #[.int .i64 Nb,.int .i64 Ja,.int .i64 Fa,.int .i64 Ia,.int .i64 zb,.int .i64 qc,.string nc] 65 (0,0)))∧ja (Kept w w' (fun k_=>ZD k_))∧ja (Below w0.heap.size w0 w'))
   case atStart=>exact ⟨(rR),(0),(by first|rfl|(simp;done)|(simp [*];done)),H',⟨Nat.le_refl _⟩,⟨by (with_reducible repeat (first|apply Kd.yb|apply Kd.xb|apply Kd.Pb));exact Hu.out⟩,⟨by (with_reducible repeat (first|apply Kd.yb|apply Kd.xb|apply Kd.Pb));exact Kd.Td Ds.out (fun _ hk=>hk.1)⟩,⟨by (with_reducible repeat (first|refine Aa ?_ _|refine Da ?_|refine Ba ?_ _));exact oa.out⟩,⟨by repeat (first|(with_reducible first|exact HK.out|apply Kept.alloc|apply Kept.drewN|apply Kept.drew|refine Kept.setCell ?_ (.inr xd.out) _)|exact HK.out)⟩,⟨by repeat (first|(with_reducible first|exact HB.out|apply qa|apply ia|apply ta|refine ua ?_ Ra.out)|exact HB.out)⟩⟩
   case round =>
    clear H'
    try clear c1
    try clear p1
    try clear q1
    try clear hx1
    try clear p2
    try clear c4
    try clear c7
    try clear c8
    try clear c9
    try clear iB
    try clear ku
    try clear vw
    try clear xI
    try clear wI
    try clear kS
    try clear T1
    try clear kr
    try clear jr
    try clear ir
    try clear gr
    try clear er
    try clear eP
    try clear dP
    try clear pn
    try clear kn
    try clear jn
    try clear gn
    try clear en
    try clear rC
    try clear qC
    try clear Lp
    try clear Kp
    try clear Jp
    try clear Ip
    try clear Hp
    try clear Ct
    try clear Bt
    try clear Kq
    try clear Jq
    try clear Iq
    try clear Hq
    try clear Gq
    try clear cO
    try clear bO
    try clear dn
    try clear bn
    try clear Zm
    try clear Ym
    try clear Xm
    try clear SB
    try clear RB
    try clear Ep
    try clear Dp
    try clear Cp
    try clear Bp
    try clear Ap
    try clear Xs
    try clear Ws
    try clear gD
    try clear p1
    try clear xI
    try clear p2
    try clear q1
    try clear wI
    (try clear HA);(try clear Xo);(try clear Hu);(try clear JJ);(try clear oa);(try clear HK);(try clear HB);obtain ⟨mF,Km,rfl,HA,Xo,Hu,JJ,oa,HK,HB⟩:=hrel;cases gk with
    | zero=>exact absurd HA.out (by simp [Dc.l0])
    | succ k2 =>
     have H:=HA.out;clear HA;simp only [Dc.l0] at H
     by_cases Zp:Km < (t104.length:Int)
     ·rw [if_pos Zp] at H;have Nn:decide (Km < (t104.length:Int))=true:=decide_eq_true Zp;clear Zp
      by_cases Xk:0 ≤ Km
      ·rw [if_pos Xk] at H;have fu:decide (0 ≤ Km)=true:=decide_eq_true Xk;clear Xk
       by_cases Mn:0 ≤ (rd t104 Km)
       ·rw [if_pos Mn] at H;have Wr:decide (0 ≤ (rd t104 Km))=true:=decide_eq_true Mn;clear Mn
        by_cases Vr:(rd t104 Km) < (mF.length:Int)
        ·rw [if_pos Vr] at H;have yJ:decide ((rd t104 Km) < (mF.length:Int))=true:=decide_eq_true Vr;clear Vr;obtain ⟨Fg,Hf⟩:∃ y_:List Bool,y_=(mF.set ((rd t104 Km):Int).toNat true):=⟨_,rfl⟩;replace H:(Dc.l0 k2 Fg t104 (wrap64 (Km + 1)))=some r:=by first|(rw [Hf];with_reducible exact H)|(have Ie:=(Option.bind_some _ _).symm.trans H;rw [Hf];with_reducible exact Ie)|(have Ie:=(Option.bind_some _ _).symm.trans H;with_reducible exact Ie)|with_reducible exact H|(rw [Hf];exact H)|exact H
         have Bj:=ja.mk Hf;clear Hf;have H':=ja.mk H;clear H;obtain ⟨hav,B3,MX⟩:=Kd.ze JJ.out;subst MX;have Xv:0 ≤ (Km:Int):=Sa;have Wv:Km < (t104.length:Int):=Sa;obtain ⟨yw,EL,mq⟩:=Kd.Zf (Kd.Wc JJ.out).2.2 Km Xv Wv;cases EL;replace Xv:=eq_true Xv;replace Wv:=eq_true Wv;have p22:0 ≤ ((rd t104 Km):Int):=Sa;have q22:((rd t104 Km):Int) < ((mF.length:Int):Int):=Sa;obtain ⟨FQ,Dab,zab,mab,kan,dau,uad⟩:=Kd.Yn Hu.out (by omega);(first|cases zab|(injection zab with Ln rE sE;(first|subst Ln|(injection Ln with Ln;subst Ln));subst sE;clear rE));have Vao:=ja.mk mab;have Sau:=ja.mk uad;clear mab kan uad;have Aao:=ja.mk (show (ZD FQ ∨ w.heap.size ≤ FQ) from (Hu.out.1 _ rfl));obtain ⟨Dal,Qam⟩:=Kd.zl false Hu.out ((rd t104 Km):Int) p22 q22;replace p22:=eq_true p22;replace q22:=eq_true q22;have cM:=Kd.Hr Hu.out ((rd t104 Km):Int) true;go_wp2_with (first|((with_reducible refine Yh (t:=4) (p:=25) rfl ?_);refine Lg (t:=4) (p:=25) (v:=?XZ) (w1:=(wr.setCell ⟨FQ,((rd t104 Km):Int).toNat,none⟩ (.bool true))) ?hg ?ho ?hn ?hr ?_;(case ho=>rfl);(case hg=>rfl);(case hn=>rfl);(case hr=>first|(go_simp;done)|(go_simp;rfl));intro Dw hw;have hg:wr.grownBy Dw (some FQ):=(by rw [hw];exact cM.2);have ey:Kd.R Kd.bool 4 Dw w0.heap.size (fun k_=>(ZD k_ ∨ w.heap.size ≤ k_)) (.slice (some ⟨FQ,0,none⟩) mF.length Dab) Fg:=(by rw [hw,Bj.out];exact cM.1);clear cM;have Eb:=ja.mk (ey);have Jb:=ja.mk (Kd.iI (v:=(.slice (some ⟨FQ,0,none⟩) mF.length Dab)) (by (with_reducible repeat (first|apply Kd.yb|apply Kd.xb|apply Kd.Pb));exact JJ.out) (Kd.wC Hu.out) (by decide) hg);have Ub:=ja.mk (Dd (g:=ya) (o:=.cells #[.int .i64 Nb,.int .i64 Ja,.int .i64 Fa,.int .i64 Ia,.int .i64 zb,.int .i64 qc,.string nc] 65 (0,0)) (by (with_reducible repeat (first|refine Aa ?_ _|refine Da ?_|refine Ba ?_ _));exact oa.out) hg (Kd.Fm Hu.out oa.out (by decide)));have uc:=ja.mk ((by rw [hw];exact ua (HB.out) Vao.out:Below w0.heap.size w0 Dw));have lf:=ja.mk (Kept.uu (S:=(fun k_=>ZD k_)) hg (by repeat (first|(with_reducible first|exact HK.out|apply Kept.alloc|apply Kept.drewN|apply Kept.drew|refine Kept.setCell ?_ (.inr xd.out) _)|exact HK.out)) (fun k_ e_=>(Hu.out.1 k_ e_)));clear Hu JJ oa HB HK;have Hu:=Eb;have JJ:=Jb;have oa:=Ub;have HB:=uc;have HK:=lf;clear Eb Jb Ub uc lf hg hw ey))
         go_roundg k2
         case measure=>have:=HJ3.out;have:=Xo.out;omega
         case rel=>exact ⟨(Fg),(wrap64 (Km + 1)),(by first|rfl|(simp;done)|(simp [*];done)),H',⟨by have:=HJ3.out;have:=Xo.out;omega⟩,⟨by (with_reducible repeat (first|apply Kd.yb|apply Kd.xb|apply Kd.Pb));exact Hu.out⟩,⟨by (with_reducible repeat (first|apply Kd.yb|apply Kd.xb|apply Kd.Pb));exact JJ.out⟩,⟨by (with_reducible repeat (first|refine Aa ?_ _|refine Da ?_|refine Ba ?_ _));exact oa.out⟩,⟨by repeat (first|(with_reducible first|exact HK.out|apply Kept.alloc|apply Kept.drewN|apply Kept.drew|refine Kept.setCell ?_ (.inr xd.out) _)|exact HK.out)⟩,⟨by repeat (first|(with_reducible first|exact HB.out|apply qa|apply ia|apply ta|refine ua ?_ Ra.out)|exact HB.out)⟩⟩
        ·rw [if_neg Vr] at H;exact absurd H (by simp)
       ·rw [if_neg Mn] at H;exact absurd H (by simp)
      ·rw [if_neg Xk] at H;exact absurd H (by simp)
     ·rw [if_neg Zp] at H;have Nn:decide (Km < (t104.length:Int))=false:=decide_eq_false Zp;clear Zp;obtain rfl:=Option.some.inj H;obtain ⟨gav,aau,Han⟩:=Kd.ze JJ.out;subst Han;go_wp2
      first|go_end0|((try simp only [Exit.inBlock,Exit.then]);refine bodyPost_ret (results_none rfl _ _ _) rfl ?_)
      exact ⟨by first|rfl|(simp [Ma,La] <;> rfl)|(simp [*,Ma,La] <;> rfl),by (with_reducible repeat (first|apply Kd.yb|apply Kd.xb|apply Kd.Pb));exact Hu.out,by repeat (first|(with_reducible first|exact HB.out|apply qa|apply ia|apply ta|refine ua ?_ Ra.out)|exact HB.out),by repeat (first|(with_reducible first|exact HK.out|apply Kept.alloc|apply Kept.drewN|apply Kept.drew|refine Kept.setCell ?_ (.inr xd.out) _)|exact HK.out)⟩
theorem Yo {x:lg} (h:x.f0=1 ∨ x.f0=6):Li x=[x.f2]:=if_pos h
theorem Rz {x:lg} (h:x.f0=2):Li x=[x.f2,x.f3]:=by
 unfold Li;rw [if_neg (by omega),if_pos h]
theorem Qu {x:lg} (h:x.f0=3 ∨ x.f0=4):Li x=[x.f3] ++ (if 0 ≤ x.f2 then [x.f2] else []) ++ (if x.f0=4 then [x.f4] else []):=by
 unfold Li;rw [if_neg (by omega),if_neg (by omega),if_pos h]
theorem Zw {x:lg} (h1:¬ (x.f0=1 ∨ x.f0=6)) (h2:¬ x.f0=2) (h3:¬ (x.f0=3 ∨ x.f0=4)):Li x=[]:=by
 unfold Li;rw [if_neg h1,if_neg h2,if_neg h3]
theorem LC {x:lg} (ha:0 ≤ x.f2) (h4:x.f0=4):Li x=[x.f3] ++ [x.f2] ++ [x.f4]:=by rw [Qu (Or.inr h4),if_pos ha,if_pos h4]
theorem KC {x:lg} (ha:0 ≤ x.f2) (h3:x.f0=3 ∨ x.f0=4) (h4:¬ x.f0=4):Li x=[x.f3] ++ [x.f2]:=by rw [Qu h3,if_pos ha,if_neg h4];rfl
theorem JC {x:lg} (ha:¬ 0 ≤ x.f2) (h4:x.f0=4):Li x=[x.f3] ++ [x.f4]:=by rw [Qu (Or.inr h4),if_neg ha,if_pos h4];rfl
theorem IC {x:lg} (ha:¬ 0 ≤ x.f2) (h3:x.f0=3 ∨ x.f0=4) (h4:¬ x.f0=4):Li x=[x.f3]:=by rw [Qu h3,if_neg ha,if_neg h4];rfl
theorem GQ (x:lg):Ev (fun k=>td.f k x.f0 x.f1 x.f2 x.f3 x.f4 x.f5 x.f6) (Li x):=by
 unfold td.f;refine Ev.val ?_
 by_cases h1:x.f0=1
 ·rw [Yo (Or.inl h1)];refine Ev.pos h1 (Ev.step (fun k=>by rw [td.j0]) ?_);exact Ev.pos (by rw [h1];rfl) (Ev.pos (by simp) (Ev.now _))
 refine Ev.neg h1 (Ev.step (fun k=>by rw [td.j0]) ?_)
 by_cases h6:x.f0=6
 ·rw [Yo (Or.inr h6)];exact Ev.pos (by rw [h6];rfl) (Ev.pos (by simp) (Ev.now _))
 refine Ev.neg (by simp [h6]) ?_
 by_cases h2:x.f0=2
 ·rw [Rz h2];exact Ev.pos h2 (Ev.val (Ev.pos (by simp) (Ev.now _)))
 refine Ev.neg h2 ?_
 have key:∀ b:Bool,(b=true ↔ x.f0=3 ∨ x.f0=4)→Ev (fun k=>td.j1 k [] b x.f0 x.f1 x.f2 x.f3 x.f4 x.f5 x.f6) (Li x):=by
  intro b hb;refine Ev.step (fun k=>by rw [td.j1]) ?_
  by_cases GX:b=true
  ·have h34:=hb.1 GX;refine Ev.pos GX (Ev.pos (by simp) (Ev.val ?_))
   by_cases ha:0 ≤ x.f2
   ·refine Ev.pos ha (Ev.pos (by simp) (Ev.val ?_))
    by_cases h4:x.f0=4
    ·rw [LC ha h4];exact Ev.pos h4 (Ev.pos (by simp) (Ev.now _))
    ·rw [KC ha h34 h4];exact Ev.neg h4 (Ev.now _)
   ·refine Ev.neg ha ?_
    by_cases h4:x.f0=4
    ·rw [JC ha h4];exact Ev.pos h4 (Ev.pos (by simp) (Ev.now _))
    ·rw [IC ha h34 h4];exact Ev.neg h4 (Ev.now _)
  ·rw [Zw (fun h=>h.elim h1 h6) h2 (fun h=>GX (hb.2 h))];exact Ev.neg GX (Ev.now _)
 by_cases h3:x.f0=3
 ·exact Ev.pos h3 (key _ (by simp [h3]))
 ·exact Ev.neg h3 (key _ (by simp [h3]))
theorem KX (x:lg):Ev (fun k=>Ae.f k x.f0 x.f1 x.f2 x.f3 x.f4 x.f5 x.f6) (Li x):=by
 unfold Ae.f
 by_cases h1:x.f0=1
 ·rw [Yo (Or.inl h1)];refine Ev.pos h1 (Ev.step (fun k=>by rw [Ae.j0]) ?_);exact Ev.pos (by rw [h1];rfl) (Ev.now _)
 refine Ev.neg h1 (Ev.step (fun k=>by rw [Ae.j0]) ?_)
 by_cases h6:x.f0=6
 ·rw [Yo (Or.inr h6)];exact Ev.pos (by rw [h6];rfl) (Ev.now _)
 refine Ev.neg (by simp [h6]) ?_
 by_cases h2:x.f0=2
 ·rw [Rz h2];exact Ev.pos h2 (Ev.now _)
 refine Ev.neg h2 ?_
 have key:∀ b:Bool,(b=true ↔ x.f0=3 ∨ x.f0=4)→Ev (fun k=>Ae.j1 k b x.f0 x.f1 x.f2 x.f3 x.f4 x.f5 x.f6) (Li x):=by
  intro b hb;refine Ev.step (fun k=>by rw [Ae.j1]) ?_
  by_cases GX:b=true
  ·have h34:=hb.1 GX;refine Ev.pos GX (Ev.val ?_)
   by_cases ha:0 ≤ x.f2
   ·refine Ev.pos ha (Ev.pos (by simp) (Ev.val ?_))
    by_cases h4:x.f0=4
    ·rw [LC ha h4];exact Ev.pos h4 (Ev.pos (by simp) (Ev.now _))
    ·rw [KC ha h34 h4];exact Ev.neg h4 (Ev.now _)
   ·refine Ev.neg ha ?_
    by_cases h4:x.f0=4
    ·rw [JC ha h4];exact Ev.pos h4 (Ev.pos (by simp) (Ev.now _))
    ·rw [IC ha h34 h4];exact Ev.neg h4 (Ev.now _)
  ·rw [Zw (fun h=>h.elim h1 h6) h2 (fun h=>GX (hb.2 h))];exact Ev.neg GX (Ev.now _)
 by_cases h3:x.f0=3
 ·exact Ev.pos h3 (key _ (by simp [h3]))
 ·exact Ev.neg h3 (key _ (by simp [h3]))
theorem rL (us:List Int) (hl:us.length ≤ 1048576):∀ (d i:Nat) (s:List Bool),i + d=us.length→(∀ u ∈ us,0 ≤ u∧u < (s.length:Int))→Ev (fun k=>Od.l0 k s us (us.length:Int) (i:Int)) ((us.drop i).foldl OC s):=by
 intro d
 induction d with
 | zero =>
  intro i s hi _;obtain rfl:i=us.length:=by omega
  rw [List.drop_length];refine Ev.step (fun k=>by rw [Od.l0]) ?_;exact Ev.neg (by omega) (Ev.now _)
 | succ d ih =>
  intro i s hi hu;have hi':i < us.length:=by omega
  obtain ⟨u0,u1⟩:=hu _ (List.getElem_mem hi');rw [List.drop_eq_getElem_cons hi',List.foldl_cons];refine Ev.step (fun k=>by rw [Od.l0]) ?_;refine Ev.pos (by omega) (Ev.pos (by omega) (Ev.pos (by omega) ?_));rw [lp hi',Zd hi' (by omega)];exact Ev.pos u0 (Ev.pos u1 (ih (i + 1) _ (by omega) (fun u h=>by rw [List.length_set];exact hu u h)))
theorem SH (s:List Bool) (x:lg) (hx:yu s.length x):Ev (fun k=>Od.f k s x.f0 x.f1 x.f2 x.f3 x.f4 x.f5 x.f6) (Em s x):=by
 obtain ⟨h1,h2⟩:=hx
 have hm:Ji.f x.f0 x.f1 x.f2 x.f3 x.f4 x.f5 x.f6=some (iq x):=by
  unfold Ji.f iq
  by_cases h4:x.f0=4
  ·rw [if_pos h4,if_pos h4]
  ·rw [if_neg h4,if_neg h4]
   by_cases h6:x.f0=6
   ·rw [if_pos h6,if_pos h6]
   ·rw [if_neg h6,if_neg h6]
 have hul:=IE x;unfold Od.f Em;rw [hm];refine Ev.val ?_
 have tail:∀ s2:List Bool,s2.length=s.length→Ev (fun k=>Od.j0 k s2 x.f0 x.f1 x.f2 x.f3 x.f4 x.f5 x.f6) ((Li x).foldl OC s2):=by
  intro s2 rU;refine Ev.step (fun k=>by rw [Od.j0]) ?_;refine Ev.bind (GQ x) ?_;have:=rL (Li x) (by omega) (Li x).length 0 s2 (by omega) (fun u hu=>by rw [rU];exact h1 u hu)
  rwa [List.drop_zero] at this
 by_cases h:iq x ≥ 0
 ·rw [if_pos h]
  have hlt:iq x < (s.length:Int):=by
   have h':=h;unfold iq at h' ⊢
   by_cases h4:x.f0=4
   ·rw [if_pos h4] at h';omega
   ·rw [if_neg h4] at h' ⊢
    by_cases h6:x.f0=6
    ·rw [if_pos h6] at h';omega
    ·rw [if_neg h6];exact (h2 h4 h6).2
  exact Ev.pos h (Ev.pos h (Ev.pos hlt (tail _ (by rw [List.length_set]))))
 ·rw [if_neg h];exact Ev.neg h (tail _ rfl)
theorem uJ (us:List Int) (hl:us.length ≤ 1048576):∀ (d i:Nat) (s:List Bool),i + d=us.length→(∀ u ∈ us,0 ≤ u∧u < (s.length:Int))→Ev (fun k=>Dc.l0 k s us (i:Int)) ((us.drop i).foldl OC s):=by
 intro d
 induction d with
 | zero =>
  intro i s hi _;obtain rfl:i=us.length:=by omega
  rw [List.drop_length];refine Ev.step (fun k=>by rw [Dc.l0]) ?_;exact Ev.neg (by omega) (Ev.now _)
 | succ d ih =>
  intro i s hi hu;have hi':i < us.length:=by omega
  obtain ⟨u0,u1⟩:=hu _ (List.getElem_mem hi');rw [List.drop_eq_getElem_cons hi',List.foldl_cons];refine Ev.step (fun k=>by rw [Dc.l0]) ?_;refine Ev.pos (by omega) (Ev.pos (by omega) ?_);rw [lp hi',Zd hi' (by omega)];exact Ev.pos u0 (Ev.pos u1 (ih (i + 1) _ (by omega) (fun u h=>by rw [List.length_set];exact hu u h)))
theorem vJ (s:List Bool) (x:lg) (hx:yu s.length x):Ev (fun k=>Dc.f k x.f0 x.f1 x.f2 x.f3 x.f4 x.f5 x.f6 s) (Em s x):=by
 obtain ⟨h1,h2⟩:=hx;have hul:=IE x;unfold Dc.f Em Ph.f
 have tail:∀ s2:List Bool,s2.length=s.length→Ev (fun k=>Dc.j0 k s2 x.f0 x.f1 x.f2 x.f3 x.f4 x.f5 x.f6) ((Li x).foldl OC s2):=by
  intro s2 rU;refine Ev.step (fun k=>by rw [Dc.j0]) ?_;refine Ev.bind (KX x) ?_;have:=uJ (Li x) (by omega) (Li x).length 0 s2 (by omega) (fun u hu=>by rw [rU];exact h1 u hu)
  rwa [List.drop_zero] at this
 by_cases h4:x.f0=4
 ·rw [if_pos h4];have hm:iq x = -1:=if_pos h4;rw [if_neg (by omega)];exact Ev.val (Ev.neg (by decide) (tail _ rfl))
 ·rw [if_neg h4];refine Ev.val ?_
  by_cases h6:x.f0=6
  ·have hm:iq x = -1:=by unfold iq;rw [if_neg h4,if_pos h6]
   rw [if_neg (by omega)];exact Ev.neg (by simp [h6]) (tail _ rfl)
  ·have hm:iq x=x.f1:=by unfold iq;rw [if_neg h4,if_neg h6]
   obtain ⟨d0,d1⟩:=h2 h4 h6;rw [hm,if_pos d0];exact Ev.pos (by simp [h6]) (Ev.pos d0 (Ev.pos d1 (tail _ (by rw [List.length_set]))))
def Xf.f (Oa:List (lg)) (Ja:Int) (Fa:Int) (Ia:Int) (zb:Int) (l1:List Bool):Option (List Bool):=(some (([]:List Bool):List Bool)).bind fun tf=>(if tf.length + l1.length < 140737488355328 then ((some (tf ++ l1:List Bool)).bind fun Gh=>(if Ja=0 then (some Gh) else (if 0 ≤ Fa then (if Fa < (Gh.length:Int) then (some (Gh.set (Fa:Int).toNat true)) else (none)) else (none)))) else (none))
theorem Xf.calls (Wa:Option Addr) (Ya:Nat) (Oa:List (lg)) (Ja:Int) (Fa:Int) (Ia:Int) (zb:Int) (A1:Option Addr) (c1:Nat) (l1:List Bool) (r:List Bool) (w:World) (Ld:Kd.C Dr w Wa Oa.length Oa) (Gd:Oa.length ≤ Ya) (eo:Kd.C Kd.bool w A1 l1.length l1) (Dl:l1.length ≤ c1) (h:Xf.f Oa Ja Fa Ia zb l1=some r) :
  Calls Try.prog 42 #[.agg #[.slice Wa Oa.length Ya,.int .i64 Ja,.int .i64 Fa,.int .i64 Ia,.int .i64 zb],.slice A1 l1.length c1] w fun e w'=>∃ Bn:Value,e = .returned (Bn)∧Kd.R Kd.bool 4 w' w.heap.size (fun _=>True) Bn r∧Below w.heap.size w w':=by
 have fB:=Try.underlying59;have Md:=ja.mk Ld;have Rd:=ja.mk Gd;clear Ld Gd;have Vo:=ja.mk eo;have FI:=ja.mk Dl;clear eo Dl;have HB:=ja.mk (Below.refl w.heap.size w);have H:((some (([]:List Bool):List Bool)).bind fun tf=>(if tf.length + l1.length < 140737488355328 then ((some (tf ++ l1:List Bool)).bind fun Gh=>(if Ja=0 then (some Gh) else (if 0 ≤ Fa then (if Fa < (Gh.length:Int) then (some (Gh.set (Fa:Int).toNat true)) else (none)) else (none)))) else (none)))=some r:=h;clear h;obtain ⟨tf,sg⟩:∃ y_:List Bool,y_=(([]:List Bool)):=⟨_,rfl⟩;replace H:(if tf.length + l1.length < 140737488355328 then ((some (tf ++ l1:List Bool)).bind fun Gh=>(if Ja=0 then (some Gh) else (if 0 ≤ Fa then (if Fa < (Gh.length:Int) then (some (Gh.set (Fa:Int).toNat true)) else (none)) else (none)))) else (none))=some r:=by first|(rw [sg];with_reducible exact H)|(have Ie:=(Option.bind_some _ _).symm.trans H;rw [sg];with_reducible exact Ie)|(have Ie:=(Option.bind_some _ _).symm.trans H;with_reducible exact Ie)|with_reducible exact H|(rw [sg];exact H)|exact H
 have Wj:=ja.mk sg;clear sg
 by_cases c3:tf.length + l1.length < 140737488355328
 ·rw [if_pos c3] at H;have Hac:=ja.mk c3;clear c3;obtain ⟨Gh,Jf⟩:∃ y_:List Bool,y_=(tf ++ l1):=⟨_,rfl⟩;replace H:(if Ja=0 then (some Gh) else (if 0 ≤ Fa then (if Fa < (Gh.length:Int) then (some (Gh.set (Fa:Int).toNat true)) else (none)) else (none)))=some r:=by first|(rw [Jf];with_reducible exact H)|(have Ie:=(Option.bind_some _ _).symm.trans H;rw [Jf];with_reducible exact Ie)|(have Ie:=(Option.bind_some _ _).symm.trans H;with_reducible exact Ie)|with_reducible exact H|(rw [Jf];exact H)|exact H
  have Il:=ja.mk Jf;clear Jf
  by_cases c4:Ja=0
  ·rw [if_pos c4] at H;have Fl:(Ja == 0)=true:=beq_iff_eq.mpr c4;have L3:(Ja != 0)=false:=bne_eq_false_iff_eq.mpr c4;clear c4;obtain rfl:=Option.some.inj H;go_enter Try.func42,Try.ntmps42;go_wp2_with (first|((with_reducible refine qb (N:=2) rfl ?_);refine Gb ?hg (N:=2) ?hd (cs:=#[.slice Wa Oa.length Ya,.int .i64 Ja,.int .i64 Fa,.int .i64 Ia,.int .i64 zb]) (t:=59) ?hr ?_;(case hd=>rfl);(case hg=>rfl);(case hr=>first|(go_simp;done)|(go_simp;rfl));intro ya hg w5 Rb hb;have Eb:=ja.mk (Na (by repeat (first|(with_reducible first|exact HB.out|apply qa|apply ia|apply ta)|exact HB.out)) hb);have Jb:=ja.mk (Rb);have Ub:=ja.mk ((by rw [hg];exact (Ga (by repeat (first|(with_reducible first|exact HB.out|apply qa|apply ia|apply ta)|exact HB.out))):w.heap.size ≤ ya));have uc:=ja.mk ((by rw [hg];exact (Ga (by repeat (first|(with_reducible first|exact HB.out|apply qa|apply ia|apply ta)|exact HB.out))):w.heap.size ≤ ya));clear HB;have HB:=Eb;have oa:=Jb;have xd:=Ub;have Ra:=uc;clear Eb Jb Ub uc hb Rb hg)|((with_reducible refine qb (N:=6) rfl ?_);refine Kd.Bk Kd.bool _ 4 ?hg (N:=6) ?hd (xs:=([]:List Bool)) (inner:=[]) (ok:=fun _=>True) (Sh:=fun _=>True) ?hr ?hp (fun _ hk=>hk) trivial (Below.refl _ _) (Nat.le_refl _) (by simp) ?_;(case hd=>rfl);(case hg=>rfl);(case hr=>first|(go_simp;done)|(go_simp;rfl));(case hp=>exact (Ed.none _ _));intro qo w6 V7 hb Vn yf;clear Vn yf;(first|rw [← Wj.out] at V7|(simp only [Int.reduceToNat] at V7;rw [← Wj.out] at V7));have Eb:=ja.mk (Kd.Qd V7 (Ga (by repeat (first|(with_reducible first|exact HB.out|apply qa|apply ia|apply ta|refine ua ?_ Ra.out)|exact HB.out))));have Jb:=ja.mk (Ta (g:=ya) (o:=.cells #[.slice Wa Oa.length Ya,.int .i64 Ja,.int .i64 Fa,.int .i64 Ia,.int .i64 zb] 59 (0,0)) (by (with_reducible repeat (first|refine Aa ?_ _|refine Da ?_|refine Ba ?_ _));exact oa.out) hb);have Ub:=ja.mk (Na (by repeat (first|(with_reducible first|exact HB.out|apply qa|apply ia|apply ta|refine ua ?_ Ra.out)|exact HB.out)) hb);clear oa HB;have si:=Eb;have oa:=Jb;have HB:=Ub;clear Eb Jb Ub hb V7)|((with_reducible refine ee (b:=.append) (xs:=#[.tmp 6,.tmp 7]) rfl ?_);at_builtin;refine Kd.Fj Kd.bool (w0:=w) w.heap.size rfl (.tmp 6) (.tmp 7) 60 4 (.bool false) 1 rfl Try.underlying60 ow rfl (by decide) (by omega) qo tf l1 _ _ _ (fun _=>True) (fun _=>False) rfl rfl ?aO ?aR (fun _ _ h=>h) (fun _ h=>h.elim) ?aF ?aB ?aS ?aL ?_;(case aR=>repeat (first|exact (Kd.Db Vo.out HB.out)|(with_reducible refine Kd.Bb ?_ _)|(with_reducible refine Kd.Ab ?_ _)|(with_reducible refine Kd.Qb ?_)));(case aB=>exact (by repeat (first|(with_reducible first|exact HB.out|apply qa|apply ia|apply ta|refine ua ?_ Ra.out)|exact HB.out)));(case aF=>exact (fun _ _=>trivial));(case aO=>exact (by (with_reducible repeat (first|apply Kd.yb|apply Kd.xb|apply Kd.Pb));exact si.out));(case aS=>exact (Ga (by repeat (first|(with_reducible first|exact HB.out|apply qa|apply ia|apply ta|refine ua ?_ Ra.out)|exact HB.out))));(case aL=>have:=Hac.out;omega);intro Qz w8 ho hb hg hat;rw [← Il.out] at ho;have Eb:=ja.mk (Dd (g:=ya) (o:=.cells #[.slice Wa Oa.length Ya,.int .i64 Ja,.int .i64 Fa,.int .i64 Ia,.int .i64 zb] 59 (0,0)) (by (with_reducible repeat (first|refine Aa ?_ _|refine Da ?_|refine Ba ?_ _));exact oa.out) hg (Kd.Fm si.out oa.out (by decide)));have Jb:=ja.mk (hb);have Ub:=ja.mk (ho);clear oa HB si;have oa:=Eb;have HB:=Jb;have Hi:=Ub;clear Eb Jb Ub ho hb hg hat;have Vg:w8.cell? ⟨ya,0,none⟩=some (.slice Wa Oa.length Ya):=(ga oa.out 0).trans rfl;have Ug:w8.cell? ⟨ya,1,none⟩=some (.int .i64 Ja):=(ga oa.out 1).trans rfl;have Tg:w8.cell? ⟨ya,2,none⟩=some (.int .i64 Fa):=(ga oa.out 2).trans rfl;have Sg:w8.cell? ⟨ya,3,none⟩=some (.int .i64 Ia):=(ga oa.out 3).trans rfl;have Rg:w8.cell? ⟨ya,4,none⟩=some (.int .i64 zb):=(ga oa.out 4).trans rfl;have Qg:=aa oa.out 0;have Pg:=aa oa.out 1;have Og:=aa oa.out 2;have Ng:=aa oa.out 3;have Mg:=aa oa.out 4));go_ret;exact ⟨_,by first|rfl|(simp [Ma,La] <;> rfl)|(simp [*,Ma,La] <;> rfl),by (with_reducible repeat (first|apply Kd.yb|apply Kd.xb|apply Kd.Pb));exact Hi.out,by repeat (first|(with_reducible first|exact HB.out|apply qa|apply ia|apply ta|refine ua ?_ Ra.out)|exact HB.out)⟩
  ·rw [if_neg c4] at H;have Fl:(Ja == 0)=false:=beq_eq_false_iff_ne.mpr c4;have L3:(Ja != 0)=true:=bne_iff_ne.mpr c4
   by_cases ku:0 ≤ Fa
   ·rw [if_pos ku] at H;have vw:decide (0 ≤ Fa)=true:=decide_eq_true ku;clear ku
    by_cases qP:Fa < (Gh.length:Int)
    ·rw [if_pos qP] at H;have rZ:decide (Fa < (Gh.length:Int))=true:=decide_eq_true qP;clear qP;obtain ⟨Fg,Hf⟩:∃ y_:List Bool,y_=(Gh.set (Fa:Int).toNat true):=⟨_,rfl⟩;replace H:(some Fg)=some r:=by first|(rw [Hf];with_reducible exact H)|(have Ie:=(Option.bind_some _ _).symm.trans H;rw [Hf];with_reducible exact Ie)|(have Ie:=(Option.bind_some _ _).symm.trans H;with_reducible exact Ie)|with_reducible exact H|(rw [Hf];exact H)|exact H
     have Bj:=ja.mk Hf;clear Hf;obtain rfl:=Option.some.inj H;go_enter Try.func42,Try.ntmps42;go_wp2_with (first|((with_reducible refine qb (N:=2) rfl ?_);refine Gb ?hg (N:=2) ?hd (cs:=#[.slice Wa Oa.length Ya,.int .i64 Ja,.int .i64 Fa,.int .i64 Ia,.int .i64 zb]) (t:=59) ?hr ?_;(case hd=>rfl);(case hg=>rfl);(case hr=>first|(go_simp;done)|(go_simp;rfl));intro ya hg Ks Rb hb;have Eb:=ja.mk (Na (by repeat (first|(with_reducible first|exact HB.out|apply qa|apply ia|apply ta)|exact HB.out)) hb);have Jb:=ja.mk (Rb);have Ub:=ja.mk ((by rw [hg];exact (Ga (by repeat (first|(with_reducible first|exact HB.out|apply qa|apply ia|apply ta)|exact HB.out))):w.heap.size ≤ ya));have uc:=ja.mk ((by rw [hg];exact (Ga (by repeat (first|(with_reducible first|exact HB.out|apply qa|apply ia|apply ta)|exact HB.out))):w.heap.size ≤ ya));clear HB;have HB:=Eb;have oa:=Jb;have xd:=Ub;have Ra:=uc;clear Eb Jb Ub uc hb Rb hg)|((with_reducible refine qb (N:=6) rfl ?_);refine Kd.Bk Kd.bool _ 4 ?hg (N:=6) ?hd (xs:=([]:List Bool)) (inner:=[]) (ok:=fun _=>True) (Sh:=fun _=>True) ?hr ?hp (fun _ hk=>hk) trivial (Below.refl _ _) (Nat.le_refl _) (by simp) ?_;(case hd=>rfl);(case hg=>rfl);(case hr=>first|(go_simp;done)|(go_simp;rfl));(case hp=>exact (Ed.none _ _));intro qo Mz kD hb Vn yf;clear Vn yf;(first|rw [← Wj.out] at kD|(simp only [Int.reduceToNat] at kD;rw [← Wj.out] at kD));have Eb:=ja.mk (Kd.Qd kD (Ga (by repeat (first|(with_reducible first|exact HB.out|apply qa|apply ia|apply ta|refine ua ?_ Ra.out)|exact HB.out))));have Jb:=ja.mk (Ta (g:=ya) (o:=.cells #[.slice Wa Oa.length Ya,.int .i64 Ja,.int .i64 Fa,.int .i64 Ia,.int .i64 zb] 59 (0,0)) (by (with_reducible repeat (first|refine Aa ?_ _|refine Da ?_|refine Ba ?_ _));exact oa.out) hb);have Ub:=ja.mk (Na (by repeat (first|(with_reducible first|exact HB.out|apply qa|apply ia|apply ta|refine ua ?_ Ra.out)|exact HB.out)) hb);clear oa HB;have si:=Eb;have oa:=Jb;have HB:=Ub;clear Eb Jb Ub hb kD)|((with_reducible refine ee (b:=.append) (xs:=#[.tmp 6,.tmp 7]) rfl ?_);at_builtin;refine Kd.Fj Kd.bool (w0:=w) w.heap.size rfl (.tmp 6) (.tmp 7) 60 4 (.bool false) 1 rfl Try.underlying60 ow rfl (by decide) (by omega) qo tf l1 _ _ _ (fun _=>True) (fun _=>False) rfl rfl ?aO ?aR (fun _ _ h=>h) (fun _ h=>h.elim) ?aF ?aB ?aS ?aL ?_;(case aR=>repeat (first|exact (Kd.Db Vo.out HB.out)|(with_reducible refine Kd.Bb ?_ _)|(with_reducible refine Kd.Ab ?_ _)|(with_reducible refine Kd.Qb ?_)));(case aB=>exact (by repeat (first|(with_reducible first|exact HB.out|apply qa|apply ia|apply ta|refine ua ?_ Ra.out)|exact HB.out)));(case aF=>exact (fun _ _=>trivial));(case aO=>exact (by (with_reducible repeat (first|apply Kd.yb|apply Kd.xb|apply Kd.Pb));exact si.out));(case aS=>exact (Ga (by repeat (first|(with_reducible first|exact HB.out|apply qa|apply ia|apply ta|refine ua ?_ Ra.out)|exact HB.out))));(case aL=>have:=Hac.out;omega);intro Qz Pz ho hb hg hat;rw [← Il.out] at ho;have Eb:=ja.mk (Dd (g:=ya) (o:=.cells #[.slice Wa Oa.length Ya,.int .i64 Ja,.int .i64 Fa,.int .i64 Ia,.int .i64 zb] 59 (0,0)) (by (with_reducible repeat (first|refine Aa ?_ _|refine Da ?_|refine Ba ?_ _));exact oa.out) hg (Kd.Fm si.out oa.out (by decide)));have Jb:=ja.mk (hb);have Ub:=ja.mk (ho);clear oa HB si;have oa:=Eb;have HB:=Jb;have Hi:=Ub;clear Eb Jb Ub ho hb hg hat;have oC:Pz.cell? ⟨ya,0,none⟩=some (.slice Wa Oa.length Ya):=(ga oa.out 0).trans rfl;have nC:Pz.cell? ⟨ya,1,none⟩=some (.int .i64 Ja):=(ga oa.out 1).trans rfl;have mC:Pz.cell? ⟨ya,2,none⟩=some (.int .i64 Fa):=(ga oa.out 2).trans rfl;have lC:Pz.cell? ⟨ya,3,none⟩=some (.int .i64 Ia):=(ga oa.out 3).trans rfl;have kC:Pz.cell? ⟨ya,4,none⟩=some (.int .i64 zb):=(ga oa.out 4).trans rfl;have QB:=aa oa.out 0;have OB:=aa oa.out 1;have NB:=aa oa.out 2;have MB:=aa oa.out 3;have KB:=aa oa.out 4;have p12:0 ≤ (Fa:Int):=Sa;have q12:(Fa:Int) < ((Gh.length:Int):Int):=Sa;obtain ⟨N2,Wan,Bab,pab,man,fau,wad⟩:=Kd.Yn Hi.out (by omega);(first|cases Bab|(injection Bab with Ln rE sE;(first|subst Ln|(injection Ln with Ln;subst Ln));subst sE;clear rE));have Xao:=ja.mk pab;have Uau:=ja.mk wad;clear pab man wad;obtain ⟨CF,KG⟩:=Kd.zl false Hi.out (Fa:Int) p12 q12;replace p12:=eq_true p12;replace q12:=eq_true q12;obtain ⟨Fap,Bap⟩:=Kd.zl false Hi.out (Fa:Int) (Sa) (Sa);have B5:=Kd.Hr Hi.out (Fa:Int) true)|((with_reducible refine Yh (t:=4) (p:=15) rfl ?_);refine Lg (t:=4) (p:=15) (v:=?bal) (w1:=(Pz.setCell ⟨N2,(Fa:Int).toNat,none⟩ (.bool true))) ?hg ?ho ?hn ?hr ?_;(case ho=>rfl);(case hg=>rfl);(case hn=>rfl);(case hr=>first|(go_simp;done)|(go_simp;rfl));intro nU hw;have hg:Pz.grownBy nU (some N2):=(by rw [hw];exact B5.2);have ey:Kd.R Kd.bool 4 nU w.heap.size (fun _=>True) (.slice (some ⟨N2,0,none⟩) Gh.length Wan) Fg:=(by rw [hw,Bj.out];exact B5.1);clear B5;have Eb:=ja.mk (Dd (g:=ya) (o:=.cells #[.slice Wa Oa.length Ya,.int .i64 Ja,.int .i64 Fa,.int .i64 Ia,.int .i64 zb] 59 (0,0)) (by (with_reducible repeat (first|refine Aa ?_ _|refine Da ?_|refine Ba ?_ _));exact oa.out) hg (Kd.Fm Hi.out oa.out (by decide)));have Jb:=ja.mk (ey);have Ub:=ja.mk ((by rw [hw];exact ua (HB.out) Xao.out:Below w.heap.size w nU));clear oa Hi HB;have oa:=Eb;have Hi:=Jb;have HB:=Ub;clear Eb Jb Ub hg hw ey));go_ret;exact ⟨_,by first|rfl|(simp [Ma,La] <;> rfl)|(simp [*,Ma,La] <;> rfl),by (with_reducible repeat (first|apply Kd.yb|apply Kd.xb|apply Kd.Pb));exact Hi.out,by repeat (first|(with_reducible first|exact HB.out|apply qa|apply ia|apply ta|refine ua ?_ Ra.out)|exact HB.out)⟩
    ·rw [if_neg qP] at H;exact absurd H (by simp)
   ·rw [if_neg ku] at H;exact absurd H (by simp)
 ·rw [if_neg c3] at H;exact absurd H (by simp)
end Go.Proofs.Ytkigbdceceeenaa.P
end
