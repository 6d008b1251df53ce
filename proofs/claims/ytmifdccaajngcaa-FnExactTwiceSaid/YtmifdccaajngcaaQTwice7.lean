import Derived.Test.YtmifdccaajngcaaQTwice1
import Derived.Test.YtmifdccaajngcaaQTwice5
import Derived.Test.YtmifdccaajngcaaQTwice4
import Derived.Test.YtmifdccaajngcaaQTwice6
import Derived.Test.YtmifdccaajngcaaQTwice3
import Derived.Test.YtmifdccaajngcaaQTwice2
set_option maxHeartbeats 8000000
set_option maxRecDepth 100000
section
namespace Go.Proofs.Ytmifdccaajngcaa.P
open Go.RowKit Go.Proofs.Na.Ec Go.Proofs.Na.gf Go.Proofs.Na.Eg
set_option linter.unusedVariables false
set_option linter.unusedSimpArgs false
theorem Qg (a b c:Int):Ev (fun _=>xb.f a b c) (wm a b c):=Ev.here (nQ a b c)
theorem O4 (t:ByteArray):Ev (fun k=>Qf.f k ([(⟨#[61,61]⟩:ByteArray),(⟨#[60]⟩:ByteArray),(⟨#[38]⟩:ByteArray),(⟨#[43]⟩:ByteArray),(⟨#[45]⟩:ByteArray),(⟨#[42]⟩:ByteArray)]:List ByteArray) t) (yw t):=by
 refine ⟨8,fun k hk=>?_⟩;obtain ⟨m,rfl⟩:∃ m,k=m + 8:=⟨k - 8,by omega⟩;unfold Qf.f yw qI;simp only [Qf.l0,List.any_cons,List.any_nil]
 by_cases h0:t.toList=[61,61]
 ·simp [cm,h0]
 by_cases h1:t.toList=[60]
 ·simp [cm,h1,wrap64]
 by_cases h2:t.toList=[38]
 ·simp [cm,h2,wrap64]
 by_cases h3:t.toList=[43]
 ·simp [cm,h3,wrap64]
 by_cases h4:t.toList=[45]
 ·simp [cm,h4,wrap64]
 by_cases h5:t.toList=[42]
 ·simp [cm,h5,wrap64]
 simp [cm,Ne.symm h0,Ne.symm h1,Ne.symm h2,Ne.symm h3,Ne.symm h4,Ne.symm h5,h0,h1,h2,h3,h4,h5,wrap64]
theorem DI (s d:Int):wm d 0 (s - 1)=gm s d:=by
 unfold wm gm;rw [Bool.eq_iff_iff];simp;omega
def ND (D A B C M:Bool) (o d a b n:Int) (t:ByteArray):Bool :=
 if o=0 then D && (a == 0 && b == 0)
 else if o=1 then D && (A && (b == 0 && n == 0))
 else if o=2 then D && (A && (B && (n == 0 && yw t)))
 else if o=3 then D && M
 else if o=4 then d == 0 && (M && C)
 else if o=5 then D && (a == 0 && (b == 0 && n == 0))
 else if o=6 then d == 0 && (A && (b == 0 && n == 0))
 else false
theorem Ev.and {b:Bool} {f:Nat→Option Bool} {r:Bool} (hf:b=true→Ev f r):Ev (fun n=>if b=true then f n else some false) (b && r):=by
 cases b with
 | true=>exact Ev.pos rfl (hf rfl)
 | false=>exact Ev.neg (by simp) (Ev.now _)
theorem Ev.ZC {c:Prop} [Decidable c] {f:Nat→Option Bool} {r:Bool} (hf:c→Ev f r):Ev (fun n=>if c then f n else some false) (decide c && r):=by
 by_cases h:c
 ·rw [decide_eq_true h];exact Ev.pos h (hf h)
 ·rw [decide_eq_false h];exact Ev.neg h (Ev.now _)
section
variable {l0:List Int} {p v s:Int} {l4:List Vf} {o d a b c n:Int} {t:ByteArray}
theorem qH (D A B M:Bool) (x:Bool) (hs:0 ≤ s) (hs':s ≤ 1000):Ev (fun k=>Cb.j1 k D A B M x l0 p v s l4 o d a b c n t) (!x && ND D A B (gm s c) M o d a b n t):=by
 refine Ev.step (fun k=>by rw [Cb.j1]) ?_;cases x with
 | true=>exact Ev.pos rfl (Ev.now _)
 | false =>
  refine Ev.neg (by simp) ?_;rw [Bool.not_false,Bool.true_and];unfold ND
  by_cases h0:o=0
  ·rw [if_pos h0];exact Ev.pos h0 (Ev.and fun _=>Ev.ZC fun _=>Ev.now _)
  rw [if_neg h0];refine Ev.neg h0 ?_
  by_cases h1:o=1
  ·rw [if_pos h1];exact Ev.pos h1 (Ev.and fun _=>Ev.and fun _=>Ev.ZC fun _=>Ev.now _)
  rw [if_neg h1];refine Ev.neg h1 ?_
  by_cases h2:o=2
  ·rw [if_pos h2];exact Ev.pos h2 (Ev.and fun _=>Ev.and fun _=>Ev.and fun _=>Ev.ZC fun _=>Ev.bind (O4 t) (Ev.now _))
  rw [if_neg h2];refine Ev.neg h2 ?_
  by_cases h3:o=3
  ·rw [if_pos h3,if_pos h3];exact (Ev.and fun _=>Ev.now _)
  rw [if_neg h3,if_neg h3]
  by_cases h4:o=4
  ·rw [if_pos h4,if_pos h4];refine (Ev.ZC fun _=>Ev.and fun _=>?_);rw [Rh (x:=s - 1) (by omega) (by omega),← DI];exact Ev.bind (Qg _ _ _) (Ev.now _)
  rw [if_neg h4,if_neg h4]
  by_cases h5:o=5
  ·rw [if_pos h5,if_pos h5];exact (Ev.and fun _=>Ev.ZC fun _=>Ev.ZC fun _=>Ev.now _)
  rw [if_neg h5,if_neg h5]
  by_cases h6:o=6
  ·rw [if_pos h6,if_pos h6];exact (Ev.ZC fun _=>Ev.and fun _=>Ev.ZC fun _=>Ev.now _)
  rw [if_neg h6,if_neg h6];exact Ev.now _
theorem Xn (M:Bool) (hM:M=((gm s a || a == -1) && (gm s b && wm n 0 ((l0.length:Int) - 1)))) (hs:0 ≤ s) (hs':s ≤ 1000):Ev (fun k=>Cb.j0 k (gm s d) (gm s a) (gm s b) M l0 p v s l4 o d a b c n t) (Km l0.length s o d a b c n t):=by
 refine Ev.step (fun k=>by rw [Cb.j0]) ?_
 have key:∀ x:Bool,(x=if o=2 then (c != 0) else if t.toList=[] then (if o=4 then false else (c != 0)) else true)→Ev (fun k=>Cb.j1 k (gm s d) (gm s a) (gm s b) M x l0 p v s l4 o d a b c n t) (Km l0.length s o d a b c n t):=by
  intro x hx
  have e:Km l0.length s o d a b c n t=(!x && ND (gm s d) (gm s a) (gm s b) (gm s c) M o d a b n t):=by
   subst hM;subst hx;unfold Km ND
   by_cases h0:o=0
   ·subst h0;rw [Bool.eq_iff_iff]
    by_cases ht:t.toList=[] <;> simp [ht]
    all_goals (constructor <;> intro h <;> simp_all)
   by_cases h1:o=1
   ·subst h1;rw [Bool.eq_iff_iff]
    by_cases ht:t.toList=[] <;> simp [ht]
    all_goals (constructor <;> intro h <;> simp_all)
   by_cases h2:o=2
   ·subst h2;rw [Bool.eq_iff_iff];simp
    constructor <;> intro h <;> simp_all
   by_cases h3:o=3
   ·subst h3;rw [Bool.eq_iff_iff]
    by_cases ht:t.toList=[] <;> simp [ht]
    all_goals (constructor <;> intro h <;> simp_all)
   by_cases h4:o=4
   ·subst h4;rw [Bool.eq_iff_iff]
    by_cases ht:t.toList=[] <;> simp [ht]
    all_goals (constructor <;> intro h <;> simp_all)
   by_cases h5:o=5
   ·subst h5;rw [Bool.eq_iff_iff]
    by_cases ht:t.toList=[] <;> simp [ht]
    all_goals (constructor <;> intro h <;> simp_all)
   by_cases h6:o=6
   ·subst h6;rw [Bool.eq_iff_iff]
    by_cases ht:t.toList=[] <;> simp [ht]
    all_goals (constructor <;> intro h <;> simp_all)
   simp [h0,h1,h2,h3,h4,h5,h6]
  rw [e];exact qH _ _ _ _ _ hs hs'
 by_cases h2:o=2
 ·exact Ev.pos h2 (Ev.neg (by omega) (key _ (by rw [if_pos h2])))
 ·refine Ev.neg h2 ?_
  by_cases ht:t.toList=([]:List UInt8)
  ·refine Ev.pos ht ?_
   by_cases h4:o=4
   ·exact Ev.pos h4 (key _ (by rw [if_neg h2,if_pos ht,if_pos h4]))
   ·exact Ev.neg h4 (key _ (by rw [if_neg h2,if_pos ht,if_neg h4]))
  ·exact Ev.neg ht (key _ (by rw [if_neg h2,if_neg ht]))
theorem bC (hs:0 ≤ s) (hs':s ≤ 1000) (hl:l0.length ≤ 1048576):Ev (fun k=>Cb.f k l0 p v s l4 o d a b c n t) (Km l0.length s o d a b c n t):=by
 unfold Cb.f;rw [Rh (x:=s - 1) (by omega) (by omega),Rh (x:=(l0.length:Int) - 1) (by omega) (by omega)];refine Ev.bind (Qg _ _ _) (Ev.bind (Qg _ _ _) (Ev.bind (Qg _ _ _) ?_));simp only [DI];cases ha:gm s a with
 | true =>
  refine Ev.pos rfl ?_;cases hb:gm s b with
  | true=>exact Ev.pos rfl (Ev.bind (Qg _ _ _) (by have:=Xn (l0:=l0) (p:=p) (v:=v) (s:=s) (l4:=l4) (o:=o) (d:=d) (a:=a) (b:=b) (c:=c) (n:=n) (t:=t) (wm n 0 ((l0.length:Int) - 1)) (by simp [ha,hb]) hs hs';rw [ha,hb] at this;exact this))
  | false=>exact Ev.neg (by simp) (by have:=Xn (l0:=l0) (p:=p) (v:=v) (s:=s) (l4:=l4) (o:=o) (d:=d) (a:=a) (b:=b) (c:=c) (n:=n) (t:=t) false (by simp [hb]) hs hs';rw [ha,hb] at this;exact this)
 | false =>
  refine Ev.neg (by simp) ?_
  by_cases h1:a = -1
  ·refine Ev.pos h1 ?_;cases hb:gm s b with
   | true=>exact Ev.pos rfl (Ev.bind (Qg _ _ _) (by have:=Xn (l0:=l0) (p:=p) (v:=v) (s:=s) (l4:=l4) (o:=o) (d:=d) (a:=a) (b:=b) (c:=c) (n:=n) (t:=t) (wm n 0 ((l0.length:Int) - 1)) (by simp [h1,hb]) hs hs';rw [ha,hb] at this;exact this))
   | false=>exact Ev.neg (by simp) (by have:=Xn (l0:=l0) (p:=p) (v:=v) (s:=s) (l4:=l4) (o:=o) (d:=d) (a:=a) (b:=b) (c:=c) (n:=n) (t:=t) false (by simp [hb]) hs hs';rw [ha,hb] at this;exact this)
  ·exact Ev.neg h1 (by have:=Xn (l0:=l0) (p:=p) (v:=v) (s:=s) (l4:=l4) (o:=o) (d:=d) (a:=a) (b:=b) (c:=c) (n:=n) (t:=t) false (by simp [ha,h1]) hs hs';rw [ha] at this;exact this)
theorem hJ (code:List Nd) (j ba tg els:Int) (hs:0 ≤ s) (hs':s ≤ 1000) (hl:l0.length ≤ 1048576) (hl4:l4.length ≤ 1048576) (hc:code.length ≤ 1048576):Ev (fun k=>Qc.f k l0 p v s l4 code j ba tg els) (Zl l0.length s l4.length code j ba tg els):=by
 unfold Qc.f;have key:=iJ (n:=code.length) (R:=(if j=0 then wm tg 0 ((l4.length:Int) - 1) && ba == 0 && els == 0 else if j=1 then wm tg 0 ((l4.length:Int) - 1) && wm els 0 ((l4.length:Int) - 1) && gm s ba else if j=2 then gm s ba && tg == 0 && els == 0 else false)) (e:=false) (fun i=>El l0.length s (code.getD i vm)=true) (fun i k=>Qc.l0 k (i:Int) l0 p v s l4 code j ba tg els) ?_ ?_ ?_
 ·have e:(bif cA code.length (fun i=>El l0.length s (code.getD i vm)=true) then (if j=0 then wm tg 0 ((l4.length:Int) - 1) && ba == 0 && els == 0 else if j=1 then wm tg 0 ((l4.length:Int) - 1) && wm els 0 ((l4.length:Int) - 1) && gm s ba else if j=2 then gm s ba && tg == 0 && els == 0 else false) else false)=Zl l0.length s l4.length code j ba tg els:=by
   rw [Dz];unfold Zl;rw [decide_eq_true hs,Bool.and_true];cases (!(code.any fun x=>!El l0.length s x)) <;> rfl
  rw [e] at key;exact key
 ·refine Ev.step (fun k=>by rw [Qc.l0]) (Ev.neg (by omega) ?_);rw [Rh (x:=s - 1) (by omega) (by omega),Rh (x:=(l4.length:Int) - 1) (by omega) (by omega)];refine Ev.bind (Qg _ _ _) (Ev.bind (Qg _ _ _) ?_);rw [DI s ba]
  by_cases h0:j=0
  ·rw [if_pos h0,if_pos h0,Bool.and_assoc];exact Ev.and fun _=>Ev.ZC fun _=>Ev.now _
  rw [if_neg h0,if_neg h0]
  by_cases h1:j=1
  ·rw [if_pos h1,if_pos h1,Bool.and_assoc,Bool.and_comm (wm els 0 ((l4.length:Int) - 1))];exact Ev.and fun _=>Ev.and fun _=>Ev.bind (Qg _ _ _) (Ev.now _)
  rw [if_neg h1,if_neg h1]
  by_cases h2:j=2
  ·rw [if_pos h2,if_pos h2,Bool.and_assoc];exact Ev.and fun _=>Ev.ZC fun _=>Ev.now _
  rw [if_neg h2,if_neg h2];exact Ev.now _
 ·intro i hi hp r hr;refine Ev.step (fun k=>by rw [Qc.l0]) (Ev.pos (by omega) (Ev.pos (by omega) ?_));refine Ev.bind (bC hs hs' hl) ?_;have hq:Km l0.length s (oa code (i:Int)).f0 (oa code (i:Int)).f1 (oa code (i:Int)).f2 (oa code (i:Int)).f3 (oa code (i:Int)).f4 (oa code (i:Int)).f5 (oa code (i:Int)).f6=true:=hp;refine Ev.pos hq ?_;rw [ug hi (by omega)];exact hr
 ·intro i hi hp;refine Ev.step (fun k=>by rw [Qc.l0]) (Ev.pos (by omega) (Ev.pos (by omega) ?_));refine Ev.bind (bC hs hs' hl) ?_;exact Ev.neg hp (Ev.now _)
end
def we (l:List Vf):Nat:=(l.map fun x=>x.f0.length).sum
def DE (l0:List Int) (p v s:Int) (n4:Nat):Bool:=gz l0 p v && wm s v 1000 && wm (n4:Int) 1 300
def Oo (l0:List Int) (s:Int) (l4:List Vf) (x:Vf):Bool:=Zl l0.length s l4.length x.f0 x.f1 x.f2 x.f3 x.f4
def Qn (l0:List Int) (p v s:Int) (l4:List Vf):Bool:=DE l0 p v s l4.length && (!(l4.any fun x=>!Oo l0 s l4 x) && decide (we l4 ≤ 1000))
theorem xw (l:List Vf) (i:Nat) (h:i < l.length):we (l.take (i + 1))=we (l.take i) + l[i].f0.length:=by
 unfold we;rw [List.take_succ_eq_append_getElem h,List.map_append,List.sum_append];simp
theorem qB (l:List Nat) (i:Nat):(l.take i).sum ≤ l.sum:=by
 conv=>rhs;rw [← List.take_append_drop i l]
 rw [List.sum_append];omega
theorem rB (l:List Vf) (i:Nat):we (l.take i) ≤ we l:=by
 unfold we;rw [List.map_take];exact qB _ _
section
variable {l0:List Int} {p v s:Int} {l4:List Vf}
theorem gJ (h0:l0.length ≤ 1048576) (hl4:l4.length ≤ 1048576) (ht:we l4 ≤ 1048576):Ev (fun k=>Jc.f k l0 p v s l4) (Qn l0 p v s l4):=by
 unfold Jc.f Bh.f;simp only [List.length_nil,if_true];refine Ev.val ?_
 have no:∀ {r:Bool},r=false→Ev (fun k=>Jc.j0 k true l0 p v s l4) r:=by
  intro r hr;subst hr;exact Ev.step (fun k=>by rw [Jc.j0]) (Ev.pos rfl (Ev.now _))
 unfold Qn DE;cases hp:gz l0 p v with
 | false=>exact Ev.neg (by simp) (no (by simp))
 | true =>
  refine Ev.pos rfl (Ev.bind (Ev.here (CG _ _ _)) ?_);cases hv:wm s v 1000 with
  | false=>exact Ev.neg (by simp) (no (by simp))
  | true =>
   refine Ev.pos rfl (Ev.bind (Ev.here (CG _ _ _)) ?_);cases hn:wm (l4.length:Int) 1 300 with
   | false=>exact no (by simp)
   | true =>
    refine Ev.step (fun k=>by rw [Jc.j0]) (Ev.neg (by simp) ?_);simp only [Bool.true_and];have key:=iJ (n:=l4.length) (R:=decide (we l4 ≤ 1000)) (e:=false) (fun i=>Oo l0 s l4 (l4.getD i IC)=true) (fun i k=>Jc.l0 k (we (l4.take i):Int) l4 (l4.length:Int) (i:Int) l0 p v s l4) ?_ ?_ ?_
    ·have e:(bif cA l4.length (fun i=>Oo l0 s l4 (l4.getD i IC)=true) then decide (we l4 ≤ 1000) else false)=(!(l4.any fun x=>!Oo l0 s l4 x) && decide (we l4 ≤ 1000)):=by
      rw [Dz];cases (!(l4.any fun x=>!Oo l0 s l4 x)) <;> rfl
     rw [e] at key
     simpa [we] using key
    ·refine Ev.step (fun k=>by rw [Jc.l0]) (Ev.neg (by omega) ?_);rw [List.take_length]
     have e:decide ((we l4:Int) ≤ 1000)=decide (we l4 ≤ 1000):=by
      rw [Bool.eq_iff_iff,decide_eq_true_iff,decide_eq_true_iff];omega
     rw [e];exact Ev.now _
    ·intro i hi hq r hr;refine Ev.step (fun k=>by rw [Jc.l0]) (Ev.pos (by omega) (Ev.pos (by omega) (Ev.pos (by omega) ?_)));unfold Gj.f;have hq':Zl l0.length s l4.length (Ia l4 (i:Int)).f0 (Ia l4 (i:Int)).f1 (Ia l4 (i:Int)).f2 (Ia l4 (i:Int)).f3 (Ia l4 (i:Int)).f4=true:=hq;refine Ev.val (Ev.pos hq' ?_);have h1:=xw l4 i hi;have h2:=rB l4 (i + 1);rw [pq hi,ug hi (by omega),Rh (x:=(we (l4.take i):Int) + (l4[i].f0.length:Int)) (by omega) (by omega),show (we (l4.take i):Int) + (l4[i].f0.length:Int)=(we (l4.take (i + 1)):Int) from by omega];exact hr
    ·intro i hi hq;refine Ev.step (fun k=>by rw [Jc.l0]) (Ev.pos (by omega) (Ev.pos (by omega) (Ev.pos (by omega) ?_)));unfold Gj.f;exact Ev.val (Ev.neg hq (Ev.now _))
theorem jJ (h0:l0.length ≤ 1048576) (hl4:l4.length ≤ 1048576) (ht:we l4 ≤ 1048576):Ev (fun k=>Za.f k l0 p v s l4) (Qn l0 p v s l4):=by
 unfold Za.f
 have no:∀ {r:Bool},r=false→Ev (fun k=>Za.j1 k true l0 p v s l4) r:=by
  intro r hr;subst hr;exact Ev.step (fun k=>by rw [Za.j1]) (Ev.pos rfl (Ev.now _))
 have key:=iJ (n:=l0.length) (R:=wm (l0.length:Int) 1 4 && (wm v 0 20 && (wm p 0 6 && (decide (p ≤ v) && (wm s v 1000 && (wm (l4.length:Int) 1 300 && (!(l4.any fun x=>!Oo l0 s l4 x) && decide (we l4 ≤ 1000)))))))) (e:=false) (fun i=>wm (l0.getD i 0) 1 16=true) (fun i k=>Za.l0 k (i:Int) l0 p v s l4) ?_ ?_ ?_
 ·have e:(bif cA l0.length (fun i=>wm (l0.getD i 0) 1 16=true) then (wm (l0.length:Int) 1 4 && (wm v 0 20 && (wm p 0 6 && (decide (p ≤ v) && (wm s v 1000 && (wm (l4.length:Int) 1 300 && (!(l4.any fun x=>!Oo l0 s l4 x) && decide (we l4 ≤ 1000)))))))) else false)=Qn l0 p v s l4:=by
   rw [Dz l0 0 (fun x=>wm x 1 16)];unfold Qn DE gz;rw [Bool.eq_iff_iff];cases (!(l0.any fun x=>!wm x 1 16))
   ·simp
   ·simp only [cond_true,Bool.and_eq_true,wm,decide_eq_true_eq,and_assoc,true_and]
    constructor
    ·rintro ⟨h1,h2,h3,h4,h5,h6,h7,h8⟩;refine ⟨h1,h2,h5,?_,h4,h8⟩
     split <;> omega
    ·rintro ⟨h1,h2,h5,h6,h4,h7,h8,h9⟩;refine ⟨h1,h2,?_⟩
     split at h6 <;> exact ⟨by omega,by omega,by omega,by omega,by omega,h7,h8,h9⟩
  rw [e] at key;exact key
 ·refine Ev.step (fun k=>by rw [Za.l0]) (Ev.neg (by omega) ?_);refine Ev.bind (Qg _ _ _) ?_;cases hb0:wm (l0.length:Int) 1 4 with
  | false=>exact Ev.neg (by simp) (no (by simp))
  | true =>
   refine Ev.pos rfl (Ev.bind (Qg _ _ _) ?_);cases Hy:wm v 0 20 with
   | false=>exact Ev.neg (by simp) (no (by simp))
   | true =>
    refine Ev.pos rfl (Ev.bind (Qg _ _ _) ?_);cases jk:wm p 0 6 with
    | false=>exact Ev.neg (by simp) (no (by simp))
    | true =>
     refine Ev.pos rfl ?_
     by_cases hpv:p > v
     ·refine Ev.pos hpv (no ?_);rw [decide_eq_false (show ¬ p ≤ v from by omega)];simp
     ·refine Ev.neg hpv (Ev.bind (Qg _ _ _) ?_);rw [decide_eq_true (show p ≤ v from by omega)];cases gR:wm s v 1000 with
      | false=>exact Ev.neg (by simp) (no (by simp))
      | true =>
       refine Ev.pos rfl (Ev.bind (Qg _ _ _) ?_);cases CO:wm (l4.length:Int) 1 300 with
       | false=>exact no (by simp)
       | true =>
        refine Ev.step (fun k=>by rw [Za.j1]) (Ev.neg (by simp) ?_);simp only [Bool.true_and];have hs0:0 ≤ s∧s ≤ 1000:=by simp [wm] at Hy gR;omega
        have key:=Wi (r:=true) (n:=l4.length) (fun i=>we (l4.take i) ≤ 1000→Ev (fun k=>Za.l1 k (we (l4.take i):Int) (i:Int) l0 p v s l4) (!((l4.drop i).any fun x=>!Oo l0 s l4 x) && decide (we l4 ≤ 1000))) ?_ ?_ 0 (by omega) (by simp [we])
        ·rw [List.drop_zero] at key
         simpa [we] using key
        ·intro h;rw [List.take_length] at h;refine Ev.step (fun k=>by rw [Za.l1]) (Ev.neg (by omega) ?_);rw [List.drop_length,decide_eq_true h];exact Ev.now _
        ·intro i hi ih h;have h1:=xw l4 i hi;have h2:=rB l4 (i + 1);refine Ev.step (fun k=>by rw [Za.l1]) (Ev.pos (by omega) (Ev.pos (by omega) ?_));rw [pq hi,Rh (x:=(we (l4.take i):Int) + (l4[i].f0.length:Int)) (by omega) (by omega),show (we (l4.take i):Int) + (l4[i].f0.length:Int)=(we (l4.take (i + 1)):Int) from by omega]
         have hd:((l4.drop i).any fun x=>!Oo l0 s l4 x)=(!Oo l0 s l4 l4[i] || (l4.drop (i + 1)).any fun x=>!Oo l0 s l4 x):=by
          rw [List.drop_eq_getElem_cons hi,List.any_cons]
         rw [hd]
         by_cases hgt:(we (l4.take (i + 1)):Int) > 1000
         ·rw [decide_eq_false (show ¬ we l4 ≤ 1000 from by omega),Bool.and_false];exact Ev.pos hgt (Ev.now _)
         ·refine Ev.neg hgt (Ev.bind (hJ _ _ _ _ _ hs0.1 hs0.2 h0 hl4 (by omega)) ?_);cases hq:Oo l0 s l4 l4[i] with
          | false =>
           have hq':¬ Zl l0.length s l4.length l4[i].f0 l4[i].f1 l4[i].f2 l4[i].f3 l4[i].f4=true:=by
            have e:Zl l0.length s l4.length l4[i].f0 l4[i].f1 l4[i].f2 l4[i].f3 l4[i].f4=false:=hq;rw [e];simp
           exact Ev.neg hq' (Ev.now _)
          | true =>
           have hq':Zl l0.length s l4.length l4[i].f0 l4[i].f1 l4[i].f2 l4[i].f3 l4[i].f4=true:=hq;refine Ev.pos hq' ?_;rw [ug hi (by omega),Bool.not_true,Bool.false_or];exact ih (by omega)
 ·intro i hi hq r hr;refine Ev.step (fun k=>by rw [Za.l0]) (Ev.pos (by omega) (Ev.pos (by omega) ?_));refine Ev.bind (Qg _ _ _) (Ev.pos hq ?_);rw [ug hi (by omega)];exact hr
 ·intro i hi hq;refine Ev.step (fun k=>by rw [Za.l0]) (Ev.pos (by omega) (Ev.pos (by omega) ?_));exact Ev.bind (Qg _ _ _) (Ev.neg hq (Ev.now _))
end
end Go.Proofs.Ytmifdccaajngcaa.P
end
section
namespace Go.Proofs.Ytmifdccaajngcaa.P
open Go.RowKit Go.Proofs.Na.Ec Go.Proofs.Na.gf Go.Proofs.Na.Eg
set_option linter.unusedVariables false
set_option linter.unusedSimpArgs false
section
variable {l0:List Int} {p v s:Int} {l4:List Vf}
theorem kF (h:Qn l0 p v s l4=true):DE l0 p v s l4.length=true∧(∀ b ∈ l4,Oo l0 s l4 b=true)∧we l4 ≤ 1000:=by
 unfold Qn at h;simp only [Bool.and_eq_true,Bool.not_eq_true',List.any_eq_false,decide_eq_true_eq] at h;exact ⟨h.1,fun b hb=>by have:=h.2.1 b hb;simpa using this,h.2.2⟩
theorem wJ {b:Vf} (h:Oo l0 s l4 b=true):∀ x ∈ b.f0,El l0.length s x=true:=by
 unfold Oo Zl at h;simp only [Bool.and_eq_true,Bool.not_eq_true',List.any_eq_false] at h;intro x hx;have:=h.1.1 x hx
 simpa using this
theorem Zu (l:List Vf) (b:Vf) (hb:b ∈ l):b.f0.length ≤ we l:=by
 unfold we;exact IB (List.mem_map.mpr ⟨b,hb,rfl⟩)
end
end Go.Proofs.Ytmifdccaajngcaa.P
end
section
namespace Go.Proofs.Ytmifdccaajngcaa.P
open Go.RowKit Go.Proofs.Na.Ec Go.Proofs.Na.gf Go.Proofs.Na.Eg
set_option linter.unusedVariables false
set_option linter.unusedSimpArgs false
attribute [local go_sem] Yk Wk Gm Fm tj sj Xk Vk
def Lc.l0:Nat→List (Nd)→Int→Int→Option (Int)
 | 0,_,_,_=>none
 | k + 1,x0,x1,x5=>if x5 < (x0.length:Int) then (if 0 ≤ x5 then (if ((oa x0 x5).f0)=x1 then (if ((oa x0 x5).f1)=(wrap64 (x1 + 1)) then (if ((oa x0 x5).f2)=(wrap64 ((wrap64 (x1 + 1)) + 1)) then (if ((oa x0 x5).f3)=(wrap64 ((wrap64 ((wrap64 (x1 + 1)) + 1)) + 1)) then (if ((oa x0 x5).f4)=(wrap64 ((wrap64 ((wrap64 ((wrap64 (x1 + 1)) + 1)) + 1)) + 1)) then (if ((oa x0 x5).f5)=(wrap64 ((wrap64 ((wrap64 ((wrap64 ((wrap64 (x1 + 1)) + 1)) + 1)) + 1)) + 1)) then ((Od.f k (wrap64 ((wrap64 ((wrap64 ((wrap64 ((wrap64 ((wrap64 (x1 + 1)) + 1)) + 1)) + 1)) + 1)) + 1))).bind fun t108=>(if ((oa x0 x5).f6).toList=t108.toList then (Lc.l0 k x0 (wrap64 ((wrap64 ((wrap64 ((wrap64 ((wrap64 ((wrap64 ((wrap64 (x1 + 1)) + 1)) + 1)) + 1)) + 1)) + 1)) + 1)) (wrap64 (x5 + 1))) else (some (-1)))) else (some (-1))) else (some (-1))) else (some (-1))) else (some (-1))) else (some (-1))) else (some (-1))) else (none)) else (some x1)
def Lc.f (k:Nat) (l0:List (Nd)) (a1:Int):Option (Int):=Lc.l0 k l0 a1 0
def Lc.T22:Bool × List (List Nat × List Nat):=(true,[([],[]),([],[]),([0,1],[0,1]),([2],[2]),([3],[3]),([],[]),([5],[5]),([4,6],[4,6])])
def Lc.B22:List Nat:=[0,0,3,7,15,0,32,127]
theorem Lc.wY:qn .any (opsOf Try.f103 22)=Lc.T22:=by kernel_rfl
theorem Lc.GR:Sl Lc.T22.2 Lc.B22=true:=by kernel_rfl
theorem Lc.calls (k:Nat) (A0:Option Addr) (c0:Nat) (l0:List (Nd)) (a1:Int) (r:Int) (w:World) (fk:Kd.C uh w A0 l0.length l0) (hc0:l0.length ≤ c0) (h:Lc.f k l0 a1=some r) :
  Calls Try.prog 103 #[.slice A0 l0.length c0,.int .i64 a1] w fun e w'=>e = .returned (.int .i64 r)∧Below w.heap.size w w':=by
 have Jh:=ia.mk fk;have uD:=ia.mk hc0;clear fk hc0;have HB:=ia.mk (Below.refl w.heap.size w);have H:(Lc.l0 k l0 a1 0)=some r:=h;clear h;have H':=ia.mk H;clear H;go_enter Try.func103,Try.ntmps103;go_wp2
 go_loopg [1,5] k (fun kq v1 v5 w'=>∃ (Qd:Int) (za:Int),v1 = .int .i64 Qd∧v5 = .int .i64 za∧ia (Lc.l0 kq l0 Qd za=some r)∧ia (kq ≤ k)∧ia (Below w.heap.size w w'))
 case atStart=>exact ⟨(a1),(0),(by first|rfl|(simp;done)|(simp [*];done)),(by first|rfl|(simp;done)|(simp [*];done)),H',⟨Nat.le_refl _⟩,⟨by repeat (first|(with_reducible first|exact HB.out|apply qa|apply ja|apply ta)|exact HB.out)⟩⟩
 case round =>
  clear H'
  try clear c1
  try clear p2
  (try clear HA);(try clear jh);(try clear HB);obtain ⟨Qd,za,rfl,rfl,HA,jh,HB⟩:=hrel;cases gk with
  | zero=>exact absurd HA.out (by simp [Lc.l0])
  | succ k1 =>
   have H:=HA.out;clear HA;simp only [Lc.l0] at H
   by_cases c3:za < (l0.length:Int)
   ·rw [if_pos c3] at H;have aj:decide (za < (l0.length:Int))=true:=decide_eq_true c3;clear c3
    by_cases c4:0 ≤ za
    ·rw [if_pos c4] at H;have Fl:decide (0 ≤ za)=true:=decide_eq_true c4;clear c4
     by_cases c5:((oa l0 za).f0)=Qd
     ·rw [if_pos c5] at H;have Yo:(((oa l0 za).f0) == Qd)=true:=beq_iff_eq.mpr c5;have Cz:(((oa l0 za).f0) != Qd)=false:=bne_eq_false_iff_eq.mpr c5;clear c5
      by_cases c6:((oa l0 za).f1)=(wrap64 (Qd + 1))
      ·rw [if_pos c6] at H;have Cn:(((oa l0 za).f1) == (wrap64 (Qd + 1)))=true:=beq_iff_eq.mpr c6;have qF:(((oa l0 za).f1) != (wrap64 (Qd + 1)))=false:=bne_eq_false_iff_eq.mpr c6;clear c6
       by_cases c7:((oa l0 za).f2)=(wrap64 ((wrap64 (Qd + 1)) + 1))
       ·rw [if_pos c7] at H;have Xo:(((oa l0 za).f2) == (wrap64 ((wrap64 (Qd + 1)) + 1)))=true:=beq_iff_eq.mpr c7;have fC:(((oa l0 za).f2) != (wrap64 ((wrap64 (Qd + 1)) + 1)))=false:=bne_eq_false_iff_eq.mpr c7;clear c7
        by_cases c8:((oa l0 za).f3)=(wrap64 ((wrap64 ((wrap64 (Qd + 1)) + 1)) + 1))
        ·rw [if_pos c8] at H;have Wv:(((oa l0 za).f3) == (wrap64 ((wrap64 ((wrap64 (Qd + 1)) + 1)) + 1)))=true:=beq_iff_eq.mpr c8;have VC:(((oa l0 za).f3) != (wrap64 ((wrap64 ((wrap64 (Qd + 1)) + 1)) + 1)))=false:=bne_eq_false_iff_eq.mpr c8;clear c8
         by_cases c9:((oa l0 za).f4)=(wrap64 ((wrap64 ((wrap64 ((wrap64 (Qd + 1)) + 1)) + 1)) + 1))
         ·rw [if_pos c9] at H;have pF:(((oa l0 za).f4) == (wrap64 ((wrap64 ((wrap64 ((wrap64 (Qd + 1)) + 1)) + 1)) + 1)))=true:=beq_iff_eq.mpr c9;have mJ:(((oa l0 za).f4) != (wrap64 ((wrap64 ((wrap64 ((wrap64 (Qd + 1)) + 1)) + 1)) + 1)))=false:=bne_eq_false_iff_eq.mpr c9;clear c9
          by_cases zH:((oa l0 za).f5)=(wrap64 ((wrap64 ((wrap64 ((wrap64 ((wrap64 (Qd + 1)) + 1)) + 1)) + 1)) + 1))
          ·rw [if_pos zH] at H;have ER:(((oa l0 za).f5) == (wrap64 ((wrap64 ((wrap64 ((wrap64 ((wrap64 (Qd + 1)) + 1)) + 1)) + 1)) + 1)))=true:=beq_iff_eq.mpr zH;have DR:(((oa l0 za).f5) != (wrap64 ((wrap64 ((wrap64 ((wrap64 ((wrap64 (Qd + 1)) + 1)) + 1)) + 1)) + 1)))=false:=bne_eq_false_iff_eq.mpr zH;clear zH;replace H:=Option.bind_eq_some_iff.mp H;obtain ⟨t108,ZH,H⟩:=H;replace H:(if ((oa l0 za).f6).toList=t108.toList then (Lc.l0 k1 l0 (wrap64 ((wrap64 ((wrap64 ((wrap64 ((wrap64 ((wrap64 ((wrap64 (Qd + 1)) + 1)) + 1)) + 1)) + 1)) + 1)) + 1)) (wrap64 (za + 1))) else (some (-1)))=some r:=H;have VT:=ia.mk ZH;clear ZH
           by_cases XC:((oa l0 za).f6).toList=t108.toList
           ·rw [if_pos XC] at H;have Yac:(((oa l0 za).f6).toList == t108.toList)=true:=beq_iff_eq.mpr XC;have Xac:(((oa l0 za).f6).toList != t108.toList)=false:=bne_eq_false_iff_eq.mpr XC;clear XC;have H':=ia.mk H;clear H;have Le:0 ≤ (za:Int):=of_decide_eq_true (by first|(with_reducible assumption)|assumption);have Ke:za < (l0.length:Int):=of_decide_eq_true (by first|(with_reducible assumption)|assumption);obtain ⟨Oc,Eh,Tc,qd,od,ld,jd,qf,lf⟩:=Yd Jh.out za Le Ke;cases Eh;replace Tc:=Da HB.out Tc;replace qd:=Da HB.out qd;replace od:=Da HB.out od;replace ld:=Da HB.out ld;replace jd:=Da HB.out jd;replace qf:=Da HB.out qf;replace lf:=Da HB.out lf;replace Le:=eq_true Le;replace Ke:=eq_true Ke;have mg:0 ≤ (za:Int):=of_decide_eq_true (by first|(with_reducible assumption)|assumption);have lg:za < (l0.length:Int):=of_decide_eq_true (by first|(with_reducible assumption)|assumption);obtain ⟨Qe,sk,Pd,me,ke,je,ie,Ye,Xe⟩:=Yd Jh.out za mg lg;obtain rfl:Oc=Qe:=(by injection sk);replace Pd:=Da HB.out Pd;replace me:=Da HB.out me;replace ke:=Da HB.out ke;replace je:=Da HB.out je;replace ie:=Da HB.out ie;replace Ye:=Da HB.out Ye;replace Xe:=Da HB.out Xe;replace mg:=eq_true mg;replace lg:=eq_true lg;have nh:0 ≤ (za:Int):=of_decide_eq_true (by first|(with_reducible assumption)|assumption);have mh:za < (l0.length:Int):=of_decide_eq_true (by first|(with_reducible assumption)|assumption);obtain ⟨Rf,om,Td,Be,Ae,ze,ye,Mf,Lf⟩:=Yd Jh.out za nh mh;obtain rfl:Oc=Rf:=(by injection om);replace Td:=Da HB.out Td;replace Be:=Da HB.out Be;replace Ae:=Da HB.out Ae;replace ze:=Da HB.out ze;replace ye:=Da HB.out ye;replace Mf:=Da HB.out Mf;replace Lf:=Da HB.out Lf;replace nh:=eq_true nh;replace mh:=eq_true mh;have Mh:0 ≤ (za:Int):=of_decide_eq_true (by first|(with_reducible assumption)|assumption);have Lh:za < (l0.length:Int):=of_decide_eq_true (by first|(with_reducible assumption)|assumption);obtain ⟨Pk,Bn,Pe,Cf,Bf,Af,zf,Dh,Ch⟩:=Yd Jh.out za Mh Lh;obtain rfl:Oc=Pk:=(by injection Bn);replace Pe:=Da HB.out Pe;replace Cf:=Da HB.out Cf;replace Bf:=Da HB.out Bf;replace Af:=Da HB.out Af;replace zf:=Da HB.out zf;replace Dh:=Da HB.out Dh;replace Ch:=Da HB.out Ch;replace Mh:=eq_true Mh;replace Lh:=eq_true Lh;have Uk:0 ≤ (za:Int):=of_decide_eq_true (by first|(with_reducible assumption)|assumption);have Tk:za < (l0.length:Int):=of_decide_eq_true (by first|(with_reducible assumption)|assumption);obtain ⟨wj,vt,zg,Wg,Vg,Ug,Tg,Um,Sm⟩:=Yd Jh.out za Uk Tk;obtain rfl:Oc=wj:=(by injection vt);replace zg:=Da HB.out zg;replace Wg:=Da HB.out Wg;replace Vg:=Da HB.out Vg;replace Ug:=Da HB.out Ug;replace Tg:=Da HB.out Tg;replace Um:=Da HB.out Um;replace Sm:=Da HB.out Sm;replace Uk:=eq_true Uk;replace Tk:=eq_true Tk;have Nq:0 ≤ (za:Int):=of_decide_eq_true (by first|(with_reducible assumption)|assumption);have Mq:za < (l0.length:Int):=of_decide_eq_true (by first|(with_reducible assumption)|assumption);obtain ⟨Ny,mF,rj,Ek,Dk,Ck,Bk,Jp,Ip⟩:=Yd Jh.out za Nq Mq;obtain rfl:Oc=Ny:=(by injection mF);replace rj:=Da HB.out rj;replace Ek:=Da HB.out Ek;replace Dk:=Da HB.out Dk;replace Ck:=Da HB.out Ck;replace Bk:=Da HB.out Bk;replace Jp:=Da HB.out Jp;replace Ip:=Da HB.out Ip;replace Nq:=eq_true Nq;replace Mq:=eq_true Mq
            try go_wp2
            have Ub:=ia.mk (ta HB.out);clear HB;have HB:=Ub;clear Ub;have Ew:0 ≤ (za:Int):=of_decide_eq_true (by first|(with_reducible assumption)|assumption);have Dw:za < (l0.length:Int):=of_decide_eq_true (by first|(with_reducible assumption)|assumption);obtain ⟨mN,vR,Oj,Nj,Mj,Lj,Kj,Jj,Ij⟩:=Yd Jh.out za Ew Dw;have Tw:=Ij;have Uw:=Jj;have Vw:=Kj;have Ww:=Lj;have Xw:=Mj;have Yw:=Nj;have Zw:=Oj;obtain rfl:Oc=mN:=(by injection vR);replace Oj:=Da HB.out Oj;replace Nj:=Da HB.out Nj;replace Mj:=Da HB.out Mj;replace Lj:=Da HB.out Lj;replace Kj:=Da HB.out Kj;replace Jj:=Da HB.out Jj;replace Ij:=Da HB.out Ij;replace Ew:=eq_true Ew;replace Dw:=eq_true Dw;refine Dj (n:=8) (S:=fun w'=>w'.cell? (Oc.add ((za).toNat * 7))=some (.int .i64 ((oa l0 za).f0))∧w'.cell? ⟨(Oc.add ((za).toNat * 7)).block,(Oc.add ((za).toNat * 7)).off + 1,none⟩=some (.int .i64 ((oa l0 za).f1))∧w'.cell? ⟨(Oc.add ((za).toNat * 7)).block,(Oc.add ((za).toNat * 7)).off + 2,none⟩=some (.int .i64 ((oa l0 za).f2))∧w'.cell? ⟨(Oc.add ((za).toNat * 7)).block,(Oc.add ((za).toNat * 7)).off + 3,none⟩=some (.int .i64 ((oa l0 za).f3))∧w'.cell? ⟨(Oc.add ((za).toNat * 7)).block,(Oc.add ((za).toNat * 7)).off + 4,none⟩=some (.int .i64 ((oa l0 za).f4))∧w'.cell? ⟨(Oc.add ((za).toNat * 7)).block,(Oc.add ((za).toNat * 7)).off + 5,none⟩=some (.int .i64 ((oa l0 za).f5))∧w'.cell? ⟨(Oc.add ((za).toNat * 7)).block,(Oc.add ((za).toNat * 7)).off + 6,none⟩=some (.string ((oa l0 za).f6))) (ds:=[]) #[false,false,false,false,false,false,false,false] (by kernel_rfl) rfl rfl ⟨(Da HB.out Zw),(Da HB.out Yw),(Da HB.out Xw),(Da HB.out Ww),(Da HB.out Vw),(Da HB.out Uw),(Da HB.out Tw)⟩ (fun hHeld=>?_);refine ah Lc.wY Lc.GR (fun Dd Kl=>?_);generalize wr.drew=jG at HB Oj Nj Mj Lj Kj Jj Ij hHeld ⊢;refine Nb (i:=0) (N:=some 66) (v:=?_) (a':=?_) #[true,false,false,false,false,false,false,false] rfl rfl (qb Dd.out (by kernel_rfl)) (fun _ _ _ h=>h) (Or.inl ⟨by rfl,?_⟩) ?_ ?_;rotate_left
            ·intro w';go_simp;with_reducible rfl
            rotate_left
            ·simp only [Act.put,List.setIfInBounds_toArray,List.set_cons_zero,List.set_cons_succ,jb,mb]
             rfl
            refine Nb (i:=1) (N:=some 67) (v:=?_) (a':=?_) #[true,true,false,false,false,false,false,false] rfl rfl (qb Dd.out (by kernel_rfl)) (fun _ _ _ h=>h) (Or.inl ⟨by rfl,?_⟩) ?_ ?_;rotate_left
            ·intro w';go_simp;with_reducible rfl
            rotate_left
            ·simp only [Act.put,List.setIfInBounds_toArray,List.set_cons_zero,List.set_cons_succ,jb,mb]
             rfl
            refine Nb (i:=2) (N:=some 68) (v:=?_) (a':=?_) #[true,true,true,false,false,false,false,false] rfl rfl (qb Dd.out (by kernel_rfl)) (fun _ _ _ h=>h) (Or.inl ⟨by rfl,?_⟩) ?_ ?_;rotate_left
            ·intro w';go_simp;with_reducible rfl
            rotate_left
            ·simp only [Act.put,List.setIfInBounds_toArray,List.set_cons_zero,List.set_cons_succ,jb,mb]
             rfl
            refine Nb (i:=3) (N:=some 69) (v:=?_) (a':=?_) #[true,true,true,true,false,false,false,false] rfl rfl (qb Dd.out (by kernel_rfl)) (fun _ _ _ h=>h) (Or.inl ⟨by rfl,?_⟩) ?_ ?_;rotate_left
            ·intro w';go_simp;with_reducible rfl
            rotate_left
            ·simp only [Act.put,List.setIfInBounds_toArray,List.set_cons_zero,List.set_cons_succ,jb,mb]
             rfl
            refine Nb (i:=5) (N:=some 71) (v:=?_) (a':=?_) #[true,true,true,true,false,true,false,false] rfl rfl (qb Dd.out (by kernel_rfl)) (fun _ _ _ h=>h) (Or.inl ⟨by rfl,?_⟩) ?_ ?_;rotate_left
            ·intro w';go_simp;with_reducible rfl
            rotate_left
            ·simp only [Act.put,List.setIfInBounds_toArray,List.set_cons_zero,List.set_cons_succ,jb,mb]
             rfl
            refine bg (i:=4) (N:=some 70) (v:=?_) (a':=?_) #[true,true,true,true,true,true,false,false] rfl rfl (Sd Dd.out Kl.out (by kernel_rfl)) (fun _ _ _ h=>h) (Or.inl ⟨by rfl,?_⟩) hHeld ?_ ?_;rotate_left
            ·rintro w' ⟨s0,s1,s2,s3,s4,s5,s6⟩;go_simp;with_reducible rfl
            rotate_left
            ·simp only [Act.put,List.setIfInBounds_toArray,List.set_cons_zero,List.set_cons_succ,jb,mb]
             rfl
            refine Pq (i:=6) (N:=some 72) #[true,true,true,true,true,true,true,false] rfl rfl (nk Dd.out (by kernel_rfl)) (by decide) (fun K hK=>?_);refine vn Try.func121 (by kernel_rfl) rfl #[.int .i64 (wrap64 ((wrap64 ((wrap64 ((wrap64 ((wrap64 ((wrap64 (Qd + 1)) + 1)) + 1)) + 1)) + 1)) + 1))] (by rfl) rfl rfl (by (try simp only [List.map_toArray,List.map_cons,List.map_nil]);first|done|rfl|(simp only [List.length_drop,List.length_take];rfl)) ?_;with_reducible refine (Od.calls k1 (wrap64 ((wrap64 ((wrap64 ((wrap64 ((wrap64 ((wrap64 (Qd + 1)) + 1)) + 1)) + 1)) + 1)) + 1)) t108 _ VT.out).mono ?_;rintro e tv ⟨rfl,hb⟩;refine ⟨_,rfl,?_⟩;have Ub:=ia.mk (Oa (by repeat (first|(with_reducible first|exact HB.out|apply qa|apply ja|apply ta)|exact HB.out)) hb);clear HB;have HB:=Ub;clear Ub;(try clear hb);(try clear jk);(try clear hk);(try clear hi);refine hK.out _ _ ⟨(Da HB.out Zw),(Da HB.out Yw),(Da HB.out Xw),(Da HB.out Ww),(Da HB.out Vw),(Da HB.out Uw),(Da HB.out Tw)⟩ (fun hHeld=>?_);clear hK K;refine tn (a':=?_) ?_ ?_;rotate_left
            ·show Act.put _ (some 72) _=_
             simp only [Act.put,List.setIfInBounds_toArray,List.set_cons_zero,List.set_cons_succ,jb,mb]
             rfl
            refine Nb (i:=7) (N:=some 73) (v:=?_) (a':=?_) #[true,true,true,true,true,true,true,true] rfl rfl (qb Dd.out (by kernel_rfl)) (fun _ _ _ h=>h) (Or.inl ⟨by rfl,?_⟩) ?_ ?_;rotate_left
            ·intro w';go_simp;with_reducible rfl
            rotate_left
            ·simp only [Act.put,List.setIfInBounds_toArray,List.set_cons_zero,List.set_cons_succ,jb,mb]
             rfl
            refine kn (Xi Dd.out (by kernel_rfl)) ?_
            try go_wp2
            go_roundg k1
            case measure=>have:=jh.out;omega
            case rel=>exact ⟨(wrap64 ((wrap64 ((wrap64 ((wrap64 ((wrap64 ((wrap64 ((wrap64 (Qd + 1)) + 1)) + 1)) + 1)) + 1)) + 1)) + 1)),(wrap64 (za + 1)),(by first|rfl|(simp;done)|(simp [*];done)),(by first|rfl|(simp;done)|(simp [*];done)),H',⟨by have:=jh.out;omega⟩,⟨by repeat (first|(with_reducible first|exact HB.out|apply qa|apply ja|apply ta)|exact HB.out)⟩⟩
           ·rw [if_neg XC] at H;have Yac:(((oa l0 za).f6).toList == t108.toList)=false:=beq_eq_false_iff_ne.mpr XC;have Xac:(((oa l0 za).f6).toList != t108.toList)=true:=bne_iff_ne.mpr XC;obtain rfl:=Option.some.inj H;have Le:0 ≤ (za:Int):=of_decide_eq_true (by first|(with_reducible assumption)|assumption);have Ke:za < (l0.length:Int):=of_decide_eq_true (by first|(with_reducible assumption)|assumption);obtain ⟨Oc,Eh,Tc,qd,od,ld,jd,qf,lf⟩:=Yd Jh.out za Le Ke;cases Eh;replace Tc:=Da HB.out Tc;replace qd:=Da HB.out qd;replace od:=Da HB.out od;replace ld:=Da HB.out ld;replace jd:=Da HB.out jd;replace qf:=Da HB.out qf;replace lf:=Da HB.out lf;replace Le:=eq_true Le;replace Ke:=eq_true Ke;have mg:0 ≤ (za:Int):=of_decide_eq_true (by first|(with_reducible assumption)|assumption);have lg:za < (l0.length:Int):=of_decide_eq_true (by first|(with_reducible assumption)|assumption);obtain ⟨Qe,sk,Pd,me,ke,je,ie,Ye,Xe⟩:=Yd Jh.out za mg lg;obtain rfl:Oc=Qe:=(by injection sk);replace Pd:=Da HB.out Pd;replace me:=Da HB.out me;replace ke:=Da HB.out ke;replace je:=Da HB.out je;replace ie:=Da HB.out ie;replace Ye:=Da HB.out Ye;replace Xe:=Da HB.out Xe;replace mg:=eq_true mg;replace lg:=eq_true lg;have nh:0 ≤ (za:Int):=of_decide_eq_true (by first|(with_reducible assumption)|assumption);have mh:za < (l0.length:Int):=of_decide_eq_true (by first|(with_reducible assumption)|assumption);obtain ⟨Rf,om,Td,Be,Ae,ze,ye,Mf,Lf⟩:=Yd Jh.out za nh mh;obtain rfl:Oc=Rf:=(by injection om);replace Td:=Da HB.out Td;replace Be:=Da HB.out Be;replace Ae:=Da HB.out Ae;replace ze:=Da HB.out ze;replace ye:=Da HB.out ye;replace Mf:=Da HB.out Mf;replace Lf:=Da HB.out Lf;replace nh:=eq_true nh;replace mh:=eq_true mh;have Mh:0 ≤ (za:Int):=of_decide_eq_true (by first|(with_reducible assumption)|assumption);have Lh:za < (l0.length:Int):=of_decide_eq_true (by first|(with_reducible assumption)|assumption);obtain ⟨Pk,Bn,Pe,Cf,Bf,Af,zf,Dh,Ch⟩:=Yd Jh.out za Mh Lh;obtain rfl:Oc=Pk:=(by injection Bn);replace Pe:=Da HB.out Pe;replace Cf:=Da HB.out Cf;replace Bf:=Da HB.out Bf;replace Af:=Da HB.out Af;replace zf:=Da HB.out zf;replace Dh:=Da HB.out Dh;replace Ch:=Da HB.out Ch;replace Mh:=eq_true Mh;replace Lh:=eq_true Lh;have Uk:0 ≤ (za:Int):=of_decide_eq_true (by first|(with_reducible assumption)|assumption);have Tk:za < (l0.length:Int):=of_decide_eq_true (by first|(with_reducible assumption)|assumption);obtain ⟨wj,vt,zg,Wg,Vg,Ug,Tg,Um,Sm⟩:=Yd Jh.out za Uk Tk;obtain rfl:Oc=wj:=(by injection vt);replace zg:=Da HB.out zg;replace Wg:=Da HB.out Wg;replace Vg:=Da HB.out Vg;replace Ug:=Da HB.out Ug;replace Tg:=Da HB.out Tg;replace Um:=Da HB.out Um;replace Sm:=Da HB.out Sm;replace Uk:=eq_true Uk;replace Tk:=eq_true Tk;have Nq:0 ≤ (za:Int):=of_decide_eq_true (by first|(with_reducible assumption)|assumption);have Mq:za < (l0.length:Int):=of_decide_eq_true (by first|(with_reducible assumption)|assumption);obtain ⟨Ny,mF,rj,Ek,Dk,Ck,Bk,Jp,Ip⟩:=Yd Jh.out za Nq Mq;obtain rfl:Oc=Ny:=(by injection mF);replace rj:=Da HB.out rj;replace Ek:=Da HB.out Ek;replace Dk:=Da HB.out Dk;replace Ck:=Da HB.out Ck;replace Bk:=Da HB.out Bk;replace Jp:=Da HB.out Jp;replace Ip:=Da HB.out Ip;replace Nq:=eq_true Nq;replace Mq:=eq_true Mq
            try go_wp2
            have Ub:=ia.mk (ta HB.out);clear HB;have HB:=Ub;clear Ub;have Ew:0 ≤ (za:Int):=of_decide_eq_true (by first|(with_reducible assumption)|assumption);have Dw:za < (l0.length:Int):=of_decide_eq_true (by first|(with_reducible assumption)|assumption);obtain ⟨mN,vR,Oj,Nj,Mj,Lj,Kj,Jj,Ij⟩:=Yd Jh.out za Ew Dw;have Tw:=Ij;have Uw:=Jj;have Vw:=Kj;have Ww:=Lj;have Xw:=Mj;have Yw:=Nj;have Zw:=Oj;obtain rfl:Oc=mN:=(by injection vR);replace Oj:=Da HB.out Oj;replace Nj:=Da HB.out Nj;replace Mj:=Da HB.out Mj;replace Lj:=Da HB.out Lj;replace Kj:=Da HB.out Kj;replace Jj:=Da HB.out Jj;replace Ij:=Da HB.out Ij;replace Ew:=eq_true Ew;replace Dw:=eq_true Dw;refine Dj (n:=8) (S:=fun w'=>w'.cell? (Oc.add ((za).toNat * 7))=some (.int .i64 ((oa l0 za).f0))∧w'.cell? ⟨(Oc.add ((za).toNat * 7)).block,(Oc.add ((za).toNat * 7)).off + 1,none⟩=some (.int .i64 ((oa l0 za).f1))∧w'.cell? ⟨(Oc.add ((za).toNat * 7)).block,(Oc.add ((za).toNat * 7)).off + 2,none⟩=some (.int .i64 ((oa l0 za).f2))∧w'.cell? ⟨(Oc.add ((za).toNat * 7)).block,(Oc.add ((za).toNat * 7)).off + 3,none⟩=some (.int .i64 ((oa l0 za).f3))∧w'.cell? ⟨(Oc.add ((za).toNat * 7)).block,(Oc.add ((za).toNat * 7)).off + 4,none⟩=some (.int .i64 ((oa l0 za).f4))∧w'.cell? ⟨(Oc.add ((za).toNat * 7)).block,(Oc.add ((za).toNat * 7)).off + 5,none⟩=some (.int .i64 ((oa l0 za).f5))∧w'.cell? ⟨(Oc.add ((za).toNat * 7)).block,(Oc.add ((za).toNat * 7)).off + 6,none⟩=some (.string ((oa l0 za).f6))) (ds:=[]) #[false,false,false,false,false,false,false,false] (by kernel_rfl) rfl rfl ⟨(Da HB.out Zw),(Da HB.out Yw),(Da HB.out Xw),(Da HB.out Ww),(Da HB.out Vw),(Da HB.out Uw),(Da HB.out Tw)⟩ (fun hHeld=>?_);refine ah Lc.wY Lc.GR (fun Dd Kl=>?_);generalize wr.drew=Kq at HB Oj Nj Mj Lj Kj Jj Ij hHeld ⊢;refine Nb (i:=0) (N:=some 66) (v:=?_) (a':=?_) #[true,false,false,false,false,false,false,false] rfl rfl (qb Dd.out (by kernel_rfl)) (fun _ _ _ h=>h) (Or.inl ⟨by rfl,?_⟩) ?_ ?_;rotate_left
            ·intro w';go_simp;with_reducible rfl
            rotate_left
            ·simp only [Act.put,List.setIfInBounds_toArray,List.set_cons_zero,List.set_cons_succ,jb,mb]
             rfl
            refine Nb (i:=1) (N:=some 67) (v:=?_) (a':=?_) #[true,true,false,false,false,false,false,false] rfl rfl (qb Dd.out (by kernel_rfl)) (fun _ _ _ h=>h) (Or.inl ⟨by rfl,?_⟩) ?_ ?_;rotate_left
            ·intro w';go_simp;with_reducible rfl
            rotate_left
            ·simp only [Act.put,List.setIfInBounds_toArray,List.set_cons_zero,List.set_cons_succ,jb,mb]
             rfl
            refine Nb (i:=2) (N:=some 68) (v:=?_) (a':=?_) #[true,true,true,false,false,false,false,false] rfl rfl (qb Dd.out (by kernel_rfl)) (fun _ _ _ h=>h) (Or.inl ⟨by rfl,?_⟩) ?_ ?_;rotate_left
            ·intro w';go_simp;with_reducible rfl
            rotate_left
            ·simp only [Act.put,List.setIfInBounds_toArray,List.set_cons_zero,List.set_cons_succ,jb,mb]
             rfl
            refine Nb (i:=3) (N:=some 69) (v:=?_) (a':=?_) #[true,true,true,true,false,false,false,false] rfl rfl (qb Dd.out (by kernel_rfl)) (fun _ _ _ h=>h) (Or.inl ⟨by rfl,?_⟩) ?_ ?_;rotate_left
            ·intro w';go_simp;with_reducible rfl
            rotate_left
            ·simp only [Act.put,List.setIfInBounds_toArray,List.set_cons_zero,List.set_cons_succ,jb,mb]
             rfl
            refine Nb (i:=5) (N:=some 71) (v:=?_) (a':=?_) #[true,true,true,true,false,true,false,false] rfl rfl (qb Dd.out (by kernel_rfl)) (fun _ _ _ h=>h) (Or.inl ⟨by rfl,?_⟩) ?_ ?_;rotate_left
            ·intro w';go_simp;with_reducible rfl
            rotate_left
            ·simp only [Act.put,List.setIfInBounds_toArray,List.set_cons_zero,List.set_cons_succ,jb,mb]
             rfl
            refine bg (i:=4) (N:=some 70) (v:=?_) (a':=?_) #[true,true,true,true,true,true,false,false] rfl rfl (Sd Dd.out Kl.out (by kernel_rfl)) (fun _ _ _ h=>h) (Or.inl ⟨by rfl,?_⟩) hHeld ?_ ?_;rotate_left
            ·rintro w' ⟨s0,s1,s2,s3,s4,s5,s6⟩;go_simp;with_reducible rfl
            rotate_left
            ·simp only [Act.put,List.setIfInBounds_toArray,List.set_cons_zero,List.set_cons_succ,jb,mb]
             rfl
            refine Pq (i:=6) (N:=some 72) #[true,true,true,true,true,true,true,false] rfl rfl (nk Dd.out (by kernel_rfl)) (by decide) (fun K hK=>?_);refine vn Try.func121 (by kernel_rfl) rfl #[.int .i64 (wrap64 ((wrap64 ((wrap64 ((wrap64 ((wrap64 ((wrap64 (Qd + 1)) + 1)) + 1)) + 1)) + 1)) + 1))] (by rfl) rfl rfl (by (try simp only [List.map_toArray,List.map_cons,List.map_nil]);first|done|rfl|(simp only [List.length_drop,List.length_take];rfl)) ?_;with_reducible refine (Od.calls k1 (wrap64 ((wrap64 ((wrap64 ((wrap64 ((wrap64 ((wrap64 (Qd + 1)) + 1)) + 1)) + 1)) + 1)) + 1)) t108 _ VT.out).mono ?_;rintro e NC ⟨rfl,hb⟩;refine ⟨_,rfl,?_⟩;have Ub:=ia.mk (Oa (by repeat (first|(with_reducible first|exact HB.out|apply qa|apply ja|apply ta)|exact HB.out)) hb);clear HB;have HB:=Ub;clear Ub;(try clear hb);(try clear jk);(try clear hk);(try clear hi);refine hK.out _ _ ⟨(Da HB.out Zw),(Da HB.out Yw),(Da HB.out Xw),(Da HB.out Ww),(Da HB.out Vw),(Da HB.out Uw),(Da HB.out Tw)⟩ (fun hHeld=>?_);clear hK K;refine tn (a':=?_) ?_ ?_;rotate_left
            ·show Act.put _ (some 72) _=_
             simp only [Act.put,List.setIfInBounds_toArray,List.set_cons_zero,List.set_cons_succ,jb,mb]
             rfl
            refine Nb (i:=7) (N:=some 73) (v:=?_) (a':=?_) #[true,true,true,true,true,true,true,true] rfl rfl (qb Dd.out (by kernel_rfl)) (fun _ _ _ h=>h) (Or.inl ⟨by rfl,?_⟩) ?_ ?_;rotate_left
            ·intro w';go_simp;with_reducible rfl
            rotate_left
            ·simp only [Act.put,List.setIfInBounds_toArray,List.set_cons_zero,List.set_cons_succ,jb,mb]
             rfl
            refine kn (Xi Dd.out (by kernel_rfl)) ?_
            try go_wp2
            go_ret;exact ⟨by first|rfl|(simp [Ka,Ja] <;> rfl)|(simp [*,Ka,Ja] <;> rfl),by repeat (first|(with_reducible first|exact HB.out|apply qa|apply ja|apply ta)|exact HB.out)⟩
          ·rw [if_neg zH] at H;have ER:(((oa l0 za).f5) == (wrap64 ((wrap64 ((wrap64 ((wrap64 ((wrap64 (Qd + 1)) + 1)) + 1)) + 1)) + 1)))=false:=beq_eq_false_iff_ne.mpr zH;have DR:(((oa l0 za).f5) != (wrap64 ((wrap64 ((wrap64 ((wrap64 ((wrap64 (Qd + 1)) + 1)) + 1)) + 1)) + 1)))=true:=bne_iff_ne.mpr zH;obtain rfl:=Option.some.inj H;have Le:0 ≤ (za:Int):=of_decide_eq_true (by first|(with_reducible assumption)|assumption);have Ke:za < (l0.length:Int):=of_decide_eq_true (by first|(with_reducible assumption)|assumption);obtain ⟨Oc,Eh,Tc,qd,od,ld,jd,qf,lf⟩:=Yd Jh.out za Le Ke;cases Eh;replace Tc:=Da HB.out Tc;replace qd:=Da HB.out qd;replace od:=Da HB.out od;replace ld:=Da HB.out ld;replace jd:=Da HB.out jd;replace qf:=Da HB.out qf;replace lf:=Da HB.out lf;replace Le:=eq_true Le;replace Ke:=eq_true Ke;have mg:0 ≤ (za:Int):=of_decide_eq_true (by first|(with_reducible assumption)|assumption);have lg:za < (l0.length:Int):=of_decide_eq_true (by first|(with_reducible assumption)|assumption);obtain ⟨Qe,sk,Pd,me,ke,je,ie,Ye,Xe⟩:=Yd Jh.out za mg lg;obtain rfl:Oc=Qe:=(by injection sk);replace Pd:=Da HB.out Pd;replace me:=Da HB.out me;replace ke:=Da HB.out ke;replace je:=Da HB.out je;replace ie:=Da HB.out ie;replace Ye:=Da HB.out Ye;replace Xe:=Da HB.out Xe;replace mg:=eq_true mg;replace lg:=eq_true lg;have nh:0 ≤ (za:Int):=of_decide_eq_true (by first|(with_reducible assumption)|assumption);have mh:za < (l0.length:Int):=of_decide_eq_true (by first|(with_reducible assumption)|assumption);obtain ⟨Rf,om,Td,Be,Ae,ze,ye,Mf,Lf⟩:=Yd Jh.out za nh mh;obtain rfl:Oc=Rf:=(by injection om);replace Td:=Da HB.out Td;replace Be:=Da HB.out Be;replace Ae:=Da HB.out Ae;replace ze:=Da HB.out ze;replace ye:=Da HB.out ye;replace Mf:=Da HB.out Mf;replace Lf:=Da HB.out Lf;replace nh:=eq_true nh;replace mh:=eq_true mh;have Mh:0 ≤ (za:Int):=of_decide_eq_true (by first|(with_reducible assumption)|assumption);have Lh:za < (l0.length:Int):=of_decide_eq_true (by first|(with_reducible assumption)|assumption);obtain ⟨Pk,Bn,Pe,Cf,Bf,Af,zf,Dh,Ch⟩:=Yd Jh.out za Mh Lh;obtain rfl:Oc=Pk:=(by injection Bn);replace Pe:=Da HB.out Pe;replace Cf:=Da HB.out Cf;replace Bf:=Da HB.out Bf;replace Af:=Da HB.out Af;replace zf:=Da HB.out zf;replace Dh:=Da HB.out Dh;replace Ch:=Da HB.out Ch;replace Mh:=eq_true Mh;replace Lh:=eq_true Lh;have Uk:0 ≤ (za:Int):=of_decide_eq_true (by first|(with_reducible assumption)|assumption);have Tk:za < (l0.length:Int):=of_decide_eq_true (by first|(with_reducible assumption)|assumption);obtain ⟨wj,vt,zg,Wg,Vg,Ug,Tg,Um,Sm⟩:=Yd Jh.out za Uk Tk;obtain rfl:Oc=wj:=(by injection vt);replace zg:=Da HB.out zg;replace Wg:=Da HB.out Wg;replace Vg:=Da HB.out Vg;replace Ug:=Da HB.out Ug;replace Tg:=Da HB.out Tg;replace Um:=Da HB.out Um;replace Sm:=Da HB.out Sm;replace Uk:=eq_true Uk;replace Tk:=eq_true Tk;have Nq:0 ≤ (za:Int):=of_decide_eq_true (by first|(with_reducible assumption)|assumption);have Mq:za < (l0.length:Int):=of_decide_eq_true (by first|(with_reducible assumption)|assumption);obtain ⟨Ny,mF,rj,Ek,Dk,Ck,Bk,Jp,Ip⟩:=Yd Jh.out za Nq Mq;obtain rfl:Oc=Ny:=(by injection mF);replace rj:=Da HB.out rj;replace Ek:=Da HB.out Ek;replace Dk:=Da HB.out Dk;replace Ck:=Da HB.out Ck;replace Bk:=Da HB.out Bk;replace Jp:=Da HB.out Jp;replace Ip:=Da HB.out Ip;replace Nq:=eq_true Nq;replace Mq:=eq_true Mq;go_wp2;go_ret;exact ⟨by first|rfl|(simp [Ka,Ja] <;> rfl)|(simp [*,Ka,Ja] <;> rfl),by repeat (first|(with_reducible first|exact HB.out|apply qa|apply ja|apply ta)|exact HB.out)⟩
         ·rw [if_neg c9] at H;have pF:(((oa l0 za).f4) == (wrap64 ((wrap64 ((wrap64 ((wrap64 (Qd + 1)) + 1)) + 1)) + 1)))=false:=beq_eq_false_iff_ne.mpr c9;have mJ:(((oa l0 za).f4) != (wrap64 ((wrap64 ((wrap64 ((wrap64 (Qd + 1)) + 1)) + 1)) + 1)))=true:=bne_iff_ne.mpr c9;obtain rfl:=Option.some.inj H;have Le:0 ≤ (za:Int):=of_decide_eq_true (by first|(with_reducible assumption)|assumption);have Ke:za < (l0.length:Int):=of_decide_eq_true (by first|(with_reducible assumption)|assumption);obtain ⟨Oc,Eh,Tc,qd,od,ld,jd,qf,lf⟩:=Yd Jh.out za Le Ke;cases Eh;replace Tc:=Da HB.out Tc;replace qd:=Da HB.out qd;replace od:=Da HB.out od;replace ld:=Da HB.out ld;replace jd:=Da HB.out jd;replace qf:=Da HB.out qf;replace lf:=Da HB.out lf;replace Le:=eq_true Le;replace Ke:=eq_true Ke;have mg:0 ≤ (za:Int):=of_decide_eq_true (by first|(with_reducible assumption)|assumption);have lg:za < (l0.length:Int):=of_decide_eq_true (by first|(with_reducible assumption)|assumption);obtain ⟨Qe,sk,Pd,me,ke,je,ie,Ye,Xe⟩:=Yd Jh.out za mg lg;obtain rfl:Oc=Qe:=(by injection sk);replace Pd:=Da HB.out Pd;replace me:=Da HB.out me;replace ke:=Da HB.out ke;replace je:=Da HB.out je;replace ie:=Da HB.out ie;replace Ye:=Da HB.out Ye;replace Xe:=Da HB.out Xe;replace mg:=eq_true mg;replace lg:=eq_true lg;have nh:0 ≤ (za:Int):=of_decide_eq_true (by first|(with_reducible assumption)|assumption);have mh:za < (l0.length:Int):=of_decide_eq_true (by first|(with_reducible assumption)|assumption);obtain ⟨Rf,om,Td,Be,Ae,ze,ye,Mf,Lf⟩:=Yd Jh.out za nh mh;obtain rfl:Oc=Rf:=(by injection om);replace Td:=Da HB.out Td;replace Be:=Da HB.out Be;replace Ae:=Da HB.out Ae;replace ze:=Da HB.out ze;replace ye:=Da HB.out ye;replace Mf:=Da HB.out Mf;replace Lf:=Da HB.out Lf;replace nh:=eq_true nh;replace mh:=eq_true mh;have Mh:0 ≤ (za:Int):=of_decide_eq_true (by first|(with_reducible assumption)|assumption);have Lh:za < (l0.length:Int):=of_decide_eq_true (by first|(with_reducible assumption)|assumption);obtain ⟨Pk,Bn,Pe,Cf,Bf,Af,zf,Dh,Ch⟩:=Yd Jh.out za Mh Lh;obtain rfl:Oc=Pk:=(by injection Bn);replace Pe:=Da HB.out Pe;replace Cf:=Da HB.out Cf;replace Bf:=Da HB.out Bf;replace Af:=Da HB.out Af;replace zf:=Da HB.out zf;replace Dh:=Da HB.out Dh;replace Ch:=Da HB.out Ch;replace Mh:=eq_true Mh;replace Lh:=eq_true Lh;have Uk:0 ≤ (za:Int):=of_decide_eq_true (by first|(with_reducible assumption)|assumption);have Tk:za < (l0.length:Int):=of_decide_eq_true (by first|(with_reducible assumption)|assumption);obtain ⟨wj,vt,zg,Wg,Vg,Ug,Tg,Um,Sm⟩:=Yd Jh.out za Uk Tk;obtain rfl:Oc=wj:=(by injection vt);replace zg:=Da HB.out zg;replace Wg:=Da HB.out Wg;replace Vg:=Da HB.out Vg;replace Ug:=Da HB.out Ug;replace Tg:=Da HB.out Tg;replace Um:=Da HB.out Um;replace Sm:=Da HB.out Sm;replace Uk:=eq_true Uk;replace Tk:=eq_true Tk;go_wp2;go_ret;exact ⟨by first|rfl|(simp [Ka,Ja] <;> rfl)|(simp [*,Ka,Ja] <;> rfl),by repeat (first|(with_reducible first|exact HB.out|apply qa|apply ja|apply ta)|exact HB.out)⟩
        ·rw [if_neg c8] at H;have Wv:(((oa l0 za).f3) == (wrap64 ((wrap64 ((wrap64 (Qd + 1)) + 1)) + 1)))=false:=beq_eq_false_iff_ne.mpr c8;have VC:(((oa l0 za).f3) != (wrap64 ((wrap64 ((wrap64 (Qd + 1)) + 1)) + 1)))=true:=bne_iff_ne.mpr c8;obtain rfl:=Option.some.inj H;have Le:0 ≤ (za:Int):=of_decide_eq_true (by first|(with_reducible assumption)|assumption);have Ke:za < (l0.length:Int):=of_decide_eq_true (by first|(with_reducible assumption)|assumption);obtain ⟨Oc,Eh,Tc,qd,od,ld,jd,qf,lf⟩:=Yd Jh.out za Le Ke;cases Eh;replace Tc:=Da HB.out Tc;replace qd:=Da HB.out qd;replace od:=Da HB.out od;replace ld:=Da HB.out ld;replace jd:=Da HB.out jd;replace qf:=Da HB.out qf;replace lf:=Da HB.out lf;replace Le:=eq_true Le;replace Ke:=eq_true Ke;have mg:0 ≤ (za:Int):=of_decide_eq_true (by first|(with_reducible assumption)|assumption);have lg:za < (l0.length:Int):=of_decide_eq_true (by first|(with_reducible assumption)|assumption);obtain ⟨Qe,sk,Pd,me,ke,je,ie,Ye,Xe⟩:=Yd Jh.out za mg lg;obtain rfl:Oc=Qe:=(by injection sk);replace Pd:=Da HB.out Pd;replace me:=Da HB.out me;replace ke:=Da HB.out ke;replace je:=Da HB.out je;replace ie:=Da HB.out ie;replace Ye:=Da HB.out Ye;replace Xe:=Da HB.out Xe;replace mg:=eq_true mg;replace lg:=eq_true lg;have nh:0 ≤ (za:Int):=of_decide_eq_true (by first|(with_reducible assumption)|assumption);have mh:za < (l0.length:Int):=of_decide_eq_true (by first|(with_reducible assumption)|assumption);obtain ⟨Rf,om,Td,Be,Ae,ze,ye,Mf,Lf⟩:=Yd Jh.out za nh mh;obtain rfl:Oc=Rf:=(by injection om);replace Td:=Da HB.out Td;replace Be:=Da HB.out Be;replace Ae:=Da HB.out Ae;replace ze:=Da HB.out ze;replace ye:=Da HB.out ye;replace Mf:=Da HB.out Mf;replace Lf:=Da HB.out Lf;replace nh:=eq_true nh;replace mh:=eq_true mh;have Mh:0 ≤ (za:Int):=of_decide_eq_true (by first|(with_reducible assumption)|assumption);have Lh:za < (l0.length:Int):=of_decide_eq_true (by first|(with_reducible assumption)|assumption);obtain ⟨Pk,Bn,Pe,Cf,Bf,Af,zf,Dh,Ch⟩:=Yd Jh.out za Mh Lh;obtain rfl:Oc=Pk:=(by injection Bn);replace Pe:=Da HB.out Pe;replace Cf:=Da HB.out Cf;replace Bf:=Da HB.out Bf;replace Af:=Da HB.out Af;replace zf:=Da HB.out zf;replace Dh:=Da HB.out Dh;replace Ch:=Da HB.out Ch;replace Mh:=eq_true Mh;replace Lh:=eq_true Lh;go_wp2;go_ret;exact ⟨by first|rfl|(simp [Ka,Ja] <;> rfl)|(simp [*,Ka,Ja] <;> rfl),by repeat (first|(with_reducible first|exact HB.out|apply qa|apply ja|apply ta)|exact HB.out)⟩
       ·rw [if_neg c7] at H;have Xo:(((oa l0 za).f2) == (wrap64 ((wrap64 (Qd + 1)) + 1)))=false:=beq_eq_false_iff_ne.mpr c7;have fC:(((oa l0 za).f2) != (wrap64 ((wrap64 (Qd + 1)) + 1)))=true:=bne_iff_ne.mpr c7;obtain rfl:=Option.some.inj H;have Le:0 ≤ (za:Int):=of_decide_eq_true (by first|(with_reducible assumption)|assumption);have Ke:za < (l0.length:Int):=of_decide_eq_true (by first|(with_reducible assumption)|assumption);obtain ⟨Oc,Eh,Tc,qd,od,ld,jd,qf,lf⟩:=Yd Jh.out za Le Ke;cases Eh;replace Tc:=Da HB.out Tc;replace qd:=Da HB.out qd;replace od:=Da HB.out od;replace ld:=Da HB.out ld;replace jd:=Da HB.out jd;replace qf:=Da HB.out qf;replace lf:=Da HB.out lf;replace Le:=eq_true Le;replace Ke:=eq_true Ke;have mg:0 ≤ (za:Int):=of_decide_eq_true (by first|(with_reducible assumption)|assumption);have lg:za < (l0.length:Int):=of_decide_eq_true (by first|(with_reducible assumption)|assumption);obtain ⟨Qe,sk,Pd,me,ke,je,ie,Ye,Xe⟩:=Yd Jh.out za mg lg;obtain rfl:Oc=Qe:=(by injection sk);replace Pd:=Da HB.out Pd;replace me:=Da HB.out me;replace ke:=Da HB.out ke;replace je:=Da HB.out je;replace ie:=Da HB.out ie;replace Ye:=Da HB.out Ye;replace Xe:=Da HB.out Xe;replace mg:=eq_true mg;replace lg:=eq_true lg;have nh:0 ≤ (za:Int):=of_decide_eq_true (by first|(with_reducible assumption)|assumption);have mh:za < (l0.length:Int):=of_decide_eq_true (by first|(with_reducible assumption)|assumption);obtain ⟨Rf,om,Td,Be,Ae,ze,ye,Mf,Lf⟩:=Yd Jh.out za nh mh;obtain rfl:Oc=Rf:=(by injection om);replace Td:=Da HB.out Td;replace Be:=Da HB.out Be;replace Ae:=Da HB.out Ae;replace ze:=Da HB.out ze;replace ye:=Da HB.out ye;replace Mf:=Da HB.out Mf;replace Lf:=Da HB.out Lf;replace nh:=eq_true nh;replace mh:=eq_true mh;go_wp2;go_ret;exact ⟨by first|rfl|(simp [Ka,Ja] <;> rfl)|(simp [*,Ka,Ja] <;> rfl),by repeat (first|(with_reducible first|exact HB.out|apply qa|apply ja|apply ta)|exact HB.out)⟩
      ·rw [if_neg c6] at H;have Cn:(((oa l0 za).f1) == (wrap64 (Qd + 1)))=false:=beq_eq_false_iff_ne.mpr c6;have qF:(((oa l0 za).f1) != (wrap64 (Qd + 1)))=true:=bne_iff_ne.mpr c6;obtain rfl:=Option.some.inj H;have Le:0 ≤ (za:Int):=of_decide_eq_true (by first|(with_reducible assumption)|assumption);have Ke:za < (l0.length:Int):=of_decide_eq_true (by first|(with_reducible assumption)|assumption);obtain ⟨Oc,Eh,Tc,qd,od,ld,jd,qf,lf⟩:=Yd Jh.out za Le Ke;cases Eh;replace Tc:=Da HB.out Tc;replace qd:=Da HB.out qd;replace od:=Da HB.out od;replace ld:=Da HB.out ld;replace jd:=Da HB.out jd;replace qf:=Da HB.out qf;replace lf:=Da HB.out lf;replace Le:=eq_true Le;replace Ke:=eq_true Ke;have mg:0 ≤ (za:Int):=of_decide_eq_true (by first|(with_reducible assumption)|assumption);have lg:za < (l0.length:Int):=of_decide_eq_true (by first|(with_reducible assumption)|assumption);obtain ⟨Qe,sk,Pd,me,ke,je,ie,Ye,Xe⟩:=Yd Jh.out za mg lg;obtain rfl:Oc=Qe:=(by injection sk);replace Pd:=Da HB.out Pd;replace me:=Da HB.out me;replace ke:=Da HB.out ke;replace je:=Da HB.out je;replace ie:=Da HB.out ie;replace Ye:=Da HB.out Ye;replace Xe:=Da HB.out Xe;replace mg:=eq_true mg;replace lg:=eq_true lg;go_wp2;go_ret;exact ⟨by first|rfl|(simp [Ka,Ja] <;> rfl)|(simp [*,Ka,Ja] <;> rfl),by repeat (first|(with_reducible first|exact HB.out|apply qa|apply ja|apply ta)|exact HB.out)⟩
     ·rw [if_neg c5] at H;have Yo:(((oa l0 za).f0) == Qd)=false:=beq_eq_false_iff_ne.mpr c5;have Cz:(((oa l0 za).f0) != Qd)=true:=bne_iff_ne.mpr c5;obtain rfl:=Option.some.inj H;have Le:0 ≤ (za:Int):=of_decide_eq_true (by first|(with_reducible assumption)|assumption);have Ke:za < (l0.length:Int):=of_decide_eq_true (by first|(with_reducible assumption)|assumption);obtain ⟨Oc,Eh,Tc,qd,od,ld,jd,qf,lf⟩:=Yd Jh.out za Le Ke;cases Eh;replace Tc:=Da HB.out Tc;replace qd:=Da HB.out qd;replace od:=Da HB.out od;replace ld:=Da HB.out ld;replace jd:=Da HB.out jd;replace qf:=Da HB.out qf;replace lf:=Da HB.out lf;replace Le:=eq_true Le;replace Ke:=eq_true Ke;go_wp2;go_ret;exact ⟨by first|rfl|(simp [Ka,Ja] <;> rfl)|(simp [*,Ka,Ja] <;> rfl),by repeat (first|(with_reducible first|exact HB.out|apply qa|apply ja|apply ta)|exact HB.out)⟩
    ·rw [if_neg c4] at H;exact absurd H (by simp)
   ·rw [if_neg c3] at H;have aj:decide (za < (l0.length:Int))=false:=decide_eq_false c3;clear c3;obtain rfl:=Option.some.inj H;go_wp2;go_ret;exact ⟨by first|rfl|(simp [Ka,Ja] <;> rfl)|(simp [*,Ka,Ja] <;> rfl),by repeat (first|(with_reducible first|exact HB.out|apply qa|apply ja|apply ta)|exact HB.out)⟩
def Re.l0:Nat→List Int→Int→Int→Option (Int)
 | 0,_,_,_=>none
 | k + 1,x0,x1,x5=>if x5 < (x0.length:Int) then (if 0 ≤ x5 then (if (rd x0 x5)=x1 then (Re.l0 k x0 (wrap64 (x1 + 1)) (wrap64 (x5 + 1))) else (some (-1))) else (none)) else (some x1)
def Re.f (k:Nat) (l0:List Int) (a1:Int):Option (Int):=Re.l0 k l0 a1 0
theorem Re.calls (k:Nat) (A0:Option Addr) (c0:Nat) (l0:List Int) (a1:Int) (r:Int) (w:World) (fk:Kd.C (Kd.int .i64) w A0 l0.length l0) (hc0:l0.length ≤ c0) (h:Re.f k l0 a1=some r) :
  Calls Try.prog 23 #[.slice A0 l0.length c0,.int .i64 a1] w fun e w'=>e = .returned (.int .i64 r)∧Wd w w':=by
 have Jh:=ia.mk fk;have uD:=ia.mk hc0;clear fk hc0;have H:(Re.l0 k l0 a1 0)=some r:=h;clear h;have H':=ia.mk H;clear H;go_enter Try.func23,Try.ntmps23;go_wp2
 go_loopg [1,5] k (fun kq v1 v5 w'=>∃ (Qd:Int) (za:Int),v1 = .int .i64 Qd∧v5 = .int .i64 za∧ia (Re.l0 kq l0 Qd za=some r)∧ia (kq ≤ k)∧Wd w w')
 case atStart=>exact ⟨(a1),(0),(by first|rfl|(simp;done)|(simp [*];done)),(by first|rfl|(simp;done)|(simp [*];done)),H',⟨Nat.le_refl _⟩,by repeat (first|exact Wd.refl _|apply Wd.step)⟩
 case round =>
  clear H'
  try clear c2
  try clear p2
  (try clear HA);(try clear jh);obtain ⟨Qd,za,rfl,rfl,HA,jh,⟨m1,rfl⟩⟩:=hrel;cases gk with
  | zero=>exact absurd HA.out (by simp [Re.l0])
  | succ k1 =>
   have H:=HA.out;clear HA;simp only [Re.l0] at H
   by_cases c3:za < (l0.length:Int)
   ·rw [if_pos c3] at H;have aj:decide (za < (l0.length:Int))=true:=decide_eq_true c3;clear c3
    by_cases c4:0 ≤ za
    ·rw [if_pos c4] at H;have Fl:decide (0 ≤ za)=true:=decide_eq_true c4;clear c4
     by_cases c5:(rd l0 za)=Qd
     ·rw [if_pos c5] at H;have Yo:((rd l0 za) == Qd)=true:=beq_iff_eq.mpr c5;have Cz:((rd l0 za) != Qd)=false:=bne_eq_false_iff_eq.mpr c5;clear c5;have H':=ia.mk H;clear H;have Le:0 ≤ (za:Int):=of_decide_eq_true (by first|(with_reducible assumption)|assumption);have Ke:za < (l0.length:Int):=of_decide_eq_true (by first|(with_reducible assumption)|assumption);obtain ⟨Oc,Eh,Tc⟩:=Kd.rq Jh.out za Le Ke;cases Eh;replace Le:=eq_true Le;replace Ke:=eq_true Ke;go_wp2
      go_roundg k1
      case measure=>have:=jh.out;omega
      case rel=>exact ⟨(wrap64 (Qd + 1)),(wrap64 (za + 1)),(by first|rfl|(simp;done)|(simp [*];done)),(by first|rfl|(simp;done)|(simp [*];done)),H',⟨by have:=jh.out;omega⟩,by repeat (first|exact Wd.refl _|apply Wd.step)⟩
     ·rw [if_neg c5] at H;have Yo:((rd l0 za) == Qd)=false:=beq_eq_false_iff_ne.mpr c5;have Cz:((rd l0 za) != Qd)=true:=bne_iff_ne.mpr c5;obtain rfl:=Option.some.inj H;have Le:0 ≤ (za:Int):=of_decide_eq_true (by first|(with_reducible assumption)|assumption);have Ke:za < (l0.length:Int):=of_decide_eq_true (by first|(with_reducible assumption)|assumption);obtain ⟨Oc,Eh,Tc⟩:=Kd.rq Jh.out za Le Ke;cases Eh;replace Le:=eq_true Le;replace Ke:=eq_true Ke;go_wp2;go_ret;exact ⟨by first|rfl|(simp;done)|(simp [*];done),by repeat (first|exact Wd.refl _|apply Wd.step)⟩
    ·rw [if_neg c4] at H;exact absurd H (by simp)
   ·rw [if_neg c3] at H;have aj:decide (za < (l0.length:Int))=false:=decide_eq_false c3;clear c3;obtain rfl:=Option.some.inj H;go_wp2;go_ret;exact ⟨by first|rfl|(simp;done)|(simp [*];done),by repeat (first|exact Wd.refl _|apply Wd.step)⟩
def xe.l0:Nat→List (Vf)→Int→Int→Option (Int)
 | 0,_,_,_=>none
 | k + 1,x0,x1,x5=>if x5 < (x0.length:Int) then (if 0 ≤ x5 then ((Lc.f k ((Ia x0 x5).f0) x1).bind fun t102=>(if t102 < 0 then (some (-1)) else (if ((Ia x0 x5).f1)=t102 then (if ((Ia x0 x5).f2)=(wrap64 (t102 + 1)) then (if ((Ia x0 x5).f3)=(wrap64 ((wrap64 (t102 + 1)) + 1)) then (if ((Ia x0 x5).f4)=(wrap64 ((wrap64 ((wrap64 (t102 + 1)) + 1)) + 1)) then (xe.l0 k x0 (wrap64 ((wrap64 ((wrap64 ((wrap64 (t102 + 1)) + 1)) + 1)) + 1)) (wrap64 (x5 + 1))) else (some (-1))) else (some (-1))) else (some (-1))) else (some (-1))))) else (none)) else (some x1)
def xe.f (k:Nat) (l0:List (Vf)) (a1:Int):Option (Int):=xe.l0 k l0 a1 0
theorem xe.calls (k:Nat) (A0:Option Addr) (c0:Nat) (l0:List (Vf)) (a1:Int) (r:Int) (w:World) (fk:Kd.C dm w A0 l0.length l0) (hc0:l0.length ≤ c0) (h:xe.f k l0 a1=some r) :
  Calls Try.prog 69 #[.slice A0 l0.length c0,.int .i64 a1] w fun e w'=>e = .returned (.int .i64 r)∧Below w.heap.size w w':=by
 have Jh:=ia.mk fk;have uD:=ia.mk hc0;clear fk hc0;have HB:=ia.mk (Below.refl w.heap.size w);have H:(xe.l0 k l0 a1 0)=some r:=h;clear h;have H':=ia.mk H;clear H;go_enter Try.func69,Try.ntmps69;go_wp2
 go_loopg [1,5] k (fun kq v1 v5 w'=>∃ (Qd:Int) (za:Int),v1 = .int .i64 Qd∧v5 = .int .i64 za∧ia (xe.l0 kq l0 Qd za=some r)∧ia (kq ≤ k)∧ia (Below w.heap.size w w'))
 case atStart=>exact ⟨(a1),(0),(by first|rfl|(simp;done)|(simp [*];done)),(by first|rfl|(simp;done)|(simp [*];done)),H',⟨Nat.le_refl _⟩,⟨by repeat (first|(with_reducible first|exact HB.out|apply qa|apply ja|apply ta)|exact HB.out)⟩⟩
 case round =>
  clear H'
  try clear p2
  (try clear HA);(try clear jh);(try clear HB);obtain ⟨Qd,za,rfl,rfl,HA,jh,HB⟩:=hrel;cases gk with
  | zero=>exact absurd HA.out (by simp [xe.l0])
  | succ k1 =>
   have H:=HA.out;clear HA;simp only [xe.l0] at H
   by_cases c3:za < (l0.length:Int)
   ·rw [if_pos c3] at H;have aj:decide (za < (l0.length:Int))=true:=decide_eq_true c3;clear c3
    by_cases c4:0 ≤ za
    ·rw [if_pos c4] at H;have Fl:decide (0 ≤ za)=true:=decide_eq_true c4;clear c4;replace H:=Option.bind_eq_some_iff.mp H;obtain ⟨t102,X0,H⟩:=H;replace H:(if t102 < 0 then (some (-1)) else (if ((Ia l0 za).f1)=t102 then (if ((Ia l0 za).f2)=(wrap64 (t102 + 1)) then (if ((Ia l0 za).f3)=(wrap64 ((wrap64 (t102 + 1)) + 1)) then (if ((Ia l0 za).f4)=(wrap64 ((wrap64 ((wrap64 (t102 + 1)) + 1)) + 1)) then (xe.l0 k1 l0 (wrap64 ((wrap64 ((wrap64 ((wrap64 (t102 + 1)) + 1)) + 1)) + 1)) (wrap64 (za + 1))) else (some (-1))) else (some (-1))) else (some (-1))) else (some (-1))))=some r:=H;have A5:=ia.mk X0;clear X0
     by_cases c6:t102 < 0
     ·rw [if_pos c6] at H;have Cn:decide (t102 < 0)=true:=decide_eq_true c6;clear c6;obtain rfl:=Option.some.inj H;have Le:0 ≤ (za:Int):=of_decide_eq_true (by first|(with_reducible assumption)|assumption);have Ke:za < (l0.length:Int):=of_decide_eq_true (by first|(with_reducible assumption)|assumption);obtain ⟨Oc,nj,mj,Eh,Tc,qd,od,ld,jd,Ag,Bg⟩:=Mg Jh.out za Le Ke;cases Eh;replace Tc:=Da HB.out Tc;replace qd:=Da HB.out qd;replace od:=Da HB.out od;replace ld:=Da HB.out ld;replace jd:=Da HB.out jd;have Vh:=ia.mk Bg;have zi:=ia.mk Ag;clear Bg Ag;replace Le:=eq_true Le;replace Ke:=eq_true Ke;go_wp2_with (first|((with_reducible refine Gb (f:=103) rfl ?_);refine Bd (some 18) rfl rfl Try.func103 (by kernel_rfl) rfl #[.slice nj ((Ia l0 za).f0).length mj,.int .i64 Qd] rfl (by (try simp only [List.map_toArray,List.map_cons,List.map_nil]);first|done|rfl|(simp only [List.length_drop,List.length_take];rfl)) ?_;(with_reducible refine (Lc.calls k1 _ _ ((Ia l0 za).f0) Qd t102 _ ?zd ?yd A5.out).mono ?_);(case zd=>repeat (first|exact (Kd.ec Vh.out HB.out)|(with_reducible refine Kd.Sc ?_ _)|(with_reducible refine Kd.Rc ?_ _)|(with_reducible refine Kd.Cd ?_)));(case yd=>exact zi.out);rintro e w7 ⟨rfl,hb⟩;refine ⟨_,rfl,?_⟩;have Ub:=ia.mk (Oa (by repeat (first|(with_reducible first|exact HB.out|apply qa|apply ja|apply ta)|exact HB.out)) hb);clear HB;have HB:=Ub;clear Ub;(try clear hb);(try clear jk);(try clear hk);(try clear hi)));go_ret;exact ⟨by first|rfl|(simp [Ka,Ja] <;> rfl)|(simp [*,Ka,Ja] <;> rfl),by repeat (first|(with_reducible first|exact HB.out|apply qa|apply ja|apply ta)|exact HB.out)⟩
     ·rw [if_neg c6] at H;have Cn:decide (t102 < 0)=false:=decide_eq_false c6;clear c6
      by_cases c8:((Ia l0 za).f1)=t102
      ·rw [if_pos c8] at H;have Wv:(((Ia l0 za).f1) == t102)=true:=beq_iff_eq.mpr c8;have VC:(((Ia l0 za).f1) != t102)=false:=bne_eq_false_iff_eq.mpr c8;clear c8
       by_cases c9:((Ia l0 za).f2)=(wrap64 (t102 + 1))
       ·rw [if_pos c9] at H;have pF:(((Ia l0 za).f2) == (wrap64 (t102 + 1)))=true:=beq_iff_eq.mpr c9;have mJ:(((Ia l0 za).f2) != (wrap64 (t102 + 1)))=false:=bne_eq_false_iff_eq.mpr c9;clear c9
        by_cases zH:((Ia l0 za).f3)=(wrap64 ((wrap64 (t102 + 1)) + 1))
        ·rw [if_pos zH] at H;have ER:(((Ia l0 za).f3) == (wrap64 ((wrap64 (t102 + 1)) + 1)))=true:=beq_iff_eq.mpr zH;have DR:(((Ia l0 za).f3) != (wrap64 ((wrap64 (t102 + 1)) + 1)))=false:=bne_eq_false_iff_eq.mpr zH;clear zH
         by_cases YC:((Ia l0 za).f4)=(wrap64 ((wrap64 ((wrap64 (t102 + 1)) + 1)) + 1))
         ·rw [if_pos YC] at H;have Nv:(((Ia l0 za).f4) == (wrap64 ((wrap64 ((wrap64 (t102 + 1)) + 1)) + 1)))=true:=beq_iff_eq.mpr YC;have sD:(((Ia l0 za).f4) != (wrap64 ((wrap64 ((wrap64 (t102 + 1)) + 1)) + 1)))=false:=bne_eq_false_iff_eq.mpr YC;clear YC;have H':=ia.mk H;clear H;have Le:0 ≤ (za:Int):=of_decide_eq_true (by first|(with_reducible assumption)|assumption);have Ke:za < (l0.length:Int):=of_decide_eq_true (by first|(with_reducible assumption)|assumption);obtain ⟨Oc,nj,mj,Eh,Tc,qd,od,ld,jd,Ag,Bg⟩:=Mg Jh.out za Le Ke;cases Eh;replace Tc:=Da HB.out Tc;replace qd:=Da HB.out qd;replace od:=Da HB.out od;replace ld:=Da HB.out ld;replace jd:=Da HB.out jd;have Vh:=ia.mk Bg;have zi:=ia.mk Ag;clear Bg Ag;replace Le:=eq_true Le;replace Ke:=eq_true Ke;go_wp2_with (first|((with_reducible refine Gb (f:=103) rfl ?_);refine Bd (some 18) rfl rfl Try.func103 (by kernel_rfl) rfl #[.slice nj ((Ia l0 za).f0).length mj,.int .i64 Qd] rfl (by (try simp only [List.map_toArray,List.map_cons,List.map_nil]);first|done|rfl|(simp only [List.length_drop,List.length_take];rfl)) ?_;(with_reducible refine (Lc.calls k1 _ _ ((Ia l0 za).f0) Qd t102 _ ?zd ?yd A5.out).mono ?_);(case zd=>repeat (first|exact (Kd.ec Vh.out HB.out)|(with_reducible refine Kd.Sc ?_ _)|(with_reducible refine Kd.Rc ?_ _)|(with_reducible refine Kd.Cd ?_)));(case yd=>exact zi.out);rintro e kG ⟨rfl,hb⟩;refine ⟨_,rfl,?_⟩;have Ub:=ia.mk (Oa (by repeat (first|(with_reducible first|exact HB.out|apply qa|apply ja|apply ta)|exact HB.out)) hb);clear HB;have HB:=Ub;clear Ub;(try clear hb);(try clear jk);(try clear hk);(try clear hi);have nh:0 ≤ (za:Int):=of_decide_eq_true (by first|(with_reducible assumption)|assumption);have mh:za < (l0.length:Int):=of_decide_eq_true (by first|(with_reducible assumption)|assumption);obtain ⟨Rf,UF,uF,om,Td,Be,Ae,ze,ye,Ik,Lk⟩:=Mg Jh.out za nh mh;obtain rfl:Oc=Rf:=(by injection om);replace Td:=Da HB.out Td;replace Be:=Da HB.out Be;replace Ae:=Da HB.out Ae;replace ze:=Da HB.out ze;replace ye:=Da HB.out ye;have gB:=ia.mk Lk;have kB:=ia.mk Ik;clear Lk Ik;replace nh:=eq_true nh;replace mh:=eq_true mh;have Mh:0 ≤ (za:Int):=of_decide_eq_true (by first|(with_reducible assumption)|assumption);have Lh:za < (l0.length:Int):=of_decide_eq_true (by first|(with_reducible assumption)|assumption);obtain ⟨Pk,FC,jC,Bn,Pe,Cf,Bf,Af,zf,Gk,Kk⟩:=Mg Jh.out za Mh Lh;obtain rfl:Oc=Pk:=(by injection Bn);replace Pe:=Da HB.out Pe;replace Cf:=Da HB.out Cf;replace Bf:=Da HB.out Bf;replace Af:=Da HB.out Af;replace zf:=Da HB.out zf;have Ty:=ia.mk Kk;have Wy:=ia.mk Gk;clear Kk Gk;replace Mh:=eq_true Mh;replace Lh:=eq_true Lh;have Nl:=Option.some.inj (Td.symm.trans Pe);injection Nl with Nl Jy Ky;subst Nl;subst Ky;clear Jy;have Uk:0 ≤ (za:Int):=of_decide_eq_true (by first|(with_reducible assumption)|assumption);have Tk:za < (l0.length:Int):=of_decide_eq_true (by first|(with_reducible assumption)|assumption);obtain ⟨wj,Ll,Il,vt,zg,Wg,Vg,Ug,Tg,Fk,Jk⟩:=Mg Jh.out za Uk Tk;obtain rfl:Oc=wj:=(by injection vt);replace zg:=Da HB.out zg;replace Wg:=Da HB.out Wg;replace Vg:=Da HB.out Vg;replace Ug:=Da HB.out Ug;replace Tg:=Da HB.out Tg;have nv:=ia.mk Jk;have ov:=ia.mk Fk;clear Jk Fk;replace Uk:=eq_true Uk;replace Tk:=eq_true Tk;have Nl:=Option.some.inj (Td.symm.trans zg);injection Nl with Nl Jy Ky;subst Nl;subst Ky;clear Jy;have Nq:0 ≤ (za:Int):=of_decide_eq_true (by first|(with_reducible assumption)|assumption);have Mq:za < (l0.length:Int):=of_decide_eq_true (by first|(with_reducible assumption)|assumption);obtain ⟨Ny,n7,S5,mF,rj,Ek,Dk,Ck,Bk,zx,Bx⟩:=Mg Jh.out za Nq Mq;obtain rfl:Oc=Ny:=(by injection mF);replace rj:=Da HB.out rj;replace Ek:=Da HB.out Ek;replace Dk:=Da HB.out Dk;replace Ck:=Da HB.out Ck;replace Bk:=Da HB.out Bk;have eY:=ia.mk Bx;have kY:=ia.mk zx;clear Bx zx;replace Nq:=eq_true Nq;replace Mq:=eq_true Mq;have Nl:=Option.some.inj (Td.symm.trans rj);injection Nl with Nl Jy Ky;subst Nl;subst Ky;clear Jy))
          go_roundg k1
          case measure=>have:=jh.out;omega
          case rel=>exact ⟨(wrap64 ((wrap64 ((wrap64 ((wrap64 (t102 + 1)) + 1)) + 1)) + 1)),(wrap64 (za + 1)),(by first|rfl|(simp;done)|(simp [*];done)),(by first|rfl|(simp;done)|(simp [*];done)),H',⟨by have:=jh.out;omega⟩,⟨by repeat (first|(with_reducible first|exact HB.out|apply qa|apply ja|apply ta)|exact HB.out)⟩⟩
         ·rw [if_neg YC] at H;have Nv:(((Ia l0 za).f4) == (wrap64 ((wrap64 ((wrap64 (t102 + 1)) + 1)) + 1)))=false:=beq_eq_false_iff_ne.mpr YC;have sD:(((Ia l0 za).f4) != (wrap64 ((wrap64 ((wrap64 (t102 + 1)) + 1)) + 1)))=true:=bne_iff_ne.mpr YC;obtain rfl:=Option.some.inj H;have Le:0 ≤ (za:Int):=of_decide_eq_true (by first|(with_reducible assumption)|assumption);have Ke:za < (l0.length:Int):=of_decide_eq_true (by first|(with_reducible assumption)|assumption);obtain ⟨Oc,nj,mj,Eh,Tc,qd,od,ld,jd,Ag,Bg⟩:=Mg Jh.out za Le Ke;cases Eh;replace Tc:=Da HB.out Tc;replace qd:=Da HB.out qd;replace od:=Da HB.out od;replace ld:=Da HB.out ld;replace jd:=Da HB.out jd;have Vh:=ia.mk Bg;have zi:=ia.mk Ag;clear Bg Ag;replace Le:=eq_true Le;replace Ke:=eq_true Ke;go_wp2_with (first|((with_reducible refine Gb (f:=103) rfl ?_);refine Bd (some 18) rfl rfl Try.func103 (by kernel_rfl) rfl #[.slice nj ((Ia l0 za).f0).length mj,.int .i64 Qd] rfl (by (try simp only [List.map_toArray,List.map_cons,List.map_nil]);first|done|rfl|(simp only [List.length_drop,List.length_take];rfl)) ?_;(with_reducible refine (Lc.calls k1 _ _ ((Ia l0 za).f0) Qd t102 _ ?zd ?yd A5.out).mono ?_);(case zd=>repeat (first|exact (Kd.ec Vh.out HB.out)|(with_reducible refine Kd.Sc ?_ _)|(with_reducible refine Kd.Rc ?_ _)|(with_reducible refine Kd.Cd ?_)));(case yd=>exact zi.out);rintro e jG ⟨rfl,hb⟩;refine ⟨_,rfl,?_⟩;have Ub:=ia.mk (Oa (by repeat (first|(with_reducible first|exact HB.out|apply qa|apply ja|apply ta)|exact HB.out)) hb);clear HB;have HB:=Ub;clear Ub;(try clear hb);(try clear jk);(try clear hk);(try clear hi);have nh:0 ≤ (za:Int):=of_decide_eq_true (by first|(with_reducible assumption)|assumption);have mh:za < (l0.length:Int):=of_decide_eq_true (by first|(with_reducible assumption)|assumption);obtain ⟨Rf,UF,uF,om,Td,Be,Ae,ze,ye,Ik,Lk⟩:=Mg Jh.out za nh mh;obtain rfl:Oc=Rf:=(by injection om);replace Td:=Da HB.out Td;replace Be:=Da HB.out Be;replace Ae:=Da HB.out Ae;replace ze:=Da HB.out ze;replace ye:=Da HB.out ye;have gB:=ia.mk Lk;have kB:=ia.mk Ik;clear Lk Ik;replace nh:=eq_true nh;replace mh:=eq_true mh;have Mh:0 ≤ (za:Int):=of_decide_eq_true (by first|(with_reducible assumption)|assumption);have Lh:za < (l0.length:Int):=of_decide_eq_true (by first|(with_reducible assumption)|assumption);obtain ⟨Pk,FC,jC,Bn,Pe,Cf,Bf,Af,zf,Gk,Kk⟩:=Mg Jh.out za Mh Lh;obtain rfl:Oc=Pk:=(by injection Bn);replace Pe:=Da HB.out Pe;replace Cf:=Da HB.out Cf;replace Bf:=Da HB.out Bf;replace Af:=Da HB.out Af;replace zf:=Da HB.out zf;have Ty:=ia.mk Kk;have Wy:=ia.mk Gk;clear Kk Gk;replace Mh:=eq_true Mh;replace Lh:=eq_true Lh;have Nl:=Option.some.inj (Td.symm.trans Pe);injection Nl with Nl Jy Ky;subst Nl;subst Ky;clear Jy;have Uk:0 ≤ (za:Int):=of_decide_eq_true (by first|(with_reducible assumption)|assumption);have Tk:za < (l0.length:Int):=of_decide_eq_true (by first|(with_reducible assumption)|assumption);obtain ⟨wj,Ll,Il,vt,zg,Wg,Vg,Ug,Tg,Fk,Jk⟩:=Mg Jh.out za Uk Tk;obtain rfl:Oc=wj:=(by injection vt);replace zg:=Da HB.out zg;replace Wg:=Da HB.out Wg;replace Vg:=Da HB.out Vg;replace Ug:=Da HB.out Ug;replace Tg:=Da HB.out Tg;have nv:=ia.mk Jk;have ov:=ia.mk Fk;clear Jk Fk;replace Uk:=eq_true Uk;replace Tk:=eq_true Tk;have Nl:=Option.some.inj (Td.symm.trans zg);injection Nl with Nl Jy Ky;subst Nl;subst Ky;clear Jy;have Nq:0 ≤ (za:Int):=of_decide_eq_true (by first|(with_reducible assumption)|assumption);have Mq:za < (l0.length:Int):=of_decide_eq_true (by first|(with_reducible assumption)|assumption);obtain ⟨Ny,n7,S5,mF,rj,Ek,Dk,Ck,Bk,zx,Bx⟩:=Mg Jh.out za Nq Mq;obtain rfl:Oc=Ny:=(by injection mF);replace rj:=Da HB.out rj;replace Ek:=Da HB.out Ek;replace Dk:=Da HB.out Dk;replace Ck:=Da HB.out Ck;replace Bk:=Da HB.out Bk;have eY:=ia.mk Bx;have kY:=ia.mk zx;clear Bx zx;replace Nq:=eq_true Nq;replace Mq:=eq_true Mq;have Nl:=Option.some.inj (Td.symm.trans rj);injection Nl with Nl Jy Ky;subst Nl;subst Ky;clear Jy));go_ret;exact ⟨by first|rfl|(simp [Ka,Ja] <;> rfl)|(simp [*,Ka,Ja] <;> rfl),by repeat (first|(with_reducible first|exact HB.out|apply qa|apply ja|apply ta)|exact HB.out)⟩
        ·rw [if_neg zH] at H;have ER:(((Ia l0 za).f3) == (wrap64 ((wrap64 (t102 + 1)) + 1)))=false:=beq_eq_false_iff_ne.mpr zH;have DR:(((Ia l0 za).f3) != (wrap64 ((wrap64 (t102 + 1)) + 1)))=true:=bne_iff_ne.mpr zH;obtain rfl:=Option.some.inj H;have Le:0 ≤ (za:Int):=of_decide_eq_true (by first|(with_reducible assumption)|assumption);have Ke:za < (l0.length:Int):=of_decide_eq_true (by first|(with_reducible assumption)|assumption);obtain ⟨Oc,nj,mj,Eh,Tc,qd,od,ld,jd,Ag,Bg⟩:=Mg Jh.out za Le Ke;cases Eh;replace Tc:=Da HB.out Tc;replace qd:=Da HB.out qd;replace od:=Da HB.out od;replace ld:=Da HB.out ld;replace jd:=Da HB.out jd;have Vh:=ia.mk Bg;have zi:=ia.mk Ag;clear Bg Ag;replace Le:=eq_true Le;replace Ke:=eq_true Ke;go_wp2_with (first|((with_reducible refine Gb (f:=103) rfl ?_);refine Bd (some 18) rfl rfl Try.func103 (by kernel_rfl) rfl #[.slice nj ((Ia l0 za).f0).length mj,.int .i64 Qd] rfl (by (try simp only [List.map_toArray,List.map_cons,List.map_nil]);first|done|rfl|(simp only [List.length_drop,List.length_take];rfl)) ?_;(with_reducible refine (Lc.calls k1 _ _ ((Ia l0 za).f0) Qd t102 _ ?zd ?yd A5.out).mono ?_);(case zd=>repeat (first|exact (Kd.ec Vh.out HB.out)|(with_reducible refine Kd.Sc ?_ _)|(with_reducible refine Kd.Rc ?_ _)|(with_reducible refine Kd.Cd ?_)));(case yd=>exact zi.out);rintro e tv ⟨rfl,hb⟩;refine ⟨_,rfl,?_⟩;have Ub:=ia.mk (Oa (by repeat (first|(with_reducible first|exact HB.out|apply qa|apply ja|apply ta)|exact HB.out)) hb);clear HB;have HB:=Ub;clear Ub;(try clear hb);(try clear jk);(try clear hk);(try clear hi);have nh:0 ≤ (za:Int):=of_decide_eq_true (by first|(with_reducible assumption)|assumption);have mh:za < (l0.length:Int):=of_decide_eq_true (by first|(with_reducible assumption)|assumption);obtain ⟨Rf,UF,uF,om,Td,Be,Ae,ze,ye,Ik,Lk⟩:=Mg Jh.out za nh mh;obtain rfl:Oc=Rf:=(by injection om);replace Td:=Da HB.out Td;replace Be:=Da HB.out Be;replace Ae:=Da HB.out Ae;replace ze:=Da HB.out ze;replace ye:=Da HB.out ye;have gB:=ia.mk Lk;have kB:=ia.mk Ik;clear Lk Ik;replace nh:=eq_true nh;replace mh:=eq_true mh;have Mh:0 ≤ (za:Int):=of_decide_eq_true (by first|(with_reducible assumption)|assumption);have Lh:za < (l0.length:Int):=of_decide_eq_true (by first|(with_reducible assumption)|assumption);obtain ⟨Pk,FC,jC,Bn,Pe,Cf,Bf,Af,zf,Gk,Kk⟩:=Mg Jh.out za Mh Lh;obtain rfl:Oc=Pk:=(by injection Bn);replace Pe:=Da HB.out Pe;replace Cf:=Da HB.out Cf;replace Bf:=Da HB.out Bf;replace Af:=Da HB.out Af;replace zf:=Da HB.out zf;have Ty:=ia.mk Kk;have Wy:=ia.mk Gk;clear Kk Gk;replace Mh:=eq_true Mh;replace Lh:=eq_true Lh;have Nl:=Option.some.inj (Td.symm.trans Pe);injection Nl with Nl Jy Ky;subst Nl;subst Ky;clear Jy;have Uk:0 ≤ (za:Int):=of_decide_eq_true (by first|(with_reducible assumption)|assumption);have Tk:za < (l0.length:Int):=of_decide_eq_true (by first|(with_reducible assumption)|assumption);obtain ⟨wj,Ll,Il,vt,zg,Wg,Vg,Ug,Tg,Fk,Jk⟩:=Mg Jh.out za Uk Tk;obtain rfl:Oc=wj:=(by injection vt);replace zg:=Da HB.out zg;replace Wg:=Da HB.out Wg;replace Vg:=Da HB.out Vg;replace Ug:=Da HB.out Ug;replace Tg:=Da HB.out Tg;have nv:=ia.mk Jk;have ov:=ia.mk Fk;clear Jk Fk;replace Uk:=eq_true Uk;replace Tk:=eq_true Tk;have Nl:=Option.some.inj (Td.symm.trans zg);injection Nl with Nl Jy Ky;subst Nl;subst Ky;clear Jy));go_ret;exact ⟨by first|rfl|(simp [Ka,Ja] <;> rfl)|(simp [*,Ka,Ja] <;> rfl),by repeat (first|(with_reducible first|exact HB.out|apply qa|apply ja|apply ta)|exact HB.out)⟩
       ·rw [if_neg c9] at H;have pF:(((Ia l0 za).f2) == (wrap64 (t102 + 1)))=false:=beq_eq_false_iff_ne.mpr c9;have mJ:(((Ia l0 za).f2) != (wrap64 (t102 + 1)))=true:=bne_iff_ne.mpr c9;obtain rfl:=Option.some.inj H;have Le:0 ≤ (za:Int):=of_decide_eq_true (by first|(with_reducible assumption)|assumption);have Ke:za < (l0.length:Int):=of_decide_eq_true (by first|(with_reducible assumption)|assumption);obtain ⟨Oc,nj,mj,Eh,Tc,qd,od,ld,jd,Ag,Bg⟩:=Mg Jh.out za Le Ke;cases Eh;replace Tc:=Da HB.out Tc;replace qd:=Da HB.out qd;replace od:=Da HB.out od;replace ld:=Da HB.out ld;replace jd:=Da HB.out jd;have Vh:=ia.mk Bg;have zi:=ia.mk Ag;clear Bg Ag;replace Le:=eq_true Le;replace Ke:=eq_true Ke;go_wp2_with (first|((with_reducible refine Gb (f:=103) rfl ?_);refine Bd (some 18) rfl rfl Try.func103 (by kernel_rfl) rfl #[.slice nj ((Ia l0 za).f0).length mj,.int .i64 Qd] rfl (by (try simp only [List.map_toArray,List.map_cons,List.map_nil]);first|done|rfl|(simp only [List.length_drop,List.length_take];rfl)) ?_;(with_reducible refine (Lc.calls k1 _ _ ((Ia l0 za).f0) Qd t102 _ ?zd ?yd A5.out).mono ?_);(case zd=>repeat (first|exact (Kd.ec Vh.out HB.out)|(with_reducible refine Kd.Sc ?_ _)|(with_reducible refine Kd.Rc ?_ _)|(with_reducible refine Kd.Cd ?_)));(case yd=>exact zi.out);rintro e Kq ⟨rfl,hb⟩;refine ⟨_,rfl,?_⟩;have Ub:=ia.mk (Oa (by repeat (first|(with_reducible first|exact HB.out|apply qa|apply ja|apply ta)|exact HB.out)) hb);clear HB;have HB:=Ub;clear Ub;(try clear hb);(try clear jk);(try clear hk);(try clear hi);have nh:0 ≤ (za:Int):=of_decide_eq_true (by first|(with_reducible assumption)|assumption);have mh:za < (l0.length:Int):=of_decide_eq_true (by first|(with_reducible assumption)|assumption);obtain ⟨Rf,UF,uF,om,Td,Be,Ae,ze,ye,Ik,Lk⟩:=Mg Jh.out za nh mh;obtain rfl:Oc=Rf:=(by injection om);replace Td:=Da HB.out Td;replace Be:=Da HB.out Be;replace Ae:=Da HB.out Ae;replace ze:=Da HB.out ze;replace ye:=Da HB.out ye;have gB:=ia.mk Lk;have kB:=ia.mk Ik;clear Lk Ik;replace nh:=eq_true nh;replace mh:=eq_true mh;have Mh:0 ≤ (za:Int):=of_decide_eq_true (by first|(with_reducible assumption)|assumption);have Lh:za < (l0.length:Int):=of_decide_eq_true (by first|(with_reducible assumption)|assumption);obtain ⟨Pk,FC,jC,Bn,Pe,Cf,Bf,Af,zf,Gk,Kk⟩:=Mg Jh.out za Mh Lh;obtain rfl:Oc=Pk:=(by injection Bn);replace Pe:=Da HB.out Pe;replace Cf:=Da HB.out Cf;replace Bf:=Da HB.out Bf;replace Af:=Da HB.out Af;replace zf:=Da HB.out zf;have Ty:=ia.mk Kk;have Wy:=ia.mk Gk;clear Kk Gk;replace Mh:=eq_true Mh;replace Lh:=eq_true Lh;have Nl:=Option.some.inj (Td.symm.trans Pe);injection Nl with Nl Jy Ky;subst Nl;subst Ky;clear Jy));go_ret;exact ⟨by first|rfl|(simp [Ka,Ja] <;> rfl)|(simp [*,Ka,Ja] <;> rfl),by repeat (first|(with_reducible first|exact HB.out|apply qa|apply ja|apply ta)|exact HB.out)⟩
      ·rw [if_neg c8] at H;have Wv:(((Ia l0 za).f1) == t102)=false:=beq_eq_false_iff_ne.mpr c8;have VC:(((Ia l0 za).f1) != t102)=true:=bne_iff_ne.mpr c8;obtain rfl:=Option.some.inj H;have Le:0 ≤ (za:Int):=of_decide_eq_true (by first|(with_reducible assumption)|assumption);have Ke:za < (l0.length:Int):=of_decide_eq_true (by first|(with_reducible assumption)|assumption);obtain ⟨Oc,nj,mj,Eh,Tc,qd,od,ld,jd,Ag,Bg⟩:=Mg Jh.out za Le Ke;cases Eh;replace Tc:=Da HB.out Tc;replace qd:=Da HB.out qd;replace od:=Da HB.out od;replace ld:=Da HB.out ld;replace jd:=Da HB.out jd;have Vh:=ia.mk Bg;have zi:=ia.mk Ag;clear Bg Ag;replace Le:=eq_true Le;replace Ke:=eq_true Ke;go_wp2_with (first|((with_reducible refine Gb (f:=103) rfl ?_);refine Bd (some 18) rfl rfl Try.func103 (by kernel_rfl) rfl #[.slice nj ((Ia l0 za).f0).length mj,.int .i64 Qd] rfl (by (try simp only [List.map_toArray,List.map_cons,List.map_nil]);first|done|rfl|(simp only [List.length_drop,List.length_take];rfl)) ?_;(with_reducible refine (Lc.calls k1 _ _ ((Ia l0 za).f0) Qd t102 _ ?zd ?yd A5.out).mono ?_);(case zd=>repeat (first|exact (Kd.ec Vh.out HB.out)|(with_reducible refine Kd.Sc ?_ _)|(with_reducible refine Kd.Rc ?_ _)|(with_reducible refine Kd.Cd ?_)));(case yd=>exact zi.out);rintro e NC ⟨rfl,hb⟩;refine ⟨_,rfl,?_⟩;have Ub:=ia.mk (Oa (by repeat (first|(with_reducible first|exact HB.out|apply qa|apply ja|apply ta)|exact HB.out)) hb);clear HB;have HB:=Ub;clear Ub;(try clear hb);(try clear jk);(try clear hk);(try clear hi);have nh:0 ≤ (za:Int):=of_decide_eq_true (by first|(with_reducible assumption)|assumption);have mh:za < (l0.length:Int):=of_decide_eq_true (by first|(with_reducible assumption)|assumption);obtain ⟨Rf,UF,uF,om,Td,Be,Ae,ze,ye,Ik,Lk⟩:=Mg Jh.out za nh mh;obtain rfl:Oc=Rf:=(by injection om);replace Td:=Da HB.out Td;replace Be:=Da HB.out Be;replace Ae:=Da HB.out Ae;replace ze:=Da HB.out ze;replace ye:=Da HB.out ye;have gB:=ia.mk Lk;have kB:=ia.mk Ik;clear Lk Ik;replace nh:=eq_true nh;replace mh:=eq_true mh));go_ret;exact ⟨by first|rfl|(simp [Ka,Ja] <;> rfl)|(simp [*,Ka,Ja] <;> rfl),by repeat (first|(with_reducible first|exact HB.out|apply qa|apply ja|apply ta)|exact HB.out)⟩
    ·rw [if_neg c4] at H;exact absurd H (by simp)
   ·rw [if_neg c3] at H;have aj:decide (za < (l0.length:Int))=false:=decide_eq_false c3;clear c3;obtain rfl:=Option.some.inj H;go_wp2;go_ret;exact ⟨by first|rfl|(simp [Ka,Ja] <;> rfl)|(simp [*,Ka,Ja] <;> rfl),by repeat (first|(with_reducible first|exact HB.out|apply qa|apply ja|apply ta)|exact HB.out)⟩
def Hi.f (k:Nat) (Ta:List Int) (Ra:Int) (Qa:Int) (Pa:Int) (La:List (Vf)) (a1:Int):Option (Int):=(Re.f k Ta a1).bind fun t102=>(if t102 < 0 then (some (-1)) else ((xe.f k La t102).bind fun t103=>(if t103 < 0 then (some (-1)) else (some t103))))
theorem Hi.calls (k:Nat) (Jb:Option Addr) (Ib:Nat) (Ta:List Int) (Ra:Int) (Qa:Int) (Pa:Int) (nc:Option Addr) (dc:Nat) (La:List (Vf)) (a1:Int) (r:Int) (w:World) (pg:Kd.C (Kd.int .i64) w Jb Ta.length Ta) (kg:Ta.length ≤ Ib) (wh:Kd.C dm w nc La.length La) (qh:La.length ≤ dc) (h:Hi.f k Ta Ra Qa Pa La a1=some r) :
  Calls Try.prog 29 #[.agg #[.slice Jb Ta.length Ib,.int .i64 Ra,.int .i64 Qa,.int .i64 Pa,.slice nc La.length dc],.int .i64 a1] w fun e w'=>e = .returned (.int .i64 r)∧Below w.heap.size w w':=by
 have UD:=Try.underlying30;have qg:=ia.mk pg;have Jg:=ia.mk kg;clear pg kg;have Qh:=ia.mk wh;have Bj:=ia.mk qh;clear wh qh;have HB:=ia.mk (Below.refl w.heap.size w);have H:((Re.f k Ta a1).bind fun t102=>(if t102 < 0 then (some (-1)) else ((xe.f k La t102).bind fun t103=>(if t103 < 0 then (some (-1)) else (some t103)))))=some r:=h;clear h;replace H:=Option.bind_eq_some_iff.mp H;obtain ⟨t102,EC,H⟩:=H;replace H:(if t102 < 0 then (some (-1)) else ((xe.f k La t102).bind fun t103=>(if t103 < 0 then (some (-1)) else (some t103))))=some r:=H;have A3:=ia.mk EC;clear EC
 by_cases c4:t102 < 0
 ·rw [if_pos c4] at H;have Fl:decide (t102 < 0)=true:=decide_eq_true c4;clear c4;obtain rfl:=Option.some.inj H;go_enter Try.func29,Try.ntmps29;go_wp2_with (first|((with_reducible refine Tb (N:=2) rfl ?_);refine Sb ?hg (N:=2) ?hd (cs:=#[.slice Jb Ta.length Ib,.int .i64 Ra,.int .i64 Qa,.int .i64 Pa,.slice nc La.length dc]) (t:=30) ?hr ?_;(case hd=>rfl);(case hg=>rfl);(case hr=>first|(go_simp;done)|(go_simp;rfl));intro Fa hg w5 ic hb;have Ub:=ia.mk (Oa (by repeat (first|(with_reducible first|exact HB.out|apply qa|apply ja|apply ta)|exact HB.out)) hb);have fc:=ia.mk (ic);have Fc:=ia.mk ((by rw [hg];exact (Ma (by repeat (first|(with_reducible first|exact HB.out|apply qa|apply ja|apply ta)|exact HB.out))):w.heap.size ≤ Fa));have Xc:=ia.mk ((by rw [hg];exact (Ma (by repeat (first|(with_reducible first|exact HB.out|apply qa|apply ja|apply ta)|exact HB.out))):w.heap.size ≤ Fa));clear HB;have HB:=Ub;have ya:=fc;have Kg:=Fc;have Wa:=Xc;clear Ub fc Fc Xc hb ic hg;have Dr:w5.cell? ⟨Fa,0,none⟩=some (.slice Jb Ta.length Ib):=(ga ya.out 0).trans rfl;have Cr:w5.cell? ⟨Fa,1,none⟩=some (.int .i64 Ra):=(ga ya.out 1).trans rfl;have Br:w5.cell? ⟨Fa,2,none⟩=some (.int .i64 Qa):=(ga ya.out 2).trans rfl;have Ar:w5.cell? ⟨Fa,3,none⟩=some (.int .i64 Pa):=(ga ya.out 3).trans rfl;have vr:w5.cell? ⟨Fa,4,none⟩=some (.slice nc La.length dc):=(ga ya.out 4).trans rfl;have Wq:=aa ya.out 0;have Vq:=aa ya.out 1;have Uq:=aa ya.out 2;have Sq:=aa ya.out 3;have Rq:=aa ya.out 4)|((with_reducible refine Gb (f:=23) rfl ?_);refine Bd (some 8) rfl rfl Try.func23 (by kernel_rfl) rfl #[.slice Jb Ta.length Ib,.int .i64 a1] rfl (by (try simp only [List.map_toArray,List.map_cons,List.map_nil]);first|done|rfl|(simp only [List.length_drop,List.length_take];rfl)) ?_;(with_reducible refine (Re.calls k _ _ Ta a1 t102 _ ?zd ?yd A3.out).mono ?_);(case zd=>repeat (first|exact (Kd.ec qg.out HB.out)|(with_reducible refine Kd.Sc ?_ _)|(with_reducible refine Kd.Rc ?_ _)|(with_reducible refine Kd.Cd ?_)));(case yd=>exact Jg.out);rintro e w' ⟨rfl,⟨nd,rfl⟩⟩;refine ⟨_,rfl,?_⟩));go_ret;exact ⟨by first|rfl|(simp [Ka,Ja] <;> rfl)|(simp [*,Ka,Ja] <;> rfl),by repeat (first|(with_reducible first|exact HB.out|apply qa|apply ja|apply ta|refine ua ?_ Wa.out)|exact HB.out)⟩
 ·rw [if_neg c4] at H;have Fl:decide (t102 < 0)=false:=decide_eq_false c4;clear c4;replace H:=Option.bind_eq_some_iff.mp H;obtain ⟨t103,gI,H⟩:=H;replace H:(if t103 < 0 then (some (-1)) else (some t103))=some r:=H;have A7:=ia.mk gI;clear gI
  by_cases c8:t103 < 0
  ·rw [if_pos c8] at H;have Wv:decide (t103 < 0)=true:=decide_eq_true c8;clear c8;obtain rfl:=Option.some.inj H;go_enter Try.func29,Try.ntmps29;go_wp2_with (first|((with_reducible refine Tb (N:=2) rfl ?_);refine Sb ?hg (N:=2) ?hd (cs:=#[.slice Jb Ta.length Ib,.int .i64 Ra,.int .i64 Qa,.int .i64 Pa,.slice nc La.length dc]) (t:=30) ?hr ?_;(case hd=>rfl);(case hg=>rfl);(case hr=>first|(go_simp;done)|(go_simp;rfl));intro Fa hg w9 ic hb;have Ub:=ia.mk (Oa (by repeat (first|(with_reducible first|exact HB.out|apply qa|apply ja|apply ta)|exact HB.out)) hb);have fc:=ia.mk (ic);have Fc:=ia.mk ((by rw [hg];exact (Ma (by repeat (first|(with_reducible first|exact HB.out|apply qa|apply ja|apply ta)|exact HB.out))):w.heap.size ≤ Fa));have Xc:=ia.mk ((by rw [hg];exact (Ma (by repeat (first|(with_reducible first|exact HB.out|apply qa|apply ja|apply ta)|exact HB.out))):w.heap.size ≤ Fa));clear HB;have HB:=Ub;have ya:=fc;have Kg:=Fc;have Wa:=Xc;clear Ub fc Fc Xc hb ic hg;have Vi:w9.cell? ⟨Fa,0,none⟩=some (.slice Jb Ta.length Ib):=(ga ya.out 0).trans rfl;have Ui:w9.cell? ⟨Fa,1,none⟩=some (.int .i64 Ra):=(ga ya.out 1).trans rfl;have Ti:w9.cell? ⟨Fa,2,none⟩=some (.int .i64 Qa):=(ga ya.out 2).trans rfl;have Si:w9.cell? ⟨Fa,3,none⟩=some (.int .i64 Pa):=(ga ya.out 3).trans rfl;have Ri:w9.cell? ⟨Fa,4,none⟩=some (.slice nc La.length dc):=(ga ya.out 4).trans rfl;have Qi:=aa ya.out 0;have Oi:=aa ya.out 1;have Ni:=aa ya.out 2;have Mi:=aa ya.out 3;have Li:=aa ya.out 4)|((with_reducible refine Gb (f:=23) rfl ?_);refine Bd (some 8) rfl rfl Try.func23 (by kernel_rfl) rfl #[.slice Jb Ta.length Ib,.int .i64 a1] rfl (by (try simp only [List.map_toArray,List.map_cons,List.map_nil]);first|done|rfl|(simp only [List.length_drop,List.length_take];rfl)) ?_;(with_reducible refine (Re.calls k _ _ Ta a1 t102 _ ?zd ?yd A3.out).mono ?_);(case zd=>repeat (first|exact (Kd.ec qg.out HB.out)|(with_reducible refine Kd.Sc ?_ _)|(with_reducible refine Kd.Rc ?_ _)|(with_reducible refine Kd.Cd ?_)));(case yd=>exact Jg.out);rintro e w' ⟨rfl,⟨nd,rfl⟩⟩;refine ⟨_,rfl,?_⟩)|((with_reducible refine Gb (f:=69) rfl ?_);refine Bd (some 14) rfl rfl Try.func69 (by kernel_rfl) rfl #[.slice nc La.length dc,.int .i64 t102] rfl (by (try simp only [List.map_toArray,List.map_cons,List.map_nil]);first|done|rfl|(simp only [List.length_drop,List.length_take];rfl)) ?_;(with_reducible refine (xe.calls k _ _ La t102 t103 _ ?zd ?yd A7.out).mono ?_);(case zd=>repeat (first|exact (Kd.ec Qh.out (by repeat (first|(with_reducible first|exact HB.out|apply qa|apply ja|apply ta|refine ua ?_ Wa.out)|exact HB.out)))|(with_reducible refine Kd.Sc ?_ _)|(with_reducible refine Kd.Rc ?_ _)|(with_reducible refine Kd.Cd ?_)));(case yd=>exact Bj.out);rintro e Aj ⟨rfl,hb⟩;refine ⟨_,rfl,?_⟩;have Ub:=ia.mk (Sa (g:=Fa) (o:=.cells #[.slice Jb Ta.length Ib,.int .i64 Ra,.int .i64 Qa,.int .i64 Pa,.slice nc La.length dc] 30 (0,0)) (by (with_reducible repeat (first|refine Ba ?_ _|refine Ca ?_|refine Aa ?_ _));exact ya.out) hb);have fc:=ia.mk (Oa (by repeat (first|(with_reducible first|exact HB.out|apply qa|apply ja|apply ta|refine ua ?_ Wa.out)|exact HB.out)) hb);clear ya HB;have ya:=Ub;have HB:=fc;clear Ub fc;(try clear hb);(try clear jk);(try clear hk);(try clear hi)));go_ret;exact ⟨by first|rfl|(simp [Ka,Ja] <;> rfl)|(simp [*,Ka,Ja] <;> rfl),by repeat (first|(with_reducible first|exact HB.out|apply qa|apply ja|apply ta|refine ua ?_ Wa.out)|exact HB.out)⟩
  ·rw [if_neg c8] at H;have Wv:decide (t103 < 0)=false:=decide_eq_false c8;clear c8;obtain rfl:=Option.some.inj H;go_enter Try.func29,Try.ntmps29;go_wp2_with (first|((with_reducible refine Tb (N:=2) rfl ?_);refine Sb ?hg (N:=2) ?hd (cs:=#[.slice Jb Ta.length Ib,.int .i64 Ra,.int .i64 Qa,.int .i64 Pa,.slice nc La.length dc]) (t:=30) ?hr ?_;(case hd=>rfl);(case hg=>rfl);(case hr=>first|(go_simp;done)|(go_simp;rfl));intro Fa hg kG ic hb;have Ub:=ia.mk (Oa (by repeat (first|(with_reducible first|exact HB.out|apply qa|apply ja|apply ta)|exact HB.out)) hb);have fc:=ia.mk (ic);have Fc:=ia.mk ((by rw [hg];exact (Ma (by repeat (first|(with_reducible first|exact HB.out|apply qa|apply ja|apply ta)|exact HB.out))):w.heap.size ≤ Fa));have Xc:=ia.mk ((by rw [hg];exact (Ma (by repeat (first|(with_reducible first|exact HB.out|apply qa|apply ja|apply ta)|exact HB.out))):w.heap.size ≤ Fa));clear HB;have HB:=Ub;have ya:=fc;have Kg:=Fc;have Wa:=Xc;clear Ub fc Fc Xc hb ic hg;have Yj:kG.cell? ⟨Fa,0,none⟩=some (.slice Jb Ta.length Ib):=(ga ya.out 0).trans rfl;have Xj:kG.cell? ⟨Fa,1,none⟩=some (.int .i64 Ra):=(ga ya.out 1).trans rfl;have Wj:kG.cell? ⟨Fa,2,none⟩=some (.int .i64 Qa):=(ga ya.out 2).trans rfl;have Vj:kG.cell? ⟨Fa,3,none⟩=some (.int .i64 Pa):=(ga ya.out 3).trans rfl;have Uj:kG.cell? ⟨Fa,4,none⟩=some (.slice nc La.length dc):=(ga ya.out 4).trans rfl;have Tj:=aa ya.out 0;have Sj:=aa ya.out 1;have Rj:=aa ya.out 2;have Qj:=aa ya.out 3;have Pj:=aa ya.out 4)|((with_reducible refine Gb (f:=23) rfl ?_);refine Bd (some 8) rfl rfl Try.func23 (by kernel_rfl) rfl #[.slice Jb Ta.length Ib,.int .i64 a1] rfl (by (try simp only [List.map_toArray,List.map_cons,List.map_nil]);first|done|rfl|(simp only [List.length_drop,List.length_take];rfl)) ?_;(with_reducible refine (Re.calls k _ _ Ta a1 t102 _ ?zd ?yd A3.out).mono ?_);(case zd=>repeat (first|exact (Kd.ec qg.out HB.out)|(with_reducible refine Kd.Sc ?_ _)|(with_reducible refine Kd.Rc ?_ _)|(with_reducible refine Kd.Cd ?_)));(case yd=>exact Jg.out);rintro e w' ⟨rfl,⟨nd,rfl⟩⟩;refine ⟨_,rfl,?_⟩)|((with_reducible refine Gb (f:=69) rfl ?_);refine Bd (some 14) rfl rfl Try.func69 (by kernel_rfl) rfl #[.slice nc La.length dc,.int .i64 t102] rfl (by (try simp only [List.map_toArray,List.map_cons,List.map_nil]);first|done|rfl|(simp only [List.length_drop,List.length_take];rfl)) ?_;(with_reducible refine (xe.calls k _ _ La t102 t103 _ ?zd ?yd A7.out).mono ?_);(case zd=>repeat (first|exact (Kd.ec Qh.out (by repeat (first|(with_reducible first|exact HB.out|apply qa|apply ja|apply ta|refine ua ?_ Wa.out)|exact HB.out)))|(with_reducible refine Kd.Sc ?_ _)|(with_reducible refine Kd.Rc ?_ _)|(with_reducible refine Kd.Cd ?_)));(case yd=>exact Bj.out);rintro e tv ⟨rfl,hb⟩;refine ⟨_,rfl,?_⟩;have Ub:=ia.mk (Sa (g:=Fa) (o:=.cells #[.slice Jb Ta.length Ib,.int .i64 Ra,.int .i64 Qa,.int .i64 Pa,.slice nc La.length dc] 30 (0,0)) (by (with_reducible repeat (first|refine Ba ?_ _|refine Ca ?_|refine Aa ?_ _));exact ya.out) hb);have fc:=ia.mk (Oa (by repeat (first|(with_reducible first|exact HB.out|apply qa|apply ja|apply ta|refine ua ?_ Wa.out)|exact HB.out)) hb);clear ya HB;have ya:=Ub;have HB:=fc;clear Ub fc;(try clear hb);(try clear jk);(try clear hk);(try clear hi)));go_ret;exact ⟨by first|rfl|(simp [Ka,Ja] <;> rfl)|(simp [*,Ka,Ja] <;> rfl),by repeat (first|(with_reducible first|exact HB.out|apply qa|apply ja|apply ta|refine ua ?_ Wa.out)|exact HB.out)⟩
theorem oH (l:List Int) (m:Int) (hm:0 ≤ m) (hl:m + l.length ≤ 4611686018427387904):Ev (fun k=>tf.f k l m) (m + l.length,iota m l.length):=by
 have key:=Wi (r:=(m + (l.length:Int),iota m l.length)) (n:=l.length) (fun i=>Ev (fun k=>tf.l0 k ((iota m l.length).take i ++ l.drop i) (m + i) (i:Int)) (m + (l.length:Int),iota m l.length)) ?_ ?_ 0 (by omega)
 ·refine Ev.congr (fun k=>?_) key;unfold tf.f;simp
 ·refine Ev.step (fun k=>by rw [tf.l0]) ?_;refine Ev.neg (by simp [bl]) ?_;rw [List.drop_length,List.append_nil,List.take_of_length_le (by rw [bl];omega)];exact Ev.now _
 ·intro i hi h;refine Ev.step (fun k=>by rw [tf.l0]) ?_;refine Ev.pos (by simp [bl];omega) (Ev.pos (by omega) ?_);have h1:m + (i:Int)=(iota m l.length).getD i 0:=(iD hi).symm;rw [ug hi (by omega),Rh (by omega) (by omega),Int.toNat_natCast];rw [show ((iota m l.length).take i ++ l.drop i).set i (m + (i:Int))=(iota m l.length).take (i + 1) ++ l.drop (i + 1) from by rw [h1];exact rG (by rw [bl]) (by rw [bl];exact hi)];rw [show m + (i:Int) + 1=m + ((i + 1:Nat):Int) from by omega];exact h
theorem rH (m:Int) (n:Nat) (hm:0 ≤ m) (hl:m + n ≤ 4611686018427387904):Ev (fun k=>Re.f k (iota m n) m) (m + n):=by
 have key:=Wi (r:=m + (n:Int)) (n:=n) (fun i=>Ev (fun k=>Re.l0 k (iota m n) (m + i) (i:Int)) (m + (n:Int))) ?_ ?_ 0 (by omega)
 ·refine Ev.congr (fun k=>?_) key;unfold Re.f;simp
 ·refine Ev.step (fun k=>by rw [Re.l0]) ?_;exact Ev.neg (by rw [bl];omega) (Ev.now _)
 ·intro i hi h;refine Ev.step (fun k=>by rw [Re.l0]) ?_;refine Ev.pos (by rw [bl];omega) (Ev.pos (by omega) (Ev.pos (by rw [JP,iD hi]) ?_));rw [ug hi (by omega),Rh (by omega) (by omega)];rw [show m + (i:Int) + 1=m + ((i + 1:Nat):Int) from by omega];exact h
theorem Bv (a:Int):(strOfNums [a]).size=1:=by
 simp [strOfNums]
 rfl
theorem MD (n:Int) (hn:n ≤ 4611686018427387904):∃ t,Ev (fun k=>Od.f k n) t:=by
 have key:∀ (d:Nat) (x:Int) (s:ByteArray),0 ≤ x→x < (10 ^ d:Nat)→x ≤ 4611686018427387904→s.size + d ≤ 1000000→∃ t,Ev (fun k=>Od.l0 k x s) t:=by
  intro d
  induction d with
  | zero =>
   intro x s h0 h1 _ hs;have h1':x < 1:=h1;refine ⟨_,Ev.step (fun k=>by rw [Od.l0]) (Ev.neg (by omega) (Ev.pos (by omega) (Ev.now _)))⟩
  | succ d ih =>
   intro x s h0 h1 h2 hs
   by_cases hx:x > 0
   ·have e1:Int.tdiv x 10=x / 10:=Int.tdiv_eq_ediv_of_nonneg h0;have e2:wrap64 (x / 10)=x / 10:=Rh (by omega) (by omega)
    have h1':x / 10 < (10 ^ d:Nat):=by
     have:((10 ^ (d + 1):Nat):Int)=(10 ^ d:Nat) * 10:=by rw [Nat.pow_succ];simp
     rw [this] at h1;omega
    obtain ⟨t,ht⟩:=ih (x / 10) (strOfNums [(wrap64 (48 + (Int.tmod x 10))) % 256] ++ s) (by omega) h1' (by omega) (by rw [ByteArray.size_append,Bv];omega);refine ⟨t,Ev.step (fun k=>by rw [Od.l0]) (Ev.pos hx ?_)⟩;simp only [Option.bind_some];refine Ev.pos (by rw [Bv];omega) ?_;rw [e1,e2];exact ht
   ·exact ⟨_,Ev.step (fun k=>by rw [Od.l0]) (Ev.neg hx (Ev.pos (by omega) (Ev.now _)))⟩
 unfold Od.f
 by_cases h:n ≤ 0
 ·exact ⟨_,Ev.pos h (Ev.now _)⟩
 ·obtain ⟨t,ht⟩:=key 19 n ⟨#[]⟩ (by omega) (by omega) hn (by decide);exact ⟨t,Ev.neg h ht⟩
def Ci (T:Nat→ByteArray) (m:Int) (n:Nat):List Nd:=(List.range n).map fun (j:Nat)=>(⟨m + 7 * (j:Int),m + 7 * (j:Int) + 1,m + 7 * (j:Int) + 2,m + 7 * (j:Int) + 3,m + 7 * (j:Int) + 4,m + 7 * (j:Int) + 5,T j⟩:Nd)
theorem Nh (T:Nat→ByteArray) (m:Int) (n:Nat):(Ci T m n).length=n:=by simp [Ci]
theorem Ys {T:Nat→ByteArray} {m:Int} {n j:Nat} (h:j < n):(Ci T m n).getD j vm=(⟨m + 7 * (j:Int),m + 7 * (j:Int) + 1,m + 7 * (j:Int) + 2,m + 7 * (j:Int) + 3,m + 7 * (j:Int) + 4,m + 7 * (j:Int) + 5,T j⟩:Nd):=by simp [Ci,List.getD_eq_getElem?_getD,h]
theorem FD {x:List Nd} {i:Nat} (h:i < x.length) (a:Nd):oa (x.set i a) (i:Int)=a:=by
 simp [oa,List.getD_eq_getElem?_getD,h]
theorem sY {a:Int} (h0:0 ≤ a) (h1:a + 7 ≤ 4611686018427387904):wrap64 (a + 1)=a + 1∧wrap64 (a + 1 + 1)=a + 2∧wrap64 (a + 2 + 1)=a + 3∧wrap64 (a + 3 + 1)=a + 4∧wrap64 (a + 4 + 1)=a + 5∧wrap64 (a + 5 + 1)=a + 6∧wrap64 (a + 6 + 1)=a + 7:=by
 refine ⟨?_,?_,?_,?_,?_,?_,?_⟩
 all_goals
  rw [Rh (by omega) (by omega)]
  try omega
theorem SC (l:List Nd) (m:Int) (hm:0 ≤ m) (hl:m + 7 * l.length ≤ 4611686018427387904):∃ ms:List Nd,Ev (fun k=>Jd.f k l m) (m + 7 * l.length,ms)∧Ev (fun k=>Lc.f k ms m) (m + 7 * l.length):=by
 have hT:∀ j:Nat,∃ t,j < l.length→Ev (fun k=>Od.f k (m + 7 * (j:Int) + 6)) t:=by
  intro j
  by_cases hj:j < l.length
  ·obtain ⟨t,ht⟩:=MD (m + 7 * (j:Int) + 6) (by omega);exact ⟨t,fun _=>ht⟩
  ·exact ⟨⟨#[]⟩,fun h=>absurd h hj⟩
 obtain ⟨T,hT⟩:=Classical.axiomOfChoice hT;refine ⟨Ci T m l.length,?_,?_⟩
 ·have key:=Wi (r:=(m + 7 * (l.length:Int),Ci T m l.length)) (n:=l.length) (fun i=>Ev (fun k=>Jd.l0 k ((Ci T m l.length).take i ++ l.drop i) (m + 7 * i) (i:Int)) (m + 7 * (l.length:Int),Ci T m l.length)) ?_ ?_ 0 (by omega)
  ·refine Ev.congr (fun k=>?_) key;unfold Jd.f;simp
  ·refine Ev.step (fun k=>by rw [Jd.l0]) ?_;refine Ev.neg (by simp [Nh]) ?_;rw [List.drop_length,List.append_nil,List.take_of_length_le (by rw [Nh];omega)];exact Ev.now _
  ·intro i hi h;have hlen:((Ci T m l.length).take i ++ l.drop i).length=l.length:=by simp [Nh];omega
   have FI:=rG (m:=Ci T m l.length) (l:=l) (z:=vm) (i:=i) (by rw [Nh]) (by rw [Nh];exact hi);rw [Ys hi] at FI;generalize hx:(Ci T m l.length).take i ++ l.drop i=x at hlen FI ⊢;refine Ev.step (fun k=>by rw [Jd.l0]) ?_;refine Ev.pos (by omega) (Ev.pos (by omega) ?_);simp only [Int.toNat_natCast,Option.bind_some];have hi1:i < x.length:=by omega
   simp only [FD hi1,List.set_set];obtain ⟨w1,w2,w3,w4,w5,w6,w7⟩:=sY (a:=m + 7 * (i:Int)) (by omega) (by omega);simp only [w1,w2,w3,w4,w5,w6,w7];refine Ev.bind (hT i hi) ?_;rw [ug hi (by omega),show m + 7 * (i:Int) + 7=m + 7 * ((i + 1:Nat):Int) from by omega,FI];exact h
 ·have key:=Wi (r:=m + 7 * (l.length:Int)) (n:=l.length) (fun i=>Ev (fun k=>Lc.l0 k (Ci T m l.length) (m + 7 * i) (i:Int)) (m + 7 * (l.length:Int))) ?_ ?_ 0 (by omega)
  ·refine Ev.congr (fun k=>?_) key;unfold Lc.f;simp
  ·refine Ev.step (fun k=>by rw [Lc.l0]) ?_;exact Ev.neg (by rw [Nh];omega) (Ev.now _)
  ·intro i hi h;have hr:oa (Ci T m l.length) (i:Int)=(⟨m + 7 * (i:Int),m + 7 * (i:Int) + 1,m + 7 * (i:Int) + 2,m + 7 * (i:Int) + 3,m + 7 * (i:Int) + 4,m + 7 * (i:Int) + 5,T i⟩:Nd):=Ys hi;refine Ev.step (fun k=>by rw [Lc.l0]) ?_;refine Ev.pos (by rw [Nh];omega) (Ev.pos (by omega) ?_);obtain ⟨w1,w2,w3,w4,w5,w6,w7⟩:=sY (a:=m + 7 * (i:Int)) (by omega) (by omega);simp only [w1,w2,w3,w4,w5,w6,w7,hr];refine Ev.pos (by simp) (Ev.pos (by simp) (Ev.pos (by simp) (Ev.pos (by simp) (Ev.pos (by simp) (Ev.pos (by simp) (Ev.bind (hT i hi) (Ev.pos rfl ?_)))))));rw [ug hi (by omega),show m + 7 * (i:Int) + 7=m + 7 * ((i + 1:Nat):Int) from by omega];exact h
def aI (l:List Vf):Nat:=(l.map fun x=>7 * x.f0.length + 4).sum
theorem FB (x:Vf) (l:List Vf):aI (x :: l)=7 * x.f0.length + 4 + aI l:=by simp [aI]
theorem e8 {a:Int} (h0:0 ≤ a) (h1:a + 4 ≤ 4611686018427387904):wrap64 (a + 1)=a + 1∧wrap64 (a + 1 + 1)=a + 2∧wrap64 (a + 2 + 1)=a + 3∧wrap64 (a + 3 + 1)=a + 4:=by
 refine ⟨?_,?_,?_,?_⟩
 all_goals
  rw [Rh (by omega) (by omega)]
  try omega
theorem TC (l:List Vf):∀ (m:Int),0 ≤ m→m + aI l ≤ 4611686018427387904→∃ ms:List Vf,Ev (fun k=>ng.f k l m) (m + aI l,ms)∧ms.length=l.length∧∀ (pre:List Vf),pre.length + l.length ≤ 1048576→Ev (fun k=>xe.l0 k (pre ++ ms) m (pre.length:Int)) (m + aI l):=by
 induction l with
 | nil =>
  intro m hm hl;refine ⟨[],?_,rfl,fun pre _=>?_⟩
  ·unfold ng.f;simp only [aI,List.map_nil,List.sum_nil,Int.natCast_zero,Int.add_zero];exact Ev.now _
  ·refine Ev.step (fun k=>by rw [xe.l0]) ?_;simp only [aI,List.map_nil,List.sum_nil,Int.natCast_zero,Int.add_zero];exact Ev.neg (by simp) (Ev.now _)
 | cons x l ih =>
  intro m hm hl;rw [FB] at hl;obtain ⟨c,c1,c2⟩:=SC x.f0 m hm (by omega);obtain ⟨ms,m1,m2,m3⟩:=ih (m + 7 * x.f0.length + 4) (by omega) (by omega);obtain ⟨w1,w2,w3,w4⟩:=e8 (a:=m + 7 * (x.f0.length:Int)) (by omega) (by omega);have hv:m + ((7 * x.f0.length + 4 + aI l:Nat):Int)=m + 7 * (x.f0.length:Int) + 4 + aI l:=by omega
  rw [FB,hv];refine ⟨⟨c,m + 7 * x.f0.length,m + 7 * x.f0.length + 1,m + 7 * x.f0.length + 2,m + 7 * x.f0.length + 3⟩ :: ms,?_,by simp [m2],fun pre hp=>?_⟩
  ·unfold ng.f;refine Ev.bind c1 ?_;simp only [w1,w2,w3,w4];exact Ev.bind m1 (Ev.now _)
  ·have hr:Ia (pre ++ (⟨c,m + 7 * x.f0.length,m + 7 * x.f0.length + 1,m + 7 * x.f0.length + 2,m + 7 * x.f0.length + 3⟩:Vf) :: ms) (pre.length:Int)=⟨c,m + 7 * x.f0.length,m + 7 * x.f0.length + 1,m + 7 * x.f0.length + 2,m + 7 * x.f0.length + 3⟩:=by
    simp [Ia,List.getD_eq_getElem?_getD]
   rw [List.length_cons] at hp;have hn:=m3 (pre ++ [⟨c,m + 7 * x.f0.length,m + 7 * x.f0.length + 1,m + 7 * x.f0.length + 2,m + 7 * x.f0.length + 3⟩]) (by rw [List.length_append,List.length_singleton];omega);have hl2:pre.length < (pre ++ (⟨c,m + 7 * x.f0.length,m + 7 * x.f0.length + 1,m + 7 * x.f0.length + 2,m + 7 * x.f0.length + 3⟩:Vf) :: ms).length:=by simp
   rw [List.append_assoc,List.singleton_append,List.length_append] at hn;generalize (pre ++ (⟨c,m + 7 * x.f0.length,m + 7 * x.f0.length + 1,m + 7 * x.f0.length + 2,m + 7 * x.f0.length + 3⟩:Vf) :: ms)=ys at hn hr hl2 ⊢;refine Ev.step (fun k=>by rw [xe.l0]) ?_;refine Ev.pos (by omega) (Ev.pos (by omega) ?_);simp only [hr];refine Ev.bind c2 (Ev.neg (by omega) ?_);simp only [w1,w2,w3,w4];refine Ev.pos (by simp) (Ev.pos (by simp) (Ev.pos (by simp) (Ev.pos (by simp) ?_)));rw [Rh (x:=(pre.length:Int) + 1) (by omega) (by omega)];exact hn
theorem Iy (l0:List Int) (p v s:Int) (l4:List Vf) (m:Int) (hm:0 ≤ m) (hl:m + l0.length + aI l4 ≤ 4611686018427387904) (h4:l4.length ≤ 1048576):∃ ms:List Vf,Ev (fun k=>bh.f k l0 p v s l4 m) (m + l0.length + aI l4,iota m l0.length,ms)∧Ev (fun k=>Hi.f k (iota m l0.length) p v s ms m) (m + l0.length + aI l4):=by
 obtain ⟨ms,m1,m2,m3⟩:=TC l4 (m + l0.length) (by omega) (by omega);refine ⟨ms,?_,?_⟩
 ·unfold bh.f;exact Ev.bind (oH l0 m hm (by omega)) (Ev.bind m1 (Ev.now _))
 ·unfold Hi.f;refine Ev.bind (rH m l0.length hm (by omega)) (Ev.neg (by omega) ?_);have h:=m3 [] (by simpa using h4);simp only [List.nil_append,List.length_nil] at h;refine Ev.bind (a:=m + l0.length + aI l4) ?_ (Ev.neg (by omega) (Ev.now _));unfold xe.f;exact h
theorem kQ (l:List Vf):aI l ≤ 7 * we l + 4 * l.length:=by
 induction l with
 | nil=>simp [aI]
 | cons x l ih =>
  have:we (x :: l)=x.f0.length + we l:=by simp [we]
  rw [FB,this,List.length_cons];omega
theorem pI (l:List qm):we (l.map gh) ≤ K1 l:=by
 unfold we K1;rw [List.map_map]
 have:∀ l:List qm,(l.map ((fun (x:Vf)=>x.f0.length) ∘ gh)).sum ≤ (l.map fun x=>SN x.f0).sum:=by
  intro l
  induction l with
  | nil=>simp
  | cons a l ih =>
   rw [List.map_cons,List.map_cons,List.sum_cons,List.sum_cons]
   have:((fun (x:Vf)=>x.f0.length) ∘ gh) a ≤ SN a.f0:=by
    simp [gh,SN]
   omega
 have:=this l;omega
theorem aJ (x:I7) (hf:mR x):∃ t:Int,Ev (fun k=>jj.f k x.f0 x.f1 x.f2 x.f3 x.f4 1048576) t∧(¬ t < 0→x.f0.length ≤ 1048576∧(x.f4.map gh).length ≤ 1048576∧we (x.f4.map gh) ≤ 1048576 ∧
  Ev (fun k=>Th.f k x.f0 x.f1 x.f2 x.f3 x.f4) (x.f0,x.f1,x.f2,x.f3,x.f4.map gh)∧Ev (fun k=>zh.f k x.f0 x.f1 x.f2 x.f3 (x.f4.map gh) x.f0 x.f1 x.f2 x.f3 (x.f4.map gh)) true ∧
  ∃ M:Int × List Int × List Vf,Ev (fun k=>bh.f k x.f0 x.f1 x.f2 x.f3 (x.f4.map gh) 1) M∧0 ≤ M.1∧M.1 ≤ 4398046511104):=by
 obtain ⟨h0,_,_,_,h4⟩:=hf;obtain ⟨t,e1,e2,e3⟩:=eJ x.f0 x.f1 x.f2 x.f3 x.f4 1048576 (by omega) (by omega) h0.1 h4.1 (fun y hy=>⟨(h4.2 y hy).1.1,fun z hz=>((h4.2 y hy).1.2 z hz).2.2.2.2.2.2⟩);refine ⟨t,e1,fun ht=>?_⟩;have e:=e3 (by omega);obtain ⟨CO,hbc⟩:=qG (l:=x.f4) (n:=1048576) (by omega);have hl:(x.f4.map gh).length ≤ 1048576:=by rw [List.length_map];exact CO
 have hst:=pI x.f4;have hm:=kQ (x.f4.map gh);obtain ⟨ms,m1,_⟩:=Iy x.f0 x.f1 x.f2 x.f3 (x.f4.map gh) 1 (by omega) (by omega) hl
 exact ⟨by omega,hl,by omega,dJ x.f0 x.f1 x.f2 x.f3 x.f4 (by omega) CO hbc,cC x.f0 x.f1 x.f2 x.f3 (x.f4.map gh) (by omega) (by omega) (fun y hy=>by
  have:=Zu _ _ hy
  omega),_,m1,by simp only;omega,by simp only;omega⟩
end Go.Proofs.Ytmifdccaajngcaa.P
end
