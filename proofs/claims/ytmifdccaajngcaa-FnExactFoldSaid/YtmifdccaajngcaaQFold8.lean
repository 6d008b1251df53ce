import Derived.Test.YtmifdccaajngcaaQFold1
import Derived.Test.YtmifdccaajngcaaQFold6
import Derived.Test.YtmifdccaajngcaaQFold5
import Derived.Test.YtmifdccaajngcaaQFold7
import Derived.Test.YtmifdccaajngcaaQFold3
import Derived.Test.YtmifdccaajngcaaQFold2
import Derived.Shelf.Abstract
import Derived.Laws.IdiomCopy
import Derived.Outline
import Derived.RegionTactic
set_option maxHeartbeats 8000000
set_option maxRecDepth 100000
section
namespace Go.Proofs.Ytmifdccaajngcaa.P
open Go.RowKit Go.Proofs.Ka.Rb Go.Proofs.Ka.Vd Go.Proofs.Ka.ef
set_option linter.unusedVariables false
set_option linter.unusedSimpArgs false
theorem ug (a b c:Int):Ev (fun _=>Za.f a b c) (Nk a b c):=Ev.here (rO a b c)
theorem C2 (t:ByteArray):Ev (fun k=>jf.f k ([(⟨#[61,61]⟩:ByteArray),(⟨#[60]⟩:ByteArray),(⟨#[38]⟩:ByteArray),(⟨#[43]⟩:ByteArray),(⟨#[45]⟩:ByteArray),(⟨#[42]⟩:ByteArray)]:List ByteArray) t) (wu t):=by
 refine ⟨8,fun k hk=>?_⟩;obtain ⟨m,rfl⟩:∃ m,k=m + 8:=⟨k - 8,by omega⟩;unfold jf.f wu dH;simp only [jf.l0,List.any_cons,List.any_nil]
 by_cases h0:t.toList=[61,61]
 ·simp [Ah,h0]
 by_cases h1:t.toList=[60]
 ·simp [Ah,h1,wrap64]
 by_cases h2:t.toList=[38]
 ·simp [Ah,h2,wrap64]
 by_cases h3:t.toList=[43]
 ·simp [Ah,h3,wrap64]
 by_cases h4:t.toList=[45]
 ·simp [Ah,h4,wrap64]
 by_cases h5:t.toList=[42]
 ·simp [Ah,h5,wrap64]
 simp [Ah,Ne.symm h0,Ne.symm h1,Ne.symm h2,Ne.symm h3,Ne.symm h4,Ne.symm h5,h0,h1,h2,h3,h4,h5,wrap64]
theorem qH (s d:Int):Nk d 0 (s - 1)=nk s d:=by
 unfold Nk nk;rw [Bool.eq_iff_iff];simp;omega
def iC (D A B C M:Bool) (o d a b n:Int) (t:ByteArray):Bool :=
 if o=0 then D && (a == 0 && b == 0)
 else if o=1 then D && (A && (b == 0 && n == 0))
 else if o=2 then D && (A && (B && (n == 0 && wu t)))
 else if o=3 then D && M
 else if o=4 then d == 0 && (M && C)
 else if o=5 then D && (a == 0 && (b == 0 && n == 0))
 else if o=6 then d == 0 && (A && (b == 0 && n == 0))
 else false
theorem Ev.and {b:Bool} {f:Nat→Option Bool} {r:Bool} (hf:b=true→Ev f r):Ev (fun n=>if b=true then f n else some false) (b && r):=by
 cases b with
 | true=>exact Ev.pos rfl (hf rfl)
 | false=>exact Ev.neg (by simp) (Ev.now _)
theorem Ev.CB {c:Prop} [Decidable c] {f:Nat→Option Bool} {r:Bool} (hf:c→Ev f r):Ev (fun n=>if c then f n else some false) (decide c && r):=by
 by_cases h:c
 ·rw [decide_eq_true h];exact Ev.pos h (hf h)
 ·rw [decide_eq_false h];exact Ev.neg h (Ev.now _)
section
variable {l0:List Int} {p v s:Int} {l4:List lf} {o d a b c n:Int} {t:ByteArray}
theorem lG (D A B M:Bool) (x:Bool) (hs:0 ≤ s) (hs':s ≤ 1000):Ev (fun k=>mb.j1 k D A B M x l0 p v s l4 o d a b c n t) (!x && iC D A B (nk s c) M o d a b n t):=by
 refine Ev.step (fun k=>by rw [mb.j1]) ?_;cases x with
 | true=>exact Ev.pos rfl (Ev.now _)
 | false =>
  refine Ev.neg (by simp) ?_;rw [Bool.not_false,Bool.true_and];unfold iC
  by_cases h0:o=0
  ·rw [if_pos h0];exact Ev.pos h0 (Ev.and fun _=>Ev.CB fun _=>Ev.now _)
  rw [if_neg h0];refine Ev.neg h0 ?_
  by_cases h1:o=1
  ·rw [if_pos h1];exact Ev.pos h1 (Ev.and fun _=>Ev.and fun _=>Ev.CB fun _=>Ev.now _)
  rw [if_neg h1];refine Ev.neg h1 ?_
  by_cases h2:o=2
  ·rw [if_pos h2];exact Ev.pos h2 (Ev.and fun _=>Ev.and fun _=>Ev.and fun _=>Ev.CB fun _=>Ev.bind (C2 t) (Ev.now _))
  rw [if_neg h2];refine Ev.neg h2 ?_
  by_cases h3:o=3
  ·rw [if_pos h3,if_pos h3];exact (Ev.and fun _=>Ev.now _)
  rw [if_neg h3,if_neg h3]
  by_cases h4:o=4
  ·rw [if_pos h4,if_pos h4];refine (Ev.CB fun _=>Ev.and fun _=>?_);rw [zh (x:=s - 1) (by omega) (by omega),← qH];exact Ev.bind (ug _ _ _) (Ev.now _)
  rw [if_neg h4,if_neg h4]
  by_cases h5:o=5
  ·rw [if_pos h5,if_pos h5];exact (Ev.and fun _=>Ev.CB fun _=>Ev.CB fun _=>Ev.now _)
  rw [if_neg h5,if_neg h5]
  by_cases h6:o=6
  ·rw [if_pos h6,if_pos h6];exact (Ev.CB fun _=>Ev.and fun _=>Ev.CB fun _=>Ev.now _)
  rw [if_neg h6,if_neg h6];exact Ev.now _
theorem Vm (M:Bool) (hM:M=((nk s a || a == -1) && (nk s b && Nk n 0 ((l0.length:Int) - 1)))) (hs:0 ≤ s) (hs':s ≤ 1000):Ev (fun k=>mb.j0 k (nk s d) (nk s a) (nk s b) M l0 p v s l4 o d a b c n t) (Xk l0.length s o d a b c n t):=by
 refine Ev.step (fun k=>by rw [mb.j0]) ?_
 have key:∀ x:Bool,(x=if o=2 then (c != 0) else if t.toList=[] then (if o=4 then false else (c != 0)) else true)→Ev (fun k=>mb.j1 k (nk s d) (nk s a) (nk s b) M x l0 p v s l4 o d a b c n t) (Xk l0.length s o d a b c n t):=by
  intro x hx
  have e:Xk l0.length s o d a b c n t=(!x && iC (nk s d) (nk s a) (nk s b) (nk s c) M o d a b n t):=by
   subst hM;subst hx;unfold Xk iC
   by_cases h0:o=0
   ·subst h0;rw [Bool.eq_iff_iff]
    by_cases ht:t.toList=[] <;> simp [ht]
    all_goals (constructor <;> intro h <;> simp_all)
   by_cases h1:o=1
   ·subst h1;rw [Bool.eq_iff_iff]
    by_cases ht:t.toList=[] <;> simp [ht]
    all_goals (constructor <;> intro h <;> simp_all)
   by_cases h2:o=2
   ·subst h2;rw [Bool.eq_iff_iff];simp
    constructor <;> intro h <;> simp_all
   by_cases h3:o=3
   ·subst h3;rw [Bool.eq_iff_iff]
    by_cases ht:t.toList=[] <;> simp [ht]
    all_goals (constructor <;> intro h <;> simp_all)
   by_cases h4:o=4
   ·subst h4;rw [Bool.eq_iff_iff]
    by_cases ht:t.toList=[] <;> simp [ht]
    all_goals (constructor <;> intro h <;> simp_all)
   by_cases h5:o=5
   ·subst h5;rw [Bool.eq_iff_iff]
    by_cases ht:t.toList=[] <;> simp [ht]
    all_goals (constructor <;> intro h <;> simp_all)
   by_cases h6:o=6
   ·subst h6;rw [Bool.eq_iff_iff]
    by_cases ht:t.toList=[] <;> simp [ht]
    all_goals (constructor <;> intro h <;> simp_all)
   simp [h0,h1,h2,h3,h4,h5,h6]
  rw [e];exact lG _ _ _ _ _ hs hs'
 by_cases h2:o=2
 ·exact Ev.pos h2 (Ev.neg (by omega) (key _ (by rw [if_pos h2])))
 ·refine Ev.neg h2 ?_
  by_cases ht:t.toList=([]:List UInt8)
  ·refine Ev.pos ht ?_
   by_cases h4:o=4
   ·exact Ev.pos h4 (key _ (by rw [if_neg h2,if_pos ht,if_pos h4]))
   ·exact Ev.neg h4 (key _ (by rw [if_neg h2,if_pos ht,if_neg h4]))
  ·exact Ev.neg ht (key _ (by rw [if_neg h2,if_neg ht]))
theorem DA (hs:0 ≤ s) (hs':s ≤ 1000) (hl:l0.length ≤ 1048576):Ev (fun k=>mb.f k l0 p v s l4 o d a b c n t) (Xk l0.length s o d a b c n t):=by
 unfold mb.f;rw [zh (x:=s - 1) (by omega) (by omega),zh (x:=(l0.length:Int) - 1) (by omega) (by omega)];refine Ev.bind (ug _ _ _) (Ev.bind (ug _ _ _) (Ev.bind (ug _ _ _) ?_));simp only [qH];cases ha:nk s a with
 | true =>
  refine Ev.pos rfl ?_;cases hb:nk s b with
  | true=>exact Ev.pos rfl (Ev.bind (ug _ _ _) (by have:=Vm (l0:=l0) (p:=p) (v:=v) (s:=s) (l4:=l4) (o:=o) (d:=d) (a:=a) (b:=b) (c:=c) (n:=n) (t:=t) (Nk n 0 ((l0.length:Int) - 1)) (by simp [ha,hb]) hs hs';rw [ha,hb] at this;exact this))
  | false=>exact Ev.neg (by simp) (by have:=Vm (l0:=l0) (p:=p) (v:=v) (s:=s) (l4:=l4) (o:=o) (d:=d) (a:=a) (b:=b) (c:=c) (n:=n) (t:=t) false (by simp [hb]) hs hs';rw [ha,hb] at this;exact this)
 | false =>
  refine Ev.neg (by simp) ?_
  by_cases h1:a = -1
  ·refine Ev.pos h1 ?_;cases hb:nk s b with
   | true=>exact Ev.pos rfl (Ev.bind (ug _ _ _) (by have:=Vm (l0:=l0) (p:=p) (v:=v) (s:=s) (l4:=l4) (o:=o) (d:=d) (a:=a) (b:=b) (c:=c) (n:=n) (t:=t) (Nk n 0 ((l0.length:Int) - 1)) (by simp [h1,hb]) hs hs';rw [ha,hb] at this;exact this))
   | false=>exact Ev.neg (by simp) (by have:=Vm (l0:=l0) (p:=p) (v:=v) (s:=s) (l4:=l4) (o:=o) (d:=d) (a:=a) (b:=b) (c:=c) (n:=n) (t:=t) false (by simp [hb]) hs hs';rw [ha,hb] at this;exact this)
  ·exact Ev.neg h1 (by have:=Vm (l0:=l0) (p:=p) (v:=v) (s:=s) (l4:=l4) (o:=o) (d:=d) (a:=a) (b:=b) (c:=c) (n:=n) (t:=t) false (by simp [ha,h1]) hs hs';rw [ha] at this;exact this)
theorem YH (code:List ue) (j ba tg els:Int) (hs:0 ≤ s) (hs':s ≤ 1000) (hl:l0.length ≤ 1048576) (hl4:l4.length ≤ 1048576) (hc:code.length ≤ 1048576):Ev (fun k=>tc.f k l0 p v s l4 code j ba tg els) (Yj l0.length s l4.length code j ba tg els):=by
 unfold tc.f;have key:=ZH (n:=code.length) (R:=(if j=0 then Nk tg 0 ((l4.length:Int) - 1) && ba == 0 && els == 0 else if j=1 then Nk tg 0 ((l4.length:Int) - 1) && Nk els 0 ((l4.length:Int) - 1) && nk s ba else if j=2 then nk s ba && tg == 0 && els == 0 else false)) (e:=false) (fun i=>Wk l0.length s (code.getD i yq)=true) (fun i k=>tc.l0 k (i:Int) l0 p v s l4 code j ba tg els) ?_ ?_ ?_
 ·have e:(bif iy code.length (fun i=>Wk l0.length s (code.getD i yq)=true) then (if j=0 then Nk tg 0 ((l4.length:Int) - 1) && ba == 0 && els == 0 else if j=1 then Nk tg 0 ((l4.length:Int) - 1) && Nk els 0 ((l4.length:Int) - 1) && nk s ba else if j=2 then nk s ba && tg == 0 && els == 0 else false) else false)=Yj l0.length s l4.length code j ba tg els:=by
   rw [Ix];unfold Yj;rw [decide_eq_true hs,Bool.and_true];cases (!(code.any fun x=>!Wk l0.length s x)) <;> rfl
  rw [e] at key;exact key
 ·refine Ev.step (fun k=>by rw [tc.l0]) (Ev.neg (by omega) ?_);rw [zh (x:=s - 1) (by omega) (by omega),zh (x:=(l4.length:Int) - 1) (by omega) (by omega)];refine Ev.bind (ug _ _ _) (Ev.bind (ug _ _ _) ?_);rw [qH s ba]
  by_cases h0:j=0
  ·rw [if_pos h0,if_pos h0,Bool.and_assoc];exact Ev.and fun _=>Ev.CB fun _=>Ev.now _
  rw [if_neg h0,if_neg h0]
  by_cases h1:j=1
  ·rw [if_pos h1,if_pos h1,Bool.and_assoc,Bool.and_comm (Nk els 0 ((l4.length:Int) - 1))];exact Ev.and fun _=>Ev.and fun _=>Ev.bind (ug _ _ _) (Ev.now _)
  rw [if_neg h1,if_neg h1]
  by_cases h2:j=2
  ·rw [if_pos h2,if_pos h2,Bool.and_assoc];exact Ev.and fun _=>Ev.CB fun _=>Ev.now _
  rw [if_neg h2,if_neg h2];exact Ev.now _
 ·intro i hi hp r hr;refine Ev.step (fun k=>by rw [tc.l0]) (Ev.pos (by omega) (Ev.pos (by omega) ?_));refine Ev.bind (DA hs hs' hl) ?_;have hq:Xk l0.length s (Ia code (i:Int)).f0 (Ia code (i:Int)).f1 (Ia code (i:Int)).f2 (Ia code (i:Int)).f3 (Ia code (i:Int)).f4 (Ia code (i:Int)).f5 (Ia code (i:Int)).f6=true:=hp;refine Ev.pos hq ?_;rw [mg hi (by omega)];exact hr
 ·intro i hi hp;refine Ev.step (fun k=>by rw [tc.l0]) (Ev.pos (by omega) (Ev.pos (by omega) ?_));refine Ev.bind (DA hs hs' hl) ?_;exact Ev.neg hp (Ev.now _)
end
def Nd (l:List lf):Nat:=(l.map fun x=>x.f0.length).sum
def sx (l0:List Int) (p v s:Int) (n4:Nat):Bool:=Ht l0 p v && Nk s v 1000 && Nk (n4:Int) 1 300
def Wm (l0:List Int) (s:Int) (l4:List lf) (x:lf):Bool:=Yj l0.length s l4.length x.f0 x.f1 x.f2 x.f3 x.f4
def Dl (l0:List Int) (p v s:Int) (l4:List lf):Bool:=sx l0 p v s l4.length && (!(l4.any fun x=>!Wm l0 s l4 x) && decide (Nd l4 ≤ 1000))
theorem vu (l:List lf) (i:Nat) (h:i < l.length):Nd (l.take (i + 1))=Nd (l.take i) + l[i].f0.length:=by
 unfold Nd;rw [List.take_succ_eq_append_getElem h,List.map_append,List.sum_append];simp
theorem Pz (l:List Nat) (i:Nat):(l.take i).sum ≤ l.sum:=by
 conv=>rhs;rw [← List.take_append_drop i l]
 rw [List.sum_append];omega
theorem Qz (l:List lf) (i:Nat):Nd (l.take i) ≤ Nd l:=by
 unfold Nd;rw [List.map_take];exact Pz _ _
theorem LM {l0:List Int} {p v s:Int} {n4:Nat} (h:sx l0 p v s n4=true):1 ≤ l0.length∧l0.length ≤ 4∧0 ≤ p∧p ≤ v∧p ≤ 6∧v ≤ 20∧v ≤ s∧s ≤ 1000∧1 ≤ n4∧n4 ≤ 300:=by
 unfold sx Ht Nk at h;simp only [Bool.and_eq_true,decide_eq_true_eq] at h;obtain ⟨⟨⟨⟨⟨⟨h1,h2⟩,_⟩,h3,h4⟩,h5⟩,h6,h7⟩,h8,h9⟩:=h
 split at h4 <;> omega
section
variable {l0:List Int} {p v s:Int} {l4:List lf}
theorem XH (h0:l0.length ≤ 1048576) (hl4:l4.length ≤ 1048576) (ht:Nd l4 ≤ 1048576):Ev (fun k=>Zb.f k l0 p v s l4) (Dl l0 p v s l4):=by
 unfold Zb.f Rg.f;simp only [List.length_nil,if_true];refine Ev.val ?_
 have no:∀ {r:Bool},r=false→Ev (fun k=>Zb.j0 k true l0 p v s l4) r:=by
  intro r hr;subst hr;exact Ev.step (fun k=>by rw [Zb.j0]) (Ev.pos rfl (Ev.now _))
 unfold Dl sx;cases hp:Ht l0 p v with
 | false=>exact Ev.neg (by simp) (no (by simp))
 | true =>
  refine Ev.pos rfl (Ev.bind (Ev.here (vF _ _ _)) ?_);cases hv:Nk s v 1000 with
  | false=>exact Ev.neg (by simp) (no (by simp))
  | true =>
   refine Ev.pos rfl (Ev.bind (Ev.here (vF _ _ _)) ?_);cases hn:Nk (l4.length:Int) 1 300 with
   | false=>exact no (by simp)
   | true =>
    refine Ev.step (fun k=>by rw [Zb.j0]) (Ev.neg (by simp) ?_);simp only [Bool.true_and];have key:=ZH (n:=l4.length) (R:=decide (Nd l4 ≤ 1000)) (e:=false) (fun i=>Wm l0 s l4 (l4.getD i mB)=true) (fun i k=>Zb.l0 k (Nd (l4.take i):Int) l4 (l4.length:Int) (i:Int) l0 p v s l4) ?_ ?_ ?_
    ·have e:(bif iy l4.length (fun i=>Wm l0 s l4 (l4.getD i mB)=true) then decide (Nd l4 ≤ 1000) else false)=(!(l4.any fun x=>!Wm l0 s l4 x) && decide (Nd l4 ≤ 1000)):=by
      rw [Ix];cases (!(l4.any fun x=>!Wm l0 s l4 x)) <;> rfl
     rw [e] at key
     simpa [Nd] using key
    ·refine Ev.step (fun k=>by rw [Zb.l0]) (Ev.neg (by omega) ?_);rw [List.take_length]
     have e:decide ((Nd l4:Int) ≤ 1000)=decide (Nd l4 ≤ 1000):=by
      rw [Bool.eq_iff_iff,decide_eq_true_iff,decide_eq_true_iff];omega
     rw [e];exact Ev.now _
    ·intro i hi hq r hr;refine Ev.step (fun k=>by rw [Zb.l0]) (Ev.pos (by omega) (Ev.pos (by omega) (Ev.pos (by omega) ?_)));unfold Si.f;have hq':Yj l0.length s l4.length (Oa l4 (i:Int)).f0 (Oa l4 (i:Int)).f1 (Oa l4 (i:Int)).f2 (Oa l4 (i:Int)).f3 (Oa l4 (i:Int)).f4=true:=hq;refine Ev.val (Ev.pos hq' ?_);have h1:=vu l4 i hi;have h2:=Qz l4 (i + 1);rw [qp hi,mg hi (by omega),zh (x:=(Nd (l4.take i):Int) + (l4[i].f0.length:Int)) (by omega) (by omega),show (Nd (l4.take i):Int) + (l4[i].f0.length:Int)=(Nd (l4.take (i + 1)):Int) from by omega];exact hr
    ·intro i hi hq;refine Ev.step (fun k=>by rw [Zb.l0]) (Ev.pos (by omega) (Ev.pos (by omega) (Ev.pos (by omega) ?_)));unfold Si.f;exact Ev.val (Ev.neg hq (Ev.now _))
theorem aI (h0:l0.length ≤ 1048576) (hl4:l4.length ≤ 1048576) (ht:Nd l4 ≤ 1048576):Ev (fun k=>Ya.f k l0 p v s l4) (Dl l0 p v s l4):=by
 unfold Ya.f
 have no:∀ {r:Bool},r=false→Ev (fun k=>Ya.j1 k true l0 p v s l4) r:=by
  intro r hr;subst hr;exact Ev.step (fun k=>by rw [Ya.j1]) (Ev.pos rfl (Ev.now _))
 have key:=ZH (n:=l0.length) (R:=Nk (l0.length:Int) 1 4 && (Nk v 0 20 && (Nk p 0 6 && (decide (p ≤ v) && (Nk s v 1000 && (Nk (l4.length:Int) 1 300 && (!(l4.any fun x=>!Wm l0 s l4 x) && decide (Nd l4 ≤ 1000)))))))) (e:=false) (fun i=>Nk (l0.getD i 0) 1 16=true) (fun i k=>Ya.l0 k (i:Int) l0 p v s l4) ?_ ?_ ?_
 ·have e:(bif iy l0.length (fun i=>Nk (l0.getD i 0) 1 16=true) then (Nk (l0.length:Int) 1 4 && (Nk v 0 20 && (Nk p 0 6 && (decide (p ≤ v) && (Nk s v 1000 && (Nk (l4.length:Int) 1 300 && (!(l4.any fun x=>!Wm l0 s l4 x) && decide (Nd l4 ≤ 1000)))))))) else false)=Dl l0 p v s l4:=by
   rw [Ix l0 0 (fun x=>Nk x 1 16)];unfold Dl sx Ht;rw [Bool.eq_iff_iff];cases (!(l0.any fun x=>!Nk x 1 16))
   ·simp
   ·simp only [cond_true,Bool.and_eq_true,Nk,decide_eq_true_eq,and_assoc,true_and]
    constructor
    ·rintro ⟨h1,h2,h3,h4,h5,h6,h7,h8⟩;refine ⟨h1,h2,h5,?_,h4,h8⟩
     split <;> omega
    ·rintro ⟨h1,h2,h5,h6,h4,h7,h8,h9⟩;refine ⟨h1,h2,?_⟩
     split at h6 <;> exact ⟨by omega,by omega,by omega,by omega,by omega,h7,h8,h9⟩
  rw [e] at key;exact key
 ·refine Ev.step (fun k=>by rw [Ya.l0]) (Ev.neg (by omega) ?_);refine Ev.bind (ug _ _ _) ?_;cases hb0:Nk (l0.length:Int) 1 4 with
  | false=>exact Ev.neg (by simp) (no (by simp))
  | true =>
   refine Ev.pos rfl (Ev.bind (ug _ _ _) ?_);cases Sm:Nk v 0 20 with
   | false=>exact Ev.neg (by simp) (no (by simp))
   | true =>
    refine Ev.pos rfl (Ev.bind (ug _ _ _) ?_);cases Li:Nk p 0 6 with
    | false=>exact Ev.neg (by simp) (no (by simp))
    | true =>
     refine Ev.pos rfl ?_
     by_cases hpv:p > v
     ·refine Ev.pos hpv (no ?_);rw [decide_eq_false (show ¬ p ≤ v from by omega)];simp
     ·refine Ev.neg hpv (Ev.bind (ug _ _ _) ?_);rw [decide_eq_true (show p ≤ v from by omega)];cases Bx:Nk s v 1000 with
      | false=>exact Ev.neg (by simp) (no (by simp))
      | true =>
       refine Ev.pos rfl (Ev.bind (ug _ _ _) ?_);cases YP:Nk (l4.length:Int) 1 300 with
       | false=>exact no (by simp)
       | true =>
        refine Ev.step (fun k=>by rw [Ya.j1]) (Ev.neg (by simp) ?_);simp only [Bool.true_and];have hs0:0 ≤ s∧s ≤ 1000:=by simp [Nk] at Sm Bx;omega
        have key:=Fi (r:=true) (n:=l4.length) (fun i=>Nd (l4.take i) ≤ 1000→Ev (fun k=>Ya.l1 k (Nd (l4.take i):Int) (i:Int) l0 p v s l4) (!((l4.drop i).any fun x=>!Wm l0 s l4 x) && decide (Nd l4 ≤ 1000))) ?_ ?_ 0 (by omega) (by simp [Nd])
        ·rw [List.drop_zero] at key
         simpa [Nd] using key
        ·intro h;rw [List.take_length] at h;refine Ev.step (fun k=>by rw [Ya.l1]) (Ev.neg (by omega) ?_);rw [List.drop_length,decide_eq_true h];exact Ev.now _
        ·intro i hi ih h;have h1:=vu l4 i hi;have h2:=Qz l4 (i + 1);refine Ev.step (fun k=>by rw [Ya.l1]) (Ev.pos (by omega) (Ev.pos (by omega) ?_));rw [qp hi,zh (x:=(Nd (l4.take i):Int) + (l4[i].f0.length:Int)) (by omega) (by omega),show (Nd (l4.take i):Int) + (l4[i].f0.length:Int)=(Nd (l4.take (i + 1)):Int) from by omega]
         have hd:((l4.drop i).any fun x=>!Wm l0 s l4 x)=(!Wm l0 s l4 l4[i] || (l4.drop (i + 1)).any fun x=>!Wm l0 s l4 x):=by
          rw [List.drop_eq_getElem_cons hi,List.any_cons]
         rw [hd]
         by_cases hgt:(Nd (l4.take (i + 1)):Int) > 1000
         ·rw [decide_eq_false (show ¬ Nd l4 ≤ 1000 from by omega),Bool.and_false];exact Ev.pos hgt (Ev.now _)
         ·refine Ev.neg hgt (Ev.bind (YH _ _ _ _ _ hs0.1 hs0.2 h0 hl4 (by omega)) ?_);cases hq:Wm l0 s l4 l4[i] with
          | false =>
           have hq':¬ Yj l0.length s l4.length l4[i].f0 l4[i].f1 l4[i].f2 l4[i].f3 l4[i].f4=true:=by
            have e:Yj l0.length s l4.length l4[i].f0 l4[i].f1 l4[i].f2 l4[i].f3 l4[i].f4=false:=hq;rw [e];simp
           exact Ev.neg hq' (Ev.now _)
          | true =>
           have hq':Yj l0.length s l4.length l4[i].f0 l4[i].f1 l4[i].f2 l4[i].f3 l4[i].f4=true:=hq;refine Ev.pos hq' ?_;rw [mg hi (by omega),Bool.not_true,Bool.false_or];exact ih (by omega)
 ·intro i hi hq r hr;refine Ev.step (fun k=>by rw [Ya.l0]) (Ev.pos (by omega) (Ev.pos (by omega) ?_));refine Ev.bind (ug _ _ _) (Ev.pos hq ?_);rw [mg hi (by omega)];exact hr
 ·intro i hi hq;refine Ev.step (fun k=>by rw [Ya.l0]) (Ev.pos (by omega) (Ev.pos (by omega) ?_));exact Ev.bind (ug _ _ _) (Ev.neg hq (Ev.now _))
end
end Go.Proofs.Ytmifdccaajngcaa.P
end
section
namespace Go.Proofs.Ytmifdccaajngcaa.P
open Go.RowKit Go.Proofs.Ka.Rb Go.Proofs.Ka.Vd Go.Proofs.Ka.ef
set_option linter.unusedVariables false
set_option linter.unusedSimpArgs false
section
variable {l0:List Int} {p v s:Int} {l4:List lf}
theorem gE (h:Dl l0 p v s l4=true):sx l0 p v s l4.length=true∧(∀ b ∈ l4,Wm l0 s l4 b=true)∧Nd l4 ≤ 1000:=by
 unfold Dl at h;simp only [Bool.and_eq_true,Bool.not_eq_true',List.any_eq_false,decide_eq_true_eq] at h;exact ⟨h.1,fun b hb=>by have:=h.2.1 b hb;simpa using this,h.2.2⟩
theorem oI {b:lf} (h:Wm l0 s l4 b=true):∀ x ∈ b.f0,Wk l0.length s x=true:=by
 unfold Wm Yj at h;simp only [Bool.and_eq_true,Bool.not_eq_true',List.any_eq_false] at h;intro x hx;have:=h.1.1 x hx
 simpa using this
theorem Ew (l:List lf) (b:lf) (hb:b ∈ l):b.f0.length ≤ Nd l:=by
 unfold Nd;exact cA (List.mem_map.mpr ⟨b,hb,rfl⟩)
end
end Go.Proofs.Ytmifdccaajngcaa.P
end
section
namespace Go.Proofs.Ytmifdccaajngcaa.P
open Go.RowKit Go.Proofs.Ka.Rb Go.Proofs.Ka.Vd Go.Proofs.Ka.ef
set_option linter.unusedVariables false
set_option linter.unusedSimpArgs false
attribute [local go_sem] Ph Nh Oi Ni gh fh Oh Mh
def uf.f (dc:Int) (Ja:Int) (La:Int) (Pa:Int) (Mb:Int) (Cc:Int) (Ac:ByteArray):Option (Bool):=if dc=4 then (some false) else (some (dc != 6))
theorem uf.calls (dc:Int) (Ja:Int) (La:Int) (Pa:Int) (Mb:Int) (Cc:Int) (Ac:ByteArray) (r:Bool) (w:World) (h:uf.f dc Ja La Pa Mb Cc Ac=some r) :
  Calls Try.prog 100 #[.agg #[.int .i64 dc,.int .i64 Ja,.int .i64 La,.int .i64 Pa,.int .i64 Mb,.int .i64 Cc,.string Ac]] w fun e w'=>e = .returned (.bool r)∧Below w.heap.size w w':=by
 have DF:=Try.underlying70;have HB:=ia.mk (Below.refl w.heap.size w);have H:(if dc=4 then (some false) else (some (dc != 6)))=some r:=h;clear h
 by_cases c2:dc=4
 ·rw [if_pos c2] at H;have gy:(dc == 4)=true:=beq_iff_eq.mpr c2;have rE:(dc != 4)=false:=bne_eq_false_iff_eq.mpr c2;clear c2;obtain rfl:=Option.some.inj H;go_enter Try.func100,Try.ntmps100;go_wp2_with (first|((with_reducible refine Ib (N:=1) rfl ?_);refine Gb ?hg (N:=1) ?hd (cs:=#[.int .i64 dc,.int .i64 Ja,.int .i64 La,.int .i64 Pa,.int .i64 Mb,.int .i64 Cc,.string Ac]) (t:=70) ?hr ?_;(case hd=>rfl);(case hg=>rfl);(case hr=>first|(go_simp;done)|(go_simp;rfl));intro Da hg w3 Vb hb;have Kb:=ia.mk (Ra (by repeat (first|(with_reducible first|exact HB.out|apply ta|apply ja|apply ua)|exact HB.out)) hb);have Ub:=ia.mk (Vb);have qc:=ia.mk ((by rw [hg];exact (Sa (by repeat (first|(with_reducible first|exact HB.out|apply ta|apply ja|apply ua)|exact HB.out))):w.heap.size ≤ Da));have Rc:=ia.mk ((by rw [hg];exact (Sa (by repeat (first|(with_reducible first|exact HB.out|apply ta|apply ja|apply ua)|exact HB.out))):w.heap.size ≤ Da));clear HB;have HB:=Kb;have qa:=Ub;have De:=qc;have Wa:=Rc;clear Kb Ub qc Rc hb Vb hg;have Q1:w3.cell? ⟨Da,0,none⟩=some (.int .i64 dc):=(ga qa.out 0).trans rfl;have P1:w3.cell? ⟨Da,1,none⟩=some (.int .i64 Ja):=(ga qa.out 1).trans rfl;have O1:w3.cell? ⟨Da,2,none⟩=some (.int .i64 La):=(ga qa.out 2).trans rfl;have N1:w3.cell? ⟨Da,3,none⟩=some (.int .i64 Pa):=(ga qa.out 3).trans rfl;have L1:w3.cell? ⟨Da,4,none⟩=some (.int .i64 Mb):=(ga qa.out 4).trans rfl;have K1:w3.cell? ⟨Da,5,none⟩=some (.int .i64 Cc):=(ga qa.out 5).trans rfl;have J1:w3.cell? ⟨Da,6,none⟩=some (.string Ac):=(ga qa.out 6).trans rfl;have P0:=aa qa.out 0;have O0:=aa qa.out 1;have N0:=aa qa.out 2;have M0:=aa qa.out 3;have L0:=aa qa.out 4;have K0:=aa qa.out 5;have I0:=aa qa.out 6));go_ret;exact ⟨by first|rfl|(simp [Na,Ma] <;> rfl)|(simp [*,Na,Ma] <;> rfl),by repeat (first|(with_reducible first|exact HB.out|apply ta|apply ja|apply ua|refine Aa ?_ Wa.out)|exact HB.out)⟩
 ·rw [if_neg c2] at H;have gy:(dc == 4)=false:=beq_eq_false_iff_ne.mpr c2;have rE:(dc != 4)=true:=bne_iff_ne.mpr c2;obtain rfl:=Option.some.inj H;go_enter Try.func100,Try.ntmps100;go_wp2_with (first|((with_reducible refine Ib (N:=1) rfl ?_);refine Gb ?hg (N:=1) ?hd (cs:=#[.int .i64 dc,.int .i64 Ja,.int .i64 La,.int .i64 Pa,.int .i64 Mb,.int .i64 Cc,.string Ac]) (t:=70) ?hr ?_;(case hd=>rfl);(case hg=>rfl);(case hr=>first|(go_simp;done)|(go_simp;rfl));intro Da hg w5 Vb hb;have Kb:=ia.mk (Ra (by repeat (first|(with_reducible first|exact HB.out|apply ta|apply ja|apply ua)|exact HB.out)) hb);have Ub:=ia.mk (Vb);have qc:=ia.mk ((by rw [hg];exact (Sa (by repeat (first|(with_reducible first|exact HB.out|apply ta|apply ja|apply ua)|exact HB.out))):w.heap.size ≤ Da));have Rc:=ia.mk ((by rw [hg];exact (Sa (by repeat (first|(with_reducible first|exact HB.out|apply ta|apply ja|apply ua)|exact HB.out))):w.heap.size ≤ Da));clear HB;have HB:=Kb;have qa:=Ub;have De:=qc;have Wa:=Rc;clear Kb Ub qc Rc hb Vb hg;have Vt:w5.cell? ⟨Da,0,none⟩=some (.int .i64 dc):=(ga qa.out 0).trans rfl;have Ut:w5.cell? ⟨Da,1,none⟩=some (.int .i64 Ja):=(ga qa.out 1).trans rfl;have Tt:w5.cell? ⟨Da,2,none⟩=some (.int .i64 La):=(ga qa.out 2).trans rfl;have St:w5.cell? ⟨Da,3,none⟩=some (.int .i64 Pa):=(ga qa.out 3).trans rfl;have Rt:w5.cell? ⟨Da,4,none⟩=some (.int .i64 Mb):=(ga qa.out 4).trans rfl;have har:w5.cell? ⟨Da,5,none⟩=some (.int .i64 Cc):=(ga qa.out 5).trans rfl;have gar:w5.cell? ⟨Da,6,none⟩=some (.string Ac):=(ga qa.out 6).trans rfl;have Qt:=aa qa.out 0;have Pt:=aa qa.out 1;have Ot:=aa qa.out 2;have Nt:=aa qa.out 3;have Mt:=aa qa.out 4;have Haq:=aa qa.out 5;have Gaq:=aa qa.out 6));go_ret;exact ⟨by first|rfl|(simp [Na,Ma] <;> rfl)|(simp [*,Na,Ma] <;> rfl),by repeat (first|(with_reducible first|exact HB.out|apply ta|apply ja|apply ua|refine Aa ?_ Wa.out)|exact HB.out)⟩
def Zd.l0:Nat→Int→List Int→Int→Int→Int→List (lf)→List Int→Int→Int→Int→List (lf)→Option (List Int × Int × Int × Int × (List (lf)))
 | 0,_,_,_,_,_,_,_,_,_,_,_=>none
 | k + 1,x4,we,ud,Dd,Xd,yd,qu,ou,nu,lu,Lp=>if x4 < (yd.length:Int) then (if 0 ≤ x4 then ((some (([]:List (ue)):List (ue))).bind fun Pk=>(if Pk.length + ((Oa yd x4).f0).length < 2199023255552 then (if Lp.length < 2513169434916 then (Zd.l0 k (wrap64 (x4 + 1)) we ud Dd Xd yd qu ou nu lu (Lp ++ [(⟨(Pk ++ ((Oa yd x4).f0)),(Oa yd x4).f1,(Oa yd x4).f2,(Oa yd x4).f3,(Oa yd x4).f4⟩:lf)])) else (none)) else (none))) else (none)) else (some (qu,ou,nu,lu,Lp))
def Zd.f (k:Nat) (Ua:List Int) (Ja:Int) (La:Int) (Pa:Int) (Qa:List (lf)):Option (List Int × Int × Int × Int × (List (lf))):=(some (([]:List Int):List Int)).bind fun Ue=>(if Ue.length + Ua.length < 17592186044416 then (Zd.l0 k 0 Ua Ja La Pa Qa (Ue ++ Ua) Ja La Pa (([]:List (lf)))) else (none))
theorem Zd.calls (k:Nat) (zb:Option Addr) (yb:Nat) (Ua:List Int) (Ja:Int) (La:Int) (Pa:Int) (Yb:Option Addr) (Nb:Nat) (Qa:List (lf)) (r1:List Int) (r2:Int) (r3:Int) (r4:Int) (r5:List (lf)) (w:World) (Pf:Kd.C (Kd.int .i64) w zb Ua.length Ua) (Lf:Ua.length ≤ yb) (Ng:Kd.C Ok w Yb Qa.length Qa) (Jg:Qa.length ≤ Nb) (h:Zd.f k Ua Ja La Pa Qa=some (r1,r2,r3,r4,r5)) :
  Calls Try.prog 65 #[.agg #[.slice zb Ua.length yb,.int .i64 Ja,.int .i64 La,.int .i64 Pa,.slice Yb Qa.length Nb]] w fun e w'=>∃ Zs RI:Value,e = .returned (.agg #[Zs,.int .i64 r2,.int .i64 r3,.int .i64 r4,RI])∧Kd.R (Kd.int .i64) 3 w' w.heap.size (fun _=>True) Zs r1∧Kd.S Ok 68 w' w.heap.size (fun _=>True) RI r5∧Below w.heap.size w w':=by
 have FF:=Try.underlying30;have EF:=Try.underlying68;have kg:=ia.mk Pf;have Hg:=ia.mk Lf;clear Pf Lf;have Sh:=ia.mk Ng;have fk:=ia.mk Jg;clear Ng Jg;have HB:=ia.mk (Below.refl w.heap.size w);have H:((some (([]:List Int):List Int)).bind fun Ue=>(if Ue.length + Ua.length < 17592186044416 then (Zd.l0 k 0 Ua Ja La Pa Qa (Ue ++ Ua) Ja La Pa (([]:List (lf)))) else (none)))=some (r1,r2,r3,r4,r5):=h;clear h;obtain ⟨Ue,Ej⟩:∃ y_:List Int,y_=(([]:List Int)):=⟨_,rfl⟩;replace H:(if Ue.length + Ua.length < 17592186044416 then (Zd.l0 k 0 Ua Ja La Pa Qa (Ue ++ Ua) Ja La Pa (([]:List (lf)))) else (none))=some (r1,r2,r3,r4,r5):=by first|(rw [Ej];with_reducible exact H)|(have lg:=(Option.bind_some _ _).symm.trans H;rw [Ej];with_reducible exact lg)|(have lg:=(Option.bind_some _ _).symm.trans H;with_reducible exact lg)|with_reducible exact H|(rw [Ej];exact H)|exact H
 have Mw:=ia.mk Ej;clear Ej
 by_cases c2:Ue.length + Ua.length < 17592186044416
 ·rw [if_pos c2] at H;have Z3:=ia.mk c2;clear c2;obtain ⟨sg,Rm⟩:∃ y_:List Int,y_=(Ue ++ Ua):=⟨_,rfl⟩;replace H:(Zd.l0 k 0 Ua Ja La Pa Qa sg Ja La Pa (([]:List (lf))))=some (r1,r2,r3,r4,r5):=by first|(rw [Rm];with_reducible exact H)|(have lg:=(Option.bind_some _ _).symm.trans H;rw [Rm];with_reducible exact lg)|(have lg:=(Option.bind_some _ _).symm.trans H;with_reducible exact lg)|with_reducible exact H|(rw [Rm];exact H)|exact H
  have EG:=ia.mk Rm;clear Rm;obtain ⟨EN,AF⟩:∃ y_:List (lf),y_=(([]:List (lf))):=⟨_,rfl⟩;replace H:(Zd.l0 k 0 Ua Ja La Pa Qa sg Ja La Pa EN)=some (r1,r2,r3,r4,r5):=by first|(rw [AF];with_reducible exact H)|(have lg:=(Option.bind_some _ _).symm.trans H;rw [AF];with_reducible exact lg)|(have lg:=(Option.bind_some _ _).symm.trans H;with_reducible exact lg)|with_reducible exact H|(rw [AF];exact H)|exact H
  have fY:=ia.mk AF;clear AF;have H':=ia.mk H;clear H;go_enter Try.func65,Try.ntmps65;go_wp2_with (first|((with_reducible refine Ib (N:=1) rfl ?_);refine Gb ?hg (N:=1) ?hd (cs:=#[.slice zb Ua.length yb,.int .i64 Ja,.int .i64 La,.int .i64 Pa,.slice Yb Qa.length Nb]) (t:=30) ?hr ?_;(case hd=>rfl);(case hg=>rfl);(case hr=>first|(go_simp;done)|(go_simp;rfl));intro Da hg w3 Vb hb;have Kb:=ia.mk (Ra (by repeat (first|(with_reducible first|exact HB.out|apply ta|apply ja|apply ua)|exact HB.out)) hb);have Ub:=ia.mk (Vb);have qc:=ia.mk ((by rw [hg];exact (Sa (by repeat (first|(with_reducible first|exact HB.out|apply ta|apply ja|apply ua)|exact HB.out))):w.heap.size ≤ Da));have Rc:=ia.mk ((by rw [hg];exact (Sa (by repeat (first|(with_reducible first|exact HB.out|apply ta|apply ja|apply ua)|exact HB.out))):w.heap.size ≤ Da));clear HB;have HB:=Kb;have qa:=Ub;have De:=qc;have Wa:=Rc;clear Kb Ub qc Rc hb Vb hg)|((with_reducible refine Ib (N:=2) rfl ?_);refine Gb ?hg (N:=2) ?hd (cs:=#[.slice none 0 0,.int .i64 0,.int .i64 0,.int .i64 0,.slice none 0 0]) (t:=30) ?hr ?_;(case hd=>rfl);(case hg=>rfl);(case hr=>first|(go_simp;done)|(go_simp;rfl));intro Ga hg w4 Vb hb;have Kb:=ia.mk (Ta (g:=Da) (o:=.cells #[.slice zb Ua.length yb,.int .i64 Ja,.int .i64 La,.int .i64 Pa,.slice Yb Qa.length Nb] 30 (0,0)) (by (with_reducible repeat (first|refine za ?_ _|refine Ca ?_|refine ya ?_ _));exact qa.out) hb);have Ub:=ia.mk (Ra (by repeat (first|(with_reducible first|exact HB.out|apply ta|apply ja|apply ua|refine Aa ?_ Wa.out)|exact HB.out)) hb);have qc:=ia.mk (Vb);have Rc:=ia.mk ((by rw [hg];exact (Sa (by repeat (first|(with_reducible first|exact HB.out|apply ta|apply ja|apply ua|refine Aa ?_ Wa.out)|exact HB.out))):w.heap.size ≤ Ga));have Ce:=ia.mk ((by rw [hg];exact (Sa (by repeat (first|(with_reducible first|exact HB.out|apply ta|apply ja|apply ua|refine Aa ?_ Wa.out)|exact HB.out))):w.heap.size ≤ Ga));have Qe:=ia.mk ((by rw [hg];exact Nat.ne_of_lt (jc (g:=Da) (o:=.cells #[.slice zb Ua.length yb,.int .i64 Ja,.int .i64 La,.int .i64 Pa,.slice Yb Qa.length Nb] 30 (0,0)) (by (with_reducible repeat (first|refine za ?_ _|refine Ca ?_|refine ya ?_ _));exact qa.out)):Da ≠ Ga));have qg:=ia.mk ((by rw [hg];exact Nat.ne_of_gt (jc (g:=Da) (o:=.cells #[.slice zb Ua.length yb,.int .i64 Ja,.int .i64 La,.int .i64 Pa,.slice Yb Qa.length Nb] 30 (0,0)) (by (with_reducible repeat (first|refine za ?_ _|refine Ca ?_|refine ya ?_ _));exact qa.out)):Ga ≠ Da));clear qa HB;have qa:=Kb;have HB:=Ub;have Ba:=qc;have Tf:=Rc;have Jb:=Ce;have Xa:=Qe;have Va:=qg;clear Kb Ub qc Rc Ce Qe qg hb Vb hg;have X7:=Xa.out;have G7:=Va.out;have Vt:w4.cell? ⟨Da,0,none⟩=some (.slice zb Ua.length yb):=(ga qa.out 0).trans rfl;have Ut:w4.cell? ⟨Da,1,none⟩=some (.int .i64 Ja):=(ga qa.out 1).trans rfl;have Tt:w4.cell? ⟨Da,2,none⟩=some (.int .i64 La):=(ga qa.out 2).trans rfl;have St:w4.cell? ⟨Da,3,none⟩=some (.int .i64 Pa):=(ga qa.out 3).trans rfl;have Rt:w4.cell? ⟨Da,4,none⟩=some (.slice Yb Qa.length Nb):=(ga qa.out 4).trans rfl;have Qt:=aa qa.out 0;have Pt:=aa qa.out 1;have Ot:=aa qa.out 2;have Nt:=aa qa.out 3;have Mt:=aa qa.out 4)|((with_reducible refine Ib (N:=3) rfl ?_);refine Gb ?hg (N:=3) ?hd (cs:=#[.slice none 0 0,.int .i64 0,.int .i64 0,.int .i64 0,.slice none 0 0]) (t:=30) ?hr ?_;(case hd=>rfl);(case hg=>rfl);(case hr=>first|(go_simp;done)|(go_simp;rfl));intro Xb hg w7 Vb hb;have Kb:=ia.mk (Ta (g:=Da) (o:=.cells #[.slice zb Ua.length yb,.int .i64 Ja,.int .i64 La,.int .i64 Pa,.slice Yb Qa.length Nb] 30 (0,0)) (by (with_reducible repeat (first|refine za ?_ _|refine Ca ?_|refine ya ?_ _));exact qa.out) hb);have Ub:=ia.mk (Ta (g:=Ga) (o:=.cells #[.slice none 0 0,.int .i64 0,.int .i64 0,.int .i64 0,.slice none 0 0] 30 (0,0)) (by (with_reducible repeat (first|refine za ?_ _|refine Ca ?_|refine ya ?_ _));exact Ba.out) hb);have qc:=ia.mk (Ra (by repeat (first|(with_reducible first|exact HB.out|apply ta|apply ja|apply ua|refine Aa ?_ Wa.out|refine Aa ?_ Jb.out)|exact HB.out)) hb);have Rc:=ia.mk (Vb);have Ce:=ia.mk ((by rw [hg];exact (Sa (by repeat (first|(with_reducible first|exact HB.out|apply ta|apply ja|apply ua|refine Aa ?_ Wa.out|refine Aa ?_ Jb.out)|exact HB.out))):w.heap.size ≤ Xb));have Qe:=ia.mk ((by rw [hg];exact (Sa (by repeat (first|(with_reducible first|exact HB.out|apply ta|apply ja|apply ua|refine Aa ?_ Wa.out|refine Aa ?_ Jb.out)|exact HB.out))):w.heap.size ≤ Xb));have qg:=ia.mk ((by rw [hg];exact Nat.ne_of_lt (jc (g:=Da) (o:=.cells #[.slice zb Ua.length yb,.int .i64 Ja,.int .i64 La,.int .i64 Pa,.slice Yb Qa.length Nb] 30 (0,0)) (by (with_reducible repeat (first|refine za ?_ _|refine Ca ?_|refine ya ?_ _));exact qa.out)):Da ≠ Xb));have Ap:=ia.mk ((by rw [hg];exact Nat.ne_of_gt (jc (g:=Da) (o:=.cells #[.slice zb Ua.length yb,.int .i64 Ja,.int .i64 La,.int .i64 Pa,.slice Yb Qa.length Nb] 30 (0,0)) (by (with_reducible repeat (first|refine za ?_ _|refine Ca ?_|refine ya ?_ _));exact qa.out)):Xb ≠ Da));have aA:=ia.mk ((by rw [hg];exact Nat.ne_of_lt (jc (g:=Ga) (o:=.cells #[.slice none 0 0,.int .i64 0,.int .i64 0,.int .i64 0,.slice none 0 0] 30 (0,0)) (by (with_reducible repeat (first|refine za ?_ _|refine Ca ?_|refine ya ?_ _));exact Ba.out)):Ga ≠ Xb));have Zz:=ia.mk ((by rw [hg];exact Nat.ne_of_gt (jc (g:=Ga) (o:=.cells #[.slice none 0 0,.int .i64 0,.int .i64 0,.int .i64 0,.slice none 0 0] 30 (0,0)) (by (with_reducible repeat (first|refine za ?_ _|refine Ca ?_|refine ya ?_ _));exact Ba.out)):Xb ≠ Ga));clear qa Ba HB;have qa:=Kb;have Ba:=Ub;have HB:=qc;have xb:=Rc;have cM:=Ce;have Uf:=Qe;have Wd:=qg;have Jh:=Ap;have Xc:=aA;have Ih:=Zz;clear Kb Ub qc Rc Ce Qe qg Ap aA Zz hb Vb hg;have YZ:=Jh.out;have WZ:=Wd.out;have XZ:=Ih.out;have VZ:=Xc.out;have Xj:w7.cell? ⟨Xb,0,none⟩=some (.slice none 0 0):=(ga xb.out 0).trans rfl;have Wj:w7.cell? ⟨Xb,1,none⟩=some (.int .i64 0):=(ga xb.out 1).trans rfl;have Vj:w7.cell? ⟨Xb,2,none⟩=some (.int .i64 0):=(ga xb.out 2).trans rfl;have Uj:w7.cell? ⟨Xb,3,none⟩=some (.int .i64 0):=(ga xb.out 3).trans rfl;have Tj:w7.cell? ⟨Xb,4,none⟩=some (.slice none 0 0):=(ga xb.out 4).trans rfl;have Sj:=aa xb.out 0;have Rj:=aa xb.out 1;have Qj:=aa xb.out 2;have Pj:=aa xb.out 3;have Oj:=aa xb.out 4)|((with_reducible refine Ib (N:=7) rfl ?_);refine Kd.Dt (Kd.int .i64) _ 3 ?hg (N:=7) ?hd (xs:=([]:List Int)) (inner:=[]) (ok:=fun _=>True) (zk:=fun _=>True) ?hr ?hp (fun _ hk=>hk) trivial (Below.refl _ _) (Nat.le_refl _) (by simp) ?_;(case hd=>rfl);(case hg=>rfl);(case hr=>first|(go_simp;done)|(go_simp;rfl));(case hp=>exact (af.none _ _));intro lM Ki iA hb jA Fj;clear jA Fj;(first|rw [← Mw.out] at iA|(simp only [Int.reduceToNat] at iA;rw [← Mw.out] at iA));have Kb:=ia.mk (Kd.xh iA (Sa (by repeat (first|(with_reducible first|exact HB.out|apply ta|apply ja|apply ua|refine Aa ?_ Wa.out|refine Aa ?_ Jb.out|refine Aa ?_ Uf.out)|exact HB.out))));have Ub:=ia.mk (Ta (g:=Da) (o:=.cells #[.slice zb Ua.length yb,.int .i64 Ja,.int .i64 La,.int .i64 Pa,.slice Yb Qa.length Nb] 30 (0,0)) (by (with_reducible repeat (first|refine za ?_ _|refine Ca ?_|refine ya ?_ _));refine Bb ?_ Wd.out _;(with_reducible repeat (first|refine za ?_ _|refine Ca ?_|refine ya ?_ _));refine Bb ?_ Wd.out _;(with_reducible repeat (first|refine za ?_ _|refine Ca ?_|refine ya ?_ _));refine Bb ?_ Wd.out _;(with_reducible repeat (first|refine za ?_ _|refine Ca ?_|refine ya ?_ _));refine Bb ?_ Wd.out _;(with_reducible repeat (first|refine za ?_ _|refine Ca ?_|refine ya ?_ _));refine Bb ?_ Wd.out _;(with_reducible repeat (first|refine za ?_ _|refine Ca ?_|refine ya ?_ _));exact qa.out) hb);have qc:=ia.mk (Ta (g:=Ga) (o:=.cells #[.slice none 0 0,.int .i64 0,.int .i64 0,.int .i64 0,.slice none 0 0] 30 (0,0)) (by (with_reducible repeat (first|refine za ?_ _|refine Ca ?_|refine ya ?_ _));refine Bb ?_ Xc.out _;(with_reducible repeat (first|refine za ?_ _|refine Ca ?_|refine ya ?_ _));refine Bb ?_ Xc.out _;(with_reducible repeat (first|refine za ?_ _|refine Ca ?_|refine ya ?_ _));refine Bb ?_ Xc.out _;(with_reducible repeat (first|refine za ?_ _|refine Ca ?_|refine ya ?_ _));refine Bb ?_ Xc.out _;(with_reducible repeat (first|refine za ?_ _|refine Ca ?_|refine ya ?_ _));refine Bb ?_ Xc.out _;(with_reducible repeat (first|refine za ?_ _|refine Ca ?_|refine ya ?_ _));exact Ba.out) hb);have Rc:=ia.mk (Ta (g:=Xb) (o:=.cells #[.slice zb Ua.length yb,.int .i64 Ja,.int .i64 La,.int .i64 Pa,.slice Yb Qa.length Nb] 30 (0,0)) (by (with_reducible repeat (first|refine za ?_ _|refine Ca ?_|refine ya ?_ _));refine jb (cs:=#[.slice zb Ua.length yb,.int .i64 Ja,.int .i64 La,.int .i64 Pa,.slice none 0 0]) ?_ 4 _ rfl;(with_reducible repeat (first|refine za ?_ _|refine Ca ?_|refine ya ?_ _));refine jb (cs:=#[.slice zb Ua.length yb,.int .i64 Ja,.int .i64 La,.int .i64 0,.slice none 0 0]) ?_ 3 _ rfl;(with_reducible repeat (first|refine za ?_ _|refine Ca ?_|refine ya ?_ _));refine jb (cs:=#[.slice zb Ua.length yb,.int .i64 Ja,.int .i64 0,.int .i64 0,.slice none 0 0]) ?_ 2 _ rfl;(with_reducible repeat (first|refine za ?_ _|refine Ca ?_|refine ya ?_ _));refine jb (cs:=#[.slice zb Ua.length yb,.int .i64 0,.int .i64 0,.int .i64 0,.slice none 0 0]) ?_ 1 _ rfl;(with_reducible repeat (first|refine za ?_ _|refine Ca ?_|refine ya ?_ _));refine jb (cs:=#[.slice none 0 0,.int .i64 0,.int .i64 0,.int .i64 0,.slice none 0 0]) ?_ 0 _ rfl;(with_reducible repeat (first|refine za ?_ _|refine Ca ?_|refine ya ?_ _));exact xb.out) hb);have Ce:=ia.mk (Ra (by repeat (first|(with_reducible first|exact HB.out|apply ta|apply ja|apply ua|refine Aa ?_ Wa.out|refine Aa ?_ Jb.out|refine Aa ?_ Uf.out)|exact HB.out)) hb);clear qa Ba xb HB;have ek:=Kb;have qa:=Ub;have Ba:=qc;have xb:=Rc;have HB:=Ce;clear Kb Ub qc Rc Ce hb iA;have Fm:Ki.cell? ⟨Da,0,none⟩=some (.slice zb Ua.length yb):=(ga qa.out 0).trans rfl;have Em:Ki.cell? ⟨Da,1,none⟩=some (.int .i64 Ja):=(ga qa.out 1).trans rfl;have Dm:Ki.cell? ⟨Da,2,none⟩=some (.int .i64 La):=(ga qa.out 2).trans rfl;have Cm:Ki.cell? ⟨Da,3,none⟩=some (.int .i64 Pa):=(ga qa.out 3).trans rfl;have Bm:Ki.cell? ⟨Da,4,none⟩=some (.slice Yb Qa.length Nb):=(ga qa.out 4).trans rfl;have vm:=aa qa.out 0;have um:=aa qa.out 1;have rm:=aa qa.out 2;have qm:=aa qa.out 3;have om:=aa qa.out 4)|((with_reducible refine Ui (b:=.append) (xs:=#[.tmp 7,.tmp 9]) rfl ?_);at_builtin;refine Kd.Im (Kd.int .i64) (w0:=w) w.heap.size rfl (.tmp 7) (.tmp 9) 22 3 (.int .i64 0) 8 rfl Try.underlying22 info3 rfl (by decide) (by omega) lM Ue Ua _ _ _ (fun _=>True) (fun _=>False) rfl rfl ?aO ?aR (fun _ _ h=>h) (fun _ h=>h.elim) ?aF ?aB ?aS ?aL ?_;(case aR=>repeat (first|exact (Kd.Lb kg.out HB.out)|(with_reducible refine Kd.Gc ?_ _)|(with_reducible refine Kd.Fc ?_ _)|(with_reducible refine Kd.xd ?_)));(case aB=>exact (by repeat (first|(with_reducible first|exact HB.out|apply ta|apply ja|apply ua|refine Aa ?_ Wa.out|refine Aa ?_ Jb.out|refine Aa ?_ Uf.out)|exact HB.out)));(case aF=>exact (fun _ _=>trivial));(case aO=>exact (by (with_reducible repeat (first|apply Kd.Tb|apply Kd.Sb|apply Kd.fc));exact ek.out));(case aS=>exact (Sa (by repeat (first|(with_reducible first|exact HB.out|apply ta|apply ja|apply ua|refine Aa ?_ Wa.out|refine Aa ?_ Jb.out|refine Aa ?_ Uf.out)|exact HB.out))));(case aL=>have:=Z3.out;omega);intro K6 Ns ho hb hg hat;rw [← EG.out] at ho;have Kb:=ia.mk (Oc (g:=Da) (o:=.cells #[.slice zb Ua.length yb,.int .i64 Ja,.int .i64 La,.int .i64 Pa,.slice Yb Qa.length Nb] 30 (0,0)) (by (with_reducible repeat (first|refine za ?_ _|refine Ca ?_|refine ya ?_ _));exact qa.out) hg (Kd.Ol ek.out qa.out (by decide)));have Ub:=ia.mk (Oc (g:=Ga) (o:=.cells #[.slice none 0 0,.int .i64 0,.int .i64 0,.int .i64 0,.slice none 0 0] 30 (0,0)) (by (with_reducible repeat (first|refine za ?_ _|refine Ca ?_|refine ya ?_ _));exact Ba.out) hg (Kd.Ol ek.out Ba.out (by decide)));have qc:=ia.mk (Oc (g:=Xb) (o:=.cells #[.slice zb Ua.length yb,.int .i64 Ja,.int .i64 La,.int .i64 Pa,.slice Yb Qa.length Nb] 30 (0,0)) (by (with_reducible repeat (first|refine za ?_ _|refine Ca ?_|refine ya ?_ _));exact xb.out) hg (Kd.Ol ek.out xb.out (by decide)));have Rc:=ia.mk (hb);have Ce:=ia.mk (ho);clear qa Ba xb HB ek;have qa:=Kb;have Ba:=Ub;have xb:=qc;have HB:=Rc;have Qq:=Ce;clear Kb Ub qc Rc Ce ho hb hg hat;obtain ⟨Gh,Dh,F2⟩:=Kd.Oe Qq.out;subst F2;have gq:Ns.cell? ⟨Xb,0,none⟩=some (.slice zb Ua.length yb):=(ga xb.out 0).trans rfl;have fq:Ns.cell? ⟨Xb,1,none⟩=some (.int .i64 Ja):=(ga xb.out 1).trans rfl;have cq:Ns.cell? ⟨Xb,2,none⟩=some (.int .i64 La):=(ga xb.out 2).trans rfl;have bq:Ns.cell? ⟨Xb,3,none⟩=some (.int .i64 Pa):=(ga xb.out 3).trans rfl;have aq:Ns.cell? ⟨Xb,4,none⟩=some (.slice Yb Qa.length Nb):=(ga xb.out 4).trans rfl;have Zp:=aa xb.out 0;have Yp:=aa xb.out 1;have Xp:=aa xb.out 2;have Wp:=aa xb.out 3;have Vp:=aa xb.out 4)|((with_reducible refine Ib (N:=12) rfl ?_);refine Kd.Paf Ok _ 68 ?hg (N:=12) ?hd (xs:=([]:List (lf))) (inner:=[]) (ok:=fun _=>True) (zk:=fun _=>True) ?hr ?hp (fun _ hk=>hk) trivial (Below.refl _ _) (Nat.le_refl _) (by simp) ?_;(case hd=>rfl);(case hg=>rfl);(case hr=>first|(go_simp;done)|(go_simp;rfl));(case hp=>exact (af.none _ _));intro tay Kp FO hb jA Fj;clear jA Fj;(first|rw [← fY.out] at FO|(simp only [Int.reduceToNat] at FO;rw [← fY.out] at FO));have Kb:=ia.mk (Kd.Dc (by (with_reducible repeat (first|apply Kd.Tb|apply Kd.Sb|apply Kd.fc));exact (Kd.Tc (Kd.Eb (p:=⟨Xb,0,none⟩) (Kd.fe Qq.out xb.out (by decide)) (fun _ hk=>hk.2) (.slice Gh sg.length Dh)) (fun _ h_=>h_.1))) hb);have Ub:=ia.mk (Kd.Hs FO (Sa (by repeat (first|(with_reducible first|exact HB.out|apply ta|apply ja|apply ua|refine Aa ?_ Wa.out|refine Aa ?_ Jb.out|refine Aa ?_ Uf.out)|exact HB.out))));have qc:=ia.mk (Ta (g:=Da) (o:=.cells #[.slice zb Ua.length yb,.int .i64 Ja,.int .i64 La,.int .i64 Pa,.slice Yb Qa.length Nb] 30 (0,0)) (by (with_reducible repeat (first|refine za ?_ _|refine Ca ?_|refine ya ?_ _));refine Bb ?_ Wd.out _;(with_reducible repeat (first|refine za ?_ _|refine Ca ?_|refine ya ?_ _));exact qa.out) hb);have Rc:=ia.mk (Ta (g:=Ga) (o:=.cells #[.slice none 0 0,.int .i64 0,.int .i64 0,.int .i64 0,.slice none 0 0] 30 (0,0)) (by (with_reducible repeat (first|refine za ?_ _|refine Ca ?_|refine ya ?_ _));refine Bb ?_ Xc.out _;(with_reducible repeat (first|refine za ?_ _|refine Ca ?_|refine ya ?_ _));exact Ba.out) hb);have Ce:=ia.mk (Ta (g:=Xb) (o:=.cells #[.slice Gh sg.length Dh,.int .i64 Ja,.int .i64 La,.int .i64 Pa,.slice Yb Qa.length Nb] 30 (0,0)) (by (with_reducible repeat (first|refine za ?_ _|refine Ca ?_|refine ya ?_ _));refine jb (cs:=#[.slice zb Ua.length yb,.int .i64 Ja,.int .i64 La,.int .i64 Pa,.slice Yb Qa.length Nb]) ?_ 0 _ rfl;(with_reducible repeat (first|refine za ?_ _|refine Ca ?_|refine ya ?_ _));exact xb.out) hb);have Qe:=ia.mk (Ra (by repeat (first|(with_reducible first|exact HB.out|apply ta|apply ja|apply ua|refine Aa ?_ Wa.out|refine Aa ?_ Jb.out|refine Aa ?_ Uf.out)|exact HB.out)) hb);clear Qq qa Ba xb HB;have Qq:=Kb;have JY:=Ub;have qa:=qc;have Ba:=Rc;have xb:=Ce;have HB:=Qe;clear Kb Ub qc Rc Ce Qe hb FO;obtain ⟨N5,P2,Rar⟩:=Kd.Gi JY.out;subst Rar;have UD:Kp.cell? ⟨Xb,0,none⟩=some (.slice Gh sg.length Dh):=(ga xb.out 0).trans rfl;have TD:Kp.cell? ⟨Xb,1,none⟩=some (.int .i64 Ja):=(ga xb.out 1).trans rfl;have SD:Kp.cell? ⟨Xb,2,none⟩=some (.int .i64 La):=(ga xb.out 2).trans rfl;have RD:Kp.cell? ⟨Xb,3,none⟩=some (.int .i64 Pa):=(ga xb.out 3).trans rfl;have QD:Kp.cell? ⟨Xb,4,none⟩=some (.slice Yb Qa.length Nb):=(ga xb.out 4).trans rfl;have WC:=aa xb.out 0;have VC:=aa xb.out 1;have UC:=aa xb.out 2;have TC:=aa xb.out 3;have SC:=aa xb.out 4))
  go_loopg [4] k (fun kq v4 w'=>∃ (Pb:Int) (Be:List (lf)) (Ve:Value),v4 = .int .i64 Pb∧ia (Zd.l0 kq Pb Ua Ja La Pa Qa sg Ja La Pa Be=some (r1,r2,r3,r4,r5))∧ia (kq ≤ k)∧ia (Kd.R (Kd.int .i64) 3 w' w.heap.size (fun _=>True) (.slice Gh sg.length Dh) sg)∧ia (Kd.S Ok 68 w' w.heap.size (fun _=>True) Ve Be)∧ia (w'.heap[Da]? = some (.cells #[(.slice zb Ua.length yb),.int .i64 Ja,.int .i64 La,.int .i64 Pa,(.slice Yb Qa.length Nb)] 30 (0,0)))∧ia (w'.heap[Ga]? = some (.cells #[(.slice none 0 0),.int .i64 0,.int .i64 0,.int .i64 0,(.slice none 0 0)] 30 (0,0)))∧ia (w'.heap[Xb]? = some (.cells #[(.slice Gh sg.length Dh),.int .i64 Ja,.int .i64 La,.int .i64 Pa,Ve] 30 (0,0)))∧ia (Below w.heap.size w w'))
  case atStart=>exact ⟨(0),(EN),(.slice N5 EN.length P2),(by first|rfl|(simp;done)|(simp [*];done)),H',⟨Nat.le_refl _⟩,⟨by (with_reducible repeat (first|apply Kd.Tb|apply Kd.Sb|apply Kd.fc));exact Kd.Tc (Kd.Eb (p:=⟨Xb,4,none⟩) (Kd.fe Qq.out xb.out (by decide)) (fun _ hk=>hk.2) (.slice N5 EN.length P2)) (fun _ hk=>trivial)⟩,⟨by (with_reducible repeat (first|apply Kd.Ug|apply Kd.Tg|apply Kd.uh));exact Kd.xg (Kd.Rh (p:=⟨Xb,4,none⟩) (Kd.Vo JY.out xb.out (by decide)) (fun _ hk=>hk.2) (.slice N5 EN.length P2)) (fun _ hk=>trivial)⟩,⟨by (with_reducible repeat (first|refine za ?_ _|refine Ca ?_|refine ya ?_ _));refine Bb ?_ Wd.out _;(with_reducible repeat (first|refine za ?_ _|refine Ca ?_|refine ya ?_ _));exact qa.out⟩,⟨by (with_reducible repeat (first|refine za ?_ _|refine Ca ?_|refine ya ?_ _));refine Bb ?_ Xc.out _;(with_reducible repeat (first|refine za ?_ _|refine Ca ?_|refine ya ?_ _));exact Ba.out⟩,⟨by (with_reducible repeat (first|refine za ?_ _|refine Ca ?_|refine ya ?_ _));refine jb (cs:=#[.slice Gh sg.length Dh,.int .i64 Ja,.int .i64 La,.int .i64 Pa,.slice Yb Qa.length Nb]) ?_ 4 _ rfl;(with_reducible repeat (first|refine za ?_ _|refine Ca ?_|refine ya ?_ _));exact xb.out⟩,⟨by repeat (first|(with_reducible first|exact HB.out|apply ta|apply ja|apply ua|refine Aa ?_ Wa.out|refine Aa ?_ Jb.out|refine Aa ?_ Uf.out)|exact HB.out)⟩⟩
  case round =>
   clear H'
   try clear c2
   try clear p2
   try clear c5
   try clear c6
   try clear c8
   try clear c9
   try clear Xj
   try clear Wj
   try clear Vj
   try clear Uj
   try clear Tj
   try clear Fm
   try clear Em
   try clear Dm
   try clear Cm
   try clear Bm
   try clear gq
   try clear fq
   try clear cq
   try clear bq
   try clear aq
   try clear UD
   try clear TD
   try clear SD
   try clear RD
   try clear QD
   try clear Vt
   try clear Ut
   try clear Tt
   try clear St
   try clear Rt
   try clear Sj
   try clear Rj
   try clear Qj
   try clear Pj
   try clear Oj
   try clear vm
   try clear um
   try clear rm
   try clear qm
   try clear om
   try clear Zp
   try clear Yp
   try clear Xp
   try clear Wp
   try clear Vp
   try clear WC
   try clear VC
   try clear UC
   try clear TC
   try clear SC
   try clear Qt
   try clear Pt
   try clear Ot
   try clear Nt
   try clear Mt
   (try clear HA);(try clear Wh);(try clear Cd);(try clear Pc);(try clear qa);(try clear Ba);(try clear xb);(try clear HB);obtain ⟨Pb,Be,Ve,rfl,HA,Wh,Cd,Pc,qa,Ba,xb,HB⟩:=hrel;cases gk with
   | zero=>exact absurd HA.out (by simp [Zd.l0])
   | succ k1 =>
    have H:=HA.out;clear HA;simp only [Zd.l0] at H
    by_cases yt:Pb < (Qa.length:Int)
    ·rw [if_pos yt] at H;have SB:decide (Pb < (Qa.length:Int))=true:=decide_eq_true yt;clear yt
     by_cases lW:0 ≤ Pb
     ·rw [if_pos lW] at H;have rax:decide (0 ≤ Pb)=true:=decide_eq_true lW;clear lW;obtain ⟨Pk,Pm⟩:∃ y_:List (ue),y_=(([]:List (ue))):=⟨_,rfl⟩;replace H:(if Pk.length + ((Oa Qa Pb).f0).length < 2199023255552 then (if Be.length < 2513169434916 then (Zd.l0 k1 (wrap64 (Pb + 1)) Ua Ja La Pa Qa sg Ja La Pa (Be ++ [(⟨(Pk ++ ((Oa Qa Pb).f0)),(Oa Qa Pb).f1,(Oa Qa Pb).f2,(Oa Qa Pb).f3,(Oa Qa Pb).f4⟩:lf)])) else (none)) else (none))=some (r1,r2,r3,r4,r5):=by first|(rw [Pm];with_reducible exact H)|(have lg:=(Option.bind_some _ _).symm.trans H;rw [Pm];with_reducible exact lg)|(have lg:=(Option.bind_some _ _).symm.trans H;with_reducible exact lg)|with_reducible exact H|(rw [Pm];exact H)|exact H
      have UB:=ia.mk Pm;clear Pm
      by_cases gI:Pk.length + ((Oa Qa Pb).f0).length < 2199023255552
      ·rw [if_pos gI] at H;have aag:=ia.mk gI;clear gI;obtain ⟨Km,Om⟩:∃ y_:List (ue),y_=(Pk ++ ((Oa Qa Pb).f0)):=⟨_,rfl⟩;replace H:(if Be.length < 2513169434916 then (Zd.l0 k1 (wrap64 (Pb + 1)) Ua Ja La Pa Qa sg Ja La Pa (Be ++ [(⟨Km,(Oa Qa Pb).f1,(Oa Qa Pb).f2,(Oa Qa Pb).f3,(Oa Qa Pb).f4⟩:lf)])) else (none))=some (r1,r2,r3,r4,r5):=by first|(rw [Om];with_reducible exact H)|(have lg:=(Option.bind_some _ _).symm.trans H;rw [Om];with_reducible exact lg)|(have lg:=(Option.bind_some _ _).symm.trans H;with_reducible exact lg)|with_reducible exact H|(rw [Om];exact H)|exact H
       have DG:=ia.mk Om;clear Om
       by_cases U5:Be.length < 2513169434916
       ·rw [if_pos U5] at H;have Zaf:=ia.mk U5;clear U5;obtain ⟨DN,xF⟩:∃ y_:List (lf),y_=(Be ++ [(⟨Km,(Oa Qa Pb).f1,(Oa Qa Pb).f2,(Oa Qa Pb).f3,(Oa Qa Pb).f4⟩:lf)]):=⟨_,rfl⟩;replace H:(Zd.l0 k1 (wrap64 (Pb + 1)) Ua Ja La Pa Qa sg Ja La Pa DN)=some (r1,r2,r3,r4,r5):=by first|(rw [xF];with_reducible exact H)|(have lg:=(Option.bind_some _ _).symm.trans H;rw [xF];with_reducible exact lg)|(have lg:=(Option.bind_some _ _).symm.trans H;with_reducible exact lg)|with_reducible exact H|(rw [xF];exact H)|exact H
        have Taf:=ia.mk xF;clear xF;have H':=ia.mk H;clear H;have PO:=Xa.out;have MO:=Va.out;have jX:=Wd.out;have eX:=Jh.out;have Sr:wr.cell? ⟨Da,0,none⟩=some (.slice zb Ua.length yb):=(ga qa.out 0).trans rfl;have Qr:wr.cell? ⟨Da,1,none⟩=some (.int .i64 Ja):=(ga qa.out 1).trans rfl;have Pr:wr.cell? ⟨Da,2,none⟩=some (.int .i64 La):=(ga qa.out 2).trans rfl;have Nr:wr.cell? ⟨Da,3,none⟩=some (.int .i64 Pa):=(ga qa.out 3).trans rfl;have Mr:wr.cell? ⟨Da,4,none⟩=some (.slice Yb Qa.length Nb):=(ga qa.out 4).trans rfl;have nr:=aa qa.out 0;have kr:=aa qa.out 1;have jr:=aa qa.out 2;have ir:=aa qa.out 3;have gr:=aa qa.out 4;have rZ:0 ≤ (Pb:Int):=of_decide_eq_true (by first|(with_reducible assumption)|assumption);have oZ:Pb < (Qa.length:Int):=of_decide_eq_true (by first|(with_reducible assumption)|assumption);obtain ⟨PA,Qn,Jn,Xar,bJ,aJ,ZI,YI,XI,cJ,dJ⟩:=wg Sh.out Pb rZ oZ;cases Xar;replace bJ:=Ea HB.out bJ;replace aJ:=Ea HB.out aJ;replace ZI:=Ea HB.out ZI;replace YI:=Ea HB.out YI;replace XI:=Ea HB.out XI;have IW:=ia.mk dJ;have Lao:=ia.mk cJ;clear dJ cJ;replace rZ:=eq_true rZ;replace oZ:=eq_true oZ;go_wp2_with (first|((with_reducible refine Ib (N:=5) rfl ?_);refine Gb ?hg (N:=5) ?hd (cs:=#[.slice none 0 0,.int .i64 0,.int .i64 0,.int .i64 0,.int .i64 0]) (t:=68) ?hr ?_;(case hd=>rfl);(case hg=>rfl);(case hr=>first|(go_simp;done)|(go_simp;rfl));intro yf hg Vw Vb hb;have Kb:=ia.mk (Kd.Dc (by (with_reducible repeat (first|apply Kd.Tb|apply Kd.Sb|apply Kd.fc));exact Cd.out) hb);have Ub:=ia.mk (Kd.ee (Kd.xG (by (with_reducible repeat (first|apply Kd.Ug|apply Kd.Tg|apply Kd.uh));exact Pc.out) yf (Nat.le_of_eq hg.symm)) hb);have qc:=ia.mk (Ta (g:=Da) (o:=.cells #[.slice zb Ua.length yb,.int .i64 Ja,.int .i64 La,.int .i64 Pa,.slice (some PA) Qa.length Nb] 30 (0,0)) (by (with_reducible repeat (first|refine za ?_ _|refine Ca ?_|refine ya ?_ _));exact qa.out) hb);have Rc:=ia.mk (Ta (g:=Ga) (o:=.cells #[.slice none 0 0,.int .i64 0,.int .i64 0,.int .i64 0,.slice none 0 0] 30 (0,0)) (by (with_reducible repeat (first|refine za ?_ _|refine Ca ?_|refine ya ?_ _));exact Ba.out) hb);have Ce:=ia.mk (Ta (g:=Xb) (o:=.cells #[.slice Gh sg.length Dh,.int .i64 Ja,.int .i64 La,.int .i64 Pa,Ve] 30 (0,0)) (by (with_reducible repeat (first|refine za ?_ _|refine Ca ?_|refine ya ?_ _));exact xb.out) hb);have Qe:=ia.mk (Ra (by repeat (first|(with_reducible first|exact HB.out|apply ta|apply ja|apply ua|refine Aa ?_ Wa.out|refine Aa ?_ Jb.out|refine Aa ?_ Uf.out)|exact HB.out)) hb);have qg:=ia.mk (Vb);have Ap:=ia.mk ((by rw [hg];exact (Sa (by repeat (first|(with_reducible first|exact HB.out|apply ta|apply ja|apply ua|refine Aa ?_ Wa.out|refine Aa ?_ Jb.out|refine Aa ?_ Uf.out)|exact HB.out))):w.heap.size ≤ yf));have aA:=ia.mk ((by rw [hg];exact (Sa (by repeat (first|(with_reducible first|exact HB.out|apply ta|apply ja|apply ua|refine Aa ?_ Wa.out|refine Aa ?_ Jb.out|refine Aa ?_ Uf.out)|exact HB.out))):w.heap.size ≤ yf));have Zz:=ia.mk ((by rw [hg];exact Nat.ne_of_lt (jc (g:=Da) (o:=.cells #[.slice zb Ua.length yb,.int .i64 Ja,.int .i64 La,.int .i64 Pa,.slice (some PA) Qa.length Nb] 30 (0,0)) (by (with_reducible repeat (first|refine za ?_ _|refine Ca ?_|refine ya ?_ _));exact qa.out)):Da ≠ yf));have kO:=ia.mk ((by rw [hg];exact Nat.ne_of_gt (jc (g:=Da) (o:=.cells #[.slice zb Ua.length yb,.int .i64 Ja,.int .i64 La,.int .i64 Pa,.slice (some PA) Qa.length Nb] 30 (0,0)) (by (with_reducible repeat (first|refine za ?_ _|refine Ca ?_|refine ya ?_ _));exact qa.out)):yf ≠ Da));have jO:=ia.mk ((by rw [hg];exact Nat.ne_of_lt (jc (g:=Ga) (o:=.cells #[.slice none 0 0,.int .i64 0,.int .i64 0,.int .i64 0,.slice none 0 0] 30 (0,0)) (by (with_reducible repeat (first|refine za ?_ _|refine Ca ?_|refine ya ?_ _));exact Ba.out)):Ga ≠ yf));have iO:=ia.mk ((by rw [hg];exact Nat.ne_of_gt (jc (g:=Ga) (o:=.cells #[.slice none 0 0,.int .i64 0,.int .i64 0,.int .i64 0,.slice none 0 0] 30 (0,0)) (by (with_reducible repeat (first|refine za ?_ _|refine Ca ?_|refine ya ?_ _));exact Ba.out)):yf ≠ Ga));have gO:=ia.mk ((by rw [hg];exact Nat.ne_of_lt (jc (g:=Xb) (o:=.cells #[.slice Gh sg.length Dh,.int .i64 Ja,.int .i64 La,.int .i64 Pa,Ve] 30 (0,0)) (by (with_reducible repeat (first|refine za ?_ _|refine Ca ?_|refine ya ?_ _));exact xb.out)):Xb ≠ yf));have fO:=ia.mk ((by rw [hg];exact Nat.ne_of_gt (jc (g:=Xb) (o:=.cells #[.slice Gh sg.length Dh,.int .i64 Ja,.int .i64 La,.int .i64 Pa,Ve] 30 (0,0)) (by (with_reducible repeat (first|refine za ?_ _|refine Ca ?_|refine ya ?_ _));exact xb.out)):yf ≠ Xb));clear Cd Pc qa Ba xb HB;have Cd:=Kb;have Pc:=Ub;have qa:=qc;have Ba:=Rc;have xb:=Ce;have HB:=Qe;have qf:=qg;have Qax:=Ap;have Vx:=aA;have Vl:=Zz;have dN:=kO;have Tl:=jO;have cN:=iO;have Rl:=gO;have bN:=fO;clear Kb Ub qc Rc Ce Qe qg Ap aA Zz kO jO iO gO fO hb Vb hg;have o8:=dN.out;have Q7:=Vl.out;have n8:=cN.out;have P7:=Tl.out;have m8:=bN.out;have O7:=Rl.out;have Bz:Vw.cell? ⟨yf,0,none⟩=some (.slice none 0 0):=(ga qf.out 0).trans rfl;have Az:Vw.cell? ⟨yf,1,none⟩=some (.int .i64 0):=(ga qf.out 1).trans rfl;have zz:Vw.cell? ⟨yf,2,none⟩=some (.int .i64 0):=(ga qf.out 2).trans rfl;have yz:Vw.cell? ⟨yf,3,none⟩=some (.int .i64 0):=(ga qf.out 3).trans rfl;have xz:Vw.cell? ⟨yf,4,none⟩=some (.int .i64 0):=(ga qf.out 4).trans rfl;have Sy:=aa qf.out 0;have Ry:=aa qf.out 1;have Qy:=aa qf.out 2;have Py:=aa qf.out 3;have Oy:=aa qf.out 4)|((with_reducible refine Ib (N:=26) rfl ?_);refine Kd.Dt Di _ 70 ?hg (N:=26) ?hd (xs:=([]:List (ue))) (inner:=[]) (ok:=fun _=>True) (zk:=fun _=>True) ?hr ?hp (fun _ hk=>hk) trivial (Below.refl _ _) (Nat.le_refl _) (by simp) ?_;(case hd=>rfl);(case hg=>rfl);(case hr=>first|(go_simp;done)|(go_simp;rfl));(case hp=>exact (af.none _ _));intro J6 YE IM hb jA Fj;clear jA Fj;(first|rw [← UB.out] at IM|(simp only [Int.reduceToNat] at IM;rw [← UB.out] at IM));have Kb:=ia.mk (Kd.Dc (by (with_reducible repeat (first|apply Kd.Tb|apply Kd.Sb|apply Kd.fc));exact (Kd.Tc (Kd.Eb (p:=⟨yf,4,none⟩) (Kd.Eb (p:=⟨yf,3,none⟩) (Kd.Eb (p:=⟨yf,2,none⟩) (Kd.Eb (p:=⟨yf,1,none⟩) (Kd.Eb (p:=⟨yf,0,none⟩) (Kd.fe Cd.out qf.out (by decide)) (fun _ hk=>hk.2) (.slice Qn ((Oa Qa Pb).f0).length Jn)) (fun _ hk=>hk.2) (.int .i64 ((Oa Qa Pb).f1))) (fun _ hk=>hk.2) (.int .i64 ((Oa Qa Pb).f2))) (fun _ hk=>hk.2) (.int .i64 ((Oa Qa Pb).f3))) (fun _ hk=>hk.2) (.int .i64 ((Oa Qa Pb).f4))) (fun _ h_=>h_.1))) hb);have Ub:=ia.mk (Kd.TA (by (with_reducible repeat (first|apply Kd.Ug|apply Kd.Tg|apply Kd.uh));exact (Kd.xg (Kd.Rh (p:=⟨yf,4,none⟩) (Kd.Rh (p:=⟨yf,3,none⟩) (Kd.Rh (p:=⟨yf,2,none⟩) (Kd.Rh (p:=⟨yf,1,none⟩) (Kd.Rh (p:=⟨yf,0,none⟩) (Kd.xg Pc.out (fun k_ hk=>(⟨hk,hk.2⟩:_∧k_ ≠ yf))) (fun _ hk=>hk.2) (.slice Qn ((Oa Qa Pb).f0).length Jn)) (fun _ hk=>hk.2) (.int .i64 ((Oa Qa Pb).f1))) (fun _ hk=>hk.2) (.int .i64 ((Oa Qa Pb).f2))) (fun _ hk=>hk.2) (.int .i64 ((Oa Qa Pb).f3))) (fun _ hk=>hk.2) (.int .i64 ((Oa Qa Pb).f4))) (fun _ h_=>h_.1))) (Kd.VA IM) hb);have qc:=ia.mk (Kd.xh IM (Sa (by repeat (first|(with_reducible first|exact HB.out|apply ta|apply ja|apply ua|refine Aa ?_ Wa.out|refine Aa ?_ Jb.out|refine Aa ?_ Uf.out|refine Aa ?_ Vx.out)|exact HB.out))));have Rc:=ia.mk (Ta (g:=Da) (o:=.cells #[.slice zb Ua.length yb,.int .i64 Ja,.int .i64 La,.int .i64 Pa,.slice (some PA) Qa.length Nb] 30 (0,0)) (by (with_reducible repeat (first|refine za ?_ _|refine Ca ?_|refine ya ?_ _));refine Bb ?_ Vl.out _;(with_reducible repeat (first|refine za ?_ _|refine Ca ?_|refine ya ?_ _));refine Bb ?_ Vl.out _;(with_reducible repeat (first|refine za ?_ _|refine Ca ?_|refine ya ?_ _));refine Bb ?_ Vl.out _;(with_reducible repeat (first|refine za ?_ _|refine Ca ?_|refine ya ?_ _));refine Bb ?_ Vl.out _;(with_reducible repeat (first|refine za ?_ _|refine Ca ?_|refine ya ?_ _));refine Bb ?_ Vl.out _;(with_reducible repeat (first|refine za ?_ _|refine Ca ?_|refine ya ?_ _));exact qa.out) hb);have Ce:=ia.mk (Ta (g:=Ga) (o:=.cells #[.slice none 0 0,.int .i64 0,.int .i64 0,.int .i64 0,.slice none 0 0] 30 (0,0)) (by (with_reducible repeat (first|refine za ?_ _|refine Ca ?_|refine ya ?_ _));refine Bb ?_ Tl.out _;(with_reducible repeat (first|refine za ?_ _|refine Ca ?_|refine ya ?_ _));refine Bb ?_ Tl.out _;(with_reducible repeat (first|refine za ?_ _|refine Ca ?_|refine ya ?_ _));refine Bb ?_ Tl.out _;(with_reducible repeat (first|refine za ?_ _|refine Ca ?_|refine ya ?_ _));refine Bb ?_ Tl.out _;(with_reducible repeat (first|refine za ?_ _|refine Ca ?_|refine ya ?_ _));refine Bb ?_ Tl.out _;(with_reducible repeat (first|refine za ?_ _|refine Ca ?_|refine ya ?_ _));exact Ba.out) hb);have Qe:=ia.mk (Ta (g:=Xb) (o:=.cells #[.slice Gh sg.length Dh,.int .i64 Ja,.int .i64 La,.int .i64 Pa,Ve] 30 (0,0)) (by (with_reducible repeat (first|refine za ?_ _|refine Ca ?_|refine ya ?_ _));refine Bb ?_ Rl.out _;(with_reducible repeat (first|refine za ?_ _|refine Ca ?_|refine ya ?_ _));refine Bb ?_ Rl.out _;(with_reducible repeat (first|refine za ?_ _|refine Ca ?_|refine ya ?_ _));refine Bb ?_ Rl.out _;(with_reducible repeat (first|refine za ?_ _|refine Ca ?_|refine ya ?_ _));refine Bb ?_ Rl.out _;(with_reducible repeat (first|refine za ?_ _|refine Ca ?_|refine ya ?_ _));refine Bb ?_ Rl.out _;(with_reducible repeat (first|refine za ?_ _|refine Ca ?_|refine ya ?_ _));exact xb.out) hb);have qg:=ia.mk (Ta (g:=yf) (o:=.cells #[.slice Qn ((Oa Qa Pb).f0).length Jn,.int .i64 ((Oa Qa Pb).f1),.int .i64 ((Oa Qa Pb).f2),.int .i64 ((Oa Qa Pb).f3),.int .i64 ((Oa Qa Pb).f4)] 68 (0,0)) (by (with_reducible repeat (first|refine za ?_ _|refine Ca ?_|refine ya ?_ _));refine jb (cs:=#[.slice Qn ((Oa Qa Pb).f0).length Jn,.int .i64 ((Oa Qa Pb).f1),.int .i64 ((Oa Qa Pb).f2),.int .i64 ((Oa Qa Pb).f3),.int .i64 0]) ?_ 4 _ rfl;(with_reducible repeat (first|refine za ?_ _|refine Ca ?_|refine ya ?_ _));refine jb (cs:=#[.slice Qn ((Oa Qa Pb).f0).length Jn,.int .i64 ((Oa Qa Pb).f1),.int .i64 ((Oa Qa Pb).f2),.int .i64 0,.int .i64 0]) ?_ 3 _ rfl;(with_reducible repeat (first|refine za ?_ _|refine Ca ?_|refine ya ?_ _));refine jb (cs:=#[.slice Qn ((Oa Qa Pb).f0).length Jn,.int .i64 ((Oa Qa Pb).f1),.int .i64 0,.int .i64 0,.int .i64 0]) ?_ 2 _ rfl;(with_reducible repeat (first|refine za ?_ _|refine Ca ?_|refine ya ?_ _));refine jb (cs:=#[.slice Qn ((Oa Qa Pb).f0).length Jn,.int .i64 0,.int .i64 0,.int .i64 0,.int .i64 0]) ?_ 1 _ rfl;(with_reducible repeat (first|refine za ?_ _|refine Ca ?_|refine ya ?_ _));refine jb (cs:=#[.slice none 0 0,.int .i64 0,.int .i64 0,.int .i64 0,.int .i64 0]) ?_ 0 _ rfl;(with_reducible repeat (first|refine za ?_ _|refine Ca ?_|refine ya ?_ _));exact qf.out) hb);have Ap:=ia.mk (Ra (by repeat (first|(with_reducible first|exact HB.out|apply ta|apply ja|apply ua|refine Aa ?_ Wa.out|refine Aa ?_ Jb.out|refine Aa ?_ Uf.out|refine Aa ?_ Vx.out)|exact HB.out)) hb);clear Cd Pc qa Ba xb qf HB;have Cd:=Kb;have Pc:=Ub;have Pn:=qc;have qa:=Rc;have Ba:=Ce;have xb:=Qe;have qf:=qg;have HB:=Ap;clear Kb Ub qc Rc Ce Qe qg Ap hb IM;have wz:YE.cell? ⟨yf,0,none⟩=some (.slice Qn ((Oa Qa Pb).f0).length Jn):=(ga qf.out 0).trans rfl;have vz:YE.cell? ⟨yf,1,none⟩=some (.int .i64 ((Oa Qa Pb).f1)):=(ga qf.out 1).trans rfl;have uz:YE.cell? ⟨yf,2,none⟩=some (.int .i64 ((Oa Qa Pb).f2)):=(ga qf.out 2).trans rfl;have rz:YE.cell? ⟨yf,3,none⟩=some (.int .i64 ((Oa Qa Pb).f3)):=(ga qf.out 3).trans rfl;have qz:YE.cell? ⟨yf,4,none⟩=some (.int .i64 ((Oa Qa Pb).f4)):=(ga qf.out 4).trans rfl;have Ny:=aa qf.out 0;have My:=aa qf.out 1;have Ly:=aa qf.out 2;have Ky:=aa qf.out 3;have Jy:=aa qf.out 4)|((with_reducible refine Ui (b:=.append) (xs:=#[.tmp 26,.tmp 28]) rfl ?_);at_builtin;refine Kd.Im Di (w0:=w) w.heap.size rfl (.tmp 26) (.tmp 28) 66 70 (.agg #[(.int .i64 0),(.int .i64 0),(.int .i64 0),(.int .i64 0),(.int .i64 0),(.int .i64 0),(.string ⟨#[]⟩)]) 64 rfl Try.underlying66 rH rfl (by decide) (by omega) J6 Pk ((Oa Qa Pb).f0) _ _ _ (fun _=>True) (fun _=>False) rfl rfl ?aO ?aR (fun _ _ h=>h) (fun _ h=>h.elim) ?aF ?aB ?aS ?aL ?_;(case aR=>repeat (first|exact (Kd.Lb IW.out HB.out)|(with_reducible refine Kd.Gc ?_ _)|(with_reducible refine Kd.Fc ?_ _)|(with_reducible refine Kd.xd ?_)));(case aB=>exact (by repeat (first|(with_reducible first|exact HB.out|apply ta|apply ja|apply ua|refine Aa ?_ Wa.out|refine Aa ?_ Jb.out|refine Aa ?_ Uf.out|refine Aa ?_ Vx.out)|exact HB.out)));(case aF=>exact (fun _ _=>trivial));(case aO=>exact (by (with_reducible repeat (first|apply Kd.Tb|apply Kd.Sb|apply Kd.fc));exact Pn.out));(case aS=>exact (Sa (by repeat (first|(with_reducible first|exact HB.out|apply ta|apply ja|apply ua|refine Aa ?_ Wa.out|refine Aa ?_ Jb.out|refine Aa ?_ Uf.out|refine Aa ?_ Vx.out)|exact HB.out))));(case aL=>have:=aag.out;omega);intro bap Ys ho hb hg hat;rw [← DG.out] at ho;have Kb:=ia.mk (Kd.Gm (by (with_reducible repeat (first|apply Kd.Tb|apply Kd.Sb|apply Kd.fc));exact Cd.out) (Kd.Dn (by (with_reducible repeat (first|apply Kd.Tb|apply Kd.Sb|apply Kd.fc));exact Pn.out)) (by decide) hg);have Ub:=ia.mk (Kd.NL (ok:=(fun k_=>k_ ≠ yf)) (by (with_reducible repeat (first|apply Kd.Ug|apply Kd.Tg|apply Kd.uh));exact Kd.xg Pc.out (fun _ hk=>⟨hk.1.2,hk.2⟩)) hg hat);have qc:=ia.mk (Oc (g:=Da) (o:=.cells #[.slice zb Ua.length yb,.int .i64 Ja,.int .i64 La,.int .i64 Pa,.slice (some PA) Qa.length Nb] 30 (0,0)) (by (with_reducible repeat (first|refine za ?_ _|refine Ca ?_|refine ya ?_ _));exact qa.out) hg (Kd.Ol Pn.out qa.out (by decide)));have Rc:=ia.mk (Oc (g:=Ga) (o:=.cells #[.slice none 0 0,.int .i64 0,.int .i64 0,.int .i64 0,.slice none 0 0] 30 (0,0)) (by (with_reducible repeat (first|refine za ?_ _|refine Ca ?_|refine ya ?_ _));exact Ba.out) hg (Kd.Ol Pn.out Ba.out (by decide)));have Ce:=ia.mk (Oc (g:=Xb) (o:=.cells #[.slice Gh sg.length Dh,.int .i64 Ja,.int .i64 La,.int .i64 Pa,Ve] 30 (0,0)) (by (with_reducible repeat (first|refine za ?_ _|refine Ca ?_|refine ya ?_ _));exact xb.out) hg (Kd.Ol Pn.out xb.out (by decide)));have Qe:=ia.mk (Oc (g:=yf) (o:=.cells #[.slice Qn ((Oa Qa Pb).f0).length Jn,.int .i64 ((Oa Qa Pb).f1),.int .i64 ((Oa Qa Pb).f2),.int .i64 ((Oa Qa Pb).f3),.int .i64 ((Oa Qa Pb).f4)] 68 (0,0)) (by (with_reducible repeat (first|refine za ?_ _|refine Ca ?_|refine ya ?_ _));exact qf.out) hg (Kd.Ol Pn.out qf.out (by decide)));have qg:=ia.mk (hb);have Ap:=ia.mk (ho);clear Cd Pc qa Ba xb qf HB Pn;have Cd:=Kb;have Pc:=Ub;have qa:=qc;have Ba:=Rc;have xb:=Ce;have qf:=Qe;have HB:=qg;have Et:=Ap;clear Kb Ub qc Rc Ce Qe qg Ap ho hb hg hat;obtain ⟨jy,dy,Oar⟩:=Kd.Oe Et.out;subst Oar;have Zv:Ys.cell? ⟨yf,0,none⟩=some (.slice Qn ((Oa Qa Pb).f0).length Jn):=(ga qf.out 0).trans rfl;have Yv:Ys.cell? ⟨yf,1,none⟩=some (.int .i64 ((Oa Qa Pb).f1)):=(ga qf.out 1).trans rfl;have Xv:Ys.cell? ⟨yf,2,none⟩=some (.int .i64 ((Oa Qa Pb).f2)):=(ga qf.out 2).trans rfl;have Wv:Ys.cell? ⟨yf,3,none⟩=some (.int .i64 ((Oa Qa Pb).f3)):=(ga qf.out 3).trans rfl;have Vv:Ys.cell? ⟨yf,4,none⟩=some (.int .i64 ((Oa Qa Pb).f4)):=(ga qf.out 4).trans rfl;have vv:=aa qf.out 0;have uv:=aa qf.out 1;have tv:=aa qf.out 2;have qv:=aa qf.out 3;have ov:=aa qf.out 4)|((with_reducible refine Hf (t:=66) (p:=30) rfl ?_);refine gf (t:=66) (p:=30) (v:=?dZ) (w1:=(Ys.setCell ⟨yf,0,none⟩ (.slice jy Km.length dy))) ?hg ?ho ?hn ?hr ?_;(case ho=>rfl);(case hg=>rfl);(case hn=>rfl);(case hr=>first|(go_simp;done)|(go_simp;rfl));intro pq hw;have Kb:ia (Kd.R (Kd.int .i64) 3 pq w.heap.size (fun _=>True) (.slice Gh sg.length Dh) sg):=⟨(by rw [hw];exact (by (with_reducible repeat (first|apply Kd.Tb|apply Kd.Sb|apply Kd.fc));exact Kd.Tc (Kd.Eb (p:=⟨yf,0,none⟩) (Kd.fe Cd.out qf.out (by decide)) (fun _ hk=>hk.2) (.slice jy Km.length dy)) (fun _ hk=>trivial)))⟩;have Ub:ia (Kd.S Ok 68 pq w.heap.size (fun k_=>some k_ ≠ (.slice jy Km.length dy:Value).ownBlock∧k_ ≠ yf) Ve Be):=⟨(by rw [hw];exact (by (with_reducible repeat (first|apply Kd.Ug|apply Kd.Tg|apply Kd.uh));exact Kd.xg (Kd.Rh (p:=⟨yf,0,none⟩) (Kd.xg Pc.out (fun k_ hk=>(⟨hk,hk.1⟩:_∧k_ ≠ yf))) (fun _ hk=>hk.2) (.slice jy Km.length dy)) (fun _ hk=>⟨hk.1.2,hk.1.1⟩)))⟩;have qc:ia (Kd.R Di 70 pq w.heap.size (fun _=>True) (.slice jy Km.length dy) Km):=⟨(by rw [hw];exact (by (with_reducible repeat (first|apply Kd.Tb|apply Kd.Sb|apply Kd.fc));exact Kd.Tc (Kd.Eb (p:=⟨yf,0,none⟩) (Kd.fe Et.out qf.out (by decide)) (fun _ hk=>hk.2) (.slice jy Km.length dy)) (fun _ hk=>trivial)))⟩;have Rc:ia (pq.heap[Da]? = some (.cells #[.slice zb Ua.length yb,.int .i64 Ja,.int .i64 La,.int .i64 Pa,.slice (some PA) Qa.length Nb] 30 (0,0))):=⟨(by rw [hw];exact (by (with_reducible repeat (first|refine za ?_ _|refine Ca ?_|refine ya ?_ _));refine Bb ?_ Vl.out _;(with_reducible repeat (first|refine za ?_ _|refine Ca ?_|refine ya ?_ _));exact qa.out))⟩;have Ce:ia (pq.heap[Ga]? = some (.cells #[.slice none 0 0,.int .i64 0,.int .i64 0,.int .i64 0,.slice none 0 0] 30 (0,0))):=⟨(by rw [hw];exact (by (with_reducible repeat (first|refine za ?_ _|refine Ca ?_|refine ya ?_ _));refine Bb ?_ Tl.out _;(with_reducible repeat (first|refine za ?_ _|refine Ca ?_|refine ya ?_ _));exact Ba.out))⟩;have Qe:ia (pq.heap[Xb]? = some (.cells #[.slice Gh sg.length Dh,.int .i64 Ja,.int .i64 La,.int .i64 Pa,Ve] 30 (0,0))):=⟨(by rw [hw];exact (by (with_reducible repeat (first|refine za ?_ _|refine Ca ?_|refine ya ?_ _));refine Bb ?_ Rl.out _;(with_reducible repeat (first|refine za ?_ _|refine Ca ?_|refine ya ?_ _));exact xb.out))⟩;have qg:ia (pq.heap[yf]? = some (.cells #[.slice jy Km.length dy,.int .i64 ((Oa Qa Pb).f1),.int .i64 ((Oa Qa Pb).f2),.int .i64 ((Oa Qa Pb).f3),.int .i64 ((Oa Qa Pb).f4)] 68 (0,0))):=⟨(by rw [hw];exact (by (with_reducible repeat (first|refine za ?_ _|refine Ca ?_|refine ya ?_ _));refine jb (cs:=#[.slice Qn ((Oa Qa Pb).f0).length Jn,.int .i64 ((Oa Qa Pb).f1),.int .i64 ((Oa Qa Pb).f2),.int .i64 ((Oa Qa Pb).f3),.int .i64 ((Oa Qa Pb).f4)]) ?_ 0 _ rfl;(with_reducible repeat (first|refine za ?_ _|refine Ca ?_|refine ya ?_ _));exact qf.out))⟩;have Ap:ia (Below w.heap.size w pq):=⟨(by rw [hw];exact (by repeat (first|(with_reducible first|exact HB.out|apply ta|apply ja|apply ua|refine Aa ?_ Wa.out|refine Aa ?_ Jb.out|refine Aa ?_ Uf.out|refine Aa ?_ Vx.out)|exact HB.out)))⟩;clear hw Cd Pc Et qa Ba xb qf HB;have Cd:=Kb;have Pc:=Ub;have Et:=qc;have qa:=Rc;have Ba:=Ce;have xb:=Qe;have qf:=qg;have HB:=Ap;clear Kb Ub qc Rc Ce Qe qg Ap;have tav:=Ih.out;have Kau:=Xc.out;have ID:pq.cell? ⟨Xb,0,none⟩=some (.slice Gh sg.length Dh):=(ga xb.out 0).trans rfl;have GD:pq.cell? ⟨Xb,1,none⟩=some (.int .i64 Ja):=(ga xb.out 1).trans rfl;have FD:pq.cell? ⟨Xb,2,none⟩=some (.int .i64 La):=(ga xb.out 2).trans rfl;have ED:pq.cell? ⟨Xb,3,none⟩=some (.int .i64 Pa):=(ga xb.out 3).trans rfl;have DD:pq.cell? ⟨Xb,4,none⟩=some (Ve):=(ga xb.out 4).trans rfl;have KC:=aa xb.out 0;have JC:=aa xb.out 1;have IC:=aa xb.out 2;have GC:=aa xb.out 3;have FC:=aa xb.out 4;have CD:pq.cell? ⟨yf,0,none⟩=some (.slice jy Km.length dy):=(ga qf.out 0).trans rfl;have BD:pq.cell? ⟨yf,1,none⟩=some (.int .i64 ((Oa Qa Pb).f1)):=(ga qf.out 1).trans rfl;have zD:pq.cell? ⟨yf,2,none⟩=some (.int .i64 ((Oa Qa Pb).f2)):=(ga qf.out 2).trans rfl;have yD:pq.cell? ⟨yf,3,none⟩=some (.int .i64 ((Oa Qa Pb).f3)):=(ga qf.out 3).trans rfl;have xD:pq.cell? ⟨yf,4,none⟩=some (.int .i64 ((Oa Qa Pb).f4)):=(ga qf.out 4).trans rfl;have EC:=aa qf.out 0;have DC:=aa qf.out 1;have CC:=aa qf.out 2;have BC:=aa qf.out 3;have zC:=aa qf.out 4)|((with_reducible refine Ui (b:=.append) (xs:=#[.tmp 32,.tmp 34]) rfl ?_);at_builtin;refine Kd.yG Ok (w0:=w) w.heap.size rfl (.tmp 32) (.tmp 34) 28 68 (.agg #[(.slice none 0 0),(.int .i64 0),(.int .i64 0),(.int .i64 0),(.int .i64 0)]) 56 rfl Try.underlying28 sH rfl (by decide) (by omega) Ve Be (⟨Km,(Oa Qa Pb).f1,(Oa Qa Pb).f2,(Oa Qa Pb).f3,(Oa Qa Pb).f4⟩:lf) [.slice jy Km.length dy,.int .i64 ((Oa Qa Pb).f1),.int .i64 ((Oa Qa Pb).f2),.int .i64 ((Oa Qa Pb).f3),.int .i64 ((Oa Qa Pb).f4)] (fun k_=>k_ ≠ yf) (fun k_=>some k_=(.slice jy Km.length dy:Value).ownBlock) rfl rfl ?aP (fun k_ aT=>((Kd.Tc (Ss:=fun k_=>((fun k_=>k_ ≠ yf)) k_∧some k_ ≠ (Ve:Value).ownBlock) (Kd.fe (Kd.Ip (Et.out) (Kd.Wo Pc.out) (by decide)) qf.out (by decide)) (fun k_ hk=>⟨hk.2,hk.1.2⟩))).1 k_ aT.symm) ?aF ?aO ?aB ?aS ?aL ?_;(case aP=>exact Vk _ _ _ (⟨Km,(Oa Qa Pb).f1,(Oa Qa Pb).f2,(Oa Qa Pb).f3,(Oa Qa Pb).f4⟩:lf) (Kd.Tc (Kd.zE rfl (Kd.Tc (Ss:=fun k_=>((fun k_=>k_ ≠ yf)) k_∧some k_ ≠ (Ve:Value).ownBlock) (Kd.fe (Kd.Ip (Et.out) (Kd.Wo Pc.out) (by decide)) qf.out (by decide)) (fun k_ hk=>⟨hk.2,hk.1.2⟩))) (fun _ h_=>h_)));(case aB=>exact (by repeat (first|(with_reducible first|exact HB.out|apply ta|apply ja|apply ua|refine Aa ?_ Wa.out|refine Aa ?_ Jb.out|refine Aa ?_ Uf.out|refine Aa ?_ Vx.out)|exact HB.out)));(case aF=>exact (fun k_ hk=>Kd.aQ (g:=yf) (o:=.cells #[.slice jy Km.length dy,.int .i64 ((Oa Qa Pb).f1),.int .i64 ((Oa Qa Pb).f2),.int .i64 ((Oa Qa Pb).f3),.int .i64 ((Oa Qa Pb).f4)] 68 (0,0)) (by (with_reducible repeat (first|refine za ?_ _|refine Ca ?_|refine ya ?_ _));exact qf.out) k_ hk));(case aO=>exact (by (with_reducible repeat (first|apply Kd.Ug|apply Kd.Tg|apply Kd.uh));exact Kd.xg Pc.out (fun k_ hk=>⟨hk.2,fun e_=>hk.1 e_⟩)));(case aS=>exact (Sa (by repeat (first|(with_reducible first|exact HB.out|apply ta|apply ja|apply ua|refine Aa ?_ Wa.out|refine Aa ?_ Jb.out|refine Aa ?_ Uf.out|refine Aa ?_ Vx.out)|exact HB.out))));(case aL=>have:=Zaf.out;omega);intro ray I6 ho hb hg hat;rw [← Taf.out] at ho;have Kb:=ia.mk (Kd.Gm (by (with_reducible repeat (first|apply Kd.Tb|apply Kd.Sb|apply Kd.fc));exact Cd.out) (Kd.Wo (by (with_reducible repeat (first|apply Kd.Ug|apply Kd.Tg|apply Kd.uh));exact Pc.out)) (by decide) hg);have Ub:=ia.mk (Oc (g:=Da) (o:=.cells #[.slice zb Ua.length yb,.int .i64 Ja,.int .i64 La,.int .i64 Pa,.slice (some PA) Qa.length Nb] 30 (0,0)) (by (with_reducible repeat (first|refine za ?_ _|refine Ca ?_|refine ya ?_ _));exact qa.out) hg (Kd.ZM Pc.out qa.out (by decide)));have qc:=ia.mk (Oc (g:=Ga) (o:=.cells #[.slice none 0 0,.int .i64 0,.int .i64 0,.int .i64 0,.slice none 0 0] 30 (0,0)) (by (with_reducible repeat (first|refine za ?_ _|refine Ca ?_|refine ya ?_ _));exact Ba.out) hg (Kd.ZM Pc.out Ba.out (by decide)));have Rc:=ia.mk (Oc (g:=Xb) (o:=.cells #[.slice Gh sg.length Dh,.int .i64 Ja,.int .i64 La,.int .i64 Pa,Ve] 30 (0,0)) (by (with_reducible repeat (first|refine za ?_ _|refine Ca ?_|refine ya ?_ _));exact xb.out) hg (Kd.ZM Pc.out xb.out (by decide)));have Ce:=ia.mk (Oc (g:=yf) (o:=.cells #[.slice jy Km.length dy,.int .i64 ((Oa Qa Pb).f1),.int .i64 ((Oa Qa Pb).f2),.int .i64 ((Oa Qa Pb).f3),.int .i64 ((Oa Qa Pb).f4)] 68 (0,0)) (by (with_reducible repeat (first|refine za ?_ _|refine Ca ?_|refine ya ?_ _));exact qf.out) hg (Kd.wQ Pc.out (fun _ hk=>hk.2)));have Qe:=ia.mk (hb);have qg:=ia.mk (ho);clear Cd qa Ba xb qf HB Pc Et;have Cd:=Kb;have qa:=Ub;have Ba:=qc;have xb:=Rc;have qf:=Ce;have HB:=Qe;have IY:=qg;clear Kb Ub qc Rc Ce Qe qg ho hb hg hat;obtain ⟨L5,N2,Mar⟩:=Kd.Gi IY.out;subst Mar;have EV:I6.cell? ⟨Xb,0,none⟩=some (.slice Gh sg.length Dh):=(ga xb.out 0).trans rfl;have DV:I6.cell? ⟨Xb,1,none⟩=some (.int .i64 Ja):=(ga xb.out 1).trans rfl;have CV:I6.cell? ⟨Xb,2,none⟩=some (.int .i64 La):=(ga xb.out 2).trans rfl;have BV:I6.cell? ⟨Xb,3,none⟩=some (.int .i64 Pa):=(ga xb.out 3).trans rfl;have AV:I6.cell? ⟨Xb,4,none⟩=some (Ve):=(ga xb.out 4).trans rfl;have iU:=aa xb.out 0;have hU:=aa xb.out 1;have gU:=aa xb.out 2;have fU:=aa xb.out 3;have eU:=aa xb.out 4))
        go_roundg k1
        case measure=>have:=Wh.out;omega
        case rel=>exact ⟨(wrap64 (Pb + 1)),(DN),(.slice L5 DN.length N2),(by first|rfl|(simp;done)|(simp [*];done)),H',⟨by have:=Wh.out;omega⟩,⟨by (with_reducible repeat (first|apply Kd.Tb|apply Kd.Sb|apply Kd.fc));exact Kd.Tc (Kd.Eb (p:=⟨Xb,4,none⟩) (Kd.fe Cd.out xb.out (by decide)) (fun _ hk=>hk.2) (.slice L5 DN.length N2)) (fun _ hk=>trivial)⟩,⟨by (with_reducible repeat (first|apply Kd.Ug|apply Kd.Tg|apply Kd.uh));exact Kd.xg (Kd.Rh (p:=⟨Xb,4,none⟩) (Kd.Vo IY.out xb.out (by decide)) (fun _ hk=>hk.2) (.slice L5 DN.length N2)) (fun _ hk=>trivial)⟩,⟨by (with_reducible repeat (first|refine za ?_ _|refine Ca ?_|refine ya ?_ _));refine Bb ?_ Wd.out _;(with_reducible repeat (first|refine za ?_ _|refine Ca ?_|refine ya ?_ _));exact qa.out⟩,⟨by (with_reducible repeat (first|refine za ?_ _|refine Ca ?_|refine ya ?_ _));refine Bb ?_ Xc.out _;(with_reducible repeat (first|refine za ?_ _|refine Ca ?_|refine ya ?_ _));exact Ba.out⟩,⟨by (with_reducible repeat (first|refine za ?_ _|refine Ca ?_|refine ya ?_ _));refine jb (cs:=#[.slice Gh sg.length Dh,.int .i64 Ja,.int .i64 La,.int .i64 Pa,Ve]) ?_ 4 _ rfl;(with_reducible repeat (first|refine za ?_ _|refine Ca ?_|refine ya ?_ _));exact xb.out⟩,⟨by repeat (first|(with_reducible first|exact HB.out|apply ta|apply ja|apply ua|refine Aa ?_ Wa.out|refine Aa ?_ Jb.out|refine Aa ?_ Uf.out|refine Aa ?_ Vx.out)|exact HB.out)⟩⟩
       ·rw [if_neg U5] at H;exact absurd H (by simp)
      ·rw [if_neg gI] at H;exact absurd H (by simp)
     ·rw [if_neg lW] at H;exact absurd H (by simp)
    ·rw [if_neg yt] at H;have SB:decide (Pb < (Qa.length:Int))=false:=decide_eq_false yt;clear yt;simp only [Option.some.injEq,Prod.mk.injEq] at H;obtain ⟨rfl,rfl,rfl,rfl,rfl⟩:=H;have rav:=Xa.out;have Iau:=Va.out;have OO:=Wd.out;have LO:=Jh.out;have cz:wr.cell? ⟨Da,0,none⟩=some (.slice zb Ua.length yb):=(ga qa.out 0).trans rfl;have bz:wr.cell? ⟨Da,1,none⟩=some (.int .i64 Ja):=(ga qa.out 1).trans rfl;have az:wr.cell? ⟨Da,2,none⟩=some (.int .i64 La):=(ga qa.out 2).trans rfl;have Zy:wr.cell? ⟨Da,3,none⟩=some (.int .i64 Pa):=(ga qa.out 3).trans rfl;have Yy:wr.cell? ⟨Da,4,none⟩=some (.slice Yb Qa.length Nb):=(ga qa.out 4).trans rfl;have xy:=aa qa.out 0;have uy:=aa qa.out 1;have sy:=aa qa.out 2;have ry:=aa qa.out 3;have qy:=aa qa.out 4;have Y7:=Ih.out;have H7:=Xc.out;have sV:wr.cell? ⟨Xb,0,none⟩=some (.slice Gh sg.length Dh):=(ga xb.out 0).trans rfl;have rV:wr.cell? ⟨Xb,1,none⟩=some (.int .i64 Ja):=(ga xb.out 1).trans rfl;have qV:wr.cell? ⟨Xb,2,none⟩=some (.int .i64 La):=(ga xb.out 2).trans rfl;have pV:wr.cell? ⟨Xb,3,none⟩=some (.int .i64 Pa):=(ga xb.out 3).trans rfl;have oV:wr.cell? ⟨Xb,4,none⟩=some (Ve):=(ga xb.out 4).trans rfl;have WT:=aa xb.out 0;have VT:=aa xb.out 1;have UT:=aa xb.out 2;have TT:=aa xb.out 3;have RT:=aa xb.out 4;have nV:wr.cell? ⟨Ga,0,none⟩=some (.slice none 0 0):=(ga Ba.out 0).trans rfl;have mV:wr.cell? ⟨Ga,1,none⟩=some (.int .i64 0):=(ga Ba.out 1).trans rfl;have lV:wr.cell? ⟨Ga,2,none⟩=some (.int .i64 0):=(ga Ba.out 2).trans rfl;have kV:wr.cell? ⟨Ga,3,none⟩=some (.int .i64 0):=(ga Ba.out 3).trans rfl;have jV:wr.cell? ⟨Ga,4,none⟩=some (.slice none 0 0):=(ga Ba.out 4).trans rfl;have QT:=aa Ba.out 0;have PT:=aa Ba.out 1;have OT:=aa Ba.out 2;have NT:=aa Ba.out 3;have MT:=aa Ba.out 4;obtain ⟨J5,K2,Kar⟩:=Kd.Gi Pc.out;subst Kar;go_wp2;refine bodyPost_ret (results_cell_row rfl _ _ Ga 30 #[.slice Gh sg.length Dh,.int .i64 Ja,.int .i64 La,.int .i64 Pa,.slice J5 Be.length K2] (0,0) _ rfl (by (with_reducible repeat (first|refine za ?_ _|refine Ca ?_|refine ya ?_ _));refine jb (cs:=#[.slice Gh sg.length Dh,.int .i64 Ja,.int .i64 La,.int .i64 Pa,.slice none 0 0]) ?_ 4 _ rfl;(with_reducible repeat (first|refine za ?_ _|refine Ca ?_|refine ya ?_ _));refine jb (cs:=#[.slice Gh sg.length Dh,.int .i64 Ja,.int .i64 La,.int .i64 0,.slice none 0 0]) ?_ 3 _ rfl;(with_reducible repeat (first|refine za ?_ _|refine Ca ?_|refine ya ?_ _));refine jb (cs:=#[.slice Gh sg.length Dh,.int .i64 Ja,.int .i64 0,.int .i64 0,.slice none 0 0]) ?_ 2 _ rfl;(with_reducible repeat (first|refine za ?_ _|refine Ca ?_|refine ya ?_ _));refine jb (cs:=#[.slice Gh sg.length Dh,.int .i64 0,.int .i64 0,.int .i64 0,.slice none 0 0]) ?_ 1 _ rfl;(with_reducible repeat (first|refine za ?_ _|refine Ca ?_|refine ya ?_ _));refine jb (cs:=#[.slice none 0 0,.int .i64 0,.int .i64 0,.int .i64 0,.slice none 0 0]) ?_ 0 _ rfl;(with_reducible repeat (first|refine za ?_ _|refine Ca ?_|refine ya ?_ _));exact Ba.out) Try.underlying30 rfl (by kernel_rfl)) rfl ?_;exact ⟨_,_,by first|rfl|(simp [Na,Ma] <;> rfl)|(simp [*,Na,Ma] <;> rfl),by (with_reducible repeat (first|apply Kd.Tb|apply Kd.Sb|apply Kd.fc));exact Kd.Tc (Kd.Eb (p:=⟨Ga,4,none⟩) (Kd.Eb (p:=⟨Ga,3,none⟩) (Kd.Eb (p:=⟨Ga,2,none⟩) (Kd.Eb (p:=⟨Ga,1,none⟩) (Kd.Eb (p:=⟨Ga,0,none⟩) (Kd.fe Cd.out Ba.out (by decide)) (fun _ hk=>hk.2) (.slice Gh sg.length Dh)) (fun _ hk=>hk.2) (.int .i64 Ja)) (fun _ hk=>hk.2) (.int .i64 La)) (fun _ hk=>hk.2) (.int .i64 Pa)) (fun _ hk=>hk.2) (.slice J5 Be.length K2)) (fun _ hk=>trivial),by (with_reducible repeat (first|apply Kd.Ug|apply Kd.Tg|apply Kd.uh));exact Kd.xg (Kd.Rh (p:=⟨Ga,4,none⟩) (Kd.Rh (p:=⟨Ga,3,none⟩) (Kd.Rh (p:=⟨Ga,2,none⟩) (Kd.Rh (p:=⟨Ga,1,none⟩) (Kd.Rh (p:=⟨Ga,0,none⟩) (Kd.Vo Pc.out Ba.out (by decide)) (fun _ hk=>hk.2) (.slice Gh sg.length Dh)) (fun _ hk=>hk.2) (.int .i64 Ja)) (fun _ hk=>hk.2) (.int .i64 La)) (fun _ hk=>hk.2) (.int .i64 Pa)) (fun _ hk=>hk.2) (.slice J5 Be.length K2)) (fun _ hk=>trivial),by repeat (first|(with_reducible first|exact HB.out|apply ta|apply ja|apply ua|refine Aa ?_ Wa.out|refine Aa ?_ Jb.out|refine Aa ?_ Uf.out)|exact HB.out)⟩
 ·rw [if_neg c2] at H;exact absurd H (by simp)
def DK (l xs:List ue) (p:ue→Bool) (i j:Nat):Prop:=i < j∧j ≤ l.length∧xs.length=l.length∧xs.take i=(l.take j).filter (fun x=>!p x)∧xs.drop j=l.drop j
theorem DK.skip {l xs:List ue} {p:ue→Bool} {i j:Nat} (h:DK l xs p i j) (hj:j < l.length) (hp:p (Ia l (j:Int))=true):DK l xs p i (j + 1):=by
 obtain ⟨h1,h2,h3,h4,h5⟩:=h;have hr:Ia l (j:Int)=l[j]:=by simp [Ia,List.getD_eq_getElem?_getD,hj]
 rw [hr] at hp;refine ⟨by omega,by omega,h3,?_,?_⟩
 ·rw [List.take_succ_eq_append_getElem (show j < l.length from hj),List.filter_append,← h4];simp [hp]
 ·have e1:xs.drop (j + 1)=(xs.drop j).drop 1:=by rw [List.drop_drop]
  have e2:l.drop (j + 1)=(l.drop j).drop 1:=by rw [List.drop_drop]
  rw [e1,e2,h5]
theorem DK.at_ {l xs:List ue} {p:ue→Bool} {i j:Nat} (h:DK l xs p i j) (hj:j < l.length):Ia xs (j:Int)=Ia l (j:Int):=by
 obtain ⟨h1,h2,h3,h4,h5⟩:=h;have:=congrArg List.head? h5;rw [List.head?_drop,List.head?_drop] at this;simp [Ia,List.getD_eq_getElem?_getD,this]
theorem aH {α:Type} {d:Kd α} {e B:Nat} {ok:Nat→Prop} {W w':World} {v:Value} {xs:List α} (h:d.R e w' W.heap.size ok v xs) (hB:B ≤ W.heap.size):d.R e w' B (fun k=>W.heap.size ≤ k∧k < w'.heap.size) v xs :=
 Kd.xh (Kd.Tc (Kd.Kg h) (fun _ hk=>⟨hk.2.1,hk.2.2.1⟩)) hB
theorem ZG {α:Type} {d:Kd α} {e B:Nat} {ok:Nat→Prop} {W w':World} {v:Value} {xs:List α} (h:Kd.S d e w' W.heap.size ok v xs) (hB:B ≤ W.heap.size):Kd.S d e w' B (fun k=>W.heap.size ≤ k∧k < w'.heap.size) v xs :=
 Kd.Hs (Kd.xg (Kd.Js h) (fun _ hk=>⟨hk.2.1,hk.2.2.1⟩)) hB
theorem fQ (x:ue):Ev (fun _=>uf.f x.f0 x.f1 x.f2 x.f3 x.f4 x.f5 x.f6) (decide (¬ x.f0=4∧¬ x.f0=6)):=by
 refine Ev.here ?_;unfold uf.f
 by_cases h4:x.f0=4
 ·simp [h4]
 ·by_cases h6:x.f0=6 <;> simp [h4,h6]
section
variable {l0:List Int} {p v s:Int} {l4:List lf}
theorem SN {i:Nat} (h:i < l4.length):Oa l4 (i:Int)=l4[i]:=by simp [Oa,List.getD_eq_getElem?_getD,h]
theorem WH (h0:l0.length ≤ 1048576) (hl:l4.length ≤ 1048576) (ht:Nd l4 ≤ 1048576):Ev (fun k=>Zd.f k l0 p v s l4) (l0,p,v,s,l4):=by
 unfold Zd.f;refine Ev.val (Ev.pos (by simp;omega) ?_);have key:=Fi (n:=l4.length) (r:=(l0,p,v,s,l4)) (fun i=>Ev (fun k=>Zd.l0 k (i:Int) l0 p v s l4 ([] ++ l0) p v s (l4.take i)) (l0,p,v,s,l4)) ?_ ?_ 0 (Nat.zero_le _)
 ·exact key
 ·refine Ev.step (fun k=>by rw [Zd.l0]) (Ev.neg (by omega) ?_);rw [List.take_length];exact Ev.now _
 ·intro i hi ih;rw [List.take_succ_eq_append_getElem hi,← mg hi (by omega)] at ih;have hc:=Ew l4 l4[i] (List.getElem_mem hi);have hrd:=SN hi;have hl1:(l4.take i).length ≤ l4.length:=by rw [List.length_take];omega
  refine Ev.step (fun k=>by rw [Zd.l0]) (Ev.pos (by omega) (Ev.pos (by omega) ?_));rw [hrd];exact Ev.val (Ev.pos (by simp;omega) (Ev.pos (by omega) ih))
theorem lE (h0:l0.length ≤ 1048576) (hl:l4.length ≤ 1048576) (ht:Nd l4 ≤ 1048576):Ev (fun k=>Ed.f k l0 p v s l4) (l0,p,v,s,l4):=by
 unfold Ed.f;refine Ev.val (Ev.pos (by simp;omega) ?_);have key:=Fi (n:=l4.length) (r:=(l0,p,v,s,l4)) (fun i=>Ev (fun k=>Ed.l0 k l4 (l4.length:Int) (i:Int) ([] ++ l0) p v s (l4.take i)) (l0,p,v,s,l4)) ?_ ?_ 0 (Nat.zero_le _)
 ·exact key
 ·refine Ev.step (fun k=>by rw [Ed.l0]) (Ev.neg (by omega) ?_);rw [List.take_length];exact Ev.now _
 ·intro i hi ih;rw [List.take_succ_eq_append_getElem hi,← mg hi (by omega)] at ih;have hc:=Ew l4 l4[i] (List.getElem_mem hi);have hrd:=SN hi;have hl1:(l4.take i).length ≤ l4.length:=by rw [List.length_take];omega
  refine Ev.step (fun k=>by rw [Ed.l0]) (Ev.pos (by omega) (Ev.pos (by omega) (Ev.pos (by omega) ?_)));rw [hrd];exact Ev.val (Ev.pos (by simp;omega) (Ev.pos (by omega) ih))
end
end Go.Proofs.Ytmifdccaajngcaa.P
end
section
namespace Go.Proofs.Ytmifdccaajngcaa.P
open Go.RowKit Go.Proofs.Ka.Rb Go.Proofs.Ka.Vd Go.Proofs.Ka.ef
set_option linter.unusedVariables false
set_option linter.unusedSimpArgs false
attribute [local go_sem] Ph Nh Oi Ni gh fh Oh Mh
def Ke.l0:Nat→Int→List Int→Int→Option (List Int)
 | 0,_,_,_=>none
 | k + 1,x0,x3,x4=>if x4 < x0 then (if x3.length < 17592186044416 then (Ke.l0 k x0 (x3 ++ [0]) (wrap64 (x4 + 1))) else (none)) else (some x3)
def Ke.f (k:Nat) (a0:Int):Option (List Int):=Ke.l0 k a0 (([]:List Int)) 0
theorem Ke.calls (k:Nat) (a0:Int) (r:List Int) (w:World) (h:Ke.f k a0=some r) :
  Calls Try.prog 73 #[.int .i64 a0] w fun e w'=>∃ Zs:Value,e = .returned (Zs)∧Kd.R (Kd.int .i64) 3 w' w.heap.size (fun _=>True) Zs r∧Below w.heap.size w w':=by
 have HB:=ia.mk (Below.refl w.heap.size w);have H:(Ke.l0 k a0 (([]:List Int)) 0)=some r:=h;clear h;obtain ⟨bg,jg⟩:∃ y_:List Int,y_=(([]:List Int)):=⟨_,rfl⟩;replace H:(Ke.l0 k a0 bg 0)=some r:=by first|(rw [jg];with_reducible exact H)|(have lg:=(Option.bind_some _ _).symm.trans H;rw [jg];with_reducible exact lg)|(have lg:=(Option.bind_some _ _).symm.trans H;with_reducible exact lg)|with_reducible exact H|(rw [jg];exact H)|exact H
 have wk:=ia.mk jg;clear jg;have H':=ia.mk H;clear H;go_enter Try.func73,Try.ntmps73;go_wp2_with (first|((with_reducible refine Ib (N:=5) rfl ?_);refine Kd.Dt (Kd.int .i64) _ 3 ?hg (N:=5) ?hd (xs:=([]:List Int)) (inner:=[]) (ok:=fun _=>True) (zk:=fun _=>True) ?hr ?hp (fun _ hk=>hk) trivial (Below.refl _ _) (Nat.le_refl _) (by simp) ?_;(case hd=>rfl);(case hg=>rfl);(case hr=>first|(go_simp;done)|(go_simp;rfl));(case hp=>exact (af.none _ _));intro fF w2 bX hb jA Fj;clear jA Fj;(first|rw [← wk.out] at bX|(simp only [Int.reduceToNat] at bX;rw [← wk.out] at bX));have Kb:=ia.mk (Kd.xh bX (Sa (by repeat (first|(with_reducible first|exact HB.out|apply ta|apply ja|apply ua)|exact HB.out))));have Ub:=ia.mk (Ra (by repeat (first|(with_reducible first|exact HB.out|apply ta|apply ja|apply ua)|exact HB.out)) hb);clear HB;have Jp:=Kb;have HB:=Ub;clear Kb Ub hb bX))
 go_loopg [3,4] k (fun kq v3 v4 w'=>∃ (Ze:List Int) (Pb:Int),v4 = .int .i64 Pb∧ia (Ke.l0 kq a0 Ze Pb=some r)∧ia (kq ≤ k)∧ia (Kd.R (Kd.int .i64) 3 w' w.heap.size (fun _=>True) v3 Ze)∧ia (Below w.heap.size w w'))
 case atStart=>exact ⟨(bg),(0),(by first|rfl|(simp;done)|(simp [*];done)),H',⟨Nat.le_refl _⟩,⟨by (with_reducible repeat (first|apply Kd.Tb|apply Kd.Sb|apply Kd.fc));exact Jp.out⟩,⟨by repeat (first|(with_reducible first|exact HB.out|apply ta|apply ja|apply ua)|exact HB.out)⟩⟩
 case round =>
  clear H'
  try clear p2
  (try clear HA);(try clear Wh);(try clear Yh);(try clear HB);obtain ⟨Ze,Pb,rfl,HA,Wh,Yh,HB⟩:=hrel;cases gk with
  | zero=>exact absurd HA.out (by simp [Ke.l0])
  | succ k1 =>
   have H:=HA.out;clear HA;simp only [Ke.l0] at H
   by_cases c4:Pb < a0
   ·rw [if_pos c4] at H;have Zi:decide (Pb < a0)=true:=decide_eq_true c4;clear c4
    by_cases c5:Ze.length < 17592186044416
    ·rw [if_pos c5] at H;have das:=ia.mk c5;clear c5;obtain ⟨Ue,Ej⟩:∃ y_:List Int,y_=(Ze ++ [0]):=⟨_,rfl⟩;replace H:(Ke.l0 k1 a0 Ue (wrap64 (Pb + 1)))=some r:=by first|(rw [Ej];with_reducible exact H)|(have lg:=(Option.bind_some _ _).symm.trans H;rw [Ej];with_reducible exact lg)|(have lg:=(Option.bind_some _ _).symm.trans H;with_reducible exact lg)|with_reducible exact H|(rw [Ej];exact H)|exact H
     have Mw:=ia.mk Ej;clear Ej;have H':=ia.mk H;clear H;go_wp2_with (first|((with_reducible refine Ui (b:=.append) (xs:=#[.tmp 11,.tmp 12]) rfl ?_);at_builtin;refine Kd.AG (Kd.int .i64) (w0:=w) w.heap.size rfl (.tmp 11) (.tmp 12) 22 3 (.int .i64 0) 8 rfl Try.underlying22 info3 rfl (by decide) (by omega) u3 Ze 0 [.int .i64 0] (fun _=>True) (fun _=>False) rfl rfl ?aP (fun _ hk=>hk.elim) ?aF ?aO ?aB ?aS ?aL ?_;(case aP=>exact rfl);(case aB=>exact (by repeat (first|(with_reducible first|exact HB.out|apply ta|apply ja|apply ua)|exact HB.out)));(case aF=>exact (fun _ _=>trivial));(case aO=>exact (by (with_reducible repeat (first|apply Kd.Tb|apply Kd.Sb|apply Kd.fc));exact Yh.out));(case aS=>exact (Sa (by repeat (first|(with_reducible first|exact HB.out|apply ta|apply ja|apply ua)|exact HB.out))));(case aL=>have:=das.out;omega);intro lM w6 ho hb hg hat;rw [← Mw.out] at ho;have Kb:=ia.mk (hb);have Ub:=ia.mk (ho);clear HB Yh;have HB:=Kb;have ek:=Ub;clear Kb Ub ho hb hg hat))
     go_roundg k1
     case measure=>have:=Wh.out;omega
     case rel=>exact ⟨(Ue),(wrap64 (Pb + 1)),(by first|rfl|(simp;done)|(simp [*];done)),H',⟨by have:=Wh.out;omega⟩,⟨by (with_reducible repeat (first|apply Kd.Tb|apply Kd.Sb|apply Kd.fc));exact ek.out⟩,⟨by repeat (first|(with_reducible first|exact HB.out|apply ta|apply ja|apply ua)|exact HB.out)⟩⟩
    ·rw [if_neg c5] at H;exact absurd H (by simp)
   ·rw [if_neg c4] at H;have Zi:decide (Pb < a0)=false:=decide_eq_false c4;clear c4;obtain rfl:=Option.some.inj H;go_wp2;go_ret;exact ⟨_,by first|rfl|(simp [Na,Ma] <;> rfl)|(simp [*,Na,Ma] <;> rfl),by (with_reducible repeat (first|apply Kd.Tb|apply Kd.Sb|apply Kd.fc));exact Yh.out,by repeat (first|(with_reducible first|exact HB.out|apply ta|apply ja|apply ua)|exact HB.out)⟩
end Go.Proofs.Ytmifdccaajngcaa.P
end
