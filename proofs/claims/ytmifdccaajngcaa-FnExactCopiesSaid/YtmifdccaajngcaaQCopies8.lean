import Derived.Test.YtmifdccaajngcaaQCopies1
import Derived.Test.YtmifdccaajngcaaQCopies6
import Derived.Test.YtmifdccaajngcaaQCopies5
import Derived.Test.YtmifdccaajngcaaQCopies7
import Derived.Test.YtmifdccaajngcaaQCopies3
import Derived.Test.YtmifdccaajngcaaQCopies2
import Derived.Shelf.Abstract
import Derived.Laws.IdiomCopy
import Derived.Outline
import Derived.RegionTactic
set_option maxHeartbeats 8000000
set_option maxRecDepth 100000
section
namespace Go.Proofs.Ytmifdccaajngcaa.P
open Go.RowKit Go.Proofs.Oa.Rb Go.Proofs.Oa.Ee Go.Proofs.Oa.Wf
set_option linter.unusedVariables false
set_option linter.unusedSimpArgs false
theorem Yf (a b c:Int):Ev (fun _=>Wa.f a b c) (Uk a b c):=Ev.here (dN a b c)
theorem KX (t:ByteArray):Ev (fun k=>Oe.f k ([(⟨#[61,61]⟩:ByteArray),(⟨#[60]⟩:ByteArray),(⟨#[38]⟩:ByteArray),(⟨#[43]⟩:ByteArray),(⟨#[45]⟩:ByteArray),(⟨#[42]⟩:ByteArray)]:List ByteArray) t) (bu t):=by
 refine ⟨8,fun k hk=>?_⟩;obtain ⟨m,rfl⟩:∃ m,k=m + 8:=⟨k - 8,by omega⟩;unfold Oe.f bu cG;simp only [Oe.l0,List.any_cons,List.any_nil]
 by_cases h0:t.toList=[61,61]
 ·simp [Mk,h0]
 by_cases h1:t.toList=[60]
 ·simp [Mk,h1,wrap64]
 by_cases h2:t.toList=[38]
 ·simp [Mk,h2,wrap64]
 by_cases h3:t.toList=[43]
 ·simp [Mk,h3,wrap64]
 by_cases h4:t.toList=[45]
 ·simp [Mk,h4,wrap64]
 by_cases h5:t.toList=[42]
 ·simp [Mk,h5,wrap64]
 simp [Mk,Ne.symm h0,Ne.symm h1,Ne.symm h2,Ne.symm h3,Ne.symm h4,Ne.symm h5,h0,h1,h2,h3,h4,h5,wrap64]
theorem nG (s d:Int):Uk d 0 (s - 1)=Yj s d:=by
 unfold Uk Yj;rw [Bool.eq_iff_iff];simp;omega
def jB (D A B C M:Bool) (o d a b n:Int) (t:ByteArray):Bool :=
 if o=0 then D && (a == 0 && b == 0)
 else if o=1 then D && (A && (b == 0 && n == 0))
 else if o=2 then D && (A && (B && (n == 0 && bu t)))
 else if o=3 then D && M
 else if o=4 then d == 0 && (M && C)
 else if o=5 then D && (a == 0 && (b == 0 && n == 0))
 else if o=6 then d == 0 && (A && (b == 0 && n == 0))
 else false
theorem Ev.and {b:Bool} {f:Nat→Option Bool} {r:Bool} (hf:b=true→Ev f r):Ev (fun n=>if b=true then f n else some false) (b && r):=by
 cases b with
 | true=>exact Ev.pos rfl (hf rfl)
 | false=>exact Ev.neg (by simp) (Ev.now _)
theorem Ev.yA {c:Prop} [Decidable c] {f:Nat→Option Bool} {r:Bool} (hf:c→Ev f r):Ev (fun n=>if c then f n else some false) (decide c && r):=by
 by_cases h:c
 ·rw [decide_eq_true h];exact Ev.pos h (hf h)
 ·rw [decide_eq_false h];exact Ev.neg h (Ev.now _)
section
variable {l0:List Int} {p v s:Int} {l4:List Te} {o d a b c n:Int} {t:ByteArray}
theorem lF (D A B M:Bool) (x:Bool) (hs:0 ≤ s) (hs':s ≤ 1000):Ev (fun k=>Ya.j1 k D A B M x l0 p v s l4 o d a b c n t) (!x && jB D A B (Yj s c) M o d a b n t):=by
 refine Ev.step (fun k=>by rw [Ya.j1]) ?_;cases x with
 | true=>exact Ev.pos rfl (Ev.now _)
 | false =>
  refine Ev.neg (by simp) ?_;rw [Bool.not_false,Bool.true_and];unfold jB
  by_cases h0:o=0
  ·rw [if_pos h0];exact Ev.pos h0 (Ev.and fun _=>Ev.yA fun _=>Ev.now _)
  rw [if_neg h0];refine Ev.neg h0 ?_
  by_cases h1:o=1
  ·rw [if_pos h1];exact Ev.pos h1 (Ev.and fun _=>Ev.and fun _=>Ev.yA fun _=>Ev.now _)
  rw [if_neg h1];refine Ev.neg h1 ?_
  by_cases h2:o=2
  ·rw [if_pos h2];exact Ev.pos h2 (Ev.and fun _=>Ev.and fun _=>Ev.and fun _=>Ev.yA fun _=>Ev.bind (KX t) (Ev.now _))
  rw [if_neg h2];refine Ev.neg h2 ?_
  by_cases h3:o=3
  ·rw [if_pos h3,if_pos h3];exact (Ev.and fun _=>Ev.now _)
  rw [if_neg h3,if_neg h3]
  by_cases h4:o=4
  ·rw [if_pos h4,if_pos h4];refine (Ev.yA fun _=>Ev.and fun _=>?_);rw [jh (x:=s - 1) (by omega) (by omega),← nG];exact Ev.bind (Yf _ _ _) (Ev.now _)
  rw [if_neg h4,if_neg h4]
  by_cases h5:o=5
  ·rw [if_pos h5,if_pos h5];exact (Ev.and fun _=>Ev.yA fun _=>Ev.yA fun _=>Ev.now _)
  rw [if_neg h5,if_neg h5]
  by_cases h6:o=6
  ·rw [if_pos h6,if_pos h6];exact (Ev.yA fun _=>Ev.and fun _=>Ev.yA fun _=>Ev.now _)
  rw [if_neg h6,if_neg h6];exact Ev.now _
theorem um (M:Bool) (hM:M=((Yj s a || a == -1) && (Yj s b && Uk n 0 ((l0.length:Int) - 1)))) (hs:0 ≤ s) (hs':s ≤ 1000):Ev (fun k=>Ya.j0 k (Yj s d) (Yj s a) (Yj s b) M l0 p v s l4 o d a b c n t) (jl l0.length s o d a b c n t):=by
 refine Ev.step (fun k=>by rw [Ya.j0]) ?_
 have key:∀ x:Bool,(x=if o=2 then (c != 0) else if t.toList=[] then (if o=4 then false else (c != 0)) else true)→Ev (fun k=>Ya.j1 k (Yj s d) (Yj s a) (Yj s b) M x l0 p v s l4 o d a b c n t) (jl l0.length s o d a b c n t):=by
  intro x hx
  have e:jl l0.length s o d a b c n t=(!x && jB (Yj s d) (Yj s a) (Yj s b) (Yj s c) M o d a b n t):=by
   subst hM;subst hx;unfold jl jB
   by_cases h0:o=0
   ·subst h0;rw [Bool.eq_iff_iff]
    by_cases ht:t.toList=[] <;> simp [ht]
    all_goals (constructor <;> intro h <;> simp_all)
   by_cases h1:o=1
   ·subst h1;rw [Bool.eq_iff_iff]
    by_cases ht:t.toList=[] <;> simp [ht]
    all_goals (constructor <;> intro h <;> simp_all)
   by_cases h2:o=2
   ·subst h2;rw [Bool.eq_iff_iff];simp
    constructor <;> intro h <;> simp_all
   by_cases h3:o=3
   ·subst h3;rw [Bool.eq_iff_iff]
    by_cases ht:t.toList=[] <;> simp [ht]
    all_goals (constructor <;> intro h <;> simp_all)
   by_cases h4:o=4
   ·subst h4;rw [Bool.eq_iff_iff]
    by_cases ht:t.toList=[] <;> simp [ht]
    all_goals (constructor <;> intro h <;> simp_all)
   by_cases h5:o=5
   ·subst h5;rw [Bool.eq_iff_iff]
    by_cases ht:t.toList=[] <;> simp [ht]
    all_goals (constructor <;> intro h <;> simp_all)
   by_cases h6:o=6
   ·subst h6;rw [Bool.eq_iff_iff]
    by_cases ht:t.toList=[] <;> simp [ht]
    all_goals (constructor <;> intro h <;> simp_all)
   simp [h0,h1,h2,h3,h4,h5,h6]
  rw [e];exact lF _ _ _ _ _ hs hs'
 by_cases h2:o=2
 ·exact Ev.pos h2 (Ev.neg (by omega) (key _ (by rw [if_pos h2])))
 ·refine Ev.neg h2 ?_
  by_cases ht:t.toList=([]:List UInt8)
  ·refine Ev.pos ht ?_
   by_cases h4:o=4
   ·exact Ev.pos h4 (key _ (by rw [if_neg h2,if_pos ht,if_pos h4]))
   ·exact Ev.neg h4 (key _ (by rw [if_neg h2,if_pos ht,if_neg h4]))
  ·exact Ev.neg ht (key _ (by rw [if_neg h2,if_neg ht]))
theorem zz (hs:0 ≤ s) (hs':s ≤ 1000) (hl:l0.length ≤ 1048576):Ev (fun k=>Ya.f k l0 p v s l4 o d a b c n t) (jl l0.length s o d a b c n t):=by
 unfold Ya.f;rw [jh (x:=s - 1) (by omega) (by omega),jh (x:=(l0.length:Int) - 1) (by omega) (by omega)];refine Ev.bind (Yf _ _ _) (Ev.bind (Yf _ _ _) (Ev.bind (Yf _ _ _) ?_));simp only [nG];cases ha:Yj s a with
 | true =>
  refine Ev.pos rfl ?_;cases hb:Yj s b with
  | true=>exact Ev.pos rfl (Ev.bind (Yf _ _ _) (by have:=um (l0:=l0) (p:=p) (v:=v) (s:=s) (l4:=l4) (o:=o) (d:=d) (a:=a) (b:=b) (c:=c) (n:=n) (t:=t) (Uk n 0 ((l0.length:Int) - 1)) (by simp [ha,hb]) hs hs';rw [ha,hb] at this;exact this))
  | false=>exact Ev.neg (by simp) (by have:=um (l0:=l0) (p:=p) (v:=v) (s:=s) (l4:=l4) (o:=o) (d:=d) (a:=a) (b:=b) (c:=c) (n:=n) (t:=t) false (by simp [hb]) hs hs';rw [ha,hb] at this;exact this)
 | false =>
  refine Ev.neg (by simp) ?_
  by_cases h1:a = -1
  ·refine Ev.pos h1 ?_;cases hb:Yj s b with
   | true=>exact Ev.pos rfl (Ev.bind (Yf _ _ _) (by have:=um (l0:=l0) (p:=p) (v:=v) (s:=s) (l4:=l4) (o:=o) (d:=d) (a:=a) (b:=b) (c:=c) (n:=n) (t:=t) (Uk n 0 ((l0.length:Int) - 1)) (by simp [h1,hb]) hs hs';rw [ha,hb] at this;exact this))
   | false=>exact Ev.neg (by simp) (by have:=um (l0:=l0) (p:=p) (v:=v) (s:=s) (l4:=l4) (o:=o) (d:=d) (a:=a) (b:=b) (c:=c) (n:=n) (t:=t) false (by simp [hb]) hs hs';rw [ha,hb] at this;exact this)
  ·exact Ev.neg h1 (by have:=um (l0:=l0) (p:=p) (v:=v) (s:=s) (l4:=l4) (o:=o) (d:=d) (a:=a) (b:=b) (c:=c) (n:=n) (t:=t) false (by simp [ha,h1]) hs hs';rw [ha] at this;exact this)
theorem RG (code:List ee) (j ba tg els:Int) (hs:0 ≤ s) (hs':s ≤ 1000) (hl:l0.length ≤ 1048576) (hl4:l4.length ≤ 1048576) (hc:code.length ≤ 1048576):Ev (fun k=>Xb.f k l0 p v s l4 code j ba tg els) (Uj l0.length s l4.length code j ba tg els):=by
 unfold Xb.f;have key:=SG (n:=code.length) (R:=(if j=0 then Uk tg 0 ((l4.length:Int) - 1) && ba == 0 && els == 0 else if j=1 then Uk tg 0 ((l4.length:Int) - 1) && Uk els 0 ((l4.length:Int) - 1) && Yj s ba else if j=2 then Yj s ba && tg == 0 && els == 0 else false)) (e:=false) (fun i=>gl l0.length s (code.getD i Zp)=true) (fun i k=>Xb.l0 k (i:Int) l0 p v s l4 code j ba tg els) ?_ ?_ ?_
 ·have e:(bif Ix code.length (fun i=>gl l0.length s (code.getD i Zp)=true) then (if j=0 then Uk tg 0 ((l4.length:Int) - 1) && ba == 0 && els == 0 else if j=1 then Uk tg 0 ((l4.length:Int) - 1) && Uk els 0 ((l4.length:Int) - 1) && Yj s ba else if j=2 then Yj s ba && tg == 0 && els == 0 else false) else false)=Uj l0.length s l4.length code j ba tg els:=by
   rw [Rw];unfold Uj;rw [decide_eq_true hs,Bool.and_true];cases (!(code.any fun x=>!gl l0.length s x)) <;> rfl
  rw [e] at key;exact key
 ·refine Ev.step (fun k=>by rw [Xb.l0]) (Ev.neg (by omega) ?_);rw [jh (x:=s - 1) (by omega) (by omega),jh (x:=(l4.length:Int) - 1) (by omega) (by omega)];refine Ev.bind (Yf _ _ _) (Ev.bind (Yf _ _ _) ?_);rw [nG s ba]
  by_cases h0:j=0
  ·rw [if_pos h0,if_pos h0,Bool.and_assoc];exact Ev.and fun _=>Ev.yA fun _=>Ev.now _
  rw [if_neg h0,if_neg h0]
  by_cases h1:j=1
  ·rw [if_pos h1,if_pos h1,Bool.and_assoc,Bool.and_comm (Uk els 0 ((l4.length:Int) - 1))];exact Ev.and fun _=>Ev.and fun _=>Ev.bind (Yf _ _ _) (Ev.now _)
  rw [if_neg h1,if_neg h1]
  by_cases h2:j=2
  ·rw [if_pos h2,if_pos h2,Bool.and_assoc];exact Ev.and fun _=>Ev.yA fun _=>Ev.now _
  rw [if_neg h2,if_neg h2];exact Ev.now _
 ·intro i hi hp r hr;refine Ev.step (fun k=>by rw [Xb.l0]) (Ev.pos (by omega) (Ev.pos (by omega) ?_));refine Ev.bind (zz hs hs' hl) ?_;have hq:jl l0.length s (Fa code (i:Int)).f0 (Fa code (i:Int)).f1 (Fa code (i:Int)).f2 (Fa code (i:Int)).f3 (Fa code (i:Int)).f4 (Fa code (i:Int)).f5 (Fa code (i:Int)).f6=true:=hp;refine Ev.pos hq ?_;rw [mg hi (by omega)];exact hr
 ·intro i hi hp;refine Ev.step (fun k=>by rw [Xb.l0]) (Ev.pos (by omega) (Ev.pos (by omega) ?_));refine Ev.bind (zz hs hs' hl) ?_;exact Ev.neg hp (Ev.now _)
end
def Dd (l:List Te):Nat:=(l.map fun x=>x.f0.length).sum
def Fw (l0:List Int) (p v s:Int) (n4:Nat):Bool:=Zs l0 p v && Uk s v 1000 && Uk (n4:Int) 1 300
def wm (l0:List Int) (s:Int) (l4:List Te) (x:Te):Bool:=Uj l0.length s l4.length x.f0 x.f1 x.f2 x.f3 x.f4
def Lk (l0:List Int) (p v s:Int) (l4:List Te):Bool:=Fw l0 p v s l4.length && (!(l4.any fun x=>!wm l0 s l4 x) && decide (Dd l4 ≤ 1000))
theorem au (l:List Te) (i:Nat) (h:i < l.length):Dd (l.take (i + 1))=Dd (l.take i) + l[i].f0.length:=by
 unfold Dd;rw [List.take_succ_eq_append_getElem h,List.map_append,List.sum_append];simp
theorem Vy (l:List Nat) (i:Nat):(l.take i).sum ≤ l.sum:=by
 conv=>rhs;rw [← List.take_append_drop i l]
 rw [List.sum_append];omega
theorem Wy (l:List Te) (i:Nat):Dd (l.take i) ≤ Dd l:=by
 unfold Dd;rw [List.map_take];exact Vy _ _
theorem BL {l0:List Int} {p v s:Int} {n4:Nat} (h:Fw l0 p v s n4=true):1 ≤ l0.length∧l0.length ≤ 4∧0 ≤ p∧p ≤ v∧p ≤ 6∧v ≤ 20∧v ≤ s∧s ≤ 1000∧1 ≤ n4∧n4 ≤ 300:=by
 unfold Fw Zs Uk at h;simp only [Bool.and_eq_true,decide_eq_true_eq] at h;obtain ⟨⟨⟨⟨⟨⟨h1,h2⟩,_⟩,h3,h4⟩,h5⟩,h6,h7⟩,h8,h9⟩:=h
 split at h4 <;> omega
section
variable {l0:List Int} {p v s:Int} {l4:List Te}
theorem QG (h0:l0.length ≤ 1048576) (hl4:l4.length ≤ 1048576) (ht:Dd l4 ≤ 1048576):Ev (fun k=>Sb.f k l0 p v s l4) (Lk l0 p v s l4):=by
 unfold Sb.f Lg.f;simp only [List.length_nil,if_true];refine Ev.val ?_
 have no:∀ {r:Bool},r=false→Ev (fun k=>Sb.j0 k true l0 p v s l4) r:=by
  intro r hr;subst hr;exact Ev.step (fun k=>by rw [Sb.j0]) (Ev.pos rfl (Ev.now _))
 unfold Lk Fw;cases hp:Zs l0 p v with
 | false=>exact Ev.neg (by simp) (no (by simp))
 | true =>
  refine Ev.pos rfl (Ev.bind (Ev.here (zE _ _ _)) ?_);cases hv:Uk s v 1000 with
  | false=>exact Ev.neg (by simp) (no (by simp))
  | true =>
   refine Ev.pos rfl (Ev.bind (Ev.here (zE _ _ _)) ?_);cases hn:Uk (l4.length:Int) 1 300 with
   | false=>exact no (by simp)
   | true =>
    refine Ev.step (fun k=>by rw [Sb.j0]) (Ev.neg (by simp) ?_);simp only [Bool.true_and];have key:=SG (n:=l4.length) (R:=decide (Dd l4 ≤ 1000)) (e:=false) (fun i=>wm l0 s l4 (l4.getD i cA)=true) (fun i k=>Sb.l0 k (Dd (l4.take i):Int) l4 (l4.length:Int) (i:Int) l0 p v s l4) ?_ ?_ ?_
    ·have e:(bif Ix l4.length (fun i=>wm l0 s l4 (l4.getD i cA)=true) then decide (Dd l4 ≤ 1000) else false)=(!(l4.any fun x=>!wm l0 s l4 x) && decide (Dd l4 ≤ 1000)):=by
      rw [Rw];cases (!(l4.any fun x=>!wm l0 s l4 x)) <;> rfl
     rw [e] at key
     simpa [Dd] using key
    ·refine Ev.step (fun k=>by rw [Sb.l0]) (Ev.neg (by omega) ?_);rw [List.take_length]
     have e:decide ((Dd l4:Int) ≤ 1000)=decide (Dd l4 ≤ 1000):=by
      rw [Bool.eq_iff_iff,decide_eq_true_iff,decide_eq_true_iff];omega
     rw [e];exact Ev.now _
    ·intro i hi hq r hr;refine Ev.step (fun k=>by rw [Sb.l0]) (Ev.pos (by omega) (Ev.pos (by omega) (Ev.pos (by omega) ?_)));unfold Ei.f;have hq':Uj l0.length s l4.length (Ka l4 (i:Int)).f0 (Ka l4 (i:Int)).f1 (Ka l4 (i:Int)).f2 (Ka l4 (i:Int)).f3 (Ka l4 (i:Int)).f4=true:=hq;refine Ev.val (Ev.pos hq' ?_);have h1:=au l4 i hi;have h2:=Wy l4 (i + 1);rw [qo hi,mg hi (by omega),jh (x:=(Dd (l4.take i):Int) + (l4[i].f0.length:Int)) (by omega) (by omega),show (Dd (l4.take i):Int) + (l4[i].f0.length:Int)=(Dd (l4.take (i + 1)):Int) from by omega];exact hr
    ·intro i hi hq;refine Ev.step (fun k=>by rw [Sb.l0]) (Ev.pos (by omega) (Ev.pos (by omega) (Ev.pos (by omega) ?_)));unfold Ei.f;exact Ev.val (Ev.neg hq (Ev.now _))
theorem UG (h0:l0.length ≤ 1048576) (hl4:l4.length ≤ 1048576) (ht:Dd l4 ≤ 1048576):Ev (fun k=>Va.f k l0 p v s l4) (Lk l0 p v s l4):=by
 unfold Va.f
 have no:∀ {r:Bool},r=false→Ev (fun k=>Va.j1 k true l0 p v s l4) r:=by
  intro r hr;subst hr;exact Ev.step (fun k=>by rw [Va.j1]) (Ev.pos rfl (Ev.now _))
 have key:=SG (n:=l0.length) (R:=Uk (l0.length:Int) 1 4 && (Uk v 0 20 && (Uk p 0 6 && (decide (p ≤ v) && (Uk s v 1000 && (Uk (l4.length:Int) 1 300 && (!(l4.any fun x=>!wm l0 s l4 x) && decide (Dd l4 ≤ 1000)))))))) (e:=false) (fun i=>Uk (l0.getD i 0) 1 16=true) (fun i k=>Va.l0 k (i:Int) l0 p v s l4) ?_ ?_ ?_
 ·have e:(bif Ix l0.length (fun i=>Uk (l0.getD i 0) 1 16=true) then (Uk (l0.length:Int) 1 4 && (Uk v 0 20 && (Uk p 0 6 && (decide (p ≤ v) && (Uk s v 1000 && (Uk (l4.length:Int) 1 300 && (!(l4.any fun x=>!wm l0 s l4 x) && decide (Dd l4 ≤ 1000)))))))) else false)=Lk l0 p v s l4:=by
   rw [Rw l0 0 (fun x=>Uk x 1 16)];unfold Lk Fw Zs;rw [Bool.eq_iff_iff];cases (!(l0.any fun x=>!Uk x 1 16))
   ·simp
   ·simp only [cond_true,Bool.and_eq_true,Uk,decide_eq_true_eq,and_assoc,true_and]
    constructor
    ·rintro ⟨h1,h2,h3,h4,h5,h6,h7,h8⟩;refine ⟨h1,h2,h5,?_,h4,h8⟩
     split <;> omega
    ·rintro ⟨h1,h2,h5,h6,h4,h7,h8,h9⟩;refine ⟨h1,h2,?_⟩
     split at h6 <;> exact ⟨by omega,by omega,by omega,by omega,by omega,h7,h8,h9⟩
  rw [e] at key;exact key
 ·refine Ev.step (fun k=>by rw [Va.l0]) (Ev.neg (by omega) ?_);refine Ev.bind (Yf _ _ _) ?_;cases hb0:Uk (l0.length:Int) 1 4 with
  | false=>exact Ev.neg (by simp) (no (by simp))
  | true =>
   refine Ev.pos rfl (Ev.bind (Yf _ _ _) ?_);cases Xp:Uk v 0 20 with
   | false=>exact Ev.neg (by simp) (no (by simp))
   | true =>
    refine Ev.pos rfl (Ev.bind (Yf _ _ _) ?_);cases ij:Uk p 0 6 with
    | false=>exact Ev.neg (by simp) (no (by simp))
    | true =>
     refine Ev.pos rfl ?_
     by_cases hpv:p > v
     ·refine Ev.pos hpv (no ?_);rw [decide_eq_false (show ¬ p ≤ v from by omega)];simp
     ·refine Ev.neg hpv (Ev.bind (Yf _ _ _) ?_);rw [decide_eq_true (show p ≤ v from by omega)];cases eA:Uk s v 1000 with
      | false=>exact Ev.neg (by simp) (no (by simp))
      | true =>
       refine Ev.pos rfl (Ev.bind (Yf _ _ _) ?_);cases vT:Uk (l4.length:Int) 1 300 with
       | false=>exact no (by simp)
       | true =>
        refine Ev.step (fun k=>by rw [Va.j1]) (Ev.neg (by simp) ?_);simp only [Bool.true_and];have hs0:0 ≤ s∧s ≤ 1000:=by simp [Uk] at Xp eA;omega
        have key:=Hi (r:=true) (n:=l4.length) (fun i=>Dd (l4.take i) ≤ 1000→Ev (fun k=>Va.l1 k (Dd (l4.take i):Int) (i:Int) l0 p v s l4) (!((l4.drop i).any fun x=>!wm l0 s l4 x) && decide (Dd l4 ≤ 1000))) ?_ ?_ 0 (by omega) (by simp [Dd])
        ·rw [List.drop_zero] at key
         simpa [Dd] using key
        ·intro h;rw [List.take_length] at h;refine Ev.step (fun k=>by rw [Va.l1]) (Ev.neg (by omega) ?_);rw [List.drop_length,decide_eq_true h];exact Ev.now _
        ·intro i hi ih h;have h1:=au l4 i hi;have h2:=Wy l4 (i + 1);refine Ev.step (fun k=>by rw [Va.l1]) (Ev.pos (by omega) (Ev.pos (by omega) ?_));rw [qo hi,jh (x:=(Dd (l4.take i):Int) + (l4[i].f0.length:Int)) (by omega) (by omega),show (Dd (l4.take i):Int) + (l4[i].f0.length:Int)=(Dd (l4.take (i + 1)):Int) from by omega]
         have hd:((l4.drop i).any fun x=>!wm l0 s l4 x)=(!wm l0 s l4 l4[i] || (l4.drop (i + 1)).any fun x=>!wm l0 s l4 x):=by
          rw [List.drop_eq_getElem_cons hi,List.any_cons]
         rw [hd]
         by_cases hgt:(Dd (l4.take (i + 1)):Int) > 1000
         ·rw [decide_eq_false (show ¬ Dd l4 ≤ 1000 from by omega),Bool.and_false];exact Ev.pos hgt (Ev.now _)
         ·refine Ev.neg hgt (Ev.bind (RG _ _ _ _ _ hs0.1 hs0.2 h0 hl4 (by omega)) ?_);cases hq:wm l0 s l4 l4[i] with
          | false =>
           have hq':¬ Uj l0.length s l4.length l4[i].f0 l4[i].f1 l4[i].f2 l4[i].f3 l4[i].f4=true:=by
            have e:Uj l0.length s l4.length l4[i].f0 l4[i].f1 l4[i].f2 l4[i].f3 l4[i].f4=false:=hq;rw [e];simp
           exact Ev.neg hq' (Ev.now _)
          | true =>
           have hq':Uj l0.length s l4.length l4[i].f0 l4[i].f1 l4[i].f2 l4[i].f3 l4[i].f4=true:=hq;refine Ev.pos hq' ?_;rw [mg hi (by omega),Bool.not_true,Bool.false_or];exact ih (by omega)
 ·intro i hi hq r hr;refine Ev.step (fun k=>by rw [Va.l0]) (Ev.pos (by omega) (Ev.pos (by omega) ?_));refine Ev.bind (Yf _ _ _) (Ev.pos hq ?_);rw [mg hi (by omega)];exact hr
 ·intro i hi hq;refine Ev.step (fun k=>by rw [Va.l0]) (Ev.pos (by omega) (Ev.pos (by omega) ?_));exact Ev.bind (Yf _ _ _) (Ev.neg hq (Ev.now _))
end
end Go.Proofs.Ytmifdccaajngcaa.P
end
section
namespace Go.Proofs.Ytmifdccaajngcaa.P
open Go.RowKit Go.Proofs.Oa.Rb Go.Proofs.Oa.Ee Go.Proofs.Oa.Wf
set_option linter.unusedVariables false
set_option linter.unusedSimpArgs false
section
variable {l0:List Int} {p v s:Int} {l4:List Te}
theorem xD (h:Lk l0 p v s l4=true):Fw l0 p v s l4.length=true∧(∀ b ∈ l4,wm l0 s l4 b=true)∧Dd l4 ≤ 1000:=by
 unfold Lk at h;simp only [Bool.and_eq_true,Bool.not_eq_true',List.any_eq_false,decide_eq_true_eq] at h;exact ⟨h.1,fun b hb=>by have:=h.2.1 b hb;simpa using this,h.2.2⟩
theorem kH {b:Te} (h:wm l0 s l4 b=true):∀ x ∈ b.f0,gl l0.length s x=true:=by
 unfold wm Uj at h;simp only [Bool.and_eq_true,Bool.not_eq_true',List.any_eq_false] at h;intro x hx;have:=h.1.1 x hx
 simpa using this
theorem dw (l:List Te) (b:Te) (hb:b ∈ l):b.f0.length ≤ Dd l:=by
 unfold Dd;exact iz (List.mem_map.mpr ⟨b,hb,rfl⟩)
end
end Go.Proofs.Ytmifdccaajngcaa.P
end
section
namespace Go.Proofs.Ytmifdccaajngcaa.P
open Go.RowKit Go.Proofs.Oa.Rb Go.Proofs.Oa.Ee Go.Proofs.Oa.Wf
set_option linter.unusedVariables false
set_option linter.unusedSimpArgs false
attribute [local go_sem] xj uj Zk Yk ai Zh wj tj
def gm.f (Mb:Int) (Pa:Int) (Na:Int) (Ma:Int) (Lb:Int) (Zc:Int) (jd:ByteArray):Option (Bool):=if Mb=4 then (some false) else (some (Mb != 6))
theorem gm.calls (Mb:Int) (Pa:Int) (Na:Int) (Ma:Int) (Lb:Int) (Zc:Int) (jd:ByteArray) (r:Bool) (w:World) (h:gm.f Mb Pa Na Ma Lb Zc jd=some r) :
  Calls Try.prog 100 #[.agg #[.int .i64 Mb,.int .i64 Pa,.int .i64 Na,.int .i64 Ma,.int .i64 Lb,.int .i64 Zc,.string jd]] w fun e w'=>e = .returned (.bool r)∧Below w.heap.size w w':=by
 have JE:=Try.underlying70;have HB:=ia.mk (Below.refl w.heap.size w);have H:(if Mb=4 then (some false) else (some (Mb != 6)))=some r:=h;clear h
 by_cases c2:Mb=4
 ·rw [if_pos c2] at H;have Hx:(Mb == 4)=true:=beq_iff_eq.mpr c2;have FD:(Mb != 4)=false:=bne_eq_false_iff_eq.mpr c2;clear c2;obtain rfl:=Option.some.inj H;go_enter Try.func100,Try.ntmps100;go_wp2_with (first|((with_reducible refine Bb (N:=1) rfl ?_);refine Ab ?hg (N:=1) ?hd (cs:=#[.int .i64 Mb,.int .i64 Pa,.int .i64 Na,.int .i64 Ma,.int .i64 Lb,.int .i64 Zc,.string jd]) (t:=70) ?hr ?_;(case hd=>rfl);(case hg=>rfl);(case hr=>first|(go_simp;done)|(go_simp;rfl));intro Da hg w3 Nb hb;have Kb:=ia.mk (Ra (by repeat (first|(with_reducible first|exact HB.out|apply oa|apply ja|apply qa)|exact HB.out)) hb);have Ub:=ia.mk (Nb);have yc:=ia.mk ((by rw [hg];exact (Qa (by repeat (first|(with_reducible first|exact HB.out|apply oa|apply ja|apply qa)|exact HB.out))):w.heap.size ≤ Da));have Tc:=ia.mk ((by rw [hg];exact (Qa (by repeat (first|(with_reducible first|exact HB.out|apply oa|apply ja|apply qa)|exact HB.out))):w.heap.size ≤ Da));clear HB;have HB:=Kb;have ta:=Ub;have Df:=yc;have Ua:=Tc;clear Kb Ub yc Tc hb Nb hg;have DX:w3.cell? ⟨Da,0,none⟩=some (.int .i64 Mb):=(ga ta.out 0).trans rfl;have CX:w3.cell? ⟨Da,1,none⟩=some (.int .i64 Pa):=(ga ta.out 1).trans rfl;have BX:w3.cell? ⟨Da,2,none⟩=some (.int .i64 Na):=(ga ta.out 2).trans rfl;have AX:w3.cell? ⟨Da,3,none⟩=some (.int .i64 Ma):=(ga ta.out 3).trans rfl;have zX:w3.cell? ⟨Da,4,none⟩=some (.int .i64 Lb):=(ga ta.out 4).trans rfl;have yX:w3.cell? ⟨Da,5,none⟩=some (.int .i64 Zc):=(ga ta.out 5).trans rfl;have xX:w3.cell? ⟨Da,6,none⟩=some (.string jd):=(ga ta.out 6).trans rfl;have jX:=aa ta.out 0;have iX:=aa ta.out 1;have gX:=aa ta.out 2;have fX:=aa ta.out 3;have eX:=aa ta.out 4;have dX:=aa ta.out 5;have cX:=aa ta.out 6));go_ret;exact ⟨by first|rfl|(simp [Ja,Ia] <;> rfl)|(simp [*,Ja,Ia] <;> rfl),by repeat (first|(with_reducible first|exact HB.out|apply oa|apply ja|apply qa|refine ua ?_ Ua.out)|exact HB.out)⟩
 ·rw [if_neg c2] at H;have Hx:(Mb == 4)=false:=beq_eq_false_iff_ne.mpr c2;have FD:(Mb != 4)=true:=bne_iff_ne.mpr c2;obtain rfl:=Option.some.inj H;go_enter Try.func100,Try.ntmps100;go_wp2_with (first|((with_reducible refine Bb (N:=1) rfl ?_);refine Ab ?hg (N:=1) ?hd (cs:=#[.int .i64 Mb,.int .i64 Pa,.int .i64 Na,.int .i64 Ma,.int .i64 Lb,.int .i64 Zc,.string jd]) (t:=70) ?hr ?_;(case hd=>rfl);(case hg=>rfl);(case hr=>first|(go_simp;done)|(go_simp;rfl));intro Da hg w5 Nb hb;have Kb:=ia.mk (Ra (by repeat (first|(with_reducible first|exact HB.out|apply oa|apply ja|apply qa)|exact HB.out)) hb);have Ub:=ia.mk (Nb);have yc:=ia.mk ((by rw [hg];exact (Qa (by repeat (first|(with_reducible first|exact HB.out|apply oa|apply ja|apply qa)|exact HB.out))):w.heap.size ≤ Da));have Tc:=ia.mk ((by rw [hg];exact (Qa (by repeat (first|(with_reducible first|exact HB.out|apply oa|apply ja|apply qa)|exact HB.out))):w.heap.size ≤ Da));clear HB;have HB:=Kb;have ta:=Ub;have Df:=yc;have Ua:=Tc;clear Kb Ub yc Tc hb Nb hg;have Gt:w5.cell? ⟨Da,0,none⟩=some (.int .i64 Mb):=(ga ta.out 0).trans rfl;have Ft:w5.cell? ⟨Da,1,none⟩=some (.int .i64 Pa):=(ga ta.out 1).trans rfl;have Et:w5.cell? ⟨Da,2,none⟩=some (.int .i64 Na):=(ga ta.out 2).trans rfl;have Dt:w5.cell? ⟨Da,3,none⟩=some (.int .i64 Ma):=(ga ta.out 3).trans rfl;have Ct:w5.cell? ⟨Da,4,none⟩=some (.int .i64 Lb):=(ga ta.out 4).trans rfl;have Dah:w5.cell? ⟨Da,5,none⟩=some (.int .i64 Zc):=(ga ta.out 5).trans rfl;have Cah:w5.cell? ⟨Da,6,none⟩=some (.string jd):=(ga ta.out 6).trans rfl;have Bt:=aa ta.out 0;have yt:=aa ta.out 1;have vt:=aa ta.out 2;have qt:=aa ta.out 3;have ot:=aa ta.out 4;have rah:=aa ta.out 5;have qah:=aa ta.out 6));go_ret;exact ⟨by first|rfl|(simp [Ja,Ia] <;> rfl)|(simp [*,Ja,Ia] <;> rfl),by repeat (first|(with_reducible first|exact HB.out|apply oa|apply ja|apply qa|refine ua ?_ Ua.out)|exact HB.out)⟩
def Td.l0:Nat→Int→List Int→Int→Int→Int→List (Te)→List Int→Int→Int→Int→List (Te)→Option (List Int × Int × Int × Int × (List (Te)))
 | 0,_,_,_,_,_,_,_,_,_,_,_=>none
 | k + 1,x4,Sd,ie,yd,Ld,Fc,Yt,Xt,Wt,Vt,Oo=>if x4 < (Fc.length:Int) then (if 0 ≤ x4 then ((some (([]:List (ee)):List (ee))).bind fun dm=>(if dm.length + ((Ka Fc x4).f0).length < 2199023255552 then (if Oo.length < 2513169434916 then (Td.l0 k (wrap64 (x4 + 1)) Sd ie yd Ld Fc Yt Xt Wt Vt (Oo ++ [(⟨(dm ++ ((Ka Fc x4).f0)),(Ka Fc x4).f1,(Ka Fc x4).f2,(Ka Fc x4).f3,(Ka Fc x4).f4⟩:Te)])) else (none)) else (none))) else (none)) else (some (Yt,Xt,Wt,Vt,Oo))
def Td.f (k:Nat) (Sa:List Int) (Pa:Int) (Na:Int) (Ma:Int) (La:List (Te)):Option (List Int × Int × Int × Int × (List (Te))):=(some (([]:List Int):List Int)).bind fun Ke=>(if Ke.length + Sa.length < 17592186044416 then (Td.l0 k 0 Sa Pa Na Ma La (Ke ++ Sa) Pa Na Ma (([]:List (Te)))) else (none))
theorem Td.calls (k:Nat) (xb:Option Addr) (qb:Nat) (Sa:List Int) (Pa:Int) (Na:Int) (Ma:Int) (Qb:Option Addr) (Fb:Nat) (La:List (Te)) (r1:List Int) (r2:Int) (r3:Int) (r4:Int) (r5:List (Te)) (w:World) (zf:Kd.C (Kd.int .i64) w xb Sa.length Sa) (uf:Sa.length ≤ qb) (Ig:Kd.C Tk w Qb La.length La) (Cg:La.length ≤ Fb) (h:Td.f k Sa Pa Na Ma La=some (r1,r2,r3,r4,r5)) :
  Calls Try.prog 65 #[.agg #[.slice xb Sa.length qb,.int .i64 Pa,.int .i64 Na,.int .i64 Ma,.slice Qb La.length Fb]] w fun e w'=>∃ Yw LH:Value,e = .returned (.agg #[Yw,.int .i64 r2,.int .i64 r3,.int .i64 r4,LH])∧Kd.R (Kd.int .i64) 3 w' w.heap.size (fun _=>True) Yw r1∧Kd.S Tk 68 w' w.heap.size (fun _=>True) LH r5∧Below w.heap.size w w':=by
 have ME:=Try.underlying30;have KE:=Try.underlying68;have Qf:=ia.mk zf;have sg:=ia.mk uf;clear zf uf;have Dh:=ia.mk Ig;have Xj:=ia.mk Cg;clear Ig Cg;have HB:=ia.mk (Below.refl w.heap.size w);have H:((some (([]:List Int):List Int)).bind fun Ke=>(if Ke.length + Sa.length < 17592186044416 then (Td.l0 k 0 Sa Pa Na Ma La (Ke ++ Sa) Pa Na Ma (([]:List (Te)))) else (none)))=some (r1,r2,r3,r4,r5):=h;clear h;obtain ⟨Ke,om⟩:∃ y_:List Int,y_=(([]:List Int)):=⟨_,rfl⟩;replace H:(if Ke.length + Sa.length < 17592186044416 then (Td.l0 k 0 Sa Pa Na Ma La (Ke ++ Sa) Pa Na Ma (([]:List (Te)))) else (none))=some (r1,r2,r3,r4,r5):=by first|(rw [om];with_reducible exact H)|(have Vg:=(Option.bind_some _ _).symm.trans H;rw [om];with_reducible exact Vg)|(have Vg:=(Option.bind_some _ _).symm.trans H;with_reducible exact Vg)|with_reducible exact H|(rw [om];exact H)|exact H
 have Mz:=ia.mk om;clear om
 by_cases c2:Ke.length + Sa.length < 17592186044416
 ·rw [if_pos c2] at H;have CY:=ia.mk c2;clear c2;obtain ⟨ug,iq⟩:∃ y_:List Int,y_=(Ke ++ Sa):=⟨_,rfl⟩;replace H:(Td.l0 k 0 Sa Pa Na Ma La ug Pa Na Ma (([]:List (Te))))=some (r1,r2,r3,r4,r5):=by first|(rw [iq];with_reducible exact H)|(have Vg:=(Option.bind_some _ _).symm.trans H;rw [iq];with_reducible exact Vg)|(have Vg:=(Option.bind_some _ _).symm.trans H;with_reducible exact Vg)|with_reducible exact H|(rw [iq];exact H)|exact H
  have BO:=ia.mk iq;clear iq;obtain ⟨rM,DE⟩:∃ y_:List (Te),y_=(([]:List (Te))):=⟨_,rfl⟩;replace H:(Td.l0 k 0 Sa Pa Na Ma La ug Pa Na Ma rM)=some (r1,r2,r3,r4,r5):=by first|(rw [DE];with_reducible exact H)|(have Vg:=(Option.bind_some _ _).symm.trans H;rw [DE];with_reducible exact Vg)|(have Vg:=(Option.bind_some _ _).symm.trans H;with_reducible exact Vg)|with_reducible exact H|(rw [DE];exact H)|exact H
  have pV:=ia.mk DE;clear DE;have H':=ia.mk H;clear H;go_enter Try.func65,Try.ntmps65;go_wp2_with (first|((with_reducible refine Bb (N:=1) rfl ?_);refine Ab ?hg (N:=1) ?hd (cs:=#[.slice xb Sa.length qb,.int .i64 Pa,.int .i64 Na,.int .i64 Ma,.slice Qb La.length Fb]) (t:=30) ?hr ?_;(case hd=>rfl);(case hg=>rfl);(case hr=>first|(go_simp;done)|(go_simp;rfl));intro Da hg w3 Nb hb;have Kb:=ia.mk (Ra (by repeat (first|(with_reducible first|exact HB.out|apply oa|apply ja|apply qa)|exact HB.out)) hb);have Ub:=ia.mk (Nb);have yc:=ia.mk ((by rw [hg];exact (Qa (by repeat (first|(with_reducible first|exact HB.out|apply oa|apply ja|apply qa)|exact HB.out))):w.heap.size ≤ Da));have Tc:=ia.mk ((by rw [hg];exact (Qa (by repeat (first|(with_reducible first|exact HB.out|apply oa|apply ja|apply qa)|exact HB.out))):w.heap.size ≤ Da));clear HB;have HB:=Kb;have ta:=Ub;have Df:=yc;have Ua:=Tc;clear Kb Ub yc Tc hb Nb hg)|((with_reducible refine Bb (N:=2) rfl ?_);refine Ab ?hg (N:=2) ?hd (cs:=#[.slice none 0 0,.int .i64 0,.int .i64 0,.int .i64 0,.slice none 0 0]) (t:=30) ?hr ?_;(case hd=>rfl);(case hg=>rfl);(case hr=>first|(go_simp;done)|(go_simp;rfl));intro Ga hg w4 Nb hb;have Kb:=ia.mk (Ta (g:=Da) (o:=.cells #[.slice xb Sa.length qb,.int .i64 Pa,.int .i64 Na,.int .i64 Ma,.slice Qb La.length Fb] 30 (0,0)) (by (with_reducible repeat (first|refine Aa ?_ _|refine Ca ?_|refine za ?_ _));exact ta.out) hb);have Ub:=ia.mk (Ra (by repeat (first|(with_reducible first|exact HB.out|apply oa|apply ja|apply qa|refine ua ?_ Ua.out)|exact HB.out)) hb);have yc:=ia.mk (Nb);have Tc:=ia.mk ((by rw [hg];exact (Qa (by repeat (first|(with_reducible first|exact HB.out|apply oa|apply ja|apply qa|refine ua ?_ Ua.out)|exact HB.out))):w.heap.size ≤ Ga));have tf:=ia.mk ((by rw [hg];exact (Qa (by repeat (first|(with_reducible first|exact HB.out|apply oa|apply ja|apply qa|refine ua ?_ Ua.out)|exact HB.out))):w.heap.size ≤ Ga));have Tf:=ia.mk ((by rw [hg];exact Nat.ne_of_lt (Wb (g:=Da) (o:=.cells #[.slice xb Sa.length qb,.int .i64 Pa,.int .i64 Na,.int .i64 Ma,.slice Qb La.length Fb] 30 (0,0)) (by (with_reducible repeat (first|refine Aa ?_ _|refine Ca ?_|refine za ?_ _));exact ta.out)):Da ≠ Ga));have cg:=ia.mk ((by rw [hg];exact Nat.ne_of_gt (Wb (g:=Da) (o:=.cells #[.slice xb Sa.length qb,.int .i64 Pa,.int .i64 Na,.int .i64 Ma,.slice Qb La.length Fb] 30 (0,0)) (by (with_reducible repeat (first|refine Aa ?_ _|refine Ca ?_|refine za ?_ _));exact ta.out)):Ga ≠ Da));clear ta HB;have ta:=Kb;have HB:=Ub;have ya:=yc;have ni:=Tc;have Cb:=tf;have Za:=Tf;have Xa:=cg;clear Kb Ub yc Tc tf Tf cg hb Nb hg;have R0:=Za.out;have XZ:=Xa.out;have Gt:w4.cell? ⟨Da,0,none⟩=some (.slice xb Sa.length qb):=(ga ta.out 0).trans rfl;have Ft:w4.cell? ⟨Da,1,none⟩=some (.int .i64 Pa):=(ga ta.out 1).trans rfl;have Et:w4.cell? ⟨Da,2,none⟩=some (.int .i64 Na):=(ga ta.out 2).trans rfl;have Dt:w4.cell? ⟨Da,3,none⟩=some (.int .i64 Ma):=(ga ta.out 3).trans rfl;have Ct:w4.cell? ⟨Da,4,none⟩=some (.slice Qb La.length Fb):=(ga ta.out 4).trans rfl;have Bt:=aa ta.out 0;have yt:=aa ta.out 1;have vt:=aa ta.out 2;have qt:=aa ta.out 3;have ot:=aa ta.out 4)|((with_reducible refine Bb (N:=3) rfl ?_);refine Ab ?hg (N:=3) ?hd (cs:=#[.slice none 0 0,.int .i64 0,.int .i64 0,.int .i64 0,.slice none 0 0]) (t:=30) ?hr ?_;(case hd=>rfl);(case hg=>rfl);(case hr=>first|(go_simp;done)|(go_simp;rfl));intro Pb hg w7 Nb hb;have Kb:=ia.mk (Ta (g:=Da) (o:=.cells #[.slice xb Sa.length qb,.int .i64 Pa,.int .i64 Na,.int .i64 Ma,.slice Qb La.length Fb] 30 (0,0)) (by (with_reducible repeat (first|refine Aa ?_ _|refine Ca ?_|refine za ?_ _));exact ta.out) hb);have Ub:=ia.mk (Ta (g:=Ga) (o:=.cells #[.slice none 0 0,.int .i64 0,.int .i64 0,.int .i64 0,.slice none 0 0] 30 (0,0)) (by (with_reducible repeat (first|refine Aa ?_ _|refine Ca ?_|refine za ?_ _));exact ya.out) hb);have yc:=ia.mk (Ra (by repeat (first|(with_reducible first|exact HB.out|apply oa|apply ja|apply qa|refine ua ?_ Ua.out|refine ua ?_ Cb.out)|exact HB.out)) hb);have Tc:=ia.mk (Nb);have tf:=ia.mk ((by rw [hg];exact (Qa (by repeat (first|(with_reducible first|exact HB.out|apply oa|apply ja|apply qa|refine ua ?_ Ua.out|refine ua ?_ Cb.out)|exact HB.out))):w.heap.size ≤ Pb));have Tf:=ia.mk ((by rw [hg];exact (Qa (by repeat (first|(with_reducible first|exact HB.out|apply oa|apply ja|apply qa|refine ua ?_ Ua.out|refine ua ?_ Cb.out)|exact HB.out))):w.heap.size ≤ Pb));have cg:=ia.mk ((by rw [hg];exact Nat.ne_of_lt (Wb (g:=Da) (o:=.cells #[.slice xb Sa.length qb,.int .i64 Pa,.int .i64 Na,.int .i64 Ma,.slice Qb La.length Fb] 30 (0,0)) (by (with_reducible repeat (first|refine Aa ?_ _|refine Ca ?_|refine za ?_ _));exact ta.out)):Da ≠ Pb));have Np:=ia.mk ((by rw [hg];exact Nat.ne_of_gt (Wb (g:=Da) (o:=.cells #[.slice xb Sa.length qb,.int .i64 Pa,.int .i64 Na,.int .i64 Ma,.slice Qb La.length Fb] 30 (0,0)) (by (with_reducible repeat (first|refine Aa ?_ _|refine Ca ?_|refine za ?_ _));exact ta.out)):Pb ≠ Da));have GA:=ia.mk ((by rw [hg];exact Nat.ne_of_lt (Wb (g:=Ga) (o:=.cells #[.slice none 0 0,.int .i64 0,.int .i64 0,.int .i64 0,.slice none 0 0] 30 (0,0)) (by (with_reducible repeat (first|refine Aa ?_ _|refine Ca ?_|refine za ?_ _));exact ya.out)):Ga ≠ Pb));have FA:=ia.mk ((by rw [hg];exact Nat.ne_of_gt (Wb (g:=Ga) (o:=.cells #[.slice none 0 0,.int .i64 0,.int .i64 0,.int .i64 0,.slice none 0 0] 30 (0,0)) (by (with_reducible repeat (first|refine Aa ?_ _|refine Ca ?_|refine za ?_ _));exact ya.out)):Pb ≠ Ga));clear ta ya HB;have ta:=Kb;have ya:=Ub;have HB:=yc;have mb:=Tc;have VK:=tf;have Ef:=Tf;have Od:=cg;have xh:=Np;have Ec:=GA;have wh:=FA;clear Kb Ub yc Tc tf Tf cg Np GA FA hb Nb hg;have ZW:=xh.out;have XW:=Od.out;have YW:=wh.out;have WW:=Ec.out;have Tj:w7.cell? ⟨Pb,0,none⟩=some (.slice none 0 0):=(ga mb.out 0).trans rfl;have Sj:w7.cell? ⟨Pb,1,none⟩=some (.int .i64 0):=(ga mb.out 1).trans rfl;have Rj:w7.cell? ⟨Pb,2,none⟩=some (.int .i64 0):=(ga mb.out 2).trans rfl;have Qj:w7.cell? ⟨Pb,3,none⟩=some (.int .i64 0):=(ga mb.out 3).trans rfl;have Pj:w7.cell? ⟨Pb,4,none⟩=some (.slice none 0 0):=(ga mb.out 4).trans rfl;have Oj:=aa mb.out 0;have Nj:=aa mb.out 1;have Mj:=aa mb.out 2;have Lj:=aa mb.out 3;have Kj:=aa mb.out 4)|((with_reducible refine Bb (N:=7) rfl ?_);refine Kd.Ts (Kd.int .i64) _ 3 ?hg (N:=7) ?hd (xs:=([]:List Int)) (inner:=[]) (ok:=fun _=>True) (qk:=fun _=>True) ?hr ?hp (fun _ hk=>hk) trivial (Below.refl _ _) (Nat.le_refl _) (by simp) ?_;(case hd=>rfl);(case hg=>rfl);(case hr=>first|(go_simp;done)|(go_simp;rfl));(case hp=>exact (Me.none _ _));intro vM zi oz hb pz Bj;clear pz Bj;(first|rw [← Mz.out] at oz|(simp only [Int.reduceToNat] at oz;rw [← Mz.out] at oz));have Kb:=ia.mk (Kd.Eh oz (Qa (by repeat (first|(with_reducible first|exact HB.out|apply oa|apply ja|apply qa|refine ua ?_ Ua.out|refine ua ?_ Cb.out|refine ua ?_ Ef.out)|exact HB.out))));have Ub:=ia.mk (Ta (g:=Da) (o:=.cells #[.slice xb Sa.length qb,.int .i64 Pa,.int .i64 Na,.int .i64 Ma,.slice Qb La.length Fb] 30 (0,0)) (by (with_reducible repeat (first|refine Aa ?_ _|refine Ca ?_|refine za ?_ _));refine Db ?_ Od.out _;(with_reducible repeat (first|refine Aa ?_ _|refine Ca ?_|refine za ?_ _));refine Db ?_ Od.out _;(with_reducible repeat (first|refine Aa ?_ _|refine Ca ?_|refine za ?_ _));refine Db ?_ Od.out _;(with_reducible repeat (first|refine Aa ?_ _|refine Ca ?_|refine za ?_ _));refine Db ?_ Od.out _;(with_reducible repeat (first|refine Aa ?_ _|refine Ca ?_|refine za ?_ _));refine Db ?_ Od.out _;(with_reducible repeat (first|refine Aa ?_ _|refine Ca ?_|refine za ?_ _));exact ta.out) hb);have yc:=ia.mk (Ta (g:=Ga) (o:=.cells #[.slice none 0 0,.int .i64 0,.int .i64 0,.int .i64 0,.slice none 0 0] 30 (0,0)) (by (with_reducible repeat (first|refine Aa ?_ _|refine Ca ?_|refine za ?_ _));refine Db ?_ Ec.out _;(with_reducible repeat (first|refine Aa ?_ _|refine Ca ?_|refine za ?_ _));refine Db ?_ Ec.out _;(with_reducible repeat (first|refine Aa ?_ _|refine Ca ?_|refine za ?_ _));refine Db ?_ Ec.out _;(with_reducible repeat (first|refine Aa ?_ _|refine Ca ?_|refine za ?_ _));refine Db ?_ Ec.out _;(with_reducible repeat (first|refine Aa ?_ _|refine Ca ?_|refine za ?_ _));refine Db ?_ Ec.out _;(with_reducible repeat (first|refine Aa ?_ _|refine Ca ?_|refine za ?_ _));exact ya.out) hb);have Tc:=ia.mk (Ta (g:=Pb) (o:=.cells #[.slice xb Sa.length qb,.int .i64 Pa,.int .i64 Na,.int .i64 Ma,.slice Qb La.length Fb] 30 (0,0)) (by (with_reducible repeat (first|refine Aa ?_ _|refine Ca ?_|refine za ?_ _));refine zb (cs:=#[.slice xb Sa.length qb,.int .i64 Pa,.int .i64 Na,.int .i64 Ma,.slice none 0 0]) ?_ 4 _ rfl;(with_reducible repeat (first|refine Aa ?_ _|refine Ca ?_|refine za ?_ _));refine zb (cs:=#[.slice xb Sa.length qb,.int .i64 Pa,.int .i64 Na,.int .i64 0,.slice none 0 0]) ?_ 3 _ rfl;(with_reducible repeat (first|refine Aa ?_ _|refine Ca ?_|refine za ?_ _));refine zb (cs:=#[.slice xb Sa.length qb,.int .i64 Pa,.int .i64 0,.int .i64 0,.slice none 0 0]) ?_ 2 _ rfl;(with_reducible repeat (first|refine Aa ?_ _|refine Ca ?_|refine za ?_ _));refine zb (cs:=#[.slice xb Sa.length qb,.int .i64 0,.int .i64 0,.int .i64 0,.slice none 0 0]) ?_ 1 _ rfl;(with_reducible repeat (first|refine Aa ?_ _|refine Ca ?_|refine za ?_ _));refine zb (cs:=#[.slice none 0 0,.int .i64 0,.int .i64 0,.int .i64 0,.slice none 0 0]) ?_ 0 _ rfl;(with_reducible repeat (first|refine Aa ?_ _|refine Ca ?_|refine za ?_ _));exact mb.out) hb);have tf:=ia.mk (Ra (by repeat (first|(with_reducible first|exact HB.out|apply oa|apply ja|apply qa|refine ua ?_ Ua.out|refine ua ?_ Cb.out|refine ua ?_ Ef.out)|exact HB.out)) hb);clear ta ya mb HB;have Sk:=Kb;have ta:=Ub;have ya:=yc;have mb:=Tc;have HB:=tf;clear Kb Ub yc Tc tf hb oz;have Kk:zi.cell? ⟨Da,0,none⟩=some (.slice xb Sa.length qb):=(ga ta.out 0).trans rfl;have Jk:zi.cell? ⟨Da,1,none⟩=some (.int .i64 Pa):=(ga ta.out 1).trans rfl;have Ik:zi.cell? ⟨Da,2,none⟩=some (.int .i64 Na):=(ga ta.out 2).trans rfl;have Gk:zi.cell? ⟨Da,3,none⟩=some (.int .i64 Ma):=(ga ta.out 3).trans rfl;have Fk:zi.cell? ⟨Da,4,none⟩=some (.slice Qb La.length Fb):=(ga ta.out 4).trans rfl;have Ek:=aa ta.out 0;have Dk:=aa ta.out 1;have Ck:=aa ta.out 2;have Bk:=aa ta.out 3;have Ak:=aa ta.out 4)|((with_reducible refine Gi (b:=.append) (xs:=#[.tmp 7,.tmp 9]) rfl ?_);at_builtin;refine Kd.cm (Kd.int .i64) (w0:=w) w.heap.size rfl (.tmp 7) (.tmp 9) 22 3 (.int .i64 0) 8 rfl Try.underlying22 info3 rfl (by decide) (by omega) vM Ke Sa _ _ _ (fun _=>True) (fun _=>False) rfl rfl ?aO ?aR (fun _ _ h=>h) (fun _ h=>h.elim) ?aF ?aB ?aS ?aL ?_;(case aR=>repeat (first|exact (Kd.Eb Qf.out HB.out)|(with_reducible refine Kd.nc ?_ _)|(with_reducible refine Kd.mc ?_ _)|(with_reducible refine Kd.Rc ?_)));(case aB=>exact (by repeat (first|(with_reducible first|exact HB.out|apply oa|apply ja|apply qa|refine ua ?_ Ua.out|refine ua ?_ Cb.out|refine ua ?_ Ef.out)|exact HB.out)));(case aF=>exact (fun _ _=>trivial));(case aO=>exact (by (with_reducible repeat (first|apply Kd.ud|apply Kd.td|apply Kd.Ud));exact Sk.out));(case aS=>exact (Qa (by repeat (first|(with_reducible first|exact HB.out|apply oa|apply ja|apply qa|refine ua ?_ Ua.out|refine ua ?_ Cb.out|refine ua ?_ Ef.out)|exact HB.out))));(case aL=>have:=CY.out;omega);intro CZ Zr ho hb hg hat;rw [← BO.out] at ho;have Kb:=ia.mk (Rd (g:=Da) (o:=.cells #[.slice xb Sa.length qb,.int .i64 Pa,.int .i64 Na,.int .i64 Ma,.slice Qb La.length Fb] 30 (0,0)) (by (with_reducible repeat (first|refine Aa ?_ _|refine Ca ?_|refine za ?_ _));exact ta.out) hg (Kd.Fs Sk.out ta.out (by decide)));have Ub:=ia.mk (Rd (g:=Ga) (o:=.cells #[.slice none 0 0,.int .i64 0,.int .i64 0,.int .i64 0,.slice none 0 0] 30 (0,0)) (by (with_reducible repeat (first|refine Aa ?_ _|refine Ca ?_|refine za ?_ _));exact ya.out) hg (Kd.Fs Sk.out ya.out (by decide)));have yc:=ia.mk (Rd (g:=Pb) (o:=.cells #[.slice xb Sa.length qb,.int .i64 Pa,.int .i64 Na,.int .i64 Ma,.slice Qb La.length Fb] 30 (0,0)) (by (with_reducible repeat (first|refine Aa ?_ _|refine Ca ?_|refine za ?_ _));exact mb.out) hg (Kd.Fs Sk.out mb.out (by decide)));have Tc:=ia.mk (hb);have tf:=ia.mk (ho);clear ta ya mb HB Sk;have ta:=Kb;have ya:=Ub;have mb:=yc;have HB:=Tc;have Cq:=tf;clear Kb Ub yc Tc tf ho hb hg hat;obtain ⟨th,nh,NX⟩:=Kd.lf Cq.out;subst NX;have Gp:Zr.cell? ⟨Pb,0,none⟩=some (.slice xb Sa.length qb):=(ga mb.out 0).trans rfl;have Fp:Zr.cell? ⟨Pb,1,none⟩=some (.int .i64 Pa):=(ga mb.out 1).trans rfl;have Ep:Zr.cell? ⟨Pb,2,none⟩=some (.int .i64 Na):=(ga mb.out 2).trans rfl;have Dp:Zr.cell? ⟨Pb,3,none⟩=some (.int .i64 Ma):=(ga mb.out 3).trans rfl;have Cp:Zr.cell? ⟨Pb,4,none⟩=some (.slice Qb La.length Fb):=(ga mb.out 4).trans rfl;have vp:=aa mb.out 0;have qp:=aa mb.out 1;have lp:=aa mb.out 2;have ep:=aa mb.out 3;have bp:=aa mb.out 4)|((with_reducible refine Bb (N:=12) rfl ?_);refine Kd.M8 Tk _ 68 ?hg (N:=12) ?hd (xs:=([]:List (Te))) (inner:=[]) (ok:=fun _=>True) (qk:=fun _=>True) ?hr ?hp (fun _ hk=>hk) trivial (Below.refl _ _) (Nat.le_refl _) (by simp) ?_;(case hd=>rfl);(case hg=>rfl);(case hr=>first|(go_simp;done)|(go_simp;rfl));(case hp=>exact (Me.none _ _));intro dan Lo rN hb pz Bj;clear pz Bj;(first|rw [← pV.out] at rN|(simp only [Int.reduceToNat] at rN;rw [← pV.out] at rN));have Kb:=ia.mk (Kd.Sc (by (with_reducible repeat (first|apply Kd.ud|apply Kd.td|apply Kd.Ud));exact (Kd.xd (Kd.Af (p:=⟨Pb,0,none⟩) (Kd.Dg Cq.out mb.out (by decide)) (fun _ hk=>hk.2) (.slice th ug.length nh)) (fun _ h_=>h_.1))) hb);have Ub:=ia.mk (Kd.Ur rN (Qa (by repeat (first|(with_reducible first|exact HB.out|apply oa|apply ja|apply qa|refine ua ?_ Ua.out|refine ua ?_ Cb.out|refine ua ?_ Ef.out)|exact HB.out))));have yc:=ia.mk (Ta (g:=Da) (o:=.cells #[.slice xb Sa.length qb,.int .i64 Pa,.int .i64 Na,.int .i64 Ma,.slice Qb La.length Fb] 30 (0,0)) (by (with_reducible repeat (first|refine Aa ?_ _|refine Ca ?_|refine za ?_ _));refine Db ?_ Od.out _;(with_reducible repeat (first|refine Aa ?_ _|refine Ca ?_|refine za ?_ _));exact ta.out) hb);have Tc:=ia.mk (Ta (g:=Ga) (o:=.cells #[.slice none 0 0,.int .i64 0,.int .i64 0,.int .i64 0,.slice none 0 0] 30 (0,0)) (by (with_reducible repeat (first|refine Aa ?_ _|refine Ca ?_|refine za ?_ _));refine Db ?_ Ec.out _;(with_reducible repeat (first|refine Aa ?_ _|refine Ca ?_|refine za ?_ _));exact ya.out) hb);have tf:=ia.mk (Ta (g:=Pb) (o:=.cells #[.slice th ug.length nh,.int .i64 Pa,.int .i64 Na,.int .i64 Ma,.slice Qb La.length Fb] 30 (0,0)) (by (with_reducible repeat (first|refine Aa ?_ _|refine Ca ?_|refine za ?_ _));refine zb (cs:=#[.slice xb Sa.length qb,.int .i64 Pa,.int .i64 Na,.int .i64 Ma,.slice Qb La.length Fb]) ?_ 0 _ rfl;(with_reducible repeat (first|refine Aa ?_ _|refine Ca ?_|refine za ?_ _));exact mb.out) hb);have Tf:=ia.mk (Ra (by repeat (first|(with_reducible first|exact HB.out|apply oa|apply ja|apply qa|refine ua ?_ Ua.out|refine ua ?_ Cb.out|refine ua ?_ Ef.out)|exact HB.out)) hb);clear Cq ta ya mb HB;have Cq:=Kb;have TV:=Ub;have ta:=yc;have ya:=Tc;have mb:=tf;have HB:=Tf;clear Kb Ub yc Tc tf Tf hb rN;obtain ⟨dZ,VX,gai⟩:=Kd.Wh TV.out;subst gai;have oD:Lo.cell? ⟨Pb,0,none⟩=some (.slice th ug.length nh):=(ga mb.out 0).trans rfl;have nD:Lo.cell? ⟨Pb,1,none⟩=some (.int .i64 Pa):=(ga mb.out 1).trans rfl;have mD:Lo.cell? ⟨Pb,2,none⟩=some (.int .i64 Na):=(ga mb.out 2).trans rfl;have lD:Lo.cell? ⟨Pb,3,none⟩=some (.int .i64 Ma):=(ga mb.out 3).trans rfl;have kD:Lo.cell? ⟨Pb,4,none⟩=some (.slice Qb La.length Fb):=(ga mb.out 4).trans rfl;have jC:=aa mb.out 0;have iC:=aa mb.out 1;have gC:=aa mb.out 2;have fC:=aa mb.out 3;have eC:=aa mb.out 4))
  go_loopg [4] k (fun kq v4 w'=>∃ (Jb:Int) (ue:List (Te)) (Ge:Value),v4 = .int .i64 Jb∧ia (Td.l0 kq Jb Sa Pa Na Ma La ug Pa Na Ma ue=some (r1,r2,r3,r4,r5))∧ia (kq ≤ k)∧ia (Kd.R (Kd.int .i64) 3 w' w.heap.size (fun _=>True) (.slice th ug.length nh) ug)∧ia (Kd.S Tk 68 w' w.heap.size (fun _=>True) Ge ue)∧ia (w'.heap[Da]? = some (.cells #[(.slice xb Sa.length qb),.int .i64 Pa,.int .i64 Na,.int .i64 Ma,(.slice Qb La.length Fb)] 30 (0,0)))∧ia (w'.heap[Ga]? = some (.cells #[(.slice none 0 0),.int .i64 0,.int .i64 0,.int .i64 0,(.slice none 0 0)] 30 (0,0)))∧ia (w'.heap[Pb]? = some (.cells #[(.slice th ug.length nh),.int .i64 Pa,.int .i64 Na,.int .i64 Ma,Ge] 30 (0,0)))∧ia (Below w.heap.size w w'))
  case atStart=>exact ⟨(0),(rM),(.slice dZ rM.length VX),(by first|rfl|(simp;done)|(simp [*];done)),H',⟨Nat.le_refl _⟩,⟨by (with_reducible repeat (first|apply Kd.ud|apply Kd.td|apply Kd.Ud));exact Kd.xd (Kd.Af (p:=⟨Pb,4,none⟩) (Kd.Dg Cq.out mb.out (by decide)) (fun _ hk=>hk.2) (.slice dZ rM.length VX)) (fun _ hk=>trivial)⟩,⟨by (with_reducible repeat (first|apply Kd.Og|apply Kd.Ng|apply Kd.ah));exact Kd.zg (Kd.Ch (p:=⟨Pb,4,none⟩) (Kd.fo TV.out mb.out (by decide)) (fun _ hk=>hk.2) (.slice dZ rM.length VX)) (fun _ hk=>trivial)⟩,⟨by (with_reducible repeat (first|refine Aa ?_ _|refine Ca ?_|refine za ?_ _));refine Db ?_ Od.out _;(with_reducible repeat (first|refine Aa ?_ _|refine Ca ?_|refine za ?_ _));exact ta.out⟩,⟨by (with_reducible repeat (first|refine Aa ?_ _|refine Ca ?_|refine za ?_ _));refine Db ?_ Ec.out _;(with_reducible repeat (first|refine Aa ?_ _|refine Ca ?_|refine za ?_ _));exact ya.out⟩,⟨by (with_reducible repeat (first|refine Aa ?_ _|refine Ca ?_|refine za ?_ _));refine zb (cs:=#[.slice th ug.length nh,.int .i64 Pa,.int .i64 Na,.int .i64 Ma,.slice Qb La.length Fb]) ?_ 4 _ rfl;(with_reducible repeat (first|refine Aa ?_ _|refine Ca ?_|refine za ?_ _));exact mb.out⟩,⟨by repeat (first|(with_reducible first|exact HB.out|apply oa|apply ja|apply qa|refine ua ?_ Ua.out|refine ua ?_ Cb.out|refine ua ?_ Ef.out)|exact HB.out)⟩⟩
  case round =>
   clear H'
   try clear c2
   try clear p2
   try clear c5
   try clear c6
   try clear c8
   try clear c9
   try clear Tj
   try clear Sj
   try clear Rj
   try clear Qj
   try clear Pj
   try clear Kk
   try clear Jk
   try clear Ik
   try clear Gk
   try clear Fk
   try clear Gp
   try clear Fp
   try clear Ep
   try clear Dp
   try clear Cp
   try clear oD
   try clear nD
   try clear mD
   try clear lD
   try clear kD
   try clear Gt
   try clear Ft
   try clear Et
   try clear Dt
   try clear Ct
   try clear Oj
   try clear Nj
   try clear Mj
   try clear Lj
   try clear Kj
   try clear Ek
   try clear Dk
   try clear Ck
   try clear Bk
   try clear Ak
   try clear vp
   try clear qp
   try clear lp
   try clear ep
   try clear bp
   try clear jC
   try clear iC
   try clear gC
   try clear fC
   try clear eC
   try clear Bt
   try clear yt
   try clear vt
   try clear qt
   try clear ot
   (try clear HA);(try clear Kh);(try clear ld);(try clear Ac);(try clear ta);(try clear ya);(try clear mb);(try clear HB);obtain ⟨Jb,ue,Ge,rfl,HA,Kh,ld,Ac,ta,ya,mb,HB⟩:=hrel;cases gk with
   | zero=>exact absurd HA.out (by simp [Td.l0])
   | succ k1 =>
    have H:=HA.out;clear HA;simp only [Td.l0] at H
    by_cases sx:Jb < (La.length:Int)
    ·rw [if_pos sx] at H;have vK:decide (Jb < (La.length:Int))=true:=decide_eq_true sx;clear sx
     by_cases CT:0 ≤ Jb
     ·rw [if_pos CT] at H;have qam:decide (0 ≤ Jb)=true:=decide_eq_true CT;clear CT;obtain ⟨dm,fq⟩:∃ y_:List (ee),y_=(([]:List (ee))):=⟨_,rfl⟩;replace H:(if dm.length + ((Ka La Jb).f0).length < 2199023255552 then (if ue.length < 2513169434916 then (Td.l0 k1 (wrap64 (Jb + 1)) Sa Pa Na Ma La ug Pa Na Ma (ue ++ [(⟨(dm ++ ((Ka La Jb).f0)),(Ka La Jb).f1,(Ka La Jb).f2,(Ka La Jb).f3,(Ka La Jb).f4⟩:Te)])) else (none)) else (none))=some (r1,r2,r3,r4,r5):=by first|(rw [fq];with_reducible exact H)|(have Vg:=(Option.bind_some _ _).symm.trans H;rw [fq];with_reducible exact Vg)|(have Vg:=(Option.bind_some _ _).symm.trans H;with_reducible exact Vg)|with_reducible exact H|(rw [fq];exact H)|exact H
      have BK:=ia.mk fq;clear fq
      by_cases zT:dm.length + ((Ka La Jb).f0).length < 2199023255552
      ·rw [if_pos zT] at H;have W8:=ia.mk zT;clear zT;obtain ⟨bn,cq⟩:∃ y_:List (ee),y_=(dm ++ ((Ka La Jb).f0)):=⟨_,rfl⟩;replace H:(if ue.length < 2513169434916 then (Td.l0 k1 (wrap64 (Jb + 1)) Sa Pa Na Ma La ug Pa Na Ma (ue ++ [(⟨bn,(Ka La Jb).f1,(Ka La Jb).f2,(Ka La Jb).f3,(Ka La Jb).f4⟩:Te)])) else (none))=some (r1,r2,r3,r4,r5):=by first|(rw [cq];with_reducible exact H)|(have Vg:=(Option.bind_some _ _).symm.trans H;rw [cq];with_reducible exact Vg)|(have Vg:=(Option.bind_some _ _).symm.trans H;with_reducible exact Vg)|with_reducible exact H|(rw [cq];exact H)|exact H
       have AO:=ia.mk cq;clear cq
       by_cases bH:ue.length < 2513169434916
       ·rw [if_pos bH] at H;have V8:=ia.mk bH;clear bH;obtain ⟨qM,CE⟩:∃ y_:List (Te),y_=(ue ++ [(⟨bn,(Ka La Jb).f1,(Ka La Jb).f2,(Ka La Jb).f3,(Ka La Jb).f4⟩:Te)]):=⟨_,rfl⟩;replace H:(Td.l0 k1 (wrap64 (Jb + 1)) Sa Pa Na Ma La ug Pa Na Ma qM)=some (r1,r2,r3,r4,r5):=by first|(rw [CE];with_reducible exact H)|(have Vg:=(Option.bind_some _ _).symm.trans H;rw [CE];with_reducible exact Vg)|(have Vg:=(Option.bind_some _ _).symm.trans H;with_reducible exact Vg)|with_reducible exact H|(rw [CE];exact H)|exact H
        have P8:=ia.mk CE;clear CE;have H':=ia.mk H;clear H;have yN:=Za.out;have vN:=Xa.out;have DU:=Od.out;have xU:=xh.out;have Cr:wr.cell? ⟨Da,0,none⟩=some (.slice xb Sa.length qb):=(ga ta.out 0).trans rfl;have Br:wr.cell? ⟨Da,1,none⟩=some (.int .i64 Pa):=(ga ta.out 1).trans rfl;have Ar:wr.cell? ⟨Da,2,none⟩=some (.int .i64 Na):=(ga ta.out 2).trans rfl;have vr:wr.cell? ⟨Da,3,none⟩=some (.int .i64 Ma):=(ga ta.out 3).trans rfl;have ur:wr.cell? ⟨Da,4,none⟩=some (.slice Qb La.length Fb):=(ga ta.out 4).trans rfl;have Vq:=aa ta.out 0;have Uq:=aa ta.out 1;have Sq:=aa ta.out 2;have Rq:=aa ta.out 3;have Qq:=aa ta.out 4;have tW:0 ≤ (Jb:Int):=of_decide_eq_true (by first|(with_reducible assumption)|assumption);have rW:Jb < (La.length:Int):=of_decide_eq_true (by first|(with_reducible assumption)|assumption);obtain ⟨Fz,qn,en,kai,XH,WH,VH,UH,TH,YH,ZH⟩:=Zf Dh.out Jb tW rW;cases kai;replace XH:=Ba HB.out XH;replace WH:=Ba HB.out WH;replace VH:=Ba HB.out VH;replace UH:=Ba HB.out UH;replace TH:=Ba HB.out TH;have VT:=ia.mk ZH;have Vaf:=ia.mk YH;clear ZH YH;replace tW:=eq_true tW;replace rW:=eq_true rW;go_wp2_with (first|((with_reducible refine Bb (N:=5) rfl ?_);refine Ab ?hg (N:=5) ?hd (cs:=#[.slice none 0 0,.int .i64 0,.int .i64 0,.int .i64 0,.int .i64 0]) (t:=68) ?hr ?_;(case hd=>rfl);(case hg=>rfl);(case hr=>first|(go_simp;done)|(go_simp;rfl));intro Ve hg qw Nb hb;have Kb:=ia.mk (Kd.Sc (by (with_reducible repeat (first|apply Kd.ud|apply Kd.td|apply Kd.Ud));exact ld.out) hb);have Ub:=ia.mk (Kd.Vd (Kd.wF (by (with_reducible repeat (first|apply Kd.Og|apply Kd.Ng|apply Kd.ah));exact Ac.out) Ve (Nat.le_of_eq hg.symm)) hb);have yc:=ia.mk (Ta (g:=Da) (o:=.cells #[.slice xb Sa.length qb,.int .i64 Pa,.int .i64 Na,.int .i64 Ma,.slice (some Fz) La.length Fb] 30 (0,0)) (by (with_reducible repeat (first|refine Aa ?_ _|refine Ca ?_|refine za ?_ _));exact ta.out) hb);have Tc:=ia.mk (Ta (g:=Ga) (o:=.cells #[.slice none 0 0,.int .i64 0,.int .i64 0,.int .i64 0,.slice none 0 0] 30 (0,0)) (by (with_reducible repeat (first|refine Aa ?_ _|refine Ca ?_|refine za ?_ _));exact ya.out) hb);have tf:=ia.mk (Ta (g:=Pb) (o:=.cells #[.slice th ug.length nh,.int .i64 Pa,.int .i64 Na,.int .i64 Ma,Ge] 30 (0,0)) (by (with_reducible repeat (first|refine Aa ?_ _|refine Ca ?_|refine za ?_ _));exact mb.out) hb);have Tf:=ia.mk (Ra (by repeat (first|(with_reducible first|exact HB.out|apply oa|apply ja|apply qa|refine ua ?_ Ua.out|refine ua ?_ Cb.out|refine ua ?_ Ef.out)|exact HB.out)) hb);have cg:=ia.mk (Nb);have Np:=ia.mk ((by rw [hg];exact (Qa (by repeat (first|(with_reducible first|exact HB.out|apply oa|apply ja|apply qa|refine ua ?_ Ua.out|refine ua ?_ Cb.out|refine ua ?_ Ef.out)|exact HB.out))):w.heap.size ≤ Ve));have GA:=ia.mk ((by rw [hg];exact (Qa (by repeat (first|(with_reducible first|exact HB.out|apply oa|apply ja|apply qa|refine ua ?_ Ua.out|refine ua ?_ Cb.out|refine ua ?_ Ef.out)|exact HB.out))):w.heap.size ≤ Ve));have FA:=ia.mk ((by rw [hg];exact Nat.ne_of_lt (Wb (g:=Da) (o:=.cells #[.slice xb Sa.length qb,.int .i64 Pa,.int .i64 Na,.int .i64 Ma,.slice (some Fz) La.length Fb] 30 (0,0)) (by (with_reducible repeat (first|refine Aa ?_ _|refine Ca ?_|refine za ?_ _));exact ta.out)):Da ≠ Ve));have WM:=ia.mk ((by rw [hg];exact Nat.ne_of_gt (Wb (g:=Da) (o:=.cells #[.slice xb Sa.length qb,.int .i64 Pa,.int .i64 Na,.int .i64 Ma,.slice (some Fz) La.length Fb] 30 (0,0)) (by (with_reducible repeat (first|refine Aa ?_ _|refine Ca ?_|refine za ?_ _));exact ta.out)):Ve ≠ Da));have VM:=ia.mk ((by rw [hg];exact Nat.ne_of_lt (Wb (g:=Ga) (o:=.cells #[.slice none 0 0,.int .i64 0,.int .i64 0,.int .i64 0,.slice none 0 0] 30 (0,0)) (by (with_reducible repeat (first|refine Aa ?_ _|refine Ca ?_|refine za ?_ _));exact ya.out)):Ga ≠ Ve));have UM:=ia.mk ((by rw [hg];exact Nat.ne_of_gt (Wb (g:=Ga) (o:=.cells #[.slice none 0 0,.int .i64 0,.int .i64 0,.int .i64 0,.slice none 0 0] 30 (0,0)) (by (with_reducible repeat (first|refine Aa ?_ _|refine Ca ?_|refine za ?_ _));exact ya.out)):Ve ≠ Ga));have SM:=ia.mk ((by rw [hg];exact Nat.ne_of_lt (Wb (g:=Pb) (o:=.cells #[.slice th ug.length nh,.int .i64 Pa,.int .i64 Na,.int .i64 Ma,Ge] 30 (0,0)) (by (with_reducible repeat (first|refine Aa ?_ _|refine Ca ?_|refine za ?_ _));exact mb.out)):Pb ≠ Ve));have RM:=ia.mk ((by rw [hg];exact Nat.ne_of_gt (Wb (g:=Pb) (o:=.cells #[.slice th ug.length nh,.int .i64 Pa,.int .i64 Na,.int .i64 Ma,Ge] 30 (0,0)) (by (with_reducible repeat (first|refine Aa ?_ _|refine Ca ?_|refine za ?_ _));exact mb.out)):Ve ≠ Pb));clear ld Ac ta ya mb HB;have ld:=Kb;have Ac:=Ub;have ta:=yc;have ya:=Tc;have mb:=tf;have HB:=Tf;have Pe:=cg;have Iam:=Np;have ux:=GA;have Ul:=FA;have TL:=WM;have Sl:=VM;have SL:=UM;have Ql:=SM;have RL:=RM;clear Kb Ub yc Tc tf Tf cg Np GA FA WM VM UM SM RM hb Nb hg;have C1:=TL.out;have L0:=Ul.out;have B1:=SL.out;have K0:=Sl.out;have Z0:=RL.out;have I0:=Ql.out;have yy:qw.cell? ⟨Ve,0,none⟩=some (.slice none 0 0):=(ga Pe.out 0).trans rfl;have xy:qw.cell? ⟨Ve,1,none⟩=some (.int .i64 0):=(ga Pe.out 1).trans rfl;have uy:qw.cell? ⟨Ve,2,none⟩=some (.int .i64 0):=(ga Pe.out 2).trans rfl;have sy:qw.cell? ⟨Ve,3,none⟩=some (.int .i64 0):=(ga Pe.out 3).trans rfl;have ry:qw.cell? ⟨Ve,4,none⟩=some (.int .i64 0):=(ga Pe.out 4).trans rfl;have Yx:=aa Pe.out 0;have Xx:=aa Pe.out 1;have Wx:=aa Pe.out 2;have Vx:=aa Pe.out 3;have Ux:=aa Pe.out 4)|((with_reducible refine Bb (N:=26) rfl ?_);refine Kd.Ts Vh _ 70 ?hg (N:=26) ?hd (xs:=([]:List (ee))) (inner:=[]) (ok:=fun _=>True) (qk:=fun _=>True) ?hr ?hp (fun _ hk=>hk) trivial (Below.refl _ _) (Nat.le_refl _) (by simp) ?_;(case hd=>rfl);(case hg=>rfl);(case hr=>first|(go_simp;done)|(go_simp;rfl));(case hp=>exact (Me.none _ _));intro BZ gE wL hb pz Bj;clear pz Bj;(first|rw [← BK.out] at wL|(simp only [Int.reduceToNat] at wL;rw [← BK.out] at wL));have Kb:=ia.mk (Kd.Sc (by (with_reducible repeat (first|apply Kd.ud|apply Kd.td|apply Kd.Ud));exact (Kd.xd (Kd.Af (p:=⟨Ve,4,none⟩) (Kd.Af (p:=⟨Ve,3,none⟩) (Kd.Af (p:=⟨Ve,2,none⟩) (Kd.Af (p:=⟨Ve,1,none⟩) (Kd.Af (p:=⟨Ve,0,none⟩) (Kd.Dg ld.out Pe.out (by decide)) (fun _ hk=>hk.2) (.slice qn ((Ka La Jb).f0).length en)) (fun _ hk=>hk.2) (.int .i64 ((Ka La Jb).f1))) (fun _ hk=>hk.2) (.int .i64 ((Ka La Jb).f2))) (fun _ hk=>hk.2) (.int .i64 ((Ka La Jb).f3))) (fun _ hk=>hk.2) (.int .i64 ((Ka La Jb).f4))) (fun _ h_=>h_.1))) hb);have Ub:=ia.mk (Kd.Jz (by (with_reducible repeat (first|apply Kd.Og|apply Kd.Ng|apply Kd.ah));exact (Kd.zg (Kd.Ch (p:=⟨Ve,4,none⟩) (Kd.Ch (p:=⟨Ve,3,none⟩) (Kd.Ch (p:=⟨Ve,2,none⟩) (Kd.Ch (p:=⟨Ve,1,none⟩) (Kd.Ch (p:=⟨Ve,0,none⟩) (Kd.zg Ac.out (fun k_ hk=>(⟨hk,hk.2⟩:_∧k_ ≠ Ve))) (fun _ hk=>hk.2) (.slice qn ((Ka La Jb).f0).length en)) (fun _ hk=>hk.2) (.int .i64 ((Ka La Jb).f1))) (fun _ hk=>hk.2) (.int .i64 ((Ka La Jb).f2))) (fun _ hk=>hk.2) (.int .i64 ((Ka La Jb).f3))) (fun _ hk=>hk.2) (.int .i64 ((Ka La Jb).f4))) (fun _ h_=>h_.1))) (Kd.Kt wL) hb);have yc:=ia.mk (Kd.Eh wL (Qa (by repeat (first|(with_reducible first|exact HB.out|apply oa|apply ja|apply qa|refine ua ?_ Ua.out|refine ua ?_ Cb.out|refine ua ?_ Ef.out|refine ua ?_ ux.out)|exact HB.out))));have Tc:=ia.mk (Ta (g:=Da) (o:=.cells #[.slice xb Sa.length qb,.int .i64 Pa,.int .i64 Na,.int .i64 Ma,.slice (some Fz) La.length Fb] 30 (0,0)) (by (with_reducible repeat (first|refine Aa ?_ _|refine Ca ?_|refine za ?_ _));refine Db ?_ Ul.out _;(with_reducible repeat (first|refine Aa ?_ _|refine Ca ?_|refine za ?_ _));refine Db ?_ Ul.out _;(with_reducible repeat (first|refine Aa ?_ _|refine Ca ?_|refine za ?_ _));refine Db ?_ Ul.out _;(with_reducible repeat (first|refine Aa ?_ _|refine Ca ?_|refine za ?_ _));refine Db ?_ Ul.out _;(with_reducible repeat (first|refine Aa ?_ _|refine Ca ?_|refine za ?_ _));refine Db ?_ Ul.out _;(with_reducible repeat (first|refine Aa ?_ _|refine Ca ?_|refine za ?_ _));exact ta.out) hb);have tf:=ia.mk (Ta (g:=Ga) (o:=.cells #[.slice none 0 0,.int .i64 0,.int .i64 0,.int .i64 0,.slice none 0 0] 30 (0,0)) (by (with_reducible repeat (first|refine Aa ?_ _|refine Ca ?_|refine za ?_ _));refine Db ?_ Sl.out _;(with_reducible repeat (first|refine Aa ?_ _|refine Ca ?_|refine za ?_ _));refine Db ?_ Sl.out _;(with_reducible repeat (first|refine Aa ?_ _|refine Ca ?_|refine za ?_ _));refine Db ?_ Sl.out _;(with_reducible repeat (first|refine Aa ?_ _|refine Ca ?_|refine za ?_ _));refine Db ?_ Sl.out _;(with_reducible repeat (first|refine Aa ?_ _|refine Ca ?_|refine za ?_ _));refine Db ?_ Sl.out _;(with_reducible repeat (first|refine Aa ?_ _|refine Ca ?_|refine za ?_ _));exact ya.out) hb);have Tf:=ia.mk (Ta (g:=Pb) (o:=.cells #[.slice th ug.length nh,.int .i64 Pa,.int .i64 Na,.int .i64 Ma,Ge] 30 (0,0)) (by (with_reducible repeat (first|refine Aa ?_ _|refine Ca ?_|refine za ?_ _));refine Db ?_ Ql.out _;(with_reducible repeat (first|refine Aa ?_ _|refine Ca ?_|refine za ?_ _));refine Db ?_ Ql.out _;(with_reducible repeat (first|refine Aa ?_ _|refine Ca ?_|refine za ?_ _));refine Db ?_ Ql.out _;(with_reducible repeat (first|refine Aa ?_ _|refine Ca ?_|refine za ?_ _));refine Db ?_ Ql.out _;(with_reducible repeat (first|refine Aa ?_ _|refine Ca ?_|refine za ?_ _));refine Db ?_ Ql.out _;(with_reducible repeat (first|refine Aa ?_ _|refine Ca ?_|refine za ?_ _));exact mb.out) hb);have cg:=ia.mk (Ta (g:=Ve) (o:=.cells #[.slice qn ((Ka La Jb).f0).length en,.int .i64 ((Ka La Jb).f1),.int .i64 ((Ka La Jb).f2),.int .i64 ((Ka La Jb).f3),.int .i64 ((Ka La Jb).f4)] 68 (0,0)) (by (with_reducible repeat (first|refine Aa ?_ _|refine Ca ?_|refine za ?_ _));refine zb (cs:=#[.slice qn ((Ka La Jb).f0).length en,.int .i64 ((Ka La Jb).f1),.int .i64 ((Ka La Jb).f2),.int .i64 ((Ka La Jb).f3),.int .i64 0]) ?_ 4 _ rfl;(with_reducible repeat (first|refine Aa ?_ _|refine Ca ?_|refine za ?_ _));refine zb (cs:=#[.slice qn ((Ka La Jb).f0).length en,.int .i64 ((Ka La Jb).f1),.int .i64 ((Ka La Jb).f2),.int .i64 0,.int .i64 0]) ?_ 3 _ rfl;(with_reducible repeat (first|refine Aa ?_ _|refine Ca ?_|refine za ?_ _));refine zb (cs:=#[.slice qn ((Ka La Jb).f0).length en,.int .i64 ((Ka La Jb).f1),.int .i64 0,.int .i64 0,.int .i64 0]) ?_ 2 _ rfl;(with_reducible repeat (first|refine Aa ?_ _|refine Ca ?_|refine za ?_ _));refine zb (cs:=#[.slice qn ((Ka La Jb).f0).length en,.int .i64 0,.int .i64 0,.int .i64 0,.int .i64 0]) ?_ 1 _ rfl;(with_reducible repeat (first|refine Aa ?_ _|refine Ca ?_|refine za ?_ _));refine zb (cs:=#[.slice none 0 0,.int .i64 0,.int .i64 0,.int .i64 0,.int .i64 0]) ?_ 0 _ rfl;(with_reducible repeat (first|refine Aa ?_ _|refine Ca ?_|refine za ?_ _));exact Pe.out) hb);have Np:=ia.mk (Ra (by repeat (first|(with_reducible first|exact HB.out|apply oa|apply ja|apply qa|refine ua ?_ Ua.out|refine ua ?_ Cb.out|refine ua ?_ Ef.out|refine ua ?_ ux.out)|exact HB.out)) hb);clear ld Ac ta ya mb Pe HB;have ld:=Kb;have Ac:=Ub;have kn:=yc;have ta:=Tc;have ya:=tf;have mb:=Tf;have Pe:=cg;have HB:=Np;clear Kb Ub yc Tc tf Tf cg Np hb wL;have eD:gE.cell? ⟨Ve,0,none⟩=some (.slice qn ((Ka La Jb).f0).length en):=(ga Pe.out 0).trans rfl;have dD:gE.cell? ⟨Ve,1,none⟩=some (.int .i64 ((Ka La Jb).f1)):=(ga Pe.out 1).trans rfl;have cD:gE.cell? ⟨Ve,2,none⟩=some (.int .i64 ((Ka La Jb).f2)):=(ga Pe.out 2).trans rfl;have bD:gE.cell? ⟨Ve,3,none⟩=some (.int .i64 ((Ka La Jb).f3)):=(ga Pe.out 3).trans rfl;have aD:gE.cell? ⟨Ve,4,none⟩=some (.int .i64 ((Ka La Jb).f4)):=(ga Pe.out 4).trans rfl;have XB:=aa Pe.out 0;have WB:=aa Pe.out 1;have VB:=aa Pe.out 2;have UB:=aa Pe.out 3;have TB:=aa Pe.out 4)|((with_reducible refine Gi (b:=.append) (xs:=#[.tmp 26,.tmp 28]) rfl ?_);at_builtin;refine Kd.cm Vh (w0:=w) w.heap.size rfl (.tmp 26) (.tmp 28) 66 70 (.agg #[(.int .i64 0),(.int .i64 0),(.int .i64 0),(.int .i64 0),(.int .i64 0),(.int .i64 0),(.string ⟨#[]⟩)]) 64 rfl Try.underlying66 oG rfl (by decide) (by omega) BZ dm ((Ka La Jb).f0) _ _ _ (fun _=>True) (fun _=>False) rfl rfl ?aO ?aR (fun _ _ h=>h) (fun _ h=>h.elim) ?aF ?aB ?aS ?aL ?_;(case aR=>repeat (first|exact (Kd.Eb VT.out HB.out)|(with_reducible refine Kd.nc ?_ _)|(with_reducible refine Kd.mc ?_ _)|(with_reducible refine Kd.Rc ?_)));(case aB=>exact (by repeat (first|(with_reducible first|exact HB.out|apply oa|apply ja|apply qa|refine ua ?_ Ua.out|refine ua ?_ Cb.out|refine ua ?_ Ef.out|refine ua ?_ ux.out)|exact HB.out)));(case aF=>exact (fun _ _=>trivial));(case aO=>exact (by (with_reducible repeat (first|apply Kd.ud|apply Kd.td|apply Kd.Ud));exact kn.out));(case aS=>exact (Qa (by repeat (first|(with_reducible first|exact HB.out|apply oa|apply ja|apply qa|refine ua ?_ Ua.out|refine ua ?_ Cb.out|refine ua ?_ Ef.out|refine ua ?_ ux.out)|exact HB.out))));(case aL=>have:=W8.out;omega);intro kag dA ho hb hg hat;rw [← AO.out] at ho;have Kb:=ia.mk (Kd.Ky (by (with_reducible repeat (first|apply Kd.ud|apply Kd.td|apply Kd.Ud));exact ld.out) (Kd.MD (by (with_reducible repeat (first|apply Kd.ud|apply Kd.td|apply Kd.Ud));exact kn.out)) (by decide) hg);have Ub:=ia.mk (Kd.yK (ok:=(fun k_=>k_ ≠ Ve)) (by (with_reducible repeat (first|apply Kd.Og|apply Kd.Ng|apply Kd.ah));exact Kd.zg Ac.out (fun _ hk=>⟨hk.1.2,hk.2⟩)) hg hat);have yc:=ia.mk (Rd (g:=Da) (o:=.cells #[.slice xb Sa.length qb,.int .i64 Pa,.int .i64 Na,.int .i64 Ma,.slice (some Fz) La.length Fb] 30 (0,0)) (by (with_reducible repeat (first|refine Aa ?_ _|refine Ca ?_|refine za ?_ _));exact ta.out) hg (Kd.Fs kn.out ta.out (by decide)));have Tc:=ia.mk (Rd (g:=Ga) (o:=.cells #[.slice none 0 0,.int .i64 0,.int .i64 0,.int .i64 0,.slice none 0 0] 30 (0,0)) (by (with_reducible repeat (first|refine Aa ?_ _|refine Ca ?_|refine za ?_ _));exact ya.out) hg (Kd.Fs kn.out ya.out (by decide)));have tf:=ia.mk (Rd (g:=Pb) (o:=.cells #[.slice th ug.length nh,.int .i64 Pa,.int .i64 Na,.int .i64 Ma,Ge] 30 (0,0)) (by (with_reducible repeat (first|refine Aa ?_ _|refine Ca ?_|refine za ?_ _));exact mb.out) hg (Kd.Fs kn.out mb.out (by decide)));have Tf:=ia.mk (Rd (g:=Ve) (o:=.cells #[.slice qn ((Ka La Jb).f0).length en,.int .i64 ((Ka La Jb).f1),.int .i64 ((Ka La Jb).f2),.int .i64 ((Ka La Jb).f3),.int .i64 ((Ka La Jb).f4)] 68 (0,0)) (by (with_reducible repeat (first|refine Aa ?_ _|refine Ca ?_|refine za ?_ _));exact Pe.out) hg (Kd.Fs kn.out Pe.out (by decide)));have cg:=ia.mk (hb);have Np:=ia.mk (ho);clear ld Ac ta ya mb Pe HB kn;have ld:=Kb;have Ac:=Ub;have ta:=yc;have ya:=Tc;have mb:=tf;have Pe:=Tf;have HB:=cg;have Vs:=Np;clear Kb Ub yc Tc tf Tf cg Np ho hb hg hat;obtain ⟨Jx,Ex,dai⟩:=Kd.lf Vs.out;subst dai;have tr:dA.cell? ⟨Ve,0,none⟩=some (.slice qn ((Ka La Jb).f0).length en):=(ga Pe.out 0).trans rfl;have sr:dA.cell? ⟨Ve,1,none⟩=some (.int .i64 ((Ka La Jb).f1)):=(ga Pe.out 1).trans rfl;have nr:dA.cell? ⟨Ve,2,none⟩=some (.int .i64 ((Ka La Jb).f2)):=(ga Pe.out 2).trans rfl;have kr:dA.cell? ⟨Ve,3,none⟩=some (.int .i64 ((Ka La Jb).f3)):=(ga Pe.out 3).trans rfl;have jr:dA.cell? ⟨Ve,4,none⟩=some (.int .i64 ((Ka La Jb).f4)):=(ga Pe.out 4).trans rfl;have Pq:=aa Pe.out 0;have Oq:=aa Pe.out 1;have Nq:=aa Pe.out 2;have Mq:=aa Pe.out 3;have Kq:=aa Pe.out 4)|((with_reducible refine Ug (t:=66) (p:=30) rfl ?_);refine Ag (t:=66) (p:=30) (v:=?Xaf) (w1:=(dA.setCell ⟨Ve,0,none⟩ (.slice Jx bn.length Ex))) ?hg ?ho ?hn ?hr ?_;(case ho=>rfl);(case hg=>rfl);(case hn=>rfl);(case hr=>first|(go_simp;done)|(go_simp;rfl));intro Bx hw;have Kb:ia (Kd.R (Kd.int .i64) 3 Bx w.heap.size (fun _=>True) (.slice th ug.length nh) ug):=⟨(by rw [hw];exact (by (with_reducible repeat (first|apply Kd.ud|apply Kd.td|apply Kd.Ud));exact Kd.xd (Kd.Af (p:=⟨Ve,0,none⟩) (Kd.Dg ld.out Pe.out (by decide)) (fun _ hk=>hk.2) (.slice Jx bn.length Ex)) (fun _ hk=>trivial)))⟩;have Ub:ia (Kd.S Tk 68 Bx w.heap.size (fun k_=>some k_ ≠ (.slice Jx bn.length Ex:Value).ownBlock∧k_ ≠ Ve) Ge ue):=⟨(by rw [hw];exact (by (with_reducible repeat (first|apply Kd.Og|apply Kd.Ng|apply Kd.ah));exact Kd.zg (Kd.Ch (p:=⟨Ve,0,none⟩) (Kd.zg Ac.out (fun k_ hk=>(⟨hk,hk.1⟩:_∧k_ ≠ Ve))) (fun _ hk=>hk.2) (.slice Jx bn.length Ex)) (fun _ hk=>⟨hk.1.2,hk.1.1⟩)))⟩;have yc:ia (Kd.R Vh 70 Bx w.heap.size (fun _=>True) (.slice Jx bn.length Ex) bn):=⟨(by rw [hw];exact (by (with_reducible repeat (first|apply Kd.ud|apply Kd.td|apply Kd.Ud));exact Kd.xd (Kd.Af (p:=⟨Ve,0,none⟩) (Kd.Dg Vs.out Pe.out (by decide)) (fun _ hk=>hk.2) (.slice Jx bn.length Ex)) (fun _ hk=>trivial)))⟩;have Tc:ia (Bx.heap[Da]? = some (.cells #[.slice xb Sa.length qb,.int .i64 Pa,.int .i64 Na,.int .i64 Ma,.slice (some Fz) La.length Fb] 30 (0,0))):=⟨(by rw [hw];exact (by (with_reducible repeat (first|refine Aa ?_ _|refine Ca ?_|refine za ?_ _));refine Db ?_ Ul.out _;(with_reducible repeat (first|refine Aa ?_ _|refine Ca ?_|refine za ?_ _));exact ta.out))⟩;have tf:ia (Bx.heap[Ga]? = some (.cells #[.slice none 0 0,.int .i64 0,.int .i64 0,.int .i64 0,.slice none 0 0] 30 (0,0))):=⟨(by rw [hw];exact (by (with_reducible repeat (first|refine Aa ?_ _|refine Ca ?_|refine za ?_ _));refine Db ?_ Sl.out _;(with_reducible repeat (first|refine Aa ?_ _|refine Ca ?_|refine za ?_ _));exact ya.out))⟩;have Tf:ia (Bx.heap[Pb]? = some (.cells #[.slice th ug.length nh,.int .i64 Pa,.int .i64 Na,.int .i64 Ma,Ge] 30 (0,0))):=⟨(by rw [hw];exact (by (with_reducible repeat (first|refine Aa ?_ _|refine Ca ?_|refine za ?_ _));refine Db ?_ Ql.out _;(with_reducible repeat (first|refine Aa ?_ _|refine Ca ?_|refine za ?_ _));exact mb.out))⟩;have cg:ia (Bx.heap[Ve]? = some (.cells #[.slice Jx bn.length Ex,.int .i64 ((Ka La Jb).f1),.int .i64 ((Ka La Jb).f2),.int .i64 ((Ka La Jb).f3),.int .i64 ((Ka La Jb).f4)] 68 (0,0))):=⟨(by rw [hw];exact (by (with_reducible repeat (first|refine Aa ?_ _|refine Ca ?_|refine za ?_ _));refine zb (cs:=#[.slice qn ((Ka La Jb).f0).length en,.int .i64 ((Ka La Jb).f1),.int .i64 ((Ka La Jb).f2),.int .i64 ((Ka La Jb).f3),.int .i64 ((Ka La Jb).f4)]) ?_ 0 _ rfl;(with_reducible repeat (first|refine Aa ?_ _|refine Ca ?_|refine za ?_ _));exact Pe.out))⟩;have Np:ia (Below w.heap.size w Bx):=⟨(by rw [hw];exact (by repeat (first|(with_reducible first|exact HB.out|apply oa|apply ja|apply qa|refine ua ?_ Ua.out|refine ua ?_ Cb.out|refine ua ?_ Ef.out|refine ua ?_ ux.out)|exact HB.out)))⟩;clear hw ld Ac Vs ta ya mb Pe HB;have ld:=Kb;have Ac:=Ub;have Vs:=yc;have ta:=Tc;have ya:=tf;have mb:=Tf;have Pe:=cg;have HB:=Np;clear Kb Ub yc Tc tf Tf cg Np;have Tak:=wh.out;have pak:=Ec.out;have NC:Bx.cell? ⟨Pb,0,none⟩=some (.slice th ug.length nh):=(ga mb.out 0).trans rfl;have MC:Bx.cell? ⟨Pb,1,none⟩=some (.int .i64 Pa):=(ga mb.out 1).trans rfl;have LC:Bx.cell? ⟨Pb,2,none⟩=some (.int .i64 Na):=(ga mb.out 2).trans rfl;have KC:Bx.cell? ⟨Pb,3,none⟩=some (.int .i64 Ma):=(ga mb.out 3).trans rfl;have JC:Bx.cell? ⟨Pb,4,none⟩=some (Ge):=(ga mb.out 4).trans rfl;have EB:=aa mb.out 0;have DB:=aa mb.out 1;have CB:=aa mb.out 2;have BB:=aa mb.out 3;have AB:=aa mb.out 4;have IC:Bx.cell? ⟨Ve,0,none⟩=some (.slice Jx bn.length Ex):=(ga Pe.out 0).trans rfl;have GC:Bx.cell? ⟨Ve,1,none⟩=some (.int .i64 ((Ka La Jb).f1)):=(ga Pe.out 1).trans rfl;have FC:Bx.cell? ⟨Ve,2,none⟩=some (.int .i64 ((Ka La Jb).f2)):=(ga Pe.out 2).trans rfl;have EC:Bx.cell? ⟨Ve,3,none⟩=some (.int .i64 ((Ka La Jb).f3)):=(ga Pe.out 3).trans rfl;have DC:Bx.cell? ⟨Ve,4,none⟩=some (.int .i64 ((Ka La Jb).f4)):=(ga Pe.out 4).trans rfl;have zB:=aa Pe.out 0;have yB:=aa Pe.out 1;have xB:=aa Pe.out 2;have wB:=aa Pe.out 3;have vB:=aa Pe.out 4)|((with_reducible refine Gi (b:=.append) (xs:=#[.tmp 32,.tmp 34]) rfl ?_);at_builtin;refine Kd.xF Tk (w0:=w) w.heap.size rfl (.tmp 32) (.tmp 34) 28 68 (.agg #[(.slice none 0 0),(.int .i64 0),(.int .i64 0),(.int .i64 0),(.int .i64 0)]) 56 rfl Try.underlying28 pG rfl (by decide) (by omega) Ge ue (⟨bn,(Ka La Jb).f1,(Ka La Jb).f2,(Ka La Jb).f3,(Ka La Jb).f4⟩:Te) [.slice Jx bn.length Ex,.int .i64 ((Ka La Jb).f1),.int .i64 ((Ka La Jb).f2),.int .i64 ((Ka La Jb).f3),.int .i64 ((Ka La Jb).f4)] (fun k_=>k_ ≠ Ve) (fun k_=>some k_=(.slice Jx bn.length Ex:Value).ownBlock) rfl rfl ?aP (fun k_ eR=>((Kd.xd (js:=fun k_=>((fun k_=>k_ ≠ Ve)) k_∧some k_ ≠ (Ge:Value).ownBlock) (Kd.Dg (Kd.Ko (Vs.out) (Kd.jo Ac.out) (by decide)) Pe.out (by decide)) (fun k_ hk=>⟨hk.2,hk.1.2⟩))).1 k_ eR.symm) ?aF ?aO ?aB ?aS ?aL ?_;(case aP=>exact Em _ _ _ (⟨bn,(Ka La Jb).f1,(Ka La Jb).f2,(Ka La Jb).f3,(Ka La Jb).f4⟩:Te) (Kd.xd (Kd.ND rfl (Kd.xd (js:=fun k_=>((fun k_=>k_ ≠ Ve)) k_∧some k_ ≠ (Ge:Value).ownBlock) (Kd.Dg (Kd.Ko (Vs.out) (Kd.jo Ac.out) (by decide)) Pe.out (by decide)) (fun k_ hk=>⟨hk.2,hk.1.2⟩))) (fun _ h_=>h_)));(case aB=>exact (by repeat (first|(with_reducible first|exact HB.out|apply oa|apply ja|apply qa|refine ua ?_ Ua.out|refine ua ?_ Cb.out|refine ua ?_ Ef.out|refine ua ?_ ux.out)|exact HB.out)));(case aF=>exact (fun k_ hk=>Kd.XN (g:=Ve) (o:=.cells #[.slice Jx bn.length Ex,.int .i64 ((Ka La Jb).f1),.int .i64 ((Ka La Jb).f2),.int .i64 ((Ka La Jb).f3),.int .i64 ((Ka La Jb).f4)] 68 (0,0)) (by (with_reducible repeat (first|refine Aa ?_ _|refine Ca ?_|refine za ?_ _));exact Pe.out) k_ hk));(case aO=>exact (by (with_reducible repeat (first|apply Kd.Og|apply Kd.Ng|apply Kd.ah));exact Kd.zg Ac.out (fun k_ hk=>⟨hk.2,fun e_=>hk.1 e_⟩)));(case aS=>exact (Qa (by repeat (first|(with_reducible first|exact HB.out|apply oa|apply ja|apply qa|refine ua ?_ Ua.out|refine ua ?_ Cb.out|refine ua ?_ Ef.out|refine ua ?_ ux.out)|exact HB.out))));(case aL=>have:=V8.out;omega);intro ban zZ ho hb hg hat;rw [← P8.out] at ho;have Kb:=ia.mk (Kd.Ky (by (with_reducible repeat (first|apply Kd.ud|apply Kd.td|apply Kd.Ud));exact ld.out) (Kd.jo (by (with_reducible repeat (first|apply Kd.Og|apply Kd.Ng|apply Kd.ah));exact Ac.out)) (by decide) hg);have Ub:=ia.mk (Rd (g:=Da) (o:=.cells #[.slice xb Sa.length qb,.int .i64 Pa,.int .i64 Na,.int .i64 Ma,.slice (some Fz) La.length Fb] 30 (0,0)) (by (with_reducible repeat (first|refine Aa ?_ _|refine Ca ?_|refine za ?_ _));exact ta.out) hg (Kd.PL Ac.out ta.out (by decide)));have yc:=ia.mk (Rd (g:=Ga) (o:=.cells #[.slice none 0 0,.int .i64 0,.int .i64 0,.int .i64 0,.slice none 0 0] 30 (0,0)) (by (with_reducible repeat (first|refine Aa ?_ _|refine Ca ?_|refine za ?_ _));exact ya.out) hg (Kd.PL Ac.out ya.out (by decide)));have Tc:=ia.mk (Rd (g:=Pb) (o:=.cells #[.slice th ug.length nh,.int .i64 Pa,.int .i64 Na,.int .i64 Ma,Ge] 30 (0,0)) (by (with_reducible repeat (first|refine Aa ?_ _|refine Ca ?_|refine za ?_ _));exact mb.out) hg (Kd.PL Ac.out mb.out (by decide)));have tf:=ia.mk (Rd (g:=Ve) (o:=.cells #[.slice Jx bn.length Ex,.int .i64 ((Ka La Jb).f1),.int .i64 ((Ka La Jb).f2),.int .i64 ((Ka La Jb).f3),.int .i64 ((Ka La Jb).f4)] 68 (0,0)) (by (with_reducible repeat (first|refine Aa ?_ _|refine Ca ?_|refine za ?_ _));exact Pe.out) hg (Kd.uO Ac.out (fun _ hk=>hk.2)));have Tf:=ia.mk (hb);have cg:=ia.mk (ho);clear ld ta ya mb Pe HB Ac Vs;have ld:=Kb;have ta:=Ub;have ya:=yc;have mb:=Tc;have Pe:=tf;have HB:=Tf;have SV:=cg;clear Kb Ub yc Tc tf Tf cg ho hb hg hat;obtain ⟨bZ,SX,bai⟩:=Kd.Wh SV.out;subst bai;have FJ:zZ.cell? ⟨Pb,0,none⟩=some (.slice th ug.length nh):=(ga mb.out 0).trans rfl;have EJ:zZ.cell? ⟨Pb,1,none⟩=some (.int .i64 Pa):=(ga mb.out 1).trans rfl;have DJ:zZ.cell? ⟨Pb,2,none⟩=some (.int .i64 Na):=(ga mb.out 2).trans rfl;have CJ:zZ.cell? ⟨Pb,3,none⟩=some (.int .i64 Ma):=(ga mb.out 3).trans rfl;have BJ:zZ.cell? ⟨Pb,4,none⟩=some (Ge):=(ga mb.out 4).trans rfl;have wI:=aa mb.out 0;have vI:=aa mb.out 1;have uI:=aa mb.out 2;have tI:=aa mb.out 3;have sI:=aa mb.out 4))
        go_roundg k1
        case measure=>have:=Kh.out;omega
        case rel=>exact ⟨(wrap64 (Jb + 1)),(qM),(.slice bZ qM.length SX),(by first|rfl|(simp;done)|(simp [*];done)),H',⟨by have:=Kh.out;omega⟩,⟨by (with_reducible repeat (first|apply Kd.ud|apply Kd.td|apply Kd.Ud));exact Kd.xd (Kd.Af (p:=⟨Pb,4,none⟩) (Kd.Dg ld.out mb.out (by decide)) (fun _ hk=>hk.2) (.slice bZ qM.length SX)) (fun _ hk=>trivial)⟩,⟨by (with_reducible repeat (first|apply Kd.Og|apply Kd.Ng|apply Kd.ah));exact Kd.zg (Kd.Ch (p:=⟨Pb,4,none⟩) (Kd.fo SV.out mb.out (by decide)) (fun _ hk=>hk.2) (.slice bZ qM.length SX)) (fun _ hk=>trivial)⟩,⟨by (with_reducible repeat (first|refine Aa ?_ _|refine Ca ?_|refine za ?_ _));refine Db ?_ Od.out _;(with_reducible repeat (first|refine Aa ?_ _|refine Ca ?_|refine za ?_ _));exact ta.out⟩,⟨by (with_reducible repeat (first|refine Aa ?_ _|refine Ca ?_|refine za ?_ _));refine Db ?_ Ec.out _;(with_reducible repeat (first|refine Aa ?_ _|refine Ca ?_|refine za ?_ _));exact ya.out⟩,⟨by (with_reducible repeat (first|refine Aa ?_ _|refine Ca ?_|refine za ?_ _));refine zb (cs:=#[.slice th ug.length nh,.int .i64 Pa,.int .i64 Na,.int .i64 Ma,Ge]) ?_ 4 _ rfl;(with_reducible repeat (first|refine Aa ?_ _|refine Ca ?_|refine za ?_ _));exact mb.out⟩,⟨by repeat (first|(with_reducible first|exact HB.out|apply oa|apply ja|apply qa|refine ua ?_ Ua.out|refine ua ?_ Cb.out|refine ua ?_ Ef.out|refine ua ?_ ux.out)|exact HB.out)⟩⟩
       ·rw [if_neg bH] at H;exact absurd H (by simp)
      ·rw [if_neg zT] at H;exact absurd H (by simp)
     ·rw [if_neg CT] at H;exact absurd H (by simp)
    ·rw [if_neg sx] at H;have vK:decide (Jb < (La.length:Int))=false:=decide_eq_false sx;clear sx;simp only [Option.some.injEq,Prod.mk.injEq] at H;obtain ⟨rfl,rfl,rfl,rfl,rfl⟩:=H;have S0:=Za.out;have YZ:=Xa.out;have xN:=Od.out;have uN:=xh.out;have Dv:wr.cell? ⟨Da,0,none⟩=some (.slice xb Sa.length qb):=(ga ta.out 0).trans rfl;have Cv:wr.cell? ⟨Da,1,none⟩=some (.int .i64 Pa):=(ga ta.out 1).trans rfl;have Bv:wr.cell? ⟨Da,2,none⟩=some (.int .i64 Na):=(ga ta.out 2).trans rfl;have Av:wr.cell? ⟨Da,3,none⟩=some (.int .i64 Ma):=(ga ta.out 3).trans rfl;have zv:wr.cell? ⟨Da,4,none⟩=some (.slice Qb La.length Fb):=(ga ta.out 4).trans rfl;have Qu:=aa ta.out 0;have Pu:=aa ta.out 1;have Ou:=aa ta.out 2;have Nu:=aa ta.out 3;have Mu:=aa ta.out 4;have zU:=wh.out;have tU:=Ec.out;have yJ:wr.cell? ⟨Pb,0,none⟩=some (.slice th ug.length nh):=(ga mb.out 0).trans rfl;have xJ:wr.cell? ⟨Pb,1,none⟩=some (.int .i64 Pa):=(ga mb.out 1).trans rfl;have wJ:wr.cell? ⟨Pb,2,none⟩=some (.int .i64 Na):=(ga mb.out 2).trans rfl;have vJ:wr.cell? ⟨Pb,3,none⟩=some (.int .i64 Ma):=(ga mb.out 3).trans rfl;have uJ:wr.cell? ⟨Pb,4,none⟩=some (Ge):=(ga mb.out 4).trans rfl;have pI:=aa mb.out 0;have oI:=aa mb.out 1;have nI:=aa mb.out 2;have mI:=aa mb.out 3;have lI:=aa mb.out 4;have tJ:wr.cell? ⟨Ga,0,none⟩=some (.slice none 0 0):=(ga ya.out 0).trans rfl;have sJ:wr.cell? ⟨Ga,1,none⟩=some (.int .i64 0):=(ga ya.out 1).trans rfl;have rJ:wr.cell? ⟨Ga,2,none⟩=some (.int .i64 0):=(ga ya.out 2).trans rfl;have qJ:wr.cell? ⟨Ga,3,none⟩=some (.int .i64 0):=(ga ya.out 3).trans rfl;have pJ:wr.cell? ⟨Ga,4,none⟩=some (.slice none 0 0):=(ga ya.out 4).trans rfl;have kI:=aa ya.out 0;have jI:=aa ya.out 1;have iI:=aa ya.out 2;have gI:=aa ya.out 3;have fI:=aa ya.out 4;obtain ⟨ZY,QX,Zah⟩:=Kd.Wh Ac.out;subst Zah;go_wp2;refine bodyPost_ret (results_cell_row rfl _ _ Ga 30 #[.slice th ug.length nh,.int .i64 Pa,.int .i64 Na,.int .i64 Ma,.slice ZY ue.length QX] (0,0) _ rfl (by (with_reducible repeat (first|refine Aa ?_ _|refine Ca ?_|refine za ?_ _));refine zb (cs:=#[.slice th ug.length nh,.int .i64 Pa,.int .i64 Na,.int .i64 Ma,.slice none 0 0]) ?_ 4 _ rfl;(with_reducible repeat (first|refine Aa ?_ _|refine Ca ?_|refine za ?_ _));refine zb (cs:=#[.slice th ug.length nh,.int .i64 Pa,.int .i64 Na,.int .i64 0,.slice none 0 0]) ?_ 3 _ rfl;(with_reducible repeat (first|refine Aa ?_ _|refine Ca ?_|refine za ?_ _));refine zb (cs:=#[.slice th ug.length nh,.int .i64 Pa,.int .i64 0,.int .i64 0,.slice none 0 0]) ?_ 2 _ rfl;(with_reducible repeat (first|refine Aa ?_ _|refine Ca ?_|refine za ?_ _));refine zb (cs:=#[.slice th ug.length nh,.int .i64 0,.int .i64 0,.int .i64 0,.slice none 0 0]) ?_ 1 _ rfl;(with_reducible repeat (first|refine Aa ?_ _|refine Ca ?_|refine za ?_ _));refine zb (cs:=#[.slice none 0 0,.int .i64 0,.int .i64 0,.int .i64 0,.slice none 0 0]) ?_ 0 _ rfl;(with_reducible repeat (first|refine Aa ?_ _|refine Ca ?_|refine za ?_ _));exact ya.out) Try.underlying30 rfl (by kernel_rfl)) rfl ?_;exact ⟨_,_,by first|rfl|(simp [Ja,Ia] <;> rfl)|(simp [*,Ja,Ia] <;> rfl),by (with_reducible repeat (first|apply Kd.ud|apply Kd.td|apply Kd.Ud));exact Kd.xd (Kd.Af (p:=⟨Ga,4,none⟩) (Kd.Af (p:=⟨Ga,3,none⟩) (Kd.Af (p:=⟨Ga,2,none⟩) (Kd.Af (p:=⟨Ga,1,none⟩) (Kd.Af (p:=⟨Ga,0,none⟩) (Kd.Dg ld.out ya.out (by decide)) (fun _ hk=>hk.2) (.slice th ug.length nh)) (fun _ hk=>hk.2) (.int .i64 Pa)) (fun _ hk=>hk.2) (.int .i64 Na)) (fun _ hk=>hk.2) (.int .i64 Ma)) (fun _ hk=>hk.2) (.slice ZY ue.length QX)) (fun _ hk=>trivial),by (with_reducible repeat (first|apply Kd.Og|apply Kd.Ng|apply Kd.ah));exact Kd.zg (Kd.Ch (p:=⟨Ga,4,none⟩) (Kd.Ch (p:=⟨Ga,3,none⟩) (Kd.Ch (p:=⟨Ga,2,none⟩) (Kd.Ch (p:=⟨Ga,1,none⟩) (Kd.Ch (p:=⟨Ga,0,none⟩) (Kd.fo Ac.out ya.out (by decide)) (fun _ hk=>hk.2) (.slice th ug.length nh)) (fun _ hk=>hk.2) (.int .i64 Pa)) (fun _ hk=>hk.2) (.int .i64 Na)) (fun _ hk=>hk.2) (.int .i64 Ma)) (fun _ hk=>hk.2) (.slice ZY ue.length QX)) (fun _ hk=>trivial),by repeat (first|(with_reducible first|exact HB.out|apply oa|apply ja|apply qa|refine ua ?_ Ua.out|refine ua ?_ Cb.out|refine ua ?_ Ef.out)|exact HB.out)⟩
 ·rw [if_neg c2] at H;exact absurd H (by simp)
def DK (l xs:List ee) (p:ee→Bool) (i j:Nat):Prop:=i < j∧j ≤ l.length∧xs.length=l.length∧xs.take i=(l.take j).filter (fun x=>!p x)∧xs.drop j=l.drop j
theorem DK.skip {l xs:List ee} {p:ee→Bool} {i j:Nat} (h:DK l xs p i j) (hj:j < l.length) (hp:p (Fa l (j:Int))=true):DK l xs p i (j + 1):=by
 obtain ⟨h1,h2,h3,h4,h5⟩:=h;have hr:Fa l (j:Int)=l[j]:=by simp [Fa,List.getD_eq_getElem?_getD,hj]
 rw [hr] at hp;refine ⟨by omega,by omega,h3,?_,?_⟩
 ·rw [List.take_succ_eq_append_getElem (show j < l.length from hj),List.filter_append,← h4];simp [hp]
 ·have e1:xs.drop (j + 1)=(xs.drop j).drop 1:=by rw [List.drop_drop]
  have e2:l.drop (j + 1)=(l.drop j).drop 1:=by rw [List.drop_drop]
  rw [e1,e2,h5]
theorem DK.at_ {l xs:List ee} {p:ee→Bool} {i j:Nat} (h:DK l xs p i j) (hj:j < l.length):Fa xs (j:Int)=Fa l (j:Int):=by
 obtain ⟨h1,h2,h3,h4,h5⟩:=h;have:=congrArg List.head? h5;rw [List.head?_drop,List.head?_drop] at this;simp [Fa,List.getD_eq_getElem?_getD,this]
theorem ZF {α:Type} {d:Kd α} {e B:Nat} {ok:Nat→Prop} {W w':World} {v:Value} {xs:List α} (h:d.R e w' W.heap.size ok v xs) (hB:B ≤ W.heap.size):d.R e w' B (fun k=>W.heap.size ≤ k∧k < w'.heap.size) v xs :=
 Kd.Eh (Kd.xd (Kd.Eg h) (fun _ hk=>⟨hk.2.1,hk.2.2.1⟩)) hB
theorem YF {α:Type} {d:Kd α} {e B:Nat} {ok:Nat→Prop} {W w':World} {v:Value} {xs:List α} (h:Kd.S d e w' W.heap.size ok v xs) (hB:B ≤ W.heap.size):Kd.S d e w' B (fun k=>W.heap.size ≤ k∧k < w'.heap.size) v xs :=
 Kd.Ur (Kd.zg (Kd.Vr h) (fun _ hk=>⟨hk.2.1,hk.2.2.1⟩)) hB
theorem JX (x:ee):Ev (fun _=>gm.f x.f0 x.f1 x.f2 x.f3 x.f4 x.f5 x.f6) (decide (¬ x.f0=4∧¬ x.f0=6)):=by
 refine Ev.here ?_;unfold gm.f
 by_cases h4:x.f0=4
 ·simp [h4]
 ·by_cases h6:x.f0=6 <;> simp [h4,h6]
section
variable {l0:List Int} {p v s:Int} {l4:List Te}
theorem CM {i:Nat} (h:i < l4.length):Ka l4 (i:Int)=l4[i]:=by simp [Ka,List.getD_eq_getElem?_getD,h]
theorem PG (h0:l0.length ≤ 1048576) (hl:l4.length ≤ 1048576) (ht:Dd l4 ≤ 1048576):Ev (fun k=>Td.f k l0 p v s l4) (l0,p,v,s,l4):=by
 unfold Td.f;refine Ev.val (Ev.pos (by simp;omega) ?_);have key:=Hi (n:=l4.length) (r:=(l0,p,v,s,l4)) (fun i=>Ev (fun k=>Td.l0 k (i:Int) l0 p v s l4 ([] ++ l0) p v s (l4.take i)) (l0,p,v,s,l4)) ?_ ?_ 0 (Nat.zero_le _)
 ·exact key
 ·refine Ev.step (fun k=>by rw [Td.l0]) (Ev.neg (by omega) ?_);rw [List.take_length];exact Ev.now _
 ·intro i hi ih;rw [List.take_succ_eq_append_getElem hi,← mg hi (by omega)] at ih;have hc:=dw l4 l4[i] (List.getElem_mem hi);have hrd:=CM hi;have hl1:(l4.take i).length ≤ l4.length:=by rw [List.length_take];omega
  refine Ev.step (fun k=>by rw [Td.l0]) (Ev.pos (by omega) (Ev.pos (by omega) ?_));rw [hrd];exact Ev.val (Ev.pos (by simp;omega) (Ev.pos (by omega) ih))
theorem yD (h0:l0.length ≤ 1048576) (hl:l4.length ≤ 1048576) (ht:Dd l4 ≤ 1048576):Ev (fun k=>od.f k l0 p v s l4) (l0,p,v,s,l4):=by
 unfold od.f;refine Ev.val (Ev.pos (by simp;omega) ?_);have key:=Hi (n:=l4.length) (r:=(l0,p,v,s,l4)) (fun i=>Ev (fun k=>od.l0 k l4 (l4.length:Int) (i:Int) ([] ++ l0) p v s (l4.take i)) (l0,p,v,s,l4)) ?_ ?_ 0 (Nat.zero_le _)
 ·exact key
 ·refine Ev.step (fun k=>by rw [od.l0]) (Ev.neg (by omega) ?_);rw [List.take_length];exact Ev.now _
 ·intro i hi ih;rw [List.take_succ_eq_append_getElem hi,← mg hi (by omega)] at ih;have hc:=dw l4 l4[i] (List.getElem_mem hi);have hrd:=CM hi;have hl1:(l4.take i).length ≤ l4.length:=by rw [List.length_take];omega
  refine Ev.step (fun k=>by rw [od.l0]) (Ev.pos (by omega) (Ev.pos (by omega) (Ev.pos (by omega) ?_)));rw [hrd];exact Ev.val (Ev.pos (by simp;omega) (Ev.pos (by omega) ih))
end
end Go.Proofs.Ytmifdccaajngcaa.P
end
