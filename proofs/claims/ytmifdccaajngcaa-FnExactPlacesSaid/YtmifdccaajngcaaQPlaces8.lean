import Derived.Test.YtmifdccaajngcaaQPlaces1
import Derived.Test.YtmifdccaajngcaaQPlaces6
import Derived.Test.YtmifdccaajngcaaQPlaces7
import Derived.Test.YtmifdccaajngcaaQPlaces5
import Derived.Test.YtmifdccaajngcaaQPlaces4
import Derived.Test.YtmifdccaajngcaaQPlaces3
set_option maxHeartbeats 8000000
set_option maxRecDepth 100000
section
namespace Go.Proofs.Ytmifdccaajngcaa.P
open Go.RowKit Go.Proofs.Sa.Ec Go.Proofs.Sa.Bf Go.Proofs.Sa.Yg
set_option linter.unusedVariables false
set_option linter.unusedSimpArgs false
theorem jg (a b c:Int):Ev (fun _=>Za.f a b c) (fk a b c):=Ev.here (TK a b c)
theorem UT (t:ByteArray):Ev (fun k=>Gd.f k ([(⟨#[61,61]⟩:ByteArray),(⟨#[60]⟩:ByteArray),(⟨#[38]⟩:ByteArray),(⟨#[43]⟩:ByteArray),(⟨#[45]⟩:ByteArray),(⟨#[42]⟩:ByteArray)]:List ByteArray) t) (zu t):=by
 refine ⟨8,fun k hk=>?_⟩
 obtain ⟨m,rfl⟩:∃ m,k=m + 8:=⟨k - 8,by omega⟩
 unfold Gd.f zu PE
 simp only [Gd.l0,List.any_cons,List.any_nil]
 by_cases h0:t.toList=[61,61]
 ·simp [xl,h0]
 by_cases h1:t.toList=[60]
 ·simp [xl,h1,wrap64]
 by_cases h2:t.toList=[38]
 ·simp [xl,h2,wrap64]
 by_cases h3:t.toList=[43]
 ·simp [xl,h3,wrap64]
 by_cases h4:t.toList=[45]
 ·simp [xl,h4,wrap64]
 by_cases h5:t.toList=[42]
 ·simp [xl,h5,wrap64]
 simp [xl,Ne.symm h0,Ne.symm h1,Ne.symm h2,Ne.symm h3,Ne.symm h4,Ne.symm h5,h0,h1,h2,h3,h4,h5,wrap64]
theorem dF (s d:Int):fk d 0 (s - 1)=Tj s d:=by
 unfold fk Tj
 rw [Bool.eq_iff_iff]
 simp
 omega
def XA (D A B C M:Bool) (o d a b n:Int) (t:ByteArray):Bool :=
 if o=0 then D && (a == 0 && b == 0)
 else if o=1 then D && (A && (b == 0 && n == 0))
 else if o=2 then D && (A && (B && (n == 0 && zu t)))
 else if o=3 then D && M
 else if o=4 then d == 0 && (M && C)
 else if o=5 then D && (a == 0 && (b == 0 && n == 0))
 else if o=6 then d == 0 && (A && (b == 0 && n == 0))
 else false
theorem Ev.and {b:Bool} {f:Nat→Option Bool} {r:Bool} (hf:b=true→Ev f r):Ev (fun n=>if b=true then f n else some false) (b && r):=by
 cases b with
 | true=>exact Ev.pos rfl (hf rfl)
 | false=>exact Ev.neg (by simp) (Ev.now _)
theorem Ev.oA {c:Prop} [Decidable c] {f:Nat→Option Bool} {r:Bool} (hf:c→Ev f r):Ev (fun n=>if c then f n else some false) (decide c && r):=by
 by_cases h:c
 ·rw [decide_eq_true h]
  exact Ev.pos h (hf h)
 ·rw [decide_eq_false h]
  exact Ev.neg h (Ev.now _)
section
variable {l0:List Int} {p v s:Int} {l4:List Dh} {o d a b c n:Int} {t:ByteArray}
theorem eE (D A B M:Bool) (x:Bool) (hs:0 ≤ s) (hs':s ≤ 1000):Ev (fun k=>Xa.j1 k D A B M x l0 p v s l4 o d a b c n t) (!x && XA D A B (Tj s c) M o d a b n t):=by
 refine Ev.step (fun k=>by rw [Xa.j1]) ?_
 cases x with
 | true=>exact Ev.pos rfl (Ev.now _)
 | false =>
  refine Ev.neg (by simp) ?_
  rw [Bool.not_false,Bool.true_and]
  unfold XA
  by_cases h0:o=0
  ·rw [if_pos h0]
   exact Ev.pos h0 (Ev.and fun _=>Ev.oA fun _=>Ev.now _)
  rw [if_neg h0]
  refine Ev.neg h0 ?_
  by_cases h1:o=1
  ·rw [if_pos h1]
   exact Ev.pos h1 (Ev.and fun _=>Ev.and fun _=>Ev.oA fun _=>Ev.now _)
  rw [if_neg h1]
  refine Ev.neg h1 ?_
  by_cases h2:o=2
  ·rw [if_pos h2]
   exact Ev.pos h2 (Ev.and fun _=>Ev.and fun _=>Ev.and fun _=>Ev.oA fun _=>Ev.bind (UT t) (Ev.now _))
  rw [if_neg h2]
  refine Ev.neg h2 ?_
  by_cases h3:o=3
  ·rw [if_pos h3,if_pos h3]
   exact (Ev.and fun _=>Ev.now _)
  rw [if_neg h3,if_neg h3]
  by_cases h4:o=4
  ·rw [if_pos h4,if_pos h4]
   refine (Ev.oA fun _=>Ev.and fun _=>?_)
   rw [ag (x:=s - 1) (by omega) (by omega),← dF]
   exact Ev.bind (jg _ _ _) (Ev.now _)
  rw [if_neg h4,if_neg h4]
  by_cases h5:o=5
  ·rw [if_pos h5,if_pos h5]
   exact (Ev.and fun _=>Ev.oA fun _=>Ev.oA fun _=>Ev.now _)
  rw [if_neg h5,if_neg h5]
  by_cases h6:o=6
  ·rw [if_pos h6,if_pos h6]
   exact (Ev.oA fun _=>Ev.and fun _=>Ev.oA fun _=>Ev.now _)
  rw [if_neg h6,if_neg h6]
  exact Ev.now _
theorem Jm (M:Bool) (hM:M=((Tj s a || a == -1) && (Tj s b && fk n 0 ((l0.length:Int) - 1)))) (hs:0 ≤ s) (hs':s ≤ 1000):Ev (fun k=>Xa.j0 k (Tj s d) (Tj s a) (Tj s b) M l0 p v s l4 o d a b c n t) (ek l0.length s o d a b c n t):=by
 refine Ev.step (fun k=>by rw [Xa.j0]) ?_
 have key:∀ x:Bool,(x=if o=2 then (c != 0) else if t.toList=[] then (if o=4 then false else (c != 0)) else true)→Ev (fun k=>Xa.j1 k (Tj s d) (Tj s a) (Tj s b) M x l0 p v s l4 o d a b c n t) (ek l0.length s o d a b c n t):=by
  intro x hx
  have e:ek l0.length s o d a b c n t=(!x && XA (Tj s d) (Tj s a) (Tj s b) (Tj s c) M o d a b n t):=by
   subst hM
   subst hx
   unfold ek XA
   by_cases h0:o=0
   ·subst h0
    rw [Bool.eq_iff_iff]
    by_cases ht:t.toList=[] <;> simp [ht]
    all_goals (constructor <;> intro h <;> simp_all)
   by_cases h1:o=1
   ·subst h1
    rw [Bool.eq_iff_iff]
    by_cases ht:t.toList=[] <;> simp [ht]
    all_goals (constructor <;> intro h <;> simp_all)
   by_cases h2:o=2
   ·subst h2
    rw [Bool.eq_iff_iff]
    simp
    constructor <;> intro h <;> simp_all
   by_cases h3:o=3
   ·subst h3
    rw [Bool.eq_iff_iff]
    by_cases ht:t.toList=[] <;> simp [ht]
    all_goals (constructor <;> intro h <;> simp_all)
   by_cases h4:o=4
   ·subst h4
    rw [Bool.eq_iff_iff]
    by_cases ht:t.toList=[] <;> simp [ht]
    all_goals (constructor <;> intro h <;> simp_all)
   by_cases h5:o=5
   ·subst h5
    rw [Bool.eq_iff_iff]
    by_cases ht:t.toList=[] <;> simp [ht]
    all_goals (constructor <;> intro h <;> simp_all)
   by_cases h6:o=6
   ·subst h6
    rw [Bool.eq_iff_iff]
    by_cases ht:t.toList=[] <;> simp [ht]
    all_goals (constructor <;> intro h <;> simp_all)
   simp [h0,h1,h2,h3,h4,h5,h6]
  rw [e]
  exact eE _ _ _ _ _ hs hs'
 by_cases h2:o=2
 ·exact Ev.pos h2 (Ev.neg (by omega) (key _ (by rw [if_pos h2])))
 ·refine Ev.neg h2 ?_
  by_cases ht:t.toList=([]:List UInt8)
  ·refine Ev.pos ht ?_
   by_cases h4:o=4
   ·exact Ev.pos h4 (key _ (by rw [if_neg h2,if_pos ht,if_pos h4]))
   ·exact Ev.neg h4 (key _ (by rw [if_neg h2,if_pos ht,if_neg h4]))
  ·exact Ev.neg ht (key _ (by rw [if_neg h2,if_neg ht]))
theorem xz (hs:0 ≤ s) (hs':s ≤ 1000) (hl:l0.length ≤ 1048576):Ev (fun k=>Xa.f k l0 p v s l4 o d a b c n t) (ek l0.length s o d a b c n t):=by
 unfold Xa.f
 rw [ag (x:=s - 1) (by omega) (by omega),ag (x:=(l0.length:Int) - 1) (by omega) (by omega)]
 refine Ev.bind (jg _ _ _) (Ev.bind (jg _ _ _) (Ev.bind (jg _ _ _) ?_))
 simp only [dF]
 cases ha:Tj s a with
 | true =>
  refine Ev.pos rfl ?_
  cases hb:Tj s b with
  | true=>exact Ev.pos rfl (Ev.bind (jg _ _ _) (by have:=Jm (l0:=l0) (p:=p) (v:=v) (s:=s) (l4:=l4) (o:=o) (d:=d) (a:=a) (b:=b) (c:=c) (n:=n) (t:=t) (fk n 0 ((l0.length:Int) - 1)) (by simp [ha,hb]) hs hs';rw [ha,hb] at this;exact this))
  | false=>exact Ev.neg (by simp) (by have:=Jm (l0:=l0) (p:=p) (v:=v) (s:=s) (l4:=l4) (o:=o) (d:=d) (a:=a) (b:=b) (c:=c) (n:=n) (t:=t) false (by simp [hb]) hs hs';rw [ha,hb] at this;exact this)
 | false =>
  refine Ev.neg (by simp) ?_
  by_cases h1:a = -1
  ·refine Ev.pos h1 ?_
   cases hb:Tj s b with
   | true=>exact Ev.pos rfl (Ev.bind (jg _ _ _) (by have:=Jm (l0:=l0) (p:=p) (v:=v) (s:=s) (l4:=l4) (o:=o) (d:=d) (a:=a) (b:=b) (c:=c) (n:=n) (t:=t) (fk n 0 ((l0.length:Int) - 1)) (by simp [h1,hb]) hs hs';rw [ha,hb] at this;exact this))
   | false=>exact Ev.neg (by simp) (by have:=Jm (l0:=l0) (p:=p) (v:=v) (s:=s) (l4:=l4) (o:=o) (d:=d) (a:=a) (b:=b) (c:=c) (n:=n) (t:=t) false (by simp [hb]) hs hs';rw [ha,hb] at this;exact this)
  ·exact Ev.neg h1 (by have:=Jm (l0:=l0) (p:=p) (v:=v) (s:=s) (l4:=l4) (o:=o) (d:=d) (a:=a) (b:=b) (c:=c) (n:=n) (t:=t) false (by simp [ha,h1]) hs hs';rw [ha] at this;exact this)
theorem QF (code:List yf) (j ba tg els:Int) (hs:0 ≤ s) (hs':s ≤ 1000) (hl:l0.length ≤ 1048576) (kV:l4.length ≤ 1048576) (hc:code.length ≤ 1048576):Ev (fun k=>Gb.f k l0 p v s l4 code j ba tg els) (ql l0.length s l4.length code j ba tg els):=by
 unfold Gb.f
 have key:=RF (n:=code.length) (R:=(if j=0 then fk tg 0 ((l4.length:Int) - 1) && ba == 0 && els == 0 else if j=1 then fk tg 0 ((l4.length:Int) - 1) && fk els 0 ((l4.length:Int) - 1) && Tj s ba else if j=2 then Tj s ba && tg == 0 && els == 0 else false)) (e:=false) (fun i=>Ui l0.length s (code.getD i Ws)=true) (fun i k=>Gb.l0 k (i:Int) l0 p v s l4 code j ba tg els) ?_ ?_ ?_
 ·have e:(bif Fx code.length (fun i=>Ui l0.length s (code.getD i Ws)=true) then (if j=0 then fk tg 0 ((l4.length:Int) - 1) && ba == 0 && els == 0 else if j=1 then fk tg 0 ((l4.length:Int) - 1) && fk els 0 ((l4.length:Int) - 1) && Tj s ba else if j=2 then Tj s ba && tg == 0 && els == 0 else false) else false)=ql l0.length s l4.length code j ba tg els:=by
   rw [Kw]
   unfold ql
   rw [decide_eq_true hs,Bool.and_true]
   cases (!(code.any fun x=>!Ui l0.length s x)) <;> rfl
  rw [e] at key
  exact key
 ·refine Ev.step (fun k=>by rw [Gb.l0]) (Ev.neg (by omega) ?_)
  rw [ag (x:=s - 1) (by omega) (by omega),ag (x:=(l4.length:Int) - 1) (by omega) (by omega)]
  refine Ev.bind (jg _ _ _) (Ev.bind (jg _ _ _) ?_)
  rw [dF s ba]
  by_cases h0:j=0
  ·rw [if_pos h0,if_pos h0,Bool.and_assoc]
   exact Ev.and fun _=>Ev.oA fun _=>Ev.now _
  rw [if_neg h0,if_neg h0]
  by_cases h1:j=1
  ·rw [if_pos h1,if_pos h1,Bool.and_assoc,Bool.and_comm (fk els 0 ((l4.length:Int) - 1))]
   exact Ev.and fun _=>Ev.and fun _=>Ev.bind (jg _ _ _) (Ev.now _)
  rw [if_neg h1,if_neg h1]
  by_cases h2:j=2
  ·rw [if_pos h2,if_pos h2,Bool.and_assoc]
   exact Ev.and fun _=>Ev.oA fun _=>Ev.now _
  rw [if_neg h2,if_neg h2]
  exact Ev.now _
 ·intro i hi hp r hr
  refine Ev.step (fun k=>by rw [Gb.l0]) (Ev.pos (by omega) (Ev.pos (by omega) ?_))
  refine Ev.bind (xz hs hs' hl) ?_
  have hq:ek l0.length s (Ea code (i:Int)).f0 (Ea code (i:Int)).f1 (Ea code (i:Int)).f2 (Ea code (i:Int)).f3 (Ea code (i:Int)).f4 (Ea code (i:Int)).f5 (Ea code (i:Int)).f6=true:=hp
  refine Ev.pos hq ?_
  rw [bg hi (by omega)]
  exact hr
 ·intro i hi hp
  refine Ev.step (fun k=>by rw [Gb.l0]) (Ev.pos (by omega) (Ev.pos (by omega) ?_))
  refine Ev.bind (xz hs hs' hl) ?_
  exact Ev.neg hp (Ev.now _)
end
def Ze (l:List Dh):Nat:=(l.map fun x=>x.f0.length).sum
def Ew (l0:List Int) (p v s:Int) (n4:Nat):Bool:=ku l0 p v && fk s v 1000 && fk (n4:Int) 1 300
def Mo (l0:List Int) (s:Int) (l4:List Dh) (x:Dh):Bool:=ql l0.length s l4.length x.f0 x.f1 x.f2 x.f3 x.f4
def Mp (l0:List Int) (p v s:Int) (l4:List Dh):Bool:=Ew l0 p v s l4.length && (!(l4.any fun x=>!Mo l0 s l4 x) && decide (Ze l4 ≤ 1000))
theorem yu (l:List Dh) (i:Nat) (h:i < l.length):Ze (l.take (i + 1))=Ze (l.take i) + l[i].f0.length:=by
 unfold Ze
 rw [List.take_succ_eq_append_getElem h,List.map_append,List.sum_append]
 simp
theorem Ry (l:List Nat) (i:Nat):(l.take i).sum ≤ l.sum:=by
 conv=>rhs;rw [← List.take_append_drop i l]
 rw [List.sum_append]
 omega
theorem Sy (l:List Dh) (i:Nat):Ze (l.take i) ≤ Ze l:=by
 unfold Ze
 rw [List.map_take]
 exact Ry _ _
theorem ZJ {l0:List Int} {p v s:Int} {n4:Nat} (h:Ew l0 p v s n4=true):1 ≤ l0.length∧l0.length ≤ 4∧0 ≤ p∧p ≤ v∧p ≤ 6∧v ≤ 20∧v ≤ s∧s ≤ 1000∧1 ≤ n4∧n4 ≤ 300:=by
 unfold Ew ku fk at h
 simp only [Bool.and_eq_true,decide_eq_true_eq] at h
 obtain ⟨⟨⟨⟨⟨⟨h1,h2⟩,_⟩,h3,h4⟩,h5⟩,h6,h7⟩,h8,h9⟩:=h
 split at h4 <;> omega
section
variable {l0:List Int} {p v s:Int} {l4:List Dh}
theorem NF (h0:l0.length ≤ 1048576) (kV:l4.length ≤ 1048576) (ht:Ze l4 ≤ 1048576):Ev (fun k=>Ab.f k l0 p v s l4) (Mp l0 p v s l4):=by
 unfold Ab.f jh.f
 simp only [List.length_nil,if_true]
 refine Ev.val ?_
 have no:∀ {r:Bool},r=false→Ev (fun k=>Ab.j0 k true l0 p v s l4) r:=by
  intro r hr
  subst hr
  exact Ev.step (fun k=>by rw [Ab.j0]) (Ev.pos rfl (Ev.now _))
 unfold Mp Ew
 cases hp:ku l0 p v with
 | false=>exact Ev.neg (by simp) (no (by simp))
 | true =>
  refine Ev.pos rfl (Ev.bind (Ev.here (Gu _ _ _)) ?_)
  cases hv:fk s v 1000 with
  | false=>exact Ev.neg (by simp) (no (by simp))
  | true =>
   refine Ev.pos rfl (Ev.bind (Ev.here (Gu _ _ _)) ?_)
   cases hn:fk (l4.length:Int) 1 300 with
   | false=>exact no (by simp)
   | true =>
    refine Ev.step (fun k=>by rw [Ab.j0]) (Ev.neg (by simp) ?_)
    simp only [Bool.true_and]
    have key:=RF (n:=l4.length) (R:=decide (Ze l4 ≤ 1000)) (e:=false) (fun i=>Mo l0 s l4 (l4.getD i lD)=true) (fun i k=>Ab.l0 k (Ze (l4.take i):Int) l4 (l4.length:Int) (i:Int) l0 p v s l4) ?_ ?_ ?_
    ·have e:(bif Fx l4.length (fun i=>Mo l0 s l4 (l4.getD i lD)=true) then decide (Ze l4 ≤ 1000) else false)=(!(l4.any fun x=>!Mo l0 s l4 x) && decide (Ze l4 ≤ 1000)):=by
      rw [Kw]
      cases (!(l4.any fun x=>!Mo l0 s l4 x)) <;> rfl
     rw [e] at key
     simpa [Ze] using key
    ·refine Ev.step (fun k=>by rw [Ab.l0]) (Ev.neg (by omega) ?_)
     rw [List.take_length]
     have e:decide ((Ze l4:Int) ≤ 1000)=decide (Ze l4 ≤ 1000):=by
      rw [Bool.eq_iff_iff,decide_eq_true_iff,decide_eq_true_iff]
      omega
     rw [e]
     exact Ev.now _
    ·intro i hi hq r hr
     refine Ev.step (fun k=>by rw [Ab.l0]) (Ev.pos (by omega) (Ev.pos (by omega) (Ev.pos (by omega) ?_)))
     unfold sj.f
     have hq':ql l0.length s l4.length (Ua l4 (i:Int)).f0 (Ua l4 (i:Int)).f1 (Ua l4 (i:Int)).f2 (Ua l4 (i:Int)).f3 (Ua l4 (i:Int)).f4=true:=hq
     refine Ev.val (Ev.pos hq' ?_)
     have h1:=yu l4 i hi
     have h2:=Sy l4 (i + 1)
     rw [wm hi,bg hi (by omega),ag (x:=(Ze (l4.take i):Int) + (l4[i].f0.length:Int)) (by omega) (by omega),show (Ze (l4.take i):Int) + (l4[i].f0.length:Int)=(Ze (l4.take (i + 1)):Int) from by omega]
     exact hr
    ·intro i hi hq
     refine Ev.step (fun k=>by rw [Ab.l0]) (Ev.pos (by omega) (Ev.pos (by omega) (Ev.pos (by omega) ?_)))
     unfold sj.f
     exact Ev.val (Ev.neg hq (Ev.now _))
theorem SF (h0:l0.length ≤ 1048576) (kV:l4.length ≤ 1048576) (ht:Ze l4 ≤ 1048576):Ev (fun k=>Va.f k l0 p v s l4) (Mp l0 p v s l4):=by
 unfold Va.f
 have no:∀ {r:Bool},r=false→Ev (fun k=>Va.j1 k true l0 p v s l4) r:=by
  intro r hr
  subst hr
  exact Ev.step (fun k=>by rw [Va.j1]) (Ev.pos rfl (Ev.now _))
 have key:=RF (n:=l0.length) (R:=fk (l0.length:Int) 1 4 && (fk v 0 20 && (fk p 0 6 && (decide (p ≤ v) && (fk s v 1000 && (fk (l4.length:Int) 1 300 && (!(l4.any fun x=>!Mo l0 s l4 x) && decide (Ze l4 ≤ 1000)))))))) (e:=false) (fun i=>fk (l0.getD i 0) 1 16=true) (fun i k=>Va.l0 k (i:Int) l0 p v s l4) ?_ ?_ ?_
 ·have e:(bif Fx l0.length (fun i=>fk (l0.getD i 0) 1 16=true) then (fk (l0.length:Int) 1 4 && (fk v 0 20 && (fk p 0 6 && (decide (p ≤ v) && (fk s v 1000 && (fk (l4.length:Int) 1 300 && (!(l4.any fun x=>!Mo l0 s l4 x) && decide (Ze l4 ≤ 1000)))))))) else false)=Mp l0 p v s l4:=by
   rw [Kw l0 0 (fun x=>fk x 1 16)]
   unfold Mp Ew ku
   rw [Bool.eq_iff_iff]
   cases (!(l0.any fun x=>!fk x 1 16))
   ·simp
   ·simp only [cond_true,Bool.and_eq_true,fk,decide_eq_true_eq,and_assoc,true_and]
    constructor
    ·rintro ⟨h1,h2,h3,h4,h5,h6,h7,h8⟩
     refine ⟨h1,h2,h5,?_,h4,h8⟩
     split <;> omega
    ·rintro ⟨h1,h2,h5,h6,h4,h7,h8,h9⟩
     refine ⟨h1,h2,?_⟩
     split at h6 <;> exact ⟨by omega,by omega,by omega,by omega,by omega,h7,h8,h9⟩
  rw [e] at key
  exact key
 ·refine Ev.step (fun k=>by rw [Va.l0]) (Ev.neg (by omega) ?_)
  refine Ev.bind (jg _ _ _) ?_
  cases hb0:fk (l0.length:Int) 1 4 with
  | false=>exact Ev.neg (by simp) (no (by simp))
  | true =>
   refine Ev.pos rfl (Ev.bind (jg _ _ _) ?_)
   cases hb1:fk v 0 20 with
   | false=>exact Ev.neg (by simp) (no (by simp))
   | true =>
    refine Ev.pos rfl (Ev.bind (jg _ _ _) ?_)
    cases hb2:fk p 0 6 with
    | false=>exact Ev.neg (by simp) (no (by simp))
    | true =>
     refine Ev.pos rfl ?_
     by_cases hpv:p > v
     ·refine Ev.pos hpv (no ?_)
      rw [decide_eq_false (show ¬ p ≤ v from by omega)]
      simp
     ·refine Ev.neg hpv (Ev.bind (jg _ _ _) ?_)
      rw [decide_eq_true (show p ≤ v from by omega)]
      cases qD:fk s v 1000 with
      | false=>exact Ev.neg (by simp) (no (by simp))
      | true =>
       refine Ev.pos rfl (Ev.bind (jg _ _ _) ?_)
       cases mV:fk (l4.length:Int) 1 300 with
       | false=>exact no (by simp)
       | true =>
        refine Ev.step (fun k=>by rw [Va.j1]) (Ev.neg (by simp) ?_)
        simp only [Bool.true_and]
        have hs0:0 ≤ s∧s ≤ 1000:=by simp [fk] at hb1 qD;omega
        have key:=ni (r:=true) (n:=l4.length) (fun i=>Ze (l4.take i) ≤ 1000→Ev (fun k=>Va.l1 k (Ze (l4.take i):Int) (i:Int) l0 p v s l4) (!((l4.drop i).any fun x=>!Mo l0 s l4 x) && decide (Ze l4 ≤ 1000))) ?_ ?_ 0 (by omega) (by simp [Ze])
        ·rw [List.drop_zero] at key
         simpa [Ze] using key
        ·intro h
         rw [List.take_length] at h
         refine Ev.step (fun k=>by rw [Va.l1]) (Ev.neg (by omega) ?_)
         rw [List.drop_length,decide_eq_true h]
         exact Ev.now _
        ·intro i hi ih h
         have h1:=yu l4 i hi
         have h2:=Sy l4 (i + 1)
         refine Ev.step (fun k=>by rw [Va.l1]) (Ev.pos (by omega) (Ev.pos (by omega) ?_))
         rw [wm hi,ag (x:=(Ze (l4.take i):Int) + (l4[i].f0.length:Int)) (by omega) (by omega),show (Ze (l4.take i):Int) + (l4[i].f0.length:Int)=(Ze (l4.take (i + 1)):Int) from by omega]
         have hd:((l4.drop i).any fun x=>!Mo l0 s l4 x)=(!Mo l0 s l4 l4[i] || (l4.drop (i + 1)).any fun x=>!Mo l0 s l4 x):=by
          rw [List.drop_eq_getElem_cons hi,List.any_cons]
         rw [hd]
         by_cases hgt:(Ze (l4.take (i + 1)):Int) > 1000
         ·rw [decide_eq_false (show ¬ Ze l4 ≤ 1000 from by omega),Bool.and_false]
          exact Ev.pos hgt (Ev.now _)
         ·refine Ev.neg hgt (Ev.bind (QF _ _ _ _ _ hs0.1 hs0.2 h0 kV (by omega)) ?_)
          cases hq:Mo l0 s l4 l4[i] with
          | false =>
           have hq':¬ ql l0.length s l4.length l4[i].f0 l4[i].f1 l4[i].f2 l4[i].f3 l4[i].f4=true:=by
            have e:ql l0.length s l4.length l4[i].f0 l4[i].f1 l4[i].f2 l4[i].f3 l4[i].f4=false:=hq
            rw [e]
            simp
           exact Ev.neg hq' (Ev.now _)
          | true =>
           have hq':ql l0.length s l4.length l4[i].f0 l4[i].f1 l4[i].f2 l4[i].f3 l4[i].f4=true:=hq
           refine Ev.pos hq' ?_
           rw [bg hi (by omega),Bool.not_true,Bool.false_or]
           exact ih (by omega)
 ·intro i hi hq r hr
  refine Ev.step (fun k=>by rw [Va.l0]) (Ev.pos (by omega) (Ev.pos (by omega) ?_))
  refine Ev.bind (jg _ _ _) (Ev.pos hq ?_)
  rw [bg hi (by omega)]
  exact hr
 ·intro i hi hq
  refine Ev.step (fun k=>by rw [Va.l0]) (Ev.pos (by omega) (Ev.pos (by omega) ?_))
  exact Ev.bind (jg _ _ _) (Ev.neg hq (Ev.now _))
end
end Go.Proofs.Ytmifdccaajngcaa.P
end
section
namespace Go.Proofs.Ytmifdccaajngcaa.P
open Go.RowKit Go.Proofs.Sa.Ec Go.Proofs.Sa.Bf Go.Proofs.Sa.Yg
set_option linter.unusedVariables false
set_option linter.unusedSimpArgs false
def Gi (x:mm):ko:=⟨x.f0,x.f1⟩
theorem OE (t:ByteArray) (a b:Int):lq.f t a b=some (aG t a b):=by
 rw [← mE]
 rfl
theorem aE (n:Nat) (hn:n ≤ 1000):Ev (fun k=>mc.f k (n:Int)) ((idents n).map Gi):=by
 unfold mc.f
 have key:=ni (r:=(idents n).map Gi) (n:=n) (fun i=>Ev (fun k=>mc.l0 k (n:Int) (((idents n).take i).map Gi) (i:Int)) ((idents n).map Gi)) ?_ ?_ 0 (by omega)
 ·exact key
 ·refine Ev.step (fun k=>by rw [mc.l0]) (Ev.neg (by omega) ?_)
  rw [List.take_of_length_le (by rw [Lh];omega)]
  exact Ev.now _
 ·intro i hi ih
  refine Ev.step (fun k=>by rw [mc.l0]) (Ev.pos (by omega) (Ev.pos (by rw [List.length_map,List.length_take,Lh];omega) ?_))
  rw [bg hi (by omega)]
  rw [Xw n i hi,List.map_append] at ih
  exact ih
def Gs (o:Option mm):Int × Int × Bool:=match o with
 | some s=>(s.f0,s.f1,true)
 | none=>(0,0,false)
theorem bK (t:ByteArray) (a b:mm):Ev (fun k=>Ib.f k t a.f0 a.f1 b.f0 b.f1) (Gs (Bx t a b)):=by
 have h3:∀ x:Bool,x=decide (t.toList=[45]∧b.f0 = -1)→Ev (fun k=>Ib.j3 k t x a.f0 a.f1 b.f0 b.f1) (Gs (if t.toList=[45]∧b.f0 = -1 then some ⟨a.f0,wrap64 (a.f1 - b.f1)⟩ else if t.toList=[45]∧a.f0=b.f0 then some ⟨-1,wrap64 (a.f1 - b.f1)⟩ else none)):=by
  intro x hx
  refine Ev.step (fun k=>by rw [Ib.j3]) ?_
  by_cases h:t.toList=[45]∧b.f0 = -1
  ·rw [if_pos h]
   exact Ev.pos (by rw [hx];simpa using h) (Ev.now _)
  ·rw [if_neg h]
   refine Ev.neg (by rw [hx];simpa using h) ?_
   by_cases h1:t.toList=[45]
   ·by_cases h2:a.f0=b.f0
    ·simp only [h1,h2,and_self,if_true,Gs]
     exact Ev.now _
    ·simp only [h1,h2,and_false,if_true,if_false,Gs]
     exact Ev.now _
   ·simp only [h1,false_and,if_false,Gs]
    exact Ev.now _
 have h2:∀ x:Bool,x=decide (t.toList=[43]∧b.f0 = -1)→Ev (fun k=>Ib.j2 k t x a.f0 a.f1 b.f0 b.f1) (Gs (if t.toList=[43]∧b.f0 = -1 then some ⟨a.f0,wrap64 (a.f1 + b.f1)⟩ else if t.toList=[45]∧b.f0 = -1 then some ⟨a.f0,wrap64 (a.f1 - b.f1)⟩ else if t.toList=[45]∧a.f0=b.f0 then some ⟨-1,wrap64 (a.f1 - b.f1)⟩ else none)):=by
  intro x hx
  refine Ev.step (fun k=>by rw [Ib.j2]) ?_
  by_cases h:t.toList=[43]∧b.f0 = -1
  ·rw [if_pos h]
   exact Ev.pos (by rw [hx];simpa using h) (Ev.now _)
  ·rw [if_neg h]
   refine Ev.neg (by rw [hx];simpa using h) ?_
   by_cases h1:t.toList=[45]
   ·exact Ev.pos h1 (h3 _ (by rw [Bool.eq_iff_iff];simp [h1]))
   ·exact Ev.neg h1 (h3 _ (by simp [h1]))
 have h1:∀ x:Bool,x=decide (t.toList=[43]∧a.f0 = -1)→Ev (fun k=>Ib.j1 k t x a.f0 a.f1 b.f0 b.f1) (Gs (if t.toList=[43]∧a.f0 = -1 then some ⟨b.f0,wrap64 (a.f1 + b.f1)⟩ else if t.toList=[43]∧b.f0 = -1 then some ⟨a.f0,wrap64 (a.f1 + b.f1)⟩ else if t.toList=[45]∧b.f0 = -1 then some ⟨a.f0,wrap64 (a.f1 - b.f1)⟩ else if t.toList=[45]∧a.f0=b.f0 then some ⟨-1,wrap64 (a.f1 - b.f1)⟩ else none)):=by
  intro x hx
  refine Ev.step (fun k=>by rw [Ib.j1]) ?_
  by_cases h:t.toList=[43]∧a.f0 = -1
  ·rw [if_pos h]
   exact Ev.pos (by rw [hx];simpa using h) (Ev.now _)
  ·rw [if_neg h]
   refine Ev.neg (by rw [hx];simpa using h) ?_
   by_cases h1:t.toList=[43]
   ·exact Ev.pos h1 (h2 _ (by rw [Bool.eq_iff_iff];simp [h1]))
   ·exact Ev.neg h1 (h2 _ (by simp [h1]))
 have h0:∀ x:Bool,x=decide (a.f0 = -1∧b.f0 = -1)→Ev (fun k=>Ib.j0 k t x a.f0 a.f1 b.f0 b.f1) (Gs (Bx t a b)):=by
  intro x hx
  unfold Bx
  refine Ev.step (fun k=>by rw [Ib.j0]) ?_
  by_cases h:a.f0 = -1∧b.f0 = -1
  ·rw [if_pos h,OE]
   exact Ev.pos (by rw [hx];simpa using h) (Ev.now _)
  ·rw [if_neg h]
   refine Ev.neg (by rw [hx];simpa using h) ?_
   by_cases h2:t.toList=[43]
   ·exact Ev.pos h2 (h1 _ (by rw [Bool.eq_iff_iff];simp [h2]))
   ·exact Ev.neg h2 (h1 _ (by simp [h2]))
 unfold Ib.f
 by_cases h:a.f0 = -1
 ·exact Ev.pos h (h0 _ (by rw [Bool.eq_iff_iff];simp [h]))
 ·exact Ev.neg h (h0 _ (by simp [h]))
theorem Js (xs:List mm) (i:Int) (h0:0 ≤ i) (h1:i < xs.length):Xb (xs.map Gi) i=Gi (jb xs i):=by
 have hi:i.toNat < xs.length:=by omega
 simp [Xb,jb,List.getD_eq_getElem?_getD,hi]
theorem Yo {xs:List mm} {nx:Int} {x:yf} (h4:¬ x.f0=4) (h6:¬ x.f0=6) (h0:0 ≤ x.f1):cj xs nx x=(xs.set x.f1.toNat (wo xs nx x).1,(wo xs nx x).2):=by
 unfold cj mg
 rw [if_neg h4,if_neg h6,if_pos h0]
theorem Zo {s d:Int} (h:Tj s d=true):0 ≤ d∧d < s:=by simpa [Tj] using h
theorem MF (n0:Nat) (x:yf) (xs:List mm) (nx:Int) (hn0:0 ≤ nx) (Ds:nx ≤ 1000000000) (s:Int) (hs:(xs.length:Int)=s) (hok:Ui n0 s x=true) :
  Ev (fun k=>Mc.f k x.f0 x.f1 x.f2 x.f3 x.f4 x.f5 x.f6 (xs.map Gi) nx) ((cj xs nx x).2,(cj xs nx x).1.map Gi):=by
 have hset:∀ (r:mm) (i:Int),(xs.set i.toNat r).map Gi=(xs.map Gi).set i.toNat (Gi r):=fun r i=>by rw [List.map_set]
 have hlen:((xs.map Gi).length:Int)=s:=by rw [List.length_map];exact hs
 have fin:∀ (r:mm) (n':Int),(0 ≤ x.f1∧x.f1 < s)→cj xs nx x=(xs.set x.f1.toNat r,n')→Ev (fun k=>Mc.v k x.f0 x.f1 x.f2 x.f3 x.f4 x.f5 x.f6 (xs.map Gi) nx) (some (Gi r,n'))→Ev (fun k=>Mc.f k x.f0 x.f1 x.f2 x.f3 x.f4 x.f5 x.f6 (xs.map Gi) nx) ((cj xs nx x).2,(cj xs nx x).1.map Gi):=by
  intro r n' hd hk hv
  unfold Mc.f
  refine Ev.bind hv ?_
  rw [hk]
  simp only [hset]
  exact Ev.pos ⟨hd.1,by omega⟩ (Ev.now _)
 have fr:(0 ≤ x.f1∧x.f1 < s)→¬ x.f0=4→¬ x.f0=6→wo xs nx x=(⟨nx,0⟩,nx + 1)→cj xs nx x=(xs.set x.f1.toNat ⟨nx,0⟩,nx + 1):=fun hd h4 h6 hv=>by rw [Yo h4 h6 hd.1,hv]
 unfold Ui ek at hok
 by_cases o0:x.f0=0
 ·rw [if_pos o0,Bool.and_eq_true] at hok
  have hd:=Zo hok.1
  refine fin ⟨-1,x.f5⟩ nx hd (by rw [Yo (by omega) (by omega) hd.1,show wo xs nx x=(⟨-1,x.f5⟩,nx) from by unfold wo;rw [if_pos o0]]) (Ev.congr (fun k=>?_) (Ev.now _))
  unfold Mc.v
  rw [if_pos o0]
  rfl
 rw [if_neg o0] at hok
 by_cases o1:x.f0=1
 ·rw [if_pos o1,Bool.and_eq_true,Bool.and_eq_true] at hok
  have hd:=Zo hok.1.1
  obtain ⟨a0,a1⟩:=Zo hok.1.2
  refine fin (jb xs x.f2) nx hd (by rw [Yo (by omega) (by omega) hd.1,show wo xs nx x=(jb xs x.f2,nx) from by unfold wo;rw [if_neg o0,if_pos o1]]) (Ev.congr (fun k=>?_) (Ev.now _))
  unfold Mc.v
  rw [if_neg o0,if_pos o1,if_pos ⟨a0,by omega⟩,Js xs x.f2 a0 (by omega)]
 rw [if_neg o1] at hok
 by_cases o2:x.f0=2
 ·rw [if_pos o2,Bool.and_eq_true,Bool.and_eq_true,Bool.and_eq_true,Bool.and_eq_true] at hok
  have hd:=Zo hok.1.1.1.1
  obtain ⟨a0,a1⟩:=Zo hok.1.1.1.2
  obtain ⟨b0,b1⟩:=Zo hok.1.1.2
  have hB:=bK x.f6 (jb xs x.f2) (jb xs x.f3)
  have hv:∀ (o:Option (ko × Int)),Ev (fun k=>(Ib.f k x.f6 (jb xs x.f2).f0 (jb xs x.f2).f1 (jb xs x.f3).f0 (jb xs x.f3).f1).bind fun t=>some (some (if t.2.2=true then ((⟨t.1,t.2.1⟩:ko),nx) else (⟨nx,0⟩,wrap64 (nx + 1))))) o→Ev (fun k=>Mc.v k x.f0 x.f1 x.f2 x.f3 x.f4 x.f5 x.f6 (xs.map Gi) nx) o:=fun o h=>Ev.congr (fun k=>by
   unfold Mc.v
   rw [if_neg o0,if_neg o1,if_pos o2,if_pos ⟨⟨a0,by omega⟩,b0,by omega⟩,Js xs x.f2 a0 (by omega),Js xs x.f3 b0 (by omega)]
   rfl) h
  cases hk:Bx x.f6 (jb xs x.f2) (jb xs x.f3) with
  | some r =>
   rw [hk] at hB
   exact fin r nx hd (by rw [Yo (by omega) (by omega) hd.1,show wo xs nx x=(r,nx) from by unfold wo;rw [if_neg o0,if_neg o1,if_pos o2,hk]]) (hv _ (Ev.bind hB (Ev.now _)))
  | none =>
   rw [hk] at hB
   refine fin ⟨nx,0⟩ (nx + 1) hd (fr hd (by omega) (by omega) (by unfold wo;rw [if_neg o0,if_neg o1,if_pos o2,hk])) (hv _ (Ev.bind hB (Ev.here ?_)))
   rw [ag (by omega) (by omega)]
   rfl
 rw [if_neg o2] at hok
 have hfr:x.f0=3 ∨ x.f0=5→(0 ≤ x.f1∧x.f1 < s)→Ev (fun k=>Mc.f k x.f0 x.f1 x.f2 x.f3 x.f4 x.f5 x.f6 (xs.map Gi) nx) ((cj xs nx x).2,(cj xs nx x).1.map Gi):=by
  intro ho hd
  refine fin ⟨nx,0⟩ (nx + 1) hd (fr hd (by omega) (by omega) (by unfold wo;rw [if_neg o0,if_neg o1,if_neg o2])) (Ev.congr (fun k=>?_) (Ev.now _))
  unfold Mc.v
  rw [if_neg o0,if_neg o1,if_neg o2,if_pos ho,ag (by omega) (by omega)]
  rfl
 by_cases o3:x.f0=3
 ·rw [if_pos o3] at hok
  simp only [Bool.and_eq_true] at hok
  exact hfr (Or.inl o3) (Zo hok.1.1.1.1)
 rw [if_neg o3] at hok
 by_cases o5:x.f0=5
 ·rw [if_neg (by omega),if_pos o5,Bool.and_eq_true] at hok
  exact hfr (Or.inr o5) (Zo hok.1)
 have hm:mg x = -1:=by
  by_cases o4:x.f0=4
  ·unfold mg;rw [if_pos o4]
  ·rw [if_neg o4,if_neg o5] at hok
   by_cases o6:x.f0=6
   ·unfold mg;rw [if_neg o4,if_pos o6]
   ·rw [if_neg o6] at hok
    cases hok
 have hks:cj xs nx x=(xs,nx):=by
  unfold cj
  rw [hm,if_neg (by omega)]
 rw [hks]
 refine Ev.congr (fun k=>?_) (Ev.now _)
 unfold Mc.f Mc.v
 rw [if_neg o0,if_neg o1,if_neg o2,if_neg (by omega)]
 rfl
theorem KD {n0:Nat} {s:Int} {x:yf} (h:Ui n0 s x=true) (hs:0 ≤ s):Qs s x=true:=by
 unfold Ui ek at h
 unfold Qs mg
 by_cases o0:x.f0=0
 ·simp [o0,Tj] at h ⊢;omega
 by_cases o1:x.f0=1
 ·simp [o1,Tj] at h ⊢;omega
 by_cases o2:x.f0=2
 ·simp [o2,Tj] at h ⊢;omega
 by_cases o3:x.f0=3
 ·simp [o3,Tj] at h ⊢;omega
 by_cases o4:x.f0=4
 ·simp [o4];omega
 by_cases o5:x.f0=5
 ·simp [o5,Tj] at h ⊢;omega
 by_cases o6:x.f0=6
 ·simp [o6];omega
 simp [o0,o1,o2,o3,o4,o5,o6] at h
section
variable {l0:List Int} {p v s:Int} {l4:List Dh}
theorem UC (h:Mp l0 p v s l4=true):Ew l0 p v s l4.length=true∧(∀ b ∈ l4,Mo l0 s l4 b=true)∧Ze l4 ≤ 1000:=by
 unfold Mp at h
 simp only [Bool.and_eq_true,Bool.not_eq_true',List.any_eq_false,decide_eq_true_eq] at h
 exact ⟨h.1,fun b hb=>by have:=h.2.1 b hb;simpa using this,h.2.2⟩
theorem YF {b:Dh} (h:Mo l0 s l4 b=true):∀ x ∈ b.f0,Ui l0.length s x=true:=by
 unfold Mo ql at h
 simp only [Bool.and_eq_true,Bool.not_eq_true',List.any_eq_false] at h
 intro x hx
 have:=h.1.1 x hx
 simpa using this
theorem aJ (l:List Dh) (b:Dh) (hb:b ∈ l):b.f0.length ≤ Ze l:=by
 unfold Ze
 exact bz (List.mem_map.mpr ⟨b,hb,rfl⟩)
end
end Go.Proofs.Ytmifdccaajngcaa.P
end
section
namespace Go.Proofs.Ytmifdccaajngcaa.P
open Go.RowKit Go.Proofs.Sa.Ec Go.Proofs.Sa.Bf Go.Proofs.Sa.Yg
set_option linter.unusedVariables false
set_option linter.unusedSimpArgs false
attribute [local go_sem] Jk Gk ym xm Gj Fj Ik Fk
def Jb.l0:Nat→List (yf)→Int→Int→Option (Int)
 | 0,_,_,_=>none
 | k + 1,x0,x1,x5=>if x5 < (x0.length:Int) then (if 0 ≤ x5 then (if ((Ea x0 x5).f0)=x1 then (if ((Ea x0 x5).f1)=(wrap64 (x1 + 1)) then (if ((Ea x0 x5).f2)=(wrap64 ((wrap64 (x1 + 1)) + 1)) then (if ((Ea x0 x5).f3)=(wrap64 ((wrap64 ((wrap64 (x1 + 1)) + 1)) + 1)) then (if ((Ea x0 x5).f4)=(wrap64 ((wrap64 ((wrap64 ((wrap64 (x1 + 1)) + 1)) + 1)) + 1)) then (if ((Ea x0 x5).f5)=(wrap64 ((wrap64 ((wrap64 ((wrap64 ((wrap64 (x1 + 1)) + 1)) + 1)) + 1)) + 1)) then ((dc.f k (wrap64 ((wrap64 ((wrap64 ((wrap64 ((wrap64 ((wrap64 (x1 + 1)) + 1)) + 1)) + 1)) + 1)) + 1))).bind fun t108=>(if ((Ea x0 x5).f6).toList=t108.toList then (Jb.l0 k x0 (wrap64 ((wrap64 ((wrap64 ((wrap64 ((wrap64 ((wrap64 ((wrap64 (x1 + 1)) + 1)) + 1)) + 1)) + 1)) + 1)) + 1)) (wrap64 (x5 + 1))) else (some (-1)))) else (some (-1))) else (some (-1))) else (some (-1))) else (some (-1))) else (some (-1))) else (some (-1))) else (none)) else (some x1)
def Jb.f (k:Nat) (l0:List (yf)) (a1:Int):Option (Int):=Jb.l0 k l0 a1 0
theorem Jb.Qd:∀ k,(∀ y0 y1 y2,Nb (Jb.l0 k y0 y1 y2) (Jb.l0 (k + 1) y0 y1 y2))
 | 0=>fun _ _ _ r h=>by simp [Jb.l0] at h
 | k + 1=>by
  have Ff:=Jb.Qd k
  ·intro y0 y1 y2
   unfold Jb.l0
   repeat' first
   | (with_reducible exact Ff _ _ _)
   | (with_reducible exact dc.mono _ _)
   | (with_reducible exact Nb.refl _)
   | (with_reducible exact Nb.none _)
   | (with_reducible refine Nb.ite ?_ ?_)
   | (with_reducible refine Nb.bind ?_ (fun _=>?_))
   | exact Ff _ _ _
   | exact dc.mono _ _
   | exact Nb.none _
   | refine Nb.ite ?_ ?_
   | refine Nb.bind ?_ (fun _=>?_)
theorem Jb.mono:∀ a0 a1 k,Nb (Jb.f k a0 a1) (Jb.f (k + 1) a0 a1):=by
 intro a0 a1 k
 have Ff:=Jb.Qd k
 unfold Jb.f
 repeat' first
   | (with_reducible exact Ff _ _ _)
   | (with_reducible exact dc.mono _ _)
   | (with_reducible exact Nb.refl _)
   | (with_reducible exact Nb.none _)
   | (with_reducible refine Nb.ite ?_ ?_)
   | (with_reducible refine Nb.bind ?_ (fun _=>?_))
   | exact Ff _ _ _
   | exact dc.mono _ _
   | exact Nb.none _
   | refine Nb.ite ?_ ?_
   | refine Nb.bind ?_ (fun _=>?_)
def Jb.T22:Bool × List (List Nat × List Nat):=(true,[([],[]),([],[]),([0,1],[0,1]),([2],[2]),([3],[3]),([],[]),([5],[5]),([4,6],[4,6])])
def Jb.B22:List Nat:=[0,0,3,7,15,0,32,127]
theorem Jb.GQ:Gm .any (opsOf Try.f103 22)=Jb.T22:=by kernel_rfl
theorem Jb.mM:um Jb.T22.2 Jb.B22=true:=by kernel_rfl
theorem Jb.calls (k:Nat) (A0:Option Addr) (c0:Nat) (l0:List (yf)) (a1:Int) (r:Int) (w:World) (hr0:Kd.C Uj w A0 l0.length l0) (hc0:l0.length ≤ c0) (h:Jb.f k l0 a1=some r) :
  Calls Try.prog 103 #[.slice A0 l0.length c0,.int .i64 a1] w fun e w'=>e = .returned (.int .i64 r)∧Below w.heap.size w w':=by
 have Bh:=ja.mk hr0
 have Rw:=ja.mk hc0
 clear hr0 hc0
 have HB:=ja.mk (Below.refl w.heap.size w)
 have H:(Jb.l0 k l0 a1 0)=some r:=h
 clear h
 have H':=ja.mk H
 clear H
 go_enter Try.func103,Try.ntmps103
 go_wp2
 go_loopg [1,5] k (fun kq v1 v5 w'=>∃ (Gc:Int) (Ca:Int),v1 = .int .i64 Gc∧v5 = .int .i64 Ca∧ja (Jb.l0 kq l0 Gc Ca=some r)∧ja (kq ≤ k)∧ja (Below w.heap.size w w'))
 case atStart=>exact ⟨(a1),(0),(by first|rfl|(simp;done)|(simp [*];done)),(by first|rfl|(simp;done)|(simp [*];done)),H',⟨Nat.le_refl _⟩,⟨by repeat (first|(with_reducible first|exact HB.out|apply qa|apply ia|apply ua)|exact HB.out)⟩⟩
 case round =>
  clear H'
  try clear c1
  try clear p2
  (try clear HA)
  (try clear Ig)
  (try clear HB)
  obtain ⟨Gc,Ca,rfl,rfl,HA,Ig,HB⟩:=hrel
  cases gk with
  | zero=>exact absurd HA.out (by simp [Jb.l0])
  | succ k1 =>
   have H:=HA.out
   clear HA
   simp only [Jb.l0] at H
   by_cases c3:Ca < (l0.length:Int)
   ·rw [if_pos c3] at H
    have Jh:decide (Ca < (l0.length:Int))=true:=decide_eq_true c3
    clear c3
    by_cases c4:0 ≤ Ca
    ·rw [if_pos c4] at H
     have si:decide (0 ≤ Ca)=true:=decide_eq_true c4
     clear c4
     by_cases c5:((Ea l0 Ca).f0)=Gc
     ·rw [if_pos c5] at H
      have Ok:(((Ea l0 Ca).f0) == Gc)=true:=beq_iff_eq.mpr c5
      have Yp:(((Ea l0 Ca).f0) != Gc)=false:=bne_eq_false_iff_eq.mpr c5
      clear c5
      by_cases c6:((Ea l0 Ca).f1)=(wrap64 (Gc + 1))
      ·rw [if_pos c6] at H
       have El:(((Ea l0 Ca).f1) == (wrap64 (Gc + 1)))=true:=beq_iff_eq.mpr c6
       have Ts:(((Ea l0 Ca).f1) != (wrap64 (Gc + 1)))=false:=bne_eq_false_iff_eq.mpr c6
       clear c6
       by_cases c7:((Ea l0 Ca).f2)=(wrap64 ((wrap64 (Gc + 1)) + 1))
       ·rw [if_pos c7] at H
        have Uo:(((Ea l0 Ca).f2) == (wrap64 ((wrap64 (Gc + 1)) + 1)))=true:=beq_iff_eq.mpr c7
        have qu:(((Ea l0 Ca).f2) != (wrap64 ((wrap64 (Gc + 1)) + 1)))=false:=bne_eq_false_iff_eq.mpr c7
        clear c7
        by_cases c8:((Ea l0 Ca).f3)=(wrap64 ((wrap64 ((wrap64 (Gc + 1)) + 1)) + 1))
        ·rw [if_pos c8] at H
         have Yl:(((Ea l0 Ca).f3) == (wrap64 ((wrap64 ((wrap64 (Gc + 1)) + 1)) + 1)))=true:=beq_iff_eq.mpr c8
         have sq:(((Ea l0 Ca).f3) != (wrap64 ((wrap64 ((wrap64 (Gc + 1)) + 1)) + 1)))=false:=bne_eq_false_iff_eq.mpr c8
         clear c8
         by_cases c9:((Ea l0 Ca).f4)=(wrap64 ((wrap64 ((wrap64 ((wrap64 (Gc + 1)) + 1)) + 1)) + 1))
         ·rw [if_pos c9] at H
          have Az:(((Ea l0 Ca).f4) == (wrap64 ((wrap64 ((wrap64 ((wrap64 (Gc + 1)) + 1)) + 1)) + 1)))=true:=beq_iff_eq.mpr c9
          have YC:(((Ea l0 Ca).f4) != (wrap64 ((wrap64 ((wrap64 ((wrap64 (Gc + 1)) + 1)) + 1)) + 1)))=false:=bne_eq_false_iff_eq.mpr c9
          clear c9
          by_cases aq:((Ea l0 Ca).f5)=(wrap64 ((wrap64 ((wrap64 ((wrap64 ((wrap64 (Gc + 1)) + 1)) + 1)) + 1)) + 1))
          ·rw [if_pos aq] at H
           have mw:(((Ea l0 Ca).f5) == (wrap64 ((wrap64 ((wrap64 ((wrap64 ((wrap64 (Gc + 1)) + 1)) + 1)) + 1)) + 1)))=true:=beq_iff_eq.mpr aq
           have Ez:(((Ea l0 Ca).f5) != (wrap64 ((wrap64 ((wrap64 ((wrap64 ((wrap64 (Gc + 1)) + 1)) + 1)) + 1)) + 1)))=false:=bne_eq_false_iff_eq.mpr aq
           clear aq
           replace H:=Option.bind_eq_some_iff.mp H
           obtain ⟨t108,wE,H⟩:=H
           replace H:(if ((Ea l0 Ca).f6).toList=t108.toList then (Jb.l0 k1 l0 (wrap64 ((wrap64 ((wrap64 ((wrap64 ((wrap64 ((wrap64 ((wrap64 (Gc + 1)) + 1)) + 1)) + 1)) + 1)) + 1)) + 1)) (wrap64 (Ca + 1))) else (some (-1)))=some r:=H
           have QM:=ja.mk wE
           clear wE
           by_cases c12:((Ea l0 Ca).f6).toList=t108.toList
           ·rw [if_pos c12] at H
            have O2:(((Ea l0 Ca).f6).toList == t108.toList)=true:=beq_iff_eq.mpr c12
            have N2:(((Ea l0 Ca).f6).toList != t108.toList)=false:=bne_eq_false_iff_eq.mpr c12
            clear c12
            have H':=ja.mk H
            clear H
            have Vd:0 ≤ (Ca:Int):=of_decide_eq_true (by first|(with_reducible assumption)|assumption)
            have Ud:Ca < (l0.length:Int):=of_decide_eq_true (by first|(with_reducible assumption)|assumption)
            obtain ⟨ic,Eg,Ob,Vb,Ub,Tb,Cc,Ce,Be⟩:=kf Bh.out Ca Vd Ud
            cases Eg
            replace Ob:=(HB.out.cell (World.block_lt_of_cell? w _ Ob)).trans Ob
            replace Vb:=(HB.out.cell (World.block_lt_of_cell? w _ Vb)).trans Vb
            replace Ub:=(HB.out.cell (World.block_lt_of_cell? w _ Ub)).trans Ub
            replace Tb:=(HB.out.cell (World.block_lt_of_cell? w _ Tb)).trans Tb
            replace Cc:=(HB.out.cell (World.block_lt_of_cell? w _ Cc)).trans Cc
            replace Ce:=(HB.out.cell (World.block_lt_of_cell? w _ Ce)).trans Ce
            replace Be:=(HB.out.cell (World.block_lt_of_cell? w _ Be)).trans Be
            replace Vd:=eq_true Vd
            replace Ud:=eq_true Ud
            have Jf:0 ≤ (Ca:Int):=of_decide_eq_true (by first|(with_reducible assumption)|assumption)
            have Hf:Ca < (l0.length:Int):=of_decide_eq_true (by first|(with_reducible assumption)|assumption)
            obtain ⟨xe,gj,Rc,Dd,Cd,Bd,Ae,jf,gf⟩:=kf Bh.out Ca Jf Hf
            obtain rfl:ic=xe:=(by injection gj)
            replace Rc:=(HB.out.cell (World.block_lt_of_cell? w _ Rc)).trans Rc
            replace Dd:=(HB.out.cell (World.block_lt_of_cell? w _ Dd)).trans Dd
            replace Cd:=(HB.out.cell (World.block_lt_of_cell? w _ Cd)).trans Cd
            replace Bd:=(HB.out.cell (World.block_lt_of_cell? w _ Bd)).trans Bd
            replace Ae:=(HB.out.cell (World.block_lt_of_cell? w _ Ae)).trans Ae
            replace jf:=(HB.out.cell (World.block_lt_of_cell? w _ jf)).trans jf
            replace gf:=(HB.out.cell (World.block_lt_of_cell? w _ gf)).trans gf
            replace Jf:=eq_true Jf
            replace Hf:=eq_true Hf
            have Tg:0 ≤ (Ca:Int):=of_decide_eq_true (by first|(with_reducible assumption)|assumption)
            have Sg:Ca < (l0.length:Int):=of_decide_eq_true (by first|(with_reducible assumption)|assumption)
            obtain ⟨Ef,Cl,Ad,Yd,Xd,Wd,je,Df,Cf⟩:=kf Bh.out Ca Tg Sg
            obtain rfl:ic=Ef:=(by injection Cl)
            replace Ad:=(HB.out.cell (World.block_lt_of_cell? w _ Ad)).trans Ad
            replace Yd:=(HB.out.cell (World.block_lt_of_cell? w _ Yd)).trans Yd
            replace Xd:=(HB.out.cell (World.block_lt_of_cell? w _ Xd)).trans Xd
            replace Wd:=(HB.out.cell (World.block_lt_of_cell? w _ Wd)).trans Wd
            replace je:=(HB.out.cell (World.block_lt_of_cell? w _ je)).trans je
            replace Df:=(HB.out.cell (World.block_lt_of_cell? w _ Df)).trans Df
            replace Cf:=(HB.out.cell (World.block_lt_of_cell? w _ Cf)).trans Cf
            replace Tg:=eq_true Tg
            replace Sg:=eq_true Sg
            have Gh:0 ≤ (Ca:Int):=of_decide_eq_true (by first|(with_reducible assumption)|assumption)
            have Fh:Ca < (l0.length:Int):=of_decide_eq_true (by first|(with_reducible assumption)|assumption)
            obtain ⟨Rj,rm,ue,Te,Re,Qe,We,uh,th⟩:=kf Bh.out Ca Gh Fh
            obtain rfl:ic=Rj:=(by injection rm)
            replace ue:=(HB.out.cell (World.block_lt_of_cell? w _ ue)).trans ue
            replace Te:=(HB.out.cell (World.block_lt_of_cell? w _ Te)).trans Te
            replace Re:=(HB.out.cell (World.block_lt_of_cell? w _ Re)).trans Re
            replace Qe:=(HB.out.cell (World.block_lt_of_cell? w _ Qe)).trans Qe
            replace We:=(HB.out.cell (World.block_lt_of_cell? w _ We)).trans We
            replace uh:=(HB.out.cell (World.block_lt_of_cell? w _ uh)).trans uh
            replace th:=(HB.out.cell (World.block_lt_of_cell? w _ th)).trans th
            replace Gh:=eq_true Gh
            replace Fh:=eq_true Fh
            have Zh:0 ≤ (Ca:Int):=of_decide_eq_true (by first|(with_reducible assumption)|assumption)
            have Yh:Ca < (l0.length:Int):=of_decide_eq_true (by first|(with_reducible assumption)|assumption)
            obtain ⟨Wh,Lo,ze,He,Ge,Fe,Ee,xj,wj⟩:=kf Bh.out Ca Zh Yh
            obtain rfl:ic=Wh:=(by injection Lo)
            replace ze:=(HB.out.cell (World.block_lt_of_cell? w _ ze)).trans ze
            replace He:=(HB.out.cell (World.block_lt_of_cell? w _ He)).trans He
            replace Ge:=(HB.out.cell (World.block_lt_of_cell? w _ Ge)).trans Ge
            replace Fe:=(HB.out.cell (World.block_lt_of_cell? w _ Fe)).trans Fe
            replace Ee:=(HB.out.cell (World.block_lt_of_cell? w _ Ee)).trans Ee
            replace xj:=(HB.out.cell (World.block_lt_of_cell? w _ xj)).trans xj
            replace wj:=(HB.out.cell (World.block_lt_of_cell? w _ wj)).trans wj
            replace Zh:=eq_true Zh
            replace Yh:=eq_true Yh
            have uo:0 ≤ (Ca:Int):=of_decide_eq_true (by first|(with_reducible assumption)|assumption)
            have oo:Ca < (l0.length:Int):=of_decide_eq_true (by first|(with_reducible assumption)|assumption)
            obtain ⟨iu,yz,Qg,qh,oh,nh,mh,uj,tj⟩:=kf Bh.out Ca uo oo
            obtain rfl:ic=iu:=(by injection yz)
            replace Qg:=(HB.out.cell (World.block_lt_of_cell? w _ Qg)).trans Qg
            replace qh:=(HB.out.cell (World.block_lt_of_cell? w _ qh)).trans qh
            replace oh:=(HB.out.cell (World.block_lt_of_cell? w _ oh)).trans oh
            replace nh:=(HB.out.cell (World.block_lt_of_cell? w _ nh)).trans nh
            replace mh:=(HB.out.cell (World.block_lt_of_cell? w _ mh)).trans mh
            replace uj:=(HB.out.cell (World.block_lt_of_cell? w _ uj)).trans uj
            replace tj:=(HB.out.cell (World.block_lt_of_cell? w _ tj)).trans tj
            replace uo:=eq_true uo
            replace oo:=eq_true oo
            try go_wp2
            have Qb:=ja.mk (ua HB.out)
            clear HB
            have HB:=Qb
            clear Qb
            have UE:0 ≤ (Ca:Int):=of_decide_eq_true (by first|(with_reducible assumption)|assumption)
            have SE:Ca < (l0.length:Int):=of_decide_eq_true (by first|(with_reducible assumption)|assumption)
            obtain ⟨nM,XT,Vl,Ul,Tl,Sl,Rl,Ql,Ol⟩:=kf Bh.out Ca UE SE
            have bn:=Ol
            have cn:=Ql
            have dn:=Rl
            have gn:=Sl
            have jn:=Tl
            have kn:=Ul
            have qn:=Vl
            obtain rfl:ic=nM:=(by injection XT)
            replace Vl:=(HB.out.cell (World.block_lt_of_cell? w _ Vl)).trans Vl
            replace Ul:=(HB.out.cell (World.block_lt_of_cell? w _ Ul)).trans Ul
            replace Tl:=(HB.out.cell (World.block_lt_of_cell? w _ Tl)).trans Tl
            replace Sl:=(HB.out.cell (World.block_lt_of_cell? w _ Sl)).trans Sl
            replace Rl:=(HB.out.cell (World.block_lt_of_cell? w _ Rl)).trans Rl
            replace Ql:=(HB.out.cell (World.block_lt_of_cell? w _ Ql)).trans Ql
            replace Ol:=(HB.out.cell (World.block_lt_of_cell? w _ Ol)).trans Ol
            replace UE:=eq_true UE
            replace SE:=eq_true SE
            refine Oi (n:=8) (S:=fun w'=>w'.cell? (ic.add ((Ca).toNat * 7))=some (.int .i64 ((Ea l0 Ca).f0))∧w'.cell? ⟨(ic.add ((Ca).toNat * 7)).block,(ic.add ((Ca).toNat * 7)).off + 1,none⟩=some (.int .i64 ((Ea l0 Ca).f1))∧w'.cell? ⟨(ic.add ((Ca).toNat * 7)).block,(ic.add ((Ca).toNat * 7)).off + 2,none⟩=some (.int .i64 ((Ea l0 Ca).f2))∧w'.cell? ⟨(ic.add ((Ca).toNat * 7)).block,(ic.add ((Ca).toNat * 7)).off + 3,none⟩=some (.int .i64 ((Ea l0 Ca).f3))∧w'.cell? ⟨(ic.add ((Ca).toNat * 7)).block,(ic.add ((Ca).toNat * 7)).off + 4,none⟩=some (.int .i64 ((Ea l0 Ca).f4))∧w'.cell? ⟨(ic.add ((Ca).toNat * 7)).block,(ic.add ((Ca).toNat * 7)).off + 5,none⟩=some (.int .i64 ((Ea l0 Ca).f5))∧w'.cell? ⟨(ic.add ((Ca).toNat * 7)).block,(ic.add ((Ca).toNat * 7)).off + 6,none⟩=some (.string ((Ea l0 Ca).f6))) (ds:=[]) #[false,false,false,false,false,false,false,false] (by kernel_rfl) rfl rfl ⟨((HB.out.cell (World.block_lt_of_cell? w _ qn)).trans qn),((HB.out.cell (World.block_lt_of_cell? w _ kn)).trans kn),((HB.out.cell (World.block_lt_of_cell? w _ jn)).trans jn),((HB.out.cell (World.block_lt_of_cell? w _ gn)).trans gn),((HB.out.cell (World.block_lt_of_cell? w _ dn)).trans dn),((HB.out.cell (World.block_lt_of_cell? w _ cn)).trans cn),((HB.out.cell (World.block_lt_of_cell? w _ bn)).trans bn)⟩ (fun hHeld=>?_);refine Xh Jb.GQ Jb.mM (fun cg Vr=>?_)
            generalize wr.drew=mo at HB Vl Ul Tl Sl Rl Ql Ol hHeld ⊢
            refine Nc (i:=0) (N:=some 66) (v:=?_) (a':=?_) #[true,false,false,false,false,false,false,false] rfl rfl (ud cg.out (by kernel_rfl)) (fun _ _ _ h=>h) (Or.inl ⟨by rfl,?_⟩) ?_ ?_
            rotate_left
            ·intro w'
             go_simp
             with_reducible rfl
            rotate_left
            ·simp only [Act.put,List.setIfInBounds_toArray,List.set_cons_zero,List.set_cons_succ,Bb,Cb]
             rfl
            refine Nc (i:=1) (N:=some 67) (v:=?_) (a':=?_) #[true,true,false,false,false,false,false,false] rfl rfl (ud cg.out (by kernel_rfl)) (fun _ _ _ h=>h) (Or.inl ⟨by rfl,?_⟩) ?_ ?_
            rotate_left
            ·intro w'
             go_simp
             with_reducible rfl
            rotate_left
            ·simp only [Act.put,List.setIfInBounds_toArray,List.set_cons_zero,List.set_cons_succ,Bb,Cb]
             rfl
            refine Nc (i:=2) (N:=some 68) (v:=?_) (a':=?_) #[true,true,true,false,false,false,false,false] rfl rfl (ud cg.out (by kernel_rfl)) (fun _ _ _ h=>h) (Or.inl ⟨by rfl,?_⟩) ?_ ?_
            rotate_left
            ·intro w'
             go_simp
             with_reducible rfl
            rotate_left
            ·simp only [Act.put,List.setIfInBounds_toArray,List.set_cons_zero,List.set_cons_succ,Bb,Cb]
             rfl
            refine Nc (i:=3) (N:=some 69) (v:=?_) (a':=?_) #[true,true,true,true,false,false,false,false] rfl rfl (ud cg.out (by kernel_rfl)) (fun _ _ _ h=>h) (Or.inl ⟨by rfl,?_⟩) ?_ ?_
            rotate_left
            ·intro w'
             go_simp
             with_reducible rfl
            rotate_left
            ·simp only [Act.put,List.setIfInBounds_toArray,List.set_cons_zero,List.set_cons_succ,Bb,Cb]
             rfl
            refine Nc (i:=5) (N:=some 71) (v:=?_) (a':=?_) #[true,true,true,true,false,true,false,false] rfl rfl (ud cg.out (by kernel_rfl)) (fun _ _ _ h=>h) (Or.inl ⟨by rfl,?_⟩) ?_ ?_
            rotate_left
            ·intro w'
             go_simp
             with_reducible rfl
            rotate_left
            ·simp only [Act.put,List.setIfInBounds_toArray,List.set_cons_zero,List.set_cons_succ,Bb,Cb]
             rfl
            refine Lf (i:=4) (N:=some 70) (v:=?_) (a':=?_) #[true,true,true,true,true,true,false,false] rfl rfl (Pf cg.out Vr.out (by kernel_rfl)) (fun _ _ _ h=>h) (Or.inl ⟨by rfl,?_⟩) hHeld ?_ ?_
            rotate_left
            ·rintro w' ⟨s0,s1,s2,s3,s4,s5,s6⟩
             go_simp
             with_reducible rfl
            rotate_left
            ·simp only [Act.put,List.setIfInBounds_toArray,List.set_cons_zero,List.set_cons_succ,Bb,Cb]
             rfl
            refine gm (i:=6) (N:=some 72) #[true,true,true,true,true,true,true,false] rfl rfl (Pm cg.out (by kernel_rfl)) (by decide) (fun K hK=>?_)
            refine Qm Try.func121 (by kernel_rfl) rfl #[.int .i64 (wrap64 ((wrap64 ((wrap64 ((wrap64 ((wrap64 ((wrap64 (Gc + 1)) + 1)) + 1)) + 1)) + 1)) + 1))] (by rfl) rfl rfl (by (try simp only [List.map_toArray,List.map_cons,List.map_nil]);first|done|rfl|(simp only [List.length_drop,List.length_take];rfl)) ?_
            with_reducible refine (dc.calls k1 (wrap64 ((wrap64 ((wrap64 ((wrap64 ((wrap64 ((wrap64 (Gc + 1)) + 1)) + 1)) + 1)) + 1)) + 1)) t108 _ QM.out).mono ?_
            rintro e rA ⟨rfl,hb⟩
            refine ⟨_,rfl,?_⟩
            have Qb:=ja.mk (Na (by repeat (first|(with_reducible first|exact HB.out|apply qa|apply ia|apply ua)|exact HB.out)) hb)
            clear HB
            have HB:=Qb
            clear Qb
            (try clear hb)
            (try clear hb2)
            (try clear hk)
            (try clear hi)
            refine hK.out _ _ ⟨((HB.out.cell (World.block_lt_of_cell? w _ qn)).trans qn),((HB.out.cell (World.block_lt_of_cell? w _ kn)).trans kn),((HB.out.cell (World.block_lt_of_cell? w _ jn)).trans jn),((HB.out.cell (World.block_lt_of_cell? w _ gn)).trans gn),((HB.out.cell (World.block_lt_of_cell? w _ dn)).trans dn),((HB.out.cell (World.block_lt_of_cell? w _ cn)).trans cn),((HB.out.cell (World.block_lt_of_cell? w _ bn)).trans bn)⟩ (fun hHeld=>?_)
            clear hK K
            refine Mg (a':=?_) ?_ ?_
            rotate_left
            ·show Act.put _ (some 72) _=_
             simp only [Act.put,List.setIfInBounds_toArray,List.set_cons_zero,List.set_cons_succ,Bb,Cb]
             rfl
            refine Nc (i:=7) (N:=some 73) (v:=?_) (a':=?_) #[true,true,true,true,true,true,true,true] rfl rfl (ud cg.out (by kernel_rfl)) (fun _ _ _ h=>h) (Or.inl ⟨by rfl,?_⟩) ?_ ?_
            rotate_left
            ·intro w'
             go_simp
             with_reducible rfl
            rotate_left
            ·simp only [Act.put,List.setIfInBounds_toArray,List.set_cons_zero,List.set_cons_succ,Bb,Cb]
             rfl
            refine Mk (Bk cg.out (by kernel_rfl)) ?_
            try go_wp2
            go_roundg k1
            case measure=>have:=Ig.out;omega
            case rel=>exact ⟨(wrap64 ((wrap64 ((wrap64 ((wrap64 ((wrap64 ((wrap64 ((wrap64 (Gc + 1)) + 1)) + 1)) + 1)) + 1)) + 1)) + 1)),(wrap64 (Ca + 1)),(by first|rfl|(simp;done)|(simp [*];done)),(by first|rfl|(simp;done)|(simp [*];done)),H',⟨by have:=Ig.out;omega⟩,⟨by repeat (first|(with_reducible first|exact HB.out|apply qa|apply ia|apply ua)|exact HB.out)⟩⟩
           ·rw [if_neg c12] at H
            have O2:(((Ea l0 Ca).f6).toList == t108.toList)=false:=beq_eq_false_iff_ne.mpr c12
            have N2:(((Ea l0 Ca).f6).toList != t108.toList)=true:=bne_iff_ne.mpr c12
            obtain rfl:=Option.some.inj H
            have Vd:0 ≤ (Ca:Int):=of_decide_eq_true (by first|(with_reducible assumption)|assumption)
            have Ud:Ca < (l0.length:Int):=of_decide_eq_true (by first|(with_reducible assumption)|assumption)
            obtain ⟨ic,Eg,Ob,Vb,Ub,Tb,Cc,Ce,Be⟩:=kf Bh.out Ca Vd Ud
            cases Eg
            replace Ob:=(HB.out.cell (World.block_lt_of_cell? w _ Ob)).trans Ob
            replace Vb:=(HB.out.cell (World.block_lt_of_cell? w _ Vb)).trans Vb
            replace Ub:=(HB.out.cell (World.block_lt_of_cell? w _ Ub)).trans Ub
            replace Tb:=(HB.out.cell (World.block_lt_of_cell? w _ Tb)).trans Tb
            replace Cc:=(HB.out.cell (World.block_lt_of_cell? w _ Cc)).trans Cc
            replace Ce:=(HB.out.cell (World.block_lt_of_cell? w _ Ce)).trans Ce
            replace Be:=(HB.out.cell (World.block_lt_of_cell? w _ Be)).trans Be
            replace Vd:=eq_true Vd
            replace Ud:=eq_true Ud
            have Jf:0 ≤ (Ca:Int):=of_decide_eq_true (by first|(with_reducible assumption)|assumption)
            have Hf:Ca < (l0.length:Int):=of_decide_eq_true (by first|(with_reducible assumption)|assumption)
            obtain ⟨xe,gj,Rc,Dd,Cd,Bd,Ae,jf,gf⟩:=kf Bh.out Ca Jf Hf
            obtain rfl:ic=xe:=(by injection gj)
            replace Rc:=(HB.out.cell (World.block_lt_of_cell? w _ Rc)).trans Rc
            replace Dd:=(HB.out.cell (World.block_lt_of_cell? w _ Dd)).trans Dd
            replace Cd:=(HB.out.cell (World.block_lt_of_cell? w _ Cd)).trans Cd
            replace Bd:=(HB.out.cell (World.block_lt_of_cell? w _ Bd)).trans Bd
            replace Ae:=(HB.out.cell (World.block_lt_of_cell? w _ Ae)).trans Ae
            replace jf:=(HB.out.cell (World.block_lt_of_cell? w _ jf)).trans jf
            replace gf:=(HB.out.cell (World.block_lt_of_cell? w _ gf)).trans gf
            replace Jf:=eq_true Jf
            replace Hf:=eq_true Hf
            have Tg:0 ≤ (Ca:Int):=of_decide_eq_true (by first|(with_reducible assumption)|assumption)
            have Sg:Ca < (l0.length:Int):=of_decide_eq_true (by first|(with_reducible assumption)|assumption)
            obtain ⟨Ef,Cl,Ad,Yd,Xd,Wd,je,Df,Cf⟩:=kf Bh.out Ca Tg Sg
            obtain rfl:ic=Ef:=(by injection Cl)
            replace Ad:=(HB.out.cell (World.block_lt_of_cell? w _ Ad)).trans Ad
            replace Yd:=(HB.out.cell (World.block_lt_of_cell? w _ Yd)).trans Yd
            replace Xd:=(HB.out.cell (World.block_lt_of_cell? w _ Xd)).trans Xd
            replace Wd:=(HB.out.cell (World.block_lt_of_cell? w _ Wd)).trans Wd
            replace je:=(HB.out.cell (World.block_lt_of_cell? w _ je)).trans je
            replace Df:=(HB.out.cell (World.block_lt_of_cell? w _ Df)).trans Df
            replace Cf:=(HB.out.cell (World.block_lt_of_cell? w _ Cf)).trans Cf
            replace Tg:=eq_true Tg
            replace Sg:=eq_true Sg
            have Gh:0 ≤ (Ca:Int):=of_decide_eq_true (by first|(with_reducible assumption)|assumption)
            have Fh:Ca < (l0.length:Int):=of_decide_eq_true (by first|(with_reducible assumption)|assumption)
            obtain ⟨Rj,rm,ue,Te,Re,Qe,We,uh,th⟩:=kf Bh.out Ca Gh Fh
            obtain rfl:ic=Rj:=(by injection rm)
            replace ue:=(HB.out.cell (World.block_lt_of_cell? w _ ue)).trans ue
            replace Te:=(HB.out.cell (World.block_lt_of_cell? w _ Te)).trans Te
            replace Re:=(HB.out.cell (World.block_lt_of_cell? w _ Re)).trans Re
            replace Qe:=(HB.out.cell (World.block_lt_of_cell? w _ Qe)).trans Qe
            replace We:=(HB.out.cell (World.block_lt_of_cell? w _ We)).trans We
            replace uh:=(HB.out.cell (World.block_lt_of_cell? w _ uh)).trans uh
            replace th:=(HB.out.cell (World.block_lt_of_cell? w _ th)).trans th
            replace Gh:=eq_true Gh
            replace Fh:=eq_true Fh
            have Zh:0 ≤ (Ca:Int):=of_decide_eq_true (by first|(with_reducible assumption)|assumption)
            have Yh:Ca < (l0.length:Int):=of_decide_eq_true (by first|(with_reducible assumption)|assumption)
            obtain ⟨Wh,Lo,ze,He,Ge,Fe,Ee,xj,wj⟩:=kf Bh.out Ca Zh Yh
            obtain rfl:ic=Wh:=(by injection Lo)
            replace ze:=(HB.out.cell (World.block_lt_of_cell? w _ ze)).trans ze
            replace He:=(HB.out.cell (World.block_lt_of_cell? w _ He)).trans He
            replace Ge:=(HB.out.cell (World.block_lt_of_cell? w _ Ge)).trans Ge
            replace Fe:=(HB.out.cell (World.block_lt_of_cell? w _ Fe)).trans Fe
            replace Ee:=(HB.out.cell (World.block_lt_of_cell? w _ Ee)).trans Ee
            replace xj:=(HB.out.cell (World.block_lt_of_cell? w _ xj)).trans xj
            replace wj:=(HB.out.cell (World.block_lt_of_cell? w _ wj)).trans wj
            replace Zh:=eq_true Zh
            replace Yh:=eq_true Yh
            have uo:0 ≤ (Ca:Int):=of_decide_eq_true (by first|(with_reducible assumption)|assumption)
            have oo:Ca < (l0.length:Int):=of_decide_eq_true (by first|(with_reducible assumption)|assumption)
            obtain ⟨iu,yz,Qg,qh,oh,nh,mh,uj,tj⟩:=kf Bh.out Ca uo oo
            obtain rfl:ic=iu:=(by injection yz)
            replace Qg:=(HB.out.cell (World.block_lt_of_cell? w _ Qg)).trans Qg
            replace qh:=(HB.out.cell (World.block_lt_of_cell? w _ qh)).trans qh
            replace oh:=(HB.out.cell (World.block_lt_of_cell? w _ oh)).trans oh
            replace nh:=(HB.out.cell (World.block_lt_of_cell? w _ nh)).trans nh
            replace mh:=(HB.out.cell (World.block_lt_of_cell? w _ mh)).trans mh
            replace uj:=(HB.out.cell (World.block_lt_of_cell? w _ uj)).trans uj
            replace tj:=(HB.out.cell (World.block_lt_of_cell? w _ tj)).trans tj
            replace uo:=eq_true uo
            replace oo:=eq_true oo
            try go_wp2
            have Qb:=ja.mk (ua HB.out)
            clear HB
            have HB:=Qb
            clear Qb
            have UE:0 ≤ (Ca:Int):=of_decide_eq_true (by first|(with_reducible assumption)|assumption)
            have SE:Ca < (l0.length:Int):=of_decide_eq_true (by first|(with_reducible assumption)|assumption)
            obtain ⟨nM,XT,Vl,Ul,Tl,Sl,Rl,Ql,Ol⟩:=kf Bh.out Ca UE SE
            have bn:=Ol
            have cn:=Ql
            have dn:=Rl
            have gn:=Sl
            have jn:=Tl
            have kn:=Ul
            have qn:=Vl
            obtain rfl:ic=nM:=(by injection XT)
            replace Vl:=(HB.out.cell (World.block_lt_of_cell? w _ Vl)).trans Vl
            replace Ul:=(HB.out.cell (World.block_lt_of_cell? w _ Ul)).trans Ul
            replace Tl:=(HB.out.cell (World.block_lt_of_cell? w _ Tl)).trans Tl
            replace Sl:=(HB.out.cell (World.block_lt_of_cell? w _ Sl)).trans Sl
            replace Rl:=(HB.out.cell (World.block_lt_of_cell? w _ Rl)).trans Rl
            replace Ql:=(HB.out.cell (World.block_lt_of_cell? w _ Ql)).trans Ql
            replace Ol:=(HB.out.cell (World.block_lt_of_cell? w _ Ol)).trans Ol
            replace UE:=eq_true UE
            replace SE:=eq_true SE
            refine Oi (n:=8) (S:=fun w'=>w'.cell? (ic.add ((Ca).toNat * 7))=some (.int .i64 ((Ea l0 Ca).f0))∧w'.cell? ⟨(ic.add ((Ca).toNat * 7)).block,(ic.add ((Ca).toNat * 7)).off + 1,none⟩=some (.int .i64 ((Ea l0 Ca).f1))∧w'.cell? ⟨(ic.add ((Ca).toNat * 7)).block,(ic.add ((Ca).toNat * 7)).off + 2,none⟩=some (.int .i64 ((Ea l0 Ca).f2))∧w'.cell? ⟨(ic.add ((Ca).toNat * 7)).block,(ic.add ((Ca).toNat * 7)).off + 3,none⟩=some (.int .i64 ((Ea l0 Ca).f3))∧w'.cell? ⟨(ic.add ((Ca).toNat * 7)).block,(ic.add ((Ca).toNat * 7)).off + 4,none⟩=some (.int .i64 ((Ea l0 Ca).f4))∧w'.cell? ⟨(ic.add ((Ca).toNat * 7)).block,(ic.add ((Ca).toNat * 7)).off + 5,none⟩=some (.int .i64 ((Ea l0 Ca).f5))∧w'.cell? ⟨(ic.add ((Ca).toNat * 7)).block,(ic.add ((Ca).toNat * 7)).off + 6,none⟩=some (.string ((Ea l0 Ca).f6))) (ds:=[]) #[false,false,false,false,false,false,false,false] (by kernel_rfl) rfl rfl ⟨((HB.out.cell (World.block_lt_of_cell? w _ qn)).trans qn),((HB.out.cell (World.block_lt_of_cell? w _ kn)).trans kn),((HB.out.cell (World.block_lt_of_cell? w _ jn)).trans jn),((HB.out.cell (World.block_lt_of_cell? w _ gn)).trans gn),((HB.out.cell (World.block_lt_of_cell? w _ dn)).trans dn),((HB.out.cell (World.block_lt_of_cell? w _ cn)).trans cn),((HB.out.cell (World.block_lt_of_cell? w _ bn)).trans bn)⟩ (fun hHeld=>?_);refine Xh Jb.GQ Jb.mM (fun cg Vr=>?_)
            generalize wr.drew=Fl at HB Vl Ul Tl Sl Rl Ql Ol hHeld ⊢
            refine Nc (i:=0) (N:=some 66) (v:=?_) (a':=?_) #[true,false,false,false,false,false,false,false] rfl rfl (ud cg.out (by kernel_rfl)) (fun _ _ _ h=>h) (Or.inl ⟨by rfl,?_⟩) ?_ ?_
            rotate_left
            ·intro w'
             go_simp
             with_reducible rfl
            rotate_left
            ·simp only [Act.put,List.setIfInBounds_toArray,List.set_cons_zero,List.set_cons_succ,Bb,Cb]
             rfl
            refine Nc (i:=1) (N:=some 67) (v:=?_) (a':=?_) #[true,true,false,false,false,false,false,false] rfl rfl (ud cg.out (by kernel_rfl)) (fun _ _ _ h=>h) (Or.inl ⟨by rfl,?_⟩) ?_ ?_
            rotate_left
            ·intro w'
             go_simp
             with_reducible rfl
            rotate_left
            ·simp only [Act.put,List.setIfInBounds_toArray,List.set_cons_zero,List.set_cons_succ,Bb,Cb]
             rfl
            refine Nc (i:=2) (N:=some 68) (v:=?_) (a':=?_) #[true,true,true,false,false,false,false,false] rfl rfl (ud cg.out (by kernel_rfl)) (fun _ _ _ h=>h) (Or.inl ⟨by rfl,?_⟩) ?_ ?_
            rotate_left
            ·intro w'
             go_simp
             with_reducible rfl
            rotate_left
            ·simp only [Act.put,List.setIfInBounds_toArray,List.set_cons_zero,List.set_cons_succ,Bb,Cb]
             rfl
            refine Nc (i:=3) (N:=some 69) (v:=?_) (a':=?_) #[true,true,true,true,false,false,false,false] rfl rfl (ud cg.out (by kernel_rfl)) (fun _ _ _ h=>h) (Or.inl ⟨by rfl,?_⟩) ?_ ?_
            rotate_left
            ·intro w'
             go_simp
             with_reducible rfl
            rotate_left
            ·simp only [Act.put,List.setIfInBounds_toArray,List.set_cons_zero,List.set_cons_succ,Bb,Cb]
             rfl
            refine Nc (i:=5) (N:=some 71) (v:=?_) (a':=?_) #[true,true,true,true,false,true,false,false] rfl rfl (ud cg.out (by kernel_rfl)) (fun _ _ _ h=>h) (Or.inl ⟨by rfl,?_⟩) ?_ ?_
            rotate_left
            ·intro w'
             go_simp
             with_reducible rfl
            rotate_left
            ·simp only [Act.put,List.setIfInBounds_toArray,List.set_cons_zero,List.set_cons_succ,Bb,Cb]
             rfl
            refine Lf (i:=4) (N:=some 70) (v:=?_) (a':=?_) #[true,true,true,true,true,true,false,false] rfl rfl (Pf cg.out Vr.out (by kernel_rfl)) (fun _ _ _ h=>h) (Or.inl ⟨by rfl,?_⟩) hHeld ?_ ?_
            rotate_left
            ·rintro w' ⟨s0,s1,s2,s3,s4,s5,s6⟩
             go_simp
             with_reducible rfl
            rotate_left
            ·simp only [Act.put,List.setIfInBounds_toArray,List.set_cons_zero,List.set_cons_succ,Bb,Cb]
             rfl
            refine gm (i:=6) (N:=some 72) #[true,true,true,true,true,true,true,false] rfl rfl (Pm cg.out (by kernel_rfl)) (by decide) (fun K hK=>?_)
            refine Qm Try.func121 (by kernel_rfl) rfl #[.int .i64 (wrap64 ((wrap64 ((wrap64 ((wrap64 ((wrap64 ((wrap64 (Gc + 1)) + 1)) + 1)) + 1)) + 1)) + 1))] (by rfl) rfl rfl (by (try simp only [List.map_toArray,List.map_cons,List.map_nil]);first|done|rfl|(simp only [List.length_drop,List.length_take];rfl)) ?_
            with_reducible refine (dc.calls k1 (wrap64 ((wrap64 ((wrap64 ((wrap64 ((wrap64 ((wrap64 (Gc + 1)) + 1)) + 1)) + 1)) + 1)) + 1)) t108 _ QM.out).mono ?_
            rintro e Xz ⟨rfl,hb⟩
            refine ⟨_,rfl,?_⟩
            have Qb:=ja.mk (Na (by repeat (first|(with_reducible first|exact HB.out|apply qa|apply ia|apply ua)|exact HB.out)) hb)
            clear HB
            have HB:=Qb
            clear Qb
            (try clear hb)
            (try clear hb2)
            (try clear hk)
            (try clear hi)
            refine hK.out _ _ ⟨((HB.out.cell (World.block_lt_of_cell? w _ qn)).trans qn),((HB.out.cell (World.block_lt_of_cell? w _ kn)).trans kn),((HB.out.cell (World.block_lt_of_cell? w _ jn)).trans jn),((HB.out.cell (World.block_lt_of_cell? w _ gn)).trans gn),((HB.out.cell (World.block_lt_of_cell? w _ dn)).trans dn),((HB.out.cell (World.block_lt_of_cell? w _ cn)).trans cn),((HB.out.cell (World.block_lt_of_cell? w _ bn)).trans bn)⟩ (fun hHeld=>?_)
            clear hK K
            refine Mg (a':=?_) ?_ ?_
            rotate_left
            ·show Act.put _ (some 72) _=_
             simp only [Act.put,List.setIfInBounds_toArray,List.set_cons_zero,List.set_cons_succ,Bb,Cb]
             rfl
            refine Nc (i:=7) (N:=some 73) (v:=?_) (a':=?_) #[true,true,true,true,true,true,true,true] rfl rfl (ud cg.out (by kernel_rfl)) (fun _ _ _ h=>h) (Or.inl ⟨by rfl,?_⟩) ?_ ?_
            rotate_left
            ·intro w'
             go_simp
             with_reducible rfl
            rotate_left
            ·simp only [Act.put,List.setIfInBounds_toArray,List.set_cons_zero,List.set_cons_succ,Bb,Cb]
             rfl
            refine Mk (Bk cg.out (by kernel_rfl)) ?_
            try go_wp2
            go_ret
            exact ⟨by first|rfl|(simp [La,Ka] <;> rfl)|(simp [*,La,Ka] <;> rfl),by repeat (first|(with_reducible first|exact HB.out|apply qa|apply ia|apply ua)|exact HB.out)⟩
          ·rw [if_neg aq] at H
           have mw:(((Ea l0 Ca).f5) == (wrap64 ((wrap64 ((wrap64 ((wrap64 ((wrap64 (Gc + 1)) + 1)) + 1)) + 1)) + 1)))=false:=beq_eq_false_iff_ne.mpr aq
           have Ez:(((Ea l0 Ca).f5) != (wrap64 ((wrap64 ((wrap64 ((wrap64 ((wrap64 (Gc + 1)) + 1)) + 1)) + 1)) + 1)))=true:=bne_iff_ne.mpr aq
           obtain rfl:=Option.some.inj H
           have Vd:0 ≤ (Ca:Int):=of_decide_eq_true (by first|(with_reducible assumption)|assumption)
           have Ud:Ca < (l0.length:Int):=of_decide_eq_true (by first|(with_reducible assumption)|assumption)
           obtain ⟨ic,Eg,Ob,Vb,Ub,Tb,Cc,Ce,Be⟩:=kf Bh.out Ca Vd Ud
           cases Eg
           replace Ob:=(HB.out.cell (World.block_lt_of_cell? w _ Ob)).trans Ob
           replace Vb:=(HB.out.cell (World.block_lt_of_cell? w _ Vb)).trans Vb
           replace Ub:=(HB.out.cell (World.block_lt_of_cell? w _ Ub)).trans Ub
           replace Tb:=(HB.out.cell (World.block_lt_of_cell? w _ Tb)).trans Tb
           replace Cc:=(HB.out.cell (World.block_lt_of_cell? w _ Cc)).trans Cc
           replace Ce:=(HB.out.cell (World.block_lt_of_cell? w _ Ce)).trans Ce
           replace Be:=(HB.out.cell (World.block_lt_of_cell? w _ Be)).trans Be
           replace Vd:=eq_true Vd
           replace Ud:=eq_true Ud
           have Jf:0 ≤ (Ca:Int):=of_decide_eq_true (by first|(with_reducible assumption)|assumption)
           have Hf:Ca < (l0.length:Int):=of_decide_eq_true (by first|(with_reducible assumption)|assumption)
           obtain ⟨xe,gj,Rc,Dd,Cd,Bd,Ae,jf,gf⟩:=kf Bh.out Ca Jf Hf
           obtain rfl:ic=xe:=(by injection gj)
           replace Rc:=(HB.out.cell (World.block_lt_of_cell? w _ Rc)).trans Rc
           replace Dd:=(HB.out.cell (World.block_lt_of_cell? w _ Dd)).trans Dd
           replace Cd:=(HB.out.cell (World.block_lt_of_cell? w _ Cd)).trans Cd
           replace Bd:=(HB.out.cell (World.block_lt_of_cell? w _ Bd)).trans Bd
           replace Ae:=(HB.out.cell (World.block_lt_of_cell? w _ Ae)).trans Ae
           replace jf:=(HB.out.cell (World.block_lt_of_cell? w _ jf)).trans jf
           replace gf:=(HB.out.cell (World.block_lt_of_cell? w _ gf)).trans gf
           replace Jf:=eq_true Jf
           replace Hf:=eq_true Hf
           have Tg:0 ≤ (Ca:Int):=of_decide_eq_true (by first|(with_reducible assumption)|assumption)
           have Sg:Ca < (l0.length:Int):=of_decide_eq_true (by first|(with_reducible assumption)|assumption)
           obtain ⟨Ef,Cl,Ad,Yd,Xd,Wd,je,Df,Cf⟩:=kf Bh.out Ca Tg Sg
           obtain rfl:ic=Ef:=(by injection Cl)
           replace Ad:=(HB.out.cell (World.block_lt_of_cell? w _ Ad)).trans Ad
           replace Yd:=(HB.out.cell (World.block_lt_of_cell? w _ Yd)).trans Yd
           replace Xd:=(HB.out.cell (World.block_lt_of_cell? w _ Xd)).trans Xd
           replace Wd:=(HB.out.cell (World.block_lt_of_cell? w _ Wd)).trans Wd
           replace je:=(HB.out.cell (World.block_lt_of_cell? w _ je)).trans je
           replace Df:=(HB.out.cell (World.block_lt_of_cell? w _ Df)).trans Df
           replace Cf:=(HB.out.cell (World.block_lt_of_cell? w _ Cf)).trans Cf
           replace Tg:=eq_true Tg
           replace Sg:=eq_true Sg
           have Gh:0 ≤ (Ca:Int):=of_decide_eq_true (by first|(with_reducible assumption)|assumption)
           have Fh:Ca < (l0.length:Int):=of_decide_eq_true (by first|(with_reducible assumption)|assumption)
           obtain ⟨Rj,rm,ue,Te,Re,Qe,We,uh,th⟩:=kf Bh.out Ca Gh Fh
           obtain rfl:ic=Rj:=(by injection rm)
           replace ue:=(HB.out.cell (World.block_lt_of_cell? w _ ue)).trans ue
           replace Te:=(HB.out.cell (World.block_lt_of_cell? w _ Te)).trans Te
           replace Re:=(HB.out.cell (World.block_lt_of_cell? w _ Re)).trans Re
           replace Qe:=(HB.out.cell (World.block_lt_of_cell? w _ Qe)).trans Qe
           replace We:=(HB.out.cell (World.block_lt_of_cell? w _ We)).trans We
           replace uh:=(HB.out.cell (World.block_lt_of_cell? w _ uh)).trans uh
           replace th:=(HB.out.cell (World.block_lt_of_cell? w _ th)).trans th
           replace Gh:=eq_true Gh
           replace Fh:=eq_true Fh
           have Zh:0 ≤ (Ca:Int):=of_decide_eq_true (by first|(with_reducible assumption)|assumption)
           have Yh:Ca < (l0.length:Int):=of_decide_eq_true (by first|(with_reducible assumption)|assumption)
           obtain ⟨Wh,Lo,ze,He,Ge,Fe,Ee,xj,wj⟩:=kf Bh.out Ca Zh Yh
           obtain rfl:ic=Wh:=(by injection Lo)
           replace ze:=(HB.out.cell (World.block_lt_of_cell? w _ ze)).trans ze
           replace He:=(HB.out.cell (World.block_lt_of_cell? w _ He)).trans He
           replace Ge:=(HB.out.cell (World.block_lt_of_cell? w _ Ge)).trans Ge
           replace Fe:=(HB.out.cell (World.block_lt_of_cell? w _ Fe)).trans Fe
           replace Ee:=(HB.out.cell (World.block_lt_of_cell? w _ Ee)).trans Ee
           replace xj:=(HB.out.cell (World.block_lt_of_cell? w _ xj)).trans xj
           replace wj:=(HB.out.cell (World.block_lt_of_cell? w _ wj)).trans wj
           replace Zh:=eq_true Zh
           replace Yh:=eq_true Yh
           have uo:0 ≤ (Ca:Int):=of_decide_eq_true (by first|(with_reducible assumption)|assumption)
           have oo:Ca < (l0.length:Int):=of_decide_eq_true (by first|(with_reducible assumption)|assumption)
           obtain ⟨iu,yz,Qg,qh,oh,nh,mh,uj,tj⟩:=kf Bh.out Ca uo oo
           obtain rfl:ic=iu:=(by injection yz)
           replace Qg:=(HB.out.cell (World.block_lt_of_cell? w _ Qg)).trans Qg
           replace qh:=(HB.out.cell (World.block_lt_of_cell? w _ qh)).trans qh
           replace oh:=(HB.out.cell (World.block_lt_of_cell? w _ oh)).trans oh
           replace nh:=(HB.out.cell (World.block_lt_of_cell? w _ nh)).trans nh
           replace mh:=(HB.out.cell (World.block_lt_of_cell? w _ mh)).trans mh
           replace uj:=(HB.out.cell (World.block_lt_of_cell? w _ uj)).trans uj
           replace tj:=(HB.out.cell (World.block_lt_of_cell? w _ tj)).trans tj
           replace uo:=eq_true uo
           replace oo:=eq_true oo
           go_wp2
           go_ret
           exact ⟨by first|rfl|(simp [La,Ka] <;> rfl)|(simp [*,La,Ka] <;> rfl),by repeat (first|(with_reducible first|exact HB.out|apply qa|apply ia|apply ua)|exact HB.out)⟩
         ·rw [if_neg c9] at H
          have Az:(((Ea l0 Ca).f4) == (wrap64 ((wrap64 ((wrap64 ((wrap64 (Gc + 1)) + 1)) + 1)) + 1)))=false:=beq_eq_false_iff_ne.mpr c9
          have YC:(((Ea l0 Ca).f4) != (wrap64 ((wrap64 ((wrap64 ((wrap64 (Gc + 1)) + 1)) + 1)) + 1)))=true:=bne_iff_ne.mpr c9
          obtain rfl:=Option.some.inj H
          have Vd:0 ≤ (Ca:Int):=of_decide_eq_true (by first|(with_reducible assumption)|assumption)
          have Ud:Ca < (l0.length:Int):=of_decide_eq_true (by first|(with_reducible assumption)|assumption)
          obtain ⟨ic,Eg,Ob,Vb,Ub,Tb,Cc,Ce,Be⟩:=kf Bh.out Ca Vd Ud
          cases Eg
          replace Ob:=(HB.out.cell (World.block_lt_of_cell? w _ Ob)).trans Ob
          replace Vb:=(HB.out.cell (World.block_lt_of_cell? w _ Vb)).trans Vb
          replace Ub:=(HB.out.cell (World.block_lt_of_cell? w _ Ub)).trans Ub
          replace Tb:=(HB.out.cell (World.block_lt_of_cell? w _ Tb)).trans Tb
          replace Cc:=(HB.out.cell (World.block_lt_of_cell? w _ Cc)).trans Cc
          replace Ce:=(HB.out.cell (World.block_lt_of_cell? w _ Ce)).trans Ce
          replace Be:=(HB.out.cell (World.block_lt_of_cell? w _ Be)).trans Be
          replace Vd:=eq_true Vd
          replace Ud:=eq_true Ud
          have Jf:0 ≤ (Ca:Int):=of_decide_eq_true (by first|(with_reducible assumption)|assumption)
          have Hf:Ca < (l0.length:Int):=of_decide_eq_true (by first|(with_reducible assumption)|assumption)
          obtain ⟨xe,gj,Rc,Dd,Cd,Bd,Ae,jf,gf⟩:=kf Bh.out Ca Jf Hf
          obtain rfl:ic=xe:=(by injection gj)
          replace Rc:=(HB.out.cell (World.block_lt_of_cell? w _ Rc)).trans Rc
          replace Dd:=(HB.out.cell (World.block_lt_of_cell? w _ Dd)).trans Dd
          replace Cd:=(HB.out.cell (World.block_lt_of_cell? w _ Cd)).trans Cd
          replace Bd:=(HB.out.cell (World.block_lt_of_cell? w _ Bd)).trans Bd
          replace Ae:=(HB.out.cell (World.block_lt_of_cell? w _ Ae)).trans Ae
          replace jf:=(HB.out.cell (World.block_lt_of_cell? w _ jf)).trans jf
          replace gf:=(HB.out.cell (World.block_lt_of_cell? w _ gf)).trans gf
          replace Jf:=eq_true Jf
          replace Hf:=eq_true Hf
          have Tg:0 ≤ (Ca:Int):=of_decide_eq_true (by first|(with_reducible assumption)|assumption)
          have Sg:Ca < (l0.length:Int):=of_decide_eq_true (by first|(with_reducible assumption)|assumption)
          obtain ⟨Ef,Cl,Ad,Yd,Xd,Wd,je,Df,Cf⟩:=kf Bh.out Ca Tg Sg
          obtain rfl:ic=Ef:=(by injection Cl)
          replace Ad:=(HB.out.cell (World.block_lt_of_cell? w _ Ad)).trans Ad
          replace Yd:=(HB.out.cell (World.block_lt_of_cell? w _ Yd)).trans Yd
          replace Xd:=(HB.out.cell (World.block_lt_of_cell? w _ Xd)).trans Xd
          replace Wd:=(HB.out.cell (World.block_lt_of_cell? w _ Wd)).trans Wd
          replace je:=(HB.out.cell (World.block_lt_of_cell? w _ je)).trans je
          replace Df:=(HB.out.cell (World.block_lt_of_cell? w _ Df)).trans Df
          replace Cf:=(HB.out.cell (World.block_lt_of_cell? w _ Cf)).trans Cf
          replace Tg:=eq_true Tg
          replace Sg:=eq_true Sg
          have Gh:0 ≤ (Ca:Int):=of_decide_eq_true (by first|(with_reducible assumption)|assumption)
          have Fh:Ca < (l0.length:Int):=of_decide_eq_true (by first|(with_reducible assumption)|assumption)
          obtain ⟨Rj,rm,ue,Te,Re,Qe,We,uh,th⟩:=kf Bh.out Ca Gh Fh
          obtain rfl:ic=Rj:=(by injection rm)
          replace ue:=(HB.out.cell (World.block_lt_of_cell? w _ ue)).trans ue
          replace Te:=(HB.out.cell (World.block_lt_of_cell? w _ Te)).trans Te
          replace Re:=(HB.out.cell (World.block_lt_of_cell? w _ Re)).trans Re
          replace Qe:=(HB.out.cell (World.block_lt_of_cell? w _ Qe)).trans Qe
          replace We:=(HB.out.cell (World.block_lt_of_cell? w _ We)).trans We
          replace uh:=(HB.out.cell (World.block_lt_of_cell? w _ uh)).trans uh
          replace th:=(HB.out.cell (World.block_lt_of_cell? w _ th)).trans th
          replace Gh:=eq_true Gh
          replace Fh:=eq_true Fh
          have Zh:0 ≤ (Ca:Int):=of_decide_eq_true (by first|(with_reducible assumption)|assumption)
          have Yh:Ca < (l0.length:Int):=of_decide_eq_true (by first|(with_reducible assumption)|assumption)
          obtain ⟨Wh,Lo,ze,He,Ge,Fe,Ee,xj,wj⟩:=kf Bh.out Ca Zh Yh
          obtain rfl:ic=Wh:=(by injection Lo)
          replace ze:=(HB.out.cell (World.block_lt_of_cell? w _ ze)).trans ze
          replace He:=(HB.out.cell (World.block_lt_of_cell? w _ He)).trans He
          replace Ge:=(HB.out.cell (World.block_lt_of_cell? w _ Ge)).trans Ge
          replace Fe:=(HB.out.cell (World.block_lt_of_cell? w _ Fe)).trans Fe
          replace Ee:=(HB.out.cell (World.block_lt_of_cell? w _ Ee)).trans Ee
          replace xj:=(HB.out.cell (World.block_lt_of_cell? w _ xj)).trans xj
          replace wj:=(HB.out.cell (World.block_lt_of_cell? w _ wj)).trans wj
          replace Zh:=eq_true Zh
          replace Yh:=eq_true Yh
          go_wp2
          go_ret
          exact ⟨by first|rfl|(simp [La,Ka] <;> rfl)|(simp [*,La,Ka] <;> rfl),by repeat (first|(with_reducible first|exact HB.out|apply qa|apply ia|apply ua)|exact HB.out)⟩
        ·rw [if_neg c8] at H
         have Yl:(((Ea l0 Ca).f3) == (wrap64 ((wrap64 ((wrap64 (Gc + 1)) + 1)) + 1)))=false:=beq_eq_false_iff_ne.mpr c8
         have sq:(((Ea l0 Ca).f3) != (wrap64 ((wrap64 ((wrap64 (Gc + 1)) + 1)) + 1)))=true:=bne_iff_ne.mpr c8
         obtain rfl:=Option.some.inj H
         have Vd:0 ≤ (Ca:Int):=of_decide_eq_true (by first|(with_reducible assumption)|assumption)
         have Ud:Ca < (l0.length:Int):=of_decide_eq_true (by first|(with_reducible assumption)|assumption)
         obtain ⟨ic,Eg,Ob,Vb,Ub,Tb,Cc,Ce,Be⟩:=kf Bh.out Ca Vd Ud
         cases Eg
         replace Ob:=(HB.out.cell (World.block_lt_of_cell? w _ Ob)).trans Ob
         replace Vb:=(HB.out.cell (World.block_lt_of_cell? w _ Vb)).trans Vb
         replace Ub:=(HB.out.cell (World.block_lt_of_cell? w _ Ub)).trans Ub
         replace Tb:=(HB.out.cell (World.block_lt_of_cell? w _ Tb)).trans Tb
         replace Cc:=(HB.out.cell (World.block_lt_of_cell? w _ Cc)).trans Cc
         replace Ce:=(HB.out.cell (World.block_lt_of_cell? w _ Ce)).trans Ce
         replace Be:=(HB.out.cell (World.block_lt_of_cell? w _ Be)).trans Be
         replace Vd:=eq_true Vd
         replace Ud:=eq_true Ud
         have Jf:0 ≤ (Ca:Int):=of_decide_eq_true (by first|(with_reducible assumption)|assumption)
         have Hf:Ca < (l0.length:Int):=of_decide_eq_true (by first|(with_reducible assumption)|assumption)
         obtain ⟨xe,gj,Rc,Dd,Cd,Bd,Ae,jf,gf⟩:=kf Bh.out Ca Jf Hf
         obtain rfl:ic=xe:=(by injection gj)
         replace Rc:=(HB.out.cell (World.block_lt_of_cell? w _ Rc)).trans Rc
         replace Dd:=(HB.out.cell (World.block_lt_of_cell? w _ Dd)).trans Dd
         replace Cd:=(HB.out.cell (World.block_lt_of_cell? w _ Cd)).trans Cd
         replace Bd:=(HB.out.cell (World.block_lt_of_cell? w _ Bd)).trans Bd
         replace Ae:=(HB.out.cell (World.block_lt_of_cell? w _ Ae)).trans Ae
         replace jf:=(HB.out.cell (World.block_lt_of_cell? w _ jf)).trans jf
         replace gf:=(HB.out.cell (World.block_lt_of_cell? w _ gf)).trans gf
         replace Jf:=eq_true Jf
         replace Hf:=eq_true Hf
         have Tg:0 ≤ (Ca:Int):=of_decide_eq_true (by first|(with_reducible assumption)|assumption)
         have Sg:Ca < (l0.length:Int):=of_decide_eq_true (by first|(with_reducible assumption)|assumption)
         obtain ⟨Ef,Cl,Ad,Yd,Xd,Wd,je,Df,Cf⟩:=kf Bh.out Ca Tg Sg
         obtain rfl:ic=Ef:=(by injection Cl)
         replace Ad:=(HB.out.cell (World.block_lt_of_cell? w _ Ad)).trans Ad
         replace Yd:=(HB.out.cell (World.block_lt_of_cell? w _ Yd)).trans Yd
         replace Xd:=(HB.out.cell (World.block_lt_of_cell? w _ Xd)).trans Xd
         replace Wd:=(HB.out.cell (World.block_lt_of_cell? w _ Wd)).trans Wd
         replace je:=(HB.out.cell (World.block_lt_of_cell? w _ je)).trans je
         replace Df:=(HB.out.cell (World.block_lt_of_cell? w _ Df)).trans Df
         replace Cf:=(HB.out.cell (World.block_lt_of_cell? w _ Cf)).trans Cf
         replace Tg:=eq_true Tg
         replace Sg:=eq_true Sg
         have Gh:0 ≤ (Ca:Int):=of_decide_eq_true (by first|(with_reducible assumption)|assumption)
         have Fh:Ca < (l0.length:Int):=of_decide_eq_true (by first|(with_reducible assumption)|assumption)
         obtain ⟨Rj,rm,ue,Te,Re,Qe,We,uh,th⟩:=kf Bh.out Ca Gh Fh
         obtain rfl:ic=Rj:=(by injection rm)
         replace ue:=(HB.out.cell (World.block_lt_of_cell? w _ ue)).trans ue
         replace Te:=(HB.out.cell (World.block_lt_of_cell? w _ Te)).trans Te
         replace Re:=(HB.out.cell (World.block_lt_of_cell? w _ Re)).trans Re
         replace Qe:=(HB.out.cell (World.block_lt_of_cell? w _ Qe)).trans Qe
         replace We:=(HB.out.cell (World.block_lt_of_cell? w _ We)).trans We
         replace uh:=(HB.out.cell (World.block_lt_of_cell? w _ uh)).trans uh
         replace th:=(HB.out.cell (World.block_lt_of_cell? w _ th)).trans th
         replace Gh:=eq_true Gh
         replace Fh:=eq_true Fh
         go_wp2
         go_ret
         exact ⟨by first|rfl|(simp [La,Ka] <;> rfl)|(simp [*,La,Ka] <;> rfl),by repeat (first|(with_reducible first|exact HB.out|apply qa|apply ia|apply ua)|exact HB.out)⟩
       ·rw [if_neg c7] at H
        have Uo:(((Ea l0 Ca).f2) == (wrap64 ((wrap64 (Gc + 1)) + 1)))=false:=beq_eq_false_iff_ne.mpr c7
        have qu:(((Ea l0 Ca).f2) != (wrap64 ((wrap64 (Gc + 1)) + 1)))=true:=bne_iff_ne.mpr c7
        obtain rfl:=Option.some.inj H
        have Vd:0 ≤ (Ca:Int):=of_decide_eq_true (by first|(with_reducible assumption)|assumption)
        have Ud:Ca < (l0.length:Int):=of_decide_eq_true (by first|(with_reducible assumption)|assumption)
        obtain ⟨ic,Eg,Ob,Vb,Ub,Tb,Cc,Ce,Be⟩:=kf Bh.out Ca Vd Ud
        cases Eg
        replace Ob:=(HB.out.cell (World.block_lt_of_cell? w _ Ob)).trans Ob
        replace Vb:=(HB.out.cell (World.block_lt_of_cell? w _ Vb)).trans Vb
        replace Ub:=(HB.out.cell (World.block_lt_of_cell? w _ Ub)).trans Ub
        replace Tb:=(HB.out.cell (World.block_lt_of_cell? w _ Tb)).trans Tb
        replace Cc:=(HB.out.cell (World.block_lt_of_cell? w _ Cc)).trans Cc
        replace Ce:=(HB.out.cell (World.block_lt_of_cell? w _ Ce)).trans Ce
        replace Be:=(HB.out.cell (World.block_lt_of_cell? w _ Be)).trans Be
        replace Vd:=eq_true Vd
        replace Ud:=eq_true Ud
        have Jf:0 ≤ (Ca:Int):=of_decide_eq_true (by first|(with_reducible assumption)|assumption)
        have Hf:Ca < (l0.length:Int):=of_decide_eq_true (by first|(with_reducible assumption)|assumption)
        obtain ⟨xe,gj,Rc,Dd,Cd,Bd,Ae,jf,gf⟩:=kf Bh.out Ca Jf Hf
        obtain rfl:ic=xe:=(by injection gj)
        replace Rc:=(HB.out.cell (World.block_lt_of_cell? w _ Rc)).trans Rc
        replace Dd:=(HB.out.cell (World.block_lt_of_cell? w _ Dd)).trans Dd
        replace Cd:=(HB.out.cell (World.block_lt_of_cell? w _ Cd)).trans Cd
        replace Bd:=(HB.out.cell (World.block_lt_of_cell? w _ Bd)).trans Bd
        replace Ae:=(HB.out.cell (World.block_lt_of_cell? w _ Ae)).trans Ae
        replace jf:=(HB.out.cell (World.block_lt_of_cell? w _ jf)).trans jf
        replace gf:=(HB.out.cell (World.block_lt_of_cell? w _ gf)).trans gf
        replace Jf:=eq_true Jf
        replace Hf:=eq_true Hf
        have Tg:0 ≤ (Ca:Int):=of_decide_eq_true (by first|(with_reducible assumption)|assumption)
        have Sg:Ca < (l0.length:Int):=of_decide_eq_true (by first|(with_reducible assumption)|assumption)
        obtain ⟨Ef,Cl,Ad,Yd,Xd,Wd,je,Df,Cf⟩:=kf Bh.out Ca Tg Sg
        obtain rfl:ic=Ef:=(by injection Cl)
        replace Ad:=(HB.out.cell (World.block_lt_of_cell? w _ Ad)).trans Ad
        replace Yd:=(HB.out.cell (World.block_lt_of_cell? w _ Yd)).trans Yd
        replace Xd:=(HB.out.cell (World.block_lt_of_cell? w _ Xd)).trans Xd
        replace Wd:=(HB.out.cell (World.block_lt_of_cell? w _ Wd)).trans Wd
        replace je:=(HB.out.cell (World.block_lt_of_cell? w _ je)).trans je
        replace Df:=(HB.out.cell (World.block_lt_of_cell? w _ Df)).trans Df
        replace Cf:=(HB.out.cell (World.block_lt_of_cell? w _ Cf)).trans Cf
        replace Tg:=eq_true Tg
        replace Sg:=eq_true Sg
        go_wp2
        go_ret
        exact ⟨by first|rfl|(simp [La,Ka] <;> rfl)|(simp [*,La,Ka] <;> rfl),by repeat (first|(with_reducible first|exact HB.out|apply qa|apply ia|apply ua)|exact HB.out)⟩
      ·rw [if_neg c6] at H
       have El:(((Ea l0 Ca).f1) == (wrap64 (Gc + 1)))=false:=beq_eq_false_iff_ne.mpr c6
       have Ts:(((Ea l0 Ca).f1) != (wrap64 (Gc + 1)))=true:=bne_iff_ne.mpr c6
       obtain rfl:=Option.some.inj H
       have Vd:0 ≤ (Ca:Int):=of_decide_eq_true (by first|(with_reducible assumption)|assumption)
       have Ud:Ca < (l0.length:Int):=of_decide_eq_true (by first|(with_reducible assumption)|assumption)
       obtain ⟨ic,Eg,Ob,Vb,Ub,Tb,Cc,Ce,Be⟩:=kf Bh.out Ca Vd Ud
       cases Eg
       replace Ob:=(HB.out.cell (World.block_lt_of_cell? w _ Ob)).trans Ob
       replace Vb:=(HB.out.cell (World.block_lt_of_cell? w _ Vb)).trans Vb
       replace Ub:=(HB.out.cell (World.block_lt_of_cell? w _ Ub)).trans Ub
       replace Tb:=(HB.out.cell (World.block_lt_of_cell? w _ Tb)).trans Tb
       replace Cc:=(HB.out.cell (World.block_lt_of_cell? w _ Cc)).trans Cc
       replace Ce:=(HB.out.cell (World.block_lt_of_cell? w _ Ce)).trans Ce
       replace Be:=(HB.out.cell (World.block_lt_of_cell? w _ Be)).trans Be
       replace Vd:=eq_true Vd
       replace Ud:=eq_true Ud
       have Jf:0 ≤ (Ca:Int):=of_decide_eq_true (by first|(with_reducible assumption)|assumption)
       have Hf:Ca < (l0.length:Int):=of_decide_eq_true (by first|(with_reducible assumption)|assumption)
       obtain ⟨xe,gj,Rc,Dd,Cd,Bd,Ae,jf,gf⟩:=kf Bh.out Ca Jf Hf
       obtain rfl:ic=xe:=(by injection gj)
       replace Rc:=(HB.out.cell (World.block_lt_of_cell? w _ Rc)).trans Rc
       replace Dd:=(HB.out.cell (World.block_lt_of_cell? w _ Dd)).trans Dd
       replace Cd:=(HB.out.cell (World.block_lt_of_cell? w _ Cd)).trans Cd
       replace Bd:=(HB.out.cell (World.block_lt_of_cell? w _ Bd)).trans Bd
       replace Ae:=(HB.out.cell (World.block_lt_of_cell? w _ Ae)).trans Ae
       replace jf:=(HB.out.cell (World.block_lt_of_cell? w _ jf)).trans jf
       replace gf:=(HB.out.cell (World.block_lt_of_cell? w _ gf)).trans gf
       replace Jf:=eq_true Jf
       replace Hf:=eq_true Hf
       go_wp2
       go_ret
       exact ⟨by first|rfl|(simp [La,Ka] <;> rfl)|(simp [*,La,Ka] <;> rfl),by repeat (first|(with_reducible first|exact HB.out|apply qa|apply ia|apply ua)|exact HB.out)⟩
     ·rw [if_neg c5] at H
      have Ok:(((Ea l0 Ca).f0) == Gc)=false:=beq_eq_false_iff_ne.mpr c5
      have Yp:(((Ea l0 Ca).f0) != Gc)=true:=bne_iff_ne.mpr c5
      obtain rfl:=Option.some.inj H
      have Vd:0 ≤ (Ca:Int):=of_decide_eq_true (by first|(with_reducible assumption)|assumption)
      have Ud:Ca < (l0.length:Int):=of_decide_eq_true (by first|(with_reducible assumption)|assumption)
      obtain ⟨ic,Eg,Ob,Vb,Ub,Tb,Cc,Ce,Be⟩:=kf Bh.out Ca Vd Ud
      cases Eg
      replace Ob:=(HB.out.cell (World.block_lt_of_cell? w _ Ob)).trans Ob
      replace Vb:=(HB.out.cell (World.block_lt_of_cell? w _ Vb)).trans Vb
      replace Ub:=(HB.out.cell (World.block_lt_of_cell? w _ Ub)).trans Ub
      replace Tb:=(HB.out.cell (World.block_lt_of_cell? w _ Tb)).trans Tb
      replace Cc:=(HB.out.cell (World.block_lt_of_cell? w _ Cc)).trans Cc
      replace Ce:=(HB.out.cell (World.block_lt_of_cell? w _ Ce)).trans Ce
      replace Be:=(HB.out.cell (World.block_lt_of_cell? w _ Be)).trans Be
      replace Vd:=eq_true Vd
      replace Ud:=eq_true Ud
      go_wp2
      go_ret
      exact ⟨by first|rfl|(simp [La,Ka] <;> rfl)|(simp [*,La,Ka] <;> rfl),by repeat (first|(with_reducible first|exact HB.out|apply qa|apply ia|apply ua)|exact HB.out)⟩
    ·rw [if_neg c4] at H
     exact absurd H (by simp)
   ·rw [if_neg c3] at H
    have Jh:decide (Ca < (l0.length:Int))=false:=decide_eq_false c3
    clear c3
    obtain rfl:=Option.some.inj H
    go_wp2
    go_ret
    exact ⟨by first|rfl|(simp [La,Ka] <;> rfl)|(simp [*,La,Ka] <;> rfl),by repeat (first|(with_reducible first|exact HB.out|apply qa|apply ia|apply ua)|exact HB.out)⟩
def xd.l0:Nat→List Int→Int→Int→Option (Int)
 | 0,_,_,_=>none
 | k + 1,x0,x1,x5=>if x5 < (x0.length:Int) then (if 0 ≤ x5 then (if (rd x0 x5)=x1 then (xd.l0 k x0 (wrap64 (x1 + 1)) (wrap64 (x5 + 1))) else (some (-1))) else (none)) else (some x1)
def xd.f (k:Nat) (l0:List Int) (a1:Int):Option (Int):=xd.l0 k l0 a1 0
theorem xd.Qd:∀ k,(∀ y0 y1 y2,Nb (xd.l0 k y0 y1 y2) (xd.l0 (k + 1) y0 y1 y2))
 | 0=>fun _ _ _ r h=>by simp [xd.l0] at h
 | k + 1=>by
  have Ff:=xd.Qd k
  ·intro y0 y1 y2
   unfold xd.l0
   repeat' first
   | (with_reducible exact Ff _ _ _)
   | (with_reducible exact Nb.refl _)
   | (with_reducible exact Nb.none _)
   | (with_reducible refine Nb.ite ?_ ?_)
   | (with_reducible refine Nb.bind ?_ (fun _=>?_))
   | exact Ff _ _ _
   | exact Nb.none _
   | refine Nb.ite ?_ ?_
   | refine Nb.bind ?_ (fun _=>?_)
theorem xd.mono:∀ a0 a1 k,Nb (xd.f k a0 a1) (xd.f (k + 1) a0 a1):=by
 intro a0 a1 k
 have Ff:=xd.Qd k
 unfold xd.f
 repeat' first
   | (with_reducible exact Ff _ _ _)
   | (with_reducible exact Nb.refl _)
   | (with_reducible exact Nb.none _)
   | (with_reducible refine Nb.ite ?_ ?_)
   | (with_reducible refine Nb.bind ?_ (fun _=>?_))
   | exact Ff _ _ _
   | exact Nb.none _
   | refine Nb.ite ?_ ?_
   | refine Nb.bind ?_ (fun _=>?_)
theorem xd.calls (k:Nat) (A0:Option Addr) (c0:Nat) (l0:List Int) (a1:Int) (r:Int) (w:World) (hr0:Kd.C (Kd.int .i64) w A0 l0.length l0) (hc0:l0.length ≤ c0) (h:xd.f k l0 a1=some r) :
  Calls Try.prog 23 #[.slice A0 l0.length c0,.int .i64 a1] w fun e w'=>e = .returned (.int .i64 r)∧jc w w':=by
 have Bh:=ja.mk hr0
 have Rw:=ja.mk hc0
 clear hr0 hc0
 have H:(xd.l0 k l0 a1 0)=some r:=h
 clear h
 have H':=ja.mk H
 clear H
 go_enter Try.func23,Try.ntmps23
 go_wp2
 go_loopg [1,5] k (fun kq v1 v5 w'=>∃ (Gc:Int) (Ca:Int),v1 = .int .i64 Gc∧v5 = .int .i64 Ca∧ja (xd.l0 kq l0 Gc Ca=some r)∧ja (kq ≤ k)∧jc w w')
 case atStart=>exact ⟨(a1),(0),(by first|rfl|(simp;done)|(simp [*];done)),(by first|rfl|(simp;done)|(simp [*];done)),H',⟨Nat.le_refl _⟩,by repeat (first|exact jc.refl _|apply jc.step)⟩
 case round =>
  clear H'
  try clear c2
  try clear p2
  (try clear HA)
  (try clear Ig)
  obtain ⟨Gc,Ca,rfl,rfl,HA,Ig,⟨m1,rfl⟩⟩:=hrel
  cases gk with
  | zero=>exact absurd HA.out (by simp [xd.l0])
  | succ k1 =>
   have H:=HA.out
   clear HA
   simp only [xd.l0] at H
   by_cases c3:Ca < (l0.length:Int)
   ·rw [if_pos c3] at H
    have Jh:decide (Ca < (l0.length:Int))=true:=decide_eq_true c3
    clear c3
    by_cases c4:0 ≤ Ca
    ·rw [if_pos c4] at H
     have si:decide (0 ≤ Ca)=true:=decide_eq_true c4
     clear c4
     by_cases c5:(rd l0 Ca)=Gc
     ·rw [if_pos c5] at H
      have Ok:((rd l0 Ca) == Gc)=true:=beq_iff_eq.mpr c5
      have Yp:((rd l0 Ca) != Gc)=false:=bne_eq_false_iff_eq.mpr c5
      clear c5
      have H':=ja.mk H
      clear H
      have Vd:0 ≤ (Ca:Int):=of_decide_eq_true (by first|(with_reducible assumption)|assumption)
      have Ud:Ca < (l0.length:Int):=of_decide_eq_true (by first|(with_reducible assumption)|assumption)
      obtain ⟨ic,Eg,Ob⟩:=Kd.bq Bh.out Ca Vd Ud
      cases Eg
      replace Vd:=eq_true Vd
      replace Ud:=eq_true Ud
      go_wp2
      go_roundg k1
      case measure=>have:=Ig.out;omega
      case rel=>exact ⟨(wrap64 (Gc + 1)),(wrap64 (Ca + 1)),(by first|rfl|(simp;done)|(simp [*];done)),(by first|rfl|(simp;done)|(simp [*];done)),H',⟨by have:=Ig.out;omega⟩,by repeat (first|exact jc.refl _|apply jc.step)⟩
     ·rw [if_neg c5] at H
      have Ok:((rd l0 Ca) == Gc)=false:=beq_eq_false_iff_ne.mpr c5
      have Yp:((rd l0 Ca) != Gc)=true:=bne_iff_ne.mpr c5
      obtain rfl:=Option.some.inj H
      have Vd:0 ≤ (Ca:Int):=of_decide_eq_true (by first|(with_reducible assumption)|assumption)
      have Ud:Ca < (l0.length:Int):=of_decide_eq_true (by first|(with_reducible assumption)|assumption)
      obtain ⟨ic,Eg,Ob⟩:=Kd.bq Bh.out Ca Vd Ud
      cases Eg
      replace Vd:=eq_true Vd
      replace Ud:=eq_true Ud
      go_wp2
      go_ret
      exact ⟨by first|rfl|(simp;done)|(simp [*];done),by repeat (first|exact jc.refl _|apply jc.step)⟩
    ·rw [if_neg c4] at H
     exact absurd H (by simp)
   ·rw [if_neg c3] at H
    have Jh:decide (Ca < (l0.length:Int))=false:=decide_eq_false c3
    clear c3
    obtain rfl:=Option.some.inj H
    go_wp2
    go_ret
    exact ⟨by first|rfl|(simp;done)|(simp [*];done),by repeat (first|exact jc.refl _|apply jc.step)⟩
def Ic.l0:Nat→List (Dh)→Int→Int→Option (Int)
 | 0,_,_,_=>none
 | k + 1,x0,x1,x5=>if x5 < (x0.length:Int) then (if 0 ≤ x5 then ((Jb.f k ((Ua x0 x5).f0) x1).bind fun t102=>(if t102 < 0 then (some (-1)) else (if ((Ua x0 x5).f1)=t102 then (if ((Ua x0 x5).f2)=(wrap64 (t102 + 1)) then (if ((Ua x0 x5).f3)=(wrap64 ((wrap64 (t102 + 1)) + 1)) then (if ((Ua x0 x5).f4)=(wrap64 ((wrap64 ((wrap64 (t102 + 1)) + 1)) + 1)) then (Ic.l0 k x0 (wrap64 ((wrap64 ((wrap64 ((wrap64 (t102 + 1)) + 1)) + 1)) + 1)) (wrap64 (x5 + 1))) else (some (-1))) else (some (-1))) else (some (-1))) else (some (-1))))) else (none)) else (some x1)
def Ic.f (k:Nat) (l0:List (Dh)) (a1:Int):Option (Int):=Ic.l0 k l0 a1 0
theorem Ic.Qd:∀ k,(∀ y0 y1 y2,Nb (Ic.l0 k y0 y1 y2) (Ic.l0 (k + 1) y0 y1 y2))
 | 0=>fun _ _ _ r h=>by simp [Ic.l0] at h
 | k + 1=>by
  have Ff:=Ic.Qd k
  ·intro y0 y1 y2
   unfold Ic.l0
   repeat' first
   | (with_reducible exact Ff _ _ _)
   | (with_reducible exact Jb.mono _ _ _)
   | (with_reducible exact Nb.refl _)
   | (with_reducible exact Nb.none _)
   | (with_reducible refine Nb.ite ?_ ?_)
   | (with_reducible refine Nb.bind ?_ (fun _=>?_))
   | exact Ff _ _ _
   | exact Jb.mono _ _ _
   | exact Nb.none _
   | refine Nb.ite ?_ ?_
   | refine Nb.bind ?_ (fun _=>?_)
theorem Ic.mono:∀ a0 a1 k,Nb (Ic.f k a0 a1) (Ic.f (k + 1) a0 a1):=by
 intro a0 a1 k
 have Ff:=Ic.Qd k
 unfold Ic.f
 repeat' first
   | (with_reducible exact Ff _ _ _)
   | (with_reducible exact Jb.mono _ _ _)
   | (with_reducible exact Nb.refl _)
   | (with_reducible exact Nb.none _)
   | (with_reducible refine Nb.ite ?_ ?_)
   | (with_reducible refine Nb.bind ?_ (fun _=>?_))
   | exact Ff _ _ _
   | exact Jb.mono _ _ _
   | exact Nb.none _
   | refine Nb.ite ?_ ?_
   | refine Nb.bind ?_ (fun _=>?_)
theorem Ic.calls (k:Nat) (A0:Option Addr) (c0:Nat) (l0:List (Dh)) (a1:Int) (r:Int) (w:World) (hr0:Kd.C Tp w A0 l0.length l0) (hc0:l0.length ≤ c0) (h:Ic.f k l0 a1=some r) :
  Calls Try.prog 69 #[.slice A0 l0.length c0,.int .i64 a1] w fun e w'=>e = .returned (.int .i64 r)∧Below w.heap.size w w':=by
 have Bh:=ja.mk hr0
 have Rw:=ja.mk hc0
 clear hr0 hc0
 have HB:=ja.mk (Below.refl w.heap.size w)
 have H:(Ic.l0 k l0 a1 0)=some r:=h
 clear h
 have H':=ja.mk H
 clear H
 go_enter Try.func69,Try.ntmps69
 go_wp2
 go_loopg [1,5] k (fun kq v1 v5 w'=>∃ (Gc:Int) (Ca:Int),v1 = .int .i64 Gc∧v5 = .int .i64 Ca∧ja (Ic.l0 kq l0 Gc Ca=some r)∧ja (kq ≤ k)∧ja (Below w.heap.size w w'))
 case atStart=>exact ⟨(a1),(0),(by first|rfl|(simp;done)|(simp [*];done)),(by first|rfl|(simp;done)|(simp [*];done)),H',⟨Nat.le_refl _⟩,⟨by repeat (first|(with_reducible first|exact HB.out|apply qa|apply ia|apply ua)|exact HB.out)⟩⟩
 case round =>
  clear H'
  try clear p2
  (try clear HA)
  (try clear Ig)
  (try clear HB)
  obtain ⟨Gc,Ca,rfl,rfl,HA,Ig,HB⟩:=hrel
  cases gk with
  | zero=>exact absurd HA.out (by simp [Ic.l0])
  | succ k1 =>
   have H:=HA.out
   clear HA
   simp only [Ic.l0] at H
   by_cases c3:Ca < (l0.length:Int)
   ·rw [if_pos c3] at H
    have Jh:decide (Ca < (l0.length:Int))=true:=decide_eq_true c3
    clear c3
    by_cases c4:0 ≤ Ca
    ·rw [if_pos c4] at H
     have si:decide (0 ≤ Ca)=true:=decide_eq_true c4
     clear c4
     replace H:=Option.bind_eq_some_iff.mp H
     obtain ⟨t102,OM,H⟩:=H
     replace H:(if t102 < 0 then (some (-1)) else (if ((Ua l0 Ca).f1)=t102 then (if ((Ua l0 Ca).f2)=(wrap64 (t102 + 1)) then (if ((Ua l0 Ca).f3)=(wrap64 ((wrap64 (t102 + 1)) + 1)) then (if ((Ua l0 Ca).f4)=(wrap64 ((wrap64 ((wrap64 (t102 + 1)) + 1)) + 1)) then (Ic.l0 k1 l0 (wrap64 ((wrap64 ((wrap64 ((wrap64 (t102 + 1)) + 1)) + 1)) + 1)) (wrap64 (Ca + 1))) else (some (-1))) else (some (-1))) else (some (-1))) else (some (-1))))=some r:=H
     have A5:=ja.mk OM
     clear OM
     by_cases c6:t102 < 0
     ·rw [if_pos c6] at H
      have El:decide (t102 < 0)=true:=decide_eq_true c6
      clear c6
      obtain rfl:=Option.some.inj H
      have Vd:0 ≤ (Ca:Int):=of_decide_eq_true (by first|(with_reducible assumption)|assumption)
      have Ud:Ca < (l0.length:Int):=of_decide_eq_true (by first|(with_reducible assumption)|assumption)
      obtain ⟨ic,Ri,Qi,Eg,Ob,Vb,Ub,Tb,Cc,Cg,Dg⟩:=Zf Bh.out Ca Vd Ud
      cases Eg
      replace Ob:=(HB.out.cell (World.block_lt_of_cell? w _ Ob)).trans Ob
      replace Vb:=(HB.out.cell (World.block_lt_of_cell? w _ Vb)).trans Vb
      replace Ub:=(HB.out.cell (World.block_lt_of_cell? w _ Ub)).trans Ub
      replace Tb:=(HB.out.cell (World.block_lt_of_cell? w _ Tb)).trans Tb
      replace Cc:=(HB.out.cell (World.block_lt_of_cell? w _ Cc)).trans Cc
      have Mh:=ja.mk Dg
      have Uh:=ja.mk Cg
      clear Dg Cg
      replace Vd:=eq_true Vd
      replace Ud:=eq_true Ud
      go_wp2_with (first|((with_reducible refine xb (f:=103) rfl ?_);refine qd (some 18) rfl rfl Try.func103 (by kernel_rfl) rfl #[.slice Ri ((Ua l0 Ca).f0).length Qi,.int .i64 Gc] rfl (by (try simp only [List.map_toArray,List.map_cons,List.map_nil]);first|done|rfl|(simp only [List.length_drop,List.length_take];rfl)) ?_;(with_reducible refine (Jb.calls k1 _ _ ((Ua l0 Ca).f0) Gc t102 _ ?side1 ?side2 A5.out).mono ?_);(case side1=>repeat (first|exact (Kd.Mb Mh.out HB.out)|(with_reducible refine Kd.Lc ?_ _)|(with_reducible refine Kd.Jc ?_ _)|(with_reducible refine Kd.Ed ?_)));(case side2=>exact Uh.out);rintro e w7 ⟨rfl,hb⟩;refine ⟨_,rfl,?_⟩;have Qb:=ja.mk (Na (by repeat (first|(with_reducible first|exact HB.out|apply qa|apply ia|apply ua)|exact HB.out)) hb);clear HB;have HB:=Qb;clear Qb;(try clear hb);(try clear hb2);(try clear hk);(try clear hi)))
      go_ret
      exact ⟨by first|rfl|(simp [La,Ka] <;> rfl)|(simp [*,La,Ka] <;> rfl),by repeat (first|(with_reducible first|exact HB.out|apply qa|apply ia|apply ua)|exact HB.out)⟩
     ·rw [if_neg c6] at H
      have El:decide (t102 < 0)=false:=decide_eq_false c6
      clear c6
      by_cases c8:((Ua l0 Ca).f1)=t102
      ·rw [if_pos c8] at H
       have Yl:(((Ua l0 Ca).f1) == t102)=true:=beq_iff_eq.mpr c8
       have sq:(((Ua l0 Ca).f1) != t102)=false:=bne_eq_false_iff_eq.mpr c8
       clear c8
       by_cases c9:((Ua l0 Ca).f2)=(wrap64 (t102 + 1))
       ·rw [if_pos c9] at H
        have Az:(((Ua l0 Ca).f2) == (wrap64 (t102 + 1)))=true:=beq_iff_eq.mpr c9
        have YC:(((Ua l0 Ca).f2) != (wrap64 (t102 + 1)))=false:=bne_eq_false_iff_eq.mpr c9
        clear c9
        by_cases aq:((Ua l0 Ca).f3)=(wrap64 ((wrap64 (t102 + 1)) + 1))
        ·rw [if_pos aq] at H
         have mw:(((Ua l0 Ca).f3) == (wrap64 ((wrap64 (t102 + 1)) + 1)))=true:=beq_iff_eq.mpr aq
         have Ez:(((Ua l0 Ca).f3) != (wrap64 ((wrap64 (t102 + 1)) + 1)))=false:=bne_eq_false_iff_eq.mpr aq
         clear aq
         by_cases c11:((Ua l0 Ca).f4)=(wrap64 ((wrap64 ((wrap64 (t102 + 1)) + 1)) + 1))
         ·rw [if_pos c11] at H
          have GA:(((Ua l0 Ca).f4) == (wrap64 ((wrap64 ((wrap64 (t102 + 1)) + 1)) + 1)))=true:=beq_iff_eq.mpr c11
          have P2:(((Ua l0 Ca).f4) != (wrap64 ((wrap64 ((wrap64 (t102 + 1)) + 1)) + 1)))=false:=bne_eq_false_iff_eq.mpr c11
          clear c11
          have H':=ja.mk H
          clear H
          have Vd:0 ≤ (Ca:Int):=of_decide_eq_true (by first|(with_reducible assumption)|assumption)
          have Ud:Ca < (l0.length:Int):=of_decide_eq_true (by first|(with_reducible assumption)|assumption)
          obtain ⟨ic,Ri,Qi,Eg,Ob,Vb,Ub,Tb,Cc,Cg,Dg⟩:=Zf Bh.out Ca Vd Ud
          cases Eg
          replace Ob:=(HB.out.cell (World.block_lt_of_cell? w _ Ob)).trans Ob
          replace Vb:=(HB.out.cell (World.block_lt_of_cell? w _ Vb)).trans Vb
          replace Ub:=(HB.out.cell (World.block_lt_of_cell? w _ Ub)).trans Ub
          replace Tb:=(HB.out.cell (World.block_lt_of_cell? w _ Tb)).trans Tb
          replace Cc:=(HB.out.cell (World.block_lt_of_cell? w _ Cc)).trans Cc
          have Mh:=ja.mk Dg
          have Uh:=ja.mk Cg
          clear Dg Cg
          replace Vd:=eq_true Vd
          replace Ud:=eq_true Ud
          go_wp2_with (first|((with_reducible refine xb (f:=103) rfl ?_);refine qd (some 18) rfl rfl Try.func103 (by kernel_rfl) rfl #[.slice Ri ((Ua l0 Ca).f0).length Qi,.int .i64 Gc] rfl (by (try simp only [List.map_toArray,List.map_cons,List.map_nil]);first|done|rfl|(simp only [List.length_drop,List.length_take];rfl)) ?_;(with_reducible refine (Jb.calls k1 _ _ ((Ua l0 Ca).f0) Gc t102 _ ?side1 ?side2 A5.out).mono ?_);(case side1=>repeat (first|exact (Kd.Mb Mh.out HB.out)|(with_reducible refine Kd.Lc ?_ _)|(with_reducible refine Kd.Jc ?_ _)|(with_reducible refine Kd.Ed ?_)));(case side2=>exact Uh.out);rintro e sA ⟨rfl,hb⟩;refine ⟨_,rfl,?_⟩;have Qb:=ja.mk (Na (by repeat (first|(with_reducible first|exact HB.out|apply qa|apply ia|apply ua)|exact HB.out)) hb);clear HB;have HB:=Qb;clear Qb;(try clear hb);(try clear hb2);(try clear hk);(try clear hi);have Tg:0 ≤ (Ca:Int):=of_decide_eq_true (by first|(with_reducible assumption)|assumption);have Sg:Ca < (l0.length:Int):=of_decide_eq_true (by first|(with_reducible assumption)|assumption);obtain ⟨Ef,kD,ZC,Cl,Ad,Yd,Xd,Wd,je,Jj,Lj⟩:=Zf Bh.out Ca Tg Sg;obtain rfl:ic=Ef:=(by injection Cl);replace Ad:=(HB.out.cell (World.block_lt_of_cell? w _ Ad)).trans Ad;replace Yd:=(HB.out.cell (World.block_lt_of_cell? w _ Yd)).trans Yd;replace Xd:=(HB.out.cell (World.block_lt_of_cell? w _ Xd)).trans Xd;replace Wd:=(HB.out.cell (World.block_lt_of_cell? w _ Wd)).trans Wd;replace je:=(HB.out.cell (World.block_lt_of_cell? w _ je)).trans je;have Jy:=ja.mk Lj;have Ly:=ja.mk Jj;clear Lj Jj;replace Tg:=eq_true Tg;replace Sg:=eq_true Sg;have Gh:0 ≤ (Ca:Int):=of_decide_eq_true (by first|(with_reducible assumption)|assumption);have Fh:Ca < (l0.length:Int):=of_decide_eq_true (by first|(with_reducible assumption)|assumption);obtain ⟨Rj,Pz,Fz,rm,ue,Te,Re,Qe,We,Ij,Kj⟩:=Zf Bh.out Ca Gh Fh;obtain rfl:ic=Rj:=(by injection rm);replace ue:=(HB.out.cell (World.block_lt_of_cell? w _ ue)).trans ue;replace Te:=(HB.out.cell (World.block_lt_of_cell? w _ Te)).trans Te;replace Re:=(HB.out.cell (World.block_lt_of_cell? w _ Re)).trans Re;replace Qe:=(HB.out.cell (World.block_lt_of_cell? w _ Qe)).trans Qe;replace We:=(HB.out.cell (World.block_lt_of_cell? w _ We)).trans We;have ow:=ja.mk Kj;have sw:=ja.mk Ij;clear Kj Ij;replace Gh:=eq_true Gh;replace Fh:=eq_true Fh;have Lk:=Option.some.inj (Ad.symm.trans ue);injection Lk with Lk en_ ec_;subst Lk;subst ec_;clear en_;have Zh:0 ≤ (Ca:Int):=of_decide_eq_true (by first|(with_reducible assumption)|assumption);have Yh:Ca < (l0.length:Int):=of_decide_eq_true (by first|(with_reducible assumption)|assumption);obtain ⟨Wh,Cj,yj,Lo,ze,He,Ge,Fe,Ee,wh,xh⟩:=Zf Bh.out Ca Zh Yh;obtain rfl:ic=Wh:=(by injection Lo);replace ze:=(HB.out.cell (World.block_lt_of_cell? w _ ze)).trans ze;replace He:=(HB.out.cell (World.block_lt_of_cell? w _ He)).trans He;replace Ge:=(HB.out.cell (World.block_lt_of_cell? w _ Ge)).trans Ge;replace Fe:=(HB.out.cell (World.block_lt_of_cell? w _ Fe)).trans Fe;replace Ee:=(HB.out.cell (World.block_lt_of_cell? w _ Ee)).trans Ee;have Fm:=ja.mk xh;have fo:=ja.mk wh;clear xh wh;replace Zh:=eq_true Zh;replace Yh:=eq_true Yh;have Lk:=Option.some.inj (Ad.symm.trans ze);injection Lk with Lk en_ ec_;subst Lk;subst ec_;clear en_;have uo:0 ≤ (Ca:Int):=of_decide_eq_true (by first|(with_reducible assumption)|assumption);have oo:Ca < (l0.length:Int):=of_decide_eq_true (by first|(with_reducible assumption)|assumption);obtain ⟨iu,aV,gU,yz,Qg,qh,oh,nh,mh,Hu,Ju⟩:=Zf Bh.out Ca uo oo;obtain rfl:ic=iu:=(by injection yz);replace Qg:=(HB.out.cell (World.block_lt_of_cell? w _ Qg)).trans Qg;replace qh:=(HB.out.cell (World.block_lt_of_cell? w _ qh)).trans qh;replace oh:=(HB.out.cell (World.block_lt_of_cell? w _ oh)).trans oh;replace nh:=(HB.out.cell (World.block_lt_of_cell? w _ nh)).trans nh;replace mh:=(HB.out.cell (World.block_lt_of_cell? w _ mh)).trans mh;have pQ:=ja.mk Ju;have zQ:=ja.mk Hu;clear Ju Hu;replace uo:=eq_true uo;replace oo:=eq_true oo;have Lk:=Option.some.inj (Ad.symm.trans Qg);injection Lk with Lk en_ ec_;subst Lk;subst ec_;clear en_))
          go_roundg k1
          case measure=>have:=Ig.out;omega
          case rel=>exact ⟨(wrap64 ((wrap64 ((wrap64 ((wrap64 (t102 + 1)) + 1)) + 1)) + 1)),(wrap64 (Ca + 1)),(by first|rfl|(simp;done)|(simp [*];done)),(by first|rfl|(simp;done)|(simp [*];done)),H',⟨by have:=Ig.out;omega⟩,⟨by repeat (first|(with_reducible first|exact HB.out|apply qa|apply ia|apply ua)|exact HB.out)⟩⟩
         ·rw [if_neg c11] at H
          have GA:(((Ua l0 Ca).f4) == (wrap64 ((wrap64 ((wrap64 (t102 + 1)) + 1)) + 1)))=false:=beq_eq_false_iff_ne.mpr c11
          have P2:(((Ua l0 Ca).f4) != (wrap64 ((wrap64 ((wrap64 (t102 + 1)) + 1)) + 1)))=true:=bne_iff_ne.mpr c11
          obtain rfl:=Option.some.inj H
          have Vd:0 ≤ (Ca:Int):=of_decide_eq_true (by first|(with_reducible assumption)|assumption)
          have Ud:Ca < (l0.length:Int):=of_decide_eq_true (by first|(with_reducible assumption)|assumption)
          obtain ⟨ic,Ri,Qi,Eg,Ob,Vb,Ub,Tb,Cc,Cg,Dg⟩:=Zf Bh.out Ca Vd Ud
          cases Eg
          replace Ob:=(HB.out.cell (World.block_lt_of_cell? w _ Ob)).trans Ob
          replace Vb:=(HB.out.cell (World.block_lt_of_cell? w _ Vb)).trans Vb
          replace Ub:=(HB.out.cell (World.block_lt_of_cell? w _ Ub)).trans Ub
          replace Tb:=(HB.out.cell (World.block_lt_of_cell? w _ Tb)).trans Tb
          replace Cc:=(HB.out.cell (World.block_lt_of_cell? w _ Cc)).trans Cc
          have Mh:=ja.mk Dg
          have Uh:=ja.mk Cg
          clear Dg Cg
          replace Vd:=eq_true Vd
          replace Ud:=eq_true Ud
          go_wp2_with (first|((with_reducible refine xb (f:=103) rfl ?_);refine qd (some 18) rfl rfl Try.func103 (by kernel_rfl) rfl #[.slice Ri ((Ua l0 Ca).f0).length Qi,.int .i64 Gc] rfl (by (try simp only [List.map_toArray,List.map_cons,List.map_nil]);first|done|rfl|(simp only [List.length_drop,List.length_take];rfl)) ?_;(with_reducible refine (Jb.calls k1 _ _ ((Ua l0 Ca).f0) Gc t102 _ ?side1 ?side2 A5.out).mono ?_);(case side1=>repeat (first|exact (Kd.Mb Mh.out HB.out)|(with_reducible refine Kd.Lc ?_ _)|(with_reducible refine Kd.Jc ?_ _)|(with_reducible refine Kd.Ed ?_)));(case side2=>exact Uh.out);rintro e mo ⟨rfl,hb⟩;refine ⟨_,rfl,?_⟩;have Qb:=ja.mk (Na (by repeat (first|(with_reducible first|exact HB.out|apply qa|apply ia|apply ua)|exact HB.out)) hb);clear HB;have HB:=Qb;clear Qb;(try clear hb);(try clear hb2);(try clear hk);(try clear hi);have Tg:0 ≤ (Ca:Int):=of_decide_eq_true (by first|(with_reducible assumption)|assumption);have Sg:Ca < (l0.length:Int):=of_decide_eq_true (by first|(with_reducible assumption)|assumption);obtain ⟨Ef,kD,ZC,Cl,Ad,Yd,Xd,Wd,je,Jj,Lj⟩:=Zf Bh.out Ca Tg Sg;obtain rfl:ic=Ef:=(by injection Cl);replace Ad:=(HB.out.cell (World.block_lt_of_cell? w _ Ad)).trans Ad;replace Yd:=(HB.out.cell (World.block_lt_of_cell? w _ Yd)).trans Yd;replace Xd:=(HB.out.cell (World.block_lt_of_cell? w _ Xd)).trans Xd;replace Wd:=(HB.out.cell (World.block_lt_of_cell? w _ Wd)).trans Wd;replace je:=(HB.out.cell (World.block_lt_of_cell? w _ je)).trans je;have Jy:=ja.mk Lj;have Ly:=ja.mk Jj;clear Lj Jj;replace Tg:=eq_true Tg;replace Sg:=eq_true Sg;have Gh:0 ≤ (Ca:Int):=of_decide_eq_true (by first|(with_reducible assumption)|assumption);have Fh:Ca < (l0.length:Int):=of_decide_eq_true (by first|(with_reducible assumption)|assumption);obtain ⟨Rj,Pz,Fz,rm,ue,Te,Re,Qe,We,Ij,Kj⟩:=Zf Bh.out Ca Gh Fh;obtain rfl:ic=Rj:=(by injection rm);replace ue:=(HB.out.cell (World.block_lt_of_cell? w _ ue)).trans ue;replace Te:=(HB.out.cell (World.block_lt_of_cell? w _ Te)).trans Te;replace Re:=(HB.out.cell (World.block_lt_of_cell? w _ Re)).trans Re;replace Qe:=(HB.out.cell (World.block_lt_of_cell? w _ Qe)).trans Qe;replace We:=(HB.out.cell (World.block_lt_of_cell? w _ We)).trans We;have ow:=ja.mk Kj;have sw:=ja.mk Ij;clear Kj Ij;replace Gh:=eq_true Gh;replace Fh:=eq_true Fh;have Lk:=Option.some.inj (Ad.symm.trans ue);injection Lk with Lk en_ ec_;subst Lk;subst ec_;clear en_;have Zh:0 ≤ (Ca:Int):=of_decide_eq_true (by first|(with_reducible assumption)|assumption);have Yh:Ca < (l0.length:Int):=of_decide_eq_true (by first|(with_reducible assumption)|assumption);obtain ⟨Wh,Cj,yj,Lo,ze,He,Ge,Fe,Ee,wh,xh⟩:=Zf Bh.out Ca Zh Yh;obtain rfl:ic=Wh:=(by injection Lo);replace ze:=(HB.out.cell (World.block_lt_of_cell? w _ ze)).trans ze;replace He:=(HB.out.cell (World.block_lt_of_cell? w _ He)).trans He;replace Ge:=(HB.out.cell (World.block_lt_of_cell? w _ Ge)).trans Ge;replace Fe:=(HB.out.cell (World.block_lt_of_cell? w _ Fe)).trans Fe;replace Ee:=(HB.out.cell (World.block_lt_of_cell? w _ Ee)).trans Ee;have Fm:=ja.mk xh;have fo:=ja.mk wh;clear xh wh;replace Zh:=eq_true Zh;replace Yh:=eq_true Yh;have Lk:=Option.some.inj (Ad.symm.trans ze);injection Lk with Lk en_ ec_;subst Lk;subst ec_;clear en_;have uo:0 ≤ (Ca:Int):=of_decide_eq_true (by first|(with_reducible assumption)|assumption);have oo:Ca < (l0.length:Int):=of_decide_eq_true (by first|(with_reducible assumption)|assumption);obtain ⟨iu,aV,gU,yz,Qg,qh,oh,nh,mh,Hu,Ju⟩:=Zf Bh.out Ca uo oo;obtain rfl:ic=iu:=(by injection yz);replace Qg:=(HB.out.cell (World.block_lt_of_cell? w _ Qg)).trans Qg;replace qh:=(HB.out.cell (World.block_lt_of_cell? w _ qh)).trans qh;replace oh:=(HB.out.cell (World.block_lt_of_cell? w _ oh)).trans oh;replace nh:=(HB.out.cell (World.block_lt_of_cell? w _ nh)).trans nh;replace mh:=(HB.out.cell (World.block_lt_of_cell? w _ mh)).trans mh;have pQ:=ja.mk Ju;have zQ:=ja.mk Hu;clear Ju Hu;replace uo:=eq_true uo;replace oo:=eq_true oo;have Lk:=Option.some.inj (Ad.symm.trans Qg);injection Lk with Lk en_ ec_;subst Lk;subst ec_;clear en_))
          go_ret
          exact ⟨by first|rfl|(simp [La,Ka] <;> rfl)|(simp [*,La,Ka] <;> rfl),by repeat (first|(with_reducible first|exact HB.out|apply qa|apply ia|apply ua)|exact HB.out)⟩
        ·rw [if_neg aq] at H
         have mw:(((Ua l0 Ca).f3) == (wrap64 ((wrap64 (t102 + 1)) + 1)))=false:=beq_eq_false_iff_ne.mpr aq
         have Ez:(((Ua l0 Ca).f3) != (wrap64 ((wrap64 (t102 + 1)) + 1)))=true:=bne_iff_ne.mpr aq
         obtain rfl:=Option.some.inj H
         have Vd:0 ≤ (Ca:Int):=of_decide_eq_true (by first|(with_reducible assumption)|assumption)
         have Ud:Ca < (l0.length:Int):=of_decide_eq_true (by first|(with_reducible assumption)|assumption)
         obtain ⟨ic,Ri,Qi,Eg,Ob,Vb,Ub,Tb,Cc,Cg,Dg⟩:=Zf Bh.out Ca Vd Ud
         cases Eg
         replace Ob:=(HB.out.cell (World.block_lt_of_cell? w _ Ob)).trans Ob
         replace Vb:=(HB.out.cell (World.block_lt_of_cell? w _ Vb)).trans Vb
         replace Ub:=(HB.out.cell (World.block_lt_of_cell? w _ Ub)).trans Ub
         replace Tb:=(HB.out.cell (World.block_lt_of_cell? w _ Tb)).trans Tb
         replace Cc:=(HB.out.cell (World.block_lt_of_cell? w _ Cc)).trans Cc
         have Mh:=ja.mk Dg
         have Uh:=ja.mk Cg
         clear Dg Cg
         replace Vd:=eq_true Vd
         replace Ud:=eq_true Ud
         go_wp2_with (first|((with_reducible refine xb (f:=103) rfl ?_);refine qd (some 18) rfl rfl Try.func103 (by kernel_rfl) rfl #[.slice Ri ((Ua l0 Ca).f0).length Qi,.int .i64 Gc] rfl (by (try simp only [List.map_toArray,List.map_cons,List.map_nil]);first|done|rfl|(simp only [List.length_drop,List.length_take];rfl)) ?_;(with_reducible refine (Jb.calls k1 _ _ ((Ua l0 Ca).f0) Gc t102 _ ?side1 ?side2 A5.out).mono ?_);(case side1=>repeat (first|exact (Kd.Mb Mh.out HB.out)|(with_reducible refine Kd.Lc ?_ _)|(with_reducible refine Kd.Jc ?_ _)|(with_reducible refine Kd.Ed ?_)));(case side2=>exact Uh.out);rintro e rA ⟨rfl,hb⟩;refine ⟨_,rfl,?_⟩;have Qb:=ja.mk (Na (by repeat (first|(with_reducible first|exact HB.out|apply qa|apply ia|apply ua)|exact HB.out)) hb);clear HB;have HB:=Qb;clear Qb;(try clear hb);(try clear hb2);(try clear hk);(try clear hi);have Tg:0 ≤ (Ca:Int):=of_decide_eq_true (by first|(with_reducible assumption)|assumption);have Sg:Ca < (l0.length:Int):=of_decide_eq_true (by first|(with_reducible assumption)|assumption);obtain ⟨Ef,kD,ZC,Cl,Ad,Yd,Xd,Wd,je,Jj,Lj⟩:=Zf Bh.out Ca Tg Sg;obtain rfl:ic=Ef:=(by injection Cl);replace Ad:=(HB.out.cell (World.block_lt_of_cell? w _ Ad)).trans Ad;replace Yd:=(HB.out.cell (World.block_lt_of_cell? w _ Yd)).trans Yd;replace Xd:=(HB.out.cell (World.block_lt_of_cell? w _ Xd)).trans Xd;replace Wd:=(HB.out.cell (World.block_lt_of_cell? w _ Wd)).trans Wd;replace je:=(HB.out.cell (World.block_lt_of_cell? w _ je)).trans je;have Jy:=ja.mk Lj;have Ly:=ja.mk Jj;clear Lj Jj;replace Tg:=eq_true Tg;replace Sg:=eq_true Sg;have Gh:0 ≤ (Ca:Int):=of_decide_eq_true (by first|(with_reducible assumption)|assumption);have Fh:Ca < (l0.length:Int):=of_decide_eq_true (by first|(with_reducible assumption)|assumption);obtain ⟨Rj,Pz,Fz,rm,ue,Te,Re,Qe,We,Ij,Kj⟩:=Zf Bh.out Ca Gh Fh;obtain rfl:ic=Rj:=(by injection rm);replace ue:=(HB.out.cell (World.block_lt_of_cell? w _ ue)).trans ue;replace Te:=(HB.out.cell (World.block_lt_of_cell? w _ Te)).trans Te;replace Re:=(HB.out.cell (World.block_lt_of_cell? w _ Re)).trans Re;replace Qe:=(HB.out.cell (World.block_lt_of_cell? w _ Qe)).trans Qe;replace We:=(HB.out.cell (World.block_lt_of_cell? w _ We)).trans We;have ow:=ja.mk Kj;have sw:=ja.mk Ij;clear Kj Ij;replace Gh:=eq_true Gh;replace Fh:=eq_true Fh;have Lk:=Option.some.inj (Ad.symm.trans ue);injection Lk with Lk en_ ec_;subst Lk;subst ec_;clear en_;have Zh:0 ≤ (Ca:Int):=of_decide_eq_true (by first|(with_reducible assumption)|assumption);have Yh:Ca < (l0.length:Int):=of_decide_eq_true (by first|(with_reducible assumption)|assumption);obtain ⟨Wh,Cj,yj,Lo,ze,He,Ge,Fe,Ee,wh,xh⟩:=Zf Bh.out Ca Zh Yh;obtain rfl:ic=Wh:=(by injection Lo);replace ze:=(HB.out.cell (World.block_lt_of_cell? w _ ze)).trans ze;replace He:=(HB.out.cell (World.block_lt_of_cell? w _ He)).trans He;replace Ge:=(HB.out.cell (World.block_lt_of_cell? w _ Ge)).trans Ge;replace Fe:=(HB.out.cell (World.block_lt_of_cell? w _ Fe)).trans Fe;replace Ee:=(HB.out.cell (World.block_lt_of_cell? w _ Ee)).trans Ee;have Fm:=ja.mk xh;have fo:=ja.mk wh;clear xh wh;replace Zh:=eq_true Zh;replace Yh:=eq_true Yh;have Lk:=Option.some.inj (Ad.symm.trans ze);injection Lk with Lk en_ ec_;subst Lk;subst ec_;clear en_))
         go_ret
         exact ⟨by first|rfl|(simp [La,Ka] <;> rfl)|(simp [*,La,Ka] <;> rfl),by repeat (first|(with_reducible first|exact HB.out|apply qa|apply ia|apply ua)|exact HB.out)⟩
       ·rw [if_neg c9] at H
        have Az:(((Ua l0 Ca).f2) == (wrap64 (t102 + 1)))=false:=beq_eq_false_iff_ne.mpr c9
        have YC:(((Ua l0 Ca).f2) != (wrap64 (t102 + 1)))=true:=bne_iff_ne.mpr c9
        obtain rfl:=Option.some.inj H
        have Vd:0 ≤ (Ca:Int):=of_decide_eq_true (by first|(with_reducible assumption)|assumption)
        have Ud:Ca < (l0.length:Int):=of_decide_eq_true (by first|(with_reducible assumption)|assumption)
        obtain ⟨ic,Ri,Qi,Eg,Ob,Vb,Ub,Tb,Cc,Cg,Dg⟩:=Zf Bh.out Ca Vd Ud
        cases Eg
        replace Ob:=(HB.out.cell (World.block_lt_of_cell? w _ Ob)).trans Ob
        replace Vb:=(HB.out.cell (World.block_lt_of_cell? w _ Vb)).trans Vb
        replace Ub:=(HB.out.cell (World.block_lt_of_cell? w _ Ub)).trans Ub
        replace Tb:=(HB.out.cell (World.block_lt_of_cell? w _ Tb)).trans Tb
        replace Cc:=(HB.out.cell (World.block_lt_of_cell? w _ Cc)).trans Cc
        have Mh:=ja.mk Dg
        have Uh:=ja.mk Cg
        clear Dg Cg
        replace Vd:=eq_true Vd
        replace Ud:=eq_true Ud
        go_wp2_with (first|((with_reducible refine xb (f:=103) rfl ?_);refine qd (some 18) rfl rfl Try.func103 (by kernel_rfl) rfl #[.slice Ri ((Ua l0 Ca).f0).length Qi,.int .i64 Gc] rfl (by (try simp only [List.map_toArray,List.map_cons,List.map_nil]);first|done|rfl|(simp only [List.length_drop,List.length_take];rfl)) ?_;(with_reducible refine (Jb.calls k1 _ _ ((Ua l0 Ca).f0) Gc t102 _ ?side1 ?side2 A5.out).mono ?_);(case side1=>repeat (first|exact (Kd.Mb Mh.out HB.out)|(with_reducible refine Kd.Lc ?_ _)|(with_reducible refine Kd.Jc ?_ _)|(with_reducible refine Kd.Ed ?_)));(case side2=>exact Uh.out);rintro e Fl ⟨rfl,hb⟩;refine ⟨_,rfl,?_⟩;have Qb:=ja.mk (Na (by repeat (first|(with_reducible first|exact HB.out|apply qa|apply ia|apply ua)|exact HB.out)) hb);clear HB;have HB:=Qb;clear Qb;(try clear hb);(try clear hb2);(try clear hk);(try clear hi);have Tg:0 ≤ (Ca:Int):=of_decide_eq_true (by first|(with_reducible assumption)|assumption);have Sg:Ca < (l0.length:Int):=of_decide_eq_true (by first|(with_reducible assumption)|assumption);obtain ⟨Ef,kD,ZC,Cl,Ad,Yd,Xd,Wd,je,Jj,Lj⟩:=Zf Bh.out Ca Tg Sg;obtain rfl:ic=Ef:=(by injection Cl);replace Ad:=(HB.out.cell (World.block_lt_of_cell? w _ Ad)).trans Ad;replace Yd:=(HB.out.cell (World.block_lt_of_cell? w _ Yd)).trans Yd;replace Xd:=(HB.out.cell (World.block_lt_of_cell? w _ Xd)).trans Xd;replace Wd:=(HB.out.cell (World.block_lt_of_cell? w _ Wd)).trans Wd;replace je:=(HB.out.cell (World.block_lt_of_cell? w _ je)).trans je;have Jy:=ja.mk Lj;have Ly:=ja.mk Jj;clear Lj Jj;replace Tg:=eq_true Tg;replace Sg:=eq_true Sg;have Gh:0 ≤ (Ca:Int):=of_decide_eq_true (by first|(with_reducible assumption)|assumption);have Fh:Ca < (l0.length:Int):=of_decide_eq_true (by first|(with_reducible assumption)|assumption);obtain ⟨Rj,Pz,Fz,rm,ue,Te,Re,Qe,We,Ij,Kj⟩:=Zf Bh.out Ca Gh Fh;obtain rfl:ic=Rj:=(by injection rm);replace ue:=(HB.out.cell (World.block_lt_of_cell? w _ ue)).trans ue;replace Te:=(HB.out.cell (World.block_lt_of_cell? w _ Te)).trans Te;replace Re:=(HB.out.cell (World.block_lt_of_cell? w _ Re)).trans Re;replace Qe:=(HB.out.cell (World.block_lt_of_cell? w _ Qe)).trans Qe;replace We:=(HB.out.cell (World.block_lt_of_cell? w _ We)).trans We;have ow:=ja.mk Kj;have sw:=ja.mk Ij;clear Kj Ij;replace Gh:=eq_true Gh;replace Fh:=eq_true Fh;have Lk:=Option.some.inj (Ad.symm.trans ue);injection Lk with Lk en_ ec_;subst Lk;subst ec_;clear en_))
        go_ret
        exact ⟨by first|rfl|(simp [La,Ka] <;> rfl)|(simp [*,La,Ka] <;> rfl),by repeat (first|(with_reducible first|exact HB.out|apply qa|apply ia|apply ua)|exact HB.out)⟩
      ·rw [if_neg c8] at H
       have Yl:(((Ua l0 Ca).f1) == t102)=false:=beq_eq_false_iff_ne.mpr c8
       have sq:(((Ua l0 Ca).f1) != t102)=true:=bne_iff_ne.mpr c8
       obtain rfl:=Option.some.inj H
       have Vd:0 ≤ (Ca:Int):=of_decide_eq_true (by first|(with_reducible assumption)|assumption)
       have Ud:Ca < (l0.length:Int):=of_decide_eq_true (by first|(with_reducible assumption)|assumption)
       obtain ⟨ic,Ri,Qi,Eg,Ob,Vb,Ub,Tb,Cc,Cg,Dg⟩:=Zf Bh.out Ca Vd Ud
       cases Eg
       replace Ob:=(HB.out.cell (World.block_lt_of_cell? w _ Ob)).trans Ob
       replace Vb:=(HB.out.cell (World.block_lt_of_cell? w _ Vb)).trans Vb
       replace Ub:=(HB.out.cell (World.block_lt_of_cell? w _ Ub)).trans Ub
       replace Tb:=(HB.out.cell (World.block_lt_of_cell? w _ Tb)).trans Tb
       replace Cc:=(HB.out.cell (World.block_lt_of_cell? w _ Cc)).trans Cc
       have Mh:=ja.mk Dg
       have Uh:=ja.mk Cg
       clear Dg Cg
       replace Vd:=eq_true Vd
       replace Ud:=eq_true Ud
       go_wp2_with (first|((with_reducible refine xb (f:=103) rfl ?_);refine qd (some 18) rfl rfl Try.func103 (by kernel_rfl) rfl #[.slice Ri ((Ua l0 Ca).f0).length Qi,.int .i64 Gc] rfl (by (try simp only [List.map_toArray,List.map_cons,List.map_nil]);first|done|rfl|(simp only [List.length_drop,List.length_take];rfl)) ?_;(with_reducible refine (Jb.calls k1 _ _ ((Ua l0 Ca).f0) Gc t102 _ ?side1 ?side2 A5.out).mono ?_);(case side1=>repeat (first|exact (Kd.Mb Mh.out HB.out)|(with_reducible refine Kd.Lc ?_ _)|(with_reducible refine Kd.Jc ?_ _)|(with_reducible refine Kd.Ed ?_)));(case side2=>exact Uh.out);rintro e Xz ⟨rfl,hb⟩;refine ⟨_,rfl,?_⟩;have Qb:=ja.mk (Na (by repeat (first|(with_reducible first|exact HB.out|apply qa|apply ia|apply ua)|exact HB.out)) hb);clear HB;have HB:=Qb;clear Qb;(try clear hb);(try clear hb2);(try clear hk);(try clear hi);have Tg:0 ≤ (Ca:Int):=of_decide_eq_true (by first|(with_reducible assumption)|assumption);have Sg:Ca < (l0.length:Int):=of_decide_eq_true (by first|(with_reducible assumption)|assumption);obtain ⟨Ef,kD,ZC,Cl,Ad,Yd,Xd,Wd,je,Jj,Lj⟩:=Zf Bh.out Ca Tg Sg;obtain rfl:ic=Ef:=(by injection Cl);replace Ad:=(HB.out.cell (World.block_lt_of_cell? w _ Ad)).trans Ad;replace Yd:=(HB.out.cell (World.block_lt_of_cell? w _ Yd)).trans Yd;replace Xd:=(HB.out.cell (World.block_lt_of_cell? w _ Xd)).trans Xd;replace Wd:=(HB.out.cell (World.block_lt_of_cell? w _ Wd)).trans Wd;replace je:=(HB.out.cell (World.block_lt_of_cell? w _ je)).trans je;have Jy:=ja.mk Lj;have Ly:=ja.mk Jj;clear Lj Jj;replace Tg:=eq_true Tg;replace Sg:=eq_true Sg))
       go_ret
       exact ⟨by first|rfl|(simp [La,Ka] <;> rfl)|(simp [*,La,Ka] <;> rfl),by repeat (first|(with_reducible first|exact HB.out|apply qa|apply ia|apply ua)|exact HB.out)⟩
    ·rw [if_neg c4] at H
     exact absurd H (by simp)
   ·rw [if_neg c3] at H
    have Jh:decide (Ca < (l0.length:Int))=false:=decide_eq_false c3
    clear c3
    obtain rfl:=Option.some.inj H
    go_wp2
    go_ret
    exact ⟨by first|rfl|(simp [La,Ka] <;> rfl)|(simp [*,La,Ka] <;> rfl),by repeat (first|(with_reducible first|exact HB.out|apply qa|apply ia|apply ua)|exact HB.out)⟩
def Nh.f (k:Nat) (Ta:List Int) (Pa:Int) (Oa:Int) (Ma:Int) (Ra:List (Dh)) (a1:Int):Option (Int):=(xd.f k Ta a1).bind fun t102=>(if t102 < 0 then (some (-1)) else ((Ic.f k Ra t102).bind fun t103=>(if t103 < 0 then (some (-1)) else (some t103))))
theorem Nh.mono:∀ a0 a1 a2 a3 a4 a5 k,Nb (Nh.f k a0 a1 a2 a3 a4 a5) (Nh.f (k + 1) a0 a1 a2 a3 a4 a5):=by
 intro a0 a1 a2 a3 a4 a5 k
 unfold Nh.f
 repeat' first
   | (with_reducible exact Ic.mono _ _ _)
   | (with_reducible exact xd.mono _ _ _)
   | (with_reducible exact Nb.refl _)
   | (with_reducible exact Nb.none _)
   | (with_reducible refine Nb.ite ?_ ?_)
   | (with_reducible refine Nb.bind ?_ (fun _=>?_))
   | exact Ic.mono _ _ _
   | exact xd.mono _ _ _
   | exact Nb.none _
   | refine Nb.ite ?_ ?_
   | refine Nb.bind ?_ (fun _=>?_)
theorem Nh.calls (k:Nat) (Eb:Option Addr) (Db:Nat) (Ta:List Int) (Pa:Int) (Oa:Int) (Ma:Int) (yc:Option Addr) (Zb:Nat) (Ra:List (Dh)) (a1:Int) (r:Int) (w:World) (Kf:Kd.C (Kd.int .i64) w Eb Ta.length Ta) (Gf:Ta.length ≤ Db) (Bg:Kd.C Tp w yc Ra.length Ra) (Jg:Ra.length ≤ Zb) (h:Nh.f k Ta Pa Oa Ma Ra a1=some r) :
  Calls Try.prog 29 #[.agg #[.slice Eb Ta.length Db,.int .i64 Pa,.int .i64 Oa,.int .i64 Ma,.slice yc Ra.length Zb],.int .i64 a1] w fun e w'=>e = .returned (.int .i64 r)∧Below w.heap.size w w':=by
 have vB:=Try.underlying30
 have Uf:=ja.mk Kf
 have ig:=ja.mk Gf
 clear Kf Gf
 have Zg:=ja.mk Bg
 have Li:=ja.mk Jg
 clear Bg Jg
 have HB:=ja.mk (Below.refl w.heap.size w)
 have H:((xd.f k Ta a1).bind fun t102=>(if t102 < 0 then (some (-1)) else ((Ic.f k Ra t102).bind fun t103=>(if t103 < 0 then (some (-1)) else (some t103)))))=some r:=h
 clear h
 replace H:=Option.bind_eq_some_iff.mp H
 obtain ⟨t102,tw,H⟩:=H
 replace H:(if t102 < 0 then (some (-1)) else ((Ic.f k Ra t102).bind fun t103=>(if t103 < 0 then (some (-1)) else (some t103))))=some r:=H
 have A3:=ja.mk tw
 clear tw
 by_cases c4:t102 < 0
 ·rw [if_pos c4] at H
  have si:decide (t102 < 0)=true:=decide_eq_true c4
  clear c4
  obtain rfl:=Option.some.inj H
  go_enter Try.func29,Try.ntmps29
  go_wp2_with (first|((with_reducible refine Pb (N:=2) rfl ?_);refine Kb ?hg (N:=2) ?hd (cs:=#[.slice Eb Ta.length Db,.int .i64 Pa,.int .i64 Oa,.int .i64 Ma,.slice yc Ra.length Zb]) (t:=30) ?hr ?_;(case hd=>rfl);(case hg=>rfl);(case hr=>first|(go_simp;done)|(go_simp;rfl));intro Da hg w5 Yb hb;have Qb:=ja.mk (Na (by repeat (first|(with_reducible first|exact HB.out|apply qa|apply ia|apply ua)|exact HB.out)) hb);have uc:=ja.mk (Yb);have Qc:=ja.mk ((by rw [hg];exact (Qa (by repeat (first|(with_reducible first|exact HB.out|apply qa|apply ia|apply ua)|exact HB.out))):w.heap.size ≤ Da));have Td:=ja.mk ((by rw [hg];exact (Qa (by repeat (first|(with_reducible first|exact HB.out|apply qa|apply ia|apply ua)|exact HB.out))):w.heap.size ≤ Da));clear HB;have HB:=Qb;have za:=uc;have Vf:=Qc;have Wa:=Td;clear Qb uc Qc Td hb Yb hg;have JL:w5.cell? ⟨Da,0,none⟩=some (.slice Eb Ta.length Db):=(ga za.out 0).trans rfl;have IL:w5.cell? ⟨Da,1,none⟩=some (.int .i64 Pa):=(ga za.out 1).trans rfl;have HL:w5.cell? ⟨Da,2,none⟩=some (.int .i64 Oa):=(ga za.out 2).trans rfl;have GL:w5.cell? ⟨Da,3,none⟩=some (.int .i64 Ma):=(ga za.out 3).trans rfl;have FL:w5.cell? ⟨Da,4,none⟩=some (.slice yc Ra.length Zb):=(ga za.out 4).trans rfl;have wL:=aa za.out 0;have vL:=aa za.out 1;have uL:=aa za.out 2;have tL:=aa za.out 3;have sL:=aa za.out 4)|((with_reducible refine xb (f:=23) rfl ?_);refine qd (some 8) rfl rfl Try.func23 (by kernel_rfl) rfl #[.slice Eb Ta.length Db,.int .i64 a1] rfl (by (try simp only [List.map_toArray,List.map_cons,List.map_nil]);first|done|rfl|(simp only [List.length_drop,List.length_take];rfl)) ?_;(with_reducible refine (xd.calls k _ _ Ta a1 t102 _ ?side1 ?side2 A3.out).mono ?_);(case side1=>repeat (first|exact (Kd.Mb Uf.out HB.out)|(with_reducible refine Kd.Lc ?_ _)|(with_reducible refine Kd.Jc ?_ _)|(with_reducible refine Kd.Ed ?_)));(case side2=>exact ig.out);rintro e w' ⟨rfl,⟨nd,rfl⟩⟩;refine ⟨_,rfl,?_⟩))
  go_ret
  exact ⟨by first|rfl|(simp [La,Ka] <;> rfl)|(simp [*,La,Ka] <;> rfl),by repeat (first|(with_reducible first|exact HB.out|apply qa|apply ia|apply ua|refine Aa ?_ Wa.out)|exact HB.out)⟩
 ·rw [if_neg c4] at H
  have si:decide (t102 < 0)=false:=decide_eq_false c4
  clear c4
  replace H:=Option.bind_eq_some_iff.mp H
  obtain ⟨t103,Gx,H⟩:=H
  replace H:(if t103 < 0 then (some (-1)) else (some t103))=some r:=H
  have A7:=ja.mk Gx
  clear Gx
  by_cases c8:t103 < 0
  ·rw [if_pos c8] at H
   have Yl:decide (t103 < 0)=true:=decide_eq_true c8
   clear c8
   obtain rfl:=Option.some.inj H
   go_enter Try.func29,Try.ntmps29
   go_wp2_with (first|((with_reducible refine Pb (N:=2) rfl ?_);refine Kb ?hg (N:=2) ?hd (cs:=#[.slice Eb Ta.length Db,.int .i64 Pa,.int .i64 Oa,.int .i64 Ma,.slice yc Ra.length Zb]) (t:=30) ?hr ?_;(case hd=>rfl);(case hg=>rfl);(case hr=>first|(go_simp;done)|(go_simp;rfl));intro Da hg w9 Yb hb;have Qb:=ja.mk (Na (by repeat (first|(with_reducible first|exact HB.out|apply qa|apply ia|apply ua)|exact HB.out)) hb);have uc:=ja.mk (Yb);have Qc:=ja.mk ((by rw [hg];exact (Qa (by repeat (first|(with_reducible first|exact HB.out|apply qa|apply ia|apply ua)|exact HB.out))):w.heap.size ≤ Da));have Td:=ja.mk ((by rw [hg];exact (Qa (by repeat (first|(with_reducible first|exact HB.out|apply qa|apply ia|apply ua)|exact HB.out))):w.heap.size ≤ Da));clear HB;have HB:=Qb;have za:=uc;have Vf:=Qc;have Wa:=Td;clear Qb uc Qc Td hb Yb hg;have Ak:w9.cell? ⟨Da,0,none⟩=some (.slice Eb Ta.length Db):=(ga za.out 0).trans rfl;have zk:w9.cell? ⟨Da,1,none⟩=some (.int .i64 Pa):=(ga za.out 1).trans rfl;have xk:w9.cell? ⟨Da,2,none⟩=some (.int .i64 Oa):=(ga za.out 2).trans rfl;have wk:w9.cell? ⟨Da,3,none⟩=some (.int .i64 Ma):=(ga za.out 3).trans rfl;have jl:w9.cell? ⟨Da,4,none⟩=some (.slice yc Ra.length Zb):=(ga za.out 4).trans rfl;have vk:=aa za.out 0;have uk:=aa za.out 1;have qk:=aa za.out 2;have nk:=aa za.out 3;have Wk:=aa za.out 4)|((with_reducible refine xb (f:=23) rfl ?_);refine qd (some 8) rfl rfl Try.func23 (by kernel_rfl) rfl #[.slice Eb Ta.length Db,.int .i64 a1] rfl (by (try simp only [List.map_toArray,List.map_cons,List.map_nil]);first|done|rfl|(simp only [List.length_drop,List.length_take];rfl)) ?_;(with_reducible refine (xd.calls k _ _ Ta a1 t102 _ ?side1 ?side2 A3.out).mono ?_);(case side1=>repeat (first|exact (Kd.Mb Uf.out HB.out)|(with_reducible refine Kd.Lc ?_ _)|(with_reducible refine Kd.Jc ?_ _)|(with_reducible refine Kd.Ed ?_)));(case side2=>exact ig.out);rintro e w' ⟨rfl,⟨nd,rfl⟩⟩;refine ⟨_,rfl,?_⟩)|((with_reducible refine xb (f:=69) rfl ?_);refine qd (some 14) rfl rfl Try.func69 (by kernel_rfl) rfl #[.slice yc Ra.length Zb,.int .i64 t102] rfl (by (try simp only [List.map_toArray,List.map_cons,List.map_nil]);first|done|rfl|(simp only [List.length_drop,List.length_take];rfl)) ?_;(with_reducible refine (Ic.calls k _ _ Ra t102 t103 _ ?side1 ?side2 A7.out).mono ?_);(case side1=>repeat (first|exact (Kd.Mb Zg.out (by repeat (first|(with_reducible first|exact HB.out|apply qa|apply ia|apply ua|refine Aa ?_ Wa.out)|exact HB.out)))|(with_reducible refine Kd.Lc ?_ _)|(with_reducible refine Kd.Jc ?_ _)|(with_reducible refine Kd.Ed ?_)));(case side2=>exact Li.out);rintro e Ei ⟨rfl,hb⟩;refine ⟨_,rfl,?_⟩;have Qb:=ja.mk (Ya (g:=Da) (o:=.cells #[.slice Eb Ta.length Db,.int .i64 Pa,.int .i64 Oa,.int .i64 Ma,.slice yc Ra.length Zb] 30 (0,0)) (by (with_reducible repeat (first|refine Ga ?_ _|refine Ia ?_|refine Fa ?_ _));exact za.out) hb);have uc:=ja.mk (Na (by repeat (first|(with_reducible first|exact HB.out|apply qa|apply ia|apply ua|refine Aa ?_ Wa.out)|exact HB.out)) hb);clear za HB;have za:=Qb;have HB:=uc;clear Qb uc;(try clear hb);(try clear hb2);(try clear hk);(try clear hi)))
   go_ret
   exact ⟨by first|rfl|(simp [La,Ka] <;> rfl)|(simp [*,La,Ka] <;> rfl),by repeat (first|(with_reducible first|exact HB.out|apply qa|apply ia|apply ua|refine Aa ?_ Wa.out)|exact HB.out)⟩
  ·rw [if_neg c8] at H
   have Yl:decide (t103 < 0)=false:=decide_eq_false c8
   clear c8
   obtain rfl:=Option.some.inj H
   go_enter Try.func29,Try.ntmps29
   go_wp2_with (first|((with_reducible refine Pb (N:=2) rfl ?_);refine Kb ?hg (N:=2) ?hd (cs:=#[.slice Eb Ta.length Db,.int .i64 Pa,.int .i64 Oa,.int .i64 Ma,.slice yc Ra.length Zb]) (t:=30) ?hr ?_;(case hd=>rfl);(case hg=>rfl);(case hr=>first|(go_simp;done)|(go_simp;rfl));intro Da hg sA Yb hb;have Qb:=ja.mk (Na (by repeat (first|(with_reducible first|exact HB.out|apply qa|apply ia|apply ua)|exact HB.out)) hb);have uc:=ja.mk (Yb);have Qc:=ja.mk ((by rw [hg];exact (Qa (by repeat (first|(with_reducible first|exact HB.out|apply qa|apply ia|apply ua)|exact HB.out))):w.heap.size ≤ Da));have Td:=ja.mk ((by rw [hg];exact (Qa (by repeat (first|(with_reducible first|exact HB.out|apply qa|apply ia|apply ua)|exact HB.out))):w.heap.size ≤ Da));clear HB;have HB:=Qb;have za:=uc;have Vf:=Qc;have Wa:=Td;clear Qb uc Qc Td hb Yb hg;have Qj:sA.cell? ⟨Da,0,none⟩=some (.slice Eb Ta.length Db):=(ga za.out 0).trans rfl;have Pj:sA.cell? ⟨Da,1,none⟩=some (.int .i64 Pa):=(ga za.out 1).trans rfl;have Xn:sA.cell? ⟨Da,2,none⟩=some (.int .i64 Oa):=(ga za.out 2).trans rfl;have Wn:sA.cell? ⟨Da,3,none⟩=some (.int .i64 Ma):=(ga za.out 3).trans rfl;have Vn:sA.cell? ⟨Da,4,none⟩=some (.slice yc Ra.length Zb):=(ga za.out 4).trans rfl;have Oj:=aa za.out 0;have Mj:=aa za.out 1;have Sn:=aa za.out 2;have Rn:=aa za.out 3;have Qn:=aa za.out 4)|((with_reducible refine xb (f:=23) rfl ?_);refine qd (some 8) rfl rfl Try.func23 (by kernel_rfl) rfl #[.slice Eb Ta.length Db,.int .i64 a1] rfl (by (try simp only [List.map_toArray,List.map_cons,List.map_nil]);first|done|rfl|(simp only [List.length_drop,List.length_take];rfl)) ?_;(with_reducible refine (xd.calls k _ _ Ta a1 t102 _ ?side1 ?side2 A3.out).mono ?_);(case side1=>repeat (first|exact (Kd.Mb Uf.out HB.out)|(with_reducible refine Kd.Lc ?_ _)|(with_reducible refine Kd.Jc ?_ _)|(with_reducible refine Kd.Ed ?_)));(case side2=>exact ig.out);rintro e w' ⟨rfl,⟨nd,rfl⟩⟩;refine ⟨_,rfl,?_⟩)|((with_reducible refine xb (f:=69) rfl ?_);refine qd (some 14) rfl rfl Try.func69 (by kernel_rfl) rfl #[.slice yc Ra.length Zb,.int .i64 t102] rfl (by (try simp only [List.map_toArray,List.map_cons,List.map_nil]);first|done|rfl|(simp only [List.length_drop,List.length_take];rfl)) ?_;(with_reducible refine (Ic.calls k _ _ Ra t102 t103 _ ?side1 ?side2 A7.out).mono ?_);(case side1=>repeat (first|exact (Kd.Mb Zg.out (by repeat (first|(with_reducible first|exact HB.out|apply qa|apply ia|apply ua|refine Aa ?_ Wa.out)|exact HB.out)))|(with_reducible refine Kd.Lc ?_ _)|(with_reducible refine Kd.Jc ?_ _)|(with_reducible refine Kd.Ed ?_)));(case side2=>exact Li.out);rintro e rA ⟨rfl,hb⟩;refine ⟨_,rfl,?_⟩;have Qb:=ja.mk (Ya (g:=Da) (o:=.cells #[.slice Eb Ta.length Db,.int .i64 Pa,.int .i64 Oa,.int .i64 Ma,.slice yc Ra.length Zb] 30 (0,0)) (by (with_reducible repeat (first|refine Ga ?_ _|refine Ia ?_|refine Fa ?_ _));exact za.out) hb);have uc:=ja.mk (Na (by repeat (first|(with_reducible first|exact HB.out|apply qa|apply ia|apply ua|refine Aa ?_ Wa.out)|exact HB.out)) hb);clear za HB;have za:=Qb;have HB:=uc;clear Qb uc;(try clear hb);(try clear hb2);(try clear hk);(try clear hi)))
   go_ret
   exact ⟨by first|rfl|(simp [La,Ka] <;> rfl)|(simp [*,La,Ka] <;> rfl),by repeat (first|(with_reducible first|exact HB.out|apply qa|apply ia|apply ua|refine Aa ?_ Wa.out)|exact HB.out)⟩
theorem ZD (l:List Int) (m:Int) (hm:0 ≤ m) (hl:m + l.length ≤ 4611686018427387904):Ev (fun k=>Md.f k l m) (m + l.length,iota m l.length):=by
 have key:=ni (r:=(m + (l.length:Int),iota m l.length)) (n:=l.length) (fun i=>Ev (fun k=>Md.l0 k ((iota m l.length).take i ++ l.drop i) (m + i) (i:Int)) (m + (l.length:Int),iota m l.length)) ?_ ?_ 0 (by omega)
 ·refine Ev.congr (fun k=>?_) key
  unfold Md.f
  simp
 ·refine Ev.step (fun k=>by rw [Md.l0]) ?_
  refine Ev.neg (by simp [Xj]) ?_
  rw [List.drop_length,List.append_nil,List.take_of_length_le (by rw [Xj];omega)]
  exact Ev.now _
 ·intro i hi h
  refine Ev.step (fun k=>by rw [Md.l0]) ?_
  refine Ev.pos (by simp [Xj];omega) (Ev.pos (by omega) ?_)
  have h1:m + (i:Int)=(iota m l.length).getD i 0:=(zA hi).symm
  rw [bg hi (by omega),ag (by omega) (by omega),Int.toNat_natCast]
  rw [show ((iota m l.length).take i ++ l.drop i).set i (m + (i:Int))=(iota m l.length).take (i + 1) ++ l.drop (i + 1) from by rw [h1];exact Ty (by rw [Xj]) (by rw [Xj];exact hi)]
  rw [show m + (i:Int) + 1=m + ((i + 1:Nat):Int) from by omega]
  exact h
theorem fE (m:Int) (n:Nat) (hm:0 ≤ m) (hl:m + n ≤ 4611686018427387904):Ev (fun k=>xd.f k (iota m n) m) (m + n):=by
 have key:=ni (r:=m + (n:Int)) (n:=n) (fun i=>Ev (fun k=>xd.l0 k (iota m n) (m + i) (i:Int)) (m + (n:Int))) ?_ ?_ 0 (by omega)
 ·refine Ev.congr (fun k=>?_) key
  unfold xd.f
  simp
 ·refine Ev.step (fun k=>by rw [xd.l0]) ?_
  exact Ev.neg (by rw [Xj];omega) (Ev.now _)
 ·intro i hi h
  refine Ev.step (fun k=>by rw [xd.l0]) ?_
  refine Ev.pos (by rw [Xj];omega) (Ev.pos (by omega) (Ev.pos (by rw [yK,zA hi]) ?_))
  rw [bg hi (by omega),ag (by omega) (by omega)]
  rw [show m + (i:Int) + 1=m + ((i + 1:Nat):Int) from by omega]
  exact h
end Go.Proofs.Ytmifdccaajngcaa.P
end
