import Derived.Test.YtmifdccaajngcaaQKnown1
import Derived.Test.YtmifdccaajngcaaQKnown8
import Derived.Test.YtmifdccaajngcaaQKnown7
import Derived.Test.YtmifdccaajngcaaQKnown9
import Derived.Test.YtmifdccaajngcaaQKnown6
import Derived.Test.YtmifdccaajngcaaQKnown4
import Derived.Test.YtmifdccaajngcaaQKnown5
import Derived.Test.YtmifdccaajngcaaQKnown3
section
namespace Go.Proofs.Ytmifdccaajngcaa.P
open Go.RowKit Go.Proofs.Na.mc Go.Proofs.Na.jf Go.Proofs.Na.xg
set_option linter.unusedVariables false
set_option linter.unusedSimpArgs false
theorem Uf (a b c:Int):Ev (fun _=>Za.f a b c) (Qj a b c):=Ev.here (CJ a b c)
theorem kU (t:ByteArray):Ev (fun k=>Ad.f k ([(⟨#[61,61]⟩:ByteArray),(⟨#[60]⟩:ByteArray),(⟨#[38]⟩:ByteArray),(⟨#[43]⟩:ByteArray),(⟨#[45]⟩:ByteArray),(⟨#[42]⟩:ByteArray)]:List ByteArray) t) (Us t):=by
 refine ⟨8,fun k hk=>?_⟩
 obtain ⟨m,rfl⟩:∃ m,k=m + 8:=⟨k - 8,by omega⟩
 unfold Ad.f Us iD
 simp only [Ad.l0,List.any_cons,List.any_nil]
 by_cases h0:t.toList=[61,61]
 ·simp [Jk,h0]
 by_cases h1:t.toList=[60]
 ·simp [Jk,h1,wrap64]
 by_cases h2:t.toList=[38]
 ·simp [Jk,h2,wrap64]
 by_cases h3:t.toList=[43]
 ·simp [Jk,h3,wrap64]
 by_cases h4:t.toList=[45]
 ·simp [Jk,h4,wrap64]
 by_cases h5:t.toList=[42]
 ·simp [Jk,h5,wrap64]
 simp [Jk,Ne.symm h0,Ne.symm h1,Ne.symm h2,Ne.symm h3,Ne.symm h4,Ne.symm h5,h0,h1,h2,h3,h4,h5,wrap64]
theorem zD (s d:Int):Qj d 0 (s - 1)=Pj s d:=by
 unfold Qj Pj
 rw [Bool.eq_iff_iff]
 simp
 omega
def Yz (D A B C M:Bool) (o d a b n:Int) (t:ByteArray):Bool :=
 if o=0 then D && (a == 0 && b == 0)
 else if o=1 then D && (A && (b == 0 && n == 0))
 else if o=2 then D && (A && (B && (n == 0 && Us t)))
 else if o=3 then D && M
 else if o=4 then d == 0 && (M && C)
 else if o=5 then D && (a == 0 && (b == 0 && n == 0))
 else if o=6 then d == 0 && (A && (b == 0 && n == 0))
 else false
theorem Ev.and {b:Bool} {f:Nat→Option Bool} {r:Bool} (hf:b=true→Ev f r):Ev (fun n=>if b=true then f n else some false) (b && r):=by
 cases b with
 | true=>exact Ev.pos rfl (hf rfl)
 | false=>exact Ev.neg (by simp) (Ev.now _)
theorem Ev.oz {c:Prop} [Decidable c] {f:Nat→Option Bool} {r:Bool} (hf:c→Ev f r):Ev (fun n=>if c then f n else some false) (decide c && r):=by
 by_cases h:c
 ·rw [decide_eq_true h]
  exact Ev.pos h (hf h)
 ·rw [decide_eq_false h]
  exact Ev.neg h (Ev.now _)
section
variable {l0:List Int} {p v s:Int} {l4:List gh} {o d a b c n:Int} {t:ByteArray}
theorem xC (D A B M:Bool) (x:Bool) (hs:0 ≤ s) (hs':s ≤ 1000):Ev (fun k=>Ya.j1 k D A B M x l0 p v s l4 o d a b c n t) (!x && Yz D A B (Pj s c) M o d a b n t):=by
 refine Ev.step (fun k=>by rw [Ya.j1]) ?_
 cases x with
 | true=>exact Ev.pos rfl (Ev.now _)
 | false =>
  refine Ev.neg (by simp) ?_
  rw [Bool.not_false,Bool.true_and]
  unfold Yz
  by_cases h0:o=0
  ·rw [if_pos h0]
   exact Ev.pos h0 (Ev.and fun _=>Ev.oz fun _=>Ev.now _)
  rw [if_neg h0]
  refine Ev.neg h0 ?_
  by_cases h1:o=1
  ·rw [if_pos h1]
   exact Ev.pos h1 (Ev.and fun _=>Ev.and fun _=>Ev.oz fun _=>Ev.now _)
  rw [if_neg h1]
  refine Ev.neg h1 ?_
  by_cases h2:o=2
  ·rw [if_pos h2]
   exact Ev.pos h2 (Ev.and fun _=>Ev.and fun _=>Ev.and fun _=>Ev.oz fun _=>Ev.bind (kU t) (Ev.now _))
  rw [if_neg h2]
  refine Ev.neg h2 ?_
  by_cases h3:o=3
  ·rw [if_pos h3,if_pos h3]
   exact (Ev.and fun _=>Ev.now _)
  rw [if_neg h3,if_neg h3]
  by_cases h4:o=4
  ·rw [if_pos h4,if_pos h4]
   refine (Ev.oz fun _=>Ev.and fun _=>?_)
   rw [Ig (x:=s - 1) (by omega) (by omega),← zD]
   exact Ev.bind (Uf _ _ _) (Ev.now _)
  rw [if_neg h4,if_neg h4]
  by_cases h5:o=5
  ·rw [if_pos h5,if_pos h5]
   exact (Ev.and fun _=>Ev.oz fun _=>Ev.oz fun _=>Ev.now _)
  rw [if_neg h5,if_neg h5]
  by_cases h6:o=6
  ·rw [if_pos h6,if_pos h6]
   exact (Ev.oz fun _=>Ev.and fun _=>Ev.oz fun _=>Ev.now _)
  rw [if_neg h6,if_neg h6]
  exact Ev.now _
theorem Zl (M:Bool) (hM:M=((Pj s a || a == -1) && (Pj s b && Qj n 0 ((l0.length:Int) - 1)))) (hs:0 ≤ s) (hs':s ≤ 1000):Ev (fun k=>Ya.j0 k (Pj s d) (Pj s a) (Pj s b) M l0 p v s l4 o d a b c n t) (fk l0.length s o d a b c n t):=by
 refine Ev.step (fun k=>by rw [Ya.j0]) ?_
 have key:∀ x:Bool,(x=if o=2 then (c != 0) else if t.toList=[] then (if o=4 then false else (c != 0)) else true)→Ev (fun k=>Ya.j1 k (Pj s d) (Pj s a) (Pj s b) M x l0 p v s l4 o d a b c n t) (fk l0.length s o d a b c n t):=by
  intro x hx
  have e:fk l0.length s o d a b c n t=(!x && Yz (Pj s d) (Pj s a) (Pj s b) (Pj s c) M o d a b n t):=by
   subst hM
   subst hx
   unfold fk Yz
   by_cases h0:o=0
   ·subst h0
    rw [Bool.eq_iff_iff]
    by_cases ht:t.toList=[] <;> simp [ht]
    all_goals (constructor <;> intro h <;> simp_all)
   by_cases h1:o=1
   ·subst h1
    rw [Bool.eq_iff_iff]
    by_cases ht:t.toList=[] <;> simp [ht]
    all_goals (constructor <;> intro h <;> simp_all)
   by_cases h2:o=2
   ·subst h2
    rw [Bool.eq_iff_iff]
    simp
    constructor <;> intro h <;> simp_all
   by_cases h3:o=3
   ·subst h3
    rw [Bool.eq_iff_iff]
    by_cases ht:t.toList=[] <;> simp [ht]
    all_goals (constructor <;> intro h <;> simp_all)
   by_cases h4:o=4
   ·subst h4
    rw [Bool.eq_iff_iff]
    by_cases ht:t.toList=[] <;> simp [ht]
    all_goals (constructor <;> intro h <;> simp_all)
   by_cases h5:o=5
   ·subst h5
    rw [Bool.eq_iff_iff]
    by_cases ht:t.toList=[] <;> simp [ht]
    all_goals (constructor <;> intro h <;> simp_all)
   by_cases h6:o=6
   ·subst h6
    rw [Bool.eq_iff_iff]
    by_cases ht:t.toList=[] <;> simp [ht]
    all_goals (constructor <;> intro h <;> simp_all)
   simp [h0,h1,h2,h3,h4,h5,h6]
  rw [e]
  exact xC _ _ _ _ _ hs hs'
 by_cases h2:o=2
 ·exact Ev.pos h2 (Ev.neg (by omega) (key _ (by rw [if_pos h2])))
 ·refine Ev.neg h2 ?_
  by_cases ht:t.toList=([]:List UInt8)
  ·refine Ev.pos ht ?_
   by_cases h4:o=4
   ·exact Ev.pos h4 (key _ (by rw [if_neg h2,if_pos ht,if_pos h4]))
   ·exact Ev.neg h4 (key _ (by rw [if_neg h2,if_pos ht,if_neg h4]))
  ·exact Ev.neg ht (key _ (by rw [if_neg h2,if_neg ht]))
theorem uy (hs:0 ≤ s) (hs':s ≤ 1000) (hl:l0.length ≤ 1048576):Ev (fun k=>Ya.f k l0 p v s l4 o d a b c n t) (fk l0.length s o d a b c n t):=by
 unfold Ya.f
 rw [Ig (x:=s - 1) (by omega) (by omega),Ig (x:=(l0.length:Int) - 1) (by omega) (by omega)]
 refine Ev.bind (Uf _ _ _) (Ev.bind (Uf _ _ _) (Ev.bind (Uf _ _ _) ?_))
 simp only [zD]
 cases ha:Pj s a with
 | true =>
  refine Ev.pos rfl ?_
  cases hb:Pj s b with
  | true=>exact Ev.pos rfl (Ev.bind (Uf _ _ _) (by have:=Zl (l0:=l0) (p:=p) (v:=v) (s:=s) (l4:=l4) (o:=o) (d:=d) (a:=a) (b:=b) (c:=c) (n:=n) (t:=t) (Qj n 0 ((l0.length:Int) - 1)) (by simp [ha,hb]) hs hs';rw [ha,hb] at this;exact this))
  | false=>exact Ev.neg (by simp) (by have:=Zl (l0:=l0) (p:=p) (v:=v) (s:=s) (l4:=l4) (o:=o) (d:=d) (a:=a) (b:=b) (c:=c) (n:=n) (t:=t) false (by simp [hb]) hs hs';rw [ha,hb] at this;exact this)
 | false =>
  refine Ev.neg (by simp) ?_
  by_cases h1:a = -1
  ·refine Ev.pos h1 ?_
   cases hb:Pj s b with
   | true=>exact Ev.pos rfl (Ev.bind (Uf _ _ _) (by have:=Zl (l0:=l0) (p:=p) (v:=v) (s:=s) (l4:=l4) (o:=o) (d:=d) (a:=a) (b:=b) (c:=c) (n:=n) (t:=t) (Qj n 0 ((l0.length:Int) - 1)) (by simp [h1,hb]) hs hs';rw [ha,hb] at this;exact this))
   | false=>exact Ev.neg (by simp) (by have:=Zl (l0:=l0) (p:=p) (v:=v) (s:=s) (l4:=l4) (o:=o) (d:=d) (a:=a) (b:=b) (c:=c) (n:=n) (t:=t) false (by simp [hb]) hs hs';rw [ha,hb] at this;exact this)
  ·exact Ev.neg h1 (by have:=Zl (l0:=l0) (p:=p) (v:=v) (s:=s) (l4:=l4) (o:=o) (d:=d) (a:=a) (b:=b) (c:=c) (n:=n) (t:=t) false (by simp [ha,h1]) hs hs';rw [ha] at this;exact this)
theorem ZD (code:List Bf) (j ba tg els:Int) (hs:0 ≤ s) (hs':s ≤ 1000) (hl:l0.length ≤ 1048576) (AV:l4.length ≤ 1048576) (hc:code.length ≤ 1048576):Ev (fun k=>Ab.f k l0 p v s l4 code j ba tg els) (Gk l0.length s l4.length code j ba tg els):=by
 unfold Ab.f
 have key:=aE (n:=code.length) (R:=(if j=0 then Qj tg 0 ((l4.length:Int) - 1) && ba == 0 && els == 0 else if j=1 then Qj tg 0 ((l4.length:Int) - 1) && Qj els 0 ((l4.length:Int) - 1) && Pj s ba else if j=2 then Pj s ba && tg == 0 && els == 0 else false)) (e:=false) (fun i=>uj l0.length s (code.getD i Fq)=true) (fun i k=>Ab.l0 k (i:Int) l0 p v s l4 code j ba tg els) ?_ ?_ ?_
 ·have e:(bif cw code.length (fun i=>uj l0.length s (code.getD i Fq)=true) then (if j=0 then Qj tg 0 ((l4.length:Int) - 1) && ba == 0 && els == 0 else if j=1 then Qj tg 0 ((l4.length:Int) - 1) && Qj els 0 ((l4.length:Int) - 1) && Pj s ba else if j=2 then Pj s ba && tg == 0 && els == 0 else false) else false)=Gk l0.length s l4.length code j ba tg els:=by
   rw [cv]
   unfold Gk
   rw [decide_eq_true hs,Bool.and_true]
   cases (!(code.any fun x=>!uj l0.length s x)) <;> rfl
  rw [e] at key
  exact key
 ·refine Ev.step (fun k=>by rw [Ab.l0]) (Ev.neg (by omega) ?_)
  rw [Ig (x:=s - 1) (by omega) (by omega),Ig (x:=(l4.length:Int) - 1) (by omega) (by omega)]
  refine Ev.bind (Uf _ _ _) (Ev.bind (Uf _ _ _) ?_)
  rw [zD s ba]
  by_cases h0:j=0
  ·rw [if_pos h0,if_pos h0,Bool.and_assoc]
   exact Ev.and fun _=>Ev.oz fun _=>Ev.now _
  rw [if_neg h0,if_neg h0]
  by_cases h1:j=1
  ·rw [if_pos h1,if_pos h1,Bool.and_assoc,Bool.and_comm (Qj els 0 ((l4.length:Int) - 1))]
   exact Ev.and fun _=>Ev.and fun _=>Ev.bind (Uf _ _ _) (Ev.now _)
  rw [if_neg h1,if_neg h1]
  by_cases h2:j=2
  ·rw [if_pos h2,if_pos h2,Bool.and_assoc]
   exact Ev.and fun _=>Ev.oz fun _=>Ev.now _
  rw [if_neg h2,if_neg h2]
  exact Ev.now _
 ·intro i hi hp r hr
  refine Ev.step (fun k=>by rw [Ab.l0]) (Ev.pos (by omega) (Ev.pos (by omega) ?_))
  refine Ev.bind (uy hs hs' hl) ?_
  have hq:fk l0.length s (Ja code (i:Int)).f0 (Ja code (i:Int)).f1 (Ja code (i:Int)).f2 (Ja code (i:Int)).f3 (Ja code (i:Int)).f4 (Ja code (i:Int)).f5 (Ja code (i:Int)).f6=true:=hp
  refine Ev.pos hq ?_
  rw [ng hi (by omega)]
  exact hr
 ·intro i hi hp
  refine Ev.step (fun k=>by rw [Ab.l0]) (Ev.pos (by omega) (Ev.pos (by omega) ?_))
  refine Ev.bind (uy hs hs' hl) ?_
  exact Ev.neg hp (Ev.now _)
end
def We (l:List gh):Nat:=(l.map fun x=>x.f0.length).sum
def Uu (l0:List Int) (p v s:Int) (n4:Nat):Bool:=Fs l0 p v && Qj s v 1000 && Qj (n4:Int) 1 300
def Mn (l0:List Int) (s:Int) (l4:List gh) (x:gh):Bool:=Gk l0.length s l4.length x.f0 x.f1 x.f2 x.f3 x.f4
def vo (l0:List Int) (p v s:Int) (l4:List gh):Bool:=Uu l0 p v s l4.length && (!(l4.any fun x=>!Mn l0 s l4 x) && decide (We l4 ≤ 1000))
theorem Ts (l:List gh) (i:Nat) (h:i < l.length):We (l.take (i + 1))=We (l.take i) + l[i].f0.length:=by
 unfold We
 rw [List.take_succ_eq_append_getElem h,List.map_append,List.sum_append]
 simp
theorem Px (l:List Nat) (i:Nat):(l.take i).sum ≤ l.sum:=by
 conv=>rhs;rw [← List.take_append_drop i l]
 rw [List.sum_append]
 omega
theorem Qx (l:List gh) (i:Nat):We (l.take i) ≤ We l:=by
 unfold We
 rw [List.map_take]
 exact Px _ _
theorem LI {l0:List Int} {p v s:Int} {n4:Nat} (h:Uu l0 p v s n4=true):1 ≤ l0.length∧l0.length ≤ 4∧0 ≤ p∧p ≤ v∧p ≤ 6∧v ≤ 20∧v ≤ s∧s ≤ 1000∧1 ≤ n4∧n4 ≤ 300:=by
 unfold Uu Fs Qj at h
 simp only [Bool.and_eq_true,decide_eq_true_eq] at h
 obtain ⟨⟨⟨⟨⟨⟨h1,h2⟩,_⟩,h3,h4⟩,h5⟩,h6,h7⟩,h8,h9⟩:=h
 split at h4 <;> omega
section
variable {l0:List Int} {p v s:Int} {l4:List gh}
theorem XD (h0:l0.length ≤ 1048576) (AV:l4.length ≤ 1048576) (ht:We l4 ≤ 1048576):Ev (fun k=>zb.f k l0 p v s l4) (vo l0 p v s l4):=by
 unfold zb.f Lg.f
 simp only [List.length_nil,if_true]
 refine Ev.val ?_
 have no:∀ {r:Bool},r=false→Ev (fun k=>zb.j0 k true l0 p v s l4) r:=by
  intro r hr
  subst hr
  exact Ev.step (fun k=>by rw [zb.j0]) (Ev.pos rfl (Ev.now _))
 unfold vo Uu
 cases hp:Fs l0 p v with
 | false=>exact Ev.neg (by simp) (no (by simp))
 | true =>
  refine Ev.pos rfl (Ev.bind (Ev.here (WB _ _ _)) ?_)
  cases hv:Qj s v 1000 with
  | false=>exact Ev.neg (by simp) (no (by simp))
  | true =>
   refine Ev.pos rfl (Ev.bind (Ev.here (WB _ _ _)) ?_)
   cases hn:Qj (l4.length:Int) 1 300 with
   | false=>exact no (by simp)
   | true =>
    refine Ev.step (fun k=>by rw [zb.j0]) (Ev.neg (by simp) ?_)
    simp only [Bool.true_and]
    have key:=aE (n:=l4.length) (R:=decide (We l4 ≤ 1000)) (e:=false) (fun i=>Mn l0 s l4 (l4.getD i CB)=true) (fun i k=>zb.l0 k (We (l4.take i):Int) l4 (l4.length:Int) (i:Int) l0 p v s l4) ?_ ?_ ?_
    ·have e:(bif cw l4.length (fun i=>Mn l0 s l4 (l4.getD i CB)=true) then decide (We l4 ≤ 1000) else false)=(!(l4.any fun x=>!Mn l0 s l4 x) && decide (We l4 ≤ 1000)):=by
      rw [cv]
      cases (!(l4.any fun x=>!Mn l0 s l4 x)) <;> rfl
     rw [e] at key
     simpa [We] using key
    ·refine Ev.step (fun k=>by rw [zb.l0]) (Ev.neg (by omega) ?_)
     rw [List.take_length]
     have e:decide ((We l4:Int) ≤ 1000)=decide (We l4 ≤ 1000):=by
      rw [Bool.eq_iff_iff,decide_eq_true_iff,decide_eq_true_iff]
      omega
     rw [e]
     exact Ev.now _
    ·intro i hi hq r hr
     refine Ev.step (fun k=>by rw [zb.l0]) (Ev.pos (by omega) (Ev.pos (by omega) (Ev.pos (by omega) ?_)))
     unfold Si.f
     have hq':Gk l0.length s l4.length (Xa l4 (i:Int)).f0 (Xa l4 (i:Int)).f1 (Xa l4 (i:Int)).f2 (Xa l4 (i:Int)).f3 (Xa l4 (i:Int)).f4=true:=hq
     refine Ev.val (Ev.pos hq' ?_)
     have h1:=Ts l4 i hi
     have h2:=Qx l4 (i + 1)
     rw [Ol hi,ng hi (by omega),Ig (x:=(We (l4.take i):Int) + (l4[i].f0.length:Int)) (by omega) (by omega),show (We (l4.take i):Int) + (l4[i].f0.length:Int)=(We (l4.take (i + 1)):Int) from by omega]
     exact hr
    ·intro i hi hq
     refine Ev.step (fun k=>by rw [zb.l0]) (Ev.pos (by omega) (Ev.pos (by omega) (Ev.pos (by omega) ?_)))
     unfold Si.f
     exact Ev.val (Ev.neg hq (Ev.now _))
theorem cE (h0:l0.length ≤ 1048576) (AV:l4.length ≤ 1048576) (ht:We l4 ≤ 1048576):Ev (fun k=>Va.f k l0 p v s l4) (vo l0 p v s l4):=by
 unfold Va.f
 have no:∀ {r:Bool},r=false→Ev (fun k=>Va.j1 k true l0 p v s l4) r:=by
  intro r hr
  subst hr
  exact Ev.step (fun k=>by rw [Va.j1]) (Ev.pos rfl (Ev.now _))
 have key:=aE (n:=l0.length) (R:=Qj (l0.length:Int) 1 4 && (Qj v 0 20 && (Qj p 0 6 && (decide (p ≤ v) && (Qj s v 1000 && (Qj (l4.length:Int) 1 300 && (!(l4.any fun x=>!Mn l0 s l4 x) && decide (We l4 ≤ 1000)))))))) (e:=false) (fun i=>Qj (l0.getD i 0) 1 16=true) (fun i k=>Va.l0 k (i:Int) l0 p v s l4) ?_ ?_ ?_
 ·have e:(bif cw l0.length (fun i=>Qj (l0.getD i 0) 1 16=true) then (Qj (l0.length:Int) 1 4 && (Qj v 0 20 && (Qj p 0 6 && (decide (p ≤ v) && (Qj s v 1000 && (Qj (l4.length:Int) 1 300 && (!(l4.any fun x=>!Mn l0 s l4 x) && decide (We l4 ≤ 1000)))))))) else false)=vo l0 p v s l4:=by
   rw [cv l0 0 (fun x=>Qj x 1 16)]
   unfold vo Uu Fs
   rw [Bool.eq_iff_iff]
   cases (!(l0.any fun x=>!Qj x 1 16))
   ·simp
   ·simp only [cond_true,Bool.and_eq_true,Qj,decide_eq_true_eq,and_assoc,true_and]
    constructor
    ·rintro ⟨h1,h2,h3,h4,h5,h6,h7,h8⟩
     refine ⟨h1,h2,h5,?_,h4,h8⟩
     split <;> omega
    ·rintro ⟨h1,h2,h5,h6,h4,h7,h8,h9⟩
     refine ⟨h1,h2,?_⟩
     split at h6 <;> exact ⟨by omega,by omega,by omega,by omega,by omega,h7,h8,h9⟩
  rw [e] at key
  exact key
 ·refine Ev.step (fun k=>by rw [Va.l0]) (Ev.neg (by omega) ?_)
  refine Ev.bind (Uf _ _ _) ?_
  cases hb0:Qj (l0.length:Int) 1 4 with
  | false=>exact Ev.neg (by simp) (no (by simp))
  | true =>
   refine Ev.pos rfl (Ev.bind (Uf _ _ _) ?_)
   cases hb1:Qj v 0 20 with
   | false=>exact Ev.neg (by simp) (no (by simp))
   | true =>
    refine Ev.pos rfl (Ev.bind (Uf _ _ _) ?_)
    cases hb2:Qj p 0 6 with
    | false=>exact Ev.neg (by simp) (no (by simp))
    | true =>
     refine Ev.pos rfl ?_
     by_cases hpv:p > v
     ·refine Ev.pos hpv (no ?_)
      rw [decide_eq_false (show ¬ p ≤ v from by omega)]
      simp
     ·refine Ev.neg hpv (Ev.bind (Uf _ _ _) ?_)
      rw [decide_eq_true (show p ≤ v from by omega)]
      cases hb3:Qj s v 1000 with
      | false=>exact Ev.neg (by simp) (no (by simp))
      | true =>
       refine Ev.pos rfl (Ev.bind (Uf _ _ _) ?_)
       cases BV:Qj (l4.length:Int) 1 300 with
       | false=>exact no (by simp)
       | true =>
        refine Ev.step (fun k=>by rw [Va.j1]) (Ev.neg (by simp) ?_)
        simp only [Bool.true_and]
        have hs0:0 ≤ s∧s ≤ 1000:=by simp [Qj] at hb1 hb3;omega
        have key:=Hi (r:=true) (n:=l4.length) (fun i=>We (l4.take i) ≤ 1000→Ev (fun k=>Va.l1 k (We (l4.take i):Int) (i:Int) l0 p v s l4) (!((l4.drop i).any fun x=>!Mn l0 s l4 x) && decide (We l4 ≤ 1000))) ?_ ?_ 0 (by omega) (by simp [We])
        ·rw [List.drop_zero] at key
         simpa [We] using key
        ·intro h
         rw [List.take_length] at h
         refine Ev.step (fun k=>by rw [Va.l1]) (Ev.neg (by omega) ?_)
         rw [List.drop_length,decide_eq_true h]
         exact Ev.now _
        ·intro i hi ih h
         have h1:=Ts l4 i hi
         have h2:=Qx l4 (i + 1)
         refine Ev.step (fun k=>by rw [Va.l1]) (Ev.pos (by omega) (Ev.pos (by omega) ?_))
         rw [Ol hi,Ig (x:=(We (l4.take i):Int) + (l4[i].f0.length:Int)) (by omega) (by omega),show (We (l4.take i):Int) + (l4[i].f0.length:Int)=(We (l4.take (i + 1)):Int) from by omega]
         have hd:((l4.drop i).any fun x=>!Mn l0 s l4 x)=(!Mn l0 s l4 l4[i] || (l4.drop (i + 1)).any fun x=>!Mn l0 s l4 x):=by
          rw [List.drop_eq_getElem_cons hi,List.any_cons]
         rw [hd]
         by_cases hgt:(We (l4.take (i + 1)):Int) > 1000
         ·rw [decide_eq_false (show ¬ We l4 ≤ 1000 from by omega),Bool.and_false]
          exact Ev.pos hgt (Ev.now _)
         ·refine Ev.neg hgt (Ev.bind (ZD _ _ _ _ _ hs0.1 hs0.2 h0 AV (by omega)) ?_)
          cases hq:Mn l0 s l4 l4[i] with
          | false =>
           have hq':¬ Gk l0.length s l4.length l4[i].f0 l4[i].f1 l4[i].f2 l4[i].f3 l4[i].f4=true:=by
            have e:Gk l0.length s l4.length l4[i].f0 l4[i].f1 l4[i].f2 l4[i].f3 l4[i].f4=false:=hq
            rw [e]
            simp
           exact Ev.neg hq' (Ev.now _)
          | true =>
           have hq':Gk l0.length s l4.length l4[i].f0 l4[i].f1 l4[i].f2 l4[i].f3 l4[i].f4=true:=hq
           refine Ev.pos hq' ?_
           rw [ng hi (by omega),Bool.not_true,Bool.false_or]
           exact ih (by omega)
 ·intro i hi hq r hr
  refine Ev.step (fun k=>by rw [Va.l0]) (Ev.pos (by omega) (Ev.pos (by omega) ?_))
  refine Ev.bind (Uf _ _ _) (Ev.pos hq ?_)
  rw [ng hi (by omega)]
  exact hr
 ·intro i hi hq
  refine Ev.step (fun k=>by rw [Va.l0]) (Ev.pos (by omega) (Ev.pos (by omega) ?_))
  exact Ev.bind (Uf _ _ _) (Ev.neg hq (Ev.now _))
end
end Go.Proofs.Ytmifdccaajngcaa.P
end
section
namespace Go.Proofs.Ytmifdccaajngcaa.P
open Go.RowKit Go.Proofs.Na.mc Go.Proofs.Na.jf Go.Proofs.Na.xg
set_option linter.unusedVariables false
set_option linter.unusedSimpArgs false
def ij (x:dm):Lj:=⟨x.f0,x.f1⟩
theorem hD (t:ByteArray) (a b:Int):Uo.f t a b=some (lE t a b):=by
 rw [← JC]
 rfl
theorem wC (n:Nat) (hn:n ≤ 1000):Ev (fun k=>Jc.f k (n:Int)) ((idents n).map ij):=by
 unfold Jc.f
 have key:=Hi (r:=(idents n).map ij) (n:=n) (fun i=>Ev (fun k=>Jc.l0 k (n:Int) (((idents n).take i).map ij) (i:Int)) ((idents n).map ij)) ?_ ?_ 0 (by omega)
 ·exact key
 ·refine Ev.step (fun k=>by rw [Jc.l0]) (Ev.neg (by omega) ?_)
  rw [List.take_of_length_le (by rw [jh];omega)]
  exact Ev.now _
 ·intro i hi ih
  refine Ev.step (fun k=>by rw [Jc.l0]) (Ev.pos (by omega) (Ev.pos (by rw [List.length_map,List.length_take,jh];omega) ?_))
  rw [ng hi (by omega)]
  rw [Hv n i hi,List.map_append] at ih
  exact ih
def lp (o:Option dm):Int × Int × Bool:=match o with
 | some s=>(s.f0,s.f1,true)
 | none=>(0,0,false)
theorem OI (t:ByteArray) (a b:dm):Ev (fun k=>qb.f k t a.f0 a.f1 b.f0 b.f1) (lp (Wv t a b)):=by
 have h3:∀ x:Bool,x=decide (t.toList=[45]∧b.f0 = -1)→Ev (fun k=>qb.j3 k t x a.f0 a.f1 b.f0 b.f1) (lp (if t.toList=[45]∧b.f0 = -1 then some ⟨a.f0,wrap64 (a.f1 - b.f1)⟩ else if t.toList=[45]∧a.f0=b.f0 then some ⟨-1,wrap64 (a.f1 - b.f1)⟩ else none)):=by
  intro x hx
  refine Ev.step (fun k=>by rw [qb.j3]) ?_
  by_cases h:t.toList=[45]∧b.f0 = -1
  ·rw [if_pos h]
   exact Ev.pos (by rw [hx];simpa using h) (Ev.now _)
  ·rw [if_neg h]
   refine Ev.neg (by rw [hx];simpa using h) ?_
   by_cases h1:t.toList=[45]
   ·by_cases h2:a.f0=b.f0
    ·simp only [h1,h2,and_self,if_true,lp]
     exact Ev.now _
    ·simp only [h1,h2,and_false,if_true,if_false,lp]
     exact Ev.now _
   ·simp only [h1,false_and,if_false,lp]
    exact Ev.now _
 have h2:∀ x:Bool,x=decide (t.toList=[43]∧b.f0 = -1)→Ev (fun k=>qb.j2 k t x a.f0 a.f1 b.f0 b.f1) (lp (if t.toList=[43]∧b.f0 = -1 then some ⟨a.f0,wrap64 (a.f1 + b.f1)⟩ else if t.toList=[45]∧b.f0 = -1 then some ⟨a.f0,wrap64 (a.f1 - b.f1)⟩ else if t.toList=[45]∧a.f0=b.f0 then some ⟨-1,wrap64 (a.f1 - b.f1)⟩ else none)):=by
  intro x hx
  refine Ev.step (fun k=>by rw [qb.j2]) ?_
  by_cases h:t.toList=[43]∧b.f0 = -1
  ·rw [if_pos h]
   exact Ev.pos (by rw [hx];simpa using h) (Ev.now _)
  ·rw [if_neg h]
   refine Ev.neg (by rw [hx];simpa using h) ?_
   by_cases h1:t.toList=[45]
   ·exact Ev.pos h1 (h3 _ (by rw [Bool.eq_iff_iff];simp [h1]))
   ·exact Ev.neg h1 (h3 _ (by simp [h1]))
 have h1:∀ x:Bool,x=decide (t.toList=[43]∧a.f0 = -1)→Ev (fun k=>qb.j1 k t x a.f0 a.f1 b.f0 b.f1) (lp (if t.toList=[43]∧a.f0 = -1 then some ⟨b.f0,wrap64 (a.f1 + b.f1)⟩ else if t.toList=[43]∧b.f0 = -1 then some ⟨a.f0,wrap64 (a.f1 + b.f1)⟩ else if t.toList=[45]∧b.f0 = -1 then some ⟨a.f0,wrap64 (a.f1 - b.f1)⟩ else if t.toList=[45]∧a.f0=b.f0 then some ⟨-1,wrap64 (a.f1 - b.f1)⟩ else none)):=by
  intro x hx
  refine Ev.step (fun k=>by rw [qb.j1]) ?_
  by_cases h:t.toList=[43]∧a.f0 = -1
  ·rw [if_pos h]
   exact Ev.pos (by rw [hx];simpa using h) (Ev.now _)
  ·rw [if_neg h]
   refine Ev.neg (by rw [hx];simpa using h) ?_
   by_cases h1:t.toList=[43]
   ·exact Ev.pos h1 (h2 _ (by rw [Bool.eq_iff_iff];simp [h1]))
   ·exact Ev.neg h1 (h2 _ (by simp [h1]))
 have h0:∀ x:Bool,x=decide (a.f0 = -1∧b.f0 = -1)→Ev (fun k=>qb.j0 k t x a.f0 a.f1 b.f0 b.f1) (lp (Wv t a b)):=by
  intro x hx
  unfold Wv
  refine Ev.step (fun k=>by rw [qb.j0]) ?_
  by_cases h:a.f0 = -1∧b.f0 = -1
  ·rw [if_pos h,hD]
   exact Ev.pos (by rw [hx];simpa using h) (Ev.now _)
  ·rw [if_neg h]
   refine Ev.neg (by rw [hx];simpa using h) ?_
   by_cases h2:t.toList=[43]
   ·exact Ev.pos h2 (h1 _ (by rw [Bool.eq_iff_iff];simp [h2]))
   ·exact Ev.neg h2 (h1 _ (by simp [h2]))
 unfold qb.f
 by_cases h:a.f0 = -1
 ·exact Ev.pos h (h0 _ (by rw [Bool.eq_iff_iff];simp [h]))
 ·exact Ev.neg h (h0 _ (by simp [h]))
theorem Zs (xs:List dm) (i:Int) (h0:0 ≤ i) (h1:i < xs.length):Ld (xs.map ij) i=ij (Bc xs i):=by
 have hi:i.toNat < xs.length:=by omega
 simp [Ld,Bc,List.getD_eq_getElem?_getD,hi]
theorem Yl {xs:List dm} {nx:Int} {x:Bf} (h4:¬ x.f0=4) (h6:¬ x.f0=6) (h0:0 ≤ x.f1):tj xs nx x=(xs.set x.f1.toNat (ym xs nx x).1,(ym xs nx x).2):=by
 unfold tj Wf
 rw [if_neg h4,if_neg h6,if_pos h0]
theorem Un {s d:Int} (h:Pj s d=true):0 ≤ d∧d < s:=by simpa [Pj] using h
theorem WD (n0:Nat) (x:Bf) (xs:List dm) (nx:Int) (hn0:0 ≤ nx) (aJ:nx ≤ 1000000000) (s:Int) (hs:(xs.length:Int)=s) (hok:uj n0 s x=true) :
  Ev (fun k=>jc.f k x.f0 x.f1 x.f2 x.f3 x.f4 x.f5 x.f6 (xs.map ij) nx) ((tj xs nx x).2,(tj xs nx x).1.map ij):=by
 have hset:∀ (r:dm) (i:Int),(xs.set i.toNat r).map ij=(xs.map ij).set i.toNat (ij r):=fun r i=>by rw [List.map_set]
 have hlen:((xs.map ij).length:Int)=s:=by rw [List.length_map];exact hs
 unfold uj fk at hok
 unfold jc.f
 by_cases o0:x.f0=0
 ·rw [if_pos o0,Bool.and_eq_true] at hok
  obtain ⟨d0,d1⟩:=Un hok.1
  rw [Yl (by omega) (by omega) d0,show ym xs nx x=(⟨-1,x.f5⟩,nx) from by unfold ym;rw [if_pos o0]]
  refine Ev.pos o0 (Ev.pos d0 (Ev.pos (by omega) ?_))
  simp only [hset]
  exact Ev.now _
 rw [if_neg o0] at hok
 refine Ev.neg o0 ?_
 by_cases o1:x.f0=1
 ·rw [if_pos o1,Bool.and_eq_true,Bool.and_eq_true] at hok
  obtain ⟨d0,d1⟩:=Un hok.1.1
  obtain ⟨a0,a1⟩:=Un hok.1.2
  rw [Yl (by omega) (by omega) d0,show ym xs nx x=(Bc xs x.f2,nx) from by unfold ym;rw [if_neg o0,if_pos o1]]
  refine Ev.pos o1 (Ev.pos a0 (Ev.pos (by omega) (Ev.pos d0 (Ev.pos (by omega) ?_))))
  rw [Zs xs x.f2 a0 (by omega)]
  simp only [hset]
  exact Ev.now _
 rw [if_neg o1] at hok
 refine Ev.neg o1 ?_
 by_cases o2:x.f0=2
 ·rw [if_pos o2,Bool.and_eq_true,Bool.and_eq_true,Bool.and_eq_true,Bool.and_eq_true] at hok
  obtain ⟨d0,d1⟩:=Un hok.1.1.1.1
  obtain ⟨a0,a1⟩:=Un hok.1.1.1.2
  obtain ⟨b0,b1⟩:=Un hok.1.1.2
  refine Ev.pos o2 (Ev.pos a0 (Ev.pos (by omega) (Ev.pos b0 (Ev.pos (by omega) ?_))))
  rw [Zs xs x.f2 a0 (by omega),Zs xs x.f3 b0 (by omega)]
  refine Ev.bind (OI x.f6 (Bc xs x.f2) (Bc xs x.f3)) ?_
  cases hk:Wv x.f6 (Bc xs x.f2) (Bc xs x.f3) with
  | some r =>
   rw [Yl (by omega) (by omega) d0,show ym xs nx x=(r,nx) from by unfold ym;rw [if_neg o0,if_neg o1,if_pos o2,hk]]
   refine Ev.pos rfl (Ev.pos d0 (Ev.pos (by omega) ?_))
   simp only [hset]
   exact Ev.now _
  | none =>
   rw [Yl (by omega) (by omega) d0,show ym xs nx x=(⟨nx,0⟩,nx + 1) from by unfold ym;rw [if_neg o0,if_neg o1,if_pos o2,hk]]
   refine Ev.neg (by simp [lp]) (Ev.pos d0 (Ev.pos (by omega) ?_))
   rw [Ig (by omega) (by omega)]
   simp only [hset]
   exact Ev.now _
 rw [if_neg o2] at hok
 refine Ev.neg o2 ?_
 have rm:0 ≤ x.f1→x.f1 < s→¬ x.f0=4→¬ x.f0=6→Ev (fun k=>jc.j0 k (xs.map ij) nx true x.f0 x.f1 x.f2 x.f3 x.f4 x.f5 x.f6) ((tj xs nx x).2,(tj xs nx x).1.map ij):=by
  intro d0 d1 h4 h6
  rw [Yl h4 h6 d0,show ym xs nx x=(⟨nx,0⟩,nx + 1) from by unfold ym;rw [if_neg o0,if_neg o1,if_neg o2]]
  refine Ev.step (fun k=>by rw [jc.j0]) (Ev.pos rfl ?_)
  rw [if_pos d0,if_pos (by omega),Ig (by omega) (by omega)]
  simp only [hset]
  exact Ev.now _
 have hkeep:Wf x = -1→Ev (fun k=>jc.j0 k (xs.map ij) nx false x.f0 x.f1 x.f2 x.f3 x.f4 x.f5 x.f6) ((tj xs nx x).2,(tj xs nx x).1.map ij):=by
  intro hm
  unfold tj
  rw [hm,if_neg (by omega)]
  refine Ev.step (fun k=>by rw [jc.j0]) (Ev.neg (by simp) (Ev.now _))
 by_cases o3:x.f0=3
 ·rw [if_pos o3] at hok
  simp only [Bool.and_eq_true] at hok
  obtain ⟨d0,d1⟩:=Un hok.1.1.1.1
  refine Ev.pos o3 ?_
  rw [show (x.f0 == 3)=true from by simp [o3]]
  exact rm d0 d1 (by omega) (by omega)
 rw [if_neg o3] at hok
 refine Ev.neg o3 ?_
 by_cases o5:x.f0=5
 ·rw [if_neg (by omega),if_pos o5,Bool.and_eq_true] at hok
  obtain ⟨d0,d1⟩:=Un hok.1
  rw [show (x.f0 == 5)=true from by simp [o5]]
  exact rm d0 d1 (by omega) (by omega)
 ·rw [show (x.f0 == 5)=false from by simp [o5]]
  refine hkeep ?_
  by_cases o4:x.f0=4
  ·unfold Wf;rw [if_pos o4]
  ·rw [if_neg o4,if_neg o5] at hok
   by_cases o6:x.f0=6
   ·unfold Wf;rw [if_neg o4,if_pos o6]
   ·rw [if_neg o6] at hok
    cases hok
theorem VB {n0:Nat} {s:Int} {x:Bf} (h:uj n0 s x=true) (hs:0 ≤ s):Aq s x=true:=by
 unfold uj fk at h
 unfold Aq Wf
 by_cases o0:x.f0=0
 ·simp [o0,Pj] at h ⊢;omega
 by_cases o1:x.f0=1
 ·simp [o1,Pj] at h ⊢;omega
 by_cases o2:x.f0=2
 ·simp [o2,Pj] at h ⊢;omega
 by_cases o3:x.f0=3
 ·simp [o3,Pj] at h ⊢;omega
 by_cases o4:x.f0=4
 ·simp [o4];omega
 by_cases o5:x.f0=5
 ·simp [o5,Pj] at h ⊢;omega
 by_cases o6:x.f0=6
 ·simp [o6];omega
 simp [o0,o1,o2,o3,o4,o5,o6] at h
section
variable {l0:List Int} {p v s:Int} {l4:List gh}
theorem iB (h:vo l0 p v s l4=true):Uu l0 p v s l4.length=true∧(∀ b ∈ l4,Mn l0 s l4 b=true)∧We l4 ≤ 1000:=by
 unfold vo at h
 simp only [Bool.and_eq_true,Bool.not_eq_true',List.any_eq_false,decide_eq_true_eq] at h
 exact ⟨h.1,fun b hb=>by have:=h.2.1 b hb;simpa using this,h.2.2⟩
theorem jE {b:gh} (h:Mn l0 s l4 b=true):∀ x ∈ b.f0,uj l0.length s x=true:=by
 unfold Mn Gk at h
 simp only [Bool.and_eq_true,Bool.not_eq_true',List.any_eq_false] at h
 intro x hx
 have:=h.1.1 x hx
 simpa using this
theorem KH (l:List gh) (b:gh) (hb:b ∈ l):b.f0.length ≤ We l:=by
 unfold We
 exact Yx (List.mem_map.mpr ⟨b,hb,rfl⟩)
theorem kz {code:List Bf} {n n0:Nat} (hn:n ≤ 1000) (hc:code.length ≤ 1048576) (hok:∀ x ∈ code,uj n0 (n:Int) x=true) :
  Ev (fun k=>Xc.l0 k ((idents n).map ij) (n:Int) code 0 l0 p v (n:Int) l4) ((Zg (idents n) n code).1.map ij,(Zg (idents n) n code).2 - n):=by
 have key:=Hi (r:=((Zg (idents n) (n:Int) code).1.map ij,(Zg (idents n) (n:Int) code).2 - (n:Int))) (n:=code.length) (fun i=>Ev (fun k=>Xc.l0 k ((Zg (idents n) (n:Int) (code.take i)).1.map ij) (Zg (idents n) (n:Int) (code.take i)).2 code (i:Int) l0 p v (n:Int) l4) ((Zg (idents n) (n:Int) code).1.map ij,(Zg (idents n) (n:Int) code).2 - (n:Int))) ?_ ?_ 0 (by omega)
 ·exact key
 ·have h:=En code (idents n) (n:Int)
  refine Ev.step (fun k=>by rw [Xc.l0]) (Ev.neg (by omega) ?_)
  rw [List.take_length,Ig (by omega) (by omega)]
  exact Ev.now _
 ·intro i hi ih
  have h:=En (code.take i) (idents n) (n:Int)
  rw [jh] at h
  have hl:(code.take i).length ≤ code.length:=by rw [List.length_take];omega
  have hr:Ja code (i:Int)=code[i]:=bz hi
  refine Ev.step (fun k=>by rw [Xc.l0]) (Ev.pos (by omega) (Ev.pos (by omega) ?_))
  rw [hr]
  refine Ev.bind (WD n0 code[i] (Zg (idents n) (n:Int) (code.take i)).1 (Zg (idents n) (n:Int) (code.take i)).2 (by omega) (by omega) (n:Int) (by omega) (hok _ (List.getElem_mem hi))) ?_
  rw [← Hs code (idents n) (n:Int) i hi,ng hi (by omega)]
  exact ih
end
end Go.Proofs.Ytmifdccaajngcaa.P
end
section
namespace Go.Proofs.Ytmifdccaajngcaa.P
open Go.RowKit Go.Proofs.Na.mc Go.Proofs.Na.jf Go.Proofs.Na.xg
set_option linter.unusedVariables false
set_option linter.unusedSimpArgs false
attribute [local go_sem] Hj Fj Rk Qk Li Ki Gj Ej
def Db.l0:Nat→List (Bf)→Int→Int→Option (Int)
 | 0,_,_,_=>none
 | k + 1,x0,x1,x5=>if x5 < (x0.length:Int) then (if 0 ≤ x5 then (if ((Ja x0 x5).f0)=x1 then (if ((Ja x0 x5).f1)=(wrap64 (x1 + 1)) then (if ((Ja x0 x5).f2)=(wrap64 ((wrap64 (x1 + 1)) + 1)) then (if ((Ja x0 x5).f3)=(wrap64 ((wrap64 ((wrap64 (x1 + 1)) + 1)) + 1)) then (if ((Ja x0 x5).f4)=(wrap64 ((wrap64 ((wrap64 ((wrap64 (x1 + 1)) + 1)) + 1)) + 1)) then (if ((Ja x0 x5).f5)=(wrap64 ((wrap64 ((wrap64 ((wrap64 ((wrap64 (x1 + 1)) + 1)) + 1)) + 1)) + 1)) then ((Pb.f k (wrap64 ((wrap64 ((wrap64 ((wrap64 ((wrap64 ((wrap64 (x1 + 1)) + 1)) + 1)) + 1)) + 1)) + 1))).bind fun t108=>(if ((Ja x0 x5).f6).toList=t108.toList then (Db.l0 k x0 (wrap64 ((wrap64 ((wrap64 ((wrap64 ((wrap64 ((wrap64 ((wrap64 (x1 + 1)) + 1)) + 1)) + 1)) + 1)) + 1)) + 1)) (wrap64 (x5 + 1))) else (some (-1)))) else (some (-1))) else (some (-1))) else (some (-1))) else (some (-1))) else (some (-1))) else (some (-1))) else (none)) else (some x1)
def Db.f (k:Nat) (l0:List (Bf)) (a1:Int):Option (Int):=Db.l0 k l0 a1 0
theorem Db.Sd:∀ k,(∀ y0 y1 y2,Lb (Db.l0 k y0 y1 y2) (Db.l0 (k + 1) y0 y1 y2))
 | 0=>fun _ _ _ r h=>by simp [Db.l0] at h
 | k + 1=>by
  have Ff:=Db.Sd k
  ·intro y0 y1 y2
   unfold Db.l0
   repeat' first
   | (with_reducible exact Ff _ _ _)
   | (with_reducible exact Pb.mono _ _)
   | (with_reducible exact Lb.refl _)
   | (with_reducible exact Lb.none _)
   | (with_reducible refine Lb.ite ?_ ?_)
   | (with_reducible refine Lb.bind ?_ (fun _=>?_))
   | exact Ff _ _ _
   | exact Pb.mono _ _
   | exact Lb.none _
   | refine Lb.ite ?_ ?_
   | refine Lb.bind ?_ (fun _=>?_)
theorem Db.mono:∀ a0 a1 k,Lb (Db.f k a0 a1) (Db.f (k + 1) a0 a1):=by
 intro a0 a1 k
 have Ff:=Db.Sd k
 unfold Db.f
 repeat' first
   | (with_reducible exact Ff _ _ _)
   | (with_reducible exact Pb.mono _ _)
   | (with_reducible exact Lb.refl _)
   | (with_reducible exact Lb.none _)
   | (with_reducible refine Lb.ite ?_ ?_)
   | (with_reducible refine Lb.bind ?_ (fun _=>?_))
   | exact Ff _ _ _
   | exact Pb.mono _ _
   | exact Lb.none _
   | refine Lb.ite ?_ ?_
   | refine Lb.bind ?_ (fun _=>?_)
def Db.T22:Bool × List (List Nat × List Nat):=(true,[([],[]),([],[]),([0,1],[0,1]),([2],[2]),([3],[3]),([],[]),([5],[5]),([4,6],[4,6])])
def Db.B22:List Nat:=[0,0,3,7,15,0,32,127]
theorem Db.UQ:Xl .any (opsOf Try.f103 22)=Db.T22:=by kernel_rfl
theorem Db.sL:Ml Db.T22.2 Db.B22=true:=by kernel_rfl
set_option maxHeartbeats 8000000 in
set_option maxRecDepth 100000 in
theorem Db.calls (k:Nat) (A0:Option Addr) (c0:Nat) (l0:List (Bf)) (a1:Int) (r:Int) (w:World) (hr0:Kd.C Ij w A0 l0.length l0) (hc0:l0.length ≤ c0) (h:Db.f k l0 a1=some r) :
  Calls Try.prog 103 #[.slice A0 l0.length c0,.int .i64 a1] w fun e w'=>e = .returned (.int .i64 r)∧Below w.heap.size w w':=by
 have Gh:=ja.mk hr0
 have dw:=ja.mk hc0
 clear hr0 hc0
 have HB:=ja.mk (Below.refl w.heap.size w)
 have H:(Db.l0 k l0 a1 0)=some r:=h
 clear h
 have H':=ja.mk H
 clear H
 go_enter Try.func103,Try.ntmps103
 go_wp2
 go_loopg [1,5] k (fun kq v1 v5 w'=>∃ (Md:Int) (Ia:Int),v1 = .int .i64 Md∧v5 = .int .i64 Ia∧ja (Db.l0 kq l0 Md Ia=some r)∧ja (kq ≤ k)∧ja (Below w.heap.size w w'))
 case atStart=>exact ⟨(a1),(0),(by first|rfl|(simp;done)|(simp [*];done)),(by first|rfl|(simp;done)|(simp [*];done)),H',⟨Nat.le_refl _⟩,⟨by repeat (first|(with_reducible first|exact HB.out|apply qa|apply ia|apply ua)|exact HB.out)⟩⟩
 case round =>
  clear H'
  try clear c1
  try clear p2
  (try clear HA)
  (try clear Yg)
  (try clear HB)
  obtain ⟨Md,Ia,rfl,rfl,HA,Yg,HB⟩:=hrel
  cases gk with
  | zero=>exact absurd HA.out (by simp [Db.l0])
  | succ k1 =>
   have H:=HA.out
   clear HA
   simp only [Db.l0] at H
   by_cases c3:Ia < (l0.length:Int)
   ·rw [if_pos c3] at H
    have Zh:decide (Ia < (l0.length:Int))=true:=decide_eq_true c3
    clear c3
    by_cases c4:0 ≤ Ia
    ·rw [if_pos c4] at H
     have Gi:decide (0 ≤ Ia)=true:=decide_eq_true c4
     clear c4
     by_cases c5:((Ja l0 Ia).f0)=Md
     ·rw [if_pos c5] at H
      have Il:(((Ja l0 Ia).f0) == Md)=true:=beq_iff_eq.mpr c5
      have Bq:(((Ja l0 Ia).f0) != Md)=false:=bne_eq_false_iff_eq.mpr c5
      clear c5
      by_cases c6:((Ja l0 Ia).f1)=(wrap64 (Md + 1))
      ·rw [if_pos c6] at H
       have cm:(((Ja l0 Ia).f1) == (wrap64 (Md + 1)))=true:=beq_iff_eq.mpr c6
       have av:(((Ja l0 Ia).f1) != (wrap64 (Md + 1)))=false:=bne_eq_false_iff_eq.mpr c6
       clear c6
       by_cases c7:((Ja l0 Ia).f2)=(wrap64 ((wrap64 (Md + 1)) + 1))
       ·rw [if_pos c7] at H
        have bp:(((Ja l0 Ia).f2) == (wrap64 ((wrap64 (Md + 1)) + 1)))=true:=beq_iff_eq.mpr c7
        have Zu:(((Ja l0 Ia).f2) != (wrap64 ((wrap64 (Md + 1)) + 1)))=false:=bne_eq_false_iff_eq.mpr c7
        clear c7
        by_cases c8:((Ja l0 Ia).f3)=(wrap64 ((wrap64 ((wrap64 (Md + 1)) + 1)) + 1))
        ·rw [if_pos c8] at H
         have Ll:(((Ja l0 Ia).f3) == (wrap64 ((wrap64 ((wrap64 (Md + 1)) + 1)) + 1)))=true:=beq_iff_eq.mpr c8
         have mq:(((Ja l0 Ia).f3) != (wrap64 ((wrap64 ((wrap64 (Md + 1)) + 1)) + 1)))=false:=bne_eq_false_iff_eq.mpr c8
         clear c8
         by_cases c9:((Ja l0 Ia).f4)=(wrap64 ((wrap64 ((wrap64 ((wrap64 (Md + 1)) + 1)) + 1)) + 1))
         ·rw [if_pos c9] at H
          have xy:(((Ja l0 Ia).f4) == (wrap64 ((wrap64 ((wrap64 ((wrap64 (Md + 1)) + 1)) + 1)) + 1)))=true:=beq_iff_eq.mpr c9
          have mB:(((Ja l0 Ia).f4) != (wrap64 ((wrap64 ((wrap64 ((wrap64 (Md + 1)) + 1)) + 1)) + 1)))=false:=bne_eq_false_iff_eq.mpr c9
          clear c9
          by_cases wo:((Ja l0 Ia).f5)=(wrap64 ((wrap64 ((wrap64 ((wrap64 ((wrap64 (Md + 1)) + 1)) + 1)) + 1)) + 1))
          ·rw [if_pos wo] at H
           have Eu:(((Ja l0 Ia).f5) == (wrap64 ((wrap64 ((wrap64 ((wrap64 ((wrap64 (Md + 1)) + 1)) + 1)) + 1)) + 1)))=true:=beq_iff_eq.mpr wo
           have Ey:(((Ja l0 Ia).f5) != (wrap64 ((wrap64 ((wrap64 ((wrap64 ((wrap64 (Md + 1)) + 1)) + 1)) + 1)) + 1)))=false:=bne_eq_false_iff_eq.mpr wo
           clear wo
           replace H:=Option.bind_eq_some_iff.mp H
           obtain ⟨t108,SC,H⟩:=H
           replace H:(if ((Ja l0 Ia).f6).toList=t108.toList then (Db.l0 k1 l0 (wrap64 ((wrap64 ((wrap64 ((wrap64 ((wrap64 ((wrap64 ((wrap64 (Md + 1)) + 1)) + 1)) + 1)) + 1)) + 1)) + 1)) (wrap64 (Ia + 1))) else (some (-1)))=some r:=H
           have QL:=ja.mk SC
           clear SC
           by_cases c12:((Ja l0 Ia).f6).toList=t108.toList
           ·rw [if_pos c12] at H
            have J4:(((Ja l0 Ia).f6).toList == t108.toList)=true:=beq_iff_eq.mpr c12
            have I4:(((Ja l0 Ia).f6).toList != t108.toList)=false:=bne_eq_false_iff_eq.mpr c12
            clear c12
            have H':=ja.mk H
            clear H
            have Je:0 ≤ (Ia:Int):=of_decide_eq_true (by first|(with_reducible assumption)|assumption)
            have Ie:Ia < (l0.length:Int):=of_decide_eq_true (by first|(with_reducible assumption)|assumption)
            obtain ⟨Gc,Tg,Ub,ic,fc,dc,Zb,ze,ye⟩:=tf Gh.out Ia Je Ie
            cases Tg
            replace Ub:=(HB.out.cell (World.block_lt_of_cell? w _ Ub)).trans Ub
            replace ic:=(HB.out.cell (World.block_lt_of_cell? w _ ic)).trans ic
            replace fc:=(HB.out.cell (World.block_lt_of_cell? w _ fc)).trans fc
            replace dc:=(HB.out.cell (World.block_lt_of_cell? w _ dc)).trans dc
            replace Zb:=(HB.out.cell (World.block_lt_of_cell? w _ Zb)).trans Zb
            replace ze:=(HB.out.cell (World.block_lt_of_cell? w _ ze)).trans ze
            replace ye:=(HB.out.cell (World.block_lt_of_cell? w _ ye)).trans ye
            replace Je:=eq_true Je
            replace Ie:=eq_true Ie
            have Gg:0 ≤ (Ia:Int):=of_decide_eq_true (by first|(with_reducible assumption)|assumption)
            have Fg:Ia < (l0.length:Int):=of_decide_eq_true (by first|(with_reducible assumption)|assumption)
            obtain ⟨bf,Fl,Ed,ee,xe,we,ue,Ze,Ye⟩:=tf Gh.out Ia Gg Fg
            obtain rfl:Gc=bf:=(by injection Fl)
            replace Ed:=(HB.out.cell (World.block_lt_of_cell? w _ Ed)).trans Ed
            replace ee:=(HB.out.cell (World.block_lt_of_cell? w _ ee)).trans ee
            replace xe:=(HB.out.cell (World.block_lt_of_cell? w _ xe)).trans xe
            replace we:=(HB.out.cell (World.block_lt_of_cell? w _ we)).trans we
            replace ue:=(HB.out.cell (World.block_lt_of_cell? w _ ue)).trans ue
            replace Ze:=(HB.out.cell (World.block_lt_of_cell? w _ Ze)).trans Ze
            replace Ye:=(HB.out.cell (World.block_lt_of_cell? w _ Ye)).trans Ye
            replace Gg:=eq_true Gg
            replace Fg:=eq_true Fg
            have Ah:0 ≤ (Ia:Int):=of_decide_eq_true (by first|(with_reducible assumption)|assumption)
            have yh:Ia < (l0.length:Int):=of_decide_eq_true (by first|(with_reducible assumption)|assumption)
            obtain ⟨Kf,vm,Gd,Xd,Wd,Vd,Ud,zf,yf⟩:=tf Gh.out Ia Ah yh
            obtain rfl:Gc=Kf:=(by injection vm)
            replace Gd:=(HB.out.cell (World.block_lt_of_cell? w _ Gd)).trans Gd
            replace Xd:=(HB.out.cell (World.block_lt_of_cell? w _ Xd)).trans Xd
            replace Wd:=(HB.out.cell (World.block_lt_of_cell? w _ Wd)).trans Wd
            replace Vd:=(HB.out.cell (World.block_lt_of_cell? w _ Vd)).trans Vd
            replace Ud:=(HB.out.cell (World.block_lt_of_cell? w _ Ud)).trans Ud
            replace zf:=(HB.out.cell (World.block_lt_of_cell? w _ zf)).trans zf
            replace yf:=(HB.out.cell (World.block_lt_of_cell? w _ yf)).trans yf
            replace Ah:=eq_true Ah
            replace yh:=eq_true yh
            have zh:0 ≤ (Ia:Int):=of_decide_eq_true (by first|(with_reducible assumption)|assumption)
            have xh:Ia < (l0.length:Int):=of_decide_eq_true (by first|(with_reducible assumption)|assumption)
            obtain ⟨Wj,um,Zd,Me,Ue,Te,Re,Qg,Pg⟩:=tf Gh.out Ia zh xh
            obtain rfl:Gc=Wj:=(by injection um)
            replace Zd:=(HB.out.cell (World.block_lt_of_cell? w _ Zd)).trans Zd
            replace Me:=(HB.out.cell (World.block_lt_of_cell? w _ Me)).trans Me
            replace Ue:=(HB.out.cell (World.block_lt_of_cell? w _ Ue)).trans Ue
            replace Te:=(HB.out.cell (World.block_lt_of_cell? w _ Te)).trans Te
            replace Re:=(HB.out.cell (World.block_lt_of_cell? w _ Re)).trans Re
            replace Qg:=(HB.out.cell (World.block_lt_of_cell? w _ Qg)).trans Qg
            replace Pg:=(HB.out.cell (World.block_lt_of_cell? w _ Pg)).trans Pg
            replace zh:=eq_true zh
            replace xh:=eq_true xh
            have Wh:0 ≤ (Ia:Int):=of_decide_eq_true (by first|(with_reducible assumption)|assumption)
            have Vh:Ia < (l0.length:Int):=of_decide_eq_true (by first|(with_reducible assumption)|assumption)
            obtain ⟨Th,Ln,qe,Ge,Fe,Ee,De,Wi,Vi⟩:=tf Gh.out Ia Wh Vh
            obtain rfl:Gc=Th:=(by injection Ln)
            replace qe:=(HB.out.cell (World.block_lt_of_cell? w _ qe)).trans qe
            replace Ge:=(HB.out.cell (World.block_lt_of_cell? w _ Ge)).trans Ge
            replace Fe:=(HB.out.cell (World.block_lt_of_cell? w _ Fe)).trans Fe
            replace Ee:=(HB.out.cell (World.block_lt_of_cell? w _ Ee)).trans Ee
            replace De:=(HB.out.cell (World.block_lt_of_cell? w _ De)).trans De
            replace Wi:=(HB.out.cell (World.block_lt_of_cell? w _ Wi)).trans Wi
            replace Vi:=(HB.out.cell (World.block_lt_of_cell? w _ Vi)).trans Vi
            replace Wh:=eq_true Wh
            replace Vh:=eq_true Vh
            have Zj:0 ≤ (Ia:Int):=of_decide_eq_true (by first|(with_reducible assumption)|assumption)
            have Yj:Ia < (l0.length:Int):=of_decide_eq_true (by first|(with_reducible assumption)|assumption)
            obtain ⟨si,Js,Af,Gf,Og,Ng,Mg,Ui,Ti⟩:=tf Gh.out Ia Zj Yj
            obtain rfl:Gc=si:=(by injection Js)
            replace Af:=(HB.out.cell (World.block_lt_of_cell? w _ Af)).trans Af
            replace Gf:=(HB.out.cell (World.block_lt_of_cell? w _ Gf)).trans Gf
            replace Og:=(HB.out.cell (World.block_lt_of_cell? w _ Og)).trans Og
            replace Ng:=(HB.out.cell (World.block_lt_of_cell? w _ Ng)).trans Ng
            replace Mg:=(HB.out.cell (World.block_lt_of_cell? w _ Mg)).trans Mg
            replace Ui:=(HB.out.cell (World.block_lt_of_cell? w _ Ui)).trans Ui
            replace Ti:=(HB.out.cell (World.block_lt_of_cell? w _ Ti)).trans Ti
            replace Zj:=eq_true Zj
            replace Yj:=eq_true Yj
            try go_wp2
            have Gb:=ja.mk (ua HB.out)
            clear HB
            have HB:=Gb
            clear Gb
            have Qr:0 ≤ (Ia:Int):=of_decide_eq_true (by first|(with_reducible assumption)|assumption)
            have Pr:Ia < (l0.length:Int):=of_decide_eq_true (by first|(with_reducible assumption)|assumption)
            obtain ⟨Iy,fE,uh,th,Al,zl,yl,xl,vl⟩:=tf Gh.out Ia Qr Pr
            have Fm:=vl
            have Gm:=xl
            have Im:=yl
            have Jm:=zl
            have Km:=Al
            have Lm:=th
            have Mm:=uh
            obtain rfl:Gc=Iy:=(by injection fE)
            replace uh:=(HB.out.cell (World.block_lt_of_cell? w _ uh)).trans uh
            replace th:=(HB.out.cell (World.block_lt_of_cell? w _ th)).trans th
            replace Al:=(HB.out.cell (World.block_lt_of_cell? w _ Al)).trans Al
            replace zl:=(HB.out.cell (World.block_lt_of_cell? w _ zl)).trans zl
            replace yl:=(HB.out.cell (World.block_lt_of_cell? w _ yl)).trans yl
            replace xl:=(HB.out.cell (World.block_lt_of_cell? w _ xl)).trans xl
            replace vl:=(HB.out.cell (World.block_lt_of_cell? w _ vl)).trans vl
            replace Qr:=eq_true Qr
            replace Pr:=eq_true Pr
            refine Xj (n:=8) (S:=fun w'=>w'.cell? (Gc.add ((Ia).toNat * 7))=some (.int .i64 ((Ja l0 Ia).f0))∧w'.cell? ⟨(Gc.add ((Ia).toNat * 7)).block,(Gc.add ((Ia).toNat * 7)).off + 1,none⟩=some (.int .i64 ((Ja l0 Ia).f1))∧w'.cell? ⟨(Gc.add ((Ia).toNat * 7)).block,(Gc.add ((Ia).toNat * 7)).off + 2,none⟩=some (.int .i64 ((Ja l0 Ia).f2))∧w'.cell? ⟨(Gc.add ((Ia).toNat * 7)).block,(Gc.add ((Ia).toNat * 7)).off + 3,none⟩=some (.int .i64 ((Ja l0 Ia).f3))∧w'.cell? ⟨(Gc.add ((Ia).toNat * 7)).block,(Gc.add ((Ia).toNat * 7)).off + 4,none⟩=some (.int .i64 ((Ja l0 Ia).f4))∧w'.cell? ⟨(Gc.add ((Ia).toNat * 7)).block,(Gc.add ((Ia).toNat * 7)).off + 5,none⟩=some (.int .i64 ((Ja l0 Ia).f5))∧w'.cell? ⟨(Gc.add ((Ia).toNat * 7)).block,(Gc.add ((Ia).toNat * 7)).off + 6,none⟩=some (.string ((Ja l0 Ia).f6))) (ds:=[]) #[false,false,false,false,false,false,false,false] (by kernel_rfl) rfl rfl ⟨((HB.out.cell (World.block_lt_of_cell? w _ Mm)).trans Mm),((HB.out.cell (World.block_lt_of_cell? w _ Lm)).trans Lm),((HB.out.cell (World.block_lt_of_cell? w _ Km)).trans Km),((HB.out.cell (World.block_lt_of_cell? w _ Jm)).trans Jm),((HB.out.cell (World.block_lt_of_cell? w _ Im)).trans Im),((HB.out.cell (World.block_lt_of_cell? w _ Gm)).trans Gm),((HB.out.cell (World.block_lt_of_cell? w _ Fm)).trans Fm)⟩ (fun hHeld=>?_);refine Uh Db.UQ Db.sL (fun Cf yo=>?_)
            generalize wr.drew=FB at HB uh th Al zl yl xl vl hHeld ⊢
            refine qd (i:=0) (N:=some 66) (v:=?_) (a':=?_) #[true,false,false,false,false,false,false,false] rfl rfl (Oc Cf.out (by kernel_rfl)) (fun _ _ _ h=>h) (Or.inl ⟨by rfl,?_⟩) ?_ ?_
            rotate_left
            ·intro w'
             go_simp
             with_reducible rfl
            rotate_left
            ·simp only [Act.put,List.setIfInBounds_toArray,List.set_cons_zero,List.set_cons_succ,Ib,Jb]
             rfl
            refine qd (i:=1) (N:=some 67) (v:=?_) (a':=?_) #[true,true,false,false,false,false,false,false] rfl rfl (Oc Cf.out (by kernel_rfl)) (fun _ _ _ h=>h) (Or.inl ⟨by rfl,?_⟩) ?_ ?_
            rotate_left
            ·intro w'
             go_simp
             with_reducible rfl
            rotate_left
            ·simp only [Act.put,List.setIfInBounds_toArray,List.set_cons_zero,List.set_cons_succ,Ib,Jb]
             rfl
            refine qd (i:=2) (N:=some 68) (v:=?_) (a':=?_) #[true,true,true,false,false,false,false,false] rfl rfl (Oc Cf.out (by kernel_rfl)) (fun _ _ _ h=>h) (Or.inl ⟨by rfl,?_⟩) ?_ ?_
            rotate_left
            ·intro w'
             go_simp
             with_reducible rfl
            rotate_left
            ·simp only [Act.put,List.setIfInBounds_toArray,List.set_cons_zero,List.set_cons_succ,Ib,Jb]
             rfl
            refine qd (i:=3) (N:=some 69) (v:=?_) (a':=?_) #[true,true,true,true,false,false,false,false] rfl rfl (Oc Cf.out (by kernel_rfl)) (fun _ _ _ h=>h) (Or.inl ⟨by rfl,?_⟩) ?_ ?_
            rotate_left
            ·intro w'
             go_simp
             with_reducible rfl
            rotate_left
            ·simp only [Act.put,List.setIfInBounds_toArray,List.set_cons_zero,List.set_cons_succ,Ib,Jb]
             rfl
            refine qd (i:=5) (N:=some 71) (v:=?_) (a':=?_) #[true,true,true,true,false,true,false,false] rfl rfl (Oc Cf.out (by kernel_rfl)) (fun _ _ _ h=>h) (Or.inl ⟨by rfl,?_⟩) ?_ ?_
            rotate_left
            ·intro w'
             go_simp
             with_reducible rfl
            rotate_left
            ·simp only [Act.put,List.setIfInBounds_toArray,List.set_cons_zero,List.set_cons_succ,Ib,Jb]
             rfl
            refine sg (i:=4) (N:=some 70) (v:=?_) (a':=?_) #[true,true,true,true,true,true,false,false] rfl rfl (af Cf.out yo.out (by kernel_rfl)) (fun _ _ _ h=>h) (Or.inl ⟨by rfl,?_⟩) hHeld ?_ ?_
            rotate_left
            ·rintro w' ⟨s0,s1,s2,s3,s4,s5,s6⟩
             go_simp
             with_reducible rfl
            rotate_left
            ·simp only [Act.put,List.setIfInBounds_toArray,List.set_cons_zero,List.set_cons_succ,Ib,Jb]
             rfl
            refine Vo (i:=6) (N:=some 72) #[true,true,true,true,true,true,true,false] rfl rfl (Pk Cf.out (by kernel_rfl)) (by decide) (fun K hK=>?_)
            refine Kn Try.func121 (by kernel_rfl) rfl #[.int .i64 (wrap64 ((wrap64 ((wrap64 ((wrap64 ((wrap64 ((wrap64 (Md + 1)) + 1)) + 1)) + 1)) + 1)) + 1))] (by rfl) rfl rfl (by (try simp only [List.map_toArray,List.map_cons,List.map_nil]);first|done|rfl|(simp only [List.length_drop,List.length_take];rfl)) ?_
            with_reducible refine (Pb.calls k1 (wrap64 ((wrap64 ((wrap64 ((wrap64 ((wrap64 ((wrap64 (Md + 1)) + 1)) + 1)) + 1)) + 1)) + 1)) t108 _ QL.out).mono ?_
            rintro e pz ⟨rfl,hb⟩
            refine ⟨_,rfl,?_⟩
            have Gb:=ja.mk (Qa (by repeat (first|(with_reducible first|exact HB.out|apply qa|apply ia|apply ua)|exact HB.out)) hb)
            clear HB
            have HB:=Gb
            clear Gb
            (try clear hb)
            (try clear hb2)
            (try clear hk)
            (try clear hi)
            refine hK.out _ _ ⟨((HB.out.cell (World.block_lt_of_cell? w _ Mm)).trans Mm),((HB.out.cell (World.block_lt_of_cell? w _ Lm)).trans Lm),((HB.out.cell (World.block_lt_of_cell? w _ Km)).trans Km),((HB.out.cell (World.block_lt_of_cell? w _ Jm)).trans Jm),((HB.out.cell (World.block_lt_of_cell? w _ Im)).trans Im),((HB.out.cell (World.block_lt_of_cell? w _ Gm)).trans Gm),((HB.out.cell (World.block_lt_of_cell? w _ Fm)).trans Fm)⟩ (fun hHeld=>?_)
            clear hK K
            refine Vj (a':=?_) ?_ ?_
            rotate_left
            ·show Act.put _ (some 72) _=_
             simp only [Act.put,List.setIfInBounds_toArray,List.set_cons_zero,List.set_cons_succ,Ib,Jb]
             rfl
            refine qd (i:=7) (N:=some 73) (v:=?_) (a':=?_) #[true,true,true,true,true,true,true,true] rfl rfl (Oc Cf.out (by kernel_rfl)) (fun _ _ _ h=>h) (Or.inl ⟨by rfl,?_⟩) ?_ ?_
            rotate_left
            ·intro w'
             go_simp
             with_reducible rfl
            rotate_left
            ·simp only [Act.put,List.setIfInBounds_toArray,List.set_cons_zero,List.set_cons_succ,Ib,Jb]
             rfl
            refine wm (Sj Cf.out (by kernel_rfl)) ?_
            try go_wp2
            go_roundg k1
            case measure=>have:=Yg.out;omega
            case rel=>exact ⟨(wrap64 ((wrap64 ((wrap64 ((wrap64 ((wrap64 ((wrap64 ((wrap64 (Md + 1)) + 1)) + 1)) + 1)) + 1)) + 1)) + 1)),(wrap64 (Ia + 1)),(by first|rfl|(simp;done)|(simp [*];done)),(by first|rfl|(simp;done)|(simp [*];done)),H',⟨by have:=Yg.out;omega⟩,⟨by repeat (first|(with_reducible first|exact HB.out|apply qa|apply ia|apply ua)|exact HB.out)⟩⟩
           ·rw [if_neg c12] at H
            have J4:(((Ja l0 Ia).f6).toList == t108.toList)=false:=beq_eq_false_iff_ne.mpr c12
            have I4:(((Ja l0 Ia).f6).toList != t108.toList)=true:=bne_iff_ne.mpr c12
            obtain rfl:=Option.some.inj H
            have Je:0 ≤ (Ia:Int):=of_decide_eq_true (by first|(with_reducible assumption)|assumption)
            have Ie:Ia < (l0.length:Int):=of_decide_eq_true (by first|(with_reducible assumption)|assumption)
            obtain ⟨Gc,Tg,Ub,ic,fc,dc,Zb,ze,ye⟩:=tf Gh.out Ia Je Ie
            cases Tg
            replace Ub:=(HB.out.cell (World.block_lt_of_cell? w _ Ub)).trans Ub
            replace ic:=(HB.out.cell (World.block_lt_of_cell? w _ ic)).trans ic
            replace fc:=(HB.out.cell (World.block_lt_of_cell? w _ fc)).trans fc
            replace dc:=(HB.out.cell (World.block_lt_of_cell? w _ dc)).trans dc
            replace Zb:=(HB.out.cell (World.block_lt_of_cell? w _ Zb)).trans Zb
            replace ze:=(HB.out.cell (World.block_lt_of_cell? w _ ze)).trans ze
            replace ye:=(HB.out.cell (World.block_lt_of_cell? w _ ye)).trans ye
            replace Je:=eq_true Je
            replace Ie:=eq_true Ie
            have Gg:0 ≤ (Ia:Int):=of_decide_eq_true (by first|(with_reducible assumption)|assumption)
            have Fg:Ia < (l0.length:Int):=of_decide_eq_true (by first|(with_reducible assumption)|assumption)
            obtain ⟨bf,Fl,Ed,ee,xe,we,ue,Ze,Ye⟩:=tf Gh.out Ia Gg Fg
            obtain rfl:Gc=bf:=(by injection Fl)
            replace Ed:=(HB.out.cell (World.block_lt_of_cell? w _ Ed)).trans Ed
            replace ee:=(HB.out.cell (World.block_lt_of_cell? w _ ee)).trans ee
            replace xe:=(HB.out.cell (World.block_lt_of_cell? w _ xe)).trans xe
            replace we:=(HB.out.cell (World.block_lt_of_cell? w _ we)).trans we
            replace ue:=(HB.out.cell (World.block_lt_of_cell? w _ ue)).trans ue
            replace Ze:=(HB.out.cell (World.block_lt_of_cell? w _ Ze)).trans Ze
            replace Ye:=(HB.out.cell (World.block_lt_of_cell? w _ Ye)).trans Ye
            replace Gg:=eq_true Gg
            replace Fg:=eq_true Fg
            have Ah:0 ≤ (Ia:Int):=of_decide_eq_true (by first|(with_reducible assumption)|assumption)
            have yh:Ia < (l0.length:Int):=of_decide_eq_true (by first|(with_reducible assumption)|assumption)
            obtain ⟨Kf,vm,Gd,Xd,Wd,Vd,Ud,zf,yf⟩:=tf Gh.out Ia Ah yh
            obtain rfl:Gc=Kf:=(by injection vm)
            replace Gd:=(HB.out.cell (World.block_lt_of_cell? w _ Gd)).trans Gd
            replace Xd:=(HB.out.cell (World.block_lt_of_cell? w _ Xd)).trans Xd
            replace Wd:=(HB.out.cell (World.block_lt_of_cell? w _ Wd)).trans Wd
            replace Vd:=(HB.out.cell (World.block_lt_of_cell? w _ Vd)).trans Vd
            replace Ud:=(HB.out.cell (World.block_lt_of_cell? w _ Ud)).trans Ud
            replace zf:=(HB.out.cell (World.block_lt_of_cell? w _ zf)).trans zf
            replace yf:=(HB.out.cell (World.block_lt_of_cell? w _ yf)).trans yf
            replace Ah:=eq_true Ah
            replace yh:=eq_true yh
            have zh:0 ≤ (Ia:Int):=of_decide_eq_true (by first|(with_reducible assumption)|assumption)
            have xh:Ia < (l0.length:Int):=of_decide_eq_true (by first|(with_reducible assumption)|assumption)
            obtain ⟨Wj,um,Zd,Me,Ue,Te,Re,Qg,Pg⟩:=tf Gh.out Ia zh xh
            obtain rfl:Gc=Wj:=(by injection um)
            replace Zd:=(HB.out.cell (World.block_lt_of_cell? w _ Zd)).trans Zd
            replace Me:=(HB.out.cell (World.block_lt_of_cell? w _ Me)).trans Me
            replace Ue:=(HB.out.cell (World.block_lt_of_cell? w _ Ue)).trans Ue
            replace Te:=(HB.out.cell (World.block_lt_of_cell? w _ Te)).trans Te
            replace Re:=(HB.out.cell (World.block_lt_of_cell? w _ Re)).trans Re
            replace Qg:=(HB.out.cell (World.block_lt_of_cell? w _ Qg)).trans Qg
            replace Pg:=(HB.out.cell (World.block_lt_of_cell? w _ Pg)).trans Pg
            replace zh:=eq_true zh
            replace xh:=eq_true xh
            have Wh:0 ≤ (Ia:Int):=of_decide_eq_true (by first|(with_reducible assumption)|assumption)
            have Vh:Ia < (l0.length:Int):=of_decide_eq_true (by first|(with_reducible assumption)|assumption)
            obtain ⟨Th,Ln,qe,Ge,Fe,Ee,De,Wi,Vi⟩:=tf Gh.out Ia Wh Vh
            obtain rfl:Gc=Th:=(by injection Ln)
            replace qe:=(HB.out.cell (World.block_lt_of_cell? w _ qe)).trans qe
            replace Ge:=(HB.out.cell (World.block_lt_of_cell? w _ Ge)).trans Ge
            replace Fe:=(HB.out.cell (World.block_lt_of_cell? w _ Fe)).trans Fe
            replace Ee:=(HB.out.cell (World.block_lt_of_cell? w _ Ee)).trans Ee
            replace De:=(HB.out.cell (World.block_lt_of_cell? w _ De)).trans De
            replace Wi:=(HB.out.cell (World.block_lt_of_cell? w _ Wi)).trans Wi
            replace Vi:=(HB.out.cell (World.block_lt_of_cell? w _ Vi)).trans Vi
            replace Wh:=eq_true Wh
            replace Vh:=eq_true Vh
            have Zj:0 ≤ (Ia:Int):=of_decide_eq_true (by first|(with_reducible assumption)|assumption)
            have Yj:Ia < (l0.length:Int):=of_decide_eq_true (by first|(with_reducible assumption)|assumption)
            obtain ⟨si,Js,Af,Gf,Og,Ng,Mg,Ui,Ti⟩:=tf Gh.out Ia Zj Yj
            obtain rfl:Gc=si:=(by injection Js)
            replace Af:=(HB.out.cell (World.block_lt_of_cell? w _ Af)).trans Af
            replace Gf:=(HB.out.cell (World.block_lt_of_cell? w _ Gf)).trans Gf
            replace Og:=(HB.out.cell (World.block_lt_of_cell? w _ Og)).trans Og
            replace Ng:=(HB.out.cell (World.block_lt_of_cell? w _ Ng)).trans Ng
            replace Mg:=(HB.out.cell (World.block_lt_of_cell? w _ Mg)).trans Mg
            replace Ui:=(HB.out.cell (World.block_lt_of_cell? w _ Ui)).trans Ui
            replace Ti:=(HB.out.cell (World.block_lt_of_cell? w _ Ti)).trans Ti
            replace Zj:=eq_true Zj
            replace Yj:=eq_true Yj
            try go_wp2
            have Gb:=ja.mk (ua HB.out)
            clear HB
            have HB:=Gb
            clear Gb
            have Qr:0 ≤ (Ia:Int):=of_decide_eq_true (by first|(with_reducible assumption)|assumption)
            have Pr:Ia < (l0.length:Int):=of_decide_eq_true (by first|(with_reducible assumption)|assumption)
            obtain ⟨Iy,fE,uh,th,Al,zl,yl,xl,vl⟩:=tf Gh.out Ia Qr Pr
            have Fm:=vl
            have Gm:=xl
            have Im:=yl
            have Jm:=zl
            have Km:=Al
            have Lm:=th
            have Mm:=uh
            obtain rfl:Gc=Iy:=(by injection fE)
            replace uh:=(HB.out.cell (World.block_lt_of_cell? w _ uh)).trans uh
            replace th:=(HB.out.cell (World.block_lt_of_cell? w _ th)).trans th
            replace Al:=(HB.out.cell (World.block_lt_of_cell? w _ Al)).trans Al
            replace zl:=(HB.out.cell (World.block_lt_of_cell? w _ zl)).trans zl
            replace yl:=(HB.out.cell (World.block_lt_of_cell? w _ yl)).trans yl
            replace xl:=(HB.out.cell (World.block_lt_of_cell? w _ xl)).trans xl
            replace vl:=(HB.out.cell (World.block_lt_of_cell? w _ vl)).trans vl
            replace Qr:=eq_true Qr
            replace Pr:=eq_true Pr
            refine Xj (n:=8) (S:=fun w'=>w'.cell? (Gc.add ((Ia).toNat * 7))=some (.int .i64 ((Ja l0 Ia).f0))∧w'.cell? ⟨(Gc.add ((Ia).toNat * 7)).block,(Gc.add ((Ia).toNat * 7)).off + 1,none⟩=some (.int .i64 ((Ja l0 Ia).f1))∧w'.cell? ⟨(Gc.add ((Ia).toNat * 7)).block,(Gc.add ((Ia).toNat * 7)).off + 2,none⟩=some (.int .i64 ((Ja l0 Ia).f2))∧w'.cell? ⟨(Gc.add ((Ia).toNat * 7)).block,(Gc.add ((Ia).toNat * 7)).off + 3,none⟩=some (.int .i64 ((Ja l0 Ia).f3))∧w'.cell? ⟨(Gc.add ((Ia).toNat * 7)).block,(Gc.add ((Ia).toNat * 7)).off + 4,none⟩=some (.int .i64 ((Ja l0 Ia).f4))∧w'.cell? ⟨(Gc.add ((Ia).toNat * 7)).block,(Gc.add ((Ia).toNat * 7)).off + 5,none⟩=some (.int .i64 ((Ja l0 Ia).f5))∧w'.cell? ⟨(Gc.add ((Ia).toNat * 7)).block,(Gc.add ((Ia).toNat * 7)).off + 6,none⟩=some (.string ((Ja l0 Ia).f6))) (ds:=[]) #[false,false,false,false,false,false,false,false] (by kernel_rfl) rfl rfl ⟨((HB.out.cell (World.block_lt_of_cell? w _ Mm)).trans Mm),((HB.out.cell (World.block_lt_of_cell? w _ Lm)).trans Lm),((HB.out.cell (World.block_lt_of_cell? w _ Km)).trans Km),((HB.out.cell (World.block_lt_of_cell? w _ Jm)).trans Jm),((HB.out.cell (World.block_lt_of_cell? w _ Im)).trans Im),((HB.out.cell (World.block_lt_of_cell? w _ Gm)).trans Gm),((HB.out.cell (World.block_lt_of_cell? w _ Fm)).trans Fm)⟩ (fun hHeld=>?_);refine Uh Db.UQ Db.sL (fun Cf yo=>?_)
            generalize wr.drew=Nk at HB uh th Al zl yl xl vl hHeld ⊢
            refine qd (i:=0) (N:=some 66) (v:=?_) (a':=?_) #[true,false,false,false,false,false,false,false] rfl rfl (Oc Cf.out (by kernel_rfl)) (fun _ _ _ h=>h) (Or.inl ⟨by rfl,?_⟩) ?_ ?_
            rotate_left
            ·intro w'
             go_simp
             with_reducible rfl
            rotate_left
            ·simp only [Act.put,List.setIfInBounds_toArray,List.set_cons_zero,List.set_cons_succ,Ib,Jb]
             rfl
            refine qd (i:=1) (N:=some 67) (v:=?_) (a':=?_) #[true,true,false,false,false,false,false,false] rfl rfl (Oc Cf.out (by kernel_rfl)) (fun _ _ _ h=>h) (Or.inl ⟨by rfl,?_⟩) ?_ ?_
            rotate_left
            ·intro w'
             go_simp
             with_reducible rfl
            rotate_left
            ·simp only [Act.put,List.setIfInBounds_toArray,List.set_cons_zero,List.set_cons_succ,Ib,Jb]
             rfl
            refine qd (i:=2) (N:=some 68) (v:=?_) (a':=?_) #[true,true,true,false,false,false,false,false] rfl rfl (Oc Cf.out (by kernel_rfl)) (fun _ _ _ h=>h) (Or.inl ⟨by rfl,?_⟩) ?_ ?_
            rotate_left
            ·intro w'
             go_simp
             with_reducible rfl
            rotate_left
            ·simp only [Act.put,List.setIfInBounds_toArray,List.set_cons_zero,List.set_cons_succ,Ib,Jb]
             rfl
            refine qd (i:=3) (N:=some 69) (v:=?_) (a':=?_) #[true,true,true,true,false,false,false,false] rfl rfl (Oc Cf.out (by kernel_rfl)) (fun _ _ _ h=>h) (Or.inl ⟨by rfl,?_⟩) ?_ ?_
            rotate_left
            ·intro w'
             go_simp
             with_reducible rfl
            rotate_left
            ·simp only [Act.put,List.setIfInBounds_toArray,List.set_cons_zero,List.set_cons_succ,Ib,Jb]
             rfl
            refine qd (i:=5) (N:=some 71) (v:=?_) (a':=?_) #[true,true,true,true,false,true,false,false] rfl rfl (Oc Cf.out (by kernel_rfl)) (fun _ _ _ h=>h) (Or.inl ⟨by rfl,?_⟩) ?_ ?_
            rotate_left
            ·intro w'
             go_simp
             with_reducible rfl
            rotate_left
            ·simp only [Act.put,List.setIfInBounds_toArray,List.set_cons_zero,List.set_cons_succ,Ib,Jb]
             rfl
            refine sg (i:=4) (N:=some 70) (v:=?_) (a':=?_) #[true,true,true,true,true,true,false,false] rfl rfl (af Cf.out yo.out (by kernel_rfl)) (fun _ _ _ h=>h) (Or.inl ⟨by rfl,?_⟩) hHeld ?_ ?_
            rotate_left
            ·rintro w' ⟨s0,s1,s2,s3,s4,s5,s6⟩
             go_simp
             with_reducible rfl
            rotate_left
            ·simp only [Act.put,List.setIfInBounds_toArray,List.set_cons_zero,List.set_cons_succ,Ib,Jb]
             rfl
            refine Vo (i:=6) (N:=some 72) #[true,true,true,true,true,true,true,false] rfl rfl (Pk Cf.out (by kernel_rfl)) (by decide) (fun K hK=>?_)
            refine Kn Try.func121 (by kernel_rfl) rfl #[.int .i64 (wrap64 ((wrap64 ((wrap64 ((wrap64 ((wrap64 ((wrap64 (Md + 1)) + 1)) + 1)) + 1)) + 1)) + 1))] (by rfl) rfl rfl (by (try simp only [List.map_toArray,List.map_cons,List.map_nil]);first|done|rfl|(simp only [List.length_drop,List.length_take];rfl)) ?_
            with_reducible refine (Pb.calls k1 (wrap64 ((wrap64 ((wrap64 ((wrap64 ((wrap64 ((wrap64 (Md + 1)) + 1)) + 1)) + 1)) + 1)) + 1)) t108 _ QL.out).mono ?_
            rintro e az ⟨rfl,hb⟩
            refine ⟨_,rfl,?_⟩
            have Gb:=ja.mk (Qa (by repeat (first|(with_reducible first|exact HB.out|apply qa|apply ia|apply ua)|exact HB.out)) hb)
            clear HB
            have HB:=Gb
            clear Gb
            (try clear hb)
            (try clear hb2)
            (try clear hk)
            (try clear hi)
            refine hK.out _ _ ⟨((HB.out.cell (World.block_lt_of_cell? w _ Mm)).trans Mm),((HB.out.cell (World.block_lt_of_cell? w _ Lm)).trans Lm),((HB.out.cell (World.block_lt_of_cell? w _ Km)).trans Km),((HB.out.cell (World.block_lt_of_cell? w _ Jm)).trans Jm),((HB.out.cell (World.block_lt_of_cell? w _ Im)).trans Im),((HB.out.cell (World.block_lt_of_cell? w _ Gm)).trans Gm),((HB.out.cell (World.block_lt_of_cell? w _ Fm)).trans Fm)⟩ (fun hHeld=>?_)
            clear hK K
            refine Vj (a':=?_) ?_ ?_
            rotate_left
            ·show Act.put _ (some 72) _=_
             simp only [Act.put,List.setIfInBounds_toArray,List.set_cons_zero,List.set_cons_succ,Ib,Jb]
             rfl
            refine qd (i:=7) (N:=some 73) (v:=?_) (a':=?_) #[true,true,true,true,true,true,true,true] rfl rfl (Oc Cf.out (by kernel_rfl)) (fun _ _ _ h=>h) (Or.inl ⟨by rfl,?_⟩) ?_ ?_
            rotate_left
            ·intro w'
             go_simp
             with_reducible rfl
            rotate_left
            ·simp only [Act.put,List.setIfInBounds_toArray,List.set_cons_zero,List.set_cons_succ,Ib,Jb]
             rfl
            refine wm (Sj Cf.out (by kernel_rfl)) ?_
            try go_wp2
            go_ret
            exact ⟨by first|rfl|(simp [La,Ka] <;> rfl)|(simp [*,La,Ka] <;> rfl),by repeat (first|(with_reducible first|exact HB.out|apply qa|apply ia|apply ua)|exact HB.out)⟩
          ·rw [if_neg wo] at H
           have Eu:(((Ja l0 Ia).f5) == (wrap64 ((wrap64 ((wrap64 ((wrap64 ((wrap64 (Md + 1)) + 1)) + 1)) + 1)) + 1)))=false:=beq_eq_false_iff_ne.mpr wo
           have Ey:(((Ja l0 Ia).f5) != (wrap64 ((wrap64 ((wrap64 ((wrap64 ((wrap64 (Md + 1)) + 1)) + 1)) + 1)) + 1)))=true:=bne_iff_ne.mpr wo
           obtain rfl:=Option.some.inj H
           have Je:0 ≤ (Ia:Int):=of_decide_eq_true (by first|(with_reducible assumption)|assumption)
           have Ie:Ia < (l0.length:Int):=of_decide_eq_true (by first|(with_reducible assumption)|assumption)
           obtain ⟨Gc,Tg,Ub,ic,fc,dc,Zb,ze,ye⟩:=tf Gh.out Ia Je Ie
           cases Tg
           replace Ub:=(HB.out.cell (World.block_lt_of_cell? w _ Ub)).trans Ub
           replace ic:=(HB.out.cell (World.block_lt_of_cell? w _ ic)).trans ic
           replace fc:=(HB.out.cell (World.block_lt_of_cell? w _ fc)).trans fc
           replace dc:=(HB.out.cell (World.block_lt_of_cell? w _ dc)).trans dc
           replace Zb:=(HB.out.cell (World.block_lt_of_cell? w _ Zb)).trans Zb
           replace ze:=(HB.out.cell (World.block_lt_of_cell? w _ ze)).trans ze
           replace ye:=(HB.out.cell (World.block_lt_of_cell? w _ ye)).trans ye
           replace Je:=eq_true Je
           replace Ie:=eq_true Ie
           have Gg:0 ≤ (Ia:Int):=of_decide_eq_true (by first|(with_reducible assumption)|assumption)
           have Fg:Ia < (l0.length:Int):=of_decide_eq_true (by first|(with_reducible assumption)|assumption)
           obtain ⟨bf,Fl,Ed,ee,xe,we,ue,Ze,Ye⟩:=tf Gh.out Ia Gg Fg
           obtain rfl:Gc=bf:=(by injection Fl)
           replace Ed:=(HB.out.cell (World.block_lt_of_cell? w _ Ed)).trans Ed
           replace ee:=(HB.out.cell (World.block_lt_of_cell? w _ ee)).trans ee
           replace xe:=(HB.out.cell (World.block_lt_of_cell? w _ xe)).trans xe
           replace we:=(HB.out.cell (World.block_lt_of_cell? w _ we)).trans we
           replace ue:=(HB.out.cell (World.block_lt_of_cell? w _ ue)).trans ue
           replace Ze:=(HB.out.cell (World.block_lt_of_cell? w _ Ze)).trans Ze
           replace Ye:=(HB.out.cell (World.block_lt_of_cell? w _ Ye)).trans Ye
           replace Gg:=eq_true Gg
           replace Fg:=eq_true Fg
           have Ah:0 ≤ (Ia:Int):=of_decide_eq_true (by first|(with_reducible assumption)|assumption)
           have yh:Ia < (l0.length:Int):=of_decide_eq_true (by first|(with_reducible assumption)|assumption)
           obtain ⟨Kf,vm,Gd,Xd,Wd,Vd,Ud,zf,yf⟩:=tf Gh.out Ia Ah yh
           obtain rfl:Gc=Kf:=(by injection vm)
           replace Gd:=(HB.out.cell (World.block_lt_of_cell? w _ Gd)).trans Gd
           replace Xd:=(HB.out.cell (World.block_lt_of_cell? w _ Xd)).trans Xd
           replace Wd:=(HB.out.cell (World.block_lt_of_cell? w _ Wd)).trans Wd
           replace Vd:=(HB.out.cell (World.block_lt_of_cell? w _ Vd)).trans Vd
           replace Ud:=(HB.out.cell (World.block_lt_of_cell? w _ Ud)).trans Ud
           replace zf:=(HB.out.cell (World.block_lt_of_cell? w _ zf)).trans zf
           replace yf:=(HB.out.cell (World.block_lt_of_cell? w _ yf)).trans yf
           replace Ah:=eq_true Ah
           replace yh:=eq_true yh
           have zh:0 ≤ (Ia:Int):=of_decide_eq_true (by first|(with_reducible assumption)|assumption)
           have xh:Ia < (l0.length:Int):=of_decide_eq_true (by first|(with_reducible assumption)|assumption)
           obtain ⟨Wj,um,Zd,Me,Ue,Te,Re,Qg,Pg⟩:=tf Gh.out Ia zh xh
           obtain rfl:Gc=Wj:=(by injection um)
           replace Zd:=(HB.out.cell (World.block_lt_of_cell? w _ Zd)).trans Zd
           replace Me:=(HB.out.cell (World.block_lt_of_cell? w _ Me)).trans Me
           replace Ue:=(HB.out.cell (World.block_lt_of_cell? w _ Ue)).trans Ue
           replace Te:=(HB.out.cell (World.block_lt_of_cell? w _ Te)).trans Te
           replace Re:=(HB.out.cell (World.block_lt_of_cell? w _ Re)).trans Re
           replace Qg:=(HB.out.cell (World.block_lt_of_cell? w _ Qg)).trans Qg
           replace Pg:=(HB.out.cell (World.block_lt_of_cell? w _ Pg)).trans Pg
           replace zh:=eq_true zh
           replace xh:=eq_true xh
           have Wh:0 ≤ (Ia:Int):=of_decide_eq_true (by first|(with_reducible assumption)|assumption)
           have Vh:Ia < (l0.length:Int):=of_decide_eq_true (by first|(with_reducible assumption)|assumption)
           obtain ⟨Th,Ln,qe,Ge,Fe,Ee,De,Wi,Vi⟩:=tf Gh.out Ia Wh Vh
           obtain rfl:Gc=Th:=(by injection Ln)
           replace qe:=(HB.out.cell (World.block_lt_of_cell? w _ qe)).trans qe
           replace Ge:=(HB.out.cell (World.block_lt_of_cell? w _ Ge)).trans Ge
           replace Fe:=(HB.out.cell (World.block_lt_of_cell? w _ Fe)).trans Fe
           replace Ee:=(HB.out.cell (World.block_lt_of_cell? w _ Ee)).trans Ee
           replace De:=(HB.out.cell (World.block_lt_of_cell? w _ De)).trans De
           replace Wi:=(HB.out.cell (World.block_lt_of_cell? w _ Wi)).trans Wi
           replace Vi:=(HB.out.cell (World.block_lt_of_cell? w _ Vi)).trans Vi
           replace Wh:=eq_true Wh
           replace Vh:=eq_true Vh
           have Zj:0 ≤ (Ia:Int):=of_decide_eq_true (by first|(with_reducible assumption)|assumption)
           have Yj:Ia < (l0.length:Int):=of_decide_eq_true (by first|(with_reducible assumption)|assumption)
           obtain ⟨si,Js,Af,Gf,Og,Ng,Mg,Ui,Ti⟩:=tf Gh.out Ia Zj Yj
           obtain rfl:Gc=si:=(by injection Js)
           replace Af:=(HB.out.cell (World.block_lt_of_cell? w _ Af)).trans Af
           replace Gf:=(HB.out.cell (World.block_lt_of_cell? w _ Gf)).trans Gf
           replace Og:=(HB.out.cell (World.block_lt_of_cell? w _ Og)).trans Og
           replace Ng:=(HB.out.cell (World.block_lt_of_cell? w _ Ng)).trans Ng
           replace Mg:=(HB.out.cell (World.block_lt_of_cell? w _ Mg)).trans Mg
           replace Ui:=(HB.out.cell (World.block_lt_of_cell? w _ Ui)).trans Ui
           replace Ti:=(HB.out.cell (World.block_lt_of_cell? w _ Ti)).trans Ti
           replace Zj:=eq_true Zj
           replace Yj:=eq_true Yj
           go_wp2
           go_ret
           exact ⟨by first|rfl|(simp [La,Ka] <;> rfl)|(simp [*,La,Ka] <;> rfl),by repeat (first|(with_reducible first|exact HB.out|apply qa|apply ia|apply ua)|exact HB.out)⟩
         ·rw [if_neg c9] at H
          have xy:(((Ja l0 Ia).f4) == (wrap64 ((wrap64 ((wrap64 ((wrap64 (Md + 1)) + 1)) + 1)) + 1)))=false:=beq_eq_false_iff_ne.mpr c9
          have mB:(((Ja l0 Ia).f4) != (wrap64 ((wrap64 ((wrap64 ((wrap64 (Md + 1)) + 1)) + 1)) + 1)))=true:=bne_iff_ne.mpr c9
          obtain rfl:=Option.some.inj H
          have Je:0 ≤ (Ia:Int):=of_decide_eq_true (by first|(with_reducible assumption)|assumption)
          have Ie:Ia < (l0.length:Int):=of_decide_eq_true (by first|(with_reducible assumption)|assumption)
          obtain ⟨Gc,Tg,Ub,ic,fc,dc,Zb,ze,ye⟩:=tf Gh.out Ia Je Ie
          cases Tg
          replace Ub:=(HB.out.cell (World.block_lt_of_cell? w _ Ub)).trans Ub
          replace ic:=(HB.out.cell (World.block_lt_of_cell? w _ ic)).trans ic
          replace fc:=(HB.out.cell (World.block_lt_of_cell? w _ fc)).trans fc
          replace dc:=(HB.out.cell (World.block_lt_of_cell? w _ dc)).trans dc
          replace Zb:=(HB.out.cell (World.block_lt_of_cell? w _ Zb)).trans Zb
          replace ze:=(HB.out.cell (World.block_lt_of_cell? w _ ze)).trans ze
          replace ye:=(HB.out.cell (World.block_lt_of_cell? w _ ye)).trans ye
          replace Je:=eq_true Je
          replace Ie:=eq_true Ie
          have Gg:0 ≤ (Ia:Int):=of_decide_eq_true (by first|(with_reducible assumption)|assumption)
          have Fg:Ia < (l0.length:Int):=of_decide_eq_true (by first|(with_reducible assumption)|assumption)
          obtain ⟨bf,Fl,Ed,ee,xe,we,ue,Ze,Ye⟩:=tf Gh.out Ia Gg Fg
          obtain rfl:Gc=bf:=(by injection Fl)
          replace Ed:=(HB.out.cell (World.block_lt_of_cell? w _ Ed)).trans Ed
          replace ee:=(HB.out.cell (World.block_lt_of_cell? w _ ee)).trans ee
          replace xe:=(HB.out.cell (World.block_lt_of_cell? w _ xe)).trans xe
          replace we:=(HB.out.cell (World.block_lt_of_cell? w _ we)).trans we
          replace ue:=(HB.out.cell (World.block_lt_of_cell? w _ ue)).trans ue
          replace Ze:=(HB.out.cell (World.block_lt_of_cell? w _ Ze)).trans Ze
          replace Ye:=(HB.out.cell (World.block_lt_of_cell? w _ Ye)).trans Ye
          replace Gg:=eq_true Gg
          replace Fg:=eq_true Fg
          have Ah:0 ≤ (Ia:Int):=of_decide_eq_true (by first|(with_reducible assumption)|assumption)
          have yh:Ia < (l0.length:Int):=of_decide_eq_true (by first|(with_reducible assumption)|assumption)
          obtain ⟨Kf,vm,Gd,Xd,Wd,Vd,Ud,zf,yf⟩:=tf Gh.out Ia Ah yh
          obtain rfl:Gc=Kf:=(by injection vm)
          replace Gd:=(HB.out.cell (World.block_lt_of_cell? w _ Gd)).trans Gd
          replace Xd:=(HB.out.cell (World.block_lt_of_cell? w _ Xd)).trans Xd
          replace Wd:=(HB.out.cell (World.block_lt_of_cell? w _ Wd)).trans Wd
          replace Vd:=(HB.out.cell (World.block_lt_of_cell? w _ Vd)).trans Vd
          replace Ud:=(HB.out.cell (World.block_lt_of_cell? w _ Ud)).trans Ud
          replace zf:=(HB.out.cell (World.block_lt_of_cell? w _ zf)).trans zf
          replace yf:=(HB.out.cell (World.block_lt_of_cell? w _ yf)).trans yf
          replace Ah:=eq_true Ah
          replace yh:=eq_true yh
          have zh:0 ≤ (Ia:Int):=of_decide_eq_true (by first|(with_reducible assumption)|assumption)
          have xh:Ia < (l0.length:Int):=of_decide_eq_true (by first|(with_reducible assumption)|assumption)
          obtain ⟨Wj,um,Zd,Me,Ue,Te,Re,Qg,Pg⟩:=tf Gh.out Ia zh xh
          obtain rfl:Gc=Wj:=(by injection um)
          replace Zd:=(HB.out.cell (World.block_lt_of_cell? w _ Zd)).trans Zd
          replace Me:=(HB.out.cell (World.block_lt_of_cell? w _ Me)).trans Me
          replace Ue:=(HB.out.cell (World.block_lt_of_cell? w _ Ue)).trans Ue
          replace Te:=(HB.out.cell (World.block_lt_of_cell? w _ Te)).trans Te
          replace Re:=(HB.out.cell (World.block_lt_of_cell? w _ Re)).trans Re
          replace Qg:=(HB.out.cell (World.block_lt_of_cell? w _ Qg)).trans Qg
          replace Pg:=(HB.out.cell (World.block_lt_of_cell? w _ Pg)).trans Pg
          replace zh:=eq_true zh
          replace xh:=eq_true xh
          have Wh:0 ≤ (Ia:Int):=of_decide_eq_true (by first|(with_reducible assumption)|assumption)
          have Vh:Ia < (l0.length:Int):=of_decide_eq_true (by first|(with_reducible assumption)|assumption)
          obtain ⟨Th,Ln,qe,Ge,Fe,Ee,De,Wi,Vi⟩:=tf Gh.out Ia Wh Vh
          obtain rfl:Gc=Th:=(by injection Ln)
          replace qe:=(HB.out.cell (World.block_lt_of_cell? w _ qe)).trans qe
          replace Ge:=(HB.out.cell (World.block_lt_of_cell? w _ Ge)).trans Ge
          replace Fe:=(HB.out.cell (World.block_lt_of_cell? w _ Fe)).trans Fe
          replace Ee:=(HB.out.cell (World.block_lt_of_cell? w _ Ee)).trans Ee
          replace De:=(HB.out.cell (World.block_lt_of_cell? w _ De)).trans De
          replace Wi:=(HB.out.cell (World.block_lt_of_cell? w _ Wi)).trans Wi
          replace Vi:=(HB.out.cell (World.block_lt_of_cell? w _ Vi)).trans Vi
          replace Wh:=eq_true Wh
          replace Vh:=eq_true Vh
          go_wp2
          go_ret
          exact ⟨by first|rfl|(simp [La,Ka] <;> rfl)|(simp [*,La,Ka] <;> rfl),by repeat (first|(with_reducible first|exact HB.out|apply qa|apply ia|apply ua)|exact HB.out)⟩
        ·rw [if_neg c8] at H
         have Ll:(((Ja l0 Ia).f3) == (wrap64 ((wrap64 ((wrap64 (Md + 1)) + 1)) + 1)))=false:=beq_eq_false_iff_ne.mpr c8
         have mq:(((Ja l0 Ia).f3) != (wrap64 ((wrap64 ((wrap64 (Md + 1)) + 1)) + 1)))=true:=bne_iff_ne.mpr c8
         obtain rfl:=Option.some.inj H
         have Je:0 ≤ (Ia:Int):=of_decide_eq_true (by first|(with_reducible assumption)|assumption)
         have Ie:Ia < (l0.length:Int):=of_decide_eq_true (by first|(with_reducible assumption)|assumption)
         obtain ⟨Gc,Tg,Ub,ic,fc,dc,Zb,ze,ye⟩:=tf Gh.out Ia Je Ie
         cases Tg
         replace Ub:=(HB.out.cell (World.block_lt_of_cell? w _ Ub)).trans Ub
         replace ic:=(HB.out.cell (World.block_lt_of_cell? w _ ic)).trans ic
         replace fc:=(HB.out.cell (World.block_lt_of_cell? w _ fc)).trans fc
         replace dc:=(HB.out.cell (World.block_lt_of_cell? w _ dc)).trans dc
         replace Zb:=(HB.out.cell (World.block_lt_of_cell? w _ Zb)).trans Zb
         replace ze:=(HB.out.cell (World.block_lt_of_cell? w _ ze)).trans ze
         replace ye:=(HB.out.cell (World.block_lt_of_cell? w _ ye)).trans ye
         replace Je:=eq_true Je
         replace Ie:=eq_true Ie
         have Gg:0 ≤ (Ia:Int):=of_decide_eq_true (by first|(with_reducible assumption)|assumption)
         have Fg:Ia < (l0.length:Int):=of_decide_eq_true (by first|(with_reducible assumption)|assumption)
         obtain ⟨bf,Fl,Ed,ee,xe,we,ue,Ze,Ye⟩:=tf Gh.out Ia Gg Fg
         obtain rfl:Gc=bf:=(by injection Fl)
         replace Ed:=(HB.out.cell (World.block_lt_of_cell? w _ Ed)).trans Ed
         replace ee:=(HB.out.cell (World.block_lt_of_cell? w _ ee)).trans ee
         replace xe:=(HB.out.cell (World.block_lt_of_cell? w _ xe)).trans xe
         replace we:=(HB.out.cell (World.block_lt_of_cell? w _ we)).trans we
         replace ue:=(HB.out.cell (World.block_lt_of_cell? w _ ue)).trans ue
         replace Ze:=(HB.out.cell (World.block_lt_of_cell? w _ Ze)).trans Ze
         replace Ye:=(HB.out.cell (World.block_lt_of_cell? w _ Ye)).trans Ye
         replace Gg:=eq_true Gg
         replace Fg:=eq_true Fg
         have Ah:0 ≤ (Ia:Int):=of_decide_eq_true (by first|(with_reducible assumption)|assumption)
         have yh:Ia < (l0.length:Int):=of_decide_eq_true (by first|(with_reducible assumption)|assumption)
         obtain ⟨Kf,vm,Gd,Xd,Wd,Vd,Ud,zf,yf⟩:=tf Gh.out Ia Ah yh
         obtain rfl:Gc=Kf:=(by injection vm)
         replace Gd:=(HB.out.cell (World.block_lt_of_cell? w _ Gd)).trans Gd
         replace Xd:=(HB.out.cell (World.block_lt_of_cell? w _ Xd)).trans Xd
         replace Wd:=(HB.out.cell (World.block_lt_of_cell? w _ Wd)).trans Wd
         replace Vd:=(HB.out.cell (World.block_lt_of_cell? w _ Vd)).trans Vd
         replace Ud:=(HB.out.cell (World.block_lt_of_cell? w _ Ud)).trans Ud
         replace zf:=(HB.out.cell (World.block_lt_of_cell? w _ zf)).trans zf
         replace yf:=(HB.out.cell (World.block_lt_of_cell? w _ yf)).trans yf
         replace Ah:=eq_true Ah
         replace yh:=eq_true yh
         have zh:0 ≤ (Ia:Int):=of_decide_eq_true (by first|(with_reducible assumption)|assumption)
         have xh:Ia < (l0.length:Int):=of_decide_eq_true (by first|(with_reducible assumption)|assumption)
         obtain ⟨Wj,um,Zd,Me,Ue,Te,Re,Qg,Pg⟩:=tf Gh.out Ia zh xh
         obtain rfl:Gc=Wj:=(by injection um)
         replace Zd:=(HB.out.cell (World.block_lt_of_cell? w _ Zd)).trans Zd
         replace Me:=(HB.out.cell (World.block_lt_of_cell? w _ Me)).trans Me
         replace Ue:=(HB.out.cell (World.block_lt_of_cell? w _ Ue)).trans Ue
         replace Te:=(HB.out.cell (World.block_lt_of_cell? w _ Te)).trans Te
         replace Re:=(HB.out.cell (World.block_lt_of_cell? w _ Re)).trans Re
         replace Qg:=(HB.out.cell (World.block_lt_of_cell? w _ Qg)).trans Qg
         replace Pg:=(HB.out.cell (World.block_lt_of_cell? w _ Pg)).trans Pg
         replace zh:=eq_true zh
         replace xh:=eq_true xh
         go_wp2
         go_ret
         exact ⟨by first|rfl|(simp [La,Ka] <;> rfl)|(simp [*,La,Ka] <;> rfl),by repeat (first|(with_reducible first|exact HB.out|apply qa|apply ia|apply ua)|exact HB.out)⟩
       ·rw [if_neg c7] at H
        have bp:(((Ja l0 Ia).f2) == (wrap64 ((wrap64 (Md + 1)) + 1)))=false:=beq_eq_false_iff_ne.mpr c7
        have Zu:(((Ja l0 Ia).f2) != (wrap64 ((wrap64 (Md + 1)) + 1)))=true:=bne_iff_ne.mpr c7
        obtain rfl:=Option.some.inj H
        have Je:0 ≤ (Ia:Int):=of_decide_eq_true (by first|(with_reducible assumption)|assumption)
        have Ie:Ia < (l0.length:Int):=of_decide_eq_true (by first|(with_reducible assumption)|assumption)
        obtain ⟨Gc,Tg,Ub,ic,fc,dc,Zb,ze,ye⟩:=tf Gh.out Ia Je Ie
        cases Tg
        replace Ub:=(HB.out.cell (World.block_lt_of_cell? w _ Ub)).trans Ub
        replace ic:=(HB.out.cell (World.block_lt_of_cell? w _ ic)).trans ic
        replace fc:=(HB.out.cell (World.block_lt_of_cell? w _ fc)).trans fc
        replace dc:=(HB.out.cell (World.block_lt_of_cell? w _ dc)).trans dc
        replace Zb:=(HB.out.cell (World.block_lt_of_cell? w _ Zb)).trans Zb
        replace ze:=(HB.out.cell (World.block_lt_of_cell? w _ ze)).trans ze
        replace ye:=(HB.out.cell (World.block_lt_of_cell? w _ ye)).trans ye
        replace Je:=eq_true Je
        replace Ie:=eq_true Ie
        have Gg:0 ≤ (Ia:Int):=of_decide_eq_true (by first|(with_reducible assumption)|assumption)
        have Fg:Ia < (l0.length:Int):=of_decide_eq_true (by first|(with_reducible assumption)|assumption)
        obtain ⟨bf,Fl,Ed,ee,xe,we,ue,Ze,Ye⟩:=tf Gh.out Ia Gg Fg
        obtain rfl:Gc=bf:=(by injection Fl)
        replace Ed:=(HB.out.cell (World.block_lt_of_cell? w _ Ed)).trans Ed
        replace ee:=(HB.out.cell (World.block_lt_of_cell? w _ ee)).trans ee
        replace xe:=(HB.out.cell (World.block_lt_of_cell? w _ xe)).trans xe
        replace we:=(HB.out.cell (World.block_lt_of_cell? w _ we)).trans we
        replace ue:=(HB.out.cell (World.block_lt_of_cell? w _ ue)).trans ue
        replace Ze:=(HB.out.cell (World.block_lt_of_cell? w _ Ze)).trans Ze
        replace Ye:=(HB.out.cell (World.block_lt_of_cell? w _ Ye)).trans Ye
        replace Gg:=eq_true Gg
        replace Fg:=eq_true Fg
        have Ah:0 ≤ (Ia:Int):=of_decide_eq_true (by first|(with_reducible assumption)|assumption)
        have yh:Ia < (l0.length:Int):=of_decide_eq_true (by first|(with_reducible assumption)|assumption)
        obtain ⟨Kf,vm,Gd,Xd,Wd,Vd,Ud,zf,yf⟩:=tf Gh.out Ia Ah yh
        obtain rfl:Gc=Kf:=(by injection vm)
        replace Gd:=(HB.out.cell (World.block_lt_of_cell? w _ Gd)).trans Gd
        replace Xd:=(HB.out.cell (World.block_lt_of_cell? w _ Xd)).trans Xd
        replace Wd:=(HB.out.cell (World.block_lt_of_cell? w _ Wd)).trans Wd
        replace Vd:=(HB.out.cell (World.block_lt_of_cell? w _ Vd)).trans Vd
        replace Ud:=(HB.out.cell (World.block_lt_of_cell? w _ Ud)).trans Ud
        replace zf:=(HB.out.cell (World.block_lt_of_cell? w _ zf)).trans zf
        replace yf:=(HB.out.cell (World.block_lt_of_cell? w _ yf)).trans yf
        replace Ah:=eq_true Ah
        replace yh:=eq_true yh
        go_wp2
        go_ret
        exact ⟨by first|rfl|(simp [La,Ka] <;> rfl)|(simp [*,La,Ka] <;> rfl),by repeat (first|(with_reducible first|exact HB.out|apply qa|apply ia|apply ua)|exact HB.out)⟩
      ·rw [if_neg c6] at H
       have cm:(((Ja l0 Ia).f1) == (wrap64 (Md + 1)))=false:=beq_eq_false_iff_ne.mpr c6
       have av:(((Ja l0 Ia).f1) != (wrap64 (Md + 1)))=true:=bne_iff_ne.mpr c6
       obtain rfl:=Option.some.inj H
       have Je:0 ≤ (Ia:Int):=of_decide_eq_true (by first|(with_reducible assumption)|assumption)
       have Ie:Ia < (l0.length:Int):=of_decide_eq_true (by first|(with_reducible assumption)|assumption)
       obtain ⟨Gc,Tg,Ub,ic,fc,dc,Zb,ze,ye⟩:=tf Gh.out Ia Je Ie
       cases Tg
       replace Ub:=(HB.out.cell (World.block_lt_of_cell? w _ Ub)).trans Ub
       replace ic:=(HB.out.cell (World.block_lt_of_cell? w _ ic)).trans ic
       replace fc:=(HB.out.cell (World.block_lt_of_cell? w _ fc)).trans fc
       replace dc:=(HB.out.cell (World.block_lt_of_cell? w _ dc)).trans dc
       replace Zb:=(HB.out.cell (World.block_lt_of_cell? w _ Zb)).trans Zb
       replace ze:=(HB.out.cell (World.block_lt_of_cell? w _ ze)).trans ze
       replace ye:=(HB.out.cell (World.block_lt_of_cell? w _ ye)).trans ye
       replace Je:=eq_true Je
       replace Ie:=eq_true Ie
       have Gg:0 ≤ (Ia:Int):=of_decide_eq_true (by first|(with_reducible assumption)|assumption)
       have Fg:Ia < (l0.length:Int):=of_decide_eq_true (by first|(with_reducible assumption)|assumption)
       obtain ⟨bf,Fl,Ed,ee,xe,we,ue,Ze,Ye⟩:=tf Gh.out Ia Gg Fg
       obtain rfl:Gc=bf:=(by injection Fl)
       replace Ed:=(HB.out.cell (World.block_lt_of_cell? w _ Ed)).trans Ed
       replace ee:=(HB.out.cell (World.block_lt_of_cell? w _ ee)).trans ee
       replace xe:=(HB.out.cell (World.block_lt_of_cell? w _ xe)).trans xe
       replace we:=(HB.out.cell (World.block_lt_of_cell? w _ we)).trans we
       replace ue:=(HB.out.cell (World.block_lt_of_cell? w _ ue)).trans ue
       replace Ze:=(HB.out.cell (World.block_lt_of_cell? w _ Ze)).trans Ze
       replace Ye:=(HB.out.cell (World.block_lt_of_cell? w _ Ye)).trans Ye
       replace Gg:=eq_true Gg
       replace Fg:=eq_true Fg
       go_wp2
       go_ret
       exact ⟨by first|rfl|(simp [La,Ka] <;> rfl)|(simp [*,La,Ka] <;> rfl),by repeat (first|(with_reducible first|exact HB.out|apply qa|apply ia|apply ua)|exact HB.out)⟩
     ·rw [if_neg c5] at H
      have Il:(((Ja l0 Ia).f0) == Md)=false:=beq_eq_false_iff_ne.mpr c5
      have Bq:(((Ja l0 Ia).f0) != Md)=true:=bne_iff_ne.mpr c5
      obtain rfl:=Option.some.inj H
      have Je:0 ≤ (Ia:Int):=of_decide_eq_true (by first|(with_reducible assumption)|assumption)
      have Ie:Ia < (l0.length:Int):=of_decide_eq_true (by first|(with_reducible assumption)|assumption)
      obtain ⟨Gc,Tg,Ub,ic,fc,dc,Zb,ze,ye⟩:=tf Gh.out Ia Je Ie
      cases Tg
      replace Ub:=(HB.out.cell (World.block_lt_of_cell? w _ Ub)).trans Ub
      replace ic:=(HB.out.cell (World.block_lt_of_cell? w _ ic)).trans ic
      replace fc:=(HB.out.cell (World.block_lt_of_cell? w _ fc)).trans fc
      replace dc:=(HB.out.cell (World.block_lt_of_cell? w _ dc)).trans dc
      replace Zb:=(HB.out.cell (World.block_lt_of_cell? w _ Zb)).trans Zb
      replace ze:=(HB.out.cell (World.block_lt_of_cell? w _ ze)).trans ze
      replace ye:=(HB.out.cell (World.block_lt_of_cell? w _ ye)).trans ye
      replace Je:=eq_true Je
      replace Ie:=eq_true Ie
      go_wp2
      go_ret
      exact ⟨by first|rfl|(simp [La,Ka] <;> rfl)|(simp [*,La,Ka] <;> rfl),by repeat (first|(with_reducible first|exact HB.out|apply qa|apply ia|apply ua)|exact HB.out)⟩
    ·rw [if_neg c4] at H
     exact absurd H (by simp)
   ·rw [if_neg c3] at H
    have Zh:decide (Ia < (l0.length:Int))=false:=decide_eq_false c3
    clear c3
    obtain rfl:=Option.some.inj H
    go_wp2
    go_ret
    exact ⟨by first|rfl|(simp [La,Ka] <;> rfl)|(simp [*,La,Ka] <;> rfl),by repeat (first|(with_reducible first|exact HB.out|apply qa|apply ia|apply ua)|exact HB.out)⟩
def Nc.l0:Nat→List Int→Int→Int→Option (Int)
 | 0,_,_,_=>none
 | k + 1,x0,x1,x5=>if x5 < (x0.length:Int) then (if 0 ≤ x5 then (if (rd x0 x5)=x1 then (Nc.l0 k x0 (wrap64 (x1 + 1)) (wrap64 (x5 + 1))) else (some (-1))) else (none)) else (some x1)
def Nc.f (k:Nat) (l0:List Int) (a1:Int):Option (Int):=Nc.l0 k l0 a1 0
theorem Nc.Sd:∀ k,(∀ y0 y1 y2,Lb (Nc.l0 k y0 y1 y2) (Nc.l0 (k + 1) y0 y1 y2))
 | 0=>fun _ _ _ r h=>by simp [Nc.l0] at h
 | k + 1=>by
  have Ff:=Nc.Sd k
  ·intro y0 y1 y2
   unfold Nc.l0
   repeat' first
   | (with_reducible exact Ff _ _ _)
   | (with_reducible exact Lb.refl _)
   | (with_reducible exact Lb.none _)
   | (with_reducible refine Lb.ite ?_ ?_)
   | (with_reducible refine Lb.bind ?_ (fun _=>?_))
   | exact Ff _ _ _
   | exact Lb.none _
   | refine Lb.ite ?_ ?_
   | refine Lb.bind ?_ (fun _=>?_)
theorem Nc.mono:∀ a0 a1 k,Lb (Nc.f k a0 a1) (Nc.f (k + 1) a0 a1):=by
 intro a0 a1 k
 have Ff:=Nc.Sd k
 unfold Nc.f
 repeat' first
   | (with_reducible exact Ff _ _ _)
   | (with_reducible exact Lb.refl _)
   | (with_reducible exact Lb.none _)
   | (with_reducible refine Lb.ite ?_ ?_)
   | (with_reducible refine Lb.bind ?_ (fun _=>?_))
   | exact Ff _ _ _
   | exact Lb.none _
   | refine Lb.ite ?_ ?_
   | refine Lb.bind ?_ (fun _=>?_)
set_option maxHeartbeats 8000000 in
set_option maxRecDepth 100000 in
theorem Nc.calls (k:Nat) (A0:Option Addr) (c0:Nat) (l0:List Int) (a1:Int) (r:Int) (w:World) (hr0:Kd.C (Kd.int .i64) w A0 l0.length l0) (hc0:l0.length ≤ c0) (h:Nc.f k l0 a1=some r) :
  Calls Try.prog 23 #[.slice A0 l0.length c0,.int .i64 a1] w fun e w'=>e = .returned (.int .i64 r)∧uc w w':=by
 have Gh:=ja.mk hr0
 have dw:=ja.mk hc0
 clear hr0 hc0
 have H:(Nc.l0 k l0 a1 0)=some r:=h
 clear h
 have H':=ja.mk H
 clear H
 go_enter Try.func23,Try.ntmps23
 go_wp2
 go_loopg [1,5] k (fun kq v1 v5 w'=>∃ (Md:Int) (Ia:Int),v1 = .int .i64 Md∧v5 = .int .i64 Ia∧ja (Nc.l0 kq l0 Md Ia=some r)∧ja (kq ≤ k)∧uc w w')
 case atStart=>exact ⟨(a1),(0),(by first|rfl|(simp;done)|(simp [*];done)),(by first|rfl|(simp;done)|(simp [*];done)),H',⟨Nat.le_refl _⟩,by repeat (first|exact uc.refl _|apply uc.step)⟩
 case round =>
  clear H'
  try clear c2
  try clear p2
  (try clear HA)
  (try clear Yg)
  obtain ⟨Md,Ia,rfl,rfl,HA,Yg,⟨m1,rfl⟩⟩:=hrel
  cases gk with
  | zero=>exact absurd HA.out (by simp [Nc.l0])
  | succ k1 =>
   have H:=HA.out
   clear HA
   simp only [Nc.l0] at H
   by_cases c3:Ia < (l0.length:Int)
   ·rw [if_pos c3] at H
    have Zh:decide (Ia < (l0.length:Int))=true:=decide_eq_true c3
    clear c3
    by_cases c4:0 ≤ Ia
    ·rw [if_pos c4] at H
     have Gi:decide (0 ≤ Ia)=true:=decide_eq_true c4
     clear c4
     by_cases c5:(rd l0 Ia)=Md
     ·rw [if_pos c5] at H
      have Il:((rd l0 Ia) == Md)=true:=beq_iff_eq.mpr c5
      have Bq:((rd l0 Ia) != Md)=false:=bne_eq_false_iff_eq.mpr c5
      clear c5
      have H':=ja.mk H
      clear H
      have Je:0 ≤ (Ia:Int):=of_decide_eq_true (by first|(with_reducible assumption)|assumption)
      have Ie:Ia < (l0.length:Int):=of_decide_eq_true (by first|(with_reducible assumption)|assumption)
      obtain ⟨Gc,Tg,Ub⟩:=Kd.Po Gh.out Ia Je Ie
      cases Tg
      replace Je:=eq_true Je
      replace Ie:=eq_true Ie
      go_wp2
      go_roundg k1
      case measure=>have:=Yg.out;omega
      case rel=>exact ⟨(wrap64 (Md + 1)),(wrap64 (Ia + 1)),(by first|rfl|(simp;done)|(simp [*];done)),(by first|rfl|(simp;done)|(simp [*];done)),H',⟨by have:=Yg.out;omega⟩,by repeat (first|exact uc.refl _|apply uc.step)⟩
     ·rw [if_neg c5] at H
      have Il:((rd l0 Ia) == Md)=false:=beq_eq_false_iff_ne.mpr c5
      have Bq:((rd l0 Ia) != Md)=true:=bne_iff_ne.mpr c5
      obtain rfl:=Option.some.inj H
      have Je:0 ≤ (Ia:Int):=of_decide_eq_true (by first|(with_reducible assumption)|assumption)
      have Ie:Ia < (l0.length:Int):=of_decide_eq_true (by first|(with_reducible assumption)|assumption)
      obtain ⟨Gc,Tg,Ub⟩:=Kd.Po Gh.out Ia Je Ie
      cases Tg
      replace Je:=eq_true Je
      replace Ie:=eq_true Ie
      go_wp2
      go_ret
      exact ⟨by first|rfl|(simp;done)|(simp [*];done),by repeat (first|exact uc.refl _|apply uc.step)⟩
    ·rw [if_neg c4] at H
     exact absurd H (by simp)
   ·rw [if_neg c3] at H
    have Zh:decide (Ia < (l0.length:Int))=false:=decide_eq_false c3
    clear c3
    obtain rfl:=Option.some.inj H
    go_wp2
    go_ret
    exact ⟨by first|rfl|(simp;done)|(simp [*];done),by repeat (first|exact uc.refl _|apply uc.step)⟩
def Fc.l0:Nat→List (gh)→Int→Int→Option (Int)
 | 0,_,_,_=>none
 | k + 1,x0,x1,x5=>if x5 < (x0.length:Int) then (if 0 ≤ x5 then ((Db.f k ((Xa x0 x5).f0) x1).bind fun t102=>(if t102 < 0 then (some (-1)) else (if ((Xa x0 x5).f1)=t102 then (if ((Xa x0 x5).f2)=(wrap64 (t102 + 1)) then (if ((Xa x0 x5).f3)=(wrap64 ((wrap64 (t102 + 1)) + 1)) then (if ((Xa x0 x5).f4)=(wrap64 ((wrap64 ((wrap64 (t102 + 1)) + 1)) + 1)) then (Fc.l0 k x0 (wrap64 ((wrap64 ((wrap64 ((wrap64 (t102 + 1)) + 1)) + 1)) + 1)) (wrap64 (x5 + 1))) else (some (-1))) else (some (-1))) else (some (-1))) else (some (-1))))) else (none)) else (some x1)
def Fc.f (k:Nat) (l0:List (gh)) (a1:Int):Option (Int):=Fc.l0 k l0 a1 0
theorem Fc.Sd:∀ k,(∀ y0 y1 y2,Lb (Fc.l0 k y0 y1 y2) (Fc.l0 (k + 1) y0 y1 y2))
 | 0=>fun _ _ _ r h=>by simp [Fc.l0] at h
 | k + 1=>by
  have Ff:=Fc.Sd k
  ·intro y0 y1 y2
   unfold Fc.l0
   repeat' first
   | (with_reducible exact Ff _ _ _)
   | (with_reducible exact Db.mono _ _ _)
   | (with_reducible exact Lb.refl _)
   | (with_reducible exact Lb.none _)
   | (with_reducible refine Lb.ite ?_ ?_)
   | (with_reducible refine Lb.bind ?_ (fun _=>?_))
   | exact Ff _ _ _
   | exact Db.mono _ _ _
   | exact Lb.none _
   | refine Lb.ite ?_ ?_
   | refine Lb.bind ?_ (fun _=>?_)
theorem Fc.mono:∀ a0 a1 k,Lb (Fc.f k a0 a1) (Fc.f (k + 1) a0 a1):=by
 intro a0 a1 k
 have Ff:=Fc.Sd k
 unfold Fc.f
 repeat' first
   | (with_reducible exact Ff _ _ _)
   | (with_reducible exact Db.mono _ _ _)
   | (with_reducible exact Lb.refl _)
   | (with_reducible exact Lb.none _)
   | (with_reducible refine Lb.ite ?_ ?_)
   | (with_reducible refine Lb.bind ?_ (fun _=>?_))
   | exact Ff _ _ _
   | exact Db.mono _ _ _
   | exact Lb.none _
   | refine Lb.ite ?_ ?_
   | refine Lb.bind ?_ (fun _=>?_)
set_option maxHeartbeats 8000000 in
set_option maxRecDepth 100000 in
theorem Fc.calls (k:Nat) (A0:Option Addr) (c0:Nat) (l0:List (gh)) (a1:Int) (r:Int) (w:World) (hr0:Kd.C Wo w A0 l0.length l0) (hc0:l0.length ≤ c0) (h:Fc.f k l0 a1=some r) :
  Calls Try.prog 69 #[.slice A0 l0.length c0,.int .i64 a1] w fun e w'=>e = .returned (.int .i64 r)∧Below w.heap.size w w':=by
 have Gh:=ja.mk hr0
 have dw:=ja.mk hc0
 clear hr0 hc0
 have HB:=ja.mk (Below.refl w.heap.size w)
 have H:(Fc.l0 k l0 a1 0)=some r:=h
 clear h
 have H':=ja.mk H
 clear H
 go_enter Try.func69,Try.ntmps69
 go_wp2
 go_loopg [1,5] k (fun kq v1 v5 w'=>∃ (Md:Int) (Ia:Int),v1 = .int .i64 Md∧v5 = .int .i64 Ia∧ja (Fc.l0 kq l0 Md Ia=some r)∧ja (kq ≤ k)∧ja (Below w.heap.size w w'))
 case atStart=>exact ⟨(a1),(0),(by first|rfl|(simp;done)|(simp [*];done)),(by first|rfl|(simp;done)|(simp [*];done)),H',⟨Nat.le_refl _⟩,⟨by repeat (first|(with_reducible first|exact HB.out|apply qa|apply ia|apply ua)|exact HB.out)⟩⟩
 case round =>
  clear H'
  try clear p2
  (try clear HA)
  (try clear Yg)
  (try clear HB)
  obtain ⟨Md,Ia,rfl,rfl,HA,Yg,HB⟩:=hrel
  cases gk with
  | zero=>exact absurd HA.out (by simp [Fc.l0])
  | succ k1 =>
   have H:=HA.out
   clear HA
   simp only [Fc.l0] at H
   by_cases c3:Ia < (l0.length:Int)
   ·rw [if_pos c3] at H
    have Zh:decide (Ia < (l0.length:Int))=true:=decide_eq_true c3
    clear c3
    by_cases c4:0 ≤ Ia
    ·rw [if_pos c4] at H
     have Gi:decide (0 ≤ Ia)=true:=decide_eq_true c4
     clear c4
     replace H:=Option.bind_eq_some_iff.mp H
     obtain ⟨t102,xS,H⟩:=H
     replace H:(if t102 < 0 then (some (-1)) else (if ((Xa l0 Ia).f1)=t102 then (if ((Xa l0 Ia).f2)=(wrap64 (t102 + 1)) then (if ((Xa l0 Ia).f3)=(wrap64 ((wrap64 (t102 + 1)) + 1)) then (if ((Xa l0 Ia).f4)=(wrap64 ((wrap64 ((wrap64 (t102 + 1)) + 1)) + 1)) then (Fc.l0 k1 l0 (wrap64 ((wrap64 ((wrap64 ((wrap64 (t102 + 1)) + 1)) + 1)) + 1)) (wrap64 (Ia + 1))) else (some (-1))) else (some (-1))) else (some (-1))) else (some (-1))))=some r:=H
     have A5:=ja.mk xS
     clear xS
     by_cases c6:t102 < 0
     ·rw [if_pos c6] at H
      have cm:decide (t102 < 0)=true:=decide_eq_true c6
      clear c6
      obtain rfl:=Option.some.inj H
      have Je:0 ≤ (Ia:Int):=of_decide_eq_true (by first|(with_reducible assumption)|assumption)
      have Ie:Ia < (l0.length:Int):=of_decide_eq_true (by first|(with_reducible assumption)|assumption)
      obtain ⟨Gc,Ci,Bi,Tg,Ub,ic,fc,dc,Zb,Zf,ag⟩:=cg Gh.out Ia Je Ie
      cases Tg
      replace Ub:=(HB.out.cell (World.block_lt_of_cell? w _ Ub)).trans Ub
      replace ic:=(HB.out.cell (World.block_lt_of_cell? w _ ic)).trans ic
      replace fc:=(HB.out.cell (World.block_lt_of_cell? w _ fc)).trans fc
      replace dc:=(HB.out.cell (World.block_lt_of_cell? w _ dc)).trans dc
      replace Zb:=(HB.out.cell (World.block_lt_of_cell? w _ Zb)).trans Zb
      have mh:=ja.mk ag
      have Sh:=ja.mk Zf
      clear ag Zf
      replace Je:=eq_true Je
      replace Ie:=eq_true Ie
      go_wp2_with (first|((with_reducible refine mb (f:=103) rfl ?_);refine yd (some 18) rfl rfl Try.func103 (by kernel_rfl) rfl #[.slice Ci ((Xa l0 Ia).f0).length Bi,.int .i64 Md] rfl (by (try simp only [List.map_toArray,List.map_cons,List.map_nil]);first|done|rfl|(simp only [List.length_drop,List.length_take];rfl)) ?_;(with_reducible refine (Db.calls k1 _ _ ((Xa l0 Ia).f0) Md t102 _ ?side1 ?side2 A5.out).mono ?_);(case side1=>repeat (first|exact (Kd.Mb mh.out HB.out)|(with_reducible refine Kd.Sc ?_ _)|(with_reducible refine Kd.Rc ?_ _)|(with_reducible refine Kd.Qd ?_)));(case side2=>exact Sh.out);rintro e w7 ⟨rfl,hb⟩;refine ⟨_,rfl,?_⟩;have Gb:=ja.mk (Qa (by repeat (first|(with_reducible first|exact HB.out|apply qa|apply ia|apply ua)|exact HB.out)) hb);clear HB;have HB:=Gb;clear Gb;(try clear hb);(try clear hb2);(try clear hk);(try clear hi)))
      go_ret
      exact ⟨by first|rfl|(simp [La,Ka] <;> rfl)|(simp [*,La,Ka] <;> rfl),by repeat (first|(with_reducible first|exact HB.out|apply qa|apply ia|apply ua)|exact HB.out)⟩
     ·rw [if_neg c6] at H
      have cm:decide (t102 < 0)=false:=decide_eq_false c6
      clear c6
      by_cases c8:((Xa l0 Ia).f1)=t102
      ·rw [if_pos c8] at H
       have Ll:(((Xa l0 Ia).f1) == t102)=true:=beq_iff_eq.mpr c8
       have mq:(((Xa l0 Ia).f1) != t102)=false:=bne_eq_false_iff_eq.mpr c8
       clear c8
       by_cases c9:((Xa l0 Ia).f2)=(wrap64 (t102 + 1))
       ·rw [if_pos c9] at H
        have xy:(((Xa l0 Ia).f2) == (wrap64 (t102 + 1)))=true:=beq_iff_eq.mpr c9
        have mB:(((Xa l0 Ia).f2) != (wrap64 (t102 + 1)))=false:=bne_eq_false_iff_eq.mpr c9
        clear c9
        by_cases wo:((Xa l0 Ia).f3)=(wrap64 ((wrap64 (t102 + 1)) + 1))
        ·rw [if_pos wo] at H
         have Eu:(((Xa l0 Ia).f3) == (wrap64 ((wrap64 (t102 + 1)) + 1)))=true:=beq_iff_eq.mpr wo
         have Ey:(((Xa l0 Ia).f3) != (wrap64 ((wrap64 (t102 + 1)) + 1)))=false:=bne_eq_false_iff_eq.mpr wo
         clear wo
         by_cases c11:((Xa l0 Ia).f4)=(wrap64 ((wrap64 ((wrap64 (t102 + 1)) + 1)) + 1))
         ·rw [if_pos c11] at H
          have Gz:(((Xa l0 Ia).f4) == (wrap64 ((wrap64 ((wrap64 (t102 + 1)) + 1)) + 1)))=true:=beq_iff_eq.mpr c11
          have K4:(((Xa l0 Ia).f4) != (wrap64 ((wrap64 ((wrap64 (t102 + 1)) + 1)) + 1)))=false:=bne_eq_false_iff_eq.mpr c11
          clear c11
          have H':=ja.mk H
          clear H
          have Je:0 ≤ (Ia:Int):=of_decide_eq_true (by first|(with_reducible assumption)|assumption)
          have Ie:Ia < (l0.length:Int):=of_decide_eq_true (by first|(with_reducible assumption)|assumption)
          obtain ⟨Gc,Ci,Bi,Tg,Ub,ic,fc,dc,Zb,Zf,ag⟩:=cg Gh.out Ia Je Ie
          cases Tg
          replace Ub:=(HB.out.cell (World.block_lt_of_cell? w _ Ub)).trans Ub
          replace ic:=(HB.out.cell (World.block_lt_of_cell? w _ ic)).trans ic
          replace fc:=(HB.out.cell (World.block_lt_of_cell? w _ fc)).trans fc
          replace dc:=(HB.out.cell (World.block_lt_of_cell? w _ dc)).trans dc
          replace Zb:=(HB.out.cell (World.block_lt_of_cell? w _ Zb)).trans Zb
          have mh:=ja.mk ag
          have Sh:=ja.mk Zf
          clear ag Zf
          replace Je:=eq_true Je
          replace Ie:=eq_true Ie
          go_wp2_with (first|((with_reducible refine mb (f:=103) rfl ?_);refine yd (some 18) rfl rfl Try.func103 (by kernel_rfl) rfl #[.slice Ci ((Xa l0 Ia).f0).length Bi,.int .i64 Md] rfl (by (try simp only [List.map_toArray,List.map_cons,List.map_nil]);first|done|rfl|(simp only [List.length_drop,List.length_take];rfl)) ?_;(with_reducible refine (Db.calls k1 _ _ ((Xa l0 Ia).f0) Md t102 _ ?side1 ?side2 A5.out).mono ?_);(case side1=>repeat (first|exact (Kd.Mb mh.out HB.out)|(with_reducible refine Kd.Sc ?_ _)|(with_reducible refine Kd.Rc ?_ _)|(with_reducible refine Kd.Qd ?_)));(case side2=>exact Sh.out);rintro e Nr ⟨rfl,hb⟩;refine ⟨_,rfl,?_⟩;have Gb:=ja.mk (Qa (by repeat (first|(with_reducible first|exact HB.out|apply qa|apply ia|apply ua)|exact HB.out)) hb);clear HB;have HB:=Gb;clear Gb;(try clear hb);(try clear hb2);(try clear hk);(try clear hi);have Ah:0 ≤ (Ia:Int):=of_decide_eq_true (by first|(with_reducible assumption)|assumption);have yh:Ia < (l0.length:Int):=of_decide_eq_true (by first|(with_reducible assumption)|assumption);obtain ⟨Kf,BB,nB,vm,Gd,Xd,Wd,Vd,Ud,xj,zj⟩:=cg Gh.out Ia Ah yh;obtain rfl:Gc=Kf:=(by injection vm);replace Gd:=(HB.out.cell (World.block_lt_of_cell? w _ Gd)).trans Gd;replace Xd:=(HB.out.cell (World.block_lt_of_cell? w _ Xd)).trans Xd;replace Wd:=(HB.out.cell (World.block_lt_of_cell? w _ Wd)).trans Wd;replace Vd:=(HB.out.cell (World.block_lt_of_cell? w _ Vd)).trans Vd;replace Ud:=(HB.out.cell (World.block_lt_of_cell? w _ Ud)).trans Ud;have Ix:=ja.mk zj;have Jx:=ja.mk xj;clear zj xj;replace Ah:=eq_true Ah;replace yh:=eq_true yh;have zh:0 ≤ (Ia:Int):=of_decide_eq_true (by first|(with_reducible assumption)|assumption);have xh:Ia < (l0.length:Int):=of_decide_eq_true (by first|(with_reducible assumption)|assumption);obtain ⟨Wj,Ty,Fy,um,Zd,Me,Ue,Te,Re,wj,yj⟩:=cg Gh.out Ia zh xh;obtain rfl:Gc=Wj:=(by injection um);replace Zd:=(HB.out.cell (World.block_lt_of_cell? w _ Zd)).trans Zd;replace Me:=(HB.out.cell (World.block_lt_of_cell? w _ Me)).trans Me;replace Ue:=(HB.out.cell (World.block_lt_of_cell? w _ Ue)).trans Ue;replace Te:=(HB.out.cell (World.block_lt_of_cell? w _ Te)).trans Te;replace Re:=(HB.out.cell (World.block_lt_of_cell? w _ Re)).trans Re;have Iu:=ja.mk yj;have Ku:=ja.mk wj;clear yj wj;replace zh:=eq_true zh;replace xh:=eq_true xh;have Ei:=Option.some.inj (Gd.symm.trans Zd);injection Ei with Ei en_ ec_;subst Ei;subst ec_;clear en_;have Wh:0 ≤ (Ia:Int):=of_decide_eq_true (by first|(with_reducible assumption)|assumption);have Vh:Ia < (l0.length:Int):=of_decide_eq_true (by first|(with_reducible assumption)|assumption);obtain ⟨Th,gj,cj,Ln,qe,Ge,Fe,Ee,De,Rg,Sg⟩:=cg Gh.out Ia Wh Vh;obtain rfl:Gc=Th:=(by injection Ln);replace qe:=(HB.out.cell (World.block_lt_of_cell? w _ qe)).trans qe;replace Ge:=(HB.out.cell (World.block_lt_of_cell? w _ Ge)).trans Ge;replace Fe:=(HB.out.cell (World.block_lt_of_cell? w _ Fe)).trans Fe;replace Ee:=(HB.out.cell (World.block_lt_of_cell? w _ Ee)).trans Ee;replace De:=(HB.out.cell (World.block_lt_of_cell? w _ De)).trans De;have Wl:=ja.mk Sg;have Bn:=ja.mk Rg;clear Sg Rg;replace Wh:=eq_true Wh;replace Vh:=eq_true Vh;have Ei:=Option.some.inj (Gd.symm.trans qe);injection Ei with Ei en_ ec_;subst Ei;subst ec_;clear en_;have Zj:0 ≤ (Ia:Int):=of_decide_eq_true (by first|(with_reducible assumption)|assumption);have Yj:Ia < (l0.length:Int):=of_decide_eq_true (by first|(with_reducible assumption)|assumption);obtain ⟨si,wV,zU,Js,Af,Gf,Og,Ng,Mg,jt,yt⟩:=cg Gh.out Ia Zj Yj;obtain rfl:Gc=si:=(by injection Js);replace Af:=(HB.out.cell (World.block_lt_of_cell? w _ Af)).trans Af;replace Gf:=(HB.out.cell (World.block_lt_of_cell? w _ Gf)).trans Gf;replace Og:=(HB.out.cell (World.block_lt_of_cell? w _ Og)).trans Og;replace Ng:=(HB.out.cell (World.block_lt_of_cell? w _ Ng)).trans Ng;replace Mg:=(HB.out.cell (World.block_lt_of_cell? w _ Mg)).trans Mg;have FQ:=ja.mk yt;have LQ:=ja.mk jt;clear yt jt;replace Zj:=eq_true Zj;replace Yj:=eq_true Yj;have Ei:=Option.some.inj (Gd.symm.trans Af);injection Ei with Ei en_ ec_;subst Ei;subst ec_;clear en_))
          go_roundg k1
          case measure=>have:=Yg.out;omega
          case rel=>exact ⟨(wrap64 ((wrap64 ((wrap64 ((wrap64 (t102 + 1)) + 1)) + 1)) + 1)),(wrap64 (Ia + 1)),(by first|rfl|(simp;done)|(simp [*];done)),(by first|rfl|(simp;done)|(simp [*];done)),H',⟨by have:=Yg.out;omega⟩,⟨by repeat (first|(with_reducible first|exact HB.out|apply qa|apply ia|apply ua)|exact HB.out)⟩⟩
         ·rw [if_neg c11] at H
          have Gz:(((Xa l0 Ia).f4) == (wrap64 ((wrap64 ((wrap64 (t102 + 1)) + 1)) + 1)))=false:=beq_eq_false_iff_ne.mpr c11
          have K4:(((Xa l0 Ia).f4) != (wrap64 ((wrap64 ((wrap64 (t102 + 1)) + 1)) + 1)))=true:=bne_iff_ne.mpr c11
          obtain rfl:=Option.some.inj H
          have Je:0 ≤ (Ia:Int):=of_decide_eq_true (by first|(with_reducible assumption)|assumption)
          have Ie:Ia < (l0.length:Int):=of_decide_eq_true (by first|(with_reducible assumption)|assumption)
          obtain ⟨Gc,Ci,Bi,Tg,Ub,ic,fc,dc,Zb,Zf,ag⟩:=cg Gh.out Ia Je Ie
          cases Tg
          replace Ub:=(HB.out.cell (World.block_lt_of_cell? w _ Ub)).trans Ub
          replace ic:=(HB.out.cell (World.block_lt_of_cell? w _ ic)).trans ic
          replace fc:=(HB.out.cell (World.block_lt_of_cell? w _ fc)).trans fc
          replace dc:=(HB.out.cell (World.block_lt_of_cell? w _ dc)).trans dc
          replace Zb:=(HB.out.cell (World.block_lt_of_cell? w _ Zb)).trans Zb
          have mh:=ja.mk ag
          have Sh:=ja.mk Zf
          clear ag Zf
          replace Je:=eq_true Je
          replace Ie:=eq_true Ie
          go_wp2_with (first|((with_reducible refine mb (f:=103) rfl ?_);refine yd (some 18) rfl rfl Try.func103 (by kernel_rfl) rfl #[.slice Ci ((Xa l0 Ia).f0).length Bi,.int .i64 Md] rfl (by (try simp only [List.map_toArray,List.map_cons,List.map_nil]);first|done|rfl|(simp only [List.length_drop,List.length_take];rfl)) ?_;(with_reducible refine (Db.calls k1 _ _ ((Xa l0 Ia).f0) Md t102 _ ?side1 ?side2 A5.out).mono ?_);(case side1=>repeat (first|exact (Kd.Mb mh.out HB.out)|(with_reducible refine Kd.Sc ?_ _)|(with_reducible refine Kd.Rc ?_ _)|(with_reducible refine Kd.Qd ?_)));(case side2=>exact Sh.out);rintro e FB ⟨rfl,hb⟩;refine ⟨_,rfl,?_⟩;have Gb:=ja.mk (Qa (by repeat (first|(with_reducible first|exact HB.out|apply qa|apply ia|apply ua)|exact HB.out)) hb);clear HB;have HB:=Gb;clear Gb;(try clear hb);(try clear hb2);(try clear hk);(try clear hi);have Ah:0 ≤ (Ia:Int):=of_decide_eq_true (by first|(with_reducible assumption)|assumption);have yh:Ia < (l0.length:Int):=of_decide_eq_true (by first|(with_reducible assumption)|assumption);obtain ⟨Kf,BB,nB,vm,Gd,Xd,Wd,Vd,Ud,xj,zj⟩:=cg Gh.out Ia Ah yh;obtain rfl:Gc=Kf:=(by injection vm);replace Gd:=(HB.out.cell (World.block_lt_of_cell? w _ Gd)).trans Gd;replace Xd:=(HB.out.cell (World.block_lt_of_cell? w _ Xd)).trans Xd;replace Wd:=(HB.out.cell (World.block_lt_of_cell? w _ Wd)).trans Wd;replace Vd:=(HB.out.cell (World.block_lt_of_cell? w _ Vd)).trans Vd;replace Ud:=(HB.out.cell (World.block_lt_of_cell? w _ Ud)).trans Ud;have Ix:=ja.mk zj;have Jx:=ja.mk xj;clear zj xj;replace Ah:=eq_true Ah;replace yh:=eq_true yh;have zh:0 ≤ (Ia:Int):=of_decide_eq_true (by first|(with_reducible assumption)|assumption);have xh:Ia < (l0.length:Int):=of_decide_eq_true (by first|(with_reducible assumption)|assumption);obtain ⟨Wj,Ty,Fy,um,Zd,Me,Ue,Te,Re,wj,yj⟩:=cg Gh.out Ia zh xh;obtain rfl:Gc=Wj:=(by injection um);replace Zd:=(HB.out.cell (World.block_lt_of_cell? w _ Zd)).trans Zd;replace Me:=(HB.out.cell (World.block_lt_of_cell? w _ Me)).trans Me;replace Ue:=(HB.out.cell (World.block_lt_of_cell? w _ Ue)).trans Ue;replace Te:=(HB.out.cell (World.block_lt_of_cell? w _ Te)).trans Te;replace Re:=(HB.out.cell (World.block_lt_of_cell? w _ Re)).trans Re;have Iu:=ja.mk yj;have Ku:=ja.mk wj;clear yj wj;replace zh:=eq_true zh;replace xh:=eq_true xh;have Ei:=Option.some.inj (Gd.symm.trans Zd);injection Ei with Ei en_ ec_;subst Ei;subst ec_;clear en_;have Wh:0 ≤ (Ia:Int):=of_decide_eq_true (by first|(with_reducible assumption)|assumption);have Vh:Ia < (l0.length:Int):=of_decide_eq_true (by first|(with_reducible assumption)|assumption);obtain ⟨Th,gj,cj,Ln,qe,Ge,Fe,Ee,De,Rg,Sg⟩:=cg Gh.out Ia Wh Vh;obtain rfl:Gc=Th:=(by injection Ln);replace qe:=(HB.out.cell (World.block_lt_of_cell? w _ qe)).trans qe;replace Ge:=(HB.out.cell (World.block_lt_of_cell? w _ Ge)).trans Ge;replace Fe:=(HB.out.cell (World.block_lt_of_cell? w _ Fe)).trans Fe;replace Ee:=(HB.out.cell (World.block_lt_of_cell? w _ Ee)).trans Ee;replace De:=(HB.out.cell (World.block_lt_of_cell? w _ De)).trans De;have Wl:=ja.mk Sg;have Bn:=ja.mk Rg;clear Sg Rg;replace Wh:=eq_true Wh;replace Vh:=eq_true Vh;have Ei:=Option.some.inj (Gd.symm.trans qe);injection Ei with Ei en_ ec_;subst Ei;subst ec_;clear en_;have Zj:0 ≤ (Ia:Int):=of_decide_eq_true (by first|(with_reducible assumption)|assumption);have Yj:Ia < (l0.length:Int):=of_decide_eq_true (by first|(with_reducible assumption)|assumption);obtain ⟨si,wV,zU,Js,Af,Gf,Og,Ng,Mg,jt,yt⟩:=cg Gh.out Ia Zj Yj;obtain rfl:Gc=si:=(by injection Js);replace Af:=(HB.out.cell (World.block_lt_of_cell? w _ Af)).trans Af;replace Gf:=(HB.out.cell (World.block_lt_of_cell? w _ Gf)).trans Gf;replace Og:=(HB.out.cell (World.block_lt_of_cell? w _ Og)).trans Og;replace Ng:=(HB.out.cell (World.block_lt_of_cell? w _ Ng)).trans Ng;replace Mg:=(HB.out.cell (World.block_lt_of_cell? w _ Mg)).trans Mg;have FQ:=ja.mk yt;have LQ:=ja.mk jt;clear yt jt;replace Zj:=eq_true Zj;replace Yj:=eq_true Yj;have Ei:=Option.some.inj (Gd.symm.trans Af);injection Ei with Ei en_ ec_;subst Ei;subst ec_;clear en_))
          go_ret
          exact ⟨by first|rfl|(simp [La,Ka] <;> rfl)|(simp [*,La,Ka] <;> rfl),by repeat (first|(with_reducible first|exact HB.out|apply qa|apply ia|apply ua)|exact HB.out)⟩
        ·rw [if_neg wo] at H
         have Eu:(((Xa l0 Ia).f3) == (wrap64 ((wrap64 (t102 + 1)) + 1)))=false:=beq_eq_false_iff_ne.mpr wo
         have Ey:(((Xa l0 Ia).f3) != (wrap64 ((wrap64 (t102 + 1)) + 1)))=true:=bne_iff_ne.mpr wo
         obtain rfl:=Option.some.inj H
         have Je:0 ≤ (Ia:Int):=of_decide_eq_true (by first|(with_reducible assumption)|assumption)
         have Ie:Ia < (l0.length:Int):=of_decide_eq_true (by first|(with_reducible assumption)|assumption)
         obtain ⟨Gc,Ci,Bi,Tg,Ub,ic,fc,dc,Zb,Zf,ag⟩:=cg Gh.out Ia Je Ie
         cases Tg
         replace Ub:=(HB.out.cell (World.block_lt_of_cell? w _ Ub)).trans Ub
         replace ic:=(HB.out.cell (World.block_lt_of_cell? w _ ic)).trans ic
         replace fc:=(HB.out.cell (World.block_lt_of_cell? w _ fc)).trans fc
         replace dc:=(HB.out.cell (World.block_lt_of_cell? w _ dc)).trans dc
         replace Zb:=(HB.out.cell (World.block_lt_of_cell? w _ Zb)).trans Zb
         have mh:=ja.mk ag
         have Sh:=ja.mk Zf
         clear ag Zf
         replace Je:=eq_true Je
         replace Ie:=eq_true Ie
         go_wp2_with (first|((with_reducible refine mb (f:=103) rfl ?_);refine yd (some 18) rfl rfl Try.func103 (by kernel_rfl) rfl #[.slice Ci ((Xa l0 Ia).f0).length Bi,.int .i64 Md] rfl (by (try simp only [List.map_toArray,List.map_cons,List.map_nil]);first|done|rfl|(simp only [List.length_drop,List.length_take];rfl)) ?_;(with_reducible refine (Db.calls k1 _ _ ((Xa l0 Ia).f0) Md t102 _ ?side1 ?side2 A5.out).mono ?_);(case side1=>repeat (first|exact (Kd.Mb mh.out HB.out)|(with_reducible refine Kd.Sc ?_ _)|(with_reducible refine Kd.Rc ?_ _)|(with_reducible refine Kd.Qd ?_)));(case side2=>exact Sh.out);rintro e pz ⟨rfl,hb⟩;refine ⟨_,rfl,?_⟩;have Gb:=ja.mk (Qa (by repeat (first|(with_reducible first|exact HB.out|apply qa|apply ia|apply ua)|exact HB.out)) hb);clear HB;have HB:=Gb;clear Gb;(try clear hb);(try clear hb2);(try clear hk);(try clear hi);have Ah:0 ≤ (Ia:Int):=of_decide_eq_true (by first|(with_reducible assumption)|assumption);have yh:Ia < (l0.length:Int):=of_decide_eq_true (by first|(with_reducible assumption)|assumption);obtain ⟨Kf,BB,nB,vm,Gd,Xd,Wd,Vd,Ud,xj,zj⟩:=cg Gh.out Ia Ah yh;obtain rfl:Gc=Kf:=(by injection vm);replace Gd:=(HB.out.cell (World.block_lt_of_cell? w _ Gd)).trans Gd;replace Xd:=(HB.out.cell (World.block_lt_of_cell? w _ Xd)).trans Xd;replace Wd:=(HB.out.cell (World.block_lt_of_cell? w _ Wd)).trans Wd;replace Vd:=(HB.out.cell (World.block_lt_of_cell? w _ Vd)).trans Vd;replace Ud:=(HB.out.cell (World.block_lt_of_cell? w _ Ud)).trans Ud;have Ix:=ja.mk zj;have Jx:=ja.mk xj;clear zj xj;replace Ah:=eq_true Ah;replace yh:=eq_true yh;have zh:0 ≤ (Ia:Int):=of_decide_eq_true (by first|(with_reducible assumption)|assumption);have xh:Ia < (l0.length:Int):=of_decide_eq_true (by first|(with_reducible assumption)|assumption);obtain ⟨Wj,Ty,Fy,um,Zd,Me,Ue,Te,Re,wj,yj⟩:=cg Gh.out Ia zh xh;obtain rfl:Gc=Wj:=(by injection um);replace Zd:=(HB.out.cell (World.block_lt_of_cell? w _ Zd)).trans Zd;replace Me:=(HB.out.cell (World.block_lt_of_cell? w _ Me)).trans Me;replace Ue:=(HB.out.cell (World.block_lt_of_cell? w _ Ue)).trans Ue;replace Te:=(HB.out.cell (World.block_lt_of_cell? w _ Te)).trans Te;replace Re:=(HB.out.cell (World.block_lt_of_cell? w _ Re)).trans Re;have Iu:=ja.mk yj;have Ku:=ja.mk wj;clear yj wj;replace zh:=eq_true zh;replace xh:=eq_true xh;have Ei:=Option.some.inj (Gd.symm.trans Zd);injection Ei with Ei en_ ec_;subst Ei;subst ec_;clear en_;have Wh:0 ≤ (Ia:Int):=of_decide_eq_true (by first|(with_reducible assumption)|assumption);have Vh:Ia < (l0.length:Int):=of_decide_eq_true (by first|(with_reducible assumption)|assumption);obtain ⟨Th,gj,cj,Ln,qe,Ge,Fe,Ee,De,Rg,Sg⟩:=cg Gh.out Ia Wh Vh;obtain rfl:Gc=Th:=(by injection Ln);replace qe:=(HB.out.cell (World.block_lt_of_cell? w _ qe)).trans qe;replace Ge:=(HB.out.cell (World.block_lt_of_cell? w _ Ge)).trans Ge;replace Fe:=(HB.out.cell (World.block_lt_of_cell? w _ Fe)).trans Fe;replace Ee:=(HB.out.cell (World.block_lt_of_cell? w _ Ee)).trans Ee;replace De:=(HB.out.cell (World.block_lt_of_cell? w _ De)).trans De;have Wl:=ja.mk Sg;have Bn:=ja.mk Rg;clear Sg Rg;replace Wh:=eq_true Wh;replace Vh:=eq_true Vh;have Ei:=Option.some.inj (Gd.symm.trans qe);injection Ei with Ei en_ ec_;subst Ei;subst ec_;clear en_))
         go_ret
         exact ⟨by first|rfl|(simp [La,Ka] <;> rfl)|(simp [*,La,Ka] <;> rfl),by repeat (first|(with_reducible first|exact HB.out|apply qa|apply ia|apply ua)|exact HB.out)⟩
       ·rw [if_neg c9] at H
        have xy:(((Xa l0 Ia).f2) == (wrap64 (t102 + 1)))=false:=beq_eq_false_iff_ne.mpr c9
        have mB:(((Xa l0 Ia).f2) != (wrap64 (t102 + 1)))=true:=bne_iff_ne.mpr c9
        obtain rfl:=Option.some.inj H
        have Je:0 ≤ (Ia:Int):=of_decide_eq_true (by first|(with_reducible assumption)|assumption)
        have Ie:Ia < (l0.length:Int):=of_decide_eq_true (by first|(with_reducible assumption)|assumption)
        obtain ⟨Gc,Ci,Bi,Tg,Ub,ic,fc,dc,Zb,Zf,ag⟩:=cg Gh.out Ia Je Ie
        cases Tg
        replace Ub:=(HB.out.cell (World.block_lt_of_cell? w _ Ub)).trans Ub
        replace ic:=(HB.out.cell (World.block_lt_of_cell? w _ ic)).trans ic
        replace fc:=(HB.out.cell (World.block_lt_of_cell? w _ fc)).trans fc
        replace dc:=(HB.out.cell (World.block_lt_of_cell? w _ dc)).trans dc
        replace Zb:=(HB.out.cell (World.block_lt_of_cell? w _ Zb)).trans Zb
        have mh:=ja.mk ag
        have Sh:=ja.mk Zf
        clear ag Zf
        replace Je:=eq_true Je
        replace Ie:=eq_true Ie
        go_wp2_with (first|((with_reducible refine mb (f:=103) rfl ?_);refine yd (some 18) rfl rfl Try.func103 (by kernel_rfl) rfl #[.slice Ci ((Xa l0 Ia).f0).length Bi,.int .i64 Md] rfl (by (try simp only [List.map_toArray,List.map_cons,List.map_nil]);first|done|rfl|(simp only [List.length_drop,List.length_take];rfl)) ?_;(with_reducible refine (Db.calls k1 _ _ ((Xa l0 Ia).f0) Md t102 _ ?side1 ?side2 A5.out).mono ?_);(case side1=>repeat (first|exact (Kd.Mb mh.out HB.out)|(with_reducible refine Kd.Sc ?_ _)|(with_reducible refine Kd.Rc ?_ _)|(with_reducible refine Kd.Qd ?_)));(case side2=>exact Sh.out);rintro e Nk ⟨rfl,hb⟩;refine ⟨_,rfl,?_⟩;have Gb:=ja.mk (Qa (by repeat (first|(with_reducible first|exact HB.out|apply qa|apply ia|apply ua)|exact HB.out)) hb);clear HB;have HB:=Gb;clear Gb;(try clear hb);(try clear hb2);(try clear hk);(try clear hi);have Ah:0 ≤ (Ia:Int):=of_decide_eq_true (by first|(with_reducible assumption)|assumption);have yh:Ia < (l0.length:Int):=of_decide_eq_true (by first|(with_reducible assumption)|assumption);obtain ⟨Kf,BB,nB,vm,Gd,Xd,Wd,Vd,Ud,xj,zj⟩:=cg Gh.out Ia Ah yh;obtain rfl:Gc=Kf:=(by injection vm);replace Gd:=(HB.out.cell (World.block_lt_of_cell? w _ Gd)).trans Gd;replace Xd:=(HB.out.cell (World.block_lt_of_cell? w _ Xd)).trans Xd;replace Wd:=(HB.out.cell (World.block_lt_of_cell? w _ Wd)).trans Wd;replace Vd:=(HB.out.cell (World.block_lt_of_cell? w _ Vd)).trans Vd;replace Ud:=(HB.out.cell (World.block_lt_of_cell? w _ Ud)).trans Ud;have Ix:=ja.mk zj;have Jx:=ja.mk xj;clear zj xj;replace Ah:=eq_true Ah;replace yh:=eq_true yh;have zh:0 ≤ (Ia:Int):=of_decide_eq_true (by first|(with_reducible assumption)|assumption);have xh:Ia < (l0.length:Int):=of_decide_eq_true (by first|(with_reducible assumption)|assumption);obtain ⟨Wj,Ty,Fy,um,Zd,Me,Ue,Te,Re,wj,yj⟩:=cg Gh.out Ia zh xh;obtain rfl:Gc=Wj:=(by injection um);replace Zd:=(HB.out.cell (World.block_lt_of_cell? w _ Zd)).trans Zd;replace Me:=(HB.out.cell (World.block_lt_of_cell? w _ Me)).trans Me;replace Ue:=(HB.out.cell (World.block_lt_of_cell? w _ Ue)).trans Ue;replace Te:=(HB.out.cell (World.block_lt_of_cell? w _ Te)).trans Te;replace Re:=(HB.out.cell (World.block_lt_of_cell? w _ Re)).trans Re;have Iu:=ja.mk yj;have Ku:=ja.mk wj;clear yj wj;replace zh:=eq_true zh;replace xh:=eq_true xh;have Ei:=Option.some.inj (Gd.symm.trans Zd);injection Ei with Ei en_ ec_;subst Ei;subst ec_;clear en_))
        go_ret
        exact ⟨by first|rfl|(simp [La,Ka] <;> rfl)|(simp [*,La,Ka] <;> rfl),by repeat (first|(with_reducible first|exact HB.out|apply qa|apply ia|apply ua)|exact HB.out)⟩
      ·rw [if_neg c8] at H
       have Ll:(((Xa l0 Ia).f1) == t102)=false:=beq_eq_false_iff_ne.mpr c8
       have mq:(((Xa l0 Ia).f1) != t102)=true:=bne_iff_ne.mpr c8
       obtain rfl:=Option.some.inj H
       have Je:0 ≤ (Ia:Int):=of_decide_eq_true (by first|(with_reducible assumption)|assumption)
       have Ie:Ia < (l0.length:Int):=of_decide_eq_true (by first|(with_reducible assumption)|assumption)
       obtain ⟨Gc,Ci,Bi,Tg,Ub,ic,fc,dc,Zb,Zf,ag⟩:=cg Gh.out Ia Je Ie
       cases Tg
       replace Ub:=(HB.out.cell (World.block_lt_of_cell? w _ Ub)).trans Ub
       replace ic:=(HB.out.cell (World.block_lt_of_cell? w _ ic)).trans ic
       replace fc:=(HB.out.cell (World.block_lt_of_cell? w _ fc)).trans fc
       replace dc:=(HB.out.cell (World.block_lt_of_cell? w _ dc)).trans dc
       replace Zb:=(HB.out.cell (World.block_lt_of_cell? w _ Zb)).trans Zb
       have mh:=ja.mk ag
       have Sh:=ja.mk Zf
       clear ag Zf
       replace Je:=eq_true Je
       replace Ie:=eq_true Ie
       go_wp2_with (first|((with_reducible refine mb (f:=103) rfl ?_);refine yd (some 18) rfl rfl Try.func103 (by kernel_rfl) rfl #[.slice Ci ((Xa l0 Ia).f0).length Bi,.int .i64 Md] rfl (by (try simp only [List.map_toArray,List.map_cons,List.map_nil]);first|done|rfl|(simp only [List.length_drop,List.length_take];rfl)) ?_;(with_reducible refine (Db.calls k1 _ _ ((Xa l0 Ia).f0) Md t102 _ ?side1 ?side2 A5.out).mono ?_);(case side1=>repeat (first|exact (Kd.Mb mh.out HB.out)|(with_reducible refine Kd.Sc ?_ _)|(with_reducible refine Kd.Rc ?_ _)|(with_reducible refine Kd.Qd ?_)));(case side2=>exact Sh.out);rintro e az ⟨rfl,hb⟩;refine ⟨_,rfl,?_⟩;have Gb:=ja.mk (Qa (by repeat (first|(with_reducible first|exact HB.out|apply qa|apply ia|apply ua)|exact HB.out)) hb);clear HB;have HB:=Gb;clear Gb;(try clear hb);(try clear hb2);(try clear hk);(try clear hi);have Ah:0 ≤ (Ia:Int):=of_decide_eq_true (by first|(with_reducible assumption)|assumption);have yh:Ia < (l0.length:Int):=of_decide_eq_true (by first|(with_reducible assumption)|assumption);obtain ⟨Kf,BB,nB,vm,Gd,Xd,Wd,Vd,Ud,xj,zj⟩:=cg Gh.out Ia Ah yh;obtain rfl:Gc=Kf:=(by injection vm);replace Gd:=(HB.out.cell (World.block_lt_of_cell? w _ Gd)).trans Gd;replace Xd:=(HB.out.cell (World.block_lt_of_cell? w _ Xd)).trans Xd;replace Wd:=(HB.out.cell (World.block_lt_of_cell? w _ Wd)).trans Wd;replace Vd:=(HB.out.cell (World.block_lt_of_cell? w _ Vd)).trans Vd;replace Ud:=(HB.out.cell (World.block_lt_of_cell? w _ Ud)).trans Ud;have Ix:=ja.mk zj;have Jx:=ja.mk xj;clear zj xj;replace Ah:=eq_true Ah;replace yh:=eq_true yh))
       go_ret
       exact ⟨by first|rfl|(simp [La,Ka] <;> rfl)|(simp [*,La,Ka] <;> rfl),by repeat (first|(with_reducible first|exact HB.out|apply qa|apply ia|apply ua)|exact HB.out)⟩
    ·rw [if_neg c4] at H
     exact absurd H (by simp)
   ·rw [if_neg c3] at H
    have Zh:decide (Ia < (l0.length:Int))=false:=decide_eq_false c3
    clear c3
    obtain rfl:=Option.some.inj H
    go_wp2
    go_ret
    exact ⟨by first|rfl|(simp [La,Ka] <;> rfl)|(simp [*,La,Ka] <;> rfl),by repeat (first|(with_reducible first|exact HB.out|apply qa|apply ia|apply ua)|exact HB.out)⟩
def nh.f (k:Nat) (Ta:List Int) (Ma:Int) (Oa:Int) (Pa:Int) (Sa:List (gh)) (a1:Int):Option (Int):=(Nc.f k Ta a1).bind fun t102=>(if t102 < 0 then (some (-1)) else ((Fc.f k Sa t102).bind fun t103=>(if t103 < 0 then (some (-1)) else (some t103))))
theorem nh.mono:∀ a0 a1 a2 a3 a4 a5 k,Lb (nh.f k a0 a1 a2 a3 a4 a5) (nh.f (k + 1) a0 a1 a2 a3 a4 a5):=by
 intro a0 a1 a2 a3 a4 a5 k
 unfold nh.f
 repeat' first
   | (with_reducible exact Fc.mono _ _ _)
   | (with_reducible exact Nc.mono _ _ _)
   | (with_reducible exact Lb.refl _)
   | (with_reducible exact Lb.none _)
   | (with_reducible refine Lb.ite ?_ ?_)
   | (with_reducible refine Lb.bind ?_ (fun _=>?_))
   | exact Fc.mono _ _ _
   | exact Nc.mono _ _ _
   | exact Lb.none _
   | refine Lb.ite ?_ ?_
   | refine Lb.bind ?_ (fun _=>?_)
set_option maxHeartbeats 8000000 in
set_option maxRecDepth 100000 in
theorem nh.calls (k:Nat) (Cb:Option Addr) (Bb:Nat) (Ta:List Int) (Ma:Int) (Oa:Int) (Pa:Int) (yc:Option Addr) (Xb:Nat) (Sa:List (gh)) (a1:Int) (r:Int) (w:World) (Rf:Kd.C (Kd.int .i64) w Cb Ta.length Ta) (Pf:Ta.length ≤ Bb) (Bg:Kd.C Wo w yc Sa.length Sa) (Eg:Sa.length ≤ Xb) (h:nh.f k Ta Ma Oa Pa Sa a1=some r) :
  Calls Try.prog 29 #[.agg #[.slice Cb Ta.length Bb,.int .i64 Ma,.int .i64 Oa,.int .i64 Pa,.slice yc Sa.length Xb],.int .i64 a1] w fun e w'=>e = .returned (.int .i64 r)∧Below w.heap.size w w':=by
 have ZB:=Try.underlying30
 have ig:=ja.mk Rf
 have mg:=ja.mk Pf
 clear Rf Pf
 have oh:=ja.mk Bg
 have qj:=ja.mk Eg
 clear Bg Eg
 have HB:=ja.mk (Below.refl w.heap.size w)
 have H:((Nc.f k Ta a1).bind fun t102=>(if t102 < 0 then (some (-1)) else ((Fc.f k Sa t102).bind fun t103=>(if t103 < 0 then (some (-1)) else (some t103)))))=some r:=h
 clear h
 replace H:=Option.bind_eq_some_iff.mp H
 obtain ⟨t102,Pv,H⟩:=H
 replace H:(if t102 < 0 then (some (-1)) else ((Fc.f k Sa t102).bind fun t103=>(if t103 < 0 then (some (-1)) else (some t103))))=some r:=H
 have A3:=ja.mk Pv
 clear Pv
 by_cases c4:t102 < 0
 ·rw [if_pos c4] at H
  have Gi:decide (t102 < 0)=true:=decide_eq_true c4
  clear c4
  obtain rfl:=Option.some.inj H
  go_enter Try.func29,Try.ntmps29
  go_wp2_with (first|((with_reducible refine Kb (N:=2) rfl ?_);refine Eb ?hg (N:=2) ?hd (cs:=#[.slice Cb Ta.length Bb,.int .i64 Ma,.int .i64 Oa,.int .i64 Pa,.slice yc Sa.length Xb]) (t:=30) ?hr ?_;(case hd=>rfl);(case hg=>rfl);(case hr=>first|(go_simp;done)|(go_simp;rfl));intro Ea hg w5 Tb hb;have Gb:=ja.mk (Qa (by repeat (first|(with_reducible first|exact HB.out|apply qa|apply ia|apply ua)|exact HB.out)) hb);have Vb:=ja.mk (Tb);have Ac:=ja.mk ((by rw [hg];exact (Ra (by repeat (first|(with_reducible first|exact HB.out|apply qa|apply ia|apply ua)|exact HB.out))):w.heap.size ≤ Ea));have ud:=ja.mk ((by rw [hg];exact (Ra (by repeat (first|(with_reducible first|exact HB.out|apply qa|apply ia|apply ua)|exact HB.out))):w.heap.size ≤ Ea));clear HB;have HB:=Gb;have za:=Vb;have Be:=Ac;have Wa:=ud;clear Gb Vb Ac ud;clear hb Tb hg;have IK:w5.cell? ⟨Ea,0,none⟩=some (.slice Cb Ta.length Bb):=(ga za.out 0).trans rfl;have GK:w5.cell? ⟨Ea,1,none⟩=some (.int .i64 Ma):=(ga za.out 1).trans rfl;have EK:w5.cell? ⟨Ea,2,none⟩=some (.int .i64 Oa):=(ga za.out 2).trans rfl;have DK:w5.cell? ⟨Ea,3,none⟩=some (.int .i64 Pa):=(ga za.out 3).trans rfl;have CK:w5.cell? ⟨Ea,4,none⟩=some (.slice yc Sa.length Xb):=(ga za.out 4).trans rfl;have jK:=aa za.out 0;have iK:=aa za.out 1;have gK:=aa za.out 2;have fK:=aa za.out 3;have eK:=aa za.out 4)|((with_reducible refine mb (f:=23) rfl ?_);refine yd (some 8) rfl rfl Try.func23 (by kernel_rfl) rfl #[.slice Cb Ta.length Bb,.int .i64 a1] rfl (by (try simp only [List.map_toArray,List.map_cons,List.map_nil]);first|done|rfl|(simp only [List.length_drop,List.length_take];rfl)) ?_;(with_reducible refine (Nc.calls k _ _ Ta a1 t102 _ ?side1 ?side2 A3.out).mono ?_);(case side1=>repeat (first|exact (Kd.Mb ig.out HB.out)|(with_reducible refine Kd.Sc ?_ _)|(with_reducible refine Kd.Rc ?_ _)|(with_reducible refine Kd.Qd ?_)));(case side2=>exact mg.out);rintro e w' ⟨rfl,⟨nd,rfl⟩⟩;refine ⟨_,rfl,?_⟩))
  go_ret
  exact ⟨by first|rfl|(simp [La,Ka] <;> rfl)|(simp [*,La,Ka] <;> rfl),by repeat (first|(with_reducible first|exact HB.out|apply qa|apply ia|apply ua|refine Aa ?_ Wa.out)|exact HB.out)⟩
 ·rw [if_neg c4] at H
  have Gi:decide (t102 < 0)=false:=decide_eq_false c4
  clear c4
  replace H:=Option.bind_eq_some_iff.mp H
  obtain ⟨t103,AB,H⟩:=H
  replace H:(if t103 < 0 then (some (-1)) else (some t103))=some r:=H
  have A7:=ja.mk AB
  clear AB
  by_cases c8:t103 < 0
  ·rw [if_pos c8] at H
   have Ll:decide (t103 < 0)=true:=decide_eq_true c8
   clear c8
   obtain rfl:=Option.some.inj H
   go_enter Try.func29,Try.ntmps29
   go_wp2_with (first|((with_reducible refine Kb (N:=2) rfl ?_);refine Eb ?hg (N:=2) ?hd (cs:=#[.slice Cb Ta.length Bb,.int .i64 Ma,.int .i64 Oa,.int .i64 Pa,.slice yc Sa.length Xb]) (t:=30) ?hr ?_;(case hd=>rfl);(case hg=>rfl);(case hr=>first|(go_simp;done)|(go_simp;rfl));intro Ea hg w9 Tb hb;have Gb:=ja.mk (Qa (by repeat (first|(with_reducible first|exact HB.out|apply qa|apply ia|apply ua)|exact HB.out)) hb);have Vb:=ja.mk (Tb);have Ac:=ja.mk ((by rw [hg];exact (Ra (by repeat (first|(with_reducible first|exact HB.out|apply qa|apply ia|apply ua)|exact HB.out))):w.heap.size ≤ Ea));have ud:=ja.mk ((by rw [hg];exact (Ra (by repeat (first|(with_reducible first|exact HB.out|apply qa|apply ia|apply ua)|exact HB.out))):w.heap.size ≤ Ea));clear HB;have HB:=Gb;have za:=Vb;have Be:=Ac;have Wa:=ud;clear Gb Vb Ac ud;clear hb Tb hg;have Fk:w9.cell? ⟨Ea,0,none⟩=some (.slice Cb Ta.length Bb):=(ga za.out 0).trans rfl;have Ek:w9.cell? ⟨Ea,1,none⟩=some (.int .i64 Ma):=(ga za.out 1).trans rfl;have Dk:w9.cell? ⟨Ea,2,none⟩=some (.int .i64 Oa):=(ga za.out 2).trans rfl;have Ck:w9.cell? ⟨Ea,3,none⟩=some (.int .i64 Pa):=(ga za.out 3).trans rfl;have Bk:w9.cell? ⟨Ea,4,none⟩=some (.slice yc Sa.length Xb):=(ga za.out 4).trans rfl;have xk:=aa za.out 0;have wk:=aa za.out 1;have vk:=aa za.out 2;have uk:=aa za.out 3;have qk:=aa za.out 4)|((with_reducible refine mb (f:=23) rfl ?_);refine yd (some 8) rfl rfl Try.func23 (by kernel_rfl) rfl #[.slice Cb Ta.length Bb,.int .i64 a1] rfl (by (try simp only [List.map_toArray,List.map_cons,List.map_nil]);first|done|rfl|(simp only [List.length_drop,List.length_take];rfl)) ?_;(with_reducible refine (Nc.calls k _ _ Ta a1 t102 _ ?side1 ?side2 A3.out).mono ?_);(case side1=>repeat (first|exact (Kd.Mb ig.out HB.out)|(with_reducible refine Kd.Sc ?_ _)|(with_reducible refine Kd.Rc ?_ _)|(with_reducible refine Kd.Qd ?_)));(case side2=>exact mg.out);rintro e w' ⟨rfl,⟨nd,rfl⟩⟩;refine ⟨_,rfl,?_⟩)|((with_reducible refine mb (f:=69) rfl ?_);refine yd (some 14) rfl rfl Try.func69 (by kernel_rfl) rfl #[.slice yc Sa.length Xb,.int .i64 t102] rfl (by (try simp only [List.map_toArray,List.map_cons,List.map_nil]);first|done|rfl|(simp only [List.length_drop,List.length_take];rfl)) ?_;(with_reducible refine (Fc.calls k _ _ Sa t102 t103 _ ?side1 ?side2 A7.out).mono ?_);(case side1=>repeat (first|exact (Kd.Mb oh.out (by repeat (first|(with_reducible first|exact HB.out|apply qa|apply ia|apply ua|refine Aa ?_ Wa.out)|exact HB.out)))|(with_reducible refine Kd.Sc ?_ _)|(with_reducible refine Kd.Rc ?_ _)|(with_reducible refine Kd.Qd ?_)));(case side2=>exact qj.out);rintro e sj ⟨rfl,hb⟩;refine ⟨_,rfl,?_⟩;have Gb:=ja.mk (gb (g:=Ea) (o:=.cells #[.slice Cb Ta.length Bb,.int .i64 Ma,.int .i64 Oa,.int .i64 Pa,.slice yc Sa.length Xb] 30 (0,0)) (by (with_reducible repeat (first|refine Da ?_ _|refine Ga ?_|refine Ca ?_ _));exact za.out) hb);have Vb:=ja.mk (Qa (by repeat (first|(with_reducible first|exact HB.out|apply qa|apply ia|apply ua|refine Aa ?_ Wa.out)|exact HB.out)) hb);clear za;clear HB;have za:=Gb;have HB:=Vb;clear Gb Vb;(try clear hb);(try clear hb2);(try clear hk);(try clear hi)))
   go_ret
   exact ⟨by first|rfl|(simp [La,Ka] <;> rfl)|(simp [*,La,Ka] <;> rfl),by repeat (first|(with_reducible first|exact HB.out|apply qa|apply ia|apply ua|refine Aa ?_ Wa.out)|exact HB.out)⟩
  ·rw [if_neg c8] at H
   have Ll:decide (t103 < 0)=false:=decide_eq_false c8
   clear c8
   obtain rfl:=Option.some.inj H
   go_enter Try.func29,Try.ntmps29
   go_wp2_with (first|((with_reducible refine Kb (N:=2) rfl ?_);refine Eb ?hg (N:=2) ?hd (cs:=#[.slice Cb Ta.length Bb,.int .i64 Ma,.int .i64 Oa,.int .i64 Pa,.slice yc Sa.length Xb]) (t:=30) ?hr ?_;(case hd=>rfl);(case hg=>rfl);(case hr=>first|(go_simp;done)|(go_simp;rfl));intro Ea hg Nr Tb hb;have Gb:=ja.mk (Qa (by repeat (first|(with_reducible first|exact HB.out|apply qa|apply ia|apply ua)|exact HB.out)) hb);have Vb:=ja.mk (Tb);have Ac:=ja.mk ((by rw [hg];exact (Ra (by repeat (first|(with_reducible first|exact HB.out|apply qa|apply ia|apply ua)|exact HB.out))):w.heap.size ≤ Ea));have ud:=ja.mk ((by rw [hg];exact (Ra (by repeat (first|(with_reducible first|exact HB.out|apply qa|apply ia|apply ua)|exact HB.out))):w.heap.size ≤ Ea));clear HB;have HB:=Gb;have za:=Vb;have Be:=Ac;have Wa:=ud;clear Gb Vb Ac ud;clear hb Tb hg;have aj:Nr.cell? ⟨Ea,0,none⟩=some (.slice Cb Ta.length Bb):=(ga za.out 0).trans rfl;have Zi:Nr.cell? ⟨Ea,1,none⟩=some (.int .i64 Ma):=(ga za.out 1).trans rfl;have Vl:Nr.cell? ⟨Ea,2,none⟩=some (.int .i64 Oa):=(ga za.out 2).trans rfl;have Ul:Nr.cell? ⟨Ea,3,none⟩=some (.int .i64 Pa):=(ga za.out 3).trans rfl;have Tl:Nr.cell? ⟨Ea,4,none⟩=some (.slice yc Sa.length Xb):=(ga za.out 4).trans rfl;have Yi:=aa za.out 0;have Xi:=aa za.out 1;have Sl:=aa za.out 2;have Rl:=aa za.out 3;have Ql:=aa za.out 4)|((with_reducible refine mb (f:=23) rfl ?_);refine yd (some 8) rfl rfl Try.func23 (by kernel_rfl) rfl #[.slice Cb Ta.length Bb,.int .i64 a1] rfl (by (try simp only [List.map_toArray,List.map_cons,List.map_nil]);first|done|rfl|(simp only [List.length_drop,List.length_take];rfl)) ?_;(with_reducible refine (Nc.calls k _ _ Ta a1 t102 _ ?side1 ?side2 A3.out).mono ?_);(case side1=>repeat (first|exact (Kd.Mb ig.out HB.out)|(with_reducible refine Kd.Sc ?_ _)|(with_reducible refine Kd.Rc ?_ _)|(with_reducible refine Kd.Qd ?_)));(case side2=>exact mg.out);rintro e w' ⟨rfl,⟨nd,rfl⟩⟩;refine ⟨_,rfl,?_⟩)|((with_reducible refine mb (f:=69) rfl ?_);refine yd (some 14) rfl rfl Try.func69 (by kernel_rfl) rfl #[.slice yc Sa.length Xb,.int .i64 t102] rfl (by (try simp only [List.map_toArray,List.map_cons,List.map_nil]);first|done|rfl|(simp only [List.length_drop,List.length_take];rfl)) ?_;(with_reducible refine (Fc.calls k _ _ Sa t102 t103 _ ?side1 ?side2 A7.out).mono ?_);(case side1=>repeat (first|exact (Kd.Mb oh.out (by repeat (first|(with_reducible first|exact HB.out|apply qa|apply ia|apply ua|refine Aa ?_ Wa.out)|exact HB.out)))|(with_reducible refine Kd.Sc ?_ _)|(with_reducible refine Kd.Rc ?_ _)|(with_reducible refine Kd.Qd ?_)));(case side2=>exact qj.out);rintro e pz ⟨rfl,hb⟩;refine ⟨_,rfl,?_⟩;have Gb:=ja.mk (gb (g:=Ea) (o:=.cells #[.slice Cb Ta.length Bb,.int .i64 Ma,.int .i64 Oa,.int .i64 Pa,.slice yc Sa.length Xb] 30 (0,0)) (by (with_reducible repeat (first|refine Da ?_ _|refine Ga ?_|refine Ca ?_ _));exact za.out) hb);have Vb:=ja.mk (Qa (by repeat (first|(with_reducible first|exact HB.out|apply qa|apply ia|apply ua|refine Aa ?_ Wa.out)|exact HB.out)) hb);clear za;clear HB;have za:=Gb;have HB:=Vb;clear Gb Vb;(try clear hb);(try clear hb2);(try clear hk);(try clear hi)))
   go_ret
   exact ⟨by first|rfl|(simp [La,Ka] <;> rfl)|(simp [*,La,Ka] <;> rfl),by repeat (first|(with_reducible first|exact HB.out|apply qa|apply ia|apply ua|refine Aa ?_ Wa.out)|exact HB.out)⟩
theorem Kv (l:List Int) (m:Int) (hm:0 ≤ m) (hl:m + l.length ≤ 4611686018427387904):Ev (fun k=>ld.f k l m) (m + l.length,iota m l.length):=by
 have key:=Hi (r:=(m + (l.length:Int),iota m l.length)) (n:=l.length) (fun i=>Ev (fun k=>ld.l0 k ((iota m l.length).take i ++ l.drop i) (m + i) (i:Int)) (m + (l.length:Int),iota m l.length)) ?_ ?_ 0 (by omega)
 ·refine Ev.congr (fun k=>?_) key
  unfold ld.f
  simp
 ·refine Ev.step (fun k=>by rw [ld.l0]) ?_
  refine Ev.neg (by simp [Kj]) ?_
  rw [List.drop_length,List.append_nil,List.take_of_length_le (by rw [Kj];omega)]
  exact Ev.now _
 ·intro i hi h
  refine Ev.step (fun k=>by rw [ld.l0]) ?_
  refine Ev.pos (by simp [Kj];omega) (Ev.pos (by omega) ?_)
  have h1:m + (i:Int)=(iota m l.length).getD i 0:=(yz hi).symm
  rw [ng hi (by omega),Ig (by omega) (by omega),Int.toNat_natCast]
  rw [show ((iota m l.length).take i ++ l.drop i).set i (m + (i:Int))=(iota m l.length).take (i + 1) ++ l.drop (i + 1) from by rw [h1];exact OB (by rw [Kj]) (by rw [Kj];exact hi)]
  rw [show m + (i:Int) + 1=m + ((i + 1:Nat):Int) from by omega]
  exact h
theorem Lv (m:Int) (n:Nat) (hm:0 ≤ m) (hl:m + n ≤ 4611686018427387904):Ev (fun k=>Nc.f k (iota m n) m) (m + n):=by
 have key:=Hi (r:=m + (n:Int)) (n:=n) (fun i=>Ev (fun k=>Nc.l0 k (iota m n) (m + i) (i:Int)) (m + (n:Int))) ?_ ?_ 0 (by omega)
 ·refine Ev.congr (fun k=>?_) key
  unfold Nc.f
  simp
 ·refine Ev.step (fun k=>by rw [Nc.l0]) ?_
  exact Ev.neg (by rw [Kj];omega) (Ev.now _)
 ·intro i hi h
  refine Ev.step (fun k=>by rw [Nc.l0]) ?_
  refine Ev.pos (by rw [Kj];omega) (Ev.pos (by omega) (Ev.pos (by rw [mJ,yz hi]) ?_))
  rw [ng hi (by omega),Ig (by omega) (by omega)]
  rw [show m + (i:Int) + 1=m + ((i + 1:Nat):Int) from by omega]
  exact h
end Go.Proofs.Ytmifdccaajngcaa.P
end
