import Derived.Test.YtkigbdceceeenaaQLiveIn1
import Derived.Test.YtkigbdceceeenaaQLiveIn10
import Derived.Test.YtkigbdceceeenaaQLiveIn9
import Derived.Test.YtkigbdceceeenaaQLiveIn7
import Derived.Shelf.Abstract
import Derived.Outline
import Derived.RegionTactic
import Derived.Deep.QuietTactic
import Derived.BigQuiet
import Derived.Test.YtkigbdceceeenaaQLiveIn4
set_option maxHeartbeats 8000000
set_option maxRecDepth 100000
section
namespace Go.Proofs.Ytkigbdceceeenaa.P
open Go.RowKit Go.Proofs.Sa.Wb Go.Proofs.Sa.je Go.Proofs.Sa.Qf
set_option linter.unusedVariables false
set_option linter.unusedSimpArgs false
attribute [local go_sem] ei ai Tj Sj Yg Xg di Zh
def Yd.l0:Nat→List Int→Int→Int→Option (Int)
 | 0,_,_,_=>none
 | k + 1,x0,x1,x5=>if x5 < (x0.length:Int) then (if 0 ≤ x5 then (if (rd x0 x5)=x1 then (Yd.l0 k x0 (wrap64 (x1 + 1)) (wrap64 (x5 + 1))) else (some (-1))) else (none)) else (some x1)
def Yd.f (k:Nat) (l0:List Int) (a1:Int):Option (Int):=Yd.l0 k l0 a1 0
theorem Yd.calls (k:Nat) (A0:Option Addr) (c0:Nat) (l0:List Int) (a1:Int) (r:Int) (w:World) (nk:Kd.C (Kd.int .i64) w A0 l0.length l0) (hc0:l0.length ≤ c0) (h:Yd.f k l0 a1=some r) :
  Calls Try.prog 20 #[.slice A0 l0.length c0,.int .i64 a1] w fun e w'=>e = .returned (.int .i64 r)∧Lc w w':=by
 have mo:=ja.mk nk;have ZH:=ja.mk hc0;clear nk hc0;have H:(Yd.l0 k l0 a1 0)=some r:=h;clear h;have H':=ja.mk H;clear H;go_enter Try.func20,Try.ntmps20;go_wp2
 go_loopg [1,5] k (fun kq v1 v5 w'=>∃ (Wd:Int) (Ea:Int),v1 = .int .i64 Wd∧v5 = .int .i64 Ea∧ja (Yd.l0 kq l0 Wd Ea=some r)∧ja (kq ≤ k)∧Lc w w')
 case atStart=>exact ⟨(a1),(0),(by first|rfl|(simp;done)|(simp [*];done)),(by first|rfl|(simp;done)|(simp [*];done)),H',⟨Nat.le_refl _⟩,by repeat (first|exact Lc.refl _|apply Lc.step)⟩
 case round =>
  clear H'
  try clear c2
  try clear p2
  (try clear HA);(try clear qg);obtain ⟨Wd,Ea,rfl,rfl,HA,qg,⟨m1,rfl⟩⟩:=hrel;cases gk with
  | zero=>exact absurd HA.out (by simp [Yd.l0])
  | succ k1 =>
   have H:=HA.out;clear HA;simp only [Yd.l0] at H
   by_cases c3:Ea < (l0.length:Int)
   ·rw [if_pos c3] at H;have Wg:decide (Ea < (l0.length:Int))=true:=decide_eq_true c3;clear c3
    by_cases c4:0 ≤ Ea
    ·rw [if_pos c4] at H;have tj:decide (0 ≤ Ea)=true:=decide_eq_true c4;clear c4
     by_cases c5:(rd l0 Ea)=Wd
     ·rw [if_pos c5] at H;have ki:((rd l0 Ea) == Wd)=true:=beq_iff_eq.mpr c5;have Uu:((rd l0 Ea) != Wd)=false:=bne_eq_false_iff_eq.mpr c5;clear c5;have H':=ja.mk H;clear H;have zf:0 ≤ (Ea:Int):=Ua;have yf:Ea < (l0.length:Int):=Ua;obtain ⟨qe,sj,Td⟩:=Kd.ek mo.out Ea zf yf;cases sj;replace zf:=eq_true zf;replace yf:=eq_true yf;go_wp2
      go_roundg k1
      case measure=>have:=qg.out;omega
      case rel=>exact ⟨(wrap64 (Wd + 1)),(wrap64 (Ea + 1)),(by first|rfl|(simp;done)|(simp [*];done)),(by first|rfl|(simp;done)|(simp [*];done)),H',⟨by have:=qg.out;omega⟩,by repeat (first|exact Lc.refl _|apply Lc.step)⟩
     ·rw [if_neg c5] at H;have ki:((rd l0 Ea) == Wd)=false:=beq_eq_false_iff_ne.mpr c5;have Uu:((rd l0 Ea) != Wd)=true:=bne_iff_ne.mpr c5;obtain rfl:=Option.some.inj H;have zf:0 ≤ (Ea:Int):=Ua;have yf:Ea < (l0.length:Int):=Ua;obtain ⟨qe,sj,Td⟩:=Kd.ek mo.out Ea zf yf;cases sj;replace zf:=eq_true zf;replace yf:=eq_true yf;go_wp2;go_ret;exact ⟨by first|rfl|(simp;done)|(simp [*];done),by repeat (first|exact Lc.refl _|apply Lc.step)⟩
    ·rw [if_neg c4] at H;exact absurd H (by simp)
   ·rw [if_neg c3] at H;have Wg:decide (Ea < (l0.length:Int))=false:=decide_eq_false c3;clear c3;obtain rfl:=Option.some.inj H;go_wp2;go_ret;exact ⟨by first|rfl|(simp;done)|(simp [*];done),by repeat (first|exact Lc.refl _|apply Lc.step)⟩
theorem bz (l:List Int) (m:Int) (hm:0 ≤ m) (hl:m + l.length ≤ 4611686018427387904):Ev (fun k=>Ld.f k l m) (m + l.length,iota m l.length):=by
 have key:=Yj (r:=(m + (l.length:Int),iota m l.length)) (n:=l.length) (fun i=>Ev (fun k=>Ld.l0 k ((iota m l.length).take i ++ l.drop i) (m + i) (i:Int)) (m + (l.length:Int),iota m l.length)) ?_ ?_ 0 (by omega)
 ·refine Ev.congr (fun k=>?_) key;unfold Ld.f;simp
 ·refine Ev.step (fun k=>by rw [Ld.l0]) ?_;refine Ev.neg (by simp [rj]) ?_;rw [List.drop_length,List.append_nil,List.take_of_length_le (by rw [rj];omega)];exact Ev.now _
 ·intro i hi h;refine Ev.step (fun k=>by rw [Ld.l0]) ?_;refine Ev.pos (by simp [rj];omega) (Ev.pos (by omega) ?_);have h1:m + (i:Int)=(iota m l.length).getD i 0:=(LC hi).symm;rw [Ke hi (by omega),Ng (by omega) (by omega),Int.toNat_natCast];rw [show ((iota m l.length).take i ++ l.drop i).set i (m + (i:Int))=(iota m l.length).take (i + 1) ++ l.drop (i + 1) from by rw [h1];exact LG (by rw [rj]) (by rw [rj];exact hi)];rw [show m + (i:Int) + 1=m + ((i + 1:Nat):Int) from by omega];exact h
theorem AH (m:Int) (n:Nat) (hm:0 ≤ m) (hl:m + n ≤ 4611686018427387904):Ev (fun k=>Yd.f k (iota m n) m) (m + n):=by
 have key:=Yj (r:=m + (n:Int)) (n:=n) (fun i=>Ev (fun k=>Yd.l0 k (iota m n) (m + i) (i:Int)) (m + (n:Int))) ?_ ?_ 0 (by omega)
 ·refine Ev.congr (fun k=>?_) key;unfold Yd.f;simp
 ·refine Ev.step (fun k=>by rw [Yd.l0]) ?_;exact Ev.neg (by rw [rj];omega) (Ev.now _)
 ·intro i hi h;refine Ev.step (fun k=>by rw [Yd.l0]) ?_;refine Ev.pos (by rw [rj];omega) (Ev.pos (by omega) (Ev.pos (by rw [QO,LC hi]) ?_));rw [Ke hi (by omega),Ng (by omega) (by omega)];rw [show m + (i:Int) + 1=m + ((i + 1:Nat):Int) from by omega];exact h
theorem qu (a:Int):(strOfNums [a]).size=1:=by
 simp [strOfNums]
 rfl
theorem vD (n:Int) (hn:n ≤ 4611686018427387904):∃ t,Ev (fun k=>Vc.f k n) t:=by
 have key:∀ (d:Nat) (x:Int) (s:ByteArray),0 ≤ x→x < (10 ^ d:Nat)→x ≤ 4611686018427387904→s.size + d ≤ 1000000→∃ t,Ev (fun k=>Vc.l0 k x s) t:=by
  intro d
  induction d with
  | zero =>
   intro x s h0 h1 _ hs;have h1':x < 1:=h1;refine ⟨_,Ev.step (fun k=>by rw [Vc.l0]) (Ev.neg (by omega) (Ev.pos (by omega) (Ev.now _)))⟩
  | succ d ih =>
   intro x s h0 h1 h2 hs
   by_cases hx:x > 0
   ·have e1:Int.tdiv x 10=x / 10:=Int.tdiv_eq_ediv_of_nonneg h0;have e2:wrap64 (x / 10)=x / 10:=Ng (by omega) (by omega)
    have h1':x / 10 < (10 ^ d:Nat):=by
     have:((10 ^ (d + 1):Nat):Int)=(10 ^ d:Nat) * 10:=by rw [Nat.pow_succ];simp
     rw [this] at h1;omega
    obtain ⟨t,ht⟩:=ih (x / 10) (strOfNums [(wrap64 (48 + (Int.tmod x 10))) % 256] ++ s) (by omega) h1' (by omega) (by rw [ByteArray.size_append,qu];omega);refine ⟨t,Ev.step (fun k=>by rw [Vc.l0]) (Ev.pos hx ?_)⟩;simp only [Option.bind_some];refine Ev.pos (by rw [qu];omega) ?_;rw [e1,e2];exact ht
   ·exact ⟨_,Ev.step (fun k=>by rw [Vc.l0]) (Ev.neg hx (Ev.pos (by omega) (Ev.now _)))⟩
 unfold Vc.f
 by_cases h:n ≤ 0
 ·exact ⟨_,Ev.pos h (Ev.now _)⟩
 ·obtain ⟨t,ht⟩:=key 19 n ⟨#[]⟩ (by omega) (by omega) hn (by decide);exact ⟨t,Ev.neg h ht⟩
def Hh (T:Nat→ByteArray) (m:Int) (n:Nat):List ye:=(List.range n).map fun (j:Nat)=>(⟨m + 7 * (j:Int),m + 7 * (j:Int) + 1,m + 7 * (j:Int) + 2,m + 7 * (j:Int) + 3,m + 7 * (j:Int) + 4,m + 7 * (j:Int) + 5,T j⟩:ye)
theorem Gh (T:Nat→ByteArray) (m:Int) (n:Nat):(Hh T m n).length=n:=by simp [Hh]
theorem oB {T:Nat→ByteArray} {m:Int} {n j:Nat} (h:j < n):(Hh T m n).getD j Xr=(⟨m + 7 * (j:Int),m + 7 * (j:Int) + 1,m + 7 * (j:Int) + 2,m + 7 * (j:Int) + 3,m + 7 * (j:Int) + 4,m + 7 * (j:Int) + 5,T j⟩:ye):=by simp [Hh,List.getD_eq_getElem?_getD,h]
theorem lD {x:List ye} {i:Nat} (h:i < x.length) (a:ye):Ca (x.set i a) (i:Int)=a:=by
 simp [Ca,List.getD_eq_getElem?_getD,h]
theorem T3 {a:Int} (h0:0 ≤ a) (h1:a + 7 ≤ 4611686018427387904):wrap64 (a + 1)=a + 1∧wrap64 (a + 1 + 1)=a + 2∧wrap64 (a + 2 + 1)=a + 3∧wrap64 (a + 3 + 1)=a + 4∧wrap64 (a + 4 + 1)=a + 5∧wrap64 (a + 5 + 1)=a + 6∧wrap64 (a + 6 + 1)=a + 7:=by
 refine ⟨?_,?_,?_,?_,?_,?_,?_⟩
 all_goals
  rw [Ng (by omega) (by omega)]
  try omega
def uO (l:List We):Nat:=(l.map fun x=>7 * x.f0.length + 4).sum
theorem lB (x:We) (l:List We):uO (x :: l)=7 * x.f0.length + 4 + uO l:=by simp [uO]
theorem U3 {a:Int} (h0:0 ≤ a) (h1:a + 4 ≤ 4611686018427387904):wrap64 (a + 1)=a + 1∧wrap64 (a + 1 + 1)=a + 2∧wrap64 (a + 2 + 1)=a + 3∧wrap64 (a + 3 + 1)=a + 4:=by
 refine ⟨?_,?_,?_,?_⟩
 all_goals
  rw [Ng (by omega) (by omega)]
  try omega
theorem xC (l:List ye) (m:Int) (hm:0 ≤ m) (hl:m + 7 * l.length ≤ 4611686018427387904):∃ ms:List ye,Ev (fun k=>Pc.f k l m) (m + 7 * l.length,ms):=by
 have hT:∀ j:Nat,∃ t,j < l.length→Ev (fun k=>Vc.f k (m + 7 * (j:Int) + 6)) t:=by
  intro j
  by_cases hj:j < l.length
  ·obtain ⟨t,ht⟩:=vD (m + 7 * (j:Int) + 6) (by omega);exact ⟨t,fun _=>ht⟩
  ·exact ⟨⟨#[]⟩,fun h=>absurd h hj⟩
 obtain ⟨T,hT⟩:=Classical.axiomOfChoice hT;refine ⟨Hh T m l.length,?_⟩
 ·have key:=Yj (r:=(m + 7 * (l.length:Int),Hh T m l.length)) (n:=l.length) (fun i=>Ev (fun k=>Pc.l0 k ((Hh T m l.length).take i ++ l.drop i) (m + 7 * i) (i:Int)) (m + 7 * (l.length:Int),Hh T m l.length)) ?_ ?_ 0 (by omega)
  ·refine Ev.congr (fun k=>?_) key;unfold Pc.f;simp
  ·refine Ev.step (fun k=>by rw [Pc.l0]) ?_;refine Ev.neg (by simp [Gh]) ?_;rw [List.drop_length,List.append_nil,List.take_of_length_le (by rw [Gh];omega)];exact Ev.now _
  ·intro i hi h;have hlen:((Hh T m l.length).take i ++ l.drop i).length=l.length:=by simp [Gh];omega
   have xP:=LG (m:=Hh T m l.length) (l:=l) (z:=Xr) (i:=i) (by rw [Gh]) (by rw [Gh];exact hi);rw [oB hi] at xP;generalize hx:(Hh T m l.length).take i ++ l.drop i=x at hlen xP ⊢;refine Ev.step (fun k=>by rw [Pc.l0]) ?_;refine Ev.pos (by omega) (Ev.pos (by omega) ?_);simp only [Int.toNat_natCast,Option.bind_some];have hi1:i < x.length:=by omega
   simp only [lD hi1,List.set_set];obtain ⟨w1,w2,w3,w4,w5,w6,w7⟩:=T3 (a:=m + 7 * (i:Int)) (by omega) (by omega);simp only [w1,w2,w3,w4,w5,w6,w7];refine Ev.bind (hT i hi) ?_;rw [Ke hi (by omega),show m + 7 * (i:Int) + 7=m + 7 * ((i + 1:Nat):Int) from by omega,xP];exact h
theorem zC (l:List We):∀ (m:Int),0 ≤ m→m + uO l ≤ 4611686018427387904→∃ ms:List We,Ev (fun k=>kf.f k l m) (m + uO l,ms):=by
 induction l with
 | nil =>
  intro m hm hl;refine ⟨[],?_⟩;unfold kf.f;simp only [uO,List.map_nil,List.sum_nil,Int.natCast_zero,Int.add_zero];exact Ev.now _
 | cons x l ih =>
  intro m hm hl;rw [lB] at hl;obtain ⟨c,c1⟩:=xC x.f0 m hm (by omega);obtain ⟨ms,m1⟩:=ih (m + 7 * x.f0.length + 4) (by omega) (by omega);obtain ⟨w1,w2,w3,w4⟩:=U3 (a:=m + 7 * (x.f0.length:Int)) (by omega) (by omega);have hv:m + ((7 * x.f0.length + 4 + uO l:Nat):Int)=m + 7 * (x.f0.length:Int) + 4 + uO l:=by omega
  rw [lB,hv];refine ⟨⟨c,m + 7 * x.f0.length,m + 7 * x.f0.length + 1,m + 7 * x.f0.length + 2,m + 7 * x.f0.length + 3⟩ :: ms,?_⟩;unfold kf.f;refine Ev.bind c1 ?_;simp only [w1,w2,w3,w4];exact Ev.bind m1 (Ev.now _)
theorem yC (l0:List Int) (p v s:Int) (l4:List We) (m:Int) (hm:0 ≤ m) (hl:m + l0.length + uO l4 ≤ 4611686018427387904):∃ ms:List We,Ev (fun k=>zg.f k l0 p v s l4 m) (m + l0.length + uO l4,iota m l0.length,ms):=by
 obtain ⟨ms,m1⟩:=zC l4 (m + l0.length) (by omega) (by omega);refine ⟨ms,?_⟩;unfold zg.f;exact Ev.bind (bz l0 m hm (by omega)) (Ev.bind m1 (Ev.now _))
theorem AY (l:List We):uO l ≤ 7 * Jd l + 4 * l.length:=by
 induction l with
 | nil=>simp [uO]
 | cons x l ih =>
  have:Jd (x :: l)=x.f0.length + Jd l:=by simp [Jd]
  rw [lB,this,List.length_cons];omega
theorem wI (l:List Wu):Jd (l.map Vf) ≤ nY l:=by
 unfold Jd nY;rw [List.map_map]
 have:∀ l:List Wu,(l.map ((fun (x:We)=>x.f0.length) ∘ Vf)).sum ≤ (l.map fun x=>wN x.f0).sum:=by
  intro l
  induction l with
  | nil=>simp
  | cons a l ih =>
   rw [List.map_cons,List.map_cons,List.sum_cons,List.sum_cons]
   have:((fun (x:We)=>x.f0.length) ∘ Vf) a ≤ wN a.f0:=by
    simp [Vf,wN]
   omega
 have:=this l;omega
theorem XI (x:K3) (hf:zQ x):∃ t:Int,Ev (fun k=>bh.f k x.f0 x.f1 x.f2 x.f3 x.f4 1048576) t∧(¬ t < 0→x.f0.length ≤ 1048576∧(x.f4.map Vf).length ≤ 1048576∧Jd (x.f4.map Vf) ≤ 1048576 ∧
  Ev (fun k=>xg.f k x.f0 x.f1 x.f2 x.f3 x.f4) (x.f0,x.f1,x.f2,x.f3,x.f4.map Vf)∧Ev (fun k=>Qh.f k x.f0 x.f1 x.f2 x.f3 (x.f4.map Vf) x.f0 x.f1 x.f2 x.f3 (x.f4.map Vf)) true ∧
  ∃ M:Int × List Int × List We,Ev (fun k=>zg.f k x.f0 x.f1 x.f2 x.f3 (x.f4.map Vf) 1) M∧0 ≤ M.1∧M.1 ≤ 4398046511104):=by
 obtain ⟨h0,_,_,_,h4⟩:=hf;obtain ⟨t,e1,e2,e3⟩:=aJ x.f0 x.f1 x.f2 x.f3 x.f4 1048576 (by omega) (by omega) h0.1 h4.1 (fun y hy=>⟨(h4.2 y hy).1.1,fun z hz=>((h4.2 y hy).1.2 z hz).2.2.2.2.2.2⟩);refine ⟨t,e1,fun ht=>?_⟩;have e:=e3 (by omega);obtain ⟨F3,hbc⟩:=KG (l:=x.f4) (n:=1048576) (by omega);have hl:(x.f4.map Vf).length ≤ 1048576:=by rw [List.length_map];exact F3
 have hst:=wI x.f4;have hm:=AY (x.f4.map Vf);obtain ⟨ms,m1⟩:=yC x.f0 x.f1 x.f2 x.f3 (x.f4.map Vf) 1 (by omega) (by omega)
 exact ⟨by omega,hl,by omega,ZI x.f0 x.f1 x.f2 x.f3 x.f4 (by omega) F3 hbc,dJ x.f0 x.f1 x.f2 x.f3 (x.f4.map Vf) (by omega) (by omega) (fun y hy=>by
  have:=MM _ _ hy
  omega),_,m1,by simp only;omega,by simp only;omega⟩
theorem Qw (k:Nat) (A:Option Addr) (c n:Nat) (l:List Int) (a r:Int) (w:World) (hn:l.length=n) (hr:Kd.C (Kd.int .i64) w A l.length l) (hc:n ≤ c) (h:Yd.f k l a=some r):Calls Try.prog 20 #[.slice A n c,.int .i64 a] w fun e w'=>e = .returned (.int .i64 r)∧Lc w w':=by
 subst hn;exact Yd.calls k A c l a r w hr hc h
noncomputable def Wf.f (k:Nat) (Ra:List Int) (La:Int) (Ja:Int) (Ia:Int) (Fa:List Wu) (a1:Int):Option Bool :=
 (bh.f k Ra La Ja Ia Fa 1048576).bind fun s=>if s < 0 then some true else
 (xg.f k Ra La Ja Ia Fa).bind fun G =>
 (Ub.f k G.1 G.2.1 G.2.2.1 G.2.2.2.1 G.2.2.2.2 a1).bind fun x =>
 (zd.f k G.1 G.2.1 G.2.2.1 G.2.2.2.1 G.2.2.2.2 a1).bind fun y =>
 (ld.f k y x).bind fun e1=>if e1=true then
 (Qh.f k G.1 G.2.1 G.2.2.1 G.2.2.2.1 G.2.2.2.2 G.1 G.2.1 G.2.2.1 G.2.2.2.1 G.2.2.2.2).bind fun e2=>if e2=true then
 (zg.f k G.1 G.2.1 G.2.2.1 G.2.2.2.1 G.2.2.2.2 1).bind fun M=>if M.1 < 0 then none else
 (Ld.f k y 1).bind fun m=>(Yd.f k m.2 1).bind fun q=>if q < 0 then none else if q=m.1 then some true else none
 else none else none
theorem Wf.calls (k:Nat) (Za:Option Addr) (gb:Nat) (Ra:List Int) (La:Int) (Ja:Int) (Ia:Int) (Vb:Option Addr) (Lb:Nat) (Fa:List Wu) (a1:Int) (r:Bool) (w:World) (Zd:Kd.C (Kd.int .i64) w Za Ra.length Ra) (Xd:Ra.length ≤ gb) (Tf:Kd.C kP w Vb Fa.length Fa) (Kf:Fa.length ≤ Lb) (h:Wf.f k Ra La Ja Ia Fa a1=some r) :
  Calls Try.prog 4 #[.agg #[.slice Za Ra.length gb,.int .i64 La,.int .i64 Ja,.int .i64 Ia,.slice Vb Fa.length Lb],.int .i64 a1] w fun e w'=>e = .returned (.bool r)∧Below w.heap.size w w':=by
 unfold Wf.f at h;obtain ⟨s,hs,h⟩:=Option.bind_eq_some_iff.mp h;have HSZ:=ja.mk hs;have mo:=ja.mk Zd;have uX:=ja.mk Tf;have N3:=ja.mk Xd;have J2:=ja.mk Kf;obtain ⟨W1,Pf⟩:∃ W1,W1=w.alloc (.cells #[.slice Za Ra.length gb,.int .i64 La,.int .i64 Ja,.int .i64 Ia,.slice Vb Fa.length Lb] 25 (0,0)):=⟨_,rfl⟩;have HW:=ja.mk Pf;have ZR:=ja.mk (show Below w.heap.size w W1 by rw [Pf];exact qa (Below.refl _ _) _);have pO:=ja.mk (show W1.heap[w.heap.size]? = some (.cells #[.slice Za Ra.length gb,.int .i64 La,.int .i64 Ja,.int .i64 Ia,.slice Vb Fa.length Lb] 25 (0,0)) by rw [Pf];exact cu _ _);clear hs Zd Tf Xd Kf Pf
 by_cases hneg:s < 0
 ·rw [if_pos hneg] at h;obtain rfl:=Option.some.inj h;have hnb:decide (s < 0)=true:=decide_eq_true hneg;clear h hneg;have KP:=(ga pO.out 0).trans rfl;have CG:=(ga pO.out 1).trans rfl;have JP:=(ga pO.out 2).trans rfl;have lI:=(ga pO.out 3).trans rfl;have bH:=(ga pO.out 4).trans rfl;go_enter Try.func4,Try.ntmps4
  go_upto_region 1 with (fail)
  rw [← HW.out];clear HW;go_wp2_with (first|(go_at_call 10;(with_reducible refine (bh.calls k Za gb Ra La Ja Ia Vb Lb Fa 1048576 s W1 (Kd.Mb mo.out ZR.out) N3.out (Kd.Mb uX.out ZR.out) J2.out HSZ.out).mono ?_);rintro e w2 ⟨rfl,hb⟩;have Xu:=ja.mk (Qa ZR.out hb);have OX:=ja.mk (Va pO.out hb);clear hb));go_ret;exact ⟨rfl,Xu.out⟩
 ·rw [if_neg hneg] at h;have hnb:decide (s < 0)=false:=decide_eq_false hneg;obtain ⟨⟨g1,g2,g3,g4,g5⟩,tG,h⟩:=Option.bind_eq_some_iff.mp h;obtain ⟨x,tX,h⟩:=Option.bind_eq_some_iff.mp h;obtain ⟨y,tY,h⟩:=Option.bind_eq_some_iff.mp h;obtain ⟨e1,tE,h⟩:=Option.bind_eq_some_iff.mp h;obtain rfl:e1=true:=by cases e1 with|false=>simp at h|true=>rfl
  rw [if_pos rfl] at h;obtain ⟨e2,tF,h⟩:=Option.bind_eq_some_iff.mp h;obtain rfl:e2=true:=by cases e2 with|false=>simp at h|true=>rfl
  rw [if_pos rfl] at h;obtain ⟨⟨M1,M2,M3⟩,tM,h⟩:=Option.bind_eq_some_iff.mp h;have hM:¬ M1 < 0:=fun hm=>by rw [if_pos hm] at h;cases h
  rw [if_neg hM] at h;obtain ⟨⟨m1,m2⟩,tm,h⟩:=Option.bind_eq_some_iff.mp h;obtain ⟨q,tq,h⟩:=Option.bind_eq_some_iff.mp h;have hq:¬ q < 0:=fun hm=>by rw [if_pos hm] at h;cases h
  rw [if_neg hq] at h;have hqm:q=m1:=Decidable.byContradiction fun hm=>by rw [if_neg hm] at h;cases h
  rw [if_pos hqm] at h;obtain rfl:=Option.some.inj h;subst hqm;have hMb:decide (M1 < 0)=false:=decide_eq_false hM;have hqb:decide (q < 0)=false:=decide_eq_false hq;have TG:=ja.mk tG;have TX:=ja.mk tX;have TY:=ja.mk tY;have TE:=ja.mk tE;have TF:=ja.mk tF;have TM:=ja.mk tM;have Tm:=ja.mk tm;have Tq:=ja.mk tq;clear tG tX tY tE tF tM tm tq hM hq hneg h;have KP:=(ga pO.out 0).trans rfl;have CG:=(ga pO.out 1).trans rfl;have JP:=(ga pO.out 2).trans rfl;have lI:=(ga pO.out 3).trans rfl;have bH:=(ga pO.out 4).trans rfl;go_enter Try.func4,Try.ntmps4
  go_upto_region 1 with (fail)
  rw [← HW.out];clear HW
  go_upto_region 5 with (first|(go_at_call 10;(with_reducible refine (bh.calls k Za gb Ra La Ja Ia Vb Lb Fa 1048576 s W1 (Kd.Mb mo.out ZR.out) N3.out (Kd.Mb uX.out ZR.out) J2.out HSZ.out).mono ?_);rintro e w2 ⟨rfl,hb⟩;have Xu:=ja.mk (Qa ZR.out hb);have OX:=ja.mk (Va pO.out hb);clear hb ZR pO KP CG JP lI bH))
  have KP:=(ga OX.out 0).trans rfl;have CG:=(ga OX.out 1).trans rfl;have JP:=(ga OX.out 2).trans rfl;have lI:=(ga OX.out 3).trans rfl;have bH:=(ga OX.out 4).trans rfl
  go_upto_region 6 with (first|(go_at_call 12;(with_reducible refine (xg.calls k Za gb Ra La Ja Ia Vb Lb Fa g1 g2 g3 g4 g5 w2 (Kd.Mb mo.out Xu.out) N3.out (Kd.Mb uX.out Xu.out) J2.out TG.out).mono ?_);rintro e w3 ⟨v0,v4,rfl,ri,jy,hb⟩;obtain ⟨B0,d0,rfl⟩:=Kd.Ud ri;obtain ⟨B4,d4,rfl⟩:=Kd.fo jy;have yR:=ja.mk ri;have xR:=ja.mk jy;have HB3:=ja.mk (Qa Xu.out hb);have HG3:=ja.mk (Va OX.out hb);have z23:=hb.size;clear ri jy hb Xu OX KP CG JP lI bH)|(go_at_call 15;(with_reducible refine (Ub.calls k B0 d0 g1 g2 g3 g4 B4 d4 g5 a1 x w3 (Kd.dc yR.out).2.2 (Kd.dc yR.out).2.1 (Kd.Ue xR.out).2.2 (Kd.Ue xR.out).2.1 TX.out).mono ?_);rintro e w4 ⟨vx,rfl,ho,hb⟩;have HOW:=ja.mk (uI ho HB3.out.size);have P3:=ja.mk (Qa HB3.out hb);have NX:=ja.mk (Va HG3.out hb);have z34:=hb.size;obtain ⟨D0,f0,rfl⟩:=Kd.Ud ho;clear ho hb yR xR HB3 HG3))
  have hzw:=Rc NX.out;have KP:=(ga NX.out 0).trans rfl;have CG:=(ga NX.out 1).trans rfl;have JP:=(ga NX.out 2).trans rfl;have lI:=(ga NX.out 3).trans rfl;have bH:=(ga NX.out 4).trans rfl
  go_upto_region 7 with (first|(go_at_call 12;(with_reducible refine (xg.calls k Za gb Ra La Ja Ia Vb Lb Fa g1 g2 g3 g4 g5 w4 (Kd.Mb mo.out P3.out) N3.out (Kd.Mb uX.out P3.out) J2.out TG.out).mono ?_);rintro e w5 ⟨v0,v4,rfl,ri,jy,hb⟩;obtain ⟨B0,d0,rfl⟩:=Kd.Ud ri;obtain ⟨B4,d4,rfl⟩:=Kd.fo jy;have HX0:=ja.mk (uI ri P3.out.size);have HX4:=ja.mk (mY jy P3.out.size);have HB5:=ja.mk (Qa P3.out hb);have MX:=ja.mk (Va NX.out hb);have oab:=ja.mk (Kd.yd HOW.out hb);have z45:=hb.size;clear ri jy hb P3 NX HOW KP CG JP lI bH))
  have hz6:(w5.alloc (.cells #[.slice B0 g1.length d0,.int .i64 g2,.int .i64 g3,.int .i64 g4,.slice B4 g5.length d4] 30 (0,0))).heap.size=w5.heap.size + 1:=by simp
  have vZ:=qa (Below.refl w5.heap.size w5) (.cells #[.slice B0 g1.length d0,.int .i64 g2,.int .i64 g3,.int .i64 g4,.slice B4 g5.length d4] 30 (0,0));have kI:=cu w5 (.cells #[.slice B0 g1.length d0,.int .i64 g2,.int .i64 g3,.int .i64 g4,.slice B4 g5.length d4] 30 (0,0));generalize w5.alloc (.cells #[.slice B0 g1.length d0,.int .i64 g2,.int .i64 g3,.int .i64 g4,.slice B4 g5.length d4] 30 (0,0))=w6 at hz6 vZ kI ⊢;have FR:=ja.mk (Qa HB5.out vZ);have HG6:=ja.mk (Va MX.out vZ);have mab:=ja.mk (Kd.yd oab.out vZ);have JV:=ja.mk (Kd.yd HX0.out vZ);have EV:=ja.mk (Kd.Vh HX4.out vZ);have Q1:=ja.mk kI;have Z56:=ja.mk hz6;clear hz6 vZ kI HB5 MX oab HX0 HX4;have hx0:=(ga Q1.out 0).trans rfl;have hx1:=(ga Q1.out 1).trans rfl;have iC:=(ga Q1.out 2).trans rfl;have Zy:=(ga Q1.out 3).trans rfl;have Qx:=(ga Q1.out 4).trans rfl
  go_upto_region 8 with (first|(go_at_call 16;(with_reducible refine (zd.calls k B0 d0 g1 g2 g3 g4 B4 d4 g5 a1 y w6 (Kd.dc JV.out).2.2 (Kd.dc JV.out).2.1 (Kd.Ue EV.out).2.2 (Kd.Ue EV.out).2.1 TY.out).mono ?_);rintro e w7 ⟨vy,rfl,ho,hb⟩;have HOG:=ja.mk (uI ho FR.out.size);have YR:=ja.mk (Qa FR.out hb);have HG7:=ja.mk (Va HG6.out hb);have HX7:=ja.mk (Va Q1.out hb);have MV:=ja.mk (Kd.yd mab.out hb);have eab:=ja.mk (Kd.yd JV.out hb);have Vaa:=ja.mk (Kd.Vh EV.out hb);have z67:=hb.size;obtain ⟨E0,q0,rfl⟩:=Kd.Ud ho;clear ho hb FR HG6 Q1 mab JV EV hx0 hx1 iC Zy Qx))
  have NV:=HOG;clear HOG
  go_upto_region 10 with (first|(go_at_call 17;(with_reducible refine (ld.calls k E0 q0 y D0 f0 x true w7 (Kd.dc NV.out).2.2 (Kd.dc NV.out).2.1 (Kd.dc MV.out).2.2 (Kd.dc MV.out).2.1 TE.out).mono ?_);rintro e w8 ⟨rfl,hb0⟩;have hb:Below _ _ _:=hb0.below;have HB8:=ja.mk (Qa YR.out hb);have L2:=ja.mk (Va HG7.out hb);have P1:=ja.mk (Va HX7.out hb);have lab:=ja.mk (Kd.yd MV.out hb);have dab:=ja.mk (Kd.yd eab.out hb);have Uaa:=ja.mk (Kd.Vh Vaa.out hb);have pab:=ja.mk (Kd.yd NV.out hb);have z78:=hb.size;clear hb hb0 YR HG7 HX7 MV eab Vaa NV))
  have HB9:=ja.mk (ta HB8.out);have O3:=ja.mk (Da L2.out);have HX9:=ja.mk (Da P1.out);have F2:=ja.mk (Kd.Ib lab.out);have S1:=ja.mk (Kd.Ib dab.out);have R1:=ja.mk (Kd.pg Uaa.out);have G2:=ja.mk (Kd.Ib pab.out);have z89:w8.heap.size ≤ w8.drew.heap.size:=Nat.le_refl _;refine mm (n:=5) (S:=fun w'=>w'.cell? ⟨w5.heap.size,0,none⟩=some (.slice B0 g1.length d0)∧w'.cell? ⟨w5.heap.size,1,none⟩=some (.int .i64 g2)∧w'.cell? ⟨w5.heap.size,2,none⟩=some (.int .i64 g3)∧w'.cell? ⟨w5.heap.size,3,none⟩=some (.int .i64 g4)∧w'.cell? ⟨w5.heap.size,4,none⟩=some (.slice B4 g5.length d4)∧w'.cell? ⟨w.heap.size,0,none⟩=some (.slice Za Ra.length gb)∧w'.cell? ⟨w.heap.size,1,none⟩=some (.int .i64 La)∧w'.cell? ⟨w.heap.size,2,none⟩=some (.int .i64 Ja)∧w'.cell? ⟨w.heap.size,3,none⟩=some (.int .i64 Ia)∧w'.cell? ⟨w.heap.size,4,none⟩=some (.slice Vb Fa.length Lb)) (ds:=[]) #[false,false,false,false,false] (by kernel_rfl) rfl rfl ⟨(ga P1.out 0).trans rfl,(ga P1.out 1).trans rfl,(ga P1.out 2).trans rfl,(ga P1.out 3).trans rfl,(ga P1.out 4).trans rfl,(ga L2.out 0).trans rfl,(ga L2.out 1).trans rfl,(ga L2.out 2).trans rfl,(ga L2.out 3).trans rfl,(ga L2.out 4).trans rfl⟩ (fun hHeld=>?_);generalize w8.drew=w9 at HB9 O3 HX9 F2 S1 R1 G2 z89 hHeld ⊢;refine yg (i:=0) (N:=some 31) (v:=?_) (a':=?_) #[true,false,false,false,false] rfl rfl (by kernel_rfl) (fun _ _ _ h=>h) (Or.inl ⟨by rfl,?_⟩) hHeld ?_ ?_;rotate_left
  ·rintro w' ⟨s0,s1,s2,s3,s4,s5,s6,s7,s8,s9⟩;go_simp;with_reducible rfl
  rotate_left
  ·simp only [Act.put,List.setIfInBounds_toArray,List.set_cons_zero,List.set_cons_succ,Yb,Zb]
   rfl
  refine yg (i:=1) (N:=some 32) (v:=?_) (a':=?_) #[true,true,false,false,false] rfl rfl (by kernel_rfl) (fun _ _ _ h=>h) (Or.inl ⟨by rfl,?_⟩) hHeld ?_ ?_;rotate_left
  ·rintro w' ⟨s0,s1,s2,s3,s4,s5,s6,s7,s8,s9⟩;go_simp;with_reducible rfl
  rotate_left
  ·simp only [Act.put,List.setIfInBounds_toArray,List.set_cons_zero,List.set_cons_succ,Yb,Zb]
   rfl
  refine ku (i:=2) (N:=some 33) #[true,true,true,false,false] rfl rfl (by kernel_rfl) (by decide) (fun K hK=>?_);refine dn Try.func12 (by kernel_rfl) rfl #[.agg #[.slice Za Ra.length gb,.int .i64 La,.int .i64 Ja,.int .i64 Ia,.slice Vb Fa.length Lb]] (by rfl) rfl rfl (by simp only [List.map_toArray,List.map_cons,List.map_nil];rfl) ?_;with_reducible refine (xg.calls k Za gb Ra La Ja Ia Vb Lb Fa g1 g2 g3 g4 g5 w9 (Kd.Mb mo.out HB9.out) N3.out (Kd.Mb uX.out HB9.out) J2.out TG.out).mono ?_
  rintro e aq ⟨v0,v4,rfl,ri,jy,hb⟩;refine ⟨_,rfl,?_⟩;have Vab:=ja.mk (Qa HB9.out hb);have Uy:=ja.mk (Va O3.out hb);have JJ:=ja.mk (Va HX9.out hb);have CX:=ja.mk (Kd.yd F2.out hb);have iN:=ja.mk (Kd.yd S1.out hb);have gN:=ja.mk (Kd.Vh R1.out hb);have KX:=ja.mk (Kd.yd G2.out hb);have zar:=hb.size;obtain ⟨F0,i0,rfl⟩:=Kd.Ud ri;obtain ⟨F4,i4,rfl⟩:=Kd.fo jy;have yR:=ja.mk ri;have xR:=ja.mk jy;clear ri jy hb HB9 O3 HX9 F2 S1 R1 G2;refine hK.out _ _ ⟨(ga JJ.out 0).trans rfl,(ga JJ.out 1).trans rfl,(ga JJ.out 2).trans rfl,(ga JJ.out 3).trans rfl,(ga JJ.out 4).trans rfl,(ga Uy.out 0).trans rfl,(ga Uy.out 1).trans rfl,(ga Uy.out 2).trans rfl,(ga Uy.out 3).trans rfl,(ga Uy.out 4).trans rfl⟩ (fun hHeld=>?_);clear hK K;refine bn (a':=?_) ?_ ?_;rotate_left
  ·show Act.put _ (some 33) _=_
   simp only [Act.put,List.setIfInBounds_toArray,List.set_cons_zero,List.set_cons_succ,Yb,Zb]
   rfl
  refine ku (i:=3) (N:=some 34) #[true,true,true,true,false] rfl rfl (by kernel_rfl) (by decide) (fun K hK=>?_);refine dn Try.func14 (by kernel_rfl) rfl #[.agg #[.slice B0 g1.length d0,.int .i64 g2,.int .i64 g3,.int .i64 g4,.slice B4 g5.length d4],.agg #[.slice F0 g1.length i0,.int .i64 g2,.int .i64 g3,.int .i64 g4,.slice F4 g5.length i4]] (by rfl) rfl rfl (by simp only [List.map_toArray,List.map_cons,List.map_nil];rfl) ?_;with_reducible refine (Qh.calls k B0 d0 g1 g2 g3 g4 B4 d4 g5 F0 i0 g1 g2 g3 g4 F4 i4 g5 true aq (Kd.dc iN.out).2.2 (Kd.dc iN.out).2.1 (Kd.Ue gN.out).2.2 (Kd.Ue gN.out).2.1 (Kd.dc yR.out).2.2 (Kd.dc yR.out).2.1 (Kd.Ue xR.out).2.2 (Kd.Ue xR.out).2.1 TF.out).mono ?_
  rintro e Fi ⟨rfl,hb⟩;refine ⟨_,rfl,?_⟩;have Uab:=ja.mk (Qa Vab.out hb);have Ty:=ja.mk (Va Uy.out hb);have TB:=ja.mk (Va JJ.out hb);have BX:=ja.mk (Kd.yd CX.out hb);have sX:=ja.mk (Kd.yd iN.out hb);have rX:=ja.mk (Kd.Vh gN.out hb);have JX:=ja.mk (Kd.yd KX.out hb);have ban:=hb.size;clear hb yR xR Vab Uy JJ CX iN gN KX;refine hK.out _ _ ⟨(ga TB.out 0).trans rfl,(ga TB.out 1).trans rfl,(ga TB.out 2).trans rfl,(ga TB.out 3).trans rfl,(ga TB.out 4).trans rfl,(ga Ty.out 0).trans rfl,(ga Ty.out 1).trans rfl,(ga Ty.out 2).trans rfl,(ga Ty.out 3).trans rfl,(ga Ty.out 4).trans rfl⟩ (fun hHeld=>?_);clear hK K;refine bn (a':=?_) ?_ ?_;rotate_left
  ·show Act.put _ (some 34) _=_
   simp only [Act.put,List.setIfInBounds_toArray,List.set_cons_zero,List.set_cons_succ,Yb,Zb]
   rfl
  refine Zc (i:=4) (N:=some 35) (v:=?_) (a':=?_) #[true,true,true,true,true] rfl rfl (by kernel_rfl) (fun _ _ _ h=>h) (Or.inl ⟨by rfl,?_⟩) ?_ ?_;rotate_left
  ·intro w';go_simp;with_reducible rfl
  rotate_left
  ·simp only [Act.put,List.setIfInBounds_toArray,List.set_cons_zero,List.set_cons_succ,Yb,Zb]
   rfl
  refine Np (by kernel_rfl) ?_;clear HB8 L2 P1 lab dab Uaa pab;have hx0:=(ga TB.out 0).trans rfl;have hx1:=(ga TB.out 1).trans rfl;have iC:=(ga TB.out 2).trans rfl;have Zy:=(ga TB.out 3).trans rfl;have Qx:=(ga TB.out 4).trans rfl
  go_upto_region 14 with (first|(go_at_call 18;(with_reducible refine (zg.calls k _ _ g1 g2 g3 g4 _ _ g5 1 M1 M2 M3 w Fi Uab.out sX.out rX.out TM.out).mono ?_);rintro e dr ⟨rfl,_,_,hb,hk⟩;have sG:=ja.mk hb;have QV:=ja.mk (Kept.mono hk (fun k_ M5=>(Or.elim M5 id id:w4.heap.size ≤ k_∧k_ < w5.heap.size)));have aan:=hk.1;clear hb hk hx0 hx1 iC Zy Qx))
  have ER:=ja.mk (Ko Ty.out QV.out (by omega));have mN:=ja.mk (Kd.SB BX.out QV.out (by intro k_ h1 h2;omega));have nN:=ja.mk (Kd.SB JX.out QV.out (by have:=Z56.out;intro k_ h1 h2;omega));clear Ty BX JX TB sX rX Uab QV
  go_upto_region 17 with (first|(go_at_call 17;(with_reducible refine (ld.calls k E0 q0 y D0 f0 x true dr (Kd.dc nN.out).2.2 (Kd.dc nN.out).2.1 (Kd.dc mN.out).2.2 (Kd.dc mN.out).2.1 TE.out).mono ?_);rintro e gC ⟨rfl,hb0⟩;have hb:Below _ _ _:=hb0.below;have Tab:=ja.mk (Qa sG.out hb);have Kab:=ja.mk (Va ER.out hb);have AX:=ja.mk (Kd.yd mN.out hb);have IX:=ja.mk (Kd.yd nN.out hb);have Zam:=hb.size;clear hb hb0 sG ER mN nN))
  go_upto_region 19 with (first|(go_at_call 19;(with_reducible refine (Ld.calls k _ _ y 1 q m2 w gC Tab.out IX.out Tm.out).mono ?_);rintro e Tx ⟨rfl,ho,hb,hk⟩;have Sab:=ja.mk hb;have K2:=ja.mk hk;have YH:=ja.mk ho;have Yam:=hk.1;clear hb hk ho))
  have Jab:=ja.mk (Ko Kab.out K2.out (by have:=Z56.out;omega));have zX:=ja.mk (Kd.SB AX.out K2.out (by have:=Z56.out;intro k_ h1 h2;omega));have hlm:m2.length=y.length:=(Kd.dc YH.out).1.symm;have HLM:=ja.mk hlm;clear Kab AX IX Tab K2 hlm
  go_upto_region 24 with (first|(go_at_call 20;(with_reducible refine (Qw k E0 q0 y.length m2 1 q Tx HLM.out (Kd.dc YH.out).2.2 (Kd.dc YH.out).2.1 Tq.out).mono ?_);rintro e Xp ⟨rfl,hb0⟩;have hb:Below _ _ _:=hb0.below;have bI:=ja.mk (Qa Sab.out hb);have LJ:=ja.mk (Va Jab.out hb);have yX:=ja.mk (Kd.yd zX.out hb);have GX:=ja.mk (Kd.yd YH.out hb);have Xam:=hb.size;clear hb hb0 Sab Jab zX YH))
  have KP:=(ga LJ.out 0).trans rfl;have CG:=(ga LJ.out 1).trans rfl;have JP:=(ga LJ.out 2).trans rfl;have lI:=(ga LJ.out 3).trans rfl;have bH:=(ga LJ.out 4).trans rfl
  go_upto_region 25 with (first|(go_at_call 12;(with_reducible refine (xg.calls k Za gb Ra La Ja Ia Vb Lb Fa g1 g2 g3 g4 g5 Xp (Kd.Mb mo.out bI.out) N3.out (Kd.Mb uX.out bI.out) J2.out TG.out).mono ?_);rintro e cv ⟨v0,v4,rfl,ri,jy,hb⟩;obtain ⟨F0,i0,rfl⟩:=Kd.Ud ri;obtain ⟨F4,i4,rfl⟩:=Kd.fo jy;have yR:=ja.mk ri;have xR:=ja.mk jy;have Rab:=ja.mk (Qa bI.out hb);have Iab:=ja.mk (Va LJ.out hb);have xX:=ja.mk (Kd.yd yX.out hb);have FX:=ja.mk (Kd.yd GX.out hb);have Wam:=hb.size;clear ri jy hb bI LJ yX GX KP CG JP lI bH)|(go_at_call 16;(with_reducible refine (zd.calls k F0 i0 g1 g2 g3 g4 F4 i4 g5 a1 y cv (Kd.dc yR.out).2.2 (Kd.dc yR.out).2.1 (Kd.Ue xR.out).2.2 (Kd.Ue xR.out).2.1 TY.out).mono ?_);rintro e kr ⟨vz,rfl,ho,hb⟩;have zR:=ja.mk ho;have Qab:=ja.mk (Qa Rab.out hb);have Hab:=ja.mk (Va Iab.out hb);have lN:=ja.mk (Kd.yd xX.out hb);have EX:=ja.mk (Kd.yd FX.out hb);have Vam:=hb.size;obtain ⟨JR0,j0,rfl⟩:=Kd.Ud ho;clear ho hb yR xR Rab Iab xX FX))
  go_upto_region 28 with (first|(go_at_call 17;(with_reducible refine (ld.calls k JR0 j0 y D0 f0 x true kr (Kd.dc zR.out).2.2 (Kd.dc zR.out).2.1 (Kd.dc lN.out).2.2 (Kd.dc lN.out).2.1 TE.out).mono ?_);rintro e vN ⟨rfl,hb0⟩;have hb:Below _ _ _:=hb0.below;have Eam:=ja.mk (Qa Qab.out hb);have Vat:=ja.mk (Va Hab.out hb);have Zaq:=ja.mk (Kd.yd lN.out hb);have DX:=ja.mk (Kd.yd EX.out hb);have Uam:=hb.size;clear hb hb0 Qab Hab lN EX zR))
  go_wp2_with (first|(go_at_call 20;(with_reducible refine (Qw k E0 q0 y.length m2 1 q vN HLM.out (Kd.dc DX.out).2.2 (Kd.dc DX.out).2.1 Tq.out).mono ?_);rintro e mz ⟨rfl,hb0⟩;have hb:Below _ _ _:=hb0.below;have Dam:=ja.mk (Qa Eam.out hb);clear hb hb0));go_ret;exact ⟨rfl,Dam.out⟩
theorem Yu (x:K3) (b0:Int) (hf:zQ x) (hb0:Rq b0):∃ k,Wf.f k x.f0 x.f1 x.f2 x.f3 x.f4 b0=some true:=by
 obtain ⟨t,e1,e2⟩:=XI x hf;refine Ev.rounds (g:=fun k=>Wf.f k x.f0 x.f1 x.f2 x.f3 x.f4 b0) ?_;unfold Wf.f;refine Ev.bind e1 ?_
 by_cases ht:t < 0
 ·exact Ev.pos ht (Ev.now _)
 refine Ev.neg ht ?_;obtain ⟨h0,hl,hst,hT,hq,⟨M1,M2,M3⟩,hM,hM0,_⟩:=e2 ht;obtain ⟨r,r1,r2,r3⟩:=dO x.f0 x.f1 x.f2 x.f3 (x.f4.map Vf) b0 h0 hl hst;have hE:=QC r (by omega);have hm:=bz r 1 (by omega) (by omega);have hh:=AH 1 r.length (by omega) (by omega);refine Ev.bind hT (Ev.bind r1 (Ev.bind r2 (Ev.bind hE (Ev.pos rfl (Ev.bind hq (Ev.pos rfl (Ev.bind hM (Ev.neg (by simp only at hM0 ⊢;omega) (Ev.bind hm (Ev.bind hh (Ev.neg (by omega) (Ev.pos rfl (Ev.now _)))))))))))))
end Go.Proofs.Ytkigbdceceeenaa.P
end
