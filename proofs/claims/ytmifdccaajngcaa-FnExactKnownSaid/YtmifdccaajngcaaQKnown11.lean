import Derived.Test.YtmifdccaajngcaaQKnown1
import Derived.Test.YtmifdccaajngcaaQKnown10
import Derived.Test.YtmifdccaajngcaaQKnown3
import Derived.Test.YtmifdccaajngcaaQKnown7
import Derived.Test.YtmifdccaajngcaaQKnown2
import Derived.Test.YtmifdccaajngcaaQKnown9
import Derived.Test.YtmifdccaajngcaaQKnown6
import Derived.Shelf.Abstract
import Derived.Outline
import Derived.RegionTactic
import Derived.Deep.QuietTactic
import Derived.BigQuiet
section
namespace Go.Proofs.Ytmifdccaajngcaa.P
open Go.RowKit Go.Proofs.Na.mc Go.Proofs.Na.jf Go.Proofs.Na.xg
set_option linter.unusedVariables false
set_option linter.unusedSimpArgs false
theorem Wr (a:Int):(strOfNums [a]).size=1:=by
 simp [strOfNums]
 rfl
theorem Wz (n:Int) (hn:n ≤ 4611686018427387904):∃ t,Ev (fun k=>Pb.f k n) t:=by
 have key:∀ (d:Nat) (x:Int) (s:ByteArray),0 ≤ x→x < (10 ^ d:Nat)→x ≤ 4611686018427387904→s.size + d ≤ 1000000→∃ t,Ev (fun k=>Pb.l0 k x s) t:=by
  intro d
  induction d with
  | zero =>
   intro x s h0 h1 _ hs
   have h1':x < 1:=h1
   refine ⟨_,Ev.step (fun k=>by rw [Pb.l0]) (Ev.neg (by omega) (Ev.pos (by omega) (Ev.now _)))⟩
  | succ d ih =>
   intro x s h0 h1 h2 hs
   by_cases hx:x > 0
   ·have e1:Int.tdiv x 10=x / 10:=Int.tdiv_eq_ediv_of_nonneg h0
    have e2:wrap64 (x / 10)=x / 10:=Ig (by omega) (by omega)
    have h1':x / 10 < (10 ^ d:Nat):=by
     have:((10 ^ (d + 1):Nat):Int)=(10 ^ d:Nat) * 10:=by rw [Nat.pow_succ];simp
     rw [this] at h1
     omega
    obtain ⟨t,ht⟩:=ih (x / 10) (strOfNums [(wrap64 (48 + (Int.tmod x 10))) % 256] ++ s) (by omega) h1' (by omega) (by rw [ByteArray.size_append,Wr];omega)
    refine ⟨t,Ev.step (fun k=>by rw [Pb.l0]) (Ev.pos hx ?_)⟩
    simp only [Option.bind_some]
    refine Ev.pos (by rw [Wr];omega) ?_
    rw [e1,e2]
    exact ht
   ·exact ⟨_,Ev.step (fun k=>by rw [Pb.l0]) (Ev.neg hx (Ev.pos (by omega) (Ev.now _)))⟩
 unfold Pb.f
 by_cases h:n ≤ 0
 ·exact ⟨_,Ev.pos h (Ev.now _)⟩
 ·obtain ⟨t,ht⟩:=key 19 n ⟨#[]⟩ (by omega) (by omega) hn (by decide)
  exact ⟨t,Ev.neg h ht⟩
def Xh (T:Nat→ByteArray) (m:Int) (n:Nat):List Bf:=(List.range n).map fun (j:Nat)=>(⟨m + 7 * (j:Int),m + 7 * (j:Int) + 1,m + 7 * (j:Int) + 2,m + 7 * (j:Int) + 3,m + 7 * (j:Int) + 4,m + 7 * (j:Int) + 5,T j⟩:Bf)
theorem bh (T:Nat→ByteArray) (m:Int) (n:Nat):(Xh T m n).length=n:=by simp [Xh]
theorem zq {T:Nat→ByteArray} {m:Int} {n j:Nat} (h:j < n):(Xh T m n).getD j Fq=(⟨m + 7 * (j:Int),m + 7 * (j:Int) + 1,m + 7 * (j:Int) + 2,m + 7 * (j:Int) + 3,m + 7 * (j:Int) + 4,m + 7 * (j:Int) + 5,T j⟩:Bf):=by simp [Xh,List.getD_eq_getElem?_getD,h]
theorem Sz {x:List Bf} {i:Nat} (h:i < x.length) (a:Bf):Ja (x.set i a) (i:Int)=a:=by
 simp [Ja,List.getD_eq_getElem?_getD,h]
theorem OQ {a:Int} (h0:0 ≤ a) (h1:a + 7 ≤ 4611686018427387904):wrap64 (a + 1)=a + 1∧wrap64 (a + 1 + 1)=a + 2∧wrap64 (a + 2 + 1)=a + 3∧wrap64 (a + 3 + 1)=a + 4∧wrap64 (a + 4 + 1)=a + 5∧wrap64 (a + 5 + 1)=a + 6∧wrap64 (a + 6 + 1)=a + 7:=by
 refine ⟨?_,?_,?_,?_,?_,?_,?_⟩
 all_goals
  rw [Ig (by omega) (by omega)]
  try omega
theorem iz (l:List Bf) (m:Int) (hm:0 ≤ m) (hl:m + 7 * l.length ≤ 4611686018427387904):∃ ms:List Bf,Ev (fun k=>Yb.f k l m) (m + 7 * l.length,ms)∧Ev (fun k=>Db.f k ms m) (m + 7 * l.length):=by
 have hT:∀ j:Nat,∃ t,j < l.length→Ev (fun k=>Pb.f k (m + 7 * (j:Int) + 6)) t:=by
  intro j
  by_cases hj:j < l.length
  ·obtain ⟨t,ht⟩:=Wz (m + 7 * (j:Int) + 6) (by omega)
   exact ⟨t,fun _=>ht⟩
  ·exact ⟨⟨#[]⟩,fun h=>absurd h hj⟩
 obtain ⟨T,hT⟩:=Classical.axiomOfChoice hT
 refine ⟨Xh T m l.length,?_,?_⟩
 ·have key:=Hi (r:=(m + 7 * (l.length:Int),Xh T m l.length)) (n:=l.length) (fun i=>Ev (fun k=>Yb.l0 k ((Xh T m l.length).take i ++ l.drop i) (m + 7 * i) (i:Int)) (m + 7 * (l.length:Int),Xh T m l.length)) ?_ ?_ 0 (by omega)
  ·refine Ev.congr (fun k=>?_) key
   unfold Yb.f
   simp
  ·refine Ev.step (fun k=>by rw [Yb.l0]) ?_
   refine Ev.neg (by simp [bh]) ?_
   rw [List.drop_length,List.append_nil,List.take_of_length_le (by rw [bh];omega)]
   exact Ev.now _
  ·intro i hi h
   have hlen:((Xh T m l.length).take i ++ l.drop i).length=l.length:=by simp [bh];omega
   have hset:=OB (m:=Xh T m l.length) (l:=l) (z:=Fq) (i:=i) (by rw [bh]) (by rw [bh];exact hi)
   rw [zq hi] at hset
   generalize hx:(Xh T m l.length).take i ++ l.drop i=x at hlen hset ⊢
   refine Ev.step (fun k=>by rw [Yb.l0]) ?_
   refine Ev.pos (by omega) (Ev.pos (by omega) ?_)
   simp only [Int.toNat_natCast,Option.bind_some]
   have hi1:i < x.length:=by omega
   simp only [Sz hi1,List.set_set]
   obtain ⟨w1,w2,w3,w4,w5,w6,w7⟩:=OQ (a:=m + 7 * (i:Int)) (by omega) (by omega)
   simp only [w1,w2,w3,w4,w5,w6,w7]
   refine Ev.bind (hT i hi) ?_
   rw [ng hi (by omega),show m + 7 * (i:Int) + 7=m + 7 * ((i + 1:Nat):Int) from by omega,hset]
   exact h
 ·have key:=Hi (r:=m + 7 * (l.length:Int)) (n:=l.length) (fun i=>Ev (fun k=>Db.l0 k (Xh T m l.length) (m + 7 * i) (i:Int)) (m + 7 * (l.length:Int))) ?_ ?_ 0 (by omega)
  ·refine Ev.congr (fun k=>?_) key
   unfold Db.f
   simp
  ·refine Ev.step (fun k=>by rw [Db.l0]) ?_
   exact Ev.neg (by rw [bh];omega) (Ev.now _)
  ·intro i hi h
   have hr:Ja (Xh T m l.length) (i:Int)=(⟨m + 7 * (i:Int),m + 7 * (i:Int) + 1,m + 7 * (i:Int) + 2,m + 7 * (i:Int) + 3,m + 7 * (i:Int) + 4,m + 7 * (i:Int) + 5,T i⟩:Bf):=zq hi
   refine Ev.step (fun k=>by rw [Db.l0]) ?_
   refine Ev.pos (by rw [bh];omega) (Ev.pos (by omega) ?_)
   obtain ⟨w1,w2,w3,w4,w5,w6,w7⟩:=OQ (a:=m + 7 * (i:Int)) (by omega) (by omega)
   simp only [w1,w2,w3,w4,w5,w6,w7,hr]
   refine Ev.pos (by simp) (Ev.pos (by simp) (Ev.pos (by simp) (Ev.pos (by simp) (Ev.pos (by simp) (Ev.pos (by simp) (Ev.bind (hT i hi) (Ev.pos rfl ?_)))))))
   rw [ng hi (by omega),show m + 7 * (i:Int) + 7=m + 7 * ((i + 1:Nat):Int) from by omega]
   exact h
def TC (l:List gh):Nat:=(l.map fun x=>7 * x.f0.length + 4).sum
theorem Xx (x:gh) (l:List gh):TC (x :: l)=7 * x.f0.length + 4 + TC l:=by simp [TC]
theorem RV {a:Int} (h0:0 ≤ a) (h1:a + 4 ≤ 4611686018427387904):wrap64 (a + 1)=a + 1∧wrap64 (a + 1 + 1)=a + 2∧wrap64 (a + 2 + 1)=a + 3∧wrap64 (a + 3 + 1)=a + 4:=by
 refine ⟨?_,?_,?_,?_⟩
 all_goals
  rw [Ig (by omega) (by omega)]
  try omega
theorem jz (l:List gh):∀ (m:Int),0 ≤ m→m + TC l ≤ 4611686018427387904→∃ ms:List gh,Ev (fun k=>Qe.f k l m) (m + TC l,ms)∧ms.length=l.length∧∀ (pre:List gh),pre.length + l.length ≤ 1048576→Ev (fun k=>Fc.l0 k (pre ++ ms) m (pre.length:Int)) (m + TC l):=by
 induction l with
 | nil =>
  intro m hm hl
  refine ⟨[],?_,rfl,fun pre _=>?_⟩
  ·unfold Qe.f
   simp only [TC,List.map_nil,List.sum_nil,Int.natCast_zero,Int.add_zero]
   exact Ev.now _
  ·refine Ev.step (fun k=>by rw [Fc.l0]) ?_
   simp only [TC,List.map_nil,List.sum_nil,Int.natCast_zero,Int.add_zero]
   exact Ev.neg (by simp) (Ev.now _)
 | cons x l ih =>
  intro m hm hl
  rw [Xx] at hl
  obtain ⟨c,c1,c2⟩:=iz x.f0 m hm (by omega)
  obtain ⟨ms,m1,m2,m3⟩:=ih (m + 7 * x.f0.length + 4) (by omega) (by omega)
  obtain ⟨w1,w2,w3,w4⟩:=RV (a:=m + 7 * (x.f0.length:Int)) (by omega) (by omega)
  have hv:m + ((7 * x.f0.length + 4 + TC l:Nat):Int)=m + 7 * (x.f0.length:Int) + 4 + TC l:=by omega
  rw [Xx,hv]
  refine ⟨⟨c,m + 7 * x.f0.length,m + 7 * x.f0.length + 1,m + 7 * x.f0.length + 2,m + 7 * x.f0.length + 3⟩ :: ms,?_,by simp [m2],fun pre hp=>?_⟩
  ·unfold Qe.f
   refine Ev.bind c1 ?_
   simp only [w1,w2,w3,w4]
   exact Ev.bind m1 (Ev.now _)
  ·have hr:Xa (pre ++ (⟨c,m + 7 * x.f0.length,m + 7 * x.f0.length + 1,m + 7 * x.f0.length + 2,m + 7 * x.f0.length + 3⟩:gh) :: ms) (pre.length:Int)=⟨c,m + 7 * x.f0.length,m + 7 * x.f0.length + 1,m + 7 * x.f0.length + 2,m + 7 * x.f0.length + 3⟩:=by
    simp [Xa,List.getD_eq_getElem?_getD]
   rw [List.length_cons] at hp
   have hn:=m3 (pre ++ [⟨c,m + 7 * x.f0.length,m + 7 * x.f0.length + 1,m + 7 * x.f0.length + 2,m + 7 * x.f0.length + 3⟩]) (by rw [List.length_append,List.length_singleton];omega)
   have hl2:pre.length < (pre ++ (⟨c,m + 7 * x.f0.length,m + 7 * x.f0.length + 1,m + 7 * x.f0.length + 2,m + 7 * x.f0.length + 3⟩:gh) :: ms).length:=by simp
   rw [List.append_assoc,List.singleton_append,List.length_append] at hn
   generalize (pre ++ (⟨c,m + 7 * x.f0.length,m + 7 * x.f0.length + 1,m + 7 * x.f0.length + 2,m + 7 * x.f0.length + 3⟩:gh) :: ms)=ys at hn hr hl2 ⊢
   refine Ev.step (fun k=>by rw [Fc.l0]) ?_
   refine Ev.pos (by omega) (Ev.pos (by omega) ?_)
   simp only [hr]
   refine Ev.bind c2 (Ev.neg (by omega) ?_)
   simp only [w1,w2,w3,w4]
   refine Ev.pos (by simp) (Ev.pos (by simp) (Ev.pos (by simp) (Ev.pos (by simp) ?_)))
   rw [Ig (x:=(pre.length:Int) + 1) (by omega) (by omega)]
   exact hn
theorem jB (l0:List Int) (p v s:Int) (l4:List gh) (m:Int) (hm:0 ≤ m) (hl:m + l0.length + TC l4 ≤ 4611686018427387904) (h4:l4.length ≤ 1048576):∃ ms:List gh,Ev (fun k=>Qf.f k l0 p v s l4 m) (m + l0.length + TC l4,iota m l0.length,ms)∧Ev (fun k=>nh.f k (iota m l0.length) p v s ms m) (m + l0.length + TC l4):=by
 obtain ⟨ms,m1,m2,m3⟩:=jz l4 (m + l0.length) (by omega) (by omega)
 refine ⟨ms,?_,?_⟩
 ·unfold Qf.f
  exact Ev.bind (Kv l0 m hm (by omega)) (Ev.bind m1 (Ev.now _))
 ·unfold nh.f
  refine Ev.bind (Lv m l0.length hm (by omega)) (Ev.neg (by omega) ?_)
  have h:=m3 [] (by simpa using h4)
  simp only [List.nil_append,List.length_nil] at h
  refine Ev.bind (a:=m + l0.length + TC l4) ?_ (Ev.neg (by omega) (Ev.now _))
  unfold Fc.f
  exact h
theorem US (l:List gh):TC l ≤ 7 * We l + 4 * l.length:=by
 induction l with
 | nil=>simp [TC]
 | cons x l ih =>
  have:We (x :: l)=x.f0.length + We l:=by simp [We]
  rw [Xx,this,List.length_cons]
  omega
theorem gD (l:List Lk):We (l.map yg) ≤ MS l:=by
 unfold We MS
 rw [List.map_map]
 have:∀ l:List Lk,(l.map ((fun (x:gh)=>x.f0.length) ∘ yg)).sum ≤ (l.map fun x=>mI x.f0).sum:=by
  intro l
  induction l with
  | nil=>simp
  | cons a l ih =>
   rw [List.map_cons,List.map_cons,List.sum_cons,List.sum_cons]
   have:((fun (x:gh)=>x.f0.length) ∘ yg) a ≤ mI a.f0:=by
    simp [yg,mI]
   omega
 have:=this l
 omega
theorem RD (x:CV) (hf:bL x):∃ t:Int,Ev (fun k=>zg.f k x.f0 x.f1 x.f2 x.f3 x.f4 1048576) t∧(¬ t < 0→x.f0.length ≤ 1048576∧(x.f4.map yg).length ≤ 1048576∧We (x.f4.map yg) ≤ 1048576 ∧
  Ev (fun k=>Xf.f k x.f0 x.f1 x.f2 x.f3 x.f4) (x.f0,x.f1,x.f2,x.f3,x.f4.map yg)∧Ev (fun k=>Jg.f k x.f0 x.f1 x.f2 x.f3 (x.f4.map yg) x.f0 x.f1 x.f2 x.f3 (x.f4.map yg)) true ∧
  ∃ M:Int × List Int × List gh,Ev (fun k=>Qf.f k x.f0 x.f1 x.f2 x.f3 (x.f4.map yg) 1) M∧0 ≤ M.1∧M.1 ≤ 4398046511104):=by
 obtain ⟨h0,_,_,_,h4⟩:=hf
 obtain ⟨t,e1,e2,e3⟩:=VD x.f0 x.f1 x.f2 x.f3 x.f4 1048576 (by omega) (by omega) h0.1 h4.1 (fun y hy=>⟨(h4.2 y hy).1.1,fun z hz=>((h4.2 y hy).1.2 z hz).2.2.2.2.2.2⟩)
 refine ⟨t,e1,fun ht=>?_⟩
 have e:=e3 (by omega)
 obtain ⟨BV,hbc⟩:=LB (l:=x.f4) (n:=1048576) (by omega)
 have hl:(x.f4.map yg).length ≤ 1048576:=by rw [List.length_map];exact BV
 have hst:=gD x.f4
 have hm:=US (x.f4.map yg)
 obtain ⟨ms,m1,_⟩:=jB x.f0 x.f1 x.f2 x.f3 (x.f4.map yg) 1 (by omega) (by omega) hl
 exact ⟨by omega,hl,by omega,UD x.f0 x.f1 x.f2 x.f3 x.f4 (by omega) BV hbc,YD x.f0 x.f1 x.f2 x.f3 (x.f4.map yg) (by omega) (by omega) (fun y hy=>by
  have:=KH _ _ hy
  omega),_,m1,by simp only;omega,by simp only;omega⟩
attribute [local go_sem] Hj Fj Rk Qk Li Ki Gj Ej
mutual
def Ec.j0:Nat→Int→List Int→Bool→List Int→Int→Int→Int→List (gh)→Option (List Int)
 | 0,_,_,_,_,_,_,_,_=>none
 | k + 1,x1,x5,x21,x102000,ke,x102002,x102003,x102004=>if x21=true then (some x5) else ((Xc.f k x102000 ke x102002 x102003 x102004 x1).bind fun Hz=>(Ec.l0 k x5 Hz.1 0))
def Ec.l0:Nat→List Int→List (Lj)→Int→Option (List Int)
 | 0,_,_,_=>none
 | k + 1,x5,x6,x8=>if x8 < (x6.length:Int) then (if 0 ≤ x8 then (if ((Ld x6 x8).f0)=(-1) then (if x5.length < 17592186044416 then (Ec.l0 k (x5 ++ [x8]) x6 (wrap64 (x8 + 1))) else (none)) else (Ec.l0 k x5 x6 (wrap64 (x8 + 1)))) else (none)) else (some x5)
end
def Ec.f (k:Nat) (Ta:List Int) (Ma:Int) (Oa:Int) (Pa:Int) (Sa:List (gh)) (a1:Int):Option (List Int):=(some (([]:List Int):List Int)).bind fun kg=>((Va.f k Ta Ma Oa Pa Sa).bind fun t105=>(if t105=true then ((Za.f a1 0 (wrap64 ((Sa.length:Int) - 1))).bind fun t106=>(Ec.j0 k a1 kg (!t106) Ta Ma Oa Pa Sa)) else (Ec.j0 k a1 kg true Ta Ma Oa Pa Sa)))
theorem Ec.Sd:∀ k,(∀ y0 y1 y2 y3 y4 y5 y6 y7,Lb (Ec.j0 k y0 y1 y2 y3 y4 y5 y6 y7) (Ec.j0 (k + 1) y0 y1 y2 y3 y4 y5 y6 y7))∧(∀ y0 y1 y2,Lb (Ec.l0 k y0 y1 y2) (Ec.l0 (k + 1) y0 y1 y2))
 | 0=>⟨fun _ _ _ _ _ _ _ _ r h=>by simp [Ec.j0] at h,fun _ _ _ r h=>by simp [Ec.l0] at h⟩
 | k + 1=>by
  obtain ⟨Ff,ih1⟩:=Ec.Sd k
  refine ⟨?_,?_⟩
  ·intro y0 y1 y2 y3 y4 y5 y6 y7
   unfold Ec.j0
   repeat' first
   | (with_reducible exact Ff _ _ _ _ _ _ _ _)
   | (with_reducible exact ih1 _ _ _)
   | (with_reducible exact Va.mono _ _ _ _ _ _)
   | (with_reducible exact Xc.mono _ _ _ _ _ _ _)
   | (with_reducible exact Lb.refl _)
   | (with_reducible exact Lb.none _)
   | (with_reducible refine Lb.ite ?_ ?_)
   | (with_reducible refine Lb.bind ?_ (fun _=>?_))
   | exact Ff _ _ _ _ _ _ _ _
   | exact ih1 _ _ _
   | exact Va.mono _ _ _ _ _ _
   | exact Xc.mono _ _ _ _ _ _ _
   | exact Lb.none _
   | refine Lb.ite ?_ ?_
   | refine Lb.bind ?_ (fun _=>?_)
  ·intro y0 y1 y2
   unfold Ec.l0
   repeat' first
   | (with_reducible exact Ff _ _ _ _ _ _ _ _)
   | (with_reducible exact ih1 _ _ _)
   | (with_reducible exact Va.mono _ _ _ _ _ _)
   | (with_reducible exact Xc.mono _ _ _ _ _ _ _)
   | (with_reducible exact Lb.refl _)
   | (with_reducible exact Lb.none _)
   | (with_reducible refine Lb.ite ?_ ?_)
   | (with_reducible refine Lb.bind ?_ (fun _=>?_))
   | exact Ff _ _ _ _ _ _ _ _
   | exact ih1 _ _ _
   | exact Va.mono _ _ _ _ _ _
   | exact Xc.mono _ _ _ _ _ _ _
   | exact Lb.none _
   | refine Lb.ite ?_ ?_
   | refine Lb.bind ?_ (fun _=>?_)
theorem Ec.mono:∀ a0 a1 a2 a3 a4 a5 k,Lb (Ec.f k a0 a1 a2 a3 a4 a5) (Ec.f (k + 1) a0 a1 a2 a3 a4 a5):=by
 intro a0 a1 a2 a3 a4 a5 k
 obtain ⟨Ff,ih1⟩:=Ec.Sd k
 unfold Ec.f
 repeat' first
   | (with_reducible exact Ff _ _ _ _ _ _ _ _)
   | (with_reducible exact ih1 _ _ _)
   | (with_reducible exact Va.mono _ _ _ _ _ _)
   | (with_reducible exact Xc.mono _ _ _ _ _ _ _)
   | (with_reducible exact Lb.refl _)
   | (with_reducible exact Lb.none _)
   | (with_reducible refine Lb.ite ?_ ?_)
   | (with_reducible refine Lb.bind ?_ (fun _=>?_))
   | exact Ff _ _ _ _ _ _ _ _
   | exact ih1 _ _ _
   | exact Va.mono _ _ _ _ _ _
   | exact Xc.mono _ _ _ _ _ _ _
   | exact Lb.none _
   | refine Lb.ite ?_ ?_
   | refine Lb.bind ?_ (fun _=>?_)
set_option maxHeartbeats 8000000 in
set_option maxRecDepth 100000 in
theorem Ec.calls (k:Nat) (Cb:Option Addr) (Bb:Nat) (Ta:List Int) (Ma:Int) (Oa:Int) (Pa:Int) (yc:Option Addr) (Xb:Nat) (Sa:List (gh)) (a1:Int) (r:List Int) (w:World) (Rf:Kd.C (Kd.int .i64) w Cb Ta.length Ta) (Pf:Ta.length ≤ Bb) (Bg:Kd.C Wo w yc Sa.length Sa) (Eg:Sa.length ≤ Xb) (h:Ec.f k Ta Ma Oa Pa Sa a1=some r) :
  Calls Try.prog 18 #[.agg #[.slice Cb Ta.length Bb,.int .i64 Ma,.int .i64 Oa,.int .i64 Pa,.slice yc Sa.length Xb],.int .i64 a1] w fun e w'=>∃ v0_:Value,e = .returned (v0_)∧Kd.R (Kd.int .i64) 3 w' w.heap.size (fun _=>True) v0_ r∧Below w.heap.size w w':=by
 have ZB:=Try.underlying30
 have ig:=ja.mk Rf
 have mg:=ja.mk Pf
 clear Rf Pf
 have oh:=ja.mk Bg
 have qj:=ja.mk Eg
 clear Bg Eg
 have HB:=ja.mk (Below.refl w.heap.size w)
 have H:((some (([]:List Int):List Int)).bind fun kg=>((Va.f k Ta Ma Oa Pa Sa).bind fun t105=>(if t105=true then ((Za.f a1 0 (wrap64 ((Sa.length:Int) - 1))).bind fun t106=>(Ec.j0 k a1 kg (!t106) Ta Ma Oa Pa Sa)) else (Ec.j0 k a1 kg true Ta Ma Oa Pa Sa))))=some r:=h
 clear h
 obtain ⟨kg,hy102⟩:∃ y_:List Int,y_=(([]:List Int)):=⟨_,rfl⟩
 replace H:((Va.f k Ta Ma Oa Pa Sa).bind fun t105=>(if t105=true then ((Za.f a1 0 (wrap64 ((Sa.length:Int) - 1))).bind fun t106=>(Ec.j0 k a1 kg (!t106) Ta Ma Oa Pa Sa)) else (Ec.j0 k a1 kg true Ta Ma Oa Pa Sa)))=some r:=by first|(rw [hy102];with_reducible exact H)|(have Eh:=(Option.bind_some _ _).symm.trans H;rw [hy102];with_reducible exact Eh)|(have Eh:=(Option.bind_some _ _).symm.trans H;with_reducible exact Eh)|with_reducible exact H|(rw [hy102];exact H)|exact H
 have WH:=ja.mk hy102
 clear hy102
 have KQ:=ja.mk H
 clear H
 go_enter Try.func18,Try.ntmps18
 go_upto_region 2 with (first|((with_reducible refine Kb (N:=2) rfl ?_);(try (refine Ch (by rfl) ?_;dsimp only));refine Eb ?hg (N:=2) ?hd (cs:=#[.slice Cb Ta.length Bb,.int .i64 Ma,.int .i64 Oa,.int .i64 Pa,.slice yc Sa.length Xb]) (t:=30) ?hr ?_;(case hd=>rfl);(case hg=>rfl);(case hr=>first|(go_simp;done)|(go_simp;rfl));intro Ea hg w4 Tb hb;have Gb:=ja.mk (Qa (by repeat (first|(with_reducible first|exact HB.out|apply qa|apply ia|apply ua)|exact HB.out)) hb);have Vb:=ja.mk (Tb);have Ac:=ja.mk ((by rw [hg];exact (Ra (by repeat (first|(with_reducible first|exact HB.out|apply qa|apply ia|apply ua)|exact HB.out))):w.heap.size ≤ Ea));have ud:=ja.mk ((by rw [hg];exact (Ra (by repeat (first|(with_reducible first|exact HB.out|apply qa|apply ia|apply ua)|exact HB.out))):w.heap.size ≤ Ea));clear HB;have HB:=Gb;have za:=Vb;have Be:=Ac;have Wa:=ud;clear Gb Vb Ac ud;clear hb Tb hg)|((with_reducible refine Kb (N:=9) rfl ?_);(try (refine Ch (by rfl) ?_;dsimp only));refine Kd.Jz (Kd.int .i64) _ 3 ?hg (N:=9) ?hd (xs:=([]:List Int)) (inner:=[]) (ok:=fun _=>True) (vp:=fun _=>True) ?hr ?hp (fun _ hk=>hk) trivial (Below.refl _ _) (Nat.le_refl _) (by simp) ?_;(case hd=>rfl);(case hg=>rfl);(case hr=>first|(go_simp;done)|(go_simp;rfl));(case hp=>exact (Tf.none _ _));intro iJ w5 UJ hb CD Jn;clear CD Jn;(first|rw [← WH.out] at UJ|(simp only [Int.reduceToNat] at UJ;rw [← WH.out] at UJ));have Gb:=ja.mk (Kd.zi UJ (Ra (by repeat (first|(with_reducible first|exact HB.out|apply qa|apply ia|apply ua|refine Aa ?_ Wa.out)|exact HB.out))));have Vb:=ja.mk (gb (g:=Ea) (o:=.cells #[.slice Cb Ta.length Bb,.int .i64 Ma,.int .i64 Oa,.int .i64 Pa,.slice yc Sa.length Xb] 30 (0,0)) (by (with_reducible repeat (first|refine Da ?_ _|refine Ga ?_|refine Ca ?_ _));exact za.out) hb);have Ac:=ja.mk (Qa (by repeat (first|(with_reducible first|exact HB.out|apply qa|apply ia|apply ua|refine Aa ?_ Wa.out)|exact HB.out)) hb);clear za;clear HB;have lq:=Gb;have za:=Vb;have HB:=Ac;clear Gb Vb Ac;clear hb UJ))
 (try simp only [Act.put,List.setIfInBounds_toArray,List.set_cons_zero,List.set_cons_succ])
 go_cut [21] (fun v21 wc=>∃ (kq:Nat) (FE:Bool),v21 = .bool FE∧ja (Ec.j0 kq a1 kg FE Ta Ma Oa Pa Sa=some r)∧ja (kq ≤ k)∧ja (Kd.R (Kd.int .i64) 3 wc w.heap.size (fun _=>True) iJ kg)∧ja (wc.heap[Ea]? = some (.cells #[(.slice Cb Ta.length Bb),.int .i64 Ma,.int .i64 Oa,.int .i64 Pa,(.slice yc Sa.length Xb)] 30 (0,0)))∧ja (Below w.heap.size w wc))
 case first =>
  have H:=KQ.out
  clear KQ
  replace H:=Option.bind_eq_some_iff.mp H
  obtain ⟨t105,AB,H⟩:=H
  replace H:(if t105=true then ((Za.f a1 0 (wrap64 ((Sa.length:Int) - 1))).bind fun t106=>(Ec.j0 k a1 kg (!t106) Ta Ma Oa Pa Sa)) else (Ec.j0 k a1 kg true Ta Ma Oa Pa Sa))=some r:=H
  have A7:=ja.mk AB
  clear AB
  by_cases c8:t105=true
  ·subst c8
   have H1:((Za.f a1 0 (wrap64 ((Sa.length:Int) - 1))).bind fun t106=>(Ec.j0 k a1 kg (!t106) Ta Ma Oa Pa Sa))=some r:=by rw [if_pos rfl] at H;exact H
   clear H
   have H:=H1
   clear H1
   replace H:=Option.bind_eq_some_iff.mp H
   obtain ⟨t106,A90,H⟩:=H
   replace H:(Ec.j0 k a1 kg (!t106) Ta Ma Oa Pa Sa)=some r:=H
   have A9:=ja.mk A90
   clear A90
   have H':=ja.mk H
   clear H
   have Fk:w5.cell? ⟨Ea,0,none⟩=some (.slice Cb Ta.length Bb):=(ga za.out 0).trans rfl
   have Ek:w5.cell? ⟨Ea,1,none⟩=some (.int .i64 Ma):=(ga za.out 1).trans rfl
   have Dk:w5.cell? ⟨Ea,2,none⟩=some (.int .i64 Oa):=(ga za.out 2).trans rfl
   have Ck:w5.cell? ⟨Ea,3,none⟩=some (.int .i64 Pa):=(ga za.out 3).trans rfl
   have Bk:w5.cell? ⟨Ea,4,none⟩=some (.slice yc Sa.length Xb):=(ga za.out 4).trans rfl
   have xk:=aa za.out 0
   have wk:=aa za.out 1
   have vk:=aa za.out 2
   have uk:=aa za.out 3
   have qk:=aa za.out 4
   go_wp2_with (first|((with_reducible refine mb (f:=53) rfl ?_);refine yd (some 11) rfl rfl Try.func53 (by kernel_rfl) rfl #[.agg #[.slice Cb Ta.length Bb,.int .i64 Ma,.int .i64 Oa,.int .i64 Pa,.slice yc Sa.length Xb]] rfl (by (try simp only [List.map_toArray,List.map_cons,List.map_nil]);first|done|rfl|(simp only [List.length_drop,List.length_take];rfl)) ?_;(with_reducible refine (Va.calls k _ _ Ta Ma Oa Pa _ _ Sa true _ ?side1 ?side2 ?side3 ?side4 A7.out).mono ?_);(case side1=>repeat (first|exact (Kd.Mb ig.out HB.out)|(with_reducible refine Kd.Sc ?_ _)|(with_reducible refine Kd.Rc ?_ _)|(with_reducible refine Kd.Qd ?_)));(case side2=>exact mg.out);(case side3=>repeat (first|exact (Kd.Mb oh.out HB.out)|(with_reducible refine Kd.Sc ?_ _)|(with_reducible refine Kd.Rc ?_ _)|(with_reducible refine Kd.Qd ?_)));(case side4=>exact qj.out);rintro e sj ⟨rfl,hb⟩;refine ⟨_,rfl,?_⟩;have Gb:=ja.mk (Kd.Ce (by (with_reducible repeat (first|apply Kd.Dc|apply Kd.Ic|apply Kd.Zc));exact lq.out) hb);have Vb:=ja.mk (gb (g:=Ea) (o:=.cells #[.slice Cb Ta.length Bb,.int .i64 Ma,.int .i64 Oa,.int .i64 Pa,.slice yc Sa.length Xb] 30 (0,0)) (by (with_reducible repeat (first|refine Da ?_ _|refine Ga ?_|refine Ca ?_ _));exact za.out) hb);have Ac:=ja.mk (Qa (by repeat (first|(with_reducible first|exact HB.out|apply qa|apply ia|apply ua|refine Aa ?_ Wa.out)|exact HB.out)) hb);clear lq;clear za;clear HB;have lq:=Gb;have za:=Vb;have HB:=Ac;clear Gb Vb Ac;(try clear hb);(try clear hb2);(try clear hk);(try clear hi);have gq:sj.cell? ⟨Ea,0,none⟩=some (.slice Cb Ta.length Bb):=(ga za.out 0).trans rfl;have fq:sj.cell? ⟨Ea,1,none⟩=some (.int .i64 Ma):=(ga za.out 1).trans rfl;have cq:sj.cell? ⟨Ea,2,none⟩=some (.int .i64 Oa):=(ga za.out 2).trans rfl;have bq:sj.cell? ⟨Ea,3,none⟩=some (.int .i64 Pa):=(ga za.out 3).trans rfl;have aq:sj.cell? ⟨Ea,4,none⟩=some (.slice yc Sa.length Xb):=(ga za.out 4).trans rfl;have Np:=aa za.out 0;have Mp:=aa za.out 1;have Lp:=aa za.out 2;have Kp:=aa za.out 3;have Jp:=aa za.out 4)|(go_at_call 54;(with_reducible refine (Za.calls a1 0 (wrap64 ((Sa.length:Int) - 1)) t106 _ A9.out).mono ?_);rintro e w' ⟨rfl,⟨nd,rfl⟩⟩))
   go_meet
   case rel=>exact ⟨_,(!t106),(by first|rfl|(simp;done)|(simp [*];done)),H',⟨by first|omega|exact Nat.le_refl _⟩,⟨by (with_reducible repeat (first|apply Kd.Dc|apply Kd.Ic|apply Kd.Zc));exact lq.out⟩,⟨by (with_reducible repeat (first|refine Da ?_ _|refine Ga ?_|refine Ca ?_ _));exact za.out⟩,⟨by repeat (first|(with_reducible first|exact HB.out|apply qa|apply ia|apply ua|refine Aa ?_ Wa.out)|exact HB.out)⟩⟩
  ·replace c8:=Bool.eq_false_iff.mpr c8
   subst c8
   have H1:(Ec.j0 k a1 kg true Ta Ma Oa Pa Sa)=some r:=by rw [if_neg (show ¬ (false=true) by decide)] at H;exact H
   clear H
   have H:=H1
   clear H1
   have H':=ja.mk H
   clear H
   have aj:w5.cell? ⟨Ea,0,none⟩=some (.slice Cb Ta.length Bb):=(ga za.out 0).trans rfl
   have Zi:w5.cell? ⟨Ea,1,none⟩=some (.int .i64 Ma):=(ga za.out 1).trans rfl
   have Vl:w5.cell? ⟨Ea,2,none⟩=some (.int .i64 Oa):=(ga za.out 2).trans rfl
   have Ul:w5.cell? ⟨Ea,3,none⟩=some (.int .i64 Pa):=(ga za.out 3).trans rfl
   have Tl:w5.cell? ⟨Ea,4,none⟩=some (.slice yc Sa.length Xb):=(ga za.out 4).trans rfl
   have Yi:=aa za.out 0
   have Xi:=aa za.out 1
   have Sl:=aa za.out 2
   have Rl:=aa za.out 3
   have Ql:=aa za.out 4
   go_wp2_with (first|((with_reducible refine mb (f:=53) rfl ?_);refine yd (some 11) rfl rfl Try.func53 (by kernel_rfl) rfl #[.agg #[.slice Cb Ta.length Bb,.int .i64 Ma,.int .i64 Oa,.int .i64 Pa,.slice yc Sa.length Xb]] rfl (by (try simp only [List.map_toArray,List.map_cons,List.map_nil]);first|done|rfl|(simp only [List.length_drop,List.length_take];rfl)) ?_;(with_reducible refine (Va.calls k _ _ Ta Ma Oa Pa _ _ Sa false _ ?side1 ?side2 ?side3 ?side4 A7.out).mono ?_);(case side1=>repeat (first|exact (Kd.Mb ig.out HB.out)|(with_reducible refine Kd.Sc ?_ _)|(with_reducible refine Kd.Rc ?_ _)|(with_reducible refine Kd.Qd ?_)));(case side2=>exact mg.out);(case side3=>repeat (first|exact (Kd.Mb oh.out HB.out)|(with_reducible refine Kd.Sc ?_ _)|(with_reducible refine Kd.Rc ?_ _)|(with_reducible refine Kd.Qd ?_)));(case side4=>exact qj.out);rintro e pz ⟨rfl,hb⟩;refine ⟨_,rfl,?_⟩;have Gb:=ja.mk (Kd.Ce (by (with_reducible repeat (first|apply Kd.Dc|apply Kd.Ic|apply Kd.Zc));exact lq.out) hb);have Vb:=ja.mk (gb (g:=Ea) (o:=.cells #[.slice Cb Ta.length Bb,.int .i64 Ma,.int .i64 Oa,.int .i64 Pa,.slice yc Sa.length Xb] 30 (0,0)) (by (with_reducible repeat (first|refine Da ?_ _|refine Ga ?_|refine Ca ?_ _));exact za.out) hb);have Ac:=ja.mk (Qa (by repeat (first|(with_reducible first|exact HB.out|apply qa|apply ia|apply ua|refine Aa ?_ Wa.out)|exact HB.out)) hb);clear lq;clear za;clear HB;have lq:=Gb;have za:=Vb;have HB:=Ac;clear Gb Vb Ac;(try clear hb);(try clear hb2);(try clear hk);(try clear hi)))
   go_meet
   case rel=>exact ⟨_,(true),(by first|rfl|(simp;done)|(simp [*];done)),H',⟨by first|omega|exact Nat.le_refl _⟩,⟨by (with_reducible repeat (first|apply Kd.Dc|apply Kd.Ic|apply Kd.Zc));exact lq.out⟩,⟨by (with_reducible repeat (first|refine Da ?_ _|refine Ga ?_|refine Ca ?_ _));exact za.out⟩,⟨by repeat (first|(with_reducible first|exact HB.out|apply qa|apply ia|apply ua|refine Aa ?_ Wa.out)|exact HB.out)⟩⟩
 case rest =>
  clear KQ
  try clear c1
  try clear p2
  try clear c5
  try clear p6
  try clear c8
  try clear Fk
  try clear Ek
  try clear Dk
  try clear Ck
  try clear Bk
  try clear gq
  try clear fq
  try clear cq
  try clear bq
  try clear aq
  try clear aj
  try clear Zi
  try clear Vl
  try clear Ul
  try clear Tl
  try clear xk
  try clear wk
  try clear vk
  try clear uk
  try clear qk
  try clear Np
  try clear Mp
  try clear Lp
  try clear Kp
  try clear Jp
  try clear Yi
  try clear Xi
  try clear Sl
  try clear Rl
  try clear Ql
  obtain ⟨kq,FE,rfl,HA,HJ2,tv,za,HB⟩:=hcut
  cases kq with
  | zero=>exact absurd HA.out (by simp [Ec.j0])
  | succ kj2 =>
   have H:=HA.out
   clear HA
   simp only [Ec.j0] at H
   by_cases c15:FE=true
   ·subst c15
    have H1:(some kg)=some r:=by rw [if_pos rfl] at H;exact H
    clear H
    have H:=H1
    clear H1
    obtain rfl:=Option.some.inj H
    go_wp2
    go_ret
    exact ⟨_,by first|rfl|(simp [La,Ka] <;> rfl)|(simp [*,La,Ka] <;> rfl),by (with_reducible repeat (first|apply Kd.Dc|apply Kd.Ic|apply Kd.Zc));exact tv.out,by repeat (first|(with_reducible first|exact HB.out|apply qa|apply ia|apply ua|refine Aa ?_ Wa.out)|exact HB.out)⟩
   ·replace c15:=Bool.eq_false_iff.mpr c15
    subst c15
    have H1:((Xc.f kj2 Ta Ma Oa Pa Sa a1).bind fun Hz=>(Ec.l0 kj2 kg Hz.1 0))=some r:=by rw [if_neg (show ¬ (false=true) by decide)] at H;exact H
    clear H
    have H:=H1
    clear H1
    replace H:=Option.bind_eq_some_iff.mp H
    obtain ⟨⟨t107,t110⟩,Z6,H⟩:=H
    replace H:(Ec.l0 kj2 kg t107 0)=some r:=H
    have A16:=ja.mk Z6
    clear Z6
    have H':=ja.mk H
    clear H
    have Gr:wc.cell? ⟨Ea,0,none⟩=some (.slice Cb Ta.length Bb):=(ga za.out 0).trans rfl
    have Er:wc.cell? ⟨Ea,1,none⟩=some (.int .i64 Ma):=(ga za.out 1).trans rfl
    have yu:wc.cell? ⟨Ea,2,none⟩=some (.int .i64 Oa):=(ga za.out 2).trans rfl
    have xu:wc.cell? ⟨Ea,3,none⟩=some (.int .i64 Pa):=(ga za.out 3).trans rfl
    have wu:wc.cell? ⟨Ea,4,none⟩=some (.slice yc Sa.length Xb):=(ga za.out 4).trans rfl
    have er:=aa za.out 0
    have dr:=aa za.out 1
    have Wt:=aa za.out 2
    have Vt:=aa za.out 3
    have Ut:=aa za.out 4
    go_wp2_with (first|((with_reducible refine mb (f:=55) rfl ?_);refine yd (some 26) rfl rfl Try.func55 (by kernel_rfl) rfl #[.agg #[.slice Cb Ta.length Bb,.int .i64 Ma,.int .i64 Oa,.int .i64 Pa,.slice yc Sa.length Xb],.int .i64 a1] rfl (by (try simp only [List.map_toArray,List.map_cons,List.map_nil]);first|done|rfl|(simp only [List.length_drop,List.length_take];rfl)) ?_;(with_reducible refine (Xc.calls kj2 _ _ Ta Ma Oa Pa _ _ Sa a1 t107 t110 _ ?side1 ?side2 ?side3 ?side4 A16.out).mono ?_);(case side1=>repeat (first|exact (Kd.Mb ig.out HB.out)|(with_reducible refine Kd.Sc ?_ _)|(with_reducible refine Kd.Rc ?_ _)|(with_reducible refine Kd.Qd ?_)));(case side2=>exact mg.out);(case side3=>repeat (first|exact (Kd.Mb oh.out HB.out)|(with_reducible refine Kd.Sc ?_ _)|(with_reducible refine Kd.Rc ?_ _)|(with_reducible refine Kd.Qd ?_)));(case side4=>exact qj.out);rintro e kI ⟨TV,rfl,Zm,hb⟩;refine ⟨_,rfl,?_⟩;have Gb:=ja.mk (Kd.Ce (by (with_reducible repeat (first|apply Kd.Dc|apply Kd.Ic|apply Kd.Zc));exact tv.out) hb);have Vb:=ja.mk (Kd.zi Zm (Ra (by repeat (first|(with_reducible first|exact HB.out|apply qa|apply ia|apply ua|refine Aa ?_ Wa.out)|exact HB.out))));have Ac:=ja.mk (gb (g:=Ea) (o:=.cells #[.slice Cb Ta.length Bb,.int .i64 Ma,.int .i64 Oa,.int .i64 Pa,.slice yc Sa.length Xb] 30 (0,0)) (by (with_reducible repeat (first|refine Da ?_ _|refine Ga ?_|refine Ca ?_ _));exact za.out) hb);have ud:=ja.mk (Qa (by repeat (first|(with_reducible first|exact HB.out|apply qa|apply ia|apply ua|refine Aa ?_ Wa.out)|exact HB.out)) hb);clear tv;clear za;clear HB;have tv:=Gb;have dI:=Vb;have za:=Ac;have HB:=ud;clear Gb Vb Ac ud;(try clear hb);(try clear hb2);(try clear hk);(try clear hi);(try clear Zm)))
    go_loopg [5,8] kj2 (fun kq v5 v8 w'=>∃ (XC:List Int) (mm:Int),v8 = .int .i64 mm∧ja (Ec.l0 kq XC t107 mm=some r)∧ja (kq ≤ kj2)∧ja (Kd.R (Kd.int .i64) 3 w' w.heap.size (fun _=>True) v5 XC)∧ja (Kd.R Jl 77 w' w.heap.size (fun _=>True) TV t107)∧ja (w'.heap[Ea]? = some (.cells #[(.slice Cb Ta.length Bb),.int .i64 Ma,.int .i64 Oa,.int .i64 Pa,(.slice yc Sa.length Xb)] 30 (0,0)))∧ja (Below w.heap.size w w'))
    case atStart=>exact ⟨(kg),(0),(by first|rfl|(simp;done)|(simp [*];done)),H',⟨Nat.le_refl _⟩,⟨by (with_reducible repeat (first|apply Kd.Dc|apply Kd.Ic|apply Kd.Zc));exact tv.out⟩,⟨by (with_reducible repeat (first|apply Kd.Dc|apply Kd.Ic|apply Kd.Zc));exact dI.out⟩,⟨by (with_reducible repeat (first|refine Da ?_ _|refine Ga ?_|refine Ca ?_ _));exact za.out⟩,⟨by repeat (first|(with_reducible first|exact HB.out|apply qa|apply ia|apply ua|refine Aa ?_ Wa.out)|exact HB.out)⟩⟩
    case round =>
     clear H'
     try clear c1
     try clear p2
     try clear c5
     try clear p6
     try clear c8
     try clear c15
     try clear c18
     try clear Fk
     try clear Ek
     try clear Dk
     try clear Ck
     try clear Bk
     try clear gq
     try clear fq
     try clear cq
     try clear bq
     try clear aq
     try clear aj
     try clear Zi
     try clear Vl
     try clear Ul
     try clear Tl
     try clear Gr
     try clear Er
     try clear yu
     try clear xu
     try clear wu
     try clear xk
     try clear wk
     try clear vk
     try clear uk
     try clear qk
     try clear Np
     try clear Mp
     try clear Lp
     try clear Kp
     try clear Jp
     try clear Yi
     try clear Xi
     try clear Sl
     try clear Rl
     try clear Ql
     try clear er
     try clear dr
     try clear Wt
     try clear Vt
     try clear Ut
     try clear p2
     try clear p6
     (try clear HA)
     (try clear VI)
     (try clear tv)
     (try clear Mk)
     (try clear za)
     (try clear HB)
     obtain ⟨XC,mm,rfl,HA,VI,tv,Mk,za,HB⟩:=hrel
     cases gk with
     | zero=>exact absurd HA.out (by simp [Ec.l0])
     | succ k2 =>
      have H:=HA.out
      clear HA
      simp only [Ec.l0] at H
      by_cases c19:mm < (t107.length:Int)
      ·rw [if_pos c19] at H
       have FC:decide (mm < (t107.length:Int))=true:=decide_eq_true c19
       clear c19
       by_cases c20:0 ≤ mm
       ·rw [if_pos c20] at H
        have pL:decide (0 ≤ mm)=true:=decide_eq_true c20
        clear c20
        by_cases c21:((Ld t107 mm).f0)=(-1)
        ·rw [if_pos c21] at H
         have EC:(((Ld t107 mm).f0) == (-1))=true:=beq_iff_eq.mpr c21
         have oL:(((Ld t107 mm).f0) != (-1))=false:=bne_eq_false_iff_eq.mpr c21
         clear c21
         by_cases c22:XC.length < 17592186044416
         ·rw [if_pos c22] at H
          have U4:=ja.mk c22
          clear c22
          obtain ⟨y112,hy112⟩:∃ y_:List Int,y_=(XC ++ [mm]):=⟨_,rfl⟩
          replace H:(Ec.l0 k2 y112 t107 (wrap64 (mm + 1)))=some r:=by first|(rw [hy112];with_reducible exact H)|(have Eh:=(Option.bind_some _ _).symm.trans H;rw [hy112];with_reducible exact Eh)|(have Eh:=(Option.bind_some _ _).symm.trans H;with_reducible exact Eh)|with_reducible exact H|(rw [hy112];exact H)|exact H
          have Oy:=ja.mk hy112
          clear hy112
          have H':=ja.mk H
          clear H
          obtain ⟨aao,Pam,Nag⟩:=Kd.Hf Mk.out
          subst Nag
          have oD:0 ≤ (mm:Int):=of_decide_eq_true (by first|(with_reducible assumption)|assumption)
          have lD:mm < (t107.length:Int):=of_decide_eq_true (by first|(with_reducible assumption)|assumption)
          obtain ⟨M4,oU,CM,BM⟩:=Ls (Kd.Cc Mk.out).2.2 mm oD lD
          cases oU
          replace oD:=eq_true oD
          replace lD:=eq_true lD
          go_wp2_with (first|((with_reducible refine Cu (b:=.append) (xs:=#[.tmp 41,.tmp 43]) rfl ?_);(try (refine Ch (by rfl) ?_;dsimp only));at_builtin;refine Kd.Gu (Kd.int .i64) (w0:=w) w.heap.size rfl (.tmp 41) (.tmp 43) 22 3 (.int .i64 0) 8 rfl Try.underlying22 info3 rfl (by decide) (by omega) u5 XC mm [.int .i64 mm] (fun _=>True) (fun _=>False) rfl rfl ?aP (fun _ hk=>hk.elim) ?aF ?aO ?aB ?aS ?aL ?_;(case aP=>exact rfl);(case aB=>exact (by repeat (first|(with_reducible first|exact HB.out|apply qa|apply ia|apply ua|refine Aa ?_ Wa.out)|exact HB.out)));(case aF=>exact (fun _ _=>trivial));(case aO=>exact (by (with_reducible repeat (first|apply Kd.Dc|apply Kd.Ic|apply Kd.Zc));exact tv.out));(case aS=>exact (Ra (by repeat (first|(with_reducible first|exact HB.out|apply qa|apply ia|apply ua|refine Aa ?_ Wa.out)|exact HB.out))));(case aL=>have:=U4.out;omega);intro Ual eJ ho hb hg hat;rw [← Oy.out] at ho;have Gb:=ja.mk (Kd.tQ (by (with_reducible repeat (first|apply Kd.Dc|apply Kd.Ic|apply Kd.Zc));exact Mk.out) (Kd.Hx (by (with_reducible repeat (first|apply Kd.Dc|apply Kd.Ic|apply Kd.Zc));exact tv.out)) (by decide) hg);have Vb:=ja.mk (ji (g:=Ea) (o:=.cells #[.slice Cb Ta.length Bb,.int .i64 Ma,.int .i64 Oa,.int .i64 Pa,.slice yc Sa.length Xb] 30 (0,0)) (by (with_reducible repeat (first|refine Da ?_ _|refine Ga ?_|refine Ca ?_ _));exact za.out) hg (Kd.Ly tv.out za.out (by decide)));have Ac:=ja.mk (hb);have ud:=ja.mk (ho);clear Mk;clear za;clear HB;clear tv;have Mk:=Gb;have za:=Vb;have HB:=Ac;have N5:=ud;clear Gb Vb Ac ud;clear ho hb hg hat))
          go_roundg k2
          case measure=>have:=HJ2.out;have:=VI.out;omega
          case rel=>exact ⟨(y112),(wrap64 (mm + 1)),(by first|rfl|(simp;done)|(simp [*];done)),H',⟨by have:=HJ2.out;have:=VI.out;omega⟩,⟨by (with_reducible repeat (first|apply Kd.Dc|apply Kd.Ic|apply Kd.Zc));exact N5.out⟩,⟨by (with_reducible repeat (first|apply Kd.Dc|apply Kd.Ic|apply Kd.Zc));exact Mk.out⟩,⟨by (with_reducible repeat (first|refine Da ?_ _|refine Ga ?_|refine Ca ?_ _));exact za.out⟩,⟨by repeat (first|(with_reducible first|exact HB.out|apply qa|apply ia|apply ua|refine Aa ?_ Wa.out)|exact HB.out)⟩⟩
         ·rw [if_neg c22] at H
          exact absurd H (by simp)
        ·rw [if_neg c21] at H
         have EC:(((Ld t107 mm).f0) == (-1))=false:=beq_eq_false_iff_ne.mpr c21
         have oL:(((Ld t107 mm).f0) != (-1))=true:=bne_iff_ne.mpr c21
         have H':=ja.mk H
         clear H
         obtain ⟨Zan,Rag,pQ⟩:=Kd.Hf Mk.out
         subst pQ
         have oD:0 ≤ (mm:Int):=of_decide_eq_true (by first|(with_reducible assumption)|assumption)
         have lD:mm < (t107.length:Int):=of_decide_eq_true (by first|(with_reducible assumption)|assumption)
         obtain ⟨M4,oU,CM,BM⟩:=Ls (Kd.Cc Mk.out).2.2 mm oD lD
         cases oU
         replace oD:=eq_true oD
         replace lD:=eq_true lD
         go_wp2
         go_roundg k2
         case measure=>have:=HJ2.out;have:=VI.out;omega
         case rel=>exact ⟨(XC),(wrap64 (mm + 1)),(by first|rfl|(simp;done)|(simp [*];done)),H',⟨by have:=HJ2.out;have:=VI.out;omega⟩,⟨by (with_reducible repeat (first|apply Kd.Dc|apply Kd.Ic|apply Kd.Zc));exact tv.out⟩,⟨by (with_reducible repeat (first|apply Kd.Dc|apply Kd.Ic|apply Kd.Zc));exact Mk.out⟩,⟨by (with_reducible repeat (first|refine Da ?_ _|refine Ga ?_|refine Ca ?_ _));exact za.out⟩,⟨by repeat (first|(with_reducible first|exact HB.out|apply qa|apply ia|apply ua|refine Aa ?_ Wa.out)|exact HB.out)⟩⟩
       ·rw [if_neg c20] at H
        exact absurd H (by simp)
      ·rw [if_neg c19] at H
       have FC:decide (mm < (t107.length:Int))=false:=decide_eq_false c19
       clear c19
       obtain rfl:=Option.some.inj H
       obtain ⟨Yan,Oam,Mag⟩:=Kd.Hf Mk.out
       subst Mag
       go_wp2
       go_ret
       exact ⟨_,by first|rfl|(simp [La,Ka] <;> rfl)|(simp [*,La,Ka] <;> rfl),by (with_reducible repeat (first|apply Kd.Dc|apply Kd.Ic|apply Kd.Zc));exact tv.out,by repeat (first|(with_reducible first|exact HB.out|apply qa|apply ia|apply ua|refine Aa ?_ Wa.out)|exact HB.out)⟩
theorem au (k:Nat) (A:Option Addr) (c n:Nat) (l:List Int) (a r:Int) (w:World) (hn:l.length=n) (hr:Kd.C (Kd.int .i64) w A l.length l) (hc:n ≤ c) (h:Nc.f k l a=some r):Calls Try.prog 23 #[.slice A n c,.int .i64 a] w fun e w'=>e = .returned (.int .i64 r)∧uc w w':=by
 subst hn
 exact Nc.calls k A c l a r w hr hc h
theorem vQ {α:Type} (d:Kd α) (e:Nat) (w:World) (base:Nat) (h:base ≤ w.heap.size):d.R e (w.alloc (.cells #[] e (0,0))) base (fun _=>True) (.slice (some ⟨w.heap.size,0,none⟩) 0 0) []:=by
 refine ⟨fun _ _=>trivial,[],?_,⟨by simp,fun i p hp=>by simp at hp⟩⟩
 have h2:=World.ownsRow_lit (base:=base) (e:=e) (size:=d.sz) w #[] 0 h (by simp [maxLen]) (by simp)
 simpa using h2
theorem eD {α:Type} {d:Kd α} {e B:Nat} {W w':World} {v:Value} {xs:List α} (h:d.R e w' W.heap.size (fun _=>True) v xs) (hB:B ≤ W.heap.size):d.R e w' B (fun k=>W.heap.size ≤ k∧k < w'.heap.size) v xs :=
 Kd.zi (Kd.Oe (Kd.Tj h) (fun _ hk=>⟨hk.2.1,hk.2.2.1⟩)) hB
theorem LS {α:Type} {d:Kd α} {e B:Nat} {W w':World} {v:Value} {xs:List α} (h:Kd.S d e w' W.heap.size (fun _=>True) v xs) (hB:B ≤ W.heap.size):Kd.S d e w' B (fun k=>W.heap.size ≤ k∧k < w'.heap.size) v xs :=
 Kd.uB (Kd.Ms (Kd.vB h) (fun _ hk=>⟨hk.2.1,hk.2.2.1⟩)) hB
def qi (xs:List dm) (m:Nat):List Int:=((List.range m).filter fun (j:Nat)=>(Bc xs (j:Int)).f0 == -1).map fun (j:Nat)=>(j:Int)
theorem Dn (xs:List dm) (m:Nat):(qi xs m).length ≤ m:=by
 unfold qi
 rw [List.length_map]
 exact Nat.le_trans (List.length_filter_le _ _) (by simp)
theorem Gv (xs:List dm) (m:Nat) (h:(Bc xs (m:Int)).f0 = -1):qi xs (m + 1)=qi xs m ++ [(m:Int)]:=by
 unfold qi
 rw [List.range_succ,List.filter_append,List.map_append]
 simp [h]
theorem Zx (xs:List dm) (m:Nat) (h:¬ (Bc xs (m:Int)).f0 = -1):qi xs (m + 1)=qi xs m:=by
 unfold qi
 rw [List.range_succ,List.filter_append,List.map_append]
 simp [h]
theorem KV.grown {W W':World} {B kb:Nat} {v:Value} {xs:List dm} {nx:Int} {row:Option Nat} (h:KV W B kb v xs nx) (hg:W.grownBy W' row) {t:Nat} (hr:∀ k,row=some k→∃ cells,W.heap[k]? = some (.cells cells t (0,0))) (h3:t ≠ 74) (h4:t ≠ 79):KV W' B kb v xs nx:=by
 obtain ⟨h0,h1,h2⟩:=h
 have hk:Kept W W' (fun k=>row=some k):=Kept.Fh hg (Kept.refl W _) (fun k e=>.inl e)
 refine ⟨h0,bk h1 hk ?_,Kd.Oe (Kd.Qs (Kd.Tj h2) hk ?_) (fun _ _=>trivial)⟩
 ·intro hs
  obtain ⟨cells,hc⟩:=hr kb hs
  rw [h1] at hc
  injection hc with hc
  injection hc with _ hc
  exact h3 hc.symm
 ·rintro k ⟨_,_,_,q,hq,cells',hc'⟩ hs
  obtain ⟨cells,hc⟩:=hr k hs
  rw [hc'] at hc
  injection hc with hc
  injection hc with _ hc
  have:q=79:=by simpa [xM,Kd.vI,Kd.pair,Kd.int,Kd.scalar] using hq
  exact h4 (hc.symm.trans this)
def Bh.f (k:Nat) (Ta:List Int) (Ma:Int) (Oa:Int) (Pa:Int) (Sa:List (gh)) (a1:Int):Option (List Int) :=
 (zb.f k Ta Ma Oa Pa Sa).bind fun t =>
  if t=true then
   if Qj a1 0 ((Sa.length:Int) - 1)=true then
    if yq Pa (Xa Sa a1).f0=true then some (qi (Zg (idents Pa.toNat) Pa (Xa Sa a1).f0).1 Pa.toNat) else none
   else some []
  else some []
theorem Bh.mono:∀ a0 a1 a2 a3 a4 a5 k,Lb (Bh.f k a0 a1 a2 a3 a4 a5) (Bh.f (k + 1) a0 a1 a2 a3 a4 a5):=by
 intro a0 a1 a2 a3 a4 a5 k
 unfold Bh.f
 repeat' first
   | (with_reducible exact zb.mono _ _ _ _ _ _)
   | (with_reducible exact Lb.refl _)
   | (with_reducible exact Lb.none _)
   | (with_reducible apply Lb.bind)
   | split
   | (intro _)
set_option maxHeartbeats 2000000 in
set_option maxRecDepth 100000 in
theorem Bh.calls (k:Nat) (Cb:Option Addr) (Bb:Nat) (Ta:List Int) (Ma:Int) (Oa:Int) (Pa:Int) (yc:Option Addr) (Xb:Nat) (Sa:List (gh)) (a1:Int) (r:List Int) (w:World) (Rf:Kd.C (Kd.int .i64) w Cb Ta.length Ta) (Pf:Ta.length ≤ Bb) (Bg:Kd.C Wo w yc Sa.length Sa) (Eg:Sa.length ≤ Xb) (h:Bh.f k Ta Ma Oa Pa Sa a1=some r) :
  Calls Try.prog 19 #[.agg #[.slice Cb Ta.length Bb,.int .i64 Ma,.int .i64 Oa,.int .i64 Pa,.slice yc Sa.length Xb],.int .i64 a1] w fun e w'=>∃ v0_:Value,e = .returned (v0_)∧Kd.R (Kd.int .i64) 3 w' w.heap.size (fun _=>True) v0_ r∧Below w.heap.size w w':=by
 unfold Bh.f at h
 obtain ⟨t,ht,h⟩:=Option.bind_eq_some_iff.mp h
 have HT:=ja.mk ht
 have hm4:=Bg.2.1
 obtain ⟨W1,hW1⟩:∃ W1,W1=w.alloc (.cells #[.slice Cb Ta.length Bb,.int .i64 Ma,.int .i64 Oa,.int .i64 Pa,.slice yc Sa.length Xb] 30 (0,0)):=⟨_,rfl⟩
 have HW:=ja.mk hW1
 have Hr:Below w.heap.size w W1:=by rw [hW1];exact qa (Below.refl _ _) _
 have Rj:W1.heap[w.heap.size]? = some (.cells #[.slice Cb Ta.length Bb,.int .i64 Ma,.int .i64 Oa,.int .i64 Pa,.slice yc Sa.length Xb] 30 (0,0)):=by rw [hW1];exact wh _ _
 have HB:=ja.mk Hr
 have HX:=ja.mk Rj
 have dw:=ja.mk Rf
 have WC:=ja.mk Bg
 have fI:=ja.mk Pf
 have eI:=ja.mk Eg
 have hx0:=(ga Rj 0).trans rfl
 have hx1:=(ga Rj 1).trans rfl
 have Oq:=(ga Rj 2).trans rfl
 have Nq:=(ga Rj 3).trans rfl
 have rq:=(ga Rj 4).trans rfl
 clear hW1 Hr Rj Rf Bg ht Pf Eg
 have HH:=ja.mk h
 clear h
 cases t with
 | false =>
  have h:=HH.out
  rw [if_neg (by simp)] at h
  cases h
  go_enter Try.func19,Try.ntmps19
  go_upto_region 1 with (fail)
  rw [← HW.out]
  clear HW
  go_wp2_with (first|(go_at_call 57;(with_reducible refine (zb.calls k Cb Bb Ta Ma Oa Pa yc Xb Sa false W1 (Kd.Mb dw.out HB.out) fI.out (Kd.Mb WC.out HB.out) eI.out HT.out).mono ?_);rintro e w2 ⟨rfl,hb⟩;have Ro:=ja.mk (Qa HB.out hb);clear hb))
  all_goals
   go_ret
   exact ⟨_,rfl,Kd.TH _ _ _ _ _,Ro.out⟩
 | true =>
  have h:=HH.out
  rw [if_pos rfl] at h
  cases hb:Qj a1 0 ((Sa.length:Int) - 1) with
  | false =>
   rw [hb,if_neg (by simp)] at h
   cases h
   go_enter Try.func19,Try.ntmps19
   go_upto_region 1 with (fail)
   rw [← HW.out]
   clear HW
   go_wp2_with (first|(go_at_call 57;(with_reducible refine (zb.calls k Cb Bb Ta Ma Oa Pa yc Xb Sa true W1 (Kd.Mb dw.out HB.out) fI.out (Kd.Mb WC.out HB.out) eI.out HT.out).mono ?_);rintro e w2 ⟨rfl,hb⟩;have Ro:=ja.mk (Qa HB.out hb);have rq:=(ga (gb HX.out hb) 4).trans rfl;clear hb)|(go_at_call 58;(with_reducible refine (Ri _ _ _ _).mono ?_);rintro e w3 ⟨rfl,⟨n2,rfl⟩⟩))
   all_goals
    go_ret
    exact ⟨_,rfl,Kd.TH _ _ _ _ _,ia Ro.out _⟩
  | true =>
   rw [hb,if_pos rfl] at h
   by_cases hok:yq Pa (Xa Sa a1).f0=true
   ·rw [if_pos hok] at h
    have hr:=Option.some.inj h
    unfold yq at hok
    simp only [Bool.and_eq_true,decide_eq_true_eq,List.all_eq_true] at hok
    obtain ⟨⟨⟨hs0,hs1⟩,CH⟩,hall⟩:=hok
    obtain ⟨n,rfl⟩:∃ n:Nat,Pa=(n:Int):=⟨Pa.toNat,by omega⟩
    rw [Int.toNat_natCast] at hr
    have HR:=ja.mk hr
    have HA:=ja.mk hall
    have hq:0 ≤ a1∧a1 < (Sa.length:Int):=by simp [Qj] at hb;omega
    obtain ⟨q1,q2⟩:=hq
    clear h hr hall
    go_enter Try.func19,Try.ntmps19
    go_upto_region 1 with (fail)
    rw [← HW.out]
    clear HW
    go_upto_region 4 with (first|(go_at_call 57;(with_reducible refine (zb.calls k Cb Bb Ta Ma Oa (n:Int) yc Xb Sa true W1 (Kd.Mb dw.out HB.out) fI.out (Kd.Mb WC.out HB.out) eI.out HT.out).mono ?_);rintro e w2 ⟨rfl,gy⟩;have Ro:=ja.mk (Qa HB.out gy);have QC:=ja.mk (gb HX.out gy);have hy0:=(ga QC.out 0).trans rfl;have hy1:=(ga QC.out 1).trans rfl;have hy2:=(ga QC.out 2).trans rfl;have hy3:=(ga QC.out 3).trans rfl;have D7:=(ga QC.out 4).trans rfl;clear gy)|(go_at_call 58;(with_reducible refine (Ri _ _ _ _).mono ?_);rintro e w3 ⟨rfl,⟨n2,rfl⟩⟩)|(go_at_call 59;(with_reducible refine (xq Cb yc Bb Xb Ta.length Sa.length Ma Oa n (by omega) _).mono ?_);rintro e w4 ⟨kb,rfl,hks,gy⟩;have Kx:=ja.mk (Qa (ia Ro.out n2) gy);have BQ:=ja.mk (gb (Da QC.out n2) gy);have GV:=ja.mk hks;have HS4:=ja.mk (Lc QC.out);clear hks gy hy0 hy1 hy2 hy3 D7))
    have hz4:=(ga BQ.out 4).trans rfl
    obtain ⟨ad,A5,c5,e1,hb0,_,_,_,_,S1,hU⟩:=cg WC.out a1 q1 q2
    cases e1
    have MV:=ja.mk hU
    have N7:=hU.2.1
    replace hb0:=(Kx.out.cell (World.block_lt_of_cell? w _ hb0)).trans hb0
    clear hU
    generalize (Xa Sa a1).f0=code at hb0 MV S1 N7 HR HA CH
    go_wp2
    go_loopg [32] code.length (fun gg v32 wr=>∃ j:Nat,j ≤ code.length∧code.length - j ≤ gg∧v32 = .int .i64 j∧ja (KS wr w2.heap.size kb (Zg (idents n) (n:Int) (code.take j)).1 (Zg (idents n) (n:Int) (code.take j)).2)∧ja (Below w.heap.size w wr)∧ja (w2.heap.size ≤ wr.heap.size))
    case atStart=>exact ⟨0,Nat.zero_le _,by omega,rfl,⟨GV.out⟩,Kx,⟨by obtain ⟨_,h0,h1,_⟩:=GV.out;exact Nat.le_of_lt (Nat.lt_of_le_of_lt h0 (Lc h1))⟩⟩
    case round =>
     clear GV Kx BQ hz4 hb0 hx0 hx1 Oq Nq rq
     (try clear HK)
     (try clear HB)
     (try clear HX)
     obtain ⟨j,hj,hg,rfl,HK,HB,HX⟩:=hrel
     obtain ⟨b1,b2,b3⟩:=En (code.take j) (idents n) (n:Int)
     rw [jh] at b3
     have hjl:(code.take j).length ≤ code.length:=by rw [List.length_take];omega
     by_cases hlt:j < code.length
     ·have p1:0 ≤ (j:Int):=by omega
      have p2:(j:Int) < (code.length:Int):=by omega
      have BD:decide ((j:Int) < (code.length:Int))=true:=decide_eq_true p2
      obtain ⟨ad7,e2,y0,y1,y2,y3,y4,y5,y6⟩:=tf (Kd.Mb MV.out HB.out) (j:Int) p1 p2
      cases e2
      have hx:Ja code (j:Int)=code[j]:=by simp [Ja,List.getD_eq_getElem?_getD,hlt]
      have HI:=ja.mk (bt rfl (HA.out _ (List.getElem_mem hlt)))
      rw [hx] at y0 y1 y2 y3 y4 y5 y6
      have I5:=ja.mk (fun (W3:World) (oX:KS W3 w2.heap.size kb (Zg (idents n) (n:Int) (code.take j)).1 (Zg (idents n) (n:Int) (code.take j)).2)=>MB oX (by omega) (by omega) code[j] (by rw [b3];exact HI.out.1) (by rw [b3];exact HI.out.2.1) (by rw [b3];exact HI.out.2.2))
      rw [← Hs code (idents n) (n:Int) j hlt] at I5
      simp only [Int.toNat_natCast] at y0 y1 y2 y3 y4 y5 y6
      clear hx b1 b2 b3 hjl
      go_wp2_with (first|(go_at_call 60;(with_reducible refine (I5.out _ (HK.out.alloc _)).mono ?_);rintro e w5 ⟨rfl,hks,gy⟩;have HK5:=ja.mk hks;have XI:=ja.mk ((qa HB.out _).trans (gy.mono (Nat.le_of_lt HS4.out)));have HX5:=ja.mk (Nat.le_trans (Nat.le_trans HX.out (by simp)) gy.size);clear hks gy))
      go_roundg (code.length - (j + 1))
      case measure=>omega
      case rel=>exact ⟨j + 1,by omega,by omega,by go_num,HK5,XI,HX5⟩
     ·have BD:decide ((j:Int) < (code.length:Int))=false:=decide_eq_false (by omega)
      obtain rfl:j=code.length:=by omega
      rw [List.take_length] at HK b3
      clear b1 b2 hjl
      generalize (Zg (idents n) (n:Int) code).2=nx at HK
      generalize (Zg (idents n) (n:Int) code).1=xs at HK b3 HR
      obtain ⟨v,hkv⟩:=HK.out
      obtain ⟨A6,c6,rfl⟩:=Kd.Hf hkv.2.2
      have HV:=ja.mk hkv
      have hc0:=(ga hkv.2.1 0).trans rfl
      clear HK HA MV hb
      subst b3
      have hkb:=Lc HV.out.2.1
      have uS:=ja.mk (qa HB.out (.cells #[] 3 (0,0)))
      have HO9:=ja.mk (vQ (Kd.int .i64) 3 wr w.heap.size HB.out.size)
      have HV9:=ja.mk (HV.out.below (qa (Below.refl _ _) (.cells #[] 3 (0,0))))
      have HKR:=ja.mk hkv.2.2
      clear hkv
      go_wp2
      go_loopg [8,46] xs.length (fun gg v8 v46 wq=>∃ m:Nat,m ≤ xs.length∧xs.length - m ≤ gg∧v46 = .int .i64 m∧ja (Kd.R (Kd.int .i64) 3 wq w.heap.size (fun _=>True) v8 (qi xs m))∧ja (KV wq w2.heap.size kb (.slice A6 xs.length c6) xs nx)∧ja (Below w.heap.size w wq))
      case atStart=>exact ⟨0,Nat.zero_le _,by omega,rfl,HO9,HV9,uS⟩
      case round =>
       clear uS HO9 HV9 HV hc0 hkb HKR HB HX
       (try clear HO)
       (try clear HV)
       (try clear HB)
       obtain ⟨m,hm,QE,rfl,HO,HV,HB⟩:=hrel
       obtain ⟨B8,d8,rfl⟩:=Kd.Hf HO.out
       by_cases hlt2:m < xs.length
       ·have kX:decide ((m:Int) < (xs.length:Int))=true:=decide_eq_true (by omega)
        obtain ⟨ad6,e6,z0,z1⟩:=qB (Kd.Cc HV.out.2.2).2.2 (m:Int) (by omega) (by omega)
        cases e6
        have hlen:=Dn xs m
        simp only [Int.toNat_natCast] at z0 z1
        by_cases hv:(Bc xs (m:Int)).f0 = -1
        ·have hvb:((Bc xs (m:Int)).f0 == -1)=true:=beq_iff_eq.2 hv
         obtain ⟨y,hy⟩:∃ y_:List Int,y_=qi xs (m + 1):=⟨_,rfl⟩
         have Ny:=ja.mk hy
         have NE:=ja.mk (Gv xs m hv)
         clear hy hv
         go_wp2_with (first|(at_builtin;(refine Kd.Gu (Kd.int .i64) (w0:=w) w.heap.size rfl (.tmp 54) (.tmp 56) 22 3 (.int .i64 0) 8 rfl ?a1 ?a2 rfl ?a3 ?a4 ?v (qi xs m) (m:Int) [.int .i64 (m:Int)] (fun _=>True) (fun _=>False) ?a5 ?a6 ?aP (fun _ hk=>hk.elim) ?a7 ?a8 ?a9 ?b1 ?b2 ?_);(case a1=>exact Try.underlying22);(case a2=>exact info3);(case a3=>decide);(case a4=>omega);(case a5=>rfl);(case a6=>exact congrArg (fun n=>Value.slice (some ⟨n,0,none⟩) 1 1) (by simp:wr.heap.size + 1=(wr.alloc _).heap.size));(case aP=>exact rfl);(case a7=>exact fun _ _=>trivial);(case a8=>exact Kd.Dc HO.out _);(case a9=>exact qa HB.out _);(case b1=>exact Nat.le_trans HB.out.size (by simp));(case b2=>omega);intro v1 w1 ho hb hgr hat;rw [← NE.out,← Ny.out] at ho;have gf:=ja.mk ho;have HV1:=ja.mk ((HV.out.below (qa (Below.refl _ _) _)).grown hgr (Kd.Hx (Kd.Dc HO.out _)) (by decide) (by decide));have Qy:=ja.mk hb;obtain ⟨B1,d1,rfl⟩:=Kd.Hf ho;clear ho hb hgr hat))
         go_roundg (xs.length - (m + 1))
         case measure=>omega
         case rel =>
          have e:=Ny.out
          clear Ny
          subst e
          exact ⟨m + 1,by omega,by omega,by go_num,gf,HV1,Qy⟩
        ·have hvb:((Bc xs (m:Int)).f0 == -1)=false:=beq_eq_false_iff_ne.2 hv
         have NE:=ja.mk (Zx xs m hv)
         clear hv
         go_wp2
         go_roundg (xs.length - (m + 1))
         case measure=>omega
         case rel =>
          have:=NE.out
          exact ⟨m + 1,by omega,by omega,by go_num,⟨by rw [this];exact Kd.Dc HO.out _⟩,⟨HV.out.below (qa (Below.refl _ _) _)⟩,⟨qa HB.out _⟩⟩
       ·have kX:decide ((m:Int) < (xs.length:Int))=false:=decide_eq_false (by omega)
        obtain rfl:m=xs.length:=by omega
        go_wp2
        go_ret
        exact ⟨_,rfl,by rw [← HR.out];exact HO.out,HB.out⟩
   ·rw [if_neg hok] at h
    cases h
def Kg.f (k:Nat) (Ta:List Int) (Ma:Int) (Oa:Int) (Pa:Int) (Sa:List Lk) (a1:Int):Option Bool :=
 (zg.f k Ta Ma Oa Pa Sa 1048576).bind fun s=>if s < 0 then some true else
 (Xf.f k Ta Ma Oa Pa Sa).bind fun G =>
 (Ec.f k G.1 G.2.1 G.2.2.1 G.2.2.2.1 G.2.2.2.2 a1).bind fun x =>
 (Bh.f k G.1 G.2.1 G.2.2.1 G.2.2.2.1 G.2.2.2.2 a1).bind fun y =>
 (Yc.f k y x).bind fun e1=>if e1=true then
 (Jg.f k G.1 G.2.1 G.2.2.1 G.2.2.2.1 G.2.2.2.2 G.1 G.2.1 G.2.2.1 G.2.2.2.1 G.2.2.2.2).bind fun e2=>if e2=true then
 (Qf.f k G.1 G.2.1 G.2.2.1 G.2.2.2.1 G.2.2.2.2 1).bind fun M=>if M.1 < 0 then none else
 (ld.f k y 1).bind fun m=>(Nc.f k m.2 1).bind fun q=>if q < 0 then none else if q=m.1 then some true else none
 else none else none
set_option maxHeartbeats 4000000 in
set_option maxRecDepth 100000 in
theorem Kg.calls (k:Nat) (Cb:Option Addr) (Bb:Nat) (Ta:List Int) (Ma:Int) (Oa:Int) (Pa:Int) (yc:Option Addr) (Xb:Nat) (Sa:List Lk) (a1:Int) (r:Bool) (w:World) (Rf:Kd.C (Kd.int .i64) w Cb Ta.length Ta) (Pf:Ta.length ≤ Bb) (Bg:Kd.C cy w yc Sa.length Sa) (Eg:Sa.length ≤ Xb) (h:Kg.f k Ta Ma Oa Pa Sa a1=some r) :
  Calls Try.prog 4 #[.agg #[.slice Cb Ta.length Bb,.int .i64 Ma,.int .i64 Oa,.int .i64 Pa,.slice yc Sa.length Xb],.int .i64 a1] w fun e w'=>e = .returned (.bool r)∧Below w.heap.size w w':=by
 unfold Kg.f at h
 obtain ⟨s,hs,h⟩:=Option.bind_eq_some_iff.mp h
 have HSZ:=ja.mk hs
 have Gh:=ja.mk Rf
 have DV:=ja.mk Bg
 have fI:=ja.mk Pf
 have eI:=ja.mk Eg
 obtain ⟨W1,hW1⟩:∃ W1,W1=w.alloc (.cells #[.slice Cb Ta.length Bb,.int .i64 Ma,.int .i64 Oa,.int .i64 Pa,.slice yc Sa.length Xb] 25 (0,0)):=⟨_,rfl⟩
 have HW:=ja.mk hW1
 have Qy:=ja.mk (show Below w.heap.size w W1 by rw [hW1];exact qa (Below.refl _ _) _)
 have WI:=ja.mk (show W1.heap[w.heap.size]? = some (.cells #[.slice Cb Ta.length Bb,.int .i64 Ma,.int .i64 Oa,.int .i64 Pa,.slice yc Sa.length Xb] 25 (0,0)) by rw [hW1];exact wh _ _)
 clear hs Rf Bg Pf Eg hW1
 by_cases hneg:s < 0
 ·rw [if_pos hneg] at h
  obtain rfl:=Option.some.inj h
  have hnb:decide (s < 0)=true:=decide_eq_true hneg
  clear h hneg
  have bK:=(ga WI.out 0).trans rfl
  have DB:=(ga WI.out 1).trans rfl
  have QE:=(ga WI.out 2).trans rfl
  have VC:=(ga WI.out 3).trans rfl
  have DD:=(ga WI.out 4).trans rfl
  go_enter Try.func4,Try.ntmps4
  go_upto_region 1 with (fail)
  rw [← HW.out]
  clear HW
  go_wp2_with (first|(go_at_call 13;(with_reducible refine (zg.calls k Cb Bb Ta Ma Oa Pa yc Xb Sa 1048576 s W1 (Kd.Mb Gh.out Qy.out) fI.out (Kd.Mb DV.out Qy.out) eI.out HSZ.out).mono ?_);rintro e w2 ⟨rfl,hb⟩;have Ro:=ja.mk (Qa Qy.out hb);have sS:=ja.mk (gb WI.out hb);clear hb))
  go_ret
  exact ⟨rfl,Ro.out⟩
 ·rw [if_neg hneg] at h
  have hnb:decide (s < 0)=false:=decide_eq_false hneg
  obtain ⟨⟨g1,g2,g3,g4,g5⟩,tG,h⟩:=Option.bind_eq_some_iff.mp h
  obtain ⟨x,tX,h⟩:=Option.bind_eq_some_iff.mp h
  obtain ⟨y,tY,h⟩:=Option.bind_eq_some_iff.mp h
  obtain ⟨e1,tE,h⟩:=Option.bind_eq_some_iff.mp h
  obtain rfl:e1=true:=by cases e1 with|false=>simp at h|true=>rfl
  rw [if_pos rfl] at h
  obtain ⟨e2,tF,h⟩:=Option.bind_eq_some_iff.mp h
  obtain rfl:e2=true:=by cases e2 with|false=>simp at h|true=>rfl
  rw [if_pos rfl] at h
  obtain ⟨⟨M1,M2,M3⟩,tM,h⟩:=Option.bind_eq_some_iff.mp h
  have hM:¬ M1 < 0:=fun hm=>by rw [if_pos hm] at h;cases h
  rw [if_neg hM] at h
  obtain ⟨⟨m1,m2⟩,tm,h⟩:=Option.bind_eq_some_iff.mp h
  obtain ⟨q,tq,h⟩:=Option.bind_eq_some_iff.mp h
  have hq:¬ q < 0:=fun hm=>by rw [if_pos hm] at h;cases h
  rw [if_neg hq] at h
  have hqm:q=m1:=Decidable.byContradiction fun hm=>by rw [if_neg hm] at h;cases h
  rw [if_pos hqm] at h
  obtain rfl:=Option.some.inj h
  subst hqm
  have hMb:decide (M1 < 0)=false:=decide_eq_false hM
  have hqb:decide (q < 0)=false:=decide_eq_false hq
  have TG:=ja.mk tG
  have TX:=ja.mk tX
  have TY:=ja.mk tY
  have TE:=ja.mk tE
  have TF:=ja.mk tF
  have TM:=ja.mk tM
  have Tm:=ja.mk tm
  have Tq:=ja.mk tq
  clear tG tX tY tE tF tM tm tq hM hq hneg h
  have bK:=(ga WI.out 0).trans rfl
  have DB:=(ga WI.out 1).trans rfl
  have QE:=(ga WI.out 2).trans rfl
  have VC:=(ga WI.out 3).trans rfl
  have DD:=(ga WI.out 4).trans rfl
  go_enter Try.func4,Try.ntmps4
  go_upto_region 1 with (fail)
  rw [← HW.out]
  clear HW
  go_upto_region 5 with (first|(go_at_call 13;(with_reducible refine (zg.calls k Cb Bb Ta Ma Oa Pa yc Xb Sa 1048576 s W1 (Kd.Mb Gh.out Qy.out) fI.out (Kd.Mb DV.out Qy.out) eI.out HSZ.out).mono ?_);rintro e w2 ⟨rfl,hb⟩;have Ro:=ja.mk (Qa Qy.out hb);have sS:=ja.mk (gb WI.out hb);clear hb;clear Qy WI bK DB QE VC DD))
  have bK:=(ga sS.out 0).trans rfl
  have DB:=(ga sS.out 1).trans rfl
  have QE:=(ga sS.out 2).trans rfl
  have VC:=(ga sS.out 3).trans rfl
  have DD:=(ga sS.out 4).trans rfl
  go_upto_region 6 with (first|(go_at_call 15;(with_reducible refine (Xf.calls k Cb Bb Ta Ma Oa Pa yc Xb Sa g1 g2 g3 g4 g5 w2 (Kd.Mb Gh.out Ro.out) fI.out (Kd.Mb DV.out Ro.out) eI.out TG.out).mono ?_);rintro e w3 ⟨v0,v4,rfl,Zm,gz,hb⟩;obtain ⟨B0,d0,rfl⟩:=Kd.Hf Zm;obtain ⟨B4,d4,rfl⟩:=Kd.Kr gz;have HL:=ja.mk Zm;have FL:=ja.mk gz;have vS:=ja.mk (Qa Ro.out hb);have HG3:=ja.mk (gb sS.out hb);have z23:=hb.size;clear Zm gz hb Ro sS bK DB QE VC DD)|(go_at_call 18;(with_reducible refine (Ec.calls k B0 d0 g1 g2 g3 g4 B4 d4 g5 a1 x w3 (Kd.Cc HL.out).2.2 (Kd.Cc HL.out).2.1 (Kd.nj FL.out).2.2 (Kd.nj FL.out).2.1 TX.out).mono ?_);rintro e w4 ⟨vx,rfl,ho,hb⟩;have HOW:=ja.mk (eD ho vS.out.size);have Kx:=ja.mk (Qa vS.out hb);have rS:=ja.mk (gb HG3.out hb);have z34:=hb.size;obtain ⟨D0,f0,rfl⟩:=Kd.Hf ho;clear ho hb HL FL vS HG3))
  have hzw:=Lc rS.out
  have bK:=(ga rS.out 0).trans rfl
  have DB:=(ga rS.out 1).trans rfl
  have QE:=(ga rS.out 2).trans rfl
  have VC:=(ga rS.out 3).trans rfl
  have DD:=(ga rS.out 4).trans rfl
  go_upto_region 7 with (first|(go_at_call 15;(with_reducible refine (Xf.calls k Cb Bb Ta Ma Oa Pa yc Xb Sa g1 g2 g3 g4 g5 w4 (Kd.Mb Gh.out Kx.out) fI.out (Kd.Mb DV.out Kx.out) eI.out TG.out).mono ?_);rintro e w5 ⟨v0,v4,rfl,Zm,gz,hb⟩;obtain ⟨B0,d0,rfl⟩:=Kd.Hf Zm;obtain ⟨B4,d4,rfl⟩:=Kd.Kr gz;have HX0:=ja.mk (eD Zm Kx.out.size);have BQ:=ja.mk (LS gz Kx.out.size);have XI:=ja.mk (Qa Kx.out hb);have pS:=ja.mk (gb rS.out hb);have L5:=ja.mk (Kd.Ce HOW.out hb);have z45:=hb.size;clear Zm gz hb Kx rS HOW bK DB QE VC DD))
  have hz6:(w5.alloc (.cells #[.slice B0 g1.length d0,.int .i64 g2,.int .i64 g3,.int .i64 g4,.slice B4 g5.length d4] 30 (0,0))).heap.size=w5.heap.size + 1:=by simp
  have gU:=qa (Below.refl w5.heap.size w5) (.cells #[.slice B0 g1.length d0,.int .i64 g2,.int .i64 g3,.int .i64 g4,.slice B4 g5.length d4] 30 (0,0))
  have Yv:=wh w5 (.cells #[.slice B0 g1.length d0,.int .i64 g2,.int .i64 g3,.int .i64 g4,.slice B4 g5.length d4] 30 (0,0))
  generalize w5.alloc (.cells #[.slice B0 g1.length d0,.int .i64 g2,.int .i64 g3,.int .i64 g4,.slice B4 g5.length d4] 30 (0,0))=w6 at hz6 gU Yv ⊢
  have HB6:=ja.mk (Qa XI.out gU)
  have HG6:=ja.mk (gb pS.out gU)
  have K5:=ja.mk (Kd.Ce L5.out gU)
  have DQ:=ja.mk (Kd.Ce HX0.out gU)
  have AQ:=ja.mk (Kd.vn BQ.out gU)
  have TU:=ja.mk Yv
  have Z56:=ja.mk hz6
  clear hz6 gU Yv XI pS L5 HX0 BQ
  have hx0:=(ga TU.out 0).trans rfl
  have hx1:=(ga TU.out 1).trans rfl
  have Oq:=(ga TU.out 2).trans rfl
  have Nq:=(ga TU.out 3).trans rfl
  have rq:=(ga TU.out 4).trans rfl
  go_upto_region 8 with (first|(go_at_call 19;(with_reducible refine (Bh.calls k B0 d0 g1 g2 g3 g4 B4 d4 g5 a1 y w6 (Kd.Cc DQ.out).2.2 (Kd.Cc DQ.out).2.1 (Kd.nj AQ.out).2.2 (Kd.nj AQ.out).2.1 TY.out).mono ?_);rintro e w7 ⟨vy,rfl,ho,hb⟩;have HOG:=ja.mk (eD ho HB6.out.size);have HB7:=ja.mk (Qa HB6.out hb);have T5:=ja.mk (gb HG6.out hb);have HX7:=ja.mk (gb TU.out hb);have GQ:=ja.mk (Kd.Ce K5.out hb);have G5:=ja.mk (Kd.Ce DQ.out hb);have Z4:=ja.mk (Kd.vn AQ.out hb);have z67:=hb.size;obtain ⟨E0,q0,rfl⟩:=Kd.Hf ho;clear ho hb HB6 HG6 TU K5 DQ AQ hx0 hx1 Oq Nq rq))
  have HQ:=HOG
  clear HOG
  go_upto_region 10 with (first|(go_at_call 20;(with_reducible refine (Yc.calls k E0 q0 y D0 f0 x true w7 (Kd.Cc HQ.out).2.2 (Kd.Cc HQ.out).2.1 (Kd.Cc GQ.out).2.2 (Kd.Cc GQ.out).2.1 TE.out).mono ?_);rintro e w8 ⟨rfl,hb0⟩;have hb:Below _ _ _:=hb0.below;have HB8:=ja.mk (Qa HB7.out hb);have oV:=ja.mk (gb T5.out hb);have SU:=ja.mk (gb HX7.out hb);have J5:=ja.mk (Kd.Ce GQ.out hb);have F5:=ja.mk (Kd.Ce G5.out hb);have Y4:=ja.mk (Kd.vn Z4.out hb);have M5:=ja.mk (Kd.Ce HQ.out hb);have z78:=hb.size;clear hb hb0 HB7 T5 HX7 GQ G5 Z4 HQ))
  have uS:=ja.mk (ua HB8.out)
  have LV:=ja.mk (Ga oV.out)
  have HX9:=ja.mk (Ga SU.out)
  have kV:=ja.mk (Kd.Zc J5.out)
  have VU:=ja.mk (Kd.Zc F5.out)
  have UU:=ja.mk (Kd.Ns Y4.out)
  have lV:=ja.mk (Kd.Zc M5.out)
  have z89:w8.heap.size ≤ w8.drew.heap.size:=Nat.le_refl _
  refine Xj (n:=5) (S:=fun w'=>w'.cell? ⟨w5.heap.size,0,none⟩=some (.slice B0 g1.length d0)∧w'.cell? ⟨w5.heap.size,1,none⟩=some (.int .i64 g2)∧w'.cell? ⟨w5.heap.size,2,none⟩=some (.int .i64 g3)∧w'.cell? ⟨w5.heap.size,3,none⟩=some (.int .i64 g4)∧w'.cell? ⟨w5.heap.size,4,none⟩=some (.slice B4 g5.length d4)∧w'.cell? ⟨w.heap.size,0,none⟩=some (.slice Cb Ta.length Bb)∧w'.cell? ⟨w.heap.size,1,none⟩=some (.int .i64 Ma)∧w'.cell? ⟨w.heap.size,2,none⟩=some (.int .i64 Oa)∧w'.cell? ⟨w.heap.size,3,none⟩=some (.int .i64 Pa)∧w'.cell? ⟨w.heap.size,4,none⟩=some (.slice yc Sa.length Xb)) (ds:=[]) #[false,false,false,false,false] (by kernel_rfl) rfl rfl ⟨(ga SU.out 0).trans rfl,(ga SU.out 1).trans rfl,(ga SU.out 2).trans rfl,(ga SU.out 3).trans rfl,(ga SU.out 4).trans rfl,(ga oV.out 0).trans rfl,(ga oV.out 1).trans rfl,(ga oV.out 2).trans rfl,(ga oV.out 3).trans rfl,(ga oV.out 4).trans rfl⟩ (fun hHeld=>?_)
  generalize w8.drew=w9 at uS LV HX9 kV VU UU lV z89 hHeld ⊢
  refine sg (i:=0) (N:=some 31) (v:=?_) (a':=?_) #[true,false,false,false,false] rfl rfl (by kernel_rfl) (fun _ _ _ h=>h) (Or.inl ⟨by rfl,?_⟩) hHeld ?_ ?_
  rotate_left
  ·rintro w' ⟨s0,s1,s2,s3,s4,s5,s6,s7,s8,s9⟩
   go_simp
   with_reducible rfl
  rotate_left
  ·simp only [Act.put,List.setIfInBounds_toArray,List.set_cons_zero,List.set_cons_succ,Ib,Jb]
   rfl
  refine sg (i:=1) (N:=some 32) (v:=?_) (a':=?_) #[true,true,false,false,false] rfl rfl (by kernel_rfl) (fun _ _ _ h=>h) (Or.inl ⟨by rfl,?_⟩) hHeld ?_ ?_
  rotate_left
  ·rintro w' ⟨s0,s1,s2,s3,s4,s5,s6,s7,s8,s9⟩
   go_simp
   with_reducible rfl
  rotate_left
  ·simp only [Act.put,List.setIfInBounds_toArray,List.set_cons_zero,List.set_cons_succ,Ib,Jb]
   rfl
  refine Vo (i:=2) (N:=some 33) #[true,true,true,false,false] rfl rfl (by kernel_rfl) (by decide) (fun K hK=>?_)
  refine Kn Try.func15 (by kernel_rfl) rfl #[.agg #[.slice Cb Ta.length Bb,.int .i64 Ma,.int .i64 Oa,.int .i64 Pa,.slice yc Sa.length Xb]] (by rfl) rfl rfl (by simp only [List.map_toArray,List.map_cons,List.map_nil];rfl) ?_
  with_reducible refine (Xf.calls k Cb Bb Ta Ma Oa Pa yc Xb Sa g1 g2 g3 g4 g5 w9 (Kd.Mb Gh.out uS.out) fI.out (Kd.Mb DV.out uS.out) eI.out TG.out).mono ?_
  rintro e Hq ⟨v0,v4,rfl,Zm,gz,hb⟩
  refine ⟨_,rfl,?_⟩
  have H6:=ja.mk (Qa uS.out hb)
  have vv:=ja.mk (gb LV.out hb)
  have vE:=ja.mk (gb HX9.out hb)
  have gS:=ja.mk (Kd.Ce kV.out hb)
  have YH:=ja.mk (Kd.Ce VU.out hb)
  have XH:=ja.mk (Kd.vn UU.out hb)
  have oS:=ja.mk (Kd.Ce lV.out hb)
  have Bal:=hb.size
  obtain ⟨F0,i0,rfl⟩:=Kd.Hf Zm
  obtain ⟨F4,i4,rfl⟩:=Kd.Kr gz
  have HL:=ja.mk Zm
  have FL:=ja.mk gz
  clear Zm gz hb uS LV HX9 kV VU UU lV
  refine hK.out _ _ ⟨(ga vE.out 0).trans rfl,(ga vE.out 1).trans rfl,(ga vE.out 2).trans rfl,(ga vE.out 3).trans rfl,(ga vE.out 4).trans rfl,(ga vv.out 0).trans rfl,(ga vv.out 1).trans rfl,(ga vv.out 2).trans rfl,(ga vv.out 3).trans rfl,(ga vv.out 4).trans rfl⟩ (fun hHeld=>?_)
  clear hK K
  refine Vj (a':=?_) ?_ ?_
  rotate_left
  ·show Act.put _ (some 33) _=_
   simp only [Act.put,List.setIfInBounds_toArray,List.set_cons_zero,List.set_cons_succ,Ib,Jb]
   rfl
  refine Vo (i:=3) (N:=some 34) #[true,true,true,true,false] rfl rfl (by kernel_rfl) (by decide) (fun K hK=>?_)
  refine Kn Try.func17 (by kernel_rfl) rfl #[.agg #[.slice B0 g1.length d0,.int .i64 g2,.int .i64 g3,.int .i64 g4,.slice B4 g5.length d4],.agg #[.slice F0 g1.length i0,.int .i64 g2,.int .i64 g3,.int .i64 g4,.slice F4 g5.length i4]] (by rfl) rfl rfl (by simp only [List.map_toArray,List.map_cons,List.map_nil];rfl) ?_
  with_reducible refine (Jg.calls k B0 d0 g1 g2 g3 g4 B4 d4 g5 F0 i0 g1 g2 g3 g4 F4 i4 g5 true Hq (Kd.Cc YH.out).2.2 (Kd.Cc YH.out).2.1 (Kd.nj XH.out).2.2 (Kd.nj XH.out).2.1 (Kd.Cc HL.out).2.2 (Kd.Cc HL.out).2.1 (Kd.nj FL.out).2.2 (Kd.nj FL.out).2.1 TF.out).mono ?_
  rintro e sj ⟨rfl,hb⟩
  refine ⟨_,rfl,?_⟩
  have G6:=ja.mk (Qa H6.out hb)
  have zE:=ja.mk (gb vv.out hb)
  have Py:=ja.mk (gb vE.out hb)
  have fS:=ja.mk (Kd.Ce gS.out hb)
  have YR:=ja.mk (Kd.Ce YH.out hb)
  have WR:=ja.mk (Kd.vn XH.out hb)
  have nS:=ja.mk (Kd.Ce oS.out hb)
  have zah:=hb.size
  clear hb HL FL H6 vv vE gS YH XH oS
  refine hK.out _ _ ⟨(ga Py.out 0).trans rfl,(ga Py.out 1).trans rfl,(ga Py.out 2).trans rfl,(ga Py.out 3).trans rfl,(ga Py.out 4).trans rfl,(ga zE.out 0).trans rfl,(ga zE.out 1).trans rfl,(ga zE.out 2).trans rfl,(ga zE.out 3).trans rfl,(ga zE.out 4).trans rfl⟩ (fun hHeld=>?_)
  clear hK K
  refine Vj (a':=?_) ?_ ?_
  rotate_left
  ·show Act.put _ (some 34) _=_
   simp only [Act.put,List.setIfInBounds_toArray,List.set_cons_zero,List.set_cons_succ,Ib,Jb]
   rfl
  refine qd (i:=4) (N:=some 35) (v:=?_) (a':=?_) #[true,true,true,true,true] rfl rfl (by kernel_rfl) (fun _ _ _ h=>h) (Or.inl ⟨by rfl,?_⟩) ?_ ?_
  rotate_left
  ·intro w'
   go_simp
   with_reducible rfl
  rotate_left
  ·simp only [Act.put,List.setIfInBounds_toArray,List.set_cons_zero,List.set_cons_succ,Ib,Jb]
   rfl
  refine wm (by kernel_rfl) ?_
  clear HB8 oV SU J5 F5 Y4 M5
  have hx0:=(ga Py.out 0).trans rfl
  have hx1:=(ga Py.out 1).trans rfl
  have Oq:=(ga Py.out 2).trans rfl
  have Nq:=(ga Py.out 3).trans rfl
  have rq:=(ga Py.out 4).trans rfl
  go_upto_region 14 with (first|(go_at_call 21;(with_reducible refine (Qf.calls k _ _ g1 g2 g3 g4 _ _ g5 1 M1 M2 M3 w sj G6.out YR.out WR.out TM.out).mono ?_);rintro e Nr ⟨rfl,_,_,hb,hk⟩;have F6:=ja.mk hb;have IQ:=ja.mk (Kept.mono hk (fun k_ hk_=>(Or.elim hk_ id id:w4.heap.size ≤ k_∧k_ < w5.heap.size)));have yah:=hk.1;clear hb hk hx0 hx1 Oq Nq rq))
  have m6:=ja.mk (bk zE.out IQ.out (by omega))
  have bI:=ja.mk (Kd.Qs fS.out IQ.out (by intro k_ h1 h2;omega))
  have cI:=ja.mk (Kd.Qs nS.out IQ.out (by have:=Z56.out;intro k_ h1 h2;omega))
  clear zE fS nS Py YR WR G6 IQ
  go_upto_region 17 with (first|(go_at_call 20;(with_reducible refine (Yc.calls k E0 q0 y D0 f0 x true Nr (Kd.Cc cI.out).2.2 (Kd.Cc cI.out).2.1 (Kd.Cc bI.out).2.2 (Kd.Cc bI.out).2.1 TE.out).mono ?_);rintro e FB ⟨rfl,hb0⟩;have hb:Below _ _ _:=hb0.below;have E6:=ja.mk (Qa F6.out hb);have l6:=ja.mk (gb m6.out hb);have eS:=ja.mk (Kd.Ce bI.out hb);have mS:=ja.mk (Kd.Ce cI.out hb);have xah:=hb.size;clear hb hb0 F6 m6 bI cI))
  go_upto_region 19 with (first|(go_at_call 22;(with_reducible refine (ld.calls k _ _ y 1 q m2 w FB E6.out mS.out Tm.out).mono ?_);rintro e pz ⟨rfl,ho,hb,hk⟩;have D6:=ja.mk hb;have nV:=ja.mk hk;have RC:=ja.mk ho;have wah:=hk.1;clear hb hk ho))
  have j6:=ja.mk (bk l6.out nV.out (by have:=Z56.out;omega))
  have dS:=ja.mk (Kd.Qs eS.out nV.out (by have:=Z56.out;intro k_ h1 h2;omega))
  have hlm:m2.length=y.length:=(Kd.Cc RC.out).1.symm
  have HLM:=ja.mk hlm
  clear l6 eS mS E6 nV hlm
  go_upto_region 24 with (first|(go_at_call 23;(with_reducible refine (au k E0 q0 y.length m2 1 q pz HLM.out (Kd.Cc RC.out).2.2 (Kd.Cc RC.out).2.1 Tq.out).mono ?_);rintro e Nk ⟨rfl,hb0⟩;have hb:Below _ _ _:=hb0.below;have MQ:=ja.mk (Qa D6.out hb);have yE:=ja.mk (gb j6.out hb);have cS:=ja.mk (Kd.Ce dS.out hb);have lS:=ja.mk (Kd.Ce RC.out hb);have vah:=hb.size;clear hb hb0 D6 j6 dS RC))
  have bK:=(ga yE.out 0).trans rfl
  have DB:=(ga yE.out 1).trans rfl
  have QE:=(ga yE.out 2).trans rfl
  have VC:=(ga yE.out 3).trans rfl
  have DD:=(ga yE.out 4).trans rfl
  go_upto_region 25 with (first|(go_at_call 15;(with_reducible refine (Xf.calls k Cb Bb Ta Ma Oa Pa yc Xb Sa g1 g2 g3 g4 g5 Nk (Kd.Mb Gh.out MQ.out) fI.out (Kd.Mb DV.out MQ.out) eI.out TG.out).mono ?_);rintro e az ⟨v0,v4,rfl,Zm,gz,hb⟩;obtain ⟨F0,i0,rfl⟩:=Kd.Hf Zm;obtain ⟨F4,i4,rfl⟩:=Kd.Kr gz;have HL:=ja.mk Zm;have FL:=ja.mk gz;have C6:=ja.mk (Qa MQ.out hb);have Z5:=ja.mk (gb yE.out hb);have bS:=ja.mk (Kd.Ce cS.out hb);have kS:=ja.mk (Kd.Ce lS.out hb);have uah:=hb.size;clear Zm gz hb MQ yE cS lS bK DB QE VC DD)|(go_at_call 19;(with_reducible refine (Bh.calls k F0 i0 g1 g2 g3 g4 F4 i4 g5 a1 y az (Kd.Cc HL.out).2.2 (Kd.Cc HL.out).2.1 (Kd.nj FL.out).2.2 (Kd.nj FL.out).2.1 TY.out).mono ?_);rintro e Gq ⟨vz,rfl,ho,hb⟩;have IL:=ja.mk ho;have u6:=ja.mk (Qa C6.out hb);have Y5:=ja.mk (gb Z5.out hb);have aI:=ja.mk (Kd.Ce bS.out hb);have jS:=ja.mk (Kd.Ce kS.out hb);have tah:=hb.size;obtain ⟨J0,j0,rfl⟩:=Kd.Hf ho;clear ho hb HL FL C6 Z5 bS kS))
  go_upto_region 28 with (first|(go_at_call 20;(with_reducible refine (Yc.calls k J0 j0 y D0 f0 x true Gq (Kd.Cc IL.out).2.2 (Kd.Cc IL.out).2.1 (Kd.Cc aI.out).2.2 (Kd.Cc aI.out).2.1 TE.out).mono ?_);rintro e kI ⟨rfl,hb0⟩;have hb:Below _ _ _:=hb0.below;have oah:=ja.mk (Qa u6.out hb);have Ian:=ja.mk (gb Y5.out hb);have fal:=ja.mk (Kd.Ce aI.out hb);have iS:=ja.mk (Kd.Ce jS.out hb);have sah:=hb.size;clear hb hb0 u6 Y5 aI jS IL))
  go_wp2_with (first|(go_at_call 23;(with_reducible refine (au k E0 q0 y.length m2 1 q kI HLM.out (Kd.Cc iS.out).2.2 (Kd.Cc iS.out).2.1 Tq.out).mono ?_);rintro e Uv ⟨rfl,hb0⟩;have hb:Below _ _ _:=hb0.below;have nah:=ja.mk (Qa oah.out hb);clear hb hb0))
  go_ret
  exact ⟨rfl,nah.out⟩
theorem PI {xs:List dm} (hx:xs.length ≤ 1000):Ev (fun k=>Ec.l0 k [] (xs.map ij) 0) (qi xs xs.length):=by
 have key:=Hi (r:=qi xs xs.length) (n:=xs.length) (fun i=>Ev (fun k=>Ec.l0 k (qi xs i) (xs.map ij) (i:Int)) (qi xs xs.length)) ?_ ?_ 0 (by omega)
 ·exact key
 ·exact Ev.step (fun k=>by rw [Ec.l0]) (Ev.neg (by rw [List.length_map];omega) (Ev.now _))
 ·intro i hi ih
  refine Ev.step (fun k=>by rw [Ec.l0]) (Ev.pos (by rw [List.length_map];omega) (Ev.pos (by omega) ?_))
  have hr:(Ld (xs.map ij) (i:Int)).f0=(Bc xs (i:Int)).f0:=by rw [Zs xs (i:Int) (by omega) (by omega)];rfl
  have hl:=Dn xs i
  rw [hr,ng hi (by omega)]
  by_cases h:(Bc xs (i:Int)).f0 = -1
  ·refine Ev.pos h (Ev.pos (by omega) ?_)
   rw [← Gv xs i h]
   exact ih
  ·refine Ev.neg h ?_
   rw [← Zx xs i h]
   exact ih
theorem cL (l0:List Int) (p v s:Int) (l4:List gh) (b:Int) (h0:l0.length ≤ 1048576) (AV:l4.length ≤ 1048576) (ht:We l4 ≤ 1048576):∃ r:List Int,Ev (fun k=>Ec.f k l0 p v s l4 b) r∧Ev (fun k=>Bh.f k l0 p v s l4 b) r∧r.length ≤ 1048576:=by
 unfold Ec.f Bh.f
 have hi:=XD (l0:=l0) (p:=p) (v:=v) (s:=s) (l4:=l4) h0 AV ht
 have hs:=cE (l0:=l0) (p:=p) (v:=v) (s:=s) (l4:=l4) h0 AV ht
 simp only [Option.bind_some]
 cases hg:vo l0 p v s l4 with
 | false =>
  rw [hg] at hi hs
  exact ⟨[],Ev.bind hs (Ev.neg (by simp) (Ev.step (fun k=>by rw [Ec.j0]) (Ev.pos rfl (Ev.now _)))),Ev.bind hi (Ev.neg (by simp) (Ev.now _)),by simp⟩
 | true =>
  rw [hg] at hi hs
  have hw:wrap64 ((l4.length:Int) - 1)=(l4.length:Int) - 1:=Ig (by omega) (by omega)
  rw [hw]
  clear hw
  cases hb:Qj b 0 ((l4.length:Int) - 1) with
  | false=>exact ⟨[],Ev.bind hs (Ev.pos rfl (Ev.bind (Uf _ _ _) (by rw [hb];exact Ev.step (fun k=>by rw [Ec.j0]) (Ev.pos (show (!false)=true from rfl) (Ev.now _))))),Ev.bind hi (Ev.pos rfl (by simp only [Bool.false_eq_true,if_false];exact Ev.now _)),by simp⟩
  | true =>
   obtain ⟨g1,g2,g3⟩:=iB hg
   have g4:=LI g1
   obtain ⟨n,rfl⟩:∃ n:Nat,s=(n:Int):=⟨s.toNat,by omega⟩
   have hb':0 ≤ b∧b < (l4.length:Int):=by simp [Qj] at hb;omega
   obtain ⟨i,rfl⟩:∃ i:Nat,b=(i:Int):=⟨b.toNat,by omega⟩
   have hil:i < l4.length:=by omega
   have hr:Xa l4 (i:Int)=l4[i]:=Ol hil
   have hin:=jE (g2 _ (List.getElem_mem hil))
   have CH:=KH l4 _ (List.getElem_mem hil)
   have hk:yq (n:Int) l4[i].f0=true:=by
    unfold yq
    simp only [Bool.and_eq_true,decide_eq_true_eq,List.all_eq_true]
    exact ⟨⟨⟨by omega,by omega⟩,by omega⟩,fun x hx=>VB (hin x hx) (by omega)⟩
   have hlen:(Zg (idents n) (n:Int) l4[i].f0).1.length=n:=by
    have:=(En l4[i].f0 (idents n) (n:Int)).2.2
    rwa [jh] at this
   refine ⟨qi (Zg (idents n) (n:Int) l4[i].f0).1 n,Ev.bind hs (Ev.pos rfl (Ev.bind (Uf _ _ _) ?_)),Ev.bind hi (Ev.pos rfl ?_),by have:=Dn (Zg (idents n) (n:Int) l4[i].f0).1 n;omega⟩
   ·rw [hb]
    refine Ev.step (fun k=>by rw [Ec.j0]) (Ev.neg (by simp) ?_)
    refine Ev.bind (a:=((Zg (idents n) (n:Int) l4[i].f0).1.map ij,(Zg (idents n) (n:Int) l4[i].f0).2 - (n:Int))) ?_ ?_
    ·unfold Xc.f
     refine Ev.bind (wC n (by omega)) (Ev.pos (by omega) (Ev.pos (by omega) ?_))
     rw [hr]
     exact kz (by omega) (by omega) hin
    ·have h:=PI (xs:=(Zg (idents n) (n:Int) l4[i].f0).1) (by omega)
     rw [hlen] at h
     exact h
   ·rw [hr,if_pos rfl,if_pos hk,Int.toNat_natCast]
    exact Ev.now _
theorem Lu (x:CV) (b0:Int) (hf:bL x) (hb0:iq b0):∃ k,Kg.f k x.f0 x.f1 x.f2 x.f3 x.f4 b0=some true:=by
 obtain ⟨t,e1,e2⟩:=RD x hf
 refine Ev.rounds (g:=fun k=>Kg.f k x.f0 x.f1 x.f2 x.f3 x.f4 b0) ?_
 unfold Kg.f
 refine Ev.bind e1 ?_
 by_cases ht:t < 0
 ·exact Ev.pos ht (Ev.now _)
 refine Ev.neg ht ?_
 obtain ⟨h0,hl,hst,hT,hq,⟨M1,M2,M3⟩,hM,hM0,_⟩:=e2 ht
 obtain ⟨r,r1,r2,r3⟩:=cL x.f0 x.f1 x.f2 x.f3 (x.f4.map yg) b0 h0 hl hst
 have hE:=Ez r (by omega)
 have hm:=Kv r 1 (by omega) (by omega)
 have hh:=Lv 1 r.length (by omega) (by omega)
 refine Ev.bind hT (Ev.bind r1 (Ev.bind r2 (Ev.bind hE (Ev.pos rfl (Ev.bind hq (Ev.pos rfl (Ev.bind hM (Ev.neg (by simp only at hM0 ⊢;omega) (Ev.bind hm (Ev.bind hh (Ev.neg (by omega) (Ev.pos rfl (Ev.now _)))))))))))))
end Go.Proofs.Ytmifdccaajngcaa.P
end
