import Derived.Test.YtmifdccaajngcaaQPlaces1
import Derived.Test.YtmifdccaajngcaaQPlaces8
import Derived.Test.YtmifdccaajngcaaQPlaces3
import Derived.Test.YtmifdccaajngcaaQPlaces6
import Derived.Test.YtmifdccaajngcaaQPlaces2
import Derived.Shelf.Abstract
import Derived.Outline
import Derived.RegionTactic
import Derived.Test.YtmifdccaajngcaaQPlaces7
import Derived.Test.YtmifdccaajngcaaQPlaces4
import Derived.Deep.QuietTactic
import Derived.BigQuiet
import Derived.Test.YtmifdccaajngcaaQPlaces5
set_option maxHeartbeats 8000000
set_option maxRecDepth 100000
section
namespace Go.Proofs.Ytmifdccaajngcaa.P
open Go.RowKit Go.Proofs.Sa.Ec Go.Proofs.Sa.Bf Go.Proofs.Sa.Yg
set_option linter.unusedVariables false
set_option linter.unusedSimpArgs false
theorem Yt (a:Int):(strOfNums [a]).size=1:=by
 simp [strOfNums]
 rfl
theorem VA (n:Int) (hn:n ≤ 4611686018427387904):∃ t,Ev (fun k=>dc.f k n) t:=by
 have key:∀ (d:Nat) (x:Int) (s:ByteArray),0 ≤ x→x < (10 ^ d:Nat)→x ≤ 4611686018427387904→s.size + d ≤ 1000000→∃ t,Ev (fun k=>dc.l0 k x s) t:=by
  intro d
  induction d with
  | zero =>
   intro x s h0 h1 _ hs
   have h1':x < 1:=h1
   refine ⟨_,Ev.step (fun k=>by rw [dc.l0]) (Ev.neg (by omega) (Ev.pos (by omega) (Ev.now _)))⟩
  | succ d ih =>
   intro x s h0 h1 h2 hs
   by_cases hx:x > 0
   ·have e1:Int.tdiv x 10=x / 10:=Int.tdiv_eq_ediv_of_nonneg h0
    have e2:wrap64 (x / 10)=x / 10:=ag (by omega) (by omega)
    have h1':x / 10 < (10 ^ d:Nat):=by
     have:((10 ^ (d + 1):Nat):Int)=(10 ^ d:Nat) * 10:=by rw [Nat.pow_succ];simp
     rw [this] at h1
     omega
    obtain ⟨t,ht⟩:=ih (x / 10) (strOfNums [(wrap64 (48 + (Int.tmod x 10))) % 256] ++ s) (by omega) h1' (by omega) (by rw [ByteArray.size_append,Yt];omega)
    refine ⟨t,Ev.step (fun k=>by rw [dc.l0]) (Ev.pos hx ?_)⟩
    simp only [Option.bind_some]
    refine Ev.pos (by rw [Yt];omega) ?_
    rw [e1,e2]
    exact ht
   ·exact ⟨_,Ev.step (fun k=>by rw [dc.l0]) (Ev.neg hx (Ev.pos (by omega) (Ev.now _)))⟩
 unfold dc.f
 by_cases h:n ≤ 0
 ·exact ⟨_,Ev.pos h (Ev.now _)⟩
 ·obtain ⟨t,ht⟩:=key 19 n ⟨#[]⟩ (by omega) (by omega) hn (by decide)
  exact ⟨t,Ev.neg h ht⟩
def ai (T:Nat→ByteArray) (m:Int) (n:Nat):List yf:=(List.range n).map fun (j:Nat)=>(⟨m + 7 * (j:Int),m + 7 * (j:Int) + 1,m + 7 * (j:Int) + 2,m + 7 * (j:Int) + 3,m + 7 * (j:Int) + 4,m + 7 * (j:Int) + 5,T j⟩:yf)
theorem Ih (T:Nat→ByteArray) (m:Int) (n:Nat):(ai T m n).length=n:=by simp [ai]
theorem Ns {T:Nat→ByteArray} {m:Int} {n j:Nat} (h:j < n):(ai T m n).getD j Ws=(⟨m + 7 * (j:Int),m + 7 * (j:Int) + 1,m + 7 * (j:Int) + 2,m + 7 * (j:Int) + 3,m + 7 * (j:Int) + 4,m + 7 * (j:Int) + 5,T j⟩:yf):=by simp [ai,List.getD_eq_getElem?_getD,h]
theorem RA {x:List yf} {i:Nat} (h:i < x.length) (a:yf):Ea (x.set i a) (i:Int)=a:=by
 simp [Ea,List.getD_eq_getElem?_getD,h]
theorem DQ {a:Int} (h0:0 ≤ a) (h1:a + 7 ≤ 4611686018427387904):wrap64 (a + 1)=a + 1∧wrap64 (a + 1 + 1)=a + 2∧wrap64 (a + 2 + 1)=a + 3∧wrap64 (a + 3 + 1)=a + 4∧wrap64 (a + 4 + 1)=a + 5∧wrap64 (a + 5 + 1)=a + 6∧wrap64 (a + 6 + 1)=a + 7:=by
 refine ⟨?_,?_,?_,?_,?_,?_,?_⟩
 all_goals
  rw [ag (by omega) (by omega)]
  try omega
theorem kA (l:List yf) (m:Int) (hm:0 ≤ m) (hl:m + 7 * l.length ≤ 4611686018427387904):∃ ms:List yf,Ev (fun k=>Bc.f k l m) (m + 7 * l.length,ms)∧Ev (fun k=>Jb.f k ms m) (m + 7 * l.length):=by
 have hT:∀ j:Nat,∃ t,j < l.length→Ev (fun k=>dc.f k (m + 7 * (j:Int) + 6)) t:=by
  intro j
  by_cases hj:j < l.length
  ·obtain ⟨t,ht⟩:=VA (m + 7 * (j:Int) + 6) (by omega)
   exact ⟨t,fun _=>ht⟩
  ·exact ⟨⟨#[]⟩,fun h=>absurd h hj⟩
 obtain ⟨T,hT⟩:=Classical.axiomOfChoice hT
 refine ⟨ai T m l.length,?_,?_⟩
 ·have key:=ni (r:=(m + 7 * (l.length:Int),ai T m l.length)) (n:=l.length) (fun i=>Ev (fun k=>Bc.l0 k ((ai T m l.length).take i ++ l.drop i) (m + 7 * i) (i:Int)) (m + 7 * (l.length:Int),ai T m l.length)) ?_ ?_ 0 (by omega)
  ·refine Ev.congr (fun k=>?_) key
   unfold Bc.f
   simp
  ·refine Ev.step (fun k=>by rw [Bc.l0]) ?_
   refine Ev.neg (by simp [Ih]) ?_
   rw [List.drop_length,List.append_nil,List.take_of_length_le (by rw [Ih];omega)]
   exact Ev.now _
  ·intro i hi h
   have hlen:((ai T m l.length).take i ++ l.drop i).length=l.length:=by simp [Ih];omega
   have hset:=Ty (m:=ai T m l.length) (l:=l) (z:=Ws) (i:=i) (by rw [Ih]) (by rw [Ih];exact hi)
   rw [Ns hi] at hset
   generalize hx:(ai T m l.length).take i ++ l.drop i=x at hlen hset ⊢
   refine Ev.step (fun k=>by rw [Bc.l0]) ?_
   refine Ev.pos (by omega) (Ev.pos (by omega) ?_)
   simp only [Int.toNat_natCast,Option.bind_some]
   have hi1:i < x.length:=by omega
   simp only [RA hi1,List.set_set]
   obtain ⟨w1,w2,w3,w4,w5,w6,w7⟩:=DQ (a:=m + 7 * (i:Int)) (by omega) (by omega)
   simp only [w1,w2,w3,w4,w5,w6,w7]
   refine Ev.bind (hT i hi) ?_
   rw [bg hi (by omega),show m + 7 * (i:Int) + 7=m + 7 * ((i + 1:Nat):Int) from by omega,hset]
   exact h
 ·have key:=ni (r:=m + 7 * (l.length:Int)) (n:=l.length) (fun i=>Ev (fun k=>Jb.l0 k (ai T m l.length) (m + 7 * i) (i:Int)) (m + 7 * (l.length:Int))) ?_ ?_ 0 (by omega)
  ·refine Ev.congr (fun k=>?_) key
   unfold Jb.f
   simp
  ·refine Ev.step (fun k=>by rw [Jb.l0]) ?_
   exact Ev.neg (by rw [Ih];omega) (Ev.now _)
  ·intro i hi h
   have hr:Ea (ai T m l.length) (i:Int)=(⟨m + 7 * (i:Int),m + 7 * (i:Int) + 1,m + 7 * (i:Int) + 2,m + 7 * (i:Int) + 3,m + 7 * (i:Int) + 4,m + 7 * (i:Int) + 5,T i⟩:yf):=Ns hi
   refine Ev.step (fun k=>by rw [Jb.l0]) ?_
   refine Ev.pos (by rw [Ih];omega) (Ev.pos (by omega) ?_)
   obtain ⟨w1,w2,w3,w4,w5,w6,w7⟩:=DQ (a:=m + 7 * (i:Int)) (by omega) (by omega)
   simp only [w1,w2,w3,w4,w5,w6,w7,hr]
   refine Ev.pos (by simp) (Ev.pos (by simp) (Ev.pos (by simp) (Ev.pos (by simp) (Ev.pos (by simp) (Ev.pos (by simp) (Ev.bind (hT i hi) (Ev.pos rfl ?_)))))))
   rw [bg hi (by omega),show m + 7 * (i:Int) + 7=m + 7 * ((i + 1:Nat):Int) from by omega]
   exact h
def xE (l:List Dh):Nat:=(l.map fun x=>7 * x.f0.length + 4).sum
theorem az (x:Dh) (l:List Dh):xE (x :: l)=7 * x.f0.length + 4 + xE l:=by simp [xE]
theorem xV {a:Int} (h0:0 ≤ a) (h1:a + 4 ≤ 4611686018427387904):wrap64 (a + 1)=a + 1∧wrap64 (a + 1 + 1)=a + 2∧wrap64 (a + 2 + 1)=a + 3∧wrap64 (a + 3 + 1)=a + 4:=by
 refine ⟨?_,?_,?_,?_⟩
 all_goals
  rw [ag (by omega) (by omega)]
  try omega
theorem lA (l:List Dh):∀ (m:Int),0 ≤ m→m + xE l ≤ 4611686018427387904→∃ ms:List Dh,Ev (fun k=>Ve.f k l m) (m + xE l,ms)∧ms.length=l.length∧∀ (pre:List Dh),pre.length + l.length ≤ 1048576→Ev (fun k=>Ic.l0 k (pre ++ ms) m (pre.length:Int)) (m + xE l):=by
 induction l with
 | nil =>
  intro m hm hl
  refine ⟨[],?_,rfl,fun pre _=>?_⟩
  ·unfold Ve.f
   simp only [xE,List.map_nil,List.sum_nil,Int.natCast_zero,Int.add_zero]
   exact Ev.now _
  ·refine Ev.step (fun k=>by rw [Ic.l0]) ?_
   simp only [xE,List.map_nil,List.sum_nil,Int.natCast_zero,Int.add_zero]
   exact Ev.neg (by simp) (Ev.now _)
 | cons x l ih =>
  intro m hm hl
  rw [az] at hl
  obtain ⟨c,c1,c2⟩:=kA x.f0 m hm (by omega)
  obtain ⟨ms,m1,m2,m3⟩:=ih (m + 7 * x.f0.length + 4) (by omega) (by omega)
  obtain ⟨w1,w2,w3,w4⟩:=xV (a:=m + 7 * (x.f0.length:Int)) (by omega) (by omega)
  have hv:m + ((7 * x.f0.length + 4 + xE l:Nat):Int)=m + 7 * (x.f0.length:Int) + 4 + xE l:=by omega
  rw [az,hv]
  refine ⟨⟨c,m + 7 * x.f0.length,m + 7 * x.f0.length + 1,m + 7 * x.f0.length + 2,m + 7 * x.f0.length + 3⟩ :: ms,?_,by simp [m2],fun pre hp=>?_⟩
  ·unfold Ve.f
   refine Ev.bind c1 ?_
   simp only [w1,w2,w3,w4]
   exact Ev.bind m1 (Ev.now _)
  ·have hr:Ua (pre ++ (⟨c,m + 7 * x.f0.length,m + 7 * x.f0.length + 1,m + 7 * x.f0.length + 2,m + 7 * x.f0.length + 3⟩:Dh) :: ms) (pre.length:Int)=⟨c,m + 7 * x.f0.length,m + 7 * x.f0.length + 1,m + 7 * x.f0.length + 2,m + 7 * x.f0.length + 3⟩:=by
    simp [Ua,List.getD_eq_getElem?_getD]
   rw [List.length_cons] at hp
   have hn:=m3 (pre ++ [⟨c,m + 7 * x.f0.length,m + 7 * x.f0.length + 1,m + 7 * x.f0.length + 2,m + 7 * x.f0.length + 3⟩]) (by rw [List.length_append,List.length_singleton];omega)
   have hl2:pre.length < (pre ++ (⟨c,m + 7 * x.f0.length,m + 7 * x.f0.length + 1,m + 7 * x.f0.length + 2,m + 7 * x.f0.length + 3⟩:Dh) :: ms).length:=by simp
   rw [List.append_assoc,List.singleton_append,List.length_append] at hn
   generalize (pre ++ (⟨c,m + 7 * x.f0.length,m + 7 * x.f0.length + 1,m + 7 * x.f0.length + 2,m + 7 * x.f0.length + 3⟩:Dh) :: ms)=ys at hn hr hl2 ⊢
   refine Ev.step (fun k=>by rw [Ic.l0]) ?_
   refine Ev.pos (by omega) (Ev.pos (by omega) ?_)
   simp only [hr]
   refine Ev.bind c2 (Ev.neg (by omega) ?_)
   simp only [w1,w2,w3,w4]
   refine Ev.pos (by simp) (Ev.pos (by simp) (Ev.pos (by simp) (Ev.pos (by simp) ?_)))
   rw [ag (x:=(pre.length:Int) + 1) (by omega) (by omega)]
   exact hn
theorem VC (l0:List Int) (p v s:Int) (l4:List Dh) (m:Int) (hm:0 ≤ m) (hl:m + l0.length + xE l4 ≤ 4611686018427387904) (h4:l4.length ≤ 1048576):∃ ms:List Dh,Ev (fun k=>Xf.f k l0 p v s l4 m) (m + l0.length + xE l4,iota m l0.length,ms)∧Ev (fun k=>Nh.f k (iota m l0.length) p v s ms m) (m + l0.length + xE l4):=by
 obtain ⟨ms,m1,m2,m3⟩:=lA l4 (m + l0.length) (by omega) (by omega)
 refine ⟨ms,?_,?_⟩
 ·unfold Xf.f
  exact Ev.bind (ZD l0 m hm (by omega)) (Ev.bind m1 (Ev.now _))
 ·unfold Nh.f
  refine Ev.bind (fE m l0.length hm (by omega)) (Ev.neg (by omega) ?_)
  have h:=m3 [] (by simpa using h4)
  simp only [List.nil_append,List.length_nil] at h
  refine Ev.bind (a:=m + l0.length + xE l4) ?_ (Ev.neg (by omega) (Ev.now _))
  unfold Ic.f
  exact h
theorem MS (l:List Dh):xE l ≤ 7 * Ze l + 4 * l.length:=by
 induction l with
 | nil=>simp [xE]
 | cons x l ih =>
  have:Ze (x :: l)=x.f0.length + Ze l:=by simp [Ze]
  rw [az,this,List.length_cons]
  omega
theorem KE (l:List Dl):Ze (l.map Ng) ≤ vS l:=by
 unfold Ze vS
 rw [List.map_map]
 have:∀ l:List Dl,(l.map ((fun (x:Dh)=>x.f0.length) ∘ Ng)).sum ≤ (l.map fun x=>DJ x.f0).sum:=by
  intro l
  induction l with
  | nil=>simp
  | cons a l ih =>
   rw [List.map_cons,List.map_cons,List.sum_cons,List.sum_cons]
   have:((fun (x:Dh)=>x.f0.length) ∘ Ng) a ≤ DJ a.f0:=by
    simp [Ng,DJ]
   omega
 have:=this l
 omega
theorem EF (x:oV) (hf:UL x):∃ t:Int,Ev (fun k=>Og.f k x.f0 x.f1 x.f2 x.f3 x.f4 1048576) t∧(¬ t < 0→x.f0.length ≤ 1048576∧(x.f4.map Ng).length ≤ 1048576∧Ze (x.f4.map Ng) ≤ 1048576 ∧
  Ev (fun k=>ng.f k x.f0 x.f1 x.f2 x.f3 x.f4) (x.f0,x.f1,x.f2,x.f3,x.f4.map Ng)∧Ev (fun k=>gh.f k x.f0 x.f1 x.f2 x.f3 (x.f4.map Ng) x.f0 x.f1 x.f2 x.f3 (x.f4.map Ng)) true ∧
  ∃ M:Int × List Int × List Dh,Ev (fun k=>Xf.f k x.f0 x.f1 x.f2 x.f3 (x.f4.map Ng) 1) M∧0 ≤ M.1∧M.1 ≤ 4398046511104):=by
 obtain ⟨h0,_,_,_,h4⟩:=hf
 obtain ⟨t,e1,e2,e3⟩:=KF x.f0 x.f1 x.f2 x.f3 x.f4 1048576 (by omega) (by omega) h0.1 h4.1 (fun y hy=>⟨(h4.2 y hy).1.1,fun z hz=>((h4.2 y hy).1.2 z hz).2.2.2.2.2.2⟩)
 refine ⟨t,e1,fun ht=>?_⟩
 have e:=e3 (by omega)
 obtain ⟨mV,hbc⟩:=yD (l:=x.f4) (n:=1048576) (by omega)
 have hl:(x.f4.map Ng).length ≤ 1048576:=by rw [List.length_map];exact mV
 have hst:=KE x.f4
 have hm:=MS (x.f4.map Ng)
 obtain ⟨ms,m1,_⟩:=VC x.f0 x.f1 x.f2 x.f3 (x.f4.map Ng) 1 (by omega) (by omega) hl
 exact ⟨by omega,hl,by omega,JF x.f0 x.f1 x.f2 x.f3 x.f4 (by omega) mV hbc,PF x.f0 x.f1 x.f2 x.f3 (x.f4.map Ng) (by omega) (by omega) (fun y hy=>by
  have:=aJ _ _ hy
  omega),_,m1,by simp only;omega,by simp only;omega⟩
def qf.f (k:Nat) (Yc:Int) (Pa:Int) (Oa:Int) (Ma:Int) (Vc:Int) (ke:Int) (Le:ByteArray) (l1:List ko):Option (Int × Int × Int × Int) :=
 if Yc=3 ∨ Yc=4 then
  if (0 ≤ Ma∧Ma < (l1.length:Int))∧Oa < (l1.length:Int) then
   if 0 ≤ Oa then
    if (Xb l1 Oa).f0 > (Xb l1 Ma).f0 then some (ke,(Xb l1 Ma).f0,(Xb l1 Oa).f0,wrap64 ((Xb l1 Ma).f1 + (Xb l1 Oa).f1)) else some (ke,(Xb l1 Oa).f0,(Xb l1 Ma).f0,wrap64 ((Xb l1 Oa).f1 + (Xb l1 Ma).f1))
   else if -1 > (Xb l1 Ma).f0 then some (ke,(Xb l1 Ma).f0,-1,wrap64 (Xb l1 Ma).f1) else some (ke,-1,(Xb l1 Ma).f0,wrap64 (Xb l1 Ma).f1)
  else none
 else some (-1,0,0,0)
theorem qf.mono:∀ a0 a1 a2 a3 a4 a5 a6 a7 k,Nb (qf.f k a0 a1 a2 a3 a4 a5 a6 a7) (qf.f (k + 1) a0 a1 a2 a3 a4 a5 a6 a7):=fun _ _ _ _ _ _ _ _ _=>Nb.refl _
theorem EJ (Yc Pa Oa Ma Vc ke:Int) (Le:ByteArray) (A1:Option Addr) (c1:Nat) (l1:List ko) (W:World) (h3':(Yc != 3)=true) (h4':(Yc != 4)=true) :
  Calls Try.prog 77 #[.agg #[.int .i64 Yc,.int .i64 Pa,.int .i64 Oa,.int .i64 Ma,.int .i64 Vc,.int .i64 ke,.string Le],.slice A1 l1.length c1] W fun e w'=>e = .returned (.agg #[.int .i64 (-1),.int .i64 0,.int .i64 0,.int .i64 0])∧Below W.heap.size W w':=by
 obtain ⟨W1,hW1⟩:∃ W1,W1=(W.alloc (.cells #[.int .i64 Yc,.int .i64 Pa,.int .i64 Oa,.int .i64 Ma,.int .i64 Vc,.int .i64 ke,.string Le] 70 (0,0))).alloc (.cells #[.int .i64 0,.int .i64 0,.int .i64 0,.int .i64 0] 103 (0,0)):=⟨_,rfl⟩
 have HW:=ja.mk hW1
 have Bl:Below W.heap.size W W1:=by rw [hW1];exact qa (qa (Below.refl _ _) _) _
 have hz:W1.heap.size=W.heap.size + 2:=by rw [hW1];simp
 have iq:W1.heap[W.heap.size + 1]? = some (.cells #[.int .i64 0,.int .i64 0,.int .i64 0,.int .i64 0] 103 (0,0)):=by rw [hW1];have:=Me (W.alloc (.cells #[.int .i64 Yc,.int .i64 Pa,.int .i64 Oa,.int .i64 Ma,.int .i64 Vc,.int .i64 ke,.string Le] 70 (0,0))) (.cells #[.int .i64 0,.int .i64 0,.int .i64 0,.int .i64 0] 103 (0,0));simpa using this
 have Bi:W1.heap[W.heap.size]? = some (.cells #[.int .i64 Yc,.int .i64 Pa,.int .i64 Oa,.int .i64 Ma,.int .i64 Vc,.int .i64 ke,.string Le] 70 (0,0)):=by rw [hW1];exact Fa (Me _ _) _
 have HR:=ja.mk iq
 have HX:=ja.mk Bi
 have HB:=ja.mk Bl
 have HZ:=ja.mk hz
 clear hW1 iq Bi Bl hz
 have hr0:=(ga HR.out 0).trans rfl
 have Mn:=(ga HR.out 1).trans rfl
 have nD:=(ga HR.out 2).trans rfl
 have mD:=(ga HR.out 3).trans rfl
 have Xl:=aa HR.out 0
 have Wl:=aa HR.out 1
 have Zr:=aa HR.out 2
 have Yr:=aa HR.out 3
 have hx0:=(ga HX.out 0).trans rfl
 have hx1:=(ga HX.out 1).trans rfl
 have Ek:=(ga HX.out 2).trans rfl
 have jk:=(ga HX.out 3).trans rfl
 have Dk:=(ga HX.out 4).trans rfl
 have Um:=(ga HX.out 5).trans rfl
 have zm:=(ga HX.out 6).trans rfl
 go_enter Try.func77,Try.ntmps77
 go_upto_region 1 with (fail)
 rw [← HW.out]
 clear HW
 go_wp2
 have hz:=HZ.out
 refine bodyPost_ret (results_cell_row rfl _ _ (W.heap.size + 1) 103 #[.int .i64 (-1),.int .i64 0,.int .i64 0,.int .i64 0] (0,0) _ rfl ?_ Try.underlying103 rfl (by kernel_rfl)) rfl ?_
 ·exact zb (cs:=#[.int .i64 (-1),.int .i64 0,.int .i64 0,.int .i64 0]) (zb (cs:=#[.int .i64 (-1),.int .i64 0,.int .i64 0,.int .i64 0]) (zb (cs:=#[.int .i64 (-1),.int .i64 0,.int .i64 0,.int .i64 0]) (zb (cs:=#[.int .i64 0,.int .i64 0,.int .i64 0,.int .i64 0]) HR.out 0 _ rfl) 1 _ rfl) 2 _ rfl) 3 _ rfl
 ·exact ⟨rfl,by repeat (first|exact HB.out|apply ia|apply ua|apply qa|refine Aa ?_ (by first|omega|(simp;done)|(simp;omega)))⟩
theorem ME (Yc Pa Oa Ma Vc ke:Int) (Le:ByteArray) (A1:Option Addr) (c1:Nat) (l1:List ko) (W:World) (r1 r2 r3 r4:Int) (ho:(Yc != 3)=false ∨ ((Yc != 3)=true∧(Yc != 4)=false)) (Mn:Kd.C GG W A1 l1.length l1) (hb0:0 ≤ Ma) (hb1:Ma < l1.length) (ha1:Oa < l1.length) (h:(if 0 ≤ Oa then if (Xb l1 Oa).f0 > (Xb l1 Ma).f0 then some (ke,(Xb l1 Ma).f0,(Xb l1 Oa).f0,wrap64 ((Xb l1 Ma).f1 + (Xb l1 Oa).f1)) else some (ke,(Xb l1 Oa).f0,(Xb l1 Ma).f0,wrap64 ((Xb l1 Oa).f1 + (Xb l1 Ma).f1)) else if -1 > (Xb l1 Ma).f0 then some (ke,(Xb l1 Ma).f0,-1,wrap64 (Xb l1 Ma).f1) else some (ke,-1,(Xb l1 Ma).f0,wrap64 (Xb l1 Ma).f1))=some (r1,r2,r3,r4)) :
  Calls Try.prog 77 #[.agg #[.int .i64 Yc,.int .i64 Pa,.int .i64 Oa,.int .i64 Ma,.int .i64 Vc,.int .i64 ke,.string Le],.slice A1 l1.length c1] W fun e w'=>e = .returned (.agg #[.int .i64 r1,.int .i64 r2,.int .i64 r3,.int .i64 r4])∧Below W.heap.size W w':=by
 rcases ho with h3'|⟨h3',h4'⟩
 all_goals
  have HH:=ja.mk h
  clear h
  obtain ⟨W1,hW1⟩:∃ W1,W1=(W.alloc (.cells #[.int .i64 Yc,.int .i64 Pa,.int .i64 Oa,.int .i64 Ma,.int .i64 Vc,.int .i64 ke,.string Le] 70 (0,0))).alloc (.cells #[.int .i64 0,.int .i64 0,.int .i64 0,.int .i64 0] 103 (0,0)):=⟨_,rfl⟩
  have HW:=ja.mk hW1
  have Bl:Below W.heap.size W W1:=by rw [hW1];exact qa (qa (Below.refl _ _) _) _
  have hz:W1.heap.size=W.heap.size + 2:=by rw [hW1];simp
  have iq:W1.heap[W.heap.size + 1]? = some (.cells #[.int .i64 0,.int .i64 0,.int .i64 0,.int .i64 0] 103 (0,0)):=by rw [hW1];have:=Me (W.alloc (.cells #[.int .i64 Yc,.int .i64 Pa,.int .i64 Oa,.int .i64 Ma,.int .i64 Vc,.int .i64 ke,.string Le] 70 (0,0))) (.cells #[.int .i64 0,.int .i64 0,.int .i64 0,.int .i64 0] 103 (0,0));simpa using this
  have Bi:W1.heap[W.heap.size]? = some (.cells #[.int .i64 Yc,.int .i64 Pa,.int .i64 Oa,.int .i64 Ma,.int .i64 Vc,.int .i64 ke,.string Le] 70 (0,0)):=by rw [hW1];exact Fa (Me _ _) _
  have HR:=ja.mk iq
  have HX:=ja.mk Bi
  have hC:=Kd.Mb Mn Bl
  have FN:=hC.2.1
  obtain ⟨ad,e1,Wp,Vp⟩:=cq hC Ma hb0 hb1
  cases e1
  have aN:=ja.mk hC
  have hw1:W.heap.size ≠ W1.heap.size:=by omega
  have gV:W.heap.size ≠ W1.heap.size + 1:=by omega
  have fV:W.heap.size + 1 ≠ W1.heap.size:=by omega
  have eV:W.heap.size + 1 ≠ W1.heap.size + 1:=by omega
  have HB:=ja.mk Bl
  have HZ:=ja.mk hz
  clear hC hW1 iq Bi Mn Bl hz
  have hr0:=(ga HR.out 0).trans rfl
  have Mn:=(ga HR.out 1).trans rfl
  have nD:=(ga HR.out 2).trans rfl
  have mD:=(ga HR.out 3).trans rfl
  have Xl:=aa HR.out 0
  have Wl:=aa HR.out 1
  have Zr:=aa HR.out 2
  have Yr:=aa HR.out 3
  have hx0:=(ga HX.out 0).trans rfl
  have hx1:=(ga HX.out 1).trans rfl
  have Ek:=(ga HX.out 2).trans rfl
  have jk:=(ga HX.out 3).trans rfl
  have Dk:=(ga HX.out 4).trans rfl
  have Um:=(ga HX.out 5).trans rfl
  have zm:=(ga HX.out 6).trans rfl
  go_enter Try.func77,Try.ntmps77
  go_upto_region 1 with (fail)
  rw [← HW.out]
  clear HW
  go_upto_region 3 with (fail)
  have jj:=ja.mk (ua (Below.refl W1.heap.size W1))
  have hd3:W1.cell? ⟨W.heap.size,3,none⟩=some (.int .i64 Ma):=jk
  have HG:=ja.mk (fun (W3:World) (h:Below W1.heap.size W1 W3)=>(⟨Zd h hd3,Zd h Wp,Zd h Vp⟩:W3.cell? ⟨W.heap.size,3,none⟩=some (.int .i64 Ma)∧W3.cell? (ad.add (Ma.toNat * 2))=some (.int .i64 (Xb l1 Ma).f0)∧W3.cell? ⟨(ad.add (Ma.toNat * 2)).block,(ad.add (Ma.toNat * 2)).off + 1,none⟩=some (.int .i64 (Xb l1 Ma).f1)))
  refine Oi (n:=10) (S:=fun w'=>w'.cell? ⟨W.heap.size,3,none⟩=some (.int .i64 Ma)∧w'.cell? (ad.add (Ma.toNat * 2))=some (.int .i64 (Xb l1 Ma).f0)∧w'.cell? ⟨(ad.add (Ma.toNat * 2)).block,(ad.add (Ma.toNat * 2)).off + 1,none⟩=some (.int .i64 (Xb l1 Ma).f1)) (ds:=[9]) #[false,false,false,false,false,false,false,false,false,false] (by kernel_rfl) rfl rfl ⟨hd3,Wp,Vp⟩ (fun hHeld=>?_)
  refine Nc (i:=0) (N:=some 16) (v:=?_) (a':=?_) #[true,false,false,false,false,false,false,false,false,false] rfl rfl (by kernel_rfl) (fun _ _ _ h=>h) (Or.inl ⟨by rfl,?_⟩) ?_ ?_
  rotate_left
  ·intro w'
   go_simp
   with_reducible rfl
  rotate_left
  ·simp only [Act.put,List.setIfInBounds_toArray,List.set_cons_zero,List.set_cons_succ,Bb,Cb]
   rfl
  refine Nc (i:=1) (N:=some 17) (v:=?_) (a':=?_) #[true,true,false,false,false,false,false,false,false,false] rfl rfl (by kernel_rfl) (fun _ _ _ h=>h) (Or.inl ⟨by rfl,?_⟩) ?_ ?_
  rotate_left
  ·intro w'
   go_simp
   with_reducible rfl
  rotate_left
  ·simp only [Act.put,List.setIfInBounds_toArray,List.set_cons_zero,List.set_cons_succ,Bb,Cb]
   rfl
  refine Nc (i:=2) (N:=some 18) (v:=?_) (a':=?_) #[true,true,true,false,false,false,false,false,false,false] rfl rfl (by kernel_rfl) (fun _ _ _ h=>h) (Or.inl ⟨by rfl,?_⟩) ?_ ?_
  rotate_left
  ·intro w'
   go_simp
   with_reducible rfl
  rotate_left
  ·simp only [Act.put,List.setIfInBounds_toArray,List.set_cons_zero,List.set_cons_succ,Bb,Cb]
   rfl
  refine Lf (i:=3) (N:=some 19) (v:=?_) (a':=?_) #[true,true,true,true,false,false,false,false,false,false] rfl rfl (by kernel_rfl) (fun _ _ _ h=>h) (Or.inl ⟨by rfl,?_⟩) hHeld ?_ ?_
  rotate_left
  ·rintro w' ⟨s0,s1,s2⟩
   go_simp
   with_reducible rfl
  rotate_left
  ·simp only [Act.put,List.setIfInBounds_toArray,List.set_cons_zero,List.set_cons_succ,Bb,Cb]
   rfl
  refine Nc (i:=4) (N:=some 20) (v:=?_) (a':=?_) #[true,true,true,true,true,false,false,false,false,false] rfl rfl (by kernel_rfl) (fun _ _ _ h=>h) (Or.inl ⟨by rfl,?_⟩) ?_ ?_
  rotate_left
  ·intro w'
   go_simp
   with_reducible rfl
  rotate_left
  ·simp only [Act.put,List.setIfInBounds_toArray,List.set_cons_zero,List.set_cons_succ,Bb,Cb]
   rfl
  refine Lf (i:=5) (N:=some 21) (v:=?_) (a':=?_) #[true,true,true,true,true,true,false,false,false,false] rfl rfl (by kernel_rfl) (fun _ _ _ h=>h) (Or.inl ⟨by rfl,?_⟩) hHeld ?_ ?_
  rotate_left
  ·rintro w' ⟨s0,s1,s2⟩
   go_simp
   with_reducible rfl
  rotate_left
  ·simp only [Act.put,List.setIfInBounds_toArray,List.set_cons_zero,List.set_cons_succ,Bb,Cb]
   rfl
  refine IG (σ:=Nat × Nat) 2 #[true,true,true,true,true,true,true,true,false,false] (fun s=>[(5,.pointer (some ⟨s.1,0,none⟩)),(6,.pointer (some ⟨s.2,0,none⟩))]) (fun s w'=>w' = (W1.drew.alloc (.cells #[.int .i64 0,.int .i64 0] 77 (0,0))).alloc (.cells #[.int .i64 0,.int .i64 0] 77 (0,0))∧((s.1=W1.heap.size∧s.2=W1.heap.size + 1) ∨ (s.1=W1.heap.size + 1∧s.2=W1.heap.size))) ?_ ?_
  rotate_left
  ·intro Ss
   refine kN (i:=6) (j:=7) (Ni:=some 5) (Nj:=some 6) #[true,true,true,true,true,true,true,false,false,false] #[true,true,true,true,true,true,false,true,false,false] rfl rfl rfl rfl (by kernel_rfl) (by decide) (by decide) (fun K hK=>?_) (fun K hK=>?_)
   ·skip
    refine Ck (w1:=?_) (v:=?_) (by rfl) rfl ?_ ?_
    rotate_left 2
    ·go_simp
     constructor
     ·rfl
     ·rfl
    refine hK.out _ _ ⟨(HG.out _ (qa jj.out _)).1,(HG.out _ (qa jj.out _)).2.1,(HG.out _ (qa jj.out _)).2.2⟩ (fun hHeld=>?_)
    clear hK K
    refine Mg (a':=?_) ?_ ?_
    rotate_left
    ·show Act.put _ (some 5) _=_
     simp only [Act.put,List.setIfInBounds_toArray,List.set_cons_zero,List.set_cons_succ,Bb,Cb]
     rfl
    refine gm (i:=7) (N:=some 6) #[true,true,true,true,true,true,true,true,false,false] rfl rfl (by kernel_rfl) (by decide) (fun K hK=>?_)
    refine Ck (w1:=?_) (v:=?_) (by rfl) rfl ?_ ?_
    rotate_left 2
    ·go_simp
     constructor
     ·rfl
     ·rfl
    refine hK.out _ _ ⟨(HG.out _ (qa (qa jj.out _) _)).1,(HG.out _ (qa (qa jj.out _) _)).2.1,(HG.out _ (qa (qa jj.out _) _)).2.2⟩ (fun hHeld=>?_)
    clear hK K
    refine Mg (a':=?_) ?_ ?_
    rotate_left
    ·show Act.put _ (some 6) _=_
     simp only [Act.put,List.setIfInBounds_toArray,List.set_cons_zero,List.set_cons_succ,Bb,Cb]
     rfl
    exact Mg (by simp only [yl,Act.put,List.setIfInBounds_toArray,List.set_cons_zero,List.set_cons_succ]) (Ss (W1.heap.size,W1.heap.size + 1) _ ⟨rfl,Or.inl ⟨rfl,rfl⟩⟩)
   ·skip
    refine Ck (w1:=?_) (v:=?_) (by rfl) rfl ?_ ?_
    rotate_left 2
    ·go_simp
     constructor
     ·rfl
     ·rfl
    refine hK.out _ _ ⟨(HG.out _ (qa jj.out _)).1,(HG.out _ (qa jj.out _)).2.1,(HG.out _ (qa jj.out _)).2.2⟩ (fun hHeld=>?_)
    clear hK K
    refine Mg (a':=?_) ?_ ?_
    rotate_left
    ·show Act.put _ (some 6) _=_
     simp only [Act.put,List.setIfInBounds_toArray,List.set_cons_zero,List.set_cons_succ,Bb,Cb]
     rfl
    refine gm (i:=6) (N:=some 5) #[true,true,true,true,true,true,true,true,false,false] rfl rfl (by kernel_rfl) (by decide) (fun K hK=>?_)
    refine Ck (w1:=?_) (v:=?_) (by rfl) rfl ?_ ?_
    rotate_left 2
    ·go_simp
     constructor
     ·rfl
     ·rfl
    refine hK.out _ _ ⟨(HG.out _ (qa (qa jj.out _) _)).1,(HG.out _ (qa (qa jj.out _) _)).2.1,(HG.out _ (qa (qa jj.out _) _)).2.2⟩ (fun hHeld=>?_)
    clear hK K
    refine Mg (a':=?_) ?_ ?_
    rotate_left
    ·show Act.put _ (some 5) _=_
     simp only [Act.put,List.setIfInBounds_toArray,List.set_cons_zero,List.set_cons_succ,Bb,Cb]
     rfl
    exact Mg (by simp only [yl,Act.put,List.setIfInBounds_toArray,List.set_cons_zero,List.set_cons_succ]) (Ss (W1.heap.size + 1,W1.heap.size) _ ⟨rfl,Or.inr ⟨rfl,rfl⟩⟩)
  rintro ⟨s1,s2⟩ W3 ⟨om,hs⟩
  simp only at hs
  have hne:s1 ≠ s2:=by omega
  have kz:W1.heap.size ≤ s1:=by omega
  have jz:W1.heap.size ≤ s2:=by omega
  have DF:Below W1.heap.size W1 W3:=by rw [om];exact qa (qa jj.out _) _
  have Ds:W3.heap[s1]? = some (.cells #[.int .i64 0,.int .i64 0] 77 (0,0)):=by
   rw [om]
   rcases hs with ⟨e,_⟩|⟨e,_⟩
   ·rw [e];exact Fa (Me W1.drew _) _
   ·rw [e];have:=Me (W1.drew.alloc (.cells #[.int .i64 0,.int .i64 0] 77 (0,0))) (.cells #[.int .i64 0,.int .i64 0] 77 (0,0));simpa using this
  have hn2:W3.heap[s2]? = some (.cells #[.int .i64 0,.int .i64 0] 77 (0,0)):=by
   rw [om]
   rcases hs with ⟨_,e⟩|⟨_,e⟩
   ·rw [e];have:=Me (W1.drew.alloc (.cells #[.int .i64 0,.int .i64 0] 77 (0,0))) (.cells #[.int .i64 0,.int .i64 0] 77 (0,0));simpa using this
   ·rw [e];exact Fa (Me W1.drew _) _
  clear om hs
  have vE:=ja.mk DF
  have hHeld:=HG.out W3 DF
  have Ow:=ja.mk Ds
  have GM:=ja.mk hn2
  clear DF Ds hn2
  refine Mg (a':=?_) ?_ ?_
  rotate_left
  ·simp only [yl,Act.put,List.setIfInBounds_toArray,List.set_cons_zero,List.set_cons_succ]
   rfl
  refine gm (i:=8) (N:=none) #[true,true,true,true,true,true,true,true,true,false] rfl rfl (by kernel_rfl) (by decide) (fun K hK=>?_)
  have AF:=(ga Ow.out 0).trans rfl
  have zF:=(ga Ow.out 1).trans rfl
  have qF:=aa Ow.out 0
  have pF:=aa Ow.out 1
  refine Hs (w1:=?_) (by rfl) rfl ?_ ?_
  rotate_left
  ·go_simp
   rfl
  have jo:=ja.mk (show Below W1.heap.size W1 ((W3.setCell ⟨s1,0,none⟩ (.int .i64 (-1))).setCell ⟨s1,1,none⟩ (.int .i64 0)) from (vE.out.setCell kz _).setCell kz _)
  have HM:=ja.mk (zb (cs:=#[.int .i64 (-1),.int .i64 0]) (zb (cs:=#[.int .i64 0,.int .i64 0]) Ow.out 0 (.int .i64 (-1)) rfl) 1 (.int .i64 0) rfl)
  have Pw:=ja.mk (Tc (p:=⟨s1,1,none⟩) (Tc (p:=⟨s1,0,none⟩) GM.out (Ne.symm hne) (.int .i64 (-1))) (Ne.symm hne) (.int .i64 0))
  clear AF zF qF pF
  refine hK.out _ _ ⟨(HG.out _ jo.out).1,(HG.out _ jo.out).2.1,(HG.out _ jo.out).2.2⟩ (fun hHeld=>?_)
  clear hK K
  refine cz (i:=9) (N:=none) #[true,true,true,true,true,true,true,true,true,true] rfl rfl (by kernel_rfl) (by decide) (fun K hK=>?_)
  have yF:=(ga Pw.out 0).trans rfl
  have xF:=(ga Pw.out 1).trans rfl
  have oF:=aa Pw.out 0
  have nF:=aa Pw.out 1
  refine Hs (w1:=?_) (by rfl) rfl ?_ ?_
  rotate_left
  ·go_simp
   rfl
  refine hK.out _ _ ?_
  clear hK K
  refine Mk (by kernel_rfl) ?_
  obtain ⟨W5,hW5⟩:∃ W5,W5=(((W3.setCell ⟨s1,0,none⟩ (.int .i64 (-1))).setCell ⟨s1,1,none⟩ (.int .i64 0)).setCell ⟨s2,0,none⟩ (.int .i64 (Xb l1 Ma).f0)).setCell ⟨s2,1,none⟩ (.int .i64 (Xb l1 Ma).f1):=⟨_,rfl⟩
  rw [← hW5]
  have Es:Below W1.heap.size W1 W5:=by rw [hW5];exact (jo.out.setCell jz _).setCell jz _
  have Po:W5.heap[s1]? = some (.cells #[.int .i64 (-1),.int .i64 0] 77 (0,0)):=by rw [hW5];exact Tc (p:=⟨s2,1,none⟩) (Tc (p:=⟨s2,0,none⟩) HM.out hne _) hne _
  have hm2:W5.heap[s2]? = some (.cells #[.int .i64 (Xb l1 Ma).f0,.int .i64 (Xb l1 Ma).f1] 77 (0,0)):=by rw [hW5];exact zb (cs:=#[.int .i64 (Xb l1 Ma).f0,.int .i64 0]) (zb (cs:=#[.int .i64 0,.int .i64 0]) Pw.out 0 _ rfl) 1 _ rfl
  clear hW5 HM Pw Ow GM yF xF oF nF jo vE hd3 Wp Vp hx0 hx1 Ek jk Dk Um zm hr0 Mn nD mD Xl Wl Zr Yr HG jj
  have HR:=ja.mk (Ya HR.out Es)
  have HX:=ja.mk (Ya HX.out Es)
  have aN:=ja.mk (Kd.Mb aN.out Es)
  have HB:=ja.mk (Na HB.out Es)
  clear Es
  have hr0:=(ga HR.out 0).trans rfl
  have Mn:=(ga HR.out 1).trans rfl
  have nD:=(ga HR.out 2).trans rfl
  have mD:=(ga HR.out 3).trans rfl
  have Xl:=aa HR.out 0
  have Wl:=aa HR.out 1
  have Zr:=aa HR.out 2
  have Yr:=aa HR.out 3
  have hx0:=(ga HX.out 0).trans rfl
  have hx1:=(ga HX.out 1).trans rfl
  have Ek:=(ga HX.out 2).trans rfl
  have jk:=(ga HX.out 3).trans rfl
  have Dk:=(ga HX.out 4).trans rfl
  have Um:=(ga HX.out 5).trans rfl
  have zm:=(ga HX.out 6).trans rfl
  by_cases ha0:0 ≤ Oa
  ·have h:=HH.out
   rw [if_pos ha0] at h
   have hge:decide (Oa ≥ 0)=true:=decide_eq_true ha0
   obtain ⟨ad_,e1,Wt,Vt⟩:=cq aN.out Oa ha0 ha1
   cases e1
   have hz0:=HZ.out
   have iV:W.heap.size ≠ s1:=by omega
   have LG:W.heap.size + 1 ≠ s1:=by omega
   have hq3:W.heap.size ≠ s2:=by omega
   have hq4:W.heap.size + 1 ≠ s2:=by omega
   have hq5:=Ne.symm iV
   have hq6:=Ne.symm LG
   have hq7:=Ne.symm hq3
   have hq8:=Ne.symm hq4
   have eF:=Ne.symm hne
   clear hz0
   have cw:=(ga Po 0).trans rfl
   have bw:=(ga Po 1).trans rfl
   have iA:=aa Po 0
   have gA:=aa Po 1
   have Ex:=(ga hm2 0).trans rfl
   have Dx:=(ga hm2 1).trans rfl
   have CF:=aa hm2 0
   have BF:=aa hm2 1
   go_upto_region 6 with (fail)
   obtain ⟨W6,hnew⟩:∃ x,x=((W5.setCell ⟨s1,0,none⟩ (.int .i64 (Xb l1 Oa).f0)).setCell ⟨s1,1,none⟩ (.int .i64 (Xb l1 Oa).f1)):=⟨_,rfl⟩
   rw [← hnew]
   have hkk:Kept W5 W6 (fun k_=>k_=s1 ∨ k_=s2):=by rw [hnew];exact Kept.setCell (S:=fun k_=>k_=s1 ∨ k_=s2) (p:=⟨s1,1,none⟩) (Kept.setCell (S:=fun k_=>k_=s1 ∨ k_=s2) (p:=⟨s1,0,none⟩) (Kept.refl _ _) (Or.inl (Or.inl rfl)) _) (Or.inl (Or.inl rfl)) _
   have Ds:W6.heap[s1]? = some (.cells #[.int .i64 (Xb l1 Oa).f0,.int .i64 (Xb l1 Oa).f1] 77 (0,0)):=by rw [hnew];exact zb (cs:=#[.int .i64 (Xb l1 Oa).f0,.int .i64 0]) (zb (cs:=#[.int .i64 (-1),.int .i64 0]) (Po) 0 _ rfl) 1 _ rfl
   have hn2:W6.heap[s2]? = some (.cells #[.int .i64 (Xb l1 Ma).f0,.int .i64 (Xb l1 Ma).f1] 77 (0,0)):=by rw [hnew];exact Tc (p:=⟨s1,1,none⟩) (Tc (p:=⟨s1,0,none⟩) (hm2) eF _) eF _
   have hz0:=HZ.out
   have HB:ja (Below W.heap.size W W6):=⟨by rw [hnew];exact ((HB.out).setCell (by simp;omega) _).setCell (by simp;omega) _⟩
   have HR:=ja.mk (Yf HR.out hkk (by rintro (e|e) <;> omega))
   have HX:=ja.mk (Yf HX.out hkk (by rintro (e|e) <;> omega))
   clear hz0 hkk hnew Po hm2 cw bw iA gA Ex Dx CF BF hx0 hx1 Ek jk Dk Um zm hr0 Mn nD mD Xl Wl Zr Yr
   have Po:=Ds
   have hm2:=hn2
   clear Ds hn2
   have hr0:=(ga HR.out 0).trans rfl
   have Mn:=(ga HR.out 1).trans rfl
   have nD:=(ga HR.out 2).trans rfl
   have mD:=(ga HR.out 3).trans rfl
   have Xl:=aa HR.out 0
   have Wl:=aa HR.out 1
   have Zr:=aa HR.out 2
   have Yr:=aa HR.out 3
   have hx0:=(ga HX.out 0).trans rfl
   have hx1:=(ga HX.out 1).trans rfl
   have Ek:=(ga HX.out 2).trans rfl
   have jk:=(ga HX.out 3).trans rfl
   have Dk:=(ga HX.out 4).trans rfl
   have Um:=(ga HX.out 5).trans rfl
   have zm:=(ga HX.out 6).trans rfl
   have cw:=(ga Po 0).trans rfl
   have bw:=(ga Po 1).trans rfl
   have iA:=aa Po 0
   have gA:=aa Po 1
   have Ex:=(ga hm2 0).trans rfl
   have Dx:=(ga hm2 1).trans rfl
   have CF:=aa hm2 0
   have BF:=aa hm2 1
   by_cases hc:(Xb l1 Oa).f0 > (Xb l1 Ma).f0
   ·rw [if_pos hc] at h
    cases h
    have hcb:decide ((Xb l1 Oa).f0 > (Xb l1 Ma).f0)=true:=decide_eq_true hc
    go_upto_region 8 with (fail)
    obtain ⟨W7,hnew⟩:∃ x,x=((((W6.setCell ⟨s1,0,none⟩ (.int .i64 (Xb l1 Ma).f0)).setCell ⟨s1,1,none⟩ (.int .i64 (Xb l1 Ma).f1)).setCell ⟨s2,0,none⟩ (.int .i64 (Xb l1 Oa).f0)).setCell ⟨s2,1,none⟩ (.int .i64 (Xb l1 Oa).f1)):=⟨_,rfl⟩
    rw [← hnew]
    have hkk:Kept W6 W7 (fun k_=>k_=s1 ∨ k_=s2):=by rw [hnew];exact Kept.setCell (S:=fun k_=>k_=s1 ∨ k_=s2) (p:=⟨s2,1,none⟩) (Kept.setCell (S:=fun k_=>k_=s1 ∨ k_=s2) (p:=⟨s2,0,none⟩) (Kept.setCell (S:=fun k_=>k_=s1 ∨ k_=s2) (p:=⟨s1,1,none⟩) (Kept.setCell (S:=fun k_=>k_=s1 ∨ k_=s2) (p:=⟨s1,0,none⟩) (Kept.refl _ _) (Or.inl (Or.inl rfl)) _) (Or.inl (Or.inl rfl)) _) (Or.inl (Or.inr rfl)) _) (Or.inl (Or.inr rfl)) _
    have Ds:W7.heap[s1]? = some (.cells #[.int .i64 (Xb l1 Ma).f0,.int .i64 (Xb l1 Ma).f1] 77 (0,0)):=by rw [hnew];exact Tc (p:=⟨s2,1,none⟩) (Tc (p:=⟨s2,0,none⟩) (zb (cs:=#[.int .i64 (Xb l1 Ma).f0,.int .i64 (Xb l1 Oa).f1]) (zb (cs:=#[.int .i64 (Xb l1 Oa).f0,.int .i64 (Xb l1 Oa).f1]) (Po) 0 _ rfl) 1 _ rfl) hne _) hne _
    have hn2:W7.heap[s2]? = some (.cells #[.int .i64 (Xb l1 Oa).f0,.int .i64 (Xb l1 Oa).f1] 77 (0,0)):=by rw [hnew];exact zb (cs:=#[.int .i64 (Xb l1 Oa).f0,.int .i64 (Xb l1 Ma).f1]) (zb (cs:=#[.int .i64 (Xb l1 Ma).f0,.int .i64 (Xb l1 Ma).f1]) (Tc (p:=⟨s1,1,none⟩) (Tc (p:=⟨s1,0,none⟩) (hm2) eF _) eF _) 0 _ rfl) 1 _ rfl
    have hz0:=HZ.out
    have HB:ja (Below W.heap.size W W7):=⟨by rw [hnew];exact ((((HB.out).setCell (by simp;omega) _).setCell (by simp;omega) _).setCell (by simp;omega) _).setCell (by simp;omega) _⟩
    have HR:=ja.mk (Yf HR.out hkk (by rintro (e|e) <;> omega))
    have HX:=ja.mk (Yf HX.out hkk (by rintro (e|e) <;> omega))
    clear hz0 hkk hnew Po hm2 cw bw iA gA Ex Dx CF BF hx0 hx1 Ek jk Dk Um zm hr0 Mn nD mD Xl Wl Zr Yr
    have Po:=Ds
    have hm2:=hn2
    clear Ds hn2
    have hr0:=(ga HR.out 0).trans rfl
    have Mn:=(ga HR.out 1).trans rfl
    have nD:=(ga HR.out 2).trans rfl
    have mD:=(ga HR.out 3).trans rfl
    have Xl:=aa HR.out 0
    have Wl:=aa HR.out 1
    have Zr:=aa HR.out 2
    have Yr:=aa HR.out 3
    have hx0:=(ga HX.out 0).trans rfl
    have hx1:=(ga HX.out 1).trans rfl
    have Ek:=(ga HX.out 2).trans rfl
    have jk:=(ga HX.out 3).trans rfl
    have Dk:=(ga HX.out 4).trans rfl
    have Um:=(ga HX.out 5).trans rfl
    have zm:=(ga HX.out 6).trans rfl
    have cw:=(ga Po 0).trans rfl
    have bw:=(ga Po 1).trans rfl
    have iA:=aa Po 0
    have gA:=aa Po 1
    have Ex:=(ga hm2 0).trans rfl
    have Dx:=(ga hm2 1).trans rfl
    have CF:=aa hm2 0
    have BF:=aa hm2 1
    go_wp2
    have hz:=HZ.out
    refine bodyPost_ret (results_cell_row rfl _ _ (W.heap.size + 1) 103 #[.int .i64 ke,.int .i64 ((Xb l1 Ma).f0),.int .i64 ((Xb l1 Oa).f0),.int .i64 (wrap64 ((Xb l1 Ma).f1 + (Xb l1 Oa).f1))] (0,0) _ rfl ?_ Try.underlying103 rfl (by kernel_rfl)) rfl ?_
    ·exact zb (cs:=#[.int .i64 ke,.int .i64 ((Xb l1 Ma).f0),.int .i64 ((Xb l1 Oa).f0),.int .i64 0]) (zb (cs:=#[.int .i64 ke,.int .i64 ((Xb l1 Ma).f0),.int .i64 0,.int .i64 0]) (zb (cs:=#[.int .i64 ke,.int .i64 0,.int .i64 0,.int .i64 0]) (zb (cs:=#[.int .i64 0,.int .i64 0,.int .i64 0,.int .i64 0]) (by repeat (first|exact HR.out|refine Tc ?_ (by simp;omega) _)) 0 _ rfl) 1 _ rfl) 2 _ rfl) 3 _ rfl
    ·exact ⟨rfl,by repeat (first|exact HB.out|apply ia|apply ua|apply qa|refine Aa ?_ (by first|omega|(simp;done)|(simp;omega)))⟩
   ·rw [if_neg hc] at h
    cases h
    have hcb:decide ((Xb l1 Oa).f0 > (Xb l1 Ma).f0)=false:=decide_eq_false hc
    go_wp2
    have hz:=HZ.out
    refine bodyPost_ret (results_cell_row rfl _ _ (W.heap.size + 1) 103 #[.int .i64 ke,.int .i64 ((Xb l1 Oa).f0),.int .i64 ((Xb l1 Ma).f0),.int .i64 (wrap64 ((Xb l1 Oa).f1 + (Xb l1 Ma).f1))] (0,0) _ rfl ?_ Try.underlying103 rfl (by kernel_rfl)) rfl ?_
    ·exact zb (cs:=#[.int .i64 ke,.int .i64 ((Xb l1 Oa).f0),.int .i64 ((Xb l1 Ma).f0),.int .i64 0]) (zb (cs:=#[.int .i64 ke,.int .i64 ((Xb l1 Oa).f0),.int .i64 0,.int .i64 0]) (zb (cs:=#[.int .i64 ke,.int .i64 0,.int .i64 0,.int .i64 0]) (zb (cs:=#[.int .i64 0,.int .i64 0,.int .i64 0,.int .i64 0]) (by repeat (first|exact HR.out|refine Tc ?_ (by simp;omega) _)) 0 _ rfl) 1 _ rfl) 2 _ rfl) 3 _ rfl
    ·exact ⟨rfl,by repeat (first|exact HB.out|apply ia|apply ua|apply qa|refine Aa ?_ (by first|omega|(simp;done)|(simp;omega)))⟩
  ·have h:=HH.out
   rw [if_neg ha0] at h
   have hge:decide (Oa ≥ 0)=false:=decide_eq_false ha0
   have hz0:=HZ.out
   have iV:W.heap.size ≠ s1:=by omega
   have LG:W.heap.size + 1 ≠ s1:=by omega
   have hq3:W.heap.size ≠ s2:=by omega
   have hq4:W.heap.size + 1 ≠ s2:=by omega
   have hq5:=Ne.symm iV
   have hq6:=Ne.symm LG
   have hq7:=Ne.symm hq3
   have hq8:=Ne.symm hq4
   have eF:=Ne.symm hne
   clear hz0
   have cw:=(ga Po 0).trans rfl
   have bw:=(ga Po 1).trans rfl
   have iA:=aa Po 0
   have gA:=aa Po 1
   have Ex:=(ga hm2 0).trans rfl
   have Dx:=(ga hm2 1).trans rfl
   have CF:=aa hm2 0
   have BF:=aa hm2 1
   by_cases hc:(-1) > (Xb l1 Ma).f0
   ·rw [if_pos hc] at h
    cases h
    have hcb:decide ((-1) > (Xb l1 Ma).f0)=true:=decide_eq_true hc
    go_upto_region 8 with (fail)
    obtain ⟨W7,hnew⟩:∃ x,x=((((W5.setCell ⟨s1,0,none⟩ (.int .i64 (Xb l1 Ma).f0)).setCell ⟨s1,1,none⟩ (.int .i64 (Xb l1 Ma).f1)).setCell ⟨s2,0,none⟩ (.int .i64 (-1))).setCell ⟨s2,1,none⟩ (.int .i64 0)):=⟨_,rfl⟩
    rw [← hnew]
    have hkk:Kept W5 W7 (fun k_=>k_=s1 ∨ k_=s2):=by rw [hnew];exact Kept.setCell (S:=fun k_=>k_=s1 ∨ k_=s2) (p:=⟨s2,1,none⟩) (Kept.setCell (S:=fun k_=>k_=s1 ∨ k_=s2) (p:=⟨s2,0,none⟩) (Kept.setCell (S:=fun k_=>k_=s1 ∨ k_=s2) (p:=⟨s1,1,none⟩) (Kept.setCell (S:=fun k_=>k_=s1 ∨ k_=s2) (p:=⟨s1,0,none⟩) (Kept.refl _ _) (Or.inl (Or.inl rfl)) _) (Or.inl (Or.inl rfl)) _) (Or.inl (Or.inr rfl)) _) (Or.inl (Or.inr rfl)) _
    have Ds:W7.heap[s1]? = some (.cells #[.int .i64 (Xb l1 Ma).f0,.int .i64 (Xb l1 Ma).f1] 77 (0,0)):=by rw [hnew];exact Tc (p:=⟨s2,1,none⟩) (Tc (p:=⟨s2,0,none⟩) (zb (cs:=#[.int .i64 (Xb l1 Ma).f0,.int .i64 0]) (zb (cs:=#[.int .i64 (-1),.int .i64 0]) (Po) 0 _ rfl) 1 _ rfl) hne _) hne _
    have hn2:W7.heap[s2]? = some (.cells #[.int .i64 (-1),.int .i64 0] 77 (0,0)):=by rw [hnew];exact zb (cs:=#[.int .i64 (-1),.int .i64 (Xb l1 Ma).f1]) (zb (cs:=#[.int .i64 (Xb l1 Ma).f0,.int .i64 (Xb l1 Ma).f1]) (Tc (p:=⟨s1,1,none⟩) (Tc (p:=⟨s1,0,none⟩) (hm2) eF _) eF _) 0 _ rfl) 1 _ rfl
    have hz0:=HZ.out
    have HB:ja (Below W.heap.size W W7):=⟨by rw [hnew];exact ((((HB.out).setCell (by simp;omega) _).setCell (by simp;omega) _).setCell (by simp;omega) _).setCell (by simp;omega) _⟩
    have HR:=ja.mk (Yf HR.out hkk (by rintro (e|e) <;> omega))
    have HX:=ja.mk (Yf HX.out hkk (by rintro (e|e) <;> omega))
    clear hz0 hkk hnew Po hm2 cw bw iA gA Ex Dx CF BF hx0 hx1 Ek jk Dk Um zm hr0 Mn nD mD Xl Wl Zr Yr
    have Po:=Ds
    have hm2:=hn2
    clear Ds hn2
    have hr0:=(ga HR.out 0).trans rfl
    have Mn:=(ga HR.out 1).trans rfl
    have nD:=(ga HR.out 2).trans rfl
    have mD:=(ga HR.out 3).trans rfl
    have Xl:=aa HR.out 0
    have Wl:=aa HR.out 1
    have Zr:=aa HR.out 2
    have Yr:=aa HR.out 3
    have hx0:=(ga HX.out 0).trans rfl
    have hx1:=(ga HX.out 1).trans rfl
    have Ek:=(ga HX.out 2).trans rfl
    have jk:=(ga HX.out 3).trans rfl
    have Dk:=(ga HX.out 4).trans rfl
    have Um:=(ga HX.out 5).trans rfl
    have zm:=(ga HX.out 6).trans rfl
    have cw:=(ga Po 0).trans rfl
    have bw:=(ga Po 1).trans rfl
    have iA:=aa Po 0
    have gA:=aa Po 1
    have Ex:=(ga hm2 0).trans rfl
    have Dx:=(ga hm2 1).trans rfl
    have CF:=aa hm2 0
    have BF:=aa hm2 1
    go_wp2
    have hz:=HZ.out
    refine bodyPost_ret (results_cell_row rfl _ _ (W.heap.size + 1) 103 #[.int .i64 ke,.int .i64 ((Xb l1 Ma).f0),.int .i64 ((-1)),.int .i64 (wrap64 (Xb l1 Ma).f1)] (0,0) _ rfl ?_ Try.underlying103 rfl (by kernel_rfl)) rfl ?_
    ·exact zb (cs:=#[.int .i64 ke,.int .i64 ((Xb l1 Ma).f0),.int .i64 ((-1)),.int .i64 0]) (zb (cs:=#[.int .i64 ke,.int .i64 ((Xb l1 Ma).f0),.int .i64 0,.int .i64 0]) (zb (cs:=#[.int .i64 ke,.int .i64 0,.int .i64 0,.int .i64 0]) (zb (cs:=#[.int .i64 0,.int .i64 0,.int .i64 0,.int .i64 0]) (by repeat (first|exact HR.out|refine Tc ?_ (by simp;omega) _)) 0 _ rfl) 1 _ rfl) 2 _ rfl) 3 _ rfl
    ·exact ⟨rfl,by repeat (first|exact HB.out|apply ia|apply ua|apply qa|refine Aa ?_ (by first|omega|(simp;done)|(simp;omega)))⟩
   ·rw [if_neg hc] at h
    cases h
    have hcb:decide ((-1) > (Xb l1 Ma).f0)=false:=decide_eq_false hc
    go_wp2
    have hz:=HZ.out
    refine bodyPost_ret (results_cell_row rfl _ _ (W.heap.size + 1) 103 #[.int .i64 ke,.int .i64 ((-1)),.int .i64 ((Xb l1 Ma).f0),.int .i64 (wrap64 (Xb l1 Ma).f1)] (0,0) _ rfl ?_ Try.underlying103 rfl (by kernel_rfl)) rfl ?_
    ·exact zb (cs:=#[.int .i64 ke,.int .i64 ((-1)),.int .i64 ((Xb l1 Ma).f0),.int .i64 0]) (zb (cs:=#[.int .i64 ke,.int .i64 ((-1)),.int .i64 0,.int .i64 0]) (zb (cs:=#[.int .i64 ke,.int .i64 0,.int .i64 0,.int .i64 0]) (zb (cs:=#[.int .i64 0,.int .i64 0,.int .i64 0,.int .i64 0]) (by repeat (first|exact HR.out|refine Tc ?_ (by simp;omega) _)) 0 _ rfl) 1 _ rfl) 2 _ rfl) 3 _ rfl
    ·exact ⟨rfl,by repeat (first|exact HB.out|apply ia|apply ua|apply qa|refine Aa ?_ (by first|omega|(simp;done)|(simp;omega)))⟩
theorem qf.calls (k:Nat) (Yc:Int) (Pa:Int) (Oa:Int) (Ma:Int) (Vc:Int) (ke:Int) (Le:ByteArray) (A1:Option Addr) (c1:Nat) (l1:List ko) (r1:Int) (r2:Int) (r3:Int) (r4:Int) (W:World) (Mn:Kd.C GG W A1 l1.length l1) (XI:l1.length ≤ c1) (h:qf.f k Yc Pa Oa Ma Vc ke Le l1=some (r1,r2,r3,r4)) :
  Calls Try.prog 77 #[.agg #[.int .i64 Yc,.int .i64 Pa,.int .i64 Oa,.int .i64 Ma,.int .i64 Vc,.int .i64 ke,.string Le],.slice A1 l1.length c1] W fun e w'=>e = .returned (.agg #[.int .i64 r1,.int .i64 r2,.int .i64 r3,.int .i64 r4])∧Below W.heap.size W w':=by
 unfold qf.f at h
 by_cases ho:Yc=3 ∨ Yc=4
 ·rw [if_pos ho] at h
  by_cases hi:(0 ≤ Ma∧Ma < (l1.length:Int))∧Oa < (l1.length:Int)
  ·rw [if_pos hi] at h
   have ho':(Yc != 3)=false ∨ ((Yc != 3)=true∧(Yc != 4)=false):=by
    rcases ho with ho|ho
    ·exact Or.inl (by simp [ho])
    ·exact Or.inr ⟨by simp [ho],by simp [ho]⟩
   exact ME _ _ _ _ _ _ _ _ _ _ _ _ _ _ _ ho' Mn hi.1.1 hi.1.2 hi.2 h
  ·rw [if_neg hi] at h
   cases h
 ·rw [if_neg ho] at h
  cases h
  exact EJ _ _ _ _ _ _ _ _ _ _ _ (by simp;exact fun e=>ho (Or.inl e)) (by simp;exact fun e=>ho (Or.inr e))
attribute [local go_sem] Jk Gk ym xm Gj Fj Ik Fk
mutual
def qc.j0:Nat→Int→List (af)→Bool→List Int→Int→Int→Int→List (Dh)→Option ((List (af)))
 | 0,_,_,_,_,_,_,_,_=>none
 | k + 1,x1,x5,x22,x102000,x102001,x102002,x102003,x102004=>if x22=true then (some x5) else ((mc.f k x102003).bind fun t107=>(if 0 ≤ x1 then (if x1 < (x102004.length:Int) then (qc.l0 k x5 t107 x102003 ((Ua x102004 x1).f0) 0) else (none)) else (none)))
def qc.l0:Nat→List (af)→List (ko)→Int→List (yf)→Int→Option ((List (af)))
 | 0,_,_,_,_,_=>none
 | k + 1,x5,x6,x7,x8,x9=>if x9 < (x8.length:Int) then (if 0 ≤ x9 then ((qf.f k ((Ea x8 x9).f0) ((Ea x8 x9).f1) ((Ea x8 x9).f2) ((Ea x8 x9).f3) ((Ea x8 x9).f4) ((Ea x8 x9).f5) ((Ea x8 x9).f6) x6).bind fun dJ=>(if x5.length < 4398046511104 then ((Mc.f k ((Ea x8 x9).f0) ((Ea x8 x9).f1) ((Ea x8 x9).f2) ((Ea x8 x9).f3) ((Ea x8 x9).f4) ((Ea x8 x9).f5) ((Ea x8 x9).f6) x6 x7).bind fun dx=>(qc.l0 k (x5 ++ [(⟨dJ.1,dJ.2.1,dJ.2.2.1,dJ.2.2.2⟩:af)]) dx.2 dx.1 x8 (wrap64 (x9 + 1)))) else (none))) else (none)) else (some x5)
end
def qc.f (k:Nat) (Ta:List Int) (Pa:Int) (Oa:Int) (Ma:Int) (Ra:List (Dh)) (a1:Int):Option ((List (af))):=(some (([]:List (af)):List (af))).bind fun bf=>((Va.f k Ta Pa Oa Ma Ra).bind fun t105=>(if t105=true then ((Za.f a1 0 (wrap64 ((Ra.length:Int) - 1))).bind fun t106=>(qc.j0 k a1 bf (!t106) Ta Pa Oa Ma Ra)) else (qc.j0 k a1 bf true Ta Pa Oa Ma Ra)))
theorem qc.Qd:∀ k,(∀ y0 y1 y2 y3 y4 y5 y6 y7,Nb (qc.j0 k y0 y1 y2 y3 y4 y5 y6 y7) (qc.j0 (k + 1) y0 y1 y2 y3 y4 y5 y6 y7))∧(∀ y0 y1 y2 y3 y4,Nb (qc.l0 k y0 y1 y2 y3 y4) (qc.l0 (k + 1) y0 y1 y2 y3 y4))
 | 0=>⟨fun _ _ _ _ _ _ _ _ r h=>by simp [qc.j0] at h,fun _ _ _ _ _ r h=>by simp [qc.l0] at h⟩
 | k + 1=>by
  obtain ⟨Ff,ih1⟩:=qc.Qd k
  refine ⟨?_,?_⟩
  ·intro y0 y1 y2 y3 y4 y5 y6 y7
   unfold qc.j0
   repeat' first
   | (with_reducible exact Ff _ _ _ _ _ _ _ _)
   | (with_reducible exact ih1 _ _ _ _ _)
   | (with_reducible exact Va.mono _ _ _ _ _ _)
   | (with_reducible exact qf.mono _ _ _ _ _ _ _ _ _)
   | (with_reducible exact mc.mono _ _)
   | (with_reducible exact Mc.mono _ _ _ _ _ _ _ _ _ _)
   | (with_reducible exact Nb.refl _)
   | (with_reducible exact Nb.none _)
   | (with_reducible refine Nb.ite ?_ ?_)
   | (with_reducible refine Nb.bind ?_ (fun _=>?_))
   | exact Ff _ _ _ _ _ _ _ _
   | exact ih1 _ _ _ _ _
   | exact Va.mono _ _ _ _ _ _
   | exact qf.mono _ _ _ _ _ _ _ _ _
   | exact mc.mono _ _
   | exact Mc.mono _ _ _ _ _ _ _ _ _ _
   | exact Nb.none _
   | refine Nb.ite ?_ ?_
   | refine Nb.bind ?_ (fun _=>?_)
  ·intro y0 y1 y2 y3 y4
   unfold qc.l0
   repeat' first
   | (with_reducible exact Ff _ _ _ _ _ _ _ _)
   | (with_reducible exact ih1 _ _ _ _ _)
   | (with_reducible exact Va.mono _ _ _ _ _ _)
   | (with_reducible exact qf.mono _ _ _ _ _ _ _ _ _)
   | (with_reducible exact mc.mono _ _)
   | (with_reducible exact Mc.mono _ _ _ _ _ _ _ _ _ _)
   | (with_reducible exact Nb.refl _)
   | (with_reducible exact Nb.none _)
   | (with_reducible refine Nb.ite ?_ ?_)
   | (with_reducible refine Nb.bind ?_ (fun _=>?_))
   | exact Ff _ _ _ _ _ _ _ _
   | exact ih1 _ _ _ _ _
   | exact Va.mono _ _ _ _ _ _
   | exact qf.mono _ _ _ _ _ _ _ _ _
   | exact mc.mono _ _
   | exact Mc.mono _ _ _ _ _ _ _ _ _ _
   | exact Nb.none _
   | refine Nb.ite ?_ ?_
   | refine Nb.bind ?_ (fun _=>?_)
theorem qc.mono:∀ a0 a1 a2 a3 a4 a5 k,Nb (qc.f k a0 a1 a2 a3 a4 a5) (qc.f (k + 1) a0 a1 a2 a3 a4 a5):=by
 intro a0 a1 a2 a3 a4 a5 k
 obtain ⟨Ff,ih1⟩:=qc.Qd k
 unfold qc.f
 repeat' first
   | (with_reducible exact Ff _ _ _ _ _ _ _ _)
   | (with_reducible exact ih1 _ _ _ _ _)
   | (with_reducible exact Va.mono _ _ _ _ _ _)
   | (with_reducible exact qf.mono _ _ _ _ _ _ _ _ _)
   | (with_reducible exact mc.mono _ _)
   | (with_reducible exact Mc.mono _ _ _ _ _ _ _ _ _ _)
   | (with_reducible exact Nb.refl _)
   | (with_reducible exact Nb.none _)
   | (with_reducible refine Nb.ite ?_ ?_)
   | (with_reducible refine Nb.bind ?_ (fun _=>?_))
   | exact Ff _ _ _ _ _ _ _ _
   | exact ih1 _ _ _ _ _
   | exact Va.mono _ _ _ _ _ _
   | exact qf.mono _ _ _ _ _ _ _ _ _
   | exact mc.mono _ _
   | exact Mc.mono _ _ _ _ _ _ _ _ _ _
   | exact Nb.none _
   | refine Nb.ite ?_ ?_
   | refine Nb.bind ?_ (fun _=>?_)
theorem qc.calls (k:Nat) (Eb:Option Addr) (Db:Nat) (Ta:List Int) (Pa:Int) (Oa:Int) (Ma:Int) (yc:Option Addr) (Zb:Nat) (Ra:List (Dh)) (a1:Int) (r:List (af)) (w:World) (Kf:Kd.C (Kd.int .i64) w Eb Ta.length Ta) (Gf:Ta.length ≤ Db) (Bg:Kd.C Tp w yc Ra.length Ra) (Jg:Ra.length ≤ Zb) (h:qc.f k Ta Pa Oa Ma Ra a1=some r) :
  Calls Try.prog 34 #[.agg #[.slice Eb Ta.length Db,.int .i64 Pa,.int .i64 Oa,.int .i64 Ma,.slice yc Ra.length Zb],.int .i64 a1] w fun e w'=>∃ v0_:Value,e = .returned (v0_)∧Kd.R Dj 103 w' w.heap.size (fun _=>True) v0_ r∧Below w.heap.size w w':=by
 have vB:=Try.underlying30
 have MD:=Try.underlying70
 have Uf:=ja.mk Kf
 have ig:=ja.mk Gf
 clear Kf Gf
 have Zg:=ja.mk Bg
 have Li:=ja.mk Jg
 clear Bg Jg
 have HB:=ja.mk (Below.refl w.heap.size w)
 have H:((some (([]:List (af)):List (af))).bind fun bf=>((Va.f k Ta Pa Oa Ma Ra).bind fun t105=>(if t105=true then ((Za.f a1 0 (wrap64 ((Ra.length:Int) - 1))).bind fun t106=>(qc.j0 k a1 bf (!t106) Ta Pa Oa Ma Ra)) else (qc.j0 k a1 bf true Ta Pa Oa Ma Ra))))=some r:=h
 clear h
 obtain ⟨bf,hy102⟩:∃ y_:List (af),y_=(([]:List (af))):=⟨_,rfl⟩
 replace H:((Va.f k Ta Pa Oa Ma Ra).bind fun t105=>(if t105=true then ((Za.f a1 0 (wrap64 ((Ra.length:Int) - 1))).bind fun t106=>(qc.j0 k a1 bf (!t106) Ta Pa Oa Ma Ra)) else (qc.j0 k a1 bf true Ta Pa Oa Ma Ra)))=some r:=by first|(rw [hy102];with_reducible exact H)|(have Vh:=(Option.bind_some _ _).symm.trans H;rw [hy102];with_reducible exact Vh)|(have Vh:=(Option.bind_some _ _).symm.trans H;with_reducible exact Vh)|with_reducible exact H|(rw [hy102];exact H)|exact H
 have KA:=ja.mk hy102
 clear hy102
 have yQ:=ja.mk H
 clear H
 go_enter Try.func34,Try.ntmps34
 go_upto_region 2 with (first|((with_reducible refine Pb (N:=2) rfl ?_);(try (refine Wg (by rfl) ?_;dsimp only));refine Kb ?hg (N:=2) ?hd (cs:=#[.slice Eb Ta.length Db,.int .i64 Pa,.int .i64 Oa,.int .i64 Ma,.slice yc Ra.length Zb]) (t:=30) ?hr ?_;(case hd=>rfl);(case hg=>rfl);(case hr=>first|(go_simp;done)|(go_simp;rfl));intro Da hg w4 Yb hb;have Qb:=ja.mk (Na (by repeat (first|(with_reducible first|exact HB.out|apply qa|apply ia|apply ua)|exact HB.out)) hb);have uc:=ja.mk (Yb);have Qc:=ja.mk ((by rw [hg];exact (Qa (by repeat (first|(with_reducible first|exact HB.out|apply qa|apply ia|apply ua)|exact HB.out))):w.heap.size ≤ Da));have Td:=ja.mk ((by rw [hg];exact (Qa (by repeat (first|(with_reducible first|exact HB.out|apply qa|apply ia|apply ua)|exact HB.out))):w.heap.size ≤ Da));clear HB;have HB:=Qb;have za:=uc;have Vf:=Qc;have Wa:=Td;clear Qb uc Qc Td hb Yb hg)|((with_reducible refine Pb (N:=10) rfl ?_);(try (refine Wg (by rfl) ?_;dsimp only));refine Kd.JA Dj _ 103 ?hg (N:=10) ?hd (xs:=([]:List (af))) (inner:=[]) (ok:=fun _=>True) (Xo:=fun _=>True) ?hr ?hp (fun _ hk=>hk) trivial (Below.refl _ _) (Nat.le_refl _) (by simp) ?_;(case hd=>rfl);(case hg=>rfl);(case hr=>first|(go_simp;done)|(go_simp;rfl));(case hp=>exact (Wf.none _ _));intro uK w5 gL hb fF yo;clear fF yo;(first|rw [← KA.out] at gL|(simp only [Int.reduceToNat] at gL;rw [← KA.out] at gL));have Qb:=ja.mk (Kd.ri gL (Qa (by repeat (first|(with_reducible first|exact HB.out|apply qa|apply ia|apply ua|refine Aa ?_ Wa.out)|exact HB.out))));have uc:=ja.mk (Ya (g:=Da) (o:=.cells #[.slice Eb Ta.length Db,.int .i64 Pa,.int .i64 Oa,.int .i64 Ma,.slice yc Ra.length Zb] 30 (0,0)) (by (with_reducible repeat (first|refine Ga ?_ _|refine Ia ?_|refine Fa ?_ _));exact za.out) hb);have Qc:=ja.mk (Na (by repeat (first|(with_reducible first|exact HB.out|apply qa|apply ia|apply ua|refine Aa ?_ Wa.out)|exact HB.out)) hb);clear za HB;have Xr:=Qb;have za:=uc;have HB:=Qc;clear Qb uc Qc hb gL))
 (try simp only [Act.put,List.setIfInBounds_toArray,List.set_cons_zero,List.set_cons_succ])
 go_cut [22] (fun v22 wc=>∃ (kq:Nat) (wG:Bool),v22 = .bool wG∧ja (qc.j0 kq a1 bf wG Ta Pa Oa Ma Ra=some r)∧ja (kq ≤ k)∧ja (Kd.R Dj 103 wc w.heap.size (fun _=>True) uK bf)∧ja (wc.heap[Da]? = some (.cells #[(.slice Eb Ta.length Db),.int .i64 Pa,.int .i64 Oa,.int .i64 Ma,(.slice yc Ra.length Zb)] 30 (0,0)))∧ja (Below w.heap.size w wc))
 case first =>
  have H:=yQ.out
  clear yQ
  replace H:=Option.bind_eq_some_iff.mp H
  obtain ⟨t105,Gx,H⟩:=H
  replace H:(if t105=true then ((Za.f a1 0 (wrap64 ((Ra.length:Int) - 1))).bind fun t106=>(qc.j0 k a1 bf (!t106) Ta Pa Oa Ma Ra)) else (qc.j0 k a1 bf true Ta Pa Oa Ma Ra))=some r:=H
  have A7:=ja.mk Gx
  clear Gx
  by_cases c8:t105=true
  ·subst c8
   have H1:((Za.f a1 0 (wrap64 ((Ra.length:Int) - 1))).bind fun t106=>(qc.j0 k a1 bf (!t106) Ta Pa Oa Ma Ra))=some r:=by rw [if_pos rfl] at H;exact H
   clear H
   have H:=H1
   clear H1
   replace H:=Option.bind_eq_some_iff.mp H
   obtain ⟨t106,A90,H⟩:=H
   replace H:(qc.j0 k a1 bf (!t106) Ta Pa Oa Ma Ra)=some r:=H
   have A9:=ja.mk A90
   clear A90
   have H':=ja.mk H
   clear H
   have Ak:w5.cell? ⟨Da,0,none⟩=some (.slice Eb Ta.length Db):=(ga za.out 0).trans rfl
   have zk:w5.cell? ⟨Da,1,none⟩=some (.int .i64 Pa):=(ga za.out 1).trans rfl
   have xk:w5.cell? ⟨Da,2,none⟩=some (.int .i64 Oa):=(ga za.out 2).trans rfl
   have wk:w5.cell? ⟨Da,3,none⟩=some (.int .i64 Ma):=(ga za.out 3).trans rfl
   have jl:w5.cell? ⟨Da,4,none⟩=some (.slice yc Ra.length Zb):=(ga za.out 4).trans rfl
   have vk:=aa za.out 0
   have uk:=aa za.out 1
   have qk:=aa za.out 2
   have nk:=aa za.out 3
   have Wk:=aa za.out 4
   go_wp2_with (first|((with_reducible refine xb (f:=53) rfl ?_);refine qd (some 12) rfl rfl Try.func53 (by kernel_rfl) rfl #[.agg #[.slice Eb Ta.length Db,.int .i64 Pa,.int .i64 Oa,.int .i64 Ma,.slice yc Ra.length Zb]] rfl (by (try simp only [List.map_toArray,List.map_cons,List.map_nil]);first|done|rfl|(simp only [List.length_drop,List.length_take];rfl)) ?_;(with_reducible refine (Va.calls k _ _ Ta Pa Oa Ma _ _ Ra true _ ?side1 ?side2 ?side3 ?side4 A7.out).mono ?_);(case side1=>repeat (first|exact (Kd.Mb Uf.out HB.out)|(with_reducible refine Kd.Lc ?_ _)|(with_reducible refine Kd.Jc ?_ _)|(with_reducible refine Kd.Ed ?_)));(case side2=>exact ig.out);(case side3=>repeat (first|exact (Kd.Mb Zg.out HB.out)|(with_reducible refine Kd.Lc ?_ _)|(with_reducible refine Kd.Jc ?_ _)|(with_reducible refine Kd.Ed ?_)));(case side4=>exact Li.out);rintro e Ei ⟨rfl,hb⟩;refine ⟨_,rfl,?_⟩;have Qb:=ja.mk (Kd.Ue (by (with_reducible repeat (first|apply Kd.Sd|apply Kd.ee|apply Kd.Ie));exact Xr.out) hb);have uc:=ja.mk (Ya (g:=Da) (o:=.cells #[.slice Eb Ta.length Db,.int .i64 Pa,.int .i64 Oa,.int .i64 Ma,.slice yc Ra.length Zb] 30 (0,0)) (by (with_reducible repeat (first|refine Ga ?_ _|refine Ia ?_|refine Fa ?_ _));exact za.out) hb);have Qc:=ja.mk (Na (by repeat (first|(with_reducible first|exact HB.out|apply qa|apply ia|apply ua|refine Aa ?_ Wa.out)|exact HB.out)) hb);clear Xr za HB;have Xr:=Qb;have za:=uc;have HB:=Qc;clear Qb uc Qc;(try clear hb);(try clear hb2);(try clear hk);(try clear hi);have Pr:Ei.cell? ⟨Da,0,none⟩=some (.slice Eb Ta.length Db):=(ga za.out 0).trans rfl;have Nr:Ei.cell? ⟨Da,1,none⟩=some (.int .i64 Pa):=(ga za.out 1).trans rfl;have Mr:Ei.cell? ⟨Da,2,none⟩=some (.int .i64 Oa):=(ga za.out 2).trans rfl;have Lr:Ei.cell? ⟨Da,3,none⟩=some (.int .i64 Ma):=(ga za.out 3).trans rfl;have Kr:Ei.cell? ⟨Da,4,none⟩=some (.slice yc Ra.length Zb):=(ga za.out 4).trans rfl;have cr:=aa za.out 0;have br:=aa za.out 1;have Zq:=aa za.out 2;have Yq:=aa za.out 3;have Xq:=aa za.out 4)|(go_at_call 54;(with_reducible refine (Za.calls a1 0 (wrap64 ((Ra.length:Int) - 1)) t106 _ A9.out).mono ?_);rintro e w' ⟨rfl,⟨nd,rfl⟩⟩))
   go_meet
   case rel=>exact ⟨_,(!t106),(by first|rfl|(simp;done)|(simp [*];done)),H',⟨by first|omega|exact Nat.le_refl _⟩,⟨by (with_reducible repeat (first|apply Kd.Sd|apply Kd.ee|apply Kd.Ie));exact Xr.out⟩,⟨by (with_reducible repeat (first|refine Ga ?_ _|refine Ia ?_|refine Fa ?_ _));exact za.out⟩,⟨by repeat (first|(with_reducible first|exact HB.out|apply qa|apply ia|apply ua|refine Aa ?_ Wa.out)|exact HB.out)⟩⟩
  ·replace c8:=Bool.eq_false_iff.mpr c8
   subst c8
   have H1:(qc.j0 k a1 bf true Ta Pa Oa Ma Ra)=some r:=by rw [if_neg (show ¬ (false=true) by decide)] at H;exact H
   clear H
   have H:=H1
   clear H1
   have H':=ja.mk H
   clear H
   have Qj:w5.cell? ⟨Da,0,none⟩=some (.slice Eb Ta.length Db):=(ga za.out 0).trans rfl
   have Pj:w5.cell? ⟨Da,1,none⟩=some (.int .i64 Pa):=(ga za.out 1).trans rfl
   have Xn:w5.cell? ⟨Da,2,none⟩=some (.int .i64 Oa):=(ga za.out 2).trans rfl
   have Wn:w5.cell? ⟨Da,3,none⟩=some (.int .i64 Ma):=(ga za.out 3).trans rfl
   have Vn:w5.cell? ⟨Da,4,none⟩=some (.slice yc Ra.length Zb):=(ga za.out 4).trans rfl
   have Oj:=aa za.out 0
   have Mj:=aa za.out 1
   have Sn:=aa za.out 2
   have Rn:=aa za.out 3
   have Qn:=aa za.out 4
   go_wp2_with (first|((with_reducible refine xb (f:=53) rfl ?_);refine qd (some 12) rfl rfl Try.func53 (by kernel_rfl) rfl #[.agg #[.slice Eb Ta.length Db,.int .i64 Pa,.int .i64 Oa,.int .i64 Ma,.slice yc Ra.length Zb]] rfl (by (try simp only [List.map_toArray,List.map_cons,List.map_nil]);first|done|rfl|(simp only [List.length_drop,List.length_take];rfl)) ?_;(with_reducible refine (Va.calls k _ _ Ta Pa Oa Ma _ _ Ra false _ ?side1 ?side2 ?side3 ?side4 A7.out).mono ?_);(case side1=>repeat (first|exact (Kd.Mb Uf.out HB.out)|(with_reducible refine Kd.Lc ?_ _)|(with_reducible refine Kd.Jc ?_ _)|(with_reducible refine Kd.Ed ?_)));(case side2=>exact ig.out);(case side3=>repeat (first|exact (Kd.Mb Zg.out HB.out)|(with_reducible refine Kd.Lc ?_ _)|(with_reducible refine Kd.Jc ?_ _)|(with_reducible refine Kd.Ed ?_)));(case side4=>exact Li.out);rintro e rA ⟨rfl,hb⟩;refine ⟨_,rfl,?_⟩;have Qb:=ja.mk (Kd.Ue (by (with_reducible repeat (first|apply Kd.Sd|apply Kd.ee|apply Kd.Ie));exact Xr.out) hb);have uc:=ja.mk (Ya (g:=Da) (o:=.cells #[.slice Eb Ta.length Db,.int .i64 Pa,.int .i64 Oa,.int .i64 Ma,.slice yc Ra.length Zb] 30 (0,0)) (by (with_reducible repeat (first|refine Ga ?_ _|refine Ia ?_|refine Fa ?_ _));exact za.out) hb);have Qc:=ja.mk (Na (by repeat (first|(with_reducible first|exact HB.out|apply qa|apply ia|apply ua|refine Aa ?_ Wa.out)|exact HB.out)) hb);clear Xr za HB;have Xr:=Qb;have za:=uc;have HB:=Qc;clear Qb uc Qc;(try clear hb);(try clear hb2);(try clear hk);(try clear hi)))
   go_meet
   case rel=>exact ⟨_,(true),(by first|rfl|(simp;done)|(simp [*];done)),H',⟨by first|omega|exact Nat.le_refl _⟩,⟨by (with_reducible repeat (first|apply Kd.Sd|apply Kd.ee|apply Kd.Ie));exact Xr.out⟩,⟨by (with_reducible repeat (first|refine Ga ?_ _|refine Ia ?_|refine Fa ?_ _));exact za.out⟩,⟨by repeat (first|(with_reducible first|exact HB.out|apply qa|apply ia|apply ua|refine Aa ?_ Wa.out)|exact HB.out)⟩⟩
 case rest =>
  clear yQ
  try clear p2
  try clear c3
  try clear c5
  try clear p6
  try clear c8
  try clear Ak
  try clear zk
  try clear xk
  try clear wk
  try clear jl
  try clear Pr
  try clear Nr
  try clear Mr
  try clear Lr
  try clear Kr
  try clear Qj
  try clear Pj
  try clear Xn
  try clear Wn
  try clear Vn
  try clear vk
  try clear uk
  try clear qk
  try clear nk
  try clear Wk
  try clear cr
  try clear br
  try clear Zq
  try clear Yq
  try clear Xq
  try clear Oj
  try clear Mj
  try clear Sn
  try clear Rn
  try clear Qn
  obtain ⟨kq,wG,rfl,HA,HJ2,uu,za,HB⟩:=hcut
  cases kq with
  | zero=>exact absurd HA.out (by simp [qc.j0])
  | succ kj2 =>
   have H:=HA.out
   clear HA
   simp only [qc.j0] at H
   by_cases c15:wG=true
   ·subst c15
    have H1:(some bf)=some r:=by rw [if_pos rfl] at H;exact H
    clear H
    have H:=H1
    clear H1
    obtain rfl:=Option.some.inj H
    go_wp2
    go_ret
    exact ⟨_,by first|rfl|(simp [La,Ka] <;> rfl)|(simp [*,La,Ka] <;> rfl),by (with_reducible repeat (first|apply Kd.Sd|apply Kd.ee|apply Kd.Ie));exact uu.out,by repeat (first|(with_reducible first|exact HB.out|apply qa|apply ia|apply ua|refine Aa ?_ Wa.out)|exact HB.out)⟩
   ·replace c15:=Bool.eq_false_iff.mpr c15
    subst c15
    have H1:((mc.f kj2 Ma).bind fun t107=>(if 0 ≤ a1 then (if a1 < (Ra.length:Int) then (qc.l0 kj2 bf t107 Ma ((Ua Ra a1).f0) 0) else (none)) else (none)))=some r:=by rw [if_neg (show ¬ (false=true) by decide)] at H;exact H
    clear H
    have H:=H1
    clear H1
    replace H:=Option.bind_eq_some_iff.mp H
    obtain ⟨t107,Y4,H⟩:=H
    replace H:(if 0 ≤ a1 then (if a1 < (Ra.length:Int) then (qc.l0 kj2 bf t107 Ma ((Ua Ra a1).f0) 0) else (none)) else (none))=some r:=H
    have A16:=ja.mk Y4
    clear Y4
    by_cases c17:0 ≤ a1
    ·rw [if_pos c17] at H
     have jw:decide (0 ≤ a1)=true:=decide_eq_true c17
     clear c17
     by_cases c18:a1 < (Ra.length:Int)
     ·rw [if_pos c18] at H
      have iw:decide (a1 < (Ra.length:Int))=true:=decide_eq_true c18
      clear c18
      have H':=ja.mk H
      clear H
      have LC:wc.cell? ⟨Da,0,none⟩=some (.slice Eb Ta.length Db):=(ga za.out 0).trans rfl
      have KC:wc.cell? ⟨Da,1,none⟩=some (.int .i64 Pa):=(ga za.out 1).trans rfl
      have JC:wc.cell? ⟨Da,2,none⟩=some (.int .i64 Oa):=(ga za.out 2).trans rfl
      have IC:wc.cell? ⟨Da,3,none⟩=some (.int .i64 Ma):=(ga za.out 3).trans rfl
      have FC:wc.cell? ⟨Da,4,none⟩=some (.slice yc Ra.length Zb):=(ga za.out 4).trans rfl
      have WB:=aa za.out 0
      have VB:=aa za.out 1
      have UB:=aa za.out 2
      have TB:=aa za.out 3
      have SB:=aa za.out 4
      go_wp2_with (first|((with_reducible refine xb (f:=76) rfl ?_);refine qd (some 26) rfl rfl Try.func76 (by kernel_rfl) rfl #[.int .i64 Ma] rfl (by (try simp only [List.map_toArray,List.map_cons,List.map_nil]);first|done|rfl|(simp only [List.length_drop,List.length_take];rfl)) ?_;(with_reducible refine (mc.calls kj2 Ma t107 _ A16.out).mono ?_);rintro e dV ⟨zV,rfl,Am,hb⟩;refine ⟨_,rfl,?_⟩;have Qb:=ja.mk (Kd.Ue (by (with_reducible repeat (first|apply Kd.Sd|apply Kd.ee|apply Kd.Ie));exact uu.out) hb);have uc:=ja.mk (Kd.ri Am (Qa (by repeat (first|(with_reducible first|exact HB.out|apply qa|apply ia|apply ua|refine Aa ?_ Wa.out)|exact HB.out))));have Qc:=ja.mk (Ya (g:=Da) (o:=.cells #[.slice Eb Ta.length Db,.int .i64 Pa,.int .i64 Oa,.int .i64 Ma,.slice yc Ra.length Zb] 30 (0,0)) (by (with_reducible repeat (first|refine Ga ?_ _|refine Ia ?_|refine Fa ?_ _));exact za.out) hb);have Td:=ja.mk (Na (by repeat (first|(with_reducible first|exact HB.out|apply qa|apply ia|apply ua|refine Aa ?_ Wa.out)|exact HB.out)) hb);clear uu za HB;have uu:=Qb;have sJ:=uc;have za:=Qc;have HB:=Td;clear Qb uc Qc Td;(try clear hb);(try clear hb2);(try clear hk);(try clear hi);(try clear Am);have Dr:dV.cell? ⟨Da,0,none⟩=some (.slice Eb Ta.length Db):=(ga za.out 0).trans rfl;have Cr:dV.cell? ⟨Da,1,none⟩=some (.int .i64 Pa):=(ga za.out 1).trans rfl;have EC:dV.cell? ⟨Da,2,none⟩=some (.int .i64 Oa):=(ga za.out 2).trans rfl;have DC:dV.cell? ⟨Da,3,none⟩=some (.int .i64 Ma):=(ga za.out 3).trans rfl;have QI:dV.cell? ⟨Da,4,none⟩=some (.slice yc Ra.length Zb):=(ga za.out 4).trans rfl;have Qq:=aa za.out 0;have Pq:=aa za.out 1;have RB:=aa za.out 2;have QB:=aa za.out 3;have KH:=aa za.out 4;have Ax:0 ≤ (a1:Int):=of_decide_eq_true (by first|(with_reducible assumption)|assumption);have zx:a1 < (Ra.length:Int):=of_decide_eq_true (by first|(with_reducible assumption)|assumption);obtain ⟨Hz,Uw,Iw,XL,Zi,Yi,Xi,Wi,Vi,ep,lp⟩:=Zf Zg.out a1 Ax zx;cases XL;replace Zi:=(HB.out.cell (World.block_lt_of_cell? w _ Zi)).trans Zi;replace Yi:=(HB.out.cell (World.block_lt_of_cell? w _ Yi)).trans Yi;replace Xi:=(HB.out.cell (World.block_lt_of_cell? w _ Xi)).trans Xi;replace Wi:=(HB.out.cell (World.block_lt_of_cell? w _ Wi)).trans Wi;replace Vi:=(HB.out.cell (World.block_lt_of_cell? w _ Vi)).trans Vi;have Pp:=ja.mk lp;have Ky:=ja.mk ep;clear lp ep;replace Ax:=eq_true Ax;replace zx:=eq_true zx))
      go_loopg [5,7,9] kj2 (fun kq v5 v7 v9 w'=>∃ (uD:List (af)) (My:List (ko)) (CE:Int) (ah:Int),v7 = .int .i64 CE∧v9 = .int .i64 ah∧ja (qc.l0 kq uD My CE ((Ua Ra a1).f0) ah=some r)∧ja (kq ≤ kj2)∧ja (Kd.R Dj 103 w' w.heap.size (fun _=>True) v5 uD)∧ja (Kd.R GG 77 w' w.heap.size (fun _=>True) zV My)∧ja (w'.heap[Da]? = some (.cells #[(.slice Eb Ta.length Db),.int .i64 Pa,.int .i64 Oa,.int .i64 Ma,(.slice (some Hz) Ra.length Zb)] 30 (0,0)))∧ja (Below w.heap.size w w'))
      case atStart=>exact ⟨(bf),(t107),(Ma),(0),(by first|rfl|(simp;done)|(simp [*];done)),(by first|rfl|(simp;done)|(simp [*];done)),H',⟨Nat.le_refl _⟩,⟨by (with_reducible repeat (first|apply Kd.Sd|apply Kd.ee|apply Kd.Ie));exact uu.out⟩,⟨by (with_reducible repeat (first|apply Kd.Sd|apply Kd.ee|apply Kd.Ie));exact sJ.out⟩,⟨by (with_reducible repeat (first|refine Ga ?_ _|refine Ia ?_|refine Fa ?_ _));exact za.out⟩,⟨by repeat (first|(with_reducible first|exact HB.out|apply qa|apply ia|apply ua|refine Aa ?_ Wa.out)|exact HB.out)⟩⟩
      case round =>
       clear H'
       try clear c1
       try clear p1
       try clear q1
       try clear hx1
       try clear p2
       try clear c3
       try clear c5
       try clear p6
       try clear c7
       try clear c8
       try clear c11
       try clear p11
       try clear q11
       try clear hx11
       try clear c15
       try clear c17
       try clear jw
       try clear c18
       try clear iw
       try clear Ak
       try clear zk
       try clear xk
       try clear wk
       try clear jl
       try clear Pr
       try clear Nr
       try clear Mr
       try clear Lr
       try clear Kr
       try clear Qj
       try clear Pj
       try clear Xn
       try clear Wn
       try clear Vn
       try clear LC
       try clear KC
       try clear JC
       try clear IC
       try clear FC
       try clear Dr
       try clear Cr
       try clear EC
       try clear DC
       try clear QI
       try clear vk
       try clear uk
       try clear qk
       try clear nk
       try clear Wk
       try clear cr
       try clear br
       try clear Zq
       try clear Yq
       try clear Xq
       try clear Oj
       try clear Mj
       try clear Sn
       try clear Rn
       try clear Qn
       try clear WB
       try clear VB
       try clear UB
       try clear TB
       try clear SB
       try clear Qq
       try clear Pq
       try clear RB
       try clear QB
       try clear KH
       try clear Zi
       try clear Yi
       try clear Xi
       try clear Wi
       try clear Vi
       try clear Ax
       try clear p2
       try clear p6
       try clear zx
       (try clear HA)
       (try clear IM)
       (try clear uu)
       (try clear Hj)
       (try clear za)
       (try clear HB)
       obtain ⟨uD,My,CE,ah,rfl,rfl,HA,IM,uu,Hj,za,HB⟩:=hrel
       cases gk with
       | zero=>exact absurd HA.out (by simp [qc.l0])
       | succ k2 =>
        have H:=HA.out
        clear HA
        simp only [qc.l0] at H
        by_cases c22:ah < (((Ua Ra a1).f0).length:Int)
        ·rw [if_pos c22] at H
         have I2:decide (ah < (((Ua Ra a1).f0).length:Int))=true:=decide_eq_true c22
         clear c22
         by_cases c23:0 ≤ ah
         ·rw [if_pos c23] at H
          have Pai:decide (0 ≤ ah)=true:=decide_eq_true c23
          clear c23
          replace H:=Option.bind_eq_some_iff.mp H
          obtain ⟨⟨t112,t113,t114,t115⟩,R4,H⟩:=H
          replace H:(if uD.length < 4398046511104 then ((Mc.f k2 ((Ea ((Ua Ra a1).f0) ah).f0) ((Ea ((Ua Ra a1).f0) ah).f1) ((Ea ((Ua Ra a1).f0) ah).f2) ((Ea ((Ua Ra a1).f0) ah).f3) ((Ea ((Ua Ra a1).f0) ah).f4) ((Ea ((Ua Ra a1).f0) ah).f5) ((Ea ((Ua Ra a1).f0) ah).f6) My CE).bind fun dx=>(qc.l0 k2 (uD ++ [(⟨t112,t113,t114,t115⟩:af)]) dx.2 dx.1 ((Ua Ra a1).f0) (wrap64 (ah + 1)))) else (none))=some r:=H
          have A24:=ja.mk R4
          clear R4
          by_cases c25:uD.length < 4398046511104
          ·rw [if_pos c25] at H
           have Z2:=ja.mk c25
           clear c25
           obtain ⟨y116,hy116⟩:∃ y_:List (af),y_=(uD ++ [(⟨t112,t113,t114,t115⟩:af)]):=⟨_,rfl⟩
           replace H:((Mc.f k2 ((Ea ((Ua Ra a1).f0) ah).f0) ((Ea ((Ua Ra a1).f0) ah).f1) ((Ea ((Ua Ra a1).f0) ah).f2) ((Ea ((Ua Ra a1).f0) ah).f3) ((Ea ((Ua Ra a1).f0) ah).f4) ((Ea ((Ua Ra a1).f0) ah).f5) ((Ea ((Ua Ra a1).f0) ah).f6) My CE).bind fun dx=>(qc.l0 k2 y116 dx.2 dx.1 ((Ua Ra a1).f0) (wrap64 (ah + 1))))=some r:=by first|(rw [hy116];with_reducible exact H)|(have Vh:=(Option.bind_some _ _).symm.trans H;rw [hy116];with_reducible exact Vh)|(have Vh:=(Option.bind_some _ _).symm.trans H;with_reducible exact Vh)|with_reducible exact H|(rw [hy116];exact H)|exact H
           have X2:=ja.mk hy116
           clear hy116
           replace H:=Option.bind_eq_some_iff.mp H
           obtain ⟨⟨t120,t121⟩,Q4,H⟩:=H
           replace H:(qc.l0 k2 y116 t121 t120 ((Ua Ra a1).f0) (wrap64 (ah + 1)))=some r:=H
           have A26:=ja.mk Q4
           clear Q4
           have H':=ja.mk H
           clear H
           have DS:0 ≤ (ah:Int):=of_decide_eq_true (by first|(with_reducible assumption)|assumption)
           have BS:ah < (((Ua Ra a1).f0).length:Int):=of_decide_eq_true (by first|(with_reducible assumption)|assumption)
           obtain ⟨T2,yaf,tB,sB,rB,qB,oB,nB,mB⟩:=kf Pp.out ah DS BS
           cases yaf
           replace tB:=(HB.out.cell (World.block_lt_of_cell? w _ tB)).trans tB
           replace sB:=(HB.out.cell (World.block_lt_of_cell? w _ sB)).trans sB
           replace rB:=(HB.out.cell (World.block_lt_of_cell? w _ rB)).trans rB
           replace qB:=(HB.out.cell (World.block_lt_of_cell? w _ qB)).trans qB
           replace oB:=(HB.out.cell (World.block_lt_of_cell? w _ oB)).trans oB
           replace nB:=(HB.out.cell (World.block_lt_of_cell? w _ nB)).trans nB
           replace mB:=(HB.out.cell (World.block_lt_of_cell? w _ mB)).trans mB
           replace DS:=eq_true DS
           replace BS:=eq_true BS
           obtain ⟨CQ,bQ,taf⟩:=Kd.Mf Hj.out
           subst taf
           go_wp2_with (first|((with_reducible refine xb (f:=77) rfl ?_);refine qd (some 47) rfl rfl Try.func77 (by kernel_rfl) rfl #[.agg #[.int .i64 ((Ea ((Ua Ra a1).f0) ah).f0),.int .i64 ((Ea ((Ua Ra a1).f0) ah).f1),.int .i64 ((Ea ((Ua Ra a1).f0) ah).f2),.int .i64 ((Ea ((Ua Ra a1).f0) ah).f3),.int .i64 ((Ea ((Ua Ra a1).f0) ah).f4),.int .i64 ((Ea ((Ua Ra a1).f0) ah).f5),.string ((Ea ((Ua Ra a1).f0) ah).f6)],.slice CQ My.length bQ] rfl (by (try simp only [List.map_toArray,List.map_cons,List.map_nil]);first|done|rfl|(simp only [List.length_drop,List.length_take];rfl)) ?_;(with_reducible refine (qf.calls k2 ((Ea ((Ua Ra a1).f0) ah).f0) ((Ea ((Ua Ra a1).f0) ah).f1) ((Ea ((Ua Ra a1).f0) ah).f2) ((Ea ((Ua Ra a1).f0) ah).f3) ((Ea ((Ua Ra a1).f0) ah).f4) ((Ea ((Ua Ra a1).f0) ah).f5) ((Ea ((Ua Ra a1).f0) ah).f6) _ _ My t112 t113 t114 t115 _ ?side1 ?side2 A24.out).mono ?_);(case side1=>repeat (first|exact (Kd.Fc Hj.out).2.2|(with_reducible refine Kd.Lc ?_ _)|(with_reducible refine Kd.Jc ?_ _)|(with_reducible refine Kd.Ed ?_)));(case side2=>exact (Kd.Fc Hj.out).2.1);rintro e xx ⟨rfl,hb⟩;refine ⟨_,rfl,?_⟩;have Qb:=ja.mk (Kd.Ue (by (with_reducible repeat (first|apply Kd.Sd|apply Kd.ee|apply Kd.Ie));exact uu.out) hb);have uc:=ja.mk (Kd.Ue (by (with_reducible repeat (first|apply Kd.Sd|apply Kd.ee|apply Kd.Ie));exact Hj.out) hb);have Qc:=ja.mk (Ya (g:=Da) (o:=.cells #[.slice Eb Ta.length Db,.int .i64 Pa,.int .i64 Oa,.int .i64 Ma,.slice (some Hz) Ra.length Zb] 30 (0,0)) (by (with_reducible repeat (first|refine Ga ?_ _|refine Ia ?_|refine Fa ?_ _));exact za.out) hb);have Td:=ja.mk (Na (by repeat (first|(with_reducible first|exact HB.out|apply qa|apply ia|apply ua|refine Aa ?_ Wa.out)|exact HB.out)) hb);clear uu Hj za HB;have uu:=Qb;have Hj:=uc;have za:=Qc;have HB:=Td;clear Qb uc Qc Td;(try clear hb);(try clear hb2);(try clear hk);(try clear hi))|((with_reducible refine dw (b:=.append) (xs:=#[.tmp 41,.tmp 48]) rfl ?_);(try (refine Wg (by rfl) ?_;dsimp only));at_builtin;refine Kd.Us Dj (w0:=w) w.heap.size rfl (.tmp 41) (.tmp 48) 42 103 (.agg #[(.int .i64 0),(.int .i64 0),(.int .i64 0),(.int .i64 0)]) 32 rfl Try.underlying42 KG rfl (by decide) (by omega) u5 uD (⟨t112,t113,t114,t115⟩:af) [.int .i64 t112,.int .i64 t113,.int .i64 t114,.int .i64 t115] (fun _=>True) (fun _=>False) rfl rfl ?aP (fun _ hk=>hk.elim) ?aF ?aO ?aB ?aS ?aL ?_;(case aP=>exact oq _ _ _ (⟨t112,t113,t114,t115⟩:af));(case aB=>exact (by repeat (first|(with_reducible first|exact HB.out|apply qa|apply ia|apply ua|refine Aa ?_ Wa.out)|exact HB.out)));(case aF=>exact (fun _ _=>trivial));(case aO=>exact (by (with_reducible repeat (first|apply Kd.Sd|apply Kd.ee|apply Kd.Ie));exact uu.out));(case aS=>exact (Qa (by repeat (first|(with_reducible first|exact HB.out|apply qa|apply ia|apply ua|refine Aa ?_ Wa.out)|exact HB.out))));(case aL=>have:=Z2.out;omega);intro Maj sK ho hb hg hat;rw [← X2.out] at ho;have Qb:=ja.mk (Kd.fQ (by (with_reducible repeat (first|apply Kd.Sd|apply Kd.ee|apply Kd.Ie));exact Hj.out) (Kd.Tt (by (with_reducible repeat (first|apply Kd.Sd|apply Kd.ee|apply Kd.Ie));exact uu.out)) (by decide) hg);have uc:=ja.mk (Jw (g:=Da) (o:=.cells #[.slice Eb Ta.length Db,.int .i64 Pa,.int .i64 Oa,.int .i64 Ma,.slice (some Hz) Ra.length Zb] 30 (0,0)) (by (with_reducible repeat (first|refine Ga ?_ _|refine Ia ?_|refine Fa ?_ _));exact za.out) hg (Kd.oE uu.out za.out (by decide)));have Qc:=ja.mk (hb);have Td:=ja.mk (ho);clear Hj za HB uu;have Hj:=Qb;have za:=uc;have HB:=Qc;have rJ:=Td;clear Qb uc Qc Td ho hb hg hat;have CS:0 ≤ (ah:Int):=of_decide_eq_true (by first|(with_reducible assumption)|assumption);have zS:ah < (((Ua Ra a1).f0).length:Int):=of_decide_eq_true (by first|(with_reducible assumption)|assumption);obtain ⟨R2,xaf,lB,kB,jB,iB,gB,fB,eB⟩:=kf Pp.out ah CS zS;obtain rfl:T2=R2:=(by injection xaf);replace lB:=(HB.out.cell (World.block_lt_of_cell? w _ lB)).trans lB;replace kB:=(HB.out.cell (World.block_lt_of_cell? w _ kB)).trans kB;replace jB:=(HB.out.cell (World.block_lt_of_cell? w _ jB)).trans jB;replace iB:=(HB.out.cell (World.block_lt_of_cell? w _ iB)).trans iB;replace gB:=(HB.out.cell (World.block_lt_of_cell? w _ gB)).trans gB;replace fB:=(HB.out.cell (World.block_lt_of_cell? w _ fB)).trans fB;replace eB:=(HB.out.cell (World.block_lt_of_cell? w _ eB)).trans eB;replace CS:=eq_true CS;replace zS:=eq_true zS)|((with_reducible refine xb (f:=78) rfl ?_);refine qd (some 56) rfl rfl Try.func78 (by kernel_rfl) rfl #[.agg #[.int .i64 ((Ea ((Ua Ra a1).f0) ah).f0),.int .i64 ((Ea ((Ua Ra a1).f0) ah).f1),.int .i64 ((Ea ((Ua Ra a1).f0) ah).f2),.int .i64 ((Ea ((Ua Ra a1).f0) ah).f3),.int .i64 ((Ea ((Ua Ra a1).f0) ah).f4),.int .i64 ((Ea ((Ua Ra a1).f0) ah).f5),.string ((Ea ((Ua Ra a1).f0) ah).f6)],.slice CQ My.length bQ,.int .i64 CE] rfl (by (try simp only [List.map_toArray,List.map_cons,List.map_nil]);first|done|rfl|(simp only [List.length_drop,List.length_take];rfl)) ?_;(with_reducible refine (Mc.calls k2 ((Ea ((Ua Ra a1).f0) ah).f0) ((Ea ((Ua Ra a1).f0) ah).f1) ((Ea ((Ua Ra a1).f0) ah).f2) ((Ea ((Ua Ra a1).f0) ah).f3) ((Ea ((Ua Ra a1).f0) ah).f4) ((Ea ((Ua Ra a1).f0) ah).f5) ((Ea ((Ua Ra a1).f0) ah).f6) (fun k_=>some k_=(.slice CQ My.length bQ:Value).ownBlock) (.slice CQ My.length bQ) My CE t120 t121 w _ ?side1 ?side2 A26.out).mono ?_);(case side1=>repeat (first|(with_reducible first|exact HB.out|apply qa|apply ia|apply ua|refine Aa ?_ Wa.out)|exact HB.out));(case side2=>exact Kd.Ut rfl Hj.out);rintro e oK ⟨rfl,hy0,hb,hkp⟩;refine ⟨_,rfl,?_⟩;have Qb:=ja.mk (Kd.gD rfl hy0 (fun k_ e_=>Hj.out.1 k_ e_));have uc:=ja.mk (Yf (by (with_reducible repeat (first|refine Ga ?_ _|refine Ia ?_|refine Fa ?_ _));exact za.out) hkp (fun hs_=>(fun e_=>(Kd.oE Hj.out za.out (by decide)) e_) hs_));have Qc:=ja.mk (Kd.Hg (ok':=fun k_=>True) (Kd.gQ ((Kd.Kz rJ.out (Kd.Tt Hj.out) (by decide))) hkp (fun k_ lV hs_=>(lV.2) hs_)) (fun k_ lV=>trivial));have Td:=ja.mk (hb);clear Hj za rJ HB;have Hj:=Qb;have za:=uc;have rJ:=Qc;have HB:=Td;clear Qb uc Qc Td;(try clear hb);(try clear hkp);(try clear hy0)))
           go_roundg k2
           case measure=>have:=HJ2.out;have:=IM.out;omega
           case rel=>exact ⟨(y116),(t121),(t120),(wrap64 (ah + 1)),(by first|rfl|(simp;done)|(simp [*];done)),(by first|rfl|(simp;done)|(simp [*];done)),H',⟨by have:=HJ2.out;have:=IM.out;omega⟩,⟨by (with_reducible repeat (first|apply Kd.Sd|apply Kd.ee|apply Kd.Ie));exact rJ.out⟩,⟨by (with_reducible repeat (first|apply Kd.Sd|apply Kd.ee|apply Kd.Ie));exact Hj.out⟩,⟨by (with_reducible repeat (first|refine Ga ?_ _|refine Ia ?_|refine Fa ?_ _));exact za.out⟩,⟨by repeat (first|(with_reducible first|exact HB.out|apply qa|apply ia|apply ua|refine Aa ?_ Wa.out)|exact HB.out)⟩⟩
          ·rw [if_neg c25] at H
           exact absurd H (by simp)
         ·rw [if_neg c23] at H
          exact absurd H (by simp)
        ·rw [if_neg c22] at H
         have I2:decide (ah < (((Ua Ra a1).f0).length:Int))=false:=decide_eq_false c22
         clear c22
         obtain rfl:=Option.some.inj H
         go_wp2
         go_ret
         exact ⟨_,by first|rfl|(simp [La,Ka] <;> rfl)|(simp [*,La,Ka] <;> rfl),by (with_reducible repeat (first|apply Kd.Sd|apply Kd.ee|apply Kd.Ie));exact uu.out,by repeat (first|(with_reducible first|exact HB.out|apply qa|apply ia|apply ua|refine Aa ?_ Wa.out)|exact HB.out)⟩
     ·rw [if_neg c18] at H
      exact absurd H (by simp)
    ·rw [if_neg c17] at H
     exact absurd H (by simp)
theorem iJ {α:Type} (d:Kd α) (e:Nat) (w:World) (base:Nat) (h:base ≤ w.heap.size):d.R e (w.alloc (.cells #[] e (0,0))) base (fun _=>True) (.slice (some ⟨w.heap.size,0,none⟩) 0 0) []:=by
 refine ⟨fun _ _=>trivial,[],?_,⟨by simp,fun i p hp=>by simp at hp⟩⟩
 have h2:=World.ownsRow_lit (base:=base) (e:=e) (size:=d.sz) w #[] 0 h (by simp [maxLen]) (by simp)
 simpa using h2
theorem IE {α:Type} {d:Kd α} {e B:Nat} {W w':World} {v:Value} {xs:List α} (h:d.R e w' W.heap.size (fun _=>True) v xs) (hB:B ≤ W.heap.size):d.R e w' B (fun k=>W.heap.size ≤ k∧k < w'.heap.size) v xs :=
 Kd.ri (Kd.Hg (Kd.zj h) (fun _ hk=>⟨hk.2.1,hk.2.2.1⟩)) hB
theorem uS {α:Type} {d:Kd α} {e B:Nat} {W w':World} {v:Value} {xs:List α} (h:Kd.S d e w' W.heap.size (fun _=>True) v xs) (hB:B ≤ W.heap.size):Kd.S d e w' B (fun k=>W.heap.size ≤ k∧k < w'.heap.size) v xs :=
 Kd.eD (Kd.su (Kd.fD h) (fun _ hk=>⟨hk.2.1,hk.2.2.1⟩)) hB
def Rk (xs:List mm) (m:Nat):List Int:=((List.range m).filter fun (j:Nat)=>(jb xs (j:Int)).f0 == -1).map fun (j:Nat)=>(j:Int)
theorem dz (xs:List mm) (m:Nat):(Rk xs m).length ≤ m:=by
 unfold Rk
 rw [List.length_map]
 exact Nat.le_trans (List.length_filter_le _ _) (by simp)
theorem ED (xs:List mm) (m:Nat) (h:(jb xs (m:Int)).f0 = -1):Rk xs (m + 1)=Rk xs m ++ [(m:Int)]:=by
 unfold Rk
 rw [List.range_succ,List.filter_append,List.map_append]
 simp [h]
theorem ZE (xs:List mm) (m:Nat) (h:¬ (jb xs (m:Int)).f0 = -1):Rk xs (m + 1)=Rk xs m:=by
 unfold Rk
 rw [List.range_succ,List.filter_append,List.map_append]
 simp [h]
theorem KV.grown {W W':World} {B kb:Nat} {v:Value} {xs:List mm} {nx:Int} {row:Option Nat} (h:KV W B kb v xs nx) (hg:W.grownBy W' row) {t:Nat} (hr:∀ k,row=some k→∃ cells,W.heap[k]? = some (.cells cells t (0,0))) (h3:t ≠ 74) (h4:t ≠ 79):KV W' B kb v xs nx:=by
 obtain ⟨h0,h1,h2⟩:=h
 have hk:Kept W W' (fun k=>row=some k):=Kept.ji hg (Kept.refl W _) (fun k e=>.inl e)
 refine ⟨h0,Yf h1 hk ?_,Kd.Hg (Kd.dm (Kd.zj h2) hk ?_) (fun _ _=>trivial)⟩
 ·intro hs
  obtain ⟨cells,hc⟩:=hr kb hs
  rw [h1] at hc
  injection hc with hc
  injection hc with _ hc
  exact h3 hc.symm
 ·rintro k ⟨_,_,_,q,hq,cells',hc'⟩ hs
  obtain ⟨cells,hc⟩:=hr k hs
  rw [hc'] at hc
  injection hc with hc
  injection hc with _ hc
  have:q=79:=by simpa [CN,Kd.JG,Kd.pair,Kd.int,Kd.scalar] using hq
  exact h4 (hc.symm.trans this)
def zl.f (k:Nat) (Ta:List Int) (Pa:Int) (Oa:Int) (Ma:Int) (Ra:List (Dh)) (a1:Int):Option (List Int) :=
 (Ab.f k Ta Pa Oa Ma Ra).bind fun t =>
  if t=true then
   if fk a1 0 ((Ra.length:Int) - 1)=true then
    if xo Ma (Ua Ra a1).f0=true then some (Rk (Rg (idents Ma.toNat) Ma (Ua Ra a1).f0).1 Ma.toNat) else none
   else some []
  else some []
theorem zl.mono:∀ a0 a1 a2 a3 a4 a5 k,Nb (zl.f k a0 a1 a2 a3 a4 a5) (zl.f (k + 1) a0 a1 a2 a3 a4 a5):=by
 intro a0 a1 a2 a3 a4 a5 k
 unfold zl.f
 repeat' first
   | (with_reducible exact Ab.mono _ _ _ _ _ _)
   | (with_reducible exact Nb.refl _)
   | (with_reducible exact Nb.none _)
   | (with_reducible apply Nb.bind)
   | split
   | (intro _)
theorem zl.calls (k:Nat) (Eb:Option Addr) (Db:Nat) (Ta:List Int) (Pa:Int) (Oa:Int) (Ma:Int) (yc:Option Addr) (Zb:Nat) (Ra:List (Dh)) (a1:Int) (r:List Int) (w:World) (Kf:Kd.C (Kd.int .i64) w Eb Ta.length Ta) (Gf:Ta.length ≤ Db) (Bg:Kd.C Tp w yc Ra.length Ra) (Jg:Ra.length ≤ Zb) (h:zl.f k Ta Pa Oa Ma Ra a1=some r) :
  Calls Try.prog 19 #[.agg #[.slice Eb Ta.length Db,.int .i64 Pa,.int .i64 Oa,.int .i64 Ma,.slice yc Ra.length Zb],.int .i64 a1] w fun e w'=>∃ v0_:Value,e = .returned (v0_)∧Kd.R (Kd.int .i64) 3 w' w.heap.size (fun _=>True) v0_ r∧Below w.heap.size w w':=by
 unfold zl.f at h
 obtain ⟨t,ht,h⟩:=Option.bind_eq_some_iff.mp h
 have HT:=ja.mk ht
 have hm4:=Bg.2.1
 obtain ⟨W1,hW1⟩:∃ W1,W1=w.alloc (.cells #[.slice Eb Ta.length Db,.int .i64 Pa,.int .i64 Oa,.int .i64 Ma,.slice yc Ra.length Zb] 30 (0,0)):=⟨_,rfl⟩
 have HW:=ja.mk hW1
 have Bl:Below w.heap.size w W1:=by rw [hW1];exact qa (Below.refl _ _) _
 have Bi:W1.heap[w.heap.size]? = some (.cells #[.slice Eb Ta.length Db,.int .i64 Pa,.int .i64 Oa,.int .i64 Ma,.slice yc Ra.length Zb] 30 (0,0)):=by rw [hW1];exact Me _ _
 have HB:=ja.mk Bl
 have HX:=ja.mk Bi
 have Rw:=ja.mk Kf
 have rD:=ja.mk Bg
 have uJ:=ja.mk Gf
 have tJ:=ja.mk Jg
 have hx0:=(ga Bi 0).trans rfl
 have hx1:=(ga Bi 1).trans rfl
 have Ek:=(ga Bi 2).trans rfl
 have jk:=(ga Bi 3).trans rfl
 have Dk:=(ga Bi 4).trans rfl
 clear hW1 Bl Bi Kf Bg ht Gf Jg
 have HH:=ja.mk h
 clear h
 cases t with
 | false =>
  have h:=HH.out
  rw [if_neg (by simp)] at h
  cases h
  go_enter Try.func19,Try.ntmps19
  go_upto_region 1 with (fail)
  rw [← HW.out]
  clear HW
  go_wp2_with (first|(go_at_call 57;(with_reducible refine (Ab.calls k Eb Db Ta Pa Oa Ma yc Zb Ra false W1 (Kd.Mb Rw.out HB.out) uJ.out (Kd.Mb rD.out HB.out) tJ.out HT.out).mono ?_);rintro e w2 ⟨rfl,hb⟩;have gq:=ja.mk (Na HB.out hb);clear hb))
  all_goals
   go_ret
   exact ⟨_,rfl,Kd.nw _ _ _ _ _,gq.out⟩
 | true =>
  have h:=HH.out
  rw [if_pos rfl] at h
  cases hb:fk a1 0 ((Ra.length:Int) - 1) with
  | false =>
   rw [hb,if_neg (by simp)] at h
   cases h
   go_enter Try.func19,Try.ntmps19
   go_upto_region 1 with (fail)
   rw [← HW.out]
   clear HW
   go_wp2_with (first|(go_at_call 57;(with_reducible refine (Ab.calls k Eb Db Ta Pa Oa Ma yc Zb Ra true W1 (Kd.Mb Rw.out HB.out) uJ.out (Kd.Mb rD.out HB.out) tJ.out HT.out).mono ?_);rintro e w2 ⟨rfl,hb⟩;have gq:=ja.mk (Na HB.out hb);have Dk:=(ga (Ya HX.out hb) 4).trans rfl;clear hb)|(go_at_call 58;(with_reducible refine (rj _ _ _ _).mono ?_);rintro e w3 ⟨rfl,⟨n2,rfl⟩⟩))
   all_goals
    go_ret
    exact ⟨_,rfl,Kd.nw _ _ _ _ _,ia gq.out _⟩
  | true =>
   rw [hb,if_pos rfl] at h
   by_cases hok:xo Ma (Ua Ra a1).f0=true
   ·rw [if_pos hok] at h
    have hr:=Option.some.inj h
    unfold xo at hok
    simp only [Bool.and_eq_true,decide_eq_true_eq,List.all_eq_true] at hok
    obtain ⟨⟨⟨hs0,hs1⟩,nu⟩,hall⟩:=hok
    obtain ⟨n,rfl⟩:∃ n:Nat,Ma=(n:Int):=⟨Ma.toNat,by omega⟩
    rw [Int.toNat_natCast] at hr
    have HR:=ja.mk hr
    have HA:=ja.mk hall
    have hq:0 ≤ a1∧a1 < (Ra.length:Int):=by simp [fk] at hb;omega
    obtain ⟨q1,q2⟩:=hq
    clear h hr hall
    go_enter Try.func19,Try.ntmps19
    go_upto_region 1 with (fail)
    rw [← HW.out]
    clear HW
    go_upto_region 4 with (first|(go_at_call 57;(with_reducible refine (Ab.calls k Eb Db Ta Pa Oa (n:Int) yc Zb Ra true W1 (Kd.Mb Rw.out HB.out) uJ.out (Kd.Mb rD.out HB.out) tJ.out HT.out).mono ?_);rintro e w2 ⟨rfl,wu⟩;have gq:=ja.mk (Na HB.out wu);have sE:=ja.mk (Ya HX.out wu);have hy0:=(ga sE.out 0).trans rfl;have hy1:=(ga sE.out 1).trans rfl;have hy2:=(ga sE.out 2).trans rfl;have hy3:=(ga sE.out 3).trans rfl;have D5:=(ga sE.out 4).trans rfl;clear wu)|(go_at_call 58;(with_reducible refine (rj _ _ _ _).mono ?_);rintro e w3 ⟨rfl,⟨n2,rfl⟩⟩)|(go_at_call 59;(with_reducible refine (vo Eb yc Db Zb Ta.length Ra.length Pa Oa n (by omega) _).mono ?_);rintro e w4 ⟨kb,rfl,hks,wu⟩;have jo:=ja.mk (Na (ia gq.out n2) wu);have lK:=ja.mk (Ya (Ga sE.out n2) wu);have uQ:=ja.mk hks;have HS4:=ja.mk (Pc sE.out);clear hks wu hy0 hy1 hy2 hy3 D5))
    have NV:=(ga lK.out 4).trans rfl
    obtain ⟨ad,A5,c5,e1,hb0,_,_,_,_,OT,SL⟩:=Zf rD.out a1 q1 q2
    cases e1
    have xQ:=ja.mk SL
    have jV:=SL.2.1
    replace hb0:=(jo.out.cell (World.block_lt_of_cell? w _ hb0)).trans hb0
    clear SL
    generalize (Ua Ra a1).f0=code at hb0 xQ OT jV HR HA nu
    go_wp2
    go_loopg [32] code.length (fun gg v32 wr=>∃ j:Nat,j ≤ code.length∧code.length - j ≤ gg∧v32 = .int .i64 j∧ja (KS wr w2.heap.size kb (Rg (idents n) (n:Int) (code.take j)).1 (Rg (idents n) (n:Int) (code.take j)).2)∧ja (Below w.heap.size w wr)∧ja (w2.heap.size ≤ wr.heap.size))
    case atStart=>exact ⟨0,Nat.zero_le _,by omega,rfl,⟨uQ.out⟩,jo,⟨by obtain ⟨_,h0,h1,_⟩:=uQ.out;exact Nat.le_of_lt (Nat.lt_of_le_of_lt h0 (Pc h1))⟩⟩
    case round =>
     clear uQ jo lK NV hb0 hx0 hx1 Ek jk Dk
     (try clear HK)
     (try clear HB)
     (try clear HX)
     obtain ⟨j,hj,hg,rfl,HK,HB,HX⟩:=hrel
     obtain ⟨b1,b2,b3⟩:=Cq (code.take j) (idents n) (n:Int)
     rw [Lh] at b3
     have hjl:(code.take j).length ≤ code.length:=by rw [List.length_take];omega
     by_cases hlt:j < code.length
     ·have p1:0 ≤ (j:Int):=by omega
      have p2:(j:Int) < (code.length:Int):=by omega
      have wB:decide ((j:Int) < (code.length:Int))=true:=decide_eq_true p2
      obtain ⟨ad7,e2,y0,y1,y2,y3,y4,y5,y6⟩:=kf (Kd.Mb xQ.out HB.out) (j:Int) p1 p2
      cases e2
      have hx:Ea code (j:Int)=code[j]:=by simp [Ea,List.getD_eq_getElem?_getD,hlt]
      have HI:=ja.mk (Dq rfl (HA.out _ (List.getElem_mem hlt)))
      rw [hx] at y0 y1 y2 y3 y4 y5 y6
      have MR:=ja.mk (fun (W3:World) (GN:KS W3 w2.heap.size kb (Rg (idents n) (n:Int) (code.take j)).1 (Rg (idents n) (n:Int) (code.take j)).2)=>zD GN (by omega) (by omega) code[j] (by rw [b3];exact HI.out.1) (by rw [b3];exact HI.out.2.1) (by rw [b3];exact HI.out.2.2))
      rw [← Bq code (idents n) (n:Int) j hlt] at MR
      simp only [Int.toNat_natCast] at y0 y1 y2 y3 y4 y5 y6
      clear hx b1 b2 b3 hjl
      go_wp2_with (first|(go_at_call 60;(with_reducible refine (MR.out _ (HK.out.alloc _)).mono ?_);rintro e w5 ⟨rfl,hks,wu⟩;have HK5:=ja.mk hks;have Es:=ja.mk ((qa HB.out _).trans (wu.mono (Nat.le_of_lt HS4.out)));have HX5:=ja.mk (Nat.le_trans (Nat.le_trans HX.out (by simp)) wu.size);clear hks wu))
      go_roundg (code.length - (j + 1))
      case measure=>omega
      case rel=>exact ⟨j + 1,by omega,by omega,by go_num,HK5,Es,HX5⟩
     ·have wB:decide ((j:Int) < (code.length:Int))=false:=decide_eq_false (by omega)
      obtain rfl:j=code.length:=by omega
      rw [List.take_length] at HK b3
      clear b1 b2 hjl
      generalize (Rg (idents n) (n:Int) code).2=nx at HK
      generalize (Rg (idents n) (n:Int) code).1=xs at HK b3 HR
      obtain ⟨v,hkv⟩:=HK.out
      obtain ⟨A6,c6,rfl⟩:=Kd.Mf hkv.2.2
      have HV:=ja.mk hkv
      have hc0:=(ga hkv.2.1 0).trans rfl
      clear HK HA xQ hb
      subst b3
      have hkb:=Pc HV.out.2.1
      have KM:=ja.mk (qa HB.out (.cells #[] 3 (0,0)))
      have R3:=ja.mk (iJ (Kd.int .i64) 3 wr w.heap.size HB.out.size)
      have HV9:=ja.mk (HV.out.below (qa (Below.refl _ _) (.cells #[] 3 (0,0))))
      have HKR:=ja.mk hkv.2.2
      clear hkv
      go_wp2
      go_loopg [8,46] xs.length (fun gg v8 v46 wq=>∃ m:Nat,m ≤ xs.length∧xs.length - m ≤ gg∧v46 = .int .i64 m∧ja (Kd.R (Kd.int .i64) 3 wq w.heap.size (fun _=>True) v8 (Rk xs m))∧ja (KV wq w2.heap.size kb (.slice A6 xs.length c6) xs nx)∧ja (Below w.heap.size w wq))
      case atStart=>exact ⟨0,Nat.zero_le _,by omega,rfl,R3,HV9,KM⟩
      case round =>
       clear KM R3 HV9 HV hc0 hkb HKR HB HX
       (try clear HO)
       (try clear HV)
       (try clear HB)
       obtain ⟨m,hm,AE,rfl,HO,HV,HB⟩:=hrel
       obtain ⟨B8,d8,rfl⟩:=Kd.Mf HO.out
       by_cases hlt2:m < xs.length
       ·have SW:decide ((m:Int) < (xs.length:Int))=true:=decide_eq_true (by omega)
        obtain ⟨ad6,e6,z0,z1⟩:=ru (Kd.Fc HV.out.2.2).2.2 (m:Int) (by omega) (by omega)
        cases e6
        have hlen:=dz xs m
        simp only [Int.toNat_natCast] at z0 z1
        by_cases hv:(jb xs (m:Int)).f0 = -1
        ·have hvb:((jb xs (m:Int)).f0 == -1)=true:=beq_iff_eq.2 hv
         obtain ⟨y,hy⟩:∃ y_:List Int,y_=Rk xs (m + 1):=⟨_,rfl⟩
         have Ny:=ja.mk hy
         have NE:=ja.mk (ED xs m hv)
         clear hy hv
         go_wp2_with (first|(at_builtin;(refine Kd.Us (Kd.int .i64) (w0:=w) w.heap.size rfl (.tmp 54) (.tmp 56) 22 3 (.int .i64 0) 8 rfl ?a1 ?a2 rfl ?a3 ?a4 ?v (Rk xs m) (m:Int) [.int .i64 (m:Int)] (fun _=>True) (fun _=>False) ?a5 ?a6 ?aP (fun _ hk=>hk.elim) ?a7 ?a8 ?a9 ?b1 ?b2 ?_);(case a1=>exact Try.underlying22);(case a2=>exact info3);(case a3=>decide);(case a4=>omega);(case a5=>rfl);(case a6=>exact congrArg (fun n=>Value.slice (some ⟨n,0,none⟩) 1 1) (by simp:wr.heap.size + 1=(wr.alloc _).heap.size));(case aP=>exact rfl);(case a7=>exact fun _ _=>trivial);(case a8=>exact Kd.Sd HO.out _);(case a9=>exact qa HB.out _);(case b1=>exact Nat.le_trans HB.out.size (by simp));(case b2=>omega);intro v1 w1 ho hb hgr hat;rw [← NE.out,← Ny.out] at ho;have HO1:=ja.mk ho;have HV1:=ja.mk ((HV.out.below (qa (Below.refl _ _) _)).grown hgr (Kd.Tt (Kd.Sd HO.out _)) (by decide) (by decide));have Oz:=ja.mk hb;obtain ⟨B1,d1,rfl⟩:=Kd.Mf ho;clear ho hb hgr hat))
         go_roundg (xs.length - (m + 1))
         case measure=>omega
         case rel =>
          have e:=Ny.out
          clear Ny
          subst e
          exact ⟨m + 1,by omega,by omega,by go_num,HO1,HV1,Oz⟩
        ·have hvb:((jb xs (m:Int)).f0 == -1)=false:=beq_eq_false_iff_ne.2 hv
         have NE:=ja.mk (ZE xs m hv)
         clear hv
         go_wp2
         go_roundg (xs.length - (m + 1))
         case measure=>omega
         case rel =>
          have:=NE.out
          exact ⟨m + 1,by omega,by omega,by go_num,⟨by rw [this];exact Kd.Sd HO.out _⟩,⟨HV.out.below (qa (Below.refl _ _) _)⟩,⟨qa HB.out _⟩⟩
       ·have SW:decide ((m:Int) < (xs.length:Int))=false:=decide_eq_false (by omega)
        obtain rfl:m=xs.length:=by omega
        go_wp2
        go_ret
        exact ⟨_,rfl,by rw [← HR.out];exact HO.out,HB.out⟩
   ·rw [if_neg hok] at h
    cases h
def Il (xs:List mm) (x:yf):af :=
 if x.f0=3 ∨ x.f0=4 then
  if 0 ≤ x.f2 then ⟨x.f5,min (jb xs x.f2).f0 (jb xs x.f3).f0,max (jb xs x.f2).f0 (jb xs x.f3).f0,wrap64 ((jb xs x.f2).f1 + (jb xs x.f3).f1)⟩
  else ⟨x.f5,min (-1) (jb xs x.f3).f0,max (-1) (jb xs x.f3).f0,wrap64 (jb xs x.f3).f1⟩
 else ⟨-1,0,0,0⟩
section
variable {W:World} {B kb:Nat} {v:Value} {xs:List mm} {nx:Int}
theorem AK (hk:KV W B kb v xs nx) (o d a b c n:Int) (t:ByteArray) (h3':(o != 3)=true) (h4':(o != 4)=true) :
  Calls Try.prog 107 #[.pointer (some ⟨kb,0,none⟩),.agg #[.int .i64 o,.int .i64 d,.int .i64 a,.int .i64 b,.int .i64 c,.int .i64 n,.string t]] W fun e w'=>e = .returned (.agg #[.int .i64 (-1),.int .i64 0,.int .i64 0,.int .i64 0])∧Below W.heap.size W w':=by
 obtain ⟨hB,h2,h3⟩:=hk
 have hlt:=Pc h2
 obtain ⟨W1,hW1⟩:∃ W1,W1=(W.alloc (.cells #[.int .i64 o,.int .i64 d,.int .i64 a,.int .i64 b,.int .i64 c,.int .i64 n,.string t] 70 (0,0))).alloc (.cells #[.int .i64 0,.int .i64 0,.int .i64 0,.int .i64 0] 103 (0,0)):=⟨_,rfl⟩
 have HW:=ja.mk hW1
 have Bl:Below W.heap.size W W1:=by rw [hW1];exact qa (qa (Below.refl _ _) _) _
 have hz:W1.heap.size=W.heap.size + 2:=by rw [hW1];simp
 have Ig:=ja.mk (Ya h2 Bl)
 have oD:=(ga Ig.out 0).trans rfl
 have iq:W1.heap[W.heap.size + 1]? = some (.cells #[.int .i64 0,.int .i64 0,.int .i64 0,.int .i64 0] 103 (0,0)):=by rw [hW1];have:=Me (W.alloc (.cells #[.int .i64 o,.int .i64 d,.int .i64 a,.int .i64 b,.int .i64 c,.int .i64 n,.string t] 70 (0,0))) (.cells #[.int .i64 0,.int .i64 0,.int .i64 0,.int .i64 0] 103 (0,0));simpa using this
 have Bi:W1.heap[W.heap.size]? = some (.cells #[.int .i64 o,.int .i64 d,.int .i64 a,.int .i64 b,.int .i64 c,.int .i64 n,.string t] 70 (0,0)):=by rw [hW1];exact Fa (Me _ _) _
 have HR:=ja.mk iq
 have HX:=ja.mk Bi
 have HB:=ja.mk Bl
 have HZ:=ja.mk hz
 clear hW1 iq Bi h2 h3 Bl hz
 have hr0:=(ga HR.out 0).trans rfl
 have Mn:=(ga HR.out 1).trans rfl
 have nD:=(ga HR.out 2).trans rfl
 have mD:=(ga HR.out 3).trans rfl
 have Xl:=aa HR.out 0
 have Wl:=aa HR.out 1
 have Zr:=aa HR.out 2
 have Yr:=aa HR.out 3
 have hx0:=(ga HX.out 0).trans rfl
 have hx1:=(ga HX.out 1).trans rfl
 have Ek:=(ga HX.out 2).trans rfl
 have jk:=(ga HX.out 3).trans rfl
 have Dk:=(ga HX.out 4).trans rfl
 have Um:=(ga HX.out 5).trans rfl
 have zm:=(ga HX.out 6).trans rfl
 go_enter Try.func107,Try.ntmps107
 go_upto_region 1 with (fail)
 rw [← HW.out]
 clear HW
 go_wp2
 have hz:=HZ.out
 refine bodyPost_ret (results_cell_row rfl _ _ (W.heap.size + 1) 103 #[.int .i64 (-1),.int .i64 0,.int .i64 0,.int .i64 0] (0,0) _ rfl ?_ Try.underlying103 rfl (by kernel_rfl)) rfl ?_
 ·exact zb (cs:=#[.int .i64 (-1),.int .i64 0,.int .i64 0,.int .i64 0]) (zb (cs:=#[.int .i64 (-1),.int .i64 0,.int .i64 0,.int .i64 0]) (zb (cs:=#[.int .i64 (-1),.int .i64 0,.int .i64 0,.int .i64 0]) (zb (cs:=#[.int .i64 0,.int .i64 0,.int .i64 0,.int .i64 0]) HR.out 0 _ rfl) 1 _ rfl) 2 _ rfl) 3 _ rfl
 ·exact ⟨rfl,by repeat (first|exact HB.out|apply ia|apply ua|apply qa|refine Aa ?_ (by first|omega|(simp;done)|(simp;omega)))⟩
theorem uN (hk:KV W B kb v xs nx) (o d a b c n:Int) (t:ByteArray) (p q:Int) (hp:p=min ((jb xs a).f0) (jb xs b).f0) (hq:q=max ((jb xs a).f0) (jb xs b).f0) (ho:(o != 3)=false ∨ ((o != 3)=true∧(o != 4)=false)) (hb0:0 ≤ b) (hb1:b < xs.length) (ha0:0 ≤ a) (ha1:a < xs.length) :
  Calls Try.prog 107 #[.pointer (some ⟨kb,0,none⟩),.agg #[.int .i64 o,.int .i64 d,.int .i64 a,.int .i64 b,.int .i64 c,.int .i64 n,.string t]] W fun e w'=>e = .returned (.agg #[.int .i64 n,.int .i64 p,.int .i64 q,.int .i64 (wrap64 ((jb xs a).f1 + (jb xs b).f1))])∧Below W.heap.size W w':=by
 rcases ho with h3'|⟨h3',h4'⟩
 all_goals
  have GU:=ja.mk (And.intro hp hq)
  clear hp hq
  obtain ⟨hB,h2,h3⟩:=hk
  have hlt:=Pc h2
  obtain ⟨W1,hW1⟩:∃ W1,W1=(W.alloc (.cells #[.int .i64 o,.int .i64 d,.int .i64 a,.int .i64 b,.int .i64 c,.int .i64 n,.string t] 70 (0,0))).alloc (.cells #[.int .i64 0,.int .i64 0,.int .i64 0,.int .i64 0] 103 (0,0)):=⟨_,rfl⟩
  have HW:=ja.mk hW1
  have Bl:Below W.heap.size W W1:=by rw [hW1];exact qa (qa (Below.refl _ _) _) _
  have hz:W1.heap.size=W.heap.size + 2:=by rw [hW1];simp
  have Ig:=ja.mk (Ya h2 Bl)
  have oD:=(ga Ig.out 0).trans rfl
  have iq:W1.heap[W.heap.size + 1]? = some (.cells #[.int .i64 0,.int .i64 0,.int .i64 0,.int .i64 0] 103 (0,0)):=by rw [hW1];have:=Me (W.alloc (.cells #[.int .i64 o,.int .i64 d,.int .i64 a,.int .i64 b,.int .i64 c,.int .i64 n,.string t] 70 (0,0))) (.cells #[.int .i64 0,.int .i64 0,.int .i64 0,.int .i64 0] 103 (0,0));simpa using this
  have Bi:W1.heap[W.heap.size]? = some (.cells #[.int .i64 o,.int .i64 d,.int .i64 a,.int .i64 b,.int .i64 c,.int .i64 n,.string t] 70 (0,0)):=by rw [hW1];exact Fa (Me _ _) _
  have HR:=ja.mk iq
  have HX:=ja.mk Bi
  obtain ⟨A,cc,rfl,_,hC⟩:=Kd.Zn (Kd.Ue h3 Bl)
  have FN:=hC.2.1
  obtain ⟨ad,e1,Wp,Vp⟩:=ru hC b hb0 hb1
  cases e1
  obtain ⟨g,rfl⟩:=Kd.fq h3
  have aN:=ja.mk hC
  have HN:g < W.heap.size:=by
   obtain ⟨inner,hi⟩:=Kd.ju h3
   exact zw hi g (by simp [Value.ownBlock])
  simp only [add_plain] at Wp Vp
  have oL:kb ≠ W1.heap.size:=by omega
  have nL:kb ≠ W1.heap.size + 1:=by omega
  have BA:g ≠ W1.heap.size:=by omega
  have AE:g ≠ W1.heap.size + 1:=by omega
  have hw1:W.heap.size ≠ W1.heap.size:=by omega
  have gV:W.heap.size ≠ W1.heap.size + 1:=by omega
  have fV:W.heap.size + 1 ≠ W1.heap.size:=by omega
  have eV:W.heap.size + 1 ≠ W1.heap.size + 1:=by omega
  have HB:=ja.mk Bl
  have HZ:=ja.mk hz
  clear hC hW1 iq Bi h2 h3 Bl hz
  have hr0:=(ga HR.out 0).trans rfl
  have Mn:=(ga HR.out 1).trans rfl
  have nD:=(ga HR.out 2).trans rfl
  have mD:=(ga HR.out 3).trans rfl
  have Xl:=aa HR.out 0
  have Wl:=aa HR.out 1
  have Zr:=aa HR.out 2
  have Yr:=aa HR.out 3
  have hx0:=(ga HX.out 0).trans rfl
  have hx1:=(ga HX.out 1).trans rfl
  have Ek:=(ga HX.out 2).trans rfl
  have jk:=(ga HX.out 3).trans rfl
  have Dk:=(ga HX.out 4).trans rfl
  have Um:=(ga HX.out 5).trans rfl
  have zm:=(ga HX.out 6).trans rfl
  go_enter Try.func107,Try.ntmps107
  go_upto_region 1 with (fail)
  rw [← HW.out]
  clear HW
  go_upto_region 3 with (fail)
  have jj:=ja.mk (ua (Below.refl W1.heap.size W1))
  have hd1:W1.cell? ⟨kb,0,none⟩=some (.slice (some ⟨g,0,none⟩) xs.length cc):=oD
  have hd3:W1.cell? ⟨W.heap.size,3,none⟩=some (.int .i64 b):=jk
  have HG:=ja.mk (fun (W3:World) (h:Below W1.heap.size W1 W3)=>(⟨Zd h hd1,Zd h hd3,Zd h Wp,Zd h Vp⟩:W3.cell? ⟨kb,0,none⟩=some (.slice (some ⟨g,0,none⟩) xs.length cc)∧W3.cell? ⟨W.heap.size,3,none⟩=some (.int .i64 b)∧W3.cell? ⟨g,b.toNat * 2,none⟩=some (.int .i64 (jb xs b).f0)∧W3.cell? ⟨g,b.toNat * 2 + 1,none⟩=some (.int .i64 (jb xs b).f1)))
  refine Oi (n:=13) (S:=fun w'=>w'.cell? ⟨kb,0,none⟩=some (.slice (some ⟨g,0,none⟩) xs.length cc)∧w'.cell? ⟨W.heap.size,3,none⟩=some (.int .i64 b)∧w'.cell? ⟨g,b.toNat * 2,none⟩=some (.int .i64 (jb xs b).f0)∧w'.cell? ⟨g,b.toNat * 2 + 1,none⟩=some (.int .i64 (jb xs b).f1)) (ds:=[12]) #[false,false,false,false,false,false,false,false,false,false,false,false,false] (by kernel_rfl) rfl rfl ⟨hd1,hd3,Wp,Vp⟩ (fun hHeld=>?_)
  refine Nc (i:=0) (N:=some 16) (v:=?_) (a':=?_) #[true,false,false,false,false,false,false,false,false,false,false,false,false] rfl rfl (by kernel_rfl) (fun _ _ _ h=>h) (Or.inl ⟨by rfl,?_⟩) ?_ ?_
  rotate_left
  ·intro w'
   go_simp
   with_reducible rfl
  rotate_left
  ·simp only [Act.put,List.setIfInBounds_toArray,List.set_cons_zero,List.set_cons_succ,Bb,Cb]
   rfl
  refine Nc (i:=1) (N:=some 17) (v:=?_) (a':=?_) #[true,true,false,false,false,false,false,false,false,false,false,false,false] rfl rfl (by kernel_rfl) (fun _ _ _ h=>h) (Or.inl ⟨by rfl,?_⟩) ?_ ?_
  rotate_left
  ·intro w'
   go_simp
   with_reducible rfl
  rotate_left
  ·simp only [Act.put,List.setIfInBounds_toArray,List.set_cons_zero,List.set_cons_succ,Bb,Cb]
   rfl
  refine Nc (i:=2) (N:=some 18) (v:=?_) (a':=?_) #[true,true,true,false,false,false,false,false,false,false,false,false,false] rfl rfl (by kernel_rfl) (fun _ _ _ h=>h) (Or.inl ⟨by rfl,?_⟩) ?_ ?_
  rotate_left
  ·intro w'
   go_simp
   with_reducible rfl
  rotate_left
  ·simp only [Act.put,List.setIfInBounds_toArray,List.set_cons_zero,List.set_cons_succ,Bb,Cb]
   rfl
  refine Nc (i:=3) (N:=some 19) (v:=?_) (a':=?_) #[true,true,true,true,false,false,false,false,false,false,false,false,false] rfl rfl (by kernel_rfl) (fun _ _ _ h=>h) (Or.inl ⟨by rfl,?_⟩) ?_ ?_
  rotate_left
  ·intro w'
   go_simp
   with_reducible rfl
  rotate_left
  ·simp only [Act.put,List.setIfInBounds_toArray,List.set_cons_zero,List.set_cons_succ,Bb,Cb]
   rfl
  refine Nc (i:=5) (N:=some 21) (v:=?_) (a':=?_) #[true,true,true,true,false,true,false,false,false,false,false,false,false] rfl rfl (by kernel_rfl) (fun _ _ _ h=>h) (Or.inl ⟨by rfl,?_⟩) ?_ ?_
  rotate_left
  ·intro w'
   go_simp
   with_reducible rfl
  rotate_left
  ·simp only [Act.put,List.setIfInBounds_toArray,List.set_cons_zero,List.set_cons_succ,Bb,Cb]
   rfl
  refine Lf (i:=4) (N:=some 20) (v:=?_) (a':=?_) #[true,true,true,true,true,true,false,false,false,false,false,false,false] rfl rfl (by kernel_rfl) (fun _ _ _ h=>h) (Or.inl ⟨by rfl,?_⟩) hHeld ?_ ?_
  rotate_left
  ·rintro w' ⟨s0,s1,s2,s3⟩
   go_simp
   with_reducible rfl
  rotate_left
  ·simp only [Act.put,List.setIfInBounds_toArray,List.set_cons_zero,List.set_cons_succ,Bb,Cb]
   rfl
  refine Lf (i:=6) (N:=some 22) (v:=?_) (a':=?_) #[true,true,true,true,true,true,true,false,false,false,false,false,false] rfl rfl (by kernel_rfl) (fun _ _ _ h=>h) (Or.inl ⟨by rfl,?_⟩) hHeld ?_ ?_
  rotate_left
  ·rintro w' ⟨s0,s1,s2,s3⟩
   go_simp
   with_reducible rfl
  rotate_left
  ·simp only [Act.put,List.setIfInBounds_toArray,List.set_cons_zero,List.set_cons_succ,Bb,Cb]
   rfl
  refine Nc (i:=7) (N:=some 23) (v:=?_) (a':=?_) #[true,true,true,true,true,true,true,true,false,false,false,false,false] rfl rfl (by kernel_rfl) (fun _ _ _ h=>h) (Or.inl ⟨by rfl,?_⟩) ?_ ?_
  rotate_left
  ·intro w'
   go_simp
   with_reducible rfl
  rotate_left
  ·simp only [Act.put,List.setIfInBounds_toArray,List.set_cons_zero,List.set_cons_succ,Bb,Cb]
   rfl
  refine Lf (i:=8) (N:=some 24) (v:=?_) (a':=?_) #[true,true,true,true,true,true,true,true,true,false,false,false,false] rfl rfl (by kernel_rfl) (fun _ _ _ h=>h) (Or.inl ⟨by rfl,?_⟩) hHeld ?_ ?_
  rotate_left
  ·rintro w' ⟨s0,s1,s2,s3⟩
   go_simp
   with_reducible rfl
  rotate_left
  ·simp only [Act.put,List.setIfInBounds_toArray,List.set_cons_zero,List.set_cons_succ,Bb,Cb]
   rfl
  refine IG (σ:=Nat × Nat) 2 #[true,true,true,true,true,true,true,true,true,true,true,false,false] (fun s=>[(5,.pointer (some ⟨s.1,0,none⟩)),(6,.pointer (some ⟨s.2,0,none⟩))]) (fun s w'=>w' = (W1.drew.alloc (.cells #[.int .i64 0,.int .i64 0] 79 (0,0))).alloc (.cells #[.int .i64 0,.int .i64 0] 79 (0,0))∧((s.1=W1.heap.size∧s.2=W1.heap.size + 1) ∨ (s.1=W1.heap.size + 1∧s.2=W1.heap.size))) ?_ ?_
  rotate_left
  ·intro Ss
   refine kN (i:=9) (j:=10) (Ni:=some 5) (Nj:=some 6) #[true,true,true,true,true,true,true,true,true,true,false,false,false] #[true,true,true,true,true,true,true,true,true,false,true,false,false] rfl rfl rfl rfl (by kernel_rfl) (by decide) (by decide) (fun K hK=>?_) (fun K hK=>?_)
   ·skip
    refine Ck (w1:=?_) (v:=?_) (by rfl) rfl ?_ ?_
    rotate_left 2
    ·go_simp
     constructor
     ·rfl
     ·rfl
    refine hK.out _ _ ⟨(HG.out _ (qa jj.out _)).1,(HG.out _ (qa jj.out _)).2.1,(HG.out _ (qa jj.out _)).2.2.1,(HG.out _ (qa jj.out _)).2.2.2⟩ (fun hHeld=>?_)
    clear hK K
    refine Mg (a':=?_) ?_ ?_
    rotate_left
    ·show Act.put _ (some 5) _=_
     simp only [Act.put,List.setIfInBounds_toArray,List.set_cons_zero,List.set_cons_succ,Bb,Cb]
     rfl
    refine gm (i:=10) (N:=some 6) #[true,true,true,true,true,true,true,true,true,true,true,false,false] rfl rfl (by kernel_rfl) (by decide) (fun K hK=>?_)
    refine Ck (w1:=?_) (v:=?_) (by rfl) rfl ?_ ?_
    rotate_left 2
    ·go_simp
     constructor
     ·rfl
     ·rfl
    refine hK.out _ _ ⟨(HG.out _ (qa (qa jj.out _) _)).1,(HG.out _ (qa (qa jj.out _) _)).2.1,(HG.out _ (qa (qa jj.out _) _)).2.2.1,(HG.out _ (qa (qa jj.out _) _)).2.2.2⟩ (fun hHeld=>?_)
    clear hK K
    refine Mg (a':=?_) ?_ ?_
    rotate_left
    ·show Act.put _ (some 6) _=_
     simp only [Act.put,List.setIfInBounds_toArray,List.set_cons_zero,List.set_cons_succ,Bb,Cb]
     rfl
    exact Mg (by simp only [yl,Act.put,List.setIfInBounds_toArray,List.set_cons_zero,List.set_cons_succ]) (Ss (W1.heap.size,W1.heap.size + 1) _ ⟨rfl,Or.inl ⟨rfl,rfl⟩⟩)
   ·skip
    refine Ck (w1:=?_) (v:=?_) (by rfl) rfl ?_ ?_
    rotate_left 2
    ·go_simp
     constructor
     ·rfl
     ·rfl
    refine hK.out _ _ ⟨(HG.out _ (qa jj.out _)).1,(HG.out _ (qa jj.out _)).2.1,(HG.out _ (qa jj.out _)).2.2.1,(HG.out _ (qa jj.out _)).2.2.2⟩ (fun hHeld=>?_)
    clear hK K
    refine Mg (a':=?_) ?_ ?_
    rotate_left
    ·show Act.put _ (some 6) _=_
     simp only [Act.put,List.setIfInBounds_toArray,List.set_cons_zero,List.set_cons_succ,Bb,Cb]
     rfl
    refine gm (i:=9) (N:=some 5) #[true,true,true,true,true,true,true,true,true,true,true,false,false] rfl rfl (by kernel_rfl) (by decide) (fun K hK=>?_)
    refine Ck (w1:=?_) (v:=?_) (by rfl) rfl ?_ ?_
    rotate_left 2
    ·go_simp
     constructor
     ·rfl
     ·rfl
    refine hK.out _ _ ⟨(HG.out _ (qa (qa jj.out _) _)).1,(HG.out _ (qa (qa jj.out _) _)).2.1,(HG.out _ (qa (qa jj.out _) _)).2.2.1,(HG.out _ (qa (qa jj.out _) _)).2.2.2⟩ (fun hHeld=>?_)
    clear hK K
    refine Mg (a':=?_) ?_ ?_
    rotate_left
    ·show Act.put _ (some 5) _=_
     simp only [Act.put,List.setIfInBounds_toArray,List.set_cons_zero,List.set_cons_succ,Bb,Cb]
     rfl
    exact Mg (by simp only [yl,Act.put,List.setIfInBounds_toArray,List.set_cons_zero,List.set_cons_succ]) (Ss (W1.heap.size + 1,W1.heap.size) _ ⟨rfl,Or.inr ⟨rfl,rfl⟩⟩)
  rintro ⟨s1,s2⟩ W3 ⟨om,hs⟩
  simp only at hs
  have hne:s1 ≠ s2:=by omega
  have kz:W1.heap.size ≤ s1:=by omega
  have jz:W1.heap.size ≤ s2:=by omega
  have DF:Below W1.heap.size W1 W3:=by rw [om];exact qa (qa jj.out _) _
  have Ds:W3.heap[s1]? = some (.cells #[.int .i64 0,.int .i64 0] 79 (0,0)):=by
   rw [om]
   rcases hs with ⟨e,_⟩|⟨e,_⟩
   ·rw [e];exact Fa (Me W1.drew _) _
   ·rw [e];have:=Me (W1.drew.alloc (.cells #[.int .i64 0,.int .i64 0] 79 (0,0))) (.cells #[.int .i64 0,.int .i64 0] 79 (0,0));simpa using this
  have hn2:W3.heap[s2]? = some (.cells #[.int .i64 0,.int .i64 0] 79 (0,0)):=by
   rw [om]
   rcases hs with ⟨_,e⟩|⟨_,e⟩
   ·rw [e];have:=Me (W1.drew.alloc (.cells #[.int .i64 0,.int .i64 0] 79 (0,0))) (.cells #[.int .i64 0,.int .i64 0] 79 (0,0));simpa using this
   ·rw [e];exact Fa (Me W1.drew _) _
  clear om hs
  have vE:=ja.mk DF
  have hHeld:=HG.out W3 DF
  have Ow:=ja.mk Ds
  have GM:=ja.mk hn2
  clear DF Ds hn2
  refine Mg (a':=?_) ?_ ?_
  rotate_left
  ·simp only [yl,Act.put,List.setIfInBounds_toArray,List.set_cons_zero,List.set_cons_succ]
   rfl
  refine gm (i:=11) (N:=none) #[true,true,true,true,true,true,true,true,true,true,true,true,false] rfl rfl (by kernel_rfl) (by decide) (fun K hK=>?_)
  have AF:=(ga Ow.out 0).trans rfl
  have zF:=(ga Ow.out 1).trans rfl
  have qF:=aa Ow.out 0
  have pF:=aa Ow.out 1
  refine Hs (w1:=?_) (by rfl) rfl ?_ ?_
  rotate_left
  ·go_simp
   rfl
  have jo:=ja.mk (show Below W1.heap.size W1 ((W3.setCell ⟨s1,0,none⟩ (.int .i64 (-1))).setCell ⟨s1,1,none⟩ (.int .i64 0)) from (vE.out.setCell kz _).setCell kz _)
  have HM:=ja.mk (zb (cs:=#[.int .i64 (-1),.int .i64 0]) (zb (cs:=#[.int .i64 0,.int .i64 0]) Ow.out 0 (.int .i64 (-1)) rfl) 1 (.int .i64 0) rfl)
  have Pw:=ja.mk (Tc (p:=⟨s1,1,none⟩) (Tc (p:=⟨s1,0,none⟩) GM.out (Ne.symm hne) (.int .i64 (-1))) (Ne.symm hne) (.int .i64 0))
  clear AF zF qF pF
  refine hK.out _ _ ⟨(HG.out _ jo.out).1,(HG.out _ jo.out).2.1,(HG.out _ jo.out).2.2.1,(HG.out _ jo.out).2.2.2⟩ (fun hHeld=>?_)
  clear hK K
  refine cz (i:=12) (N:=none) #[true,true,true,true,true,true,true,true,true,true,true,true,true] rfl rfl (by kernel_rfl) (by decide) (fun K hK=>?_)
  have yF:=(ga Pw.out 0).trans rfl
  have xF:=(ga Pw.out 1).trans rfl
  have oF:=aa Pw.out 0
  have nF:=aa Pw.out 1
  refine Hs (w1:=?_) (by rfl) rfl ?_ ?_
  rotate_left
  ·go_simp
   rfl
  refine hK.out _ _ ?_
  clear hK K
  refine Mk (by kernel_rfl) ?_
  obtain ⟨W5,hW5⟩:∃ W5,W5=(((W3.setCell ⟨s1,0,none⟩ (.int .i64 (-1))).setCell ⟨s1,1,none⟩ (.int .i64 0)).setCell ⟨s2,0,none⟩ (.int .i64 (jb xs b).f0)).setCell ⟨s2,1,none⟩ (.int .i64 (jb xs b).f1):=⟨_,rfl⟩
  rw [← hW5]
  have Es:Below W1.heap.size W1 W5:=by rw [hW5];exact (jo.out.setCell jz _).setCell jz _
  have Po:W5.heap[s1]? = some (.cells #[.int .i64 (-1),.int .i64 0] 79 (0,0)):=by rw [hW5];exact Tc (p:=⟨s2,1,none⟩) (Tc (p:=⟨s2,0,none⟩) HM.out hne _) hne _
  have hm2:W5.heap[s2]? = some (.cells #[.int .i64 (jb xs b).f0,.int .i64 (jb xs b).f1] 79 (0,0)):=by rw [hW5];exact zb (cs:=#[.int .i64 (jb xs b).f0,.int .i64 0]) (zb (cs:=#[.int .i64 0,.int .i64 0]) Pw.out 0 _ rfl) 1 _ rfl
  clear hW5 HM Pw Ow GM yF xF oF nF jo vE hd1 hd3 Wp Vp hx0 hx1 Ek jk Dk Um zm hr0 Mn nD mD Xl Wl Zr Yr oD HG jj
  have HR:=ja.mk (Ya HR.out Es)
  have HX:=ja.mk (Ya HX.out Es)
  have Ig:=ja.mk (Ya Ig.out Es)
  have aN:=ja.mk (Kd.Mb aN.out Es)
  have HB:=ja.mk (Na HB.out Es)
  clear Es
  have oD:=(ga Ig.out 0).trans rfl
  have hr0:=(ga HR.out 0).trans rfl
  have Mn:=(ga HR.out 1).trans rfl
  have nD:=(ga HR.out 2).trans rfl
  have mD:=(ga HR.out 3).trans rfl
  have Xl:=aa HR.out 0
  have Wl:=aa HR.out 1
  have Zr:=aa HR.out 2
  have Yr:=aa HR.out 3
  have hx0:=(ga HX.out 0).trans rfl
  have hx1:=(ga HX.out 1).trans rfl
  have Ek:=(ga HX.out 2).trans rfl
  have jk:=(ga HX.out 3).trans rfl
  have Dk:=(ga HX.out 4).trans rfl
  have Um:=(ga HX.out 5).trans rfl
  have zm:=(ga HX.out 6).trans rfl
  have cw:=(ga Po 0).trans rfl
  have bw:=(ga Po 1).trans rfl
  have iA:=aa Po 0
  have gA:=aa Po 1
  have Ex:=(ga hm2 0).trans rfl
  have Dx:=(ga hm2 1).trans rfl
  have hge:decide (a ≥ 0)=true:=decide_eq_true ha0
  obtain ⟨ad_,e1,Wt,Vt⟩:=ru aN.out a ha0 ha1
  cases e1
  simp only [add_plain] at Wt Vt
  go_upto_region 5 with (fail)
  refine Oi (n:=9) (S:=fun w'=>w'.cell? ⟨kb,0,none⟩=some (.slice (some ⟨g,0,none⟩) xs.length cc)∧w'.cell? ⟨W.heap.size,2,none⟩=some (.int .i64 a)∧w'.cell? ⟨g,a.toNat * 2,none⟩=some (.int .i64 (jb xs a).f0)∧w'.cell? ⟨g,a.toNat * 2 + 1,none⟩=some (.int .i64 (jb xs a).f1)) (ds:=[8]) #[false,false,false,false,false,false,false,false,false] (by kernel_rfl) rfl rfl ⟨oD,Ek,Wt,Vt⟩ (fun hHeld=>?_)
  refine Nc (i:=0) (N:=some 28) (v:=?_) (a':=?_) #[true,false,false,false,false,false,false,false,false] rfl rfl (by kernel_rfl) (fun _ _ _ h=>h) (Or.inl ⟨by rfl,?_⟩) ?_ ?_
  rotate_left
  ·intro w'
   go_simp
   with_reducible rfl
  rotate_left
  ·simp only [Act.put,List.setIfInBounds_toArray,List.set_cons_zero,List.set_cons_succ,Bb,Cb]
   rfl
  refine Nc (i:=1) (N:=some 29) (v:=?_) (a':=?_) #[true,true,false,false,false,false,false,false,false] rfl rfl (by kernel_rfl) (fun _ _ _ h=>h) (Or.inl ⟨by rfl,?_⟩) ?_ ?_
  rotate_left
  ·intro w'
   go_simp
   with_reducible rfl
  rotate_left
  ·simp only [Act.put,List.setIfInBounds_toArray,List.set_cons_zero,List.set_cons_succ,Bb,Cb]
   rfl
  refine Nc (i:=2) (N:=some 30) (v:=?_) (a':=?_) #[true,true,true,false,false,false,false,false,false] rfl rfl (by kernel_rfl) (fun _ _ _ h=>h) (Or.inl ⟨by rfl,?_⟩) ?_ ?_
  rotate_left
  ·intro w'
   go_simp
   with_reducible rfl
  rotate_left
  ·simp only [Act.put,List.setIfInBounds_toArray,List.set_cons_zero,List.set_cons_succ,Bb,Cb]
   rfl
  refine Nc (i:=4) (N:=some 32) (v:=?_) (a':=?_) #[true,true,true,false,true,false,false,false,false] rfl rfl (by kernel_rfl) (fun _ _ _ h=>h) (Or.inl ⟨by rfl,?_⟩) ?_ ?_
  rotate_left
  ·intro w'
   go_simp
   with_reducible rfl
  rotate_left
  ·simp only [Act.put,List.setIfInBounds_toArray,List.set_cons_zero,List.set_cons_succ,Bb,Cb]
   rfl
  refine Lf (i:=3) (N:=some 31) (v:=?_) (a':=?_) #[true,true,true,true,true,false,false,false,false] rfl rfl (by kernel_rfl) (fun _ _ _ h=>h) (Or.inl ⟨by rfl,?_⟩) hHeld ?_ ?_
  rotate_left
  ·rintro w' ⟨s0,s1,s2,s3⟩
   go_simp
   with_reducible rfl
  rotate_left
  ·simp only [Act.put,List.setIfInBounds_toArray,List.set_cons_zero,List.set_cons_succ,Bb,Cb]
   rfl
  refine Lf (i:=5) (N:=some 33) (v:=?_) (a':=?_) #[true,true,true,true,true,true,false,false,false] rfl rfl (by kernel_rfl) (fun _ _ _ h=>h) (Or.inl ⟨by rfl,?_⟩) hHeld ?_ ?_
  rotate_left
  ·rintro w' ⟨s0,s1,s2,s3⟩
   go_simp
   with_reducible rfl
  rotate_left
  ·simp only [Act.put,List.setIfInBounds_toArray,List.set_cons_zero,List.set_cons_succ,Bb,Cb]
   rfl
  refine Nc (i:=6) (N:=some 34) (v:=?_) (a':=?_) #[true,true,true,true,true,true,true,false,false] rfl rfl (by kernel_rfl) (fun _ _ _ h=>h) (Or.inl ⟨by rfl,?_⟩) ?_ ?_
  rotate_left
  ·intro w'
   go_simp
   with_reducible rfl
  rotate_left
  ·simp only [Act.put,List.setIfInBounds_toArray,List.set_cons_zero,List.set_cons_succ,Bb,Cb]
   rfl
  refine Lf (i:=7) (N:=some 35) (v:=?_) (a':=?_) #[true,true,true,true,true,true,true,true,false] rfl rfl (by kernel_rfl) (fun _ _ _ h=>h) (Or.inl ⟨by rfl,?_⟩) hHeld ?_ ?_
  rotate_left
  ·rintro w' ⟨s0,s1,s2,s3⟩
   go_simp
   with_reducible rfl
  rotate_left
  ·simp only [Act.put,List.setIfInBounds_toArray,List.set_cons_zero,List.set_cons_succ,Bb,Cb]
   rfl
  refine cz (i:=8) (N:=none) #[true,true,true,true,true,true,true,true,true] rfl rfl (by kernel_rfl) (by decide) (fun K hK=>?_)
  have cw:W5.drew.cell? ⟨s1,0,none⟩=some (.int .i64 (-1)):=cw
  have bw:W5.drew.cell? ⟨s1,1,none⟩=some (.int .i64 0):=bw
  refine Hs (w1:=?_) (by rfl) rfl ?_ ?_
  rotate_left
  ·go_simp
   rfl
  refine hK.out _ _ ?_
  clear hK K
  refine Mk (by kernel_rfl) ?_
  obtain ⟨W6,hW6⟩:∃ W6,W6=((W5.setCell ⟨s1,0,none⟩ (.int .i64 (jb xs a).f0)).setCell ⟨s1,1,none⟩ (.int .i64 (jb xs a).f1)).drew:=⟨_,rfl⟩
  rw [← hW6]
  have hz:=HZ.out
  have F5:Kept W5 W6 (fun k_=>k_=s1):=by rw [hW6];exact Kept.drew (Kept.setCell (S:=fun k_=>k_=s1) (p:=⟨s1,1,none⟩) (Kept.setCell (S:=fun k_=>k_=s1) (p:=⟨s1,0,none⟩) (Kept.refl _ _) (Or.inl rfl) _) (Or.inl rfl) _)
  have Po:W6.heap[s1]? = some (.cells #[.int .i64 (jb xs a).f0,.int .i64 (jb xs a).f1] 79 (0,0)):=by rw [hW6];exact Ia (zb (cs:=#[.int .i64 (jb xs a).f0,.int .i64 0]) (zb (cs:=#[.int .i64 (-1),.int .i64 0]) Po 0 _ rfl) 1 _ rfl)
  have hm2:=Yf hm2 F5 (Ne.symm hne)
  have HR:=ja.mk (Yf HR.out F5 (by omega))
  have HX:=ja.mk (Yf HX.out F5 (by omega))
  have HB:ja (Below W.heap.size W W6):=⟨by rw [hW6];exact ua ((HB.out.setCell (by simp;omega) _).setCell (by simp;omega) _)⟩
  clear hW6 F5 cw bw Ex Dx iA gA hx0 hx1 Ek jk Dk Um zm hr0 Mn nD mD Xl Wl Zr Yr oD Wt Vt hz
  have hr0:=(ga HR.out 0).trans rfl
  have Mn:=(ga HR.out 1).trans rfl
  have nD:=(ga HR.out 2).trans rfl
  have mD:=(ga HR.out 3).trans rfl
  have Xl:=aa HR.out 0
  have Wl:=aa HR.out 1
  have Zr:=aa HR.out 2
  have Yr:=aa HR.out 3
  have hx0:=(ga HX.out 0).trans rfl
  have hx1:=(ga HX.out 1).trans rfl
  have Ek:=(ga HX.out 2).trans rfl
  have jk:=(ga HX.out 3).trans rfl
  have Dk:=(ga HX.out 4).trans rfl
  have Um:=(ga HX.out 5).trans rfl
  have zm:=(ga HX.out 6).trans rfl
  have cw:=(ga Po 0).trans rfl
  have bw:=(ga Po 1).trans rfl
  have Ex:=(ga hm2 0).trans rfl
  have Dx:=(ga hm2 1).trans rfl
  rcases Int.lt_trichotomy ((jb xs a).f0) ((jb xs b).f0) with hc|hc|hc
  ·have Ds:¬ ((jb xs b).f0 < (jb xs a).f0):=by omega
   have HC:=ja.mk hc
   go_wp2
   have hz:=HZ.out
   have hpq:=GU.out
   have hc:=HC.out
   obtain rfl:p=(jb xs a).f0:=by omega
   obtain rfl:q=(jb xs b).f0:=by omega
   refine bodyPost_ret (results_cell_row rfl _ _ (W.heap.size + 1) 103 #[.int .i64 n,.int .i64 ((jb xs a).f0),.int .i64 ((jb xs b).f0),.int .i64 (wrap64 ((jb xs a).f1 + (jb xs b).f1))] (0,0) _ rfl ?_ Try.underlying103 rfl (by kernel_rfl)) rfl ?_
   ·exact zb (cs:=#[.int .i64 n,.int .i64 ((jb xs a).f0),.int .i64 ((jb xs b).f0),.int .i64 0]) (zb (cs:=#[.int .i64 n,.int .i64 ((jb xs a).f0),.int .i64 0,.int .i64 0]) (zb (cs:=#[.int .i64 n,.int .i64 0,.int .i64 0,.int .i64 0]) (zb (cs:=#[.int .i64 0,.int .i64 0,.int .i64 0,.int .i64 0]) (by repeat (first|exact HR.out|refine Tc ?_ (by simp;omega) _)) 0 _ rfl) 1 _ rfl) 2 _ rfl) 3 _ rfl
   ·exact ⟨rfl,by repeat (first|exact HB.out|apply ia|apply ua|apply qa|refine Aa ?_ (by first|omega|(simp;done)|(simp;omega)))⟩
  ·have Ds:¬ ((jb xs a).f0 < (jb xs b).f0):=by omega
   have hn2:¬ ((jb xs b).f0 < (jb xs a).f0):=by omega
   have HC:=ja.mk hc
   clear hc
   go_wp2
   have hz:=HZ.out
   have hpq:=GU.out
   have hc:=HC.out
   obtain rfl:p=(jb xs a).f0:=by omega
   obtain rfl:q=(jb xs a).f0:=by omega
   refine bodyPost_ret (results_cell_row rfl _ _ (W.heap.size + 1) 103 #[.int .i64 n,.int .i64 ((jb xs a).f0),.int .i64 ((jb xs a).f0),.int .i64 (wrap64 ((jb xs a).f1 + (jb xs b).f1))] (0,0) _ rfl ?_ Try.underlying103 rfl (by kernel_rfl)) rfl ?_
   ·exact zb (cs:=#[.int .i64 n,.int .i64 ((jb xs a).f0),.int .i64 ((jb xs a).f0),.int .i64 0]) (zb (cs:=#[.int .i64 n,.int .i64 ((jb xs a).f0),.int .i64 0,.int .i64 0]) (zb (cs:=#[.int .i64 n,.int .i64 0,.int .i64 0,.int .i64 0]) (zb (cs:=#[.int .i64 0,.int .i64 0,.int .i64 0,.int .i64 0]) (by repeat (first|exact HR.out|refine Tc ?_ (by simp;omega) _)) 0 _ rfl) 1 _ rfl) 2 _ rfl) 3 _ rfl
   ·exact ⟨rfl,by repeat (first|exact HB.out|apply ia|apply ua|apply qa|refine Aa ?_ (by first|omega|(simp;done)|(simp;omega)))⟩
  ·have Ds:¬ ((jb xs a).f0 < (jb xs b).f0):=by omega
   have HC:=ja.mk hc
   go_wp2
   have hz:=HZ.out
   have hpq:=GU.out
   have hc:=HC.out
   obtain rfl:p=(jb xs b).f0:=by omega
   obtain rfl:q=(jb xs a).f0:=by omega
   refine bodyPost_ret (results_cell_row rfl _ _ (W.heap.size + 1) 103 #[.int .i64 n,.int .i64 ((jb xs b).f0),.int .i64 ((jb xs a).f0),.int .i64 (wrap64 ((jb xs a).f1 + (jb xs b).f1))] (0,0) _ rfl ?_ Try.underlying103 rfl (by kernel_rfl)) rfl ?_
   ·exact zb (cs:=#[.int .i64 n,.int .i64 ((jb xs b).f0),.int .i64 ((jb xs a).f0),.int .i64 0]) (zb (cs:=#[.int .i64 n,.int .i64 ((jb xs b).f0),.int .i64 0,.int .i64 0]) (zb (cs:=#[.int .i64 n,.int .i64 0,.int .i64 0,.int .i64 0]) (zb (cs:=#[.int .i64 0,.int .i64 0,.int .i64 0,.int .i64 0]) (by repeat (first|exact HR.out|refine Tc ?_ (by simp;omega) _)) 0 _ rfl) 1 _ rfl) 2 _ rfl) 3 _ rfl
   ·exact ⟨rfl,by repeat (first|exact HB.out|apply ia|apply ua|apply qa|refine Aa ?_ (by first|omega|(simp;done)|(simp;omega)))⟩
theorem tN (hk:KV W B kb v xs nx) (o d a b c n:Int) (t:ByteArray) (p q:Int) (hp:p=min ((-1)) (jb xs b).f0) (hq:q=max ((-1)) (jb xs b).f0) (ho:(o != 3)=false ∨ ((o != 3)=true∧(o != 4)=false)) (hb0:0 ≤ b) (hb1:b < xs.length) (ha0:¬ 0 ≤ a) :
  Calls Try.prog 107 #[.pointer (some ⟨kb,0,none⟩),.agg #[.int .i64 o,.int .i64 d,.int .i64 a,.int .i64 b,.int .i64 c,.int .i64 n,.string t]] W fun e w'=>e = .returned (.agg #[.int .i64 n,.int .i64 p,.int .i64 q,.int .i64 (wrap64 (jb xs b).f1)])∧Below W.heap.size W w':=by
 rcases ho with h3'|⟨h3',h4'⟩
 all_goals
  have GU:=ja.mk (And.intro hp hq)
  clear hp hq
  obtain ⟨hB,h2,h3⟩:=hk
  have hlt:=Pc h2
  obtain ⟨W1,hW1⟩:∃ W1,W1=(W.alloc (.cells #[.int .i64 o,.int .i64 d,.int .i64 a,.int .i64 b,.int .i64 c,.int .i64 n,.string t] 70 (0,0))).alloc (.cells #[.int .i64 0,.int .i64 0,.int .i64 0,.int .i64 0] 103 (0,0)):=⟨_,rfl⟩
  have HW:=ja.mk hW1
  have Bl:Below W.heap.size W W1:=by rw [hW1];exact qa (qa (Below.refl _ _) _) _
  have hz:W1.heap.size=W.heap.size + 2:=by rw [hW1];simp
  have Ig:=ja.mk (Ya h2 Bl)
  have oD:=(ga Ig.out 0).trans rfl
  have iq:W1.heap[W.heap.size + 1]? = some (.cells #[.int .i64 0,.int .i64 0,.int .i64 0,.int .i64 0] 103 (0,0)):=by rw [hW1];have:=Me (W.alloc (.cells #[.int .i64 o,.int .i64 d,.int .i64 a,.int .i64 b,.int .i64 c,.int .i64 n,.string t] 70 (0,0))) (.cells #[.int .i64 0,.int .i64 0,.int .i64 0,.int .i64 0] 103 (0,0));simpa using this
  have Bi:W1.heap[W.heap.size]? = some (.cells #[.int .i64 o,.int .i64 d,.int .i64 a,.int .i64 b,.int .i64 c,.int .i64 n,.string t] 70 (0,0)):=by rw [hW1];exact Fa (Me _ _) _
  have HR:=ja.mk iq
  have HX:=ja.mk Bi
  obtain ⟨A,cc,rfl,_,hC⟩:=Kd.Zn (Kd.Ue h3 Bl)
  have FN:=hC.2.1
  obtain ⟨ad,e1,Wp,Vp⟩:=ru hC b hb0 hb1
  cases e1
  obtain ⟨g,rfl⟩:=Kd.fq h3
  have aN:=ja.mk hC
  have HN:g < W.heap.size:=by
   obtain ⟨inner,hi⟩:=Kd.ju h3
   exact zw hi g (by simp [Value.ownBlock])
  simp only [add_plain] at Wp Vp
  have oL:kb ≠ W1.heap.size:=by omega
  have nL:kb ≠ W1.heap.size + 1:=by omega
  have BA:g ≠ W1.heap.size:=by omega
  have AE:g ≠ W1.heap.size + 1:=by omega
  have hw1:W.heap.size ≠ W1.heap.size:=by omega
  have gV:W.heap.size ≠ W1.heap.size + 1:=by omega
  have fV:W.heap.size + 1 ≠ W1.heap.size:=by omega
  have eV:W.heap.size + 1 ≠ W1.heap.size + 1:=by omega
  have HB:=ja.mk Bl
  have HZ:=ja.mk hz
  clear hC hW1 iq Bi h2 h3 Bl hz
  have hr0:=(ga HR.out 0).trans rfl
  have Mn:=(ga HR.out 1).trans rfl
  have nD:=(ga HR.out 2).trans rfl
  have mD:=(ga HR.out 3).trans rfl
  have Xl:=aa HR.out 0
  have Wl:=aa HR.out 1
  have Zr:=aa HR.out 2
  have Yr:=aa HR.out 3
  have hx0:=(ga HX.out 0).trans rfl
  have hx1:=(ga HX.out 1).trans rfl
  have Ek:=(ga HX.out 2).trans rfl
  have jk:=(ga HX.out 3).trans rfl
  have Dk:=(ga HX.out 4).trans rfl
  have Um:=(ga HX.out 5).trans rfl
  have zm:=(ga HX.out 6).trans rfl
  go_enter Try.func107,Try.ntmps107
  go_upto_region 1 with (fail)
  rw [← HW.out]
  clear HW
  go_upto_region 3 with (fail)
  have jj:=ja.mk (ua (Below.refl W1.heap.size W1))
  have hd1:W1.cell? ⟨kb,0,none⟩=some (.slice (some ⟨g,0,none⟩) xs.length cc):=oD
  have hd3:W1.cell? ⟨W.heap.size,3,none⟩=some (.int .i64 b):=jk
  have HG:=ja.mk (fun (W3:World) (h:Below W1.heap.size W1 W3)=>(⟨Zd h hd1,Zd h hd3,Zd h Wp,Zd h Vp⟩:W3.cell? ⟨kb,0,none⟩=some (.slice (some ⟨g,0,none⟩) xs.length cc)∧W3.cell? ⟨W.heap.size,3,none⟩=some (.int .i64 b)∧W3.cell? ⟨g,b.toNat * 2,none⟩=some (.int .i64 (jb xs b).f0)∧W3.cell? ⟨g,b.toNat * 2 + 1,none⟩=some (.int .i64 (jb xs b).f1)))
  refine Oi (n:=13) (S:=fun w'=>w'.cell? ⟨kb,0,none⟩=some (.slice (some ⟨g,0,none⟩) xs.length cc)∧w'.cell? ⟨W.heap.size,3,none⟩=some (.int .i64 b)∧w'.cell? ⟨g,b.toNat * 2,none⟩=some (.int .i64 (jb xs b).f0)∧w'.cell? ⟨g,b.toNat * 2 + 1,none⟩=some (.int .i64 (jb xs b).f1)) (ds:=[12]) #[false,false,false,false,false,false,false,false,false,false,false,false,false] (by kernel_rfl) rfl rfl ⟨hd1,hd3,Wp,Vp⟩ (fun hHeld=>?_)
  refine Nc (i:=0) (N:=some 16) (v:=?_) (a':=?_) #[true,false,false,false,false,false,false,false,false,false,false,false,false] rfl rfl (by kernel_rfl) (fun _ _ _ h=>h) (Or.inl ⟨by rfl,?_⟩) ?_ ?_
  rotate_left
  ·intro w'
   go_simp
   with_reducible rfl
  rotate_left
  ·simp only [Act.put,List.setIfInBounds_toArray,List.set_cons_zero,List.set_cons_succ,Bb,Cb]
   rfl
  refine Nc (i:=1) (N:=some 17) (v:=?_) (a':=?_) #[true,true,false,false,false,false,false,false,false,false,false,false,false] rfl rfl (by kernel_rfl) (fun _ _ _ h=>h) (Or.inl ⟨by rfl,?_⟩) ?_ ?_
  rotate_left
  ·intro w'
   go_simp
   with_reducible rfl
  rotate_left
  ·simp only [Act.put,List.setIfInBounds_toArray,List.set_cons_zero,List.set_cons_succ,Bb,Cb]
   rfl
  refine Nc (i:=2) (N:=some 18) (v:=?_) (a':=?_) #[true,true,true,false,false,false,false,false,false,false,false,false,false] rfl rfl (by kernel_rfl) (fun _ _ _ h=>h) (Or.inl ⟨by rfl,?_⟩) ?_ ?_
  rotate_left
  ·intro w'
   go_simp
   with_reducible rfl
  rotate_left
  ·simp only [Act.put,List.setIfInBounds_toArray,List.set_cons_zero,List.set_cons_succ,Bb,Cb]
   rfl
  refine Nc (i:=3) (N:=some 19) (v:=?_) (a':=?_) #[true,true,true,true,false,false,false,false,false,false,false,false,false] rfl rfl (by kernel_rfl) (fun _ _ _ h=>h) (Or.inl ⟨by rfl,?_⟩) ?_ ?_
  rotate_left
  ·intro w'
   go_simp
   with_reducible rfl
  rotate_left
  ·simp only [Act.put,List.setIfInBounds_toArray,List.set_cons_zero,List.set_cons_succ,Bb,Cb]
   rfl
  refine Nc (i:=5) (N:=some 21) (v:=?_) (a':=?_) #[true,true,true,true,false,true,false,false,false,false,false,false,false] rfl rfl (by kernel_rfl) (fun _ _ _ h=>h) (Or.inl ⟨by rfl,?_⟩) ?_ ?_
  rotate_left
  ·intro w'
   go_simp
   with_reducible rfl
  rotate_left
  ·simp only [Act.put,List.setIfInBounds_toArray,List.set_cons_zero,List.set_cons_succ,Bb,Cb]
   rfl
  refine Lf (i:=4) (N:=some 20) (v:=?_) (a':=?_) #[true,true,true,true,true,true,false,false,false,false,false,false,false] rfl rfl (by kernel_rfl) (fun _ _ _ h=>h) (Or.inl ⟨by rfl,?_⟩) hHeld ?_ ?_
  rotate_left
  ·rintro w' ⟨s0,s1,s2,s3⟩
   go_simp
   with_reducible rfl
  rotate_left
  ·simp only [Act.put,List.setIfInBounds_toArray,List.set_cons_zero,List.set_cons_succ,Bb,Cb]
   rfl
  refine Lf (i:=6) (N:=some 22) (v:=?_) (a':=?_) #[true,true,true,true,true,true,true,false,false,false,false,false,false] rfl rfl (by kernel_rfl) (fun _ _ _ h=>h) (Or.inl ⟨by rfl,?_⟩) hHeld ?_ ?_
  rotate_left
  ·rintro w' ⟨s0,s1,s2,s3⟩
   go_simp
   with_reducible rfl
  rotate_left
  ·simp only [Act.put,List.setIfInBounds_toArray,List.set_cons_zero,List.set_cons_succ,Bb,Cb]
   rfl
  refine Nc (i:=7) (N:=some 23) (v:=?_) (a':=?_) #[true,true,true,true,true,true,true,true,false,false,false,false,false] rfl rfl (by kernel_rfl) (fun _ _ _ h=>h) (Or.inl ⟨by rfl,?_⟩) ?_ ?_
  rotate_left
  ·intro w'
   go_simp
   with_reducible rfl
  rotate_left
  ·simp only [Act.put,List.setIfInBounds_toArray,List.set_cons_zero,List.set_cons_succ,Bb,Cb]
   rfl
  refine Lf (i:=8) (N:=some 24) (v:=?_) (a':=?_) #[true,true,true,true,true,true,true,true,true,false,false,false,false] rfl rfl (by kernel_rfl) (fun _ _ _ h=>h) (Or.inl ⟨by rfl,?_⟩) hHeld ?_ ?_
  rotate_left
  ·rintro w' ⟨s0,s1,s2,s3⟩
   go_simp
   with_reducible rfl
  rotate_left
  ·simp only [Act.put,List.setIfInBounds_toArray,List.set_cons_zero,List.set_cons_succ,Bb,Cb]
   rfl
  refine IG (σ:=Nat × Nat) 2 #[true,true,true,true,true,true,true,true,true,true,true,false,false] (fun s=>[(5,.pointer (some ⟨s.1,0,none⟩)),(6,.pointer (some ⟨s.2,0,none⟩))]) (fun s w'=>w' = (W1.drew.alloc (.cells #[.int .i64 0,.int .i64 0] 79 (0,0))).alloc (.cells #[.int .i64 0,.int .i64 0] 79 (0,0))∧((s.1=W1.heap.size∧s.2=W1.heap.size + 1) ∨ (s.1=W1.heap.size + 1∧s.2=W1.heap.size))) ?_ ?_
  rotate_left
  ·intro Ss
   refine kN (i:=9) (j:=10) (Ni:=some 5) (Nj:=some 6) #[true,true,true,true,true,true,true,true,true,true,false,false,false] #[true,true,true,true,true,true,true,true,true,false,true,false,false] rfl rfl rfl rfl (by kernel_rfl) (by decide) (by decide) (fun K hK=>?_) (fun K hK=>?_)
   ·skip
    refine Ck (w1:=?_) (v:=?_) (by rfl) rfl ?_ ?_
    rotate_left 2
    ·go_simp
     constructor
     ·rfl
     ·rfl
    refine hK.out _ _ ⟨(HG.out _ (qa jj.out _)).1,(HG.out _ (qa jj.out _)).2.1,(HG.out _ (qa jj.out _)).2.2.1,(HG.out _ (qa jj.out _)).2.2.2⟩ (fun hHeld=>?_)
    clear hK K
    refine Mg (a':=?_) ?_ ?_
    rotate_left
    ·show Act.put _ (some 5) _=_
     simp only [Act.put,List.setIfInBounds_toArray,List.set_cons_zero,List.set_cons_succ,Bb,Cb]
     rfl
    refine gm (i:=10) (N:=some 6) #[true,true,true,true,true,true,true,true,true,true,true,false,false] rfl rfl (by kernel_rfl) (by decide) (fun K hK=>?_)
    refine Ck (w1:=?_) (v:=?_) (by rfl) rfl ?_ ?_
    rotate_left 2
    ·go_simp
     constructor
     ·rfl
     ·rfl
    refine hK.out _ _ ⟨(HG.out _ (qa (qa jj.out _) _)).1,(HG.out _ (qa (qa jj.out _) _)).2.1,(HG.out _ (qa (qa jj.out _) _)).2.2.1,(HG.out _ (qa (qa jj.out _) _)).2.2.2⟩ (fun hHeld=>?_)
    clear hK K
    refine Mg (a':=?_) ?_ ?_
    rotate_left
    ·show Act.put _ (some 6) _=_
     simp only [Act.put,List.setIfInBounds_toArray,List.set_cons_zero,List.set_cons_succ,Bb,Cb]
     rfl
    exact Mg (by simp only [yl,Act.put,List.setIfInBounds_toArray,List.set_cons_zero,List.set_cons_succ]) (Ss (W1.heap.size,W1.heap.size + 1) _ ⟨rfl,Or.inl ⟨rfl,rfl⟩⟩)
   ·skip
    refine Ck (w1:=?_) (v:=?_) (by rfl) rfl ?_ ?_
    rotate_left 2
    ·go_simp
     constructor
     ·rfl
     ·rfl
    refine hK.out _ _ ⟨(HG.out _ (qa jj.out _)).1,(HG.out _ (qa jj.out _)).2.1,(HG.out _ (qa jj.out _)).2.2.1,(HG.out _ (qa jj.out _)).2.2.2⟩ (fun hHeld=>?_)
    clear hK K
    refine Mg (a':=?_) ?_ ?_
    rotate_left
    ·show Act.put _ (some 6) _=_
     simp only [Act.put,List.setIfInBounds_toArray,List.set_cons_zero,List.set_cons_succ,Bb,Cb]
     rfl
    refine gm (i:=9) (N:=some 5) #[true,true,true,true,true,true,true,true,true,true,true,false,false] rfl rfl (by kernel_rfl) (by decide) (fun K hK=>?_)
    refine Ck (w1:=?_) (v:=?_) (by rfl) rfl ?_ ?_
    rotate_left 2
    ·go_simp
     constructor
     ·rfl
     ·rfl
    refine hK.out _ _ ⟨(HG.out _ (qa (qa jj.out _) _)).1,(HG.out _ (qa (qa jj.out _) _)).2.1,(HG.out _ (qa (qa jj.out _) _)).2.2.1,(HG.out _ (qa (qa jj.out _) _)).2.2.2⟩ (fun hHeld=>?_)
    clear hK K
    refine Mg (a':=?_) ?_ ?_
    rotate_left
    ·show Act.put _ (some 5) _=_
     simp only [Act.put,List.setIfInBounds_toArray,List.set_cons_zero,List.set_cons_succ,Bb,Cb]
     rfl
    exact Mg (by simp only [yl,Act.put,List.setIfInBounds_toArray,List.set_cons_zero,List.set_cons_succ]) (Ss (W1.heap.size + 1,W1.heap.size) _ ⟨rfl,Or.inr ⟨rfl,rfl⟩⟩)
  rintro ⟨s1,s2⟩ W3 ⟨om,hs⟩
  simp only at hs
  have hne:s1 ≠ s2:=by omega
  have kz:W1.heap.size ≤ s1:=by omega
  have jz:W1.heap.size ≤ s2:=by omega
  have DF:Below W1.heap.size W1 W3:=by rw [om];exact qa (qa jj.out _) _
  have Ds:W3.heap[s1]? = some (.cells #[.int .i64 0,.int .i64 0] 79 (0,0)):=by
   rw [om]
   rcases hs with ⟨e,_⟩|⟨e,_⟩
   ·rw [e];exact Fa (Me W1.drew _) _
   ·rw [e];have:=Me (W1.drew.alloc (.cells #[.int .i64 0,.int .i64 0] 79 (0,0))) (.cells #[.int .i64 0,.int .i64 0] 79 (0,0));simpa using this
  have hn2:W3.heap[s2]? = some (.cells #[.int .i64 0,.int .i64 0] 79 (0,0)):=by
   rw [om]
   rcases hs with ⟨_,e⟩|⟨_,e⟩
   ·rw [e];have:=Me (W1.drew.alloc (.cells #[.int .i64 0,.int .i64 0] 79 (0,0))) (.cells #[.int .i64 0,.int .i64 0] 79 (0,0));simpa using this
   ·rw [e];exact Fa (Me W1.drew _) _
  clear om hs
  have vE:=ja.mk DF
  have hHeld:=HG.out W3 DF
  have Ow:=ja.mk Ds
  have GM:=ja.mk hn2
  clear DF Ds hn2
  refine Mg (a':=?_) ?_ ?_
  rotate_left
  ·simp only [yl,Act.put,List.setIfInBounds_toArray,List.set_cons_zero,List.set_cons_succ]
   rfl
  refine gm (i:=11) (N:=none) #[true,true,true,true,true,true,true,true,true,true,true,true,false] rfl rfl (by kernel_rfl) (by decide) (fun K hK=>?_)
  have AF:=(ga Ow.out 0).trans rfl
  have zF:=(ga Ow.out 1).trans rfl
  have qF:=aa Ow.out 0
  have pF:=aa Ow.out 1
  refine Hs (w1:=?_) (by rfl) rfl ?_ ?_
  rotate_left
  ·go_simp
   rfl
  have jo:=ja.mk (show Below W1.heap.size W1 ((W3.setCell ⟨s1,0,none⟩ (.int .i64 (-1))).setCell ⟨s1,1,none⟩ (.int .i64 0)) from (vE.out.setCell kz _).setCell kz _)
  have HM:=ja.mk (zb (cs:=#[.int .i64 (-1),.int .i64 0]) (zb (cs:=#[.int .i64 0,.int .i64 0]) Ow.out 0 (.int .i64 (-1)) rfl) 1 (.int .i64 0) rfl)
  have Pw:=ja.mk (Tc (p:=⟨s1,1,none⟩) (Tc (p:=⟨s1,0,none⟩) GM.out (Ne.symm hne) (.int .i64 (-1))) (Ne.symm hne) (.int .i64 0))
  clear AF zF qF pF
  refine hK.out _ _ ⟨(HG.out _ jo.out).1,(HG.out _ jo.out).2.1,(HG.out _ jo.out).2.2.1,(HG.out _ jo.out).2.2.2⟩ (fun hHeld=>?_)
  clear hK K
  refine cz (i:=12) (N:=none) #[true,true,true,true,true,true,true,true,true,true,true,true,true] rfl rfl (by kernel_rfl) (by decide) (fun K hK=>?_)
  have yF:=(ga Pw.out 0).trans rfl
  have xF:=(ga Pw.out 1).trans rfl
  have oF:=aa Pw.out 0
  have nF:=aa Pw.out 1
  refine Hs (w1:=?_) (by rfl) rfl ?_ ?_
  rotate_left
  ·go_simp
   rfl
  refine hK.out _ _ ?_
  clear hK K
  refine Mk (by kernel_rfl) ?_
  obtain ⟨W5,hW5⟩:∃ W5,W5=(((W3.setCell ⟨s1,0,none⟩ (.int .i64 (-1))).setCell ⟨s1,1,none⟩ (.int .i64 0)).setCell ⟨s2,0,none⟩ (.int .i64 (jb xs b).f0)).setCell ⟨s2,1,none⟩ (.int .i64 (jb xs b).f1):=⟨_,rfl⟩
  rw [← hW5]
  have Es:Below W1.heap.size W1 W5:=by rw [hW5];exact (jo.out.setCell jz _).setCell jz _
  have Po:W5.heap[s1]? = some (.cells #[.int .i64 (-1),.int .i64 0] 79 (0,0)):=by rw [hW5];exact Tc (p:=⟨s2,1,none⟩) (Tc (p:=⟨s2,0,none⟩) HM.out hne _) hne _
  have hm2:W5.heap[s2]? = some (.cells #[.int .i64 (jb xs b).f0,.int .i64 (jb xs b).f1] 79 (0,0)):=by rw [hW5];exact zb (cs:=#[.int .i64 (jb xs b).f0,.int .i64 0]) (zb (cs:=#[.int .i64 0,.int .i64 0]) Pw.out 0 _ rfl) 1 _ rfl
  clear hW5 HM Pw Ow GM yF xF oF nF jo vE hd1 hd3 Wp Vp hx0 hx1 Ek jk Dk Um zm hr0 Mn nD mD Xl Wl Zr Yr oD HG jj
  have HR:=ja.mk (Ya HR.out Es)
  have HX:=ja.mk (Ya HX.out Es)
  have Ig:=ja.mk (Ya Ig.out Es)
  have aN:=ja.mk (Kd.Mb aN.out Es)
  have HB:=ja.mk (Na HB.out Es)
  clear Es
  have oD:=(ga Ig.out 0).trans rfl
  have hr0:=(ga HR.out 0).trans rfl
  have Mn:=(ga HR.out 1).trans rfl
  have nD:=(ga HR.out 2).trans rfl
  have mD:=(ga HR.out 3).trans rfl
  have Xl:=aa HR.out 0
  have Wl:=aa HR.out 1
  have Zr:=aa HR.out 2
  have Yr:=aa HR.out 3
  have hx0:=(ga HX.out 0).trans rfl
  have hx1:=(ga HX.out 1).trans rfl
  have Ek:=(ga HX.out 2).trans rfl
  have jk:=(ga HX.out 3).trans rfl
  have Dk:=(ga HX.out 4).trans rfl
  have Um:=(ga HX.out 5).trans rfl
  have zm:=(ga HX.out 6).trans rfl
  have cw:=(ga Po 0).trans rfl
  have bw:=(ga Po 1).trans rfl
  have iA:=aa Po 0
  have gA:=aa Po 1
  have Ex:=(ga hm2 0).trans rfl
  have Dx:=(ga hm2 1).trans rfl
  have hge:decide (a ≥ 0)=false:=decide_eq_false ha0
  rcases Int.lt_trichotomy ((-1)) ((jb xs b).f0) with hc|hc|hc
  ·have Ds:¬ ((jb xs b).f0 < (-1)):=by omega
   have HC:=ja.mk hc
   go_wp2
   have hz:=HZ.out
   have hpq:=GU.out
   have hc:=HC.out
   obtain rfl:p=(-1):=by omega
   obtain rfl:q=(jb xs b).f0:=by omega
   refine bodyPost_ret (results_cell_row rfl _ _ (W.heap.size + 1) 103 #[.int .i64 n,.int .i64 ((-1)),.int .i64 ((jb xs b).f0),.int .i64 (wrap64 (jb xs b).f1)] (0,0) _ rfl ?_ Try.underlying103 rfl (by kernel_rfl)) rfl ?_
   ·exact zb (cs:=#[.int .i64 n,.int .i64 ((-1)),.int .i64 ((jb xs b).f0),.int .i64 0]) (zb (cs:=#[.int .i64 n,.int .i64 ((-1)),.int .i64 0,.int .i64 0]) (zb (cs:=#[.int .i64 n,.int .i64 0,.int .i64 0,.int .i64 0]) (zb (cs:=#[.int .i64 0,.int .i64 0,.int .i64 0,.int .i64 0]) (by repeat (first|exact HR.out|refine Tc ?_ (by simp;omega) _)) 0 _ rfl) 1 _ rfl) 2 _ rfl) 3 _ rfl
   ·exact ⟨rfl,by repeat (first|exact HB.out|apply ia|apply ua|apply qa|refine Aa ?_ (by first|omega|(simp;done)|(simp;omega)))⟩
  ·have Ds:¬ ((-1) < (jb xs b).f0):=by omega
   have hn2:¬ ((jb xs b).f0 < (-1)):=by omega
   have HC:=ja.mk hc
   clear hc
   go_wp2
   have hz:=HZ.out
   have hpq:=GU.out
   have hc:=HC.out
   obtain rfl:p=(-1):=by omega
   obtain rfl:q=(-1):=by omega
   refine bodyPost_ret (results_cell_row rfl _ _ (W.heap.size + 1) 103 #[.int .i64 n,.int .i64 ((-1)),.int .i64 ((-1)),.int .i64 (wrap64 (jb xs b).f1)] (0,0) _ rfl ?_ Try.underlying103 rfl (by kernel_rfl)) rfl ?_
   ·exact zb (cs:=#[.int .i64 n,.int .i64 ((-1)),.int .i64 ((-1)),.int .i64 0]) (zb (cs:=#[.int .i64 n,.int .i64 ((-1)),.int .i64 0,.int .i64 0]) (zb (cs:=#[.int .i64 n,.int .i64 0,.int .i64 0,.int .i64 0]) (zb (cs:=#[.int .i64 0,.int .i64 0,.int .i64 0,.int .i64 0]) (by repeat (first|exact HR.out|refine Tc ?_ (by simp;omega) _)) 0 _ rfl) 1 _ rfl) 2 _ rfl) 3 _ rfl
   ·exact ⟨rfl,by repeat (first|exact HB.out|apply ia|apply ua|apply qa|refine Aa ?_ (by first|omega|(simp;done)|(simp;omega)))⟩
  ·have Ds:¬ ((-1) < (jb xs b).f0):=by omega
   have HC:=ja.mk hc
   go_wp2
   have hz:=HZ.out
   have hpq:=GU.out
   have hc:=HC.out
   obtain rfl:p=(jb xs b).f0:=by omega
   obtain rfl:q=(-1):=by omega
   refine bodyPost_ret (results_cell_row rfl _ _ (W.heap.size + 1) 103 #[.int .i64 n,.int .i64 ((jb xs b).f0),.int .i64 ((-1)),.int .i64 (wrap64 (jb xs b).f1)] (0,0) _ rfl ?_ Try.underlying103 rfl (by kernel_rfl)) rfl ?_
   ·exact zb (cs:=#[.int .i64 n,.int .i64 ((jb xs b).f0),.int .i64 ((-1)),.int .i64 0]) (zb (cs:=#[.int .i64 n,.int .i64 ((jb xs b).f0),.int .i64 0,.int .i64 0]) (zb (cs:=#[.int .i64 n,.int .i64 0,.int .i64 0,.int .i64 0]) (zb (cs:=#[.int .i64 0,.int .i64 0,.int .i64 0,.int .i64 0]) (by repeat (first|exact HR.out|refine Tc ?_ (by simp;omega) _)) 0 _ rfl) 1 _ rfl) 2 _ rfl) 3 _ rfl
   ·exact ⟨rfl,by repeat (first|exact HB.out|apply ia|apply ua|apply qa|refine Aa ?_ (by first|omega|(simp;done)|(simp;omega)))⟩
theorem DD (hk:KV W B kb v xs nx) (x:yf) (h:x.f0=3 ∨ x.f0=4→(0 ≤ x.f3∧x.f3 < xs.length)∧x.f2 < xs.length) :
  Calls Try.prog 107 #[.pointer (some ⟨kb,0,none⟩),.agg #[.int .i64 x.f0,.int .i64 x.f1,.int .i64 x.f2,.int .i64 x.f3,.int .i64 x.f4,.int .i64 x.f5,.string x.f6]] W fun e w'=>e = .returned (.agg #[.int .i64 (Il xs x).f0,.int .i64 (Il xs x).f1,.int .i64 (Il xs x).f2,.int .i64 (Il xs x).f3])∧Below W.heap.size W w':=by
 unfold Il
 by_cases ho:x.f0=3 ∨ x.f0=4
 ·obtain ⟨⟨b0,b1⟩,a1⟩:=h ho
  have ho':(x.f0 != 3)=false ∨ ((x.f0 != 3)=true∧(x.f0 != 4)=false):=by
   rcases ho with ho|ho
   ·exact Or.inl (by simp [ho])
   ·exact Or.inr ⟨by simp [ho],by simp [ho]⟩
  rw [if_pos ho]
  by_cases ha:0 ≤ x.f2
  ·rw [if_pos ha]
   exact uN hk _ _ _ _ _ _ _ _ _ rfl rfl ho' b0 b1 ha a1
  ·rw [if_neg ha]
   exact tN hk _ _ _ _ _ _ _ _ _ rfl rfl ho' b0 b1 ha
 ·rw [if_neg ho]
  exact AK hk _ _ _ _ _ _ _ (by simp;exact fun e=>ho (Or.inl e)) (by simp;exact fun e=>ho (Or.inr e))
end
end Go.Proofs.Ytmifdccaajngcaa.P
end
