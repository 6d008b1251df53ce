import Derived.Test.YtoomcmaifgkkfaaQRules1
import Derived.Test.YtoomcmaifgkkfaaQRules9
import Derived.Test.YtoomcmaifgkkfaaQRules8
import Derived.Test.YtoomcmaifgkkfaaQRules7
import Derived.Shelf.Abstract
import Derived.Outline
import Derived.Test.YtoomcmaifgkkfaaQRules4
import Derived.RegionTactic
import Derived.Deep.QuietTactic
import Derived.BigQuiet
import Derived.Test.YtoomcmaifgkkfaaQRules5
set_option maxHeartbeats 8000000
set_option maxRecDepth 100000
section
namespace Go.Proofs.Ytoomcmaifgkkfaa.P
open Go.RowKit Go.Proofs.Ia.Qb Go.Proofs.Ia.Od Go.Proofs.Ia.Re
set_option linter.unusedVariables false
set_option linter.unusedSimpArgs false
theorem Rt (a:Int):(strOfNums [a]).size=1:=by
 simp [strOfNums]
 rfl
theorem tC (n:Int) (hn:n ≤ 4611686018427387904):∃ t,Ev (fun k=>Xc.f k n) t:=by
 have key:∀ (d:Nat) (x:Int) (s:ByteArray),0 ≤ x→x < (10 ^ d:Nat)→x ≤ 4611686018427387904→s.size + d ≤ 1000000→∃ t,Ev (fun k=>Xc.l0 k x s) t:=by
  intro d
  induction d with
  | zero =>
   intro x s h0 h1 _ hs;have h1':x < 1:=h1;refine ⟨_,Ev.step (fun k=>by rw [Xc.l0]) (Ev.neg (by omega) (Ev.pos (by omega) (Ev.now _)))⟩
  | succ d ih =>
   intro x s h0 h1 h2 hs
   by_cases hx:x > 0
   ·have e1:Int.tdiv x 10=x / 10:=Int.tdiv_eq_ediv_of_nonneg h0;have e2:wrap64 (x / 10)=x / 10:=pg (by omega) (by omega)
    have h1':x / 10 < (10 ^ d:Nat):=by
     have:((10 ^ (d + 1):Nat):Int)=(10 ^ d:Nat) * 10:=by rw [Nat.pow_succ];simp
     rw [this] at h1;omega
    obtain ⟨t,ht⟩:=ih (x / 10) (strOfNums [(wrap64 (48 + (Int.tmod x 10))) % 256] ++ s) (by omega) h1' (by omega) (by rw [ByteArray.size_append,Rt];omega);refine ⟨t,Ev.step (fun k=>by rw [Xc.l0]) (Ev.pos hx ?_)⟩;simp only [Option.bind_some];refine Ev.pos (by rw [Rt];omega) ?_;rw [e1,e2];exact ht
   ·exact ⟨_,Ev.step (fun k=>by rw [Xc.l0]) (Ev.neg hx (Ev.pos (by omega) (Ev.now _)))⟩
 unfold Xc.f
 by_cases h:n ≤ 0
 ·exact ⟨_,Ev.pos h (Ev.now _)⟩
 ·obtain ⟨t,ht⟩:=key 19 n ⟨#[]⟩ (by omega) (by omega) hn (by decide);exact ⟨t,Ev.neg h ht⟩
def Yh (T:Nat→ByteArray) (m:Int) (n:Nat):List Vc:=(List.range n).map fun (j:Nat)=>(⟨m + 7 * (j:Int),m + 7 * (j:Int) + 1,m + 7 * (j:Int) + 2,m + 7 * (j:Int) + 3,m + 7 * (j:Int) + 4,m + 7 * (j:Int) + 5,T j⟩:Vc)
theorem Xh (T:Nat→ByteArray) (m:Int) (n:Nat):(Yh T m n).length=n:=by simp [Yh]
theorem iA {T:Nat→ByteArray} {m:Int} {n j:Nat} (h:j < n):(Yh T m n).getD j Cj=(⟨m + 7 * (j:Int),m + 7 * (j:Int) + 1,m + 7 * (j:Int) + 2,m + 7 * (j:Int) + 3,m + 7 * (j:Int) + 4,m + 7 * (j:Int) + 5,T j⟩:Vc):=by simp [Yh,List.getD_eq_getElem?_getD,h]
theorem lC {x:List Vc} {i:Nat} (h:i < x.length) (a:Vc):Ba (x.set i a) (i:Int)=a:=by
 simp [Ba,List.getD_eq_getElem?_getD,h]
theorem K5 {a:Int} (h0:0 ≤ a) (h1:a + 7 ≤ 4611686018427387904):wrap64 (a + 1)=a + 1∧wrap64 (a + 1 + 1)=a + 2∧wrap64 (a + 2 + 1)=a + 3∧wrap64 (a + 3 + 1)=a + 4∧wrap64 (a + 4 + 1)=a + 5∧wrap64 (a + 5 + 1)=a + 6∧wrap64 (a + 6 + 1)=a + 7:=by
 refine ⟨?_,?_,?_,?_,?_,?_,?_⟩
 all_goals
  rw [pg (by omega) (by omega)]
  try omega
def qN (l:List zf):Nat:=(l.map fun x=>7 * x.f0.length + 4).sum
theorem dA (x:zf) (l:List zf):qN (x :: l)=7 * x.f0.length + 4 + qN l:=by simp [qN]
theorem L5 {a:Int} (h0:0 ≤ a) (h1:a + 4 ≤ 4611686018427387904):wrap64 (a + 1)=a + 1∧wrap64 (a + 1 + 1)=a + 2∧wrap64 (a + 2 + 1)=a + 3∧wrap64 (a + 3 + 1)=a + 4:=by
 refine ⟨?_,?_,?_,?_⟩
 all_goals
  rw [pg (by omega) (by omega)]
  try omega
theorem mB (l:List Vc) (m:Int) (hm:0 ≤ m) (hl:m + 7 * l.length ≤ 4611686018427387904):∃ ms:List Vc,Ev (fun k=>Nc.f k l m) (m + 7 * l.length,ms):=by
 have hT:∀ j:Nat,∃ t,j < l.length→Ev (fun k=>Xc.f k (m + 7 * (j:Int) + 6)) t:=by
  intro j
  by_cases hj:j < l.length
  ·obtain ⟨t,ht⟩:=tC (m + 7 * (j:Int) + 6) (by omega);exact ⟨t,fun _=>ht⟩
  ·exact ⟨⟨#[]⟩,fun h=>absurd h hj⟩
 obtain ⟨T,hT⟩:=Classical.axiomOfChoice hT;refine ⟨Yh T m l.length,?_⟩
 ·have key:=Qg (r:=(m + 7 * (l.length:Int),Yh T m l.length)) (n:=l.length) (fun i=>Ev (fun k=>Nc.l0 k ((Yh T m l.length).take i ++ l.drop i) (m + 7 * i) (i:Int)) (m + 7 * (l.length:Int),Yh T m l.length)) ?_ ?_ 0 (by omega)
  ·refine Ev.congr (fun k=>?_) key;unfold Nc.f;simp
  ·refine Ev.step (fun k=>by rw [Nc.l0]) ?_;refine Ev.neg (by simp [Xh]) ?_;rw [List.drop_length,List.append_nil,List.take_of_length_le (by rw [Xh];omega)];exact Ev.now _
  ·intro i hi h;have hlen:((Yh T m l.length).take i ++ l.drop i).length=l.length:=by simp [Xh];omega
   have nA:=JF (m:=Yh T m l.length) (l:=l) (z:=Cj) (i:=i) (by rw [Xh]) (by rw [Xh];exact hi);rw [iA hi] at nA;generalize hx:(Yh T m l.length).take i ++ l.drop i=x at hlen nA ⊢;refine Ev.step (fun k=>by rw [Nc.l0]) ?_;refine Ev.pos (by omega) (Ev.pos (by omega) ?_);simp only [Int.toNat_natCast,Option.bind_some];have hi1:i < x.length:=by omega
   simp only [lC hi1,List.set_set];obtain ⟨w1,w2,w3,w4,w5,w6,w7⟩:=K5 (a:=m + 7 * (i:Int)) (by omega) (by omega);simp only [w1,w2,w3,w4,w5,w6,w7];refine Ev.bind (hT i hi) ?_;rw [Ie hi (by omega),show m + 7 * (i:Int) + 7=m + 7 * ((i + 1:Nat):Int) from by omega,nA];exact h
theorem oB (l:List zf):∀ (m:Int),0 ≤ m→m + qN l ≤ 4611686018427387904→∃ ms:List zf,Ev (fun k=>Cf.f k l m) (m + qN l,ms):=by
 induction l with
 | nil =>
  intro m hm hl;refine ⟨[],?_⟩;unfold Cf.f;simp only [qN,List.map_nil,List.sum_nil,Int.natCast_zero,Int.add_zero];exact Ev.now _
 | cons x l ih =>
  intro m hm hl;rw [dA] at hl;obtain ⟨c,c1⟩:=mB x.f0 m hm (by omega);obtain ⟨ms,m1⟩:=ih (m + 7 * x.f0.length + 4) (by omega) (by omega);obtain ⟨w1,w2,w3,w4⟩:=L5 (a:=m + 7 * (x.f0.length:Int)) (by omega) (by omega);have hv:m + ((7 * x.f0.length + 4 + qN l:Nat):Int)=m + 7 * (x.f0.length:Int) + 4 + qN l:=by omega
  rw [dA,hv];refine ⟨⟨c,m + 7 * x.f0.length,m + 7 * x.f0.length + 1,m + 7 * x.f0.length + 2,m + 7 * x.f0.length + 3⟩ :: ms,?_⟩;unfold Cf.f;refine Ev.bind c1 ?_;simp only [w1,w2,w3,w4];exact Ev.bind m1 (Ev.now _)
theorem nB (l0:List Int) (p v s:Int) (l4:List zf) (m:Int) (hm:0 ≤ m) (hl:m + l0.length + qN l4 ≤ 4611686018427387904):∃ ms:List zf,Ev (fun k=>Mg.f k l0 p v s l4 m) (m + l0.length + qN l4,iota m l0.length,ms):=by
 obtain ⟨ms,m1⟩:=oB l4 (m + l0.length) (by omega) (by omega);refine ⟨ms,?_⟩;unfold Mg.f;exact Ev.bind (Vx l0 m hm (by omega)) (Ev.bind m1 (Ev.now _))
theorem IY (l:List zf):qN l ≤ 7 * Pd l + 4 * l.length:=by
 induction l with
 | nil=>simp [qN]
 | cons x l ih =>
  have:Pd (x :: l)=x.f0.length + Pd l:=by simp [Pd]
  rw [dA,this,List.length_cons];omega
theorem VH (l:List fk):Pd (l.map qg) ≤ qY l:=by
 unfold Pd qY;rw [List.map_map]
 have:∀ l:List fk,(l.map ((fun (x:zf)=>x.f0.length) ∘ qg)).sum ≤ (l.map fun x=>rM x.f0).sum:=by
  intro l
  induction l with
  | nil=>simp
  | cons a l ih =>
   rw [List.map_cons,List.map_cons,List.sum_cons,List.sum_cons]
   have:((fun (x:zf)=>x.f0.length) ∘ qg) a ≤ rM a.f0:=by
    simp [qg,rM]
   omega
 have:=this l;omega
theorem II (x:j5) (hf:KP x):∃ t:Int,Ev (fun k=>Mh.f k x.f0 x.f1 x.f2 x.f3 x.f4 1048576) t∧(¬ t < 0→x.f0.length ≤ 1048576∧(x.f4.map qg).length ≤ 1048576∧Pd (x.f4.map qg) ≤ 1048576 ∧
  Ev (fun k=>Ig.f k x.f0 x.f1 x.f2 x.f3 x.f4) (x.f0,x.f1,x.f2,x.f3,x.f4.map qg)∧Ev (fun k=>Ai.f k x.f0 x.f1 x.f2 x.f3 (x.f4.map qg) x.f0 x.f1 x.f2 x.f3 (x.f4.map qg)) true ∧
  ∃ M:Int × List Int × List zf,Ev (fun k=>Mg.f k x.f0 x.f1 x.f2 x.f3 (x.f4.map qg) 1) M∧0 ≤ M.1∧M.1 ≤ 4398046511104):=by
 obtain ⟨h0,_,_,_,h4⟩:=hf;obtain ⟨t,e1,e2,e3⟩:=NI x.f0 x.f1 x.f2 x.f3 x.f4 1048576 (by omega) (by omega) h0.1 h4.1 (fun y hy=>⟨(h4.2 y hy).1.1,fun z hz=>((h4.2 y hy).1.2 z hz).2.2.2.2.2.2⟩);refine ⟨t,e1,fun ht=>?_⟩;have e:=e3 (by omega);obtain ⟨hb4,hbc⟩:=FF (l:=x.f4) (n:=1048576) (by omega);have hl:(x.f4.map qg).length ≤ 1048576:=by rw [List.length_map];exact hb4
 have hst:=VH x.f4;have hm:=IY (x.f4.map qg);obtain ⟨ms,m1⟩:=nB x.f0 x.f1 x.f2 x.f3 (x.f4.map qg) 1 (by omega) (by omega)
 exact ⟨by omega,hl,by omega,MI x.f0 x.f1 x.f2 x.f3 x.f4 (by omega) hb4 hbc,PI x.f0 x.f1 x.f2 x.f3 (x.f4.map qg) (by omega) (by omega) (fun y hy=>by
  have:=mV _ _ hy
  omega),_,m1,by simp only;omega,by simp only;omega⟩
attribute [local go_sem] Wh Uh Fj Ej oh nh Vh Th
def Wd.l0:Nat→List (List Int)→List (List Int)→Int→Option (Bool)
 | 0,_,_,_=>none
 | k + 1,x0,x1,x5=>if x5 < (x0.length:Int) then (if 0 ≤ x5 then (if x5 < (x1.length:Int) then ((ld.f k (Eg x0 x5) (Eg x1 x5)).bind fun t103=>(if t103=true then (Wd.l0 k x0 x1 (wrap64 (x5 + 1))) else (some false))) else (none)) else (none)) else (some true)
def Wd.f (k:Nat) (l0:List (List Int)) (l1:List (List Int)):Option (Bool):=if (l0.length:Int)=(l1.length:Int) then (Wd.l0 k l0 l1 0) else (some false)
theorem Wd.calls (k:Nat) (A0:Option Addr) (c0:Nat) (l0:List (List Int)) (A1:Option Addr) (c1:Nat) (l1:List (List Int)) (r:Bool) (w:World) (Si:Kd.C (Kd.slice 3 (Kd.int .i64)) w A0 l0.length l0) (hc0:l0.length ≤ c0) (hr1:Kd.C (Kd.slice 3 (Kd.int .i64)) w A1 l1.length l1) (hc1:l1.length ≤ c1) (h:Wd.f k l0 l1=some r) :
  Calls Try.prog 37 #[.slice A0 l0.length c0,.slice A1 l1.length c1] w fun e w'=>e = .returned (.bool r)∧fc w w':=by
 have fl:=ga.mk Si;have vB:=ga.mk hc0;clear Si hc0;have tJ:=ga.mk hr1;have L4:=ga.mk hc1;clear hr1 hc1;have H:(if (l0.length:Int)=(l1.length:Int) then (Wd.l0 k l0 l1 0) else (some false))=some r:=h;clear h
 by_cases c3:(l0.length:Int)=(l1.length:Int)
 ·rw [if_pos c3] at H;have Cg:((l0.length:Int) == (l1.length:Int))=true:=beq_iff_eq.mpr c3;have Zl:((l0.length:Int) != (l1.length:Int))=false:=bne_eq_false_iff_eq.mpr c3;have DA:(l0.length == l1.length)=true:=by first|simpa using c3|(simp at c3 ⊢;omega)
  clear c3;have H':=ga.mk H;clear H;go_enter Try.func37,Try.ntmps37;go_wp2
  repeat (go_quiet (fail);try go_wp2)
  go_loopg [5] k (fun kq v5 w'=>∃ (Aa:Int),v5 = .int .i64 Aa∧ga (Wd.l0 kq l0 l1 Aa=some r)∧ga (kq ≤ k)∧fc w w')
  case atStart=>exact ⟨(0),(by first|rfl|(simp;done)|(simp [*];done)),H',⟨Nat.le_refl _⟩,by repeat (first|exact fc.refl _|apply fc.step)⟩
  case round =>
   clear H'
   try clear c1
   try clear p2
   try clear c3
   try clear Cg
   try clear Zl
   try clear DA
   (try clear HA);(try clear Gf);obtain ⟨Aa,rfl,HA,Gf,⟨m1,rfl⟩⟩:=hrel;cases gk with
   | zero=>exact absurd HA.out (by simp [Wd.l0])
   | succ k1 =>
    have H:=HA.out;clear HA;simp only [Wd.l0] at H
    by_cases c4:Aa < (l0.length:Int)
    ·rw [if_pos c4] at H;have Aj:decide (Aa < (l0.length:Int))=true:=decide_eq_true c4;clear c4
     by_cases c5:0 ≤ Aa
     ·rw [if_pos c5] at H;have Al:decide (0 ≤ Aa)=true:=decide_eq_true c5;clear c5
      by_cases c6:Aa < (l1.length:Int)
      ·rw [if_pos c6] at H;have Yl:decide (Aa < (l1.length:Int))=true:=decide_eq_true c6;clear c6;replace H:=Option.bind_eq_some_iff.mp H;obtain ⟨t103,LH,H⟩:=H;replace H:(if t103=true then (Wd.l0 k1 l0 l1 (wrap64 (Aa + 1))) else (some false))=some r:=H;have A7:=ga.mk LH;clear LH
       by_cases c8:t103=true
       ·subst c8;have H1:(Wd.l0 k1 l0 l1 (wrap64 (Aa + 1)))=some r:=by rw [if_pos rfl] at H;exact H
        clear H;have H:=H1;clear H1;have H':=ga.mk H;clear H;have Ee:0 ≤ (Aa:Int):=of_decide_eq_true (by first|(with_reducible assumption)|assumption);have De:Aa < (l0.length:Int):=of_decide_eq_true (by first|(with_reducible assumption)|assumption);obtain ⟨je,nk,bk,Ih,xd,zg,Ag⟩:=Gx fl.out Aa Ee De;cases Ih;have Kg:=ga.mk Ag;have mh:=ga.mk zg;clear Ag zg;replace Ee:=eq_true Ee;replace De:=eq_true De;have Fh:0 ≤ (Aa:Int):=of_decide_eq_true (by first|(with_reducible assumption)|assumption);have Eh:Aa < (l1.length:Int):=of_decide_eq_true (by first|(with_reducible assumption)|assumption);obtain ⟨Ye,Nu,Ku,Dp,Ke,Uk,Vk⟩:=Gx tJ.out Aa Fh Eh;cases Dp;have Mj:=ga.mk Vk;have Zk:=ga.mk Uk;clear Vk Uk;replace Fh:=eq_true Fh;replace Eh:=eq_true Eh;go_wp2_with (first|(go_at_call 17;(with_reducible refine (ld.calls k1 _ _ (Eg l0 Aa) _ _ (Eg l1 Aa) true _ ?yc ?uc ?Ad ?yd A7.out).mono ?_);(case yc=>repeat (first|exact Kg.out|(with_reducible refine Kd.Sb ?_ _)|(with_reducible refine Kd.Rb ?_ _)|(with_reducible refine Kd.jc ?_)));(case uc=>exact mh.out);(case Ad=>repeat (first|exact Mj.out|(with_reducible refine Kd.Sb ?_ _)|(with_reducible refine Kd.Rb ?_ _)|(with_reducible refine Kd.jc ?_)));(case yd=>exact Zk.out);rintro e w' ⟨rfl,⟨nd,rfl⟩⟩;(try first|exact ⟨rfl,_,World.drewN_drewN _ _ _⟩|exact ⟨rfl,_,Eq.trans (World.drewN_drewN _ _ _) (congrArg (World.drewN _) (Nat.add_assoc _ _ _))⟩)))
        repeat (go_quiet (first|(go_at_call 17;(with_reducible refine (ld.calls k1 _ _ (Eg l0 Aa) _ _ (Eg l1 Aa) true _ ?yc ?uc ?Ad ?yd A7.out).mono ?_);(case yc=>repeat (first|exact Kg.out|(with_reducible refine Kd.Sb ?_ _)|(with_reducible refine Kd.Rb ?_ _)|(with_reducible refine Kd.jc ?_)));(case uc=>exact mh.out);(case Ad=>repeat (first|exact Mj.out|(with_reducible refine Kd.Sb ?_ _)|(with_reducible refine Kd.Rb ?_ _)|(with_reducible refine Kd.jc ?_)));(case yd=>exact Zk.out);rintro e w' ⟨rfl,⟨nd,rfl⟩⟩;(try first|exact ⟨rfl,_,World.drewN_drewN _ _ _⟩|exact ⟨rfl,_,Eq.trans (World.drewN_drewN _ _ _) (congrArg (World.drewN _) (Nat.add_assoc _ _ _))⟩)));try go_wp2_with (first|(go_at_call 17;(with_reducible refine (ld.calls k1 _ _ (Eg l0 Aa) _ _ (Eg l1 Aa) true _ ?yc ?uc ?Ad ?yd A7.out).mono ?_);(case yc=>repeat (first|exact Kg.out|(with_reducible refine Kd.Sb ?_ _)|(with_reducible refine Kd.Rb ?_ _)|(with_reducible refine Kd.jc ?_)));(case uc=>exact mh.out);(case Ad=>repeat (first|exact Mj.out|(with_reducible refine Kd.Sb ?_ _)|(with_reducible refine Kd.Rb ?_ _)|(with_reducible refine Kd.jc ?_)));(case yd=>exact Zk.out);rintro e w' ⟨rfl,⟨nd,rfl⟩⟩;(try first|exact ⟨rfl,_,World.drewN_drewN _ _ _⟩|exact ⟨rfl,_,Eq.trans (World.drewN_drewN _ _ _) (congrArg (World.drewN _) (Nat.add_assoc _ _ _))⟩))))
        go_roundg k1
        case measure=>have:=Gf.out;omega
        case rel=>exact ⟨(wrap64 (Aa + 1)),(by first|rfl|(simp;done)|(simp [*];done)),H',⟨by have:=Gf.out;omega⟩,by repeat (first|exact fc.refl _|apply fc.step)⟩
       ·replace c8:=Bool.eq_false_iff.mpr c8;subst c8;have H1:(some false)=some r:=by rw [if_neg (show ¬ (false=true) by decide)] at H;exact H
        clear H;have H:=H1;clear H1;obtain rfl:=Option.some.inj H;have Ee:0 ≤ (Aa:Int):=of_decide_eq_true (by first|(with_reducible assumption)|assumption);have De:Aa < (l0.length:Int):=of_decide_eq_true (by first|(with_reducible assumption)|assumption);obtain ⟨je,nk,bk,Ih,xd,zg,Ag⟩:=Gx fl.out Aa Ee De;cases Ih;have Kg:=ga.mk Ag;have mh:=ga.mk zg;clear Ag zg;replace Ee:=eq_true Ee;replace De:=eq_true De;have Fh:0 ≤ (Aa:Int):=of_decide_eq_true (by first|(with_reducible assumption)|assumption);have Eh:Aa < (l1.length:Int):=of_decide_eq_true (by first|(with_reducible assumption)|assumption);obtain ⟨Ye,Nu,Ku,Dp,Ke,Uk,Vk⟩:=Gx tJ.out Aa Fh Eh;cases Dp;have Mj:=ga.mk Vk;have Zk:=ga.mk Uk;clear Vk Uk;replace Fh:=eq_true Fh;replace Eh:=eq_true Eh;go_wp2_with (first|(go_at_call 17;(with_reducible refine (ld.calls k1 _ _ (Eg l0 Aa) _ _ (Eg l1 Aa) false _ ?yc ?uc ?Ad ?yd A7.out).mono ?_);(case yc=>repeat (first|exact Kg.out|(with_reducible refine Kd.Sb ?_ _)|(with_reducible refine Kd.Rb ?_ _)|(with_reducible refine Kd.jc ?_)));(case uc=>exact mh.out);(case Ad=>repeat (first|exact Mj.out|(with_reducible refine Kd.Sb ?_ _)|(with_reducible refine Kd.Rb ?_ _)|(with_reducible refine Kd.jc ?_)));(case yd=>exact Zk.out);rintro e w' ⟨rfl,⟨nd,rfl⟩⟩;(try first|exact ⟨rfl,_,World.drewN_drewN _ _ _⟩|exact ⟨rfl,_,Eq.trans (World.drewN_drewN _ _ _) (congrArg (World.drewN _) (Nat.add_assoc _ _ _))⟩)))
        repeat (go_quiet (first|(go_at_call 17;(with_reducible refine (ld.calls k1 _ _ (Eg l0 Aa) _ _ (Eg l1 Aa) false _ ?yc ?uc ?Ad ?yd A7.out).mono ?_);(case yc=>repeat (first|exact Kg.out|(with_reducible refine Kd.Sb ?_ _)|(with_reducible refine Kd.Rb ?_ _)|(with_reducible refine Kd.jc ?_)));(case uc=>exact mh.out);(case Ad=>repeat (first|exact Mj.out|(with_reducible refine Kd.Sb ?_ _)|(with_reducible refine Kd.Rb ?_ _)|(with_reducible refine Kd.jc ?_)));(case yd=>exact Zk.out);rintro e w' ⟨rfl,⟨nd,rfl⟩⟩;(try first|exact ⟨rfl,_,World.drewN_drewN _ _ _⟩|exact ⟨rfl,_,Eq.trans (World.drewN_drewN _ _ _) (congrArg (World.drewN _) (Nat.add_assoc _ _ _))⟩)));try go_wp2_with (first|(go_at_call 17;(with_reducible refine (ld.calls k1 _ _ (Eg l0 Aa) _ _ (Eg l1 Aa) false _ ?yc ?uc ?Ad ?yd A7.out).mono ?_);(case yc=>repeat (first|exact Kg.out|(with_reducible refine Kd.Sb ?_ _)|(with_reducible refine Kd.Rb ?_ _)|(with_reducible refine Kd.jc ?_)));(case uc=>exact mh.out);(case Ad=>repeat (first|exact Mj.out|(with_reducible refine Kd.Sb ?_ _)|(with_reducible refine Kd.Rb ?_ _)|(with_reducible refine Kd.jc ?_)));(case yd=>exact Zk.out);rintro e w' ⟨rfl,⟨nd,rfl⟩⟩;(try first|exact ⟨rfl,_,World.drewN_drewN _ _ _⟩|exact ⟨rfl,_,Eq.trans (World.drewN_drewN _ _ _) (congrArg (World.drewN _) (Nat.add_assoc _ _ _))⟩))))
        go_ret;exact ⟨by first|rfl|(simp;done)|(simp [*];done),by repeat (first|exact fc.refl _|apply fc.step)⟩
      ·rw [if_neg c6] at H;exact absurd H (by simp)
     ·rw [if_neg c5] at H;exact absurd H (by simp)
    ·rw [if_neg c4] at H;have Aj:decide (Aa < (l0.length:Int))=false:=decide_eq_false c4;clear c4;obtain rfl:=Option.some.inj H;go_wp2
     repeat (go_quiet (fail);try go_wp2)
     go_ret;exact ⟨by first|rfl|(simp;done)|(simp [*];done),by repeat (first|exact fc.refl _|apply fc.step)⟩
 ·rw [if_neg c3] at H;have Cg:((l0.length:Int) == (l1.length:Int))=false:=beq_eq_false_iff_ne.mpr c3;have Zl:((l0.length:Int) != (l1.length:Int))=true:=bne_iff_ne.mpr c3;have DA:(l0.length == l1.length)=false:=by first|simpa using c3|(simp at c3 ⊢;omega)
  obtain rfl:=Option.some.inj H;go_enter Try.func37,Try.ntmps37;go_wp2
  repeat (go_quiet (fail);try go_wp2)
  go_ret;exact ⟨by first|rfl|(simp;done)|(simp [*];done),by repeat (first|exact fc.refl _|apply fc.step)⟩
def Sd.l0:Nat→List (List Int)→Int→Int→Option (Int)
 | 0,_,_,_=>none
 | k + 1,x0,x1,x5=>if x5 < (x0.length:Int) then (if 0 ≤ x5 then ((ue.f k (Eg x0 x5) x1).bind fun t102=>(if t102 < 0 then (some (-1)) else (Sd.l0 k x0 t102 (wrap64 (x5 + 1))))) else (none)) else (some x1)
def Sd.f (k:Nat) (l0:List (List Int)) (a1:Int):Option (Int):=Sd.l0 k l0 a1 0
theorem Sd.calls (k:Nat) (A0:Option Addr) (c0:Nat) (l0:List (List Int)) (a1:Int) (r:Int) (w:World) (Si:Kd.C (Kd.slice 3 (Kd.int .i64)) w A0 l0.length l0) (hc0:l0.length ≤ c0) (h:Sd.f k l0 a1=some r) :
  Calls Try.prog 39 #[.slice A0 l0.length c0,.int .i64 a1] w fun e w'=>e = .returned (.int .i64 r)∧fc w w':=by
 have fl:=ga.mk Si;have vB:=ga.mk hc0;clear Si hc0;have H:(Sd.l0 k l0 a1 0)=some r:=h;clear h;have H':=ga.mk H;clear H;go_enter Try.func39,Try.ntmps39;go_wp2
 go_loopg [1,5] k (fun kq v1 v5 w'=>∃ (Zd:Int) (Aa:Int),v1 = .int .i64 Zd∧v5 = .int .i64 Aa∧ga (Sd.l0 kq l0 Zd Aa=some r)∧ga (kq ≤ k)∧fc w w')
 case atStart=>exact ⟨(a1),(0),(by first|rfl|(simp;done)|(simp [*];done)),(by first|rfl|(simp;done)|(simp [*];done)),H',⟨Nat.le_refl _⟩,by repeat (first|exact fc.refl _|apply fc.step)⟩
 case round =>
  clear H'
  try clear p2
  (try clear HA);(try clear Gf);obtain ⟨Zd,Aa,rfl,rfl,HA,Gf,⟨m1,rfl⟩⟩:=hrel;cases gk with
  | zero=>exact absurd HA.out (by simp [Sd.l0])
  | succ k1 =>
   have H:=HA.out;clear HA;simp only [Sd.l0] at H
   by_cases c3:Aa < (l0.length:Int)
   ·rw [if_pos c3] at H;have Cg:decide (Aa < (l0.length:Int))=true:=decide_eq_true c3;clear c3
    by_cases c4:0 ≤ Aa
    ·rw [if_pos c4] at H;have Aj:decide (0 ≤ Aa)=true:=decide_eq_true c4;clear c4;replace H:=Option.bind_eq_some_iff.mp H;obtain ⟨t102,cY,H⟩:=H;replace H:(if t102 < 0 then (some (-1)) else (Sd.l0 k1 l0 t102 (wrap64 (Aa + 1))))=some r:=H;have A5:=ga.mk cY;clear cY
     by_cases c6:t102 < 0
     ·rw [if_pos c6] at H;have Yl:decide (t102 < 0)=true:=decide_eq_true c6;clear c6;obtain rfl:=Option.some.inj H;have Ee:0 ≤ (Aa:Int):=of_decide_eq_true (by first|(with_reducible assumption)|assumption);have De:Aa < (l0.length:Int):=of_decide_eq_true (by first|(with_reducible assumption)|assumption);obtain ⟨je,nk,bk,Ih,xd,zg,Ag⟩:=Gx fl.out Aa Ee De;cases Ih;have Kg:=ga.mk Ag;have mh:=ga.mk zg;clear Ag zg;replace Ee:=eq_true Ee;replace De:=eq_true De;go_wp2_with (first|((with_reducible refine zb (f:=21) rfl ?_);refine Dc (some 17) rfl rfl Try.func21 (by kernel_rfl) rfl #[.slice nk (Eg l0 Aa).length bk,.int .i64 Zd] rfl (by (try simp only [List.map_toArray,List.map_cons,List.map_nil]);first|done|rfl|(simp only [List.length_drop,List.length_take];rfl)) ?_;(with_reducible refine (ue.calls k1 _ _ (Eg l0 Aa) Zd t102 _ ?yc ?uc A5.out).mono ?_);(case yc=>repeat (first|exact Kg.out|(with_reducible refine Kd.Sb ?_ _)|(with_reducible refine Kd.Rb ?_ _)|(with_reducible refine Kd.jc ?_)));(case uc=>exact mh.out);rintro e w' ⟨rfl,⟨nd,rfl⟩⟩;refine ⟨_,rfl,?_⟩));go_ret;exact ⟨by first|rfl|(simp;done)|(simp [*];done),by repeat (first|exact fc.refl _|apply fc.step)⟩
     ·rw [if_neg c6] at H;have Yl:decide (t102 < 0)=false:=decide_eq_false c6;clear c6;have H':=ga.mk H;clear H;have Ee:0 ≤ (Aa:Int):=of_decide_eq_true (by first|(with_reducible assumption)|assumption);have De:Aa < (l0.length:Int):=of_decide_eq_true (by first|(with_reducible assumption)|assumption);obtain ⟨je,nk,bk,Ih,xd,zg,Ag⟩:=Gx fl.out Aa Ee De;cases Ih;have Kg:=ga.mk Ag;have mh:=ga.mk zg;clear Ag zg;replace Ee:=eq_true Ee;replace De:=eq_true De;go_wp2_with (first|((with_reducible refine zb (f:=21) rfl ?_);refine Dc (some 17) rfl rfl Try.func21 (by kernel_rfl) rfl #[.slice nk (Eg l0 Aa).length bk,.int .i64 Zd] rfl (by (try simp only [List.map_toArray,List.map_cons,List.map_nil]);first|done|rfl|(simp only [List.length_drop,List.length_take];rfl)) ?_;(with_reducible refine (ue.calls k1 _ _ (Eg l0 Aa) Zd t102 _ ?yc ?uc A5.out).mono ?_);(case yc=>repeat (first|exact Kg.out|(with_reducible refine Kd.Sb ?_ _)|(with_reducible refine Kd.Rb ?_ _)|(with_reducible refine Kd.jc ?_)));(case uc=>exact mh.out);rintro e w' ⟨rfl,⟨nd,rfl⟩⟩;refine ⟨_,rfl,?_⟩))
      go_roundg k1
      case measure=>have:=Gf.out;omega
      case rel=>exact ⟨(t102),(wrap64 (Aa + 1)),(by first|rfl|(simp;done)|(simp [*];done)),(by first|rfl|(simp;done)|(simp [*];done)),H',⟨by have:=Gf.out;omega⟩,by repeat (first|exact fc.refl _|apply fc.step)⟩
    ·rw [if_neg c4] at H;exact absurd H (by simp)
   ·rw [if_neg c3] at H;have Cg:decide (Aa < (l0.length:Int))=false:=decide_eq_false c3;clear c3;obtain rfl:=Option.some.inj H;go_wp2;go_ret;exact ⟨by first|rfl|(simp;done)|(simp [*];done),by repeat (first|exact fc.refl _|apply fc.step)⟩
theorem Wt (k:Nat) (A:Option Addr) (c n:Nat) (l:List (List Int)) (a r:Int) (w:World) (hn:l.length=n) (hr:Kd.C (Kd.slice 3 (Kd.int .i64)) w A l.length l) (hc:n ≤ c) (h:Sd.f k l a=some r):Calls Try.prog 39 #[.slice A n c,.int .i64 a] w fun e w'=>e = .returned (.int .i64 r)∧fc w w':=by
 subst hn;exact Sd.calls k A c l a r w hr hc h
def Bf.f (k:Nat):List (List Int)→Int→Option (Int × List (List Int))
 | [],a=>some (a,[])
 | x :: l,a=>(Vd.f k x a).bind fun t=>(Bf.f k l t.1).bind fun u=>some (u.1,t.2 :: u.2)
theorem Bf.calls (k:Nat) (Bj:Nat→Prop) (Nf:Value) (l0:List (List Int)) (a1:Int) (r1:Int) (r2:List (List Int)) (w0 w:World) (hB:Below w0.heap.size w0 w) (Zi:Kd.S (Kd.slice 3 (Kd.int .i64)) 22 w w0.heap.size Bj Nf l0) (h:Bf.f k l0 a1=some (r1,r2)) :
  Calls Try.prog 38 #[Nf,.int .i64 a1] w fun e w'=>e = .returned (.int .i64 r1)∧Kd.S (Kd.slice 3 (Kd.int .i64)) 22 w' w0.heap.size (fun k_=>(Bj k_ ∨ w.heap.size ≤ k_)) Nf r2∧Below w0.heap.size w0 w'∧Kept w w' (fun k_=>Bj k_):=by
 obtain ⟨A,c,rfl,WA,hC⟩:=Kd.aM Zi;have hm:=hC.2.1;have HS:=ga.mk (Kd.Bg Zi (Cn:=fun k_=>Bj k_ ∨ w.heap.size ≤ k_) (fun k_ hk=>.inl hk));have HB:=ga.mk hB;have HK:=ga.mk (Kept.refl w (fun k_=>Bj k_));have HH:=ga.mk h;clear Zi hC hB h;go_enter Try.func38,Try.ntmps38;go_wp2
 go_loopg [1,5] l0.length (fun gg v1 v5 wr=>∃ (j:Nat) (a:Int) (done rest:List (List Int)),j ≤ l0.length∧l0.length - j ≤ gg∧v1 = .int .i64 a∧v5 = .int .i64 j∧ga (done.length=j∧Bf.f k (l0.drop j) a=some (r1,rest)∧r2=done ++ rest)∧ga (Kd.S (Kd.slice 3 (Kd.int .i64)) 22 wr w0.heap.size (fun k_=>Bj k_ ∨ w.heap.size ≤ k_) (.slice A l0.length c) (done ++ l0.drop j))∧ga (Below w0.heap.size w0 wr)∧ga (Kept w wr (fun k_=>Bj k_)))
 case atStart=>exact ⟨0,a1,[],r2,Nat.zero_le _,by omega,rfl,rfl,⟨rfl,by simpa using HH.out,rfl⟩,⟨by simpa using HS.out⟩,HB,HK⟩
 case round =>
  clear HS HB HK HH;(try clear HD);(try clear HS);(try clear HB);(try clear HK);obtain ⟨j,a,done,rest,hj,hg,rfl,rfl,HD,HS,HB,HK⟩:=hrel
  by_cases hlt:j < l0.length
  ·have KC:decide ((j:Int) < (l0.length:Int))=true:=decide_eq_true (by omega);have p1:0 ≤ (j:Int):=by omega
   have p2:(j:Int) < (l0.length:Int):=by omega
   obtain ⟨d1,d2,d3⟩:=HD.out;have tw:l0.drop j=l0[j] :: l0.drop (j + 1):=List.drop_eq_getElem_cons hlt;rw [tw] at d2;unfold Bf.f at d2;obtain ⟨⟨a2,Oq⟩,t1,d2⟩:=Option.bind_eq_some_iff.mp d2;obtain ⟨⟨r1',rest'⟩,u1,d2⟩:=Option.bind_eq_some_iff.mp d2
   obtain ⟨rfl,rfl⟩:r1' = r1∧Oq :: rest' = rest:=by
    have:=Option.some.inj d2;exact ⟨congrArg Prod.fst this,congrArg Prod.snd this⟩
   have hlen:(done ++ l0.drop j).length=l0.length:=by rw [List.length_append,List.length_drop,d1];omega
   obtain ⟨g,cap,e1,hbg,kan,cells,Cp⟩:=Kd.gF HS.out (by rw [hlen];omega);obtain rfl:A=some ⟨g,0,none⟩:=by injection e1
   clear e1;have iS:=(Kd.wN HS.out).1 g rfl;obtain ⟨Gm,cs,hcs,hM,ry,IZ,JC,hH⟩:=Kd.Jx HS.out [] (j:Int) (by omega) (by omega)
   have hx:(done ++ l0.drop j).getD (Int.toNat (j:Int)) []=l0[j]:=by
    rw [tw,Int.toNat_natCast,List.getD_eq_getElem?_getD,List.getElem?_append_right (by omega),d1];simp [List.getElem?_eq_getElem hlt]
   rw [hx] at hM;obtain ⟨v0,rfl,hR⟩:=hM;obtain ⟨A5,c5,rfl⟩:=Kd.Jd hR;have y0:=ry 0 _ rfl;have HH:=ga.mk hH;have HR:=ga.mk hR;have HT:=ga.mk t1;have HU:=ga.mk u1;have D4:=ga.mk JC;have HD:=ga.mk (And.intro d1 d3);have HDR:=ga.mk tw;simp only [Int.toNat_natCast,show (Kd.slice 3 (Kd.int .i64)).sz=1 from rfl,Nat.add_zero,Nat.mul_one] at y0;clear hH hR ry IZ hx JC iS Cp t1 u1 d1 d2 d3 tw hcs;go_wp2_with (first|(go_at_call 20;(with_reducible refine (Vd.calls k Gm _ l0[j] a a2 Oq w0 wr HB.out HR.out HT.out).mono ?_);rintro e w1 ⟨rfl,hr,hb,hk⟩;have tJ:=ga.mk hr;have PA:=ga.mk hb;have Gf:=ga.mk hk;clear hr hb hk));have HH1:=ga.mk (Kd.JQ (Kd.nF HH.out) Gf.out (fun k_ _ hn hs=>hn (.inl hs)))
   go_roundg (l0.length - (j + 1))
   case measure=>omega
   case rel =>
    have hle:w.heap.size ≤ wr.heap.size:=HK.out.1;have hfin:=Kd.qJ HH1.out (x':=Oq) (show (Kd.slice 3 (Kd.int .i64)).M w1 w0.heap.size (fun k_=>Gm k_ ∨ wr.heap.size ≤ k_) Oq [.slice A5 l0[j].length c5] from ⟨_,rfl,tJ.out⟩) (fun k_ hk=>hk.elim .inl (fun h=>.inr ⟨.inr (by omega),h⟩))
    have nA:(done ++ l0.drop j).set (Int.toNat (j:Int)) Oq=(done ++ [Oq]) ++ l0.drop (j + 1):=by
     rw [HDR.out,Int.toNat_natCast];exact JJ _ _ HD.out.1
    rw [nA] at hfin;have hk4:=HK.out.Sz Gf.out (fun k_ hk=>(D4.out k_ hk).1);exact ⟨j + 1,_,_,rest',by omega,by omega,rfl,by go_num,⟨by simp [HD.out.1],HU.out,by rw [HD.out.2];simp⟩,⟨hfin⟩,PA,⟨hk4⟩⟩
  ·have KC:decide ((j:Int) < (l0.length:Int))=false:=decide_eq_false (by omega);obtain rfl:j=l0.length:=by omega
   obtain ⟨d1,d2,d3⟩:=HD.out;rw [List.drop_length] at d2;unfold Bf.f at d2
   obtain ⟨rfl,rfl⟩:a=r1∧[]=rest:=by
    have:=Option.some.inj d2;exact ⟨congrArg Prod.fst this,congrArg Prod.snd this⟩
   have HD:=ga.mk d3;clear d1 d2 d3;go_wp2;go_ret;refine ⟨rfl,?_,HB.out,HK.out⟩;have:=HS.out;rw [List.drop_length] at this;rw [HD.out];exact this
def J3 (x5 x7:Bool) (o:Int) (x98:Bool) (N3 r v:Int):Bool:=bif x98 then x5 && (x7 && (v == 0)) else if o=8 then (r == 0) && (x7 && Ij v 0 N3) else if o=9 then x5 && (x7 && Ij v 0 N3) else false
def J2 (x5 x6 x7:Bool) (o:Int) (x61:Bool) (N0 N3 r q v:Int):Bool:=bif x61 then x5 && (x6 && ((q == 0) && Ij v 0 N0)) else if o=11 then x5 && (x6 && ((q == 0) && (v == 0))) else if o=6 then J3 x5 x7 o (o == 6) N3 r v else if o=7 then J3 x5 x7 o (o == 7) N3 r v else J3 x5 x7 o (o == 10) N3 r v
def J1 (x5 x6 x7:Bool) (o:Int) (x30:Bool) (N2 N0 N3 r q v:Int):Bool:=bif x30 then x5 && (x7 && Ij v 0 N2) else if o=3 then x5 && (x6 && (Ij q 0 15 && Ij v 0 5)) else if o=4 then J2 x5 x6 x7 o (o == 4) N0 N3 r q v else J2 x5 x6 x7 o (o == 5) N0 N3 r q v
def J0 (x5 x6 x7:Bool) (o N2 N0 N3 r q v:Int):Bool:=if o=0 then x5 && x7 else if o=1 then J1 x5 x6 x7 o (o == 1) N2 N0 N3 r q v else J1 x5 x6 x7 o (o == 2) N2 N0 N3 r q v
noncomputable def xg.f (k:Nat) (Oa:List Int) (La:Int) (Pa:Int) (Ja:Int) (Fa:List fk):Option Bool :=
 (Mh.f k Oa La Pa Ja Fa 1048576).bind fun s=>if s < 0 then some true else
 (Ig.f k Oa La Pa Ja Fa).bind fun G =>
 (Gc.f k G.1 G.2.1 G.2.2.1 G.2.2.2.1 G.2.2.2.2).bind fun x =>
 (xj.f k G.1 G.2.1 G.2.2.1 G.2.2.2.1 G.2.2.2.2).bind fun y =>
 (Wd.f k y x).bind fun e1=>if e1=true then
 (Ai.f k G.1 G.2.1 G.2.2.1 G.2.2.2.1 G.2.2.2.2 G.1 G.2.1 G.2.2.1 G.2.2.2.1 G.2.2.2.2).bind fun e2=>if e2=true then
 (Mg.f k G.1 G.2.1 G.2.2.1 G.2.2.2.1 G.2.2.2.2 1).bind fun M=>if M.1 < 0 then none else
 (Bf.f k y 1).bind fun m=>(Sd.f k m.2 1).bind fun q=>if q < 0 then none else if q=m.1 then some true else none
 else none else none
theorem xg.calls (k:Nat) (xb:Option Addr) (qb:Nat) (Oa:List Int) (La:Int) (Pa:Int) (Ja:Int) (Pb:Option Addr) (Gb:Nat) (Fa:List fk) (r:Bool) (w:World) (xe:Kd.C (Kd.int .i64) w xb Oa.length Oa) (we:Oa.length ≤ qb) (Wf:Kd.C gA w Pb Fa.length Fa) (Uf:Fa.length ≤ Gb) (h:xg.f k Oa La Pa Ja Fa=some r) :
  Calls Try.prog 8 #[.agg #[.slice xb Oa.length qb,.int .i64 La,.int .i64 Pa,.int .i64 Ja,.slice Pb Fa.length Gb]] w fun e w'=>e = .returned (.bool r)∧Below w.heap.size w w':=by
 unfold xg.f at h;obtain ⟨s,hs,h⟩:=Option.bind_eq_some_iff.mp h;have HSZ:=ga.mk hs;have fl:=ga.mk xe;have IV:=ga.mk Wf;have SX:=ga.mk we;have RX:=ga.mk Uf;obtain ⟨W1,mg⟩:∃ W1,W1=w.alloc (.cells #[.slice xb Oa.length qb,.int .i64 La,.int .i64 Pa,.int .i64 Ja,.slice Pb Fa.length Gb] 40 (0,0)):=⟨_,rfl⟩;have HW:=ga.mk mg;have PA:=ga.mk (show Below w.heap.size w W1 by rw [mg];exact oa (Below.refl _ _) _);have xJ:=ga.mk (show W1.heap[w.heap.size]? = some (.cells #[.slice xb Oa.length qb,.int .i64 La,.int .i64 Pa,.int .i64 Ja,.slice Pb Fa.length Gb] 40 (0,0)) by rw [mg];exact Xo _ _);clear hs xe Wf we Uf mg
 by_cases hneg:s < 0
 ·rw [if_pos hneg] at h;obtain rfl:=Option.some.inj h;have hnb:decide (s < 0)=true:=decide_eq_true hneg;clear h hneg;have WM:=(ja xJ.out 0).trans rfl;have VA:=(ja xJ.out 1).trans rfl;have hg2:=(ja xJ.out 2).trans rfl;have JH:=(ja xJ.out 3).trans rfl;have GH:=(ja xJ.out 4).trans rfl;go_enter Try.func8,Try.ntmps8
  go_upto_region 1 with (fail)
  rw [← HW.out];clear HW;go_wp2_with (first|(go_at_call 25;(with_reducible refine (Mh.calls k xb qb Oa La Pa Ja Pb Gb Fa 1048576 s W1 (Kd.Mb fl.out PA.out) SX.out (Kd.Mb IV.out PA.out) RX.out HSZ.out).mono ?_);rintro e w2 ⟨rfl,hb⟩;have br:=ga.mk (Qa PA.out hb);have WX:=ga.mk (Va xJ.out hb);clear hb));go_ret;exact ⟨rfl,br.out⟩
 ·rw [if_neg hneg] at h;have hnb:decide (s < 0)=false:=decide_eq_false hneg;obtain ⟨⟨g1,g2,g3,g4,g5⟩,tG,h⟩:=Option.bind_eq_some_iff.mp h;obtain ⟨x,tX,h⟩:=Option.bind_eq_some_iff.mp h;obtain ⟨y,tY,h⟩:=Option.bind_eq_some_iff.mp h;obtain ⟨e1,tE,h⟩:=Option.bind_eq_some_iff.mp h;obtain rfl:e1=true:=by cases e1 with|false=>simp at h|true=>rfl
  rw [if_pos rfl] at h;obtain ⟨e2,tF,h⟩:=Option.bind_eq_some_iff.mp h;obtain rfl:e2=true:=by cases e2 with|false=>simp at h|true=>rfl
  rw [if_pos rfl] at h;obtain ⟨⟨M1,M2,M3⟩,tM,h⟩:=Option.bind_eq_some_iff.mp h;have hM:¬ M1 < 0:=fun hm=>by rw [if_pos hm] at h;cases h
  rw [if_neg hM] at h;obtain ⟨⟨m1,m2⟩,tm,h⟩:=Option.bind_eq_some_iff.mp h;obtain ⟨q,tq,h⟩:=Option.bind_eq_some_iff.mp h;have hq:¬ q < 0:=fun hm=>by rw [if_pos hm] at h;cases h
  rw [if_neg hq] at h;have hqm:q=m1:=Decidable.byContradiction fun hm=>by rw [if_neg hm] at h;cases h
  rw [if_pos hqm] at h;obtain rfl:=Option.some.inj h;subst hqm;have hMb:decide (M1 < 0)=false:=decide_eq_false hM;have hqb:decide (q < 0)=false:=decide_eq_false hq;have TG:=ga.mk tG;have TX:=ga.mk tX;have TY:=ga.mk tY;have TE:=ga.mk tE;have TF:=ga.mk tF;have TM:=ga.mk tM;have Tm:=ga.mk tm;have Tq:=ga.mk tq;clear tG tX tY tE tF tM tm tq hM hq hneg h;have WM:=(ja xJ.out 0).trans rfl;have VA:=(ja xJ.out 1).trans rfl;have hg2:=(ja xJ.out 2).trans rfl;have JH:=(ja xJ.out 3).trans rfl;have GH:=(ja xJ.out 4).trans rfl;go_enter Try.func8,Try.ntmps8
  go_upto_region 1 with (fail)
  rw [← HW.out];clear HW
  go_upto_region 5 with (first|(go_at_call 25;(with_reducible refine (Mh.calls k xb qb Oa La Pa Ja Pb Gb Fa 1048576 s W1 (Kd.Mb fl.out PA.out) SX.out (Kd.Mb IV.out PA.out) RX.out HSZ.out).mono ?_);rintro e w2 ⟨rfl,hb⟩;have br:=ga.mk (Qa PA.out hb);have WX:=ga.mk (Va xJ.out hb);clear hb PA xJ WM VA hg2 JH GH))
  have WM:=(ja WX.out 0).trans rfl;have VA:=(ja WX.out 1).trans rfl;have hg2:=(ja WX.out 2).trans rfl;have JH:=(ja WX.out 3).trans rfl;have GH:=(ja WX.out 4).trans rfl
  go_upto_region 6 with (first|(go_at_call 27;(with_reducible refine (Ig.calls k xb qb Oa La Pa Ja Pb Gb Fa g1 g2 g3 g4 g5 w2 (Kd.Mb fl.out br.out) SX.out (Kd.Mb IV.out br.out) RX.out TG.out).mono ?_);rintro e w3 ⟨v0,v4,rfl,Zi,kB,hb⟩;obtain ⟨B0,d0,rfl⟩:=Kd.Jd Zi;obtain ⟨B4,d4,rfl⟩:=Kd.Wk kB;have LQ:=ga.mk Zi;have KQ:=ga.mk kB;have xN:=ga.mk (Qa br.out hb);have HG3:=ga.mk (Va WX.out hb);have z23:=hb.size;clear Zi kB hb br WX WM VA hg2 JH GH)|(go_at_call 35;(with_reducible refine (Gc.calls k B0 d0 g1 g2 g3 g4 B4 d4 g5 x w3 (Kd.Tb LQ.out).2.2 (Kd.Tb LQ.out).2.1 (Kd.ke KQ.out).2.2 (Kd.ke KQ.out).2.1 TX.out).mono ?_);rintro e w4 ⟨vx,rfl,ho,hb⟩;have HOW:=ga.mk (TH ho xN.out.size);have ZX:=ga.mk (Qa xN.out hb);have RQ:=ga.mk (Va HG3.out hb);have z34:=hb.size;obtain ⟨D0,f0,rfl⟩:=Kd.Wk ho;clear ho hb LQ KQ xN HG3))
  have hzw:=Qc RQ.out;have WM:=(ja RQ.out 0).trans rfl;have VA:=(ja RQ.out 1).trans rfl;have hg2:=(ja RQ.out 2).trans rfl;have JH:=(ja RQ.out 3).trans rfl;have GH:=(ja RQ.out 4).trans rfl
  go_upto_region 7 with (first|(go_at_call 27;(with_reducible refine (Ig.calls k xb qb Oa La Pa Ja Pb Gb Fa g1 g2 g3 g4 g5 w4 (Kd.Mb fl.out ZX.out) SX.out (Kd.Mb IV.out ZX.out) RX.out TG.out).mono ?_);rintro e w5 ⟨v0,v4,rfl,Zi,kB,hb⟩;obtain ⟨B0,d0,rfl⟩:=Kd.Jd Zi;obtain ⟨B4,d4,rfl⟩:=Kd.Wk kB;have HX0:=ga.mk (pY Zi ZX.out.size);have HX4:=ga.mk (TH kB ZX.out.size);have HB5:=ga.mk (Qa ZX.out hb);have VX:=ga.mk (Va RQ.out hb);have Dac:=ga.mk (Kd.Le HOW.out hb);have z45:=hb.size;clear Zi kB hb ZX RQ HOW WM VA hg2 JH GH))
  have hz6:(w5.alloc (.cells #[.slice B0 g1.length d0,.int .i64 g2,.int .i64 g3,.int .i64 g4,.slice B4 g5.length d4] 45 (0,0))).heap.size=w5.heap.size + 1:=by simp
  have LZ:=oa (Below.refl w5.heap.size w5) (.cells #[.slice B0 g1.length d0,.int .i64 g2,.int .i64 g3,.int .i64 g4,.slice B4 g5.length d4] 45 (0,0));have zC:=Xo w5 (.cells #[.slice B0 g1.length d0,.int .i64 g2,.int .i64 g3,.int .i64 g4,.slice B4 g5.length d4] 45 (0,0));generalize w5.alloc (.cells #[.slice B0 g1.length d0,.int .i64 g2,.int .i64 g3,.int .i64 g4,.slice B4 g5.length d4] 45 (0,0))=w6 at hz6 LZ zC ⊢;have HB6:=ga.mk (Qa HB5.out LZ);have HG6:=ga.mk (Va VX.out LZ);have Cac:=ga.mk (Kd.Le Dac.out LZ);have GV:=ga.mk (Kd.Xf HX0.out LZ);have EV:=ga.mk (Kd.Le HX4.out LZ);have C3:=ga.mk zC;have Z56:=ga.mk hz6;clear hz6 LZ zC HB5 VX Dac HX0 HX4;have hx0:=(ja C3.out 0).trans rfl;have hx1:=(ja C3.out 1).trans rfl;have hx2:=(ja C3.out 2).trans rfl;have oy:=(ja C3.out 3).trans rfl;have ax:=(ja C3.out 4).trans rfl
  go_upto_region 8 with (first|(go_at_call 36;(with_reducible refine (xj.calls k B0 d0 g1 g2 g3 g4 B4 d4 g5 y w6 (Kd.Tb GV.out).2.2 (Kd.Tb GV.out).2.1 (Kd.ke EV.out).2.2 (Kd.ke EV.out).2.1 TY.out).mono ?_);rintro e w7 ⟨vy,rfl,ho,hb⟩;have HOG:=ga.mk (TH ho HB6.out.size);have E5:=ga.mk (Qa HB6.out hb);have HG7:=ga.mk (Va HG6.out hb);have HX7:=ga.mk (Va C3.out hb);have LV:=ga.mk (Kd.Le Cac.out hb);have uac:=ga.mk (Kd.Xf GV.out hb);have kac:=ga.mk (Kd.Le EV.out hb);have z67:=hb.size;obtain ⟨E0,q0,rfl⟩:=Kd.Wk ho;clear ho hb HB6 HG6 C3 Cac GV EV hx0 hx1 hx2 oy ax))
  have MV:=HOG;clear HOG
  go_upto_region 10 with (first|(go_at_call 37;(with_reducible refine (Wd.calls k E0 q0 y D0 f0 x true w7 (Kd.ke MV.out).2.2 (Kd.ke MV.out).2.1 (Kd.ke LV.out).2.2 (Kd.ke LV.out).2.1 TE.out).mono ?_);rintro e w8 ⟨rfl,hb0⟩;have hb:Below _ _ _:=hb0.below;have HB8:=ga.mk (Qa E5.out hb);have nR:=ga.mk (Va HG7.out hb);have o3:=ga.mk (Va HX7.out hb);have Bac:=ga.mk (Kd.Le LV.out hb);have sac:=ga.mk (Kd.Xf uac.out hb);have jac:=ga.mk (Kd.Le kac.out hb);have Eac:=ga.mk (Kd.Le MV.out hb);have z78:=hb.size;clear hb hb0 E5 HG7 HX7 LV uac kac MV))
  have HB9:=ga.mk (qa HB8.out);have UX:=ga.mk (Ea nR.out);have HX9:=ga.mk (Ea o3.out);have C4:=ga.mk (Kd.qe Bac.out);have E3:=ga.mk (Kd.yb sac.out);have D3:=ga.mk (Kd.qe jac.out);have E4:=ga.mk (Kd.qe Eac.out);have z89:w8.heap.size ≤ w8.drew.heap.size:=Nat.le_refl _;refine xk (n:=5) (S:=fun w'=>w'.cell? ⟨w5.heap.size,0,none⟩=some (.slice B0 g1.length d0)∧w'.cell? ⟨w5.heap.size,1,none⟩=some (.int .i64 g2)∧w'.cell? ⟨w5.heap.size,2,none⟩=some (.int .i64 g3)∧w'.cell? ⟨w5.heap.size,3,none⟩=some (.int .i64 g4)∧w'.cell? ⟨w5.heap.size,4,none⟩=some (.slice B4 g5.length d4)∧w'.cell? ⟨w.heap.size,0,none⟩=some (.slice xb Oa.length qb)∧w'.cell? ⟨w.heap.size,1,none⟩=some (.int .i64 La)∧w'.cell? ⟨w.heap.size,2,none⟩=some (.int .i64 Pa)∧w'.cell? ⟨w.heap.size,3,none⟩=some (.int .i64 Ja)∧w'.cell? ⟨w.heap.size,4,none⟩=some (.slice Pb Fa.length Gb)) (ds:=[]) #[false,false,false,false,false] (by kernel_rfl) rfl rfl ⟨(ja o3.out 0).trans rfl,(ja o3.out 1).trans rfl,(ja o3.out 2).trans rfl,(ja o3.out 3).trans rfl,(ja o3.out 4).trans rfl,(ja nR.out 0).trans rfl,(ja nR.out 1).trans rfl,(ja nR.out 2).trans rfl,(ja nR.out 3).trans rfl,(ja nR.out 4).trans rfl⟩ (fun hHeld=>?_);generalize w8.drew=w9 at HB9 UX HX9 C4 E3 D3 E4 z89 hHeld ⊢;refine Ug (i:=0) (N:=some 27) (v:=?_) (a':=?_) #[true,false,false,false,false] rfl rfl (by kernel_rfl) (fun _ _ _ h=>h) (Or.inl ⟨by rfl,?_⟩) hHeld ?_ ?_;rotate_left
  ·rintro w' ⟨s0,s1,s2,s3,s4,s5,s6,s7,s8,s9⟩;go_simp;with_reducible rfl
  rotate_left
  ·simp only [Act.put,List.setIfInBounds_toArray,List.set_cons_zero,List.set_cons_succ,dc,ec]
   rfl
  refine Ug (i:=1) (N:=some 28) (v:=?_) (a':=?_) #[true,true,false,false,false] rfl rfl (by kernel_rfl) (fun _ _ _ h=>h) (Or.inl ⟨by rfl,?_⟩) hHeld ?_ ?_;rotate_left
  ·rintro w' ⟨s0,s1,s2,s3,s4,s5,s6,s7,s8,s9⟩;go_simp;with_reducible rfl
  rotate_left
  ·simp only [Act.put,List.setIfInBounds_toArray,List.set_cons_zero,List.set_cons_succ,dc,ec]
   rfl
  refine Yu (i:=2) (N:=some 29) #[true,true,true,false,false] rfl rfl (by kernel_rfl) (by decide) (fun K hK=>?_);refine Nq Try.func27 (by kernel_rfl) rfl #[.agg #[.slice xb Oa.length qb,.int .i64 La,.int .i64 Pa,.int .i64 Ja,.slice Pb Fa.length Gb]] (by rfl) rfl rfl (by simp only [List.map_toArray,List.map_cons,List.map_nil];rfl) ?_;with_reducible refine (Ig.calls k xb qb Oa La Pa Ja Pb Gb Fa g1 g2 g3 g4 g5 w9 (Kd.Mb fl.out HB9.out) SX.out (Kd.Mb IV.out HB9.out) RX.out TG.out).mono ?_
  rintro e Qn ⟨v0,v4,rfl,Zi,kB,hb⟩;refine ⟨_,rfl,?_⟩;have nad:=ga.mk (Qa HB9.out hb);have Nx:=ga.mk (Va UX.out hb);have rJ:=ga.mk (Va HX9.out hb);have GX:=ga.mk (Kd.Le C4.out hb);have gM:=ga.mk (Kd.Xf E3.out hb);have fM:=ga.mk (Kd.Le D3.out hb);have OX:=ga.mk (Kd.Le E4.out hb);have vau:=hb.size;obtain ⟨F0,i0,rfl⟩:=Kd.Jd Zi;obtain ⟨F4,i4,rfl⟩:=Kd.Wk kB;have LQ:=ga.mk Zi;have KQ:=ga.mk kB;clear Zi kB hb HB9 UX HX9 C4 E3 D3 E4;refine hK.out _ _ ⟨(ja rJ.out 0).trans rfl,(ja rJ.out 1).trans rfl,(ja rJ.out 2).trans rfl,(ja rJ.out 3).trans rfl,(ja rJ.out 4).trans rfl,(ja Nx.out 0).trans rfl,(ja Nx.out 1).trans rfl,(ja Nx.out 2).trans rfl,(ja Nx.out 3).trans rfl,(ja Nx.out 4).trans rfl⟩ (fun hHeld=>?_);clear hK K;refine Wn (a':=?_) ?_ ?_;rotate_left
  ·show Act.put _ (some 29) _=_
   simp only [Act.put,List.setIfInBounds_toArray,List.set_cons_zero,List.set_cons_succ,dc,ec]
   rfl
  refine Yu (i:=3) (N:=some 30) #[true,true,true,true,false] rfl rfl (by kernel_rfl) (by decide) (fun K hK=>?_);refine Nq Try.func29 (by kernel_rfl) rfl #[.agg #[.slice B0 g1.length d0,.int .i64 g2,.int .i64 g3,.int .i64 g4,.slice B4 g5.length d4],.agg #[.slice F0 g1.length i0,.int .i64 g2,.int .i64 g3,.int .i64 g4,.slice F4 g5.length i4]] (by rfl) rfl rfl (by simp only [List.map_toArray,List.map_cons,List.map_nil];rfl) ?_;with_reducible refine (Ai.calls k B0 d0 g1 g2 g3 g4 B4 d4 g5 F0 i0 g1 g2 g3 g4 F4 i4 g5 true Qn (Kd.Tb gM.out).2.2 (Kd.Tb gM.out).2.1 (Kd.ke fM.out).2.2 (Kd.ke fM.out).2.1 (Kd.Tb LQ.out).2.2 (Kd.Tb LQ.out).2.1 (Kd.ke KQ.out).2.2 (Kd.ke KQ.out).2.1 TF.out).mono ?_
  rintro e gj ⟨rfl,hb⟩;refine ⟨_,rfl,?_⟩;have mad:=ga.mk (Qa nad.out hb);have wJ:=ga.mk (Va Nx.out hb);have NA:=ga.mk (Va rJ.out hb);have FX:=ga.mk (Kd.Le GX.out hb);have yX:=ga.mk (Kd.Xf gM.out hb);have xX:=ga.mk (Kd.Le fM.out hb);have NX:=ga.mk (Kd.Le OX.out hb);have Eap:=hb.size;clear hb LQ KQ nad Nx rJ GX gM fM OX;refine hK.out _ _ ⟨(ja NA.out 0).trans rfl,(ja NA.out 1).trans rfl,(ja NA.out 2).trans rfl,(ja NA.out 3).trans rfl,(ja NA.out 4).trans rfl,(ja wJ.out 0).trans rfl,(ja wJ.out 1).trans rfl,(ja wJ.out 2).trans rfl,(ja wJ.out 3).trans rfl,(ja wJ.out 4).trans rfl⟩ (fun hHeld=>?_);clear hK K;refine Wn (a':=?_) ?_ ?_;rotate_left
  ·show Act.put _ (some 30) _=_
   simp only [Act.put,List.setIfInBounds_toArray,List.set_cons_zero,List.set_cons_succ,dc,ec]
   rfl
  refine od (i:=4) (N:=some 31) (v:=?_) (a':=?_) #[true,true,true,true,true] rfl rfl (by kernel_rfl) (fun _ _ _ h=>h) (Or.inl ⟨by rfl,?_⟩) ?_ ?_;rotate_left
  ·intro w';go_simp;with_reducible rfl
  rotate_left
  ·simp only [Act.put,List.setIfInBounds_toArray,List.set_cons_zero,List.set_cons_succ,dc,ec]
   rfl
  refine Wo (by kernel_rfl) ?_;clear HB8 nR o3 Bac sac jac Eac;have hx0:=(ja NA.out 0).trans rfl;have hx1:=(ja NA.out 1).trans rfl;have hx2:=(ja NA.out 2).trans rfl;have oy:=(ja NA.out 3).trans rfl;have ax:=(ja NA.out 4).trans rfl
  go_upto_region 14 with (first|(go_at_call 32;(with_reducible refine (Mg.calls k _ _ g1 g2 g3 g4 _ _ g5 1 M1 M2 M3 w gj mad.out yX.out xX.out TM.out).mono ?_);rintro e dx ⟨rfl,_,_,hb,hk⟩;have TQ:=ga.mk hb;have OV:=ga.mk (Kept.mono hk (fun k_ Tv=>(Or.elim Tv id id:w4.heap.size ≤ k_∧k_ < w5.heap.size)));have Dap:=hk.1;clear hb hk hx0 hx1 hx2 oy ax))
  have ead:=ga.mk (Nh wJ.out OV.out (by omega));have lM:=ga.mk (Kd.Ix FX.out OV.out (by intro k_ h1 h2;omega));have mM:=ga.mk (Kd.Ix NX.out OV.out (by have:=Z56.out;intro k_ h1 h2;omega));clear wJ FX NX NA yX xX mad OV
  go_upto_region 17 with (first|(go_at_call 37;(with_reducible refine (Wd.calls k E0 q0 y D0 f0 x true dx (Kd.ke mM.out).2.2 (Kd.ke mM.out).2.1 (Kd.ke lM.out).2.2 (Kd.ke lM.out).2.1 TE.out).mono ?_);rintro e vF ⟨rfl,hb0⟩;have hb:Below _ _ _:=hb0.below;have lad:=ga.mk (Qa TQ.out hb);have dad:=ga.mk (Va ead.out hb);have EX:=ga.mk (Kd.Le lM.out hb);have MX:=ga.mk (Kd.Le mM.out hb);have Bap:=hb.size;clear hb hb0 TQ ead lM mM))
  go_upto_region 19 with (first|(go_at_call 38;(with_reducible refine (Bf.calls k _ _ y 1 q m2 w vF lad.out MX.out Tm.out).mono ?_);rintro e AF ⟨rfl,ho,hb,hk⟩;have kad:=ga.mk hb;have G4:=ga.mk hk;have vH:=ga.mk ho;have Aap:=hk.1;clear hb hk ho))
  have cad:=ga.mk (Nh dad.out G4.out (by have:=Z56.out;omega));have DX:=ga.mk (Kd.Ix EX.out G4.out (by have:=Z56.out;intro k_ h1 h2;omega));have hlm:m2.length=y.length:=(Kd.ke vH.out).1.symm;have HLM:=ga.mk hlm;clear dad EX MX lad G4 hlm
  go_upto_region 24 with (first|(go_at_call 39;(with_reducible refine (Wt k E0 q0 y.length m2 1 q AF HLM.out (Kd.ke vH.out).2.2 (Kd.ke vH.out).2.1 Tq.out).mono ?_);rintro e Gp ⟨rfl,hb0⟩;have hb:Below _ _ _:=hb0.below;have yH:=ga.mk (Qa kad.out hb);have uB:=ga.mk (Va cad.out hb);have CX:=ga.mk (Kd.Le DX.out hb);have LX:=ga.mk (Kd.Le vH.out hb);have zap:=hb.size;clear hb hb0 kad cad DX vH))
  have WM:=(ja uB.out 0).trans rfl;have VA:=(ja uB.out 1).trans rfl;have hg2:=(ja uB.out 2).trans rfl;have JH:=(ja uB.out 3).trans rfl;have GH:=(ja uB.out 4).trans rfl
  go_upto_region 25 with (first|(go_at_call 27;(with_reducible refine (Ig.calls k xb qb Oa La Pa Ja Pb Gb Fa g1 g2 g3 g4 g5 Gp (Kd.Mb fl.out yH.out) SX.out (Kd.Mb IV.out yH.out) RX.out TG.out).mono ?_);rintro e wB ⟨v0,v4,rfl,Zi,kB,hb⟩;obtain ⟨F0,i0,rfl⟩:=Kd.Jd Zi;obtain ⟨F4,i4,rfl⟩:=Kd.Wk kB;have LQ:=ga.mk Zi;have KQ:=ga.mk kB;have jad:=ga.mk (Qa yH.out hb);have aad:=ga.mk (Va uB.out hb);have BX:=ga.mk (Kd.Le CX.out hb);have KX:=ga.mk (Kd.Le LX.out hb);have yap:=hb.size;clear Zi kB hb yH uB CX LX WM VA hg2 JH GH)|(go_at_call 36;(with_reducible refine (xj.calls k F0 i0 g1 g2 g3 g4 F4 i4 g5 y wB (Kd.Tb LQ.out).2.2 (Kd.Tb LQ.out).2.1 (Kd.ke KQ.out).2.2 (Kd.ke KQ.out).2.1 TY.out).mono ?_);rintro e jl ⟨vz,rfl,ho,hb⟩;have MQ:=ga.mk ho;have iad:=ga.mk (Qa jad.out hb);have Zac:=ga.mk (Va aad.out hb);have kM:=ga.mk (Kd.Le BX.out hb);have JX:=ga.mk (Kd.Le KX.out hb);have xap:=hb.size;obtain ⟨J0,j0,rfl⟩:=Kd.Wk ho;clear ho hb LQ KQ jad aad BX KX))
  go_upto_region 28 with (first|(go_at_call 37;(with_reducible refine (Wd.calls k J0 j0 y D0 f0 x true jl (Kd.ke MQ.out).2.2 (Kd.ke MQ.out).2.1 (Kd.ke kM.out).2.2 (Kd.ke kM.out).2.1 TE.out).mono ?_);rintro e EH ⟨rfl,hb0⟩;have hb:Below _ _ _:=hb0.below;have xH:=ga.mk (Qa iad.out hb);have qaw:=ga.mk (Va Zac.out hb);have Qat:=ga.mk (Kd.Le kM.out hb);have IX:=ga.mk (Kd.Le JX.out hb);have wap:=hb.size;clear hb hb0 iad Zac kM JX MQ))
  go_wp2_with (first|(go_at_call 39;(with_reducible refine (Wt k E0 q0 y.length m2 1 q EH HLM.out (Kd.ke IX.out).2.2 (Kd.ke IX.out).2.1 Tq.out).mono ?_);rintro e cx ⟨rfl,hb0⟩;have hb:Below _ _ _:=hb0.below;have kap:=ga.mk (Qa xH.out hb);clear hb hb0));go_ret;exact ⟨rfl,kap.out⟩
def qi (l:List (List Int)):Nat:=(l.map fun x=>x.length).sum
theorem Sp (x:List Int) (l:List (List Int)):qi (x :: l)=x.length + qi l:=by simp [qi]
theorem OI (l:List (List Int)) (hl:l.length ≤ 9223372036854775807) (hx:∀ x ∈ l,x.length ≤ 9223372036854775807):Ev (fun k=>Wd.f k l l) true:=by
 refine Ev.congr (f:=fun k=>Wd.l0 k l l 0) (fun k=>?_) ?_
 ·unfold Wd.f;rw [if_pos rfl]
 ·refine Qg (r:=true) (n:=l.length) (fun i=>Ev (fun k=>Wd.l0 k l l (i:Int)) true) ?_ ?_ 0 (by omega)
  ·refine Ev.step (fun k=>by rw [Wd.l0]) ?_;exact Ev.neg (by omega) (Ev.now _)
  ·intro i hi h;have hr:Eg l (i:Int)=l[i]:=by simp [Eg,List.getD_eq_getElem?_getD,hi]
   refine Ev.step (fun k=>by rw [Wd.l0]) ?_;refine Ev.pos (by omega) (Ev.pos (by omega) (Ev.pos (by omega) ?_));rw [hr,Ie hi hl];exact Ev.bind (OB l[i] (hx _ (List.getElem_mem hi))) (Ev.pos rfl h)
theorem OE (l:List (List Int)):∀ (m:Int),0 ≤ m→m + qi l ≤ 4611686018427387904→∃ ms:List (List Int),Ev (fun k=>Bf.f k l m) (m + qi l,ms)∧ms.length=l.length∧∀ (pre:List (List Int)),pre.length + l.length ≤ 1048576→Ev (fun k=>Sd.l0 k (pre ++ ms) m (pre.length:Int)) (m + qi l):=by
 induction l with
 | nil =>
  intro m hm hl;refine ⟨[],?_,rfl,fun pre _=>?_⟩
  ·unfold Bf.f;simp only [qi,List.map_nil,List.sum_nil,Int.natCast_zero,Int.add_zero];exact Ev.now _
  ·refine Ev.step (fun k=>by rw [Sd.l0]) ?_;simp only [qi,List.map_nil,List.sum_nil,Int.natCast_zero,Int.add_zero];exact Ev.neg (by simp) (Ev.now _)
 | cons x l ih =>
  intro m hm hl;rw [Sp] at hl;obtain ⟨ms,m1,m2,m3⟩:=ih (m + (x.length:Int)) (by omega) (by omega);have hv:m + ((x.length + qi l:Nat):Int)=m + (x.length:Int) + qi l:=by omega
  rw [Sp,hv];refine ⟨iota m x.length :: ms,?_,by simp [m2],fun pre hp=>?_⟩
  ·unfold Bf.f;exact Ev.bind (Vx x m hm (by omega)) (Ev.bind m1 (Ev.now _))
  ·have hr:Eg (pre ++ iota m x.length :: ms) (pre.length:Int)=iota m x.length:=by
    simp [Eg,List.getD_eq_getElem?_getD]
   rw [List.length_cons] at hp;have hn:=m3 (pre ++ [iota m x.length]) (by rw [List.length_append,List.length_singleton];omega);have hl2:pre.length < (pre ++ iota m x.length :: ms).length:=by simp
   rw [List.append_assoc,List.singleton_append,List.length_append] at hn;generalize (pre ++ iota m x.length :: ms)=ys at hn hr hl2 ⊢;refine Ev.step (fun k=>by rw [Sd.l0]) ?_;refine Ev.pos (by omega) (Ev.pos (by omega) ?_);rw [hr];refine Ev.bind (NG m x.length hm (by omega)) (Ev.neg (by omega) ?_);rw [pg (x:=(pre.length:Int) + 1) (by omega) (by omega)];exact hn
theorem JG (l:List (List Int)) (hl:l.length ≤ 1048576) (hs:qi l ≤ 4398046511104):∃ ms:List (List Int),Ev (fun k=>Bf.f k l 1) (1 + qi l,ms)∧Ev (fun k=>Sd.f k ms 1) (1 + qi l):=by
 obtain ⟨ms,m1,_,m3⟩:=OE l 1 (by omega) (by omega);refine ⟨ms,m1,?_⟩;unfold Sd.f;have h:=m3 [] (by simpa using hl)
 simpa using h
theorem Uz {n:Nat}:∀ (l:List (List Int)),(∀ x ∈ l,x.length ≤ n)→qi l ≤ 1 * n * l.length
 | [],_=>by simp [qi]
 | x :: l,h=>by
  have h1:=h x (by simp);have h2:=Uz l (fun y hy=>h y (by simp [hy]));rw [Sp,List.length_cons,Nat.mul_succ];have h3:1 * x.length ≤ 1 * n:=Nat.mul_le_mul_left _ h1;omega
theorem Zw (x:j5) (hf:KP x):∃ k,xg.f k x.f0 x.f1 x.f2 x.f3 x.f4=some true:=by
 obtain ⟨t,e1,e2⟩:=II x hf;refine Ev.rounds (g:=fun k=>xg.f k x.f0 x.f1 x.f2 x.f3 x.f4) ?_;unfold xg.f;refine Ev.bind e1 ?_
 by_cases ht:t < 0
 ·exact Ev.pos ht (Ev.now _)
 refine Ev.neg ht ?_;obtain ⟨h0,hl,hst,hT,hq,⟨M1,M2,M3⟩,hM,hM0,_⟩:=e2 ht;obtain ⟨r,r1,r2,r3,r4⟩:=NP x.f0 x.f1 x.f2 x.f3 (x.f4.map qg) h0 hl hst;have hE:=OI r (by omega) (fun y hy=>by have:=r4 y hy;omega);have hs:=Uz r r4;obtain ⟨ms,hm,hh⟩:=JG r (by omega) (by omega);refine Ev.bind hT (Ev.bind r1 (Ev.bind r2 (Ev.bind hE (Ev.pos rfl (Ev.bind hq (Ev.pos rfl (Ev.bind hM (Ev.neg (by simp only at hM0 ⊢;omega) (Ev.bind hm (Ev.bind hh (Ev.neg (by omega) (Ev.pos rfl (Ev.now _)))))))))))))
end Go.Proofs.Ytoomcmaifgkkfaa.P
end
