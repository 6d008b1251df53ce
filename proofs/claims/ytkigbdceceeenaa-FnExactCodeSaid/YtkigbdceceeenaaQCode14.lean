import Derived.Shelf.Abstract
import Derived.Outline
import Derived.Test.YtkigbdceceeenaaQCode1
import Derived.Test.YtkigbdceceeenaaQCode13
import Derived.Test.YtkigbdceceeenaaQCode10
import Derived.Test.YtkigbdceceeenaaQCode8
import Derived.Test.YtkigbdceceeenaaQCode12
import Derived.RegionTactic
import Derived.Deep.QuietTactic
import Derived.BigQuiet
import Derived.Test.YtkigbdceceeenaaQCode5
set_option maxHeartbeats 8000000
set_option maxRecDepth 100000
section
namespace Go.Proofs.Ytkigbdceceeenaa.P
open Go.RowKit Go.Proofs.Oa.Rb Go.Proofs.Oa.Pd Go.Proofs.Oa.Re
set_option linter.unusedVariables false
set_option linter.unusedSimpArgs false
def lg.f (k:Nat):List Ff→Int→Option (Int × List Ff)
 | [],a=>some (a,[])
 | x :: l,a=>(ld.f k x.f0 a).bind fun t=>(lg.f k l (wrap64 (wrap64 (wrap64 (wrap64 (t.1 + 1) + 1) + 1) + 1))).bind fun u=>some (u.1,⟨t.2,t.1,wrap64 (t.1 + 1),wrap64 (wrap64 (t.1 + 1) + 1),wrap64 (wrap64 (wrap64 (t.1 + 1) + 1) + 1)⟩ :: u.2)
theorem MY {α:Type} {done l:List α} {j:Nat} (x y:α) (h:done.length=j):(done ++ x :: l).set j y=(done ++ [y]) ++ l:=by
 subst h;rw [List.set_append_right _ _ (Nat.le_refl _),Nat.sub_self,List.set_cons_zero,List.append_assoc]
 rfl
theorem lg.calls (k:Nat) (di:Nat→Prop) (pg:Value) (l0:List Ff) (a1:Int) (r1:Int) (r2:List Ff) (w0 w:World) (hB:Below w0.heap.size w0 w) (fj:Kd.S Wr 59 w w0.heap.size di pg l0) (h:lg.f k l0 a1=some (r1,r2)) :
  Calls Try.prog 56 #[pg,.int .i64 a1] w fun e w'=>e = .returned (.int .i64 r1)∧Kd.S Wr 59 w' w0.heap.size (fun k_=>(di k_ ∨ w.heap.size ≤ k_)) pg r2∧Below w0.heap.size w0 w'∧Kept w w' (fun k_=>di k_):=by
 obtain ⟨A,c,rfl,tB,hC⟩:=Kd.R5 fj;have hm:=hC.2.1;have HS:=aa.mk (Kd.dn fj (xy:=fun k_=>di k_ ∨ w.heap.size ≤ k_) (fun k_ hk=>.inl hk));have HB:=aa.mk hB;have HK:=aa.mk (Kept.refl w (fun k_=>di k_));have HH:=aa.mk h;clear fj hC hB h;go_enter Try.func56,Try.ntmps56;go_wp2
 go_loopg [1,5] l0.length (fun gg v1 v5 wr=>∃ (j:Nat) (a:Int) (done rest:List Ff),j ≤ l0.length∧l0.length - j ≤ gg∧v1 = .int .i64 a∧v5 = .int .i64 j∧aa (done.length=j∧lg.f k (l0.drop j) a=some (r1,rest)∧r2=done ++ rest)∧aa (Kd.S Wr 59 wr w0.heap.size (fun k_=>di k_ ∨ w.heap.size ≤ k_) (.slice A l0.length c) (done ++ l0.drop j))∧aa (Below w0.heap.size w0 wr)∧aa (Kept w wr (fun k_=>di k_)))
 case atStart=>exact ⟨0,a1,[],r2,Nat.zero_le _,by omega,rfl,rfl,⟨rfl,by simpa using HH.out,rfl⟩,⟨by simpa using HS.out⟩,HB,HK⟩
 case round =>
  clear HS HB HK HH;(try clear HD);(try clear HS);(try clear HB);(try clear HK);obtain ⟨j,a,done,rest,hj,hg,rfl,rfl,HD,HS,HB,HK⟩:=hrel
  by_cases hlt:j < l0.length
  ·have NS:decide ((j:Int) < (l0.length:Int))=true:=decide_eq_true (by omega);obtain ⟨d1,d2,d3⟩:=HD.out;have kQ:l0.drop j=l0[j] :: l0.drop (j + 1):=List.drop_eq_getElem_cons hlt;rw [kQ] at d2;unfold lg.f at d2;obtain ⟨⟨a2,vr⟩,t1,d2⟩:=Option.bind_eq_some_iff.mp d2;obtain ⟨⟨r1',rest'⟩,u1,d2⟩:=Option.bind_eq_some_iff.mp d2
   obtain ⟨rfl,rfl⟩:r1' = r1∧(⟨vr,a2,wrap64 (a2 + 1),wrap64 (wrap64 (a2 + 1) + 1),wrap64 (wrap64 (wrap64 (a2 + 1) + 1) + 1)⟩:Ff) :: rest' = rest:=by
    have:=Option.some.inj d2;exact ⟨congrArg Prod.fst this,congrArg Prod.snd this⟩
   have hlen:(done ++ l0.drop j).length=l0.length:=by rw [List.length_append,List.length_drop,d1];omega
   obtain ⟨g,cap,e1,hbg,OaG,cells,uB⟩:=Kd.wF HS.out (by rw [hlen];omega);obtain rfl:A=some ⟨g,0,none⟩:=by injection e1
   clear e1;have Taf:=(Kd.iT HS.out).1 g rfl;obtain ⟨Io,cs,hcs,hM,My,hcf,pG,hH⟩:=Kd.DB HS.out QK (j:Int) (by omega) (by omega)
   have hx:(done ++ l0.drop j).getD (Int.toNat (j:Int)) QK=l0[j]:=by
    rw [kQ,Int.toNat_natCast,List.getD_eq_getElem?_getD,List.getElem?_append_right (by omega),d1];simp [List.getElem?_eq_getElem hlt]
   rw [hx] at hM;obtain ⟨v0,rfl,hR⟩:=nB hM;obtain ⟨A5,c5,rfl⟩:=Kd.Lc hR;have y0:=My 0 _ rfl;have QF:=aa.mk (My 1 _ rfl);have yY:=aa.mk (My 2 _ rfl);have Q_:=aa.mk (My 3 _ rfl);have HC4:=aa.mk (My 4 _ rfl);have HH:=aa.mk hH;have HR:=aa.mk hR;have HT:=aa.mk t1;have HU:=aa.mk u1;have HOK:=aa.mk pG;have HG:=aa.mk Taf;have HX:=aa.mk uB;have HD:=aa.mk (And.intro d1 d3);have SX:=aa.mk kQ;simp only [Int.toNat_natCast,show Wr.sz=5 from rfl,Nat.add_zero] at y0 QF yY Q_ HC4;clear hH hR My hcf hM hx pG Taf uB t1 u1 d1 d2 d3 kQ hcs;go_wp2_with (first|(go_at_call 83;(with_reducible refine (ld.calls k Io _ l0[j].f0 a a2 vr w0 wr HB.out HR.out HT.out).mono ?_);rintro e w1 ⟨rfl,hr,hb,hk⟩;have pE:=aa.mk hr;have XA:=aa.mk hb;have Vg:=aa.mk hk;have I7:¬ Io g:=fun h=>(HOK.out g h).2 rfl;have FV:=Sd HX.out hk I7;have z1:=Xh QF.out hk I7;have z2:=Xh yY.out hk I7;have z3:=Xh Q_.out hk I7;have z4:=Xh HC4.out hk I7;have z5:=qa FV (j * 5 + 1);have z6:=qa FV (j * 5 + 2);have z7:=qa FV (j * 5 + 3);have z8:=qa FV (j * 5 + 4);clear hr hb hk I7 FV));have HH1:=aa.mk (Kd.vad (Kd.V5 HH.out) Vg.out (fun k_ _ hn hs=>hn (.inl hs)));obtain ⟨Ks,hgr⟩:=Kd.Q9 HH1.out (by omega) (by omega) (seg:=[.int .i64 a2,.int .i64 (wrap64 (a2 + 1)),.int .i64 (wrap64 (wrap64 (a2 + 1) + 1)),.int .i64 (wrap64 (wrap64 (wrap64 (a2 + 1) + 1) + 1))]) (j:=1) (show 1 + 4 ≤ 5 from by decide) (by intro q hq;simp at hq;rcases hq with rfl|rfl|rfl|rfl <;> rfl)
   go_roundg (l0.length - (j + 1))
   case measure=>omega
   case rel =>
    have hle:w.heap.size ≤ wr.heap.size:=HK.out.1;have I7:∀ k_,(Io k_ ∨ wr.heap.size ≤ k_)→k_ ≠ g:=fun k_ hk=>hk.elim (fun h=>(HOK.out k_ h).2) (fun h=>by omega)
    have hin:=Kd.S5 pE.out hgr (fun k_ hk e=>I7 k_ hk (by injection e));have dai:=Kd.vO Ks (x':=⟨vr,a2,wrap64 (a2 + 1),wrap64 (wrap64 (a2 + 1) + 1),wrap64 (wrap64 (wrap64 (a2 + 1) + 1) + 1)⟩) (EH _ _ _ _ hin) (fun k_ hk=>hk.elim .inl (fun h=>.inr ⟨.inr (by omega),h⟩))
    have vI:(done ++ l0.drop j).set (Int.toNat (j:Int)) (⟨vr,a2,wrap64 (a2 + 1),wrap64 (wrap64 (a2 + 1) + 1),wrap64 (wrap64 (wrap64 (a2 + 1) + 1) + 1)⟩:Ff)=(done ++ [⟨vr,a2,wrap64 (a2 + 1),wrap64 (wrap64 (a2 + 1) + 1),wrap64 (wrap64 (wrap64 (a2 + 1) + 1) + 1)⟩]) ++ l0.drop (j + 1):=by
     rw [SX.out,Int.toNat_natCast];exact MY _ _ HD.out.1
    rw [vI] at dai;have hb4:=XA.out.grown hgr XA.out.size (fun k_ e=>by injection e with e;omega);have hk4:=Kept.Bh hgr (HK.out.Gj Vg.out (fun k_ hk=>(HOK.out k_ hk).1)) (fun k_ e=>by injection e with e;subst e;exact HG.out);exact ⟨j + 1,_,_,rest',by omega,by omega,rfl,by go_num,⟨by simp [HD.out.1],HU.out,by rw [HD.out.2];simp⟩,⟨dai⟩,⟨hb4⟩,⟨hk4⟩⟩
  ·have NS:decide ((j:Int) < (l0.length:Int))=false:=decide_eq_false (by omega);obtain rfl:j=l0.length:=by omega
   obtain ⟨d1,d2,d3⟩:=HD.out;rw [List.drop_length] at d2;unfold lg.f at d2
   obtain ⟨rfl,rfl⟩:a=r1∧[]=rest:=by
    have:=Option.some.inj d2;exact ⟨congrArg Prod.fst this,congrArg Prod.snd this⟩
   have HD:=aa.mk d3;clear d1 d2 d3;go_wp2;go_ret;refine ⟨rfl,?_,HB.out,HK.out⟩;have:=HS.out;rw [List.drop_length] at this;rw [HD.out];exact this
def Ch.f (k:Nat) (Ua:List Int) (Pa:Int) (Ra:Int) (Sa:Int) (Fa:List Ff) (a1:Int):Option (Int × List Int × List Ff):=(ye.f k Ua a1).bind fun t=>(lg.f k Fa t.1).bind fun u=>some (u.1,t.2,u.2)
theorem Ch.calls (k:Nat) (gn:Nat→Prop) (pg:Value) (Ua:List Int) (Pa:Int) (Ra:Int) (Sa:Int) (xM:Nat→Prop) (Qu:Value) (Fa:List Ff) (a1:Int) (r1:Int) (r2:List Int) (r3:List Ff) (w0 w:World) (hB:Below w0.heap.size w0 w) (LL:Kd.R (Kd.int .i64) 3 w w0.heap.size gn pg Ua) (XU:Kd.S Wr 59 w w0.heap.size xM Qu Fa) (h:Ch.f k Ua Pa Ra Sa Fa a1=some (r1,r2,r3)) :
  Calls Try.prog 18 #[.agg #[pg,.int .i64 Pa,.int .i64 Ra,.int .i64 Sa,Qu],.int .i64 a1] w fun e w'=>e = .returned (.int .i64 r1)∧Kd.R (Kd.int .i64) 3 w' w0.heap.size (fun k_=>((gn k_ ∨ xM k_) ∨ w.heap.size ≤ k_)) pg r2∧Kd.S Wr 59 w' w0.heap.size (fun k_=>((gn k_ ∨ xM k_) ∨ w.heap.size ≤ k_)) Qu r3∧Below w0.heap.size w0 w'∧Kept w w' (fun k_=>gn k_ ∨ xM k_):=by
 obtain ⟨A0,c0,rfl⟩:=Kd.Lc LL;obtain ⟨A4,c4,rfl⟩:=Kd.yu XU;unfold Ch.f at h;obtain ⟨⟨b1,b2⟩,t1,h⟩:=Option.bind_eq_some_iff.mp h;obtain ⟨⟨b3,b4⟩,t2,h⟩:=Option.bind_eq_some_iff.mp h
 obtain ⟨rfl,rfl,rfl⟩:b3=r1∧b2=r2∧b4=r3:=by
  have:=Option.some.inj h;exact ⟨congrArg Prod.fst this,congrArg (fun x=>x.2.1) this,congrArg (fun x=>x.2.2) this⟩
 obtain ⟨W1,Eg⟩:∃ W1,W1=w.alloc (.cells #[.slice A0 Ua.length c0,.int .i64 Pa,.int .i64 Ra,.int .i64 Sa,.slice A4 Fa.length c4] 30 (0,0)):=⟨_,rfl⟩;have HW:=aa.mk Eg;have hbW:Below w.heap.size w W1:=by rw [Eg];exact ia (Below.refl _ _) _
 have hX1:W1.heap[w.heap.size]? = some (.cells #[.slice A0 Ua.length c0,.int .i64 Pa,.int .i64 Ra,.int .i64 Sa,.slice A4 Fa.length c4] 30 (0,0)):=by rw [Eg];exact kg _ _
 have H0:=aa.mk (Kd.Xf (Kd.Yb LL hbW));have H4:=aa.mk (Kd.LA (Kd.zi XU hbW));have HB:=aa.mk (hB.trans (hbW.mono hB.size));have HK:=aa.mk (Kept.xj hbW (fun k_=>gn k_ ∨ xM k_));have HT1:=aa.mk t1;have HT2:=aa.mk t2;have HX:=aa.mk hX1;have hx0:=(ja hX1 0).trans rfl;clear Eg hbW LL XU hB t1 t2 h hX1;go_enter Try.func18,Try.ntmps18
 go_upto_region 1 with (fail)
 rw [← HW.out];clear HW;go_wp2_with (first|(go_at_call 19;(with_reducible refine (ye.calls k _ _ Ua a1 b1 b2 w0 W1 HB.out H0.out HT1.out).mono ?_);rintro e w2 ⟨rfl,hr,hb,hk⟩;have HR2:=aa.mk hr;have Ty:=aa.mk hb;have KF:=aa.mk hk;have HX2:=aa.mk (Sd HX.out hk (by rintro ⟨_,_,_,q,hq,cells,hc⟩;rw [HX.out] at hc;injection hc with hc;injection hc with _ hc;rw [← hc] at hq;simp [Kd.int,Kd.scalar] at hq));have hy4:=(ja HX2.out 4).trans rfl;have GC:=aa.mk (Kd.jad H4.out KF.out (by rintro k_ ⟨_,_,_,q,hq,cells,hc⟩ ⟨_,_,_,q2,pY,xac,dF⟩;rw [hc] at dF;injection dF with dF;injection dF with _ dF;rw [← dF] at pY;simp [Kd.int,Kd.scalar] at pY;rw [pY] at hq;revert hq;decide));clear hr hb hk)|(go_at_call 56;(with_reducible refine (lg.calls k _ _ Fa b1 b3 b4 w0 w2 Ty.out GC.out HT2.out).mono ?_);rintro e w3 ⟨rfl,hr,hb,hk⟩;have HR3:=aa.mk hr;have VX:=aa.mk hb;have HK3:=aa.mk hk;clear hr hb hk));go_ret;refine ⟨rfl,?_,?_,VX.out,?_⟩
 ·refine Kd.yc (Kd.Kh HR2.out HK3.out ?_) (fun k_ hk=>hk.elim (fun h=>.inl (.inl h.1)) (fun h=>.inr (Nat.le_trans HK.out.1 h)));rintro k_ hk ⟨_,_,hlt,q2,pY,xac,dF⟩
  rcases hk with ⟨_,_,_,q,hq,cells,hc⟩|hk
  ·rw [hc] at dF;injection dF with dF
   injection dF with _ dF
   rw [← dF] at pY;simp [Kd.int,Kd.scalar] at hq;rw [hq] at pY;revert pY
   decide
  ·omega
 ·exact Kd.dn HR3.out (fun k_ hk=>hk.elim (fun h=>.inl (.inr h.1)) (fun h=>.inr (Nat.le_trans HK.out.1 (Nat.le_trans KF.out.1 h))))
 ·exact (HK.out.Gj KF.out (fun k_ hk=>.inl (.inl hk.1))).Gj HK3.out (fun k_ hk=>.inl (.inr hk.1))
theorem fC (l:List Int) (m:Int) (hm:0 ≤ m) (hl:m + l.length ≤ 4611686018427387904):Ev (fun k=>ye.f k l m) (m + l.length,iota m l.length):=by
 have key:=Wj (r:=(m + (l.length:Int),iota m l.length)) (n:=l.length) (fun i=>Ev (fun k=>ye.l0 k ((iota m l.length).take i ++ l.drop i) (m + i) (i:Int)) (m + (l.length:Int),iota m l.length)) ?_ ?_ 0 (by omega)
 ·refine Ev.congr (fun k=>?_) key;unfold ye.f;simp
 ·refine Ev.step (fun k=>by rw [ye.l0]) ?_;refine Ev.neg (by simp [cl]) ?_;rw [List.drop_length,List.append_nil,List.take_of_length_le (by rw [cl];omega)];exact Ev.now _
 ·intro i hi h;refine Ev.step (fun k=>by rw [ye.l0]) ?_;refine Ev.pos (by simp [cl];omega) (Ev.pos (by omega) ?_);have h1:m + (i:Int)=(iota m l.length).getD i 0:=(QG hi).symm;rw [Kf hi (by omega),sg (by omega) (by omega),Int.toNat_natCast];rw [show ((iota m l.length).take i ++ l.drop i).set i (m + (i:Int))=(iota m l.length).take (i + 1) ++ l.drop (i + 1) from by rw [h1];exact FE (by rw [cl]) (by rw [cl];exact hi)];rw [show m + (i:Int) + 1=m + ((i + 1:Nat):Int) from by omega];exact h
theorem XL (m:Int) (n:Nat) (hm:0 ≤ m) (hl:m + n ≤ 4611686018427387904):Ev (fun k=>Le.f k (iota m n) m) (m + n):=by
 have key:=Wj (r:=m + (n:Int)) (n:=n) (fun i=>Ev (fun k=>Le.l0 k (iota m n) (m + i) (i:Int)) (m + (n:Int))) ?_ ?_ 0 (by omega)
 ·refine Ev.congr (fun k=>?_) key;unfold Le.f;simp
 ·refine Ev.step (fun k=>by rw [Le.l0]) ?_;exact Ev.neg (by rw [cl];omega) (Ev.now _)
 ·intro i hi h;refine Ev.step (fun k=>by rw [Le.l0]) ?_;refine Ev.pos (by rw [cl];omega) (Ev.pos (by omega) (Ev.pos (by rw [VT,QG hi]) ?_));rw [Kf hi (by omega),sg (by omega) (by omega)];rw [show m + (i:Int) + 1=m + ((i + 1:Nat):Int) from by omega];exact h
theorem Ux (a:Int):(strOfNums [a]).size=1:=by
 simp [strOfNums]
 rfl
theorem CH (n:Int) (hn:n ≤ 4611686018427387904):∃ t,Ev (fun k=>Dd.f k n) t:=by
 have key:∀ (d:Nat) (x:Int) (s:ByteArray),0 ≤ x→x < (10 ^ d:Nat)→x ≤ 4611686018427387904→s.size + d ≤ 1000000→∃ t,Ev (fun k=>Dd.l0 k x s) t:=by
  intro d
  induction d with
  | zero =>
   intro x s h0 h1 _ hs;have h1':x < 1:=h1;refine ⟨_,Ev.step (fun k=>by rw [Dd.l0]) (Ev.neg (by omega) (Ev.pos (by omega) (Ev.now _)))⟩
  | succ d ih =>
   intro x s h0 h1 h2 hs
   by_cases hx:x > 0
   ·have e1:Int.tdiv x 10=x / 10:=Int.tdiv_eq_ediv_of_nonneg h0;have e2:wrap64 (x / 10)=x / 10:=sg (by omega) (by omega)
    have h1':x / 10 < (10 ^ d:Nat):=by
     have:((10 ^ (d + 1):Nat):Int)=(10 ^ d:Nat) * 10:=by rw [Nat.pow_succ];simp
     rw [this] at h1;omega
    obtain ⟨t,ht⟩:=ih (x / 10) (strOfNums [(wrap64 (48 + (Int.tmod x 10))) % 256] ++ s) (by omega) h1' (by omega) (by rw [ByteArray.size_append,Ux];omega);refine ⟨t,Ev.step (fun k=>by rw [Dd.l0]) (Ev.pos hx ?_)⟩;simp only [Option.bind_some];refine Ev.pos (by rw [Ux];omega) ?_;rw [e1,e2];exact ht
   ·exact ⟨_,Ev.step (fun k=>by rw [Dd.l0]) (Ev.neg hx (Ev.pos (by omega) (Ev.now _)))⟩
 unfold Dd.f
 by_cases h:n ≤ 0
 ·exact ⟨_,Ev.pos h (Ev.now _)⟩
 ·obtain ⟨t,ht⟩:=key 19 n ⟨#[]⟩ (by omega) (by omega) hn (by decide);exact ⟨t,Ev.neg h ht⟩
def Aj (T:Nat→ByteArray) (m:Int) (n:Nat):List tf:=(List.range n).map fun (j:Nat)=>(⟨m + 7 * (j:Int),m + 7 * (j:Int) + 1,m + 7 * (j:Int) + 2,m + 7 * (j:Int) + 3,m + 7 * (j:Int) + 4,m + 7 * (j:Int) + 5,T j⟩:tf)
theorem zj (T:Nat→ByteArray) (m:Int) (n:Nat):(Aj T m n).length=n:=by simp [Aj]
theorem SE {T:Nat→ByteArray} {m:Int} {n j:Nat} (h:j < n):(Aj T m n).getD j Wv=(⟨m + 7 * (j:Int),m + 7 * (j:Int) + 1,m + 7 * (j:Int) + 2,m + 7 * (j:Int) + 3,m + 7 * (j:Int) + 4,m + 7 * (j:Int) + 5,T j⟩:tf):=by simp [Aj,List.getD_eq_getElem?_getD,h]
theorem yH {x:List tf} {i:Nat} (h:i < x.length) (a:tf):Ga (x.set i a) (i:Int)=a:=by
 simp [Ga,List.getD_eq_getElem?_getD,h]
theorem caf {a:Int} (h0:0 ≤ a) (h1:a + 7 ≤ 4611686018427387904):wrap64 (a + 1)=a + 1∧wrap64 (a + 1 + 1)=a + 2∧wrap64 (a + 2 + 1)=a + 3∧wrap64 (a + 3 + 1)=a + 4∧wrap64 (a + 4 + 1)=a + 5∧wrap64 (a + 5 + 1)=a + 6∧wrap64 (a + 6 + 1)=a + 7:=by
 refine ⟨?_,?_,?_,?_,?_,?_,?_⟩
 all_goals
  rw [sg (by omega) (by omega)]
  try omega
def pT (l:List Ff):Nat:=(l.map fun x=>7 * x.f0.length + 4).sum
theorem OE (x:Ff) (l:List Ff):pT (x :: l)=7 * x.f0.length + 4 + pT l:=by simp [pT]
theorem daf {a:Int} (h0:0 ≤ a) (h1:a + 4 ≤ 4611686018427387904):wrap64 (a + 1)=a + 1∧wrap64 (a + 1 + 1)=a + 2∧wrap64 (a + 2 + 1)=a + 3∧wrap64 (a + 3 + 1)=a + 4:=by
 refine ⟨?_,?_,?_,?_⟩
 all_goals
  rw [sg (by omega) (by omega)]
  try omega
theorem xG (l:List tf) (m:Int) (hm:0 ≤ m) (hl:m + 7 * l.length ≤ 4611686018427387904):∃ ms:List tf,Ev (fun k=>ld.f k l m) (m + 7 * l.length,ms):=by
 have hT:∀ j:Nat,∃ t,j < l.length→Ev (fun k=>Dd.f k (m + 7 * (j:Int) + 6)) t:=by
  intro j
  by_cases hj:j < l.length
  ·obtain ⟨t,ht⟩:=CH (m + 7 * (j:Int) + 6) (by omega);exact ⟨t,fun _=>ht⟩
  ·exact ⟨⟨#[]⟩,fun h=>absurd h hj⟩
 obtain ⟨T,hT⟩:=Classical.axiomOfChoice hT;refine ⟨Aj T m l.length,?_⟩
 ·have key:=Wj (r:=(m + 7 * (l.length:Int),Aj T m l.length)) (n:=l.length) (fun i=>Ev (fun k=>ld.l0 k ((Aj T m l.length).take i ++ l.drop i) (m + 7 * i) (i:Int)) (m + 7 * (l.length:Int),Aj T m l.length)) ?_ ?_ 0 (by omega)
  ·refine Ev.congr (fun k=>?_) key;unfold ld.f;simp
  ·refine Ev.step (fun k=>by rw [ld.l0]) ?_;refine Ev.neg (by simp [zj]) ?_;rw [List.drop_length,List.append_nil,List.take_of_length_le (by rw [zj];omega)];exact Ev.now _
  ·intro i hi h;have hlen:((Aj T m l.length).take i ++ l.drop i).length=l.length:=by simp [zj];omega
   have vI:=FE (m:=Aj T m l.length) (l:=l) (z:=Wv) (i:=i) (by rw [zj]) (by rw [zj];exact hi);rw [SE hi] at vI;generalize hx:(Aj T m l.length).take i ++ l.drop i=x at hlen vI ⊢;refine Ev.step (fun k=>by rw [ld.l0]) ?_;refine Ev.pos (by omega) (Ev.pos (by omega) ?_);simp only [Int.toNat_natCast,Option.bind_some];have hi1:i < x.length:=by omega
   simp only [yH hi1,List.set_set];obtain ⟨w1,w2,w3,w4,w5,w6,w7⟩:=caf (a:=m + 7 * (i:Int)) (by omega) (by omega);simp only [w1,w2,w3,w4,w5,w6,w7];refine Ev.bind (hT i hi) ?_;rw [Kf hi (by omega),show m + 7 * (i:Int) + 7=m + 7 * ((i + 1:Nat):Int) from by omega,vI];exact h
theorem zG (l:List Ff):∀ (m:Int),0 ≤ m→m + pT l ≤ 4611686018427387904→∃ ms:List Ff,Ev (fun k=>lg.f k l m) (m + pT l,ms):=by
 induction l with
 | nil =>
  intro m hm hl;refine ⟨[],?_⟩;unfold lg.f;simp only [pT,List.map_nil,List.sum_nil,Int.natCast_zero,Int.add_zero];exact Ev.now _
 | cons x l ih =>
  intro m hm hl;rw [OE] at hl;obtain ⟨c,c1⟩:=xG x.f0 m hm (by omega);obtain ⟨ms,m1⟩:=ih (m + 7 * x.f0.length + 4) (by omega) (by omega);obtain ⟨w1,w2,w3,w4⟩:=daf (a:=m + 7 * (x.f0.length:Int)) (by omega) (by omega);have hv:m + ((7 * x.f0.length + 4 + pT l:Nat):Int)=m + 7 * (x.f0.length:Int) + 4 + pT l:=by omega
  rw [OE,hv];refine ⟨⟨c,m + 7 * x.f0.length,m + 7 * x.f0.length + 1,m + 7 * x.f0.length + 2,m + 7 * x.f0.length + 3⟩ :: ms,?_⟩;unfold lg.f;refine Ev.bind c1 ?_;simp only [w1,w2,w3,w4];exact Ev.bind m1 (Ev.now _)
theorem yG (l0:List Int) (p v s:Int) (l4:List Ff) (m:Int) (hm:0 ≤ m) (hl:m + l0.length + pT l4 ≤ 4611686018427387904):∃ ms:List Ff,Ev (fun k=>Ch.f k l0 p v s l4 m) (m + l0.length + pT l4,iota m l0.length,ms):=by
 obtain ⟨ms,m1⟩:=zG l4 (m + l0.length) (by omega) (by omega);refine ⟨ms,?_⟩;unfold Ch.f;exact Ev.bind (fC l0 m hm (by omega)) (Ev.bind m1 (Ev.now _))
theorem yaa (l:List Ff):pT l ≤ 7 * Rd l + 4 * l.length:=by
 induction l with
 | nil=>simp [pT]
 | cons x l ih =>
  have:Rd (x :: l)=x.f0.length + Rd l:=by simp [Rd]
  rw [OE,this,List.length_cons];omega
theorem iN (l:List Ry):Rd (l.map Og) ≤ szB l:=by
 unfold Rd szB;rw [List.map_map]
 have:∀ l:List Ry,(l.map ((fun (x:Ff)=>x.f0.length) ∘ Og)).sum ≤ (l.map fun x=>YR x.f0).sum:=by
  intro l
  induction l with
  | nil=>simp
  | cons a l ih =>
   rw [List.map_cons,List.map_cons,List.sum_cons,List.sum_cons]
   have:((fun (x:Ff)=>x.f0.length) ∘ Og) a ≤ YR a.f0:=by
    simp [Og,YR]
   omega
 have:=this l;omega
theorem QN (x:S25) (hf:LV x):∃ t:Int,Ev (fun k=>Ji.f k x.f0 x.f1 x.f2 x.f3 x.f4 1048576) t∧(¬ t < 0→x.f0.length ≤ 1048576∧(x.f4.map Og).length ≤ 1048576∧Rd (x.f4.map Og) ≤ 1048576 ∧
  Ev (fun k=>Ah.f k x.f0 x.f1 x.f2 x.f3 x.f4) (x.f0,x.f1,x.f2,x.f3,x.f4.map Og)∧Ev (fun k=>Oj.f k x.f0 x.f1 x.f2 x.f3 (x.f4.map Og) x.f0 x.f1 x.f2 x.f3 (x.f4.map Og)) true ∧
  ∃ M:Int × List Int × List Ff,Ev (fun k=>Ch.f k x.f0 x.f1 x.f2 x.f3 (x.f4.map Og) 1) M∧0 ≤ M.1∧M.1 ≤ 4398046511104):=by
 obtain ⟨h0,_,_,_,h4⟩:=hf;obtain ⟨t,e1,e2,e3⟩:=TN x.f0 x.f1 x.f2 x.f3 x.f4 1048576 (by omega) (by omega) h0.1 h4.1 (fun y hy=>⟨(h4.2 y hy).1.1,fun z hz=>((h4.2 y hy).1.2 z hz).2.2.2.2.2.2⟩);refine ⟨t,e1,fun ht=>?_⟩;have e:=e3 (by omega);obtain ⟨hb4,hbc⟩:=fL (l:=x.f4) (n:=1048576) (by omega);have hl:(x.f4.map Og).length ≤ 1048576:=by rw [List.length_map];exact hb4
 have hst:=iN x.f4;have hm:=yaa (x.f4.map Og);obtain ⟨ms,m1⟩:=yG x.f0 x.f1 x.f2 x.f3 (x.f4.map Og) 1 (by omega) (by omega)
 exact ⟨by omega,hl,by omega,SN x.f0 x.f1 x.f2 x.f3 x.f4 (by omega) hb4 hbc,WN x.f0 x.f1 x.f2 x.f3 (x.f4.map Og) (by omega) (by omega) (fun y hy=>by
  have:=gR _ _ hy
  omega),_,m1,by simp only;omega,by simp only;omega⟩
theorem UG (k:Nat) (A0:Option Addr) (c0 n0:Nat) (l0:List Int) (a1 a2:Int) (A3:Option Addr) (c3 n3:Nat) (l3:List Zb) (a r:Int) (w:World) (h0:n0=l0.length) (h3:n3=l3.length) (Tk:Kd.C (Kd.int .i64) w A0 l0.length l0) (hc0:n0 ≤ c0) (E7:Kd.C Yg w A3 l3.length l3) (YF:n3 ≤ c3) (h:qi.f k l0 a1 a2 l3 a=some r) :
  Calls Try.prog 37 #[.agg #[.slice A0 n0 c0,.int .i64 a1,.int .i64 a2,.slice A3 n3 c3],.int .i64 a] w fun e w'=>e = .returned (.int .i64 r)∧Below w.heap.size w w':=by
 subst h0 h3;exact qi.calls k A0 c0 l0 a1 a2 A3 c3 l3 a r w Tk hc0 E7 YF h
noncomputable def uh.f (k:Nat) (Ua:List Int) (Pa:Int) (Ra:Int) (Sa:Int) (Fa:List Ry):Option Bool :=
 (Ji.f k Ua Pa Ra Sa Fa 1048576).bind fun s=>if s < 0 then some true else
 (Ah.f k Ua Pa Ra Sa Fa).bind fun G =>
 (Pb.f k G.1 G.2.1 G.2.2.1 G.2.2.2.1 G.2.2.2.2).bind fun x =>
 (ug.f k G.1 G.2.1 G.2.2.1 G.2.2.2.1 G.2.2.2.2).bind fun y =>
 (Ki.f k y.1 y.2.1 y.2.2.1 y.2.2.2 x.1 x.2.1 x.2.2.1 x.2.2.2).bind fun e1=>if e1=true then
 (Oj.f k G.1 G.2.1 G.2.2.1 G.2.2.2.1 G.2.2.2.2 G.1 G.2.1 G.2.2.1 G.2.2.2.1 G.2.2.2.2).bind fun e2=>if e2=true then
 (Ch.f k G.1 G.2.1 G.2.2.1 G.2.2.2.1 G.2.2.2.2 1).bind fun M =>
 if M.1 < 0 then none else
 (yj.f k y.1 y.2.1 y.2.2.1 y.2.2.2 1).bind fun m=>(qi.f k m.2.1 y.2.1 y.2.2.1 m.2.2 1).bind fun q=>if q < 0 then none else if q=m.1 then some true else none
 else none else none
theorem uh.calls (k:Nat) (yb:Option Addr) (zb:Nat) (Ua:List Int) (Pa:Int) (Ra:Int) (Sa:Int) (fc:Option Addr) (Qb:Nat) (Fa:List Ry) (r:Bool) (w:World) (jf:Kd.C (Kd.int .i64) w yb Ua.length Ua) (Ze:Ua.length ≤ zb) (Lg:Kd.C nU w fc Fa.length Fa) (Ig:Fa.length ≤ Qb) (h:uh.f k Ua Pa Ra Sa Fa=some r) :
  Calls Try.prog 9 #[.agg #[.slice yb Ua.length zb,.int .i64 Pa,.int .i64 Ra,.int .i64 Sa,.slice fc Fa.length Qb]] w fun e w'=>e = .returned (.bool r)∧Below w.heap.size w w':=by
 unfold uh.f at h;have ij:=aa.mk jf;have zT:=aa.mk Lg;have D6:=aa.mk Ze;have uY:=aa.mk Ig;obtain ⟨W1,Eg⟩:∃ W1,W1=w.alloc (.cells #[.slice yb Ua.length zb,.int .i64 Pa,.int .i64 Ra,.int .i64 Sa,.slice fc Fa.length Qb] 25 (0,0)):=⟨_,rfl⟩;have HW:=aa.mk Eg;have XA:=aa.mk (show Below w.heap.size w W1 by rw [Eg];exact ia (Below.refl _ _) _);have YM:=aa.mk (show W1.heap[w.heap.size]? = some (.cells #[.slice yb Ua.length zb,.int .i64 Pa,.int .i64 Ra,.int .i64 Sa,.slice fc Fa.length Qb] 25 (0,0)) by rw [Eg];exact kg _ _);clear jf Lg Ze Ig Eg;obtain ⟨s,hs,h⟩:=Option.bind_eq_some_iff.mp h;have HSZ:=aa.mk hs;clear hs
 by_cases hneg:s < 0
 ·rw [if_pos hneg] at h;obtain rfl:=Option.some.inj h;have hnb:decide (s < 0)=true:=decide_eq_true hneg;clear h hneg;have aV:=(ja YM.out 0).trans rfl;have KC:=(ja YM.out 1).trans rfl;have vP:=(ja YM.out 2).trans rfl;have wI:=(ja YM.out 3).trans rfl;have SK:=(ja YM.out 4).trans rfl;go_enter Try.func9,Try.ntmps9
  go_upto_region 1 with (fail)
  rw [← HW.out];clear HW;go_wp2_with (first|(go_at_call 10;(with_reducible refine (Ji.calls k yb zb Ua Pa Ra Sa fc Qb Fa 1048576 s W1 (Kd.Kb ij.out XA.out) D6.out (Kd.Kb zT.out XA.out) uY.out HSZ.out).mono ?_);rintro e w2 ⟨rfl,hb⟩;have Ty:=aa.mk (Ma XA.out hb);have HG2:=aa.mk (Na YM.out hb);clear hb));go_ret;exact ⟨rfl,Ty.out⟩
 ·rw [if_neg hneg] at h;have hnb:decide (s < 0)=false:=decide_eq_false hneg;obtain ⟨⟨g1,g2,g3,g4,g5⟩,tG,h⟩:=Option.bind_eq_some_iff.mp h;obtain ⟨⟨x1,x2,x3,x4⟩,tX,h⟩:=Option.bind_eq_some_iff.mp h;obtain ⟨⟨y1,y2,y3,y4⟩,tY,h⟩:=Option.bind_eq_some_iff.mp h;obtain ⟨e1,tE,h⟩:=Option.bind_eq_some_iff.mp h;obtain rfl:e1=true:=by cases e1 with|false=>simp at h|true=>rfl
  rw [if_pos rfl] at h;obtain ⟨e2,tF,h⟩:=Option.bind_eq_some_iff.mp h;obtain rfl:e2=true:=by cases e2 with|false=>simp at h|true=>rfl
  rw [if_pos rfl] at h;obtain ⟨⟨M1,M2,M3⟩,tM,h⟩:=Option.bind_eq_some_iff.mp h;have hM:¬ M1 < 0:=fun hm=>by rw [if_pos hm] at h;cases h
  rw [if_neg hM] at h;obtain ⟨⟨m1,m2,m3⟩,tm,h⟩:=Option.bind_eq_some_iff.mp h;obtain ⟨q,tq,h⟩:=Option.bind_eq_some_iff.mp h;have hq:¬ q < 0:=fun hm=>by rw [if_pos hm] at h;cases h
  rw [if_neg hq] at h;have hqm:q=m1:=Decidable.byContradiction fun hm=>by rw [if_neg hm] at h;cases h
  rw [if_pos hqm] at h;obtain rfl:=Option.some.inj h;subst hqm;have hMb:decide (M1 < 0)=false:=decide_eq_false hM;have hqb:decide (q < 0)=false:=decide_eq_false hq;have TG:=aa.mk tG;have TX:=aa.mk tX;have TY:=aa.mk tY;have TE:=aa.mk tE;have TF:=aa.mk tF;have TM:=aa.mk tM;have Tm:=aa.mk tm;have Tq:=aa.mk tq;clear tG tX tY tE tF tM tm tq hM hq hneg h;have aV:=(ja YM.out 0).trans rfl;have KC:=(ja YM.out 1).trans rfl;have vP:=(ja YM.out 2).trans rfl;have wI:=(ja YM.out 3).trans rfl;have SK:=(ja YM.out 4).trans rfl;go_enter Try.func9,Try.ntmps9
  go_upto_region 1 with (fail)
  rw [← HW.out];clear HW
  go_upto_region 5 with (first|(go_at_call 10;(with_reducible refine (Ji.calls k yb zb Ua Pa Ra Sa fc Qb Fa 1048576 s W1 (Kd.Kb ij.out XA.out) D6.out (Kd.Kb zT.out XA.out) uY.out HSZ.out).mono ?_);rintro e w2 ⟨rfl,hb⟩;have Ty:=aa.mk (Ma XA.out hb);have HG2:=aa.mk (Na YM.out hb);clear hb XA YM aV KC vP wI SK))
  have OO:=HG2;clear HG2;have aV:=(ja OO.out 0).trans rfl;have KC:=(ja OO.out 1).trans rfl;have vP:=(ja OO.out 2).trans rfl;have wI:=(ja OO.out 3).trans rfl;have SK:=(ja OO.out 4).trans rfl
  go_upto_region 6 with (first|(go_at_call 12;(with_reducible refine (Ah.calls k yb zb Ua Pa Ra Sa fc Qb Fa g1 g2 g3 g4 g5 w2 (Kd.Kb ij.out Ty.out) D6.out (Kd.Kb zT.out Ty.out) uY.out TG.out).mono ?_);rintro e w3 ⟨v0,v4,rfl,fj,oB,hb⟩;obtain ⟨B0,d0,rfl⟩:=Kd.Lc fj;obtain ⟨B4,d4,rfl⟩:=Kd.yu oB;have VX:=aa.mk (Ma Ty.out hb);have han:=aa.mk (Na OO.out hb);have PR:=aa.mk (fj);have NR:=aa.mk (oB);have DaF:=Below.size hb;clear fj oB hb Ty OO aV KC vP wI SK)|(go_at_call 33;(with_reducible refine (Pb.calls k B0 d0 g1 g2 g3 g4 B4 d4 g5 x1 x2 x3 x4 w3 (Kd.Jb PR.out).2.2 (Kd.Jb PR.out).2.1 (Kd.Yi NR.out).2.2 (Kd.Yi NR.out).2.1 TX.out).mono ?_);rintro e w4 ⟨v0,v3,rfl,fj,XE,hb⟩;obtain ⟨D0,dq0,rfl⟩:=Kd.Lc fj;obtain ⟨D3,dq3,rfl⟩:=Kd.Lc XE;have HB4:=aa.mk (Ma VX.out hb);have gan:=aa.mk (Na han.out hb);have Mam:=aa.mk (Kd.Yb PR.out hb);have Lam:=aa.mk (Kd.zi NR.out hb);have x_:=aa.mk (qy fj VX.out.size);have r_:=aa.mk (qy XE VX.out.size);have CaF:=Below.size hb;clear fj XE hb VX han PR NR Mam Lam))
  have hz:=(show (w4.alloc (.cells #[.slice D0 x1.length dq0,.int .i64 x2,.int .i64 x3,.slice D3 x4.length dq3] 49 (0,0))).heap.size=w4.heap.size + 1 by simp);have hb:=ia (Below.refl w4.heap.size w4) (.cells #[.slice D0 x1.length dq0,.int .i64 x2,.int .i64 x3,.slice D3 x4.length dq3] 49 (0,0));have hx:=kg w4 (.cells #[.slice D0 x1.length dq0,.int .i64 x2,.int .i64 x3,.slice D3 x4.length dq3] 49 (0,0));generalize w4.alloc (.cells #[.slice D0 x1.length dq0,.int .i64 x2,.int .i64 x3,.slice D3 x4.length dq3] 49 (0,0))=w5 at hz hb hx ⊢;have HB5:=aa.mk (Ma HB4.out hb);have CM:=aa.mk (Na gan.out hb);have w_:=aa.mk (Kd.Yb x_.out hb);have q_:=aa.mk (Kd.Yb r_.out hb);have j_:=aa.mk (hx);have BaF:=Below.size hb;have Z5:=aa.mk hz;clear hz hx hb HB4 gan x_ r_;have hzw:=Tb CM.out;have aV:=(ja CM.out 0).trans rfl;have KC:=(ja CM.out 1).trans rfl;have vP:=(ja CM.out 2).trans rfl;have wI:=(ja CM.out 3).trans rfl;have SK:=(ja CM.out 4).trans rfl
  go_upto_region 7 with (first|(go_at_call 12;(with_reducible refine (Ah.calls k yb zb Ua Pa Ra Sa fc Qb Fa g1 g2 g3 g4 g5 w5 (Kd.Kb ij.out HB5.out) D6.out (Kd.Kb zT.out HB5.out) uY.out TG.out).mono ?_);rintro e w6 ⟨v0,v4,rfl,fj,oB,hb⟩;obtain ⟨B0,d0,rfl⟩:=Kd.Lc fj;obtain ⟨B4,d4,rfl⟩:=Kd.yu oB;have zY:=aa.mk (Ma HB5.out hb);have fan:=aa.mk (Na CM.out hb);have v_:=aa.mk (Kd.Yb w_.out hb);have p_:=aa.mk (Kd.Yb q_.out hb);have i_:=aa.mk (Na j_.out hb);have d_:=aa.mk (qy fj HB5.out.size);have W9:=aa.mk (haa oB HB5.out.size);have AaF:=Below.size hb;clear fj oB hb HB5 CM w_ q_ j_ aV KC vP wI SK))
  have hz:=(show (w6.alloc (.cells #[.slice B0 g1.length d0,.int .i64 g2,.int .i64 g3,.int .i64 g4,.slice B4 g5.length d4] 30 (0,0))).heap.size=w6.heap.size + 1 by simp);have hb:=ia (Below.refl w6.heap.size w6) (.cells #[.slice B0 g1.length d0,.int .i64 g2,.int .i64 g3,.int .i64 g4,.slice B4 g5.length d4] 30 (0,0));have hx:=kg w6 (.cells #[.slice B0 g1.length d0,.int .i64 g2,.int .i64 g3,.int .i64 g4,.slice B4 g5.length d4] 30 (0,0));generalize w6.alloc (.cells #[.slice B0 g1.length d0,.int .i64 g2,.int .i64 g3,.int .i64 g4,.slice B4 g5.length d4] 30 (0,0))=w7 at hz hb hx ⊢;have DT:=aa.mk (Ma zY.out hb);have ean:=aa.mk (Na fan.out hb);have u_:=aa.mk (Kd.Yb v_.out hb);have o_:=aa.mk (Kd.Yb p_.out hb);have g_:=aa.mk (Na i_.out hb);have GR:=aa.mk (Kd.Yb d_.out hb);have FR:=aa.mk (Kd.zi W9.out hb);have zO:=aa.mk (hx);have zaF:=Below.size hb;have Z7:=aa.mk hz;clear hz hx hb zY fan v_ p_ i_ d_ W9;have hx0:=(ja zO.out 0).trans rfl;have hx1:=(ja zO.out 1).trans rfl;have XF:=(ja zO.out 2).trans rfl;have WA:=(ja zO.out 3).trans rfl;have Nu:=(ja zO.out 4).trans rfl
  go_upto_region 8 with (first|(go_at_call 34;(with_reducible refine (ug.calls k B0 d0 g1 g2 g3 g4 B4 d4 g5 y1 y2 y3 y4 w7 (Kd.Jb GR.out).2.2 (Kd.Jb GR.out).2.1 (Kd.Yi FR.out).2.2 (Kd.Yi FR.out).2.1 TY.out).mono ?_);rintro e w8 ⟨v0,v3,rfl,fj,XE,hb⟩;obtain ⟨E0,z9,rfl⟩:=Kd.Lc fj;obtain ⟨E3,y9,rfl⟩:=Kd.Lc XE;have HB8:=aa.mk (Ma DT.out hb);have dan:=aa.mk (Na ean.out hb);have t_:=aa.mk (Kd.Yb u_.out hb);have l_:=aa.mk (Kd.Yb o_.out hb);have f_:=aa.mk (Na g_.out hb);have Y9:=aa.mk (Kd.Yb GR.out hb);have V9:=aa.mk (Kd.zi FR.out hb);have sam:=aa.mk (Na zO.out hb);have S9:=aa.mk (qy fj DT.out.size);have R9:=aa.mk (qy XE DT.out.size);have yaF:=Below.size hb;clear fj XE hb DT ean u_ o_ g_ GR FR zO hx0 hx1 XF WA Nu))
  have hz:=(show (w8.alloc (.cells #[.slice E0 y1.length z9,.int .i64 y2,.int .i64 y3,.slice E3 y4.length y9] 49 (0,0))).heap.size=w8.heap.size + 1 by simp);have hb:=ia (Below.refl w8.heap.size w8) (.cells #[.slice E0 y1.length z9,.int .i64 y2,.int .i64 y3,.slice E3 y4.length y9] 49 (0,0));have hx:=kg w8 (.cells #[.slice E0 y1.length z9,.int .i64 y2,.int .i64 y3,.slice E3 y4.length y9] 49 (0,0));generalize w8.alloc (.cells #[.slice E0 y1.length z9,.int .i64 y2,.int .i64 y3,.slice E3 y4.length y9] 49 (0,0))=w9 at hz hb hx ⊢;have EM:=aa.mk (Ma HB8.out hb);have ban:=aa.mk (Na dan.out hb);have KR:=aa.mk (Kd.Yb t_.out hb);have JR:=aa.mk (Kd.Yb l_.out hb);have lH:=aa.mk (Na f_.out hb);have X9:=aa.mk (Kd.Yb Y9.out hb);have U9:=aa.mk (Kd.zi V9.out hb);have ram:=aa.mk (Na sam.out hb);have ER:=aa.mk (Kd.Yb S9.out hb);have DR:=aa.mk (Kd.Yb R9.out hb);have kH:=aa.mk (hx);have xaF:=Below.size hb;have Z9:=aa.mk hz;clear hz hx hb HB8 dan t_ l_ f_ Y9 V9 sam S9 R9;have hzz:w4.heap.size + 1=w5.heap.size∧w6.heap.size + 1=w7.heap.size∧w8.heap.size + 1=w9.heap.size:=⟨Z5.out.symm,Z7.out.symm,Z9.out.symm⟩;have yT:=aa.mk hzz;clear hzz;have hy0:=(ja kH.out 0).trans rfl;have hy1:=(ja kH.out 1).trans rfl;have pZ:=(ja kH.out 2).trans rfl;have oZ:=(ja kH.out 3).trans rfl;have hw0:=(ja lH.out 0).trans rfl;have hw1:=(ja lH.out 1).trans rfl;have hw2:=(ja lH.out 2).trans rfl;have hw3:=(ja lH.out 3).trans rfl
  go_upto_region 10 with (first|(go_at_call 35;(with_reducible refine (Ki.calls k E0 z9 y1 y2 y3 E3 y9 y4 D0 dq0 x1 x2 x3 D3 dq3 x4 true w9 (Kd.Jb ER.out).2.2 (Kd.Jb ER.out).2.1 (Kd.Jb DR.out).2.2 (Kd.Jb DR.out).2.1 (Kd.Jb KR.out).2.2 (Kd.Jb KR.out).2.1 (Kd.Jb JR.out).2.2 (Kd.Jb JR.out).2.1 TE.out).mono ?_);rintro e Bo ⟨rfl,hb⟩;have yan:=aa.mk (Ma EM.out hb);have PF:=aa.mk (Na ban.out hb);have EX:=aa.mk (Kd.Yb KR.out hb);have uX:=aa.mk (Kd.Yb JR.out hb);have kX:=aa.mk (Na lH.out hb);have YW:=aa.mk (Kd.Yb X9.out hb);have WW:=aa.mk (Kd.zi U9.out hb);have FF:=aa.mk (Na ram.out hb);have TW:=aa.mk (Kd.Yb ER.out hb);have LW:=aa.mk (Kd.Yb DR.out hb);have CW:=aa.mk (Na kH.out hb);have saB:=Below.size hb;clear hb EM ban KR JR lH X9 U9 ram ER DR kH hy0 hy1 pZ oZ hw0 hw1 hw2 hw3))
  have XX:=aa.mk (oa yan.out);have QX:=aa.mk (Ba PF.out);have FO:=aa.mk (Kd.gb EX.out);have EO:=aa.mk (Kd.gb uX.out);have CO:=aa.mk (Ba kX.out);have BO:=aa.mk (Kd.gb YW.out);have AO:=aa.mk (Kd.Qy WW.out);have UW:=aa.mk (Ba FF.out);have yO:=aa.mk (Kd.gb TW.out);have xO:=aa.mk (Kd.gb LW.out);have wO:=aa.mk (Ba CW.out);have Z_:Bo.heap.size ≤ Bo.drew.heap.size:=Nat.le_refl _;refine Gh (n:=5) (S:=fun w'=>w'.cell? ⟨w6.heap.size,0,none⟩=some (.slice B0 g1.length d0)∧w'.cell? ⟨w6.heap.size,1,none⟩=some (.int .i64 g2)∧w'.cell? ⟨w6.heap.size,2,none⟩=some (.int .i64 g3)∧w'.cell? ⟨w6.heap.size,3,none⟩=some (.int .i64 g4)∧w'.cell? ⟨w6.heap.size,4,none⟩=some (.slice B4 g5.length d4)∧w'.cell? ⟨w.heap.size,0,none⟩=some (.slice yb Ua.length zb)∧w'.cell? ⟨w.heap.size,1,none⟩=some (.int .i64 Pa)∧w'.cell? ⟨w.heap.size,2,none⟩=some (.int .i64 Ra)∧w'.cell? ⟨w.heap.size,3,none⟩=some (.int .i64 Sa)∧w'.cell? ⟨w.heap.size,4,none⟩=some (.slice fc Fa.length Qb)) (ds:=[]) #[false,false,false,false,false] (by kernel_rfl) rfl rfl ⟨(ja FF.out 0).trans rfl,(ja FF.out 1).trans rfl,(ja FF.out 2).trans rfl,(ja FF.out 3).trans rfl,(ja FF.out 4).trans rfl,(ja PF.out 0).trans rfl,(ja PF.out 1).trans rfl,(ja PF.out 2).trans rfl,(ja PF.out 3).trans rfl,(ja PF.out 4).trans rfl⟩ (fun hHeld=>?_);generalize Bo.drew=Zj at XX QX FO EO CO BO AO UW yO xO wO Z_ hHeld ⊢;refine Pe (i:=0) (N:=some 27) (v:=?_) (a':=?_) #[true,false,false,false,false] rfl rfl (by kernel_rfl) (fun _ _ _ h=>h) (Or.inl ⟨by rfl,?_⟩) hHeld ?_ ?_;rotate_left
  ·exact baK
  rotate_left
  ·exact WaJ
  refine Pe (i:=1) (N:=some 28) (v:=?_) (a':=?_) #[true,true,false,false,false] rfl rfl (by kernel_rfl) (fun _ _ _ h=>h) (Or.inl ⟨by rfl,?_⟩) hHeld ?_ ?_;rotate_left
  ·exact baK
  rotate_left
  ·exact WaJ
  refine Gi (i:=2) (N:=some 29) #[true,true,true,false,false] rfl rfl (by kernel_rfl) (by decide) (fun K hK=>?_);refine Hj Try.func12 (by kernel_rfl) rfl #[.agg #[.slice yb Ua.length zb,.int .i64 Pa,.int .i64 Ra,.int .i64 Sa,.slice fc Fa.length Qb]] (by rfl) rfl rfl XaK ?_;with_reducible refine (Ah.calls k yb zb Ua Pa Ra Sa fc Qb Fa g1 g2 g3 g4 g5 Zj (Kd.Kb ij.out XX.out) D6.out (Kd.Kb zT.out XX.out) uY.out TG.out).mono ?_
  rintro e Ao ⟨v0,v4,rfl,fj,oB,hb⟩;refine ⟨_,rfl,?_⟩;obtain ⟨F0,i0,rfl⟩:=Kd.Lc fj;obtain ⟨F4,i4,rfl⟩:=Kd.yu oB;have OK:=aa.mk (Ma XX.out hb);have NF:=aa.mk (Na QX.out hb);have DX:=aa.mk (Kd.Yb FO.out hb);have sX:=aa.mk (Kd.Yb EO.out hb);have jX:=aa.mk (Na CO.out hb);have tK:=aa.mk (Kd.Yb BO.out hb);have sK:=aa.mk (Kd.zi AO.out hb);have EF:=aa.mk (Na UW.out hb);have SW:=aa.mk (Kd.Yb yO.out hb);have KW:=aa.mk (Kd.Yb xO.out hb);have AW:=aa.mk (Na wO.out hb);have GK:=aa.mk (fj);have DK:=aa.mk (oB);have Oaw:=Below.size hb;clear fj oB hb XX QX FO EO CO BO AO UW yO xO wO;refine hK.out _ _ ⟨(ja EF.out 0).trans rfl,(ja EF.out 1).trans rfl,(ja EF.out 2).trans rfl,(ja EF.out 3).trans rfl,(ja EF.out 4).trans rfl,(ja NF.out 0).trans rfl,(ja NF.out 1).trans rfl,(ja NF.out 2).trans rfl,(ja NF.out 3).trans rfl,(ja NF.out 4).trans rfl⟩ (fun hHeld=>?_);clear hK K;refine Be (a':=?_) ?_ ?_;rotate_left
  ·show Act.put _ (some 29) _=_
   exact WaJ
  refine Gi (i:=3) (N:=some 30) #[true,true,true,true,false] rfl rfl (by kernel_rfl) (by decide) (fun K hK=>?_);refine Hj Try.func14 (by kernel_rfl) rfl #[.agg #[.slice B0 g1.length d0,.int .i64 g2,.int .i64 g3,.int .i64 g4,.slice B4 g5.length d4],.agg #[.slice F0 g1.length i0,.int .i64 g2,.int .i64 g3,.int .i64 g4,.slice F4 g5.length i4]] (by rfl) rfl rfl XaK ?_;with_reducible refine (Oj.calls k B0 d0 g1 g2 g3 g4 B4 d4 g5 F0 i0 g1 g2 g3 g4 F4 i4 g5 true Ao (Kd.Jb tK.out).2.2 (Kd.Jb tK.out).2.1 (Kd.Yi sK.out).2.2 (Kd.Yi sK.out).2.1 (Kd.Jb GK.out).2.2 (Kd.Jb GK.out).2.1 (Kd.Yi DK.out).2.2 (Kd.Yi DK.out).2.1 TF.out).mono ?_
  rintro e Ep ⟨rfl,hb⟩;refine ⟨_,rfl,?_⟩;have nT:=aa.mk (Ma OK.out hb);have MF:=aa.mk (Na NF.out hb);have CX:=aa.mk (Kd.Yb DX.out hb);have rX:=aa.mk (Kd.Yb sX.out hb);have iX:=aa.mk (Na jX.out hb);have XW:=aa.mk (Kd.Yb tK.out hb);have VW:=aa.mk (Kd.zi sK.out hb);have Sv:=aa.mk (Na EF.out hb);have RW:=aa.mk (Kd.Yb SW.out hb);have JW:=aa.mk (Kd.Yb KW.out hb);have zW:=aa.mk (Na AW.out hb);have Rad:=aa.mk (Kd.Yb GK.out hb);have Bad:=aa.mk (Kd.zi DK.out hb);have Naw:=Below.size hb;clear hb OK NF DX sX jX tK sK EF SW KW AW GK DK Rad Bad;refine hK.out _ _ ⟨(ja Sv.out 0).trans rfl,(ja Sv.out 1).trans rfl,(ja Sv.out 2).trans rfl,(ja Sv.out 3).trans rfl,(ja Sv.out 4).trans rfl,(ja MF.out 0).trans rfl,(ja MF.out 1).trans rfl,(ja MF.out 2).trans rfl,(ja MF.out 3).trans rfl,(ja MF.out 4).trans rfl⟩ (fun hHeld=>?_);clear hK K;refine Be (a':=?_) ?_ ?_;rotate_left
  ·show Act.put _ (some 30) _=_
   exact WaJ
  refine ec (i:=4) (N:=some 31) (v:=?_) (a':=?_) #[true,true,true,true,true] rfl rfl (by kernel_rfl) (fun _ _ _ h=>h) (Or.inl ⟨by rfl,?_⟩) ?_ ?_;rotate_left
  ·exact XaJ
  rotate_left
  ·exact WaJ
  refine fk (by kernel_rfl) ?_;clear yan PF EX uX kX YW WW FF TW LW CW;have hx0:=(ja Sv.out 0).trans rfl;have hx1:=(ja Sv.out 1).trans rfl;have XF:=(ja Sv.out 2).trans rfl;have WA:=(ja Sv.out 3).trans rfl;have Nu:=(ja Sv.out 4).trans rfl
  go_upto_region 14 with (first|(go_at_call 18;(with_reducible refine (Ch.calls k _ _ g1 g2 g3 g4 _ _ g5 1 M1 M2 M3 w Ep nT.out XW.out VW.out TM.out).mono ?_);rintro e Ol ⟨rfl,_,_,hb,hk⟩;have xan:=aa.mk hb;have HK:=aa.mk (Kept.mono hk (fun k_ OS=>(Or.elim OS id id:w5.heap.size ≤ k_∧k_ < w6.heap.size)));have Maw:=hk.1;clear hb hk hx0 hx1 XF WA Nu))
  have M_:=aa.mk (Sd MF.out HK.out (by have:=yT.out;omega));have yK:=aa.mk (Kd.Kh CX.out HK.out (by have:=yT.out;intro k_ h1 h2;omega));have wK:=aa.mk (Kd.Kh rX.out HK.out (by have:=yT.out;intro k_ h1 h2;omega));have QB:=aa.mk (Sd iX.out HK.out (by have:=yT.out;omega));have rK:=aa.mk (Kd.Kh RW.out HK.out (by have:=yT.out;intro k_ h1 h2;omega));have pK:=aa.mk (Kd.Kh JW.out HK.out (by have:=yT.out;intro k_ h1 h2;omega));have NB:=aa.mk (Sd zW.out HK.out (by have:=yT.out;omega));clear nT MF CX rX iX XW VW Sv RW JW zW HK;have hy0:=(ja NB.out 0).trans rfl;have hy1:=(ja NB.out 1).trans rfl;have pZ:=(ja NB.out 2).trans rfl;have oZ:=(ja NB.out 3).trans rfl;have hw0:=(ja QB.out 0).trans rfl;have hw1:=(ja QB.out 1).trans rfl;have hw2:=(ja QB.out 2).trans rfl;have hw3:=(ja QB.out 3).trans rfl
  go_upto_region 17 with (first|(go_at_call 35;(with_reducible refine (Ki.calls k E0 z9 y1 y2 y3 E3 y9 y4 D0 dq0 x1 x2 x3 D3 dq3 x4 true Ol (Kd.Jb rK.out).2.2 (Kd.Jb rK.out).2.1 (Kd.Jb pK.out).2.2 (Kd.Jb pK.out).2.1 (Kd.Jb yK.out).2.2 (Kd.Jb yK.out).2.1 (Kd.Jb wK.out).2.2 (Kd.Jb wK.out).2.1 TE.out).mono ?_);rintro e Ho ⟨rfl,hb⟩;have mT:=aa.mk (Ma xan.out hb);have L_:=aa.mk (Na M_.out hb);have BX:=aa.mk (Kd.Yb yK.out hb);have qX:=aa.mk (Kd.Yb wK.out hb);have fX:=aa.mk (Na QB.out hb);have QW:=aa.mk (Kd.Yb rK.out hb);have IW:=aa.mk (Kd.Yb pK.out hb);have MB:=aa.mk (Na NB.out hb);have Law:=Below.size hb;clear hb xan M_ yK wK QB rK pK NB hy0 hy1 pZ oZ hw0 hw1 hw2 hw3))
  have hy0:=(ja MB.out 0).trans rfl;have hy1:=(ja MB.out 1).trans rfl;have pZ:=(ja MB.out 2).trans rfl;have oZ:=(ja MB.out 3).trans rfl
  go_upto_region 19 with (first|(go_at_call 36;(with_reducible refine (yj.calls k _ _ y1 y2 y3 _ _ y4 1 q m2 m3 w Ho mT.out QW.out IW.out Tm.out).mono ?_);rintro e um ⟨rfl,fj,XE,hb,hk⟩;have wan:=aa.mk hb;have HK:=aa.mk (Kept.mono hk (fun k_ OS=>(Or.elim OS id id:w7.heap.size ≤ k_∧k_ < w8.heap.size)));have DF:=aa.mk fj;have CF:=aa.mk XE;have Kaw:=hk.1;clear hb hk fj XE hy0 hy1 pZ oZ))
  have K_:=aa.mk (Sd L_.out HK.out (by have:=yT.out;omega));have AX:=aa.mk (Kd.Kh BX.out HK.out (by have:=yT.out;intro k_ h1 h2;omega));have pX:=aa.mk (Kd.Kh qX.out HK.out (by have:=yT.out;intro k_ h1 h2;omega));have eX:=aa.mk (Sd fX.out HK.out (by have:=yT.out;omega));have KB:=aa.mk (Sd MB.out HK.out (by have:=yT.out;omega));clear mT L_ BX qX fX QW IW MB HK;have HLM:=aa.mk (And.intro (Kd.Jb DF.out).1 (Kd.Jb CF.out).1);have hy0:=(ja KB.out 0).trans rfl;have hy1:=(ja KB.out 1).trans rfl;have pZ:=(ja KB.out 2).trans rfl;have oZ:=(ja KB.out 3).trans rfl
  go_upto_region 24 with (first|(go_at_call 37;(with_reducible refine (UG k E0 z9 y1.length m2 y2 y3 E3 y9 y4.length m3 1 q um HLM.out.1 HLM.out.2 (Kd.Jb DF.out).2.2 (Kd.Jb DF.out).2.1 (Kd.Jb CF.out).2.2 (Kd.Jb CF.out).2.1 Tq.out).mono ?_);rintro e Qr ⟨rfl,hb⟩;have FM:=aa.mk (Ma wan.out hb);have LF:=aa.mk (Na K_.out hb);have zX:=aa.mk (Kd.Yb AX.out hb);have oX:=aa.mk (Kd.Yb pX.out hb);have dX:=aa.mk (Na eX.out hb);have PW:=aa.mk (Kd.Yb DF.out hb);have GW:=aa.mk (Kd.Yb CF.out hb);have xW:=aa.mk (Na KB.out hb);have Jaw:=Below.size hb;clear hb wan K_ AX pX eX DF CF KB hy0 hy1 pZ oZ))
  have aV:=(ja LF.out 0).trans rfl;have KC:=(ja LF.out 1).trans rfl;have vP:=(ja LF.out 2).trans rfl;have wI:=(ja LF.out 3).trans rfl;have SK:=(ja LF.out 4).trans rfl
  go_upto_region 25 with (first|(go_at_call 12;(with_reducible refine (Ah.calls k yb zb Ua Pa Ra Sa fc Qb Fa g1 g2 g3 g4 g5 Qr (Kd.Kb ij.out FM.out) D6.out (Kd.Kb zT.out FM.out) uY.out TG.out).mono ?_);rintro e Tx ⟨v0,v4,rfl,fj,oB,hb⟩;obtain ⟨F0,i0,rfl⟩:=Kd.Lc fj;obtain ⟨F4,i4,rfl⟩:=Kd.yu oB;have O6:=aa.mk (Ma FM.out hb);have J_:=aa.mk (Na LF.out hb);have yX:=aa.mk (Kd.Yb zX.out hb);have nX:=aa.mk (Kd.Yb oX.out hb);have bX:=aa.mk (Na dX.out hb);have OW:=aa.mk (Kd.Yb PW.out hb);have FW:=aa.mk (Kd.Yb GW.out hb);have wW:=aa.mk (Na xW.out hb);have EK:=aa.mk (fj);have CK:=aa.mk (oB);have Iaw:=Below.size hb;clear fj oB hb FM LF zX oX dX PW GW xW aV KC vP wI SK)|(go_at_call 34;(with_reducible refine (ug.calls k F0 i0 g1 g2 g3 g4 F4 i4 g5 y1 y2 y3 y4 Tx (Kd.Jb EK.out).2.2 (Kd.Jb EK.out).2.1 (Kd.Yi CK.out).2.2 (Kd.Yi CK.out).2.1 TY.out).mono ?_);rintro e Qo ⟨v0,v3,rfl,fj,XE,hb⟩;obtain ⟨Ra0,YT,rfl⟩:=Kd.Lc fj;obtain ⟨Ra3,XT,rfl⟩:=Kd.Lc XE;have van:=aa.mk (Ma O6.out hb);have I_:=aa.mk (Na J_.out hb);have xX:=aa.mk (Kd.Yb yX.out hb);have mX:=aa.mk (Kd.Yb nX.out hb);have aX:=aa.mk (Na bX.out hb);have NW:=aa.mk (Kd.Yb OW.out hb);have EW:=aa.mk (Kd.Yb FW.out hb);have vW:=aa.mk (Na wW.out hb);have Qad:=aa.mk (Kd.Yb EK.out hb);have Aad:=aa.mk (Kd.zi CK.out hb);have PX:=aa.mk (qy fj O6.out.size);have NX:=aa.mk (qy XE O6.out.size);have Haw:=Below.size hb;clear fj XE hb O6 J_ yX nX bX OW FW wW EK CK Qad Aad))
  have hz:=(show (Qo.alloc (.cells #[.slice Ra0 y1.length YT,.int .i64 y2,.int .i64 y3,.slice Ra3 y4.length XT] 49 (0,0))).heap.size=Qo.heap.size + 1 by simp);have hb:=ia (Below.refl Qo.heap.size Qo) (.cells #[.slice Ra0 y1.length YT,.int .i64 y2,.int .i64 y3,.slice Ra3 y4.length XT] 49 (0,0));have hx:=kg Qo (.cells #[.slice Ra0 y1.length YT,.int .i64 y2,.int .i64 y3,.slice Ra3 y4.length XT] 49 (0,0));generalize Qo.alloc (.cells #[.slice Ra0 y1.length YT,.int .i64 y2,.int .i64 y3,.slice Ra3 y4.length XT] 49 (0,0))=Y6 at hz hb hx ⊢;have uan:=aa.mk (Ma van.out hb);have H_:=aa.mk (Na I_.out hb);have xK:=aa.mk (Kd.Yb xX.out hb);have uK:=aa.mk (Kd.Yb mX.out hb);have OB:=aa.mk (Na aX.out hb);have MW:=aa.mk (Kd.Yb NW.out hb);have DW:=aa.mk (Kd.Yb EW.out hb);have uW:=aa.mk (Na vW.out hb);have KK:=aa.mk (Kd.Yb PX.out hb);have JK:=aa.mk (Kd.Yb NX.out hb);have RB:=aa.mk (hx);have Gaw:=Below.size hb;have Z20:=aa.mk hz;clear hz hx hb van I_ xX mX aX NW EW vW PX NX;have hh0:=(ja RB.out 0).trans rfl;have hh1:=(ja RB.out 1).trans rfl;have hh2:=(ja RB.out 2).trans rfl;have hh3:=(ja RB.out 3).trans rfl;have hw0:=(ja OB.out 0).trans rfl;have hw1:=(ja OB.out 1).trans rfl;have hw2:=(ja OB.out 2).trans rfl;have hw3:=(ja OB.out 3).trans rfl
  go_upto_region 28 with (first|(go_at_call 35;(with_reducible refine (Ki.calls k Ra0 YT y1 y2 y3 Ra3 XT y4 D0 dq0 x1 x2 x3 D3 dq3 x4 true Y6 (Kd.Jb KK.out).2.2 (Kd.Jb KK.out).2.1 (Kd.Jb JK.out).2.2 (Kd.Jb JK.out).2.1 (Kd.Jb xK.out).2.2 (Kd.Jb xK.out).2.1 (Kd.Jb uK.out).2.2 (Kd.Jb uK.out).2.1 TE.out).mono ?_);rintro e Wp ⟨rfl,hb⟩;have san:=aa.mk (Ma uan.out hb);have G_:=aa.mk (Na H_.out hb);have wX:=aa.mk (Kd.Yb xK.out hb);have lX:=aa.mk (Kd.Yb uK.out hb);have ZW:=aa.mk (Na OB.out hb);have qK:=aa.mk (Kd.Yb MW.out hb);have oK:=aa.mk (Kd.Yb DW.out hb);have JB:=aa.mk (Na uW.out hb);have OX:=aa.mk (Kd.Yb KK.out hb);have MX:=aa.mk (Kd.Yb JK.out hb);have LX:=aa.mk (Na RB.out hb);have Faw:=Below.size hb;clear hb uan H_ xK uK OB MW DW uW KK JK RB hh0 hh1 hh2 hh3 hw0 hw1 hw2 hw3))
  have hy0:=(ja JB.out 0).trans rfl;have hy1:=(ja JB.out 1).trans rfl;have pZ:=(ja JB.out 2).trans rfl;have oZ:=(ja JB.out 3).trans rfl;go_wp2_with (first|(go_at_call 37;(with_reducible refine (UG k E0 z9 y1.length m2 y2 y3 E3 y9 y4.length m3 1 q Wp HLM.out.1 HLM.out.2 (Kd.Jb qK.out).2.2 (Kd.Jb qK.out).2.1 (Kd.Jb oK.out).2.2 (Kd.Jb oK.out).2.1 Tq.out).mono ?_);rintro e IC ⟨rfl,hb⟩;have eaB:=aa.mk (Ma san.out hb);have gaF:=aa.mk (Na G_.out hb);have maA:=aa.mk (Kd.Yb wX.out hb);have laA:=aa.mk (Kd.Yb lX.out hb);have kaA:=aa.mk (Na ZW.out hb);have iaA:=aa.mk (Kd.Yb qK.out hb);have haA:=aa.mk (Kd.Yb oK.out hb);have gaA:=aa.mk (Na JB.out hb);have QaA:=aa.mk (Kd.Yb OX.out hb);have PaA:=aa.mk (Kd.Yb MX.out hb);have OaA:=aa.mk (Na LX.out hb);have Eaw:=Below.size hb;clear hb san G_ wX lX ZW qK oK JB OX MX LX hy0 hy1 pZ oZ));go_ret;exact ⟨rfl,eaB.out⟩
def Nh (m:Int) (n:Nat):List Zb:=(List.range n).map fun (j:Nat)=>(⟨m + 5 * (j:Int),m + 5 * (j:Int) + 1,m + 5 * (j:Int) + 2,m + 5 * (j:Int) + 3,m + 5 * (j:Int) + 4⟩:Zb)
theorem Hh (m:Int) (n:Nat):(Nh m n).length=n:=by simp [Nh]
theorem Zx {m:Int} {n j:Nat} (h:j < n):(Nh m n).getD j PK=(⟨m + 5 * (j:Int),m + 5 * (j:Int) + 1,m + 5 * (j:Int) + 2,m + 5 * (j:Int) + 3,m + 5 * (j:Int) + 4⟩:Zb):=by simp [Nh,List.getD_eq_getElem?_getD,h]
theorem nL {x:List Zb} {i:Nat} (h:i < x.length) (a:Zb):Wa (x.set i a) (i:Int)=a:=by
 simp [Wa,List.getD_eq_getElem?_getD,h]
theorem TJ (l:List Zb) (m:Int) (hm:0 ≤ m) (hl:m + 5 * l.length ≤ 4611686018427387904):Ev (fun k=>Cd.f k l m) (m + 5 * l.length,Nh m l.length):=by
 have key:=Wj (r:=(m + 5 * (l.length:Int),Nh m l.length)) (n:=l.length) (fun i=>Ev (fun k=>Cd.l0 k ((Nh m l.length).take i ++ l.drop i) (m + 5 * i) (i:Int)) (m + 5 * (l.length:Int),Nh m l.length)) ?_ ?_ 0 (by omega)
 ·refine Ev.congr (fun k=>?_) key;unfold Cd.f;simp
 ·refine Ev.step (fun k=>by rw [Cd.l0]) ?_;refine Ev.neg (by simp [Hh]) ?_;rw [List.drop_length,List.append_nil,List.take_of_length_le (by rw [Hh];omega)];exact Ev.now _
 ·intro i hi h;have hlen:((Nh m l.length).take i ++ l.drop i).length=l.length:=by simp [Hh];omega
  have vI:=FE (m:=Nh m l.length) (l:=l) (z:=PK) (i:=i) (by rw [Hh]) (by rw [Hh];exact hi);rw [Zx hi] at vI;generalize hx:(Nh m l.length).take i ++ l.drop i=x at hlen vI ⊢;refine Ev.step (fun k=>by rw [Cd.l0]) ?_;refine Ev.pos (by omega) (Ev.pos (by omega) ?_);simp only [Int.toNat_natCast,Option.bind_some];have hi1:i < x.length:=by omega
  simp only [nL hi1,List.set_set];rw [Kf hi (by omega)];rw [sg (x:=m + 5 * (i:Int) + 1) (by omega) (by omega),sg (x:=m + 5 * (i:Int) + 1 + 1) (by omega) (by omega),sg (x:=m + 5 * (i:Int) + 1 + 1 + 1) (by omega) (by omega),sg (x:=m + 5 * (i:Int) + 1 + 1 + 1 + 1) (by omega) (by omega),sg (x:=m + 5 * (i:Int) + 1 + 1 + 1 + 1 + 1) (by omega) (by omega)];rw [show m + 5 * (i:Int) + 1 + 1 + 1 + 1 + 1=m + 5 * ((i + 1:Nat):Int) from by omega];have e:=vI ▸ h;refine Ev.congr (fun k=>?_) e
  congr 3
  all_goals omega
theorem WJ (m:Int) (n:Nat) (hm:0 ≤ m) (hl:m + 5 * n ≤ 4611686018427387904):Ev (fun k=>Ce.f k (Nh m n) m) (m + 5 * n):=by
 have key:=Wj (r:=m + 5 * (n:Int)) (n:=n) (fun i=>Ev (fun k=>Ce.l0 k (Nh m n) (m + 5 * i) (i:Int)) (m + 5 * (n:Int))) ?_ ?_ 0 (by omega)
 ·refine Ev.congr (fun k=>?_) key;unfold Ce.f;simp
 ·refine Ev.step (fun k=>by rw [Ce.l0]) ?_;exact Ev.neg (by rw [Hh];omega) (Ev.now _)
 ·intro i hi h;have hr:Wa (Nh m n) (i:Int)=(⟨m + 5 * (i:Int),m + 5 * (i:Int) + 1,m + 5 * (i:Int) + 2,m + 5 * (i:Int) + 3,m + 5 * (i:Int) + 4⟩:Zb):=Zx hi;refine Ev.step (fun k=>by rw [Ce.l0]) ?_;refine Ev.pos (by rw [Hh];omega) (Ev.pos (by omega) ?_);rw [sg (x:=m + 5 * (i:Int) + 1) (by omega) (by omega),sg (x:=m + 5 * (i:Int) + 1 + 1) (by omega) (by omega),sg (x:=m + 5 * (i:Int) + 1 + 1 + 1) (by omega) (by omega),sg (x:=m + 5 * (i:Int) + 1 + 1 + 1 + 1) (by omega) (by omega),sg (x:=m + 5 * (i:Int) + 1 + 1 + 1 + 1 + 1) (by omega) (by omega),hr];refine (Ev.pos (by first|(simp;done)|(simp;omega)) (Ev.pos (by first|(simp;done)|(simp;omega)) (Ev.pos (by first|(simp;done)|(simp;omega)) (Ev.pos (by first|(simp;done)|(simp;omega)) (Ev.pos (by first|(simp;done)|(simp;omega)) ?_)))));rw [Kf hi (by omega)];rw [show m + 5 * (i:Int) + 1 + 1 + 1 + 1 + 1=m + 5 * ((i + 1:Nat):Int) from by omega];exact h
theorem UB (x:S25) (hf:LV x):∃ k,uh.f k x.f0 x.f1 x.f2 x.f3 x.f4=some true:=by
 obtain ⟨t,e1,e2⟩:=QN x hf;refine Ev.rounds (g:=fun k=>uh.f k x.f0 x.f1 x.f2 x.f3 x.f4) ?_;unfold uh.f;refine Ev.bind e1 ?_
 by_cases ht:t < 0
 ·exact Ev.pos ht (Ev.now _)
 refine Ev.neg ht ?_;obtain ⟨h0,hl,hst,hT,hq,⟨M1,M2,M3⟩,hM,hM0,hMu⟩:=e2 ht;obtain ⟨⟨r0,r1,r2,r3⟩,s1,s2,b0,b3⟩:=B5 x.f0 x.f1 x.f2 x.f3 (x.f4.map Og) h0 hl hst;simp only at b0 b3 hM0 hMu;have hE:=ZL r0 r1 r2 r3 (by omega) (by omega)
 have hm:Ev (fun k=>yj.f k r0 r1 r2 r3 1) (1 + r0.length + 5 * r3.length,iota 1 r0.length,Nh (1 + r0.length) r3.length):=by
  unfold yj.f;exact Ev.bind (fC r0 1 (by omega) (by omega)) (Ev.bind (TJ r3 (1 + r0.length) (by omega) (by omega)) (Ev.now _))
 have hh:Ev (fun k=>qi.f k (iota 1 r0.length) r1 r2 (Nh (1 + r0.length) r3.length) 1) (1 + r0.length + 5 * r3.length):=by
  unfold qi.f;exact Ev.bind (XL 1 r0.length (by omega) (by omega)) (Ev.neg (by omega) (Ev.bind (WJ (1 + r0.length) r3.length (by omega) (by omega)) (Ev.neg (by omega) (Ev.now _))))
 exact Ev.bind hT (Ev.bind s1 (Ev.bind s2 (Ev.bind hE (Ev.pos rfl (Ev.bind hq (Ev.pos rfl (Ev.bind hM (Ev.neg (by simp only;omega) (Ev.bind hm (Ev.bind hh (Ev.neg (by omega) (Ev.pos rfl (Ev.now _)))))))))))))
end Go.Proofs.Ytkigbdceceeenaa.P
end
