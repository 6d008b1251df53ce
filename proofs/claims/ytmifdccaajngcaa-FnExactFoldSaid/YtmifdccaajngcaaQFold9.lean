import Derived.Test.YtmifdccaajngcaaQFold1
import Derived.Test.YtmifdccaajngcaaQFold8
import Derived.Test.YtmifdccaajngcaaQFold2
set_option maxHeartbeats 8000000
set_option maxRecDepth 100000
namespace Go.Proofs.Ytmifdccaajngcaa.P
open Go.RowKit Go.Proofs.Ka.Rb Go.Proofs.Ka.Vd Go.Proofs.Ka.ef
attribute [local go_sem] Ph Nh Oi Ni gh fh Oh Mh
set_option linter.unusedVariables false
set_option linter.unusedSimpArgs false
mutual
def Fb.j0:Nat→List Bool→List Int→Bool→Int→Int→Int→Int→Int→Int→ByteArray→Option (Int × Int × Int × Int × Int × Int × ByteArray × List Bool × List Int)
 | 0,_,_,_,_,_,_,_,_,_,_=>none
 | k + 1,x1,x2,x7,we,ud,Dd,Xd,yd,Vn,Un=>if x7=true then (if 0 ≤ Dd then (if Dd < (x2.length:Int) then ((uf.f 0 ud 0 0 0 (rd x2 Dd) (⟨#[]⟩:ByteArray)).bind fun t105=>(if t105=true then (if 0 ≤ ud then (if ud < (x1.length:Int) then (if ud < (x2.length:Int) then (some (0,ud,0,0,0,rd x2 Dd,(⟨#[]⟩:ByteArray),(x1.set (ud:Int).toNat (0 == 0)),(x2.set (ud:Int).toNat (rd x2 Dd)))) else (none)) else (none)) else (none)) else (some (0,ud,0,0,0,rd x2 Dd,(⟨#[]⟩:ByteArray),x1,x2)))) else (none)) else (none)) else (if we=2 then (if 0 ≤ Dd then (if Dd < (x1.length:Int) then (if Ah false x1 Dd=true then (if 0 ≤ Xd then (if Xd < (x1.length:Int) then (Fb.j1 k x1 x2 (Ah false x1 Xd) we ud Dd Xd yd Vn Un) else (none)) else (none)) else (Fb.j1 k x1 x2 false we ud Dd Xd yd Vn Un)) else (none)) else (none)) else (Fb.j1 k x1 x2 false we ud Dd Xd yd Vn Un))
def Fb.j1:Nat→List Bool→List Int→Bool→Int→Int→Int→Int→Int→Int→ByteArray→Option (Int × Int × Int × Int × Int × Int × ByteArray × List Bool × List Int)
 | 0,_,_,_,_,_,_,_,_,_,_=>none
 | k + 1,x1,x2,x26,we,ud,Dd,Xd,yd,Vn,Un=>if x26=true then (if 0 ≤ Dd then (if Dd < (x2.length:Int) then (if 0 ≤ Xd then (if Xd < (x2.length:Int) then ((Lm.f Un (rd x2 Dd) (rd x2 Xd)).bind fun t112=>((uf.f 0 ud 0 0 0 t112 (⟨#[]⟩:ByteArray)).bind fun t113=>(if t113=true then (if 0 ≤ ud then (if ud < (x1.length:Int) then (if ud < (x2.length:Int) then (some (0,ud,0,0,0,t112,(⟨#[]⟩:ByteArray),(x1.set (ud:Int).toNat (0 == 0)),(x2.set (ud:Int).toNat t112))) else (none)) else (none)) else (none)) else (some (0,ud,0,0,0,t112,(⟨#[]⟩:ByteArray),x1,x2))))) else (none)) else (none)) else (none)) else (none)) else ((uf.f we ud Dd Xd yd Vn Un).bind fun t116=>(if t116=true then (if 0 ≤ ud then (if ud < (x1.length:Int) then (if ud < (x2.length:Int) then (some (we,ud,Dd,Xd,yd,Vn,Un,(x1.set (ud:Int).toNat (we == 0)),(x2.set (ud:Int).toNat Vn))) else (none)) else (none)) else (none)) else (some (we,ud,Dd,Xd,yd,Vn,Un,x1,x2))))
end
def Fb.f (k:Nat) (dc:Int) (Ja:Int) (La:Int) (Pa:Int) (Mb:Int) (Cc:Int) (Ac:ByteArray) (l1:List Bool) (l2:List Int):Option (Int × Int × Int × Int × Int × Int × ByteArray × List Bool × List Int):=if dc=1 then (if 0 ≤ La then (if La < (l1.length:Int) then (Fb.j0 k l1 l2 (Ah false l1 La) dc Ja La Pa Mb Cc Ac) else (none)) else (none)) else (Fb.j0 k l1 l2 false dc Ja La Pa Mb Cc Ac)
def Fb.T2:Bool × List (List Nat × List Nat):=(true,[([],[]),([0],[0]),([],[]),([],[]),([3],[3]),([2,4],[2,4]),([5],[5]),([1,6],[1,6]),([7,0,1,2,3,4,5,6,7],[7])])
def Fb.B2:List Nat:=[0,1,0,0,8,28,60,127,255]
theorem Fb.L6:Ll .any (opsOf Try.f74 2)=Fb.T2:=by kernel_rfl
theorem Fb.aY:Qk Fb.T2.2 Fb.B2=true:=by kernel_rfl
def Fb.T4:Bool × List (List Nat × List Nat):=(true,[([],[]),([0],[0]),([],[]),([2],[2]),([],[]),([],[]),([5],[5]),([4,6],[4,6]),([7],[7]),([],[]),([],[]),([10],[10]),([9,11],[9,11]),([12],[12]),([3,8,13],[3,8,13]),([1,14],[1,14]),([15,14,0,1,2,3,4,5,6,7,8,9,10,11,12,13,14,15],[15])])
def Fb.B4:List Nat:=[0,1,0,4,0,0,32,112,240,0,0,1024,3584,7680,16380,32767,65535]
theorem Fb.NN:Ll .any (opsOf Try.f74 4)=Fb.T4:=by kernel_rfl
theorem Fb.uG:Qk Fb.T4.2 Fb.B4=true:=by kernel_rfl
theorem Fb.calls (k:Nat) (dc:Int) (Ja:Int) (La:Int) (Pa:Int) (Mb:Int) (Cc:Int) (Ac:ByteArray) (Mn:Nat→Prop) (th:Value) (l1:List Bool) (Ln:Nat→Prop) (ep:Value) (l2:List Int) (r1:Int) (r2:Int) (r3:Int) (r4:Int) (r5:Int) (r6:Int) (r7:ByteArray) (r8:List Bool) (r9:List Int) (w0 w:World) (hB:Below w0.heap.size w0 w) (ho1:Kd.R Kd.bool 4 w w0.heap.size Mn th l1) (wS:Kd.R (Kd.int .i64) 3 w w0.heap.size Ln ep l2) (h:Fb.f k dc Ja La Pa Mb Cc Ac l1 l2=some (r1,r2,r3,r4,r5,r6,r7,r8,r9)) :
  Calls Try.prog 74 #[.agg #[.int .i64 dc,.int .i64 Ja,.int .i64 La,.int .i64 Pa,.int .i64 Mb,.int .i64 Cc,.string Ac],th,ep] w fun e w'=>e = .returned (.agg #[.int .i64 r1,.int .i64 r2,.int .i64 r3,.int .i64 r4,.int .i64 r5,.int .i64 r6,.string r7])∧Kd.R Kd.bool 4 w' w0.heap.size (fun k_=>((Mn k_ ∨ Ln k_) ∨ w.heap.size ≤ k_)) th r8∧Kd.R (Kd.int .i64) 3 w' w0.heap.size (fun k_=>((Mn k_ ∨ Ln k_) ∨ w.heap.size ≤ k_)) ep r9∧Below w0.heap.size w0 w'∧Kept w w' (fun k_=>Mn k_ ∨ Ln k_):=by
 have DF:=Try.underlying70;have SG:=ia.mk (show Kd.R Kd.bool 4 w w0.heap.size (fun k_=>((Mn k_ ∨ Ln k_) ∨ w.heap.size ≤ k_)) th l1 from Kd.Tc ho1 (fun k_ hk=>(.inl (.inl hk))));have bF:=ia.mk (show Kd.R (Kd.int .i64) 3 w w0.heap.size (fun k_=>((Mn k_ ∨ Ln k_) ∨ w.heap.size ≤ k_)) ep l2 from Kd.Tc wS (fun k_ hk=>(.inl (.inr hk))));have HK:=ia.mk (Kept.refl w (fun k_=>Mn k_ ∨ Ln k_));have HW0:=ia.mk hB.size;have HB:=ia.mk hB;clear hB;have H:(if dc=1 then (if 0 ≤ La then (if La < (l1.length:Int) then (Fb.j0 k l1 l2 (Ah false l1 La) dc Ja La Pa Mb Cc Ac) else (none)) else (none)) else (Fb.j0 k l1 l2 false dc Ja La Pa Mb Cc Ac))=some (r1,r2,r3,r4,r5,r6,r7,r8,r9):=h;clear h;have m6:=ia.mk H;clear H;go_enter Try.func74,Try.ntmps74
 go_upto_region 1 with (first|((with_reducible refine Ib (N:=3) rfl ?_);refine Gb ?hg (N:=3) ?hd (cs:=#[.int .i64 dc,.int .i64 Ja,.int .i64 La,.int .i64 Pa,.int .i64 Mb,.int .i64 Cc,.string Ac]) (t:=70) ?hr ?_;(case hd=>rfl);(case hg=>rfl);(case hr=>first|(go_simp;done)|(go_simp;rfl));intro Da hg w5 Vb hb;have Kb:=ia.mk (Kd.Dc (by (with_reducible repeat (first|apply Kd.Tb|apply Kd.Sb|apply Kd.fc));exact SG.out) hb);have Ub:=ia.mk (Kd.Dc (by (with_reducible repeat (first|apply Kd.Tb|apply Kd.Sb|apply Kd.fc));exact bF.out) hb);have qc:=ia.mk (Kept.below (S:=(fun k_=>Mn k_ ∨ Ln k_)) (by repeat (first|(with_reducible first|exact HK.out|apply Kept.alloc|apply Kept.drewN|apply Kept.drew)|exact HK.out)) hb);have Rc:=ia.mk (Ra (by repeat (first|(with_reducible first|exact HB.out|apply ta|apply ja|apply ua)|exact HB.out)) hb);have Ce:=ia.mk (Vb);have Qe:=ia.mk ((by rw [hg];exact (by first|exact HK.out.1|exact (show Kept w _ (fun k_=>Mn k_ ∨ Ln k_) from by repeat (first|(with_reducible first|exact HK.out|apply Kept.alloc|apply Kept.drewN|apply Kept.drew)|exact HK.out)).1):w.heap.size ≤ Da));have qg:=ia.mk ((by rw [hg];exact (Sa (by repeat (first|(with_reducible first|exact HB.out|apply ta|apply ja|apply ua)|exact HB.out))):w0.heap.size ≤ Da));clear SG bF HK HB;have SG:=Kb;have bF:=Ub;have HK:=qc;have HB:=Rc;have qa:=Ce;have De:=Qe;have Wa:=qg;clear Kb Ub qc Rc Ce Qe qg hb Vb hg)|((with_reducible refine Ib (N:=6) rfl ?_);refine Gb ?hg (N:=6) ?hd (cs:=#[.int .i64 0,.int .i64 0,.int .i64 0,.int .i64 0,.int .i64 0,.int .i64 0,.string (⟨#[]⟩:ByteArray)]) (t:=70) ?hr ?_;(case hd=>rfl);(case hg=>rfl);(case hr=>first|(go_simp;done)|(go_simp;rfl));intro Ga hg w6 Vb hb;have Kb:=ia.mk (Kd.Dc (by (with_reducible repeat (first|apply Kd.Tb|apply Kd.Sb|apply Kd.fc));exact SG.out) hb);have Ub:=ia.mk (Kd.Dc (by (with_reducible repeat (first|apply Kd.Tb|apply Kd.Sb|apply Kd.fc));exact bF.out) hb);have qc:=ia.mk (Ta (g:=Da) (o:=.cells #[.int .i64 dc,.int .i64 Ja,.int .i64 La,.int .i64 Pa,.int .i64 Mb,.int .i64 Cc,.string Ac] 70 (0,0)) (by (with_reducible repeat (first|refine za ?_ _|refine Ca ?_|refine ya ?_ _));exact qa.out) hb);have Rc:=ia.mk (Kept.below (S:=(fun k_=>Mn k_ ∨ Ln k_)) (by repeat (first|(with_reducible first|exact HK.out|apply Kept.alloc|apply Kept.drewN|apply Kept.drew|refine Kept.setCell ?_ (.inr De.out) _)|exact HK.out)) hb);have Ce:=ia.mk (Ra (by repeat (first|(with_reducible first|exact HB.out|apply ta|apply ja|apply ua|refine Aa ?_ Wa.out)|exact HB.out)) hb);have Qe:=ia.mk (Vb);have qg:=ia.mk ((by rw [hg];exact (by first|exact HK.out.1|exact (show Kept w _ (fun k_=>Mn k_ ∨ Ln k_) from by repeat (first|(with_reducible first|exact HK.out|apply Kept.alloc|apply Kept.drewN|apply Kept.drew|refine Kept.setCell ?_ (.inr De.out) _)|exact HK.out)).1):w.heap.size ≤ Ga));have Ap:=ia.mk ((by rw [hg];exact (Sa (by repeat (first|(with_reducible first|exact HB.out|apply ta|apply ja|apply ua|refine Aa ?_ Wa.out)|exact HB.out))):w0.heap.size ≤ Ga));have aA:=ia.mk ((by rw [hg];exact Nat.ne_of_lt (jc (g:=Da) (o:=.cells #[.int .i64 dc,.int .i64 Ja,.int .i64 La,.int .i64 Pa,.int .i64 Mb,.int .i64 Cc,.string Ac] 70 (0,0)) (by (with_reducible repeat (first|refine za ?_ _|refine Ca ?_|refine ya ?_ _));exact qa.out)):Da ≠ Ga));have Zz:=ia.mk ((by rw [hg];exact Nat.ne_of_gt (jc (g:=Da) (o:=.cells #[.int .i64 dc,.int .i64 Ja,.int .i64 La,.int .i64 Pa,.int .i64 Mb,.int .i64 Cc,.string Ac] 70 (0,0)) (by (with_reducible repeat (first|refine za ?_ _|refine Ca ?_|refine ya ?_ _));exact qa.out)):Ga ≠ Da));clear SG bF qa HK HB;have SG:=Kb;have bF:=Ub;have qa:=qc;have HK:=Rc;have HB:=Ce;have Ba:=Qe;have Tf:=qg;have Jb:=Ap;have Xa:=aA;have Va:=Zz;clear Kb Ub qc Rc Ce Qe qg Ap aA Zz hb Vb hg))
 (try simp only [Act.put,List.setIfInBounds_toArray,List.set_cons_zero,List.set_cons_succ])
 go_cut [7] (fun v7 wc=>∃ (kq:Nat) (ES:Bool),v7 = .bool ES∧ia (Fb.j0 kq l1 l2 ES dc Ja La Pa Mb Cc Ac=some (r1,r2,r3,r4,r5,r6,r7,r8,r9))∧ia (kq ≤ k)∧ia (Kd.R Kd.bool 4 wc w0.heap.size (fun k_=>((Mn k_ ∨ Ln k_) ∨ w.heap.size ≤ k_)) th l1)∧ia (Kd.R (Kd.int .i64) 3 wc w0.heap.size (fun k_=>((Mn k_ ∨ Ln k_) ∨ w.heap.size ≤ k_)) ep l2)∧ia (wc.heap[Da]? = some (.cells #[.int .i64 dc,.int .i64 Ja,.int .i64 La,.int .i64 Pa,.int .i64 Mb,.int .i64 Cc,.string Ac] 70 (0,0)))∧ia (wc.heap[Ga]? = some (.cells #[.int .i64 0,.int .i64 0,.int .i64 0,.int .i64 0,.int .i64 0,.int .i64 0,.string (⟨#[]⟩:ByteArray)] 70 (0,0)))∧ia (Kept w wc (fun k_=>Mn k_ ∨ Ln k_))∧ia (Below w0.heap.size w0 wc))
 case first =>
  have H:=m6.out;clear m6
  by_cases c7:dc=1
  ·rw [if_pos c7] at H;have Jl:(dc == 1)=true:=beq_iff_eq.mpr c7;have Mq:(dc != 1)=false:=bne_eq_false_iff_eq.mpr c7;clear c7;(first|rw [Jl]|(simp only [Cb,Db];rw [Jl])|skip)
   by_cases c8:0 ≤ La
   ·rw [if_pos c8] at H;have Gp:decide (0 ≤ La)=true:=decide_eq_true c8;clear c8
    by_cases c9:La < (l1.length:Int)
    ·rw [if_pos c9] at H;have Hw:decide (La < (l1.length:Int))=true:=decide_eq_true c9;clear c9;have H':=ia.mk H;clear H;have Eav:=Xa.out;have Vau:=Va.out;have Uo:w6.cell? ⟨Da,0,none⟩=some (.int .i64 dc):=(ga qa.out 0).trans rfl;have Ro:w6.cell? ⟨Da,1,none⟩=some (.int .i64 Ja):=(ga qa.out 1).trans rfl;have Qo:w6.cell? ⟨Da,2,none⟩=some (.int .i64 La):=(ga qa.out 2).trans rfl;have Po:w6.cell? ⟨Da,3,none⟩=some (.int .i64 Pa):=(ga qa.out 3).trans rfl;have Oo:w6.cell? ⟨Da,4,none⟩=some (.int .i64 Mb):=(ga qa.out 4).trans rfl;have DL:w6.cell? ⟨Da,5,none⟩=some (.int .i64 Cc):=(ga qa.out 5).trans rfl;have CL:w6.cell? ⟨Da,6,none⟩=some (.string Ac):=(ga qa.out 6).trans rfl;have Ho:=aa qa.out 0;have Fo:=aa qa.out 1;have Eo:=aa qa.out 2;have Co:=aa qa.out 3;have Bo:=aa qa.out 4;have oK:=aa qa.out 5;have nK:=aa qa.out 6;obtain ⟨KaA,Jaz,Uar⟩:=Kd.Oe SG.out;subst Uar;have Zg:0 ≤ (La:Int):=of_decide_eq_true (by first|(with_reducible assumption)|assumption);have Yg:La < (l1.length:Int):=of_decide_eq_true (by first|(with_reducible assumption)|assumption);obtain ⟨Ef,Nl,Bd⟩:=Kd.Kw (Kd.oc SG.out).2.2 La Zg Yg;cases Nl;replace Zg:=eq_true Zg;replace Yg:=eq_true Yg;go_wp2
     go_meet
     case rel=>exact ⟨_,(Ah false l1 La),(by first|rfl|(simp;done)|(simp [*];done)),H',⟨by first|omega|exact Nat.le_refl _⟩,⟨by (with_reducible repeat (first|apply Kd.Tb|apply Kd.Sb|apply Kd.fc));exact SG.out⟩,⟨by (with_reducible repeat (first|apply Kd.Tb|apply Kd.Sb|apply Kd.fc));exact bF.out⟩,⟨by (with_reducible repeat (first|refine za ?_ _|refine Ca ?_|refine ya ?_ _));exact qa.out⟩,⟨by (with_reducible repeat (first|refine za ?_ _|refine Ca ?_|refine ya ?_ _));exact Ba.out⟩,⟨by repeat (first|(with_reducible first|exact HK.out|apply Kept.alloc|apply Kept.drewN|apply Kept.drew|refine Kept.setCell ?_ (.inr De.out) _|refine Kept.setCell ?_ (.inr Tf.out) _)|exact HK.out)⟩,⟨by repeat (first|(with_reducible first|exact HB.out|apply ta|apply ja|apply ua|refine Aa ?_ Wa.out|refine Aa ?_ Jb.out)|exact HB.out)⟩⟩
    ·rw [if_neg c9] at H;exact absurd H (by simp)
   ·rw [if_neg c8] at H;exact absurd H (by simp)
  ·rw [if_neg c7] at H;have Jl:(dc == 1)=false:=beq_eq_false_iff_ne.mpr c7;have Mq:(dc != 1)=true:=bne_iff_ne.mpr c7;(first|rw [Jl]|(simp only [Cb,Db];rw [Jl])|skip);have H':=ia.mk H;clear H;have C8:=Xa.out;have U7:=Va.out;have Am:w6.cell? ⟨Da,0,none⟩=some (.int .i64 dc):=(ga qa.out 0).trans rfl;have zm:w6.cell? ⟨Da,1,none⟩=some (.int .i64 Ja):=(ga qa.out 1).trans rfl;have ym:w6.cell? ⟨Da,2,none⟩=some (.int .i64 La):=(ga qa.out 2).trans rfl;have xm:w6.cell? ⟨Da,3,none⟩=some (.int .i64 Pa):=(ga qa.out 3).trans rfl;have wm:w6.cell? ⟨Da,4,none⟩=some (.int .i64 Mb):=(ga qa.out 4).trans rfl;have cE:w6.cell? ⟨Da,5,none⟩=some (.int .i64 Cc):=(ga qa.out 5).trans rfl;have bE:w6.cell? ⟨Da,6,none⟩=some (.string Ac):=(ga qa.out 6).trans rfl;have mm:=aa qa.out 0;have jm:=aa qa.out 1;have gm:=aa qa.out 2;have dm:=aa qa.out 3;have cm:=aa qa.out 4;have dD:=aa qa.out 5;have cD:=aa qa.out 6;go_wp2
   go_meet
   case rel=>exact ⟨_,(false),(by first|rfl|(simp;done)|(simp [*];done)),H',⟨by first|omega|exact Nat.le_refl _⟩,⟨by (with_reducible repeat (first|apply Kd.Tb|apply Kd.Sb|apply Kd.fc));exact SG.out⟩,⟨by (with_reducible repeat (first|apply Kd.Tb|apply Kd.Sb|apply Kd.fc));exact bF.out⟩,⟨by (with_reducible repeat (first|refine za ?_ _|refine Ca ?_|refine ya ?_ _));exact qa.out⟩,⟨by (with_reducible repeat (first|refine za ?_ _|refine Ca ?_|refine ya ?_ _));exact Ba.out⟩,⟨by repeat (first|(with_reducible first|exact HK.out|apply Kept.alloc|apply Kept.drewN|apply Kept.drew|refine Kept.setCell ?_ (.inr De.out) _|refine Kept.setCell ?_ (.inr Tf.out) _)|exact HK.out)⟩,⟨by repeat (first|(with_reducible first|exact HB.out|apply ta|apply ja|apply ua|refine Aa ?_ Wa.out|refine Aa ?_ Jb.out)|exact HB.out)⟩⟩
 case rest =>
  clear m6
  try clear c1
  try clear p1
  try clear q1
  try clear hx1
  try clear p2
  try clear c7
  try clear Jl
  try clear Mq
  try clear c8
  try clear Gp
  try clear c9
  try clear Hw
  try clear Fs
  try clear qF
  try clear oF
  try clear PZ
  try clear ZX
  try clear Uo
  try clear Ro
  try clear Qo
  try clear Po
  try clear Oo
  try clear DL
  try clear CL
  try clear Am
  try clear zm
  try clear ym
  try clear xm
  try clear wm
  try clear cE
  try clear bE
  try clear Ho
  try clear Fo
  try clear Eo
  try clear Co
  try clear Bo
  try clear oK
  try clear nK
  try clear mm
  try clear jm
  try clear gm
  try clear dm
  try clear cm
  try clear dD
  try clear cD
  try clear Bd
  try clear Zg
  try clear Yg
  obtain ⟨kq,ES,rfl,HA,HJ3,bf,Pe,qa,Ba,HK,HB⟩:=hcut;cases kq with
  | zero=>exact absurd HA.out (by simp [Fb.j0])
  | succ WW =>
   have H:=HA.out;clear HA;simp only [Fb.j0] at H
   by_cases j3:ES=true
   ·subst j3;have H1:(if 0 ≤ La then (if La < (l2.length:Int) then ((uf.f 0 Ja 0 0 0 (rd l2 La) (⟨#[]⟩:ByteArray)).bind fun t105=>(if t105=true then (if 0 ≤ Ja then (if Ja < (l1.length:Int) then (if Ja < (l2.length:Int) then (some (0,Ja,0,0,0,rd l2 La,(⟨#[]⟩:ByteArray),(l1.set (Ja:Int).toNat (0 == 0)),(l2.set (Ja:Int).toNat (rd l2 La)))) else (none)) else (none)) else (none)) else (some (0,Ja,0,0,0,rd l2 La,(⟨#[]⟩:ByteArray),l1,l2)))) else (none)) else (none))=some (r1,r2,r3,r4,r5,r6,r7,r8,r9):=by rw [if_pos rfl] at H;exact H
    clear H;have H:=H1;clear H1
    by_cases uN:0 ≤ La
    ·rw [if_pos uN] at H;have Eaf:decide (0 ≤ La)=true:=decide_eq_true uN;clear uN
     by_cases TB:La < (l2.length:Int)
     ·rw [if_pos TB] at H;have Jw:decide (La < (l2.length:Int))=true:=decide_eq_true TB;clear TB;replace H:=Option.bind_eq_some_iff.mp H;obtain ⟨t105,mS,H⟩:=H;replace H:(if t105=true then (if 0 ≤ Ja then (if Ja < (l1.length:Int) then (if Ja < (l2.length:Int) then (some (0,Ja,0,0,0,rd l2 La,(⟨#[]⟩:ByteArray),(l1.set (Ja:Int).toNat (0 == 0)),(l2.set (Ja:Int).toNat (rd l2 La)))) else (none)) else (none)) else (none)) else (some (0,Ja,0,0,0,rd l2 La,(⟨#[]⟩:ByteArray),l1,l2)))=some (r1,r2,r3,r4,r5,r6,r7,r8,r9):=H;have nN:=ia.mk mS;clear mS
      by_cases Bt:t105=true
      ·subst Bt;have H1:(if 0 ≤ Ja then (if Ja < (l1.length:Int) then (if Ja < (l2.length:Int) then (some (0,Ja,0,0,0,rd l2 La,(⟨#[]⟩:ByteArray),(l1.set (Ja:Int).toNat (0 == 0)),(l2.set (Ja:Int).toNat (rd l2 La)))) else (none)) else (none)) else (none))=some (r1,r2,r3,r4,r5,r6,r7,r8,r9):=by rw [if_pos rfl] at H;exact H
       clear H;have H:=H1;clear H1
       by_cases Hx:0 ≤ Ja
       ·rw [if_pos Hx] at H;have pQ:decide (0 ≤ Ja)=true:=decide_eq_true Hx;clear Hx
        by_cases yt:Ja < (l1.length:Int)
        ·rw [if_pos yt] at H;have SB:decide (Ja < (l1.length:Int))=true:=decide_eq_true yt;clear yt;obtain ⟨Te,Jq⟩:∃ y_:List Bool,y_=(l1.set (Ja:Int).toNat (0 == 0)):=⟨_,rfl⟩;replace H:(if Ja < (l2.length:Int) then (some (0,Ja,0,0,0,rd l2 La,(⟨#[]⟩:ByteArray),Te,(l2.set (Ja:Int).toNat (rd l2 La)))) else (none))=some (r1,r2,r3,r4,r5,r6,r7,r8,r9):=by first|(rw [Jq];with_reducible exact H)|(have lg:=(Option.bind_some _ _).symm.trans H;rw [Jq];with_reducible exact lg)|(have lg:=(Option.bind_some _ _).symm.trans H;with_reducible exact lg)|with_reducible exact H|(rw [Jq];exact H)|exact H
         have AQ:=ia.mk Jq;clear Jq
         by_cases gI:Ja < (l2.length:Int)
         ·rw [if_pos gI] at H;have Baf:decide (Ja < (l2.length:Int))=true:=decide_eq_true gI;clear gI;obtain ⟨sg,Rm⟩:∃ y_:List Int,y_=(l2.set (Ja:Int).toNat (rd l2 La)):=⟨_,rfl⟩;replace H:(some (0,Ja,0,0,0,rd l2 La,(⟨#[]⟩:ByteArray),Te,sg))=some (r1,r2,r3,r4,r5,r6,r7,r8,r9):=by first|(rw [Rm];with_reducible exact H)|(have lg:=(Option.bind_some _ _).symm.trans H;rw [Rm];with_reducible exact lg)|(have lg:=(Option.bind_some _ _).symm.trans H;with_reducible exact lg)|with_reducible exact H|(rw [Rm];exact H)|exact H
          have EG:=ia.mk Rm;clear Rm;simp only [Option.some.injEq,Prod.mk.injEq] at H;obtain ⟨rfl,rfl,rfl,rfl,rfl,rfl,rfl,rfl,rfl⟩:=H
          try go_wp2
          have Kb:=ia.mk (Kd.fc bf.out);have Ub:=ia.mk (Kd.fc Pe.out);have qc:=ia.mk (Ca qa.out);have Rc:=ia.mk (Ca Ba.out);have Ce:=ia.mk (Kept.drew HK.out);have Qe:=ia.mk (ua HB.out);clear bf Pe qa Ba HK HB;have bf:=Kb;have Pe:=Ub;have qa:=qc;have Ba:=Rc;have HK:=Ce;have HB:=Qe;clear Kb Ub qc Rc Ce Qe;obtain ⟨IaA,Vae,Qae⟩:=Kd.Oe Pe.out;(first|subst Qae|(injection Qae with dQ Z1 cQ;have Y1:=dQ.symm;have X1:=cQ.symm;clear dQ Z1 cQ;subst Y1;subst X1));have bh:0 ≤ (La:Int):=of_decide_eq_true (by first|(with_reducible assumption)|assumption);have ah:La < (l2.length:Int):=of_decide_eq_true (by first|(with_reducible assumption)|assumption);obtain ⟨xj,Ml,Ud⟩:=Kd.Ij (Kd.oc Pe.out).2.2 La bh ah;cases Ml;replace bh:=eq_true bh;replace ah:=eq_true ah;refine Mi (n:=9) (S:=fun w'=>w'.cell? ⟨Da,0,none⟩=some (.int .i64 dc)∧w'.cell? ⟨Da,1,none⟩=some (.int .i64 Ja)∧w'.cell? ⟨Da,2,none⟩=some (.int .i64 La)∧w'.cell? ⟨Da,3,none⟩=some (.int .i64 Pa)∧w'.cell? ⟨Da,4,none⟩=some (.int .i64 Mb)∧w'.cell? ⟨Da,5,none⟩=some (.int .i64 Cc)∧w'.cell? ⟨Da,6,none⟩=some (.string Ac)∧w'.cell? (xj.add (La).toNat)=some (.int .i64 (rd l2 La))) (ds:=[8]) #[false,false,false,false,false,false,false,false,false] (by kernel_rfl) rfl rfl ⟨(ga qa.out 0).trans rfl,(ga qa.out 1).trans rfl,(ga qa.out 2).trans rfl,(ga qa.out 3).trans rfl,(ga qa.out 4).trans rfl,(ga qa.out 5).trans rfl,(ga qa.out 6).trans rfl,Ud⟩ (fun hHeld=>?_);refine dh Fb.L6 Fb.aY (fun We Jm=>?_);generalize wc.drew=EB at bf Pe qa Ba HK HB Ud hHeld ⊢;refine Ic (i:=0) (N:=some 18) (v:=?_) (a':=?_) #[true,false,false,false,false,false,false,false,false] rfl rfl (nc We.out (by kernel_rfl)) (fun _ _ _ h=>h) (Or.inl ⟨by rfl,?_⟩) ?_ ?_;rotate_left
          ·intro w';go_simp;with_reducible rfl
          rotate_left
          ·simp only [Act.put,List.setIfInBounds_toArray,List.set_cons_zero,List.set_cons_succ,Cb,Db]
           rfl
          refine Ic (i:=2) (N:=some 20) (v:=?_) (a':=?_) #[true,false,true,false,false,false,false,false,false] rfl rfl (nc We.out (by kernel_rfl)) (fun _ _ _ h=>h) (Or.inl ⟨by rfl,?_⟩) ?_ ?_;rotate_left
          ·intro w';go_simp;with_reducible rfl
          rotate_left
          ·simp only [Act.put,List.setIfInBounds_toArray,List.set_cons_zero,List.set_cons_succ,Cb,Db]
           rfl
          refine Ic (i:=3) (N:=some 21) (v:=?_) (a':=?_) #[true,false,true,true,false,false,false,false,false] rfl rfl (nc We.out (by kernel_rfl)) (fun _ _ _ h=>h) (Or.inl ⟨by rfl,?_⟩) ?_ ?_;rotate_left
          ·intro w';go_simp;with_reducible rfl
          rotate_left
          ·simp only [Act.put,List.setIfInBounds_toArray,List.set_cons_zero,List.set_cons_succ,Cb,Db]
           rfl
          refine Mf (i:=1) (N:=some 19) (v:=?_) (a':=?_) #[true,true,true,true,false,false,false,false,false] rfl rfl (Od We.out Jm.out (by kernel_rfl)) (fun _ _ _ h=>h) (Or.inl ⟨by rfl,?_⟩) hHeld ?_ ?_;rotate_left
          ·rintro w' ⟨s0,s1,s2,s3,s4,s5,s6,s7⟩;go_simp;with_reducible rfl
          rotate_left
          ·simp only [Act.put,List.setIfInBounds_toArray,List.set_cons_zero,List.set_cons_succ,Cb,Db]
           rfl
          refine Mf (i:=4) (N:=some 22) (v:=?_) (a':=?_) #[true,true,true,true,true,false,false,false,false] rfl rfl (Od We.out Jm.out (by kernel_rfl)) (fun _ _ _ h=>h) (Or.inl ⟨by rfl,?_⟩) hHeld ?_ ?_;rotate_left
          ·rintro w' ⟨s0,s1,s2,s3,s4,s5,s6,s7⟩;go_simp;with_reducible rfl
          rotate_left
          ·simp only [Act.put,List.setIfInBounds_toArray,List.set_cons_zero,List.set_cons_succ,Cb,Db]
           rfl
          refine Ic (i:=5) (N:=some 23) (v:=?_) (a':=?_) #[true,true,true,true,true,true,false,false,false] rfl rfl (nc We.out (by kernel_rfl)) (fun _ _ _ h=>h) (Or.inl ⟨by rfl,?_⟩) ?_ ?_;rotate_left
          ·intro w';go_simp;with_reducible rfl
          rotate_left
          ·simp only [Act.put,List.setIfInBounds_toArray,List.set_cons_zero,List.set_cons_succ,Cb,Db]
           rfl
          refine Mf (i:=6) (N:=some 24) (v:=?_) (a':=?_) #[true,true,true,true,true,true,true,false,false] rfl rfl (Od We.out Jm.out (by kernel_rfl)) (fun _ _ _ h=>h) (Or.inl ⟨by rfl,?_⟩) hHeld ?_ ?_;rotate_left
          ·rintro w' ⟨s0,s1,s2,s3,s4,s5,s6,s7⟩;go_simp;with_reducible rfl
          rotate_left
          ·simp only [Act.put,List.setIfInBounds_toArray,List.set_cons_zero,List.set_cons_succ,Cb,Db]
           rfl
          refine Ic (i:=7) (N:=some 25) (v:=?_) (a':=?_) #[true,true,true,true,true,true,true,true,false] rfl rfl (nc We.out (by kernel_rfl)) (fun _ _ _ h=>h) (Or.inl ⟨by rfl,?_⟩) ?_ ?_;rotate_left
          ·intro w';go_simp;with_reducible rfl
          rotate_left
          ·simp only [Act.put,List.setIfInBounds_toArray,List.set_cons_zero,List.set_cons_succ,Cb,Db]
           rfl
          refine dA (i:=8) (N:=none) #[true,true,true,true,true,true,true,true,true] rfl rfl (jk We.out (by kernel_rfl)) (by decide) (fun K hK=>?_);have Xay:EB.cell? ⟨Da,0,none⟩=some (.int .i64 dc):=(ga qa.out 0).trans rfl;have eaw:=aa qa.out 0;have Nah:=Va.out;have kai:=Xa.out;have Vay:EB.cell? ⟨Da,1,none⟩=some (.int .i64 Ja):=(ga qa.out 1).trans rfl;have daw:=aa qa.out 1;have Mah:=Va.out;have jai:=Xa.out;have Uay:EB.cell? ⟨Da,2,none⟩=some (.int .i64 La):=(ga qa.out 2).trans rfl;have caw:=aa qa.out 2;have Lah:=Va.out;have iai:=Xa.out;have Tay:EB.cell? ⟨Da,3,none⟩=some (.int .i64 Pa):=(ga qa.out 3).trans rfl;have baw:=aa qa.out 3;have Kah:=Va.out;have hai:=Xa.out;have Say:EB.cell? ⟨Da,4,none⟩=some (.int .i64 Mb):=(ga qa.out 4).trans rfl;have aaw:=aa qa.out 4;have Jah:=Va.out;have gai:=Xa.out;have Ray:EB.cell? ⟨Da,5,none⟩=some (.int .i64 Cc):=(ga qa.out 5).trans rfl;have Zav:=aa qa.out 5;have Iah:=Va.out;have fai:=Xa.out;have Qay:EB.cell? ⟨Da,6,none⟩=some (.string Ac):=(ga qa.out 6).trans rfl;have Yav:=aa qa.out 6;have Hah:=Va.out;have eai:=Xa.out;refine Sz (w1:=?_) (by rfl) rfl ?_ ?_;rotate_left
          ·go_simp
           rfl
          refine hK.out _ _ ?_;clear hK K;refine Fl (Vi We.out (by kernel_rfl)) ?_;have l8:=Xa.out;have N7:=Va.out;have wz:EB.cell? ⟨Da,0,none⟩=some (.int .i64 dc):=(ga qa.out 0).trans rfl;have vz:EB.cell? ⟨Da,1,none⟩=some (.int .i64 Ja):=(ga qa.out 1).trans rfl;have uz:EB.cell? ⟨Da,2,none⟩=some (.int .i64 La):=(ga qa.out 2).trans rfl;have rz:EB.cell? ⟨Da,3,none⟩=some (.int .i64 Pa):=(ga qa.out 3).trans rfl;have qz:EB.cell? ⟨Da,4,none⟩=some (.int .i64 Mb):=(ga qa.out 4).trans rfl;have MV:EB.cell? ⟨Da,5,none⟩=some (.int .i64 Cc):=(ga qa.out 5).trans rfl;have LV:EB.cell? ⟨Da,6,none⟩=some (.string Ac):=(ga qa.out 6).trans rfl;have Ny:=aa qa.out 0;have My:=aa qa.out 1;have Ly:=aa qa.out 2;have Ky:=aa qa.out 3;have Jy:=aa qa.out 4;have oU:=aa qa.out 5;have nU:=aa qa.out 6
          try go_wp2_with (first|((with_reducible refine qb (f:=100) rfl ?_);refine Qc (some 61) rfl rfl Try.func100 (by kernel_rfl) rfl #[.agg #[.int .i64 0,.int .i64 Ja,.int .i64 0,.int .i64 0,.int .i64 0,.int .i64 (rd l2 La),.string (⟨#[]⟩:ByteArray)]] rfl (by (try simp only [List.map_toArray,List.map_cons,List.map_nil]);first|done|rfl|(simp only [List.length_drop,List.length_take];rfl)) ?_;(with_reducible refine (uf.calls 0 Ja 0 0 0 (rd l2 La) (⟨#[]⟩:ByteArray) true _ nN.out).mono ?_);rintro e Ys ⟨rfl,hb⟩;refine ⟨_,rfl,?_⟩;have Kb:=ia.mk (Kd.Dc (by (with_reducible repeat (first|apply Kd.Tb|apply Kd.Sb|apply Kd.fc));exact (Kd.Tc (Kd.Eb (p:=⟨Da,6,none⟩) (Kd.Eb (p:=⟨Da,5,none⟩) (Kd.Eb (p:=⟨Da,4,none⟩) (Kd.Eb (p:=⟨Da,3,none⟩) (Kd.Eb (p:=⟨Da,2,none⟩) (Kd.Eb (p:=⟨Da,1,none⟩) (Kd.Eb (p:=⟨Da,0,none⟩) (Kd.fe bf.out qa.out (by decide)) (fun _ hk=>hk.2) (.int .i64 0)) (fun _ hk=>hk.2) (.int .i64 Ja)) (fun _ hk=>hk.2) (.int .i64 0)) (fun _ hk=>hk.2) (.int .i64 0)) (fun _ hk=>hk.2) (.int .i64 0)) (fun _ hk=>hk.2) (.int .i64 (rd l2 La))) (fun _ hk=>hk.2) (.string (⟨#[]⟩:ByteArray))) (fun _ h_=>h_.1))) hb);have Ub:=ia.mk (Kd.Dc (by (with_reducible repeat (first|apply Kd.Tb|apply Kd.Sb|apply Kd.fc));exact (Kd.Tc (Kd.Eb (p:=⟨Da,6,none⟩) (Kd.Eb (p:=⟨Da,5,none⟩) (Kd.Eb (p:=⟨Da,4,none⟩) (Kd.Eb (p:=⟨Da,3,none⟩) (Kd.Eb (p:=⟨Da,2,none⟩) (Kd.Eb (p:=⟨Da,1,none⟩) (Kd.Eb (p:=⟨Da,0,none⟩) (Kd.fe Pe.out qa.out (by decide)) (fun _ hk=>hk.2) (.int .i64 0)) (fun _ hk=>hk.2) (.int .i64 Ja)) (fun _ hk=>hk.2) (.int .i64 0)) (fun _ hk=>hk.2) (.int .i64 0)) (fun _ hk=>hk.2) (.int .i64 0)) (fun _ hk=>hk.2) (.int .i64 (rd l2 La))) (fun _ hk=>hk.2) (.string (⟨#[]⟩:ByteArray))) (fun _ h_=>h_.1))) hb);have qc:=ia.mk (Ta (g:=Da) (o:=.cells #[.int .i64 0,.int .i64 Ja,.int .i64 0,.int .i64 0,.int .i64 0,.int .i64 (rd l2 La),.string (⟨#[]⟩:ByteArray)] 70 (0,0)) (by (with_reducible repeat (first|refine za ?_ _|refine Ca ?_|refine ya ?_ _));refine jb (cs:=#[.int .i64 0,.int .i64 Ja,.int .i64 0,.int .i64 0,.int .i64 0,.int .i64 (rd l2 La),.string Ac]) ?_ 6 _ rfl;(with_reducible repeat (first|refine za ?_ _|refine Ca ?_|refine ya ?_ _));refine jb (cs:=#[.int .i64 0,.int .i64 Ja,.int .i64 0,.int .i64 0,.int .i64 0,.int .i64 Cc,.string Ac]) ?_ 5 _ rfl;(with_reducible repeat (first|refine za ?_ _|refine Ca ?_|refine ya ?_ _));refine jb (cs:=#[.int .i64 0,.int .i64 Ja,.int .i64 0,.int .i64 0,.int .i64 Mb,.int .i64 Cc,.string Ac]) ?_ 4 _ rfl;(with_reducible repeat (first|refine za ?_ _|refine Ca ?_|refine ya ?_ _));refine jb (cs:=#[.int .i64 0,.int .i64 Ja,.int .i64 0,.int .i64 Pa,.int .i64 Mb,.int .i64 Cc,.string Ac]) ?_ 3 _ rfl;(with_reducible repeat (first|refine za ?_ _|refine Ca ?_|refine ya ?_ _));refine jb (cs:=#[.int .i64 0,.int .i64 Ja,.int .i64 La,.int .i64 Pa,.int .i64 Mb,.int .i64 Cc,.string Ac]) ?_ 2 _ rfl;(with_reducible repeat (first|refine za ?_ _|refine Ca ?_|refine ya ?_ _));refine jb (cs:=#[.int .i64 0,.int .i64 Ja,.int .i64 La,.int .i64 Pa,.int .i64 Mb,.int .i64 Cc,.string Ac]) ?_ 1 _ rfl;(with_reducible repeat (first|refine za ?_ _|refine Ca ?_|refine ya ?_ _));refine jb (cs:=#[.int .i64 dc,.int .i64 Ja,.int .i64 La,.int .i64 Pa,.int .i64 Mb,.int .i64 Cc,.string Ac]) ?_ 0 _ rfl;(with_reducible repeat (first|refine za ?_ _|refine Ca ?_|refine ya ?_ _));exact qa.out) hb);have Rc:=ia.mk (Ta (g:=Ga) (o:=.cells #[.int .i64 0,.int .i64 0,.int .i64 0,.int .i64 0,.int .i64 0,.int .i64 0,.string (⟨#[]⟩:ByteArray)] 70 (0,0)) (by (with_reducible repeat (first|refine za ?_ _|refine Ca ?_|refine ya ?_ _));refine Bb ?_ Va.out _;(with_reducible repeat (first|refine za ?_ _|refine Ca ?_|refine ya ?_ _));refine Bb ?_ Va.out _;(with_reducible repeat (first|refine za ?_ _|refine Ca ?_|refine ya ?_ _));refine Bb ?_ Va.out _;(with_reducible repeat (first|refine za ?_ _|refine Ca ?_|refine ya ?_ _));refine Bb ?_ Va.out _;(with_reducible repeat (first|refine za ?_ _|refine Ca ?_|refine ya ?_ _));refine Bb ?_ Va.out _;(with_reducible repeat (first|refine za ?_ _|refine Ca ?_|refine ya ?_ _));refine Bb ?_ Va.out _;(with_reducible repeat (first|refine za ?_ _|refine Ca ?_|refine ya ?_ _));refine Bb ?_ Va.out _;(with_reducible repeat (first|refine za ?_ _|refine Ca ?_|refine ya ?_ _));exact Ba.out) hb);have Ce:=ia.mk (Kept.below (S:=(fun k_=>Mn k_ ∨ Ln k_)) (by repeat (first|(with_reducible first|exact HK.out|apply Kept.alloc|apply Kept.drewN|apply Kept.drew|refine Kept.setCell ?_ (.inr De.out) _|refine Kept.setCell ?_ (.inr Tf.out) _)|exact HK.out)) hb);have Qe:=ia.mk (Ra (by repeat (first|(with_reducible first|exact HB.out|apply ta|apply ja|apply ua|refine Aa ?_ Wa.out|refine Aa ?_ Jb.out)|exact HB.out)) hb);clear bf Pe qa Ba HK HB;have bf:=Kb;have Pe:=Ub;have qa:=qc;have Ba:=Rc;have HK:=Ce;have HB:=Qe;clear Kb Ub qc Rc Ce Qe;(try clear hb);(try clear Li);(try clear hk);(try clear hi);have pz:Ys.cell? ⟨Da,0,none⟩=some (.int .i64 0):=(ga qa.out 0).trans rfl;have oz:Ys.cell? ⟨Da,1,none⟩=some (.int .i64 Ja):=(ga qa.out 1).trans rfl;have mz:Ys.cell? ⟨Da,2,none⟩=some (.int .i64 0):=(ga qa.out 2).trans rfl;have kz:Ys.cell? ⟨Da,3,none⟩=some (.int .i64 0):=(ga qa.out 3).trans rfl;have jz:Ys.cell? ⟨Da,4,none⟩=some (.int .i64 0):=(ga qa.out 4).trans rfl;have JV:Ys.cell? ⟨Da,5,none⟩=some (.int .i64 (rd l2 La)):=(ga qa.out 5).trans rfl;have IV:Ys.cell? ⟨Da,6,none⟩=some (.string (⟨#[]⟩:ByteArray)):=(ga qa.out 6).trans rfl;have Iy:=aa qa.out 0;have Hy:=aa qa.out 1;have Gy:=aa qa.out 2;have Fy:=aa qa.out 3;have Ey:=aa qa.out 4;have mU:=aa qa.out 5;have lU:=aa qa.out 6;have V6:0 ≤ (Ja:Int):=of_decide_eq_true (by first|(with_reducible assumption)|assumption);have S6:(Ja:Int) < ((l1.length:Int):Int):=of_decide_eq_true (by first|(with_reducible assumption)|assumption);obtain ⟨NH,Wae,Sae,Hae,Dar,Oaz,Cag⟩:=Kd.Kn bf.out (by omega);(first|cases Sae|(injection Sae with ei jq lq;(first|subst ei|(injection ei with ei;subst ei));subst lq;clear jq));have Mas:=ia.mk Hae;have xaA:=ia.mk Cag;clear Hae Dar Cag;have xas:=ia.mk (show ((Mn NH ∨ Ln NH) ∨ w.heap.size ≤ NH) from (bf.out.1 _ rfl));obtain ⟨IZ,aar⟩:=Kd.yj false bf.out (Ja:Int) V6 S6;replace V6:=eq_true V6;replace S6:=eq_true S6;obtain ⟨kat,iat⟩:=Kd.yj false bf.out (Ja:Int) (of_decide_eq_true (by first|(with_reducible assumption)|assumption)) (of_decide_eq_true (by first|(with_reducible assumption)|assumption));have N4:=Kd.Pq bf.out (Ja:Int) (0 == 0))|((with_reducible refine Hf (t:=4) (p:=68) rfl ?_);refine gf (t:=4) (p:=68) (v:=?dZ) (w1:=(Ys.setCell ⟨NH,(Ja:Int).toNat,none⟩ (.bool (0 == 0)))) ?hg ?ho ?hn ?hr ?_;(case ho=>rfl);(case hg=>rfl);(case hn=>rfl);(case hr=>first|(go_simp;done)|(go_simp;rfl));intro pq hw;have hg:Ys.grownBy pq (some NH):=(by rw [hw];exact N4.2);have jn:Kd.R Kd.bool 4 pq w0.heap.size (fun k_=>((Mn k_ ∨ Ln k_) ∨ w.heap.size ≤ k_)) (.slice (some ⟨NH,0,none⟩) l1.length Wae) Te:=(by rw [hw,AQ.out];exact N4.1);clear N4;have Kb:=ia.mk (jn);have Ub:=ia.mk (Kd.Gm (v:=(.slice (some ⟨NH,0,none⟩) l1.length Wae)) (by (with_reducible repeat (first|apply Kd.Tb|apply Kd.Sb|apply Kd.fc));exact Pe.out) (Kd.Dn bf.out) (by decide) hg);have qc:=ia.mk (Oc (g:=Da) (o:=.cells #[.int .i64 0,.int .i64 Ja,.int .i64 0,.int .i64 0,.int .i64 0,.int .i64 (rd l2 La),.string (⟨#[]⟩:ByteArray)] 70 (0,0)) (by (with_reducible repeat (first|refine za ?_ _|refine Ca ?_|refine ya ?_ _));exact qa.out) hg (Kd.Ol bf.out qa.out (by decide)));have Rc:=ia.mk (Oc (g:=Ga) (o:=.cells #[.int .i64 0,.int .i64 0,.int .i64 0,.int .i64 0,.int .i64 0,.int .i64 0,.string (⟨#[]⟩:ByteArray)] 70 (0,0)) (by (with_reducible repeat (first|refine za ?_ _|refine Ca ?_|refine ya ?_ _));exact Ba.out) hg (Kd.Ol bf.out Ba.out (by decide)));have Ce:=ia.mk ((by rw [hw];exact Aa (HB.out) Mas.out:Below w0.heap.size w0 pq));have Qe:=ia.mk (Kept.Pg (S:=(fun k_=>Mn k_ ∨ Ln k_)) hg (by repeat (first|(with_reducible first|exact HK.out|apply Kept.alloc|apply Kept.drewN|apply Kept.drew|refine Kept.setCell ?_ (.inr De.out) _|refine Kept.setCell ?_ (.inr Tf.out) _)|exact HK.out)) (fun k_ e_=>(bf.out.1 k_ e_)));clear bf Pe qa Ba HB HK;have bf:=Kb;have Pe:=Ub;have qa:=qc;have Ba:=Rc;have HB:=Ce;have HK:=Qe;clear Kb Ub qc Rc Ce Qe hg hw jn;have Lr:pq.cell? ⟨Da,0,none⟩=some (.int .i64 0):=(ga qa.out 0).trans rfl;have Kr:pq.cell? ⟨Da,1,none⟩=some (.int .i64 Ja):=(ga qa.out 1).trans rfl;have Jr:pq.cell? ⟨Da,2,none⟩=some (.int .i64 0):=(ga qa.out 2).trans rfl;have Ir:pq.cell? ⟨Da,3,none⟩=some (.int .i64 0):=(ga qa.out 3).trans rfl;have Hr:pq.cell? ⟨Da,4,none⟩=some (.int .i64 0):=(ga qa.out 4).trans rfl;have KD:pq.cell? ⟨Da,5,none⟩=some (.int .i64 (rd l2 La)):=(ga qa.out 5).trans rfl;have JD:pq.cell? ⟨Da,6,none⟩=some (.string (⟨#[]⟩:ByteArray)):=(ga qa.out 6).trans rfl;have er:=aa qa.out 0;have dr:=aa qa.out 1;have cr:=aa qa.out 2;have br:=aa qa.out 3;have Zq:=aa qa.out 4;have MC:=aa qa.out 5;have LC:=aa qa.out 6;have U6:0 ≤ (Ja:Int):=of_decide_eq_true (by first|(with_reducible assumption)|assumption);have R6:(Ja:Int) < ((l2.length:Int):Int):=of_decide_eq_true (by first|(with_reducible assumption)|assumption);obtain ⟨MH,Iaz,Rae,Gae,Car,Naz,Bag⟩:=Kd.Kn Pe.out (by omega);(first|cases Rae|(injection Rae with ei jq lq;(first|subst ei|(injection ei with ei;subst ei));subst lq;clear jq));have Las:=ia.mk Gae;have waA:=ia.mk Bag;clear Gae Car Bag;have vas:=ia.mk (show ((Mn MH ∨ Ln MH) ∨ w.heap.size ≤ MH) from (Pe.out.1 _ rfl));(first|simp only [add_plain] at Ud|skip);obtain ⟨FZ,Zaq⟩:=Kd.yj 0 Pe.out (Ja:Int) U6 R6;replace U6:=eq_true U6;replace R6:=eq_true R6;obtain ⟨jat,gat⟩:=Kd.yj 0 Pe.out (Ja:Int) (of_decide_eq_true (by first|(with_reducible assumption)|assumption)) (of_decide_eq_true (by first|(with_reducible assumption)|assumption));have M4:=Kd.Pq Pe.out (Ja:Int) (rd l2 La))|((with_reducible refine Hf (t:=3) (p:=74) rfl ?_);refine gf (t:=3) (p:=74) (v:=?Pao) (w1:=(pq.setCell ⟨MH,(Ja:Int).toNat,none⟩ (.int .i64 (rd l2 La)))) ?hg ?ho ?hn ?hr ?_;(case ho=>rfl);(case hg=>rfl);(case hn=>rfl);(case hr=>first|(go_simp;done)|(go_simp;rfl));intro Sw hw;have hg:pq.grownBy Sw (some MH):=(by rw [hw];exact M4.2);have jn:Kd.R (Kd.int .i64) 3 Sw w0.heap.size (fun k_=>((Mn k_ ∨ Ln k_) ∨ w.heap.size ≤ k_)) (.slice (some ⟨MH,0,none⟩) l2.length Vae) sg:=(by rw [hw,EG.out];exact M4.1);clear M4;have Kb:=ia.mk (Kd.Gm (v:=(.slice (some ⟨MH,0,none⟩) l2.length Vae)) (by (with_reducible repeat (first|apply Kd.Tb|apply Kd.Sb|apply Kd.fc));exact bf.out) (Kd.Dn Pe.out) (by decide) hg);have Ub:=ia.mk (jn);have qc:=ia.mk (Oc (g:=Da) (o:=.cells #[.int .i64 0,.int .i64 Ja,.int .i64 0,.int .i64 0,.int .i64 0,.int .i64 (rd l2 La),.string (⟨#[]⟩:ByteArray)] 70 (0,0)) (by (with_reducible repeat (first|refine za ?_ _|refine Ca ?_|refine ya ?_ _));exact qa.out) hg (Kd.Ol Pe.out qa.out (by decide)));have Rc:=ia.mk (Oc (g:=Ga) (o:=.cells #[.int .i64 0,.int .i64 0,.int .i64 0,.int .i64 0,.int .i64 0,.int .i64 0,.string (⟨#[]⟩:ByteArray)] 70 (0,0)) (by (with_reducible repeat (first|refine za ?_ _|refine Ca ?_|refine ya ?_ _));exact Ba.out) hg (Kd.Ol Pe.out Ba.out (by decide)));have Ce:=ia.mk ((by rw [hw];exact Aa (HB.out) Las.out:Below w0.heap.size w0 Sw));have Qe:=ia.mk (Kept.Pg (S:=(fun k_=>Mn k_ ∨ Ln k_)) hg (by repeat (first|(with_reducible first|exact HK.out|apply Kept.alloc|apply Kept.drewN|apply Kept.drew|refine Kept.setCell ?_ (.inr De.out) _|refine Kept.setCell ?_ (.inr Tf.out) _)|exact HK.out)) (fun k_ e_=>(Pe.out.1 k_ e_)));clear bf Pe qa Ba HB HK;have bf:=Kb;have Pe:=Ub;have qa:=qc;have Ba:=Rc;have HB:=Ce;have HK:=Qe;clear Kb Ub qc Rc Ce Qe hg hw jn;have wD:Sw.cell? ⟨Da,0,none⟩=some (.int .i64 0):=(ga qa.out 0).trans rfl;have vD:Sw.cell? ⟨Da,1,none⟩=some (.int .i64 Ja):=(ga qa.out 1).trans rfl;have uD:Sw.cell? ⟨Da,2,none⟩=some (.int .i64 0):=(ga qa.out 2).trans rfl;have tD:Sw.cell? ⟨Da,3,none⟩=some (.int .i64 0):=(ga qa.out 3).trans rfl;have sD:Sw.cell? ⟨Da,4,none⟩=some (.int .i64 0):=(ga qa.out 4).trans rfl;have NK:Sw.cell? ⟨Da,5,none⟩=some (.int .i64 (rd l2 La)):=(ga qa.out 5).trans rfl;have MK:Sw.cell? ⟨Da,6,none⟩=some (.string (⟨#[]⟩:ByteArray)):=(ga qa.out 6).trans rfl;have yC:=aa qa.out 0;have xC:=aa qa.out 1;have wC:=aa qa.out 2;have vC:=aa qa.out 3;have uC:=aa qa.out 4;have AJ:=aa qa.out 5;have zJ:=aa qa.out 6;have iz:Sw.cell? ⟨Ga,0,none⟩=some (.int .i64 0):=(ga Ba.out 0).trans rfl;have gz:Sw.cell? ⟨Ga,1,none⟩=some (.int .i64 0):=(ga Ba.out 1).trans rfl;have fz:Sw.cell? ⟨Ga,2,none⟩=some (.int .i64 0):=(ga Ba.out 2).trans rfl;have ez:Sw.cell? ⟨Ga,3,none⟩=some (.int .i64 0):=(ga Ba.out 3).trans rfl;have dz:Sw.cell? ⟨Ga,4,none⟩=some (.int .i64 0):=(ga Ba.out 4).trans rfl;have LK:Sw.cell? ⟨Ga,5,none⟩=some (.int .i64 0):=(ga Ba.out 5).trans rfl;have KK:Sw.cell? ⟨Ga,6,none⟩=some (.string (⟨#[]⟩:ByteArray)):=(ga Ba.out 6).trans rfl;have Dy:=aa Ba.out 0;have Cy:=aa Ba.out 1;have Ay:=aa Ba.out 2;have zy:=aa Ba.out 3;have yy:=aa Ba.out 4;have yJ:=aa Ba.out 5;have xJ:=aa Ba.out 6))
          refine bodyPost_ret (results_cell_row rfl _ _ Ga 70 #[.int .i64 0,.int .i64 Ja,.int .i64 0,.int .i64 0,.int .i64 0,.int .i64 (rd l2 La),.string (⟨#[]⟩:ByteArray)] (0,0) _ rfl (by (with_reducible repeat (first|refine za ?_ _|refine Ca ?_|refine ya ?_ _));refine jb (cs:=#[.int .i64 0,.int .i64 Ja,.int .i64 0,.int .i64 0,.int .i64 0,.int .i64 (rd l2 La),.string (⟨#[]⟩:ByteArray)]) ?_ 6 _ rfl;(with_reducible repeat (first|refine za ?_ _|refine Ca ?_|refine ya ?_ _));refine jb (cs:=#[.int .i64 0,.int .i64 Ja,.int .i64 0,.int .i64 0,.int .i64 0,.int .i64 0,.string (⟨#[]⟩:ByteArray)]) ?_ 5 _ rfl;(with_reducible repeat (first|refine za ?_ _|refine Ca ?_|refine ya ?_ _));refine jb (cs:=#[.int .i64 0,.int .i64 Ja,.int .i64 0,.int .i64 0,.int .i64 0,.int .i64 0,.string (⟨#[]⟩:ByteArray)]) ?_ 4 _ rfl;(with_reducible repeat (first|refine za ?_ _|refine Ca ?_|refine ya ?_ _));refine jb (cs:=#[.int .i64 0,.int .i64 Ja,.int .i64 0,.int .i64 0,.int .i64 0,.int .i64 0,.string (⟨#[]⟩:ByteArray)]) ?_ 3 _ rfl;(with_reducible repeat (first|refine za ?_ _|refine Ca ?_|refine ya ?_ _));refine jb (cs:=#[.int .i64 0,.int .i64 Ja,.int .i64 0,.int .i64 0,.int .i64 0,.int .i64 0,.string (⟨#[]⟩:ByteArray)]) ?_ 2 _ rfl;(with_reducible repeat (first|refine za ?_ _|refine Ca ?_|refine ya ?_ _));refine jb (cs:=#[.int .i64 0,.int .i64 0,.int .i64 0,.int .i64 0,.int .i64 0,.int .i64 0,.string (⟨#[]⟩:ByteArray)]) ?_ 1 _ rfl;(with_reducible repeat (first|refine za ?_ _|refine Ca ?_|refine ya ?_ _));refine jb (cs:=#[.int .i64 0,.int .i64 0,.int .i64 0,.int .i64 0,.int .i64 0,.int .i64 0,.string (⟨#[]⟩:ByteArray)]) ?_ 0 _ rfl;(with_reducible repeat (first|refine za ?_ _|refine Ca ?_|refine ya ?_ _));exact Ba.out) Try.underlying70 rfl (by kernel_rfl)) rfl ?_;exact ⟨by first|rfl|(simp [Na,Ma] <;> rfl)|(simp [*,Na,Ma] <;> rfl),by (with_reducible repeat (first|apply Kd.Tb|apply Kd.Sb|apply Kd.fc));exact Kd.Tc (Kd.Eb (p:=⟨Ga,6,none⟩) (Kd.Eb (p:=⟨Ga,5,none⟩) (Kd.Eb (p:=⟨Ga,4,none⟩) (Kd.Eb (p:=⟨Ga,3,none⟩) (Kd.Eb (p:=⟨Ga,2,none⟩) (Kd.Eb (p:=⟨Ga,1,none⟩) (Kd.Eb (p:=⟨Ga,0,none⟩) (Kd.fe bf.out Ba.out (by decide)) (fun _ hk=>hk.2) (.int .i64 0)) (fun _ hk=>hk.2) (.int .i64 Ja)) (fun _ hk=>hk.2) (.int .i64 0)) (fun _ hk=>hk.2) (.int .i64 0)) (fun _ hk=>hk.2) (.int .i64 0)) (fun _ hk=>hk.2) (.int .i64 (rd l2 La))) (fun _ hk=>hk.2) (.string (⟨#[]⟩:ByteArray))) (fun _ hk=>hk.1),by (with_reducible repeat (first|apply Kd.Tb|apply Kd.Sb|apply Kd.fc));exact Kd.Tc (Kd.Eb (p:=⟨Ga,6,none⟩) (Kd.Eb (p:=⟨Ga,5,none⟩) (Kd.Eb (p:=⟨Ga,4,none⟩) (Kd.Eb (p:=⟨Ga,3,none⟩) (Kd.Eb (p:=⟨Ga,2,none⟩) (Kd.Eb (p:=⟨Ga,1,none⟩) (Kd.Eb (p:=⟨Ga,0,none⟩) (Kd.fe Pe.out Ba.out (by decide)) (fun _ hk=>hk.2) (.int .i64 0)) (fun _ hk=>hk.2) (.int .i64 Ja)) (fun _ hk=>hk.2) (.int .i64 0)) (fun _ hk=>hk.2) (.int .i64 0)) (fun _ hk=>hk.2) (.int .i64 0)) (fun _ hk=>hk.2) (.int .i64 (rd l2 La))) (fun _ hk=>hk.2) (.string (⟨#[]⟩:ByteArray))) (fun _ hk=>hk.1),by repeat (first|(with_reducible first|exact HB.out|apply ta|apply ja|apply ua|refine Aa ?_ Wa.out|refine Aa ?_ Jb.out)|exact HB.out),by repeat (first|(with_reducible first|exact HK.out|apply Kept.alloc|apply Kept.drewN|apply Kept.drew|refine Kept.setCell ?_ (.inr De.out) _|refine Kept.setCell ?_ (.inr Tf.out) _)|exact HK.out)⟩
         ·rw [if_neg gI] at H;exact absurd H (by simp)
        ·rw [if_neg yt] at H;exact absurd H (by simp)
       ·rw [if_neg Hx] at H;exact absurd H (by simp)
      ·replace Bt:=Bool.eq_false_iff.mpr Bt;subst Bt;have H1:(some (0,Ja,0,0,0,rd l2 La,(⟨#[]⟩:ByteArray),l1,l2))=some (r1,r2,r3,r4,r5,r6,r7,r8,r9):=by rw [if_neg (show ¬ (false=true) by decide)] at H;exact H
       clear H;have H:=H1;clear H1;simp only [Option.some.injEq,Prod.mk.injEq] at H;obtain ⟨rfl,rfl,rfl,rfl,rfl,rfl,rfl,rfl,rfl⟩:=H
       try go_wp2
       have Kb:=ia.mk (Kd.fc bf.out);have Ub:=ia.mk (Kd.fc Pe.out);have qc:=ia.mk (Ca qa.out);have Rc:=ia.mk (Ca Ba.out);have Ce:=ia.mk (Kept.drew HK.out);have Qe:=ia.mk (ua HB.out);clear bf Pe qa Ba HK HB;have bf:=Kb;have Pe:=Ub;have qa:=qc;have Ba:=Rc;have HK:=Ce;have HB:=Qe;clear Kb Ub qc Rc Ce Qe;obtain ⟨GaA,Gaz,Pae⟩:=Kd.Oe Pe.out;(first|subst Pae|(injection Pae with dQ Z1 cQ;have Y1:=dQ.symm;have X1:=cQ.symm;clear dQ Z1 cQ;subst Y1;subst X1));have bh:0 ≤ (La:Int):=of_decide_eq_true (by first|(with_reducible assumption)|assumption);have ah:La < (l2.length:Int):=of_decide_eq_true (by first|(with_reducible assumption)|assumption);obtain ⟨xj,Ml,Ud⟩:=Kd.Ij (Kd.oc Pe.out).2.2 La bh ah;cases Ml;replace bh:=eq_true bh;replace ah:=eq_true ah;refine Mi (n:=9) (S:=fun w'=>w'.cell? ⟨Da,0,none⟩=some (.int .i64 dc)∧w'.cell? ⟨Da,1,none⟩=some (.int .i64 Ja)∧w'.cell? ⟨Da,2,none⟩=some (.int .i64 La)∧w'.cell? ⟨Da,3,none⟩=some (.int .i64 Pa)∧w'.cell? ⟨Da,4,none⟩=some (.int .i64 Mb)∧w'.cell? ⟨Da,5,none⟩=some (.int .i64 Cc)∧w'.cell? ⟨Da,6,none⟩=some (.string Ac)∧w'.cell? (xj.add (La).toNat)=some (.int .i64 (rd l2 La))) (ds:=[8]) #[false,false,false,false,false,false,false,false,false] (by kernel_rfl) rfl rfl ⟨(ga qa.out 0).trans rfl,(ga qa.out 1).trans rfl,(ga qa.out 2).trans rfl,(ga qa.out 3).trans rfl,(ga qa.out 4).trans rfl,(ga qa.out 5).trans rfl,(ga qa.out 6).trans rfl,Ud⟩ (fun hHeld=>?_);refine dh Fb.L6 Fb.aY (fun We Jm=>?_);generalize wc.drew=WG at bf Pe qa Ba HK HB Ud hHeld ⊢;refine Ic (i:=0) (N:=some 18) (v:=?_) (a':=?_) #[true,false,false,false,false,false,false,false,false] rfl rfl (nc We.out (by kernel_rfl)) (fun _ _ _ h=>h) (Or.inl ⟨by rfl,?_⟩) ?_ ?_;rotate_left
       ·intro w';go_simp;with_reducible rfl
       rotate_left
       ·simp only [Act.put,List.setIfInBounds_toArray,List.set_cons_zero,List.set_cons_succ,Cb,Db]
        rfl
       refine Ic (i:=2) (N:=some 20) (v:=?_) (a':=?_) #[true,false,true,false,false,false,false,false,false] rfl rfl (nc We.out (by kernel_rfl)) (fun _ _ _ h=>h) (Or.inl ⟨by rfl,?_⟩) ?_ ?_;rotate_left
       ·intro w';go_simp;with_reducible rfl
       rotate_left
       ·simp only [Act.put,List.setIfInBounds_toArray,List.set_cons_zero,List.set_cons_succ,Cb,Db]
        rfl
       refine Ic (i:=3) (N:=some 21) (v:=?_) (a':=?_) #[true,false,true,true,false,false,false,false,false] rfl rfl (nc We.out (by kernel_rfl)) (fun _ _ _ h=>h) (Or.inl ⟨by rfl,?_⟩) ?_ ?_;rotate_left
       ·intro w';go_simp;with_reducible rfl
       rotate_left
       ·simp only [Act.put,List.setIfInBounds_toArray,List.set_cons_zero,List.set_cons_succ,Cb,Db]
        rfl
       refine Mf (i:=1) (N:=some 19) (v:=?_) (a':=?_) #[true,true,true,true,false,false,false,false,false] rfl rfl (Od We.out Jm.out (by kernel_rfl)) (fun _ _ _ h=>h) (Or.inl ⟨by rfl,?_⟩) hHeld ?_ ?_;rotate_left
       ·rintro w' ⟨s0,s1,s2,s3,s4,s5,s6,s7⟩;go_simp;with_reducible rfl
       rotate_left
       ·simp only [Act.put,List.setIfInBounds_toArray,List.set_cons_zero,List.set_cons_succ,Cb,Db]
        rfl
       refine Mf (i:=4) (N:=some 22) (v:=?_) (a':=?_) #[true,true,true,true,true,false,false,false,false] rfl rfl (Od We.out Jm.out (by kernel_rfl)) (fun _ _ _ h=>h) (Or.inl ⟨by rfl,?_⟩) hHeld ?_ ?_;rotate_left
       ·rintro w' ⟨s0,s1,s2,s3,s4,s5,s6,s7⟩;go_simp;with_reducible rfl
       rotate_left
       ·simp only [Act.put,List.setIfInBounds_toArray,List.set_cons_zero,List.set_cons_succ,Cb,Db]
        rfl
       refine Ic (i:=5) (N:=some 23) (v:=?_) (a':=?_) #[true,true,true,true,true,true,false,false,false] rfl rfl (nc We.out (by kernel_rfl)) (fun _ _ _ h=>h) (Or.inl ⟨by rfl,?_⟩) ?_ ?_;rotate_left
       ·intro w';go_simp;with_reducible rfl
       rotate_left
       ·simp only [Act.put,List.setIfInBounds_toArray,List.set_cons_zero,List.set_cons_succ,Cb,Db]
        rfl
       refine Mf (i:=6) (N:=some 24) (v:=?_) (a':=?_) #[true,true,true,true,true,true,true,false,false] rfl rfl (Od We.out Jm.out (by kernel_rfl)) (fun _ _ _ h=>h) (Or.inl ⟨by rfl,?_⟩) hHeld ?_ ?_;rotate_left
       ·rintro w' ⟨s0,s1,s2,s3,s4,s5,s6,s7⟩;go_simp;with_reducible rfl
       rotate_left
       ·simp only [Act.put,List.setIfInBounds_toArray,List.set_cons_zero,List.set_cons_succ,Cb,Db]
        rfl
       refine Ic (i:=7) (N:=some 25) (v:=?_) (a':=?_) #[true,true,true,true,true,true,true,true,false] rfl rfl (nc We.out (by kernel_rfl)) (fun _ _ _ h=>h) (Or.inl ⟨by rfl,?_⟩) ?_ ?_;rotate_left
       ·intro w';go_simp;with_reducible rfl
       rotate_left
       ·simp only [Act.put,List.setIfInBounds_toArray,List.set_cons_zero,List.set_cons_succ,Cb,Db]
        rfl
       refine dA (i:=8) (N:=none) #[true,true,true,true,true,true,true,true,true] rfl rfl (jk We.out (by kernel_rfl)) (by decide) (fun K hK=>?_);have Pay:WG.cell? ⟨Da,0,none⟩=some (.int .i64 dc):=(ga qa.out 0).trans rfl;have Xav:=aa qa.out 0;have Gah:=Va.out;have dai:=Xa.out;have Oay:WG.cell? ⟨Da,1,none⟩=some (.int .i64 Ja):=(ga qa.out 1).trans rfl;have Wav:=aa qa.out 1;have Fah:=Va.out;have cai:=Xa.out;have Nay:WG.cell? ⟨Da,2,none⟩=some (.int .i64 La):=(ga qa.out 2).trans rfl;have Vav:=aa qa.out 2;have Eah:=Va.out;have bai:=Xa.out;have May:WG.cell? ⟨Da,3,none⟩=some (.int .i64 Pa):=(ga qa.out 3).trans rfl;have Uav:=aa qa.out 3;have Dah:=Va.out;have aai:=Xa.out;have Lay:WG.cell? ⟨Da,4,none⟩=some (.int .i64 Mb):=(ga qa.out 4).trans rfl;have Tav:=aa qa.out 4;have Cah:=Va.out;have Zah:=Xa.out;have Kay:WG.cell? ⟨Da,5,none⟩=some (.int .i64 Cc):=(ga qa.out 5).trans rfl;have Sav:=aa qa.out 5;have Bah:=Va.out;have Yah:=Xa.out;have Jay:WG.cell? ⟨Da,6,none⟩=some (.string Ac):=(ga qa.out 6).trans rfl;have Rav:=aa qa.out 6;have Aah:=Va.out;have Xah:=Xa.out;refine Sz (w1:=?_) (by rfl) rfl ?_ ?_;rotate_left
       ·go_simp
        rfl
       refine hK.out _ _ ?_;clear hK K;refine Fl (Vi We.out (by kernel_rfl)) ?_;have oav:=Xa.out;have Fau:=Va.out;have BK:WG.cell? ⟨Da,0,none⟩=some (.int .i64 dc):=(ga qa.out 0).trans rfl;have AK:WG.cell? ⟨Da,1,none⟩=some (.int .i64 Ja):=(ga qa.out 1).trans rfl;have zK:WG.cell? ⟨Da,2,none⟩=some (.int .i64 La):=(ga qa.out 2).trans rfl;have yK:WG.cell? ⟨Da,3,none⟩=some (.int .i64 Pa):=(ga qa.out 3).trans rfl;have xK:WG.cell? ⟨Da,4,none⟩=some (.int .i64 Mb):=(ga qa.out 4).trans rfl;have iV:WG.cell? ⟨Da,5,none⟩=some (.int .i64 Cc):=(ga qa.out 5).trans rfl;have gV:WG.cell? ⟨Da,6,none⟩=some (.string Ac):=(ga qa.out 6).trans rfl;have rJ:=aa qa.out 0;have qJ:=aa qa.out 1;have pJ:=aa qa.out 2;have oJ:=aa qa.out 3;have nJ:=aa qa.out 4;have KT:=aa qa.out 5;have JT:=aa qa.out 6
       try go_wp2_with (first|((with_reducible refine qb (f:=100) rfl ?_);refine Qc (some 61) rfl rfl Try.func100 (by kernel_rfl) rfl #[.agg #[.int .i64 0,.int .i64 Ja,.int .i64 0,.int .i64 0,.int .i64 0,.int .i64 (rd l2 La),.string (⟨#[]⟩:ByteArray)]] rfl (by (try simp only [List.map_toArray,List.map_cons,List.map_nil]);first|done|rfl|(simp only [List.length_drop,List.length_take];rfl)) ?_;(with_reducible refine (uf.calls 0 Ja 0 0 0 (rd l2 La) (⟨#[]⟩:ByteArray) false _ nN.out).mono ?_);rintro e QI ⟨rfl,hb⟩;refine ⟨_,rfl,?_⟩;have Kb:=ia.mk (Kd.Dc (by (with_reducible repeat (first|apply Kd.Tb|apply Kd.Sb|apply Kd.fc));exact (Kd.Tc (Kd.Eb (p:=⟨Da,6,none⟩) (Kd.Eb (p:=⟨Da,5,none⟩) (Kd.Eb (p:=⟨Da,4,none⟩) (Kd.Eb (p:=⟨Da,3,none⟩) (Kd.Eb (p:=⟨Da,2,none⟩) (Kd.Eb (p:=⟨Da,1,none⟩) (Kd.Eb (p:=⟨Da,0,none⟩) (Kd.fe bf.out qa.out (by decide)) (fun _ hk=>hk.2) (.int .i64 0)) (fun _ hk=>hk.2) (.int .i64 Ja)) (fun _ hk=>hk.2) (.int .i64 0)) (fun _ hk=>hk.2) (.int .i64 0)) (fun _ hk=>hk.2) (.int .i64 0)) (fun _ hk=>hk.2) (.int .i64 (rd l2 La))) (fun _ hk=>hk.2) (.string (⟨#[]⟩:ByteArray))) (fun _ h_=>h_.1))) hb);have Ub:=ia.mk (Kd.Dc (by (with_reducible repeat (first|apply Kd.Tb|apply Kd.Sb|apply Kd.fc));exact (Kd.Tc (Kd.Eb (p:=⟨Da,6,none⟩) (Kd.Eb (p:=⟨Da,5,none⟩) (Kd.Eb (p:=⟨Da,4,none⟩) (Kd.Eb (p:=⟨Da,3,none⟩) (Kd.Eb (p:=⟨Da,2,none⟩) (Kd.Eb (p:=⟨Da,1,none⟩) (Kd.Eb (p:=⟨Da,0,none⟩) (Kd.fe Pe.out qa.out (by decide)) (fun _ hk=>hk.2) (.int .i64 0)) (fun _ hk=>hk.2) (.int .i64 Ja)) (fun _ hk=>hk.2) (.int .i64 0)) (fun _ hk=>hk.2) (.int .i64 0)) (fun _ hk=>hk.2) (.int .i64 0)) (fun _ hk=>hk.2) (.int .i64 (rd l2 La))) (fun _ hk=>hk.2) (.string (⟨#[]⟩:ByteArray))) (fun _ h_=>h_.1))) hb);have qc:=ia.mk (Ta (g:=Da) (o:=.cells #[.int .i64 0,.int .i64 Ja,.int .i64 0,.int .i64 0,.int .i64 0,.int .i64 (rd l2 La),.string (⟨#[]⟩:ByteArray)] 70 (0,0)) (by (with_reducible repeat (first|refine za ?_ _|refine Ca ?_|refine ya ?_ _));refine jb (cs:=#[.int .i64 0,.int .i64 Ja,.int .i64 0,.int .i64 0,.int .i64 0,.int .i64 (rd l2 La),.string Ac]) ?_ 6 _ rfl;(with_reducible repeat (first|refine za ?_ _|refine Ca ?_|refine ya ?_ _));refine jb (cs:=#[.int .i64 0,.int .i64 Ja,.int .i64 0,.int .i64 0,.int .i64 0,.int .i64 Cc,.string Ac]) ?_ 5 _ rfl;(with_reducible repeat (first|refine za ?_ _|refine Ca ?_|refine ya ?_ _));refine jb (cs:=#[.int .i64 0,.int .i64 Ja,.int .i64 0,.int .i64 0,.int .i64 Mb,.int .i64 Cc,.string Ac]) ?_ 4 _ rfl;(with_reducible repeat (first|refine za ?_ _|refine Ca ?_|refine ya ?_ _));refine jb (cs:=#[.int .i64 0,.int .i64 Ja,.int .i64 0,.int .i64 Pa,.int .i64 Mb,.int .i64 Cc,.string Ac]) ?_ 3 _ rfl;(with_reducible repeat (first|refine za ?_ _|refine Ca ?_|refine ya ?_ _));refine jb (cs:=#[.int .i64 0,.int .i64 Ja,.int .i64 La,.int .i64 Pa,.int .i64 Mb,.int .i64 Cc,.string Ac]) ?_ 2 _ rfl;(with_reducible repeat (first|refine za ?_ _|refine Ca ?_|refine ya ?_ _));refine jb (cs:=#[.int .i64 0,.int .i64 Ja,.int .i64 La,.int .i64 Pa,.int .i64 Mb,.int .i64 Cc,.string Ac]) ?_ 1 _ rfl;(with_reducible repeat (first|refine za ?_ _|refine Ca ?_|refine ya ?_ _));refine jb (cs:=#[.int .i64 dc,.int .i64 Ja,.int .i64 La,.int .i64 Pa,.int .i64 Mb,.int .i64 Cc,.string Ac]) ?_ 0 _ rfl;(with_reducible repeat (first|refine za ?_ _|refine Ca ?_|refine ya ?_ _));exact qa.out) hb);have Rc:=ia.mk (Ta (g:=Ga) (o:=.cells #[.int .i64 0,.int .i64 0,.int .i64 0,.int .i64 0,.int .i64 0,.int .i64 0,.string (⟨#[]⟩:ByteArray)] 70 (0,0)) (by (with_reducible repeat (first|refine za ?_ _|refine Ca ?_|refine ya ?_ _));refine Bb ?_ Va.out _;(with_reducible repeat (first|refine za ?_ _|refine Ca ?_|refine ya ?_ _));refine Bb ?_ Va.out _;(with_reducible repeat (first|refine za ?_ _|refine Ca ?_|refine ya ?_ _));refine Bb ?_ Va.out _;(with_reducible repeat (first|refine za ?_ _|refine Ca ?_|refine ya ?_ _));refine Bb ?_ Va.out _;(with_reducible repeat (first|refine za ?_ _|refine Ca ?_|refine ya ?_ _));refine Bb ?_ Va.out _;(with_reducible repeat (first|refine za ?_ _|refine Ca ?_|refine ya ?_ _));refine Bb ?_ Va.out _;(with_reducible repeat (first|refine za ?_ _|refine Ca ?_|refine ya ?_ _));refine Bb ?_ Va.out _;(with_reducible repeat (first|refine za ?_ _|refine Ca ?_|refine ya ?_ _));exact Ba.out) hb);have Ce:=ia.mk (Kept.below (S:=(fun k_=>Mn k_ ∨ Ln k_)) (by repeat (first|(with_reducible first|exact HK.out|apply Kept.alloc|apply Kept.drewN|apply Kept.drew|refine Kept.setCell ?_ (.inr De.out) _|refine Kept.setCell ?_ (.inr Tf.out) _)|exact HK.out)) hb);have Qe:=ia.mk (Ra (by repeat (first|(with_reducible first|exact HB.out|apply ta|apply ja|apply ua|refine Aa ?_ Wa.out|refine Aa ?_ Jb.out)|exact HB.out)) hb);clear bf Pe qa Ba HK HB;have bf:=Kb;have Pe:=Ub;have qa:=qc;have Ba:=Rc;have HK:=Ce;have HB:=Qe;clear Kb Ub qc Rc Ce Qe;(try clear hb);(try clear Li);(try clear hk);(try clear hi);have wK:QI.cell? ⟨Da,0,none⟩=some (.int .i64 0):=(ga qa.out 0).trans rfl;have vK:QI.cell? ⟨Da,1,none⟩=some (.int .i64 Ja):=(ga qa.out 1).trans rfl;have uK:QI.cell? ⟨Da,2,none⟩=some (.int .i64 0):=(ga qa.out 2).trans rfl;have tK:QI.cell? ⟨Da,3,none⟩=some (.int .i64 0):=(ga qa.out 3).trans rfl;have sK:QI.cell? ⟨Da,4,none⟩=some (.int .i64 0):=(ga qa.out 4).trans rfl;have fV:QI.cell? ⟨Da,5,none⟩=some (.int .i64 (rd l2 La)):=(ga qa.out 5).trans rfl;have eV:QI.cell? ⟨Da,6,none⟩=some (.string (⟨#[]⟩:ByteArray)):=(ga qa.out 6).trans rfl;have mJ:=aa qa.out 0;have lJ:=aa qa.out 1;have kJ:=aa qa.out 2;have jJ:=aa qa.out 3;have iJ:=aa qa.out 4;have FT:=aa qa.out 5;have ET:=aa qa.out 6;have rD:QI.cell? ⟨Ga,0,none⟩=some (.int .i64 0):=(ga Ba.out 0).trans rfl;have qD:QI.cell? ⟨Ga,1,none⟩=some (.int .i64 0):=(ga Ba.out 1).trans rfl;have oD:QI.cell? ⟨Ga,2,none⟩=some (.int .i64 0):=(ga Ba.out 2).trans rfl;have nD:QI.cell? ⟨Ga,3,none⟩=some (.int .i64 0):=(ga Ba.out 3).trans rfl;have mD:QI.cell? ⟨Ga,4,none⟩=some (.int .i64 0):=(ga Ba.out 4).trans rfl;have rK:QI.cell? ⟨Ga,5,none⟩=some (.int .i64 0):=(ga Ba.out 5).trans rfl;have qK:QI.cell? ⟨Ga,6,none⟩=some (.string (⟨#[]⟩:ByteArray)):=(ga Ba.out 6).trans rfl;have tC:=aa Ba.out 0;have sC:=aa Ba.out 1;have rC:=aa Ba.out 2;have qC:=aa Ba.out 3;have oC:=aa Ba.out 4;have hJ:=aa Ba.out 5;have gJ:=aa Ba.out 6))
       refine bodyPost_ret (results_cell_row rfl _ _ Ga 70 #[.int .i64 0,.int .i64 Ja,.int .i64 0,.int .i64 0,.int .i64 0,.int .i64 (rd l2 La),.string (⟨#[]⟩:ByteArray)] (0,0) _ rfl (by (with_reducible repeat (first|refine za ?_ _|refine Ca ?_|refine ya ?_ _));refine jb (cs:=#[.int .i64 0,.int .i64 Ja,.int .i64 0,.int .i64 0,.int .i64 0,.int .i64 (rd l2 La),.string (⟨#[]⟩:ByteArray)]) ?_ 6 _ rfl;(with_reducible repeat (first|refine za ?_ _|refine Ca ?_|refine ya ?_ _));refine jb (cs:=#[.int .i64 0,.int .i64 Ja,.int .i64 0,.int .i64 0,.int .i64 0,.int .i64 0,.string (⟨#[]⟩:ByteArray)]) ?_ 5 _ rfl;(with_reducible repeat (first|refine za ?_ _|refine Ca ?_|refine ya ?_ _));refine jb (cs:=#[.int .i64 0,.int .i64 Ja,.int .i64 0,.int .i64 0,.int .i64 0,.int .i64 0,.string (⟨#[]⟩:ByteArray)]) ?_ 4 _ rfl;(with_reducible repeat (first|refine za ?_ _|refine Ca ?_|refine ya ?_ _));refine jb (cs:=#[.int .i64 0,.int .i64 Ja,.int .i64 0,.int .i64 0,.int .i64 0,.int .i64 0,.string (⟨#[]⟩:ByteArray)]) ?_ 3 _ rfl;(with_reducible repeat (first|refine za ?_ _|refine Ca ?_|refine ya ?_ _));refine jb (cs:=#[.int .i64 0,.int .i64 Ja,.int .i64 0,.int .i64 0,.int .i64 0,.int .i64 0,.string (⟨#[]⟩:ByteArray)]) ?_ 2 _ rfl;(with_reducible repeat (first|refine za ?_ _|refine Ca ?_|refine ya ?_ _));refine jb (cs:=#[.int .i64 0,.int .i64 0,.int .i64 0,.int .i64 0,.int .i64 0,.int .i64 0,.string (⟨#[]⟩:ByteArray)]) ?_ 1 _ rfl;(with_reducible repeat (first|refine za ?_ _|refine Ca ?_|refine ya ?_ _));refine jb (cs:=#[.int .i64 0,.int .i64 0,.int .i64 0,.int .i64 0,.int .i64 0,.int .i64 0,.string (⟨#[]⟩:ByteArray)]) ?_ 0 _ rfl;(with_reducible repeat (first|refine za ?_ _|refine Ca ?_|refine ya ?_ _));exact Ba.out) Try.underlying70 rfl (by kernel_rfl)) rfl ?_;exact ⟨by first|rfl|(simp [Na,Ma] <;> rfl)|(simp [*,Na,Ma] <;> rfl),by (with_reducible repeat (first|apply Kd.Tb|apply Kd.Sb|apply Kd.fc));exact Kd.Tc (Kd.Eb (p:=⟨Ga,6,none⟩) (Kd.Eb (p:=⟨Ga,5,none⟩) (Kd.Eb (p:=⟨Ga,4,none⟩) (Kd.Eb (p:=⟨Ga,3,none⟩) (Kd.Eb (p:=⟨Ga,2,none⟩) (Kd.Eb (p:=⟨Ga,1,none⟩) (Kd.Eb (p:=⟨Ga,0,none⟩) (Kd.fe bf.out Ba.out (by decide)) (fun _ hk=>hk.2) (.int .i64 0)) (fun _ hk=>hk.2) (.int .i64 Ja)) (fun _ hk=>hk.2) (.int .i64 0)) (fun _ hk=>hk.2) (.int .i64 0)) (fun _ hk=>hk.2) (.int .i64 0)) (fun _ hk=>hk.2) (.int .i64 (rd l2 La))) (fun _ hk=>hk.2) (.string (⟨#[]⟩:ByteArray))) (fun _ hk=>hk.1),by (with_reducible repeat (first|apply Kd.Tb|apply Kd.Sb|apply Kd.fc));exact Kd.Tc (Kd.Eb (p:=⟨Ga,6,none⟩) (Kd.Eb (p:=⟨Ga,5,none⟩) (Kd.Eb (p:=⟨Ga,4,none⟩) (Kd.Eb (p:=⟨Ga,3,none⟩) (Kd.Eb (p:=⟨Ga,2,none⟩) (Kd.Eb (p:=⟨Ga,1,none⟩) (Kd.Eb (p:=⟨Ga,0,none⟩) (Kd.fe Pe.out Ba.out (by decide)) (fun _ hk=>hk.2) (.int .i64 0)) (fun _ hk=>hk.2) (.int .i64 Ja)) (fun _ hk=>hk.2) (.int .i64 0)) (fun _ hk=>hk.2) (.int .i64 0)) (fun _ hk=>hk.2) (.int .i64 0)) (fun _ hk=>hk.2) (.int .i64 (rd l2 La))) (fun _ hk=>hk.2) (.string (⟨#[]⟩:ByteArray))) (fun _ hk=>hk.1),by repeat (first|(with_reducible first|exact HB.out|apply ta|apply ja|apply ua|refine Aa ?_ Wa.out|refine Aa ?_ Jb.out)|exact HB.out),by repeat (first|(with_reducible first|exact HK.out|apply Kept.alloc|apply Kept.drewN|apply Kept.drew|refine Kept.setCell ?_ (.inr De.out) _|refine Kept.setCell ?_ (.inr Tf.out) _)|exact HK.out)⟩
     ·rw [if_neg TB] at H;exact absurd H (by simp)
    ·rw [if_neg uN] at H;exact absurd H (by simp)
   ·replace j3:=Bool.eq_false_iff.mpr j3;subst j3;have H1:(if dc=2 then (if 0 ≤ La then (if La < (l1.length:Int) then (if Ah false l1 La=true then (if 0 ≤ Pa then (if Pa < (l1.length:Int) then (Fb.j1 WW l1 l2 (Ah false l1 Pa) dc Ja La Pa Mb Cc Ac) else (none)) else (none)) else (Fb.j1 WW l1 l2 false dc Ja La Pa Mb Cc Ac)) else (none)) else (none)) else (Fb.j1 WW l1 l2 false dc Ja La Pa Mb Cc Ac))=some (r1,r2,r3,r4,r5,r6,r7,r8,r9):=by rw [if_neg (show ¬ (false=true) by decide)] at H;exact H
    clear H;have H:=H1;clear H1;have D5:=ia.mk H;clear H
    go_upto_region 3 with (fail)
    go_cut [26] (fun v26 wc=>∃ (kq:Nat) (YB:Bool),v26 = .bool YB∧ia (Fb.j1 kq l1 l2 YB dc Ja La Pa Mb Cc Ac=some (r1,r2,r3,r4,r5,r6,r7,r8,r9))∧ia (kq ≤ WW)∧ia (Kd.R Kd.bool 4 wc w0.heap.size (fun k_=>((Mn k_ ∨ Ln k_) ∨ w.heap.size ≤ k_)) th l1)∧ia (Kd.R (Kd.int .i64) 3 wc w0.heap.size (fun k_=>((Mn k_ ∨ Ln k_) ∨ w.heap.size ≤ k_)) ep l2)∧ia (wc.heap[Da]? = some (.cells #[.int .i64 dc,.int .i64 Ja,.int .i64 La,.int .i64 Pa,.int .i64 Mb,.int .i64 Cc,.string Ac] 70 (0,0)))∧ia (wc.heap[Ga]? = some (.cells #[.int .i64 0,.int .i64 0,.int .i64 0,.int .i64 0,.int .i64 0,.int .i64 0,.string (⟨#[]⟩:ByteArray)] 70 (0,0)))∧ia (Kept w wc (fun k_=>Mn k_ ∨ Ln k_))∧ia (Below w0.heap.size w0 wc))
    case first =>
     have H:=D5.out;clear D5
     by_cases OX:dc=2
     ·rw [if_pos OX] at H;have RB:(dc == 2)=true:=beq_iff_eq.mpr OX;have NX:(dc != 2)=false:=bne_eq_false_iff_eq.mpr OX;clear OX;(first|rw [RB]|(simp only [Cb,Db];rw [RB])|skip)
      by_cases c61:0 ≤ La
      ·rw [if_pos c61] at H;have oaf:decide (0 ≤ La)=true:=decide_eq_true c61;clear c61
       by_cases c62:La < (l1.length:Int)
       ·rw [if_pos c62] at H;have maf:decide (La < (l1.length:Int))=true:=decide_eq_true c62;clear c62;obtain ⟨Iaf,TP⟩:∃ b_:Bool,b_=(Ah false l1 La):=⟨_,rfl⟩;replace H:(if Iaf=true then (if 0 ≤ Pa then (if Pa < (l1.length:Int) then (Fb.j1 WW l1 l2 (Ah false l1 Pa) dc Ja La Pa Mb Cc Ac) else (none)) else (none)) else (Fb.j1 WW l1 l2 false dc Ja La Pa Mb Cc Ac))=some (r1,r2,r3,r4,r5,r6,r7,r8,r9):=by rw [← TP] at H;exact H
        have CQ:=ia.mk TP;clear TP
        by_cases c64:Iaf=true
        ·subst c64;have H1:(if 0 ≤ Pa then (if Pa < (l1.length:Int) then (Fb.j1 WW l1 l2 (Ah false l1 Pa) dc Ja La Pa Mb Cc Ac) else (none)) else (none))=some (r1,r2,r3,r4,r5,r6,r7,r8,r9):=by rw [if_pos rfl] at H;exact H
         clear H;have H:=H1;clear H1
         by_cases VM:0 ≤ Pa
         ·rw [if_pos VM] at H;have kQ:decide (0 ≤ Pa)=true:=decide_eq_true VM;clear VM
          by_cases yS:Pa < (l1.length:Int)
          ·rw [if_pos yS] at H;have jaf:decide (Pa < (l1.length:Int))=true:=decide_eq_true yS;clear yS;have H':=ia.mk H;clear H;have iav:=Xa.out;have zau:=Va.out;have dV:wc.cell? ⟨Da,0,none⟩=some (.int .i64 dc):=(ga qa.out 0).trans rfl;have cV:wc.cell? ⟨Da,1,none⟩=some (.int .i64 Ja):=(ga qa.out 1).trans rfl;have bV:wc.cell? ⟨Da,2,none⟩=some (.int .i64 La):=(ga qa.out 2).trans rfl;have aV:wc.cell? ⟨Da,3,none⟩=some (.int .i64 Pa):=(ga qa.out 3).trans rfl;have ZU:wc.cell? ⟨Da,4,none⟩=some (.int .i64 Mb):=(ga qa.out 4).trans rfl;have YU:wc.cell? ⟨Da,5,none⟩=some (.int .i64 Cc):=(ga qa.out 5).trans rfl;have XU:wc.cell? ⟨Da,6,none⟩=some (.string Ac):=(ga qa.out 6).trans rfl;have DT:=aa qa.out 0;have CT:=aa qa.out 1;have zT:=aa qa.out 2;have yT:=aa qa.out 3;have xT:=aa qa.out 4;have wT:=aa qa.out 5;have vT:=aa qa.out 6;obtain ⟨EaA,Eaz,Jar⟩:=Kd.Oe bf.out;subst Jar;have pF:0 ≤ (La:Int):=of_decide_eq_true (by first|(with_reducible assumption)|assumption);have nF:La < (l1.length:Int):=of_decide_eq_true (by first|(with_reducible assumption)|assumption);obtain ⟨cY,I2,oy⟩:=Kd.Kw (Kd.oc bf.out).2.2 La pF nF;(try rw [← CQ.out] at oy);cases I2;replace pF:=eq_true pF;replace nF:=eq_true nF;have Rs:0 ≤ (Pa:Int):=of_decide_eq_true (by first|(with_reducible assumption)|assumption);have Qs:Pa < (l1.length:Int):=of_decide_eq_true (by first|(with_reducible assumption)|assumption);obtain ⟨Zh,cI,Yk⟩:=Kd.Kw (Kd.oc bf.out).2.2 Pa Rs Qs;(try rw [← CQ.out] at Yk);obtain rfl:cY=Zh:=(by injection cI);replace Rs:=eq_true Rs;replace Qs:=eq_true Qs;go_wp2
           go_meet
           case rel=>exact ⟨_,(Ah false l1 Pa),(by first|rfl|(simp;done)|(simp [*];done)),H',⟨by have:=HJ3.out;first|omega|exact Nat.le_refl _⟩,⟨by (with_reducible repeat (first|apply Kd.Tb|apply Kd.Sb|apply Kd.fc));exact bf.out⟩,⟨by (with_reducible repeat (first|apply Kd.Tb|apply Kd.Sb|apply Kd.fc));exact Pe.out⟩,⟨by (with_reducible repeat (first|refine za ?_ _|refine Ca ?_|refine ya ?_ _));exact qa.out⟩,⟨by (with_reducible repeat (first|refine za ?_ _|refine Ca ?_|refine ya ?_ _));exact Ba.out⟩,⟨by repeat (first|(with_reducible first|exact HK.out|apply Kept.alloc|apply Kept.drewN|apply Kept.drew|refine Kept.setCell ?_ (.inr De.out) _|refine Kept.setCell ?_ (.inr Tf.out) _)|exact HK.out)⟩,⟨by repeat (first|(with_reducible first|exact HB.out|apply ta|apply ja|apply ua|refine Aa ?_ Wa.out|refine Aa ?_ Jb.out)|exact HB.out)⟩⟩
          ·rw [if_neg yS] at H;exact absurd H (by simp)
         ·rw [if_neg VM] at H;exact absurd H (by simp)
        ·replace c64:=Bool.eq_false_iff.mpr c64;subst c64;have H1:(Fb.j1 WW l1 l2 false dc Ja La Pa Mb Cc Ac)=some (r1,r2,r3,r4,r5,r6,r7,r8,r9):=by rw [if_neg (show ¬ (false=true) by decide)] at H;exact H
         clear H;have H:=H1;clear H1;have H':=ia.mk H;clear H;have hav:=Xa.out;have yau:=Va.out;have WU:wc.cell? ⟨Da,0,none⟩=some (.int .i64 dc):=(ga qa.out 0).trans rfl;have VU:wc.cell? ⟨Da,1,none⟩=some (.int .i64 Ja):=(ga qa.out 1).trans rfl;have UU:wc.cell? ⟨Da,2,none⟩=some (.int .i64 La):=(ga qa.out 2).trans rfl;have TU:wc.cell? ⟨Da,3,none⟩=some (.int .i64 Pa):=(ga qa.out 3).trans rfl;have SU:wc.cell? ⟨Da,4,none⟩=some (.int .i64 Mb):=(ga qa.out 4).trans rfl;have RU:wc.cell? ⟨Da,5,none⟩=some (.int .i64 Cc):=(ga qa.out 5).trans rfl;have QU:wc.cell? ⟨Da,6,none⟩=some (.string Ac):=(ga qa.out 6).trans rfl;have uT:=aa qa.out 0;have rT:=aa qa.out 1;have qT:=aa qa.out 2;have pT:=aa qa.out 3;have oT:=aa qa.out 4;have nT:=aa qa.out 5;have mT:=aa qa.out 6;obtain ⟨DaA,Daz,Iar⟩:=Kd.Oe bf.out;subst Iar;have pF:0 ≤ (La:Int):=of_decide_eq_true (by first|(with_reducible assumption)|assumption);have nF:La < (l1.length:Int):=of_decide_eq_true (by first|(with_reducible assumption)|assumption);obtain ⟨cY,I2,oy⟩:=Kd.Kw (Kd.oc bf.out).2.2 La pF nF;(try rw [← CQ.out] at oy);cases I2;replace pF:=eq_true pF;replace nF:=eq_true nF;go_wp2
         go_meet
         case rel=>exact ⟨_,(false),(by first|rfl|(simp;done)|(simp [*];done)),H',⟨by have:=HJ3.out;first|omega|exact Nat.le_refl _⟩,⟨by (with_reducible repeat (first|apply Kd.Tb|apply Kd.Sb|apply Kd.fc));exact bf.out⟩,⟨by (with_reducible repeat (first|apply Kd.Tb|apply Kd.Sb|apply Kd.fc));exact Pe.out⟩,⟨by (with_reducible repeat (first|refine za ?_ _|refine Ca ?_|refine ya ?_ _));exact qa.out⟩,⟨by (with_reducible repeat (first|refine za ?_ _|refine Ca ?_|refine ya ?_ _));exact Ba.out⟩,⟨by repeat (first|(with_reducible first|exact HK.out|apply Kept.alloc|apply Kept.drewN|apply Kept.drew|refine Kept.setCell ?_ (.inr De.out) _|refine Kept.setCell ?_ (.inr Tf.out) _)|exact HK.out)⟩,⟨by repeat (first|(with_reducible first|exact HB.out|apply ta|apply ja|apply ua|refine Aa ?_ Wa.out|refine Aa ?_ Jb.out)|exact HB.out)⟩⟩
       ·rw [if_neg c62] at H;exact absurd H (by simp)
      ·rw [if_neg c61] at H;exact absurd H (by simp)
     ·rw [if_neg OX] at H;have RB:(dc == 2)=false:=beq_eq_false_iff_ne.mpr OX;have NX:(dc != 2)=true:=bne_iff_ne.mpr OX;(first|rw [RB]|(simp only [Cb,Db];rw [RB])|skip);have H':=ia.mk H;clear H;have fav:=Xa.out;have wau:=Va.out;have PU:wc.cell? ⟨Da,0,none⟩=some (.int .i64 dc):=(ga qa.out 0).trans rfl;have OU:wc.cell? ⟨Da,1,none⟩=some (.int .i64 Ja):=(ga qa.out 1).trans rfl;have NU:wc.cell? ⟨Da,2,none⟩=some (.int .i64 La):=(ga qa.out 2).trans rfl;have MU:wc.cell? ⟨Da,3,none⟩=some (.int .i64 Pa):=(ga qa.out 3).trans rfl;have LU:wc.cell? ⟨Da,4,none⟩=some (.int .i64 Mb):=(ga qa.out 4).trans rfl;have KU:wc.cell? ⟨Da,5,none⟩=some (.int .i64 Cc):=(ga qa.out 5).trans rfl;have JU:wc.cell? ⟨Da,6,none⟩=some (.string Ac):=(ga qa.out 6).trans rfl;have lT:=aa qa.out 0;have kT:=aa qa.out 1;have jT:=aa qa.out 2;have iT:=aa qa.out 3;have gT:=aa qa.out 4;have fT:=aa qa.out 5;have eT:=aa qa.out 6;go_wp2
      go_meet
      case rel=>exact ⟨_,(false),(by first|rfl|(simp;done)|(simp [*];done)),H',⟨by have:=HJ3.out;first|omega|exact Nat.le_refl _⟩,⟨by (with_reducible repeat (first|apply Kd.Tb|apply Kd.Sb|apply Kd.fc));exact bf.out⟩,⟨by (with_reducible repeat (first|apply Kd.Tb|apply Kd.Sb|apply Kd.fc));exact Pe.out⟩,⟨by (with_reducible repeat (first|refine za ?_ _|refine Ca ?_|refine ya ?_ _));exact qa.out⟩,⟨by (with_reducible repeat (first|refine za ?_ _|refine Ca ?_|refine ya ?_ _));exact Ba.out⟩,⟨by repeat (first|(with_reducible first|exact HK.out|apply Kept.alloc|apply Kept.drewN|apply Kept.drew|refine Kept.setCell ?_ (.inr De.out) _|refine Kept.setCell ?_ (.inr Tf.out) _)|exact HK.out)⟩,⟨by repeat (first|(with_reducible first|exact HB.out|apply ta|apply ja|apply ua|refine Aa ?_ Wa.out|refine Aa ?_ Jb.out)|exact HB.out)⟩⟩
    case rest =>
     clear D5
     try clear c1
     try clear p1
     try clear q1
     try clear hx1
     try clear c2
     try clear p2
     try clear q2
     try clear cn
     try clear c3
     try clear c5
     try clear c6
     try clear q6
     try clear c7
     try clear Jl
     try clear Mq
     try clear c8
     try clear Gp
     try clear c9
     try clear Hw
     try clear Fs
     try clear qF
     try clear oF
     try clear PZ
     try clear ZX
     try clear j3
     try clear uN
     try clear Eaf
     try clear TB
     try clear Jw
     try clear Bt
     try clear Hx
     try clear pQ
     try clear yt
     try clear SB
     try clear V6
     try clear S6
     try clear Aay
     try clear taz
     try clear gI
     try clear Baf
     try clear U6
     try clear R6
     try clear zay
     try clear saz
     try clear c34
     try clear c54
     try clear OX
     try clear RB
     try clear NX
     try clear c61
     try clear oaf
     try clear c62
     try clear maf
     try clear q63
     try clear c64
     try clear VM
     try clear kQ
     try clear yS
     try clear jaf
     try clear c67
     try clear c70
     try clear c73
     try clear Uo
     try clear Ro
     try clear Qo
     try clear Po
     try clear Oo
     try clear DL
     try clear CL
     try clear Am
     try clear zm
     try clear ym
     try clear xm
     try clear wm
     try clear cE
     try clear bE
     try clear wz
     try clear vz
     try clear uz
     try clear rz
     try clear qz
     try clear MV
     try clear LV
     try clear pz
     try clear oz
     try clear mz
     try clear kz
     try clear jz
     try clear JV
     try clear IV
     try clear Lr
     try clear Kr
     try clear Jr
     try clear Ir
     try clear Hr
     try clear KD
     try clear JD
     try clear wD
     try clear vD
     try clear uD
     try clear tD
     try clear sD
     try clear NK
     try clear MK
     try clear iz
     try clear gz
     try clear fz
     try clear ez
     try clear dz
     try clear LK
     try clear KK
     try clear BK
     try clear AK
     try clear zK
     try clear yK
     try clear xK
     try clear iV
     try clear gV
     try clear wK
     try clear vK
     try clear uK
     try clear tK
     try clear sK
     try clear fV
     try clear eV
     try clear rD
     try clear qD
     try clear oD
     try clear nD
     try clear mD
     try clear rK
     try clear qK
     try clear dV
     try clear cV
     try clear bV
     try clear aV
     try clear ZU
     try clear YU
     try clear XU
     try clear WU
     try clear VU
     try clear UU
     try clear TU
     try clear SU
     try clear RU
     try clear QU
     try clear PU
     try clear OU
     try clear NU
     try clear MU
     try clear LU
     try clear KU
     try clear JU
     try clear Ho
     try clear Fo
     try clear Eo
     try clear Co
     try clear Bo
     try clear oK
     try clear nK
     try clear mm
     try clear jm
     try clear gm
     try clear dm
     try clear cm
     try clear dD
     try clear cD
     try clear Ny
     try clear My
     try clear Ly
     try clear Ky
     try clear Jy
     try clear oU
     try clear nU
     try clear Iy
     try clear Hy
     try clear Gy
     try clear Fy
     try clear Ey
     try clear mU
     try clear lU
     try clear er
     try clear dr
     try clear cr
     try clear br
     try clear Zq
     try clear MC
     try clear LC
     try clear yC
     try clear xC
     try clear wC
     try clear vC
     try clear uC
     try clear AJ
     try clear zJ
     try clear Dy
     try clear Cy
     try clear Ay
     try clear zy
     try clear yy
     try clear yJ
     try clear xJ
     try clear rJ
     try clear qJ
     try clear pJ
     try clear oJ
     try clear nJ
     try clear KT
     try clear JT
     try clear mJ
     try clear lJ
     try clear kJ
     try clear jJ
     try clear iJ
     try clear FT
     try clear ET
     try clear tC
     try clear sC
     try clear rC
     try clear qC
     try clear oC
     try clear hJ
     try clear gJ
     try clear DT
     try clear CT
     try clear zT
     try clear yT
     try clear xT
     try clear wT
     try clear vT
     try clear uT
     try clear rT
     try clear qT
     try clear pT
     try clear oT
     try clear nT
     try clear mT
     try clear lT
     try clear kT
     try clear jT
     try clear iT
     try clear gT
     try clear fT
     try clear eT
     try clear Bd
     try clear Ud
     try clear oy
     try clear Yk
     try clear IZ
     try clear FZ
     try clear p1
     try clear qF
     try clear Zg
     try clear bh
     try clear pF
     try clear Rs
     try clear p2
     try clear V6
     try clear U6
     try clear q1
     try clear oF
     try clear Yg
     try clear ah
     try clear nF
     try clear Qs
     try clear S6
     try clear R6
     obtain ⟨kq,YB,rfl,HA,naA,bf,Pe,qa,Ba,HK,HB⟩:=hcut;cases kq with
     | zero=>exact absurd HA.out (by simp [Fb.j1])
     | succ xay =>
      have H:=HA.out;clear HA;simp only [Fb.j1] at H
      by_cases c75:YB=true
      ·subst c75;have H1:(if 0 ≤ La then (if La < (l2.length:Int) then (if 0 ≤ Pa then (if Pa < (l2.length:Int) then ((Lm.f Ac (rd l2 La) (rd l2 Pa)).bind fun t112=>((uf.f 0 Ja 0 0 0 t112 (⟨#[]⟩:ByteArray)).bind fun t113=>(if t113=true then (if 0 ≤ Ja then (if Ja < (l1.length:Int) then (if Ja < (l2.length:Int) then (some (0,Ja,0,0,0,t112,(⟨#[]⟩:ByteArray),(l1.set (Ja:Int).toNat (0 == 0)),(l2.set (Ja:Int).toNat t112))) else (none)) else (none)) else (none)) else (some (0,Ja,0,0,0,t112,(⟨#[]⟩:ByteArray),l1,l2))))) else (none)) else (none)) else (none)) else (none))=some (r1,r2,r3,r4,r5,r6,r7,r8,r9):=by rw [if_pos rfl] at H;exact H
       clear H;have H:=H1;clear H1
       by_cases c76:0 ≤ La
       ·rw [if_pos c76] at H;have qax:decide (0 ≤ La)=true:=decide_eq_true c76;clear c76
        by_cases c77:La < (l2.length:Int)
        ·rw [if_pos c77] at H;have pax:decide (La < (l2.length:Int))=true:=decide_eq_true c77;clear c77
         by_cases c78:0 ≤ Pa
         ·rw [if_pos c78] at H;have oax:decide (0 ≤ Pa)=true:=decide_eq_true c78;clear c78
          by_cases c79:Pa < (l2.length:Int)
          ·rw [if_pos c79] at H;have nax:decide (Pa < (l2.length:Int))=true:=decide_eq_true c79;clear c79;replace H:=Option.bind_eq_some_iff.mp H;obtain ⟨t112,Uag,H⟩:=H;replace H:((uf.f 0 Ja 0 0 0 t112 (⟨#[]⟩:ByteArray)).bind fun t113=>(if t113=true then (if 0 ≤ Ja then (if Ja < (l1.length:Int) then (if Ja < (l2.length:Int) then (some (0,Ja,0,0,0,t112,(⟨#[]⟩:ByteArray),(l1.set (Ja:Int).toNat (0 == 0)),(l2.set (Ja:Int).toNat t112))) else (none)) else (none)) else (none)) else (some (0,Ja,0,0,0,t112,(⟨#[]⟩:ByteArray),l1,l2))))=some (r1,r2,r3,r4,r5,r6,r7,r8,r9):=H;have fM:=ia.mk Uag;clear Uag;replace H:=Option.bind_eq_some_iff.mp H;obtain ⟨t113,Sag,H⟩:=H;replace H:(if t113=true then (if 0 ≤ Ja then (if Ja < (l1.length:Int) then (if Ja < (l2.length:Int) then (some (0,Ja,0,0,0,t112,(⟨#[]⟩:ByteArray),(l1.set (Ja:Int).toNat (0 == 0)),(l2.set (Ja:Int).toNat t112))) else (none)) else (none)) else (none)) else (some (0,Ja,0,0,0,t112,(⟨#[]⟩:ByteArray),l1,l2)))=some (r1,r2,r3,r4,r5,r6,r7,r8,r9):=H;have A81:=ia.mk Sag;clear Sag
           by_cases c82:t113=true
           ·subst c82;have H1:(if 0 ≤ Ja then (if Ja < (l1.length:Int) then (if Ja < (l2.length:Int) then (some (0,Ja,0,0,0,t112,(⟨#[]⟩:ByteArray),(l1.set (Ja:Int).toNat (0 == 0)),(l2.set (Ja:Int).toNat t112))) else (none)) else (none)) else (none))=some (r1,r2,r3,r4,r5,r6,r7,r8,r9):=by rw [if_pos rfl] at H;exact H
            clear H;have H:=H1;clear H1
            by_cases c83:0 ≤ Ja
            ·rw [if_pos c83] at H;have kax:decide (0 ≤ Ja)=true:=decide_eq_true c83;clear c83
             by_cases c84:Ja < (l1.length:Int)
             ·rw [if_pos c84] at H;have jax:decide (Ja < (l1.length:Int))=true:=decide_eq_true c84;clear c84;obtain ⟨bZ,zF⟩:∃ y_:List Bool,y_=(l1.set (Ja:Int).toNat (0 == 0)):=⟨_,rfl⟩;replace H:(if Ja < (l2.length:Int) then (some (0,Ja,0,0,0,t112,(⟨#[]⟩:ByteArray),bZ,(l2.set (Ja:Int).toNat t112))) else (none))=some (r1,r2,r3,r4,r5,r6,r7,r8,r9):=by first|(rw [zF];with_reducible exact H)|(have lg:=(Option.bind_some _ _).symm.trans H;rw [zF];with_reducible exact lg)|(have lg:=(Option.bind_some _ _).symm.trans H;with_reducible exact lg)|with_reducible exact H|(rw [zF];exact H)|exact H
              have Vaf:=ia.mk zF;clear zF
              by_cases jW:Ja < (l2.length:Int)
              ·rw [if_pos jW] at H;have iax:decide (Ja < (l2.length:Int))=true:=decide_eq_true jW;clear jW;obtain ⟨Pk,Pm⟩:∃ y_:List Int,y_=(l2.set (Ja:Int).toNat t112):=⟨_,rfl⟩;replace H:(some (0,Ja,0,0,0,t112,(⟨#[]⟩:ByteArray),bZ,Pk))=some (r1,r2,r3,r4,r5,r6,r7,r8,r9):=by first|(rw [Pm];with_reducible exact H)|(have lg:=(Option.bind_some _ _).symm.trans H;rw [Pm];with_reducible exact lg)|(have lg:=(Option.bind_some _ _).symm.trans H;with_reducible exact lg)|with_reducible exact H|(rw [Pm];exact H)|exact H
               have UB:=ia.mk Pm;clear Pm;simp only [Option.some.injEq,Prod.mk.injEq] at H;obtain ⟨rfl,rfl,rfl,rfl,rfl,rfl,rfl,rfl,rfl⟩:=H
               try go_wp2
               have Kb:=ia.mk (Kd.fc bf.out);have Ub:=ia.mk (Kd.fc Pe.out);have qc:=ia.mk (Ca qa.out);have Rc:=ia.mk (Ca Ba.out);have Ce:=ia.mk (Kept.drew HK.out);have Qe:=ia.mk (ua HB.out);clear bf Pe qa Ba HK HB;have bf:=Kb;have Pe:=Ub;have qa:=qc;have Ba:=Rc;have HK:=Ce;have HB:=Qe;clear Kb Ub qc Rc Ce Qe;obtain ⟨BaA,Tae,Mae⟩:=Kd.Oe Pe.out;(first|subst Mae|(injection Mae with dQ Z1 cQ;have Y1:=dQ.symm;have X1:=cQ.symm;clear dQ Z1 cQ;subst Y1;subst X1));have Qp:0 ≤ (La:Int):=of_decide_eq_true (by first|(with_reducible assumption)|assumption);have Np:La < (l2.length:Int):=of_decide_eq_true (by first|(with_reducible assumption)|assumption);obtain ⟨Gl,mE,Ch⟩:=Kd.Ij (Kd.oc Pe.out).2.2 La Qp Np;cases mE;replace Qp:=eq_true Qp;replace Np:=eq_true Np;have jH:0 ≤ (Pa:Int):=of_decide_eq_true (by first|(with_reducible assumption)|assumption);have gH:Pa < (l2.length:Int):=of_decide_eq_true (by first|(with_reducible assumption)|assumption);obtain ⟨tQ,G2,Yq⟩:=Kd.Ij (Kd.oc Pe.out).2.2 Pa jH gH;obtain rfl:Gl=tQ:=(by injection G2);replace jH:=eq_true jH;replace gH:=eq_true gH;refine Mi (n:=17) (S:=fun w'=>w'.cell? ⟨Da,0,none⟩=some (.int .i64 dc)∧w'.cell? ⟨Da,1,none⟩=some (.int .i64 Ja)∧w'.cell? ⟨Da,2,none⟩=some (.int .i64 La)∧w'.cell? ⟨Da,3,none⟩=some (.int .i64 Pa)∧w'.cell? ⟨Da,4,none⟩=some (.int .i64 Mb)∧w'.cell? ⟨Da,5,none⟩=some (.int .i64 Cc)∧w'.cell? ⟨Da,6,none⟩=some (.string Ac)∧w'.cell? (Gl.add (La).toNat)=some (.int .i64 (rd l2 La))∧w'.cell? (Gl.add (Pa).toNat)=some (.int .i64 (rd l2 Pa))) (ds:=[16]) #[false,false,false,false,false,false,false,false,false,false,false,false,false,false,false,false,false] (by kernel_rfl) rfl rfl ⟨(ga qa.out 0).trans rfl,(ga qa.out 1).trans rfl,(ga qa.out 2).trans rfl,(ga qa.out 3).trans rfl,(ga qa.out 4).trans rfl,(ga qa.out 5).trans rfl,(ga qa.out 6).trans rfl,Ch,Yq⟩ (fun hHeld=>?_);refine dh Fb.NN Fb.uG (fun We Jm=>?_);generalize wc.drew=PI at bf Pe qa Ba HK HB Ch Yq hHeld ⊢;refine Ic (i:=0) (N:=some 44) (v:=?_) (a':=?_) #[true,false,false,false,false,false,false,false,false,false,false,false,false,false,false,false,false] rfl rfl (nc We.out (by kernel_rfl)) (fun _ _ _ h=>h) (Or.inl ⟨by rfl,?_⟩) ?_ ?_;rotate_left
               ·intro w';go_simp;with_reducible rfl
               rotate_left
               ·simp only [Act.put,List.setIfInBounds_toArray,List.set_cons_zero,List.set_cons_succ,Cb,Db]
                rfl
               refine Ic (i:=2) (N:=some 46) (v:=?_) (a':=?_) #[true,false,true,false,false,false,false,false,false,false,false,false,false,false,false,false,false] rfl rfl (nc We.out (by kernel_rfl)) (fun _ _ _ h=>h) (Or.inl ⟨by rfl,?_⟩) ?_ ?_;rotate_left
               ·intro w';go_simp;with_reducible rfl
               rotate_left
               ·simp only [Act.put,List.setIfInBounds_toArray,List.set_cons_zero,List.set_cons_succ,Cb,Db]
                rfl
               refine Ic (i:=4) (N:=some 48) (v:=?_) (a':=?_) #[true,false,true,false,true,false,false,false,false,false,false,false,false,false,false,false,false] rfl rfl (nc We.out (by kernel_rfl)) (fun _ _ _ h=>h) (Or.inl ⟨by rfl,?_⟩) ?_ ?_;rotate_left
               ·intro w';go_simp;with_reducible rfl
               rotate_left
               ·simp only [Act.put,List.setIfInBounds_toArray,List.set_cons_zero,List.set_cons_succ,Cb,Db]
                rfl
               refine Ic (i:=5) (N:=some 49) (v:=?_) (a':=?_) #[true,false,true,false,true,true,false,false,false,false,false,false,false,false,false,false,false] rfl rfl (nc We.out (by kernel_rfl)) (fun _ _ _ h=>h) (Or.inl ⟨by rfl,?_⟩) ?_ ?_;rotate_left
               ·intro w';go_simp;with_reducible rfl
               rotate_left
               ·simp only [Act.put,List.setIfInBounds_toArray,List.set_cons_zero,List.set_cons_succ,Cb,Db]
                rfl
               refine Ic (i:=9) (N:=some 53) (v:=?_) (a':=?_) #[true,false,true,false,true,true,false,false,false,true,false,false,false,false,false,false,false] rfl rfl (nc We.out (by kernel_rfl)) (fun _ _ _ h=>h) (Or.inl ⟨by rfl,?_⟩) ?_ ?_;rotate_left
               ·intro w';go_simp;with_reducible rfl
               rotate_left
               ·simp only [Act.put,List.setIfInBounds_toArray,List.set_cons_zero,List.set_cons_succ,Cb,Db]
                rfl
               refine Ic (i:=10) (N:=some 54) (v:=?_) (a':=?_) #[true,false,true,false,true,true,false,false,false,true,true,false,false,false,false,false,false] rfl rfl (nc We.out (by kernel_rfl)) (fun _ _ _ h=>h) (Or.inl ⟨by rfl,?_⟩) ?_ ?_;rotate_left
               ·intro w';go_simp;with_reducible rfl
               rotate_left
               ·simp only [Act.put,List.setIfInBounds_toArray,List.set_cons_zero,List.set_cons_succ,Cb,Db]
                rfl
               refine Mf (i:=1) (N:=some 45) (v:=?_) (a':=?_) #[true,true,true,false,true,true,false,false,false,true,true,false,false,false,false,false,false] rfl rfl (Od We.out Jm.out (by kernel_rfl)) (fun _ _ _ h=>h) (Or.inl ⟨by rfl,?_⟩) hHeld ?_ ?_;rotate_left
               ·rintro w' ⟨s0,s1,s2,s3,s4,s5,s6,s7,s8⟩;go_simp;with_reducible rfl
               rotate_left
               ·simp only [Act.put,List.setIfInBounds_toArray,List.set_cons_zero,List.set_cons_succ,Cb,Db]
                rfl
               refine Mf (i:=3) (N:=some 47) (v:=?_) (a':=?_) #[true,true,true,true,true,true,false,false,false,true,true,false,false,false,false,false,false] rfl rfl (Od We.out Jm.out (by kernel_rfl)) (fun _ _ _ h=>h) (Or.inl ⟨by rfl,?_⟩) hHeld ?_ ?_;rotate_left
               ·rintro w' ⟨s0,s1,s2,s3,s4,s5,s6,s7,s8⟩;go_simp;with_reducible rfl
               rotate_left
               ·simp only [Act.put,List.setIfInBounds_toArray,List.set_cons_zero,List.set_cons_succ,Cb,Db]
                rfl
               refine Mf (i:=6) (N:=some 50) (v:=?_) (a':=?_) #[true,true,true,true,true,true,true,false,false,true,true,false,false,false,false,false,false] rfl rfl (Od We.out Jm.out (by kernel_rfl)) (fun _ _ _ h=>h) (Or.inl ⟨by rfl,?_⟩) hHeld ?_ ?_;rotate_left
               ·rintro w' ⟨s0,s1,s2,s3,s4,s5,s6,s7,s8⟩;go_simp;with_reducible rfl
               rotate_left
               ·simp only [Act.put,List.setIfInBounds_toArray,List.set_cons_zero,List.set_cons_succ,Cb,Db]
                rfl
               refine Ic (i:=7) (N:=some 51) (v:=?_) (a':=?_) #[true,true,true,true,true,true,true,true,false,true,true,false,false,false,false,false,false] rfl rfl (nc We.out (by kernel_rfl)) (fun _ _ _ h=>h) (Or.inl ⟨by rfl,?_⟩) ?_ ?_;rotate_left
               ·intro w';go_simp;with_reducible rfl
               rotate_left
               ·simp only [Act.put,List.setIfInBounds_toArray,List.set_cons_zero,List.set_cons_succ,Cb,Db]
                rfl
               refine Mf (i:=8) (N:=some 52) (v:=?_) (a':=?_) #[true,true,true,true,true,true,true,true,true,true,true,false,false,false,false,false,false] rfl rfl (Od We.out Jm.out (by kernel_rfl)) (fun _ _ _ h=>h) (Or.inl ⟨by rfl,?_⟩) hHeld ?_ ?_;rotate_left
               ·rintro w' ⟨s0,s1,s2,s3,s4,s5,s6,s7,s8⟩;go_simp;with_reducible rfl
               rotate_left
               ·simp only [Act.put,List.setIfInBounds_toArray,List.set_cons_zero,List.set_cons_succ,Cb,Db]
                rfl
               refine Mf (i:=11) (N:=some 55) (v:=?_) (a':=?_) #[true,true,true,true,true,true,true,true,true,true,true,true,false,false,false,false,false] rfl rfl (Od We.out Jm.out (by kernel_rfl)) (fun _ _ _ h=>h) (Or.inl ⟨by rfl,?_⟩) hHeld ?_ ?_;rotate_left
               ·rintro w' ⟨s0,s1,s2,s3,s4,s5,s6,s7,s8⟩;go_simp;with_reducible rfl
               rotate_left
               ·simp only [Act.put,List.setIfInBounds_toArray,List.set_cons_zero,List.set_cons_succ,Cb,Db]
                rfl
               refine Ic (i:=12) (N:=some 56) (v:=?_) (a':=?_) #[true,true,true,true,true,true,true,true,true,true,true,true,true,false,false,false,false] rfl rfl (nc We.out (by kernel_rfl)) (fun _ _ _ h=>h) (Or.inl ⟨by rfl,?_⟩) ?_ ?_;rotate_left
               ·intro w';go_simp;with_reducible rfl
               rotate_left
               ·simp only [Act.put,List.setIfInBounds_toArray,List.set_cons_zero,List.set_cons_succ,Cb,Db]
                rfl
               refine Mf (i:=13) (N:=some 57) (v:=?_) (a':=?_) #[true,true,true,true,true,true,true,true,true,true,true,true,true,true,false,false,false] rfl rfl (Od We.out Jm.out (by kernel_rfl)) (fun _ _ _ h=>h) (Or.inl ⟨by rfl,?_⟩) hHeld ?_ ?_;rotate_left
               ·rintro w' ⟨s0,s1,s2,s3,s4,s5,s6,s7,s8⟩;go_simp;with_reducible rfl
               rotate_left
               ·simp only [Act.put,List.setIfInBounds_toArray,List.set_cons_zero,List.set_cons_succ,Cb,Db]
                rfl
               refine Gq (i:=14) (N:=some 58) #[true,true,true,true,true,true,true,true,true,true,true,true,true,true,true,false,false] rfl rfl (jk We.out (by kernel_rfl)) (by decide) (fun K hK=>?_);refine Um Try.func104 (by kernel_rfl) rfl #[.string Ac,.int .i64 (rd l2 La),.int .i64 (rd l2 Pa)] (by rfl) rfl rfl (by (try simp only [List.map_toArray,List.map_cons,List.map_nil]);first|done|rfl|(simp only [List.length_drop,List.length_take];rfl)) ?_;with_reducible refine (Lm.calls Ac (rd l2 La) (rd l2 Pa) t112 _ fM.out).mono ?_
               rintro e w' ⟨rfl,⟨nd,rfl⟩⟩;refine ⟨_,rfl,?_⟩;refine hK.out _ _ ⟨(ga qa.out 0).trans rfl,(ga qa.out 1).trans rfl,(ga qa.out 2).trans rfl,(ga qa.out 3).trans rfl,(ga qa.out 4).trans rfl,(ga qa.out 5).trans rfl,(ga qa.out 6).trans rfl,hHeld.2.2.2.2.2.2.2.1,hHeld.2.2.2.2.2.2.2.2⟩ (fun hHeld=>?_);clear hK K;refine Mm (a':=?_) ?_ ?_;rotate_left
               ·show Act.put _ (some 58) _=_
                simp only [Act.put,List.setIfInBounds_toArray,List.set_cons_zero,List.set_cons_succ,Cb,Db]
                rfl
               refine Ic (i:=15) (N:=some 59) (v:=?_) (a':=?_) #[true,true,true,true,true,true,true,true,true,true,true,true,true,true,true,true,false] rfl rfl (nc We.out (by kernel_rfl)) (fun _ _ _ h=>h) (Or.inl ⟨by rfl,?_⟩) ?_ ?_;rotate_left
               ·intro w';go_simp;with_reducible rfl
               rotate_left
               ·simp only [Act.put,List.setIfInBounds_toArray,List.set_cons_zero,List.set_cons_succ,Cb,Db]
                rfl
               refine dA (i:=16) (N:=none) #[true,true,true,true,true,true,true,true,true,true,true,true,true,true,true,true,true] rfl rfl (jk We.out (by kernel_rfl)) (by decide) (fun K hK=>?_);have Iay:PI.cell? ⟨Da,0,none⟩=some (.int .i64 dc):=(ga qa.out 0).trans rfl;have Qav:=aa qa.out 0;have zah:=Va.out;have Wah:=Xa.out;have Hay:PI.cell? ⟨Da,1,none⟩=some (.int .i64 Ja):=(ga qa.out 1).trans rfl;have Pav:=aa qa.out 1;have yah:=Va.out;have Vah:=Xa.out;have Gay:PI.cell? ⟨Da,2,none⟩=some (.int .i64 La):=(ga qa.out 2).trans rfl;have Oav:=aa qa.out 2;have xah:=Va.out;have Uah:=Xa.out;have Fay:PI.cell? ⟨Da,3,none⟩=some (.int .i64 Pa):=(ga qa.out 3).trans rfl;have Nav:=aa qa.out 3;have wah:=Va.out;have Tah:=Xa.out;have Eay:PI.cell? ⟨Da,4,none⟩=some (.int .i64 Mb):=(ga qa.out 4).trans rfl;have Mav:=aa qa.out 4;have vah:=Va.out;have Sah:=Xa.out;have Cay:PI.cell? ⟨Da,5,none⟩=some (.int .i64 Cc):=(ga qa.out 5).trans rfl;have Lav:=aa qa.out 5;have uah:=Va.out;have Rah:=Xa.out;have Bay:PI.cell? ⟨Da,6,none⟩=some (.string Ac):=(ga qa.out 6).trans rfl;have Kav:=aa qa.out 6;have tah:=Va.out;have Qah:=Xa.out;refine Sz (w1:=?_) (by rfl) rfl ?_ ?_;rotate_left
               ·go_simp
                rfl
               refine hK.out _ _ ?_;clear hK K;refine Fl (Vi We.out (by kernel_rfl)) ?_;have Xau:=Xa.out;have oau:=Va.out;have xal:PI.cell? ⟨Da,0,none⟩=some (.int .i64 dc):=(ga qa.out 0).trans rfl;have wal:PI.cell? ⟨Da,1,none⟩=some (.int .i64 Ja):=(ga qa.out 1).trans rfl;have ual:PI.cell? ⟨Da,2,none⟩=some (.int .i64 La):=(ga qa.out 2).trans rfl;have tal:PI.cell? ⟨Da,3,none⟩=some (.int .i64 Pa):=(ga qa.out 3).trans rfl;have sal:PI.cell? ⟨Da,4,none⟩=some (.int .i64 Mb):=(ga qa.out 4).trans rfl;have ral:PI.cell? ⟨Da,5,none⟩=some (.int .i64 Cc):=(ga qa.out 5).trans rfl;have qal:PI.cell? ⟨Da,6,none⟩=some (.string Ac):=(ga qa.out 6).trans rfl;have yai:=aa qa.out 0;have xai:=aa qa.out 1;have wai:=aa qa.out 2;have vai:=aa qa.out 3;have uai:=aa qa.out 4;have tai:=aa qa.out 5;have sai:=aa qa.out 6
               try go_wp2_with (first|((with_reducible refine qb (f:=100) rfl ?_);refine Qc (some 61) rfl rfl Try.func100 (by kernel_rfl) rfl #[.agg #[.int .i64 0,.int .i64 Ja,.int .i64 0,.int .i64 0,.int .i64 0,.int .i64 t112,.string (⟨#[]⟩:ByteArray)]] rfl (by (try simp only [List.map_toArray,List.map_cons,List.map_nil]);first|done|rfl|(simp only [List.length_drop,List.length_take];rfl)) ?_;(with_reducible refine (uf.calls 0 Ja 0 0 0 t112 (⟨#[]⟩:ByteArray) true _ A81.out).mono ?_);rintro e GS ⟨rfl,hb⟩;refine ⟨_,rfl,?_⟩;have Kb:=ia.mk (Kd.Dc (by (with_reducible repeat (first|apply Kd.Tb|apply Kd.Sb|apply Kd.fc));exact (Kd.Tc (Kd.Eb (p:=⟨Da,6,none⟩) (Kd.Eb (p:=⟨Da,5,none⟩) (Kd.Eb (p:=⟨Da,4,none⟩) (Kd.Eb (p:=⟨Da,3,none⟩) (Kd.Eb (p:=⟨Da,2,none⟩) (Kd.Eb (p:=⟨Da,1,none⟩) (Kd.Eb (p:=⟨Da,0,none⟩) (Kd.fe bf.out qa.out (by decide)) (fun _ hk=>hk.2) (.int .i64 0)) (fun _ hk=>hk.2) (.int .i64 Ja)) (fun _ hk=>hk.2) (.int .i64 0)) (fun _ hk=>hk.2) (.int .i64 0)) (fun _ hk=>hk.2) (.int .i64 0)) (fun _ hk=>hk.2) (.int .i64 t112)) (fun _ hk=>hk.2) (.string (⟨#[]⟩:ByteArray))) (fun _ h_=>h_.1))) hb);have Ub:=ia.mk (Kd.Dc (by (with_reducible repeat (first|apply Kd.Tb|apply Kd.Sb|apply Kd.fc));exact (Kd.Tc (Kd.Eb (p:=⟨Da,6,none⟩) (Kd.Eb (p:=⟨Da,5,none⟩) (Kd.Eb (p:=⟨Da,4,none⟩) (Kd.Eb (p:=⟨Da,3,none⟩) (Kd.Eb (p:=⟨Da,2,none⟩) (Kd.Eb (p:=⟨Da,1,none⟩) (Kd.Eb (p:=⟨Da,0,none⟩) (Kd.fe Pe.out qa.out (by decide)) (fun _ hk=>hk.2) (.int .i64 0)) (fun _ hk=>hk.2) (.int .i64 Ja)) (fun _ hk=>hk.2) (.int .i64 0)) (fun _ hk=>hk.2) (.int .i64 0)) (fun _ hk=>hk.2) (.int .i64 0)) (fun _ hk=>hk.2) (.int .i64 t112)) (fun _ hk=>hk.2) (.string (⟨#[]⟩:ByteArray))) (fun _ h_=>h_.1))) hb);have qc:=ia.mk (Ta (g:=Da) (o:=.cells #[.int .i64 0,.int .i64 Ja,.int .i64 0,.int .i64 0,.int .i64 0,.int .i64 t112,.string (⟨#[]⟩:ByteArray)] 70 (0,0)) (by (with_reducible repeat (first|refine za ?_ _|refine Ca ?_|refine ya ?_ _));refine jb (cs:=#[.int .i64 0,.int .i64 Ja,.int .i64 0,.int .i64 0,.int .i64 0,.int .i64 t112,.string Ac]) ?_ 6 _ rfl;(with_reducible repeat (first|refine za ?_ _|refine Ca ?_|refine ya ?_ _));refine jb (cs:=#[.int .i64 0,.int .i64 Ja,.int .i64 0,.int .i64 0,.int .i64 0,.int .i64 Cc,.string Ac]) ?_ 5 _ rfl;(with_reducible repeat (first|refine za ?_ _|refine Ca ?_|refine ya ?_ _));refine jb (cs:=#[.int .i64 0,.int .i64 Ja,.int .i64 0,.int .i64 0,.int .i64 Mb,.int .i64 Cc,.string Ac]) ?_ 4 _ rfl;(with_reducible repeat (first|refine za ?_ _|refine Ca ?_|refine ya ?_ _));refine jb (cs:=#[.int .i64 0,.int .i64 Ja,.int .i64 0,.int .i64 Pa,.int .i64 Mb,.int .i64 Cc,.string Ac]) ?_ 3 _ rfl;(with_reducible repeat (first|refine za ?_ _|refine Ca ?_|refine ya ?_ _));refine jb (cs:=#[.int .i64 0,.int .i64 Ja,.int .i64 La,.int .i64 Pa,.int .i64 Mb,.int .i64 Cc,.string Ac]) ?_ 2 _ rfl;(with_reducible repeat (first|refine za ?_ _|refine Ca ?_|refine ya ?_ _));refine jb (cs:=#[.int .i64 0,.int .i64 Ja,.int .i64 La,.int .i64 Pa,.int .i64 Mb,.int .i64 Cc,.string Ac]) ?_ 1 _ rfl;(with_reducible repeat (first|refine za ?_ _|refine Ca ?_|refine ya ?_ _));refine jb (cs:=#[.int .i64 dc,.int .i64 Ja,.int .i64 La,.int .i64 Pa,.int .i64 Mb,.int .i64 Cc,.string Ac]) ?_ 0 _ rfl;(with_reducible repeat (first|refine za ?_ _|refine Ca ?_|refine ya ?_ _));exact qa.out) hb);have Rc:=ia.mk (Ta (g:=Ga) (o:=.cells #[.int .i64 0,.int .i64 0,.int .i64 0,.int .i64 0,.int .i64 0,.int .i64 0,.string (⟨#[]⟩:ByteArray)] 70 (0,0)) (by (with_reducible repeat (first|refine za ?_ _|refine Ca ?_|refine ya ?_ _));refine Bb ?_ Va.out _;(with_reducible repeat (first|refine za ?_ _|refine Ca ?_|refine ya ?_ _));refine Bb ?_ Va.out _;(with_reducible repeat (first|refine za ?_ _|refine Ca ?_|refine ya ?_ _));refine Bb ?_ Va.out _;(with_reducible repeat (first|refine za ?_ _|refine Ca ?_|refine ya ?_ _));refine Bb ?_ Va.out _;(with_reducible repeat (first|refine za ?_ _|refine Ca ?_|refine ya ?_ _));refine Bb ?_ Va.out _;(with_reducible repeat (first|refine za ?_ _|refine Ca ?_|refine ya ?_ _));refine Bb ?_ Va.out _;(with_reducible repeat (first|refine za ?_ _|refine Ca ?_|refine ya ?_ _));refine Bb ?_ Va.out _;(with_reducible repeat (first|refine za ?_ _|refine Ca ?_|refine ya ?_ _));exact Ba.out) hb);have Ce:=ia.mk (Kept.below (S:=(fun k_=>Mn k_ ∨ Ln k_)) (by repeat (first|(with_reducible first|exact HK.out|apply Kept.alloc|apply Kept.drewN|apply Kept.drew|refine Kept.setCell ?_ (.inr De.out) _|refine Kept.setCell ?_ (.inr Tf.out) _)|exact HK.out)) hb);have Qe:=ia.mk (Ra (by repeat (first|(with_reducible first|exact HB.out|apply ta|apply ja|apply ua|refine Aa ?_ Wa.out|refine Aa ?_ Jb.out)|exact HB.out)) hb);clear bf Pe qa Ba HK HB;have bf:=Kb;have Pe:=Ub;have qa:=qc;have Ba:=Rc;have HK:=Ce;have HB:=Qe;clear Kb Ub qc Rc Ce Qe;(try clear hb);(try clear Li);(try clear hk);(try clear hi);have lae:GS.cell? ⟨Da,0,none⟩=some (.int .i64 0):=(ga qa.out 0).trans rfl;have kae:GS.cell? ⟨Da,1,none⟩=some (.int .i64 Ja):=(ga qa.out 1).trans rfl;have jae:GS.cell? ⟨Da,2,none⟩=some (.int .i64 0):=(ga qa.out 2).trans rfl;have iae:GS.cell? ⟨Da,3,none⟩=some (.int .i64 0):=(ga qa.out 3).trans rfl;have hae:GS.cell? ⟨Da,4,none⟩=some (.int .i64 0):=(ga qa.out 4).trans rfl;have gae:GS.cell? ⟨Da,5,none⟩=some (.int .i64 t112):=(ga qa.out 5).trans rfl;have fae:GS.cell? ⟨Da,6,none⟩=some (.string (⟨#[]⟩:ByteArray)):=(ga qa.out 6).trans rfl;have kab:=aa qa.out 0;have jab:=aa qa.out 1;have iab:=aa qa.out 2;have gab:=aa qa.out 3;have fab:=aa qa.out 4;have eab:=aa qa.out 5;have dab:=aa qa.out 6;have p85:0 ≤ (Ja:Int):=of_decide_eq_true (by first|(with_reducible assumption)|assumption);have q85:(Ja:Int) < ((l1.length:Int):Int):=of_decide_eq_true (by first|(with_reducible assumption)|assumption);obtain ⟨LH,Uae,Oae,Eae,Aar,Laz,zag⟩:=Kd.Kn bf.out (by omega);(first|cases Oae|(injection Oae with ei jq lq;(first|subst ei|(injection ei with ei;subst ei));subst lq;clear jq));have Kas:=ia.mk Eae;have uaA:=ia.mk zag;clear Eae Aar zag;have uas:=ia.mk (show ((Mn LH ∨ Ln LH) ∨ w.heap.size ≤ LH) from (bf.out.1 _ rfl));obtain ⟨Jap,Yaq⟩:=Kd.yj false bf.out (Ja:Int) p85 q85;replace p85:=eq_true p85;replace q85:=eq_true q85;obtain ⟨Hap,Dap⟩:=Kd.yj false bf.out (Ja:Int) (of_decide_eq_true (by first|(with_reducible assumption)|assumption)) (of_decide_eq_true (by first|(with_reducible assumption)|assumption));have bS:=Kd.Pq bf.out (Ja:Int) (0 == 0))|((with_reducible refine Hf (t:=4) (p:=68) rfl ?_);refine gf (t:=4) (p:=68) (v:=?mah) (w1:=(GS.setCell ⟨LH,(Ja:Int).toNat,none⟩ (.bool (0 == 0)))) ?hg ?ho ?hn ?hr ?_;(case ho=>rfl);(case hg=>rfl);(case hn=>rfl);(case hr=>first|(go_simp;done)|(go_simp;rfl));intro ay hw;have hg:GS.grownBy ay (some LH):=(by rw [hw];exact bS.2);have jn:Kd.R Kd.bool 4 ay w0.heap.size (fun k_=>((Mn k_ ∨ Ln k_) ∨ w.heap.size ≤ k_)) (.slice (some ⟨LH,0,none⟩) l1.length Uae) bZ:=(by rw [hw,Vaf.out];exact bS.1);clear bS;have Kb:=ia.mk (jn);have Ub:=ia.mk (Kd.Gm (v:=(.slice (some ⟨LH,0,none⟩) l1.length Uae)) (by (with_reducible repeat (first|apply Kd.Tb|apply Kd.Sb|apply Kd.fc));exact Pe.out) (Kd.Dn bf.out) (by decide) hg);have qc:=ia.mk (Oc (g:=Da) (o:=.cells #[.int .i64 0,.int .i64 Ja,.int .i64 0,.int .i64 0,.int .i64 0,.int .i64 t112,.string (⟨#[]⟩:ByteArray)] 70 (0,0)) (by (with_reducible repeat (first|refine za ?_ _|refine Ca ?_|refine ya ?_ _));exact qa.out) hg (Kd.Ol bf.out qa.out (by decide)));have Rc:=ia.mk (Oc (g:=Ga) (o:=.cells #[.int .i64 0,.int .i64 0,.int .i64 0,.int .i64 0,.int .i64 0,.int .i64 0,.string (⟨#[]⟩:ByteArray)] 70 (0,0)) (by (with_reducible repeat (first|refine za ?_ _|refine Ca ?_|refine ya ?_ _));exact Ba.out) hg (Kd.Ol bf.out Ba.out (by decide)));have Ce:=ia.mk ((by rw [hw];exact Aa (HB.out) Kas.out:Below w0.heap.size w0 ay));have Qe:=ia.mk (Kept.Pg (S:=(fun k_=>Mn k_ ∨ Ln k_)) hg (by repeat (first|(with_reducible first|exact HK.out|apply Kept.alloc|apply Kept.drewN|apply Kept.drew|refine Kept.setCell ?_ (.inr De.out) _|refine Kept.setCell ?_ (.inr Tf.out) _)|exact HK.out)) (fun k_ e_=>(bf.out.1 k_ e_)));clear bf Pe qa Ba HB HK;have bf:=Kb;have Pe:=Ub;have qa:=qc;have Ba:=Rc;have HB:=Ce;have HK:=Qe;clear Kb Ub qc Rc Ce Qe hg hw jn;have Xad:ay.cell? ⟨Da,0,none⟩=some (.int .i64 0):=(ga qa.out 0).trans rfl;have Wad:ay.cell? ⟨Da,1,none⟩=some (.int .i64 Ja):=(ga qa.out 1).trans rfl;have Vad:ay.cell? ⟨Da,2,none⟩=some (.int .i64 0):=(ga qa.out 2).trans rfl;have Uad:ay.cell? ⟨Da,3,none⟩=some (.int .i64 0):=(ga qa.out 3).trans rfl;have Tad:ay.cell? ⟨Da,4,none⟩=some (.int .i64 0):=(ga qa.out 4).trans rfl;have Sad:ay.cell? ⟨Da,5,none⟩=some (.int .i64 t112):=(ga qa.out 5).trans rfl;have Rad:ay.cell? ⟨Da,6,none⟩=some (.string (⟨#[]⟩:ByteArray)):=(ga qa.out 6).trans rfl;have Vaa:=aa qa.out 0;have Uaa:=aa qa.out 1;have Taa:=aa qa.out 2;have Saa:=aa qa.out 3;have Raa:=aa qa.out 4;have Qaa:=aa qa.out 5;have Paa:=aa qa.out 6;have p87:0 ≤ (Ja:Int):=of_decide_eq_true (by first|(with_reducible assumption)|assumption);have q87:(Ja:Int) < ((l2.length:Int):Int):=of_decide_eq_true (by first|(with_reducible assumption)|assumption);obtain ⟨KH,Baz,Nae,Dae,zar,Kaz,yag⟩:=Kd.Kn Pe.out (by omega);(first|cases Nae|(injection Nae with ei jq lq;(first|subst ei|(injection ei with ei;subst ei));subst lq;clear jq));have Jas:=ia.mk Dae;have taA:=ia.mk yag;clear Dae zar yag;have tas:=ia.mk (show ((Mn KH ∨ Ln KH) ∨ w.heap.size ≤ KH) from (Pe.out.1 _ rfl));(first|simp only [add_plain] at Ch|skip);(first|simp only [add_plain] at Yq|skip);obtain ⟨Iap,Xaq⟩:=Kd.yj 0 Pe.out (Ja:Int) p87 q87;replace p87:=eq_true p87;replace q87:=eq_true q87;obtain ⟨Gap,Bap⟩:=Kd.yj 0 Pe.out (Ja:Int) (of_decide_eq_true (by first|(with_reducible assumption)|assumption)) (of_decide_eq_true (by first|(with_reducible assumption)|assumption));have ZR:=Kd.Pq Pe.out (Ja:Int) t112)|((with_reducible refine Hf (t:=3) (p:=74) rfl ?_);refine gf (t:=3) (p:=74) (v:=?lah) (w1:=(ay.setCell ⟨KH,(Ja:Int).toNat,none⟩ (.int .i64 t112))) ?hg ?ho ?hn ?hr ?_;(case ho=>rfl);(case hg=>rfl);(case hn=>rfl);(case hr=>first|(go_simp;done)|(go_simp;rfl));intro Dq hw;have hg:ay.grownBy Dq (some KH):=(by rw [hw];exact ZR.2);have jn:Kd.R (Kd.int .i64) 3 Dq w0.heap.size (fun k_=>((Mn k_ ∨ Ln k_) ∨ w.heap.size ≤ k_)) (.slice (some ⟨KH,0,none⟩) l2.length Tae) Pk:=(by rw [hw,UB.out];exact ZR.1);clear ZR;have Kb:=ia.mk (Kd.Gm (v:=(.slice (some ⟨KH,0,none⟩) l2.length Tae)) (by (with_reducible repeat (first|apply Kd.Tb|apply Kd.Sb|apply Kd.fc));exact bf.out) (Kd.Dn Pe.out) (by decide) hg);have Ub:=ia.mk (jn);have qc:=ia.mk (Oc (g:=Da) (o:=.cells #[.int .i64 0,.int .i64 Ja,.int .i64 0,.int .i64 0,.int .i64 0,.int .i64 t112,.string (⟨#[]⟩:ByteArray)] 70 (0,0)) (by (with_reducible repeat (first|refine za ?_ _|refine Ca ?_|refine ya ?_ _));exact qa.out) hg (Kd.Ol Pe.out qa.out (by decide)));have Rc:=ia.mk (Oc (g:=Ga) (o:=.cells #[.int .i64 0,.int .i64 0,.int .i64 0,.int .i64 0,.int .i64 0,.int .i64 0,.string (⟨#[]⟩:ByteArray)] 70 (0,0)) (by (with_reducible repeat (first|refine za ?_ _|refine Ca ?_|refine ya ?_ _));exact Ba.out) hg (Kd.Ol Pe.out Ba.out (by decide)));have Ce:=ia.mk ((by rw [hw];exact Aa (HB.out) Jas.out:Below w0.heap.size w0 Dq));have Qe:=ia.mk (Kept.Pg (S:=(fun k_=>Mn k_ ∨ Ln k_)) hg (by repeat (first|(with_reducible first|exact HK.out|apply Kept.alloc|apply Kept.drewN|apply Kept.drew|refine Kept.setCell ?_ (.inr De.out) _|refine Kept.setCell ?_ (.inr Tf.out) _)|exact HK.out)) (fun k_ e_=>(Pe.out.1 k_ e_)));clear bf Pe qa Ba HB HK;have bf:=Kb;have Pe:=Ub;have qa:=qc;have Ba:=Rc;have HB:=Ce;have HK:=Qe;clear Kb Ub qc Rc Ce Qe hg hw jn;have Qad:Dq.cell? ⟨Da,0,none⟩=some (.int .i64 0):=(ga qa.out 0).trans rfl;have Pad:Dq.cell? ⟨Da,1,none⟩=some (.int .i64 Ja):=(ga qa.out 1).trans rfl;have Oad:Dq.cell? ⟨Da,2,none⟩=some (.int .i64 0):=(ga qa.out 2).trans rfl;have Nad:Dq.cell? ⟨Da,3,none⟩=some (.int .i64 0):=(ga qa.out 3).trans rfl;have Mad:Dq.cell? ⟨Da,4,none⟩=some (.int .i64 0):=(ga qa.out 4).trans rfl;have Lad:Dq.cell? ⟨Da,5,none⟩=some (.int .i64 t112):=(ga qa.out 5).trans rfl;have Kad:Dq.cell? ⟨Da,6,none⟩=some (.string (⟨#[]⟩:ByteArray)):=(ga qa.out 6).trans rfl;have Oaa:=aa qa.out 0;have Naa:=aa qa.out 1;have Maa:=aa qa.out 2;have Laa:=aa qa.out 3;have Kaa:=aa qa.out 4;have Jaa:=aa qa.out 5;have Iaa:=aa qa.out 6;have GP:Dq.cell? ⟨Ga,0,none⟩=some (.int .i64 0):=(ga Ba.out 0).trans rfl;have FP:Dq.cell? ⟨Ga,1,none⟩=some (.int .i64 0):=(ga Ba.out 1).trans rfl;have EP:Dq.cell? ⟨Ga,2,none⟩=some (.int .i64 0):=(ga Ba.out 2).trans rfl;have DP:Dq.cell? ⟨Ga,3,none⟩=some (.int .i64 0):=(ga Ba.out 3).trans rfl;have CP:Dq.cell? ⟨Ga,4,none⟩=some (.int .i64 0):=(ga Ba.out 4).trans rfl;have BP:Dq.cell? ⟨Ga,5,none⟩=some (.int .i64 0):=(ga Ba.out 5).trans rfl;have AP:Dq.cell? ⟨Ga,6,none⟩=some (.string (⟨#[]⟩:ByteArray)):=(ga Ba.out 6).trans rfl;have jP:=aa Ba.out 0;have iP:=aa Ba.out 1;have gP:=aa Ba.out 2;have fP:=aa Ba.out 3;have eP:=aa Ba.out 4;have dP:=aa Ba.out 5;have cP:=aa Ba.out 6))
               refine bodyPost_ret (results_cell_row rfl _ _ Ga 70 #[.int .i64 0,.int .i64 Ja,.int .i64 0,.int .i64 0,.int .i64 0,.int .i64 t112,.string (⟨#[]⟩:ByteArray)] (0,0) _ rfl (by (with_reducible repeat (first|refine za ?_ _|refine Ca ?_|refine ya ?_ _));refine jb (cs:=#[.int .i64 0,.int .i64 Ja,.int .i64 0,.int .i64 0,.int .i64 0,.int .i64 t112,.string (⟨#[]⟩:ByteArray)]) ?_ 6 _ rfl;(with_reducible repeat (first|refine za ?_ _|refine Ca ?_|refine ya ?_ _));refine jb (cs:=#[.int .i64 0,.int .i64 Ja,.int .i64 0,.int .i64 0,.int .i64 0,.int .i64 0,.string (⟨#[]⟩:ByteArray)]) ?_ 5 _ rfl;(with_reducible repeat (first|refine za ?_ _|refine Ca ?_|refine ya ?_ _));refine jb (cs:=#[.int .i64 0,.int .i64 Ja,.int .i64 0,.int .i64 0,.int .i64 0,.int .i64 0,.string (⟨#[]⟩:ByteArray)]) ?_ 4 _ rfl;(with_reducible repeat (first|refine za ?_ _|refine Ca ?_|refine ya ?_ _));refine jb (cs:=#[.int .i64 0,.int .i64 Ja,.int .i64 0,.int .i64 0,.int .i64 0,.int .i64 0,.string (⟨#[]⟩:ByteArray)]) ?_ 3 _ rfl;(with_reducible repeat (first|refine za ?_ _|refine Ca ?_|refine ya ?_ _));refine jb (cs:=#[.int .i64 0,.int .i64 Ja,.int .i64 0,.int .i64 0,.int .i64 0,.int .i64 0,.string (⟨#[]⟩:ByteArray)]) ?_ 2 _ rfl;(with_reducible repeat (first|refine za ?_ _|refine Ca ?_|refine ya ?_ _));refine jb (cs:=#[.int .i64 0,.int .i64 0,.int .i64 0,.int .i64 0,.int .i64 0,.int .i64 0,.string (⟨#[]⟩:ByteArray)]) ?_ 1 _ rfl;(with_reducible repeat (first|refine za ?_ _|refine Ca ?_|refine ya ?_ _));refine jb (cs:=#[.int .i64 0,.int .i64 0,.int .i64 0,.int .i64 0,.int .i64 0,.int .i64 0,.string (⟨#[]⟩:ByteArray)]) ?_ 0 _ rfl;(with_reducible repeat (first|refine za ?_ _|refine Ca ?_|refine ya ?_ _));exact Ba.out) Try.underlying70 rfl (by kernel_rfl)) rfl ?_;exact ⟨by first|rfl|(simp [Na,Ma] <;> rfl)|(simp [*,Na,Ma] <;> rfl),by (with_reducible repeat (first|apply Kd.Tb|apply Kd.Sb|apply Kd.fc));exact Kd.Tc (Kd.Eb (p:=⟨Ga,6,none⟩) (Kd.Eb (p:=⟨Ga,5,none⟩) (Kd.Eb (p:=⟨Ga,4,none⟩) (Kd.Eb (p:=⟨Ga,3,none⟩) (Kd.Eb (p:=⟨Ga,2,none⟩) (Kd.Eb (p:=⟨Ga,1,none⟩) (Kd.Eb (p:=⟨Ga,0,none⟩) (Kd.fe bf.out Ba.out (by decide)) (fun _ hk=>hk.2) (.int .i64 0)) (fun _ hk=>hk.2) (.int .i64 Ja)) (fun _ hk=>hk.2) (.int .i64 0)) (fun _ hk=>hk.2) (.int .i64 0)) (fun _ hk=>hk.2) (.int .i64 0)) (fun _ hk=>hk.2) (.int .i64 t112)) (fun _ hk=>hk.2) (.string (⟨#[]⟩:ByteArray))) (fun _ hk=>hk.1),by (with_reducible repeat (first|apply Kd.Tb|apply Kd.Sb|apply Kd.fc));exact Kd.Tc (Kd.Eb (p:=⟨Ga,6,none⟩) (Kd.Eb (p:=⟨Ga,5,none⟩) (Kd.Eb (p:=⟨Ga,4,none⟩) (Kd.Eb (p:=⟨Ga,3,none⟩) (Kd.Eb (p:=⟨Ga,2,none⟩) (Kd.Eb (p:=⟨Ga,1,none⟩) (Kd.Eb (p:=⟨Ga,0,none⟩) (Kd.fe Pe.out Ba.out (by decide)) (fun _ hk=>hk.2) (.int .i64 0)) (fun _ hk=>hk.2) (.int .i64 Ja)) (fun _ hk=>hk.2) (.int .i64 0)) (fun _ hk=>hk.2) (.int .i64 0)) (fun _ hk=>hk.2) (.int .i64 0)) (fun _ hk=>hk.2) (.int .i64 t112)) (fun _ hk=>hk.2) (.string (⟨#[]⟩:ByteArray))) (fun _ hk=>hk.1),by repeat (first|(with_reducible first|exact HB.out|apply ta|apply ja|apply ua|refine Aa ?_ Wa.out|refine Aa ?_ Jb.out)|exact HB.out),by repeat (first|(with_reducible first|exact HK.out|apply Kept.alloc|apply Kept.drewN|apply Kept.drew|refine Kept.setCell ?_ (.inr De.out) _|refine Kept.setCell ?_ (.inr Tf.out) _)|exact HK.out)⟩
              ·rw [if_neg jW] at H;exact absurd H (by simp)
             ·rw [if_neg c84] at H;exact absurd H (by simp)
            ·rw [if_neg c83] at H;exact absurd H (by simp)
           ·replace c82:=Bool.eq_false_iff.mpr c82;subst c82;have H1:(some (0,Ja,0,0,0,t112,(⟨#[]⟩:ByteArray),l1,l2))=some (r1,r2,r3,r4,r5,r6,r7,r8,r9):=by rw [if_neg (show ¬ (false=true) by decide)] at H;exact H
            clear H;have H:=H1;clear H1;simp only [Option.some.injEq,Prod.mk.injEq] at H;obtain ⟨rfl,rfl,rfl,rfl,rfl,rfl,rfl,rfl,rfl⟩:=H
            try go_wp2
            have Kb:=ia.mk (Kd.fc bf.out);have Ub:=ia.mk (Kd.fc Pe.out);have qc:=ia.mk (Ca qa.out);have Rc:=ia.mk (Ca Ba.out);have Ce:=ia.mk (Kept.drew HK.out);have Qe:=ia.mk (ua HB.out);clear bf Pe qa Ba HK HB;have bf:=Kb;have Pe:=Ub;have qa:=qc;have Ba:=Rc;have HK:=Ce;have HB:=Qe;clear Kb Ub qc Rc Ce Qe;obtain ⟨Uax,fax,KX⟩:=Kd.Oe Pe.out;(first|subst KX|(injection KX with dQ Z1 cQ;have Y1:=dQ.symm;have X1:=cQ.symm;clear dQ Z1 cQ;subst Y1;subst X1));have Qp:0 ≤ (La:Int):=of_decide_eq_true (by first|(with_reducible assumption)|assumption);have Np:La < (l2.length:Int):=of_decide_eq_true (by first|(with_reducible assumption)|assumption);obtain ⟨Gl,mE,Ch⟩:=Kd.Ij (Kd.oc Pe.out).2.2 La Qp Np;cases mE;replace Qp:=eq_true Qp;replace Np:=eq_true Np;have jH:0 ≤ (Pa:Int):=of_decide_eq_true (by first|(with_reducible assumption)|assumption);have gH:Pa < (l2.length:Int):=of_decide_eq_true (by first|(with_reducible assumption)|assumption);obtain ⟨tQ,G2,Yq⟩:=Kd.Ij (Kd.oc Pe.out).2.2 Pa jH gH;obtain rfl:Gl=tQ:=(by injection G2);replace jH:=eq_true jH;replace gH:=eq_true gH;refine Mi (n:=17) (S:=fun w'=>w'.cell? ⟨Da,0,none⟩=some (.int .i64 dc)∧w'.cell? ⟨Da,1,none⟩=some (.int .i64 Ja)∧w'.cell? ⟨Da,2,none⟩=some (.int .i64 La)∧w'.cell? ⟨Da,3,none⟩=some (.int .i64 Pa)∧w'.cell? ⟨Da,4,none⟩=some (.int .i64 Mb)∧w'.cell? ⟨Da,5,none⟩=some (.int .i64 Cc)∧w'.cell? ⟨Da,6,none⟩=some (.string Ac)∧w'.cell? (Gl.add (La).toNat)=some (.int .i64 (rd l2 La))∧w'.cell? (Gl.add (Pa).toNat)=some (.int .i64 (rd l2 Pa))) (ds:=[16]) #[false,false,false,false,false,false,false,false,false,false,false,false,false,false,false,false,false] (by kernel_rfl) rfl rfl ⟨(ga qa.out 0).trans rfl,(ga qa.out 1).trans rfl,(ga qa.out 2).trans rfl,(ga qa.out 3).trans rfl,(ga qa.out 4).trans rfl,(ga qa.out 5).trans rfl,(ga qa.out 6).trans rfl,Ch,Yq⟩ (fun hHeld=>?_);refine dh Fb.NN Fb.uG (fun We Jm=>?_);generalize wc.drew=uu at bf Pe qa Ba HK HB Ch Yq hHeld ⊢;refine Ic (i:=0) (N:=some 44) (v:=?_) (a':=?_) #[true,false,false,false,false,false,false,false,false,false,false,false,false,false,false,false,false] rfl rfl (nc We.out (by kernel_rfl)) (fun _ _ _ h=>h) (Or.inl ⟨by rfl,?_⟩) ?_ ?_;rotate_left
            ·intro w';go_simp;with_reducible rfl
            rotate_left
            ·simp only [Act.put,List.setIfInBounds_toArray,List.set_cons_zero,List.set_cons_succ,Cb,Db]
             rfl
            refine Ic (i:=2) (N:=some 46) (v:=?_) (a':=?_) #[true,false,true,false,false,false,false,false,false,false,false,false,false,false,false,false,false] rfl rfl (nc We.out (by kernel_rfl)) (fun _ _ _ h=>h) (Or.inl ⟨by rfl,?_⟩) ?_ ?_;rotate_left
            ·intro w';go_simp;with_reducible rfl
            rotate_left
            ·simp only [Act.put,List.setIfInBounds_toArray,List.set_cons_zero,List.set_cons_succ,Cb,Db]
             rfl
            refine Ic (i:=4) (N:=some 48) (v:=?_) (a':=?_) #[true,false,true,false,true,false,false,false,false,false,false,false,false,false,false,false,false] rfl rfl (nc We.out (by kernel_rfl)) (fun _ _ _ h=>h) (Or.inl ⟨by rfl,?_⟩) ?_ ?_;rotate_left
            ·intro w';go_simp;with_reducible rfl
            rotate_left
            ·simp only [Act.put,List.setIfInBounds_toArray,List.set_cons_zero,List.set_cons_succ,Cb,Db]
             rfl
            refine Ic (i:=5) (N:=some 49) (v:=?_) (a':=?_) #[true,false,true,false,true,true,false,false,false,false,false,false,false,false,false,false,false] rfl rfl (nc We.out (by kernel_rfl)) (fun _ _ _ h=>h) (Or.inl ⟨by rfl,?_⟩) ?_ ?_;rotate_left
            ·intro w';go_simp;with_reducible rfl
            rotate_left
            ·simp only [Act.put,List.setIfInBounds_toArray,List.set_cons_zero,List.set_cons_succ,Cb,Db]
             rfl
            refine Ic (i:=9) (N:=some 53) (v:=?_) (a':=?_) #[true,false,true,false,true,true,false,false,false,true,false,false,false,false,false,false,false] rfl rfl (nc We.out (by kernel_rfl)) (fun _ _ _ h=>h) (Or.inl ⟨by rfl,?_⟩) ?_ ?_;rotate_left
            ·intro w';go_simp;with_reducible rfl
            rotate_left
            ·simp only [Act.put,List.setIfInBounds_toArray,List.set_cons_zero,List.set_cons_succ,Cb,Db]
             rfl
            refine Ic (i:=10) (N:=some 54) (v:=?_) (a':=?_) #[true,false,true,false,true,true,false,false,false,true,true,false,false,false,false,false,false] rfl rfl (nc We.out (by kernel_rfl)) (fun _ _ _ h=>h) (Or.inl ⟨by rfl,?_⟩) ?_ ?_;rotate_left
            ·intro w';go_simp;with_reducible rfl
            rotate_left
            ·simp only [Act.put,List.setIfInBounds_toArray,List.set_cons_zero,List.set_cons_succ,Cb,Db]
             rfl
            refine Mf (i:=1) (N:=some 45) (v:=?_) (a':=?_) #[true,true,true,false,true,true,false,false,false,true,true,false,false,false,false,false,false] rfl rfl (Od We.out Jm.out (by kernel_rfl)) (fun _ _ _ h=>h) (Or.inl ⟨by rfl,?_⟩) hHeld ?_ ?_;rotate_left
            ·rintro w' ⟨s0,s1,s2,s3,s4,s5,s6,s7,s8⟩;go_simp;with_reducible rfl
            rotate_left
            ·simp only [Act.put,List.setIfInBounds_toArray,List.set_cons_zero,List.set_cons_succ,Cb,Db]
             rfl
            refine Mf (i:=3) (N:=some 47) (v:=?_) (a':=?_) #[true,true,true,true,true,true,false,false,false,true,true,false,false,false,false,false,false] rfl rfl (Od We.out Jm.out (by kernel_rfl)) (fun _ _ _ h=>h) (Or.inl ⟨by rfl,?_⟩) hHeld ?_ ?_;rotate_left
            ·rintro w' ⟨s0,s1,s2,s3,s4,s5,s6,s7,s8⟩;go_simp;with_reducible rfl
            rotate_left
            ·simp only [Act.put,List.setIfInBounds_toArray,List.set_cons_zero,List.set_cons_succ,Cb,Db]
             rfl
            refine Mf (i:=6) (N:=some 50) (v:=?_) (a':=?_) #[true,true,true,true,true,true,true,false,false,true,true,false,false,false,false,false,false] rfl rfl (Od We.out Jm.out (by kernel_rfl)) (fun _ _ _ h=>h) (Or.inl ⟨by rfl,?_⟩) hHeld ?_ ?_;rotate_left
            ·rintro w' ⟨s0,s1,s2,s3,s4,s5,s6,s7,s8⟩;go_simp;with_reducible rfl
            rotate_left
            ·simp only [Act.put,List.setIfInBounds_toArray,List.set_cons_zero,List.set_cons_succ,Cb,Db]
             rfl
            refine Ic (i:=7) (N:=some 51) (v:=?_) (a':=?_) #[true,true,true,true,true,true,true,true,false,true,true,false,false,false,false,false,false] rfl rfl (nc We.out (by kernel_rfl)) (fun _ _ _ h=>h) (Or.inl ⟨by rfl,?_⟩) ?_ ?_;rotate_left
            ·intro w';go_simp;with_reducible rfl
            rotate_left
            ·simp only [Act.put,List.setIfInBounds_toArray,List.set_cons_zero,List.set_cons_succ,Cb,Db]
             rfl
            refine Mf (i:=8) (N:=some 52) (v:=?_) (a':=?_) #[true,true,true,true,true,true,true,true,true,true,true,false,false,false,false,false,false] rfl rfl (Od We.out Jm.out (by kernel_rfl)) (fun _ _ _ h=>h) (Or.inl ⟨by rfl,?_⟩) hHeld ?_ ?_;rotate_left
            ·rintro w' ⟨s0,s1,s2,s3,s4,s5,s6,s7,s8⟩;go_simp;with_reducible rfl
            rotate_left
            ·simp only [Act.put,List.setIfInBounds_toArray,List.set_cons_zero,List.set_cons_succ,Cb,Db]
             rfl
            refine Mf (i:=11) (N:=some 55) (v:=?_) (a':=?_) #[true,true,true,true,true,true,true,true,true,true,true,true,false,false,false,false,false] rfl rfl (Od We.out Jm.out (by kernel_rfl)) (fun _ _ _ h=>h) (Or.inl ⟨by rfl,?_⟩) hHeld ?_ ?_;rotate_left
            ·rintro w' ⟨s0,s1,s2,s3,s4,s5,s6,s7,s8⟩;go_simp;with_reducible rfl
            rotate_left
            ·simp only [Act.put,List.setIfInBounds_toArray,List.set_cons_zero,List.set_cons_succ,Cb,Db]
             rfl
            refine Ic (i:=12) (N:=some 56) (v:=?_) (a':=?_) #[true,true,true,true,true,true,true,true,true,true,true,true,true,false,false,false,false] rfl rfl (nc We.out (by kernel_rfl)) (fun _ _ _ h=>h) (Or.inl ⟨by rfl,?_⟩) ?_ ?_;rotate_left
            ·intro w';go_simp;with_reducible rfl
            rotate_left
            ·simp only [Act.put,List.setIfInBounds_toArray,List.set_cons_zero,List.set_cons_succ,Cb,Db]
             rfl
            refine Mf (i:=13) (N:=some 57) (v:=?_) (a':=?_) #[true,true,true,true,true,true,true,true,true,true,true,true,true,true,false,false,false] rfl rfl (Od We.out Jm.out (by kernel_rfl)) (fun _ _ _ h=>h) (Or.inl ⟨by rfl,?_⟩) hHeld ?_ ?_;rotate_left
            ·rintro w' ⟨s0,s1,s2,s3,s4,s5,s6,s7,s8⟩;go_simp;with_reducible rfl
            rotate_left
            ·simp only [Act.put,List.setIfInBounds_toArray,List.set_cons_zero,List.set_cons_succ,Cb,Db]
             rfl
            refine Gq (i:=14) (N:=some 58) #[true,true,true,true,true,true,true,true,true,true,true,true,true,true,true,false,false] rfl rfl (jk We.out (by kernel_rfl)) (by decide) (fun K hK=>?_);refine Um Try.func104 (by kernel_rfl) rfl #[.string Ac,.int .i64 (rd l2 La),.int .i64 (rd l2 Pa)] (by rfl) rfl rfl (by (try simp only [List.map_toArray,List.map_cons,List.map_nil]);first|done|rfl|(simp only [List.length_drop,List.length_take];rfl)) ?_;with_reducible refine (Lm.calls Ac (rd l2 La) (rd l2 Pa) t112 _ fM.out).mono ?_
            rintro e w' ⟨rfl,⟨nd,rfl⟩⟩;refine ⟨_,rfl,?_⟩;refine hK.out _ _ ⟨(ga qa.out 0).trans rfl,(ga qa.out 1).trans rfl,(ga qa.out 2).trans rfl,(ga qa.out 3).trans rfl,(ga qa.out 4).trans rfl,(ga qa.out 5).trans rfl,(ga qa.out 6).trans rfl,hHeld.2.2.2.2.2.2.2.1,hHeld.2.2.2.2.2.2.2.2⟩ (fun hHeld=>?_);clear hK K;refine Mm (a':=?_) ?_ ?_;rotate_left
            ·show Act.put _ (some 58) _=_
             simp only [Act.put,List.setIfInBounds_toArray,List.set_cons_zero,List.set_cons_succ,Cb,Db]
             rfl
            refine Ic (i:=15) (N:=some 59) (v:=?_) (a':=?_) #[true,true,true,true,true,true,true,true,true,true,true,true,true,true,true,true,false] rfl rfl (nc We.out (by kernel_rfl)) (fun _ _ _ h=>h) (Or.inl ⟨by rfl,?_⟩) ?_ ?_;rotate_left
            ·intro w';go_simp;with_reducible rfl
            rotate_left
            ·simp only [Act.put,List.setIfInBounds_toArray,List.set_cons_zero,List.set_cons_succ,Cb,Db]
             rfl
            refine dA (i:=16) (N:=none) #[true,true,true,true,true,true,true,true,true,true,true,true,true,true,true,true,true] rfl rfl (jk We.out (by kernel_rfl)) (by decide) (fun K hK=>?_);have iau:uu.cell? ⟨Da,0,none⟩=some (.int .i64 dc):=(ga qa.out 0).trans rfl;have Waq:=aa qa.out 0;have E7:=Va.out;have K8:=Xa.out;have hau:uu.cell? ⟨Da,1,none⟩=some (.int .i64 Ja):=(ga qa.out 1).trans rfl;have Vaq:=aa qa.out 1;have D7:=Va.out;have J8:=Xa.out;have gau:uu.cell? ⟨Da,2,none⟩=some (.int .i64 La):=(ga qa.out 2).trans rfl;have Uaq:=aa qa.out 2;have C7:=Va.out;have I8:=Xa.out;have fau:uu.cell? ⟨Da,3,none⟩=some (.int .i64 Pa):=(ga qa.out 3).trans rfl;have Taq:=aa qa.out 3;have B7:=Va.out;have H8:=Xa.out;have eau:uu.cell? ⟨Da,4,none⟩=some (.int .i64 Mb):=(ga qa.out 4).trans rfl;have Saq:=aa qa.out 4;have y7:=Va.out;have G8:=Xa.out;have dau:uu.cell? ⟨Da,5,none⟩=some (.int .i64 Cc):=(ga qa.out 5).trans rfl;have Raq:=aa qa.out 5;have u7:=Va.out;have F8:=Xa.out;have cau:uu.cell? ⟨Da,6,none⟩=some (.string Ac):=(ga qa.out 6).trans rfl;have Qaq:=aa qa.out 6;have o7:=Va.out;have E8:=Xa.out;refine Sz (w1:=?_) (by rfl) rfl ?_ ?_;rotate_left
            ·go_simp
             rfl
            refine hK.out _ _ ?_;clear hK K;refine Fl (Vi We.out (by kernel_rfl)) ?_;have saq:=Xa.out;have daq:=Va.out;have nad:uu.cell? ⟨Da,0,none⟩=some (.int .i64 dc):=(ga qa.out 0).trans rfl;have mad:uu.cell? ⟨Da,1,none⟩=some (.int .i64 Ja):=(ga qa.out 1).trans rfl;have lad:uu.cell? ⟨Da,2,none⟩=some (.int .i64 La):=(ga qa.out 2).trans rfl;have kad:uu.cell? ⟨Da,3,none⟩=some (.int .i64 Pa):=(ga qa.out 3).trans rfl;have jad:uu.cell? ⟨Da,4,none⟩=some (.int .i64 Mb):=(ga qa.out 4).trans rfl;have iad:uu.cell? ⟨Da,5,none⟩=some (.int .i64 Cc):=(ga qa.out 5).trans rfl;have gad:uu.cell? ⟨Da,6,none⟩=some (.string Ac):=(ga qa.out 6).trans rfl;have maa:=aa qa.out 0;have laa:=aa qa.out 1;have kaa:=aa qa.out 2;have jaa:=aa qa.out 3;have iaa:=aa qa.out 4;have haa:=aa qa.out 5;have gaa:=aa qa.out 6
            try go_wp2_with (first|((with_reducible refine qb (f:=100) rfl ?_);refine Qc (some 61) rfl rfl Try.func100 (by kernel_rfl) rfl #[.agg #[.int .i64 0,.int .i64 Ja,.int .i64 0,.int .i64 0,.int .i64 0,.int .i64 t112,.string (⟨#[]⟩:ByteArray)]] rfl (by (try simp only [List.map_toArray,List.map_cons,List.map_nil]);first|done|rfl|(simp only [List.length_drop,List.length_take];rfl)) ?_;(with_reducible refine (uf.calls 0 Ja 0 0 0 t112 (⟨#[]⟩:ByteArray) false _ A81.out).mono ?_);rintro e tu ⟨rfl,hb⟩;refine ⟨_,rfl,?_⟩;have Kb:=ia.mk (Kd.Dc (by (with_reducible repeat (first|apply Kd.Tb|apply Kd.Sb|apply Kd.fc));exact (Kd.Tc (Kd.Eb (p:=⟨Da,6,none⟩) (Kd.Eb (p:=⟨Da,5,none⟩) (Kd.Eb (p:=⟨Da,4,none⟩) (Kd.Eb (p:=⟨Da,3,none⟩) (Kd.Eb (p:=⟨Da,2,none⟩) (Kd.Eb (p:=⟨Da,1,none⟩) (Kd.Eb (p:=⟨Da,0,none⟩) (Kd.fe bf.out qa.out (by decide)) (fun _ hk=>hk.2) (.int .i64 0)) (fun _ hk=>hk.2) (.int .i64 Ja)) (fun _ hk=>hk.2) (.int .i64 0)) (fun _ hk=>hk.2) (.int .i64 0)) (fun _ hk=>hk.2) (.int .i64 0)) (fun _ hk=>hk.2) (.int .i64 t112)) (fun _ hk=>hk.2) (.string (⟨#[]⟩:ByteArray))) (fun _ h_=>h_.1))) hb);have Ub:=ia.mk (Kd.Dc (by (with_reducible repeat (first|apply Kd.Tb|apply Kd.Sb|apply Kd.fc));exact (Kd.Tc (Kd.Eb (p:=⟨Da,6,none⟩) (Kd.Eb (p:=⟨Da,5,none⟩) (Kd.Eb (p:=⟨Da,4,none⟩) (Kd.Eb (p:=⟨Da,3,none⟩) (Kd.Eb (p:=⟨Da,2,none⟩) (Kd.Eb (p:=⟨Da,1,none⟩) (Kd.Eb (p:=⟨Da,0,none⟩) (Kd.fe Pe.out qa.out (by decide)) (fun _ hk=>hk.2) (.int .i64 0)) (fun _ hk=>hk.2) (.int .i64 Ja)) (fun _ hk=>hk.2) (.int .i64 0)) (fun _ hk=>hk.2) (.int .i64 0)) (fun _ hk=>hk.2) (.int .i64 0)) (fun _ hk=>hk.2) (.int .i64 t112)) (fun _ hk=>hk.2) (.string (⟨#[]⟩:ByteArray))) (fun _ h_=>h_.1))) hb);have qc:=ia.mk (Ta (g:=Da) (o:=.cells #[.int .i64 0,.int .i64 Ja,.int .i64 0,.int .i64 0,.int .i64 0,.int .i64 t112,.string (⟨#[]⟩:ByteArray)] 70 (0,0)) (by (with_reducible repeat (first|refine za ?_ _|refine Ca ?_|refine ya ?_ _));refine jb (cs:=#[.int .i64 0,.int .i64 Ja,.int .i64 0,.int .i64 0,.int .i64 0,.int .i64 t112,.string Ac]) ?_ 6 _ rfl;(with_reducible repeat (first|refine za ?_ _|refine Ca ?_|refine ya ?_ _));refine jb (cs:=#[.int .i64 0,.int .i64 Ja,.int .i64 0,.int .i64 0,.int .i64 0,.int .i64 Cc,.string Ac]) ?_ 5 _ rfl;(with_reducible repeat (first|refine za ?_ _|refine Ca ?_|refine ya ?_ _));refine jb (cs:=#[.int .i64 0,.int .i64 Ja,.int .i64 0,.int .i64 0,.int .i64 Mb,.int .i64 Cc,.string Ac]) ?_ 4 _ rfl;(with_reducible repeat (first|refine za ?_ _|refine Ca ?_|refine ya ?_ _));refine jb (cs:=#[.int .i64 0,.int .i64 Ja,.int .i64 0,.int .i64 Pa,.int .i64 Mb,.int .i64 Cc,.string Ac]) ?_ 3 _ rfl;(with_reducible repeat (first|refine za ?_ _|refine Ca ?_|refine ya ?_ _));refine jb (cs:=#[.int .i64 0,.int .i64 Ja,.int .i64 La,.int .i64 Pa,.int .i64 Mb,.int .i64 Cc,.string Ac]) ?_ 2 _ rfl;(with_reducible repeat (first|refine za ?_ _|refine Ca ?_|refine ya ?_ _));refine jb (cs:=#[.int .i64 0,.int .i64 Ja,.int .i64 La,.int .i64 Pa,.int .i64 Mb,.int .i64 Cc,.string Ac]) ?_ 1 _ rfl;(with_reducible repeat (first|refine za ?_ _|refine Ca ?_|refine ya ?_ _));refine jb (cs:=#[.int .i64 dc,.int .i64 Ja,.int .i64 La,.int .i64 Pa,.int .i64 Mb,.int .i64 Cc,.string Ac]) ?_ 0 _ rfl;(with_reducible repeat (first|refine za ?_ _|refine Ca ?_|refine ya ?_ _));exact qa.out) hb);have Rc:=ia.mk (Ta (g:=Ga) (o:=.cells #[.int .i64 0,.int .i64 0,.int .i64 0,.int .i64 0,.int .i64 0,.int .i64 0,.string (⟨#[]⟩:ByteArray)] 70 (0,0)) (by (with_reducible repeat (first|refine za ?_ _|refine Ca ?_|refine ya ?_ _));refine Bb ?_ Va.out _;(with_reducible repeat (first|refine za ?_ _|refine Ca ?_|refine ya ?_ _));refine Bb ?_ Va.out _;(with_reducible repeat (first|refine za ?_ _|refine Ca ?_|refine ya ?_ _));refine Bb ?_ Va.out _;(with_reducible repeat (first|refine za ?_ _|refine Ca ?_|refine ya ?_ _));refine Bb ?_ Va.out _;(with_reducible repeat (first|refine za ?_ _|refine Ca ?_|refine ya ?_ _));refine Bb ?_ Va.out _;(with_reducible repeat (first|refine za ?_ _|refine Ca ?_|refine ya ?_ _));refine Bb ?_ Va.out _;(with_reducible repeat (first|refine za ?_ _|refine Ca ?_|refine ya ?_ _));refine Bb ?_ Va.out _;(with_reducible repeat (first|refine za ?_ _|refine Ca ?_|refine ya ?_ _));exact Ba.out) hb);have Ce:=ia.mk (Kept.below (S:=(fun k_=>Mn k_ ∨ Ln k_)) (by repeat (first|(with_reducible first|exact HK.out|apply Kept.alloc|apply Kept.drewN|apply Kept.drew|refine Kept.setCell ?_ (.inr De.out) _|refine Kept.setCell ?_ (.inr Tf.out) _)|exact HK.out)) hb);have Qe:=ia.mk (Ra (by repeat (first|(with_reducible first|exact HB.out|apply ta|apply ja|apply ua|refine Aa ?_ Wa.out|refine Aa ?_ Jb.out)|exact HB.out)) hb);clear bf Pe qa Ba HK HB;have bf:=Kb;have Pe:=Ub;have qa:=qc;have Ba:=Rc;have HK:=Ce;have HB:=Qe;clear Kb Ub qc Rc Ce Qe;(try clear hb);(try clear Li);(try clear hk);(try clear hi);have Xac:tu.cell? ⟨Da,0,none⟩=some (.int .i64 0):=(ga qa.out 0).trans rfl;have Wac:tu.cell? ⟨Da,1,none⟩=some (.int .i64 Ja):=(ga qa.out 1).trans rfl;have Vac:tu.cell? ⟨Da,2,none⟩=some (.int .i64 0):=(ga qa.out 2).trans rfl;have Uac:tu.cell? ⟨Da,3,none⟩=some (.int .i64 0):=(ga qa.out 3).trans rfl;have Tac:tu.cell? ⟨Da,4,none⟩=some (.int .i64 0):=(ga qa.out 4).trans rfl;have Sac:tu.cell? ⟨Da,5,none⟩=some (.int .i64 t112):=(ga qa.out 5).trans rfl;have Rac:tu.cell? ⟨Da,6,none⟩=some (.string (⟨#[]⟩:ByteArray)):=(ga qa.out 6).trans rfl;have Y_:=aa qa.out 0;have X_:=aa qa.out 1;have V_:=aa qa.out 2;have U_:=aa qa.out 3;have T_:=aa qa.out 4;have S_:=aa qa.out 5;have R_:=aa qa.out 6;have zP:tu.cell? ⟨Ga,0,none⟩=some (.int .i64 0):=(ga Ba.out 0).trans rfl;have yP:tu.cell? ⟨Ga,1,none⟩=some (.int .i64 0):=(ga Ba.out 1).trans rfl;have xP:tu.cell? ⟨Ga,2,none⟩=some (.int .i64 0):=(ga Ba.out 2).trans rfl;have wP:tu.cell? ⟨Ga,3,none⟩=some (.int .i64 0):=(ga Ba.out 3).trans rfl;have vP:tu.cell? ⟨Ga,4,none⟩=some (.int .i64 0):=(ga Ba.out 4).trans rfl;have uP:tu.cell? ⟨Ga,5,none⟩=some (.int .i64 0):=(ga Ba.out 5).trans rfl;have tP:tu.cell? ⟨Ga,6,none⟩=some (.string (⟨#[]⟩:ByteArray)):=(ga Ba.out 6).trans rfl;have bP:=aa Ba.out 0;have ZO:=aa Ba.out 1;have YO:=aa Ba.out 2;have XO:=aa Ba.out 3;have WO:=aa Ba.out 4;have VO:=aa Ba.out 5;have UO:=aa Ba.out 6))
            refine bodyPost_ret (results_cell_row rfl _ _ Ga 70 #[.int .i64 0,.int .i64 Ja,.int .i64 0,.int .i64 0,.int .i64 0,.int .i64 t112,.string (⟨#[]⟩:ByteArray)] (0,0) _ rfl (by (with_reducible repeat (first|refine za ?_ _|refine Ca ?_|refine ya ?_ _));refine jb (cs:=#[.int .i64 0,.int .i64 Ja,.int .i64 0,.int .i64 0,.int .i64 0,.int .i64 t112,.string (⟨#[]⟩:ByteArray)]) ?_ 6 _ rfl;(with_reducible repeat (first|refine za ?_ _|refine Ca ?_|refine ya ?_ _));refine jb (cs:=#[.int .i64 0,.int .i64 Ja,.int .i64 0,.int .i64 0,.int .i64 0,.int .i64 0,.string (⟨#[]⟩:ByteArray)]) ?_ 5 _ rfl;(with_reducible repeat (first|refine za ?_ _|refine Ca ?_|refine ya ?_ _));refine jb (cs:=#[.int .i64 0,.int .i64 Ja,.int .i64 0,.int .i64 0,.int .i64 0,.int .i64 0,.string (⟨#[]⟩:ByteArray)]) ?_ 4 _ rfl;(with_reducible repeat (first|refine za ?_ _|refine Ca ?_|refine ya ?_ _));refine jb (cs:=#[.int .i64 0,.int .i64 Ja,.int .i64 0,.int .i64 0,.int .i64 0,.int .i64 0,.string (⟨#[]⟩:ByteArray)]) ?_ 3 _ rfl;(with_reducible repeat (first|refine za ?_ _|refine Ca ?_|refine ya ?_ _));refine jb (cs:=#[.int .i64 0,.int .i64 Ja,.int .i64 0,.int .i64 0,.int .i64 0,.int .i64 0,.string (⟨#[]⟩:ByteArray)]) ?_ 2 _ rfl;(with_reducible repeat (first|refine za ?_ _|refine Ca ?_|refine ya ?_ _));refine jb (cs:=#[.int .i64 0,.int .i64 0,.int .i64 0,.int .i64 0,.int .i64 0,.int .i64 0,.string (⟨#[]⟩:ByteArray)]) ?_ 1 _ rfl;(with_reducible repeat (first|refine za ?_ _|refine Ca ?_|refine ya ?_ _));refine jb (cs:=#[.int .i64 0,.int .i64 0,.int .i64 0,.int .i64 0,.int .i64 0,.int .i64 0,.string (⟨#[]⟩:ByteArray)]) ?_ 0 _ rfl;(with_reducible repeat (first|refine za ?_ _|refine Ca ?_|refine ya ?_ _));exact Ba.out) Try.underlying70 rfl (by kernel_rfl)) rfl ?_;exact ⟨by first|rfl|(simp [Na,Ma] <;> rfl)|(simp [*,Na,Ma] <;> rfl),by (with_reducible repeat (first|apply Kd.Tb|apply Kd.Sb|apply Kd.fc));exact Kd.Tc (Kd.Eb (p:=⟨Ga,6,none⟩) (Kd.Eb (p:=⟨Ga,5,none⟩) (Kd.Eb (p:=⟨Ga,4,none⟩) (Kd.Eb (p:=⟨Ga,3,none⟩) (Kd.Eb (p:=⟨Ga,2,none⟩) (Kd.Eb (p:=⟨Ga,1,none⟩) (Kd.Eb (p:=⟨Ga,0,none⟩) (Kd.fe bf.out Ba.out (by decide)) (fun _ hk=>hk.2) (.int .i64 0)) (fun _ hk=>hk.2) (.int .i64 Ja)) (fun _ hk=>hk.2) (.int .i64 0)) (fun _ hk=>hk.2) (.int .i64 0)) (fun _ hk=>hk.2) (.int .i64 0)) (fun _ hk=>hk.2) (.int .i64 t112)) (fun _ hk=>hk.2) (.string (⟨#[]⟩:ByteArray))) (fun _ hk=>hk.1),by (with_reducible repeat (first|apply Kd.Tb|apply Kd.Sb|apply Kd.fc));exact Kd.Tc (Kd.Eb (p:=⟨Ga,6,none⟩) (Kd.Eb (p:=⟨Ga,5,none⟩) (Kd.Eb (p:=⟨Ga,4,none⟩) (Kd.Eb (p:=⟨Ga,3,none⟩) (Kd.Eb (p:=⟨Ga,2,none⟩) (Kd.Eb (p:=⟨Ga,1,none⟩) (Kd.Eb (p:=⟨Ga,0,none⟩) (Kd.fe Pe.out Ba.out (by decide)) (fun _ hk=>hk.2) (.int .i64 0)) (fun _ hk=>hk.2) (.int .i64 Ja)) (fun _ hk=>hk.2) (.int .i64 0)) (fun _ hk=>hk.2) (.int .i64 0)) (fun _ hk=>hk.2) (.int .i64 0)) (fun _ hk=>hk.2) (.int .i64 t112)) (fun _ hk=>hk.2) (.string (⟨#[]⟩:ByteArray))) (fun _ hk=>hk.1),by repeat (first|(with_reducible first|exact HB.out|apply ta|apply ja|apply ua|refine Aa ?_ Wa.out|refine Aa ?_ Jb.out)|exact HB.out),by repeat (first|(with_reducible first|exact HK.out|apply Kept.alloc|apply Kept.drewN|apply Kept.drew|refine Kept.setCell ?_ (.inr De.out) _|refine Kept.setCell ?_ (.inr Tf.out) _)|exact HK.out)⟩
          ·rw [if_neg c79] at H;exact absurd H (by simp)
         ·rw [if_neg c78] at H;exact absurd H (by simp)
        ·rw [if_neg c77] at H;exact absurd H (by simp)
       ·rw [if_neg c76] at H;exact absurd H (by simp)
      ·replace c75:=Bool.eq_false_iff.mpr c75;subst c75;have H1:((uf.f dc Ja La Pa Mb Cc Ac).bind fun t116=>(if t116=true then (if 0 ≤ Ja then (if Ja < (l1.length:Int) then (if Ja < (l2.length:Int) then (some (dc,Ja,La,Pa,Mb,Cc,Ac,(l1.set (Ja:Int).toNat (dc == 0)),(l2.set (Ja:Int).toNat Cc))) else (none)) else (none)) else (none)) else (some (dc,Ja,La,Pa,Mb,Cc,Ac,l1,l2))))=some (r1,r2,r3,r4,r5,r6,r7,r8,r9):=by rw [if_neg (show ¬ (false=true) by decide)] at H;exact H
       clear H;have H:=H1;clear H1;replace H:=Option.bind_eq_some_iff.mp H;obtain ⟨t116,ZY,H⟩:=H;replace H:(if t116=true then (if 0 ≤ Ja then (if Ja < (l1.length:Int) then (if Ja < (l2.length:Int) then (some (dc,Ja,La,Pa,Mb,Cc,Ac,(l1.set (Ja:Int).toNat (dc == 0)),(l2.set (Ja:Int).toNat Cc))) else (none)) else (none)) else (none)) else (some (dc,Ja,La,Pa,Mb,Cc,Ac,l1,l2)))=some (r1,r2,r3,r4,r5,r6,r7,r8,r9):=H;have iah:=ia.mk ZY;clear ZY
       by_cases pW:t116=true
       ·subst pW;have H1:(if 0 ≤ Ja then (if Ja < (l1.length:Int) then (if Ja < (l2.length:Int) then (some (dc,Ja,La,Pa,Mb,Cc,Ac,(l1.set (Ja:Int).toNat (dc == 0)),(l2.set (Ja:Int).toNat Cc))) else (none)) else (none)) else (none))=some (r1,r2,r3,r4,r5,r6,r7,r8,r9):=by rw [if_pos rfl] at H;exact H
        clear H;have H:=H1;clear H1
        by_cases oW:0 ≤ Ja
        ·rw [if_pos oW] at H;have cas:decide (0 ≤ Ja)=true:=decide_eq_true oW;clear oW
         by_cases nW:Ja < (l1.length:Int)
         ·rw [if_pos nW] at H;have bas:decide (Ja < (l1.length:Int))=true:=decide_eq_true nW;clear nW;obtain ⟨aZ,yF⟩:∃ y_:List Bool,y_=(l1.set (Ja:Int).toNat (dc == 0)):=⟨_,rfl⟩;replace H:(if Ja < (l2.length:Int) then (some (dc,Ja,La,Pa,Mb,Cc,Ac,aZ,(l2.set (Ja:Int).toNat Cc))) else (none))=some (r1,r2,r3,r4,r5,r6,r7,r8,r9):=by first|(rw [yF];with_reducible exact H)|(have lg:=(Option.bind_some _ _).symm.trans H;rw [yF];with_reducible exact lg)|(have lg:=(Option.bind_some _ _).symm.trans H;with_reducible exact lg)|with_reducible exact H|(rw [yF];exact H)|exact H
          have Uaf:=ia.mk yF;clear yF
          by_cases mW:Ja < (l2.length:Int)
          ·rw [if_pos mW] at H;have aas:decide (Ja < (l2.length:Int))=true:=decide_eq_true mW;clear mW;obtain ⟨Km,Om⟩:∃ y_:List Int,y_=(l2.set (Ja:Int).toNat Cc):=⟨_,rfl⟩;replace H:(some (dc,Ja,La,Pa,Mb,Cc,Ac,aZ,Km))=some (r1,r2,r3,r4,r5,r6,r7,r8,r9):=by first|(rw [Om];with_reducible exact H)|(have lg:=(Option.bind_some _ _).symm.trans H;rw [Om];with_reducible exact lg)|(have lg:=(Option.bind_some _ _).symm.trans H;with_reducible exact lg)|with_reducible exact H|(rw [Om];exact H)|exact H
           have DG:=ia.mk Om;clear Om;simp only [Option.some.injEq,Prod.mk.injEq] at H;obtain ⟨rfl,rfl,rfl,rfl,rfl,rfl,rfl,rfl,rfl⟩:=H;have maq:=Xa.out;have Xap:=Va.out;have vac:wc.cell? ⟨Da,0,none⟩=some (.int .i64 dc):=(ga qa.out 0).trans rfl;have uac:wc.cell? ⟨Da,1,none⟩=some (.int .i64 Ja):=(ga qa.out 1).trans rfl;have sac:wc.cell? ⟨Da,2,none⟩=some (.int .i64 La):=(ga qa.out 2).trans rfl;have rac:wc.cell? ⟨Da,3,none⟩=some (.int .i64 Pa):=(ga qa.out 3).trans rfl;have qac:wc.cell? ⟨Da,4,none⟩=some (.int .i64 Mb):=(ga qa.out 4).trans rfl;have pac:wc.cell? ⟨Da,5,none⟩=some (.int .i64 Cc):=(ga qa.out 5).trans rfl;have oac:wc.cell? ⟨Da,6,none⟩=some (.string Ac):=(ga qa.out 6).trans rfl;have t_:=aa qa.out 0;have r_:=aa qa.out 1;have q_:=aa qa.out 2;have p_:=aa qa.out 3;have o_:=aa qa.out 4;have l_:=aa qa.out 5;have j_:=aa qa.out 6;go_wp2_with (first|((with_reducible refine qb (f:=100) rfl ?_);refine Qc (some 61) rfl rfl Try.func100 (by kernel_rfl) rfl #[.agg #[.int .i64 dc,.int .i64 Ja,.int .i64 La,.int .i64 Pa,.int .i64 Mb,.int .i64 Cc,.string Ac]] rfl (by (try simp only [List.map_toArray,List.map_cons,List.map_nil]);first|done|rfl|(simp only [List.length_drop,List.length_take];rfl)) ?_;(with_reducible refine (uf.calls dc Ja La Pa Mb Cc Ac true _ iah.out).mono ?_);rintro e ZB ⟨rfl,hb⟩;refine ⟨_,rfl,?_⟩;have Kb:=ia.mk (Kd.Dc (by (with_reducible repeat (first|apply Kd.Tb|apply Kd.Sb|apply Kd.fc));exact bf.out) hb);have Ub:=ia.mk (Kd.Dc (by (with_reducible repeat (first|apply Kd.Tb|apply Kd.Sb|apply Kd.fc));exact Pe.out) hb);have qc:=ia.mk (Ta (g:=Da) (o:=.cells #[.int .i64 dc,.int .i64 Ja,.int .i64 La,.int .i64 Pa,.int .i64 Mb,.int .i64 Cc,.string Ac] 70 (0,0)) (by (with_reducible repeat (first|refine za ?_ _|refine Ca ?_|refine ya ?_ _));exact qa.out) hb);have Rc:=ia.mk (Ta (g:=Ga) (o:=.cells #[.int .i64 0,.int .i64 0,.int .i64 0,.int .i64 0,.int .i64 0,.int .i64 0,.string (⟨#[]⟩:ByteArray)] 70 (0,0)) (by (with_reducible repeat (first|refine za ?_ _|refine Ca ?_|refine ya ?_ _));exact Ba.out) hb);have Ce:=ia.mk (Kept.below (S:=(fun k_=>Mn k_ ∨ Ln k_)) (by repeat (first|(with_reducible first|exact HK.out|apply Kept.alloc|apply Kept.drewN|apply Kept.drew|refine Kept.setCell ?_ (.inr De.out) _|refine Kept.setCell ?_ (.inr Tf.out) _)|exact HK.out)) hb);have Qe:=ia.mk (Ra (by repeat (first|(with_reducible first|exact HB.out|apply ta|apply ja|apply ua|refine Aa ?_ Wa.out|refine Aa ?_ Jb.out)|exact HB.out)) hb);clear bf Pe qa Ba HK HB;have bf:=Kb;have Pe:=Ub;have qa:=qc;have Ba:=Rc;have HK:=Ce;have HB:=Qe;clear Kb Ub qc Rc Ce Qe;(try clear hb);(try clear Li);(try clear hk);(try clear hi);have nac:ZB.cell? ⟨Da,0,none⟩=some (.int .i64 dc):=(ga qa.out 0).trans rfl;have mac:ZB.cell? ⟨Da,1,none⟩=some (.int .i64 Ja):=(ga qa.out 1).trans rfl;have lac:ZB.cell? ⟨Da,2,none⟩=some (.int .i64 La):=(ga qa.out 2).trans rfl;have kac:ZB.cell? ⟨Da,3,none⟩=some (.int .i64 Pa):=(ga qa.out 3).trans rfl;have jac:ZB.cell? ⟨Da,4,none⟩=some (.int .i64 Mb):=(ga qa.out 4).trans rfl;have iac:ZB.cell? ⟨Da,5,none⟩=some (.int .i64 Cc):=(ga qa.out 5).trans rfl;have gac:ZB.cell? ⟨Da,6,none⟩=some (.string Ac):=(ga qa.out 6).trans rfl;have i_:=aa qa.out 0;have g_:=aa qa.out 1;have f_:=aa qa.out 2;have d_:=aa qa.out 3;have Y9:=aa qa.out 4;have X9:=aa qa.out 5;have V9:=aa qa.out 6;have qZ:0 ≤ (Ja:Int):=of_decide_eq_true (by first|(with_reducible assumption)|assumption);have nZ:(Ja:Int) < ((l1.length:Int):Int):=of_decide_eq_true (by first|(with_reducible assumption)|assumption);obtain ⟨xA,MX,JX,FX,Cae,hax,UY⟩:=Kd.Kn bf.out (by omega);(first|cases JX|(injection JX with ei jq lq;(first|subst ei|(injection ei with ei;subst ei));subst lq;clear jq));have Pag:=ia.mk FX;have Tax:=ia.mk UY;clear FX Cae UY;have Iao:=ia.mk (show ((Mn xA ∨ Ln xA) ∨ w.heap.size ≤ xA) from (bf.out.1 _ rfl));obtain ⟨pah,ial⟩:=Kd.yj false bf.out (Ja:Int) qZ nZ;replace qZ:=eq_true qZ;replace nZ:=eq_true nZ;obtain ⟨Fap,Aap⟩:=Kd.yj false bf.out (Ja:Int) (of_decide_eq_true (by first|(with_reducible assumption)|assumption)) (of_decide_eq_true (by first|(with_reducible assumption)|assumption));have YR:=Kd.Pq bf.out (Ja:Int) (dc == 0))|((with_reducible refine Hf (t:=4) (p:=68) rfl ?_);refine gf (t:=4) (p:=68) (v:=?kah) (w1:=(ZB.setCell ⟨xA,(Ja:Int).toNat,none⟩ (.bool (dc == 0)))) ?hg ?ho ?hn ?hr ?_;(case ho=>rfl);(case hg=>rfl);(case hn=>rfl);(case hr=>first|(go_simp;done)|(go_simp;rfl));intro Zx hw;have hg:ZB.grownBy Zx (some xA):=(by rw [hw];exact YR.2);have jn:Kd.R Kd.bool 4 Zx w0.heap.size (fun k_=>((Mn k_ ∨ Ln k_) ∨ w.heap.size ≤ k_)) (.slice (some ⟨xA,0,none⟩) l1.length MX) aZ:=(by rw [hw,Uaf.out];exact YR.1);clear YR;have Kb:=ia.mk (jn);have Ub:=ia.mk (Kd.Gm (v:=(.slice (some ⟨xA,0,none⟩) l1.length MX)) (by (with_reducible repeat (first|apply Kd.Tb|apply Kd.Sb|apply Kd.fc));exact Pe.out) (Kd.Dn bf.out) (by decide) hg);have qc:=ia.mk (Oc (g:=Da) (o:=.cells #[.int .i64 dc,.int .i64 Ja,.int .i64 La,.int .i64 Pa,.int .i64 Mb,.int .i64 Cc,.string Ac] 70 (0,0)) (by (with_reducible repeat (first|refine za ?_ _|refine Ca ?_|refine ya ?_ _));exact qa.out) hg (Kd.Ol bf.out qa.out (by decide)));have Rc:=ia.mk (Oc (g:=Ga) (o:=.cells #[.int .i64 0,.int .i64 0,.int .i64 0,.int .i64 0,.int .i64 0,.int .i64 0,.string (⟨#[]⟩:ByteArray)] 70 (0,0)) (by (with_reducible repeat (first|refine za ?_ _|refine Ca ?_|refine ya ?_ _));exact Ba.out) hg (Kd.Ol bf.out Ba.out (by decide)));have Ce:=ia.mk ((by rw [hw];exact Aa (HB.out) Pag.out:Below w0.heap.size w0 Zx));have Qe:=ia.mk (Kept.Pg (S:=(fun k_=>Mn k_ ∨ Ln k_)) hg (by repeat (first|(with_reducible first|exact HK.out|apply Kept.alloc|apply Kept.drewN|apply Kept.drew|refine Kept.setCell ?_ (.inr De.out) _|refine Kept.setCell ?_ (.inr Tf.out) _)|exact HK.out)) (fun k_ e_=>(bf.out.1 k_ e_)));clear bf Pe qa Ba HB HK;have bf:=Kb;have Pe:=Ub;have qa:=qc;have Ba:=Rc;have HB:=Ce;have HK:=Qe;clear Kb Ub qc Rc Ce Qe hg hw jn;have fac:Zx.cell? ⟨Da,0,none⟩=some (.int .i64 dc):=(ga qa.out 0).trans rfl;have eac:Zx.cell? ⟨Da,1,none⟩=some (.int .i64 Ja):=(ga qa.out 1).trans rfl;have dac:Zx.cell? ⟨Da,2,none⟩=some (.int .i64 La):=(ga qa.out 2).trans rfl;have cac:Zx.cell? ⟨Da,3,none⟩=some (.int .i64 Pa):=(ga qa.out 3).trans rfl;have bac:Zx.cell? ⟨Da,4,none⟩=some (.int .i64 Mb):=(ga qa.out 4).trans rfl;have aac:Zx.cell? ⟨Da,5,none⟩=some (.int .i64 Cc):=(ga qa.out 5).trans rfl;have Zab:Zx.cell? ⟨Da,6,none⟩=some (.string Ac):=(ga qa.out 6).trans rfl;have U9:=aa qa.out 0;have T9:=aa qa.out 1;have S9:=aa qa.out 2;have R9:=aa qa.out 3;have Q9:=aa qa.out 4;have P9:=aa qa.out 5;have O9:=aa qa.out 6;have pZ:0 ≤ (Ja:Int):=of_decide_eq_true (by first|(with_reducible assumption)|assumption);have mZ:(Ja:Int) < ((l2.length:Int):Int):=of_decide_eq_true (by first|(with_reducible assumption)|assumption);obtain ⟨wA,LX,IX,EX,Bae,gax,SY⟩:=Kd.Kn Pe.out (by omega);(first|cases IX|(injection IX with ei jq lq;(first|subst ei|(injection ei with ei;subst ei));subst lq;clear jq));have Oag:=ia.mk EX;have Sax:=ia.mk SY;clear EX Bae SY;have Hao:=ia.mk (show ((Mn wA ∨ Ln wA) ∨ w.heap.size ≤ wA) from (Pe.out.1 _ rfl));obtain ⟨oah,hal⟩:=Kd.yj 0 Pe.out (Ja:Int) pZ mZ;replace pZ:=eq_true pZ;replace mZ:=eq_true mZ;obtain ⟨Eap,zap⟩:=Kd.yj 0 Pe.out (Ja:Int) (of_decide_eq_true (by first|(with_reducible assumption)|assumption)) (of_decide_eq_true (by first|(with_reducible assumption)|assumption));have XR:=Kd.Pq Pe.out (Ja:Int) Cc)|((with_reducible refine Hf (t:=3) (p:=74) rfl ?_);refine gf (t:=3) (p:=74) (v:=?jah) (w1:=(Zx.setCell ⟨wA,(Ja:Int).toNat,none⟩ (.int .i64 Cc))) ?hg ?ho ?hn ?hr ?_;(case ho=>rfl);(case hg=>rfl);(case hn=>rfl);(case hr=>first|(go_simp;done)|(go_simp;rfl));intro Cq hw;have hg:Zx.grownBy Cq (some wA):=(by rw [hw];exact XR.2);have jn:Kd.R (Kd.int .i64) 3 Cq w0.heap.size (fun k_=>((Mn k_ ∨ Ln k_) ∨ w.heap.size ≤ k_)) (.slice (some ⟨wA,0,none⟩) l2.length LX) Km:=(by rw [hw,DG.out];exact XR.1);clear XR;have Kb:=ia.mk (Kd.Gm (v:=(.slice (some ⟨wA,0,none⟩) l2.length LX)) (by (with_reducible repeat (first|apply Kd.Tb|apply Kd.Sb|apply Kd.fc));exact bf.out) (Kd.Dn Pe.out) (by decide) hg);have Ub:=ia.mk (jn);have qc:=ia.mk (Oc (g:=Da) (o:=.cells #[.int .i64 dc,.int .i64 Ja,.int .i64 La,.int .i64 Pa,.int .i64 Mb,.int .i64 Cc,.string Ac] 70 (0,0)) (by (with_reducible repeat (first|refine za ?_ _|refine Ca ?_|refine ya ?_ _));exact qa.out) hg (Kd.Ol Pe.out qa.out (by decide)));have Rc:=ia.mk (Oc (g:=Ga) (o:=.cells #[.int .i64 0,.int .i64 0,.int .i64 0,.int .i64 0,.int .i64 0,.int .i64 0,.string (⟨#[]⟩:ByteArray)] 70 (0,0)) (by (with_reducible repeat (first|refine za ?_ _|refine Ca ?_|refine ya ?_ _));exact Ba.out) hg (Kd.Ol Pe.out Ba.out (by decide)));have Ce:=ia.mk ((by rw [hw];exact Aa (HB.out) Oag.out:Below w0.heap.size w0 Cq));have Qe:=ia.mk (Kept.Pg (S:=(fun k_=>Mn k_ ∨ Ln k_)) hg (by repeat (first|(with_reducible first|exact HK.out|apply Kept.alloc|apply Kept.drewN|apply Kept.drew|refine Kept.setCell ?_ (.inr De.out) _|refine Kept.setCell ?_ (.inr Tf.out) _)|exact HK.out)) (fun k_ e_=>(Pe.out.1 k_ e_)));clear bf Pe qa Ba HB HK;have bf:=Kb;have Pe:=Ub;have qa:=qc;have Ba:=Rc;have HB:=Ce;have HK:=Qe;clear Kb Ub qc Rc Ce Qe hg hw jn;have Yab:Cq.cell? ⟨Da,0,none⟩=some (.int .i64 dc):=(ga qa.out 0).trans rfl;have Xab:Cq.cell? ⟨Da,1,none⟩=some (.int .i64 Ja):=(ga qa.out 1).trans rfl;have Wab:Cq.cell? ⟨Da,2,none⟩=some (.int .i64 La):=(ga qa.out 2).trans rfl;have Vab:Cq.cell? ⟨Da,3,none⟩=some (.int .i64 Pa):=(ga qa.out 3).trans rfl;have Uab:Cq.cell? ⟨Da,4,none⟩=some (.int .i64 Mb):=(ga qa.out 4).trans rfl;have Tab:Cq.cell? ⟨Da,5,none⟩=some (.int .i64 Cc):=(ga qa.out 5).trans rfl;have Sab:Cq.cell? ⟨Da,6,none⟩=some (.string Ac):=(ga qa.out 6).trans rfl;have N9:=aa qa.out 0;have M9:=aa qa.out 1;have L9:=aa qa.out 2;have K9:=aa qa.out 3;have J9:=aa qa.out 4;have I9:=aa qa.out 5;have H9:=aa qa.out 6;have Rab:Cq.cell? ⟨Ga,0,none⟩=some (.int .i64 0):=(ga Ba.out 0).trans rfl;have Qab:Cq.cell? ⟨Ga,1,none⟩=some (.int .i64 0):=(ga Ba.out 1).trans rfl;have Pab:Cq.cell? ⟨Ga,2,none⟩=some (.int .i64 0):=(ga Ba.out 2).trans rfl;have Oab:Cq.cell? ⟨Ga,3,none⟩=some (.int .i64 0):=(ga Ba.out 3).trans rfl;have Nab:Cq.cell? ⟨Ga,4,none⟩=some (.int .i64 0):=(ga Ba.out 4).trans rfl;have Mab:Cq.cell? ⟨Ga,5,none⟩=some (.int .i64 0):=(ga Ba.out 5).trans rfl;have Lab:Cq.cell? ⟨Ga,6,none⟩=some (.string (⟨#[]⟩:ByteArray)):=(ga Ba.out 6).trans rfl;have G9:=aa Ba.out 0;have F9:=aa Ba.out 1;have E9:=aa Ba.out 2;have D9:=aa Ba.out 3;have C9:=aa Ba.out 4;have B9:=aa Ba.out 5;have A9:=aa Ba.out 6));refine bodyPost_ret (results_cell_row rfl _ _ Ga 70 #[.int .i64 dc,.int .i64 Ja,.int .i64 La,.int .i64 Pa,.int .i64 Mb,.int .i64 Cc,.string Ac] (0,0) _ rfl (by (with_reducible repeat (first|refine za ?_ _|refine Ca ?_|refine ya ?_ _));refine jb (cs:=#[.int .i64 dc,.int .i64 Ja,.int .i64 La,.int .i64 Pa,.int .i64 Mb,.int .i64 Cc,.string (⟨#[]⟩:ByteArray)]) ?_ 6 _ rfl;(with_reducible repeat (first|refine za ?_ _|refine Ca ?_|refine ya ?_ _));refine jb (cs:=#[.int .i64 dc,.int .i64 Ja,.int .i64 La,.int .i64 Pa,.int .i64 Mb,.int .i64 0,.string (⟨#[]⟩:ByteArray)]) ?_ 5 _ rfl;(with_reducible repeat (first|refine za ?_ _|refine Ca ?_|refine ya ?_ _));refine jb (cs:=#[.int .i64 dc,.int .i64 Ja,.int .i64 La,.int .i64 Pa,.int .i64 0,.int .i64 0,.string (⟨#[]⟩:ByteArray)]) ?_ 4 _ rfl;(with_reducible repeat (first|refine za ?_ _|refine Ca ?_|refine ya ?_ _));refine jb (cs:=#[.int .i64 dc,.int .i64 Ja,.int .i64 La,.int .i64 0,.int .i64 0,.int .i64 0,.string (⟨#[]⟩:ByteArray)]) ?_ 3 _ rfl;(with_reducible repeat (first|refine za ?_ _|refine Ca ?_|refine ya ?_ _));refine jb (cs:=#[.int .i64 dc,.int .i64 Ja,.int .i64 0,.int .i64 0,.int .i64 0,.int .i64 0,.string (⟨#[]⟩:ByteArray)]) ?_ 2 _ rfl;(with_reducible repeat (first|refine za ?_ _|refine Ca ?_|refine ya ?_ _));refine jb (cs:=#[.int .i64 dc,.int .i64 0,.int .i64 0,.int .i64 0,.int .i64 0,.int .i64 0,.string (⟨#[]⟩:ByteArray)]) ?_ 1 _ rfl;(with_reducible repeat (first|refine za ?_ _|refine Ca ?_|refine ya ?_ _));refine jb (cs:=#[.int .i64 0,.int .i64 0,.int .i64 0,.int .i64 0,.int .i64 0,.int .i64 0,.string (⟨#[]⟩:ByteArray)]) ?_ 0 _ rfl;(with_reducible repeat (first|refine za ?_ _|refine Ca ?_|refine ya ?_ _));exact Ba.out) Try.underlying70 rfl (by kernel_rfl)) rfl ?_;exact ⟨by first|rfl|(simp [Na,Ma] <;> rfl)|(simp [*,Na,Ma] <;> rfl),by (with_reducible repeat (first|apply Kd.Tb|apply Kd.Sb|apply Kd.fc));exact Kd.Tc (Kd.Eb (p:=⟨Ga,6,none⟩) (Kd.Eb (p:=⟨Ga,5,none⟩) (Kd.Eb (p:=⟨Ga,4,none⟩) (Kd.Eb (p:=⟨Ga,3,none⟩) (Kd.Eb (p:=⟨Ga,2,none⟩) (Kd.Eb (p:=⟨Ga,1,none⟩) (Kd.Eb (p:=⟨Ga,0,none⟩) (Kd.fe bf.out Ba.out (by decide)) (fun _ hk=>hk.2) (.int .i64 dc)) (fun _ hk=>hk.2) (.int .i64 Ja)) (fun _ hk=>hk.2) (.int .i64 La)) (fun _ hk=>hk.2) (.int .i64 Pa)) (fun _ hk=>hk.2) (.int .i64 Mb)) (fun _ hk=>hk.2) (.int .i64 Cc)) (fun _ hk=>hk.2) (.string Ac)) (fun _ hk=>hk.1),by (with_reducible repeat (first|apply Kd.Tb|apply Kd.Sb|apply Kd.fc));exact Kd.Tc (Kd.Eb (p:=⟨Ga,6,none⟩) (Kd.Eb (p:=⟨Ga,5,none⟩) (Kd.Eb (p:=⟨Ga,4,none⟩) (Kd.Eb (p:=⟨Ga,3,none⟩) (Kd.Eb (p:=⟨Ga,2,none⟩) (Kd.Eb (p:=⟨Ga,1,none⟩) (Kd.Eb (p:=⟨Ga,0,none⟩) (Kd.fe Pe.out Ba.out (by decide)) (fun _ hk=>hk.2) (.int .i64 dc)) (fun _ hk=>hk.2) (.int .i64 Ja)) (fun _ hk=>hk.2) (.int .i64 La)) (fun _ hk=>hk.2) (.int .i64 Pa)) (fun _ hk=>hk.2) (.int .i64 Mb)) (fun _ hk=>hk.2) (.int .i64 Cc)) (fun _ hk=>hk.2) (.string Ac)) (fun _ hk=>hk.1),by repeat (first|(with_reducible first|exact HB.out|apply ta|apply ja|apply ua|refine Aa ?_ Wa.out|refine Aa ?_ Jb.out)|exact HB.out),by repeat (first|(with_reducible first|exact HK.out|apply Kept.alloc|apply Kept.drewN|apply Kept.drew|refine Kept.setCell ?_ (.inr De.out) _|refine Kept.setCell ?_ (.inr Tf.out) _)|exact HK.out)⟩
          ·rw [if_neg mW] at H;exact absurd H (by simp)
         ·rw [if_neg nW] at H;exact absurd H (by simp)
        ·rw [if_neg oW] at H;exact absurd H (by simp)
       ·replace pW:=Bool.eq_false_iff.mpr pW;subst pW;have H1:(some (dc,Ja,La,Pa,Mb,Cc,Ac,l1,l2))=some (r1,r2,r3,r4,r5,r6,r7,r8,r9):=by rw [if_neg (show ¬ (false=true) by decide)] at H;exact H
        clear H;have H:=H1;clear H1;simp only [Option.some.injEq,Prod.mk.injEq] at H;obtain ⟨rfl,rfl,rfl,rfl,rfl,rfl,rfl,rfl,rfl⟩:=H;have laq:=Xa.out;have Wap:=Va.out;have Kab:wc.cell? ⟨Da,0,none⟩=some (.int .i64 dc):=(ga qa.out 0).trans rfl;have Jab:wc.cell? ⟨Da,1,none⟩=some (.int .i64 Ja):=(ga qa.out 1).trans rfl;have Iab:wc.cell? ⟨Da,2,none⟩=some (.int .i64 La):=(ga qa.out 2).trans rfl;have Hab:wc.cell? ⟨Da,3,none⟩=some (.int .i64 Pa):=(ga qa.out 3).trans rfl;have Gab:wc.cell? ⟨Da,4,none⟩=some (.int .i64 Mb):=(ga qa.out 4).trans rfl;have Fab:wc.cell? ⟨Da,5,none⟩=some (.int .i64 Cc):=(ga qa.out 5).trans rfl;have Eab:wc.cell? ⟨Da,6,none⟩=some (.string Ac):=(ga qa.out 6).trans rfl;have z9:=aa qa.out 0;have y9:=aa qa.out 1;have x9:=aa qa.out 2;have v9:=aa qa.out 3;have u9:=aa qa.out 4;have o9:=aa qa.out 5;have n9:=aa qa.out 6;go_wp2_with (first|((with_reducible refine qb (f:=100) rfl ?_);refine Qc (some 61) rfl rfl Try.func100 (by kernel_rfl) rfl #[.agg #[.int .i64 dc,.int .i64 Ja,.int .i64 La,.int .i64 Pa,.int .i64 Mb,.int .i64 Cc,.string Ac]] rfl (by (try simp only [List.map_toArray,List.map_cons,List.map_nil]);first|done|rfl|(simp only [List.length_drop,List.length_take];rfl)) ?_;(with_reducible refine (uf.calls dc Ja La Pa Mb Cc Ac false _ iah.out).mono ?_);rintro e su ⟨rfl,hb⟩;refine ⟨_,rfl,?_⟩;have Kb:=ia.mk (Kd.Dc (by (with_reducible repeat (first|apply Kd.Tb|apply Kd.Sb|apply Kd.fc));exact bf.out) hb);have Ub:=ia.mk (Kd.Dc (by (with_reducible repeat (first|apply Kd.Tb|apply Kd.Sb|apply Kd.fc));exact Pe.out) hb);have qc:=ia.mk (Ta (g:=Da) (o:=.cells #[.int .i64 dc,.int .i64 Ja,.int .i64 La,.int .i64 Pa,.int .i64 Mb,.int .i64 Cc,.string Ac] 70 (0,0)) (by (with_reducible repeat (first|refine za ?_ _|refine Ca ?_|refine ya ?_ _));exact qa.out) hb);have Rc:=ia.mk (Ta (g:=Ga) (o:=.cells #[.int .i64 0,.int .i64 0,.int .i64 0,.int .i64 0,.int .i64 0,.int .i64 0,.string (⟨#[]⟩:ByteArray)] 70 (0,0)) (by (with_reducible repeat (first|refine za ?_ _|refine Ca ?_|refine ya ?_ _));exact Ba.out) hb);have Ce:=ia.mk (Kept.below (S:=(fun k_=>Mn k_ ∨ Ln k_)) (by repeat (first|(with_reducible first|exact HK.out|apply Kept.alloc|apply Kept.drewN|apply Kept.drew|refine Kept.setCell ?_ (.inr De.out) _|refine Kept.setCell ?_ (.inr Tf.out) _)|exact HK.out)) hb);have Qe:=ia.mk (Ra (by repeat (first|(with_reducible first|exact HB.out|apply ta|apply ja|apply ua|refine Aa ?_ Wa.out|refine Aa ?_ Jb.out)|exact HB.out)) hb);clear bf Pe qa Ba HK HB;have bf:=Kb;have Pe:=Ub;have qa:=qc;have Ba:=Rc;have HK:=Ce;have HB:=Qe;clear Kb Ub qc Rc Ce Qe;(try clear hb);(try clear Li);(try clear hk);(try clear hi);have Dab:su.cell? ⟨Da,0,none⟩=some (.int .i64 dc):=(ga qa.out 0).trans rfl;have Cab:su.cell? ⟨Da,1,none⟩=some (.int .i64 Ja):=(ga qa.out 1).trans rfl;have Bab:su.cell? ⟨Da,2,none⟩=some (.int .i64 La):=(ga qa.out 2).trans rfl;have Aab:su.cell? ⟨Da,3,none⟩=some (.int .i64 Pa):=(ga qa.out 3).trans rfl;have zab:su.cell? ⟨Da,4,none⟩=some (.int .i64 Mb):=(ga qa.out 4).trans rfl;have yab:su.cell? ⟨Da,5,none⟩=some (.int .i64 Cc):=(ga qa.out 5).trans rfl;have xab:su.cell? ⟨Da,6,none⟩=some (.string Ac):=(ga qa.out 6).trans rfl;have m9:=aa qa.out 0;have l9:=aa qa.out 1;have k9:=aa qa.out 2;have j9:=aa qa.out 3;have g9:=aa qa.out 4;have e9:=aa qa.out 5;have b9:=aa qa.out 6;have wab:su.cell? ⟨Ga,0,none⟩=some (.int .i64 0):=(ga Ba.out 0).trans rfl;have vab:su.cell? ⟨Ga,1,none⟩=some (.int .i64 0):=(ga Ba.out 1).trans rfl;have uab:su.cell? ⟨Ga,2,none⟩=some (.int .i64 0):=(ga Ba.out 2).trans rfl;have sab:su.cell? ⟨Ga,3,none⟩=some (.int .i64 0):=(ga Ba.out 3).trans rfl;have rab:su.cell? ⟨Ga,4,none⟩=some (.int .i64 0):=(ga Ba.out 4).trans rfl;have qab:su.cell? ⟨Ga,5,none⟩=some (.int .i64 0):=(ga Ba.out 5).trans rfl;have pab:su.cell? ⟨Ga,6,none⟩=some (.string (⟨#[]⟩:ByteArray)):=(ga Ba.out 6).trans rfl;have Z8:=aa Ba.out 0;have Y8:=aa Ba.out 1;have X8:=aa Ba.out 2;have W8:=aa Ba.out 3;have V8:=aa Ba.out 4;have U8:=aa Ba.out 5;have T8:=aa Ba.out 6));refine bodyPost_ret (results_cell_row rfl _ _ Ga 70 #[.int .i64 dc,.int .i64 Ja,.int .i64 La,.int .i64 Pa,.int .i64 Mb,.int .i64 Cc,.string Ac] (0,0) _ rfl (by (with_reducible repeat (first|refine za ?_ _|refine Ca ?_|refine ya ?_ _));refine jb (cs:=#[.int .i64 dc,.int .i64 Ja,.int .i64 La,.int .i64 Pa,.int .i64 Mb,.int .i64 Cc,.string (⟨#[]⟩:ByteArray)]) ?_ 6 _ rfl;(with_reducible repeat (first|refine za ?_ _|refine Ca ?_|refine ya ?_ _));refine jb (cs:=#[.int .i64 dc,.int .i64 Ja,.int .i64 La,.int .i64 Pa,.int .i64 Mb,.int .i64 0,.string (⟨#[]⟩:ByteArray)]) ?_ 5 _ rfl;(with_reducible repeat (first|refine za ?_ _|refine Ca ?_|refine ya ?_ _));refine jb (cs:=#[.int .i64 dc,.int .i64 Ja,.int .i64 La,.int .i64 Pa,.int .i64 0,.int .i64 0,.string (⟨#[]⟩:ByteArray)]) ?_ 4 _ rfl;(with_reducible repeat (first|refine za ?_ _|refine Ca ?_|refine ya ?_ _));refine jb (cs:=#[.int .i64 dc,.int .i64 Ja,.int .i64 La,.int .i64 0,.int .i64 0,.int .i64 0,.string (⟨#[]⟩:ByteArray)]) ?_ 3 _ rfl;(with_reducible repeat (first|refine za ?_ _|refine Ca ?_|refine ya ?_ _));refine jb (cs:=#[.int .i64 dc,.int .i64 Ja,.int .i64 0,.int .i64 0,.int .i64 0,.int .i64 0,.string (⟨#[]⟩:ByteArray)]) ?_ 2 _ rfl;(with_reducible repeat (first|refine za ?_ _|refine Ca ?_|refine ya ?_ _));refine jb (cs:=#[.int .i64 dc,.int .i64 0,.int .i64 0,.int .i64 0,.int .i64 0,.int .i64 0,.string (⟨#[]⟩:ByteArray)]) ?_ 1 _ rfl;(with_reducible repeat (first|refine za ?_ _|refine Ca ?_|refine ya ?_ _));refine jb (cs:=#[.int .i64 0,.int .i64 0,.int .i64 0,.int .i64 0,.int .i64 0,.int .i64 0,.string (⟨#[]⟩:ByteArray)]) ?_ 0 _ rfl;(with_reducible repeat (first|refine za ?_ _|refine Ca ?_|refine ya ?_ _));exact Ba.out) Try.underlying70 rfl (by kernel_rfl)) rfl ?_;exact ⟨by first|rfl|(simp [Na,Ma] <;> rfl)|(simp [*,Na,Ma] <;> rfl),by (with_reducible repeat (first|apply Kd.Tb|apply Kd.Sb|apply Kd.fc));exact Kd.Tc (Kd.Eb (p:=⟨Ga,6,none⟩) (Kd.Eb (p:=⟨Ga,5,none⟩) (Kd.Eb (p:=⟨Ga,4,none⟩) (Kd.Eb (p:=⟨Ga,3,none⟩) (Kd.Eb (p:=⟨Ga,2,none⟩) (Kd.Eb (p:=⟨Ga,1,none⟩) (Kd.Eb (p:=⟨Ga,0,none⟩) (Kd.fe bf.out Ba.out (by decide)) (fun _ hk=>hk.2) (.int .i64 dc)) (fun _ hk=>hk.2) (.int .i64 Ja)) (fun _ hk=>hk.2) (.int .i64 La)) (fun _ hk=>hk.2) (.int .i64 Pa)) (fun _ hk=>hk.2) (.int .i64 Mb)) (fun _ hk=>hk.2) (.int .i64 Cc)) (fun _ hk=>hk.2) (.string Ac)) (fun _ hk=>hk.1),by (with_reducible repeat (first|apply Kd.Tb|apply Kd.Sb|apply Kd.fc));exact Kd.Tc (Kd.Eb (p:=⟨Ga,6,none⟩) (Kd.Eb (p:=⟨Ga,5,none⟩) (Kd.Eb (p:=⟨Ga,4,none⟩) (Kd.Eb (p:=⟨Ga,3,none⟩) (Kd.Eb (p:=⟨Ga,2,none⟩) (Kd.Eb (p:=⟨Ga,1,none⟩) (Kd.Eb (p:=⟨Ga,0,none⟩) (Kd.fe Pe.out Ba.out (by decide)) (fun _ hk=>hk.2) (.int .i64 dc)) (fun _ hk=>hk.2) (.int .i64 Ja)) (fun _ hk=>hk.2) (.int .i64 La)) (fun _ hk=>hk.2) (.int .i64 Pa)) (fun _ hk=>hk.2) (.int .i64 Mb)) (fun _ hk=>hk.2) (.int .i64 Cc)) (fun _ hk=>hk.2) (.string Ac)) (fun _ hk=>hk.1),by repeat (first|(with_reducible first|exact HB.out|apply ta|apply ja|apply ua|refine Aa ?_ Wa.out|refine Aa ?_ Jb.out)|exact HB.out),by repeat (first|(with_reducible first|exact HK.out|apply Kept.alloc|apply Kept.drewN|apply Kept.drew|refine Kept.setCell ?_ (.inr De.out) _|refine Kept.setCell ?_ (.inr Tf.out) _)|exact HK.out)⟩
end Go.Proofs.Ytmifdccaajngcaa.P
