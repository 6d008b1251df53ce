import Derived.Test.YtmifdccaajngcaaQFold1
import Derived.Test.YtmifdccaajngcaaQFold6
import Derived.Test.YtmifdccaajngcaaQFold5
set_option maxHeartbeats 8000000
set_option maxRecDepth 100000
section
namespace Go.Proofs.Ytmifdccaajngcaa.P
open Go.RowKit Go.Proofs.Ka.Rb Go.Proofs.Ka.Vd Go.Proofs.Ka.ef
set_option linter.unusedVariables false
set_option linter.unusedSimpArgs false
attribute [local go_sem] Ph Nh Oi Ni gh fh Oh Mh
def tc.l0:Nat→Int→List Int→Int→Int→Int→List (lf)→List (ue)→Int→Int→Int→Int→Option (Bool)
 | 0,_,_,_,_,_,_,_,_,_,_,_=>none
 | k + 1,x5,we,ud,Dd,Xd,yd,yg,Lj,xk,cj,aj=>if x5 < (yg.length:Int) then (if 0 ≤ x5 then ((mb.f k we ud Dd Xd yd ((Ia yg x5).f0) ((Ia yg x5).f1) ((Ia yg x5).f2) ((Ia yg x5).f3) ((Ia yg x5).f4) ((Ia yg x5).f5) ((Ia yg x5).f6)).bind fun t104=>(if t104=true then (tc.l0 k (wrap64 (x5 + 1)) we ud Dd Xd yd yg Lj xk cj aj) else (some false))) else (none)) else ((Za.f cj 0 (wrap64 ((yd.length:Int) - 1))).bind fun t105=>((Za.f xk 0 (wrap64 (Xd - 1))).bind fun t106=>(if Lj=0 then (if t105=true then (if xk=0 then (some (aj == 0)) else (some false)) else (some false)) else (if Lj=1 then (if t105=true then (if t106=true then ((Za.f aj 0 (wrap64 ((yd.length:Int) - 1))).bind fun t107=>(some t107)) else (some false)) else (some false)) else (if Lj=2 then (if t106=true then (if cj=0 then (some (aj == 0)) else (some false)) else (some false)) else (some false))))))
def tc.f (k:Nat) (Ua:List Int) (Ja:Int) (La:Int) (Pa:Int) (Qa:List (lf)) (Vc:List (ue)) (Wb:Int) (Ob:Int) (Qb:Int) (Bc:Int):Option (Bool):=tc.l0 k 0 Ua Ja La Pa Qa Vc Wb Ob Qb Bc
def tc.T4:Bool × List (List Nat × List Nat):=(true,[([],[]),([],[]),([1],[1]),([],[]),([2,3],[2,3]),([4],[4]),([0,5],[0,5]),([6],[6])])
def tc.B4:List Nat:=[0,0,2,0,14,30,63,127]
theorem tc.NN:Ll .any (opsOf Try.f87 4)=tc.T4:=by kernel_rfl
theorem tc.uG:Qk tc.T4.2 tc.B4=true:=by kernel_rfl
theorem tc.calls (k:Nat) (zb:Option Addr) (yb:Nat) (Ua:List Int) (Ja:Int) (La:Int) (Pa:Int) (Yb:Option Addr) (Nb:Nat) (Qa:List (lf)) (Vf:Option Addr) (Jf:Nat) (Vc:List (ue)) (Wb:Int) (Ob:Int) (Qb:Int) (Bc:Int) (r:Bool) (w:World) (Pf:Kd.C (Kd.int .i64) w zb Ua.length Ua) (Lf:Ua.length ≤ yb) (Ng:Kd.C Ok w Yb Qa.length Qa) (Jg:Qa.length ≤ Nb) (qt:Kd.C Di w Vf Vc.length Vc) (vt:Vc.length ≤ Jf) (h:tc.f k Ua Ja La Pa Qa Vc Wb Ob Qb Bc=some r) :
  Calls Try.prog 87 #[.agg #[.slice zb Ua.length yb,.int .i64 Ja,.int .i64 La,.int .i64 Pa,.slice Yb Qa.length Nb],.agg #[.slice Vf Vc.length Jf,.int .i64 Wb,.int .i64 Ob,.int .i64 Qb,.int .i64 Bc]] w fun e w'=>e = .returned (.bool r)∧Below w.heap.size w w':=by
 have FF:=Try.underlying30;have EF:=Try.underlying68;have DF:=Try.underlying70;have kg:=ia.mk Pf;have Hg:=ia.mk Lf;clear Pf Lf;have Sh:=ia.mk Ng;have fk:=ia.mk Jg;clear Ng Jg;have pn:=ia.mk qt;have Yo:=ia.mk vt;clear qt vt;have HB:=ia.mk (Below.refl w.heap.size w);have H:(tc.l0 k 0 Ua Ja La Pa Qa Vc Wb Ob Qb Bc)=some r:=h;clear h;have H':=ia.mk H;clear H;go_enter Try.func87,Try.ntmps87;go_wp2_with (first|((with_reducible refine Ib (N:=2) rfl ?_);(try (refine Ti (by rfl) ?_;dsimp only));refine Gb ?hg (N:=2) ?hd (cs:=#[.slice zb Ua.length yb,.int .i64 Ja,.int .i64 La,.int .i64 Pa,.slice Yb Qa.length Nb]) (t:=30) ?hr ?_;(case hd=>rfl);(case hg=>rfl);(case hr=>first|(go_simp;done)|(go_simp;rfl));intro Da hg w3 Vb hb;have Kb:=ia.mk (Ra (by repeat (first|(with_reducible first|exact HB.out|apply ta|apply ja|apply ua)|exact HB.out)) hb);have Ub:=ia.mk (Vb);have qc:=ia.mk ((by rw [hg];exact (Sa (by repeat (first|(with_reducible first|exact HB.out|apply ta|apply ja|apply ua)|exact HB.out))):w.heap.size ≤ Da));have Rc:=ia.mk ((by rw [hg];exact (Sa (by repeat (first|(with_reducible first|exact HB.out|apply ta|apply ja|apply ua)|exact HB.out))):w.heap.size ≤ Da));clear HB;have HB:=Kb;have qa:=Ub;have De:=qc;have Wa:=Rc;clear Kb Ub qc Rc hb Vb hg)|((with_reducible refine Ib (N:=3) rfl ?_);(try (refine Ti (by rfl) ?_;dsimp only));refine Gb ?hg (N:=3) ?hd (cs:=#[.slice Vf Vc.length Jf,.int .i64 Wb,.int .i64 Ob,.int .i64 Qb,.int .i64 Bc]) (t:=68) ?hr ?_;(case hd=>rfl);(case hg=>rfl);(case hr=>first|(go_simp;done)|(go_simp;rfl));intro Ga hg w4 Vb hb;have Kb:=ia.mk (Ta (g:=Da) (o:=.cells #[.slice zb Ua.length yb,.int .i64 Ja,.int .i64 La,.int .i64 Pa,.slice Yb Qa.length Nb] 30 (0,0)) (by (with_reducible repeat (first|refine za ?_ _|refine Ca ?_|refine ya ?_ _));exact qa.out) hb);have Ub:=ia.mk (Ra (by repeat (first|(with_reducible first|exact HB.out|apply ta|apply ja|apply ua|refine Aa ?_ Wa.out)|exact HB.out)) hb);have qc:=ia.mk (Vb);have Rc:=ia.mk ((by rw [hg];exact (Sa (by repeat (first|(with_reducible first|exact HB.out|apply ta|apply ja|apply ua|refine Aa ?_ Wa.out)|exact HB.out))):w.heap.size ≤ Ga));have Ce:=ia.mk ((by rw [hg];exact (Sa (by repeat (first|(with_reducible first|exact HB.out|apply ta|apply ja|apply ua|refine Aa ?_ Wa.out)|exact HB.out))):w.heap.size ≤ Ga));have Qe:=ia.mk ((by rw [hg];exact Nat.ne_of_lt (jc (g:=Da) (o:=.cells #[.slice zb Ua.length yb,.int .i64 Ja,.int .i64 La,.int .i64 Pa,.slice Yb Qa.length Nb] 30 (0,0)) (by (with_reducible repeat (first|refine za ?_ _|refine Ca ?_|refine ya ?_ _));exact qa.out)):Da ≠ Ga));have qg:=ia.mk ((by rw [hg];exact Nat.ne_of_gt (jc (g:=Da) (o:=.cells #[.slice zb Ua.length yb,.int .i64 Ja,.int .i64 La,.int .i64 Pa,.slice Yb Qa.length Nb] 30 (0,0)) (by (with_reducible repeat (first|refine za ?_ _|refine Ca ?_|refine ya ?_ _));exact qa.out)):Ga ≠ Da));clear qa HB;have qa:=Kb;have HB:=Ub;have Ba:=qc;have Tf:=Rc;have Jb:=Ce;have Xa:=Qe;have Va:=qg;clear Kb Ub qc Rc Ce Qe qg hb Vb hg))
 go_loopg [5] k (fun kq v5 w'=>∃ (Fa:Int),v5 = .int .i64 Fa∧ia (tc.l0 kq Fa Ua Ja La Pa Qa Vc Wb Ob Qb Bc=some r)∧ia (kq ≤ k)∧ia (w'.heap[Da]? = some (.cells #[(.slice zb Ua.length yb),.int .i64 Ja,.int .i64 La,.int .i64 Pa,(.slice Yb Qa.length Nb)] 30 (0,0)))∧ia (w'.heap[Ga]? = some (.cells #[(.slice Vf Vc.length Jf),.int .i64 Wb,.int .i64 Ob,.int .i64 Qb,.int .i64 Bc] 68 (0,0)))∧ia (Below w.heap.size w w'))
 case atStart=>exact ⟨(0),(by first|rfl|(simp;done)|(simp [*];done)),H',⟨Nat.le_refl _⟩,⟨by (with_reducible repeat (first|refine za ?_ _|refine Ca ?_|refine ya ?_ _));exact qa.out⟩,⟨by (with_reducible repeat (first|refine za ?_ _|refine Ca ?_|refine ya ?_ _));exact Ba.out⟩,⟨by repeat (first|(with_reducible first|exact HB.out|apply ta|apply ja|apply ua|refine Aa ?_ Wa.out|refine Aa ?_ Jb.out)|exact HB.out)⟩⟩
 case round =>
  clear H'
  try clear c1
  try clear p2
  (try clear HA);(try clear Wh);(try clear qa);(try clear Ba);(try clear HB);obtain ⟨Fa,rfl,HA,Wh,qa,Ba,HB⟩:=hrel;cases gk with
  | zero=>exact absurd HA.out (by simp [tc.l0])
  | succ k1 =>
   have H:=HA.out;clear HA;simp only [tc.l0] at H
   by_cases c5:Fa < (Vc.length:Int)
   ·rw [if_pos c5] at H;have en:decide (Fa < (Vc.length:Int))=true:=decide_eq_true c5;clear c5
    by_cases c6:0 ≤ Fa
    ·rw [if_pos c6] at H;have dn:decide (0 ≤ Fa)=true:=decide_eq_true c6;clear c6;replace H:=Option.bind_eq_some_iff.mp H;obtain ⟨t104,VG,H⟩:=H;replace H:(if t104=true then (tc.l0 k1 (wrap64 (Fa + 1)) Ua Ja La Pa Qa Vc Wb Ob Qb Bc) else (some false))=some r:=H;have A7:=ia.mk VG;clear VG
     by_cases c8:t104=true
     ·subst c8;have H1:(tc.l0 k1 (wrap64 (Fa + 1)) Ua Ja La Pa Qa Vc Wb Ob Qb Bc)=some r:=by rw [if_pos rfl] at H;exact H
      clear H;have H:=H1;clear H1;have H':=ia.mk H;clear H;have XZ:=Va.out;have VZ:=Xa.out;have Xj:wr.cell? ⟨Ga,0,none⟩=some (.slice Vf Vc.length Jf):=(ga Ba.out 0).trans rfl;have Wj:wr.cell? ⟨Ga,1,none⟩=some (.int .i64 Wb):=(ga Ba.out 1).trans rfl;have Vj:wr.cell? ⟨Ga,2,none⟩=some (.int .i64 Ob):=(ga Ba.out 2).trans rfl;have Uj:wr.cell? ⟨Ga,3,none⟩=some (.int .i64 Qb):=(ga Ba.out 3).trans rfl;have Tj:wr.cell? ⟨Ga,4,none⟩=some (.int .i64 Bc):=(ga Ba.out 4).trans rfl;have Sj:=aa Ba.out 0;have Rj:=aa Ba.out 1;have Qj:=aa Ba.out 2;have Pj:=aa Ba.out 3;have Oj:=aa Ba.out 4
      try go_wp2
      have Kb:=ia.mk (Ca qa.out);have Ub:=ia.mk (Ca Ba.out);have qc:=ia.mk (ua HB.out);clear qa Ba HB;have qa:=Kb;have Ba:=Ub;have HB:=qc;clear Kb Ub qc;have Zg:0 ≤ (Fa:Int):=of_decide_eq_true (by first|(with_reducible assumption)|assumption);have Yg:Fa < (Vc.length:Int):=of_decide_eq_true (by first|(with_reducible assumption)|assumption);obtain ⟨Ef,Nl,Bd,Ae,ze,ye,xe,pg,ng⟩:=kf pn.out Fa Zg Yg;have Ou:=ng;have Pu:=pg;have Qu:=xe;have Ru:=ye;have Su:=ze;have Tu:=Ae;have Uu:=Bd;cases Nl;replace Bd:=Ea HB.out Bd;replace Ae:=Ea HB.out Ae;replace ze:=Ea HB.out ze;replace ye:=Ea HB.out ye;replace xe:=Ea HB.out xe;replace pg:=Ea HB.out pg;replace ng:=Ea HB.out ng;replace Zg:=eq_true Zg;replace Yg:=eq_true Yg;refine Mi (n:=8) (S:=fun w'=>w'.cell? ⟨Da,0,none⟩=some (.slice zb Ua.length yb)∧w'.cell? ⟨Da,1,none⟩=some (.int .i64 Ja)∧w'.cell? ⟨Da,2,none⟩=some (.int .i64 La)∧w'.cell? ⟨Da,3,none⟩=some (.int .i64 Pa)∧w'.cell? ⟨Da,4,none⟩=some (.slice Yb Qa.length Nb)∧w'.cell? ⟨Ga,0,none⟩=some (.slice (some Ef) Vc.length Jf)∧w'.cell? ⟨Ga,1,none⟩=some (.int .i64 Wb)∧w'.cell? ⟨Ga,2,none⟩=some (.int .i64 Ob)∧w'.cell? ⟨Ga,3,none⟩=some (.int .i64 Qb)∧w'.cell? ⟨Ga,4,none⟩=some (.int .i64 Bc)∧w'.cell? (Ef.add ((Fa).toNat * 7))=some (.int .i64 ((Ia Vc Fa).f0))∧w'.cell? ⟨(Ef.add ((Fa).toNat * 7)).block,(Ef.add ((Fa).toNat * 7)).off + 1,none⟩=some (.int .i64 ((Ia Vc Fa).f1))∧w'.cell? ⟨(Ef.add ((Fa).toNat * 7)).block,(Ef.add ((Fa).toNat * 7)).off + 2,none⟩=some (.int .i64 ((Ia Vc Fa).f2))∧w'.cell? ⟨(Ef.add ((Fa).toNat * 7)).block,(Ef.add ((Fa).toNat * 7)).off + 3,none⟩=some (.int .i64 ((Ia Vc Fa).f3))∧w'.cell? ⟨(Ef.add ((Fa).toNat * 7)).block,(Ef.add ((Fa).toNat * 7)).off + 4,none⟩=some (.int .i64 ((Ia Vc Fa).f4))∧w'.cell? ⟨(Ef.add ((Fa).toNat * 7)).block,(Ef.add ((Fa).toNat * 7)).off + 5,none⟩=some (.int .i64 ((Ia Vc Fa).f5))∧w'.cell? ⟨(Ef.add ((Fa).toNat * 7)).block,(Ef.add ((Fa).toNat * 7)).off + 6,none⟩=some (.string ((Ia Vc Fa).f6))) (ds:=[]) #[false,false,false,false,false,false,false,false] (by kernel_rfl) rfl rfl ⟨(ga qa.out 0).trans rfl,(ga qa.out 1).trans rfl,(ga qa.out 2).trans rfl,(ga qa.out 3).trans rfl,(ga qa.out 4).trans rfl,(ga Ba.out 0).trans rfl,(ga Ba.out 1).trans rfl,(ga Ba.out 2).trans rfl,(ga Ba.out 3).trans rfl,(ga Ba.out 4).trans rfl,(Ea HB.out Uu),(Ea HB.out Tu),(Ea HB.out Su),(Ea HB.out Ru),(Ea HB.out Qu),(Ea HB.out Pu),(Ea HB.out Ou)⟩ (fun hHeld=>?_);refine dh tc.NN tc.uG (fun We Jm=>?_);generalize wr.drew=Ki at qa Ba HB Bd Ae ze ye xe pg ng hHeld ⊢;refine Ic (i:=1) (N:=some 16) (v:=?_) (a':=?_) #[false,true,false,false,false,false,false,false] rfl rfl (nc We.out (by kernel_rfl)) (fun _ _ _ h=>h) (Or.inl ⟨by rfl,?_⟩) ?_ ?_;rotate_left
      ·intro w';go_simp;with_reducible rfl
      rotate_left
      ·simp only [Act.put,List.setIfInBounds_toArray,List.set_cons_zero,List.set_cons_succ,Cb,Db]
       rfl
      refine Ic (i:=3) (N:=some 18) (v:=?_) (a':=?_) #[false,true,false,true,false,false,false,false] rfl rfl (nc We.out (by kernel_rfl)) (fun _ _ _ h=>h) (Or.inl ⟨by rfl,?_⟩) ?_ ?_;rotate_left
      ·intro w';go_simp;with_reducible rfl
      rotate_left
      ·simp only [Act.put,List.setIfInBounds_toArray,List.set_cons_zero,List.set_cons_succ,Cb,Db]
       rfl
      refine Mf (i:=0) (N:=some 15) (v:=?_) (a':=?_) #[true,true,false,true,false,false,false,false] rfl rfl (Od We.out Jm.out (by kernel_rfl)) (fun _ _ _ h=>h) (Or.inl ⟨by rfl,?_⟩) hHeld ?_ ?_;rotate_left
      ·rintro w' ⟨s0,s1,s2,s3,s4,s5,s6,s7,s8,s9,PS,OS,NS,MS,Q6,P6,O6⟩;go_simp;with_reducible rfl
      rotate_left
      ·simp only [Act.put,List.setIfInBounds_toArray,List.set_cons_zero,List.set_cons_succ,Cb,Db]
       rfl
      refine Mf (i:=2) (N:=some 17) (v:=?_) (a':=?_) #[true,true,true,true,false,false,false,false] rfl rfl (Od We.out Jm.out (by kernel_rfl)) (fun _ _ _ h=>h) (Or.inl ⟨by rfl,?_⟩) hHeld ?_ ?_;rotate_left
      ·rintro w' ⟨s0,s1,s2,s3,s4,s5,s6,s7,s8,s9,PS,OS,NS,MS,Q6,P6,O6⟩;go_simp;with_reducible rfl
      rotate_left
      ·simp only [Act.put,List.setIfInBounds_toArray,List.set_cons_zero,List.set_cons_succ,Cb,Db]
       rfl
      refine Ic (i:=4) (N:=some 19) (v:=?_) (a':=?_) #[true,true,true,true,true,false,false,false] rfl rfl (nc We.out (by kernel_rfl)) (fun _ _ _ h=>h) (Or.inl ⟨by rfl,?_⟩) ?_ ?_;rotate_left
      ·intro w';go_simp;with_reducible rfl
      rotate_left
      ·simp only [Act.put,List.setIfInBounds_toArray,List.set_cons_zero,List.set_cons_succ,Cb,Db]
       rfl
      refine Mf (i:=5) (N:=some 20) (v:=?_) (a':=?_) #[true,true,true,true,true,true,false,false] rfl rfl (Od We.out Jm.out (by kernel_rfl)) (fun _ _ _ h=>h) (Or.inl ⟨by rfl,?_⟩) hHeld ?_ ?_;rotate_left
      ·rintro w' ⟨s0,s1,s2,s3,s4,s5,s6,s7,s8,s9,PS,OS,NS,MS,Q6,P6,O6⟩;go_simp;with_reducible rfl
      rotate_left
      ·simp only [Act.put,List.setIfInBounds_toArray,List.set_cons_zero,List.set_cons_succ,Cb,Db]
       rfl
      refine Gq (i:=6) (N:=some 21) #[true,true,true,true,true,true,true,false] rfl rfl (jk We.out (by kernel_rfl)) (by decide) (fun K hK=>?_);refine Um Try.func111 (by kernel_rfl) rfl #[.agg #[.slice zb Ua.length yb,.int .i64 Ja,.int .i64 La,.int .i64 Pa,.slice Yb Qa.length Nb],.agg #[.int .i64 ((Ia Vc Fa).f0),.int .i64 ((Ia Vc Fa).f1),.int .i64 ((Ia Vc Fa).f2),.int .i64 ((Ia Vc Fa).f3),.int .i64 ((Ia Vc Fa).f4),.int .i64 ((Ia Vc Fa).f5),.string ((Ia Vc Fa).f6)]] (by rfl) rfl rfl (by (try simp only [List.map_toArray,List.map_cons,List.map_nil]);first|done|rfl|(simp only [List.length_drop,List.length_take];rfl)) ?_;with_reducible refine (mb.calls k1 _ _ Ua Ja La Pa _ _ Qa ((Ia Vc Fa).f0) ((Ia Vc Fa).f1) ((Ia Vc Fa).f2) ((Ia Vc Fa).f3) ((Ia Vc Fa).f4) ((Ia Vc Fa).f5) ((Ia Vc Fa).f6) true _ ?td ?qd ?Xf ?Wf A7.out).mono ?_
      (case td=>repeat (first|exact (Kd.Lb kg.out HB.out)|(with_reducible refine Kd.Gc ?_ _)|(with_reducible refine Kd.Fc ?_ _)|(with_reducible refine Kd.xd ?_)))
      (case qd=>exact Hg.out)
      (case Xf=>repeat (first|exact (Kd.Lb Sh.out HB.out)|(with_reducible refine Kd.Gc ?_ _)|(with_reducible refine Kd.Fc ?_ _)|(with_reducible refine Kd.xd ?_)))
      (case Wf=>exact fk.out)
      rintro e eF ⟨rfl,hb⟩;refine ⟨_,rfl,?_⟩;have Kb:=ia.mk (Ta (g:=Da) (o:=.cells #[.slice zb Ua.length yb,.int .i64 Ja,.int .i64 La,.int .i64 Pa,.slice Yb Qa.length Nb] 30 (0,0)) (by (with_reducible repeat (first|refine za ?_ _|refine Ca ?_|refine ya ?_ _));exact qa.out) hb);have Ub:=ia.mk (Ta (g:=Ga) (o:=.cells #[.slice (some Ef) Vc.length Jf,.int .i64 Wb,.int .i64 Ob,.int .i64 Qb,.int .i64 Bc] 68 (0,0)) (by (with_reducible repeat (first|refine za ?_ _|refine Ca ?_|refine ya ?_ _));exact Ba.out) hb);have qc:=ia.mk (Ra (by repeat (first|(with_reducible first|exact HB.out|apply ta|apply ja|apply ua|refine Aa ?_ Wa.out|refine Aa ?_ Jb.out)|exact HB.out)) hb);clear qa Ba HB;have qa:=Kb;have Ba:=Ub;have HB:=qc;clear Kb Ub qc;(try clear hb);(try clear Li);(try clear hk);(try clear hi);refine hK.out _ _ ⟨(ga qa.out 0).trans rfl,(ga qa.out 1).trans rfl,(ga qa.out 2).trans rfl,(ga qa.out 3).trans rfl,(ga qa.out 4).trans rfl,(ga Ba.out 0).trans rfl,(ga Ba.out 1).trans rfl,(ga Ba.out 2).trans rfl,(ga Ba.out 3).trans rfl,(ga Ba.out 4).trans rfl,(Ea HB.out Uu),(Ea HB.out Tu),(Ea HB.out Su),(Ea HB.out Ru),(Ea HB.out Qu),(Ea HB.out Pu),(Ea HB.out Ou)⟩ (fun hHeld=>?_);clear hK K;refine Mm (a':=?_) ?_ ?_;rotate_left
      ·show Act.put _ (some 21) _=_
       simp only [Act.put,List.setIfInBounds_toArray,List.set_cons_zero,List.set_cons_succ,Cb,Db]
       rfl
      refine Ic (i:=7) (N:=some 22) (v:=?_) (a':=?_) #[true,true,true,true,true,true,true,true] rfl rfl (nc We.out (by kernel_rfl)) (fun _ _ _ h=>h) (Or.inl ⟨by rfl,?_⟩) ?_ ?_;rotate_left
      ·intro w';go_simp;with_reducible rfl
      rotate_left
      ·simp only [Act.put,List.setIfInBounds_toArray,List.set_cons_zero,List.set_cons_succ,Cb,Db]
       rfl
      refine Fl (Vi We.out (by kernel_rfl)) ?_
      try go_wp2
      go_roundg k1
      case measure=>have:=Wh.out;omega
      case rel=>exact ⟨(wrap64 (Fa + 1)),(by first|rfl|(simp;done)|(simp [*];done)),H',⟨by have:=Wh.out;omega⟩,⟨by (with_reducible repeat (first|refine za ?_ _|refine Ca ?_|refine ya ?_ _));exact qa.out⟩,⟨by (with_reducible repeat (first|refine za ?_ _|refine Ca ?_|refine ya ?_ _));exact Ba.out⟩,⟨by repeat (first|(with_reducible first|exact HB.out|apply ta|apply ja|apply ua|refine Aa ?_ Wa.out|refine Aa ?_ Jb.out)|exact HB.out)⟩⟩
     ·replace c8:=Bool.eq_false_iff.mpr c8;subst c8;have H1:(some false)=some r:=by rw [if_neg (show ¬ (false=true) by decide)] at H;exact H
      clear H;have H:=H1;clear H1;obtain rfl:=Option.some.inj H;have C8:=Va.out;have U7:=Xa.out;have Am:wr.cell? ⟨Ga,0,none⟩=some (.slice Vf Vc.length Jf):=(ga Ba.out 0).trans rfl;have zm:wr.cell? ⟨Ga,1,none⟩=some (.int .i64 Wb):=(ga Ba.out 1).trans rfl;have ym:wr.cell? ⟨Ga,2,none⟩=some (.int .i64 Ob):=(ga Ba.out 2).trans rfl;have xm:wr.cell? ⟨Ga,3,none⟩=some (.int .i64 Qb):=(ga Ba.out 3).trans rfl;have wm:wr.cell? ⟨Ga,4,none⟩=some (.int .i64 Bc):=(ga Ba.out 4).trans rfl;have mm:=aa Ba.out 0;have jm:=aa Ba.out 1;have gm:=aa Ba.out 2;have dm:=aa Ba.out 3;have cm:=aa Ba.out 4
      try go_wp2
      have Kb:=ia.mk (Ca qa.out);have Ub:=ia.mk (Ca Ba.out);have qc:=ia.mk (ua HB.out);clear qa Ba HB;have qa:=Kb;have Ba:=Ub;have HB:=qc;clear Kb Ub qc;have Zg:0 ≤ (Fa:Int):=of_decide_eq_true (by first|(with_reducible assumption)|assumption);have Yg:Fa < (Vc.length:Int):=of_decide_eq_true (by first|(with_reducible assumption)|assumption);obtain ⟨Ef,Nl,Bd,Ae,ze,ye,xe,pg,ng⟩:=kf pn.out Fa Zg Yg;have Ou:=ng;have Pu:=pg;have Qu:=xe;have Ru:=ye;have Su:=ze;have Tu:=Ae;have Uu:=Bd;cases Nl;replace Bd:=Ea HB.out Bd;replace Ae:=Ea HB.out Ae;replace ze:=Ea HB.out ze;replace ye:=Ea HB.out ye;replace xe:=Ea HB.out xe;replace pg:=Ea HB.out pg;replace ng:=Ea HB.out ng;replace Zg:=eq_true Zg;replace Yg:=eq_true Yg;refine Mi (n:=8) (S:=fun w'=>w'.cell? ⟨Da,0,none⟩=some (.slice zb Ua.length yb)∧w'.cell? ⟨Da,1,none⟩=some (.int .i64 Ja)∧w'.cell? ⟨Da,2,none⟩=some (.int .i64 La)∧w'.cell? ⟨Da,3,none⟩=some (.int .i64 Pa)∧w'.cell? ⟨Da,4,none⟩=some (.slice Yb Qa.length Nb)∧w'.cell? ⟨Ga,0,none⟩=some (.slice (some Ef) Vc.length Jf)∧w'.cell? ⟨Ga,1,none⟩=some (.int .i64 Wb)∧w'.cell? ⟨Ga,2,none⟩=some (.int .i64 Ob)∧w'.cell? ⟨Ga,3,none⟩=some (.int .i64 Qb)∧w'.cell? ⟨Ga,4,none⟩=some (.int .i64 Bc)∧w'.cell? (Ef.add ((Fa).toNat * 7))=some (.int .i64 ((Ia Vc Fa).f0))∧w'.cell? ⟨(Ef.add ((Fa).toNat * 7)).block,(Ef.add ((Fa).toNat * 7)).off + 1,none⟩=some (.int .i64 ((Ia Vc Fa).f1))∧w'.cell? ⟨(Ef.add ((Fa).toNat * 7)).block,(Ef.add ((Fa).toNat * 7)).off + 2,none⟩=some (.int .i64 ((Ia Vc Fa).f2))∧w'.cell? ⟨(Ef.add ((Fa).toNat * 7)).block,(Ef.add ((Fa).toNat * 7)).off + 3,none⟩=some (.int .i64 ((Ia Vc Fa).f3))∧w'.cell? ⟨(Ef.add ((Fa).toNat * 7)).block,(Ef.add ((Fa).toNat * 7)).off + 4,none⟩=some (.int .i64 ((Ia Vc Fa).f4))∧w'.cell? ⟨(Ef.add ((Fa).toNat * 7)).block,(Ef.add ((Fa).toNat * 7)).off + 5,none⟩=some (.int .i64 ((Ia Vc Fa).f5))∧w'.cell? ⟨(Ef.add ((Fa).toNat * 7)).block,(Ef.add ((Fa).toNat * 7)).off + 6,none⟩=some (.string ((Ia Vc Fa).f6))) (ds:=[]) #[false,false,false,false,false,false,false,false] (by kernel_rfl) rfl rfl ⟨(ga qa.out 0).trans rfl,(ga qa.out 1).trans rfl,(ga qa.out 2).trans rfl,(ga qa.out 3).trans rfl,(ga qa.out 4).trans rfl,(ga Ba.out 0).trans rfl,(ga Ba.out 1).trans rfl,(ga Ba.out 2).trans rfl,(ga Ba.out 3).trans rfl,(ga Ba.out 4).trans rfl,(Ea HB.out Uu),(Ea HB.out Tu),(Ea HB.out Su),(Ea HB.out Ru),(Ea HB.out Qu),(Ea HB.out Pu),(Ea HB.out Ou)⟩ (fun hHeld=>?_);refine dh tc.NN tc.uG (fun We Jm=>?_);generalize wr.drew=rq at qa Ba HB Bd Ae ze ye xe pg ng hHeld ⊢;refine Ic (i:=1) (N:=some 16) (v:=?_) (a':=?_) #[false,true,false,false,false,false,false,false] rfl rfl (nc We.out (by kernel_rfl)) (fun _ _ _ h=>h) (Or.inl ⟨by rfl,?_⟩) ?_ ?_;rotate_left
      ·intro w';go_simp;with_reducible rfl
      rotate_left
      ·simp only [Act.put,List.setIfInBounds_toArray,List.set_cons_zero,List.set_cons_succ,Cb,Db]
       rfl
      refine Ic (i:=3) (N:=some 18) (v:=?_) (a':=?_) #[false,true,false,true,false,false,false,false] rfl rfl (nc We.out (by kernel_rfl)) (fun _ _ _ h=>h) (Or.inl ⟨by rfl,?_⟩) ?_ ?_;rotate_left
      ·intro w';go_simp;with_reducible rfl
      rotate_left
      ·simp only [Act.put,List.setIfInBounds_toArray,List.set_cons_zero,List.set_cons_succ,Cb,Db]
       rfl
      refine Mf (i:=0) (N:=some 15) (v:=?_) (a':=?_) #[true,true,false,true,false,false,false,false] rfl rfl (Od We.out Jm.out (by kernel_rfl)) (fun _ _ _ h=>h) (Or.inl ⟨by rfl,?_⟩) hHeld ?_ ?_;rotate_left
      ·rintro w' ⟨s0,s1,s2,s3,s4,s5,s6,s7,s8,s9,PS,OS,NS,MS,Q6,P6,O6⟩;go_simp;with_reducible rfl
      rotate_left
      ·simp only [Act.put,List.setIfInBounds_toArray,List.set_cons_zero,List.set_cons_succ,Cb,Db]
       rfl
      refine Mf (i:=2) (N:=some 17) (v:=?_) (a':=?_) #[true,true,true,true,false,false,false,false] rfl rfl (Od We.out Jm.out (by kernel_rfl)) (fun _ _ _ h=>h) (Or.inl ⟨by rfl,?_⟩) hHeld ?_ ?_;rotate_left
      ·rintro w' ⟨s0,s1,s2,s3,s4,s5,s6,s7,s8,s9,PS,OS,NS,MS,Q6,P6,O6⟩;go_simp;with_reducible rfl
      rotate_left
      ·simp only [Act.put,List.setIfInBounds_toArray,List.set_cons_zero,List.set_cons_succ,Cb,Db]
       rfl
      refine Ic (i:=4) (N:=some 19) (v:=?_) (a':=?_) #[true,true,true,true,true,false,false,false] rfl rfl (nc We.out (by kernel_rfl)) (fun _ _ _ h=>h) (Or.inl ⟨by rfl,?_⟩) ?_ ?_;rotate_left
      ·intro w';go_simp;with_reducible rfl
      rotate_left
      ·simp only [Act.put,List.setIfInBounds_toArray,List.set_cons_zero,List.set_cons_succ,Cb,Db]
       rfl
      refine Mf (i:=5) (N:=some 20) (v:=?_) (a':=?_) #[true,true,true,true,true,true,false,false] rfl rfl (Od We.out Jm.out (by kernel_rfl)) (fun _ _ _ h=>h) (Or.inl ⟨by rfl,?_⟩) hHeld ?_ ?_;rotate_left
      ·rintro w' ⟨s0,s1,s2,s3,s4,s5,s6,s7,s8,s9,PS,OS,NS,MS,Q6,P6,O6⟩;go_simp;with_reducible rfl
      rotate_left
      ·simp only [Act.put,List.setIfInBounds_toArray,List.set_cons_zero,List.set_cons_succ,Cb,Db]
       rfl
      refine Gq (i:=6) (N:=some 21) #[true,true,true,true,true,true,true,false] rfl rfl (jk We.out (by kernel_rfl)) (by decide) (fun K hK=>?_);refine Um Try.func111 (by kernel_rfl) rfl #[.agg #[.slice zb Ua.length yb,.int .i64 Ja,.int .i64 La,.int .i64 Pa,.slice Yb Qa.length Nb],.agg #[.int .i64 ((Ia Vc Fa).f0),.int .i64 ((Ia Vc Fa).f1),.int .i64 ((Ia Vc Fa).f2),.int .i64 ((Ia Vc Fa).f3),.int .i64 ((Ia Vc Fa).f4),.int .i64 ((Ia Vc Fa).f5),.string ((Ia Vc Fa).f6)]] (by rfl) rfl rfl (by (try simp only [List.map_toArray,List.map_cons,List.map_nil]);first|done|rfl|(simp only [List.length_drop,List.length_take];rfl)) ?_;with_reducible refine (mb.calls k1 _ _ Ua Ja La Pa _ _ Qa ((Ia Vc Fa).f0) ((Ia Vc Fa).f1) ((Ia Vc Fa).f2) ((Ia Vc Fa).f3) ((Ia Vc Fa).f4) ((Ia Vc Fa).f5) ((Ia Vc Fa).f6) false _ ?td ?qd ?Xf ?Wf A7.out).mono ?_
      (case td=>repeat (first|exact (Kd.Lb kg.out HB.out)|(with_reducible refine Kd.Gc ?_ _)|(with_reducible refine Kd.Fc ?_ _)|(with_reducible refine Kd.xd ?_)))
      (case qd=>exact Hg.out)
      (case Xf=>repeat (first|exact (Kd.Lb Sh.out HB.out)|(with_reducible refine Kd.Gc ?_ _)|(with_reducible refine Kd.Fc ?_ _)|(with_reducible refine Kd.xd ?_)))
      (case Wf=>exact fk.out)
      rintro e tB ⟨rfl,hb⟩;refine ⟨_,rfl,?_⟩;have Kb:=ia.mk (Ta (g:=Da) (o:=.cells #[.slice zb Ua.length yb,.int .i64 Ja,.int .i64 La,.int .i64 Pa,.slice Yb Qa.length Nb] 30 (0,0)) (by (with_reducible repeat (first|refine za ?_ _|refine Ca ?_|refine ya ?_ _));exact qa.out) hb);have Ub:=ia.mk (Ta (g:=Ga) (o:=.cells #[.slice (some Ef) Vc.length Jf,.int .i64 Wb,.int .i64 Ob,.int .i64 Qb,.int .i64 Bc] 68 (0,0)) (by (with_reducible repeat (first|refine za ?_ _|refine Ca ?_|refine ya ?_ _));exact Ba.out) hb);have qc:=ia.mk (Ra (by repeat (first|(with_reducible first|exact HB.out|apply ta|apply ja|apply ua|refine Aa ?_ Wa.out|refine Aa ?_ Jb.out)|exact HB.out)) hb);clear qa Ba HB;have qa:=Kb;have Ba:=Ub;have HB:=qc;clear Kb Ub qc;(try clear hb);(try clear Li);(try clear hk);(try clear hi);refine hK.out _ _ ⟨(ga qa.out 0).trans rfl,(ga qa.out 1).trans rfl,(ga qa.out 2).trans rfl,(ga qa.out 3).trans rfl,(ga qa.out 4).trans rfl,(ga Ba.out 0).trans rfl,(ga Ba.out 1).trans rfl,(ga Ba.out 2).trans rfl,(ga Ba.out 3).trans rfl,(ga Ba.out 4).trans rfl,(Ea HB.out Uu),(Ea HB.out Tu),(Ea HB.out Su),(Ea HB.out Ru),(Ea HB.out Qu),(Ea HB.out Pu),(Ea HB.out Ou)⟩ (fun hHeld=>?_);clear hK K;refine Mm (a':=?_) ?_ ?_;rotate_left
      ·show Act.put _ (some 21) _=_
       simp only [Act.put,List.setIfInBounds_toArray,List.set_cons_zero,List.set_cons_succ,Cb,Db]
       rfl
      refine Ic (i:=7) (N:=some 22) (v:=?_) (a':=?_) #[true,true,true,true,true,true,true,true] rfl rfl (nc We.out (by kernel_rfl)) (fun _ _ _ h=>h) (Or.inl ⟨by rfl,?_⟩) ?_ ?_;rotate_left
      ·intro w';go_simp;with_reducible rfl
      rotate_left
      ·simp only [Act.put,List.setIfInBounds_toArray,List.set_cons_zero,List.set_cons_succ,Cb,Db]
       rfl
      refine Fl (Vi We.out (by kernel_rfl)) ?_
      try go_wp2
      go_ret;exact ⟨by first|rfl|(simp [Na,Ma] <;> rfl)|(simp [*,Na,Ma] <;> rfl),by repeat (first|(with_reducible first|exact HB.out|apply ta|apply ja|apply ua|refine Aa ?_ Wa.out|refine Aa ?_ Jb.out)|exact HB.out)⟩
    ·rw [if_neg c6] at H;exact absurd H (by simp)
   ·rw [if_neg c5] at H;have en:decide (Fa < (Vc.length:Int))=false:=decide_eq_false c5;clear c5;replace H:=Option.bind_eq_some_iff.mp H;obtain ⟨t105,dah,H⟩:=H;replace H:((Za.f Ob 0 (wrap64 (Pa - 1))).bind fun t106=>(if Wb=0 then (if t105=true then (if Ob=0 then (some (Bc == 0)) else (some false)) else (some false)) else (if Wb=1 then (if t105=true then (if t106=true then ((Za.f Bc 0 (wrap64 ((Qa.length:Int) - 1))).bind fun t107=>(some t107)) else (some false)) else (some false)) else (if Wb=2 then (if t106=true then (if Qb=0 then (some (Bc == 0)) else (some false)) else (some false)) else (some false)))))=some r:=H;have CS:=ia.mk dah;clear dah;replace H:=Option.bind_eq_some_iff.mp H;obtain ⟨t106,mS,H⟩:=H;replace H:(if Wb=0 then (if t105=true then (if Ob=0 then (some (Bc == 0)) else (some false)) else (some false)) else (if Wb=1 then (if t105=true then (if t106=true then ((Za.f Bc 0 (wrap64 ((Qa.length:Int) - 1))).bind fun t107=>(some t107)) else (some false)) else (some false)) else (if Wb=2 then (if t106=true then (if Qb=0 then (some (Bc == 0)) else (some false)) else (some false)) else (some false))))=some r:=H;have nN:=ia.mk mS;clear mS
    by_cases Bt:Wb=0
    ·rw [if_pos Bt] at H;have KL:(Wb == 0)=true:=beq_iff_eq.mpr Bt;have Daf:(Wb != 0)=false:=bne_eq_false_iff_eq.mpr Bt;clear Bt
     by_cases Hx:t105=true
     ·subst Hx;have H1:(if Ob=0 then (some (Bc == 0)) else (some false))=some r:=by rw [if_pos rfl] at H;exact H
      clear H;have H:=H1;clear H1
      by_cases yt:Ob=0
      ·rw [if_pos yt] at H;have SB:(Ob == 0)=true:=beq_iff_eq.mpr yt;have Caf:(Ob != 0)=false:=bne_eq_false_iff_eq.mpr yt;clear yt;obtain rfl:=Option.some.inj H;have B8:=Va.out;have T7:=Xa.out;have Mo:wr.cell? ⟨Ga,0,none⟩=some (.slice Vf Vc.length Jf):=(ga Ba.out 0).trans rfl;have Lo:wr.cell? ⟨Ga,1,none⟩=some (.int .i64 Wb):=(ga Ba.out 1).trans rfl;have Ko:wr.cell? ⟨Ga,2,none⟩=some (.int .i64 Ob):=(ga Ba.out 2).trans rfl;have Jo:wr.cell? ⟨Ga,3,none⟩=some (.int .i64 Qb):=(ga Ba.out 3).trans rfl;have Io:wr.cell? ⟨Ga,4,none⟩=some (.int .i64 Bc):=(ga Ba.out 4).trans rfl;have Ao:=aa Ba.out 0;have zo:=aa Ba.out 1;have yo:=aa Ba.out 2;have xo:=aa Ba.out 3;have wo:=aa Ba.out 4;have ow:wr.cell? ⟨Da,0,none⟩=some (.slice zb Ua.length yb):=(ga qa.out 0).trans rfl;have nw:wr.cell? ⟨Da,1,none⟩=some (.int .i64 Ja):=(ga qa.out 1).trans rfl;have mw:wr.cell? ⟨Da,2,none⟩=some (.int .i64 La):=(ga qa.out 2).trans rfl;have jw:wr.cell? ⟨Da,3,none⟩=some (.int .i64 Pa):=(ga qa.out 3).trans rfl;have iw:wr.cell? ⟨Da,4,none⟩=some (.slice Yb Qa.length Nb):=(ga qa.out 4).trans rfl;have Kv:=aa qa.out 0;have Jv:=aa qa.out 1;have Iv:=aa qa.out 2;have Hv:=aa qa.out 3;have Gv:=aa qa.out 4;go_wp2_with (first|((with_reducible refine qb (f:=54) rfl ?_);refine Qc (some 29) rfl rfl Try.func54 (by kernel_rfl) rfl #[.int .i64 Qb,.int .i64 0,.int .i64 (wrap64 ((Qa.length:Int) - 1))] rfl (by (try simp only [List.map_toArray,List.map_cons,List.map_nil]);first|done|rfl|(simp only [List.length_drop,List.length_take];rfl)) ?_;(with_reducible refine (Za.calls Qb 0 (wrap64 ((Qa.length:Int) - 1)) true _ CS.out).mono ?_);rintro e w' ⟨rfl,⟨nd,rfl⟩⟩;refine ⟨_,rfl,?_⟩)|((with_reducible refine qb (f:=54) rfl ?_);refine Qc (some 35) rfl rfl Try.func54 (by kernel_rfl) rfl #[.int .i64 Ob,.int .i64 0,.int .i64 (wrap64 (Pa - 1))] rfl (by (try simp only [List.map_toArray,List.map_cons,List.map_nil]);first|done|rfl|(simp only [List.length_drop,List.length_take];rfl)) ?_;(with_reducible refine (Za.calls Ob 0 (wrap64 (Pa - 1)) t106 _ nN.out).mono ?_);rintro e w' ⟨rfl,⟨nd,rfl⟩⟩;refine ⟨_,rfl,?_⟩));go_ret;exact ⟨by first|rfl|(simp [Na,Ma] <;> rfl)|(simp [*,Na,Ma] <;> rfl),by repeat (first|(with_reducible first|exact HB.out|apply ta|apply ja|apply ua|refine Aa ?_ Wa.out|refine Aa ?_ Jb.out)|exact HB.out)⟩
      ·rw [if_neg yt] at H;have SB:(Ob == 0)=false:=beq_eq_false_iff_ne.mpr yt;have Caf:(Ob != 0)=true:=bne_iff_ne.mpr yt;obtain rfl:=Option.some.inj H;have PO:=Va.out;have MO:=Xa.out;have gw:wr.cell? ⟨Ga,0,none⟩=some (.slice Vf Vc.length Jf):=(ga Ba.out 0).trans rfl;have ew:wr.cell? ⟨Ga,1,none⟩=some (.int .i64 Wb):=(ga Ba.out 1).trans rfl;have dw:wr.cell? ⟨Ga,2,none⟩=some (.int .i64 Ob):=(ga Ba.out 2).trans rfl;have cw:wr.cell? ⟨Ga,3,none⟩=some (.int .i64 Qb):=(ga Ba.out 3).trans rfl;have bw:wr.cell? ⟨Ga,4,none⟩=some (.int .i64 Bc):=(ga Ba.out 4).trans rfl;have Fv:=aa Ba.out 0;have Dv:=aa Ba.out 1;have Cv:=aa Ba.out 2;have Bv:=aa Ba.out 3;have wv:=aa Ba.out 4;have Sr:wr.cell? ⟨Da,0,none⟩=some (.slice zb Ua.length yb):=(ga qa.out 0).trans rfl;have Qr:wr.cell? ⟨Da,1,none⟩=some (.int .i64 Ja):=(ga qa.out 1).trans rfl;have Pr:wr.cell? ⟨Da,2,none⟩=some (.int .i64 La):=(ga qa.out 2).trans rfl;have Nr:wr.cell? ⟨Da,3,none⟩=some (.int .i64 Pa):=(ga qa.out 3).trans rfl;have Mr:wr.cell? ⟨Da,4,none⟩=some (.slice Yb Qa.length Nb):=(ga qa.out 4).trans rfl;have nr:=aa qa.out 0;have kr:=aa qa.out 1;have jr:=aa qa.out 2;have ir:=aa qa.out 3;have gr:=aa qa.out 4;go_wp2_with (first|((with_reducible refine qb (f:=54) rfl ?_);refine Qc (some 29) rfl rfl Try.func54 (by kernel_rfl) rfl #[.int .i64 Qb,.int .i64 0,.int .i64 (wrap64 ((Qa.length:Int) - 1))] rfl (by (try simp only [List.map_toArray,List.map_cons,List.map_nil]);first|done|rfl|(simp only [List.length_drop,List.length_take];rfl)) ?_;(with_reducible refine (Za.calls Qb 0 (wrap64 ((Qa.length:Int) - 1)) true _ CS.out).mono ?_);rintro e w' ⟨rfl,⟨nd,rfl⟩⟩;refine ⟨_,rfl,?_⟩)|((with_reducible refine qb (f:=54) rfl ?_);refine Qc (some 35) rfl rfl Try.func54 (by kernel_rfl) rfl #[.int .i64 Ob,.int .i64 0,.int .i64 (wrap64 (Pa - 1))] rfl (by (try simp only [List.map_toArray,List.map_cons,List.map_nil]);first|done|rfl|(simp only [List.length_drop,List.length_take];rfl)) ?_;(with_reducible refine (Za.calls Ob 0 (wrap64 (Pa - 1)) t106 _ nN.out).mono ?_);rintro e w' ⟨rfl,⟨nd,rfl⟩⟩;refine ⟨_,rfl,?_⟩));go_ret;exact ⟨by first|rfl|(simp [Na,Ma] <;> rfl)|(simp [*,Na,Ma] <;> rfl),by repeat (first|(with_reducible first|exact HB.out|apply ta|apply ja|apply ua|refine Aa ?_ Wa.out|refine Aa ?_ Jb.out)|exact HB.out)⟩
     ·replace Hx:=Bool.eq_false_iff.mpr Hx;subst Hx;have H1:(some false)=some r:=by rw [if_neg (show ¬ (false=true) by decide)] at H;exact H
      clear H;have H:=H1;clear H1;obtain rfl:=Option.some.inj H;have yav:=Va.out;have Pau:=Xa.out;have tL:wr.cell? ⟨Ga,0,none⟩=some (.slice Vf Vc.length Jf):=(ga Ba.out 0).trans rfl;have sL:wr.cell? ⟨Ga,1,none⟩=some (.int .i64 Wb):=(ga Ba.out 1).trans rfl;have rL:wr.cell? ⟨Ga,2,none⟩=some (.int .i64 Ob):=(ga Ba.out 2).trans rfl;have qL:wr.cell? ⟨Ga,3,none⟩=some (.int .i64 Qb):=(ga Ba.out 3).trans rfl;have pL:wr.cell? ⟨Ga,4,none⟩=some (.int .i64 Bc):=(ga Ba.out 4).trans rfl;have dK:=aa Ba.out 0;have cK:=aa Ba.out 1;have bK:=aa Ba.out 2;have aK:=aa Ba.out 3;have ZJ:=aa Ba.out 4;have oL:wr.cell? ⟨Da,0,none⟩=some (.slice zb Ua.length yb):=(ga qa.out 0).trans rfl;have nL:wr.cell? ⟨Da,1,none⟩=some (.int .i64 Ja):=(ga qa.out 1).trans rfl;have mL:wr.cell? ⟨Da,2,none⟩=some (.int .i64 La):=(ga qa.out 2).trans rfl;have kL:wr.cell? ⟨Da,3,none⟩=some (.int .i64 Pa):=(ga qa.out 3).trans rfl;have jL:wr.cell? ⟨Da,4,none⟩=some (.slice Yb Qa.length Nb):=(ga qa.out 4).trans rfl;have YJ:=aa qa.out 0;have XJ:=aa qa.out 1;have WJ:=aa qa.out 2;have VJ:=aa qa.out 3;have UJ:=aa qa.out 4;go_wp2_with (first|((with_reducible refine qb (f:=54) rfl ?_);refine Qc (some 29) rfl rfl Try.func54 (by kernel_rfl) rfl #[.int .i64 Qb,.int .i64 0,.int .i64 (wrap64 ((Qa.length:Int) - 1))] rfl (by (try simp only [List.map_toArray,List.map_cons,List.map_nil]);first|done|rfl|(simp only [List.length_drop,List.length_take];rfl)) ?_;(with_reducible refine (Za.calls Qb 0 (wrap64 ((Qa.length:Int) - 1)) false _ CS.out).mono ?_);rintro e w' ⟨rfl,⟨nd,rfl⟩⟩;refine ⟨_,rfl,?_⟩)|((with_reducible refine qb (f:=54) rfl ?_);refine Qc (some 35) rfl rfl Try.func54 (by kernel_rfl) rfl #[.int .i64 Ob,.int .i64 0,.int .i64 (wrap64 (Pa - 1))] rfl (by (try simp only [List.map_toArray,List.map_cons,List.map_nil]);first|done|rfl|(simp only [List.length_drop,List.length_take];rfl)) ?_;(with_reducible refine (Za.calls Ob 0 (wrap64 (Pa - 1)) t106 _ nN.out).mono ?_);rintro e w' ⟨rfl,⟨nd,rfl⟩⟩;refine ⟨_,rfl,?_⟩));go_ret;exact ⟨by first|rfl|(simp [Na,Ma] <;> rfl)|(simp [*,Na,Ma] <;> rfl),by repeat (first|(with_reducible first|exact HB.out|apply ta|apply ja|apply ua|refine Aa ?_ Wa.out|refine Aa ?_ Jb.out)|exact HB.out)⟩
    ·rw [if_neg Bt] at H;have KL:(Wb == 0)=false:=beq_eq_false_iff_ne.mpr Bt;have Daf:(Wb != 0)=true:=bne_iff_ne.mpr Bt
     by_cases WX:Wb=1
     ·rw [if_pos WX] at H;have yaf:(Wb == 1)=true:=beq_iff_eq.mpr WX;have xaf:(Wb != 1)=false:=bne_eq_false_iff_eq.mpr WX;clear WX
      by_cases c32:t105=true
      ·subst c32;have H1:(if t106=true then ((Za.f Bc 0 (wrap64 ((Qa.length:Int) - 1))).bind fun t107=>(some t107)) else (some false))=some r:=by rw [if_pos rfl] at H;exact H
       clear H;have H:=H1;clear H1
       by_cases c33:t106=true
       ·subst c33;have H1:((Za.f Bc 0 (wrap64 ((Qa.length:Int) - 1))).bind fun t107=>(some t107))=some r:=by rw [if_pos rfl] at H;exact H
        clear H;have H:=H1;clear H1;replace H:=Option.bind_eq_some_iff.mp H;obtain ⟨t107,Xag,H⟩:=H;replace H:(some t107)=some r:=H;have A34:=ia.mk Xag;clear Xag;obtain rfl:=Option.some.inj H;have iX:=Va.out;have dX:=Xa.out;have ZK:wr.cell? ⟨Ga,0,none⟩=some (.slice Vf Vc.length Jf):=(ga Ba.out 0).trans rfl;have YK:wr.cell? ⟨Ga,1,none⟩=some (.int .i64 Wb):=(ga Ba.out 1).trans rfl;have XK:wr.cell? ⟨Ga,2,none⟩=some (.int .i64 Ob):=(ga Ba.out 2).trans rfl;have WK:wr.cell? ⟨Ga,3,none⟩=some (.int .i64 Qb):=(ga Ba.out 3).trans rfl;have VK:wr.cell? ⟨Ga,4,none⟩=some (.int .i64 Bc):=(ga Ba.out 4).trans rfl;have MJ:=aa Ba.out 0;have LJ:=aa Ba.out 1;have KJ:=aa Ba.out 2;have JJ:=aa Ba.out 3;have IJ:=aa Ba.out 4;have pz:wr.cell? ⟨Da,0,none⟩=some (.slice zb Ua.length yb):=(ga qa.out 0).trans rfl;have oz:wr.cell? ⟨Da,1,none⟩=some (.int .i64 Ja):=(ga qa.out 1).trans rfl;have mz:wr.cell? ⟨Da,2,none⟩=some (.int .i64 La):=(ga qa.out 2).trans rfl;have kz:wr.cell? ⟨Da,3,none⟩=some (.int .i64 Pa):=(ga qa.out 3).trans rfl;have jz:wr.cell? ⟨Da,4,none⟩=some (.slice Yb Qa.length Nb):=(ga qa.out 4).trans rfl;have Iy:=aa qa.out 0;have Hy:=aa qa.out 1;have Gy:=aa qa.out 2;have Fy:=aa qa.out 3;have Ey:=aa qa.out 4;go_wp2_with (first|((with_reducible refine qb (f:=54) rfl ?_);refine Qc (some 29) rfl rfl Try.func54 (by kernel_rfl) rfl #[.int .i64 Qb,.int .i64 0,.int .i64 (wrap64 ((Qa.length:Int) - 1))] rfl (by (try simp only [List.map_toArray,List.map_cons,List.map_nil]);first|done|rfl|(simp only [List.length_drop,List.length_take];rfl)) ?_;(with_reducible refine (Za.calls Qb 0 (wrap64 ((Qa.length:Int) - 1)) true _ CS.out).mono ?_);rintro e w' ⟨rfl,⟨nd,rfl⟩⟩;refine ⟨_,rfl,?_⟩)|((with_reducible refine qb (f:=54) rfl ?_);refine Qc (some 35) rfl rfl Try.func54 (by kernel_rfl) rfl #[.int .i64 Ob,.int .i64 0,.int .i64 (wrap64 (Pa - 1))] rfl (by (try simp only [List.map_toArray,List.map_cons,List.map_nil]);first|done|rfl|(simp only [List.length_drop,List.length_take];rfl)) ?_;(with_reducible refine (Za.calls Ob 0 (wrap64 (Pa - 1)) true _ nN.out).mono ?_);rintro e w' ⟨rfl,⟨nd,rfl⟩⟩;refine ⟨_,rfl,?_⟩)|(go_at_call 54;(with_reducible refine (Za.calls Bc 0 (wrap64 ((Qa.length:Int) - 1)) t107 _ A34.out).mono ?_);rintro e w' ⟨rfl,⟨nd,rfl⟩⟩));go_ret;exact ⟨by first|rfl|(simp [Na,Ma] <;> rfl)|(simp [*,Na,Ma] <;> rfl),by repeat (first|(with_reducible first|exact HB.out|apply ta|apply ja|apply ua|refine Aa ?_ Wa.out|refine Aa ?_ Jb.out)|exact HB.out)⟩
       ·replace c33:=Bool.eq_false_iff.mpr c33;subst c33;have H1:(some false)=some r:=by rw [if_neg (show ¬ (false=true) by decide)] at H;exact H
        clear H;have H:=H1;clear H1;obtain rfl:=Option.some.inj H;have uav:=Va.out;have Lau:=Xa.out;have SK:wr.cell? ⟨Ga,0,none⟩=some (.slice Vf Vc.length Jf):=(ga Ba.out 0).trans rfl;have RK:wr.cell? ⟨Ga,1,none⟩=some (.int .i64 Wb):=(ga Ba.out 1).trans rfl;have QK:wr.cell? ⟨Ga,2,none⟩=some (.int .i64 Ob):=(ga Ba.out 2).trans rfl;have PK:wr.cell? ⟨Ga,3,none⟩=some (.int .i64 Qb):=(ga Ba.out 3).trans rfl;have OK:wr.cell? ⟨Ga,4,none⟩=some (.int .i64 Bc):=(ga Ba.out 4).trans rfl;have FJ:=aa Ba.out 0;have EJ:=aa Ba.out 1;have DJ:=aa Ba.out 2;have CJ:=aa Ba.out 3;have BJ:=aa Ba.out 4;have Lr:wr.cell? ⟨Da,0,none⟩=some (.slice zb Ua.length yb):=(ga qa.out 0).trans rfl;have Kr:wr.cell? ⟨Da,1,none⟩=some (.int .i64 Ja):=(ga qa.out 1).trans rfl;have Jr:wr.cell? ⟨Da,2,none⟩=some (.int .i64 La):=(ga qa.out 2).trans rfl;have Ir:wr.cell? ⟨Da,3,none⟩=some (.int .i64 Pa):=(ga qa.out 3).trans rfl;have Hr:wr.cell? ⟨Da,4,none⟩=some (.slice Yb Qa.length Nb):=(ga qa.out 4).trans rfl;have er:=aa qa.out 0;have dr:=aa qa.out 1;have cr:=aa qa.out 2;have br:=aa qa.out 3;have Zq:=aa qa.out 4;go_wp2_with (first|((with_reducible refine qb (f:=54) rfl ?_);refine Qc (some 29) rfl rfl Try.func54 (by kernel_rfl) rfl #[.int .i64 Qb,.int .i64 0,.int .i64 (wrap64 ((Qa.length:Int) - 1))] rfl (by (try simp only [List.map_toArray,List.map_cons,List.map_nil]);first|done|rfl|(simp only [List.length_drop,List.length_take];rfl)) ?_;(with_reducible refine (Za.calls Qb 0 (wrap64 ((Qa.length:Int) - 1)) true _ CS.out).mono ?_);rintro e w' ⟨rfl,⟨nd,rfl⟩⟩;refine ⟨_,rfl,?_⟩)|((with_reducible refine qb (f:=54) rfl ?_);refine Qc (some 35) rfl rfl Try.func54 (by kernel_rfl) rfl #[.int .i64 Ob,.int .i64 0,.int .i64 (wrap64 (Pa - 1))] rfl (by (try simp only [List.map_toArray,List.map_cons,List.map_nil]);first|done|rfl|(simp only [List.length_drop,List.length_take];rfl)) ?_;(with_reducible refine (Za.calls Ob 0 (wrap64 (Pa - 1)) false _ nN.out).mono ?_);rintro e w' ⟨rfl,⟨nd,rfl⟩⟩;refine ⟨_,rfl,?_⟩));go_ret;exact ⟨by first|rfl|(simp [Na,Ma] <;> rfl)|(simp [*,Na,Ma] <;> rfl),by repeat (first|(with_reducible first|exact HB.out|apply ta|apply ja|apply ua|refine Aa ?_ Wa.out|refine Aa ?_ Jb.out)|exact HB.out)⟩
      ·replace c32:=Bool.eq_false_iff.mpr c32;subst c32;have H1:(some false)=some r:=by rw [if_neg (show ¬ (false=true) by decide)] at H;exact H
       clear H;have H:=H1;clear H1;obtain rfl:=Option.some.inj H;have g8:=Va.out;have K7:=Xa.out;have CD:wr.cell? ⟨Ga,0,none⟩=some (.slice Vf Vc.length Jf):=(ga Ba.out 0).trans rfl;have BD:wr.cell? ⟨Ga,1,none⟩=some (.int .i64 Wb):=(ga Ba.out 1).trans rfl;have zD:wr.cell? ⟨Ga,2,none⟩=some (.int .i64 Ob):=(ga Ba.out 2).trans rfl;have yD:wr.cell? ⟨Ga,3,none⟩=some (.int .i64 Qb):=(ga Ba.out 3).trans rfl;have xD:wr.cell? ⟨Ga,4,none⟩=some (.int .i64 Bc):=(ga Ba.out 4).trans rfl;have EC:=aa Ba.out 0;have DC:=aa Ba.out 1;have CC:=aa Ba.out 2;have BC:=aa Ba.out 3;have zC:=aa Ba.out 4;have wD:wr.cell? ⟨Da,0,none⟩=some (.slice zb Ua.length yb):=(ga qa.out 0).trans rfl;have vD:wr.cell? ⟨Da,1,none⟩=some (.int .i64 Ja):=(ga qa.out 1).trans rfl;have uD:wr.cell? ⟨Da,2,none⟩=some (.int .i64 La):=(ga qa.out 2).trans rfl;have tD:wr.cell? ⟨Da,3,none⟩=some (.int .i64 Pa):=(ga qa.out 3).trans rfl;have sD:wr.cell? ⟨Da,4,none⟩=some (.slice Yb Qa.length Nb):=(ga qa.out 4).trans rfl;have yC:=aa qa.out 0;have xC:=aa qa.out 1;have wC:=aa qa.out 2;have vC:=aa qa.out 3;have uC:=aa qa.out 4;go_wp2_with (first|((with_reducible refine qb (f:=54) rfl ?_);refine Qc (some 29) rfl rfl Try.func54 (by kernel_rfl) rfl #[.int .i64 Qb,.int .i64 0,.int .i64 (wrap64 ((Qa.length:Int) - 1))] rfl (by (try simp only [List.map_toArray,List.map_cons,List.map_nil]);first|done|rfl|(simp only [List.length_drop,List.length_take];rfl)) ?_;(with_reducible refine (Za.calls Qb 0 (wrap64 ((Qa.length:Int) - 1)) false _ CS.out).mono ?_);rintro e w' ⟨rfl,⟨nd,rfl⟩⟩;refine ⟨_,rfl,?_⟩)|((with_reducible refine qb (f:=54) rfl ?_);refine Qc (some 35) rfl rfl Try.func54 (by kernel_rfl) rfl #[.int .i64 Ob,.int .i64 0,.int .i64 (wrap64 (Pa - 1))] rfl (by (try simp only [List.map_toArray,List.map_cons,List.map_nil]);first|done|rfl|(simp only [List.length_drop,List.length_take];rfl)) ?_;(with_reducible refine (Za.calls Ob 0 (wrap64 (Pa - 1)) t106 _ nN.out).mono ?_);rintro e w' ⟨rfl,⟨nd,rfl⟩⟩;refine ⟨_,rfl,?_⟩));go_ret;exact ⟨by first|rfl|(simp [Na,Ma] <;> rfl)|(simp [*,Na,Ma] <;> rfl),by repeat (first|(with_reducible first|exact HB.out|apply ta|apply ja|apply ua|refine Aa ?_ Wa.out|refine Aa ?_ Jb.out)|exact HB.out)⟩
     ·rw [if_neg WX] at H;have yaf:(Wb == 1)=false:=beq_eq_false_iff_ne.mpr WX;have xaf:(Wb != 1)=true:=bne_iff_ne.mpr WX
      by_cases eI:Wb=2
      ·rw [if_pos eI] at H;have oQ:(Wb == 2)=true:=beq_iff_eq.mpr eI;have nQ:(Wb != 2)=false:=bne_eq_false_iff_eq.mpr eI;clear eI
       by_cases kW:t106=true
       ·subst kW;have H1:(if Qb=0 then (some (Bc == 0)) else (some false))=some r:=by rw [if_pos rfl] at H;exact H
        clear H;have H:=H1;clear H1
        by_cases dI:Qb=0
        ·rw [if_pos dI] at H;have mQ:(Qb == 0)=true:=beq_iff_eq.mpr dI;have lQ:(Qb != 0)=false:=bne_eq_false_iff_eq.mpr dI;clear dI;obtain rfl:=Option.some.inj H;have OO:=Va.out;have LO:=Xa.out;have cz:wr.cell? ⟨Ga,0,none⟩=some (.slice Vf Vc.length Jf):=(ga Ba.out 0).trans rfl;have bz:wr.cell? ⟨Ga,1,none⟩=some (.int .i64 Wb):=(ga Ba.out 1).trans rfl;have az:wr.cell? ⟨Ga,2,none⟩=some (.int .i64 Ob):=(ga Ba.out 2).trans rfl;have Zy:wr.cell? ⟨Ga,3,none⟩=some (.int .i64 Qb):=(ga Ba.out 3).trans rfl;have Yy:wr.cell? ⟨Ga,4,none⟩=some (.int .i64 Bc):=(ga Ba.out 4).trans rfl;have xy:=aa Ba.out 0;have uy:=aa Ba.out 1;have sy:=aa Ba.out 2;have ry:=aa Ba.out 3;have qy:=aa Ba.out 4;have xV:wr.cell? ⟨Da,0,none⟩=some (.slice zb Ua.length yb):=(ga qa.out 0).trans rfl;have wV:wr.cell? ⟨Da,1,none⟩=some (.int .i64 Ja):=(ga qa.out 1).trans rfl;have vV:wr.cell? ⟨Da,2,none⟩=some (.int .i64 La):=(ga qa.out 2).trans rfl;have uV:wr.cell? ⟨Da,3,none⟩=some (.int .i64 Pa):=(ga qa.out 3).trans rfl;have tV:wr.cell? ⟨Da,4,none⟩=some (.slice Yb Qa.length Nb):=(ga qa.out 4).trans rfl;have bU:=aa qa.out 0;have aU:=aa qa.out 1;have ZT:=aa qa.out 2;have YT:=aa qa.out 3;have XT:=aa qa.out 4;go_wp2_with (first|((with_reducible refine qb (f:=54) rfl ?_);refine Qc (some 29) rfl rfl Try.func54 (by kernel_rfl) rfl #[.int .i64 Qb,.int .i64 0,.int .i64 (wrap64 ((Qa.length:Int) - 1))] rfl (by (try simp only [List.map_toArray,List.map_cons,List.map_nil]);first|done|rfl|(simp only [List.length_drop,List.length_take];rfl)) ?_;(with_reducible refine (Za.calls Qb 0 (wrap64 ((Qa.length:Int) - 1)) t105 _ CS.out).mono ?_);rintro e w' ⟨rfl,⟨nd,rfl⟩⟩;refine ⟨_,rfl,?_⟩)|((with_reducible refine qb (f:=54) rfl ?_);refine Qc (some 35) rfl rfl Try.func54 (by kernel_rfl) rfl #[.int .i64 Ob,.int .i64 0,.int .i64 (wrap64 (Pa - 1))] rfl (by (try simp only [List.map_toArray,List.map_cons,List.map_nil]);first|done|rfl|(simp only [List.length_drop,List.length_take];rfl)) ?_;(with_reducible refine (Za.calls Ob 0 (wrap64 (Pa - 1)) true _ nN.out).mono ?_);rintro e w' ⟨rfl,⟨nd,rfl⟩⟩;refine ⟨_,rfl,?_⟩));go_ret;exact ⟨by first|rfl|(simp [Na,Ma] <;> rfl)|(simp [*,Na,Ma] <;> rfl),by repeat (first|(with_reducible first|exact HB.out|apply ta|apply ja|apply ua|refine Aa ?_ Wa.out|refine Aa ?_ Jb.out)|exact HB.out)⟩
        ·rw [if_neg dI] at H;have mQ:(Qb == 0)=false:=beq_eq_false_iff_ne.mpr dI;have lQ:(Qb != 0)=true:=bne_iff_ne.mpr dI;obtain rfl:=Option.some.inj H;have qav:=Va.out;have Hau:=Xa.out;have nV:wr.cell? ⟨Ga,0,none⟩=some (.slice Vf Vc.length Jf):=(ga Ba.out 0).trans rfl;have mV:wr.cell? ⟨Ga,1,none⟩=some (.int .i64 Wb):=(ga Ba.out 1).trans rfl;have lV:wr.cell? ⟨Ga,2,none⟩=some (.int .i64 Ob):=(ga Ba.out 2).trans rfl;have kV:wr.cell? ⟨Ga,3,none⟩=some (.int .i64 Qb):=(ga Ba.out 3).trans rfl;have jV:wr.cell? ⟨Ga,4,none⟩=some (.int .i64 Bc):=(ga Ba.out 4).trans rfl;have QT:=aa Ba.out 0;have PT:=aa Ba.out 1;have OT:=aa Ba.out 2;have NT:=aa Ba.out 3;have MT:=aa Ba.out 4;have JK:wr.cell? ⟨Da,0,none⟩=some (.slice zb Ua.length yb):=(ga qa.out 0).trans rfl;have IK:wr.cell? ⟨Da,1,none⟩=some (.int .i64 Ja):=(ga qa.out 1).trans rfl;have GK:wr.cell? ⟨Da,2,none⟩=some (.int .i64 La):=(ga qa.out 2).trans rfl;have EK:wr.cell? ⟨Da,3,none⟩=some (.int .i64 Pa):=(ga qa.out 3).trans rfl;have CK:wr.cell? ⟨Da,4,none⟩=some (.slice Yb Qa.length Nb):=(ga qa.out 4).trans rfl;have wJ:=aa qa.out 0;have vJ:=aa qa.out 1;have uJ:=aa qa.out 2;have tJ:=aa qa.out 3;have sJ:=aa qa.out 4;go_wp2_with (first|((with_reducible refine qb (f:=54) rfl ?_);refine Qc (some 29) rfl rfl Try.func54 (by kernel_rfl) rfl #[.int .i64 Qb,.int .i64 0,.int .i64 (wrap64 ((Qa.length:Int) - 1))] rfl (by (try simp only [List.map_toArray,List.map_cons,List.map_nil]);first|done|rfl|(simp only [List.length_drop,List.length_take];rfl)) ?_;(with_reducible refine (Za.calls Qb 0 (wrap64 ((Qa.length:Int) - 1)) t105 _ CS.out).mono ?_);rintro e w' ⟨rfl,⟨nd,rfl⟩⟩;refine ⟨_,rfl,?_⟩)|((with_reducible refine qb (f:=54) rfl ?_);refine Qc (some 35) rfl rfl Try.func54 (by kernel_rfl) rfl #[.int .i64 Ob,.int .i64 0,.int .i64 (wrap64 (Pa - 1))] rfl (by (try simp only [List.map_toArray,List.map_cons,List.map_nil]);first|done|rfl|(simp only [List.length_drop,List.length_take];rfl)) ?_;(with_reducible refine (Za.calls Ob 0 (wrap64 (Pa - 1)) true _ nN.out).mono ?_);rintro e w' ⟨rfl,⟨nd,rfl⟩⟩;refine ⟨_,rfl,?_⟩));go_ret;exact ⟨by first|rfl|(simp [Na,Ma] <;> rfl)|(simp [*,Na,Ma] <;> rfl),by repeat (first|(with_reducible first|exact HB.out|apply ta|apply ja|apply ua|refine Aa ?_ Wa.out|refine Aa ?_ Jb.out)|exact HB.out)⟩
       ·replace kW:=Bool.eq_false_iff.mpr kW;subst kW;have H1:(some false)=some r:=by rw [if_neg (show ¬ (false=true) by decide)] at H;exact H
        clear H;have H:=H1;clear H1;obtain rfl:=Option.some.inj H;have pav:=Va.out;have Gau:=Xa.out;have san:wr.cell? ⟨Ga,0,none⟩=some (.slice Vf Vc.length Jf):=(ga Ba.out 0).trans rfl;have qan:wr.cell? ⟨Ga,1,none⟩=some (.int .i64 Wb):=(ga Ba.out 1).trans rfl;have pan:wr.cell? ⟨Ga,2,none⟩=some (.int .i64 Ob):=(ga Ba.out 2).trans rfl;have oan:wr.cell? ⟨Ga,3,none⟩=some (.int .i64 Qb):=(ga Ba.out 3).trans rfl;have man:wr.cell? ⟨Ga,4,none⟩=some (.int .i64 Bc):=(ga Ba.out 4).trans rfl;have oak:=aa Ba.out 0;have nak:=aa Ba.out 1;have mak:=aa Ba.out 2;have lak:=aa Ba.out 3;have kak:=aa Ba.out 4;have BK:wr.cell? ⟨Da,0,none⟩=some (.slice zb Ua.length yb):=(ga qa.out 0).trans rfl;have AK:wr.cell? ⟨Da,1,none⟩=some (.int .i64 Ja):=(ga qa.out 1).trans rfl;have zK:wr.cell? ⟨Da,2,none⟩=some (.int .i64 La):=(ga qa.out 2).trans rfl;have yK:wr.cell? ⟨Da,3,none⟩=some (.int .i64 Pa):=(ga qa.out 3).trans rfl;have xK:wr.cell? ⟨Da,4,none⟩=some (.slice Yb Qa.length Nb):=(ga qa.out 4).trans rfl;have rJ:=aa qa.out 0;have qJ:=aa qa.out 1;have pJ:=aa qa.out 2;have oJ:=aa qa.out 3;have nJ:=aa qa.out 4;go_wp2_with (first|((with_reducible refine qb (f:=54) rfl ?_);refine Qc (some 29) rfl rfl Try.func54 (by kernel_rfl) rfl #[.int .i64 Qb,.int .i64 0,.int .i64 (wrap64 ((Qa.length:Int) - 1))] rfl (by (try simp only [List.map_toArray,List.map_cons,List.map_nil]);first|done|rfl|(simp only [List.length_drop,List.length_take];rfl)) ?_;(with_reducible refine (Za.calls Qb 0 (wrap64 ((Qa.length:Int) - 1)) t105 _ CS.out).mono ?_);rintro e w' ⟨rfl,⟨nd,rfl⟩⟩;refine ⟨_,rfl,?_⟩)|((with_reducible refine qb (f:=54) rfl ?_);refine Qc (some 35) rfl rfl Try.func54 (by kernel_rfl) rfl #[.int .i64 Ob,.int .i64 0,.int .i64 (wrap64 (Pa - 1))] rfl (by (try simp only [List.map_toArray,List.map_cons,List.map_nil]);first|done|rfl|(simp only [List.length_drop,List.length_take];rfl)) ?_;(with_reducible refine (Za.calls Ob 0 (wrap64 (Pa - 1)) false _ nN.out).mono ?_);rintro e w' ⟨rfl,⟨nd,rfl⟩⟩;refine ⟨_,rfl,?_⟩));go_ret;exact ⟨by first|rfl|(simp [Na,Ma] <;> rfl)|(simp [*,Na,Ma] <;> rfl),by repeat (first|(with_reducible first|exact HB.out|apply ta|apply ja|apply ua|refine Aa ?_ Wa.out|refine Aa ?_ Jb.out)|exact HB.out)⟩
      ·rw [if_neg eI] at H;have oQ:(Wb == 2)=false:=beq_eq_false_iff_ne.mpr eI;have nQ:(Wb != 2)=true:=bne_iff_ne.mpr eI;obtain rfl:=Option.some.inj H;have nav:=Va.out;have Eau:=Xa.out;have wK:wr.cell? ⟨Ga,0,none⟩=some (.slice Vf Vc.length Jf):=(ga Ba.out 0).trans rfl;have vK:wr.cell? ⟨Ga,1,none⟩=some (.int .i64 Wb):=(ga Ba.out 1).trans rfl;have uK:wr.cell? ⟨Ga,2,none⟩=some (.int .i64 Ob):=(ga Ba.out 2).trans rfl;have tK:wr.cell? ⟨Ga,3,none⟩=some (.int .i64 Qb):=(ga Ba.out 3).trans rfl;have sK:wr.cell? ⟨Ga,4,none⟩=some (.int .i64 Bc):=(ga Ba.out 4).trans rfl;have mJ:=aa Ba.out 0;have lJ:=aa Ba.out 1;have kJ:=aa Ba.out 2;have jJ:=aa Ba.out 3;have iJ:=aa Ba.out 4;have rD:wr.cell? ⟨Da,0,none⟩=some (.slice zb Ua.length yb):=(ga qa.out 0).trans rfl;have qD:wr.cell? ⟨Da,1,none⟩=some (.int .i64 Ja):=(ga qa.out 1).trans rfl;have oD:wr.cell? ⟨Da,2,none⟩=some (.int .i64 La):=(ga qa.out 2).trans rfl;have nD:wr.cell? ⟨Da,3,none⟩=some (.int .i64 Pa):=(ga qa.out 3).trans rfl;have mD:wr.cell? ⟨Da,4,none⟩=some (.slice Yb Qa.length Nb):=(ga qa.out 4).trans rfl;have tC:=aa qa.out 0;have sC:=aa qa.out 1;have rC:=aa qa.out 2;have qC:=aa qa.out 3;have oC:=aa qa.out 4;go_wp2_with (first|((with_reducible refine qb (f:=54) rfl ?_);refine Qc (some 29) rfl rfl Try.func54 (by kernel_rfl) rfl #[.int .i64 Qb,.int .i64 0,.int .i64 (wrap64 ((Qa.length:Int) - 1))] rfl (by (try simp only [List.map_toArray,List.map_cons,List.map_nil]);first|done|rfl|(simp only [List.length_drop,List.length_take];rfl)) ?_;(with_reducible refine (Za.calls Qb 0 (wrap64 ((Qa.length:Int) - 1)) t105 _ CS.out).mono ?_);rintro e w' ⟨rfl,⟨nd,rfl⟩⟩;refine ⟨_,rfl,?_⟩)|((with_reducible refine qb (f:=54) rfl ?_);refine Qc (some 35) rfl rfl Try.func54 (by kernel_rfl) rfl #[.int .i64 Ob,.int .i64 0,.int .i64 (wrap64 (Pa - 1))] rfl (by (try simp only [List.map_toArray,List.map_cons,List.map_nil]);first|done|rfl|(simp only [List.length_drop,List.length_take];rfl)) ?_;(with_reducible refine (Za.calls Ob 0 (wrap64 (Pa - 1)) t106 _ nN.out).mono ?_);rintro e w' ⟨rfl,⟨nd,rfl⟩⟩;refine ⟨_,rfl,?_⟩));go_ret;exact ⟨by first|rfl|(simp [Na,Ma] <;> rfl)|(simp [*,Na,Ma] <;> rfl),by repeat (first|(with_reducible first|exact HB.out|apply ta|apply ja|apply ua|refine Aa ?_ Wa.out|refine Aa ?_ Jb.out)|exact HB.out)⟩
mutual
def Ya.l0:Nat→Int→List Int→Int→Int→Int→List (lf)→Option (Bool)
 | 0,_,_,_,_,_,_=>none
 | k + 1,x3,we,ud,Dd,Xd,yd=>if x3 < (we.length:Int) then (if 0 ≤ x3 then ((Za.f (rd we x3) 1 16).bind fun t103=>(if t103=true then (Ya.l0 k (wrap64 (x3 + 1)) we ud Dd Xd yd) else (some false))) else (none)) else ((Za.f (we.length:Int) 1 4).bind fun t104=>(if t104=true then ((Za.f Dd 0 20).bind fun t105=>(if t105=true then ((Za.f ud 0 6).bind fun t106=>(if t106=true then (if ud > Dd then (Ya.j1 k true we ud Dd Xd yd) else ((Za.f Xd Dd 1000).bind fun t107=>(if t107=true then ((Za.f (yd.length:Int) 1 300).bind fun t108=>(Ya.j1 k (!t108) we ud Dd Xd yd)) else (Ya.j1 k true we ud Dd Xd yd)))) else (Ya.j1 k true we ud Dd Xd yd))) else (Ya.j1 k true we ud Dd Xd yd))) else (Ya.j1 k true we ud Dd Xd yd)))
def Ya.j1:Nat→Bool→List Int→Int→Int→Int→List (lf)→Option (Bool)
 | 0,_,_,_,_,_,_=>none
 | k + 1,x58,we,ud,Dd,Xd,yd=>if x58=true then (some false) else (Ya.l1 k 0 0 we ud Dd Xd yd)
def Ya.l1:Nat→Int→Int→List Int→Int→Int→Int→List (lf)→Option (Bool)
 | 0,_,_,_,_,_,_,_=>none
 | k + 1,x4,x5,we,ud,Dd,Xd,yd=>if x5 < (yd.length:Int) then (if 0 ≤ x5 then (if (wrap64 (x4 + (((Oa yd x5).f0).length:Int))) > 1000 then (some false) else ((tc.f k we ud Dd Xd yd ((Oa yd x5).f0) ((Oa yd x5).f1) ((Oa yd x5).f2) ((Oa yd x5).f3) ((Oa yd x5).f4)).bind fun t111=>(if t111=true then (Ya.l1 k (wrap64 (x4 + (((Oa yd x5).f0).length:Int))) (wrap64 (x5 + 1)) we ud Dd Xd yd) else (some false)))) else (none)) else (some true)
end
def Ya.f (k:Nat) (Ua:List Int) (Ja:Int) (La:Int) (Pa:Int) (Qa:List (lf)):Option (Bool):=Ya.l0 k 0 Ua Ja La Pa Qa
def Ya.T13:Bool × List (List Nat × List Nat):=(true,[([],[]),([0],[0]),([1],[1]),([2],[2]),([2],[2]),([4,2],[2,4]),([2],[2]),([5,6,2],[2,5,6]),([7,2],[2,7]),([3,8,2,2],[2,3,8]),([9,2],[2,9]),([2,10],[2,10])])
def Ya.B13:List Nat:=[0,1,3,7,7,23,7,119,247,511,1023,2047]
theorem Ya.PN:Ll .any (opsOf Try.f53 13)=Ya.T13:=by kernel_rfl
theorem Ya.pI:Qk Ya.T13.2 Ya.B13=true:=by kernel_rfl
theorem Ya.calls (k:Nat) (zb:Option Addr) (yb:Nat) (Ua:List Int) (Ja:Int) (La:Int) (Pa:Int) (Yb:Option Addr) (Nb:Nat) (Qa:List (lf)) (r:Bool) (w:World) (Pf:Kd.C (Kd.int .i64) w zb Ua.length Ua) (Lf:Ua.length ≤ yb) (Ng:Kd.C Ok w Yb Qa.length Qa) (Jg:Qa.length ≤ Nb) (h:Ya.f k Ua Ja La Pa Qa=some r) :
  Calls Try.prog 53 #[.agg #[.slice zb Ua.length yb,.int .i64 Ja,.int .i64 La,.int .i64 Pa,.slice Yb Qa.length Nb]] w fun e w'=>e = .returned (.bool r)∧Below w.heap.size w w':=by
 have FF:=Try.underlying30;have EF:=Try.underlying68;have kg:=ia.mk Pf;have Hg:=ia.mk Lf;clear Pf Lf;have Sh:=ia.mk Ng;have fk:=ia.mk Jg;clear Ng Jg;have HB:=ia.mk (Below.refl w.heap.size w);have H:(Ya.l0 k 0 Ua Ja La Pa Qa)=some r:=h;clear h;have H':=ia.mk H;clear H;go_enter Try.func53,Try.ntmps53;go_wp2_with (first|((with_reducible refine Ib (N:=1) rfl ?_);(try (refine Ti (by rfl) ?_;dsimp only));refine Gb ?hg (N:=1) ?hd (cs:=#[.slice zb Ua.length yb,.int .i64 Ja,.int .i64 La,.int .i64 Pa,.slice Yb Qa.length Nb]) (t:=30) ?hr ?_;(case hd=>rfl);(case hg=>rfl);(case hr=>first|(go_simp;done)|(go_simp;rfl));intro Da hg w2 Vb hb;have Kb:=ia.mk (Ra (by repeat (first|(with_reducible first|exact HB.out|apply ta|apply ja|apply ua)|exact HB.out)) hb);have Ub:=ia.mk (Vb);have qc:=ia.mk ((by rw [hg];exact (Sa (by repeat (first|(with_reducible first|exact HB.out|apply ta|apply ja|apply ua)|exact HB.out))):w.heap.size ≤ Da));have Rc:=ia.mk ((by rw [hg];exact (Sa (by repeat (first|(with_reducible first|exact HB.out|apply ta|apply ja|apply ua)|exact HB.out))):w.heap.size ≤ Da));clear HB;have HB:=Kb;have qa:=Ub;have De:=qc;have Wa:=Rc;clear Kb Ub qc Rc hb Vb hg))
 go_loopg [3] k (fun kq v3 w'=>∃ (Ze:Int),v3 = .int .i64 Ze∧ia (Ya.l0 kq Ze Ua Ja La Pa Qa=some r)∧ia (kq ≤ k)∧ia (w'.heap[Da]? = some (.cells #[(.slice zb Ua.length yb),.int .i64 Ja,.int .i64 La,.int .i64 Pa,(.slice Yb Qa.length Nb)] 30 (0,0)))∧ia (Below w.heap.size w w'))
 case atStart=>exact ⟨(0),(by first|rfl|(simp;done)|(simp [*];done)),H',⟨Nat.le_refl _⟩,⟨by (with_reducible repeat (first|refine za ?_ _|refine Ca ?_|refine ya ?_ _));exact qa.out⟩,⟨by repeat (first|(with_reducible first|exact HB.out|apply ta|apply ja|apply ua|refine Aa ?_ Wa.out)|exact HB.out)⟩⟩
 case round =>
  clear H'
  try clear p2
  (try clear HA);(try clear Wh);(try clear qa);(try clear HB);obtain ⟨Ze,rfl,HA,Wh,qa,HB⟩:=hrel;cases gk with
  | zero=>exact absurd HA.out (by simp [Ya.l0])
  | succ k1 =>
   have H:=HA.out;clear HA;simp only [Ya.l0] at H
   by_cases c3:Ze < (Ua.length:Int)
   ·rw [if_pos c3] at H;have Xh:decide (Ze < (Ua.length:Int))=true:=decide_eq_true c3;clear c3
    by_cases c4:0 ≤ Ze
    ·rw [if_pos c4] at H;have Zi:decide (0 ≤ Ze)=true:=decide_eq_true c4;clear c4;replace H:=Option.bind_eq_some_iff.mp H;obtain ⟨t103,YY,H⟩:=H;replace H:(if t103=true then (Ya.l0 k1 (wrap64 (Ze + 1)) Ua Ja La Pa Qa) else (some false))=some r:=H;have A5:=ia.mk YY;clear YY
     by_cases c6:t103=true
     ·subst c6;have H1:(Ya.l0 k1 (wrap64 (Ze + 1)) Ua Ja La Pa Qa)=some r:=by rw [if_pos rfl] at H;exact H
      clear H;have H:=H1;clear H1;have H':=ia.mk H;clear H;have uA:wr.cell? ⟨Da,0,none⟩=some (.slice zb Ua.length yb):=(ga qa.out 0).trans rfl;have tA:wr.cell? ⟨Da,1,none⟩=some (.int .i64 Ja):=(ga qa.out 1).trans rfl;have sA:wr.cell? ⟨Da,2,none⟩=some (.int .i64 La):=(ga qa.out 2).trans rfl;have rA:wr.cell? ⟨Da,3,none⟩=some (.int .i64 Pa):=(ga qa.out 3).trans rfl;have qA:wr.cell? ⟨Da,4,none⟩=some (.slice Yb Qa.length Nb):=(ga qa.out 4).trans rfl;have oA:=aa qa.out 0;have nA:=aa qa.out 1;have mA:=aa qa.out 2;have lA:=aa qa.out 3;have kA:=aa qa.out 4;have Mg:0 ≤ (Ze:Int):=of_decide_eq_true (by first|(with_reducible assumption)|assumption);have Lg:Ze < (Ua.length:Int):=of_decide_eq_true (by first|(with_reducible assumption)|assumption);obtain ⟨Me,El,Ld⟩:=Kd.Ij kg.out Ze Mg Lg;cases El;replace Ld:=Ea HB.out Ld;replace Mg:=eq_true Mg;replace Lg:=eq_true Lg;go_wp2_with (first|((with_reducible refine qb (f:=54) rfl ?_);refine Qc (some 18) rfl rfl Try.func54 (by kernel_rfl) rfl #[.int .i64 (rd Ua Ze),.int .i64 1,.int .i64 16] rfl (by (try simp only [List.map_toArray,List.map_cons,List.map_nil]);first|done|rfl|(simp only [List.length_drop,List.length_take];rfl)) ?_;(with_reducible refine (Za.calls (rd Ua Ze) 1 16 true _ A5.out).mono ?_);rintro e w' ⟨rfl,⟨nd,rfl⟩⟩;refine ⟨_,rfl,?_⟩))
      go_roundg k1
      case measure=>have:=Wh.out;omega
      case rel=>exact ⟨(wrap64 (Ze + 1)),(by first|rfl|(simp;done)|(simp [*];done)),H',⟨by have:=Wh.out;omega⟩,⟨by (with_reducible repeat (first|refine za ?_ _|refine Ca ?_|refine ya ?_ _));exact qa.out⟩,⟨by repeat (first|(with_reducible first|exact HB.out|apply ta|apply ja|apply ua|refine Aa ?_ Wa.out)|exact HB.out)⟩⟩
     ·replace c6:=Bool.eq_false_iff.mpr c6;subst c6;have H1:(some false)=some r:=by rw [if_neg (show ¬ (false=true) by decide)] at H;exact H
      clear H;have H:=H1;clear H1;obtain rfl:=Option.some.inj H;have FH:wr.cell? ⟨Da,0,none⟩=some (.slice zb Ua.length yb):=(ga qa.out 0).trans rfl;have EH:wr.cell? ⟨Da,1,none⟩=some (.int .i64 Ja):=(ga qa.out 1).trans rfl;have DH:wr.cell? ⟨Da,2,none⟩=some (.int .i64 La):=(ga qa.out 2).trans rfl;have CH:wr.cell? ⟨Da,3,none⟩=some (.int .i64 Pa):=(ga qa.out 3).trans rfl;have BH:wr.cell? ⟨Da,4,none⟩=some (.slice Yb Qa.length Nb):=(ga qa.out 4).trans rfl;have zH:=aa qa.out 0;have yH:=aa qa.out 1;have xH:=aa qa.out 2;have wH:=aa qa.out 3;have vH:=aa qa.out 4;have Mg:0 ≤ (Ze:Int):=of_decide_eq_true (by first|(with_reducible assumption)|assumption);have Lg:Ze < (Ua.length:Int):=of_decide_eq_true (by first|(with_reducible assumption)|assumption);obtain ⟨Me,El,Ld⟩:=Kd.Ij kg.out Ze Mg Lg;cases El;replace Ld:=Ea HB.out Ld;replace Mg:=eq_true Mg;replace Lg:=eq_true Lg;go_wp2_with (first|((with_reducible refine qb (f:=54) rfl ?_);refine Qc (some 18) rfl rfl Try.func54 (by kernel_rfl) rfl #[.int .i64 (rd Ua Ze),.int .i64 1,.int .i64 16] rfl (by (try simp only [List.map_toArray,List.map_cons,List.map_nil]);first|done|rfl|(simp only [List.length_drop,List.length_take];rfl)) ?_;(with_reducible refine (Za.calls (rd Ua Ze) 1 16 false _ A5.out).mono ?_);rintro e w' ⟨rfl,⟨nd,rfl⟩⟩;refine ⟨_,rfl,?_⟩));go_ret;exact ⟨by first|rfl|(simp [Na,Ma] <;> rfl)|(simp [*,Na,Ma] <;> rfl),by repeat (first|(with_reducible first|exact HB.out|apply ta|apply ja|apply ua|refine Aa ?_ Wa.out)|exact HB.out)⟩
    ·rw [if_neg c4] at H;exact absurd H (by simp)
   ·rw [if_neg c3] at H;have Xh:decide (Ze < (Ua.length:Int))=false:=decide_eq_false c3;clear c3;have gn:=ia.mk H;clear H;have Xj:wr.cell? ⟨Da,0,none⟩=some (.slice zb Ua.length yb):=(ga qa.out 0).trans rfl;have Wj:wr.cell? ⟨Da,1,none⟩=some (.int .i64 Ja):=(ga qa.out 1).trans rfl;have Vj:wr.cell? ⟨Da,2,none⟩=some (.int .i64 La):=(ga qa.out 2).trans rfl;have Uj:wr.cell? ⟨Da,3,none⟩=some (.int .i64 Pa):=(ga qa.out 3).trans rfl;have Tj:wr.cell? ⟨Da,4,none⟩=some (.slice Yb Qa.length Nb):=(ga qa.out 4).trans rfl;have Sj:=aa qa.out 0;have Rj:=aa qa.out 1;have Qj:=aa qa.out 2;have Pj:=aa qa.out 3;have Oj:=aa qa.out 4
    go_upto_region 6 with (fail)
    go_cut [58] (fun v58 wc=>∃ (kq:Nat) (NI:Bool),v58 = .bool NI∧ia (Ya.j1 kq NI Ua Ja La Pa Qa=some r)∧ia (kq ≤ k1)∧ia (wc.heap[Da]? = some (.cells #[(.slice zb Ua.length yb),.int .i64 Ja,.int .i64 La,.int .i64 Pa,(.slice Yb Qa.length Nb)] 30 (0,0)))∧ia (Below w.heap.size w wc))
    case first =>
     have H:=gn.out;clear gn;replace H:=Option.bind_eq_some_iff.mp H;obtain ⟨t104,MG,H⟩:=H;replace H:(if t104=true then ((Za.f La 0 20).bind fun t105=>(if t105=true then ((Za.f Ja 0 6).bind fun t106=>(if t106=true then (if Ja > La then (Ya.j1 k1 true Ua Ja La Pa Qa) else ((Za.f Pa La 1000).bind fun t107=>(if t107=true then ((Za.f (Qa.length:Int) 1 300).bind fun t108=>(Ya.j1 k1 (!t108) Ua Ja La Pa Qa)) else (Ya.j1 k1 true Ua Ja La Pa Qa)))) else (Ya.j1 k1 true Ua Ja La Pa Qa))) else (Ya.j1 k1 true Ua Ja La Pa Qa))) else (Ya.j1 k1 true Ua Ja La Pa Qa))=some r:=H;have nS:=ia.mk MG;clear MG
     by_cases BB:t104=true
     ·subst BB;have H1:((Za.f La 0 20).bind fun t105=>(if t105=true then ((Za.f Ja 0 6).bind fun t106=>(if t106=true then (if Ja > La then (Ya.j1 k1 true Ua Ja La Pa Qa) else ((Za.f Pa La 1000).bind fun t107=>(if t107=true then ((Za.f (Qa.length:Int) 1 300).bind fun t108=>(Ya.j1 k1 (!t108) Ua Ja La Pa Qa)) else (Ya.j1 k1 true Ua Ja La Pa Qa)))) else (Ya.j1 k1 true Ua Ja La Pa Qa))) else (Ya.j1 k1 true Ua Ja La Pa Qa)))=some r:=by rw [if_pos rfl] at H;exact H
      clear H;have H:=H1;clear H1;replace H:=Option.bind_eq_some_iff.mp H;obtain ⟨t105,gah,H⟩:=H;replace H:(if t105=true then ((Za.f Ja 0 6).bind fun t106=>(if t106=true then (if Ja > La then (Ya.j1 k1 true Ua Ja La Pa Qa) else ((Za.f Pa La 1000).bind fun t107=>(if t107=true then ((Za.f (Qa.length:Int) 1 300).bind fun t108=>(Ya.j1 k1 (!t108) Ua Ja La Pa Qa)) else (Ya.j1 k1 true Ua Ja La Pa Qa)))) else (Ya.j1 k1 true Ua Ja La Pa Qa))) else (Ya.j1 k1 true Ua Ja La Pa Qa))=some r:=H;have A13:=ia.mk gah;clear gah
      by_cases V5:t105=true
      ·subst V5;have H1:((Za.f Ja 0 6).bind fun t106=>(if t106=true then (if Ja > La then (Ya.j1 k1 true Ua Ja La Pa Qa) else ((Za.f Pa La 1000).bind fun t107=>(if t107=true then ((Za.f (Qa.length:Int) 1 300).bind fun t108=>(Ya.j1 k1 (!t108) Ua Ja La Pa Qa)) else (Ya.j1 k1 true Ua Ja La Pa Qa)))) else (Ya.j1 k1 true Ua Ja La Pa Qa)))=some r:=by rw [if_pos rfl] at H;exact H
       clear H;have H:=H1;clear H1;replace H:=Option.bind_eq_some_iff.mp H;obtain ⟨t106,eah,H⟩:=H;replace H:(if t106=true then (if Ja > La then (Ya.j1 k1 true Ua Ja La Pa Qa) else ((Za.f Pa La 1000).bind fun t107=>(if t107=true then ((Za.f (Qa.length:Int) 1 300).bind fun t108=>(Ya.j1 k1 (!t108) Ua Ja La Pa Qa)) else (Ya.j1 k1 true Ua Ja La Pa Qa)))) else (Ya.j1 k1 true Ua Ja La Pa Qa))=some r:=H;have A15:=ia.mk eah;clear eah
       by_cases uN:t106=true
       ·subst uN;have H1:(if Ja > La then (Ya.j1 k1 true Ua Ja La Pa Qa) else ((Za.f Pa La 1000).bind fun t107=>(if t107=true then ((Za.f (Qa.length:Int) 1 300).bind fun t108=>(Ya.j1 k1 (!t108) Ua Ja La Pa Qa)) else (Ya.j1 k1 true Ua Ja La Pa Qa))))=some r:=by rw [if_pos rfl] at H;exact H
        clear H;have H:=H1;clear H1
        by_cases TB:Ja > La
        ·rw [if_pos TB] at H;have Jw:decide (La < Ja)=true:=decide_eq_true TB;clear TB;(first|rw [Jw]|(simp only [Cb,Db];rw [Jw])|skip);have H':=ia.mk H;clear H;have Cs:wr.cell? ⟨Da,0,none⟩=some (.slice zb Ua.length yb):=(ga qa.out 0).trans rfl;have Bs:wr.cell? ⟨Da,1,none⟩=some (.int .i64 Ja):=(ga qa.out 1).trans rfl;have js:wr.cell? ⟨Da,2,none⟩=some (.int .i64 La):=(ga qa.out 2).trans rfl;have Zr:wr.cell? ⟨Da,3,none⟩=some (.int .i64 Pa):=(ga qa.out 3).trans rfl;have Yr:wr.cell? ⟨Da,4,none⟩=some (.slice Yb Qa.length Nb):=(ga qa.out 4).trans rfl;have Gr:=aa qa.out 0;have Er:=aa qa.out 1;have Dr:=aa qa.out 2;have Cr:=aa qa.out 3;have Br:=aa qa.out 4;go_wp2_with (first|((with_reducible refine qb (f:=54) rfl ?_);refine Qc (some 23) rfl rfl Try.func54 (by kernel_rfl) rfl #[.int .i64 (Ua.length:Int),.int .i64 1,.int .i64 4] rfl (by (try simp only [List.map_toArray,List.map_cons,List.map_nil]);first|done|rfl|(simp only [List.length_drop,List.length_take];rfl)) ?_;(with_reducible refine (Za.calls (Ua.length:Int) 1 4 true _ nS.out).mono ?_);rintro e w' ⟨rfl,⟨nd,rfl⟩⟩;refine ⟨_,rfl,?_⟩)|(go_at_call 54;(with_reducible refine (Za.calls La 0 20 true _ A13.out).mono ?_);rintro e w' ⟨rfl,⟨nd,rfl⟩⟩)|(go_at_call 54;(with_reducible refine (Za.calls Ja 0 6 true _ A15.out).mono ?_);rintro e w' ⟨rfl,⟨nd,rfl⟩⟩))
         go_meet
         case rel=>exact ⟨_,(true),(by first|rfl|(simp;done)|(simp [*];done)),H',⟨by have:=Wh.out;first|omega|exact Nat.le_refl _⟩,⟨by (with_reducible repeat (first|refine za ?_ _|refine Ca ?_|refine ya ?_ _));exact qa.out⟩,⟨by repeat (first|(with_reducible first|exact HB.out|apply ta|apply ja|apply ua|refine Aa ?_ Wa.out)|exact HB.out)⟩⟩
        ·rw [if_neg TB] at H;have Jw:decide (La < Ja)=false:=decide_eq_false TB;clear TB;(first|rw [Jw]|(simp only [Cb,Db];rw [Jw])|skip);replace H:=Option.bind_eq_some_iff.mp H;obtain ⟨t107,cah,H⟩:=H;replace H:(if t107=true then ((Za.f (Qa.length:Int) 1 300).bind fun t108=>(Ya.j1 k1 (!t108) Ua Ja La Pa Qa)) else (Ya.j1 k1 true Ua Ja La Pa Qa))=some r:=H;have A19:=ia.mk cah;clear cah
         by_cases Hx:t107=true
         ·subst Hx;have H1:((Za.f (Qa.length:Int) 1 300).bind fun t108=>(Ya.j1 k1 (!t108) Ua Ja La Pa Qa))=some r:=by rw [if_pos rfl] at H;exact H
          clear H;have H:=H1;clear H1;replace H:=Option.bind_eq_some_iff.mp H;obtain ⟨t108,aah,H⟩:=H;replace H:(Ya.j1 k1 (!t108) Ua Ja La Pa Qa)=some r:=H;have A21:=ia.mk aah;clear aah;have H':=ia.mk H;clear H;have vw:wr.cell? ⟨Da,0,none⟩=some (.slice zb Ua.length yb):=(ga qa.out 0).trans rfl;have uw:wr.cell? ⟨Da,1,none⟩=some (.int .i64 Ja):=(ga qa.out 1).trans rfl;have tw:wr.cell? ⟨Da,2,none⟩=some (.int .i64 La):=(ga qa.out 2).trans rfl;have sw:wr.cell? ⟨Da,3,none⟩=some (.int .i64 Pa):=(ga qa.out 3).trans rfl;have qw:wr.cell? ⟨Da,4,none⟩=some (.slice Yb Qa.length Nb):=(ga qa.out 4).trans rfl;have Pv:=aa qa.out 0;have Ov:=aa qa.out 1;have Nv:=aa qa.out 2;have Mv:=aa qa.out 3;have Lv:=aa qa.out 4;go_wp2_with (first|((with_reducible refine qb (f:=54) rfl ?_);refine Qc (some 23) rfl rfl Try.func54 (by kernel_rfl) rfl #[.int .i64 (Ua.length:Int),.int .i64 1,.int .i64 4] rfl (by (try simp only [List.map_toArray,List.map_cons,List.map_nil]);first|done|rfl|(simp only [List.length_drop,List.length_take];rfl)) ?_;(with_reducible refine (Za.calls (Ua.length:Int) 1 4 true _ nS.out).mono ?_);rintro e w' ⟨rfl,⟨nd,rfl⟩⟩;refine ⟨_,rfl,?_⟩)|(go_at_call 54;(with_reducible refine (Za.calls La 0 20 true _ A13.out).mono ?_);rintro e w' ⟨rfl,⟨nd,rfl⟩⟩)|(go_at_call 54;(with_reducible refine (Za.calls Ja 0 6 true _ A15.out).mono ?_);rintro e w' ⟨rfl,⟨nd,rfl⟩⟩)|(go_at_call 54;(with_reducible refine (Za.calls Pa La 1000 true _ A19.out).mono ?_);rintro e w' ⟨rfl,⟨nd,rfl⟩⟩)|(go_at_call 54;(with_reducible refine (Za.calls (Qa.length:Int) 1 300 t108 _ A21.out).mono ?_);rintro e w' ⟨rfl,⟨nd,rfl⟩⟩))
          go_meet
          case rel=>exact ⟨_,(!t108),(by first|rfl|(simp;done)|(simp [*];done)),H',⟨by have:=Wh.out;first|omega|exact Nat.le_refl _⟩,⟨by (with_reducible repeat (first|refine za ?_ _|refine Ca ?_|refine ya ?_ _));exact qa.out⟩,⟨by repeat (first|(with_reducible first|exact HB.out|apply ta|apply ja|apply ua|refine Aa ?_ Wa.out)|exact HB.out)⟩⟩
         ·replace Hx:=Bool.eq_false_iff.mpr Hx;subst Hx;have H1:(Ya.j1 k1 true Ua Ja La Pa Qa)=some r:=by rw [if_neg (show ¬ (false=true) by decide)] at H;exact H
          clear H;have H:=H1;clear H1;have H':=ia.mk H;clear H;have Mo:wr.cell? ⟨Da,0,none⟩=some (.slice zb Ua.length yb):=(ga qa.out 0).trans rfl;have Lo:wr.cell? ⟨Da,1,none⟩=some (.int .i64 Ja):=(ga qa.out 1).trans rfl;have Ko:wr.cell? ⟨Da,2,none⟩=some (.int .i64 La):=(ga qa.out 2).trans rfl;have Jo:wr.cell? ⟨Da,3,none⟩=some (.int .i64 Pa):=(ga qa.out 3).trans rfl;have Io:wr.cell? ⟨Da,4,none⟩=some (.slice Yb Qa.length Nb):=(ga qa.out 4).trans rfl;have Ao:=aa qa.out 0;have zo:=aa qa.out 1;have yo:=aa qa.out 2;have xo:=aa qa.out 3;have wo:=aa qa.out 4;go_wp2_with (first|((with_reducible refine qb (f:=54) rfl ?_);refine Qc (some 23) rfl rfl Try.func54 (by kernel_rfl) rfl #[.int .i64 (Ua.length:Int),.int .i64 1,.int .i64 4] rfl (by (try simp only [List.map_toArray,List.map_cons,List.map_nil]);first|done|rfl|(simp only [List.length_drop,List.length_take];rfl)) ?_;(with_reducible refine (Za.calls (Ua.length:Int) 1 4 true _ nS.out).mono ?_);rintro e w' ⟨rfl,⟨nd,rfl⟩⟩;refine ⟨_,rfl,?_⟩)|(go_at_call 54;(with_reducible refine (Za.calls La 0 20 true _ A13.out).mono ?_);rintro e w' ⟨rfl,⟨nd,rfl⟩⟩)|(go_at_call 54;(with_reducible refine (Za.calls Ja 0 6 true _ A15.out).mono ?_);rintro e w' ⟨rfl,⟨nd,rfl⟩⟩)|(go_at_call 54;(with_reducible refine (Za.calls Pa La 1000 false _ A19.out).mono ?_);rintro e w' ⟨rfl,⟨nd,rfl⟩⟩))
          go_meet
          case rel=>exact ⟨_,(true),(by first|rfl|(simp;done)|(simp [*];done)),H',⟨by have:=Wh.out;first|omega|exact Nat.le_refl _⟩,⟨by (with_reducible repeat (first|refine za ?_ _|refine Ca ?_|refine ya ?_ _));exact qa.out⟩,⟨by repeat (first|(with_reducible first|exact HB.out|apply ta|apply ja|apply ua|refine Aa ?_ Wa.out)|exact HB.out)⟩⟩
       ·replace uN:=Bool.eq_false_iff.mpr uN;subst uN;have H1:(Ya.j1 k1 true Ua Ja La Pa Qa)=some r:=by rw [if_neg (show ¬ (false=true) by decide)] at H;exact H
        clear H;have H:=H1;clear H1;have H':=ia.mk H;clear H;have ow:wr.cell? ⟨Da,0,none⟩=some (.slice zb Ua.length yb):=(ga qa.out 0).trans rfl;have nw:wr.cell? ⟨Da,1,none⟩=some (.int .i64 Ja):=(ga qa.out 1).trans rfl;have mw:wr.cell? ⟨Da,2,none⟩=some (.int .i64 La):=(ga qa.out 2).trans rfl;have jw:wr.cell? ⟨Da,3,none⟩=some (.int .i64 Pa):=(ga qa.out 3).trans rfl;have iw:wr.cell? ⟨Da,4,none⟩=some (.slice Yb Qa.length Nb):=(ga qa.out 4).trans rfl;have Kv:=aa qa.out 0;have Jv:=aa qa.out 1;have Iv:=aa qa.out 2;have Hv:=aa qa.out 3;have Gv:=aa qa.out 4;go_wp2_with (first|((with_reducible refine qb (f:=54) rfl ?_);refine Qc (some 23) rfl rfl Try.func54 (by kernel_rfl) rfl #[.int .i64 (Ua.length:Int),.int .i64 1,.int .i64 4] rfl (by (try simp only [List.map_toArray,List.map_cons,List.map_nil]);first|done|rfl|(simp only [List.length_drop,List.length_take];rfl)) ?_;(with_reducible refine (Za.calls (Ua.length:Int) 1 4 true _ nS.out).mono ?_);rintro e w' ⟨rfl,⟨nd,rfl⟩⟩;refine ⟨_,rfl,?_⟩)|(go_at_call 54;(with_reducible refine (Za.calls La 0 20 true _ A13.out).mono ?_);rintro e w' ⟨rfl,⟨nd,rfl⟩⟩)|(go_at_call 54;(with_reducible refine (Za.calls Ja 0 6 false _ A15.out).mono ?_);rintro e w' ⟨rfl,⟨nd,rfl⟩⟩))
        go_meet
        case rel=>exact ⟨_,(true),(by first|rfl|(simp;done)|(simp [*];done)),H',⟨by have:=Wh.out;first|omega|exact Nat.le_refl _⟩,⟨by (with_reducible repeat (first|refine za ?_ _|refine Ca ?_|refine ya ?_ _));exact qa.out⟩,⟨by repeat (first|(with_reducible first|exact HB.out|apply ta|apply ja|apply ua|refine Aa ?_ Wa.out)|exact HB.out)⟩⟩
      ·replace V5:=Bool.eq_false_iff.mpr V5;subst V5;have H1:(Ya.j1 k1 true Ua Ja La Pa Qa)=some r:=by rw [if_neg (show ¬ (false=true) by decide)] at H;exact H
       clear H;have H:=H1;clear H1;have H':=ia.mk H;clear H;have Xr:wr.cell? ⟨Da,0,none⟩=some (.slice zb Ua.length yb):=(ga qa.out 0).trans rfl;have Wr:wr.cell? ⟨Da,1,none⟩=some (.int .i64 Ja):=(ga qa.out 1).trans rfl;have Vr:wr.cell? ⟨Da,2,none⟩=some (.int .i64 La):=(ga qa.out 2).trans rfl;have Ur:wr.cell? ⟨Da,3,none⟩=some (.int .i64 Pa):=(ga qa.out 3).trans rfl;have Tr:wr.cell? ⟨Da,4,none⟩=some (.slice Yb Qa.length Nb):=(ga qa.out 4).trans rfl;have Ar:=aa qa.out 0;have vr:=aa qa.out 1;have ur:=aa qa.out 2;have tr:=aa qa.out 3;have sr:=aa qa.out 4;go_wp2_with (first|((with_reducible refine qb (f:=54) rfl ?_);refine Qc (some 23) rfl rfl Try.func54 (by kernel_rfl) rfl #[.int .i64 (Ua.length:Int),.int .i64 1,.int .i64 4] rfl (by (try simp only [List.map_toArray,List.map_cons,List.map_nil]);first|done|rfl|(simp only [List.length_drop,List.length_take];rfl)) ?_;(with_reducible refine (Za.calls (Ua.length:Int) 1 4 true _ nS.out).mono ?_);rintro e w' ⟨rfl,⟨nd,rfl⟩⟩;refine ⟨_,rfl,?_⟩)|(go_at_call 54;(with_reducible refine (Za.calls La 0 20 false _ A13.out).mono ?_);rintro e w' ⟨rfl,⟨nd,rfl⟩⟩))
       go_meet
       case rel=>exact ⟨_,(true),(by first|rfl|(simp;done)|(simp [*];done)),H',⟨by have:=Wh.out;first|omega|exact Nat.le_refl _⟩,⟨by (with_reducible repeat (first|refine za ?_ _|refine Ca ?_|refine ya ?_ _));exact qa.out⟩,⟨by repeat (first|(with_reducible first|exact HB.out|apply ta|apply ja|apply ua|refine Aa ?_ Wa.out)|exact HB.out)⟩⟩
     ·replace BB:=Bool.eq_false_iff.mpr BB;subst BB;have H1:(Ya.j1 k1 true Ua Ja La Pa Qa)=some r:=by rw [if_neg (show ¬ (false=true) by decide)] at H;exact H
      clear H;have H:=H1;clear H1;have H':=ia.mk H;clear H;have gw:wr.cell? ⟨Da,0,none⟩=some (.slice zb Ua.length yb):=(ga qa.out 0).trans rfl;have ew:wr.cell? ⟨Da,1,none⟩=some (.int .i64 Ja):=(ga qa.out 1).trans rfl;have dw:wr.cell? ⟨Da,2,none⟩=some (.int .i64 La):=(ga qa.out 2).trans rfl;have cw:wr.cell? ⟨Da,3,none⟩=some (.int .i64 Pa):=(ga qa.out 3).trans rfl;have bw:wr.cell? ⟨Da,4,none⟩=some (.slice Yb Qa.length Nb):=(ga qa.out 4).trans rfl;have Fv:=aa qa.out 0;have Dv:=aa qa.out 1;have Cv:=aa qa.out 2;have Bv:=aa qa.out 3;have wv:=aa qa.out 4;go_wp2_with (first|((with_reducible refine qb (f:=54) rfl ?_);refine Qc (some 23) rfl rfl Try.func54 (by kernel_rfl) rfl #[.int .i64 (Ua.length:Int),.int .i64 1,.int .i64 4] rfl (by (try simp only [List.map_toArray,List.map_cons,List.map_nil]);first|done|rfl|(simp only [List.length_drop,List.length_take];rfl)) ?_;(with_reducible refine (Za.calls (Ua.length:Int) 1 4 false _ nS.out).mono ?_);rintro e w' ⟨rfl,⟨nd,rfl⟩⟩;refine ⟨_,rfl,?_⟩))
      go_meet
      case rel=>exact ⟨_,(true),(by first|rfl|(simp;done)|(simp [*];done)),H',⟨by have:=Wh.out;first|omega|exact Nat.le_refl _⟩,⟨by (with_reducible repeat (first|refine za ?_ _|refine Ca ?_|refine ya ?_ _));exact qa.out⟩,⟨by repeat (first|(with_reducible first|exact HB.out|apply ta|apply ja|apply ua|refine Aa ?_ Wa.out)|exact HB.out)⟩⟩
    case rest =>
     clear gn
     try clear c1
     try clear p1
     try clear q1
     try clear hx1
     try clear c2
     try clear p2
     try clear c3
     try clear Xh
     try clear c4
     try clear Zi
     try clear c5
     try clear c6
     try clear p6
     try clear qF
     try clear oF
     try clear PZ
     try clear BB
     try clear V5
     try clear uN
     try clear TB
     try clear Jw
     try clear Hx
     try clear Xj
     try clear Wj
     try clear Vj
     try clear Uj
     try clear Tj
     try clear Cs
     try clear Bs
     try clear js
     try clear Zr
     try clear Yr
     try clear vw
     try clear uw
     try clear tw
     try clear sw
     try clear qw
     try clear Mo
     try clear Lo
     try clear Ko
     try clear Jo
     try clear Io
     try clear ow
     try clear nw
     try clear mw
     try clear jw
     try clear iw
     try clear Xr
     try clear Wr
     try clear Vr
     try clear Ur
     try clear Tr
     try clear gw
     try clear ew
     try clear dw
     try clear cw
     try clear bw
     try clear uA
     try clear tA
     try clear sA
     try clear rA
     try clear qA
     try clear FH
     try clear EH
     try clear DH
     try clear CH
     try clear BH
     try clear Sj
     try clear Rj
     try clear Qj
     try clear Pj
     try clear Oj
     try clear Gr
     try clear Er
     try clear Dr
     try clear Cr
     try clear Br
     try clear Pv
     try clear Ov
     try clear Nv
     try clear Mv
     try clear Lv
     try clear Ao
     try clear zo
     try clear yo
     try clear xo
     try clear wo
     try clear Kv
     try clear Jv
     try clear Iv
     try clear Hv
     try clear Gv
     try clear Ar
     try clear vr
     try clear ur
     try clear tr
     try clear sr
     try clear Fv
     try clear Dv
     try clear Cv
     try clear Bv
     try clear wv
     try clear oA
     try clear nA
     try clear mA
     try clear lA
     try clear kA
     try clear zH
     try clear yH
     try clear xH
     try clear wH
     try clear vH
     try clear Ld
     try clear Mg
     try clear p2
     try clear Lg
     obtain ⟨kq,NI,rfl,HA,HJ8,qa,HB⟩:=hcut;cases kq with
     | zero=>exact absurd HA.out (by simp [Ya.j1])
     | succ kj8 =>
      have H:=HA.out;clear HA;simp only [Ya.j1] at H
      by_cases c27:NI=true
      ·subst c27;have H1:(some false)=some r:=by rw [if_pos rfl] at H;exact H
       clear H;have H:=H1;clear H1;obtain rfl:=Option.some.inj H;go_wp2;go_ret;exact ⟨by first|rfl|(simp [Na,Ma] <;> rfl)|(simp [*,Na,Ma] <;> rfl),by repeat (first|(with_reducible first|exact HB.out|apply ta|apply ja|apply ua|refine Aa ?_ Wa.out)|exact HB.out)⟩
      ·replace c27:=Bool.eq_false_iff.mpr c27;subst c27;have H1:(Ya.l1 kj8 0 0 Ua Ja La Pa Qa)=some r:=by rw [if_neg (show ¬ (false=true) by decide)] at H;exact H
       clear H;have H:=H1;clear H1;have H':=ia.mk H;clear H;go_wp2
       go_loopg [4,5] kj8 (fun kq v4 v5 w'=>∃ (XB:Int) (Ff:Int),v4 = .int .i64 XB∧v5 = .int .i64 Ff∧ia (Ya.l1 kq XB Ff Ua Ja La Pa Qa=some r)∧ia (kq ≤ kj8)∧ia (w'.heap[Da]? = some (.cells #[(.slice zb Ua.length yb),.int .i64 Ja,.int .i64 La,.int .i64 Pa,(.slice Yb Qa.length Nb)] 30 (0,0)))∧ia (Below w.heap.size w w'))
       case atStart=>exact ⟨(0),(0),(by first|rfl|(simp;done)|(simp [*];done)),(by first|rfl|(simp;done)|(simp [*];done)),H',⟨Nat.le_refl _⟩,⟨by (with_reducible repeat (first|refine za ?_ _|refine Ca ?_|refine ya ?_ _));exact qa.out⟩,⟨by repeat (first|(with_reducible first|exact HB.out|apply ta|apply ja|apply ua|refine Aa ?_ Wa.out)|exact HB.out)⟩⟩
       case round =>
        clear H'
        try clear c1
        try clear p1
        try clear q1
        try clear hx1
        try clear c2
        try clear p2
        try clear c3
        try clear Xh
        try clear c4
        try clear Zi
        try clear c5
        try clear c6
        try clear p6
        try clear qF
        try clear oF
        try clear PZ
        try clear BB
        try clear V5
        try clear uN
        try clear TB
        try clear Jw
        try clear Hx
        try clear c27
        try clear Xj
        try clear Wj
        try clear Vj
        try clear Uj
        try clear Tj
        try clear Cs
        try clear Bs
        try clear js
        try clear Zr
        try clear Yr
        try clear vw
        try clear uw
        try clear tw
        try clear sw
        try clear qw
        try clear Mo
        try clear Lo
        try clear Ko
        try clear Jo
        try clear Io
        try clear ow
        try clear nw
        try clear mw
        try clear jw
        try clear iw
        try clear Xr
        try clear Wr
        try clear Vr
        try clear Ur
        try clear Tr
        try clear gw
        try clear ew
        try clear dw
        try clear cw
        try clear bw
        try clear uA
        try clear tA
        try clear sA
        try clear rA
        try clear qA
        try clear FH
        try clear EH
        try clear DH
        try clear CH
        try clear BH
        try clear Sj
        try clear Rj
        try clear Qj
        try clear Pj
        try clear Oj
        try clear Gr
        try clear Er
        try clear Dr
        try clear Cr
        try clear Br
        try clear Pv
        try clear Ov
        try clear Nv
        try clear Mv
        try clear Lv
        try clear Ao
        try clear zo
        try clear yo
        try clear xo
        try clear wo
        try clear Kv
        try clear Jv
        try clear Iv
        try clear Hv
        try clear Gv
        try clear Ar
        try clear vr
        try clear ur
        try clear tr
        try clear sr
        try clear Fv
        try clear Dv
        try clear Cv
        try clear Bv
        try clear wv
        try clear oA
        try clear nA
        try clear mA
        try clear lA
        try clear kA
        try clear zH
        try clear yH
        try clear xH
        try clear wH
        try clear vH
        try clear Ld
        try clear p1
        try clear qF
        try clear Mg
        try clear p2
        try clear p6
        try clear q1
        try clear oF
        try clear Lg
        (try clear HA);(try clear j6);(try clear qa);(try clear HB);obtain ⟨XB,Ff,rfl,rfl,HA,j6,qa,HB⟩:=hrel;cases gk with
        | zero=>exact absurd HA.out (by simp [Ya.l1])
        | succ k3 =>
         have H:=HA.out;clear HA;simp only [Ya.l1] at H
         by_cases T5:Ff < (Qa.length:Int)
         ·rw [if_pos T5] at H;have zaf:decide (Ff < (Qa.length:Int))=true:=decide_eq_true T5;clear T5
          by_cases XM:0 ≤ Ff
          ·rw [if_pos XM] at H;have GA:decide (0 ≤ Ff)=true:=decide_eq_true XM;clear XM
           by_cases fI:(wrap64 (XB + (((Oa Qa Ff).f0).length:Int))) > 1000
           ·rw [if_pos fI] at H;have JL:decide (1000 < (wrap64 (XB + (((Oa Qa Ff).f0).length:Int))))=true:=decide_eq_true fI;clear fI;obtain rfl:=Option.some.inj H;have PD:wr.cell? ⟨Da,0,none⟩=some (.slice zb Ua.length yb):=(ga qa.out 0).trans rfl;have OD:wr.cell? ⟨Da,1,none⟩=some (.int .i64 Ja):=(ga qa.out 1).trans rfl;have ND:wr.cell? ⟨Da,2,none⟩=some (.int .i64 La):=(ga qa.out 2).trans rfl;have MD:wr.cell? ⟨Da,3,none⟩=some (.int .i64 Pa):=(ga qa.out 3).trans rfl;have LD:wr.cell? ⟨Da,4,none⟩=some (.slice Yb Qa.length Nb):=(ga qa.out 4).trans rfl;have RC:=aa qa.out 0;have QC:=aa qa.out 1;have PC:=aa qa.out 2;have OC:=aa qa.out 3;have NC:=aa qa.out 4;have Rs:0 ≤ (Ff:Int):=of_decide_eq_true (by first|(with_reducible assumption)|assumption);have Qs:Ff < (Qa.length:Int):=of_decide_eq_true (by first|(with_reducible assumption)|assumption);obtain ⟨Zh,oS,rQ,cI,Yk,fo,eo,Zn,Yn,qo,vo⟩:=wg Sh.out Ff Rs Qs;cases cI;replace Yk:=Ea HB.out Yk;replace fo:=Ea HB.out fo;replace eo:=Ea HB.out eo;replace Zn:=Ea HB.out Zn;replace Yn:=Ea HB.out Yn;have XL:=ia.mk vo;have bM:=ia.mk qo;clear vo qo;replace Rs:=eq_true Rs;replace Qs:=eq_true Qs
            try go_wp2
            have Kb:=ia.mk (Ca qa.out);have Ub:=ia.mk (ua HB.out);clear qa HB;have qa:=Kb;have HB:=Ub;clear Kb Ub;refine Mi (n:=12) (S:=fun w'=>True) (ds:=[]) #[false,false,false,false,false,false,false,false,false,false,false,false] (by kernel_rfl) rfl rfl trivial (fun hHeld=>?_);refine dh Ya.PN Ya.pI (fun We Jm=>?_);generalize wr.drew=w32 at qa HB hHeld ⊢;refine Ic (i:=0) (N:=some 75) (v:=?_) (a':=?_) #[true,false,false,false,false,false,false,false,false,false,false,false] rfl rfl (nc We.out (by kernel_rfl)) (fun _ _ _ h=>h) (Or.inl ⟨by rfl,?_⟩) ?_ ?_;rotate_left
            ·intro w';go_simp;with_reducible rfl
            rotate_left
            ·simp only [Act.put,List.setIfInBounds_toArray,List.set_cons_zero,List.set_cons_succ,Cb,Db]
             rfl
            refine Ic (i:=1) (N:=some 76) (v:=?_) (a':=?_) #[true,true,false,false,false,false,false,false,false,false,false,false] rfl rfl (nc We.out (by kernel_rfl)) (fun _ _ _ h=>h) (Or.inl ⟨by rfl,?_⟩) ?_ ?_;rotate_left
            ·intro w';go_simp;with_reducible rfl
            rotate_left
            ·simp only [Act.put,List.setIfInBounds_toArray,List.set_cons_zero,List.set_cons_succ,Cb,Db]
             rfl
            refine Ic (i:=2) (N:=some 77) (v:=?_) (a':=?_) #[true,true,true,false,false,false,false,false,false,false,false,false] rfl rfl (nc We.out (by kernel_rfl)) (fun _ _ _ h=>h) (Or.inl ⟨by rfl,?_⟩) ?_ ?_;rotate_left
            ·intro w';go_simp;with_reducible rfl
            rotate_left
            ·simp only [Act.put,List.setIfInBounds_toArray,List.set_cons_zero,List.set_cons_succ,Cb,Db]
             rfl
            refine Ic (i:=3) (N:=some 78) (v:=undef) (a':=?_) #[true,true,true,true,false,false,false,false,false,false,false,false] rfl rfl (nc We.out (by kernel_rfl)) (fun _ _ _ h=>h) (Or.inr ⟨by rfl,rfl⟩) ?_ ?_;rotate_left
            ·simp only [Act.put,List.setIfInBounds_toArray,List.set_cons_zero,List.set_cons_succ,Cb,Db]
             rfl
            refine Ic (i:=4) (N:=some 79) (v:=undef) (a':=?_) #[true,true,true,true,true,false,false,false,false,false,false,false] rfl rfl (nc We.out (by kernel_rfl)) (fun _ _ _ h=>h) (Or.inr ⟨by rfl,rfl⟩) ?_ ?_;rotate_left
            ·simp only [Act.put,List.setIfInBounds_toArray,List.set_cons_zero,List.set_cons_succ,Cb,Db]
             rfl
            refine Ic (i:=5) (N:=some 80) (v:=undef) (a':=?_) #[true,true,true,true,true,true,false,false,false,false,false,false] rfl rfl (nc We.out (by kernel_rfl)) (fun _ _ _ h=>h) (Or.inr ⟨by rfl,rfl⟩) ?_ ?_;rotate_left
            ·simp only [Act.put,List.setIfInBounds_toArray,List.set_cons_zero,List.set_cons_succ,Cb,Db]
             rfl
            refine Ic (i:=6) (N:=some 81) (v:=undef) (a':=?_) #[true,true,true,true,true,true,true,false,false,false,false,false] rfl rfl (nc We.out (by kernel_rfl)) (fun _ _ _ h=>h) (Or.inr ⟨by rfl,rfl⟩) ?_ ?_;rotate_left
            ·simp only [Act.put,List.setIfInBounds_toArray,List.set_cons_zero,List.set_cons_succ,Cb,Db]
             rfl
            refine Ic (i:=7) (N:=some 82) (v:=undef) (a':=?_) #[true,true,true,true,true,true,true,true,false,false,false,false] rfl rfl (nc We.out (by kernel_rfl)) (fun _ _ _ h=>h) (Or.inr ⟨by rfl,rfl⟩) ?_ ?_;rotate_left
            ·simp only [Act.put,List.setIfInBounds_toArray,List.set_cons_zero,List.set_cons_succ,Cb,Db]
             rfl
            refine Ic (i:=8) (N:=some 83) (v:=undef) (a':=?_) #[true,true,true,true,true,true,true,true,true,false,false,false] rfl rfl (nc We.out (by kernel_rfl)) (fun _ _ _ h=>h) (Or.inr ⟨by rfl,rfl⟩) ?_ ?_;rotate_left
            ·simp only [Act.put,List.setIfInBounds_toArray,List.set_cons_zero,List.set_cons_succ,Cb,Db]
             rfl
            refine Ic (i:=9) (N:=some 84) (v:=undef) (a':=?_) #[true,true,true,true,true,true,true,true,true,true,false,false] rfl rfl (nc We.out (by kernel_rfl)) (fun _ _ _ h=>h) (Or.inr ⟨by rfl,rfl⟩) ?_ ?_;rotate_left
            ·simp only [Act.put,List.setIfInBounds_toArray,List.set_cons_zero,List.set_cons_succ,Cb,Db]
             rfl
            refine Ic (i:=10) (N:=some 85) (v:=undef) (a':=?_) #[true,true,true,true,true,true,true,true,true,true,true,false] rfl rfl (nc We.out (by kernel_rfl)) (fun _ _ _ h=>h) (Or.inr ⟨by rfl,rfl⟩) ?_ ?_;rotate_left
            ·simp only [Act.put,List.setIfInBounds_toArray,List.set_cons_zero,List.set_cons_succ,Cb,Db]
             rfl
            refine Ic (i:=11) (N:=some 86) (v:=?_) (a':=?_) #[true,true,true,true,true,true,true,true,true,true,true,true] rfl rfl (nc We.out (by kernel_rfl)) (fun _ _ _ h=>h) (Or.inl ⟨by rfl,?_⟩) ?_ ?_;rotate_left
            ·intro w';go_simp;with_reducible rfl
            rotate_left
            ·simp only [Act.put,List.setIfInBounds_toArray,List.set_cons_zero,List.set_cons_succ,Cb,Db]
             rfl
            refine Fl (Vi We.out (by kernel_rfl)) ?_
            try go_wp2
            go_ret;exact ⟨by first|rfl|(simp [Na,Ma] <;> rfl)|(simp [*,Na,Ma] <;> rfl),by repeat (first|(with_reducible first|exact HB.out|apply ta|apply ja|apply ua|refine Aa ?_ Wa.out)|exact HB.out)⟩
           ·rw [if_neg fI] at H;have JL:decide (1000 < (wrap64 (XB + (((Oa Qa Ff).f0).length:Int))))=false:=decide_eq_false fI;clear fI;replace H:=Option.bind_eq_some_iff.mp H;obtain ⟨t111,Yag,H⟩:=H;replace H:(if t111=true then (Ya.l1 k3 (wrap64 (XB + (((Oa Qa Ff).f0).length:Int))) (wrap64 (Ff + 1)) Ua Ja La Pa Qa) else (some false))=some r:=H;have A33:=ia.mk Yag;clear Yag
            by_cases c34:t111=true
            ·subst c34;have H1:(Ya.l1 k3 (wrap64 (XB + (((Oa Qa Ff).f0).length:Int))) (wrap64 (Ff + 1)) Ua Ja La Pa Qa)=some r:=by rw [if_pos rfl] at H;exact H
             clear H;have H:=H1;clear H1;have H':=ia.mk H;clear H;have wz:wr.cell? ⟨Da,0,none⟩=some (.slice zb Ua.length yb):=(ga qa.out 0).trans rfl;have vz:wr.cell? ⟨Da,1,none⟩=some (.int .i64 Ja):=(ga qa.out 1).trans rfl;have uz:wr.cell? ⟨Da,2,none⟩=some (.int .i64 La):=(ga qa.out 2).trans rfl;have rz:wr.cell? ⟨Da,3,none⟩=some (.int .i64 Pa):=(ga qa.out 3).trans rfl;have qz:wr.cell? ⟨Da,4,none⟩=some (.slice Yb Qa.length Nb):=(ga qa.out 4).trans rfl;have Ny:=aa qa.out 0;have My:=aa qa.out 1;have Ly:=aa qa.out 2;have Ky:=aa qa.out 3;have Jy:=aa qa.out 4;have Rs:0 ≤ (Ff:Int):=of_decide_eq_true (by first|(with_reducible assumption)|assumption);have Qs:Ff < (Qa.length:Int):=of_decide_eq_true (by first|(with_reducible assumption)|assumption);obtain ⟨Zh,oS,rQ,cI,Yk,fo,eo,Zn,Yn,qo,vo⟩:=wg Sh.out Ff Rs Qs;cases cI;replace Yk:=Ea HB.out Yk;replace fo:=Ea HB.out fo;replace eo:=Ea HB.out eo;replace Zn:=Ea HB.out Zn;replace Yn:=Ea HB.out Yn;have XL:=ia.mk vo;have bM:=ia.mk qo;clear vo qo;replace Rs:=eq_true Rs;replace Qs:=eq_true Qs
             try go_wp2
             have Kb:=ia.mk (Ca qa.out);have Ub:=ia.mk (ua HB.out);clear qa HB;have qa:=Kb;have HB:=Ub;clear Kb Ub;have Qp:0 ≤ (Ff:Int):=of_decide_eq_true (by first|(with_reducible assumption)|assumption);have Np:Ff < (Qa.length:Int):=of_decide_eq_true (by first|(with_reducible assumption)|assumption);obtain ⟨Gl,Kj,Hj,mE,Ch,Ek,Dk,Ck,Bk,oo,uo⟩:=wg Sh.out Ff Qp Np;have Cu:=Bk;have Du:=Ck;have Eu:=Dk;have Fu:=Ek;have Gu:=Ch;obtain rfl:Zh=Gl:=(by injection mE);replace Ch:=Ea HB.out Ch;replace Ek:=Ea HB.out Ek;replace Dk:=Ea HB.out Dk;replace Ck:=Ea HB.out Ck;replace Bk:=Ea HB.out Bk;have mq:=ia.mk uo;have Kz:=ia.mk oo;clear uo oo;replace Qp:=eq_true Qp;replace Np:=eq_true Np;refine Mi (n:=12) (S:=fun w'=>w'.cell? ⟨Da,0,none⟩=some (.slice zb Ua.length yb)∧w'.cell? ⟨Da,1,none⟩=some (.int .i64 Ja)∧w'.cell? ⟨Da,2,none⟩=some (.int .i64 La)∧w'.cell? ⟨Da,3,none⟩=some (.int .i64 Pa)∧w'.cell? ⟨Da,4,none⟩=some (.slice (some Zh) Qa.length Nb)∧w'.cell? (Zh.add ((Ff).toNat * 5))=some (.slice Kj ((Oa Qa Ff).f0).length Hj)∧w'.cell? ⟨(Zh.add ((Ff).toNat * 5)).block,(Zh.add ((Ff).toNat * 5)).off + 1,none⟩=some (.int .i64 ((Oa Qa Ff).f1))∧w'.cell? ⟨(Zh.add ((Ff).toNat * 5)).block,(Zh.add ((Ff).toNat * 5)).off + 2,none⟩=some (.int .i64 ((Oa Qa Ff).f2))∧w'.cell? ⟨(Zh.add ((Ff).toNat * 5)).block,(Zh.add ((Ff).toNat * 5)).off + 3,none⟩=some (.int .i64 ((Oa Qa Ff).f3))∧w'.cell? ⟨(Zh.add ((Ff).toNat * 5)).block,(Zh.add ((Ff).toNat * 5)).off + 4,none⟩=some (.int .i64 ((Oa Qa Ff).f4))) (ds:=[]) #[false,false,false,false,false,false,false,false,false,false,false,false] (by kernel_rfl) rfl rfl ⟨(ga qa.out 0).trans rfl,(ga qa.out 1).trans rfl,(ga qa.out 2).trans rfl,(ga qa.out 3).trans rfl,(ga qa.out 4).trans rfl,(Ea HB.out Gu),(Ea HB.out Fu),(Ea HB.out Eu),(Ea HB.out Du),(Ea HB.out Cu)⟩ (fun hHeld=>?_);refine dh Ya.PN Ya.pI (fun We Jm=>?_);generalize wr.drew=Ys at qa HB mq Ch Ek Dk Ck Bk hHeld ⊢;refine Ic (i:=0) (N:=some 75) (v:=?_) (a':=?_) #[true,false,false,false,false,false,false,false,false,false,false,false] rfl rfl (nc We.out (by kernel_rfl)) (fun _ _ _ h=>h) (Or.inl ⟨by rfl,?_⟩) ?_ ?_;rotate_left
             ·intro w';go_simp;with_reducible rfl
             rotate_left
             ·simp only [Act.put,List.setIfInBounds_toArray,List.set_cons_zero,List.set_cons_succ,Cb,Db]
              rfl
             refine Ic (i:=1) (N:=some 76) (v:=?_) (a':=?_) #[true,true,false,false,false,false,false,false,false,false,false,false] rfl rfl (nc We.out (by kernel_rfl)) (fun _ _ _ h=>h) (Or.inl ⟨by rfl,?_⟩) ?_ ?_;rotate_left
             ·intro w';go_simp;with_reducible rfl
             rotate_left
             ·simp only [Act.put,List.setIfInBounds_toArray,List.set_cons_zero,List.set_cons_succ,Cb,Db]
              rfl
             refine Ic (i:=2) (N:=some 77) (v:=?_) (a':=?_) #[true,true,true,false,false,false,false,false,false,false,false,false] rfl rfl (nc We.out (by kernel_rfl)) (fun _ _ _ h=>h) (Or.inl ⟨by rfl,?_⟩) ?_ ?_;rotate_left
             ·intro w';go_simp;with_reducible rfl
             rotate_left
             ·simp only [Act.put,List.setIfInBounds_toArray,List.set_cons_zero,List.set_cons_succ,Cb,Db]
              rfl
             refine Ic (i:=4) (N:=some 79) (v:=?_) (a':=?_) #[true,true,true,false,true,false,false,false,false,false,false,false] rfl rfl (nc We.out (by kernel_rfl)) (fun _ _ _ h=>h) (Or.inl ⟨by rfl,?_⟩) ?_ ?_;rotate_left
             ·intro w';go_simp;with_reducible rfl
             rotate_left
             ·simp only [Act.put,List.setIfInBounds_toArray,List.set_cons_zero,List.set_cons_succ,Cb,Db]
              rfl
             refine Ic (i:=6) (N:=some 81) (v:=?_) (a':=?_) #[true,true,true,false,true,false,true,false,false,false,false,false] rfl rfl (nc We.out (by kernel_rfl)) (fun _ _ _ h=>h) (Or.inl ⟨by rfl,?_⟩) ?_ ?_;rotate_left
             ·intro w';go_simp;with_reducible rfl
             rotate_left
             ·simp only [Act.put,List.setIfInBounds_toArray,List.set_cons_zero,List.set_cons_succ,Cb,Db]
              rfl
             refine Mf (i:=3) (N:=some 78) (v:=?_) (a':=?_) #[true,true,true,true,true,false,true,false,false,false,false,false] rfl rfl (Od We.out Jm.out (by kernel_rfl)) (fun _ _ _ h=>h) (Or.inl ⟨by rfl,?_⟩) hHeld ?_ ?_;rotate_left
             ·rintro w' ⟨s0,s1,s2,s3,s4,s5,s6,s7,s8,s9⟩;go_simp;with_reducible rfl
             rotate_left
             ·simp only [Act.put,List.setIfInBounds_toArray,List.set_cons_zero,List.set_cons_succ,Cb,Db]
              rfl
             refine Mf (i:=5) (N:=some 80) (v:=?_) (a':=?_) #[true,true,true,true,true,true,true,false,false,false,false,false] rfl rfl (Od We.out Jm.out (by kernel_rfl)) (fun _ _ _ h=>h) (Or.inl ⟨by rfl,?_⟩) hHeld ?_ ?_;rotate_left
             ·rintro w' ⟨s0,s1,s2,s3,s4,s5,s6,s7,s8,s9⟩;go_simp;with_reducible rfl
             rotate_left
             ·simp only [Act.put,List.setIfInBounds_toArray,List.set_cons_zero,List.set_cons_succ,Cb,Db]
              rfl
             refine Ic (i:=7) (N:=some 82) (v:=?_) (a':=?_) #[true,true,true,true,true,true,true,true,false,false,false,false] rfl rfl (nc We.out (by kernel_rfl)) (fun _ _ _ h=>h) (Or.inl ⟨by rfl,?_⟩) ?_ ?_;rotate_left
             ·intro w';go_simp;with_reducible rfl
             rotate_left
             ·simp only [Act.put,List.setIfInBounds_toArray,List.set_cons_zero,List.set_cons_succ,Cb,Db]
              rfl
             refine Mf (i:=8) (N:=some 83) (v:=?_) (a':=?_) #[true,true,true,true,true,true,true,true,true,false,false,false] rfl rfl (Od We.out Jm.out (by kernel_rfl)) (fun _ _ _ h=>h) (Or.inl ⟨by rfl,?_⟩) hHeld ?_ ?_;rotate_left
             ·rintro w' ⟨s0,s1,s2,s3,s4,s5,s6,s7,s8,s9⟩;go_simp;with_reducible rfl
             rotate_left
             ·simp only [Act.put,List.setIfInBounds_toArray,List.set_cons_zero,List.set_cons_succ,Cb,Db]
              rfl
             refine Gq (i:=9) (N:=some 84) #[true,true,true,true,true,true,true,true,true,true,false,false] rfl rfl (jk We.out (by kernel_rfl)) (by decide) (fun K hK=>?_);refine Um Try.func87 (by kernel_rfl) rfl #[.agg #[.slice zb Ua.length yb,.int .i64 Ja,.int .i64 La,.int .i64 Pa,.slice (some Zh) Qa.length Nb],.agg #[.slice Kj ((Oa Qa Ff).f0).length Hj,.int .i64 ((Oa Qa Ff).f1),.int .i64 ((Oa Qa Ff).f2),.int .i64 ((Oa Qa Ff).f3),.int .i64 ((Oa Qa Ff).f4)]] (by rfl) rfl rfl (by (try simp only [List.map_toArray,List.map_cons,List.map_nil]);first|done|rfl|(simp only [List.length_drop,List.length_take];rfl)) ?_;with_reducible refine (tc.calls k3 _ _ Ua Ja La Pa _ _ Qa _ _ ((Oa Qa Ff).f0) ((Oa Qa Ff).f1) ((Oa Qa Ff).f2) ((Oa Qa Ff).f3) ((Oa Qa Ff).f4) true _ ?td ?qd ?Xf ?Wf ?Uz ?Tz A33.out).mono ?_
             (case td=>repeat (first|exact (Kd.Lb kg.out HB.out)|(with_reducible refine Kd.Gc ?_ _)|(with_reducible refine Kd.Fc ?_ _)|(with_reducible refine Kd.xd ?_)))
             (case qd=>exact Hg.out)
             (case Xf=>repeat (first|exact (Kd.Lb Sh.out HB.out)|(with_reducible refine Kd.Gc ?_ _)|(with_reducible refine Kd.Fc ?_ _)|(with_reducible refine Kd.xd ?_)))
             (case Wf=>exact fk.out)
             (case Uz=>repeat (first|exact (Kd.Lb mq.out HB.out)|(with_reducible refine Kd.Gc ?_ _)|(with_reducible refine Kd.Fc ?_ _)|(with_reducible refine Kd.xd ?_)))
             (case Tz=>exact Kz.out)
             rintro e w37 ⟨rfl,hb⟩;refine ⟨_,rfl,?_⟩;have Kb:=ia.mk (Ta (g:=Da) (o:=.cells #[.slice zb Ua.length yb,.int .i64 Ja,.int .i64 La,.int .i64 Pa,.slice (some Zh) Qa.length Nb] 30 (0,0)) (by (with_reducible repeat (first|refine za ?_ _|refine Ca ?_|refine ya ?_ _));exact qa.out) hb);have Ub:=ia.mk (Ra (by repeat (first|(with_reducible first|exact HB.out|apply ta|apply ja|apply ua|refine Aa ?_ Wa.out)|exact HB.out)) hb);clear qa HB;have qa:=Kb;have HB:=Ub;clear Kb Ub;(try clear hb);(try clear Li);(try clear hk);(try clear hi);refine hK.out _ _ ⟨(ga qa.out 0).trans rfl,(ga qa.out 1).trans rfl,(ga qa.out 2).trans rfl,(ga qa.out 3).trans rfl,(ga qa.out 4).trans rfl,(Ea HB.out Gu),(Ea HB.out Fu),(Ea HB.out Eu),(Ea HB.out Du),(Ea HB.out Cu)⟩ (fun hHeld=>?_);clear hK K;refine Mm (a':=?_) ?_ ?_;rotate_left
             ·show Act.put _ (some 84) _=_
              simp only [Act.put,List.setIfInBounds_toArray,List.set_cons_zero,List.set_cons_succ,Cb,Db]
              rfl
             refine Ic (i:=10) (N:=some 85) (v:=?_) (a':=?_) #[true,true,true,true,true,true,true,true,true,true,true,false] rfl rfl (nc We.out (by kernel_rfl)) (fun _ _ _ h=>h) (Or.inl ⟨by rfl,?_⟩) ?_ ?_;rotate_left
             ·intro w';go_simp;with_reducible rfl
             rotate_left
             ·simp only [Act.put,List.setIfInBounds_toArray,List.set_cons_zero,List.set_cons_succ,Cb,Db]
              rfl
             refine Ic (i:=11) (N:=some 86) (v:=?_) (a':=?_) #[true,true,true,true,true,true,true,true,true,true,true,true] rfl rfl (nc We.out (by kernel_rfl)) (fun _ _ _ h=>h) (Or.inl ⟨by rfl,?_⟩) ?_ ?_;rotate_left
             ·intro w';go_simp;with_reducible rfl
             rotate_left
             ·simp only [Act.put,List.setIfInBounds_toArray,List.set_cons_zero,List.set_cons_succ,Cb,Db]
              rfl
             refine Fl (Vi We.out (by kernel_rfl)) ?_
             try go_wp2
             go_roundg k3
             case measure=>have:=Wh.out;have:=HJ8.out;have:=j6.out;omega
             case rel=>exact ⟨(wrap64 (XB + (((Oa Qa Ff).f0).length:Int))),(wrap64 (Ff + 1)),(by first|rfl|(simp;done)|(simp [*];done)),(by first|rfl|(simp;done)|(simp [*];done)),H',⟨by have:=Wh.out;have:=HJ8.out;have:=j6.out;omega⟩,⟨by (with_reducible repeat (first|refine za ?_ _|refine Ca ?_|refine ya ?_ _));exact qa.out⟩,⟨by repeat (first|(with_reducible first|exact HB.out|apply ta|apply ja|apply ua|refine Aa ?_ Wa.out)|exact HB.out)⟩⟩
            ·replace c34:=Bool.eq_false_iff.mpr c34;subst c34;have H1:(some false)=some r:=by rw [if_neg (show ¬ (false=true) by decide)] at H;exact H
             clear H;have H:=H1;clear H1;obtain rfl:=Option.some.inj H;have Zv:wr.cell? ⟨Da,0,none⟩=some (.slice zb Ua.length yb):=(ga qa.out 0).trans rfl;have Yv:wr.cell? ⟨Da,1,none⟩=some (.int .i64 Ja):=(ga qa.out 1).trans rfl;have Xv:wr.cell? ⟨Da,2,none⟩=some (.int .i64 La):=(ga qa.out 2).trans rfl;have Wv:wr.cell? ⟨Da,3,none⟩=some (.int .i64 Pa):=(ga qa.out 3).trans rfl;have Vv:wr.cell? ⟨Da,4,none⟩=some (.slice Yb Qa.length Nb):=(ga qa.out 4).trans rfl;have vv:=aa qa.out 0;have uv:=aa qa.out 1;have tv:=aa qa.out 2;have qv:=aa qa.out 3;have ov:=aa qa.out 4;have Rs:0 ≤ (Ff:Int):=of_decide_eq_true (by first|(with_reducible assumption)|assumption);have Qs:Ff < (Qa.length:Int):=of_decide_eq_true (by first|(with_reducible assumption)|assumption);obtain ⟨Zh,oS,rQ,cI,Yk,fo,eo,Zn,Yn,qo,vo⟩:=wg Sh.out Ff Rs Qs;cases cI;replace Yk:=Ea HB.out Yk;replace fo:=Ea HB.out fo;replace eo:=Ea HB.out eo;replace Zn:=Ea HB.out Zn;replace Yn:=Ea HB.out Yn;have XL:=ia.mk vo;have bM:=ia.mk qo;clear vo qo;replace Rs:=eq_true Rs;replace Qs:=eq_true Qs
             try go_wp2
             have Kb:=ia.mk (Ca qa.out);have Ub:=ia.mk (ua HB.out);clear qa HB;have qa:=Kb;have HB:=Ub;clear Kb Ub;have Qp:0 ≤ (Ff:Int):=of_decide_eq_true (by first|(with_reducible assumption)|assumption);have Np:Ff < (Qa.length:Int):=of_decide_eq_true (by first|(with_reducible assumption)|assumption);obtain ⟨Gl,Kj,Hj,mE,Ch,Ek,Dk,Ck,Bk,oo,uo⟩:=wg Sh.out Ff Qp Np;have Cu:=Bk;have Du:=Ck;have Eu:=Dk;have Fu:=Ek;have Gu:=Ch;obtain rfl:Zh=Gl:=(by injection mE);replace Ch:=Ea HB.out Ch;replace Ek:=Ea HB.out Ek;replace Dk:=Ea HB.out Dk;replace Ck:=Ea HB.out Ck;replace Bk:=Ea HB.out Bk;have mq:=ia.mk uo;have Kz:=ia.mk oo;clear uo oo;replace Qp:=eq_true Qp;replace Np:=eq_true Np;refine Mi (n:=12) (S:=fun w'=>w'.cell? ⟨Da,0,none⟩=some (.slice zb Ua.length yb)∧w'.cell? ⟨Da,1,none⟩=some (.int .i64 Ja)∧w'.cell? ⟨Da,2,none⟩=some (.int .i64 La)∧w'.cell? ⟨Da,3,none⟩=some (.int .i64 Pa)∧w'.cell? ⟨Da,4,none⟩=some (.slice (some Zh) Qa.length Nb)∧w'.cell? (Zh.add ((Ff).toNat * 5))=some (.slice Kj ((Oa Qa Ff).f0).length Hj)∧w'.cell? ⟨(Zh.add ((Ff).toNat * 5)).block,(Zh.add ((Ff).toNat * 5)).off + 1,none⟩=some (.int .i64 ((Oa Qa Ff).f1))∧w'.cell? ⟨(Zh.add ((Ff).toNat * 5)).block,(Zh.add ((Ff).toNat * 5)).off + 2,none⟩=some (.int .i64 ((Oa Qa Ff).f2))∧w'.cell? ⟨(Zh.add ((Ff).toNat * 5)).block,(Zh.add ((Ff).toNat * 5)).off + 3,none⟩=some (.int .i64 ((Oa Qa Ff).f3))∧w'.cell? ⟨(Zh.add ((Ff).toNat * 5)).block,(Zh.add ((Ff).toNat * 5)).off + 4,none⟩=some (.int .i64 ((Oa Qa Ff).f4))) (ds:=[]) #[false,false,false,false,false,false,false,false,false,false,false,false] (by kernel_rfl) rfl rfl ⟨(ga qa.out 0).trans rfl,(ga qa.out 1).trans rfl,(ga qa.out 2).trans rfl,(ga qa.out 3).trans rfl,(ga qa.out 4).trans rfl,(Ea HB.out Gu),(Ea HB.out Fu),(Ea HB.out Eu),(Ea HB.out Du),(Ea HB.out Cu)⟩ (fun hHeld=>?_);refine dh Ya.PN Ya.pI (fun We Jm=>?_);generalize wr.drew=pq at qa HB mq Ch Ek Dk Ck Bk hHeld ⊢;refine Ic (i:=0) (N:=some 75) (v:=?_) (a':=?_) #[true,false,false,false,false,false,false,false,false,false,false,false] rfl rfl (nc We.out (by kernel_rfl)) (fun _ _ _ h=>h) (Or.inl ⟨by rfl,?_⟩) ?_ ?_;rotate_left
             ·intro w';go_simp;with_reducible rfl
             rotate_left
             ·simp only [Act.put,List.setIfInBounds_toArray,List.set_cons_zero,List.set_cons_succ,Cb,Db]
              rfl
             refine Ic (i:=1) (N:=some 76) (v:=?_) (a':=?_) #[true,true,false,false,false,false,false,false,false,false,false,false] rfl rfl (nc We.out (by kernel_rfl)) (fun _ _ _ h=>h) (Or.inl ⟨by rfl,?_⟩) ?_ ?_;rotate_left
             ·intro w';go_simp;with_reducible rfl
             rotate_left
             ·simp only [Act.put,List.setIfInBounds_toArray,List.set_cons_zero,List.set_cons_succ,Cb,Db]
              rfl
             refine Ic (i:=2) (N:=some 77) (v:=?_) (a':=?_) #[true,true,true,false,false,false,false,false,false,false,false,false] rfl rfl (nc We.out (by kernel_rfl)) (fun _ _ _ h=>h) (Or.inl ⟨by rfl,?_⟩) ?_ ?_;rotate_left
             ·intro w';go_simp;with_reducible rfl
             rotate_left
             ·simp only [Act.put,List.setIfInBounds_toArray,List.set_cons_zero,List.set_cons_succ,Cb,Db]
              rfl
             refine Ic (i:=4) (N:=some 79) (v:=?_) (a':=?_) #[true,true,true,false,true,false,false,false,false,false,false,false] rfl rfl (nc We.out (by kernel_rfl)) (fun _ _ _ h=>h) (Or.inl ⟨by rfl,?_⟩) ?_ ?_;rotate_left
             ·intro w';go_simp;with_reducible rfl
             rotate_left
             ·simp only [Act.put,List.setIfInBounds_toArray,List.set_cons_zero,List.set_cons_succ,Cb,Db]
              rfl
             refine Ic (i:=6) (N:=some 81) (v:=?_) (a':=?_) #[true,true,true,false,true,false,true,false,false,false,false,false] rfl rfl (nc We.out (by kernel_rfl)) (fun _ _ _ h=>h) (Or.inl ⟨by rfl,?_⟩) ?_ ?_;rotate_left
             ·intro w';go_simp;with_reducible rfl
             rotate_left
             ·simp only [Act.put,List.setIfInBounds_toArray,List.set_cons_zero,List.set_cons_succ,Cb,Db]
              rfl
             refine Mf (i:=3) (N:=some 78) (v:=?_) (a':=?_) #[true,true,true,true,true,false,true,false,false,false,false,false] rfl rfl (Od We.out Jm.out (by kernel_rfl)) (fun _ _ _ h=>h) (Or.inl ⟨by rfl,?_⟩) hHeld ?_ ?_;rotate_left
             ·rintro w' ⟨s0,s1,s2,s3,s4,s5,s6,s7,s8,s9⟩;go_simp;with_reducible rfl
             rotate_left
             ·simp only [Act.put,List.setIfInBounds_toArray,List.set_cons_zero,List.set_cons_succ,Cb,Db]
              rfl
             refine Mf (i:=5) (N:=some 80) (v:=?_) (a':=?_) #[true,true,true,true,true,true,true,false,false,false,false,false] rfl rfl (Od We.out Jm.out (by kernel_rfl)) (fun _ _ _ h=>h) (Or.inl ⟨by rfl,?_⟩) hHeld ?_ ?_;rotate_left
             ·rintro w' ⟨s0,s1,s2,s3,s4,s5,s6,s7,s8,s9⟩;go_simp;with_reducible rfl
             rotate_left
             ·simp only [Act.put,List.setIfInBounds_toArray,List.set_cons_zero,List.set_cons_succ,Cb,Db]
              rfl
             refine Ic (i:=7) (N:=some 82) (v:=?_) (a':=?_) #[true,true,true,true,true,true,true,true,false,false,false,false] rfl rfl (nc We.out (by kernel_rfl)) (fun _ _ _ h=>h) (Or.inl ⟨by rfl,?_⟩) ?_ ?_;rotate_left
             ·intro w';go_simp;with_reducible rfl
             rotate_left
             ·simp only [Act.put,List.setIfInBounds_toArray,List.set_cons_zero,List.set_cons_succ,Cb,Db]
              rfl
             refine Mf (i:=8) (N:=some 83) (v:=?_) (a':=?_) #[true,true,true,true,true,true,true,true,true,false,false,false] rfl rfl (Od We.out Jm.out (by kernel_rfl)) (fun _ _ _ h=>h) (Or.inl ⟨by rfl,?_⟩) hHeld ?_ ?_;rotate_left
             ·rintro w' ⟨s0,s1,s2,s3,s4,s5,s6,s7,s8,s9⟩;go_simp;with_reducible rfl
             rotate_left
             ·simp only [Act.put,List.setIfInBounds_toArray,List.set_cons_zero,List.set_cons_succ,Cb,Db]
              rfl
             refine Gq (i:=9) (N:=some 84) #[true,true,true,true,true,true,true,true,true,true,false,false] rfl rfl (jk We.out (by kernel_rfl)) (by decide) (fun K hK=>?_);refine Um Try.func87 (by kernel_rfl) rfl #[.agg #[.slice zb Ua.length yb,.int .i64 Ja,.int .i64 La,.int .i64 Pa,.slice (some Zh) Qa.length Nb],.agg #[.slice Kj ((Oa Qa Ff).f0).length Hj,.int .i64 ((Oa Qa Ff).f1),.int .i64 ((Oa Qa Ff).f2),.int .i64 ((Oa Qa Ff).f3),.int .i64 ((Oa Qa Ff).f4)]] (by rfl) rfl rfl (by (try simp only [List.map_toArray,List.map_cons,List.map_nil]);first|done|rfl|(simp only [List.length_drop,List.length_take];rfl)) ?_;with_reducible refine (tc.calls k3 _ _ Ua Ja La Pa _ _ Qa _ _ ((Oa Qa Ff).f0) ((Oa Qa Ff).f1) ((Oa Qa Ff).f2) ((Oa Qa Ff).f3) ((Oa Qa Ff).f4) false _ ?td ?qd ?Xf ?Wf ?Uz ?Tz A33.out).mono ?_
             (case td=>repeat (first|exact (Kd.Lb kg.out HB.out)|(with_reducible refine Kd.Gc ?_ _)|(with_reducible refine Kd.Fc ?_ _)|(with_reducible refine Kd.xd ?_)))
             (case qd=>exact Hg.out)
             (case Xf=>repeat (first|exact (Kd.Lb Sh.out HB.out)|(with_reducible refine Kd.Gc ?_ _)|(with_reducible refine Kd.Fc ?_ _)|(with_reducible refine Kd.xd ?_)))
             (case Wf=>exact fk.out)
             (case Uz=>repeat (first|exact (Kd.Lb mq.out HB.out)|(with_reducible refine Kd.Gc ?_ _)|(with_reducible refine Kd.Fc ?_ _)|(with_reducible refine Kd.xd ?_)))
             (case Tz=>exact Kz.out)
             rintro e w40 ⟨rfl,hb⟩;refine ⟨_,rfl,?_⟩;have Kb:=ia.mk (Ta (g:=Da) (o:=.cells #[.slice zb Ua.length yb,.int .i64 Ja,.int .i64 La,.int .i64 Pa,.slice (some Zh) Qa.length Nb] 30 (0,0)) (by (with_reducible repeat (first|refine za ?_ _|refine Ca ?_|refine ya ?_ _));exact qa.out) hb);have Ub:=ia.mk (Ra (by repeat (first|(with_reducible first|exact HB.out|apply ta|apply ja|apply ua|refine Aa ?_ Wa.out)|exact HB.out)) hb);clear qa HB;have qa:=Kb;have HB:=Ub;clear Kb Ub;(try clear hb);(try clear Li);(try clear hk);(try clear hi);refine hK.out _ _ ⟨(ga qa.out 0).trans rfl,(ga qa.out 1).trans rfl,(ga qa.out 2).trans rfl,(ga qa.out 3).trans rfl,(ga qa.out 4).trans rfl,(Ea HB.out Gu),(Ea HB.out Fu),(Ea HB.out Eu),(Ea HB.out Du),(Ea HB.out Cu)⟩ (fun hHeld=>?_);clear hK K;refine Mm (a':=?_) ?_ ?_;rotate_left
             ·show Act.put _ (some 84) _=_
              simp only [Act.put,List.setIfInBounds_toArray,List.set_cons_zero,List.set_cons_succ,Cb,Db]
              rfl
             refine Ic (i:=10) (N:=some 85) (v:=?_) (a':=?_) #[true,true,true,true,true,true,true,true,true,true,true,false] rfl rfl (nc We.out (by kernel_rfl)) (fun _ _ _ h=>h) (Or.inl ⟨by rfl,?_⟩) ?_ ?_;rotate_left
             ·intro w';go_simp;with_reducible rfl
             rotate_left
             ·simp only [Act.put,List.setIfInBounds_toArray,List.set_cons_zero,List.set_cons_succ,Cb,Db]
              rfl
             refine Ic (i:=11) (N:=some 86) (v:=?_) (a':=?_) #[true,true,true,true,true,true,true,true,true,true,true,true] rfl rfl (nc We.out (by kernel_rfl)) (fun _ _ _ h=>h) (Or.inl ⟨by rfl,?_⟩) ?_ ?_;rotate_left
             ·intro w';go_simp;with_reducible rfl
             rotate_left
             ·simp only [Act.put,List.setIfInBounds_toArray,List.set_cons_zero,List.set_cons_succ,Cb,Db]
              rfl
             refine Fl (Vi We.out (by kernel_rfl)) ?_
             try go_wp2
             go_ret;exact ⟨by first|rfl|(simp [Na,Ma] <;> rfl)|(simp [*,Na,Ma] <;> rfl),by repeat (first|(with_reducible first|exact HB.out|apply ta|apply ja|apply ua|refine Aa ?_ Wa.out)|exact HB.out)⟩
          ·rw [if_neg XM] at H;exact absurd H (by simp)
         ·rw [if_neg T5] at H;have zaf:decide (Ff < (Qa.length:Int))=false:=decide_eq_false T5;clear T5;obtain rfl:=Option.some.inj H;have ID:wr.cell? ⟨Da,0,none⟩=some (.slice zb Ua.length yb):=(ga qa.out 0).trans rfl;have GD:wr.cell? ⟨Da,1,none⟩=some (.int .i64 Ja):=(ga qa.out 1).trans rfl;have FD:wr.cell? ⟨Da,2,none⟩=some (.int .i64 La):=(ga qa.out 2).trans rfl;have ED:wr.cell? ⟨Da,3,none⟩=some (.int .i64 Pa):=(ga qa.out 3).trans rfl;have DD:wr.cell? ⟨Da,4,none⟩=some (.slice Yb Qa.length Nb):=(ga qa.out 4).trans rfl;have KC:=aa qa.out 0;have JC:=aa qa.out 1;have IC:=aa qa.out 2;have GC:=aa qa.out 3;have FC:=aa qa.out 4;go_wp2;go_ret;exact ⟨by first|rfl|(simp [Na,Ma] <;> rfl)|(simp [*,Na,Ma] <;> rfl),by repeat (first|(with_reducible first|exact HB.out|apply ta|apply ja|apply ua|refine Aa ?_ Wa.out)|exact HB.out)⟩
end Go.Proofs.Ytmifdccaajngcaa.P
end
section
namespace Go.Proofs.Ytmifdccaajngcaa.P
open Go.RowKit Go.Proofs.Ka.Rb Go.Proofs.Ka.Vd Go.Proofs.Ka.ef
set_option linter.unusedVariables false
set_option linter.unusedSimpArgs false
open Classical in
noncomputable def iy (n:Nat) (p:Nat→Prop):Bool:=decide (∀ j,j < n→p j)
open Classical in
theorem YM {n:Nat} {p:Nat→Prop} (h:∀ j,j < n→p j):iy n p=true:=by
 unfold iy;exact decide_eq_true h
open Classical in
theorem wG {n:Nat} {p:Nat→Prop}:iy n p=true ↔ ∀ j,j < n→p j:=by
 unfold iy;exact decide_eq_true_iff
theorem qI {n i:Nat} {p:Nat→Prop} (hi:i < n) (h:¬ p i):iy n p=false:=by
 cases e:iy n p with
 | false=>rfl
 | true=>exact absurd (wG.mp e i hi) h
theorem ZH {ρ:Type} {n:Nat} {R e:ρ} (p:Nat→Prop) (f:Nat→Nat→Option ρ) (hend:Ev (f n) R) (hyes:∀ i,i < n→p i→∀ r,Ev (f (i + 1)) r→Ev (f i) r) (hno:∀ i,i < n→¬ p i→Ev (f i) e):Ev (f 0) (bif iy n p then R else e):=by
 have key:∀ d i,i + d=n→(∀ j,j < i→p j)→Ev (f i) (bif iy n p then R else e):=by
  intro d
  induction d with
  | zero =>
   intro i hi h;have:i=n:=by omega
   subst this;rw [YM h];exact hend
  | succ d ih =>
   intro i hi h
   by_cases hp:p i
   ·refine hyes i (by omega) hp _ (ih (i + 1) (by omega) ?_);intro j hj
    by_cases hji:j=i
    ·rw [hji];exact hp
    ·exact h j (by omega)
   ·rw [qI (by omega) hp];exact hno i (by omega) hp
 exact key n 0 (by omega) (fun j hj=>absurd hj (by omega))
theorem Ix {α:Type} (l:List α) (z:α) (q:α→Bool):iy l.length (fun j=>q (l.getD j z)=true) = !(l.any fun x=>!q x):=by
 rw [Bool.eq_iff_iff,wG];simp only [Bool.not_eq_true',List.any_eq_false,Bool.not_eq_true',Bool.not_eq_false]
 constructor
 ·intro h x hx;obtain ⟨j,hj,rfl⟩:=List.mem_iff_getElem.mp hx;have:=h j hj;rw [List.getD_eq_getElem?_getD,List.getElem?_eq_getElem hj] at this
  simpa using this
 ·intro h j hj;have:=h l[j] (List.getElem_mem hj);rw [List.getD_eq_getElem?_getD,List.getElem?_eq_getElem hj]
  simpa using this
end Go.Proofs.Ytmifdccaajngcaa.P
end
section
namespace Go.Proofs.Ytmifdccaajngcaa.P
open Go.RowKit Go.Proofs.Ka.Rb Go.Proofs.Ka.Vd Go.Proofs.Ka.ef
set_option linter.unusedVariables false
set_option linter.unusedSimpArgs false
theorem rO (a b c:Int):Za.f a b c=some (Nk a b c):=by
 unfold Za.f Nk
 by_cases h:a ≥ b
 ·rw [if_pos h];have h':b ≤ a:=h;simp [h']
 ·rw [if_neg h];have h':¬ b ≤ a:=h;simp [h']
end Go.Proofs.Ytmifdccaajngcaa.P
end
