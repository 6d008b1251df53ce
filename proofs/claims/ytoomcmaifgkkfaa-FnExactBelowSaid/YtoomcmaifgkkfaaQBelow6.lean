import Derived.Test.YtoomcmaifgkkfaaQBelow1
import Derived.Test.YtoomcmaifgkkfaaQBelow5
import Derived.Test.YtoomcmaifgkkfaaQBelow4
set_option maxHeartbeats 8000000
set_option maxRecDepth 100000
section
namespace Go.Proofs.Ytoomcmaifgkkfaa.P
open Go.RowKit Go.Proofs.Ia.Qb Go.Proofs.Ia.Dd Go.Proofs.Ia.ze
set_option linter.unusedVariables false
set_option linter.unusedSimpArgs false
attribute [local go_sem] Eh Ch Ji Ii Jg Ig Dh Bh
def fc.l0:Nat→Int→List Int→Int→Int→Int→List (jf)→List (Uc)→Int→Int→Int→Int→Option (Bool)
 | 0,_,_,_,_,_,_,_,_,_,_,_=>none
 | k + 1,x5,Sc,Tc,Rc,Qc,Xb,Tf,ij,Cj,Hi,Gi=>if x5 < (Tf.length:Int) then (if 0 ≤ x5 then ((jb.f k Sc Tc Rc Qc Xb ((Aa Tf x5).f0) ((Aa Tf x5).f1) ((Aa Tf x5).f2) ((Aa Tf x5).f3) ((Aa Tf x5).f4) ((Aa Tf x5).f5) ((Aa Tf x5).f6)).bind fun t104=>(if t104=true then (fc.l0 k (wrap64 (x5 + 1)) Sc Tc Rc Qc Xb Tf ij Cj Hi Gi) else (some false))) else (none)) else ((Za.f Hi 0 (wrap64 ((Xb.length:Int) - 1))).bind fun t105=>((Za.f Cj 0 (wrap64 (Qc - 1))).bind fun t106=>(if ij=0 then (if t105=true then (if Cj=0 then (some (Gi == 0)) else (some false)) else (some false)) else (if ij=1 then (if t105=true then (if t106=true then ((Za.f Gi 0 (wrap64 ((Xb.length:Int) - 1))).bind fun t107=>(some t107)) else (some false)) else (some false)) else (if ij=2 then (if t106=true then (if Hi=0 then (some (Gi == 0)) else (some false)) else (some false)) else (some false))))))
def fc.f (k:Nat) (Oa:List Int) (Ka:Int) (Pa:Int) (Ja:Int) (Ga:List (jf)) (Jc:List (Uc)) (Sb:Int) (Nb:Int) (Pb:Int) (mc:Int):Option (Bool):=fc.l0 k 0 Oa Ka Pa Ja Ga Jc Sb Nb Pb mc
def fc.T4:Bool × List (List Nat × List Nat):=(true,[([],[]),([],[]),([1],[1]),([],[]),([2,3],[2,3]),([4],[4]),([0,5],[0,5]),([6],[6])])
def fc.B4:List Nat:=[0,0,2,0,14,30,63,127]
theorem fc.cR:Wk .any (opsOf Try.f101 4)=fc.T4:=by kernel_rfl
theorem fc.FL:Yj fc.T4.2 fc.B4=true:=by kernel_rfl
theorem fc.calls (k:Nat) (yb:Option Addr) (xb:Nat) (Oa:List Int) (Ka:Int) (Pa:Int) (Ja:Int) (Rb:Option Addr) (Ib:Nat) (Ga:List (jf)) (tf:Option Addr) (Xe:Nat) (Jc:List (Uc)) (Sb:Int) (Nb:Int) (Pb:Int) (mc:Int) (r:Bool) (w:World) (fe:Kd.C (Kd.int .i64) w yb Oa.length Oa) (Yd:Oa.length ≤ xb) (Ff:Kd.C Po w Rb Ga.length Ga) (Hf:Ga.length ≤ Ib) (Vt:Kd.C Cf w tf Jc.length Jc) (Wt:Jc.length ≤ Xe) (h:fc.f k Oa Ka Pa Ja Ga Jc Sb Nb Pb mc=some r) :
  Calls Try.prog 101 #[.agg #[.slice yb Oa.length xb,.int .i64 Ka,.int .i64 Pa,.int .i64 Ja,.slice Rb Ga.length Ib],.agg #[.slice tf Jc.length Xe,.int .i64 Sb,.int .i64 Nb,.int .i64 Pb,.int .i64 mc]] w fun e w'=>e = .returned (.bool r)∧Below w.heap.size w w':=by
 have KA:=Try.underlying45;have Iz:=Try.underlying83;have yF:=Try.underlying122;have Qe:=ga.mk fe;have gf:=ga.mk Yd;clear fe Yd;have ug:=ga.mk Ff;have Kh:=ga.mk Hf;clear Ff Hf;have gm:=ga.mk Vt;have Fo:=ga.mk Wt;clear Vt Wt;have HB:=ga.mk (Below.refl w.heap.size w);have H:(fc.l0 k 0 Oa Ka Pa Ja Ga Jc Sb Nb Pb mc)=some r:=h;clear h;have H':=ga.mk H;clear H;go_enter Try.func101,Try.ntmps101;go_wp2_with (first|((with_reducible refine Db (N:=2) rfl ?_);(try (refine di (by rfl) ?_;dsimp only));refine Lb ?hg (N:=2) ?hd (cs:=#[.slice yb Oa.length xb,.int .i64 Ka,.int .i64 Pa,.int .i64 Ja,.slice Rb Ga.length Ib]) (t:=45) ?hr ?_;(case hd=>rfl);(case hg=>rfl);(case hr=>first|(go_simp;done)|(go_simp;rfl));intro za hg w3 Tb hb;have Jb:=ga.mk (Ra (by repeat (first|(with_reducible first|exact HB.out|apply oa|apply ia|apply qa)|exact HB.out)) hb);have Ob:=ga.mk (Tb);have Vb:=ga.mk ((by rw [hg];exact (La (by repeat (first|(with_reducible first|exact HB.out|apply oa|apply ia|apply qa)|exact HB.out))):w.heap.size ≤ za));have uc:=ga.mk ((by rw [hg];exact (La (by repeat (first|(with_reducible first|exact HB.out|apply oa|apply ia|apply qa)|exact HB.out))):w.heap.size ≤ za));clear HB;have HB:=Jb;have ta:=Ob;have ue:=Vb;have Ta:=uc;clear Jb Ob Vb uc hb Tb hg)|((with_reducible refine Db (N:=3) rfl ?_);(try (refine di (by rfl) ?_;dsimp only));refine Lb ?hg (N:=3) ?hd (cs:=#[.slice tf Jc.length Xe,.int .i64 Sb,.int .i64 Nb,.int .i64 Pb,.int .i64 mc]) (t:=83) ?hr ?_;(case hd=>rfl);(case hg=>rfl);(case hr=>first|(go_simp;done)|(go_simp;rfl));intro Fa hg w4 Tb hb;have Jb:=ga.mk (Va (g:=za) (o:=.cells #[.slice yb Oa.length xb,.int .i64 Ka,.int .i64 Pa,.int .i64 Ja,.slice Rb Ga.length Ib] 45 (0,0)) (by (with_reducible repeat (first|refine Da ?_ _|refine Ea ?_|refine Ca ?_ _));exact ta.out) hb);have Ob:=ga.mk (Ra (by repeat (first|(with_reducible first|exact HB.out|apply oa|apply ia|apply qa|refine ua ?_ Ta.out)|exact HB.out)) hb);have Vb:=ga.mk (Tb);have uc:=ga.mk ((by rw [hg];exact (La (by repeat (first|(with_reducible first|exact HB.out|apply oa|apply ia|apply qa|refine ua ?_ Ta.out)|exact HB.out))):w.heap.size ≤ Fa));have Be:=ga.mk ((by rw [hg];exact (La (by repeat (first|(with_reducible first|exact HB.out|apply oa|apply ia|apply qa|refine ua ?_ Ta.out)|exact HB.out))):w.heap.size ≤ Fa));have Vf:=ga.mk ((by rw [hg];exact Nat.ne_of_lt (Pc (g:=za) (o:=.cells #[.slice yb Oa.length xb,.int .i64 Ka,.int .i64 Pa,.int .i64 Ja,.slice Rb Ga.length Ib] 45 (0,0)) (by (with_reducible repeat (first|refine Da ?_ _|refine Ea ?_|refine Ca ?_ _));exact ta.out)):za ≠ Fa));have uh:=ga.mk ((by rw [hg];exact Nat.ne_of_gt (Pc (g:=za) (o:=.cells #[.slice yb Oa.length xb,.int .i64 Ka,.int .i64 Pa,.int .i64 Ja,.slice Rb Ga.length Ib] 45 (0,0)) (by (with_reducible repeat (first|refine Da ?_ _|refine Ea ?_|refine Ca ?_ _));exact ta.out)):Fa ≠ za));clear ta HB;have ta:=Jb;have HB:=Ob;have ya:=Vb;have Si:=uc;have nc:=Be;have Cb:=Vf;have Bb:=uh;clear Jb Ob Vb uc Be Vf uh hb Tb hg))
 go_loopg [5] k (fun kq v5 w'=>∃ (Ba:Int),v5 = .int .i64 Ba∧ga (fc.l0 kq Ba Oa Ka Pa Ja Ga Jc Sb Nb Pb mc=some r)∧ga (kq ≤ k)∧ga (w'.heap[za]? = some (.cells #[(.slice yb Oa.length xb),.int .i64 Ka,.int .i64 Pa,.int .i64 Ja,(.slice Rb Ga.length Ib)] 45 (0,0)))∧ga (w'.heap[Fa]? = some (.cells #[(.slice tf Jc.length Xe),.int .i64 Sb,.int .i64 Nb,.int .i64 Pb,.int .i64 mc] 83 (0,0)))∧ga (Below w.heap.size w w'))
 case atStart=>exact ⟨(0),(by first|rfl|(simp;done)|(simp [*];done)),H',⟨Nat.le_refl _⟩,⟨by (with_reducible repeat (first|refine Da ?_ _|refine Ea ?_|refine Ca ?_ _));exact ta.out⟩,⟨by (with_reducible repeat (first|refine Da ?_ _|refine Ea ?_|refine Ca ?_ _));exact ya.out⟩,⟨by repeat (first|(with_reducible first|exact HB.out|apply oa|apply ia|apply qa|refine ua ?_ Ta.out|refine ua ?_ nc.out)|exact HB.out)⟩⟩
 case round =>
  clear H'
  try clear c1
  try clear p2
  (try clear HA);(try clear Nf);(try clear ta);(try clear ya);(try clear HB);obtain ⟨Ba,rfl,HA,Nf,ta,ya,HB⟩:=hrel;cases gk with
  | zero=>exact absurd HA.out (by simp [fc.l0])
  | succ k1 =>
   have H:=HA.out;clear HA;simp only [fc.l0] at H
   by_cases c5:Ba < (Jc.length:Int)
   ·rw [if_pos c5] at H;have Il:decide (Ba < (Jc.length:Int))=true:=decide_eq_true c5;clear c5
    by_cases c6:0 ≤ Ba
    ·rw [if_pos c6] at H;have Vm:decide (0 ≤ Ba)=true:=decide_eq_true c6;clear c6;replace H:=Option.bind_eq_some_iff.mp H;obtain ⟨t104,aN,H⟩:=H;replace H:(if t104=true then (fc.l0 k1 (wrap64 (Ba + 1)) Oa Ka Pa Ja Ga Jc Sb Nb Pb mc) else (some false))=some r:=H;have A7:=ga.mk aN;clear aN
     by_cases c8:t104=true
     ·subst c8;have H1:(fc.l0 k1 (wrap64 (Ba + 1)) Oa Ka Pa Ja Ga Jc Sb Nb Pb mc)=some r:=by rw [if_pos rfl] at H;exact H
      clear H;have H:=H1;clear H1;have H':=ga.mk H;clear H;have jam:=Bb.out;have Ual:=Cb.out;have Nj:wr.cell? ⟨Fa,0,none⟩=some (.slice tf Jc.length Xe):=(ja ya.out 0).trans rfl;have Mj:wr.cell? ⟨Fa,1,none⟩=some (.int .i64 Sb):=(ja ya.out 1).trans rfl;have Lj:wr.cell? ⟨Fa,2,none⟩=some (.int .i64 Nb):=(ja ya.out 2).trans rfl;have Kj:wr.cell? ⟨Fa,3,none⟩=some (.int .i64 Pb):=(ja ya.out 3).trans rfl;have Jj:wr.cell? ⟨Fa,4,none⟩=some (.int .i64 mc):=(ja ya.out 4).trans rfl;have Ij:=aa ya.out 0;have Hj:=aa ya.out 1;have Gj:=aa ya.out 2;have Fj:=aa ya.out 3;have Ej:=aa ya.out 4
      try go_wp2
      have Jb:=ga.mk (Ea ta.out);have Ob:=ga.mk (Ea ya.out);have Vb:=ga.mk (qa HB.out);clear ta ya HB;have ta:=Jb;have ya:=Ob;have HB:=Vb;clear Jb Ob Vb;have MH:0 ≤ (Ba:Int):=of_decide_eq_true (by first|(with_reducible assumption)|assumption);have EH:Ba < (Jc.length:Int):=of_decide_eq_true (by first|(with_reducible assumption)|assumption);obtain ⟨jh,GZ,Dm,Cm,Bm,Am,zm,ym,xm⟩:=xq gm.out Ba MH EH;have Xu:=xm;have Yu:=ym;have Zu:=zm;have av:=Am;have cv:=Bm;have gv:=Cm;have jv:=Dm;cases GZ;replace Dm:=Qa HB.out Dm;replace Cm:=Qa HB.out Cm;replace Bm:=Qa HB.out Bm;replace Am:=Qa HB.out Am;replace zm:=Qa HB.out zm;replace ym:=Qa HB.out ym;replace xm:=Qa HB.out xm;replace MH:=eq_true MH;replace EH:=eq_true EH;refine bk (n:=8) (S:=fun w'=>w'.cell? ⟨za,0,none⟩=some (.slice yb Oa.length xb)∧w'.cell? ⟨za,1,none⟩=some (.int .i64 Ka)∧w'.cell? ⟨za,2,none⟩=some (.int .i64 Pa)∧w'.cell? ⟨za,3,none⟩=some (.int .i64 Ja)∧w'.cell? ⟨za,4,none⟩=some (.slice Rb Ga.length Ib)∧w'.cell? ⟨Fa,0,none⟩=some (.slice (some jh) Jc.length Xe)∧w'.cell? ⟨Fa,1,none⟩=some (.int .i64 Sb)∧w'.cell? ⟨Fa,2,none⟩=some (.int .i64 Nb)∧w'.cell? ⟨Fa,3,none⟩=some (.int .i64 Pb)∧w'.cell? ⟨Fa,4,none⟩=some (.int .i64 mc)∧w'.cell? (jh.add ((Ba).toNat * 7))=some (.int .i64 ((Aa Jc Ba).f0))∧w'.cell? ⟨(jh.add ((Ba).toNat * 7)).block,(jh.add ((Ba).toNat * 7)).off + 1,none⟩=some (.int .i64 ((Aa Jc Ba).f1))∧w'.cell? ⟨(jh.add ((Ba).toNat * 7)).block,(jh.add ((Ba).toNat * 7)).off + 2,none⟩=some (.int .i64 ((Aa Jc Ba).f2))∧w'.cell? ⟨(jh.add ((Ba).toNat * 7)).block,(jh.add ((Ba).toNat * 7)).off + 3,none⟩=some (.int .i64 ((Aa Jc Ba).f3))∧w'.cell? ⟨(jh.add ((Ba).toNat * 7)).block,(jh.add ((Ba).toNat * 7)).off + 4,none⟩=some (.int .i64 ((Aa Jc Ba).f4))∧w'.cell? ⟨(jh.add ((Ba).toNat * 7)).block,(jh.add ((Ba).toNat * 7)).off + 5,none⟩=some (.int .i64 ((Aa Jc Ba).f5))∧w'.cell? ⟨(jh.add ((Ba).toNat * 7)).block,(jh.add ((Ba).toNat * 7)).off + 6,none⟩=some (.string ((Aa Jc Ba).f6))) (ds:=[]) #[false,false,false,false,false,false,false,false] (by kernel_rfl) rfl rfl ⟨(ja ta.out 0).trans rfl,(ja ta.out 1).trans rfl,(ja ta.out 2).trans rfl,(ja ta.out 3).trans rfl,(ja ta.out 4).trans rfl,(ja ya.out 0).trans rfl,(ja ya.out 1).trans rfl,(ja ya.out 2).trans rfl,(ja ya.out 3).trans rfl,(ja ya.out 4).trans rfl,(Qa HB.out jv),(Qa HB.out gv),(Qa HB.out cv),(Qa HB.out av),(Qa HB.out Zu),(Qa HB.out Yu),(Qa HB.out Xu)⟩ (fun hHeld=>?_);refine zh fc.cR fc.FL (fun zf Bq=>?_);generalize wr.drew=Ti at ta ya HB Dm Cm Bm Am zm ym xm hHeld ⊢;refine jd (i:=1) (N:=some 16) (v:=?_) (a':=?_) #[false,true,false,false,false,false,false,false] rfl rfl (qc zf.out (by kernel_rfl)) (fun _ _ _ h=>h) (Or.inl ⟨by rfl,?_⟩) ?_ ?_;rotate_left
      ·intro w';go_simp;with_reducible rfl
      rotate_left
      ·simp only [Act.put,List.setIfInBounds_toArray,List.set_cons_zero,List.set_cons_succ,Yb,Zb]
       rfl
      refine jd (i:=3) (N:=some 18) (v:=?_) (a':=?_) #[false,true,false,true,false,false,false,false] rfl rfl (qc zf.out (by kernel_rfl)) (fun _ _ _ h=>h) (Or.inl ⟨by rfl,?_⟩) ?_ ?_;rotate_left
      ·intro w';go_simp;with_reducible rfl
      rotate_left
      ·simp only [Act.put,List.setIfInBounds_toArray,List.set_cons_zero,List.set_cons_succ,Yb,Zb]
       rfl
      refine Og (i:=0) (N:=some 15) (v:=?_) (a':=?_) #[true,true,false,true,false,false,false,false] rfl rfl (Ge zf.out Bq.out (by kernel_rfl)) (fun _ _ _ h=>h) (Or.inl ⟨by rfl,?_⟩) hHeld ?_ ?_;rotate_left
      ·rintro w' ⟨s0,s1,s2,s3,s4,s5,s6,s7,s8,s9,vH,kR,jR,iR,Q4,P4,O4⟩;go_simp;with_reducible rfl
      rotate_left
      ·simp only [Act.put,List.setIfInBounds_toArray,List.set_cons_zero,List.set_cons_succ,Yb,Zb]
       rfl
      refine Og (i:=2) (N:=some 17) (v:=?_) (a':=?_) #[true,true,true,true,false,false,false,false] rfl rfl (Ge zf.out Bq.out (by kernel_rfl)) (fun _ _ _ h=>h) (Or.inl ⟨by rfl,?_⟩) hHeld ?_ ?_;rotate_left
      ·rintro w' ⟨s0,s1,s2,s3,s4,s5,s6,s7,s8,s9,vH,kR,jR,iR,Q4,P4,O4⟩;go_simp;with_reducible rfl
      rotate_left
      ·simp only [Act.put,List.setIfInBounds_toArray,List.set_cons_zero,List.set_cons_succ,Yb,Zb]
       rfl
      refine jd (i:=4) (N:=some 19) (v:=?_) (a':=?_) #[true,true,true,true,true,false,false,false] rfl rfl (qc zf.out (by kernel_rfl)) (fun _ _ _ h=>h) (Or.inl ⟨by rfl,?_⟩) ?_ ?_;rotate_left
      ·intro w';go_simp;with_reducible rfl
      rotate_left
      ·simp only [Act.put,List.setIfInBounds_toArray,List.set_cons_zero,List.set_cons_succ,Yb,Zb]
       rfl
      refine Og (i:=5) (N:=some 20) (v:=?_) (a':=?_) #[true,true,true,true,true,true,false,false] rfl rfl (Ge zf.out Bq.out (by kernel_rfl)) (fun _ _ _ h=>h) (Or.inl ⟨by rfl,?_⟩) hHeld ?_ ?_;rotate_left
      ·rintro w' ⟨s0,s1,s2,s3,s4,s5,s6,s7,s8,s9,vH,kR,jR,iR,Q4,P4,O4⟩;go_simp;with_reducible rfl
      rotate_left
      ·simp only [Act.put,List.setIfInBounds_toArray,List.set_cons_zero,List.set_cons_succ,Yb,Zb]
       rfl
      refine Gu (i:=6) (N:=some 21) #[true,true,true,true,true,true,true,false] rfl rfl (Ol zf.out (by kernel_rfl)) (by decide) (fun K hK=>?_);refine Iq Try.func121 (by kernel_rfl) rfl #[.agg #[.slice yb Oa.length xb,.int .i64 Ka,.int .i64 Pa,.int .i64 Ja,.slice Rb Ga.length Ib],.agg #[.int .i64 ((Aa Jc Ba).f0),.int .i64 ((Aa Jc Ba).f1),.int .i64 ((Aa Jc Ba).f2),.int .i64 ((Aa Jc Ba).f3),.int .i64 ((Aa Jc Ba).f4),.int .i64 ((Aa Jc Ba).f5),.string ((Aa Jc Ba).f6)]] (by rfl) rfl rfl (by (try simp only [List.map_toArray,List.map_cons,List.map_nil]);first|done|rfl|(simp only [List.length_drop,List.length_take];rfl)) ?_;with_reducible refine (jb.calls k1 _ _ Oa Ka Pa Ja _ _ Ga ((Aa Jc Ba).f0) ((Aa Jc Ba).f1) ((Aa Jc Ba).f2) ((Aa Jc Ba).f3) ((Aa Jc Ba).f4) ((Aa Jc Ba).f5) ((Aa Jc Ba).f6) true _ ?Ic ?Gc ?ee ?Zd A7.out).mono ?_
      (case Ic=>repeat (first|exact (Kd.Mb Qe.out HB.out)|(with_reducible refine Kd.ec ?_ _)|(with_reducible refine Kd.dc ?_ _)|(with_reducible refine Kd.Dc ?_)))
      (case Gc=>exact gf.out)
      (case ee=>repeat (first|exact (Kd.Mb ug.out HB.out)|(with_reducible refine Kd.ec ?_ _)|(with_reducible refine Kd.dc ?_ _)|(with_reducible refine Kd.Dc ?_)))
      (case Zd=>exact Kh.out)
      rintro e zw ⟨rfl,hb⟩;refine ⟨_,rfl,?_⟩;have Jb:=ga.mk (Va (g:=za) (o:=.cells #[.slice yb Oa.length xb,.int .i64 Ka,.int .i64 Pa,.int .i64 Ja,.slice Rb Ga.length Ib] 45 (0,0)) (by (with_reducible repeat (first|refine Da ?_ _|refine Ea ?_|refine Ca ?_ _));exact ta.out) hb);have Ob:=ga.mk (Va (g:=Fa) (o:=.cells #[.slice (some jh) Jc.length Xe,.int .i64 Sb,.int .i64 Nb,.int .i64 Pb,.int .i64 mc] 83 (0,0)) (by (with_reducible repeat (first|refine Da ?_ _|refine Ea ?_|refine Ca ?_ _));exact ya.out) hb);have Vb:=ga.mk (Ra (by repeat (first|(with_reducible first|exact HB.out|apply oa|apply ia|apply qa|refine ua ?_ Ta.out|refine ua ?_ nc.out)|exact HB.out)) hb);clear ta ya HB;have ta:=Jb;have ya:=Ob;have HB:=Vb;clear Jb Ob Vb;(try clear hb);(try clear mj);(try clear hk);(try clear hi);refine hK.out _ _ ⟨(ja ta.out 0).trans rfl,(ja ta.out 1).trans rfl,(ja ta.out 2).trans rfl,(ja ta.out 3).trans rfl,(ja ta.out 4).trans rfl,(ja ya.out 0).trans rfl,(ja ya.out 1).trans rfl,(ja ya.out 2).trans rfl,(ja ya.out 3).trans rfl,(ja ya.out 4).trans rfl,(Qa HB.out jv),(Qa HB.out gv),(Qa HB.out cv),(Qa HB.out av),(Qa HB.out Zu),(Qa HB.out Yu),(Qa HB.out Xu)⟩ (fun hHeld=>?_);clear hK K;refine zn (a':=?_) ?_ ?_;rotate_left
      ·show Act.put _ (some 21) _=_
       simp only [Act.put,List.setIfInBounds_toArray,List.set_cons_zero,List.set_cons_succ,Yb,Zb]
       rfl
      refine jd (i:=7) (N:=some 22) (v:=?_) (a':=?_) #[true,true,true,true,true,true,true,true] rfl rfl (qc zf.out (by kernel_rfl)) (fun _ _ _ h=>h) (Or.inl ⟨by rfl,?_⟩) ?_ ?_;rotate_left
      ·intro w';go_simp;with_reducible rfl
      rotate_left
      ·simp only [Act.put,List.setIfInBounds_toArray,List.set_cons_zero,List.set_cons_succ,Yb,Zb]
       rfl
      refine uo (Pj zf.out (by kernel_rfl)) ?_
      try go_wp2
      go_roundg k1
      case measure=>have:=Nf.out;omega
      case rel=>exact ⟨(wrap64 (Ba + 1)),(by first|rfl|(simp;done)|(simp [*];done)),H',⟨by have:=Nf.out;omega⟩,⟨by (with_reducible repeat (first|refine Da ?_ _|refine Ea ?_|refine Ca ?_ _));exact ta.out⟩,⟨by (with_reducible repeat (first|refine Da ?_ _|refine Ea ?_|refine Ca ?_ _));exact ya.out⟩,⟨by repeat (first|(with_reducible first|exact HB.out|apply oa|apply ia|apply qa|refine ua ?_ Ta.out|refine ua ?_ nc.out)|exact HB.out)⟩⟩
     ·replace c8:=Bool.eq_false_iff.mpr c8;subst c8;have H1:(some false)=some r:=by rw [if_neg (show ¬ (false=true) by decide)] at H;exact H
      clear H;have H:=H1;clear H1;obtain rfl:=Option.some.inj H;have Car:=Bb.out;have Raq:=Cb.out;have bq:wr.cell? ⟨Fa,0,none⟩=some (.slice tf Jc.length Xe):=(ja ya.out 0).trans rfl;have aq:wr.cell? ⟨Fa,1,none⟩=some (.int .i64 Sb):=(ja ya.out 1).trans rfl;have Zp:wr.cell? ⟨Fa,2,none⟩=some (.int .i64 Nb):=(ja ya.out 2).trans rfl;have Yp:wr.cell? ⟨Fa,3,none⟩=some (.int .i64 Pb):=(ja ya.out 3).trans rfl;have Xp:wr.cell? ⟨Fa,4,none⟩=some (.int .i64 mc):=(ja ya.out 4).trans rfl;have Kp:=aa ya.out 0;have Jp:=aa ya.out 1;have Ip:=aa ya.out 2;have Hp:=aa ya.out 3;have Gp:=aa ya.out 4
      try go_wp2
      have Jb:=ga.mk (Ea ta.out);have Ob:=ga.mk (Ea ya.out);have Vb:=ga.mk (qa HB.out);clear ta ya HB;have ta:=Jb;have ya:=Ob;have HB:=Vb;clear Jb Ob Vb;have MH:0 ≤ (Ba:Int):=of_decide_eq_true (by first|(with_reducible assumption)|assumption);have EH:Ba < (Jc.length:Int):=of_decide_eq_true (by first|(with_reducible assumption)|assumption);obtain ⟨jh,GZ,Dm,Cm,Bm,Am,zm,ym,xm⟩:=xq gm.out Ba MH EH;have Xu:=xm;have Yu:=ym;have Zu:=zm;have av:=Am;have cv:=Bm;have gv:=Cm;have jv:=Dm;cases GZ;replace Dm:=Qa HB.out Dm;replace Cm:=Qa HB.out Cm;replace Bm:=Qa HB.out Bm;replace Am:=Qa HB.out Am;replace zm:=Qa HB.out zm;replace ym:=Qa HB.out ym;replace xm:=Qa HB.out xm;replace MH:=eq_true MH;replace EH:=eq_true EH;refine bk (n:=8) (S:=fun w'=>w'.cell? ⟨za,0,none⟩=some (.slice yb Oa.length xb)∧w'.cell? ⟨za,1,none⟩=some (.int .i64 Ka)∧w'.cell? ⟨za,2,none⟩=some (.int .i64 Pa)∧w'.cell? ⟨za,3,none⟩=some (.int .i64 Ja)∧w'.cell? ⟨za,4,none⟩=some (.slice Rb Ga.length Ib)∧w'.cell? ⟨Fa,0,none⟩=some (.slice (some jh) Jc.length Xe)∧w'.cell? ⟨Fa,1,none⟩=some (.int .i64 Sb)∧w'.cell? ⟨Fa,2,none⟩=some (.int .i64 Nb)∧w'.cell? ⟨Fa,3,none⟩=some (.int .i64 Pb)∧w'.cell? ⟨Fa,4,none⟩=some (.int .i64 mc)∧w'.cell? (jh.add ((Ba).toNat * 7))=some (.int .i64 ((Aa Jc Ba).f0))∧w'.cell? ⟨(jh.add ((Ba).toNat * 7)).block,(jh.add ((Ba).toNat * 7)).off + 1,none⟩=some (.int .i64 ((Aa Jc Ba).f1))∧w'.cell? ⟨(jh.add ((Ba).toNat * 7)).block,(jh.add ((Ba).toNat * 7)).off + 2,none⟩=some (.int .i64 ((Aa Jc Ba).f2))∧w'.cell? ⟨(jh.add ((Ba).toNat * 7)).block,(jh.add ((Ba).toNat * 7)).off + 3,none⟩=some (.int .i64 ((Aa Jc Ba).f3))∧w'.cell? ⟨(jh.add ((Ba).toNat * 7)).block,(jh.add ((Ba).toNat * 7)).off + 4,none⟩=some (.int .i64 ((Aa Jc Ba).f4))∧w'.cell? ⟨(jh.add ((Ba).toNat * 7)).block,(jh.add ((Ba).toNat * 7)).off + 5,none⟩=some (.int .i64 ((Aa Jc Ba).f5))∧w'.cell? ⟨(jh.add ((Ba).toNat * 7)).block,(jh.add ((Ba).toNat * 7)).off + 6,none⟩=some (.string ((Aa Jc Ba).f6))) (ds:=[]) #[false,false,false,false,false,false,false,false] (by kernel_rfl) rfl rfl ⟨(ja ta.out 0).trans rfl,(ja ta.out 1).trans rfl,(ja ta.out 2).trans rfl,(ja ta.out 3).trans rfl,(ja ta.out 4).trans rfl,(ja ya.out 0).trans rfl,(ja ya.out 1).trans rfl,(ja ya.out 2).trans rfl,(ja ya.out 3).trans rfl,(ja ya.out 4).trans rfl,(Qa HB.out jv),(Qa HB.out gv),(Qa HB.out cv),(Qa HB.out av),(Qa HB.out Zu),(Qa HB.out Yu),(Qa HB.out Xu)⟩ (fun hHeld=>?_);refine zh fc.cR fc.FL (fun zf Bq=>?_);generalize wr.drew=Xo at ta ya HB Dm Cm Bm Am zm ym xm hHeld ⊢;refine jd (i:=1) (N:=some 16) (v:=?_) (a':=?_) #[false,true,false,false,false,false,false,false] rfl rfl (qc zf.out (by kernel_rfl)) (fun _ _ _ h=>h) (Or.inl ⟨by rfl,?_⟩) ?_ ?_;rotate_left
      ·intro w';go_simp;with_reducible rfl
      rotate_left
      ·simp only [Act.put,List.setIfInBounds_toArray,List.set_cons_zero,List.set_cons_succ,Yb,Zb]
       rfl
      refine jd (i:=3) (N:=some 18) (v:=?_) (a':=?_) #[false,true,false,true,false,false,false,false] rfl rfl (qc zf.out (by kernel_rfl)) (fun _ _ _ h=>h) (Or.inl ⟨by rfl,?_⟩) ?_ ?_;rotate_left
      ·intro w';go_simp;with_reducible rfl
      rotate_left
      ·simp only [Act.put,List.setIfInBounds_toArray,List.set_cons_zero,List.set_cons_succ,Yb,Zb]
       rfl
      refine Og (i:=0) (N:=some 15) (v:=?_) (a':=?_) #[true,true,false,true,false,false,false,false] rfl rfl (Ge zf.out Bq.out (by kernel_rfl)) (fun _ _ _ h=>h) (Or.inl ⟨by rfl,?_⟩) hHeld ?_ ?_;rotate_left
      ·rintro w' ⟨s0,s1,s2,s3,s4,s5,s6,s7,s8,s9,vH,kR,jR,iR,Q4,P4,O4⟩;go_simp;with_reducible rfl
      rotate_left
      ·simp only [Act.put,List.setIfInBounds_toArray,List.set_cons_zero,List.set_cons_succ,Yb,Zb]
       rfl
      refine Og (i:=2) (N:=some 17) (v:=?_) (a':=?_) #[true,true,true,true,false,false,false,false] rfl rfl (Ge zf.out Bq.out (by kernel_rfl)) (fun _ _ _ h=>h) (Or.inl ⟨by rfl,?_⟩) hHeld ?_ ?_;rotate_left
      ·rintro w' ⟨s0,s1,s2,s3,s4,s5,s6,s7,s8,s9,vH,kR,jR,iR,Q4,P4,O4⟩;go_simp;with_reducible rfl
      rotate_left
      ·simp only [Act.put,List.setIfInBounds_toArray,List.set_cons_zero,List.set_cons_succ,Yb,Zb]
       rfl
      refine jd (i:=4) (N:=some 19) (v:=?_) (a':=?_) #[true,true,true,true,true,false,false,false] rfl rfl (qc zf.out (by kernel_rfl)) (fun _ _ _ h=>h) (Or.inl ⟨by rfl,?_⟩) ?_ ?_;rotate_left
      ·intro w';go_simp;with_reducible rfl
      rotate_left
      ·simp only [Act.put,List.setIfInBounds_toArray,List.set_cons_zero,List.set_cons_succ,Yb,Zb]
       rfl
      refine Og (i:=5) (N:=some 20) (v:=?_) (a':=?_) #[true,true,true,true,true,true,false,false] rfl rfl (Ge zf.out Bq.out (by kernel_rfl)) (fun _ _ _ h=>h) (Or.inl ⟨by rfl,?_⟩) hHeld ?_ ?_;rotate_left
      ·rintro w' ⟨s0,s1,s2,s3,s4,s5,s6,s7,s8,s9,vH,kR,jR,iR,Q4,P4,O4⟩;go_simp;with_reducible rfl
      rotate_left
      ·simp only [Act.put,List.setIfInBounds_toArray,List.set_cons_zero,List.set_cons_succ,Yb,Zb]
       rfl
      refine Gu (i:=6) (N:=some 21) #[true,true,true,true,true,true,true,false] rfl rfl (Ol zf.out (by kernel_rfl)) (by decide) (fun K hK=>?_);refine Iq Try.func121 (by kernel_rfl) rfl #[.agg #[.slice yb Oa.length xb,.int .i64 Ka,.int .i64 Pa,.int .i64 Ja,.slice Rb Ga.length Ib],.agg #[.int .i64 ((Aa Jc Ba).f0),.int .i64 ((Aa Jc Ba).f1),.int .i64 ((Aa Jc Ba).f2),.int .i64 ((Aa Jc Ba).f3),.int .i64 ((Aa Jc Ba).f4),.int .i64 ((Aa Jc Ba).f5),.string ((Aa Jc Ba).f6)]] (by rfl) rfl rfl (by (try simp only [List.map_toArray,List.map_cons,List.map_nil]);first|done|rfl|(simp only [List.length_drop,List.length_take];rfl)) ?_;with_reducible refine (jb.calls k1 _ _ Oa Ka Pa Ja _ _ Ga ((Aa Jc Ba).f0) ((Aa Jc Ba).f1) ((Aa Jc Ba).f2) ((Aa Jc Ba).f3) ((Aa Jc Ba).f4) ((Aa Jc Ba).f5) ((Aa Jc Ba).f6) false _ ?Ic ?Gc ?ee ?Zd A7.out).mono ?_
      (case Ic=>repeat (first|exact (Kd.Mb Qe.out HB.out)|(with_reducible refine Kd.ec ?_ _)|(with_reducible refine Kd.dc ?_ _)|(with_reducible refine Kd.Dc ?_)))
      (case Gc=>exact gf.out)
      (case ee=>repeat (first|exact (Kd.Mb ug.out HB.out)|(with_reducible refine Kd.ec ?_ _)|(with_reducible refine Kd.dc ?_ _)|(with_reducible refine Kd.Dc ?_)))
      (case Zd=>exact Kh.out)
      rintro e XA ⟨rfl,hb⟩;refine ⟨_,rfl,?_⟩;have Jb:=ga.mk (Va (g:=za) (o:=.cells #[.slice yb Oa.length xb,.int .i64 Ka,.int .i64 Pa,.int .i64 Ja,.slice Rb Ga.length Ib] 45 (0,0)) (by (with_reducible repeat (first|refine Da ?_ _|refine Ea ?_|refine Ca ?_ _));exact ta.out) hb);have Ob:=ga.mk (Va (g:=Fa) (o:=.cells #[.slice (some jh) Jc.length Xe,.int .i64 Sb,.int .i64 Nb,.int .i64 Pb,.int .i64 mc] 83 (0,0)) (by (with_reducible repeat (first|refine Da ?_ _|refine Ea ?_|refine Ca ?_ _));exact ya.out) hb);have Vb:=ga.mk (Ra (by repeat (first|(with_reducible first|exact HB.out|apply oa|apply ia|apply qa|refine ua ?_ Ta.out|refine ua ?_ nc.out)|exact HB.out)) hb);clear ta ya HB;have ta:=Jb;have ya:=Ob;have HB:=Vb;clear Jb Ob Vb;(try clear hb);(try clear mj);(try clear hk);(try clear hi);refine hK.out _ _ ⟨(ja ta.out 0).trans rfl,(ja ta.out 1).trans rfl,(ja ta.out 2).trans rfl,(ja ta.out 3).trans rfl,(ja ta.out 4).trans rfl,(ja ya.out 0).trans rfl,(ja ya.out 1).trans rfl,(ja ya.out 2).trans rfl,(ja ya.out 3).trans rfl,(ja ya.out 4).trans rfl,(Qa HB.out jv),(Qa HB.out gv),(Qa HB.out cv),(Qa HB.out av),(Qa HB.out Zu),(Qa HB.out Yu),(Qa HB.out Xu)⟩ (fun hHeld=>?_);clear hK K;refine zn (a':=?_) ?_ ?_;rotate_left
      ·show Act.put _ (some 21) _=_
       simp only [Act.put,List.setIfInBounds_toArray,List.set_cons_zero,List.set_cons_succ,Yb,Zb]
       rfl
      refine jd (i:=7) (N:=some 22) (v:=?_) (a':=?_) #[true,true,true,true,true,true,true,true] rfl rfl (qc zf.out (by kernel_rfl)) (fun _ _ _ h=>h) (Or.inl ⟨by rfl,?_⟩) ?_ ?_;rotate_left
      ·intro w';go_simp;with_reducible rfl
      rotate_left
      ·simp only [Act.put,List.setIfInBounds_toArray,List.set_cons_zero,List.set_cons_succ,Yb,Zb]
       rfl
      refine uo (Pj zf.out (by kernel_rfl)) ?_
      try go_wp2
      go_ret;exact ⟨by first|rfl|(simp [Na,Ma] <;> rfl)|(simp [*,Na,Ma] <;> rfl),by repeat (first|(with_reducible first|exact HB.out|apply oa|apply ia|apply qa|refine ua ?_ Ta.out|refine ua ?_ nc.out)|exact HB.out)⟩
    ·rw [if_neg c6] at H;exact absurd H (by simp)
   ·rw [if_neg c5] at H;have Il:decide (Ba < (Jc.length:Int))=false:=decide_eq_false c5;clear c5;replace H:=Option.bind_eq_some_iff.mp H;obtain ⟨t105,bH,H⟩:=H;replace H:((Za.f Nb 0 (wrap64 (Ja - 1))).bind fun t106=>(if Sb=0 then (if t105=true then (if Nb=0 then (some (mc == 0)) else (some false)) else (some false)) else (if Sb=1 then (if t105=true then (if t106=true then ((Za.f mc 0 (wrap64 ((Ga.length:Int) - 1))).bind fun t107=>(some t107)) else (some false)) else (some false)) else (if Sb=2 then (if t106=true then (if Pb=0 then (some (mc == 0)) else (some false)) else (some false)) else (some false)))))=some r:=H;have iJ:=ga.mk bH;clear bH;replace H:=Option.bind_eq_some_iff.mp H;obtain ⟨t106,Vac,H⟩:=H;replace H:(if Sb=0 then (if t105=true then (if Nb=0 then (some (mc == 0)) else (some false)) else (some false)) else (if Sb=1 then (if t105=true then (if t106=true then ((Za.f mc 0 (wrap64 ((Ga.length:Int) - 1))).bind fun t107=>(some t107)) else (some false)) else (some false)) else (if Sb=2 then (if t106=true then (if Pb=0 then (some (mc == 0)) else (some false)) else (some false)) else (some false))))=some r:=H;have WQ:=ga.mk Vac;clear Vac
    by_cases Mt:Sb=0
    ·rw [if_pos Mt] at H;have tB:(Sb == 0)=true:=beq_iff_eq.mpr Mt;have DL:(Sb != 0)=false:=bne_eq_false_iff_eq.mpr Mt;clear Mt
     by_cases vw:t105=true
     ·subst vw;have H1:(if Nb=0 then (some (mc == 0)) else (some false))=some r:=by rw [if_pos rfl] at H;exact H
      clear H;have H:=H1;clear H1
      by_cases TA:Nb=0
      ·rw [if_pos TA] at H;have BG:(Nb == 0)=true:=beq_iff_eq.mpr TA;have Qaa:(Nb != 0)=false:=bne_eq_false_iff_eq.mpr TA;clear TA;obtain rfl:=Option.some.inj H;have X5:=Bb.out;have N5:=Cb.out;have eo:wr.cell? ⟨Fa,0,none⟩=some (.slice tf Jc.length Xe):=(ja ya.out 0).trans rfl;have Zn:wr.cell? ⟨Fa,1,none⟩=some (.int .i64 Sb):=(ja ya.out 1).trans rfl;have Yn:wr.cell? ⟨Fa,2,none⟩=some (.int .i64 Nb):=(ja ya.out 2).trans rfl;have Xn:wr.cell? ⟨Fa,3,none⟩=some (.int .i64 Pb):=(ja ya.out 3).trans rfl;have Wn:wr.cell? ⟨Fa,4,none⟩=some (.int .i64 mc):=(ja ya.out 4).trans rfl;have Qn:=aa ya.out 0;have Pn:=aa ya.out 1;have Nn:=aa ya.out 2;have Mn:=aa ya.out 3;have Ln:=aa ya.out 4;have Yv:wr.cell? ⟨za,0,none⟩=some (.slice yb Oa.length xb):=(ja ta.out 0).trans rfl;have Xv:wr.cell? ⟨za,1,none⟩=some (.int .i64 Ka):=(ja ta.out 1).trans rfl;have Wv:wr.cell? ⟨za,2,none⟩=some (.int .i64 Pa):=(ja ta.out 2).trans rfl;have Vv:wr.cell? ⟨za,3,none⟩=some (.int .i64 Ja):=(ja ta.out 3).trans rfl;have Uv:wr.cell? ⟨za,4,none⟩=some (.slice Rb Ga.length Ib):=(ja ta.out 4).trans rfl;have Nv:=aa ta.out 0;have Mv:=aa ta.out 1;have Lv:=aa ta.out 2;have Kv:=aa ta.out 3;have Jv:=aa ta.out 4;go_wp2_with (first|((with_reducible refine zb (f:=81) rfl ?_);refine Fc (some 29) rfl rfl Try.func81 (by kernel_rfl) rfl #[.int .i64 Pb,.int .i64 0,.int .i64 (wrap64 ((Ga.length:Int) - 1))] rfl (by (try simp only [List.map_toArray,List.map_cons,List.map_nil]);first|done|rfl|(simp only [List.length_drop,List.length_take];rfl)) ?_;(with_reducible refine (Za.calls Pb 0 (wrap64 ((Ga.length:Int) - 1)) true _ iJ.out).mono ?_);rintro e w' ⟨rfl,⟨nd,rfl⟩⟩;refine ⟨_,rfl,?_⟩)|((with_reducible refine zb (f:=81) rfl ?_);refine Fc (some 35) rfl rfl Try.func81 (by kernel_rfl) rfl #[.int .i64 Nb,.int .i64 0,.int .i64 (wrap64 (Ja - 1))] rfl (by (try simp only [List.map_toArray,List.map_cons,List.map_nil]);first|done|rfl|(simp only [List.length_drop,List.length_take];rfl)) ?_;(with_reducible refine (Za.calls Nb 0 (wrap64 (Ja - 1)) t106 _ WQ.out).mono ?_);rintro e w' ⟨rfl,⟨nd,rfl⟩⟩;refine ⟨_,rfl,?_⟩));go_ret;exact ⟨by first|rfl|(simp [Na,Ma] <;> rfl)|(simp [*,Na,Ma] <;> rfl),by repeat (first|(with_reducible first|exact HB.out|apply oa|apply ia|apply qa|refine ua ?_ Ta.out|refine ua ?_ nc.out)|exact HB.out)⟩
      ·rw [if_neg TA] at H;have BG:(Nb == 0)=false:=beq_eq_false_iff_ne.mpr TA;have Qaa:(Nb != 0)=true:=bne_iff_ne.mpr TA;obtain rfl:=Option.some.inj H;have V5:=Bb.out;have L5:=Cb.out;have Tv:wr.cell? ⟨Fa,0,none⟩=some (.slice tf Jc.length Xe):=(ja ya.out 0).trans rfl;have Sv:wr.cell? ⟨Fa,1,none⟩=some (.int .i64 Sb):=(ja ya.out 1).trans rfl;have Rv:wr.cell? ⟨Fa,2,none⟩=some (.int .i64 Nb):=(ja ya.out 2).trans rfl;have Qv:wr.cell? ⟨Fa,3,none⟩=some (.int .i64 Pb):=(ja ya.out 3).trans rfl;have Pv:wr.cell? ⟨Fa,4,none⟩=some (.int .i64 mc):=(ja ya.out 4).trans rfl;have Iv:=aa ya.out 0;have Hv:=aa ya.out 1;have Gv:=aa ya.out 2;have Fv:=aa ya.out 3;have Dv:=aa ya.out 4;have az:wr.cell? ⟨za,0,none⟩=some (.slice yb Oa.length xb):=(ja ta.out 0).trans rfl;have Zy:wr.cell? ⟨za,1,none⟩=some (.int .i64 Ka):=(ja ta.out 1).trans rfl;have Yy:wr.cell? ⟨za,2,none⟩=some (.int .i64 Pa):=(ja ta.out 2).trans rfl;have Xy:wr.cell? ⟨za,3,none⟩=some (.int .i64 Ja):=(ja ta.out 3).trans rfl;have Wy:wr.cell? ⟨za,4,none⟩=some (.slice Rb Ga.length Ib):=(ja ta.out 4).trans rfl;have Ky:=aa ta.out 0;have Jy:=aa ta.out 1;have Iy:=aa ta.out 2;have Hy:=aa ta.out 3;have Gy:=aa ta.out 4;go_wp2_with (first|((with_reducible refine zb (f:=81) rfl ?_);refine Fc (some 29) rfl rfl Try.func81 (by kernel_rfl) rfl #[.int .i64 Pb,.int .i64 0,.int .i64 (wrap64 ((Ga.length:Int) - 1))] rfl (by (try simp only [List.map_toArray,List.map_cons,List.map_nil]);first|done|rfl|(simp only [List.length_drop,List.length_take];rfl)) ?_;(with_reducible refine (Za.calls Pb 0 (wrap64 ((Ga.length:Int) - 1)) true _ iJ.out).mono ?_);rintro e w' ⟨rfl,⟨nd,rfl⟩⟩;refine ⟨_,rfl,?_⟩)|((with_reducible refine zb (f:=81) rfl ?_);refine Fc (some 35) rfl rfl Try.func81 (by kernel_rfl) rfl #[.int .i64 Nb,.int .i64 0,.int .i64 (wrap64 (Ja - 1))] rfl (by (try simp only [List.map_toArray,List.map_cons,List.map_nil]);first|done|rfl|(simp only [List.length_drop,List.length_take];rfl)) ?_;(with_reducible refine (Za.calls Nb 0 (wrap64 (Ja - 1)) t106 _ WQ.out).mono ?_);rintro e w' ⟨rfl,⟨nd,rfl⟩⟩;refine ⟨_,rfl,?_⟩));go_ret;exact ⟨by first|rfl|(simp [Na,Ma] <;> rfl)|(simp [*,Na,Ma] <;> rfl),by repeat (first|(with_reducible first|exact HB.out|apply oa|apply ia|apply qa|refine ua ?_ Ta.out|refine ua ?_ nc.out)|exact HB.out)⟩
     ·replace vw:=Bool.eq_false_iff.mpr vw;subst vw;have H1:(some false)=some r:=by rw [if_neg (show ¬ (false=true) by decide)] at H;exact H
      clear H;have H:=H1;clear H1;obtain rfl:=Option.some.inj H;have uar:=Bb.out;have Kaq:=Cb.out;have mL:wr.cell? ⟨Fa,0,none⟩=some (.slice tf Jc.length Xe):=(ja ya.out 0).trans rfl;have kL:wr.cell? ⟨Fa,1,none⟩=some (.int .i64 Sb):=(ja ya.out 1).trans rfl;have jL:wr.cell? ⟨Fa,2,none⟩=some (.int .i64 Nb):=(ja ya.out 2).trans rfl;have iL:wr.cell? ⟨Fa,3,none⟩=some (.int .i64 Pb):=(ja ya.out 3).trans rfl;have gL:wr.cell? ⟨Fa,4,none⟩=some (.int .i64 mc):=(ja ya.out 4).trans rfl;have uK:=aa ya.out 0;have tK:=aa ya.out 1;have sK:=aa ya.out 2;have rK:=aa ya.out 3;have qK:=aa ya.out 4;have Vy:wr.cell? ⟨za,0,none⟩=some (.slice yb Oa.length xb):=(ja ta.out 0).trans rfl;have Uy:wr.cell? ⟨za,1,none⟩=some (.int .i64 Ka):=(ja ta.out 1).trans rfl;have Ty:wr.cell? ⟨za,2,none⟩=some (.int .i64 Pa):=(ja ta.out 2).trans rfl;have Sy:wr.cell? ⟨za,3,none⟩=some (.int .i64 Ja):=(ja ta.out 3).trans rfl;have Ry:wr.cell? ⟨za,4,none⟩=some (.slice Rb Ga.length Ib):=(ja ta.out 4).trans rfl;have Fy:=aa ta.out 0;have Ey:=aa ta.out 1;have Dy:=aa ta.out 2;have Cy:=aa ta.out 3;have Ay:=aa ta.out 4;go_wp2_with (first|((with_reducible refine zb (f:=81) rfl ?_);refine Fc (some 29) rfl rfl Try.func81 (by kernel_rfl) rfl #[.int .i64 Pb,.int .i64 0,.int .i64 (wrap64 ((Ga.length:Int) - 1))] rfl (by (try simp only [List.map_toArray,List.map_cons,List.map_nil]);first|done|rfl|(simp only [List.length_drop,List.length_take];rfl)) ?_;(with_reducible refine (Za.calls Pb 0 (wrap64 ((Ga.length:Int) - 1)) false _ iJ.out).mono ?_);rintro e w' ⟨rfl,⟨nd,rfl⟩⟩;refine ⟨_,rfl,?_⟩)|((with_reducible refine zb (f:=81) rfl ?_);refine Fc (some 35) rfl rfl Try.func81 (by kernel_rfl) rfl #[.int .i64 Nb,.int .i64 0,.int .i64 (wrap64 (Ja - 1))] rfl (by (try simp only [List.map_toArray,List.map_cons,List.map_nil]);first|done|rfl|(simp only [List.length_drop,List.length_take];rfl)) ?_;(with_reducible refine (Za.calls Nb 0 (wrap64 (Ja - 1)) t106 _ WQ.out).mono ?_);rintro e w' ⟨rfl,⟨nd,rfl⟩⟩;refine ⟨_,rfl,?_⟩));go_ret;exact ⟨by first|rfl|(simp [Na,Ma] <;> rfl)|(simp [*,Na,Ma] <;> rfl),by repeat (first|(with_reducible first|exact HB.out|apply oa|apply ia|apply qa|refine ua ?_ Ta.out|refine ua ?_ nc.out)|exact HB.out)⟩
    ·rw [if_neg Mt] at H;have tB:(Sb == 0)=false:=beq_eq_false_iff_ne.mpr Mt;have DL:(Sb != 0)=true:=bne_iff_ne.mpr Mt
     by_cases BL:Sb=1
     ·rw [if_pos BL] at H;have EP:(Sb == 1)=true:=beq_iff_eq.mpr BL;have Naa:(Sb != 1)=false:=bne_eq_false_iff_eq.mpr BL;clear BL
      by_cases PM:t105=true
      ·subst PM;have H1:(if t106=true then ((Za.f mc 0 (wrap64 ((Ga.length:Int) - 1))).bind fun t107=>(some t107)) else (some false))=some r:=by rw [if_pos rfl] at H;exact H
       clear H;have H:=H1;clear H1
       by_cases zG:t106=true
       ·subst zG;have H1:((Za.f mc 0 (wrap64 ((Ga.length:Int) - 1))).bind fun t107=>(some t107))=some r:=by rw [if_pos rfl] at H;exact H
        clear H;have H:=H1;clear H1;replace H:=Option.bind_eq_some_iff.mp H;obtain ⟨t107,Nac,H⟩:=H;replace H:(some t107)=some r:=H;have A34:=ga.mk Nac;clear Nac;obtain rfl:=Option.some.inj H;have T5:=Bb.out;have J5:=Cb.out;have tD:wr.cell? ⟨Fa,0,none⟩=some (.slice tf Jc.length Xe):=(ja ya.out 0).trans rfl;have sD:wr.cell? ⟨Fa,1,none⟩=some (.int .i64 Sb):=(ja ya.out 1).trans rfl;have rD:wr.cell? ⟨Fa,2,none⟩=some (.int .i64 Nb):=(ja ya.out 2).trans rfl;have qD:wr.cell? ⟨Fa,3,none⟩=some (.int .i64 Pb):=(ja ya.out 3).trans rfl;have oD:wr.cell? ⟨Fa,4,none⟩=some (.int .i64 mc):=(ja ya.out 4).trans rfl;have uC:=aa ya.out 0;have tC:=aa ya.out 1;have sC:=aa ya.out 2;have rC:=aa ya.out 3;have qC:=aa ya.out 4;have oU:wr.cell? ⟨za,0,none⟩=some (.slice yb Oa.length xb):=(ja ta.out 0).trans rfl;have nU:wr.cell? ⟨za,1,none⟩=some (.int .i64 Ka):=(ja ta.out 1).trans rfl;have mU:wr.cell? ⟨za,2,none⟩=some (.int .i64 Pa):=(ja ta.out 2).trans rfl;have lU:wr.cell? ⟨za,3,none⟩=some (.int .i64 Ja):=(ja ta.out 3).trans rfl;have kU:wr.cell? ⟨za,4,none⟩=some (.slice Rb Ga.length Ib):=(ja ta.out 4).trans rfl;have PS:=aa ta.out 0;have OS:=aa ta.out 1;have NS:=aa ta.out 2;have MS:=aa ta.out 3;have LS:=aa ta.out 4;go_wp2_with (first|((with_reducible refine zb (f:=81) rfl ?_);refine Fc (some 29) rfl rfl Try.func81 (by kernel_rfl) rfl #[.int .i64 Pb,.int .i64 0,.int .i64 (wrap64 ((Ga.length:Int) - 1))] rfl (by (try simp only [List.map_toArray,List.map_cons,List.map_nil]);first|done|rfl|(simp only [List.length_drop,List.length_take];rfl)) ?_;(with_reducible refine (Za.calls Pb 0 (wrap64 ((Ga.length:Int) - 1)) true _ iJ.out).mono ?_);rintro e w' ⟨rfl,⟨nd,rfl⟩⟩;refine ⟨_,rfl,?_⟩)|((with_reducible refine zb (f:=81) rfl ?_);refine Fc (some 35) rfl rfl Try.func81 (by kernel_rfl) rfl #[.int .i64 Nb,.int .i64 0,.int .i64 (wrap64 (Ja - 1))] rfl (by (try simp only [List.map_toArray,List.map_cons,List.map_nil]);first|done|rfl|(simp only [List.length_drop,List.length_take];rfl)) ?_;(with_reducible refine (Za.calls Nb 0 (wrap64 (Ja - 1)) true _ WQ.out).mono ?_);rintro e w' ⟨rfl,⟨nd,rfl⟩⟩;refine ⟨_,rfl,?_⟩)|(go_at_call 81;(with_reducible refine (Za.calls mc 0 (wrap64 ((Ga.length:Int) - 1)) t107 _ A34.out).mono ?_);rintro e w' ⟨rfl,⟨nd,rfl⟩⟩));go_ret;exact ⟨by first|rfl|(simp [Na,Ma] <;> rfl)|(simp [*,Na,Ma] <;> rfl),by repeat (first|(with_reducible first|exact HB.out|apply oa|apply ia|apply qa|refine ua ?_ Ta.out|refine ua ?_ nc.out)|exact HB.out)⟩
       ·replace zG:=Bool.eq_false_iff.mpr zG;subst zG;have H1:(some false)=some r:=by rw [if_neg (show ¬ (false=true) by decide)] at H;exact H
        clear H;have H:=H1;clear H1;obtain rfl:=Option.some.inj H;have mar:=Bb.out;have Daq:=Cb.out;have UK:wr.cell? ⟨Fa,0,none⟩=some (.slice tf Jc.length Xe):=(ja ya.out 0).trans rfl;have TK:wr.cell? ⟨Fa,1,none⟩=some (.int .i64 Sb):=(ja ya.out 1).trans rfl;have SK:wr.cell? ⟨Fa,2,none⟩=some (.int .i64 Nb):=(ja ya.out 2).trans rfl;have RK:wr.cell? ⟨Fa,3,none⟩=some (.int .i64 Pb):=(ja ya.out 3).trans rfl;have QK:wr.cell? ⟨Fa,4,none⟩=some (.int .i64 mc):=(ja ya.out 4).trans rfl;have fK:=aa ya.out 0;have dK:=aa ya.out 1;have cK:=aa ya.out 2;have bK:=aa ya.out 3;have aK:=aa ya.out 4;have Qy:wr.cell? ⟨za,0,none⟩=some (.slice yb Oa.length xb):=(ja ta.out 0).trans rfl;have Py:wr.cell? ⟨za,1,none⟩=some (.int .i64 Ka):=(ja ta.out 1).trans rfl;have Oy:wr.cell? ⟨za,2,none⟩=some (.int .i64 Pa):=(ja ta.out 2).trans rfl;have Ny:wr.cell? ⟨za,3,none⟩=some (.int .i64 Ja):=(ja ta.out 3).trans rfl;have My:wr.cell? ⟨za,4,none⟩=some (.slice Rb Ga.length Ib):=(ja ta.out 4).trans rfl;have zy:=aa ta.out 0;have yy:=aa ta.out 1;have xy:=aa ta.out 2;have uy:=aa ta.out 3;have sy:=aa ta.out 4;go_wp2_with (first|((with_reducible refine zb (f:=81) rfl ?_);refine Fc (some 29) rfl rfl Try.func81 (by kernel_rfl) rfl #[.int .i64 Pb,.int .i64 0,.int .i64 (wrap64 ((Ga.length:Int) - 1))] rfl (by (try simp only [List.map_toArray,List.map_cons,List.map_nil]);first|done|rfl|(simp only [List.length_drop,List.length_take];rfl)) ?_;(with_reducible refine (Za.calls Pb 0 (wrap64 ((Ga.length:Int) - 1)) true _ iJ.out).mono ?_);rintro e w' ⟨rfl,⟨nd,rfl⟩⟩;refine ⟨_,rfl,?_⟩)|((with_reducible refine zb (f:=81) rfl ?_);refine Fc (some 35) rfl rfl Try.func81 (by kernel_rfl) rfl #[.int .i64 Nb,.int .i64 0,.int .i64 (wrap64 (Ja - 1))] rfl (by (try simp only [List.map_toArray,List.map_cons,List.map_nil]);first|done|rfl|(simp only [List.length_drop,List.length_take];rfl)) ?_;(with_reducible refine (Za.calls Nb 0 (wrap64 (Ja - 1)) false _ WQ.out).mono ?_);rintro e w' ⟨rfl,⟨nd,rfl⟩⟩;refine ⟨_,rfl,?_⟩));go_ret;exact ⟨by first|rfl|(simp [Na,Ma] <;> rfl)|(simp [*,Na,Ma] <;> rfl),by repeat (first|(with_reducible first|exact HB.out|apply oa|apply ia|apply qa|refine ua ?_ Ta.out|refine ua ?_ nc.out)|exact HB.out)⟩
      ·replace PM:=Bool.eq_false_iff.mpr PM;subst PM;have H1:(some false)=some r:=by rw [if_neg (show ¬ (false=true) by decide)] at H;exact H
       clear H;have H:=H1;clear H1;obtain rfl:=Option.some.inj H;have Q5:=Bb.out;have F5:=Cb.out;have PK:wr.cell? ⟨Fa,0,none⟩=some (.slice tf Jc.length Xe):=(ja ya.out 0).trans rfl;have OK:wr.cell? ⟨Fa,1,none⟩=some (.int .i64 Sb):=(ja ya.out 1).trans rfl;have NK:wr.cell? ⟨Fa,2,none⟩=some (.int .i64 Nb):=(ja ya.out 2).trans rfl;have MK:wr.cell? ⟨Fa,3,none⟩=some (.int .i64 Pb):=(ja ya.out 3).trans rfl;have LK:wr.cell? ⟨Fa,4,none⟩=some (.int .i64 mc):=(ja ya.out 4).trans rfl;have ZJ:=aa ya.out 0;have YJ:=aa ya.out 1;have XJ:=aa ya.out 2;have WJ:=aa ya.out 3;have VJ:=aa ya.out 4;have ZT:wr.cell? ⟨za,0,none⟩=some (.slice yb Oa.length xb):=(ja ta.out 0).trans rfl;have YT:wr.cell? ⟨za,1,none⟩=some (.int .i64 Ka):=(ja ta.out 1).trans rfl;have XT:wr.cell? ⟨za,2,none⟩=some (.int .i64 Pa):=(ja ta.out 2).trans rfl;have WT:wr.cell? ⟨za,3,none⟩=some (.int .i64 Ja):=(ja ta.out 3).trans rfl;have VT:wr.cell? ⟨za,4,none⟩=some (.slice Rb Ga.length Ib):=(ja ta.out 4).trans rfl;have xS:=aa ta.out 0;have wS:=aa ta.out 1;have vS:=aa ta.out 2;have uS:=aa ta.out 3;have tS:=aa ta.out 4;go_wp2_with (first|((with_reducible refine zb (f:=81) rfl ?_);refine Fc (some 29) rfl rfl Try.func81 (by kernel_rfl) rfl #[.int .i64 Pb,.int .i64 0,.int .i64 (wrap64 ((Ga.length:Int) - 1))] rfl (by (try simp only [List.map_toArray,List.map_cons,List.map_nil]);first|done|rfl|(simp only [List.length_drop,List.length_take];rfl)) ?_;(with_reducible refine (Za.calls Pb 0 (wrap64 ((Ga.length:Int) - 1)) false _ iJ.out).mono ?_);rintro e w' ⟨rfl,⟨nd,rfl⟩⟩;refine ⟨_,rfl,?_⟩)|((with_reducible refine zb (f:=81) rfl ?_);refine Fc (some 35) rfl rfl Try.func81 (by kernel_rfl) rfl #[.int .i64 Nb,.int .i64 0,.int .i64 (wrap64 (Ja - 1))] rfl (by (try simp only [List.map_toArray,List.map_cons,List.map_nil]);first|done|rfl|(simp only [List.length_drop,List.length_take];rfl)) ?_;(with_reducible refine (Za.calls Nb 0 (wrap64 (Ja - 1)) t106 _ WQ.out).mono ?_);rintro e w' ⟨rfl,⟨nd,rfl⟩⟩;refine ⟨_,rfl,?_⟩));go_ret;exact ⟨by first|rfl|(simp [Na,Ma] <;> rfl)|(simp [*,Na,Ma] <;> rfl),by repeat (first|(with_reducible first|exact HB.out|apply oa|apply ia|apply qa|refine ua ?_ Ta.out|refine ua ?_ nc.out)|exact HB.out)⟩
     ·rw [if_neg BL] at H;have EP:(Sb == 1)=false:=beq_eq_false_iff_ne.mpr BL;have Naa:(Sb != 1)=true:=bne_iff_ne.mpr BL
      by_cases Yz:Sb=2
      ·rw [if_pos Yz] at H;have wG:(Sb == 2)=true:=beq_iff_eq.mpr Yz;have vG:(Sb != 2)=false:=bne_eq_false_iff_eq.mpr Yz;clear Yz
       by_cases mE:t106=true
       ·subst mE;have H1:(if Pb=0 then (some (mc == 0)) else (some false))=some r:=by rw [if_pos rfl] at H;exact H
        clear H;have H:=H1;clear H1
        by_cases rB:Pb=0
        ·rw [if_pos rB] at H;have zL:(Pb == 0)=true:=beq_iff_eq.mpr rB;have CP:(Pb != 0)=false:=bne_eq_false_iff_eq.mpr rB;clear rB;obtain rfl:=Option.some.inj H;have ZV:=Bb.out;have XV:=Cb.out;have iD:wr.cell? ⟨Fa,0,none⟩=some (.slice tf Jc.length Xe):=(ja ya.out 0).trans rfl;have gD:wr.cell? ⟨Fa,1,none⟩=some (.int .i64 Sb):=(ja ya.out 1).trans rfl;have fD:wr.cell? ⟨Fa,2,none⟩=some (.int .i64 Nb):=(ja ya.out 2).trans rfl;have eD:wr.cell? ⟨Fa,3,none⟩=some (.int .i64 Pb):=(ja ya.out 3).trans rfl;have dD:wr.cell? ⟨Fa,4,none⟩=some (.int .i64 mc):=(ja ya.out 4).trans rfl;have jC:=aa ya.out 0;have iC:=aa ya.out 1;have fC:=aa ya.out 2;have eC:=aa ya.out 3;have cC:=aa ya.out 4;have MT:wr.cell? ⟨za,0,none⟩=some (.slice yb Oa.length xb):=(ja ta.out 0).trans rfl;have KT:wr.cell? ⟨za,1,none⟩=some (.int .i64 Ka):=(ja ta.out 1).trans rfl;have JT:wr.cell? ⟨za,2,none⟩=some (.int .i64 Pa):=(ja ta.out 2).trans rfl;have FT:wr.cell? ⟨za,3,none⟩=some (.int .i64 Ja):=(ja ta.out 3).trans rfl;have ET:wr.cell? ⟨za,4,none⟩=some (.slice Rb Ga.length Ib):=(ja ta.out 4).trans rfl;have jS:=aa ta.out 0;have iS:=aa ta.out 1;have gS:=aa ta.out 2;have fS:=aa ta.out 3;have eS:=aa ta.out 4;go_wp2_with (first|((with_reducible refine zb (f:=81) rfl ?_);refine Fc (some 29) rfl rfl Try.func81 (by kernel_rfl) rfl #[.int .i64 Pb,.int .i64 0,.int .i64 (wrap64 ((Ga.length:Int) - 1))] rfl (by (try simp only [List.map_toArray,List.map_cons,List.map_nil]);first|done|rfl|(simp only [List.length_drop,List.length_take];rfl)) ?_;(with_reducible refine (Za.calls Pb 0 (wrap64 ((Ga.length:Int) - 1)) t105 _ iJ.out).mono ?_);rintro e w' ⟨rfl,⟨nd,rfl⟩⟩;refine ⟨_,rfl,?_⟩)|((with_reducible refine zb (f:=81) rfl ?_);refine Fc (some 35) rfl rfl Try.func81 (by kernel_rfl) rfl #[.int .i64 Nb,.int .i64 0,.int .i64 (wrap64 (Ja - 1))] rfl (by (try simp only [List.map_toArray,List.map_cons,List.map_nil]);first|done|rfl|(simp only [List.length_drop,List.length_take];rfl)) ?_;(with_reducible refine (Za.calls Nb 0 (wrap64 (Ja - 1)) true _ WQ.out).mono ?_);rintro e w' ⟨rfl,⟨nd,rfl⟩⟩;refine ⟨_,rfl,?_⟩));go_ret;exact ⟨by first|rfl|(simp [Na,Ma] <;> rfl)|(simp [*,Na,Ma] <;> rfl),by repeat (first|(with_reducible first|exact HB.out|apply oa|apply ia|apply qa|refine ua ?_ Ta.out|refine ua ?_ nc.out)|exact HB.out)⟩
        ·rw [if_neg rB] at H;have zL:(Pb == 0)=false:=beq_eq_false_iff_ne.mpr rB;have CP:(Pb != 0)=true:=bne_iff_ne.mpr rB;obtain rfl:=Option.some.inj H;have iar:=Bb.out;have zaq:=Cb.out;have faj:wr.cell? ⟨Fa,0,none⟩=some (.slice tf Jc.length Xe):=(ja ya.out 0).trans rfl;have eaj:wr.cell? ⟨Fa,1,none⟩=some (.int .i64 Sb):=(ja ya.out 1).trans rfl;have daj:wr.cell? ⟨Fa,2,none⟩=some (.int .i64 Nb):=(ja ya.out 2).trans rfl;have caj:wr.cell? ⟨Fa,3,none⟩=some (.int .i64 Pb):=(ja ya.out 3).trans rfl;have baj:wr.cell? ⟨Fa,4,none⟩=some (.int .i64 mc):=(ja ya.out 4).trans rfl;have Kaf:=aa ya.out 0;have Jaf:=aa ya.out 1;have Iaf:=aa ya.out 2;have Haf:=aa ya.out 3;have Gaf:=aa ya.out 4;have KK:wr.cell? ⟨za,0,none⟩=some (.slice yb Oa.length xb):=(ja ta.out 0).trans rfl;have JK:wr.cell? ⟨za,1,none⟩=some (.int .i64 Ka):=(ja ta.out 1).trans rfl;have IK:wr.cell? ⟨za,2,none⟩=some (.int .i64 Pa):=(ja ta.out 2).trans rfl;have GK:wr.cell? ⟨za,3,none⟩=some (.int .i64 Ja):=(ja ta.out 3).trans rfl;have EK:wr.cell? ⟨za,4,none⟩=some (.slice Rb Ga.length Ib):=(ja ta.out 4).trans rfl;have UJ:=aa ta.out 0;have TJ:=aa ta.out 1;have SJ:=aa ta.out 2;have RJ:=aa ta.out 3;have QJ:=aa ta.out 4;go_wp2_with (first|((with_reducible refine zb (f:=81) rfl ?_);refine Fc (some 29) rfl rfl Try.func81 (by kernel_rfl) rfl #[.int .i64 Pb,.int .i64 0,.int .i64 (wrap64 ((Ga.length:Int) - 1))] rfl (by (try simp only [List.map_toArray,List.map_cons,List.map_nil]);first|done|rfl|(simp only [List.length_drop,List.length_take];rfl)) ?_;(with_reducible refine (Za.calls Pb 0 (wrap64 ((Ga.length:Int) - 1)) t105 _ iJ.out).mono ?_);rintro e w' ⟨rfl,⟨nd,rfl⟩⟩;refine ⟨_,rfl,?_⟩)|((with_reducible refine zb (f:=81) rfl ?_);refine Fc (some 35) rfl rfl Try.func81 (by kernel_rfl) rfl #[.int .i64 Nb,.int .i64 0,.int .i64 (wrap64 (Ja - 1))] rfl (by (try simp only [List.map_toArray,List.map_cons,List.map_nil]);first|done|rfl|(simp only [List.length_drop,List.length_take];rfl)) ?_;(with_reducible refine (Za.calls Nb 0 (wrap64 (Ja - 1)) true _ WQ.out).mono ?_);rintro e w' ⟨rfl,⟨nd,rfl⟩⟩;refine ⟨_,rfl,?_⟩));go_ret;exact ⟨by first|rfl|(simp [Na,Ma] <;> rfl)|(simp [*,Na,Ma] <;> rfl),by repeat (first|(with_reducible first|exact HB.out|apply oa|apply ia|apply qa|refine ua ?_ Ta.out|refine ua ?_ nc.out)|exact HB.out)⟩
       ·replace mE:=Bool.eq_false_iff.mpr mE;subst mE;have H1:(some false)=some r:=by rw [if_neg (show ¬ (false=true) by decide)] at H;exact H
        clear H;have H:=H1;clear H1;obtain rfl:=Option.some.inj H;have har:=Bb.out;have yaq:=Cb.out;have Tai:wr.cell? ⟨Fa,0,none⟩=some (.slice tf Jc.length Xe):=(ja ya.out 0).trans rfl;have Sai:wr.cell? ⟨Fa,1,none⟩=some (.int .i64 Sb):=(ja ya.out 1).trans rfl;have Rai:wr.cell? ⟨Fa,2,none⟩=some (.int .i64 Nb):=(ja ya.out 2).trans rfl;have Qai:wr.cell? ⟨Fa,3,none⟩=some (.int .i64 Pb):=(ja ya.out 3).trans rfl;have Pai:wr.cell? ⟨Fa,4,none⟩=some (.int .i64 mc):=(ja ya.out 4).trans rfl;have yaf:=aa ya.out 0;have xaf:=aa ya.out 1;have waf:=aa ya.out 2;have vaf:=aa ya.out 3;have uaf:=aa ya.out 4;have Oai:wr.cell? ⟨za,0,none⟩=some (.slice yb Oa.length xb):=(ja ta.out 0).trans rfl;have Nai:wr.cell? ⟨za,1,none⟩=some (.int .i64 Ka):=(ja ta.out 1).trans rfl;have Mai:wr.cell? ⟨za,2,none⟩=some (.int .i64 Pa):=(ja ta.out 2).trans rfl;have Lai:wr.cell? ⟨za,3,none⟩=some (.int .i64 Ja):=(ja ta.out 3).trans rfl;have Kai:wr.cell? ⟨za,4,none⟩=some (.slice Rb Ga.length Ib):=(ja ta.out 4).trans rfl;have taf:=aa ta.out 0;have saf:=aa ta.out 1;have raf:=aa ta.out 2;have qaf:=aa ta.out 3;have paf:=aa ta.out 4;go_wp2_with (first|((with_reducible refine zb (f:=81) rfl ?_);refine Fc (some 29) rfl rfl Try.func81 (by kernel_rfl) rfl #[.int .i64 Pb,.int .i64 0,.int .i64 (wrap64 ((Ga.length:Int) - 1))] rfl (by (try simp only [List.map_toArray,List.map_cons,List.map_nil]);first|done|rfl|(simp only [List.length_drop,List.length_take];rfl)) ?_;(with_reducible refine (Za.calls Pb 0 (wrap64 ((Ga.length:Int) - 1)) t105 _ iJ.out).mono ?_);rintro e w' ⟨rfl,⟨nd,rfl⟩⟩;refine ⟨_,rfl,?_⟩)|((with_reducible refine zb (f:=81) rfl ?_);refine Fc (some 35) rfl rfl Try.func81 (by kernel_rfl) rfl #[.int .i64 Nb,.int .i64 0,.int .i64 (wrap64 (Ja - 1))] rfl (by (try simp only [List.map_toArray,List.map_cons,List.map_nil]);first|done|rfl|(simp only [List.length_drop,List.length_take];rfl)) ?_;(with_reducible refine (Za.calls Nb 0 (wrap64 (Ja - 1)) false _ WQ.out).mono ?_);rintro e w' ⟨rfl,⟨nd,rfl⟩⟩;refine ⟨_,rfl,?_⟩));go_ret;exact ⟨by first|rfl|(simp [Na,Ma] <;> rfl)|(simp [*,Na,Ma] <;> rfl),by repeat (first|(with_reducible first|exact HB.out|apply oa|apply ia|apply qa|refine ua ?_ Ta.out|refine ua ?_ nc.out)|exact HB.out)⟩
      ·rw [if_neg Yz] at H;have wG:(Sb == 2)=false:=beq_eq_false_iff_ne.mpr Yz;have vG:(Sb != 2)=true:=bne_iff_ne.mpr Yz;obtain rfl:=Option.some.inj H;have gar:=Bb.out;have xaq:=Cb.out;have Jai:wr.cell? ⟨Fa,0,none⟩=some (.slice tf Jc.length Xe):=(ja ya.out 0).trans rfl;have Iai:wr.cell? ⟨Fa,1,none⟩=some (.int .i64 Sb):=(ja ya.out 1).trans rfl;have Hai:wr.cell? ⟨Fa,2,none⟩=some (.int .i64 Nb):=(ja ya.out 2).trans rfl;have Gai:wr.cell? ⟨Fa,3,none⟩=some (.int .i64 Pb):=(ja ya.out 3).trans rfl;have Fai:wr.cell? ⟨Fa,4,none⟩=some (.int .i64 mc):=(ja ya.out 4).trans rfl;have oaf:=aa ya.out 0;have naf:=aa ya.out 1;have maf:=aa ya.out 2;have laf:=aa ya.out 3;have kaf:=aa ya.out 4;have wT:wr.cell? ⟨za,0,none⟩=some (.slice yb Oa.length xb):=(ja ta.out 0).trans rfl;have vT:wr.cell? ⟨za,1,none⟩=some (.int .i64 Ka):=(ja ta.out 1).trans rfl;have uT:wr.cell? ⟨za,2,none⟩=some (.int .i64 Pa):=(ja ta.out 2).trans rfl;have rT:wr.cell? ⟨za,3,none⟩=some (.int .i64 Ja):=(ja ta.out 3).trans rfl;have qT:wr.cell? ⟨za,4,none⟩=some (.slice Rb Ga.length Ib):=(ja ta.out 4).trans rfl;have XR:=aa ta.out 0;have WR:=aa ta.out 1;have VR:=aa ta.out 2;have UR:=aa ta.out 3;have TR:=aa ta.out 4;go_wp2_with (first|((with_reducible refine zb (f:=81) rfl ?_);refine Fc (some 29) rfl rfl Try.func81 (by kernel_rfl) rfl #[.int .i64 Pb,.int .i64 0,.int .i64 (wrap64 ((Ga.length:Int) - 1))] rfl (by (try simp only [List.map_toArray,List.map_cons,List.map_nil]);first|done|rfl|(simp only [List.length_drop,List.length_take];rfl)) ?_;(with_reducible refine (Za.calls Pb 0 (wrap64 ((Ga.length:Int) - 1)) t105 _ iJ.out).mono ?_);rintro e w' ⟨rfl,⟨nd,rfl⟩⟩;refine ⟨_,rfl,?_⟩)|((with_reducible refine zb (f:=81) rfl ?_);refine Fc (some 35) rfl rfl Try.func81 (by kernel_rfl) rfl #[.int .i64 Nb,.int .i64 0,.int .i64 (wrap64 (Ja - 1))] rfl (by (try simp only [List.map_toArray,List.map_cons,List.map_nil]);first|done|rfl|(simp only [List.length_drop,List.length_take];rfl)) ?_;(with_reducible refine (Za.calls Nb 0 (wrap64 (Ja - 1)) t106 _ WQ.out).mono ?_);rintro e w' ⟨rfl,⟨nd,rfl⟩⟩;refine ⟨_,rfl,?_⟩));go_ret;exact ⟨by first|rfl|(simp [Na,Ma] <;> rfl)|(simp [*,Na,Ma] <;> rfl),by repeat (first|(with_reducible first|exact HB.out|apply oa|apply ia|apply qa|refine ua ?_ Ta.out|refine ua ?_ nc.out)|exact HB.out)⟩
mutual
def Ua.l0:Nat→Int→List Int→Int→Int→Int→List (jf)→Option (Bool)
 | 0,_,_,_,_,_,_=>none
 | k + 1,x3,Sc,Tc,Rc,Qc,Xb=>if x3 < (Sc.length:Int) then (if 0 ≤ x3 then ((Za.f (rd Sc x3) 1 16).bind fun t103=>(if t103=true then (Ua.l0 k (wrap64 (x3 + 1)) Sc Tc Rc Qc Xb) else (some false))) else (none)) else ((Za.f (Sc.length:Int) 1 4).bind fun t104=>(if t104=true then ((Za.f Rc 0 20).bind fun t105=>(if t105=true then ((Za.f Tc 0 6).bind fun t106=>(if t106=true then (if Tc > Rc then (Ua.j1 k true Sc Tc Rc Qc Xb) else ((Za.f Qc Rc 1000).bind fun t107=>(if t107=true then ((Za.f (Xb.length:Int) 1 300).bind fun t108=>(Ua.j1 k (!t108) Sc Tc Rc Qc Xb)) else (Ua.j1 k true Sc Tc Rc Qc Xb)))) else (Ua.j1 k true Sc Tc Rc Qc Xb))) else (Ua.j1 k true Sc Tc Rc Qc Xb))) else (Ua.j1 k true Sc Tc Rc Qc Xb)))
def Ua.j1:Nat→Bool→List Int→Int→Int→Int→List (jf)→Option (Bool)
 | 0,_,_,_,_,_,_=>none
 | k + 1,x58,Sc,Tc,Rc,Qc,Xb=>if x58=true then (some false) else (Ua.l1 k 0 0 Sc Tc Rc Qc Xb)
def Ua.l1:Nat→Int→Int→List Int→Int→Int→Int→List (jf)→Option (Bool)
 | 0,_,_,_,_,_,_,_=>none
 | k + 1,x4,x5,Sc,Tc,Rc,Qc,Xb=>if x5 < (Xb.length:Int) then (if 0 ≤ x5 then (if (wrap64 (x4 + (((Sa Xb x5).f0).length:Int))) > 1000 then (some false) else ((fc.f k Sc Tc Rc Qc Xb ((Sa Xb x5).f0) ((Sa Xb x5).f1) ((Sa Xb x5).f2) ((Sa Xb x5).f3) ((Sa Xb x5).f4)).bind fun t111=>(if t111=true then (Ua.l1 k (wrap64 (x4 + (((Sa Xb x5).f0).length:Int))) (wrap64 (x5 + 1)) Sc Tc Rc Qc Xb) else (some false)))) else (none)) else (some true)
end
def Ua.f (k:Nat) (Oa:List Int) (Ka:Int) (Pa:Int) (Ja:Int) (Ga:List (jf)):Option (Bool):=Ua.l0 k 0 Oa Ka Pa Ja Ga
def Ua.T13:Bool × List (List Nat × List Nat):=(true,[([],[]),([0],[0]),([1],[1]),([2],[2]),([2],[2]),([4,2],[2,4]),([2],[2]),([5,6,2],[2,5,6]),([7,2],[2,7]),([3,8,2,2],[2,3,8]),([9,2],[2,9]),([2,10],[2,10])])
def Ua.B13:List Nat:=[0,1,3,7,7,23,7,119,247,511,1023,2047]
theorem Ua.sN:Wk .any (opsOf Try.f66 13)=Ua.T13:=by kernel_rfl
theorem Ua.QI:Yj Ua.T13.2 Ua.B13=true:=by kernel_rfl
theorem Ua.calls (k:Nat) (yb:Option Addr) (xb:Nat) (Oa:List Int) (Ka:Int) (Pa:Int) (Ja:Int) (Rb:Option Addr) (Ib:Nat) (Ga:List (jf)) (r:Bool) (w:World) (fe:Kd.C (Kd.int .i64) w yb Oa.length Oa) (Yd:Oa.length ≤ xb) (Ff:Kd.C Po w Rb Ga.length Ga) (Hf:Ga.length ≤ Ib) (h:Ua.f k Oa Ka Pa Ja Ga=some r) :
  Calls Try.prog 66 #[.agg #[.slice yb Oa.length xb,.int .i64 Ka,.int .i64 Pa,.int .i64 Ja,.slice Rb Ga.length Ib]] w fun e w'=>e = .returned (.bool r)∧Below w.heap.size w w':=by
 have KA:=Try.underlying45;have Iz:=Try.underlying83;have Qe:=ga.mk fe;have gf:=ga.mk Yd;clear fe Yd;have ug:=ga.mk Ff;have Kh:=ga.mk Hf;clear Ff Hf;have HB:=ga.mk (Below.refl w.heap.size w);have H:(Ua.l0 k 0 Oa Ka Pa Ja Ga)=some r:=h;clear h;have H':=ga.mk H;clear H;go_enter Try.func66,Try.ntmps66;go_wp2_with (first|((with_reducible refine Db (N:=1) rfl ?_);(try (refine di (by rfl) ?_;dsimp only));refine Lb ?hg (N:=1) ?hd (cs:=#[.slice yb Oa.length xb,.int .i64 Ka,.int .i64 Pa,.int .i64 Ja,.slice Rb Ga.length Ib]) (t:=45) ?hr ?_;(case hd=>rfl);(case hg=>rfl);(case hr=>first|(go_simp;done)|(go_simp;rfl));intro za hg w2 Tb hb;have Jb:=ga.mk (Ra (by repeat (first|(with_reducible first|exact HB.out|apply oa|apply ia|apply qa)|exact HB.out)) hb);have Ob:=ga.mk (Tb);have Vb:=ga.mk ((by rw [hg];exact (La (by repeat (first|(with_reducible first|exact HB.out|apply oa|apply ia|apply qa)|exact HB.out))):w.heap.size ≤ za));have uc:=ga.mk ((by rw [hg];exact (La (by repeat (first|(with_reducible first|exact HB.out|apply oa|apply ia|apply qa)|exact HB.out))):w.heap.size ≤ za));clear HB;have HB:=Jb;have ta:=Ob;have ue:=Vb;have Ta:=uc;clear Jb Ob Vb uc hb Tb hg))
 go_loopg [3] k (fun kq v3 w'=>∃ (Oc:Int),v3 = .int .i64 Oc∧ga (Ua.l0 kq Oc Oa Ka Pa Ja Ga=some r)∧ga (kq ≤ k)∧ga (w'.heap[za]? = some (.cells #[(.slice yb Oa.length xb),.int .i64 Ka,.int .i64 Pa,.int .i64 Ja,(.slice Rb Ga.length Ib)] 45 (0,0)))∧ga (Below w.heap.size w w'))
 case atStart=>exact ⟨(0),(by first|rfl|(simp;done)|(simp [*];done)),H',⟨Nat.le_refl _⟩,⟨by (with_reducible repeat (first|refine Da ?_ _|refine Ea ?_|refine Ca ?_ _));exact ta.out⟩,⟨by repeat (first|(with_reducible first|exact HB.out|apply oa|apply ia|apply qa|refine ua ?_ Ta.out)|exact HB.out)⟩⟩
 case round =>
  clear H'
  try clear p2
  (try clear HA);(try clear Nf);(try clear ta);(try clear HB);obtain ⟨Oc,rfl,HA,Nf,ta,HB⟩:=hrel;cases gk with
  | zero=>exact absurd HA.out (by simp [Ua.l0])
  | succ k1 =>
   have H:=HA.out;clear HA;simp only [Ua.l0] at H
   by_cases c3:Oc < (Oa.length:Int)
   ·rw [if_pos c3] at H;have Gg:decide (Oc < (Oa.length:Int))=true:=decide_eq_true c3;clear c3
    by_cases c4:0 ≤ Oc
    ·rw [if_pos c4] at H;have yj:decide (0 ≤ Oc)=true:=decide_eq_true c4;clear c4;replace H:=Option.bind_eq_some_iff.mp H;obtain ⟨t103,FX,H⟩:=H;replace H:(if t103=true then (Ua.l0 k1 (wrap64 (Oc + 1)) Oa Ka Pa Ja Ga) else (some false))=some r:=H;have A5:=ga.mk FX;clear FX
     by_cases c6:t103=true
     ·subst c6;have H1:(Ua.l0 k1 (wrap64 (Oc + 1)) Oa Ka Pa Ja Ga)=some r:=by rw [if_pos rfl] at H;exact H
      clear H;have H:=H1;clear H1;have H':=ga.mk H;clear H;have Zw:wr.cell? ⟨za,0,none⟩=some (.slice yb Oa.length xb):=(ja ta.out 0).trans rfl;have Yw:wr.cell? ⟨za,1,none⟩=some (.int .i64 Ka):=(ja ta.out 1).trans rfl;have Xw:wr.cell? ⟨za,2,none⟩=some (.int .i64 Pa):=(ja ta.out 2).trans rfl;have Ww:wr.cell? ⟨za,3,none⟩=some (.int .i64 Ja):=(ja ta.out 3).trans rfl;have Vw:wr.cell? ⟨za,4,none⟩=some (.slice Rb Ga.length Ib):=(ja ta.out 4).trans rfl;have Pw:=aa ta.out 0;have Ow:=aa ta.out 1;have Nw:=aa ta.out 2;have Mw:=aa ta.out 3;have Lw:=aa ta.out 4;have Ci:0 ≤ (Oc:Int):=of_decide_eq_true (by first|(with_reducible assumption)|assumption);have Bi:Oc < (Oa.length:Int):=of_decide_eq_true (by first|(with_reducible assumption)|assumption);obtain ⟨Oe,Gr,Ie⟩:=Kd.qf Qe.out Oc Ci Bi;cases Gr;replace Ie:=Qa HB.out Ie;replace Ci:=eq_true Ci;replace Bi:=eq_true Bi;go_wp2_with (first|((with_reducible refine zb (f:=81) rfl ?_);refine Fc (some 18) rfl rfl Try.func81 (by kernel_rfl) rfl #[.int .i64 (rd Oa Oc),.int .i64 1,.int .i64 16] rfl (by (try simp only [List.map_toArray,List.map_cons,List.map_nil]);first|done|rfl|(simp only [List.length_drop,List.length_take];rfl)) ?_;(with_reducible refine (Za.calls (rd Oa Oc) 1 16 true _ A5.out).mono ?_);rintro e w' ⟨rfl,⟨nd,rfl⟩⟩;refine ⟨_,rfl,?_⟩))
      go_roundg k1
      case measure=>have:=Nf.out;omega
      case rel=>exact ⟨(wrap64 (Oc + 1)),(by first|rfl|(simp;done)|(simp [*];done)),H',⟨by have:=Nf.out;omega⟩,⟨by (with_reducible repeat (first|refine Da ?_ _|refine Ea ?_|refine Ca ?_ _));exact ta.out⟩,⟨by repeat (first|(with_reducible first|exact HB.out|apply oa|apply ia|apply qa|refine ua ?_ Ta.out)|exact HB.out)⟩⟩
     ·replace c6:=Bool.eq_false_iff.mpr c6;subst c6;have H1:(some false)=some r:=by rw [if_neg (show ¬ (false=true) by decide)] at H;exact H
      clear H;have H:=H1;clear H1;obtain rfl:=Option.some.inj H;have mI:wr.cell? ⟨za,0,none⟩=some (.slice yb Oa.length xb):=(ja ta.out 0).trans rfl;have lI:wr.cell? ⟨za,1,none⟩=some (.int .i64 Ka):=(ja ta.out 1).trans rfl;have kI:wr.cell? ⟨za,2,none⟩=some (.int .i64 Pa):=(ja ta.out 2).trans rfl;have jI:wr.cell? ⟨za,3,none⟩=some (.int .i64 Ja):=(ja ta.out 3).trans rfl;have iI:wr.cell? ⟨za,4,none⟩=some (.slice Rb Ga.length Ib):=(ja ta.out 4).trans rfl;have dI:=aa ta.out 0;have cI:=aa ta.out 1;have bI:=aa ta.out 2;have aI:=aa ta.out 3;have ZH:=aa ta.out 4;have Ci:0 ≤ (Oc:Int):=of_decide_eq_true (by first|(with_reducible assumption)|assumption);have Bi:Oc < (Oa.length:Int):=of_decide_eq_true (by first|(with_reducible assumption)|assumption);obtain ⟨Oe,Gr,Ie⟩:=Kd.qf Qe.out Oc Ci Bi;cases Gr;replace Ie:=Qa HB.out Ie;replace Ci:=eq_true Ci;replace Bi:=eq_true Bi;go_wp2_with (first|((with_reducible refine zb (f:=81) rfl ?_);refine Fc (some 18) rfl rfl Try.func81 (by kernel_rfl) rfl #[.int .i64 (rd Oa Oc),.int .i64 1,.int .i64 16] rfl (by (try simp only [List.map_toArray,List.map_cons,List.map_nil]);first|done|rfl|(simp only [List.length_drop,List.length_take];rfl)) ?_;(with_reducible refine (Za.calls (rd Oa Oc) 1 16 false _ A5.out).mono ?_);rintro e w' ⟨rfl,⟨nd,rfl⟩⟩;refine ⟨_,rfl,?_⟩));go_ret;exact ⟨by first|rfl|(simp [Na,Ma] <;> rfl)|(simp [*,Na,Ma] <;> rfl),by repeat (first|(with_reducible first|exact HB.out|apply oa|apply ia|apply qa|refine ua ?_ Ta.out)|exact HB.out)⟩
    ·rw [if_neg c4] at H;exact absurd H (by simp)
   ·rw [if_neg c3] at H;have Gg:decide (Oc < (Oa.length:Int))=false:=decide_eq_false c3;clear c3;have HC9:=ga.mk H;clear H;have Nj:wr.cell? ⟨za,0,none⟩=some (.slice yb Oa.length xb):=(ja ta.out 0).trans rfl;have Mj:wr.cell? ⟨za,1,none⟩=some (.int .i64 Ka):=(ja ta.out 1).trans rfl;have Lj:wr.cell? ⟨za,2,none⟩=some (.int .i64 Pa):=(ja ta.out 2).trans rfl;have Kj:wr.cell? ⟨za,3,none⟩=some (.int .i64 Ja):=(ja ta.out 3).trans rfl;have Jj:wr.cell? ⟨za,4,none⟩=some (.slice Rb Ga.length Ib):=(ja ta.out 4).trans rfl;have Ij:=aa ta.out 0;have Hj:=aa ta.out 1;have Gj:=aa ta.out 2;have Fj:=aa ta.out 3;have Ej:=aa ta.out 4
    go_upto_region 6 with (fail)
    go_cut [58] (fun v58 wc=>∃ (kq:Nat) (jJ:Bool),v58 = .bool jJ∧ga (Ua.j1 kq jJ Oa Ka Pa Ja Ga=some r)∧ga (kq ≤ k1)∧ga (wc.heap[za]? = some (.cells #[(.slice yb Oa.length xb),.int .i64 Ka,.int .i64 Pa,.int .i64 Ja,(.slice Rb Ga.length Ib)] 45 (0,0)))∧ga (Below w.heap.size w wc))
    case first =>
     have H:=HC9.out;clear HC9;replace H:=Option.bind_eq_some_iff.mp H;obtain ⟨t104,GQ,H⟩:=H;replace H:(if t104=true then ((Za.f Pa 0 20).bind fun t105=>(if t105=true then ((Za.f Ka 0 6).bind fun t106=>(if t106=true then (if Ka > Pa then (Ua.j1 k1 true Oa Ka Pa Ja Ga) else ((Za.f Ja Pa 1000).bind fun t107=>(if t107=true then ((Za.f (Ga.length:Int) 1 300).bind fun t108=>(Ua.j1 k1 (!t108) Oa Ka Pa Ja Ga)) else (Ua.j1 k1 true Oa Ka Pa Ja Ga)))) else (Ua.j1 k1 true Oa Ka Pa Ja Ga))) else (Ua.j1 k1 true Oa Ka Pa Ja Ga))) else (Ua.j1 k1 true Oa Ka Pa Ja Ga))=some r:=H;have IX:=ga.mk GQ;clear GQ
     by_cases xw:t104=true
     ·subst xw;have H1:((Za.f Pa 0 20).bind fun t105=>(if t105=true then ((Za.f Ka 0 6).bind fun t106=>(if t106=true then (if Ka > Pa then (Ua.j1 k1 true Oa Ka Pa Ja Ga) else ((Za.f Ja Pa 1000).bind fun t107=>(if t107=true then ((Za.f (Ga.length:Int) 1 300).bind fun t108=>(Ua.j1 k1 (!t108) Oa Ka Pa Ja Ga)) else (Ua.j1 k1 true Oa Ka Pa Ja Ga)))) else (Ua.j1 k1 true Oa Ka Pa Ja Ga))) else (Ua.j1 k1 true Oa Ka Pa Ja Ga)))=some r:=by rw [if_pos rfl] at H;exact H
      clear H;have H:=H1;clear H1;replace H:=Option.bind_eq_some_iff.mp H;obtain ⟨t105,Yac,H⟩:=H;replace H:(if t105=true then ((Za.f Ka 0 6).bind fun t106=>(if t106=true then (if Ka > Pa then (Ua.j1 k1 true Oa Ka Pa Ja Ga) else ((Za.f Ja Pa 1000).bind fun t107=>(if t107=true then ((Za.f (Ga.length:Int) 1 300).bind fun t108=>(Ua.j1 k1 (!t108) Oa Ka Pa Ja Ga)) else (Ua.j1 k1 true Oa Ka Pa Ja Ga)))) else (Ua.j1 k1 true Oa Ka Pa Ja Ga))) else (Ua.j1 k1 true Oa Ka Pa Ja Ga))=some r:=H;have A13:=ga.mk Yac;clear Yac
      by_cases Xt:t105=true
      ·subst Xt;have H1:((Za.f Ka 0 6).bind fun t106=>(if t106=true then (if Ka > Pa then (Ua.j1 k1 true Oa Ka Pa Ja Ga) else ((Za.f Ja Pa 1000).bind fun t107=>(if t107=true then ((Za.f (Ga.length:Int) 1 300).bind fun t108=>(Ua.j1 k1 (!t108) Oa Ka Pa Ja Ga)) else (Ua.j1 k1 true Oa Ka Pa Ja Ga)))) else (Ua.j1 k1 true Oa Ka Pa Ja Ga)))=some r:=by rw [if_pos rfl] at H;exact H
       clear H;have H:=H1;clear H1;replace H:=Option.bind_eq_some_iff.mp H;obtain ⟨t106,Wac,H⟩:=H;replace H:(if t106=true then (if Ka > Pa then (Ua.j1 k1 true Oa Ka Pa Ja Ga) else ((Za.f Ja Pa 1000).bind fun t107=>(if t107=true then ((Za.f (Ga.length:Int) 1 300).bind fun t108=>(Ua.j1 k1 (!t108) Oa Ka Pa Ja Ga)) else (Ua.j1 k1 true Oa Ka Pa Ja Ga)))) else (Ua.j1 k1 true Oa Ka Pa Ja Ga))=some r:=H;have A15:=ga.mk Wac;clear Wac
       by_cases aA:t106=true
       ·subst aA;have H1:(if Ka > Pa then (Ua.j1 k1 true Oa Ka Pa Ja Ga) else ((Za.f Ja Pa 1000).bind fun t107=>(if t107=true then ((Za.f (Ga.length:Int) 1 300).bind fun t108=>(Ua.j1 k1 (!t108) Oa Ka Pa Ja Ga)) else (Ua.j1 k1 true Oa Ka Pa Ja Ga))))=some r:=by rw [if_pos rfl] at H;exact H
        clear H;have H:=H1;clear H1
        by_cases nE:Ka > Pa
        ·rw [if_pos nE] at H;have Px:decide (Pa < Ka)=true:=decide_eq_true nE;clear nE;(first|rw [Px]|(simp only [Yb,Zb];rw [Px])|skip);have H':=ga.mk H;clear H;have vt:wr.cell? ⟨za,0,none⟩=some (.slice yb Oa.length xb):=(ja ta.out 0).trans rfl;have qt:wr.cell? ⟨za,1,none⟩=some (.int .i64 Ka):=(ja ta.out 1).trans rfl;have ot:wr.cell? ⟨za,2,none⟩=some (.int .i64 Pa):=(ja ta.out 2).trans rfl;have nt:wr.cell? ⟨za,3,none⟩=some (.int .i64 Ja):=(ja ta.out 3).trans rfl;have jt:wr.cell? ⟨za,4,none⟩=some (.slice Rb Ga.length Ib):=(ja ta.out 4).trans rfl;have Qs:=aa ta.out 0;have Ns:=aa ta.out 1;have Ms:=aa ta.out 2;have Ls:=aa ta.out 3;have Ks:=aa ta.out 4;go_wp2_with (first|((with_reducible refine zb (f:=81) rfl ?_);refine Fc (some 23) rfl rfl Try.func81 (by kernel_rfl) rfl #[.int .i64 (Oa.length:Int),.int .i64 1,.int .i64 4] rfl (by (try simp only [List.map_toArray,List.map_cons,List.map_nil]);first|done|rfl|(simp only [List.length_drop,List.length_take];rfl)) ?_;(with_reducible refine (Za.calls (Oa.length:Int) 1 4 true _ IX.out).mono ?_);rintro e w' ⟨rfl,⟨nd,rfl⟩⟩;refine ⟨_,rfl,?_⟩)|(go_at_call 81;(with_reducible refine (Za.calls Pa 0 20 true _ A13.out).mono ?_);rintro e w' ⟨rfl,⟨nd,rfl⟩⟩)|(go_at_call 81;(with_reducible refine (Za.calls Ka 0 6 true _ A15.out).mono ?_);rintro e w' ⟨rfl,⟨nd,rfl⟩⟩))
         go_meet
         case rel=>exact ⟨_,(true),(by first|rfl|(simp;done)|(simp [*];done)),H',⟨by have:=Nf.out;first|omega|exact Nat.le_refl _⟩,⟨by (with_reducible repeat (first|refine Da ?_ _|refine Ea ?_|refine Ca ?_ _));exact ta.out⟩,⟨by repeat (first|(with_reducible first|exact HB.out|apply oa|apply ia|apply qa|refine ua ?_ Ta.out)|exact HB.out)⟩⟩
        ·rw [if_neg nE] at H;have Px:decide (Pa < Ka)=false:=decide_eq_false nE;clear nE;(first|rw [Px]|(simp only [Yb,Zb];rw [Px])|skip);replace H:=Option.bind_eq_some_iff.mp H;obtain ⟨t107,Uac,H⟩:=H;replace H:(if t107=true then ((Za.f (Ga.length:Int) 1 300).bind fun t108=>(Ua.j1 k1 (!t108) Oa Ka Pa Ja Ga)) else (Ua.j1 k1 true Oa Ka Pa Ja Ga))=some r:=H;have A19:=ga.mk Uac;clear Uac
         by_cases vw:t107=true
         ·subst vw;have H1:((Za.f (Ga.length:Int) 1 300).bind fun t108=>(Ua.j1 k1 (!t108) Oa Ka Pa Ja Ga))=some r:=by rw [if_pos rfl] at H;exact H
          clear H;have H:=H1;clear H1;replace H:=Option.bind_eq_some_iff.mp H;obtain ⟨t108,Sac,H⟩:=H;replace H:(Ua.j1 k1 (!t108) Oa Ka Pa Ja Ga)=some r:=H;have A21:=ga.mk Sac;clear Sac;have H':=ga.mk H;clear H;have bt:wr.cell? ⟨za,0,none⟩=some (.slice yb Oa.length xb):=(ja ta.out 0).trans rfl;have Zs:wr.cell? ⟨za,1,none⟩=some (.int .i64 Ka):=(ja ta.out 1).trans rfl;have Ys:wr.cell? ⟨za,2,none⟩=some (.int .i64 Pa):=(ja ta.out 2).trans rfl;have Xs:wr.cell? ⟨za,3,none⟩=some (.int .i64 Ja):=(ja ta.out 3).trans rfl;have Ws:wr.cell? ⟨za,4,none⟩=some (.slice Rb Ga.length Ib):=(ja ta.out 4).trans rfl;have Js:=aa ta.out 0;have Hs:=aa ta.out 1;have Gs:=aa ta.out 2;have Fs:=aa ta.out 3;have Es:=aa ta.out 4;go_wp2_with (first|((with_reducible refine zb (f:=81) rfl ?_);refine Fc (some 23) rfl rfl Try.func81 (by kernel_rfl) rfl #[.int .i64 (Oa.length:Int),.int .i64 1,.int .i64 4] rfl (by (try simp only [List.map_toArray,List.map_cons,List.map_nil]);first|done|rfl|(simp only [List.length_drop,List.length_take];rfl)) ?_;(with_reducible refine (Za.calls (Oa.length:Int) 1 4 true _ IX.out).mono ?_);rintro e w' ⟨rfl,⟨nd,rfl⟩⟩;refine ⟨_,rfl,?_⟩)|(go_at_call 81;(with_reducible refine (Za.calls Pa 0 20 true _ A13.out).mono ?_);rintro e w' ⟨rfl,⟨nd,rfl⟩⟩)|(go_at_call 81;(with_reducible refine (Za.calls Ka 0 6 true _ A15.out).mono ?_);rintro e w' ⟨rfl,⟨nd,rfl⟩⟩)|(go_at_call 81;(with_reducible refine (Za.calls Ja Pa 1000 true _ A19.out).mono ?_);rintro e w' ⟨rfl,⟨nd,rfl⟩⟩)|(go_at_call 81;(with_reducible refine (Za.calls (Ga.length:Int) 1 300 t108 _ A21.out).mono ?_);rintro e w' ⟨rfl,⟨nd,rfl⟩⟩))
          go_meet
          case rel=>exact ⟨_,(!t108),(by first|rfl|(simp;done)|(simp [*];done)),H',⟨by have:=Nf.out;first|omega|exact Nat.le_refl _⟩,⟨by (with_reducible repeat (first|refine Da ?_ _|refine Ea ?_|refine Ca ?_ _));exact ta.out⟩,⟨by repeat (first|(with_reducible first|exact HB.out|apply oa|apply ia|apply qa|refine ua ?_ Ta.out)|exact HB.out)⟩⟩
         ·replace vw:=Bool.eq_false_iff.mpr vw;subst vw;have H1:(Ua.j1 k1 true Oa Ka Pa Ja Ga)=some r:=by rw [if_neg (show ¬ (false=true) by decide)] at H;exact H
          clear H;have H:=H1;clear H1;have H':=ga.mk H;clear H;have eo:wr.cell? ⟨za,0,none⟩=some (.slice yb Oa.length xb):=(ja ta.out 0).trans rfl;have Zn:wr.cell? ⟨za,1,none⟩=some (.int .i64 Ka):=(ja ta.out 1).trans rfl;have Yn:wr.cell? ⟨za,2,none⟩=some (.int .i64 Pa):=(ja ta.out 2).trans rfl;have Xn:wr.cell? ⟨za,3,none⟩=some (.int .i64 Ja):=(ja ta.out 3).trans rfl;have Wn:wr.cell? ⟨za,4,none⟩=some (.slice Rb Ga.length Ib):=(ja ta.out 4).trans rfl;have Qn:=aa ta.out 0;have Pn:=aa ta.out 1;have Nn:=aa ta.out 2;have Mn:=aa ta.out 3;have Ln:=aa ta.out 4;go_wp2_with (first|((with_reducible refine zb (f:=81) rfl ?_);refine Fc (some 23) rfl rfl Try.func81 (by kernel_rfl) rfl #[.int .i64 (Oa.length:Int),.int .i64 1,.int .i64 4] rfl (by (try simp only [List.map_toArray,List.map_cons,List.map_nil]);first|done|rfl|(simp only [List.length_drop,List.length_take];rfl)) ?_;(with_reducible refine (Za.calls (Oa.length:Int) 1 4 true _ IX.out).mono ?_);rintro e w' ⟨rfl,⟨nd,rfl⟩⟩;refine ⟨_,rfl,?_⟩)|(go_at_call 81;(with_reducible refine (Za.calls Pa 0 20 true _ A13.out).mono ?_);rintro e w' ⟨rfl,⟨nd,rfl⟩⟩)|(go_at_call 81;(with_reducible refine (Za.calls Ka 0 6 true _ A15.out).mono ?_);rintro e w' ⟨rfl,⟨nd,rfl⟩⟩)|(go_at_call 81;(with_reducible refine (Za.calls Ja Pa 1000 false _ A19.out).mono ?_);rintro e w' ⟨rfl,⟨nd,rfl⟩⟩))
          go_meet
          case rel=>exact ⟨_,(true),(by first|rfl|(simp;done)|(simp [*];done)),H',⟨by have:=Nf.out;first|omega|exact Nat.le_refl _⟩,⟨by (with_reducible repeat (first|refine Da ?_ _|refine Ea ?_|refine Ca ?_ _));exact ta.out⟩,⟨by repeat (first|(with_reducible first|exact HB.out|apply oa|apply ia|apply qa|refine ua ?_ Ta.out)|exact HB.out)⟩⟩
       ·replace aA:=Bool.eq_false_iff.mpr aA;subst aA;have H1:(Ua.j1 k1 true Oa Ka Pa Ja Ga)=some r:=by rw [if_neg (show ¬ (false=true) by decide)] at H;exact H
        clear H;have H:=H1;clear H1;have H':=ga.mk H;clear H;have Yv:wr.cell? ⟨za,0,none⟩=some (.slice yb Oa.length xb):=(ja ta.out 0).trans rfl;have Xv:wr.cell? ⟨za,1,none⟩=some (.int .i64 Ka):=(ja ta.out 1).trans rfl;have Wv:wr.cell? ⟨za,2,none⟩=some (.int .i64 Pa):=(ja ta.out 2).trans rfl;have Vv:wr.cell? ⟨za,3,none⟩=some (.int .i64 Ja):=(ja ta.out 3).trans rfl;have Uv:wr.cell? ⟨za,4,none⟩=some (.slice Rb Ga.length Ib):=(ja ta.out 4).trans rfl;have Nv:=aa ta.out 0;have Mv:=aa ta.out 1;have Lv:=aa ta.out 2;have Kv:=aa ta.out 3;have Jv:=aa ta.out 4;go_wp2_with (first|((with_reducible refine zb (f:=81) rfl ?_);refine Fc (some 23) rfl rfl Try.func81 (by kernel_rfl) rfl #[.int .i64 (Oa.length:Int),.int .i64 1,.int .i64 4] rfl (by (try simp only [List.map_toArray,List.map_cons,List.map_nil]);first|done|rfl|(simp only [List.length_drop,List.length_take];rfl)) ?_;(with_reducible refine (Za.calls (Oa.length:Int) 1 4 true _ IX.out).mono ?_);rintro e w' ⟨rfl,⟨nd,rfl⟩⟩;refine ⟨_,rfl,?_⟩)|(go_at_call 81;(with_reducible refine (Za.calls Pa 0 20 true _ A13.out).mono ?_);rintro e w' ⟨rfl,⟨nd,rfl⟩⟩)|(go_at_call 81;(with_reducible refine (Za.calls Ka 0 6 false _ A15.out).mono ?_);rintro e w' ⟨rfl,⟨nd,rfl⟩⟩))
        go_meet
        case rel=>exact ⟨_,(true),(by first|rfl|(simp;done)|(simp [*];done)),H',⟨by have:=Nf.out;first|omega|exact Nat.le_refl _⟩,⟨by (with_reducible repeat (first|refine Da ?_ _|refine Ea ?_|refine Ca ?_ _));exact ta.out⟩,⟨by repeat (first|(with_reducible first|exact HB.out|apply oa|apply ia|apply qa|refine ua ?_ Ta.out)|exact HB.out)⟩⟩
      ·replace Xt:=Bool.eq_false_iff.mpr Xt;subst Xt;have H1:(Ua.j1 k1 true Oa Ka Pa Ja Ga)=some r:=by rw [if_neg (show ¬ (false=true) by decide)] at H;exact H
       clear H;have H:=H1;clear H1;have H':=ga.mk H;clear H;have Vs:wr.cell? ⟨za,0,none⟩=some (.slice yb Oa.length xb):=(ja ta.out 0).trans rfl;have Us:wr.cell? ⟨za,1,none⟩=some (.int .i64 Ka):=(ja ta.out 1).trans rfl;have Ts:wr.cell? ⟨za,2,none⟩=some (.int .i64 Pa):=(ja ta.out 2).trans rfl;have Ss:wr.cell? ⟨za,3,none⟩=some (.int .i64 Ja):=(ja ta.out 3).trans rfl;have Rs:wr.cell? ⟨za,4,none⟩=some (.slice Rb Ga.length Ib):=(ja ta.out 4).trans rfl;have Ds:=aa ta.out 0;have Cs:=aa ta.out 1;have Bs:=aa ta.out 2;have js:=aa ta.out 3;have Zr:=aa ta.out 4;go_wp2_with (first|((with_reducible refine zb (f:=81) rfl ?_);refine Fc (some 23) rfl rfl Try.func81 (by kernel_rfl) rfl #[.int .i64 (Oa.length:Int),.int .i64 1,.int .i64 4] rfl (by (try simp only [List.map_toArray,List.map_cons,List.map_nil]);first|done|rfl|(simp only [List.length_drop,List.length_take];rfl)) ?_;(with_reducible refine (Za.calls (Oa.length:Int) 1 4 true _ IX.out).mono ?_);rintro e w' ⟨rfl,⟨nd,rfl⟩⟩;refine ⟨_,rfl,?_⟩)|(go_at_call 81;(with_reducible refine (Za.calls Pa 0 20 false _ A13.out).mono ?_);rintro e w' ⟨rfl,⟨nd,rfl⟩⟩))
       go_meet
       case rel=>exact ⟨_,(true),(by first|rfl|(simp;done)|(simp [*];done)),H',⟨by have:=Nf.out;first|omega|exact Nat.le_refl _⟩,⟨by (with_reducible repeat (first|refine Da ?_ _|refine Ea ?_|refine Ca ?_ _));exact ta.out⟩,⟨by repeat (first|(with_reducible first|exact HB.out|apply oa|apply ia|apply qa|refine ua ?_ Ta.out)|exact HB.out)⟩⟩
     ·replace xw:=Bool.eq_false_iff.mpr xw;subst xw;have H1:(Ua.j1 k1 true Oa Ka Pa Ja Ga)=some r:=by rw [if_neg (show ¬ (false=true) by decide)] at H;exact H
      clear H;have H:=H1;clear H1;have H':=ga.mk H;clear H;have Tv:wr.cell? ⟨za,0,none⟩=some (.slice yb Oa.length xb):=(ja ta.out 0).trans rfl;have Sv:wr.cell? ⟨za,1,none⟩=some (.int .i64 Ka):=(ja ta.out 1).trans rfl;have Rv:wr.cell? ⟨za,2,none⟩=some (.int .i64 Pa):=(ja ta.out 2).trans rfl;have Qv:wr.cell? ⟨za,3,none⟩=some (.int .i64 Ja):=(ja ta.out 3).trans rfl;have Pv:wr.cell? ⟨za,4,none⟩=some (.slice Rb Ga.length Ib):=(ja ta.out 4).trans rfl;have Iv:=aa ta.out 0;have Hv:=aa ta.out 1;have Gv:=aa ta.out 2;have Fv:=aa ta.out 3;have Dv:=aa ta.out 4;go_wp2_with (first|((with_reducible refine zb (f:=81) rfl ?_);refine Fc (some 23) rfl rfl Try.func81 (by kernel_rfl) rfl #[.int .i64 (Oa.length:Int),.int .i64 1,.int .i64 4] rfl (by (try simp only [List.map_toArray,List.map_cons,List.map_nil]);first|done|rfl|(simp only [List.length_drop,List.length_take];rfl)) ?_;(with_reducible refine (Za.calls (Oa.length:Int) 1 4 false _ IX.out).mono ?_);rintro e w' ⟨rfl,⟨nd,rfl⟩⟩;refine ⟨_,rfl,?_⟩))
      go_meet
      case rel=>exact ⟨_,(true),(by first|rfl|(simp;done)|(simp [*];done)),H',⟨by have:=Nf.out;first|omega|exact Nat.le_refl _⟩,⟨by (with_reducible repeat (first|refine Da ?_ _|refine Ea ?_|refine Ca ?_ _));exact ta.out⟩,⟨by repeat (first|(with_reducible first|exact HB.out|apply oa|apply ia|apply qa|refine ua ?_ Ta.out)|exact HB.out)⟩⟩
    case rest =>
     clear HC9
     try clear c1
     try clear p1
     try clear q1
     try clear hx1
     try clear c2
     try clear p2
     try clear c3
     try clear Gg
     try clear c4
     try clear yj
     try clear c6
     try clear p6
     try clear c8
     try clear dB
     try clear cB
     try clear pO
     try clear xw
     try clear Xt
     try clear aA
     try clear nE
     try clear Px
     try clear vw
     try clear Nj
     try clear Mj
     try clear Lj
     try clear Kj
     try clear Jj
     try clear vt
     try clear qt
     try clear ot
     try clear nt
     try clear jt
     try clear bt
     try clear Zs
     try clear Ys
     try clear Xs
     try clear Ws
     try clear eo
     try clear Zn
     try clear Yn
     try clear Xn
     try clear Wn
     try clear Yv
     try clear Xv
     try clear Wv
     try clear Vv
     try clear Uv
     try clear Vs
     try clear Us
     try clear Ts
     try clear Ss
     try clear Rs
     try clear Tv
     try clear Sv
     try clear Rv
     try clear Qv
     try clear Pv
     try clear Zw
     try clear Yw
     try clear Xw
     try clear Ww
     try clear Vw
     try clear mI
     try clear lI
     try clear kI
     try clear jI
     try clear iI
     try clear Ij
     try clear Hj
     try clear Gj
     try clear Fj
     try clear Ej
     try clear Qs
     try clear Ns
     try clear Ms
     try clear Ls
     try clear Ks
     try clear Js
     try clear Hs
     try clear Gs
     try clear Fs
     try clear Es
     try clear Qn
     try clear Pn
     try clear Nn
     try clear Mn
     try clear Ln
     try clear Nv
     try clear Mv
     try clear Lv
     try clear Kv
     try clear Jv
     try clear Ds
     try clear Cs
     try clear Bs
     try clear js
     try clear Zr
     try clear Iv
     try clear Hv
     try clear Gv
     try clear Fv
     try clear Dv
     try clear Pw
     try clear Ow
     try clear Nw
     try clear Mw
     try clear Lw
     try clear dI
     try clear cI
     try clear bI
     try clear aI
     try clear ZH
     try clear Ie
     try clear Ci
     try clear p2
     try clear Bi
     obtain ⟨kq,jJ,rfl,HA,HJ8,ta,HB⟩:=hcut;cases kq with
     | zero=>exact absurd HA.out (by simp [Ua.j1])
     | succ kj8 =>
      have H:=HA.out;clear HA;simp only [Ua.j1] at H
      by_cases PE:jJ=true
      ·subst PE;have H1:(some false)=some r:=by rw [if_pos rfl] at H;exact H
       clear H;have H:=H1;clear H1;obtain rfl:=Option.some.inj H;go_wp2;go_ret;exact ⟨by first|rfl|(simp [Na,Ma] <;> rfl)|(simp [*,Na,Ma] <;> rfl),by repeat (first|(with_reducible first|exact HB.out|apply oa|apply ia|apply qa|refine ua ?_ Ta.out)|exact HB.out)⟩
      ·replace PE:=Bool.eq_false_iff.mpr PE;subst PE;have H1:(Ua.l1 kj8 0 0 Oa Ka Pa Ja Ga)=some r:=by rw [if_neg (show ¬ (false=true) by decide)] at H;exact H
       clear H;have H:=H1;clear H1;have H':=ga.mk H;clear H;go_wp2
       go_loopg [4,5] kj8 (fun kq v4 v5 w'=>∃ (DB:Int) (Me:Int),v4 = .int .i64 DB∧v5 = .int .i64 Me∧ga (Ua.l1 kq DB Me Oa Ka Pa Ja Ga=some r)∧ga (kq ≤ kj8)∧ga (w'.heap[za]? = some (.cells #[(.slice yb Oa.length xb),.int .i64 Ka,.int .i64 Pa,.int .i64 Ja,(.slice Rb Ga.length Ib)] 45 (0,0)))∧ga (Below w.heap.size w w'))
       case atStart=>exact ⟨(0),(0),(by first|rfl|(simp;done)|(simp [*];done)),(by first|rfl|(simp;done)|(simp [*];done)),H',⟨Nat.le_refl _⟩,⟨by (with_reducible repeat (first|refine Da ?_ _|refine Ea ?_|refine Ca ?_ _));exact ta.out⟩,⟨by repeat (first|(with_reducible first|exact HB.out|apply oa|apply ia|apply qa|refine ua ?_ Ta.out)|exact HB.out)⟩⟩
       case round =>
        clear H'
        try clear c1
        try clear p1
        try clear q1
        try clear hx1
        try clear c2
        try clear p2
        try clear c3
        try clear Gg
        try clear c4
        try clear yj
        try clear c6
        try clear p6
        try clear c8
        try clear dB
        try clear cB
        try clear pO
        try clear xw
        try clear Xt
        try clear aA
        try clear nE
        try clear Px
        try clear vw
        try clear PE
        try clear Nj
        try clear Mj
        try clear Lj
        try clear Kj
        try clear Jj
        try clear vt
        try clear qt
        try clear ot
        try clear nt
        try clear jt
        try clear bt
        try clear Zs
        try clear Ys
        try clear Xs
        try clear Ws
        try clear eo
        try clear Zn
        try clear Yn
        try clear Xn
        try clear Wn
        try clear Yv
        try clear Xv
        try clear Wv
        try clear Vv
        try clear Uv
        try clear Vs
        try clear Us
        try clear Ts
        try clear Ss
        try clear Rs
        try clear Tv
        try clear Sv
        try clear Rv
        try clear Qv
        try clear Pv
        try clear Zw
        try clear Yw
        try clear Xw
        try clear Ww
        try clear Vw
        try clear mI
        try clear lI
        try clear kI
        try clear jI
        try clear iI
        try clear Ij
        try clear Hj
        try clear Gj
        try clear Fj
        try clear Ej
        try clear Qs
        try clear Ns
        try clear Ms
        try clear Ls
        try clear Ks
        try clear Js
        try clear Hs
        try clear Gs
        try clear Fs
        try clear Es
        try clear Qn
        try clear Pn
        try clear Nn
        try clear Mn
        try clear Ln
        try clear Nv
        try clear Mv
        try clear Lv
        try clear Kv
        try clear Jv
        try clear Ds
        try clear Cs
        try clear Bs
        try clear js
        try clear Zr
        try clear Iv
        try clear Hv
        try clear Gv
        try clear Fv
        try clear Dv
        try clear Pw
        try clear Ow
        try clear Nw
        try clear Mw
        try clear Lw
        try clear dI
        try clear cI
        try clear bI
        try clear aI
        try clear ZH
        try clear Ie
        try clear p1
        try clear dB
        try clear Ci
        try clear p2
        try clear p6
        try clear q1
        try clear cB
        try clear Bi
        (try clear HA);(try clear Z3);(try clear ta);(try clear HB);obtain ⟨DB,Me,rfl,rfl,HA,Z3,ta,HB⟩:=hrel;cases gk with
        | zero=>exact absurd HA.out (by simp [Ua.l1])
        | succ k3 =>
         have H:=HA.out;clear HA;simp only [Ua.l1] at H
         by_cases iw:Me < (Ga.length:Int)
         ·rw [if_pos iw] at H;have Zo:decide (Me < (Ga.length:Int))=true:=decide_eq_true iw;clear iw
          by_cases cz:0 ≤ Me
          ·rw [if_pos cz] at H;have gw:decide (0 ≤ Me)=true:=decide_eq_true cz;clear cz
           by_cases Ox:(wrap64 (DB + (((Sa Ga Me).f0).length:Int))) > 1000
           ·rw [if_pos Ox] at H;have sB:decide (1000 < (wrap64 (DB + (((Sa Ga Me).f0).length:Int))))=true:=decide_eq_true Ox;clear Ox;obtain rfl:=Option.some.inj H;have ED:wr.cell? ⟨za,0,none⟩=some (.slice yb Oa.length xb):=(ja ta.out 0).trans rfl;have DD:wr.cell? ⟨za,1,none⟩=some (.int .i64 Ka):=(ja ta.out 1).trans rfl;have CD:wr.cell? ⟨za,2,none⟩=some (.int .i64 Pa):=(ja ta.out 2).trans rfl;have BD:wr.cell? ⟨za,3,none⟩=some (.int .i64 Ja):=(ja ta.out 3).trans rfl;have zD:wr.cell? ⟨za,4,none⟩=some (.slice Rb Ga.length Ib):=(ja ta.out 4).trans rfl;have FC:=aa ta.out 0;have EC:=aa ta.out 1;have DC:=aa ta.out 2;have CC:=aa ta.out 3;have BC:=aa ta.out 4;have Oo:0 ≤ (Me:Int):=of_decide_eq_true (by first|(with_reducible assumption)|assumption);have Lo:Me < (Ga.length:Int):=of_decide_eq_true (by first|(with_reducible assumption)|assumption);obtain ⟨gh,Gx,xx,gE,Dj,Jn,Gn,En,Dn,Li,Mi⟩:=Tj ug.out Me Oo Lo;cases gE;replace Dj:=Qa HB.out Dj;replace Jn:=Qa HB.out Jn;replace Gn:=Qa HB.out Gn;replace En:=Qa HB.out En;replace Dn:=Qa HB.out Dn;have Bo:=ga.mk Mi;have Ft:=ga.mk Li;clear Mi Li;replace Oo:=eq_true Oo;replace Lo:=eq_true Lo
            try go_wp2
            have Jb:=ga.mk (Ea ta.out);have Ob:=ga.mk (qa HB.out);clear ta HB;have ta:=Jb;have HB:=Ob;clear Jb Ob;refine bk (n:=12) (S:=fun w'=>True) (ds:=[]) #[false,false,false,false,false,false,false,false,false,false,false,false] (by kernel_rfl) rfl rfl trivial (fun hHeld=>?_);refine zh Ua.sN Ua.QI (fun zf Bq=>?_);generalize wr.drew=w32 at ta HB hHeld ⊢;refine jd (i:=0) (N:=some 75) (v:=?_) (a':=?_) #[true,false,false,false,false,false,false,false,false,false,false,false] rfl rfl (qc zf.out (by kernel_rfl)) (fun _ _ _ h=>h) (Or.inl ⟨by rfl,?_⟩) ?_ ?_;rotate_left
            ·intro w';go_simp;with_reducible rfl
            rotate_left
            ·simp only [Act.put,List.setIfInBounds_toArray,List.set_cons_zero,List.set_cons_succ,Yb,Zb]
             rfl
            refine jd (i:=1) (N:=some 76) (v:=?_) (a':=?_) #[true,true,false,false,false,false,false,false,false,false,false,false] rfl rfl (qc zf.out (by kernel_rfl)) (fun _ _ _ h=>h) (Or.inl ⟨by rfl,?_⟩) ?_ ?_;rotate_left
            ·intro w';go_simp;with_reducible rfl
            rotate_left
            ·simp only [Act.put,List.setIfInBounds_toArray,List.set_cons_zero,List.set_cons_succ,Yb,Zb]
             rfl
            refine jd (i:=2) (N:=some 77) (v:=?_) (a':=?_) #[true,true,true,false,false,false,false,false,false,false,false,false] rfl rfl (qc zf.out (by kernel_rfl)) (fun _ _ _ h=>h) (Or.inl ⟨by rfl,?_⟩) ?_ ?_;rotate_left
            ·intro w';go_simp;with_reducible rfl
            rotate_left
            ·simp only [Act.put,List.setIfInBounds_toArray,List.set_cons_zero,List.set_cons_succ,Yb,Zb]
             rfl
            refine jd (i:=3) (N:=some 78) (v:=undef) (a':=?_) #[true,true,true,true,false,false,false,false,false,false,false,false] rfl rfl (qc zf.out (by kernel_rfl)) (fun _ _ _ h=>h) (Or.inr ⟨by rfl,rfl⟩) ?_ ?_;rotate_left
            ·simp only [Act.put,List.setIfInBounds_toArray,List.set_cons_zero,List.set_cons_succ,Yb,Zb]
             rfl
            refine jd (i:=4) (N:=some 79) (v:=undef) (a':=?_) #[true,true,true,true,true,false,false,false,false,false,false,false] rfl rfl (qc zf.out (by kernel_rfl)) (fun _ _ _ h=>h) (Or.inr ⟨by rfl,rfl⟩) ?_ ?_;rotate_left
            ·simp only [Act.put,List.setIfInBounds_toArray,List.set_cons_zero,List.set_cons_succ,Yb,Zb]
             rfl
            refine jd (i:=5) (N:=some 80) (v:=undef) (a':=?_) #[true,true,true,true,true,true,false,false,false,false,false,false] rfl rfl (qc zf.out (by kernel_rfl)) (fun _ _ _ h=>h) (Or.inr ⟨by rfl,rfl⟩) ?_ ?_;rotate_left
            ·simp only [Act.put,List.setIfInBounds_toArray,List.set_cons_zero,List.set_cons_succ,Yb,Zb]
             rfl
            refine jd (i:=6) (N:=some 81) (v:=undef) (a':=?_) #[true,true,true,true,true,true,true,false,false,false,false,false] rfl rfl (qc zf.out (by kernel_rfl)) (fun _ _ _ h=>h) (Or.inr ⟨by rfl,rfl⟩) ?_ ?_;rotate_left
            ·simp only [Act.put,List.setIfInBounds_toArray,List.set_cons_zero,List.set_cons_succ,Yb,Zb]
             rfl
            refine jd (i:=7) (N:=some 82) (v:=undef) (a':=?_) #[true,true,true,true,true,true,true,true,false,false,false,false] rfl rfl (qc zf.out (by kernel_rfl)) (fun _ _ _ h=>h) (Or.inr ⟨by rfl,rfl⟩) ?_ ?_;rotate_left
            ·simp only [Act.put,List.setIfInBounds_toArray,List.set_cons_zero,List.set_cons_succ,Yb,Zb]
             rfl
            refine jd (i:=8) (N:=some 83) (v:=undef) (a':=?_) #[true,true,true,true,true,true,true,true,true,false,false,false] rfl rfl (qc zf.out (by kernel_rfl)) (fun _ _ _ h=>h) (Or.inr ⟨by rfl,rfl⟩) ?_ ?_;rotate_left
            ·simp only [Act.put,List.setIfInBounds_toArray,List.set_cons_zero,List.set_cons_succ,Yb,Zb]
             rfl
            refine jd (i:=9) (N:=some 84) (v:=undef) (a':=?_) #[true,true,true,true,true,true,true,true,true,true,false,false] rfl rfl (qc zf.out (by kernel_rfl)) (fun _ _ _ h=>h) (Or.inr ⟨by rfl,rfl⟩) ?_ ?_;rotate_left
            ·simp only [Act.put,List.setIfInBounds_toArray,List.set_cons_zero,List.set_cons_succ,Yb,Zb]
             rfl
            refine jd (i:=10) (N:=some 85) (v:=undef) (a':=?_) #[true,true,true,true,true,true,true,true,true,true,true,false] rfl rfl (qc zf.out (by kernel_rfl)) (fun _ _ _ h=>h) (Or.inr ⟨by rfl,rfl⟩) ?_ ?_;rotate_left
            ·simp only [Act.put,List.setIfInBounds_toArray,List.set_cons_zero,List.set_cons_succ,Yb,Zb]
             rfl
            refine jd (i:=11) (N:=some 86) (v:=?_) (a':=?_) #[true,true,true,true,true,true,true,true,true,true,true,true] rfl rfl (qc zf.out (by kernel_rfl)) (fun _ _ _ h=>h) (Or.inl ⟨by rfl,?_⟩) ?_ ?_;rotate_left
            ·intro w';go_simp;with_reducible rfl
            rotate_left
            ·simp only [Act.put,List.setIfInBounds_toArray,List.set_cons_zero,List.set_cons_succ,Yb,Zb]
             rfl
            refine uo (Pj zf.out (by kernel_rfl)) ?_
            try go_wp2
            go_ret;exact ⟨by first|rfl|(simp [Na,Ma] <;> rfl)|(simp [*,Na,Ma] <;> rfl),by repeat (first|(with_reducible first|exact HB.out|apply oa|apply ia|apply qa|refine ua ?_ Ta.out)|exact HB.out)⟩
           ·rw [if_neg Ox] at H;have sB:decide (1000 < (wrap64 (DB + (((Sa Ga Me).f0).length:Int))))=false:=decide_eq_false Ox;clear Ox;replace H:=Option.bind_eq_some_iff.mp H;obtain ⟨t111,Oac,H⟩:=H;replace H:(if t111=true then (Ua.l1 k3 (wrap64 (DB + (((Sa Ga Me).f0).length:Int))) (wrap64 (Me + 1)) Oa Ka Pa Ja Ga) else (some false))=some r:=H;have A33:=ga.mk Oac;clear Oac
            by_cases yG:t111=true
            ·subst yG;have H1:(Ua.l1 k3 (wrap64 (DB + (((Sa Ga Me).f0).length:Int))) (wrap64 (Me + 1)) Oa Ka Pa Ja Ga)=some r:=by rw [if_pos rfl] at H;exact H
             clear H;have H:=H1;clear H1;have H':=ga.mk H;clear H;have tU:wr.cell? ⟨za,0,none⟩=some (.slice yb Oa.length xb):=(ja ta.out 0).trans rfl;have sU:wr.cell? ⟨za,1,none⟩=some (.int .i64 Ka):=(ja ta.out 1).trans rfl;have rU:wr.cell? ⟨za,2,none⟩=some (.int .i64 Pa):=(ja ta.out 2).trans rfl;have qU:wr.cell? ⟨za,3,none⟩=some (.int .i64 Ja):=(ja ta.out 3).trans rfl;have pU:wr.cell? ⟨za,4,none⟩=some (.slice Rb Ga.length Ib):=(ja ta.out 4).trans rfl;have US:=aa ta.out 0;have TS:=aa ta.out 1;have SS:=aa ta.out 2;have RS:=aa ta.out 3;have QS:=aa ta.out 4;have Oo:0 ≤ (Me:Int):=of_decide_eq_true (by first|(with_reducible assumption)|assumption);have Lo:Me < (Ga.length:Int):=of_decide_eq_true (by first|(with_reducible assumption)|assumption);obtain ⟨gh,Gx,xx,gE,Dj,Jn,Gn,En,Dn,Li,Mi⟩:=Tj ug.out Me Oo Lo;cases gE;replace Dj:=Qa HB.out Dj;replace Jn:=Qa HB.out Jn;replace Gn:=Qa HB.out Gn;replace En:=Qa HB.out En;replace Dn:=Qa HB.out Dn;have Bo:=ga.mk Mi;have Ft:=ga.mk Li;clear Mi Li;replace Oo:=eq_true Oo;replace Lo:=eq_true Lo
             try go_wp2
             have Jb:=ga.mk (Ea ta.out);have Ob:=ga.mk (qa HB.out);clear ta HB;have ta:=Jb;have HB:=Ob;clear Jb Ob;have KH:0 ≤ (Me:Int):=of_decide_eq_true (by first|(with_reducible assumption)|assumption);have CH:Me < (Ga.length:Int):=of_decide_eq_true (by first|(with_reducible assumption)|assumption);obtain ⟨XP,rA,bA,EZ,wm,vm,um,qm,om,uv,Av⟩:=Tj ug.out Me KH CH;have Su:=om;have Tu:=qm;have Uu:=um;have Vu:=vm;have Wu:=wm;obtain rfl:gh=XP:=(by injection EZ);replace wm:=Qa HB.out wm;replace vm:=Qa HB.out vm;replace um:=Qa HB.out um;replace qm:=Qa HB.out qm;replace om:=Qa HB.out om;have sw:=ga.mk Av;have FE:=ga.mk uv;clear Av uv;replace KH:=eq_true KH;replace CH:=eq_true CH;refine bk (n:=12) (S:=fun w'=>w'.cell? ⟨za,0,none⟩=some (.slice yb Oa.length xb)∧w'.cell? ⟨za,1,none⟩=some (.int .i64 Ka)∧w'.cell? ⟨za,2,none⟩=some (.int .i64 Pa)∧w'.cell? ⟨za,3,none⟩=some (.int .i64 Ja)∧w'.cell? ⟨za,4,none⟩=some (.slice (some gh) Ga.length Ib)∧w'.cell? (gh.add ((Me).toNat * 5))=some (.slice rA ((Sa Ga Me).f0).length bA)∧w'.cell? ⟨(gh.add ((Me).toNat * 5)).block,(gh.add ((Me).toNat * 5)).off + 1,none⟩=some (.int .i64 ((Sa Ga Me).f1))∧w'.cell? ⟨(gh.add ((Me).toNat * 5)).block,(gh.add ((Me).toNat * 5)).off + 2,none⟩=some (.int .i64 ((Sa Ga Me).f2))∧w'.cell? ⟨(gh.add ((Me).toNat * 5)).block,(gh.add ((Me).toNat * 5)).off + 3,none⟩=some (.int .i64 ((Sa Ga Me).f3))∧w'.cell? ⟨(gh.add ((Me).toNat * 5)).block,(gh.add ((Me).toNat * 5)).off + 4,none⟩=some (.int .i64 ((Sa Ga Me).f4))) (ds:=[]) #[false,false,false,false,false,false,false,false,false,false,false,false] (by kernel_rfl) rfl rfl ⟨(ja ta.out 0).trans rfl,(ja ta.out 1).trans rfl,(ja ta.out 2).trans rfl,(ja ta.out 3).trans rfl,(ja ta.out 4).trans rfl,(Qa HB.out Wu),(Qa HB.out Vu),(Qa HB.out Uu),(Qa HB.out Tu),(Qa HB.out Su)⟩ (fun hHeld=>?_);refine zh Ua.sN Ua.QI (fun zf Bq=>?_);generalize wr.drew=FB at ta HB sw wm vm um qm om hHeld ⊢;refine jd (i:=0) (N:=some 75) (v:=?_) (a':=?_) #[true,false,false,false,false,false,false,false,false,false,false,false] rfl rfl (qc zf.out (by kernel_rfl)) (fun _ _ _ h=>h) (Or.inl ⟨by rfl,?_⟩) ?_ ?_;rotate_left
             ·intro w';go_simp;with_reducible rfl
             rotate_left
             ·simp only [Act.put,List.setIfInBounds_toArray,List.set_cons_zero,List.set_cons_succ,Yb,Zb]
              rfl
             refine jd (i:=1) (N:=some 76) (v:=?_) (a':=?_) #[true,true,false,false,false,false,false,false,false,false,false,false] rfl rfl (qc zf.out (by kernel_rfl)) (fun _ _ _ h=>h) (Or.inl ⟨by rfl,?_⟩) ?_ ?_;rotate_left
             ·intro w';go_simp;with_reducible rfl
             rotate_left
             ·simp only [Act.put,List.setIfInBounds_toArray,List.set_cons_zero,List.set_cons_succ,Yb,Zb]
              rfl
             refine jd (i:=2) (N:=some 77) (v:=?_) (a':=?_) #[true,true,true,false,false,false,false,false,false,false,false,false] rfl rfl (qc zf.out (by kernel_rfl)) (fun _ _ _ h=>h) (Or.inl ⟨by rfl,?_⟩) ?_ ?_;rotate_left
             ·intro w';go_simp;with_reducible rfl
             rotate_left
             ·simp only [Act.put,List.setIfInBounds_toArray,List.set_cons_zero,List.set_cons_succ,Yb,Zb]
              rfl
             refine jd (i:=4) (N:=some 79) (v:=?_) (a':=?_) #[true,true,true,false,true,false,false,false,false,false,false,false] rfl rfl (qc zf.out (by kernel_rfl)) (fun _ _ _ h=>h) (Or.inl ⟨by rfl,?_⟩) ?_ ?_;rotate_left
             ·intro w';go_simp;with_reducible rfl
             rotate_left
             ·simp only [Act.put,List.setIfInBounds_toArray,List.set_cons_zero,List.set_cons_succ,Yb,Zb]
              rfl
             refine jd (i:=6) (N:=some 81) (v:=?_) (a':=?_) #[true,true,true,false,true,false,true,false,false,false,false,false] rfl rfl (qc zf.out (by kernel_rfl)) (fun _ _ _ h=>h) (Or.inl ⟨by rfl,?_⟩) ?_ ?_;rotate_left
             ·intro w';go_simp;with_reducible rfl
             rotate_left
             ·simp only [Act.put,List.setIfInBounds_toArray,List.set_cons_zero,List.set_cons_succ,Yb,Zb]
              rfl
             refine Og (i:=3) (N:=some 78) (v:=?_) (a':=?_) #[true,true,true,true,true,false,true,false,false,false,false,false] rfl rfl (Ge zf.out Bq.out (by kernel_rfl)) (fun _ _ _ h=>h) (Or.inl ⟨by rfl,?_⟩) hHeld ?_ ?_;rotate_left
             ·rintro w' ⟨s0,s1,s2,s3,s4,s5,s6,s7,s8,s9⟩;go_simp;with_reducible rfl
             rotate_left
             ·simp only [Act.put,List.setIfInBounds_toArray,List.set_cons_zero,List.set_cons_succ,Yb,Zb]
              rfl
             refine Og (i:=5) (N:=some 80) (v:=?_) (a':=?_) #[true,true,true,true,true,true,true,false,false,false,false,false] rfl rfl (Ge zf.out Bq.out (by kernel_rfl)) (fun _ _ _ h=>h) (Or.inl ⟨by rfl,?_⟩) hHeld ?_ ?_;rotate_left
             ·rintro w' ⟨s0,s1,s2,s3,s4,s5,s6,s7,s8,s9⟩;go_simp;with_reducible rfl
             rotate_left
             ·simp only [Act.put,List.setIfInBounds_toArray,List.set_cons_zero,List.set_cons_succ,Yb,Zb]
              rfl
             refine jd (i:=7) (N:=some 82) (v:=?_) (a':=?_) #[true,true,true,true,true,true,true,true,false,false,false,false] rfl rfl (qc zf.out (by kernel_rfl)) (fun _ _ _ h=>h) (Or.inl ⟨by rfl,?_⟩) ?_ ?_;rotate_left
             ·intro w';go_simp;with_reducible rfl
             rotate_left
             ·simp only [Act.put,List.setIfInBounds_toArray,List.set_cons_zero,List.set_cons_succ,Yb,Zb]
              rfl
             refine Og (i:=8) (N:=some 83) (v:=?_) (a':=?_) #[true,true,true,true,true,true,true,true,true,false,false,false] rfl rfl (Ge zf.out Bq.out (by kernel_rfl)) (fun _ _ _ h=>h) (Or.inl ⟨by rfl,?_⟩) hHeld ?_ ?_;rotate_left
             ·rintro w' ⟨s0,s1,s2,s3,s4,s5,s6,s7,s8,s9⟩;go_simp;with_reducible rfl
             rotate_left
             ·simp only [Act.put,List.setIfInBounds_toArray,List.set_cons_zero,List.set_cons_succ,Yb,Zb]
              rfl
             refine Gu (i:=9) (N:=some 84) #[true,true,true,true,true,true,true,true,true,true,false,false] rfl rfl (Ol zf.out (by kernel_rfl)) (by decide) (fun K hK=>?_);refine Iq Try.func101 (by kernel_rfl) rfl #[.agg #[.slice yb Oa.length xb,.int .i64 Ka,.int .i64 Pa,.int .i64 Ja,.slice (some gh) Ga.length Ib],.agg #[.slice rA ((Sa Ga Me).f0).length bA,.int .i64 ((Sa Ga Me).f1),.int .i64 ((Sa Ga Me).f2),.int .i64 ((Sa Ga Me).f3),.int .i64 ((Sa Ga Me).f4)]] (by rfl) rfl rfl (by (try simp only [List.map_toArray,List.map_cons,List.map_nil]);first|done|rfl|(simp only [List.length_drop,List.length_take];rfl)) ?_;with_reducible refine (fc.calls k3 _ _ Oa Ka Pa Ja _ _ Ga _ _ ((Sa Ga Me).f0) ((Sa Ga Me).f1) ((Sa Ga Me).f2) ((Sa Ga Me).f3) ((Sa Ga Me).f4) true _ ?Ic ?Gc ?ee ?Zd ?Au ?zu A33.out).mono ?_
             (case Ic=>repeat (first|exact (Kd.Mb Qe.out HB.out)|(with_reducible refine Kd.ec ?_ _)|(with_reducible refine Kd.dc ?_ _)|(with_reducible refine Kd.Dc ?_)))
             (case Gc=>exact gf.out)
             (case ee=>repeat (first|exact (Kd.Mb ug.out HB.out)|(with_reducible refine Kd.ec ?_ _)|(with_reducible refine Kd.dc ?_ _)|(with_reducible refine Kd.Dc ?_)))
             (case Zd=>exact Kh.out)
             (case Au=>repeat (first|exact (Kd.Mb sw.out HB.out)|(with_reducible refine Kd.ec ?_ _)|(with_reducible refine Kd.dc ?_ _)|(with_reducible refine Kd.Dc ?_)))
             (case zu=>exact FE.out)
             rintro e MX ⟨rfl,hb⟩;refine ⟨_,rfl,?_⟩;have Jb:=ga.mk (Va (g:=za) (o:=.cells #[.slice yb Oa.length xb,.int .i64 Ka,.int .i64 Pa,.int .i64 Ja,.slice (some gh) Ga.length Ib] 45 (0,0)) (by (with_reducible repeat (first|refine Da ?_ _|refine Ea ?_|refine Ca ?_ _));exact ta.out) hb);have Ob:=ga.mk (Ra (by repeat (first|(with_reducible first|exact HB.out|apply oa|apply ia|apply qa|refine ua ?_ Ta.out)|exact HB.out)) hb);clear ta HB;have ta:=Jb;have HB:=Ob;clear Jb Ob;(try clear hb);(try clear mj);(try clear hk);(try clear hi);refine hK.out _ _ ⟨(ja ta.out 0).trans rfl,(ja ta.out 1).trans rfl,(ja ta.out 2).trans rfl,(ja ta.out 3).trans rfl,(ja ta.out 4).trans rfl,(Qa HB.out Wu),(Qa HB.out Vu),(Qa HB.out Uu),(Qa HB.out Tu),(Qa HB.out Su)⟩ (fun hHeld=>?_);clear hK K;refine zn (a':=?_) ?_ ?_;rotate_left
             ·show Act.put _ (some 84) _=_
              simp only [Act.put,List.setIfInBounds_toArray,List.set_cons_zero,List.set_cons_succ,Yb,Zb]
              rfl
             refine jd (i:=10) (N:=some 85) (v:=?_) (a':=?_) #[true,true,true,true,true,true,true,true,true,true,true,false] rfl rfl (qc zf.out (by kernel_rfl)) (fun _ _ _ h=>h) (Or.inl ⟨by rfl,?_⟩) ?_ ?_;rotate_left
             ·intro w';go_simp;with_reducible rfl
             rotate_left
             ·simp only [Act.put,List.setIfInBounds_toArray,List.set_cons_zero,List.set_cons_succ,Yb,Zb]
              rfl
             refine jd (i:=11) (N:=some 86) (v:=?_) (a':=?_) #[true,true,true,true,true,true,true,true,true,true,true,true] rfl rfl (qc zf.out (by kernel_rfl)) (fun _ _ _ h=>h) (Or.inl ⟨by rfl,?_⟩) ?_ ?_;rotate_left
             ·intro w';go_simp;with_reducible rfl
             rotate_left
             ·simp only [Act.put,List.setIfInBounds_toArray,List.set_cons_zero,List.set_cons_succ,Yb,Zb]
              rfl
             refine uo (Pj zf.out (by kernel_rfl)) ?_
             try go_wp2
             go_roundg k3
             case measure=>have:=Nf.out;have:=HJ8.out;have:=Z3.out;omega
             case rel=>exact ⟨(wrap64 (DB + (((Sa Ga Me).f0).length:Int))),(wrap64 (Me + 1)),(by first|rfl|(simp;done)|(simp [*];done)),(by first|rfl|(simp;done)|(simp [*];done)),H',⟨by have:=Nf.out;have:=HJ8.out;have:=Z3.out;omega⟩,⟨by (with_reducible repeat (first|refine Da ?_ _|refine Ea ?_|refine Ca ?_ _));exact ta.out⟩,⟨by repeat (first|(with_reducible first|exact HB.out|apply oa|apply ia|apply qa|refine ua ?_ Ta.out)|exact HB.out)⟩⟩
            ·replace yG:=Bool.eq_false_iff.mpr yG;subst yG;have H1:(some false)=some r:=by rw [if_neg (show ¬ (false=true) by decide)] at H;exact H
             clear H;have H:=H1;clear H1;obtain rfl:=Option.some.inj H;have nD:wr.cell? ⟨za,0,none⟩=some (.slice yb Oa.length xb):=(ja ta.out 0).trans rfl;have mD:wr.cell? ⟨za,1,none⟩=some (.int .i64 Ka):=(ja ta.out 1).trans rfl;have lD:wr.cell? ⟨za,2,none⟩=some (.int .i64 Pa):=(ja ta.out 2).trans rfl;have kD:wr.cell? ⟨za,3,none⟩=some (.int .i64 Ja):=(ja ta.out 3).trans rfl;have jD:wr.cell? ⟨za,4,none⟩=some (.slice Rb Ga.length Ib):=(ja ta.out 4).trans rfl;have oC:=aa ta.out 0;have nC:=aa ta.out 1;have mC:=aa ta.out 2;have lC:=aa ta.out 3;have kC:=aa ta.out 4;have Oo:0 ≤ (Me:Int):=of_decide_eq_true (by first|(with_reducible assumption)|assumption);have Lo:Me < (Ga.length:Int):=of_decide_eq_true (by first|(with_reducible assumption)|assumption);obtain ⟨gh,Gx,xx,gE,Dj,Jn,Gn,En,Dn,Li,Mi⟩:=Tj ug.out Me Oo Lo;cases gE;replace Dj:=Qa HB.out Dj;replace Jn:=Qa HB.out Jn;replace Gn:=Qa HB.out Gn;replace En:=Qa HB.out En;replace Dn:=Qa HB.out Dn;have Bo:=ga.mk Mi;have Ft:=ga.mk Li;clear Mi Li;replace Oo:=eq_true Oo;replace Lo:=eq_true Lo
             try go_wp2
             have Jb:=ga.mk (Ea ta.out);have Ob:=ga.mk (qa HB.out);clear ta HB;have ta:=Jb;have HB:=Ob;clear Jb Ob;have KH:0 ≤ (Me:Int):=of_decide_eq_true (by first|(with_reducible assumption)|assumption);have CH:Me < (Ga.length:Int):=of_decide_eq_true (by first|(with_reducible assumption)|assumption);obtain ⟨XP,rA,bA,EZ,wm,vm,um,qm,om,uv,Av⟩:=Tj ug.out Me KH CH;have Su:=om;have Tu:=qm;have Uu:=um;have Vu:=vm;have Wu:=wm;obtain rfl:gh=XP:=(by injection EZ);replace wm:=Qa HB.out wm;replace vm:=Qa HB.out vm;replace um:=Qa HB.out um;replace qm:=Qa HB.out qm;replace om:=Qa HB.out om;have sw:=ga.mk Av;have FE:=ga.mk uv;clear Av uv;replace KH:=eq_true KH;replace CH:=eq_true CH;refine bk (n:=12) (S:=fun w'=>w'.cell? ⟨za,0,none⟩=some (.slice yb Oa.length xb)∧w'.cell? ⟨za,1,none⟩=some (.int .i64 Ka)∧w'.cell? ⟨za,2,none⟩=some (.int .i64 Pa)∧w'.cell? ⟨za,3,none⟩=some (.int .i64 Ja)∧w'.cell? ⟨za,4,none⟩=some (.slice (some gh) Ga.length Ib)∧w'.cell? (gh.add ((Me).toNat * 5))=some (.slice rA ((Sa Ga Me).f0).length bA)∧w'.cell? ⟨(gh.add ((Me).toNat * 5)).block,(gh.add ((Me).toNat * 5)).off + 1,none⟩=some (.int .i64 ((Sa Ga Me).f1))∧w'.cell? ⟨(gh.add ((Me).toNat * 5)).block,(gh.add ((Me).toNat * 5)).off + 2,none⟩=some (.int .i64 ((Sa Ga Me).f2))∧w'.cell? ⟨(gh.add ((Me).toNat * 5)).block,(gh.add ((Me).toNat * 5)).off + 3,none⟩=some (.int .i64 ((Sa Ga Me).f3))∧w'.cell? ⟨(gh.add ((Me).toNat * 5)).block,(gh.add ((Me).toNat * 5)).off + 4,none⟩=some (.int .i64 ((Sa Ga Me).f4))) (ds:=[]) #[false,false,false,false,false,false,false,false,false,false,false,false] (by kernel_rfl) rfl rfl ⟨(ja ta.out 0).trans rfl,(ja ta.out 1).trans rfl,(ja ta.out 2).trans rfl,(ja ta.out 3).trans rfl,(ja ta.out 4).trans rfl,(Qa HB.out Wu),(Qa HB.out Vu),(Qa HB.out Uu),(Qa HB.out Tu),(Qa HB.out Su)⟩ (fun hHeld=>?_);refine zh Ua.sN Ua.QI (fun zf Bq=>?_);generalize wr.drew=w39 at ta HB sw wm vm um qm om hHeld ⊢;refine jd (i:=0) (N:=some 75) (v:=?_) (a':=?_) #[true,false,false,false,false,false,false,false,false,false,false,false] rfl rfl (qc zf.out (by kernel_rfl)) (fun _ _ _ h=>h) (Or.inl ⟨by rfl,?_⟩) ?_ ?_;rotate_left
             ·intro w';go_simp;with_reducible rfl
             rotate_left
             ·simp only [Act.put,List.setIfInBounds_toArray,List.set_cons_zero,List.set_cons_succ,Yb,Zb]
              rfl
             refine jd (i:=1) (N:=some 76) (v:=?_) (a':=?_) #[true,true,false,false,false,false,false,false,false,false,false,false] rfl rfl (qc zf.out (by kernel_rfl)) (fun _ _ _ h=>h) (Or.inl ⟨by rfl,?_⟩) ?_ ?_;rotate_left
             ·intro w';go_simp;with_reducible rfl
             rotate_left
             ·simp only [Act.put,List.setIfInBounds_toArray,List.set_cons_zero,List.set_cons_succ,Yb,Zb]
              rfl
             refine jd (i:=2) (N:=some 77) (v:=?_) (a':=?_) #[true,true,true,false,false,false,false,false,false,false,false,false] rfl rfl (qc zf.out (by kernel_rfl)) (fun _ _ _ h=>h) (Or.inl ⟨by rfl,?_⟩) ?_ ?_;rotate_left
             ·intro w';go_simp;with_reducible rfl
             rotate_left
             ·simp only [Act.put,List.setIfInBounds_toArray,List.set_cons_zero,List.set_cons_succ,Yb,Zb]
              rfl
             refine jd (i:=4) (N:=some 79) (v:=?_) (a':=?_) #[true,true,true,false,true,false,false,false,false,false,false,false] rfl rfl (qc zf.out (by kernel_rfl)) (fun _ _ _ h=>h) (Or.inl ⟨by rfl,?_⟩) ?_ ?_;rotate_left
             ·intro w';go_simp;with_reducible rfl
             rotate_left
             ·simp only [Act.put,List.setIfInBounds_toArray,List.set_cons_zero,List.set_cons_succ,Yb,Zb]
              rfl
             refine jd (i:=6) (N:=some 81) (v:=?_) (a':=?_) #[true,true,true,false,true,false,true,false,false,false,false,false] rfl rfl (qc zf.out (by kernel_rfl)) (fun _ _ _ h=>h) (Or.inl ⟨by rfl,?_⟩) ?_ ?_;rotate_left
             ·intro w';go_simp;with_reducible rfl
             rotate_left
             ·simp only [Act.put,List.setIfInBounds_toArray,List.set_cons_zero,List.set_cons_succ,Yb,Zb]
              rfl
             refine Og (i:=3) (N:=some 78) (v:=?_) (a':=?_) #[true,true,true,true,true,false,true,false,false,false,false,false] rfl rfl (Ge zf.out Bq.out (by kernel_rfl)) (fun _ _ _ h=>h) (Or.inl ⟨by rfl,?_⟩) hHeld ?_ ?_;rotate_left
             ·rintro w' ⟨s0,s1,s2,s3,s4,s5,s6,s7,s8,s9⟩;go_simp;with_reducible rfl
             rotate_left
             ·simp only [Act.put,List.setIfInBounds_toArray,List.set_cons_zero,List.set_cons_succ,Yb,Zb]
              rfl
             refine Og (i:=5) (N:=some 80) (v:=?_) (a':=?_) #[true,true,true,true,true,true,true,false,false,false,false,false] rfl rfl (Ge zf.out Bq.out (by kernel_rfl)) (fun _ _ _ h=>h) (Or.inl ⟨by rfl,?_⟩) hHeld ?_ ?_;rotate_left
             ·rintro w' ⟨s0,s1,s2,s3,s4,s5,s6,s7,s8,s9⟩;go_simp;with_reducible rfl
             rotate_left
             ·simp only [Act.put,List.setIfInBounds_toArray,List.set_cons_zero,List.set_cons_succ,Yb,Zb]
              rfl
             refine jd (i:=7) (N:=some 82) (v:=?_) (a':=?_) #[true,true,true,true,true,true,true,true,false,false,false,false] rfl rfl (qc zf.out (by kernel_rfl)) (fun _ _ _ h=>h) (Or.inl ⟨by rfl,?_⟩) ?_ ?_;rotate_left
             ·intro w';go_simp;with_reducible rfl
             rotate_left
             ·simp only [Act.put,List.setIfInBounds_toArray,List.set_cons_zero,List.set_cons_succ,Yb,Zb]
              rfl
             refine Og (i:=8) (N:=some 83) (v:=?_) (a':=?_) #[true,true,true,true,true,true,true,true,true,false,false,false] rfl rfl (Ge zf.out Bq.out (by kernel_rfl)) (fun _ _ _ h=>h) (Or.inl ⟨by rfl,?_⟩) hHeld ?_ ?_;rotate_left
             ·rintro w' ⟨s0,s1,s2,s3,s4,s5,s6,s7,s8,s9⟩;go_simp;with_reducible rfl
             rotate_left
             ·simp only [Act.put,List.setIfInBounds_toArray,List.set_cons_zero,List.set_cons_succ,Yb,Zb]
              rfl
             refine Gu (i:=9) (N:=some 84) #[true,true,true,true,true,true,true,true,true,true,false,false] rfl rfl (Ol zf.out (by kernel_rfl)) (by decide) (fun K hK=>?_);refine Iq Try.func101 (by kernel_rfl) rfl #[.agg #[.slice yb Oa.length xb,.int .i64 Ka,.int .i64 Pa,.int .i64 Ja,.slice (some gh) Ga.length Ib],.agg #[.slice rA ((Sa Ga Me).f0).length bA,.int .i64 ((Sa Ga Me).f1),.int .i64 ((Sa Ga Me).f2),.int .i64 ((Sa Ga Me).f3),.int .i64 ((Sa Ga Me).f4)]] (by rfl) rfl rfl (by (try simp only [List.map_toArray,List.map_cons,List.map_nil]);first|done|rfl|(simp only [List.length_drop,List.length_take];rfl)) ?_;with_reducible refine (fc.calls k3 _ _ Oa Ka Pa Ja _ _ Ga _ _ ((Sa Ga Me).f0) ((Sa Ga Me).f1) ((Sa Ga Me).f2) ((Sa Ga Me).f3) ((Sa Ga Me).f4) false _ ?Ic ?Gc ?ee ?Zd ?Au ?zu A33.out).mono ?_
             (case Ic=>repeat (first|exact (Kd.Mb Qe.out HB.out)|(with_reducible refine Kd.ec ?_ _)|(with_reducible refine Kd.dc ?_ _)|(with_reducible refine Kd.Dc ?_)))
             (case Gc=>exact gf.out)
             (case ee=>repeat (first|exact (Kd.Mb ug.out HB.out)|(with_reducible refine Kd.ec ?_ _)|(with_reducible refine Kd.dc ?_ _)|(with_reducible refine Kd.Dc ?_)))
             (case Zd=>exact Kh.out)
             (case Au=>repeat (first|exact (Kd.Mb sw.out HB.out)|(with_reducible refine Kd.ec ?_ _)|(with_reducible refine Kd.dc ?_ _)|(with_reducible refine Kd.Dc ?_)))
             (case zu=>exact FE.out)
             rintro e w40 ⟨rfl,hb⟩;refine ⟨_,rfl,?_⟩;have Jb:=ga.mk (Va (g:=za) (o:=.cells #[.slice yb Oa.length xb,.int .i64 Ka,.int .i64 Pa,.int .i64 Ja,.slice (some gh) Ga.length Ib] 45 (0,0)) (by (with_reducible repeat (first|refine Da ?_ _|refine Ea ?_|refine Ca ?_ _));exact ta.out) hb);have Ob:=ga.mk (Ra (by repeat (first|(with_reducible first|exact HB.out|apply oa|apply ia|apply qa|refine ua ?_ Ta.out)|exact HB.out)) hb);clear ta HB;have ta:=Jb;have HB:=Ob;clear Jb Ob;(try clear hb);(try clear mj);(try clear hk);(try clear hi);refine hK.out _ _ ⟨(ja ta.out 0).trans rfl,(ja ta.out 1).trans rfl,(ja ta.out 2).trans rfl,(ja ta.out 3).trans rfl,(ja ta.out 4).trans rfl,(Qa HB.out Wu),(Qa HB.out Vu),(Qa HB.out Uu),(Qa HB.out Tu),(Qa HB.out Su)⟩ (fun hHeld=>?_);clear hK K;refine zn (a':=?_) ?_ ?_;rotate_left
             ·show Act.put _ (some 84) _=_
              simp only [Act.put,List.setIfInBounds_toArray,List.set_cons_zero,List.set_cons_succ,Yb,Zb]
              rfl
             refine jd (i:=10) (N:=some 85) (v:=?_) (a':=?_) #[true,true,true,true,true,true,true,true,true,true,true,false] rfl rfl (qc zf.out (by kernel_rfl)) (fun _ _ _ h=>h) (Or.inl ⟨by rfl,?_⟩) ?_ ?_;rotate_left
             ·intro w';go_simp;with_reducible rfl
             rotate_left
             ·simp only [Act.put,List.setIfInBounds_toArray,List.set_cons_zero,List.set_cons_succ,Yb,Zb]
              rfl
             refine jd (i:=11) (N:=some 86) (v:=?_) (a':=?_) #[true,true,true,true,true,true,true,true,true,true,true,true] rfl rfl (qc zf.out (by kernel_rfl)) (fun _ _ _ h=>h) (Or.inl ⟨by rfl,?_⟩) ?_ ?_;rotate_left
             ·intro w';go_simp;with_reducible rfl
             rotate_left
             ·simp only [Act.put,List.setIfInBounds_toArray,List.set_cons_zero,List.set_cons_succ,Yb,Zb]
              rfl
             refine uo (Pj zf.out (by kernel_rfl)) ?_
             try go_wp2
             go_ret;exact ⟨by first|rfl|(simp [Na,Ma] <;> rfl)|(simp [*,Na,Ma] <;> rfl),by repeat (first|(with_reducible first|exact HB.out|apply oa|apply ia|apply qa|refine ua ?_ Ta.out)|exact HB.out)⟩
          ·rw [if_neg cz] at H;exact absurd H (by simp)
         ·rw [if_neg iw] at H;have Zo:decide (Me < (Ga.length:Int))=false:=decide_eq_false iw;clear iw;obtain rfl:=Option.some.inj H;have gU:wr.cell? ⟨za,0,none⟩=some (.slice yb Oa.length xb):=(ja ta.out 0).trans rfl;have fU:wr.cell? ⟨za,1,none⟩=some (.int .i64 Ka):=(ja ta.out 1).trans rfl;have eU:wr.cell? ⟨za,2,none⟩=some (.int .i64 Pa):=(ja ta.out 2).trans rfl;have dU:wr.cell? ⟨za,3,none⟩=some (.int .i64 Ja):=(ja ta.out 3).trans rfl;have cU:wr.cell? ⟨za,4,none⟩=some (.slice Rb Ga.length Ib):=(ja ta.out 4).trans rfl;have GS:=aa ta.out 0;have ES:=aa ta.out 1;have DS:=aa ta.out 2;have CS:=aa ta.out 3;have BS:=aa ta.out 4;go_wp2;go_ret;exact ⟨by first|rfl|(simp [Na,Ma] <;> rfl)|(simp [*,Na,Ma] <;> rfl),by repeat (first|(with_reducible first|exact HB.out|apply oa|apply ia|apply qa|refine ua ?_ Ta.out)|exact HB.out)⟩
end Go.Proofs.Ytoomcmaifgkkfaa.P
end
