import Derived.Test.YtmifdccaajngcaaQFold1
import Derived.OpenShut
import Derived.Maps.OwnSet
import Derived.Maps.OwnOps
import Derived.Shelf.Abstract
import Derived.Outline
import Derived.RegionTactic
import Derived.Deep.CutRange
import Derived.Deep.CutBlock
set_option maxHeartbeats 8000000
set_option maxRecDepth 100000
section
namespace Go.Proofs.Ytmifdccaajngcaa.P
open Go.RowKit Go.Proofs.Ka.Rb Go.Proofs.Ka.Vd Go.Proofs.Ka.ef
set_option linter.unusedVariables false
set_option linter.unusedSimpArgs false
attribute [local go_sem] Ph Nh Oi Ni gh fh Oh Mh
def Ed.l0:Nat→List (lf)→Int→Int→List Int→Int→Int→Int→List (lf)→Option (List Int × Int × Int × Int × (List (lf)))
 | 0,_,_,_,_,_,_,_,_=>none
 | k + 1,RW,x15,rS,qu,ou,nu,lu,Lp=>if rS < x15 then (if 0 ≤ rS then (if rS < (RW.length:Int) then ((some (([]:List (ue)):List (ue))).bind fun Ms=>(if Ms.length + ((Oa RW rS).f0).length < 2199023255552 then (if Lp.length < 2513169434916 then (Ed.l0 k RW x15 (wrap64 (rS + 1)) qu ou nu lu (Lp ++ [(⟨(Ms ++ ((Oa RW rS).f0)),(Oa RW rS).f1,(Oa RW rS).f2,(Oa RW rS).f3,(Oa RW rS).f4⟩:lf)])) else (none)) else (none))) else (none)) else (none)) else (some (qu,ou,nu,lu,Lp))
def Ed.f (k:Nat) (Ua:List Int) (Ja:Int) (La:Int) (Pa:Int) (Qa:List (lf)):Option (List Int × Int × Int × Int × (List (lf))):=(some (([]:List Int):List Int)).bind fun Ue=>(if Ue.length + Ua.length < 17592186044416 then (Ed.l0 k Qa (Qa.length:Int) 0 (Ue ++ Ua) Ja La Pa ([]:List (lf))) else (none))
theorem Ed.calls (k:Nat) (zb:Option Addr) (yb:Nat) (Ua:List Int) (Ja:Int) (La:Int) (Pa:Int) (Yb:Option Addr) (Nb:Nat) (Qa:List (lf)) (r1:List Int) (r2:Int) (r3:Int) (r4:Int) (r5:List (lf)) (w:World) (Pf:Kd.C (Kd.int .i64) w zb Ua.length Ua) (Lf:Ua.length ≤ yb) (Ng:Kd.C Ok w Yb Qa.length Qa) (Jg:Qa.length ≤ Nb) (h:Ed.f k Ua Ja La Pa Qa=some (r1,r2,r3,r4,r5)) :
  Calls Try.prog 67 #[.agg #[.slice zb Ua.length yb,.int .i64 Ja,.int .i64 La,.int .i64 Pa,.slice Yb Qa.length Nb]] w fun e w'=>∃ Zs RI:Value,e = .returned (.agg #[Zs,.int .i64 r2,.int .i64 r3,.int .i64 r4,RI])∧Kd.R (Kd.int .i64) 3 w' w.heap.size (fun _=>True) Zs r1∧Kd.S Ok 68 w' w.heap.size (fun _=>True) RI r5∧Below w.heap.size w w':=by
 have FF:=Try.underlying30;have EF:=Try.underlying68;have kg:=ia.mk Pf;have Hg:=ia.mk Lf;clear Pf Lf;have Sh:=ia.mk Ng;have fk:=ia.mk Jg;clear Ng Jg;have HB:=ia.mk (Below.refl w.heap.size w);have H:((some (([]:List Int):List Int)).bind fun Ue=>(if Ue.length + Ua.length < 17592186044416 then (Ed.l0 k Qa (Qa.length:Int) 0 (Ue ++ Ua) Ja La Pa ([]:List (lf))) else (none)))=some (r1,r2,r3,r4,r5):=h;clear h;obtain ⟨Ue,Ej⟩:∃ y_:List Int,y_=(([]:List Int)):=⟨_,rfl⟩;replace H:(if Ue.length + Ua.length < 17592186044416 then (Ed.l0 k Qa (Qa.length:Int) 0 (Ue ++ Ua) Ja La Pa ([]:List (lf))) else (none))=some (r1,r2,r3,r4,r5):=by first|(rw [Ej];with_reducible exact H)|(have lg:=(Option.bind_some _ _).symm.trans H;rw [Ej];with_reducible exact lg)|(have lg:=(Option.bind_some _ _).symm.trans H;with_reducible exact lg)|with_reducible exact H|(rw [Ej];exact H)|exact H
 have Mw:=ia.mk Ej;clear Ej
 by_cases c2:Ue.length + Ua.length < 17592186044416
 ·rw [if_pos c2] at H;have Z3:=ia.mk c2;clear c2;obtain ⟨sg,Rm⟩:∃ y_:List Int,y_=(Ue ++ Ua):=⟨_,rfl⟩;replace H:(Ed.l0 k Qa (Qa.length:Int) 0 sg Ja La Pa ([]:List (lf)))=some (r1,r2,r3,r4,r5):=by first|(rw [Rm];with_reducible exact H)|(have lg:=(Option.bind_some _ _).symm.trans H;rw [Rm];with_reducible exact lg)|(have lg:=(Option.bind_some _ _).symm.trans H;with_reducible exact lg)|with_reducible exact H|(rw [Rm];exact H)|exact H
  have EG:=ia.mk Rm;clear Rm;have H':=ia.mk H;clear H;go_enter Try.func67,Try.ntmps67;go_wp2_with (first|((with_reducible refine Ib (N:=1) rfl ?_);refine Gb ?hg (N:=1) ?hd (cs:=#[.slice zb Ua.length yb,.int .i64 Ja,.int .i64 La,.int .i64 Pa,.slice Yb Qa.length Nb]) (t:=30) ?hr ?_;(case hd=>rfl);(case hg=>rfl);(case hr=>first|(go_simp;done)|(go_simp;rfl));intro Da hg w3 Vb hb;have Kb:=ia.mk (Ra (by repeat (first|(with_reducible first|exact HB.out|apply ta|apply ja|apply ua)|exact HB.out)) hb);have Ub:=ia.mk (Vb);have qc:=ia.mk ((by rw [hg];exact (Sa (by repeat (first|(with_reducible first|exact HB.out|apply ta|apply ja|apply ua)|exact HB.out))):w.heap.size ≤ Da));have Rc:=ia.mk ((by rw [hg];exact (Sa (by repeat (first|(with_reducible first|exact HB.out|apply ta|apply ja|apply ua)|exact HB.out))):w.heap.size ≤ Da));clear HB;have HB:=Kb;have qa:=Ub;have De:=qc;have Wa:=Rc;clear Kb Ub qc Rc hb Vb hg)|((with_reducible refine Ib (N:=2) rfl ?_);refine Gb ?hg (N:=2) ?hd (cs:=#[.slice none 0 0,.int .i64 0,.int .i64 0,.int .i64 0,.slice none 0 0]) (t:=30) ?hr ?_;(case hd=>rfl);(case hg=>rfl);(case hr=>first|(go_simp;done)|(go_simp;rfl));intro Ga hg w4 Vb hb;have Kb:=ia.mk (Ta (g:=Da) (o:=.cells #[.slice zb Ua.length yb,.int .i64 Ja,.int .i64 La,.int .i64 Pa,.slice Yb Qa.length Nb] 30 (0,0)) (by (with_reducible repeat (first|refine za ?_ _|refine Ca ?_|refine ya ?_ _));exact qa.out) hb);have Ub:=ia.mk (Ra (by repeat (first|(with_reducible first|exact HB.out|apply ta|apply ja|apply ua|refine Aa ?_ Wa.out)|exact HB.out)) hb);have qc:=ia.mk (Vb);have Rc:=ia.mk ((by rw [hg];exact (Sa (by repeat (first|(with_reducible first|exact HB.out|apply ta|apply ja|apply ua|refine Aa ?_ Wa.out)|exact HB.out))):w.heap.size ≤ Ga));have Ce:=ia.mk ((by rw [hg];exact (Sa (by repeat (first|(with_reducible first|exact HB.out|apply ta|apply ja|apply ua|refine Aa ?_ Wa.out)|exact HB.out))):w.heap.size ≤ Ga));have Qe:=ia.mk ((by rw [hg];exact Nat.ne_of_lt (jc (g:=Da) (o:=.cells #[.slice zb Ua.length yb,.int .i64 Ja,.int .i64 La,.int .i64 Pa,.slice Yb Qa.length Nb] 30 (0,0)) (by (with_reducible repeat (first|refine za ?_ _|refine Ca ?_|refine ya ?_ _));exact qa.out)):Da ≠ Ga));have qg:=ia.mk ((by rw [hg];exact Nat.ne_of_gt (jc (g:=Da) (o:=.cells #[.slice zb Ua.length yb,.int .i64 Ja,.int .i64 La,.int .i64 Pa,.slice Yb Qa.length Nb] 30 (0,0)) (by (with_reducible repeat (first|refine za ?_ _|refine Ca ?_|refine ya ?_ _));exact qa.out)):Ga ≠ Da));clear qa HB;have qa:=Kb;have HB:=Ub;have Ba:=qc;have Tf:=Rc;have Jb:=Ce;have Xa:=Qe;have Va:=qg;clear Kb Ub qc Rc Ce Qe qg hb Vb hg;have X7:=Xa.out;have G7:=Va.out;have Vt:w4.cell? ⟨Da,0,none⟩=some (.slice zb Ua.length yb):=(ga qa.out 0).trans rfl;have Ut:w4.cell? ⟨Da,1,none⟩=some (.int .i64 Ja):=(ga qa.out 1).trans rfl;have Tt:w4.cell? ⟨Da,2,none⟩=some (.int .i64 La):=(ga qa.out 2).trans rfl;have St:w4.cell? ⟨Da,3,none⟩=some (.int .i64 Pa):=(ga qa.out 3).trans rfl;have Rt:w4.cell? ⟨Da,4,none⟩=some (.slice Yb Qa.length Nb):=(ga qa.out 4).trans rfl;have Qt:=aa qa.out 0;have Pt:=aa qa.out 1;have Ot:=aa qa.out 2;have Nt:=aa qa.out 3;have Mt:=aa qa.out 4)|((with_reducible refine Ib (N:=3) rfl ?_);refine Gb ?hg (N:=3) ?hd (cs:=#[.slice none 0 0,.int .i64 0,.int .i64 0,.int .i64 0,.slice none 0 0]) (t:=30) ?hr ?_;(case hd=>rfl);(case hg=>rfl);(case hr=>first|(go_simp;done)|(go_simp;rfl));intro Xb hg w7 Vb hb;have Kb:=ia.mk (Ta (g:=Da) (o:=.cells #[.slice zb Ua.length yb,.int .i64 Ja,.int .i64 La,.int .i64 Pa,.slice Yb Qa.length Nb] 30 (0,0)) (by (with_reducible repeat (first|refine za ?_ _|refine Ca ?_|refine ya ?_ _));exact qa.out) hb);have Ub:=ia.mk (Ta (g:=Ga) (o:=.cells #[.slice none 0 0,.int .i64 0,.int .i64 0,.int .i64 0,.slice none 0 0] 30 (0,0)) (by (with_reducible repeat (first|refine za ?_ _|refine Ca ?_|refine ya ?_ _));exact Ba.out) hb);have qc:=ia.mk (Ra (by repeat (first|(with_reducible first|exact HB.out|apply ta|apply ja|apply ua|refine Aa ?_ Wa.out|refine Aa ?_ Jb.out)|exact HB.out)) hb);have Rc:=ia.mk (Vb);have Ce:=ia.mk ((by rw [hg];exact (Sa (by repeat (first|(with_reducible first|exact HB.out|apply ta|apply ja|apply ua|refine Aa ?_ Wa.out|refine Aa ?_ Jb.out)|exact HB.out))):w.heap.size ≤ Xb));have Qe:=ia.mk ((by rw [hg];exact (Sa (by repeat (first|(with_reducible first|exact HB.out|apply ta|apply ja|apply ua|refine Aa ?_ Wa.out|refine Aa ?_ Jb.out)|exact HB.out))):w.heap.size ≤ Xb));have qg:=ia.mk ((by rw [hg];exact Nat.ne_of_lt (jc (g:=Da) (o:=.cells #[.slice zb Ua.length yb,.int .i64 Ja,.int .i64 La,.int .i64 Pa,.slice Yb Qa.length Nb] 30 (0,0)) (by (with_reducible repeat (first|refine za ?_ _|refine Ca ?_|refine ya ?_ _));exact qa.out)):Da ≠ Xb));have Ap:=ia.mk ((by rw [hg];exact Nat.ne_of_gt (jc (g:=Da) (o:=.cells #[.slice zb Ua.length yb,.int .i64 Ja,.int .i64 La,.int .i64 Pa,.slice Yb Qa.length Nb] 30 (0,0)) (by (with_reducible repeat (first|refine za ?_ _|refine Ca ?_|refine ya ?_ _));exact qa.out)):Xb ≠ Da));have aA:=ia.mk ((by rw [hg];exact Nat.ne_of_lt (jc (g:=Ga) (o:=.cells #[.slice none 0 0,.int .i64 0,.int .i64 0,.int .i64 0,.slice none 0 0] 30 (0,0)) (by (with_reducible repeat (first|refine za ?_ _|refine Ca ?_|refine ya ?_ _));exact Ba.out)):Ga ≠ Xb));have Zz:=ia.mk ((by rw [hg];exact Nat.ne_of_gt (jc (g:=Ga) (o:=.cells #[.slice none 0 0,.int .i64 0,.int .i64 0,.int .i64 0,.slice none 0 0] 30 (0,0)) (by (with_reducible repeat (first|refine za ?_ _|refine Ca ?_|refine ya ?_ _));exact Ba.out)):Xb ≠ Ga));clear qa Ba HB;have qa:=Kb;have Ba:=Ub;have HB:=qc;have xb:=Rc;have cM:=Ce;have Uf:=Qe;have Wd:=qg;have Jh:=Ap;have Xc:=aA;have Ih:=Zz;clear Kb Ub qc Rc Ce Qe qg Ap aA Zz hb Vb hg;have YZ:=Jh.out;have WZ:=Wd.out;have XZ:=Ih.out;have VZ:=Xc.out;have Xj:w7.cell? ⟨Xb,0,none⟩=some (.slice none 0 0):=(ga xb.out 0).trans rfl;have Wj:w7.cell? ⟨Xb,1,none⟩=some (.int .i64 0):=(ga xb.out 1).trans rfl;have Vj:w7.cell? ⟨Xb,2,none⟩=some (.int .i64 0):=(ga xb.out 2).trans rfl;have Uj:w7.cell? ⟨Xb,3,none⟩=some (.int .i64 0):=(ga xb.out 3).trans rfl;have Tj:w7.cell? ⟨Xb,4,none⟩=some (.slice none 0 0):=(ga xb.out 4).trans rfl;have Sj:=aa xb.out 0;have Rj:=aa xb.out 1;have Qj:=aa xb.out 2;have Pj:=aa xb.out 3;have Oj:=aa xb.out 4)|((with_reducible refine Ib (N:=7) rfl ?_);refine Kd.Dt (Kd.int .i64) _ 3 ?hg (N:=7) ?hd (xs:=([]:List Int)) (inner:=[]) (ok:=fun _=>True) (zk:=fun _=>True) ?hr ?hp (fun _ hk=>hk) trivial (Below.refl _ _) (Nat.le_refl _) (by simp) ?_;(case hd=>rfl);(case hg=>rfl);(case hr=>first|(go_simp;done)|(go_simp;rfl));(case hp=>exact (af.none _ _));intro lM Ki iA hb jA Fj;clear jA Fj;(first|rw [← Mw.out] at iA|(simp only [Int.reduceToNat] at iA;rw [← Mw.out] at iA));have Kb:=ia.mk (Kd.xh iA (Sa (by repeat (first|(with_reducible first|exact HB.out|apply ta|apply ja|apply ua|refine Aa ?_ Wa.out|refine Aa ?_ Jb.out|refine Aa ?_ Uf.out)|exact HB.out))));have Ub:=ia.mk (Ta (g:=Da) (o:=.cells #[.slice zb Ua.length yb,.int .i64 Ja,.int .i64 La,.int .i64 Pa,.slice Yb Qa.length Nb] 30 (0,0)) (by (with_reducible repeat (first|refine za ?_ _|refine Ca ?_|refine ya ?_ _));refine Bb ?_ Wd.out _;(with_reducible repeat (first|refine za ?_ _|refine Ca ?_|refine ya ?_ _));refine Bb ?_ Wd.out _;(with_reducible repeat (first|refine za ?_ _|refine Ca ?_|refine ya ?_ _));refine Bb ?_ Wd.out _;(with_reducible repeat (first|refine za ?_ _|refine Ca ?_|refine ya ?_ _));refine Bb ?_ Wd.out _;(with_reducible repeat (first|refine za ?_ _|refine Ca ?_|refine ya ?_ _));refine Bb ?_ Wd.out _;(with_reducible repeat (first|refine za ?_ _|refine Ca ?_|refine ya ?_ _));exact qa.out) hb);have qc:=ia.mk (Ta (g:=Ga) (o:=.cells #[.slice none 0 0,.int .i64 0,.int .i64 0,.int .i64 0,.slice none 0 0] 30 (0,0)) (by (with_reducible repeat (first|refine za ?_ _|refine Ca ?_|refine ya ?_ _));refine Bb ?_ Xc.out _;(with_reducible repeat (first|refine za ?_ _|refine Ca ?_|refine ya ?_ _));refine Bb ?_ Xc.out _;(with_reducible repeat (first|refine za ?_ _|refine Ca ?_|refine ya ?_ _));refine Bb ?_ Xc.out _;(with_reducible repeat (first|refine za ?_ _|refine Ca ?_|refine ya ?_ _));refine Bb ?_ Xc.out _;(with_reducible repeat (first|refine za ?_ _|refine Ca ?_|refine ya ?_ _));refine Bb ?_ Xc.out _;(with_reducible repeat (first|refine za ?_ _|refine Ca ?_|refine ya ?_ _));exact Ba.out) hb);have Rc:=ia.mk (Ta (g:=Xb) (o:=.cells #[.slice zb Ua.length yb,.int .i64 Ja,.int .i64 La,.int .i64 Pa,.slice Yb Qa.length Nb] 30 (0,0)) (by (with_reducible repeat (first|refine za ?_ _|refine Ca ?_|refine ya ?_ _));refine jb (cs:=#[.slice zb Ua.length yb,.int .i64 Ja,.int .i64 La,.int .i64 Pa,.slice none 0 0]) ?_ 4 _ rfl;(with_reducible repeat (first|refine za ?_ _|refine Ca ?_|refine ya ?_ _));refine jb (cs:=#[.slice zb Ua.length yb,.int .i64 Ja,.int .i64 La,.int .i64 0,.slice none 0 0]) ?_ 3 _ rfl;(with_reducible repeat (first|refine za ?_ _|refine Ca ?_|refine ya ?_ _));refine jb (cs:=#[.slice zb Ua.length yb,.int .i64 Ja,.int .i64 0,.int .i64 0,.slice none 0 0]) ?_ 2 _ rfl;(with_reducible repeat (first|refine za ?_ _|refine Ca ?_|refine ya ?_ _));refine jb (cs:=#[.slice zb Ua.length yb,.int .i64 0,.int .i64 0,.int .i64 0,.slice none 0 0]) ?_ 1 _ rfl;(with_reducible repeat (first|refine za ?_ _|refine Ca ?_|refine ya ?_ _));refine jb (cs:=#[.slice none 0 0,.int .i64 0,.int .i64 0,.int .i64 0,.slice none 0 0]) ?_ 0 _ rfl;(with_reducible repeat (first|refine za ?_ _|refine Ca ?_|refine ya ?_ _));exact xb.out) hb);have Ce:=ia.mk (Ra (by repeat (first|(with_reducible first|exact HB.out|apply ta|apply ja|apply ua|refine Aa ?_ Wa.out|refine Aa ?_ Jb.out|refine Aa ?_ Uf.out)|exact HB.out)) hb);clear qa Ba xb HB;have ek:=Kb;have qa:=Ub;have Ba:=qc;have xb:=Rc;have HB:=Ce;clear Kb Ub qc Rc Ce hb iA;have Fm:Ki.cell? ⟨Da,0,none⟩=some (.slice zb Ua.length yb):=(ga qa.out 0).trans rfl;have Em:Ki.cell? ⟨Da,1,none⟩=some (.int .i64 Ja):=(ga qa.out 1).trans rfl;have Dm:Ki.cell? ⟨Da,2,none⟩=some (.int .i64 La):=(ga qa.out 2).trans rfl;have Cm:Ki.cell? ⟨Da,3,none⟩=some (.int .i64 Pa):=(ga qa.out 3).trans rfl;have Bm:Ki.cell? ⟨Da,4,none⟩=some (.slice Yb Qa.length Nb):=(ga qa.out 4).trans rfl;have vm:=aa qa.out 0;have um:=aa qa.out 1;have rm:=aa qa.out 2;have qm:=aa qa.out 3;have om:=aa qa.out 4)|((with_reducible refine Ui (b:=.append) (xs:=#[.tmp 7,.tmp 9]) rfl ?_);at_builtin;refine Kd.Im (Kd.int .i64) (w0:=w) w.heap.size rfl (.tmp 7) (.tmp 9) 22 3 (.int .i64 0) 8 rfl Try.underlying22 info3 rfl (by decide) (by omega) lM Ue Ua _ _ _ (fun _=>True) (fun _=>False) rfl rfl ?aO ?aR (fun _ _ h=>h) (fun _ h=>h.elim) ?aF ?aB ?aS ?aL ?_;(case aR=>repeat (first|exact (Kd.Lb kg.out HB.out)|(with_reducible refine Kd.Gc ?_ _)|(with_reducible refine Kd.Fc ?_ _)|(with_reducible refine Kd.xd ?_)));(case aB=>exact (by repeat (first|(with_reducible first|exact HB.out|apply ta|apply ja|apply ua|refine Aa ?_ Wa.out|refine Aa ?_ Jb.out|refine Aa ?_ Uf.out)|exact HB.out)));(case aF=>exact (fun _ _=>trivial));(case aO=>exact (by (with_reducible repeat (first|apply Kd.Tb|apply Kd.Sb|apply Kd.fc));exact ek.out));(case aS=>exact (Sa (by repeat (first|(with_reducible first|exact HB.out|apply ta|apply ja|apply ua|refine Aa ?_ Wa.out|refine Aa ?_ Jb.out|refine Aa ?_ Uf.out)|exact HB.out))));(case aL=>have:=Z3.out;omega);intro K6 Ns ho hb hg hat;rw [← EG.out] at ho;have Kb:=ia.mk (Oc (g:=Da) (o:=.cells #[.slice zb Ua.length yb,.int .i64 Ja,.int .i64 La,.int .i64 Pa,.slice Yb Qa.length Nb] 30 (0,0)) (by (with_reducible repeat (first|refine za ?_ _|refine Ca ?_|refine ya ?_ _));exact qa.out) hg (Kd.Ol ek.out qa.out (by decide)));have Ub:=ia.mk (Oc (g:=Ga) (o:=.cells #[.slice none 0 0,.int .i64 0,.int .i64 0,.int .i64 0,.slice none 0 0] 30 (0,0)) (by (with_reducible repeat (first|refine za ?_ _|refine Ca ?_|refine ya ?_ _));exact Ba.out) hg (Kd.Ol ek.out Ba.out (by decide)));have qc:=ia.mk (Oc (g:=Xb) (o:=.cells #[.slice zb Ua.length yb,.int .i64 Ja,.int .i64 La,.int .i64 Pa,.slice Yb Qa.length Nb] 30 (0,0)) (by (with_reducible repeat (first|refine za ?_ _|refine Ca ?_|refine ya ?_ _));exact xb.out) hg (Kd.Ol ek.out xb.out (by decide)));have Rc:=ia.mk (hb);have Ce:=ia.mk (ho);clear qa Ba xb HB ek;have qa:=Kb;have Ba:=Ub;have xb:=qc;have HB:=Rc;have Qq:=Ce;clear Kb Ub qc Rc Ce ho hb hg hat;obtain ⟨Gh,Dh,F2⟩:=Kd.Oe Qq.out;subst F2;have gq:Ns.cell? ⟨Xb,0,none⟩=some (.slice zb Ua.length yb):=(ga xb.out 0).trans rfl;have fq:Ns.cell? ⟨Xb,1,none⟩=some (.int .i64 Ja):=(ga xb.out 1).trans rfl;have cq:Ns.cell? ⟨Xb,2,none⟩=some (.int .i64 La):=(ga xb.out 2).trans rfl;have bq:Ns.cell? ⟨Xb,3,none⟩=some (.int .i64 Pa):=(ga xb.out 3).trans rfl;have aq:Ns.cell? ⟨Xb,4,none⟩=some (.slice Yb Qa.length Nb):=(ga xb.out 4).trans rfl;have Zp:=aa xb.out 0;have Yp:=aa xb.out 1;have Xp:=aa xb.out 2;have Wp:=aa xb.out 3;have Vp:=aa xb.out 4;have Bw:Ns.cell? ⟨Da,0,none⟩=some (.slice zb Ua.length yb):=(ga qa.out 0).trans rfl;have Aw:Ns.cell? ⟨Da,1,none⟩=some (.int .i64 Ja):=(ga qa.out 1).trans rfl;have zw:Ns.cell? ⟨Da,2,none⟩=some (.int .i64 La):=(ga qa.out 2).trans rfl;have yw:Ns.cell? ⟨Da,3,none⟩=some (.int .i64 Pa):=(ga qa.out 3).trans rfl;have xw:Ns.cell? ⟨Da,4,none⟩=some (.slice Yb Qa.length Nb):=(ga qa.out 4).trans rfl;have Uv:=aa qa.out 0;have Tv:=aa qa.out 1;have Sv:=aa qa.out 2;have Rv:=aa qa.out 3;have Qv:=aa qa.out 4))
  go_loopg [16] k (fun kq v16 w'=>∃ (Zc:Int) (Be:List (lf)) (Ve:Value),v16 = .int .i64 Zc∧ia (Ed.l0 kq Qa (Qa.length:Int) Zc sg Ja La Pa Be=some (r1,r2,r3,r4,r5))∧ia (kq ≤ k)∧ia (Kd.R (Kd.int .i64) 3 w' w.heap.size (fun _=>True) (.slice Gh sg.length Dh) sg)∧ia (Kd.S Ok 68 w' w.heap.size (fun _=>True) Ve Be)∧ia (w'.heap[Da]? = some (.cells #[(.slice zb Ua.length yb),.int .i64 Ja,.int .i64 La,.int .i64 Pa,(.slice Yb Qa.length Nb)] 30 (0,0)))∧ia (w'.heap[Ga]? = some (.cells #[(.slice none 0 0),.int .i64 0,.int .i64 0,.int .i64 0,(.slice none 0 0)] 30 (0,0)))∧ia (w'.heap[Xb]? = some (.cells #[(.slice Gh sg.length Dh),.int .i64 Ja,.int .i64 La,.int .i64 Pa,Ve] 30 (0,0)))∧ia (Below w.heap.size w w'))
  case atStart=>exact ⟨(0),(([]:List (lf))),(.slice none 0 0),(by first|rfl|(simp;done)|(simp [*];done)),H',⟨Nat.le_refl _⟩,⟨by (with_reducible repeat (first|apply Kd.Tb|apply Kd.Sb|apply Kd.fc));exact Kd.Tc (Kd.Eb (p:=⟨Xb,4,none⟩) (Kd.Eb (p:=⟨Xb,0,none⟩) (Kd.fe Qq.out xb.out (by decide)) (fun _ hk=>hk.2) (.slice Gh sg.length Dh)) (fun _ hk=>hk.2) (.slice none 0 0)) (fun _ hk=>trivial)⟩,⟨by first|exact Kd.Oaf _ _ _ _ _|exact Kd.Yaf _ _ _ _ _|exact Kd.Laf _ _ _ _ _|exact Kd.Saf _ _ _ _ _|exact Kd.zG _ _ _ _ _⟩,⟨by (with_reducible repeat (first|refine za ?_ _|refine Ca ?_|refine ya ?_ _));refine Bb ?_ Wd.out _;(with_reducible repeat (first|refine za ?_ _|refine Ca ?_|refine ya ?_ _));refine Bb ?_ Wd.out _;(with_reducible repeat (first|refine za ?_ _|refine Ca ?_|refine ya ?_ _));exact qa.out⟩,⟨by (with_reducible repeat (first|refine za ?_ _|refine Ca ?_|refine ya ?_ _));refine Bb ?_ Xc.out _;(with_reducible repeat (first|refine za ?_ _|refine Ca ?_|refine ya ?_ _));refine Bb ?_ Xc.out _;(with_reducible repeat (first|refine za ?_ _|refine Ca ?_|refine ya ?_ _));exact Ba.out⟩,⟨by (with_reducible repeat (first|refine za ?_ _|refine Ca ?_|refine ya ?_ _));refine jb (cs:=#[.slice Gh sg.length Dh,.int .i64 Ja,.int .i64 La,.int .i64 Pa,.slice Yb Qa.length Nb]) ?_ 4 _ rfl;(with_reducible repeat (first|refine za ?_ _|refine Ca ?_|refine ya ?_ _));refine jb (cs:=#[.slice zb Ua.length yb,.int .i64 Ja,.int .i64 La,.int .i64 Pa,.slice Yb Qa.length Nb]) ?_ 0 _ rfl;(with_reducible repeat (first|refine za ?_ _|refine Ca ?_|refine ya ?_ _));exact xb.out⟩,⟨by repeat (first|(with_reducible first|exact HB.out|apply ta|apply ja|apply ua|refine Aa ?_ Wa.out|refine Aa ?_ Jb.out|refine Aa ?_ Uf.out)|exact HB.out)⟩⟩
  case round =>
   clear H'
   try clear c2
   try clear p2
   try clear c5
   try clear c6
   try clear c8
   try clear c9
   try clear Xj
   try clear Wj
   try clear Vj
   try clear Uj
   try clear Tj
   try clear Fm
   try clear Em
   try clear Dm
   try clear Cm
   try clear Bm
   try clear gq
   try clear fq
   try clear cq
   try clear bq
   try clear aq
   try clear Bw
   try clear Aw
   try clear zw
   try clear yw
   try clear xw
   try clear Vt
   try clear Ut
   try clear Tt
   try clear St
   try clear Rt
   try clear Sj
   try clear Rj
   try clear Qj
   try clear Pj
   try clear Oj
   try clear vm
   try clear um
   try clear rm
   try clear qm
   try clear om
   try clear Zp
   try clear Yp
   try clear Xp
   try clear Wp
   try clear Vp
   try clear Uv
   try clear Tv
   try clear Sv
   try clear Rv
   try clear Qv
   try clear Qt
   try clear Pt
   try clear Ot
   try clear Nt
   try clear Mt
   (try clear HA);(try clear Wh);(try clear Cd);(try clear Pc);(try clear qa);(try clear Ba);(try clear xb);(try clear HB);obtain ⟨Zc,Be,Ve,rfl,HA,Wh,Cd,Pc,qa,Ba,xb,HB⟩:=hrel;cases gk with
   | zero=>exact absurd HA.out (by simp [Ed.l0])
   | succ k1 =>
    have H:=HA.out;clear HA;simp only [Ed.l0] at H
    by_cases RG:Zc < (Qa.length:Int)
    ·rw [if_pos RG] at H;have Iw:decide (Zc < (Qa.length:Int))=true:=decide_eq_true RG;clear RG
     by_cases Bt:0 ≤ Zc
     ·rw [if_pos Bt] at H;have KL:decide (0 ≤ Zc)=true:=decide_eq_true Bt;clear Bt
      by_cases Hx:Zc < (Qa.length:Int)
      ·rw [if_pos Hx] at H;have pQ:decide (Zc < (Qa.length:Int))=true:=decide_eq_true Hx;clear Hx;obtain ⟨Ms,Qm⟩:∃ y_:List (ue),y_=(([]:List (ue))):=⟨_,rfl⟩;replace H:(if Ms.length + ((Oa Qa Zc).f0).length < 2199023255552 then (if Be.length < 2513169434916 then (Ed.l0 k1 Qa (Qa.length:Int) (wrap64 (Zc + 1)) sg Ja La Pa (Be ++ [(⟨(Ms ++ ((Oa Qa Zc).f0)),(Oa Qa Zc).f1,(Oa Qa Zc).f2,(Oa Qa Zc).f3,(Oa Qa Zc).f4⟩:lf)])) else (none)) else (none))=some (r1,r2,r3,r4,r5):=by first|(rw [Qm];with_reducible exact H)|(have lg:=(Option.bind_some _ _).symm.trans H;rw [Qm];with_reducible exact lg)|(have lg:=(Option.bind_some _ _).symm.trans H;with_reducible exact lg)|with_reducible exact H|(rw [Qm];exact H)|exact H
       have VB:=ia.mk Qm;clear Qm
       by_cases yt:Ms.length + ((Oa Qa Zc).f0).length < 2199023255552
       ·rw [if_pos yt] at H;have cag:=ia.mk yt;clear yt;obtain ⟨Pk,Pm⟩:∃ y_:List (ue),y_=(Ms ++ ((Oa Qa Zc).f0)):=⟨_,rfl⟩;replace H:(if Be.length < 2513169434916 then (Ed.l0 k1 Qa (Qa.length:Int) (wrap64 (Zc + 1)) sg Ja La Pa (Be ++ [(⟨Pk,(Oa Qa Zc).f1,(Oa Qa Zc).f2,(Oa Qa Zc).f3,(Oa Qa Zc).f4⟩:lf)])) else (none))=some (r1,r2,r3,r4,r5):=by first|(rw [Pm];with_reducible exact H)|(have lg:=(Option.bind_some _ _).symm.trans H;rw [Pm];with_reducible exact lg)|(have lg:=(Option.bind_some _ _).symm.trans H;with_reducible exact lg)|with_reducible exact H|(rw [Pm];exact H)|exact H
        have UB:=ia.mk Pm;clear Pm
        by_cases lW:Be.length < 2513169434916
        ·rw [if_pos lW] at H;have bag:=ia.mk lW;clear lW;obtain ⟨Km,Om⟩:∃ y_:List (lf),y_=(Be ++ [(⟨Pk,(Oa Qa Zc).f1,(Oa Qa Zc).f2,(Oa Qa Zc).f3,(Oa Qa Zc).f4⟩:lf)]):=⟨_,rfl⟩;replace H:(Ed.l0 k1 Qa (Qa.length:Int) (wrap64 (Zc + 1)) sg Ja La Pa Km)=some (r1,r2,r3,r4,r5):=by first|(rw [Om];with_reducible exact H)|(have lg:=(Option.bind_some _ _).symm.trans H;rw [Om];with_reducible exact lg)|(have lg:=(Option.bind_some _ _).symm.trans H;with_reducible exact lg)|with_reducible exact H|(rw [Om];exact H)|exact H
         have DG:=ia.mk Om;clear Om;have H':=ia.mk H;clear H;have Qp:0 ≤ (Zc:Int):=of_decide_eq_true (by first|(with_reducible assumption)|assumption);have Np:Zc < (Qa.length:Int):=of_decide_eq_true (by first|(with_reducible assumption)|assumption);obtain ⟨Gl,Kj,Hj,mE,Ch,Ek,Dk,Ck,Bk,oo,uo⟩:=wg Sh.out Zc Qp Np;cases mE;replace Ch:=Ea HB.out Ch;replace Ek:=Ea HB.out Ek;replace Dk:=Ea HB.out Dk;replace Ck:=Ea HB.out Ck;replace Bk:=Ea HB.out Bk;have mq:=ia.mk uo;have Kz:=ia.mk oo;clear uo oo;replace Qp:=eq_true Qp;replace Np:=eq_true Np;go_wp2_with (first|((with_reducible refine Ib (N:=5) rfl ?_);refine Gb ?hg (N:=5) ?hd (cs:=#[.slice none 0 0,.int .i64 0,.int .i64 0,.int .i64 0,.int .i64 0]) (t:=68) ?hr ?_;(case hd=>rfl);(case hg=>rfl);(case hr=>first|(go_simp;done)|(go_simp;rfl));intro zf hg uq Vb hb;have Kb:=ia.mk (Kd.Dc (by (with_reducible repeat (first|apply Kd.Tb|apply Kd.Sb|apply Kd.fc));exact Cd.out) hb);have Ub:=ia.mk (Kd.ee (Kd.xG (by (with_reducible repeat (first|apply Kd.Ug|apply Kd.Tg|apply Kd.uh));exact Pc.out) zf (Nat.le_of_eq hg.symm)) hb);have qc:=ia.mk (Ta (g:=Da) (o:=.cells #[.slice zb Ua.length yb,.int .i64 Ja,.int .i64 La,.int .i64 Pa,.slice (some Gl) Qa.length Nb] 30 (0,0)) (by (with_reducible repeat (first|refine za ?_ _|refine Ca ?_|refine ya ?_ _));exact qa.out) hb);have Rc:=ia.mk (Ta (g:=Ga) (o:=.cells #[.slice none 0 0,.int .i64 0,.int .i64 0,.int .i64 0,.slice none 0 0] 30 (0,0)) (by (with_reducible repeat (first|refine za ?_ _|refine Ca ?_|refine ya ?_ _));exact Ba.out) hb);have Ce:=ia.mk (Ta (g:=Xb) (o:=.cells #[.slice Gh sg.length Dh,.int .i64 Ja,.int .i64 La,.int .i64 Pa,Ve] 30 (0,0)) (by (with_reducible repeat (first|refine za ?_ _|refine Ca ?_|refine ya ?_ _));exact xb.out) hb);have Qe:=ia.mk (Ra (by repeat (first|(with_reducible first|exact HB.out|apply ta|apply ja|apply ua|refine Aa ?_ Wa.out|refine Aa ?_ Jb.out|refine Aa ?_ Uf.out)|exact HB.out)) hb);have qg:=ia.mk (Vb);have Ap:=ia.mk ((by rw [hg];exact (Sa (by repeat (first|(with_reducible first|exact HB.out|apply ta|apply ja|apply ua|refine Aa ?_ Wa.out|refine Aa ?_ Jb.out|refine Aa ?_ Uf.out)|exact HB.out))):w.heap.size ≤ zf));have aA:=ia.mk ((by rw [hg];exact (Sa (by repeat (first|(with_reducible first|exact HB.out|apply ta|apply ja|apply ua|refine Aa ?_ Wa.out|refine Aa ?_ Jb.out|refine Aa ?_ Uf.out)|exact HB.out))):w.heap.size ≤ zf));have Zz:=ia.mk ((by rw [hg];exact Nat.ne_of_lt (jc (g:=Da) (o:=.cells #[.slice zb Ua.length yb,.int .i64 Ja,.int .i64 La,.int .i64 Pa,.slice (some Gl) Qa.length Nb] 30 (0,0)) (by (with_reducible repeat (first|refine za ?_ _|refine Ca ?_|refine ya ?_ _));exact qa.out)):Da ≠ zf));have kO:=ia.mk ((by rw [hg];exact Nat.ne_of_gt (jc (g:=Da) (o:=.cells #[.slice zb Ua.length yb,.int .i64 Ja,.int .i64 La,.int .i64 Pa,.slice (some Gl) Qa.length Nb] 30 (0,0)) (by (with_reducible repeat (first|refine za ?_ _|refine Ca ?_|refine ya ?_ _));exact qa.out)):zf ≠ Da));have jO:=ia.mk ((by rw [hg];exact Nat.ne_of_lt (jc (g:=Ga) (o:=.cells #[.slice none 0 0,.int .i64 0,.int .i64 0,.int .i64 0,.slice none 0 0] 30 (0,0)) (by (with_reducible repeat (first|refine za ?_ _|refine Ca ?_|refine ya ?_ _));exact Ba.out)):Ga ≠ zf));have iO:=ia.mk ((by rw [hg];exact Nat.ne_of_gt (jc (g:=Ga) (o:=.cells #[.slice none 0 0,.int .i64 0,.int .i64 0,.int .i64 0,.slice none 0 0] 30 (0,0)) (by (with_reducible repeat (first|refine za ?_ _|refine Ca ?_|refine ya ?_ _));exact Ba.out)):zf ≠ Ga));have gO:=ia.mk ((by rw [hg];exact Nat.ne_of_lt (jc (g:=Xb) (o:=.cells #[.slice Gh sg.length Dh,.int .i64 Ja,.int .i64 La,.int .i64 Pa,Ve] 30 (0,0)) (by (with_reducible repeat (first|refine za ?_ _|refine Ca ?_|refine ya ?_ _));exact xb.out)):Xb ≠ zf));have fO:=ia.mk ((by rw [hg];exact Nat.ne_of_gt (jc (g:=Xb) (o:=.cells #[.slice Gh sg.length Dh,.int .i64 Ja,.int .i64 La,.int .i64 Pa,Ve] 30 (0,0)) (by (with_reducible repeat (first|refine za ?_ _|refine Ca ?_|refine ya ?_ _));exact xb.out)):zf ≠ Xb));clear Cd Pc qa Ba xb HB;have Cd:=Kb;have Pc:=Ub;have qa:=qc;have Ba:=Rc;have xb:=Ce;have HB:=Qe;have tf:=qg;have Rax:=Ap;have Wx:=aA;have Wl:=Zz;have gN:=kO;have Ul:=jO;have fN:=iO;have Sl:=gO;have eN:=fO;clear Kb Ub qc Rc Ce Qe qg Ap aA Zz kO jO iO gO fO hb Vb hg;have kX:=gN.out;have fX:=Wl.out;have PO:=fN.out;have MO:=Ul.out;have jX:=eN.out;have eX:=Sl.out;have Sr:uq.cell? ⟨zf,0,none⟩=some (.slice none 0 0):=(ga tf.out 0).trans rfl;have Qr:uq.cell? ⟨zf,1,none⟩=some (.int .i64 0):=(ga tf.out 1).trans rfl;have Pr:uq.cell? ⟨zf,2,none⟩=some (.int .i64 0):=(ga tf.out 2).trans rfl;have Nr:uq.cell? ⟨zf,3,none⟩=some (.int .i64 0):=(ga tf.out 3).trans rfl;have Mr:uq.cell? ⟨zf,4,none⟩=some (.int .i64 0):=(ga tf.out 4).trans rfl;have nr:=aa tf.out 0;have kr:=aa tf.out 1;have jr:=aa tf.out 2;have ir:=aa tf.out 3;have gr:=aa tf.out 4)|((with_reducible refine Ib (N:=20) rfl ?_);refine Kd.Dt Di _ 70 ?hg (N:=20) ?hd (xs:=([]:List (ue))) (inner:=[]) (ok:=fun _=>True) (zk:=fun _=>True) ?hr ?hp (fun _ hk=>hk) trivial (Below.refl _ _) (Nat.le_refl _) (by simp) ?_;(case hd=>rfl);(case hg=>rfl);(case hr=>first|(go_simp;done)|(go_simp;rfl));(case hp=>exact (af.none _ _));intro dap Vw JM hb jA Fj;clear jA Fj;(first|rw [← VB.out] at JM|(simp only [Int.reduceToNat] at JM;rw [← VB.out] at JM));have Kb:=ia.mk (Kd.Dc (by (with_reducible repeat (first|apply Kd.Tb|apply Kd.Sb|apply Kd.fc));exact (Kd.Tc (Kd.Eb (p:=⟨zf,4,none⟩) (Kd.Eb (p:=⟨zf,3,none⟩) (Kd.Eb (p:=⟨zf,2,none⟩) (Kd.Eb (p:=⟨zf,1,none⟩) (Kd.Eb (p:=⟨zf,0,none⟩) (Kd.fe Cd.out tf.out (by decide)) (fun _ hk=>hk.2) (.slice Kj ((Oa Qa Zc).f0).length Hj)) (fun _ hk=>hk.2) (.int .i64 ((Oa Qa Zc).f1))) (fun _ hk=>hk.2) (.int .i64 ((Oa Qa Zc).f2))) (fun _ hk=>hk.2) (.int .i64 ((Oa Qa Zc).f3))) (fun _ hk=>hk.2) (.int .i64 ((Oa Qa Zc).f4))) (fun _ h_=>h_.1))) hb);have Ub:=ia.mk (Kd.TA (by (with_reducible repeat (first|apply Kd.Ug|apply Kd.Tg|apply Kd.uh));exact (Kd.xg (Kd.Rh (p:=⟨zf,4,none⟩) (Kd.Rh (p:=⟨zf,3,none⟩) (Kd.Rh (p:=⟨zf,2,none⟩) (Kd.Rh (p:=⟨zf,1,none⟩) (Kd.Rh (p:=⟨zf,0,none⟩) (Kd.xg Pc.out (fun k_ hk=>(⟨hk,hk.2⟩:_∧k_ ≠ zf))) (fun _ hk=>hk.2) (.slice Kj ((Oa Qa Zc).f0).length Hj)) (fun _ hk=>hk.2) (.int .i64 ((Oa Qa Zc).f1))) (fun _ hk=>hk.2) (.int .i64 ((Oa Qa Zc).f2))) (fun _ hk=>hk.2) (.int .i64 ((Oa Qa Zc).f3))) (fun _ hk=>hk.2) (.int .i64 ((Oa Qa Zc).f4))) (fun _ h_=>h_.1))) (Kd.VA JM) hb);have qc:=ia.mk (Kd.xh JM (Sa (by repeat (first|(with_reducible first|exact HB.out|apply ta|apply ja|apply ua|refine Aa ?_ Wa.out|refine Aa ?_ Jb.out|refine Aa ?_ Uf.out|refine Aa ?_ Wx.out)|exact HB.out))));have Rc:=ia.mk (Ta (g:=Da) (o:=.cells #[.slice zb Ua.length yb,.int .i64 Ja,.int .i64 La,.int .i64 Pa,.slice (some Gl) Qa.length Nb] 30 (0,0)) (by (with_reducible repeat (first|refine za ?_ _|refine Ca ?_|refine ya ?_ _));refine Bb ?_ Wl.out _;(with_reducible repeat (first|refine za ?_ _|refine Ca ?_|refine ya ?_ _));refine Bb ?_ Wl.out _;(with_reducible repeat (first|refine za ?_ _|refine Ca ?_|refine ya ?_ _));refine Bb ?_ Wl.out _;(with_reducible repeat (first|refine za ?_ _|refine Ca ?_|refine ya ?_ _));refine Bb ?_ Wl.out _;(with_reducible repeat (first|refine za ?_ _|refine Ca ?_|refine ya ?_ _));refine Bb ?_ Wl.out _;(with_reducible repeat (first|refine za ?_ _|refine Ca ?_|refine ya ?_ _));exact qa.out) hb);have Ce:=ia.mk (Ta (g:=Ga) (o:=.cells #[.slice none 0 0,.int .i64 0,.int .i64 0,.int .i64 0,.slice none 0 0] 30 (0,0)) (by (with_reducible repeat (first|refine za ?_ _|refine Ca ?_|refine ya ?_ _));refine Bb ?_ Ul.out _;(with_reducible repeat (first|refine za ?_ _|refine Ca ?_|refine ya ?_ _));refine Bb ?_ Ul.out _;(with_reducible repeat (first|refine za ?_ _|refine Ca ?_|refine ya ?_ _));refine Bb ?_ Ul.out _;(with_reducible repeat (first|refine za ?_ _|refine Ca ?_|refine ya ?_ _));refine Bb ?_ Ul.out _;(with_reducible repeat (first|refine za ?_ _|refine Ca ?_|refine ya ?_ _));refine Bb ?_ Ul.out _;(with_reducible repeat (first|refine za ?_ _|refine Ca ?_|refine ya ?_ _));exact Ba.out) hb);have Qe:=ia.mk (Ta (g:=Xb) (o:=.cells #[.slice Gh sg.length Dh,.int .i64 Ja,.int .i64 La,.int .i64 Pa,Ve] 30 (0,0)) (by (with_reducible repeat (first|refine za ?_ _|refine Ca ?_|refine ya ?_ _));refine Bb ?_ Sl.out _;(with_reducible repeat (first|refine za ?_ _|refine Ca ?_|refine ya ?_ _));refine Bb ?_ Sl.out _;(with_reducible repeat (first|refine za ?_ _|refine Ca ?_|refine ya ?_ _));refine Bb ?_ Sl.out _;(with_reducible repeat (first|refine za ?_ _|refine Ca ?_|refine ya ?_ _));refine Bb ?_ Sl.out _;(with_reducible repeat (first|refine za ?_ _|refine Ca ?_|refine ya ?_ _));refine Bb ?_ Sl.out _;(with_reducible repeat (first|refine za ?_ _|refine Ca ?_|refine ya ?_ _));exact xb.out) hb);have qg:=ia.mk (Ta (g:=zf) (o:=.cells #[.slice Kj ((Oa Qa Zc).f0).length Hj,.int .i64 ((Oa Qa Zc).f1),.int .i64 ((Oa Qa Zc).f2),.int .i64 ((Oa Qa Zc).f3),.int .i64 ((Oa Qa Zc).f4)] 68 (0,0)) (by (with_reducible repeat (first|refine za ?_ _|refine Ca ?_|refine ya ?_ _));refine jb (cs:=#[.slice Kj ((Oa Qa Zc).f0).length Hj,.int .i64 ((Oa Qa Zc).f1),.int .i64 ((Oa Qa Zc).f2),.int .i64 ((Oa Qa Zc).f3),.int .i64 0]) ?_ 4 _ rfl;(with_reducible repeat (first|refine za ?_ _|refine Ca ?_|refine ya ?_ _));refine jb (cs:=#[.slice Kj ((Oa Qa Zc).f0).length Hj,.int .i64 ((Oa Qa Zc).f1),.int .i64 ((Oa Qa Zc).f2),.int .i64 0,.int .i64 0]) ?_ 3 _ rfl;(with_reducible repeat (first|refine za ?_ _|refine Ca ?_|refine ya ?_ _));refine jb (cs:=#[.slice Kj ((Oa Qa Zc).f0).length Hj,.int .i64 ((Oa Qa Zc).f1),.int .i64 0,.int .i64 0,.int .i64 0]) ?_ 2 _ rfl;(with_reducible repeat (first|refine za ?_ _|refine Ca ?_|refine ya ?_ _));refine jb (cs:=#[.slice Kj ((Oa Qa Zc).f0).length Hj,.int .i64 0,.int .i64 0,.int .i64 0,.int .i64 0]) ?_ 1 _ rfl;(with_reducible repeat (first|refine za ?_ _|refine Ca ?_|refine ya ?_ _));refine jb (cs:=#[.slice none 0 0,.int .i64 0,.int .i64 0,.int .i64 0,.int .i64 0]) ?_ 0 _ rfl;(with_reducible repeat (first|refine za ?_ _|refine Ca ?_|refine ya ?_ _));exact tf.out) hb);have Ap:=ia.mk (Ra (by repeat (first|(with_reducible first|exact HB.out|apply ta|apply ja|apply ua|refine Aa ?_ Wa.out|refine Aa ?_ Jb.out|refine Aa ?_ Uf.out|refine Aa ?_ Wx.out)|exact HB.out)) hb);clear Cd Pc qa Ba xb tf HB;have Cd:=Kb;have Pc:=Ub;have dB:=qc;have qa:=Rc;have Ba:=Ce;have xb:=Qe;have tf:=qg;have HB:=Ap;clear Kb Ub qc Rc Ce Qe qg Ap hb JM;have oL:Vw.cell? ⟨zf,0,none⟩=some (.slice Kj ((Oa Qa Zc).f0).length Hj):=(ga tf.out 0).trans rfl;have nL:Vw.cell? ⟨zf,1,none⟩=some (.int .i64 ((Oa Qa Zc).f1)):=(ga tf.out 1).trans rfl;have mL:Vw.cell? ⟨zf,2,none⟩=some (.int .i64 ((Oa Qa Zc).f2)):=(ga tf.out 2).trans rfl;have kL:Vw.cell? ⟨zf,3,none⟩=some (.int .i64 ((Oa Qa Zc).f3)):=(ga tf.out 3).trans rfl;have jL:Vw.cell? ⟨zf,4,none⟩=some (.int .i64 ((Oa Qa Zc).f4)):=(ga tf.out 4).trans rfl;have YJ:=aa tf.out 0;have XJ:=aa tf.out 1;have WJ:=aa tf.out 2;have VJ:=aa tf.out 3;have UJ:=aa tf.out 4)|((with_reducible refine Ui (b:=.append) (xs:=#[.tmp 20,.tmp 22]) rfl ?_);at_builtin;refine Kd.Im Di (w0:=w) w.heap.size rfl (.tmp 20) (.tmp 22) 66 70 (.agg #[(.int .i64 0),(.int .i64 0),(.int .i64 0),(.int .i64 0),(.int .i64 0),(.int .i64 0),(.string ⟨#[]⟩)]) 64 rfl Try.underlying66 rH rfl (by decide) (by omega) dap Ms ((Oa Qa Zc).f0) _ _ _ (fun _=>True) (fun _=>False) rfl rfl ?aO ?aR (fun _ _ h=>h) (fun _ h=>h.elim) ?aF ?aB ?aS ?aL ?_;(case aR=>repeat (first|exact (Kd.Lb mq.out HB.out)|(with_reducible refine Kd.Gc ?_ _)|(with_reducible refine Kd.Fc ?_ _)|(with_reducible refine Kd.xd ?_)));(case aB=>exact (by repeat (first|(with_reducible first|exact HB.out|apply ta|apply ja|apply ua|refine Aa ?_ Wa.out|refine Aa ?_ Jb.out|refine Aa ?_ Uf.out|refine Aa ?_ Wx.out)|exact HB.out)));(case aF=>exact (fun _ _=>trivial));(case aO=>exact (by (with_reducible repeat (first|apply Kd.Tb|apply Kd.Sb|apply Kd.fc));exact dB.out));(case aS=>exact (Sa (by repeat (first|(with_reducible first|exact HB.out|apply ta|apply ja|apply ua|refine Aa ?_ Wa.out|refine Aa ?_ Jb.out|refine Aa ?_ Uf.out|refine Aa ?_ Wx.out)|exact HB.out))));(case aL=>have:=cag.out;omega);intro J6 sB ho hb hg hat;rw [← UB.out] at ho;have Kb:=ia.mk (Kd.Gm (by (with_reducible repeat (first|apply Kd.Tb|apply Kd.Sb|apply Kd.fc));exact Cd.out) (Kd.Dn (by (with_reducible repeat (first|apply Kd.Tb|apply Kd.Sb|apply Kd.fc));exact dB.out)) (by decide) hg);have Ub:=ia.mk (Kd.NL (ok:=(fun k_=>k_ ≠ zf)) (by (with_reducible repeat (first|apply Kd.Ug|apply Kd.Tg|apply Kd.uh));exact Kd.xg Pc.out (fun _ hk=>⟨hk.1.2,hk.2⟩)) hg hat);have qc:=ia.mk (Oc (g:=Da) (o:=.cells #[.slice zb Ua.length yb,.int .i64 Ja,.int .i64 La,.int .i64 Pa,.slice (some Gl) Qa.length Nb] 30 (0,0)) (by (with_reducible repeat (first|refine za ?_ _|refine Ca ?_|refine ya ?_ _));exact qa.out) hg (Kd.Ol dB.out qa.out (by decide)));have Rc:=ia.mk (Oc (g:=Ga) (o:=.cells #[.slice none 0 0,.int .i64 0,.int .i64 0,.int .i64 0,.slice none 0 0] 30 (0,0)) (by (with_reducible repeat (first|refine za ?_ _|refine Ca ?_|refine ya ?_ _));exact Ba.out) hg (Kd.Ol dB.out Ba.out (by decide)));have Ce:=ia.mk (Oc (g:=Xb) (o:=.cells #[.slice Gh sg.length Dh,.int .i64 Ja,.int .i64 La,.int .i64 Pa,Ve] 30 (0,0)) (by (with_reducible repeat (first|refine za ?_ _|refine Ca ?_|refine ya ?_ _));exact xb.out) hg (Kd.Ol dB.out xb.out (by decide)));have Qe:=ia.mk (Oc (g:=zf) (o:=.cells #[.slice Kj ((Oa Qa Zc).f0).length Hj,.int .i64 ((Oa Qa Zc).f1),.int .i64 ((Oa Qa Zc).f2),.int .i64 ((Oa Qa Zc).f3),.int .i64 ((Oa Qa Zc).f4)] 68 (0,0)) (by (with_reducible repeat (first|refine za ?_ _|refine Ca ?_|refine ya ?_ _));exact tf.out) hg (Kd.Ol dB.out tf.out (by decide)));have qg:=ia.mk (hb);have Ap:=ia.mk (ho);clear Cd Pc qa Ba xb tf HB dB;have Cd:=Kb;have Pc:=Ub;have qa:=qc;have Ba:=Rc;have xb:=Ce;have tf:=Qe;have HB:=qg;have Pn:=Ap;clear Kb Ub qc Rc Ce Qe qg Ap ho hb hg hat;obtain ⟨ny,ey,Par⟩:=Kd.Oe Pn.out;subst Par;have RV:sB.cell? ⟨zf,0,none⟩=some (.slice Kj ((Oa Qa Zc).f0).length Hj):=(ga tf.out 0).trans rfl;have QV:sB.cell? ⟨zf,1,none⟩=some (.int .i64 ((Oa Qa Zc).f1)):=(ga tf.out 1).trans rfl;have PV:sB.cell? ⟨zf,2,none⟩=some (.int .i64 ((Oa Qa Zc).f2)):=(ga tf.out 2).trans rfl;have OV:sB.cell? ⟨zf,3,none⟩=some (.int .i64 ((Oa Qa Zc).f3)):=(ga tf.out 3).trans rfl;have NV:sB.cell? ⟨zf,4,none⟩=some (.int .i64 ((Oa Qa Zc).f4)):=(ga tf.out 4).trans rfl;have tU:=aa tf.out 0;have sU:=aa tf.out 1;have rU:=aa tf.out 2;have qU:=aa tf.out 3;have pU:=aa tf.out 4)|((with_reducible refine Hf (t:=66) (p:=24) rfl ?_);refine gf (t:=66) (p:=24) (v:=?Qao) (w1:=(sB.setCell ⟨zf,0,none⟩ (.slice ny Pk.length ey))) ?hg ?ho ?hn ?hr ?_;(case ho=>rfl);(case hg=>rfl);(case hn=>rfl);(case hr=>first|(go_simp;done)|(go_simp;rfl));intro ru hw;have Kb:ia (Kd.R (Kd.int .i64) 3 ru w.heap.size (fun _=>True) (.slice Gh sg.length Dh) sg):=⟨(by rw [hw];exact (by (with_reducible repeat (first|apply Kd.Tb|apply Kd.Sb|apply Kd.fc));exact Kd.Tc (Kd.Eb (p:=⟨zf,0,none⟩) (Kd.fe Cd.out tf.out (by decide)) (fun _ hk=>hk.2) (.slice ny Pk.length ey)) (fun _ hk=>trivial)))⟩;have Ub:ia (Kd.S Ok 68 ru w.heap.size (fun k_=>some k_ ≠ (.slice ny Pk.length ey:Value).ownBlock∧k_ ≠ zf) Ve Be):=⟨(by rw [hw];exact (by (with_reducible repeat (first|apply Kd.Ug|apply Kd.Tg|apply Kd.uh));exact Kd.xg (Kd.Rh (p:=⟨zf,0,none⟩) (Kd.xg Pc.out (fun k_ hk=>(⟨hk,hk.1⟩:_∧k_ ≠ zf))) (fun _ hk=>hk.2) (.slice ny Pk.length ey)) (fun _ hk=>⟨hk.1.2,hk.1.1⟩)))⟩;have qc:ia (Kd.R Di 70 ru w.heap.size (fun _=>True) (.slice ny Pk.length ey) Pk):=⟨(by rw [hw];exact (by (with_reducible repeat (first|apply Kd.Tb|apply Kd.Sb|apply Kd.fc));exact Kd.Tc (Kd.Eb (p:=⟨zf,0,none⟩) (Kd.fe Pn.out tf.out (by decide)) (fun _ hk=>hk.2) (.slice ny Pk.length ey)) (fun _ hk=>trivial)))⟩;have Rc:ia (ru.heap[Da]? = some (.cells #[.slice zb Ua.length yb,.int .i64 Ja,.int .i64 La,.int .i64 Pa,.slice (some Gl) Qa.length Nb] 30 (0,0))):=⟨(by rw [hw];exact (by (with_reducible repeat (first|refine za ?_ _|refine Ca ?_|refine ya ?_ _));refine Bb ?_ Wl.out _;(with_reducible repeat (first|refine za ?_ _|refine Ca ?_|refine ya ?_ _));exact qa.out))⟩;have Ce:ia (ru.heap[Ga]? = some (.cells #[.slice none 0 0,.int .i64 0,.int .i64 0,.int .i64 0,.slice none 0 0] 30 (0,0))):=⟨(by rw [hw];exact (by (with_reducible repeat (first|refine za ?_ _|refine Ca ?_|refine ya ?_ _));refine Bb ?_ Ul.out _;(with_reducible repeat (first|refine za ?_ _|refine Ca ?_|refine ya ?_ _));exact Ba.out))⟩;have Qe:ia (ru.heap[Xb]? = some (.cells #[.slice Gh sg.length Dh,.int .i64 Ja,.int .i64 La,.int .i64 Pa,Ve] 30 (0,0))):=⟨(by rw [hw];exact (by (with_reducible repeat (first|refine za ?_ _|refine Ca ?_|refine ya ?_ _));refine Bb ?_ Sl.out _;(with_reducible repeat (first|refine za ?_ _|refine Ca ?_|refine ya ?_ _));exact xb.out))⟩;have qg:ia (ru.heap[zf]? = some (.cells #[.slice ny Pk.length ey,.int .i64 ((Oa Qa Zc).f1),.int .i64 ((Oa Qa Zc).f2),.int .i64 ((Oa Qa Zc).f3),.int .i64 ((Oa Qa Zc).f4)] 68 (0,0))):=⟨(by rw [hw];exact (by (with_reducible repeat (first|refine za ?_ _|refine Ca ?_|refine ya ?_ _));refine jb (cs:=#[.slice Kj ((Oa Qa Zc).f0).length Hj,.int .i64 ((Oa Qa Zc).f1),.int .i64 ((Oa Qa Zc).f2),.int .i64 ((Oa Qa Zc).f3),.int .i64 ((Oa Qa Zc).f4)]) ?_ 0 _ rfl;(with_reducible repeat (first|refine za ?_ _|refine Ca ?_|refine ya ?_ _));exact tf.out))⟩;have Ap:ia (Below w.heap.size w ru):=⟨(by rw [hw];exact (by repeat (first|(with_reducible first|exact HB.out|apply ta|apply ja|apply ua|refine Aa ?_ Wa.out|refine Aa ?_ Jb.out|refine Aa ?_ Uf.out|refine Aa ?_ Wx.out)|exact HB.out)))⟩;clear hw Cd Pc Pn qa Ba xb tf HB;have Cd:=Kb;have Pc:=Ub;have Pn:=qc;have qa:=Rc;have Ba:=Ce;have xb:=Qe;have tf:=qg;have HB:=Ap;clear Kb Ub qc Rc Ce Qe qg Ap;have iX:=Jh.out;have dX:=Wd.out;have vav:=Ih.out;have Mau:=Xc.out;have pz:ru.cell? ⟨Xb,0,none⟩=some (.slice Gh sg.length Dh):=(ga xb.out 0).trans rfl;have oz:ru.cell? ⟨Xb,1,none⟩=some (.int .i64 Ja):=(ga xb.out 1).trans rfl;have mz:ru.cell? ⟨Xb,2,none⟩=some (.int .i64 La):=(ga xb.out 2).trans rfl;have kz:ru.cell? ⟨Xb,3,none⟩=some (.int .i64 Pa):=(ga xb.out 3).trans rfl;have jz:ru.cell? ⟨Xb,4,none⟩=some (Ve):=(ga xb.out 4).trans rfl;have Iy:=aa xb.out 0;have Hy:=aa xb.out 1;have Gy:=aa xb.out 2;have Fy:=aa xb.out 3;have Ey:=aa xb.out 4;have Zv:ru.cell? ⟨zf,0,none⟩=some (.slice ny Pk.length ey):=(ga tf.out 0).trans rfl;have Yv:ru.cell? ⟨zf,1,none⟩=some (.int .i64 ((Oa Qa Zc).f1)):=(ga tf.out 1).trans rfl;have Xv:ru.cell? ⟨zf,2,none⟩=some (.int .i64 ((Oa Qa Zc).f2)):=(ga tf.out 2).trans rfl;have Wv:ru.cell? ⟨zf,3,none⟩=some (.int .i64 ((Oa Qa Zc).f3)):=(ga tf.out 3).trans rfl;have Vv:ru.cell? ⟨zf,4,none⟩=some (.int .i64 ((Oa Qa Zc).f4)):=(ga tf.out 4).trans rfl;have vv:=aa tf.out 0;have uv:=aa tf.out 1;have tv:=aa tf.out 2;have qv:=aa tf.out 3;have ov:=aa tf.out 4)|((with_reducible refine Ui (b:=.append) (xs:=#[.tmp 26,.tmp 28]) rfl ?_);at_builtin;refine Kd.yG Ok (w0:=w) w.heap.size rfl (.tmp 26) (.tmp 28) 28 68 (.agg #[(.slice none 0 0),(.int .i64 0),(.int .i64 0),(.int .i64 0),(.int .i64 0)]) 56 rfl Try.underlying28 sH rfl (by decide) (by omega) Ve Be (⟨Pk,(Oa Qa Zc).f1,(Oa Qa Zc).f2,(Oa Qa Zc).f3,(Oa Qa Zc).f4⟩:lf) [.slice ny Pk.length ey,.int .i64 ((Oa Qa Zc).f1),.int .i64 ((Oa Qa Zc).f2),.int .i64 ((Oa Qa Zc).f3),.int .i64 ((Oa Qa Zc).f4)] (fun k_=>k_ ≠ zf) (fun k_=>some k_=(.slice ny Pk.length ey:Value).ownBlock) rfl rfl ?aP (fun k_ aT=>((Kd.Tc (Ss:=fun k_=>((fun k_=>k_ ≠ zf)) k_∧some k_ ≠ (Ve:Value).ownBlock) (Kd.fe (Kd.Ip (Pn.out) (Kd.Wo Pc.out) (by decide)) tf.out (by decide)) (fun k_ hk=>⟨hk.2,hk.1.2⟩))).1 k_ aT.symm) ?aF ?aO ?aB ?aS ?aL ?_;(case aP=>exact Vk _ _ _ (⟨Pk,(Oa Qa Zc).f1,(Oa Qa Zc).f2,(Oa Qa Zc).f3,(Oa Qa Zc).f4⟩:lf) (Kd.Tc (Kd.zE rfl (Kd.Tc (Ss:=fun k_=>((fun k_=>k_ ≠ zf)) k_∧some k_ ≠ (Ve:Value).ownBlock) (Kd.fe (Kd.Ip (Pn.out) (Kd.Wo Pc.out) (by decide)) tf.out (by decide)) (fun k_ hk=>⟨hk.2,hk.1.2⟩))) (fun _ h_=>h_)));(case aB=>exact (by repeat (first|(with_reducible first|exact HB.out|apply ta|apply ja|apply ua|refine Aa ?_ Wa.out|refine Aa ?_ Jb.out|refine Aa ?_ Uf.out|refine Aa ?_ Wx.out)|exact HB.out)));(case aF=>exact (fun k_ hk=>Kd.aQ (g:=zf) (o:=.cells #[.slice ny Pk.length ey,.int .i64 ((Oa Qa Zc).f1),.int .i64 ((Oa Qa Zc).f2),.int .i64 ((Oa Qa Zc).f3),.int .i64 ((Oa Qa Zc).f4)] 68 (0,0)) (by (with_reducible repeat (first|refine za ?_ _|refine Ca ?_|refine ya ?_ _));exact tf.out) k_ hk));(case aO=>exact (by (with_reducible repeat (first|apply Kd.Ug|apply Kd.Tg|apply Kd.uh));exact Kd.xg Pc.out (fun k_ hk=>⟨hk.2,fun e_=>hk.1 e_⟩)));(case aS=>exact (Sa (by repeat (first|(with_reducible first|exact HB.out|apply ta|apply ja|apply ua|refine Aa ?_ Wa.out|refine Aa ?_ Jb.out|refine Aa ?_ Uf.out|refine Aa ?_ Wx.out)|exact HB.out))));(case aL=>have:=bag.out;omega);intro bap pq ho hb hg hat;rw [← DG.out] at ho;have Kb:=ia.mk (Kd.Gm (by (with_reducible repeat (first|apply Kd.Tb|apply Kd.Sb|apply Kd.fc));exact Cd.out) (Kd.Wo (by (with_reducible repeat (first|apply Kd.Ug|apply Kd.Tg|apply Kd.uh));exact Pc.out)) (by decide) hg);have Ub:=ia.mk (Oc (g:=Da) (o:=.cells #[.slice zb Ua.length yb,.int .i64 Ja,.int .i64 La,.int .i64 Pa,.slice (some Gl) Qa.length Nb] 30 (0,0)) (by (with_reducible repeat (first|refine za ?_ _|refine Ca ?_|refine ya ?_ _));exact qa.out) hg (Kd.ZM Pc.out qa.out (by decide)));have qc:=ia.mk (Oc (g:=Ga) (o:=.cells #[.slice none 0 0,.int .i64 0,.int .i64 0,.int .i64 0,.slice none 0 0] 30 (0,0)) (by (with_reducible repeat (first|refine za ?_ _|refine Ca ?_|refine ya ?_ _));exact Ba.out) hg (Kd.ZM Pc.out Ba.out (by decide)));have Rc:=ia.mk (Oc (g:=Xb) (o:=.cells #[.slice Gh sg.length Dh,.int .i64 Ja,.int .i64 La,.int .i64 Pa,Ve] 30 (0,0)) (by (with_reducible repeat (first|refine za ?_ _|refine Ca ?_|refine ya ?_ _));exact xb.out) hg (Kd.ZM Pc.out xb.out (by decide)));have Ce:=ia.mk (Oc (g:=zf) (o:=.cells #[.slice ny Pk.length ey,.int .i64 ((Oa Qa Zc).f1),.int .i64 ((Oa Qa Zc).f2),.int .i64 ((Oa Qa Zc).f3),.int .i64 ((Oa Qa Zc).f4)] 68 (0,0)) (by (with_reducible repeat (first|refine za ?_ _|refine Ca ?_|refine ya ?_ _));exact tf.out) hg (Kd.wQ Pc.out (fun _ hk=>hk.2)));have Qe:=ia.mk (hb);have qg:=ia.mk (ho);clear Cd qa Ba xb tf HB Pc Pn;have Cd:=Kb;have qa:=Ub;have Ba:=qc;have xb:=Rc;have tf:=Ce;have HB:=Qe;have Et:=qg;clear Kb Ub qc Rc Ce Qe qg ho hb hg hat;obtain ⟨M5,O2,Nar⟩:=Kd.Gi Et.out;subst Nar;have ID:pq.cell? ⟨Xb,0,none⟩=some (.slice Gh sg.length Dh):=(ga xb.out 0).trans rfl;have GD:pq.cell? ⟨Xb,1,none⟩=some (.int .i64 Ja):=(ga xb.out 1).trans rfl;have FD:pq.cell? ⟨Xb,2,none⟩=some (.int .i64 La):=(ga xb.out 2).trans rfl;have ED:pq.cell? ⟨Xb,3,none⟩=some (.int .i64 Pa):=(ga xb.out 3).trans rfl;have DD:pq.cell? ⟨Xb,4,none⟩=some (Ve):=(ga xb.out 4).trans rfl;have KC:=aa xb.out 0;have JC:=aa xb.out 1;have IC:=aa xb.out 2;have GC:=aa xb.out 3;have FC:=aa xb.out 4))
         go_roundg k1
         case measure=>have:=Wh.out;omega
         case rel=>exact ⟨(wrap64 (Zc + 1)),(Km),(.slice M5 Km.length O2),(by first|rfl|(simp;done)|(simp [*];done)),H',⟨by have:=Wh.out;omega⟩,⟨by (with_reducible repeat (first|apply Kd.Tb|apply Kd.Sb|apply Kd.fc));exact Kd.Tc (Kd.Eb (p:=⟨Xb,4,none⟩) (Kd.fe Cd.out xb.out (by decide)) (fun _ hk=>hk.2) (.slice M5 Km.length O2)) (fun _ hk=>trivial)⟩,⟨by (with_reducible repeat (first|apply Kd.Ug|apply Kd.Tg|apply Kd.uh));exact Kd.xg (Kd.Rh (p:=⟨Xb,4,none⟩) (Kd.Vo Et.out xb.out (by decide)) (fun _ hk=>hk.2) (.slice M5 Km.length O2)) (fun _ hk=>trivial)⟩,⟨by (with_reducible repeat (first|refine za ?_ _|refine Ca ?_|refine ya ?_ _));refine Bb ?_ Wd.out _;(with_reducible repeat (first|refine za ?_ _|refine Ca ?_|refine ya ?_ _));exact qa.out⟩,⟨by (with_reducible repeat (first|refine za ?_ _|refine Ca ?_|refine ya ?_ _));refine Bb ?_ Xc.out _;(with_reducible repeat (first|refine za ?_ _|refine Ca ?_|refine ya ?_ _));exact Ba.out⟩,⟨by (with_reducible repeat (first|refine za ?_ _|refine Ca ?_|refine ya ?_ _));refine jb (cs:=#[.slice Gh sg.length Dh,.int .i64 Ja,.int .i64 La,.int .i64 Pa,Ve]) ?_ 4 _ rfl;(with_reducible repeat (first|refine za ?_ _|refine Ca ?_|refine ya ?_ _));exact xb.out⟩,⟨by repeat (first|(with_reducible first|exact HB.out|apply ta|apply ja|apply ua|refine Aa ?_ Wa.out|refine Aa ?_ Jb.out|refine Aa ?_ Uf.out|refine Aa ?_ Wx.out)|exact HB.out)⟩⟩
        ·rw [if_neg lW] at H;exact absurd H (by simp)
       ·rw [if_neg yt] at H;exact absurd H (by simp)
      ·rw [if_neg Hx] at H;exact absurd H (by simp)
     ·rw [if_neg Bt] at H;exact absurd H (by simp)
    ·rw [if_neg RG] at H;have Iw:decide (Zc < (Qa.length:Int))=false:=decide_eq_false RG;clear RG;simp only [Option.some.injEq,Prod.mk.injEq] at H;obtain ⟨rfl,rfl,rfl,rfl,rfl⟩:=H;have e8:=Jh.out;have J7:=Wd.out;have b8:=Ih.out;have I7:=Xc.out;have iz:wr.cell? ⟨Xb,0,none⟩=some (.slice Gh sg.length Dh):=(ga xb.out 0).trans rfl;have gz:wr.cell? ⟨Xb,1,none⟩=some (.int .i64 Ja):=(ga xb.out 1).trans rfl;have fz:wr.cell? ⟨Xb,2,none⟩=some (.int .i64 La):=(ga xb.out 2).trans rfl;have ez:wr.cell? ⟨Xb,3,none⟩=some (.int .i64 Pa):=(ga xb.out 3).trans rfl;have dz:wr.cell? ⟨Xb,4,none⟩=some (Ve):=(ga xb.out 4).trans rfl;have Dy:=aa xb.out 0;have Cy:=aa xb.out 1;have Ay:=aa xb.out 2;have zy:=aa xb.out 3;have yy:=aa xb.out 4;have sav:=Va.out;have Jau:=Xa.out;have Pan:wr.cell? ⟨Ga,0,none⟩=some (.slice none 0 0):=(ga Ba.out 0).trans rfl;have Oan:wr.cell? ⟨Ga,1,none⟩=some (.int .i64 0):=(ga Ba.out 1).trans rfl;have Nan:wr.cell? ⟨Ga,2,none⟩=some (.int .i64 0):=(ga Ba.out 2).trans rfl;have Man:wr.cell? ⟨Ga,3,none⟩=some (.int .i64 0):=(ga Ba.out 3).trans rfl;have Lan:wr.cell? ⟨Ga,4,none⟩=some (.slice none 0 0):=(ga Ba.out 4).trans rfl;have Jak:=aa Ba.out 0;have Iak:=aa Ba.out 1;have Hak:=aa Ba.out 2;have Gak:=aa Ba.out 3;have Fak:=aa Ba.out 4;obtain ⟨K5,L2,Lar⟩:=Kd.Gi Pc.out;subst Lar;go_wp2;refine bodyPost_ret (results_cell_row rfl _ _ Ga 30 #[.slice Gh sg.length Dh,.int .i64 Ja,.int .i64 La,.int .i64 Pa,.slice K5 Be.length L2] (0,0) _ rfl (by (with_reducible repeat (first|refine za ?_ _|refine Ca ?_|refine ya ?_ _));refine jb (cs:=#[.slice Gh sg.length Dh,.int .i64 Ja,.int .i64 La,.int .i64 Pa,.slice none 0 0]) ?_ 4 _ rfl;(with_reducible repeat (first|refine za ?_ _|refine Ca ?_|refine ya ?_ _));refine jb (cs:=#[.slice Gh sg.length Dh,.int .i64 Ja,.int .i64 La,.int .i64 0,.slice none 0 0]) ?_ 3 _ rfl;(with_reducible repeat (first|refine za ?_ _|refine Ca ?_|refine ya ?_ _));refine jb (cs:=#[.slice Gh sg.length Dh,.int .i64 Ja,.int .i64 0,.int .i64 0,.slice none 0 0]) ?_ 2 _ rfl;(with_reducible repeat (first|refine za ?_ _|refine Ca ?_|refine ya ?_ _));refine jb (cs:=#[.slice Gh sg.length Dh,.int .i64 0,.int .i64 0,.int .i64 0,.slice none 0 0]) ?_ 1 _ rfl;(with_reducible repeat (first|refine za ?_ _|refine Ca ?_|refine ya ?_ _));refine jb (cs:=#[.slice none 0 0,.int .i64 0,.int .i64 0,.int .i64 0,.slice none 0 0]) ?_ 0 _ rfl;(with_reducible repeat (first|refine za ?_ _|refine Ca ?_|refine ya ?_ _));exact Ba.out) Try.underlying30 rfl (by kernel_rfl)) rfl ?_;exact ⟨_,_,by first|rfl|(simp [Na,Ma] <;> rfl)|(simp [*,Na,Ma] <;> rfl),by (with_reducible repeat (first|apply Kd.Tb|apply Kd.Sb|apply Kd.fc));exact Kd.Tc (Kd.Eb (p:=⟨Ga,4,none⟩) (Kd.Eb (p:=⟨Ga,3,none⟩) (Kd.Eb (p:=⟨Ga,2,none⟩) (Kd.Eb (p:=⟨Ga,1,none⟩) (Kd.Eb (p:=⟨Ga,0,none⟩) (Kd.fe Cd.out Ba.out (by decide)) (fun _ hk=>hk.2) (.slice Gh sg.length Dh)) (fun _ hk=>hk.2) (.int .i64 Ja)) (fun _ hk=>hk.2) (.int .i64 La)) (fun _ hk=>hk.2) (.int .i64 Pa)) (fun _ hk=>hk.2) (.slice K5 Be.length L2)) (fun _ hk=>trivial),by (with_reducible repeat (first|apply Kd.Ug|apply Kd.Tg|apply Kd.uh));exact Kd.xg (Kd.Rh (p:=⟨Ga,4,none⟩) (Kd.Rh (p:=⟨Ga,3,none⟩) (Kd.Rh (p:=⟨Ga,2,none⟩) (Kd.Rh (p:=⟨Ga,1,none⟩) (Kd.Rh (p:=⟨Ga,0,none⟩) (Kd.Vo Pc.out Ba.out (by decide)) (fun _ hk=>hk.2) (.slice Gh sg.length Dh)) (fun _ hk=>hk.2) (.int .i64 Ja)) (fun _ hk=>hk.2) (.int .i64 La)) (fun _ hk=>hk.2) (.int .i64 Pa)) (fun _ hk=>hk.2) (.slice K5 Be.length L2)) (fun _ hk=>trivial),by repeat (first|(with_reducible first|exact HB.out|apply ta|apply ja|apply ua|refine Aa ?_ Wa.out|refine Aa ?_ Jb.out|refine Aa ?_ Uf.out)|exact HB.out)⟩
 ·rw [if_neg c2] at H;exact absurd H (by simp)
def Lm.f (a0:ByteArray) (a1:Int) (a2:Int):Option (Int):=if a0.toList=([43]:List UInt8) then (some (wrap64 (a1 + a2))) else (if a0.toList=([45]:List UInt8) then (some (wrap64 (a1 - a2))) else (if a0.toList=([42]:List UInt8) then (some (wrap64 (a1 * a2))) else (if a0.toList=([38]:List UInt8) then (some (Go.bits .and .i64 a1 a2)) else (if a0.toList=([61,61]:List UInt8) then (if a1=a2 then (some 1) else (some 0)) else (if a0.toList=([60]:List UInt8) then (if a1 < a2 then (some 1) else (some 0)) else (some 0))))))
theorem Lm.calls (a0:ByteArray) (a1:Int) (a2:Int) (r:Int) (w:World) (h:Lm.f a0 a1 a2=some r) :
  Calls Try.prog 104 #[.string a0,.int .i64 a1,.int .i64 a2] w fun e w'=>e = .returned (.int .i64 r)∧ic w w':=by
 have H:(if a0.toList=([43]:List UInt8) then (some (wrap64 (a1 + a2))) else (if a0.toList=([45]:List UInt8) then (some (wrap64 (a1 - a2))) else (if a0.toList=([42]:List UInt8) then (some (wrap64 (a1 * a2))) else (if a0.toList=([38]:List UInt8) then (some (Go.bits .and .i64 a1 a2)) else (if a0.toList=([61,61]:List UInt8) then (if a1=a2 then (some 1) else (some 0)) else (if a0.toList=([60]:List UInt8) then (if a1 < a2 then (some 1) else (some 0)) else (some 0)))))))=some r:=h;clear h
 by_cases c4:a0.toList=([43]:List UInt8)
 ·rw [if_pos c4] at H;have Zi:(a0.toList == ([43]:List UInt8))=true:=beq_iff_eq.mpr c4;have WM:(a0.toList != ([43]:List UInt8))=false:=bne_eq_false_iff_eq.mpr c4;clear c4;obtain rfl:=Option.some.inj H;go_enter Try.func104,Try.ntmps104;go_wp2;go_ret;exact ⟨by first|rfl|(simp;done)|(simp [*];done),by repeat (first|exact ic.refl _|apply ic.step)⟩
 ·rw [if_neg c4] at H;have Zi:(a0.toList == ([43]:List UInt8))=false:=beq_eq_false_iff_ne.mpr c4;have WM:(a0.toList != ([43]:List UInt8))=true:=bne_iff_ne.mpr c4
  by_cases c5:a0.toList=([45]:List UInt8)
  ·rw [if_pos c5] at H;have en:(a0.toList == ([45]:List UInt8))=true:=beq_iff_eq.mpr c5;have Nq:(a0.toList != ([45]:List UInt8))=false:=bne_eq_false_iff_eq.mpr c5;clear c5;obtain rfl:=Option.some.inj H;go_enter Try.func104,Try.ntmps104;go_wp2;go_ret;exact ⟨by first|rfl|(simp;done)|(simp [*];done),by repeat (first|exact ic.refl _|apply ic.step)⟩
  ·rw [if_neg c5] at H;have en:(a0.toList == ([45]:List UInt8))=false:=beq_eq_false_iff_ne.mpr c5;have Nq:(a0.toList != ([45]:List UInt8))=true:=bne_iff_ne.mpr c5
   by_cases c6:a0.toList=([42]:List UInt8)
   ·rw [if_pos c6] at H;have dn:(a0.toList == ([42]:List UInt8))=true:=beq_iff_eq.mpr c6;have Gx:(a0.toList != ([42]:List UInt8))=false:=bne_eq_false_iff_eq.mpr c6;clear c6;obtain rfl:=Option.some.inj H;go_enter Try.func104,Try.ntmps104;go_wp2;go_ret;exact ⟨by first|rfl|(simp;done)|(simp [*];done),by repeat (first|exact ic.refl _|apply ic.step)⟩
   ·rw [if_neg c6] at H;have dn:(a0.toList == ([42]:List UInt8))=false:=beq_eq_false_iff_ne.mpr c6;have Gx:(a0.toList != ([42]:List UInt8))=true:=bne_iff_ne.mpr c6
    by_cases c7:a0.toList=([38]:List UInt8)
    ·rw [if_pos c7] at H;have Jl:(a0.toList == ([38]:List UInt8))=true:=beq_iff_eq.mpr c7;have Mq:(a0.toList != ([38]:List UInt8))=false:=bne_eq_false_iff_eq.mpr c7;clear c7;obtain rfl:=Option.some.inj H;go_enter Try.func104,Try.ntmps104;go_wp2;go_ret;exact ⟨by first|rfl|(simp;done)|(simp [*];done),by repeat (first|exact ic.refl _|apply ic.step)⟩
    ·rw [if_neg c7] at H;have Jl:(a0.toList == ([38]:List UInt8))=false:=beq_eq_false_iff_ne.mpr c7;have Mq:(a0.toList != ([38]:List UInt8))=true:=bne_iff_ne.mpr c7
     by_cases c8:a0.toList=([61,61]:List UInt8)
     ·rw [if_pos c8] at H;have Gp:(a0.toList == ([61,61]:List UInt8))=true:=beq_iff_eq.mpr c8;have fy:(a0.toList != ([61,61]:List UInt8))=false:=bne_eq_false_iff_eq.mpr c8;clear c8
      by_cases c9:a1=a2
      ·rw [if_pos c9] at H;have Hw:(a1 == a2)=true:=beq_iff_eq.mpr c9;have qE:(a1 != a2)=false:=bne_eq_false_iff_eq.mpr c9;clear c9;obtain rfl:=Option.some.inj H;go_enter Try.func104,Try.ntmps104;go_wp2;go_ret;exact ⟨by first|rfl|(simp;done)|(simp [*];done),by repeat (first|exact ic.refl _|apply ic.step)⟩
      ·rw [if_neg c9] at H;have Hw:(a1 == a2)=false:=beq_eq_false_iff_ne.mpr c9;have qE:(a1 != a2)=true:=bne_iff_ne.mpr c9;obtain rfl:=Option.some.inj H;go_enter Try.func104,Try.ntmps104;go_wp2;go_ret;exact ⟨by first|rfl|(simp;done)|(simp [*];done),by repeat (first|exact ic.refl _|apply ic.step)⟩
     ·rw [if_neg c8] at H;have Gp:(a0.toList == ([61,61]:List UInt8))=false:=beq_eq_false_iff_ne.mpr c8;have fy:(a0.toList != ([61,61]:List UInt8))=true:=bne_iff_ne.mpr c8
      by_cases Fs:a0.toList=([60]:List UInt8)
      ·rw [if_pos Fs] at H;have KA:(a0.toList == ([60]:List UInt8))=true:=beq_iff_eq.mpr Fs;have JA:(a0.toList != ([60]:List UInt8))=false:=bne_eq_false_iff_eq.mpr Fs;clear Fs
       by_cases IA:a1 < a2
       ·rw [if_pos IA] at H;have rG:decide (a1 < a2)=true:=decide_eq_true IA;clear IA;obtain rfl:=Option.some.inj H;go_enter Try.func104,Try.ntmps104;go_wp2;go_ret;exact ⟨by first|rfl|(simp;done)|(simp [*];done),by repeat (first|exact ic.refl _|apply ic.step)⟩
       ·rw [if_neg IA] at H;have rG:decide (a1 < a2)=false:=decide_eq_false IA;clear IA;obtain rfl:=Option.some.inj H;go_enter Try.func104,Try.ntmps104;go_wp2;go_ret;exact ⟨by first|rfl|(simp;done)|(simp [*];done),by repeat (first|exact ic.refl _|apply ic.step)⟩
      ·rw [if_neg Fs] at H;have KA:(a0.toList == ([60]:List UInt8))=false:=beq_eq_false_iff_ne.mpr Fs;have JA:(a0.toList != ([60]:List UInt8))=true:=bne_iff_ne.mpr Fs;obtain rfl:=Option.some.inj H;go_enter Try.func104,Try.ntmps104;go_wp2;go_ret;exact ⟨by first|rfl|(simp;done)|(simp [*];done),by repeat (first|exact ic.refl _|apply ic.step)⟩
def Dp.f (a0:ByteArray) (a1:Int) (a2:Int):Option (Int):=if a0.toList=([43]:List UInt8) then (some (wrap64 (a1 + a2))) else (if a0.toList=([45]:List UInt8) then (some (wrap64 (a1 - a2))) else (if a0.toList=([42]:List UInt8) then (some (wrap64 (a1 * a2))) else (if a0.toList=([38]:List UInt8) then (some (Go.bits .and .i64 a1 a2)) else (if a0.toList=([61,61]:List UInt8) then (if a1=a2 then (some 1) else (some 0)) else (if a0.toList=([60]:List UInt8) then (if a1 < a2 then (some 1) else (some 0)) else (some 0))))))
theorem Dp.calls (a0:ByteArray) (a1:Int) (a2:Int) (r:Int) (w:World) (h:Dp.f a0 a1 a2=some r) :
  Calls Try.prog 119 #[.string a0,.int .i64 a1,.int .i64 a2] w fun e w'=>e = .returned (.int .i64 r)∧ic w w':=by
 have H:(if a0.toList=([43]:List UInt8) then (some (wrap64 (a1 + a2))) else (if a0.toList=([45]:List UInt8) then (some (wrap64 (a1 - a2))) else (if a0.toList=([42]:List UInt8) then (some (wrap64 (a1 * a2))) else (if a0.toList=([38]:List UInt8) then (some (Go.bits .and .i64 a1 a2)) else (if a0.toList=([61,61]:List UInt8) then (if a1=a2 then (some 1) else (some 0)) else (if a0.toList=([60]:List UInt8) then (if a1 < a2 then (some 1) else (some 0)) else (some 0)))))))=some r:=h;clear h
 by_cases c4:a0.toList=([43]:List UInt8)
 ·rw [if_pos c4] at H;have Zi:(a0.toList == ([43]:List UInt8))=true:=beq_iff_eq.mpr c4;have WM:(a0.toList != ([43]:List UInt8))=false:=bne_eq_false_iff_eq.mpr c4;clear c4;obtain rfl:=Option.some.inj H;go_enter Try.func119,Try.ntmps119;go_wp2;go_ret;exact ⟨by first|rfl|(simp;done)|(simp [*];done),by repeat (first|exact ic.refl _|apply ic.step)⟩
 ·rw [if_neg c4] at H;have Zi:(a0.toList == ([43]:List UInt8))=false:=beq_eq_false_iff_ne.mpr c4;have WM:(a0.toList != ([43]:List UInt8))=true:=bne_iff_ne.mpr c4
  by_cases c5:a0.toList=([45]:List UInt8)
  ·rw [if_pos c5] at H;have en:(a0.toList == ([45]:List UInt8))=true:=beq_iff_eq.mpr c5;have Nq:(a0.toList != ([45]:List UInt8))=false:=bne_eq_false_iff_eq.mpr c5;clear c5;obtain rfl:=Option.some.inj H;go_enter Try.func119,Try.ntmps119;go_wp2;go_ret;exact ⟨by first|rfl|(simp;done)|(simp [*];done),by repeat (first|exact ic.refl _|apply ic.step)⟩
  ·rw [if_neg c5] at H;have en:(a0.toList == ([45]:List UInt8))=false:=beq_eq_false_iff_ne.mpr c5;have Nq:(a0.toList != ([45]:List UInt8))=true:=bne_iff_ne.mpr c5
   by_cases c6:a0.toList=([42]:List UInt8)
   ·rw [if_pos c6] at H;have dn:(a0.toList == ([42]:List UInt8))=true:=beq_iff_eq.mpr c6;have Gx:(a0.toList != ([42]:List UInt8))=false:=bne_eq_false_iff_eq.mpr c6;clear c6;obtain rfl:=Option.some.inj H;go_enter Try.func119,Try.ntmps119;go_wp2;go_ret;exact ⟨by first|rfl|(simp;done)|(simp [*];done),by repeat (first|exact ic.refl _|apply ic.step)⟩
   ·rw [if_neg c6] at H;have dn:(a0.toList == ([42]:List UInt8))=false:=beq_eq_false_iff_ne.mpr c6;have Gx:(a0.toList != ([42]:List UInt8))=true:=bne_iff_ne.mpr c6
    by_cases c7:a0.toList=([38]:List UInt8)
    ·rw [if_pos c7] at H;have Jl:(a0.toList == ([38]:List UInt8))=true:=beq_iff_eq.mpr c7;have Mq:(a0.toList != ([38]:List UInt8))=false:=bne_eq_false_iff_eq.mpr c7;clear c7;obtain rfl:=Option.some.inj H;go_enter Try.func119,Try.ntmps119;go_wp2;go_ret;exact ⟨by first|rfl|(simp;done)|(simp [*];done),by repeat (first|exact ic.refl _|apply ic.step)⟩
    ·rw [if_neg c7] at H;have Jl:(a0.toList == ([38]:List UInt8))=false:=beq_eq_false_iff_ne.mpr c7;have Mq:(a0.toList != ([38]:List UInt8))=true:=bne_iff_ne.mpr c7
     by_cases c8:a0.toList=([61,61]:List UInt8)
     ·rw [if_pos c8] at H;have Gp:(a0.toList == ([61,61]:List UInt8))=true:=beq_iff_eq.mpr c8;have fy:(a0.toList != ([61,61]:List UInt8))=false:=bne_eq_false_iff_eq.mpr c8;clear c8
      by_cases c9:a1=a2
      ·rw [if_pos c9] at H;have Hw:(a1 == a2)=true:=beq_iff_eq.mpr c9;have qE:(a1 != a2)=false:=bne_eq_false_iff_eq.mpr c9;clear c9;obtain rfl:=Option.some.inj H;go_enter Try.func119,Try.ntmps119;go_wp2;go_ret;exact ⟨by first|rfl|(simp;done)|(simp [*];done),by repeat (first|exact ic.refl _|apply ic.step)⟩
      ·rw [if_neg c9] at H;have Hw:(a1 == a2)=false:=beq_eq_false_iff_ne.mpr c9;have qE:(a1 != a2)=true:=bne_iff_ne.mpr c9;obtain rfl:=Option.some.inj H;go_enter Try.func119,Try.ntmps119;go_wp2;go_ret;exact ⟨by first|rfl|(simp;done)|(simp [*];done),by repeat (first|exact ic.refl _|apply ic.step)⟩
     ·rw [if_neg c8] at H;have Gp:(a0.toList == ([61,61]:List UInt8))=false:=beq_eq_false_iff_ne.mpr c8;have fy:(a0.toList != ([61,61]:List UInt8))=true:=bne_iff_ne.mpr c8
      by_cases Fs:a0.toList=([60]:List UInt8)
      ·rw [if_pos Fs] at H;have KA:(a0.toList == ([60]:List UInt8))=true:=beq_iff_eq.mpr Fs;have JA:(a0.toList != ([60]:List UInt8))=false:=bne_eq_false_iff_eq.mpr Fs;clear Fs
       by_cases IA:a1 < a2
       ·rw [if_pos IA] at H;have rG:decide (a1 < a2)=true:=decide_eq_true IA;clear IA;obtain rfl:=Option.some.inj H;go_enter Try.func119,Try.ntmps119;go_wp2;go_ret;exact ⟨by first|rfl|(simp;done)|(simp [*];done),by repeat (first|exact ic.refl _|apply ic.step)⟩
       ·rw [if_neg IA] at H;have rG:decide (a1 < a2)=false:=decide_eq_false IA;clear IA;obtain rfl:=Option.some.inj H;go_enter Try.func119,Try.ntmps119;go_wp2;go_ret;exact ⟨by first|rfl|(simp;done)|(simp [*];done),by repeat (first|exact ic.refl _|apply ic.step)⟩
      ·rw [if_neg Fs] at H;have KA:(a0.toList == ([60]:List UInt8))=false:=beq_eq_false_iff_ne.mpr Fs;have JA:(a0.toList != ([60]:List UInt8))=true:=bne_iff_ne.mpr Fs;obtain rfl:=Option.some.inj H;go_enter Try.func119,Try.ntmps119;go_wp2;go_ret;exact ⟨by first|rfl|(simp;done)|(simp [*];done),by repeat (first|exact ic.refl _|apply ic.step)⟩
def NA (t:ByteArray) (a b:Int):Int:=(Dp.f t a b).getD 0
theorem vG (t:ByteArray) (a b:Int):Dp.f t a b=some (NA t a b):=by
 unfold NA Dp.f
 repeat' split
 all_goals rfl
theorem sW (t:ByteArray) (a b:Int) (w:World):Calls Try.prog 119 #[.string t,.int .i64 a,.int .i64 b] w fun e w'=>e = .returned (.int .i64 (NA t a b))∧ic w w':=Dp.calls t a b _ w (vG t a b)
theorem Rz (t:ByteArray) (a b:Int):Lm.f t a b=some (NA t a b):=by
 rw [← vG]
 rfl
theorem tW (t:ByteArray) (a b:Int):(Lit.int .i64 (NA t a b)).wf=true:=by
 have h:=Rz t a b;unfold Lm.f at h;generalize NA t a b=v at h;have k0:(Lit.int .i64 0).wf=true:=by decide
 have k1:(Lit.int .i64 1).wf=true:=by decide
 repeat' split at h
 all_goals
  obtain rfl:=Option.some.inj h
  first|exact k0|exact k1|exact RowKit.wrap64_wf _|exact wf_bits _ _ _ _
def Tp.f (dc:Int) (Ja:Int) (La:Int) (Pa:Int) (Mb:Int) (Cc:Int) (Ac:ByteArray):Option (Int):=if dc=4 then (some (-1)) else (if dc=6 then (some (-1)) else (some Ja))
theorem Tp.calls (dc:Int) (Ja:Int) (La:Int) (Pa:Int) (Mb:Int) (Cc:Int) (Ac:ByteArray) (r:Int) (w:World) (h:Tp.f dc Ja La Pa Mb Cc Ac=some r) :
  Calls Try.prog 91 #[.agg #[.int .i64 dc,.int .i64 Ja,.int .i64 La,.int .i64 Pa,.int .i64 Mb,.int .i64 Cc,.string Ac]] w fun e w'=>e = .returned (.int .i64 r)∧Below w.heap.size w w':=by
 have DF:=Try.underlying70;have HB:=ia.mk (Below.refl w.heap.size w);have H:(if dc=4 then (some (-1)) else (if dc=6 then (some (-1)) else (some Ja)))=some r:=h;clear h
 by_cases c2:dc=4
 ·rw [if_pos c2] at H;have gy:(dc == 4)=true:=beq_iff_eq.mpr c2;have rE:(dc != 4)=false:=bne_eq_false_iff_eq.mpr c2;clear c2;obtain rfl:=Option.some.inj H;go_enter Try.func91,Try.ntmps91;go_wp2_with (first|((with_reducible refine Ib (N:=1) rfl ?_);refine Gb ?hg (N:=1) ?hd (cs:=#[.int .i64 dc,.int .i64 Ja,.int .i64 La,.int .i64 Pa,.int .i64 Mb,.int .i64 Cc,.string Ac]) (t:=70) ?hr ?_;(case hd=>rfl);(case hg=>rfl);(case hr=>first|(go_simp;done)|(go_simp;rfl));intro Da hg w3 Vb hb;have Kb:=ia.mk (Ra (by repeat (first|(with_reducible first|exact HB.out|apply ta|apply ja|apply ua)|exact HB.out)) hb);have Ub:=ia.mk (Vb);have qc:=ia.mk ((by rw [hg];exact (Sa (by repeat (first|(with_reducible first|exact HB.out|apply ta|apply ja|apply ua)|exact HB.out))):w.heap.size ≤ Da));have Rc:=ia.mk ((by rw [hg];exact (Sa (by repeat (first|(with_reducible first|exact HB.out|apply ta|apply ja|apply ua)|exact HB.out))):w.heap.size ≤ Da));clear HB;have HB:=Kb;have qa:=Ub;have De:=qc;have Wa:=Rc;clear Kb Ub qc Rc hb Vb hg;have Q1:w3.cell? ⟨Da,0,none⟩=some (.int .i64 dc):=(ga qa.out 0).trans rfl;have P1:w3.cell? ⟨Da,1,none⟩=some (.int .i64 Ja):=(ga qa.out 1).trans rfl;have O1:w3.cell? ⟨Da,2,none⟩=some (.int .i64 La):=(ga qa.out 2).trans rfl;have N1:w3.cell? ⟨Da,3,none⟩=some (.int .i64 Pa):=(ga qa.out 3).trans rfl;have L1:w3.cell? ⟨Da,4,none⟩=some (.int .i64 Mb):=(ga qa.out 4).trans rfl;have K1:w3.cell? ⟨Da,5,none⟩=some (.int .i64 Cc):=(ga qa.out 5).trans rfl;have J1:w3.cell? ⟨Da,6,none⟩=some (.string Ac):=(ga qa.out 6).trans rfl;have P0:=aa qa.out 0;have O0:=aa qa.out 1;have N0:=aa qa.out 2;have M0:=aa qa.out 3;have L0:=aa qa.out 4;have K0:=aa qa.out 5;have I0:=aa qa.out 6));go_ret;exact ⟨by first|rfl|(simp [Na,Ma] <;> rfl)|(simp [*,Na,Ma] <;> rfl),by repeat (first|(with_reducible first|exact HB.out|apply ta|apply ja|apply ua|refine Aa ?_ Wa.out)|exact HB.out)⟩
 ·rw [if_neg c2] at H;have gy:(dc == 4)=false:=beq_eq_false_iff_ne.mpr c2;have rE:(dc != 4)=true:=bne_iff_ne.mpr c2
  by_cases c5:dc=6
  ·rw [if_pos c5] at H;have en:(dc == 6)=true:=beq_iff_eq.mpr c5;have Nq:(dc != 6)=false:=bne_eq_false_iff_eq.mpr c5;clear c5;obtain rfl:=Option.some.inj H;go_enter Try.func91,Try.ntmps91;go_wp2_with (first|((with_reducible refine Ib (N:=1) rfl ?_);refine Gb ?hg (N:=1) ?hd (cs:=#[.int .i64 dc,.int .i64 Ja,.int .i64 La,.int .i64 Pa,.int .i64 Mb,.int .i64 Cc,.string Ac]) (t:=70) ?hr ?_;(case hd=>rfl);(case hg=>rfl);(case hr=>first|(go_simp;done)|(go_simp;rfl));intro Da hg w6 Vb hb;have Kb:=ia.mk (Ra (by repeat (first|(with_reducible first|exact HB.out|apply ta|apply ja|apply ua)|exact HB.out)) hb);have Ub:=ia.mk (Vb);have qc:=ia.mk ((by rw [hg];exact (Sa (by repeat (first|(with_reducible first|exact HB.out|apply ta|apply ja|apply ua)|exact HB.out))):w.heap.size ≤ Da));have Rc:=ia.mk ((by rw [hg];exact (Sa (by repeat (first|(with_reducible first|exact HB.out|apply ta|apply ja|apply ua)|exact HB.out))):w.heap.size ≤ Da));clear HB;have HB:=Kb;have qa:=Ub;have De:=qc;have Wa:=Rc;clear Kb Ub qc Rc hb Vb hg;have uA:w6.cell? ⟨Da,0,none⟩=some (.int .i64 dc):=(ga qa.out 0).trans rfl;have tA:w6.cell? ⟨Da,1,none⟩=some (.int .i64 Ja):=(ga qa.out 1).trans rfl;have sA:w6.cell? ⟨Da,2,none⟩=some (.int .i64 La):=(ga qa.out 2).trans rfl;have rA:w6.cell? ⟨Da,3,none⟩=some (.int .i64 Pa):=(ga qa.out 3).trans rfl;have qA:w6.cell? ⟨Da,4,none⟩=some (.int .i64 Mb):=(ga qa.out 4).trans rfl;have sP:w6.cell? ⟨Da,5,none⟩=some (.int .i64 Cc):=(ga qa.out 5).trans rfl;have rP:w6.cell? ⟨Da,6,none⟩=some (.string Ac):=(ga qa.out 6).trans rfl;have oA:=aa qa.out 0;have nA:=aa qa.out 1;have mA:=aa qa.out 2;have lA:=aa qa.out 3;have kA:=aa qa.out 4;have RO:=aa qa.out 5;have QO:=aa qa.out 6));go_ret;exact ⟨by first|rfl|(simp [Na,Ma] <;> rfl)|(simp [*,Na,Ma] <;> rfl),by repeat (first|(with_reducible first|exact HB.out|apply ta|apply ja|apply ua|refine Aa ?_ Wa.out)|exact HB.out)⟩
  ·rw [if_neg c5] at H;have en:(dc == 6)=false:=beq_eq_false_iff_ne.mpr c5;have Nq:(dc != 6)=true:=bne_iff_ne.mpr c5;obtain rfl:=Option.some.inj H;go_enter Try.func91,Try.ntmps91;go_wp2_with (first|((with_reducible refine Ib (N:=1) rfl ?_);refine Gb ?hg (N:=1) ?hd (cs:=#[.int .i64 dc,.int .i64 Ja,.int .i64 La,.int .i64 Pa,.int .i64 Mb,.int .i64 Cc,.string Ac]) (t:=70) ?hr ?_;(case hd=>rfl);(case hg=>rfl);(case hr=>first|(go_simp;done)|(go_simp;rfl));intro Da hg w8 Vb hb;have Kb:=ia.mk (Ra (by repeat (first|(with_reducible first|exact HB.out|apply ta|apply ja|apply ua)|exact HB.out)) hb);have Ub:=ia.mk (Vb);have qc:=ia.mk ((by rw [hg];exact (Sa (by repeat (first|(with_reducible first|exact HB.out|apply ta|apply ja|apply ua)|exact HB.out))):w.heap.size ≤ Da));have Rc:=ia.mk ((by rw [hg];exact (Sa (by repeat (first|(with_reducible first|exact HB.out|apply ta|apply ja|apply ua)|exact HB.out))):w.heap.size ≤ Da));clear HB;have HB:=Kb;have qa:=Ub;have De:=qc;have Wa:=Rc;clear Kb Ub qc Rc hb Vb hg;have Ax:w8.cell? ⟨Da,0,none⟩=some (.int .i64 dc):=(ga qa.out 0).trans rfl;have zx:w8.cell? ⟨Da,1,none⟩=some (.int .i64 Ja):=(ga qa.out 1).trans rfl;have yx:w8.cell? ⟨Da,2,none⟩=some (.int .i64 La):=(ga qa.out 2).trans rfl;have xx:w8.cell? ⟨Da,3,none⟩=some (.int .i64 Pa):=(ga qa.out 3).trans rfl;have ux:w8.cell? ⟨Da,4,none⟩=some (.int .i64 Mb):=(ga qa.out 4).trans rfl;have I1:w8.cell? ⟨Da,5,none⟩=some (.int .i64 Cc):=(ga qa.out 5).trans rfl;have G1:w8.cell? ⟨Da,6,none⟩=some (.string Ac):=(ga qa.out 6).trans rfl;have qx:=aa qa.out 0;have ox:=aa qa.out 1;have jx:=aa qa.out 2;have dx:=aa qa.out 3;have cx:=aa qa.out 4;have G0:=aa qa.out 5;have C0:=aa qa.out 6));go_ret;exact ⟨by first|rfl|(simp [Na,Ma] <;> rfl)|(simp [*,Na,Ma] <;> rfl),by repeat (first|(with_reducible first|exact HB.out|apply ta|apply ja|apply ua|refine Aa ?_ Wa.out)|exact HB.out)⟩
def Th (x:ue):Int:=if x.f0=4 then -1 else if x.f0=6 then -1 else x.f1
theorem sM (x:ue) (w:World):Calls Try.prog 91 #[.agg #[.int .i64 x.f0,.int .i64 x.f1,.int .i64 x.f2,.int .i64 x.f3,.int .i64 x.f4,.int .i64 x.f5,.string x.f6]] w fun e w'=>e = .returned (.int .i64 (Th x))∧Below w.heap.size w w' :=
 Tp.calls _ _ _ _ _ _ _ _ w (by
  unfold Tp.f Th
  split
  ·rfl
  ·split <;> rfl)
def Mp (f:Int→Option Int) (q:Int) (v:Option Int):Int→Option Int:=fun j=>if j=q then v else f j
def Xg (f:Int→Option Int) (x:ue):ue :=
 if x.f0=1∧(f x.f2).isSome=true then ⟨0,x.f1,0,0,0,(f x.f2).getD 0,(⟨#[]⟩:ByteArray)⟩
 else if x.f0=2∧(f x.f2).isSome=true∧(f x.f3).isSome=true then ⟨0,x.f1,0,0,0,NA x.f6 ((f x.f2).getD 0) ((f x.f3).getD 0),(⟨#[]⟩:ByteArray)⟩
 else x
def Fk (f:Int→Option Int) (y:ue):Int→Option Int :=
 if y.f0=0 then Mp (if Th y < 0 then f else Mp f (Th y) none) y.f1 (some y.f5) else if Th y < 0 then f else Mp f (Th y) none
def GX (s:Int) (x:ue):Bool :=
 decide ((x.f0=1 ∨ x.f0=2→0 ≤ x.f2∧x.f2 < s)∧(x.f0=2→0 ≤ x.f3∧x.f3 < s)∧(¬ x.f0=4∧¬ x.f0=6→0 ≤ x.f1∧x.f1 < s)∧(-1 ≤ x.f1∧x.f1 ≤ 1000)∧(-1 ≤ x.f2∧x.f2 ≤ 1000)∧(-1 ≤ x.f3∧x.f3 ≤ 1000)) && (Lit.int .i64 x.f5).wf
def ku (W:World) (b n:Nat) (f:Int→Option Int):Prop :=
 ∃ D:DataW Unit,W.ownsMap Try.prog 3 (plainElem Try.prog 3) b n D∧∀ q:Int,(Lit.int .i64 q).wf=true→Maps.has D (.int .i64 q)=(f q).isSome∧∀ v,f q=some v→D.atKey (.int .i64 q) (.lit (.int .i64 0)) = .lit (.int .i64 v)
theorem DS (w:World):(zeroValue 3).run Try.prog w = .ok (.int .i64 0) w:=by kernel_rfl
theorem nO {q:Int} (h:(Lit.int .i64 q).wf=true):WideAt.IsKeyLit (.int .i64 q):=by trivial
section
variable {W W2:World} {b n:Nat} {f:Int→Option Int}
theorem ku.made (w:World):ku (w.alloc (.map #[] 0)) w.heap.size 0 (fun _=>none) :=
 ⟨_,World.ownsMap_made w _ _ _,fun q _=>⟨rfl,fun v h=>by cases h⟩⟩
theorem ku.kept {row:Option Nat} (h:ku W b n f) (hg:W.grownBy W2 row) (hne:some b ≠ row):ku W2 b n f:=by
 obtain ⟨D,h1,h2⟩:=h;exact ⟨D,h1.kept hg hne,h2⟩
theorem ku.step (h:ku W b n f) (hm:W2.heap[b]? = W.heap[b]?):ku W2 b n f:=by
 obtain ⟨D,⟨es,clock,hb,r⟩,h2⟩:=h;exact ⟨D,⟨es,clock,hm.trans hb,r⟩,h2⟩
theorem ku.lt (h:ku W b n f):b < W.heap.size:=by
 obtain ⟨D,h1,_⟩:=h;exact h1.lt
theorem ku.below (h:ku W b n f) (hb:Below W.heap.size W W2):ku W2 b n f:=h.step (hb.block b h.lt)
theorem ku.mono {n':Nat} (h:ku W b n f) (hn:n ≤ n'):ku W b n' f:=by
 obtain ⟨D,h1,h2⟩:=h;exact ⟨D,h1.mono hn,h2⟩
theorem KN (h:ku W b n f) (D:DataW Unit) (hD:∀ q:Int,(Lit.int .i64 q).wf=true→Maps.has D (.int .i64 q)=(f q).isSome∧∀ v,f q=some v→D.atKey (.int .i64 q) (.lit (.int .i64 0)) = .lit (.int .i64 v)) (s:Int) :
  ∀ q:Int,(Lit.int .i64 q).wf=true→Maps.has (D.del (.int .i64 s)) (.int .i64 q)=(Mp f s none q).isSome∧∀ v,Mp f s none q=some v→(D.del (.int .i64 s)).atKey (.int .i64 q) (.lit (.int .i64 0)) = .lit (.int .i64 v):=by
 intro q hq;unfold Mp
 by_cases e:q=s
 ·subst e;rw [if_pos rfl];exact ⟨Maps.has_del_same,fun v h=>by cases h⟩
 ·rw [if_neg e];have hne:(Lit.int .i64 q) ≠ .int .i64 s:=fun h=>e (by injection h)
  rw [Maps.has_del_other hne,Maps.atKey_del_other hne];exact hD q hq
theorem JN (D:DataW Unit) (hm:Maps.IsMap D) (hD:∀ q:Int,(Lit.int .i64 q).wf=true→Maps.has D (.int .i64 q)=(f q).isSome∧∀ v,f q=some v→D.atKey (.int .i64 q) (.lit (.int .i64 0)) = .lit (.int .i64 v)) (s c:Int) (hs:(Lit.int .i64 s).wf=true) :
  ∀ q:Int,(Lit.int .i64 q).wf=true→Maps.has (D.put (.int .i64 s) (.lit (.int .i64 c))) (.int .i64 q)=(Mp f s (some c) q).isSome∧∀ v,Mp f s (some c) q=some v→(D.put (.int .i64 s) (.lit (.int .i64 c))).atKey (.int .i64 q) (.lit (.int .i64 0)) = .lit (.int .i64 v):=by
 intro q hq;unfold Mp
 by_cases e:q=s
 ·subst e;rw [if_pos rfl];refine ⟨Maps.has_put_same hm (nO hq) _,fun v h=>?_⟩;cases h;exact Maps.atKey_put_same hm (nO hq) _ _
 ·rw [if_neg e];have hne:(Lit.int .i64 q) ≠ .int .i64 s:=fun h=>e (by injection h)
  rw [Maps.has_put_other hne,Maps.atKey_put_other hne];exact hD q hq
end
section
variable {ops:Array Oper} {rest:List Oper} {o:Oper} {a:Act} {Q:Exit→Act→World→Prop} {W:World} {b n:Nat} {f:Int→Option Int}
theorem Ft (h:ku W b n f) (hg:o.guard=none) (m x:Operand) (t:TypeId) (hop:o.op=Op.lookup t m x true) (ht:Try.prog.underlying t=some (.map 3 3)) (hm:a.eval m = .map (some b)) (q:Int) (hx:a.eval x = .int .i64 q) (hq:(Lit.int .i64 q).wf=true) (v:Int) (ok:Bool) (hv:(f q).getD 0=v) (hok:(f q).isSome=ok)
  (hK:(Lit.int .i64 v).wf=true→wpList Try.prog ops Q rest (a.put o.dst (.tuple #[.int .i64 v,.bool ok])) W):wpList Try.prog ops Q (o :: rest) a W:=by
 obtain ⟨D,h1,h2⟩:=h;obtain ⟨e1,e2⟩:=h2 q hq;refine wpList_lookup_own_ok_int W hg m x t hop 3 3 .i64 (Maps.int_keyed Try.underlying3) ht Try.underlying3 (DS W) b n D hm h1 _ (.int .i64 q) hx (Maps.keyOf_int_mk Try.underlying3 hq) (fun c hc hcw=>?_)
 have hcv:c=v:=by
  cases hf:f q with
  | none =>
   rw [hf] at e1 hv;rw [Maps.atKey_of_not_has e1] at hc;simp at hc hv;omega
  | some u =>
   rw [e2 u hf] at hc;rw [hf] at hv;simp at hc hv;omega
 rw [hcv,e1,hok];exact hK (hcv ▸ hcw)
theorem kM (h:ku W b n f) (hg:o.guard=none) (m x:Operand) (t:TypeId) (hop:o.op=Op.call { callee:=Callee.builtin Builtin.delete,args:=#[m,x],argTypes:=#[t,3] }) (ht:Try.prog.underlying t=some (.map 3 3)) (hm:a.eval m = .map (some b)) (q:Int) (hx:a.eval x = .int .i64 q) (hq:(Lit.int .i64 q).wf=true)
  (hK:∀ w',ku w' b n (Mp f q none)→W.grownBy w' (some b)→wpList Try.prog ops Q rest (a.put o.dst (.tuple #[])) w'):wpList Try.prog ops Q (o :: rest) a W:=by
 obtain ⟨D,h1,h2⟩:=h;refine wpList_delete_own W hg m x t 3 hop 3 (Maps.int_keyed Try.underlying3) ht _ b n D hm h1 _ (.int .i64 q) hx (Maps.keyOf_int_mk Try.underlying3 hq) (fun w' h3 h4=>hK w' ⟨_,h3,?_⟩ h4.grown);exact KN ⟨D,h1,h2⟩ D h2 q
theorem DB (h:ku W b n f) (hg:o.guard=none) (m x v:Operand) (t:TypeId) (hop:o.op=Op.mapUpdate t m x v) (ht:Try.prog.underlying t=some (.map 3 3)) (hn:n < maxLen) (hm:a.eval m = .map (some b)) (q c:Int) (hx:a.eval x = .int .i64 q) (hv:a.eval v = .int .i64 c) (hq:(Lit.int .i64 q).wf=true) (hc:(Lit.int .i64 c).wf=true)
  (hK:∀ w',ku w' b (n + 1) (Mp f q (some c))→W.grownBy w' (some b)→wpList Try.prog ops Q rest (a.put o.dst undef) w'):wpList Try.prog ops Q (o :: rest) a W:=by
 obtain ⟨D,h1,h2⟩:=h;refine wpList_mapUpdate_own W hg m x v t hop 3 3 (Maps.int_keyed Try.underlying3) ht _ b n D hm h1 hn _ _ (.int .i64 q) hx hv (Maps.keyOf_int_mk Try.underlying3 hq) _ [] (plainElem_int Try.underlying3 hc) (fun w' h3 h4=>hK w' ⟨_,h3,?_⟩ h4);exact JN D h1.isMap h2 q c hq
end
end Go.Proofs.Ytmifdccaajngcaa.P
end
section
namespace Go.Proofs.Ytmifdccaajngcaa.P
open Go.RowKit Go.Proofs.Ka.Rb Go.Proofs.Ka.Vd Go.Proofs.Ka.ef
set_option linter.unusedVariables false
set_option linter.unusedSimpArgs false
structure LG (w0 w:World) (P_:Nat→Prop) (A:Option Addr) (n c bm m:Nat) (f:Int→Option Int) (xs:List ue) (W:World):Prop where
 x:Kd.R Di 70 W w0.heap.size (fun k_=>P_ k_∧k_ < w.heap.size∧k_ ≠ bm) (.slice A n c) xs
 mp:ku W bm m f
 bl:Below w0.heap.size w0 W
 k:Kept w W (fun k_=>P_ k_ ∨ k_=bm)
 ne:w0.heap.size ≤ bm∧bm < w.heap.size
section
variable {w0 w W W2:World} {P_:Nat→Prop} {gb n c bm m m2:Nat} {A:Option Addr} {f f2:Int→Option Int} {xs:List ue}
theorem LG.below (h:LG w0 w P_ A n c bm m f xs W) (hb:Below W.heap.size W W2):LG w0 w P_ A n c bm m f xs W2 :=
 ⟨Kd.Dc h.x hb,h.mp.below hb,Ra h.bl hb,h.k.below hb,h.ne⟩
theorem LG.turn (h:LG w0 w P_ A n c bm m f xs W) (hm:ku W2 bm m2 f2) (hb:Below w0.heap.size w0 W2) (hk:Kept W W2 (fun k_=>k_=bm)):LG w0 w P_ A n c bm m2 f2 xs W2 :=
 ⟨Kd.Ql h.x hk (fun k_ h1 h2=>h1.2.2 h2),hm,hb,h.k.yp hk (fun k_ e=>Or.inl (Or.inr e)),h.ne⟩
theorem LG.cells (h:LG w0 w P_ A n c bm m f xs W) (j:Nat) (hj:j < n):∃ gb,A=some ⟨gb,0,none⟩ ∧
  (∀ (q:Nat) (u:Value),[Value.int .i64 (Ia xs (j:Int)).f0,.int .i64 (Ia xs (j:Int)).f1,.int .i64 (Ia xs (j:Int)).f2,.int .i64 (Ia xs (j:Int)).f3,.int .i64 (Ia xs (j:Int)).f4,.int .i64 (Ia xs (j:Int)).f5,.string (Ia xs (j:Int)).f6][q]? = some u→W.cell? ⟨gb,j * 7 + q,none⟩=some u)∧∀ q,W.frozen? ⟨gb,j * 7 + q,none⟩=false:=by
 have hx:=h.x;obtain ⟨e1,_,hC⟩:=Kd.oc hx;obtain ⟨ad,e2,_⟩:=kf hC (j:Int) (by omega) (by omega);subst e2;obtain ⟨gb,rfl⟩:=Kd.CE hx;obtain ⟨cs,MM,hM,Aq,IP⟩:=Kd.Wi hx yq (j:Int) (by omega) (by omega);obtain rfl:=eA (Kd.Ig _ hM);simp only [Int.toNat_natCast,show Di.sz=7 from rfl] at Aq IP;exact ⟨gb,rfl,Aq,IP⟩
theorem LG.elem (h:LG w0 w P_ (some ⟨gb,0,none⟩) n c bm m f xs W) (j:Nat) (hj:j < n) (x:ue) (hx:Ia xs (j:Int)=x):W.cell? ⟨gb,j * 7,none⟩=some (.int .i64 x.f0)∧W.cell? ⟨gb,j * 7 + 1,none⟩=some (.int .i64 x.f1)∧W.cell? ⟨gb,j * 7 + 2,none⟩=some (.int .i64 x.f2)∧W.cell? ⟨gb,j * 7 + 3,none⟩=some (.int .i64 x.f3)∧W.cell? ⟨gb,j * 7 + 4,none⟩=some (.int .i64 x.f4)∧W.cell? ⟨gb,j * 7 + 5,none⟩=some (.int .i64 x.f5)∧W.cell? ⟨gb,j * 7 + 6,none⟩=some (.string x.f6):=by
 obtain ⟨gb',e,hc,hf⟩:=h.cells j hj;injection e with e
 injection e with e
 subst e hx;exact ⟨hc 0 _ rfl,hc 1 _ rfl,hc 2 _ rfl,hc 3 _ rfl,hc 4 _ rfl,hc 5 _ rfl,hc 6 _ rfl⟩
theorem LG.frozen (h:LG w0 w P_ (some ⟨gb,0,none⟩) n c bm m f xs W) (j:Nat) (hj:j < n):W.frozen? ⟨gb,j * 7,none⟩=false∧W.frozen? ⟨gb,j * 7 + 1,none⟩=false∧W.frozen? ⟨gb,j * 7 + 2,none⟩=false∧W.frozen? ⟨gb,j * 7 + 3,none⟩=false∧W.frozen? ⟨gb,j * 7 + 4,none⟩=false∧W.frozen? ⟨gb,j * 7 + 5,none⟩=false∧W.frozen? ⟨gb,j * 7 + 6,none⟩=false:=by
 obtain ⟨gb',e,_,hf⟩:=h.cells j hj;injection e with e
 injection e with e
 subst e;exact ⟨hf 0,hf 1,hf 2,hf 3,hf 4,hf 5,hf 6⟩
theorem LG.put (h:LG w0 w P_ (some ⟨gb,0,none⟩) n c bm m f xs W) (j:Nat) (hj:j < n) (x':ue) :
  LG w0 w P_ (some ⟨gb,0,none⟩) n c bm m f (xs.set j x') (((((((W.setCell ⟨gb,j * 7,none⟩ (.int .i64 x'.f0)).setCell ⟨gb,j * 7 + 1,none⟩ (.int .i64 x'.f1)).setCell ⟨gb,j * 7 + 2,none⟩ (.int .i64 x'.f2)).setCell ⟨gb,j * 7 + 3,none⟩ (.int .i64 x'.f3)).setCell ⟨gb,j * 7 + 4,none⟩ (.int .i64 x'.f4)).setCell ⟨gb,j * 7 + 5,none⟩ (.int .i64 x'.f5)).setCell ⟨gb,j * 7 + 6,none⟩ (.string x'.f6)):=by
 obtain ⟨gb',e,hc,_⟩:=h.cells j hj;injection e with e
 injection e with e
 subst e;have hs:=Kd.Oq h.x (j:Int) (by omega) (by omega) (seg:=[.int .i64 x'.f0,.int .i64 x'.f1,.int .i64 x'.f2,.int .i64 x'.f3,.int .i64 x'.f4,.int .i64 x'.f5,.string x'.f6]) (c:=[Value.int .i64 (Ia xs (j:Int)).f0,.int .i64 (Ia xs (j:Int)).f1,.int .i64 (Ia xs (j:Int)).f2,.int .i64 (Ia xs (j:Int)).f3,.int .i64 (Ia xs (j:Int)).f4,.int .i64 (Ia xs (j:Int)).f5,.string (Ia xs (j:Int)).f6]) (j:=0) rfl (fun q u hq=>by rw [Int.toNat_natCast];exact hc q u hq) (show 0 + 7 ≤ 7 by decide) (x':=x') (zk:=fun _=>False) (Uk _ _ _ x') (fun _ hk=>hk.elim);simp only [Int.toNat_natCast,show Di.sz=7 from rfl,Nat.add_zero] at hs;have hg:=h.x.1 gb rfl;have S5:=Kd.VA h.x gb rfl;exact ⟨hs.1,h.mp.kept hs.2 (fun e=>by injection e with e;exact hg.2.2 e.symm),h.bl.grown hs.2 h.bl.size (fun k_ e=>by injection e with e;rw [← e];exact S5),Kept.Pg hs.2 h.k (fun k_ e=>Or.inl (by injection e with e;rw [← e];exact Or.inl hg.1)),h.ne⟩
end
end Go.Proofs.Ytmifdccaajngcaa.P
end
section
namespace Go.Proofs.Ytmifdccaajngcaa.P
open Go.RowKit Go.Proofs.Ka.Rb Go.Proofs.Ka.Vd Go.Proofs.Ka.ef
set_option linter.unusedVariables false
set_option linter.unusedSimpArgs false
theorem Cp {W:World} {z:Nat} {u0 u1 u2 u3 u4 u5 u6:Value} (y:ue) (h:W.heap[z]? = some (.cells #[u0,u1,u2,u3,u4,u5,u6] 70 (0,0))) :
  (((((((W.setCell ⟨z,0,none⟩ (.int .i64 y.f0)).setCell ⟨z,1,none⟩ (.int .i64 y.f1)).setCell ⟨z,2,none⟩ (.int .i64 y.f2)).setCell ⟨z,3,none⟩ (.int .i64 y.f3)).setCell ⟨z,4,none⟩ (.int .i64 y.f4)).setCell ⟨z,5,none⟩ (.int .i64 y.f5)).setCell ⟨z,6,none⟩ (.string y.f6)).heap[z]? = some (.cells #[.int .i64 y.f0,.int .i64 y.f1,.int .i64 y.f2,.int .i64 y.f3,.int .i64 y.f4,.int .i64 y.f5,.string y.f6] 70 (0,0))∧Kept W (((((((W.setCell ⟨z,0,none⟩ (.int .i64 y.f0)).setCell ⟨z,1,none⟩ (.int .i64 y.f1)).setCell ⟨z,2,none⟩ (.int .i64 y.f2)).setCell ⟨z,3,none⟩ (.int .i64 y.f3)).setCell ⟨z,4,none⟩ (.int .i64 y.f4)).setCell ⟨z,5,none⟩ (.int .i64 y.f5)).setCell ⟨z,6,none⟩ (.string y.f6)) (fun k=>k=z)∧∀ {B:Nat} {w0:World},Below B w0 W→B ≤ z→Below B w0 (((((((W.setCell ⟨z,0,none⟩ (.int .i64 y.f0)).setCell ⟨z,1,none⟩ (.int .i64 y.f1)).setCell ⟨z,2,none⟩ (.int .i64 y.f2)).setCell ⟨z,3,none⟩ (.int .i64 y.f3)).setCell ⟨z,4,none⟩ (.int .i64 y.f4)).setCell ⟨z,5,none⟩ (.int .i64 y.f5)).setCell ⟨z,6,none⟩ (.string y.f6)):=by
 refine ⟨?_,?_,fun hB hz=>((((((hB.setCell hz _).setCell hz _).setCell hz _).setCell hz _).setCell hz _).setCell hz _).setCell hz _⟩
 ·exact jb (cs:=#[(.int .i64 y.f0),(.int .i64 y.f1),(.int .i64 y.f2),(.int .i64 y.f3),(.int .i64 y.f4),(.int .i64 y.f5),u6]) (jb (cs:=#[(.int .i64 y.f0),(.int .i64 y.f1),(.int .i64 y.f2),(.int .i64 y.f3),(.int .i64 y.f4),u5,u6]) (jb (cs:=#[(.int .i64 y.f0),(.int .i64 y.f1),(.int .i64 y.f2),(.int .i64 y.f3),u4,u5,u6]) (jb (cs:=#[(.int .i64 y.f0),(.int .i64 y.f1),(.int .i64 y.f2),u3,u4,u5,u6]) (jb (cs:=#[(.int .i64 y.f0),(.int .i64 y.f1),u2,u3,u4,u5,u6]) (jb (cs:=#[(.int .i64 y.f0),u1,u2,u3,u4,u5,u6]) (jb (cs:=#[u0,u1,u2,u3,u4,u5,u6]) (h) 0 _ rfl) 1 _ rfl) 2 _ rfl) 3 _ rfl) 4 _ rfl) 5 _ rfl) 6 _ rfl
 ·exact Kept.setCell (S:=fun k=>k=z) (p:=⟨z,6,none⟩) (Kept.setCell (S:=fun k=>k=z) (p:=⟨z,5,none⟩) (Kept.setCell (S:=fun k=>k=z) (p:=⟨z,4,none⟩) (Kept.setCell (S:=fun k=>k=z) (p:=⟨z,3,none⟩) (Kept.setCell (S:=fun k=>k=z) (p:=⟨z,2,none⟩) (Kept.setCell (S:=fun k=>k=z) (p:=⟨z,1,none⟩) (Kept.setCell (S:=fun k=>k=z) (p:=⟨z,0,none⟩) (Kept.refl _ _) (Or.inl rfl) _) (Or.inl rfl) _) (Or.inl rfl) _) (Or.inl rfl) _) (Or.inl rfl) _) (Or.inl rfl) _) (Or.inl rfl) _
structure KG (w0 w:World) (b n:Nat) (f:Int→Option Int) (q:Nat) (y:ue) (W:World):Prop where
 m:ku W b n f
 bl:Below w0.heap.size w0 W
 k:Kept w W (fun k=>k=b)
 x:W.heap[q]? = some (.cells #[.int .i64 y.f0,.int .i64 y.f1,.int .i64 y.f2,.int .i64 y.f3,.int .i64 y.f4,.int .i64 y.f5,.string y.f6] 70 (0,0))
 r:W.heap[q + 1]? = some (.cells #[.int .i64 0,.int .i64 0,.int .i64 0,.int .i64 0,.int .i64 0,.int .i64 0,.string (⟨#[]⟩:ByteArray)] 70 (0,0))
 ne:b < q∧w0.heap.size ≤ b∧w0.heap.size ≤ q∧w.heap.size ≤ q
section
variable {w0 w W W2:World} {b n q:Nat} {f:Int→Option Int} {x y:ue}
theorem KG.below (h:KG w0 w b n f q y W) (hb:Below W.heap.size W W2):KG w0 w b n f q y W2:=⟨h.m.below hb,Ra h.bl hb,h.k.below hb,Ta h.x hb,Ta h.r hb,h.ne⟩
theorem KG.turn {n':Nat} {f':Int→Option Int} (h:KG w0 w b n f q y W) (hm:ku W2 b n' f') (hg:W.grownBy W2 (some b)):KG w0 w b n' f' q y W2 :=
 ⟨hm,h.bl.grown hg h.bl.size (fun k_ e=>by injection e with e;have:=h.ne;omega),Kept.Pg hg h.k (fun k_ e=>Or.inl (by injection e with e;exact e.symm)),Oc h.x hg (fun e=>by injection e with e;have:=h.ne;omega),Oc h.r hg (fun e=>by injection e with e;have:=h.ne;omega),h.ne⟩
theorem KG.put (h:KG w0 w b n f q x W) (y:ue):KG w0 w b n f q y (((((((W.setCell ⟨q,0,none⟩ (.int .i64 y.f0)).setCell ⟨q,1,none⟩ (.int .i64 y.f1)).setCell ⟨q,2,none⟩ (.int .i64 y.f2)).setCell ⟨q,3,none⟩ (.int .i64 y.f3)).setCell ⟨q,4,none⟩ (.int .i64 y.f4)).setCell ⟨q,5,none⟩ (.int .i64 y.f5)).setCell ⟨q,6,none⟩ (.string y.f6)):=by
 obtain ⟨h1,h2,h3⟩:=Cp y h.x;have hne:=h.ne;exact ⟨h.m.step (h2.2 b h.m.lt (fun e=>by omega)),h3 h.bl (by omega),h.k.yp h2 (fun k e=>Or.inr (by omega)),h1,ie h.r h2 (fun e=>by omega),hne⟩
theorem KG.cells (h:KG w0 w b n f q y W):W.cell? ⟨q,0,none⟩=some (.int .i64 y.f0)∧W.cell? ⟨q,1,none⟩=some (.int .i64 y.f1)∧W.cell? ⟨q,2,none⟩=some (.int .i64 y.f2)∧W.cell? ⟨q,3,none⟩=some (.int .i64 y.f3)∧W.cell? ⟨q,4,none⟩=some (.int .i64 y.f4)∧W.cell? ⟨q,5,none⟩=some (.int .i64 y.f5)∧W.cell? ⟨q,6,none⟩=some (.string y.f6) :=
 ⟨(ga h.x 0).trans rfl,(ga h.x 1).trans rfl,(ga h.x 2).trans rfl,(ga h.x 3).trans rfl,(ga h.x 4).trans rfl,(ga h.x 5).trans rfl,(ga h.x 6).trans rfl⟩
theorem KG.frozen (h:KG w0 w b n f q y W):W.frozen? ⟨q,0,none⟩=false∧W.frozen? ⟨q,1,none⟩=false∧W.frozen? ⟨q,2,none⟩=false∧W.frozen? ⟨q,3,none⟩=false∧W.frozen? ⟨q,4,none⟩=false∧W.frozen? ⟨q,5,none⟩=false∧W.frozen? ⟨q,6,none⟩=false:=⟨aa h.x 0,aa h.x 1,aa h.x 2,aa h.x 3,aa h.x 4,aa h.x 5,aa h.x 6⟩
theorem KG.bC (h:KG w0 w b n f q y W):(W.cell? ⟨q + 1,0,none⟩=some (.int .i64 0)∧W.cell? ⟨q + 1,1,none⟩=some (.int .i64 0)∧W.cell? ⟨q + 1,2,none⟩=some (.int .i64 0)∧W.cell? ⟨q + 1,3,none⟩=some (.int .i64 0)∧W.cell? ⟨q + 1,4,none⟩=some (.int .i64 0)∧W.cell? ⟨q + 1,5,none⟩=some (.int .i64 0)∧W.cell? ⟨q + 1,6,none⟩=some (.string (⟨#[]⟩:ByteArray)))∧W.frozen? ⟨q + 1,0,none⟩=false∧W.frozen? ⟨q + 1,1,none⟩=false∧W.frozen? ⟨q + 1,2,none⟩=false∧W.frozen? ⟨q + 1,3,none⟩=false∧W.frozen? ⟨q + 1,4,none⟩=false∧W.frozen? ⟨q + 1,5,none⟩=false∧W.frozen? ⟨q + 1,6,none⟩=false :=
 ⟨⟨(ga h.r 0).trans rfl,(ga h.r 1).trans rfl,(ga h.r 2).trans rfl,(ga h.r 3).trans rfl,(ga h.r 4).trans rfl,(ga h.r 5).trans rfl,(ga h.r 6).trans rfl⟩,aa h.r 0,aa h.r 1,aa h.r 2,aa h.r 3,aa h.r 4,aa h.r 5,aa h.r 6⟩
end
end Go.Proofs.Ytmifdccaajngcaa.P
end
section
namespace Go.Proofs.Ytmifdccaajngcaa.P
open Go.RowKit Go.Proofs.Ka.Rb Go.Proofs.Ka.Vd Go.Proofs.Ka.ef
set_option linter.unusedVariables false
set_option linter.unusedSimpArgs false
theorem jE (x:ue) (f:Int→Option Int) (b n:Nat) (w0 w:World) (hB:Below w0.heap.size w0 w) (hM:ku w b n f) (hb:w0.heap.size ≤ b) (hn:n ≤ 9223372036854775806)
  (w1:(Lit.int .i64 x.f1).wf=true) (w2:(Lit.int .i64 x.f2).wf=true) (w3:(Lit.int .i64 x.f3).wf=true) (w5:(Lit.int .i64 x.f5).wf=true) :
  Calls Try.prog 105 #[.agg #[.int .i64 x.f0,.int .i64 x.f1,.int .i64 x.f2,.int .i64 x.f3,.int .i64 x.f4,.int .i64 x.f5,.string x.f6],.map (some b)] w fun e w'=>e = .returned (.agg #[.int .i64 (Xg f x).f0,.int .i64 (Xg f x).f1,.int .i64 (Xg f x).f2,.int .i64 (Xg f x).f3,.int .i64 (Xg f x).f4,.int .i64 (Xg f x).f5,.string (Xg f x).f6])∧ku w' b (n + 1) (Fk f (Xg f x))∧Below w0.heap.size w0 w'∧Kept w w' (fun k=>k=b):=by
 obtain ⟨W1,dg⟩:∃ W1,W1=(w.alloc (.cells #[.int .i64 x.f0,.int .i64 x.f1,.int .i64 x.f2,.int .i64 x.f3,.int .i64 x.f4,.int .i64 x.f5,.string x.f6] 70 (0,0))).alloc (.cells #[.int .i64 0,.int .i64 0,.int .i64 0,.int .i64 0,.int .i64 0,.int .i64 0,.string (⟨#[]⟩:ByteArray)] 70 (0,0)):=⟨_,rfl⟩;have HW:=ia.mk dg
 have HS:=ia.mk (show KG w0 w b n f w.heap.size x W1 from by
  have h1:=ta (ta (Below.refl w.heap.size w) (.cells #[.int .i64 x.f0,.int .i64 x.f1,.int .i64 x.f2,.int .i64 x.f3,.int .i64 x.f4,.int .i64 x.f5,.string x.f6] 70 (0,0))) (.cells #[.int .i64 0,.int .i64 0,.int .i64 0,.int .i64 0,.int .i64 0,.int .i64 0,.string (⟨#[]⟩:ByteArray)] 70 (0,0));have h2:=ri (w.alloc (.cells #[.int .i64 x.f0,.int .i64 x.f1,.int .i64 x.f2,.int .i64 x.f3,.int .i64 x.f4,.int .i64 x.f5,.string x.f6] 70 (0,0))) (.cells #[.int .i64 0,.int .i64 0,.int .i64 0,.int .i64 0,.int .i64 0,.int .i64 0,.string (⟨#[]⟩:ByteArray)] 70 (0,0));have h3:(w.alloc (.cells #[.int .i64 x.f0,.int .i64 x.f1,.int .i64 x.f2,.int .i64 x.f3,.int .i64 x.f4,.int .i64 x.f5,.string x.f6] 70 (0,0))).heap.size=w.heap.size + 1:=by simp
  rw [h3] at h2;rw [← dg] at h1 h2;have hlt:=hM.lt;have:=hB.size
  exact ⟨hM.below h1,Ra hB h1,(Kept.refl w _).below h1,by rw [dg];exact ya (ri _ _) _,h2,⟨hlt,hb,by omega,Nat.le_refl _⟩⟩)
 have HW1:=ia.mk w1;have HW2:=ia.mk w2;have HW3:=ia.mk w3;have HW5:=ia.mk w5;obtain ⟨va,SR⟩:∃ v,ia ((f x.f2).getD 0=v):=⟨_,⟨rfl⟩⟩;obtain ⟨oa,GG⟩:∃ v,ia ((f x.f2).isSome=v):=⟨_,⟨rfl⟩⟩;obtain ⟨vb,HVB⟩:∃ v,ia ((f x.f3).getD 0=v):=⟨_,⟨rfl⟩⟩;obtain ⟨ob,HOB⟩:∃ v,ia ((f x.f3).isSome=v):=⟨_,⟨rfl⟩⟩;clear hB hM hb w1 w2 w3 w5 dg;obtain ⟨hx0,hx1,cn,Zl,Zm,ju,iu⟩:=HS.out.cells;go_enter Try.func105,Try.ntmps105
 go_upto_region 1 with (fail)
 rw [← HW.out];clear HW
 go_upto_block 0 with (first|(at_lookup;refine Ft HS.out.m rfl (.tmp 11) (.tmp 13) _ rfl Try.underlying100 rfl x.f2 rfl HW2.out va oa SR.out GG.out ?_;intro hwa;have HWA:=ia.mk hwa;clear hwa)|(at_lookup;refine Ft HS.out.m rfl (.tmp 18) (.tmp 20) _ rfl Try.underlying100 rfl x.f3 rfl HW3.out vb ob HVB.out HOB.out ?_;intro hwb;have HWB:=ia.mk hwb;clear hwb))
 go_cut [24] from 24 to 53 (fun v24 wx=>ia (KG w0 w b n f w.heap.size (Xg f x) wx∧(Lit.int .i64 (Xg f x).f5).wf=true))
 case first =>
  by_cases o1:x.f0=1
  case pos =>
   have b1:(x.f0 == 1)=true:=beq_iff_eq.2 o1;have b2:(x.f0 == 2)=false:=beq_eq_false_iff_ne.2 (by omega);cases oa with
   | true =>
    have HE:=ia.mk (show Xg f x=(⟨0,x.f1,0,0,0,va,(⟨#[]⟩:ByteArray)⟩:ue) from by unfold Xg;rw [if_pos ⟨o1,GG.out⟩,SR.out]);obtain ⟨pK,tN,sN,rN,qN,U0,S0⟩:=HS.out.frozen;have HN:=ia.mk (HS.out.put (⟨0,x.f1,0,0,0,va,(⟨#[]⟩:ByteArray)⟩:ue));clear o1;go_wp2
    go_meet
    case rel=>exact ⟨by rw [HE.out];exact ⟨HN.out,HWA.out⟩⟩
   | false =>
    have HE:=ia.mk (show Xg f x=x from by unfold Xg;rw [if_neg (by rw [GG.out];simp),if_neg (by omega)]);clear o1;go_wp2
    go_meet
    case rel=>exact ⟨by rw [HE.out];exact ⟨HS.out,HW5.out⟩⟩
  have b1:(x.f0 == 1)=false:=beq_eq_false_iff_ne.2 o1
  by_cases o2:x.f0=2
  case pos =>
   have b2:(x.f0 == 2)=true:=beq_iff_eq.2 o2;cases oa with
   | true =>
    cases ob with
    | true =>
     have HE:=ia.mk (show Xg f x=(⟨0,x.f1,0,0,0,NA x.f6 va vb,(⟨#[]⟩:ByteArray)⟩:ue) from by unfold Xg;rw [if_neg (by omega),if_pos ⟨o2,GG.out,HOB.out⟩,SR.out,HVB.out]);clear o1 o2
     go_upto_region 6 with (fail)
     have HD:=ia.mk (HS.out.below (Jk (Below.refl W1.heap.size W1)));clear hx0 hx1 cn Zl Zm ju iu HS;refine Mi (n:=9) (S:=fun w'=>w'.cell? ⟨w.heap.size,1,none⟩=some (.int .i64 x.f1)∧w'.cell? ⟨w.heap.size,6,none⟩=some (.string x.f6)) (ds:=[8]) #[false,false,false,false,false,false,false,false,false] (by kernel_rfl) rfl rfl ⟨HD.out.cells.2.1,HD.out.cells.2.2.2.2.2.2⟩ (fun hHeld=>?_);generalize W1.drew=wd at HD hHeld ⊢;refine Ic (i:=0) (N:=some 45) (v:=?_) (a':=?_) #[true,false,false,false,false,false,false,false,false] rfl rfl (by kernel_rfl) (fun _ _ _ h=>h) (Or.inl ⟨by rfl,?_⟩) ?_ ?_;rotate_left
     ·intro w';go_simp;with_reducible rfl
     rotate_left
     ·simp only [Act.put,List.setIfInBounds_toArray,List.set_cons_zero,List.set_cons_succ,Cb,Db]
      rfl
     refine Ic (i:=2) (N:=some 47) (v:=?_) (a':=?_) #[true,false,true,false,false,false,false,false,false] rfl rfl (by kernel_rfl) (fun _ _ _ h=>h) (Or.inl ⟨by rfl,?_⟩) ?_ ?_;rotate_left
     ·intro w';go_simp;with_reducible rfl
     rotate_left
     ·simp only [Act.put,List.setIfInBounds_toArray,List.set_cons_zero,List.set_cons_succ,Cb,Db]
      rfl
     refine Ic (i:=4) (N:=some 49) (v:=?_) (a':=?_) #[true,false,true,false,true,false,false,false,false] rfl rfl (by kernel_rfl) (fun _ _ _ h=>h) (Or.inl ⟨by rfl,?_⟩) ?_ ?_;rotate_left
     ·intro w';go_simp;with_reducible rfl
     rotate_left
     ·simp only [Act.put,List.setIfInBounds_toArray,List.set_cons_zero,List.set_cons_succ,Cb,Db]
      rfl
     refine Ic (i:=5) (N:=some 50) (v:=?_) (a':=?_) #[true,false,true,false,true,true,false,false,false] rfl rfl (by kernel_rfl) (fun _ _ _ h=>h) (Or.inl ⟨by rfl,?_⟩) ?_ ?_;rotate_left
     ·intro w';go_simp;with_reducible rfl
     rotate_left
     ·simp only [Act.put,List.setIfInBounds_toArray,List.set_cons_zero,List.set_cons_succ,Cb,Db]
      rfl
     refine Mf (i:=1) (N:=some 46) (v:=?_) (a':=?_) #[true,true,true,false,true,true,false,false,false] rfl rfl (by kernel_rfl) (fun _ _ _ h=>h) (Or.inl ⟨by rfl,?_⟩) hHeld ?_ ?_;rotate_left
     ·rintro w' ⟨s0,s1⟩;go_simp;with_reducible rfl
     rotate_left
     ·simp only [Act.put,List.setIfInBounds_toArray,List.set_cons_zero,List.set_cons_succ,Cb,Db]
      rfl
     refine Mf (i:=3) (N:=some 48) (v:=?_) (a':=?_) #[true,true,true,true,true,true,false,false,false] rfl rfl (by kernel_rfl) (fun _ _ _ h=>h) (Or.inl ⟨by rfl,?_⟩) hHeld ?_ ?_;rotate_left
     ·rintro w' ⟨s0,s1⟩;go_simp;with_reducible rfl
     rotate_left
     ·simp only [Act.put,List.setIfInBounds_toArray,List.set_cons_zero,List.set_cons_succ,Cb,Db]
      rfl
     refine Gq (i:=6) (N:=some 51) #[true,true,true,true,true,true,true,false,false] rfl rfl (by kernel_rfl) (by decide) (fun K hK=>?_);refine Um Try.func119 (by kernel_rfl) rfl #[.string x.f6,.int .i64 va,.int .i64 vb] (by rfl) rfl rfl (by simp only [List.map_toArray,List.map_cons,List.map_nil];rfl) ?_;with_reducible refine (sW x.f6 va vb wd).mono ?_
     rintro e wc ⟨rfl,hd⟩;refine ⟨_,rfl,?_⟩;have HC:=ia.mk (HD.out.below hd.below);clear hd;refine hK.out _ _ ⟨HC.out.cells.2.1,HC.out.cells.2.2.2.2.2.2⟩ (fun hHeld=>?_);clear hK K;refine Mm (a':=?_) ?_ ?_;rotate_left
     ·show Act.put _ (some 51) _=_
      simp only [Act.put,List.setIfInBounds_toArray,List.set_cons_zero,List.set_cons_succ,Cb,Db]
      rfl
     refine Ic (i:=7) (N:=some 52) (v:=?_) (a':=?_) #[true,true,true,true,true,true,true,true,false] rfl rfl (by kernel_rfl) (fun _ _ _ h=>h) (Or.inl ⟨by rfl,?_⟩) ?_ ?_;rotate_left
     ·intro w';go_simp;with_reducible rfl
     rotate_left
     ·simp only [Act.put,List.setIfInBounds_toArray,List.set_cons_zero,List.set_cons_succ,Cb,Db]
      rfl
     refine dA (i:=8) (N:=none) #[true,true,true,true,true,true,true,true,true] rfl rfl (by kernel_rfl) (by decide) (fun K hK=>?_);obtain ⟨hx0,hx1,cn,Zl,Zm,ju,iu⟩:=HC.out.cells;obtain ⟨pK,tN,sN,rN,qN,U0,S0⟩:=HC.out.frozen;have HN:=ia.mk (HC.out.put (⟨0,x.f1,0,0,0,NA x.f6 va vb,(⟨#[]⟩:ByteArray)⟩:ue));refine Sz (w1:=?_) (by rfl) rfl ?_ ?_;rotate_left
     ·go_simp
      rfl
     refine hK.out _ _ ?_;clear hK K;refine Fl (by kernel_rfl) ?_;clear hHeld;go_wp2
     go_meet
     case rel=>exact ⟨by rw [HE.out];exact ⟨HN.out,tW _ _ _⟩⟩
    | false =>
     have HE:=ia.mk (show Xg f x=x from by unfold Xg;rw [if_neg (by omega),if_neg (by rw [HOB.out];simp)]);clear o1 o2;go_wp2
     go_meet
     case rel=>exact ⟨by rw [HE.out];exact ⟨HS.out,HW5.out⟩⟩
   | false =>
    have HE:=ia.mk (show Xg f x=x from by unfold Xg;rw [if_neg (by omega),if_neg (by rw [GG.out];simp)]);clear o1 o2;go_wp2
    go_meet
    case rel=>exact ⟨by rw [HE.out];exact ⟨HS.out,HW5.out⟩⟩
  have b2:(x.f0 == 2)=false:=beq_eq_false_iff_ne.2 o2;have HE:=ia.mk (show Xg f x=x from by unfold Xg;rw [if_neg (by omega),if_neg (by omega)]);clear o1 o2;go_wp2
  go_meet
  case rel=>exact ⟨by rw [HE.out];exact ⟨HS.out,HW5.out⟩⟩
 case rest =>
  obtain ⟨y,GQ⟩:∃ y,ia (Xg f x=y):=⟨_,⟨rfl⟩⟩;have HS:=ia.mk (GQ.out ▸ hcut.out.1);have HY5:=ia.mk (GQ.out ▸ hcut.out.2)
  have HY1:=ia.mk (show (Lit.int .i64 y.f1).wf=true from by
   rw [← GQ.out,show (Xg f x).f1=x.f1 from by unfold Xg;split;(rfl);(split <;> rfl)]
   exact HW1.out)
  have HMW:=ia.mk (show (Lit.int .i64 (Th y)).wf=true from by
   unfold Th
   split
   ·decide
   ·split
    ·decide
    ·exact HY1.out)
  clear hcut SR GG HVB HOB HW1 HW2 HW3 HW5;obtain ⟨hx0,hx1,cn,Zl,Zm,ju,iu⟩:=HS.out.cells
  go_upto_region 8 with (first|(go_at_call 91;(with_reducible refine (sM y _).mono ?_);rintro e w8 ⟨rfl,hb8⟩;have X5:=ia.mk (HS.out.below hb8);clear hb8 HS hx0 hx1 cn Zl Zm ju iu;obtain ⟨hx0,hx1,cn,Zl,Zm,ju,iu⟩:=X5.out.cells))
  by_cases hd:Th y < 0
  case pos =>
   have hdb:decide (Th y ≥ 0)=false:=decide_eq_false (by omega);have HG:=ia.mk (show Fk f y=if y.f0=0 then Mp f y.f1 (some y.f5) else f from by unfold Fk;rw [if_pos hd]);clear hd
   go_upto_region 10 with (fail)
   have wN:=X5;clear X5
   by_cases h0:y.f0=0
   case pos =>
    have b0:(y.f0 == 0)=true:=beq_iff_eq.2 h0;replace HG:=ia.mk (HG.out.trans (if_pos h0));clear h0
    go_upto_region 12 with (first|(at_mapUpdate;refine DB wN.out.m rfl (.tmp 62) (.tmp 64) (.tmp 66) _ rfl Try.underlying100 (by unfold maxLen;omega) rfl y.f1 y.f5 rfl rfl HY1.out HY5.out ?_;intro W6 L8 R8;have Ws:=ia.mk (wN.out.turn L8 R8);clear L8 R8 wN hx0 hx1 cn Zl Zm ju iu;obtain ⟨hx0,hx1,cn,Zl,Zm,ju,iu⟩:=Ws.out.cells))
    obtain ⟨⟨ak,KB,R5,hr3,l7,RZ,hr6⟩,pK,tN,sN,rN,qN,U0,S0⟩:=Ws.out.bC;go_wp2;have HI:=Cp y Ws.out.r;refine bodyPost_ret (results_cell_row rfl _ _ (w.heap.size + 1) 70 #[.int .i64 y.f0,.int .i64 y.f1,.int .i64 y.f2,.int .i64 y.f3,.int .i64 y.f4,.int .i64 y.f5,.string y.f6] (0,0) _ rfl HI.1 Try.underlying70 rfl (by kernel_rfl)) rfl ?_;have hne:=Ws.out.ne;refine ⟨by rw [GQ.out],?_,HI.2.2 Ws.out.bl (by omega),Ws.out.k.yp HI.2.1 (fun k_ e=>Or.inr (by omega))⟩;rw [GQ.out,HG.out];exact Ws.out.m.step (HI.2.1.2 b Ws.out.m.lt (fun e=>by omega))
   case neg =>
    have b0:(y.f0 == 0)=false:=beq_eq_false_iff_ne.2 h0;replace HG:=ia.mk (HG.out.trans (if_neg h0));clear h0;have Ws:=wN;clear wN;obtain ⟨⟨ak,KB,R5,hr3,l7,RZ,hr6⟩,pK,tN,sN,rN,qN,U0,S0⟩:=Ws.out.bC;go_wp2;have HI:=Cp y Ws.out.r;refine bodyPost_ret (results_cell_row rfl _ _ (w.heap.size + 1) 70 #[.int .i64 y.f0,.int .i64 y.f1,.int .i64 y.f2,.int .i64 y.f3,.int .i64 y.f4,.int .i64 y.f5,.string y.f6] (0,0) _ rfl HI.1 Try.underlying70 rfl (by kernel_rfl)) rfl ?_;have hne:=Ws.out.ne;refine ⟨by rw [GQ.out],?_,HI.2.2 Ws.out.bl (by omega),Ws.out.k.yp HI.2.1 (fun k_ e=>Or.inr (by omega))⟩;rw [GQ.out,HG.out];exact (Ws.out.m.step (HI.2.1.2 b Ws.out.m.lt (fun e=>by omega))).mono (Nat.le_succ n)
  case neg =>
   have hdb:decide (Th y ≥ 0)=true:=decide_eq_true (by omega);have HG:=ia.mk (show Fk f y=if y.f0=0 then Mp (Mp f (Th y) none) y.f1 (some y.f5) else Mp f (Th y) none from by unfold Fk;rw [if_neg hd]);clear hd
   go_upto_region 10 with (first|(at_delete;refine kM X5.out.m rfl (.tmp 57) (.tmp 58) _ rfl Try.underlying100 rfl (Th y) rfl HMW.out ?_;intro W5 M8 hg5;have wN:=ia.mk (X5.out.turn M8 hg5);clear M8 hg5 X5 hx0 hx1 cn Zl Zm ju iu;obtain ⟨hx0,hx1,cn,Zl,Zm,ju,iu⟩:=wN.out.cells))
   by_cases h0:y.f0=0
   case pos =>
    have b0:(y.f0 == 0)=true:=beq_iff_eq.2 h0;replace HG:=ia.mk (HG.out.trans (if_pos h0));clear h0
    go_upto_region 12 with (first|(at_mapUpdate;refine DB wN.out.m rfl (.tmp 62) (.tmp 64) (.tmp 66) _ rfl Try.underlying100 (by unfold maxLen;omega) rfl y.f1 y.f5 rfl rfl HY1.out HY5.out ?_;intro W6 L8 R8;have Ws:=ia.mk (wN.out.turn L8 R8);clear L8 R8 wN hx0 hx1 cn Zl Zm ju iu;obtain ⟨hx0,hx1,cn,Zl,Zm,ju,iu⟩:=Ws.out.cells))
    obtain ⟨⟨ak,KB,R5,hr3,l7,RZ,hr6⟩,pK,tN,sN,rN,qN,U0,S0⟩:=Ws.out.bC;go_wp2;have HI:=Cp y Ws.out.r;refine bodyPost_ret (results_cell_row rfl _ _ (w.heap.size + 1) 70 #[.int .i64 y.f0,.int .i64 y.f1,.int .i64 y.f2,.int .i64 y.f3,.int .i64 y.f4,.int .i64 y.f5,.string y.f6] (0,0) _ rfl HI.1 Try.underlying70 rfl (by kernel_rfl)) rfl ?_;have hne:=Ws.out.ne;refine ⟨by rw [GQ.out],?_,HI.2.2 Ws.out.bl (by omega),Ws.out.k.yp HI.2.1 (fun k_ e=>Or.inr (by omega))⟩;rw [GQ.out,HG.out];exact Ws.out.m.step (HI.2.1.2 b Ws.out.m.lt (fun e=>by omega))
   case neg =>
    have b0:(y.f0 == 0)=false:=beq_eq_false_iff_ne.2 h0;replace HG:=ia.mk (HG.out.trans (if_neg h0));clear h0;have Ws:=wN;clear wN;obtain ⟨⟨ak,KB,R5,hr3,l7,RZ,hr6⟩,pK,tN,sN,rN,qN,U0,S0⟩:=Ws.out.bC;go_wp2;have HI:=Cp y Ws.out.r;refine bodyPost_ret (results_cell_row rfl _ _ (w.heap.size + 1) 70 #[.int .i64 y.f0,.int .i64 y.f1,.int .i64 y.f2,.int .i64 y.f3,.int .i64 y.f4,.int .i64 y.f5,.string y.f6] (0,0) _ rfl HI.1 Try.underlying70 rfl (by kernel_rfl)) rfl ?_;have hne:=Ws.out.ne;refine ⟨by rw [GQ.out],?_,HI.2.2 Ws.out.bl (by omega),Ws.out.k.yp HI.2.1 (fun k_ e=>Or.inr (by omega))⟩;rw [GQ.out,HG.out];exact (Ws.out.m.step (HI.2.1.2 b Ws.out.m.lt (fun e=>by omega))).mono (Nat.le_succ n)
def Wt (f:Int→Option Int) (bj ba:Int):Prop:=bj=1∧(f ba).isSome=true
instance (f:Int→Option Int) (bj ba:Int):Decidable (Wt f bj ba):=inferInstanceAs (Decidable (_∧_))
def zA (f:Int→Option Int) (ba bt be:Int):Int:=if (f ba).getD 0=0 then be else bt
def OB (f:Int→Option Int) (gp o:Nat) (A:Option Addr) (n c:Nat) (bj ba bt be:Int) (w1 w':World):Prop:=w' = if Wt f bj ba then (((((w1.setCell ⟨gp,o,none⟩ (.slice A n c)).setCell ⟨gp,o + 1,none⟩ (.int .i64 0)).setCell ⟨gp,o + 2,none⟩ (.int .i64 0)).setCell ⟨gp,o + 3,none⟩ (.int .i64 (zA f ba bt be))).setCell ⟨gp,o + 4,none⟩ (.int .i64 0)) else w1
theorem yB (P_:Nat→Prop) (gp o:Nat) (cells:Array Value) (A:Option Addr) (c:Nat) (code:List ue) (bj ba bt be:Int) (f:Int→Option Int) (bm n:Nat) (w0 w:World) (hB:Below w0.heap.size w0 w) (MM:code.length ≤ 1048576) (hn:n ≤ 1048576)
  (hix:∀ x ∈ code,(Lit.int .i64 x.f1).wf=true∧(Lit.int .i64 x.f2).wf=true∧(Lit.int .i64 x.f3).wf=true∧(Lit.int .i64 x.f5).wf=true) (hba:(Lit.int .i64 ba).wf=true)
  (hg:w.heap[gp]? = some (.cells cells 68 (0,0))) (hc0:cells[o]? = some (.slice A code.length c)) (SP:cells[o + 1]? = some (.int .i64 bj)) (QG:cells[o + 2]? = some (.int .i64 ba)) (xS:cells[o + 3]? = some (.int .i64 bt)) (hc4:cells[o + 4]? = some (.int .i64 be)) (hnP:¬ P_ gp) (ho:Kd.R Di 70 w w0.heap.size P_ (.slice A code.length c) code)
  (hm:ku w bm n f) (hbm:w0.heap.size ≤ bm) (hPb:¬ P_ bm) (S5:gp ≠ bm) :
  Calls Try.prog 75 #[.pointer (some ⟨gp,o,none⟩),.map (some bm)] w fun e w'=>e = .returned (.tuple #[])∧∃ w1,Kd.R Di 70 w1 w0.heap.size P_ (.slice A code.length c) (Il Xg Fk f code)∧Below w0.heap.size w0 w1∧Kept w w1 (fun k_=>P_ k_ ∨ k_=bm) ∧
   OB (Cx Xg Fk f code code.length) gp o A code.length c bj ba bt be w1 w':=by
 obtain ⟨hn_,hnc,hC⟩:=Kd.oc ho;have hmx:=hC.2.1;have HL:=ia.mk (Gj (U:=Xg) (N:=Fk) f code);have HS:=ia.mk (show LG w0 w P_ A code.length c bm n f code w from ⟨Kd.Tc (Kd.Kg ho) (fun k_ hk=>(⟨hk.1,hk.2.2.1,fun e=>hPb (e ▸ hk.1)⟩:P_ k_∧k_ < w.heap.size∧k_ ≠ bm)),hm,hB,Kept.refl _ _,⟨hbm,hm.lt⟩⟩);have HIX:=ia.mk hix;have HBA:=ia.mk hba;have HG:=ia.mk hg;have HC:=ia.mk (And.intro hc0 (And.intro SP (And.intro QG (And.intro xS hc4))));have yN:=ia.mk (show ¬ (P_ gp ∨ gp=bm) from fun h=>h.elim hnP S5);have fJ:=(ga hg o).trans hc0;clear hC ho hB hn_ hix hba hc0 SP QG xS hc4 hnP hm hbm hPb S5 hg;go_enter Try.func75,Try.ntmps75;go_wp2;clear fJ
 go_loopg [14] code.length (fun gg v14 wr=>∃ j:Nat,j ≤ code.length∧code.length - j ≤ gg∧v14 = .int .i64 j∧ia (LG w0 w P_ A code.length c bm (n + j) (Cx Xg Fk f code j) ((Il Xg Fk f code).take j ++ code.drop j) wr))
 case atStart=>exact ⟨0,Nat.zero_le _,by omega,rfl,⟨by simpa [Cx] using HS.out⟩⟩
 case round =>
  clear HS;(try clear HS);obtain ⟨j,hj,hgg,rfl,HS⟩:=hrel
  by_cases hlt:j < code.length
  ·have tH:decide ((j:Int) < (code.length:Int))=true:=decide_eq_true (by omega);have p1:0 ≤ (j:Int):=by omega
   have p2:(j:Int) < (code.length:Int):=by omega
   have hst:=HS.out;rw [yA hlt] at hst;obtain ⟨gb,e1,-,-⟩:=hst.cells j hlt;subst e1;have KY:=ia.mk (HIX.out (Ia code (j:Int)) (by simp only [Ia,Int.toNat_natCast,List.getD_eq_getElem?_getD,List.getElem?_eq_getElem hlt,Option.getD_some];exact List.getElem_mem hlt));have HS:=ia.mk hst;have I4:=ia.mk (fun z z'=>bG (U:=Xg) (N:=Fk) (s0:=f) z z' hlt);have HE:=ia.mk (cG (U:=Xg) (N:=Fk) (s0:=f) hlt);have X4:=ia.mk (aG (U:=Xg) (N:=Fk) f hlt);have VE:=ia.mk (fun z=>EL (U:=Xg) (N:=Fk) (s0:=f) z hlt);clear hst;generalize Ia code (j:Int)=x at HS HE X4 KY;generalize Cx Xg Fk f code j=fj at HS HE X4;obtain ⟨hx0,hx1,cn,Zl,Zm,ju,iu⟩:=HS.out.elem j hlt x (VE.out x)
   go_upto_region 3 with (fail)
   have Sm:=ta (Below.refl wr.heap.size wr) (.cells #[.int .i64 x.f0,.int .i64 x.f1,.int .i64 x.f2,.int .i64 x.f3,.int .i64 x.f4,.int .i64 x.f5,.string x.f6] 70 (0,0));have ZZ:=ri wr (.cells #[.int .i64 x.f0,.int .i64 x.f1,.int .i64 x.f2,.int .i64 x.f3,.int .i64 x.f4,.int .i64 x.f5,.string x.f6] 70 (0,0));have hq1:w.heap.size ≤ wr.heap.size:=HS.out.k.1;generalize wr.alloc (.cells #[.int .i64 x.f0,.int .i64 x.f1,.int .i64 x.f2,.int .i64 x.f3,.int .i64 x.f4,.int .i64 x.f5,.string x.f6] 70 (0,0))=W1 at Sm ZZ ⊢;have HD:=ia.mk ((HS.out.below Sm).below (Jk (Below.refl W1.heap.size W1)));have HQ:=ia.mk (show W1.drew.heap[wr.heap.size]? = _ from Ca ZZ);have HQN:=ia.mk (show wr.heap.size ≠ bm from fun e=>by have:=HS.out.mp.lt;omega);have HH:=ia.mk (ie HG.out HD.out.k yN.out);clear Sm ZZ hq1 hx0 hx1 cn Zl Zm ju iu HS;generalize wr.heap.size=q at HQ HQN ⊢;refine Mi (n:=10) (S:=fun w'=>w'.cell? ⟨gp,o,none⟩=some (.slice (some ⟨gb,0,none⟩) code.length c)∧w'.cell? ⟨q,0,none⟩=some (.int .i64 x.f0)∧w'.cell? ⟨q,1,none⟩=some (.int .i64 x.f1)∧w'.cell? ⟨q,2,none⟩=some (.int .i64 x.f2)∧w'.cell? ⟨q,3,none⟩=some (.int .i64 x.f3)∧w'.cell? ⟨q,4,none⟩=some (.int .i64 x.f4)∧w'.cell? ⟨q,5,none⟩=some (.int .i64 x.f5)∧w'.cell? ⟨q,6,none⟩=some (.string x.f6)) (ds:=[9]) #[false,false,false,false,false,false,false,false,false,false] (by kernel_rfl) rfl rfl ⟨(ga HH.out o).trans HC.out.1,(ga HQ.out 0).trans rfl,(ga HQ.out 1).trans rfl,(ga HQ.out 2).trans rfl,(ga HQ.out 3).trans rfl,(ga HQ.out 4).trans rfl,(ga HQ.out 5).trans rfl,(ga HQ.out 6).trans rfl⟩ (fun hHeld=>?_);generalize W1.drew=wd at HD HQ HH hHeld ⊢;refine Ic (i:=0) (N:=some 19) (v:=?_) (a':=?_) #[true,false,false,false,false,false,false,false,false,false] rfl rfl (by kernel_rfl) (fun _ _ _ h=>h) (Or.inl ⟨by rfl,?_⟩) ?_ ?_;rotate_left
   ·intro w';go_simp;with_reducible rfl
   rotate_left
   ·simp only [Act.put,List.setIfInBounds_toArray,List.set_cons_zero,List.set_cons_succ,Cb,Db]
    rfl
   refine Ic (i:=1) (N:=some 20) (v:=?_) (a':=?_) #[true,true,false,false,false,false,false,false,false,false] rfl rfl (by kernel_rfl) (fun _ _ _ h=>h) (Or.inl ⟨by rfl,?_⟩) ?_ ?_;rotate_left
   ·intro w';go_simp;with_reducible rfl
   rotate_left
   ·simp only [Act.put,List.setIfInBounds_toArray,List.set_cons_zero,List.set_cons_succ,Cb,Db]
    rfl
   refine Ic (i:=2) (N:=some 21) (v:=?_) (a':=?_) #[true,true,true,false,false,false,false,false,false,false] rfl rfl (by kernel_rfl) (fun _ _ _ h=>h) (Or.inl ⟨by rfl,?_⟩) ?_ ?_;rotate_left
   ·intro w';go_simp;with_reducible rfl
   rotate_left
   ·simp only [Act.put,List.setIfInBounds_toArray,List.set_cons_zero,List.set_cons_succ,Cb,Db]
    rfl
   refine Ic (i:=4) (N:=some 23) (v:=?_) (a':=?_) #[true,true,true,false,true,false,false,false,false,false] rfl rfl (by kernel_rfl) (fun _ _ _ h=>h) (Or.inl ⟨by rfl,?_⟩) ?_ ?_;rotate_left
   ·intro w';go_simp;with_reducible rfl
   rotate_left
   ·simp only [Act.put,List.setIfInBounds_toArray,List.set_cons_zero,List.set_cons_succ,Cb,Db]
    rfl
   refine Ic (i:=6) (N:=some 25) (v:=?_) (a':=?_) #[true,true,true,false,true,false,true,false,false,false] rfl rfl (by kernel_rfl) (fun _ _ _ h=>h) (Or.inl ⟨by rfl,?_⟩) ?_ ?_;rotate_left
   ·intro w';go_simp;with_reducible rfl
   rotate_left
   ·simp only [Act.put,List.setIfInBounds_toArray,List.set_cons_zero,List.set_cons_succ,Cb,Db]
    rfl
   refine Mf (i:=3) (N:=some 22) (v:=?_) (a':=?_) #[true,true,true,true,true,false,true,false,false,false] rfl rfl (by kernel_rfl) (fun _ _ _ h=>h) (Or.inl ⟨by rfl,?_⟩) hHeld ?_ ?_;rotate_left
   ·rintro w' ⟨s0,s1,s2,s3,s4,s5,s6,s7⟩;go_simp;with_reducible rfl
   rotate_left
   ·simp only [Act.put,List.setIfInBounds_toArray,List.set_cons_zero,List.set_cons_succ,Cb,Db]
    rfl
   refine Mf (i:=5) (N:=some 24) (v:=?_) (a':=?_) #[true,true,true,true,true,true,true,false,false,false] rfl rfl (by kernel_rfl) (fun _ _ _ h=>h) (Or.inl ⟨by rfl,?_⟩) hHeld ?_ ?_;rotate_left
   ·rintro w' ⟨s0,s1,s2,s3,s4,s5,s6,s7⟩;go_simp;with_reducible rfl
   rotate_left
   ·simp only [Act.put,List.setIfInBounds_toArray,List.set_cons_zero,List.set_cons_succ,Cb,Db]
    rfl
   refine Gq (i:=7) (N:=some 26) #[true,true,true,true,true,true,true,true,false,false] rfl rfl (by kernel_rfl) (by decide) (fun K hK=>?_);refine Um Try.func105 (by kernel_rfl) rfl #[.agg #[.int .i64 x.f0,.int .i64 x.f1,.int .i64 x.f2,.int .i64 x.f3,.int .i64 x.f4,.int .i64 x.f5,.string x.f6],.map (some bm)] (by rfl) rfl rfl (by simp only [List.map_toArray,List.map_cons,List.map_nil];rfl) ?_;with_reducible refine (jE x fj bm (n + j) w0 wd HD.out.bl HD.out.mp HD.out.ne.1 (by omega) KY.out.1 KY.out.2.1 KY.out.2.2.1 KY.out.2.2.2).mono ?_
   rintro e wc ⟨rfl,hm,hb,hk⟩;refine ⟨_,rfl,?_⟩;have HT:=ia.mk (HD.out.turn hm hb hk);have L4:=ia.mk (ie HQ.out hk HQN.out);have LY:=ia.mk (ie HG.out HT.out.k yN.out);clear hm hb hk;refine hK.out _ _ ⟨(ga LY.out o).trans HC.out.1,(ga L4.out 0).trans rfl,(ga L4.out 1).trans rfl,(ga L4.out 2).trans rfl,(ga L4.out 3).trans rfl,(ga L4.out 4).trans rfl,(ga L4.out 5).trans rfl,(ga L4.out 6).trans rfl⟩ (fun hHeld=>?_);clear hK K;refine Mm (a':=?_) ?_ ?_;rotate_left
   ·show Act.put _ (some 26) _=_
    simp only [Act.put,List.setIfInBounds_toArray,List.set_cons_zero,List.set_cons_succ,Cb,Db]
    rfl
   refine Ic (i:=8) (N:=some 27) (v:=?_) (a':=?_) #[true,true,true,true,true,true,true,true,true,false] rfl rfl (by kernel_rfl) (fun _ _ _ h=>h) (Or.inl ⟨by rfl,?_⟩) ?_ ?_;rotate_left
   ·intro w';go_simp;with_reducible rfl
   rotate_left
   ·simp only [Act.put,List.setIfInBounds_toArray,List.set_cons_zero,List.set_cons_succ,Cb,Db]
    rfl
   refine dA (i:=9) (N:=none) #[true,true,true,true,true,true,true,true,true,true] rfl rfl (by kernel_rfl) (by decide) (fun K hK=>?_);obtain ⟨hx0,hx1,cn,Zl,Zm,ju,iu⟩:=HT.out.elem j hlt x (VE.out x);obtain ⟨pK,tN,sN,rN,qN,U0,S0⟩:=HT.out.frozen j hlt;have HN:=ia.mk (HT.out.put j hlt (Xg fj x));refine Sz (w1:=?_) (by rfl) rfl ?_ ?_;rotate_left
   ·go_simp
    rfl
   refine hK.out _ _ ?_;clear hK K;refine Fl (by kernel_rfl) ?_;clear hHeld;go_wp2
   go_roundg (code.length - (j + 1))
   case measure=>omega
   case rel=>exact ⟨j + 1,by omega,by omega,by go_num,⟨by rw [X4.out,← HE.out,← I4.out];exact HN.out⟩⟩
  ·have tH:decide ((j:Int) < (code.length:Int))=false:=decide_eq_false (by omega);obtain rfl:j=code.length:=by omega
   have hs:=HS.out;rw [List.drop_length,List.append_nil,List.take_of_length_le (by rw [HL.out];omega)] at hs;have HS:=ia.mk hs;clear hs;have HH:=ia.mk (ie HG.out HS.out.k yN.out);have fJ:=(ga HH.out o).trans HC.out.1;have JF:=(ga HH.out (o + 1)).trans HC.out.2.1;have eJ:=(ga HH.out (o + 2)).trans HC.out.2.2.1;have PG:=(ga HH.out (o + 3)).trans HC.out.2.2.2.1;have OG:=(ga HH.out (o + 4)).trans HC.out.2.2.2.2;have pK:=aa HH.out o;have tN:=aa HH.out (o + 1);have sN:=aa HH.out (o + 2);have rN:=aa HH.out (o + 3);have qN:=aa HH.out (o + 4);obtain ⟨va,SR⟩:∃ v,ia ((Cx Xg Fk f code code.length ba).getD 0=v):=⟨_,⟨rfl⟩⟩;obtain ⟨oa,GG⟩:∃ v,ia ((Cx Xg Fk f code code.length ba).isSome=v):=⟨_,⟨rfl⟩⟩
   go_upto_region 6 with (first|(at_lookup;refine Ft HS.out.mp rfl (.tmp 30) (.tmp 34) _ rfl Try.underlying100 rfl ba rfl HBA.out va oa SR.out GG.out ?_;intro hwa;clear hwa))
   have HR:=ia.mk (Kd.Tc HS.out.x (fun _ hk=>hk.1))
   by_cases h1:bj=1
   case neg =>
    have b1:(bj == 1)=false:=beq_eq_false_iff_ne.2 h1;have l6:=ia.mk (show ¬ Wt (Cx Xg Fk f code code.length) bj ba from fun h=>h1 h.1);clear h1;go_wp2;refine bodyPost_end (v:=.tuple #[]) ?_ rfl ?_
    ·kernel_rfl
    exact ⟨rfl,_,HR.out,HS.out.bl,HS.out.k,by unfold OB;rw [if_neg l6.out]⟩
   have b1:(bj == 1)=true:=beq_iff_eq.2 h1;cases oa with
   | false =>
    have l6:=ia.mk (show ¬ Wt (Cx Xg Fk f code code.length) bj ba from fun h=>by have:=h.2;rw [GG.out] at this;cases this);clear h1;go_wp2;refine bodyPost_end (v:=.tuple #[]) ?_ rfl ?_
    ·kernel_rfl
    exact ⟨rfl,_,HR.out,HS.out.bl,HS.out.k,by unfold OB;rw [if_neg l6.out]⟩
   | true =>
    have l6:=ia.mk (show Wt (Cx Xg Fk f code code.length) bj ba from ⟨h1,GG.out⟩);clear h1
    by_cases h0:va=0
    ·have b0:(va == 0)=true:=beq_iff_eq.2 h0;have HTO:=ia.mk (show zA (Cx Xg Fk f code code.length) ba bt be=be from by unfold zA;rw [SR.out,if_pos h0]);clear h0;go_wp2;refine bodyPost_end (v:=.tuple #[]) ?_ rfl ?_
     ·kernel_rfl
     exact ⟨rfl,_,HR.out,HS.out.bl,HS.out.k,by unfold OB;rw [if_pos l6.out,HTO.out]⟩
    ·have b0:(va == 0)=false:=beq_eq_false_iff_ne.2 h0;have HTO:=ia.mk (show zA (Cx Xg Fk f code code.length) ba bt be=bt from by unfold zA;rw [SR.out,if_neg h0]);clear h0;go_wp2;refine bodyPost_end (v:=.tuple #[]) ?_ rfl ?_
     ·kernel_rfl
     exact ⟨rfl,_,HR.out,HS.out.bl,HS.out.k,by unfold OB;rw [if_pos l6.out,HTO.out]⟩
theorem Ds {w Wc:World} {z base:Nat} {v0 v4:Value} {g1:List Int} {g2 g3 g4:Int} {g5:List lf} {u0 u1 u2 u3 u4:Value} (hZ:Wc.heap[z]? = some (.cells #[u0,u1,u2,u3,u4] 30 (0,0))) (hO:Kd.R (Kd.int .i64) 3 Wc base (fun _=>True) v0 g1) (hS:Kd.S Ok 68 Wc base (fun _=>True) v4 g5) (hB:Below base w Wc) (hz:base ≤ z) :
  (((((Wc.setCell ⟨z,0,none⟩ v0).setCell ⟨z,1,none⟩ (.int .i64 g2)).setCell ⟨z,2,none⟩ (.int .i64 g3)).setCell ⟨z,3,none⟩ (.int .i64 g4)).setCell ⟨z,4,none⟩ v4).heap[z]? = some (.cells #[v0,.int .i64 g2,.int .i64 g3,.int .i64 g4,v4] 30 (0,0)) ∧
  Kd.R (Kd.int .i64) 3 (((((Wc.setCell ⟨z,0,none⟩ v0).setCell ⟨z,1,none⟩ (.int .i64 g2)).setCell ⟨z,2,none⟩ (.int .i64 g3)).setCell ⟨z,3,none⟩ (.int .i64 g4)).setCell ⟨z,4,none⟩ v4) base (fun _=>True) v0 g1 ∧
  Kd.S Ok 68 (((((Wc.setCell ⟨z,0,none⟩ v0).setCell ⟨z,1,none⟩ (.int .i64 g2)).setCell ⟨z,2,none⟩ (.int .i64 g3)).setCell ⟨z,3,none⟩ (.int .i64 g4)).setCell ⟨z,4,none⟩ v4) base (fun _=>True) v4 g5 ∧
  Below base w (((((Wc.setCell ⟨z,0,none⟩ v0).setCell ⟨z,1,none⟩ (.int .i64 g2)).setCell ⟨z,2,none⟩ (.int .i64 g3)).setCell ⟨z,3,none⟩ (.int .i64 g4)).setCell ⟨z,4,none⟩ v4):=by
 have hk:Kept Wc (((((Wc.setCell ⟨z,0,none⟩ v0).setCell ⟨z,1,none⟩ (.int .i64 g2)).setCell ⟨z,2,none⟩ (.int .i64 g3)).setCell ⟨z,3,none⟩ (.int .i64 g4)).setCell ⟨z,4,none⟩ v4) (fun k=>k=z) :=
  Kept.setCell (S:=fun k=>k=z) (p:=⟨z,4,none⟩) (Kept.setCell (S:=fun k=>k=z) (p:=⟨z,3,none⟩) (Kept.setCell (S:=fun k=>k=z) (p:=⟨z,2,none⟩) (Kept.setCell (S:=fun k=>k=z) (p:=⟨z,1,none⟩) (Kept.setCell (S:=fun k=>k=z) (p:=⟨z,0,none⟩) (Kept.refl _ _) (Or.inl rfl) _) (Or.inl rfl) _) (Or.inl rfl) _) (Or.inl rfl) _) (Or.inl rfl) _
 refine ⟨?_,Kd.Tc (Kd.Ql (Kd.fe hO hZ (by decide)) hk (fun k h e=>h.2 e)) (fun _ _=>trivial),Kd.xg (Kd.RA (Kd.Vo hS hZ (by decide)) hk (fun k h e=>h.2 e)) (fun _ _=>trivial),((((hB.setCell hz _).setCell hz _).setCell hz _).setCell hz _).setCell hz _⟩;exact jb (cs:=#[v0,.int .i64 g2,.int .i64 g3,.int .i64 g4,u4]) (jb (cs:=#[v0,.int .i64 g2,.int .i64 g3,u3,u4]) (jb (cs:=#[v0,.int .i64 g2,u2,u3,u4]) (jb (cs:=#[v0,u1,u2,u3,u4]) (jb (cs:=#[u0,u1,u2,u3,u4]) hZ 0 _ rfl) 1 _ rfl) 2 _ rfl) 3 _ rfl) 4 _ rfl
theorem Lk {W:World} {t k:Nat} {cells:Array Value} {E:List Nat} (h:W.heap[k]? = some (.cells cells t (0,0))) (hE:t ∉ E):¬ ∃ q,q ∈ E∧∃ cells,W.heap[k]? = some (.cells cells q (0,0)):=by
 rintro ⟨q,hq,cells',hc⟩;rw [h] at hc;injection hc with hc
 injection hc with _ hc
 exact hE (hc ▸ hq)
attribute [local go_sem] Ph Nh Oi Ni gh fh Oh Mh
def Le.l0:Nat→List Int→Int→Int→Option (Int × List Int)
 | 0,_,_,_=>none
 | k + 1,x0,x1,x5=>if x5 < (x0.length:Int) then (if 0 ≤ x5 then (Le.l0 k (x0.set (x5:Int).toNat x1) (wrap64 (x1 + 1)) (wrap64 (x5 + 1))) else (none)) else (some (x1,x0))
def Le.f (k:Nat) (l0:List Int) (a1:Int):Option (Int × List Int):=Le.l0 k l0 a1 0
theorem Le.calls (k:Nat) (En:Nat→Prop) (th:Value) (l0:List Int) (a1:Int) (r1:Int) (r2:List Int) (w0 w:World) (hB:Below w0.heap.size w0 w) (Cl:Kd.R (Kd.int .i64) 3 w w0.heap.size En th l0) (h:Le.f k l0 a1=some (r1,r2)) :
  Calls Try.prog 22 #[th,.int .i64 a1] w fun e w'=>e = .returned (.int .i64 r1)∧Kd.R (Kd.int .i64) 3 w' w0.heap.size (fun k_=>(En k_ ∨ w.heap.size ≤ k_)) th r2∧Below w0.heap.size w0 w'∧Kept w w' (fun k_=>En k_):=by
 have HO0:=ia.mk (show Kd.R (Kd.int .i64) 3 w w0.heap.size (fun k_=>(En k_ ∨ w.heap.size ≤ k_)) th l0 from Kd.Tc Cl (fun k_ hk=>(.inl hk)));have HK:=ia.mk (Kept.refl w (fun k_=>En k_));have HW0:=ia.mk hB.size;have HB:=ia.mk hB;clear hB;have H:(Le.l0 k l0 a1 0)=some (r1,r2):=h;clear h;have H':=ia.mk H;clear H;go_enter Try.func22,Try.ntmps22;go_wp2
 go_loopg [1,5] k (fun kq v1 v5 w'=>∃ (Ye:List Int) (od:Int) (Fa:Int),v1 = .int .i64 od∧v5 = .int .i64 Fa∧ia (Le.l0 kq Ye od Fa=some (r1,r2))∧ia (kq ≤ k)∧ia (Kd.R (Kd.int .i64) 3 w' w0.heap.size (fun k_=>(En k_ ∨ w.heap.size ≤ k_)) th Ye)∧ia (Kept w w' (fun k_=>En k_))∧ia (Below w0.heap.size w0 w'))
 case atStart=>exact ⟨(l0),(a1),(0),(by first|rfl|(simp;done)|(simp [*];done)),(by first|rfl|(simp;done)|(simp [*];done)),H',⟨Nat.le_refl _⟩,⟨by (with_reducible repeat (first|apply Kd.Tb|apply Kd.Sb|apply Kd.fc));exact HO0.out⟩,⟨by repeat (first|(with_reducible first|exact HK.out|apply Kept.alloc|apply Kept.drewN|apply Kept.drew)|exact HK.out)⟩,⟨by repeat (first|(with_reducible first|exact HB.out|apply ta|apply ja|apply ua)|exact HB.out)⟩⟩
 case round =>
  clear H'
  try clear c2
  try clear p2
  (try clear HA);(try clear Wh);(try clear ig);(try clear HK);(try clear HB);obtain ⟨Ye,od,Fa,rfl,rfl,HA,Wh,ig,HK,HB⟩:=hrel;cases gk with
  | zero=>exact absurd HA.out (by simp [Le.l0])
  | succ k1 =>
   have H:=HA.out;clear HA;simp only [Le.l0] at H
   by_cases c3:Fa < (Ye.length:Int)
   ·rw [if_pos c3] at H;have Xh:decide (Fa < (Ye.length:Int))=true:=decide_eq_true c3;clear c3
    by_cases c4:0 ≤ Fa
    ·rw [if_pos c4] at H;have Zi:decide (0 ≤ Fa)=true:=decide_eq_true c4;clear c4;obtain ⟨bg,jg⟩:∃ y_:List Int,y_=(Ye.set (Fa:Int).toNat od):=⟨_,rfl⟩;replace H:(Le.l0 k1 bg (wrap64 (od + 1)) (wrap64 (Fa + 1)))=some (r1,r2):=by first|(rw [jg];with_reducible exact H)|(have lg:=(Option.bind_some _ _).symm.trans H;rw [jg];with_reducible exact lg)|(have lg:=(Option.bind_some _ _).symm.trans H;with_reducible exact lg)|with_reducible exact H|(rw [jg];exact H)|exact H
     have wk:=ia.mk jg;clear jg;have H':=ia.mk H;clear H;obtain ⟨Ao6,co6,eo6⟩:=Kd.Oe ig.out;subst eo6;have p5:0 ≤ (Fa:Int):=of_decide_eq_true (by first|(with_reducible assumption)|assumption);have q5:(Fa:Int) < ((Ye.length:Int):Int):=of_decide_eq_true (by first|(with_reducible assumption)|assumption);obtain ⟨Fg,co5,E2,gb5,gl5,cl5,HG5⟩:=Kd.Kn ig.out (by omega);(first|cases E2|(injection E2 with ei jq lq;(first|subst ei|(injection ei with ei;subst ei));subst lq;clear jq));have OW:=ia.mk gb5;have GG5:=ia.mk HG5;clear gb5 gl5 HG5;have qag:=ia.mk (show (En Fg ∨ w.heap.size ≤ Fg) from (ig.out.1 _ rfl));obtain ⟨b7,mab⟩:=Kd.yj 0 ig.out (Fa:Int) p5 q5;replace p5:=eq_true p5;replace q5:=eq_true q5;have HP7:=Kd.Pq ig.out (Fa:Int) od;go_wp2_with (first|((with_reducible refine Hf (t:=3) (p:=15) rfl ?_);refine gf (t:=3) (p:=15) (v:=?Zas) (w1:=(wr.setCell ⟨Fg,(Fa:Int).toNat,none⟩ (.int .i64 od))) ?hg ?ho ?hn ?hr ?_;(case ho=>rfl);(case hg=>rfl);(case hn=>rfl);(case hr=>first|(go_simp;done)|(go_simp;rfl));intro w8 hw;have hg:wr.grownBy w8 (some Fg):=(by rw [hw];exact HP7.2);have jn:Kd.R (Kd.int .i64) 3 w8 w0.heap.size (fun k_=>(En k_ ∨ w.heap.size ≤ k_)) (.slice (some ⟨Fg,0,none⟩) Ye.length co6) bg:=(by rw [hw,wk.out];exact HP7.1);clear HP7;have Kb:=ia.mk (jn);have Ub:=ia.mk ((by rw [hw];exact Aa (HB.out) OW.out:Below w0.heap.size w0 w8));have qc:=ia.mk (Kept.Pg (S:=(fun k_=>En k_)) hg (by repeat (first|(with_reducible first|exact HK.out|apply Kept.alloc|apply Kept.drewN|apply Kept.drew)|exact HK.out)) (fun k_ e_=>(ig.out.1 k_ e_)));clear ig HB HK;have ig:=Kb;have HB:=Ub;have HK:=qc;clear Kb Ub qc hg hw jn))
     go_roundg k1
     case measure=>have:=Wh.out;omega
     case rel=>exact ⟨(bg),(wrap64 (od + 1)),(wrap64 (Fa + 1)),(by first|rfl|(simp;done)|(simp [*];done)),(by first|rfl|(simp;done)|(simp [*];done)),H',⟨by have:=Wh.out;omega⟩,⟨by (with_reducible repeat (first|apply Kd.Tb|apply Kd.Sb|apply Kd.fc));exact ig.out⟩,⟨by repeat (first|(with_reducible first|exact HK.out|apply Kept.alloc|apply Kept.drewN|apply Kept.drew)|exact HK.out)⟩,⟨by repeat (first|(with_reducible first|exact HB.out|apply ta|apply ja|apply ua)|exact HB.out)⟩⟩
    ·rw [if_neg c4] at H;exact absurd H (by simp)
   ·rw [if_neg c3] at H;have Xh:decide (Fa < (Ye.length:Int))=false:=decide_eq_false c3;clear c3;simp only [Option.some.injEq,Prod.mk.injEq] at H;obtain ⟨rfl,rfl⟩:=H;obtain ⟨Ao9,co9,eo9⟩:=Kd.Oe ig.out;subst eo9;go_wp2;go_ret;exact ⟨by first|rfl|(simp [Na,Ma] <;> rfl)|(simp [*,Na,Ma] <;> rfl),by (with_reducible repeat (first|apply Kd.Tb|apply Kd.Sb|apply Kd.fc));exact ig.out,by repeat (first|(with_reducible first|exact HB.out|apply ta|apply ja|apply ua)|exact HB.out),by repeat (first|(with_reducible first|exact HK.out|apply Kept.alloc|apply Kept.drewN|apply Kept.drew)|exact HK.out)⟩
def ld.l0:Nat→Int→ByteArray→Option (ByteArray)
 | 0,_,_=>none
 | k + 1,x0,x3=>if x0 > 0 then ((some (([(wrap64 (48 + (Int.tmod x0 10))) % 256]:List Int):List Int)).bind fun bg=>(if (strOfNums bg).size + x3.size ≤ 9223372036854775807 then (ld.l0 k (wrap64 (Int.tdiv x0 10)) ((strOfNums bg) ++ x3)) else (none))) else (if 1 + x3.size ≤ 9223372036854775807 then (some ((⟨#[109]⟩:ByteArray) ++ x3)) else (none))
def ld.f (k:Nat) (a0:Int):Option (ByteArray):=if a0 ≤ 0 then (some (⟨#[109,48]⟩:ByteArray)) else (ld.l0 k a0 (⟨#[]⟩:ByteArray))
theorem ld.calls (k:Nat) (a0:Int) (r:ByteArray) (w:World) (h:ld.f k a0=some r) :
  Calls Try.prog 121 #[.int .i64 a0] w fun e w'=>e = .returned (.string r)∧Below w.heap.size w w':=by
 have HB:=ia.mk (Below.refl w.heap.size w);have H:(if a0 ≤ 0 then (some (⟨#[109,48]⟩:ByteArray)) else (ld.l0 k a0 (⟨#[]⟩:ByteArray)))=some r:=h;clear h
 by_cases c2:a0 ≤ 0
 ·rw [if_pos c2] at H;have gy:decide (a0 ≤ 0)=true:=decide_eq_true c2;clear c2;obtain rfl:=Option.some.inj H;go_enter Try.func121,Try.ntmps121;go_wp2;go_ret;exact ⟨by first|rfl|(simp [Na,Ma] <;> rfl)|(simp [*,Na,Ma] <;> rfl),by repeat (first|(with_reducible first|exact HB.out|apply ta|apply ja|apply ua)|exact HB.out)⟩
 ·rw [if_neg c2] at H;have gy:decide (a0 ≤ 0)=false:=decide_eq_false c2;clear c2;have H':=ia.mk H;clear H;go_enter Try.func121,Try.ntmps121;go_wp2
  go_loopg [0,3] k (fun kq v0 v3 w'=>∃ (Ye:Int) (Ze:ByteArray),v0 = .int .i64 Ye∧v3 = .string Ze∧ia (ld.l0 kq Ye Ze=some r)∧ia (kq ≤ k)∧ia (Below w.heap.size w w'))
  case atStart=>exact ⟨(a0),((⟨#[]⟩:ByteArray)),(by first|rfl|(simp;done)|(simp [*];done)),(by first|rfl|(simp;done)|(simp [*];done)),H',⟨Nat.le_refl _⟩,⟨by repeat (first|(with_reducible first|exact HB.out|apply ta|apply ja|apply ua)|exact HB.out)⟩⟩
  case round =>
   clear H'
   try clear c1
   try clear c2
   try clear gy
   try clear p2
   (try clear HA);(try clear Wh);(try clear HB);obtain ⟨Ye,Ze,rfl,rfl,HA,Wh,HB⟩:=hrel;cases gk with
   | zero=>exact absurd HA.out (by simp [ld.l0])
   | succ k1 =>
    have H:=HA.out;clear HA;simp only [ld.l0] at H
    by_cases c3:Ye > 0
    ·rw [if_pos c3] at H;have Xh:decide (0 < Ye)=true:=decide_eq_true c3;clear c3;obtain ⟨bg,jg⟩:∃ y_:List Int,y_=(([(wrap64 (48 + (Int.tmod Ye 10))) % 256]:List Int)):=⟨_,rfl⟩;replace H:(if (strOfNums bg).size + Ze.size ≤ 9223372036854775807 then (ld.l0 k1 (wrap64 (Int.tdiv Ye 10)) ((strOfNums bg) ++ Ze)) else (none))=some r:=by first|(rw [jg];with_reducible exact H)|(have lg:=(Option.bind_some _ _).symm.trans H;rw [jg];with_reducible exact lg)|(have lg:=(Option.bind_some _ _).symm.trans H;with_reducible exact lg)|with_reducible exact H|(rw [jg];exact H)|exact H
     have wk:=ia.mk jg;clear jg
     by_cases c4:(strOfNums bg).size + Ze.size ≤ 9223372036854775807
     ·rw [if_pos c4] at H;have Zi:=eq_true c4;have WM:decide ((strOfNums bg).size + Ze.size ≤ 9223372036854775807)=true:=decide_eq_true c4
      try have Xaz:(9223372036854775807 < (strOfNums bg).size + Ze.size)=False:=eq_false (Nat.not_lt.2 c4)
      have H':=ia.mk H;clear H;go_wp2_with (first|((with_reducible refine Ib (N:=12) rfl ?_);refine Kd.Dt (Kd.int .u8) _ 5 ?hg (N:=12) ?hd (xs:=([(wrap64 (48 + (Int.tmod Ye 10))) % 256]:List Int)) (inner:=[.int .u8 ((wrap64 (48 + (Int.tmod Ye 10))) % 256)]) (ok:=fun _=>True) (zk:=fun _=>True) ?hr ?hp (fun _ hk=>hk) trivial (Below.refl _ _) (Nat.le_refl _) (by simp) ?_;(case hd=>rfl);(case hg=>rfl);(case hr=>first|(go_simp;done)|(go_simp;rfl));(case hp=>exact (af.one (show Kd.M (Kd.int .u8) _ _ _ ((wrap64 (48 + (Int.tmod Ye 10))) % 256) [.int .u8 ((wrap64 (48 + (Int.tmod Ye 10))) % 256)] from rfl) (af.none _ _)));intro fF w5 n7 hb jA Fj;clear jA Fj;(first|rw [← wk.out] at n7|(simp only [Int.reduceToNat] at n7;rw [← wk.out] at n7));have Kb:=ia.mk (Kd.xh n7 (Sa (by repeat (first|(with_reducible first|exact HB.out|apply ta|apply ja|apply ua)|exact HB.out))));have Ub:=ia.mk (Ra (by repeat (first|(with_reducible first|exact HB.out|apply ta|apply ja|apply ua)|exact HB.out)) hb);clear HB;have Jp:=Kb;have HB:=Ub;clear Kb Ub hb n7;have vaz:=mH (P:=Try.prog) Try.underlying177 Try.underlying5 Try.underlying9 (Kd.Xz Jp.out)))
      go_roundg k1
      case measure=>have:=Wh.out;omega
      case rel=>exact ⟨(wrap64 (Int.tdiv Ye 10)),((strOfNums bg) ++ Ze),(by first|rfl|(simp;done)|(simp [*];done)),(by first|rfl|(simp;done)|(simp [*];done)),H',⟨by have:=Wh.out;omega⟩,⟨by repeat (first|(with_reducible first|exact HB.out|apply ta|apply ja|apply ua)|exact HB.out)⟩⟩
     ·rw [if_neg c4] at H;exact absurd H (by simp)
    ·rw [if_neg c3] at H;have Xh:decide (0 < Ye)=false:=decide_eq_false c3;clear c3
     by_cases c8:1 + Ze.size ≤ 9223372036854775807
     ·rw [if_pos c8] at H;have Gp:=eq_true c8;have fy:decide (1 + Ze.size ≤ 9223372036854775807)=true:=decide_eq_true c8
      try have Waz:(9223372036854775807 < 1 + Ze.size)=False:=eq_false (Nat.not_lt.2 c8)
      obtain rfl:=Option.some.inj H;go_wp2;go_ret;exact ⟨by first|rfl|(simp [Na,Ma] <;> rfl)|(simp [*,Na,Ma] <;> rfl),by repeat (first|(with_reducible first|exact HB.out|apply ta|apply ja|apply ua)|exact HB.out)⟩
     ·rw [if_neg c8] at H;exact absurd H (by simp)
end Go.Proofs.Ytmifdccaajngcaa.P
end
