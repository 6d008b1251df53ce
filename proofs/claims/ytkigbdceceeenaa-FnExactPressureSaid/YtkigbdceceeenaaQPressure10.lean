import Derived.Test.YtkigbdceceeenaaQPressure1
import Derived.Test.YtkigbdceceeenaaQPressure9
import Derived.Test.YtkigbdceceeenaaQPressure8
import Derived.Test.YtkigbdceceeenaaQPressure7
import Derived.Test.YtkigbdceceeenaaQPressure6
import Derived.Test.YtkigbdceceeenaaQPressure3
import Derived.Test.YtkigbdceceeenaaQPressure2
import Derived.Test.YtkigbdceceeenaaQPressure4
import Derived.Shelf.Abstract
import Derived.Test.YtkigbdceceeenaaQPressure5
set_option maxHeartbeats 8000000
set_option maxRecDepth 100000
section
namespace Go.Proofs.Ytkigbdceceeenaa.P
open Go.RowKit Go.Proofs.Oa.Wb Go.Proofs.Oa.Vd Go.Proofs.Oa.Xe
set_option linter.unusedVariables false
set_option linter.unusedSimpArgs false
attribute [local go_sem] bh Gh Ki Cj Mg Lg Hh Fh
def fh.f (Pa:List Int) (Ka:Int) (Ga:Int) (Ia:Int) (Da:List (Ce)) (l1:List (List Bool)) (a2:Int):Option (List Bool):=(some (([]:List Bool):List Bool)).bind fun Te=>(if 0 ≤ a2 then (if a2 < (l1.length:Int) then (if Te.length + (Md l1 a2).length < 140737488355328 then ((some (Te ++ (Md l1 a2):List Bool)).bind fun Xk=>(if a2 < (Da.length:Int) then (if ((Aa Da a2).f1)=0 then (some Xk) else (if 0 ≤ ((Aa Da a2).f2) then (if ((Aa Da a2).f2) < (Xk.length:Int) then (some (Xk.set (((Aa Da a2).f2):Int).toNat true)) else (none)) else (none))) else (none))) else (none)) else (none)) else (none))
theorem fh.calls (Ya:Option Addr) (Za:Nat) (Pa:List Int) (Ka:Int) (Ga:Int) (Ia:Int) (Vb:Option Addr) (Jb:Nat) (Da:List (Ce)) (A1:Option Addr) (c1:Nat) (l1:List (List Bool)) (a2:Int) (r:List Bool) (w:World) (Wd:Kd.C (Kd.int .i64) w Ya Pa.length Pa) (Sd:Pa.length ≤ Za) (zf:Kd.C Mt w Vb Da.length Da) (uf:Da.length ≤ Jb) (Ht:Kd.C (Kd.slice 4 Kd.bool) w A1 l1.length l1) (Tt:l1.length ≤ c1) (h:fh.f Pa Ka Ga Ia Da l1 a2=some r) :
  Calls Try.prog 81 #[.agg #[.slice Ya Pa.length Za,.int .i64 Ka,.int .i64 Ga,.int .i64 Ia,.slice Vb Da.length Jb],.slice A1 l1.length c1,.int .i64 a2] w fun e w'=>∃ kn:Value,e = .returned (kn)∧Kd.R Kd.bool 4 w' w.heap.size (fun _=>True) kn r∧Below w.heap.size w w':=by
 have LD:=Try.underlying30;have mz:=Try.underlying59;have qe:=ja.mk Wd;have Be:=ja.mk Sd;clear Wd Sd;have Hf:=ja.mk zf;have Tg:=ja.mk uf;clear zf uf;have kD:=ja.mk Ht;have GS:=ja.mk Tt;clear Ht Tt;have HB:=ja.mk (Below.refl w.heap.size w);have H:((some (([]:List Bool):List Bool)).bind fun Te=>(if 0 ≤ a2 then (if a2 < (l1.length:Int) then (if Te.length + (Md l1 a2).length < 140737488355328 then ((some (Te ++ (Md l1 a2):List Bool)).bind fun Xk=>(if a2 < (Da.length:Int) then (if ((Aa Da a2).f1)=0 then (some Xk) else (if 0 ≤ ((Aa Da a2).f2) then (if ((Aa Da a2).f2) < (Xk.length:Int) then (some (Xk.set (((Aa Da a2).f2):Int).toNat true)) else (none)) else (none))) else (none))) else (none)) else (none)) else (none)))=some r:=h;clear h;obtain ⟨Te,Vf⟩:∃ y_:List Bool,y_=(([]:List Bool)):=⟨_,rfl⟩;replace H:(if 0 ≤ a2 then (if a2 < (l1.length:Int) then (if Te.length + (Md l1 a2).length < 140737488355328 then ((some (Te ++ (Md l1 a2):List Bool)).bind fun Xk=>(if a2 < (Da.length:Int) then (if ((Aa Da a2).f1)=0 then (some Xk) else (if 0 ≤ ((Aa Da a2).f2) then (if ((Aa Da a2).f2) < (Xk.length:Int) then (some (Xk.set (((Aa Da a2).f2):Int).toNat true)) else (none)) else (none))) else (none))) else (none)) else (none)) else (none))=some r:=by first|(rw [Vf];with_reducible exact H)|(have ue:=(Option.bind_some _ _).symm.trans H;rw [Vf];with_reducible exact ue)|(have ue:=(Option.bind_some _ _).symm.trans H;with_reducible exact ue)|with_reducible exact H|(rw [Vf];exact H)|exact H
 have mj:=ja.mk Vf;clear Vf
 by_cases c4:0 ≤ a2
 ·rw [if_pos c4] at H;have Mk:decide (0 ≤ a2)=true:=decide_eq_true c4;clear c4
  by_cases c5:a2 < (l1.length:Int)
  ·rw [if_pos c5] at H;have sj:decide (a2 < (l1.length:Int))=true:=decide_eq_true c5;clear c5
   by_cases c6:Te.length + (Md l1 a2).length < 140737488355328
   ·rw [if_pos c6] at H;have R_:=ja.mk c6;clear c6;obtain ⟨Xk,EH⟩:∃ y_:List Bool,y_=(Te ++ (Md l1 a2)):=⟨_,rfl⟩;replace H:(if a2 < (Da.length:Int) then (if ((Aa Da a2).f1)=0 then (some Xk) else (if 0 ≤ ((Aa Da a2).f2) then (if ((Aa Da a2).f2) < (Xk.length:Int) then (some (Xk.set (((Aa Da a2).f2):Int).toNat true)) else (none)) else (none))) else (none))=some r:=by first|(rw [EH];with_reducible exact H)|(have ue:=(Option.bind_some _ _).symm.trans H;rw [EH];with_reducible exact ue)|(have ue:=(Option.bind_some _ _).symm.trans H;with_reducible exact ue)|with_reducible exact H|(rw [EH];exact H)|exact H
    have nX:=ja.mk EH;clear EH
    by_cases c7:a2 < (Da.length:Int)
    ·rw [if_pos c7] at H;have Tj:decide (a2 < (Da.length:Int))=true:=decide_eq_true c7;clear c7
     by_cases c8:((Aa Da a2).f1)=0
     ·rw [if_pos c8] at H;have Gq:(((Aa Da a2).f1) == 0)=true:=beq_iff_eq.mpr c8;have dK:(((Aa Da a2).f1) != 0)=false:=bne_eq_false_iff_eq.mpr c8;clear c8;obtain rfl:=Option.some.inj H;go_enter Try.func81,Try.ntmps81;go_wp2_with (first|((with_reducible refine yb (N:=3) rfl ?_);refine Gb ?hg (N:=3) ?hd (cs:=#[.slice Ya Pa.length Za,.int .i64 Ka,.int .i64 Ga,.int .i64 Ia,.slice Vb Da.length Jb]) (t:=30) ?hr ?_;(case hd=>rfl);(case hg=>rfl);(case hr=>first|(go_simp;done)|(go_simp;rfl));intro ya hg w9 Qb hb;have Fb:=ja.mk (Qa (by repeat (first|(with_reducible first|exact HB.out|apply qa|apply ia|apply ta)|exact HB.out)) hb);have Ib:=ja.mk (Qb);have Sb:=ja.mk ((by rw [hg];exact (Fa (by repeat (first|(with_reducible first|exact HB.out|apply qa|apply ia|apply ta)|exact HB.out))):w.heap.size ≤ ya));have Ec:=ja.mk ((by rw [hg];exact (Fa (by repeat (first|(with_reducible first|exact HB.out|apply qa|apply ia|apply ta)|exact HB.out))):w.heap.size ≤ ya));clear HB;have HB:=Fb;have oa:=Ib;have yd:=Sb;have Sa:=Ec;clear Fb Ib Sb Ec hb Qb hg)|((with_reducible refine yb (N:=9) rfl ?_);refine Kd.xj Kd.bool _ 4 ?hg (N:=9) ?hd (xs:=([]:List Bool)) (inner:=[]) (ok:=fun _=>True) (ri:=fun _=>True) ?hr ?hp (fun _ hk=>hk) trivial (Below.refl _ _) (Nat.le_refl _) (by simp) ?_;(case hd=>rfl);(case hg=>rfl);(case hr=>first|(go_simp;done)|(go_simp;rfl));(case hp=>exact (zd.none _ _));intro zn Lt Wn hb en Ve;clear en Ve;(first|rw [← mj.out] at Wn|(simp only [Int.reduceToNat] at Wn;rw [← mj.out] at Wn));have Fb:=ja.mk (Kd.Rd Wn (Fa (by repeat (first|(with_reducible first|exact HB.out|apply qa|apply ia|apply ta|refine ua ?_ Sa.out)|exact HB.out))));have Ib:=ja.mk (Ua (g:=ya) (o:=.cells #[.slice Ya Pa.length Za,.int .i64 Ka,.int .i64 Ga,.int .i64 Ia,.slice Vb Da.length Jb] 30 (0,0)) (by (with_reducible repeat (first|refine Ba ?_ _|refine Ea ?_|refine Ca ?_ _));exact oa.out) hb);have Sb:=ja.mk (Qa (by repeat (first|(with_reducible first|exact HB.out|apply qa|apply ia|apply ta|refine ua ?_ Sa.out)|exact HB.out)) hb);clear oa HB;have Xg:=Fb;have oa:=Ib;have HB:=Sb;clear Fb Ib Sb hb Wn;have Cn:0 ≤ (a2:Int):=Wa;have Bn:a2 < (l1.length:Int):=Wa;obtain ⟨mm,Wj,Uj,VC,Ug,Ti,Vi⟩:=Wv kD.out a2 Cn Bn;cases VC;replace Ug:=Na HB.out Ug;have vo:=ja.mk Vi;have ov:=ja.mk Ti;clear Vi Ti;replace Cn:=eq_true Cn;replace Bn:=eq_true Bn)|((with_reducible refine Ud (b:=.append) (xs:=#[.tmp 9,.tmp 13]) rfl ?_);at_builtin;refine Kd.Fi Kd.bool (w0:=w) w.heap.size rfl (.tmp 9) (.tmp 13) 60 4 (.bool false) 1 rfl Try.underlying60 Wz rfl (by decide) (by omega) zn Te (Md l1 a2) _ _ _ (fun _=>True) (fun _=>False) rfl rfl ?aO ?aR (fun _ _ h=>h) (fun _ h=>h.elim) ?aF ?aB ?aS ?aL ?_;(case aR=>repeat (first|exact (Kd.Ob vo.out HB.out)|(with_reducible refine Kd.Pb ?_ _)|(with_reducible refine Kd.Nb ?_ _)|(with_reducible refine Kd.Zb ?_)));(case aB=>exact (by repeat (first|(with_reducible first|exact HB.out|apply qa|apply ia|apply ta|refine ua ?_ Sa.out)|exact HB.out)));(case aF=>exact (fun _ _=>trivial));(case aO=>exact (by (with_reducible repeat (first|apply Kd.Ab|apply Kd.zb|apply Kd.Rb));exact Xg.out));(case aS=>exact (Fa (by repeat (first|(with_reducible first|exact HB.out|apply qa|apply ia|apply ta|refine ua ?_ Sa.out)|exact HB.out))));(case aL=>have:=R_.out;omega);intro X2 Vt ho hb hg hat;rw [← nX.out] at ho;have Fb:=ja.mk (Ed (g:=ya) (o:=.cells #[.slice Ya Pa.length Za,.int .i64 Ka,.int .i64 Ga,.int .i64 Ia,.slice Vb Da.length Jb] 30 (0,0)) (by (with_reducible repeat (first|refine Ba ?_ _|refine Ea ?_|refine Ca ?_ _));exact oa.out) hg (Kd.Vj Xg.out oa.out (by decide)));have Ib:=ja.mk (hb);have Sb:=ja.mk (ho);clear oa HB Xg;have oa:=Fb;have HB:=Ib;have Wk:=Sb;clear Fb Ib Sb ho hb hg hat;have Mp:Vt.cell? ⟨ya,0,none⟩=some (.slice Ya Pa.length Za):=(ga oa.out 0).trans rfl;have Lp:Vt.cell? ⟨ya,1,none⟩=some (.int .i64 Ka):=(ga oa.out 1).trans rfl;have Kp:Vt.cell? ⟨ya,2,none⟩=some (.int .i64 Ga):=(ga oa.out 2).trans rfl;have Jp:Vt.cell? ⟨ya,3,none⟩=some (.int .i64 Ia):=(ga oa.out 3).trans rfl;have Ip:Vt.cell? ⟨ya,4,none⟩=some (.slice Vb Da.length Jb):=(ga oa.out 4).trans rfl;have Cp:=aa oa.out 0;have Bp:=aa oa.out 1;have Ap:=aa oa.out 2;have zp:=aa oa.out 3;have yp:=aa oa.out 4;have Xq:0 ≤ (a2:Int):=Wa;have Vq:a2 < (Da.length:Int):=Wa;obtain ⟨kg,dm,Yl,HG,Qi,Oi,Ni,Mi,Li,Si,Ui⟩:=ki Hf.out a2 Xq Vq;cases HG;replace Qi:=Na HB.out Qi;replace Oi:=Na HB.out Oi;replace Ni:=Na HB.out Ni;replace Mi:=Na HB.out Mi;replace Li:=Na HB.out Li;have XB:=ja.mk Ui;have YB:=ja.mk Si;clear Ui Si;replace Xq:=eq_true Xq;replace Vq:=eq_true Vq)|((with_reducible refine yb (N:=8) rfl ?_);refine Gb ?hg (N:=8) ?hd (cs:=#[.slice none 0 0,.int .i64 0,.int .i64 0,.int .i64 0,.int .i64 0]) (t:=59) ?hr ?_;(case hd=>rfl);(case hg=>rfl);(case hr=>first|(go_simp;done)|(go_simp;rfl));intro Wf hg rA Qb hb;have Fb:=ja.mk (Kd.dg (by (with_reducible repeat (first|apply Kd.Ab|apply Kd.zb|apply Kd.Rb));exact Wk.out) hb);have Ib:=ja.mk (Ua (g:=ya) (o:=.cells #[.slice Ya Pa.length Za,.int .i64 Ka,.int .i64 Ga,.int .i64 Ia,.slice (some kg) Da.length Jb] 30 (0,0)) (by (with_reducible repeat (first|refine Ba ?_ _|refine Ea ?_|refine Ca ?_ _));exact oa.out) hb);have Sb:=ja.mk (Qa (by repeat (first|(with_reducible first|exact HB.out|apply qa|apply ia|apply ta|refine ua ?_ Sa.out)|exact HB.out)) hb);have Ec:=ja.mk (Qb);have Re:=ja.mk ((by rw [hg];exact (Fa (by repeat (first|(with_reducible first|exact HB.out|apply qa|apply ia|apply ta|refine ua ?_ Sa.out)|exact HB.out))):w.heap.size ≤ Wf));have Gf:=ja.mk ((by rw [hg];exact (Fa (by repeat (first|(with_reducible first|exact HB.out|apply qa|apply ia|apply ta|refine ua ?_ Sa.out)|exact HB.out))):w.heap.size ≤ Wf));have Yf:=ja.mk ((by rw [hg];exact Nat.ne_of_lt (Jc (g:=ya) (o:=.cells #[.slice Ya Pa.length Za,.int .i64 Ka,.int .i64 Ga,.int .i64 Ia,.slice (some kg) Da.length Jb] 30 (0,0)) (by (with_reducible repeat (first|refine Ba ?_ _|refine Ea ?_|refine Ca ?_ _));exact oa.out)):ya ≠ Wf));have tw:=ja.mk ((by rw [hg];exact Nat.ne_of_gt (Jc (g:=ya) (o:=.cells #[.slice Ya Pa.length Za,.int .i64 Ka,.int .i64 Ga,.int .i64 Ia,.slice (some kg) Da.length Jb] 30 (0,0)) (by (with_reducible repeat (first|refine Ba ?_ _|refine Ea ?_|refine Ca ?_ _));exact oa.out)):Wf ≠ ya));clear Wk oa HB;have Wk:=Fb;have oa:=Ib;have HB:=Sb;have Zf:=Ec;have Daa:=Re;have mO:=Gf;have Vk:=Yf;have Nz:=tw;clear Fb Ib Sb Ec Re Gf Yf tw hb Qb hg;have I4:=Nz.out;have Z3:=Vk.out;have ji:rA.cell? ⟨Wf,0,none⟩=some (.slice none 0 0):=(ga Zf.out 0).trans rfl;have ei:rA.cell? ⟨Wf,1,none⟩=some (.int .i64 0):=(ga Zf.out 1).trans rfl;have di:rA.cell? ⟨Wf,2,none⟩=some (.int .i64 0):=(ga Zf.out 2).trans rfl;have ai:rA.cell? ⟨Wf,3,none⟩=some (.int .i64 0):=(ga Zf.out 3).trans rfl;have Zh:rA.cell? ⟨Wf,4,none⟩=some (.int .i64 0):=(ga Zf.out 4).trans rfl;have Yh:=aa Zf.out 0;have Xh:=aa Zf.out 1;have Wh:=aa Zf.out 2;have Vh:=aa Zf.out 3;have Uh:=aa Zf.out 4));go_ret;exact ⟨_,by first|rfl|(simp [Ma,La] <;> rfl)|(simp [*,Ma,La] <;> rfl),by (with_reducible repeat (first|apply Kd.Ab|apply Kd.zb|apply Kd.Rb));exact Kd.fe (Kd.Bf (p:=⟨Wf,4,none⟩) (Kd.Bf (p:=⟨Wf,3,none⟩) (Kd.Bf (p:=⟨Wf,2,none⟩) (Kd.Bf (p:=⟨Wf,1,none⟩) (Kd.Bf (p:=⟨Wf,0,none⟩) (Kd.Zl Wk.out Zf.out (by decide)) (fun _ hk=>hk.2) (.slice dm ((Aa Da a2).f0).length Yl)) (fun _ hk=>hk.2) (.int .i64 ((Aa Da a2).f1))) (fun _ hk=>hk.2) (.int .i64 ((Aa Da a2).f2))) (fun _ hk=>hk.2) (.int .i64 ((Aa Da a2).f3))) (fun _ hk=>hk.2) (.int .i64 ((Aa Da a2).f4))) (fun _ hk=>trivial),by repeat (first|(with_reducible first|exact HB.out|apply qa|apply ia|apply ta|refine ua ?_ Sa.out|refine ua ?_ mO.out)|exact HB.out)⟩
     ·rw [if_neg c8] at H;have Gq:(((Aa Da a2).f1) == 0)=false:=beq_eq_false_iff_ne.mpr c8;have dK:(((Aa Da a2).f1) != 0)=true:=bne_iff_ne.mpr c8
      by_cases lu:0 ≤ ((Aa Da a2).f2)
      ·rw [if_pos lu] at H;have Vp:decide (0 ≤ ((Aa Da a2).f2))=true:=decide_eq_true lu;clear lu
       by_cases xq:((Aa Da a2).f2) < (Xk.length:Int)
       ·rw [if_pos xq] at H;have Mo:decide (((Aa Da a2).f2) < (Xk.length:Int))=true:=decide_eq_true xq;clear xq;obtain ⟨Bo,Sm⟩:∃ y_:List Bool,y_=(Xk.set (((Aa Da a2).f2):Int).toNat true):=⟨_,rfl⟩;replace H:(some Bo)=some r:=by first|(rw [Sm];with_reducible exact H)|(have ue:=(Option.bind_some _ _).symm.trans H;rw [Sm];with_reducible exact ue)|(have ue:=(Option.bind_some _ _).symm.trans H;with_reducible exact ue)|with_reducible exact H|(rw [Sm];exact H)|exact H
        have sE:=ja.mk Sm;clear Sm;obtain rfl:=Option.some.inj H;go_enter Try.func81,Try.ntmps81;go_wp2_with (first|((with_reducible refine yb (N:=3) rfl ?_);refine Gb ?hg (N:=3) ?hd (cs:=#[.slice Ya Pa.length Za,.int .i64 Ka,.int .i64 Ga,.int .i64 Ia,.slice Vb Da.length Jb]) (t:=30) ?hr ?_;(case hd=>rfl);(case hg=>rfl);(case hr=>first|(go_simp;done)|(go_simp;rfl));intro ya hg w20 Qb hb;have Fb:=ja.mk (Qa (by repeat (first|(with_reducible first|exact HB.out|apply qa|apply ia|apply ta)|exact HB.out)) hb);have Ib:=ja.mk (Qb);have Sb:=ja.mk ((by rw [hg];exact (Fa (by repeat (first|(with_reducible first|exact HB.out|apply qa|apply ia|apply ta)|exact HB.out))):w.heap.size ≤ ya));have Ec:=ja.mk ((by rw [hg];exact (Fa (by repeat (first|(with_reducible first|exact HB.out|apply qa|apply ia|apply ta)|exact HB.out))):w.heap.size ≤ ya));clear HB;have HB:=Fb;have oa:=Ib;have yd:=Sb;have Sa:=Ec;clear Fb Ib Sb Ec hb Qb hg)|((with_reducible refine yb (N:=9) rfl ?_);refine Kd.xj Kd.bool _ 4 ?hg (N:=9) ?hd (xs:=([]:List Bool)) (inner:=[]) (ok:=fun _=>True) (ri:=fun _=>True) ?hr ?hp (fun _ hk=>hk) trivial (Below.refl _ _) (Nat.le_refl _) (by simp) ?_;(case hd=>rfl);(case hg=>rfl);(case hr=>first|(go_simp;done)|(go_simp;rfl));(case hp=>exact (zd.none _ _));intro zn kH MQ hb en Ve;clear en Ve;(first|rw [← mj.out] at MQ|(simp only [Int.reduceToNat] at MQ;rw [← mj.out] at MQ));have Fb:=ja.mk (Kd.Rd MQ (Fa (by repeat (first|(with_reducible first|exact HB.out|apply qa|apply ia|apply ta|refine ua ?_ Sa.out)|exact HB.out))));have Ib:=ja.mk (Ua (g:=ya) (o:=.cells #[.slice Ya Pa.length Za,.int .i64 Ka,.int .i64 Ga,.int .i64 Ia,.slice Vb Da.length Jb] 30 (0,0)) (by (with_reducible repeat (first|refine Ba ?_ _|refine Ea ?_|refine Ca ?_ _));exact oa.out) hb);have Sb:=ja.mk (Qa (by repeat (first|(with_reducible first|exact HB.out|apply qa|apply ia|apply ta|refine ua ?_ Sa.out)|exact HB.out)) hb);clear oa HB;have Xg:=Fb;have oa:=Ib;have HB:=Sb;clear Fb Ib Sb hb MQ;have Cn:0 ≤ (a2:Int):=Wa;have Bn:a2 < (l1.length:Int):=Wa;obtain ⟨mm,Wj,Uj,VC,Ug,Ti,Vi⟩:=Wv kD.out a2 Cn Bn;cases VC;replace Ug:=Na HB.out Ug;have vo:=ja.mk Vi;have ov:=ja.mk Ti;clear Vi Ti;replace Cn:=eq_true Cn;replace Bn:=eq_true Bn)|((with_reducible refine Ud (b:=.append) (xs:=#[.tmp 9,.tmp 13]) rfl ?_);at_builtin;refine Kd.Fi Kd.bool (w0:=w) w.heap.size rfl (.tmp 9) (.tmp 13) 60 4 (.bool false) 1 rfl Try.underlying60 Wz rfl (by decide) (by omega) zn Te (Md l1 a2) _ _ _ (fun _=>True) (fun _=>False) rfl rfl ?aO ?aR (fun _ _ h=>h) (fun _ h=>h.elim) ?aF ?aB ?aS ?aL ?_;(case aR=>repeat (first|exact (Kd.Ob vo.out HB.out)|(with_reducible refine Kd.Pb ?_ _)|(with_reducible refine Kd.Nb ?_ _)|(with_reducible refine Kd.Zb ?_)));(case aB=>exact (by repeat (first|(with_reducible first|exact HB.out|apply qa|apply ia|apply ta|refine ua ?_ Sa.out)|exact HB.out)));(case aF=>exact (fun _ _=>trivial));(case aO=>exact (by (with_reducible repeat (first|apply Kd.Ab|apply Kd.zb|apply Kd.Rb));exact Xg.out));(case aS=>exact (Fa (by repeat (first|(with_reducible first|exact HB.out|apply qa|apply ia|apply ta|refine ua ?_ Sa.out)|exact HB.out))));(case aL=>have:=R_.out;omega);intro X2 vD ho hb hg hat;rw [← nX.out] at ho;have Fb:=ja.mk (Ed (g:=ya) (o:=.cells #[.slice Ya Pa.length Za,.int .i64 Ka,.int .i64 Ga,.int .i64 Ia,.slice Vb Da.length Jb] 30 (0,0)) (by (with_reducible repeat (first|refine Ba ?_ _|refine Ea ?_|refine Ca ?_ _));exact oa.out) hg (Kd.Vj Xg.out oa.out (by decide)));have Ib:=ja.mk (hb);have Sb:=ja.mk (ho);clear oa HB Xg;have oa:=Fb;have HB:=Ib;have Wk:=Sb;clear Fb Ib Sb ho hb hg hat;have Ls:vD.cell? ⟨ya,0,none⟩=some (.slice Ya Pa.length Za):=(ga oa.out 0).trans rfl;have Ks:vD.cell? ⟨ya,1,none⟩=some (.int .i64 Ka):=(ga oa.out 1).trans rfl;have Js:vD.cell? ⟨ya,2,none⟩=some (.int .i64 Ga):=(ga oa.out 2).trans rfl;have Hs:vD.cell? ⟨ya,3,none⟩=some (.int .i64 Ia):=(ga oa.out 3).trans rfl;have Gs:vD.cell? ⟨ya,4,none⟩=some (.slice Vb Da.length Jb):=(ga oa.out 4).trans rfl;have Hr:=aa oa.out 0;have Gr:=aa oa.out 1;have Er:=aa oa.out 2;have Dr:=aa oa.out 3;have Cr:=aa oa.out 4;have Xq:0 ≤ (a2:Int):=Wa;have Vq:a2 < (Da.length:Int):=Wa;obtain ⟨kg,dm,Yl,HG,Qi,Oi,Ni,Mi,Li,Si,Ui⟩:=ki Hf.out a2 Xq Vq;cases HG;replace Qi:=Na HB.out Qi;replace Oi:=Na HB.out Oi;replace Ni:=Na HB.out Ni;replace Mi:=Na HB.out Mi;replace Li:=Na HB.out Li;have XB:=ja.mk Ui;have YB:=ja.mk Si;clear Ui Si;replace Xq:=eq_true Xq;replace Vq:=eq_true Vq)|((with_reducible refine yb (N:=8) rfl ?_);refine Gb ?hg (N:=8) ?hd (cs:=#[.slice none 0 0,.int .i64 0,.int .i64 0,.int .i64 0,.int .i64 0]) (t:=59) ?hr ?_;(case hd=>rfl);(case hg=>rfl);(case hr=>first|(go_simp;done)|(go_simp;rfl));intro Wf hg Zv Qb hb;have Fb:=ja.mk (Kd.dg (by (with_reducible repeat (first|apply Kd.Ab|apply Kd.zb|apply Kd.Rb));exact Wk.out) hb);have Ib:=ja.mk (Ua (g:=ya) (o:=.cells #[.slice Ya Pa.length Za,.int .i64 Ka,.int .i64 Ga,.int .i64 Ia,.slice (some kg) Da.length Jb] 30 (0,0)) (by (with_reducible repeat (first|refine Ba ?_ _|refine Ea ?_|refine Ca ?_ _));exact oa.out) hb);have Sb:=ja.mk (Qa (by repeat (first|(with_reducible first|exact HB.out|apply qa|apply ia|apply ta|refine ua ?_ Sa.out)|exact HB.out)) hb);have Ec:=ja.mk (Qb);have Re:=ja.mk ((by rw [hg];exact (Fa (by repeat (first|(with_reducible first|exact HB.out|apply qa|apply ia|apply ta|refine ua ?_ Sa.out)|exact HB.out))):w.heap.size ≤ Wf));have Gf:=ja.mk ((by rw [hg];exact (Fa (by repeat (first|(with_reducible first|exact HB.out|apply qa|apply ia|apply ta|refine ua ?_ Sa.out)|exact HB.out))):w.heap.size ≤ Wf));have Yf:=ja.mk ((by rw [hg];exact Nat.ne_of_lt (Jc (g:=ya) (o:=.cells #[.slice Ya Pa.length Za,.int .i64 Ka,.int .i64 Ga,.int .i64 Ia,.slice (some kg) Da.length Jb] 30 (0,0)) (by (with_reducible repeat (first|refine Ba ?_ _|refine Ea ?_|refine Ca ?_ _));exact oa.out)):ya ≠ Wf));have tw:=ja.mk ((by rw [hg];exact Nat.ne_of_gt (Jc (g:=ya) (o:=.cells #[.slice Ya Pa.length Za,.int .i64 Ka,.int .i64 Ga,.int .i64 Ia,.slice (some kg) Da.length Jb] 30 (0,0)) (by (with_reducible repeat (first|refine Ba ?_ _|refine Ea ?_|refine Ca ?_ _));exact oa.out)):Wf ≠ ya));clear Wk oa HB;have Wk:=Fb;have oa:=Ib;have HB:=Sb;have Zf:=Ec;have Daa:=Re;have mO:=Gf;have Vk:=Yf;have Nz:=tw;clear Fb Ib Sb Ec Re Gf Yf tw hb Qb hg;have KW:=Nz.out;have EW:=Vk.out;have Lm:Zv.cell? ⟨Wf,0,none⟩=some (.slice none 0 0):=(ga Zf.out 0).trans rfl;have Km:Zv.cell? ⟨Wf,1,none⟩=some (.int .i64 0):=(ga Zf.out 1).trans rfl;have Jm:Zv.cell? ⟨Wf,2,none⟩=some (.int .i64 0):=(ga Zf.out 2).trans rfl;have Im:Zv.cell? ⟨Wf,3,none⟩=some (.int .i64 0):=(ga Zf.out 3).trans rfl;have Gm:Zv.cell? ⟨Wf,4,none⟩=some (.int .i64 0):=(ga Zf.out 4).trans rfl;have Fm:=aa Zf.out 0;have Em:=aa Zf.out 1;have Dm:=aa Zf.out 2;have Cm:=aa Zf.out 3;have Bm:=aa Zf.out 4)|((with_reducible refine Pg (t:=59) (p:=8) rfl ?_);refine pg (t:=59) (p:=8) (v:=?sai) (w1:=(((((Zv.setCell ⟨Wf,0,none⟩ (.slice dm ((Aa Da a2).f0).length Yl)).setCell ⟨Wf,1,none⟩ (.int .i64 ((Aa Da a2).f1))).setCell ⟨Wf,2,none⟩ (.int .i64 ((Aa Da a2).f2))).setCell ⟨Wf,3,none⟩ (.int .i64 ((Aa Da a2).f3))).setCell ⟨Wf,4,none⟩ (.int .i64 ((Aa Da a2).f4)))) ?hg ?ho ?hn ?hr ?_;(case ho=>rfl);(case hg=>rfl);(case hn=>rfl);(case hr=>first|(go_simp;done)|(go_simp;rfl));intro Mv hw;have Fb:ja (Kd.R Kd.bool 4 Mv w.heap.size (fun _=>True) X2 Xk):=⟨(by rw [hw];exact (by (with_reducible repeat (first|apply Kd.Ab|apply Kd.zb|apply Kd.Rb));exact Kd.fe (Kd.Bf (p:=⟨Wf,4,none⟩) (Kd.Bf (p:=⟨Wf,3,none⟩) (Kd.Bf (p:=⟨Wf,2,none⟩) (Kd.Bf (p:=⟨Wf,1,none⟩) (Kd.Bf (p:=⟨Wf,0,none⟩) (Kd.Zl Wk.out Zf.out (by decide)) (fun _ hk=>hk.2) (.slice dm ((Aa Da a2).f0).length Yl)) (fun _ hk=>hk.2) (.int .i64 ((Aa Da a2).f1))) (fun _ hk=>hk.2) (.int .i64 ((Aa Da a2).f2))) (fun _ hk=>hk.2) (.int .i64 ((Aa Da a2).f3))) (fun _ hk=>hk.2) (.int .i64 ((Aa Da a2).f4))) (fun _ hk=>trivial)))⟩;have Ib:ja (Mv.heap[ya]? = some (.cells #[.slice Ya Pa.length Za,.int .i64 Ka,.int .i64 Ga,.int .i64 Ia,.slice (some kg) Da.length Jb] 30 (0,0))):=⟨(by rw [hw];exact (by (with_reducible repeat (first|refine Ba ?_ _|refine Ea ?_|refine Ca ?_ _));refine Bd ?_ Vk.out _;(with_reducible repeat (first|refine Ba ?_ _|refine Ea ?_|refine Ca ?_ _));refine Bd ?_ Vk.out _;(with_reducible repeat (first|refine Ba ?_ _|refine Ea ?_|refine Ca ?_ _));refine Bd ?_ Vk.out _;(with_reducible repeat (first|refine Ba ?_ _|refine Ea ?_|refine Ca ?_ _));refine Bd ?_ Vk.out _;(with_reducible repeat (first|refine Ba ?_ _|refine Ea ?_|refine Ca ?_ _));refine Bd ?_ Vk.out _;(with_reducible repeat (first|refine Ba ?_ _|refine Ea ?_|refine Ca ?_ _));exact oa.out))⟩;have Sb:ja (Mv.heap[Wf]? = some (.cells #[.slice dm ((Aa Da a2).f0).length Yl,.int .i64 ((Aa Da a2).f1),.int .i64 ((Aa Da a2).f2),.int .i64 ((Aa Da a2).f3),.int .i64 ((Aa Da a2).f4)] 59 (0,0))):=⟨(by rw [hw];exact (by (with_reducible repeat (first|refine Ba ?_ _|refine Ea ?_|refine Ca ?_ _));refine Ad (cs:=#[.slice dm ((Aa Da a2).f0).length Yl,.int .i64 ((Aa Da a2).f1),.int .i64 ((Aa Da a2).f2),.int .i64 ((Aa Da a2).f3),.int .i64 0]) ?_ 4 _ rfl;(with_reducible repeat (first|refine Ba ?_ _|refine Ea ?_|refine Ca ?_ _));refine Ad (cs:=#[.slice dm ((Aa Da a2).f0).length Yl,.int .i64 ((Aa Da a2).f1),.int .i64 ((Aa Da a2).f2),.int .i64 0,.int .i64 0]) ?_ 3 _ rfl;(with_reducible repeat (first|refine Ba ?_ _|refine Ea ?_|refine Ca ?_ _));refine Ad (cs:=#[.slice dm ((Aa Da a2).f0).length Yl,.int .i64 ((Aa Da a2).f1),.int .i64 0,.int .i64 0,.int .i64 0]) ?_ 2 _ rfl;(with_reducible repeat (first|refine Ba ?_ _|refine Ea ?_|refine Ca ?_ _));refine Ad (cs:=#[.slice dm ((Aa Da a2).f0).length Yl,.int .i64 0,.int .i64 0,.int .i64 0,.int .i64 0]) ?_ 1 _ rfl;(with_reducible repeat (first|refine Ba ?_ _|refine Ea ?_|refine Ca ?_ _));refine Ad (cs:=#[.slice none 0 0,.int .i64 0,.int .i64 0,.int .i64 0,.int .i64 0]) ?_ 0 _ rfl;(with_reducible repeat (first|refine Ba ?_ _|refine Ea ?_|refine Ca ?_ _));exact Zf.out))⟩;have Ec:ja (Below w.heap.size w Mv):=⟨(by rw [hw];exact (by repeat (first|(with_reducible first|exact HB.out|apply qa|apply ia|apply ta|refine ua ?_ Sa.out|refine ua ?_ mO.out)|exact HB.out)))⟩;clear hw Wk oa Zf HB;have Wk:=Fb;have oa:=Ib;have Zf:=Sb;have HB:=Ec;clear Fb Ib Sb Ec;have AB:Mv.cell? ⟨Wf,0,none⟩=some (.slice dm ((Aa Da a2).f0).length Yl):=(ga Zf.out 0).trans rfl;have zB:Mv.cell? ⟨Wf,1,none⟩=some (.int .i64 ((Aa Da a2).f1)):=(ga Zf.out 1).trans rfl;have yB:Mv.cell? ⟨Wf,2,none⟩=some (.int .i64 ((Aa Da a2).f2)):=(ga Zf.out 2).trans rfl;have xB:Mv.cell? ⟨Wf,3,none⟩=some (.int .i64 ((Aa Da a2).f3)):=(ga Zf.out 3).trans rfl;have wB:Mv.cell? ⟨Wf,4,none⟩=some (.int .i64 ((Aa Da a2).f4)):=(ga Zf.out 4).trans rfl;have RA:=aa Zf.out 0;have QA:=aa Zf.out 1;have PA:=aa Zf.out 2;have OA:=aa Zf.out 3;have NA:=aa Zf.out 4;have p19:0 ≤ (((Aa Da a2).f2):Int):=Wa;have q19:(((Aa Da a2).f2):Int) < ((Xk.length:Int):Int):=Wa;obtain ⟨SY,Qak,z9,j9,pak,waq,xaa⟩:=Kd.gn Wk.out (by omega);(first|cases z9|(injection z9 with Um RD SD;(first|subst Um|(injection Um with Um;subst Um));subst SD;clear RD));have Gal:=ja.mk j9;have iar:=ja.mk xaa;clear j9 pak xaa;obtain ⟨Vai,Yaj⟩:=Kd.Gk false Wk.out (((Aa Da a2).f2):Int) p19 q19;replace p19:=eq_true p19;replace q19:=eq_true q19;obtain ⟨bam,Zal⟩:=Kd.Gk false Wk.out (((Aa Da a2).f2):Int) (Wa) (Wa);have J0:=Kd.yq Wk.out (((Aa Da a2).f2):Int) true)|((with_reducible refine Pg (t:=4) (p:=26) rfl ?_);refine pg (t:=4) (p:=26) (v:=?rai) (w1:=(Mv.setCell ⟨SY,(((Aa Da a2).f2):Int).toNat,none⟩ (.bool true))) ?hg ?ho ?hn ?hr ?_;(case ho=>rfl);(case hg=>rfl);(case hn=>rfl);(case hr=>first|(go_simp;done)|(go_simp;rfl));intro IE hw;have hg:Mv.grownBy IE (some SY):=(by rw [hw];exact J0.2);have qx:Kd.R Kd.bool 4 IE w.heap.size (fun _=>True) (.slice (some ⟨SY,0,none⟩) Xk.length Qak) Bo:=(by rw [hw,sE.out];exact J0.1);clear J0;have Fb:=ja.mk (Ed (g:=ya) (o:=.cells #[.slice Ya Pa.length Za,.int .i64 Ka,.int .i64 Ga,.int .i64 Ia,.slice (some kg) Da.length Jb] 30 (0,0)) (by (with_reducible repeat (first|refine Ba ?_ _|refine Ea ?_|refine Ca ?_ _));exact oa.out) hg (Kd.Vj Wk.out oa.out (by decide)));have Ib:=ja.mk (qx);have Sb:=ja.mk (Ed (g:=Wf) (o:=.cells #[.slice dm ((Aa Da a2).f0).length Yl,.int .i64 ((Aa Da a2).f1),.int .i64 ((Aa Da a2).f2),.int .i64 ((Aa Da a2).f3),.int .i64 ((Aa Da a2).f4)] 59 (0,0)) (by (with_reducible repeat (first|refine Ba ?_ _|refine Ea ?_|refine Ca ?_ _));exact Zf.out) hg (Kd.Vj Wk.out Zf.out (by decide)));have Ec:=ja.mk ((by rw [hw];exact ua (HB.out) Gal.out:Below w.heap.size w IE));clear oa Wk Zf HB;have oa:=Fb;have Wk:=Ib;have Zf:=Sb;have HB:=Ec;clear Fb Ib Sb Ec hg hw qx));go_ret;exact ⟨_,by first|rfl|(simp [Ma,La] <;> rfl)|(simp [*,Ma,La] <;> rfl),by (with_reducible repeat (first|apply Kd.Ab|apply Kd.zb|apply Kd.Rb));exact Wk.out,by repeat (first|(with_reducible first|exact HB.out|apply qa|apply ia|apply ta|refine ua ?_ Sa.out|refine ua ?_ mO.out)|exact HB.out)⟩
       ·rw [if_neg xq] at H;exact absurd H (by simp)
      ·rw [if_neg lu] at H;exact absurd H (by simp)
    ·rw [if_neg c7] at H;exact absurd H (by simp)
   ·rw [if_neg c6] at H;exact absurd H (by simp)
  ·rw [if_neg c5] at H;exact absurd H (by simp)
 ·rw [if_neg c4] at H;exact absurd H (by simp)
def He.l0:Nat→List Bool→List (Rf)→Int→Option (List Bool)
 | 0,_,_,_=>none
 | k + 1,x7,x8,x9=>if x9 ≥ 0 then (if 0 ≤ x9 then (if x9 < (x8.length:Int) then ((Dd.f k x7 ((Ta x8 x9).f0) ((Ta x8 x9).f1) ((Ta x8 x9).f2) ((Ta x8 x9).f3) ((Ta x8 x9).f4) ((Ta x8 x9).f5) ((Ta x8 x9).f6)).bind fun t107=>(He.l0 k t107 x8 (wrap64 (x9 - 1)))) else (none)) else (none)) else (some x7)
def He.f (k:Nat) (Pa:List Int) (Ka:Int) (Ga:Int) (Ia:Int) (Da:List (Ce)) (l1:List (List Bool)) (a2:Int):Option (List Bool):=(fh.f Pa Ka Ga Ia Da l1 a2).bind fun t102=>(if 0 ≤ a2 then (if a2 < (Da.length:Int) then (He.l0 k t102 ((Aa Da a2).f0) (wrap64 ((((Aa Da a2).f0).length:Int) - 1))) else (none)) else (none))
theorem He.calls (k:Nat) (Ya:Option Addr) (Za:Nat) (Pa:List Int) (Ka:Int) (Ga:Int) (Ia:Int) (Vb:Option Addr) (Jb:Nat) (Da:List (Ce)) (A1:Option Addr) (c1:Nat) (l1:List (List Bool)) (a2:Int) (r:List Bool) (w:World) (Wd:Kd.C (Kd.int .i64) w Ya Pa.length Pa) (Sd:Pa.length ≤ Za) (zf:Kd.C Mt w Vb Da.length Da) (uf:Da.length ≤ Jb) (Ht:Kd.C (Kd.slice 4 Kd.bool) w A1 l1.length l1) (Tt:l1.length ≤ c1) (h:He.f k Pa Ka Ga Ia Da l1 a2=some r) :
  Calls Try.prog 49 #[.agg #[.slice Ya Pa.length Za,.int .i64 Ka,.int .i64 Ga,.int .i64 Ia,.slice Vb Da.length Jb],.slice A1 l1.length c1,.int .i64 a2] w fun e w'=>∃ kn:Value,e = .returned (kn)∧Kd.R Kd.bool 4 w' w.heap.size (fun _=>True) kn r∧Below w.heap.size w w':=by
 have LD:=Try.underlying30;have ox:=Try.underlying65;have qe:=ja.mk Wd;have Be:=ja.mk Sd;clear Wd Sd;have Hf:=ja.mk zf;have Tg:=ja.mk uf;clear zf uf;have kD:=ja.mk Ht;have GS:=ja.mk Tt;clear Ht Tt;have HB:=ja.mk (Below.refl w.heap.size w);have H:((fh.f Pa Ka Ga Ia Da l1 a2).bind fun t102=>(if 0 ≤ a2 then (if a2 < (Da.length:Int) then (He.l0 k t102 ((Aa Da a2).f0) (wrap64 ((((Aa Da a2).f0).length:Int) - 1))) else (none)) else (none)))=some r:=h;clear h;replace H:=Option.bind_eq_some_iff.mp H;obtain ⟨t102,oS,H⟩:=H;replace H:(if 0 ≤ a2 then (if a2 < (Da.length:Int) then (He.l0 k t102 ((Aa Da a2).f0) (wrap64 ((((Aa Da a2).f0).length:Int) - 1))) else (none)) else (none))=some r:=H;have A4:=ja.mk oS;clear oS
 by_cases c5:0 ≤ a2
 ·rw [if_pos c5] at H;have sj:decide (0 ≤ a2)=true:=decide_eq_true c5;clear c5
  by_cases c6:a2 < (Da.length:Int)
  ·rw [if_pos c6] at H;have Vm:decide (a2 < (Da.length:Int))=true:=decide_eq_true c6;clear c6;have H':=ja.mk H;clear H;go_enter Try.func49,Try.ntmps49;go_wp2_with (first|((with_reducible refine yb (N:=3) rfl ?_);refine Gb ?hg (N:=3) ?hd (cs:=#[.slice Ya Pa.length Za,.int .i64 Ka,.int .i64 Ga,.int .i64 Ia,.slice Vb Da.length Jb]) (t:=30) ?hr ?_;(case hd=>rfl);(case hg=>rfl);(case hr=>first|(go_simp;done)|(go_simp;rfl));intro ya hg w7 Qb hb;have Fb:=ja.mk (Qa (by repeat (first|(with_reducible first|exact HB.out|apply qa|apply ia|apply ta)|exact HB.out)) hb);have Ib:=ja.mk (Qb);have Sb:=ja.mk ((by rw [hg];exact (Fa (by repeat (first|(with_reducible first|exact HB.out|apply qa|apply ia|apply ta)|exact HB.out))):w.heap.size ≤ ya));have Ec:=ja.mk ((by rw [hg];exact (Fa (by repeat (first|(with_reducible first|exact HB.out|apply qa|apply ia|apply ta)|exact HB.out))):w.heap.size ≤ ya));clear HB;have HB:=Fb;have oa:=Ib;have yd:=Sb;have Sa:=Ec;clear Fb Ib Sb Ec hb Qb hg;have vq:w7.cell? ⟨ya,0,none⟩=some (.slice Ya Pa.length Za):=(ga oa.out 0).trans rfl;have uq:w7.cell? ⟨ya,1,none⟩=some (.int .i64 Ka):=(ga oa.out 1).trans rfl;have tq:w7.cell? ⟨ya,2,none⟩=some (.int .i64 Ga):=(ga oa.out 2).trans rfl;have sq:w7.cell? ⟨ya,3,none⟩=some (.int .i64 Ia):=(ga oa.out 3).trans rfl;have rq:w7.cell? ⟨ya,4,none⟩=some (.slice Vb Da.length Jb):=(ga oa.out 4).trans rfl;have qq:=aa oa.out 0;have pq:=aa oa.out 1;have oq:=aa oa.out 2;have mq:=aa oa.out 3;have lq:=aa oa.out 4)|((with_reducible refine jb (f:=81) rfl ?_);refine Fc (some 13) rfl rfl Try.func81 (by kernel_rfl) rfl #[.agg #[.slice Ya Pa.length Za,.int .i64 Ka,.int .i64 Ga,.int .i64 Ia,.slice Vb Da.length Jb],.slice A1 l1.length c1,.int .i64 a2] rfl (by (try simp only [List.map_toArray,List.map_cons,List.map_nil]);first|done|rfl|(simp only [List.length_drop,List.length_take];rfl)) ?_;(with_reducible refine (fh.calls _ _ Pa Ka Ga Ia _ _ Da _ _ l1 a2 t102 _ ?yc ?uc ?ud ?td ?Xt ?Wt A4.out).mono ?_);(case yc=>repeat (first|exact (Kd.Ob qe.out HB.out)|(with_reducible refine Kd.Pb ?_ _)|(with_reducible refine Kd.Nb ?_ _)|(with_reducible refine Kd.Zb ?_)));(case uc=>exact Be.out);(case ud=>repeat (first|exact (Kd.Ob Hf.out HB.out)|(with_reducible refine Kd.Pb ?_ _)|(with_reducible refine Kd.Nb ?_ _)|(with_reducible refine Kd.Zb ?_)));(case td=>exact Tg.out);(case Xt=>repeat (first|exact (Kd.Ob kD.out HB.out)|(with_reducible refine Kd.Pb ?_ _)|(with_reducible refine Kd.Nb ?_ _)|(with_reducible refine Kd.Zb ?_)));(case Wt=>exact GS.out);rintro e w9 ⟨zn,rfl,Am,hb⟩;refine ⟨_,rfl,?_⟩;have Fb:=ja.mk (Kd.Rd Am (Fa (by repeat (first|(with_reducible first|exact HB.out|apply qa|apply ia|apply ta|refine ua ?_ Sa.out)|exact HB.out))));have Ib:=ja.mk (Ua (g:=ya) (o:=.cells #[.slice Ya Pa.length Za,.int .i64 Ka,.int .i64 Ga,.int .i64 Ia,.slice Vb Da.length Jb] 30 (0,0)) (by (with_reducible repeat (first|refine Ba ?_ _|refine Ea ?_|refine Ca ?_ _));exact oa.out) hb);have Sb:=ja.mk (Qa (by repeat (first|(with_reducible first|exact HB.out|apply qa|apply ia|apply ta|refine ua ?_ Sa.out)|exact HB.out)) hb);clear oa HB;have Xg:=Fb;have oa:=Ib;have HB:=Sb;clear Fb Ib Sb;(try clear hb);(try clear Hi);(try clear hk);(try clear hi);(try clear Am);have Fk:w9.cell? ⟨ya,0,none⟩=some (.slice Ya Pa.length Za):=(ga oa.out 0).trans rfl;have Ek:w9.cell? ⟨ya,1,none⟩=some (.int .i64 Ka):=(ga oa.out 1).trans rfl;have Dk:w9.cell? ⟨ya,2,none⟩=some (.int .i64 Ga):=(ga oa.out 2).trans rfl;have Ck:w9.cell? ⟨ya,3,none⟩=some (.int .i64 Ia):=(ga oa.out 3).trans rfl;have Bk:w9.cell? ⟨ya,4,none⟩=some (.slice Vb Da.length Jb):=(ga oa.out 4).trans rfl;have Ak:=aa oa.out 0;have zk:=aa oa.out 1;have xk:=aa oa.out 2;have vk:=aa oa.out 3;have uk:=aa oa.out 4;have Cn:0 ≤ (a2:Int):=Wa;have Bn:a2 < (Da.length:Int):=Wa;obtain ⟨mm,Wj,Uj,VC,Ug,sk,qk,nk,jk,Ti,Vi⟩:=ki Hf.out a2 Cn Bn;cases VC;replace Ug:=Na HB.out Ug;replace sk:=Na HB.out sk;replace qk:=Na HB.out qk;replace nk:=Na HB.out nk;replace jk:=Na HB.out jk;have vo:=ja.mk Vi;have ov:=ja.mk Ti;clear Vi Ti;replace Cn:=eq_true Cn;replace Bn:=eq_true Bn))
   go_loopg [9] k (fun kq v9 w'=>∃ (fA:List Bool) (bg:Int),v9 = .int .i64 bg∧ja (He.l0 kq fA ((Aa Da a2).f0) bg=some r)∧ja (kq ≤ k)∧ja (Kd.R Kd.bool 4 w' w.heap.size (fun _=>True) zn fA)∧ja (w'.heap[ya]? = some (.cells #[(.slice Ya Pa.length Za),.int .i64 Ka,.int .i64 Ga,.int .i64 Ia,(.slice (some mm) Da.length Jb)] 30 (0,0)))∧ja (Below w.heap.size w w'))
   case atStart=>exact ⟨(t102),(wrap64 ((((Aa Da a2).f0).length:Int) - 1)),(by first|rfl|(simp;done)|(simp [*];done)),H',⟨Nat.le_refl _⟩,⟨by (with_reducible repeat (first|apply Kd.Ab|apply Kd.zb|apply Kd.Rb));exact Xg.out⟩,⟨by (with_reducible repeat (first|refine Ba ?_ _|refine Ea ?_|refine Ca ?_ _));exact oa.out⟩,⟨by repeat (first|(with_reducible first|exact HB.out|apply qa|apply ia|apply ta|refine ua ?_ Sa.out)|exact HB.out)⟩⟩
   case round =>
    clear H'
    try clear c1
    try clear p1
    try clear q1
    try clear hx1
    try clear p2
    try clear c4
    try clear c5
    try clear sj
    try clear c6
    try clear Vm
    try clear p6
    try clear c8
    try clear Wp
    try clear wI
    try clear vI
    try clear zQ
    try clear Fk
    try clear Ek
    try clear Dk
    try clear Ck
    try clear Bk
    try clear vq
    try clear uq
    try clear tq
    try clear sq
    try clear rq
    try clear Ak
    try clear zk
    try clear xk
    try clear vk
    try clear uk
    try clear qq
    try clear pq
    try clear oq
    try clear mq
    try clear lq
    try clear Ug
    try clear sk
    try clear qk
    try clear nk
    try clear jk
    try clear Cn
    try clear Bn
    (try clear HA);(try clear lg);(try clear Cf);(try clear oa);(try clear HB);obtain ⟨fA,bg,rfl,HA,lg,Cf,oa,HB⟩:=hrel;cases gk with
    | zero=>exact absurd HA.out (by simp [He.l0])
    | succ k1 =>
     have H:=HA.out;clear HA;simp only [He.l0] at H
     by_cases Hz:bg ≥ 0
     ·rw [if_pos Hz] at H;have cD:decide (0 ≤ bg)=true:=decide_eq_true Hz;clear Hz
      by_cases nu:0 ≤ bg
      ·rw [if_pos nu] at H;have bD:decide (0 ≤ bg)=true:=decide_eq_true nu;clear nu
       by_cases iI:bg < (((Aa Da a2).f0).length:Int)
       ·rw [if_pos iI] at H;have dao:decide (bg < (((Aa Da a2).f0).length:Int))=true:=decide_eq_true iI;clear iI;replace H:=Option.bind_eq_some_iff.mp H;obtain ⟨t107,sD,H⟩:=H;replace H:(He.l0 k1 t107 ((Aa Da a2).f0) (wrap64 (bg - 1)))=some r:=H;have I1:=ja.mk sD;clear sD;have H':=ja.mk H;clear H;have GD:0 ≤ (bg:Int):=Wa;have FD:bg < (((Aa Da a2).f0).length:Int):=Wa;obtain ⟨Ny,lZ,xp,vp,qp,lp,gp,VK,UK⟩:=um vo.out bg GD FD;cases lZ;replace xp:=Na HB.out xp;replace vp:=Na HB.out vp;replace qp:=Na HB.out qp;replace lp:=Na HB.out lp;replace gp:=Na HB.out gp;replace VK:=Na HB.out VK;replace UK:=Na HB.out UK;replace GD:=eq_true GD;replace FD:=eq_true FD;obtain ⟨G1,oZ,Fak⟩:=Kd.De Cf.out;subst Fak;go_wp2_with (first|((with_reducible refine jb (f:=79) rfl ?_);refine Fc (some 32) rfl rfl Try.func79 (by kernel_rfl) rfl #[.slice G1 fA.length oZ,.agg #[.int .i64 ((Ta ((Aa Da a2).f0) bg).f0),.int .i64 ((Ta ((Aa Da a2).f0) bg).f1),.int .i64 ((Ta ((Aa Da a2).f0) bg).f2),.int .i64 ((Ta ((Aa Da a2).f0) bg).f3),.int .i64 ((Ta ((Aa Da a2).f0) bg).f4),.int .i64 ((Ta ((Aa Da a2).f0) bg).f5),.string ((Ta ((Aa Da a2).f0) bg).f6)]] rfl (by (try simp only [List.map_toArray,List.map_cons,List.map_nil]);first|done|rfl|(simp only [List.length_drop,List.length_take];rfl)) ?_;(with_reducible refine (Dd.calls k1 (fun k_=>some k_=(.slice G1 fA.length oZ:Value).ownBlock) (.slice G1 fA.length oZ) fA ((Ta ((Aa Da a2).f0) bg).f0) ((Ta ((Aa Da a2).f0) bg).f1) ((Ta ((Aa Da a2).f0) bg).f2) ((Ta ((Aa Da a2).f0) bg).f3) ((Ta ((Aa Da a2).f0) bg).f4) ((Ta ((Aa Da a2).f0) bg).f5) ((Ta ((Aa Da a2).f0) bg).f6) t107 w _ ?yc ?uc I1.out).mono ?_);(case yc=>repeat (first|(with_reducible first|exact HB.out|apply qa|apply ia|apply ta|refine ua ?_ Sa.out)|exact HB.out));(case uc=>exact Kd.Yp rfl Cf.out);rintro e Yy ⟨rfl,hy0,hb,hkp⟩;refine ⟨_,rfl,?_⟩;have Fb:=ja.mk (Kd.QG rfl hy0 (fun k_ e_=>Cf.out.1 k_ e_));have Ib:=ja.mk (Kh (by (with_reducible repeat (first|refine Ba ?_ _|refine Ea ?_|refine Ca ?_ _));exact oa.out) hkp (fun hs_=>(fun e_=>(Kd.Vj Cf.out oa.out (by decide)) e_) hs_));have Sb:=ja.mk (hb);clear Cf oa HB;have Cf:=Fb;have oa:=Ib;have HB:=Sb;clear Fb Ib Sb;(try clear hb);(try clear hkp);(try clear hy0)))
        go_roundg k1
        case measure=>have:=lg.out;omega
        case rel=>exact ⟨(t107),(wrap64 (bg - 1)),(by first|rfl|(simp;done)|(simp [*];done)),H',⟨by have:=lg.out;omega⟩,⟨by (with_reducible repeat (first|apply Kd.Ab|apply Kd.zb|apply Kd.Rb));exact Cf.out⟩,⟨by (with_reducible repeat (first|refine Ba ?_ _|refine Ea ?_|refine Ca ?_ _));exact oa.out⟩,⟨by repeat (first|(with_reducible first|exact HB.out|apply qa|apply ia|apply ta|refine ua ?_ Sa.out)|exact HB.out)⟩⟩
       ·rw [if_neg iI] at H;exact absurd H (by simp)
      ·rw [if_neg nu] at H;exact absurd H (by simp)
     ·rw [if_neg Hz] at H;have cD:decide (0 ≤ bg)=false:=decide_eq_false Hz;clear Hz;obtain rfl:=Option.some.inj H;go_wp2;go_ret;exact ⟨_,by first|rfl|(simp [Ma,La] <;> rfl)|(simp [*,Ma,La] <;> rfl),by (with_reducible repeat (first|apply Kd.Ab|apply Kd.zb|apply Kd.Rb));exact Cf.out,by repeat (first|(with_reducible first|exact HB.out|apply qa|apply ia|apply ta|refine ua ?_ Sa.out)|exact HB.out)⟩
  ·rw [if_neg c6] at H;exact absurd H (by simp)
 ·rw [if_neg c5] at H;exact absurd H (by simp)
theorem Ev.pos {α:Type} {c:Prop} [Decidable c] {f g:Nat→Option α} {r:α} (h:c) (k:Ev f r):Ev (fun n=>if c then f n else g n) r:=Ev.congr (fun n=>if_pos h) k
theorem Ev.neg {α:Type} {c:Prop} [Decidable c] {f g:Nat→Option α} {r:α} (h:¬ c) (k:Ev g r):Ev (fun n=>if c then f n else g n) r:=Ev.congr (fun n=>if_neg h) k
theorem Ev.val {α β:Type} {a:α} {f:Nat→α→Option β} {r:β} (k:Ev (fun n=>f n a) r):Ev (fun n=>(some a).bind (f n)) r:=Ev.congr (fun n=>rfl) k
theorem Ev.here {α:Type} {o:Option α} {r:α} (h:o=some r):Ev (fun _=>o) r:=Ev.congr (fun n=>h) (Ev.now r)
theorem Ev.eq {α:Type} {g:Nat→Option α} {r r':α} (h:Ev g r) (h':Ev g r'):r=r':=by
 obtain ⟨K,h⟩:=h;obtain ⟨K',h'⟩:=h';have h1:=h (max K K') (by omega);rw [h' (max K K') (by omega)] at h1;exact (Option.some.inj h1).symm
theorem ah {x:Int} (h:-9223372036854775808 ≤ x) (h':x ≤ 9223372036854775807):wrap64 x=x:=by
 unfold wrap64;omega
theorem Ee {i n:Nat} (h:i < n) (hn:n ≤ 9223372036854775807):wrap64 ((i:Int) + 1)=((i + 1:Nat):Int):=by
 rw [ah (by omega) (by omega)];omega
theorem Xl {ρ:Type} {n:Nat} {r:ρ} (P:Nat→Prop) (hend:P n) (hstep:∀ i,i < n→P (i + 1)→P i):∀ i,i ≤ n→P i:=by
 have key:∀ d i,i + d=n→P i:=by
  intro d
  induction d with
  | zero =>
   intro i hi;have:i=n:=by omega
   exact this ▸ hend
  | succ d ih =>
   intro i hi;exact hstep i (by omega) (ih (i + 1) (by omega))
 intro i hi;exact key (n - i) i (by omega)
theorem NC {α:Type} {m:List α} {z:α} {i:Nat} (h:i < m.length):(m.take i ++ List.replicate (m.length - i) z).set i (m.getD i z)=m.take (i + 1) ++ List.replicate (m.length - (i + 1)) z:=by
 rw [List.set_append_right _ _ (by rw [List.length_take];omega),List.length_take,Nat.min_eq_left (by omega),Nat.sub_self];rw [show m.length - i=(m.length - (i + 1)) + 1 from by omega,List.replicate_succ,List.set_cons_zero,List.take_succ_eq_append_getElem h,List.append_assoc];simp [List.getD_eq_getElem?_getD,List.getElem?_eq_getElem h]
theorem mE {α:Type} {m:List α} {z:α}:m.take 0 ++ List.replicate (m.length - 0) z=List.replicate m.length z:=by simp
theorem OC {α:Type} {m:List α} {z:α}:m.take m.length ++ List.replicate (m.length - m.length) z=m:=by simp
theorem SX (l:List Int) (i:Nat):rd l (i:Int)=l.getD i 0:=rfl
def iota (m:Int) (n:Nat):List Int:=(List.range n).map fun (j:Nat)=>m + (j:Int)
theorem Qm (m:Int) (n:Nat):(iota m n).length=n:=by simp [iota]
theorem RO {m:Int} {n i:Nat} (h:i < n):(iota m n).getD i 0=m + i:=by simp [iota,List.getD_eq_getElem?_getD,h]
theorem nH {α:Type} {m l:List α} {z:α} {i:Nat} (hl:l.length=m.length) (h:i < m.length):(m.take i ++ l.drop i).set i (m.getD i z)=m.take (i + 1) ++ l.drop (i + 1):=by
 rw [List.set_append_right _ _ (by rw [List.length_take];omega),List.length_take,Nat.min_eq_left (by omega),Nat.sub_self];rw [List.drop_eq_getElem_cons (by omega),List.set_cons_zero,List.take_succ_eq_append_getElem h,List.append_assoc];simp [List.getD_eq_getElem?_getD,List.getElem?_eq_getElem h]
theorem zH (a b c:Int):Dg.f a b c=some (Jk a b c):=by
 unfold Dg.f Jk
 by_cases h:a ≥ b
 ·rw [if_pos h];have h':b ≤ a:=h;simp [h']
 ·rw [if_neg h];have h':¬ b ≤ a:=h;simp [h']
theorem bP (l:List Int) (hl:l.length ≤ 35184372088832):Ev (fun k=>ee.f k l) l:=by
 refine Ev.congr (f:=fun k=>ee.l0 k l (List.replicate l.length 0) 0) (fun k=>?_) ?_
 ·unfold ee.f;rw [if_pos (by omega),if_pos (by omega)]
  rfl
 ·have key:=Xl (r:=l) (n:=l.length) (fun i=>Ev (fun k=>ee.l0 k l (l.take i ++ List.replicate (l.length - i) 0) (i:Int)) l) ?_ ?_ 0 (by omega)
  ·simpa using key
  ·refine Ev.step (fun k=>by rw [ee.l0]) ?_;refine Ev.neg (by omega) ?_;rw [OC];exact Ev.now l
  ·intro i hi h;refine Ev.step (fun k=>by rw [ee.l0]) ?_;refine Ev.pos (by omega) (Ev.pos (by omega) (Ev.pos (by simp;omega) ?_));rw [Ee hi (by omega),SX,Int.toNat_natCast,NC hi];exact h
theorem dP (l:List Int) (hl:l.length ≤ 9223372036854775807):Ev (fun k=>Qd.f k l l) true:=by
 refine Ev.congr (f:=fun k=>Qd.l0 k l l 0) (fun k=>?_) ?_
 ·unfold Qd.f;rw [if_pos rfl]
 ·refine Xl (r:=true) (n:=l.length) (fun i=>Ev (fun k=>Qd.l0 k l l (i:Int)) true) ?_ ?_ 0 (by omega)
  ·refine Ev.step (fun k=>by rw [Qd.l0]) ?_;exact Ev.neg (by omega) (Ev.now _)
  ·intro i hi h;refine Ev.step (fun k=>by rw [Qd.l0]) ?_;refine Ev.pos (by omega) (Ev.pos (by omega) (Ev.pos (by omega) (Ev.pos rfl ?_)));rw [Ee hi hl];exact h
theorem RS (l:List Int) (a:Int) (ha:0 ≤ a) (ha':a ≤ 1048576) (hl:l.length ≤ 9223372036854775807):∃ t,dh.f l a=some t∧t ≤ a∧(0 ≤ t→t + l.length=a):=by
 unfold dh.f;rw [ah (by omega) (by omega)]
 split
 ·exact ⟨-1,rfl,by omega,by omega⟩
 ·exact ⟨_,rfl,by omega,by omega⟩
def wm (x:Xm):Rf:=⟨x.f0,x.f1,x.f2,x.f3,x.f4,x.f5,x.f6⟩
theorem OH (l:List Xm) (hl:l.length ≤ 4398046511104):Ev (fun k=>od.f k l) (l.map wm):=by
 refine Ev.congr (f:=fun k=>od.l0 k l (List.replicate l.length XD) 0) (fun k=>?_) ?_
 ·unfold od.f;rw [if_pos (by omega),if_pos (by omega)]
  rfl
 ·have key:=Xl (r:=l.map wm) (n:=l.length) (fun i=>Ev (fun k=>od.l0 k l ((l.map wm).take i ++ List.replicate ((l.map wm).length - i) XD) (i:Int)) (l.map wm)) ?_ ?_ 0 (by omega)
  ·rw [mE,List.length_map] at key;exact key
  ·refine Ev.step (fun k=>by rw [od.l0]) ?_;refine Ev.neg (by omega) ?_;have e:=OC (m:=l.map wm) (z:=XD);rw [List.length_map] at e;rw [List.length_map,e];exact Ev.now _
  ·intro i hi h;refine Ev.step (fun k=>by rw [od.l0]) ?_;refine Ev.pos (by omega) (Ev.pos (by omega) ?_);unfold gl.f;refine Ev.val (Ev.pos (by simp;omega) ?_)
   have hc:wm (Mc l (i:Int))=(l.map wm).getD i XD:=by
    simp [Mc,List.getD_eq_getElem?_getD,hi]
   have hf:=NC (m:=l.map wm) (z:=XD) (i:=i) (by rw [List.length_map];exact hi);rw [← hc] at hf;rw [Ee hi (by omega),Int.toNat_natCast];have e:=hf ▸ h;exact e
theorem WH (l:List Rf) (hl:l.length ≤ 9223372036854775807):Ev (fun k=>qc.f k l l) true:=by
 refine Ev.congr (f:=fun k=>qc.l0 k l l 0) (fun k=>?_) ?_
 ·unfold qc.f;rw [if_pos rfl]
 ·refine Xl (r:=true) (n:=l.length) (fun i=>Ev (fun k=>qc.l0 k l l (i:Int)) true) ?_ ?_ 0 (by omega)
  ·refine Ev.step (fun k=>by rw [qc.l0]) ?_;exact Ev.neg (by omega) (Ev.now _)
  ·intro i hi h;refine Ev.step (fun k=>by rw [qc.l0]) ?_;refine Ev.pos (by omega) (Ev.pos (by omega) (Ev.pos (by omega) ?_));unfold Dj.f;simp only [if_true];refine Ev.val (Ev.pos rfl ?_);rw [Ee hi hl];exact h
def bz (l:List Xm):Nat:=(l.map fun x=>x.f6.size).sum
def tO (l:List Xm):Nat:=l.length + bz l
def OX (l:List Xv):Nat:=l.length + (l.map fun x=>tO x.f0).sum
theorem Av {l:List Xm} {i:Nat} (h:i < l.length):Mc l (i:Int)=l[i]:=by simp [Mc,List.getD_eq_getElem?_getD,h]
theorem gq {l:List Xv} {i:Nat} (h:i < l.length):Xd l (i:Int)=l[i]:=by simp [Xd,List.getD_eq_getElem?_getD,h]
theorem RH (l:List Xm) (a:Int) (ha:0 ≤ a) (ha':a ≤ 1048576) (hl:l.length ≤ 9223372036854775807) (ht:∀ x ∈ l,x.f6.size ≤ 9223372036854775807) :
  ∃ t,Ev (fun k=>Cd.f k l a) t∧t ≤ a∧(0 ≤ t→t + tO l=a):=by
 have key:=Xl (ρ:=Unit) (r:=()) (n:=l.length) (fun i=>∀ a:Int,0 ≤ a→a ≤ 1048576→∃ t,Ev (fun k=>Cd.l0 k l a (i:Int)) t∧t ≤ a∧(0 ≤ t→t + bz (l.drop i)=a)) ?_ ?_ 0 (by omega)
 ·unfold Cd.f;rw [ah (by omega) (by omega)]
  by_cases h:a - (l.length:Int) < 0
  ·exact ⟨-1,Ev.pos h (Ev.now _),by omega,by omega⟩
  ·obtain ⟨t,e1,e2,e3⟩:=key (a - l.length) (by omega) (by omega);refine ⟨t,Ev.neg h e1,by omega,fun h0=>?_⟩;have:=e3 h0;rw [List.drop_zero] at this;unfold tO;omega
 ·intro a h0 h1;refine ⟨a,?_,by omega,?_⟩
  ·refine Ev.step (fun k=>by rw [Cd.l0]) ?_;exact Ev.neg (by omega) (Ev.now _)
  ·intro _;rw [List.drop_length];simp [bz]
 ·intro i hi ih a h0 h1;have hx:=ht l[i] (List.getElem_mem hi)
  have hd:bz (l.drop i)=l[i].f6.size + bz (l.drop (i + 1)):=by
   rw [List.drop_eq_getElem_cons hi];simp only [bz,List.map_cons,List.sum_cons]
  by_cases h:a - (l[i].f6.size:Int) < 0
  ·refine ⟨-1,?_,by omega,by omega⟩;refine Ev.step (fun k=>by rw [Cd.l0]) ?_;refine Ev.pos (by omega) (Ev.pos (by omega) ?_);rw [Av hi];unfold Ph.f;rw [ah (by omega) (by omega),if_pos h];exact Ev.val (Ev.pos (by decide) (Ev.now _))
  ·obtain ⟨t,e1,e2,e3⟩:=ih (a - l[i].f6.size) (by omega) (by omega);refine ⟨t,?_,by omega,fun hh=>by have:=e3 hh;omega⟩;refine Ev.step (fun k=>by rw [Cd.l0]) ?_;refine Ev.pos (by omega) (Ev.pos (by omega) ?_);rw [Av hi];unfold Ph.f;rw [ah (by omega) (by omega),if_neg h];refine Ev.val (Ev.neg (by omega) ?_);rw [Ee hi hl];exact e1
theorem SH (l:List Xv) (a:Int) (ha:0 ≤ a) (ha':a ≤ 1048576) (hl:l.length ≤ 9223372036854775807) (ht:∀ x ∈ l,x.f0.length ≤ 9223372036854775807∧∀ y ∈ x.f0,y.f6.size ≤ 9223372036854775807) :
  ∃ t,Ev (fun k=>qd.f k l a) t∧t ≤ a∧(0 ≤ t→t + OX l=a):=by
 have key:=Xl (ρ:=Unit) (r:=()) (n:=l.length) (fun i=>∀ a:Int,0 ≤ a→a ≤ 1048576→∃ t,Ev (fun k=>qd.l0 k l a (i:Int)) t∧t ≤ a∧(0 ≤ t→t + ((l.drop i).map fun x=>tO x.f0).sum=a)) ?_ ?_ 0 (by omega)
 ·unfold qd.f;rw [ah (by omega) (by omega)]
  by_cases h:a - (l.length:Int) < 0
  ·exact ⟨-1,Ev.pos h (Ev.now _),by omega,by omega⟩
  ·obtain ⟨t,e1,e2,e3⟩:=key (a - l.length) (by omega) (by omega);refine ⟨t,Ev.neg h e1,by omega,fun h0=>?_⟩;have:=e3 h0;rw [List.drop_zero] at this;unfold OX;omega
 ·intro a h0 h1;refine ⟨a,?_,by omega,?_⟩
  ·refine Ev.step (fun k=>by rw [qd.l0]) ?_;exact Ev.neg (by omega) (Ev.now _)
  ·intro _;rw [List.drop_length];simp
 ·intro i hi ih a h0 h1;have hx:=ht l[i] (List.getElem_mem hi)
  have hd:((l.drop i).map fun x=>tO x.f0).sum=tO l[i].f0 + ((l.drop (i + 1)).map fun x=>tO x.f0).sum:=by
   rw [List.drop_eq_getElem_cons hi];simp only [List.map_cons,List.sum_cons]
  obtain ⟨u,f1,f2,f3⟩:=RH l[i].f0 a h0 h1 hx.1 hx.2
  by_cases h:u < 0
  ·refine ⟨-1,?_,by omega,by omega⟩;refine Ev.step (fun k=>by rw [qd.l0]) ?_;refine Ev.pos (by omega) (Ev.pos (by omega) ?_);rw [gq hi];unfold Qh.f;refine Ev.bind (Ev.bind f1 (Ev.pos h (Ev.now _))) ?_;exact Ev.pos (by decide) (Ev.now _)
  ·obtain ⟨t,e1,e2,e3⟩:=ih u (by omega) (by omega);have:=f3 (by omega);refine ⟨t,?_,by omega,fun hh=>by have:=e3 hh;omega⟩;refine Ev.step (fun k=>by rw [qd.l0]) ?_;refine Ev.pos (by omega) (Ev.pos (by omega) ?_);rw [gq hi];unfold Qh.f;refine Ev.bind (Ev.bind f1 (Ev.neg h (Ev.now _))) ?_;refine Ev.neg (by omega) ?_;rw [Ee hi hl];exact e1
theorem DC {l:List Nat} {n:Nat} (h:n ∈ l):n ≤ l.sum:=by
 induction l with
 | nil=>cases h
 | cons a l ih =>
  rw [List.sum_cons];cases h with
  | head=>omega
  | tail _ h=>have:=ih h;omega
theorem mH {l:List Xv} {n:Nat} (h:OX l ≤ n):l.length ≤ n∧∀ x ∈ l,x.f0.length ≤ n:=by
 unfold OX at h;refine ⟨by omega,fun x hx=>?_⟩;have:tO x.f0 ≤ (l.map fun x=>tO x.f0).sum:=DC (List.mem_map.mpr ⟨x,hx,rfl⟩);unfold tO at this h;omega
theorem LJ (x0:List Int) (x1 x2 x3:Int) (x4:List Xv) (a:Int) (ha:0 ≤ a) (ha':a ≤ 1048576) (h0:x0.length ≤ 9223372036854775807) (hl:x4.length ≤ 9223372036854775807) (ht:∀ x ∈ x4,x.f0.length ≤ 9223372036854775807∧∀ y ∈ x.f0,y.f6.size ≤ 9223372036854775807) :
  ∃ t,Ev (fun k=>Cg.f k x0 x1 x2 x3 x4 a) t∧t ≤ a∧(0 ≤ t→t + x0.length + OX x4=a):=by
 obtain ⟨t,e1,e2,e3⟩:=RS x0 a ha ha' h0;unfold Cg.f;rw [e1];simp only [Option.bind_some]
 by_cases ht':t < 0
 ·exact ⟨-1,Ev.pos ht' (Ev.now _),by omega,by omega⟩
 ·obtain ⟨u,f1,f2,f3⟩:=SH x4 t (by omega) (by omega) hl ht
  by_cases hu:u < 0
  ·exact ⟨-1,Ev.neg ht' (Ev.bind f1 (Ev.pos hu (Ev.now _))),by omega,by omega⟩
  ·exact ⟨u,Ev.neg ht' (Ev.bind f1 (Ev.neg hu (Ev.now _))),by omega,fun _=>by have:=e3 (by omega);have:=f3 (by omega);omega⟩
def Mf (x:Xv):Ce:=⟨x.f0.map wm,x.f1,x.f2,x.f3,x.f4⟩
theorem QH (l:List Xv) (hl:l.length ≤ 1048576) (hb:∀ x ∈ l,x.f0.length ≤ 1048576):Ev (fun k=>jd.f k l) (l.map Mf):=by
 refine Ev.congr (f:=fun k=>jd.l0 k l (List.replicate l.length uI) 0) (fun k=>?_) ?_
 ·unfold jd.f;rw [if_pos (by omega),if_pos (by omega)]
  rfl
 ·have key:=Xl (r:=l.map Mf) (n:=l.length) (fun i=>Ev (fun k=>jd.l0 k l ((l.map Mf).take i ++ List.replicate ((l.map Mf).length - i) uI) (i:Int)) (l.map Mf)) ?_ ?_ 0 (by omega)
  ·rw [mE,List.length_map] at key;exact key
  ·refine Ev.step (fun k=>by rw [jd.l0]) ?_;refine Ev.neg (by omega) ?_;have e:=OC (m:=l.map Mf) (z:=uI);rw [List.length_map] at e;rw [List.length_map,e];exact Ev.now _
  ·intro i hi h;refine Ev.step (fun k=>by rw [jd.l0]) ?_;refine Ev.pos (by omega) (Ev.pos (by omega) ?_);unfold jl.f;have hx:=hb l[i] (List.getElem_mem hi);rw [gq hi];refine Ev.bind (Ev.bind (OH l[i].f0 (by omega)) (Ev.now _)) ?_;refine Ev.pos (by simp;omega) ?_
   have hc:Mf l[i]=(l.map Mf).getD i uI:=by
    simp [List.getD_eq_getElem?_getD,hi]
   have hf:=NC (m:=l.map Mf) (z:=uI) (i:=i) (by rw [List.length_map];exact hi);rw [← hc] at hf;rw [Ee hi (by omega),Int.toNat_natCast];have e:=hf ▸ h;exact e
theorem Jg {l:List Ce} {i:Nat} (h:i < l.length):Aa l (i:Int)=l[i]:=by simp [Aa,List.getD_eq_getElem?_getD,h]
theorem iq {l:List Rf} {i:Nat} (h:i < l.length):Ta l (i:Int)=l[i]:=by simp [Ta,List.getD_eq_getElem?_getD,h]
theorem XH (l:List Ce) (hl:l.length ≤ 9223372036854775807) (hb:∀ x ∈ l,x.f0.length ≤ 9223372036854775807):Ev (fun k=>Dc.f k l l) true:=by
 refine Ev.congr (f:=fun k=>Dc.l0 k l l 0) (fun k=>?_) ?_
 ·unfold Dc.f;rw [if_pos rfl]
 ·refine Xl (r:=true) (n:=l.length) (fun i=>Ev (fun k=>Dc.l0 k l l (i:Int)) true) ?_ ?_ 0 (by omega)
  ·refine Ev.step (fun k=>by rw [Dc.l0]) ?_;exact Ev.neg (by omega) (Ev.now _)
  ·intro i hi h;refine Ev.step (fun k=>by rw [Dc.l0]) ?_;refine Ev.pos (by omega) (Ev.pos (by omega) (Ev.pos (by omega) ?_));unfold Ej.f;rw [Jg hi];refine Ev.bind (Ev.bind (WH l[i].f0 (hb _ (List.getElem_mem hi))) (Ev.pos rfl (Ev.pos rfl (Ev.pos rfl (Ev.pos rfl (Ev.pos rfl (Ev.now _))))))) (Ev.pos rfl ?_);rw [Ee hi hl];exact h
theorem KJ (x0:List Int) (x1 x2 x3:Int) (x4:List Xv) (h0:x0.length ≤ 1048576) (hl:x4.length ≤ 1048576) (hb:∀ x ∈ x4,x.f0.length ≤ 1048576):Ev (fun k=>xd.f k x0 x1 x2 x3 x4) (x0,x1,x2,x3,x4.map Mf):=by
 unfold xd.f;exact Ev.bind (bP x0 (by omega)) (Ev.bind (QH x4 hl hb) (Ev.now _))
theorem NJ (x0:List Int) (x1 x2 x3:Int) (x4:List Ce) (h0:x0.length ≤ 9223372036854775807) (hl:x4.length ≤ 9223372036854775807) (hb:∀ x ∈ x4,x.f0.length ≤ 9223372036854775807):Ev (fun k=>bf.f k x0 x1 x2 x3 x4 x0 x1 x2 x3 x4) true:=by
 unfold bf.f;refine Ev.bind (dP x0 h0) ?_;refine Ev.pos rfl (Ev.pos rfl (Ev.pos rfl (Ev.pos rfl ?_)));exact Ev.bind (XH x4 hl hb) (Ev.pos rfl (Ev.now _))
def Pk.f (Pa:List (Rf)) (Ka:Int) (Ga:Int) (Ia:Int) (xb:Int):Option (List Int):=if Ka=0 then (some (([Ia]:List Int))) else (if Ka=1 then (some (([Ia,xb]:List Int))) else (some ([]:List Int)))
theorem Pk.calls (Ya:Option Addr) (Za:Nat) (Pa:List (Rf)) (Ka:Int) (Ga:Int) (Ia:Int) (xb:Int) (r:List Int) (w:World) (Wd:Kd.C jq w Ya Pa.length Pa) (Sd:Pa.length ≤ Za) (h:Pk.f Pa Ka Ga Ia xb=some r) :
  Calls Try.prog 78 #[.agg #[.slice Ya Pa.length Za,.int .i64 Ka,.int .i64 Ga,.int .i64 Ia,.int .i64 xb]] w fun e w'=>∃ kn:Value,e = .returned (kn)∧Kd.R (Kd.int .i64) 3 w' w.heap.size (fun _=>True) kn r∧Below w.heap.size w w':=by
 have mz:=Try.underlying59;have qe:=ja.mk Wd;have Be:=ja.mk Sd;clear Wd Sd;have HB:=ja.mk (Below.refl w.heap.size w);have H:(if Ka=0 then (some (([Ia]:List Int))) else (if Ka=1 then (some (([Ia,xb]:List Int))) else (some ([]:List Int))))=some r:=h;clear h
 by_cases c2:Ka=0
 ·rw [if_pos c2] at H;have Vv:(Ka == 0)=true:=beq_iff_eq.mpr c2;have Gz:(Ka != 0)=false:=bne_eq_false_iff_eq.mpr c2;clear c2;obtain ⟨Te,Vf⟩:∃ y_:List Int,y_=(([Ia]:List Int)):=⟨_,rfl⟩;replace H:(some Te)=some r:=by first|(rw [Vf];with_reducible exact H)|(have ue:=(Option.bind_some _ _).symm.trans H;rw [Vf];with_reducible exact ue)|(have ue:=(Option.bind_some _ _).symm.trans H;with_reducible exact ue)|with_reducible exact H|(rw [Vf];exact H)|exact H
  have mj:=ja.mk Vf;clear Vf;obtain rfl:=Option.some.inj H;go_enter Try.func78,Try.ntmps78;go_wp2_with (first|((with_reducible refine yb (N:=1) rfl ?_);refine Gb ?hg (N:=1) ?hd (cs:=#[.slice Ya Pa.length Za,.int .i64 Ka,.int .i64 Ga,.int .i64 Ia,.int .i64 xb]) (t:=59) ?hr ?_;(case hd=>rfl);(case hg=>rfl);(case hr=>first|(go_simp;done)|(go_simp;rfl));intro ya hg w3 Qb hb;have Fb:=ja.mk (Qa (by repeat (first|(with_reducible first|exact HB.out|apply qa|apply ia|apply ta)|exact HB.out)) hb);have Ib:=ja.mk (Qb);have Sb:=ja.mk ((by rw [hg];exact (Fa (by repeat (first|(with_reducible first|exact HB.out|apply qa|apply ia|apply ta)|exact HB.out))):w.heap.size ≤ ya));have Ec:=ja.mk ((by rw [hg];exact (Fa (by repeat (first|(with_reducible first|exact HB.out|apply qa|apply ia|apply ta)|exact HB.out))):w.heap.size ≤ ya));clear HB;have HB:=Fb;have oa:=Ib;have yd:=Sb;have Sa:=Ec;clear Fb Ib Sb Ec hb Qb hg;have Cz:w3.cell? ⟨ya,0,none⟩=some (.slice Ya Pa.length Za):=(ga oa.out 0).trans rfl;have Bz:w3.cell? ⟨ya,1,none⟩=some (.int .i64 Ka):=(ga oa.out 1).trans rfl;have zz:w3.cell? ⟨ya,2,none⟩=some (.int .i64 Ga):=(ga oa.out 2).trans rfl;have yz:w3.cell? ⟨ya,3,none⟩=some (.int .i64 Ia):=(ga oa.out 3).trans rfl;have xz:w3.cell? ⟨ya,4,none⟩=some (.int .i64 xb):=(ga oa.out 4).trans rfl;have uz:=aa oa.out 0;have rz:=aa oa.out 1;have qz:=aa oa.out 2;have pz:=aa oa.out 3;have oz:=aa oa.out 4)|((with_reducible refine yb (N:=9) rfl ?_);refine Kd.xj (Kd.int .i64) _ 3 ?hg (N:=9) ?hd (xs:=([Ia]:List Int)) (inner:=[.int .i64 Ia]) (ok:=fun _=>True) (ri:=fun _=>True) ?hr ?hp (fun _ hk=>hk) trivial (Below.refl _ _) (Nat.le_refl _) (by simp) ?_;(case hd=>rfl);(case hg=>rfl);(case hr=>first|(go_simp;done)|(go_simp;rfl));(case hp=>exact (zd.one (show Kd.M (Kd.int .i64) _ _ _ Ia [.int .i64 Ia] from rfl) (zd.none _ _)));intro zn w5 DQ hb en Ve;clear en Ve;(first|rw [← mj.out] at DQ|(simp only [Int.reduceToNat] at DQ;rw [← mj.out] at DQ));have Fb:=ja.mk (Kd.Rd DQ (Fa (by repeat (first|(with_reducible first|exact HB.out|apply qa|apply ia|apply ta|refine ua ?_ Sa.out)|exact HB.out))));have Ib:=ja.mk (Ua (g:=ya) (o:=.cells #[.slice Ya Pa.length Za,.int .i64 Ka,.int .i64 Ga,.int .i64 Ia,.int .i64 xb] 59 (0,0)) (by (with_reducible repeat (first|refine Ba ?_ _|refine Ea ?_|refine Ca ?_ _));exact oa.out) hb);have Sb:=ja.mk (Qa (by repeat (first|(with_reducible first|exact HB.out|apply qa|apply ia|apply ta|refine ua ?_ Sa.out)|exact HB.out)) hb);clear oa HB;have Xg:=Fb;have oa:=Ib;have HB:=Sb;clear Fb Ib Sb hb DQ));go_ret;exact ⟨_,by first|rfl|(simp [Ma,La] <;> rfl)|(simp [*,Ma,La] <;> rfl),by (with_reducible repeat (first|apply Kd.Ab|apply Kd.zb|apply Kd.Rb));exact Xg.out,by repeat (first|(with_reducible first|exact HB.out|apply qa|apply ia|apply ta|refine ua ?_ Sa.out)|exact HB.out)⟩
 ·rw [if_neg c2] at H;have Vv:(Ka == 0)=false:=beq_eq_false_iff_ne.mpr c2;have Gz:(Ka != 0)=true:=bne_iff_ne.mpr c2
  by_cases c7:Ka=1
  ·rw [if_pos c7] at H;have Tj:(Ka == 1)=true:=beq_iff_eq.mpr c7;have Hq:(Ka != 1)=false:=bne_eq_false_iff_eq.mpr c7;clear c7;obtain ⟨Ag,tf⟩:∃ y_:List Int,y_=(([Ia,xb]:List Int)):=⟨_,rfl⟩;replace H:(some Ag)=some r:=by first|(rw [tf];with_reducible exact H)|(have ue:=(Option.bind_some _ _).symm.trans H;rw [tf];with_reducible exact ue)|(have ue:=(Option.bind_some _ _).symm.trans H;with_reducible exact ue)|with_reducible exact H|(rw [tf];exact H)|exact H
   have Uk:=ja.mk tf;clear tf;obtain rfl:=Option.some.inj H;go_enter Try.func78,Try.ntmps78;go_wp2_with (first|((with_reducible refine yb (N:=1) rfl ?_);refine Gb ?hg (N:=1) ?hd (cs:=#[.slice Ya Pa.length Za,.int .i64 Ka,.int .i64 Ga,.int .i64 Ia,.int .i64 xb]) (t:=59) ?hr ?_;(case hd=>rfl);(case hg=>rfl);(case hr=>first|(go_simp;done)|(go_simp;rfl));intro ya hg w8 Qb hb;have Fb:=ja.mk (Qa (by repeat (first|(with_reducible first|exact HB.out|apply qa|apply ia|apply ta)|exact HB.out)) hb);have Ib:=ja.mk (Qb);have Sb:=ja.mk ((by rw [hg];exact (Fa (by repeat (first|(with_reducible first|exact HB.out|apply qa|apply ia|apply ta)|exact HB.out))):w.heap.size ≤ ya));have Ec:=ja.mk ((by rw [hg];exact (Fa (by repeat (first|(with_reducible first|exact HB.out|apply qa|apply ia|apply ta)|exact HB.out))):w.heap.size ≤ ya));clear HB;have HB:=Fb;have oa:=Ib;have yd:=Sb;have Sa:=Ec;clear Fb Ib Sb Ec hb Qb hg;have Vl:w8.cell? ⟨ya,0,none⟩=some (.slice Ya Pa.length Za):=(ga oa.out 0).trans rfl;have Ul:w8.cell? ⟨ya,1,none⟩=some (.int .i64 Ka):=(ga oa.out 1).trans rfl;have Tl:w8.cell? ⟨ya,2,none⟩=some (.int .i64 Ga):=(ga oa.out 2).trans rfl;have Sl:w8.cell? ⟨ya,3,none⟩=some (.int .i64 Ia):=(ga oa.out 3).trans rfl;have Rl:w8.cell? ⟨ya,4,none⟩=some (.int .i64 xb):=(ga oa.out 4).trans rfl;have Ql:=aa oa.out 0;have Ol:=aa oa.out 1;have Nl:=aa oa.out 2;have Ml:=aa oa.out 3;have Ll:=aa oa.out 4)|((with_reducible refine yb (N:=16) rfl ?_);refine Kd.xj (Kd.int .i64) _ 3 ?hg (N:=16) ?hd (xs:=([Ia,xb]:List Int)) (inner:=[.int .i64 Ia,.int .i64 xb]) (ok:=fun _=>True) (ri:=fun _=>True) ?hr ?hp (fun _ hk=>hk) trivial (Below.refl _ _) (Nat.le_refl _) (by simp) ?_;(case hd=>rfl);(case hg=>rfl);(case hr=>first|(go_simp;done)|(go_simp;rfl));(case hp=>exact (zd.one (show Kd.M (Kd.int .i64) _ _ _ Ia [.int .i64 Ia] from rfl) (zd.one (show Kd.M (Kd.int .i64) _ _ _ xb [.int .i64 xb] from rfl) (zd.none _ _))));intro Zy Lt Wn hb en Ve;clear en Ve;(first|rw [← Uk.out] at Wn|(simp only [Int.reduceToNat] at Wn;rw [← Uk.out] at Wn));have Fb:=ja.mk (Kd.Rd Wn (Fa (by repeat (first|(with_reducible first|exact HB.out|apply qa|apply ia|apply ta|refine ua ?_ Sa.out)|exact HB.out))));have Ib:=ja.mk (Ua (g:=ya) (o:=.cells #[.slice Ya Pa.length Za,.int .i64 Ka,.int .i64 Ga,.int .i64 Ia,.int .i64 xb] 59 (0,0)) (by (with_reducible repeat (first|refine Ba ?_ _|refine Ea ?_|refine Ca ?_ _));exact oa.out) hb);have Sb:=ja.mk (Qa (by repeat (first|(with_reducible first|exact HB.out|apply qa|apply ia|apply ta|refine ua ?_ Sa.out)|exact HB.out)) hb);clear oa HB;have qh:=Fb;have oa:=Ib;have HB:=Sb;clear Fb Ib Sb hb Wn));go_ret;exact ⟨_,by first|rfl|(simp [Ma,La] <;> rfl)|(simp [*,Ma,La] <;> rfl),by (with_reducible repeat (first|apply Kd.Ab|apply Kd.zb|apply Kd.Rb));exact qh.out,by repeat (first|(with_reducible first|exact HB.out|apply qa|apply ia|apply ta|refine ua ?_ Sa.out)|exact HB.out)⟩
  ·rw [if_neg c7] at H;have Tj:(Ka == 1)=false:=beq_eq_false_iff_ne.mpr c7;have Hq:(Ka != 1)=true:=bne_iff_ne.mpr c7;obtain rfl:=Option.some.inj H;go_enter Try.func78,Try.ntmps78;go_wp2_with (first|((with_reducible refine yb (N:=1) rfl ?_);refine Gb ?hg (N:=1) ?hd (cs:=#[.slice Ya Pa.length Za,.int .i64 Ka,.int .i64 Ga,.int .i64 Ia,.int .i64 xb]) (t:=59) ?hr ?_;(case hd=>rfl);(case hg=>rfl);(case hr=>first|(go_simp;done)|(go_simp;rfl));intro ya hg Vt Qb hb;have Fb:=ja.mk (Qa (by repeat (first|(with_reducible first|exact HB.out|apply qa|apply ia|apply ta)|exact HB.out)) hb);have Ib:=ja.mk (Qb);have Sb:=ja.mk ((by rw [hg];exact (Fa (by repeat (first|(with_reducible first|exact HB.out|apply qa|apply ia|apply ta)|exact HB.out))):w.heap.size ≤ ya));have Ec:=ja.mk ((by rw [hg];exact (Fa (by repeat (first|(with_reducible first|exact HB.out|apply qa|apply ia|apply ta)|exact HB.out))):w.heap.size ≤ ya));clear HB;have HB:=Fb;have oa:=Ib;have yd:=Sb;have Sa:=Ec;clear Fb Ib Sb Ec hb Qb hg;have Mp:Vt.cell? ⟨ya,0,none⟩=some (.slice Ya Pa.length Za):=(ga oa.out 0).trans rfl;have Lp:Vt.cell? ⟨ya,1,none⟩=some (.int .i64 Ka):=(ga oa.out 1).trans rfl;have Kp:Vt.cell? ⟨ya,2,none⟩=some (.int .i64 Ga):=(ga oa.out 2).trans rfl;have Jp:Vt.cell? ⟨ya,3,none⟩=some (.int .i64 Ia):=(ga oa.out 3).trans rfl;have Ip:Vt.cell? ⟨ya,4,none⟩=some (.int .i64 xb):=(ga oa.out 4).trans rfl;have Cp:=aa oa.out 0;have Bp:=aa oa.out 1;have Ap:=aa oa.out 2;have zp:=aa oa.out 3;have yp:=aa oa.out 4));go_ret;exact ⟨_,by first|rfl|(simp [Ma,La] <;> rfl)|(simp [*,Ma,La] <;> rfl),by first|exact Kd.nI _ _ _ _ _|exact Kd.P_ _ _ _ _ _|exact Kd.B_ _ _ _ _ _|exact Kd.J_ _ _ _ _ _|exact Kd.F_ _ _ _ _ _,by repeat (first|(with_reducible first|exact HB.out|apply qa|apply ia|apply ta|refine ua ?_ Sa.out)|exact HB.out)⟩
end Go.Proofs.Ytkigbdceceeenaa.P
end
section
namespace Go.Proofs.Ytkigbdceceeenaa.P
open Go.RowKit Go.Proofs.Oa.Wb Go.Proofs.Oa.Vd Go.Proofs.Oa.Xe
set_option linter.unusedVariables false
set_option linter.unusedSimpArgs false
open Classical in
noncomputable def oA (n:Nat) (p:Nat→Prop):Bool:=decide (∀ j,j < n→p j)
open Classical in
theorem qP {n:Nat} {p:Nat→Prop} (h:∀ j,j < n→p j):oA n p=true:=by
 unfold oA;exact decide_eq_true h
open Classical in
theorem kI {n:Nat} {p:Nat→Prop}:oA n p=true ↔ ∀ j,j < n→p j:=by
 unfold oA;exact decide_eq_true_iff
theorem tK {n i:Nat} {p:Nat→Prop} (hi:i < n) (h:¬ p i):oA n p=false:=by
 cases e:oA n p with
 | false=>rfl
 | true=>exact absurd (kI.mp e i hi) h
theorem QJ {ρ:Type} {n:Nat} {R e:ρ} (p:Nat→Prop) (f:Nat→Nat→Option ρ) (hend:Ev (f n) R) (hyes:∀ i,i < n→p i→∀ r,Ev (f (i + 1)) r→Ev (f i) r) (hno:∀ i,i < n→¬ p i→Ev (f i) e):Ev (f 0) (bif oA n p then R else e):=by
 have key:∀ d i,i + d=n→(∀ j,j < i→p j)→Ev (f i) (bif oA n p then R else e):=by
  intro d
  induction d with
  | zero =>
   intro i hi h;have:i=n:=by omega
   subst this;rw [qP h];exact hend
  | succ d ih =>
   intro i hi h
   by_cases hp:p i
   ·refine hyes i (by omega) hp _ (ih (i + 1) (by omega) ?_);intro j hj
    by_cases hji:j=i
    ·rw [hji];exact hp
    ·exact h j (by omega)
   ·rw [tK (by omega) hp];exact hno i (by omega) hp
 exact key n 0 (by omega) (fun j hj=>absurd hj (by omega))
theorem Jz {α:Type} (l:List α) (z:α) (q:α→Bool):oA l.length (fun j=>q (l.getD j z)=true) = !(l.any fun x=>!q x):=by
 rw [Bool.eq_iff_iff,kI];simp only [Bool.not_eq_true',List.any_eq_false,Bool.not_eq_true',Bool.not_eq_false]
 constructor
 ·intro h x hx;obtain ⟨j,hj,rfl⟩:=List.mem_iff_getElem.mp hx;have:=h j hj;rw [List.getD_eq_getElem?_getD,List.getElem?_eq_getElem hj] at this
  simpa using this
 ·intro h j hj;have:=h l[j] (List.getElem_mem hj);rw [List.getD_eq_getElem?_getD,List.getElem?_eq_getElem hj]
  simpa using this
end Go.Proofs.Ytkigbdceceeenaa.P
end
section
namespace Go.Proofs.Ytkigbdceceeenaa.P
open Go.RowKit Go.Proofs.Oa.Wb Go.Proofs.Oa.Vd Go.Proofs.Oa.Xe
set_option linter.unusedVariables false
set_option linter.unusedSimpArgs false
theorem wQ (a b c:Int):Xa.f a b c=some (Jk a b c):=by
 unfold Xa.f Jk
 by_cases h:a ≥ b
 ·rw [if_pos h];have h':b ≤ a:=h;simp [h']
 ·rw [if_neg h];have h':¬ b ≤ a:=h;simp [h']
theorem Df (a b c:Int):Ev (fun _=>Xa.f a b c) (Jk a b c):=Ev.here (wQ a b c)
theorem ZY (t:ByteArray):Ev (fun k=>me.f k ([(⟨#[61,61]⟩:ByteArray),(⟨#[60]⟩:ByteArray),(⟨#[38]⟩:ByteArray),(⟨#[43]⟩:ByteArray),(⟨#[45]⟩:ByteArray),(⟨#[42]⟩:ByteArray)]:List ByteArray) t) (iw t):=by
 refine ⟨8,fun k hk=>?_⟩;obtain ⟨m,rfl⟩:∃ m,k=m + 8:=⟨k - 8,by omega⟩;unfold me.f iw LI;simp only [me.l0,List.any_cons,List.any_nil]
 by_cases h0:t.toList=[61,61]
 ·simp [Kf,h0]
 by_cases h1:t.toList=[60]
 ·simp [Kf,h1,wrap64]
 by_cases h2:t.toList=[38]
 ·simp [Kf,h2,wrap64]
 by_cases h3:t.toList=[43]
 ·simp [Kf,h3,wrap64]
 by_cases h4:t.toList=[45]
 ·simp [Kf,h4,wrap64]
 by_cases h5:t.toList=[42]
 ·simp [Kf,h5,wrap64]
 simp [Kf,Ne.symm h0,Ne.symm h1,Ne.symm h2,Ne.symm h3,Ne.symm h4,Ne.symm h5,h0,h1,h2,h3,h4,h5,wrap64]
theorem fJ (s d:Int):Jk d 0 (s - 1)=Fj s d:=by
 unfold Jk Fj;rw [Bool.eq_iff_iff];simp;omega
def TE (D A B C M:Bool) (o d a b n:Int) (t:ByteArray):Bool :=
 if o=0 then D && (a == 0 && b == 0)
 else if o=1 then D && (A && (b == 0 && n == 0))
 else if o=2 then D && (A && (B && (n == 0 && iw t)))
 else if o=3 then D && M
 else if o=4 then d == 0 && (M && C)
 else if o=5 then D && (a == 0 && (b == 0 && n == 0))
 else if o=6 then d == 0 && (A && (b == 0 && n == 0))
 else false
theorem Ev.My {b:Bool} {f:Nat→Option Bool} {r:Bool} (hf:b=true→Ev f r):Ev (fun n=>if b=true then f n else some false) (b && r):=by
 cases b with
 | true=>exact Ev.pos rfl (hf rfl)
 | false=>exact Ev.neg (by simp) (Ev.now _)
theorem Ev.TD {c:Prop} [Decidable c] {f:Nat→Option Bool} {r:Bool} (hf:c→Ev f r):Ev (fun n=>if c then f n else some false) (decide c && r):=by
 by_cases h:c
 ·rw [decide_eq_true h];exact Ev.pos h (hf h)
 ·rw [decide_eq_false h];exact Ev.neg h (Ev.now _)
section
variable {l0:List Int} {p v s:Int} {l4:List Ce} {o d a b c n:Int} {t:ByteArray}
theorem VH (D A B M:Bool) (x:Bool) (hs:0 ≤ s) (hs':s ≤ 1000):Ev (fun k=>mb.j1 k D A B M x l0 p v s l4 o d a b c n t) (!x && TE D A B (Fj s c) M o d a b n t):=by
 refine Ev.step (fun k=>by rw [mb.j1]) ?_;cases x with
 | true=>exact Ev.pos rfl (Ev.now _)
 | false =>
  refine Ev.neg (by simp) ?_;rw [Bool.not_false,Bool.true_and];unfold TE
  by_cases h0:o=0
  ·rw [if_pos h0];exact Ev.pos h0 (Ev.My fun _=>Ev.TD fun _=>Ev.now _)
  rw [if_neg h0];refine Ev.neg h0 ?_
  by_cases h1:o=1
  ·rw [if_pos h1];exact Ev.pos h1 (Ev.My fun _=>Ev.My fun _=>Ev.TD fun _=>Ev.now _)
  rw [if_neg h1];refine Ev.neg h1 ?_
  by_cases h2:o=2
  ·rw [if_pos h2];exact Ev.pos h2 (Ev.My fun _=>Ev.My fun _=>Ev.My fun _=>Ev.TD fun _=>Ev.bind (ZY t) (Ev.now _))
  rw [if_neg h2];refine Ev.neg h2 ?_
  by_cases h3:o=3
  ·rw [if_pos h3,if_pos h3];exact (Ev.My fun _=>Ev.now _)
  rw [if_neg h3,if_neg h3]
  by_cases h4:o=4
  ·rw [if_pos h4,if_pos h4];refine (Ev.TD fun _=>Ev.My fun _=>?_);rw [ah (x:=s - 1) (by omega) (by omega),← fJ];exact Ev.bind (Df _ _ _) (Ev.now _)
  rw [if_neg h4,if_neg h4]
  by_cases h5:o=5
  ·rw [if_pos h5,if_pos h5];exact (Ev.My fun _=>Ev.TD fun _=>Ev.TD fun _=>Ev.now _)
  rw [if_neg h5,if_neg h5]
  by_cases h6:o=6
  ·rw [if_pos h6,if_pos h6];exact (Ev.TD fun _=>Ev.My fun _=>Ev.TD fun _=>Ev.now _)
  rw [if_neg h6,if_neg h6];exact Ev.now _
theorem Tm (M:Bool) (hM:M=((Fj s a || a == -1) && (Fj s b && Jk n 0 ((l0.length:Int) - 1)))) (hs:0 ≤ s) (hs':s ≤ 1000):Ev (fun k=>mb.j0 k (Fj s d) (Fj s a) (Fj s b) M l0 p v s l4 o d a b c n t) (ql l0.length s o d a b c n t):=by
 refine Ev.step (fun k=>by rw [mb.j0]) ?_
 have key:∀ x:Bool,(x=if o=2 then (c != 0) else if t.toList=[] then (if o=4 then false else (c != 0)) else true)→Ev (fun k=>mb.j1 k (Fj s d) (Fj s a) (Fj s b) M x l0 p v s l4 o d a b c n t) (ql l0.length s o d a b c n t):=by
  intro x hx
  have e:ql l0.length s o d a b c n t=(!x && TE (Fj s d) (Fj s a) (Fj s b) (Fj s c) M o d a b n t):=by
   subst hM;subst hx;unfold ql TE
   by_cases h0:o=0
   ·subst h0;rw [Bool.eq_iff_iff]
    by_cases ht:t.toList=[] <;> simp [ht]
    all_goals (constructor <;> intro h <;> simp_all)
   by_cases h1:o=1
   ·subst h1;rw [Bool.eq_iff_iff]
    by_cases ht:t.toList=[] <;> simp [ht]
    all_goals (constructor <;> intro h <;> simp_all)
   by_cases h2:o=2
   ·subst h2;rw [Bool.eq_iff_iff];simp
    constructor <;> intro h <;> simp_all
   by_cases h3:o=3
   ·subst h3;rw [Bool.eq_iff_iff]
    by_cases ht:t.toList=[] <;> simp [ht]
    all_goals (constructor <;> intro h <;> simp_all)
   by_cases h4:o=4
   ·subst h4;rw [Bool.eq_iff_iff]
    by_cases ht:t.toList=[] <;> simp [ht]
    all_goals (constructor <;> intro h <;> simp_all)
   by_cases h5:o=5
   ·subst h5;rw [Bool.eq_iff_iff]
    by_cases ht:t.toList=[] <;> simp [ht]
    all_goals (constructor <;> intro h <;> simp_all)
   by_cases h6:o=6
   ·subst h6;rw [Bool.eq_iff_iff]
    by_cases ht:t.toList=[] <;> simp [ht]
    all_goals (constructor <;> intro h <;> simp_all)
   simp [h0,h1,h2,h3,h4,h5,h6]
  rw [e];exact VH _ _ _ _ _ hs hs'
 by_cases h2:o=2
 ·exact Ev.pos h2 (Ev.neg (by omega) (key _ (by rw [if_pos h2])))
 ·refine Ev.neg h2 ?_
  by_cases ht:t.toList=([]:List UInt8)
  ·refine Ev.pos ht ?_
   by_cases h4:o=4
   ·exact Ev.pos h4 (key _ (by rw [if_neg h2,if_pos ht,if_pos h4]))
   ·exact Ev.neg h4 (key _ (by rw [if_neg h2,if_pos ht,if_neg h4]))
  ·exact Ev.neg ht (key _ (by rw [if_neg h2,if_neg ht]))
theorem RC (hs:0 ≤ s) (hs':s ≤ 1000) (hl:l0.length ≤ 1048576):Ev (fun k=>mb.f k l0 p v s l4 o d a b c n t) (ql l0.length s o d a b c n t):=by
 unfold mb.f;rw [ah (x:=s - 1) (by omega) (by omega),ah (x:=(l0.length:Int) - 1) (by omega) (by omega)];refine Ev.bind (Df _ _ _) (Ev.bind (Df _ _ _) (Ev.bind (Df _ _ _) ?_));simp only [fJ];cases ha:Fj s a with
 | true =>
  refine Ev.pos rfl ?_;cases hb:Fj s b with
  | true=>exact Ev.pos rfl (Ev.bind (Df _ _ _) (by have:=Tm (l0:=l0) (p:=p) (v:=v) (s:=s) (l4:=l4) (o:=o) (d:=d) (a:=a) (b:=b) (c:=c) (n:=n) (t:=t) (Jk n 0 ((l0.length:Int) - 1)) (by simp [ha,hb]) hs hs';rw [ha,hb] at this;exact this))
  | false=>exact Ev.neg (by simp) (by have:=Tm (l0:=l0) (p:=p) (v:=v) (s:=s) (l4:=l4) (o:=o) (d:=d) (a:=a) (b:=b) (c:=c) (n:=n) (t:=t) false (by simp [hb]) hs hs';rw [ha,hb] at this;exact this)
 | false =>
  refine Ev.neg (by simp) ?_
  by_cases h1:a = -1
  ·refine Ev.pos h1 ?_;cases hb:Fj s b with
   | true=>exact Ev.pos rfl (Ev.bind (Df _ _ _) (by have:=Tm (l0:=l0) (p:=p) (v:=v) (s:=s) (l4:=l4) (o:=o) (d:=d) (a:=a) (b:=b) (c:=c) (n:=n) (t:=t) (Jk n 0 ((l0.length:Int) - 1)) (by simp [h1,hb]) hs hs';rw [ha,hb] at this;exact this))
   | false=>exact Ev.neg (by simp) (by have:=Tm (l0:=l0) (p:=p) (v:=v) (s:=s) (l4:=l4) (o:=o) (d:=d) (a:=a) (b:=b) (c:=c) (n:=n) (t:=t) false (by simp [hb]) hs hs';rw [ha,hb] at this;exact this)
  ·exact Ev.neg h1 (by have:=Tm (l0:=l0) (p:=p) (v:=v) (s:=s) (l4:=l4) (o:=o) (d:=d) (a:=a) (b:=b) (c:=c) (n:=n) (t:=t) false (by simp [ha,h1]) hs hs';rw [ha] at this;exact this)
theorem OJ (code:List Rf) (j ba tg els:Int) (hs:0 ≤ s) (hs':s ≤ 1000) (hl:l0.length ≤ 1048576) (hl4:l4.length ≤ 1048576) (hc:code.length ≤ 1048576):Ev (fun k=>jc.f k l0 p v s l4 code j ba tg els) (jj l0.length s l4.length code j ba tg els):=by
 unfold jc.f;have key:=QJ (n:=code.length) (R:=(if j=0 then Jk tg 0 ((l4.length:Int) - 1) && ba == 0 && els == 0 else if j=1 then Jk tg 0 ((l4.length:Int) - 1) && Jk els 0 ((l4.length:Int) - 1) && Fj s ba else if j=2 then Fj s ba && tg == 0 && els == 0 else false)) (e:=false) (fun i=>ym l0.length s (code.getD i XD)=true) (fun i k=>jc.l0 k (i:Int) l0 p v s l4 code j ba tg els) ?_ ?_ ?_
 ·have e:(bif oA code.length (fun i=>ym l0.length s (code.getD i XD)=true) then (if j=0 then Jk tg 0 ((l4.length:Int) - 1) && ba == 0 && els == 0 else if j=1 then Jk tg 0 ((l4.length:Int) - 1) && Jk els 0 ((l4.length:Int) - 1) && Fj s ba else if j=2 then Fj s ba && tg == 0 && els == 0 else false) else false)=jj l0.length s l4.length code j ba tg els:=by
   rw [Jz];unfold jj;rw [decide_eq_true hs,Bool.and_true];cases (!(code.any fun x=>!ym l0.length s x)) <;> rfl
  rw [e] at key;exact key
 ·refine Ev.step (fun k=>by rw [jc.l0]) (Ev.neg (by omega) ?_);rw [ah (x:=s - 1) (by omega) (by omega),ah (x:=(l4.length:Int) - 1) (by omega) (by omega)];refine Ev.bind (Df _ _ _) (Ev.bind (Df _ _ _) ?_);rw [fJ s ba]
  by_cases h0:j=0
  ·rw [if_pos h0,if_pos h0,Bool.and_assoc];exact Ev.My fun _=>Ev.TD fun _=>Ev.now _
  rw [if_neg h0,if_neg h0]
  by_cases h1:j=1
  ·rw [if_pos h1,if_pos h1,Bool.and_assoc,Bool.and_comm (Jk els 0 ((l4.length:Int) - 1))];exact Ev.My fun _=>Ev.My fun _=>Ev.bind (Df _ _ _) (Ev.now _)
  rw [if_neg h1,if_neg h1]
  by_cases h2:j=2
  ·rw [if_pos h2,if_pos h2,Bool.and_assoc];exact Ev.My fun _=>Ev.TD fun _=>Ev.now _
  rw [if_neg h2,if_neg h2];exact Ev.now _
 ·intro i hi hp r hr;refine Ev.step (fun k=>by rw [jc.l0]) (Ev.pos (by omega) (Ev.pos (by omega) ?_));refine Ev.bind (RC hs hs' hl) ?_;have hq:ql l0.length s (Ta code (i:Int)).f0 (Ta code (i:Int)).f1 (Ta code (i:Int)).f2 (Ta code (i:Int)).f3 (Ta code (i:Int)).f4 (Ta code (i:Int)).f5 (Ta code (i:Int)).f6=true:=hp;refine Ev.pos hq ?_;rw [Ee hi (by omega)];exact hr
 ·intro i hi hp;refine Ev.step (fun k=>by rw [jc.l0]) (Ev.pos (by omega) (Ev.pos (by omega) ?_));refine Ev.bind (RC hs hs' hl) ?_;exact Ev.neg hp (Ev.now _)
end
def Ld (l:List Ce):Nat:=(l.map fun x=>x.f0.length).sum
def wz (l0:List Int) (p v s:Int) (n4:Nat):Bool:=Ov l0 p v && Jk s v 1000 && Jk (n4:Int) 1 300
def Po (l0:List Int) (s:Int) (l4:List Ce) (x:Ce):Bool:=jj l0.length s l4.length x.f0 x.f1 x.f2 x.f3 x.f4
def Wl (l0:List Int) (p v s:Int) (l4:List Ce):Bool:=wz l0 p v s l4.length && (!(l4.any fun x=>!Po l0 s l4 x) && decide (Ld l4 ≤ 1000))
theorem gw (l:List Ce) (i:Nat) (h:i < l.length):Ld (l.take (i + 1))=Ld (l.take i) + l[i].f0.length:=by
 unfold Ld;rw [List.take_succ_eq_append_getElem h,List.map_append,List.sum_append];simp
theorem nC (l:List Nat) (i:Nat):(l.take i).sum ≤ l.sum:=by
 conv=>rhs;rw [← List.take_append_drop i l]
 rw [List.sum_append];omega
theorem oC (l:List Ce) (i:Nat):Ld (l.take i) ≤ Ld l:=by
 unfold Ld;rw [List.map_take];exact nC _ _
theorem vz {l0:List Int} {p v s:Int} {n4:Nat} (h:wz l0 p v s n4=true):1 ≤ l0.length∧l0.length ≤ 4∧0 ≤ p∧p ≤ v∧p ≤ 6∧v ≤ 20∧v ≤ s∧s ≤ 1000∧1 ≤ n4∧n4 ≤ 300:=by
 unfold wz Ov Jk at h;simp only [Bool.and_eq_true,decide_eq_true_eq] at h;obtain ⟨⟨⟨⟨⟨⟨h1,h2⟩,_⟩,h3,h4⟩,h5⟩,h6,h7⟩,h8,h9⟩:=h
 split at h4 <;> omega
section
variable {l0:List Int} {p v s:Int} {l4:List Ce}
theorem QC (h0:l0.length ≤ 1048576) (hl4:l4.length ≤ 1048576) (ht:Ld l4 ≤ 1048576):Ev (fun k=>dc.f k l0 p v s l4) (Wl l0 p v s l4):=by
 unfold dc.f cg.f;simp only [List.length_nil,if_true];refine Ev.val ?_
 have no:∀ {r:Bool},r=false→Ev (fun k=>dc.j0 k true l0 p v s l4) r:=by
  intro r hr;subst hr;exact Ev.step (fun k=>by rw [dc.j0]) (Ev.pos rfl (Ev.now _))
 unfold Wl wz;cases hp:Ov l0 p v with
 | false=>exact Ev.neg (by simp) (no (by simp))
 | true =>
  refine Ev.pos rfl (Ev.bind (Ev.here (zH _ _ _)) ?_);cases hv:Jk s v 1000 with
  | false=>exact Ev.neg (by simp) (no (by simp))
  | true =>
   refine Ev.pos rfl (Ev.bind (Ev.here (zH _ _ _)) ?_);cases hn:Jk (l4.length:Int) 1 300 with
   | false=>exact no (by simp)
   | true =>
    refine Ev.step (fun k=>by rw [dc.j0]) (Ev.neg (by simp) ?_);simp only [Bool.true_and];have key:=QJ (n:=l4.length) (R:=decide (Ld l4 ≤ 1000)) (e:=false) (fun i=>Po l0 s l4 (l4.getD i uI)=true) (fun i k=>dc.l0 k (Ld (l4.take i):Int) l4 (l4.length:Int) (i:Int) l0 p v s l4) ?_ ?_ ?_
    ·have e:(bif oA l4.length (fun i=>Po l0 s l4 (l4.getD i uI)=true) then decide (Ld l4 ≤ 1000) else false)=(!(l4.any fun x=>!Po l0 s l4 x) && decide (Ld l4 ≤ 1000)):=by
      rw [Jz];cases (!(l4.any fun x=>!Po l0 s l4 x)) <;> rfl
     rw [e] at key
     simpa [Ld] using key
    ·refine Ev.step (fun k=>by rw [dc.l0]) (Ev.neg (by omega) ?_);rw [List.take_length]
     have e:decide ((Ld l4:Int) ≤ 1000)=decide (Ld l4 ≤ 1000):=by
      rw [Bool.eq_iff_iff,decide_eq_true_iff,decide_eq_true_iff];omega
     rw [e];exact Ev.now _
    ·intro i hi hq r hr;refine Ev.step (fun k=>by rw [dc.l0]) (Ev.pos (by omega) (Ev.pos (by omega) (Ev.pos (by omega) ?_)));unfold Rh.f;have hq':jj l0.length s l4.length (Aa l4 (i:Int)).f0 (Aa l4 (i:Int)).f1 (Aa l4 (i:Int)).f2 (Aa l4 (i:Int)).f3 (Aa l4 (i:Int)).f4=true:=hq;refine Ev.val (Ev.pos hq' ?_);have h1:=gw l4 i hi;have h2:=oC l4 (i + 1);rw [Jg hi,Ee hi (by omega),ah (x:=(Ld (l4.take i):Int) + (l4[i].f0.length:Int)) (by omega) (by omega),show (Ld (l4.take i):Int) + (l4[i].f0.length:Int)=(Ld (l4.take (i + 1)):Int) from by omega];exact hr
    ·intro i hi hq;refine Ev.step (fun k=>by rw [dc.l0]) (Ev.pos (by omega) (Ev.pos (by omega) (Ev.pos (by omega) ?_)));unfold Rh.f;exact Ev.val (Ev.neg hq (Ev.now _))
theorem SC (h0:l0.length ≤ 1048576) (hl4:l4.length ≤ 1048576) (ht:Ld l4 ≤ 1048576):Ev (fun k=>Va.f k l0 p v s l4) (Wl l0 p v s l4):=by
 unfold Va.f
 have no:∀ {r:Bool},r=false→Ev (fun k=>Va.j1 k true l0 p v s l4) r:=by
  intro r hr;subst hr;exact Ev.step (fun k=>by rw [Va.j1]) (Ev.pos rfl (Ev.now _))
 have key:=QJ (n:=l0.length) (R:=Jk (l0.length:Int) 1 4 && (Jk v 0 20 && (Jk p 0 6 && (decide (p ≤ v) && (Jk s v 1000 && (Jk (l4.length:Int) 1 300 && (!(l4.any fun x=>!Po l0 s l4 x) && decide (Ld l4 ≤ 1000)))))))) (e:=false) (fun i=>Jk (l0.getD i 0) 1 16=true) (fun i k=>Va.l0 k (i:Int) l0 p v s l4) ?_ ?_ ?_
 ·have e:(bif oA l0.length (fun i=>Jk (l0.getD i 0) 1 16=true) then (Jk (l0.length:Int) 1 4 && (Jk v 0 20 && (Jk p 0 6 && (decide (p ≤ v) && (Jk s v 1000 && (Jk (l4.length:Int) 1 300 && (!(l4.any fun x=>!Po l0 s l4 x) && decide (Ld l4 ≤ 1000)))))))) else false)=Wl l0 p v s l4:=by
   rw [Jz l0 0 (fun x=>Jk x 1 16)];unfold Wl wz Ov;rw [Bool.eq_iff_iff];cases (!(l0.any fun x=>!Jk x 1 16))
   ·simp
   ·simp only [cond_true,Bool.and_eq_true,Jk,decide_eq_true_eq,and_assoc,true_and]
    constructor
    ·rintro ⟨h1,h2,h3,h4,h5,h6,h7,h8⟩;refine ⟨h1,h2,h5,?_,h4,h8⟩
     split <;> omega
    ·rintro ⟨h1,h2,h5,h6,h4,h7,h8,h9⟩;refine ⟨h1,h2,?_⟩
     split at h6 <;> exact ⟨by omega,by omega,by omega,by omega,by omega,h7,h8,h9⟩
  rw [e] at key;exact key
 ·refine Ev.step (fun k=>by rw [Va.l0]) (Ev.neg (by omega) ?_);refine Ev.bind (Df _ _ _) ?_;cases hb0:Jk (l0.length:Int) 1 4 with
  | false=>exact Ev.neg (by simp) (no (by simp))
  | true =>
   refine Ev.pos rfl (Ev.bind (Df _ _ _) ?_);cases lA:Jk v 0 20 with
   | false=>exact Ev.neg (by simp) (no (by simp))
   | true =>
    refine Ev.pos rfl (Ev.bind (Df _ _ _) ?_);cases Hi:Jk p 0 6 with
    | false=>exact Ev.neg (by simp) (no (by simp))
    | true =>
     refine Ev.pos rfl ?_
     by_cases hpv:p > v
     ·refine Ev.pos hpv (no ?_);rw [decide_eq_false (show ¬ p ≤ v from by omega)];simp
     ·refine Ev.neg hpv (Ev.bind (Df _ _ _) ?_);rw [decide_eq_true (show p ≤ v from by omega)];cases SW:Jk s v 1000 with
      | false=>exact Ev.neg (by simp) (no (by simp))
      | true =>
       refine Ev.pos rfl (Ev.bind (Df _ _ _) ?_);cases hb4:Jk (l4.length:Int) 1 300 with
       | false=>exact no (by simp)
       | true =>
        refine Ev.step (fun k=>by rw [Va.j1]) (Ev.neg (by simp) ?_);simp only [Bool.true_and];have hs0:0 ≤ s∧s ≤ 1000:=by simp [Jk] at lA SW;omega
        have key:=Xl (r:=true) (n:=l4.length) (fun i=>Ld (l4.take i) ≤ 1000→Ev (fun k=>Va.l1 k (Ld (l4.take i):Int) (i:Int) l0 p v s l4) (!((l4.drop i).any fun x=>!Po l0 s l4 x) && decide (Ld l4 ≤ 1000))) ?_ ?_ 0 (by omega) (by simp [Ld])
        ·rw [List.drop_zero] at key
         simpa [Ld] using key
        ·intro h;rw [List.take_length] at h;refine Ev.step (fun k=>by rw [Va.l1]) (Ev.neg (by omega) ?_);rw [List.drop_length,decide_eq_true h];exact Ev.now _
        ·intro i hi ih h;have h1:=gw l4 i hi;have h2:=oC l4 (i + 1);refine Ev.step (fun k=>by rw [Va.l1]) (Ev.pos (by omega) (Ev.pos (by omega) ?_));rw [Jg hi,ah (x:=(Ld (l4.take i):Int) + (l4[i].f0.length:Int)) (by omega) (by omega),show (Ld (l4.take i):Int) + (l4[i].f0.length:Int)=(Ld (l4.take (i + 1)):Int) from by omega]
         have hd:((l4.drop i).any fun x=>!Po l0 s l4 x)=(!Po l0 s l4 l4[i] || (l4.drop (i + 1)).any fun x=>!Po l0 s l4 x):=by
          rw [List.drop_eq_getElem_cons hi,List.any_cons]
         rw [hd]
         by_cases hgt:(Ld (l4.take (i + 1)):Int) > 1000
         ·rw [decide_eq_false (show ¬ Ld l4 ≤ 1000 from by omega),Bool.and_false];exact Ev.pos hgt (Ev.now _)
         ·refine Ev.neg hgt (Ev.bind (OJ _ _ _ _ _ hs0.1 hs0.2 h0 hl4 (by omega)) ?_);cases hq:Po l0 s l4 l4[i] with
          | false =>
           have hq':¬ jj l0.length s l4.length l4[i].f0 l4[i].f1 l4[i].f2 l4[i].f3 l4[i].f4=true:=by
            have e:jj l0.length s l4.length l4[i].f0 l4[i].f1 l4[i].f2 l4[i].f3 l4[i].f4=false:=hq;rw [e];simp
           exact Ev.neg hq' (Ev.now _)
          | true =>
           have hq':jj l0.length s l4.length l4[i].f0 l4[i].f1 l4[i].f2 l4[i].f3 l4[i].f4=true:=hq;refine Ev.pos hq' ?_;rw [Ee hi (by omega),Bool.not_true,Bool.false_or];exact ih (by omega)
 ·intro i hi hq r hr;refine Ev.step (fun k=>by rw [Va.l0]) (Ev.pos (by omega) (Ev.pos (by omega) ?_));refine Ev.bind (Df _ _ _) (Ev.pos hq ?_);rw [Ee hi (by omega)];exact hr
 ·intro i hi hq;refine Ev.step (fun k=>by rw [Va.l0]) (Ev.pos (by omega) (Ev.pos (by omega) ?_));exact Ev.bind (Df _ _ _) (Ev.neg hq (Ev.now _))
end
end Go.Proofs.Ytkigbdceceeenaa.P
end
section
namespace Go.Proofs.Ytkigbdceceeenaa.P
open Go.RowKit Go.Proofs.Oa.Wb Go.Proofs.Oa.Vd Go.Proofs.Oa.Xe
set_option linter.unusedVariables false
set_option linter.unusedSimpArgs false
theorem Uq {l:List Int} {j:Nat} (hj:j < l.length):rd l (j:Int)=l[j]:=by simp [rd,List.getD_eq_getElem?_getD,hj]
def MH (b:Ce):List Int:=if b.f1=0 then [b.f3] else if b.f1=1 then [b.f3,b.f4] else []
theorem yO (b:Ce):Pk.f b.f0 b.f1 b.f2 b.f3 b.f4=some (MH b):=by
 unfold Pk.f MH
 by_cases h0:b.f1=0
 ·rw [if_pos h0,if_pos h0]
 ·rw [if_neg h0,if_neg h0]
  by_cases h1:b.f1=1
  ·rw [if_pos h1,if_pos h1]
  ·rw [if_neg h1,if_neg h1]
theorem xO (b:Ce):Bj.f b.f0 b.f1 b.f2 b.f3 b.f4=some (MH b):=by
 unfold Bj.f MH
 by_cases h0:b.f1=0
 ·rw [if_pos h0,if_pos h0]
 ·rw [if_neg h0,if_neg h0]
  by_cases h1:b.f1=1
  ·rw [if_pos h1,if_pos h1]
  ·rw [if_neg h1,if_neg h1]
theorem LH (b:Ce):(MH b).length ≤ 2:=by
 unfold MH
 by_cases h0:b.f1=0
 ·rw [if_pos h0];simp
 ·rw [if_neg h0]
  by_cases h1:b.f1=1
  ·rw [if_pos h1];simp
  ·rw [if_neg h1];simp
def zq (bs:List Ce) (i:Nat):List Int:=MH (Aa bs (i:Int))
def Wy (bs:List Ce):Prop:=0 < bs.length∧bs.length ≤ 1048576∧∀ i,i < bs.length→∀ j ∈ zq bs i,0 ≤ j∧j < (bs.length:Int)
theorem aK {l0:List Int} {p v s:Int} {bs:List Ce} (h:Wl l0 p v s bs=true):Wy bs:=by
 unfold Wl at h;simp only [Bool.and_eq_true] at h;obtain ⟨h1,h2,-⟩:=h;have hh:=vz h1;refine ⟨by omega,by omega,fun i hi j hj=>?_⟩
 have hb:Po l0 s bs bs[i]=true:=by
  simp only [Bool.not_eq_true',List.any_eq_false] at h2;have:=h2 _ (List.getElem_mem hi)
  simpa using this
 unfold Po jj at hb;simp only [Bool.and_eq_true] at hb;obtain ⟨-,hb⟩:=hb;unfold zq at hj;rw [Jg hi] at hj;unfold MH at hj
 by_cases h0:bs[i].f1=0
 ·rw [if_pos h0] at hj hb;simp only [Bool.and_eq_true,Jk,decide_eq_true_eq] at hb;rw [List.mem_singleton] at hj;subst hj;omega
 ·rw [if_neg h0] at hj hb
  by_cases h1:bs[i].f1=1
  ·rw [if_pos h1] at hj hb;simp only [Bool.and_eq_true,Jk,decide_eq_true_eq] at hb;simp only [List.mem_cons,List.not_mem_nil,or_false] at hj
   rcases hj with hj|hj <;> subst hj <;> omega
  ·rw [if_neg h1] at hj;cases hj
def seen (s:List Bool) (j:Nat):Bool:=s.getD j false
theorem qw (s:List Bool) (j:Nat):Kf false s (j:Int)=seen s j:=rfl
theorem zu {s:List Bool} {j:Nat} (h:seen s j=true):j < s.length:=by
 unfold seen at h
 rcases Nat.lt_or_ge j s.length with h'|h'
 ·exact h'
 ·rw [List.getD_eq_getElem?_getD,List.getElem?_eq_none h'] at h;simp at h
def news (s:List Bool):Nat:=s.count false
def Shut (nx:Nat→List Int) (s:List Bool) (q:List Int) (i:Nat):Prop:=∀ j,seen s j=true→(j:Int) ∉ q→j ≠ i→∀ m ∈ nx j,seen s m.toNat=true
theorem oH {s t:List Bool} (hl:s.length=t.length) (h:∀ j,seen s j=true ↔ seen t j=true):s=t:=by
 apply List.ext_getElem hl;intro i h1 h2;have:=h i;unfold seen at this;rw [List.getD_eq_getElem?_getD,List.getElem?_eq_getElem h1,List.getD_eq_getElem?_getD,List.getElem?_eq_getElem h2] at this;simp only [Option.getD_some] at this;exact Bool.eq_iff_iff.mpr this
theorem ZD (n j:Nat):seen (List.replicate n false) j=false:=by
 unfold seen;rw [List.getD_eq_getElem?_getD,List.getElem?_replicate]
 by_cases h:j < n
 ·rw [if_pos h];rfl
 ·rw [if_neg h];rfl
def xh (x:Rf):List Int :=
 if x.f0=1 ∨ x.f0=6 then [x.f2] else if x.f0=2 then [x.f2,x.f3] else if x.f0=3 ∨ x.f0=4 then [x.f3] ++ (if 0 ≤ x.f2 then [x.f2] else []) ++ (if x.f0=4 then [x.f4] else []) else []
def yC (x:Rf):Int:=if x.f0=4 then -1 else if x.f0=6 then -1 else x.f1
def Xz (n:Nat) (x:Rf):Prop:=(∀ u ∈ xh x,0 ≤ u∧u < (n:Int))∧(¬ x.f0=4→¬ x.f0=6→0 ≤ x.f1∧x.f1 < (n:Int))
theorem YD (x:Rf):(xh x).length ≤ 3:=by
 unfold xh
 by_cases h1:x.f0=1 ∨ x.f0=6
 ·rw [if_pos h1];simp
 ·rw [if_neg h1]
  by_cases h2:x.f0=2
  ·rw [if_pos h2];simp
  ·rw [if_neg h2]
   by_cases h3:x.f0=3 ∨ x.f0=4
   ·rw [if_pos h3]
    by_cases h4:0 ≤ x.f2
    ·rw [if_pos h4]
     by_cases h5:x.f0=4
     ·rw [if_pos h5];simp
     ·rw [if_neg h5];simp
    ·rw [if_neg h4]
     by_cases h5:x.f0=4
     ·rw [if_pos h5];simp
     ·rw [if_neg h5];simp
   ·rw [if_neg h3];simp
def qC (s:List Bool) (u:Int):List Bool:=s.set u.toNat true
def Xp (s:List Bool) (x:Rf):List Bool:=(xh x).foldl qC (if yC x ≥ 0 then s.set (yC x).toNat false else s)
def qg (b:Ce) (s:List Bool):List Bool:=if b.f1=0 then s else s.set b.f2.toNat true
def jz (b:Ce) (s:List Bool):List Bool:=b.f0.foldr (fun x s=>Xp s x) (qg b s)
theorem wv:∀ (l:List Int) (s:List Bool),(l.foldl qC s).length=s.length
 | [],_=>rfl
 | u :: l,s=>by rw [List.foldl_cons,wv l];unfold qC;rw [List.length_set]
theorem pP (s:List Bool) (x:Rf):(Xp s x).length=s.length:=by
 unfold Xp;rw [wv]
 by_cases h:yC x ≥ 0
 ·rw [if_pos h,List.length_set]
 ·rw [if_neg h]
theorem Pm (b:Ce) (s:List Bool):(qg b s).length=s.length:=by
 unfold qg
 by_cases h:b.f1=0
 ·rw [if_pos h]
 ·rw [if_neg h,List.length_set]
theorem Iz (l:List Rf) (s:List Bool):(l.foldr (fun x s=>Xp s x) s).length=s.length:=by
 induction l with
 | nil=>rfl
 | cons x l ih=>rw [List.foldr_cons,pP,ih]
theorem zm (b:Ce) (s:List Bool):(jz b s).length=s.length:=by
 unfold jz;rw [Iz,Pm]
theorem Di {s:List Bool} {i j:Nat} {b:Bool} (hi:i < s.length):seen (s.set i b) j=if i=j then b else seen s j:=by
 unfold seen;rw [List.getD_eq_getElem?_getD,List.getD_eq_getElem?_getD,List.getElem?_set]
 by_cases h:i=j
 ·rw [if_pos h,if_pos h,if_pos hi];rfl
 ·rw [if_neg h,if_neg h]
def B2 (u:Nat) (x:Rf) (b:Bool):Bool:=if (u:Int) ∈ xh x then true else if yC x=(u:Int) then false else b
def CO (u:Nat) (k:Ce) (b:Bool):Bool:=if k.f1=0 then b else if k.f2=(u:Int) then true else b
def BS (u:Nat) (k:Ce) (b:Bool):Bool:=k.f0.foldr (B2 u) (CO u k b)
theorem ER {u:Nat} {x:Rf} {a b:Bool} (h:a=true→b=true):B2 u x a=true→B2 u x b=true:=by
 unfold B2
 by_cases h1:(u:Int) ∈ xh x
 ·rw [if_pos h1,if_pos h1];exact id
 ·rw [if_neg h1,if_neg h1]
  by_cases h2:yC x=(u:Int)
  ·rw [if_pos h2,if_pos h2];exact id
  ·rw [if_neg h2,if_neg h2];exact h
theorem cu {u:Nat} {k:Ce} {a b:Bool} (h:a=true→b=true):BS u k a=true→BS u k b=true:=by
 unfold BS
 have he:CO u k a=true→CO u k b=true:=by
  unfold CO
  by_cases h1:k.f1=0
  ·rw [if_pos h1,if_pos h1];exact h
  ·rw [if_neg h1,if_neg h1]
   by_cases h2:k.f2=(u:Int)
   ·rw [if_pos h2,if_pos h2];exact id
   ·rw [if_neg h2,if_neg h2];exact h
 induction k.f0 with
 | nil=>exact he
 | cons x l ih=>exact ER ih
theorem Yt:∀ (l:List Int) (s:List Bool) (u:Nat),(∀ a ∈ l,0 ≤ a∧a < (s.length:Int))→seen (l.foldl qC s) u=(decide ((u:Int) ∈ l) || seen s u)
 | [],s,u,_=>by simp
 | a :: l,s,u,h=>by
  obtain ⟨a0,a1⟩:=h a (by simp);rw [List.foldl_cons,Yt l (qC s a) u (fun c hc=>by unfold qC;rw [List.length_set];exact h c (by simp [hc]))];unfold qC;rw [Di (by omega)]
  by_cases e:a.toNat=u
  ·rw [if_pos e,decide_eq_true (show (u:Int) ∈ a :: l from List.mem_cons.2 (Or.inl (by omega)))];simp
  ·rw [if_neg e]
   have:(u:Int) ∈ a :: l ↔ (u:Int) ∈ l:=by
    rw [List.mem_cons];exact ⟨fun h=>h.resolve_left (by omega),Or.inr⟩
   rw [decide_eq_decide.2 this]
theorem rK {s:List Bool} {x:Rf} {u:Nat} (hx:Xz s.length x):seen (Xp s x) u=B2 u x (seen s u):=by
 obtain ⟨h1,h2⟩:=hx;unfold Xp B2
 have hm:yC x ≥ 0→(yC x).toNat < s.length:=by
  unfold yC;intro h
  by_cases h4:x.f0=4
  ·rw [if_pos h4] at h;omega
  ·rw [if_neg h4] at h ⊢
   by_cases h6:x.f0=6
   ·rw [if_pos h6] at h;omega
   ·rw [if_neg h6] at h ⊢;have:=h2 h4 h6;omega
 have hlen:(if yC x ≥ 0 then s.set (yC x).toNat false else s).length=s.length:=by
  by_cases h:yC x ≥ 0
  ·rw [if_pos h,List.length_set]
  ·rw [if_neg h]
 rw [Yt _ _ _ (fun a ha=>by rw [hlen];exact h1 a ha)]
 by_cases hu:(u:Int) ∈ xh x
 ·rw [if_pos hu,decide_eq_true hu];rfl
 ·rw [if_neg hu,decide_eq_false hu,Bool.false_or]
  by_cases h:yC x ≥ 0
  ·rw [if_pos h,Di (hm h)]
   by_cases e:yC x=(u:Int)
   ·rw [if_pos e,if_pos (by omega)]
   ·rw [if_neg e,if_neg (by omega)]
  ·rw [if_neg h,if_neg (by omega)]
def ou (n:Nat) (b:Ce):Prop:=b.f0.length ≤ 1048576∧(¬ b.f1=0→0 ≤ b.f2∧b.f2 < (n:Int))∧∀ x ∈ b.f0,Xz n x
theorem BO {s:List Bool} {b:Ce} {u:Nat} (hb:¬ b.f1=0→0 ≤ b.f2∧b.f2 < (s.length:Int)):seen (qg b s) u=CO u b (seen s u):=by
 unfold qg CO
 by_cases h:b.f1=0
 ·rw [if_pos h,if_pos h]
 ·have:=hb h;rw [if_neg h,if_neg h,Di (by omega)]
  by_cases e:b.f2=(u:Int)
  ·rw [if_pos e,if_pos (by omega)]
  ·rw [if_neg e,if_neg (by omega)]
theorem bu {s:List Bool} {b:Ce} {u:Nat} (hb:ou s.length b):seen (jz b s) u=BS u b (seen s u):=by
 unfold jz BS;obtain ⟨_,h2,h3⟩:=hb;have he:=BO (u:=u) h2;have hl:=Pm b s;generalize qg b s=s0 at he hl;rw [← he];clear he h2;generalize b.f0=cd at h3 ⊢
 induction cd with
 | nil=>rfl
 | cons x l ih =>
  rw [List.foldr_cons,List.foldr_cons,rK (by rw [Iz,hl];exact h3 x (by simp)),ih (fun y hy=>h3 y (by simp [hy]))]
inductive LB (bs:List Ce) (u:Nat):Nat→Prop
 | gen {i:Nat} {t:Int}:t ∈ zq bs i→BS u (Aa bs t) false=true→LB bs u i
 | step {i:Nat} {t:Int}:t ∈ zq bs i→BS u (Aa bs t) true=true→LB bs u t.toNat→LB bs u i
noncomputable def fk (bs:List Ce) (n i:Nat):List Bool:=open Classical in (List.range n).map fun u=>decide (LB bs u i)
noncomputable def ze (bs:List Ce) (n:Nat):List (List Bool):=(List.range bs.length).map (fk bs n)
theorem Kg (bs:List Ce) (n i:Nat):(fk bs n i).length=n:=by simp [fk]
theorem Zg (bs:List Ce) (n:Nat):(ze bs n).length=bs.length:=by simp [ze]
theorem Dn {bs:List Ce} {n i u:Nat} (hu:u < n):seen (fk bs n i) u=true ↔ LB bs u i:=by simp [seen,fk,List.getD_eq_getElem?_getD,hu]
def jn (bs:List Ce) (n:Nat):Prop:=Wy bs∧n ≤ 1048576∧∀ b ∈ bs,ou n b
def Yd (X:List (List Bool)) (i:Nat):List Bool:=X.getD i []
theorem fq {X:List (List Bool)} {i k:Nat} {x:List Bool} (hi:i < X.length):Yd (X.set i x) k=if i=k then x else Yd X k:=by
 unfold Yd;rw [List.getD_eq_getElem?_getD,List.getD_eq_getElem?_getD,List.getElem?_set]
 by_cases h:i=k
 ·rw [if_pos h,if_pos h,if_pos hi];rfl
 ·rw [if_neg h,if_neg h]
structure zD (bs:List Ce) (n:Nat) (X Y:List (List Bool)):Prop where
 xl:X.length=bs.length
 yl:Y.length=bs.length
 xr:∀ i,i < bs.length→(Yd X i).length=n
 yr:∀ i,i < bs.length→(Yd Y i).length=n
 xs:∀ i u,i < bs.length→seen (Yd X i) u=true→LB bs u i
 ys:∀ i u,i < bs.length→seen (Yd Y i) u=true→BS u (Aa bs (i:Int)) (seen (Yd X i) u)=true
section
variable {bs:List Ce} {n:Nat} {X Y:List (List Bool)}
theorem zD.or (h:zD bs n X Y) (hE:Wy bs) {i s:Nat} {t:Int} (hi:i < bs.length) (ht:t ∈ zq bs i) (hs:s < n):zD bs n (X.set i ((Yd X i).set s (seen (Yd X i) s || seen (Yd Y t.toNat) s))) Y:=by
 obtain ⟨t0,t1⟩:=hE.2.2 i hi t ht;have hil:i < X.length:=by rw [h.xl];exact hi
 have BQ:s < (Yd X i).length:=by rw [h.xr i hi];exact hs
 refine ⟨by rw [List.length_set];exact h.xl,h.yl,fun k hk=>?_,h.yr,fun k u hk hu=>?_,fun k u hk hu=>?_⟩
 ·rw [fq hil]
  by_cases e:i=k
  ·rw [if_pos e,List.length_set];exact h.xr i hi
  ·rw [if_neg e];exact h.xr k hk
 ·rw [fq hil] at hu
  by_cases e:i=k
  ·subst e;rw [if_pos rfl,Di BQ] at hu
   by_cases e2:s=u
   ·subst e2;rw [if_pos rfl,Bool.or_eq_true] at hu
    rcases hu with hu|hu
    ·exact h.xs i s hk hu
    ·have hy:=h.ys t.toNat s (by omega) hu;rw [Int.toNat_of_nonneg t0] at hy;cases hb:seen (Yd X t.toNat) s with
     | false=>rw [hb] at hy;exact LB.gen ht hy
     | true=>rw [hb] at hy;exact LB.step ht hy (h.xs t.toNat s (by omega) hb)
   ·rw [if_neg e2] at hu;exact h.xs i u hk hu
  ·rw [if_neg e] at hu;exact h.xs k u hk hu
 ·have hy:=h.ys k u hk hu;rw [fq hil]
  by_cases e:i=k
  ·subst e;rw [if_pos rfl,Di BQ]
   by_cases e2:s=u
   ·subst e2;rw [if_pos rfl];exact cu (fun hb=>by rw [hb];rfl) hy
   ·rw [if_neg e2];exact hy
  ·rw [if_neg e];exact hy
theorem zD.put (h:zD bs n X Y) (hO:jn bs n) {i:Nat} (hi:i < bs.length):zD bs n X (Y.set i (jz (Aa bs (i:Int)) (Yd X i))):=by
 have hil:i < Y.length:=by rw [h.yl];exact hi
 have hb:ou n (Aa bs (i:Int)):=by rw [Jg hi];exact hO.2.2 _ (List.getElem_mem hi)
 refine ⟨h.xl,by rw [List.length_set];exact h.yl,h.xr,fun k hk=>?_,h.xs,fun k u hk hu=>?_⟩
 ·rw [fq hil]
  by_cases e:i=k
  ·rw [if_pos e,zm];exact h.xr i hi
  ·rw [if_neg e];exact h.yr k hk
 ·rw [fq hil] at hu
  by_cases e:i=k
  ·subst e;rw [if_pos rfl,bu (by rw [h.xr i hi];exact hb)] at hu;exact hu
  ·rw [if_neg e] at hu;exact h.ys k u hk hu
def StE (bs:List Ce) (X Y:List (List Bool)) (i:Nat):Prop:=(∀ t ∈ zq bs i,∀ u,seen (Yd Y t.toNat) u=true→seen (Yd X i) u=true)∧Yd Y i=jz (Aa bs (i:Int)) (Yd X i)
theorem zD.done (h:zD bs n X Y) (hO:jn bs n) (hst:∀ i,i < bs.length→StE bs X Y i):X=ze bs n:=by
 have hE:=hO.1
 have key:∀ u i,LB bs u i→i < bs.length→seen (Yd X i) u=true:=by
  intro u i hl
  have turn:∀ (i:Nat) (t:Int),i < bs.length→t ∈ zq bs i→BS u (Aa bs t) (seen (Yd X t.toNat) u)=true→seen (Yd X i) u=true:=by
   intro i t hi ht h1;obtain ⟨t0,t1⟩:=hE.2.2 i hi t ht;have htn:t.toNat < bs.length:=by omega
   refine (hst i hi).1 t ht u ?_;rw [(hst t.toNat htn).2,bu (by rw [h.xr _ htn,Jg htn];exact hO.2.2 _ (List.getElem_mem htn)),Int.toNat_of_nonneg t0];exact h1
  induction hl with
  | @gen i t ht h1 =>
   intro hi;exact turn i t hi ht (cu (fun hf=>by cases hf) h1)
  | @step i t ht h1 _ ih =>
   intro hi;obtain ⟨t0,t1⟩:=hE.2.2 i hi t ht;exact turn i t hi ht (cu (fun _=>ih (by omega)) h1)
 apply List.ext_getElem
 ·rw [h.xl,Zg]
 ·intro i h1 h2;have hi:i < bs.length:=by rw [← h.xl];exact h1
  have e1:X[i]=Yd X i:=by simp [Yd,List.getD_eq_getElem?_getD,h1]
  have e2:(ze bs n)[i]=fk bs n i:=by simp [ze]
  rw [e1,e2];refine oH (by rw [h.xr i hi,Kg]) (fun u=>?_)
  constructor
  ·intro hu;have hun:u < n:=by have:=zu hu;rw [h.xr i hi] at this;exact this
   exact (Dn hun).2 (h.xs i u hi hu)
  ·intro hu;have hun:u < n:=by have:=zu hu;rw [Kg] at this;exact this
   exact key u i ((Dn hun).1 hu) hi
def cnt (s:List Bool):Nat:=s.count true
def Lo (Y:List (List Bool)):Nat:=(Y.map cnt).sum
theorem WC:∀ (Y:List (List Bool)) (i:Nat) (x:List Bool),i < Y.length→Lo (Y.set i x) + cnt (Yd Y i)=Lo Y + cnt x
 | [],i,x,h=>by simp at h
 | y :: Y,0,x,_=>by
  simp only [Lo,List.set_cons_zero,List.map_cons,List.sum_cons,Yd,List.getD_cons_zero];omega
 | y :: Y,i + 1,x,h=>by
  have ih:=WC Y i x (by simpa using h);simp only [Lo,List.set_cons_succ,List.map_cons,List.sum_cons,Yd,List.getD_cons_succ] at ih ⊢;omega
theorem cK:∀ (a b:List Bool),a.length=b.length→(∀ u,seen a u=true→seen b u=true)→cnt a ≤ cnt b∧(a ≠ b→cnt a < cnt b)
 | [],[],_,_=>⟨Nat.le_refl _,fun h=>absurd rfl h⟩
 | [],_ :: _,h,_=>by cases h
 | _ :: _,[],h,_=>by cases h
 | x :: a,y :: b,hl,h=>by
  obtain ⟨h1,h2⟩:=cK a b (by simpa using hl) (fun u hu=>h (u + 1) hu);have h0:x=true→y=true:=h 0;unfold cnt at h1 h2 ⊢;rw [List.count_cons,List.count_cons];cases x with
  | false =>
   cases y with
   | false=>exact ⟨by simpa using h1,fun hne=>by have:=h2 (fun e=>hne (by rw [e]));simpa using this⟩
   | true=>exact ⟨by simp;omega,fun _=>by simp;omega⟩
  | true =>
   have hy:=h0 rfl;subst hy;exact ⟨by simpa using h1,fun hne=>by have:=h2 (fun e=>hne (by rw [e]));simpa using this⟩
theorem EV (a:List Bool):cnt a ≤ a.length:=List.count_le_length
theorem JG {m:Nat}:∀ (Y:List (List Bool)),(∀ i,i < Y.length→(Yd Y i).length ≤ m)→Lo Y ≤ m * Y.length
 | [],_=>by simp [Lo]
 | y :: Y,h=>by
  have h1:=JG Y (fun i hi=>h (i + 1) (by simpa using hi));have h2:=h 0 (by simp);have h3:=EV y;have h4:(Yd (y :: Y) 0)=y:=rfl;rw [h4] at h2;simp only [Lo,List.map_cons,List.sum_cons,List.length_cons,Nat.mul_succ] at h1 ⊢;omega
theorem zD.grow (h:zD bs n X Y) (hO:jn bs n) {i:Nat} (hi:i < bs.length) (hne:jz (Aa bs (i:Int)) (Yd X i) ≠ Yd Y i):Lo Y < Lo (Y.set i (jz (Aa bs (i:Int)) (Yd X i))):=by
 have hb:ou n (Aa bs (i:Int)):=by rw [Jg hi];exact hO.2.2 _ (List.getElem_mem hi)
 have h1:=WC Y i (jz (Aa bs (i:Int)) (Yd X i)) (by rw [h.yl];exact hi)
 have h2:=(cK (Yd Y i) (jz (Aa bs (i:Int)) (Yd X i)) (by rw [zm,h.xr i hi,h.yr i hi]) (fun u hu=>by
  rw [bu (by rw [h.xr i hi];exact hb)]
  exact h.ys i u hi hu)).2 (fun e=>hne e.symm)
 omega
theorem zD.start (bs:List Ce) (n:Nat):zD bs n (List.replicate bs.length (List.replicate n false)) (List.replicate bs.length (List.replicate n false)):=by
 have hr:∀ i,i < bs.length→Yd (List.replicate bs.length (List.replicate n false)) i=List.replicate n false:=fun i hi=>by
  unfold Yd;rw [List.getD_eq_getElem?_getD,List.getElem?_replicate,if_pos hi];rfl
 refine ⟨by simp,by simp,fun i hi=>by rw [hr i hi];simp,fun i hi=>by rw [hr i hi];simp,fun i u hi hu=>?_,fun i u hi hu=>?_⟩
 ·rw [hr i hi,ZD] at hu;cases hu
 ·rw [hr i hi,ZD] at hu;cases hu
end
end Go.Proofs.Ytkigbdceceeenaa.P
end
section
namespace Go.Proofs.Ytkigbdceceeenaa.P
open Go.RowKit Go.Proofs.Oa.Wb Go.Proofs.Oa.Vd Go.Proofs.Oa.Xe
set_option linter.unusedVariables false
set_option linter.unusedSimpArgs false
def fP (w:World) (N:Nat):World:={ w with heap:=w.heap.extract 0 N }
theorem Fq {w:World} {N:Nat} (h:N ≤ w.heap.size):(fP w N).heap.size=N:=by
 unfold fP;simp;omega
theorem bK {w:World} {N:Nat} (h:N ≤ w.heap.size):Below (fP w N).heap.size (fP w N) w:=by
 refine ⟨rfl,rfl,rfl,by rw [Fq h];exact h,fun k hk=>?_⟩;rw [Fq h] at hk
 show w.heap[k]? = (w.heap.extract 0 N)[k]?
 rw [Array.getElem?_extract];simp;omega
section
variable {St:Type} (f:St→Rf→List Bool→St)
def bA:List Rf→List Bool→St→St
 | [],_,st=>st
 | x :: r,s,st=>bA r (Xp s x) (f st x s)
theorem UC {code:List Rf} {q:Nat} (h:q < code.length) (s:List Bool) (st:St):bA f (code.take (q + 1)).reverse s st=bA f (code.take q).reverse (Xp s (Ta code (q:Int))) (f st (Ta code (q:Int)) s):=by
 rw [List.take_succ_eq_append_getElem h,List.reverse_append,iq h]
 rfl
def eI (bs:List Ce) (X:List (List Bool)) (st:St) (i:Nat):St:=bA f (Aa bs (i:Int)).f0.reverse (qg (Aa bs (i:Int)) (Yd X i)) st
def Ai (bs:List Ce) (X:List (List Bool)) (i:Nat) (st:St):St:=((List.range bs.length).drop i).foldl (eI f bs X) st
theorem Gv {bs:List Ce} {X:List (List Bool)} {i:Nat} (h:i < bs.length) (st:St):Ai f bs X i st=Ai f bs X (i + 1) (eI f bs X st i):=by
 unfold Ai;rw [List.drop_eq_getElem_cons (by rw [List.length_range];exact h),List.foldl_cons,List.getElem_range]
theorem Iy (bs:List Ce) (X:List (List Bool)) (st:St):Ai f bs X bs.length st=st:=by
 unfold Ai;rw [List.drop_eq_nil_of_le (by rw [List.length_range];exact Nat.le_refl _)]
 rfl
end
def N2 (S:Nat→Prop) (w:World) (k:Nat):Prop:=S k ∨ w.heap.size ≤ k
structure GP (S:Nat→Prop) (w:World) (o:Obj) (wr:World):Prop where
 k:Kept w wr (N2 S w)
 b:Below 0 w wr
 hx:wr.heap[w.heap.size]? = some o
section
variable {S:Nat→Prop} {w wr W:World} {o:Obj}
theorem vt {B:Nat} (h:Below B wr W):Below 0 wr W:=⟨h.os,h.tape,h.output,h.size,fun k hk=>by omega⟩
theorem GP.below (h:GP S w o wr) (hb:Below wr.heap.size wr W):GP S w o W:=⟨h.k.below hb,h.b.trans (vt hb),Ua h.hx hb⟩
theorem GP.kept (h:GP S w o wr) (hS:∀ k,S k→k < w.heap.size) (hk:Kept wr W S) (hb:Below 0 wr W):GP S w o W :=
 ⟨h.k.mC hk (fun _ h2=>Or.inl (Or.inl h2)),h.b.trans hb,Kh h.hx hk (fun e=>by have:=hS _ e;omega)⟩
theorem GP.le (h:GP S w o wr):w.heap.size < wr.heap.size:=Jc h.hx
end
end Go.Proofs.Ytkigbdceceeenaa.P
end
section
namespace Go.Proofs.Ytkigbdceceeenaa.P
open Go.RowKit Go.Proofs.Oa.Wb Go.Proofs.Oa.Vd Go.Proofs.Oa.Xe
set_option linter.unusedVariables false
set_option linter.unusedSimpArgs false
theorem xo {x:Rf} (h:x.f0=1 ∨ x.f0=6):xh x=[x.f2]:=if_pos h
theorem az {x:Rf} (h:x.f0=2):xh x=[x.f2,x.f3]:=by
 unfold xh;rw [if_neg (by omega),if_pos h]
theorem yu {x:Rf} (h:x.f0=3 ∨ x.f0=4):xh x=[x.f3] ++ (if 0 ≤ x.f2 then [x.f2] else []) ++ (if x.f0=4 then [x.f4] else []):=by
 unfold xh;rw [if_neg (by omega),if_neg (by omega),if_pos h]
theorem ew {x:Rf} (h1:¬ (x.f0=1 ∨ x.f0=6)) (h2:¬ x.f0=2) (h3:¬ (x.f0=3 ∨ x.f0=4)):xh x=[]:=by
 unfold xh;rw [if_neg h1,if_neg h2,if_neg h3]
theorem lC {x:Rf} (ha:0 ≤ x.f2) (h4:x.f0=4):xh x=[x.f3] ++ [x.f2] ++ [x.f4]:=by rw [yu (Or.inr h4),if_pos ha,if_pos h4]
theorem kC {x:Rf} (ha:0 ≤ x.f2) (h3:x.f0=3 ∨ x.f0=4) (h4:¬ x.f0=4):xh x=[x.f3] ++ [x.f2]:=by rw [yu h3,if_pos ha,if_neg h4];rfl
theorem jC {x:Rf} (ha:¬ 0 ≤ x.f2) (h4:x.f0=4):xh x=[x.f3] ++ [x.f4]:=by rw [yu (Or.inr h4),if_neg ha,if_pos h4];rfl
theorem iC {x:Rf} (ha:¬ 0 ≤ x.f2) (h3:x.f0=3 ∨ x.f0=4) (h4:¬ x.f0=4):xh x=[x.f3]:=by rw [yu h3,if_neg ha,if_neg h4];rfl
theorem ZO (x:Rf):Ev (fun k=>Xc.f k x.f0 x.f1 x.f2 x.f3 x.f4 x.f5 x.f6) (xh x):=by
 unfold Xc.f;refine Ev.val ?_
 by_cases h1:x.f0=1
 ·rw [xo (Or.inl h1)];refine Ev.pos h1 (Ev.step (fun k=>by rw [Xc.j0]) ?_);exact Ev.pos (by rw [h1];rfl) (Ev.pos (by simp) (Ev.now _))
 refine Ev.neg h1 (Ev.step (fun k=>by rw [Xc.j0]) ?_)
 by_cases h6:x.f0=6
 ·rw [xo (Or.inr h6)];exact Ev.pos (by rw [h6];rfl) (Ev.pos (by simp) (Ev.now _))
 refine Ev.neg (by simp [h6]) ?_
 by_cases h2:x.f0=2
 ·rw [az h2];exact Ev.pos h2 (Ev.val (Ev.pos (by simp) (Ev.now _)))
 refine Ev.neg h2 ?_
 have key:∀ b:Bool,(b=true ↔ x.f0=3 ∨ x.f0=4)→Ev (fun k=>Xc.j1 k [] b x.f0 x.f1 x.f2 x.f3 x.f4 x.f5 x.f6) (xh x):=by
  intro b hb;refine Ev.step (fun k=>by rw [Xc.j1]) ?_
  by_cases yV:b=true
  ·have Z8:=hb.1 yV;refine Ev.pos yV (Ev.pos (by simp) (Ev.val ?_))
   by_cases ha:0 ≤ x.f2
   ·refine Ev.pos ha (Ev.pos (by simp) (Ev.val ?_))
    by_cases h4:x.f0=4
    ·rw [lC ha h4];exact Ev.pos h4 (Ev.pos (by simp) (Ev.now _))
    ·rw [kC ha Z8 h4];exact Ev.neg h4 (Ev.now _)
   ·refine Ev.neg ha ?_
    by_cases h4:x.f0=4
    ·rw [jC ha h4];exact Ev.pos h4 (Ev.pos (by simp) (Ev.now _))
    ·rw [iC ha Z8 h4];exact Ev.neg h4 (Ev.now _)
  ·rw [ew (fun h=>h.elim h1 h6) h2 (fun h=>yV (hb.2 h))];exact Ev.neg yV (Ev.now _)
 by_cases h3:x.f0=3
 ·exact Ev.pos h3 (key _ (by simp [h3]))
 ·exact Ev.neg h3 (key _ (by simp [h3]))
theorem CV (x:Rf):Ev (fun k=>Zd.f k x.f0 x.f1 x.f2 x.f3 x.f4 x.f5 x.f6) (xh x):=by
 unfold Zd.f
 by_cases h1:x.f0=1
 ·rw [xo (Or.inl h1)];refine Ev.pos h1 (Ev.step (fun k=>by rw [Zd.j0]) ?_);exact Ev.pos (by rw [h1];rfl) (Ev.now _)
 refine Ev.neg h1 (Ev.step (fun k=>by rw [Zd.j0]) ?_)
 by_cases h6:x.f0=6
 ·rw [xo (Or.inr h6)];exact Ev.pos (by rw [h6];rfl) (Ev.now _)
 refine Ev.neg (by simp [h6]) ?_
 by_cases h2:x.f0=2
 ·rw [az h2];exact Ev.pos h2 (Ev.now _)
 refine Ev.neg h2 ?_
 have key:∀ b:Bool,(b=true ↔ x.f0=3 ∨ x.f0=4)→Ev (fun k=>Zd.j1 k b x.f0 x.f1 x.f2 x.f3 x.f4 x.f5 x.f6) (xh x):=by
  intro b hb;refine Ev.step (fun k=>by rw [Zd.j1]) ?_
  by_cases yV:b=true
  ·have Z8:=hb.1 yV;refine Ev.pos yV (Ev.val ?_)
   by_cases ha:0 ≤ x.f2
   ·refine Ev.pos ha (Ev.pos (by simp) (Ev.val ?_))
    by_cases h4:x.f0=4
    ·rw [lC ha h4];exact Ev.pos h4 (Ev.pos (by simp) (Ev.now _))
    ·rw [kC ha Z8 h4];exact Ev.neg h4 (Ev.now _)
   ·refine Ev.neg ha ?_
    by_cases h4:x.f0=4
    ·rw [jC ha h4];exact Ev.pos h4 (Ev.pos (by simp) (Ev.now _))
    ·rw [iC ha Z8 h4];exact Ev.neg h4 (Ev.now _)
  ·rw [ew (fun h=>h.elim h1 h6) h2 (fun h=>yV (hb.2 h))];exact Ev.neg yV (Ev.now _)
 by_cases h3:x.f0=3
 ·exact Ev.pos h3 (key _ (by simp [h3]))
 ·exact Ev.neg h3 (key _ (by simp [h3]))
theorem PJ (us:List Int) (hl:us.length ≤ 1048576):∀ (d i:Nat) (s:List Bool),i + d=us.length→(∀ u ∈ us,0 ≤ u∧u < (s.length:Int))→Ev (fun k=>Dd.l0 k s us (us.length:Int) (i:Int)) ((us.drop i).foldl qC s):=by
 intro d
 induction d with
 | zero =>
  intro i s hi _;obtain rfl:i=us.length:=by omega
  rw [List.drop_length];refine Ev.step (fun k=>by rw [Dd.l0]) ?_;exact Ev.neg (by omega) (Ev.now _)
 | succ d ih =>
  intro i s hi hu;have hi':i < us.length:=by omega
  obtain ⟨u0,u1⟩:=hu _ (List.getElem_mem hi');rw [List.drop_eq_getElem_cons hi',List.foldl_cons];refine Ev.step (fun k=>by rw [Dd.l0]) ?_;refine Ev.pos (by omega) (Ev.pos (by omega) (Ev.pos (by omega) ?_));rw [Uq hi',Ee hi' (by omega)];exact Ev.pos u0 (Ev.pos u1 (ih (i + 1) _ (by omega) (fun u h=>by rw [List.length_set];exact hu u h)))
theorem FG (s:List Bool) (x:Rf) (hx:Xz s.length x):Ev (fun k=>Dd.f k s x.f0 x.f1 x.f2 x.f3 x.f4 x.f5 x.f6) (Xp s x):=by
 obtain ⟨h1,h2⟩:=hx
 have hm:Kk.f x.f0 x.f1 x.f2 x.f3 x.f4 x.f5 x.f6=some (yC x):=by
  unfold Kk.f yC
  by_cases h4:x.f0=4
  ·rw [if_pos h4,if_pos h4]
  ·rw [if_neg h4,if_neg h4]
   by_cases h6:x.f0=6
   ·rw [if_pos h6,if_pos h6]
   ·rw [if_neg h6,if_neg h6]
 have hul:=YD x;unfold Dd.f Xp;rw [hm];refine Ev.val ?_
 have tail:∀ s2:List Bool,s2.length=s.length→Ev (fun k=>Dd.j0 k s2 x.f0 x.f1 x.f2 x.f3 x.f4 x.f5 x.f6) ((xh x).foldl qC s2):=by
  intro s2 hs2;refine Ev.step (fun k=>by rw [Dd.j0]) ?_;refine Ev.bind (ZO x) ?_;have:=PJ (xh x) (by omega) (xh x).length 0 s2 (by omega) (fun u hu=>by rw [hs2];exact h1 u hu)
  rwa [List.drop_zero] at this
 by_cases h:yC x ≥ 0
 ·rw [if_pos h]
  have hlt:yC x < (s.length:Int):=by
   have h':=h;unfold yC at h' ⊢
   by_cases h4:x.f0=4
   ·rw [if_pos h4] at h';omega
   ·rw [if_neg h4] at h' ⊢
    by_cases h6:x.f0=6
    ·rw [if_pos h6] at h';omega
    ·rw [if_neg h6];exact (h2 h4 h6).2
  exact Ev.pos h (Ev.pos h (Ev.pos hlt (tail _ (by rw [List.length_set]))))
 ·rw [if_neg h];exact Ev.neg h (tail _ rfl)
theorem bI (us:List Int) (hl:us.length ≤ 1048576):∀ (d i:Nat) (s:List Bool),i + d=us.length→(∀ u ∈ us,0 ≤ u∧u < (s.length:Int))→Ev (fun k=>tc.l0 k s us (i:Int)) ((us.drop i).foldl qC s):=by
 intro d
 induction d with
 | zero =>
  intro i s hi _;obtain rfl:i=us.length:=by omega
  rw [List.drop_length];refine Ev.step (fun k=>by rw [tc.l0]) ?_;exact Ev.neg (by omega) (Ev.now _)
 | succ d ih =>
  intro i s hi hu;have hi':i < us.length:=by omega
  obtain ⟨u0,u1⟩:=hu _ (List.getElem_mem hi');rw [List.drop_eq_getElem_cons hi',List.foldl_cons];refine Ev.step (fun k=>by rw [tc.l0]) ?_;refine Ev.pos (by omega) (Ev.pos (by omega) ?_);rw [Uq hi',Ee hi' (by omega)];exact Ev.pos u0 (Ev.pos u1 (ih (i + 1) _ (by omega) (fun u h=>by rw [List.length_set];exact hu u h)))
theorem cI (s:List Bool) (x:Rf) (hx:Xz s.length x):Ev (fun k=>tc.f k x.f0 x.f1 x.f2 x.f3 x.f4 x.f5 x.f6 s) (Xp s x):=by
 obtain ⟨h1,h2⟩:=hx;have hul:=YD x;unfold tc.f Xp Nk.f
 have tail:∀ s2:List Bool,s2.length=s.length→Ev (fun k=>tc.j0 k s2 x.f0 x.f1 x.f2 x.f3 x.f4 x.f5 x.f6) ((xh x).foldl qC s2):=by
  intro s2 hs2;refine Ev.step (fun k=>by rw [tc.j0]) ?_;refine Ev.bind (CV x) ?_;have:=bI (xh x) (by omega) (xh x).length 0 s2 (by omega) (fun u hu=>by rw [hs2];exact h1 u hu)
  rwa [List.drop_zero] at this
 by_cases h4:x.f0=4
 ·rw [if_pos h4];have hm:yC x = -1:=if_pos h4;rw [if_neg (by omega)];exact Ev.val (Ev.neg (by decide) (tail _ rfl))
 ·rw [if_neg h4];refine Ev.val ?_
  by_cases h6:x.f0=6
  ·have hm:yC x = -1:=by unfold yC;rw [if_neg h4,if_pos h6]
   rw [if_neg (by omega)];exact Ev.neg (by simp [h6]) (tail _ rfl)
  ·have hm:yC x=x.f1:=by unfold yC;rw [if_neg h4,if_neg h6]
   obtain ⟨d0,d1⟩:=h2 h4 h6;rw [hm,if_pos d0];exact Ev.pos (by simp [h6]) (Ev.pos d0 (Ev.pos d1 (tail _ (by rw [List.length_set]))))
attribute [local go_sem] bh Gh Ki Cj Mg Lg Hh Fh
theorem bO {α:Type} (d:Kd α) (e:Nat) (w:World) (base:Nat) (h:base ≤ w.heap.size):d.R e (w.alloc (.cells #[] e (0,0))) base (fun _=>True) (.slice (some ⟨w.heap.size,0,none⟩) 0 0) []:=by
 refine ⟨fun _ _=>trivial,[],?_,⟨by simp,fun i p hp=>by simp at hp⟩⟩;have h2:=World.ownsRow_lit (base:=base) (e:=e) (size:=d.sz) w #[] 0 h (by simp [maxLen]) (by simp)
 simpa using h2
theorem OZ {α:Type} {d:Kd α} {et e base g n cap i:Nat} {W:World} {ok xI:Nat→Prop} {D:List (List α)} {v:Value} {xs:List α} (h:Kd.S (Kd.slice et d) e W base (fun k=>ok k∧¬ xI k) (.slice (some ⟨g,0,none⟩) n cap) D) (hg:∀ k,xI k→ok k) (hi:i < n) (hx:Kd.R d et W base xI v xs) :
  Kd.S (Kd.slice et d) e (W.setCell ⟨g,i,none⟩ v) base ok (.slice (some ⟨g,0,none⟩) n cap) (D.set i xs)∧W.grownBy (W.setCell ⟨g,i,none⟩ v) (some g):=by
 obtain ⟨yo,c,Yz,hM,lE,U8,MD,hH⟩:=Kd.gD h ([]:List α) (i:Int) (by omega) (by omega);have hH2:=Kd.cS hH hg;have T8:c.length=1:=Yz
 obtain ⟨u,rfl⟩:∃ u,c=[u]:=by
  rcases c with _|⟨u,_|⟨u2,c⟩⟩
  ·simp at T8
  ·exact ⟨u,rfl⟩
  ·simp at T8
 have hs:=Kd.NZ (d:=Kd.slice et d) hH2 (by omega) (by omega) (seg:=[v]) (j:=0) (show 0 + 1 ≤ 1 from by decide) (x':=xs) (ri:=xI) (show (Kd.slice et d).M W base xI xs [v] from ⟨v,rfl,hx⟩) (fun k hk=>Or.inr hk);rw [Int.toNat_natCast,show i * (Kd.slice et d).sz + 0=i from by show i * 1 + 0=i;omega] at hs;exact hs
theorem RZ {α:Type} {enc:α→Value} {h1:∀ x,(enc x).oneCell' = true} {et e base g n cap i s:Nat} {W:World} {ok:Nat→Prop} {D:List (List α)} (z:α) (h:Kd.S (Kd.slice et (Kd.scalar enc h1)) e W base ok (.slice (some ⟨g,0,none⟩) n cap) D) (hi:i < n) (hs:s < (D.getD i []).length) :
  ∃ (gi c:Nat),W.cell? ⟨g,i,none⟩=some (.slice (some ⟨gi,0,none⟩) (D.getD i []).length c)∧ok gi∧W.cell? ⟨gi,s,none⟩=some (enc ((D.getD i []).getD s z))∧W.frozen? ⟨gi,s,none⟩=false ∧
   ∀ x,Kd.S (Kd.slice et (Kd.scalar enc h1)) e (W.setCell ⟨gi,s,none⟩ (enc x)) base ok (.slice (some ⟨g,0,none⟩) n cap) (D.set i ((D.getD i []).set s x))∧W.grownBy (W.setCell ⟨gi,s,none⟩ (enc x)) (some gi):=by
 obtain ⟨yo,c,Yz,hM,lE,U8,MD,hH⟩:=Kd.gD h ([]:List α) (i:Int) (by omega) (by omega);rw [Int.toNat_natCast] at hM lE U8;obtain ⟨v,rfl,hR⟩:=hM;obtain ⟨gi,cc,rfl,-⟩:=Kd.gn hR (by omega);have hb:=hR.1 gi rfl;have hc0:=lE 0 _ rfl;rw [show i * (Kd.slice et (Kd.scalar enc h1)).sz + 0=i from by show i * 1 + 0=i;omega] at hc0;obtain ⟨e1,e2⟩:=Kd.Gk z hR (s:Int) (by omega) (by omega);rw [Int.toNat_natCast] at e1 e2;refine ⟨gi,cc,hc0,(MD gi hb).1,e1,e2,fun x=>?_⟩;obtain ⟨p1,p2⟩:=Kd.yq hR (s:Int) x;rw [Int.toNat_natCast] at p1 p2;refine ⟨?_,p2⟩;have hH2:=Kd.iO hH p2 (fun k hk=>by injection hk with hk;rw [← hk];exact hb);have:=Kd.AK hH2 (x':=(D.getD i []).set s x) (show (Kd.slice et (Kd.scalar enc h1)).M _ base yo ((D.getD i []).set s x) [.slice (some ⟨gi,0,none⟩) (D.getD i []).length cc] from ⟨_,rfl,p1⟩) (fun k hk=>hk)
 rwa [Int.toNat_natCast] at this
theorem mI {α:Type} (d:Kd α) (e:Nat) (w:World) (base:Nat) (h:base ≤ w.heap.size):Kd.S d e (w.alloc (.cells #[] e (0,0))) base (fun k=>k=w.heap.size) (.slice (some ⟨w.heap.size,0,none⟩) 0 0) []:=by
 have h1:=bO (Kd.tag (fun _=>0) d) e w w.heap.size (Nat.le_refl _);refine ⟨fun _=>0,Kd.Rd (Kd.fe (Kd.Bh h1) (fun k hk=>?_)) h⟩;obtain ⟨_,h2,h3,_⟩:=hk;simp at h3;omega
theorem MR {α:Type} {d:Kd α} {et e base g n cap i:Nat} {W:World} {P:Nat→Prop} {D:List (List α)} (h:Kd.S (Kd.slice et d) e W base P (.slice (some ⟨g,0,none⟩) n cap) D) (hi:i < n) :
  ∃ (A:Option Addr) (c:Nat),W.cell? ⟨g,i,none⟩=some (.slice A (D.getD i []).length c)∧W.frozen? ⟨g,i,none⟩=false∧Kd.R d et W base (fun k=>P k∧k ≠ g∧base ≤ k∧k < W.heap.size) (.slice A (D.getD i []).length c) (D.getD i []):=by
 obtain ⟨yo,c,Yz,hM,lE,U8,MD,hH⟩:=Kd.gD h ([]:List α) (i:Int) (by omega) (by omega);rw [Int.toNat_natCast] at hM lE U8;obtain ⟨v,hc,hR⟩:=hM;obtain ⟨A,cc,rfl⟩:=Kd.De hR;have h1:=lE 0 _ (by rw [hc];rfl);have h2:=U8 0;rw [show i * (Kd.slice et d).sz + 0=i from by show i * 1 + 0=i;omega] at h1 h2;exact ⟨A,cc,h1,h2,Kd.fe (Kd.Bh hR) (fun k hk=>⟨(MD k hk.1).1,(MD k hk.1).2,hk.2.1,hk.2.2.1⟩)⟩
structure Nq (w:World) (o:Obj) (PB:Nat→Prop) (vX vY:Value) (X Y:List (List Bool)) (wr:World):Prop where
 bl:Below w.heap.size w wr
 hx:wr.heap[w.heap.size]? = some o
 x:Kd.S (Kd.slice 4 Kd.bool) 60 wr w.heap.size PB vX X
 y:Kd.S (Kd.slice 4 Kd.bool) 60 wr w.heap.size (fun k=>¬ PB k∧w.heap.size < k) vY Y
 pb:∀ k,PB k→w.heap.size < k∧k < wr.heap.size
section
variable {w wr W w1:World} {o:Obj} {PB:Nat→Prop} {vX vY v1:Value} {X Y:List (List Bool)} {p:List Bool}
theorem Nq.below (h:Nq w o PB vX vY X Y wr) (hb:Below wr.heap.size wr W):Nq w o PB vX vY X Y W :=
 ⟨Qa h.bl hb,Ua h.hx hb,Kd.jh h.x hb,Kd.jh h.y hb,fun k hk=>⟨(h.pb k hk).1,Nat.lt_of_lt_of_le (h.pb k hk).2 hb.size⟩⟩
theorem Nq.cal (h:Nq w o PB vX vY X Y wr) (hb:Below wr.heap.size wr W) (hs:Kd.S (Kd.slice 4 Kd.bool) 60 w1 w.heap.size (fun k=>PB k ∨ wr.heap.size ≤ k) v1 (X ++ [p])) (hw:Below w.heap.size w w1) (hg:W.grownBy w1 vX.ownBlock) :
  Nq w o (fun k=>PB k ∨ (wr.heap.size ≤ k∧k < w1.heap.size)) v1 vY (X ++ [p]) Y w1:=by
 have h2:=h.below hb;have hsz:wr.heap.size ≤ w1.heap.size:=Nat.le_trans hb.size hg.size;have hown:∀ k,vX.ownBlock=some k→PB k:=(Kd.xK h.x).1;refine ⟨hw,?_,Kd.sg (Kd.Oy hs) (fun k hk=>hk.1.imp id (fun h3=>⟨h3,hk.2.2.1⟩)),?_,fun k hk=>?_⟩
 ·exact Ed h2.hx hg (fun e=>by have:=(h.pb _ (hown _ e.symm)).1;omega)
 ·refine Kd.sg (Kd.UB (Kd.NR h.y hb) hg (fun k hk e=>hk.1.1 (hown k e.symm))) (fun k hk=>⟨fun h3=>h3.elim hk.1.1 (fun h4=>by have:=hk.2;omega),hk.1.2⟩)
 ·rcases hk with hk|hk
  ·have:=h.pb k hk;exact ⟨this.1,by omega⟩
  ·have:=Jc h.hx;exact ⟨by omega,hk.2⟩
theorem Nq.bal (h:Nq w o PB vX vY X Y wr) (hb:Below wr.heap.size wr W) (hs:Kd.S (Kd.slice 4 Kd.bool) 60 w1 w.heap.size (fun k=>¬ PB k∧w.heap.size < k) v1 (Y ++ [p])) (hw:Below w.heap.size w w1) (hg:W.grownBy w1 vY.ownBlock) :
  Nq w o PB vX v1 X (Y ++ [p]) w1:=by
 have h2:=h.below hb;have hown:∀ k,vY.ownBlock=some k→¬ PB k∧w.heap.size < k:=(Kd.xK h.y).1;exact ⟨hw,Ed h2.hx hg (fun e=>by have:=(hown _ e.symm).2;omega),Kd.UB h2.x hg (fun k hk e=>(hown k e.symm).1 hk),hs,fun k hk=>⟨(h2.pb k hk).1,Nat.lt_of_lt_of_le (h2.pb k hk).2 hg.size⟩⟩
end
theorem Nq.okX {w wr W:World} {o:Obj} {PB:Nat→Prop} {vX vY:Value} {X Y:List (List Bool)} (h:Nq w o PB vX vY X Y wr) (hb:Below wr.heap.size wr W):Kd.S (Kd.slice 4 Kd.bool) 60 W w.heap.size (fun k=>(PB k ∨ wr.heap.size ≤ k)∧¬ wr.heap.size ≤ k) vX X :=
 Kd.sg (Kd.NR h.x hb) (fun k hk=>⟨Or.inl hk.1,by have:=hk.2;omega⟩)
theorem Nq.neX {w wr:World} {o:Obj} {PB:Nat→Prop} {vX vY:Value} {X Y:List (List Bool)} (h:Nq w o PB vX vY X Y wr):∀ k,wr.heap.size ≤ k→(PB k ∨ wr.heap.size ≤ k)∧some k ≠ vX.ownBlock :=
 fun k hk=>⟨Or.inr hk,fun e=>by have:=(h.pb k ((Kd.xK h.x).1 k e.symm)).2;omega⟩
theorem Nq.frX {w wr W:World} {o:Obj} {PB:Nat→Prop} {vX vY:Value} {X Y:List (List Bool)} (_:Nq w o PB vX vY X Y wr) (hb:Below wr.heap.size wr W):∀ k,W.heap.size ≤ k→PB k ∨ wr.heap.size ≤ k:=fun _ hk=>Or.inr (Nat.le_trans hb.size hk)
theorem Nq.okY {w wr W:World} {o:Obj} {PB:Nat→Prop} {vX vY:Value} {X Y:List (List Bool)} (h:Nq w o PB vX vY X Y wr) (hb:Below wr.heap.size wr W):Kd.S (Kd.slice 4 Kd.bool) 60 W w.heap.size (fun k=>(¬ PB k∧w.heap.size < k)∧¬ wr.heap.size ≤ k) vY Y :=
 Kd.sg (Kd.NR h.y hb) (fun k hk=>⟨hk.1,by have:=hk.2;omega⟩)
theorem Nq.neY {w wr:World} {o:Obj} {PB:Nat→Prop} {vX vY:Value} {X Y:List (List Bool)} (h:Nq w o PB vX vY X Y wr):∀ k,wr.heap.size ≤ k→(¬ PB k∧w.heap.size < k)∧some k ≠ vY.ownBlock :=
 fun k hk=>⟨⟨fun e=>by have:=(h.pb k e).2;omega,by have:=Jc h.hx;omega⟩,fun e=>by have:=Kd.LV h.y k e.symm;omega⟩
theorem Nq.frY {w wr W:World} {o:Obj} {PB:Nat→Prop} {vX vY:Value} {X Y:List (List Bool)} (h:Nq w o PB vX vY X Y wr) (hb:Below wr.heap.size wr W):∀ k,W.heap.size ≤ k→¬ PB k∧w.heap.size < k:=fun k hk=>(h.neY k (Nat.le_trans hb.size hk)).1
theorem rW {W:World} {base N:Nat} {ok:Nat→Prop} {v:Value} {xs:List Bool} (ho:Kd.R Kd.bool 4 W N ok v xs) (hl:base ≤ N):(Kd.slice 4 Kd.bool).M W base ok xs [v]:=⟨v,rfl,Kd.Rd ho hl⟩
theorem Nq.forms {w wr:World} {o:Obj} {PB:Nat→Prop} {vX vY:Value} {n m:Nat} (h:Nq w o PB vX vY (List.replicate m (List.replicate n false)) (List.replicate m (List.replicate n false)) wr) (hm:0 < m) :
  ∃ gX cX gY cY,vX = .slice (some ⟨gX,0,none⟩) m cX∧vY = .slice (some ⟨gY,0,none⟩) m cY:=by
 obtain ⟨gX,cX,e1,-⟩:=Kd.vK h.x (by rw [List.length_replicate];exact hm);obtain ⟨gY,cY,e2,-⟩:=Kd.vK h.y (by rw [List.length_replicate];exact hm);rw [List.length_replicate] at e1 e2;exact ⟨gX,cX,gY,cY,e1,e2⟩
theorem Nq.Iai {w wr:World} {o:Obj} {PB:Nat→Prop} {vY:Value} {X Y:List (List Bool)} {gX m cX i s:Nat} (h:Nq w o PB (.slice (some ⟨gX,0,none⟩) m cX) vY X Y wr) (hi:i < m) (hs:s < (Yd X i).length) :
  ∃ (gi c:Nat),wr.cell? ⟨gX,i,none⟩=some (.slice (some ⟨gi,0,none⟩) (Yd X i).length c)∧wr.cell? ⟨gi,s,none⟩=some (.bool (seen (Yd X i) s))∧wr.frozen? ⟨gi,s,none⟩=false∧PB gi ∧
   ∀ b,Nq w o PB (.slice (some ⟨gX,0,none⟩) m cX) vY (X.set i ((Yd X i).set s b)) Y (wr.setCell ⟨gi,s,none⟩ (.bool b)):=by
 obtain ⟨gi,c,h1,h2,h3,h4,h5⟩:=RZ false h.x hi hs;refine ⟨gi,c,h1,h3,h4,h2,fun b=>?_⟩;obtain ⟨h6,hg⟩:=h5 b;have hb:=h.pb gi h2
 exact ⟨h.bl.grown hg (by omega) (fun k e=>by injection e with e;omega),Ed h.hx hg (fun e=>by injection e with e;omega),h6,
  Kd.UB h.y hg (fun k hk e=>by injection e with e;exact hk.1 (e ▸ h2)),fun k hk=>⟨(h.pb k hk).1,Nat.lt_of_lt_of_le (h.pb k hk).2 hg.size⟩⟩
theorem Nq.F3 {w wr W:World} {o:Obj} {PB:Nat→Prop} {vX v:Value} {X Y:List (List Bool)} {gY m cY i:Nat} {ok:Nat→Prop} {xs:List Bool} (h:Nq w o PB vX (.slice (some ⟨gY,0,none⟩) m cY) X Y wr) (hb:Below wr.heap.size wr W) (hi:i < m) (hR:Kd.R Kd.bool 4 W wr.heap.size ok v xs) :
  Nq w o PB vX (.slice (some ⟨gY,0,none⟩) m cY) X (Y.set i xs) (W.setCell ⟨gY,i,none⟩ v):=by
 have h2:=h.below hb;have hl:=Jc h.hx;obtain ⟨h6,hg⟩:=OZ (xI:=fun k=>wr.heap.size ≤ k) (h.okY hb) (fun k hk=>(h.neY k hk).1) hi (Kd.Rd (Kd.fe (Kd.Bh hR) (fun k hk=>hk.2.1)) (Nat.le_of_lt hl));have hy:=(Kd.xK h.y).1 gY rfl
 exact ⟨h2.bl.grown hg h2.bl.size (fun k e=>by injection e with e;omega),Ed h2.hx hg (fun e=>by injection e with e;omega),Kd.UB h2.x hg (fun k hk e=>by injection e with e;exact hy.1 (e ▸ hk)),h6,
  fun k hk=>⟨(h2.pb k hk).1,Nat.lt_of_lt_of_le (h2.pb k hk).2 hg.size⟩⟩
theorem Nq.Cai {w wr:World} {o:Obj} {PB:Nat→Prop} {vY:Value} {X Y:List (List Bool)} {gX m cX i:Nat} (h:Nq w o PB (.slice (some ⟨gX,0,none⟩) m cX) vY X Y wr) (hi:i < m) :
  ∃ (A:Option Addr) (c:Nat),wr.cell? ⟨gX,i,none⟩=some (.slice A (Yd X i).length c)∧Kd.C Kd.bool wr A (Yd X i).length (Yd X i)∧(Yd X i).length ≤ c:=by
 obtain ⟨A,c,h1,_,h2⟩:=MR h.x hi;exact ⟨A,c,h1,(Kd.Lc h2).2.2,(Kd.Lc h2).2.1⟩
theorem Nq.TS {w wr:World} {o:Obj} {PB:Nat→Prop} {vX:Value} {X Y:List (List Bool)} {gY m cY i:Nat} (h:Nq w o PB vX (.slice (some ⟨gY,0,none⟩) m cY) X Y wr) (hi:i < m) :
  ∃ (A:Option Addr) (c:Nat),wr.cell? ⟨gY,i,none⟩=some (.slice A (Yd Y i).length c)∧wr.frozen? ⟨gY,i,none⟩=false∧(Yd Y i).length ≤ c∧Kd.C Kd.bool wr A (Yd Y i).length (Yd Y i)∧∀ W,Kept wr W PB→Kd.C Kd.bool W A (Yd Y i).length (Yd Y i):=by
 obtain ⟨A,c,h1,hf,h2⟩:=MR h.y hi;exact ⟨A,c,h1,hf,(Kd.Lc h2).2.1,(Kd.Lc h2).2.2,Kd.rD (S:=PB) h2 (fun k hk=>hk.1.1)⟩
structure Q_ (bs:List Ce) (X Y:List (List Bool)) (C:Nat) (a:Bool) (q:Nat):Prop where
 le:C ≤ Lo Y
 lt:a=true→C < Lo Y
 so:a=false→∀ k,q ≤ k→k < bs.length→StE bs X Y k
structure XZ (bs:List Ce) (n:Nat) (X0 Y:List (List Bool)) (i:Nat) (X:List (List Bool)):Prop where
 inv:zD bs n X Y
 oth:∀ k,k ≠ i→Yd X k=Yd X0 k
def DS (ts:List Int) (j:Nat) (Y X:List (List Bool)) (i:Nat):Prop:=∀ t ∈ ts.take j,∀ u,seen (Yd Y t.toNat) u=true→seen (Yd X i) u=true
def C_ (t s:Nat) (Y X:List (List Bool)) (i:Nat):Prop:=∀ u,u < s→seen (Yd Y t) u=true→seen (Yd X i) u=true
section
variable {bs:List Ce} {n i s tn:Nat} {X0 X Y:List (List Bool)} {ts:List Int} {j:Nat}
theorem XZ.step (h:XZ bs n X0 Y i X) (hE:Wy bs) (hi:i < bs.length) {t:Int} (ht:t ∈ zq bs i) (htn:t=(tn:Int)) (hs:s < n) (hj:DS ts j Y X i) (hk:C_ tn s Y X i) :
  XZ bs n X0 Y i (X.set i ((Yd X i).set s (seen (Yd X i) s || seen (Yd Y tn) s)))∧DS ts j Y (X.set i ((Yd X i).set s (seen (Yd X i) s || seen (Yd Y tn) s))) i∧C_ tn (s + 1) Y (X.set i ((Yd X i).set s (seen (Yd X i) s || seen (Yd Y tn) s))) i:=by
 have hil:i < X.length:=by rw [h.inv.xl];exact hi
 have BQ:s < (Yd X i).length:=by rw [h.inv.xr i hi];exact hs
 have h1:=h.inv.or hE hi ht hs;rw [htn,Int.toNat_natCast] at h1
 have hm:∀ u,seen (Yd X i) u=true→seen (Yd (X.set i ((Yd X i).set s (seen (Yd X i) s || seen (Yd Y tn) s))) i) u=true:=fun u hu=>by
  rw [fq hil,if_pos rfl,Di BQ]
  by_cases e:s=u
  ·subst e;rw [if_pos rfl,hu];rfl
  ·rw [if_neg e];exact hu
 refine ⟨⟨h1,fun k hk=>?_⟩,fun t ht u hu=>hm u (hj t ht u hu),fun u hu hy=>?_⟩
 ·rw [fq hil,if_neg (fun e=>hk e.symm)];exact h.oth k hk
 ·by_cases e:s=u
  ·subst e;rw [fq hil,if_pos rfl,Di BQ,if_pos rfl,hy,Bool.or_true]
  ·exact hm u (hk u (by omega) hy)
theorem DS.next (h:DS ts j Y X i) (hj:j < ts.length) (ht:ts[j]=(tn:Int)) (hk:C_ tn (Yd Y tn).length Y X i):DS ts (j + 1) Y X i:=by
 intro t h1 u hu;rw [List.take_succ_eq_append_getElem hj,List.mem_append,List.mem_singleton] at h1
 rcases h1 with h1|h1
 ·exact h t h1 u hu
 ·rw [h1,ht,Int.toNat_natCast] at hu;exact hk u (zu hu) hu
theorem Q_.next {C:Nat} {a:Bool} (h:Q_ bs X0 Y C a (i + 1)) (hO:jn bs n) (hi:i < bs.length) (hr:XZ bs n X0 Y i X) (hj:DS (zq bs i) (zq bs i).length Y X i) :
  zD bs n X (Y.set i (jz (Aa bs (i:Int)) (Yd X i)))∧Q_ bs X (Y.set i (jz (Aa bs (i:Int)) (Yd X i))) C (a || !decide (jz (Aa bs (i:Int)) (Yd X i)=Yd Y i)) i:=by
 have hil:i < Y.length:=by rw [hr.inv.yl];exact hi
 refine ⟨hr.inv.put hO hi,?_⟩
 by_cases he:jz (Aa bs (i:Int)) (Yd X i)=Yd Y i
 ·have hY:Y.set i (jz (Aa bs (i:Int)) (Yd X i))=Y:=by
   rw [he];apply List.ext_getElem (by simp);intro k h1 h2;rw [List.getElem_set]
   by_cases e:i=k
   ·subst e;simp [Yd,List.getD_eq_getElem?_getD,h2]
   ·rw [if_neg e]
  rw [hY,decide_eq_true he];refine ⟨h.le,fun ha=>h.lt (by simpa using ha),fun ha k hk1 hk2=>?_⟩
  by_cases e:k=i
  ·subst e;exact ⟨fun t ht u hu=>hj t (by rw [List.take_length];exact ht) u hu,he.symm⟩
  ·have:=h.so (by simpa using ha) k (by omega) hk2;unfold StE at this ⊢;rw [hr.oth k e];exact this
 ·have:=hr.inv.grow hO hi he;rw [decide_eq_false he];exact ⟨by have:=h.le;omega,fun _=>by have:=h.le;omega,fun ha=>by simp at ha⟩
end
theorem zD.cnt {bs:List Ce} {n:Nat} {X Y:List (List Bool)} (h:zD bs n X Y):Lo Y ≤ n * bs.length:=by
 have:=JG (m:=n) Y (fun i hi=>by rw [h.yr i (by rw [← h.yl];exact hi)];exact Nat.le_refl _)
 rwa [h.yl] at this
abbrev nQ (Ya:Option Addr) (n0 Za:Nat) (Ka Ga:Int) (n:Nat) (Vb:Option Addr) (n4 Jb:Nat):Obj:=.cells #[.slice Ya n0 Za,.int .i64 Ka,.int .i64 Ga,.int .i64 (n:Int),.slice Vb n4 Jb] 30 (0,0)
theorem sW {w wr:World} {PB:Nat→Prop} {vX vY:Value} {X Y:List (List Bool)} {Ya Vb:Option Addr} {n0 c0 n n4 c4:Nat} {a1 a2:Int} (h:Nq w (nQ Ya n0 c0 a1 a2 n Vb n4 c4) PB vX vY X Y wr):wr.cell? ⟨w.heap.size,3,none⟩=some (.int .i64 (n:Int)):=(ga h.hx 3).trans rfl
theorem mQ {w wr:World} {PB:Nat→Prop} {vX vY:Value} {X Y:List (List Bool)} {Ya Vb:Option Addr} {n0 c0 n n4 c4:Nat} {a1 a2:Int} (h:Nq w (nQ Ya n0 c0 a1 a2 n Vb n4 c4) PB vX vY X Y wr):wr.cell? ⟨w.heap.size,4,none⟩=some (.slice Vb n4 c4):=(ga h.hx 4).trans rfl
theorem lT {bs:List Ce} (hE:Wy bs) {b j:Nat} (hb:b < bs.length) (hj:j < (zq bs b).length) {A:Option Addr} {W:World} (hC:Kd.C (Kd.int .i64) W A (zq bs b).length (zq bs b)) :
  ∃ (ad:Addr) (t:Nat),A=some ad∧(zq bs b)[j]=(t:Int)∧t < bs.length∧W.cell? (ad.add j)=some (.int .i64 (t:Int)):=by
 obtain ⟨t0,t1⟩:=hE.2.2 b hb _ (List.getElem_mem hj);obtain ⟨ad,e1,hx⟩:=Kd.rm hC (j:Int) (by omega) (by omega);rw [Int.toNat_natCast,Uq hj] at hx;exact ⟨ad,((zq bs b)[j]).toNat,e1,(Int.toNat_of_nonneg t0).symm,by omega,by rw [Int.toNat_of_nonneg t0];exact hx⟩
theorem mT {xs:List Bool} {A:Option Addr} {W:World} {s:Nat} (hC:Kd.C Kd.bool W A xs.length xs) (hs:s < xs.length):∃ ad:Addr,A=some ad∧W.cell? (ad.add s)=some (.bool (seen xs s)):=by
 obtain ⟨ad,e1,hx⟩:=Kd.kj hC (s:Int) (by omega) (by omega);rw [Int.toNat_natCast] at hx;exact ⟨ad,e1,hx⟩
def zo (code:List Rf) (q:Nat) (s:List Bool):List Bool:=(code.drop q).foldr (fun x s=>Xp s x) s
theorem ot (code:List Rf) (q:Nat) (s:List Bool):(zo code q s).length=s.length:=Iz _ _
theorem qt (code:List Rf) (s:List Bool):zo code code.length s=s:=by unfold zo;rw [List.drop_length];rfl
theorem Qo {code:List Rf} {q:Nat} (h:q < code.length) (s:List Bool):zo code q s=Xp (zo code (q + 1) s) (Ta code (q:Int)):=by
 unfold zo;rw [List.drop_eq_getElem_cons h,List.foldr_cons,iq h]
theorem fD (b:Ce) (s:List Bool):zo b.f0 0 (qg b s)=jz b s:=rfl
theorem cr {bs:List Ce} {n i:Nat} (hO:jn bs n) (hi:i < bs.length):ou n (Aa bs (i:Int)):=by
 rw [Jg hi];exact hO.2.2 _ (List.getElem_mem hi)
theorem BC {n q:Nat} {b:Ce} (h:ou n b) (hq:q < b.f0.length):Xz n (Ta b.f0 (q:Int)):=by
 rw [iq hq];exact h.2.2 _ (List.getElem_mem hq)
theorem SZ {W:World} {base n c u:Nat} {ok:Nat→Prop} {A:Option Addr} {xs:List Bool} (h:Kd.R Kd.bool 4 W base ok (.slice A n c) xs) (hu:u < xs.length) :
  ∃ g,A=some ⟨g,0,none⟩∧base ≤ g∧W.cell? ⟨g,u,none⟩=some (.bool (seen xs u))∧W.frozen? ⟨g,u,none⟩=false∧∀ b,Kd.R Kd.bool 4 (W.setCell ⟨g,u,none⟩ (.bool b)) base ok (.slice A n c) (xs.set u b)∧W.grownBy (W.setCell ⟨g,u,none⟩ (.bool b)) (some g):=by
 obtain ⟨g,cap,e,hb,-⟩:=Kd.gn h (by omega);injection e with e1 e2 e3
 subst e1;obtain ⟨r1,r2⟩:=Kd.Gk false h (u:Int) (by omega) (by omega);rw [Int.toNat_natCast] at r1 r2;refine ⟨g,rfl,hb,r1,r2,fun b=>?_⟩;have:=Kd.yq h (u:Int) b
 rwa [Int.toNat_natCast] at this
end Go.Proofs.Ytkigbdceceeenaa.P
end
