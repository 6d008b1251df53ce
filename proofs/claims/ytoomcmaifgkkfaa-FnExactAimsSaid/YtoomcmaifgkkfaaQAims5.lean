import Derived.Test.YtoomcmaifgkkfaaQAims1
import Derived.Test.YtoomcmaifgkkfaaQAims3
import Derived.Test.YtoomcmaifgkkfaaQAims2
import Derived.Test.YtoomcmaifgkkfaaQAims4
set_option maxHeartbeats 8000000
set_option maxRecDepth 100000
section
namespace Go.Proofs.Ytoomcmaifgkkfaa.P
open Go.RowKit Go.Proofs.Da.qb Go.Proofs.Da.Jd Go.Proofs.Da.Gf
set_option linter.unusedVariables false
set_option linter.unusedSimpArgs false
attribute [local go_sem] Aj yj Nk Mk si qi zj xj
def xe.f (k:Nat) (Na:List Int) (La:Int) (Ma:Int) (Ea:List (Cn)):Option (Bool):=(Pe.f Na La Ma Ea 1048576).bind fun t102=>(if t102 < 0 then (some true) else ((gb.f k Na La Ma Ea).bind fun Xh=>((Mb.f k Xh.1 Xh.2.1 Xh.2.2.1 Xh.2.2.2).bind fun t111=>((gb.f k Na La Ma Ea).bind fun Fc=>((oc.f k Fc.1 Fc.2.1 Fc.2.2.1 Fc.2.2.2).bind fun t123=>((Xa.f k t123 t111).bind fun t126=>(if t126=true then ((gb.f k Na La Ma Ea).bind fun Dd=>((Vc.f k Fc.1 Fc.2.1 Fc.2.2.1 Fc.2.2.2 Dd.1 Dd.2.1 Dd.2.2.1 Dd.2.2.2).bind fun t135=>(if t135=true then ((qc.f k Fc.1 Fc.2.1 Fc.2.2.1 Fc.2.2.2 1).bind fun Tf=>(if Tf.1 < 0 then (none) else ((Xa.f k t123 t111).bind fun t139=>(if t139=true then ((xb.f k t123 1).bind fun mc=>((Wa.f k mc.2 1).bind fun t142=>(if t142 < 0 then (none) else (if t142=mc.1 then ((gb.f k Na La Ma Ea).bind fun Xb=>((oc.f k Xb.1 Xb.2.1 Xb.2.2.1 Xb.2.2.2).bind fun t151=>((Xa.f k t151 t111).bind fun t154=>(if t154=true then ((Wa.f k mc.2 1).bind fun t155=>(if t155 < 0 then (none) else (if t155=mc.1 then (some true) else (none)))) else (none))))) else (none))))) else (none))))) else (none)))) else (none))))))))
theorem xe.calls (k:Nat) (zb:Option Addr) (yb:Nat) (Na:List Int) (La:Int) (Ma:Int) (Eb:Option Addr) (Ab:Nat) (Ea:List (Cn)) (r:Bool) (w:World) (Ze:Kd.C (Kd.int .i64) w zb Na.length Na) (Fe:Na.length ≤ yb) (Ye:Kd.C Rw w Eb Ea.length Ea) (Ee:Ea.length ≤ Ab) (h:xe.f k Na La Ma Ea=some r) :
  Calls Try.prog 3 #[.agg #[.slice zb Na.length yb,.int .i64 La,.int .i64 Ma,.slice Eb Ea.length Ab]] w fun e w'=>e = .returned (.bool r)∧Below w.heap.size w w':=by
 have WE:=Try.underlying25;have js:=Try.underlying30;have Be:=ga.mk Ze;have Te:=ga.mk Fe;clear Ze Fe;have Yd:=ga.mk Ye;have Ff:=ga.mk Ee;clear Ye Ee;have HB:=ga.mk (Below.refl w.heap.size w);have H:((Pe.f Na La Ma Ea 1048576).bind fun t102=>(if t102 < 0 then (some true) else ((gb.f k Na La Ma Ea).bind fun Xh=>((Mb.f k Xh.1 Xh.2.1 Xh.2.2.1 Xh.2.2.2).bind fun t111=>((gb.f k Na La Ma Ea).bind fun Fc=>((oc.f k Fc.1 Fc.2.1 Fc.2.2.1 Fc.2.2.2).bind fun t123=>((Xa.f k t123 t111).bind fun t126=>(if t126=true then ((gb.f k Na La Ma Ea).bind fun Dd=>((Vc.f k Fc.1 Fc.2.1 Fc.2.2.1 Fc.2.2.2 Dd.1 Dd.2.1 Dd.2.2.1 Dd.2.2.2).bind fun t135=>(if t135=true then ((qc.f k Fc.1 Fc.2.1 Fc.2.2.1 Fc.2.2.2 1).bind fun Tf=>(if Tf.1 < 0 then (none) else ((Xa.f k t123 t111).bind fun t139=>(if t139=true then ((xb.f k t123 1).bind fun mc=>((Wa.f k mc.2 1).bind fun t142=>(if t142 < 0 then (none) else (if t142=mc.1 then ((gb.f k Na La Ma Ea).bind fun Xb=>((oc.f k Xb.1 Xb.2.1 Xb.2.2.1 Xb.2.2.2).bind fun t151=>((Xa.f k t151 t111).bind fun t154=>(if t154=true then ((Wa.f k mc.2 1).bind fun t155=>(if t155 < 0 then (none) else (if t155=mc.1 then (some true) else (none)))) else (none))))) else (none))))) else (none))))) else (none)))) else (none)))))))))=some r:=h;clear h;replace H:=Option.bind_eq_some_iff.mp H;obtain ⟨t102,Ny,H⟩:=H;replace H:(if t102 < 0 then (some true) else ((gb.f k Na La Ma Ea).bind fun Xh=>((Mb.f k Xh.1 Xh.2.1 Xh.2.2.1 Xh.2.2.2).bind fun t111=>((gb.f k Na La Ma Ea).bind fun Fc=>((oc.f k Fc.1 Fc.2.1 Fc.2.2.1 Fc.2.2.2).bind fun t123=>((Xa.f k t123 t111).bind fun t126=>(if t126=true then ((gb.f k Na La Ma Ea).bind fun Dd=>((Vc.f k Fc.1 Fc.2.1 Fc.2.2.1 Fc.2.2.2 Dd.1 Dd.2.1 Dd.2.2.1 Dd.2.2.2).bind fun t135=>(if t135=true then ((qc.f k Fc.1 Fc.2.1 Fc.2.2.1 Fc.2.2.2 1).bind fun Tf=>(if Tf.1 < 0 then (none) else ((Xa.f k t123 t111).bind fun t139=>(if t139=true then ((xb.f k t123 1).bind fun mc=>((Wa.f k mc.2 1).bind fun t142=>(if t142 < 0 then (none) else (if t142=mc.1 then ((gb.f k Na La Ma Ea).bind fun Xb=>((oc.f k Xb.1 Xb.2.1 Xb.2.2.1 Xb.2.2.2).bind fun t151=>((Xa.f k t151 t111).bind fun t154=>(if t154=true then ((Wa.f k mc.2 1).bind fun t155=>(if t155 < 0 then (none) else (if t155=mc.1 then (some true) else (none)))) else (none))))) else (none))))) else (none))))) else (none)))) else (none))))))))=some r:=H;have A2:=ga.mk Ny;clear Ny
 by_cases c3:t102 < 0
 ·rw [if_pos c3] at H;have Gg:decide (t102 < 0)=true:=decide_eq_true c3;clear c3;obtain rfl:=Option.some.inj H;go_enter Try.func3,Try.ntmps3;go_wp2_with (first|((with_reducible refine Jb (N:=1) rfl ?_);refine Db ?hg (N:=1) ?hd (cs:=#[.slice zb Na.length yb,.int .i64 La,.int .i64 Ma,.slice Eb Ea.length Ab]) (t:=25) ?hr ?_;(case hd=>rfl);(case hg=>rfl);(case hr=>first|(go_simp;done)|(go_simp;rfl));intro Ba hg w4 Rb hb;have Nb:=ga.mk (Ra (by repeat (first|(with_reducible first|exact HB.out|apply ia|apply aa|apply oa)|exact HB.out)) hb);have Qb:=ga.mk (Rb);have fc:=ga.mk ((by rw [hg];exact (Ja (by repeat (first|(with_reducible first|exact HB.out|apply ia|apply aa|apply oa)|exact HB.out))):w.heap.size ≤ Ba));have Ec:=ga.mk ((by rw [hg];exact (Ja (by repeat (first|(with_reducible first|exact HB.out|apply ia|apply aa|apply oa)|exact HB.out))):w.heap.size ≤ Ba));clear HB;have HB:=Nb;have ua:=Qb;have Ue:=fc;have Sa:=Ec;clear Nb Qb fc Ec hb Rb hg;have xx:w4.cell? ⟨Ba,0,none⟩=some (.slice zb Na.length yb):=(qa ua.out 0).trans rfl;have ux:w4.cell? ⟨Ba,1,none⟩=some (.int .i64 La):=(qa ua.out 1).trans rfl;have sx:w4.cell? ⟨Ba,2,none⟩=some (.int .i64 Ma):=(qa ua.out 2).trans rfl;have qx:w4.cell? ⟨Ba,3,none⟩=some (.slice Eb Ea.length Ab):=(qa ua.out 3).trans rfl;have dx:=ja ua.out 0;have cx:=ja ua.out 1;have bx:=ja ua.out 2;have ax:=ja ua.out 3)|((with_reducible refine jb (f:=13) rfl ?_);refine Lc (some 13) rfl rfl Try.func13 (by kernel_rfl) rfl #[.agg #[.slice zb Na.length yb,.int .i64 La,.int .i64 Ma,.slice Eb Ea.length Ab],.int .i64 1048576] rfl (by (try simp only [List.map_toArray,List.map_cons,List.map_nil]);first|done|rfl|(simp only [List.length_drop,List.length_take];rfl)) ?_;(with_reducible refine (Pe.calls _ _ Na La Ma _ _ Ea 1048576 t102 _ ?Zb ?Yb ?Uc ?Xc A2.out).mono ?_);(case Zb=>repeat (first|exact (Kd.Fb Be.out HB.out)|(with_reducible refine Kd.Lb ?_ _)|(with_reducible refine Kd.Kb ?_ _)|(with_reducible refine Kd.ec ?_)));(case Yb=>exact Te.out);(case Uc=>repeat (first|exact (Kd.Fb Yd.out HB.out)|(with_reducible refine Kd.Lb ?_ _)|(with_reducible refine Kd.Kb ?_ _)|(with_reducible refine Kd.ec ?_)));(case Xc=>exact Ff.out);rintro e w6 ⟨rfl,hb⟩;refine ⟨_,rfl,?_⟩;have Nb:=ga.mk (mb (g:=Ba) (o:=.cells #[.slice zb Na.length yb,.int .i64 La,.int .i64 Ma,.slice Eb Ea.length Ab] 25 (0,0)) (by (with_reducible repeat (first|refine za ?_ _|refine Ca ?_|refine Aa ?_ _));exact ua.out) hb);have Qb:=ga.mk (Ra (by repeat (first|(with_reducible first|exact HB.out|apply ia|apply aa|apply oa|refine ta ?_ Sa.out)|exact HB.out)) hb);clear ua HB;have ua:=Nb;have HB:=Qb;clear Nb Qb;(try clear hb);(try clear Ak);(try clear hk);(try clear hi)));go_ret;exact ⟨by first|rfl|(simp [Ia,Ga] <;> rfl)|(simp [*,Ia,Ga] <;> rfl),by repeat (first|(with_reducible first|exact HB.out|apply ia|apply aa|apply oa|refine ta ?_ Sa.out)|exact HB.out)⟩
 ·rw [if_neg c3] at H;have Gg:decide (t102 < 0)=false:=decide_eq_false c3;clear c3;replace H:=Option.bind_eq_some_iff.mp H;obtain ⟨⟨t103,t106,t107,t108⟩,Lv,H⟩:=H;replace H:((Mb.f k t103 t106 t107 t108).bind fun t111=>((gb.f k Na La Ma Ea).bind fun Fc=>((oc.f k Fc.1 Fc.2.1 Fc.2.2.1 Fc.2.2.2).bind fun t123=>((Xa.f k t123 t111).bind fun t126=>(if t126=true then ((gb.f k Na La Ma Ea).bind fun Dd=>((Vc.f k Fc.1 Fc.2.1 Fc.2.2.1 Fc.2.2.2 Dd.1 Dd.2.1 Dd.2.2.1 Dd.2.2.2).bind fun t135=>(if t135=true then ((qc.f k Fc.1 Fc.2.1 Fc.2.2.1 Fc.2.2.2 1).bind fun Tf=>(if Tf.1 < 0 then (none) else ((Xa.f k t123 t111).bind fun t139=>(if t139=true then ((xb.f k t123 1).bind fun mc=>((Wa.f k mc.2 1).bind fun t142=>(if t142 < 0 then (none) else (if t142=mc.1 then ((gb.f k Na La Ma Ea).bind fun Xb=>((oc.f k Xb.1 Xb.2.1 Xb.2.2.1 Xb.2.2.2).bind fun t151=>((Xa.f k t151 t111).bind fun t154=>(if t154=true then ((Wa.f k mc.2 1).bind fun t155=>(if t155 < 0 then (none) else (if t155=mc.1 then (some true) else (none)))) else (none))))) else (none))))) else (none))))) else (none)))) else (none))))))=some r:=H;have A7:=ga.mk Lv;clear Lv;replace H:=Option.bind_eq_some_iff.mp H;obtain ⟨t111,YG,H⟩:=H;replace H:((gb.f k Na La Ma Ea).bind fun Fc=>((oc.f k Fc.1 Fc.2.1 Fc.2.2.1 Fc.2.2.2).bind fun t123=>((Xa.f k t123 t111).bind fun t126=>(if t126=true then ((gb.f k Na La Ma Ea).bind fun Dd=>((Vc.f k Fc.1 Fc.2.1 Fc.2.2.1 Fc.2.2.2 Dd.1 Dd.2.1 Dd.2.2.1 Dd.2.2.2).bind fun t135=>(if t135=true then ((qc.f k Fc.1 Fc.2.1 Fc.2.2.1 Fc.2.2.2 1).bind fun Tf=>(if Tf.1 < 0 then (none) else ((Xa.f k t123 t111).bind fun t139=>(if t139=true then ((xb.f k t123 1).bind fun mc=>((Wa.f k mc.2 1).bind fun t142=>(if t142 < 0 then (none) else (if t142=mc.1 then ((gb.f k Na La Ma Ea).bind fun Xb=>((oc.f k Xb.1 Xb.2.1 Xb.2.2.1 Xb.2.2.2).bind fun t151=>((Xa.f k t151 t111).bind fun t154=>(if t154=true then ((Wa.f k mc.2 1).bind fun t155=>(if t155 < 0 then (none) else (if t155=mc.1 then (some true) else (none)))) else (none))))) else (none))))) else (none))))) else (none)))) else (none)))))=some r:=H;have A8:=ga.mk YG;clear YG;replace H:=Option.bind_eq_some_iff.mp H;obtain ⟨⟨t114,t117,t118,t119⟩,wQ,H⟩:=H;replace H:((oc.f k t114 t117 t118 t119).bind fun t123=>((Xa.f k t123 t111).bind fun t126=>(if t126=true then ((gb.f k Na La Ma Ea).bind fun Dd=>((Vc.f k t114 t117 t118 t119 Dd.1 Dd.2.1 Dd.2.2.1 Dd.2.2.2).bind fun t135=>(if t135=true then ((qc.f k t114 t117 t118 t119 1).bind fun Tf=>(if Tf.1 < 0 then (none) else ((Xa.f k t123 t111).bind fun t139=>(if t139=true then ((xb.f k t123 1).bind fun mc=>((Wa.f k mc.2 1).bind fun t142=>(if t142 < 0 then (none) else (if t142=mc.1 then ((gb.f k Na La Ma Ea).bind fun Xb=>((oc.f k Xb.1 Xb.2.1 Xb.2.2.1 Xb.2.2.2).bind fun t151=>((Xa.f k t151 t111).bind fun t154=>(if t154=true then ((Wa.f k mc.2 1).bind fun t155=>(if t155 < 0 then (none) else (if t155=mc.1 then (some true) else (none)))) else (none))))) else (none))))) else (none))))) else (none)))) else (none))))=some r:=H;have A9:=ga.mk wQ;clear wQ;replace H:=Option.bind_eq_some_iff.mp H;obtain ⟨t123,lH,H⟩:=H;replace H:((Xa.f k t123 t111).bind fun t126=>(if t126=true then ((gb.f k Na La Ma Ea).bind fun Dd=>((Vc.f k t114 t117 t118 t119 Dd.1 Dd.2.1 Dd.2.2.1 Dd.2.2.2).bind fun t135=>(if t135=true then ((qc.f k t114 t117 t118 t119 1).bind fun Tf=>(if Tf.1 < 0 then (none) else ((Xa.f k t123 t111).bind fun t139=>(if t139=true then ((xb.f k t123 1).bind fun mc=>((Wa.f k mc.2 1).bind fun t142=>(if t142 < 0 then (none) else (if t142=mc.1 then ((gb.f k Na La Ma Ea).bind fun Xb=>((oc.f k Xb.1 Xb.2.1 Xb.2.2.1 Xb.2.2.2).bind fun t151=>((Xa.f k t151 t111).bind fun t154=>(if t154=true then ((Wa.f k mc.2 1).bind fun t155=>(if t155 < 0 then (none) else (if t155=mc.1 then (some true) else (none)))) else (none))))) else (none))))) else (none))))) else (none)))) else (none)))=some r:=H;have lS:=ga.mk lH;clear lH;replace H:=Option.bind_eq_some_iff.mp H;obtain ⟨t126,Fy,H⟩:=H;replace H:(if t126=true then ((gb.f k Na La Ma Ea).bind fun Dd=>((Vc.f k t114 t117 t118 t119 Dd.1 Dd.2.1 Dd.2.2.1 Dd.2.2.2).bind fun t135=>(if t135=true then ((qc.f k t114 t117 t118 t119 1).bind fun Tf=>(if Tf.1 < 0 then (none) else ((Xa.f k t123 t111).bind fun t139=>(if t139=true then ((xb.f k t123 1).bind fun mc=>((Wa.f k mc.2 1).bind fun t142=>(if t142 < 0 then (none) else (if t142=mc.1 then ((gb.f k Na La Ma Ea).bind fun Xb=>((oc.f k Xb.1 Xb.2.1 Xb.2.2.1 Xb.2.2.2).bind fun t151=>((Xa.f k t151 t111).bind fun t154=>(if t154=true then ((Wa.f k mc.2 1).bind fun t155=>(if t155 < 0 then (none) else (if t155=mc.1 then (some true) else (none)))) else (none))))) else (none))))) else (none))))) else (none)))) else (none))=some r:=H;have DE:=ga.mk Fy;clear Fy
  by_cases Zs:t126=true
  ·subst Zs;have H1:((gb.f k Na La Ma Ea).bind fun Dd=>((Vc.f k t114 t117 t118 t119 Dd.1 Dd.2.1 Dd.2.2.1 Dd.2.2.2).bind fun t135=>(if t135=true then ((qc.f k t114 t117 t118 t119 1).bind fun Tf=>(if Tf.1 < 0 then (none) else ((Xa.f k t123 t111).bind fun t139=>(if t139=true then ((xb.f k t123 1).bind fun mc=>((Wa.f k mc.2 1).bind fun t142=>(if t142 < 0 then (none) else (if t142=mc.1 then ((gb.f k Na La Ma Ea).bind fun Xb=>((oc.f k Xb.1 Xb.2.1 Xb.2.2.1 Xb.2.2.2).bind fun t151=>((Xa.f k t151 t111).bind fun t154=>(if t154=true then ((Wa.f k mc.2 1).bind fun t155=>(if t155 < 0 then (none) else (if t155=mc.1 then (some true) else (none)))) else (none))))) else (none))))) else (none))))) else (none))))=some r:=by rw [if_pos rfl] at H;exact H
   clear H;have H:=H1;clear H1;replace H:=Option.bind_eq_some_iff.mp H;obtain ⟨⟨t127,t130,t131,t132⟩,Ey,H⟩:=H;replace H:((Vc.f k t114 t117 t118 t119 t127 t130 t131 t132).bind fun t135=>(if t135=true then ((qc.f k t114 t117 t118 t119 1).bind fun Tf=>(if Tf.1 < 0 then (none) else ((Xa.f k t123 t111).bind fun t139=>(if t139=true then ((xb.f k t123 1).bind fun mc=>((Wa.f k mc.2 1).bind fun t142=>(if t142 < 0 then (none) else (if t142=mc.1 then ((gb.f k Na La Ma Ea).bind fun Xb=>((oc.f k Xb.1 Xb.2.1 Xb.2.2.1 Xb.2.2.2).bind fun t151=>((Xa.f k t151 t111).bind fun t154=>(if t154=true then ((Wa.f k mc.2 1).bind fun t155=>(if t155 < 0 then (none) else (if t155=mc.1 then (some true) else (none)))) else (none))))) else (none))))) else (none))))) else (none)))=some r:=H;have kH:=ga.mk Ey;clear Ey;replace H:=Option.bind_eq_some_iff.mp H;obtain ⟨t135,Dy,H⟩:=H;replace H:(if t135=true then ((qc.f k t114 t117 t118 t119 1).bind fun Tf=>(if Tf.1 < 0 then (none) else ((Xa.f k t123 t111).bind fun t139=>(if t139=true then ((xb.f k t123 1).bind fun mc=>((Wa.f k mc.2 1).bind fun t142=>(if t142 < 0 then (none) else (if t142=mc.1 then ((gb.f k Na La Ma Ea).bind fun Xb=>((oc.f k Xb.1 Xb.2.1 Xb.2.2.1 Xb.2.2.2).bind fun t151=>((Xa.f k t151 t111).bind fun t154=>(if t154=true then ((Wa.f k mc.2 1).bind fun t155=>(if t155 < 0 then (none) else (if t155=mc.1 then (some true) else (none)))) else (none))))) else (none))))) else (none))))) else (none))=some r:=H;have pL:=ga.mk Dy;clear Dy
   by_cases um:t135=true
   ·subst um;have H1:((qc.f k t114 t117 t118 t119 1).bind fun Tf=>(if Tf.1 < 0 then (none) else ((Xa.f k t123 t111).bind fun t139=>(if t139=true then ((xb.f k t123 1).bind fun mc=>((Wa.f k mc.2 1).bind fun t142=>(if t142 < 0 then (none) else (if t142=mc.1 then ((gb.f k Na La Ma Ea).bind fun Xb=>((oc.f k Xb.1 Xb.2.1 Xb.2.2.1 Xb.2.2.2).bind fun t151=>((Xa.f k t151 t111).bind fun t154=>(if t154=true then ((Wa.f k mc.2 1).bind fun t155=>(if t155 < 0 then (none) else (if t155=mc.1 then (some true) else (none)))) else (none))))) else (none))))) else (none)))))=some r:=by rw [if_pos rfl] at H;exact H
    clear H;have H:=H1;clear H1;replace H:=Option.bind_eq_some_iff.mp H;obtain ⟨⟨t136,t137,t138⟩,Cy,H⟩:=H;replace H:(if t136 < 0 then (none) else ((Xa.f k t123 t111).bind fun t139=>(if t139=true then ((xb.f k t123 1).bind fun mc=>((Wa.f k mc.2 1).bind fun t142=>(if t142 < 0 then (none) else (if t142=mc.1 then ((gb.f k Na La Ma Ea).bind fun Xb=>((oc.f k Xb.1 Xb.2.1 Xb.2.2.1 Xb.2.2.2).bind fun t151=>((Xa.f k t151 t111).bind fun t154=>(if t154=true then ((Wa.f k mc.2 1).bind fun t155=>(if t155 < 0 then (none) else (if t155=mc.1 then (some true) else (none)))) else (none))))) else (none))))) else (none))))=some r:=H;have iN:=ga.mk Cy;clear Cy
    by_cases PD:t136 < 0
    ·rw [if_pos PD] at H;exact absurd H (by simp)
    ·rw [if_neg PD] at H;have gQ:decide (t136 < 0)=false:=decide_eq_false PD;clear PD;replace H:=Option.bind_eq_some_iff.mp H;obtain ⟨t139,gH,H⟩:=H;replace H:(if t139=true then ((xb.f k t123 1).bind fun mc=>((Wa.f k mc.2 1).bind fun t142=>(if t142 < 0 then (none) else (if t142=mc.1 then ((gb.f k Na La Ma Ea).bind fun Xb=>((oc.f k Xb.1 Xb.2.1 Xb.2.2.1 Xb.2.2.2).bind fun t151=>((Xa.f k t151 t111).bind fun t154=>(if t154=true then ((Wa.f k mc.2 1).bind fun t155=>(if t155 < 0 then (none) else (if t155=mc.1 then (some true) else (none)))) else (none))))) else (none))))) else (none))=some r:=H;have jS:=ga.mk gH;clear gH
     by_cases OD:t139=true
     ·subst OD;have H1:((xb.f k t123 1).bind fun mc=>((Wa.f k mc.2 1).bind fun t142=>(if t142 < 0 then (none) else (if t142=mc.1 then ((gb.f k Na La Ma Ea).bind fun Xb=>((oc.f k Xb.1 Xb.2.1 Xb.2.2.1 Xb.2.2.2).bind fun t151=>((Xa.f k t151 t111).bind fun t154=>(if t154=true then ((Wa.f k mc.2 1).bind fun t155=>(if t155 < 0 then (none) else (if t155=mc.1 then (some true) else (none)))) else (none))))) else (none)))))=some r:=by rw [if_pos rfl] at H;exact H
      clear H;have H:=H1;clear H1;replace H:=Option.bind_eq_some_iff.mp H;obtain ⟨⟨t140,t141⟩,fH,H⟩:=H;replace H:((Wa.f k t141 1).bind fun t142=>(if t142 < 0 then (none) else (if t142=t140 then ((gb.f k Na La Ma Ea).bind fun Xb=>((oc.f k Xb.1 Xb.2.1 Xb.2.2.1 Xb.2.2.2).bind fun t151=>((Xa.f k t151 t111).bind fun t154=>(if t154=true then ((Wa.f k t141 1).bind fun t155=>(if t155 < 0 then (none) else (if t155=t140 then (some true) else (none)))) else (none))))) else (none))))=some r:=H;have Ny:=ga.mk fH;clear fH;replace H:=Option.bind_eq_some_iff.mp H;obtain ⟨t142,eH,H⟩:=H;replace H:(if t142 < 0 then (none) else (if t142=t140 then ((gb.f k Na La Ma Ea).bind fun Xb=>((oc.f k Xb.1 Xb.2.1 Xb.2.2.1 Xb.2.2.2).bind fun t151=>((Xa.f k t151 t111).bind fun t154=>(if t154=true then ((Wa.f k t141 1).bind fun t155=>(if t155 < 0 then (none) else (if t155=t140 then (some true) else (none)))) else (none))))) else (none)))=some r:=H;have iS:=ga.mk eH;clear eH
      by_cases vw:t142 < 0
      ·rw [if_pos vw] at H;exact absurd H (by simp)
      ·rw [if_neg vw] at H;have fQ:decide (t142 < 0)=false:=decide_eq_false vw;clear vw
       by_cases Aw:t142=t140
       ·rw [if_pos Aw] at H;have sC:(t142 == t140)=true:=beq_iff_eq.mpr Aw;have dQ:(t142 != t140)=false:=bne_eq_false_iff_eq.mpr Aw;clear Aw;replace H:=Option.bind_eq_some_iff.mp H;obtain ⟨⟨t143,t146,t147,t148⟩,Ay,H⟩:=H;replace H:((oc.f k t143 t146 t147 t148).bind fun t151=>((Xa.f k t151 t111).bind fun t154=>(if t154=true then ((Wa.f k t141 1).bind fun t155=>(if t155 < 0 then (none) else (if t155=t140 then (some true) else (none)))) else (none))))=some r:=H;have gN:=ga.mk Ay;clear Ay;replace H:=Option.bind_eq_some_iff.mp H;obtain ⟨t151,dH,H⟩:=H;replace H:((Xa.f k t151 t111).bind fun t154=>(if t154=true then ((Wa.f k t141 1).bind fun t155=>(if t155 < 0 then (none) else (if t155=t140 then (some true) else (none)))) else (none)))=some r:=H;have gS:=ga.mk dH;clear dH;replace H:=Option.bind_eq_some_iff.mp H;obtain ⟨t154,zy,H⟩:=H;replace H:(if t154=true then ((Wa.f k t141 1).bind fun t155=>(if t155 < 0 then (none) else (if t155=t140 then (some true) else (none)))) else (none))=some r:=H;have oL:=ga.mk zy;clear zy
        by_cases Ys:t154=true
        ·subst Ys;have H1:((Wa.f k t141 1).bind fun t155=>(if t155 < 0 then (none) else (if t155=t140 then (some true) else (none))))=some r:=by rw [if_pos rfl] at H;exact H
         clear H;have H:=H1;clear H1;replace H:=Option.bind_eq_some_iff.mp H;obtain ⟨t155,yy,H⟩:=H;replace H:(if t155 < 0 then (none) else (if t155=t140 then (some true) else (none)))=some r:=H;have fN:=ga.mk yy;clear yy
         by_cases xE:t155 < 0
         ·rw [if_pos xE] at H;exact absurd H (by simp)
         ·rw [if_neg xE] at H;have bQ:decide (t155 < 0)=false:=decide_eq_false xE;clear xE
          by_cases lG:t155=t140
          ·rw [if_pos lG] at H;have aQ:(t155 == t140)=true:=beq_iff_eq.mpr lG;have ZP:(t155 != t140)=false:=bne_eq_false_iff_eq.mpr lG;clear lG;obtain rfl:=Option.some.inj H;go_enter Try.func3,Try.ntmps3
           try go_wp2_with (first|((with_reducible refine Jb (N:=1) rfl ?_);refine Db ?hg (N:=1) ?hd (cs:=#[.slice zb Na.length yb,.int .i64 La,.int .i64 Ma,.slice Eb Ea.length Ab]) (t:=25) ?hr ?_;(case hd=>rfl);(case hg=>rfl);(case hr=>first|(go_simp;done)|(go_simp;rfl));intro Ba hg sE Rb hb;have Nb:=ga.mk (Ra (by repeat (first|(with_reducible first|exact HB.out|apply ia|apply aa|apply oa)|exact HB.out)) hb);have Qb:=ga.mk (Rb);have fc:=ga.mk ((by rw [hg];exact (Ja (by repeat (first|(with_reducible first|exact HB.out|apply ia|apply aa|apply oa)|exact HB.out))):w.heap.size ≤ Ba));have Ec:=ga.mk ((by rw [hg];exact (Ja (by repeat (first|(with_reducible first|exact HB.out|apply ia|apply aa|apply oa)|exact HB.out))):w.heap.size ≤ Ba));clear HB;have HB:=Nb;have ua:=Qb;have Ue:=fc;have Sa:=Ec;clear Nb Qb fc Ec hb Rb hg;have UA:sE.cell? ⟨Ba,0,none⟩=some (.slice zb Na.length yb):=(qa ua.out 0).trans rfl;have TA:sE.cell? ⟨Ba,1,none⟩=some (.int .i64 La):=(qa ua.out 1).trans rfl;have SA:sE.cell? ⟨Ba,2,none⟩=some (.int .i64 Ma):=(qa ua.out 2).trans rfl;have RA:sE.cell? ⟨Ba,3,none⟩=some (.slice Eb Ea.length Ab):=(qa ua.out 3).trans rfl;have Tz:=ja ua.out 0;have Sz:=ja ua.out 1;have Rz:=ja ua.out 2;have Qz:=ja ua.out 3)|((with_reducible refine jb (f:=13) rfl ?_);refine Lc (some 13) rfl rfl Try.func13 (by kernel_rfl) rfl #[.agg #[.slice zb Na.length yb,.int .i64 La,.int .i64 Ma,.slice Eb Ea.length Ab],.int .i64 1048576] rfl (by (try simp only [List.map_toArray,List.map_cons,List.map_nil]);first|done|rfl|(simp only [List.length_drop,List.length_take];rfl)) ?_;(with_reducible refine (Pe.calls _ _ Na La Ma _ _ Ea 1048576 t102 _ ?Zb ?Yb ?Uc ?Xc A2.out).mono ?_);(case Zb=>repeat (first|exact (Kd.Fb Be.out HB.out)|(with_reducible refine Kd.Lb ?_ _)|(with_reducible refine Kd.Kb ?_ _)|(with_reducible refine Kd.ec ?_)));(case Yb=>exact Te.out);(case Uc=>repeat (first|exact (Kd.Fb Yd.out HB.out)|(with_reducible refine Kd.Lb ?_ _)|(with_reducible refine Kd.Kb ?_ _)|(with_reducible refine Kd.ec ?_)));(case Xc=>exact Ff.out);rintro e FE ⟨rfl,hb⟩;refine ⟨_,rfl,?_⟩;have Nb:=ga.mk (mb (g:=Ba) (o:=.cells #[.slice zb Na.length yb,.int .i64 La,.int .i64 Ma,.slice Eb Ea.length Ab] 25 (0,0)) (by (with_reducible repeat (first|refine za ?_ _|refine Ca ?_|refine Aa ?_ _));exact ua.out) hb);have Qb:=ga.mk (Ra (by repeat (first|(with_reducible first|exact HB.out|apply ia|apply aa|apply oa|refine ta ?_ Sa.out)|exact HB.out)) hb);clear ua HB;have ua:=Nb;have HB:=Qb;clear Nb Qb;(try clear hb);(try clear Ak);(try clear hk);(try clear hi);have QA:FE.cell? ⟨Ba,0,none⟩=some (.slice zb Na.length yb):=(qa ua.out 0).trans rfl;have PA:FE.cell? ⟨Ba,1,none⟩=some (.int .i64 La):=(qa ua.out 1).trans rfl;have OA:FE.cell? ⟨Ba,2,none⟩=some (.int .i64 Ma):=(qa ua.out 2).trans rfl;have NA:FE.cell? ⟨Ba,3,none⟩=some (.slice Eb Ea.length Ab):=(qa ua.out 3).trans rfl;have Pz:=ja ua.out 0;have Oz:=ja ua.out 1;have Nz:=ja ua.out 2;have Mz:=ja ua.out 3)|((with_reducible refine jb (f:=15) rfl ?_);refine Lc (some 17) rfl rfl Try.func15 (by kernel_rfl) rfl #[.agg #[.slice zb Na.length yb,.int .i64 La,.int .i64 Ma,.slice Eb Ea.length Ab]] rfl (by (try simp only [List.map_toArray,List.map_cons,List.map_nil]);first|done|rfl|(simp only [List.length_drop,List.length_take];rfl)) ?_;(with_reducible refine (gb.calls k _ _ Na La Ma _ _ Ea t103 t106 t107 t108 _ ?Zb ?Yb ?Uc ?Xc A7.out).mono ?_);(case Zb=>repeat (first|exact (Kd.Fb Be.out HB.out)|(with_reducible refine Kd.Lb ?_ _)|(with_reducible refine Kd.Kb ?_ _)|(with_reducible refine Kd.ec ?_)));(case Yb=>exact Te.out);(case Uc=>repeat (first|exact (Kd.Fb Yd.out HB.out)|(with_reducible refine Kd.Lb ?_ _)|(with_reducible refine Kd.Kb ?_ _)|(with_reducible refine Kd.ec ?_)));(case Xc=>exact Ff.out);rintro e uS ⟨zL,v109,rfl,Yf,Dr,hb⟩;refine ⟨_,rfl,?_⟩;have Nb:=ga.mk (Kd.ee Yf (Ja (by repeat (first|(with_reducible first|exact HB.out|apply ia|apply aa|apply oa|refine ta ?_ Sa.out)|exact HB.out))));have Qb:=ga.mk (Kd.ee Dr (Ja (by repeat (first|(with_reducible first|exact HB.out|apply ia|apply aa|apply oa|refine ta ?_ Sa.out)|exact HB.out))));have fc:=ga.mk (mb (g:=Ba) (o:=.cells #[.slice zb Na.length yb,.int .i64 La,.int .i64 Ma,.slice Eb Ea.length Ab] 25 (0,0)) (by (with_reducible repeat (first|refine za ?_ _|refine Ca ?_|refine Aa ?_ _));exact ua.out) hb);have Ec:=ga.mk (Ra (by repeat (first|(with_reducible first|exact HB.out|apply ia|apply aa|apply oa|refine ta ?_ Sa.out)|exact HB.out)) hb);clear ua HB;have qd:=Nb;have Ld:=Qb;have ua:=fc;have HB:=Ec;clear Nb Qb fc Ec;(try clear hb);(try clear Ak);(try clear hk);(try clear hi);(try clear Yf);(try clear Dr);obtain ⟨En,Bn,JM⟩:=Kd.Vd qd.out;subst JM;obtain ⟨uu,ju,IM⟩:=Kd.Vd Ld.out;subst IM)|((with_reducible refine jb (f:=14) rfl ?_);refine Lc (some 18) rfl rfl Try.func14 (by kernel_rfl) rfl #[.agg #[.slice En t103.length Bn,.int .i64 t106,.int .i64 t107,.slice uu t108.length ju]] rfl (by (try simp only [List.map_toArray,List.map_cons,List.map_nil]);first|done|rfl|(simp only [List.length_drop,List.length_take];rfl)) ?_;(with_reducible refine (Mb.calls k _ _ t103 t106 t107 _ _ t108 t111 _ ?Zb ?Yb ?Uc ?Xc A8.out).mono ?_);(case Zb=>repeat (first|exact (Kd.Bb qd.out).2.2|(with_reducible refine Kd.Lb ?_ _)|(with_reducible refine Kd.Kb ?_ _)|(with_reducible refine Kd.ec ?_)));(case Yb=>exact (Kd.Bb qd.out).2.1);(case Uc=>repeat (first|exact (Kd.Bb Ld.out).2.2|(with_reducible refine Kd.Lb ?_ _)|(with_reducible refine Kd.Kb ?_ _)|(with_reducible refine Kd.ec ?_)));(case Xc=>exact (Kd.Bb Ld.out).2.1);rintro e pH ⟨xL,rfl,Yf,hb⟩;refine ⟨_,rfl,?_⟩;have Nb:=ga.mk (Kd.Sc (by (with_reducible repeat (first|apply Kd.Ta|apply Kd.Ua|apply Kd.Za));exact qd.out) (Kd.Ud Yf) hb);have Qb:=ga.mk (Kd.Qc (by (with_reducible repeat (first|apply Kd.Ta|apply Kd.Ua|apply Kd.Za));exact Ld.out) hb);have fc:=ga.mk (Kd.ee (Kd.Wd Yf (Kd.Ig (by (with_reducible repeat (first|apply Kd.Ta|apply Kd.Ua|apply Kd.Za));exact qd.out))) (Ja (by repeat (first|(with_reducible first|exact HB.out|apply ia|apply aa|apply oa|refine ta ?_ Sa.out)|exact HB.out))));have Ec:=ga.mk (mb (g:=Ba) (o:=.cells #[.slice zb Na.length yb,.int .i64 La,.int .i64 Ma,.slice Eb Ea.length Ab] 25 (0,0)) (by (with_reducible repeat (first|refine za ?_ _|refine Ca ?_|refine Aa ?_ _));exact ua.out) hb);have fe:=ga.mk (Ra (by repeat (first|(with_reducible first|exact HB.out|apply ia|apply aa|apply oa|refine ta ?_ Sa.out)|exact HB.out)) hb);clear qd Ld ua HB;have qd:=Nb;have Ld:=Qb;have xd:=fc;have ua:=Ec;have HB:=fe;clear Nb Qb fc Ec fe;(try clear hb);(try clear Ak);(try clear hk);(try clear hi);(try clear Yf);have Lq:pH.cell? ⟨Ba,0,none⟩=some (.slice zb Na.length yb):=(qa ua.out 0).trans rfl;have Kq:pH.cell? ⟨Ba,1,none⟩=some (.int .i64 La):=(qa ua.out 1).trans rfl;have Jq:pH.cell? ⟨Ba,2,none⟩=some (.int .i64 Ma):=(qa ua.out 2).trans rfl;have Iq:pH.cell? ⟨Ba,3,none⟩=some (.slice Eb Ea.length Ab):=(qa ua.out 3).trans rfl;have sq:=ja ua.out 0;have rq:=ja ua.out 1;have qq:=ja ua.out 2;have pq:=ja ua.out 3)|((with_reducible refine jb (f:=15) rfl ?_);refine Lc (some 20) rfl rfl Try.func15 (by kernel_rfl) rfl #[.agg #[.slice zb Na.length yb,.int .i64 La,.int .i64 Ma,.slice Eb Ea.length Ab]] rfl (by (try simp only [List.map_toArray,List.map_cons,List.map_nil]);first|done|rfl|(simp only [List.length_drop,List.length_take];rfl)) ?_;(with_reducible refine (gb.calls k _ _ Na La Ma _ _ Ea t114 t117 t118 t119 _ ?Zb ?Yb ?Uc ?Xc A9.out).mono ?_);(case Zb=>repeat (first|exact (Kd.Fb Be.out HB.out)|(with_reducible refine Kd.Lb ?_ _)|(with_reducible refine Kd.Kb ?_ _)|(with_reducible refine Kd.ec ?_)));(case Yb=>exact Te.out);(case Uc=>repeat (first|exact (Kd.Fb Yd.out HB.out)|(with_reducible refine Kd.Lb ?_ _)|(with_reducible refine Kd.Kb ?_ _)|(with_reducible refine Kd.ec ?_)));(case Xc=>exact Ff.out);rintro e tS ⟨OQ,NQ,rfl,Yf,Dr,hb⟩;refine ⟨_,rfl,?_⟩;have Nb:=ga.mk (Kd.Sc (by (with_reducible repeat (first|apply Kd.Ta|apply Kd.Ua|apply Kd.Za));exact qd.out) (Kd.Ud Yf) hb);have Qb:=ga.mk (Kd.Sc (by (with_reducible repeat (first|apply Kd.Ta|apply Kd.Ua|apply Kd.Za));exact Ld.out) (Kd.Ud Dr) hb);have fc:=ga.mk (Kd.Sc (by (with_reducible repeat (first|apply Kd.Ta|apply Kd.Ua|apply Kd.Za));exact xd.out) (Kd.Ud Yf) hb);have Ec:=ga.mk (Kd.ee (Kd.Wd (Kd.Wd Yf (Kd.Ig (by (with_reducible repeat (first|apply Kd.Ta|apply Kd.Ua|apply Kd.Za));exact qd.out))) (Kd.Ig (by (with_reducible repeat (first|apply Kd.Ta|apply Kd.Ua|apply Kd.Za));exact xd.out))) (Ja (by repeat (first|(with_reducible first|exact HB.out|apply ia|apply aa|apply oa|refine ta ?_ Sa.out)|exact HB.out))));have fe:=ga.mk (Kd.ee (Kd.Wd Dr (Kd.Ig (by (with_reducible repeat (first|apply Kd.Ta|apply Kd.Ua|apply Kd.Za));exact Ld.out))) (Ja (by repeat (first|(with_reducible first|exact HB.out|apply ia|apply aa|apply oa|refine ta ?_ Sa.out)|exact HB.out))));have ze:=ga.mk (mb (g:=Ba) (o:=.cells #[.slice zb Na.length yb,.int .i64 La,.int .i64 Ma,.slice Eb Ea.length Ab] 25 (0,0)) (by (with_reducible repeat (first|refine za ?_ _|refine Ca ?_|refine Aa ?_ _));exact ua.out) hb);have De:=ga.mk (Ra (by repeat (first|(with_reducible first|exact HB.out|apply ia|apply aa|apply oa|refine ta ?_ Sa.out)|exact HB.out)) hb);clear qd Ld xd ua HB;have qd:=Nb;have Ld:=Qb;have xd:=fc;have Bd:=Ec;have Ad:=fe;have ua:=ze;have HB:=De;clear Nb Qb fc Ec fe ze De;(try clear hb);(try clear Ak);(try clear hk);(try clear hi);(try clear Yf);(try clear Dr))|((with_reducible refine Jb (N:=5) rfl ?_);refine Db ?hg (N:=5) ?hd (cs:=#[.slice none 0 0,.int .i64 0,.int .i64 0,.slice none 0 0]) (t:=30) ?hr ?_;(case hd=>rfl);(case hg=>rfl);(case hr=>first|(go_simp;done)|(go_simp;rfl));intro Jc hg oH Rb hb;have Nb:=ga.mk (Kd.Qc (by (with_reducible repeat (first|apply Kd.Ta|apply Kd.Ua|apply Kd.Za));exact qd.out) hb);have Qb:=ga.mk (Kd.Qc (by (with_reducible repeat (first|apply Kd.Ta|apply Kd.Ua|apply Kd.Za));exact Ld.out) hb);have fc:=ga.mk (Kd.Qc (by (with_reducible repeat (first|apply Kd.Ta|apply Kd.Ua|apply Kd.Za));exact xd.out) hb);have Ec:=ga.mk (Kd.Qc (by (with_reducible repeat (first|apply Kd.Ta|apply Kd.Ua|apply Kd.Za));exact Bd.out) hb);have fe:=ga.mk (Kd.Qc (by (with_reducible repeat (first|apply Kd.Ta|apply Kd.Ua|apply Kd.Za));exact Ad.out) hb);have ze:=ga.mk (mb (g:=Ba) (o:=.cells #[.slice zb Na.length yb,.int .i64 La,.int .i64 Ma,.slice Eb Ea.length Ab] 25 (0,0)) (by (with_reducible repeat (first|refine za ?_ _|refine Ca ?_|refine Aa ?_ _));exact ua.out) hb);have De:=ga.mk (Ra (by repeat (first|(with_reducible first|exact HB.out|apply ia|apply aa|apply oa|refine ta ?_ Sa.out)|exact HB.out)) hb);have Ih:=ga.mk (Rb);have wj:=ga.mk ((by rw [hg];exact (Ja (by repeat (first|(with_reducible first|exact HB.out|apply ia|apply aa|apply oa|refine ta ?_ Sa.out)|exact HB.out))):w.heap.size ≤ Jc));have Zm:=ga.mk ((by rw [hg];exact (Ja (by repeat (first|(with_reducible first|exact HB.out|apply ia|apply aa|apply oa|refine ta ?_ Sa.out)|exact HB.out))):w.heap.size ≤ Jc));have ni:=ga.mk ((by rw [hg];exact Nat.ne_of_lt (Dc (g:=Ba) (o:=.cells #[.slice zb Na.length yb,.int .i64 La,.int .i64 Ma,.slice Eb Ea.length Ab] 25 (0,0)) (by (with_reducible repeat (first|refine za ?_ _|refine Ca ?_|refine Aa ?_ _));exact ua.out)):Ba ≠ Jc));have Nr:=ga.mk ((by rw [hg];exact Nat.ne_of_gt (Dc (g:=Ba) (o:=.cells #[.slice zb Na.length yb,.int .i64 La,.int .i64 Ma,.slice Eb Ea.length Ab] 25 (0,0)) (by (with_reducible repeat (first|refine za ?_ _|refine Ca ?_|refine Aa ?_ _));exact ua.out)):Jc ≠ Ba));clear qd Ld xd Bd Ad ua HB;have qd:=Nb;have Ld:=Qb;have xd:=fc;have Bd:=Ec;have Ad:=fe;have ua:=ze;have HB:=De;have Ac:=Ih;have vQ:=wj;have Rg:=Zm;have Ei:=ni;have yw:=Nr;clear Nb Qb fc Ec fe ze De Ih wj Zm ni Nr hb Rb hg;obtain ⟨Hf,Ef,HM⟩:=Kd.Vd Bd.out;subst HM;have FO:=yw.out;have cO:=Ei.out;have kK:oH.cell? ⟨Jc,0,none⟩=some (.slice none 0 0):=(qa Ac.out 0).trans rfl;have jK:oH.cell? ⟨Jc,1,none⟩=some (.int .i64 0):=(qa Ac.out 1).trans rfl;have iK:oH.cell? ⟨Jc,2,none⟩=some (.int .i64 0):=(qa Ac.out 2).trans rfl;have gK:oH.cell? ⟨Jc,3,none⟩=some (.slice none 0 0):=(qa Ac.out 3).trans rfl;have vI:=ja Ac.out 0;have uI:=ja Ac.out 1;have tI:=ja Ac.out 2;have sI:=ja Ac.out 3;obtain ⟨Eg,zg,GM⟩:=Kd.Vd Ad.out;subst GM)|((with_reducible refine jb (f:=16) rfl ?_);refine Lc (some 22) rfl rfl Try.func16 (by kernel_rfl) rfl #[.agg #[.slice Hf t114.length Ef,.int .i64 t117,.int .i64 t118,.slice Eg t119.length zg]] rfl (by (try simp only [List.map_toArray,List.map_cons,List.map_nil]);first|done|rfl|(simp only [List.length_drop,List.length_take];rfl)) ?_;(with_reducible refine (oc.calls k _ _ t114 t117 t118 _ _ t119 t123 _ ?Zb ?Yb ?Uc ?Xc lS.out).mono ?_);(case Zb=>refine (Kd.Bb (e:=3) (base:=w.heap.size) (ok:=fun k_=>((True∧some k_ ≠ (.slice En t103.length Bn:Value).ownBlock)∧some k_ ≠ (xL:Value).ownBlock)) (n:=t114.length) (c:=Ef) ?_).2.2;exact (by (with_reducible repeat (first|apply Kd.Ta|apply Kd.Ua|apply Kd.Za));exact (Kd.yc (Kd.Bc (p:=⟨Jc,3,none⟩) (Kd.Bc (p:=⟨Jc,2,none⟩) (Kd.Bc (p:=⟨Jc,1,none⟩) (Kd.Bc (p:=⟨Jc,0,none⟩) (Kd.Ce Bd.out Ac.out (by decide)) (fun _ hk=>hk.2) (.slice Hf t114.length Ef)) (fun _ hk=>hk.2) (.int .i64 t117)) (fun _ hk=>hk.2) (.int .i64 t118)) (fun _ hk=>hk.2) (.slice Eg t119.length zg)) (fun _ h_=>h_.1))));(case Yb=>exact (Kd.Bb Bd.out).2.1);(case Uc=>refine (Kd.Bb (e:=67) (base:=w.heap.size) (ok:=fun k_=>(True∧some k_ ≠ (.slice uu t108.length ju:Value).ownBlock)) (n:=t119.length) (c:=zg) ?_).2.2;exact (by (with_reducible repeat (first|apply Kd.Ta|apply Kd.Ua|apply Kd.Za));exact (Kd.yc (Kd.Bc (p:=⟨Jc,3,none⟩) (Kd.Bc (p:=⟨Jc,2,none⟩) (Kd.Bc (p:=⟨Jc,1,none⟩) (Kd.Bc (p:=⟨Jc,0,none⟩) (Kd.Ce Ad.out Ac.out (by decide)) (fun _ hk=>hk.2) (.slice Hf t114.length Ef)) (fun _ hk=>hk.2) (.int .i64 t117)) (fun _ hk=>hk.2) (.int .i64 t118)) (fun _ hk=>hk.2) (.slice Eg t119.length zg)) (fun _ h_=>h_.1))));(case Xc=>exact (Kd.Bb Ad.out).2.1);rintro e Pv ⟨v124,rfl,Yf,hb⟩;refine ⟨_,rfl,?_⟩;have Nb:=ga.mk (Kd.Sc (by (with_reducible repeat (first|apply Kd.Ta|apply Kd.Ua|apply Kd.Za));exact (Kd.yc (Kd.Bc (p:=⟨Jc,3,none⟩) (Kd.Bc (p:=⟨Jc,2,none⟩) (Kd.Bc (p:=⟨Jc,1,none⟩) (Kd.Bc (p:=⟨Jc,0,none⟩) (Kd.Ce qd.out Ac.out (by decide)) (fun _ hk=>hk.2) (.slice Hf t114.length Ef)) (fun _ hk=>hk.2) (.int .i64 t117)) (fun _ hk=>hk.2) (.int .i64 t118)) (fun _ hk=>hk.2) (.slice Eg t119.length zg)) (fun _ h_=>h_.1))) (Kd.Ud Yf) hb);have Qb:=ga.mk (Kd.Qc (by (with_reducible repeat (first|apply Kd.Ta|apply Kd.Ua|apply Kd.Za));exact (Kd.yc (Kd.Bc (p:=⟨Jc,3,none⟩) (Kd.Bc (p:=⟨Jc,2,none⟩) (Kd.Bc (p:=⟨Jc,1,none⟩) (Kd.Bc (p:=⟨Jc,0,none⟩) (Kd.Ce Ld.out Ac.out (by decide)) (fun _ hk=>hk.2) (.slice Hf t114.length Ef)) (fun _ hk=>hk.2) (.int .i64 t117)) (fun _ hk=>hk.2) (.int .i64 t118)) (fun _ hk=>hk.2) (.slice Eg t119.length zg)) (fun _ h_=>h_.1))) hb);have fc:=ga.mk (Kd.Sc (by (with_reducible repeat (first|apply Kd.Ta|apply Kd.Ua|apply Kd.Za));exact (Kd.yc (Kd.Bc (p:=⟨Jc,3,none⟩) (Kd.Bc (p:=⟨Jc,2,none⟩) (Kd.Bc (p:=⟨Jc,1,none⟩) (Kd.Bc (p:=⟨Jc,0,none⟩) (Kd.Ce xd.out Ac.out (by decide)) (fun _ hk=>hk.2) (.slice Hf t114.length Ef)) (fun _ hk=>hk.2) (.int .i64 t117)) (fun _ hk=>hk.2) (.int .i64 t118)) (fun _ hk=>hk.2) (.slice Eg t119.length zg)) (fun _ h_=>h_.1))) (Kd.Ud Yf) hb);have Ec:=ga.mk (Kd.Sc (by (with_reducible repeat (first|apply Kd.Ta|apply Kd.Ua|apply Kd.Za));exact (Kd.yc (Kd.Bc (p:=⟨Jc,3,none⟩) (Kd.Bc (p:=⟨Jc,2,none⟩) (Kd.Bc (p:=⟨Jc,1,none⟩) (Kd.Bc (p:=⟨Jc,0,none⟩) (Kd.Ce Bd.out Ac.out (by decide)) (fun _ hk=>hk.2) (.slice Hf t114.length Ef)) (fun _ hk=>hk.2) (.int .i64 t117)) (fun _ hk=>hk.2) (.int .i64 t118)) (fun _ hk=>hk.2) (.slice Eg t119.length zg)) (fun _ h_=>h_.1))) (Kd.Ud Yf) hb);have fe:=ga.mk (Kd.Qc (by (with_reducible repeat (first|apply Kd.Ta|apply Kd.Ua|apply Kd.Za));exact (Kd.yc (Kd.Bc (p:=⟨Jc,3,none⟩) (Kd.Bc (p:=⟨Jc,2,none⟩) (Kd.Bc (p:=⟨Jc,1,none⟩) (Kd.Bc (p:=⟨Jc,0,none⟩) (Kd.Ce Ad.out Ac.out (by decide)) (fun _ hk=>hk.2) (.slice Hf t114.length Ef)) (fun _ hk=>hk.2) (.int .i64 t117)) (fun _ hk=>hk.2) (.int .i64 t118)) (fun _ hk=>hk.2) (.slice Eg t119.length zg)) (fun _ h_=>h_.1))) hb);have ze:=ga.mk (Kd.ee (Kd.Wd (Kd.Wd (Kd.Wd Yf (Kd.Ig (by (with_reducible repeat (first|apply Kd.Ta|apply Kd.Ua|apply Kd.Za));exact (Kd.yc (Kd.Bc (p:=⟨Jc,3,none⟩) (Kd.Bc (p:=⟨Jc,2,none⟩) (Kd.Bc (p:=⟨Jc,1,none⟩) (Kd.Bc (p:=⟨Jc,0,none⟩) (Kd.Ce qd.out Ac.out (by decide)) (fun _ hk=>hk.2) (.slice Hf t114.length Ef)) (fun _ hk=>hk.2) (.int .i64 t117)) (fun _ hk=>hk.2) (.int .i64 t118)) (fun _ hk=>hk.2) (.slice Eg t119.length zg)) (fun _ h_=>h_.1))))) (Kd.Ig (by (with_reducible repeat (first|apply Kd.Ta|apply Kd.Ua|apply Kd.Za));exact (Kd.yc (Kd.Bc (p:=⟨Jc,3,none⟩) (Kd.Bc (p:=⟨Jc,2,none⟩) (Kd.Bc (p:=⟨Jc,1,none⟩) (Kd.Bc (p:=⟨Jc,0,none⟩) (Kd.Ce xd.out Ac.out (by decide)) (fun _ hk=>hk.2) (.slice Hf t114.length Ef)) (fun _ hk=>hk.2) (.int .i64 t117)) (fun _ hk=>hk.2) (.int .i64 t118)) (fun _ hk=>hk.2) (.slice Eg t119.length zg)) (fun _ h_=>h_.1))))) (Kd.Ig (by (with_reducible repeat (first|apply Kd.Ta|apply Kd.Ua|apply Kd.Za));exact (Kd.yc (Kd.Bc (p:=⟨Jc,3,none⟩) (Kd.Bc (p:=⟨Jc,2,none⟩) (Kd.Bc (p:=⟨Jc,1,none⟩) (Kd.Bc (p:=⟨Jc,0,none⟩) (Kd.Ce Bd.out Ac.out (by decide)) (fun _ hk=>hk.2) (.slice Hf t114.length Ef)) (fun _ hk=>hk.2) (.int .i64 t117)) (fun _ hk=>hk.2) (.int .i64 t118)) (fun _ hk=>hk.2) (.slice Eg t119.length zg)) (fun _ h_=>h_.1))))) (Ja (by repeat (first|(with_reducible first|exact HB.out|apply ia|apply aa|apply oa|refine ta ?_ Sa.out|refine ta ?_ Rg.out)|exact HB.out))));have De:=ga.mk (mb (g:=Ba) (o:=.cells #[.slice zb Na.length yb,.int .i64 La,.int .i64 Ma,.slice Eb Ea.length Ab] 25 (0,0)) (by (with_reducible repeat (first|refine za ?_ _|refine Ca ?_|refine Aa ?_ _));refine Wc ?_ Ei.out _;(with_reducible repeat (first|refine za ?_ _|refine Ca ?_|refine Aa ?_ _));refine Wc ?_ Ei.out _;(with_reducible repeat (first|refine za ?_ _|refine Ca ?_|refine Aa ?_ _));refine Wc ?_ Ei.out _;(with_reducible repeat (first|refine za ?_ _|refine Ca ?_|refine Aa ?_ _));refine Wc ?_ Ei.out _;(with_reducible repeat (first|refine za ?_ _|refine Ca ?_|refine Aa ?_ _));exact ua.out) hb);have Ih:=ga.mk (mb (g:=Jc) (o:=.cells #[.slice Hf t114.length Ef,.int .i64 t117,.int .i64 t118,.slice Eg t119.length zg] 30 (0,0)) (by (with_reducible repeat (first|refine za ?_ _|refine Ca ?_|refine Aa ?_ _));refine Ed (cs:=#[.slice Hf t114.length Ef,.int .i64 t117,.int .i64 t118,.slice none 0 0]) ?_ 3 _ rfl;(with_reducible repeat (first|refine za ?_ _|refine Ca ?_|refine Aa ?_ _));refine Ed (cs:=#[.slice Hf t114.length Ef,.int .i64 t117,.int .i64 0,.slice none 0 0]) ?_ 2 _ rfl;(with_reducible repeat (first|refine za ?_ _|refine Ca ?_|refine Aa ?_ _));refine Ed (cs:=#[.slice Hf t114.length Ef,.int .i64 0,.int .i64 0,.slice none 0 0]) ?_ 1 _ rfl;(with_reducible repeat (first|refine za ?_ _|refine Ca ?_|refine Aa ?_ _));refine Ed (cs:=#[.slice none 0 0,.int .i64 0,.int .i64 0,.slice none 0 0]) ?_ 0 _ rfl;(with_reducible repeat (first|refine za ?_ _|refine Ca ?_|refine Aa ?_ _));exact Ac.out) hb);have wj:=ga.mk (Ra (by repeat (first|(with_reducible first|exact HB.out|apply ia|apply aa|apply oa|refine ta ?_ Sa.out|refine ta ?_ Rg.out)|exact HB.out)) hb);clear qd Ld xd Bd Ad ua Ac HB;have qd:=Nb;have Ld:=Qb;have xd:=fc;have Bd:=Ec;have Ad:=fe;have td:=ze;have ua:=De;have Ac:=Ih;have HB:=wj;clear Nb Qb fc Ec fe ze De Ih wj;(try clear hb);(try clear Ak);(try clear hk);(try clear hi);(try clear Yf);obtain ⟨Gj,Ej,FM⟩:=Kd.Vd td.out;subst FM;obtain ⟨Dn,zn,EM⟩:=Kd.Vd xd.out;subst EM)|((with_reducible refine jb (f:=17) rfl ?_);refine Lc (some 25) rfl rfl Try.func17 (by kernel_rfl) rfl #[.slice Gj t123.length Ej,.slice Dn t111.length zn] rfl (by (try simp only [List.map_toArray,List.map_cons,List.map_nil]);first|done|rfl|(simp only [List.length_drop,List.length_take];rfl)) ?_;(with_reducible refine (Xa.calls k _ _ t123 _ _ t111 true _ ?Zb ?Yb ?Uc ?Xc DE.out).mono ?_);(case Zb=>repeat (first|exact (Kd.Bb td.out).2.2|(with_reducible refine Kd.Lb ?_ _)|(with_reducible refine Kd.Kb ?_ _)|(with_reducible refine Kd.ec ?_)));(case Yb=>exact (Kd.Bb td.out).2.1);(case Uc=>repeat (first|exact (Kd.Bb xd.out).2.2|(with_reducible refine Kd.Lb ?_ _)|(with_reducible refine Kd.Kb ?_ _)|(with_reducible refine Kd.ec ?_)));(case Xc=>exact (Kd.Bb xd.out).2.1);rintro e w' ⟨rfl,⟨nd,rfl⟩⟩;refine ⟨_,rfl,?_⟩))
           (try (rw [gu Pv];generalize Ky:World.drewN Pv _=Pv;have Nb:ga (Kd.R (Kd.int .i64) 3 Pv w.heap.size (fun k_=>(((True∧some k_ ≠ (.slice Dn t111.length zn:Value).ownBlock)∧some k_ ≠ (.slice Hf t114.length Ef:Value).ownBlock)∧some k_ ≠ (.slice Gj t123.length Ej:Value).ownBlock)) (.slice En t103.length Bn) t103):=⟨by rw [← Ky];exact (by (with_reducible repeat (first|apply Kd.Ta|apply Kd.Ua|apply Kd.Za));exact qd.out)⟩;have Qb:ga (Kd.R ug 67 Pv w.heap.size (fun k_=>(True∧some k_ ≠ (.slice Eg t119.length zg:Value).ownBlock)) (.slice uu t108.length ju) t108):=⟨by rw [← Ky];exact (by (with_reducible repeat (first|apply Kd.Ta|apply Kd.Ua|apply Kd.Za));exact Ld.out)⟩;have fc:ga (Kd.R (Kd.int .i64) 3 Pv w.heap.size (fun k_=>(((True∧some k_ ≠ (.slice En t103.length Bn:Value).ownBlock)∧some k_ ≠ (.slice Hf t114.length Ef:Value).ownBlock)∧some k_ ≠ (.slice Gj t123.length Ej:Value).ownBlock)) (.slice Dn t111.length zn) t111):=⟨by rw [← Ky];exact (by (with_reducible repeat (first|apply Kd.Ta|apply Kd.Ua|apply Kd.Za));exact xd.out)⟩;have Ec:ga (Kd.R (Kd.int .i64) 3 Pv w.heap.size (fun k_=>(((True∧some k_ ≠ (.slice En t103.length Bn:Value).ownBlock)∧some k_ ≠ (.slice Dn t111.length zn:Value).ownBlock)∧some k_ ≠ (.slice Gj t123.length Ej:Value).ownBlock)) (.slice Hf t114.length Ef) t114):=⟨by rw [← Ky];exact (by (with_reducible repeat (first|apply Kd.Ta|apply Kd.Ua|apply Kd.Za));exact Bd.out)⟩;have fe:ga (Kd.R ug 67 Pv w.heap.size (fun k_=>(True∧some k_ ≠ (.slice uu t108.length ju:Value).ownBlock)) (.slice Eg t119.length zg) t119):=⟨by rw [← Ky];exact (by (with_reducible repeat (first|apply Kd.Ta|apply Kd.Ua|apply Kd.Za));exact Ad.out)⟩;have ze:ga (Kd.R (Kd.int .i64) 3 Pv w.heap.size (fun k_=>(((True∧some k_ ≠ (.slice En t103.length Bn:Value).ownBlock)∧some k_ ≠ (.slice Dn t111.length zn:Value).ownBlock)∧some k_ ≠ (.slice Hf t114.length Ef:Value).ownBlock)) (.slice Gj t123.length Ej) t123):=⟨by rw [← Ky];exact (by (with_reducible repeat (first|apply Kd.Ta|apply Kd.Ua|apply Kd.Za));exact td.out)⟩;have De:ga (Pv.heap[Ba]? = some (.cells #[.slice zb Na.length yb,.int .i64 La,.int .i64 Ma,.slice Eb Ea.length Ab] 25 (0,0))):=⟨by rw [← Ky];exact (by (with_reducible repeat (first|refine za ?_ _|refine Ca ?_|refine Aa ?_ _));exact ua.out)⟩;have Ih:ga (Pv.heap[Jc]? = some (.cells #[.slice Hf t114.length Ef,.int .i64 t117,.int .i64 t118,.slice Eg t119.length zg] 30 (0,0))):=⟨by rw [← Ky];exact (by (with_reducible repeat (first|refine za ?_ _|refine Ca ?_|refine Aa ?_ _));exact Ac.out)⟩;have wj:ga (Below w.heap.size w Pv):=⟨by rw [← Ky];exact (by repeat (first|(with_reducible first|exact HB.out|apply ia|apply aa|apply oa|refine ta ?_ Sa.out|refine ta ?_ Rg.out)|exact HB.out))⟩;clear qd Ld xd Bd Ad td ua Ac HB Ky;have qd:=Nb;have Ld:=Qb;have xd:=fc;have Bd:=Ec;have Ad:=fe;have td:=ze;have ua:=De;have Ac:=Ih;have HB:=wj;clear Nb Qb fc Ec fe ze De Ih wj));have Nb:=ga.mk (Kd.Za qd.out);have Qb:=ga.mk (Kd.Za Ld.out);have fc:=ga.mk (Kd.Za xd.out);have Ec:=ga.mk (Kd.Za Bd.out);have fe:=ga.mk (Kd.Za Ad.out);have ze:=ga.mk (Kd.Za td.out);have De:=ga.mk (Ca ua.out);have Ih:=ga.mk (Ca Ac.out);have wj:=ga.mk (oa HB.out);clear qd Ld xd Bd Ad td ua Ac HB;have qd:=Nb;have Ld:=Qb;have xd:=fc;have Bd:=Ec;have Ad:=fe;have td:=ze;have ua:=De;have Ac:=Ih;have HB:=wj;clear Nb Qb fc Ec fe ze De Ih wj;refine sk (n:=5) (S:=fun w'=>w'.cell? ⟨Jc,0,none⟩=some (.slice Hf t114.length Ef)∧w'.cell? ⟨Jc,1,none⟩=some (.int .i64 t117)∧w'.cell? ⟨Jc,2,none⟩=some (.int .i64 t118)∧w'.cell? ⟨Jc,3,none⟩=some (.slice Eg t119.length zg)∧w'.cell? ⟨Ba,0,none⟩=some (.slice zb Na.length yb)∧w'.cell? ⟨Ba,1,none⟩=some (.int .i64 La)∧w'.cell? ⟨Ba,2,none⟩=some (.int .i64 Ma)∧w'.cell? ⟨Ba,3,none⟩=some (.slice Eb Ea.length Ab)) (ds:=[]) #[false,false,false,false,false] (by kernel_rfl) rfl rfl ⟨(qa Ac.out 0).trans rfl,(qa Ac.out 1).trans rfl,(qa Ac.out 2).trans rfl,(qa Ac.out 3).trans rfl,(qa ua.out 0).trans rfl,(qa ua.out 1).trans rfl,(qa ua.out 2).trans rfl,(qa ua.out 3).trans rfl⟩ (fun hHeld=>?_);generalize Pv.drew=sS at qd Ld xd Bd Ad td ua Ac HB hHeld ⊢;refine Fh (i:=0) (N:=some 27) (v:=?_) (a':=?_) #[true,false,false,false,false] rfl rfl (by kernel_rfl) (fun _ _ _ h=>h) (Or.inl ⟨by rfl,?_⟩) hHeld ?_ ?_;rotate_left
           ·rintro w' ⟨s0,s1,s2,s3,s4,s5,s6,s7⟩;go_simp;with_reducible rfl
           rotate_left
           ·simp only [Act.put,List.setIfInBounds_toArray,List.set_cons_zero,List.set_cons_succ,Tb,Vb]
            rfl
           refine Fh (i:=1) (N:=some 28) (v:=?_) (a':=?_) #[true,true,false,false,false] rfl rfl (by kernel_rfl) (fun _ _ _ h=>h) (Or.inl ⟨by rfl,?_⟩) hHeld ?_ ?_;rotate_left
           ·rintro w' ⟨s0,s1,s2,s3,s4,s5,s6,s7⟩;go_simp;with_reducible rfl
           rotate_left
           ·simp only [Act.put,List.setIfInBounds_toArray,List.set_cons_zero,List.set_cons_succ,Tb,Vb]
            rfl
           refine nj (i:=2) (N:=some 29) #[true,true,true,false,false] rfl rfl (by kernel_rfl) (by decide) (fun K hK=>?_);refine Lp Try.func15 (by kernel_rfl) rfl #[.agg #[.slice zb Na.length yb,.int .i64 La,.int .i64 Ma,.slice Eb Ea.length Ab]] (by rfl) rfl rfl (by (try simp only [List.map_toArray,List.map_cons,List.map_nil]);first|done|rfl|(simp only [List.length_drop,List.length_take];rfl)) ?_;with_reducible refine (gb.calls k _ _ Na La Ma _ _ Ea t127 t130 t131 t132 _ ?Zb ?Yb ?Uc ?Xc kH.out).mono ?_
           (case Zb=>repeat (first|exact (Kd.Fb Be.out HB.out)|(with_reducible refine Kd.Lb ?_ _)|(with_reducible refine Kd.Kb ?_ _)|(with_reducible refine Kd.ec ?_)))
           (case Yb=>exact Te.out)
           (case Uc=>repeat (first|exact (Kd.Fb Yd.out HB.out)|(with_reducible refine Kd.Lb ?_ _)|(with_reducible refine Kd.Kb ?_ _)|(with_reducible refine Kd.ec ?_)))
           (case Xc=>exact Ff.out)
           rintro e rS ⟨MQ,LQ,rfl,Yf,Dr,hb⟩;refine ⟨_,rfl,?_⟩;have Nb:=ga.mk (Kd.Sc (by (with_reducible repeat (first|apply Kd.Ta|apply Kd.Ua|apply Kd.Za));exact qd.out) (Kd.Ud Yf) hb);have Qb:=ga.mk (Kd.Sc (by (with_reducible repeat (first|apply Kd.Ta|apply Kd.Ua|apply Kd.Za));exact Ld.out) (Kd.Ud Dr) hb);have fc:=ga.mk (Kd.Sc (by (with_reducible repeat (first|apply Kd.Ta|apply Kd.Ua|apply Kd.Za));exact xd.out) (Kd.Ud Yf) hb);have Ec:=ga.mk (Kd.Sc (by (with_reducible repeat (first|apply Kd.Ta|apply Kd.Ua|apply Kd.Za));exact Bd.out) (Kd.Ud Yf) hb);have fe:=ga.mk (Kd.Sc (by (with_reducible repeat (first|apply Kd.Ta|apply Kd.Ua|apply Kd.Za));exact Ad.out) (Kd.Ud Dr) hb);have ze:=ga.mk (Kd.Sc (by (with_reducible repeat (first|apply Kd.Ta|apply Kd.Ua|apply Kd.Za));exact td.out) (Kd.Ud Yf) hb);have De:=ga.mk (Kd.ee (Kd.Wd (Kd.Wd (Kd.Wd (Kd.Wd Yf (Kd.Ig (by (with_reducible repeat (first|apply Kd.Ta|apply Kd.Ua|apply Kd.Za));exact qd.out))) (Kd.Ig (by (with_reducible repeat (first|apply Kd.Ta|apply Kd.Ua|apply Kd.Za));exact xd.out))) (Kd.Ig (by (with_reducible repeat (first|apply Kd.Ta|apply Kd.Ua|apply Kd.Za));exact Bd.out))) (Kd.Ig (by (with_reducible repeat (first|apply Kd.Ta|apply Kd.Ua|apply Kd.Za));exact td.out))) (Ja (by repeat (first|(with_reducible first|exact HB.out|apply ia|apply aa|apply oa|refine ta ?_ Sa.out|refine ta ?_ Rg.out)|exact HB.out))));have Ih:=ga.mk (Kd.ee (Kd.Wd (Kd.Wd Dr (Kd.Ig (by (with_reducible repeat (first|apply Kd.Ta|apply Kd.Ua|apply Kd.Za));exact Ld.out))) (Kd.Ig (by (with_reducible repeat (first|apply Kd.Ta|apply Kd.Ua|apply Kd.Za));exact Ad.out))) (Ja (by repeat (first|(with_reducible first|exact HB.out|apply ia|apply aa|apply oa|refine ta ?_ Sa.out|refine ta ?_ Rg.out)|exact HB.out))));have wj:=ga.mk (mb (g:=Ba) (o:=.cells #[.slice zb Na.length yb,.int .i64 La,.int .i64 Ma,.slice Eb Ea.length Ab] 25 (0,0)) (by (with_reducible repeat (first|refine za ?_ _|refine Ca ?_|refine Aa ?_ _));exact ua.out) hb);have Zm:=ga.mk (mb (g:=Jc) (o:=.cells #[.slice Hf t114.length Ef,.int .i64 t117,.int .i64 t118,.slice Eg t119.length zg] 30 (0,0)) (by (with_reducible repeat (first|refine za ?_ _|refine Ca ?_|refine Aa ?_ _));exact Ac.out) hb);have ni:=ga.mk (Ra (by repeat (first|(with_reducible first|exact HB.out|apply ia|apply aa|apply oa|refine ta ?_ Sa.out|refine ta ?_ Rg.out)|exact HB.out)) hb);clear qd Ld xd Bd Ad td ua Ac HB;have qd:=Nb;have Ld:=Qb;have xd:=fc;have Bd:=Ec;have Ad:=fe;have td:=ze;have xg:=De;have Dg:=Ih;have ua:=wj;have Ac:=Zm;have HB:=ni;clear Nb Qb fc Ec fe ze De Ih wj Zm ni;(try clear hb);(try clear Ak);(try clear hk);(try clear hi);(try clear Yf);(try clear Dr);obtain ⟨tu,iu,TF⟩:=Kd.Vd xg.out;(first|subst TF|(injection TF with PF yM NF;have xM:=PF.symm;have wM:=NF.symm;clear PF yM NF;subst xM;subst wM));obtain ⟨uB,jB,SF⟩:=Kd.Vd Dg.out;(first|subst SF|(injection SF with PF yM NF;have xM:=PF.symm;have wM:=NF.symm;clear PF yM NF;subst xM;subst wM));refine hK.out _ _ ⟨(qa Ac.out 0).trans rfl,(qa Ac.out 1).trans rfl,(qa Ac.out 2).trans rfl,(qa Ac.out 3).trans rfl,(qa ua.out 0).trans rfl,(qa ua.out 1).trans rfl,(qa ua.out 2).trans rfl,(qa ua.out 3).trans rfl⟩ (fun hHeld=>?_);clear hK K;refine je (a':=?_) ?_ ?_;rotate_left
           ·show Act.put _ (some 29) _=_
            simp only [Act.put,List.setIfInBounds_toArray,List.set_cons_zero,List.set_cons_succ,Tb,Vb]
            rfl
           refine nj (i:=3) (N:=some 30) #[true,true,true,true,false] rfl rfl (by kernel_rfl) (by decide) (fun K hK=>?_);refine Lp Try.func18 (by kernel_rfl) rfl #[.agg #[.slice Hf t114.length Ef,.int .i64 t117,.int .i64 t118,.slice Eg t119.length zg],.agg #[.slice tu t127.length iu,.int .i64 t130,.int .i64 t131,.slice uB t132.length jB]] (by rfl) rfl rfl (by (try simp only [List.map_toArray,List.map_cons,List.map_nil]);first|done|rfl|(simp only [List.length_drop,List.length_take];rfl)) ?_;with_reducible refine (Vc.calls k _ _ t114 t117 t118 _ _ t119 _ _ t127 t130 t131 _ _ t132 true _ ?Zb ?Yb ?Uc ?Xc ?QE ?PE ?OE ?ME pL.out).mono ?_
           (case Zb=>repeat (first|exact (Kd.Bb Bd.out).2.2|(with_reducible refine Kd.Lb ?_ _)|(with_reducible refine Kd.Kb ?_ _)|(with_reducible refine Kd.ec ?_)))
           (case Yb=>exact (Kd.Bb Bd.out).2.1)
           (case Uc=>repeat (first|exact (Kd.Bb Ad.out).2.2|(with_reducible refine Kd.Lb ?_ _)|(with_reducible refine Kd.Kb ?_ _)|(with_reducible refine Kd.ec ?_)))
           (case Xc=>exact (Kd.Bb Ad.out).2.1)
           (case QE=>repeat (first|exact (Kd.Bb xg.out).2.2|(with_reducible refine Kd.Lb ?_ _)|(with_reducible refine Kd.Kb ?_ _)|(with_reducible refine Kd.ec ?_)))
           (case PE=>exact (Kd.Bb xg.out).2.1)
           (case OE=>repeat (first|exact (Kd.Bb Dg.out).2.2|(with_reducible refine Kd.Lb ?_ _)|(with_reducible refine Kd.Kb ?_ _)|(with_reducible refine Kd.ec ?_)))
           (case ME=>exact (Kd.Bb Dg.out).2.1)
           rintro e nH ⟨rfl,hb⟩;refine ⟨_,rfl,?_⟩;have Nb:=ga.mk (Kd.Qc (by (with_reducible repeat (first|apply Kd.Ta|apply Kd.Ua|apply Kd.Za));exact qd.out) hb);have Qb:=ga.mk (Kd.Qc (by (with_reducible repeat (first|apply Kd.Ta|apply Kd.Ua|apply Kd.Za));exact Ld.out) hb);have fc:=ga.mk (Kd.Qc (by (with_reducible repeat (first|apply Kd.Ta|apply Kd.Ua|apply Kd.Za));exact xd.out) hb);have Ec:=ga.mk (Kd.Qc (by (with_reducible repeat (first|apply Kd.Ta|apply Kd.Ua|apply Kd.Za));exact Bd.out) hb);have fe:=ga.mk (Kd.Qc (by (with_reducible repeat (first|apply Kd.Ta|apply Kd.Ua|apply Kd.Za));exact Ad.out) hb);have ze:=ga.mk (Kd.Qc (by (with_reducible repeat (first|apply Kd.Ta|apply Kd.Ua|apply Kd.Za));exact td.out) hb);have De:=ga.mk (Kd.Qc (by (with_reducible repeat (first|apply Kd.Ta|apply Kd.Ua|apply Kd.Za));exact xg.out) hb);have Ih:=ga.mk (Kd.Qc (by (with_reducible repeat (first|apply Kd.Ta|apply Kd.Ua|apply Kd.Za));exact Dg.out) hb);have wj:=ga.mk (mb (g:=Ba) (o:=.cells #[.slice zb Na.length yb,.int .i64 La,.int .i64 Ma,.slice Eb Ea.length Ab] 25 (0,0)) (by (with_reducible repeat (first|refine za ?_ _|refine Ca ?_|refine Aa ?_ _));exact ua.out) hb);have Zm:=ga.mk (mb (g:=Jc) (o:=.cells #[.slice Hf t114.length Ef,.int .i64 t117,.int .i64 t118,.slice Eg t119.length zg] 30 (0,0)) (by (with_reducible repeat (first|refine za ?_ _|refine Ca ?_|refine Aa ?_ _));exact Ac.out) hb);have ni:=ga.mk (Ra (by repeat (first|(with_reducible first|exact HB.out|apply ia|apply aa|apply oa|refine ta ?_ Sa.out|refine ta ?_ Rg.out)|exact HB.out)) hb);clear qd Ld xd Bd Ad td xg Dg ua Ac HB;have qd:=Nb;have Ld:=Qb;have xd:=fc;have Bd:=Ec;have Ad:=fe;have td:=ze;have xg:=De;have Dg:=Ih;have ua:=wj;have Ac:=Zm;have HB:=ni;clear Nb Qb fc Ec fe ze De Ih wj Zm ni;(try clear hb);(try clear Ak);(try clear hk);(try clear hi);refine hK.out _ _ ⟨(qa Ac.out 0).trans rfl,(qa Ac.out 1).trans rfl,(qa Ac.out 2).trans rfl,(qa Ac.out 3).trans rfl,(qa ua.out 0).trans rfl,(qa ua.out 1).trans rfl,(qa ua.out 2).trans rfl,(qa ua.out 3).trans rfl⟩ (fun hHeld=>?_);clear hK K;refine je (a':=?_) ?_ ?_;rotate_left
           ·show Act.put _ (some 30) _=_
            simp only [Act.put,List.setIfInBounds_toArray,List.set_cons_zero,List.set_cons_succ,Tb,Vb]
            rfl
           refine Sd (i:=4) (N:=some 31) (v:=?_) (a':=?_) #[true,true,true,true,true] rfl rfl (by kernel_rfl) (fun _ _ _ h=>h) (Or.inl ⟨by rfl,?_⟩) ?_ ?_;rotate_left
           ·intro w';go_simp;with_reducible rfl
           rotate_left
           ·simp only [Act.put,List.setIfInBounds_toArray,List.set_cons_zero,List.set_cons_succ,Tb,Vb]
            rfl
           refine Oo (by kernel_rfl) ?_;have fK:nH.cell? ⟨Jc,0,none⟩=some (.slice Hf t114.length Ef):=(qa Ac.out 0).trans rfl;have dK:nH.cell? ⟨Jc,1,none⟩=some (.int .i64 t117):=(qa Ac.out 1).trans rfl;have cK:nH.cell? ⟨Jc,2,none⟩=some (.int .i64 t118):=(qa Ac.out 2).trans rfl;have bK:nH.cell? ⟨Jc,3,none⟩=some (.slice Eg t119.length zg):=(qa Ac.out 3).trans rfl;have rI:=ja Ac.out 0;have qI:=ja Ac.out 1;have pI:=ja Ac.out 2;have oI:=ja Ac.out 3
           try go_wp2_with (first|((with_reducible refine jb (f:=19) rfl ?_);refine Lc (some 34) rfl rfl Try.func19 (by kernel_rfl) rfl #[.agg #[.slice Hf t114.length Ef,.int .i64 t117,.int .i64 t118,.slice Eg t119.length zg],.int .i64 1] rfl (by (try simp only [List.map_toArray,List.map_cons,List.map_nil]);first|done|rfl|(simp only [List.length_drop,List.length_take];rfl)) ?_;(with_reducible refine (qc.calls k (fun k_=>some k_=(.slice Hf t114.length Ef:Value).ownBlock) (.slice Hf t114.length Ef) t114 t117 t118 (fun k_=>some k_=(.slice Eg t119.length zg:Value).ownBlock) (.slice Eg t119.length zg) t119 1 t136 t137 t138 w _ ?Zb ?Yb ?Uc iN.out).mono ?_);(case Zb=>repeat (first|(with_reducible first|exact HB.out|apply ia|apply aa|apply oa|refine ta ?_ Sa.out|refine ta ?_ Rg.out)|exact HB.out));(case Yb=>exact Kd.pg rfl Bd.out);(case Uc=>exact Kd.pg rfl Ad.out);rintro e pS ⟨rfl,hy0,hy1,hb,hkp⟩;refine ⟨_,rfl,?_⟩;have Nb:=ga.mk (Pg (by (with_reducible repeat (first|refine za ?_ _|refine Ca ?_|refine Aa ?_ _));exact ua.out) hkp (fun hs_=>Or.elim hs_ (fun e_=>(fun e_=>(Kd.jm Bd.out ua.out (by decide)) e_) e_) (fun e_=>(fun e_=>(Kd.jm Ad.out ua.out (by decide)) e_) e_)));have Qb:=ga.mk (Kd.yc (qj:=fun k_=>some k_ ≠ (.slice Dn t111.length zn:Value).ownBlock∧some k_ ≠ (.slice Hf t114.length Ef:Value).ownBlock∧some k_ ≠ (.slice Gj t123.length Ej:Value).ownBlock∧some k_ ≠ (.slice tu t127.length iu:Value).ownBlock) (Kd.uf ((Kd.Xf qd.out (Kd.Cg Ad.out) (by decide))) hkp (fun k_ ye hs_=>Or.elim hs_ (fun e_=>(ye.1.1.1.2) e_) (fun e_=>(ye.2) e_))) (fun k_ ye=>⟨ye.1.1.1.1.1.2,ye.1.1.1.1.2,ye.1.1.1.2,ye.1.1.2⟩));have fc:=ga.mk (Kd.yc (qj:=fun k_=>some k_ ≠ (.slice Eg t119.length zg:Value).ownBlock∧some k_ ≠ (.slice uB t132.length jB:Value).ownBlock) (Kd.uf ((Kd.Xf Ld.out (Kd.Cg Bd.out) (by decide))) hkp (fun k_ ye hs_=>Or.elim hs_ (fun e_=>(ye.2) e_) (fun e_=>(ye.1.1.2) e_))) (fun k_ ye=>⟨ye.1.1.1.2,ye.1.1.2⟩));have Ec:=ga.mk (Kd.yc (qj:=fun k_=>some k_ ≠ (.slice En t103.length Bn:Value).ownBlock∧some k_ ≠ (.slice Hf t114.length Ef:Value).ownBlock∧some k_ ≠ (.slice Gj t123.length Ej:Value).ownBlock∧some k_ ≠ (.slice tu t127.length iu:Value).ownBlock) (Kd.uf ((Kd.Xf xd.out (Kd.Cg Ad.out) (by decide))) hkp (fun k_ ye hs_=>Or.elim hs_ (fun e_=>(ye.1.1.1.2) e_) (fun e_=>(ye.2) e_))) (fun k_ ye=>⟨ye.1.1.1.1.1.2,ye.1.1.1.1.2,ye.1.1.1.2,ye.1.1.2⟩));have fe:=ga.mk (Kd.Yo rfl hy0 (fun k_ e_=>Bd.out.1 k_ e_));have ze:=ga.mk (Kd.Yo rfl hy1 (fun k_ e_=>Ad.out.1 k_ e_));have De:=ga.mk (Pg (by (with_reducible repeat (first|refine za ?_ _|refine Ca ?_|refine Aa ?_ _));exact Ac.out) hkp (fun hs_=>Or.elim hs_ (fun e_=>(fun e_=>(Kd.jm Bd.out Ac.out (by decide)) e_) e_) (fun e_=>(fun e_=>(Kd.jm Ad.out Ac.out (by decide)) e_) e_)));have Ih:=ga.mk (Kd.yc (qj:=fun k_=>some k_ ≠ (.slice En t103.length Bn:Value).ownBlock∧some k_ ≠ (.slice Dn t111.length zn:Value).ownBlock∧some k_ ≠ (.slice Hf t114.length Ef:Value).ownBlock∧some k_ ≠ (.slice tu t127.length iu:Value).ownBlock) (Kd.uf ((Kd.Xf td.out (Kd.Cg Ad.out) (by decide))) hkp (fun k_ ye hs_=>Or.elim hs_ (fun e_=>(ye.1.1.2) e_) (fun e_=>(ye.2) e_))) (fun k_ ye=>⟨ye.1.1.1.1.1.2,ye.1.1.1.1.2,ye.1.1.1.2,ye.1.1.2⟩));have wj:=ga.mk (Kd.yc (qj:=fun k_=>some k_ ≠ (.slice En t103.length Bn:Value).ownBlock∧some k_ ≠ (.slice Dn t111.length zn:Value).ownBlock∧some k_ ≠ (.slice Hf t114.length Ef:Value).ownBlock∧some k_ ≠ (.slice Gj t123.length Ej:Value).ownBlock) (Kd.uf ((Kd.Xf xg.out (Kd.Cg Ad.out) (by decide))) hkp (fun k_ ye hs_=>Or.elim hs_ (fun e_=>(ye.1.1.2) e_) (fun e_=>(ye.2) e_))) (fun k_ ye=>⟨ye.1.1.1.1.1.2,ye.1.1.1.1.2,ye.1.1.1.2,ye.1.1.2⟩));have Zm:=ga.mk (Kd.yc (qj:=fun k_=>some k_ ≠ (.slice uu t108.length ju:Value).ownBlock∧some k_ ≠ (.slice Eg t119.length zg:Value).ownBlock) (Kd.uf ((Kd.Xf Dg.out (Kd.Cg Bd.out) (by decide))) hkp (fun k_ ye hs_=>Or.elim hs_ (fun e_=>(ye.2) e_) (fun e_=>(ye.1.2) e_))) (fun k_ ye=>⟨ye.1.1.1.2,ye.1.1.2⟩));have ni:=ga.mk (hb);clear ua qd Ld xd Bd Ad Ac td xg Dg HB;have ua:=Nb;have qd:=Qb;have Ld:=fc;have xd:=Ec;have Bd:=fe;have Ad:=ze;have Ac:=De;have td:=Ih;have xg:=wj;have Dg:=Zm;have HB:=ni;clear Nb Qb fc Ec fe ze De Ih wj Zm ni;(try clear hb);(try clear hkp);(try clear hy0);(try clear hy1))|(go_at_call 17;(with_reducible refine (Xa.calls k _ _ t123 _ _ t111 true _ ?Zb ?Yb ?Uc ?Xc jS.out).mono ?_);(case Zb=>repeat (first|exact (Kd.Bb td.out).2.2|(with_reducible refine Kd.Lb ?_ _)|(with_reducible refine Kd.Kb ?_ _)|(with_reducible refine Kd.ec ?_)));(case Yb=>exact (Kd.Bb td.out).2.1);(case Uc=>repeat (first|exact (Kd.Bb xd.out).2.2|(with_reducible refine Kd.Lb ?_ _)|(with_reducible refine Kd.Kb ?_ _)|(with_reducible refine Kd.ec ?_)));(case Xc=>exact (Kd.Bb xd.out).2.1);rintro e w' ⟨rfl,⟨nd,rfl⟩⟩)|((with_reducible refine jb (f:=20) rfl ?_);refine Lc (some 45) rfl rfl Try.func20 (by kernel_rfl) rfl #[.slice Gj t123.length Ej,.int .i64 1] rfl (by (try simp only [List.map_toArray,List.map_cons,List.map_nil]);first|done|rfl|(simp only [List.length_drop,List.length_take];rfl)) ?_;(with_reducible refine (xb.calls k (fun k_=>some k_=(.slice Gj t123.length Ej:Value).ownBlock) (.slice Gj t123.length Ej) t123 1 t140 t141 w _ ?Zb ?Yb Ny.out).mono ?_);(case Zb=>repeat (first|(with_reducible first|exact HB.out|apply ia|apply aa|apply oa|refine ta ?_ Sa.out|refine ta ?_ Rg.out)|exact HB.out));(case Yb=>exact Kd.pg rfl td.out);rintro e mH ⟨rfl,hy0,hb,hkp⟩;refine ⟨_,rfl,?_⟩;have Nb:=ga.mk (Pg (by (with_reducible repeat (first|refine za ?_ _|refine Ca ?_|refine Aa ?_ _));exact ua.out) hkp (fun hs_=>(fun e_=>(Kd.jm td.out ua.out (by decide)) e_) hs_));have Qb:=ga.mk (Kd.yc (qj:=fun k_=>some k_ ≠ (.slice Dn t111.length zn:Value).ownBlock∧some k_ ≠ (.slice Hf t114.length Ef:Value).ownBlock∧some k_ ≠ (.slice Gj t123.length Ej:Value).ownBlock∧some k_ ≠ (.slice tu t127.length iu:Value).ownBlock) (Kd.uf (qd.out) hkp (fun k_ ye hs_=>(ye.2.2.1) hs_)) (fun k_ ye=>⟨ye.1.1,ye.1.2.1,ye.1.2.2.1,ye.1.2.2.2⟩));have fc:=ga.mk (Kd.yc (qj:=fun k_=>some k_ ≠ (.slice Eg t119.length zg:Value).ownBlock∧some k_ ≠ (.slice uB t132.length jB:Value).ownBlock) (Kd.uf ((Kd.Xf Ld.out (Kd.Cg td.out) (by decide))) hkp (fun k_ ye hs_=>(ye.2) hs_)) (fun k_ ye=>⟨ye.1.1.1,ye.1.1.2⟩));have Ec:=ga.mk (Kd.yc (qj:=fun k_=>some k_ ≠ (.slice En t103.length Bn:Value).ownBlock∧some k_ ≠ (.slice Hf t114.length Ef:Value).ownBlock∧some k_ ≠ (.slice Gj t123.length Ej:Value).ownBlock∧some k_ ≠ (.slice tu t127.length iu:Value).ownBlock) (Kd.uf (xd.out) hkp (fun k_ ye hs_=>(ye.2.2.1) hs_)) (fun k_ ye=>⟨ye.1.1,ye.1.2.1,ye.1.2.2.1,ye.1.2.2.2⟩));have fe:=ga.mk (Kd.yc (qj:=fun k_=>some k_ ≠ (.slice En t103.length Bn:Value).ownBlock∧some k_ ≠ (.slice Dn t111.length zn:Value).ownBlock∧some k_ ≠ (.slice Gj t123.length Ej:Value).ownBlock∧some k_ ≠ (.slice tu t127.length iu:Value).ownBlock) (Kd.uf (Bd.out) hkp (fun k_ ye hs_=>(ye.1.2) hs_)) (fun k_ ye=>⟨ye.1.1.1.1.2,ye.1.1.1.2,ye.1.1.2,ye.1.2⟩));have ze:=ga.mk (Kd.yc (qj:=fun k_=>some k_ ≠ (.slice uu t108.length ju:Value).ownBlock∧some k_ ≠ (.slice uB t132.length jB:Value).ownBlock) (Kd.uf ((Kd.Xf Ad.out (Kd.Cg td.out) (by decide))) hkp (fun k_ ye hs_=>(ye.2) hs_)) (fun k_ ye=>⟨ye.1.1.1.2,ye.1.1.2⟩));have De:=ga.mk (Pg (by (with_reducible repeat (first|refine za ?_ _|refine Ca ?_|refine Aa ?_ _));exact Ac.out) hkp (fun hs_=>(fun e_=>(Kd.jm td.out Ac.out (by decide)) e_) hs_));have Ih:=ga.mk (Kd.Yo rfl hy0 (fun k_ e_=>td.out.1 k_ e_));have wj:=ga.mk (Kd.yc (qj:=fun k_=>some k_ ≠ (.slice En t103.length Bn:Value).ownBlock∧some k_ ≠ (.slice Dn t111.length zn:Value).ownBlock∧some k_ ≠ (.slice Hf t114.length Ef:Value).ownBlock∧some k_ ≠ (.slice Gj t123.length Ej:Value).ownBlock) (Kd.uf (xg.out) hkp (fun k_ ye hs_=>(ye.2.2.2) hs_)) (fun k_ ye=>⟨ye.1.1,ye.1.2.1,ye.1.2.2.1,ye.1.2.2.2⟩));have Zm:=ga.mk (Kd.yc (qj:=fun k_=>some k_ ≠ (.slice uu t108.length ju:Value).ownBlock∧some k_ ≠ (.slice Eg t119.length zg:Value).ownBlock) (Kd.uf ((Kd.Xf Dg.out (Kd.Cg td.out) (by decide))) hkp (fun k_ ye hs_=>(ye.2) hs_)) (fun k_ ye=>⟨ye.1.1.1,ye.1.1.2⟩));have ni:=ga.mk (hb);clear ua qd Ld xd Bd Ad Ac td xg Dg HB;have ua:=Nb;have qd:=Qb;have Ld:=fc;have xd:=Ec;have Bd:=fe;have Ad:=ze;have Ac:=De;have td:=Ih;have xg:=wj;have Dg:=Zm;have HB:=ni;clear Nb Qb fc Ec fe ze De Ih wj Zm ni;(try clear hb);(try clear hkp);(try clear hy0))|((with_reducible refine jb (f:=21) rfl ?_);refine Lc (some 48) rfl rfl Try.func21 (by kernel_rfl) rfl #[.slice Gj t141.length Ej,.int .i64 1] rfl (by (try simp only [List.map_toArray,List.map_cons,List.map_nil]);first|done|(rw [show t141.length=t123.length from (Kd.Bb td.out).1.symm] <;> rfl)|rfl|(simp only [List.length_drop,List.length_take];rfl)) ?_;(with_reducible refine (Wa.calls k _ _ t141 1 t142 _ ?Zb ?Yb iS.out).mono ?_);(case Zb=>repeat (first|exact (Kd.Bb td.out).2.2|(with_reducible refine Kd.Lb ?_ _)|(with_reducible refine Kd.Kb ?_ _)|(with_reducible refine Kd.ec ?_)));(case Yb=>rw [show t141.length=t123.length from (Kd.Bb td.out).1.symm];exact (Kd.Bb td.out).2.1);rintro e w' ⟨rfl,⟨nd,rfl⟩⟩;refine ⟨_,rfl,?_⟩;have aK:mH.cell? ⟨Ba,0,none⟩=some (.slice zb Na.length yb):=(qa ua.out 0).trans rfl;have ZJ:mH.cell? ⟨Ba,1,none⟩=some (.int .i64 La):=(qa ua.out 1).trans rfl;have YJ:mH.cell? ⟨Ba,2,none⟩=some (.int .i64 Ma):=(qa ua.out 2).trans rfl;have XJ:mH.cell? ⟨Ba,3,none⟩=some (.slice Eb Ea.length Ab):=(qa ua.out 3).trans rfl;have nI:=ja ua.out 0;have mI:=ja ua.out 1;have lI:=ja ua.out 2;have kI:=ja ua.out 3)|((with_reducible refine jb (f:=15) rfl ?_);refine Lc (some 55) rfl rfl Try.func15 (by kernel_rfl) rfl #[.agg #[.slice zb Na.length yb,.int .i64 La,.int .i64 Ma,.slice Eb Ea.length Ab]] rfl (by (try simp only [List.map_toArray,List.map_cons,List.map_nil]);first|done|rfl|(simp only [List.length_drop,List.length_take];rfl)) ?_;(with_reducible refine (gb.calls k _ _ Na La Ma _ _ Ea t143 t146 t147 t148 _ ?Zb ?Yb ?Uc ?Xc gN.out).mono ?_);(case Zb=>repeat (first|exact (Kd.Fb Be.out (by repeat (first|(with_reducible first|exact HB.out|apply ia|apply aa|apply oa|refine ta ?_ Sa.out|refine ta ?_ Rg.out)|exact HB.out)))|(with_reducible refine Kd.Lb ?_ _)|(with_reducible refine Kd.Kb ?_ _)|(with_reducible refine Kd.ec ?_)));(case Yb=>exact Te.out);(case Uc=>repeat (first|exact (Kd.Fb Yd.out (by repeat (first|(with_reducible first|exact HB.out|apply ia|apply aa|apply oa|refine ta ?_ Sa.out|refine ta ?_ Rg.out)|exact HB.out)))|(with_reducible refine Kd.Lb ?_ _)|(with_reducible refine Kd.Kb ?_ _)|(with_reducible refine Kd.ec ?_)));(case Xc=>exact Ff.out);rintro e nS ⟨JQ,IQ,rfl,Yf,Dr,hb⟩;refine ⟨_,rfl,?_⟩;have Nb:=ga.mk (Kd.Sc (by (with_reducible repeat (first|apply Kd.Ta|apply Kd.Ua|apply Kd.Za));exact qd.out) (Kd.Ud Yf) hb);have Qb:=ga.mk (Kd.Sc (by (with_reducible repeat (first|apply Kd.Ta|apply Kd.Ua|apply Kd.Za));exact Ld.out) (Kd.Ud Dr) hb);have fc:=ga.mk (Kd.Sc (by (with_reducible repeat (first|apply Kd.Ta|apply Kd.Ua|apply Kd.Za));exact xd.out) (Kd.Ud Yf) hb);have Ec:=ga.mk (Kd.Sc (by (with_reducible repeat (first|apply Kd.Ta|apply Kd.Ua|apply Kd.Za));exact Bd.out) (Kd.Ud Yf) hb);have fe:=ga.mk (Kd.Sc (by (with_reducible repeat (first|apply Kd.Ta|apply Kd.Ua|apply Kd.Za));exact Ad.out) (Kd.Ud Dr) hb);have ze:=ga.mk (Kd.Sc (by (with_reducible repeat (first|apply Kd.Ta|apply Kd.Ua|apply Kd.Za));exact td.out) (Kd.Ud Yf) hb);have De:=ga.mk (Kd.Sc (by (with_reducible repeat (first|apply Kd.Ta|apply Kd.Ua|apply Kd.Za));exact xg.out) (Kd.Ud Yf) hb);have Ih:=ga.mk (Kd.Sc (by (with_reducible repeat (first|apply Kd.Ta|apply Kd.Ua|apply Kd.Za));exact Dg.out) (Kd.Ud Dr) hb);have wj:=ga.mk (Kd.ee (Kd.Wd (Kd.Wd (Kd.Wd (Kd.Wd (Kd.Wd Yf (Kd.Ig (by (with_reducible repeat (first|apply Kd.Ta|apply Kd.Ua|apply Kd.Za));exact qd.out))) (Kd.Ig (by (with_reducible repeat (first|apply Kd.Ta|apply Kd.Ua|apply Kd.Za));exact xd.out))) (Kd.Ig (by (with_reducible repeat (first|apply Kd.Ta|apply Kd.Ua|apply Kd.Za));exact Bd.out))) (Kd.Ig (by (with_reducible repeat (first|apply Kd.Ta|apply Kd.Ua|apply Kd.Za));exact td.out))) (Kd.Ig (by (with_reducible repeat (first|apply Kd.Ta|apply Kd.Ua|apply Kd.Za));exact xg.out))) (Ja (by repeat (first|(with_reducible first|exact HB.out|apply ia|apply aa|apply oa|refine ta ?_ Sa.out|refine ta ?_ Rg.out)|exact HB.out))));have Zm:=ga.mk (Kd.ee (Kd.Wd (Kd.Wd (Kd.Wd Dr (Kd.Ig (by (with_reducible repeat (first|apply Kd.Ta|apply Kd.Ua|apply Kd.Za));exact Ld.out))) (Kd.Ig (by (with_reducible repeat (first|apply Kd.Ta|apply Kd.Ua|apply Kd.Za));exact Ad.out))) (Kd.Ig (by (with_reducible repeat (first|apply Kd.Ta|apply Kd.Ua|apply Kd.Za));exact Dg.out))) (Ja (by repeat (first|(with_reducible first|exact HB.out|apply ia|apply aa|apply oa|refine ta ?_ Sa.out|refine ta ?_ Rg.out)|exact HB.out))));have ni:=ga.mk (mb (g:=Ba) (o:=.cells #[.slice zb Na.length yb,.int .i64 La,.int .i64 Ma,.slice Eb Ea.length Ab] 25 (0,0)) (by (with_reducible repeat (first|refine za ?_ _|refine Ca ?_|refine Aa ?_ _));exact ua.out) hb);have Nr:=ga.mk (mb (g:=Jc) (o:=.cells #[.slice Hf t114.length Ef,.int .i64 t117,.int .i64 t118,.slice Eg t119.length zg] 30 (0,0)) (by (with_reducible repeat (first|refine za ?_ _|refine Ca ?_|refine Aa ?_ _));exact Ac.out) hb);have Ow:=ga.mk (Ra (by repeat (first|(with_reducible first|exact HB.out|apply ia|apply aa|apply oa|refine ta ?_ Sa.out|refine ta ?_ Rg.out)|exact HB.out)) hb);clear qd Ld xd Bd Ad td xg Dg ua Ac HB;have qd:=Nb;have Ld:=Qb;have xd:=fc;have Bd:=Ec;have Ad:=fe;have td:=ze;have xg:=De;have Dg:=Ih;have bp:=wj;have Xp:=Zm;have ua:=ni;have Ac:=Nr;have HB:=Ow;clear Nb Qb fc Ec fe ze De Ih wj Zm ni Nr Ow;(try clear hb);(try clear Ak);(try clear hk);(try clear hi);(try clear Yf);(try clear Dr);obtain ⟨eN,SM,DM⟩:=Kd.Vd bp.out;subst DM;obtain ⟨dN,RM,BM⟩:=Kd.Vd Xp.out;subst BM)|((with_reducible refine jb (f:=16) rfl ?_);refine Lc (some 56) rfl rfl Try.func16 (by kernel_rfl) rfl #[.agg #[.slice eN t143.length SM,.int .i64 t146,.int .i64 t147,.slice dN t148.length RM]] rfl (by (try simp only [List.map_toArray,List.map_cons,List.map_nil]);first|done|rfl|(simp only [List.length_drop,List.length_take];rfl)) ?_;(with_reducible refine (oc.calls k _ _ t143 t146 t147 _ _ t148 t151 _ ?Zb ?Yb ?Uc ?Xc gS.out).mono ?_);(case Zb=>repeat (first|exact (Kd.Bb bp.out).2.2|(with_reducible refine Kd.Lb ?_ _)|(with_reducible refine Kd.Kb ?_ _)|(with_reducible refine Kd.ec ?_)));(case Yb=>exact (Kd.Bb bp.out).2.1);(case Uc=>repeat (first|exact (Kd.Bb Xp.out).2.2|(with_reducible refine Kd.Lb ?_ _)|(with_reducible refine Kd.Kb ?_ _)|(with_reducible refine Kd.ec ?_)));(case Xc=>exact (Kd.Bb Xp.out).2.1);rintro e mS ⟨v152,rfl,Yf,hb⟩;refine ⟨_,rfl,?_⟩;have Nb:=ga.mk (Kd.Sc (by (with_reducible repeat (first|apply Kd.Ta|apply Kd.Ua|apply Kd.Za));exact qd.out) (Kd.Ud Yf) hb);have Qb:=ga.mk (Kd.Qc (by (with_reducible repeat (first|apply Kd.Ta|apply Kd.Ua|apply Kd.Za));exact Ld.out) hb);have fc:=ga.mk (Kd.Sc (by (with_reducible repeat (first|apply Kd.Ta|apply Kd.Ua|apply Kd.Za));exact xd.out) (Kd.Ud Yf) hb);have Ec:=ga.mk (Kd.Sc (by (with_reducible repeat (first|apply Kd.Ta|apply Kd.Ua|apply Kd.Za));exact Bd.out) (Kd.Ud Yf) hb);have fe:=ga.mk (Kd.Qc (by (with_reducible repeat (first|apply Kd.Ta|apply Kd.Ua|apply Kd.Za));exact Ad.out) hb);have ze:=ga.mk (Kd.Sc (by (with_reducible repeat (first|apply Kd.Ta|apply Kd.Ua|apply Kd.Za));exact td.out) (Kd.Ud Yf) hb);have De:=ga.mk (Kd.Sc (by (with_reducible repeat (first|apply Kd.Ta|apply Kd.Ua|apply Kd.Za));exact xg.out) (Kd.Ud Yf) hb);have Ih:=ga.mk (Kd.Qc (by (with_reducible repeat (first|apply Kd.Ta|apply Kd.Ua|apply Kd.Za));exact Dg.out) hb);have wj:=ga.mk (Kd.Sc (by (with_reducible repeat (first|apply Kd.Ta|apply Kd.Ua|apply Kd.Za));exact bp.out) (Kd.Ud Yf) hb);have Zm:=ga.mk (Kd.Qc (by (with_reducible repeat (first|apply Kd.Ta|apply Kd.Ua|apply Kd.Za));exact Xp.out) hb);have ni:=ga.mk (Kd.ee (Kd.Wd (Kd.Wd (Kd.Wd (Kd.Wd (Kd.Wd (Kd.Wd Yf (Kd.Ig (by (with_reducible repeat (first|apply Kd.Ta|apply Kd.Ua|apply Kd.Za));exact qd.out))) (Kd.Ig (by (with_reducible repeat (first|apply Kd.Ta|apply Kd.Ua|apply Kd.Za));exact xd.out))) (Kd.Ig (by (with_reducible repeat (first|apply Kd.Ta|apply Kd.Ua|apply Kd.Za));exact Bd.out))) (Kd.Ig (by (with_reducible repeat (first|apply Kd.Ta|apply Kd.Ua|apply Kd.Za));exact td.out))) (Kd.Ig (by (with_reducible repeat (first|apply Kd.Ta|apply Kd.Ua|apply Kd.Za));exact xg.out))) (Kd.Ig (by (with_reducible repeat (first|apply Kd.Ta|apply Kd.Ua|apply Kd.Za));exact bp.out))) (Ja (by repeat (first|(with_reducible first|exact HB.out|apply ia|apply aa|apply oa|refine ta ?_ Sa.out|refine ta ?_ Rg.out)|exact HB.out))));have Nr:=ga.mk (mb (g:=Ba) (o:=.cells #[.slice zb Na.length yb,.int .i64 La,.int .i64 Ma,.slice Eb Ea.length Ab] 25 (0,0)) (by (with_reducible repeat (first|refine za ?_ _|refine Ca ?_|refine Aa ?_ _));exact ua.out) hb);have Ow:=ga.mk (mb (g:=Jc) (o:=.cells #[.slice Hf t114.length Ef,.int .i64 t117,.int .i64 t118,.slice Eg t119.length zg] 30 (0,0)) (by (with_reducible repeat (first|refine za ?_ _|refine Ca ?_|refine Aa ?_ _));exact Ac.out) hb);have SE:=ga.mk (Ra (by repeat (first|(with_reducible first|exact HB.out|apply ia|apply aa|apply oa|refine ta ?_ Sa.out|refine ta ?_ Rg.out)|exact HB.out)) hb);clear qd Ld xd Bd Ad td xg Dg bp Xp ua Ac HB;have qd:=Nb;have Ld:=Qb;have xd:=fc;have Bd:=Ec;have Ad:=fe;have td:=ze;have xg:=De;have Dg:=Ih;have bp:=wj;have Xp:=Zm;have iy:=ni;have ua:=Nr;have Ac:=Ow;have HB:=SE;clear Nb Qb fc Ec fe ze De Ih wj Zm ni Nr Ow SE;(try clear hb);(try clear Ak);(try clear hk);(try clear hi);(try clear Yf);obtain ⟨cN,QM,zM⟩:=Kd.Vd iy.out;subst zM)|((with_reducible refine jb (f:=17) rfl ?_);refine Lc (some 59) rfl rfl Try.func17 (by kernel_rfl) rfl #[.slice cN t151.length QM,.slice Dn t111.length zn] rfl (by (try simp only [List.map_toArray,List.map_cons,List.map_nil]);first|done|rfl|(simp only [List.length_drop,List.length_take];rfl)) ?_;(with_reducible refine (Xa.calls k _ _ t151 _ _ t111 true _ ?Zb ?Yb ?Uc ?Xc oL.out).mono ?_);(case Zb=>repeat (first|exact (Kd.Bb iy.out).2.2|(with_reducible refine Kd.Lb ?_ _)|(with_reducible refine Kd.Kb ?_ _)|(with_reducible refine Kd.ec ?_)));(case Yb=>exact (Kd.Bb iy.out).2.1);(case Uc=>repeat (first|exact (Kd.Bb xd.out).2.2|(with_reducible refine Kd.Lb ?_ _)|(with_reducible refine Kd.Kb ?_ _)|(with_reducible refine Kd.ec ?_)));(case Xc=>exact (Kd.Bb xd.out).2.1);rintro e w' ⟨rfl,⟨nd,rfl⟩⟩;refine ⟨_,rfl,?_⟩)|((with_reducible refine jb (f:=21) rfl ?_);refine Lc (some 63) rfl rfl Try.func21 (by kernel_rfl) rfl #[.slice Gj t141.length Ej,.int .i64 1] rfl (by (try simp only [List.map_toArray,List.map_cons,List.map_nil]);first|done|(rw [show t141.length=t123.length from (Kd.Bb td.out).1.symm] <;> rfl)|rfl|(simp only [List.length_drop,List.length_take];rfl)) ?_;(with_reducible refine (Wa.calls k _ _ t141 1 t155 _ ?Zb ?Yb fN.out).mono ?_);(case Zb=>repeat (first|exact (Kd.Bb td.out).2.2|(with_reducible refine Kd.Lb ?_ _)|(with_reducible refine Kd.Kb ?_ _)|(with_reducible refine Kd.ec ?_)));(case Yb=>rw [show t141.length=t123.length from (Kd.Bb td.out).1.symm];exact (Kd.Bb td.out).2.1);rintro e w' ⟨rfl,⟨nd,rfl⟩⟩;refine ⟨_,rfl,?_⟩))
           go_ret;exact ⟨by first|rfl|(simp [Ia,Ga] <;> rfl)|(simp [*,Ia,Ga] <;> rfl),by repeat (first|(with_reducible first|exact HB.out|apply ia|apply aa|apply oa|refine ta ?_ Sa.out|refine ta ?_ Rg.out)|exact HB.out)⟩
          ·rw [if_neg lG] at H;exact absurd H (by simp)
        ·replace Ys:=Bool.eq_false_iff.mpr Ys;subst Ys;have H1:(none)=some r:=by rw [if_neg (show ¬ (false=true) by decide)] at H;exact H
         clear H;have H:=H1;clear H1;exact absurd H (by simp)
       ·rw [if_neg Aw] at H;exact absurd H (by simp)
     ·replace OD:=Bool.eq_false_iff.mpr OD;subst OD;have H1:(none)=some r:=by rw [if_neg (show ¬ (false=true) by decide)] at H;exact H
      clear H;have H:=H1;clear H1;exact absurd H (by simp)
   ·replace um:=Bool.eq_false_iff.mpr um;subst um;have H1:(none)=some r:=by rw [if_neg (show ¬ (false=true) by decide)] at H;exact H
    clear H;have H:=H1;clear H1;exact absurd H (by simp)
  ·replace Zs:=Bool.eq_false_iff.mpr Zs;subst Zs;have H1:(none)=some r:=by rw [if_neg (show ¬ (false=true) by decide)] at H;exact H
   clear H;have H:=H1;clear H1;exact absurd H (by simp)
theorem Xo (n:Int):zi [] n=[n]:=by simp [zi,Bj]
theorem Rm (x:Int) (l:List Int) (n:Int):zi (x :: l) n=if x < n then x :: zi l n else if x=n then x :: l else n :: x :: l:=by
 unfold zi
 by_cases h:x < n
 ·have e:Bj (x :: l) n=Bj l n + 1:=by unfold Bj;simp [List.takeWhile_cons,h]
  rw [e,if_pos h,Gi]
  by_cases h2:Bj l n < l.length∧rd l (Bj l n:Int)=n
  ·rw [if_pos h2,if_pos ⟨by simp;omega,h2.2⟩]
  ·rw [if_neg h2,if_neg (fun hc=>h2 ⟨by have:=hc.1;simp at this;omega,hc.2⟩)];simp
 ·have e:Bj (x :: l) n=0:=by unfold Bj;simp [List.takeWhile_cons,h]
  rw [e,if_neg h];have er:rd (x :: l) ((0:Nat):Int)=x:=rfl;rw [er]
  by_cases h2:x=n
  ·rw [if_pos h2,if_pos ⟨by simp,h2⟩]
  ·rw [if_neg h2,if_neg (fun hc=>h2 hc.2)];simp
theorem Ns (l:List Int) (n x:Int):x ∈ zi l n ↔ x=n ∨ x ∈ l:=by
 induction l with
 | nil=>simp [Xo]
 | cons y l ih =>
  rw [Rm]
  split
  ·rw [List.mem_cons,ih,List.mem_cons]
   constructor
   ·rintro (h|h|h)
    ·exact Or.inr (Or.inl h)
    ·exact Or.inl h
    ·exact Or.inr (Or.inr h)
   ·rintro (h|h|h)
    ·exact Or.inr (Or.inl h)
    ·exact Or.inl h
    ·exact Or.inr (Or.inr h)
  ·split
   ·rename_i h;subst h;simp
   ·simp
theorem qB (l:List Int) (n:Int) (h:l.Pairwise (· < ·)):(zi l n).Pairwise (· < ·):=by
 induction l with
 | nil=>simp [Xo]
 | cons y l ih =>
  obtain ⟨h1,h2⟩:=List.pairwise_cons.1 h;rw [Rm]
  split
  ·rename_i hy;refine List.pairwise_cons.2 ⟨fun z hz=>?_,ih h2⟩
   rcases (Ns _ _ _).1 hz with e|e
   ·omega
   ·exact h1 z e
  ·split
   ·exact h
   ·refine List.pairwise_cons.2 ⟨fun z hz=>?_,h⟩
    rcases List.mem_cons.1 hz with e|e
    ·omega
    ·have:=h1 z e;omega
theorem kn (l:List Int) (n:Int):(zi l n).length ≤ l.length + 1:=by
 induction l with
 | nil=>simp [Xo]
 | cons y l ih =>
  rw [Rm]
  split
  ·simp;exact ih
  ·split <;> simp
theorem QC:∀ (l1 l2:List Int),l1.Pairwise (· < ·)→l2.Pairwise (· < ·)→(∀ x,x ∈ l1 ↔ x ∈ l2)→l1=l2:=by
 intro l1
 induction l1 with
 | nil =>
  intro l2 _ _ h;cases l2 with
  | nil=>rfl
  | cons y l2=>exact absurd ((h y).2 (by simp)) (by simp)
 | cons x l1 ih =>
  intro l2 h1 h2 h;cases l2 with
  | nil=>exact absurd ((h x).1 (by simp)) (by simp)
  | cons y l2 =>
   obtain ⟨a1,a2⟩:=List.pairwise_cons.1 h1;obtain ⟨b1,b2⟩:=List.pairwise_cons.1 h2
   have e:x=y:=by
    rcases List.mem_cons.1 ((h x).1 (by simp)) with e|e
    ·exact e
    ·rcases List.mem_cons.1 ((h y).2 (by simp)) with e2|e2
     ·exact e2.symm
     ·have:=a1 y e2;have:=b1 x e;omega
   subst e
   congr 1
   refine ih l2 a2 b2 (fun z=>?_)
   constructor
   ·intro hz
    rcases List.mem_cons.1 ((h z).1 (List.mem_cons_of_mem _ hz)) with e|e
    ·have:=a1 z hz;omega
    ·exact e
   ·intro hz
    rcases List.mem_cons.1 ((h z).2 (List.mem_cons_of_mem _ hz)) with e|e
    ·have:=b1 z hz;omega
    ·exact e
theorem Po (d:Array Int) (hd:∀ i j:Nat,i ≤ j→j < d.size→d[i]! ≤ d[j]!):∀ m:Nat,m ≤ d.size→(Go.Lib.compactUpTo d m).Pairwise (· < ·)∧∀ x,x ∈ Go.Lib.compactUpTo d m ↔ ∃ j,j < m∧d[j]! = x:=by
 intro m
 induction m with
 | zero =>
  intro _;simp [Go.Lib.compactUpTo]
 | succ m ih =>
  intro hm;obtain ⟨h1,h2⟩:=ih (by omega);rw [Go.Lib.compactUpTo_succ]
  by_cases hk:Go.Lib.keeps d m=true
  ·rw [if_pos hk];have hk2:m=0 ∨ d[m]! ≠ d[m - 1]!:=by simpa [Go.Lib.keeps] using hk
   refine ⟨List.pairwise_append.2 ⟨h1,by simp,fun a ha b hb=>?_⟩,fun x=>?_⟩
   ·rw [List.mem_singleton] at hb;subst hb;obtain ⟨j,hj,rfl⟩:=(h2 a).1 ha;have e1:=hd j (m - 1) (by omega) (by omega);have e2:=hd (m - 1) m (by omega) (by omega)
    rcases hk2 with e|e
    ·omega
    ·omega
   ·rw [List.mem_append,h2,List.mem_singleton]
    constructor
    ·rintro (⟨j,hj,e⟩|e)
     ·exact ⟨j,by omega,e⟩
     ·exact ⟨m,by omega,e.symm⟩
    ·rintro ⟨j,hj,e⟩
     by_cases hjm:j=m
     ·subst hjm;exact Or.inr e.symm
     ·exact Or.inl ⟨j,by omega,e⟩
  ·rw [if_neg hk,List.append_nil];refine ⟨h1,fun x=>?_⟩;rw [h2]
   have hk2:m ≠ 0∧d[m]! = d[m - 1]!:=by
    have:¬ (m=0 ∨ d[m]! ≠ d[m - 1]!):=by simpa [Go.Lib.keeps] using hk
    exact ⟨fun e=>this (Or.inl e),Decidable.byContradiction fun e=>this (Or.inr e)⟩
   constructor
   ·rintro ⟨j,hj,e⟩;exact ⟨j,by omega,e⟩
   ·rintro ⟨j,hj,e⟩
    by_cases hjm:j=m
    ·subst hjm;exact ⟨j - 1,by omega,by rw [← hk2.2];exact e⟩
    ·exact ⟨j,by omega,e⟩
theorem Zx (l:List Int):(ak l).Pairwise (· < ·)∧∀ x,x ∈ ak l ↔ x ∈ l:=by
 have hp:(l.mergeSort fun x y=>decide (x ≤ y)).Pairwise (fun a b=>decide (a ≤ b)=true):=List.pairwise_mergeSort (le:=fun x y:Int=>decide (x ≤ y)) (fun a b c h1 h2=>by simp at h1 h2 ⊢;omega) (fun a b=>by simp;omega) l;have hm:∀ x,x ∈ (l.mergeSort fun x y=>decide (x ≤ y)) ↔ x ∈ l:=fun x=>List.mem_mergeSort
 unfold ak;generalize (l.mergeSort fun x y=>decide (x ≤ y))=s at hp hm
 have hd:∀ i j:Nat,i ≤ j→j < s.toArray.size→s.toArray[i]! ≤ s.toArray[j]!:=by
  intro i j hij hj;have hj':j < s.length:=by simpa using hj
  rcases Nat.lt_or_ge i j with h|h
  ·have:=List.pairwise_iff_getElem.1 hp i j (by omega) hj' h
   simpa [show i < s.length by omega,hj'] using this
  ·obtain rfl:i=j:=by omega
   exact Int.le_refl _
 obtain ⟨h1,h2⟩:=Po s.toArray hd s.length (by simp);refine ⟨h1,fun x=>?_⟩;rw [← hm];refine (h2 x).trans ?_;rw [List.mem_iff_getElem]
 constructor
 ·rintro ⟨j,hj,e⟩;exact ⟨j,hj,by simpa [hj] using e⟩
 ·rintro ⟨j,hj,e⟩;exact ⟨j,hj,by simpa [hj] using e⟩
theorem Ls (l:List Int):(ak l).length ≤ l.length:=by
 unfold ak;have:=en (l.mergeSort fun x y=>decide (x ≤ y))
 rwa [List.length_mergeSort] at this
theorem Yx (l:List Int):l.foldl zi []=ak l:=by
 obtain ⟨h1,h2⟩:=Zx l
 have key:∀ (l a:List Int),a.Pairwise (· < ·)→(l.foldl zi a).Pairwise (· < ·)∧∀ x,x ∈ l.foldl zi a ↔ x ∈ a ∨ x ∈ l:=by
  intro l
  induction l with
  | nil=>intro a ha;exact ⟨ha,fun x=>by simp⟩
  | cons y l ih =>
   intro a ha;obtain ⟨k1,k2⟩:=ih (zi a y) (qB a y ha);refine ⟨k1,fun x=>?_⟩;rw [List.foldl_cons,k2,Ns,List.mem_cons]
   constructor
   ·rintro ((h|h)|h)
    ·exact Or.inr (Or.inl h)
    ·exact Or.inl h
    ·exact Or.inr (Or.inr h)
   ·rintro (h|h|h)
    ·exact Or.inl (Or.inr h)
    ·exact Or.inl (Or.inl h)
    ·exact Or.inr h
 obtain ⟨k1,k2⟩:=key l [] List.Pairwise.nil;exact QC _ _ k1 h1 (fun x=>by rw [k2,h2];simp)
theorem Ev.pos {α:Type} {c:Prop} [Decidable c] {f g:Nat→Option α} {r:α} (h:c) (k:Ev f r):Ev (fun n=>if c then f n else g n) r:=Ev.congr (fun n=>if_pos h) k
theorem Ev.neg {α:Type} {c:Prop} [Decidable c] {f g:Nat→Option α} {r:α} (h:¬ c) (k:Ev g r):Ev (fun n=>if c then f n else g n) r:=Ev.congr (fun n=>if_neg h) k
theorem Ev.val {α β:Type} {a:α} {f:Nat→α→Option β} {r:β} (k:Ev (fun n=>f n a) r):Ev (fun n=>(some a).bind (f n)) r:=Ev.congr (fun n=>rfl) k
theorem ag {x:Int} (h:-9223372036854775808 ≤ x) (h':x ≤ 9223372036854775807):wrap64 x=x:=by
 unfold wrap64;omega
theorem ef {i n:Nat} (h:i < n) (hn:n ≤ 9223372036854775807):wrap64 ((i:Int) + 1)=((i + 1:Nat):Int):=by
 rw [ag (by omega) (by omega)];omega
theorem nh {ρ:Type} {n:Nat} {r:ρ} (P:Nat→Prop) (hend:P n) (hstep:∀ i,i < n→P (i + 1)→P i):∀ i,i ≤ n→P i:=by
 have key:∀ d i,i + d=n→P i:=by
  intro d
  induction d with
  | zero =>
   intro i hi;have:i=n:=by omega
   exact this ▸ hend
  | succ d ih =>
   intro i hi;exact hstep i (by omega) (ih (i + 1) (by omega))
 intro i hi;exact key (n - i) i (by omega)
theorem Ds {α:Type} {m:List α} {z:α} {i:Nat} (h:i < m.length):(m.take i ++ List.replicate (m.length - i) z).set i (m.getD i z)=m.take (i + 1) ++ List.replicate (m.length - (i + 1)) z:=by
 rw [List.set_append_right _ _ (by rw [List.length_take];omega),List.length_take,Nat.min_eq_left (by omega),Nat.sub_self];rw [show m.length - i=(m.length - (i + 1)) + 1 from by omega,List.replicate_succ,List.set_cons_zero,List.take_succ_eq_append_getElem h,List.append_assoc];simp [List.getD_eq_getElem?_getD,List.getElem?_eq_getElem h]
theorem nw {α:Type} {m:List α} {z:α}:m.take 0 ++ List.replicate (m.length - 0) z=List.replicate m.length z:=by simp
theorem Es {α:Type} {m:List α} {z:α}:m.take m.length ++ List.replicate (m.length - m.length) z=m:=by simp
theorem Hw (l:List Int) (i:Nat):rd l (i:Int)=l.getD i 0:=rfl
def iota (m:Int) (n:Nat):List Int:=(List.range n).map fun (j:Nat)=>m + (j:Int)
theorem Pf (m:Int) (n:Nat):(iota m n).length=n:=by simp [iota]
theorem Gp {m:Int} {n i:Nat} (h:i < n):(iota m n).getD i 0=m + i:=by simp [iota,List.getD_eq_getElem?_getD,h]
theorem Ir {α:Type} {m l:List α} {z:α} {i:Nat} (hl:l.length=m.length) (h:i < m.length):(m.take i ++ l.drop i).set i (m.getD i z)=m.take (i + 1) ++ l.drop (i + 1):=by
 rw [List.set_append_right _ _ (by rw [List.length_take];omega),List.length_take,Nat.min_eq_left (by omega),Nat.sub_self];rw [List.drop_eq_getElem_cons (by omega),List.set_cons_zero,List.take_succ_eq_append_getElem h,List.append_assoc];simp [List.getD_eq_getElem?_getD,List.getElem?_eq_getElem h]
theorem ow (l:List Int) (hl:l.length ≤ 35184372088832):Ev (fun k=>Ic.f k l) l:=by
 refine Ev.congr (f:=fun k=>Ic.l0 k l (List.replicate l.length 0) 0) (fun k=>?_) ?_
 ·unfold Ic.f;rw [if_pos (by omega),if_pos (by omega)]
  rfl
 ·have key:=nh (r:=l) (n:=l.length) (fun i=>Ev (fun k=>Ic.l0 k l (l.take i ++ List.replicate (l.length - i) 0) (i:Int)) l) ?_ ?_ 0 (by omega)
  ·simpa using key
  ·refine Ev.step (fun k=>by rw [Ic.l0]) ?_;refine Ev.neg (by omega) ?_;rw [Es];exact Ev.now l
  ·intro i hi h;refine Ev.step (fun k=>by rw [Ic.l0]) ?_;refine Ev.pos (by omega) (Ev.pos (by omega) (Ev.pos (by simp;omega) ?_));rw [ef hi (by omega),Hw,Int.toNat_natCast,Ds hi];exact h
theorem Np (l:List Int) (hl:l.length ≤ 9223372036854775807):Ev (fun k=>Xa.f k l l) true:=by
 refine Ev.congr (f:=fun k=>Xa.l0 k l l 0) (fun k=>?_) ?_
 ·unfold Xa.f;rw [if_pos rfl]
 ·refine nh (r:=true) (n:=l.length) (fun i=>Ev (fun k=>Xa.l0 k l l (i:Int)) true) ?_ ?_ 0 (by omega)
  ·refine Ev.step (fun k=>by rw [Xa.l0]) ?_;exact Ev.neg (by omega) (Ev.now _)
  ·intro i hi h;refine Ev.step (fun k=>by rw [Xa.l0]) ?_;refine Ev.pos (by omega) (Ev.pos (by omega) (Ev.pos (by omega) (Ev.pos rfl ?_)));rw [ef hi hl];exact h
theorem Ry (l:List Int) (a:Int) (ha:0 ≤ a) (ha':a ≤ 1048576) (hl:l.length ≤ 9223372036854775807):∃ t,Oe.f l a=some t∧t ≤ a∧(0 ≤ t→t + l.length=a):=by
 unfold Oe.f;rw [ag (by omega) (by omega)]
 split
 ·exact ⟨-1,rfl,by omega,by omega⟩
 ·exact ⟨_,rfl,by omega,by omega⟩
def Mf (x:Cn):ld:=⟨x.f0,x.f1,x.f2,x.f3,x.f4⟩
theorem bu (l:List Cn) (hl:l.length ≤ 7036874417766):Ev (fun k=>jc.f k l) (l.map Mf):=by
 refine Ev.congr (f:=fun k=>jc.l0 k l (List.replicate l.length wk) 0) (fun k=>?_) ?_
 ·unfold jc.f;rw [if_pos (by omega),if_pos (by omega)]
  rfl
 ·have key:=nh (r:=l.map Mf) (n:=l.length) (fun i=>Ev (fun k=>jc.l0 k l ((l.map Mf).take i ++ List.replicate ((l.map Mf).length - i) wk) (i:Int)) (l.map Mf)) ?_ ?_ 0 (by omega)
  ·rw [nw,List.length_map] at key;exact key
  ·refine Ev.step (fun k=>by rw [jc.l0]) ?_;refine Ev.neg (by omega) ?_;have e:=Es (m:=l.map Mf) (z:=wk);rw [List.length_map] at e;rw [List.length_map,e];exact Ev.now _
  ·intro i hi h;refine Ev.step (fun k=>by rw [jc.l0]) ?_;refine Ev.pos (by omega) (Ev.pos (by omega) ?_);unfold Mg.f;refine Ev.val (Ev.pos (by simp;omega) ?_)
   have hc:Mf (He l (i:Int))=(l.map Mf).getD i wk:=by
    simp [He,List.getD_eq_getElem?_getD,hi]
   have hf:=Ds (m:=l.map Mf) (z:=wk) (i:=i) (by rw [List.length_map];exact hi);rw [← hc] at hf;rw [ef hi (by omega),Int.toNat_natCast];have e:=hf ▸ h;exact e
theorem eu (l:List ld) (hl:l.length ≤ 9223372036854775807):Ev (fun k=>Cb.f k l l) true:=by
 refine Ev.congr (f:=fun k=>Cb.l0 k l l 0) (fun k=>?_) ?_
 ·unfold Cb.f;rw [if_pos rfl]
 ·refine nh (r:=true) (n:=l.length) (fun i=>Ev (fun k=>Cb.l0 k l l (i:Int)) true) ?_ ?_ 0 (by omega)
  ·refine Ev.step (fun k=>by rw [Cb.l0]) ?_;exact Ev.neg (by omega) (Ev.now _)
  ·intro i hi h;refine Ev.step (fun k=>by rw [Cb.l0]) ?_;refine Ev.pos (by omega) (Ev.pos (by omega) (Ev.pos (by omega) ?_));unfold tg.f;simp only [if_true];refine Ev.val (Ev.pos rfl ?_);rw [ef hi hl];exact h
theorem Ew (l:List Cn) (a:Int) (ha:0 ≤ a) (ha':a ≤ 1048576) (hl:l.length ≤ 9223372036854775807):∃ t,qe.f l a=some t∧t ≤ a∧(0 ≤ t→t + l.length=a):=by
 unfold qe.f;rw [ag (by omega) (by omega)]
 split
 ·exact ⟨-1,rfl,by omega,by omega⟩
 ·exact ⟨_,rfl,by omega,by omega⟩
theorem Fw (x0:List Int) (x1 x2:Int) (x3:List Cn) (a:Int) (ha:0 ≤ a) (ha':a ≤ 1048576) (h0:x0.length ≤ 9223372036854775807) (h3:x3.length ≤ 9223372036854775807) :
  ∃ t,Pe.f x0 x1 x2 x3 a=some t∧t ≤ 1048576∧(0 ≤ t→x0.length ≤ 1048576∧x3.length ≤ 1048576):=by
 obtain ⟨t,e1,e2,e3⟩:=Ry x0 a ha ha' h0;unfold Pe.f;rw [e1];simp only [Option.bind_some]
 by_cases ht:t < 0
 ·rw [if_pos ht];exact ⟨-1,rfl,by omega,by omega⟩
 ·rw [if_neg ht];obtain ⟨u,f1,f2,f3⟩:=Ew x3 t (by omega) (by omega) h3;rw [f1];simp only [Option.bind_some]
  by_cases hu:u < 0
  ·rw [if_pos hu];exact ⟨-1,rfl,by omega,by omega⟩
  ·rw [if_neg hu];exact ⟨_,rfl,by omega,by omega⟩
theorem cu (x0:List Int) (x1 x2:Int) (x3:List Cn) (h0:x0.length ≤ 1048576) (h3:x3.length ≤ 1048576):Ev (fun k=>gb.f k x0 x1 x2 x3) (x0,x1,x2,x3.map Mf):=by
 unfold gb.f;exact Ev.bind (ow x0 (by omega)) (Ev.bind (bu x3 (by omega)) (Ev.now _))
theorem fu (x0:List Int) (x1 x2:Int) (x3:List ld) (h0:x0.length ≤ 9223372036854775807) (h3:x3.length ≤ 9223372036854775807):Ev (fun k=>Vc.f k x0 x1 x2 x3 x0 x1 x2 x3) true:=by
 unfold Vc.f;refine Ev.bind (Np x0 h0) ?_;refine Ev.pos rfl (Ev.pos rfl (Ev.pos rfl ?_));refine Ev.bind (eu x3 h3) ?_;exact Ev.pos rfl (Ev.now _)
theorem cn (l:List Int) (m:Int) (hm:0 ≤ m) (hl:m + l.length ≤ 4611686018427387904):Ev (fun k=>xb.f k l m) (m + l.length,iota m l.length):=by
 have key:=nh (r:=(m + (l.length:Int),iota m l.length)) (n:=l.length) (fun i=>Ev (fun k=>xb.l0 k ((iota m l.length).take i ++ l.drop i) (m + i) (i:Int)) (m + (l.length:Int),iota m l.length)) ?_ ?_ 0 (by omega)
 ·refine Ev.congr (fun k=>?_) key;unfold xb.f;simp
 ·refine Ev.step (fun k=>by rw [xb.l0]) ?_;refine Ev.neg (by simp [Pf]) ?_;rw [List.drop_length,List.append_nil,List.take_of_length_le (by rw [Pf];omega)];exact Ev.now _
 ·intro i hi h;refine Ev.step (fun k=>by rw [xb.l0]) ?_;refine Ev.pos (by simp [Pf];omega) (Ev.pos (by omega) ?_);have h1:m + (i:Int)=(iota m l.length).getD i 0:=(Gp hi).symm;rw [ef hi (by omega),ag (by omega) (by omega),Int.toNat_natCast];rw [show ((iota m l.length).take i ++ l.drop i).set i (m + (i:Int))=(iota m l.length).take (i + 1) ++ l.drop (i + 1) from by rw [h1];exact Ir (by rw [Pf]) (by rw [Pf];exact hi)];rw [show m + (i:Int) + 1=m + ((i + 1:Nat):Int) from by omega];exact h
theorem Fs (m:Int) (n:Nat) (hm:0 ≤ m) (hl:m + n ≤ 4611686018427387904):Ev (fun k=>Wa.f k (iota m n) m) (m + n):=by
 have key:=nh (r:=m + (n:Int)) (n:=n) (fun i=>Ev (fun k=>Wa.l0 k (iota m n) (m + i) (i:Int)) (m + (n:Int))) ?_ ?_ 0 (by omega)
 ·refine Ev.congr (fun k=>?_) key;unfold Wa.f;simp
 ·refine Ev.step (fun k=>by rw [Wa.l0]) ?_;exact Ev.neg (by rw [Pf];omega) (Ev.now _)
 ·intro i hi h;refine Ev.step (fun k=>by rw [Wa.l0]) ?_;refine Ev.pos (by rw [Pf];omega) (Ev.pos (by omega) (Ev.pos (by rw [Hw,Gp hi]) ?_));rw [ef hi (by omega),ag (by omega) (by omega)];rw [show m + (i:Int) + 1=m + ((i + 1:Nat):Int) from by omega];exact h
def Df (m:Int) (n:Nat):List ld:=(List.range n).map fun (j:Nat)=>(⟨m + 5 * (j:Int),m + 5 * (j:Int) + 1,m + 5 * (j:Int) + 2,m + 5 * (j:Int) + 3,m + 5 * (j:Int) + 4⟩:ld)
theorem Cf (m:Int) (n:Nat):(Df m n).length=n:=by simp [Df]
theorem Bp {m:Int} {n j:Nat} (h:j < n):(Df m n).getD j wk=(⟨m + 5 * (j:Int),m + 5 * (j:Int) + 1,m + 5 * (j:Int) + 2,m + 5 * (j:Int) + 3,m + 5 * (j:Int) + 4⟩:ld):=by simp [Df,List.getD_eq_getElem?_getD,h]
theorem Mr {x:List ld} {i:Nat} (h:i < x.length) (a:ld):ya (x.set i a) (i:Int)=a:=by
 simp [ya,List.getD_eq_getElem?_getD,h]
theorem cr (l:List ld) (m:Int) (hm:0 ≤ m) (hl:m + 5 * l.length ≤ 4611686018427387904):Ev (fun k=>Pb.f k l m) (m + 5 * l.length,Df m l.length):=by
 have key:=nh (r:=(m + 5 * (l.length:Int),Df m l.length)) (n:=l.length) (fun i=>Ev (fun k=>Pb.l0 k ((Df m l.length).take i ++ l.drop i) (m + 5 * i) (i:Int)) (m + 5 * (l.length:Int),Df m l.length)) ?_ ?_ 0 (by omega)
 ·refine Ev.congr (fun k=>?_) key;unfold Pb.f;simp
 ·refine Ev.step (fun k=>by rw [Pb.l0]) ?_;refine Ev.neg (by simp [Cf]) ?_;rw [List.drop_length,List.append_nil,List.take_of_length_le (by rw [Cf];omega)];exact Ev.now _
 ·intro i hi h;have hlen:((Df m l.length).take i ++ l.drop i).length=l.length:=by simp [Cf];omega
  have eD:=Ir (m:=Df m l.length) (l:=l) (z:=wk) (i:=i) (by rw [Cf]) (by rw [Cf];exact hi);rw [Bp hi] at eD;generalize hx:(Df m l.length).take i ++ l.drop i=x at hlen eD ⊢;refine Ev.step (fun k=>by rw [Pb.l0]) ?_;refine Ev.pos (by omega) (Ev.pos (by omega) ?_);simp only [Int.toNat_natCast,Option.bind_some];have hi1:i < x.length:=by omega
  simp only [Mr hi1,List.set_set];rw [ef hi (by omega)];rw [ag (x:=m + 5 * (i:Int) + 1) (by omega) (by omega),ag (x:=m + 5 * (i:Int) + 1 + 1) (by omega) (by omega),ag (x:=m + 5 * (i:Int) + 1 + 1 + 1) (by omega) (by omega),ag (x:=m + 5 * (i:Int) + 1 + 1 + 1 + 1) (by omega) (by omega),ag (x:=m + 5 * (i:Int) + 1 + 1 + 1 + 1 + 1) (by omega) (by omega)];rw [show m + 5 * (i:Int) + 1 + 1 + 1 + 1 + 1=m + 5 * ((i + 1:Nat):Int) from by omega];have e:=eD ▸ h;refine Ev.congr (fun k=>?_) e
  congr 3
  all_goals omega
end Go.Proofs.Ytoomcmaifgkkfaa.P
end
section
namespace Go.Proofs.Ytoomcmaifgkkfaa.P
open Go.RowKit Go.Proofs.Da.qb Go.Proofs.Da.Jd Go.Proofs.Da.Gf
set_option linter.unusedVariables false
set_option linter.unusedSimpArgs false
open Classical in
noncomputable def sr (n:Nat) (p:Nat→Prop):Bool:=decide (∀ j,j < n→p j)
open Classical in
theorem xw {n:Nat} {p:Nat→Prop} (h:∀ j,j < n→p j):sr n p=true:=by
 unfold sr;exact decide_eq_true h
open Classical in
theorem Ms {n:Nat} {p:Nat→Prop}:sr n p=true ↔ ∀ j,j < n→p j:=by
 unfold sr;exact decide_eq_true_iff
theorem ou {n i:Nat} {p:Nat→Prop} (hi:i < n) (h:¬ p i):sr n p=false:=by
 cases e:sr n p with
 | false=>rfl
 | true=>exact absurd (Ms.mp e i hi) h
theorem Fx {ρ:Type} {n:Nat} {R e:ρ} (p:Nat→Prop) (f:Nat→Nat→Option ρ) (hend:Ev (f n) R) (hyes:∀ i,i < n→p i→∀ r,Ev (f (i + 1)) r→Ev (f i) r) (hno:∀ i,i < n→¬ p i→Ev (f i) e):Ev (f 0) (bif sr n p then R else e):=by
 have key:∀ d i,i + d=n→(∀ j,j < i→p j)→Ev (f i) (bif sr n p then R else e):=by
  intro d
  induction d with
  | zero =>
   intro i hi h;have:i=n:=by omega
   subst this;rw [xw h];exact hend
  | succ d ih =>
   intro i hi h
   by_cases hp:p i
   ·refine hyes i (by omega) hp _ (ih (i + 1) (by omega) ?_);intro j hj
    by_cases hji:j=i
    ·rw [hji];exact hp
    ·exact h j (by omega)
   ·rw [ou (by omega) hp];exact hno i (by omega) hp
 exact key n 0 (by omega) (fun j hj=>absurd hj (by omega))
theorem Tp {α:Type} (l:List α) (z:α) (q:α→Bool):sr l.length (fun j=>q (l.getD j z)=true) = !(l.any fun x=>!q x):=by
 rw [Bool.eq_iff_iff,Ms];simp only [Bool.not_eq_true',List.any_eq_false,Bool.not_eq_true',Bool.not_eq_false]
 constructor
 ·intro h x hx;obtain ⟨j,hj,rfl⟩:=List.mem_iff_getElem.mp hx;have:=h j hj;rw [List.getD_eq_getElem?_getD,List.getElem?_eq_getElem hj] at this
  simpa using this
 ·intro h j hj;have:=h l[j] (List.getElem_mem hj);rw [List.getD_eq_getElem?_getD,List.getElem?_eq_getElem hj]
  simpa using this
end Go.Proofs.Ytoomcmaifgkkfaa.P
end
section
namespace Go.Proofs.Ytoomcmaifgkkfaa.P
open Go.RowKit Go.Proofs.Da.qb Go.Proofs.Da.Jd Go.Proofs.Da.Gf
set_option linter.unusedVariables false
set_option linter.unusedSimpArgs false
theorem Bg (a b c:Int):Ya.f a b c=some (qg a b c):=by
 unfold Ya.f qg
 by_cases h:a ≥ b
 ·rw [if_pos h];have h':b ≤ a:=h;simp [h']
 ·rw [if_neg h];have h':¬ b ≤ a:=h;simp [h']
theorem Hp (a n:Int):qg a n n=(a == n):=by
 unfold qg;rw [Bool.eq_iff_iff];simp;omega
theorem Ev.and {b c:Bool} {g:Nat→Option Bool} (h:b=true→Ev g c):Ev (fun k=>if b=true then g k else some false) (b && c):=by
 cases b with
 | false=>exact Ev.neg (by decide) (Ev.now _)
 | true=>exact Ev.pos rfl (h rfl)
theorem Ev.RD {p:Prop} [Decidable p] {b c:Bool} (e:b=decide p) {g:Nat→Option Bool} (h:b=true→Ev g c):Ev (fun k=>if p then g k else some false) (b && c):=by
 by_cases hp:p
 ·have hb:b=true:=by rw [e];exact decide_eq_true hp
  subst hb;exact Ev.pos hp (h rfl)
 ·have hb:b=false:=by rw [e];exact decide_eq_false hp
  subst hb;exact Ev.neg hp (Ev.now _)
def J3 (x5 x7:Bool) (o:Int) (EC:Bool) (N3 r v:Int):Bool:=bif EC then x5 && (x7 && (v == 0)) else if o=8 then (r == 0) && (x7 && qg v 0 N3) else if o=9 then x5 && (x7 && qg v 0 N3) else false
theorem Ex (x5 x7:Bool) (o:Int) (EC:Bool) (x0:List Int) (x1 x2:Int) (x3:List ld) (o' r p q v:Int):Ev (fun k=>Va.j3 k x5 x7 o EC x0 x1 x2 x3 o' r p q v) (J3 x5 x7 o EC (wrap64 ((x3.length:Int) - 1)) r v):=by
 refine Ev.step (fun k=>by rw [Va.j3]) ?_;unfold J3;cases EC with
 | true=>exact Ev.pos rfl (Ev.and fun _=>Ev.and fun _=>Ev.now _)
 | false =>
  refine Ev.neg (by decide) ?_
  by_cases h8:o=8
  ·simp only [cond_false,if_pos h8];refine Ev.RD (by rw [Bool.eq_iff_iff];simp) fun _=>Ev.and fun _=>?_
   rw [Bg];exact Ev.now _
  ·simp only [cond_false,if_neg h8]
   by_cases h9:o=9
   ·simp only [if_pos h9];refine Ev.and fun _=>Ev.and fun _=>?_
    rw [Bg];exact Ev.now _
   ·simp only [if_neg h9];exact Ev.now _
def J2 (x5 x6 x7:Bool) (o:Int) (FC:Bool) (N0 N3 r q v:Int):Bool:=bif FC then x5 && (x6 && ((q == 0) && qg v 0 N0)) else if o=11 then x5 && (x6 && ((q == 0) && (v == 0))) else if o=6 then J3 x5 x7 o (o == 6) N3 r v else if o=7 then J3 x5 x7 o (o == 7) N3 r v else J3 x5 x7 o (o == 10) N3 r v
theorem WB (x5 x6 x7:Bool) (o:Int) (FC:Bool) (x0:List Int) (x1 x2:Int) (x3:List ld) (o' r p q v:Int):Ev (fun k=>Va.j2 k x5 x6 x7 o FC x0 x1 x2 x3 o' r p q v) (J2 x5 x6 x7 o FC (wrap64 ((x0.length:Int) - 1)) (wrap64 ((x3.length:Int) - 1)) r q v):=by
 refine Ev.step (fun k=>by rw [Va.j2]) ?_;unfold J2;cases FC with
 | true =>
  refine Ev.pos rfl (Ev.and fun _=>Ev.and fun _=>Ev.RD (by rw [Bool.eq_iff_iff];simp) fun _=>?_);rw [Bg];exact Ev.now _
 | false =>
  refine Ev.neg (by decide) ?_
  by_cases h8:o=11
  ·simp only [cond_false,if_pos h8];exact Ev.and fun _=>Ev.and fun _=>Ev.RD (by rw [Bool.eq_iff_iff];simp) fun _=>Ev.now _
  ·simp only [cond_false,if_neg h8]
   by_cases h6:o=6
   ·simp only [if_pos h6];exact Ex _ _ _ _ _ _ _ _ _ _ _ _ _
   ·simp only [if_neg h6]
    by_cases h7:o=7
    ·simp only [if_pos h7];exact Ex _ _ _ _ _ _ _ _ _ _ _ _ _
    ·simp only [if_neg h7];exact Ex _ _ _ _ _ _ _ _ _ _ _ _ _
def J1 (x5 x6 x7:Bool) (o:Int) (GC:Bool) (N2 N0 N3 r q v:Int):Bool:=bif GC then x5 && (x7 && qg v 0 N2) else if o=3 then x5 && (x6 && (qg q 0 15 && qg v 0 5)) else if o=4 then J2 x5 x6 x7 o (o == 4) N0 N3 r q v else J2 x5 x6 x7 o (o == 5) N0 N3 r q v
theorem XB (x5 x6 x7:Bool) (o:Int) (GC:Bool) (x0:List Int) (x1 x2:Int) (x3:List ld) (o' r p q v:Int):Ev (fun k=>Va.j1 k x5 x6 x7 o GC x0 x1 x2 x3 o' r p q v) (J1 x5 x6 x7 o GC (wrap64 (x2 - 1)) (wrap64 ((x0.length:Int) - 1)) (wrap64 ((x3.length:Int) - 1)) r q v):=by
 refine Ev.step (fun k=>by rw [Va.j1]) ?_;unfold J1;cases GC with
 | true =>
  refine Ev.pos rfl (Ev.and fun _=>Ev.and fun _=>?_);rw [Bg];exact Ev.now _
 | false =>
  refine Ev.neg (by decide) ?_
  by_cases h8:o=3
  ·simp only [cond_false,if_pos h8];refine Ev.and fun _=>Ev.and fun _=>?_
   rw [Bg,Bg];exact Ev.val (Ev.and fun _=>Ev.now _)
  ·simp only [cond_false,if_neg h8]
   by_cases h6:o=4
   ·simp only [if_pos h6];exact WB _ _ _ _ _ _ _ _ _ _ _ _ _ _
   ·simp only [if_neg h6];exact WB _ _ _ _ _ _ _ _ _ _ _ _ _ _
def J0 (x5 x6 x7:Bool) (o N2 N0 N3 r q v:Int):Bool:=if o=0 then x5 && x7 else if o=1 then J1 x5 x6 x7 o (o == 1) N2 N0 N3 r q v else J1 x5 x6 x7 o (o == 2) N2 N0 N3 r q v
theorem QF (x5 x6 x7:Bool) (x0:List Int) (x1 x2:Int) (x3:List ld) (o r p q v:Int):Ev (fun k=>Va.j0 k x5 x6 x7 x0 x1 x2 x3 o r p q v) (J0 x5 x6 x7 o (wrap64 (x2 - 1)) (wrap64 ((x0.length:Int) - 1)) (wrap64 ((x3.length:Int) - 1)) r q v):=by
 refine Ev.step (fun k=>by rw [Va.j0]) ?_;unfold J0
 by_cases h6:o=0
 ·simp only [if_pos h6];exact Ev.and fun _=>Ev.now _
 ·simp only [if_neg h6]
  by_cases h7:o=1
  ·simp only [if_pos h7];exact XB _ _ _ _ _ _ _ _ _ _ _ _ _ _
  ·simp only [if_neg h7];exact XB _ _ _ _ _ _ _ _ _ _ _ _ _ _
theorem Ov (N2 N0 N3 o r p q v s n0 n3:Int) (h0:n0 - 1=N0) (h3:n3 - 1=N3) (h2:wrap64 (s - 1)=N2):Sg n0 s n3 o r p q v=J0 (qg r 0 15) (qg p 0 15) (p == 0 && q == 0) o N2 N0 N3 r q v:=by
 have ES:(p == 0)=true→qg p 0 15=true:=by intro h;rw [eq_of_beq h];rfl
 have DS:(q == 0)=true→qg q 0 15=true:=by intro h;rw [eq_of_beq h];rfl
 have CS:(r == 0)=true→qg r 0 15=true:=by intro h;rw [eq_of_beq h];rfl
 unfold Sg Gc Cp J0 J1 J2 J3;rw [h0,h3,h2,Hp v 0,Hp 0 0];generalize (p == 0)=P at *;generalize (q == 0)=Q at *;generalize (r == 0)=R at *;generalize (v == 0)=V at *;generalize qg p 0 15=p' at *;generalize qg q 0 15=q' at *;generalize qg r 0 15=r' at *;generalize qg v 0 N0=v0 at *;generalize qg v 0 N2=v2 at *;generalize qg v 0 N3=v3 at *;generalize qg v 0 5=v5 at *;clear h0 h3 h2
 by_cases e0:o=0
 ·subst e0;simp;cases P <;> cases Q <;> cases R <;> cases r' <;> cases p' <;> cases q' <;> simp_all
 by_cases e1:o=1
 ·subst e1;simp;cases P <;> cases Q <;> cases R <;> cases r' <;> cases p' <;> cases q' <;> simp_all
 by_cases e2:o=2
 ·subst e2;simp;cases P <;> cases Q <;> cases R <;> cases r' <;> cases p' <;> cases q' <;> simp_all
 by_cases e3:o=3
 ·subst e3;simp;cases P <;> cases Q <;> cases R <;> cases r' <;> cases p' <;> cases q' <;> simp_all
 by_cases e4:o=4
 ·subst e4;simp;cases P <;> cases Q <;> cases R <;> cases r' <;> cases p' <;> cases q' <;> simp_all
 by_cases e5:o=5
 ·subst e5;simp;cases P <;> cases Q <;> cases R <;> cases r' <;> cases p' <;> cases q' <;> simp_all
 by_cases e6:o=6
 ·subst e6;simp;cases P <;> cases Q <;> cases R <;> cases r' <;> cases p' <;> cases q' <;> simp_all
 by_cases e7:o=7
 ·subst e7;simp;cases P <;> cases Q <;> cases R <;> cases r' <;> cases p' <;> cases q' <;> simp_all
 by_cases e8:o=8
 ·subst e8;simp;cases P <;> cases Q <;> cases R <;> cases r' <;> cases p' <;> cases q' <;> simp_all
 by_cases e9:o=9
 ·subst e9;simp;cases P <;> cases Q <;> cases R <;> cases r' <;> cases p' <;> cases q' <;> simp_all
 by_cases TP:o=10
 ·subst TP;simp;cases P <;> cases Q <;> cases R <;> cases r' <;> cases p' <;> cases q' <;> simp_all
 by_cases SP:o=11
 ·subst SP;simp;cases P <;> cases Q <;> cases R <;> cases r' <;> cases p' <;> cases q' <;> simp_all
 simp [e0,e1,e2,e3,e4,e5,e6,e7,e8,e9,TP,SP]
theorem Pp (x0:List Int) (x1 x2:Int) (x3:List ld) (o r p q v:Int) (h0:x0.length ≤ 9223372036854775807) (h3:x3.length ≤ 9223372036854775807) :
  Ev (fun k=>Va.f k x0 x1 x2 x3 o r p q v) (Sg (x0.length:Int) x2 (x3.length:Int) o r p q v):=by
 unfold Va.f;rw [Bg,Bg];refine Ev.val (Ev.val ?_);have main:=QF (qg r 0 15) (qg p 0 15) (p == 0 && q == 0) x0 x1 x2 x3 o r p q v;rw [← Ov _ _ _ o r p q v x2 (x0.length:Int) (x3.length:Int) (ag (by omega) (by omega)).symm (ag (by omega) (by omega)).symm rfl] at main
 by_cases hp:p=0
 ·refine Ev.pos hp ?_;have e:(p == 0 && q == 0)=(q == 0):=by rw [hp];simp
  rw [e] at main;exact main
 ·refine Ev.neg hp ?_;have e:(p == 0 && q == 0)=false:=by simp [hp]
  rw [e] at main;exact main
theorem Jk {l:List ld} {i:Nat} (h:i < l.length):ya l (i:Int)=l[i]:=by simp [ya,List.getD_eq_getElem?_getD,h]
def wm (x3:List ld):Bool:=((ya x3 ((x3.length:Int) - 1)).f0 == 10) || ((ya x3 ((x3.length:Int) - 1)).f0 == 8)
def Bk (x0:List Int) (x2:Int) (x3:List ld):Bool:=!(x3.any fun x=>!Sg (x0.length:Int) x2 (x3.length:Int) x.f0 x.f1 x.f2 x.f3 x.f4)
theorem nk (b:Bool) (x0:List Int) (x1 x2:Int) (x3:List ld) (h0:x0.length ≤ 9223372036854775807) (h3:x3.length ≤ 9223372036854775807) (hb:b=true→1 ≤ x3.length) :
  Ev (fun k=>Pa.j1 k (x3.length:Int) (!b) x0 x1 x2 x3) (b && (Bk x0 x2 x3 && wm x3)):=by
 refine Ev.step (fun k=>by rw [Pa.j1]) ?_;cases b with
 | false=>exact Ev.pos rfl (Ev.now _)
 | true =>
  have hn:=hb rfl;refine Ev.neg (by decide) ?_;have key:=Fx (n:=x3.length) (R:=wm x3) (e:=false) (fun j=>(fun x:ld=>Sg (x0.length:Int) x2 (x3.length:Int) x.f0 x.f1 x.f2 x.f3 x.f4) (x3.getD j wk)=true) (fun i k=>Pa.l1 k (x3.length:Int) (i:Int) x0 x1 x2 x3) ?_ ?_ ?_
  ·rw [Tp x3 wk (fun x:ld=>Sg (x0.length:Int) x2 (x3.length:Int) x.f0 x.f1 x.f2 x.f3 x.f4)] at key;rw [Bool.true_and];unfold Bk;rw [show ∀ b c:Bool,(b && c)=(bif b then c else false) from by decide];exact key
  ·refine Ev.step (fun k=>by rw [Pa.l1]) ?_;refine Ev.neg (by omega) ?_;rw [ag (by omega) (by omega)];refine Ev.pos (by omega) (Ev.pos (by omega) ?_);unfold wm
   by_cases h:(ya x3 ((x3.length:Int) - 1)).f0=10
   ·rw [h];exact Ev.pos rfl (Ev.now _)
   ·rw [beq_false_of_ne h,Bool.false_or];exact Ev.neg h (Ev.now _)
  ·intro i hi hp r hr;refine Ev.step (fun k=>by rw [Pa.l1]) ?_;refine Ev.pos (by omega) (Ev.pos (by omega) (Ev.pos (by omega) ?_));refine Ev.bind (Pp x0 x1 x2 x3 _ _ _ _ _ h0 h3) ?_;refine Ev.pos hp ?_;rw [ef hi h3];exact hr
  ·intro i hi hp;refine Ev.step (fun k=>by rw [Pa.l1]) ?_;refine Ev.pos (by omega) (Ev.pos (by omega) (Ev.pos (by omega) ?_));refine Ev.bind (Pp x0 x1 x2 x3 _ _ _ _ _ h0 h3) ?_;exact Ev.neg hp (Ev.now _)
theorem kj (x0:List Int) (x1 x2:Int) (x3:List ld) (h0:x0.length ≤ 9223372036854775807) (h3:x3.length ≤ 9223372036854775807) :
  Ev (fun k=>Pa.f k x0 x1 x2 x3) (Ii x0 x1 x2 x3):=by
 unfold Pa.f
 have tail:Ev (fun k=>Pa.l0 k (x0.length:Int) x0 x1 x2 x3) (qg (x0.length:Int) 1 4 && (qg x1 0 6 && (qg x2 x1 1000 && (qg (x3.length:Int) 1 6000 && (Bk x0 x2 x3 && wm x3))))):=by
  have no:=nk false x0 x1 x2 x3 h0 h3 (fun h=>Bool.noConfusion h);rw [Bool.false_and] at no;refine Ev.step (fun k=>by rw [Pa.l0]) ?_;refine Ev.neg (by omega) ?_;rw [Bg,Bg,Bg,Bg];refine Ev.val ?_;cases qg (x0.length:Int) 1 4 with
  | false=>exact Ev.neg (by decide) no
  | true =>
   refine Ev.pos rfl (Ev.val ?_);cases qg x1 0 6 with
   | false=>exact Ev.neg (by decide) no
   | true =>
    refine Ev.pos rfl (Ev.val ?_);cases qg x2 x1 1000 with
    | false=>exact Ev.neg (by decide) no
    | true =>
     refine Ev.pos rfl (Ev.val ?_);rw [Bool.true_and,Bool.true_and,Bool.true_and];refine nk _ x0 x1 x2 x3 h0 h3 (fun h=>?_);unfold qg at h;simp at h;omega
 have key:=Fx (n:=x0.length) (R:=_) (e:=false) (fun j=>(fun n:Int=>qg n 1 16) (x0.getD j 0)=true) (fun i k=>Pa.l0 k (i:Int) x0 x1 x2 x3) tail ?_ ?_
 ·rw [Tp x0 0 (fun n:Int=>qg n 1 16)] at key;refine Eq.mp (congrArg _ ?_) key;unfold Ii vo;rw [show qg 0 0 (if (0:Int) < 6 then 0 else 6)=true from rfl,show decide ((0:Int) ≤ 20)=true from rfl]
  show _=(qg (x0.length:Int) 1 4 && (!(x0.any fun n=>!qg n 1 16)) && true && true && qg x1 0 6 && qg x2 x1 1000 && qg (x3.length:Int) 1 6000 && wm x3 && Bk x0 x2 x3)
  generalize (!(x0.any fun n=>!qg n 1 16))=a;generalize qg (x0.length:Int) 1 4=b;generalize qg x1 0 6=c;generalize qg x2 x1 1000=d;generalize qg (x3.length:Int) 1 6000=e;generalize wm x3=f;generalize Bk x0 x2 x3=g;revert a b c d e f g
  decide
 ·intro i hi hp r hr;refine Ev.step (fun k=>by rw [Pa.l0]) ?_;refine Ev.pos (by omega) (Ev.pos (by omega) ?_);rw [Bg];refine Ev.val (Ev.pos hp ?_);rw [ef hi h0];exact hr
 ·intro i hi hp;refine Ev.step (fun k=>by rw [Pa.l0]) ?_;refine Ev.pos (by omega) (Ev.pos (by omega) ?_);rw [Bg];exact Ev.val (Ev.neg hp (Ev.now _))
def Wh (l:List ld):List Int:=(l.filter fun x=>decide (x.f0=8 ∨ x.f0=9)).map fun x=>x.f4
theorem br (l:List ld):(Wh l).length ≤ l.length:=by
 unfold Wh;rw [List.length_map];exact List.length_filter_le _ _
theorem Jo (x:ld) (l:List ld):Wh (x :: l)=if x.f0=8 ∨ x.f0=9 then x.f4 :: Wh l else Wh l:=by
 unfold Wh;rw [List.filter_cons]
 by_cases h:x.f0=8 ∨ x.f0=9
 ·rw [if_pos (by simpa using h),if_pos h,List.map_cons]
 ·rw [if_neg (by simpa using h),if_neg h]
theorem fB (x0:List Int) (x1 x2:Int) (l:List ld) (hl:l.length ≤ 1048576):Ev (fun k=>Pc.f k x0 x1 x2 l) (ak (Wh l)):=by
 unfold Pc.f;have key:=nh (ρ:=Unit) (r:=()) (n:=l.length) (fun i=>∀ acc:List Int,acc.length ≤ i→Ev (fun k=>Pc.l0 k acc l (l.length:Int) (i:Int)) (ak (acc ++ Wh (l.drop i)))) ?_ ?_ 0 (by omega)
 ·exact key [] (by simp)
 ·intro acc ha;refine Ev.step (fun k=>by rw [Pc.l0]) ?_;rw [List.drop_length,show Wh []=[] from rfl,List.append_nil];refine Ev.neg (by omega) ?_;rw [show Ae.f acc=some (ak acc) from by unfold Ae.f;exact if_pos (by omega)];exact Ev.val (Ev.now _)
 ·intro i hi h acc ha;have hr:ya l (i:Int)=l[i]:=Jk hi;refine Ev.step (fun k=>by rw [Pc.l0]) ?_;refine Ev.pos (by omega) (Ev.pos (by omega) (Ev.pos (by omega) ?_));rw [ef hi (by omega),List.drop_eq_getElem_cons hi,Jo,hr]
  by_cases h8:l[i].f0=8
  ·rw [if_pos (Or.inl h8)];refine Ev.pos h8 (Ev.pos (by omega) ?_);have:=h (acc ++ [l[i].f4]) (by rw [List.length_append,List.length_singleton];omega)
   rwa [List.append_assoc] at this
  ·refine Ev.neg h8 ?_
   by_cases h9:l[i].f0=9
   ·rw [if_pos (Or.inr h9)];refine Ev.pos h9 (Ev.pos (by omega) ?_);have:=h (acc ++ [l[i].f4]) (by rw [List.length_append,List.length_singleton];omega)
    rwa [List.append_assoc] at this
   ·rw [if_neg (fun hc=>hc.elim h8 h9)];exact Ev.neg h9 (h acc (by omega))
theorem dr (x0:List Int) (x1 x2:Int) (l:List ld) (h0:x0.length ≤ 1048576) (hl:l.length ≤ 1048576) (hok:Ii x0 x1 x2 l=true):Ev (fun k=>Mb.f k x0 x1 x2 l) (ak (Wh l)):=by
 unfold Mb.f;rw [← Yx];have key:=nh (ρ:=Unit) (r:=()) (n:=l.length) (fun i=>∀ acc:List Int,acc.length ≤ i→Ev (fun k=>Mb.l0 k acc (i:Int) x0 x1 x2 l) ((Wh (l.drop i)).foldl zi acc)) ?_ ?_ 0 (by omega)
 ·exact key [] (by simp)
 ·intro acc ha;refine Ev.step (fun k=>by rw [Mb.l0]) ?_;rw [List.drop_length,show Wh []=[] from rfl,List.foldl_nil];refine Ev.neg (by omega) ?_;refine Ev.step (fun k=>by rw [Mb.j1]) ?_;exact Ev.neg (by decide) (Ev.now _)
 ·intro i hi h acc ha;have hr:ya l (i:Int)=l[i]:=Jk hi;refine Ev.step (fun k=>by rw [Mb.l0]) ?_;refine Ev.pos (by omega) (Ev.bind (kj x0 x1 x2 l (by omega) (by omega)) ?_);refine Ev.step (fun k=>by rw [Mb.j1]) ?_;refine Ev.pos hok (Ev.pos (by omega) (Ev.pos (by omega) ?_));rw [ef hi (by omega),List.drop_eq_getElem_cons hi,Jo,hr];unfold qf.f
  by_cases h8:l[i].f0=8
  ·rw [if_pos h8,if_pos (Or.inl h8)];refine Ev.val (Ev.pos rfl ?_);rw [show Td.f acc l[i].f4=some (zi acc l[i].f4) from by unfold Td.f;exact if_pos (by omega)];exact Ev.val (h _ (by have:=kn acc l[i].f4;omega))
  ·rw [if_neg h8]
   by_cases h9:l[i].f0=9
   ·rw [if_pos (Or.inr h9)];refine Ev.val (Ev.pos (by simp [h9]) ?_);rw [show Td.f acc l[i].f4=some (zi acc l[i].f4) from by unfold Td.f;exact if_pos (by omega)];exact Ev.val (h _ (by have:=kn acc l[i].f4;omega))
   ·rw [if_neg (fun hc=>hc.elim h8 h9)];exact Ev.val (Ev.neg (by simp [h9]) (h acc (by omega)))
theorem gB (x0:List Int) (x1 x2:Int) (l:List ld) (h0:x0.length ≤ 1048576) (hl:l.length ≤ 1048576) :
  ∃ r:List Int,r.length ≤ 1048576∧Ev (fun k=>Mb.f k x0 x1 x2 l) r∧Ev (fun k=>oc.f k x0 x1 x2 l) r:=by
 by_cases hok:Ii x0 x1 x2 l=true
 ·refine ⟨ak (Wh l),by have:=Ls (Wh l);have:=br l;omega,dr x0 x1 x2 l h0 hl hok,?_⟩;unfold oc.f Qe.f;exact Ev.val (Ev.pos hok (Ev.bind (fB x0 x1 x2 l hl) (Ev.now _)))
 ·refine ⟨[],by simp,?_,?_⟩
  ·unfold Mb.f;refine Ev.step (fun k=>by rw [Mb.l0]) ?_
   by_cases hl0:(0:Int) < (l.length:Int)
   ·refine Ev.pos hl0 (Ev.bind (kj x0 x1 x2 l (by omega) (by omega)) ?_);refine Ev.step (fun k=>by rw [Mb.j1]) ?_;exact Ev.neg hok (Ev.now _)
   ·refine Ev.neg hl0 ?_;refine Ev.step (fun k=>by rw [Mb.j1]) ?_;exact Ev.neg (by decide) (Ev.now _)
  ·unfold oc.f Qe.f;exact Ev.val (Ev.neg hok (Ev.now _))
theorem Um (x:rG) (hf:VB x):∃ k,xe.f k x.f0 x.f1 x.f2 x.f3=some true:=by
 obtain ⟨h0,_,_,h3⟩:=hf;obtain ⟨t,e1,e2,e3⟩:=Fw x.f0 x.f1 x.f2 x.f3 1048576 (by omega) (by omega) h0.1 h3.1;refine Ev.rounds (g:=fun k=>xe.f k x.f0 x.f1 x.f2 x.f3) ?_;unfold xe.f;rw [e1];refine Ev.val ?_
 by_cases ht:t < 0
 ·exact Ev.pos ht (Ev.now _)
 refine Ev.neg ht ?_;obtain ⟨b0,b3⟩:=e3 (by omega);have hT:=cu x.f0 x.f1 x.f2 x.f3 b0 b3;have hm:(x.f3.map Mf).length ≤ 1048576:=by rw [List.length_map];exact b3
 obtain ⟨r,r1,r2,r3⟩:=gB x.f0 x.f1 x.f2 (x.f3.map Mf) b0 hm;have hq:=Np r (by omega);refine Ev.bind hT (Ev.bind r2 (Ev.bind hT (Ev.bind r3 (Ev.bind hq (Ev.pos rfl (Ev.bind hT (Ev.bind (fu x.f0 x.f1 x.f2 (x.f3.map Mf) (by omega) (by omega)) (Ev.pos rfl ?_))))))))
 have hM:Ev (fun k=>qc.f k x.f0 x.f1 x.f2 (x.f3.map Mf) 1) (1 + x.f0.length + 5 * (x.f3.map Mf).length,iota 1 x.f0.length,Df (1 + x.f0.length) (x.f3.map Mf).length):=by
  unfold qc.f;exact Ev.bind (cn x.f0 1 (by omega) (by omega)) (Ev.bind (cr (x.f3.map Mf) (1 + x.f0.length) (by omega) (by omega)) (Ev.now _))
 have hI:=cn r 1 (by omega) (by omega);have hH:=Fs 1 r.length (by omega) (by omega);refine Ev.bind hM (Ev.neg (by omega) (Ev.bind hq ?_));refine Ev.pos rfl (Ev.bind hI (Ev.bind hH (Ev.neg (by omega) (Ev.pos rfl (Ev.bind hT (Ev.bind r3 (Ev.bind hq (Ev.pos rfl (Ev.bind hH (Ev.neg (by omega) (Ev.pos rfl (Ev.now _))))))))))))
end Go.Proofs.Ytoomcmaifgkkfaa.P
end
