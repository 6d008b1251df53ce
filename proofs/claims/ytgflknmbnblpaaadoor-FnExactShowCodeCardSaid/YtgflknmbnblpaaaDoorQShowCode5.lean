import Derived.Test.YtgflknmbnblpaaaDoorQShowCode1
import Derived.Test.YtgflknmbnblpaaaDoorQShowCode3
import Derived.Test.YtgflknmbnblpaaaDoorQShowCode2
import Derived.Test.YtgflknmbnblpaaaDoorQShowCode4
import Derived.Lib.ItoaNum
import Derived.Lib.ItoaLen
set_option maxHeartbeats 8000000
set_option maxRecDepth 100000
section
namespace Go.Proofs.YtgflknmbnblpaaaDoor.P
open Go.RowKit Go.Proofs.Aa.gb Go.Proofs.Aa.Wc Go.Proofs.Aa.ze
set_option linter.unusedVariables false
set_option linter.unusedSimpArgs false
attribute [local go_sem] Nh Lh qj nj Ng Mg Mh Kh
def Zc.f (k:Nat) (Qa:List Int) (Oa:Int) (Pa:Int) (Ba:List (gl)):Option (Bool):=(Td.f Qa Oa Pa Ba 1048576).bind fun t102=>(if t102 < 0 then (some true) else ((Zb.f k Qa Oa Pa Ba).bind fun Fg=>((Wa.f k Fg.1 Fg.2.1 Fg.2.2.1 Fg.2.2.2).bind fun t111=>((Zb.f k Qa Oa Pa Ba).bind fun Tc=>((Xa.f k Tc.1 Tc.2.1 Tc.2.2.1 Tc.2.2.2).bind fun t121=>(if t121.toList=t111.toList then ((Zb.f k Qa Oa Pa Ba).bind fun Bd=>((Rc.f k Tc.1 Tc.2.1 Tc.2.2.1 Tc.2.2.2 Bd.1 Bd.2.1 Bd.2.2.1 Bd.2.2.2).bind fun t130=>(if t130=true then (some true) else (none)))) else (none)))))))
theorem Zc.calls (k:Nat) (yb:Option Addr) (xb:Nat) (Qa:List Int) (Oa:Int) (Pa:Int) (Db:Option Addr) (zb:Nat) (Ba:List (gl)) (r:Bool) (w:World) (xe:Kd.C (Kd.int .i64) w yb Qa.length Qa) (je:Qa.length ≤ xb) (we:Kd.C Qu w Db Ba.length Ba) (ie:Ba.length ≤ zb) (h:Zc.f k Qa Oa Pa Ba=some r) (htab:rm w:=by exact rm.stays ry.out (by repeat (first|(with_reducible first|exact HB.out|apply ia|apply aa|apply qa|refine ua ?_ (oa.out (by assumption)))|exact HB.out)) (Nat.le_refl _)) :
  Calls Tryd.prog 4 #[.agg #[.slice yb Qa.length xb,.int .i64 Oa,.int .i64 Pa,.slice Db Ba.length zb]] w fun e w'=>e = .returned (.bool r)∧Below w.heap.size w w':=by
 have jB:=Tryd.underlying32;have ju:=Tryd.underlying37;have Xd:=oa.mk xe;have qe:=oa.mk je;clear xe je;have Vd:=oa.mk we;have Qe:=oa.mk ie;clear we ie;have ry:=oa.mk htab;clear htab;have HB:=oa.mk (Below.refl w.heap.size w);have H:((Td.f Qa Oa Pa Ba 1048576).bind fun t102=>(if t102 < 0 then (some true) else ((Zb.f k Qa Oa Pa Ba).bind fun Fg=>((Wa.f k Fg.1 Fg.2.1 Fg.2.2.1 Fg.2.2.2).bind fun t111=>((Zb.f k Qa Oa Pa Ba).bind fun Tc=>((Xa.f k Tc.1 Tc.2.1 Tc.2.2.1 Tc.2.2.2).bind fun t121=>(if t121.toList=t111.toList then ((Zb.f k Qa Oa Pa Ba).bind fun Bd=>((Rc.f k Tc.1 Tc.2.1 Tc.2.2.1 Tc.2.2.2 Bd.1 Bd.2.1 Bd.2.2.1 Bd.2.2.2).bind fun t130=>(if t130=true then (some true) else (none)))) else (none))))))))=some r:=h;clear h;replace H:=Option.bind_eq_some_iff.mp H;obtain ⟨t102,Bz,H⟩:=H;replace H:(if t102 < 0 then (some true) else ((Zb.f k Qa Oa Pa Ba).bind fun Fg=>((Wa.f k Fg.1 Fg.2.1 Fg.2.2.1 Fg.2.2.2).bind fun t111=>((Zb.f k Qa Oa Pa Ba).bind fun Tc=>((Xa.f k Tc.1 Tc.2.1 Tc.2.2.1 Tc.2.2.2).bind fun t121=>(if t121.toList=t111.toList then ((Zb.f k Qa Oa Pa Ba).bind fun Bd=>((Rc.f k Tc.1 Tc.2.1 Tc.2.2.1 Tc.2.2.2 Bd.1 Bd.2.1 Bd.2.2.1 Bd.2.2.2).bind fun t130=>(if t130=true then (some true) else (none)))) else (none)))))))=some r:=H;have A2:=oa.mk Bz;clear Bz
 by_cases c3:t102 < 0
 ·rw [if_pos c3] at H;have Ag:decide (t102 < 0)=true:=decide_eq_true c3;clear c3;obtain rfl:=Option.some.inj H;go_enter Tryd.func4,Tryd.ntmps4;go_wp2_with (first|((with_reducible refine Nb (N:=1) rfl ?_);refine Jb ?hg (N:=1) ?hd (cs:=#[.slice yb Qa.length xb,.int .i64 Oa,.int .i64 Pa,.slice Db Ba.length zb]) (t:=32) ?hr ?_;(case hd=>rfl);(case hg=>rfl);(case hr=>first|(go_simp;done)|(go_simp;rfl));intro Fa hg w4 Rb hb;have Tb:=oa.mk (Ta (by repeat (first|(with_reducible first|exact HB.out|apply ia|apply aa|apply qa)|exact HB.out)) hb);have Xb:=oa.mk (Rb);have tc:=oa.mk ((by rw [hg];exact (Ka (by repeat (first|(with_reducible first|exact HB.out|apply ia|apply aa|apply qa)|exact HB.out))):w.heap.size ≤ Fa));have Ec:=oa.mk ((by rw [hg];exact (Ka (by repeat (first|(with_reducible first|exact HB.out|apply ia|apply aa|apply qa)|exact HB.out))):w.heap.size ≤ Fa));clear HB;have HB:=Tb;have ya:=Xb;have Re:=tc;have Ua:=Ec;clear Tb Xb tc Ec hb Rb hg;have jr:w4.cell? ⟨Fa,0,none⟩=some (.slice yb Qa.length xb):=(ja ya.out 0).trans rfl;have ir:w4.cell? ⟨Fa,1,none⟩=some (.int .i64 Oa):=(ja ya.out 1).trans rfl;have gr:w4.cell? ⟨Fa,2,none⟩=some (.int .i64 Pa):=(ja ya.out 2).trans rfl;have cr:w4.cell? ⟨Fa,3,none⟩=some (.slice Db Ba.length zb):=(ja ya.out 3).trans rfl;have Vq:=ga ya.out 0;have Uq:=ga ya.out 1;have Tq:=ga ya.out 2;have Sq:=ga ya.out 3)|((with_reducible refine Lb (f:=10) rfl ?_);refine Xc (some 9) rfl rfl Tryd.func10 (by kernel_rfl) rfl #[.agg #[.slice yb Qa.length xb,.int .i64 Oa,.int .i64 Pa,.slice Db Ba.length zb],.int .i64 1048576] rfl (by (try simp only [List.map_toArray,List.map_cons,List.map_nil]);first|done|rfl|(simp only [List.length_drop,List.length_take];rfl)) ?_;(with_reducible refine (Td.calls _ _ Qa Oa Pa _ _ Ba 1048576 t102 _ ?Jc ?Ic ?ld ?jd A2.out).mono ?_);(case Jc=>repeat (first|exact (Kd.Sb Xd.out HB.out)|(with_reducible refine Kd.Wb ?_ _)|(with_reducible refine Kd.Vb ?_ _)|(with_reducible refine Kd.Bc ?_)));(case Ic=>exact qe.out);(case ld=>repeat (first|exact (Kd.Sb Vd.out HB.out)|(with_reducible refine Kd.Wb ?_ _)|(with_reducible refine Kd.Vb ?_ _)|(with_reducible refine Kd.Bc ?_)));(case jd=>exact Qe.out);rintro e w6 ⟨rfl,hb⟩;refine ⟨_,rfl,?_⟩;have Tb:=oa.mk (jb (g:=Fa) (o:=.cells #[.slice yb Qa.length xb,.int .i64 Oa,.int .i64 Pa,.slice Db Ba.length zb] 32 (0,0)) (by (with_reducible repeat (first|refine Ca ?_ _|refine Ea ?_|refine Da ?_ _));exact ya.out) hb);have Xb:=oa.mk (Ta (by repeat (first|(with_reducible first|exact HB.out|apply ia|apply aa|apply qa|refine ua ?_ Ua.out)|exact HB.out)) hb);clear ya HB;have ya:=Tb;have HB:=Xb;clear Tb Xb;(try clear hb);(try clear hb2);(try clear hk);(try clear hi)));go_ret;exact ⟨by first|rfl|(simp [Ja,Ia] <;> rfl)|(simp [*,Ja,Ia] <;> rfl),by repeat (first|(with_reducible first|exact HB.out|apply ia|apply aa|apply qa|refine ua ?_ Ua.out)|exact HB.out)⟩
 ·rw [if_neg c3] at H;have Ag:decide (t102 < 0)=false:=decide_eq_false c3;clear c3;replace H:=Option.bind_eq_some_iff.mp H;obtain ⟨⟨t103,t106,t107,t108⟩,Yt,H⟩:=H;replace H:((Wa.f k t103 t106 t107 t108).bind fun t111=>((Zb.f k Qa Oa Pa Ba).bind fun Tc=>((Xa.f k Tc.1 Tc.2.1 Tc.2.2.1 Tc.2.2.2).bind fun t121=>(if t121.toList=t111.toList then ((Zb.f k Qa Oa Pa Ba).bind fun Bd=>((Rc.f k Tc.1 Tc.2.1 Tc.2.2.1 Tc.2.2.2 Bd.1 Bd.2.1 Bd.2.2.1 Bd.2.2.2).bind fun t130=>(if t130=true then (some true) else (none)))) else (none)))))=some r:=H;have A7:=oa.mk Yt;clear Yt;replace H:=Option.bind_eq_some_iff.mp H;obtain ⟨t111,SC,H⟩:=H;replace H:((Zb.f k Qa Oa Pa Ba).bind fun Tc=>((Xa.f k Tc.1 Tc.2.1 Tc.2.2.1 Tc.2.2.2).bind fun t121=>(if t121.toList=t111.toList then ((Zb.f k Qa Oa Pa Ba).bind fun Bd=>((Rc.f k Tc.1 Tc.2.1 Tc.2.2.1 Tc.2.2.2 Bd.1 Bd.2.1 Bd.2.2.1 Bd.2.2.2).bind fun t130=>(if t130=true then (some true) else (none)))) else (none))))=some r:=H;have A8:=oa.mk SC;clear SC;replace H:=Option.bind_eq_some_iff.mp H;obtain ⟨⟨t112,t115,t116,t117⟩,WK,H⟩:=H;replace H:((Xa.f k t112 t115 t116 t117).bind fun t121=>(if t121.toList=t111.toList then ((Zb.f k Qa Oa Pa Ba).bind fun Bd=>((Rc.f k t112 t115 t116 t117 Bd.1 Bd.2.1 Bd.2.2.1 Bd.2.2.2).bind fun t130=>(if t130=true then (some true) else (none)))) else (none)))=some r:=H;have A9:=oa.mk WK;clear WK;replace H:=Option.bind_eq_some_iff.mp H;obtain ⟨t121,kD,H⟩:=H;replace H:(if t121.toList=t111.toList then ((Zb.f k Qa Oa Pa Ba).bind fun Bd=>((Rc.f k t112 t115 t116 t117 Bd.1 Bd.2.1 Bd.2.2.1 Bd.2.2.2).bind fun t130=>(if t130=true then (some true) else (none)))) else (none))=some r:=H;have sM:=oa.mk kD;clear kD
  by_cases c11:t121.toList=t111.toList
  ·rw [if_pos c11] at H;have Av:(t121.toList == t111.toList)=true:=beq_iff_eq.mpr c11;have wC:(t121.toList != t111.toList)=false:=bne_eq_false_iff_eq.mpr c11;clear c11;replace H:=Option.bind_eq_some_iff.mp H;obtain ⟨⟨t122,t125,t126,t127⟩,iD,H⟩:=H;replace H:((Rc.f k t112 t115 t116 t117 t122 t125 t126 t127).bind fun t130=>(if t130=true then (some true) else (none)))=some r:=H;have rM:=oa.mk iD;clear iD;replace H:=Option.bind_eq_some_iff.mp H;obtain ⟨t130,qq,H⟩:=H;replace H:(if t130=true then (some true) else (none))=some r:=H;have RA:=oa.mk qq;clear qq
   by_cases c14:t130=true
   ·subst c14;have H1:(some true)=some r:=by rw [if_pos rfl] at H;exact H
    clear H;have H:=H1;clear H1;obtain rfl:=Option.some.inj H;go_enter Tryd.func4,Tryd.ntmps4
    try go_wp2_with (first|((with_reducible refine Nb (N:=1) rfl ?_);refine Jb ?hg (N:=1) ?hd (cs:=#[.slice yb Qa.length xb,.int .i64 Oa,.int .i64 Pa,.slice Db Ba.length zb]) (t:=32) ?hr ?_;(case hd=>rfl);(case hg=>rfl);(case hr=>first|(go_simp;done)|(go_simp;rfl));intro Fa hg Pr Rb hb;have Tb:=oa.mk (Ta (by repeat (first|(with_reducible first|exact HB.out|apply ia|apply aa|apply qa)|exact HB.out)) hb);have Xb:=oa.mk (Rb);have tc:=oa.mk ((by rw [hg];exact (Ka (by repeat (first|(with_reducible first|exact HB.out|apply ia|apply aa|apply qa)|exact HB.out))):w.heap.size ≤ Fa));have Ec:=oa.mk ((by rw [hg];exact (Ka (by repeat (first|(with_reducible first|exact HB.out|apply ia|apply aa|apply qa)|exact HB.out))):w.heap.size ≤ Fa));clear HB;have HB:=Tb;have ya:=Xb;have Re:=tc;have Ua:=Ec;clear Tb Xb tc Ec hb Rb hg;have Yx:Pr.cell? ⟨Fa,0,none⟩=some (.slice yb Qa.length xb):=(ja ya.out 0).trans rfl;have Xx:Pr.cell? ⟨Fa,1,none⟩=some (.int .i64 Oa):=(ja ya.out 1).trans rfl;have Wx:Pr.cell? ⟨Fa,2,none⟩=some (.int .i64 Pa):=(ja ya.out 2).trans rfl;have Vx:Pr.cell? ⟨Fa,3,none⟩=some (.slice Db Ba.length zb):=(ja ya.out 3).trans rfl;have Vw:=ga ya.out 0;have Uw:=ga ya.out 1;have Tw:=ga ya.out 2;have Sw:=ga ya.out 3)|((with_reducible refine Lb (f:=10) rfl ?_);refine Xc (some 9) rfl rfl Tryd.func10 (by kernel_rfl) rfl #[.agg #[.slice yb Qa.length xb,.int .i64 Oa,.int .i64 Pa,.slice Db Ba.length zb],.int .i64 1048576] rfl (by (try simp only [List.map_toArray,List.map_cons,List.map_nil]);first|done|rfl|(simp only [List.length_drop,List.length_take];rfl)) ?_;(with_reducible refine (Td.calls _ _ Qa Oa Pa _ _ Ba 1048576 t102 _ ?Jc ?Ic ?ld ?jd A2.out).mono ?_);(case Jc=>repeat (first|exact (Kd.Sb Xd.out HB.out)|(with_reducible refine Kd.Wb ?_ _)|(with_reducible refine Kd.Vb ?_ _)|(with_reducible refine Kd.Bc ?_)));(case Ic=>exact qe.out);(case ld=>repeat (first|exact (Kd.Sb Vd.out HB.out)|(with_reducible refine Kd.Wb ?_ _)|(with_reducible refine Kd.Vb ?_ _)|(with_reducible refine Kd.Bc ?_)));(case jd=>exact Qe.out);rintro e lD ⟨rfl,hb⟩;refine ⟨_,rfl,?_⟩;have Tb:=oa.mk (jb (g:=Fa) (o:=.cells #[.slice yb Qa.length xb,.int .i64 Oa,.int .i64 Pa,.slice Db Ba.length zb] 32 (0,0)) (by (with_reducible repeat (first|refine Ca ?_ _|refine Ea ?_|refine Da ?_ _));exact ya.out) hb);have Xb:=oa.mk (Ta (by repeat (first|(with_reducible first|exact HB.out|apply ia|apply aa|apply qa|refine ua ?_ Ua.out)|exact HB.out)) hb);clear ya HB;have ya:=Tb;have HB:=Xb;clear Tb Xb;(try clear hb);(try clear hb2);(try clear hk);(try clear hi);have tg:lD.cell? ⟨Fa,0,none⟩=some (.slice yb Qa.length xb):=(ja ya.out 0).trans rfl;have sg:lD.cell? ⟨Fa,1,none⟩=some (.int .i64 Oa):=(ja ya.out 1).trans rfl;have qg:lD.cell? ⟨Fa,2,none⟩=some (.int .i64 Pa):=(ja ya.out 2).trans rfl;have pg:lD.cell? ⟨Fa,3,none⟩=some (.slice Db Ba.length zb):=(ja ya.out 3).trans rfl;have ng:=ga ya.out 0;have mg:=ga ya.out 1;have lg:=ga ya.out 2;have kg:=ga ya.out 3)|((with_reducible refine Lb (f:=12) rfl ?_);refine Xc (some 13) rfl rfl Tryd.func12 (by kernel_rfl) rfl #[.agg #[.slice yb Qa.length xb,.int .i64 Oa,.int .i64 Pa,.slice Db Ba.length zb]] rfl (by (try simp only [List.map_toArray,List.map_cons,List.map_nil]);first|done|rfl|(simp only [List.length_drop,List.length_take];rfl)) ?_;(with_reducible refine (Zb.calls k _ _ Qa Oa Pa _ _ Ba t103 t106 t107 t108 _ ?Jc ?Ic ?ld ?jd A7.out).mono ?_);(case Jc=>repeat (first|exact (Kd.Sb Xd.out HB.out)|(with_reducible refine Kd.Wb ?_ _)|(with_reducible refine Kd.Vb ?_ _)|(with_reducible refine Kd.Bc ?_)));(case Ic=>exact qe.out);(case ld=>repeat (first|exact (Kd.Sb Vd.out HB.out)|(with_reducible refine Kd.Wb ?_ _)|(with_reducible refine Kd.Vb ?_ _)|(with_reducible refine Kd.Bc ?_)));(case jd=>exact Qe.out);rintro e wm ⟨Gz,v109,rfl,Wp,Au,hb⟩;refine ⟨_,rfl,?_⟩;have Tb:=oa.mk (Kd.Be Wp (Ka (by repeat (first|(with_reducible first|exact HB.out|apply ia|apply aa|apply qa|refine ua ?_ Ua.out)|exact HB.out))));have Xb:=oa.mk (Kd.Be Au (Ka (by repeat (first|(with_reducible first|exact HB.out|apply ia|apply aa|apply qa|refine ua ?_ Ua.out)|exact HB.out))));have tc:=oa.mk (jb (g:=Fa) (o:=.cells #[.slice yb Qa.length xb,.int .i64 Oa,.int .i64 Pa,.slice Db Ba.length zb] 32 (0,0)) (by (with_reducible repeat (first|refine Ca ?_ _|refine Ea ?_|refine Da ?_ _));exact ya.out) hb);have Ec:=oa.mk (Ta (by repeat (first|(with_reducible first|exact HB.out|apply ia|apply aa|apply qa|refine ua ?_ Ua.out)|exact HB.out)) hb);clear ya HB;have Wd:=Tb;have me:=Xb;have ya:=tc;have HB:=Ec;clear Tb Xb tc Ec;(try clear hb);(try clear hb2);(try clear hk);(try clear hi);(try clear Wp);(try clear Au);obtain ⟨QC,SB,YH⟩:=Kd.zf Wd.out;subst YH;obtain ⟨PC,RB,XH⟩:=Kd.zf me.out;subst XH)|((with_reducible refine Lb (f:=11) rfl ?_);refine Xc (some 14) rfl rfl Tryd.func11 (by kernel_rfl) rfl #[.agg #[.slice QC t103.length SB,.int .i64 t106,.int .i64 t107,.slice PC t108.length RB]] rfl (by (try simp only [List.map_toArray,List.map_cons,List.map_nil]);first|done|rfl|(simp only [List.length_drop,List.length_take];rfl)) ?_;(with_reducible refine (Wa.calls k _ _ t103 t106 t107 _ _ t108 t111 _ ?Jc ?Ic ?ld ?jd A8.out).mono ?_);(case Jc=>repeat (first|exact (Kd.Mc Wd.out).2.2|(with_reducible refine Kd.Wb ?_ _)|(with_reducible refine Kd.Vb ?_ _)|(with_reducible refine Kd.Bc ?_)));(case Ic=>exact (Kd.Mc Wd.out).2.1);(case ld=>repeat (first|exact (Kd.Mc me.out).2.2|(with_reducible refine Kd.Wb ?_ _)|(with_reducible refine Kd.Vb ?_ _)|(with_reducible refine Kd.Bc ?_)));(case jd=>exact (Kd.Mc me.out).2.1);rintro e rq ⟨rfl,hb⟩;refine ⟨_,rfl,?_⟩;have Tb:=oa.mk (Kd.Pc (by (with_reducible repeat (first|apply Kd.Fb|apply Kd.Eb|apply Kd.Qb));exact Wd.out) hb);have Xb:=oa.mk (Kd.Pc (by (with_reducible repeat (first|apply Kd.Fb|apply Kd.Eb|apply Kd.Qb));exact me.out) hb);have tc:=oa.mk (jb (g:=Fa) (o:=.cells #[.slice yb Qa.length xb,.int .i64 Oa,.int .i64 Pa,.slice Db Ba.length zb] 32 (0,0)) (by (with_reducible repeat (first|refine Ca ?_ _|refine Ea ?_|refine Da ?_ _));exact ya.out) hb);have Ec:=oa.mk (Ta (by repeat (first|(with_reducible first|exact HB.out|apply ia|apply aa|apply qa|refine ua ?_ Ua.out)|exact HB.out)) hb);clear Wd me ya HB;have Wd:=Tb;have me:=Xb;have ya:=tc;have HB:=Ec;clear Tb Xb tc Ec;(try clear hb);(try clear hb2);(try clear hk);(try clear hi);have Fl:rq.cell? ⟨Fa,0,none⟩=some (.slice yb Qa.length xb):=(ja ya.out 0).trans rfl;have El:rq.cell? ⟨Fa,1,none⟩=some (.int .i64 Oa):=(ja ya.out 1).trans rfl;have Dl:rq.cell? ⟨Fa,2,none⟩=some (.int .i64 Pa):=(ja ya.out 2).trans rfl;have Cl:rq.cell? ⟨Fa,3,none⟩=some (.slice Db Ba.length zb):=(ja ya.out 3).trans rfl;have Al:=ga ya.out 0;have zl:=ga ya.out 1;have yl:=ga ya.out 2;have vl:=ga ya.out 3)|((with_reducible refine Lb (f:=12) rfl ?_);refine Xc (some 16) rfl rfl Tryd.func12 (by kernel_rfl) rfl #[.agg #[.slice yb Qa.length xb,.int .i64 Oa,.int .i64 Pa,.slice Db Ba.length zb]] rfl (by (try simp only [List.map_toArray,List.map_cons,List.map_nil]);first|done|rfl|(simp only [List.length_drop,List.length_take];rfl)) ?_;(with_reducible refine (Zb.calls k _ _ Qa Oa Pa _ _ Ba t112 t115 t116 t117 _ ?Jc ?Ic ?ld ?jd A9.out).mono ?_);(case Jc=>repeat (first|exact (Kd.Sb Xd.out HB.out)|(with_reducible refine Kd.Wb ?_ _)|(with_reducible refine Kd.Vb ?_ _)|(with_reducible refine Kd.Bc ?_)));(case Ic=>exact qe.out);(case ld=>repeat (first|exact (Kd.Sb Vd.out HB.out)|(with_reducible refine Kd.Wb ?_ _)|(with_reducible refine Kd.Vb ?_ _)|(with_reducible refine Kd.Bc ?_)));(case jd=>exact Qe.out);rintro e Eu ⟨oL,nL,rfl,Wp,Au,hb⟩;refine ⟨_,rfl,?_⟩;have Tb:=oa.mk (Kd.Sg (by (with_reducible repeat (first|apply Kd.Fb|apply Kd.Eb|apply Kd.Qb));exact Wd.out) (Kd.Jk Wp) hb);have Xb:=oa.mk (Kd.Sg (by (with_reducible repeat (first|apply Kd.Fb|apply Kd.Eb|apply Kd.Qb));exact me.out) (Kd.Jk Au) hb);have tc:=oa.mk (Kd.Be (Kd.Ik Wp (Kd.xu (by (with_reducible repeat (first|apply Kd.Fb|apply Kd.Eb|apply Kd.Qb));exact Wd.out))) (Ka (by repeat (first|(with_reducible first|exact HB.out|apply ia|apply aa|apply qa|refine ua ?_ Ua.out)|exact HB.out))));have Ec:=oa.mk (Kd.Be (Kd.Ik Au (Kd.xu (by (with_reducible repeat (first|apply Kd.Fb|apply Kd.Eb|apply Kd.Qb));exact me.out))) (Ka (by repeat (first|(with_reducible first|exact HB.out|apply ia|apply aa|apply qa|refine ua ?_ Ua.out)|exact HB.out))));have fe:=oa.mk (jb (g:=Fa) (o:=.cells #[.slice yb Qa.length xb,.int .i64 Oa,.int .i64 Pa,.slice Db Ba.length zb] 32 (0,0)) (by (with_reducible repeat (first|refine Ca ?_ _|refine Ea ?_|refine Da ?_ _));exact ya.out) hb);have Ae:=oa.mk (Ta (by repeat (first|(with_reducible first|exact HB.out|apply ia|apply aa|apply qa|refine ua ?_ Ua.out)|exact HB.out)) hb);clear Wd me ya HB;have Wd:=Tb;have me:=Xb;have Pe:=tc;have Oe:=Ec;have ya:=fe;have HB:=Ae;clear Tb Xb tc Ec fe Ae;(try clear hb);(try clear hb2);(try clear hk);(try clear hi);(try clear Wp);(try clear Au))|((with_reducible refine Nb (N:=5) rfl ?_);refine Jb ?hg (N:=5) ?hd (cs:=#[.slice none 0 0,.int .i64 0,.int .i64 0,.slice none 0 0]) (t:=37) ?hr ?_;(case hd=>rfl);(case hg=>rfl);(case hr=>first|(go_simp;done)|(go_simp;rfl));intro od hg Ov Rb hb;have Tb:=oa.mk (Kd.Pc (by (with_reducible repeat (first|apply Kd.Fb|apply Kd.Eb|apply Kd.Qb));exact Wd.out) hb);have Xb:=oa.mk (Kd.Pc (by (with_reducible repeat (first|apply Kd.Fb|apply Kd.Eb|apply Kd.Qb));exact me.out) hb);have tc:=oa.mk (Kd.Pc (by (with_reducible repeat (first|apply Kd.Fb|apply Kd.Eb|apply Kd.Qb));exact Pe.out) hb);have Ec:=oa.mk (Kd.Pc (by (with_reducible repeat (first|apply Kd.Fb|apply Kd.Eb|apply Kd.Qb));exact Oe.out) hb);have fe:=oa.mk (jb (g:=Fa) (o:=.cells #[.slice yb Qa.length xb,.int .i64 Oa,.int .i64 Pa,.slice Db Ba.length zb] 32 (0,0)) (by (with_reducible repeat (first|refine Ca ?_ _|refine Ea ?_|refine Da ?_ _));exact ya.out) hb);have Ae:=oa.mk (Ta (by repeat (first|(with_reducible first|exact HB.out|apply ia|apply aa|apply qa|refine ua ?_ Ua.out)|exact HB.out)) hb);have Me:=oa.mk (Rb);have Mm:=oa.mk ((by rw [hg];exact (Ka (by repeat (first|(with_reducible first|exact HB.out|apply ia|apply aa|apply qa|refine ua ?_ Ua.out)|exact HB.out))):w.heap.size ≤ od));have Sr:=oa.mk ((by rw [hg];exact (Ka (by repeat (first|(with_reducible first|exact HB.out|apply ia|apply aa|apply qa|refine ua ?_ Ua.out)|exact HB.out))):w.heap.size ≤ od));have Dy:=oa.mk ((by rw [hg];exact Nat.ne_of_lt (Dc (g:=Fa) (o:=.cells #[.slice yb Qa.length xb,.int .i64 Oa,.int .i64 Pa,.slice Db Ba.length zb] 32 (0,0)) (by (with_reducible repeat (first|refine Ca ?_ _|refine Ea ?_|refine Da ?_ _));exact ya.out)):Fa ≠ od));have fB:=oa.mk ((by rw [hg];exact Nat.ne_of_gt (Dc (g:=Fa) (o:=.cells #[.slice yb Qa.length xb,.int .i64 Oa,.int .i64 Pa,.slice Db Ba.length zb] 32 (0,0)) (by (with_reducible repeat (first|refine Ca ?_ _|refine Ea ?_|refine Da ?_ _));exact ya.out)):od ≠ Fa));clear Wd me Pe Oe ya HB;have Wd:=Tb;have me:=Xb;have Pe:=tc;have Oe:=Ec;have ya:=fe;have HB:=Ae;have td:=Me;have VK:=Mm;have en:=Sr;have Tg:=Dy;have yu:=fB;clear Tb Xb tc Ec fe Ae Me Mm Sr Dy fB hb Rb hg;obtain ⟨aj,Ki,WH⟩:=Kd.zf Pe.out;subst WH;have tJ:=yu.out;have VI:=Tg.out;have wG:Ov.cell? ⟨od,0,none⟩=some (.slice none 0 0):=(ja td.out 0).trans rfl;have vG:Ov.cell? ⟨od,1,none⟩=some (.int .i64 0):=(ja td.out 1).trans rfl;have uG:Ov.cell? ⟨od,2,none⟩=some (.int .i64 0):=(ja td.out 2).trans rfl;have tG:Ov.cell? ⟨od,3,none⟩=some (.slice none 0 0):=(ja td.out 3).trans rfl;have HE:=ga td.out 0;have FE:=ga td.out 1;have EE:=ga td.out 2;have DE:=ga td.out 3;obtain ⟨Ak,Zi,qA⟩:=Kd.zf Oe.out;subst qA)|((with_reducible refine Lb (f:=13) rfl ?_);refine Xc (some 18) rfl rfl Tryd.func13 (by kernel_rfl) rfl #[.agg #[.slice aj t112.length Ki,.int .i64 t115,.int .i64 t116,.slice Ak t117.length Zi]] rfl (by (try simp only [List.map_toArray,List.map_cons,List.map_nil]);first|done|rfl|(simp only [List.length_drop,List.length_take];rfl)) ?_;(with_reducible refine (Xa.calls k _ _ t112 t115 t116 _ _ t117 t121 _ ?Jc ?Ic ?ld ?jd sM.out).mono ?_);(case Jc=>refine (Kd.Mc (e:=3) (base:=w.heap.size) (ok:=fun k_=>(True∧some k_ ≠ (.slice QC t103.length SB:Value).ownBlock)) (n:=t112.length) (c:=Ki) ?_).2.2;exact (by (with_reducible repeat (first|apply Kd.Fb|apply Kd.Eb|apply Kd.Qb));exact (Kd.Te (Kd.Qc (p:=⟨od,3,none⟩) (Kd.Qc (p:=⟨od,2,none⟩) (Kd.Qc (p:=⟨od,1,none⟩) (Kd.Qc (p:=⟨od,0,none⟩) (Kd.Ke Pe.out td.out (by decide)) (fun _ hk=>hk.2) (.slice aj t112.length Ki)) (fun _ hk=>hk.2) (.int .i64 t115)) (fun _ hk=>hk.2) (.int .i64 t116)) (fun _ hk=>hk.2) (.slice Ak t117.length Zi)) (fun _ h_=>h_.1))));(case Ic=>exact (Kd.Mc Pe.out).2.1);(case ld=>refine (Kd.Mc (e:=53) (base:=w.heap.size) (ok:=fun k_=>(True∧some k_ ≠ (.slice PC t108.length RB:Value).ownBlock)) (n:=t117.length) (c:=Zi) ?_).2.2;exact (by (with_reducible repeat (first|apply Kd.Fb|apply Kd.Eb|apply Kd.Qb));exact (Kd.Te (Kd.Qc (p:=⟨od,3,none⟩) (Kd.Qc (p:=⟨od,2,none⟩) (Kd.Qc (p:=⟨od,1,none⟩) (Kd.Qc (p:=⟨od,0,none⟩) (Kd.Ke Oe.out td.out (by decide)) (fun _ hk=>hk.2) (.slice aj t112.length Ki)) (fun _ hk=>hk.2) (.int .i64 t115)) (fun _ hk=>hk.2) (.int .i64 t116)) (fun _ hk=>hk.2) (.slice Ak t117.length Zi)) (fun _ h_=>h_.1))));(case jd=>exact (Kd.Mc Oe.out).2.1);rintro e vI ⟨rfl,hb⟩;refine ⟨_,rfl,?_⟩;have Tb:=oa.mk (Kd.Pc (by (with_reducible repeat (first|apply Kd.Fb|apply Kd.Eb|apply Kd.Qb));exact (Kd.Te (Kd.Qc (p:=⟨od,3,none⟩) (Kd.Qc (p:=⟨od,2,none⟩) (Kd.Qc (p:=⟨od,1,none⟩) (Kd.Qc (p:=⟨od,0,none⟩) (Kd.Ke Wd.out td.out (by decide)) (fun _ hk=>hk.2) (.slice aj t112.length Ki)) (fun _ hk=>hk.2) (.int .i64 t115)) (fun _ hk=>hk.2) (.int .i64 t116)) (fun _ hk=>hk.2) (.slice Ak t117.length Zi)) (fun _ h_=>h_.1))) hb);have Xb:=oa.mk (Kd.Pc (by (with_reducible repeat (first|apply Kd.Fb|apply Kd.Eb|apply Kd.Qb));exact (Kd.Te (Kd.Qc (p:=⟨od,3,none⟩) (Kd.Qc (p:=⟨od,2,none⟩) (Kd.Qc (p:=⟨od,1,none⟩) (Kd.Qc (p:=⟨od,0,none⟩) (Kd.Ke me.out td.out (by decide)) (fun _ hk=>hk.2) (.slice aj t112.length Ki)) (fun _ hk=>hk.2) (.int .i64 t115)) (fun _ hk=>hk.2) (.int .i64 t116)) (fun _ hk=>hk.2) (.slice Ak t117.length Zi)) (fun _ h_=>h_.1))) hb);have tc:=oa.mk (Kd.Pc (by (with_reducible repeat (first|apply Kd.Fb|apply Kd.Eb|apply Kd.Qb));exact (Kd.Te (Kd.Qc (p:=⟨od,3,none⟩) (Kd.Qc (p:=⟨od,2,none⟩) (Kd.Qc (p:=⟨od,1,none⟩) (Kd.Qc (p:=⟨od,0,none⟩) (Kd.Ke Pe.out td.out (by decide)) (fun _ hk=>hk.2) (.slice aj t112.length Ki)) (fun _ hk=>hk.2) (.int .i64 t115)) (fun _ hk=>hk.2) (.int .i64 t116)) (fun _ hk=>hk.2) (.slice Ak t117.length Zi)) (fun _ h_=>h_.1))) hb);have Ec:=oa.mk (Kd.Pc (by (with_reducible repeat (first|apply Kd.Fb|apply Kd.Eb|apply Kd.Qb));exact (Kd.Te (Kd.Qc (p:=⟨od,3,none⟩) (Kd.Qc (p:=⟨od,2,none⟩) (Kd.Qc (p:=⟨od,1,none⟩) (Kd.Qc (p:=⟨od,0,none⟩) (Kd.Ke Oe.out td.out (by decide)) (fun _ hk=>hk.2) (.slice aj t112.length Ki)) (fun _ hk=>hk.2) (.int .i64 t115)) (fun _ hk=>hk.2) (.int .i64 t116)) (fun _ hk=>hk.2) (.slice Ak t117.length Zi)) (fun _ h_=>h_.1))) hb);have fe:=oa.mk (jb (g:=Fa) (o:=.cells #[.slice yb Qa.length xb,.int .i64 Oa,.int .i64 Pa,.slice Db Ba.length zb] 32 (0,0)) (by (with_reducible repeat (first|refine Ca ?_ _|refine Ea ?_|refine Da ?_ _));refine Vc ?_ Tg.out _;(with_reducible repeat (first|refine Ca ?_ _|refine Ea ?_|refine Da ?_ _));refine Vc ?_ Tg.out _;(with_reducible repeat (first|refine Ca ?_ _|refine Ea ?_|refine Da ?_ _));refine Vc ?_ Tg.out _;(with_reducible repeat (first|refine Ca ?_ _|refine Ea ?_|refine Da ?_ _));refine Vc ?_ Tg.out _;(with_reducible repeat (first|refine Ca ?_ _|refine Ea ?_|refine Da ?_ _));exact ya.out) hb);have Ae:=oa.mk (jb (g:=od) (o:=.cells #[.slice aj t112.length Ki,.int .i64 t115,.int .i64 t116,.slice Ak t117.length Zi] 37 (0,0)) (by (with_reducible repeat (first|refine Ca ?_ _|refine Ea ?_|refine Da ?_ _));refine Uc (cs:=#[.slice aj t112.length Ki,.int .i64 t115,.int .i64 t116,.slice none 0 0]) ?_ 3 _ rfl;(with_reducible repeat (first|refine Ca ?_ _|refine Ea ?_|refine Da ?_ _));refine Uc (cs:=#[.slice aj t112.length Ki,.int .i64 t115,.int .i64 0,.slice none 0 0]) ?_ 2 _ rfl;(with_reducible repeat (first|refine Ca ?_ _|refine Ea ?_|refine Da ?_ _));refine Uc (cs:=#[.slice aj t112.length Ki,.int .i64 0,.int .i64 0,.slice none 0 0]) ?_ 1 _ rfl;(with_reducible repeat (first|refine Ca ?_ _|refine Ea ?_|refine Da ?_ _));refine Uc (cs:=#[.slice none 0 0,.int .i64 0,.int .i64 0,.slice none 0 0]) ?_ 0 _ rfl;(with_reducible repeat (first|refine Ca ?_ _|refine Ea ?_|refine Da ?_ _));exact td.out) hb);have Me:=oa.mk (Ta (by repeat (first|(with_reducible first|exact HB.out|apply ia|apply aa|apply qa|refine ua ?_ Ua.out|refine ua ?_ en.out)|exact HB.out)) hb);clear Wd me Pe Oe ya td HB;have Wd:=Tb;have me:=Xb;have Pe:=tc;have Oe:=Ec;have ya:=fe;have td:=Ae;have HB:=Me;clear Tb Xb tc Ec fe Ae Me;(try clear hb);(try clear hb2);(try clear hk);(try clear hi)))
    have Tb:=oa.mk (Kd.Qb Wd.out);have Xb:=oa.mk (Kd.Qb me.out);have tc:=oa.mk (Kd.Qb Pe.out);have Ec:=oa.mk (Kd.Qb Oe.out);have fe:=oa.mk (Ea ya.out);have Ae:=oa.mk (Ea td.out);have Me:=oa.mk (qa HB.out);clear Wd me Pe Oe ya td HB;have Wd:=Tb;have me:=Xb;have Pe:=tc;have Oe:=Ec;have ya:=fe;have td:=Ae;have HB:=Me;clear Tb Xb tc Ec fe Ae Me;refine Ui (n:=5) (S:=fun w'=>w'.cell? ⟨od,0,none⟩=some (.slice aj t112.length Ki)∧w'.cell? ⟨od,1,none⟩=some (.int .i64 t115)∧w'.cell? ⟨od,2,none⟩=some (.int .i64 t116)∧w'.cell? ⟨od,3,none⟩=some (.slice Ak t117.length Zi)∧w'.cell? ⟨Fa,0,none⟩=some (.slice yb Qa.length xb)∧w'.cell? ⟨Fa,1,none⟩=some (.int .i64 Oa)∧w'.cell? ⟨Fa,2,none⟩=some (.int .i64 Pa)∧w'.cell? ⟨Fa,3,none⟩=some (.slice Db Ba.length zb)) (ds:=[]) #[false,false,false,false,false] (by kernel_rfl) rfl rfl ⟨(ja td.out 0).trans rfl,(ja td.out 1).trans rfl,(ja td.out 2).trans rfl,(ja td.out 3).trans rfl,(ja ya.out 0).trans rfl,(ja ya.out 1).trans rfl,(ja ya.out 2).trans rfl,(ja ya.out 3).trans rfl⟩ (fun hHeld=>?_);generalize vI.drew=uI at Wd me Pe Oe ya td HB hHeld ⊢;refine Le (i:=0) (N:=some 22) (v:=?_) (a':=?_) #[true,false,false,false,false] rfl rfl (by kernel_rfl) (fun _ _ _ h=>h) (Or.inl ⟨by rfl,?_⟩) hHeld ?_ ?_;rotate_left
    ·rintro w' ⟨s0,s1,s2,s3,s4,s5,s6,s7⟩;go_simp;with_reducible rfl
    rotate_left
    ·simp only [Act.put,List.setIfInBounds_toArray,List.set_cons_zero,List.set_cons_succ,Kb,Mb]
     rfl
    refine Le (i:=1) (N:=some 23) (v:=?_) (a':=?_) #[true,true,false,false,false] rfl rfl (by kernel_rfl) (fun _ _ _ h=>h) (Or.inl ⟨by rfl,?_⟩) hHeld ?_ ?_;rotate_left
    ·rintro w' ⟨s0,s1,s2,s3,s4,s5,s6,s7⟩;go_simp;with_reducible rfl
    rotate_left
    ·simp only [Act.put,List.setIfInBounds_toArray,List.set_cons_zero,List.set_cons_succ,Kb,Mb]
     rfl
    refine Zk (i:=2) (N:=some 24) #[true,true,true,false,false] rfl rfl (by kernel_rfl) (by decide) (fun K hK=>?_);refine Gh Tryd.func12 (by kernel_rfl) rfl #[.agg #[.slice yb Qa.length xb,.int .i64 Oa,.int .i64 Pa,.slice Db Ba.length zb]] (by rfl) rfl rfl (by (try simp only [List.map_toArray,List.map_cons,List.map_nil]);first|done|rfl|(simp only [List.length_drop,List.length_take];rfl)) ?_;with_reducible refine (Zb.calls k _ _ Qa Oa Pa _ _ Ba t122 t125 t126 t127 _ ?Jc ?Ic ?ld ?jd rM.out).mono ?_
    (case Jc=>repeat (first|exact (Kd.Sb Xd.out HB.out)|(with_reducible refine Kd.Wb ?_ _)|(with_reducible refine Kd.Vb ?_ _)|(with_reducible refine Kd.Bc ?_)))
    (case Ic=>exact qe.out)
    (case ld=>repeat (first|exact (Kd.Sb Vd.out HB.out)|(with_reducible refine Kd.Wb ?_ _)|(with_reducible refine Kd.Vb ?_ _)|(with_reducible refine Kd.Bc ?_)))
    (case jd=>exact Qe.out)
    rintro e Qv ⟨mL,kL,rfl,Wp,Au,hb⟩;refine ⟨_,rfl,?_⟩;have Tb:=oa.mk (Kd.Sg (by (with_reducible repeat (first|apply Kd.Fb|apply Kd.Eb|apply Kd.Qb));exact Wd.out) (Kd.Jk Wp) hb);have Xb:=oa.mk (Kd.Sg (by (with_reducible repeat (first|apply Kd.Fb|apply Kd.Eb|apply Kd.Qb));exact me.out) (Kd.Jk Au) hb);have tc:=oa.mk (Kd.Sg (by (with_reducible repeat (first|apply Kd.Fb|apply Kd.Eb|apply Kd.Qb));exact Pe.out) (Kd.Jk Wp) hb);have Ec:=oa.mk (Kd.Sg (by (with_reducible repeat (first|apply Kd.Fb|apply Kd.Eb|apply Kd.Qb));exact Oe.out) (Kd.Jk Au) hb);have fe:=oa.mk (Kd.Be (Kd.Ik (Kd.Ik Wp (Kd.xu (by (with_reducible repeat (first|apply Kd.Fb|apply Kd.Eb|apply Kd.Qb));exact Wd.out))) (Kd.xu (by (with_reducible repeat (first|apply Kd.Fb|apply Kd.Eb|apply Kd.Qb));exact Pe.out))) (Ka (by repeat (first|(with_reducible first|exact HB.out|apply ia|apply aa|apply qa|refine ua ?_ Ua.out|refine ua ?_ en.out)|exact HB.out))));have Ae:=oa.mk (Kd.Be (Kd.Ik (Kd.Ik Au (Kd.xu (by (with_reducible repeat (first|apply Kd.Fb|apply Kd.Eb|apply Kd.Qb));exact me.out))) (Kd.xu (by (with_reducible repeat (first|apply Kd.Fb|apply Kd.Eb|apply Kd.Qb));exact Oe.out))) (Ka (by repeat (first|(with_reducible first|exact HB.out|apply ia|apply aa|apply qa|refine ua ?_ Ua.out|refine ua ?_ en.out)|exact HB.out))));have Me:=oa.mk (jb (g:=Fa) (o:=.cells #[.slice yb Qa.length xb,.int .i64 Oa,.int .i64 Pa,.slice Db Ba.length zb] 32 (0,0)) (by (with_reducible repeat (first|refine Ca ?_ _|refine Ea ?_|refine Da ?_ _));exact ya.out) hb);have Mm:=oa.mk (jb (g:=od) (o:=.cells #[.slice aj t112.length Ki,.int .i64 t115,.int .i64 t116,.slice Ak t117.length Zi] 37 (0,0)) (by (with_reducible repeat (first|refine Ca ?_ _|refine Ea ?_|refine Da ?_ _));exact td.out) hb);have Sr:=oa.mk (Ta (by repeat (first|(with_reducible first|exact HB.out|apply ia|apply aa|apply qa|refine ua ?_ Ua.out|refine ua ?_ en.out)|exact HB.out)) hb);clear Wd me Pe Oe ya td HB;have Wd:=Tb;have me:=Xb;have Pe:=tc;have Oe:=Ec;have dn:=fe;have cn:=Ae;have ya:=Me;have td:=Mm;have HB:=Sr;clear Tb Xb tc Ec fe Ae Me Mm Sr;(try clear hb);(try clear hb2);(try clear hk);(try clear hi);(try clear Wp);(try clear Au);obtain ⟨qI,gI,OB⟩:=Kd.zf dn.out;(first|subst OB|(injection OB with Yu nA Xu;have mA:=Yu.symm;have lA:=Xu.symm;clear Yu nA Xu;subst mA;subst lA));obtain ⟨pI,fI,NB⟩:=Kd.zf cn.out;(first|subst NB|(injection NB with Yu nA Xu;have mA:=Yu.symm;have lA:=Xu.symm;clear Yu nA Xu;subst mA;subst lA));refine hK.out _ _ ⟨(ja td.out 0).trans rfl,(ja td.out 1).trans rfl,(ja td.out 2).trans rfl,(ja td.out 3).trans rfl,(ja ya.out 0).trans rfl,(ja ya.out 1).trans rfl,(ja ya.out 2).trans rfl,(ja ya.out 3).trans rfl⟩ (fun hHeld=>?_);clear hK K;refine Fh (a':=?_) ?_ ?_;rotate_left
    ·show Act.put _ (some 24) _=_
     simp only [Act.put,List.setIfInBounds_toArray,List.set_cons_zero,List.set_cons_succ,Kb,Mb]
     rfl
    refine Zk (i:=3) (N:=some 25) #[true,true,true,true,false] rfl rfl (by kernel_rfl) (by decide) (fun K hK=>?_);refine Gh Tryd.func14 (by kernel_rfl) rfl #[.agg #[.slice aj t112.length Ki,.int .i64 t115,.int .i64 t116,.slice Ak t117.length Zi],.agg #[.slice qI t122.length gI,.int .i64 t125,.int .i64 t126,.slice pI t127.length fI]] (by rfl) rfl rfl (by (try simp only [List.map_toArray,List.map_cons,List.map_nil]);first|done|rfl|(simp only [List.length_drop,List.length_take];rfl)) ?_;with_reducible refine (Rc.calls k _ _ t112 t115 t116 _ _ t117 _ _ t122 t125 t126 _ _ t127 true _ ?Jc ?Ic ?ld ?jd ?dB ?cB ?bB ?aB RA.out).mono ?_
    (case Jc=>repeat (first|exact (Kd.Mc Pe.out).2.2|(with_reducible refine Kd.Wb ?_ _)|(with_reducible refine Kd.Vb ?_ _)|(with_reducible refine Kd.Bc ?_)))
    (case Ic=>exact (Kd.Mc Pe.out).2.1)
    (case ld=>repeat (first|exact (Kd.Mc Oe.out).2.2|(with_reducible refine Kd.Wb ?_ _)|(with_reducible refine Kd.Vb ?_ _)|(with_reducible refine Kd.Bc ?_)))
    (case jd=>exact (Kd.Mc Oe.out).2.1)
    (case dB=>repeat (first|exact (Kd.Mc dn.out).2.2|(with_reducible refine Kd.Wb ?_ _)|(with_reducible refine Kd.Vb ?_ _)|(with_reducible refine Kd.Bc ?_)))
    (case cB=>exact (Kd.Mc dn.out).2.1)
    (case bB=>repeat (first|exact (Kd.Mc cn.out).2.2|(with_reducible refine Kd.Wb ?_ _)|(with_reducible refine Kd.Vb ?_ _)|(with_reducible refine Kd.Bc ?_)))
    (case aB=>exact (Kd.Mc cn.out).2.1)
    rintro e vM ⟨rfl,hb⟩;refine ⟨_,rfl,?_⟩;have Tb:=oa.mk (Kd.Pc (by (with_reducible repeat (first|apply Kd.Fb|apply Kd.Eb|apply Kd.Qb));exact Wd.out) hb);have Xb:=oa.mk (Kd.Pc (by (with_reducible repeat (first|apply Kd.Fb|apply Kd.Eb|apply Kd.Qb));exact me.out) hb);have tc:=oa.mk (Kd.Pc (by (with_reducible repeat (first|apply Kd.Fb|apply Kd.Eb|apply Kd.Qb));exact Pe.out) hb);have Ec:=oa.mk (Kd.Pc (by (with_reducible repeat (first|apply Kd.Fb|apply Kd.Eb|apply Kd.Qb));exact Oe.out) hb);have fe:=oa.mk (Kd.Pc (by (with_reducible repeat (first|apply Kd.Fb|apply Kd.Eb|apply Kd.Qb));exact dn.out) hb);have Ae:=oa.mk (Kd.Pc (by (with_reducible repeat (first|apply Kd.Fb|apply Kd.Eb|apply Kd.Qb));exact cn.out) hb);have Me:=oa.mk (jb (g:=Fa) (o:=.cells #[.slice yb Qa.length xb,.int .i64 Oa,.int .i64 Pa,.slice Db Ba.length zb] 32 (0,0)) (by (with_reducible repeat (first|refine Ca ?_ _|refine Ea ?_|refine Da ?_ _));exact ya.out) hb);have Mm:=oa.mk (jb (g:=od) (o:=.cells #[.slice aj t112.length Ki,.int .i64 t115,.int .i64 t116,.slice Ak t117.length Zi] 37 (0,0)) (by (with_reducible repeat (first|refine Ca ?_ _|refine Ea ?_|refine Da ?_ _));exact td.out) hb);have Sr:=oa.mk (Ta (by repeat (first|(with_reducible first|exact HB.out|apply ia|apply aa|apply qa|refine ua ?_ Ua.out|refine ua ?_ en.out)|exact HB.out)) hb);clear Wd me Pe Oe dn cn ya td HB;have Wd:=Tb;have me:=Xb;have Pe:=tc;have Oe:=Ec;have dn:=fe;have cn:=Ae;have ya:=Me;have td:=Mm;have HB:=Sr;clear Tb Xb tc Ec fe Ae Me Mm Sr;(try clear hb);(try clear hb2);(try clear hk);(try clear hi);refine hK.out _ _ ⟨(ja td.out 0).trans rfl,(ja td.out 1).trans rfl,(ja td.out 2).trans rfl,(ja td.out 3).trans rfl,(ja ya.out 0).trans rfl,(ja ya.out 1).trans rfl,(ja ya.out 2).trans rfl,(ja ya.out 3).trans rfl⟩ (fun hHeld=>?_);clear hK K;refine Fh (a':=?_) ?_ ?_;rotate_left
    ·show Act.put _ (some 25) _=_
     simp only [Act.put,List.setIfInBounds_toArray,List.set_cons_zero,List.set_cons_succ,Kb,Mb]
     rfl
    refine Gc (i:=4) (N:=some 26) (v:=?_) (a':=?_) #[true,true,true,true,true] rfl rfl (by kernel_rfl) (fun _ _ _ h=>h) (Or.inl ⟨by rfl,?_⟩) ?_ ?_;rotate_left
    ·intro w';go_simp;with_reducible rfl
    rotate_left
    ·simp only [Act.put,List.setIfInBounds_toArray,List.set_cons_zero,List.set_cons_succ,Kb,Mb]
     rfl
    refine gm (by kernel_rfl) ?_
    try go_wp2
    go_ret;exact ⟨by first|rfl|(simp [Ja,Ia] <;> rfl)|(simp [*,Ja,Ia] <;> rfl),by repeat (first|(with_reducible first|exact HB.out|apply ia|apply aa|apply qa|refine ua ?_ Ua.out|refine ua ?_ en.out)|exact HB.out)⟩
   ·replace c14:=Bool.eq_false_iff.mpr c14;subst c14;have H1:(none)=some r:=by rw [if_neg (show ¬ (false=true) by decide)] at H;exact H
    clear H;have H:=H1;clear H1;exact absurd H (by simp)
  ·rw [if_neg c11] at H;exact absurd H (by simp)
theorem Ev.pos {α:Type} {c:Prop} [Decidable c] {f g:Nat→Option α} {r:α} (h:c) (k:Ev f r):Ev (fun n=>if c then f n else g n) r:=Ev.congr (fun n=>if_pos h) k
theorem Ev.neg {α:Type} {c:Prop} [Decidable c] {f g:Nat→Option α} {r:α} (h:¬ c) (k:Ev g r):Ev (fun n=>if c then f n else g n) r:=Ev.congr (fun n=>if_neg h) k
theorem Ev.val {α β:Type} {a:α} {f:Nat→α→Option β} {r:β} (k:Ev (fun n=>f n a) r):Ev (fun n=>(some a).bind (f n)) r:=Ev.congr (fun n=>rfl) k
theorem We {x:Int} (h:-9223372036854775808 ≤ x) (h':x ≤ 9223372036854775807):wrap64 x=x:=by
 unfold wrap64;omega
theorem Ie {i n:Nat} (h:i < n) (hn:n ≤ 9223372036854775807):wrap64 ((i:Int) + 1)=((i + 1:Nat):Int):=by
 rw [We (by omega) (by omega)];omega
theorem Ii {ρ:Type} {n:Nat} {r:ρ} (P:Nat→Prop) (hend:P n) (hstep:∀ i,i < n→P (i + 1)→P i):∀ i,i ≤ n→P i:=by
 have key:∀ d i,i + d=n→P i:=by
  intro d
  induction d with
  | zero =>
   intro i hi;have:i=n:=by omega
   exact this ▸ hend
  | succ d ih =>
   intro i hi;exact hstep i (by omega) (ih (i + 1) (by omega))
 intro i hi;exact key (n - i) i (by omega)
theorem aq {α:Type} {m:List α} {z:α} {i:Nat} (h:i < m.length):(m.take i ++ List.replicate (m.length - i) z).set i (m.getD i z)=m.take (i + 1) ++ List.replicate (m.length - (i + 1)) z:=by
 rw [List.set_append_right _ _ (by rw [List.length_take];omega),List.length_take,Nat.min_eq_left (by omega),Nat.sub_self];rw [show m.length - i=(m.length - (i + 1)) + 1 from by omega,List.replicate_succ,List.set_cons_zero,List.take_succ_eq_append_getElem h,List.append_assoc];simp [List.getD_eq_getElem?_getD,List.getElem?_eq_getElem h]
theorem lu {α:Type} {m:List α} {z:α}:m.take 0 ++ List.replicate (m.length - 0) z=List.replicate m.length z:=by simp
theorem bq {α:Type} {m:List α} {z:α}:m.take m.length ++ List.replicate (m.length - m.length) z=m:=by simp
theorem Lz (l:List Int) (i:Nat):rd l (i:Int)=l.getD i 0:=rfl
def txt (l:List UInt8):ByteArray:=⟨l.toArray⟩
theorem jl (a b:List UInt8):txt a ++ txt b=txt (a ++ b):=by
 apply ByteArray.ext;simp [txt,ByteArray.data_append]
theorem Hf (a:List UInt8):(txt a).size=a.length:=by simp [txt,ByteArray.size]
theorem Wo (d:Nat) (h:d < 10):(⟨#[48,49,50,51,52,53,54,55,56,57]⟩:ByteArray).extract d (d + 1)=txt [UInt8.ofNat (48 + d)]:=by
 rcases d with _ | _ | _ | _ | _ | _ | _ | _ | _ | _|d
 all_goals first|rfl|(exfalso;omega)
theorem Jg (u:Nat) (h:u < 18446744073709551616):(Lib.decDigits u).length ≤ 20:=by
 rw [Lib.decDigits_length];exact Lib.nDigits_le20 u h
theorem gv (u:Nat) (h:0 < u):(if u / 10=0 then [] else Lib.decDigits (u / 10)) ++ [UInt8.ofNat (48 + u % 10)]=Lib.decDigits u:=by
 by_cases h1:u < 10
 ·rw [if_pos (by omega),Lib.decDigits_one h1,Nat.mod_eq_of_lt h1]
  rfl
 ·rw [if_neg (by omega)]
  conv=>rhs;rw [Lib.decDigits,dif_neg h1]
theorem Hu (n m:Int) (d q:Nat) (acc:List UInt8) (r:ByteArray) (hm:¬ m=0) (ht:Int.tmod m 10 = -(d:Int)) (hq:Int.tdiv m 10 = -(q:Int)) (hd:d < 10) (hb:q ≤ 9223372036854775807) (hl:acc.length ≤ 1000)
  (he:Ev (fun k=>Ya.l0 k n (txt ([UInt8.ofNat (48 + d)] ++ acc)) (-(q:Int))) r):Ev (fun k=>Ya.l0 k n (txt acc) m) r:=by
 have hw:wrap64 (-(q:Int)) = -(q:Int):=We (by omega) (by omega);refine Ev.step (fun k=>by rw [Ya.l0]) ?_;refine Ev.neg hm ?_;rw [hq,hw,ht]
 rcases Nat.eq_zero_or_pos d with h0|h0
 ·subst h0;rw [show -((0:Nat):Int)=0 from rfl,show wrap64 ((0:Int) + 1)=1 from by rw [We (by omega) (by omega)];rfl];refine Ev.neg (by decide) (Ev.pos (by decide) (Ev.pos (by decide) (Ev.pos (by decide) ?_)));rw [show (0:Int).toNat=0 from rfl,show (1:Int).toNat=0 + 1 from rfl,Wo 0 (by decide)];refine Ev.pos (by rw [Hf,Hf,List.length_singleton];omega) ?_;rw [jl];exact he
 ·have e1:wrap64 (-(-(d:Int)))=(d:Int):=by rw [We (by omega) (by omega)];omega
  have e2:wrap64 ((d:Int) + 1)=((d + 1:Nat):Int):=by rw [We (by omega) (by omega)];omega
  rw [e1,e2];refine Ev.pos (by omega) (Ev.pos (by omega) (Ev.pos (by omega) (Ev.pos (by omega) ?_)));rw [Int.toNat_natCast,Int.toNat_natCast,Wo d hd];refine Ev.pos (by rw [Hf,Hf,List.length_singleton];omega) ?_;rw [jl];exact he
theorem Gu (n m:Int) (d q:Nat) (acc:List UInt8) (r:ByteArray) (hm:¬ m=0) (ht:Int.tmod m 10=(d:Int)) (hq:Int.tdiv m 10=(q:Int)) (hd:d < 10) (hb:q ≤ 9223372036854775807) (hl:acc.length ≤ 1000)
  (he:Ev (fun k=>Ya.l0 k n (txt ([UInt8.ofNat (48 + d)] ++ acc)) (q:Int)) r):Ev (fun k=>Ya.l0 k n (txt acc) m) r:=by
 have hw:wrap64 (q:Int)=(q:Int):=We (by omega) (by omega);refine Ev.step (fun k=>by rw [Ya.l0]) ?_;refine Ev.neg hm ?_;rw [hq,hw,ht];have e2:wrap64 ((d:Int) + 1)=((d + 1:Nat):Int):=by rw [We (by omega) (by omega)];omega
 rw [e2];refine Ev.neg (by omega) (Ev.pos (by omega) (Ev.pos (by omega) (Ev.pos (by omega) ?_)));rw [Int.toNat_natCast,Int.toNat_natCast,Wo d hd];refine Ev.pos (by rw [Hf,Hf,List.length_singleton];omega) ?_;rw [jl];exact he
theorem oA (n:Int) (r:ByteArray):∀ (u:Nat) (m:Int) (acc:List UInt8),m.natAbs=u→-9223372036854775808 ≤ m→m ≤ 9223372036854775807→acc.length + (if u=0 then [] else Lib.decDigits u).length ≤ 1000 →
  Ev (fun k=>Ya.l0 k n (txt ((if u=0 then [] else Lib.decDigits u) ++ acc)) 0) r→Ev (fun k=>Ya.l0 k n (txt acc) m) r:=by
 intro u
 induction u using Nat.strongRecOn with
 | ind u ih =>
  intro m acc hu hlo hhi hlen he
  by_cases h0:u=0
  ·have hm:m=0:=by omega
   rw [if_pos h0,List.nil_append] at he;rw [hm];exact he
  ·rw [if_neg h0] at he hlen;have hst:=gv u (by omega);have EJ:(Lib.decDigits u).length=(if u / 10=0 then [] else Lib.decDigits (u / 10)).length + 1:=by rw [← hst,List.length_append,List.length_singleton]
   have hd:u % 10 < 10:=Nat.mod_lt _ (by decide)
   have next:∀ m':Int,m'.natAbs=u / 10→-9223372036854775808 ≤ m'→m' ≤ 9223372036854775807→Ev (fun k=>Ya.l0 k n (txt ([UInt8.ofNat (48 + u % 10)] ++ acc)) m') r:=by
    intro m' e1 e3 e4;refine ih (u / 10) (by omega) m' _ e1 e3 e4 (by rw [List.length_append,List.length_singleton];omega) ?_;rw [← List.append_assoc,hst];exact he
   by_cases hneg:m < 0
   ·have zB:m = -(u:Int):=by omega
    refine Hu n m (u % 10) (u / 10) acc r (by omega) (by rw [zB,Int.neg_tmod];rfl) (by rw [zB,Int.neg_tdiv];rfl) hd (by omega) (by omega) (next _ (by omega) (by omega) (by omega))
   ·have zB:m=(u:Int):=by omega
    refine Gu n m (u % 10) (u / 10) acc r (by omega) (by rw [zB];rfl) (by rw [zB];rfl) hd (by omega) (by omega) (next _ (by omega) (by omega) (by omega))
theorem Tu (n:Int) (h0:-9223372036854775808 ≤ n) (h1:n ≤ 9223372036854775807):(Lib.itoa n).length ≤ 21:=by
 unfold Lib.itoa
 split
 ·rw [List.length_cons];have:=Jg n.natAbs (by omega);omega
 ·have:=Jg n.toNat (by omega);omega
theorem zg (n:Int) (h0:-9223372036854775808 ≤ n) (h1:n ≤ 9223372036854775807):Ev (fun k=>Ya.f k n) (txt (Lib.itoa n)):=by
 unfold Ya.f
 by_cases hz:n=0
 ·refine Ev.pos hz ?_;rw [hz,show Lib.itoa 0=[48] from by unfold Lib.itoa;rw [if_neg (by decide)];exact Lib.decDigits_one (by decide)];exact Ev.now _
 ·refine Ev.neg hz ?_;have hl:=Jg n.natAbs (by omega);refine oA n _ n.natAbs n [] rfl h0 h1 (by rw [if_neg (by omega),List.length_nil];omega) ?_;rw [if_neg (by omega),List.append_nil];refine Ev.step (fun k=>by rw [Ya.l0]) ?_;refine Ev.pos rfl ?_
  by_cases hneg:n < 0
  ·rw [show Lib.itoa n=45 :: Lib.decDigits n.natAbs from by unfold Lib.itoa;rw [if_pos hneg]];refine Ev.pos hneg (Ev.pos (by rw [Hf];omega) ?_);rw [show (⟨#[45]⟩:ByteArray)=txt [45] from rfl,jl];exact Ev.now _
  ·rw [show Lib.itoa n=Lib.decDigits n.natAbs from by unfold Lib.itoa;rw [if_neg hneg,show n.toNat=n.natAbs from by omega]];exact Ev.neg hneg (Ev.now _)
theorem nu (l:List Int) (hl:l.length ≤ 35184372088832):Ev (fun k=>yc.f k l) l:=by
 refine Ev.congr (f:=fun k=>yc.l0 k l (List.replicate l.length 0) 0) (fun k=>?_) ?_
 ·unfold yc.f;rw [if_pos (by omega),if_pos (by omega)]
  rfl
 ·have key:=Ii (r:=l) (n:=l.length) (fun i=>Ev (fun k=>yc.l0 k l (l.take i ++ List.replicate (l.length - i) 0) (i:Int)) l) ?_ ?_ 0 (by omega)
  ·simpa using key
  ·refine Ev.step (fun k=>by rw [yc.l0]) ?_;refine Ev.neg (by omega) ?_;rw [bq];exact Ev.now l
  ·intro i hi h;refine Ev.step (fun k=>by rw [yc.l0]) ?_;refine Ev.pos (by omega) (Ev.pos (by omega) (Ev.pos (by simp;omega) ?_));rw [Ie hi (by omega),Lz,Int.toNat_natCast,aq hi];exact h
theorem ou (l:List Int) (hl:l.length ≤ 9223372036854775807):Ev (fun k=>mc.f k l l) true:=by
 refine Ev.congr (f:=fun k=>mc.l0 k l l 0) (fun k=>?_) ?_
 ·unfold mc.f;rw [if_pos rfl]
 ·refine Ii (r:=true) (n:=l.length) (fun i=>Ev (fun k=>mc.l0 k l l (i:Int)) true) ?_ ?_ 0 (by omega)
  ·refine Ev.step (fun k=>by rw [mc.l0]) ?_;exact Ev.neg (by omega) (Ev.now _)
  ·intro i hi h;refine Ev.step (fun k=>by rw [mc.l0]) ?_;refine Ev.pos (by omega) (Ev.pos (by omega) (Ev.pos (by omega) (Ev.pos rfl ?_)));rw [Ie hi hl];exact h
theorem Tv (l:List Int) (a:Int) (ha:0 ≤ a) (ha':a ≤ 1048576) (hl:l.length ≤ 9223372036854775807):∃ t,Sd.f l a=some t∧t ≤ a∧(0 ≤ t→t + l.length=a):=by
 unfold Sd.f;rw [We (by omega) (by omega)]
 split
 ·exact ⟨-1,rfl,by omega,by omega⟩
 ·exact ⟨_,rfl,by omega,by omega⟩
def Cf (x:gl):Pd:=⟨x.f0,x.f1,x.f2,x.f3,x.f4⟩
theorem kr (l:List gl) (hl:l.length ≤ 7036874417766):Ev (fun k=>Yb.f k l) (l.map Cf):=by
 refine Ev.congr (f:=fun k=>Yb.l0 k l (List.replicate l.length z53) 0) (fun k=>?_) ?_
 ·unfold Yb.f;rw [if_pos (by omega),if_pos (by omega)]
  rfl
 ·have key:=Ii (r:=l.map Cf) (n:=l.length) (fun i=>Ev (fun k=>Yb.l0 k l ((l.map Cf).take i ++ List.replicate ((l.map Cf).length - i) z53) (i:Int)) (l.map Cf)) ?_ ?_ 0 (by omega)
  ·rw [lu,List.length_map] at key;exact key
  ·refine Ev.step (fun k=>by rw [Yb.l0]) ?_;refine Ev.neg (by omega) ?_;have e:=bq (m:=l.map Cf) (z:=z53);rw [List.length_map] at e;rw [List.length_map,e];exact Ev.now _
  ·intro i hi h;refine Ev.step (fun k=>by rw [Yb.l0]) ?_;refine Ev.pos (by omega) (Ev.pos (by omega) ?_);unfold Jf.f;refine Ev.val (Ev.pos (by simp;omega) ?_)
   have hc:Cf (Nd l (i:Int))=(l.map Cf).getD i z53:=by
    simp [Nd,List.getD_eq_getElem?_getD,hi]
   have hf:=aq (m:=l.map Cf) (z:=z53) (i:=i) (by rw [List.length_map];exact hi);rw [← hc] at hf;rw [Ie hi (by omega),Int.toNat_natCast];have e:=hf ▸ h;exact e
theorem tr (l:List Pd) (hl:l.length ≤ 9223372036854775807):Ev (fun k=>qb.f k l l) true:=by
 refine Ev.congr (f:=fun k=>qb.l0 k l l 0) (fun k=>?_) ?_
 ·unfold qb.f;rw [if_pos rfl]
 ·refine Ii (r:=true) (n:=l.length) (fun i=>Ev (fun k=>qb.l0 k l l (i:Int)) true) ?_ ?_ 0 (by omega)
  ·refine Ev.step (fun k=>by rw [qb.l0]) ?_;exact Ev.neg (by omega) (Ev.now _)
  ·intro i hi h;refine Ev.step (fun k=>by rw [qb.l0]) ?_;refine Ev.pos (by omega) (Ev.pos (by omega) (Ev.pos (by omega) ?_));unfold ef.f;simp only [if_true];refine Ev.val (Ev.pos rfl ?_);rw [Ie hi hl];exact h
theorem Ju (l:List gl) (a:Int) (ha:0 ≤ a) (ha':a ≤ 1048576) (hl:l.length ≤ 9223372036854775807):∃ t,Ed.f l a=some t∧t ≤ a∧(0 ≤ t→t + l.length=a):=by
 unfold Ed.f;rw [We (by omega) (by omega)]
 split
 ·exact ⟨-1,rfl,by omega,by omega⟩
 ·exact ⟨_,rfl,by omega,by omega⟩
theorem Ku (x0:List Int) (x1 x2:Int) (x3:List gl) (a:Int) (ha:0 ≤ a) (ha':a ≤ 1048576) (h0:x0.length ≤ 9223372036854775807) (h3:x3.length ≤ 9223372036854775807) :
  ∃ t,Td.f x0 x1 x2 x3 a=some t∧t ≤ 1048576∧(0 ≤ t→x0.length ≤ 1048576∧x3.length ≤ 1048576):=by
 obtain ⟨t,e1,e2,e3⟩:=Tv x0 a ha ha' h0;unfold Td.f;rw [e1];simp only [Option.bind_some]
 by_cases ht:t < 0
 ·rw [if_pos ht];exact ⟨-1,rfl,by omega,by omega⟩
 ·rw [if_neg ht];obtain ⟨u,f1,f2,f3⟩:=Ju x3 t (by omega) (by omega) h3;rw [f1];simp only [Option.bind_some]
  by_cases hu:u < 0
  ·rw [if_pos hu];exact ⟨-1,rfl,by omega,by omega⟩
  ·rw [if_neg hu];exact ⟨_,rfl,by omega,by omega⟩
theorem nr (x0:List Int) (x1 x2:Int) (x3:List gl) (h0:x0.length ≤ 1048576) (h3:x3.length ≤ 1048576):Ev (fun k=>Zb.f k x0 x1 x2 x3) (x0,x1,x2,x3.map Cf):=by
 unfold Zb.f;exact Ev.bind (nu x0 (by omega)) (Ev.bind (kr x3 (by omega)) (Ev.now _))
theorem ur (x0:List Int) (x1 x2:Int) (x3:List Pd) (h0:x0.length ≤ 9223372036854775807) (h3:x3.length ≤ 9223372036854775807):Ev (fun k=>Rc.f k x0 x1 x2 x3 x0 x1 x2 x3) true:=by
 unfold Rc.f;refine Ev.bind (ou x0 h0) ?_;refine Ev.pos rfl (Ev.pos rfl (Ev.pos rfl ?_));refine Ev.bind (tr x3 h3) ?_;exact Ev.pos rfl (Ev.now _)
end Go.Proofs.YtgflknmbnblpaaaDoor.P
end
section
namespace Go.Proofs.YtgflknmbnblpaaaDoor.P
open Go.RowKit Go.Proofs.Aa.gb Go.Proofs.Aa.Wc Go.Proofs.Aa.ze
set_option linter.unusedVariables false
set_option linter.unusedSimpArgs false
open Classical in
noncomputable def ep (n:Nat) (p:Nat→Prop):Bool:=decide (∀ j,j < n→p j)
open Classical in
theorem wu {n:Nat} {p:Nat→Prop} (h:∀ j,j < n→p j):ep n p=true:=by
 unfold ep;exact decide_eq_true h
open Classical in
theorem jq {n:Nat} {p:Nat→Prop}:ep n p=true ↔ ∀ j,j < n→p j:=by
 unfold ep;exact decide_eq_true_iff
theorem Gr {n i:Nat} {p:Nat→Prop} (hi:i < n) (h:¬ p i):ep n p=false:=by
 cases e:ep n p with
 | false=>rfl
 | true=>exact absurd (jq.mp e i hi) h
theorem av {ρ:Type} {n:Nat} {R e:ρ} (p:Nat→Prop) (f:Nat→Nat→Option ρ) (hend:Ev (f n) R) (hyes:∀ i,i < n→p i→∀ r,Ev (f (i + 1)) r→Ev (f i) r) (hno:∀ i,i < n→¬ p i→Ev (f i) e):Ev (f 0) (bif ep n p then R else e):=by
 have key:∀ d i,i + d=n→(∀ j,j < i→p j)→Ev (f i) (bif ep n p then R else e):=by
  intro d
  induction d with
  | zero =>
   intro i hi h;have:i=n:=by omega
   subst this;rw [wu h];exact hend
  | succ d ih =>
   intro i hi h
   by_cases hp:p i
   ·refine hyes i (by omega) hp _ (ih (i + 1) (by omega) ?_);intro j hj
    by_cases hji:j=i
    ·rw [hji];exact hp
    ·exact h j (by omega)
   ·rw [Gr (by omega) hp];exact hno i (by omega) hp
 exact key n 0 (by omega) (fun j hj=>absurd hj (by omega))
theorem Zm {α:Type} (l:List α) (z:α) (q:α→Bool):ep l.length (fun j=>q (l.getD j z)=true) = !(l.any fun x=>!q x):=by
 rw [Bool.eq_iff_iff,jq];simp only [Bool.not_eq_true',List.any_eq_false,Bool.not_eq_true',Bool.not_eq_false]
 constructor
 ·intro h x hx;obtain ⟨j,hj,rfl⟩:=List.mem_iff_getElem.mp hx;have:=h j hj;rw [List.getD_eq_getElem?_getD,List.getElem?_eq_getElem hj] at this
  simpa using this
 ·intro h j hj;have:=h l[j] (List.getElem_mem hj);rw [List.getD_eq_getElem?_getD,List.getElem?_eq_getElem hj]
  simpa using this
end Go.Proofs.YtgflknmbnblpaaaDoor.P
end
section
namespace Go.Proofs.YtgflknmbnblpaaaDoor.P
open Go.RowKit Go.Proofs.Aa.gb Go.Proofs.Aa.Wc Go.Proofs.Aa.ze
set_option linter.unusedVariables false
set_option linter.unusedSimpArgs false
theorem tf (a b c:Int):Va.f a b c=some (af a b c):=by
 unfold Va.f af
 by_cases h:a ≥ b
 ·rw [if_pos h];have h':b ≤ a:=h;simp [h']
 ·rw [if_neg h];have h':¬ b ≤ a:=h;simp [h']
theorem Pm (a n:Int):af a n n=(a == n):=by
 unfold af;rw [Bool.eq_iff_iff];simp;omega
theorem Ev.and {b c:Bool} {g:Nat→Option Bool} (h:b=true→Ev g c):Ev (fun k=>if b=true then g k else some false) (b && c):=by
 cases b with
 | false=>exact Ev.neg (by decide) (Ev.now _)
 | true=>exact Ev.pos rfl (h rfl)
theorem Ev.EA {p:Prop} [Decidable p] {b c:Bool} (e:b=decide p) {g:Nat→Option Bool} (h:b=true→Ev g c):Ev (fun k=>if p then g k else some false) (b && c):=by
 by_cases hp:p
 ·have hb:b=true:=by rw [e];exact decide_eq_true hp
  subst hb;exact Ev.pos hp (h rfl)
 ·have hb:b=false:=by rw [e];exact decide_eq_false hp
  subst hb;exact Ev.neg hp (Ev.now _)
def J3 (x5 x7:Bool) (o:Int) (Dz:Bool) (N3 r v:Int):Bool:=bif Dz then x5 && (x7 && (v == 0)) else if o=8 then (r == 0) && (x7 && af v 0 N3) else if o=9 then x5 && (x7 && af v 0 N3) else false
theorem Zu (x5 x7:Bool) (o:Int) (Dz:Bool) (x0:List Int) (x1 x2:Int) (x3:List Pd) (o' r p q v:Int):Ev (fun k=>Sa.j3 k x5 x7 o Dz x0 x1 x2 x3 o' r p q v) (J3 x5 x7 o Dz (wrap64 ((x3.length:Int) - 1)) r v):=by
 refine Ev.step (fun k=>by rw [Sa.j3]) ?_;unfold J3;cases Dz with
 | true=>exact Ev.pos rfl (Ev.and fun _=>Ev.and fun _=>Ev.now _)
 | false =>
  refine Ev.neg (by decide) ?_
  by_cases h8:o=8
  ·simp only [cond_false,if_pos h8];refine Ev.EA (by rw [Bool.eq_iff_iff];simp) fun _=>Ev.and fun _=>?_
   rw [tf];exact Ev.now _
  ·simp only [cond_false,if_neg h8]
   by_cases h9:o=9
   ·simp only [if_pos h9];refine Ev.and fun _=>Ev.and fun _=>?_
    rw [tf];exact Ev.now _
   ·simp only [if_neg h9];exact Ev.now _
def J2 (x5 x6 x7:Bool) (o:Int) (Ez:Bool) (N0 N3 r q v:Int):Bool:=bif Ez then x5 && (x6 && ((q == 0) && af v 0 N0)) else if o=11 then x5 && (x6 && ((q == 0) && (v == 0))) else if o=6 then J3 x5 x7 o (o == 6) N3 r v else if o=7 then J3 x5 x7 o (o == 7) N3 r v else J3 x5 x7 o (o == 10) N3 r v
theorem Ny (x5 x6 x7:Bool) (o:Int) (Ez:Bool) (x0:List Int) (x1 x2:Int) (x3:List Pd) (o' r p q v:Int):Ev (fun k=>Sa.j2 k x5 x6 x7 o Ez x0 x1 x2 x3 o' r p q v) (J2 x5 x6 x7 o Ez (wrap64 ((x0.length:Int) - 1)) (wrap64 ((x3.length:Int) - 1)) r q v):=by
 refine Ev.step (fun k=>by rw [Sa.j2]) ?_;unfold J2;cases Ez with
 | true =>
  refine Ev.pos rfl (Ev.and fun _=>Ev.and fun _=>Ev.EA (by rw [Bool.eq_iff_iff];simp) fun _=>?_);rw [tf];exact Ev.now _
 | false =>
  refine Ev.neg (by decide) ?_
  by_cases h8:o=11
  ·simp only [cond_false,if_pos h8];exact Ev.and fun _=>Ev.and fun _=>Ev.EA (by rw [Bool.eq_iff_iff];simp) fun _=>Ev.now _
  ·simp only [cond_false,if_neg h8]
   by_cases h6:o=6
   ·simp only [if_pos h6];exact Zu _ _ _ _ _ _ _ _ _ _ _ _ _
   ·simp only [if_neg h6]
    by_cases h7:o=7
    ·simp only [if_pos h7];exact Zu _ _ _ _ _ _ _ _ _ _ _ _ _
    ·simp only [if_neg h7];exact Zu _ _ _ _ _ _ _ _ _ _ _ _ _
def J1 (x5 x6 x7:Bool) (o:Int) (Fz:Bool) (N2 N0 N3 r q v:Int):Bool:=bif Fz then x5 && (x7 && af v 0 N2) else if o=3 then x5 && (x6 && (af q 0 15 && af v 0 5)) else if o=4 then J2 x5 x6 x7 o (o == 4) N0 N3 r q v else J2 x5 x6 x7 o (o == 5) N0 N3 r q v
theorem Oy (x5 x6 x7:Bool) (o:Int) (Fz:Bool) (x0:List Int) (x1 x2:Int) (x3:List Pd) (o' r p q v:Int):Ev (fun k=>Sa.j1 k x5 x6 x7 o Fz x0 x1 x2 x3 o' r p q v) (J1 x5 x6 x7 o Fz (wrap64 (x2 - 1)) (wrap64 ((x0.length:Int) - 1)) (wrap64 ((x3.length:Int) - 1)) r q v):=by
 refine Ev.step (fun k=>by rw [Sa.j1]) ?_;unfold J1;cases Fz with
 | true =>
  refine Ev.pos rfl (Ev.and fun _=>Ev.and fun _=>?_);rw [tf];exact Ev.now _
 | false =>
  refine Ev.neg (by decide) ?_
  by_cases h8:o=3
  ·simp only [cond_false,if_pos h8];refine Ev.and fun _=>Ev.and fun _=>?_
   rw [tf,tf];exact Ev.val (Ev.and fun _=>Ev.now _)
  ·simp only [cond_false,if_neg h8]
   by_cases h6:o=4
   ·simp only [if_pos h6];exact Ny _ _ _ _ _ _ _ _ _ _ _ _ _ _
   ·simp only [if_neg h6];exact Ny _ _ _ _ _ _ _ _ _ _ _ _ _ _
def J0 (x5 x6 x7:Bool) (o N2 N0 N3 r q v:Int):Bool:=if o=0 then x5 && x7 else if o=1 then J1 x5 x6 x7 o (o == 1) N2 N0 N3 r q v else J1 x5 x6 x7 o (o == 2) N2 N0 N3 r q v
theorem KB (x5 x6 x7:Bool) (x0:List Int) (x1 x2:Int) (x3:List Pd) (o r p q v:Int):Ev (fun k=>Sa.j0 k x5 x6 x7 x0 x1 x2 x3 o r p q v) (J0 x5 x6 x7 o (wrap64 (x2 - 1)) (wrap64 ((x0.length:Int) - 1)) (wrap64 ((x3.length:Int) - 1)) r q v):=by
 refine Ev.step (fun k=>by rw [Sa.j0]) ?_;unfold J0
 by_cases h6:o=0
 ·simp only [if_pos h6];exact Ev.and fun _=>Ev.now _
 ·simp only [if_neg h6]
  by_cases h7:o=1
  ·simp only [if_pos h7];exact Oy _ _ _ _ _ _ _ _ _ _ _ _ _ _
  ·simp only [if_neg h7];exact Oy _ _ _ _ _ _ _ _ _ _ _ _ _ _
theorem Zt (N2 N0 N3 o r p q v s n0 n3:Int) (h0:n0 - 1=N0) (h3:n3 - 1=N3) (h2:wrap64 (s - 1)=N2):qf n0 s n3 o r p q v=J0 (af r 0 15) (af p 0 15) (p == 0 && q == 0) o N2 N0 N3 r q v:=by
 have IM:(p == 0)=true→af p 0 15=true:=by intro h;rw [eq_of_beq h];rfl
 have HM:(q == 0)=true→af q 0 15=true:=by intro h;rw [eq_of_beq h];rfl
 have GM:(r == 0)=true→af r 0 15=true:=by intro h;rw [eq_of_beq h];rfl
 unfold qf uc Im J0 J1 J2 J3;rw [h0,h3,h2,Pm v 0,Pm 0 0];generalize (p == 0)=P at *;generalize (q == 0)=Q at *;generalize (r == 0)=R at *;generalize (v == 0)=V at *;generalize af p 0 15=p' at *;generalize af q 0 15=q' at *;generalize af r 0 15=r' at *;generalize af v 0 N0=v0 at *;generalize af v 0 N2=v2 at *;generalize af v 0 N3=v3 at *;generalize af v 0 5=v5 at *;clear h0 h3 h2
 by_cases e0:o=0
 ·subst e0;simp;cases P <;> cases Q <;> cases R <;> cases r' <;> cases p' <;> cases q' <;> simp_all
 by_cases e1:o=1
 ·subst e1;simp;cases P <;> cases Q <;> cases R <;> cases r' <;> cases p' <;> cases q' <;> simp_all
 by_cases e2:o=2
 ·subst e2;simp;cases P <;> cases Q <;> cases R <;> cases r' <;> cases p' <;> cases q' <;> simp_all
 by_cases e3:o=3
 ·subst e3;simp;cases P <;> cases Q <;> cases R <;> cases r' <;> cases p' <;> cases q' <;> simp_all
 by_cases e4:o=4
 ·subst e4;simp;cases P <;> cases Q <;> cases R <;> cases r' <;> cases p' <;> cases q' <;> simp_all
 by_cases e5:o=5
 ·subst e5;simp;cases P <;> cases Q <;> cases R <;> cases r' <;> cases p' <;> cases q' <;> simp_all
 by_cases e6:o=6
 ·subst e6;simp;cases P <;> cases Q <;> cases R <;> cases r' <;> cases p' <;> cases q' <;> simp_all
 by_cases e7:o=7
 ·subst e7;simp;cases P <;> cases Q <;> cases R <;> cases r' <;> cases p' <;> cases q' <;> simp_all
 by_cases e8:o=8
 ·subst e8;simp;cases P <;> cases Q <;> cases R <;> cases r' <;> cases p' <;> cases q' <;> simp_all
 by_cases e9:o=9
 ·subst e9;simp;cases P <;> cases Q <;> cases R <;> cases r' <;> cases p' <;> cases q' <;> simp_all
 by_cases e10:o=10
 ·subst e10;simp;cases P <;> cases Q <;> cases R <;> cases r' <;> cases p' <;> cases q' <;> simp_all
 by_cases e11:o=11
 ·subst e11;simp;cases P <;> cases Q <;> cases R <;> cases r' <;> cases p' <;> cases q' <;> simp_all
 simp [e0,e1,e2,e3,e4,e5,e6,e7,e8,e9,e10,e11]
theorem Um (x0:List Int) (x1 x2:Int) (x3:List Pd) (o r p q v:Int) (h0:x0.length ≤ 9223372036854775807) (h3:x3.length ≤ 9223372036854775807) :
  Ev (fun k=>Sa.f k x0 x1 x2 x3 o r p q v) (qf (x0.length:Int) x2 (x3.length:Int) o r p q v):=by
 unfold Sa.f;rw [tf,tf];refine Ev.val (Ev.val ?_);have main:=KB (af r 0 15) (af p 0 15) (p == 0 && q == 0) x0 x1 x2 x3 o r p q v;rw [← Zt _ _ _ o r p q v x2 (x0.length:Int) (x3.length:Int) (We (by omega) (by omega)).symm (We (by omega) (by omega)).symm rfl] at main
 by_cases hp:p=0
 ·refine Ev.pos hp ?_;have e:(p == 0 && q == 0)=(q == 0):=by rw [hp];simp
  rw [e] at main;exact main
 ·refine Ev.neg hp ?_;have e:(p == 0 && q == 0)=false:=by simp [hp]
  rw [e] at main;exact main
theorem kj {l:List Pd} {i:Nat} (h:i < l.length):za l (i:Int)=l[i]:=by simp [za,List.getD_eq_getElem?_getD,h]
def Ek (x3:List Pd):Bool:=((za x3 ((x3.length:Int) - 1)).f0 == 10) || ((za x3 ((x3.length:Int) - 1)).f0 == 8)
def ej (x0:List Int) (x2:Int) (x3:List Pd):Bool:=!(x3.any fun x=>!qf (x0.length:Int) x2 (x3.length:Int) x.f0 x.f1 x.f2 x.f3 x.f4)
theorem Ti (b:Bool) (x0:List Int) (x1 x2:Int) (x3:List Pd) (h0:x0.length ≤ 9223372036854775807) (h3:x3.length ≤ 9223372036854775807) (hb:b=true→1 ≤ x3.length) :
  Ev (fun k=>Ma.j1 k (x3.length:Int) (!b) x0 x1 x2 x3) (b && (ej x0 x2 x3 && Ek x3)):=by
 refine Ev.step (fun k=>by rw [Ma.j1]) ?_;cases b with
 | false=>exact Ev.pos rfl (Ev.now _)
 | true =>
  have hn:=hb rfl;refine Ev.neg (by decide) ?_;have key:=av (n:=x3.length) (R:=Ek x3) (e:=false) (fun j=>(fun x:Pd=>qf (x0.length:Int) x2 (x3.length:Int) x.f0 x.f1 x.f2 x.f3 x.f4) (x3.getD j z53)=true) (fun i k=>Ma.l1 k (x3.length:Int) (i:Int) x0 x1 x2 x3) ?_ ?_ ?_
  ·rw [Zm x3 z53 (fun x:Pd=>qf (x0.length:Int) x2 (x3.length:Int) x.f0 x.f1 x.f2 x.f3 x.f4)] at key;rw [Bool.true_and];unfold ej;rw [show ∀ b c:Bool,(b && c)=(bif b then c else false) from by decide];exact key
  ·refine Ev.step (fun k=>by rw [Ma.l1]) ?_;refine Ev.neg (by omega) ?_;rw [We (by omega) (by omega)];refine Ev.pos (by omega) (Ev.pos (by omega) ?_);unfold Ek
   by_cases h:(za x3 ((x3.length:Int) - 1)).f0=10
   ·rw [h];exact Ev.pos rfl (Ev.now _)
   ·rw [beq_false_of_ne h,Bool.false_or];exact Ev.neg h (Ev.now _)
  ·intro i hi hp r hr;refine Ev.step (fun k=>by rw [Ma.l1]) ?_;refine Ev.pos (by omega) (Ev.pos (by omega) (Ev.pos (by omega) ?_));refine Ev.bind (Um x0 x1 x2 x3 _ _ _ _ _ h0 h3) ?_;refine Ev.pos hp ?_;rw [Ie hi h3];exact hr
  ·intro i hi hp;refine Ev.step (fun k=>by rw [Ma.l1]) ?_;refine Ev.pos (by omega) (Ev.pos (by omega) (Ev.pos (by omega) ?_));refine Ev.bind (Um x0 x1 x2 x3 _ _ _ _ _ h0 h3) ?_;exact Ev.neg hp (Ev.now _)
theorem Hh (x0:List Int) (x1 x2:Int) (x3:List Pd) (h0:x0.length ≤ 9223372036854775807) (h3:x3.length ≤ 9223372036854775807) :
  Ev (fun k=>Ma.f k x0 x1 x2 x3) (Eg x0 x1 x2 x3):=by
 unfold Ma.f
 have tail:Ev (fun k=>Ma.l0 k (x0.length:Int) x0 x1 x2 x3) (af (x0.length:Int) 1 4 && (af x1 0 6 && (af x2 x1 1000 && (af (x3.length:Int) 1 6000 && (ej x0 x2 x3 && Ek x3))))):=by
  have no:=Ti false x0 x1 x2 x3 h0 h3 (fun h=>Bool.noConfusion h);rw [Bool.false_and] at no;refine Ev.step (fun k=>by rw [Ma.l0]) ?_;refine Ev.neg (by omega) ?_;rw [tf,tf,tf,tf];refine Ev.val ?_;cases af (x0.length:Int) 1 4 with
  | false=>exact Ev.neg (by decide) no
  | true =>
   refine Ev.pos rfl (Ev.val ?_);cases af x1 0 6 with
   | false=>exact Ev.neg (by decide) no
   | true =>
    refine Ev.pos rfl (Ev.val ?_);cases af x2 x1 1000 with
    | false=>exact Ev.neg (by decide) no
    | true =>
     refine Ev.pos rfl (Ev.val ?_);rw [Bool.true_and,Bool.true_and,Bool.true_and];refine Ti _ x0 x1 x2 x3 h0 h3 (fun h=>?_);unfold af at h;simp at h;omega
 have key:=av (n:=x0.length) (R:=_) (e:=false) (fun j=>(fun n:Int=>af n 1 16) (x0.getD j 0)=true) (fun i k=>Ma.l0 k (i:Int) x0 x1 x2 x3) tail ?_ ?_
 ·rw [Zm x0 0 (fun n:Int=>af n 1 16)] at key;refine Eq.mp (congrArg _ ?_) key;unfold Eg Rl;rw [show af 0 0 (if (0:Int) < 6 then 0 else 6)=true from rfl,show decide ((0:Int) ≤ 20)=true from rfl]
  show _=(af (x0.length:Int) 1 4 && (!(x0.any fun n=>!af n 1 16)) && true && true && af x1 0 6 && af x2 x1 1000 && af (x3.length:Int) 1 6000 && Ek x3 && ej x0 x2 x3)
  generalize (!(x0.any fun n=>!af n 1 16))=a;generalize af (x0.length:Int) 1 4=b;generalize af x1 0 6=c;generalize af x2 x1 1000=d;generalize af (x3.length:Int) 1 6000=e;generalize Ek x3=f;generalize ej x0 x2 x3=g;revert a b c d e f g
  decide
 ·intro i hi hp r hr;refine Ev.step (fun k=>by rw [Ma.l0]) ?_;refine Ev.pos (by omega) (Ev.pos (by omega) ?_);rw [tf];refine Ev.val (Ev.pos hp ?_);rw [Ie hi h0];exact hr
 ·intro i hi hp;refine Ev.step (fun k=>by rw [Ma.l0]) ?_;refine Ev.pos (by omega) (Ev.pos (by omega) ?_);rw [tf];exact Ev.val (Ev.neg hp (Ev.now _))
def Ze:List ByteArray:=[(⟨#[108,105]⟩:ByteArray),(⟨#[108,100]⟩:ByteArray),(⟨#[115,100]⟩:ByteArray),(⟨#[97,108,117]⟩:ByteArray),(⟨#[108,120]⟩:ByteArray),(⟨#[115,120]⟩:ByteArray),(⟨#[105,110]⟩:ByteArray),(⟨#[111,117,116]⟩:ByteArray),(⟨#[106,109,112]⟩:ByteArray),(⟨#[106,122]⟩:ByteArray),(⟨#[114,101,116]⟩:ByteArray),(⟨#[109,118]⟩:ByteArray)]
def tI (n:Int):ByteArray:=txt (Lib.itoa n)
def Em (n:Int):Prop:=-9223372036854775808 ≤ n∧n ≤ 9223372036854775807
theorem Xe {n:Int} (h:Em n):(tI n).size ≤ 21:=by
 unfold tI;rw [Hf];exact Tu n h.1 h.2
theorem Kp {n:Int} (h:Em n):Yc.f n=some (tI n):=by
 obtain ⟨h0,h1⟩:=h;unfold Yc.f;rw [if_pos ⟨h0,h1⟩]
 rfl
theorem Ou {ns sl nc o r a b v:Int} (h:qf ns sl nc o r a b v=true):0 ≤ o∧o ≤ 11:=by
 refine Decidable.byContradiction fun hc=>?_
 unfold qf at h;rw [if_neg (by omega),if_neg (by omega),if_neg (by omega),if_neg (by omega),if_neg (by omega),if_neg (by omega),if_neg (by omega),if_neg (by omega),if_neg (by omega),if_neg (by omega),if_neg (by omega),if_neg (by omega)] at h;cases h
theorem Bn (o:Int):(Ob ByteArray.empty Ze o).size ≤ 3:=by
 unfold Ob
 rcases h:o.toNat with _ | _ | _ | _ | _ | _ | _ | _ | _ | _ | _ | _|m
 all_goals first|decide|(simp [Ze])
def Ih:ByteArray:=⟨#[32]⟩
def Fm:ByteArray:=⟨#[58,32]⟩
def Cy:ByteArray:=⟨#[10]⟩
def Og (i:Int) (x:Pd):ByteArray:=tI i ++ (Fm ++ (Ob ByteArray.empty Ze x.f0 ++ (Ih ++ (tI x.f1 ++ (Ih ++ (tI x.f2 ++ (Ih ++ (tI x.f3 ++ (Ih ++ (tI x.f4 ++ Cy))))))))))
def uf:Nat→List Pd→ByteArray
 | _,[]=>⟨#[]⟩
 | i,x :: l=>Og i x ++ uf (i + 1) l
def Nr (x:Pd):Prop:=Em x.f1∧Em x.f2∧Em x.f3∧Em x.f4
theorem Ul (i:Int) (x:Pd) (hi:Em i) (hx:Nr x):(Og i x).size ≤ 200:=by
 obtain ⟨h1,h2,h3,h4⟩:=hx;have:=Xe hi;have:=Xe h1;have:=Xe h2;have:=Xe h3;have:=Xe h4;have:=Bn x.f0;unfold Og;simp only [ByteArray.size_append,show Ih.size=1 from rfl,show Fm.size=2 from rfl,show Cy.size=1 from rfl];omega
theorem bp (a:ByteArray):a ++ (⟨#[]⟩:ByteArray)=a:=by
 apply ByteArray.ext;simp [ByteArray.data_append]
def Eh:List Int→ByteArray
 | []=>⟨#[]⟩
 | y :: ys=>Ih ++ (tI y ++ Eh ys)
section
variable {l:List Pd} {r:ByteArray}
theorem vr (ys:List Int) (i:Int) (hy:∀ y ∈ ys,Em y) (hl:ys.length ≤ 4) :
  ∀ (d j:Nat),j + d=ys.length→∀ acc:ByteArray,acc.size + 22 * d ≤ 1000000000 →
  Ev (fun k=>if (acc ++ Eh (ys.drop j)).size + 1 ≤ 9223372036854775807 then Xa.l0 k Ze ((acc ++ Eh (ys.drop j)) ++ Cy) l (l.length:Int) (wrap64 (i + 1)) else none) r →
  Ev (fun k=>Xa.l1 k Ze acc l (l.length:Int) i ys (ys.length:Int) (j:Int)) r:=by
 intro d
 induction d with
 | zero =>
  intro j hj acc ha he;refine Ev.step (fun k=>by rw [Xa.l1]) ?_;rw [List.drop_of_length_le (by omega),show Eh []=⟨#[]⟩ from rfl,bp] at he;exact Ev.neg (by omega) he
 | succ d ih =>
  intro j hj acc ha he;have hjl:j < ys.length:=by omega
  have hr:rd ys (j:Int)=ys[j]:=by simp [rd,List.getD_eq_getElem?_getD,hjl]
  have BI:=hy ys[j] (List.getElem_mem hjl);have hs:=Xe BI;refine Ev.step (fun k=>by rw [Xa.l1]) ?_;refine Ev.pos (by omega) (Ev.pos (by omega) (Ev.pos (by omega) ?_));rw [hr,Kp BI,Ie hjl (by omega)];refine Ev.val (Ev.pos (by omega) (Ev.pos (by rw [ByteArray.size_append];show acc.size + (1 + (tI ys[j]).size) ≤ _;omega) ?_));refine ih (j + 1) (by omega) _ (by rw [ByteArray.size_append,ByteArray.size_append];show acc.size + (1 + (tI ys[j]).size) + _ ≤ _;omega) ?_;rw [List.drop_eq_getElem_cons hjl] at he
  have e:acc ++ Eh (ys[j] :: ys.drop (j + 1))=(acc ++ (Ih ++ tI ys[j])) ++ Eh (ys.drop (j + 1)):=by
   show acc ++ (Ih ++ (tI ys[j] ++ Eh (ys.drop (j + 1))))=_
   simp only [ByteArray.append_assoc]
  rw [e] at he;exact he
end
theorem fu (i:Int) (x:Pd) (acc:ByteArray):((acc ++ ((tI i ++ Fm) ++ Ob ByteArray.empty Ze x.f0)) ++ Eh [x.f1,x.f2,x.f3,x.f4]) ++ Cy=acc ++ Og i x:=by
 unfold Og;simp only [Eh,ByteArray.append_assoc]
 congr 12
theorem Vo (l:List Pd) (hl:l.length ≤ 1048576) (hop:∀ x ∈ l,0 ≤ x.f0∧x.f0 ≤ 11) (hR:∀ x ∈ l,Nr x):Ev (fun k=>Xa.l0 k Ze ⟨#[]⟩ l (l.length:Int) 0) (uf 0 l):=by
 have key:=Ii (ρ:=Unit) (r:=()) (n:=l.length) (fun i=>∀ acc:ByteArray,acc.size ≤ 200 * i→Ev (fun k=>Xa.l0 k Ze acc l (l.length:Int) (i:Int)) (acc ++ uf i (l.drop i))) ?_ ?_ 0 (by omega)
 ·have:=key ⟨#[]⟩ (by decide);rw [List.drop_zero] at this;have e:(⟨#[]⟩:ByteArray) ++ uf 0 l=uf 0 l:=by apply ByteArray.ext;simp [ByteArray.data_append]
  rw [e] at this;exact this
 ·intro acc ha;refine Ev.step (fun k=>by rw [Xa.l0]) ?_;rw [List.drop_length,show uf l.length []=⟨#[]⟩ from rfl,bp];exact Ev.neg (by omega) (Ev.now _)
 ·intro i hi h acc ha;have hr:za l (i:Int)=l[i]:=kj hi;have hmem:=List.getElem_mem hi;obtain ⟨o0,o1⟩:=hop _ hmem;have hx:=hR _ hmem;have Yp:Em (i:Int):=⟨by omega,by omega⟩;have s0:=Xe Yp;have s1:=Bn l[i].f0;have hls:=Ul (i:Int) l[i] Yp hx;have tL:((Ze.length:Nat):Int)=12:=rfl;refine Ev.step (fun k=>by rw [Xa.l0]) ?_;refine Ev.pos (by omega) (Ev.pos (by omega) (Ev.pos (by omega) ?_));rw [hr,Kp Yp];refine Ev.val (Ev.pos (by omega) (Ev.pos o0 (Ev.pos (by omega) (Ev.pos ?_ (Ev.pos ?_ (Ev.val ?_))))))
  ·rw [ByteArray.size_append]
   show (tI (i:Int)).size + 2 + _ ≤ _
   omega
  ·rw [ByteArray.size_append,ByteArray.size_append]
   show acc.size + ((tI (i:Int)).size + 2 + _) ≤ _
   omega
  ·have hs:(acc ++ ((tI (i:Int) ++ Fm) ++ Ob ByteArray.empty Ze l[i].f0)).size ≤ acc.size + 26:=by
    rw [ByteArray.size_append,ByteArray.size_append,ByteArray.size_append]
    show acc.size + ((tI (i:Int)).size + 2 + _) ≤ _
    omega
   have IL:(acc ++ ((tI (i:Int) ++ Fm) ++ Ob ByteArray.empty Ze l[i].f0)).size + 22 * 4 ≤ 1000000000:=by omega
   refine vr [l[i].f1,l[i].f2,l[i].f3,l[i].f4] (i:Int) ?_ (by simp) 4 0 rfl _ IL ?_
   ·intro y hy;simp only [List.mem_cons,List.not_mem_nil,or_false] at hy
    rcases hy with rfl|rfl|rfl|rfl
    ·exact hx.1
    ·exact hx.2.1
    ·exact hx.2.2.1
    ·exact hx.2.2.2
   ·rw [List.drop_zero,Ie hi (by omega)];have e:=fu (i:Int) l[i] acc
    have hsz:((acc ++ ((tI (i:Int) ++ Fm) ++ Ob ByteArray.empty Ze l[i].f0)) ++ Eh [l[i].f1,l[i].f2,l[i].f3,l[i].f4]).size + 1=acc.size + (Og (i:Int) l[i]).size:=by
     have:=congrArg ByteArray.size e;rw [ByteArray.size_append,ByteArray.size_append (b:=Og _ _),show Cy.size=1 from rfl] at this;exact this
    refine Ev.pos (by show ((acc ++ ((tI (i:Int) ++ Fm) ++ Ob ByteArray.empty Ze l[i].f0)) ++ Eh [l[i].f1,l[i].f2,l[i].f3,l[i].f4]).size + 1 ≤ _;omega) ?_;have h2:=h (acc ++ Og (i:Int) l[i]) (by rw [ByteArray.size_append];omega);rw [ByteArray.append_assoc] at h2;rw [List.drop_eq_getElem_cons hi]
    show Ev (fun k=>Xa.l0 k Ze (((acc ++ ((tI (i:Int) ++ Fm) ++ Ob ByteArray.empty Ze l[i].f0)) ++ Eh [l[i].f1,l[i].f2,l[i].f3,l[i].f4]) ++ Cy) l (l.length:Int) ((i + 1:Nat):Int)) (acc ++ (Og (i:Int) l[i] ++ uf (i + 1) (l.drop (i + 1))))
    rw [e];exact h2
theorem au (i:Int) (x:Pd) (acc:ByteArray):(((((((((((acc ++ tI i) ++ Fm) ++ Ob ByteArray.empty Ze x.f0) ++ Ih) ++ tI x.f1) ++ Ih) ++ tI x.f2) ++ Ih) ++ tI x.f3) ++ Ih) ++ tI x.f4) ++ Cy=acc ++ Og i x:=by
 unfold Og;simp only [ByteArray.append_assoc]
theorem Uo (x0:List Int) (x1 x2:Int) (l:List Pd) (h0:x0.length ≤ 1048576) (hl:l.length ≤ 1048576) (hok:Eg x0 x1 x2 l=true) (hop:∀ x ∈ l,0 ≤ x.f0∧x.f0 ≤ 11) (hR:∀ x ∈ l,Nr x):Ev (fun k=>Wa.l0 k ⟨#[]⟩ Ze 0 x0 x1 x2 l) (uf 0 l):=by
 have key:=Ii (ρ:=Unit) (r:=()) (n:=l.length) (fun i=>∀ acc:ByteArray,acc.size ≤ 200 * i→Ev (fun k=>Wa.l0 k acc Ze (i:Int) x0 x1 x2 l) (acc ++ uf i (l.drop i))) ?_ ?_ 0 (by omega)
 ·have:=key ⟨#[]⟩ (by decide);rw [List.drop_zero] at this;have e:(⟨#[]⟩:ByteArray) ++ uf 0 l=uf 0 l:=by apply ByteArray.ext;simp [ByteArray.data_append]
  rw [e] at this;exact this
 ·intro acc ha;refine Ev.step (fun k=>by rw [Wa.l0]) ?_;rw [List.drop_length,show uf l.length []=⟨#[]⟩ from rfl,bp];refine Ev.neg (by omega) ?_;refine Ev.step (fun k=>by rw [Wa.j1]) ?_;exact Ev.neg (by decide) (Ev.now _)
 ·intro i hi h acc ha;have hr:za l (i:Int)=l[i]:=kj hi;have hmem:=List.getElem_mem hi;obtain ⟨o0,o1⟩:=hop _ hmem;have hx:=hR _ hmem;have Yp:Em (i:Int):=⟨by omega,by omega⟩;have s0:=Xe Yp;have s1:=Bn l[i].f0;have t1:=Xe hx.1;have t2:=Xe hx.2.1;have t3:=Xe hx.2.2.1;have t4:=Xe hx.2.2.2;have c1:Fm.size=2:=rfl;have c2:Ih.size=1:=rfl;have hls:=Ul (i:Int) l[i] Yp hx;have tL:((Ze.length:Nat):Int)=12:=rfl;refine Ev.step (fun k=>by rw [Wa.l0]) ?_;refine Ev.pos (by omega) (Ev.bind (Hh x0 x1 x2 l (by omega) (by omega)) ?_);refine Ev.step (fun k=>by rw [Wa.j1]) ?_;refine Ev.pos hok (Ev.pos (by omega) (Ev.pos (by omega) ?_));rw [hr,Ie hi (by omega)]
  change Ev (fun k=>_) _
  refine Ev.bind (zg (i:Int) Yp.1 Yp.2) ?_
  change Ev (fun k=>if acc.size + (tI (i:Int)).size ≤ _ then if (acc ++ tI (i:Int)).size + 2 ≤ _ then _ else _ else _) _
  refine Ev.pos (by omega) (Ev.pos (by rw [ByteArray.size_append];omega) (Ev.pos o0 (Ev.pos (by omega) ?_)))
  change Ev (fun k=>if ((acc ++ tI (i:Int)) ++ Fm).size + (Ob ByteArray.empty Ze l[i].f0).size ≤ _ then if (((acc ++ tI (i:Int)) ++ Fm) ++ Ob ByteArray.empty Ze l[i].f0).size + 1 ≤ _ then _ else _ else _) _
  refine Ev.pos (by simp only [ByteArray.size_append];omega) (Ev.pos (by simp only [ByteArray.size_append];omega) ?_);refine Ev.bind (zg l[i].f1 hx.1.1 hx.1.2) ?_
  change Ev (fun k=>if ((((acc ++ tI (i:Int)) ++ Fm) ++ Ob ByteArray.empty Ze l[i].f0) ++ Ih).size + (tI l[i].f1).size ≤ _ then if (((((acc ++ tI (i:Int)) ++ Fm) ++ Ob ByteArray.empty Ze l[i].f0) ++ Ih) ++ tI l[i].f1).size + 1 ≤ _ then _ else _ else _) _
  refine Ev.pos (by simp only [ByteArray.size_append];omega) (Ev.pos (by simp only [ByteArray.size_append];omega) ?_);refine Ev.bind (zg l[i].f2 hx.2.1.1 hx.2.1.2) ?_
  change Ev (fun k=>if ((((((acc ++ tI (i:Int)) ++ Fm) ++ Ob ByteArray.empty Ze l[i].f0) ++ Ih) ++ tI l[i].f1) ++ Ih).size + (tI l[i].f2).size ≤ _ then if (((((((acc ++ tI (i:Int)) ++ Fm) ++ Ob ByteArray.empty Ze l[i].f0) ++ Ih) ++ tI l[i].f1) ++ Ih) ++ tI l[i].f2).size + 1 ≤ _ then _ else _ else _) _
  refine Ev.pos (by simp only [ByteArray.size_append];omega) (Ev.pos (by simp only [ByteArray.size_append];omega) ?_);refine Ev.bind (zg l[i].f3 hx.2.2.1.1 hx.2.2.1.2) ?_
  change Ev (fun k=>if ((((((((acc ++ tI (i:Int)) ++ Fm) ++ Ob ByteArray.empty Ze l[i].f0) ++ Ih) ++ tI l[i].f1) ++ Ih) ++ tI l[i].f2) ++ Ih).size + (tI l[i].f3).size ≤ _ then if (((((((((acc ++ tI (i:Int)) ++ Fm) ++ Ob ByteArray.empty Ze l[i].f0) ++ Ih) ++ tI l[i].f1) ++ Ih) ++ tI l[i].f2) ++ Ih) ++ tI l[i].f3).size + 1 ≤ _ then _ else _ else _) _
  refine Ev.pos (by simp only [ByteArray.size_append];omega) (Ev.pos (by simp only [ByteArray.size_append];omega) ?_);refine Ev.bind (zg l[i].f4 hx.2.2.2.1 hx.2.2.2.2) ?_
  change Ev (fun k=>if ((((((((((acc ++ tI (i:Int)) ++ Fm) ++ Ob ByteArray.empty Ze l[i].f0) ++ Ih) ++ tI l[i].f1) ++ Ih) ++ tI l[i].f2) ++ Ih) ++ tI l[i].f3) ++ Ih).size + (tI l[i].f4).size ≤ _ then if (((((((((((acc ++ tI (i:Int)) ++ Fm) ++ Ob ByteArray.empty Ze l[i].f0) ++ Ih) ++ tI l[i].f1) ++ Ih) ++ tI l[i].f2) ++ Ih) ++ tI l[i].f3) ++ Ih) ++ tI l[i].f4).size + 1 ≤ _ then _ else _ else _) _
  refine Ev.pos (by simp only [ByteArray.size_append];omega) (Ev.pos (by simp only [ByteArray.size_append];omega) ?_);have h2:=h (acc ++ Og (i:Int) l[i]) (by rw [ByteArray.size_append];omega);rw [ByteArray.append_assoc] at h2;rw [List.drop_eq_getElem_cons hi]
  change Ev (fun k=>Wa.l0 k ((((((((((((acc ++ tI (i:Int)) ++ Fm) ++ Ob ByteArray.empty Ze l[i].f0) ++ Ih) ++ tI l[i].f1) ++ Ih) ++ tI l[i].f2) ++ Ih) ++ tI l[i].f3) ++ Ih) ++ tI l[i].f4) ++ Cy) Ze ((i + 1:Nat):Int) x0 x1 x2 l) (acc ++ (Og (i:Int) l[i] ++ uf (i + 1) (l.drop (i + 1))))
  rw [au (i:Int) l[i] acc];exact h2
theorem cq (x0:List Int) (x1 x2:Int) (l:List Pd) (h0:x0.length ≤ 1048576) (hl:l.length ≤ 1048576) (hR:∀ x ∈ l,Nr x) :
  ∃ r:ByteArray,Ev (fun k=>Wa.f k x0 x1 x2 l) r∧Ev (fun k=>Xa.f k x0 x1 x2 l) r:=by
 by_cases hok:Eg x0 x1 x2 l=true
 ·have hop:∀ x ∈ l,0 ≤ x.f0∧x.f0 ≤ 11:=by
   intro x hx;have h:=hok;unfold Eg at h;simp only [Bool.and_eq_true] at h;have hw:=h.2;simp at hw;exact Ou (hw x hx)
  refine ⟨uf 0 l,?_,?_⟩
  ·unfold Wa.f;exact Uo x0 x1 x2 l h0 hl hok hop hR
  ·unfold Xa.f Ud.f;exact Ev.val (Ev.pos hok (Vo l hl hop hR))
 ·refine ⟨⟨#[]⟩,?_,?_⟩
  ·unfold Wa.f;refine Ev.step (fun k=>by rw [Wa.l0]) ?_
   by_cases hl0:(0:Int) < (l.length:Int)
   ·refine Ev.pos hl0 (Ev.bind (Hh x0 x1 x2 l (by omega) (by omega)) ?_);refine Ev.step (fun k=>by rw [Wa.j1]) ?_;exact Ev.neg hok (Ev.now _)
   ·refine Ev.neg hl0 ?_;refine Ev.step (fun k=>by rw [Wa.j1]) ?_;exact Ev.neg (by decide) (Ev.now _)
  ·unfold Xa.f Ud.f;exact Ev.val (Ev.neg hok (Ev.now _))
theorem Rh (x:DC) (hf:My x):∃ k,Zc.f k x.f0 x.f1 x.f2 x.f3=some true:=by
 obtain ⟨h0,_,_,h3⟩:=hf;obtain ⟨t,e1,e2,e3⟩:=Ku x.f0 x.f1 x.f2 x.f3 1048576 (by omega) (by omega) h0.1 h3.1;refine Ev.rounds (g:=fun k=>Zc.f k x.f0 x.f1 x.f2 x.f3) ?_;unfold Zc.f;rw [e1];refine Ev.val ?_
 by_cases ht:t < 0
 ·exact Ev.pos ht (Ev.now _)
 refine Ev.neg ht ?_;obtain ⟨b0,b3⟩:=e3 (by omega);have hT:=nr x.f0 x.f1 x.f2 x.f3 b0 b3;have hm:(x.f3.map Cf).length ≤ 1048576:=by rw [List.length_map];exact b3
 obtain ⟨r,r2,r3⟩:=cq x.f0 x.f1 x.f2 (x.f3.map Cf) b0 hm (fun y hy=>by
  obtain ⟨z,hz,rfl⟩:=List.mem_map.1 hy;obtain ⟨_,k1,k2,k3,k4⟩:=h3.2 z hz
  exact ⟨k1,k2,k3,k4⟩)
 exact Ev.bind hT (Ev.bind r2 (Ev.bind hT (Ev.bind r3 (Ev.pos rfl (Ev.bind hT (Ev.bind (ur x.f0 x.f1 x.f2 (x.f3.map Cf) (by omega) (by omega)) (Ev.pos rfl (Ev.now _))))))))
end Go.Proofs.YtgflknmbnblpaaaDoor.P
end
