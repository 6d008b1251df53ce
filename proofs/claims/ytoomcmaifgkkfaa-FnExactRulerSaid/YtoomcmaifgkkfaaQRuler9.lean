import Derived.Test.YtoomcmaifgkkfaaQRuler1
import Derived.Test.YtoomcmaifgkkfaaQRuler8
import Derived.Test.YtoomcmaifgkkfaaQRuler5
import Derived.Test.YtoomcmaifgkkfaaQRuler7
import Derived.Test.YtoomcmaifgkkfaaQRuler2
import Derived.Test.YtoomcmaifgkkfaaQRuler6
import Derived.Test.YtoomcmaifgkkfaaQRuler3
import Derived.Shelf.Abstract
import Derived.Outline
import Derived.BigQuiet
import Derived.RegionTactic
import Derived.StillTailTactics
set_option maxHeartbeats 8000000
set_option maxRecDepth 100000
section
namespace Go.Proofs.Ytoomcmaifgkkfaa.P
open Go.RowKit Go.Proofs.Ia.Pb Go.Proofs.Ia.Ld Go.Proofs.Ia.De
set_option linter.unusedVariables false
set_option linter.unusedSimpArgs false
attribute [local go_sem] Bi zi Fj Ej mh jh Ai si
def Wi.f (k:Nat) (Ma:List Int) (La:Int) (Na:Int) (Ka:Int) (Fa:List (jf)) (Rc:List Int) (Xb:Int) (Qb:Int) (Rb:Int) (ym:List (jf)):Option (Bool):=(Jd.f k Ma Rc).bind fun t103=>(if t103=true then (if La=Xb then (if Na=Qb then (if Ka=Rb then ((Bc.f k Fa ym).bind fun t104=>(if t104=true then (some true) else (some false))) else (some false)) else (some false)) else (some false)) else (some false))
theorem Wi.calls (k:Nat) (qb:Option Addr) (mb:Nat) (Ma:List Int) (La:Int) (Na:Int) (Ka:Int) (Lb:Option Addr) (Fb:Nat) (Fa:List (jf)) (Pf:Option Addr) (Df:Nat) (Rc:List Int) (Xb:Int) (Qb:Int) (Rb:Int) (ot:Option Addr) (bt:Nat) (ym:List (jf)) (r:Bool) (w:World) (Ae:Kd.C (Kd.int .i64) w qb Ma.length Ma) (we:Ma.length ≤ mb) (Uf:Kd.C Gp w Lb Fa.length Fa) (Lf:Fa.length ≤ Fb) (Fv:Kd.C (Kd.int .i64) w Pf Rc.length Rc) (Gv:Rc.length ≤ Df) (YX:Kd.C Gp w ot ym.length ym) (zY:ym.length ≤ bt) (h:Wi.f k Ma La Na Ka Fa Rc Xb Qb Rb ym=some r) :
  Calls Try.prog 29 #[.agg #[.slice qb Ma.length mb,.int .i64 La,.int .i64 Na,.int .i64 Ka,.slice Lb Fa.length Fb],.agg #[.slice Pf Rc.length Df,.int .i64 Xb,.int .i64 Qb,.int .i64 Rb,.slice ot ym.length bt]] w fun e w'=>e = .returned (.bool r)∧Below w.heap.size w w':=by
 have Oz:=Try.underlying45;have Ke:=ga.mk Ae;have Ve:=ga.mk we;clear Ae we;have kg:=ga.mk Uf;have Tg:=ga.mk Lf;clear Uf Lf;have eo:=ga.mk Fv;have zq:=ga.mk Gv;clear Fv Gv;have jZ:=ga.mk YX;have FZ:=ga.mk zY;clear YX zY;have HB:=ga.mk (Below.refl w.heap.size w);have H:((Jd.f k Ma Rc).bind fun t103=>(if t103=true then (if La=Xb then (if Na=Qb then (if Ka=Rb then ((Bc.f k Fa ym).bind fun t104=>(if t104=true then (some true) else (some false))) else (some false)) else (some false)) else (some false)) else (some false)))=some r:=h;clear h;replace H:=Option.bind_eq_some_iff.mp H;obtain ⟨t103,sC,H⟩:=H;replace H:(if t103=true then (if La=Xb then (if Na=Qb then (if Ka=Rb then ((Bc.f k Fa ym).bind fun t104=>(if t104=true then (some true) else (some false))) else (some false)) else (some false)) else (some false)) else (some false))=some r:=H;have A3:=ga.mk sC;clear sC
 by_cases c4:t103=true
 ·subst c4;have H1:(if La=Xb then (if Na=Qb then (if Ka=Rb then ((Bc.f k Fa ym).bind fun t104=>(if t104=true then (some true) else (some false))) else (some false)) else (some false)) else (some false))=some r:=by rw [if_pos rfl] at H;exact H
  clear H;have H:=H1;clear H1
  by_cases c5:La=Xb
  ·rw [if_pos c5] at H;have qn:(La == Xb)=true:=beq_iff_eq.mpr c5;have gz:(La != Xb)=false:=bne_eq_false_iff_eq.mpr c5;clear c5
   by_cases c6:Na=Qb
   ·rw [if_pos c6] at H;have bp:(Na == Qb)=true:=beq_iff_eq.mpr c6;have CG:(Na != Qb)=false:=bne_eq_false_iff_eq.mpr c6;clear c6
    by_cases c7:Ka=Rb
    ·rw [if_pos c7] at H;have Zr:(Ka == Rb)=true:=beq_iff_eq.mpr c7;have ZB:(Ka != Rb)=false:=bne_eq_false_iff_eq.mpr c7;clear c7;replace H:=Option.bind_eq_some_iff.mp H;obtain ⟨t104,NS,H⟩:=H;replace H:(if t104=true then (some true) else (some false))=some r:=H;have A8:=ga.mk NS;clear NS
     by_cases c9:t104=true
     ·subst c9;have H1:(some true)=some r:=by rw [if_pos rfl] at H;exact H
      clear H;have H:=H1;clear H1;obtain rfl:=Option.some.inj H;go_enter Try.func29,Try.ntmps29;go_wp2_with (first|((with_reducible refine Ab (N:=2) rfl ?_);refine Kb ?hg (N:=2) ?hd (cs:=#[.slice qb Ma.length mb,.int .i64 La,.int .i64 Na,.int .i64 Ka,.slice Lb Fa.length Fb]) (t:=45) ?hr ?_;(case hd=>rfl);(case hg=>rfl);(case hr=>first|(go_simp;done)|(go_simp;rfl));intro za hg Xq Wb hb;have Eb:=ga.mk (Qa (by repeat (first|(with_reducible first|exact HB.out|apply oa|apply ia|apply qa)|exact HB.out)) hb);have Ib:=ga.mk (Wb);have Sb:=ga.mk ((by rw [hg];exact (Ja (by repeat (first|(with_reducible first|exact HB.out|apply oa|apply ia|apply qa)|exact HB.out))):w.heap.size ≤ za));have yc:=ga.mk ((by rw [hg];exact (Ja (by repeat (first|(with_reducible first|exact HB.out|apply oa|apply ia|apply qa)|exact HB.out))):w.heap.size ≤ za));clear HB;have HB:=Eb;have ta:=Ib;have Be:=Sb;have Sa:=yc;clear Eb Ib Sb yc hb Wb hg)|((with_reducible refine Ab (N:=3) rfl ?_);refine Kb ?hg (N:=3) ?hd (cs:=#[.slice Pf Rc.length Df,.int .i64 Xb,.int .i64 Qb,.int .i64 Rb,.slice ot ym.length bt]) (t:=45) ?hr ?_;(case hd=>rfl);(case hg=>rfl);(case hr=>first|(go_simp;done)|(go_simp;rfl));intro Ga hg uj Wb hb;have Eb:=ga.mk (Wa (g:=za) (o:=.cells #[.slice qb Ma.length mb,.int .i64 La,.int .i64 Na,.int .i64 Ka,.slice Lb Fa.length Fb] 45 (0,0)) (by (with_reducible repeat (first|refine Ca ?_ _|refine Ea ?_|refine Da ?_ _));exact ta.out) hb);have Ib:=ga.mk (Qa (by repeat (first|(with_reducible first|exact HB.out|apply oa|apply ia|apply qa|refine ua ?_ Sa.out)|exact HB.out)) hb);have Sb:=ga.mk (Wb);have yc:=ga.mk ((by rw [hg];exact (Ja (by repeat (first|(with_reducible first|exact HB.out|apply oa|apply ia|apply qa|refine ua ?_ Sa.out)|exact HB.out))):w.heap.size ≤ Ga));have Ee:=ga.mk ((by rw [hg];exact (Ja (by repeat (first|(with_reducible first|exact HB.out|apply oa|apply ia|apply qa|refine ua ?_ Sa.out)|exact HB.out))):w.heap.size ≤ Ga));have mg:=ga.mk ((by rw [hg];exact Nat.ne_of_lt (Vc (g:=za) (o:=.cells #[.slice qb Ma.length mb,.int .i64 La,.int .i64 Na,.int .i64 Ka,.slice Lb Fa.length Fb] 45 (0,0)) (by (with_reducible repeat (first|refine Ca ?_ _|refine Ea ?_|refine Da ?_ _));exact ta.out)):za ≠ Ga));have di:=ga.mk ((by rw [hg];exact Nat.ne_of_gt (Vc (g:=za) (o:=.cells #[.slice qb Ma.length mb,.int .i64 La,.int .i64 Na,.int .i64 Ka,.slice Lb Fa.length Fb] 45 (0,0)) (by (with_reducible repeat (first|refine Ca ?_ _|refine Ea ?_|refine Da ?_ _));exact ta.out)):Ga ≠ za));clear ta HB;have ta:=Eb;have HB:=Ib;have ya:=Sb;have Nj:=yc;have uc:=Ee;have Db:=mg;have Cb:=di;clear Eb Ib Sb yc Ee mg di hb Wb hg;have dY:=Db.out;have bY:=Cb.out;have Tr:uj.cell? ⟨za,0,none⟩=some (.slice qb Ma.length mb):=(ja ta.out 0).trans rfl;have Sr:uj.cell? ⟨za,1,none⟩=some (.int .i64 La):=(ja ta.out 1).trans rfl;have Qr:uj.cell? ⟨za,2,none⟩=some (.int .i64 Na):=(ja ta.out 2).trans rfl;have Pr:uj.cell? ⟨za,3,none⟩=some (.int .i64 Ka):=(ja ta.out 3).trans rfl;have Nr:uj.cell? ⟨za,4,none⟩=some (.slice Lb Fa.length Fb):=(ja ta.out 4).trans rfl;have Hr:=aa ta.out 0;have Gr:=aa ta.out 1;have Er:=aa ta.out 2;have Dr:=aa ta.out 3;have Cr:=aa ta.out 4;have Mr:uj.cell? ⟨Ga,0,none⟩=some (.slice Pf Rc.length Df):=(ja ya.out 0).trans rfl;have Lr:uj.cell? ⟨Ga,1,none⟩=some (.int .i64 Xb):=(ja ya.out 1).trans rfl;have Kr:uj.cell? ⟨Ga,2,none⟩=some (.int .i64 Qb):=(ja ya.out 2).trans rfl;have Jr:uj.cell? ⟨Ga,3,none⟩=some (.int .i64 Rb):=(ja ya.out 3).trans rfl;have Ir:uj.cell? ⟨Ga,4,none⟩=some (.slice ot ym.length bt):=(ja ya.out 4).trans rfl;have Br:=aa ya.out 0;have vr:=aa ya.out 1;have ur:=aa ya.out 2;have tr:=aa ya.out 3;have sr:=aa ya.out 4)|((with_reducible refine zb (f:=17) rfl ?_);refine Pc (some 9) rfl rfl Try.func17 (by kernel_rfl) rfl #[.slice qb Ma.length mb,.slice Pf Rc.length Df] rfl (by (try simp only [List.map_toArray,List.map_cons,List.map_nil]);first|done|rfl|(simp only [List.length_drop,List.length_take];rfl)) ?_;(with_reducible refine (Jd.calls k _ _ Ma _ _ Rc true _ ?Fc ?Ec ?Wd ?Vd A3.out).mono ?_);(case Fc=>repeat (first|exact (Kd.Nb Ke.out HB.out)|(with_reducible refine Kd.Ub ?_ _)|(with_reducible refine Kd.Tb ?_ _)|(with_reducible refine Kd.mc ?_)));(case Ec=>exact Ve.out);(case Wd=>repeat (first|exact (Kd.Nb eo.out HB.out)|(with_reducible refine Kd.Ub ?_ _)|(with_reducible refine Kd.Tb ?_ _)|(with_reducible refine Kd.mc ?_)));(case Vd=>exact zq.out);rintro e w' ⟨rfl,⟨nd,rfl⟩⟩;refine ⟨_,rfl,?_⟩)|((with_reducible refine zb (f:=80) rfl ?_);refine Pc (some 30) rfl rfl Try.func80 (by kernel_rfl) rfl #[.slice Lb Fa.length Fb,.slice ot ym.length bt] rfl (by (try simp only [List.map_toArray,List.map_cons,List.map_nil]);first|done|rfl|(simp only [List.length_drop,List.length_take];rfl)) ?_;(with_reducible refine (Bc.calls k _ _ Fa _ _ ym true _ ?Fc ?Ec ?Wd ?Vd A8.out).mono ?_);(case Fc=>repeat (first|exact (Kd.Nb kg.out (by repeat (first|(with_reducible first|exact HB.out|apply oa|apply ia|apply qa|refine ua ?_ Sa.out|refine ua ?_ uc.out)|exact HB.out)))|(with_reducible refine Kd.Ub ?_ _)|(with_reducible refine Kd.Tb ?_ _)|(with_reducible refine Kd.mc ?_)));(case Ec=>exact Tg.out);(case Wd=>repeat (first|exact (Kd.Nb jZ.out (by repeat (first|(with_reducible first|exact HB.out|apply oa|apply ia|apply qa|refine ua ?_ Sa.out|refine ua ?_ uc.out)|exact HB.out)))|(with_reducible refine Kd.Ub ?_ _)|(with_reducible refine Kd.Tb ?_ _)|(with_reducible refine Kd.mc ?_)));(case Vd=>exact FZ.out);rintro e Iq ⟨rfl,hb⟩;refine ⟨_,rfl,?_⟩;have Eb:=ga.mk (Wa (g:=za) (o:=.cells #[.slice qb Ma.length mb,.int .i64 La,.int .i64 Na,.int .i64 Ka,.slice Lb Fa.length Fb] 45 (0,0)) (by (with_reducible repeat (first|refine Ca ?_ _|refine Ea ?_|refine Da ?_ _));exact ta.out) hb);have Ib:=ga.mk (Wa (g:=Ga) (o:=.cells #[.slice Pf Rc.length Df,.int .i64 Xb,.int .i64 Qb,.int .i64 Rb,.slice ot ym.length bt] 45 (0,0)) (by (with_reducible repeat (first|refine Ca ?_ _|refine Ea ?_|refine Da ?_ _));exact ya.out) hb);have Sb:=ga.mk (Qa (by repeat (first|(with_reducible first|exact HB.out|apply oa|apply ia|apply qa|refine ua ?_ Sa.out|refine ua ?_ uc.out)|exact HB.out)) hb);clear ta ya HB;have ta:=Eb;have ya:=Ib;have HB:=Sb;clear Eb Ib Sb;(try clear hb);(try clear Qj);(try clear hk);(try clear hi)));go_ret;exact ⟨by first|rfl|(simp [Pa,Oa] <;> rfl)|(simp [*,Pa,Oa] <;> rfl),by repeat (first|(with_reducible first|exact HB.out|apply oa|apply ia|apply qa|refine ua ?_ Sa.out|refine ua ?_ uc.out)|exact HB.out)⟩
     ·replace c9:=Bool.eq_false_iff.mpr c9;subst c9;have H1:(some false)=some r:=by rw [if_neg (show ¬ (false=true) by decide)] at H;exact H
      clear H;have H:=H1;clear H1;obtain rfl:=Option.some.inj H;go_enter Try.func29,Try.ntmps29;go_wp2_with (first|((with_reducible refine Ab (N:=2) rfl ?_);refine Kb ?hg (N:=2) ?hd (cs:=#[.slice qb Ma.length mb,.int .i64 La,.int .i64 Na,.int .i64 Ka,.slice Lb Fa.length Fb]) (t:=45) ?hr ?_;(case hd=>rfl);(case hg=>rfl);(case hr=>first|(go_simp;done)|(go_simp;rfl));intro za hg aD Wb hb;have Eb:=ga.mk (Qa (by repeat (first|(with_reducible first|exact HB.out|apply oa|apply ia|apply qa)|exact HB.out)) hb);have Ib:=ga.mk (Wb);have Sb:=ga.mk ((by rw [hg];exact (Ja (by repeat (first|(with_reducible first|exact HB.out|apply oa|apply ia|apply qa)|exact HB.out))):w.heap.size ≤ za));have yc:=ga.mk ((by rw [hg];exact (Ja (by repeat (first|(with_reducible first|exact HB.out|apply oa|apply ia|apply qa)|exact HB.out))):w.heap.size ≤ za));clear HB;have HB:=Eb;have ta:=Ib;have Be:=Sb;have Sa:=yc;clear Eb Ib Sb yc hb Wb hg)|((with_reducible refine Ab (N:=3) rfl ?_);refine Kb ?hg (N:=3) ?hd (cs:=#[.slice Pf Rc.length Df,.int .i64 Xb,.int .i64 Qb,.int .i64 Rb,.slice ot ym.length bt]) (t:=45) ?hr ?_;(case hd=>rfl);(case hg=>rfl);(case hr=>first|(go_simp;done)|(go_simp;rfl));intro Ga hg zm Wb hb;have Eb:=ga.mk (Wa (g:=za) (o:=.cells #[.slice qb Ma.length mb,.int .i64 La,.int .i64 Na,.int .i64 Ka,.slice Lb Fa.length Fb] 45 (0,0)) (by (with_reducible repeat (first|refine Ca ?_ _|refine Ea ?_|refine Da ?_ _));exact ta.out) hb);have Ib:=ga.mk (Qa (by repeat (first|(with_reducible first|exact HB.out|apply oa|apply ia|apply qa|refine ua ?_ Sa.out)|exact HB.out)) hb);have Sb:=ga.mk (Wb);have yc:=ga.mk ((by rw [hg];exact (Ja (by repeat (first|(with_reducible first|exact HB.out|apply oa|apply ia|apply qa|refine ua ?_ Sa.out)|exact HB.out))):w.heap.size ≤ Ga));have Ee:=ga.mk ((by rw [hg];exact (Ja (by repeat (first|(with_reducible first|exact HB.out|apply oa|apply ia|apply qa|refine ua ?_ Sa.out)|exact HB.out))):w.heap.size ≤ Ga));have mg:=ga.mk ((by rw [hg];exact Nat.ne_of_lt (Vc (g:=za) (o:=.cells #[.slice qb Ma.length mb,.int .i64 La,.int .i64 Na,.int .i64 Ka,.slice Lb Fa.length Fb] 45 (0,0)) (by (with_reducible repeat (first|refine Ca ?_ _|refine Ea ?_|refine Da ?_ _));exact ta.out)):za ≠ Ga));have di:=ga.mk ((by rw [hg];exact Nat.ne_of_gt (Vc (g:=za) (o:=.cells #[.slice qb Ma.length mb,.int .i64 La,.int .i64 Na,.int .i64 Ka,.slice Lb Fa.length Fb] 45 (0,0)) (by (with_reducible repeat (first|refine Ca ?_ _|refine Ea ?_|refine Da ?_ _));exact ta.out)):Ga ≠ za));clear ta HB;have ta:=Eb;have HB:=Ib;have ya:=Sb;have Nj:=yc;have uc:=Ee;have Db:=mg;have Cb:=di;clear Eb Ib Sb yc Ee mg di hb Wb hg;have Jat:=Db.out;have Uas:=Cb.out;have KW:zm.cell? ⟨za,0,none⟩=some (.slice qb Ma.length mb):=(ja ta.out 0).trans rfl;have JW:zm.cell? ⟨za,1,none⟩=some (.int .i64 La):=(ja ta.out 1).trans rfl;have IW:zm.cell? ⟨za,2,none⟩=some (.int .i64 Na):=(ja ta.out 2).trans rfl;have GW:zm.cell? ⟨za,3,none⟩=some (.int .i64 Ka):=(ja ta.out 3).trans rfl;have FW:zm.cell? ⟨za,4,none⟩=some (.slice Lb Fa.length Fb):=(ja ta.out 4).trans rfl;have sV:=aa ta.out 0;have rV:=aa ta.out 1;have qV:=aa ta.out 2;have pV:=aa ta.out 3;have oV:=aa ta.out 4;have EW:zm.cell? ⟨Ga,0,none⟩=some (.slice Pf Rc.length Df):=(ja ya.out 0).trans rfl;have DW:zm.cell? ⟨Ga,1,none⟩=some (.int .i64 Xb):=(ja ya.out 1).trans rfl;have CW:zm.cell? ⟨Ga,2,none⟩=some (.int .i64 Qb):=(ja ya.out 2).trans rfl;have AW:zm.cell? ⟨Ga,3,none⟩=some (.int .i64 Rb):=(ja ya.out 3).trans rfl;have zW:zm.cell? ⟨Ga,4,none⟩=some (.slice ot ym.length bt):=(ja ya.out 4).trans rfl;have nV:=aa ya.out 0;have mV:=aa ya.out 1;have lV:=aa ya.out 2;have kV:=aa ya.out 3;have jV:=aa ya.out 4)|((with_reducible refine zb (f:=17) rfl ?_);refine Pc (some 9) rfl rfl Try.func17 (by kernel_rfl) rfl #[.slice qb Ma.length mb,.slice Pf Rc.length Df] rfl (by (try simp only [List.map_toArray,List.map_cons,List.map_nil]);first|done|rfl|(simp only [List.length_drop,List.length_take];rfl)) ?_;(with_reducible refine (Jd.calls k _ _ Ma _ _ Rc true _ ?Fc ?Ec ?Wd ?Vd A3.out).mono ?_);(case Fc=>repeat (first|exact (Kd.Nb Ke.out HB.out)|(with_reducible refine Kd.Ub ?_ _)|(with_reducible refine Kd.Tb ?_ _)|(with_reducible refine Kd.mc ?_)));(case Ec=>exact Ve.out);(case Wd=>repeat (first|exact (Kd.Nb eo.out HB.out)|(with_reducible refine Kd.Ub ?_ _)|(with_reducible refine Kd.Tb ?_ _)|(with_reducible refine Kd.mc ?_)));(case Vd=>exact zq.out);rintro e w' ⟨rfl,⟨nd,rfl⟩⟩;refine ⟨_,rfl,?_⟩)|((with_reducible refine zb (f:=80) rfl ?_);refine Pc (some 30) rfl rfl Try.func80 (by kernel_rfl) rfl #[.slice Lb Fa.length Fb,.slice ot ym.length bt] rfl (by (try simp only [List.map_toArray,List.map_cons,List.map_nil]);first|done|rfl|(simp only [List.length_drop,List.length_take];rfl)) ?_;(with_reducible refine (Bc.calls k _ _ Fa _ _ ym false _ ?Fc ?Ec ?Wd ?Vd A8.out).mono ?_);(case Fc=>repeat (first|exact (Kd.Nb kg.out (by repeat (first|(with_reducible first|exact HB.out|apply oa|apply ia|apply qa|refine ua ?_ Sa.out|refine ua ?_ uc.out)|exact HB.out)))|(with_reducible refine Kd.Ub ?_ _)|(with_reducible refine Kd.Tb ?_ _)|(with_reducible refine Kd.mc ?_)));(case Ec=>exact Tg.out);(case Wd=>repeat (first|exact (Kd.Nb jZ.out (by repeat (first|(with_reducible first|exact HB.out|apply oa|apply ia|apply qa|refine ua ?_ Sa.out|refine ua ?_ uc.out)|exact HB.out)))|(with_reducible refine Kd.Ub ?_ _)|(with_reducible refine Kd.Tb ?_ _)|(with_reducible refine Kd.mc ?_)));(case Vd=>exact FZ.out);rintro e Rs ⟨rfl,hb⟩;refine ⟨_,rfl,?_⟩;have Eb:=ga.mk (Wa (g:=za) (o:=.cells #[.slice qb Ma.length mb,.int .i64 La,.int .i64 Na,.int .i64 Ka,.slice Lb Fa.length Fb] 45 (0,0)) (by (with_reducible repeat (first|refine Ca ?_ _|refine Ea ?_|refine Da ?_ _));exact ta.out) hb);have Ib:=ga.mk (Wa (g:=Ga) (o:=.cells #[.slice Pf Rc.length Df,.int .i64 Xb,.int .i64 Qb,.int .i64 Rb,.slice ot ym.length bt] 45 (0,0)) (by (with_reducible repeat (first|refine Ca ?_ _|refine Ea ?_|refine Da ?_ _));exact ya.out) hb);have Sb:=ga.mk (Qa (by repeat (first|(with_reducible first|exact HB.out|apply oa|apply ia|apply qa|refine ua ?_ Sa.out|refine ua ?_ uc.out)|exact HB.out)) hb);clear ta ya HB;have ta:=Eb;have ya:=Ib;have HB:=Sb;clear Eb Ib Sb;(try clear hb);(try clear Qj);(try clear hk);(try clear hi)));go_ret;exact ⟨by first|rfl|(simp [Pa,Oa] <;> rfl)|(simp [*,Pa,Oa] <;> rfl),by repeat (first|(with_reducible first|exact HB.out|apply oa|apply ia|apply qa|refine ua ?_ Sa.out|refine ua ?_ uc.out)|exact HB.out)⟩
    ·rw [if_neg c7] at H;have Zr:(Ka == Rb)=false:=beq_eq_false_iff_ne.mpr c7;have ZB:(Ka != Rb)=true:=bne_iff_ne.mpr c7;obtain rfl:=Option.some.inj H;go_enter Try.func29,Try.ntmps29;go_wp2_with (first|((with_reducible refine Ab (N:=2) rfl ?_);refine Kb ?hg (N:=2) ?hd (cs:=#[.slice qb Ma.length mb,.int .i64 La,.int .i64 Na,.int .i64 Ka,.slice Lb Fa.length Fb]) (t:=45) ?hr ?_;(case hd=>rfl);(case hg=>rfl);(case hr=>first|(go_simp;done)|(go_simp;rfl));intro za hg oL Wb hb;have Eb:=ga.mk (Qa (by repeat (first|(with_reducible first|exact HB.out|apply oa|apply ia|apply qa)|exact HB.out)) hb);have Ib:=ga.mk (Wb);have Sb:=ga.mk ((by rw [hg];exact (Ja (by repeat (first|(with_reducible first|exact HB.out|apply oa|apply ia|apply qa)|exact HB.out))):w.heap.size ≤ za));have yc:=ga.mk ((by rw [hg];exact (Ja (by repeat (first|(with_reducible first|exact HB.out|apply oa|apply ia|apply qa)|exact HB.out))):w.heap.size ≤ za));clear HB;have HB:=Eb;have ta:=Ib;have Be:=Sb;have Sa:=yc;clear Eb Ib Sb yc hb Wb hg)|((with_reducible refine Ab (N:=3) rfl ?_);refine Kb ?hg (N:=3) ?hd (cs:=#[.slice Pf Rc.length Df,.int .i64 Xb,.int .i64 Qb,.int .i64 Rb,.slice ot ym.length bt]) (t:=45) ?hr ?_;(case hd=>rfl);(case hg=>rfl);(case hr=>first|(go_simp;done)|(go_simp;rfl));intro Ga hg wv Wb hb;have Eb:=ga.mk (Wa (g:=za) (o:=.cells #[.slice qb Ma.length mb,.int .i64 La,.int .i64 Na,.int .i64 Ka,.slice Lb Fa.length Fb] 45 (0,0)) (by (with_reducible repeat (first|refine Ca ?_ _|refine Ea ?_|refine Da ?_ _));exact ta.out) hb);have Ib:=ga.mk (Qa (by repeat (first|(with_reducible first|exact HB.out|apply oa|apply ia|apply qa|refine ua ?_ Sa.out)|exact HB.out)) hb);have Sb:=ga.mk (Wb);have yc:=ga.mk ((by rw [hg];exact (Ja (by repeat (first|(with_reducible first|exact HB.out|apply oa|apply ia|apply qa|refine ua ?_ Sa.out)|exact HB.out))):w.heap.size ≤ Ga));have Ee:=ga.mk ((by rw [hg];exact (Ja (by repeat (first|(with_reducible first|exact HB.out|apply oa|apply ia|apply qa|refine ua ?_ Sa.out)|exact HB.out))):w.heap.size ≤ Ga));have mg:=ga.mk ((by rw [hg];exact Nat.ne_of_lt (Vc (g:=za) (o:=.cells #[.slice qb Ma.length mb,.int .i64 La,.int .i64 Na,.int .i64 Ka,.slice Lb Fa.length Fb] 45 (0,0)) (by (with_reducible repeat (first|refine Ca ?_ _|refine Ea ?_|refine Da ?_ _));exact ta.out)):za ≠ Ga));have di:=ga.mk ((by rw [hg];exact Nat.ne_of_gt (Vc (g:=za) (o:=.cells #[.slice qb Ma.length mb,.int .i64 La,.int .i64 Na,.int .i64 Ka,.slice Lb Fa.length Fb] 45 (0,0)) (by (with_reducible repeat (first|refine Ca ?_ _|refine Ea ?_|refine Da ?_ _));exact ta.out)):Ga ≠ za));clear ta HB;have ta:=Eb;have HB:=Ib;have ya:=Sb;have Nj:=yc;have uc:=Ee;have Db:=mg;have Cb:=di;clear Eb Ib Sb yc Ee mg di hb Wb hg;have C9:=Db.out;have j9:=Cb.out;have Qu:wv.cell? ⟨za,0,none⟩=some (.slice qb Ma.length mb):=(ja ta.out 0).trans rfl;have Pu:wv.cell? ⟨za,1,none⟩=some (.int .i64 La):=(ja ta.out 1).trans rfl;have Ou:wv.cell? ⟨za,2,none⟩=some (.int .i64 Na):=(ja ta.out 2).trans rfl;have Nu:wv.cell? ⟨za,3,none⟩=some (.int .i64 Ka):=(ja ta.out 3).trans rfl;have Mu:wv.cell? ⟨za,4,none⟩=some (.slice Lb Fa.length Fb):=(ja ta.out 4).trans rfl;have Bu:=aa ta.out 0;have Au:=aa ta.out 1;have zu:=aa ta.out 2;have yu:=aa ta.out 3;have xu:=aa ta.out 4;have Lu:wv.cell? ⟨Ga,0,none⟩=some (.slice Pf Rc.length Df):=(ja ya.out 0).trans rfl;have Ku:wv.cell? ⟨Ga,1,none⟩=some (.int .i64 Xb):=(ja ya.out 1).trans rfl;have Ju:wv.cell? ⟨Ga,2,none⟩=some (.int .i64 Qb):=(ja ya.out 2).trans rfl;have Iu:wv.cell? ⟨Ga,3,none⟩=some (.int .i64 Rb):=(ja ya.out 3).trans rfl;have Hu:wv.cell? ⟨Ga,4,none⟩=some (.slice ot ym.length bt):=(ja ya.out 4).trans rfl;have wu:=aa ya.out 0;have vu:=aa ya.out 1;have uu:=aa ya.out 2;have tu:=aa ya.out 3;have su:=aa ya.out 4)|((with_reducible refine zb (f:=17) rfl ?_);refine Pc (some 9) rfl rfl Try.func17 (by kernel_rfl) rfl #[.slice qb Ma.length mb,.slice Pf Rc.length Df] rfl (by (try simp only [List.map_toArray,List.map_cons,List.map_nil]);first|done|rfl|(simp only [List.length_drop,List.length_take];rfl)) ?_;(with_reducible refine (Jd.calls k _ _ Ma _ _ Rc true _ ?Fc ?Ec ?Wd ?Vd A3.out).mono ?_);(case Fc=>repeat (first|exact (Kd.Nb Ke.out HB.out)|(with_reducible refine Kd.Ub ?_ _)|(with_reducible refine Kd.Tb ?_ _)|(with_reducible refine Kd.mc ?_)));(case Ec=>exact Ve.out);(case Wd=>repeat (first|exact (Kd.Nb eo.out HB.out)|(with_reducible refine Kd.Ub ?_ _)|(with_reducible refine Kd.Tb ?_ _)|(with_reducible refine Kd.mc ?_)));(case Vd=>exact zq.out);rintro e w' ⟨rfl,⟨nd,rfl⟩⟩;refine ⟨_,rfl,?_⟩));go_ret;exact ⟨by first|rfl|(simp [Pa,Oa] <;> rfl)|(simp [*,Pa,Oa] <;> rfl),by repeat (first|(with_reducible first|exact HB.out|apply oa|apply ia|apply qa|refine ua ?_ Sa.out|refine ua ?_ uc.out)|exact HB.out)⟩
   ·rw [if_neg c6] at H;have bp:(Na == Qb)=false:=beq_eq_false_iff_ne.mpr c6;have CG:(Na != Qb)=true:=bne_iff_ne.mpr c6;obtain rfl:=Option.some.inj H;go_enter Try.func29,Try.ntmps29;go_wp2_with (first|((with_reducible refine Ab (N:=2) rfl ?_);refine Kb ?hg (N:=2) ?hd (cs:=#[.slice qb Ma.length mb,.int .i64 La,.int .i64 Na,.int .i64 Ka,.slice Lb Fa.length Fb]) (t:=45) ?hr ?_;(case hd=>rfl);(case hg=>rfl);(case hr=>first|(go_simp;done)|(go_simp;rfl));intro za hg w27 Wb hb;have Eb:=ga.mk (Qa (by repeat (first|(with_reducible first|exact HB.out|apply oa|apply ia|apply qa)|exact HB.out)) hb);have Ib:=ga.mk (Wb);have Sb:=ga.mk ((by rw [hg];exact (Ja (by repeat (first|(with_reducible first|exact HB.out|apply oa|apply ia|apply qa)|exact HB.out))):w.heap.size ≤ za));have yc:=ga.mk ((by rw [hg];exact (Ja (by repeat (first|(with_reducible first|exact HB.out|apply oa|apply ia|apply qa)|exact HB.out))):w.heap.size ≤ za));clear HB;have HB:=Eb;have ta:=Ib;have Be:=Sb;have Sa:=yc;clear Eb Ib Sb yc hb Wb hg)|((with_reducible refine Ab (N:=3) rfl ?_);refine Kb ?hg (N:=3) ?hd (cs:=#[.slice Pf Rc.length Df,.int .i64 Xb,.int .i64 Qb,.int .i64 Rb,.slice ot ym.length bt]) (t:=45) ?hr ?_;(case hd=>rfl);(case hg=>rfl);(case hr=>first|(go_simp;done)|(go_simp;rfl));intro Ga hg oJ Wb hb;have Eb:=ga.mk (Wa (g:=za) (o:=.cells #[.slice qb Ma.length mb,.int .i64 La,.int .i64 Na,.int .i64 Ka,.slice Lb Fa.length Fb] 45 (0,0)) (by (with_reducible repeat (first|refine Ca ?_ _|refine Ea ?_|refine Da ?_ _));exact ta.out) hb);have Ib:=ga.mk (Qa (by repeat (first|(with_reducible first|exact HB.out|apply oa|apply ia|apply qa|refine ua ?_ Sa.out)|exact HB.out)) hb);have Sb:=ga.mk (Wb);have yc:=ga.mk ((by rw [hg];exact (Ja (by repeat (first|(with_reducible first|exact HB.out|apply oa|apply ia|apply qa|refine ua ?_ Sa.out)|exact HB.out))):w.heap.size ≤ Ga));have Ee:=ga.mk ((by rw [hg];exact (Ja (by repeat (first|(with_reducible first|exact HB.out|apply oa|apply ia|apply qa|refine ua ?_ Sa.out)|exact HB.out))):w.heap.size ≤ Ga));have mg:=ga.mk ((by rw [hg];exact Nat.ne_of_lt (Vc (g:=za) (o:=.cells #[.slice qb Ma.length mb,.int .i64 La,.int .i64 Na,.int .i64 Ka,.slice Lb Fa.length Fb] 45 (0,0)) (by (with_reducible repeat (first|refine Ca ?_ _|refine Ea ?_|refine Da ?_ _));exact ta.out)):za ≠ Ga));have di:=ga.mk ((by rw [hg];exact Nat.ne_of_gt (Vc (g:=za) (o:=.cells #[.slice qb Ma.length mb,.int .i64 La,.int .i64 Na,.int .i64 Ka,.slice Lb Fa.length Fb] 45 (0,0)) (by (with_reducible repeat (first|refine Ca ?_ _|refine Ea ?_|refine Da ?_ _));exact ta.out)):Ga ≠ za));clear ta HB;have ta:=Eb;have HB:=Ib;have ya:=Sb;have Nj:=yc;have uc:=Ee;have Db:=mg;have Cb:=di;clear Eb Ib Sb yc Ee mg di hb Wb hg;have Eat:=Db.out;have Pas:=Cb.out;have NA:oJ.cell? ⟨za,0,none⟩=some (.slice qb Ma.length mb):=(ja ta.out 0).trans rfl;have MA:oJ.cell? ⟨za,1,none⟩=some (.int .i64 La):=(ja ta.out 1).trans rfl;have LA:oJ.cell? ⟨za,2,none⟩=some (.int .i64 Na):=(ja ta.out 2).trans rfl;have KA:oJ.cell? ⟨za,3,none⟩=some (.int .i64 Ka):=(ja ta.out 3).trans rfl;have JA:oJ.cell? ⟨za,4,none⟩=some (.slice Lb Fa.length Fb):=(ja ta.out 4).trans rfl;have rA:=aa ta.out 0;have qA:=aa ta.out 1;have oA:=aa ta.out 2;have nA:=aa ta.out 3;have mA:=aa ta.out 4;have IA:oJ.cell? ⟨Ga,0,none⟩=some (.slice Pf Rc.length Df):=(ja ya.out 0).trans rfl;have GA:oJ.cell? ⟨Ga,1,none⟩=some (.int .i64 Xb):=(ja ya.out 1).trans rfl;have FA:oJ.cell? ⟨Ga,2,none⟩=some (.int .i64 Qb):=(ja ya.out 2).trans rfl;have EA:oJ.cell? ⟨Ga,3,none⟩=some (.int .i64 Rb):=(ja ya.out 3).trans rfl;have DA:oJ.cell? ⟨Ga,4,none⟩=some (.slice ot ym.length bt):=(ja ya.out 4).trans rfl;have kA:=aa ya.out 0;have jA:=aa ya.out 1;have iA:=aa ya.out 2;have gA:=aa ya.out 3;have fA:=aa ya.out 4)|((with_reducible refine zb (f:=17) rfl ?_);refine Pc (some 9) rfl rfl Try.func17 (by kernel_rfl) rfl #[.slice qb Ma.length mb,.slice Pf Rc.length Df] rfl (by (try simp only [List.map_toArray,List.map_cons,List.map_nil]);first|done|rfl|(simp only [List.length_drop,List.length_take];rfl)) ?_;(with_reducible refine (Jd.calls k _ _ Ma _ _ Rc true _ ?Fc ?Ec ?Wd ?Vd A3.out).mono ?_);(case Fc=>repeat (first|exact (Kd.Nb Ke.out HB.out)|(with_reducible refine Kd.Ub ?_ _)|(with_reducible refine Kd.Tb ?_ _)|(with_reducible refine Kd.mc ?_)));(case Ec=>exact Ve.out);(case Wd=>repeat (first|exact (Kd.Nb eo.out HB.out)|(with_reducible refine Kd.Ub ?_ _)|(with_reducible refine Kd.Tb ?_ _)|(with_reducible refine Kd.mc ?_)));(case Vd=>exact zq.out);rintro e w' ⟨rfl,⟨nd,rfl⟩⟩;refine ⟨_,rfl,?_⟩));go_ret;exact ⟨by first|rfl|(simp [Pa,Oa] <;> rfl)|(simp [*,Pa,Oa] <;> rfl),by repeat (first|(with_reducible first|exact HB.out|apply oa|apply ia|apply qa|refine ua ?_ Sa.out|refine ua ?_ uc.out)|exact HB.out)⟩
  ·rw [if_neg c5] at H;have qn:(La == Xb)=false:=beq_eq_false_iff_ne.mpr c5;have gz:(La != Xb)=true:=bne_iff_ne.mpr c5;obtain rfl:=Option.some.inj H;go_enter Try.func29,Try.ntmps29;go_wp2_with (first|((with_reducible refine Ab (N:=2) rfl ?_);refine Kb ?hg (N:=2) ?hd (cs:=#[.slice qb Ma.length mb,.int .i64 La,.int .i64 Na,.int .i64 Ka,.slice Lb Fa.length Fb]) (t:=45) ?hr ?_;(case hd=>rfl);(case hg=>rfl);(case hr=>first|(go_simp;done)|(go_simp;rfl));intro za hg w32 Wb hb;have Eb:=ga.mk (Qa (by repeat (first|(with_reducible first|exact HB.out|apply oa|apply ia|apply qa)|exact HB.out)) hb);have Ib:=ga.mk (Wb);have Sb:=ga.mk ((by rw [hg];exact (Ja (by repeat (first|(with_reducible first|exact HB.out|apply oa|apply ia|apply qa)|exact HB.out))):w.heap.size ≤ za));have yc:=ga.mk ((by rw [hg];exact (Ja (by repeat (first|(with_reducible first|exact HB.out|apply oa|apply ia|apply qa)|exact HB.out))):w.heap.size ≤ za));clear HB;have HB:=Eb;have ta:=Ib;have Be:=Sb;have Sa:=yc;clear Eb Ib Sb yc hb Wb hg)|((with_reducible refine Ab (N:=3) rfl ?_);refine Kb ?hg (N:=3) ?hd (cs:=#[.slice Pf Rc.length Df,.int .i64 Xb,.int .i64 Qb,.int .i64 Rb,.slice ot ym.length bt]) (t:=45) ?hr ?_;(case hd=>rfl);(case hg=>rfl);(case hr=>first|(go_simp;done)|(go_simp;rfl));intro Ga hg nP Wb hb;have Eb:=ga.mk (Wa (g:=za) (o:=.cells #[.slice qb Ma.length mb,.int .i64 La,.int .i64 Na,.int .i64 Ka,.slice Lb Fa.length Fb] 45 (0,0)) (by (with_reducible repeat (first|refine Ca ?_ _|refine Ea ?_|refine Da ?_ _));exact ta.out) hb);have Ib:=ga.mk (Qa (by repeat (first|(with_reducible first|exact HB.out|apply oa|apply ia|apply qa|refine ua ?_ Sa.out)|exact HB.out)) hb);have Sb:=ga.mk (Wb);have yc:=ga.mk ((by rw [hg];exact (Ja (by repeat (first|(with_reducible first|exact HB.out|apply oa|apply ia|apply qa|refine ua ?_ Sa.out)|exact HB.out))):w.heap.size ≤ Ga));have Ee:=ga.mk ((by rw [hg];exact (Ja (by repeat (first|(with_reducible first|exact HB.out|apply oa|apply ia|apply qa|refine ua ?_ Sa.out)|exact HB.out))):w.heap.size ≤ Ga));have mg:=ga.mk ((by rw [hg];exact Nat.ne_of_lt (Vc (g:=za) (o:=.cells #[.slice qb Ma.length mb,.int .i64 La,.int .i64 Na,.int .i64 Ka,.slice Lb Fa.length Fb] 45 (0,0)) (by (with_reducible repeat (first|refine Ca ?_ _|refine Ea ?_|refine Da ?_ _));exact ta.out)):za ≠ Ga));have di:=ga.mk ((by rw [hg];exact Nat.ne_of_gt (Vc (g:=za) (o:=.cells #[.slice qb Ma.length mb,.int .i64 La,.int .i64 Na,.int .i64 Ka,.slice Lb Fa.length Fb] 45 (0,0)) (by (with_reducible repeat (first|refine Ca ?_ _|refine Ea ?_|refine Da ?_ _));exact ta.out)):Ga ≠ za));clear ta HB;have ta:=Eb;have HB:=Ib;have ya:=Sb;have Nj:=yc;have uc:=Ee;have Db:=mg;have Cb:=di;clear Eb Ib Sb yc Ee mg di hb Wb hg;have zat:=Db.out;have Kas:=Cb.out;have qW:nP.cell? ⟨za,0,none⟩=some (.slice qb Ma.length mb):=(ja ta.out 0).trans rfl;have pW:nP.cell? ⟨za,1,none⟩=some (.int .i64 La):=(ja ta.out 1).trans rfl;have oW:nP.cell? ⟨za,2,none⟩=some (.int .i64 Na):=(ja ta.out 2).trans rfl;have nW:nP.cell? ⟨za,3,none⟩=some (.int .i64 Ka):=(ja ta.out 3).trans rfl;have mW:nP.cell? ⟨za,4,none⟩=some (.slice Lb Fa.length Fb):=(ja ta.out 4).trans rfl;have aV:=aa ta.out 0;have ZU:=aa ta.out 1;have YU:=aa ta.out 2;have XU:=aa ta.out 3;have WU:=aa ta.out 4;have PF:nP.cell? ⟨Ga,0,none⟩=some (.slice Pf Rc.length Df):=(ja ya.out 0).trans rfl;have NF:nP.cell? ⟨Ga,1,none⟩=some (.int .i64 Xb):=(ja ya.out 1).trans rfl;have MF:nP.cell? ⟨Ga,2,none⟩=some (.int .i64 Qb):=(ja ya.out 2).trans rfl;have LF:nP.cell? ⟨Ga,3,none⟩=some (.int .i64 Rb):=(ja ya.out 3).trans rfl;have KF:nP.cell? ⟨Ga,4,none⟩=some (.slice ot ym.length bt):=(ja ya.out 4).trans rfl;have ME:=aa ya.out 0;have KE:=aa ya.out 1;have JE:=aa ya.out 2;have IE:=aa ya.out 3;have FE:=aa ya.out 4)|((with_reducible refine zb (f:=17) rfl ?_);refine Pc (some 9) rfl rfl Try.func17 (by kernel_rfl) rfl #[.slice qb Ma.length mb,.slice Pf Rc.length Df] rfl (by (try simp only [List.map_toArray,List.map_cons,List.map_nil]);first|done|rfl|(simp only [List.length_drop,List.length_take];rfl)) ?_;(with_reducible refine (Jd.calls k _ _ Ma _ _ Rc true _ ?Fc ?Ec ?Wd ?Vd A3.out).mono ?_);(case Fc=>repeat (first|exact (Kd.Nb Ke.out HB.out)|(with_reducible refine Kd.Ub ?_ _)|(with_reducible refine Kd.Tb ?_ _)|(with_reducible refine Kd.mc ?_)));(case Ec=>exact Ve.out);(case Wd=>repeat (first|exact (Kd.Nb eo.out HB.out)|(with_reducible refine Kd.Ub ?_ _)|(with_reducible refine Kd.Tb ?_ _)|(with_reducible refine Kd.mc ?_)));(case Vd=>exact zq.out);rintro e w' ⟨rfl,⟨nd,rfl⟩⟩;refine ⟨_,rfl,?_⟩));go_ret;exact ⟨by first|rfl|(simp [Pa,Oa] <;> rfl)|(simp [*,Pa,Oa] <;> rfl),by repeat (first|(with_reducible first|exact HB.out|apply oa|apply ia|apply qa|refine ua ?_ Sa.out|refine ua ?_ uc.out)|exact HB.out)⟩
 ·replace c4:=Bool.eq_false_iff.mpr c4;subst c4;have H1:(some false)=some r:=by rw [if_neg (show ¬ (false=true) by decide)] at H;exact H
  clear H;have H:=H1;clear H1;obtain rfl:=Option.some.inj H;go_enter Try.func29,Try.ntmps29;go_wp2_with (first|((with_reducible refine Ab (N:=2) rfl ?_);refine Kb ?hg (N:=2) ?hd (cs:=#[.slice qb Ma.length mb,.int .i64 La,.int .i64 Na,.int .i64 Ka,.slice Lb Fa.length Fb]) (t:=45) ?hr ?_;(case hd=>rfl);(case hg=>rfl);(case hr=>first|(go_simp;done)|(go_simp;rfl));intro za hg OZ Wb hb;have Eb:=ga.mk (Qa (by repeat (first|(with_reducible first|exact HB.out|apply oa|apply ia|apply qa)|exact HB.out)) hb);have Ib:=ga.mk (Wb);have Sb:=ga.mk ((by rw [hg];exact (Ja (by repeat (first|(with_reducible first|exact HB.out|apply oa|apply ia|apply qa)|exact HB.out))):w.heap.size ≤ za));have yc:=ga.mk ((by rw [hg];exact (Ja (by repeat (first|(with_reducible first|exact HB.out|apply oa|apply ia|apply qa)|exact HB.out))):w.heap.size ≤ za));clear HB;have HB:=Eb;have ta:=Ib;have Be:=Sb;have Sa:=yc;clear Eb Ib Sb yc hb Wb hg)|((with_reducible refine Ab (N:=3) rfl ?_);refine Kb ?hg (N:=3) ?hd (cs:=#[.slice Pf Rc.length Df,.int .i64 Xb,.int .i64 Qb,.int .i64 Rb,.slice ot ym.length bt]) (t:=45) ?hr ?_;(case hd=>rfl);(case hg=>rfl);(case hr=>first|(go_simp;done)|(go_simp;rfl));intro Ga hg vC Wb hb;have Eb:=ga.mk (Wa (g:=za) (o:=.cells #[.slice qb Ma.length mb,.int .i64 La,.int .i64 Na,.int .i64 Ka,.slice Lb Fa.length Fb] 45 (0,0)) (by (with_reducible repeat (first|refine Ca ?_ _|refine Ea ?_|refine Da ?_ _));exact ta.out) hb);have Ib:=ga.mk (Qa (by repeat (first|(with_reducible first|exact HB.out|apply oa|apply ia|apply qa|refine ua ?_ Sa.out)|exact HB.out)) hb);have Sb:=ga.mk (Wb);have yc:=ga.mk ((by rw [hg];exact (Ja (by repeat (first|(with_reducible first|exact HB.out|apply oa|apply ia|apply qa|refine ua ?_ Sa.out)|exact HB.out))):w.heap.size ≤ Ga));have Ee:=ga.mk ((by rw [hg];exact (Ja (by repeat (first|(with_reducible first|exact HB.out|apply oa|apply ia|apply qa|refine ua ?_ Sa.out)|exact HB.out))):w.heap.size ≤ Ga));have mg:=ga.mk ((by rw [hg];exact Nat.ne_of_lt (Vc (g:=za) (o:=.cells #[.slice qb Ma.length mb,.int .i64 La,.int .i64 Na,.int .i64 Ka,.slice Lb Fa.length Fb] 45 (0,0)) (by (with_reducible repeat (first|refine Ca ?_ _|refine Ea ?_|refine Da ?_ _));exact ta.out)):za ≠ Ga));have di:=ga.mk ((by rw [hg];exact Nat.ne_of_gt (Vc (g:=za) (o:=.cells #[.slice qb Ma.length mb,.int .i64 La,.int .i64 Na,.int .i64 Ka,.slice Lb Fa.length Fb] 45 (0,0)) (by (with_reducible repeat (first|refine Ca ?_ _|refine Ea ?_|refine Da ?_ _));exact ta.out)):Ga ≠ za));clear ta HB;have ta:=Eb;have HB:=Ib;have ya:=Sb;have Nj:=yc;have uc:=Ee;have Db:=mg;have Cb:=di;clear Eb Ib Sb yc Ee mg di hb Wb hg;have r9:=Db.out;have W8:=Cb.out;have CA:vC.cell? ⟨za,0,none⟩=some (.slice qb Ma.length mb):=(ja ta.out 0).trans rfl;have BA:vC.cell? ⟨za,1,none⟩=some (.int .i64 La):=(ja ta.out 1).trans rfl;have AA:vC.cell? ⟨za,2,none⟩=some (.int .i64 Na):=(ja ta.out 2).trans rfl;have zA:vC.cell? ⟨za,3,none⟩=some (.int .i64 Ka):=(ja ta.out 3).trans rfl;have yA:vC.cell? ⟨za,4,none⟩=some (.slice Lb Fa.length Fb):=(ja ta.out 4).trans rfl;have eA:=aa ta.out 0;have dA:=aa ta.out 1;have cA:=aa ta.out 2;have bA:=aa ta.out 3;have aA:=aa ta.out 4;have dW:vC.cell? ⟨Ga,0,none⟩=some (.slice Pf Rc.length Df):=(ja ya.out 0).trans rfl;have cW:vC.cell? ⟨Ga,1,none⟩=some (.int .i64 Xb):=(ja ya.out 1).trans rfl;have bW:vC.cell? ⟨Ga,2,none⟩=some (.int .i64 Qb):=(ja ya.out 2).trans rfl;have aW:vC.cell? ⟨Ga,3,none⟩=some (.int .i64 Rb):=(ja ya.out 3).trans rfl;have ZV:vC.cell? ⟨Ga,4,none⟩=some (.slice ot ym.length bt):=(ja ya.out 4).trans rfl;have OU:=aa ya.out 0;have NU:=aa ya.out 1;have MU:=aa ya.out 2;have LU:=aa ya.out 3;have KU:=aa ya.out 4)|((with_reducible refine zb (f:=17) rfl ?_);refine Pc (some 9) rfl rfl Try.func17 (by kernel_rfl) rfl #[.slice qb Ma.length mb,.slice Pf Rc.length Df] rfl (by (try simp only [List.map_toArray,List.map_cons,List.map_nil]);first|done|rfl|(simp only [List.length_drop,List.length_take];rfl)) ?_;(with_reducible refine (Jd.calls k _ _ Ma _ _ Rc false _ ?Fc ?Ec ?Wd ?Vd A3.out).mono ?_);(case Fc=>repeat (first|exact (Kd.Nb Ke.out HB.out)|(with_reducible refine Kd.Ub ?_ _)|(with_reducible refine Kd.Tb ?_ _)|(with_reducible refine Kd.mc ?_)));(case Ec=>exact Ve.out);(case Wd=>repeat (first|exact (Kd.Nb eo.out HB.out)|(with_reducible refine Kd.Ub ?_ _)|(with_reducible refine Kd.Tb ?_ _)|(with_reducible refine Kd.mc ?_)));(case Vd=>exact zq.out);rintro e w' ⟨rfl,⟨nd,rfl⟩⟩;refine ⟨_,rfl,?_⟩));go_ret;exact ⟨by first|rfl|(simp [Pa,Oa] <;> rfl)|(simp [*,Pa,Oa] <;> rfl),by repeat (first|(with_reducible first|exact HB.out|apply oa|apply ia|apply qa|refine ua ?_ Sa.out|refine ua ?_ uc.out)|exact HB.out)⟩
theorem Ev.pos {α:Type} {c:Prop} [Decidable c] {f g:Nat→Option α} {r:α} (h:c) (k:Ev f r):Ev (fun n=>if c then f n else g n) r:=Ev.congr (fun n=>if_pos h) k
theorem Ev.neg {α:Type} {c:Prop} [Decidable c] {f g:Nat→Option α} {r:α} (h:¬ c) (k:Ev g r):Ev (fun n=>if c then f n else g n) r:=Ev.congr (fun n=>if_neg h) k
theorem Ev.val {α β:Type} {a:α} {f:Nat→α→Option β} {r:β} (k:Ev (fun n=>f n a) r):Ev (fun n=>(some a).bind (f n)) r:=Ev.congr (fun n=>rfl) k
theorem Ev.here {α:Type} {o:Option α} {r:α} (h:o=some r):Ev (fun _=>o) r:=Ev.congr (fun n=>h) (Ev.now r)
theorem Cg {x:Int} (h:-9223372036854775808 ≤ x) (h':x ≤ 9223372036854775807):wrap64 x=x:=by
 unfold wrap64;omega
theorem xe {i n:Nat} (h:i < n) (hn:n ≤ 9223372036854775807):wrap64 ((i:Int) + 1)=((i + 1:Nat):Int):=by
 rw [Cg (by omega) (by omega)];omega
theorem Qg {ρ:Type} {n:Nat} {r:ρ} (P:Nat→Prop) (hend:P n) (hstep:∀ i,i < n→P (i + 1)→P i):∀ i,i ≤ n→P i:=by
 have key:∀ d i,i + d=n→P i:=by
  intro d
  induction d with
  | zero =>
   intro i hi;have:i=n:=by omega
   exact this ▸ hend
  | succ d ih =>
   intro i hi;exact hstep i (by omega) (ih (i + 1) (by omega))
 intro i hi;exact key (n - i) i (by omega)
theorem jy {α:Type} {m:List α} {z:α} {i:Nat} (h:i < m.length):(m.take i ++ List.replicate (m.length - i) z).set i (m.getD i z)=m.take (i + 1) ++ List.replicate (m.length - (i + 1)) z:=by
 rw [List.set_append_right _ _ (by rw [List.length_take];omega),List.length_take,Nat.min_eq_left (by omega),Nat.sub_self];rw [show m.length - i=(m.length - (i + 1)) + 1 from by omega,List.replicate_succ,List.set_cons_zero,List.take_succ_eq_append_getElem h,List.append_assoc];simp [List.getD_eq_getElem?_getD,List.getElem?_eq_getElem h]
theorem oD {α:Type} {m:List α} {z:α}:m.take 0 ++ List.replicate (m.length - 0) z=List.replicate m.length z:=by simp
theorem NB {α:Type} {m:List α} {z:α}:m.take m.length ++ List.replicate (m.length - m.length) z=m:=by simp
theorem TD (l:List Int) (i:Nat):rd l (i:Int)=l.getD i 0:=rfl
def iota (m:Int) (n:Nat):List Int:=(List.range n).map fun (j:Nat)=>m + (j:Int)
theorem Wj (m:Int) (n:Nat):(iota m n).length=n:=by simp [iota]
theorem jD {m:Int} {n i:Nat} (h:i < n):(iota m n).getD i 0=m + i:=by simp [iota,List.getD_eq_getElem?_getD,h]
theorem rH {α:Type} {m l:List α} {z:α} {i:Nat} (hl:l.length=m.length) (h:i < m.length):(m.take i ++ l.drop i).set i (m.getD i z)=m.take (i + 1) ++ l.drop (i + 1):=by
 rw [List.set_append_right _ _ (by rw [List.length_take];omega),List.length_take,Nat.min_eq_left (by omega),Nat.sub_self];rw [List.drop_eq_getElem_cons (by omega),List.set_cons_zero,List.take_succ_eq_append_getElem h,List.append_assoc];simp [List.getD_eq_getElem?_getD,List.getElem?_eq_getElem h]
theorem AH (a b c:Int):yh.f a b c=some (nk a b c):=by
 unfold yh.f nk
 by_cases h:a ≥ b
 ·rw [if_pos h];have h':b ≤ a:=h;simp [h']
 ·rw [if_neg h];have h':¬ b ≤ a:=h;simp [h']
theorem RO (l:List Int) (hl:l.length ≤ 35184372088832):Ev (fun k=>Je.f k l) l:=by
 refine Ev.congr (f:=fun k=>Je.l0 k l (List.replicate l.length 0) 0) (fun k=>?_) ?_
 ·unfold Je.f;rw [if_pos (by omega),if_pos (by omega)]
  rfl
 ·have key:=Qg (r:=l) (n:=l.length) (fun i=>Ev (fun k=>Je.l0 k l (l.take i ++ List.replicate (l.length - i) 0) (i:Int)) l) ?_ ?_ 0 (by omega)
  ·simpa using key
  ·refine Ev.step (fun k=>by rw [Je.l0]) ?_;refine Ev.neg (by omega) ?_;rw [NB];exact Ev.now l
  ·intro i hi h;refine Ev.step (fun k=>by rw [Je.l0]) ?_;refine Ev.pos (by omega) (Ev.pos (by omega) (Ev.pos (by simp;omega) ?_));rw [xe hi (by omega),TD,Int.toNat_natCast,jy hi];exact h
theorem rD (l:List Int) (hl:l.length ≤ 9223372036854775807):Ev (fun k=>Jd.f k l l) true:=by
 refine Ev.congr (f:=fun k=>Jd.l0 k l l 0) (fun k=>?_) ?_
 ·unfold Jd.f;rw [if_pos rfl]
 ·refine Qg (r:=true) (n:=l.length) (fun i=>Ev (fun k=>Jd.l0 k l l (i:Int)) true) ?_ ?_ 0 (by omega)
  ·refine Ev.step (fun k=>by rw [Jd.l0]) ?_;exact Ev.neg (by omega) (Ev.now _)
  ·intro i hi h;refine Ev.step (fun k=>by rw [Jd.l0]) ?_;refine Ev.pos (by omega) (Ev.pos (by omega) (Ev.pos (by omega) (Ev.pos rfl ?_)));rw [xe hi hl];exact h
theorem oT (l:List Int) (a:Int) (ha:0 ≤ a) (ha':a ≤ 1048576) (hl:l.length ≤ 9223372036854775807):∃ t,Ci.f l a=some t∧t ≤ a∧(0 ≤ t→t + l.length=a):=by
 unfold Ci.f;rw [Cg (by omega) (by omega)]
 split
 ·exact ⟨-1,rfl,by omega,by omega⟩
 ·exact ⟨_,rfl,by omega,by omega⟩
def Om (x:zn):jd:=⟨x.f0,x.f1,x.f2,x.f3,x.f4,x.f5,x.f6⟩
theorem lI (l:List zn) (hl:l.length ≤ 4398046511104):Ev (fun k=>Od.f k l) (l.map Om):=by
 refine Ev.congr (f:=fun k=>Od.l0 k l (List.replicate l.length bk) 0) (fun k=>?_) ?_
 ·unfold Od.f;rw [if_pos (by omega),if_pos (by omega)]
  rfl
 ·have key:=Qg (r:=l.map Om) (n:=l.length) (fun i=>Ev (fun k=>Od.l0 k l ((l.map Om).take i ++ List.replicate ((l.map Om).length - i) bk) (i:Int)) (l.map Om)) ?_ ?_ 0 (by omega)
  ·rw [oD,List.length_map] at key;exact key
  ·refine Ev.step (fun k=>by rw [Od.l0]) ?_;refine Ev.neg (by omega) ?_;have e:=NB (m:=l.map Om) (z:=bk);rw [List.length_map] at e;rw [List.length_map,e];exact Ev.now _
  ·intro i hi h;refine Ev.step (fun k=>by rw [Od.l0]) ?_;refine Ev.pos (by omega) (Ev.pos (by omega) ?_);unfold gl.f;refine Ev.val (Ev.pos (by simp;omega) ?_)
   have hc:Om (Oc l (i:Int))=(l.map Om).getD i bk:=by
    simp [Oc,List.getD_eq_getElem?_getD,hi]
   have hf:=jy (m:=l.map Om) (z:=bk) (i:=i) (by rw [List.length_map];exact hi);rw [← hc] at hf;rw [xe hi (by omega),Int.toNat_natCast];have e:=hf ▸ h;exact e
theorem tI (l:List jd) (hl:l.length ≤ 9223372036854775807):Ev (fun k=>nc.f k l l) true:=by
 refine Ev.congr (f:=fun k=>nc.l0 k l l 0) (fun k=>?_) ?_
 ·unfold nc.f;rw [if_pos rfl]
 ·refine Qg (r:=true) (n:=l.length) (fun i=>Ev (fun k=>nc.l0 k l l (i:Int)) true) ?_ ?_ 0 (by omega)
  ·refine Ev.step (fun k=>by rw [nc.l0]) ?_;exact Ev.neg (by omega) (Ev.now _)
  ·intro i hi h;refine Ev.step (fun k=>by rw [nc.l0]) ?_;refine Ev.pos (by omega) (Ev.pos (by omega) (Ev.pos (by omega) ?_));unfold fk.f;simp only [if_true];refine Ev.val (Ev.pos rfl ?_);rw [xe hi hl];exact h
def Jy (l:List zn):Nat:=(l.map fun x=>x.f6.size).sum
def dO (l:List zn):Nat:=l.length + Jy l
def WZ (l:List Tk):Nat:=l.length + (l.map fun x=>dO x.f0).sum
theorem Cv {l:List zn} {i:Nat} (h:i < l.length):Oc l (i:Int)=l[i]:=by simp [Oc,List.getD_eq_getElem?_getD,h]
theorem Cq {l:List Tk} {i:Nat} (h:i < l.length):Cd l (i:Int)=l[i]:=by simp [Cd,List.getD_eq_getElem?_getD,h]
theorem nI (l:List zn) (a:Int) (ha:0 ≤ a) (ha':a ≤ 1048576) (hl:l.length ≤ 9223372036854775807) (ht:∀ x ∈ l,x.f6.size ≤ 9223372036854775807) :
  ∃ t,Ev (fun k=>Td.f k l a) t∧t ≤ a∧(0 ≤ t→t + dO l=a):=by
 have key:=Qg (ρ:=Unit) (r:=()) (n:=l.length) (fun i=>∀ a:Int,0 ≤ a→a ≤ 1048576→∃ t,Ev (fun k=>Td.l0 k l a (i:Int)) t∧t ≤ a∧(0 ≤ t→t + Jy (l.drop i)=a)) ?_ ?_ 0 (by omega)
 ·unfold Td.f;rw [Cg (by omega) (by omega)]
  by_cases h:a - (l.length:Int) < 0
  ·exact ⟨-1,Ev.pos h (Ev.now _),by omega,by omega⟩
  ·obtain ⟨t,e1,e2,e3⟩:=key (a - l.length) (by omega) (by omega);refine ⟨t,Ev.neg h e1,by omega,fun h0=>?_⟩;have:=e3 h0;rw [List.drop_zero] at this;unfold dO;omega
 ·intro a h0 h1;refine ⟨a,?_,by omega,?_⟩
  ·refine Ev.step (fun k=>by rw [Td.l0]) ?_;exact Ev.neg (by omega) (Ev.now _)
  ·intro _;rw [List.drop_length];simp [Jy]
 ·intro i hi ih a h0 h1;have hx:=ht l[i] (List.getElem_mem hi)
  have hd:Jy (l.drop i)=l[i].f6.size + Jy (l.drop (i + 1)):=by
   rw [List.drop_eq_getElem_cons hi];simp only [Jy,List.map_cons,List.sum_cons]
  by_cases h:a - (l[i].f6.size:Int) < 0
  ·refine ⟨-1,?_,by omega,by omega⟩;refine Ev.step (fun k=>by rw [Td.l0]) ?_;refine Ev.pos (by omega) (Ev.pos (by omega) ?_);rw [Cv hi];unfold Ui.f;rw [Cg (by omega) (by omega),if_pos h];exact Ev.val (Ev.pos (by decide) (Ev.now _))
  ·obtain ⟨t,e1,e2,e3⟩:=ih (a - l[i].f6.size) (by omega) (by omega);refine ⟨t,?_,by omega,fun hh=>by have:=e3 hh;omega⟩;refine Ev.step (fun k=>by rw [Td.l0]) ?_;refine Ev.pos (by omega) (Ev.pos (by omega) ?_);rw [Cv hi];unfold Ui.f;rw [Cg (by omega) (by omega),if_neg h];refine Ev.val (Ev.neg (by omega) ?_);rw [xe hi hl];exact e1
theorem oI (l:List Tk) (a:Int) (ha:0 ≤ a) (ha':a ≤ 1048576) (hl:l.length ≤ 9223372036854775807) (ht:∀ x ∈ l,x.f0.length ≤ 9223372036854775807∧∀ y ∈ x.f0,y.f6.size ≤ 9223372036854775807) :
  ∃ t,Ev (fun k=>Pd.f k l a) t∧t ≤ a∧(0 ≤ t→t + WZ l=a):=by
 have key:=Qg (ρ:=Unit) (r:=()) (n:=l.length) (fun i=>∀ a:Int,0 ≤ a→a ≤ 1048576→∃ t,Ev (fun k=>Pd.l0 k l a (i:Int)) t∧t ≤ a∧(0 ≤ t→t + ((l.drop i).map fun x=>dO x.f0).sum=a)) ?_ ?_ 0 (by omega)
 ·unfold Pd.f;rw [Cg (by omega) (by omega)]
  by_cases h:a - (l.length:Int) < 0
  ·exact ⟨-1,Ev.pos h (Ev.now _),by omega,by omega⟩
  ·obtain ⟨t,e1,e2,e3⟩:=key (a - l.length) (by omega) (by omega);refine ⟨t,Ev.neg h e1,by omega,fun h0=>?_⟩;have:=e3 h0;rw [List.drop_zero] at this;unfold WZ;omega
 ·intro a h0 h1;refine ⟨a,?_,by omega,?_⟩
  ·refine Ev.step (fun k=>by rw [Pd.l0]) ?_;exact Ev.neg (by omega) (Ev.now _)
  ·intro _;rw [List.drop_length];simp
 ·intro i hi ih a h0 h1;have hx:=ht l[i] (List.getElem_mem hi)
  have hd:((l.drop i).map fun x=>dO x.f0).sum=dO l[i].f0 + ((l.drop (i + 1)).map fun x=>dO x.f0).sum:=by
   rw [List.drop_eq_getElem_cons hi];simp only [List.map_cons,List.sum_cons]
  obtain ⟨u,f1,f2,f3⟩:=nI l[i].f0 a h0 h1 hx.1 hx.2
  by_cases h:u < 0
  ·refine ⟨-1,?_,by omega,by omega⟩;refine Ev.step (fun k=>by rw [Pd.l0]) ?_;refine Ev.pos (by omega) (Ev.pos (by omega) ?_);rw [Cq hi];unfold Vi.f;refine Ev.bind (Ev.bind f1 (Ev.pos h (Ev.now _))) ?_;exact Ev.pos (by decide) (Ev.now _)
  ·obtain ⟨t,e1,e2,e3⟩:=ih u (by omega) (by omega);have:=f3 (by omega);refine ⟨t,?_,by omega,fun hh=>by have:=e3 hh;omega⟩;refine Ev.step (fun k=>by rw [Pd.l0]) ?_;refine Ev.pos (by omega) (Ev.pos (by omega) ?_);rw [Cq hi];unfold Vi.f;refine Ev.bind (Ev.bind f1 (Ev.neg h (Ev.now _))) ?_;refine Ev.neg (by omega) ?_;rw [xe hi hl];exact e1
theorem wB {l:List Nat} {n:Nat} (h:n ∈ l):n ≤ l.sum:=by
 induction l with
 | nil=>cases h
 | cons a l ih =>
  rw [List.sum_cons];cases h with
  | head=>omega
  | tail _ h=>have:=ih h;omega
theorem oH {l:List Tk} {n:Nat} (h:WZ l ≤ n):l.length ≤ n∧∀ x ∈ l,x.f0.length ≤ n:=by
 unfold WZ at h;refine ⟨by omega,fun x hx=>?_⟩;have:dO x.f0 ≤ (l.map fun x=>dO x.f0).sum:=wB (List.mem_map.mpr ⟨x,hx,rfl⟩);unfold dO at this h;omega
theorem pK (x0:List Int) (x1 x2 x3:Int) (x4:List Tk) (a:Int) (ha:0 ≤ a) (ha':a ≤ 1048576) (h0:x0.length ≤ 9223372036854775807) (hl:x4.length ≤ 9223372036854775807) (ht:∀ x ∈ x4,x.f0.length ≤ 9223372036854775807∧∀ y ∈ x.f0,y.f6.size ≤ 9223372036854775807) :
  ∃ t,Ev (fun k=>Di.f k x0 x1 x2 x3 x4 a) t∧t ≤ a∧(0 ≤ t→t + x0.length + WZ x4=a):=by
 obtain ⟨t,e1,e2,e3⟩:=oT x0 a ha ha' h0;unfold Di.f;rw [e1];simp only [Option.bind_some]
 by_cases ht':t < 0
 ·exact ⟨-1,Ev.pos ht' (Ev.now _),by omega,by omega⟩
 ·obtain ⟨u,f1,f2,f3⟩:=oI x4 t (by omega) (by omega) hl ht
  by_cases hu:u < 0
  ·exact ⟨-1,Ev.neg ht' (Ev.bind f1 (Ev.pos hu (Ev.now _))),by omega,by omega⟩
  ·exact ⟨u,Ev.neg ht' (Ev.bind f1 (Ev.neg hu (Ev.now _))),by omega,fun _=>by have:=e3 (by omega);have:=f3 (by omega);omega⟩
def Dg (x:Tk):jf:=⟨x.f0.map Om,x.f1,x.f2,x.f3,x.f4⟩
theorem mI (l:List Tk) (hl:l.length ≤ 1048576) (hb:∀ x ∈ l,x.f0.length ≤ 1048576):Ev (fun k=>Gd.f k l) (l.map Dg):=by
 refine Ev.congr (f:=fun k=>Gd.l0 k l (List.replicate l.length dH) 0) (fun k=>?_) ?_
 ·unfold Gd.f;rw [if_pos (by omega),if_pos (by omega)]
  rfl
 ·have key:=Qg (r:=l.map Dg) (n:=l.length) (fun i=>Ev (fun k=>Gd.l0 k l ((l.map Dg).take i ++ List.replicate ((l.map Dg).length - i) dH) (i:Int)) (l.map Dg)) ?_ ?_ 0 (by omega)
  ·rw [oD,List.length_map] at key;exact key
  ·refine Ev.step (fun k=>by rw [Gd.l0]) ?_;refine Ev.neg (by omega) ?_;have e:=NB (m:=l.map Dg) (z:=dH);rw [List.length_map] at e;rw [List.length_map,e];exact Ev.now _
  ·intro i hi h;refine Ev.step (fun k=>by rw [Gd.l0]) ?_;refine Ev.pos (by omega) (Ev.pos (by omega) ?_);unfold jl.f;have hx:=hb l[i] (List.getElem_mem hi);rw [Cq hi];refine Ev.bind (Ev.bind (lI l[i].f0 (by omega)) (Ev.now _)) ?_;refine Ev.pos (by simp;omega) ?_
   have hc:Dg l[i]=(l.map Dg).getD i dH:=by
    simp [List.getD_eq_getElem?_getD,hi]
   have hf:=jy (m:=l.map Dg) (z:=dH) (i:=i) (by rw [List.length_map];exact hi);rw [← hc] at hf;rw [xe hi (by omega),Int.toNat_natCast];have e:=hf ▸ h;exact e
theorem Qm {l:List jf} {i:Nat} (h:i < l.length):Ta l (i:Int)=l[i]:=by simp [Ta,List.getD_eq_getElem?_getD,h]
theorem uI (l:List jf) (hl:l.length ≤ 9223372036854775807) (hb:∀ x ∈ l,x.f0.length ≤ 9223372036854775807):Ev (fun k=>Bc.f k l l) true:=by
 refine Ev.congr (f:=fun k=>Bc.l0 k l l 0) (fun k=>?_) ?_
 ·unfold Bc.f;rw [if_pos rfl]
 ·refine Qg (r:=true) (n:=l.length) (fun i=>Ev (fun k=>Bc.l0 k l l (i:Int)) true) ?_ ?_ 0 (by omega)
  ·refine Ev.step (fun k=>by rw [Bc.l0]) ?_;exact Ev.neg (by omega) (Ev.now _)
  ·intro i hi h;refine Ev.step (fun k=>by rw [Bc.l0]) ?_;refine Ev.pos (by omega) (Ev.pos (by omega) (Ev.pos (by omega) ?_));unfold jk.f;rw [Qm hi];refine Ev.bind (Ev.bind (tI l[i].f0 (hb _ (List.getElem_mem hi))) (Ev.pos rfl (Ev.pos rfl (Ev.pos rfl (Ev.pos rfl (Ev.pos rfl (Ev.now _))))))) (Ev.pos rfl ?_);rw [xe hi hl];exact h
theorem oK (x0:List Int) (x1 x2 x3:Int) (x4:List Tk) (h0:x0.length ≤ 1048576) (hl:x4.length ≤ 1048576) (hb:∀ x ∈ x4,x.f0.length ≤ 1048576):Ev (fun k=>Xg.f k x0 x1 x2 x3 x4) (x0,x1,x2,x3,x4.map Dg):=by
 unfold Xg.f;exact Ev.bind (RO x0 (by omega)) (Ev.bind (mI x4 hl hb) (Ev.now _))
theorem qK (x0:List Int) (x1 x2 x3:Int) (x4:List jf) (h0:x0.length ≤ 9223372036854775807) (hl:x4.length ≤ 9223372036854775807) (hb:∀ x ∈ x4,x.f0.length ≤ 9223372036854775807):Ev (fun k=>Wi.f k x0 x1 x2 x3 x4 x0 x1 x2 x3 x4) true:=by
 unfold Wi.f;refine Ev.bind (rD x0 h0) ?_;refine Ev.pos rfl (Ev.pos rfl (Ev.pos rfl (Ev.pos rfl ?_)));exact Ev.bind (uI x4 hl hb) (Ev.pos rfl (Ev.now _))
end Go.Proofs.Ytoomcmaifgkkfaa.P
end
section
namespace Go.Proofs.Ytoomcmaifgkkfaa.P
open Go.RowKit Go.Proofs.Ia.Pb Go.Proofs.Ia.Ld Go.Proofs.Ia.De
set_option linter.unusedVariables false
set_option linter.unusedSimpArgs false
open Classical in
noncomputable def Rz (n:Nat) (p:Nat→Prop):Bool:=decide (∀ j,j < n→p j)
open Classical in
theorem gP {n:Nat} {p:Nat→Prop} (h:∀ j,j < n→p j):Rz n p=true:=by
 unfold Rz;exact decide_eq_true h
open Classical in
theorem QI {n:Nat} {p:Nat→Prop}:Rz n p=true ↔ ∀ j,j < n→p j:=by
 unfold Rz;exact decide_eq_true_iff
theorem NK {n i:Nat} {p:Nat→Prop} (hi:i < n) (h:¬ p i):Rz n p=false:=by
 cases e:Rz n p with
 | false=>rfl
 | true=>exact absurd (QI.mp e i hi) h
theorem sK {ρ:Type} {n:Nat} {R e:ρ} (p:Nat→Prop) (f:Nat→Nat→Option ρ) (hend:Ev (f n) R) (hyes:∀ i,i < n→p i→∀ r,Ev (f (i + 1)) r→Ev (f i) r) (hno:∀ i,i < n→¬ p i→Ev (f i) e):Ev (f 0) (bif Rz n p then R else e):=by
 have key:∀ d i,i + d=n→(∀ j,j < i→p j)→Ev (f i) (bif Rz n p then R else e):=by
  intro d
  induction d with
  | zero =>
   intro i hi h;have:i=n:=by omega
   subst this;rw [gP h];exact hend
  | succ d ih =>
   intro i hi h
   by_cases hp:p i
   ·refine hyes i (by omega) hp _ (ih (i + 1) (by omega) ?_);intro j hj
    by_cases hji:j=i
    ·rw [hji];exact hp
    ·exact h j (by omega)
   ·rw [NK (by omega) hp];exact hno i (by omega) hp
 exact key n 0 (by omega) (fun j hj=>absurd hj (by omega))
theorem iz {α:Type} (l:List α) (z:α) (q:α→Bool):Rz l.length (fun j=>q (l.getD j z)=true) = !(l.any fun x=>!q x):=by
 rw [Bool.eq_iff_iff,QI];simp only [Bool.not_eq_true',List.any_eq_false,Bool.not_eq_true',Bool.not_eq_false]
 constructor
 ·intro h x hx;obtain ⟨j,hj,rfl⟩:=List.mem_iff_getElem.mp hx;have:=h j hj;rw [List.getD_eq_getElem?_getD,List.getElem?_eq_getElem hj] at this
  simpa using this
 ·intro h j hj;have:=h l[j] (List.getElem_mem hj);rw [List.getD_eq_getElem?_getD,List.getElem?_eq_getElem hj]
  simpa using this
end Go.Proofs.Ytoomcmaifgkkfaa.P
end
section
namespace Go.Proofs.Ytoomcmaifgkkfaa.P
open Go.RowKit Go.Proofs.Ia.Pb Go.Proofs.Ia.Ld Go.Proofs.Ia.De
set_option linter.unusedVariables false
set_option linter.unusedSimpArgs false
theorem rQ (a b c:Int):Za.f a b c=some (nk a b c):=by
 unfold Za.f nk
 by_cases h:a ≥ b
 ·rw [if_pos h];have h':b ≤ a:=h;simp [h']
 ·rw [if_neg h];have h':¬ b ≤ a:=h;simp [h']
theorem qg (a b c:Int):Ev (fun _=>Za.f a b c) (nk a b c):=Ev.here (rQ a b c)
theorem j4 (t:ByteArray):Ev (fun k=>Qe.f k ([(⟨#[61,61]⟩:ByteArray),(⟨#[60]⟩:ByteArray),(⟨#[38]⟩:ByteArray),(⟨#[43]⟩:ByteArray),(⟨#[45]⟩:ByteArray),(⟨#[42]⟩:ByteArray)]:List ByteArray) t) (uw t):=by
 refine ⟨8,fun k hk=>?_⟩;obtain ⟨m,rfl⟩:∃ m,k=m + 8:=⟨k - 8,by omega⟩;unfold Qe.f uw EJ;simp only [Qe.l0,List.any_cons,List.any_nil]
 by_cases h0:t.toList=[61,61]
 ·simp [Eg,h0]
 by_cases h1:t.toList=[60]
 ·simp [Eg,h1,wrap64]
 by_cases h2:t.toList=[38]
 ·simp [Eg,h2,wrap64]
 by_cases h3:t.toList=[43]
 ·simp [Eg,h3,wrap64]
 by_cases h4:t.toList=[45]
 ·simp [Eg,h4,wrap64]
 by_cases h5:t.toList=[42]
 ·simp [Eg,h5,wrap64]
 simp [Eg,Ne.symm h0,Ne.symm h1,Ne.symm h2,Ne.symm h3,Ne.symm h4,Ne.symm h5,h0,h1,h2,h3,h4,h5,wrap64]
theorem YJ (s d:Int):nk d 0 (s - 1)=xm s d:=by
 unfold nk xm;rw [Bool.eq_iff_iff];simp;omega
def cE (D A B C M:Bool) (o d a b n:Int) (t:ByteArray):Bool :=
 if o=0 then D && (a == 0 && b == 0)
 else if o=1 then D && (A && (b == 0 && n == 0))
 else if o=2 then D && (A && (B && (n == 0 && uw t)))
 else if o=3 then D && M
 else if o=4 then d == 0 && (M && C)
 else if o=5 then D && (a == 0 && (b == 0 && n == 0))
 else if o=6 then d == 0 && (A && (b == 0 && n == 0))
 else false
theorem Ev.xy {b:Bool} {f:Nat→Option Bool} {r:Bool} (hf:b=true→Ev f r):Ev (fun n=>if b=true then f n else some false) (b && r):=by
 cases b with
 | true=>exact Ev.pos rfl (hf rfl)
 | false=>exact Ev.neg (by simp) (Ev.now _)
theorem Ev.WC {c:Prop} [Decidable c] {f:Nat→Option Bool} {r:Bool} (hf:c→Ev f r):Ev (fun n=>if c then f n else some false) (decide c && r):=by
 by_cases h:c
 ·rw [decide_eq_true h];exact Ev.pos h (hf h)
 ·rw [decide_eq_false h];exact Ev.neg h (Ev.now _)
section
variable {l0:List Int} {p v s:Int} {l4:List jf} {o d a b c n:Int} {t:ByteArray}
theorem rI (D A B M:Bool) (x:Bool) (hs:0 ≤ s) (hs':s ≤ 1000):Ev (fun k=>yb.j1 k D A B M x l0 p v s l4 o d a b c n t) (!x && cE D A B (xm s c) M o d a b n t):=by
 refine Ev.step (fun k=>by rw [yb.j1]) ?_;cases x with
 | true=>exact Ev.pos rfl (Ev.now _)
 | false =>
  refine Ev.neg (by simp) ?_;rw [Bool.not_false,Bool.true_and];unfold cE
  by_cases h0:o=0
  ·rw [if_pos h0];exact Ev.pos h0 (Ev.xy fun _=>Ev.WC fun _=>Ev.now _)
  rw [if_neg h0];refine Ev.neg h0 ?_
  by_cases h1:o=1
  ·rw [if_pos h1];exact Ev.pos h1 (Ev.xy fun _=>Ev.xy fun _=>Ev.WC fun _=>Ev.now _)
  rw [if_neg h1];refine Ev.neg h1 ?_
  by_cases h2:o=2
  ·rw [if_pos h2];exact Ev.pos h2 (Ev.xy fun _=>Ev.xy fun _=>Ev.xy fun _=>Ev.WC fun _=>Ev.bind (j4 t) (Ev.now _))
  rw [if_neg h2];refine Ev.neg h2 ?_
  by_cases h3:o=3
  ·rw [if_pos h3,if_pos h3];exact (Ev.xy fun _=>Ev.now _)
  rw [if_neg h3,if_neg h3]
  by_cases h4:o=4
  ·rw [if_pos h4,if_pos h4];refine (Ev.WC fun _=>Ev.xy fun _=>?_);rw [Cg (x:=s - 1) (by omega) (by omega),← YJ];exact Ev.bind (qg _ _ _) (Ev.now _)
  rw [if_neg h4,if_neg h4]
  by_cases h5:o=5
  ·rw [if_pos h5,if_pos h5];exact (Ev.xy fun _=>Ev.WC fun _=>Ev.WC fun _=>Ev.now _)
  rw [if_neg h5,if_neg h5]
  by_cases h6:o=6
  ·rw [if_pos h6,if_pos h6];exact (Ev.WC fun _=>Ev.xy fun _=>Ev.WC fun _=>Ev.now _)
  rw [if_neg h6,if_neg h6];exact Ev.now _
theorem gn (M:Bool) (hM:M=((xm s a || a == -1) && (xm s b && nk n 0 ((l0.length:Int) - 1)))) (hs:0 ≤ s) (hs':s ≤ 1000):Ev (fun k=>yb.j0 k (xm s d) (xm s a) (xm s b) M l0 p v s l4 o d a b c n t) (Rm l0.length s o d a b c n t):=by
 refine Ev.step (fun k=>by rw [yb.j0]) ?_
 have key:∀ x:Bool,(x=if o=2 then (c != 0) else if t.toList=[] then (if o=4 then false else (c != 0)) else true)→Ev (fun k=>yb.j1 k (xm s d) (xm s a) (xm s b) M x l0 p v s l4 o d a b c n t) (Rm l0.length s o d a b c n t):=by
  intro x hx
  have e:Rm l0.length s o d a b c n t=(!x && cE (xm s d) (xm s a) (xm s b) (xm s c) M o d a b n t):=by
   subst hM;subst hx;unfold Rm cE
   by_cases h0:o=0
   ·subst h0;rw [Bool.eq_iff_iff]
    by_cases ht:t.toList=[] <;> simp [ht]
    all_goals (constructor <;> intro h <;> simp_all)
   by_cases h1:o=1
   ·subst h1;rw [Bool.eq_iff_iff]
    by_cases ht:t.toList=[] <;> simp [ht]
    all_goals (constructor <;> intro h <;> simp_all)
   by_cases h2:o=2
   ·subst h2;rw [Bool.eq_iff_iff];simp
    constructor <;> intro h <;> simp_all
   by_cases h3:o=3
   ·subst h3;rw [Bool.eq_iff_iff]
    by_cases ht:t.toList=[] <;> simp [ht]
    all_goals (constructor <;> intro h <;> simp_all)
   by_cases h4:o=4
   ·subst h4;rw [Bool.eq_iff_iff]
    by_cases ht:t.toList=[] <;> simp [ht]
    all_goals (constructor <;> intro h <;> simp_all)
   by_cases h5:o=5
   ·subst h5;rw [Bool.eq_iff_iff]
    by_cases ht:t.toList=[] <;> simp [ht]
    all_goals (constructor <;> intro h <;> simp_all)
   by_cases h6:o=6
   ·subst h6;rw [Bool.eq_iff_iff]
    by_cases ht:t.toList=[] <;> simp [ht]
    all_goals (constructor <;> intro h <;> simp_all)
   simp [h0,h1,h2,h3,h4,h5,h6]
  rw [e];exact rI _ _ _ _ _ hs hs'
 by_cases h2:o=2
 ·exact Ev.pos h2 (Ev.neg (by omega) (key _ (by rw [if_pos h2])))
 ·refine Ev.neg h2 ?_
  by_cases ht:t.toList=([]:List UInt8)
  ·refine Ev.pos ht ?_
   by_cases h4:o=4
   ·exact Ev.pos h4 (key _ (by rw [if_neg h2,if_pos ht,if_pos h4]))
   ·exact Ev.neg h4 (key _ (by rw [if_neg h2,if_pos ht,if_neg h4]))
  ·exact Ev.neg ht (key _ (by rw [if_neg h2,if_neg ht]))
theorem SB (hs:0 ≤ s) (hs':s ≤ 1000) (hl:l0.length ≤ 1048576):Ev (fun k=>yb.f k l0 p v s l4 o d a b c n t) (Rm l0.length s o d a b c n t):=by
 unfold yb.f;rw [Cg (x:=s - 1) (by omega) (by omega),Cg (x:=(l0.length:Int) - 1) (by omega) (by omega)];refine Ev.bind (qg _ _ _) (Ev.bind (qg _ _ _) (Ev.bind (qg _ _ _) ?_));simp only [YJ];cases ha:xm s a with
 | true =>
  refine Ev.pos rfl ?_;cases hb:xm s b with
  | true=>exact Ev.pos rfl (Ev.bind (qg _ _ _) (by have:=gn (l0:=l0) (p:=p) (v:=v) (s:=s) (l4:=l4) (o:=o) (d:=d) (a:=a) (b:=b) (c:=c) (n:=n) (t:=t) (nk n 0 ((l0.length:Int) - 1)) (by simp [ha,hb]) hs hs';rw [ha,hb] at this;exact this))
  | false=>exact Ev.neg (by simp) (by have:=gn (l0:=l0) (p:=p) (v:=v) (s:=s) (l4:=l4) (o:=o) (d:=d) (a:=a) (b:=b) (c:=c) (n:=n) (t:=t) false (by simp [hb]) hs hs';rw [ha,hb] at this;exact this)
 | false =>
  refine Ev.neg (by simp) ?_
  by_cases h1:a = -1
  ·refine Ev.pos h1 ?_;cases hb:xm s b with
   | true=>exact Ev.pos rfl (Ev.bind (qg _ _ _) (by have:=gn (l0:=l0) (p:=p) (v:=v) (s:=s) (l4:=l4) (o:=o) (d:=d) (a:=a) (b:=b) (c:=c) (n:=n) (t:=t) (nk n 0 ((l0.length:Int) - 1)) (by simp [h1,hb]) hs hs';rw [ha,hb] at this;exact this))
   | false=>exact Ev.neg (by simp) (by have:=gn (l0:=l0) (p:=p) (v:=v) (s:=s) (l4:=l4) (o:=o) (d:=d) (a:=a) (b:=b) (c:=c) (n:=n) (t:=t) false (by simp [hb]) hs hs';rw [ha,hb] at this;exact this)
  ·exact Ev.neg h1 (by have:=gn (l0:=l0) (p:=p) (v:=v) (s:=s) (l4:=l4) (o:=o) (d:=d) (a:=a) (b:=b) (c:=c) (n:=n) (t:=t) false (by simp [ha,h1]) hs hs';rw [ha] at this;exact this)
theorem rK (code:List jd) (j ba tg els:Int) (hs:0 ≤ s) (hs':s ≤ 1000) (hl:l0.length ≤ 1048576) (hl4:l4.length ≤ 1048576) (hc:code.length ≤ 1048576):Ev (fun k=>jc.f k l0 p v s l4 code j ba tg els) (Kk l0.length s l4.length code j ba tg els):=by
 unfold jc.f;have key:=sK (n:=code.length) (R:=(if j=0 then nk tg 0 ((l4.length:Int) - 1) && ba == 0 && els == 0 else if j=1 then nk tg 0 ((l4.length:Int) - 1) && nk els 0 ((l4.length:Int) - 1) && xm s ba else if j=2 then xm s ba && tg == 0 && els == 0 else false)) (e:=false) (fun i=>Hp l0.length s (code.getD i bk)=true) (fun i k=>jc.l0 k (i:Int) l0 p v s l4 code j ba tg els) ?_ ?_ ?_
 ·have e:(bif Rz code.length (fun i=>Hp l0.length s (code.getD i bk)=true) then (if j=0 then nk tg 0 ((l4.length:Int) - 1) && ba == 0 && els == 0 else if j=1 then nk tg 0 ((l4.length:Int) - 1) && nk els 0 ((l4.length:Int) - 1) && xm s ba else if j=2 then xm s ba && tg == 0 && els == 0 else false) else false)=Kk l0.length s l4.length code j ba tg els:=by
   rw [iz];unfold Kk;rw [decide_eq_true hs,Bool.and_true];cases (!(code.any fun x=>!Hp l0.length s x)) <;> rfl
  rw [e] at key;exact key
 ·refine Ev.step (fun k=>by rw [jc.l0]) (Ev.neg (by omega) ?_);rw [Cg (x:=s - 1) (by omega) (by omega),Cg (x:=(l4.length:Int) - 1) (by omega) (by omega)];refine Ev.bind (qg _ _ _) (Ev.bind (qg _ _ _) ?_);rw [YJ s ba]
  by_cases h0:j=0
  ·rw [if_pos h0,if_pos h0,Bool.and_assoc];exact Ev.xy fun _=>Ev.WC fun _=>Ev.now _
  rw [if_neg h0,if_neg h0]
  by_cases h1:j=1
  ·rw [if_pos h1,if_pos h1,Bool.and_assoc,Bool.and_comm (nk els 0 ((l4.length:Int) - 1))];exact Ev.xy fun _=>Ev.xy fun _=>Ev.bind (qg _ _ _) (Ev.now _)
  rw [if_neg h1,if_neg h1]
  by_cases h2:j=2
  ·rw [if_pos h2,if_pos h2,Bool.and_assoc];exact Ev.xy fun _=>Ev.WC fun _=>Ev.now _
  rw [if_neg h2,if_neg h2];exact Ev.now _
 ·intro i hi hp r hr;refine Ev.step (fun k=>by rw [jc.l0]) (Ev.pos (by omega) (Ev.pos (by omega) ?_));refine Ev.bind (SB hs hs' hl) ?_;have hq:Rm l0.length s (Ba code (i:Int)).f0 (Ba code (i:Int)).f1 (Ba code (i:Int)).f2 (Ba code (i:Int)).f3 (Ba code (i:Int)).f4 (Ba code (i:Int)).f5 (Ba code (i:Int)).f6=true:=hp;refine Ev.pos hq ?_;rw [xe hi (by omega)];exact hr
 ·intro i hi hp;refine Ev.step (fun k=>by rw [jc.l0]) (Ev.pos (by omega) (Ev.pos (by omega) ?_));refine Ev.bind (SB hs hs' hl) ?_;exact Ev.neg hp (Ev.now _)
end
def ee (l:List jf):Nat:=(l.map fun x=>x.f0.length).sum
def CB (l0:List Int) (p v s:Int) (n4:Nat):Bool:=Vv l0 p v && nk s v 1000 && nk (n4:Int) 1 300
def rq (l0:List Int) (s:Int) (l4:List jf) (x:jf):Bool:=Kk l0.length s l4.length x.f0 x.f1 x.f2 x.f3 x.f4
def jm (l0:List Int) (p v s:Int) (l4:List jf):Bool:=CB l0 p v s l4.length && (!(l4.any fun x=>!rq l0 s l4 x) && decide (ee l4 ≤ 1000))
theorem tw (l:List jf) (i:Nat) (h:i < l.length):ee (l.take (i + 1))=ee (l.take i) + l[i].f0.length:=by
 unfold ee;rw [List.take_succ_eq_append_getElem h,List.map_append,List.sum_append];simp
theorem mB (l:List Nat) (i:Nat):(l.take i).sum ≤ l.sum:=by
 conv=>rhs;rw [← List.take_append_drop i l]
 rw [List.sum_append];omega
theorem nB (l:List jf) (i:Nat):ee (l.take i) ≤ ee l:=by
 unfold ee;rw [List.map_take];exact mB _ _
theorem QO {l0:List Int} {p v s:Int} {n4:Nat} (h:CB l0 p v s n4=true):1 ≤ l0.length∧l0.length ≤ 4∧0 ≤ p∧p ≤ v∧p ≤ 6∧v ≤ 20∧v ≤ s∧s ≤ 1000∧1 ≤ n4∧n4 ≤ 300:=by
 unfold CB Vv nk at h;simp only [Bool.and_eq_true,decide_eq_true_eq] at h;obtain ⟨⟨⟨⟨⟨⟨h1,h2⟩,_⟩,h3,h4⟩,h5⟩,h6,h7⟩,h8,h9⟩:=h
 split at h4 <;> omega
section
variable {l0:List Int} {p v s:Int} {l4:List jf}
theorem RB (h0:l0.length ≤ 1048576) (hl4:l4.length ≤ 1048576) (ht:ee l4 ≤ 1048576):Ev (fun k=>Yb.f k l0 p v s l4) (jm l0 p v s l4):=by
 unfold Yb.f Kg.f;simp only [List.length_nil,if_true];refine Ev.val ?_
 have no:∀ {r:Bool},r=false→Ev (fun k=>Yb.j0 k true l0 p v s l4) r:=by
  intro r hr;subst hr;exact Ev.step (fun k=>by rw [Yb.j0]) (Ev.pos rfl (Ev.now _))
 unfold jm CB;cases hp:Vv l0 p v with
 | false=>exact Ev.neg (by simp) (no (by simp))
 | true =>
  refine Ev.pos rfl (Ev.bind (Ev.here (AH _ _ _)) ?_);cases hv:nk s v 1000 with
  | false=>exact Ev.neg (by simp) (no (by simp))
  | true =>
   refine Ev.pos rfl (Ev.bind (Ev.here (AH _ _ _)) ?_);cases hn:nk (l4.length:Int) 1 300 with
   | false=>exact no (by simp)
   | true =>
    refine Ev.step (fun k=>by rw [Yb.j0]) (Ev.neg (by simp) ?_);simp only [Bool.true_and];have key:=sK (n:=l4.length) (R:=decide (ee l4 ≤ 1000)) (e:=false) (fun i=>rq l0 s l4 (l4.getD i dH)=true) (fun i k=>Yb.l0 k (ee (l4.take i):Int) l4 (l4.length:Int) (i:Int) l0 p v s l4) ?_ ?_ ?_
    ·have e:(bif Rz l4.length (fun i=>rq l0 s l4 (l4.getD i dH)=true) then decide (ee l4 ≤ 1000) else false)=(!(l4.any fun x=>!rq l0 s l4 x) && decide (ee l4 ≤ 1000)):=by
      rw [iz];cases (!(l4.any fun x=>!rq l0 s l4 x)) <;> rfl
     rw [e] at key
     simpa [ee] using key
    ·refine Ev.step (fun k=>by rw [Yb.l0]) (Ev.neg (by omega) ?_);rw [List.take_length]
     have e:decide ((ee l4:Int) ≤ 1000)=decide (ee l4 ≤ 1000):=by
      rw [Bool.eq_iff_iff,decide_eq_true_iff,decide_eq_true_iff];omega
     rw [e];exact Ev.now _
    ·intro i hi hq r hr;refine Ev.step (fun k=>by rw [Yb.l0]) (Ev.pos (by omega) (Ev.pos (by omega) (Ev.pos (by omega) ?_)));unfold Xi.f;have hq':Kk l0.length s l4.length (Ta l4 (i:Int)).f0 (Ta l4 (i:Int)).f1 (Ta l4 (i:Int)).f2 (Ta l4 (i:Int)).f3 (Ta l4 (i:Int)).f4=true:=hq;refine Ev.val (Ev.pos hq' ?_);have h1:=tw l4 i hi;have h2:=nB l4 (i + 1);rw [Qm hi,xe hi (by omega),Cg (x:=(ee (l4.take i):Int) + (l4[i].f0.length:Int)) (by omega) (by omega),show (ee (l4.take i):Int) + (l4[i].f0.length:Int)=(ee (l4.take (i + 1)):Int) from by omega];exact hr
    ·intro i hi hq;refine Ev.step (fun k=>by rw [Yb.l0]) (Ev.pos (by omega) (Ev.pos (by omega) (Ev.pos (by omega) ?_)));unfold Xi.f;exact Ev.val (Ev.neg hq (Ev.now _))
theorem ew (h0:l0.length ≤ 1048576) (hl4:l4.length ≤ 1048576) (ht:ee l4 ≤ 1048576):Ev (fun k=>Xa.f k l0 p v s l4) (jm l0 p v s l4):=by
 unfold Xa.f
 have no:∀ {r:Bool},r=false→Ev (fun k=>Xa.j1 k true l0 p v s l4) r:=by
  intro r hr;subst hr;exact Ev.step (fun k=>by rw [Xa.j1]) (Ev.pos rfl (Ev.now _))
 have key:=sK (n:=l0.length) (R:=nk (l0.length:Int) 1 4 && (nk v 0 20 && (nk p 0 6 && (decide (p ≤ v) && (nk s v 1000 && (nk (l4.length:Int) 1 300 && (!(l4.any fun x=>!rq l0 s l4 x) && decide (ee l4 ≤ 1000)))))))) (e:=false) (fun i=>nk (l0.getD i 0) 1 16=true) (fun i k=>Xa.l0 k (i:Int) l0 p v s l4) ?_ ?_ ?_
 ·have e:(bif Rz l0.length (fun i=>nk (l0.getD i 0) 1 16=true) then (nk (l0.length:Int) 1 4 && (nk v 0 20 && (nk p 0 6 && (decide (p ≤ v) && (nk s v 1000 && (nk (l4.length:Int) 1 300 && (!(l4.any fun x=>!rq l0 s l4 x) && decide (ee l4 ≤ 1000)))))))) else false)=jm l0 p v s l4:=by
   rw [iz l0 0 (fun x=>nk x 1 16)];unfold jm CB Vv;rw [Bool.eq_iff_iff];cases (!(l0.any fun x=>!nk x 1 16))
   ·simp
   ·simp only [cond_true,Bool.and_eq_true,nk,decide_eq_true_eq,and_assoc,true_and]
    constructor
    ·rintro ⟨h1,h2,h3,h4,h5,h6,h7,h8⟩;refine ⟨h1,h2,h5,?_,h4,h8⟩
     split <;> omega
    ·rintro ⟨h1,h2,h5,h6,h4,h7,h8,h9⟩;refine ⟨h1,h2,?_⟩
     split at h6 <;> exact ⟨by omega,by omega,by omega,by omega,by omega,h7,h8,h9⟩
  rw [e] at key;exact key
 ·refine Ev.step (fun k=>by rw [Xa.l0]) (Ev.neg (by omega) ?_);refine Ev.bind (qg _ _ _) ?_;cases hb0:nk (l0.length:Int) 1 4 with
  | false=>exact Ev.neg (by simp) (no (by simp))
  | true =>
   refine Ev.pos rfl (Ev.bind (qg _ _ _) ?_);cases Wq:nk v 0 20 with
   | false=>exact Ev.neg (by simp) (no (by simp))
   | true =>
    refine Ev.pos rfl (Ev.bind (qg _ _ _) ?_);cases Qj:nk p 0 6 with
    | false=>exact Ev.neg (by simp) (no (by simp))
    | true =>
     refine Ev.pos rfl ?_
     by_cases hpv:p > v
     ·refine Ev.pos hpv (no ?_);rw [decide_eq_false (show ¬ p ≤ v from by omega)];simp
     ·refine Ev.neg hpv (Ev.bind (qg _ _ _) ?_);rw [decide_eq_true (show p ≤ v from by omega)];cases hb3:nk s v 1000 with
      | false=>exact Ev.neg (by simp) (no (by simp))
      | true =>
       refine Ev.pos rfl (Ev.bind (qg _ _ _) ?_);cases hb4:nk (l4.length:Int) 1 300 with
       | false=>exact no (by simp)
       | true =>
        refine Ev.step (fun k=>by rw [Xa.j1]) (Ev.neg (by simp) ?_);simp only [Bool.true_and];have hs0:0 ≤ s∧s ≤ 1000:=by simp [nk] at Wq hb3;omega
        have key:=Qg (r:=true) (n:=l4.length) (fun i=>ee (l4.take i) ≤ 1000→Ev (fun k=>Xa.l1 k (ee (l4.take i):Int) (i:Int) l0 p v s l4) (!((l4.drop i).any fun x=>!rq l0 s l4 x) && decide (ee l4 ≤ 1000))) ?_ ?_ 0 (by omega) (by simp [ee])
        ·rw [List.drop_zero] at key
         simpa [ee] using key
        ·intro h;rw [List.take_length] at h;refine Ev.step (fun k=>by rw [Xa.l1]) (Ev.neg (by omega) ?_);rw [List.drop_length,decide_eq_true h];exact Ev.now _
        ·intro i hi ih h;have h1:=tw l4 i hi;have h2:=nB l4 (i + 1);refine Ev.step (fun k=>by rw [Xa.l1]) (Ev.pos (by omega) (Ev.pos (by omega) ?_));rw [Qm hi,Cg (x:=(ee (l4.take i):Int) + (l4[i].f0.length:Int)) (by omega) (by omega),show (ee (l4.take i):Int) + (l4[i].f0.length:Int)=(ee (l4.take (i + 1)):Int) from by omega]
         have hd:((l4.drop i).any fun x=>!rq l0 s l4 x)=(!rq l0 s l4 l4[i] || (l4.drop (i + 1)).any fun x=>!rq l0 s l4 x):=by
          rw [List.drop_eq_getElem_cons hi,List.any_cons]
         rw [hd]
         by_cases hgt:(ee (l4.take (i + 1)):Int) > 1000
         ·rw [decide_eq_false (show ¬ ee l4 ≤ 1000 from by omega),Bool.and_false];exact Ev.pos hgt (Ev.now _)
         ·refine Ev.neg hgt (Ev.bind (rK _ _ _ _ _ hs0.1 hs0.2 h0 hl4 (by omega)) ?_);cases hq:rq l0 s l4 l4[i] with
          | false =>
           have hq':¬ Kk l0.length s l4.length l4[i].f0 l4[i].f1 l4[i].f2 l4[i].f3 l4[i].f4=true:=by
            have e:Kk l0.length s l4.length l4[i].f0 l4[i].f1 l4[i].f2 l4[i].f3 l4[i].f4=false:=hq;rw [e];simp
           exact Ev.neg hq' (Ev.now _)
          | true =>
           have hq':Kk l0.length s l4.length l4[i].f0 l4[i].f1 l4[i].f2 l4[i].f3 l4[i].f4=true:=hq;refine Ev.pos hq' ?_;rw [xe hi (by omega),Bool.not_true,Bool.false_or];exact ih (by omega)
 ·intro i hi hq r hr;refine Ev.step (fun k=>by rw [Xa.l0]) (Ev.pos (by omega) (Ev.pos (by omega) ?_));refine Ev.bind (qg _ _ _) (Ev.pos hq ?_);rw [xe hi (by omega)];exact hr
 ·intro i hi hq;refine Ev.step (fun k=>by rw [Xa.l0]) (Ev.pos (by omega) (Ev.pos (by omega) ?_));exact Ev.bind (qg _ _ _) (Ev.neg hq (Ev.now _))
end
end Go.Proofs.Ytoomcmaifgkkfaa.P
end
section
namespace Go.Proofs.Ytoomcmaifgkkfaa.P
open Go.RowKit Go.Proofs.Ia.Pb Go.Proofs.Ia.Ld Go.Proofs.Ia.De
set_option linter.unusedVariables false
set_option linter.unusedSimpArgs false
def OC (b:jf):List Int:=if b.f1=0 then [b.f3] else if b.f1=1 then [b.f3,b.f4] else []
theorem fD (b:jf):wg.f b.f0 b.f1 b.f2 b.f3 b.f4=some (OC b):=by
 unfold wg.f OC
 by_cases h0:b.f1=0
 ·rw [if_pos h0,if_pos h0]
 ·rw [if_neg h0,if_neg h0]
  by_cases h1:b.f1=1
  ·rw [if_pos h1,if_pos h1]
  ·rw [if_neg h1,if_neg h1]
theorem eD (b:jf):Wg.f b.f0 b.f1 b.f2 b.f3 b.f4=some (OC b):=by
 unfold Wg.f OC
 by_cases h0:b.f1=0
 ·rw [if_pos h0,if_pos h0]
 ·rw [if_neg h0,if_neg h0]
  by_cases h1:b.f1=1
  ·rw [if_pos h1,if_pos h1]
  ·rw [if_neg h1,if_neg h1]
theorem Rt (b:jf):(OC b).length ≤ 2:=by
 unfold OC
 by_cases h0:b.f1=0
 ·rw [if_pos h0];simp
 ·rw [if_neg h0]
  by_cases h1:b.f1=1
  ·rw [if_pos h1];simp
  ·rw [if_neg h1];simp
def Ii (bs:List jf) (i:Nat):List Int:=OC (Ta bs (i:Int))
def Ye (bs:List jf):Prop:=0 < bs.length∧bs.length ≤ 1048576∧∀ i,i < bs.length→∀ j ∈ Ii bs i,0 ≤ j∧j < (bs.length:Int)
theorem Yr {l0:List Int} {p v s:Int} {bs:List jf} (h:jm l0 p v s bs=true):Ye bs:=by
 unfold jm at h;simp only [Bool.and_eq_true] at h;obtain ⟨h1,h2,-⟩:=h;have hh:=QO h1;refine ⟨by omega,by omega,fun i hi j hj=>?_⟩
 have hb:rq l0 s bs bs[i]=true:=by
  simp only [Bool.not_eq_true',List.any_eq_false] at h2;have:=h2 _ (List.getElem_mem hi)
  simpa using this
 unfold rq Kk at hb;simp only [Bool.and_eq_true] at hb;obtain ⟨-,hb⟩:=hb;unfold Ii at hj;rw [Qm hi] at hj;unfold OC at hj
 by_cases h0:bs[i].f1=0
 ·rw [if_pos h0] at hj hb;simp only [Bool.and_eq_true,nk,decide_eq_true_eq] at hb;rw [List.mem_singleton] at hj;subst hj;omega
 ·rw [if_neg h0] at hj hb
  by_cases h1:bs[i].f1=1
  ·rw [if_pos h1] at hj hb;simp only [Bool.and_eq_true,nk,decide_eq_true_eq] at hb;simp only [List.mem_cons,List.not_mem_nil,or_false] at hj
   rcases hj with hj|hj <;> subst hj <;> omega
  ·rw [if_neg h1] at hj;cases hj
theorem Ry (n:Nat):news (List.replicate n false)=n:=by simp [news]
theorem Kq (n j:Nat):seen (List.replicate n false) j=false:=by
 unfold seen;rw [List.getD_eq_getElem?_getD,List.getElem?_replicate]
 by_cases h:j < n
 ·rw [if_pos h];rfl
 ·rw [if_neg h];rfl
theorem Sz.perm {n:Nat} {nx:Nat→List Int} {s:List Bool} {q q':List Int} (h:Sz n nx s q) (hp:∀ x,x ∈ q ↔ x ∈ q') (hl:q.length=q'.length):Sz n nx s q' :=
 ⟨h.len,fun j hj=>h.JP j ((hp j).2 hj),h.qJ,by rw [← hl];exact h.cap,h.jT.imp id (hp 0).1,fun j hj m hm=>(h.shut j hj m hm).imp id (hp m).1⟩
theorem wI (ys:List Int) (hy:ys.length ≤ 2):Ev (fun k=>Ya.f k ys) ys.reverse:=by
 unfold Ya.f
 rcases ys with _|⟨a,_|⟨b,_|⟨c,l⟩⟩⟩
 ·rw [show wrap64 ((([]:List Int).length:Int) - 1) = -1 from by rw [Cg (by simp) (by simp)];rfl];refine Ev.step (fun k=>by rw [Ya.l0]) ?_;exact Ev.neg (by omega) (Ev.now _)
 ·rw [show wrap64 (([a].length:Int) - 1)=0 from by rw [Cg (by simp) (by simp)];rfl];refine Ev.step (fun k=>by rw [Ya.l0]) ?_;exact Ev.neg (by omega) (Ev.now _)
 ·rw [show wrap64 (([a,b].length:Int) - 1)=1 from by rw [Cg (by simp) (by simp)];rfl];refine Ev.step (fun k=>by rw [Ya.l0]) ?_;refine Ev.pos (by omega) (Ev.pos (by omega) (Ev.pos (by simp) (Ev.pos (by omega) (Ev.pos (by simp) ?_))));rw [Cg (x:=0 + 1) (by omega) (by omega),Cg (x:=1 - 1) (by omega) (by omega)];refine Ev.step (fun k=>by rw [Ya.l0]) ?_;exact Ev.neg (by omega) (Ev.now _)
 ·simp at hy
noncomputable def td (bs:List jf):List Int:=open Classical in ((List.range bs.length).filter fun i=>decide (Bn (Ii bs) i)).map fun (i:Nat)=>(i:Int)
theorem Fg {bs:List jf} (hE:Ye bs) (j:Int):j ∈ td bs ↔ 0 ≤ j∧Bn (Ii bs) j.toNat:=by
 unfold td;rw [List.mem_map]
 constructor
 ·rintro ⟨i,hi,rfl⟩;rw [List.mem_filter] at hi;exact ⟨by omega,by simpa using hi.2⟩
 ·rintro ⟨h0,h⟩
  have hlt:j.toNat < bs.length:=by
   have:∀ i,Bn (Ii bs) i→i < bs.length:=by
    intro i hi
    induction hi with
    | zero=>exact hE.1
    | step hr hj ih=>have:=hE.2.2 _ ih _ hj;omega
   exact this _ h
  exact ⟨j.toNat,List.mem_filter.2 ⟨List.mem_range.2 hlt,by simpa using h⟩,by omega⟩
theorem Kn {bs:List jf} (hE:Ye bs) {i:Nat} (h:Bn (Ii bs) i):i < bs.length:=by
 induction h with
 | zero=>exact hE.1
 | step hr hj ih=>have:=hE.2.2 _ ih _ hj;omega
theorem MP (n:Nat):(List.range n).Pairwise (· < ·):=by
 exact List.pairwise_lt_range
theorem ZW {l:List Nat} (h:l.Pairwise (· < ·)):(l.map fun (i:Nat)=>(i:Int)).Pairwise (· < ·):=by
 rw [List.pairwise_map];exact h.imp (fun h=>by omega)
theorem Mq (bs:List jf):(td bs).Pairwise (· < ·):=by
 unfold td;exact ZW ((MP _).filter _)
theorem Pm (bs:List jf):(td bs).length ≤ bs.length:=by
 unfold td;rw [List.length_map];exact Nat.le_trans (List.length_filter_le _ _) (by rw [List.length_range];exact Nat.le_refl _)
section
variable {l0:List Int} {p v s:Int} {bs:List jf}
theorem pI (hE:Ye bs):∀ (m:Nat) (sn:List Bool) (out FC:List Int),2 * news sn + FC.length ≤ m→Sz bs.length (Ii bs) sn FC→(∀ j:Nat,seen sn j=true ↔ (j:Int) ∈ out)→(∀ j ∈ out,0 ≤ j)→out.Nodup→out.length + news sn=bs.length →
  ∃ R,Ev (fun k=>Ad.l0 k sn out FC l0 p v s bs) R∧R.Nodup∧R.length ≤ bs.length∧∀ j:Int,j ∈ R ↔ 0 ≤ j∧Bn (Ii bs) j.toNat:=by
 intro m
 induction m with
 | zero =>
  intro sn out FC hm hI XX h0 L7 hlen;have hp:FC=[]:=List.eq_nil_of_length_eq_zero (by omega);subst hp;refine ⟨out,Ev.step (fun k=>by rw [Ad.l0]) (Ev.neg (by decide) (Ev.now _)),L7,by omega,fun j=>?_⟩
  constructor
  ·intro hj;have h:=h0 j hj;refine ⟨h,(TW hI _).1 ((XX _).2 ?_)⟩
   rwa [Int.toNat_of_nonneg h]
  ·rintro ⟨h,hr⟩;have:=(XX _).1 ((TW hI _).2 hr)
   rwa [Int.toNat_of_nonneg h] at this
 | succ m ih =>
  intro sn out FC hm hI XX h0 L7 hlen
  by_cases hpe:FC=[]
  ·subst hpe;refine ⟨out,Ev.step (fun k=>by rw [Ad.l0]) (Ev.neg (by decide) (Ev.now _)),L7,by omega,fun j=>?_⟩
   constructor
   ·intro hj;have h:=h0 j hj;refine ⟨h,(TW hI _).1 ((XX _).2 ?_)⟩
    rwa [Int.toNat_of_nonneg h]
   ·rintro ⟨h,hr⟩;have:=(XX _).1 ((TW hI _).2 hr)
    rwa [Int.toNat_of_nonneg h] at this
  ·obtain ⟨q,b,rfl⟩:∃ q b,FC=q ++ [b]:=⟨FC.dropLast,FC.getLast hpe,(List.dropLast_concat_getLast hpe).symm⟩;have hcap:=hI.cap;have hnn:news sn ≤ bs.length:=by omega
   have hE2:=hE.2.1;rw [List.length_append,List.length_singleton] at hm hcap;have hI2:Sz bs.length (Ii bs) sn (b :: q):=hI.perm (fun x=>by simp [or_comm]) (by simp);obtain ⟨hb0,Wq,X3⟩:=hI2.JP b (by simp);have fY:rd (q ++ [b]) (q.length:Int)=b:=by simp [rd]
   have htake:(q ++ [b]).take q.length=q:=by simp
   have hw:wrap64 (((q ++ [b]).length:Int) - 1)=(q.length:Int):=by
    rw [List.length_append,List.length_singleton,Cg (by omega) (by omega)];omega
   have qP:((b.toNat:Nat):Int)=b:=Int.toNat_of_nonneg hb0;have J7:=hI.len;have hrd:Eg false sn b=seen sn b.toNat:=rfl
   by_cases hsb:seen sn b.toNat=true
   ·obtain ⟨R,hR,hrest⟩:=ih sn out q (by omega) (FP hI2 hsb) XX h0 L7 hlen;refine ⟨R,?_,hrest⟩;refine Ev.step (fun k=>by rw [Ad.l0]) (Ev.pos (by rw [List.length_append,List.length_singleton];omega) ?_);rw [hw,fY,hrd];refine Ev.pos (by omega) (Ev.pos (by rw [List.length_append,List.length_singleton];omega) (Ev.pos (by rw [List.length_append,List.length_singleton];omega) ?_));rw [Int.toNat_natCast,htake];exact Ev.val (Ev.pos hb0 (Ev.pos (by rw [J7];exact Wq) (Ev.pos hsb hR)))
   ·have hsf:seen sn b.toNat=false:=by simpa using hsb
    have hlt:b.toNat < sn.length:=by rw [J7];omega
    have hn:=Ew hlt hsf;have hT:Sz bs.length (Ii bs) (sn.set b.toNat true) (q ++ Ii bs b.toNat):=BP (fun a ha=>⟨Rt _,hE.2.2 a ha⟩) hI2 hsf;have K7:Ii bs b.toNat=OC (Ta bs b):=by unfold Ii;rw [qP]
    have iY:=Rt (Ta bs b)
    obtain ⟨R,hR,hrest⟩:=ih (sn.set b.toNat true) (out ++ [b]) (q ++ (OC (Ta bs b)).reverse) (by rw [List.length_append,List.length_reverse];omega)
     (hT.perm (fun x=>by rw [K7];simp) (by rw [K7];simp)) (fun j=>by
      rw [gj hlt,List.mem_append,List.mem_singleton,← XX j,Bool.or_eq_true,decide_eq_true_eq]
      constructor
      ·rintro (h|h)
       ·right;omega
       ·left;exact h
      ·rintro (h|h)
       ·right;exact h
       ·left;omega) (fun j hj=>by
      rcases List.mem_append.1 hj with hj|hj
      ·exact h0 j hj
      ·rw [List.mem_singleton] at hj;omega) (by
      rw [List.nodup_append];refine ⟨L7,by simp,fun a ha c hc he=>?_⟩;rw [List.mem_singleton] at hc;subst hc;subst he;have:=(XX a.toNat).2 (by rw [qP];exact ha);rw [hsf] at this
      cases this) (by rw [List.length_append,List.length_singleton];omega)
    refine ⟨R,?_,hrest⟩;refine Ev.step (fun k=>by rw [Ad.l0]) (Ev.pos (by rw [List.length_append,List.length_singleton];omega) ?_);rw [hw,fY,hrd];refine Ev.pos (by omega) (Ev.pos (by rw [List.length_append,List.length_singleton];omega) (Ev.pos (by rw [List.length_append,List.length_singleton];omega) ?_));rw [Int.toNat_natCast,htake];refine Ev.val (Ev.pos hb0 (Ev.pos (by rw [J7];exact Wq) (Ev.neg hsb (Ev.pos (by omega) (Ev.pos Wq ?_)))));rw [fD];refine Ev.val (Ev.bind (wI _ iY) (Ev.pos (by rw [List.length_reverse];omega) hR))
theorem FR (hE:Ye bs):∃ R,Ev (fun k=>Ad.f k l0 p v s bs) R∧R.length ≤ bs.length∧KG R=td bs:=by
 have hE1:=hE.1;have hE2:=hE.2.1;have hsn:∀ j,seen (List.replicate bs.length false) j=false:=fun j=>Kq _ _
 have hI:Sz bs.length (Ii bs) (List.replicate bs.length false) [0]:=by
  refine ⟨by simp,fun j hj=>?_,fun j hj=>?_,?_,Or.inr (by simp),fun j hj=>?_⟩
  ·rw [List.mem_singleton] at hj;subst hj;exact ⟨by omega,by omega,Bn.zero⟩
  ·rw [hsn] at hj;cases hj
  ·rw [Ry];simp
  ·rw [hsn] at hj;cases hj
 obtain ⟨R,h1,h2,h3,h4⟩:=pI (l0:=l0) (p:=p) (v:=v) (s:=s) hE (2 * news (List.replicate bs.length false) + 1) (List.replicate bs.length false) [] [0] (by simp) hI
  (fun j=>by rw [hsn];simp) (by simp) (by simp) (by rw [Ry];simp)
 refine ⟨R,?_,h3,?_⟩
 ·unfold Ad.f;refine Ev.pos (by omega) (Ev.pos (by omega) ?_);rw [Int.toNat_natCast];exact h1
 ·refine YD _ _ (PI R).1 (Mq bs) (fun x=>?_);rw [(PI R).2,h4,Fg hE]
end
end Go.Proofs.Ytoomcmaifgkkfaa.P
end
section
namespace Go.Proofs.Ytoomcmaifgkkfaa.P
open Go.RowKit Go.Proofs.Ia.Pb Go.Proofs.Ia.Ld Go.Proofs.Ia.De
set_option linter.unusedVariables false
set_option linter.unusedSimpArgs false
inductive RA (nx:Nat→List Int) (a:Nat):Nat→Prop
 | zero:0 ≠ a→RA nx a 0
 | step {i:Nat} {j:Int}:RA nx a i→j ∈ nx i→j.toNat ≠ a→RA nx a j.toNat
def Dom (nx:Nat→List Int) (i k:Nat):Prop:=Bn nx i∧Bn nx k∧¬ RA nx i k
theorem RA.qJ {nx:Nat→List Int} {a k:Nat} (h:RA nx a k):Bn nx k:=by
 induction h with
 | zero _=>exact Bn.zero
 | step _ hj _ ih=>exact Bn.step ih hj
theorem RA.ne {nx:Nat→List Int} {a k:Nat} (h:RA nx a k):k ≠ a:=by
 cases h with
 | zero h=>exact h
 | step _ _ h=>exact h
theorem Dom.self {nx:Nat→List Int} {k:Nat} (h:Bn nx k):Dom nx k k:=⟨h,h,fun h=>h.ne rfl⟩
theorem Dom.zero {nx:Nat→List Int} {k:Nat} (h:Bn nx k):Dom nx 0 k:=by
 have key:∀ j,RA nx 0 j→False:=fun j h=>by
  induction h with
  | zero h=>exact h rfl
  | step _ _ _ ih=>exact ih
 exact ⟨Bn.zero,h,key k⟩
theorem Dom.at0 {nx:Nat→List Int} {i:Nat} (h:Dom nx i 0):i=0:=Decidable.byContradiction fun hc=>h.2.2 (RA.zero (fun e=>hc e.symm))
theorem Dom.back {nx:Nat→List Int} {i b:Nat} {t:Int} (h:Dom nx i t.toNat) (hb:Bn nx b) (ht:t ∈ nx b) (hne:t.toNat ≠ i):Dom nx i b:=⟨h.1,hb,fun hr=>h.2.2 (RA.step hr ht hne)⟩
noncomputable def Hg (bs:List jf) (k:Nat):List Int:=open Classical in (td bs).filter fun i=>decide (Dom (Ii bs) i.toNat k)
noncomputable def ng (bs:List jf):List (List Int):=(List.range bs.length).map (Hg bs)
def Bm (D:List (List Int)) (k:Nat):List Int:=D.getD k []
theorem Lo {D:List (List Int)} {i k:Nat} {x:List Int} (hi:i < D.length):Bm (D.set i x) k=if i=k then x else Bm D k:=by
 unfold Bm;rw [List.getD_eq_getElem?_getD,List.getD_eq_getElem?_getD,List.getElem?_set]
 by_cases h:i=k
 ·rw [if_pos h,if_pos h,if_pos hi];rfl
 ·rw [if_neg h,if_neg h]
def Jz (D:List (List Int)):Nat:=(D.map List.length).sum
theorem pH:∀ (D:List (List Int)) (i:Nat) (x:List Int),i < D.length→Jz (D.set i x) + (Bm D i).length=Jz D + x.length
 | [],i,x,h=>by simp at h
 | y :: D,0,x,_=>by
  simp only [Jz,List.set_cons_zero,List.map_cons,List.sum_cons,Bm,List.getD_cons_zero];omega
 | y :: D,i + 1,x,h=>by
  have ih:=pH D i x (by simpa using h);simp only [Jz,List.set_cons_succ,List.map_cons,List.sum_cons,Bm,List.getD_cons_succ] at ih ⊢;omega
def ny (D:List (List Int)) (b t:Nat) (r:Int):Bool:=if r=(t:Int) then false else !decide (r ∈ Bm D b)
def Am (D:List (List Int)) (b t:Nat):List Int:=(Bm D t).filter fun r=>!ny D b t r
def OkE (D:List (List Int)) (b t:Nat):Prop:=∀ r ∈ Bm D t,r=(t:Int) ∨ r ∈ Bm D b
theorem aE (D:List (List Int)) (b t:Nat):(Am D b t).length ≤ (Bm D t).length:=List.length_filter_le _ _
theorem lQ {D:List (List Int)} {b t:Nat} (h:¬ (Am D b t).length < (Bm D t).length):Am D b t=Bm D t∧OkE D b t:=by
 have he:(Am D b t).length=(Bm D t).length:=by have:=aE D b t;omega
 unfold Am at he ⊢;have h2:=List.length_filter_eq_length_iff.1 he;refine ⟨List.filter_eq_self.2 h2,fun r hr=>?_⟩;have:=h2 r hr;unfold ny at this
 by_cases M8:r=(t:Int)
 ·exact Or.inl M8
 ·rw [if_neg M8] at this
  right
  simpa using this
structure iX (bs:List jf) (D:List (List Int)):Prop where
 len:D.length=bs.length
 fil:∀ k,∃ q:Int→Bool,Bm D k=(td bs).filter q
 unr:∀ k,¬ Bn (Ii bs) k→Bm D k=[]
 dom:∀ i k,Dom (Ii bs) i k→(i:Int) ∈ Bm D k
 zero:Bm D 0=[0]
section
variable {bs:List jf} {D:List (List Int)}
theorem iX.step (h:iX bs D) (hE:Ye bs) {b:Nat} {t:Int} (hb:Bn (Ii bs) b) (ht:t ∈ Ii bs b):iX bs (D.set t.toNat (Am D b t.toNat)):=by
 have hbl:=Kn hE hb;obtain ⟨t0,t1⟩:=hE.2.2 b hbl t ht;have htl:t.toNat < D.length:=by rw [h.len];omega
 refine ⟨by rw [List.length_set];exact h.len,fun k=>?_,fun k hk=>?_,fun i k hik=>?_,?_⟩
 ·rw [Lo htl]
  by_cases e:t.toNat=k
  ·rw [if_pos e];obtain ⟨q,hq⟩:=h.fil t.toNat;refine ⟨fun x=>q x && !ny D b t.toNat x,?_⟩;unfold Am;rw [hq,List.filter_filter]
   congr 1
   funext x
   exact Bool.and_comm _ _
  ·rw [if_neg e];exact h.fil k
 ·rw [Lo htl]
  by_cases e:t.toNat=k
  ·exact absurd (e ▸ Bn.step hb ht) hk
  ·rw [if_neg e];exact h.unr k hk
 ·rw [Lo htl]
  by_cases e:t.toNat=k
  ·rw [if_pos e];subst e;unfold Am;refine List.mem_filter.2 ⟨h.dom i _ hik,?_⟩;unfold ny
   by_cases hi:(i:Int)=((t.toNat:Nat):Int)
   ·rw [if_pos hi];rfl
   ·rw [if_neg hi];have:=h.dom i b (hik.back hb ht (by omega));simp [this]
  ·rw [if_neg e];exact h.dom i k hik
 ·rw [Lo htl]
  by_cases e:t.toNat=0
  ·rw [if_pos e,e];unfold Am;rw [h.zero];simp [ny]
  ·rw [if_neg e];exact h.zero
theorem iX.done (h:iX bs D) (hE:Ye bs) (hOk:∀ b,Bn (Ii bs) b→∀ t ∈ Ii bs b,OkE D b t.toNat):D=ng bs:=by
 have key:∀ (i k:Nat),RA (Ii bs) i k→(i:Int) ∉ Bm D k:=by
  intro i k hr
  induction hr with
  | zero h0 =>
   rw [h.zero,List.mem_singleton];omega
  | @step u t hu ht hne ih =>
   intro hm;obtain ⟨t0,t1⟩:=hE.2.2 u (Kn hE hu.qJ) t ht
   rcases hOk u hu.qJ t ht _ hm with e|e
   ·omega
   ·exact ih e
 have hrow:∀ k,k < bs.length→Bm D k=Hg bs k:=by
  intro k hk;obtain ⟨q,hq⟩:=h.fil k;unfold Hg;rw [hq];apply List.filter_congr;intro x hx;obtain ⟨x0,xr⟩:=(Fg hE x).1 hx;have hxn:((x.toNat:Nat):Int)=x:=Int.toNat_of_nonneg x0
  have hiff:q x=true ↔ Dom (Ii bs) x.toNat k:=by
   constructor
   ·intro O8;have hm:x ∈ Bm D k:=by rw [hq];exact List.mem_filter.2 ⟨hx,O8⟩
    have hk2:Bn (Ii bs) k:=Classical.byContradiction fun hn=>by rw [h.unr k hn] at hm;cases hm
    refine ⟨xr,hk2,fun hr=>key _ _ hr ?_⟩;rw [hxn];exact hm
   ·intro hd;have:=h.dom _ _ hd;rw [hxn,hq] at this;exact (List.mem_filter.1 this).2
  by_cases hd:Dom (Ii bs) x.toNat k
  ·rw [hiff.2 hd];exact (@decide_eq_true _ (Classical.propDecidable _) hd).symm
  ·refine Eq.trans ?_ (@decide_eq_false _ (Classical.propDecidable _) hd).symm;cases O8:q x with
   | false=>rfl
   | true=>exact absurd (hiff.1 O8) hd
 unfold ng;apply List.ext_getElem
 ·rw [List.length_map,List.length_range];exact h.len
 ·intro k h1 h2;rw [List.getElem_map,List.getElem_range,← hrow k (by rw [← h.len];exact h1)];simp [Bm,List.getD_eq_getElem?_getD,h1]
noncomputable def QG (bs:List jf) (i:Nat) (D:List (List Int)):Prop:=D.length=bs.length∧∀ k,Bm D k=if (k:Int) ∈ (td bs).take i then td bs else []
theorem QG.start (bs:List jf):QG bs 0 (List.replicate bs.length []):=by
 refine ⟨by simp,fun k=>?_⟩;unfold Bm;rw [List.getD_eq_getElem?_getD,List.getElem?_replicate]
 by_cases h:k < bs.length
 ·rw [if_pos h];simp
 ·rw [if_neg h];simp
theorem QG.next {i:Nat} (h:QG bs i D) (hE:Ye bs) (hi:i < (td bs).length):QG bs (i + 1) (D.set ((td bs)[i]).toNat (td bs)):=by
 obtain ⟨x0,xr⟩:=(Fg hE _).1 (List.getElem_mem hi);have hl:=Kn hE xr;refine ⟨by rw [List.length_set];exact h.1,fun k=>?_⟩;rw [Lo (by rw [h.1];exact hl),h.2 k,List.take_succ_eq_append_getElem hi]
 by_cases e:((td bs)[i]).toNat=k
 ·rw [if_pos e,if_pos (by rw [List.mem_append,List.mem_singleton];right;omega)]
 ·rw [if_neg e]
  have:(k:Int) ∈ (td bs).take i ++ [(td bs)[i]] ↔ (k:Int) ∈ (td bs).take i:=by
   rw [List.mem_append,List.mem_singleton]
   constructor
   ·rintro (h|h)
    ·exact h
    ·omega
   ·exact Or.inl
  by_cases hm:(k:Int) ∈ (td bs).take i
  ·rw [if_pos hm,if_pos (this.2 hm)]
  ·rw [if_neg hm,if_neg (fun h=>hm (this.1 h))]
theorem vJ (hE:Ye bs):(0:Int) ∈ td bs:=(Fg hE 0).2 ⟨by omega,Bn.zero⟩
theorem QG.go (h:QG bs (td bs).length D) (hE:Ye bs):iX bs (D.set 0 [0]):=by
 have hD:∀ k,Bm D k=if (k:Int) ∈ td bs then td bs else []:=fun k=>by rw [h.2 k,List.take_length]
 have h0:0 < D.length:=by rw [h.1];exact hE.1
 have hz:[0]=(td bs).filter fun x=>decide (x=0):=by
  refine YD _ _ (by simp) ((Mq bs).filter _) (fun x=>?_);rw [List.mem_singleton,List.mem_filter,decide_eq_true_eq]
  constructor
  ·rintro rfl;exact ⟨vJ hE,rfl⟩
  ·exact fun h=>h.2
 have hmem:∀ k:Nat,(k:Int) ∈ td bs ↔ Bn (Ii bs) k:=fun k=>by
  rw [Fg hE,Int.toNat_natCast];exact ⟨fun h=>h.2,fun h=>⟨by omega,h⟩⟩
 refine ⟨by rw [List.length_set];exact h.1,fun k=>?_,fun k hk=>?_,fun i k hik=>?_,?_⟩
 ·rw [Lo h0]
  by_cases e:0=k
  ·rw [if_pos e];exact ⟨_,hz⟩
  ·rw [if_neg e,hD]
   by_cases hm:(k:Int) ∈ td bs
   ·rw [if_pos hm];exact ⟨fun _=>true,(List.filter_eq_self.2 (fun _ _=>rfl)).symm⟩
   ·rw [if_neg hm];exact ⟨fun _=>false,(List.filter_eq_nil_iff.2 (fun _ _=>by simp)).symm⟩
 ·rw [Lo h0]
  by_cases e:0=k
  ·subst e;exact absurd Bn.zero hk
  ·rw [if_neg e,hD,if_neg (fun hm=>hk ((hmem k).1 hm))]
 ·rw [Lo h0]
  by_cases e:0=k
  ·rw [if_pos e];subst e;rw [hik.at0];simp
  ·rw [if_neg e,hD,if_pos ((hmem k).2 hik.2.1)];exact (hmem i).2 hik.1
 ·rw [Lo h0,if_pos rfl]
theorem qj (bs:List jf):(ng bs).length=bs.length:=by simp [ng]
theorem Dz (bs:List jf) (k:Nat):(Hg bs k).length ≤ bs.length:=Nat.le_trans (List.length_filter_le _ _) (Pm bs)
end
end Go.Proofs.Ytoomcmaifgkkfaa.P
end
section
namespace Go.Proofs.Ytoomcmaifgkkfaa.P
open Go.RowKit Go.Proofs.Ia.Pb Go.Proofs.Ia.Ld Go.Proofs.Ia.De
set_option linter.unusedVariables false
set_option linter.unusedSimpArgs false
attribute [local go_sem] Bi zi Fj Ej mh jh Ai si
theorem lac (d:Nat) (w:World) (x0 y0:Int) (x1 y1:Int) (x2 y2:Int) (x3 y3:Int) (x4 y4:Int) :
  (Op.equalIn (d + 2) 67 (.agg #[.int .i64 x0,.int .i64 x1,.int .i64 x2,.int .i64 x3,.int .i64 x4]) (.agg #[.int .i64 y0,.int .i64 y1,.int .i64 y2,.int .i64 y3,.int .i64 y4])).run Try.prog w = .ok (x0 == y0 && (x1 == y1 && (x2 == y2 && (x3 == y3 && (x4 == y4))))) w:=by
 refine KR Try.underlying67 (by kernel_rfl) ?_;refine Bk (by rfl) (by go_simp;rfl) (by go_simp;rfl) (by go_simp) ?_;refine Bk (by rfl) (by go_simp;rfl) (by go_simp;rfl) (by go_simp) ?_;refine Bk (by rfl) (by go_simp;rfl) (by go_simp;rfl) (by go_simp) ?_;refine Bk (by rfl) (by go_simp;rfl) (by go_simp;rfl) (by go_simp) ?_;exact xI (by rfl) (by go_simp;rfl) (by go_simp;rfl) (by go_simp)
def Ob.l0:Nat→List Int→Int→Int→Int→Option (Int)
 | 0,_,_,_,_=>none
 | k + 1,x0,x1,x7,x8=>if x8 < x7 then (if 0 ≤ x8 then (if x8 < (x0.length:Int) then (if x1=(rd x0 x8) then (some x8) else (Ob.l0 k x0 x1 x7 (wrap64 (x8 + 1)))) else (none)) else (none)) else (some (-1))
def Ob.f (k:Nat) (l0:List Int) (a1:Int):Option (Int):=Ob.l0 k l0 a1 (l0.length:Int) 0
theorem Ob.Ht:∀ k,(∀ y0 y1 y2 y3,Oi (Ob.l0 k y0 y1 y2 y3) (Ob.l0 (k + 1) y0 y1 y2 y3))
 | 0=>fun _ _ _ _ r h=>by simp [Ob.l0] at h
 | k + 1=>by
  have BH:=Ob.Ht k
  ·intro y0 y1 y2 y3;unfold Ob.l0
   repeat' first
   | (with_reducible exact BH _ _ _ _)
   | (with_reducible exact Oi.refl _)
   | (with_reducible exact Oi.none _)
   | (with_reducible refine Oi.ite ?_ ?_)
   | (with_reducible refine Oi.bind ?_ (fun _=>?_))
   | exact BH _ _ _ _
   | exact Oi.none _
   | refine Oi.ite ?_ ?_
   | refine Oi.bind ?_ (fun _=>?_)
theorem Ob.mono:∀ a0 a1 k,Oi (Ob.f k a0 a1) (Ob.f (k + 1) a0 a1):=by
 intro a0 a1 k;have BH:=Ob.Ht k;unfold Ob.f
 repeat' first
   | (with_reducible exact BH _ _ _ _)
   | (with_reducible exact Oi.refl _)
   | (with_reducible exact Oi.none _)
   | (with_reducible refine Oi.ite ?_ ?_)
   | (with_reducible refine Oi.bind ?_ (fun _=>?_))
   | exact BH _ _ _ _
   | exact Oi.none _
   | refine Oi.ite ?_ ?_
   | refine Oi.bind ?_ (fun _=>?_)
theorem Ob.calls (k:Nat) (A0:Option Addr) (c0:Nat) (l0:List Int) (a1:Int) (r:Int) (w:World) (Zj:Kd.C (Kd.int .i64) w A0 l0.length l0) (hc0:l0.length ≤ c0) (h:Ob.f k l0 a1=some r) :
  Calls Try.prog 110 #[.slice A0 l0.length c0,.int .i64 a1] w fun e w'=>e = .returned (.int .i64 r)∧Nc w w':=by
 have Dn:=ga.mk Zj;have bH:=ga.mk hc0;clear Zj hc0;have H:(Ob.l0 k l0 a1 (l0.length:Int) 0)=some r:=h;clear h;have H':=ga.mk H;clear H;go_enter Try.func110,Try.ntmps110;go_wp2
 go_loopg [8] k (fun kq v8 w'=>∃ (ye:Int),v8 = .int .i64 ye∧ga (Ob.l0 kq l0 a1 (l0.length:Int) ye=some r)∧ga (kq ≤ k)∧Nc w w')
 case atStart=>exact ⟨(0),(by first|rfl|(simp;done)|(simp [*];done)),H',⟨Nat.le_refl _⟩,by repeat (first|exact Nc.refl _|apply Nc.step)⟩
 case round =>
  clear H'
  try clear c1
  try clear p2
  (try clear HA);(try clear uf);obtain ⟨ye,rfl,HA,uf,⟨m1,rfl⟩⟩:=hrel;cases gk with
  | zero=>exact absurd HA.out (by simp [Ob.l0])
  | succ k1 =>
   have H:=HA.out;clear HA;simp only [Ob.l0] at H
   by_cases c3:ye < (l0.length:Int)
   ·rw [if_pos c3] at H;have dh:decide (ye < (l0.length:Int))=true:=decide_eq_true c3;clear c3
    by_cases c4:0 ≤ ye
    ·rw [if_pos c4] at H;have Dk:decide (0 ≤ ye)=true:=decide_eq_true c4;clear c4
     by_cases c5:ye < (l0.length:Int)
     ·rw [if_pos c5] at H;have qn:decide (ye < (l0.length:Int))=true:=decide_eq_true c5;clear c5
      by_cases c6:a1=(rd l0 ye)
      ·rw [if_pos c6] at H;have bp:(a1 == (rd l0 ye))=true:=beq_iff_eq.mpr c6;have CG:(a1 != (rd l0 ye))=false:=bne_eq_false_iff_eq.mpr c6;clear c6;obtain rfl:=Option.some.inj H;have Nf:0 ≤ (ye:Int):=of_decide_eq_true (by first|(with_reducible assumption)|assumption);have Mf:ye < (l0.length:Int):=of_decide_eq_true (by first|(with_reducible assumption)|assumption);obtain ⟨Ge,Aj,Ud⟩:=Kd.Te Dn.out ye Nf Mf;cases Aj;replace Nf:=eq_true Nf;replace Mf:=eq_true Mf;go_wp2;go_ret;exact ⟨by first|rfl|(simp;done)|(simp [*];done),by repeat (first|exact Nc.refl _|apply Nc.step)⟩
      ·rw [if_neg c6] at H;have bp:(a1 == (rd l0 ye))=false:=beq_eq_false_iff_ne.mpr c6;have CG:(a1 != (rd l0 ye))=true:=bne_iff_ne.mpr c6;have H':=ga.mk H;clear H;have Nf:0 ≤ (ye:Int):=of_decide_eq_true (by first|(with_reducible assumption)|assumption);have Mf:ye < (l0.length:Int):=of_decide_eq_true (by first|(with_reducible assumption)|assumption);obtain ⟨Ge,Aj,Ud⟩:=Kd.Te Dn.out ye Nf Mf;cases Aj;replace Nf:=eq_true Nf;replace Mf:=eq_true Mf;go_wp2
       go_roundg k1
       case measure=>have:=uf.out;omega
       case rel=>exact ⟨(wrap64 (ye + 1)),(by first|rfl|(simp;done)|(simp [*];done)),H',⟨by have:=uf.out;omega⟩,by repeat (first|exact Nc.refl _|apply Nc.step)⟩
     ·rw [if_neg c5] at H;exact absurd H (by simp)
    ·rw [if_neg c4] at H;exact absurd H (by simp)
   ·rw [if_neg c3] at H;have dh:decide (ye < (l0.length:Int))=false:=decide_eq_false c3;clear c3;obtain rfl:=Option.some.inj H;go_wp2;go_ret;exact ⟨by first|rfl|(simp;done)|(simp [*];done),by repeat (first|exact Nc.refl _|apply Nc.step)⟩
def me.f (k:Nat) (l0:List Int) (a1:Int):Option (Bool):=(Ob.f k l0 a1).bind fun t101=>(some (decide (t101 ≥ 0)))
theorem me.mono:∀ a0 a1 k,Oi (me.f k a0 a1) (me.f (k + 1) a0 a1):=by
 intro a0 a1 k;unfold me.f
 repeat' first
   | (with_reducible exact Ob.mono _ _ _)
   | (with_reducible exact Oi.refl _)
   | (with_reducible exact Oi.none _)
   | (with_reducible refine Oi.ite ?_ ?_)
   | (with_reducible refine Oi.bind ?_ (fun _=>?_))
   | exact Ob.mono _ _ _
   | exact Oi.none _
   | refine Oi.ite ?_ ?_
   | refine Oi.bind ?_ (fun _=>?_)
theorem me.calls (k:Nat) (A0:Option Addr) (c0:Nat) (l0:List Int) (a1:Int) (r:Bool) (w:World) (Zj:Kd.C (Kd.int .i64) w A0 l0.length l0) (hc0:l0.length ≤ c0) (h:me.f k l0 a1=some r) :
  Calls Try.prog 83 #[.slice A0 l0.length c0,.int .i64 a1] w fun e w'=>e = .returned (.bool r)∧Nc w w':=by
 have Dn:=ga.mk Zj;have bH:=ga.mk hc0;clear Zj hc0;have H:((Ob.f k l0 a1).bind fun t101=>(some (decide (t101 ≥ 0))))=some r:=h;clear h;replace H:=Option.bind_eq_some_iff.mp H;obtain ⟨t101,sC,H⟩:=H;replace H:(some (decide (t101 ≥ 0)))=some r:=H;have A3:=ga.mk sC;clear sC;obtain rfl:=Option.some.inj H;go_enter Try.func83,Try.ntmps83;go_wp2_with (first|((with_reducible refine zb (f:=110) rfl ?_);refine Pc (some 7) rfl rfl Try.func110 (by kernel_rfl) rfl #[.slice A0 l0.length c0,.int .i64 a1] rfl (by (try simp only [List.map_toArray,List.map_cons,List.map_nil]);first|done|rfl|(simp only [List.length_drop,List.length_take];rfl)) ?_;(with_reducible refine (Ob.calls k _ _ l0 a1 t101 _ ?Fc ?Ec A3.out).mono ?_);(case Fc=>repeat (first|exact Dn.out|(with_reducible refine Kd.Ub ?_ _)|(with_reducible refine Kd.Tb ?_ _)|(with_reducible refine Kd.mc ?_)));(case Ec=>exact bH.out);rintro e w' ⟨rfl,⟨nd,rfl⟩⟩;refine ⟨_,rfl,?_⟩));go_ret;exact ⟨by first|rfl|(simp;done)|(simp [*];done),by repeat (first|exact Nc.refl _|apply Nc.step)⟩
theorem ZJ (l:List Int) (a:Int) (hl:l.length ≤ 9223372036854775807):∃ k r,Ob.f k l a=some r∧(r ≥ 0 ↔ a ∈ l):=by
 have key:∀ d i:Nat,i + d=l.length→∃ k r,Ob.l0 k l a (l.length:Int) (i:Int)=some r∧(r ≥ 0 ↔ a ∈ l.drop i):=by
  intro d
  induction d with
  | zero =>
   intro i hi;refine ⟨1,-1,?_,?_⟩
   ·rw [Ob.l0,if_neg (by omega)]
   ·rw [List.drop_of_length_le (by omega)];simp
  | succ d ih =>
   intro i hi;obtain ⟨k,r,h1,h2⟩:=ih (i + 1) (by omega);have hlt:i < l.length:=by omega
   have hr:rd l (i:Int)=l[i]:=by simp [rd,List.getD_eq_getElem?_getD,hlt]
   by_cases e:a=l[i]
   ·refine ⟨k + 1,i,?_,?_⟩
    ·rw [Ob.l0,if_pos (by omega),if_pos (by omega),if_pos (by omega),hr,if_pos e]
    ·rw [List.drop_eq_getElem_cons hlt,e];exact ⟨fun _=>List.mem_cons_self,fun _=>by omega⟩
   ·refine ⟨k + 1,r,?_,?_⟩
    ·rw [Ob.l0,if_pos (by omega),if_pos (by omega),if_pos (by omega),hr,if_neg e,show wrap64 ((i:Int) + 1)=((i + 1:Nat):Int) from by unfold wrap64;omega,h1]
    ·rw [List.drop_eq_getElem_cons hlt,h2,List.mem_cons];exact ⟨Or.inr,fun h=>h.resolve_left e⟩
 obtain ⟨k,r,h1,h2⟩:=key l.length 0 (by omega);exact ⟨k,r,h1,by simpa using h2⟩
theorem zG (A0:Option Addr) (c0:Nat) (l0:List Int) (a1:Int) (w:World) (Zj:Kd.C (Kd.int .i64) w A0 l0.length l0) (hc0:l0.length ≤ c0) :
  Calls Try.prog 83 #[.slice A0 l0.length c0,.int .i64 a1] w fun e w'=>e = .returned (.bool (decide (a1 ∈ l0)))∧Nc w w':=by
 obtain ⟨k,r,h1,h2⟩:=ZJ l0 a1 Zj.2.1
 have h:me.f k l0 a1=some (decide (a1 ∈ l0)):=by
  unfold me.f;rw [h1];exact congrArg some (decide_eq_decide.2 h2)
 exact me.calls k A0 c0 l0 a1 _ w Zj hc0 h
def PP (w:World) (N p r q:Nat) (im m:Array Value) (v0:Value) (s0:List Int) (v4:Value) (gs:List Int) (W:World):Prop :=
 Below w.heap.size w W∧W.heap[p]? = some (.cells im 30 (0,0))∧W.heap[r]? = some (.cells #[.slice none 0 0,.int .i64 0,.int .i64 0,.slice none 0 0] 30 (0,0))∧W.heap[q]? = some (.cells m 30 (0,0)) ∧
 Kd.R (Kd.int .i64) 3 W w.heap.size (fun k=>k < N) v0 s0∧Kd.R (Kd.int .i64) 3 W w.heap.size (fun k=>k < N) v4 gs∧(w.heap.size ≤ q∧w.heap.size ≤ r∧p < N∧q < N∧r < N∧p ≠ q∧r ≠ q∧w.heap.size ≤ N∧N ≤ W.heap.size)
section
variable {w W W':World} {N p r q:Nat} {im m:Array Value} {v0 v4:Value} {s0 gs:List Int}
theorem PP.up (h:PP w N p r q im m v0 s0 v4 gs W) (hb:Below w.heap.size w W') (hk:Kept W W' (fun k=>N ≤ k)):PP w N p r q im m v0 s0 v4 gs W':=by
 obtain ⟨h1,h2,h3,h4,h5,h6,b1,b2,b3,b4,b5,b6,b7,b8,b9⟩:=h;exact ⟨hb,Fi h2 hk (by omega),Fi h3 hk (by omega),Fi h4 hk (by omega),Kd.Zt h5 hk (fun k a b=>by omega),Kd.Zt h6 hk (fun k a b=>by omega),b1,b2,b3,b4,b5,b6,b7,b8,Nat.le_trans b9 hk.1⟩
theorem PP.below (h:PP w N p r q im m v0 s0 v4 gs W) (hb:Below W.heap.size W W'):PP w N p r q im m v0 s0 v4 gs W':=h.up (Qa h.1 hb) (Kept.Wo hb _)
theorem PP.alloc (h:PP w N p r q im m v0 s0 v4 gs W) (o:Obj):PP w N p r q im m v0 s0 v4 gs (W.alloc o):=h.below (oa (Below.refl _ _) o)
theorem PP.grown {row:Option Nat} (h:PP w N p r q im m v0 s0 v4 gs W) (hg:W.grownBy W' row) (hr:∀ k,row=some k→N ≤ k):PP w N p r q im m v0 s0 v4 gs W' :=
 h.up (Dt h.1 row h.1.size hg (fun k e=>Nat.le_trans h.2.2.2.2.2.2.2.2.2.2.2.2.2.1 (hr k e))) (Kept.Sg hg (Kept.refl _ _) (fun k e=>Or.inl (hr k e)))
theorem PP.set (h:PP w N p r q im m v0 s0 v4 gs W) (j:Nat) (u:Value):PP w N p r q im (m.setIfInBounds j u) v0 s0 v4 gs (W.setCell ⟨q,j,none⟩ u):=by
 obtain ⟨h1,h2,h3,h4,h5,h6,b1,b2,b3,b4,b5,b6,b7,b8,b9⟩:=h;exact ⟨h1.setCell b1 _,ef h2 b6 u,ef h3 b7 u,GG h4 j u,Kd.VY h5 h4 (by decide) j u,Kd.VY h6 h4 (by decide) j u,b1,b2,b3,b4,b5,b6,b7,b8,by simpa using b9⟩
end
attribute [local go_sem high] lac
end Go.Proofs.Ytoomcmaifgkkfaa.P
end
section
namespace Go.Proofs.Ytoomcmaifgkkfaa.P
open Go.RowKit Go.Proofs.Ia.Pb Go.Proofs.Ia.Ld Go.Proofs.Ia.De
set_option linter.unusedVariables false
set_option linter.unusedSimpArgs false
theorem iP {W1 W:World} {base g n cap i:Nat} {P:Nat→Prop} {D:List (List Int)} {v:Value} {xs:List Int}
  (h:Kd.S (Kd.slice 3 (Kd.int .i64)) 22 W1 base P (.slice (some ⟨g,0,none⟩) n cap) D) (hb:Below W1.heap.size W1 W) (hi:i < n)
  (hx:Kd.R (Kd.int .i64) 3 W base (fun k=>P k∧W1.heap.size ≤ k) v xs) :
  Kd.S (Kd.slice 3 (Kd.int .i64)) 22 (W.setCell ⟨g,i,none⟩ v) base P (.slice (some ⟨g,0,none⟩) n cap) (D.set i xs)∧W.grownBy (W.setCell ⟨g,i,none⟩ v) (some g):=by
 obtain ⟨Vo,c,NC,hM,xC,hcf,MO,hH⟩:=Kd.lC h ([]:List Int) (i:Int) (by omega) (by omega);have hH2:=Kd.qX (Kd.QN hH) hb;have Oab:c.length=1:=NC
 obtain ⟨u,rfl⟩:∃ u,c=[u]:=by
  rcases c with _|⟨u,_|⟨u2,c⟩⟩
  ·simp at Oab
  ·exact ⟨u,rfl⟩
  ·simp at Oab
 have hs:=Kd.X5 (d:=Kd.slice 3 (Kd.int .i64)) hH2 (by omega) (by omega) (seg:=[v]) (j:=0) (show 0 + 1 ≤ 1 from by decide) (x':=xs) (Jh:=fun k=>P k∧W1.heap.size ≤ k) (show (Kd.slice 3 (Kd.int .i64)).M W base (fun k=>P k∧W1.heap.size ≤ k) xs [v] from ⟨v,rfl,hx⟩) (fun k hk=>Or.inr hk);rw [Int.toNat_natCast,show i * (Kd.slice 3 (Kd.int .i64)).sz + 0=i from by show i * 1 + 0=i;omega] at hs;exact hs
theorem TI {W:World} {base g n cap i:Nat} {P:Nat→Prop} {D:List (List Int)} (h:Kd.S (Kd.slice 3 (Kd.int .i64)) 22 W base P (.slice (some ⟨g,0,none⟩) n cap) D) (hi:i < n) :
  ∃ (A:Option Addr) (c:Nat),W.cell? ⟨g,i,none⟩=some (.slice A (Bm D i).length c)∧W.frozen? ⟨g,i,none⟩=false∧(Bm D i).length ≤ c∧Kd.C (Kd.int .i64) W A (Bm D i).length (Bm D i):=by
 obtain ⟨Vo,c,NC,hM,xC,hcf,MO,hH⟩:=Kd.lC h ([]:List Int) (i:Int) (by omega) (by omega);rw [Int.toNat_natCast] at hM xC hcf;obtain ⟨A,cc,hc,hl,hC⟩:=Kd.jg _ hM;have h1:=xC 0 _ (by rw [hc];rfl);have h2:=hcf 0;rw [show i * (Kd.slice 3 (Kd.int .i64)).sz + 0=i from by show i * 1 + 0=i;omega] at h1 h2;exact ⟨A,cc,h1,h2,hl,hC⟩
structure yC (w wA:World) (b4 g cap n:Nat) (D:List (List Int)) (wr:World):Prop where
 bl:Below w.heap.size w wr
 k:Kept wA wr (fun k=>k=g)
 v:wr.heap[b4]? = some (.cells #[.slice (some ⟨g,0,none⟩) n cap] 53 (0,0))
 row:Kd.S (Kd.slice 3 (Kd.int .i64)) 22 wr w.heap.size (fun k=>k ≠ b4) (.slice (some ⟨g,0,none⟩) n cap) D
 ne:b4 ≠ g
 gb:w.heap.size ≤ g
section
variable {w wA wr W:World} {b4 g cap n:Nat} {D:List (List Int)}
theorem yC.below (h:yC w wA b4 g cap n D wr) (hb:Below wr.heap.size wr W):yC w wA b4 g cap n D W :=
 ⟨Qa h.bl hb,h.k.below hb,Wa h.v hb,Kd.Ji h.row hb,h.ne,h.gb⟩
theorem yC.put (h:yC w wA b4 g cap n D wr) (hb:Below wr.heap.size wr W) {i:Nat} (hi:i < n) {v:Value} {xs:List Int} (hx:Kd.R (Kd.int .i64) 3 W w.heap.size (fun k=>k ≠ b4∧wr.heap.size ≤ k) v xs):yC w wA b4 g cap n (D.set i xs) (W.setCell ⟨g,i,none⟩ v):=by
 obtain ⟨h1,h2⟩:=iP h.row hb hi hx;have hw:=h.below hb
 exact ⟨hw.bl.grown h2 hw.bl.size (fun k e=>by injection e with e;rw [← e];exact h.gb),Kept.Sg h2 hw.k (fun k e=>Or.inl (by injection e with e;exact e.symm)),
  (Below.heap_setCell W ⟨g,i,none⟩ v b4 hw.ne).trans hw.v,h1,hw.ne,hw.gb⟩
theorem yC.cell (h:yC w wA b4 g cap n D wr):wr.cell? ⟨b4,0,none⟩=some (.slice (some ⟨g,0,none⟩) n cap):=(ja h.v 0).trans rfl
theorem yC.at (h:yC w wA b4 g cap n D wr) {i:Nat} (hi:i < n):∃ (A:Option Addr) (c:Nat),wr.cell? ⟨g,i,none⟩=some (.slice A (Bm D i).length c)∧wr.frozen? ⟨g,i,none⟩=false∧(Bm D i).length ≤ c∧Kd.C (Kd.int .i64) wr A (Bm D i).length (Bm D i):=TI h.row hi
theorem yC.glt (h:yC w wA b4 g cap n D wr):g < wr.heap.size:=Kd.saq h.row g rfl
theorem yC.blt (h:yC w wA b4 g cap n D wr):b4 < wr.heap.size:=Vc h.v
end
theorem JJ (RP b4 q9 g n cap b t:Nat) (D:List (List Int)) (A:Option Addr) (c:Nat) (r:Int) (W:World) (qP:b < n)
  (h11:W.cell? ⟨RP,0,none⟩=some (.int .i64 t)) (h4:W.cell? ⟨b4,0,none⟩=some (.slice (some ⟨g,0,none⟩) n cap)) (h9:W.cell? ⟨q9,0,none⟩=some (.int .i64 b))
  (hr:W.cell? ⟨g,b,none⟩=some (.slice A (Bm D b).length c)) (hl:(Bm D b).length ≤ c) (hC:Kd.C (Kd.int .i64) W A (Bm D b).length (Bm D b)) :
  Calls Try.prog 109 (#[.int .i64 r] ++ #[.pointer (some ⟨RP,0,none⟩),.pointer (some ⟨b4,0,none⟩),.pointer (some ⟨q9,0,none⟩)]) W fun e w'=>e = .returned (.bool (ny D b t r))∧Below W.heap.size W w':=by
 have HC:=ga.mk (zG A c (Bm D b) r W hC hl);have p0:0 ≤ (b:Int):=by omega
 have p1:(b:Int) < (n:Int):=by omega
 clear hC hl
 by_cases h:r=(t:Int)
 ·have hb:(r != (t:Int))=false:=by rw [h];exact bne_self_eq_false' (t:Int)
  have HD:=ga.mk (show ny D b t r=false from if_pos h);clear h;go_enter Try.func109,Try.ntmps109;go_wp2_with (first|(go_at_call 83;(refine HC.out.mono ?_);rintro e jH ⟨rfl,⟨⟨nd,rfl⟩⟩⟩));go_ret;exact ⟨by rw [HD.out];rfl,Below.refl _ _⟩
 ·have hb:(r != (t:Int))=true:=bne_iff_ne.2 h;have HD:=ga.mk (show ny D b t r = !decide (r ∈ Bm D b) from if_neg h);clear h;go_enter Try.func109,Try.ntmps109;go_wp2_with (first|(go_at_call 83;(refine HC.out.mono ?_);rintro e jH ⟨rfl,⟨⟨nd,rfl⟩⟩⟩));go_ret;exact ⟨by rw [HD.out];rfl,ia (Below.refl _ _) _⟩
end Go.Proofs.Ytoomcmaifgkkfaa.P
end
section
namespace Go.Proofs.Ytoomcmaifgkkfaa.P
open Go.RowKit Go.Proofs.Ia.Pb Go.Proofs.Ia.Ld Go.Proofs.Ia.De
set_option linter.unusedVariables false
set_option linter.unusedSimpArgs false
noncomputable def Jg.f (Ma:List Int) (La:Int) (Na:Int) (Ka:Int) (Fa:List (jf)):Option (List (List Int)):=open Classical in if Ye Fa then some (ng Fa) else none
noncomputable def SoE (bs:List jf) (D:List (List Int)) (i:Nat):Prop:=∀ b ∈ (td bs).take i,∀ t ∈ Ii bs b.toNat,OkE D b.toNat t.toNat
def SoJ (D:List (List Int)) (b:Nat) (ts:List Int) (j:Nat):Prop:=∀ t ∈ ts.take j,OkE D b t.toNat
theorem SoE.next {bs:List jf} {D:List (List Int)} {i:Nat} (h:SoE bs D i) (hi:i < (td bs).length) (hj:SoJ D ((td bs)[i]).toNat (Ii bs ((td bs)[i]).toNat) (Ii bs ((td bs)[i]).toNat).length):SoE bs D (i + 1):=by
 intro b hb t ht;rw [List.take_succ_eq_append_getElem hi,List.mem_append,List.mem_singleton] at hb
 rcases hb with hb|hb
 ·exact h b hb t ht
 ·subst hb;exact hj t (by rw [List.take_length];exact ht)
theorem SoJ.next {D:List (List Int)} {b:Nat} {ts:List Int} {j:Nat} (h:SoJ D b ts j) (hj:j < ts.length) (ho:OkE D b (ts[j]).toNat):SoJ D b ts (j + 1):=by
 intro t ht;rw [List.take_succ_eq_append_getElem hj,List.mem_append,List.mem_singleton] at ht
 rcases ht with ht|ht
 ·exact h t ht
 ·subst ht;exact ho
structure j6 (bs:List jf) (D:List (List Int)) (m:Nat) (a:Bool) (i:Nat):Prop where
 inv:iX bs D
 le:Jz D ≤ m
 lt:a=true→Jz D < m
 so:a=false→SoE bs D i
theorem j6.keep {bs:List jf} {D:List (List Int)} {m:Nat} {a:Bool} {i:Nat} (h:j6 bs D m a i) (hE:Ye bs) (hi:i < (td bs).length) {t:Int} (ht:t ∈ Ii bs ((td bs)[i]).toNat)
  (hlt:(Am D ((td bs)[i]).toNat t.toNat).length < (Bm D t.toNat).length):j6 bs (D.set t.toNat (Am D ((td bs)[i]).toNat t.toNat)) m true i:=by
 obtain ⟨x0,xr⟩:=(Fg hE _).1 (List.getElem_mem hi);obtain ⟨t0,t1⟩:=hE.2.2 _ (Kn hE xr) t ht;have hs:=pH D t.toNat (Am D ((td bs)[i]).toNat t.toNat) (by rw [h.inv.len];omega);have:=h.le;exact ⟨h.inv.step hE xr ht,by omega,fun _=>by omega,fun e=>by cases e⟩
theorem rO {P:Nat→Prop} {w1:World} {base n B:Nat} {v:Value} (h:Kd.S (Kd.slice 3 (Kd.int .i64)) 22 w1 base P v (List.replicate ((n:Int)).toNat [])) (hn:0 < n) (hat:∃ b,v.ownBlock=some b∧B ≤ b) :
  ∃ g cap,v = .slice (some ⟨g,0,none⟩) n cap∧B ≤ g∧g < w1.heap.size∧Kd.S (Kd.slice 3 (Kd.int .i64)) 22 w1 base P (.slice (some ⟨g,0,none⟩) n cap) (List.replicate n []):=by
 rw [Int.toNat_natCast] at h;obtain ⟨g,cap,hv,hb,hl,-⟩:=Kd.QK h (by rw [List.length_replicate];exact hn);rw [List.length_replicate] at hv;obtain ⟨b,h1,h2⟩:=hat;rw [hv] at h1;obtain rfl:g=b:=by simpa [Value.ownBlock] using h1
 exact ⟨g,cap,hv,h2,hl,hv ▸ h⟩
theorem yC.fresh {w wA wd w1:World} {b4 g cap n:Nat} {D:List (List Int)} {ok:Nat→Prop} {v:Value} {xs:List Int} (h:yC w wA b4 g cap n D wd) (ho:Kd.R (Kd.int .i64) 3 w1 wd.heap.size ok v xs):Kd.R (Kd.int .i64) 3 w1 w.heap.size (fun k=>k ≠ b4∧wd.heap.size ≤ k) v xs :=
 Kd.Fe (Kd.Mc (Kd.Gi ho) (fun k hk=>⟨by have:=h.blt;have:=hk.2.1;omega,hk.2.1⟩)) h.bl.size
theorem vH {bs:List jf} (hE:Ye bs) {i:Nat} (hi:i < (td bs).length) {A:Option Addr} {W:World} (hC:Kd.C (Kd.int .i64) W A (td bs).length (td bs)) :
  ∃ (ad:Addr) (b:Nat),A=some ad∧(td bs)[i]=(b:Int)∧b < bs.length∧Bn (Ii bs) b∧W.cell? (ad.add i)=some (.int .i64 (b:Int)):=by
 obtain ⟨x0,xr⟩:=(Fg hE _).1 (List.getElem_mem hi);obtain ⟨ad,e1,hx⟩:=Kd.Te hC (i:Int) (by omega) (by omega);rw [Int.toNat_natCast,Sj hi] at hx;exact ⟨ad,((td bs)[i]).toNat,e1,(Int.toNat_of_nonneg x0).symm,Kn hE xr,xr,by rw [Int.toNat_of_nonneg x0];exact hx⟩
theorem ZZ {w wA zm Iy:World} {RP b4 q9 g cap n b tn ck:Nat} {D:List (List Int)} {Ak:Option Addr} {ok:Nat→Prop} (h:yC w wA b4 g cap n D zm) (h11:zm.heap[RP]? = some (.cells #[.int .i64 (tn:Int)] 3 (0,0))) (h9:zm.heap[q9]? = some (.cells #[.int .i64 (b:Int)] 3 (0,0)))
  (qP:b < n) (hbd:Below zm.heap.size zm Iy) (ho:Kd.R (Kd.int .i64) 3 Iy zm.heap.size ok (.slice Ak (Bm D tn).length ck) (Bm D tn)) :
  Calls Try.prog 74 #[.slice Ak (Bm D tn).length ck,.func (.func 109) #[] #[.pointer (some ⟨RP,0,none⟩),.pointer (some ⟨b4,0,none⟩),.pointer (some ⟨q9,0,none⟩)]] Iy fun e w'=>e = .returned (.slice Ak (Am D b tn).length ck)∧Kd.R (Kd.int .i64) 3 w' zm.heap.size (fun _=>True) (.slice Ak (Am D b tn).length ck) (Am D b tn)∧Below zm.heap.size zm w':=by
 have hown:∀ k,(Value.slice Ak (Bm D tn).length ck).ownBlock=some k→zm.heap.size ≤ k:=Kd.Mh ho;have E8:=Kd.rad h.row hbd;refine (zI 109 #[.pointer (some ⟨RP,0,none⟩),.pointer (some ⟨b4,0,none⟩),.pointer (some ⟨q9,0,none⟩)] (ny D b tn) (enters_of Try.func109 (by kernel_rfl) rfl) (fun k=>some k=(Value.slice Ak (Bm D tn).length ck).ownBlock) Ak ck (Bm D tn) zm.heap.size zm Iy hbd hbd.size (Kd.Fs rfl ho) (fun W x hk=>?_)).mono ?_
 ·have man:=Kd.PK E8 hk (fun k hk e=>by have:=hown k e.symm;have:=hk.2;omega);obtain ⟨A,c,hc,-,hl,hC⟩:=TI man qP;have hne:∀ q,q < zm.heap.size→¬ some q=(Value.slice Ak (Bm D tn).length ck).ownBlock:=fun q hq e=>by have:=hown q e.symm;omega
  exact JJ RP b4 q9 g n cap b tn D A c x W qP
   ((ja (Fi (Wa h11 hbd) hk (hne _ (Vc h11))) 0).trans rfl) ((ja (Fi (Wa h.v hbd) hk (hne _ h.blt)) 0).trans rfl) ((ja (Fi (Wa h9 hbd) hk (hne _ (Vc h9))) 0).trans rfl) hc hl hC
 ·rintro e w' ⟨he,hr,hb,-⟩;exact ⟨he,Kd.Mc hr (fun _ _=>trivial),hb⟩
theorem vT {bs:List jf} {D:List (List Int)} (h:iX bs D) (hn:bs.length ≤ 1048576) (k:Nat):(Bm D k).length ≤ 1048576:=by
 obtain ⟨q,hq⟩:=h.fil k;rw [hq];exact Nat.le_trans (List.length_filter_le _ _) (Nat.le_trans (Pm bs) hn)
theorem WT {bs:List jf} (hE:Ye bs) {b j:Nat} (hb:b < bs.length) (hj:j < (Ii bs b).length) {A:Option Addr} {W:World} (hC:Kd.C (Kd.int .i64) W A (Ii bs b).length (Ii bs b)) :
  ∃ (ad:Addr) (t:Nat),A=some ad∧(Ii bs b)[j]=(t:Int)∧t < bs.length∧W.cell? (ad.add j)=some (.int .i64 (t:Int)):=by
 obtain ⟨t0,t1⟩:=hE.2.2 b hb _ (List.getElem_mem hj);obtain ⟨ad,e1,hx⟩:=Kd.Te hC (j:Int) (by omega) (by omega);rw [Int.toNat_natCast,Sj hj] at hx;exact ⟨ad,((Ii bs b)[j]).toNat,e1,(Int.toNat_of_nonneg t0).symm,by omega,by rw [Int.toNat_of_nonneg t0];exact hx⟩
theorem Jg.calls (qb:Option Addr) (mb:Nat) (Ma:List Int) (La:Int) (Na:Int) (Ka:Int) (Lb:Option Addr) (Fb:Nat) (Fa:List (jf)) (r:List (List Int)) (w:World) (Ae:Kd.C (Kd.int .i64) w qb Ma.length Ma) (we:Ma.length ≤ mb) (Uf:Kd.C Gp w Lb Fa.length Fa) (Lf:Fa.length ≤ Fb) (h:Jg.f Ma La Na Ka Fa=some r) :
  Calls Try.prog 82 #[.agg #[.slice qb Ma.length mb,.int .i64 La,.int .i64 Na,.int .i64 Ka,.slice Lb Fa.length Fb]] w fun e w'=>∃ Xn:Value,e = .returned (Xn)∧Kd.S (Kd.slice 3 (Kd.int .i64)) 22 w' w.heap.size (fun _=>True) Xn r∧Below w.heap.size w w':=by
 unfold Jg.f at h
 by_cases hE:Ye Fa
 case neg=>rw [if_neg hE] at h;cases h
 rw [if_pos hE] at h;obtain rfl:=Option.some.inj h;clear h;obtain ⟨R,hR,hRl,hRa⟩:=FR (l0:=Ma) (p:=La) (v:=Na) (s:=Ka) hE;obtain ⟨ko,hko⟩:=Ev.rounds hR;have HO_:=ga.mk hko
 have HRA:=ga.mk (show Mi.f R=some (td Fa) from by
  unfold Mi.f
  rw [if_pos (by have:=hE.2.1;omega),hRa])
 have HE:=ga.mk hE;have hn0:0 < Fa.length:=hE.1;have hn1:Fa.length ≤ 1048576:=hE.2.1;have HML:=ga.mk (Pm Fa);have HN:=ga.mk (And.intro hn0 hn1);clear hR hRl hRa hko hE;obtain ⟨W1,Ag⟩:∃ W1,W1=w.alloc (.cells #[.slice qb Ma.length mb,.int .i64 La,.int .i64 Na,.int .i64 Ka,.slice Lb Fa.length Fb] 45 (0,0)):=⟨_,rfl⟩;have HW:=ga.mk Ag;have HB:=ga.mk (show Below w.heap.size w W1 by rw [Ag];exact oa (Below.refl _ _) _);have HX:=ga.mk (show W1.heap[w.heap.size]? = some (.cells #[.slice qb Ma.length mb,.int .i64 La,.int .i64 Na,.int .i64 Ka,.slice Lb Fa.length Fb] 45 (0,0)) by rw [Ag];exact qq _ _);have Dn:=ga.mk Ae;have wX:=ga.mk Uf;have AZ:=ga.mk we;have zZ:=ga.mk Lf;have hx0:=(ja HX.out 0).trans rfl;have hx1:=(ja HX.out 1).trans rfl;have hx2:=(ja HX.out 2).trans rfl;have Nz:=(ja HX.out 3).trans rfl;have Hy:=(ja HX.out 4).trans rfl;clear Ag Ae Uf we Lf hn0 hn1;go_enter Try.func82,Try.ntmps82
 go_upto_region 1 with (fail)
 rw [← HW.out];clear HW
 go_upto_region 2 with (first|(go_at_call 78;(with_reducible refine (Ad.calls ko qb mb Ma La Na Ka Lb Fb Fa R W1 (Kd.Nb Dn.out HB.out) AZ.out (Kd.Nb wX.out HB.out) zZ.out HO_.out).mono ?_);rintro e w2 ⟨v2,rfl,ho,hb⟩;have HO2:=ga.mk ho;have vt:=ga.mk (Qa HB.out hb);have MS:=ga.mk hb;have HX2:=ga.mk (Wa HX.out hb);clear ho hb hx0 hx1 hx2 Nz Hy)|(go_at_call 86;(with_reducible refine (Mi.calls (fun _=>True) v2 R (td Fa) W1 w2 MS.out HO2.out HRA.out).mono ?_);rintro e w3 ⟨v3,rfl,ho,hb,hk⟩;obtain ⟨Ar,cr,rfl⟩:=Kd.Nd ho;have JD:=ga.mk ho;have tP:=ga.mk (Qa HB.out hb);have HX3:=ga.mk (Wa HX.out hb);clear ho hb hk))
 have EZ:=ga.mk (Kd.Jb JD.out).2.2;have hrl:(td Fa).length ≤ 1048576:=Nat.le_trans HML.out HN.out.2;clear JD HO2 vt MS HX2 HO_ HRA HX HB;have Hy:=(ja HX3.out 4).trans rfl;have HMK:=ga.mk (show ((Fa.length:Int)).toNat * 24 ≤ 281474976710656 from by have:=HN.out;omega);have h0n:(0:Int) ≤ (Fa.length:Int):=by omega
 go_upto_region 3 with (first|((with_reducible refine Ab (N:=19) rfl ?_);refine Kd.kS (Kd.slice 3 (Kd.int .i64)) (w0:=w) w.heap.size 22 rfl (N:=19) rfl 53 _ _ rfl (Fa.length:Int) rfl rfl Try.underlying53 (.slice none 0 0) 24 qQ rfl (by decide) (by omega) [] (ok:=fun _=>True) (Jh:=fun _=>True) ⟨_,rfl,Kd.Hz _ _ _ _ _⟩ (fun _ hk=>hk) trivial h0n HMK.out tP.out tP.out.size ?_;intro v4 w4 hs hb hg hat;obtain ⟨g,cap,rfl,hgb,iY,hs⟩:=rO hs HN.out.1 hat;have HS4:=ga.mk hs;have GZ:=ga.mk hb;have KS:=ga.mk hg;have DX:=ga.mk hgb;have HGL:=ga.mk iY;clear hs hb hg hat hgb iY))
 have Sab:Below w3.heap.size w3 w4:=(Below.refl _ w3).grown KS.out (Nat.le_refl _) (fun k e=>by cases e);have hb5:=oa (Below.refl w4.heap.size w4) (.cells #[.slice (some ⟨g,0,none⟩) Fa.length cap] 53 (0,0));have hv5:=qq w4 (.cells #[.slice (some ⟨g,0,none⟩) Fa.length cap] 53 (0,0));generalize w4.alloc (.cells #[.slice (some ⟨g,0,none⟩) Fa.length cap] 53 (0,0))=wA at hb5 hv5 ⊢;have HBA:=ga.mk (Qa Sab hb5);have HXA:=ga.mk (Wa HX3.out HBA.out);have HBL:=ga.mk (show Below w.heap.size w wA from iC tP.out tP.out.size HBA.out);have HCR:=ga.mk (fun W' hk=>Kd.bu (S:=fun k=>k=g) (Kd.jj .i64) EZ.out HBA.out (fun k e=>e ▸ DX.out) W' hk);have HS:=ga.mk (show yC w wA w4.heap.size g cap Fa.length (List.replicate Fa.length []) wA from ⟨HBL.out,Kept.refl _ _,hv5,Kd.Gf (Kd.Ji (Kd.mS HS4.out w4.heap.size (Nat.le_refl _)) hb5) (fun k hk=>hk.2),by have:=HGL.out;omega,Nat.le_trans tP.out.size DX.out⟩);have HNX:=ga.mk (show w.heap.size ≠ g from by have:=Vc HX3.out;have:=DX.out;omega);have HI:=ga.mk (QG.start Fa);clear Sab hb5 hv5 HS4 GZ KS HGL HX3 EZ tP h0n HMK Hy;generalize w4.heap.size=b4 at HS ⊢;go_wp2
 go_loopg [22] (td Fa).length (fun gg v22 wr=>∃ (i:Nat) (D:List (List Int)),i ≤ (td Fa).length∧(td Fa).length - i ≤ gg∧v22 = .int .i64 i∧ga (QG Fa i D)∧ga (yC w wA b4 g cap Fa.length D wr))
 case atStart=>exact ⟨0,_,Nat.zero_le _,by omega,rfl,HI,HS⟩
 case round =>
  clear HI HS;(try clear D);(try clear HI);(try clear HS);obtain ⟨i,D,hi,hgg,rfl,HI,HS⟩:=hrel
  by_cases hlt:i < (td Fa).length
  ·have dK:decide ((i:Int) < ((td Fa).length:Int))=true:=decide_eq_true (by omega);have p1:0 ≤ (i:Int):=by omega
   have p2:(i:Int) < ((td Fa).length:Int):=by omega
   obtain ⟨ad,b,e1,hb,qP,X3,hx⟩:=vH HE.out hlt (HCR.out wr HS.out.k);subst e1;have HNI:=ga.mk (HI.out.next HE.out hlt);rw [hb,Int.toNat_natCast] at HNI;have q1:0 ≤ (b:Int):=by omega
   have q2:(b:Int) < (Fa.length:Int):=by omega
   clear hb X3
   go_upto_region 6 with (fail)
   have HD:=ga.mk (HS.out.below (lp (Below.refl wr.heap.size wr)));clear HS HI hx;refine cl (n:=7) (S:=fun w'=>w'.cell? ⟨b4,0,none⟩=some (.slice (some ⟨g,0,none⟩) Fa.length cap)) (ds:=[6]) #[false,false,false,false,false,false,false] (by kernel_rfl) rfl rfl (HD.out.cell) (fun hHeld=>?_);generalize wr.drew=wd at HD hHeld ⊢;refine Bd (i:=1) (N:=some 27) (v:=?_) (a':=?_) #[false,true,false,false,false,false,false] rfl rfl (by kernel_rfl) (fun _ _ _ h=>h) (Or.inl ⟨by rfl,?_⟩) ?_ ?_;rotate_left
   ·intro w';go_simp;with_reducible rfl
   rotate_left
   ·simp only [Act.put,List.setIfInBounds_toArray,List.set_cons_zero,List.set_cons_succ,fc,ic]
    rfl
   refine Bd (i:=3) (N:=some 29) (v:=?_) (a':=?_) #[false,true,false,true,false,false,false] rfl rfl (by kernel_rfl) (fun _ _ _ h=>h) (Or.inl ⟨by rfl,?_⟩) ?_ ?_;rotate_left
   ·intro w';go_simp;with_reducible rfl
   rotate_left
   ·simp only [Act.put,List.setIfInBounds_toArray,List.set_cons_zero,List.set_cons_succ,fc,ic]
    rfl
   refine th (i:=0) (N:=some 26) (v:=?_) (a':=?_) #[true,true,false,true,false,false,false] rfl rfl (by kernel_rfl) (fun _ _ _ h=>h) (Or.inl ⟨by rfl,?_⟩) hHeld ?_ ?_;rotate_left
   ·intro w' s0;go_simp;with_reducible rfl
   rotate_left
   ·simp only [Act.put,List.setIfInBounds_toArray,List.set_cons_zero,List.set_cons_succ,fc,ic]
    rfl
   refine Dw (i:=2) (N:=some 28) #[true,true,true,true,false,false,false] rfl rfl (by kernel_rfl) (by decide) (fun K hK=>?_);refine TZ (w1:=?_) (v:=?_) (by rfl) rfl ?_ ?_;rotate_left 2
   ·go_simp
    constructor
    ·rfl
    ·rfl
   refine hK.out _ _ ((HD.out.below (oa (Below.refl _ _) _)).cell) (fun hHeld=>?_);clear hK K;refine Fp (a':=?_) ?_ ?_;rotate_left
   ·show Act.put _ (some 28) _=_
    simp only [Act.put,List.setIfInBounds_toArray,List.set_cons_zero,List.set_cons_succ,fc,ic]
    rfl
   refine Dw (i:=4) (N:=some 30) #[true,true,true,true,true,false,false] rfl rfl (by kernel_rfl) (by decide) (fun K hK=>?_);refine Kd.ow (Kd.int .i64) (w0:=wd) wd.heap.size (by rfl) (.tmp 28) (.tmp 29) 22 3 (.int .i64 0) 8 rfl Try.underlying22 info3 rfl (by decide) (by omega) (.slice (some ⟨wd.heap.size,0,none⟩) 0 0) [] (td Fa) (some ad) (td Fa).length cr (fun _=>True) (fun _=>False) rfl rfl (NN (Kd.int .i64) 3 wd wd.heap.size (Nat.le_refl _)) ?aR (fun _ _ h=>h) (fun _ hk=>hk.elim) (fun _ _=>trivial) (oa (Below.refl _ _) _) (oa (Below.refl _ _) _).size ?aL ?_
   (case aR=>exact HCR.out _ (HD.out.below (oa (Below.refl _ _) _)).k)
   (case aL=>have:=HML.out;have:=HN.out.2;simp;omega)
   intro v1 w1 ho Wq wC hat;rw [List.nil_append] at ho;clear wC hat;obtain ⟨A1,c1,rfl⟩:=Kd.Nd ho;have U7:=ga.mk (HD.out.below Wq);have HP:=ga.mk (HD.out.put Wq qP (HD.out.fresh ho));clear ho Wq;refine hK.out _ _ (U7.out.cell) (fun hHeld=>?_);clear hK K;refine Fp (a':=?_) ?_ ?_;rotate_left
   ·show Act.put _ (some 30) _=_
    simp only [Act.put,List.setIfInBounds_toArray,List.set_cons_zero,List.set_cons_succ,fc,ic]
    rfl
   refine Bd (i:=5) (N:=some 31) (v:=?_) (a':=?_) #[true,true,true,true,true,true,false] rfl rfl (by kernel_rfl) (fun _ _ _ h=>h) (Or.inl ⟨by rfl,?_⟩) ?_ ?_;rotate_left
   ·intro w';go_simp;with_reducible rfl
   rotate_left
   ·simp only [Act.put,List.setIfInBounds_toArray,List.set_cons_zero,List.set_cons_succ,fc,ic]
    rfl
   refine kQ (i:=6) (N:=none) #[true,true,true,true,true,true,true] rfl rfl (by kernel_rfl) (by decide) (fun K hK=>?_);obtain ⟨Ao,co,hc,hf,-,-⟩:=U7.out.at qP;refine GP (w1:=?_) (by rfl) rfl ?_ ?_;rotate_left
   ·go_simp
    rfl
   refine hK.out _ _ ?_;clear hK K;refine pq (by kernel_rfl) ?_;clear hHeld;go_wp2
   go_roundg ((td Fa).length - (i + 1))
   case measure=>omega
   case rel=>exact ⟨i + 1,_,by omega,by omega,by go_num,HNI,HP⟩
  ·have dK:decide ((i:Int) < ((td Fa).length:Int))=false:=decide_eq_false (by omega);obtain rfl:i=(td Fa).length:=by omega
   have iZ:=ga.mk (HI.out.go HE.out);have hv:=HS.out.cell;obtain ⟨A0,c0,PO,hf0,-,-⟩:=HS.out.at (i:=0) HN.out.1;have q0:(0:Int) < (Fa.length:Int):=by have:=HN.out.1;omega
   have s1:=HS.out.glt;have s2:=HS.out.blt;have hp:=HS.out.put (oa (Below.refl _ _) (.cells #[.int .i64 0] 3 (0,0))) HN.out.1 (HS.out.fresh (uad wr wr.heap.size 0 (Nat.le_refl _)));rw [World.setCell_alloc_past _ _ _ _ s1] at hp;have HP:=ga.mk hp;clear hp
   go_upto_region 9 with (fail)
   clear HI HS hv PO hf0 s1 s2 q0 dK hlt hgg hi;generalize (wr.setCell ⟨g,0,none⟩ (.slice (some ⟨wr.heap.size,0,none⟩) 1 1)).alloc (.cells #[.int .i64 0] 3 (0,0))=w8 at HP ⊢;generalize D.set 0 [0]=D at iZ HP;go_wp2
   go_loopg [7] (Jz D + 1) (fun gg v7 wr=>∃ (D:List (List Int)) (a:Bool),v7 = .bool a∧Jz D + (if a=true then 1 else 0) ≤ gg∧ga (iX Fa D)∧ga (a=false→SoE Fa D (td Fa).length)∧ga (yC w wA b4 g cap Fa.length D wr))
   case atStart=>exact ⟨_,true,rfl,by simp,iZ,⟨fun e=>by cases e⟩,HP⟩
   case round =>
    clear iZ HP;(try clear D);(try clear iZ);(try clear J6);(try clear HS);obtain ⟨D,a,rfl,hgg,iZ,J6,HS⟩:=hrel;cases a with
    | false =>
     have HDE:=ga.mk (iZ.out.done HE.out (fun b hb t ht=>by
      have h:=J6.out rfl (b:Int) (by rw [List.take_length];exact (Fg HE.out _).2 ⟨by omega,by rw [Int.toNat_natCast];exact hb⟩) t (by rw [Int.toNat_natCast];exact ht)
      rwa [Int.toNat_natCast] at h))
     have hv:=HS.out.cell;go_wp2;go_ret;exact ⟨_,rfl,by rw [← HDE.out];exact Kd.Gf HS.out.row (fun _ _=>trivial),HS.out.bl⟩
    | true =>
     have J9:=hgg;rw [if_pos rfl] at J9;have HJ:=ga.mk (show j6 Fa D (Jz D) false 0 from ⟨iZ.out,Nat.le_refl _,(fun e=>by cases e),(fun _ b hb=>by simp at hb)⟩);clear iZ J6 hgg;generalize Jz D=m0 at HJ J9;go_wp2
     go_loopg [7,39] (td Fa).length (fun g3 v7 v39 wr=>∃ (i:Nat) (D:List (List Int)) (a:Bool),v7 = .bool a∧v39 = .int .i64 i∧i ≤ (td Fa).length∧(td Fa).length - i ≤ g3∧ga (j6 Fa D m0 a i)∧ga (yC w wA b4 g cap Fa.length D wr))
     case atStart=>exact ⟨0,_,false,rfl,rfl,Nat.zero_le _,by omega,HJ,HS⟩
     case round =>
      clear HJ HS;(try clear D);(try clear HJ);(try clear HS);obtain ⟨i,D,a,rfl,rfl,hi,sJ,HJ,HS⟩:=hrel
      by_cases hlt:i < (td Fa).length
      ·have dK:decide ((i:Int) < ((td Fa).length:Int))=true:=decide_eq_true (by omega);have p1:0 ≤ (i:Int):=by omega
       have p2:(i:Int) < ((td Fa).length:Int):=by omega
       obtain ⟨ad,b,e1,hb,qP,X3,hx⟩:=vH HE.out hlt (HCR.out wr HS.out.k);subst e1;have HRB:=ga.mk hb;clear hb X3
       go_upto_region 15 with (fail)
       have hb9:=oa (Below.refl wr.heap.size wr) (.cells #[.int .i64 (b:Int)] 3 (0,0));have hv9:=qq wr (.cells #[.int .i64 (b:Int)] 3 (0,0));generalize wr.alloc (.cells #[.int .i64 (b:Int)] 3 (0,0))=w9 at hb9 hv9 ⊢;have HS9:=ga.mk (HS.out.below hb9);have HQ9:=ga.mk hv9;have HN9:=ga.mk (show wr.heap.size ≠ g from by have:=HS.out.glt;omega);clear hb9 hv9 HS hx;generalize wr.heap.size=q9 at HQ9 HN9 ⊢;have hq9:=(ja HQ9.out 0).trans rfl;have Hy:=(ja (Fi HXA.out HS9.out.k HNX.out) 4).trans rfl;obtain ⟨ag,Ac,cc,e1,hc0,hc1,tJ,bT,hc4,NC,hcC⟩:=Sk (Kd.Nb wX.out HS9.out.bl) (b:Int) (by omega) (by omega);subst e1;simp only [Int.toNat_natCast] at hc0 hc1 tJ bT hc4;have q1:0 ≤ (b:Int):=by omega
       have q2:(b:Int) < (Fa.length:Int):=by omega
       have Faq:=ga.mk (show wg.f (Ta Fa (b:Int)).f0 (Ta Fa (b:Int)).f1 (Ta Fa (b:Int)).f2 (Ta Fa (b:Int)).f3 (Ta Fa (b:Int)).f4=some (Ii Fa b) from fD _);have HCC:=ga.mk hcC;have HCL:=ga.mk NC;clear hcC NC;have htl:(Ii Fa b).length ≤ 2:=Rt _;go_wp2_with (first|(go_at_call 75;(with_reducible refine (wg.calls Ac cc (Ta Fa (b:Int)).f0 (Ta Fa (b:Int)).f1 (Ta Fa (b:Int)).f2 (Ta Fa (b:Int)).f3 (Ta Fa (b:Int)).f4 (Ii Fa b) w9 HCC.out HCL.out Faq.out).mono ?_);rintro e Iq ⟨v15,rfl,ho,hb⟩;obtain ⟨An,cn,rfl⟩:=Kd.Nd ho;have lae:=ga.mk ho;have jJ:=ga.mk hb;clear ho hb hc0 hc1 tJ bT hc4 Hy hq9));have bae:=ga.mk (HS9.out.below jJ.out);have Daq:=ga.mk (Wa HQ9.out jJ.out);have BZ:=ga.mk HS9.out.glt;have HNC:=ga.mk (fun W' hk=>Kd.cL (S:=fun k=>k=g) (Kd.Mc (Kd.Gi lae.out) (fun k hk=>hk.2.1)) (fun k hk e=>by have:=BZ.out;omega) W' hk);have HNE:=ga.mk (rfl:Ii Fa b=Ii Fa b);clear HS9 lae jJ HCC HCL HQ9
       go_loopg [7,50] (Ii Fa b).length (fun g4 v7 v50 wr=>∃ (j:Nat) (D:List (List Int)) (a:Bool),v7 = .bool a∧v50 = .int .i64 j∧j ≤ (Ii Fa b).length∧(Ii Fa b).length - j ≤ g4∧ga (j6 Fa D m0 a i)∧ga (a=false→SoJ D b (Ii Fa b) j)∧ga (yC w wA b4 g cap Fa.length D wr)∧ga (Kept Iq wr (fun k=>k=g)))
       case atStart=>exact ⟨0,_,_,rfl,rfl,Nat.zero_le _,by omega,HJ,⟨fun _ t ht=>by simp at ht⟩,bae,⟨Kept.refl _ _⟩⟩
       case round =>
        clear HJ bae;(try clear D);(try clear HJ);(try clear J6);(try clear HS);(try clear HK);obtain ⟨j,D,a,rfl,rfl,hj,rJ,HJ,J6,HS,HK⟩:=hrel
        by_cases hjt:j < (Ii Fa b).length
        ·have Mao:decide ((j:Int) < ((Ii Fa b).length:Int))=true:=decide_eq_true (by omega);have r1:0 ≤ (j:Int):=by omega
         have r2:(j:Int) < ((Ii Fa b).length:Int):=by omega
         obtain ⟨an,tn,e1,ht,htn,hx⟩:=WT HE.out qP hjt (HNC.out wr HK.out);subst e1;have HT:=ga.mk ht;clear ht
         go_upto_region 18 with (fail)
         have AR:=oa (Below.refl wr.heap.size wr) (.cells #[.int .i64 (tn:Int)] 3 (0,0));have U1:=qq wr (.cells #[.int .i64 (tn:Int)] 3 (0,0));generalize wr.alloc (.cells #[.int .i64 (tn:Int)] 3 (0,0))=zm at AR U1 ⊢;have WK:=ga.mk (HS.out.below AR);have UG:=ga.mk U1;have eae:=ga.mk (Wa (Fi Daq.out HK.out HN9.out) AR);have vae:=ga.mk (HK.out.below AR);clear AR U1 HS HK hx;generalize wr.heap.size=RP at UG ⊢;have iJ:=ga.mk (oa (Below.refl zm.heap.size zm) (.cells #[] 3 (0,0)));obtain ⟨At,ct,M8,-,hlt',hCt⟩:=(WK.out.below iJ.out).at htn;have HCt:=ga.mk hCt;have hv4:=(WK.out.below iJ.out).cell;have P8:=(ja (Wa UG.out iJ.out) 0).trans rfl;have t1:0 ≤ (tn:Int):=by omega
         have t2:(tn:Int) < (Fa.length:Int):=by omega
         have HEM:=ga.mk (NN (Kd.int .i64) 3 zm zm.heap.size (Nat.le_refl _));have HLN:=ga.mk (show (([]:List Int).length + (Bm D tn).length) * 8 ≤ 140737488355328 from by have:=vT HJ.out.inv HN.out.2 tn;simp;omega);have hmf:∀ (fn:Fn) (first cap:Array Value) (w:World),(Instr.makeFunc fn first cap).run Try.prog w = .ok (.func fn first cap) w:=fun _ _ _ _=>rfl
         clear hCt
         go_upto_region 19 with (first|((with_reducible refine Ab (N:=59) rfl ?_);refine Kd.Nv (Kd.int .i64) (w0:=zm) zm.heap.size rfl (.tmp 54) (.tmp 58) 22 3 (.int .i64 0) 8 rfl Try.underlying22 info3 rfl (by decide) (by omega) (.slice (some ⟨zm.heap.size,0,none⟩) 0 0) [] (Bm D tn) At (Bm D tn).length ct (fun _=>True) (fun _=>False) rfl rfl HEM.out HCt.out (fun _ _ h=>h) (fun _ hk=>hk.elim) (fun _ _=>trivial) iJ.out iJ.out.size HLN.out ?_;intro v19 Iy ho Wq wC hat;rw [List.nil_append] at ho;obtain ⟨Ak,ck,rfl⟩:=Kd.Nd ho;have HDC:=ga.mk (ZZ WK.out UG.out eae.out qP Wq ho);clear ho Wq wC hat M8 hv4 P8)|(go_at_call 74;(with_reducible refine HDC.out.mono ?_);rintro e w20 ⟨rfl,N8,Tab⟩;have dae:=ga.mk N8;have LS:=ga.mk Tab;clear N8 Tab HDC))
         have L6:=ga.mk (WK.out.below LS.out);have HP:=ga.mk (WK.out.put LS.out htn (WK.out.fresh dae.out));have uae:=ga.mk (vae.out.below LS.out);have hv4:=L6.out.cell;have P8:=(ja (Wa UG.out LS.out) 0).trans rfl;obtain ⟨At,ct,M8,hft,-,-⟩:=L6.out.at htn;clear WK eae vae HEM HLN HCt iJ dae hlt' UG LS
         by_cases hk:(Am D b tn).length < (Bm D tn).length
         ·have hkb:decide (((Am D b tn).length:Int) < ((Bm D tn).length:Int))=true:=decide_eq_true (by omega);have HJN:=ga.mk (HJ.out.keep HE.out hlt (t:=(Ii Fa b)[j]) (by rw [HRB.out,Int.toNat_natCast];exact List.getElem_mem hjt) (by rw [HRB.out,HT.out,Int.toNat_natCast,Int.toNat_natCast];exact hk));rw [HRB.out,HT.out,Int.toNat_natCast,Int.toNat_natCast] at HJN;have hGK:=HP.out.k;go_wp2
          go_roundg ((Ii Fa b).length - (j + 1))
          case measure=>omega
          case rel=>exact ⟨j + 1,_,true,rfl,by go_num,by omega,by omega,HJN,⟨fun e=>by cases e⟩,HP,⟨uae.out.setCell (Or.inl rfl) _⟩⟩
         ·have hkb:decide (((Am D b tn).length:Int) < ((Bm D tn).length:Int))=false:=decide_eq_false (by omega);have HOK:=ga.mk (lQ hk).2;clear HP;go_wp2
          go_roundg ((Ii Fa b).length - (j + 1))
          case measure=>omega
          case rel=>exact ⟨j + 1,D,a,rfl,by go_num,by omega,by omega,HJ,⟨fun e=>(J6.out e).next hjt (by rw [HT.out,Int.toNat_natCast];exact HOK.out)⟩,L6,uae⟩
        ·have Mao:decide ((j:Int) < ((Ii Fa b).length:Int))=false:=decide_eq_false (by omega);obtain rfl:j=(Ii Fa b).length:=by omega
         have HJN:=ga.mk (show j6 Fa D m0 a (i + 1) from ⟨HJ.out.inv,HJ.out.le,HJ.out.lt,fun e=>(HJ.out.so e).next hlt (by rw [HRB.out,Int.toNat_natCast];exact J6.out e)⟩);go_wp2
         go_roundg ((td Fa).length - (i + 1))
         case measure=>omega
         case rel=>exact ⟨i + 1,D,a,rfl,by go_num,by omega,by omega,HJN,HS⟩
      ·have dK:decide ((i:Int) < ((td Fa).length:Int))=false:=decide_eq_false (by omega);obtain rfl:i=(td Fa).length:=by omega
       have h1:=HJ.out.le;have h2:=HJ.out.lt
       have HM:=ga.mk (show Jz D + (if a=true then 1 else 0) < m0 + 1 from by
        cases a with
        | false=>rw [if_neg (by simp)];omega
        | true=>have:=h2 rfl;rw [if_pos rfl];omega)
       clear h1 h2;go_wp2
       go_roundg (Jz D + (if a=true then 1 else 0))
       case measure=>have:=HM.out;omega
       case rel=>exact ⟨D,a,rfl,Nat.le_refl _,⟨HJ.out.inv⟩,⟨HJ.out.so⟩,HS⟩
end Go.Proofs.Ytoomcmaifgkkfaa.P
end
