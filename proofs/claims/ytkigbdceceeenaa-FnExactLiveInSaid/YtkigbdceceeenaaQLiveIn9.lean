import Derived.Test.YtkigbdceceeenaaQLiveIn1
import Derived.Test.YtkigbdceceeenaaQLiveIn7
import Derived.Test.YtkigbdceceeenaaQLiveIn8
import Derived.Test.YtkigbdceceeenaaQLiveIn4
import Derived.Test.YtkigbdceceeenaaQLiveIn5
import Derived.Test.YtkigbdceceeenaaQLiveIn6
import Derived.Test.YtkigbdceceeenaaQLiveIn2
import Derived.Test.YtkigbdceceeenaaQLiveIn3
import Derived.Shelf.Abstract
set_option maxHeartbeats 8000000
set_option maxRecDepth 100000
section
namespace Go.Proofs.Ytkigbdceceeenaa.P
open Go.RowKit Go.Proofs.Sa.Wb Go.Proofs.Sa.je Go.Proofs.Sa.Qf
set_option linter.unusedVariables false
set_option linter.unusedSimpArgs false
attribute [local go_sem] ei ai Tj Sj Yg Xg di Zh
def Qh.f (k:Nat) (Ra:List Int) (La:Int) (Ja:Int) (Ia:Int) (Fa:List (We)) (Nc:List Int) (Qb:Int) (Jb:Int) (Kb:Int) (cm:List (We)):Option (Bool):=(ld.f k Ra Nc).bind fun t103=>(if t103=true then (if La=Qb then (if Ja=Jb then (if Ia=Kb then ((Bc.f k Fa cm).bind fun t104=>(if t104=true then (some true) else (some false))) else (some false)) else (some false)) else (some false)) else (some false))
theorem Qh.calls (k:Nat) (Za:Option Addr) (gb:Nat) (Ra:List Int) (La:Int) (Ja:Int) (Ia:Int) (Vb:Option Addr) (Lb:Nat) (Fa:List (We)) (qf:Option Addr) (jf:Nat) (Nc:List Int) (Qb:Int) (Jb:Int) (Kb:Int) (tr:Option Addr) (nr:Nat) (cm:List (We)) (r:Bool) (w:World) (Zd:Kd.C (Kd.int .i64) w Za Ra.length Ra) (Xd:Ra.length ≤ gb) (Tf:Kd.C Kp w Vb Fa.length Fa) (Kf:Fa.length ≤ Lb) (wu:Kd.C (Kd.int .i64) w qf Nc.length Nc) (xu:Nc.length ≤ jf) (kW:Kd.C Kp w tr cm.length cm) (LW:cm.length ≤ nr) (h:Qh.f k Ra La Ja Ia Fa Nc Qb Jb Kb cm=some r) :
  Calls Try.prog 14 #[.agg #[.slice Za Ra.length gb,.int .i64 La,.int .i64 Ja,.int .i64 Ia,.slice Vb Fa.length Lb],.agg #[.slice qf Nc.length jf,.int .i64 Qb,.int .i64 Jb,.int .i64 Kb,.slice tr cm.length nr]] w fun e w'=>e = .returned (.bool r)∧Below w.heap.size w w':=by
 have vC:=Try.underlying30;have He:=ja.mk Zd;have Me:=ja.mk Xd;clear Zd Xd;have Uf:=ja.mk Tf;have Ug:=ja.mk Kf;clear Tf Kf;have gn:=ja.mk wu;have Bp:=ja.mk xu;clear wu xu;have wX:=ja.mk kW;have PX:=ja.mk LW;clear kW LW;have HB:=ja.mk (Below.refl w.heap.size w);have H:((ld.f k Ra Nc).bind fun t103=>(if t103=true then (if La=Qb then (if Ja=Jb then (if Ia=Kb then ((Bc.f k Fa cm).bind fun t104=>(if t104=true then (some true) else (some false))) else (some false)) else (some false)) else (some false)) else (some false)))=some r:=h;clear h;replace H:=Option.bind_eq_some_iff.mp H;obtain ⟨t103,Zu,H⟩:=H;replace H:(if t103=true then (if La=Qb then (if Ja=Jb then (if Ia=Kb then ((Bc.f k Fa cm).bind fun t104=>(if t104=true then (some true) else (some false))) else (some false)) else (some false)) else (some false)) else (some false))=some r:=H;have A3:=ja.mk Zu;clear Zu
 by_cases c4:t103=true
 ·subst c4;have H1:(if La=Qb then (if Ja=Jb then (if Ia=Kb then ((Bc.f k Fa cm).bind fun t104=>(if t104=true then (some true) else (some false))) else (some false)) else (some false)) else (some false))=some r:=by rw [if_pos rfl] at H;exact H
  clear H;have H:=H1;clear H1
  by_cases c5:La=Qb
  ·rw [if_pos c5] at H;have ki:(La == Qb)=true:=beq_iff_eq.mpr c5;have Uu:(La != Qb)=false:=bne_eq_false_iff_eq.mpr c5;clear c5
   by_cases c6:Ja=Jb
   ·rw [if_pos c6] at H;have Sm:(Ja == Jb)=true:=beq_iff_eq.mpr c6;have Bz:(Ja != Jb)=false:=bne_eq_false_iff_eq.mpr c6;clear c6
    by_cases c7:Ia=Kb
    ·rw [if_pos c7] at H;have Jj:(Ia == Kb)=true:=beq_iff_eq.mpr c7;have Pp:(Ia != Kb)=false:=bne_eq_false_iff_eq.mpr c7;clear c7;replace H:=Option.bind_eq_some_iff.mp H;obtain ⟨t104,KR,H⟩:=H;replace H:(if t104=true then (some true) else (some false))=some r:=H;have A8:=ja.mk KR;clear KR
     by_cases c9:t104=true
     ·subst c9;have H1:(some true)=some r:=by rw [if_pos rfl] at H;exact H
      clear H;have H:=H1;clear H1;obtain rfl:=Option.some.inj H;go_enter Try.func14,Try.ntmps14;go_wp2_with (first|((with_reducible refine xb (N:=2) rfl ?_);refine Fb ?hg (N:=2) ?hd (cs:=#[.slice Za Ra.length gb,.int .i64 La,.int .i64 Ja,.int .i64 Ia,.slice Vb Fa.length Lb]) (t:=30) ?hr ?_;(case hd=>rfl);(case hg=>rfl);(case hr=>first|(go_simp;done)|(go_simp;rfl));intro ya hg aq Pb hb;have Bb:=ja.mk (Qa (by repeat (first|(with_reducible first|exact HB.out|apply qa|apply ia|apply ta)|exact HB.out)) hb);have Gb:=ja.mk (Pb);have Nb:=ja.mk ((by rw [hg];exact (Ka (by repeat (first|(with_reducible first|exact HB.out|apply qa|apply ia|apply ta)|exact HB.out))):w.heap.size ≤ ya));have Dc:=ja.mk ((by rw [hg];exact (Ka (by repeat (first|(with_reducible first|exact HB.out|apply qa|apply ia|apply ta)|exact HB.out))):w.heap.size ≤ ya));clear HB;have HB:=Bb;have oa:=Gb;have Ad:=Nb;have Ta:=Dc;clear Bb Gb Nb Dc hb Pb hg)|((with_reducible refine xb (N:=3) rfl ?_);refine Fb ?hg (N:=3) ?hd (cs:=#[.slice qf Nc.length jf,.int .i64 Qb,.int .i64 Jb,.int .i64 Kb,.slice tr cm.length nr]) (t:=30) ?hr ?_;(case hd=>rfl);(case hg=>rfl);(case hr=>first|(go_simp;done)|(go_simp;rfl));intro Ga hg Fi Pb hb;have Bb:=ja.mk (Va (g:=ya) (o:=.cells #[.slice Za Ra.length gb,.int .i64 La,.int .i64 Ja,.int .i64 Ia,.slice Vb Fa.length Lb] 30 (0,0)) (by (with_reducible repeat (first|refine Aa ?_ _|refine Da ?_|refine Ba ?_ _));exact oa.out) hb);have Gb:=ja.mk (Qa (by repeat (first|(with_reducible first|exact HB.out|apply qa|apply ia|apply ta|refine ua ?_ Ta.out)|exact HB.out)) hb);have Nb:=ja.mk (Pb);have Dc:=ja.mk ((by rw [hg];exact (Ka (by repeat (first|(with_reducible first|exact HB.out|apply qa|apply ia|apply ta|refine ua ?_ Ta.out)|exact HB.out))):w.heap.size ≤ Ga));have Jf:=ja.mk ((by rw [hg];exact (Ka (by repeat (first|(with_reducible first|exact HB.out|apply qa|apply ia|apply ta|refine ua ?_ Ta.out)|exact HB.out))):w.heap.size ≤ Ga));have sg:=ja.mk ((by rw [hg];exact Nat.ne_of_lt (Rc (g:=ya) (o:=.cells #[.slice Za Ra.length gb,.int .i64 La,.int .i64 Ja,.int .i64 Ia,.slice Vb Fa.length Lb] 30 (0,0)) (by (with_reducible repeat (first|refine Aa ?_ _|refine Da ?_|refine Ba ?_ _));exact oa.out)):ya ≠ Ga));have Bg:=ja.mk ((by rw [hg];exact Nat.ne_of_gt (Rc (g:=ya) (o:=.cells #[.slice Za Ra.length gb,.int .i64 La,.int .i64 Ja,.int .i64 Ia,.slice Vb Fa.length Lb] 30 (0,0)) (by (with_reducible repeat (first|refine Aa ?_ _|refine Da ?_|refine Ba ?_ _));exact oa.out)):Ga ≠ ya));clear oa HB;have oa:=Bb;have HB:=Gb;have za:=Nb;have mj:=Dc;have uc:=Jf;have Db:=sg;have Cb:=Bg;clear Bb Gb Nb Dc Jf sg Bg hb Pb hg;have qW:=Db.out;have oW:=Cb.out;have Ml:Fi.cell? ⟨ya,0,none⟩=some (.slice Za Ra.length gb):=(ga oa.out 0).trans rfl;have Ll:Fi.cell? ⟨ya,1,none⟩=some (.int .i64 La):=(ga oa.out 1).trans rfl;have Kl:Fi.cell? ⟨ya,2,none⟩=some (.int .i64 Ja):=(ga oa.out 2).trans rfl;have Jl:Fi.cell? ⟨ya,3,none⟩=some (.int .i64 Ia):=(ga oa.out 3).trans rfl;have Il:Fi.cell? ⟨ya,4,none⟩=some (.slice Vb Fa.length Lb):=(ga oa.out 4).trans rfl;have ql:=aa oa.out 0;have jl:=aa oa.out 1;have gl:=aa oa.out 2;have fl:=aa oa.out 3;have cl:=aa oa.out 4;have fj:Fi.cell? ⟨Ga,0,none⟩=some (.slice qf Nc.length jf):=(ga za.out 0).trans rfl;have ej:Fi.cell? ⟨Ga,1,none⟩=some (.int .i64 Qb):=(ga za.out 1).trans rfl;have cj:Fi.cell? ⟨Ga,2,none⟩=some (.int .i64 Jb):=(ga za.out 2).trans rfl;have aj:Fi.cell? ⟨Ga,3,none⟩=some (.int .i64 Kb):=(ga za.out 3).trans rfl;have Zi:Fi.cell? ⟨Ga,4,none⟩=some (.slice tr cm.length nr):=(ga za.out 4).trans rfl;have Wi:=aa za.out 0;have Vi:=aa za.out 1;have Ui:=aa za.out 2;have Ti:=aa za.out 3;have Si:=aa za.out 4)|((with_reducible refine qb (f:=17) rfl ?_);refine Mc (some 9) rfl rfl Try.func17 (by kernel_rfl) rfl #[.slice Za Ra.length gb,.slice qf Nc.length jf] rfl (by (try simp only [List.map_toArray,List.map_cons,List.map_nil]);first|done|rfl|(simp only [List.length_drop,List.length_take];rfl)) ?_;(with_reducible refine (ld.calls k _ _ Ra _ _ Nc true _ ?Jc ?Ic ?Qd ?Pd A3.out).mono ?_);(case Jc=>repeat (first|exact (Kd.Mb He.out HB.out)|(with_reducible refine Kd.Tb ?_ _)|(with_reducible refine Kd.Sb ?_ _)|(with_reducible refine Kd.qc ?_)));(case Ic=>exact Me.out);(case Qd=>repeat (first|exact (Kd.Mb gn.out HB.out)|(with_reducible refine Kd.Tb ?_ _)|(with_reducible refine Kd.Sb ?_ _)|(with_reducible refine Kd.qc ?_)));(case Pd=>exact Bp.out);rintro e w' ⟨rfl,⟨nd,rfl⟩⟩;refine ⟨_,rfl,?_⟩)|((with_reducible refine qb (f:=52) rfl ?_);refine Mc (some 30) rfl rfl Try.func52 (by kernel_rfl) rfl #[.slice Vb Fa.length Lb,.slice tr cm.length nr] rfl (by (try simp only [List.map_toArray,List.map_cons,List.map_nil]);first|done|rfl|(simp only [List.length_drop,List.length_take];rfl)) ?_;(with_reducible refine (Bc.calls k _ _ Fa _ _ cm true _ ?Jc ?Ic ?Qd ?Pd A8.out).mono ?_);(case Jc=>repeat (first|exact (Kd.Mb Uf.out (by repeat (first|(with_reducible first|exact HB.out|apply qa|apply ia|apply ta|refine ua ?_ Ta.out|refine ua ?_ uc.out)|exact HB.out)))|(with_reducible refine Kd.Tb ?_ _)|(with_reducible refine Kd.Sb ?_ _)|(with_reducible refine Kd.qc ?_)));(case Ic=>exact Ug.out);(case Qd=>repeat (first|exact (Kd.Mb wX.out (by repeat (first|(with_reducible first|exact HB.out|apply qa|apply ia|apply ta|refine ua ?_ Ta.out|refine ua ?_ uc.out)|exact HB.out)))|(with_reducible refine Kd.Tb ?_ _)|(with_reducible refine Kd.Sb ?_ _)|(with_reducible refine Kd.qc ?_)));(case Pd=>exact PX.out);rintro e Xp ⟨rfl,hb⟩;refine ⟨_,rfl,?_⟩;have Bb:=ja.mk (Va (g:=ya) (o:=.cells #[.slice Za Ra.length gb,.int .i64 La,.int .i64 Ja,.int .i64 Ia,.slice Vb Fa.length Lb] 30 (0,0)) (by (with_reducible repeat (first|refine Aa ?_ _|refine Da ?_|refine Ba ?_ _));exact oa.out) hb);have Gb:=ja.mk (Va (g:=Ga) (o:=.cells #[.slice qf Nc.length jf,.int .i64 Qb,.int .i64 Jb,.int .i64 Kb,.slice tr cm.length nr] 30 (0,0)) (by (with_reducible repeat (first|refine Aa ?_ _|refine Da ?_|refine Ba ?_ _));exact za.out) hb);have Nb:=ja.mk (Qa (by repeat (first|(with_reducible first|exact HB.out|apply qa|apply ia|apply ta|refine ua ?_ Ta.out|refine ua ?_ uc.out)|exact HB.out)) hb);clear oa za HB;have oa:=Bb;have za:=Gb;have HB:=Nb;clear Bb Gb Nb;(try clear hb);(try clear si);(try clear hk);(try clear hi)));go_ret;exact ⟨by first|rfl|(simp [Na,Ma] <;> rfl)|(simp [*,Na,Ma] <;> rfl),by repeat (first|(with_reducible first|exact HB.out|apply qa|apply ia|apply ta|refine ua ?_ Ta.out|refine ua ?_ uc.out)|exact HB.out)⟩
     ·replace c9:=Bool.eq_false_iff.mpr c9;subst c9;have H1:(some false)=some r:=by rw [if_neg (show ¬ (false=true) by decide)] at H;exact H
      clear H;have H:=H1;clear H1;obtain rfl:=Option.some.inj H;go_enter Try.func14,Try.ntmps14;go_wp2_with (first|((with_reducible refine xb (N:=2) rfl ?_);refine Fb ?hg (N:=2) ?hd (cs:=#[.slice Za Ra.length gb,.int .i64 La,.int .i64 Ja,.int .i64 Ia,.slice Vb Fa.length Lb]) (t:=30) ?hr ?_;(case hd=>rfl);(case hg=>rfl);(case hr=>first|(go_simp;done)|(go_simp;rfl));intro ya hg cv Pb hb;have Bb:=ja.mk (Qa (by repeat (first|(with_reducible first|exact HB.out|apply qa|apply ia|apply ta)|exact HB.out)) hb);have Gb:=ja.mk (Pb);have Nb:=ja.mk ((by rw [hg];exact (Ka (by repeat (first|(with_reducible first|exact HB.out|apply qa|apply ia|apply ta)|exact HB.out))):w.heap.size ≤ ya));have Dc:=ja.mk ((by rw [hg];exact (Ka (by repeat (first|(with_reducible first|exact HB.out|apply qa|apply ia|apply ta)|exact HB.out))):w.heap.size ≤ ya));clear HB;have HB:=Bb;have oa:=Gb;have Ad:=Nb;have Ta:=Dc;clear Bb Gb Nb Dc hb Pb hg)|((with_reducible refine xb (N:=3) rfl ?_);refine Fb ?hg (N:=3) ?hd (cs:=#[.slice qf Nc.length jf,.int .i64 Qb,.int .i64 Jb,.int .i64 Kb,.slice tr cm.length nr]) (t:=30) ?hr ?_;(case hd=>rfl);(case hg=>rfl);(case hr=>first|(go_simp;done)|(go_simp;rfl));intro Ga hg kr Pb hb;have Bb:=ja.mk (Va (g:=ya) (o:=.cells #[.slice Za Ra.length gb,.int .i64 La,.int .i64 Ja,.int .i64 Ia,.slice Vb Fa.length Lb] 30 (0,0)) (by (with_reducible repeat (first|refine Aa ?_ _|refine Da ?_|refine Ba ?_ _));exact oa.out) hb);have Gb:=ja.mk (Qa (by repeat (first|(with_reducible first|exact HB.out|apply qa|apply ia|apply ta|refine ua ?_ Ta.out)|exact HB.out)) hb);have Nb:=ja.mk (Pb);have Dc:=ja.mk ((by rw [hg];exact (Ka (by repeat (first|(with_reducible first|exact HB.out|apply qa|apply ia|apply ta|refine ua ?_ Ta.out)|exact HB.out))):w.heap.size ≤ Ga));have Jf:=ja.mk ((by rw [hg];exact (Ka (by repeat (first|(with_reducible first|exact HB.out|apply qa|apply ia|apply ta|refine ua ?_ Ta.out)|exact HB.out))):w.heap.size ≤ Ga));have sg:=ja.mk ((by rw [hg];exact Nat.ne_of_lt (Rc (g:=ya) (o:=.cells #[.slice Za Ra.length gb,.int .i64 La,.int .i64 Ja,.int .i64 Ia,.slice Vb Fa.length Lb] 30 (0,0)) (by (with_reducible repeat (first|refine Aa ?_ _|refine Da ?_|refine Ba ?_ _));exact oa.out)):ya ≠ Ga));have Bg:=ja.mk ((by rw [hg];exact Nat.ne_of_gt (Rc (g:=ya) (o:=.cells #[.slice Za Ra.length gb,.int .i64 La,.int .i64 Ja,.int .i64 Ia,.slice Vb Fa.length Lb] 30 (0,0)) (by (with_reducible repeat (first|refine Aa ?_ _|refine Da ?_|refine Ba ?_ _));exact oa.out)):Ga ≠ ya));clear oa HB;have oa:=Bb;have HB:=Gb;have za:=Nb;have mj:=Dc;have uc:=Jf;have Db:=sg;have Cb:=Bg;clear Bb Gb Nb Dc Jf sg Bg hb Pb hg;have Dap:=Db.out;have Qao:=Cb.out;have bV:kr.cell? ⟨ya,0,none⟩=some (.slice Za Ra.length gb):=(ga oa.out 0).trans rfl;have aV:kr.cell? ⟨ya,1,none⟩=some (.int .i64 La):=(ga oa.out 1).trans rfl;have ZU:kr.cell? ⟨ya,2,none⟩=some (.int .i64 Ja):=(ga oa.out 2).trans rfl;have YU:kr.cell? ⟨ya,3,none⟩=some (.int .i64 Ia):=(ga oa.out 3).trans rfl;have XU:kr.cell? ⟨ya,4,none⟩=some (.slice Vb Fa.length Lb):=(ga oa.out 4).trans rfl;have WT:=aa oa.out 0;have VT:=aa oa.out 1;have UT:=aa oa.out 2;have TT:=aa oa.out 3;have RT:=aa oa.out 4;have WU:kr.cell? ⟨Ga,0,none⟩=some (.slice qf Nc.length jf):=(ga za.out 0).trans rfl;have VU:kr.cell? ⟨Ga,1,none⟩=some (.int .i64 Qb):=(ga za.out 1).trans rfl;have UU:kr.cell? ⟨Ga,2,none⟩=some (.int .i64 Jb):=(ga za.out 2).trans rfl;have TU:kr.cell? ⟨Ga,3,none⟩=some (.int .i64 Kb):=(ga za.out 3).trans rfl;have SU:kr.cell? ⟨Ga,4,none⟩=some (.slice tr cm.length nr):=(ga za.out 4).trans rfl;have QT:=aa za.out 0;have PT:=aa za.out 1;have OT:=aa za.out 2;have NT:=aa za.out 3;have MT:=aa za.out 4)|((with_reducible refine qb (f:=17) rfl ?_);refine Mc (some 9) rfl rfl Try.func17 (by kernel_rfl) rfl #[.slice Za Ra.length gb,.slice qf Nc.length jf] rfl (by (try simp only [List.map_toArray,List.map_cons,List.map_nil]);first|done|rfl|(simp only [List.length_drop,List.length_take];rfl)) ?_;(with_reducible refine (ld.calls k _ _ Ra _ _ Nc true _ ?Jc ?Ic ?Qd ?Pd A3.out).mono ?_);(case Jc=>repeat (first|exact (Kd.Mb He.out HB.out)|(with_reducible refine Kd.Tb ?_ _)|(with_reducible refine Kd.Sb ?_ _)|(with_reducible refine Kd.qc ?_)));(case Ic=>exact Me.out);(case Qd=>repeat (first|exact (Kd.Mb gn.out HB.out)|(with_reducible refine Kd.Tb ?_ _)|(with_reducible refine Kd.Sb ?_ _)|(with_reducible refine Kd.qc ?_)));(case Pd=>exact Bp.out);rintro e w' ⟨rfl,⟨nd,rfl⟩⟩;refine ⟨_,rfl,?_⟩)|((with_reducible refine qb (f:=52) rfl ?_);refine Mc (some 30) rfl rfl Try.func52 (by kernel_rfl) rfl #[.slice Vb Fa.length Lb,.slice tr cm.length nr] rfl (by (try simp only [List.map_toArray,List.map_cons,List.map_nil]);first|done|rfl|(simp only [List.length_drop,List.length_take];rfl)) ?_;(with_reducible refine (Bc.calls k _ _ Fa _ _ cm false _ ?Jc ?Ic ?Qd ?Pd A8.out).mono ?_);(case Jc=>repeat (first|exact (Kd.Mb Uf.out (by repeat (first|(with_reducible first|exact HB.out|apply qa|apply ia|apply ta|refine ua ?_ Ta.out|refine ua ?_ uc.out)|exact HB.out)))|(with_reducible refine Kd.Tb ?_ _)|(with_reducible refine Kd.Sb ?_ _)|(with_reducible refine Kd.qc ?_)));(case Ic=>exact Ug.out);(case Qd=>repeat (first|exact (Kd.Mb wX.out (by repeat (first|(with_reducible first|exact HB.out|apply qa|apply ia|apply ta|refine ua ?_ Ta.out|refine ua ?_ uc.out)|exact HB.out)))|(with_reducible refine Kd.Tb ?_ _)|(with_reducible refine Kd.Sb ?_ _)|(with_reducible refine Kd.qc ?_)));(case Pd=>exact PX.out);rintro e cr ⟨rfl,hb⟩;refine ⟨_,rfl,?_⟩;have Bb:=ja.mk (Va (g:=ya) (o:=.cells #[.slice Za Ra.length gb,.int .i64 La,.int .i64 Ja,.int .i64 Ia,.slice Vb Fa.length Lb] 30 (0,0)) (by (with_reducible repeat (first|refine Aa ?_ _|refine Da ?_|refine Ba ?_ _));exact oa.out) hb);have Gb:=ja.mk (Va (g:=Ga) (o:=.cells #[.slice qf Nc.length jf,.int .i64 Qb,.int .i64 Jb,.int .i64 Kb,.slice tr cm.length nr] 30 (0,0)) (by (with_reducible repeat (first|refine Aa ?_ _|refine Da ?_|refine Ba ?_ _));exact za.out) hb);have Nb:=ja.mk (Qa (by repeat (first|(with_reducible first|exact HB.out|apply qa|apply ia|apply ta|refine ua ?_ Ta.out|refine ua ?_ uc.out)|exact HB.out)) hb);clear oa za HB;have oa:=Bb;have za:=Gb;have HB:=Nb;clear Bb Gb Nb;(try clear hb);(try clear si);(try clear hk);(try clear hi)));go_ret;exact ⟨by first|rfl|(simp [Na,Ma] <;> rfl)|(simp [*,Na,Ma] <;> rfl),by repeat (first|(with_reducible first|exact HB.out|apply qa|apply ia|apply ta|refine ua ?_ Ta.out|refine ua ?_ uc.out)|exact HB.out)⟩
    ·rw [if_neg c7] at H;have Jj:(Ia == Kb)=false:=beq_eq_false_iff_ne.mpr c7;have Pp:(Ia != Kb)=true:=bne_iff_ne.mpr c7;obtain rfl:=Option.some.inj H;go_enter Try.func14,Try.ntmps14;go_wp2_with (first|((with_reducible refine xb (N:=2) rfl ?_);refine Fb ?hg (N:=2) ?hd (cs:=#[.slice Za Ra.length gb,.int .i64 La,.int .i64 Ja,.int .i64 Ia,.slice Vb Fa.length Lb]) (t:=30) ?hr ?_;(case hd=>rfl);(case hg=>rfl);(case hr=>first|(go_simp;done)|(go_simp;rfl));intro ya hg fC Pb hb;have Bb:=ja.mk (Qa (by repeat (first|(with_reducible first|exact HB.out|apply qa|apply ia|apply ta)|exact HB.out)) hb);have Gb:=ja.mk (Pb);have Nb:=ja.mk ((by rw [hg];exact (Ka (by repeat (first|(with_reducible first|exact HB.out|apply qa|apply ia|apply ta)|exact HB.out))):w.heap.size ≤ ya));have Dc:=ja.mk ((by rw [hg];exact (Ka (by repeat (first|(with_reducible first|exact HB.out|apply qa|apply ia|apply ta)|exact HB.out))):w.heap.size ≤ ya));clear HB;have HB:=Bb;have oa:=Gb;have Ad:=Nb;have Ta:=Dc;clear Bb Gb Nb Dc hb Pb hg)|((with_reducible refine xb (N:=3) rfl ?_);refine Fb ?hg (N:=3) ?hd (cs:=#[.slice qf Nc.length jf,.int .i64 Qb,.int .i64 Jb,.int .i64 Kb,.slice tr cm.length nr]) (t:=30) ?hr ?_;(case hd=>rfl);(case hg=>rfl);(case hr=>first|(go_simp;done)|(go_simp;rfl));intro Ga hg jr Pb hb;have Bb:=ja.mk (Va (g:=ya) (o:=.cells #[.slice Za Ra.length gb,.int .i64 La,.int .i64 Ja,.int .i64 Ia,.slice Vb Fa.length Lb] 30 (0,0)) (by (with_reducible repeat (first|refine Aa ?_ _|refine Da ?_|refine Ba ?_ _));exact oa.out) hb);have Gb:=ja.mk (Qa (by repeat (first|(with_reducible first|exact HB.out|apply qa|apply ia|apply ta|refine ua ?_ Ta.out)|exact HB.out)) hb);have Nb:=ja.mk (Pb);have Dc:=ja.mk ((by rw [hg];exact (Ka (by repeat (first|(with_reducible first|exact HB.out|apply qa|apply ia|apply ta|refine ua ?_ Ta.out)|exact HB.out))):w.heap.size ≤ Ga));have Jf:=ja.mk ((by rw [hg];exact (Ka (by repeat (first|(with_reducible first|exact HB.out|apply qa|apply ia|apply ta|refine ua ?_ Ta.out)|exact HB.out))):w.heap.size ≤ Ga));have sg:=ja.mk ((by rw [hg];exact Nat.ne_of_lt (Rc (g:=ya) (o:=.cells #[.slice Za Ra.length gb,.int .i64 La,.int .i64 Ja,.int .i64 Ia,.slice Vb Fa.length Lb] 30 (0,0)) (by (with_reducible repeat (first|refine Aa ?_ _|refine Da ?_|refine Ba ?_ _));exact oa.out)):ya ≠ Ga));have Bg:=ja.mk ((by rw [hg];exact Nat.ne_of_gt (Rc (g:=ya) (o:=.cells #[.slice Za Ra.length gb,.int .i64 La,.int .i64 Ja,.int .i64 Ia,.slice Vb Fa.length Lb] 30 (0,0)) (by (with_reducible repeat (first|refine Aa ?_ _|refine Da ?_|refine Ba ?_ _));exact oa.out)):Ga ≠ ya));clear oa HB;have oa:=Bb;have HB:=Gb;have za:=Nb;have mj:=Dc;have uc:=Jf;have Db:=sg;have Cb:=Bg;clear Bb Gb Nb Dc Jf sg Bg hb Pb hg;have F5:=Db.out;have W4:=Cb.out;have Wt:jr.cell? ⟨ya,0,none⟩=some (.slice Za Ra.length gb):=(ga oa.out 0).trans rfl;have Vt:jr.cell? ⟨ya,1,none⟩=some (.int .i64 La):=(ga oa.out 1).trans rfl;have Ut:jr.cell? ⟨ya,2,none⟩=some (.int .i64 Ja):=(ga oa.out 2).trans rfl;have Tt:jr.cell? ⟨ya,3,none⟩=some (.int .i64 Ia):=(ga oa.out 3).trans rfl;have St:jr.cell? ⟨ya,4,none⟩=some (.slice Vb Fa.length Lb):=(ga oa.out 4).trans rfl;have nt:=aa oa.out 0;have jt:=aa oa.out 1;have ct:=aa oa.out 2;have bt:=aa oa.out 3;have Zs:=aa oa.out 4;have Rt:jr.cell? ⟨Ga,0,none⟩=some (.slice qf Nc.length jf):=(ga za.out 0).trans rfl;have Qt:jr.cell? ⟨Ga,1,none⟩=some (.int .i64 Qb):=(ga za.out 1).trans rfl;have Pt:jr.cell? ⟨Ga,2,none⟩=some (.int .i64 Jb):=(ga za.out 2).trans rfl;have Ot:jr.cell? ⟨Ga,3,none⟩=some (.int .i64 Kb):=(ga za.out 3).trans rfl;have Nt:jr.cell? ⟨Ga,4,none⟩=some (.slice tr cm.length nr):=(ga za.out 4).trans rfl;have Ys:=aa za.out 0;have Xs:=aa za.out 1;have Ws:=aa za.out 2;have Vs:=aa za.out 3;have Us:=aa za.out 4)|((with_reducible refine qb (f:=17) rfl ?_);refine Mc (some 9) rfl rfl Try.func17 (by kernel_rfl) rfl #[.slice Za Ra.length gb,.slice qf Nc.length jf] rfl (by (try simp only [List.map_toArray,List.map_cons,List.map_nil]);first|done|rfl|(simp only [List.length_drop,List.length_take];rfl)) ?_;(with_reducible refine (ld.calls k _ _ Ra _ _ Nc true _ ?Jc ?Ic ?Qd ?Pd A3.out).mono ?_);(case Jc=>repeat (first|exact (Kd.Mb He.out HB.out)|(with_reducible refine Kd.Tb ?_ _)|(with_reducible refine Kd.Sb ?_ _)|(with_reducible refine Kd.qc ?_)));(case Ic=>exact Me.out);(case Qd=>repeat (first|exact (Kd.Mb gn.out HB.out)|(with_reducible refine Kd.Tb ?_ _)|(with_reducible refine Kd.Sb ?_ _)|(with_reducible refine Kd.qc ?_)));(case Pd=>exact Bp.out);rintro e w' ⟨rfl,⟨nd,rfl⟩⟩;refine ⟨_,rfl,?_⟩));go_ret;exact ⟨by first|rfl|(simp [Na,Ma] <;> rfl)|(simp [*,Na,Ma] <;> rfl),by repeat (first|(with_reducible first|exact HB.out|apply qa|apply ia|apply ta|refine ua ?_ Ta.out|refine ua ?_ uc.out)|exact HB.out)⟩
   ·rw [if_neg c6] at H;have Sm:(Ja == Jb)=false:=beq_eq_false_iff_ne.mpr c6;have Bz:(Ja != Jb)=true:=bne_iff_ne.mpr c6;obtain rfl:=Option.some.inj H;go_enter Try.func14,Try.ntmps14;go_wp2_with (first|((with_reducible refine xb (N:=2) rfl ?_);refine Fb ?hg (N:=2) ?hd (cs:=#[.slice Za Ra.length gb,.int .i64 La,.int .i64 Ja,.int .i64 Ia,.slice Vb Fa.length Lb]) (t:=30) ?hr ?_;(case hd=>rfl);(case hg=>rfl);(case hr=>first|(go_simp;done)|(go_simp;rfl));intro ya hg w27 Pb hb;have Bb:=ja.mk (Qa (by repeat (first|(with_reducible first|exact HB.out|apply qa|apply ia|apply ta)|exact HB.out)) hb);have Gb:=ja.mk (Pb);have Nb:=ja.mk ((by rw [hg];exact (Ka (by repeat (first|(with_reducible first|exact HB.out|apply qa|apply ia|apply ta)|exact HB.out))):w.heap.size ≤ ya));have Dc:=ja.mk ((by rw [hg];exact (Ka (by repeat (first|(with_reducible first|exact HB.out|apply qa|apply ia|apply ta)|exact HB.out))):w.heap.size ≤ ya));clear HB;have HB:=Bb;have oa:=Gb;have Ad:=Nb;have Ta:=Dc;clear Bb Gb Nb Dc hb Pb hg)|((with_reducible refine xb (N:=3) rfl ?_);refine Fb ?hg (N:=3) ?hd (cs:=#[.slice qf Nc.length jf,.int .i64 Qb,.int .i64 Jb,.int .i64 Kb,.slice tr cm.length nr]) (t:=30) ?hr ?_;(case hd=>rfl);(case hg=>rfl);(case hr=>first|(go_simp;done)|(go_simp;rfl));intro Ga hg vr Pb hb;have Bb:=ja.mk (Va (g:=ya) (o:=.cells #[.slice Za Ra.length gb,.int .i64 La,.int .i64 Ja,.int .i64 Ia,.slice Vb Fa.length Lb] 30 (0,0)) (by (with_reducible repeat (first|refine Aa ?_ _|refine Da ?_|refine Ba ?_ _));exact oa.out) hb);have Gb:=ja.mk (Qa (by repeat (first|(with_reducible first|exact HB.out|apply qa|apply ia|apply ta|refine ua ?_ Ta.out)|exact HB.out)) hb);have Nb:=ja.mk (Pb);have Dc:=ja.mk ((by rw [hg];exact (Ka (by repeat (first|(with_reducible first|exact HB.out|apply qa|apply ia|apply ta|refine ua ?_ Ta.out)|exact HB.out))):w.heap.size ≤ Ga));have Jf:=ja.mk ((by rw [hg];exact (Ka (by repeat (first|(with_reducible first|exact HB.out|apply qa|apply ia|apply ta|refine ua ?_ Ta.out)|exact HB.out))):w.heap.size ≤ Ga));have sg:=ja.mk ((by rw [hg];exact Nat.ne_of_lt (Rc (g:=ya) (o:=.cells #[.slice Za Ra.length gb,.int .i64 La,.int .i64 Ja,.int .i64 Ia,.slice Vb Fa.length Lb] 30 (0,0)) (by (with_reducible repeat (first|refine Aa ?_ _|refine Da ?_|refine Ba ?_ _));exact oa.out)):ya ≠ Ga));have Bg:=ja.mk ((by rw [hg];exact Nat.ne_of_gt (Rc (g:=ya) (o:=.cells #[.slice Za Ra.length gb,.int .i64 La,.int .i64 Ja,.int .i64 Ia,.slice Vb Fa.length Lb] 30 (0,0)) (by (with_reducible repeat (first|refine Aa ?_ _|refine Da ?_|refine Ba ?_ _));exact oa.out)):Ga ≠ ya));clear oa HB;have oa:=Bb;have HB:=Gb;have za:=Nb;have mj:=Dc;have uc:=Jf;have Db:=sg;have Cb:=Bg;clear Bb Gb Nb Dc Jf sg Bg hb Pb hg;have yap:=Db.out;have Mao:=Cb.out;have LU:vr.cell? ⟨ya,0,none⟩=some (.slice Za Ra.length gb):=(ga oa.out 0).trans rfl;have KU:vr.cell? ⟨ya,1,none⟩=some (.int .i64 La):=(ga oa.out 1).trans rfl;have JU:vr.cell? ⟨ya,2,none⟩=some (.int .i64 Ja):=(ga oa.out 2).trans rfl;have IU:vr.cell? ⟨ya,3,none⟩=some (.int .i64 Ia):=(ga oa.out 3).trans rfl;have GU:vr.cell? ⟨ya,4,none⟩=some (.slice Vb Fa.length Lb):=(ga oa.out 4).trans rfl;have zT:=aa oa.out 0;have yT:=aa oa.out 1;have xT:=aa oa.out 2;have wT:=aa oa.out 3;have vT:=aa oa.out 4;have Gt:vr.cell? ⟨Ga,0,none⟩=some (.slice qf Nc.length jf):=(ga za.out 0).trans rfl;have Ft:vr.cell? ⟨Ga,1,none⟩=some (.int .i64 Qb):=(ga za.out 1).trans rfl;have Et:vr.cell? ⟨Ga,2,none⟩=some (.int .i64 Jb):=(ga za.out 2).trans rfl;have Dt:vr.cell? ⟨Ga,3,none⟩=some (.int .i64 Kb):=(ga za.out 3).trans rfl;have Ct:vr.cell? ⟨Ga,4,none⟩=some (.slice tr cm.length nr):=(ga za.out 4).trans rfl;have Ms:=aa za.out 0;have Ls:=aa za.out 1;have Ks:=aa za.out 2;have Js:=aa za.out 3;have Hs:=aa za.out 4)|((with_reducible refine qb (f:=17) rfl ?_);refine Mc (some 9) rfl rfl Try.func17 (by kernel_rfl) rfl #[.slice Za Ra.length gb,.slice qf Nc.length jf] rfl (by (try simp only [List.map_toArray,List.map_cons,List.map_nil]);first|done|rfl|(simp only [List.length_drop,List.length_take];rfl)) ?_;(with_reducible refine (ld.calls k _ _ Ra _ _ Nc true _ ?Jc ?Ic ?Qd ?Pd A3.out).mono ?_);(case Jc=>repeat (first|exact (Kd.Mb He.out HB.out)|(with_reducible refine Kd.Tb ?_ _)|(with_reducible refine Kd.Sb ?_ _)|(with_reducible refine Kd.qc ?_)));(case Ic=>exact Me.out);(case Qd=>repeat (first|exact (Kd.Mb gn.out HB.out)|(with_reducible refine Kd.Tb ?_ _)|(with_reducible refine Kd.Sb ?_ _)|(with_reducible refine Kd.qc ?_)));(case Pd=>exact Bp.out);rintro e w' ⟨rfl,⟨nd,rfl⟩⟩;refine ⟨_,rfl,?_⟩));go_ret;exact ⟨by first|rfl|(simp [Na,Ma] <;> rfl)|(simp [*,Na,Ma] <;> rfl),by repeat (first|(with_reducible first|exact HB.out|apply qa|apply ia|apply ta|refine ua ?_ Ta.out|refine ua ?_ uc.out)|exact HB.out)⟩
  ·rw [if_neg c5] at H;have ki:(La == Qb)=false:=beq_eq_false_iff_ne.mpr c5;have Uu:(La != Qb)=true:=bne_iff_ne.mpr c5;obtain rfl:=Option.some.inj H;go_enter Try.func14,Try.ntmps14;go_wp2_with (first|((with_reducible refine xb (N:=2) rfl ?_);refine Fb ?hg (N:=2) ?hd (cs:=#[.slice Za Ra.length gb,.int .i64 La,.int .i64 Ja,.int .i64 Ia,.slice Vb Fa.length Lb]) (t:=30) ?hr ?_;(case hd=>rfl);(case hg=>rfl);(case hr=>first|(go_simp;done)|(go_simp;rfl));intro ya hg sO Pb hb;have Bb:=ja.mk (Qa (by repeat (first|(with_reducible first|exact HB.out|apply qa|apply ia|apply ta)|exact HB.out)) hb);have Gb:=ja.mk (Pb);have Nb:=ja.mk ((by rw [hg];exact (Ka (by repeat (first|(with_reducible first|exact HB.out|apply qa|apply ia|apply ta)|exact HB.out))):w.heap.size ≤ ya));have Dc:=ja.mk ((by rw [hg];exact (Ka (by repeat (first|(with_reducible first|exact HB.out|apply qa|apply ia|apply ta)|exact HB.out))):w.heap.size ≤ ya));clear HB;have HB:=Bb;have oa:=Gb;have Ad:=Nb;have Ta:=Dc;clear Bb Gb Nb Dc hb Pb hg)|((with_reducible refine xb (N:=3) rfl ?_);refine Fb ?hg (N:=3) ?hd (cs:=#[.slice qf Nc.length jf,.int .i64 Qb,.int .i64 Jb,.int .i64 Kb,.slice tr cm.length nr]) (t:=30) ?hr ?_;(case hd=>rfl);(case hg=>rfl);(case hr=>first|(go_simp;done)|(go_simp;rfl));intro Ga hg TJ Pb hb;have Bb:=ja.mk (Va (g:=ya) (o:=.cells #[.slice Za Ra.length gb,.int .i64 La,.int .i64 Ja,.int .i64 Ia,.slice Vb Fa.length Lb] 30 (0,0)) (by (with_reducible repeat (first|refine Aa ?_ _|refine Da ?_|refine Ba ?_ _));exact oa.out) hb);have Gb:=ja.mk (Qa (by repeat (first|(with_reducible first|exact HB.out|apply qa|apply ia|apply ta|refine ua ?_ Ta.out)|exact HB.out)) hb);have Nb:=ja.mk (Pb);have Dc:=ja.mk ((by rw [hg];exact (Ka (by repeat (first|(with_reducible first|exact HB.out|apply qa|apply ia|apply ta|refine ua ?_ Ta.out)|exact HB.out))):w.heap.size ≤ Ga));have Jf:=ja.mk ((by rw [hg];exact (Ka (by repeat (first|(with_reducible first|exact HB.out|apply qa|apply ia|apply ta|refine ua ?_ Ta.out)|exact HB.out))):w.heap.size ≤ Ga));have sg:=ja.mk ((by rw [hg];exact Nat.ne_of_lt (Rc (g:=ya) (o:=.cells #[.slice Za Ra.length gb,.int .i64 La,.int .i64 Ja,.int .i64 Ia,.slice Vb Fa.length Lb] 30 (0,0)) (by (with_reducible repeat (first|refine Aa ?_ _|refine Da ?_|refine Ba ?_ _));exact oa.out)):ya ≠ Ga));have Bg:=ja.mk ((by rw [hg];exact Nat.ne_of_gt (Rc (g:=ya) (o:=.cells #[.slice Za Ra.length gb,.int .i64 La,.int .i64 Ja,.int .i64 Ia,.slice Vb Fa.length Lb] 30 (0,0)) (by (with_reducible repeat (first|refine Aa ?_ _|refine Da ?_|refine Ba ?_ _));exact oa.out)):Ga ≠ ya));clear oa HB;have oa:=Bb;have HB:=Gb;have za:=Nb;have mj:=Dc;have uc:=Jf;have Db:=sg;have Cb:=Bg;clear Bb Gb Nb Dc Jf sg Bg hb Pb hg;have tap:=Db.out;have Hao:=Cb.out;have jM:TJ.cell? ⟨ya,0,none⟩=some (.slice Za Ra.length gb):=(ga oa.out 0).trans rfl;have iM:TJ.cell? ⟨ya,1,none⟩=some (.int .i64 La):=(ga oa.out 1).trans rfl;have gM:TJ.cell? ⟨ya,2,none⟩=some (.int .i64 Ja):=(ga oa.out 2).trans rfl;have fM:TJ.cell? ⟨ya,3,none⟩=some (.int .i64 Ia):=(ga oa.out 3).trans rfl;have eM:TJ.cell? ⟨ya,4,none⟩=some (.slice Vb Fa.length Lb):=(ga oa.out 4).trans rfl;have iL:=aa oa.out 0;have gL:=aa oa.out 1;have fL:=aa oa.out 2;have eL:=aa oa.out 3;have dL:=aa oa.out 4;have iA:TJ.cell? ⟨Ga,0,none⟩=some (.slice qf Nc.length jf):=(ga za.out 0).trans rfl;have gA:TJ.cell? ⟨Ga,1,none⟩=some (.int .i64 Qb):=(ga za.out 1).trans rfl;have fA:TJ.cell? ⟨Ga,2,none⟩=some (.int .i64 Jb):=(ga za.out 2).trans rfl;have eA:TJ.cell? ⟨Ga,3,none⟩=some (.int .i64 Kb):=(ga za.out 3).trans rfl;have dA:TJ.cell? ⟨Ga,4,none⟩=some (.slice tr cm.length nr):=(ga za.out 4).trans rfl;have Lz:=aa za.out 0;have Kz:=aa za.out 1;have Jz:=aa za.out 2;have Iz:=aa za.out 3;have Hz:=aa za.out 4)|((with_reducible refine qb (f:=17) rfl ?_);refine Mc (some 9) rfl rfl Try.func17 (by kernel_rfl) rfl #[.slice Za Ra.length gb,.slice qf Nc.length jf] rfl (by (try simp only [List.map_toArray,List.map_cons,List.map_nil]);first|done|rfl|(simp only [List.length_drop,List.length_take];rfl)) ?_;(with_reducible refine (ld.calls k _ _ Ra _ _ Nc true _ ?Jc ?Ic ?Qd ?Pd A3.out).mono ?_);(case Jc=>repeat (first|exact (Kd.Mb He.out HB.out)|(with_reducible refine Kd.Tb ?_ _)|(with_reducible refine Kd.Sb ?_ _)|(with_reducible refine Kd.qc ?_)));(case Ic=>exact Me.out);(case Qd=>repeat (first|exact (Kd.Mb gn.out HB.out)|(with_reducible refine Kd.Tb ?_ _)|(with_reducible refine Kd.Sb ?_ _)|(with_reducible refine Kd.qc ?_)));(case Pd=>exact Bp.out);rintro e w' ⟨rfl,⟨nd,rfl⟩⟩;refine ⟨_,rfl,?_⟩));go_ret;exact ⟨by first|rfl|(simp [Na,Ma] <;> rfl)|(simp [*,Na,Ma] <;> rfl),by repeat (first|(with_reducible first|exact HB.out|apply qa|apply ia|apply ta|refine ua ?_ Ta.out|refine ua ?_ uc.out)|exact HB.out)⟩
 ·replace c4:=Bool.eq_false_iff.mpr c4;subst c4;have H1:(some false)=some r:=by rw [if_neg (show ¬ (false=true) by decide)] at H;exact H
  clear H;have H:=H1;clear H1;obtain rfl:=Option.some.inj H;go_enter Try.func14,Try.ntmps14;go_wp2_with (first|((with_reducible refine xb (N:=2) rfl ?_);refine Fb ?hg (N:=2) ?hd (cs:=#[.slice Za Ra.length gb,.int .i64 La,.int .i64 Ja,.int .i64 Ia,.slice Vb Fa.length Lb]) (t:=30) ?hr ?_;(case hd=>rfl);(case hg=>rfl);(case hr=>first|(go_simp;done)|(go_simp;rfl));intro ya hg eS Pb hb;have Bb:=ja.mk (Qa (by repeat (first|(with_reducible first|exact HB.out|apply qa|apply ia|apply ta)|exact HB.out)) hb);have Gb:=ja.mk (Pb);have Nb:=ja.mk ((by rw [hg];exact (Ka (by repeat (first|(with_reducible first|exact HB.out|apply qa|apply ia|apply ta)|exact HB.out))):w.heap.size ≤ ya));have Dc:=ja.mk ((by rw [hg];exact (Ka (by repeat (first|(with_reducible first|exact HB.out|apply qa|apply ia|apply ta)|exact HB.out))):w.heap.size ≤ ya));clear HB;have HB:=Bb;have oa:=Gb;have Ad:=Nb;have Ta:=Dc;clear Bb Gb Nb Dc hb Pb hg)|((with_reducible refine xb (N:=3) rfl ?_);refine Fb ?hg (N:=3) ?hd (cs:=#[.slice qf Nc.length jf,.int .i64 Qb,.int .i64 Jb,.int .i64 Kb,.slice tr cm.length nr]) (t:=30) ?hr ?_;(case hd=>rfl);(case hg=>rfl);(case hr=>first|(go_simp;done)|(go_simp;rfl));intro Ga hg qC Pb hb;have Bb:=ja.mk (Va (g:=ya) (o:=.cells #[.slice Za Ra.length gb,.int .i64 La,.int .i64 Ja,.int .i64 Ia,.slice Vb Fa.length Lb] 30 (0,0)) (by (with_reducible repeat (first|refine Aa ?_ _|refine Da ?_|refine Ba ?_ _));exact oa.out) hb);have Gb:=ja.mk (Qa (by repeat (first|(with_reducible first|exact HB.out|apply qa|apply ia|apply ta|refine ua ?_ Ta.out)|exact HB.out)) hb);have Nb:=ja.mk (Pb);have Dc:=ja.mk ((by rw [hg];exact (Ka (by repeat (first|(with_reducible first|exact HB.out|apply qa|apply ia|apply ta|refine ua ?_ Ta.out)|exact HB.out))):w.heap.size ≤ Ga));have Jf:=ja.mk ((by rw [hg];exact (Ka (by repeat (first|(with_reducible first|exact HB.out|apply qa|apply ia|apply ta|refine ua ?_ Ta.out)|exact HB.out))):w.heap.size ≤ Ga));have sg:=ja.mk ((by rw [hg];exact Nat.ne_of_lt (Rc (g:=ya) (o:=.cells #[.slice Za Ra.length gb,.int .i64 La,.int .i64 Ja,.int .i64 Ia,.slice Vb Fa.length Lb] 30 (0,0)) (by (with_reducible repeat (first|refine Aa ?_ _|refine Da ?_|refine Ba ?_ _));exact oa.out)):ya ≠ Ga));have Bg:=ja.mk ((by rw [hg];exact Nat.ne_of_gt (Rc (g:=ya) (o:=.cells #[.slice Za Ra.length gb,.int .i64 La,.int .i64 Ja,.int .i64 Ia,.slice Vb Fa.length Lb] 30 (0,0)) (by (with_reducible repeat (first|refine Aa ?_ _|refine Da ?_|refine Ba ?_ _));exact oa.out)):Ga ≠ ya));clear oa HB;have oa:=Bb;have HB:=Gb;have za:=Nb;have mj:=Dc;have uc:=Jf;have Db:=sg;have Cb:=Bg;clear Bb Gb Nb Dc Jf sg Bg hb Pb hg;have m5:=Db.out;have P4:=Cb.out;have Vw:qC.cell? ⟨ya,0,none⟩=some (.slice Za Ra.length gb):=(ga oa.out 0).trans rfl;have Uw:qC.cell? ⟨ya,1,none⟩=some (.int .i64 La):=(ga oa.out 1).trans rfl;have Tw:qC.cell? ⟨ya,2,none⟩=some (.int .i64 Ja):=(ga oa.out 2).trans rfl;have Sw:qC.cell? ⟨ya,3,none⟩=some (.int .i64 Ia):=(ga oa.out 3).trans rfl;have Rw:qC.cell? ⟨ya,4,none⟩=some (.slice Vb Fa.length Lb):=(ga oa.out 4).trans rfl;have Dw:=aa oa.out 0;have Cw:=aa oa.out 1;have Bw:=aa oa.out 2;have Aw:=aa oa.out 3;have zw:=aa oa.out 4;have UL:qC.cell? ⟨Ga,0,none⟩=some (.slice qf Nc.length jf):=(ga za.out 0).trans rfl;have TL:qC.cell? ⟨Ga,1,none⟩=some (.int .i64 Qb):=(ga za.out 1).trans rfl;have SL:qC.cell? ⟨Ga,2,none⟩=some (.int .i64 Jb):=(ga za.out 2).trans rfl;have RL:qC.cell? ⟨Ga,3,none⟩=some (.int .i64 Kb):=(ga za.out 3).trans rfl;have QL:qC.cell? ⟨Ga,4,none⟩=some (.slice tr cm.length nr):=(ga za.out 4).trans rfl;have SK:=aa za.out 0;have RK:=aa za.out 1;have QK:=aa za.out 2;have PK:=aa za.out 3;have OK:=aa za.out 4)|((with_reducible refine qb (f:=17) rfl ?_);refine Mc (some 9) rfl rfl Try.func17 (by kernel_rfl) rfl #[.slice Za Ra.length gb,.slice qf Nc.length jf] rfl (by (try simp only [List.map_toArray,List.map_cons,List.map_nil]);first|done|rfl|(simp only [List.length_drop,List.length_take];rfl)) ?_;(with_reducible refine (ld.calls k _ _ Ra _ _ Nc false _ ?Jc ?Ic ?Qd ?Pd A3.out).mono ?_);(case Jc=>repeat (first|exact (Kd.Mb He.out HB.out)|(with_reducible refine Kd.Tb ?_ _)|(with_reducible refine Kd.Sb ?_ _)|(with_reducible refine Kd.qc ?_)));(case Ic=>exact Me.out);(case Qd=>repeat (first|exact (Kd.Mb gn.out HB.out)|(with_reducible refine Kd.Tb ?_ _)|(with_reducible refine Kd.Sb ?_ _)|(with_reducible refine Kd.qc ?_)));(case Pd=>exact Bp.out);rintro e w' ⟨rfl,⟨nd,rfl⟩⟩;refine ⟨_,rfl,?_⟩));go_ret;exact ⟨by first|rfl|(simp [Na,Ma] <;> rfl)|(simp [*,Na,Ma] <;> rfl),by repeat (first|(with_reducible first|exact HB.out|apply qa|apply ia|apply ta|refine ua ?_ Ta.out|refine ua ?_ uc.out)|exact HB.out)⟩
theorem Ev.pos {α:Type} {c:Prop} [Decidable c] {f g:Nat→Option α} {r:α} (h:c) (k:Ev f r):Ev (fun n=>if c then f n else g n) r:=Ev.congr (fun n=>if_pos h) k
theorem Ev.neg {α:Type} {c:Prop} [Decidable c] {f g:Nat→Option α} {r:α} (h:¬ c) (k:Ev g r):Ev (fun n=>if c then f n else g n) r:=Ev.congr (fun n=>if_neg h) k
theorem Ev.val {α β:Type} {a:α} {f:Nat→α→Option β} {r:β} (k:Ev (fun n=>f n a) r):Ev (fun n=>(some a).bind (f n)) r:=Ev.congr (fun n=>rfl) k
theorem Ev.here {α:Type} {o:Option α} {r:α} (h:o=some r):Ev (fun _=>o) r:=Ev.congr (fun n=>h) (Ev.now r)
theorem Ev.eq {α:Type} {g:Nat→Option α} {r r':α} (h:Ev g r) (h':Ev g r'):r=r':=by
 obtain ⟨K,h⟩:=h;obtain ⟨K',h'⟩:=h';have h1:=h (max K K') (by omega);rw [h' (max K K') (by omega)] at h1;exact (Option.some.inj h1).symm
theorem Ng {x:Int} (h:-9223372036854775808 ≤ x) (h':x ≤ 9223372036854775807):wrap64 x=x:=by
 unfold wrap64;omega
theorem Ke {i n:Nat} (h:i < n) (hn:n ≤ 9223372036854775807):wrap64 ((i:Int) + 1)=((i + 1:Nat):Int):=by
 rw [Ng (by omega) (by omega)];omega
theorem Yj {ρ:Type} {n:Nat} {r:ρ} (P:Nat→Prop) (hend:P n) (hstep:∀ i,i < n→P (i + 1)→P i):∀ i,i ≤ n→P i:=by
 have key:∀ d i,i + d=n→P i:=by
  intro d
  induction d with
  | zero =>
   intro i hi;have:i=n:=by omega
   exact this ▸ hend
  | succ d ih =>
   intro i hi;exact hstep i (by omega) (ih (i + 1) (by omega))
 intro i hi;exact key (n - i) i (by omega)
theorem BB {α:Type} {m:List α} {z:α} {i:Nat} (h:i < m.length):(m.take i ++ List.replicate (m.length - i) z).set i (m.getD i z)=m.take (i + 1) ++ List.replicate (m.length - (i + 1)) z:=by
 rw [List.set_append_right _ _ (by rw [List.length_take];omega),List.length_take,Nat.min_eq_left (by omega),Nat.sub_self];rw [show m.length - i=(m.length - (i + 1)) + 1 from by omega,List.replicate_succ,List.set_cons_zero,List.take_succ_eq_append_getElem h,List.append_assoc];simp [List.getD_eq_getElem?_getD,List.getElem?_eq_getElem h]
theorem OC {α:Type} {m:List α} {z:α}:m.take 0 ++ List.replicate (m.length - 0) z=List.replicate m.length z:=by simp
theorem CB {α:Type} {m:List α} {z:α}:m.take m.length ++ List.replicate (m.length - m.length) z=m:=by simp
theorem QO (l:List Int) (i:Nat):rd l (i:Int)=l.getD i 0:=rfl
def iota (m:Int) (n:Nat):List Int:=(List.range n).map fun (j:Nat)=>m + (j:Int)
theorem rj (m:Int) (n:Nat):(iota m n).length=n:=by simp [iota]
theorem LC {m:Int} {n i:Nat} (h:i < n):(iota m n).getD i 0=m + i:=by simp [iota,List.getD_eq_getElem?_getD,h]
theorem LG {α:Type} {m l:List α} {z:α} {i:Nat} (hl:l.length=m.length) (h:i < m.length):(m.take i ++ l.drop i).set i (m.getD i z)=m.take (i + 1) ++ l.drop (i + 1):=by
 rw [List.set_append_right _ _ (by rw [List.length_take];omega),List.length_take,Nat.min_eq_left (by omega),Nat.sub_self];rw [List.drop_eq_getElem_cons (by omega),List.set_cons_zero,List.take_succ_eq_append_getElem h,List.append_assoc];simp [List.getD_eq_getElem?_getD,List.getElem?_eq_getElem h]
theorem Av (a b c:Int):Zf.f a b c=some (Nj a b c):=by
 unfold Zf.f Nj
 by_cases h:a ≥ b
 ·rw [if_pos h];have h':b ≤ a:=h;simp [h']
 ·rw [if_neg h];have h':¬ b ≤ a:=h;simp [h']
theorem bO (l:List Int) (hl:l.length ≤ 35184372088832):Ev (fun k=>fe.f k l) l:=by
 refine Ev.congr (f:=fun k=>fe.l0 k l (List.replicate l.length 0) 0) (fun k=>?_) ?_
 ·unfold fe.f;rw [if_pos (by omega),if_pos (by omega)]
  rfl
 ·have key:=Yj (r:=l) (n:=l.length) (fun i=>Ev (fun k=>fe.l0 k l (l.take i ++ List.replicate (l.length - i) 0) (i:Int)) l) ?_ ?_ 0 (by omega)
  ·simpa using key
  ·refine Ev.step (fun k=>by rw [fe.l0]) ?_;refine Ev.neg (by omega) ?_;rw [CB];exact Ev.now l
  ·intro i hi h;refine Ev.step (fun k=>by rw [fe.l0]) ?_;refine Ev.pos (by omega) (Ev.pos (by omega) (Ev.pos (by simp;omega) ?_));rw [Ke hi (by omega),QO,Int.toNat_natCast,BB hi];exact h
theorem QC (l:List Int) (hl:l.length ≤ 9223372036854775807):Ev (fun k=>ld.f k l l) true:=by
 refine Ev.congr (f:=fun k=>ld.l0 k l l 0) (fun k=>?_) ?_
 ·unfold ld.f;rw [if_pos rfl]
 ·refine Yj (r:=true) (n:=l.length) (fun i=>Ev (fun k=>ld.l0 k l l (i:Int)) true) ?_ ?_ 0 (by omega)
  ·refine Ev.step (fun k=>by rw [ld.l0]) ?_;exact Ev.neg (by omega) (Ev.now _)
  ·intro i hi h;refine Ev.step (fun k=>by rw [ld.l0]) ?_;refine Ev.pos (by omega) (Ev.pos (by omega) (Ev.pos (by omega) (Ev.pos rfl ?_)));rw [Ke hi hl];exact h
theorem jS (l:List Int) (a:Int) (ha:0 ≤ a) (ha':a ≤ 1048576) (hl:l.length ≤ 9223372036854775807):∃ t,ah.f l a=some t∧t ≤ a∧(0 ≤ t→t + l.length=a):=by
 unfold ah.f;rw [Ng (by omega) (by omega)]
 split
 ·exact ⟨-1,rfl,by omega,by omega⟩
 ·exact ⟨_,rfl,by omega,by omega⟩
def um (x:Um):ye:=⟨x.f0,x.f1,x.f2,x.f3,x.f4,x.f5,x.f6⟩
theorem tH (l:List Um) (hl:l.length ≤ 4398046511104):Ev (fun k=>od.f k l) (l.map um):=by
 refine Ev.congr (f:=fun k=>od.l0 k l (List.replicate l.length Xr) 0) (fun k=>?_) ?_
 ·unfold od.f;rw [if_pos (by omega),if_pos (by omega)]
  rfl
 ·have key:=Yj (r:=l.map um) (n:=l.length) (fun i=>Ev (fun k=>od.l0 k l ((l.map um).take i ++ List.replicate ((l.map um).length - i) Xr) (i:Int)) (l.map um)) ?_ ?_ 0 (by omega)
  ·rw [OC,List.length_map] at key;exact key
  ·refine Ev.step (fun k=>by rw [od.l0]) ?_;refine Ev.neg (by omega) ?_;have e:=CB (m:=l.map um) (z:=Xr);rw [List.length_map] at e;rw [List.length_map,e];exact Ev.now _
  ·intro i hi h;refine Ev.step (fun k=>by rw [od.l0]) ?_;refine Ev.pos (by omega) (Ev.pos (by omega) ?_);unfold Ek.f;refine Ev.val (Ev.pos (by simp;omega) ?_)
   have hc:um (Fc l (i:Int))=(l.map um).getD i Xr:=by
    simp [Fc,List.getD_eq_getElem?_getD,hi]
   have hf:=BB (m:=l.map um) (z:=Xr) (i:=i) (by rw [List.length_map];exact hi);rw [← hc] at hf;rw [Ke hi (by omega),Int.toNat_natCast];have e:=hf ▸ h;exact e
theorem BH (l:List ye) (hl:l.length ≤ 9223372036854775807):Ev (fun k=>nc.f k l l) true:=by
 refine Ev.congr (f:=fun k=>nc.l0 k l l 0) (fun k=>?_) ?_
 ·unfold nc.f;rw [if_pos rfl]
 ·refine Yj (r:=true) (n:=l.length) (fun i=>Ev (fun k=>nc.l0 k l l (i:Int)) true) ?_ ?_ 0 (by omega)
  ·refine Ev.step (fun k=>by rw [nc.l0]) ?_;exact Ev.neg (by omega) (Ev.now _)
  ·intro i hi h;refine Ev.step (fun k=>by rw [nc.l0]) ?_;refine Ev.pos (by omega) (Ev.pos (by omega) (Ev.pos (by omega) ?_));unfold Bj.f;simp only [if_true];refine Ev.val (Ev.pos rfl ?_);rw [Ke hi hl];exact h
def Wx (l:List Um):Nat:=(l.map fun x=>x.f6.size).sum
def wN (l:List Um):Nat:=l.length + Wx l
def nY (l:List Wu):Nat:=l.length + (l.map fun x=>wN x.f0).sum
theorem tu {l:List Um} {i:Nat} (h:i < l.length):Fc l (i:Int)=l[i]:=by simp [Fc,List.getD_eq_getElem?_getD,h]
theorem Dp {l:List Wu} {i:Nat} (h:i < l.length):Vd l (i:Int)=l[i]:=by simp [Vd,List.getD_eq_getElem?_getD,h]
theorem vH (l:List Um) (a:Int) (ha:0 ≤ a) (ha':a ≤ 1048576) (hl:l.length ≤ 9223372036854775807) (ht:∀ x ∈ l,x.f6.size ≤ 9223372036854775807) :
  ∃ t,Ev (fun k=>Bd.f k l a) t∧t ≤ a∧(0 ≤ t→t + wN l=a):=by
 have key:=Yj (ρ:=Unit) (r:=()) (n:=l.length) (fun i=>∀ a:Int,0 ≤ a→a ≤ 1048576→∃ t,Ev (fun k=>Bd.l0 k l a (i:Int)) t∧t ≤ a∧(0 ≤ t→t + Wx (l.drop i)=a)) ?_ ?_ 0 (by omega)
 ·unfold Bd.f;rw [Ng (by omega) (by omega)]
  by_cases h:a - (l.length:Int) < 0
  ·exact ⟨-1,Ev.pos h (Ev.now _),by omega,by omega⟩
  ·obtain ⟨t,e1,e2,e3⟩:=key (a - l.length) (by omega) (by omega);refine ⟨t,Ev.neg h e1,by omega,fun h0=>?_⟩;have:=e3 h0;rw [List.drop_zero] at this;unfold wN;omega
 ·intro a h0 h1;refine ⟨a,?_,by omega,?_⟩
  ·refine Ev.step (fun k=>by rw [Bd.l0]) ?_;exact Ev.neg (by omega) (Ev.now _)
  ·intro _;rw [List.drop_length];simp [Wx]
 ·intro i hi ih a h0 h1;have hx:=ht l[i] (List.getElem_mem hi)
  have hd:Wx (l.drop i)=l[i].f6.size + Wx (l.drop (i + 1)):=by
   rw [List.drop_eq_getElem_cons hi];simp only [Wx,List.map_cons,List.sum_cons]
  by_cases h:a - (l[i].f6.size:Int) < 0
  ·refine ⟨-1,?_,by omega,by omega⟩;refine Ev.step (fun k=>by rw [Bd.l0]) ?_;refine Ev.pos (by omega) (Ev.pos (by omega) ?_);rw [tu hi];unfold Oh.f;rw [Ng (by omega) (by omega),if_pos h];exact Ev.val (Ev.pos (by decide) (Ev.now _))
  ·obtain ⟨t,e1,e2,e3⟩:=ih (a - l[i].f6.size) (by omega) (by omega);refine ⟨t,?_,by omega,fun hh=>by have:=e3 hh;omega⟩;refine Ev.step (fun k=>by rw [Bd.l0]) ?_;refine Ev.pos (by omega) (Ev.pos (by omega) ?_);rw [tu hi];unfold Oh.f;rw [Ng (by omega) (by omega),if_neg h];refine Ev.val (Ev.neg (by omega) ?_);rw [Ke hi hl];exact e1
theorem wH (l:List Wu) (a:Int) (ha:0 ≤ a) (ha':a ≤ 1048576) (hl:l.length ≤ 9223372036854775807) (ht:∀ x ∈ l,x.f0.length ≤ 9223372036854775807∧∀ y ∈ x.f0,y.f6.size ≤ 9223372036854775807) :
  ∃ t,Ev (fun k=>qd.f k l a) t∧t ≤ a∧(0 ≤ t→t + nY l=a):=by
 have key:=Yj (ρ:=Unit) (r:=()) (n:=l.length) (fun i=>∀ a:Int,0 ≤ a→a ≤ 1048576→∃ t,Ev (fun k=>qd.l0 k l a (i:Int)) t∧t ≤ a∧(0 ≤ t→t + ((l.drop i).map fun x=>wN x.f0).sum=a)) ?_ ?_ 0 (by omega)
 ·unfold qd.f;rw [Ng (by omega) (by omega)]
  by_cases h:a - (l.length:Int) < 0
  ·exact ⟨-1,Ev.pos h (Ev.now _),by omega,by omega⟩
  ·obtain ⟨t,e1,e2,e3⟩:=key (a - l.length) (by omega) (by omega);refine ⟨t,Ev.neg h e1,by omega,fun h0=>?_⟩;have:=e3 h0;rw [List.drop_zero] at this;unfold nY;omega
 ·intro a h0 h1;refine ⟨a,?_,by omega,?_⟩
  ·refine Ev.step (fun k=>by rw [qd.l0]) ?_;exact Ev.neg (by omega) (Ev.now _)
  ·intro _;rw [List.drop_length];simp
 ·intro i hi ih a h0 h1;have hx:=ht l[i] (List.getElem_mem hi)
  have hd:((l.drop i).map fun x=>wN x.f0).sum=wN l[i].f0 + ((l.drop (i + 1)).map fun x=>wN x.f0).sum:=by
   rw [List.drop_eq_getElem_cons hi];simp only [List.map_cons,List.sum_cons]
  obtain ⟨u,f1,f2,f3⟩:=vH l[i].f0 a h0 h1 hx.1 hx.2
  by_cases h:u < 0
  ·refine ⟨-1,?_,by omega,by omega⟩;refine Ev.step (fun k=>by rw [qd.l0]) ?_;refine Ev.pos (by omega) (Ev.pos (by omega) ?_);rw [Dp hi];unfold Ph.f;refine Ev.bind (Ev.bind f1 (Ev.pos h (Ev.now _))) ?_;exact Ev.pos (by decide) (Ev.now _)
  ·obtain ⟨t,e1,e2,e3⟩:=ih u (by omega) (by omega);have:=f3 (by omega);refine ⟨t,?_,by omega,fun hh=>by have:=e3 hh;omega⟩;refine Ev.step (fun k=>by rw [qd.l0]) ?_;refine Ev.pos (by omega) (Ev.pos (by omega) ?_);rw [Dp hi];unfold Ph.f;refine Ev.bind (Ev.bind f1 (Ev.neg h (Ev.now _))) ?_;refine Ev.neg (by omega) ?_;rw [Ke hi hl];exact e1
theorem mB {l:List Nat} {n:Nat} (h:n ∈ l):n ≤ l.sum:=by
 induction l with
 | nil=>cases h
 | cons a l ih =>
  rw [List.sum_cons];cases h with
  | head=>omega
  | tail _ h=>have:=ih h;omega
theorem KG {l:List Wu} {n:Nat} (h:nY l ≤ n):l.length ≤ n∧∀ x ∈ l,x.f0.length ≤ n:=by
 unfold nY at h;refine ⟨by omega,fun x hx=>?_⟩;have:wN x.f0 ≤ (l.map fun x=>wN x.f0).sum:=mB (List.mem_map.mpr ⟨x,hx,rfl⟩);unfold wN at this h;omega
theorem aJ (x0:List Int) (x1 x2 x3:Int) (x4:List Wu) (a:Int) (ha:0 ≤ a) (ha':a ≤ 1048576) (h0:x0.length ≤ 9223372036854775807) (hl:x4.length ≤ 9223372036854775807) (ht:∀ x ∈ x4,x.f0.length ≤ 9223372036854775807∧∀ y ∈ x.f0,y.f6.size ≤ 9223372036854775807) :
  ∃ t,Ev (fun k=>bh.f k x0 x1 x2 x3 x4 a) t∧t ≤ a∧(0 ≤ t→t + x0.length + nY x4=a):=by
 obtain ⟨t,e1,e2,e3⟩:=jS x0 a ha ha' h0;unfold bh.f;rw [e1];simp only [Option.bind_some]
 by_cases ht':t < 0
 ·exact ⟨-1,Ev.pos ht' (Ev.now _),by omega,by omega⟩
 ·obtain ⟨u,f1,f2,f3⟩:=wH x4 t (by omega) (by omega) hl ht
  by_cases hu:u < 0
  ·exact ⟨-1,Ev.neg ht' (Ev.bind f1 (Ev.pos hu (Ev.now _))),by omega,by omega⟩
  ·exact ⟨u,Ev.neg ht' (Ev.bind f1 (Ev.neg hu (Ev.now _))),by omega,fun _=>by have:=e3 (by omega);have:=f3 (by omega);omega⟩
def Vf (x:Wu):We:=⟨x.f0.map um,x.f1,x.f2,x.f3,x.f4⟩
theorem uH (l:List Wu) (hl:l.length ≤ 1048576) (hb:∀ x ∈ l,x.f0.length ≤ 1048576):Ev (fun k=>jd.f k l) (l.map Vf):=by
 refine Ev.congr (f:=fun k=>jd.l0 k l (List.replicate l.length wG) 0) (fun k=>?_) ?_
 ·unfold jd.f;rw [if_pos (by omega),if_pos (by omega)]
  rfl
 ·have key:=Yj (r:=l.map Vf) (n:=l.length) (fun i=>Ev (fun k=>jd.l0 k l ((l.map Vf).take i ++ List.replicate ((l.map Vf).length - i) wG) (i:Int)) (l.map Vf)) ?_ ?_ 0 (by omega)
  ·rw [OC,List.length_map] at key;exact key
  ·refine Ev.step (fun k=>by rw [jd.l0]) ?_;refine Ev.neg (by omega) ?_;have e:=CB (m:=l.map Vf) (z:=wG);rw [List.length_map] at e;rw [List.length_map,e];exact Ev.now _
  ·intro i hi h;refine Ev.step (fun k=>by rw [jd.l0]) ?_;refine Ev.pos (by omega) (Ev.pos (by omega) ?_);unfold Fk.f;have hx:=hb l[i] (List.getElem_mem hi);rw [Dp hi];refine Ev.bind (Ev.bind (tH l[i].f0 (by omega)) (Ev.now _)) ?_;refine Ev.pos (by simp;omega) ?_
   have hc:Vf l[i]=(l.map Vf).getD i wG:=by
    simp [List.getD_eq_getElem?_getD,hi]
   have hf:=BB (m:=l.map Vf) (z:=wG) (i:=i) (by rw [List.length_map];exact hi);rw [← hc] at hf;rw [Ke hi (by omega),Int.toNat_natCast];have e:=hf ▸ h;exact e
theorem Jg {l:List We} {i:Nat} (h:i < l.length):Oa l (i:Int)=l[i]:=by simp [Oa,List.getD_eq_getElem?_getD,h]
theorem uu {l:List ye} {i:Nat} (h:i < l.length):Ca l (i:Int)=l[i]:=by simp [Ca,List.getD_eq_getElem?_getD,h]
theorem CH (l:List We) (hl:l.length ≤ 9223372036854775807) (hb:∀ x ∈ l,x.f0.length ≤ 9223372036854775807):Ev (fun k=>Bc.f k l l) true:=by
 refine Ev.congr (f:=fun k=>Bc.l0 k l l 0) (fun k=>?_) ?_
 ·unfold Bc.f;rw [if_pos rfl]
 ·refine Yj (r:=true) (n:=l.length) (fun i=>Ev (fun k=>Bc.l0 k l l (i:Int)) true) ?_ ?_ 0 (by omega)
  ·refine Ev.step (fun k=>by rw [Bc.l0]) ?_;exact Ev.neg (by omega) (Ev.now _)
  ·intro i hi h;refine Ev.step (fun k=>by rw [Bc.l0]) ?_;refine Ev.pos (by omega) (Ev.pos (by omega) (Ev.pos (by omega) ?_));unfold Cj.f;rw [Jg hi];refine Ev.bind (Ev.bind (BH l[i].f0 (hb _ (List.getElem_mem hi))) (Ev.pos rfl (Ev.pos rfl (Ev.pos rfl (Ev.pos rfl (Ev.pos rfl (Ev.now _))))))) (Ev.pos rfl ?_);rw [Ke hi hl];exact h
theorem ZI (x0:List Int) (x1 x2 x3:Int) (x4:List Wu) (h0:x0.length ≤ 1048576) (hl:x4.length ≤ 1048576) (hb:∀ x ∈ x4,x.f0.length ≤ 1048576):Ev (fun k=>xg.f k x0 x1 x2 x3 x4) (x0,x1,x2,x3,x4.map Vf):=by
 unfold xg.f;exact Ev.bind (bO x0 (by omega)) (Ev.bind (uH x4 hl hb) (Ev.now _))
theorem dJ (x0:List Int) (x1 x2 x3:Int) (x4:List We) (h0:x0.length ≤ 9223372036854775807) (hl:x4.length ≤ 9223372036854775807) (hb:∀ x ∈ x4,x.f0.length ≤ 9223372036854775807):Ev (fun k=>Qh.f k x0 x1 x2 x3 x4 x0 x1 x2 x3 x4) true:=by
 unfold Qh.f;refine Ev.bind (QC x0 h0) ?_;refine Ev.pos rfl (Ev.pos rfl (Ev.pos rfl (Ev.pos rfl ?_)));exact Ev.bind (CH x4 hl hb) (Ev.pos rfl (Ev.now _))
end Go.Proofs.Ytkigbdceceeenaa.P
end
section
namespace Go.Proofs.Ytkigbdceceeenaa.P
open Go.RowKit Go.Proofs.Sa.Wb Go.Proofs.Sa.je Go.Proofs.Sa.Qf
set_option linter.unusedVariables false
set_option linter.unusedSimpArgs false
open Classical in
noncomputable def Cz (n:Nat) (p:Nat→Prop):Bool:=decide (∀ j,j < n→p j)
open Classical in
theorem lO {n:Nat} {p:Nat→Prop} (h:∀ j,j < n→p j):Cz n p=true:=by
 unfold Cz;exact decide_eq_true h
open Classical in
theorem OH {n:Nat} {p:Nat→Prop}:Cz n p=true ↔ ∀ j,j < n→p j:=by
 unfold Cz;exact decide_eq_true_iff
theorem FJ {n i:Nat} {p:Nat→Prop} (hi:i < n) (h:¬ p i):Cz n p=false:=by
 cases e:Cz n p with
 | false=>rfl
 | true=>exact absurd (OH.mp e i hi) h
theorem gJ {ρ:Type} {n:Nat} {R e:ρ} (p:Nat→Prop) (f:Nat→Nat→Option ρ) (hend:Ev (f n) R) (hyes:∀ i,i < n→p i→∀ r,Ev (f (i + 1)) r→Ev (f i) r) (hno:∀ i,i < n→¬ p i→Ev (f i) e):Ev (f 0) (bif Cz n p then R else e):=by
 have key:∀ d i,i + d=n→(∀ j,j < i→p j)→Ev (f i) (bif Cz n p then R else e):=by
  intro d
  induction d with
  | zero =>
   intro i hi h;have:i=n:=by omega
   subst this;rw [lO h];exact hend
  | succ d ih =>
   intro i hi h
   by_cases hp:p i
   ·refine hyes i (by omega) hp _ (ih (i + 1) (by omega) ?_);intro j hj
    by_cases hji:j=i
    ·rw [hji];exact hp
    ·exact h j (by omega)
   ·rw [FJ (by omega) hp];exact hno i (by omega) hp
 exact key n 0 (by omega) (fun j hj=>absurd hj (by omega))
theorem My {α:Type} (l:List α) (z:α) (q:α→Bool):Cz l.length (fun j=>q (l.getD j z)=true) = !(l.any fun x=>!q x):=by
 rw [Bool.eq_iff_iff,OH];simp only [Bool.not_eq_true',List.any_eq_false,Bool.not_eq_true',Bool.not_eq_false]
 constructor
 ·intro h x hx;obtain ⟨j,hj,rfl⟩:=List.mem_iff_getElem.mp hx;have:=h j hj;rw [List.getD_eq_getElem?_getD,List.getElem?_eq_getElem hj] at this
  simpa using this
 ·intro h j hj;have:=h l[j] (List.getElem_mem hj);rw [List.getD_eq_getElem?_getD,List.getElem?_eq_getElem hj]
  simpa using this
end Go.Proofs.Ytkigbdceceeenaa.P
end
section
namespace Go.Proofs.Ytkigbdceceeenaa.P
open Go.RowKit Go.Proofs.Sa.Wb Go.Proofs.Sa.je Go.Proofs.Sa.Qf
set_option linter.unusedVariables false
set_option linter.unusedSimpArgs false
theorem qB (a b c:Int):Xa.f a b c=some (Nj a b c):=by
 unfold Xa.f Nj
 by_cases h:a ≥ b
 ·rw [if_pos h];have h':b ≤ a:=h;simp [h']
 ·rw [if_neg h];have h':¬ b ≤ a:=h;simp [h']
theorem Ff (a b c:Int):Ev (fun _=>Xa.f a b c) (Nj a b c):=Ev.here (qB a b c)
theorem HZ (t:ByteArray):Ev (fun k=>Ee.f k ([(⟨#[61,61]⟩:ByteArray),(⟨#[60]⟩:ByteArray),(⟨#[38]⟩:ByteArray),(⟨#[43]⟩:ByteArray),(⟨#[45]⟩:ByteArray),(⟨#[42]⟩:ByteArray)]:List ByteArray) t) (nv t):=by
 refine ⟨8,fun k hk=>?_⟩;obtain ⟨m,rfl⟩:∃ m,k=m + 8:=⟨k - 8,by omega⟩;unfold Ee.f nv xI;simp only [Ee.l0,List.any_cons,List.any_nil]
 by_cases h0:t.toList=[61,61]
 ·simp [Rf,h0]
 by_cases h1:t.toList=[60]
 ·simp [Rf,h1,wrap64]
 by_cases h2:t.toList=[38]
 ·simp [Rf,h2,wrap64]
 by_cases h3:t.toList=[43]
 ·simp [Rf,h3,wrap64]
 by_cases h4:t.toList=[45]
 ·simp [Rf,h4,wrap64]
 by_cases h5:t.toList=[42]
 ·simp [Rf,h5,wrap64]
 simp [Rf,Ne.symm h0,Ne.symm h1,Ne.symm h2,Ne.symm h3,Ne.symm h4,Ne.symm h5,h0,h1,h2,h3,h4,h5,wrap64]
theorem PI (s d:Int):Nj d 0 (s - 1)=Dj s d:=by
 unfold Nj Dj;rw [Bool.eq_iff_iff];simp;omega
def xD (D A B C M:Bool) (o d a b n:Int) (t:ByteArray):Bool :=
 if o=0 then D && (a == 0 && b == 0)
 else if o=1 then D && (A && (b == 0 && n == 0))
 else if o=2 then D && (A && (B && (n == 0 && nv t)))
 else if o=3 then D && M
 else if o=4 then d == 0 && (M && C)
 else if o=5 then D && (a == 0 && (b == 0 && n == 0))
 else if o=6 then d == 0 && (A && (b == 0 && n == 0))
 else false
theorem Ev.Cx {b:Bool} {f:Nat→Option Bool} {r:Bool} (hf:b=true→Ev f r):Ev (fun n=>if b=true then f n else some false) (b && r):=by
 cases b with
 | true=>exact Ev.pos rfl (hf rfl)
 | false=>exact Ev.neg (by simp) (Ev.now _)
theorem Ev.CC {c:Prop} [Decidable c] {f:Nat→Option Bool} {r:Bool} (hf:c→Ev f r):Ev (fun n=>if c then f n else some false) (decide c && r):=by
 by_cases h:c
 ·rw [decide_eq_true h];exact Ev.pos h (hf h)
 ·rw [decide_eq_false h];exact Ev.neg h (Ev.now _)
section
variable {l0:List Int} {p v s:Int} {l4:List We} {o d a b c n:Int} {t:ByteArray}
theorem zH (D A B M:Bool) (x:Bool) (hs:0 ≤ s) (hs':s ≤ 1000):Ev (fun k=>jb.j1 k D A B M x l0 p v s l4 o d a b c n t) (!x && xD D A B (Dj s c) M o d a b n t):=by
 refine Ev.step (fun k=>by rw [jb.j1]) ?_;cases x with
 | true=>exact Ev.pos rfl (Ev.now _)
 | false =>
  refine Ev.neg (by simp) ?_;rw [Bool.not_false,Bool.true_and];unfold xD
  by_cases h0:o=0
  ·rw [if_pos h0];exact Ev.pos h0 (Ev.Cx fun _=>Ev.CC fun _=>Ev.now _)
  rw [if_neg h0];refine Ev.neg h0 ?_
  by_cases h1:o=1
  ·rw [if_pos h1];exact Ev.pos h1 (Ev.Cx fun _=>Ev.Cx fun _=>Ev.CC fun _=>Ev.now _)
  rw [if_neg h1];refine Ev.neg h1 ?_
  by_cases h2:o=2
  ·rw [if_pos h2];exact Ev.pos h2 (Ev.Cx fun _=>Ev.Cx fun _=>Ev.Cx fun _=>Ev.CC fun _=>Ev.bind (HZ t) (Ev.now _))
  rw [if_neg h2];refine Ev.neg h2 ?_
  by_cases h3:o=3
  ·rw [if_pos h3,if_pos h3];exact (Ev.Cx fun _=>Ev.now _)
  rw [if_neg h3,if_neg h3]
  by_cases h4:o=4
  ·rw [if_pos h4,if_pos h4];refine (Ev.CC fun _=>Ev.Cx fun _=>?_);rw [Ng (x:=s - 1) (by omega) (by omega),← PI];exact Ev.bind (Ff _ _ _) (Ev.now _)
  rw [if_neg h4,if_neg h4]
  by_cases h5:o=5
  ·rw [if_pos h5,if_pos h5];exact (Ev.Cx fun _=>Ev.CC fun _=>Ev.CC fun _=>Ev.now _)
  rw [if_neg h5,if_neg h5]
  by_cases h6:o=6
  ·rw [if_pos h6,if_pos h6];exact (Ev.CC fun _=>Ev.Cx fun _=>Ev.CC fun _=>Ev.now _)
  rw [if_neg h6,if_neg h6];exact Ev.now _
theorem Rm (M:Bool) (hM:M=((Dj s a || a == -1) && (Dj s b && Nj n 0 ((l0.length:Int) - 1)))) (hs:0 ≤ s) (hs':s ≤ 1000):Ev (fun k=>jb.j0 k (Dj s d) (Dj s a) (Dj s b) M l0 p v s l4 o d a b c n t) (Gk l0.length s o d a b c n t):=by
 refine Ev.step (fun k=>by rw [jb.j0]) ?_
 have key:∀ x:Bool,(x=if o=2 then (c != 0) else if t.toList=[] then (if o=4 then false else (c != 0)) else true)→Ev (fun k=>jb.j1 k (Dj s d) (Dj s a) (Dj s b) M x l0 p v s l4 o d a b c n t) (Gk l0.length s o d a b c n t):=by
  intro x hx
  have e:Gk l0.length s o d a b c n t=(!x && xD (Dj s d) (Dj s a) (Dj s b) (Dj s c) M o d a b n t):=by
   subst hM;subst hx;unfold Gk xD
   by_cases h0:o=0
   ·subst h0;rw [Bool.eq_iff_iff]
    by_cases ht:t.toList=[] <;> simp [ht]
    all_goals (constructor <;> intro h <;> simp_all)
   by_cases h1:o=1
   ·subst h1;rw [Bool.eq_iff_iff]
    by_cases ht:t.toList=[] <;> simp [ht]
    all_goals (constructor <;> intro h <;> simp_all)
   by_cases h2:o=2
   ·subst h2;rw [Bool.eq_iff_iff];simp
    constructor <;> intro h <;> simp_all
   by_cases h3:o=3
   ·subst h3;rw [Bool.eq_iff_iff]
    by_cases ht:t.toList=[] <;> simp [ht]
    all_goals (constructor <;> intro h <;> simp_all)
   by_cases h4:o=4
   ·subst h4;rw [Bool.eq_iff_iff]
    by_cases ht:t.toList=[] <;> simp [ht]
    all_goals (constructor <;> intro h <;> simp_all)
   by_cases h5:o=5
   ·subst h5;rw [Bool.eq_iff_iff]
    by_cases ht:t.toList=[] <;> simp [ht]
    all_goals (constructor <;> intro h <;> simp_all)
   by_cases h6:o=6
   ·subst h6;rw [Bool.eq_iff_iff]
    by_cases ht:t.toList=[] <;> simp [ht]
    all_goals (constructor <;> intro h <;> simp_all)
   simp [h0,h1,h2,h3,h4,h5,h6]
  rw [e];exact zH _ _ _ _ _ hs hs'
 by_cases h2:o=2
 ·exact Ev.pos h2 (Ev.neg (by omega) (key _ (by rw [if_pos h2])))
 ·refine Ev.neg h2 ?_
  by_cases ht:t.toList=([]:List UInt8)
  ·refine Ev.pos ht ?_
   by_cases h4:o=4
   ·exact Ev.pos h4 (key _ (by rw [if_neg h2,if_pos ht,if_pos h4]))
   ·exact Ev.neg h4 (key _ (by rw [if_neg h2,if_pos ht,if_neg h4]))
  ·exact Ev.neg ht (key _ (by rw [if_neg h2,if_neg ht]))
theorem DB (hs:0 ≤ s) (hs':s ≤ 1000) (hl:l0.length ≤ 1048576):Ev (fun k=>jb.f k l0 p v s l4 o d a b c n t) (Gk l0.length s o d a b c n t):=by
 unfold jb.f;rw [Ng (x:=s - 1) (by omega) (by omega),Ng (x:=(l0.length:Int) - 1) (by omega) (by omega)];refine Ev.bind (Ff _ _ _) (Ev.bind (Ff _ _ _) (Ev.bind (Ff _ _ _) ?_));simp only [PI];cases ha:Dj s a with
 | true =>
  refine Ev.pos rfl ?_;cases hb:Dj s b with
  | true=>exact Ev.pos rfl (Ev.bind (Ff _ _ _) (by have:=Rm (l0:=l0) (p:=p) (v:=v) (s:=s) (l4:=l4) (o:=o) (d:=d) (a:=a) (b:=b) (c:=c) (n:=n) (t:=t) (Nj n 0 ((l0.length:Int) - 1)) (by simp [ha,hb]) hs hs';rw [ha,hb] at this;exact this))
  | false=>exact Ev.neg (by simp) (by have:=Rm (l0:=l0) (p:=p) (v:=v) (s:=s) (l4:=l4) (o:=o) (d:=d) (a:=a) (b:=b) (c:=c) (n:=n) (t:=t) false (by simp [hb]) hs hs';rw [ha,hb] at this;exact this)
 | false =>
  refine Ev.neg (by simp) ?_
  by_cases h1:a = -1
  ·refine Ev.pos h1 ?_;cases hb:Dj s b with
   | true=>exact Ev.pos rfl (Ev.bind (Ff _ _ _) (by have:=Rm (l0:=l0) (p:=p) (v:=v) (s:=s) (l4:=l4) (o:=o) (d:=d) (a:=a) (b:=b) (c:=c) (n:=n) (t:=t) (Nj n 0 ((l0.length:Int) - 1)) (by simp [h1,hb]) hs hs';rw [ha,hb] at this;exact this))
   | false=>exact Ev.neg (by simp) (by have:=Rm (l0:=l0) (p:=p) (v:=v) (s:=s) (l4:=l4) (o:=o) (d:=d) (a:=a) (b:=b) (c:=c) (n:=n) (t:=t) false (by simp [hb]) hs hs';rw [ha,hb] at this;exact this)
  ·exact Ev.neg h1 (by have:=Rm (l0:=l0) (p:=p) (v:=v) (s:=s) (l4:=l4) (o:=o) (d:=d) (a:=a) (b:=b) (c:=c) (n:=n) (t:=t) false (by simp [ha,h1]) hs hs';rw [ha] at this;exact this)
theorem eJ (code:List ye) (j ba tg els:Int) (hs:0 ≤ s) (hs':s ≤ 1000) (hl:l0.length ≤ 1048576) (hl4:l4.length ≤ 1048576) (hc:code.length ≤ 1048576):Ev (fun k=>ic.f k l0 p v s l4 code j ba tg els) (ij l0.length s l4.length code j ba tg els):=by
 unfold ic.f;have key:=gJ (n:=code.length) (R:=(if j=0 then Nj tg 0 ((l4.length:Int) - 1) && ba == 0 && els == 0 else if j=1 then Nj tg 0 ((l4.length:Int) - 1) && Nj els 0 ((l4.length:Int) - 1) && Dj s ba else if j=2 then Dj s ba && tg == 0 && els == 0 else false)) (e:=false) (fun i=>wm l0.length s (code.getD i Xr)=true) (fun i k=>ic.l0 k (i:Int) l0 p v s l4 code j ba tg els) ?_ ?_ ?_
 ·have e:(bif Cz code.length (fun i=>wm l0.length s (code.getD i Xr)=true) then (if j=0 then Nj tg 0 ((l4.length:Int) - 1) && ba == 0 && els == 0 else if j=1 then Nj tg 0 ((l4.length:Int) - 1) && Nj els 0 ((l4.length:Int) - 1) && Dj s ba else if j=2 then Dj s ba && tg == 0 && els == 0 else false) else false)=ij l0.length s l4.length code j ba tg els:=by
   rw [My];unfold ij;rw [decide_eq_true hs,Bool.and_true];cases (!(code.any fun x=>!wm l0.length s x)) <;> rfl
  rw [e] at key;exact key
 ·refine Ev.step (fun k=>by rw [ic.l0]) (Ev.neg (by omega) ?_);rw [Ng (x:=s - 1) (by omega) (by omega),Ng (x:=(l4.length:Int) - 1) (by omega) (by omega)];refine Ev.bind (Ff _ _ _) (Ev.bind (Ff _ _ _) ?_);rw [PI s ba]
  by_cases h0:j=0
  ·rw [if_pos h0,if_pos h0,Bool.and_assoc];exact Ev.Cx fun _=>Ev.CC fun _=>Ev.now _
  rw [if_neg h0,if_neg h0]
  by_cases h1:j=1
  ·rw [if_pos h1,if_pos h1,Bool.and_assoc,Bool.and_comm (Nj els 0 ((l4.length:Int) - 1))];exact Ev.Cx fun _=>Ev.Cx fun _=>Ev.bind (Ff _ _ _) (Ev.now _)
  rw [if_neg h1,if_neg h1]
  by_cases h2:j=2
  ·rw [if_pos h2,if_pos h2,Bool.and_assoc];exact Ev.Cx fun _=>Ev.CC fun _=>Ev.now _
  rw [if_neg h2,if_neg h2];exact Ev.now _
 ·intro i hi hp r hr;refine Ev.step (fun k=>by rw [ic.l0]) (Ev.pos (by omega) (Ev.pos (by omega) ?_));refine Ev.bind (DB hs hs' hl) ?_;have hq:Gk l0.length s (Ca code (i:Int)).f0 (Ca code (i:Int)).f1 (Ca code (i:Int)).f2 (Ca code (i:Int)).f3 (Ca code (i:Int)).f4 (Ca code (i:Int)).f5 (Ca code (i:Int)).f6=true:=hp;refine Ev.pos hq ?_;rw [Ke hi (by omega)];exact hr
 ·intro i hi hp;refine Ev.step (fun k=>by rw [ic.l0]) (Ev.pos (by omega) (Ev.pos (by omega) ?_));refine Ev.bind (DB hs hs' hl) ?_;exact Ev.neg hp (Ev.now _)
end
def Jd (l:List We):Nat:=(l.map fun x=>x.f0.length).sum
def xy (l0:List Int) (p v s:Int) (n4:Nat):Bool:=Cu l0 p v && Nj s v 1000 && Nj (n4:Int) 1 300
def Lo (l0:List Int) (s:Int) (l4:List We) (x:We):Bool:=ij l0.length s l4.length x.f0 x.f1 x.f2 x.f3 x.f4
def Tl (l0:List Int) (p v s:Int) (l4:List We):Bool:=xy l0 p v s l4.length && (!(l4.any fun x=>!Lo l0 s l4 x) && decide (Jd l4 ≤ 1000))
theorem jv (l:List We) (i:Nat) (h:i < l.length):Jd (l.take (i + 1))=Jd (l.take i) + l[i].f0.length:=by
 unfold Jd;rw [List.take_succ_eq_append_getElem h,List.map_append,List.sum_append];simp
theorem XA (l:List Nat) (i:Nat):(l.take i).sum ≤ l.sum:=by
 conv=>rhs;rw [← List.take_append_drop i l]
 rw [List.sum_append];omega
theorem YA (l:List We) (i:Nat):Jd (l.take i) ≤ Jd l:=by
 unfold Jd;rw [List.map_take];exact XA _ _
theorem uy {l0:List Int} {p v s:Int} {n4:Nat} (h:xy l0 p v s n4=true):1 ≤ l0.length∧l0.length ≤ 4∧0 ≤ p∧p ≤ v∧p ≤ 6∧v ≤ 20∧v ≤ s∧s ≤ 1000∧1 ≤ n4∧n4 ≤ 300:=by
 unfold xy Cu Nj at h;simp only [Bool.and_eq_true,decide_eq_true_eq] at h;obtain ⟨⟨⟨⟨⟨⟨h1,h2⟩,_⟩,h3,h4⟩,h5⟩,h6,h7⟩,h8,h9⟩:=h
 split at h4 <;> omega
section
variable {l0:List Int} {p v s:Int} {l4:List We}
theorem Ru (h0:l0.length ≤ 1048576) (hl4:l4.length ≤ 1048576) (ht:Jd l4 ≤ 1048576):Ev (fun k=>Xb.f k l0 p v s l4) (Tl l0 p v s l4):=by
 unfold Xb.f ig.f;simp only [List.length_nil,if_true];refine Ev.val ?_
 have no:∀ {r:Bool},r=false→Ev (fun k=>Xb.j0 k true l0 p v s l4) r:=by
  intro r hr;subst hr;exact Ev.step (fun k=>by rw [Xb.j0]) (Ev.pos rfl (Ev.now _))
 unfold Tl xy;cases hp:Cu l0 p v with
 | false=>exact Ev.neg (by simp) (no (by simp))
 | true =>
  refine Ev.pos rfl (Ev.bind (Ev.here (Av _ _ _)) ?_);cases hv:Nj s v 1000 with
  | false=>exact Ev.neg (by simp) (no (by simp))
  | true =>
   refine Ev.pos rfl (Ev.bind (Ev.here (Av _ _ _)) ?_);cases hn:Nj (l4.length:Int) 1 300 with
   | false=>exact no (by simp)
   | true =>
    refine Ev.step (fun k=>by rw [Xb.j0]) (Ev.neg (by simp) ?_);simp only [Bool.true_and];have key:=gJ (n:=l4.length) (R:=decide (Jd l4 ≤ 1000)) (e:=false) (fun i=>Lo l0 s l4 (l4.getD i wG)=true) (fun i k=>Xb.l0 k (Jd (l4.take i):Int) l4 (l4.length:Int) (i:Int) l0 p v s l4) ?_ ?_ ?_
    ·have e:(bif Cz l4.length (fun i=>Lo l0 s l4 (l4.getD i wG)=true) then decide (Jd l4 ≤ 1000) else false)=(!(l4.any fun x=>!Lo l0 s l4 x) && decide (Jd l4 ≤ 1000)):=by
      rw [My];cases (!(l4.any fun x=>!Lo l0 s l4 x)) <;> rfl
     rw [e] at key
     simpa [Jd] using key
    ·refine Ev.step (fun k=>by rw [Xb.l0]) (Ev.neg (by omega) ?_);rw [List.take_length]
     have e:decide ((Jd l4:Int) ≤ 1000)=decide (Jd l4 ≤ 1000):=by
      rw [Bool.eq_iff_iff,decide_eq_true_iff,decide_eq_true_iff];omega
     rw [e];exact Ev.now _
    ·intro i hi hq r hr;refine Ev.step (fun k=>by rw [Xb.l0]) (Ev.pos (by omega) (Ev.pos (by omega) (Ev.pos (by omega) ?_)));unfold Sh.f;have hq':ij l0.length s l4.length (Oa l4 (i:Int)).f0 (Oa l4 (i:Int)).f1 (Oa l4 (i:Int)).f2 (Oa l4 (i:Int)).f3 (Oa l4 (i:Int)).f4=true:=hq;refine Ev.val (Ev.pos hq' ?_);have h1:=jv l4 i hi;have h2:=YA l4 (i + 1);rw [Jg hi,Ke hi (by omega),Ng (x:=(Jd (l4.take i):Int) + (l4[i].f0.length:Int)) (by omega) (by omega),show (Jd (l4.take i):Int) + (l4[i].f0.length:Int)=(Jd (l4.take (i + 1)):Int) from by omega];exact hr
    ·intro i hi hq;refine Ev.step (fun k=>by rw [Xb.l0]) (Ev.pos (by omega) (Ev.pos (by omega) (Ev.pos (by omega) ?_)));unfold Sh.f;exact Ev.val (Ev.neg hq (Ev.now _))
theorem Su (h0:l0.length ≤ 1048576) (hl4:l4.length ≤ 1048576) (ht:Jd l4 ≤ 1048576):Ev (fun k=>Wa.f k l0 p v s l4) (Tl l0 p v s l4):=by
 unfold Wa.f
 have no:∀ {r:Bool},r=false→Ev (fun k=>Wa.j1 k true l0 p v s l4) r:=by
  intro r hr;subst hr;exact Ev.step (fun k=>by rw [Wa.j1]) (Ev.pos rfl (Ev.now _))
 have key:=gJ (n:=l0.length) (R:=Nj (l0.length:Int) 1 4 && (Nj v 0 20 && (Nj p 0 6 && (decide (p ≤ v) && (Nj s v 1000 && (Nj (l4.length:Int) 1 300 && (!(l4.any fun x=>!Lo l0 s l4 x) && decide (Jd l4 ≤ 1000)))))))) (e:=false) (fun i=>Nj (l0.getD i 0) 1 16=true) (fun i k=>Wa.l0 k (i:Int) l0 p v s l4) ?_ ?_ ?_
 ·have e:(bif Cz l0.length (fun i=>Nj (l0.getD i 0) 1 16=true) then (Nj (l0.length:Int) 1 4 && (Nj v 0 20 && (Nj p 0 6 && (decide (p ≤ v) && (Nj s v 1000 && (Nj (l4.length:Int) 1 300 && (!(l4.any fun x=>!Lo l0 s l4 x) && decide (Jd l4 ≤ 1000)))))))) else false)=Tl l0 p v s l4:=by
   rw [My l0 0 (fun x=>Nj x 1 16)];unfold Tl xy Cu;rw [Bool.eq_iff_iff];cases (!(l0.any fun x=>!Nj x 1 16))
   ·simp
   ·simp only [cond_true,Bool.and_eq_true,Nj,decide_eq_true_eq,and_assoc,true_and]
    constructor
    ·rintro ⟨h1,h2,h3,h4,h5,h6,h7,h8⟩;refine ⟨h1,h2,h5,?_,h4,h8⟩
     split <;> omega
    ·rintro ⟨h1,h2,h5,h6,h4,h7,h8,h9⟩;refine ⟨h1,h2,?_⟩
     split at h6 <;> exact ⟨by omega,by omega,by omega,by omega,by omega,h7,h8,h9⟩
  rw [e] at key;exact key
 ·refine Ev.step (fun k=>by rw [Wa.l0]) (Ev.neg (by omega) ?_);refine Ev.bind (Ff _ _ _) ?_;cases hb0:Nj (l0.length:Int) 1 4 with
  | false=>exact Ev.neg (by simp) (no (by simp))
  | true =>
   refine Ev.pos rfl (Ev.bind (Ff _ _ _) ?_);cases wz:Nj v 0 20 with
   | false=>exact Ev.neg (by simp) (no (by simp))
   | true =>
    refine Ev.pos rfl (Ev.bind (Ff _ _ _) ?_);cases si:Nj p 0 6 with
    | false=>exact Ev.neg (by simp) (no (by simp))
    | true =>
     refine Ev.pos rfl ?_
     by_cases hpv:p > v
     ·refine Ev.pos hpv (no ?_);rw [decide_eq_false (show ¬ p ≤ v from by omega)];simp
     ·refine Ev.neg hpv (Ev.bind (Ff _ _ _) ?_);rw [decide_eq_true (show p ≤ v from by omega)];cases hb3:Nj s v 1000 with
      | false=>exact Ev.neg (by simp) (no (by simp))
      | true =>
       refine Ev.pos rfl (Ev.bind (Ff _ _ _) ?_);cases F3:Nj (l4.length:Int) 1 300 with
       | false=>exact no (by simp)
       | true =>
        refine Ev.step (fun k=>by rw [Wa.j1]) (Ev.neg (by simp) ?_);simp only [Bool.true_and];have hs0:0 ≤ s∧s ≤ 1000:=by simp [Nj] at wz hb3;omega
        have key:=Yj (r:=true) (n:=l4.length) (fun i=>Jd (l4.take i) ≤ 1000→Ev (fun k=>Wa.l1 k (Jd (l4.take i):Int) (i:Int) l0 p v s l4) (!((l4.drop i).any fun x=>!Lo l0 s l4 x) && decide (Jd l4 ≤ 1000))) ?_ ?_ 0 (by omega) (by simp [Jd])
        ·rw [List.drop_zero] at key
         simpa [Jd] using key
        ·intro h;rw [List.take_length] at h;refine Ev.step (fun k=>by rw [Wa.l1]) (Ev.neg (by omega) ?_);rw [List.drop_length,decide_eq_true h];exact Ev.now _
        ·intro i hi ih h;have h1:=jv l4 i hi;have h2:=YA l4 (i + 1);refine Ev.step (fun k=>by rw [Wa.l1]) (Ev.pos (by omega) (Ev.pos (by omega) ?_));rw [Jg hi,Ng (x:=(Jd (l4.take i):Int) + (l4[i].f0.length:Int)) (by omega) (by omega),show (Jd (l4.take i):Int) + (l4[i].f0.length:Int)=(Jd (l4.take (i + 1)):Int) from by omega]
         have hd:((l4.drop i).any fun x=>!Lo l0 s l4 x)=(!Lo l0 s l4 l4[i] || (l4.drop (i + 1)).any fun x=>!Lo l0 s l4 x):=by
          rw [List.drop_eq_getElem_cons hi,List.any_cons]
         rw [hd]
         by_cases hgt:(Jd (l4.take (i + 1)):Int) > 1000
         ·rw [decide_eq_false (show ¬ Jd l4 ≤ 1000 from by omega),Bool.and_false];exact Ev.pos hgt (Ev.now _)
         ·refine Ev.neg hgt (Ev.bind (eJ _ _ _ _ _ hs0.1 hs0.2 h0 hl4 (by omega)) ?_);cases hq:Lo l0 s l4 l4[i] with
          | false =>
           have hq':¬ ij l0.length s l4.length l4[i].f0 l4[i].f1 l4[i].f2 l4[i].f3 l4[i].f4=true:=by
            have e:ij l0.length s l4.length l4[i].f0 l4[i].f1 l4[i].f2 l4[i].f3 l4[i].f4=false:=hq;rw [e];simp
           exact Ev.neg hq' (Ev.now _)
          | true =>
           have hq':ij l0.length s l4.length l4[i].f0 l4[i].f1 l4[i].f2 l4[i].f3 l4[i].f4=true:=hq;refine Ev.pos hq' ?_;rw [Ke hi (by omega),Bool.not_true,Bool.false_or];exact ih (by omega)
 ·intro i hi hq r hr;refine Ev.step (fun k=>by rw [Wa.l0]) (Ev.pos (by omega) (Ev.pos (by omega) ?_));refine Ev.bind (Ff _ _ _) (Ev.pos hq ?_);rw [Ke hi (by omega)];exact hr
 ·intro i hi hq;refine Ev.step (fun k=>by rw [Wa.l0]) (Ev.pos (by omega) (Ev.pos (by omega) ?_));exact Ev.bind (Ff _ _ _) (Ev.neg hq (Ev.now _))
end
end Go.Proofs.Ytkigbdceceeenaa.P
end
section
namespace Go.Proofs.Ytkigbdceceeenaa.P
open Go.RowKit Go.Proofs.Sa.Wb Go.Proofs.Sa.je Go.Proofs.Sa.Qf
set_option linter.unusedVariables false
set_option linter.unusedSimpArgs false
theorem bq {l:List Int} {j:Nat} (hj:j < l.length):rd l (j:Int)=l[j]:=by simp [rd,List.getD_eq_getElem?_getD,hj]
def rH (b:We):List Int:=if b.f1=0 then [b.f3] else if b.f1=1 then [b.f3,b.f4] else []
theorem CN (b:We):jk.f b.f0 b.f1 b.f2 b.f3 b.f4=some (rH b):=by
 unfold jk.f rH
 by_cases h0:b.f1=0
 ·rw [if_pos h0,if_pos h0]
 ·rw [if_neg h0,if_neg h0]
  by_cases h1:b.f1=1
  ·rw [if_pos h1,if_pos h1]
  ·rw [if_neg h1,if_neg h1]
theorem BN (b:We):Aj.f b.f0 b.f1 b.f2 b.f3 b.f4=some (rH b):=by
 unfold Aj.f rH
 by_cases h0:b.f1=0
 ·rw [if_pos h0,if_pos h0]
 ·rw [if_neg h0,if_neg h0]
  by_cases h1:b.f1=1
  ·rw [if_pos h1,if_pos h1]
  ·rw [if_neg h1,if_neg h1]
theorem qH (b:We):(rH b).length ≤ 2:=by
 unfold rH
 by_cases h0:b.f1=0
 ·rw [if_pos h0];simp
 ·rw [if_neg h0]
  by_cases h1:b.f1=1
  ·rw [if_pos h1];simp
  ·rw [if_neg h1];simp
def Ip (bs:List We) (i:Nat):List Int:=rH (Oa bs (i:Int))
def Ox (bs:List We):Prop:=0 < bs.length∧bs.length ≤ 1048576∧∀ i,i < bs.length→∀ j ∈ Ip bs i,0 ≤ j∧j < (bs.length:Int)
theorem pJ {l0:List Int} {p v s:Int} {bs:List We} (h:Tl l0 p v s bs=true):Ox bs:=by
 unfold Tl at h;simp only [Bool.and_eq_true] at h;obtain ⟨h1,h2,-⟩:=h;have hh:=uy h1;refine ⟨by omega,by omega,fun i hi j hj=>?_⟩
 have hb:Lo l0 s bs bs[i]=true:=by
  simp only [Bool.not_eq_true',List.any_eq_false] at h2;have:=h2 _ (List.getElem_mem hi)
  simpa using this
 unfold Lo ij at hb;simp only [Bool.and_eq_true] at hb;obtain ⟨-,hb⟩:=hb;unfold Ip at hj;rw [Jg hi] at hj;unfold rH at hj
 by_cases h0:bs[i].f1=0
 ·rw [if_pos h0] at hj hb;simp only [Bool.and_eq_true,Nj,decide_eq_true_eq] at hb;rw [List.mem_singleton] at hj;subst hj;omega
 ·rw [if_neg h0] at hj hb
  by_cases h1:bs[i].f1=1
  ·rw [if_pos h1] at hj hb;simp only [Bool.and_eq_true,Nj,decide_eq_true_eq] at hb;simp only [List.mem_cons,List.not_mem_nil,or_false] at hj
   rcases hj with hj|hj <;> subst hj <;> omega
  ·rw [if_neg h1] at hj;cases hj
def seen (s:List Bool) (j:Nat):Bool:=s.getD j false
theorem vv (s:List Bool) (j:Nat):Rf false s (j:Int)=seen s j:=rfl
theorem Zr {s:List Bool} {j:Nat} (h:seen s j=true):j < s.length:=by
 unfold seen at h
 rcases Nat.lt_or_ge j s.length with h'|h'
 ·exact h'
 ·rw [List.getD_eq_getElem?_getD,List.getElem?_eq_none h'] at h;simp at h
def news (s:List Bool):Nat:=s.count false
def Shut (nx:Nat→List Int) (s:List Bool) (q:List Int) (i:Nat):Prop:=∀ j,seen s j=true→(j:Int) ∉ q→j ≠ i→∀ m ∈ nx j,seen s m.toNat=true
theorem MG {s t:List Bool} (hl:s.length=t.length) (h:∀ j,seen s j=true ↔ seen t j=true):s=t:=by
 apply List.ext_getElem hl;intro i h1 h2;have:=h i;unfold seen at this;rw [List.getD_eq_getElem?_getD,List.getElem?_eq_getElem h1,List.getD_eq_getElem?_getD,List.getElem?_eq_getElem h2] at this;simp only [Option.getD_some] at this;exact Bool.eq_iff_iff.mpr this
theorem FC (n j:Nat):seen (List.replicate n false) j=false:=by
 unfold seen;rw [List.getD_eq_getElem?_getD,List.getElem?_replicate]
 by_cases h:j < n
 ·rw [if_pos h];rfl
 ·rw [if_neg h];rfl
def Ah (x:ye):List Int :=
 if x.f0=1 ∨ x.f0=6 then [x.f2] else if x.f0=2 then [x.f2,x.f3] else if x.f0=3 ∨ x.f0=4 then [x.f3] ++ (if 0 ≤ x.f2 then [x.f2] else []) ++ (if x.f0=4 then [x.f4] else []) else []
def kB (x:ye):Int:=if x.f0=4 then -1 else if x.f0=6 then -1 else x.f1
def rB (n:Nat) (x:ye):Prop:=(∀ u ∈ Ah x,0 ≤ u∧u < (n:Int))∧(¬ x.f0=4→¬ x.f0=6→0 ≤ x.f1∧x.f1 < (n:Int))
theorem EC (x:ye):(Ah x).length ≤ 3:=by
 unfold Ah
 by_cases h1:x.f0=1 ∨ x.f0=6
 ·rw [if_pos h1];simp
 ·rw [if_neg h1]
  by_cases h2:x.f0=2
  ·rw [if_pos h2];simp
  ·rw [if_neg h2]
   by_cases h3:x.f0=3 ∨ x.f0=4
   ·rw [if_pos h3]
    by_cases h4:0 ≤ x.f2
    ·rw [if_pos h4]
     by_cases h5:x.f0=4
     ·rw [if_pos h5];simp
     ·rw [if_neg h5];simp
    ·rw [if_neg h4]
     by_cases h5:x.f0=4
     ·rw [if_pos h5];simp
     ·rw [if_neg h5];simp
   ·rw [if_neg h3];simp
def ZA (s:List Bool) (u:Int):List Bool:=s.set u.toNat true
def gr (s:List Bool) (x:ye):List Bool:=(Ah x).foldl ZA (if kB x ≥ 0 then s.set (kB x).toNat false else s)
def Ep (b:We) (s:List Bool):List Bool:=if b.f1=0 then s else s.set b.f2.toNat true
def zv (b:We) (s:List Bool):List Bool:=b.f0.foldr (fun x s=>gr s x) (Ep b s)
theorem ru:∀ (l:List Int) (s:List Bool),(l.foldl ZA s).length=s.length
 | [],_=>rfl
 | u :: l,s=>by rw [List.foldl_cons,ru l];unfold ZA;rw [List.length_set]
theorem kO (s:List Bool) (x:ye):(gr s x).length=s.length:=by
 unfold gr;rw [ru]
 by_cases h:kB x ≥ 0
 ·rw [if_pos h,List.length_set]
 ·rw [if_neg h]
theorem Er (b:We) (s:List Bool):(Ep b s).length=s.length:=by
 unfold Ep
 by_cases h:b.f1=0
 ·rw [if_pos h]
 ·rw [if_neg h,List.length_set]
theorem Ly (l:List ye) (s:List Bool):(l.foldr (fun x s=>gr s x) s).length=s.length:=by
 induction l with
 | nil=>rfl
 | cons x l ih=>rw [List.foldr_cons,kO,ih]
theorem Wo (b:We) (s:List Bool):(zv b s).length=s.length:=by
 unfold zv;rw [Ly,Er]
theorem qi {s:List Bool} {i j:Nat} {b:Bool} (hi:i < s.length):seen (s.set i b) j=if i=j then b else seen s j:=by
 unfold seen;rw [List.getD_eq_getElem?_getD,List.getD_eq_getElem?_getD,List.getElem?_set]
 by_cases h:i=j
 ·rw [if_pos h,if_pos h,if_pos hi];rfl
 ·rw [if_neg h,if_neg h]
def J3 (u:Nat) (x:ye) (b:Bool):Bool:=if (u:Int) ∈ Ah x then true else if kB x=(u:Int) then false else b
def HN (u:Nat) (k:We) (b:Bool):Bool:=if k.f1=0 then b else if k.f2=(u:Int) then true else b
def TR (u:Nat) (k:We) (b:Bool):Bool:=k.f0.foldr (J3 u) (HN u k b)
theorem ZQ {u:Nat} {x:ye} {a b:Bool} (h:a=true→b=true):J3 u x a=true→J3 u x b=true:=by
 unfold J3
 by_cases h1:(u:Int) ∈ Ah x
 ·rw [if_pos h1,if_pos h1];exact id
 ·rw [if_neg h1,if_neg h1]
  by_cases h2:kB x=(u:Int)
  ·rw [if_pos h2,if_pos h2];exact id
  ·rw [if_neg h2,if_neg h2];exact h
theorem Hr {u:Nat} {k:We} {a b:Bool} (h:a=true→b=true):TR u k a=true→TR u k b=true:=by
 unfold TR
 have he:HN u k a=true→HN u k b=true:=by
  unfold HN
  by_cases h1:k.f1=0
  ·rw [if_pos h1,if_pos h1];exact h
  ·rw [if_neg h1,if_neg h1]
   by_cases h2:k.f2=(u:Int)
   ·rw [if_pos h2,if_pos h2];exact id
   ·rw [if_neg h2,if_neg h2];exact h
 induction k.f0 with
 | nil=>exact he
 | cons x l ih=>exact ZQ ih
theorem Cr:∀ (l:List Int) (s:List Bool) (u:Nat),(∀ a ∈ l,0 ≤ a∧a < (s.length:Int))→seen (l.foldl ZA s) u=(decide ((u:Int) ∈ l) || seen s u)
 | [],s,u,_=>by simp
 | a :: l,s,u,h=>by
  obtain ⟨a0,a1⟩:=h a (by simp);rw [List.foldl_cons,Cr l (ZA s a) u (fun c hc=>by unfold ZA;rw [List.length_set];exact h c (by simp [hc]))];unfold ZA;rw [qi (by omega)]
  by_cases e:a.toNat=u
  ·rw [if_pos e,decide_eq_true (show (u:Int) ∈ a :: l from List.mem_cons.2 (Or.inl (by omega)))];simp
  ·rw [if_neg e]
   have:(u:Int) ∈ a :: l ↔ (u:Int) ∈ l:=by
    rw [List.mem_cons];exact ⟨fun h=>h.resolve_left (by omega),Or.inr⟩
   rw [decide_eq_decide.2 this]
theorem DJ {s:List Bool} {x:ye} {u:Nat} (hx:rB s.length x):seen (gr s x) u=J3 u x (seen s u):=by
 obtain ⟨h1,h2⟩:=hx;unfold gr J3
 have hm:kB x ≥ 0→(kB x).toNat < s.length:=by
  unfold kB;intro h
  by_cases h4:x.f0=4
  ·rw [if_pos h4] at h;omega
  ·rw [if_neg h4] at h ⊢
   by_cases h6:x.f0=6
   ·rw [if_pos h6] at h;omega
   ·rw [if_neg h6] at h ⊢;have:=h2 h4 h6;omega
 have hlen:(if kB x ≥ 0 then s.set (kB x).toNat false else s).length=s.length:=by
  by_cases h:kB x ≥ 0
  ·rw [if_pos h,List.length_set]
  ·rw [if_neg h]
 rw [Cr _ _ _ (fun a ha=>by rw [hlen];exact h1 a ha)]
 by_cases hu:(u:Int) ∈ Ah x
 ·rw [if_pos hu,decide_eq_true hu];rfl
 ·rw [if_neg hu,decide_eq_false hu,Bool.false_or]
  by_cases h:kB x ≥ 0
  ·rw [if_pos h,qi (hm h)]
   by_cases e:kB x=(u:Int)
   ·rw [if_pos e,if_pos (by omega)]
   ·rw [if_neg e,if_neg (by omega)]
  ·rw [if_neg h,if_neg (by omega)]
def zu (n:Nat) (b:We):Prop:=b.f0.length ≤ 1048576∧(¬ b.f1=0→0 ≤ b.f2∧b.f2 < (n:Int))∧∀ x ∈ b.f0,rB n x
theorem GN {s:List Bool} {b:We} {u:Nat} (hb:¬ b.f1=0→0 ≤ b.f2∧b.f2 < (s.length:Int)):seen (Ep b s) u=HN u b (seen s u):=by
 unfold Ep HN
 by_cases h:b.f1=0
 ·rw [if_pos h,if_pos h]
 ·have:=hb h;rw [if_neg h,if_neg h,qi (by omega)]
  by_cases e:b.f2=(u:Int)
  ·rw [if_pos e,if_pos (by omega)]
  ·rw [if_neg e,if_neg (by omega)]
theorem Gr {s:List Bool} {b:We} {u:Nat} (hb:zu s.length b):seen (zv b s) u=TR u b (seen s u):=by
 unfold zv TR;obtain ⟨_,h2,h3⟩:=hb;have he:=GN (u:=u) h2;have hl:=Er b s;generalize Ep b s=s0 at he hl;rw [← he];clear he h2;generalize b.f0=cd at h3 ⊢
 induction cd with
 | nil=>rfl
 | cons x l ih =>
  rw [List.foldr_cons,List.foldr_cons,DJ (by rw [Ly,hl];exact h3 x (by simp)),ih (fun y hy=>h3 y (by simp [hy]))]
inductive LB (bs:List We) (u:Nat):Nat→Prop
 | gen {i:Nat} {t:Int}:t ∈ Ip bs i→TR u (Oa bs t) false=true→LB bs u i
 | step {i:Nat} {t:Int}:t ∈ Ip bs i→TR u (Oa bs t) true=true→LB bs u t.toNat→LB bs u i
noncomputable def Nh (bs:List We) (n i:Nat):List Bool:=open Classical in (List.range n).map fun u=>decide (LB bs u i)
noncomputable def dm (bs:List We) (n:Nat):List (List Bool):=(List.range bs.length).map (Nh bs n)
theorem Mm (bs:List We) (n i:Nat):(Nh bs n i).length=n:=by simp [Nh]
theorem Es (bs:List We) (n:Nat):(dm bs n).length=bs.length:=by simp [dm]
theorem pn {bs:List We} {n i u:Nat} (hu:u < n):seen (Nh bs n i) u=true ↔ LB bs u i:=by simp [seen,Nh,List.getD_eq_getElem?_getD,hu]
def sr (bs:List We) (n:Nat):Prop:=Ox bs∧n ≤ 1048576∧∀ b ∈ bs,zu n b
def Ve (X:List (List Bool)) (i:Nat):List Bool:=X.getD i []
theorem Cp {X:List (List Bool)} {i k:Nat} {x:List Bool} (hi:i < X.length):Ve (X.set i x) k=if i=k then x else Ve X k:=by
 unfold Ve;rw [List.getD_eq_getElem?_getD,List.getD_eq_getElem?_getD,List.getElem?_set]
 by_cases h:i=k
 ·rw [if_pos h,if_pos h,if_pos hi];rfl
 ·rw [if_neg h,if_neg h]
structure mC (bs:List We) (n:Nat) (X Y:List (List Bool)):Prop where
 xl:X.length=bs.length
 yl:Y.length=bs.length
 xr:∀ i,i < bs.length→(Ve X i).length=n
 yr:∀ i,i < bs.length→(Ve Y i).length=n
 xs:∀ i u,i < bs.length→seen (Ve X i) u=true→LB bs u i
 ys:∀ i u,i < bs.length→seen (Ve Y i) u=true→TR u (Oa bs (i:Int)) (seen (Ve X i) u)=true
section
variable {bs:List We} {n:Nat} {X Y:List (List Bool)}
theorem mC.or (h:mC bs n X Y) (hE:Ox bs) {i s:Nat} {t:Int} (hi:i < bs.length) (ht:t ∈ Ip bs i) (hs:s < n):mC bs n (X.set i ((Ve X i).set s (seen (Ve X i) s || seen (Ve Y t.toNat) s))) Y:=by
 obtain ⟨t0,t1⟩:=hE.2.2 i hi t ht;have hil:i < X.length:=by rw [h.xl];exact hi
 have sK:s < (Ve X i).length:=by rw [h.xr i hi];exact hs
 refine ⟨by rw [List.length_set];exact h.xl,h.yl,fun k hk=>?_,h.yr,fun k u hk hu=>?_,fun k u hk hu=>?_⟩
 ·rw [Cp hil]
  by_cases e:i=k
  ·rw [if_pos e,List.length_set];exact h.xr i hi
  ·rw [if_neg e];exact h.xr k hk
 ·rw [Cp hil] at hu
  by_cases e:i=k
  ·subst e;rw [if_pos rfl,qi sK] at hu
   by_cases e2:s=u
   ·subst e2;rw [if_pos rfl,Bool.or_eq_true] at hu
    rcases hu with hu|hu
    ·exact h.xs i s hk hu
    ·have hy:=h.ys t.toNat s (by omega) hu;rw [Int.toNat_of_nonneg t0] at hy;cases hb:seen (Ve X t.toNat) s with
     | false=>rw [hb] at hy;exact LB.gen ht hy
     | true=>rw [hb] at hy;exact LB.step ht hy (h.xs t.toNat s (by omega) hb)
   ·rw [if_neg e2] at hu;exact h.xs i u hk hu
  ·rw [if_neg e] at hu;exact h.xs k u hk hu
 ·have hy:=h.ys k u hk hu;rw [Cp hil]
  by_cases e:i=k
  ·subst e;rw [if_pos rfl,qi sK]
   by_cases e2:s=u
   ·subst e2;rw [if_pos rfl];exact Hr (fun hb=>by rw [hb];rfl) hy
   ·rw [if_neg e2];exact hy
  ·rw [if_neg e];exact hy
theorem mC.put (h:mC bs n X Y) (hO:sr bs n) {i:Nat} (hi:i < bs.length):mC bs n X (Y.set i (zv (Oa bs (i:Int)) (Ve X i))):=by
 have hil:i < Y.length:=by rw [h.yl];exact hi
 have hb:zu n (Oa bs (i:Int)):=by rw [Jg hi];exact hO.2.2 _ (List.getElem_mem hi)
 refine ⟨h.xl,by rw [List.length_set];exact h.yl,h.xr,fun k hk=>?_,h.xs,fun k u hk hu=>?_⟩
 ·rw [Cp hil]
  by_cases e:i=k
  ·rw [if_pos e,Wo];exact h.xr i hi
  ·rw [if_neg e];exact h.yr k hk
 ·rw [Cp hil] at hu
  by_cases e:i=k
  ·subst e;rw [if_pos rfl,Gr (by rw [h.xr i hi];exact hb)] at hu;exact hu
  ·rw [if_neg e] at hu;exact h.ys k u hk hu
def StE (bs:List We) (X Y:List (List Bool)) (i:Nat):Prop:=(∀ t ∈ Ip bs i,∀ u,seen (Ve Y t.toNat) u=true→seen (Ve X i) u=true)∧Ve Y i=zv (Oa bs (i:Int)) (Ve X i)
theorem mC.done (h:mC bs n X Y) (hO:sr bs n) (hst:∀ i,i < bs.length→StE bs X Y i):X=dm bs n:=by
 have hE:=hO.1
 have key:∀ u i,LB bs u i→i < bs.length→seen (Ve X i) u=true:=by
  intro u i hl
  have turn:∀ (i:Nat) (t:Int),i < bs.length→t ∈ Ip bs i→TR u (Oa bs t) (seen (Ve X t.toNat) u)=true→seen (Ve X i) u=true:=by
   intro i t hi ht h1;obtain ⟨t0,t1⟩:=hE.2.2 i hi t ht;have htn:t.toNat < bs.length:=by omega
   refine (hst i hi).1 t ht u ?_;rw [(hst t.toNat htn).2,Gr (by rw [h.xr _ htn,Jg htn];exact hO.2.2 _ (List.getElem_mem htn)),Int.toNat_of_nonneg t0];exact h1
  induction hl with
  | @gen i t ht h1 =>
   intro hi;exact turn i t hi ht (Hr (fun hf=>by cases hf) h1)
  | @step i t ht h1 _ ih =>
   intro hi;obtain ⟨t0,t1⟩:=hE.2.2 i hi t ht;exact turn i t hi ht (Hr (fun _=>ih (by omega)) h1)
 apply List.ext_getElem
 ·rw [h.xl,Es]
 ·intro i h1 h2;have hi:i < bs.length:=by rw [← h.xl];exact h1
  have e1:X[i]=Ve X i:=by simp [Ve,List.getD_eq_getElem?_getD,h1]
  have e2:(dm bs n)[i]=Nh bs n i:=by simp [dm]
  rw [e1,e2];refine MG (by rw [h.xr i hi,Mm]) (fun u=>?_)
  constructor
  ·intro hu;have hun:u < n:=by have:=Zr hu;rw [h.xr i hi] at this;exact this
   exact (pn hun).2 (h.xs i u hi hu)
  ·intro hu;have hun:u < n:=by have:=Zr hu;rw [Mm] at this;exact this
   exact key u i ((pn hun).1 hu) hi
def cnt (s:List Bool):Nat:=s.count true
def Io (Y:List (List Bool)):Nat:=(Y.map cnt).sum
theorem FB:∀ (Y:List (List Bool)) (i:Nat) (x:List Bool),i < Y.length→Io (Y.set i x) + cnt (Ve Y i)=Io Y + cnt x
 | [],i,x,h=>by simp at h
 | y :: Y,0,x,_=>by
  simp only [Io,List.set_cons_zero,List.map_cons,List.sum_cons,Ve,List.getD_cons_zero];omega
 | y :: Y,i + 1,x,h=>by
  have ih:=FB Y i x (by simpa using h);simp only [Io,List.set_cons_succ,List.map_cons,List.sum_cons,Ve,List.getD_cons_succ] at ih ⊢;omega
theorem qJ:∀ (a b:List Bool),a.length=b.length→(∀ u,seen a u=true→seen b u=true)→cnt a ≤ cnt b∧(a ≠ b→cnt a < cnt b)
 | [],[],_,_=>⟨Nat.le_refl _,fun h=>absurd rfl h⟩
 | [],_ :: _,h,_=>by cases h
 | _ :: _,[],h,_=>by cases h
 | x :: a,y :: b,hl,h=>by
  obtain ⟨h1,h2⟩:=qJ a b (by simpa using hl) (fun u hu=>h (u + 1) hu);have h0:x=true→y=true:=h 0;unfold cnt at h1 h2 ⊢;rw [List.count_cons,List.count_cons];cases x with
  | false =>
   cases y with
   | false=>exact ⟨by simpa using h1,fun hne=>by have:=h2 (fun e=>hne (by rw [e]));simpa using this⟩
   | true=>exact ⟨by simp;omega,fun _=>by simp;omega⟩
  | true =>
   have hy:=h0 rfl;subst hy;exact ⟨by simpa using h1,fun hne=>by have:=h2 (fun e=>hne (by rw [e]));simpa using this⟩
theorem qV (a:List Bool):cnt a ≤ a.length:=List.count_le_length
theorem bG {m:Nat}:∀ (Y:List (List Bool)),(∀ i,i < Y.length→(Ve Y i).length ≤ m)→Io Y ≤ m * Y.length
 | [],_=>by simp [Io]
 | y :: Y,h=>by
  have h1:=bG Y (fun i hi=>h (i + 1) (by simpa using hi));have h2:=h 0 (by simp);have h3:=qV y;have h4:(Ve (y :: Y) 0)=y:=rfl;rw [h4] at h2;simp only [Io,List.map_cons,List.sum_cons,List.length_cons,Nat.mul_succ] at h1 ⊢;omega
theorem mC.grow (h:mC bs n X Y) (hO:sr bs n) {i:Nat} (hi:i < bs.length) (hne:zv (Oa bs (i:Int)) (Ve X i) ≠ Ve Y i):Io Y < Io (Y.set i (zv (Oa bs (i:Int)) (Ve X i))):=by
 have hb:zu n (Oa bs (i:Int)):=by rw [Jg hi];exact hO.2.2 _ (List.getElem_mem hi)
 have h1:=FB Y i (zv (Oa bs (i:Int)) (Ve X i)) (by rw [h.yl];exact hi)
 have h2:=(qJ (Ve Y i) (zv (Oa bs (i:Int)) (Ve X i)) (by rw [Wo,h.xr i hi,h.yr i hi]) (fun u hu=>by
  rw [Gr (by rw [h.xr i hi];exact hb)]
  exact h.ys i u hi hu)).2 (fun e=>hne e.symm)
 omega
theorem mC.start (bs:List We) (n:Nat):mC bs n (List.replicate bs.length (List.replicate n false)) (List.replicate bs.length (List.replicate n false)):=by
 have hr:∀ i,i < bs.length→Ve (List.replicate bs.length (List.replicate n false)) i=List.replicate n false:=fun i hi=>by
  unfold Ve;rw [List.getD_eq_getElem?_getD,List.getElem?_replicate,if_pos hi];rfl
 refine ⟨by simp,by simp,fun i hi=>by rw [hr i hi];simp,fun i hi=>by rw [hr i hi];simp,fun i u hi hu=>?_,fun i u hi hu=>?_⟩
 ·rw [hr i hi,FC] at hu;cases hu
 ·rw [hr i hi,FC] at hu;cases hu
end
end Go.Proofs.Ytkigbdceceeenaa.P
end
section
namespace Go.Proofs.Ytkigbdceceeenaa.P
open Go.RowKit Go.Proofs.Sa.Wb Go.Proofs.Sa.je Go.Proofs.Sa.Qf
set_option linter.unusedVariables false
set_option linter.unusedSimpArgs false
theorem oo {x:ye} (h:x.f0=1 ∨ x.f0=6):Ah x=[x.f2]:=if_pos h
theorem Vx {x:ye} (h:x.f0=2):Ah x=[x.f2,x.f3]:=by
 unfold Ah;rw [if_neg (by omega),if_pos h]
theorem Yr {x:ye} (h:x.f0=3 ∨ x.f0=4):Ah x=[x.f3] ++ (if 0 ≤ x.f2 then [x.f2] else []) ++ (if x.f0=4 then [x.f4] else []):=by
 unfold Ah;rw [if_neg (by omega),if_neg (by omega),if_pos h]
theorem gv {x:ye} (h1:¬ (x.f0=1 ∨ x.f0=6)) (h2:¬ x.f0=2) (h3:¬ (x.f0=3 ∨ x.f0=4)):Ah x=[]:=by
 unfold Ah;rw [if_neg h1,if_neg h2,if_neg h3]
theorem VA {x:ye} (ha:0 ≤ x.f2) (h4:x.f0=4):Ah x=[x.f3] ++ [x.f2] ++ [x.f4]:=by rw [Yr (Or.inr h4),if_pos ha,if_pos h4]
theorem UA {x:ye} (ha:0 ≤ x.f2) (h3:x.f0=3 ∨ x.f0=4) (h4:¬ x.f0=4):Ah x=[x.f3] ++ [x.f2]:=by rw [Yr h3,if_pos ha,if_neg h4];rfl
theorem TA {x:ye} (ha:¬ 0 ≤ x.f2) (h4:x.f0=4):Ah x=[x.f3] ++ [x.f4]:=by rw [Yr (Or.inr h4),if_neg ha,if_pos h4];rfl
theorem SA {x:ye} (ha:¬ 0 ≤ x.f2) (h3:x.f0=3 ∨ x.f0=4) (h4:¬ x.f0=4):Ah x=[x.f3]:=by rw [Yr h3,if_neg ha,if_neg h4];rfl
theorem ZN (x:ye):Ev (fun k=>Xc.f k x.f0 x.f1 x.f2 x.f3 x.f4 x.f5 x.f6) (Ah x):=by
 unfold Xc.f;refine Ev.val ?_
 by_cases h1:x.f0=1
 ·rw [oo (Or.inl h1)];refine Ev.pos h1 (Ev.step (fun k=>by rw [Xc.j0]) ?_);exact Ev.pos (by rw [h1];rfl) (Ev.pos (by simp) (Ev.now _))
 refine Ev.neg h1 (Ev.step (fun k=>by rw [Xc.j0]) ?_)
 by_cases h6:x.f0=6
 ·rw [oo (Or.inr h6)];exact Ev.pos (by rw [h6];rfl) (Ev.pos (by simp) (Ev.now _))
 refine Ev.neg (by simp [h6]) ?_
 by_cases h2:x.f0=2
 ·rw [Vx h2];exact Ev.pos h2 (Ev.val (Ev.pos (by simp) (Ev.now _)))
 refine Ev.neg h2 ?_
 have key:∀ b:Bool,(b=true ↔ x.f0=3 ∨ x.f0=4)→Ev (fun k=>Xc.j1 k [] b x.f0 x.f1 x.f2 x.f3 x.f4 x.f5 x.f6) (Ah x):=by
  intro b hb;refine Ev.step (fun k=>by rw [Xc.j1]) ?_
  by_cases kV:b=true
  ·have r_:=hb.1 kV;refine Ev.pos kV (Ev.pos (by simp) (Ev.val ?_))
   by_cases ha:0 ≤ x.f2
   ·refine Ev.pos ha (Ev.pos (by simp) (Ev.val ?_))
    by_cases h4:x.f0=4
    ·rw [VA ha h4];exact Ev.pos h4 (Ev.pos (by simp) (Ev.now _))
    ·rw [UA ha r_ h4];exact Ev.neg h4 (Ev.now _)
   ·refine Ev.neg ha ?_
    by_cases h4:x.f0=4
    ·rw [TA ha h4];exact Ev.pos h4 (Ev.pos (by simp) (Ev.now _))
    ·rw [SA ha r_ h4];exact Ev.neg h4 (Ev.now _)
  ·rw [gv (fun h=>h.elim h1 h6) h2 (fun h=>kV (hb.2 h))];exact Ev.neg kV (Ev.now _)
 by_cases h3:x.f0=3
 ·exact Ev.pos h3 (key _ (by simp [h3]))
 ·exact Ev.neg h3 (key _ (by simp [h3]))
theorem oV (x:ye):Ev (fun k=>ee.f k x.f0 x.f1 x.f2 x.f3 x.f4 x.f5 x.f6) (Ah x):=by
 unfold ee.f
 by_cases h1:x.f0=1
 ·rw [oo (Or.inl h1)];refine Ev.pos h1 (Ev.step (fun k=>by rw [ee.j0]) ?_);exact Ev.pos (by rw [h1];rfl) (Ev.now _)
 refine Ev.neg h1 (Ev.step (fun k=>by rw [ee.j0]) ?_)
 by_cases h6:x.f0=6
 ·rw [oo (Or.inr h6)];exact Ev.pos (by rw [h6];rfl) (Ev.now _)
 refine Ev.neg (by simp [h6]) ?_
 by_cases h2:x.f0=2
 ·rw [Vx h2];exact Ev.pos h2 (Ev.now _)
 refine Ev.neg h2 ?_
 have key:∀ b:Bool,(b=true ↔ x.f0=3 ∨ x.f0=4)→Ev (fun k=>ee.j1 k b x.f0 x.f1 x.f2 x.f3 x.f4 x.f5 x.f6) (Ah x):=by
  intro b hb;refine Ev.step (fun k=>by rw [ee.j1]) ?_
  by_cases kV:b=true
  ·have r_:=hb.1 kV;refine Ev.pos kV (Ev.val ?_)
   by_cases ha:0 ≤ x.f2
   ·refine Ev.pos ha (Ev.pos (by simp) (Ev.val ?_))
    by_cases h4:x.f0=4
    ·rw [VA ha h4];exact Ev.pos h4 (Ev.pos (by simp) (Ev.now _))
    ·rw [UA ha r_ h4];exact Ev.neg h4 (Ev.now _)
   ·refine Ev.neg ha ?_
    by_cases h4:x.f0=4
    ·rw [TA ha h4];exact Ev.pos h4 (Ev.pos (by simp) (Ev.now _))
    ·rw [SA ha r_ h4];exact Ev.neg h4 (Ev.now _)
  ·rw [gv (fun h=>h.elim h1 h6) h2 (fun h=>kV (hb.2 h))];exact Ev.neg kV (Ev.now _)
 by_cases h3:x.f0=3
 ·exact Ev.pos h3 (key _ (by simp [h3]))
 ·exact Ev.neg h3 (key _ (by simp [h3]))
theorem fJ (us:List Int) (hl:us.length ≤ 1048576):∀ (d i:Nat) (s:List Bool),i + d=us.length→(∀ u ∈ us,0 ≤ u∧u < (s.length:Int))→Ev (fun k=>Ed.l0 k s us (us.length:Int) (i:Int)) ((us.drop i).foldl ZA s):=by
 intro d
 induction d with
 | zero =>
  intro i s hi _;obtain rfl:i=us.length:=by omega
  rw [List.drop_length];refine Ev.step (fun k=>by rw [Ed.l0]) ?_;exact Ev.neg (by omega) (Ev.now _)
 | succ d ih =>
  intro i s hi hu;have hi':i < us.length:=by omega
  obtain ⟨u0,u1⟩:=hu _ (List.getElem_mem hi');rw [List.drop_eq_getElem_cons hi',List.foldl_cons];refine Ev.step (fun k=>by rw [Ed.l0]) ?_;refine Ev.pos (by omega) (Ev.pos (by omega) (Ev.pos (by omega) ?_));rw [bq hi',Ke hi' (by omega)];exact Ev.pos u0 (Ev.pos u1 (ih (i + 1) _ (by omega) (fun u h=>by rw [List.length_set];exact hu u h)))
theorem KM (s:List Bool) (x:ye) (hx:rB s.length x):Ev (fun k=>Ed.f k s x.f0 x.f1 x.f2 x.f3 x.f4 x.f5 x.f6) (gr s x):=by
 obtain ⟨h1,h2⟩:=hx
 have hm:ak.f x.f0 x.f1 x.f2 x.f3 x.f4 x.f5 x.f6=some (kB x):=by
  unfold ak.f kB
  by_cases h4:x.f0=4
  ·rw [if_pos h4,if_pos h4]
  ·rw [if_neg h4,if_neg h4]
   by_cases h6:x.f0=6
   ·rw [if_pos h6,if_pos h6]
   ·rw [if_neg h6,if_neg h6]
 have hul:=EC x;unfold Ed.f gr;rw [hm];refine Ev.val ?_
 have tail:∀ s2:List Bool,s2.length=s.length→Ev (fun k=>Ed.j0 k s2 x.f0 x.f1 x.f2 x.f3 x.f4 x.f5 x.f6) ((Ah x).foldl ZA s2):=by
  intro s2 hs2;refine Ev.step (fun k=>by rw [Ed.j0]) ?_;refine Ev.bind (ZN x) ?_;have:=fJ (Ah x) (by omega) (Ah x).length 0 s2 (by omega) (fun u hu=>by rw [hs2];exact h1 u hu)
  rwa [List.drop_zero] at this
 by_cases h:kB x ≥ 0
 ·rw [if_pos h]
  have hlt:kB x < (s.length:Int):=by
   have h':=h;unfold kB at h' ⊢
   by_cases h4:x.f0=4
   ·rw [if_pos h4] at h';omega
   ·rw [if_neg h4] at h' ⊢
    by_cases h6:x.f0=6
    ·rw [if_pos h6] at h';omega
    ·rw [if_neg h6];exact (h2 h4 h6).2
  exact Ev.pos h (Ev.pos h (Ev.pos hlt (tail _ (by rw [List.length_set]))))
 ·rw [if_neg h];exact Ev.neg h (tail _ rfl)
theorem DH (us:List Int) (hl:us.length ≤ 1048576):∀ (d i:Nat) (s:List Bool),i + d=us.length→(∀ u ∈ us,0 ≤ u∧u < (s.length:Int))→Ev (fun k=>Cc.l0 k s us (i:Int)) ((us.drop i).foldl ZA s):=by
 intro d
 induction d with
 | zero =>
  intro i s hi _;obtain rfl:i=us.length:=by omega
  rw [List.drop_length];refine Ev.step (fun k=>by rw [Cc.l0]) ?_;exact Ev.neg (by omega) (Ev.now _)
 | succ d ih =>
  intro i s hi hu;have hi':i < us.length:=by omega
  obtain ⟨u0,u1⟩:=hu _ (List.getElem_mem hi');rw [List.drop_eq_getElem_cons hi',List.foldl_cons];refine Ev.step (fun k=>by rw [Cc.l0]) ?_;refine Ev.pos (by omega) (Ev.pos (by omega) ?_);rw [bq hi',Ke hi' (by omega)];exact Ev.pos u0 (Ev.pos u1 (ih (i + 1) _ (by omega) (fun u h=>by rw [List.length_set];exact hu u h)))
theorem CQ (s:List Bool) (x:ye) (hx:rB s.length x):Ev (fun k=>Cc.f k x.f0 x.f1 x.f2 x.f3 x.f4 x.f5 x.f6 s) (gr s x):=by
 obtain ⟨h1,h2⟩:=hx;have hul:=EC x;unfold Cc.f gr fk.f
 have tail:∀ s2:List Bool,s2.length=s.length→Ev (fun k=>Cc.j0 k s2 x.f0 x.f1 x.f2 x.f3 x.f4 x.f5 x.f6) ((Ah x).foldl ZA s2):=by
  intro s2 hs2;refine Ev.step (fun k=>by rw [Cc.j0]) ?_;refine Ev.bind (oV x) ?_;have:=DH (Ah x) (by omega) (Ah x).length 0 s2 (by omega) (fun u hu=>by rw [hs2];exact h1 u hu)
  rwa [List.drop_zero] at this
 by_cases h4:x.f0=4
 ·rw [if_pos h4];have hm:kB x = -1:=if_pos h4;rw [if_neg (by omega)];exact Ev.val (Ev.neg (by decide) (tail _ rfl))
 ·rw [if_neg h4];refine Ev.val ?_
  by_cases h6:x.f0=6
  ·have hm:kB x = -1:=by unfold kB;rw [if_neg h4,if_pos h6]
   rw [if_neg (by omega)];exact Ev.neg (by simp [h6]) (tail _ rfl)
  ·have hm:kB x=x.f1:=by unfold kB;rw [if_neg h4,if_neg h6]
   obtain ⟨d0,d1⟩:=h2 h4 h6;rw [hm,if_pos d0];exact Ev.pos (by simp [h6]) (Ev.pos d0 (Ev.pos d1 (tail _ (by rw [List.length_set]))))
theorem eO (a b:List Bool) (hl:a.length=b.length) (hm:a.length ≤ 1048576):∀ (d i:Nat),i + d=a.length→Ev (fun k=>Ob.l0 k a b (a.length:Int) (i:Int)) (decide (a.drop i=b.drop i)):=by
 intro d
 induction d with
 | zero =>
  intro i hd;rw [List.drop_eq_nil_of_le (by omega),List.drop_eq_nil_of_le (by omega)];refine Ev.step (fun k=>by rw [Ob.l0]) ?_;exact Ev.neg (by omega) (Ev.now _)
 | succ d ih =>
  intro i hd;have h1:i < a.length:=by omega
  have h2:i < b.length:=by omega
  have ea:Rf false a (i:Int)=a[i]:=by simp [Rf,h1]
  have eb:Rf false b (i:Int)=b[i]:=by simp [Rf,h2]
  refine Ev.step (fun k=>by rw [Ob.l0]) ?_;refine Ev.pos (by omega) (Ev.pos (by omega) (Ev.pos (by omega) (Ev.pos (by omega) ?_)));rw [ea,eb,Ke h1 (by omega)]
  by_cases he:a[i]=b[i]
  ·refine Ev.neg (by rw [he];simp) ?_
   have e:decide (a.drop i=b.drop i)=decide (a.drop (i + 1)=b.drop (i + 1)):=by
    rw [List.drop_eq_getElem_cons h1,List.drop_eq_getElem_cons h2,he];exact decide_eq_decide.2 ⟨fun h=>(List.cons.inj h).2,fun h=>by rw [h]⟩
   rw [e];exact ih (i + 1) (by omega)
  ·refine Ev.pos (by simpa using he) ?_
   have e:decide (a.drop i=b.drop i)=false:=decide_eq_false (fun h=>by
    rw [List.drop_eq_getElem_cons h1,List.drop_eq_getElem_cons h2] at h
    exact he (List.cons.inj h).1)
   rw [e];exact Ev.now _
theorem IZ (a b:List Bool) (hm:a.length ≤ 1048576):Ev (fun k=>Ob.f k a b) (decide (a=b)):=by
 unfold Ob.f
 by_cases hl:a.length=b.length
 ·exact Ev.pos (by omega) (eO a b hl hm a.length 0 (by omega))
 ·rw [decide_eq_false (fun e=>hl (by rw [e]))];exact Ev.neg (by omega) (Ev.now _)
theorem ZM {α:Type} (d:Kd α) (e:Nat) (w:World) (base:Nat) (h:base ≤ w.heap.size):d.R e (w.alloc (.cells #[] e (0,0))) base (fun _=>True) (.slice (some ⟨w.heap.size,0,none⟩) 0 0) []:=by
 refine ⟨fun _ _=>trivial,[],?_,⟨by simp,fun i p hp=>by simp at hp⟩⟩;have h2:=World.ownsRow_lit (base:=base) (e:=e) (size:=d.sz) w #[] 0 h (by simp [maxLen]) (by simp)
 simpa using h2
theorem uI {α:Type} {d:Kd α} {e B:Nat} {ok:Nat→Prop} {W w':World} {v:Value} {xs:List α} (h:d.R e w' W.heap.size ok v xs) (hB:B ≤ W.heap.size):d.R e w' B (fun k=>W.heap.size ≤ k∧k < w'.heap.size) v xs :=
 Kd.Dd (Kd.ze (Kd.Pg h) (fun _ hk=>⟨hk.2.1,hk.2.2.1⟩)) hB
theorem mY {α:Type} {d:Kd α} {e B:Nat} {ok:Nat→Prop} {W w':World} {v:Value} {xs:List α} (h:Kd.S d e w' W.heap.size ok v xs) (hB:B ≤ W.heap.size):Kd.S d e w' B (fun k=>W.heap.size ≤ k∧k < w'.heap.size) v xs :=
 Kd.fu (Kd.uj (Kd.Dx h) (fun _ hk=>⟨hk.2.1,hk.2.2.1⟩)) hB
theorem Y0 {α:Type} {d:Kd α} {et e base g n cap i:Nat} {W:World} {ok jI:Nat→Prop} {D:List (List α)} {v:Value} {xs:List α} (h:Kd.S (Kd.slice et d) e W base (fun k=>ok k∧¬ jI k) (.slice (some ⟨g,0,none⟩) n cap) D) (hg:∀ k,jI k→ok k) (hi:i < n) (hx:Kd.R d et W base jI v xs) :
  Kd.S (Kd.slice et d) e (W.setCell ⟨g,i,none⟩ v) base ok (.slice (some ⟨g,0,none⟩) n cap) (D.set i xs)∧W.grownBy (W.setCell ⟨g,i,none⟩ v) (some g):=by
 obtain ⟨Zl,c,jC,hM,Gy,qZ,iy,hH⟩:=Kd.Ny h ([]:List α) (i:Int) (by omega) (by omega);have hH2:=Kd.uR hH hg;have W9:c.length=1:=jC
 obtain ⟨u,rfl⟩:∃ u,c=[u]:=by
  rcases c with _|⟨u,_|⟨u2,c⟩⟩
  ·simp at W9
  ·exact ⟨u,rfl⟩
  ·simp at W9
 have hs:=Kd.W0 (d:=Kd.slice et d) hH2 (by omega) (by omega) (seg:=[v]) (j:=0) (show 0 + 1 ≤ 1 from by decide) (x':=xs) (Lh:=jI) (show (Kd.slice et d).M W base jI xs [v] from ⟨v,rfl,hx⟩) (fun k hk=>Or.inr hk);rw [Int.toNat_natCast,show i * (Kd.slice et d).sz + 0=i from by show i * 1 + 0=i;omega] at hs;exact hs
theorem D1 {α:Type} {enc:α→Value} {h1:∀ x,(enc x).oneCell' = true} {et e base g n cap i s:Nat} {W:World} {ok:Nat→Prop} {D:List (List α)} (z:α) (h:Kd.S (Kd.slice et (Kd.scalar enc h1)) e W base ok (.slice (some ⟨g,0,none⟩) n cap) D) (hi:i < n) (hs:s < (D.getD i []).length) :
  ∃ (gi c:Nat),W.cell? ⟨g,i,none⟩=some (.slice (some ⟨gi,0,none⟩) (D.getD i []).length c)∧ok gi∧W.cell? ⟨gi,s,none⟩=some (enc ((D.getD i []).getD s z))∧W.frozen? ⟨gi,s,none⟩=false ∧
   ∀ x,Kd.S (Kd.slice et (Kd.scalar enc h1)) e (W.setCell ⟨gi,s,none⟩ (enc x)) base ok (.slice (some ⟨g,0,none⟩) n cap) (D.set i ((D.getD i []).set s x))∧W.grownBy (W.setCell ⟨gi,s,none⟩ (enc x)) (some gi):=by
 obtain ⟨Zl,c,jC,hM,Gy,qZ,iy,hH⟩:=Kd.Ny h ([]:List α) (i:Int) (by omega) (by omega);rw [Int.toNat_natCast] at hM Gy qZ;obtain ⟨v,rfl,hR⟩:=hM;obtain ⟨gi,cc,rfl,-⟩:=Kd.Wl hR (by omega);have hb:=hR.1 gi rfl;have hc0:=Gy 0 _ rfl;rw [show i * (Kd.slice et (Kd.scalar enc h1)).sz + 0=i from by show i * 1 + 0=i;omega] at hc0;obtain ⟨e1,e2⟩:=Kd.Ej z hR (s:Int) (by omega) (by omega);rw [Int.toNat_natCast] at e1 e2;refine ⟨gi,cc,hc0,(iy gi hb).1,e1,e2,fun x=>?_⟩;obtain ⟨p1,p2⟩:=Kd.Mo hR (s:Int) x;rw [Int.toNat_natCast] at p1 p2;refine ⟨?_,p2⟩;have hH2:=Kd.fN hH p2 (fun k hk=>by injection hk with hk;rw [← hk];exact hb);have:=Kd.oG hH2 (x':=(D.getD i []).set s x) (show (Kd.slice et (Kd.scalar enc h1)).M _ base Zl ((D.getD i []).set s x) [.slice (some ⟨gi,0,none⟩) (D.getD i []).length cc] from ⟨_,rfl,p1⟩) (fun k hk=>hk)
 rwa [Int.toNat_natCast] at this
theorem RH {α:Type} (d:Kd α) (e:Nat) (w:World) (base:Nat) (h:base ≤ w.heap.size):Kd.S d e (w.alloc (.cells #[] e (0,0))) base (fun k=>k=w.heap.size) (.slice (some ⟨w.heap.size,0,none⟩) 0 0) []:=by
 have h1:=ZM (Kd.tag (fun _=>0) d) e w w.heap.size (Nat.le_refl _);refine ⟨fun _=>0,Kd.Dd (Kd.ze (Kd.Pg h1) (fun k hk=>?_)) h⟩;obtain ⟨_,h2,h3,_⟩:=hk;simp at h3;omega
theorem gR {α:Type} {d:Kd α} {et e base g n cap i:Nat} {W:World} {P:Nat→Prop} {D:List (List α)} (h:Kd.S (Kd.slice et d) e W base P (.slice (some ⟨g,0,none⟩) n cap) D) (hi:i < n) :
  ∃ (A:Option Addr) (c:Nat),W.cell? ⟨g,i,none⟩=some (.slice A (D.getD i []).length c)∧W.frozen? ⟨g,i,none⟩=false∧Kd.R d et W base (fun k=>P k∧k ≠ g∧base ≤ k∧k < W.heap.size) (.slice A (D.getD i []).length c) (D.getD i []):=by
 obtain ⟨Zl,c,jC,hM,Gy,qZ,iy,hH⟩:=Kd.Ny h ([]:List α) (i:Int) (by omega) (by omega);rw [Int.toNat_natCast] at hM Gy qZ;obtain ⟨v,hc,hR⟩:=hM;obtain ⟨A,cc,rfl⟩:=Kd.Ud hR;have h1:=Gy 0 _ (by rw [hc];rfl);have h2:=qZ 0;rw [show i * (Kd.slice et d).sz + 0=i from by show i * 1 + 0=i;omega] at h1 h2;exact ⟨A,cc,h1,h2,Kd.ze (Kd.Pg hR) (fun k hk=>⟨(iy k hk.1).1,(iy k hk.1).2,hk.2.1,hk.2.2.1⟩)⟩
structure Vp (w:World) (o:Obj) (PB:Nat→Prop) (vX vY:Value) (X Y:List (List Bool)) (wr:World):Prop where
 bl:Below w.heap.size w wr
 hx:wr.heap[w.heap.size]? = some o
 x:Kd.S (Kd.slice 4 Kd.bool) 60 wr w.heap.size PB vX X
 y:Kd.S (Kd.slice 4 Kd.bool) 60 wr w.heap.size (fun k=>¬ PB k∧w.heap.size < k) vY Y
 pb:∀ k,PB k→w.heap.size < k∧k < wr.heap.size
section
variable {w wr W w1:World} {o:Obj} {PB:Nat→Prop} {vX vY v1:Value} {X Y:List (List Bool)} {p:List Bool}
theorem Vp.below (h:Vp w o PB vX vY X Y wr) (hb:Below wr.heap.size wr W):Vp w o PB vX vY X Y W :=
 ⟨Qa h.bl hb,Va h.hx hb,Kd.Vh h.x hb,Kd.Vh h.y hb,fun k hk=>⟨(h.pb k hk).1,Nat.lt_of_lt_of_le (h.pb k hk).2 hb.size⟩⟩
theorem Vp.gam (h:Vp w o PB vX vY X Y wr) (hb:Below wr.heap.size wr W) (hs:Kd.S (Kd.slice 4 Kd.bool) 60 w1 w.heap.size (fun k=>PB k ∨ wr.heap.size ≤ k) v1 (X ++ [p])) (hw:Below w.heap.size w w1) (hg:W.grownBy w1 vX.ownBlock) :
  Vp w o (fun k=>PB k ∨ (wr.heap.size ≤ k∧k < w1.heap.size)) v1 vY (X ++ [p]) Y w1:=by
 have h2:=h.below hb;have hsz:wr.heap.size ≤ w1.heap.size:=Nat.le_trans hb.size hg.size;have hown:∀ k,vX.ownBlock=some k→PB k:=(Kd.oI h.x).1;refine ⟨hw,?_,Kd.uj (Kd.Dx hs) (fun k hk=>hk.1.imp id (fun h3=>⟨h3,hk.2.2.1⟩)),?_,fun k hk=>?_⟩
 ·exact ud h2.hx hg (fun e=>by have:=(h.pb _ (hown _ e.symm)).1;omega)
 ·refine Kd.uj (Kd.EA (Kd.iR h.y hb) hg (fun k hk e=>hk.1.1 (hown k e.symm))) (fun k hk=>⟨fun h3=>h3.elim hk.1.1 (fun h4=>by have:=hk.2;omega),hk.1.2⟩)
 ·rcases hk with hk|hk
  ·have:=h.pb k hk;exact ⟨this.1,by omega⟩
  ·have:=Rc h.hx;exact ⟨by omega,hk.2⟩
theorem Vp.fam (h:Vp w o PB vX vY X Y wr) (hb:Below wr.heap.size wr W) (hs:Kd.S (Kd.slice 4 Kd.bool) 60 w1 w.heap.size (fun k=>¬ PB k∧w.heap.size < k) v1 (Y ++ [p])) (hw:Below w.heap.size w w1) (hg:W.grownBy w1 vY.ownBlock) :
  Vp w o PB vX v1 X (Y ++ [p]) w1:=by
 have h2:=h.below hb;have hown:∀ k,vY.ownBlock=some k→¬ PB k∧w.heap.size < k:=(Kd.oI h.y).1;exact ⟨hw,ud h2.hx hg (fun e=>by have:=(hown _ e.symm).2;omega),Kd.EA h2.x hg (fun k hk e=>(hown k e.symm).1 hk),hs,fun k hk=>⟨(h2.pb k hk).1,Nat.lt_of_lt_of_le (h2.pb k hk).2 hg.size⟩⟩
end
theorem Vp.okX {w wr W:World} {o:Obj} {PB:Nat→Prop} {vX vY:Value} {X Y:List (List Bool)} (h:Vp w o PB vX vY X Y wr) (hb:Below wr.heap.size wr W):Kd.S (Kd.slice 4 Kd.bool) 60 W w.heap.size (fun k=>(PB k ∨ wr.heap.size ≤ k)∧¬ wr.heap.size ≤ k) vX X :=
 Kd.uj (Kd.iR h.x hb) (fun k hk=>⟨Or.inl hk.1,by have:=hk.2;omega⟩)
theorem Vp.neX {w wr:World} {o:Obj} {PB:Nat→Prop} {vX vY:Value} {X Y:List (List Bool)} (h:Vp w o PB vX vY X Y wr):∀ k,wr.heap.size ≤ k→(PB k ∨ wr.heap.size ≤ k)∧some k ≠ vX.ownBlock :=
 fun k hk=>⟨Or.inr hk,fun e=>by have:=(h.pb k ((Kd.oI h.x).1 k e.symm)).2;omega⟩
theorem Vp.frX {w wr W:World} {o:Obj} {PB:Nat→Prop} {vX vY:Value} {X Y:List (List Bool)} (_:Vp w o PB vX vY X Y wr) (hb:Below wr.heap.size wr W):∀ k,W.heap.size ≤ k→PB k ∨ wr.heap.size ≤ k:=fun _ hk=>Or.inr (Nat.le_trans hb.size hk)
theorem Vp.okY {w wr W:World} {o:Obj} {PB:Nat→Prop} {vX vY:Value} {X Y:List (List Bool)} (h:Vp w o PB vX vY X Y wr) (hb:Below wr.heap.size wr W):Kd.S (Kd.slice 4 Kd.bool) 60 W w.heap.size (fun k=>(¬ PB k∧w.heap.size < k)∧¬ wr.heap.size ≤ k) vY Y :=
 Kd.uj (Kd.iR h.y hb) (fun k hk=>⟨hk.1,by have:=hk.2;omega⟩)
theorem Vp.neY {w wr:World} {o:Obj} {PB:Nat→Prop} {vX vY:Value} {X Y:List (List Bool)} (h:Vp w o PB vX vY X Y wr):∀ k,wr.heap.size ≤ k→(¬ PB k∧w.heap.size < k)∧some k ≠ vY.ownBlock :=
 fun k hk=>⟨⟨fun e=>by have:=(h.pb k e).2;omega,by have:=Rc h.hx;omega⟩,fun e=>by have:=Kd.jam h.y k e.symm;omega⟩
theorem Vp.frY {w wr W:World} {o:Obj} {PB:Nat→Prop} {vX vY:Value} {X Y:List (List Bool)} (h:Vp w o PB vX vY X Y wr) (hb:Below wr.heap.size wr W):∀ k,W.heap.size ≤ k→¬ PB k∧w.heap.size < k:=fun k hk=>(h.neY k (Nat.le_trans hb.size hk)).1
theorem cW {W:World} {base N:Nat} {ok:Nat→Prop} {v:Value} {xs:List Bool} (ho:Kd.R Kd.bool 4 W N ok v xs) (hl:base ≤ N):(Kd.slice 4 Kd.bool).M W base ok xs [v]:=⟨v,rfl,Kd.Dd ho hl⟩
theorem Vp.forms {w wr:World} {o:Obj} {PB:Nat→Prop} {vX vY:Value} {n m:Nat} (h:Vp w o PB vX vY (List.replicate m (List.replicate n false)) (List.replicate m (List.replicate n false)) wr) (hm:0 < m) :
  ∃ gX cX gY cY,vX = .slice (some ⟨gX,0,none⟩) m cX∧vY = .slice (some ⟨gY,0,none⟩) m cY:=by
 obtain ⟨gX,cX,e1,-⟩:=Kd.mG h.x (by rw [List.length_replicate];exact hm);obtain ⟨gY,cY,e2,-⟩:=Kd.mG h.y (by rw [List.length_replicate];exact hm);rw [List.length_replicate] at e1 e2;exact ⟨gX,cX,gY,cY,e1,e2⟩
theorem Vp.Maj {w wr:World} {o:Obj} {PB:Nat→Prop} {vY:Value} {X Y:List (List Bool)} {gX m cX i s:Nat} (h:Vp w o PB (.slice (some ⟨gX,0,none⟩) m cX) vY X Y wr) (hi:i < m) (hs:s < (Ve X i).length) :
  ∃ (gi c:Nat),wr.cell? ⟨gX,i,none⟩=some (.slice (some ⟨gi,0,none⟩) (Ve X i).length c)∧wr.cell? ⟨gi,s,none⟩=some (.bool (seen (Ve X i) s))∧wr.frozen? ⟨gi,s,none⟩=false∧PB gi ∧
   ∀ b,Vp w o PB (.slice (some ⟨gX,0,none⟩) m cX) vY (X.set i ((Ve X i).set s b)) Y (wr.setCell ⟨gi,s,none⟩ (.bool b)):=by
 obtain ⟨gi,c,h1,h2,h3,h4,h5⟩:=D1 false h.x hi hs;refine ⟨gi,c,h1,h3,h4,h2,fun b=>?_⟩;obtain ⟨h6,hg⟩:=h5 b;have hb:=h.pb gi h2
 exact ⟨h.bl.grown hg (by omega) (fun k e=>by injection e with e;omega),ud h.hx hg (fun e=>by injection e with e;omega),h6,
  Kd.EA h.y hg (fun k hk e=>by injection e with e;exact hk.1 (e ▸ h2)),fun k hk=>⟨(h.pb k hk).1,Nat.lt_of_lt_of_le (h.pb k hk).2 hg.size⟩⟩
theorem Vp.q4 {w wr W:World} {o:Obj} {PB:Nat→Prop} {vX v:Value} {X Y:List (List Bool)} {gY m cY i:Nat} {ok:Nat→Prop} {xs:List Bool} (h:Vp w o PB vX (.slice (some ⟨gY,0,none⟩) m cY) X Y wr) (hb:Below wr.heap.size wr W) (hi:i < m) (hR:Kd.R Kd.bool 4 W wr.heap.size ok v xs) :
  Vp w o PB vX (.slice (some ⟨gY,0,none⟩) m cY) X (Y.set i xs) (W.setCell ⟨gY,i,none⟩ v):=by
 have h2:=h.below hb;have hl:=Rc h.hx;obtain ⟨h6,hg⟩:=Y0 (jI:=fun k=>wr.heap.size ≤ k) (h.okY hb) (fun k hk=>(h.neY k hk).1) hi (Kd.Dd (Kd.ze (Kd.Pg hR) (fun k hk=>hk.2.1)) (Nat.le_of_lt hl));have hy:=(Kd.oI h.y).1 gY rfl
 exact ⟨h2.bl.grown hg h2.bl.size (fun k e=>by injection e with e;omega),ud h2.hx hg (fun e=>by injection e with e;omega),Kd.EA h2.x hg (fun k hk e=>by injection e with e;exact hy.1 (e ▸ hk)),h6,
  fun k hk=>⟨(h2.pb k hk).1,Nat.lt_of_lt_of_le (h2.pb k hk).2 hg.size⟩⟩
theorem Vp.Haj {w wr:World} {o:Obj} {PB:Nat→Prop} {vY:Value} {X Y:List (List Bool)} {gX m cX i:Nat} (h:Vp w o PB (.slice (some ⟨gX,0,none⟩) m cX) vY X Y wr) (hi:i < m) :
  ∃ (A:Option Addr) (c:Nat),wr.cell? ⟨gX,i,none⟩=some (.slice A (Ve X i).length c)∧Kd.C Kd.bool wr A (Ve X i).length (Ve X i)∧(Ve X i).length ≤ c:=by
 obtain ⟨A,c,h1,_,h2⟩:=gR h.x hi;exact ⟨A,c,h1,(Kd.dc h2).2.2,(Kd.dc h2).2.1⟩
theorem Vp.mS {w wr:World} {o:Obj} {PB:Nat→Prop} {vX:Value} {X Y:List (List Bool)} {gY m cY i:Nat} (h:Vp w o PB vX (.slice (some ⟨gY,0,none⟩) m cY) X Y wr) (hi:i < m) :
  ∃ (A:Option Addr) (c:Nat),wr.cell? ⟨gY,i,none⟩=some (.slice A (Ve Y i).length c)∧wr.frozen? ⟨gY,i,none⟩=false∧(Ve Y i).length ≤ c∧Kd.C Kd.bool wr A (Ve Y i).length (Ve Y i)∧∀ W,Kept wr W PB→Kd.C Kd.bool W A (Ve Y i).length (Ve Y i):=by
 obtain ⟨A,c,h1,hf,h2⟩:=gR h.y hi;exact ⟨A,c,h1,hf,(Kd.dc h2).2.1,(Kd.dc h2).2.2,Kd.aC (S:=PB) h2 (fun k hk=>hk.1.1)⟩
structure LvS (bs:List We) (X Y:List (List Bool)) (C:Nat) (a:Bool) (q:Nat):Prop where
 le:C ≤ Io Y
 lt:a=true→C < Io Y
 so:a=false→∀ k,q ≤ k→k < bs.length→StE bs X Y k
structure K1 (bs:List We) (n:Nat) (X0 Y:List (List Bool)) (i:Nat) (X:List (List Bool)):Prop where
 inv:mC bs n X Y
 oth:∀ k,k ≠ i→Ve X k=Ve X0 k
def WR (ts:List Int) (j:Nat) (Y X:List (List Bool)) (i:Nat):Prop:=∀ t ∈ ts.take j,∀ u,seen (Ve Y t.toNat) u=true→seen (Ve X i) u=true
def TkS (t s:Nat) (Y X:List (List Bool)) (i:Nat):Prop:=∀ u,u < s→seen (Ve Y t) u=true→seen (Ve X i) u=true
section
variable {bs:List We} {n i s tn:Nat} {X0 X Y:List (List Bool)} {ts:List Int} {j:Nat}
theorem K1.step (h:K1 bs n X0 Y i X) (hE:Ox bs) (hi:i < bs.length) {t:Int} (ht:t ∈ Ip bs i) (htn:t=(tn:Int)) (hs:s < n) (hj:WR ts j Y X i) (hk:TkS tn s Y X i) :
  K1 bs n X0 Y i (X.set i ((Ve X i).set s (seen (Ve X i) s || seen (Ve Y tn) s)))∧WR ts j Y (X.set i ((Ve X i).set s (seen (Ve X i) s || seen (Ve Y tn) s))) i∧TkS tn (s + 1) Y (X.set i ((Ve X i).set s (seen (Ve X i) s || seen (Ve Y tn) s))) i:=by
 have hil:i < X.length:=by rw [h.inv.xl];exact hi
 have sK:s < (Ve X i).length:=by rw [h.inv.xr i hi];exact hs
 have h1:=h.inv.or hE hi ht hs;rw [htn,Int.toNat_natCast] at h1
 have hm:∀ u,seen (Ve X i) u=true→seen (Ve (X.set i ((Ve X i).set s (seen (Ve X i) s || seen (Ve Y tn) s))) i) u=true:=fun u hu=>by
  rw [Cp hil,if_pos rfl,qi sK]
  by_cases e:s=u
  ·subst e;rw [if_pos rfl,hu];rfl
  ·rw [if_neg e];exact hu
 refine ⟨⟨h1,fun k hk=>?_⟩,fun t ht u hu=>hm u (hj t ht u hu),fun u hu hy=>?_⟩
 ·rw [Cp hil,if_neg (fun e=>hk e.symm)];exact h.oth k hk
 ·by_cases e:s=u
  ·subst e;rw [Cp hil,if_pos rfl,qi sK,if_pos rfl,hy,Bool.or_true]
  ·exact hm u (hk u (by omega) hy)
theorem WR.next (h:WR ts j Y X i) (hj:j < ts.length) (ht:ts[j]=(tn:Int)) (hk:TkS tn (Ve Y tn).length Y X i):WR ts (j + 1) Y X i:=by
 intro t h1 u hu;rw [List.take_succ_eq_append_getElem hj,List.mem_append,List.mem_singleton] at h1
 rcases h1 with h1|h1
 ·exact h t h1 u hu
 ·rw [h1,ht,Int.toNat_natCast] at hu;exact hk u (Zr hu) hu
theorem LvS.next {C:Nat} {a:Bool} (h:LvS bs X0 Y C a (i + 1)) (hO:sr bs n) (hi:i < bs.length) (hr:K1 bs n X0 Y i X) (hj:WR (Ip bs i) (Ip bs i).length Y X i) :
  mC bs n X (Y.set i (zv (Oa bs (i:Int)) (Ve X i)))∧LvS bs X (Y.set i (zv (Oa bs (i:Int)) (Ve X i))) C (a || !decide (zv (Oa bs (i:Int)) (Ve X i)=Ve Y i)) i:=by
 have hil:i < Y.length:=by rw [hr.inv.yl];exact hi
 refine ⟨hr.inv.put hO hi,?_⟩
 by_cases he:zv (Oa bs (i:Int)) (Ve X i)=Ve Y i
 ·have hY:Y.set i (zv (Oa bs (i:Int)) (Ve X i))=Y:=by
   rw [he];apply List.ext_getElem (by simp);intro k h1 h2;rw [List.getElem_set]
   by_cases e:i=k
   ·subst e;simp [Ve,List.getD_eq_getElem?_getD,h2]
   ·rw [if_neg e]
  rw [hY,decide_eq_true he];refine ⟨h.le,fun ha=>h.lt (by simpa using ha),fun ha k hk1 hk2=>?_⟩
  by_cases e:k=i
  ·subst e;exact ⟨fun t ht u hu=>hj t (by rw [List.take_length];exact ht) u hu,he.symm⟩
  ·have:=h.so (by simpa using ha) k (by omega) hk2;unfold StE at this ⊢;rw [hr.oth k e];exact this
 ·have:=hr.inv.grow hO hi he;rw [decide_eq_false he];exact ⟨by have:=h.le;omega,fun _=>by have:=h.le;omega,fun ha=>by simp at ha⟩
end
theorem mC.cnt {bs:List We} {n:Nat} {X Y:List (List Bool)} (h:mC bs n X Y):Io Y ≤ n * bs.length:=by
 have:=bG (m:=n) Y (fun i hi=>by rw [h.yr i (by rw [← h.yl];exact hi)];exact Nat.le_refl _)
 rwa [h.yl] at this
abbrev gW (Za:Option Addr) (n0 gb:Nat) (La Ja:Int) (n:Nat) (Vb:Option Addr) (n4 Lb:Nat):Obj:=.cells #[.slice Za n0 gb,.int .i64 La,.int .i64 Ja,.int .i64 (n:Int),.slice Vb n4 Lb] 30 (0,0)
theorem fW {w wr:World} {PB:Nat→Prop} {vX vY:Value} {X Y:List (List Bool)} {Za Vb:Option Addr} {n0 c0 n n4 c4:Nat} {a1 a2:Int} (h:Vp w (gW Za n0 c0 a1 a2 n Vb n4 c4) PB vX vY X Y wr):wr.cell? ⟨w.heap.size,3,none⟩=some (.int .i64 (n:Int)):=(ga h.hx 3).trans rfl
theorem gP {w wr:World} {PB:Nat→Prop} {vX vY:Value} {X Y:List (List Bool)} {Za Vb:Option Addr} {n0 c0 n n4 c4:Nat} {a1 a2:Int} (h:Vp w (gW Za n0 c0 a1 a2 n Vb n4 c4) PB vX vY X Y wr):wr.cell? ⟨w.heap.size,4,none⟩=some (.slice Vb n4 c4):=(ga h.hx 4).trans rfl
theorem CS {bs:List We} (hE:Ox bs) {b j:Nat} (hb:b < bs.length) (hj:j < (Ip bs b).length) {A:Option Addr} {W:World} (hC:Kd.C (Kd.int .i64) W A (Ip bs b).length (Ip bs b)) :
  ∃ (ad:Addr) (t:Nat),A=some ad∧(Ip bs b)[j]=(t:Int)∧t < bs.length∧W.cell? (ad.add j)=some (.int .i64 (t:Int)):=by
 obtain ⟨t0,t1⟩:=hE.2.2 b hb _ (List.getElem_mem hj);obtain ⟨ad,e1,hx⟩:=Kd.ek hC (j:Int) (by omega) (by omega);rw [Int.toNat_natCast,bq hj] at hx;exact ⟨ad,((Ip bs b)[j]).toNat,e1,(Int.toNat_of_nonneg t0).symm,by omega,by rw [Int.toNat_of_nonneg t0];exact hx⟩
theorem DS {xs:List Bool} {A:Option Addr} {W:World} {s:Nat} (hC:Kd.C Kd.bool W A xs.length xs) (hs:s < xs.length):∃ ad:Addr,A=some ad∧W.cell? (ad.add s)=some (.bool (seen xs s)):=by
 obtain ⟨ad,e1,hx⟩:=Kd.jj hC (s:Int) (by omega) (by omega);rw [Int.toNat_natCast] at hx;exact ⟨ad,e1,hx⟩
def nI (code:List ye) (q:Nat) (s:List Bool):List Bool:=(code.drop q).foldr (fun x s=>gr s x) s
theorem gG (code:List ye) (q:Nat) (s:List Bool):(nI code q s).length=s.length:=Ly _ _
theorem iG (code:List ye) (s:List Bool):nI code code.length s=s:=by unfold nI;rw [List.drop_length];rfl
theorem OB {code:List ye} {q:Nat} (h:q < code.length) (s:List Bool):nI code q s=gr (nI code (q + 1) s) (Ca code (q:Int)):=by
 unfold nI;rw [List.drop_eq_getElem_cons h,List.foldr_cons,uu h]
theorem MH (b:We) (s:List Bool):nI b.f0 0 (Ep b s)=zv b s:=rfl
theorem Fu {bs:List We} {n i:Nat} (hO:sr bs n) (hi:i < bs.length):zu n (Oa bs (i:Int)):=by
 rw [Jg hi];exact hO.2.2 _ (List.getElem_mem hi)
theorem KI {n q:Nat} {b:We} (h:zu n b) (hq:q < b.f0.length):rB n (Ca b.f0 (q:Int)):=by
 rw [uu hq];exact h.2.2 _ (List.getElem_mem hq)
theorem E1 {W:World} {base n c u:Nat} {ok:Nat→Prop} {A:Option Addr} {xs:List Bool} (h:Kd.R Kd.bool 4 W base ok (.slice A n c) xs) (hu:u < xs.length) :
  ∃ g,A=some ⟨g,0,none⟩∧base ≤ g∧W.cell? ⟨g,u,none⟩=some (.bool (seen xs u))∧W.frozen? ⟨g,u,none⟩=false∧∀ b,Kd.R Kd.bool 4 (W.setCell ⟨g,u,none⟩ (.bool b)) base ok (.slice A n c) (xs.set u b)∧W.grownBy (W.setCell ⟨g,u,none⟩ (.bool b)) (some g):=by
 obtain ⟨g,cap,e,hb,-⟩:=Kd.Wl h (by omega);injection e with e1 e2 e3
 subst e1;obtain ⟨r1,r2⟩:=Kd.Ej false h (u:Int) (by omega) (by omega);rw [Int.toNat_natCast] at r1 r2;refine ⟨g,rfl,hb,r1,r2,fun b=>?_⟩;have:=Kd.Mo h (u:Int) b
 rwa [Int.toNat_natCast] at this
end Go.Proofs.Ytkigbdceceeenaa.P
end
