import Derived.Test.YtmifdccaajngcaaQFresh1
import Derived.Test.YtmifdccaajngcaaQFresh6
import Derived.Shelf.Abstract
import Derived.Outline
section
namespace Go.Proofs.Ytmifdccaajngcaa.P
open Go.RowKit Go.Proofs.Ca.xb Go.Proofs.Ca.Xb Go.Proofs.Ca.ic
attribute [local go_sem] Vd Td we ue Dd Cd Ud Sd
set_option linter.unusedVariables false
set_option linter.unusedSimpArgs false
def bf.f (k:Nat) (Ra:List (Jh)) (Ja:Int) (Ma:Int) (Oa:Int) (fc:Int) (Xc:List (Jh)) (Lb:Int) (Sb:Int) (Ub:Int) (Fc:Int):Option (Bool):=(Ob.f k Ra Xc).bind fun t103=>(if t103=true then (if Ja=Lb then (if Ma=Sb then (if Oa=Ub then (if fc=Fc then (some true) else (some false)) else (some false)) else (some false)) else (some false)) else (some false))
theorem bf.mono:∀ a0 a1 a2 a3 a4 a5 a6 a7 a8 a9 k,mc (bf.f k a0 a1 a2 a3 a4 a5 a6 a7 a8 a9) (bf.f (k + 1) a0 a1 a2 a3 a4 a5 a6 a7 a8 a9):=by
 intro a0 a1 a2 a3 a4 a5 a6 a7 a8 a9 k
 unfold bf.f
 repeat' first
   | (with_reducible exact Ob.mono _ _ _)
   | (with_reducible exact mc.refl _)
   | (with_reducible exact mc.none _)
   | (with_reducible refine mc.ite ?_ ?_)
   | (with_reducible refine mc.bind ?_ (fun _=>?_))
   | exact Ob.mono _ _ _
   | exact mc.none _
   | refine mc.ite ?_ ?_
   | refine mc.bind ?_ (fun _=>?_)
set_option maxHeartbeats 8000000 in
set_option maxRecDepth 100000 in
theorem bf.calls (k:Nat) (Ib:Option Addr) (Gb:Nat) (Ra:List (Jh)) (Ja:Int) (Ma:Int) (Oa:Int) (fc:Int) (Ze:Option Addr) (Re:Nat) (Xc:List (Jh)) (Lb:Int) (Sb:Int) (Ub:Int) (Fc:Int) (r:Bool) (w:World) (zf:Kd.C Ro w Ib Ra.length Ra) (uf:Ra.length ≤ Gb) (Yq:Kd.C Ro w Ze Xc.length Xc) (Zq:Xc.length ≤ Re) (h:bf.f k Ra Ja Ma Oa fc Xc Lb Sb Ub Fc=some r) :
  Calls Try.prog 93 #[.agg #[.slice Ib Ra.length Gb,.int .i64 Ja,.int .i64 Ma,.int .i64 Oa,.int .i64 fc],.agg #[.slice Ze Xc.length Re,.int .i64 Lb,.int .i64 Sb,.int .i64 Ub,.int .i64 Fc]] w fun e w'=>e = .returned (.bool r)∧Below w.heap.size w w':=by
 have NG:=Try.underlying68
 have Ve:=qa.mk zf
 have gf:=qa.mk uf
 clear zf uf
 have Qk:=qa.mk Yq
 have jn:=qa.mk Zq
 clear Yq Zq
 have HB:=qa.mk (Below.refl w.heap.size w)
 have H:((Ob.f k Ra Xc).bind fun t103=>(if t103=true then (if Ja=Lb then (if Ma=Sb then (if Oa=Ub then (if fc=Fc then (some true) else (some false)) else (some false)) else (some false)) else (some false)) else (some false)))=some r:=h
 clear h
 replace H:=Option.bind_eq_some_iff.mp H
 obtain ⟨t103,Ht,H⟩:=H
 replace H:(if t103=true then (if Ja=Lb then (if Ma=Sb then (if Oa=Ub then (if fc=Fc then (some true) else (some false)) else (some false)) else (some false)) else (some false)) else (some false))=some r:=H
 have A3:=qa.mk Ht
 clear Ht
 by_cases c4:t103=true
 ·subst c4
  have H1:(if Ja=Lb then (if Ma=Sb then (if Oa=Ub then (if fc=Fc then (some true) else (some false)) else (some false)) else (some false)) else (some false))=some r:=by rw [if_pos rfl] at H;exact H
  clear H
  have H:=H1
  clear H1
  by_cases c5:Ja=Lb
  ·rw [if_pos c5] at H
   have Hl:(Ja == Lb)=true:=beq_iff_eq.mpr c5
   have Yt:(Ja != Lb)=false:=bne_eq_false_iff_eq.mpr c5
   clear c5
   by_cases c6:Ma=Sb
   ·rw [if_pos c6] at H
    have rm:(Ma == Sb)=true:=beq_iff_eq.mpr c6
    have jx:(Ma != Sb)=false:=bne_eq_false_iff_eq.mpr c6
    clear c6
    by_cases c7:Oa=Ub
    ·rw [if_pos c7] at H
     have Wo:(Oa == Ub)=true:=beq_iff_eq.mpr c7
     have gx:(Oa != Ub)=false:=bne_eq_false_iff_eq.mpr c7
     clear c7
     by_cases c8:fc=Fc
     ·rw [if_pos c8] at H
      have Mn:(fc == Fc)=true:=beq_iff_eq.mpr c8
      have Xt:(fc != Fc)=false:=bne_eq_false_iff_eq.mpr c8
      clear c8
      obtain rfl:=Option.some.inj H
      go_enter Try.func93,Try.ntmps93
      go_wp2_with (first|((with_reducible refine Mb (N:=2) rfl ?_);refine Jb ?hg (N:=2) ?hd (cs:=#[.slice Ib Ra.length Gb,.int .i64 Ja,.int .i64 Ma,.int .i64 Oa,.int .i64 fc]) (t:=68) ?hr ?_;(case hd=>rfl);(case hg=>rfl);(case hr=>first|(go_simp;done)|(go_simp;rfl));intro Fa hg w9 Qb hb;have Pb:=qa.mk (Pa (by repeat (first|(with_reducible first|exact HB.out|apply ia|apply ja|apply za)|exact HB.out)) hb);have Wb:=qa.mk (Qb);have nc:=qa.mk ((by rw [hg];exact (Na (by repeat (first|(with_reducible first|exact HB.out|apply ia|apply ja|apply za)|exact HB.out))):w.heap.size ≤ Fa));have Nc:=qa.mk ((by rw [hg];exact (Na (by repeat (first|(with_reducible first|exact HB.out|apply ia|apply ja|apply za)|exact HB.out))):w.heap.size ≤ Fa));clear HB;have HB:=Pb;have ua:=Wb;have Nd:=nc;have Va:=Nc;clear Pb Wb nc Nc;clear hb Qb hg)|((with_reducible refine Mb (N:=3) rfl ?_);refine Jb ?hg (N:=3) ?hd (cs:=#[.slice Ze Xc.length Re,.int .i64 Lb,.int .i64 Sb,.int .i64 Ub,.int .i64 Fc]) (t:=68) ?hr ?_;(case hd=>rfl);(case hg=>rfl);(case hr=>first|(go_simp;done)|(go_simp;rfl));intro Ia hg Qo Qb hb;have Pb:=qa.mk (Wa (g:=Fa) (o:=.cells #[.slice Ib Ra.length Gb,.int .i64 Ja,.int .i64 Ma,.int .i64 Oa,.int .i64 fc] 68 (0,0)) (by (with_reducible repeat (first|refine Ea ?_ _|refine Ga ?_|refine Da ?_ _));exact ua.out) hb);have Wb:=qa.mk (Pa (by repeat (first|(with_reducible first|exact HB.out|apply ia|apply ja|apply za|refine Aa ?_ Va.out)|exact HB.out)) hb);have nc:=qa.mk (Qb);have Nc:=qa.mk ((by rw [hg];exact (Na (by repeat (first|(with_reducible first|exact HB.out|apply ia|apply ja|apply za|refine Aa ?_ Va.out)|exact HB.out))):w.heap.size ≤ Ia));have qe:=qa.mk ((by rw [hg];exact (Na (by repeat (first|(with_reducible first|exact HB.out|apply ia|apply ja|apply za|refine Aa ?_ Va.out)|exact HB.out))):w.heap.size ≤ Ia));have lf:=qa.mk ((by rw [hg];exact Nat.ne_of_lt (Ac (g:=Fa) (o:=.cells #[.slice Ib Ra.length Gb,.int .i64 Ja,.int .i64 Ma,.int .i64 Oa,.int .i64 fc] 68 (0,0)) (by (with_reducible repeat (first|refine Ea ?_ _|refine Ga ?_|refine Da ?_ _));exact ua.out)):Fa ≠ Ia));have Hf:=qa.mk ((by rw [hg];exact Nat.ne_of_gt (Ac (g:=Fa) (o:=.cells #[.slice Ib Ra.length Gb,.int .i64 Ja,.int .i64 Ma,.int .i64 Oa,.int .i64 fc] 68 (0,0)) (by (with_reducible repeat (first|refine Ea ?_ _|refine Ga ?_|refine Da ?_ _));exact ua.out)):Ia ≠ Fa));clear ua;clear HB;have ua:=Pb;have HB:=Wb;have Ba:=nc;have Je:=Nc;have Vb:=qe;have Sa:=lf;have qb:=Hf;clear Pb Wb nc Nc qe lf Hf;clear hb Qb hg;have RS:=Sa.out;have tS:=qb.out;have xw:Qo.cell? ⟨Fa,0,none⟩=some (.slice Ib Ra.length Gb):=(ga ua.out 0).trans rfl;have vw:Qo.cell? ⟨Fa,1,none⟩=some (.int .i64 Ja):=(ga ua.out 1).trans rfl;have uw:Qo.cell? ⟨Fa,2,none⟩=some (.int .i64 Ma):=(ga ua.out 2).trans rfl;have tw:Qo.cell? ⟨Fa,3,none⟩=some (.int .i64 Oa):=(ga ua.out 3).trans rfl;have sw:Qo.cell? ⟨Fa,4,none⟩=some (.int .i64 fc):=(ga ua.out 4).trans rfl;have Gv:=aa ua.out 0;have Fv:=aa ua.out 1;have Dv:=aa ua.out 2;have Cv:=aa ua.out 3;have Bv:=aa ua.out 4;have Lj:Qo.cell? ⟨Ia,0,none⟩=some (.slice Ze Xc.length Re):=(ga Ba.out 0).trans rfl;have Kj:Qo.cell? ⟨Ia,1,none⟩=some (.int .i64 Lb):=(ga Ba.out 1).trans rfl;have Gq:Qo.cell? ⟨Ia,2,none⟩=some (.int .i64 Sb):=(ga Ba.out 2).trans rfl;have Fq:Qo.cell? ⟨Ia,3,none⟩=some (.int .i64 Ub):=(ga Ba.out 3).trans rfl;have Dq:Qo.cell? ⟨Ia,4,none⟩=some (.int .i64 Fc):=(ga Ba.out 4).trans rfl;have Jj:=aa Ba.out 0;have Ij:=aa Ba.out 1;have pq:=aa Ba.out 2;have oq:=aa Ba.out 3;have mq:=aa Ba.out 4)|((with_reducible refine Bb (f:=120) rfl ?_);refine jd (some 9) rfl rfl Try.func120 (by kernel_rfl) rfl #[.slice Ib Ra.length Gb,.slice Ze Xc.length Re] rfl (by (try simp only [List.map_toArray,List.map_cons,List.map_nil]);first|done|rfl|(simp only [List.length_drop,List.length_take];rfl)) ?_;(with_reducible refine (Ob.calls k _ _ Ra _ _ Xc true _ ?side1 ?side2 ?side3 ?side4 A3.out).mono ?_);(case side1=>repeat (first|exact (Kd.Yb Ve.out HB.out)|(with_reducible refine Kd.yc ?_ _)|(with_reducible refine Kd.uc ?_ _)|(with_reducible refine Kd.Sc ?_)));(case side2=>exact gf.out);(case side3=>repeat (first|exact (Kd.Yb Qk.out HB.out)|(with_reducible refine Kd.yc ?_ _)|(with_reducible refine Kd.uc ?_ _)|(with_reducible refine Kd.Sc ?_)));(case side4=>exact jn.out);rintro e TC ⟨rfl,hb⟩;refine ⟨_,rfl,?_⟩;have Pb:=qa.mk (Wa (g:=Fa) (o:=.cells #[.slice Ib Ra.length Gb,.int .i64 Ja,.int .i64 Ma,.int .i64 Oa,.int .i64 fc] 68 (0,0)) (by (with_reducible repeat (first|refine Ea ?_ _|refine Ga ?_|refine Da ?_ _));exact ua.out) hb);have Wb:=qa.mk (Wa (g:=Ia) (o:=.cells #[.slice Ze Xc.length Re,.int .i64 Lb,.int .i64 Sb,.int .i64 Ub,.int .i64 Fc] 68 (0,0)) (by (with_reducible repeat (first|refine Ea ?_ _|refine Ga ?_|refine Da ?_ _));exact Ba.out) hb);have nc:=qa.mk (Pa (by repeat (first|(with_reducible first|exact HB.out|apply ia|apply ja|apply za|refine Aa ?_ Va.out|refine Aa ?_ Vb.out)|exact HB.out)) hb);clear ua;clear Ba;clear HB;have ua:=Pb;have Ba:=Wb;have HB:=nc;clear Pb Wb nc;(try clear hb);(try clear hb2);(try clear hk);(try clear hi);have qw:TC.cell? ⟨Fa,0,none⟩=some (.slice Ib Ra.length Gb):=(ga ua.out 0).trans rfl;have ow:TC.cell? ⟨Fa,1,none⟩=some (.int .i64 Ja):=(ga ua.out 1).trans rfl;have nw:TC.cell? ⟨Fa,2,none⟩=some (.int .i64 Ma):=(ga ua.out 2).trans rfl;have mw:TC.cell? ⟨Fa,3,none⟩=some (.int .i64 Oa):=(ga ua.out 3).trans rfl;have jw:TC.cell? ⟨Fa,4,none⟩=some (.int .i64 fc):=(ga ua.out 4).trans rfl;have Av:=aa ua.out 0;have wv:=aa ua.out 1;have vv:=aa ua.out 2;have tv:=aa ua.out 3;have qv:=aa ua.out 4;have uk:TC.cell? ⟨Ia,0,none⟩=some (.slice Ze Xc.length Re):=(ga Ba.out 0).trans rfl;have qk:TC.cell? ⟨Ia,1,none⟩=some (.int .i64 Lb):=(ga Ba.out 1).trans rfl;have jt:TC.cell? ⟨Ia,2,none⟩=some (.int .i64 Sb):=(ga Ba.out 2).trans rfl;have ct:TC.cell? ⟨Ia,3,none⟩=some (.int .i64 Ub):=(ga Ba.out 3).trans rfl;have bt:TC.cell? ⟨Ia,4,none⟩=some (.int .i64 Fc):=(ga Ba.out 4).trans rfl;have fk:=aa Ba.out 0;have ek:=aa Ba.out 1;have Gs:=aa Ba.out 2;have Fs:=aa Ba.out 3;have Es:=aa Ba.out 4))
      go_ret
      exact ⟨by first|rfl|(simp [La,Ka] <;> rfl)|(simp [*,La,Ka] <;> rfl),by repeat (first|(with_reducible first|exact HB.out|apply ia|apply ja|apply za|refine Aa ?_ Va.out|refine Aa ?_ Vb.out)|exact HB.out)⟩
     ·rw [if_neg c8] at H
      have Mn:(fc == Fc)=false:=beq_eq_false_iff_ne.mpr c8
      have Xt:(fc != Fc)=true:=bne_iff_ne.mpr c8
      obtain rfl:=Option.some.inj H
      go_enter Try.func93,Try.ntmps93
      go_wp2_with (first|((with_reducible refine Mb (N:=2) rfl ?_);refine Jb ?hg (N:=2) ?hd (cs:=#[.slice Ib Ra.length Gb,.int .i64 Ja,.int .i64 Ma,.int .i64 Oa,.int .i64 fc]) (t:=68) ?hr ?_;(case hd=>rfl);(case hg=>rfl);(case hr=>first|(go_simp;done)|(go_simp;rfl));intro Fa hg iA Qb hb;have Pb:=qa.mk (Pa (by repeat (first|(with_reducible first|exact HB.out|apply ia|apply ja|apply za)|exact HB.out)) hb);have Wb:=qa.mk (Qb);have nc:=qa.mk ((by rw [hg];exact (Na (by repeat (first|(with_reducible first|exact HB.out|apply ia|apply ja|apply za)|exact HB.out))):w.heap.size ≤ Fa));have Nc:=qa.mk ((by rw [hg];exact (Na (by repeat (first|(with_reducible first|exact HB.out|apply ia|apply ja|apply za)|exact HB.out))):w.heap.size ≤ Fa));clear HB;have HB:=Pb;have ua:=Wb;have Nd:=nc;have Va:=Nc;clear Pb Wb nc Nc;clear hb Qb hg)|((with_reducible refine Mb (N:=3) rfl ?_);refine Jb ?hg (N:=3) ?hd (cs:=#[.slice Ze Xc.length Re,.int .i64 Lb,.int .i64 Sb,.int .i64 Ub,.int .i64 Fc]) (t:=68) ?hr ?_;(case hd=>rfl);(case hg=>rfl);(case hr=>first|(go_simp;done)|(go_simp;rfl));intro Ia hg jB Qb hb;have Pb:=qa.mk (Wa (g:=Fa) (o:=.cells #[.slice Ib Ra.length Gb,.int .i64 Ja,.int .i64 Ma,.int .i64 Oa,.int .i64 fc] 68 (0,0)) (by (with_reducible repeat (first|refine Ea ?_ _|refine Ga ?_|refine Da ?_ _));exact ua.out) hb);have Wb:=qa.mk (Pa (by repeat (first|(with_reducible first|exact HB.out|apply ia|apply ja|apply za|refine Aa ?_ Va.out)|exact HB.out)) hb);have nc:=qa.mk (Qb);have Nc:=qa.mk ((by rw [hg];exact (Na (by repeat (first|(with_reducible first|exact HB.out|apply ia|apply ja|apply za|refine Aa ?_ Va.out)|exact HB.out))):w.heap.size ≤ Ia));have qe:=qa.mk ((by rw [hg];exact (Na (by repeat (first|(with_reducible first|exact HB.out|apply ia|apply ja|apply za|refine Aa ?_ Va.out)|exact HB.out))):w.heap.size ≤ Ia));have lf:=qa.mk ((by rw [hg];exact Nat.ne_of_lt (Ac (g:=Fa) (o:=.cells #[.slice Ib Ra.length Gb,.int .i64 Ja,.int .i64 Ma,.int .i64 Oa,.int .i64 fc] 68 (0,0)) (by (with_reducible repeat (first|refine Ea ?_ _|refine Ga ?_|refine Da ?_ _));exact ua.out)):Fa ≠ Ia));have Hf:=qa.mk ((by rw [hg];exact Nat.ne_of_gt (Ac (g:=Fa) (o:=.cells #[.slice Ib Ra.length Gb,.int .i64 Ja,.int .i64 Ma,.int .i64 Oa,.int .i64 fc] 68 (0,0)) (by (with_reducible repeat (first|refine Ea ?_ _|refine Ga ?_|refine Da ?_ _));exact ua.out)):Ia ≠ Fa));clear ua;clear HB;have ua:=Pb;have HB:=Wb;have Ba:=nc;have Je:=Nc;have Vb:=qe;have Sa:=lf;have qb:=Hf;clear Pb Wb nc Nc qe lf Hf;clear hb Qb hg;have PS:=Sa.out;have rS:=qb.out;have qN:jB.cell? ⟨Fa,0,none⟩=some (.slice Ib Ra.length Gb):=(ga ua.out 0).trans rfl;have pN:jB.cell? ⟨Fa,1,none⟩=some (.int .i64 Ja):=(ga ua.out 1).trans rfl;have oN:jB.cell? ⟨Fa,2,none⟩=some (.int .i64 Ma):=(ga ua.out 2).trans rfl;have nN:jB.cell? ⟨Fa,3,none⟩=some (.int .i64 Oa):=(ga ua.out 3).trans rfl;have mN:jB.cell? ⟨Fa,4,none⟩=some (.int .i64 fc):=(ga ua.out 4).trans rfl;have LL:=aa ua.out 0;have KL:=aa ua.out 1;have JL:=aa ua.out 2;have IL:=aa ua.out 3;have HL:=aa ua.out 4;have cw:jB.cell? ⟨Ia,0,none⟩=some (.slice Ze Xc.length Re):=(ga Ba.out 0).trans rfl;have bw:jB.cell? ⟨Ia,1,none⟩=some (.int .i64 Lb):=(ga Ba.out 1).trans rfl;have R8:jB.cell? ⟨Ia,2,none⟩=some (.int .i64 Sb):=(ga Ba.out 2).trans rfl;have Q8:jB.cell? ⟨Ia,3,none⟩=some (.int .i64 Ub):=(ga Ba.out 3).trans rfl;have P8:jB.cell? ⟨Ia,4,none⟩=some (.int .i64 Fc):=(ga Ba.out 4).trans rfl;have Zu:=aa Ba.out 0;have Yu:=aa Ba.out 1;have C3:=aa Ba.out 2;have B3:=aa Ba.out 3;have z3:=aa Ba.out 4)|((with_reducible refine Bb (f:=120) rfl ?_);refine jd (some 9) rfl rfl Try.func120 (by kernel_rfl) rfl #[.slice Ib Ra.length Gb,.slice Ze Xc.length Re] rfl (by (try simp only [List.map_toArray,List.map_cons,List.map_nil]);first|done|rfl|(simp only [List.length_drop,List.length_take];rfl)) ?_;(with_reducible refine (Ob.calls k _ _ Ra _ _ Xc true _ ?side1 ?side2 ?side3 ?side4 A3.out).mono ?_);(case side1=>repeat (first|exact (Kd.Yb Ve.out HB.out)|(with_reducible refine Kd.yc ?_ _)|(with_reducible refine Kd.uc ?_ _)|(with_reducible refine Kd.Sc ?_)));(case side2=>exact gf.out);(case side3=>repeat (first|exact (Kd.Yb Qk.out HB.out)|(with_reducible refine Kd.yc ?_ _)|(with_reducible refine Kd.uc ?_ _)|(with_reducible refine Kd.Sc ?_)));(case side4=>exact jn.out);rintro e iH ⟨rfl,hb⟩;refine ⟨_,rfl,?_⟩;have Pb:=qa.mk (Wa (g:=Fa) (o:=.cells #[.slice Ib Ra.length Gb,.int .i64 Ja,.int .i64 Ma,.int .i64 Oa,.int .i64 fc] 68 (0,0)) (by (with_reducible repeat (first|refine Ea ?_ _|refine Ga ?_|refine Da ?_ _));exact ua.out) hb);have Wb:=qa.mk (Wa (g:=Ia) (o:=.cells #[.slice Ze Xc.length Re,.int .i64 Lb,.int .i64 Sb,.int .i64 Ub,.int .i64 Fc] 68 (0,0)) (by (with_reducible repeat (first|refine Ea ?_ _|refine Ga ?_|refine Da ?_ _));exact Ba.out) hb);have nc:=qa.mk (Pa (by repeat (first|(with_reducible first|exact HB.out|apply ia|apply ja|apply za|refine Aa ?_ Va.out|refine Aa ?_ Vb.out)|exact HB.out)) hb);clear ua;clear Ba;clear HB;have ua:=Pb;have Ba:=Wb;have HB:=nc;clear Pb Wb nc;(try clear hb);(try clear hb2);(try clear hk);(try clear hi);have Mi:iH.cell? ⟨Fa,0,none⟩=some (.slice Ib Ra.length Gb):=(ga ua.out 0).trans rfl;have Li:iH.cell? ⟨Fa,1,none⟩=some (.int .i64 Ja):=(ga ua.out 1).trans rfl;have Tm:iH.cell? ⟨Fa,2,none⟩=some (.int .i64 Ma):=(ga ua.out 2).trans rfl;have Sm:iH.cell? ⟨Fa,3,none⟩=some (.int .i64 Oa):=(ga ua.out 3).trans rfl;have Rm:iH.cell? ⟨Fa,4,none⟩=some (.int .i64 fc):=(ga ua.out 4).trans rfl;have Ii:=aa ua.out 0;have Hi:=aa ua.out 1;have Fm:=aa ua.out 2;have Em:=aa ua.out 3;have Dm:=aa ua.out 4;have nk:iH.cell? ⟨Ia,0,none⟩=some (.slice Ze Xc.length Re):=(ga Ba.out 0).trans rfl;have jk:iH.cell? ⟨Ia,1,none⟩=some (.int .i64 Lb):=(ga Ba.out 1).trans rfl;have Cq:iH.cell? ⟨Ia,2,none⟩=some (.int .i64 Sb):=(ga Ba.out 2).trans rfl;have Bq:iH.cell? ⟨Ia,3,none⟩=some (.int .i64 Ub):=(ga Ba.out 3).trans rfl;have Aq:iH.cell? ⟨Ia,4,none⟩=some (.int .i64 Fc):=(ga Ba.out 4).trans rfl;have ck:=aa Ba.out 0;have bk:=aa Ba.out 1;have lq:=aa Ba.out 2;have jq:=aa Ba.out 3;have iq:=aa Ba.out 4))
      go_ret
      exact ⟨by first|rfl|(simp [La,Ka] <;> rfl)|(simp [*,La,Ka] <;> rfl),by repeat (first|(with_reducible first|exact HB.out|apply ia|apply ja|apply za|refine Aa ?_ Va.out|refine Aa ?_ Vb.out)|exact HB.out)⟩
    ·rw [if_neg c7] at H
     have Wo:(Oa == Ub)=false:=beq_eq_false_iff_ne.mpr c7
     have gx:(Oa != Ub)=true:=bne_iff_ne.mpr c7
     obtain rfl:=Option.some.inj H
     go_enter Try.func93,Try.ntmps93
     go_wp2_with (first|((with_reducible refine Mb (N:=2) rfl ?_);refine Jb ?hg (N:=2) ?hd (cs:=#[.slice Ib Ra.length Gb,.int .i64 Ja,.int .i64 Ma,.int .i64 Oa,.int .i64 fc]) (t:=68) ?hr ?_;(case hd=>rfl);(case hg=>rfl);(case hr=>first|(go_simp;done)|(go_simp;rfl));intro Fa hg w25 Qb hb;have Pb:=qa.mk (Pa (by repeat (first|(with_reducible first|exact HB.out|apply ia|apply ja|apply za)|exact HB.out)) hb);have Wb:=qa.mk (Qb);have nc:=qa.mk ((by rw [hg];exact (Na (by repeat (first|(with_reducible first|exact HB.out|apply ia|apply ja|apply za)|exact HB.out))):w.heap.size ≤ Fa));have Nc:=qa.mk ((by rw [hg];exact (Na (by repeat (first|(with_reducible first|exact HB.out|apply ia|apply ja|apply za)|exact HB.out))):w.heap.size ≤ Fa));clear HB;have HB:=Pb;have ua:=Wb;have Nd:=nc;have Va:=Nc;clear Pb Wb nc Nc;clear hb Qb hg)|((with_reducible refine Mb (N:=3) rfl ?_);refine Jb ?hg (N:=3) ?hd (cs:=#[.slice Ze Xc.length Re,.int .i64 Lb,.int .i64 Sb,.int .i64 Ub,.int .i64 Fc]) (t:=68) ?hr ?_;(case hd=>rfl);(case hg=>rfl);(case hr=>first|(go_simp;done)|(go_simp;rfl));intro Ia hg Sq Qb hb;have Pb:=qa.mk (Wa (g:=Fa) (o:=.cells #[.slice Ib Ra.length Gb,.int .i64 Ja,.int .i64 Ma,.int .i64 Oa,.int .i64 fc] 68 (0,0)) (by (with_reducible repeat (first|refine Ea ?_ _|refine Ga ?_|refine Da ?_ _));exact ua.out) hb);have Wb:=qa.mk (Pa (by repeat (first|(with_reducible first|exact HB.out|apply ia|apply ja|apply za|refine Aa ?_ Va.out)|exact HB.out)) hb);have nc:=qa.mk (Qb);have Nc:=qa.mk ((by rw [hg];exact (Na (by repeat (first|(with_reducible first|exact HB.out|apply ia|apply ja|apply za|refine Aa ?_ Va.out)|exact HB.out))):w.heap.size ≤ Ia));have qe:=qa.mk ((by rw [hg];exact (Na (by repeat (first|(with_reducible first|exact HB.out|apply ia|apply ja|apply za|refine Aa ?_ Va.out)|exact HB.out))):w.heap.size ≤ Ia));have lf:=qa.mk ((by rw [hg];exact Nat.ne_of_lt (Ac (g:=Fa) (o:=.cells #[.slice Ib Ra.length Gb,.int .i64 Ja,.int .i64 Ma,.int .i64 Oa,.int .i64 fc] 68 (0,0)) (by (with_reducible repeat (first|refine Ea ?_ _|refine Ga ?_|refine Da ?_ _));exact ua.out)):Fa ≠ Ia));have Hf:=qa.mk ((by rw [hg];exact Nat.ne_of_gt (Ac (g:=Fa) (o:=.cells #[.slice Ib Ra.length Gb,.int .i64 Ja,.int .i64 Ma,.int .i64 Oa,.int .i64 fc] 68 (0,0)) (by (with_reducible repeat (first|refine Ea ?_ _|refine Ga ?_|refine Da ?_ _));exact ua.out)):Ia ≠ Fa));clear ua;clear HB;have ua:=Pb;have HB:=Wb;have Ba:=nc;have Je:=Nc;have Vb:=qe;have Sa:=lf;have qb:=Hf;clear Pb Wb nc Nc qe lf Hf;clear hb Qb hg;have cO:=Sa.out;have XN:=qb.out;have lN:Sq.cell? ⟨Fa,0,none⟩=some (.slice Ib Ra.length Gb):=(ga ua.out 0).trans rfl;have kN:Sq.cell? ⟨Fa,1,none⟩=some (.int .i64 Ja):=(ga ua.out 1).trans rfl;have jN:Sq.cell? ⟨Fa,2,none⟩=some (.int .i64 Ma):=(ga ua.out 2).trans rfl;have iN:Sq.cell? ⟨Fa,3,none⟩=some (.int .i64 Oa):=(ga ua.out 3).trans rfl;have gN:Sq.cell? ⟨Fa,4,none⟩=some (.int .i64 fc):=(ga ua.out 4).trans rfl;have GL:=aa ua.out 0;have FL:=aa ua.out 1;have EL:=aa ua.out 2;have DL:=aa ua.out 3;have CL:=aa ua.out 4;have Qm:Sq.cell? ⟨Ia,0,none⟩=some (.slice Ze Xc.length Re):=(ga Ba.out 0).trans rfl;have Pm:Sq.cell? ⟨Ia,1,none⟩=some (.int .i64 Lb):=(ga Ba.out 1).trans rfl;have Jz:Sq.cell? ⟨Ia,2,none⟩=some (.int .i64 Sb):=(ga Ba.out 2).trans rfl;have Iz:Sq.cell? ⟨Ia,3,none⟩=some (.int .i64 Ub):=(ga Ba.out 3).trans rfl;have Hz:Sq.cell? ⟨Ia,4,none⟩=some (.int .i64 Fc):=(ga Ba.out 4).trans rfl;have Cm:=aa Ba.out 0;have Bm:=aa Ba.out 1;have gz:=aa Ba.out 2;have fz:=aa Ba.out 3;have ez:=aa Ba.out 4)|((with_reducible refine Bb (f:=120) rfl ?_);refine jd (some 9) rfl rfl Try.func120 (by kernel_rfl) rfl #[.slice Ib Ra.length Gb,.slice Ze Xc.length Re] rfl (by (try simp only [List.map_toArray,List.map_cons,List.map_nil]);first|done|rfl|(simp only [List.length_drop,List.length_take];rfl)) ?_;(with_reducible refine (Ob.calls k _ _ Ra _ _ Xc true _ ?side1 ?side2 ?side3 ?side4 A3.out).mono ?_);(case side1=>repeat (first|exact (Kd.Yb Ve.out HB.out)|(with_reducible refine Kd.yc ?_ _)|(with_reducible refine Kd.uc ?_ _)|(with_reducible refine Kd.Sc ?_)));(case side2=>exact gf.out);(case side3=>repeat (first|exact (Kd.Yb Qk.out HB.out)|(with_reducible refine Kd.yc ?_ _)|(with_reducible refine Kd.uc ?_ _)|(with_reducible refine Kd.Sc ?_)));(case side4=>exact jn.out);rintro e Lt ⟨rfl,hb⟩;refine ⟨_,rfl,?_⟩;have Pb:=qa.mk (Wa (g:=Fa) (o:=.cells #[.slice Ib Ra.length Gb,.int .i64 Ja,.int .i64 Ma,.int .i64 Oa,.int .i64 fc] 68 (0,0)) (by (with_reducible repeat (first|refine Ea ?_ _|refine Ga ?_|refine Da ?_ _));exact ua.out) hb);have Wb:=qa.mk (Wa (g:=Ia) (o:=.cells #[.slice Ze Xc.length Re,.int .i64 Lb,.int .i64 Sb,.int .i64 Ub,.int .i64 Fc] 68 (0,0)) (by (with_reducible repeat (first|refine Ea ?_ _|refine Ga ?_|refine Da ?_ _));exact Ba.out) hb);have nc:=qa.mk (Pa (by repeat (first|(with_reducible first|exact HB.out|apply ia|apply ja|apply za|refine Aa ?_ Va.out|refine Aa ?_ Vb.out)|exact HB.out)) hb);clear ua;clear Ba;clear HB;have ua:=Pb;have Ba:=Wb;have HB:=nc;clear Pb Wb nc;(try clear hb);(try clear hb2);(try clear hk);(try clear hi);have Uv:Lt.cell? ⟨Fa,0,none⟩=some (.slice Ib Ra.length Gb):=(ga ua.out 0).trans rfl;have Tv:Lt.cell? ⟨Fa,1,none⟩=some (.int .i64 Ja):=(ga ua.out 1).trans rfl;have Sv:Lt.cell? ⟨Fa,2,none⟩=some (.int .i64 Ma):=(ga ua.out 2).trans rfl;have Rv:Lt.cell? ⟨Fa,3,none⟩=some (.int .i64 Oa):=(ga ua.out 3).trans rfl;have Qv:Lt.cell? ⟨Fa,4,none⟩=some (.int .i64 fc):=(ga ua.out 4).trans rfl;have Su:=aa ua.out 0;have Ru:=aa ua.out 1;have Qu:=aa ua.out 2;have Pu:=aa ua.out 3;have Ou:=aa ua.out 4;have Gz:Lt.cell? ⟨Ia,0,none⟩=some (.slice Ze Xc.length Re):=(ga Ba.out 0).trans rfl;have Fz:Lt.cell? ⟨Ia,1,none⟩=some (.int .i64 Lb):=(ga Ba.out 1).trans rfl;have Ez:Lt.cell? ⟨Ia,2,none⟩=some (.int .i64 Sb):=(ga Ba.out 2).trans rfl;have Dz:Lt.cell? ⟨Ia,3,none⟩=some (.int .i64 Ub):=(ga Ba.out 3).trans rfl;have Cz:Lt.cell? ⟨Ia,4,none⟩=some (.int .i64 Fc):=(ga Ba.out 4).trans rfl;have dz:=aa Ba.out 0;have cz:=aa Ba.out 1;have bz:=aa Ba.out 2;have az:=aa Ba.out 3;have Zy:=aa Ba.out 4))
     go_ret
     exact ⟨by first|rfl|(simp [La,Ka] <;> rfl)|(simp [*,La,Ka] <;> rfl),by repeat (first|(with_reducible first|exact HB.out|apply ia|apply ja|apply za|refine Aa ?_ Va.out|refine Aa ?_ Vb.out)|exact HB.out)⟩
   ·rw [if_neg c6] at H
    have rm:(Ma == Sb)=false:=beq_eq_false_iff_ne.mpr c6
    have jx:(Ma != Sb)=true:=bne_iff_ne.mpr c6
    obtain rfl:=Option.some.inj H
    go_enter Try.func93,Try.ntmps93
    go_wp2_with (first|((with_reducible refine Mb (N:=2) rfl ?_);refine Jb ?hg (N:=2) ?hd (cs:=#[.slice Ib Ra.length Gb,.int .i64 Ja,.int .i64 Ma,.int .i64 Oa,.int .i64 fc]) (t:=68) ?hr ?_;(case hd=>rfl);(case hg=>rfl);(case hr=>first|(go_simp;done)|(go_simp;rfl));intro Fa hg sG Qb hb;have Pb:=qa.mk (Pa (by repeat (first|(with_reducible first|exact HB.out|apply ia|apply ja|apply za)|exact HB.out)) hb);have Wb:=qa.mk (Qb);have nc:=qa.mk ((by rw [hg];exact (Na (by repeat (first|(with_reducible first|exact HB.out|apply ia|apply ja|apply za)|exact HB.out))):w.heap.size ≤ Fa));have Nc:=qa.mk ((by rw [hg];exact (Na (by repeat (first|(with_reducible first|exact HB.out|apply ia|apply ja|apply za)|exact HB.out))):w.heap.size ≤ Fa));clear HB;have HB:=Pb;have ua:=Wb;have Nd:=nc;have Va:=Nc;clear Pb Wb nc Nc;clear hb Qb hg)|((with_reducible refine Mb (N:=3) rfl ?_);refine Jb ?hg (N:=3) ?hd (cs:=#[.slice Ze Xc.length Re,.int .i64 Lb,.int .i64 Sb,.int .i64 Ub,.int .i64 Fc]) (t:=68) ?hr ?_;(case hd=>rfl);(case hg=>rfl);(case hr=>first|(go_simp;done)|(go_simp;rfl));intro Ia hg Rq Qb hb;have Pb:=qa.mk (Wa (g:=Fa) (o:=.cells #[.slice Ib Ra.length Gb,.int .i64 Ja,.int .i64 Ma,.int .i64 Oa,.int .i64 fc] 68 (0,0)) (by (with_reducible repeat (first|refine Ea ?_ _|refine Ga ?_|refine Da ?_ _));exact ua.out) hb);have Wb:=qa.mk (Pa (by repeat (first|(with_reducible first|exact HB.out|apply ia|apply ja|apply za|refine Aa ?_ Va.out)|exact HB.out)) hb);have nc:=qa.mk (Qb);have Nc:=qa.mk ((by rw [hg];exact (Na (by repeat (first|(with_reducible first|exact HB.out|apply ia|apply ja|apply za|refine Aa ?_ Va.out)|exact HB.out))):w.heap.size ≤ Ia));have qe:=qa.mk ((by rw [hg];exact (Na (by repeat (first|(with_reducible first|exact HB.out|apply ia|apply ja|apply za|refine Aa ?_ Va.out)|exact HB.out))):w.heap.size ≤ Ia));have lf:=qa.mk ((by rw [hg];exact Nat.ne_of_lt (Ac (g:=Fa) (o:=.cells #[.slice Ib Ra.length Gb,.int .i64 Ja,.int .i64 Ma,.int .i64 Oa,.int .i64 fc] 68 (0,0)) (by (with_reducible repeat (first|refine Ea ?_ _|refine Ga ?_|refine Da ?_ _));exact ua.out)):Fa ≠ Ia));have Hf:=qa.mk ((by rw [hg];exact Nat.ne_of_gt (Ac (g:=Fa) (o:=.cells #[.slice Ib Ra.length Gb,.int .i64 Ja,.int .i64 Ma,.int .i64 Oa,.int .i64 fc] 68 (0,0)) (by (with_reducible repeat (first|refine Ea ?_ _|refine Ga ?_|refine Da ?_ _));exact ua.out)):Ia ≠ Fa));clear ua;clear HB;have ua:=Pb;have HB:=Wb;have Ba:=nc;have Je:=Nc;have Vb:=qe;have Sa:=lf;have qb:=Hf;clear Pb Wb nc Nc qe lf Hf;clear hb Qb hg;have ES:=Sa.out;have kS:=qb.out;have uq:Rq.cell? ⟨Fa,0,none⟩=some (.slice Ib Ra.length Gb):=(ga ua.out 0).trans rfl;have tq:Rq.cell? ⟨Fa,1,none⟩=some (.int .i64 Ja):=(ga ua.out 1).trans rfl;have vF:Rq.cell? ⟨Fa,2,none⟩=some (.int .i64 Ma):=(ga ua.out 2).trans rfl;have uF:Rq.cell? ⟨Fa,3,none⟩=some (.int .i64 Oa):=(ga ua.out 3).trans rfl;have tF:Rq.cell? ⟨Fa,4,none⟩=some (.int .i64 fc):=(ga ua.out 4).trans rfl;have Zp:=aa ua.out 0;have Yp:=aa ua.out 1;have aE:=aa ua.out 2;have ZD:=aa ua.out 3;have YD:=aa ua.out 4;have YM:Rq.cell? ⟨Ia,0,none⟩=some (.slice Ze Xc.length Re):=(ga Ba.out 0).trans rfl;have XM:Rq.cell? ⟨Ia,1,none⟩=some (.int .i64 Lb):=(ga Ba.out 1).trans rfl;have WM:Rq.cell? ⟨Ia,2,none⟩=some (.int .i64 Sb):=(ga Ba.out 2).trans rfl;have VM:Rq.cell? ⟨Ia,3,none⟩=some (.int .i64 Ub):=(ga Ba.out 3).trans rfl;have UM:Rq.cell? ⟨Ia,4,none⟩=some (.int .i64 Fc):=(ga Ba.out 4).trans rfl;have uL:=aa Ba.out 0;have tL:=aa Ba.out 1;have sL:=aa Ba.out 2;have rL:=aa Ba.out 3;have qL:=aa Ba.out 4)|((with_reducible refine Bb (f:=120) rfl ?_);refine jd (some 9) rfl rfl Try.func120 (by kernel_rfl) rfl #[.slice Ib Ra.length Gb,.slice Ze Xc.length Re] rfl (by (try simp only [List.map_toArray,List.map_cons,List.map_nil]);first|done|rfl|(simp only [List.length_drop,List.length_take];rfl)) ?_;(with_reducible refine (Ob.calls k _ _ Ra _ _ Xc true _ ?side1 ?side2 ?side3 ?side4 A3.out).mono ?_);(case side1=>repeat (first|exact (Kd.Yb Ve.out HB.out)|(with_reducible refine Kd.yc ?_ _)|(with_reducible refine Kd.uc ?_ _)|(with_reducible refine Kd.Sc ?_)));(case side2=>exact gf.out);(case side3=>repeat (first|exact (Kd.Yb Qk.out HB.out)|(with_reducible refine Kd.yc ?_ _)|(with_reducible refine Kd.uc ?_ _)|(with_reducible refine Kd.Sc ?_)));(case side4=>exact jn.out);rintro e xu ⟨rfl,hb⟩;refine ⟨_,rfl,?_⟩;have Pb:=qa.mk (Wa (g:=Fa) (o:=.cells #[.slice Ib Ra.length Gb,.int .i64 Ja,.int .i64 Ma,.int .i64 Oa,.int .i64 fc] 68 (0,0)) (by (with_reducible repeat (first|refine Ea ?_ _|refine Ga ?_|refine Da ?_ _));exact ua.out) hb);have Wb:=qa.mk (Wa (g:=Ia) (o:=.cells #[.slice Ze Xc.length Re,.int .i64 Lb,.int .i64 Sb,.int .i64 Ub,.int .i64 Fc] 68 (0,0)) (by (with_reducible repeat (first|refine Ea ?_ _|refine Ga ?_|refine Da ?_ _));exact Ba.out) hb);have nc:=qa.mk (Pa (by repeat (first|(with_reducible first|exact HB.out|apply ia|apply ja|apply za|refine Aa ?_ Va.out|refine Aa ?_ Vb.out)|exact HB.out)) hb);clear ua;clear Ba;clear HB;have ua:=Pb;have Ba:=Wb;have HB:=nc;clear Pb Wb nc;(try clear hb);(try clear hb2);(try clear hk);(try clear hi);have qF:xu.cell? ⟨Fa,0,none⟩=some (.slice Ib Ra.length Gb):=(ga ua.out 0).trans rfl;have pF:xu.cell? ⟨Fa,1,none⟩=some (.int .i64 Ja):=(ga ua.out 1).trans rfl;have oF:xu.cell? ⟨Fa,2,none⟩=some (.int .i64 Ma):=(ga ua.out 2).trans rfl;have nF:xu.cell? ⟨Fa,3,none⟩=some (.int .i64 Oa):=(ga ua.out 3).trans rfl;have mF:xu.cell? ⟨Fa,4,none⟩=some (.int .i64 fc):=(ga ua.out 4).trans rfl;have VD:=aa ua.out 0;have UD:=aa ua.out 1;have TD:=aa ua.out 2;have SD:=aa ua.out 3;have RD:=aa ua.out 4;have Nv:xu.cell? ⟨Ia,0,none⟩=some (.slice Ze Xc.length Re):=(ga Ba.out 0).trans rfl;have Mv:xu.cell? ⟨Ia,1,none⟩=some (.int .i64 Lb):=(ga Ba.out 1).trans rfl;have Lv:xu.cell? ⟨Ia,2,none⟩=some (.int .i64 Sb):=(ga Ba.out 2).trans rfl;have Kv:xu.cell? ⟨Ia,3,none⟩=some (.int .i64 Ub):=(ga Ba.out 3).trans rfl;have Jv:xu.cell? ⟨Ia,4,none⟩=some (.int .i64 Fc):=(ga Ba.out 4).trans rfl;have Lu:=aa Ba.out 0;have Ku:=aa Ba.out 1;have Ju:=aa Ba.out 2;have Iu:=aa Ba.out 3;have Hu:=aa Ba.out 4))
    go_ret
    exact ⟨by first|rfl|(simp [La,Ka] <;> rfl)|(simp [*,La,Ka] <;> rfl),by repeat (first|(with_reducible first|exact HB.out|apply ia|apply ja|apply za|refine Aa ?_ Va.out|refine Aa ?_ Vb.out)|exact HB.out)⟩
  ·rw [if_neg c5] at H
   have Hl:(Ja == Lb)=false:=beq_eq_false_iff_ne.mpr c5
   have Yt:(Ja != Lb)=true:=bne_iff_ne.mpr c5
   obtain rfl:=Option.some.inj H
   go_enter Try.func93,Try.ntmps93
   go_wp2_with (first|((with_reducible refine Mb (N:=2) rfl ?_);refine Jb ?hg (N:=2) ?hd (cs:=#[.slice Ib Ra.length Gb,.int .i64 Ja,.int .i64 Ma,.int .i64 Oa,.int .i64 fc]) (t:=68) ?hr ?_;(case hd=>rfl);(case hg=>rfl);(case hr=>first|(go_simp;done)|(go_simp;rfl));intro Fa hg nB Qb hb;have Pb:=qa.mk (Pa (by repeat (first|(with_reducible first|exact HB.out|apply ia|apply ja|apply za)|exact HB.out)) hb);have Wb:=qa.mk (Qb);have nc:=qa.mk ((by rw [hg];exact (Na (by repeat (first|(with_reducible first|exact HB.out|apply ia|apply ja|apply za)|exact HB.out))):w.heap.size ≤ Fa));have Nc:=qa.mk ((by rw [hg];exact (Na (by repeat (first|(with_reducible first|exact HB.out|apply ia|apply ja|apply za)|exact HB.out))):w.heap.size ≤ Fa));clear HB;have HB:=Pb;have ua:=Wb;have Nd:=nc;have Va:=Nc;clear Pb Wb nc Nc;clear hb Qb hg)|((with_reducible refine Mb (N:=3) rfl ?_);refine Jb ?hg (N:=3) ?hd (cs:=#[.slice Ze Xc.length Re,.int .i64 Lb,.int .i64 Sb,.int .i64 Ub,.int .i64 Fc]) (t:=68) ?hr ?_;(case hd=>rfl);(case hg=>rfl);(case hr=>first|(go_simp;done)|(go_simp;rfl));intro Ia hg LJ Qb hb;have Pb:=qa.mk (Wa (g:=Fa) (o:=.cells #[.slice Ib Ra.length Gb,.int .i64 Ja,.int .i64 Ma,.int .i64 Oa,.int .i64 fc] 68 (0,0)) (by (with_reducible repeat (first|refine Ea ?_ _|refine Ga ?_|refine Da ?_ _));exact ua.out) hb);have Wb:=qa.mk (Pa (by repeat (first|(with_reducible first|exact HB.out|apply ia|apply ja|apply za|refine Aa ?_ Va.out)|exact HB.out)) hb);have nc:=qa.mk (Qb);have Nc:=qa.mk ((by rw [hg];exact (Na (by repeat (first|(with_reducible first|exact HB.out|apply ia|apply ja|apply za|refine Aa ?_ Va.out)|exact HB.out))):w.heap.size ≤ Ia));have qe:=qa.mk ((by rw [hg];exact (Na (by repeat (first|(with_reducible first|exact HB.out|apply ia|apply ja|apply za|refine Aa ?_ Va.out)|exact HB.out))):w.heap.size ≤ Ia));have lf:=qa.mk ((by rw [hg];exact Nat.ne_of_lt (Ac (g:=Fa) (o:=.cells #[.slice Ib Ra.length Gb,.int .i64 Ja,.int .i64 Ma,.int .i64 Oa,.int .i64 fc] 68 (0,0)) (by (with_reducible repeat (first|refine Ea ?_ _|refine Ga ?_|refine Da ?_ _));exact ua.out)):Fa ≠ Ia));have Hf:=qa.mk ((by rw [hg];exact Nat.ne_of_gt (Ac (g:=Fa) (o:=.cells #[.slice Ib Ra.length Gb,.int .i64 Ja,.int .i64 Ma,.int .i64 Oa,.int .i64 fc] 68 (0,0)) (by (with_reducible repeat (first|refine Ea ?_ _|refine Ga ?_|refine Da ?_ _));exact ua.out)):Ia ≠ Fa));clear ua;clear HB;have ua:=Pb;have HB:=Wb;have Ba:=nc;have Je:=Nc;have Vb:=qe;have Sa:=lf;have qb:=Hf;clear Pb Wb nc Nc qe lf Hf;clear hb Qb hg;have BS:=Sa.out;have gS:=qb.out;have HM:LJ.cell? ⟨Fa,0,none⟩=some (.slice Ib Ra.length Gb):=(ga ua.out 0).trans rfl;have GM:LJ.cell? ⟨Fa,1,none⟩=some (.int .i64 Ja):=(ga ua.out 1).trans rfl;have FM:LJ.cell? ⟨Fa,2,none⟩=some (.int .i64 Ma):=(ga ua.out 2).trans rfl;have EM:LJ.cell? ⟨Fa,3,none⟩=some (.int .i64 Oa):=(ga ua.out 3).trans rfl;have DM:LJ.cell? ⟨Fa,4,none⟩=some (.int .i64 fc):=(ga ua.out 4).trans rfl;have bL:=aa ua.out 0;have ZK:=aa ua.out 1;have YK:=aa ua.out 2;have XK:=aa ua.out 3;have WK:=aa ua.out 4;have fF:LJ.cell? ⟨Ia,0,none⟩=some (.slice Ze Xc.length Re):=(ga Ba.out 0).trans rfl;have eF:LJ.cell? ⟨Ia,1,none⟩=some (.int .i64 Lb):=(ga Ba.out 1).trans rfl;have Z7:LJ.cell? ⟨Ia,2,none⟩=some (.int .i64 Sb):=(ga Ba.out 2).trans rfl;have Y7:LJ.cell? ⟨Ia,3,none⟩=some (.int .i64 Ub):=(ga Ba.out 3).trans rfl;have X7:LJ.cell? ⟨Ia,4,none⟩=some (.int .i64 Fc):=(ga Ba.out 4).trans rfl;have LD:=aa Ba.out 0;have KD:=aa Ba.out 1;have X1:=aa Ba.out 2;have V1:=aa Ba.out 3;have U1:=aa Ba.out 4)|((with_reducible refine Bb (f:=120) rfl ?_);refine jd (some 9) rfl rfl Try.func120 (by kernel_rfl) rfl #[.slice Ib Ra.length Gb,.slice Ze Xc.length Re] rfl (by (try simp only [List.map_toArray,List.map_cons,List.map_nil]);first|done|rfl|(simp only [List.length_drop,List.length_take];rfl)) ?_;(with_reducible refine (Ob.calls k _ _ Ra _ _ Xc true _ ?side1 ?side2 ?side3 ?side4 A3.out).mono ?_);(case side1=>repeat (first|exact (Kd.Yb Ve.out HB.out)|(with_reducible refine Kd.yc ?_ _)|(with_reducible refine Kd.uc ?_ _)|(with_reducible refine Kd.Sc ?_)));(case side2=>exact gf.out);(case side3=>repeat (first|exact (Kd.Yb Qk.out HB.out)|(with_reducible refine Kd.yc ?_ _)|(with_reducible refine Kd.uc ?_ _)|(with_reducible refine Kd.Sc ?_)));(case side4=>exact jn.out);rintro e wu ⟨rfl,hb⟩;refine ⟨_,rfl,?_⟩;have Pb:=qa.mk (Wa (g:=Fa) (o:=.cells #[.slice Ib Ra.length Gb,.int .i64 Ja,.int .i64 Ma,.int .i64 Oa,.int .i64 fc] 68 (0,0)) (by (with_reducible repeat (first|refine Ea ?_ _|refine Ga ?_|refine Da ?_ _));exact ua.out) hb);have Wb:=qa.mk (Wa (g:=Ia) (o:=.cells #[.slice Ze Xc.length Re,.int .i64 Lb,.int .i64 Sb,.int .i64 Ub,.int .i64 Fc] 68 (0,0)) (by (with_reducible repeat (first|refine Ea ?_ _|refine Ga ?_|refine Da ?_ _));exact Ba.out) hb);have nc:=qa.mk (Pa (by repeat (first|(with_reducible first|exact HB.out|apply ia|apply ja|apply za|refine Aa ?_ Va.out|refine Aa ?_ Vb.out)|exact HB.out)) hb);clear ua;clear Ba;clear HB;have ua:=Pb;have Ba:=Wb;have HB:=nc;clear Pb Wb nc;(try clear hb);(try clear hb2);(try clear hk);(try clear hi);have dF:wu.cell? ⟨Fa,0,none⟩=some (.slice Ib Ra.length Gb):=(ga ua.out 0).trans rfl;have cF:wu.cell? ⟨Fa,1,none⟩=some (.int .i64 Ja):=(ga ua.out 1).trans rfl;have W7:wu.cell? ⟨Fa,2,none⟩=some (.int .i64 Ma):=(ga ua.out 2).trans rfl;have V7:wu.cell? ⟨Fa,3,none⟩=some (.int .i64 Oa):=(ga ua.out 3).trans rfl;have U7:wu.cell? ⟨Fa,4,none⟩=some (.int .i64 fc):=(ga ua.out 4).trans rfl;have JD:=aa ua.out 0;have ID:=aa ua.out 1;have T1:=aa ua.out 2;have S1:=aa ua.out 3;have R1:=aa ua.out 4;have Js:wu.cell? ⟨Ia,0,none⟩=some (.slice Ze Xc.length Re):=(ga Ba.out 0).trans rfl;have Hs:wu.cell? ⟨Ia,1,none⟩=some (.int .i64 Lb):=(ga Ba.out 1).trans rfl;have wz:wu.cell? ⟨Ia,2,none⟩=some (.int .i64 Sb):=(ga Ba.out 2).trans rfl;have vz:wu.cell? ⟨Ia,3,none⟩=some (.int .i64 Ub):=(ga Ba.out 3).trans rfl;have uz:wu.cell? ⟨Ia,4,none⟩=some (.int .i64 Fc):=(ga Ba.out 4).trans rfl;have Nr:=aa Ba.out 0;have Mr:=aa Ba.out 1;have Ty:=aa Ba.out 2;have Sy:=aa Ba.out 3;have Ry:=aa Ba.out 4))
   go_ret
   exact ⟨by first|rfl|(simp [La,Ka] <;> rfl)|(simp [*,La,Ka] <;> rfl),by repeat (first|(with_reducible first|exact HB.out|apply ia|apply ja|apply za|refine Aa ?_ Va.out|refine Aa ?_ Vb.out)|exact HB.out)⟩
 ·replace c4:=Bool.eq_false_iff.mpr c4
  subst c4
  have H1:(some false)=some r:=by rw [if_neg (show ¬ (false=true) by decide)] at H;exact H
  clear H
  have H:=H1
  clear H1
  obtain rfl:=Option.some.inj H
  go_enter Try.func93,Try.ntmps93
  go_wp2_with (first|((with_reducible refine Mb (N:=2) rfl ?_);refine Jb ?hg (N:=2) ?hd (cs:=#[.slice Ib Ra.length Gb,.int .i64 Ja,.int .i64 Ma,.int .i64 Oa,.int .i64 fc]) (t:=68) ?hr ?_;(case hd=>rfl);(case hg=>rfl);(case hr=>first|(go_simp;done)|(go_simp;rfl));intro Fa hg w49 Qb hb;have Pb:=qa.mk (Pa (by repeat (first|(with_reducible first|exact HB.out|apply ia|apply ja|apply za)|exact HB.out)) hb);have Wb:=qa.mk (Qb);have nc:=qa.mk ((by rw [hg];exact (Na (by repeat (first|(with_reducible first|exact HB.out|apply ia|apply ja|apply za)|exact HB.out))):w.heap.size ≤ Fa));have Nc:=qa.mk ((by rw [hg];exact (Na (by repeat (first|(with_reducible first|exact HB.out|apply ia|apply ja|apply za)|exact HB.out))):w.heap.size ≤ Fa));clear HB;have HB:=Pb;have ua:=Wb;have Nd:=nc;have Va:=Nc;clear Pb Wb nc Nc;clear hb Qb hg)|((with_reducible refine Mb (N:=3) rfl ?_);refine Jb ?hg (N:=3) ?hd (cs:=#[.slice Ze Xc.length Re,.int .i64 Lb,.int .i64 Sb,.int .i64 Ub,.int .i64 Fc]) (t:=68) ?hr ?_;(case hd=>rfl);(case hg=>rfl);(case hr=>first|(go_simp;done)|(go_simp;rfl));intro Ia hg fu Qb hb;have Pb:=qa.mk (Wa (g:=Fa) (o:=.cells #[.slice Ib Ra.length Gb,.int .i64 Ja,.int .i64 Ma,.int .i64 Oa,.int .i64 fc] 68 (0,0)) (by (with_reducible repeat (first|refine Ea ?_ _|refine Ga ?_|refine Da ?_ _));exact ua.out) hb);have Wb:=qa.mk (Pa (by repeat (first|(with_reducible first|exact HB.out|apply ia|apply ja|apply za|refine Aa ?_ Va.out)|exact HB.out)) hb);have nc:=qa.mk (Qb);have Nc:=qa.mk ((by rw [hg];exact (Na (by repeat (first|(with_reducible first|exact HB.out|apply ia|apply ja|apply za|refine Aa ?_ Va.out)|exact HB.out))):w.heap.size ≤ Ia));have qe:=qa.mk ((by rw [hg];exact (Na (by repeat (first|(with_reducible first|exact HB.out|apply ia|apply ja|apply za|refine Aa ?_ Va.out)|exact HB.out))):w.heap.size ≤ Ia));have lf:=qa.mk ((by rw [hg];exact Nat.ne_of_lt (Ac (g:=Fa) (o:=.cells #[.slice Ib Ra.length Gb,.int .i64 Ja,.int .i64 Ma,.int .i64 Oa,.int .i64 fc] 68 (0,0)) (by (with_reducible repeat (first|refine Ea ?_ _|refine Ga ?_|refine Da ?_ _));exact ua.out)):Fa ≠ Ia));have Hf:=qa.mk ((by rw [hg];exact Nat.ne_of_gt (Ac (g:=Fa) (o:=.cells #[.slice Ib Ra.length Gb,.int .i64 Ja,.int .i64 Ma,.int .i64 Oa,.int .i64 fc] 68 (0,0)) (by (with_reducible repeat (first|refine Ea ?_ _|refine Ga ?_|refine Da ?_ _));exact ua.out)):Ia ≠ Fa));clear ua;clear HB;have ua:=Pb;have HB:=Wb;have Ba:=nc;have Je:=Nc;have Vb:=qe;have Sa:=lf;have qb:=Hf;clear Pb Wb nc Nc qe lf Hf;clear hb Qb hg;have eI:=Sa.out;have bI:=qb.out;have rz:fu.cell? ⟨Fa,0,none⟩=some (.slice Ib Ra.length Gb):=(ga ua.out 0).trans rfl;have qz:fu.cell? ⟨Fa,1,none⟩=some (.int .i64 Ja):=(ga ua.out 1).trans rfl;have bF:fu.cell? ⟨Fa,2,none⟩=some (.int .i64 Ma):=(ga ua.out 2).trans rfl;have ZE:fu.cell? ⟨Fa,3,none⟩=some (.int .i64 Oa):=(ga ua.out 3).trans rfl;have YE:fu.cell? ⟨Fa,4,none⟩=some (.int .i64 fc):=(ga ua.out 4).trans rfl;have Qy:=aa ua.out 0;have Py:=aa ua.out 1;have GD:=aa ua.out 2;have FD:=aa ua.out 3;have ED:=aa ua.out 4;have pz:fu.cell? ⟨Ia,0,none⟩=some (.slice Ze Xc.length Re):=(ga Ba.out 0).trans rfl;have oz:fu.cell? ⟨Ia,1,none⟩=some (.int .i64 Lb):=(ga Ba.out 1).trans rfl;have uM:fu.cell? ⟨Ia,2,none⟩=some (.int .i64 Sb):=(ga Ba.out 2).trans rfl;have tM:fu.cell? ⟨Ia,3,none⟩=some (.int .i64 Ub):=(ga Ba.out 3).trans rfl;have sM:fu.cell? ⟨Ia,4,none⟩=some (.int .i64 Fc):=(ga Ba.out 4).trans rfl;have Oy:=aa Ba.out 0;have My:=aa Ba.out 1;have OK:=aa Ba.out 2;have NK:=aa Ba.out 3;have MK:=aa Ba.out 4)|((with_reducible refine Bb (f:=120) rfl ?_);refine jd (some 9) rfl rfl Try.func120 (by kernel_rfl) rfl #[.slice Ib Ra.length Gb,.slice Ze Xc.length Re] rfl (by (try simp only [List.map_toArray,List.map_cons,List.map_nil]);first|done|rfl|(simp only [List.length_drop,List.length_take];rfl)) ?_;(with_reducible refine (Ob.calls k _ _ Ra _ _ Xc false _ ?side1 ?side2 ?side3 ?side4 A3.out).mono ?_);(case side1=>repeat (first|exact (Kd.Yb Ve.out HB.out)|(with_reducible refine Kd.yc ?_ _)|(with_reducible refine Kd.uc ?_ _)|(with_reducible refine Kd.Sc ?_)));(case side2=>exact gf.out);(case side3=>repeat (first|exact (Kd.Yb Qk.out HB.out)|(with_reducible refine Kd.yc ?_ _)|(with_reducible refine Kd.uc ?_ _)|(with_reducible refine Kd.Sc ?_)));(case side4=>exact jn.out);rintro e w54 ⟨rfl,hb⟩;refine ⟨_,rfl,?_⟩;have Pb:=qa.mk (Wa (g:=Fa) (o:=.cells #[.slice Ib Ra.length Gb,.int .i64 Ja,.int .i64 Ma,.int .i64 Oa,.int .i64 fc] 68 (0,0)) (by (with_reducible repeat (first|refine Ea ?_ _|refine Ga ?_|refine Da ?_ _));exact ua.out) hb);have Wb:=qa.mk (Wa (g:=Ia) (o:=.cells #[.slice Ze Xc.length Re,.int .i64 Lb,.int .i64 Sb,.int .i64 Ub,.int .i64 Fc] 68 (0,0)) (by (with_reducible repeat (first|refine Ea ?_ _|refine Ga ?_|refine Da ?_ _));exact Ba.out) hb);have nc:=qa.mk (Pa (by repeat (first|(with_reducible first|exact HB.out|apply ia|apply ja|apply za|refine Aa ?_ Va.out|refine Aa ?_ Vb.out)|exact HB.out)) hb);clear ua;clear Ba;clear HB;have ua:=Pb;have Ba:=Wb;have HB:=nc;clear Pb Wb nc;(try clear hb);(try clear hb2);(try clear hk);(try clear hi)))
  go_ret
  exact ⟨by first|rfl|(simp [La,Ka] <;> rfl)|(simp [*,La,Ka] <;> rfl),by repeat (first|(with_reducible first|exact HB.out|apply ia|apply ja|apply za|refine Aa ?_ Va.out|refine Aa ?_ Vb.out)|exact HB.out)⟩
end Go.Proofs.Ytmifdccaajngcaa.P
end
section
namespace Go.Proofs.Ytmifdccaajngcaa.P
open Go.RowKit Go.Proofs.Ca.xb Go.Proofs.Ca.Xb Go.Proofs.Ca.ic
attribute [local go_sem] Vd Td we ue Dd Cd Ud Sd
set_option linter.unusedVariables false
set_option linter.unusedSimpArgs false
def Tb.l0:Nat→List (Eh)→List (Eh)→Int→Option (Bool)
 | 0,_,_,_=>none
 | k + 1,x0,x1,x5=>if x5 < (x0.length:Int) then (if 0 ≤ x5 then (if x5 < (x1.length:Int) then ((bf.f k ((mb x0 x5).f0) ((mb x0 x5).f1) ((mb x0 x5).f2) ((mb x0 x5).f3) ((mb x0 x5).f4) ((mb x1 x5).f0) ((mb x1 x5).f1) ((mb x1 x5).f2) ((mb x1 x5).f3) ((mb x1 x5).f4)).bind fun t103=>(if t103=true then (Tb.l0 k x0 x1 (wrap64 (x5 + 1))) else (some false))) else (none)) else (none)) else (some true)
def Tb.f (k:Nat) (l0:List (Eh)) (l1:List (Eh)):Option (Bool):=if (l0.length:Int)=(l1.length:Int) then (Tb.l0 k l0 l1 0) else (some false)
theorem Tb.je:∀ k,(∀ y0 y1 y2,mc (Tb.l0 k y0 y1 y2) (Tb.l0 (k + 1) y0 y1 y2))
 | 0=>fun _ _ _ r h=>by simp [Tb.l0] at h
 | k + 1=>by
  have Lf:=Tb.je k
  ·intro y0 y1 y2
   unfold Tb.l0
   repeat' first
   | (with_reducible exact Lf _ _ _)
   | (with_reducible exact bf.mono _ _ _ _ _ _ _ _ _ _ _)
   | (with_reducible exact mc.refl _)
   | (with_reducible exact mc.none _)
   | (with_reducible refine mc.ite ?_ ?_)
   | (with_reducible refine mc.bind ?_ (fun _=>?_))
   | exact Lf _ _ _
   | exact bf.mono _ _ _ _ _ _ _ _ _ _ _
   | exact mc.none _
   | refine mc.ite ?_ ?_
   | refine mc.bind ?_ (fun _=>?_)
theorem Tb.mono:∀ a0 a1 k,mc (Tb.f k a0 a1) (Tb.f (k + 1) a0 a1):=by
 intro a0 a1 k
 have Lf:=Tb.je k
 unfold Tb.f
 repeat' first
   | (with_reducible exact Lf _ _ _)
   | (with_reducible exact bf.mono _ _ _ _ _ _ _ _ _ _ _)
   | (with_reducible exact mc.refl _)
   | (with_reducible exact mc.none _)
   | (with_reducible refine mc.ite ?_ ?_)
   | (with_reducible refine mc.bind ?_ (fun _=>?_))
   | exact Lf _ _ _
   | exact bf.mono _ _ _ _ _ _ _ _ _ _ _
   | exact mc.none _
   | refine mc.ite ?_ ?_
   | refine mc.bind ?_ (fun _=>?_)
def Tb.T6:Bool × List (List Nat × List Nat):=(true,[([],[]),([],[]),([0,1],[0,1]),([2],[2]),([],[]),([],[]),([4,5],[4,5]),([6],[6]),([3,7],[3,7]),([8],[8])])
def Tb.B6:List Nat:=[0,0,3,7,0,0,48,112,255,511]
theorem Tb.tH:Jk .any (opsOf Try.f61 6)=Tb.T6:=by kernel_rfl
theorem Tb.WA:Rk Tb.T6.2 Tb.B6=true:=by kernel_rfl
set_option maxHeartbeats 8000000 in
set_option maxRecDepth 100000 in
theorem Tb.calls (k:Nat) (A0:Option Addr) (c0:Nat) (l0:List (Eh)) (A1:Option Addr) (c1:Nat) (l1:List (Eh)) (r:Bool) (w:World) (hr0:Kd.C Xq w A0 l0.length l0) (hc0:l0.length ≤ c0) (En:Kd.C Xq w A1 l1.length l1) (OJ:l1.length ≤ c1) (h:Tb.f k l0 l1=some r) :
  Calls Try.prog 61 #[.slice A0 l0.length c0,.slice A1 l1.length c1] w fun e w'=>e = .returned (.bool r)∧Below w.heap.size w w':=by
 have NG:=Try.underlying68
 have Nq:=qa.mk hr0
 have fA:=qa.mk hc0
 clear hr0 hc0
 have PJ:=qa.mk En
 have HC1:=qa.mk OJ
 clear En OJ
 have HB:=qa.mk (Below.refl w.heap.size w)
 have H:(if (l0.length:Int)=(l1.length:Int) then (Tb.l0 k l0 l1 0) else (some false))=some r:=h
 clear h
 by_cases c3:(l0.length:Int)=(l1.length:Int)
 ·rw [if_pos c3] at H
  have Uh:((l0.length:Int) == (l1.length:Int))=true:=beq_iff_eq.mpr c3
  have Mq:((l0.length:Int) != (l1.length:Int))=false:=bne_eq_false_iff_eq.mpr c3
  have UA:(l0.length == l1.length)=true:=by first|simpa using c3|(simp at c3 ⊢;omega)
  clear c3
  have H':=qa.mk H
  clear H
  go_enter Try.func61,Try.ntmps61
  go_wp2
  go_loopg [5] k (fun kq v5 w'=>∃ (Ya:Int),v5 = .int .i64 Ya∧qa (Tb.l0 kq l0 l1 Ya=some r)∧qa (kq ≤ k)∧qa (Below w.heap.size w w'))
  case atStart=>exact ⟨(0),(by first|rfl|(simp;done)|(simp [*];done)),H',⟨Nat.le_refl _⟩,⟨by repeat (first|(with_reducible first|exact HB.out|apply ia|apply ja|apply za)|exact HB.out)⟩⟩
  case round =>
   clear H'
   try clear c1
   try clear p2
   try clear c3
   try clear Uh
   try clear Mq
   try clear UA
   (try clear HA)
   (try clear We)
   (try clear HB)
   obtain ⟨Ya,rfl,HA,We,HB⟩:=hrel
   cases gk with
   | zero=>exact absurd HA.out (by simp [Tb.l0])
   | succ k1 =>
    have H:=HA.out
    clear HA
    simp only [Tb.l0] at H
    by_cases c4:Ya < (l0.length:Int)
    ·rw [if_pos c4] at H
     have Mh:decide (Ya < (l0.length:Int))=true:=decide_eq_true c4
     clear c4
     by_cases c5:0 ≤ Ya
     ·rw [if_pos c5] at H
      have Hl:decide (0 ≤ Ya)=true:=decide_eq_true c5
      clear c5
      by_cases c6:Ya < (l1.length:Int)
      ·rw [if_pos c6] at H
       have rm:decide (Ya < (l1.length:Int))=true:=decide_eq_true c6
       clear c6
       replace H:=Option.bind_eq_some_iff.mp H
       obtain ⟨t103,lB,H⟩:=H
       replace H:(if t103=true then (Tb.l0 k1 l0 l1 (wrap64 (Ya + 1))) else (some false))=some r:=H
       have A7:=qa.mk lB
       clear lB
       by_cases c8:t103=true
       ·subst c8
        have H1:(Tb.l0 k1 l0 l1 (wrap64 (Ya + 1)))=some r:=by rw [if_pos rfl] at H;exact H
        clear H
        have H:=H1
        clear H1
        have H':=qa.mk H
        clear H
        try go_wp2
        have Pb:=qa.mk (za HB.out)
        clear HB
        have HB:=Pb
        clear Pb
        have Yf:0 ≤ (Ya:Int):=of_decide_eq_true (by first|(with_reducible assumption)|assumption)
        have Xf:Ya < (l0.length:Int):=of_decide_eq_true (by first|(with_reducible assumption)|assumption)
        obtain ⟨Ie,Po,Ho,Xj,Zd,Be,Ae,ze,ye,Gj,Hj⟩:=Wi Nq.out Ya Yf Xf
        have Cg:=ye
        have Dg:=ze
        have Eg:=Ae
        have Fg:=Be
        have Gg:=Zd
        cases Xj
        replace Zd:=(HB.out.cell (World.block_lt_of_cell? w _ Zd)).trans Zd
        replace Be:=(HB.out.cell (World.block_lt_of_cell? w _ Be)).trans Be
        replace Ae:=(HB.out.cell (World.block_lt_of_cell? w _ Ae)).trans Ae
        replace ze:=(HB.out.cell (World.block_lt_of_cell? w _ ze)).trans ze
        replace ye:=(HB.out.cell (World.block_lt_of_cell? w _ ye)).trans ye
        have Kl:=qa.mk Hj
        have Oo:=qa.mk Gj
        clear Hj Gj
        replace Yf:=eq_true Yf
        replace Xf:=eq_true Xf
        have ei:0 ≤ (Ya:Int):=of_decide_eq_true (by first|(with_reducible assumption)|assumption)
        have di:Ya < (l1.length:Int):=of_decide_eq_true (by first|(with_reducible assumption)|assumption)
        obtain ⟨Ue,Ex,yx,sr,Ee,Ff,Qf,Pf,Nf,Ir,Lr⟩:=Wi PJ.out Ya ei di
        have xg:=Nf
        have yg:=Pf
        have zg:=Qf
        have Ag:=Ff
        have Bg:=Ee
        cases sr
        replace Ee:=(HB.out.cell (World.block_lt_of_cell? w _ Ee)).trans Ee
        replace Ff:=(HB.out.cell (World.block_lt_of_cell? w _ Ff)).trans Ff
        replace Qf:=(HB.out.cell (World.block_lt_of_cell? w _ Qf)).trans Qf
        replace Pf:=(HB.out.cell (World.block_lt_of_cell? w _ Pf)).trans Pf
        replace Nf:=(HB.out.cell (World.block_lt_of_cell? w _ Nf)).trans Nf
        have Ft:=qa.mk Lr
        have cA:=qa.mk Ir
        clear Lr Ir
        replace ei:=eq_true ei
        replace di:=eq_true di
        refine Pg (n:=10) (S:=fun w'=>w'.cell? (Ie.add ((Ya).toNat * 5))=some (.slice Po ((mb l0 Ya).f0).length Ho)∧w'.cell? ⟨(Ie.add ((Ya).toNat * 5)).block,(Ie.add ((Ya).toNat * 5)).off + 1,none⟩=some (.int .i64 ((mb l0 Ya).f1))∧w'.cell? ⟨(Ie.add ((Ya).toNat * 5)).block,(Ie.add ((Ya).toNat * 5)).off + 2,none⟩=some (.int .i64 ((mb l0 Ya).f2))∧w'.cell? ⟨(Ie.add ((Ya).toNat * 5)).block,(Ie.add ((Ya).toNat * 5)).off + 3,none⟩=some (.int .i64 ((mb l0 Ya).f3))∧w'.cell? ⟨(Ie.add ((Ya).toNat * 5)).block,(Ie.add ((Ya).toNat * 5)).off + 4,none⟩=some (.int .i64 ((mb l0 Ya).f4))∧w'.cell? (Ue.add ((Ya).toNat * 5))=some (.slice Ex ((mb l1 Ya).f0).length yx)∧w'.cell? ⟨(Ue.add ((Ya).toNat * 5)).block,(Ue.add ((Ya).toNat * 5)).off + 1,none⟩=some (.int .i64 ((mb l1 Ya).f1))∧w'.cell? ⟨(Ue.add ((Ya).toNat * 5)).block,(Ue.add ((Ya).toNat * 5)).off + 2,none⟩=some (.int .i64 ((mb l1 Ya).f2))∧w'.cell? ⟨(Ue.add ((Ya).toNat * 5)).block,(Ue.add ((Ya).toNat * 5)).off + 3,none⟩=some (.int .i64 ((mb l1 Ya).f3))∧w'.cell? ⟨(Ue.add ((Ya).toNat * 5)).block,(Ue.add ((Ya).toNat * 5)).off + 4,none⟩=some (.int .i64 ((mb l1 Ya).f4))) (ds:=[]) #[false,false,false,false,false,false,false,false,false,false] (by kernel_rfl) rfl rfl ⟨((HB.out.cell (World.block_lt_of_cell? w _ Gg)).trans Gg),((HB.out.cell (World.block_lt_of_cell? w _ Fg)).trans Fg),((HB.out.cell (World.block_lt_of_cell? w _ Eg)).trans Eg),((HB.out.cell (World.block_lt_of_cell? w _ Dg)).trans Dg),((HB.out.cell (World.block_lt_of_cell? w _ Cg)).trans Cg),((HB.out.cell (World.block_lt_of_cell? w _ Bg)).trans Bg),((HB.out.cell (World.block_lt_of_cell? w _ Ag)).trans Ag),((HB.out.cell (World.block_lt_of_cell? w _ zg)).trans zg),((HB.out.cell (World.block_lt_of_cell? w _ yg)).trans yg),((HB.out.cell (World.block_lt_of_cell? w _ xg)).trans xg)⟩ (fun hHeld=>?_);refine nh Tb.tH Tb.WA (fun ef Pn=>?_)
        generalize wr.drew=w9 at HB Kl Ft Zd Be Ae ze ye Ee Ff Qf Pf Nf hHeld ⊢
        refine Nb (i:=0) (N:=some 17) (v:=?_) (a':=?_) #[true,false,false,false,false,false,false,false,false,false] rfl rfl (Oc ef.out (by kernel_rfl)) (fun _ _ _ h=>h) (Or.inl ⟨by rfl,?_⟩) ?_ ?_
        rotate_left
        ·intro w'
         go_simp
         with_reducible rfl
        rotate_left
        ·simp only [Act.put,List.setIfInBounds_toArray,List.set_cons_zero,List.set_cons_succ,Za,gb]
         rfl
        refine Nb (i:=1) (N:=some 18) (v:=?_) (a':=?_) #[true,true,false,false,false,false,false,false,false,false] rfl rfl (Oc ef.out (by kernel_rfl)) (fun _ _ _ h=>h) (Or.inl ⟨by rfl,?_⟩) ?_ ?_
        rotate_left
        ·intro w'
         go_simp
         with_reducible rfl
        rotate_left
        ·simp only [Act.put,List.setIfInBounds_toArray,List.set_cons_zero,List.set_cons_succ,Za,gb]
         rfl
        refine Nb (i:=2) (N:=some 19) (v:=?_) (a':=?_) #[true,true,true,false,false,false,false,false,false,false] rfl rfl (Oc ef.out (by kernel_rfl)) (fun _ _ _ h=>h) (Or.inl ⟨by rfl,?_⟩) ?_ ?_
        rotate_left
        ·intro w'
         go_simp
         with_reducible rfl
        rotate_left
        ·simp only [Act.put,List.setIfInBounds_toArray,List.set_cons_zero,List.set_cons_succ,Za,gb]
         rfl
        refine Nb (i:=4) (N:=some 21) (v:=?_) (a':=?_) #[true,true,true,false,true,false,false,false,false,false] rfl rfl (Oc ef.out (by kernel_rfl)) (fun _ _ _ h=>h) (Or.inl ⟨by rfl,?_⟩) ?_ ?_
        rotate_left
        ·intro w'
         go_simp
         with_reducible rfl
        rotate_left
        ·simp only [Act.put,List.setIfInBounds_toArray,List.set_cons_zero,List.set_cons_succ,Za,gb]
         rfl
        refine Nb (i:=5) (N:=some 22) (v:=?_) (a':=?_) #[true,true,true,false,true,true,false,false,false,false] rfl rfl (Oc ef.out (by kernel_rfl)) (fun _ _ _ h=>h) (Or.inl ⟨by rfl,?_⟩) ?_ ?_
        rotate_left
        ·intro w'
         go_simp
         with_reducible rfl
        rotate_left
        ·simp only [Act.put,List.setIfInBounds_toArray,List.set_cons_zero,List.set_cons_succ,Za,gb]
         rfl
        refine Nb (i:=6) (N:=some 23) (v:=?_) (a':=?_) #[true,true,true,false,true,true,true,false,false,false] rfl rfl (Oc ef.out (by kernel_rfl)) (fun _ _ _ h=>h) (Or.inl ⟨by rfl,?_⟩) ?_ ?_
        rotate_left
        ·intro w'
         go_simp
         with_reducible rfl
        rotate_left
        ·simp only [Act.put,List.setIfInBounds_toArray,List.set_cons_zero,List.set_cons_succ,Za,gb]
         rfl
        refine Jd (i:=3) (N:=some 20) (v:=?_) (a':=?_) #[true,true,true,true,true,true,true,false,false,false] rfl rfl (Fe ef.out Pn.out (by kernel_rfl)) (fun _ _ _ h=>h) (Or.inl ⟨by rfl,?_⟩) hHeld ?_ ?_
        rotate_left
        ·rintro w' ⟨s0,s1,s2,s3,s4,s5,s6,s7,s8,s9⟩
         go_simp
         with_reducible rfl
        rotate_left
        ·simp only [Act.put,List.setIfInBounds_toArray,List.set_cons_zero,List.set_cons_succ,Za,gb]
         rfl
        refine Jd (i:=7) (N:=some 24) (v:=?_) (a':=?_) #[true,true,true,true,true,true,true,true,false,false] rfl rfl (Fe ef.out Pn.out (by kernel_rfl)) (fun _ _ _ h=>h) (Or.inl ⟨by rfl,?_⟩) hHeld ?_ ?_
        rotate_left
        ·rintro w' ⟨s0,s1,s2,s3,s4,s5,s6,s7,s8,s9⟩
         go_simp
         with_reducible rfl
        rotate_left
        ·simp only [Act.put,List.setIfInBounds_toArray,List.set_cons_zero,List.set_cons_succ,Za,gb]
         rfl
        refine gh (i:=8) (N:=some 25) #[true,true,true,true,true,true,true,true,true,false] rfl rfl (Mk ef.out (by kernel_rfl)) (by decide) (fun K hK=>?_)
        refine Gn Try.func93 (by kernel_rfl) rfl #[.agg #[.slice Po ((mb l0 Ya).f0).length Ho,.int .i64 ((mb l0 Ya).f1),.int .i64 ((mb l0 Ya).f2),.int .i64 ((mb l0 Ya).f3),.int .i64 ((mb l0 Ya).f4)],.agg #[.slice Ex ((mb l1 Ya).f0).length yx,.int .i64 ((mb l1 Ya).f1),.int .i64 ((mb l1 Ya).f2),.int .i64 ((mb l1 Ya).f3),.int .i64 ((mb l1 Ya).f4)]] (by rfl) rfl rfl (by (try simp only [List.map_toArray,List.map_cons,List.map_nil]);first|done|rfl|(simp only [List.length_drop,List.length_take];rfl)) ?_
        with_reducible refine (bf.calls k1 _ _ ((mb l0 Ya).f0) ((mb l0 Ya).f1) ((mb l0 Ya).f2) ((mb l0 Ya).f3) ((mb l0 Ya).f4) _ _ ((mb l1 Ya).f0) ((mb l1 Ya).f1) ((mb l1 Ya).f2) ((mb l1 Ya).f3) ((mb l1 Ya).f4) true _ ?side1 ?side2 ?side3 ?side4 A7.out).mono ?_
        (case side1=>repeat (first|exact (Kd.Yb Kl.out HB.out)|(with_reducible refine Kd.yc ?_ _)|(with_reducible refine Kd.uc ?_ _)|(with_reducible refine Kd.Sc ?_)))
        (case side2=>exact Oo.out)
        (case side3=>repeat (first|exact (Kd.Yb Ft.out HB.out)|(with_reducible refine Kd.yc ?_ _)|(with_reducible refine Kd.uc ?_ _)|(with_reducible refine Kd.Sc ?_)))
        (case side4=>exact cA.out)
        rintro e Qo ⟨rfl,hb⟩
        refine ⟨_,rfl,?_⟩
        have Pb:=qa.mk (Pa (by repeat (first|(with_reducible first|exact HB.out|apply ia|apply ja|apply za)|exact HB.out)) hb)
        clear HB
        have HB:=Pb
        clear Pb
        (try clear hb)
        (try clear hb2)
        (try clear hk)
        (try clear hi)
        refine hK.out _ _ ⟨((HB.out.cell (World.block_lt_of_cell? w _ Gg)).trans Gg),((HB.out.cell (World.block_lt_of_cell? w _ Fg)).trans Fg),((HB.out.cell (World.block_lt_of_cell? w _ Eg)).trans Eg),((HB.out.cell (World.block_lt_of_cell? w _ Dg)).trans Dg),((HB.out.cell (World.block_lt_of_cell? w _ Cg)).trans Cg),((HB.out.cell (World.block_lt_of_cell? w _ Bg)).trans Bg),((HB.out.cell (World.block_lt_of_cell? w _ Ag)).trans Ag),((HB.out.cell (World.block_lt_of_cell? w _ zg)).trans zg),((HB.out.cell (World.block_lt_of_cell? w _ yg)).trans yg),((HB.out.cell (World.block_lt_of_cell? w _ xg)).trans xg)⟩ (fun hHeld=>?_)
        clear hK K
        refine Xd (a':=?_) ?_ ?_
        rotate_left
        ·show Act.put _ (some 25) _=_
         simp only [Act.put,List.setIfInBounds_toArray,List.set_cons_zero,List.set_cons_succ,Za,gb]
         rfl
        refine Nb (i:=9) (N:=some 26) (v:=?_) (a':=?_) #[true,true,true,true,true,true,true,true,true,true] rfl rfl (Oc ef.out (by kernel_rfl)) (fun _ _ _ h=>h) (Or.inl ⟨by rfl,?_⟩) ?_ ?_
        rotate_left
        ·intro w'
         go_simp
         with_reducible rfl
        rotate_left
        ·simp only [Act.put,List.setIfInBounds_toArray,List.set_cons_zero,List.set_cons_succ,Za,gb]
         rfl
        refine Yh (Oj ef.out (by kernel_rfl)) ?_
        try go_wp2
        go_roundg k1
        case measure=>have:=We.out;omega
        case rel=>exact ⟨(wrap64 (Ya + 1)),(by first|rfl|(simp;done)|(simp [*];done)),H',⟨by have:=We.out;omega⟩,⟨by repeat (first|(with_reducible first|exact HB.out|apply ia|apply ja|apply za)|exact HB.out)⟩⟩
       ·replace c8:=Bool.eq_false_iff.mpr c8
        subst c8
        have H1:(some false)=some r:=by rw [if_neg (show ¬ (false=true) by decide)] at H;exact H
        clear H
        have H:=H1
        clear H1
        obtain rfl:=Option.some.inj H
        try go_wp2
        have Pb:=qa.mk (za HB.out)
        clear HB
        have HB:=Pb
        clear Pb
        have Yf:0 ≤ (Ya:Int):=of_decide_eq_true (by first|(with_reducible assumption)|assumption)
        have Xf:Ya < (l0.length:Int):=of_decide_eq_true (by first|(with_reducible assumption)|assumption)
        obtain ⟨Ie,Po,Ho,Xj,Zd,Be,Ae,ze,ye,Gj,Hj⟩:=Wi Nq.out Ya Yf Xf
        have Cg:=ye
        have Dg:=ze
        have Eg:=Ae
        have Fg:=Be
        have Gg:=Zd
        cases Xj
        replace Zd:=(HB.out.cell (World.block_lt_of_cell? w _ Zd)).trans Zd
        replace Be:=(HB.out.cell (World.block_lt_of_cell? w _ Be)).trans Be
        replace Ae:=(HB.out.cell (World.block_lt_of_cell? w _ Ae)).trans Ae
        replace ze:=(HB.out.cell (World.block_lt_of_cell? w _ ze)).trans ze
        replace ye:=(HB.out.cell (World.block_lt_of_cell? w _ ye)).trans ye
        have Kl:=qa.mk Hj
        have Oo:=qa.mk Gj
        clear Hj Gj
        replace Yf:=eq_true Yf
        replace Xf:=eq_true Xf
        have ei:0 ≤ (Ya:Int):=of_decide_eq_true (by first|(with_reducible assumption)|assumption)
        have di:Ya < (l1.length:Int):=of_decide_eq_true (by first|(with_reducible assumption)|assumption)
        obtain ⟨Ue,Ex,yx,sr,Ee,Ff,Qf,Pf,Nf,Ir,Lr⟩:=Wi PJ.out Ya ei di
        have xg:=Nf
        have yg:=Pf
        have zg:=Qf
        have Ag:=Ff
        have Bg:=Ee
        cases sr
        replace Ee:=(HB.out.cell (World.block_lt_of_cell? w _ Ee)).trans Ee
        replace Ff:=(HB.out.cell (World.block_lt_of_cell? w _ Ff)).trans Ff
        replace Qf:=(HB.out.cell (World.block_lt_of_cell? w _ Qf)).trans Qf
        replace Pf:=(HB.out.cell (World.block_lt_of_cell? w _ Pf)).trans Pf
        replace Nf:=(HB.out.cell (World.block_lt_of_cell? w _ Nf)).trans Nf
        have Ft:=qa.mk Lr
        have cA:=qa.mk Ir
        clear Lr Ir
        replace ei:=eq_true ei
        replace di:=eq_true di
        refine Pg (n:=10) (S:=fun w'=>w'.cell? (Ie.add ((Ya).toNat * 5))=some (.slice Po ((mb l0 Ya).f0).length Ho)∧w'.cell? ⟨(Ie.add ((Ya).toNat * 5)).block,(Ie.add ((Ya).toNat * 5)).off + 1,none⟩=some (.int .i64 ((mb l0 Ya).f1))∧w'.cell? ⟨(Ie.add ((Ya).toNat * 5)).block,(Ie.add ((Ya).toNat * 5)).off + 2,none⟩=some (.int .i64 ((mb l0 Ya).f2))∧w'.cell? ⟨(Ie.add ((Ya).toNat * 5)).block,(Ie.add ((Ya).toNat * 5)).off + 3,none⟩=some (.int .i64 ((mb l0 Ya).f3))∧w'.cell? ⟨(Ie.add ((Ya).toNat * 5)).block,(Ie.add ((Ya).toNat * 5)).off + 4,none⟩=some (.int .i64 ((mb l0 Ya).f4))∧w'.cell? (Ue.add ((Ya).toNat * 5))=some (.slice Ex ((mb l1 Ya).f0).length yx)∧w'.cell? ⟨(Ue.add ((Ya).toNat * 5)).block,(Ue.add ((Ya).toNat * 5)).off + 1,none⟩=some (.int .i64 ((mb l1 Ya).f1))∧w'.cell? ⟨(Ue.add ((Ya).toNat * 5)).block,(Ue.add ((Ya).toNat * 5)).off + 2,none⟩=some (.int .i64 ((mb l1 Ya).f2))∧w'.cell? ⟨(Ue.add ((Ya).toNat * 5)).block,(Ue.add ((Ya).toNat * 5)).off + 3,none⟩=some (.int .i64 ((mb l1 Ya).f3))∧w'.cell? ⟨(Ue.add ((Ya).toNat * 5)).block,(Ue.add ((Ya).toNat * 5)).off + 4,none⟩=some (.int .i64 ((mb l1 Ya).f4))) (ds:=[]) #[false,false,false,false,false,false,false,false,false,false] (by kernel_rfl) rfl rfl ⟨((HB.out.cell (World.block_lt_of_cell? w _ Gg)).trans Gg),((HB.out.cell (World.block_lt_of_cell? w _ Fg)).trans Fg),((HB.out.cell (World.block_lt_of_cell? w _ Eg)).trans Eg),((HB.out.cell (World.block_lt_of_cell? w _ Dg)).trans Dg),((HB.out.cell (World.block_lt_of_cell? w _ Cg)).trans Cg),((HB.out.cell (World.block_lt_of_cell? w _ Bg)).trans Bg),((HB.out.cell (World.block_lt_of_cell? w _ Ag)).trans Ag),((HB.out.cell (World.block_lt_of_cell? w _ zg)).trans zg),((HB.out.cell (World.block_lt_of_cell? w _ yg)).trans yg),((HB.out.cell (World.block_lt_of_cell? w _ xg)).trans xg)⟩ (fun hHeld=>?_);refine nh Tb.tH Tb.WA (fun ef Pn=>?_)
        generalize wr.drew=ri at HB Kl Ft Zd Be Ae ze ye Ee Ff Qf Pf Nf hHeld ⊢
        refine Nb (i:=0) (N:=some 17) (v:=?_) (a':=?_) #[true,false,false,false,false,false,false,false,false,false] rfl rfl (Oc ef.out (by kernel_rfl)) (fun _ _ _ h=>h) (Or.inl ⟨by rfl,?_⟩) ?_ ?_
        rotate_left
        ·intro w'
         go_simp
         with_reducible rfl
        rotate_left
        ·simp only [Act.put,List.setIfInBounds_toArray,List.set_cons_zero,List.set_cons_succ,Za,gb]
         rfl
        refine Nb (i:=1) (N:=some 18) (v:=?_) (a':=?_) #[true,true,false,false,false,false,false,false,false,false] rfl rfl (Oc ef.out (by kernel_rfl)) (fun _ _ _ h=>h) (Or.inl ⟨by rfl,?_⟩) ?_ ?_
        rotate_left
        ·intro w'
         go_simp
         with_reducible rfl
        rotate_left
        ·simp only [Act.put,List.setIfInBounds_toArray,List.set_cons_zero,List.set_cons_succ,Za,gb]
         rfl
        refine Nb (i:=2) (N:=some 19) (v:=?_) (a':=?_) #[true,true,true,false,false,false,false,false,false,false] rfl rfl (Oc ef.out (by kernel_rfl)) (fun _ _ _ h=>h) (Or.inl ⟨by rfl,?_⟩) ?_ ?_
        rotate_left
        ·intro w'
         go_simp
         with_reducible rfl
        rotate_left
        ·simp only [Act.put,List.setIfInBounds_toArray,List.set_cons_zero,List.set_cons_succ,Za,gb]
         rfl
        refine Nb (i:=4) (N:=some 21) (v:=?_) (a':=?_) #[true,true,true,false,true,false,false,false,false,false] rfl rfl (Oc ef.out (by kernel_rfl)) (fun _ _ _ h=>h) (Or.inl ⟨by rfl,?_⟩) ?_ ?_
        rotate_left
        ·intro w'
         go_simp
         with_reducible rfl
        rotate_left
        ·simp only [Act.put,List.setIfInBounds_toArray,List.set_cons_zero,List.set_cons_succ,Za,gb]
         rfl
        refine Nb (i:=5) (N:=some 22) (v:=?_) (a':=?_) #[true,true,true,false,true,true,false,false,false,false] rfl rfl (Oc ef.out (by kernel_rfl)) (fun _ _ _ h=>h) (Or.inl ⟨by rfl,?_⟩) ?_ ?_
        rotate_left
        ·intro w'
         go_simp
         with_reducible rfl
        rotate_left
        ·simp only [Act.put,List.setIfInBounds_toArray,List.set_cons_zero,List.set_cons_succ,Za,gb]
         rfl
        refine Nb (i:=6) (N:=some 23) (v:=?_) (a':=?_) #[true,true,true,false,true,true,true,false,false,false] rfl rfl (Oc ef.out (by kernel_rfl)) (fun _ _ _ h=>h) (Or.inl ⟨by rfl,?_⟩) ?_ ?_
        rotate_left
        ·intro w'
         go_simp
         with_reducible rfl
        rotate_left
        ·simp only [Act.put,List.setIfInBounds_toArray,List.set_cons_zero,List.set_cons_succ,Za,gb]
         rfl
        refine Jd (i:=3) (N:=some 20) (v:=?_) (a':=?_) #[true,true,true,true,true,true,true,false,false,false] rfl rfl (Fe ef.out Pn.out (by kernel_rfl)) (fun _ _ _ h=>h) (Or.inl ⟨by rfl,?_⟩) hHeld ?_ ?_
        rotate_left
        ·rintro w' ⟨s0,s1,s2,s3,s4,s5,s6,s7,s8,s9⟩
         go_simp
         with_reducible rfl
        rotate_left
        ·simp only [Act.put,List.setIfInBounds_toArray,List.set_cons_zero,List.set_cons_succ,Za,gb]
         rfl
        refine Jd (i:=7) (N:=some 24) (v:=?_) (a':=?_) #[true,true,true,true,true,true,true,true,false,false] rfl rfl (Fe ef.out Pn.out (by kernel_rfl)) (fun _ _ _ h=>h) (Or.inl ⟨by rfl,?_⟩) hHeld ?_ ?_
        rotate_left
        ·rintro w' ⟨s0,s1,s2,s3,s4,s5,s6,s7,s8,s9⟩
         go_simp
         with_reducible rfl
        rotate_left
        ·simp only [Act.put,List.setIfInBounds_toArray,List.set_cons_zero,List.set_cons_succ,Za,gb]
         rfl
        refine gh (i:=8) (N:=some 25) #[true,true,true,true,true,true,true,true,true,false] rfl rfl (Mk ef.out (by kernel_rfl)) (by decide) (fun K hK=>?_)
        refine Gn Try.func93 (by kernel_rfl) rfl #[.agg #[.slice Po ((mb l0 Ya).f0).length Ho,.int .i64 ((mb l0 Ya).f1),.int .i64 ((mb l0 Ya).f2),.int .i64 ((mb l0 Ya).f3),.int .i64 ((mb l0 Ya).f4)],.agg #[.slice Ex ((mb l1 Ya).f0).length yx,.int .i64 ((mb l1 Ya).f1),.int .i64 ((mb l1 Ya).f2),.int .i64 ((mb l1 Ya).f3),.int .i64 ((mb l1 Ya).f4)]] (by rfl) rfl rfl (by (try simp only [List.map_toArray,List.map_cons,List.map_nil]);first|done|rfl|(simp only [List.length_drop,List.length_take];rfl)) ?_
        with_reducible refine (bf.calls k1 _ _ ((mb l0 Ya).f0) ((mb l0 Ya).f1) ((mb l0 Ya).f2) ((mb l0 Ya).f3) ((mb l0 Ya).f4) _ _ ((mb l1 Ya).f0) ((mb l1 Ya).f1) ((mb l1 Ya).f2) ((mb l1 Ya).f3) ((mb l1 Ya).f4) false _ ?side1 ?side2 ?side3 ?side4 A7.out).mono ?_
        (case side1=>repeat (first|exact (Kd.Yb Kl.out HB.out)|(with_reducible refine Kd.yc ?_ _)|(with_reducible refine Kd.uc ?_ _)|(with_reducible refine Kd.Sc ?_)))
        (case side2=>exact Oo.out)
        (case side3=>repeat (first|exact (Kd.Yb Ft.out HB.out)|(with_reducible refine Kd.yc ?_ _)|(with_reducible refine Kd.uc ?_ _)|(with_reducible refine Kd.Sc ?_)))
        (case side4=>exact cA.out)
        rintro e yu ⟨rfl,hb⟩
        refine ⟨_,rfl,?_⟩
        have Pb:=qa.mk (Pa (by repeat (first|(with_reducible first|exact HB.out|apply ia|apply ja|apply za)|exact HB.out)) hb)
        clear HB
        have HB:=Pb
        clear Pb
        (try clear hb)
        (try clear hb2)
        (try clear hk)
        (try clear hi)
        refine hK.out _ _ ⟨((HB.out.cell (World.block_lt_of_cell? w _ Gg)).trans Gg),((HB.out.cell (World.block_lt_of_cell? w _ Fg)).trans Fg),((HB.out.cell (World.block_lt_of_cell? w _ Eg)).trans Eg),((HB.out.cell (World.block_lt_of_cell? w _ Dg)).trans Dg),((HB.out.cell (World.block_lt_of_cell? w _ Cg)).trans Cg),((HB.out.cell (World.block_lt_of_cell? w _ Bg)).trans Bg),((HB.out.cell (World.block_lt_of_cell? w _ Ag)).trans Ag),((HB.out.cell (World.block_lt_of_cell? w _ zg)).trans zg),((HB.out.cell (World.block_lt_of_cell? w _ yg)).trans yg),((HB.out.cell (World.block_lt_of_cell? w _ xg)).trans xg)⟩ (fun hHeld=>?_)
        clear hK K
        refine Xd (a':=?_) ?_ ?_
        rotate_left
        ·show Act.put _ (some 25) _=_
         simp only [Act.put,List.setIfInBounds_toArray,List.set_cons_zero,List.set_cons_succ,Za,gb]
         rfl
        refine Nb (i:=9) (N:=some 26) (v:=?_) (a':=?_) #[true,true,true,true,true,true,true,true,true,true] rfl rfl (Oc ef.out (by kernel_rfl)) (fun _ _ _ h=>h) (Or.inl ⟨by rfl,?_⟩) ?_ ?_
        rotate_left
        ·intro w'
         go_simp
         with_reducible rfl
        rotate_left
        ·simp only [Act.put,List.setIfInBounds_toArray,List.set_cons_zero,List.set_cons_succ,Za,gb]
         rfl
        refine Yh (Oj ef.out (by kernel_rfl)) ?_
        try go_wp2
        go_ret
        exact ⟨by first|rfl|(simp [La,Ka] <;> rfl)|(simp [*,La,Ka] <;> rfl),by repeat (first|(with_reducible first|exact HB.out|apply ia|apply ja|apply za)|exact HB.out)⟩
      ·rw [if_neg c6] at H
       exact absurd H (by simp)
     ·rw [if_neg c5] at H
      exact absurd H (by simp)
    ·rw [if_neg c4] at H
     have Mh:decide (Ya < (l0.length:Int))=false:=decide_eq_false c4
     clear c4
     obtain rfl:=Option.some.inj H
     go_wp2
     go_ret
     exact ⟨by first|rfl|(simp [La,Ka] <;> rfl)|(simp [*,La,Ka] <;> rfl),by repeat (first|(with_reducible first|exact HB.out|apply ia|apply ja|apply za)|exact HB.out)⟩
 ·rw [if_neg c3] at H
  have Uh:((l0.length:Int) == (l1.length:Int))=false:=beq_eq_false_iff_ne.mpr c3
  have Mq:((l0.length:Int) != (l1.length:Int))=true:=bne_iff_ne.mpr c3
  have UA:(l0.length == l1.length)=false:=by first|simpa using c3|(simp at c3 ⊢;omega)
  obtain rfl:=Option.some.inj H
  go_enter Try.func61,Try.ntmps61
  go_wp2
  go_ret
  exact ⟨by first|rfl|(simp [La,Ka] <;> rfl)|(simp [*,La,Ka] <;> rfl),by repeat (first|(with_reducible first|exact HB.out|apply ia|apply ja|apply za)|exact HB.out)⟩
end Go.Proofs.Ytmifdccaajngcaa.P
end
section
namespace Go.Proofs.Ytmifdccaajngcaa.P
open Go.RowKit Go.Proofs.Ca.xb Go.Proofs.Ca.Xb Go.Proofs.Ca.ic
attribute [local go_sem] Vd Td we ue Dd Cd Ud Sd
set_option linter.unusedVariables false
set_option linter.unusedSimpArgs false
def xe.f (k:Nat) (Ra:List Int) (Ja:Int) (Ma:Int) (Oa:Int) (Qa:List (Eh)) (Xc:List Int) (Lb:Int) (Sb:Int) (Ub:Int) (Uj:List (Eh)):Option (Bool):=(Uc.f k Ra Xc).bind fun t103=>(if t103=true then (if Ja=Lb then (if Ma=Sb then (if Oa=Ub then ((Tb.f k Qa Uj).bind fun t104=>(if t104=true then (some true) else (some false))) else (some false)) else (some false)) else (some false)) else (some false))
theorem xe.mono:∀ a0 a1 a2 a3 a4 a5 a6 a7 a8 a9 k,mc (xe.f k a0 a1 a2 a3 a4 a5 a6 a7 a8 a9) (xe.f (k + 1) a0 a1 a2 a3 a4 a5 a6 a7 a8 a9):=by
 intro a0 a1 a2 a3 a4 a5 a6 a7 a8 a9 k
 unfold xe.f
 repeat' first
   | (with_reducible exact Tb.mono _ _ _)
   | (with_reducible exact Uc.mono _ _ _)
   | (with_reducible exact mc.refl _)
   | (with_reducible exact mc.none _)
   | (with_reducible refine mc.ite ?_ ?_)
   | (with_reducible refine mc.bind ?_ (fun _=>?_))
   | exact Tb.mono _ _ _
   | exact Uc.mono _ _ _
   | exact mc.none _
   | refine mc.ite ?_ ?_
   | refine mc.bind ?_ (fun _=>?_)
set_option maxHeartbeats 8000000 in
set_option maxRecDepth 100000 in
theorem xe.calls (k:Nat) (Ib:Option Addr) (Gb:Nat) (Ra:List Int) (Ja:Int) (Ma:Int) (Oa:Int) (qc:Option Addr) (dc:Nat) (Qa:List (Eh)) (Ze:Option Addr) (Re:Nat) (Xc:List Int) (Lb:Int) (Sb:Int) (Ub:Int) (Yo:Option Addr) (Xo:Nat) (Uj:List (Eh)) (r:Bool) (w:World) (zf:Kd.C (Kd.int .i64) w Ib Ra.length Ra) (uf:Ra.length ≤ Gb) (bg:Kd.C Xq w qc Qa.length Qa) (cg:Qa.length ≤ dc) (Yq:Kd.C (Kd.int .i64) w Ze Xc.length Xc) (Zq:Xc.length ≤ Re) (UN:Kd.C Xq w Yo Uj.length Uj) (kO:Uj.length ≤ Xo) (h:xe.f k Ra Ja Ma Oa Qa Xc Lb Sb Ub Uj=some r) :
  Calls Try.prog 17 #[.agg #[.slice Ib Ra.length Gb,.int .i64 Ja,.int .i64 Ma,.int .i64 Oa,.slice qc Qa.length dc],.agg #[.slice Ze Xc.length Re,.int .i64 Lb,.int .i64 Sb,.int .i64 Ub,.slice Yo Uj.length Xo]] w fun e w'=>e = .returned (.bool r)∧Below w.heap.size w w':=by
 have CA:=Try.underlying30
 have Ve:=qa.mk zf
 have gf:=qa.mk uf
 clear zf uf
 have Tf:=qa.mk bg
 have Yg:=qa.mk cg
 clear bg cg
 have Qk:=qa.mk Yq
 have jn:=qa.mk Zq
 clear Yq Zq
 have KO:=qa.mk UN
 have OO:=qa.mk kO
 clear UN kO
 have HB:=qa.mk (Below.refl w.heap.size w)
 have H:((Uc.f k Ra Xc).bind fun t103=>(if t103=true then (if Ja=Lb then (if Ma=Sb then (if Oa=Ub then ((Tb.f k Qa Uj).bind fun t104=>(if t104=true then (some true) else (some false))) else (some false)) else (some false)) else (some false)) else (some false)))=some r:=h
 clear h
 replace H:=Option.bind_eq_some_iff.mp H
 obtain ⟨t103,Ht,H⟩:=H
 replace H:(if t103=true then (if Ja=Lb then (if Ma=Sb then (if Oa=Ub then ((Tb.f k Qa Uj).bind fun t104=>(if t104=true then (some true) else (some false))) else (some false)) else (some false)) else (some false)) else (some false))=some r:=H
 have A3:=qa.mk Ht
 clear Ht
 by_cases c4:t103=true
 ·subst c4
  have H1:(if Ja=Lb then (if Ma=Sb then (if Oa=Ub then ((Tb.f k Qa Uj).bind fun t104=>(if t104=true then (some true) else (some false))) else (some false)) else (some false)) else (some false))=some r:=by rw [if_pos rfl] at H;exact H
  clear H
  have H:=H1
  clear H1
  by_cases c5:Ja=Lb
  ·rw [if_pos c5] at H
   have Hl:(Ja == Lb)=true:=beq_iff_eq.mpr c5
   have Yt:(Ja != Lb)=false:=bne_eq_false_iff_eq.mpr c5
   clear c5
   by_cases c6:Ma=Sb
   ·rw [if_pos c6] at H
    have rm:(Ma == Sb)=true:=beq_iff_eq.mpr c6
    have jx:(Ma != Sb)=false:=bne_eq_false_iff_eq.mpr c6
    clear c6
    by_cases c7:Oa=Ub
    ·rw [if_pos c7] at H
     have Wo:(Oa == Ub)=true:=beq_iff_eq.mpr c7
     have gx:(Oa != Ub)=false:=bne_eq_false_iff_eq.mpr c7
     clear c7
     replace H:=Option.bind_eq_some_iff.mp H
     obtain ⟨t104,pG,H⟩:=H
     replace H:(if t104=true then (some true) else (some false))=some r:=H
     have A8:=qa.mk pG
     clear pG
     by_cases c9:t104=true
     ·subst c9
      have H1:(some true)=some r:=by rw [if_pos rfl] at H;exact H
      clear H
      have H:=H1
      clear H1
      obtain rfl:=Option.some.inj H
      go_enter Try.func17,Try.ntmps17
      go_wp2_with (first|((with_reducible refine Mb (N:=2) rfl ?_);refine Jb ?hg (N:=2) ?hd (cs:=#[.slice Ib Ra.length Gb,.int .i64 Ja,.int .i64 Ma,.int .i64 Oa,.slice qc Qa.length dc]) (t:=30) ?hr ?_;(case hd=>rfl);(case hg=>rfl);(case hr=>first|(go_simp;done)|(go_simp;rfl));intro Fa hg Qo Qb hb;have Pb:=qa.mk (Pa (by repeat (first|(with_reducible first|exact HB.out|apply ia|apply ja|apply za)|exact HB.out)) hb);have Wb:=qa.mk (Qb);have nc:=qa.mk ((by rw [hg];exact (Na (by repeat (first|(with_reducible first|exact HB.out|apply ia|apply ja|apply za)|exact HB.out))):w.heap.size ≤ Fa));have Nc:=qa.mk ((by rw [hg];exact (Na (by repeat (first|(with_reducible first|exact HB.out|apply ia|apply ja|apply za)|exact HB.out))):w.heap.size ≤ Fa));clear HB;have HB:=Pb;have ua:=Wb;have Nd:=nc;have Va:=Nc;clear Pb Wb nc Nc;clear hb Qb hg)|((with_reducible refine Mb (N:=3) rfl ?_);refine Jb ?hg (N:=3) ?hd (cs:=#[.slice Ze Xc.length Re,.int .i64 Lb,.int .i64 Sb,.int .i64 Ub,.slice Yo Uj.length Xo]) (t:=30) ?hr ?_;(case hd=>rfl);(case hg=>rfl);(case hr=>first|(go_simp;done)|(go_simp;rfl));intro Ia hg ri Qb hb;have Pb:=qa.mk (Wa (g:=Fa) (o:=.cells #[.slice Ib Ra.length Gb,.int .i64 Ja,.int .i64 Ma,.int .i64 Oa,.slice qc Qa.length dc] 30 (0,0)) (by (with_reducible repeat (first|refine Ea ?_ _|refine Ga ?_|refine Da ?_ _));exact ua.out) hb);have Wb:=qa.mk (Pa (by repeat (first|(with_reducible first|exact HB.out|apply ia|apply ja|apply za|refine Aa ?_ Va.out)|exact HB.out)) hb);have nc:=qa.mk (Qb);have Nc:=qa.mk ((by rw [hg];exact (Na (by repeat (first|(with_reducible first|exact HB.out|apply ia|apply ja|apply za|refine Aa ?_ Va.out)|exact HB.out))):w.heap.size ≤ Ia));have qe:=qa.mk ((by rw [hg];exact (Na (by repeat (first|(with_reducible first|exact HB.out|apply ia|apply ja|apply za|refine Aa ?_ Va.out)|exact HB.out))):w.heap.size ≤ Ia));have lf:=qa.mk ((by rw [hg];exact Nat.ne_of_lt (Ac (g:=Fa) (o:=.cells #[.slice Ib Ra.length Gb,.int .i64 Ja,.int .i64 Ma,.int .i64 Oa,.slice qc Qa.length dc] 30 (0,0)) (by (with_reducible repeat (first|refine Ea ?_ _|refine Ga ?_|refine Da ?_ _));exact ua.out)):Fa ≠ Ia));have Hf:=qa.mk ((by rw [hg];exact Nat.ne_of_gt (Ac (g:=Fa) (o:=.cells #[.slice Ib Ra.length Gb,.int .i64 Ja,.int .i64 Ma,.int .i64 Oa,.slice qc Qa.length dc] 30 (0,0)) (by (with_reducible repeat (first|refine Ea ?_ _|refine Ga ?_|refine Da ?_ _));exact ua.out)):Ia ≠ Fa));clear ua;clear HB;have ua:=Pb;have HB:=Wb;have Ba:=nc;have Je:=Nc;have Vb:=qe;have Sa:=lf;have qb:=Hf;clear Pb Wb nc Nc qe lf Hf;clear hb Qb hg;have gI:=Sa.out;have dI:=qb.out;have Lj:ri.cell? ⟨Fa,0,none⟩=some (.slice Ib Ra.length Gb):=(ga ua.out 0).trans rfl;have Kj:ri.cell? ⟨Fa,1,none⟩=some (.int .i64 Ja):=(ga ua.out 1).trans rfl;have Gq:ri.cell? ⟨Fa,2,none⟩=some (.int .i64 Ma):=(ga ua.out 2).trans rfl;have Fq:ri.cell? ⟨Fa,3,none⟩=some (.int .i64 Oa):=(ga ua.out 3).trans rfl;have Dq:ri.cell? ⟨Fa,4,none⟩=some (.slice qc Qa.length dc):=(ga ua.out 4).trans rfl;have Jj:=aa ua.out 0;have Ij:=aa ua.out 1;have pq:=aa ua.out 2;have oq:=aa ua.out 3;have mq:=aa ua.out 4;have Gl:ri.cell? ⟨Ia,0,none⟩=some (.slice Ze Xc.length Re):=(ga Ba.out 0).trans rfl;have Fl:ri.cell? ⟨Ia,1,none⟩=some (.int .i64 Lb):=(ga Ba.out 1).trans rfl;have Wm:ri.cell? ⟨Ia,2,none⟩=some (.int .i64 Sb):=(ga Ba.out 2).trans rfl;have Vm:ri.cell? ⟨Ia,3,none⟩=some (.int .i64 Ub):=(ga Ba.out 3).trans rfl;have Um:ri.cell? ⟨Ia,4,none⟩=some (.slice Yo Uj.length Xo):=(ga Ba.out 4).trans rfl;have El:=aa Ba.out 0;have Dl:=aa Ba.out 1;have Jm:=aa Ba.out 2;have Im:=aa Ba.out 3;have Gm:=aa Ba.out 4)|((with_reducible refine Bb (f:=20) rfl ?_);refine jd (some 9) rfl rfl Try.func20 (by kernel_rfl) rfl #[.slice Ib Ra.length Gb,.slice Ze Xc.length Re] rfl (by (try simp only [List.map_toArray,List.map_cons,List.map_nil]);first|done|rfl|(simp only [List.length_drop,List.length_take];rfl)) ?_;(with_reducible refine (Uc.calls k _ _ Ra _ _ Xc true _ ?side1 ?side2 ?side3 ?side4 A3.out).mono ?_);(case side1=>repeat (first|exact (Kd.Yb Ve.out HB.out)|(with_reducible refine Kd.yc ?_ _)|(with_reducible refine Kd.uc ?_ _)|(with_reducible refine Kd.Sc ?_)));(case side2=>exact gf.out);(case side3=>repeat (first|exact (Kd.Yb Qk.out HB.out)|(with_reducible refine Kd.yc ?_ _)|(with_reducible refine Kd.uc ?_ _)|(with_reducible refine Kd.Sc ?_)));(case side4=>exact jn.out);rintro e w' ⟨rfl,⟨nd,rfl⟩⟩;refine ⟨_,rfl,?_⟩)|((with_reducible refine Bb (f:=61) rfl ?_);refine jd (some 30) rfl rfl Try.func61 (by kernel_rfl) rfl #[.slice qc Qa.length dc,.slice Yo Uj.length Xo] rfl (by (try simp only [List.map_toArray,List.map_cons,List.map_nil]);first|done|rfl|(simp only [List.length_drop,List.length_take];rfl)) ?_;(with_reducible refine (Tb.calls k _ _ Qa _ _ Uj true _ ?side1 ?side2 ?side3 ?side4 A8.out).mono ?_);(case side1=>repeat (first|exact (Kd.Yb Tf.out (by repeat (first|(with_reducible first|exact HB.out|apply ia|apply ja|apply za|refine Aa ?_ Va.out|refine Aa ?_ Vb.out)|exact HB.out)))|(with_reducible refine Kd.yc ?_ _)|(with_reducible refine Kd.uc ?_ _)|(with_reducible refine Kd.Sc ?_)));(case side2=>exact Yg.out);(case side3=>repeat (first|exact (Kd.Yb KO.out (by repeat (first|(with_reducible first|exact HB.out|apply ia|apply ja|apply za|refine Aa ?_ Va.out|refine Aa ?_ Vb.out)|exact HB.out)))|(with_reducible refine Kd.yc ?_ _)|(with_reducible refine Kd.uc ?_ _)|(with_reducible refine Kd.Sc ?_)));(case side4=>exact OO.out);rintro e sn ⟨rfl,hb⟩;refine ⟨_,rfl,?_⟩;have Pb:=qa.mk (Wa (g:=Fa) (o:=.cells #[.slice Ib Ra.length Gb,.int .i64 Ja,.int .i64 Ma,.int .i64 Oa,.slice qc Qa.length dc] 30 (0,0)) (by (with_reducible repeat (first|refine Ea ?_ _|refine Ga ?_|refine Da ?_ _));exact ua.out) hb);have Wb:=qa.mk (Wa (g:=Ia) (o:=.cells #[.slice Ze Xc.length Re,.int .i64 Lb,.int .i64 Sb,.int .i64 Ub,.slice Yo Uj.length Xo] 30 (0,0)) (by (with_reducible repeat (first|refine Ea ?_ _|refine Ga ?_|refine Da ?_ _));exact Ba.out) hb);have nc:=qa.mk (Pa (by repeat (first|(with_reducible first|exact HB.out|apply ia|apply ja|apply za|refine Aa ?_ Va.out|refine Aa ?_ Vb.out)|exact HB.out)) hb);clear ua;clear Ba;clear HB;have ua:=Pb;have Ba:=Wb;have HB:=nc;clear Pb Wb nc;(try clear hb);(try clear hb2);(try clear hk);(try clear hi)))
      go_ret
      exact ⟨by first|rfl|(simp [La,Ka] <;> rfl)|(simp [*,La,Ka] <;> rfl),by repeat (first|(with_reducible first|exact HB.out|apply ia|apply ja|apply za|refine Aa ?_ Va.out|refine Aa ?_ Vb.out)|exact HB.out)⟩
     ·replace c9:=Bool.eq_false_iff.mpr c9
      subst c9
      have H1:(some false)=some r:=by rw [if_neg (show ¬ (false=true) by decide)] at H;exact H
      clear H
      have H:=H1
      clear H1
      obtain rfl:=Option.some.inj H
      go_enter Try.func17,Try.ntmps17
      go_wp2_with (first|((with_reducible refine Mb (N:=2) rfl ?_);refine Jb ?hg (N:=2) ?hd (cs:=#[.slice Ib Ra.length Gb,.int .i64 Ja,.int .i64 Ma,.int .i64 Oa,.slice qc Qa.length dc]) (t:=30) ?hr ?_;(case hd=>rfl);(case hg=>rfl);(case hr=>first|(go_simp;done)|(go_simp;rfl));intro Fa hg Dw Qb hb;have Pb:=qa.mk (Pa (by repeat (first|(with_reducible first|exact HB.out|apply ia|apply ja|apply za)|exact HB.out)) hb);have Wb:=qa.mk (Qb);have nc:=qa.mk ((by rw [hg];exact (Na (by repeat (first|(with_reducible first|exact HB.out|apply ia|apply ja|apply za)|exact HB.out))):w.heap.size ≤ Fa));have Nc:=qa.mk ((by rw [hg];exact (Na (by repeat (first|(with_reducible first|exact HB.out|apply ia|apply ja|apply za)|exact HB.out))):w.heap.size ≤ Fa));clear HB;have HB:=Pb;have ua:=Wb;have Nd:=nc;have Va:=Nc;clear Pb Wb nc Nc;clear hb Qb hg)|((with_reducible refine Mb (N:=3) rfl ?_);refine Jb ?hg (N:=3) ?hd (cs:=#[.slice Ze Xc.length Re,.int .i64 Lb,.int .i64 Sb,.int .i64 Ub,.slice Yo Uj.length Xo]) (t:=30) ?hr ?_;(case hd=>rfl);(case hg=>rfl);(case hr=>first|(go_simp;done)|(go_simp;rfl));intro Ia hg iA Qb hb;have Pb:=qa.mk (Wa (g:=Fa) (o:=.cells #[.slice Ib Ra.length Gb,.int .i64 Ja,.int .i64 Ma,.int .i64 Oa,.slice qc Qa.length dc] 30 (0,0)) (by (with_reducible repeat (first|refine Ea ?_ _|refine Ga ?_|refine Da ?_ _));exact ua.out) hb);have Wb:=qa.mk (Pa (by repeat (first|(with_reducible first|exact HB.out|apply ia|apply ja|apply za|refine Aa ?_ Va.out)|exact HB.out)) hb);have nc:=qa.mk (Qb);have Nc:=qa.mk ((by rw [hg];exact (Na (by repeat (first|(with_reducible first|exact HB.out|apply ia|apply ja|apply za|refine Aa ?_ Va.out)|exact HB.out))):w.heap.size ≤ Ia));have qe:=qa.mk ((by rw [hg];exact (Na (by repeat (first|(with_reducible first|exact HB.out|apply ia|apply ja|apply za|refine Aa ?_ Va.out)|exact HB.out))):w.heap.size ≤ Ia));have lf:=qa.mk ((by rw [hg];exact Nat.ne_of_lt (Ac (g:=Fa) (o:=.cells #[.slice Ib Ra.length Gb,.int .i64 Ja,.int .i64 Ma,.int .i64 Oa,.slice qc Qa.length dc] 30 (0,0)) (by (with_reducible repeat (first|refine Ea ?_ _|refine Ga ?_|refine Da ?_ _));exact ua.out)):Fa ≠ Ia));have Hf:=qa.mk ((by rw [hg];exact Nat.ne_of_gt (Ac (g:=Fa) (o:=.cells #[.slice Ib Ra.length Gb,.int .i64 Ja,.int .i64 Ma,.int .i64 Oa,.slice qc Qa.length dc] 30 (0,0)) (by (with_reducible repeat (first|refine Ea ?_ _|refine Ga ?_|refine Da ?_ _));exact ua.out)):Ia ≠ Fa));clear ua;clear HB;have ua:=Pb;have HB:=Wb;have Ba:=nc;have Je:=Nc;have Vb:=qe;have Sa:=lf;have qb:=Hf;clear Pb Wb nc Nc qe lf Hf;clear hb Qb hg;have Zac:=Sa.out;have lac:=qb.out;have TF:iA.cell? ⟨Fa,0,none⟩=some (.slice Ib Ra.length Gb):=(ga ua.out 0).trans rfl;have SF:iA.cell? ⟨Fa,1,none⟩=some (.int .i64 Ja):=(ga ua.out 1).trans rfl;have RF:iA.cell? ⟨Fa,2,none⟩=some (.int .i64 Ma):=(ga ua.out 2).trans rfl;have QF:iA.cell? ⟨Fa,3,none⟩=some (.int .i64 Oa):=(ga ua.out 3).trans rfl;have PF:iA.cell? ⟨Fa,4,none⟩=some (.slice qc Qa.length dc):=(ga ua.out 4).trans rfl;have xE:=aa ua.out 0;have wE:=aa ua.out 1;have vE:=aa ua.out 2;have uE:=aa ua.out 3;have tE:=aa ua.out 4;have qN:iA.cell? ⟨Ia,0,none⟩=some (.slice Ze Xc.length Re):=(ga Ba.out 0).trans rfl;have pN:iA.cell? ⟨Ia,1,none⟩=some (.int .i64 Lb):=(ga Ba.out 1).trans rfl;have oN:iA.cell? ⟨Ia,2,none⟩=some (.int .i64 Sb):=(ga Ba.out 2).trans rfl;have nN:iA.cell? ⟨Ia,3,none⟩=some (.int .i64 Ub):=(ga Ba.out 3).trans rfl;have mN:iA.cell? ⟨Ia,4,none⟩=some (.slice Yo Uj.length Xo):=(ga Ba.out 4).trans rfl;have LL:=aa Ba.out 0;have KL:=aa Ba.out 1;have JL:=aa Ba.out 2;have IL:=aa Ba.out 3;have HL:=aa Ba.out 4)|((with_reducible refine Bb (f:=20) rfl ?_);refine jd (some 9) rfl rfl Try.func20 (by kernel_rfl) rfl #[.slice Ib Ra.length Gb,.slice Ze Xc.length Re] rfl (by (try simp only [List.map_toArray,List.map_cons,List.map_nil]);first|done|rfl|(simp only [List.length_drop,List.length_take];rfl)) ?_;(with_reducible refine (Uc.calls k _ _ Ra _ _ Xc true _ ?side1 ?side2 ?side3 ?side4 A3.out).mono ?_);(case side1=>repeat (first|exact (Kd.Yb Ve.out HB.out)|(with_reducible refine Kd.yc ?_ _)|(with_reducible refine Kd.uc ?_ _)|(with_reducible refine Kd.Sc ?_)));(case side2=>exact gf.out);(case side3=>repeat (first|exact (Kd.Yb Qk.out HB.out)|(with_reducible refine Kd.yc ?_ _)|(with_reducible refine Kd.uc ?_ _)|(with_reducible refine Kd.Sc ?_)));(case side4=>exact jn.out);rintro e w' ⟨rfl,⟨nd,rfl⟩⟩;refine ⟨_,rfl,?_⟩)|((with_reducible refine Bb (f:=61) rfl ?_);refine jd (some 30) rfl rfl Try.func61 (by kernel_rfl) rfl #[.slice qc Qa.length dc,.slice Yo Uj.length Xo] rfl (by (try simp only [List.map_toArray,List.map_cons,List.map_nil]);first|done|rfl|(simp only [List.length_drop,List.length_take];rfl)) ?_;(with_reducible refine (Tb.calls k _ _ Qa _ _ Uj false _ ?side1 ?side2 ?side3 ?side4 A8.out).mono ?_);(case side1=>repeat (first|exact (Kd.Yb Tf.out (by repeat (first|(with_reducible first|exact HB.out|apply ia|apply ja|apply za|refine Aa ?_ Va.out|refine Aa ?_ Vb.out)|exact HB.out)))|(with_reducible refine Kd.yc ?_ _)|(with_reducible refine Kd.uc ?_ _)|(with_reducible refine Kd.Sc ?_)));(case side2=>exact Yg.out);(case side3=>repeat (first|exact (Kd.Yb KO.out (by repeat (first|(with_reducible first|exact HB.out|apply ia|apply ja|apply za|refine Aa ?_ Va.out|refine Aa ?_ Vb.out)|exact HB.out)))|(with_reducible refine Kd.yc ?_ _)|(with_reducible refine Kd.uc ?_ _)|(with_reducible refine Kd.Sc ?_)));(case side4=>exact OO.out);rintro e oB ⟨rfl,hb⟩;refine ⟨_,rfl,?_⟩;have Pb:=qa.mk (Wa (g:=Fa) (o:=.cells #[.slice Ib Ra.length Gb,.int .i64 Ja,.int .i64 Ma,.int .i64 Oa,.slice qc Qa.length dc] 30 (0,0)) (by (with_reducible repeat (first|refine Ea ?_ _|refine Ga ?_|refine Da ?_ _));exact ua.out) hb);have Wb:=qa.mk (Wa (g:=Ia) (o:=.cells #[.slice Ze Xc.length Re,.int .i64 Lb,.int .i64 Sb,.int .i64 Ub,.slice Yo Uj.length Xo] 30 (0,0)) (by (with_reducible repeat (first|refine Ea ?_ _|refine Ga ?_|refine Da ?_ _));exact Ba.out) hb);have nc:=qa.mk (Pa (by repeat (first|(with_reducible first|exact HB.out|apply ia|apply ja|apply za|refine Aa ?_ Va.out|refine Aa ?_ Vb.out)|exact HB.out)) hb);clear ua;clear Ba;clear HB;have ua:=Pb;have Ba:=Wb;have HB:=nc;clear Pb Wb nc;(try clear hb);(try clear hb2);(try clear hk);(try clear hi)))
      go_ret
      exact ⟨by first|rfl|(simp [La,Ka] <;> rfl)|(simp [*,La,Ka] <;> rfl),by repeat (first|(with_reducible first|exact HB.out|apply ia|apply ja|apply za|refine Aa ?_ Va.out|refine Aa ?_ Vb.out)|exact HB.out)⟩
    ·rw [if_neg c7] at H
     have Wo:(Oa == Ub)=false:=beq_eq_false_iff_ne.mpr c7
     have gx:(Oa != Ub)=true:=bne_iff_ne.mpr c7
     obtain rfl:=Option.some.inj H
     go_enter Try.func17,Try.ntmps17
     go_wp2_with (first|((with_reducible refine Mb (N:=2) rfl ?_);refine Jb ?hg (N:=2) ?hd (cs:=#[.slice Ib Ra.length Gb,.int .i64 Ja,.int .i64 Ma,.int .i64 Oa,.slice qc Qa.length dc]) (t:=30) ?hr ?_;(case hd=>rfl);(case hg=>rfl);(case hr=>first|(go_simp;done)|(go_simp;rfl));intro Fa hg iH Qb hb;have Pb:=qa.mk (Pa (by repeat (first|(with_reducible first|exact HB.out|apply ia|apply ja|apply za)|exact HB.out)) hb);have Wb:=qa.mk (Qb);have nc:=qa.mk ((by rw [hg];exact (Na (by repeat (first|(with_reducible first|exact HB.out|apply ia|apply ja|apply za)|exact HB.out))):w.heap.size ≤ Fa));have Nc:=qa.mk ((by rw [hg];exact (Na (by repeat (first|(with_reducible first|exact HB.out|apply ia|apply ja|apply za)|exact HB.out))):w.heap.size ≤ Fa));clear HB;have HB:=Pb;have ua:=Wb;have Nd:=nc;have Va:=Nc;clear Pb Wb nc Nc;clear hb Qb hg)|((with_reducible refine Mb (N:=3) rfl ?_);refine Jb ?hg (N:=3) ?hd (cs:=#[.slice Ze Xc.length Re,.int .i64 Lb,.int .i64 Sb,.int .i64 Ub,.slice Yo Uj.length Xo]) (t:=30) ?hr ?_;(case hd=>rfl);(case hg=>rfl);(case hr=>first|(go_simp;done)|(go_simp;rfl));intro Ia hg iB Qb hb;have Pb:=qa.mk (Wa (g:=Fa) (o:=.cells #[.slice Ib Ra.length Gb,.int .i64 Ja,.int .i64 Ma,.int .i64 Oa,.slice qc Qa.length dc] 30 (0,0)) (by (with_reducible repeat (first|refine Ea ?_ _|refine Ga ?_|refine Da ?_ _));exact ua.out) hb);have Wb:=qa.mk (Pa (by repeat (first|(with_reducible first|exact HB.out|apply ia|apply ja|apply za|refine Aa ?_ Va.out)|exact HB.out)) hb);have nc:=qa.mk (Qb);have Nc:=qa.mk ((by rw [hg];exact (Na (by repeat (first|(with_reducible first|exact HB.out|apply ia|apply ja|apply za|refine Aa ?_ Va.out)|exact HB.out))):w.heap.size ≤ Ia));have qe:=qa.mk ((by rw [hg];exact (Na (by repeat (first|(with_reducible first|exact HB.out|apply ia|apply ja|apply za|refine Aa ?_ Va.out)|exact HB.out))):w.heap.size ≤ Ia));have lf:=qa.mk ((by rw [hg];exact Nat.ne_of_lt (Ac (g:=Fa) (o:=.cells #[.slice Ib Ra.length Gb,.int .i64 Ja,.int .i64 Ma,.int .i64 Oa,.slice qc Qa.length dc] 30 (0,0)) (by (with_reducible repeat (first|refine Ea ?_ _|refine Ga ?_|refine Da ?_ _));exact ua.out)):Fa ≠ Ia));have Hf:=qa.mk ((by rw [hg];exact Nat.ne_of_gt (Ac (g:=Fa) (o:=.cells #[.slice Ib Ra.length Gb,.int .i64 Ja,.int .i64 Ma,.int .i64 Oa,.slice qc Qa.length dc] 30 (0,0)) (by (with_reducible repeat (first|refine Ea ?_ _|refine Ga ?_|refine Da ?_ _));exact ua.out)):Ia ≠ Fa));clear ua;clear HB;have ua:=Pb;have HB:=Wb;have Ba:=nc;have Je:=Nc;have Vb:=qe;have Sa:=lf;have qb:=Hf;clear Pb Wb nc Nc qe lf Hf;clear hb Qb hg;have NS:=Sa.out;have pS:=qb.out;have zq:iB.cell? ⟨Fa,0,none⟩=some (.slice Ib Ra.length Gb):=(ga ua.out 0).trans rfl;have yq:iB.cell? ⟨Fa,1,none⟩=some (.int .i64 Ja):=(ga ua.out 1).trans rfl;have xq:iB.cell? ⟨Fa,2,none⟩=some (.int .i64 Ma):=(ga ua.out 2).trans rfl;have wq:iB.cell? ⟨Fa,3,none⟩=some (.int .i64 Oa):=(ga ua.out 3).trans rfl;have vq:iB.cell? ⟨Fa,4,none⟩=some (.slice qc Qa.length dc):=(ga ua.out 4).trans rfl;have gq:=aa ua.out 0;have fq:=aa ua.out 1;have cq:=aa ua.out 2;have bq:=aa ua.out 3;have aq:=aa ua.out 4;have Ss:iB.cell? ⟨Ia,0,none⟩=some (.slice Ze Xc.length Re):=(ga Ba.out 0).trans rfl;have Rs:iB.cell? ⟨Ia,1,none⟩=some (.int .i64 Lb):=(ga Ba.out 1).trans rfl;have Qs:iB.cell? ⟨Ia,2,none⟩=some (.int .i64 Sb):=(ga Ba.out 2).trans rfl;have Ns:iB.cell? ⟨Ia,3,none⟩=some (.int .i64 Ub):=(ga Ba.out 3).trans rfl;have Ms:iB.cell? ⟨Ia,4,none⟩=some (.slice Yo Uj.length Xo):=(ga Ba.out 4).trans rfl;have Wr:=aa Ba.out 0;have Vr:=aa Ba.out 1;have Ur:=aa Ba.out 2;have Tr:=aa Ba.out 3;have Sr:=aa Ba.out 4)|((with_reducible refine Bb (f:=20) rfl ?_);refine jd (some 9) rfl rfl Try.func20 (by kernel_rfl) rfl #[.slice Ib Ra.length Gb,.slice Ze Xc.length Re] rfl (by (try simp only [List.map_toArray,List.map_cons,List.map_nil]);first|done|rfl|(simp only [List.length_drop,List.length_take];rfl)) ?_;(with_reducible refine (Uc.calls k _ _ Ra _ _ Xc true _ ?side1 ?side2 ?side3 ?side4 A3.out).mono ?_);(case side1=>repeat (first|exact (Kd.Yb Ve.out HB.out)|(with_reducible refine Kd.yc ?_ _)|(with_reducible refine Kd.uc ?_ _)|(with_reducible refine Kd.Sc ?_)));(case side2=>exact gf.out);(case side3=>repeat (first|exact (Kd.Yb Qk.out HB.out)|(with_reducible refine Kd.yc ?_ _)|(with_reducible refine Kd.uc ?_ _)|(with_reducible refine Kd.Sc ?_)));(case side4=>exact jn.out);rintro e w' ⟨rfl,⟨nd,rfl⟩⟩;refine ⟨_,rfl,?_⟩))
     go_ret
     exact ⟨by first|rfl|(simp [La,Ka] <;> rfl)|(simp [*,La,Ka] <;> rfl),by repeat (first|(with_reducible first|exact HB.out|apply ia|apply ja|apply za|refine Aa ?_ Va.out|refine Aa ?_ Vb.out)|exact HB.out)⟩
   ·rw [if_neg c6] at H
    have rm:(Ma == Sb)=false:=beq_eq_false_iff_ne.mpr c6
    have jx:(Ma != Sb)=true:=bne_iff_ne.mpr c6
    obtain rfl:=Option.some.inj H
    go_enter Try.func17,Try.ntmps17
    go_wp2_with (first|((with_reducible refine Mb (N:=2) rfl ?_);refine Jb ?hg (N:=2) ?hd (cs:=#[.slice Ib Ra.length Gb,.int .i64 Ja,.int .i64 Ma,.int .i64 Oa,.slice qc Qa.length dc]) (t:=30) ?hr ?_;(case hd=>rfl);(case hg=>rfl);(case hr=>first|(go_simp;done)|(go_simp;rfl));intro Fa hg bY Qb hb;have Pb:=qa.mk (Pa (by repeat (first|(with_reducible first|exact HB.out|apply ia|apply ja|apply za)|exact HB.out)) hb);have Wb:=qa.mk (Qb);have nc:=qa.mk ((by rw [hg];exact (Na (by repeat (first|(with_reducible first|exact HB.out|apply ia|apply ja|apply za)|exact HB.out))):w.heap.size ≤ Fa));have Nc:=qa.mk ((by rw [hg];exact (Na (by repeat (first|(with_reducible first|exact HB.out|apply ia|apply ja|apply za)|exact HB.out))):w.heap.size ≤ Fa));clear HB;have HB:=Pb;have ua:=Wb;have Nd:=nc;have Va:=Nc;clear Pb Wb nc Nc;clear hb Qb hg)|((with_reducible refine Mb (N:=3) rfl ?_);refine Jb ?hg (N:=3) ?hd (cs:=#[.slice Ze Xc.length Re,.int .i64 Lb,.int .i64 Sb,.int .i64 Ub,.slice Yo Uj.length Xo]) (t:=30) ?hr ?_;(case hd=>rfl);(case hg=>rfl);(case hr=>first|(go_simp;done)|(go_simp;rfl));intro Ia hg gH Qb hb;have Pb:=qa.mk (Wa (g:=Fa) (o:=.cells #[.slice Ib Ra.length Gb,.int .i64 Ja,.int .i64 Ma,.int .i64 Oa,.slice qc Qa.length dc] 30 (0,0)) (by (with_reducible repeat (first|refine Ea ?_ _|refine Ga ?_|refine Da ?_ _));exact ua.out) hb);have Wb:=qa.mk (Pa (by repeat (first|(with_reducible first|exact HB.out|apply ia|apply ja|apply za|refine Aa ?_ Va.out)|exact HB.out)) hb);have nc:=qa.mk (Qb);have Nc:=qa.mk ((by rw [hg];exact (Na (by repeat (first|(with_reducible first|exact HB.out|apply ia|apply ja|apply za|refine Aa ?_ Va.out)|exact HB.out))):w.heap.size ≤ Ia));have qe:=qa.mk ((by rw [hg];exact (Na (by repeat (first|(with_reducible first|exact HB.out|apply ia|apply ja|apply za|refine Aa ?_ Va.out)|exact HB.out))):w.heap.size ≤ Ia));have lf:=qa.mk ((by rw [hg];exact Nat.ne_of_lt (Ac (g:=Fa) (o:=.cells #[.slice Ib Ra.length Gb,.int .i64 Ja,.int .i64 Ma,.int .i64 Oa,.slice qc Qa.length dc] 30 (0,0)) (by (with_reducible repeat (first|refine Ea ?_ _|refine Ga ?_|refine Da ?_ _));exact ua.out)):Fa ≠ Ia));have Hf:=qa.mk ((by rw [hg];exact Nat.ne_of_gt (Ac (g:=Fa) (o:=.cells #[.slice Ib Ra.length Gb,.int .i64 Ja,.int .i64 Ma,.int .i64 Oa,.slice qc Qa.length dc] 30 (0,0)) (by (with_reducible repeat (first|refine Ea ?_ _|refine Ga ?_|refine Da ?_ _));exact ua.out)):Ia ≠ Fa));clear ua;clear HB;have ua:=Pb;have HB:=Wb;have Ba:=nc;have Je:=Nc;have Vb:=qe;have Sa:=lf;have qb:=Hf;clear Pb Wb nc Nc qe lf Hf;clear hb Qb hg;have Vac:=Sa.out;have gac:=qb.out;have fN:gH.cell? ⟨Fa,0,none⟩=some (.slice Ib Ra.length Gb):=(ga ua.out 0).trans rfl;have eN:gH.cell? ⟨Fa,1,none⟩=some (.int .i64 Ja):=(ga ua.out 1).trans rfl;have dN:gH.cell? ⟨Fa,2,none⟩=some (.int .i64 Ma):=(ga ua.out 2).trans rfl;have cN:gH.cell? ⟨Fa,3,none⟩=some (.int .i64 Oa):=(ga ua.out 3).trans rfl;have bN:gH.cell? ⟨Fa,4,none⟩=some (.slice qc Qa.length dc):=(ga ua.out 4).trans rfl;have BL:=aa ua.out 0;have AL:=aa ua.out 1;have zL:=aa ua.out 2;have yL:=aa ua.out 3;have xL:=aa ua.out 4;have Uv:gH.cell? ⟨Ia,0,none⟩=some (.slice Ze Xc.length Re):=(ga Ba.out 0).trans rfl;have Tv:gH.cell? ⟨Ia,1,none⟩=some (.int .i64 Lb):=(ga Ba.out 1).trans rfl;have Sv:gH.cell? ⟨Ia,2,none⟩=some (.int .i64 Sb):=(ga Ba.out 2).trans rfl;have Rv:gH.cell? ⟨Ia,3,none⟩=some (.int .i64 Ub):=(ga Ba.out 3).trans rfl;have Qv:gH.cell? ⟨Ia,4,none⟩=some (.slice Yo Uj.length Xo):=(ga Ba.out 4).trans rfl;have Su:=aa Ba.out 0;have Ru:=aa Ba.out 1;have Qu:=aa Ba.out 2;have Pu:=aa Ba.out 3;have Ou:=aa Ba.out 4)|((with_reducible refine Bb (f:=20) rfl ?_);refine jd (some 9) rfl rfl Try.func20 (by kernel_rfl) rfl #[.slice Ib Ra.length Gb,.slice Ze Xc.length Re] rfl (by (try simp only [List.map_toArray,List.map_cons,List.map_nil]);first|done|rfl|(simp only [List.length_drop,List.length_take];rfl)) ?_;(with_reducible refine (Uc.calls k _ _ Ra _ _ Xc true _ ?side1 ?side2 ?side3 ?side4 A3.out).mono ?_);(case side1=>repeat (first|exact (Kd.Yb Ve.out HB.out)|(with_reducible refine Kd.yc ?_ _)|(with_reducible refine Kd.uc ?_ _)|(with_reducible refine Kd.Sc ?_)));(case side2=>exact gf.out);(case side3=>repeat (first|exact (Kd.Yb Qk.out HB.out)|(with_reducible refine Kd.yc ?_ _)|(with_reducible refine Kd.uc ?_ _)|(with_reducible refine Kd.Sc ?_)));(case side4=>exact jn.out);rintro e w' ⟨rfl,⟨nd,rfl⟩⟩;refine ⟨_,rfl,?_⟩))
    go_ret
    exact ⟨by first|rfl|(simp [La,Ka] <;> rfl)|(simp [*,La,Ka] <;> rfl),by repeat (first|(with_reducible first|exact HB.out|apply ia|apply ja|apply za|refine Aa ?_ Va.out|refine Aa ?_ Vb.out)|exact HB.out)⟩
  ·rw [if_neg c5] at H
   have Hl:(Ja == Lb)=false:=beq_eq_false_iff_ne.mpr c5
   have Yt:(Ja != Lb)=true:=bne_iff_ne.mpr c5
   obtain rfl:=Option.some.inj H
   go_enter Try.func17,Try.ntmps17
   go_wp2_with (first|((with_reducible refine Mb (N:=2) rfl ?_);refine Jb ?hg (N:=2) ?hd (cs:=#[.slice Ib Ra.length Gb,.int .i64 Ja,.int .i64 Ma,.int .i64 Oa,.slice qc Qa.length dc]) (t:=30) ?hr ?_;(case hd=>rfl);(case hg=>rfl);(case hr=>first|(go_simp;done)|(go_simp;rfl));intro Fa hg w32 Qb hb;have Pb:=qa.mk (Pa (by repeat (first|(with_reducible first|exact HB.out|apply ia|apply ja|apply za)|exact HB.out)) hb);have Wb:=qa.mk (Qb);have nc:=qa.mk ((by rw [hg];exact (Na (by repeat (first|(with_reducible first|exact HB.out|apply ia|apply ja|apply za)|exact HB.out))):w.heap.size ≤ Fa));have Nc:=qa.mk ((by rw [hg];exact (Na (by repeat (first|(with_reducible first|exact HB.out|apply ia|apply ja|apply za)|exact HB.out))):w.heap.size ≤ Fa));clear HB;have HB:=Pb;have ua:=Wb;have Nd:=nc;have Va:=Nc;clear Pb Wb nc Nc;clear hb Qb hg)|((with_reducible refine Mb (N:=3) rfl ?_);refine Jb ?hg (N:=3) ?hd (cs:=#[.slice Ze Xc.length Re,.int .i64 Lb,.int .i64 Sb,.int .i64 Ub,.slice Yo Uj.length Xo]) (t:=30) ?hr ?_;(case hd=>rfl);(case hg=>rfl);(case hr=>first|(go_simp;done)|(go_simp;rfl));intro Ia hg sG Qb hb;have Pb:=qa.mk (Wa (g:=Fa) (o:=.cells #[.slice Ib Ra.length Gb,.int .i64 Ja,.int .i64 Ma,.int .i64 Oa,.slice qc Qa.length dc] 30 (0,0)) (by (with_reducible repeat (first|refine Ea ?_ _|refine Ga ?_|refine Da ?_ _));exact ua.out) hb);have Wb:=qa.mk (Pa (by repeat (first|(with_reducible first|exact HB.out|apply ia|apply ja|apply za|refine Aa ?_ Va.out)|exact HB.out)) hb);have nc:=qa.mk (Qb);have Nc:=qa.mk ((by rw [hg];exact (Na (by repeat (first|(with_reducible first|exact HB.out|apply ia|apply ja|apply za|refine Aa ?_ Va.out)|exact HB.out))):w.heap.size ≤ Ia));have qe:=qa.mk ((by rw [hg];exact (Na (by repeat (first|(with_reducible first|exact HB.out|apply ia|apply ja|apply za|refine Aa ?_ Va.out)|exact HB.out))):w.heap.size ≤ Ia));have lf:=qa.mk ((by rw [hg];exact Nat.ne_of_lt (Ac (g:=Fa) (o:=.cells #[.slice Ib Ra.length Gb,.int .i64 Ja,.int .i64 Ma,.int .i64 Oa,.slice qc Qa.length dc] 30 (0,0)) (by (with_reducible repeat (first|refine Ea ?_ _|refine Ga ?_|refine Da ?_ _));exact ua.out)):Fa ≠ Ia));have Hf:=qa.mk ((by rw [hg];exact Nat.ne_of_gt (Ac (g:=Fa) (o:=.cells #[.slice Ib Ra.length Gb,.int .i64 Ja,.int .i64 Ma,.int .i64 Oa,.slice qc Qa.length dc] 30 (0,0)) (by (with_reducible repeat (first|refine Ea ?_ _|refine Ga ?_|refine Da ?_ _));exact ua.out)):Ia ≠ Fa));clear ua;clear HB;have ua:=Pb;have HB:=Wb;have Ba:=nc;have Je:=Nc;have Vb:=qe;have Sa:=lf;have qb:=Hf;clear Pb Wb nc Nc qe lf Hf;clear hb Qb hg;have GS:=Sa.out;have lS:=qb.out;have Ls:sG.cell? ⟨Fa,0,none⟩=some (.slice Ib Ra.length Gb):=(ga ua.out 0).trans rfl;have Ks:sG.cell? ⟨Fa,1,none⟩=some (.int .i64 Ja):=(ga ua.out 1).trans rfl;have yF:sG.cell? ⟨Fa,2,none⟩=some (.int .i64 Ma):=(ga ua.out 2).trans rfl;have xF:sG.cell? ⟨Fa,3,none⟩=some (.int .i64 Oa):=(ga ua.out 3).trans rfl;have wF:sG.cell? ⟨Fa,4,none⟩=some (.slice qc Qa.length dc):=(ga ua.out 4).trans rfl;have Qr:=aa ua.out 0;have Pr:=aa ua.out 1;have eE:=aa ua.out 2;have cE:=aa ua.out 3;have bE:=aa ua.out 4;have uq:sG.cell? ⟨Ia,0,none⟩=some (.slice Ze Xc.length Re):=(ga Ba.out 0).trans rfl;have tq:sG.cell? ⟨Ia,1,none⟩=some (.int .i64 Lb):=(ga Ba.out 1).trans rfl;have vF:sG.cell? ⟨Ia,2,none⟩=some (.int .i64 Sb):=(ga Ba.out 2).trans rfl;have uF:sG.cell? ⟨Ia,3,none⟩=some (.int .i64 Ub):=(ga Ba.out 3).trans rfl;have tF:sG.cell? ⟨Ia,4,none⟩=some (.slice Yo Uj.length Xo):=(ga Ba.out 4).trans rfl;have Zp:=aa Ba.out 0;have Yp:=aa Ba.out 1;have aE:=aa Ba.out 2;have ZD:=aa Ba.out 3;have YD:=aa Ba.out 4)|((with_reducible refine Bb (f:=20) rfl ?_);refine jd (some 9) rfl rfl Try.func20 (by kernel_rfl) rfl #[.slice Ib Ra.length Gb,.slice Ze Xc.length Re] rfl (by (try simp only [List.map_toArray,List.map_cons,List.map_nil]);first|done|rfl|(simp only [List.length_drop,List.length_take];rfl)) ?_;(with_reducible refine (Uc.calls k _ _ Ra _ _ Xc true _ ?side1 ?side2 ?side3 ?side4 A3.out).mono ?_);(case side1=>repeat (first|exact (Kd.Yb Ve.out HB.out)|(with_reducible refine Kd.yc ?_ _)|(with_reducible refine Kd.uc ?_ _)|(with_reducible refine Kd.Sc ?_)));(case side2=>exact gf.out);(case side3=>repeat (first|exact (Kd.Yb Qk.out HB.out)|(with_reducible refine Kd.yc ?_ _)|(with_reducible refine Kd.uc ?_ _)|(with_reducible refine Kd.Sc ?_)));(case side4=>exact jn.out);rintro e w' ⟨rfl,⟨nd,rfl⟩⟩;refine ⟨_,rfl,?_⟩))
   go_ret
   exact ⟨by first|rfl|(simp [La,Ka] <;> rfl)|(simp [*,La,Ka] <;> rfl),by repeat (first|(with_reducible first|exact HB.out|apply ia|apply ja|apply za|refine Aa ?_ Va.out|refine Aa ?_ Vb.out)|exact HB.out)⟩
 ·replace c4:=Bool.eq_false_iff.mpr c4
  subst c4
  have H1:(some false)=some r:=by rw [if_neg (show ¬ (false=true) by decide)] at H;exact H
  clear H
  have H:=H1
  clear H1
  obtain rfl:=Option.some.inj H
  go_enter Try.func17,Try.ntmps17
  go_wp2_with (first|((with_reducible refine Mb (N:=2) rfl ?_);refine Jb ?hg (N:=2) ?hd (cs:=#[.slice Ib Ra.length Gb,.int .i64 Ja,.int .i64 Ma,.int .i64 Oa,.slice qc Qa.length dc]) (t:=30) ?hr ?_;(case hd=>rfl);(case hg=>rfl);(case hr=>first|(go_simp;done)|(go_simp;rfl));intro Fa hg w37 Qb hb;have Pb:=qa.mk (Pa (by repeat (first|(with_reducible first|exact HB.out|apply ia|apply ja|apply za)|exact HB.out)) hb);have Wb:=qa.mk (Qb);have nc:=qa.mk ((by rw [hg];exact (Na (by repeat (first|(with_reducible first|exact HB.out|apply ia|apply ja|apply za)|exact HB.out))):w.heap.size ≤ Fa));have Nc:=qa.mk ((by rw [hg];exact (Na (by repeat (first|(with_reducible first|exact HB.out|apply ia|apply ja|apply za)|exact HB.out))):w.heap.size ≤ Fa));clear HB;have HB:=Pb;have ua:=Wb;have Nd:=nc;have Va:=Nc;clear Pb Wb nc Nc;clear hb Qb hg)|((with_reducible refine Mb (N:=3) rfl ?_);refine Jb ?hg (N:=3) ?hd (cs:=#[.slice Ze Xc.length Re,.int .i64 Lb,.int .i64 Sb,.int .i64 Ub,.slice Yo Uj.length Xo]) (t:=30) ?hr ?_;(case hd=>rfl);(case hg=>rfl);(case hr=>first|(go_simp;done)|(go_simp;rfl));intro Ia hg xu Qb hb;have Pb:=qa.mk (Wa (g:=Fa) (o:=.cells #[.slice Ib Ra.length Gb,.int .i64 Ja,.int .i64 Ma,.int .i64 Oa,.slice qc Qa.length dc] 30 (0,0)) (by (with_reducible repeat (first|refine Ea ?_ _|refine Ga ?_|refine Da ?_ _));exact ua.out) hb);have Wb:=qa.mk (Pa (by repeat (first|(with_reducible first|exact HB.out|apply ia|apply ja|apply za|refine Aa ?_ Va.out)|exact HB.out)) hb);have nc:=qa.mk (Qb);have Nc:=qa.mk ((by rw [hg];exact (Na (by repeat (first|(with_reducible first|exact HB.out|apply ia|apply ja|apply za|refine Aa ?_ Va.out)|exact HB.out))):w.heap.size ≤ Ia));have qe:=qa.mk ((by rw [hg];exact (Na (by repeat (first|(with_reducible first|exact HB.out|apply ia|apply ja|apply za|refine Aa ?_ Va.out)|exact HB.out))):w.heap.size ≤ Ia));have lf:=qa.mk ((by rw [hg];exact Nat.ne_of_lt (Ac (g:=Fa) (o:=.cells #[.slice Ib Ra.length Gb,.int .i64 Ja,.int .i64 Ma,.int .i64 Oa,.slice qc Qa.length dc] 30 (0,0)) (by (with_reducible repeat (first|refine Ea ?_ _|refine Ga ?_|refine Da ?_ _));exact ua.out)):Fa ≠ Ia));have Hf:=qa.mk ((by rw [hg];exact Nat.ne_of_gt (Ac (g:=Fa) (o:=.cells #[.slice Ib Ra.length Gb,.int .i64 Ja,.int .i64 Ma,.int .i64 Oa,.slice qc Qa.length dc] 30 (0,0)) (by (with_reducible repeat (first|refine Ea ?_ _|refine Ga ?_|refine Da ?_ _));exact ua.out)):Ia ≠ Fa));clear ua;clear HB;have ua:=Pb;have HB:=Wb;have Ba:=nc;have Je:=Nc;have Vb:=qe;have Sa:=lf;have qb:=Hf;clear Pb Wb nc Nc qe lf Hf;clear hb Qb hg;have bO:=Sa.out;have WN:=qb.out;have Nv:xu.cell? ⟨Fa,0,none⟩=some (.slice Ib Ra.length Gb):=(ga ua.out 0).trans rfl;have Mv:xu.cell? ⟨Fa,1,none⟩=some (.int .i64 Ja):=(ga ua.out 1).trans rfl;have Lv:xu.cell? ⟨Fa,2,none⟩=some (.int .i64 Ma):=(ga ua.out 2).trans rfl;have Kv:xu.cell? ⟨Fa,3,none⟩=some (.int .i64 Oa):=(ga ua.out 3).trans rfl;have Jv:xu.cell? ⟨Fa,4,none⟩=some (.slice qc Qa.length dc):=(ga ua.out 4).trans rfl;have Lu:=aa ua.out 0;have Ku:=aa ua.out 1;have Ju:=aa ua.out 2;have Iu:=aa ua.out 3;have Hu:=aa ua.out 4;have Iv:xu.cell? ⟨Ia,0,none⟩=some (.slice Ze Xc.length Re):=(ga Ba.out 0).trans rfl;have Hv:xu.cell? ⟨Ia,1,none⟩=some (.int .i64 Lb):=(ga Ba.out 1).trans rfl;have RM:xu.cell? ⟨Ia,2,none⟩=some (.int .i64 Sb):=(ga Ba.out 2).trans rfl;have QM:xu.cell? ⟨Ia,3,none⟩=some (.int .i64 Ub):=(ga Ba.out 3).trans rfl;have PM:xu.cell? ⟨Ia,4,none⟩=some (.slice Yo Uj.length Xo):=(ga Ba.out 4).trans rfl;have Gu:=aa Ba.out 0;have Fu:=aa Ba.out 1;have nL:=aa Ba.out 2;have mL:=aa Ba.out 3;have kL:=aa Ba.out 4)|((with_reducible refine Bb (f:=20) rfl ?_);refine jd (some 9) rfl rfl Try.func20 (by kernel_rfl) rfl #[.slice Ib Ra.length Gb,.slice Ze Xc.length Re] rfl (by (try simp only [List.map_toArray,List.map_cons,List.map_nil]);first|done|rfl|(simp only [List.length_drop,List.length_take];rfl)) ?_;(with_reducible refine (Uc.calls k _ _ Ra _ _ Xc false _ ?side1 ?side2 ?side3 ?side4 A3.out).mono ?_);(case side1=>repeat (first|exact (Kd.Yb Ve.out HB.out)|(with_reducible refine Kd.yc ?_ _)|(with_reducible refine Kd.uc ?_ _)|(with_reducible refine Kd.Sc ?_)));(case side2=>exact gf.out);(case side3=>repeat (first|exact (Kd.Yb Qk.out HB.out)|(with_reducible refine Kd.yc ?_ _)|(with_reducible refine Kd.uc ?_ _)|(with_reducible refine Kd.Sc ?_)));(case side4=>exact jn.out);rintro e w' ⟨rfl,⟨nd,rfl⟩⟩;refine ⟨_,rfl,?_⟩))
  go_ret
  exact ⟨by first|rfl|(simp [La,Ka] <;> rfl)|(simp [*,La,Ka] <;> rfl),by repeat (first|(with_reducible first|exact HB.out|apply ia|apply ja|apply za|refine Aa ?_ Va.out|refine Aa ?_ Vb.out)|exact HB.out)⟩
end Go.Proofs.Ytmifdccaajngcaa.P
end
section
namespace Go.Proofs.Ytmifdccaajngcaa.P
open Go.RowKit Go.Proofs.Ca.xb Go.Proofs.Ca.Xb Go.Proofs.Ca.ic
attribute [local go_sem] Vd Td we ue Dd Cd Ud Sd
set_option linter.unusedVariables false
set_option linter.unusedSimpArgs false
def sg.f (a0:Int) (a1:Int) (a2:Int):Option (Bool):=if a0 ≥ a1 then (some (decide (a0 ≤ a2))) else (some false)
set_option maxHeartbeats 8000000 in
set_option maxRecDepth 100000 in
theorem sg.calls (a0:Int) (a1:Int) (a2:Int) (r:Bool) (w:World) (h:sg.f a0 a1 a2=some r) :
  Calls Try.prog 58 #[.int .i64 a0,.int .i64 a1,.int .i64 a2] w fun e w'=>e = .returned (.bool r)∧Cc w w':=by
 have H:(if a0 ≥ a1 then (some (decide (a0 ≤ a2))) else (some false))=some r:=h
 clear h
 by_cases c4:a0 ≥ a1
 ·rw [if_pos c4] at H
  have Mh:decide (a1 ≤ a0)=true:=decide_eq_true c4
  clear c4
  obtain rfl:=Option.some.inj H
  go_enter Try.func58,Try.ntmps58
  go_wp2
  go_ret
  exact ⟨by first|rfl|(simp;done)|(simp [*];done),by repeat (first|exact Cc.refl _|apply Cc.step)⟩
 ·rw [if_neg c4] at H
  have Mh:decide (a1 ≤ a0)=false:=decide_eq_false c4
  clear c4
  obtain rfl:=Option.some.inj H
  go_enter Try.func58,Try.ntmps58
  go_wp2
  go_ret
  exact ⟨by first|rfl|(simp;done)|(simp [*];done),by repeat (first|exact Cc.refl _|apply Cc.step)⟩
end Go.Proofs.Ytmifdccaajngcaa.P
end
section
namespace Go.Proofs.Ytmifdccaajngcaa.P
open Go.RowKit Go.Proofs.Ca.xb Go.Proofs.Ca.Xb Go.Proofs.Ca.ic
set_option linter.unusedVariables false
set_option linter.unusedSimpArgs false
theorem AO {W w1:World} (hb:Below W.heap.size W w1):(∀ b o,b < W.heap.size→w1.cell? ⟨b,o,none⟩=W.cell? ⟨b,o,none⟩)∧(∀ b o,b < W.heap.size→w1.frozen? ⟨b,o,none⟩=W.frozen? ⟨b,o,none⟩) :=
 ⟨fun b o h=>hb.cell (p:=⟨b,o,none⟩) h,fun b o h=>hb.frozen (p:=⟨b,o,none⟩) h⟩
theorem br {α:Type} {l:List α} {p:α→Bool} {k:Nat} {d:α} (hk:k < l.length) (h:(l.take k).any p=false) (hx:p (l.getD k d)=false):(l.take (k + 1)).any p=false:=by
 rw [List.take_succ_eq_append_getElem hk,List.any_append,h]
 simpa [List.getD_eq_getElem?_getD,List.getElem?_eq_getElem hk] using hx
theorem jG {α:Type} {l:List α} {p:α→Bool} {k:Nat} {d:α} (hk:k < l.length) (hx:p (l.getD k d)=true):l.any p=true:=by
 rw [List.any_eq_true]
 exact ⟨l[k],List.getElem_mem hk,by simpa [List.getD_eq_getElem?_getD,List.getElem?_eq_getElem hk] using hx⟩
end Go.Proofs.Ytmifdccaajngcaa.P
end
section
namespace Go.Proofs.Ytmifdccaajngcaa.P
open Go.RowKit Go.Proofs.Ca.xb Go.Proofs.Ca.Xb Go.Proofs.Ca.ic
set_option linter.unusedVariables false
set_option linter.unusedSimpArgs false
set_option maxHeartbeats 4000000 in
set_option maxRecDepth 100000 in
theorem Mx (g:Nat) (lb:Array Value) (p:Jh→Bool) (eg:∀ args w,(callFunc g args).run Try.prog w = .ok (.enter g args) w) (A0:Option Addr) (c0:Nat) (l0:List Jh) (w:World) (hr0:Kd.C Ro w A0 l0.length l0) (hc0:l0.length ≤ c0)
  (hp:∀ (W:World) (x:Jh),Below w.heap.size w W→Calls Try.prog g (#[(.agg #[.int .i64 x.f0,.int .i64 x.f1,.int .i64 x.f2,.int .i64 x.f3,.int .i64 x.f4,.int .i64 x.f5,.string x.f6])] ++ lb) W fun e w'=>e = .returned (.bool (p x))∧Below W.heap.size W w') :
  Calls Try.prog 124 #[.slice A0 l0.length c0,.func (.func g) #[] lb] w fun e w'=>(∃ i:Int,e = .returned (.int .i64 i)∧decide (0 ≤ i)=l0.any p)∧Below w.heap.size w w':=by
 have dD:=hr0.2.1
 have Nq:=qa.mk hr0
 have fA:=qa.mk hc0
 have HP:=qa.mk hp
 clear hr0 hc0 hp
 go_enter Try.func124,Try.ntmps124
 go_wp2
 go_loopg [5,8] l0.length (fun gg _ s8 wr=>∃ kk:Nat,kk ≤ l0.length∧l0.length - kk ≤ gg∧s8 = .int .i64 kk∧qa (Below w.heap.size w wr)∧qa ((l0.take kk).any p=false))
 case atStart=>exact ⟨0,Nat.zero_le _,by omega,rfl,⟨Below.refl _ w⟩,⟨by simp⟩⟩
 case round =>
  (try clear BW)
  (try clear HA)
  obtain ⟨kk,hkk,hg,rfl,BW,HA⟩:=hrel
  by_cases hlt:kk < l0.length
  ·have p1:0 ≤ (kk:Int):=by omega
   have q1:(kk:Int) < (l0.length:Int):=by omega
   obtain ⟨ad,e1,hx0,hx1,Gk,Fk,qm,vp,om⟩:=Jo Nq.out (kk:Int) p1 q1
   cases e1
   simp only [Int.toNat_natCast] at hx0 hx1 Gk Fk qm vp om
   replace hx0:=(BW.out.cell (World.block_lt_of_cell? w _ hx0)).trans hx0
   replace hx1:=(BW.out.cell (World.block_lt_of_cell? w _ hx1)).trans hx1
   replace Gk:=(BW.out.cell (World.block_lt_of_cell? w _ Gk)).trans Gk
   replace Fk:=(BW.out.cell (World.block_lt_of_cell? w _ Fk)).trans Fk
   replace qm:=(BW.out.cell (World.block_lt_of_cell? w _ qm)).trans qm
   replace vp:=(BW.out.cell (World.block_lt_of_cell? w _ vp)).trans vp
   replace om:=(BW.out.cell (World.block_lt_of_cell? w _ om)).trans om
   have hcall:=HP.out wr (zb l0 (kk:Int)) BW.out
   cases hq:p (zb l0 (kk:Int)) with
   | true =>
    rw [hq] at hcall
    go_wp2_with (go_at_fn g;refine hcall.mono ?_;rintro e w1 ⟨rfl,hb1⟩)
    go_ret
    exact ⟨⟨_,rfl,by rw [jG (d:=eA) hlt hq];simp⟩,BW.out.trans (hb1.mono BW.out.size)⟩
   | false =>
    rw [hq] at hcall
    go_wp2_with (go_at_fn g;refine hcall.mono ?_;rintro e w1 ⟨rfl,hb1⟩)
    go_roundg (l0.length - (kk + 1))
    case measure=>omega
    case rel=>exact ⟨kk + 1,by omega,by omega,by go_num,⟨BW.out.trans (hb1.mono BW.out.size)⟩,⟨br (d:=eA) hlt HA.out hq⟩⟩
  ·have x_:¬ (kk:Int) < (l0.length:Int):=by omega
   have he:kk=l0.length:=by omega
   subst he
   go_wp2
   go_ret
   exact ⟨⟨_,rfl,by have h_:=HA.out;rw [List.take_length] at h_;rw [h_];simp⟩,BW.out⟩
set_option maxHeartbeats 4000000 in
theorem tr (g:Nat) (lb:Array Value) (p:Jh→Bool) (eg:∀ args w,(callFunc g args).run Try.prog w = .ok (.enter g args) w) (A0:Option Addr) (c0:Nat) (l0:List Jh) (w:World) (hr0:Kd.C Ro w A0 l0.length l0) (hc0:l0.length ≤ c0)
  (hp:∀ (W:World) (x:Jh),Below w.heap.size w W→Calls Try.prog g (#[(.agg #[.int .i64 x.f0,.int .i64 x.f1,.int .i64 x.f2,.int .i64 x.f3,.int .i64 x.f4,.int .i64 x.f5,.string x.f6])] ++ lb) W fun e w'=>e = .returned (.bool (p x))∧Below W.heap.size W w') :
  Calls Try.prog 116 #[.slice A0 l0.length c0,.func (.func g) #[] lb] w fun e w'=>e = .returned (.bool (l0.any p))∧Below w.heap.size w w':=by
 have HI:=qa.mk (Mx g lb p eg A0 c0 l0 w hr0 hc0 hp)
 clear hr0 hc0 hp
 go_enter Try.func116,Try.ntmps116
 go_wp2_with (go_at_call 124;refine HI.out.mono ?_;rintro e w1 ⟨⟨i,rfl,hi⟩,hb1⟩;have HD:=qa.mk hi;clear hi)
 go_ret
 exact ⟨by rw [← HD.out];first|rfl|simp,hb1⟩
end Go.Proofs.Ytmifdccaajngcaa.P
end
section
namespace Go.Proofs.Ytmifdccaajngcaa.P
open Go.RowKit Go.Proofs.Ca.xb Go.Proofs.Ca.Xb Go.Proofs.Ca.ic
attribute [local go_sem] Vd Td we ue Dd Cd Ud Sd
set_option linter.unusedVariables false
set_option linter.unusedSimpArgs false
def Eb.l0:Nat→List ByteArray→ByteArray→Int→Int→Option (Int)
 | 0,_,_,_,_=>none
 | k + 1,x0,x1,x7,x8=>if x8 < x7 then (if 0 ≤ x8 then (if x8 < (x0.length:Int) then (if x1.toList=(Vi ByteArray.empty x0 x8).toList then (some x8) else (Eb.l0 k x0 x1 x7 (wrap64 (x8 + 1)))) else (none)) else (none)) else (some (-1))
def Eb.f (k:Nat) (l0:List ByteArray) (a1:ByteArray):Option (Int):=Eb.l0 k l0 a1 (l0.length:Int) 0
theorem Eb.je:∀ k,(∀ y0 y1 y2 y3,mc (Eb.l0 k y0 y1 y2 y3) (Eb.l0 (k + 1) y0 y1 y2 y3))
 | 0=>fun _ _ _ _ r h=>by simp [Eb.l0] at h
 | k + 1=>by
  have Lf:=Eb.je k
  ·intro y0 y1 y2 y3
   unfold Eb.l0
   repeat' first
   | (with_reducible exact Lf _ _ _ _)
   | (with_reducible exact mc.refl _)
   | (with_reducible exact mc.none _)
   | (with_reducible refine mc.ite ?_ ?_)
   | (with_reducible refine mc.bind ?_ (fun _=>?_))
   | exact Lf _ _ _ _
   | exact mc.none _
   | refine mc.ite ?_ ?_
   | refine mc.bind ?_ (fun _=>?_)
theorem Eb.mono:∀ a0 a1 k,mc (Eb.f k a0 a1) (Eb.f (k + 1) a0 a1):=by
 intro a0 a1 k
 have Lf:=Eb.je k
 unfold Eb.f
 repeat' first
   | (with_reducible exact Lf _ _ _ _)
   | (with_reducible exact mc.refl _)
   | (with_reducible exact mc.none _)
   | (with_reducible refine mc.ite ?_ ?_)
   | (with_reducible refine mc.bind ?_ (fun _=>?_))
   | exact Lf _ _ _ _
   | exact mc.none _
   | refine mc.ite ?_ ?_
   | refine mc.bind ?_ (fun _=>?_)
set_option maxHeartbeats 8000000 in
set_option maxRecDepth 100000 in
theorem Eb.calls (k:Nat) (A0:Option Addr) (c0:Nat) (l0:List ByteArray) (a1:ByteArray) (r:Int) (w:World) (hr0:Kd.C Kd.string w A0 l0.length l0) (hc0:l0.length ≤ c0) (h:Eb.f k l0 a1=some r) :
  Calls Try.prog 141 #[.slice A0 l0.length c0,.string a1] w fun e w'=>e = .returned (.int .i64 r)∧Cc w w':=by
 have Nq:=qa.mk hr0
 have fA:=qa.mk hc0
 clear hr0 hc0
 have H:(Eb.l0 k l0 a1 (l0.length:Int) 0)=some r:=h
 clear h
 have H':=qa.mk H
 clear H
 go_enter Try.func141,Try.ntmps141
 go_wp2
 go_loopg [8] k (fun kq v8 w'=>∃ (mm:Int),v8 = .int .i64 mm∧qa (Eb.l0 kq l0 a1 (l0.length:Int) mm=some r)∧qa (kq ≤ k)∧Cc w w')
 case atStart=>exact ⟨(0),(by first|rfl|(simp;done)|(simp [*];done)),H',⟨Nat.le_refl _⟩,by repeat (first|exact Cc.refl _|apply Cc.step)⟩
 case round =>
  clear H'
  try clear c1
  try clear p2
  (try clear HA)
  (try clear We)
  obtain ⟨mm,rfl,HA,We,⟨m1,rfl⟩⟩:=hrel
  cases gk with
  | zero=>exact absurd HA.out (by simp [Eb.l0])
  | succ k1 =>
   have H:=HA.out
   clear HA
   simp only [Eb.l0] at H
   by_cases c3:mm < (l0.length:Int)
   ·rw [if_pos c3] at H
    have Uh:decide (mm < (l0.length:Int))=true:=decide_eq_true c3
    clear c3
    by_cases c4:0 ≤ mm
    ·rw [if_pos c4] at H
     have Mh:decide (0 ≤ mm)=true:=decide_eq_true c4
     clear c4
     by_cases c5:mm < (l0.length:Int)
     ·rw [if_pos c5] at H
      have Hl:decide (mm < (l0.length:Int))=true:=decide_eq_true c5
      clear c5
      by_cases c6:a1.toList=(Vi ByteArray.empty l0 mm).toList
      ·rw [if_pos c6] at H
       have rm:(a1.toList == (Vi ByteArray.empty l0 mm).toList)=true:=beq_iff_eq.mpr c6
       have jx:(a1.toList != (Vi ByteArray.empty l0 mm).toList)=false:=bne_eq_false_iff_eq.mpr c6
       clear c6
       obtain rfl:=Option.some.inj H
       have Yf:0 ≤ (mm:Int):=of_decide_eq_true (by first|(with_reducible assumption)|assumption)
       have Xf:mm < (l0.length:Int):=of_decide_eq_true (by first|(with_reducible assumption)|assumption)
       obtain ⟨Ie,Xj,Zd⟩:=Kd.Kq Nq.out mm Yf Xf
       cases Xj
       replace Yf:=eq_true Yf
       replace Xf:=eq_true Xf
       go_wp2
       go_ret
       exact ⟨by first|rfl|(simp;done)|(simp [*];done),by repeat (first|exact Cc.refl _|apply Cc.step)⟩
      ·rw [if_neg c6] at H
       have rm:(a1.toList == (Vi ByteArray.empty l0 mm).toList)=false:=beq_eq_false_iff_ne.mpr c6
       have jx:(a1.toList != (Vi ByteArray.empty l0 mm).toList)=true:=bne_iff_ne.mpr c6
       have H':=qa.mk H
       clear H
       have Yf:0 ≤ (mm:Int):=of_decide_eq_true (by first|(with_reducible assumption)|assumption)
       have Xf:mm < (l0.length:Int):=of_decide_eq_true (by first|(with_reducible assumption)|assumption)
       obtain ⟨Ie,Xj,Zd⟩:=Kd.Kq Nq.out mm Yf Xf
       cases Xj
       replace Yf:=eq_true Yf
       replace Xf:=eq_true Xf
       go_wp2
       go_roundg k1
       case measure=>have:=We.out;omega
       case rel=>exact ⟨(wrap64 (mm + 1)),(by first|rfl|(simp;done)|(simp [*];done)),H',⟨by have:=We.out;omega⟩,by repeat (first|exact Cc.refl _|apply Cc.step)⟩
     ·rw [if_neg c5] at H
      exact absurd H (by simp)
    ·rw [if_neg c4] at H
     exact absurd H (by simp)
   ·rw [if_neg c3] at H
    have Uh:decide (mm < (l0.length:Int))=false:=decide_eq_false c3
    clear c3
    obtain rfl:=Option.some.inj H
    go_wp2
    go_ret
    exact ⟨by first|rfl|(simp;done)|(simp [*];done),by repeat (first|exact Cc.refl _|apply Cc.step)⟩
end Go.Proofs.Ytmifdccaajngcaa.P
end
section
namespace Go.Proofs.Ytmifdccaajngcaa.P
open Go.RowKit Go.Proofs.Ca.xb Go.Proofs.Ca.Xb Go.Proofs.Ca.ic
attribute [local go_sem] Vd Td we ue Dd Cd Ud Sd
set_option linter.unusedVariables false
set_option linter.unusedSimpArgs false
def Jc.f (k:Nat) (l0:List ByteArray) (a1:ByteArray):Option (Bool):=(Eb.f k l0 a1).bind fun t101=>(some (decide (t101 ≥ 0)))
theorem Jc.mono:∀ a0 a1 k,mc (Jc.f k a0 a1) (Jc.f (k + 1) a0 a1):=by
 intro a0 a1 k
 unfold Jc.f
 repeat' first
   | (with_reducible exact Eb.mono _ _ _)
   | (with_reducible exact mc.refl _)
   | (with_reducible exact mc.none _)
   | (with_reducible refine mc.ite ?_ ?_)
   | (with_reducible refine mc.bind ?_ (fun _=>?_))
   | exact Eb.mono _ _ _
   | exact mc.none _
   | refine mc.ite ?_ ?_
   | refine mc.bind ?_ (fun _=>?_)
set_option maxHeartbeats 8000000 in
set_option maxRecDepth 100000 in
theorem Jc.calls (k:Nat) (A0:Option Addr) (c0:Nat) (l0:List ByteArray) (a1:ByteArray) (r:Bool) (w:World) (hr0:Kd.C Kd.string w A0 l0.length l0) (hc0:l0.length ≤ c0) (h:Jc.f k l0 a1=some r) :
  Calls Try.prog 140 #[.slice A0 l0.length c0,.string a1] w fun e w'=>e = .returned (.bool r)∧Cc w w':=by
 have Nq:=qa.mk hr0
 have fA:=qa.mk hc0
 clear hr0 hc0
 have H:((Eb.f k l0 a1).bind fun t101=>(some (decide (t101 ≥ 0))))=some r:=h
 clear h
 replace H:=Option.bind_eq_some_iff.mp H
 obtain ⟨t101,Ht,H⟩:=H
 replace H:(some (decide (t101 ≥ 0)))=some r:=H
 have A3:=qa.mk Ht
 clear Ht
 obtain rfl:=Option.some.inj H
 go_enter Try.func140,Try.ntmps140
 go_wp2_with (first|((with_reducible refine Bb (f:=141) rfl ?_);refine jd (some 7) rfl rfl Try.func141 (by kernel_rfl) rfl #[.slice A0 l0.length c0,.string a1] rfl (by (try simp only [List.map_toArray,List.map_cons,List.map_nil]);first|done|rfl|(simp only [List.length_drop,List.length_take];rfl)) ?_;(with_reducible refine (Eb.calls k _ _ l0 a1 t101 _ ?side1 ?side2 A3.out).mono ?_);(case side1=>repeat (first|exact Nq.out|(with_reducible refine Kd.yc ?_ _)|(with_reducible refine Kd.uc ?_ _)|(with_reducible refine Kd.Sc ?_)));(case side2=>exact fA.out);rintro e w' ⟨rfl,⟨nd,rfl⟩⟩;refine ⟨_,rfl,?_⟩))
 go_ret
 exact ⟨by first|rfl|(simp;done)|(simp [*];done),by repeat (first|exact Cc.refl _|apply Cc.step)⟩
end Go.Proofs.Ytmifdccaajngcaa.P
end
section
namespace Go.Proofs.Ytmifdccaajngcaa.P
open Go.RowKit Go.Proofs.Ca.xb Go.Proofs.Ca.Xb Go.Proofs.Ca.ic
attribute [local go_sem] Vd Td we ue Dd Cd Ud Sd
set_option linter.unusedVariables false
set_option linter.unusedSimpArgs false
def Ug.f (k:Nat) (a0:ByteArray):Option (Bool):=(Jc.f k (([(⟨#[61,61]⟩:ByteArray),(⟨#[60]⟩:ByteArray),(⟨#[38]⟩:ByteArray),(⟨#[43]⟩:ByteArray),(⟨#[45]⟩:ByteArray),(⟨#[42]⟩:ByteArray)]:List ByteArray)) a0).bind fun t104=>(some t104)
theorem Ug.mono:∀ a0 k,mc (Ug.f k a0) (Ug.f (k + 1) a0):=by
 intro a0 k
 unfold Ug.f
 repeat' first
   | (with_reducible exact Jc.mono _ _ _)
   | (with_reducible exact mc.refl _)
   | (with_reducible exact mc.none _)
   | (with_reducible refine mc.ite ?_ ?_)
   | (with_reducible refine mc.bind ?_ (fun _=>?_))
   | exact Jc.mono _ _ _
   | exact mc.none _
   | refine mc.ite ?_ ?_
   | refine mc.bind ?_ (fun _=>?_)
set_option maxHeartbeats 8000000 in
set_option maxRecDepth 100000 in
theorem Ug.calls (k:Nat) (a0:ByteArray) (r:Bool) (w:World) (h:Ug.f k a0=some r) :
  Calls Try.prog 136 #[.string a0] w fun e w'=>e = .returned (.bool r)∧Below w.heap.size w w':=by
 have HB:=qa.mk (Below.refl w.heap.size w)
 have H:((Jc.f k (([(⟨#[61,61]⟩:ByteArray),(⟨#[60]⟩:ByteArray),(⟨#[38]⟩:ByteArray),(⟨#[43]⟩:ByteArray),(⟨#[45]⟩:ByteArray),(⟨#[42]⟩:ByteArray)]:List ByteArray)) a0).bind fun t104=>(some t104))=some r:=h
 clear h
 obtain ⟨y101,hy101⟩:∃ y_:List ByteArray,y_=(([(⟨#[61,61]⟩:ByteArray),(⟨#[60]⟩:ByteArray),(⟨#[38]⟩:ByteArray),(⟨#[43]⟩:ByteArray),(⟨#[45]⟩:ByteArray),(⟨#[42]⟩:ByteArray)]:List ByteArray)):=⟨_,rfl⟩
 replace H:((Jc.f k y101 a0).bind fun t104=>(some t104))=some r:=by first|(rw [hy101];with_reducible exact H)|(have Tj:=(Option.bind_some _ _).symm.trans H;rw [hy101];with_reducible exact Tj)|(have Tj:=(Option.bind_some _ _).symm.trans H;with_reducible exact Tj)|with_reducible exact H|(rw [hy101];exact H)|exact H
 have gn:=qa.mk hy101
 clear hy101
 replace H:=Option.bind_eq_some_iff.mp H
 obtain ⟨t104,QJ,H⟩:=H
 replace H:(some t104)=some r:=H
 have A2:=qa.mk QJ
 clear QJ
 obtain rfl:=Option.some.inj H
 go_enter Try.func136,Try.ntmps136
 go_wp2_with (first|((with_reducible refine Mb (N:=3) rfl ?_);refine Kd.mG Kd.string _ 9 ?hg (N:=3) ?hd (xs:=([(⟨#[61,61]⟩:ByteArray),(⟨#[60]⟩:ByteArray),(⟨#[38]⟩:ByteArray),(⟨#[43]⟩:ByteArray),(⟨#[45]⟩:ByteArray),(⟨#[42]⟩:ByteArray)]:List ByteArray)) (inner:=[.string (⟨#[61,61]⟩:ByteArray),.string (⟨#[60]⟩:ByteArray),.string (⟨#[38]⟩:ByteArray),.string (⟨#[43]⟩:ByteArray),.string (⟨#[45]⟩:ByteArray),.string (⟨#[42]⟩:ByteArray)]) (ok:=fun _=>True) (Uo:=fun _=>True) ?hr ?hp (fun _ hk=>hk) trivial (Below.refl _ _) (Nat.le_refl _) (by simp) ?_;(case hd=>rfl);(case hg=>rfl);(case hr=>first|(go_simp;done)|(go_simp;rfl));(case hp=>exact (kf.one (show Kd.M Kd.string _ _ _ (⟨#[61,61]⟩:ByteArray) [.string (⟨#[61,61]⟩:ByteArray)] from rfl) (kf.one (show Kd.M Kd.string _ _ _ (⟨#[60]⟩:ByteArray) [.string (⟨#[60]⟩:ByteArray)] from rfl) (kf.one (show Kd.M Kd.string _ _ _ (⟨#[38]⟩:ByteArray) [.string (⟨#[38]⟩:ByteArray)] from rfl) (kf.one (show Kd.M Kd.string _ _ _ (⟨#[43]⟩:ByteArray) [.string (⟨#[43]⟩:ByteArray)] from rfl) (kf.one (show Kd.M Kd.string _ _ _ (⟨#[45]⟩:ByteArray) [.string (⟨#[45]⟩:ByteArray)] from rfl) (kf.one (show Kd.M Kd.string _ _ _ (⟨#[42]⟩:ByteArray) [.string (⟨#[42]⟩:ByteArray)] from rfl) (kf.none _ _))))))));intro qB w3 YR hb iI xp;clear iI xp;(first|rw [← gn.out] at YR|(simp only [Int.reduceToNat] at YR;rw [← gn.out] at YR));have Pb:=qa.mk (Kd.Xg YR (Na (by repeat (first|(with_reducible first|exact HB.out|apply ia|apply ja|apply za)|exact HB.out))));have Wb:=qa.mk (Pa (by repeat (first|(with_reducible first|exact HB.out|apply ia|apply ja|apply za)|exact HB.out)) hb);clear HB;have Qp:=Pb;have HB:=Wb;clear Pb Wb;clear hb YR;obtain ⟨Ao5,co5,eo5⟩:=Kd.mh Qp.out;subst eo5)|((with_reducible refine Bb (f:=140) rfl ?_);refine jd (some 5) rfl rfl Try.func140 (by kernel_rfl) rfl #[.slice Ao5 y101.length co5,.string a0] rfl (by (try simp only [List.map_toArray,List.map_cons,List.map_nil]);first|done|rfl|(simp only [List.length_drop,List.length_take];rfl)) ?_;(with_reducible refine (Jc.calls k _ _ y101 a0 t104 _ ?side1 ?side2 A2.out).mono ?_);(case side1=>repeat (first|exact (Kd.ee Qp.out).2.2|(with_reducible refine Kd.yc ?_ _)|(with_reducible refine Kd.uc ?_ _)|(with_reducible refine Kd.Sc ?_)));(case side2=>exact (Kd.ee Qp.out).2.1);rintro e w' ⟨rfl,⟨nd,rfl⟩⟩;refine ⟨_,rfl,?_⟩))
 go_ret
 exact ⟨by first|rfl|(simp [La,Ka] <;> rfl)|(simp [*,La,Ka] <;> rfl),by repeat (first|(with_reducible first|exact HB.out|apply ia|apply ja|apply za)|exact HB.out)⟩
end Go.Proofs.Ytmifdccaajngcaa.P
end
section
namespace Go.Proofs.Ytmifdccaajngcaa.P
open Go.RowKit Go.Proofs.Ca.xb Go.Proofs.Ca.Xb Go.Proofs.Ca.ic
set_option linter.unusedVariables false
set_option linter.unusedSimpArgs false
set_option maxHeartbeats 4000000 in
set_option maxRecDepth 100000 in
theorem zA (g:Nat) (lb:Array Value) (p:Int→Bool) (eg:∀ args w,(callFunc g args).run Try.prog w = .ok (.enter g args) w) (A0:Option Addr) (c0:Nat) (l0:List Int) (w:World) (hr0:Kd.C (Kd.int .i64) w A0 l0.length l0) (hc0:l0.length ≤ c0)
  (hp:∀ (W:World) (x:Int),Below w.heap.size w W→Calls Try.prog g (#[(.int .i64 x)] ++ lb) W fun e w'=>e = .returned (.bool (p x))∧Below W.heap.size W w') :
  Calls Try.prog 130 #[.slice A0 l0.length c0,.func (.func g) #[] lb] w fun e w'=>(∃ i:Int,e = .returned (.int .i64 i)∧decide (0 ≤ i)=l0.any p)∧Below w.heap.size w w':=by
 have dD:=hr0.2.1
 have Nq:=qa.mk hr0
 have fA:=qa.mk hc0
 have HP:=qa.mk hp
 clear hr0 hc0 hp
 go_enter Try.func130,Try.ntmps130
 go_wp2
 go_loopg [5,8] l0.length (fun gg _ s8 wr=>∃ kk:Nat,kk ≤ l0.length∧l0.length - kk ≤ gg∧s8 = .int .i64 kk∧qa (Below w.heap.size w wr)∧qa ((l0.take kk).any p=false))
 case atStart=>exact ⟨0,Nat.zero_le _,by omega,rfl,⟨Below.refl _ w⟩,⟨by simp⟩⟩
 case round =>
  (try clear BW)
  (try clear HA)
  obtain ⟨kk,hkk,hg,rfl,BW,HA⟩:=hrel
  by_cases hlt:kk < l0.length
  ·have p1:0 ≤ (kk:Int):=by omega
   have q1:(kk:Int) < (l0.length:Int):=by omega
   obtain ⟨ad,e1,hx0⟩:=Kd.Lp Nq.out (kk:Int) p1 q1
   cases e1
   simp only [Int.toNat_natCast] at hx0
   replace hx0:=(BW.out.cell (World.block_lt_of_cell? w _ hx0)).trans hx0
   have hcall:=HP.out wr (rd l0 (kk:Int)) BW.out
   cases hq:p (rd l0 (kk:Int)) with
   | true =>
    rw [hq] at hcall
    go_wp2_with (go_at_fn g;refine hcall.mono ?_;rintro e w1 ⟨rfl,hb1⟩)
    go_ret
    exact ⟨⟨_,rfl,by rw [jG (d:=0) hlt hq];simp⟩,BW.out.trans (hb1.mono BW.out.size)⟩
   | false =>
    rw [hq] at hcall
    go_wp2_with (go_at_fn g;refine hcall.mono ?_;rintro e w1 ⟨rfl,hb1⟩)
    go_roundg (l0.length - (kk + 1))
    case measure=>omega
    case rel=>exact ⟨kk + 1,by omega,by omega,by go_num,⟨BW.out.trans (hb1.mono BW.out.size)⟩,⟨br (d:=0) hlt HA.out hq⟩⟩
  ·have x_:¬ (kk:Int) < (l0.length:Int):=by omega
   have he:kk=l0.length:=by omega
   subst he
   go_wp2
   go_ret
   exact ⟨⟨_,rfl,by have h_:=HA.out;rw [List.take_length] at h_;rw [h_];simp⟩,BW.out⟩
set_option maxHeartbeats 4000000 in
theorem Tt (g:Nat) (lb:Array Value) (p:Int→Bool) (eg:∀ args w,(callFunc g args).run Try.prog w = .ok (.enter g args) w) (A0:Option Addr) (c0:Nat) (l0:List Int) (w:World) (hr0:Kd.C (Kd.int .i64) w A0 l0.length l0) (hc0:l0.length ≤ c0)
  (hp:∀ (W:World) (x:Int),Below w.heap.size w W→Calls Try.prog g (#[(.int .i64 x)] ++ lb) W fun e w'=>e = .returned (.bool (p x))∧Below W.heap.size W w') :
  Calls Try.prog 113 #[.slice A0 l0.length c0,.func (.func g) #[] lb] w fun e w'=>e = .returned (.bool (l0.any p))∧Below w.heap.size w w':=by
 have HI:=qa.mk (zA g lb p eg A0 c0 l0 w hr0 hc0 hp)
 clear hr0 hc0 hp
 go_enter Try.func113,Try.ntmps113
 go_wp2_with (go_at_call 130;refine HI.out.mono ?_;rintro e w1 ⟨⟨i,rfl,hi⟩,hb1⟩;have HD:=qa.mk hi;clear hi)
 go_ret
 exact ⟨by rw [← HD.out];first|rfl|simp,hb1⟩
end Go.Proofs.Ytmifdccaajngcaa.P
end
section
namespace Go.Proofs.Ytmifdccaajngcaa.P
open Go.RowKit Go.Proofs.Ca.xb Go.Proofs.Ca.Xb Go.Proofs.Ca.ic
set_option linter.unusedVariables false
set_option linter.unusedSimpArgs false
def qi (a b c:Int):Bool:=decide (b ≤ a) && decide (a ≤ c)
theorem Oh (a b c:Int) (w:World):Calls Try.prog 58 #[.int .i64 a,.int .i64 b,.int .i64 c] w fun e w'=>e = .returned (.bool (qi a b c))∧Cc w w' :=
 sg.calls a b c (qi a b c) w (by
  unfold sg.f qi
  by_cases h:a ≥ b
  ·rw [if_pos h]
   have h':b ≤ a:=h
   simp [h']
  ·rw [if_neg h]
   have h':¬ b ≤ a:=h
   simp [h'])
def er (l:List Int) (p v:Int):Bool:=qi (l.length:Int) 1 4 && !(l.any fun n=>!qi n 1 16) && qi p 0 (if v < 6 then v else 6) && decide (v ≤ 20)
set_option maxHeartbeats 1000000 in
theorem uA (W:World) (x:Int):Calls Try.prog 114 #[.int .i64 x] W fun e w'=>e = .returned (.bool (!qi x 1 16))∧Below W.heap.size W w':=by
 have HC:=qa.mk (Oh x 1 16)
 generalize qi x 1 16=b at HC ⊢
 go_enter Try.func114,Try.ntmps114
 go_wp2_with (go_at_call 58;refine (HC.out _).mono ?_;rintro e w1 ⟨rfl,hb1⟩;have HD:=qa.mk hb1.below;clear hb1)
 go_ret
 exact ⟨rfl,HD.out⟩
set_option maxHeartbeats 2000000 in
set_option maxRecDepth 100000 in
theorem Xz (p0 p1 p2 p3:Value) (A:Option Addr) (c:Nat) (w:World) :
  Calls Try.prog 115 #[.agg #[p0,p1,p2,p3],.slice A 0 c,.int .i64 0] w fun e w'=>e = .returned (.bool true)∧Below w.heap.size w w':=by
 go_enter Try.func115,Try.ntmps115
 go_wp2
 go_loop [25] (fun i=>i = .int .i64 0) (fun _=>0)
 case atStart=>exact rfl
 case round =>
  obtain rfl:=hrel
  go_wp2
  go_ret
  exact ⟨rfl,ia (ia (Below.refl _ _) _) _⟩
set_option maxHeartbeats 400000 in
set_option maxRecDepth 100000 in
theorem Lx (A0 A3:Option Addr) (c0 c3:Nat) (l0:List Int) (a1 a2:Int) (w:World) (hr0:Kd.C (Kd.int .i64) w A0 l0.length l0) (hc0:l0.length ≤ c0) :
  Calls Try.prog 89 #[.agg #[.slice A0 l0.length c0,.int .i64 a1,.int .i64 a2,.slice A3 0 c3]] w fun e w'=>e = .returned (.bool (er l0 a1 a2))∧Below w.heap.size w w':=by
 have eg:=enters_of Try.func114 (by kernel_rfl) rfl
 have dD:=hr0.2.1
 have HC1:=qa.mk (Oh (l0.length:Int) 1 4)
 have HC3:=qa.mk (Oh a1 0 (if a2 < 6 then a2 else 6))
 have HF:=qa.mk (fun (W:World) (hb:Below w.heap.size w W)=>Tt 114 #[] (fun n=>!qi n 1 16) eg A0 c0 l0 W (Kd.Yb hr0 hb) hc0 (fun W x _=>uA W x))
 clear hr0 hc0
 unfold er
 by_cases h6:a2 < 6
 all_goals
  have hmin:min 6 a2=if a2 < 6 then a2 else 6:=by split <;> omega
  first|rw [if_pos h6] at HC3 hmin ⊢|rw [if_neg h6] at HC3 hmin ⊢
  cases hb1:qi (l0.length:Int) 1 4 with
  | false =>
   go_enter Try.func89,Try.ntmps89
   go_wp2_with (first|(go_at_call 58;refine (Oh _ _ _ _).mono ?_;rintro e w1 ⟨rfl,⟨n,rfl⟩⟩))
   go_ret
   exact ⟨rfl,ja (ia (Below.refl _ _) _) _⟩
  | true =>
   cases hb2:(l0.any fun n=>!qi n 1 16) with
   | true =>
    rw [hb2] at HF
    go_enter Try.func89,Try.ntmps89
    go_wp2_with (first|(go_at_call 58;refine (Oh _ _ _ _).mono ?_;rintro e w1 ⟨rfl,⟨n,rfl⟩⟩)|(go_at_call 113;refine (HF.out _ (ja (ia (Below.refl _ _) _) _)).mono ?_;rintro e w1 ⟨rfl,hb⟩;have HB:=qa.mk (Pa (ja (ia (Below.refl _ _) _) _) hb);clear hb))
    go_ret
    exact ⟨rfl,HB.out⟩
   | false =>
    rw [hb2] at HF
    go_enter Try.func89,Try.ntmps89
    go_wp2_with (first|(go_at_call 58;(with_reducible refine (Oh _ _ _ _).mono ?_);rintro e w1 ⟨rfl,⟨n,rfl⟩⟩)|(go_at_call 113;(with_reducible refine (HF.out _ (ja (ia (Below.refl _ _) _) _)).mono ?_);rintro e w1 ⟨rfl,hb⟩;have HB:=qa.mk (Pa (ja (ia (Below.refl _ _) _) _) hb);obtain ⟨uN,OL⟩:=AO hb;have QH:=hb.size;simp at QH;clear hb)|(go_at_call 115;(with_reducible refine (Xz _ _ _ _ _ _ _).mono ?_);rintro e w2 ⟨rfl,hb⟩;have Kt:=qa.mk (Pa (ja HB.out _) hb);clear hb))
    all_goals
     go_ret
     first
      | exact ⟨by simp [*],Kt.out⟩
      | exact ⟨by simp [*],ja HB.out _⟩
def Mf.f (Ra:List Int) (Ja:Int) (Ma:Int) (DB:List (au)):Option Bool:=if DB.length=0 then some (er Ra Ja Ma) else none
theorem Mf.calls (Ib:Option Addr) (Gb:Nat) (Ra:List Int) (Ja:Int) (Ma:Int) (yR:Option Addr) (UQ:Nat) (DB:List (au)) (r:Bool) (w:World) (zf:Kd.C (Kd.int .i64) w Ib Ra.length Ra) (uf:Ra.length ≤ Gb) (Aab:Kd.C F9 w yR DB.length DB) (rad:DB.length ≤ UQ) (h:Mf.f Ra Ja Ma DB=some r) :
  Calls Try.prog 89 #[.agg #[.slice Ib Ra.length Gb,.int .i64 Ja,.int .i64 Ma,.slice yR DB.length UQ]] w fun e w'=>e = .returned (.bool r)∧Below w.heap.size w w':=by
 unfold Mf.f at h
 split at h
 ·rename_i h0
  injection h with h
  subst h
  rw [h0]
  exact Lx Ib yR Gb UQ Ra Ja Ma w zf uf
 ·cases h
end Go.Proofs.Ytmifdccaajngcaa.P
end
section
namespace Go.Proofs.Ytmifdccaajngcaa.P
open Go.RowKit Go.Proofs.Ca.xb Go.Proofs.Ca.Xb Go.Proofs.Ca.ic
attribute [local go_sem] Vd Td we ue Dd Cd Ud Sd
set_option linter.unusedVariables false
set_option linter.unusedSimpArgs false
theorem zW (d:Nat) (w:World) (x0 y0:Int) (x1 y1:Int) (x2 y2:Int) (x3 y3:Int) (x4 y4:Int) (x5 y5:Int) (x6 y6:ByteArray) :
  (Op.equalIn (d + 2) 70 (.agg #[.int .i64 x0,.int .i64 x1,.int .i64 x2,.int .i64 x3,.int .i64 x4,.int .i64 x5,.string x6]) (.agg #[.int .i64 y0,.int .i64 y1,.int .i64 y2,.int .i64 y3,.int .i64 y4,.int .i64 y5,.string y6])).run Try.prog w = .ok (x0 == y0 && (x1 == y1 && (x2 == y2 && (x3 == y3 && (x4 == y4 && (x5 == y5 && (x6.toList == y6.toList))))))) w:=by
 refine yQ Try.underlying70 (by kernel_rfl) ?_
 refine Kn (by rfl) (by go_simp;rfl) (by go_simp;rfl) (by go_simp) ?_
 refine Kn (by rfl) (by go_simp;rfl) (by go_simp;rfl) (by go_simp) ?_
 refine Kn (by rfl) (by go_simp;rfl) (by go_simp;rfl) (by go_simp) ?_
 refine Kn (by rfl) (by go_simp;rfl) (by go_simp;rfl) (by go_simp) ?_
 refine Kn (by rfl) (by go_simp;rfl) (by go_simp;rfl) (by go_simp) ?_
 refine Kn (by rfl) (by go_simp;rfl) (by go_simp;rfl) (by go_simp) ?_
 exact YI (by rfl) (by go_simp;rfl) (by go_simp;rfl) (by go_simp)
end Go.Proofs.Ytmifdccaajngcaa.P
end
