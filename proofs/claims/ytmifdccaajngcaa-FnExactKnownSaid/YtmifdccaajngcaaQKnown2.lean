import Derived.Test.YtmifdccaajngcaaQKnown1
section
namespace Go.Proofs.Ytmifdccaajngcaa.P
open Go.RowKit Go.Proofs.Na.mc Go.Proofs.Na.jf Go.Proofs.Na.xg
set_option linter.unusedVariables false
set_option linter.unusedSimpArgs false
attribute [local go_sem] Hj Fj Rk Qk Li Ki Gj Ej
def Xf.f (k:Nat) (Ta:List Int) (Ma:Int) (Oa:Int) (Pa:Int) (Sa:List (Lk)):Option (List Int × Int × Int × Int × (List (gh))):=(Rd.f k Ta).bind fun t104=>((Mc.f k Sa).bind fun t107=>(some (t104,Ma,Oa,Pa,t107)))
theorem Xf.mono:∀ a0 a1 a2 a3 a4 k,Lb (Xf.f k a0 a1 a2 a3 a4) (Xf.f (k + 1) a0 a1 a2 a3 a4):=by
 intro a0 a1 a2 a3 a4 k
 unfold Xf.f
 repeat' first
   | (with_reducible exact Mc.mono _ _)
   | (with_reducible exact Rd.mono _ _)
   | (with_reducible exact Lb.refl _)
   | (with_reducible exact Lb.none _)
   | (with_reducible refine Lb.ite ?_ ?_)
   | (with_reducible refine Lb.bind ?_ (fun _=>?_))
   | exact Mc.mono _ _
   | exact Rd.mono _ _
   | exact Lb.none _
   | refine Lb.ite ?_ ?_
   | refine Lb.bind ?_ (fun _=>?_)
set_option maxHeartbeats 8000000 in
set_option maxRecDepth 100000 in
theorem Xf.calls (k:Nat) (Cb:Option Addr) (Bb:Nat) (Ta:List Int) (Ma:Int) (Oa:Int) (Pa:Int) (yc:Option Addr) (Xb:Nat) (Sa:List (Lk)) (r1:List Int) (r2:Int) (r3:Int) (r4:Int) (r5:List (gh)) (w:World) (Rf:Kd.C (Kd.int .i64) w Cb Ta.length Ta) (Pf:Ta.length ≤ Bb) (Bg:Kd.C cy w yc Sa.length Sa) (Eg:Sa.length ≤ Xb) (h:Xf.f k Ta Ma Oa Pa Sa=some (r1,r2,r3,r4,r5)) :
  Calls Try.prog 15 #[.agg #[.slice Cb Ta.length Bb,.int .i64 Ma,.int .i64 Oa,.int .i64 Pa,.slice yc Sa.length Xb]] w fun e w'=>∃ v0_ v4_:Value,e = .returned (.agg #[v0_,.int .i64 r2,.int .i64 r3,.int .i64 r4,v4_])∧Kd.R (Kd.int .i64) 3 w' w.heap.size (fun _=>True) v0_ r1∧Kd.S Wo 68 w' w.heap.size (fun _=>True) v4_ r5∧Below w.heap.size w w':=by
 have Mae:=Try.underlying25
 have ZB:=Try.underlying30
 have ig:=ja.mk Rf
 have mg:=ja.mk Pf
 clear Rf Pf
 have oh:=ja.mk Bg
 have qj:=ja.mk Eg
 clear Bg Eg
 have HB:=ja.mk (Below.refl w.heap.size w)
 have H:((Rd.f k Ta).bind fun t104=>((Mc.f k Sa).bind fun t107=>(some (t104,Ma,Oa,Pa,t107))))=some (r1,r2,r3,r4,r5):=h
 clear h
 replace H:=Option.bind_eq_some_iff.mp H
 obtain ⟨t104,YL,H⟩:=H
 replace H:((Mc.f k Sa).bind fun t107=>(some (t104,Ma,Oa,Pa,t107)))=some (r1,r2,r3,r4,r5):=H
 have A2:=ja.mk YL
 clear YL
 replace H:=Option.bind_eq_some_iff.mp H
 obtain ⟨t107,Pv,H⟩:=H
 replace H:(some (t104,Ma,Oa,Pa,t107))=some (r1,r2,r3,r4,r5):=H
 have A3:=ja.mk Pv
 clear Pv
 simp only [Option.some.injEq,Prod.mk.injEq] at H
 obtain ⟨rfl,rfl,rfl,rfl,rfl⟩:=H
 go_enter Try.func15,Try.ntmps15
 go_wp2_with (first|((with_reducible refine Kb (N:=1) rfl ?_);refine Eb ?hg (N:=1) ?hd (cs:=#[.slice Cb Ta.length Bb,.int .i64 Ma,.int .i64 Oa,.int .i64 Pa,.slice yc Sa.length Xb]) (t:=25) ?hr ?_;(case hd=>rfl);(case hg=>rfl);(case hr=>first|(go_simp;done)|(go_simp;rfl));intro Ea hg w4 Tb hb;have Gb:=ja.mk (Qa (by repeat (first|(with_reducible first|exact HB.out|apply qa|apply ia|apply ua)|exact HB.out)) hb);have Vb:=ja.mk (Tb);have Ac:=ja.mk ((by rw [hg];exact (Ra (by repeat (first|(with_reducible first|exact HB.out|apply qa|apply ia|apply ua)|exact HB.out))):w.heap.size ≤ Ea));have ud:=ja.mk ((by rw [hg];exact (Ra (by repeat (first|(with_reducible first|exact HB.out|apply qa|apply ia|apply ua)|exact HB.out))):w.heap.size ≤ Ea));clear HB;have HB:=Gb;have za:=Vb;have Be:=Ac;have Wa:=ud;clear Gb Vb Ac ud;clear hb Tb hg)|((with_reducible refine Kb (N:=2) rfl ?_);refine Eb ?hg (N:=2) ?hd (cs:=#[.slice none 0 0,.int .i64 0,.int .i64 0,.int .i64 0,.slice none 0 0]) (t:=30) ?hr ?_;(case hd=>rfl);(case hg=>rfl);(case hr=>first|(go_simp;done)|(go_simp;rfl));intro Fa hg w5 Tb hb;have Gb:=ja.mk (gb (g:=Ea) (o:=.cells #[.slice Cb Ta.length Bb,.int .i64 Ma,.int .i64 Oa,.int .i64 Pa,.slice yc Sa.length Xb] 25 (0,0)) (by (with_reducible repeat (first|refine Da ?_ _|refine Ga ?_|refine Ca ?_ _));exact za.out) hb);have Vb:=ja.mk (Qa (by repeat (first|(with_reducible first|exact HB.out|apply qa|apply ia|apply ua|refine Aa ?_ Wa.out)|exact HB.out)) hb);have Ac:=ja.mk (Tb);have ud:=ja.mk ((by rw [hg];exact (Ra (by repeat (first|(with_reducible first|exact HB.out|apply qa|apply ia|apply ua|refine Aa ?_ Wa.out)|exact HB.out))):w.heap.size ≤ Fa));have ef:=ja.mk ((by rw [hg];exact (Ra (by repeat (first|(with_reducible first|exact HB.out|apply qa|apply ia|apply ua|refine Aa ?_ Wa.out)|exact HB.out))):w.heap.size ≤ Fa));have Ag:=ja.mk ((by rw [hg];exact Nat.ne_of_lt (Lc (g:=Ea) (o:=.cells #[.slice Cb Ta.length Bb,.int .i64 Ma,.int .i64 Oa,.int .i64 Pa,.slice yc Sa.length Xb] 25 (0,0)) (by (with_reducible repeat (first|refine Da ?_ _|refine Ga ?_|refine Ca ?_ _));exact za.out)):Ea ≠ Fa));have dh:=ja.mk ((by rw [hg];exact Nat.ne_of_gt (Lc (g:=Ea) (o:=.cells #[.slice Cb Ta.length Bb,.int .i64 Ma,.int .i64 Oa,.int .i64 Pa,.slice yc Sa.length Xb] 25 (0,0)) (by (with_reducible repeat (first|refine Da ?_ _|refine Ga ?_|refine Ca ?_ _));exact za.out)):Fa ≠ Ea));clear za;clear HB;have za:=Gb;have HB:=Vb;have Ba:=Ac;have Df:=ud;have Sb:=ef;have Ua:=Ag;have jb:=dh;clear Gb Vb Ac ud ef Ag dh;clear hb Tb hg)|((with_reducible refine Kb (N:=3) rfl ?_);refine Eb ?hg (N:=3) ?hd (cs:=#[.slice none 0 0,.int .i64 0,.int .i64 0,.int .i64 0,.slice none 0 0]) (t:=30) ?hr ?_;(case hd=>rfl);(case hg=>rfl);(case hr=>first|(go_simp;done)|(go_simp;rfl));intro fe hg w6 Tb hb;have Gb:=ja.mk (gb (g:=Ea) (o:=.cells #[.slice Cb Ta.length Bb,.int .i64 Ma,.int .i64 Oa,.int .i64 Pa,.slice yc Sa.length Xb] 25 (0,0)) (by (with_reducible repeat (first|refine Da ?_ _|refine Ga ?_|refine Ca ?_ _));exact za.out) hb);have Vb:=ja.mk (gb (g:=Fa) (o:=.cells #[.slice none 0 0,.int .i64 0,.int .i64 0,.int .i64 0,.slice none 0 0] 30 (0,0)) (by (with_reducible repeat (first|refine Da ?_ _|refine Ga ?_|refine Ca ?_ _));exact Ba.out) hb);have Ac:=ja.mk (Qa (by repeat (first|(with_reducible first|exact HB.out|apply qa|apply ia|apply ua|refine Aa ?_ Wa.out|refine Aa ?_ Sb.out)|exact HB.out)) hb);have ud:=ja.mk (Tb);have ef:=ja.mk ((by rw [hg];exact (Ra (by repeat (first|(with_reducible first|exact HB.out|apply qa|apply ia|apply ua|refine Aa ?_ Wa.out|refine Aa ?_ Sb.out)|exact HB.out))):w.heap.size ≤ fe));have Ag:=ja.mk ((by rw [hg];exact (Ra (by repeat (first|(with_reducible first|exact HB.out|apply qa|apply ia|apply ua|refine Aa ?_ Wa.out|refine Aa ?_ Sb.out)|exact HB.out))):w.heap.size ≤ fe));have dh:=ja.mk ((by rw [hg];exact Nat.ne_of_lt (Lc (g:=Ea) (o:=.cells #[.slice Cb Ta.length Bb,.int .i64 Ma,.int .i64 Oa,.int .i64 Pa,.slice yc Sa.length Xb] 25 (0,0)) (by (with_reducible repeat (first|refine Da ?_ _|refine Ga ?_|refine Ca ?_ _));exact za.out)):Ea ≠ fe));have Fv:=ja.mk ((by rw [hg];exact Nat.ne_of_gt (Lc (g:=Ea) (o:=.cells #[.slice Cb Ta.length Bb,.int .i64 Ma,.int .i64 Oa,.int .i64 Pa,.slice yc Sa.length Xb] 25 (0,0)) (by (with_reducible repeat (first|refine Da ?_ _|refine Ga ?_|refine Ca ?_ _));exact za.out)):fe ≠ Ea));have Dv:=ja.mk ((by rw [hg];exact Nat.ne_of_lt (Lc (g:=Fa) (o:=.cells #[.slice none 0 0,.int .i64 0,.int .i64 0,.int .i64 0,.slice none 0 0] 30 (0,0)) (by (with_reducible repeat (first|refine Da ?_ _|refine Ga ?_|refine Ca ?_ _));exact Ba.out)):Fa ≠ fe));have xJ:=ja.mk ((by rw [hg];exact Nat.ne_of_gt (Lc (g:=Fa) (o:=.cells #[.slice none 0 0,.int .i64 0,.int .i64 0,.int .i64 0,.slice none 0 0] 30 (0,0)) (by (with_reducible repeat (first|refine Da ?_ _|refine Ga ?_|refine Ca ?_ _));exact Ba.out)):fe ≠ Fa));clear za;clear Ba;clear HB;have za:=Gb;have Ba:=Vb;have HB:=Ac;have Bd:=ud;have LL:=ef;have Ai:=Ag;have dg:=dh;have Wg:=Fv;have Ke:=Dv;have Vg:=xJ;clear Gb Vb Ac ud ef Ag dh Fv Dv xJ;clear hb Tb hg;have eaf:=Ua.out;have Rae:=jb.out;have daf:=dg.out;have Qae:=Wg.out;have Mo:w6.cell? ⟨Ea,0,none⟩=some (.slice Cb Ta.length Bb):=(ga za.out 0).trans rfl;have Lo:w6.cell? ⟨Ea,1,none⟩=some (.int .i64 Ma):=(ga za.out 1).trans rfl;have Ko:w6.cell? ⟨Ea,2,none⟩=some (.int .i64 Oa):=(ga za.out 2).trans rfl;have Jo:w6.cell? ⟨Ea,3,none⟩=some (.int .i64 Pa):=(ga za.out 3).trans rfl;have Io:w6.cell? ⟨Ea,4,none⟩=some (.slice yc Sa.length Xb):=(ga za.out 4).trans rfl;have Ho:=aa za.out 0;have Fo:=aa za.out 1;have Eo:=aa za.out 2;have Co:=aa za.out 3;have Bo:=aa za.out 4)|((with_reducible refine mb (f:=25) rfl ?_);refine yd (some 6) rfl rfl Try.func25 (by kernel_rfl) rfl #[.slice Cb Ta.length Bb] rfl (by (try simp only [List.map_toArray,List.map_cons,List.map_nil]);first|done|rfl|(simp only [List.length_drop,List.length_take];rfl)) ?_;(with_reducible refine (Rd.calls k _ _ Ta t104 _ ?side1 ?side2 A2.out).mono ?_);(case side1=>repeat (first|exact (Kd.Mb ig.out HB.out)|(with_reducible refine Kd.Sc ?_ _)|(with_reducible refine Kd.Rc ?_ _)|(with_reducible refine Kd.Qd ?_)));(case side2=>exact mg.out);rintro e Hq ⟨VV,rfl,Zm,hb⟩;refine ⟨_,rfl,?_⟩;have Gb:=ja.mk (Kd.zi Zm (Ra (by repeat (first|(with_reducible first|exact HB.out|apply qa|apply ia|apply ua|refine Aa ?_ Wa.out|refine Aa ?_ Sb.out|refine Aa ?_ Ai.out)|exact HB.out))));have Vb:=ja.mk (gb (g:=Ea) (o:=.cells #[.slice Cb Ta.length Bb,.int .i64 Ma,.int .i64 Oa,.int .i64 Pa,.slice yc Sa.length Xb] 25 (0,0)) (by (with_reducible repeat (first|refine Da ?_ _|refine Ga ?_|refine Ca ?_ _));exact za.out) hb);have Ac:=ja.mk (gb (g:=Fa) (o:=.cells #[.slice none 0 0,.int .i64 0,.int .i64 0,.int .i64 0,.slice none 0 0] 30 (0,0)) (by (with_reducible repeat (first|refine Da ?_ _|refine Ga ?_|refine Ca ?_ _));exact Ba.out) hb);have ud:=ja.mk (gb (g:=fe) (o:=.cells #[.slice none 0 0,.int .i64 0,.int .i64 0,.int .i64 0,.slice none 0 0] 30 (0,0)) (by (with_reducible repeat (first|refine Da ?_ _|refine Ga ?_|refine Ca ?_ _));exact Bd.out) hb);have ef:=ja.mk (Qa (by repeat (first|(with_reducible first|exact HB.out|apply qa|apply ia|apply ua|refine Aa ?_ Wa.out|refine Aa ?_ Sb.out|refine Aa ?_ Ai.out)|exact HB.out)) hb);clear za;clear Ba;clear Bd;clear HB;have Ds:=Gb;have za:=Vb;have Ba:=Ac;have Bd:=ud;have HB:=ef;clear Gb Vb Ac ud ef;(try clear hb);(try clear hb2);(try clear hk);(try clear hi);(try clear Zm);obtain ⟨Av,Xu,Pag⟩:=Kd.Hf Ds.out;subst Pag;have aK:=Vg.out;have YJ:=Ke.out;have aj:Hq.cell? ⟨fe,0,none⟩=some (.slice none 0 0):=(ga Bd.out 0).trans rfl;have Zi:Hq.cell? ⟨fe,1,none⟩=some (.int .i64 0):=(ga Bd.out 1).trans rfl;have Vl:Hq.cell? ⟨fe,2,none⟩=some (.int .i64 0):=(ga Bd.out 2).trans rfl;have Ul:Hq.cell? ⟨fe,3,none⟩=some (.int .i64 0):=(ga Bd.out 3).trans rfl;have Tl:Hq.cell? ⟨fe,4,none⟩=some (.slice none 0 0):=(ga Bd.out 4).trans rfl;have Yi:=aa Bd.out 0;have Xi:=aa Bd.out 1;have Sl:=aa Bd.out 2;have Rl:=aa Bd.out 3;have Ql:=aa Bd.out 4;have uo:Hq.cell? ⟨Ea,0,none⟩=some (.slice Cb Ta.length Bb):=(ga za.out 0).trans rfl;have qo:Hq.cell? ⟨Ea,1,none⟩=some (.int .i64 Ma):=(ga za.out 1).trans rfl;have Zp:Hq.cell? ⟨Ea,2,none⟩=some (.int .i64 Oa):=(ga za.out 2).trans rfl;have Yp:Hq.cell? ⟨Ea,3,none⟩=some (.int .i64 Pa):=(ga za.out 3).trans rfl;have Xp:Hq.cell? ⟨Ea,4,none⟩=some (.slice yc Sa.length Xb):=(ga za.out 4).trans rfl;have jo:=aa za.out 0;have fo:=aa za.out 1;have Ip:=aa za.out 2;have Hp:=aa za.out 3;have Gp:=aa za.out 4)|((with_reducible refine mb (f:=56) rfl ?_);refine yd (some 19) rfl rfl Try.func56 (by kernel_rfl) rfl #[.slice yc Sa.length Xb] rfl (by (try simp only [List.map_toArray,List.map_cons,List.map_nil]);first|done|rfl|(simp only [List.length_drop,List.length_take];rfl)) ?_;(with_reducible refine (Mc.calls k _ _ Sa t107 _ ?side1 ?side2 A3.out).mono ?_);(case side1=>exact Kd.Mb oh.out (by repeat (first|(with_reducible first|exact HB.out|apply qa|apply ia|apply ua|refine Aa ?_ Wa.out|refine Aa ?_ Sb.out|refine Aa ?_ Ai.out)|exact HB.out)));(case side2=>exact qj.out);rintro e Nk ⟨TV,rfl,Zm,hb⟩;refine ⟨_,rfl,?_⟩;have Gb:=ja.mk (Kd.Ce (by (with_reducible repeat (first|apply Kd.Dc|apply Kd.Ic|apply Kd.Zc));exact (Kd.Oe (Kd.qg (p:=⟨fe,3,none⟩) (Kd.qg (p:=⟨fe,2,none⟩) (Kd.qg (p:=⟨fe,1,none⟩) (Kd.qg (p:=⟨fe,0,none⟩) (Kd.xo Ds.out Bd.out (by decide)) (fun _ hk=>hk.2) (.slice Av t104.length Xu)) (fun _ hk=>hk.2) (.int .i64 Ma)) (fun _ hk=>hk.2) (.int .i64 Oa)) (fun _ hk=>hk.2) (.int .i64 Pa)) (fun _ h_=>h_.1))) hb);have Vb:=ja.mk (Kd.uB Zm (Ra (by repeat (first|(with_reducible first|exact HB.out|apply qa|apply ia|apply ua|refine Aa ?_ Wa.out|refine Aa ?_ Sb.out|refine Aa ?_ Ai.out)|exact HB.out))));have Ac:=ja.mk (gb (g:=Ea) (o:=.cells #[.slice Cb Ta.length Bb,.int .i64 Ma,.int .i64 Oa,.int .i64 Pa,.slice yc Sa.length Xb] 25 (0,0)) (by (with_reducible repeat (first|refine Da ?_ _|refine Ga ?_|refine Ca ?_ _));refine jd ?_ dg.out _;(with_reducible repeat (first|refine Da ?_ _|refine Ga ?_|refine Ca ?_ _));refine jd ?_ dg.out _;(with_reducible repeat (first|refine Da ?_ _|refine Ga ?_|refine Ca ?_ _));refine jd ?_ dg.out _;(with_reducible repeat (first|refine Da ?_ _|refine Ga ?_|refine Ca ?_ _));refine jd ?_ dg.out _;(with_reducible repeat (first|refine Da ?_ _|refine Ga ?_|refine Ca ?_ _));exact za.out) hb);have ud:=ja.mk (gb (g:=Fa) (o:=.cells #[.slice none 0 0,.int .i64 0,.int .i64 0,.int .i64 0,.slice none 0 0] 30 (0,0)) (by (with_reducible repeat (first|refine Da ?_ _|refine Ga ?_|refine Ca ?_ _));refine jd ?_ Ke.out _;(with_reducible repeat (first|refine Da ?_ _|refine Ga ?_|refine Ca ?_ _));refine jd ?_ Ke.out _;(with_reducible repeat (first|refine Da ?_ _|refine Ga ?_|refine Ca ?_ _));refine jd ?_ Ke.out _;(with_reducible repeat (first|refine Da ?_ _|refine Ga ?_|refine Ca ?_ _));refine jd ?_ Ke.out _;(with_reducible repeat (first|refine Da ?_ _|refine Ga ?_|refine Ca ?_ _));exact Ba.out) hb);have ef:=ja.mk (gb (g:=fe) (o:=.cells #[.slice Av t104.length Xu,.int .i64 Ma,.int .i64 Oa,.int .i64 Pa,.slice none 0 0] 30 (0,0)) (by (with_reducible repeat (first|refine Da ?_ _|refine Ga ?_|refine Ca ?_ _));refine Wb (cs:=#[.slice Av t104.length Xu,.int .i64 Ma,.int .i64 Oa,.int .i64 0,.slice none 0 0]) ?_ 3 _ rfl;(with_reducible repeat (first|refine Da ?_ _|refine Ga ?_|refine Ca ?_ _));refine Wb (cs:=#[.slice Av t104.length Xu,.int .i64 Ma,.int .i64 0,.int .i64 0,.slice none 0 0]) ?_ 2 _ rfl;(with_reducible repeat (first|refine Da ?_ _|refine Ga ?_|refine Ca ?_ _));refine Wb (cs:=#[.slice Av t104.length Xu,.int .i64 0,.int .i64 0,.int .i64 0,.slice none 0 0]) ?_ 1 _ rfl;(with_reducible repeat (first|refine Da ?_ _|refine Ga ?_|refine Ca ?_ _));refine Wb (cs:=#[.slice none 0 0,.int .i64 0,.int .i64 0,.int .i64 0,.slice none 0 0]) ?_ 0 _ rfl;(with_reducible repeat (first|refine Da ?_ _|refine Ga ?_|refine Ca ?_ _));exact Bd.out) hb);have Ag:=ja.mk (Qa (by repeat (first|(with_reducible first|exact HB.out|apply qa|apply ia|apply ua|refine Aa ?_ Wa.out|refine Aa ?_ Sb.out|refine Aa ?_ Ai.out)|exact HB.out)) hb);clear Ds;clear za;clear Ba;clear Bd;clear HB;have Ds:=Gb;have dI:=Vb;have za:=Ac;have Ba:=ud;have Bd:=ef;have HB:=Ag;clear Gb Vb Ac ud ef Ag;(try clear hb);(try clear hb2);(try clear hk);(try clear hi);(try clear Zm);obtain ⟨NL,gL,Oag⟩:=Kd.Kr dI.out;subst Oag;have Gr:Nk.cell? ⟨fe,0,none⟩=some (.slice Av t104.length Xu):=(ga Bd.out 0).trans rfl;have Er:Nk.cell? ⟨fe,1,none⟩=some (.int .i64 Ma):=(ga Bd.out 1).trans rfl;have yu:Nk.cell? ⟨fe,2,none⟩=some (.int .i64 Oa):=(ga Bd.out 2).trans rfl;have xu:Nk.cell? ⟨fe,3,none⟩=some (.int .i64 Pa):=(ga Bd.out 3).trans rfl;have wu:Nk.cell? ⟨fe,4,none⟩=some (.slice none 0 0):=(ga Bd.out 4).trans rfl;have er:=aa Bd.out 0;have dr:=aa Bd.out 1;have Wt:=aa Bd.out 2;have Vt:=aa Bd.out 3;have Ut:=aa Bd.out 4;have Dr:Nk.cell? ⟨Fa,0,none⟩=some (.slice none 0 0):=(ga Ba.out 0).trans rfl;have Cr:Nk.cell? ⟨Fa,1,none⟩=some (.int .i64 0):=(ga Ba.out 1).trans rfl;have Br:Nk.cell? ⟨Fa,2,none⟩=some (.int .i64 0):=(ga Ba.out 2).trans rfl;have Ar:Nk.cell? ⟨Fa,3,none⟩=some (.int .i64 0):=(ga Ba.out 3).trans rfl;have vr:Nk.cell? ⟨Fa,4,none⟩=some (.slice none 0 0):=(ga Ba.out 4).trans rfl;have cr:=aa Ba.out 0;have br:=aa Ba.out 1;have Zq:=aa Ba.out 2;have Yq:=aa Ba.out 3;have Xq:=aa Ba.out 4))
 refine bodyPost_ret (results_cell_row rfl _ _ Fa 30 #[.slice Av t104.length Xu,.int .i64 Ma,.int .i64 Oa,.int .i64 Pa,.slice NL t107.length gL] (0,0) _ rfl (by (with_reducible repeat (first|refine Da ?_ _|refine Ga ?_|refine Ca ?_ _));refine Wb (cs:=#[.slice Av t104.length Xu,.int .i64 Ma,.int .i64 Oa,.int .i64 Pa,.slice none 0 0]) ?_ 4 _ rfl;(with_reducible repeat (first|refine Da ?_ _|refine Ga ?_|refine Ca ?_ _));refine Wb (cs:=#[.slice Av t104.length Xu,.int .i64 Ma,.int .i64 Oa,.int .i64 0,.slice none 0 0]) ?_ 3 _ rfl;(with_reducible repeat (first|refine Da ?_ _|refine Ga ?_|refine Ca ?_ _));refine Wb (cs:=#[.slice Av t104.length Xu,.int .i64 Ma,.int .i64 0,.int .i64 0,.slice none 0 0]) ?_ 2 _ rfl;(with_reducible repeat (first|refine Da ?_ _|refine Ga ?_|refine Ca ?_ _));refine Wb (cs:=#[.slice Av t104.length Xu,.int .i64 0,.int .i64 0,.int .i64 0,.slice none 0 0]) ?_ 1 _ rfl;(with_reducible repeat (first|refine Da ?_ _|refine Ga ?_|refine Ca ?_ _));refine Wb (cs:=#[.slice none 0 0,.int .i64 0,.int .i64 0,.int .i64 0,.slice none 0 0]) ?_ 0 _ rfl;(with_reducible repeat (first|refine Da ?_ _|refine Ga ?_|refine Ca ?_ _));refine jd ?_ Ke.out _;(with_reducible repeat (first|refine Da ?_ _|refine Ga ?_|refine Ca ?_ _));exact Ba.out) Try.underlying30 rfl (by kernel_rfl)) rfl ?_
 exact ⟨_,_,by first|rfl|(simp [La,Ka] <;> rfl)|(simp [*,La,Ka] <;> rfl),by (with_reducible repeat (first|apply Kd.Dc|apply Kd.Ic|apply Kd.Zc));exact Kd.Oe (Kd.qg (p:=⟨Fa,4,none⟩) (Kd.qg (p:=⟨Fa,3,none⟩) (Kd.qg (p:=⟨Fa,2,none⟩) (Kd.qg (p:=⟨Fa,1,none⟩) (Kd.qg (p:=⟨Fa,0,none⟩) (Kd.qg (p:=⟨fe,4,none⟩) (Kd.xo (Kd.xo Ds.out Bd.out (by decide)) Ba.out (by decide)) (fun _ hk=>hk.1.2) (.slice NL t107.length gL)) (fun _ hk=>hk.2) (.slice Av t104.length Xu)) (fun _ hk=>hk.2) (.int .i64 Ma)) (fun _ hk=>hk.2) (.int .i64 Oa)) (fun _ hk=>hk.2) (.int .i64 Pa)) (fun _ hk=>hk.2) (.slice NL t107.length gL)) (fun _ hk=>trivial),by (with_reducible repeat (first|apply Kd.Mr|apply Kd.Lr|apply Kd.Ns));exact Kd.Ms (Kd.Iz (p:=⟨Fa,4,none⟩) (Kd.Iz (p:=⟨Fa,3,none⟩) (Kd.Iz (p:=⟨Fa,2,none⟩) (Kd.Iz (p:=⟨Fa,1,none⟩) (Kd.Iz (p:=⟨Fa,0,none⟩) (Kd.Iz (p:=⟨fe,4,none⟩) (Kd.RH (Kd.RH dI.out Bd.out (by decide)) Ba.out (by decide)) (fun _ hk=>hk.1.2) (.slice NL t107.length gL)) (fun _ hk=>hk.2) (.slice Av t104.length Xu)) (fun _ hk=>hk.2) (.int .i64 Ma)) (fun _ hk=>hk.2) (.int .i64 Oa)) (fun _ hk=>hk.2) (.int .i64 Pa)) (fun _ hk=>hk.2) (.slice NL t107.length gL)) (fun _ hk=>trivial),by repeat (first|(with_reducible first|exact HB.out|apply qa|apply ia|apply ua|refine Aa ?_ Wa.out|refine Aa ?_ Sb.out|refine Aa ?_ Ai.out)|exact HB.out)⟩
def Yc.l0:Nat→List Int→List Int→Int→Option (Bool)
 | 0,_,_,_=>none
 | k + 1,x0,x1,x5=>if x5 < (x0.length:Int) then (if 0 ≤ x5 then (if x5 < (x1.length:Int) then (if (rd x0 x5)=(rd x1 x5) then (Yc.l0 k x0 x1 (wrap64 (x5 + 1))) else (some false)) else (none)) else (none)) else (some true)
def Yc.f (k:Nat) (l0:List Int) (l1:List Int):Option (Bool):=if (l0.length:Int)=(l1.length:Int) then (Yc.l0 k l0 l1 0) else (some false)
theorem Yc.Sd:∀ k,(∀ y0 y1 y2,Lb (Yc.l0 k y0 y1 y2) (Yc.l0 (k + 1) y0 y1 y2))
 | 0=>fun _ _ _ r h=>by simp [Yc.l0] at h
 | k + 1=>by
  have Ff:=Yc.Sd k
  ·intro y0 y1 y2
   unfold Yc.l0
   repeat' first
   | (with_reducible exact Ff _ _ _)
   | (with_reducible exact Lb.refl _)
   | (with_reducible exact Lb.none _)
   | (with_reducible refine Lb.ite ?_ ?_)
   | (with_reducible refine Lb.bind ?_ (fun _=>?_))
   | exact Ff _ _ _
   | exact Lb.none _
   | refine Lb.ite ?_ ?_
   | refine Lb.bind ?_ (fun _=>?_)
theorem Yc.mono:∀ a0 a1 k,Lb (Yc.f k a0 a1) (Yc.f (k + 1) a0 a1):=by
 intro a0 a1 k
 have Ff:=Yc.Sd k
 unfold Yc.f
 repeat' first
   | (with_reducible exact Ff _ _ _)
   | (with_reducible exact Lb.refl _)
   | (with_reducible exact Lb.none _)
   | (with_reducible refine Lb.ite ?_ ?_)
   | (with_reducible refine Lb.bind ?_ (fun _=>?_))
   | exact Ff _ _ _
   | exact Lb.none _
   | refine Lb.ite ?_ ?_
   | refine Lb.bind ?_ (fun _=>?_)
set_option maxHeartbeats 8000000 in
set_option maxRecDepth 100000 in
theorem Yc.calls (k:Nat) (A0:Option Addr) (c0:Nat) (l0:List Int) (A1:Option Addr) (c1:Nat) (l1:List Int) (r:Bool) (w:World) (hr0:Kd.C (Kd.int .i64) w A0 l0.length l0) (hc0:l0.length ≤ c0) (aC:Kd.C (Kd.int .i64) w A1 l1.length l1) (VL:l1.length ≤ c1) (h:Yc.f k l0 l1=some r) :
  Calls Try.prog 20 #[.slice A0 l0.length c0,.slice A1 l1.length c1] w fun e w'=>e = .returned (.bool r)∧uc w w':=by
 have Gh:=ja.mk hr0
 have dw:=ja.mk hc0
 clear hr0 hc0
 have bJ:=ja.mk aC
 have OV:=ja.mk VL
 clear aC VL
 have H:(if (l0.length:Int)=(l1.length:Int) then (Yc.l0 k l0 l1 0) else (some false))=some r:=h
 clear h
 by_cases c3:(l0.length:Int)=(l1.length:Int)
 ·rw [if_pos c3] at H
  have Zh:((l0.length:Int) == (l1.length:Int))=true:=beq_iff_eq.mpr c3
  have Sr:((l0.length:Int) != (l1.length:Int))=false:=bne_eq_false_iff_eq.mpr c3
  have DC:(l0.length == l1.length)=true:=by first|simpa using c3|(simp at c3 ⊢;omega)
  clear c3
  have H':=ja.mk H
  clear H
  go_enter Try.func20,Try.ntmps20
  go_wp2
  repeat (go_quiet (fail);try go_wp2)
  go_loopg [5] k (fun kq v5 w'=>∃ (Ia:Int),v5 = .int .i64 Ia∧ja (Yc.l0 kq l0 l1 Ia=some r)∧ja (kq ≤ k)∧uc w w')
  case atStart=>exact ⟨(0),(by first|rfl|(simp;done)|(simp [*];done)),H',⟨Nat.le_refl _⟩,by repeat (first|exact uc.refl _|apply uc.step)⟩
  case round =>
   clear H'
   try clear c1
   try clear c2
   try clear p2
   try clear c3
   try clear Zh
   try clear Sr
   try clear DC
   (try clear HA)
   (try clear Yg)
   obtain ⟨Ia,rfl,HA,Yg,⟨m1,rfl⟩⟩:=hrel
   cases gk with
   | zero=>exact absurd HA.out (by simp [Yc.l0])
   | succ k1 =>
    have H:=HA.out
    clear HA
    simp only [Yc.l0] at H
    by_cases c4:Ia < (l0.length:Int)
    ·rw [if_pos c4] at H
     have Gi:decide (Ia < (l0.length:Int))=true:=decide_eq_true c4
     clear c4
     by_cases c5:0 ≤ Ia
     ·rw [if_pos c5] at H
      have Il:decide (0 ≤ Ia)=true:=decide_eq_true c5
      clear c5
      by_cases c6:Ia < (l1.length:Int)
      ·rw [if_pos c6] at H
       have cm:decide (Ia < (l1.length:Int))=true:=decide_eq_true c6
       clear c6
       by_cases c7:(rd l0 Ia)=(rd l1 Ia)
       ·rw [if_pos c7] at H
        have bp:((rd l0 Ia) == (rd l1 Ia))=true:=beq_iff_eq.mpr c7
        have Zu:((rd l0 Ia) != (rd l1 Ia))=false:=bne_eq_false_iff_eq.mpr c7
        clear c7
        have H':=ja.mk H
        clear H
        have Je:0 ≤ (Ia:Int):=of_decide_eq_true (by first|(with_reducible assumption)|assumption)
        have Ie:Ia < (l0.length:Int):=of_decide_eq_true (by first|(with_reducible assumption)|assumption)
        obtain ⟨Gc,Tg,Ub⟩:=Kd.Po Gh.out Ia Je Ie
        cases Tg
        replace Je:=eq_true Je
        replace Ie:=eq_true Ie
        have Gg:0 ≤ (Ia:Int):=of_decide_eq_true (by first|(with_reducible assumption)|assumption)
        have Fg:Ia < (l1.length:Int):=of_decide_eq_true (by first|(with_reducible assumption)|assumption)
        obtain ⟨bf,Fl,Ed⟩:=Kd.Po bJ.out Ia Gg Fg
        cases Fl
        replace Gg:=eq_true Gg
        replace Fg:=eq_true Fg
        go_wp2
        repeat (go_quiet (fail);try go_wp2)
        go_roundg k1
        case measure=>have:=Yg.out;omega
        case rel=>exact ⟨(wrap64 (Ia + 1)),(by first|rfl|(simp;done)|(simp [*];done)),H',⟨by have:=Yg.out;omega⟩,by repeat (first|exact uc.refl _|apply uc.step)⟩
       ·rw [if_neg c7] at H
        have bp:((rd l0 Ia) == (rd l1 Ia))=false:=beq_eq_false_iff_ne.mpr c7
        have Zu:((rd l0 Ia) != (rd l1 Ia))=true:=bne_iff_ne.mpr c7
        obtain rfl:=Option.some.inj H
        have Je:0 ≤ (Ia:Int):=of_decide_eq_true (by first|(with_reducible assumption)|assumption)
        have Ie:Ia < (l0.length:Int):=of_decide_eq_true (by first|(with_reducible assumption)|assumption)
        obtain ⟨Gc,Tg,Ub⟩:=Kd.Po Gh.out Ia Je Ie
        cases Tg
        replace Je:=eq_true Je
        replace Ie:=eq_true Ie
        have Gg:0 ≤ (Ia:Int):=of_decide_eq_true (by first|(with_reducible assumption)|assumption)
        have Fg:Ia < (l1.length:Int):=of_decide_eq_true (by first|(with_reducible assumption)|assumption)
        obtain ⟨bf,Fl,Ed⟩:=Kd.Po bJ.out Ia Gg Fg
        cases Fl
        replace Gg:=eq_true Gg
        replace Fg:=eq_true Fg
        go_wp2
        repeat (go_quiet (fail);try go_wp2)
        go_ret
        exact ⟨by first|rfl|(simp;done)|(simp [*];done),by repeat (first|exact uc.refl _|apply uc.step)⟩
      ·rw [if_neg c6] at H
       exact absurd H (by simp)
     ·rw [if_neg c5] at H
      exact absurd H (by simp)
    ·rw [if_neg c4] at H
     have Gi:decide (Ia < (l0.length:Int))=false:=decide_eq_false c4
     clear c4
     obtain rfl:=Option.some.inj H
     go_wp2
     repeat (go_quiet (fail);try go_wp2)
     go_ret
     exact ⟨by first|rfl|(simp;done)|(simp [*];done),by repeat (first|exact uc.refl _|apply uc.step)⟩
 ·rw [if_neg c3] at H
  have Zh:((l0.length:Int) == (l1.length:Int))=false:=beq_eq_false_iff_ne.mpr c3
  have Sr:((l0.length:Int) != (l1.length:Int))=true:=bne_iff_ne.mpr c3
  have DC:(l0.length == l1.length)=false:=by first|simpa using c3|(simp at c3 ⊢;omega)
  obtain rfl:=Option.some.inj H
  go_enter Try.func20,Try.ntmps20
  go_wp2
  repeat (go_quiet (fail);try go_wp2)
  go_ret
  exact ⟨by first|rfl|(simp;done)|(simp [*];done),by repeat (first|exact uc.refl _|apply uc.step)⟩
def Oj.f (Pc:Int) (Ma:Int) (Oa:Int) (Pa:Int) (nc:Int) (Od:Int) (Nd:ByteArray) (qc:Int) (Fb:Int) (Ob:Int) (Rb:Int) (Qc:Int) (Td:Int) (He:ByteArray):Option (Bool):=if Pc=qc then (if Ma=Fb then (if Oa=Ob then (if Pa=Rb then (if nc=Qc then (if Od=Td then (if Nd.toList=He.toList then (some true) else (some false)) else (some false)) else (some false)) else (some false)) else (some false)) else (some false)) else (some false)
set_option maxHeartbeats 8000000 in
set_option maxRecDepth 100000 in
theorem Oj.calls (Pc:Int) (Ma:Int) (Oa:Int) (Pa:Int) (nc:Int) (Od:Int) (Nd:ByteArray) (qc:Int) (Fb:Int) (Ob:Int) (Rb:Int) (Qc:Int) (Td:Int) (He:ByteArray) (r:Bool) (w:World) (h:Oj.f Pc Ma Oa Pa nc Od Nd qc Fb Ob Rb Qc Td He=some r) :
  Calls Try.prog 137 #[.agg #[.int .i64 Pc,.int .i64 Ma,.int .i64 Oa,.int .i64 Pa,.int .i64 nc,.int .i64 Od,.string Nd],.agg #[.int .i64 qc,.int .i64 Fb,.int .i64 Ob,.int .i64 Rb,.int .i64 Qc,.int .i64 Td,.string He]] w fun e w'=>e = .returned (.bool r)∧Below w.heap.size w w':=by
 have YB:=Try.underlying70
 have HB:=ja.mk (Below.refl w.heap.size w)
 have H:(if Pc=qc then (if Ma=Fb then (if Oa=Ob then (if Pa=Rb then (if nc=Qc then (if Od=Td then (if Nd.toList=He.toList then (some true) else (some false)) else (some false)) else (some false)) else (some false)) else (some false)) else (some false)) else (some false))=some r:=h
 clear h
 by_cases c3:Pc=qc
 ·rw [if_pos c3] at H
  have Zh:(Pc == qc)=true:=beq_iff_eq.mpr c3
  have Sr:(Pc != qc)=false:=bne_eq_false_iff_eq.mpr c3
  clear c3
  by_cases c4:Ma=Fb
  ·rw [if_pos c4] at H
   have Gi:(Ma == Fb)=true:=beq_iff_eq.mpr c4
   have CC:(Ma != Fb)=false:=bne_eq_false_iff_eq.mpr c4
   clear c4
   by_cases c5:Oa=Ob
   ·rw [if_pos c5] at H
    have Il:(Oa == Ob)=true:=beq_iff_eq.mpr c5
    have Bq:(Oa != Ob)=false:=bne_eq_false_iff_eq.mpr c5
    clear c5
    by_cases c6:Pa=Rb
    ·rw [if_pos c6] at H
     have cm:(Pa == Rb)=true:=beq_iff_eq.mpr c6
     have av:(Pa != Rb)=false:=bne_eq_false_iff_eq.mpr c6
     clear c6
     by_cases c7:nc=Qc
     ·rw [if_pos c7] at H
      have bp:(nc == Qc)=true:=beq_iff_eq.mpr c7
      have Zu:(nc != Qc)=false:=bne_eq_false_iff_eq.mpr c7
      clear c7
      by_cases c8:Od=Td
      ·rw [if_pos c8] at H
       have Ll:(Od == Td)=true:=beq_iff_eq.mpr c8
       have mq:(Od != Td)=false:=bne_eq_false_iff_eq.mpr c8
       clear c8
       by_cases c9:Nd.toList=He.toList
       ·rw [if_pos c9] at H
        have xy:(Nd.toList == He.toList)=true:=beq_iff_eq.mpr c9
        have mB:(Nd.toList != He.toList)=false:=bne_eq_false_iff_eq.mpr c9
        clear c9
        obtain rfl:=Option.some.inj H
        go_enter Try.func137,Try.ntmps137
        go_wp2_with (first|((with_reducible refine Kb (N:=2) rfl ?_);refine Eb ?hg (N:=2) ?hd (cs:=#[.int .i64 Pc,.int .i64 Ma,.int .i64 Oa,.int .i64 Pa,.int .i64 nc,.int .i64 Od,.string Nd]) (t:=70) ?hr ?_;(case hd=>rfl);(case hg=>rfl);(case hr=>first|(go_simp;done)|(go_simp;rfl));intro Ea hg Hq Tb hb;have Gb:=ja.mk (Qa (by repeat (first|(with_reducible first|exact HB.out|apply qa|apply ia|apply ua)|exact HB.out)) hb);have Vb:=ja.mk (Tb);have Ac:=ja.mk ((by rw [hg];exact (Ra (by repeat (first|(with_reducible first|exact HB.out|apply qa|apply ia|apply ua)|exact HB.out))):w.heap.size ≤ Ea));have ud:=ja.mk ((by rw [hg];exact (Ra (by repeat (first|(with_reducible first|exact HB.out|apply qa|apply ia|apply ua)|exact HB.out))):w.heap.size ≤ Ea));clear HB;have HB:=Gb;have za:=Vb;have Be:=Ac;have Wa:=ud;clear Gb Vb Ac ud;clear hb Tb hg)|((with_reducible refine Kb (N:=3) rfl ?_);refine Eb ?hg (N:=3) ?hd (cs:=#[.int .i64 qc,.int .i64 Fb,.int .i64 Ob,.int .i64 Rb,.int .i64 Qc,.int .i64 Td,.string He]) (t:=70) ?hr ?_;(case hd=>rfl);(case hg=>rfl);(case hr=>first|(go_simp;done)|(go_simp;rfl));intro Fa hg sj Tb hb;have Gb:=ja.mk (gb (g:=Ea) (o:=.cells #[.int .i64 Pc,.int .i64 Ma,.int .i64 Oa,.int .i64 Pa,.int .i64 nc,.int .i64 Od,.string Nd] 70 (0,0)) (by (with_reducible repeat (first|refine Da ?_ _|refine Ga ?_|refine Ca ?_ _));exact za.out) hb);have Vb:=ja.mk (Qa (by repeat (first|(with_reducible first|exact HB.out|apply qa|apply ia|apply ua|refine Aa ?_ Wa.out)|exact HB.out)) hb);have Ac:=ja.mk (Tb);have ud:=ja.mk ((by rw [hg];exact (Ra (by repeat (first|(with_reducible first|exact HB.out|apply qa|apply ia|apply ua|refine Aa ?_ Wa.out)|exact HB.out))):w.heap.size ≤ Fa));have ef:=ja.mk ((by rw [hg];exact (Ra (by repeat (first|(with_reducible first|exact HB.out|apply qa|apply ia|apply ua|refine Aa ?_ Wa.out)|exact HB.out))):w.heap.size ≤ Fa));have Ag:=ja.mk ((by rw [hg];exact Nat.ne_of_lt (Lc (g:=Ea) (o:=.cells #[.int .i64 Pc,.int .i64 Ma,.int .i64 Oa,.int .i64 Pa,.int .i64 nc,.int .i64 Od,.string Nd] 70 (0,0)) (by (with_reducible repeat (first|refine Da ?_ _|refine Ga ?_|refine Ca ?_ _));exact za.out)):Ea ≠ Fa));have dh:=ja.mk ((by rw [hg];exact Nat.ne_of_gt (Lc (g:=Ea) (o:=.cells #[.int .i64 Pc,.int .i64 Ma,.int .i64 Oa,.int .i64 Pa,.int .i64 nc,.int .i64 Od,.string Nd] 70 (0,0)) (by (with_reducible repeat (first|refine Da ?_ _|refine Ga ?_|refine Ca ?_ _));exact za.out)):Fa ≠ Ea));clear za;clear HB;have za:=Gb;have HB:=Vb;have Ba:=Ac;have Df:=ud;have Sb:=ef;have Ua:=Ag;have jb:=dh;clear Gb Vb Ac ud ef Ag dh;clear hb Tb hg;have aK:=Ua.out;have YJ:=jb.out;have aj:sj.cell? ⟨Ea,0,none⟩=some (.int .i64 Pc):=(ga za.out 0).trans rfl;have Zi:sj.cell? ⟨Ea,1,none⟩=some (.int .i64 Ma):=(ga za.out 1).trans rfl;have Vl:sj.cell? ⟨Ea,2,none⟩=some (.int .i64 Oa):=(ga za.out 2).trans rfl;have Ul:sj.cell? ⟨Ea,3,none⟩=some (.int .i64 Pa):=(ga za.out 3).trans rfl;have Tl:sj.cell? ⟨Ea,4,none⟩=some (.int .i64 nc):=(ga za.out 4).trans rfl;have lQ:sj.cell? ⟨Ea,5,none⟩=some (.int .i64 Od):=(ga za.out 5).trans rfl;have kQ:sj.cell? ⟨Ea,6,none⟩=some (.string Nd):=(ga za.out 6).trans rfl;have Yi:=aa za.out 0;have Xi:=aa za.out 1;have Sl:=aa za.out 2;have Rl:=aa za.out 3;have Ql:=aa za.out 4;have nO:=aa za.out 5;have mO:=aa za.out 6;have uo:sj.cell? ⟨Fa,0,none⟩=some (.int .i64 qc):=(ga Ba.out 0).trans rfl;have qo:sj.cell? ⟨Fa,1,none⟩=some (.int .i64 Fb):=(ga Ba.out 1).trans rfl;have Zp:sj.cell? ⟨Fa,2,none⟩=some (.int .i64 Ob):=(ga Ba.out 2).trans rfl;have Yp:sj.cell? ⟨Fa,3,none⟩=some (.int .i64 Rb):=(ga Ba.out 3).trans rfl;have Xp:sj.cell? ⟨Fa,4,none⟩=some (.int .i64 Qc):=(ga Ba.out 4).trans rfl;have gae:sj.cell? ⟨Fa,5,none⟩=some (.int .i64 Td):=(ga Ba.out 5).trans rfl;have fae:sj.cell? ⟨Fa,6,none⟩=some (.string He):=(ga Ba.out 6).trans rfl;have jo:=aa Ba.out 0;have fo:=aa Ba.out 1;have Ip:=aa Ba.out 2;have Hp:=aa Ba.out 3;have Gp:=aa Ba.out 4;have Taa:=aa Ba.out 5;have Saa:=aa Ba.out 6))
        go_ret
        exact ⟨by first|rfl|(simp [La,Ka] <;> rfl)|(simp [*,La,Ka] <;> rfl),by repeat (first|(with_reducible first|exact HB.out|apply qa|apply ia|apply ua|refine Aa ?_ Wa.out|refine Aa ?_ Sb.out)|exact HB.out)⟩
       ·rw [if_neg c9] at H
        have xy:(Nd.toList == He.toList)=false:=beq_eq_false_iff_ne.mpr c9
        have mB:(Nd.toList != He.toList)=true:=bne_iff_ne.mpr c9
        obtain rfl:=Option.some.inj H
        go_enter Try.func137,Try.ntmps137
        go_wp2_with (first|((with_reducible refine Kb (N:=2) rfl ?_);refine Eb ?hg (N:=2) ?hd (cs:=#[.int .i64 Pc,.int .i64 Ma,.int .i64 Oa,.int .i64 Pa,.int .i64 nc,.int .i64 Od,.string Nd]) (t:=70) ?hr ?_;(case hd=>rfl);(case hg=>rfl);(case hr=>first|(go_simp;done)|(go_simp;rfl));intro Ea hg Nk Tb hb;have Gb:=ja.mk (Qa (by repeat (first|(with_reducible first|exact HB.out|apply qa|apply ia|apply ua)|exact HB.out)) hb);have Vb:=ja.mk (Tb);have Ac:=ja.mk ((by rw [hg];exact (Ra (by repeat (first|(with_reducible first|exact HB.out|apply qa|apply ia|apply ua)|exact HB.out))):w.heap.size ≤ Ea));have ud:=ja.mk ((by rw [hg];exact (Ra (by repeat (first|(with_reducible first|exact HB.out|apply qa|apply ia|apply ua)|exact HB.out))):w.heap.size ≤ Ea));clear HB;have HB:=Gb;have za:=Vb;have Be:=Ac;have Wa:=ud;clear Gb Vb Ac ud;clear hb Tb hg)|((with_reducible refine Kb (N:=3) rfl ?_);refine Eb ?hg (N:=3) ?hd (cs:=#[.int .i64 qc,.int .i64 Fb,.int .i64 Ob,.int .i64 Rb,.int .i64 Qc,.int .i64 Td,.string He]) (t:=70) ?hr ?_;(case hd=>rfl);(case hg=>rfl);(case hr=>first|(go_simp;done)|(go_simp;rfl));intro Fa hg az Tb hb;have Gb:=ja.mk (gb (g:=Ea) (o:=.cells #[.int .i64 Pc,.int .i64 Ma,.int .i64 Oa,.int .i64 Pa,.int .i64 nc,.int .i64 Od,.string Nd] 70 (0,0)) (by (with_reducible repeat (first|refine Da ?_ _|refine Ga ?_|refine Ca ?_ _));exact za.out) hb);have Vb:=ja.mk (Qa (by repeat (first|(with_reducible first|exact HB.out|apply qa|apply ia|apply ua|refine Aa ?_ Wa.out)|exact HB.out)) hb);have Ac:=ja.mk (Tb);have ud:=ja.mk ((by rw [hg];exact (Ra (by repeat (first|(with_reducible first|exact HB.out|apply qa|apply ia|apply ua|refine Aa ?_ Wa.out)|exact HB.out))):w.heap.size ≤ Fa));have ef:=ja.mk ((by rw [hg];exact (Ra (by repeat (first|(with_reducible first|exact HB.out|apply qa|apply ia|apply ua|refine Aa ?_ Wa.out)|exact HB.out))):w.heap.size ≤ Fa));have Ag:=ja.mk ((by rw [hg];exact Nat.ne_of_lt (Lc (g:=Ea) (o:=.cells #[.int .i64 Pc,.int .i64 Ma,.int .i64 Oa,.int .i64 Pa,.int .i64 nc,.int .i64 Od,.string Nd] 70 (0,0)) (by (with_reducible repeat (first|refine Da ?_ _|refine Ga ?_|refine Ca ?_ _));exact za.out)):Ea ≠ Fa));have dh:=ja.mk ((by rw [hg];exact Nat.ne_of_gt (Lc (g:=Ea) (o:=.cells #[.int .i64 Pc,.int .i64 Ma,.int .i64 Oa,.int .i64 Pa,.int .i64 nc,.int .i64 Od,.string Nd] 70 (0,0)) (by (with_reducible repeat (first|refine Da ?_ _|refine Ga ?_|refine Ca ?_ _));exact za.out)):Fa ≠ Ea));clear za;clear HB;have za:=Gb;have HB:=Vb;have Ba:=Ac;have Df:=ud;have Sb:=ef;have Ua:=Ag;have jb:=dh;clear Gb Vb Ac ud ef Ag dh;clear hb Tb hg;have Jaj:=Ua.out;have Wai:=jb.out;have Dr:az.cell? ⟨Ea,0,none⟩=some (.int .i64 Pc):=(ga za.out 0).trans rfl;have Cr:az.cell? ⟨Ea,1,none⟩=some (.int .i64 Ma):=(ga za.out 1).trans rfl;have Br:az.cell? ⟨Ea,2,none⟩=some (.int .i64 Oa):=(ga za.out 2).trans rfl;have Ar:az.cell? ⟨Ea,3,none⟩=some (.int .i64 Pa):=(ga za.out 3).trans rfl;have vr:az.cell? ⟨Ea,4,none⟩=some (.int .i64 nc):=(ga za.out 4).trans rfl;have eae:az.cell? ⟨Ea,5,none⟩=some (.int .i64 Od):=(ga za.out 5).trans rfl;have dae:az.cell? ⟨Ea,6,none⟩=some (.string Nd):=(ga za.out 6).trans rfl;have cr:=aa za.out 0;have br:=aa za.out 1;have Zq:=aa za.out 2;have Yq:=aa za.out 3;have Xq:=aa za.out 4;have Raa:=aa za.out 5;have Qaa:=aa za.out 6;have jQ:az.cell? ⟨Fa,0,none⟩=some (.int .i64 qc):=(ga Ba.out 0).trans rfl;have iQ:az.cell? ⟨Fa,1,none⟩=some (.int .i64 Fb):=(ga Ba.out 1).trans rfl;have gQ:az.cell? ⟨Fa,2,none⟩=some (.int .i64 Ob):=(ga Ba.out 2).trans rfl;have fQ:az.cell? ⟨Fa,3,none⟩=some (.int .i64 Rb):=(ga Ba.out 3).trans rfl;have dQ:az.cell? ⟨Fa,4,none⟩=some (.int .i64 Qc):=(ga Ba.out 4).trans rfl;have cae:az.cell? ⟨Fa,5,none⟩=some (.int .i64 Td):=(ga Ba.out 5).trans rfl;have bae:az.cell? ⟨Fa,6,none⟩=some (.string He):=(ga Ba.out 6).trans rfl;have lO:=aa Ba.out 0;have kO:=aa Ba.out 1;have jO:=aa Ba.out 2;have iO:=aa Ba.out 3;have hO:=aa Ba.out 4;have Paa:=aa Ba.out 5;have Oaa:=aa Ba.out 6))
        go_ret
        exact ⟨by first|rfl|(simp [La,Ka] <;> rfl)|(simp [*,La,Ka] <;> rfl),by repeat (first|(with_reducible first|exact HB.out|apply qa|apply ia|apply ua|refine Aa ?_ Wa.out|refine Aa ?_ Sb.out)|exact HB.out)⟩
      ·rw [if_neg c8] at H
       have Ll:(Od == Td)=false:=beq_eq_false_iff_ne.mpr c8
       have mq:(Od != Td)=true:=bne_iff_ne.mpr c8
       obtain rfl:=Option.some.inj H
       go_enter Try.func137,Try.ntmps137
       go_wp2_with (first|((with_reducible refine Kb (N:=2) rfl ?_);refine Eb ?hg (N:=2) ?hd (cs:=#[.int .i64 Pc,.int .i64 Ma,.int .i64 Oa,.int .i64 Pa,.int .i64 nc,.int .i64 Od,.string Nd]) (t:=70) ?hr ?_;(case hd=>rfl);(case hg=>rfl);(case hr=>first|(go_simp;done)|(go_simp;rfl));intro Ea hg w20 Tb hb;have Gb:=ja.mk (Qa (by repeat (first|(with_reducible first|exact HB.out|apply qa|apply ia|apply ua)|exact HB.out)) hb);have Vb:=ja.mk (Tb);have Ac:=ja.mk ((by rw [hg];exact (Ra (by repeat (first|(with_reducible first|exact HB.out|apply qa|apply ia|apply ua)|exact HB.out))):w.heap.size ≤ Ea));have ud:=ja.mk ((by rw [hg];exact (Ra (by repeat (first|(with_reducible first|exact HB.out|apply qa|apply ia|apply ua)|exact HB.out))):w.heap.size ≤ Ea));clear HB;have HB:=Gb;have za:=Vb;have Be:=Ac;have Wa:=ud;clear Gb Vb Ac ud;clear hb Tb hg)|((with_reducible refine Kb (N:=3) rfl ?_);refine Eb ?hg (N:=3) ?hd (cs:=#[.int .i64 qc,.int .i64 Fb,.int .i64 Ob,.int .i64 Rb,.int .i64 Qc,.int .i64 Td,.string He]) (t:=70) ?hr ?_;(case hd=>rfl);(case hg=>rfl);(case hr=>first|(go_simp;done)|(go_simp;rfl));intro Fa hg qq Tb hb;have Gb:=ja.mk (gb (g:=Ea) (o:=.cells #[.int .i64 Pc,.int .i64 Ma,.int .i64 Oa,.int .i64 Pa,.int .i64 nc,.int .i64 Od,.string Nd] 70 (0,0)) (by (with_reducible repeat (first|refine Da ?_ _|refine Ga ?_|refine Ca ?_ _));exact za.out) hb);have Vb:=ja.mk (Qa (by repeat (first|(with_reducible first|exact HB.out|apply qa|apply ia|apply ua|refine Aa ?_ Wa.out)|exact HB.out)) hb);have Ac:=ja.mk (Tb);have ud:=ja.mk ((by rw [hg];exact (Ra (by repeat (first|(with_reducible first|exact HB.out|apply qa|apply ia|apply ua|refine Aa ?_ Wa.out)|exact HB.out))):w.heap.size ≤ Fa));have ef:=ja.mk ((by rw [hg];exact (Ra (by repeat (first|(with_reducible first|exact HB.out|apply qa|apply ia|apply ua|refine Aa ?_ Wa.out)|exact HB.out))):w.heap.size ≤ Fa));have Ag:=ja.mk ((by rw [hg];exact Nat.ne_of_lt (Lc (g:=Ea) (o:=.cells #[.int .i64 Pc,.int .i64 Ma,.int .i64 Oa,.int .i64 Pa,.int .i64 nc,.int .i64 Od,.string Nd] 70 (0,0)) (by (with_reducible repeat (first|refine Da ?_ _|refine Ga ?_|refine Ca ?_ _));exact za.out)):Ea ≠ Fa));have dh:=ja.mk ((by rw [hg];exact Nat.ne_of_gt (Lc (g:=Ea) (o:=.cells #[.int .i64 Pc,.int .i64 Ma,.int .i64 Oa,.int .i64 Pa,.int .i64 nc,.int .i64 Od,.string Nd] 70 (0,0)) (by (with_reducible repeat (first|refine Da ?_ _|refine Ga ?_|refine Ca ?_ _));exact za.out)):Fa ≠ Ea));clear za;clear HB;have za:=Gb;have HB:=Vb;have Ba:=Ac;have Df:=ud;have Sb:=ef;have Ua:=Ag;have jb:=dh;clear Gb Vb Ac ud ef Ag dh;clear hb Tb hg;have kR:=Ua.out;have eR:=jb.out;have Ak:qq.cell? ⟨Ea,0,none⟩=some (.int .i64 Pc):=(ga za.out 0).trans rfl;have zk:qq.cell? ⟨Ea,1,none⟩=some (.int .i64 Ma):=(ga za.out 1).trans rfl;have oo:qq.cell? ⟨Ea,2,none⟩=some (.int .i64 Oa):=(ga za.out 2).trans rfl;have mo:qq.cell? ⟨Ea,3,none⟩=some (.int .i64 Pa):=(ga za.out 3).trans rfl;have ko:qq.cell? ⟨Ea,4,none⟩=some (.int .i64 nc):=(ga za.out 4).trans rfl;have Xad:qq.cell? ⟨Ea,5,none⟩=some (.int .i64 Od):=(ga za.out 5).trans rfl;have Wad:qq.cell? ⟨Ea,6,none⟩=some (.string Nd):=(ga za.out 6).trans rfl;have nk:=aa za.out 0;have jk:=aa za.out 1;have Zn:=aa za.out 2;have Yn:=aa za.out 3;have Xn:=aa za.out 4;have Kaa:=aa za.out 5;have Jaa:=aa za.out 6;have kn:qq.cell? ⟨Fa,0,none⟩=some (.int .i64 qc):=(ga Ba.out 0).trans rfl;have jn:qq.cell? ⟨Fa,1,none⟩=some (.int .i64 Fb):=(ga Ba.out 1).trans rfl;have qu:qq.cell? ⟨Fa,2,none⟩=some (.int .i64 Ob):=(ga Ba.out 2).trans rfl;have ou:qq.cell? ⟨Fa,3,none⟩=some (.int .i64 Rb):=(ga Ba.out 3).trans rfl;have nu:qq.cell? ⟨Fa,4,none⟩=some (.int .i64 Qc):=(ga Ba.out 4).trans rfl;have Vad:qq.cell? ⟨Fa,5,none⟩=some (.int .i64 Td):=(ga Ba.out 5).trans rfl;have Uad:qq.cell? ⟨Fa,6,none⟩=some (.string He):=(ga Ba.out 6).trans rfl;have cn:=aa Ba.out 0;have bn:=aa Ba.out 1;have Ot:=aa Ba.out 2;have Nt:=aa Ba.out 3;have Mt:=aa Ba.out 4;have Iaa:=aa Ba.out 5;have Haa:=aa Ba.out 6))
       go_ret
       exact ⟨by first|rfl|(simp [La,Ka] <;> rfl)|(simp [*,La,Ka] <;> rfl),by repeat (first|(with_reducible first|exact HB.out|apply qa|apply ia|apply ua|refine Aa ?_ Wa.out|refine Aa ?_ Sb.out)|exact HB.out)⟩
     ·rw [if_neg c7] at H
      have bp:(nc == Qc)=false:=beq_eq_false_iff_ne.mpr c7
      have Zu:(nc != Qc)=true:=bne_iff_ne.mpr c7
      obtain rfl:=Option.some.inj H
      go_enter Try.func137,Try.ntmps137
      go_wp2_with (first|((with_reducible refine Kb (N:=2) rfl ?_);refine Eb ?hg (N:=2) ?hd (cs:=#[.int .i64 Pc,.int .i64 Ma,.int .i64 Oa,.int .i64 Pa,.int .i64 nc,.int .i64 Od,.string Nd]) (t:=70) ?hr ?_;(case hd=>rfl);(case hg=>rfl);(case hr=>first|(go_simp;done)|(go_simp;rfl));intro Ea hg SV Tb hb;have Gb:=ja.mk (Qa (by repeat (first|(with_reducible first|exact HB.out|apply qa|apply ia|apply ua)|exact HB.out)) hb);have Vb:=ja.mk (Tb);have Ac:=ja.mk ((by rw [hg];exact (Ra (by repeat (first|(with_reducible first|exact HB.out|apply qa|apply ia|apply ua)|exact HB.out))):w.heap.size ≤ Ea));have ud:=ja.mk ((by rw [hg];exact (Ra (by repeat (first|(with_reducible first|exact HB.out|apply qa|apply ia|apply ua)|exact HB.out))):w.heap.size ≤ Ea));clear HB;have HB:=Gb;have za:=Vb;have Be:=Ac;have Wa:=ud;clear Gb Vb Ac ud;clear hb Tb hg)|((with_reducible refine Kb (N:=3) rfl ?_);refine Eb ?hg (N:=3) ?hd (cs:=#[.int .i64 qc,.int .i64 Fb,.int .i64 Ob,.int .i64 Rb,.int .i64 Qc,.int .i64 Td,.string He]) (t:=70) ?hr ?_;(case hd=>rfl);(case hg=>rfl);(case hr=>first|(go_simp;done)|(go_simp;rfl));intro Fa hg Rn Tb hb;have Gb:=ja.mk (gb (g:=Ea) (o:=.cells #[.int .i64 Pc,.int .i64 Ma,.int .i64 Oa,.int .i64 Pa,.int .i64 nc,.int .i64 Od,.string Nd] 70 (0,0)) (by (with_reducible repeat (first|refine Da ?_ _|refine Ga ?_|refine Ca ?_ _));exact za.out) hb);have Vb:=ja.mk (Qa (by repeat (first|(with_reducible first|exact HB.out|apply qa|apply ia|apply ua|refine Aa ?_ Wa.out)|exact HB.out)) hb);have Ac:=ja.mk (Tb);have ud:=ja.mk ((by rw [hg];exact (Ra (by repeat (first|(with_reducible first|exact HB.out|apply qa|apply ia|apply ua|refine Aa ?_ Wa.out)|exact HB.out))):w.heap.size ≤ Fa));have ef:=ja.mk ((by rw [hg];exact (Ra (by repeat (first|(with_reducible first|exact HB.out|apply qa|apply ia|apply ua|refine Aa ?_ Wa.out)|exact HB.out))):w.heap.size ≤ Fa));have Ag:=ja.mk ((by rw [hg];exact Nat.ne_of_lt (Lc (g:=Ea) (o:=.cells #[.int .i64 Pc,.int .i64 Ma,.int .i64 Oa,.int .i64 Pa,.int .i64 nc,.int .i64 Od,.string Nd] 70 (0,0)) (by (with_reducible repeat (first|refine Da ?_ _|refine Ga ?_|refine Ca ?_ _));exact za.out)):Ea ≠ Fa));have dh:=ja.mk ((by rw [hg];exact Nat.ne_of_gt (Lc (g:=Ea) (o:=.cells #[.int .i64 Pc,.int .i64 Ma,.int .i64 Oa,.int .i64 Pa,.int .i64 nc,.int .i64 Od,.string Nd] 70 (0,0)) (by (with_reducible repeat (first|refine Da ?_ _|refine Ga ?_|refine Ca ?_ _));exact za.out)):Fa ≠ Ea));clear za;clear HB;have za:=Gb;have HB:=Vb;have Ba:=Ac;have Df:=ud;have Sb:=ef;have Ua:=Ag;have jb:=dh;clear Gb Vb Ac ud ef Ag dh;clear hb Tb hg;have jR:=Ua.out;have dR:=jb.out;have XP:Rn.cell? ⟨Ea,0,none⟩=some (.int .i64 Pc):=(ga za.out 0).trans rfl;have VP:Rn.cell? ⟨Ea,1,none⟩=some (.int .i64 Ma):=(ga za.out 1).trans rfl;have TP:Rn.cell? ⟨Ea,2,none⟩=some (.int .i64 Oa):=(ga za.out 2).trans rfl;have SP:Rn.cell? ⟨Ea,3,none⟩=some (.int .i64 Pa):=(ga za.out 3).trans rfl;have RP:Rn.cell? ⟨Ea,4,none⟩=some (.int .i64 nc):=(ga za.out 4).trans rfl;have Tad:Rn.cell? ⟨Ea,5,none⟩=some (.int .i64 Od):=(ga za.out 5).trans rfl;have Sad:Rn.cell? ⟨Ea,6,none⟩=some (.string Nd):=(ga za.out 6).trans rfl;have bO:=aa za.out 0;have ZN:=aa za.out 1;have YN:=aa za.out 2;have XN:=aa za.out 3;have WN:=aa za.out 4;have Gaa:=aa za.out 5;have Faa:=aa za.out 6;have Wp:Rn.cell? ⟨Fa,0,none⟩=some (.int .i64 qc):=(ga Ba.out 0).trans rfl;have Vp:Rn.cell? ⟨Fa,1,none⟩=some (.int .i64 Fb):=(ga Ba.out 1).trans rfl;have vH:Rn.cell? ⟨Fa,2,none⟩=some (.int .i64 Ob):=(ga Ba.out 2).trans rfl;have uH:Rn.cell? ⟨Fa,3,none⟩=some (.int .i64 Rb):=(ga Ba.out 3).trans rfl;have tH:Rn.cell? ⟨Fa,4,none⟩=some (.int .i64 Qc):=(ga Ba.out 4).trans rfl;have Rad:Rn.cell? ⟨Fa,5,none⟩=some (.int .i64 Td):=(ga Ba.out 5).trans rfl;have Qad:Rn.cell? ⟨Fa,6,none⟩=some (.string He):=(ga Ba.out 6).trans rfl;have Fp:=aa Ba.out 0;have Ep:=aa Ba.out 1;have eG:=aa Ba.out 2;have dG:=aa Ba.out 3;have cG:=aa Ba.out 4;have Eaa:=aa Ba.out 5;have Daa:=aa Ba.out 6))
      go_ret
      exact ⟨by first|rfl|(simp [La,Ka] <;> rfl)|(simp [*,La,Ka] <;> rfl),by repeat (first|(with_reducible first|exact HB.out|apply qa|apply ia|apply ua|refine Aa ?_ Wa.out|refine Aa ?_ Sb.out)|exact HB.out)⟩
    ·rw [if_neg c6] at H
     have cm:(Pa == Rb)=false:=beq_eq_false_iff_ne.mpr c6
     have av:(Pa != Rb)=true:=bne_iff_ne.mpr c6
     obtain rfl:=Option.some.inj H
     go_enter Try.func137,Try.ntmps137
     go_wp2_with (first|((with_reducible refine Kb (N:=2) rfl ?_);refine Eb ?hg (N:=2) ?hd (cs:=#[.int .i64 Pc,.int .i64 Ma,.int .i64 Oa,.int .i64 Pa,.int .i64 nc,.int .i64 Od,.string Nd]) (t:=70) ?hr ?_;(case hd=>rfl);(case hg=>rfl);(case hr=>first|(go_simp;done)|(go_simp;rfl));intro Ea hg Mu Tb hb;have Gb:=ja.mk (Qa (by repeat (first|(with_reducible first|exact HB.out|apply qa|apply ia|apply ua)|exact HB.out)) hb);have Vb:=ja.mk (Tb);have Ac:=ja.mk ((by rw [hg];exact (Ra (by repeat (first|(with_reducible first|exact HB.out|apply qa|apply ia|apply ua)|exact HB.out))):w.heap.size ≤ Ea));have ud:=ja.mk ((by rw [hg];exact (Ra (by repeat (first|(with_reducible first|exact HB.out|apply qa|apply ia|apply ua)|exact HB.out))):w.heap.size ≤ Ea));clear HB;have HB:=Gb;have za:=Vb;have Be:=Ac;have Wa:=ud;clear Gb Vb Ac ud;clear hb Tb hg)|((with_reducible refine Kb (N:=3) rfl ?_);refine Eb ?hg (N:=3) ?hd (cs:=#[.int .i64 qc,.int .i64 Fb,.int .i64 Ob,.int .i64 Rb,.int .i64 Qc,.int .i64 Td,.string He]) (t:=70) ?hr ?_;(case hd=>rfl);(case hg=>rfl);(case hr=>first|(go_simp;done)|(go_simp;rfl));intro Fa hg HE Tb hb;have Gb:=ja.mk (gb (g:=Ea) (o:=.cells #[.int .i64 Pc,.int .i64 Ma,.int .i64 Oa,.int .i64 Pa,.int .i64 nc,.int .i64 Od,.string Nd] 70 (0,0)) (by (with_reducible repeat (first|refine Da ?_ _|refine Ga ?_|refine Ca ?_ _));exact za.out) hb);have Vb:=ja.mk (Qa (by repeat (first|(with_reducible first|exact HB.out|apply qa|apply ia|apply ua|refine Aa ?_ Wa.out)|exact HB.out)) hb);have Ac:=ja.mk (Tb);have ud:=ja.mk ((by rw [hg];exact (Ra (by repeat (first|(with_reducible first|exact HB.out|apply qa|apply ia|apply ua|refine Aa ?_ Wa.out)|exact HB.out))):w.heap.size ≤ Fa));have ef:=ja.mk ((by rw [hg];exact (Ra (by repeat (first|(with_reducible first|exact HB.out|apply qa|apply ia|apply ua|refine Aa ?_ Wa.out)|exact HB.out))):w.heap.size ≤ Fa));have Ag:=ja.mk ((by rw [hg];exact Nat.ne_of_lt (Lc (g:=Ea) (o:=.cells #[.int .i64 Pc,.int .i64 Ma,.int .i64 Oa,.int .i64 Pa,.int .i64 nc,.int .i64 Od,.string Nd] 70 (0,0)) (by (with_reducible repeat (first|refine Da ?_ _|refine Ga ?_|refine Ca ?_ _));exact za.out)):Ea ≠ Fa));have dh:=ja.mk ((by rw [hg];exact Nat.ne_of_gt (Lc (g:=Ea) (o:=.cells #[.int .i64 Pc,.int .i64 Ma,.int .i64 Oa,.int .i64 Pa,.int .i64 nc,.int .i64 Od,.string Nd] 70 (0,0)) (by (with_reducible repeat (first|refine Da ?_ _|refine Ga ?_|refine Ca ?_ _));exact za.out)):Fa ≠ Ea));clear za;clear HB;have za:=Gb;have HB:=Vb;have Ba:=Ac;have Df:=ud;have Sb:=ef;have Ua:=Ag;have jb:=dh;clear Gb Vb Ac ud ef Ag dh;clear hb Tb hg;have bX:=Ua.out;have JW:=jb.out;have Xw:HE.cell? ⟨Ea,0,none⟩=some (.int .i64 Pc):=(ga za.out 0).trans rfl;have Ww:HE.cell? ⟨Ea,1,none⟩=some (.int .i64 Ma):=(ga za.out 1).trans rfl;have Nad:HE.cell? ⟨Ea,2,none⟩=some (.int .i64 Oa):=(ga za.out 2).trans rfl;have Mad:HE.cell? ⟨Ea,3,none⟩=some (.int .i64 Pa):=(ga za.out 3).trans rfl;have Lad:HE.cell? ⟨Ea,4,none⟩=some (.int .i64 nc):=(ga za.out 4).trans rfl;have Kad:HE.cell? ⟨Ea,5,none⟩=some (.int .i64 Od):=(ga za.out 5).trans rfl;have Jad:HE.cell? ⟨Ea,6,none⟩=some (.string Nd):=(ga za.out 6).trans rfl;have tw:=aa za.out 0;have sw:=aa za.out 1;have Aaa:=aa za.out 2;have zaa:=aa za.out 3;have yaa:=aa za.out 4;have xaa:=aa za.out 5;have waa:=aa za.out 6;have sH:HE.cell? ⟨Fa,0,none⟩=some (.int .i64 qc):=(ga Ba.out 0).trans rfl;have rH:HE.cell? ⟨Fa,1,none⟩=some (.int .i64 Fb):=(ga Ba.out 1).trans rfl;have qH:HE.cell? ⟨Fa,2,none⟩=some (.int .i64 Ob):=(ga Ba.out 2).trans rfl;have pH:HE.cell? ⟨Fa,3,none⟩=some (.int .i64 Rb):=(ga Ba.out 3).trans rfl;have oH:HE.cell? ⟨Fa,4,none⟩=some (.int .i64 Qc):=(ga Ba.out 4).trans rfl;have nH:HE.cell? ⟨Fa,5,none⟩=some (.int .i64 Td):=(ga Ba.out 5).trans rfl;have mH:HE.cell? ⟨Fa,6,none⟩=some (.string He):=(ga Ba.out 6).trans rfl;have bG:=aa Ba.out 0;have aG:=aa Ba.out 1;have ZF:=aa Ba.out 2;have YF:=aa Ba.out 3;have XF:=aa Ba.out 4;have VF:=aa Ba.out 5;have UF:=aa Ba.out 6))
     go_ret
     exact ⟨by first|rfl|(simp [La,Ka] <;> rfl)|(simp [*,La,Ka] <;> rfl),by repeat (first|(with_reducible first|exact HB.out|apply qa|apply ia|apply ua|refine Aa ?_ Wa.out|refine Aa ?_ Sb.out)|exact HB.out)⟩
   ·rw [if_neg c5] at H
    have Il:(Oa == Ob)=false:=beq_eq_false_iff_ne.mpr c5
    have Bq:(Oa != Ob)=true:=bne_iff_ne.mpr c5
    obtain rfl:=Option.some.inj H
    go_enter Try.func137,Try.ntmps137
    go_wp2_with (first|((with_reducible refine Kb (N:=2) rfl ?_);refine Eb ?hg (N:=2) ?hd (cs:=#[.int .i64 Pc,.int .i64 Ma,.int .i64 Oa,.int .i64 Pa,.int .i64 nc,.int .i64 Od,.string Nd]) (t:=70) ?hr ?_;(case hd=>rfl);(case hg=>rfl);(case hr=>first|(go_simp;done)|(go_simp;rfl));intro Ea hg w35 Tb hb;have Gb:=ja.mk (Qa (by repeat (first|(with_reducible first|exact HB.out|apply qa|apply ia|apply ua)|exact HB.out)) hb);have Vb:=ja.mk (Tb);have Ac:=ja.mk ((by rw [hg];exact (Ra (by repeat (first|(with_reducible first|exact HB.out|apply qa|apply ia|apply ua)|exact HB.out))):w.heap.size ≤ Ea));have ud:=ja.mk ((by rw [hg];exact (Ra (by repeat (first|(with_reducible first|exact HB.out|apply qa|apply ia|apply ua)|exact HB.out))):w.heap.size ≤ Ea));clear HB;have HB:=Gb;have za:=Vb;have Be:=Ac;have Wa:=ud;clear Gb Vb Ac ud;clear hb Tb hg)|((with_reducible refine Kb (N:=3) rfl ?_);refine Eb ?hg (N:=3) ?hd (cs:=#[.int .i64 qc,.int .i64 Fb,.int .i64 Ob,.int .i64 Rb,.int .i64 Qc,.int .i64 Td,.string He]) (t:=70) ?hr ?_;(case hd=>rfl);(case hg=>rfl);(case hr=>first|(go_simp;done)|(go_simp;rfl));intro Fa hg aD Tb hb;have Gb:=ja.mk (gb (g:=Ea) (o:=.cells #[.int .i64 Pc,.int .i64 Ma,.int .i64 Oa,.int .i64 Pa,.int .i64 nc,.int .i64 Od,.string Nd] 70 (0,0)) (by (with_reducible repeat (first|refine Da ?_ _|refine Ga ?_|refine Ca ?_ _));exact za.out) hb);have Vb:=ja.mk (Qa (by repeat (first|(with_reducible first|exact HB.out|apply qa|apply ia|apply ua|refine Aa ?_ Wa.out)|exact HB.out)) hb);have Ac:=ja.mk (Tb);have ud:=ja.mk ((by rw [hg];exact (Ra (by repeat (first|(with_reducible first|exact HB.out|apply qa|apply ia|apply ua|refine Aa ?_ Wa.out)|exact HB.out))):w.heap.size ≤ Fa));have ef:=ja.mk ((by rw [hg];exact (Ra (by repeat (first|(with_reducible first|exact HB.out|apply qa|apply ia|apply ua|refine Aa ?_ Wa.out)|exact HB.out))):w.heap.size ≤ Fa));have Ag:=ja.mk ((by rw [hg];exact Nat.ne_of_lt (Lc (g:=Ea) (o:=.cells #[.int .i64 Pc,.int .i64 Ma,.int .i64 Oa,.int .i64 Pa,.int .i64 nc,.int .i64 Od,.string Nd] 70 (0,0)) (by (with_reducible repeat (first|refine Da ?_ _|refine Ga ?_|refine Ca ?_ _));exact za.out)):Ea ≠ Fa));have dh:=ja.mk ((by rw [hg];exact Nat.ne_of_gt (Lc (g:=Ea) (o:=.cells #[.int .i64 Pc,.int .i64 Ma,.int .i64 Oa,.int .i64 Pa,.int .i64 nc,.int .i64 Od,.string Nd] 70 (0,0)) (by (with_reducible repeat (first|refine Da ?_ _|refine Ga ?_|refine Ca ?_ _));exact za.out)):Fa ≠ Ea));clear za;clear HB;have za:=Gb;have HB:=Vb;have Ba:=Ac;have Df:=ud;have Sb:=ef;have Ua:=Ag;have jb:=dh;clear Gb Vb Ac ud ef Ag dh;clear hb Tb hg;have YW:=Ua.out;have FW:=jb.out;have UA:aD.cell? ⟨Ea,0,none⟩=some (.int .i64 Pc):=(ga za.out 0).trans rfl;have TA:aD.cell? ⟨Ea,1,none⟩=some (.int .i64 Ma):=(ga za.out 1).trans rfl;have SA:aD.cell? ⟨Ea,2,none⟩=some (.int .i64 Oa):=(ga za.out 2).trans rfl;have RA:aD.cell? ⟨Ea,3,none⟩=some (.int .i64 Pa):=(ga za.out 3).trans rfl;have QA:aD.cell? ⟨Ea,4,none⟩=some (.int .i64 nc):=(ga za.out 4).trans rfl;have eH:aD.cell? ⟨Ea,5,none⟩=some (.int .i64 Od):=(ga za.out 5).trans rfl;have dH:aD.cell? ⟨Ea,6,none⟩=some (.string Nd):=(ga za.out 6).trans rfl;have tA:=aa za.out 0;have sA:=aa za.out 1;have rA:=aa za.out 2;have qA:=aa za.out 3;have oA:=aa za.out 4;have LF:=aa za.out 5;have KF:=aa za.out 6;have cH:aD.cell? ⟨Fa,0,none⟩=some (.int .i64 qc):=(ga Ba.out 0).trans rfl;have bH:aD.cell? ⟨Fa,1,none⟩=some (.int .i64 Fb):=(ga Ba.out 1).trans rfl;have aH:aD.cell? ⟨Fa,2,none⟩=some (.int .i64 Ob):=(ga Ba.out 2).trans rfl;have ZG:aD.cell? ⟨Fa,3,none⟩=some (.int .i64 Rb):=(ga Ba.out 3).trans rfl;have YG:aD.cell? ⟨Fa,4,none⟩=some (.int .i64 Qc):=(ga Ba.out 4).trans rfl;have Gad:aD.cell? ⟨Fa,5,none⟩=some (.int .i64 Td):=(ga Ba.out 5).trans rfl;have Fad:aD.cell? ⟨Fa,6,none⟩=some (.string He):=(ga Ba.out 6).trans rfl;have JF:=aa Ba.out 0;have GF:=aa Ba.out 1;have FF:=aa Ba.out 2;have EF:=aa Ba.out 3;have DF:=aa Ba.out 4;have taa:=aa Ba.out 5;have saa:=aa Ba.out 6))
    go_ret
    exact ⟨by first|rfl|(simp [La,Ka] <;> rfl)|(simp [*,La,Ka] <;> rfl),by repeat (first|(with_reducible first|exact HB.out|apply qa|apply ia|apply ua|refine Aa ?_ Wa.out|refine Aa ?_ Sb.out)|exact HB.out)⟩
  ·rw [if_neg c4] at H
   have Gi:(Ma == Fb)=false:=beq_eq_false_iff_ne.mpr c4
   have CC:(Ma != Fb)=true:=bne_iff_ne.mpr c4
   obtain rfl:=Option.some.inj H
   go_enter Try.func137,Try.ntmps137
   go_wp2_with (first|((with_reducible refine Kb (N:=2) rfl ?_);refine Eb ?hg (N:=2) ?hd (cs:=#[.int .i64 Pc,.int .i64 Ma,.int .i64 Oa,.int .i64 Pa,.int .i64 nc,.int .i64 Od,.string Nd]) (t:=70) ?hr ?_;(case hd=>rfl);(case hg=>rfl);(case hr=>first|(go_simp;done)|(go_simp;rfl));intro Ea hg w40 Tb hb;have Gb:=ja.mk (Qa (by repeat (first|(with_reducible first|exact HB.out|apply qa|apply ia|apply ua)|exact HB.out)) hb);have Vb:=ja.mk (Tb);have Ac:=ja.mk ((by rw [hg];exact (Ra (by repeat (first|(with_reducible first|exact HB.out|apply qa|apply ia|apply ua)|exact HB.out))):w.heap.size ≤ Ea));have ud:=ja.mk ((by rw [hg];exact (Ra (by repeat (first|(with_reducible first|exact HB.out|apply qa|apply ia|apply ua)|exact HB.out))):w.heap.size ≤ Ea));clear HB;have HB:=Gb;have za:=Vb;have Be:=Ac;have Wa:=ud;clear Gb Vb Ac ud;clear hb Tb hg)|((with_reducible refine Kb (N:=3) rfl ?_);refine Eb ?hg (N:=3) ?hd (cs:=#[.int .i64 qc,.int .i64 Fb,.int .i64 Ob,.int .i64 Rb,.int .i64 Qc,.int .i64 Td,.string He]) (t:=70) ?hr ?_;(case hd=>rfl);(case hg=>rfl);(case hr=>first|(go_simp;done)|(go_simp;rfl));intro Fa hg ZC Tb hb;have Gb:=ja.mk (gb (g:=Ea) (o:=.cells #[.int .i64 Pc,.int .i64 Ma,.int .i64 Oa,.int .i64 Pa,.int .i64 nc,.int .i64 Od,.string Nd] 70 (0,0)) (by (with_reducible repeat (first|refine Da ?_ _|refine Ga ?_|refine Ca ?_ _));exact za.out) hb);have Vb:=ja.mk (Qa (by repeat (first|(with_reducible first|exact HB.out|apply qa|apply ia|apply ua|refine Aa ?_ Wa.out)|exact HB.out)) hb);have Ac:=ja.mk (Tb);have ud:=ja.mk ((by rw [hg];exact (Ra (by repeat (first|(with_reducible first|exact HB.out|apply qa|apply ia|apply ua|refine Aa ?_ Wa.out)|exact HB.out))):w.heap.size ≤ Fa));have ef:=ja.mk ((by rw [hg];exact (Ra (by repeat (first|(with_reducible first|exact HB.out|apply qa|apply ia|apply ua|refine Aa ?_ Wa.out)|exact HB.out))):w.heap.size ≤ Fa));have Ag:=ja.mk ((by rw [hg];exact Nat.ne_of_lt (Lc (g:=Ea) (o:=.cells #[.int .i64 Pc,.int .i64 Ma,.int .i64 Oa,.int .i64 Pa,.int .i64 nc,.int .i64 Od,.string Nd] 70 (0,0)) (by (with_reducible repeat (first|refine Da ?_ _|refine Ga ?_|refine Ca ?_ _));exact za.out)):Ea ≠ Fa));have dh:=ja.mk ((by rw [hg];exact Nat.ne_of_gt (Lc (g:=Ea) (o:=.cells #[.int .i64 Pc,.int .i64 Ma,.int .i64 Oa,.int .i64 Pa,.int .i64 nc,.int .i64 Od,.string Nd] 70 (0,0)) (by (with_reducible repeat (first|refine Da ?_ _|refine Ga ?_|refine Ca ?_ _));exact za.out)):Fa ≠ Ea));clear za;clear HB;have za:=Gb;have HB:=Vb;have Ba:=Ac;have Df:=ud;have Sb:=ef;have Ua:=Ag;have jb:=dh;clear Gb Vb Ac ud ef Ag dh;clear hb Tb hg;have zaj:=Ua.out;have Mai:=jb.out;have uP:ZC.cell? ⟨Ea,0,none⟩=some (.int .i64 Pc):=(ga za.out 0).trans rfl;have tP:ZC.cell? ⟨Ea,1,none⟩=some (.int .i64 Ma):=(ga za.out 1).trans rfl;have sP:ZC.cell? ⟨Ea,2,none⟩=some (.int .i64 Oa):=(ga za.out 2).trans rfl;have rP:ZC.cell? ⟨Ea,3,none⟩=some (.int .i64 Pa):=(ga za.out 3).trans rfl;have qP:ZC.cell? ⟨Ea,4,none⟩=some (.int .i64 nc):=(ga za.out 4).trans rfl;have Ead:ZC.cell? ⟨Ea,5,none⟩=some (.int .i64 Od):=(ga za.out 5).trans rfl;have Dad:ZC.cell? ⟨Ea,6,none⟩=some (.string Nd):=(ga za.out 6).trans rfl;have zN:=aa za.out 0;have yN:=aa za.out 1;have xN:=aa za.out 2;have wN:=aa za.out 3;have vN:=aa za.out 4;have raa:=aa za.out 5;have qaa:=aa za.out 6;have pP:ZC.cell? ⟨Fa,0,none⟩=some (.int .i64 qc):=(ga Ba.out 0).trans rfl;have oP:ZC.cell? ⟨Fa,1,none⟩=some (.int .i64 Fb):=(ga Ba.out 1).trans rfl;have nP:ZC.cell? ⟨Fa,2,none⟩=some (.int .i64 Ob):=(ga Ba.out 2).trans rfl;have mP:ZC.cell? ⟨Fa,3,none⟩=some (.int .i64 Rb):=(ga Ba.out 3).trans rfl;have lP:ZC.cell? ⟨Fa,4,none⟩=some (.int .i64 Qc):=(ga Ba.out 4).trans rfl;have Cad:ZC.cell? ⟨Fa,5,none⟩=some (.int .i64 Td):=(ga Ba.out 5).trans rfl;have Bad:ZC.cell? ⟨Fa,6,none⟩=some (.string He):=(ga Ba.out 6).trans rfl;have uN:=aa Ba.out 0;have tN:=aa Ba.out 1;have sN:=aa Ba.out 2;have rN:=aa Ba.out 3;have qN:=aa Ba.out 4;have paa:=aa Ba.out 5;have oaa:=aa Ba.out 6))
   go_ret
   exact ⟨by first|rfl|(simp [La,Ka] <;> rfl)|(simp [*,La,Ka] <;> rfl),by repeat (first|(with_reducible first|exact HB.out|apply qa|apply ia|apply ua|refine Aa ?_ Wa.out|refine Aa ?_ Sb.out)|exact HB.out)⟩
 ·rw [if_neg c3] at H
  have Zh:(Pc == qc)=false:=beq_eq_false_iff_ne.mpr c3
  have Sr:(Pc != qc)=true:=bne_iff_ne.mpr c3
  obtain rfl:=Option.some.inj H
  go_enter Try.func137,Try.ntmps137
  go_wp2_with (first|((with_reducible refine Kb (N:=2) rfl ?_);refine Eb ?hg (N:=2) ?hd (cs:=#[.int .i64 Pc,.int .i64 Ma,.int .i64 Oa,.int .i64 Pa,.int .i64 nc,.int .i64 Od,.string Nd]) (t:=70) ?hr ?_;(case hd=>rfl);(case hg=>rfl);(case hr=>first|(go_simp;done)|(go_simp;rfl));intro Ea hg w45 Tb hb;have Gb:=ja.mk (Qa (by repeat (first|(with_reducible first|exact HB.out|apply qa|apply ia|apply ua)|exact HB.out)) hb);have Vb:=ja.mk (Tb);have Ac:=ja.mk ((by rw [hg];exact (Ra (by repeat (first|(with_reducible first|exact HB.out|apply qa|apply ia|apply ua)|exact HB.out))):w.heap.size ≤ Ea));have ud:=ja.mk ((by rw [hg];exact (Ra (by repeat (first|(with_reducible first|exact HB.out|apply qa|apply ia|apply ua)|exact HB.out))):w.heap.size ≤ Ea));clear HB;have HB:=Gb;have za:=Vb;have Be:=Ac;have Wa:=ud;clear Gb Vb Ac ud;clear hb Tb hg)|((with_reducible refine Kb (N:=3) rfl ?_);refine Eb ?hg (N:=3) ?hd (cs:=#[.int .i64 qc,.int .i64 Fb,.int .i64 Ob,.int .i64 Rb,.int .i64 Qc,.int .i64 Td,.string He]) (t:=70) ?hr ?_;(case hd=>rfl);(case hg=>rfl);(case hr=>first|(go_simp;done)|(go_simp;rfl));intro Fa hg Sv Tb hb;have Gb:=ja.mk (gb (g:=Ea) (o:=.cells #[.int .i64 Pc,.int .i64 Ma,.int .i64 Oa,.int .i64 Pa,.int .i64 nc,.int .i64 Od,.string Nd] 70 (0,0)) (by (with_reducible repeat (first|refine Da ?_ _|refine Ga ?_|refine Ca ?_ _));exact za.out) hb);have Vb:=ja.mk (Qa (by repeat (first|(with_reducible first|exact HB.out|apply qa|apply ia|apply ua|refine Aa ?_ Wa.out)|exact HB.out)) hb);have Ac:=ja.mk (Tb);have ud:=ja.mk ((by rw [hg];exact (Ra (by repeat (first|(with_reducible first|exact HB.out|apply qa|apply ia|apply ua|refine Aa ?_ Wa.out)|exact HB.out))):w.heap.size ≤ Fa));have ef:=ja.mk ((by rw [hg];exact (Ra (by repeat (first|(with_reducible first|exact HB.out|apply qa|apply ia|apply ua|refine Aa ?_ Wa.out)|exact HB.out))):w.heap.size ≤ Fa));have Ag:=ja.mk ((by rw [hg];exact Nat.ne_of_lt (Lc (g:=Ea) (o:=.cells #[.int .i64 Pc,.int .i64 Ma,.int .i64 Oa,.int .i64 Pa,.int .i64 nc,.int .i64 Od,.string Nd] 70 (0,0)) (by (with_reducible repeat (first|refine Da ?_ _|refine Ga ?_|refine Ca ?_ _));exact za.out)):Ea ≠ Fa));have dh:=ja.mk ((by rw [hg];exact Nat.ne_of_gt (Lc (g:=Ea) (o:=.cells #[.int .i64 Pc,.int .i64 Ma,.int .i64 Oa,.int .i64 Pa,.int .i64 nc,.int .i64 Od,.string Nd] 70 (0,0)) (by (with_reducible repeat (first|refine Da ?_ _|refine Ga ?_|refine Ca ?_ _));exact za.out)):Fa ≠ Ea));clear za;clear HB;have za:=Gb;have HB:=Vb;have Ba:=Ac;have Df:=ud;have Sb:=ef;have Ua:=Ag;have jb:=dh;clear Gb Vb Ac ud ef Ag dh;clear hb Tb hg;have fR:=Ua.out;have aR:=jb.out;have cu:Sv.cell? ⟨Ea,0,none⟩=some (.int .i64 Pc):=(ga za.out 0).trans rfl;have bu:Sv.cell? ⟨Ea,1,none⟩=some (.int .i64 Ma):=(ga za.out 1).trans rfl;have PA:Sv.cell? ⟨Ea,2,none⟩=some (.int .i64 Oa):=(ga za.out 2).trans rfl;have OA:Sv.cell? ⟨Ea,3,none⟩=some (.int .i64 Pa):=(ga za.out 3).trans rfl;have NA:Sv.cell? ⟨Ea,4,none⟩=some (.int .i64 nc):=(ga za.out 4).trans rfl;have kP:Sv.cell? ⟨Ea,5,none⟩=some (.int .i64 Od):=(ga za.out 5).trans rfl;have jP:Sv.cell? ⟨Ea,6,none⟩=some (.string Nd):=(ga za.out 6).trans rfl;have Dt:=aa za.out 0;have Ct:=aa za.out 1;have nA:=aa za.out 2;have mA:=aa za.out 3;have lA:=aa za.out 4;have pN:=aa za.out 5;have oN:=aa za.out 6;have iP:Sv.cell? ⟨Fa,0,none⟩=some (.int .i64 qc):=(ga Ba.out 0).trans rfl;have gP:Sv.cell? ⟨Fa,1,none⟩=some (.int .i64 Fb):=(ga Ba.out 1).trans rfl;have fP:Sv.cell? ⟨Fa,2,none⟩=some (.int .i64 Ob):=(ga Ba.out 2).trans rfl;have eP:Sv.cell? ⟨Fa,3,none⟩=some (.int .i64 Rb):=(ga Ba.out 3).trans rfl;have dP:Sv.cell? ⟨Fa,4,none⟩=some (.int .i64 Qc):=(ga Ba.out 4).trans rfl;have uad:Sv.cell? ⟨Fa,5,none⟩=some (.int .i64 Td):=(ga Ba.out 5).trans rfl;have tad:Sv.cell? ⟨Fa,6,none⟩=some (.string He):=(ga Ba.out 6).trans rfl;have nN:=aa Ba.out 0;have mN:=aa Ba.out 1;have lN:=aa Ba.out 2;have kN:=aa Ba.out 3;have jN:=aa Ba.out 4;have haa:=aa Ba.out 5;have gaa:=aa Ba.out 6))
  go_ret
  exact ⟨by first|rfl|(simp [La,Ka] <;> rfl)|(simp [*,La,Ka] <;> rfl),by repeat (first|(with_reducible first|exact HB.out|apply qa|apply ia|apply ua|refine Aa ?_ Wa.out|refine Aa ?_ Sb.out)|exact HB.out)⟩
def Nb.l0:Nat→List (Bf)→List (Bf)→Int→Option (Bool)
 | 0,_,_,_=>none
 | k + 1,x0,x1,x5=>if x5 < (x0.length:Int) then (if 0 ≤ x5 then (if x5 < (x1.length:Int) then ((Oj.f ((Ja x0 x5).f0) ((Ja x0 x5).f1) ((Ja x0 x5).f2) ((Ja x0 x5).f3) ((Ja x0 x5).f4) ((Ja x0 x5).f5) ((Ja x0 x5).f6) ((Ja x1 x5).f0) ((Ja x1 x5).f1) ((Ja x1 x5).f2) ((Ja x1 x5).f3) ((Ja x1 x5).f4) ((Ja x1 x5).f5) ((Ja x1 x5).f6)).bind fun t103=>(if t103=true then (Nb.l0 k x0 x1 (wrap64 (x5 + 1))) else (some false))) else (none)) else (none)) else (some true)
def Nb.f (k:Nat) (l0:List (Bf)) (l1:List (Bf)):Option (Bool):=if (l0.length:Int)=(l1.length:Int) then (Nb.l0 k l0 l1 0) else (some false)
theorem Nb.Sd:∀ k,(∀ y0 y1 y2,Lb (Nb.l0 k y0 y1 y2) (Nb.l0 (k + 1) y0 y1 y2))
 | 0=>fun _ _ _ r h=>by simp [Nb.l0] at h
 | k + 1=>by
  have Ff:=Nb.Sd k
  ·intro y0 y1 y2
   unfold Nb.l0
   repeat' first
   | (with_reducible exact Ff _ _ _)
   | (with_reducible exact Lb.refl _)
   | (with_reducible exact Lb.none _)
   | (with_reducible refine Lb.ite ?_ ?_)
   | (with_reducible refine Lb.bind ?_ (fun _=>?_))
   | exact Ff _ _ _
   | exact Lb.none _
   | refine Lb.ite ?_ ?_
   | refine Lb.bind ?_ (fun _=>?_)
theorem Nb.mono:∀ a0 a1 k,Lb (Nb.f k a0 a1) (Nb.f (k + 1) a0 a1):=by
 intro a0 a1 k
 have Ff:=Nb.Sd k
 unfold Nb.f
 repeat' first
   | (with_reducible exact Ff _ _ _)
   | (with_reducible exact Lb.refl _)
   | (with_reducible exact Lb.none _)
   | (with_reducible refine Lb.ite ?_ ?_)
   | (with_reducible refine Lb.bind ?_ (fun _=>?_))
   | exact Ff _ _ _
   | exact Lb.none _
   | refine Lb.ite ?_ ?_
   | refine Lb.bind ?_ (fun _=>?_)
def Nb.T6:Bool × List (List Nat × List Nat):=(true,[([],[]),([],[]),([0,1],[0,1]),([2],[2]),([],[]),([],[]),([4,5],[4,5]),([6],[6]),([3,7],[3,7]),([8],[8])])
def Nb.B6:List Nat:=[0,0,3,7,0,0,48,112,255,511]
theorem Nb.kJ:Xl .any (opsOf Try.f120 6)=Nb.T6:=by kernel_rfl
theorem Nb.IC:Ml Nb.T6.2 Nb.B6=true:=by kernel_rfl
set_option maxHeartbeats 8000000 in
set_option maxRecDepth 100000 in
theorem Nb.calls (k:Nat) (A0:Option Addr) (c0:Nat) (l0:List (Bf)) (A1:Option Addr) (c1:Nat) (l1:List (Bf)) (r:Bool) (w:World) (hr0:Kd.C Ij w A0 l0.length l0) (hc0:l0.length ≤ c0) (aC:Kd.C Ij w A1 l1.length l1) (VL:l1.length ≤ c1) (h:Nb.f k l0 l1=some r) :
  Calls Try.prog 120 #[.slice A0 l0.length c0,.slice A1 l1.length c1] w fun e w'=>e = .returned (.bool r)∧Below w.heap.size w w':=by
 have YB:=Try.underlying70
 have Gh:=ja.mk hr0
 have dw:=ja.mk hc0
 clear hr0 hc0
 have bJ:=ja.mk aC
 have OV:=ja.mk VL
 clear aC VL
 have HB:=ja.mk (Below.refl w.heap.size w)
 have H:(if (l0.length:Int)=(l1.length:Int) then (Nb.l0 k l0 l1 0) else (some false))=some r:=h
 clear h
 by_cases c3:(l0.length:Int)=(l1.length:Int)
 ·rw [if_pos c3] at H
  have Zh:((l0.length:Int) == (l1.length:Int))=true:=beq_iff_eq.mpr c3
  have Sr:((l0.length:Int) != (l1.length:Int))=false:=bne_eq_false_iff_eq.mpr c3
  have DC:(l0.length == l1.length)=true:=by first|simpa using c3|(simp at c3 ⊢;omega)
  clear c3
  have H':=ja.mk H
  clear H
  go_enter Try.func120,Try.ntmps120
  go_wp2
  go_loopg [5] k (fun kq v5 w'=>∃ (Ia:Int),v5 = .int .i64 Ia∧ja (Nb.l0 kq l0 l1 Ia=some r)∧ja (kq ≤ k)∧ja (Below w.heap.size w w'))
  case atStart=>exact ⟨(0),(by first|rfl|(simp;done)|(simp [*];done)),H',⟨Nat.le_refl _⟩,⟨by repeat (first|(with_reducible first|exact HB.out|apply qa|apply ia|apply ua)|exact HB.out)⟩⟩
  case round =>
   clear H'
   try clear c1
   try clear p2
   try clear c3
   try clear Zh
   try clear Sr
   try clear DC
   (try clear HA)
   (try clear Yg)
   (try clear HB)
   obtain ⟨Ia,rfl,HA,Yg,HB⟩:=hrel
   cases gk with
   | zero=>exact absurd HA.out (by simp [Nb.l0])
   | succ k1 =>
    have H:=HA.out
    clear HA
    simp only [Nb.l0] at H
    by_cases c4:Ia < (l0.length:Int)
    ·rw [if_pos c4] at H
     have Gi:decide (Ia < (l0.length:Int))=true:=decide_eq_true c4
     clear c4
     by_cases c5:0 ≤ Ia
     ·rw [if_pos c5] at H
      have Il:decide (0 ≤ Ia)=true:=decide_eq_true c5
      clear c5
      by_cases c6:Ia < (l1.length:Int)
      ·rw [if_pos c6] at H
       have cm:decide (Ia < (l1.length:Int))=true:=decide_eq_true c6
       clear c6
       replace H:=Option.bind_eq_some_iff.mp H
       obtain ⟨t103,AB,H⟩:=H
       replace H:(if t103=true then (Nb.l0 k1 l0 l1 (wrap64 (Ia + 1))) else (some false))=some r:=H
       have A7:=ja.mk AB
       clear AB
       by_cases c8:t103=true
       ·subst c8
        have H1:(Nb.l0 k1 l0 l1 (wrap64 (Ia + 1)))=some r:=by rw [if_pos rfl] at H;exact H
        clear H
        have H:=H1
        clear H1
        have H':=ja.mk H
        clear H
        try go_wp2
        have Gb:=ja.mk (ua HB.out)
        clear HB
        have HB:=Gb
        clear Gb
        have Je:0 ≤ (Ia:Int):=of_decide_eq_true (by first|(with_reducible assumption)|assumption)
        have Ie:Ia < (l0.length:Int):=of_decide_eq_true (by first|(with_reducible assumption)|assumption)
        obtain ⟨Gc,Tg,Ub,ic,fc,dc,Zb,ze,ye⟩:=tf Gh.out Ia Je Ie
        have Xm:=ye
        have Ym:=ze
        have Nh:=Zb
        have Oh:=dc
        have Ph:=fc
        have Qh:=ic
        have Rh:=Ub
        cases Tg
        replace Ub:=(HB.out.cell (World.block_lt_of_cell? w _ Ub)).trans Ub
        replace ic:=(HB.out.cell (World.block_lt_of_cell? w _ ic)).trans ic
        replace fc:=(HB.out.cell (World.block_lt_of_cell? w _ fc)).trans fc
        replace dc:=(HB.out.cell (World.block_lt_of_cell? w _ dc)).trans dc
        replace Zb:=(HB.out.cell (World.block_lt_of_cell? w _ Zb)).trans Zb
        replace ze:=(HB.out.cell (World.block_lt_of_cell? w _ ze)).trans ze
        replace ye:=(HB.out.cell (World.block_lt_of_cell? w _ ye)).trans ye
        replace Je:=eq_true Je
        replace Ie:=eq_true Ie
        have Gg:0 ≤ (Ia:Int):=of_decide_eq_true (by first|(with_reducible assumption)|assumption)
        have Fg:Ia < (l1.length:Int):=of_decide_eq_true (by first|(with_reducible assumption)|assumption)
        obtain ⟨bf,Fl,Ed,ee,xe,we,ue,Ze,Ye⟩:=tf bJ.out Ia Gg Fg
        have Vm:=Ye
        have Wm:=Ze
        have Ih:=ue
        have Jh:=we
        have Kh:=xe
        have Lh:=ee
        have Mh:=Ed
        cases Fl
        replace Ed:=(HB.out.cell (World.block_lt_of_cell? w _ Ed)).trans Ed
        replace ee:=(HB.out.cell (World.block_lt_of_cell? w _ ee)).trans ee
        replace xe:=(HB.out.cell (World.block_lt_of_cell? w _ xe)).trans xe
        replace we:=(HB.out.cell (World.block_lt_of_cell? w _ we)).trans we
        replace ue:=(HB.out.cell (World.block_lt_of_cell? w _ ue)).trans ue
        replace Ze:=(HB.out.cell (World.block_lt_of_cell? w _ Ze)).trans Ze
        replace Ye:=(HB.out.cell (World.block_lt_of_cell? w _ Ye)).trans Ye
        replace Gg:=eq_true Gg
        replace Fg:=eq_true Fg
        refine Xj (n:=10) (S:=fun w'=>w'.cell? (Gc.add ((Ia).toNat * 7))=some (.int .i64 ((Ja l0 Ia).f0))∧w'.cell? ⟨(Gc.add ((Ia).toNat * 7)).block,(Gc.add ((Ia).toNat * 7)).off + 1,none⟩=some (.int .i64 ((Ja l0 Ia).f1))∧w'.cell? ⟨(Gc.add ((Ia).toNat * 7)).block,(Gc.add ((Ia).toNat * 7)).off + 2,none⟩=some (.int .i64 ((Ja l0 Ia).f2))∧w'.cell? ⟨(Gc.add ((Ia).toNat * 7)).block,(Gc.add ((Ia).toNat * 7)).off + 3,none⟩=some (.int .i64 ((Ja l0 Ia).f3))∧w'.cell? ⟨(Gc.add ((Ia).toNat * 7)).block,(Gc.add ((Ia).toNat * 7)).off + 4,none⟩=some (.int .i64 ((Ja l0 Ia).f4))∧w'.cell? ⟨(Gc.add ((Ia).toNat * 7)).block,(Gc.add ((Ia).toNat * 7)).off + 5,none⟩=some (.int .i64 ((Ja l0 Ia).f5))∧w'.cell? ⟨(Gc.add ((Ia).toNat * 7)).block,(Gc.add ((Ia).toNat * 7)).off + 6,none⟩=some (.string ((Ja l0 Ia).f6))∧w'.cell? (bf.add ((Ia).toNat * 7))=some (.int .i64 ((Ja l1 Ia).f0))∧w'.cell? ⟨(bf.add ((Ia).toNat * 7)).block,(bf.add ((Ia).toNat * 7)).off + 1,none⟩=some (.int .i64 ((Ja l1 Ia).f1))∧w'.cell? ⟨(bf.add ((Ia).toNat * 7)).block,(bf.add ((Ia).toNat * 7)).off + 2,none⟩=some (.int .i64 ((Ja l1 Ia).f2))∧w'.cell? ⟨(bf.add ((Ia).toNat * 7)).block,(bf.add ((Ia).toNat * 7)).off + 3,none⟩=some (.int .i64 ((Ja l1 Ia).f3))∧w'.cell? ⟨(bf.add ((Ia).toNat * 7)).block,(bf.add ((Ia).toNat * 7)).off + 4,none⟩=some (.int .i64 ((Ja l1 Ia).f4))∧w'.cell? ⟨(bf.add ((Ia).toNat * 7)).block,(bf.add ((Ia).toNat * 7)).off + 5,none⟩=some (.int .i64 ((Ja l1 Ia).f5))∧w'.cell? ⟨(bf.add ((Ia).toNat * 7)).block,(bf.add ((Ia).toNat * 7)).off + 6,none⟩=some (.string ((Ja l1 Ia).f6))) (ds:=[]) #[false,false,false,false,false,false,false,false,false,false] (by kernel_rfl) rfl rfl ⟨((HB.out.cell (World.block_lt_of_cell? w _ Rh)).trans Rh),((HB.out.cell (World.block_lt_of_cell? w _ Qh)).trans Qh),((HB.out.cell (World.block_lt_of_cell? w _ Ph)).trans Ph),((HB.out.cell (World.block_lt_of_cell? w _ Oh)).trans Oh),((HB.out.cell (World.block_lt_of_cell? w _ Nh)).trans Nh),((HB.out.cell (World.block_lt_of_cell? w _ Ym)).trans Ym),((HB.out.cell (World.block_lt_of_cell? w _ Xm)).trans Xm),((HB.out.cell (World.block_lt_of_cell? w _ Mh)).trans Mh),((HB.out.cell (World.block_lt_of_cell? w _ Lh)).trans Lh),((HB.out.cell (World.block_lt_of_cell? w _ Kh)).trans Kh),((HB.out.cell (World.block_lt_of_cell? w _ Jh)).trans Jh),((HB.out.cell (World.block_lt_of_cell? w _ Ih)).trans Ih),((HB.out.cell (World.block_lt_of_cell? w _ Wm)).trans Wm),((HB.out.cell (World.block_lt_of_cell? w _ Vm)).trans Vm)⟩ (fun hHeld=>?_);refine Uh Nb.kJ Nb.IC (fun Cf yo=>?_)
        generalize wr.drew=w9 at HB Ub ic fc dc Zb ze ye Ed ee xe we ue Ze Ye hHeld ⊢
        refine qd (i:=0) (N:=some 17) (v:=?_) (a':=?_) #[true,false,false,false,false,false,false,false,false,false] rfl rfl (Oc Cf.out (by kernel_rfl)) (fun _ _ _ h=>h) (Or.inl ⟨by rfl,?_⟩) ?_ ?_
        rotate_left
        ·intro w'
         go_simp
         with_reducible rfl
        rotate_left
        ·simp only [Act.put,List.setIfInBounds_toArray,List.set_cons_zero,List.set_cons_succ,Ib,Jb]
         rfl
        refine qd (i:=1) (N:=some 18) (v:=?_) (a':=?_) #[true,true,false,false,false,false,false,false,false,false] rfl rfl (Oc Cf.out (by kernel_rfl)) (fun _ _ _ h=>h) (Or.inl ⟨by rfl,?_⟩) ?_ ?_
        rotate_left
        ·intro w'
         go_simp
         with_reducible rfl
        rotate_left
        ·simp only [Act.put,List.setIfInBounds_toArray,List.set_cons_zero,List.set_cons_succ,Ib,Jb]
         rfl
        refine qd (i:=2) (N:=some 19) (v:=?_) (a':=?_) #[true,true,true,false,false,false,false,false,false,false] rfl rfl (Oc Cf.out (by kernel_rfl)) (fun _ _ _ h=>h) (Or.inl ⟨by rfl,?_⟩) ?_ ?_
        rotate_left
        ·intro w'
         go_simp
         with_reducible rfl
        rotate_left
        ·simp only [Act.put,List.setIfInBounds_toArray,List.set_cons_zero,List.set_cons_succ,Ib,Jb]
         rfl
        refine qd (i:=4) (N:=some 21) (v:=?_) (a':=?_) #[true,true,true,false,true,false,false,false,false,false] rfl rfl (Oc Cf.out (by kernel_rfl)) (fun _ _ _ h=>h) (Or.inl ⟨by rfl,?_⟩) ?_ ?_
        rotate_left
        ·intro w'
         go_simp
         with_reducible rfl
        rotate_left
        ·simp only [Act.put,List.setIfInBounds_toArray,List.set_cons_zero,List.set_cons_succ,Ib,Jb]
         rfl
        refine qd (i:=5) (N:=some 22) (v:=?_) (a':=?_) #[true,true,true,false,true,true,false,false,false,false] rfl rfl (Oc Cf.out (by kernel_rfl)) (fun _ _ _ h=>h) (Or.inl ⟨by rfl,?_⟩) ?_ ?_
        rotate_left
        ·intro w'
         go_simp
         with_reducible rfl
        rotate_left
        ·simp only [Act.put,List.setIfInBounds_toArray,List.set_cons_zero,List.set_cons_succ,Ib,Jb]
         rfl
        refine qd (i:=6) (N:=some 23) (v:=?_) (a':=?_) #[true,true,true,false,true,true,true,false,false,false] rfl rfl (Oc Cf.out (by kernel_rfl)) (fun _ _ _ h=>h) (Or.inl ⟨by rfl,?_⟩) ?_ ?_
        rotate_left
        ·intro w'
         go_simp
         with_reducible rfl
        rotate_left
        ·simp only [Act.put,List.setIfInBounds_toArray,List.set_cons_zero,List.set_cons_succ,Ib,Jb]
         rfl
        refine sg (i:=3) (N:=some 20) (v:=?_) (a':=?_) #[true,true,true,true,true,true,true,false,false,false] rfl rfl (af Cf.out yo.out (by kernel_rfl)) (fun _ _ _ h=>h) (Or.inl ⟨by rfl,?_⟩) hHeld ?_ ?_
        rotate_left
        ·rintro w' ⟨s0,s1,s2,s3,s4,s5,s6,s7,s8,s9,Rz,oM,nM,mM⟩
         go_simp
         with_reducible rfl
        rotate_left
        ·simp only [Act.put,List.setIfInBounds_toArray,List.set_cons_zero,List.set_cons_succ,Ib,Jb]
         rfl
        refine sg (i:=7) (N:=some 24) (v:=?_) (a':=?_) #[true,true,true,true,true,true,true,true,false,false] rfl rfl (af Cf.out yo.out (by kernel_rfl)) (fun _ _ _ h=>h) (Or.inl ⟨by rfl,?_⟩) hHeld ?_ ?_
        rotate_left
        ·rintro w' ⟨s0,s1,s2,s3,s4,s5,s6,s7,s8,s9,Rz,oM,nM,mM⟩
         go_simp
         with_reducible rfl
        rotate_left
        ·simp only [Act.put,List.setIfInBounds_toArray,List.set_cons_zero,List.set_cons_succ,Ib,Jb]
         rfl
        refine Vo (i:=8) (N:=some 25) #[true,true,true,true,true,true,true,true,true,false] rfl rfl (Pk Cf.out (by kernel_rfl)) (by decide) (fun K hK=>?_)
        refine Kn Try.func137 (by kernel_rfl) rfl #[.agg #[.int .i64 ((Ja l0 Ia).f0),.int .i64 ((Ja l0 Ia).f1),.int .i64 ((Ja l0 Ia).f2),.int .i64 ((Ja l0 Ia).f3),.int .i64 ((Ja l0 Ia).f4),.int .i64 ((Ja l0 Ia).f5),.string ((Ja l0 Ia).f6)],.agg #[.int .i64 ((Ja l1 Ia).f0),.int .i64 ((Ja l1 Ia).f1),.int .i64 ((Ja l1 Ia).f2),.int .i64 ((Ja l1 Ia).f3),.int .i64 ((Ja l1 Ia).f4),.int .i64 ((Ja l1 Ia).f5),.string ((Ja l1 Ia).f6)]] (by rfl) rfl rfl (by (try simp only [List.map_toArray,List.map_cons,List.map_nil]);first|done|rfl|(simp only [List.length_drop,List.length_take];rfl)) ?_
        with_reducible refine (Oj.calls ((Ja l0 Ia).f0) ((Ja l0 Ia).f1) ((Ja l0 Ia).f2) ((Ja l0 Ia).f3) ((Ja l0 Ia).f4) ((Ja l0 Ia).f5) ((Ja l0 Ia).f6) ((Ja l1 Ia).f0) ((Ja l1 Ia).f1) ((Ja l1 Ia).f2) ((Ja l1 Ia).f3) ((Ja l1 Ia).f4) ((Ja l1 Ia).f5) ((Ja l1 Ia).f6) true _ A7.out).mono ?_
        rintro e Hq ⟨rfl,hb⟩
        refine ⟨_,rfl,?_⟩
        have Gb:=ja.mk (Qa (by repeat (first|(with_reducible first|exact HB.out|apply qa|apply ia|apply ua)|exact HB.out)) hb)
        clear HB
        have HB:=Gb
        clear Gb
        (try clear hb)
        (try clear hb2)
        (try clear hk)
        (try clear hi)
        refine hK.out _ _ ⟨((HB.out.cell (World.block_lt_of_cell? w _ Rh)).trans Rh),((HB.out.cell (World.block_lt_of_cell? w _ Qh)).trans Qh),((HB.out.cell (World.block_lt_of_cell? w _ Ph)).trans Ph),((HB.out.cell (World.block_lt_of_cell? w _ Oh)).trans Oh),((HB.out.cell (World.block_lt_of_cell? w _ Nh)).trans Nh),((HB.out.cell (World.block_lt_of_cell? w _ Ym)).trans Ym),((HB.out.cell (World.block_lt_of_cell? w _ Xm)).trans Xm),((HB.out.cell (World.block_lt_of_cell? w _ Mh)).trans Mh),((HB.out.cell (World.block_lt_of_cell? w _ Lh)).trans Lh),((HB.out.cell (World.block_lt_of_cell? w _ Kh)).trans Kh),((HB.out.cell (World.block_lt_of_cell? w _ Jh)).trans Jh),((HB.out.cell (World.block_lt_of_cell? w _ Ih)).trans Ih),((HB.out.cell (World.block_lt_of_cell? w _ Wm)).trans Wm),((HB.out.cell (World.block_lt_of_cell? w _ Vm)).trans Vm)⟩ (fun hHeld=>?_)
        clear hK K
        refine Vj (a':=?_) ?_ ?_
        rotate_left
        ·show Act.put _ (some 25) _=_
         simp only [Act.put,List.setIfInBounds_toArray,List.set_cons_zero,List.set_cons_succ,Ib,Jb]
         rfl
        refine qd (i:=9) (N:=some 26) (v:=?_) (a':=?_) #[true,true,true,true,true,true,true,true,true,true] rfl rfl (Oc Cf.out (by kernel_rfl)) (fun _ _ _ h=>h) (Or.inl ⟨by rfl,?_⟩) ?_ ?_
        rotate_left
        ·intro w'
         go_simp
         with_reducible rfl
        rotate_left
        ·simp only [Act.put,List.setIfInBounds_toArray,List.set_cons_zero,List.set_cons_succ,Ib,Jb]
         rfl
        refine wm (Sj Cf.out (by kernel_rfl)) ?_
        try go_wp2
        go_roundg k1
        case measure=>have:=Yg.out;omega
        case rel=>exact ⟨(wrap64 (Ia + 1)),(by first|rfl|(simp;done)|(simp [*];done)),H',⟨by have:=Yg.out;omega⟩,⟨by repeat (first|(with_reducible first|exact HB.out|apply qa|apply ia|apply ua)|exact HB.out)⟩⟩
       ·replace c8:=Bool.eq_false_iff.mpr c8
        subst c8
        have H1:(some false)=some r:=by rw [if_neg (show ¬ (false=true) by decide)] at H;exact H
        clear H
        have H:=H1
        clear H1
        obtain rfl:=Option.some.inj H
        try go_wp2
        have Gb:=ja.mk (ua HB.out)
        clear HB
        have HB:=Gb
        clear Gb
        have Je:0 ≤ (Ia:Int):=of_decide_eq_true (by first|(with_reducible assumption)|assumption)
        have Ie:Ia < (l0.length:Int):=of_decide_eq_true (by first|(with_reducible assumption)|assumption)
        obtain ⟨Gc,Tg,Ub,ic,fc,dc,Zb,ze,ye⟩:=tf Gh.out Ia Je Ie
        have Xm:=ye
        have Ym:=ze
        have Nh:=Zb
        have Oh:=dc
        have Ph:=fc
        have Qh:=ic
        have Rh:=Ub
        cases Tg
        replace Ub:=(HB.out.cell (World.block_lt_of_cell? w _ Ub)).trans Ub
        replace ic:=(HB.out.cell (World.block_lt_of_cell? w _ ic)).trans ic
        replace fc:=(HB.out.cell (World.block_lt_of_cell? w _ fc)).trans fc
        replace dc:=(HB.out.cell (World.block_lt_of_cell? w _ dc)).trans dc
        replace Zb:=(HB.out.cell (World.block_lt_of_cell? w _ Zb)).trans Zb
        replace ze:=(HB.out.cell (World.block_lt_of_cell? w _ ze)).trans ze
        replace ye:=(HB.out.cell (World.block_lt_of_cell? w _ ye)).trans ye
        replace Je:=eq_true Je
        replace Ie:=eq_true Ie
        have Gg:0 ≤ (Ia:Int):=of_decide_eq_true (by first|(with_reducible assumption)|assumption)
        have Fg:Ia < (l1.length:Int):=of_decide_eq_true (by first|(with_reducible assumption)|assumption)
        obtain ⟨bf,Fl,Ed,ee,xe,we,ue,Ze,Ye⟩:=tf bJ.out Ia Gg Fg
        have Vm:=Ye
        have Wm:=Ze
        have Ih:=ue
        have Jh:=we
        have Kh:=xe
        have Lh:=ee
        have Mh:=Ed
        cases Fl
        replace Ed:=(HB.out.cell (World.block_lt_of_cell? w _ Ed)).trans Ed
        replace ee:=(HB.out.cell (World.block_lt_of_cell? w _ ee)).trans ee
        replace xe:=(HB.out.cell (World.block_lt_of_cell? w _ xe)).trans xe
        replace we:=(HB.out.cell (World.block_lt_of_cell? w _ we)).trans we
        replace ue:=(HB.out.cell (World.block_lt_of_cell? w _ ue)).trans ue
        replace Ze:=(HB.out.cell (World.block_lt_of_cell? w _ Ze)).trans Ze
        replace Ye:=(HB.out.cell (World.block_lt_of_cell? w _ Ye)).trans Ye
        replace Gg:=eq_true Gg
        replace Fg:=eq_true Fg
        refine Xj (n:=10) (S:=fun w'=>w'.cell? (Gc.add ((Ia).toNat * 7))=some (.int .i64 ((Ja l0 Ia).f0))∧w'.cell? ⟨(Gc.add ((Ia).toNat * 7)).block,(Gc.add ((Ia).toNat * 7)).off + 1,none⟩=some (.int .i64 ((Ja l0 Ia).f1))∧w'.cell? ⟨(Gc.add ((Ia).toNat * 7)).block,(Gc.add ((Ia).toNat * 7)).off + 2,none⟩=some (.int .i64 ((Ja l0 Ia).f2))∧w'.cell? ⟨(Gc.add ((Ia).toNat * 7)).block,(Gc.add ((Ia).toNat * 7)).off + 3,none⟩=some (.int .i64 ((Ja l0 Ia).f3))∧w'.cell? ⟨(Gc.add ((Ia).toNat * 7)).block,(Gc.add ((Ia).toNat * 7)).off + 4,none⟩=some (.int .i64 ((Ja l0 Ia).f4))∧w'.cell? ⟨(Gc.add ((Ia).toNat * 7)).block,(Gc.add ((Ia).toNat * 7)).off + 5,none⟩=some (.int .i64 ((Ja l0 Ia).f5))∧w'.cell? ⟨(Gc.add ((Ia).toNat * 7)).block,(Gc.add ((Ia).toNat * 7)).off + 6,none⟩=some (.string ((Ja l0 Ia).f6))∧w'.cell? (bf.add ((Ia).toNat * 7))=some (.int .i64 ((Ja l1 Ia).f0))∧w'.cell? ⟨(bf.add ((Ia).toNat * 7)).block,(bf.add ((Ia).toNat * 7)).off + 1,none⟩=some (.int .i64 ((Ja l1 Ia).f1))∧w'.cell? ⟨(bf.add ((Ia).toNat * 7)).block,(bf.add ((Ia).toNat * 7)).off + 2,none⟩=some (.int .i64 ((Ja l1 Ia).f2))∧w'.cell? ⟨(bf.add ((Ia).toNat * 7)).block,(bf.add ((Ia).toNat * 7)).off + 3,none⟩=some (.int .i64 ((Ja l1 Ia).f3))∧w'.cell? ⟨(bf.add ((Ia).toNat * 7)).block,(bf.add ((Ia).toNat * 7)).off + 4,none⟩=some (.int .i64 ((Ja l1 Ia).f4))∧w'.cell? ⟨(bf.add ((Ia).toNat * 7)).block,(bf.add ((Ia).toNat * 7)).off + 5,none⟩=some (.int .i64 ((Ja l1 Ia).f5))∧w'.cell? ⟨(bf.add ((Ia).toNat * 7)).block,(bf.add ((Ia).toNat * 7)).off + 6,none⟩=some (.string ((Ja l1 Ia).f6))) (ds:=[]) #[false,false,false,false,false,false,false,false,false,false] (by kernel_rfl) rfl rfl ⟨((HB.out.cell (World.block_lt_of_cell? w _ Rh)).trans Rh),((HB.out.cell (World.block_lt_of_cell? w _ Qh)).trans Qh),((HB.out.cell (World.block_lt_of_cell? w _ Ph)).trans Ph),((HB.out.cell (World.block_lt_of_cell? w _ Oh)).trans Oh),((HB.out.cell (World.block_lt_of_cell? w _ Nh)).trans Nh),((HB.out.cell (World.block_lt_of_cell? w _ Ym)).trans Ym),((HB.out.cell (World.block_lt_of_cell? w _ Xm)).trans Xm),((HB.out.cell (World.block_lt_of_cell? w _ Mh)).trans Mh),((HB.out.cell (World.block_lt_of_cell? w _ Lh)).trans Lh),((HB.out.cell (World.block_lt_of_cell? w _ Kh)).trans Kh),((HB.out.cell (World.block_lt_of_cell? w _ Jh)).trans Jh),((HB.out.cell (World.block_lt_of_cell? w _ Ih)).trans Ih),((HB.out.cell (World.block_lt_of_cell? w _ Wm)).trans Wm),((HB.out.cell (World.block_lt_of_cell? w _ Vm)).trans Vm)⟩ (fun hHeld=>?_);refine Uh Nb.kJ Nb.IC (fun Cf yo=>?_)
        generalize wr.drew=sj at HB Ub ic fc dc Zb ze ye Ed ee xe we ue Ze Ye hHeld ⊢
        refine qd (i:=0) (N:=some 17) (v:=?_) (a':=?_) #[true,false,false,false,false,false,false,false,false,false] rfl rfl (Oc Cf.out (by kernel_rfl)) (fun _ _ _ h=>h) (Or.inl ⟨by rfl,?_⟩) ?_ ?_
        rotate_left
        ·intro w'
         go_simp
         with_reducible rfl
        rotate_left
        ·simp only [Act.put,List.setIfInBounds_toArray,List.set_cons_zero,List.set_cons_succ,Ib,Jb]
         rfl
        refine qd (i:=1) (N:=some 18) (v:=?_) (a':=?_) #[true,true,false,false,false,false,false,false,false,false] rfl rfl (Oc Cf.out (by kernel_rfl)) (fun _ _ _ h=>h) (Or.inl ⟨by rfl,?_⟩) ?_ ?_
        rotate_left
        ·intro w'
         go_simp
         with_reducible rfl
        rotate_left
        ·simp only [Act.put,List.setIfInBounds_toArray,List.set_cons_zero,List.set_cons_succ,Ib,Jb]
         rfl
        refine qd (i:=2) (N:=some 19) (v:=?_) (a':=?_) #[true,true,true,false,false,false,false,false,false,false] rfl rfl (Oc Cf.out (by kernel_rfl)) (fun _ _ _ h=>h) (Or.inl ⟨by rfl,?_⟩) ?_ ?_
        rotate_left
        ·intro w'
         go_simp
         with_reducible rfl
        rotate_left
        ·simp only [Act.put,List.setIfInBounds_toArray,List.set_cons_zero,List.set_cons_succ,Ib,Jb]
         rfl
        refine qd (i:=4) (N:=some 21) (v:=?_) (a':=?_) #[true,true,true,false,true,false,false,false,false,false] rfl rfl (Oc Cf.out (by kernel_rfl)) (fun _ _ _ h=>h) (Or.inl ⟨by rfl,?_⟩) ?_ ?_
        rotate_left
        ·intro w'
         go_simp
         with_reducible rfl
        rotate_left
        ·simp only [Act.put,List.setIfInBounds_toArray,List.set_cons_zero,List.set_cons_succ,Ib,Jb]
         rfl
        refine qd (i:=5) (N:=some 22) (v:=?_) (a':=?_) #[true,true,true,false,true,true,false,false,false,false] rfl rfl (Oc Cf.out (by kernel_rfl)) (fun _ _ _ h=>h) (Or.inl ⟨by rfl,?_⟩) ?_ ?_
        rotate_left
        ·intro w'
         go_simp
         with_reducible rfl
        rotate_left
        ·simp only [Act.put,List.setIfInBounds_toArray,List.set_cons_zero,List.set_cons_succ,Ib,Jb]
         rfl
        refine qd (i:=6) (N:=some 23) (v:=?_) (a':=?_) #[true,true,true,false,true,true,true,false,false,false] rfl rfl (Oc Cf.out (by kernel_rfl)) (fun _ _ _ h=>h) (Or.inl ⟨by rfl,?_⟩) ?_ ?_
        rotate_left
        ·intro w'
         go_simp
         with_reducible rfl
        rotate_left
        ·simp only [Act.put,List.setIfInBounds_toArray,List.set_cons_zero,List.set_cons_succ,Ib,Jb]
         rfl
        refine sg (i:=3) (N:=some 20) (v:=?_) (a':=?_) #[true,true,true,true,true,true,true,false,false,false] rfl rfl (af Cf.out yo.out (by kernel_rfl)) (fun _ _ _ h=>h) (Or.inl ⟨by rfl,?_⟩) hHeld ?_ ?_
        rotate_left
        ·rintro w' ⟨s0,s1,s2,s3,s4,s5,s6,s7,s8,s9,Rz,oM,nM,mM⟩
         go_simp
         with_reducible rfl
        rotate_left
        ·simp only [Act.put,List.setIfInBounds_toArray,List.set_cons_zero,List.set_cons_succ,Ib,Jb]
         rfl
        refine sg (i:=7) (N:=some 24) (v:=?_) (a':=?_) #[true,true,true,true,true,true,true,true,false,false] rfl rfl (af Cf.out yo.out (by kernel_rfl)) (fun _ _ _ h=>h) (Or.inl ⟨by rfl,?_⟩) hHeld ?_ ?_
        rotate_left
        ·rintro w' ⟨s0,s1,s2,s3,s4,s5,s6,s7,s8,s9,Rz,oM,nM,mM⟩
         go_simp
         with_reducible rfl
        rotate_left
        ·simp only [Act.put,List.setIfInBounds_toArray,List.set_cons_zero,List.set_cons_succ,Ib,Jb]
         rfl
        refine Vo (i:=8) (N:=some 25) #[true,true,true,true,true,true,true,true,true,false] rfl rfl (Pk Cf.out (by kernel_rfl)) (by decide) (fun K hK=>?_)
        refine Kn Try.func137 (by kernel_rfl) rfl #[.agg #[.int .i64 ((Ja l0 Ia).f0),.int .i64 ((Ja l0 Ia).f1),.int .i64 ((Ja l0 Ia).f2),.int .i64 ((Ja l0 Ia).f3),.int .i64 ((Ja l0 Ia).f4),.int .i64 ((Ja l0 Ia).f5),.string ((Ja l0 Ia).f6)],.agg #[.int .i64 ((Ja l1 Ia).f0),.int .i64 ((Ja l1 Ia).f1),.int .i64 ((Ja l1 Ia).f2),.int .i64 ((Ja l1 Ia).f3),.int .i64 ((Ja l1 Ia).f4),.int .i64 ((Ja l1 Ia).f5),.string ((Ja l1 Ia).f6)]] (by rfl) rfl rfl (by (try simp only [List.map_toArray,List.map_cons,List.map_nil]);first|done|rfl|(simp only [List.length_drop,List.length_take];rfl)) ?_
        with_reducible refine (Oj.calls ((Ja l0 Ia).f0) ((Ja l0 Ia).f1) ((Ja l0 Ia).f2) ((Ja l0 Ia).f3) ((Ja l0 Ia).f4) ((Ja l0 Ia).f5) ((Ja l0 Ia).f6) ((Ja l1 Ia).f0) ((Ja l1 Ia).f1) ((Ja l1 Ia).f2) ((Ja l1 Ia).f3) ((Ja l1 Ia).f4) ((Ja l1 Ia).f5) ((Ja l1 Ia).f6) false _ A7.out).mono ?_
        rintro e Nr ⟨rfl,hb⟩
        refine ⟨_,rfl,?_⟩
        have Gb:=ja.mk (Qa (by repeat (first|(with_reducible first|exact HB.out|apply qa|apply ia|apply ua)|exact HB.out)) hb)
        clear HB
        have HB:=Gb
        clear Gb
        (try clear hb)
        (try clear hb2)
        (try clear hk)
        (try clear hi)
        refine hK.out _ _ ⟨((HB.out.cell (World.block_lt_of_cell? w _ Rh)).trans Rh),((HB.out.cell (World.block_lt_of_cell? w _ Qh)).trans Qh),((HB.out.cell (World.block_lt_of_cell? w _ Ph)).trans Ph),((HB.out.cell (World.block_lt_of_cell? w _ Oh)).trans Oh),((HB.out.cell (World.block_lt_of_cell? w _ Nh)).trans Nh),((HB.out.cell (World.block_lt_of_cell? w _ Ym)).trans Ym),((HB.out.cell (World.block_lt_of_cell? w _ Xm)).trans Xm),((HB.out.cell (World.block_lt_of_cell? w _ Mh)).trans Mh),((HB.out.cell (World.block_lt_of_cell? w _ Lh)).trans Lh),((HB.out.cell (World.block_lt_of_cell? w _ Kh)).trans Kh),((HB.out.cell (World.block_lt_of_cell? w _ Jh)).trans Jh),((HB.out.cell (World.block_lt_of_cell? w _ Ih)).trans Ih),((HB.out.cell (World.block_lt_of_cell? w _ Wm)).trans Wm),((HB.out.cell (World.block_lt_of_cell? w _ Vm)).trans Vm)⟩ (fun hHeld=>?_)
        clear hK K
        refine Vj (a':=?_) ?_ ?_
        rotate_left
        ·show Act.put _ (some 25) _=_
         simp only [Act.put,List.setIfInBounds_toArray,List.set_cons_zero,List.set_cons_succ,Ib,Jb]
         rfl
        refine qd (i:=9) (N:=some 26) (v:=?_) (a':=?_) #[true,true,true,true,true,true,true,true,true,true] rfl rfl (Oc Cf.out (by kernel_rfl)) (fun _ _ _ h=>h) (Or.inl ⟨by rfl,?_⟩) ?_ ?_
        rotate_left
        ·intro w'
         go_simp
         with_reducible rfl
        rotate_left
        ·simp only [Act.put,List.setIfInBounds_toArray,List.set_cons_zero,List.set_cons_succ,Ib,Jb]
         rfl
        refine wm (Sj Cf.out (by kernel_rfl)) ?_
        try go_wp2
        go_ret
        exact ⟨by first|rfl|(simp [La,Ka] <;> rfl)|(simp [*,La,Ka] <;> rfl),by repeat (first|(with_reducible first|exact HB.out|apply qa|apply ia|apply ua)|exact HB.out)⟩
      ·rw [if_neg c6] at H
       exact absurd H (by simp)
     ·rw [if_neg c5] at H
      exact absurd H (by simp)
    ·rw [if_neg c4] at H
     have Gi:decide (Ia < (l0.length:Int))=false:=decide_eq_false c4
     clear c4
     obtain rfl:=Option.some.inj H
     go_wp2
     go_ret
     exact ⟨by first|rfl|(simp [La,Ka] <;> rfl)|(simp [*,La,Ka] <;> rfl),by repeat (first|(with_reducible first|exact HB.out|apply qa|apply ia|apply ua)|exact HB.out)⟩
 ·rw [if_neg c3] at H
  have Zh:((l0.length:Int) == (l1.length:Int))=false:=beq_eq_false_iff_ne.mpr c3
  have Sr:((l0.length:Int) != (l1.length:Int))=true:=bne_iff_ne.mpr c3
  have DC:(l0.length == l1.length)=false:=by first|simpa using c3|(simp at c3 ⊢;omega)
  obtain rfl:=Option.some.inj H
  go_enter Try.func120,Try.ntmps120
  go_wp2
  go_ret
  exact ⟨by first|rfl|(simp [La,Ka] <;> rfl)|(simp [*,La,Ka] <;> rfl),by repeat (first|(with_reducible first|exact HB.out|apply qa|apply ia|apply ua)|exact HB.out)⟩
def Yf.f (k:Nat) (Ta:List (Bf)) (Ma:Int) (Oa:Int) (Pa:Int) (nc:Int) (Dd:List (Bf)) (Fb:Int) (Ob:Int) (Rb:Int) (Qc:Int):Option (Bool):=(Nb.f k Ta Dd).bind fun t103=>(if t103=true then (if Ma=Fb then (if Oa=Ob then (if Pa=Rb then (if nc=Qc then (some true) else (some false)) else (some false)) else (some false)) else (some false)) else (some false))
theorem Yf.mono:∀ a0 a1 a2 a3 a4 a5 a6 a7 a8 a9 k,Lb (Yf.f k a0 a1 a2 a3 a4 a5 a6 a7 a8 a9) (Yf.f (k + 1) a0 a1 a2 a3 a4 a5 a6 a7 a8 a9):=by
 intro a0 a1 a2 a3 a4 a5 a6 a7 a8 a9 k
 unfold Yf.f
 repeat' first
   | (with_reducible exact Nb.mono _ _ _)
   | (with_reducible exact Lb.refl _)
   | (with_reducible exact Lb.none _)
   | (with_reducible refine Lb.ite ?_ ?_)
   | (with_reducible refine Lb.bind ?_ (fun _=>?_))
   | exact Nb.mono _ _ _
   | exact Lb.none _
   | refine Lb.ite ?_ ?_
   | refine Lb.bind ?_ (fun _=>?_)
set_option maxHeartbeats 8000000 in
set_option maxRecDepth 100000 in
theorem Yf.calls (k:Nat) (Cb:Option Addr) (Bb:Nat) (Ta:List (Bf)) (Ma:Int) (Oa:Int) (Pa:Int) (nc:Int) (Vf:Option Addr) (Nf:Nat) (Dd:List (Bf)) (Fb:Int) (Ob:Int) (Rb:Int) (Qc:Int) (r:Bool) (w:World) (Rf:Kd.C Ij w Cb Ta.length Ta) (Pf:Ta.length ≤ Bb) (js:Kd.C Ij w Vf Dd.length Dd) (Bs:Dd.length ≤ Nf) (h:Yf.f k Ta Ma Oa Pa nc Dd Fb Ob Rb Qc=some r) :
  Calls Try.prog 93 #[.agg #[.slice Cb Ta.length Bb,.int .i64 Ma,.int .i64 Oa,.int .i64 Pa,.int .i64 nc],.agg #[.slice Vf Dd.length Nf,.int .i64 Fb,.int .i64 Ob,.int .i64 Rb,.int .i64 Qc]] w fun e w'=>e = .returned (.bool r)∧Below w.heap.size w w':=by
 have JI:=Try.underlying68
 have ig:=ja.mk Rf
 have mg:=ja.mk Pf
 clear Rf Pf
 have xm:=ja.mk js
 have zo:=ja.mk Bs
 clear js Bs
 have HB:=ja.mk (Below.refl w.heap.size w)
 have H:((Nb.f k Ta Dd).bind fun t103=>(if t103=true then (if Ma=Fb then (if Oa=Ob then (if Pa=Rb then (if nc=Qc then (some true) else (some false)) else (some false)) else (some false)) else (some false)) else (some false)))=some r:=h
 clear h
 replace H:=Option.bind_eq_some_iff.mp H
 obtain ⟨t103,Pv,H⟩:=H
 replace H:(if t103=true then (if Ma=Fb then (if Oa=Ob then (if Pa=Rb then (if nc=Qc then (some true) else (some false)) else (some false)) else (some false)) else (some false)) else (some false))=some r:=H
 have A3:=ja.mk Pv
 clear Pv
 by_cases c4:t103=true
 ·subst c4
  have H1:(if Ma=Fb then (if Oa=Ob then (if Pa=Rb then (if nc=Qc then (some true) else (some false)) else (some false)) else (some false)) else (some false))=some r:=by rw [if_pos rfl] at H;exact H
  clear H
  have H:=H1
  clear H1
  by_cases c5:Ma=Fb
  ·rw [if_pos c5] at H
   have Il:(Ma == Fb)=true:=beq_iff_eq.mpr c5
   have Bq:(Ma != Fb)=false:=bne_eq_false_iff_eq.mpr c5
   clear c5
   by_cases c6:Oa=Ob
   ·rw [if_pos c6] at H
    have cm:(Oa == Ob)=true:=beq_iff_eq.mpr c6
    have av:(Oa != Ob)=false:=bne_eq_false_iff_eq.mpr c6
    clear c6
    by_cases c7:Pa=Rb
    ·rw [if_pos c7] at H
     have bp:(Pa == Rb)=true:=beq_iff_eq.mpr c7
     have Zu:(Pa != Rb)=false:=bne_eq_false_iff_eq.mpr c7
     clear c7
     by_cases c8:nc=Qc
     ·rw [if_pos c8] at H
      have Ll:(nc == Qc)=true:=beq_iff_eq.mpr c8
      have mq:(nc != Qc)=false:=bne_eq_false_iff_eq.mpr c8
      clear c8
      obtain rfl:=Option.some.inj H
      go_enter Try.func93,Try.ntmps93
      go_wp2_with (first|((with_reducible refine Kb (N:=2) rfl ?_);refine Eb ?hg (N:=2) ?hd (cs:=#[.slice Cb Ta.length Bb,.int .i64 Ma,.int .i64 Oa,.int .i64 Pa,.int .i64 nc]) (t:=68) ?hr ?_;(case hd=>rfl);(case hg=>rfl);(case hr=>first|(go_simp;done)|(go_simp;rfl));intro Ea hg w9 Tb hb;have Gb:=ja.mk (Qa (by repeat (first|(with_reducible first|exact HB.out|apply qa|apply ia|apply ua)|exact HB.out)) hb);have Vb:=ja.mk (Tb);have Ac:=ja.mk ((by rw [hg];exact (Ra (by repeat (first|(with_reducible first|exact HB.out|apply qa|apply ia|apply ua)|exact HB.out))):w.heap.size ≤ Ea));have ud:=ja.mk ((by rw [hg];exact (Ra (by repeat (first|(with_reducible first|exact HB.out|apply qa|apply ia|apply ua)|exact HB.out))):w.heap.size ≤ Ea));clear HB;have HB:=Gb;have za:=Vb;have Be:=Ac;have Wa:=ud;clear Gb Vb Ac ud;clear hb Tb hg)|((with_reducible refine Kb (N:=3) rfl ?_);refine Eb ?hg (N:=3) ?hd (cs:=#[.slice Vf Dd.length Nf,.int .i64 Fb,.int .i64 Ob,.int .i64 Rb,.int .i64 Qc]) (t:=68) ?hr ?_;(case hd=>rfl);(case hg=>rfl);(case hr=>first|(go_simp;done)|(go_simp;rfl));intro Fa hg Hq Tb hb;have Gb:=ja.mk (gb (g:=Ea) (o:=.cells #[.slice Cb Ta.length Bb,.int .i64 Ma,.int .i64 Oa,.int .i64 Pa,.int .i64 nc] 68 (0,0)) (by (with_reducible repeat (first|refine Da ?_ _|refine Ga ?_|refine Ca ?_ _));exact za.out) hb);have Vb:=ja.mk (Qa (by repeat (first|(with_reducible first|exact HB.out|apply qa|apply ia|apply ua|refine Aa ?_ Wa.out)|exact HB.out)) hb);have Ac:=ja.mk (Tb);have ud:=ja.mk ((by rw [hg];exact (Ra (by repeat (first|(with_reducible first|exact HB.out|apply qa|apply ia|apply ua|refine Aa ?_ Wa.out)|exact HB.out))):w.heap.size ≤ Fa));have ef:=ja.mk ((by rw [hg];exact (Ra (by repeat (first|(with_reducible first|exact HB.out|apply qa|apply ia|apply ua|refine Aa ?_ Wa.out)|exact HB.out))):w.heap.size ≤ Fa));have Ag:=ja.mk ((by rw [hg];exact Nat.ne_of_lt (Lc (g:=Ea) (o:=.cells #[.slice Cb Ta.length Bb,.int .i64 Ma,.int .i64 Oa,.int .i64 Pa,.int .i64 nc] 68 (0,0)) (by (with_reducible repeat (first|refine Da ?_ _|refine Ga ?_|refine Ca ?_ _));exact za.out)):Ea ≠ Fa));have dh:=ja.mk ((by rw [hg];exact Nat.ne_of_gt (Lc (g:=Ea) (o:=.cells #[.slice Cb Ta.length Bb,.int .i64 Ma,.int .i64 Oa,.int .i64 Pa,.int .i64 nc] 68 (0,0)) (by (with_reducible repeat (first|refine Da ?_ _|refine Ga ?_|refine Ca ?_ _));exact za.out)):Fa ≠ Ea));clear za;clear HB;have za:=Gb;have HB:=Vb;have Ba:=Ac;have Df:=ud;have Sb:=ef;have Ua:=Ag;have jb:=dh;clear Gb Vb Ac ud ef Ag dh;clear hb Tb hg;have iX:=Ua.out;have PW:=jb.out;have gq:Hq.cell? ⟨Ea,0,none⟩=some (.slice Cb Ta.length Bb):=(ga za.out 0).trans rfl;have fq:Hq.cell? ⟨Ea,1,none⟩=some (.int .i64 Ma):=(ga za.out 1).trans rfl;have cq:Hq.cell? ⟨Ea,2,none⟩=some (.int .i64 Oa):=(ga za.out 2).trans rfl;have bq:Hq.cell? ⟨Ea,3,none⟩=some (.int .i64 Pa):=(ga za.out 3).trans rfl;have aq:Hq.cell? ⟨Ea,4,none⟩=some (.int .i64 nc):=(ga za.out 4).trans rfl;have Np:=aa za.out 0;have Mp:=aa za.out 1;have Lp:=aa za.out 2;have Kp:=aa za.out 3;have Jp:=aa za.out 4;have aj:Hq.cell? ⟨Fa,0,none⟩=some (.slice Vf Dd.length Nf):=(ga Ba.out 0).trans rfl;have Zi:Hq.cell? ⟨Fa,1,none⟩=some (.int .i64 Fb):=(ga Ba.out 1).trans rfl;have Vl:Hq.cell? ⟨Fa,2,none⟩=some (.int .i64 Ob):=(ga Ba.out 2).trans rfl;have Ul:Hq.cell? ⟨Fa,3,none⟩=some (.int .i64 Rb):=(ga Ba.out 3).trans rfl;have Tl:Hq.cell? ⟨Fa,4,none⟩=some (.int .i64 Qc):=(ga Ba.out 4).trans rfl;have Yi:=aa Ba.out 0;have Xi:=aa Ba.out 1;have Sl:=aa Ba.out 2;have Rl:=aa Ba.out 3;have Ql:=aa Ba.out 4)|((with_reducible refine mb (f:=120) rfl ?_);refine yd (some 9) rfl rfl Try.func120 (by kernel_rfl) rfl #[.slice Cb Ta.length Bb,.slice Vf Dd.length Nf] rfl (by (try simp only [List.map_toArray,List.map_cons,List.map_nil]);first|done|rfl|(simp only [List.length_drop,List.length_take];rfl)) ?_;(with_reducible refine (Nb.calls k _ _ Ta _ _ Dd true _ ?side1 ?side2 ?side3 ?side4 A3.out).mono ?_);(case side1=>repeat (first|exact (Kd.Mb ig.out HB.out)|(with_reducible refine Kd.Sc ?_ _)|(with_reducible refine Kd.Rc ?_ _)|(with_reducible refine Kd.Qd ?_)));(case side2=>exact mg.out);(case side3=>repeat (first|exact (Kd.Mb xm.out HB.out)|(with_reducible refine Kd.Sc ?_ _)|(with_reducible refine Kd.Rc ?_ _)|(with_reducible refine Kd.Qd ?_)));(case side4=>exact zo.out);rintro e pz ⟨rfl,hb⟩;refine ⟨_,rfl,?_⟩;have Gb:=ja.mk (gb (g:=Ea) (o:=.cells #[.slice Cb Ta.length Bb,.int .i64 Ma,.int .i64 Oa,.int .i64 Pa,.int .i64 nc] 68 (0,0)) (by (with_reducible repeat (first|refine Da ?_ _|refine Ga ?_|refine Ca ?_ _));exact za.out) hb);have Vb:=ja.mk (gb (g:=Fa) (o:=.cells #[.slice Vf Dd.length Nf,.int .i64 Fb,.int .i64 Ob,.int .i64 Rb,.int .i64 Qc] 68 (0,0)) (by (with_reducible repeat (first|refine Da ?_ _|refine Ga ?_|refine Ca ?_ _));exact Ba.out) hb);have Ac:=ja.mk (Qa (by repeat (first|(with_reducible first|exact HB.out|apply qa|apply ia|apply ua|refine Aa ?_ Wa.out|refine Aa ?_ Sb.out)|exact HB.out)) hb);clear za;clear Ba;clear HB;have za:=Gb;have Ba:=Vb;have HB:=Ac;clear Gb Vb Ac;(try clear hb);(try clear hb2);(try clear hk);(try clear hi);have Fx:pz.cell? ⟨Ea,0,none⟩=some (.slice Cb Ta.length Bb):=(ga za.out 0).trans rfl;have Ex:pz.cell? ⟨Ea,1,none⟩=some (.int .i64 Ma):=(ga za.out 1).trans rfl;have Dx:pz.cell? ⟨Ea,2,none⟩=some (.int .i64 Oa):=(ga za.out 2).trans rfl;have Cx:pz.cell? ⟨Ea,3,none⟩=some (.int .i64 Pa):=(ga za.out 3).trans rfl;have Bx:pz.cell? ⟨Ea,4,none⟩=some (.int .i64 nc):=(ga za.out 4).trans rfl;have Ow:=aa za.out 0;have Nw:=aa za.out 1;have Mw:=aa za.out 2;have Lw:=aa za.out 3;have Kw:=aa za.out 4;have sn:pz.cell? ⟨Fa,0,none⟩=some (.slice Vf Dd.length Nf):=(ga Ba.out 0).trans rfl;have qn:pz.cell? ⟨Fa,1,none⟩=some (.int .i64 Fb):=(ga Ba.out 1).trans rfl;have Ax:pz.cell? ⟨Fa,2,none⟩=some (.int .i64 Ob):=(ga Ba.out 2).trans rfl;have zx:pz.cell? ⟨Fa,3,none⟩=some (.int .i64 Rb):=(ga Ba.out 3).trans rfl;have yx:pz.cell? ⟨Fa,4,none⟩=some (.int .i64 Qc):=(ga Ba.out 4).trans rfl;have gn:=aa Ba.out 0;have dn:=aa Ba.out 1;have Jw:=aa Ba.out 2;have Iw:=aa Ba.out 3;have Hw:=aa Ba.out 4))
      go_ret
      exact ⟨by first|rfl|(simp [La,Ka] <;> rfl)|(simp [*,La,Ka] <;> rfl),by repeat (first|(with_reducible first|exact HB.out|apply qa|apply ia|apply ua|refine Aa ?_ Wa.out|refine Aa ?_ Sb.out)|exact HB.out)⟩
     ·rw [if_neg c8] at H
      have Ll:(nc == Qc)=false:=beq_eq_false_iff_ne.mpr c8
      have mq:(nc != Qc)=true:=bne_iff_ne.mpr c8
      obtain rfl:=Option.some.inj H
      go_enter Try.func93,Try.ntmps93
      go_wp2_with (first|((with_reducible refine Kb (N:=2) rfl ?_);refine Eb ?hg (N:=2) ?hd (cs:=#[.slice Cb Ta.length Bb,.int .i64 Ma,.int .i64 Oa,.int .i64 Pa,.int .i64 nc]) (t:=68) ?hr ?_;(case hd=>rfl);(case hg=>rfl);(case hr=>first|(go_simp;done)|(go_simp;rfl));intro Ea hg Gq Tb hb;have Gb:=ja.mk (Qa (by repeat (first|(with_reducible first|exact HB.out|apply qa|apply ia|apply ua)|exact HB.out)) hb);have Vb:=ja.mk (Tb);have Ac:=ja.mk ((by rw [hg];exact (Ra (by repeat (first|(with_reducible first|exact HB.out|apply qa|apply ia|apply ua)|exact HB.out))):w.heap.size ≤ Ea));have ud:=ja.mk ((by rw [hg];exact (Ra (by repeat (first|(with_reducible first|exact HB.out|apply qa|apply ia|apply ua)|exact HB.out))):w.heap.size ≤ Ea));clear HB;have HB:=Gb;have za:=Vb;have Be:=Ac;have Wa:=ud;clear Gb Vb Ac ud;clear hb Tb hg)|((with_reducible refine Kb (N:=3) rfl ?_);refine Eb ?hg (N:=3) ?hd (cs:=#[.slice Vf Dd.length Nf,.int .i64 Fb,.int .i64 Ob,.int .i64 Rb,.int .i64 Qc]) (t:=68) ?hr ?_;(case hd=>rfl);(case hg=>rfl);(case hr=>first|(go_simp;done)|(go_simp;rfl));intro Fa hg kI Tb hb;have Gb:=ja.mk (gb (g:=Ea) (o:=.cells #[.slice Cb Ta.length Bb,.int .i64 Ma,.int .i64 Oa,.int .i64 Pa,.int .i64 nc] 68 (0,0)) (by (with_reducible repeat (first|refine Da ?_ _|refine Ga ?_|refine Ca ?_ _));exact za.out) hb);have Vb:=ja.mk (Qa (by repeat (first|(with_reducible first|exact HB.out|apply qa|apply ia|apply ua|refine Aa ?_ Wa.out)|exact HB.out)) hb);have Ac:=ja.mk (Tb);have ud:=ja.mk ((by rw [hg];exact (Ra (by repeat (first|(with_reducible first|exact HB.out|apply qa|apply ia|apply ua|refine Aa ?_ Wa.out)|exact HB.out))):w.heap.size ≤ Fa));have ef:=ja.mk ((by rw [hg];exact (Ra (by repeat (first|(with_reducible first|exact HB.out|apply qa|apply ia|apply ua|refine Aa ?_ Wa.out)|exact HB.out))):w.heap.size ≤ Fa));have Ag:=ja.mk ((by rw [hg];exact Nat.ne_of_lt (Lc (g:=Ea) (o:=.cells #[.slice Cb Ta.length Bb,.int .i64 Ma,.int .i64 Oa,.int .i64 Pa,.int .i64 nc] 68 (0,0)) (by (with_reducible repeat (first|refine Da ?_ _|refine Ga ?_|refine Ca ?_ _));exact za.out)):Ea ≠ Fa));have dh:=ja.mk ((by rw [hg];exact Nat.ne_of_gt (Lc (g:=Ea) (o:=.cells #[.slice Cb Ta.length Bb,.int .i64 Ma,.int .i64 Oa,.int .i64 Pa,.int .i64 nc] 68 (0,0)) (by (with_reducible repeat (first|refine Da ?_ _|refine Ga ?_|refine Ca ?_ _));exact za.out)):Fa ≠ Ea));clear za;clear HB;have za:=Gb;have HB:=Vb;have Ba:=Ac;have Df:=ud;have Sb:=ef;have Ua:=Ag;have jb:=dh;clear Gb Vb Ac ud ef Ag dh;clear hb Tb hg;have fX:=Ua.out;have NW:=jb.out;have cQ:kI.cell? ⟨Ea,0,none⟩=some (.slice Cb Ta.length Bb):=(ga za.out 0).trans rfl;have bQ:kI.cell? ⟨Ea,1,none⟩=some (.int .i64 Ma):=(ga za.out 1).trans rfl;have aQ:kI.cell? ⟨Ea,2,none⟩=some (.int .i64 Oa):=(ga za.out 2).trans rfl;have ZP:kI.cell? ⟨Ea,3,none⟩=some (.int .i64 Pa):=(ga za.out 3).trans rfl;have YP:kI.cell? ⟨Ea,4,none⟩=some (.int .i64 nc):=(ga za.out 4).trans rfl;have gO:=aa za.out 0;have fO:=aa za.out 1;have eO:=aa za.out 2;have dO:=aa za.out 3;have cO:=aa za.out 4;have xx:kI.cell? ⟨Fa,0,none⟩=some (.slice Vf Dd.length Nf):=(ga Ba.out 0).trans rfl;have ux:kI.cell? ⟨Fa,1,none⟩=some (.int .i64 Fb):=(ga Ba.out 1).trans rfl;have aae:kI.cell? ⟨Fa,2,none⟩=some (.int .i64 Ob):=(ga Ba.out 2).trans rfl;have Zad:kI.cell? ⟨Fa,3,none⟩=some (.int .i64 Rb):=(ga Ba.out 3).trans rfl;have Yad:kI.cell? ⟨Fa,4,none⟩=some (.int .i64 Qc):=(ga Ba.out 4).trans rfl;have Gw:=aa Ba.out 0;have Fw:=aa Ba.out 1;have Naa:=aa Ba.out 2;have Maa:=aa Ba.out 3;have Laa:=aa Ba.out 4)|((with_reducible refine mb (f:=120) rfl ?_);refine yd (some 9) rfl rfl Try.func120 (by kernel_rfl) rfl #[.slice Cb Ta.length Bb,.slice Vf Dd.length Nf] rfl (by (try simp only [List.map_toArray,List.map_cons,List.map_nil]);first|done|rfl|(simp only [List.length_drop,List.length_take];rfl)) ?_;(with_reducible refine (Nb.calls k _ _ Ta _ _ Dd true _ ?side1 ?side2 ?side3 ?side4 A3.out).mono ?_);(case side1=>repeat (first|exact (Kd.Mb ig.out HB.out)|(with_reducible refine Kd.Sc ?_ _)|(with_reducible refine Kd.Rc ?_ _)|(with_reducible refine Kd.Qd ?_)));(case side2=>exact mg.out);(case side3=>repeat (first|exact (Kd.Mb xm.out HB.out)|(with_reducible refine Kd.Sc ?_ _)|(with_reducible refine Kd.Rc ?_ _)|(with_reducible refine Kd.Qd ?_)));(case side4=>exact zo.out);rintro e fJ ⟨rfl,hb⟩;refine ⟨_,rfl,?_⟩;have Gb:=ja.mk (gb (g:=Ea) (o:=.cells #[.slice Cb Ta.length Bb,.int .i64 Ma,.int .i64 Oa,.int .i64 Pa,.int .i64 nc] 68 (0,0)) (by (with_reducible repeat (first|refine Da ?_ _|refine Ga ?_|refine Ca ?_ _));exact za.out) hb);have Vb:=ja.mk (gb (g:=Fa) (o:=.cells #[.slice Vf Dd.length Nf,.int .i64 Fb,.int .i64 Ob,.int .i64 Rb,.int .i64 Qc] 68 (0,0)) (by (with_reducible repeat (first|refine Da ?_ _|refine Ga ?_|refine Ca ?_ _));exact Ba.out) hb);have Ac:=ja.mk (Qa (by repeat (first|(with_reducible first|exact HB.out|apply qa|apply ia|apply ua|refine Aa ?_ Wa.out|refine Aa ?_ Sb.out)|exact HB.out)) hb);clear za;clear Ba;clear HB;have za:=Gb;have Ba:=Vb;have HB:=Ac;clear Gb Vb Ac;(try clear hb);(try clear hb2);(try clear hk);(try clear hi);have Ak:fJ.cell? ⟨Ea,0,none⟩=some (.slice Cb Ta.length Bb):=(ga za.out 0).trans rfl;have zk:fJ.cell? ⟨Ea,1,none⟩=some (.int .i64 Ma):=(ga za.out 1).trans rfl;have oo:fJ.cell? ⟨Ea,2,none⟩=some (.int .i64 Oa):=(ga za.out 2).trans rfl;have mo:fJ.cell? ⟨Ea,3,none⟩=some (.int .i64 Pa):=(ga za.out 3).trans rfl;have ko:fJ.cell? ⟨Ea,4,none⟩=some (.int .i64 nc):=(ga za.out 4).trans rfl;have nk:=aa za.out 0;have jk:=aa za.out 1;have Zn:=aa za.out 2;have Yn:=aa za.out 3;have Xn:=aa za.out 4;have kn:fJ.cell? ⟨Fa,0,none⟩=some (.slice Vf Dd.length Nf):=(ga Ba.out 0).trans rfl;have jn:fJ.cell? ⟨Fa,1,none⟩=some (.int .i64 Fb):=(ga Ba.out 1).trans rfl;have qu:fJ.cell? ⟨Fa,2,none⟩=some (.int .i64 Ob):=(ga Ba.out 2).trans rfl;have ou:fJ.cell? ⟨Fa,3,none⟩=some (.int .i64 Rb):=(ga Ba.out 3).trans rfl;have nu:fJ.cell? ⟨Fa,4,none⟩=some (.int .i64 Qc):=(ga Ba.out 4).trans rfl;have cn:=aa Ba.out 0;have bn:=aa Ba.out 1;have Ot:=aa Ba.out 2;have Nt:=aa Ba.out 3;have Mt:=aa Ba.out 4))
      go_ret
      exact ⟨by first|rfl|(simp [La,Ka] <;> rfl)|(simp [*,La,Ka] <;> rfl),by repeat (first|(with_reducible first|exact HB.out|apply qa|apply ia|apply ua|refine Aa ?_ Wa.out|refine Aa ?_ Sb.out)|exact HB.out)⟩
    ·rw [if_neg c7] at H
     have bp:(Pa == Rb)=false:=beq_eq_false_iff_ne.mpr c7
     have Zu:(Pa != Rb)=true:=bne_iff_ne.mpr c7
     obtain rfl:=Option.some.inj H
     go_enter Try.func93,Try.ntmps93
     go_wp2_with (first|((with_reducible refine Kb (N:=2) rfl ?_);refine Eb ?hg (N:=2) ?hd (cs:=#[.slice Cb Ta.length Bb,.int .i64 Ma,.int .i64 Oa,.int .i64 Pa,.int .i64 nc]) (t:=68) ?hr ?_;(case hd=>rfl);(case hg=>rfl);(case hr=>first|(go_simp;done)|(go_simp;rfl));intro Ea hg SV Tb hb;have Gb:=ja.mk (Qa (by repeat (first|(with_reducible first|exact HB.out|apply qa|apply ia|apply ua)|exact HB.out)) hb);have Vb:=ja.mk (Tb);have Ac:=ja.mk ((by rw [hg];exact (Ra (by repeat (first|(with_reducible first|exact HB.out|apply qa|apply ia|apply ua)|exact HB.out))):w.heap.size ≤ Ea));have ud:=ja.mk ((by rw [hg];exact (Ra (by repeat (first|(with_reducible first|exact HB.out|apply qa|apply ia|apply ua)|exact HB.out))):w.heap.size ≤ Ea));clear HB;have HB:=Gb;have za:=Vb;have Be:=Ac;have Wa:=ud;clear Gb Vb Ac ud;clear hb Tb hg)|((with_reducible refine Kb (N:=3) rfl ?_);refine Eb ?hg (N:=3) ?hd (cs:=#[.slice Vf Dd.length Nf,.int .i64 Fb,.int .i64 Ob,.int .i64 Rb,.int .i64 Qc]) (t:=68) ?hr ?_;(case hd=>rfl);(case hg=>rfl);(case hr=>first|(go_simp;done)|(go_simp;rfl));intro Fa hg Rn Tb hb;have Gb:=ja.mk (gb (g:=Ea) (o:=.cells #[.slice Cb Ta.length Bb,.int .i64 Ma,.int .i64 Oa,.int .i64 Pa,.int .i64 nc] 68 (0,0)) (by (with_reducible repeat (first|refine Da ?_ _|refine Ga ?_|refine Ca ?_ _));exact za.out) hb);have Vb:=ja.mk (Qa (by repeat (first|(with_reducible first|exact HB.out|apply qa|apply ia|apply ua|refine Aa ?_ Wa.out)|exact HB.out)) hb);have Ac:=ja.mk (Tb);have ud:=ja.mk ((by rw [hg];exact (Ra (by repeat (first|(with_reducible first|exact HB.out|apply qa|apply ia|apply ua|refine Aa ?_ Wa.out)|exact HB.out))):w.heap.size ≤ Fa));have ef:=ja.mk ((by rw [hg];exact (Ra (by repeat (first|(with_reducible first|exact HB.out|apply qa|apply ia|apply ua|refine Aa ?_ Wa.out)|exact HB.out))):w.heap.size ≤ Fa));have Ag:=ja.mk ((by rw [hg];exact Nat.ne_of_lt (Lc (g:=Ea) (o:=.cells #[.slice Cb Ta.length Bb,.int .i64 Ma,.int .i64 Oa,.int .i64 Pa,.int .i64 nc] 68 (0,0)) (by (with_reducible repeat (first|refine Da ?_ _|refine Ga ?_|refine Ca ?_ _));exact za.out)):Ea ≠ Fa));have dh:=ja.mk ((by rw [hg];exact Nat.ne_of_gt (Lc (g:=Ea) (o:=.cells #[.slice Cb Ta.length Bb,.int .i64 Ma,.int .i64 Oa,.int .i64 Pa,.int .i64 nc] 68 (0,0)) (by (with_reducible repeat (first|refine Da ?_ _|refine Ga ?_|refine Ca ?_ _));exact za.out)):Fa ≠ Ea));clear za;clear HB;have za:=Gb;have HB:=Vb;have Ba:=Ac;have Df:=ud;have Sb:=ef;have Ua:=Ag;have jb:=dh;clear Gb Vb Ac ud ef Ag dh;clear hb Tb hg;have jR:=Ua.out;have dR:=jb.out;have XP:Rn.cell? ⟨Ea,0,none⟩=some (.slice Cb Ta.length Bb):=(ga za.out 0).trans rfl;have VP:Rn.cell? ⟨Ea,1,none⟩=some (.int .i64 Ma):=(ga za.out 1).trans rfl;have TP:Rn.cell? ⟨Ea,2,none⟩=some (.int .i64 Oa):=(ga za.out 2).trans rfl;have SP:Rn.cell? ⟨Ea,3,none⟩=some (.int .i64 Pa):=(ga za.out 3).trans rfl;have RP:Rn.cell? ⟨Ea,4,none⟩=some (.int .i64 nc):=(ga za.out 4).trans rfl;have bO:=aa za.out 0;have ZN:=aa za.out 1;have YN:=aa za.out 2;have XN:=aa za.out 3;have WN:=aa za.out 4;have Wp:Rn.cell? ⟨Fa,0,none⟩=some (.slice Vf Dd.length Nf):=(ga Ba.out 0).trans rfl;have Vp:Rn.cell? ⟨Fa,1,none⟩=some (.int .i64 Fb):=(ga Ba.out 1).trans rfl;have vH:Rn.cell? ⟨Fa,2,none⟩=some (.int .i64 Ob):=(ga Ba.out 2).trans rfl;have uH:Rn.cell? ⟨Fa,3,none⟩=some (.int .i64 Rb):=(ga Ba.out 3).trans rfl;have tH:Rn.cell? ⟨Fa,4,none⟩=some (.int .i64 Qc):=(ga Ba.out 4).trans rfl;have Fp:=aa Ba.out 0;have Ep:=aa Ba.out 1;have eG:=aa Ba.out 2;have dG:=aa Ba.out 3;have cG:=aa Ba.out 4)|((with_reducible refine mb (f:=120) rfl ?_);refine yd (some 9) rfl rfl Try.func120 (by kernel_rfl) rfl #[.slice Cb Ta.length Bb,.slice Vf Dd.length Nf] rfl (by (try simp only [List.map_toArray,List.map_cons,List.map_nil]);first|done|rfl|(simp only [List.length_drop,List.length_take];rfl)) ?_;(with_reducible refine (Nb.calls k _ _ Ta _ _ Dd true _ ?side1 ?side2 ?side3 ?side4 A3.out).mono ?_);(case side1=>repeat (first|exact (Kd.Mb ig.out HB.out)|(with_reducible refine Kd.Sc ?_ _)|(with_reducible refine Kd.Rc ?_ _)|(with_reducible refine Kd.Qd ?_)));(case side2=>exact mg.out);(case side3=>repeat (first|exact (Kd.Mb xm.out HB.out)|(with_reducible refine Kd.Sc ?_ _)|(with_reducible refine Kd.Rc ?_ _)|(with_reducible refine Kd.Qd ?_)));(case side4=>exact zo.out);rintro e Mu ⟨rfl,hb⟩;refine ⟨_,rfl,?_⟩;have Gb:=ja.mk (gb (g:=Ea) (o:=.cells #[.slice Cb Ta.length Bb,.int .i64 Ma,.int .i64 Oa,.int .i64 Pa,.int .i64 nc] 68 (0,0)) (by (with_reducible repeat (first|refine Da ?_ _|refine Ga ?_|refine Ca ?_ _));exact za.out) hb);have Vb:=ja.mk (gb (g:=Fa) (o:=.cells #[.slice Vf Dd.length Nf,.int .i64 Fb,.int .i64 Ob,.int .i64 Rb,.int .i64 Qc] 68 (0,0)) (by (with_reducible repeat (first|refine Da ?_ _|refine Ga ?_|refine Ca ?_ _));exact Ba.out) hb);have Ac:=ja.mk (Qa (by repeat (first|(with_reducible first|exact HB.out|apply qa|apply ia|apply ua|refine Aa ?_ Wa.out|refine Aa ?_ Sb.out)|exact HB.out)) hb);clear za;clear Ba;clear HB;have za:=Gb;have Ba:=Vb;have HB:=Ac;clear Gb Vb Ac;(try clear hb);(try clear hb2);(try clear hk);(try clear hi);have dx:Mu.cell? ⟨Ea,0,none⟩=some (.slice Cb Ta.length Bb):=(ga za.out 0).trans rfl;have cx:Mu.cell? ⟨Ea,1,none⟩=some (.int .i64 Ma):=(ga za.out 1).trans rfl;have ax:Mu.cell? ⟨Ea,2,none⟩=some (.int .i64 Oa):=(ga za.out 2).trans rfl;have Zw:Mu.cell? ⟨Ea,3,none⟩=some (.int .i64 Pa):=(ga za.out 3).trans rfl;have Yw:Mu.cell? ⟨Ea,4,none⟩=some (.int .i64 nc):=(ga za.out 4).trans rfl;have zw:=aa za.out 0;have yw:=aa za.out 1;have xw:=aa za.out 2;have vw:=aa za.out 3;have uw:=aa za.out 4;have ZA:Mu.cell? ⟨Fa,0,none⟩=some (.slice Vf Dd.length Nf):=(ga Ba.out 0).trans rfl;have YA:Mu.cell? ⟨Fa,1,none⟩=some (.int .i64 Fb):=(ga Ba.out 1).trans rfl;have XA:Mu.cell? ⟨Fa,2,none⟩=some (.int .i64 Ob):=(ga Ba.out 2).trans rfl;have WA:Mu.cell? ⟨Fa,3,none⟩=some (.int .i64 Rb):=(ga Ba.out 3).trans rfl;have VA:Mu.cell? ⟨Fa,4,none⟩=some (.int .i64 Qc):=(ga Ba.out 4).trans rfl;have yA:=aa Ba.out 0;have xA:=aa Ba.out 1;have wA:=aa Ba.out 2;have vA:=aa Ba.out 3;have uA:=aa Ba.out 4))
     go_ret
     exact ⟨by first|rfl|(simp [La,Ka] <;> rfl)|(simp [*,La,Ka] <;> rfl),by repeat (first|(with_reducible first|exact HB.out|apply qa|apply ia|apply ua|refine Aa ?_ Wa.out|refine Aa ?_ Sb.out)|exact HB.out)⟩
   ·rw [if_neg c6] at H
    have cm:(Oa == Ob)=false:=beq_eq_false_iff_ne.mpr c6
    have av:(Oa != Ob)=true:=bne_iff_ne.mpr c6
    obtain rfl:=Option.some.inj H
    go_enter Try.func93,Try.ntmps93
    go_wp2_with (first|((with_reducible refine Kb (N:=2) rfl ?_);refine Eb ?hg (N:=2) ?hd (cs:=#[.slice Cb Ta.length Bb,.int .i64 Ma,.int .i64 Oa,.int .i64 Pa,.int .i64 nc]) (t:=68) ?hr ?_;(case hd=>rfl);(case hg=>rfl);(case hr=>first|(go_simp;done)|(go_simp;rfl));intro Ea hg ZI Tb hb;have Gb:=ja.mk (Qa (by repeat (first|(with_reducible first|exact HB.out|apply qa|apply ia|apply ua)|exact HB.out)) hb);have Vb:=ja.mk (Tb);have Ac:=ja.mk ((by rw [hg];exact (Ra (by repeat (first|(with_reducible first|exact HB.out|apply qa|apply ia|apply ua)|exact HB.out))):w.heap.size ≤ Ea));have ud:=ja.mk ((by rw [hg];exact (Ra (by repeat (first|(with_reducible first|exact HB.out|apply qa|apply ia|apply ua)|exact HB.out))):w.heap.size ≤ Ea));clear HB;have HB:=Gb;have za:=Vb;have Be:=Ac;have Wa:=ud;clear Gb Vb Ac ud;clear hb Tb hg)|((with_reducible refine Kb (N:=3) rfl ?_);refine Eb ?hg (N:=3) ?hd (cs:=#[.slice Vf Dd.length Nf,.int .i64 Fb,.int .i64 Ob,.int .i64 Rb,.int .i64 Qc]) (t:=68) ?hr ?_;(case hd=>rfl);(case hg=>rfl);(case hr=>first|(go_simp;done)|(go_simp;rfl));intro Fa hg Vr Tb hb;have Gb:=ja.mk (gb (g:=Ea) (o:=.cells #[.slice Cb Ta.length Bb,.int .i64 Ma,.int .i64 Oa,.int .i64 Pa,.int .i64 nc] 68 (0,0)) (by (with_reducible repeat (first|refine Da ?_ _|refine Ga ?_|refine Ca ?_ _));exact za.out) hb);have Vb:=ja.mk (Qa (by repeat (first|(with_reducible first|exact HB.out|apply qa|apply ia|apply ua|refine Aa ?_ Wa.out)|exact HB.out)) hb);have Ac:=ja.mk (Tb);have ud:=ja.mk ((by rw [hg];exact (Ra (by repeat (first|(with_reducible first|exact HB.out|apply qa|apply ia|apply ua|refine Aa ?_ Wa.out)|exact HB.out))):w.heap.size ≤ Fa));have ef:=ja.mk ((by rw [hg];exact (Ra (by repeat (first|(with_reducible first|exact HB.out|apply qa|apply ia|apply ua|refine Aa ?_ Wa.out)|exact HB.out))):w.heap.size ≤ Fa));have Ag:=ja.mk ((by rw [hg];exact Nat.ne_of_lt (Lc (g:=Ea) (o:=.cells #[.slice Cb Ta.length Bb,.int .i64 Ma,.int .i64 Oa,.int .i64 Pa,.int .i64 nc] 68 (0,0)) (by (with_reducible repeat (first|refine Da ?_ _|refine Ga ?_|refine Ca ?_ _));exact za.out)):Ea ≠ Fa));have dh:=ja.mk ((by rw [hg];exact Nat.ne_of_gt (Lc (g:=Ea) (o:=.cells #[.slice Cb Ta.length Bb,.int .i64 Ma,.int .i64 Oa,.int .i64 Pa,.int .i64 nc] 68 (0,0)) (by (with_reducible repeat (first|refine Da ?_ _|refine Ga ?_|refine Ca ?_ _));exact za.out)):Fa ≠ Ea));clear za;clear HB;have za:=Gb;have HB:=Vb;have Ba:=Ac;have Df:=ud;have Sb:=ef;have Ua:=Ag;have jb:=dh;clear Gb Vb Ac ud ef Ag dh;clear hb Tb hg;have ZW:=Ua.out;have GW:=jb.out;have jr:Vr.cell? ⟨Ea,0,none⟩=some (.slice Cb Ta.length Bb):=(ga za.out 0).trans rfl;have gr:Vr.cell? ⟨Ea,1,none⟩=some (.int .i64 Ma):=(ga za.out 1).trans rfl;have iH:Vr.cell? ⟨Ea,2,none⟩=some (.int .i64 Oa):=(ga za.out 2).trans rfl;have gH:Vr.cell? ⟨Ea,3,none⟩=some (.int .i64 Pa):=(ga za.out 3).trans rfl;have fH:Vr.cell? ⟨Ea,4,none⟩=some (.int .i64 nc):=(ga za.out 4).trans rfl;have Qq:=aa za.out 0;have Pq:=aa za.out 1;have PF:=aa za.out 2;have NF:=aa za.out 3;have MF:=aa za.out 4;have GP:Vr.cell? ⟨Fa,0,none⟩=some (.slice Vf Dd.length Nf):=(ga Ba.out 0).trans rfl;have FP:Vr.cell? ⟨Fa,1,none⟩=some (.int .i64 Fb):=(ga Ba.out 1).trans rfl;have EP:Vr.cell? ⟨Fa,2,none⟩=some (.int .i64 Ob):=(ga Ba.out 2).trans rfl;have DP:Vr.cell? ⟨Fa,3,none⟩=some (.int .i64 Rb):=(ga Ba.out 3).trans rfl;have CP:Vr.cell? ⟨Fa,4,none⟩=some (.int .i64 Qc):=(ga Ba.out 4).trans rfl;have NN:=aa Ba.out 0;have MN:=aa Ba.out 1;have LN:=aa Ba.out 2;have KN:=aa Ba.out 3;have JN:=aa Ba.out 4)|((with_reducible refine mb (f:=120) rfl ?_);refine yd (some 9) rfl rfl Try.func120 (by kernel_rfl) rfl #[.slice Cb Ta.length Bb,.slice Vf Dd.length Nf] rfl (by (try simp only [List.map_toArray,List.map_cons,List.map_nil]);first|done|rfl|(simp only [List.length_drop,List.length_take];rfl)) ?_;(with_reducible refine (Nb.calls k _ _ Ta _ _ Dd true _ ?side1 ?side2 ?side3 ?side4 A3.out).mono ?_);(case side1=>repeat (first|exact (Kd.Mb ig.out HB.out)|(with_reducible refine Kd.Sc ?_ _)|(with_reducible refine Kd.Rc ?_ _)|(with_reducible refine Kd.Qd ?_)));(case side2=>exact mg.out);(case side3=>repeat (first|exact (Kd.Mb xm.out HB.out)|(with_reducible refine Kd.Sc ?_ _)|(with_reducible refine Kd.Rc ?_ _)|(with_reducible refine Kd.Qd ?_)));(case side4=>exact zo.out);rintro e Tv ⟨rfl,hb⟩;refine ⟨_,rfl,?_⟩;have Gb:=ja.mk (gb (g:=Ea) (o:=.cells #[.slice Cb Ta.length Bb,.int .i64 Ma,.int .i64 Oa,.int .i64 Pa,.int .i64 nc] 68 (0,0)) (by (with_reducible repeat (first|refine Da ?_ _|refine Ga ?_|refine Ca ?_ _));exact za.out) hb);have Vb:=ja.mk (gb (g:=Fa) (o:=.cells #[.slice Vf Dd.length Nf,.int .i64 Fb,.int .i64 Ob,.int .i64 Rb,.int .i64 Qc] 68 (0,0)) (by (with_reducible repeat (first|refine Da ?_ _|refine Ga ?_|refine Ca ?_ _));exact Ba.out) hb);have Ac:=ja.mk (Qa (by repeat (first|(with_reducible first|exact HB.out|apply qa|apply ia|apply ua|refine Aa ?_ Wa.out|refine Aa ?_ Sb.out)|exact HB.out)) hb);clear za;clear Ba;clear HB;have za:=Gb;have Ba:=Vb;have HB:=Ac;clear Gb Vb Ac;(try clear hb);(try clear hb2);(try clear hk);(try clear hi);have cH:Tv.cell? ⟨Ea,0,none⟩=some (.slice Cb Ta.length Bb):=(ga za.out 0).trans rfl;have bH:Tv.cell? ⟨Ea,1,none⟩=some (.int .i64 Ma):=(ga za.out 1).trans rfl;have aH:Tv.cell? ⟨Ea,2,none⟩=some (.int .i64 Oa):=(ga za.out 2).trans rfl;have ZG:Tv.cell? ⟨Ea,3,none⟩=some (.int .i64 Pa):=(ga za.out 3).trans rfl;have YG:Tv.cell? ⟨Ea,4,none⟩=some (.int .i64 nc):=(ga za.out 4).trans rfl;have JF:=aa za.out 0;have GF:=aa za.out 1;have FF:=aa za.out 2;have EF:=aa za.out 3;have DF:=aa za.out 4;have Vw:Tv.cell? ⟨Fa,0,none⟩=some (.slice Vf Dd.length Nf):=(ga Ba.out 0).trans rfl;have Uw:Tv.cell? ⟨Fa,1,none⟩=some (.int .i64 Fb):=(ga Ba.out 1).trans rfl;have Tw:Tv.cell? ⟨Fa,2,none⟩=some (.int .i64 Ob):=(ga Ba.out 2).trans rfl;have Sw:Tv.cell? ⟨Fa,3,none⟩=some (.int .i64 Rb):=(ga Ba.out 3).trans rfl;have Rw:Tv.cell? ⟨Fa,4,none⟩=some (.int .i64 Qc):=(ga Ba.out 4).trans rfl;have qw:=aa Ba.out 0;have ow:=aa Ba.out 1;have nw:=aa Ba.out 2;have mw:=aa Ba.out 3;have jw:=aa Ba.out 4))
    go_ret
    exact ⟨by first|rfl|(simp [La,Ka] <;> rfl)|(simp [*,La,Ka] <;> rfl),by repeat (first|(with_reducible first|exact HB.out|apply qa|apply ia|apply ua|refine Aa ?_ Wa.out|refine Aa ?_ Sb.out)|exact HB.out)⟩
  ·rw [if_neg c5] at H
   have Il:(Ma == Fb)=false:=beq_eq_false_iff_ne.mpr c5
   have Bq:(Ma != Fb)=true:=bne_iff_ne.mpr c5
   obtain rfl:=Option.some.inj H
   go_enter Try.func93,Try.ntmps93
   go_wp2_with (first|((with_reducible refine Kb (N:=2) rfl ?_);refine Eb ?hg (N:=2) ?hd (cs:=#[.slice Cb Ta.length Bb,.int .i64 Ma,.int .i64 Oa,.int .i64 Pa,.int .i64 nc]) (t:=68) ?hr ?_;(case hd=>rfl);(case hg=>rfl);(case hr=>first|(go_simp;done)|(go_simp;rfl));intro Ea hg ZC Tb hb;have Gb:=ja.mk (Qa (by repeat (first|(with_reducible first|exact HB.out|apply qa|apply ia|apply ua)|exact HB.out)) hb);have Vb:=ja.mk (Tb);have Ac:=ja.mk ((by rw [hg];exact (Ra (by repeat (first|(with_reducible first|exact HB.out|apply qa|apply ia|apply ua)|exact HB.out))):w.heap.size ≤ Ea));have ud:=ja.mk ((by rw [hg];exact (Ra (by repeat (first|(with_reducible first|exact HB.out|apply qa|apply ia|apply ua)|exact HB.out))):w.heap.size ≤ Ea));clear HB;have HB:=Gb;have za:=Vb;have Be:=Ac;have Wa:=ud;clear Gb Vb Ac ud;clear hb Tb hg)|((with_reducible refine Kb (N:=3) rfl ?_);refine Eb ?hg (N:=3) ?hd (cs:=#[.slice Vf Dd.length Nf,.int .i64 Fb,.int .i64 Ob,.int .i64 Rb,.int .i64 Qc]) (t:=68) ?hr ?_;(case hd=>rfl);(case hg=>rfl);(case hr=>first|(go_simp;done)|(go_simp;rfl));intro Fa hg SL Tb hb;have Gb:=ja.mk (gb (g:=Ea) (o:=.cells #[.slice Cb Ta.length Bb,.int .i64 Ma,.int .i64 Oa,.int .i64 Pa,.int .i64 nc] 68 (0,0)) (by (with_reducible repeat (first|refine Da ?_ _|refine Ga ?_|refine Ca ?_ _));exact za.out) hb);have Vb:=ja.mk (Qa (by repeat (first|(with_reducible first|exact HB.out|apply qa|apply ia|apply ua|refine Aa ?_ Wa.out)|exact HB.out)) hb);have Ac:=ja.mk (Tb);have ud:=ja.mk ((by rw [hg];exact (Ra (by repeat (first|(with_reducible first|exact HB.out|apply qa|apply ia|apply ua|refine Aa ?_ Wa.out)|exact HB.out))):w.heap.size ≤ Fa));have ef:=ja.mk ((by rw [hg];exact (Ra (by repeat (first|(with_reducible first|exact HB.out|apply qa|apply ia|apply ua|refine Aa ?_ Wa.out)|exact HB.out))):w.heap.size ≤ Fa));have Ag:=ja.mk ((by rw [hg];exact Nat.ne_of_lt (Lc (g:=Ea) (o:=.cells #[.slice Cb Ta.length Bb,.int .i64 Ma,.int .i64 Oa,.int .i64 Pa,.int .i64 nc] 68 (0,0)) (by (with_reducible repeat (first|refine Da ?_ _|refine Ga ?_|refine Ca ?_ _));exact za.out)):Ea ≠ Fa));have dh:=ja.mk ((by rw [hg];exact Nat.ne_of_gt (Lc (g:=Ea) (o:=.cells #[.slice Cb Ta.length Bb,.int .i64 Ma,.int .i64 Oa,.int .i64 Pa,.int .i64 nc] 68 (0,0)) (by (with_reducible repeat (first|refine Da ?_ _|refine Ga ?_|refine Ca ?_ _));exact za.out)):Fa ≠ Ea));clear za;clear HB;have za:=Gb;have HB:=Vb;have Ba:=Ac;have Df:=ud;have Sb:=ef;have Ua:=Ag;have jb:=dh;clear Gb Vb Ac ud ef Ag dh;clear hb Tb hg;have WW:=Ua.out;have DW:=jb.out;have pP:SL.cell? ⟨Ea,0,none⟩=some (.slice Cb Ta.length Bb):=(ga za.out 0).trans rfl;have oP:SL.cell? ⟨Ea,1,none⟩=some (.int .i64 Ma):=(ga za.out 1).trans rfl;have nP:SL.cell? ⟨Ea,2,none⟩=some (.int .i64 Oa):=(ga za.out 2).trans rfl;have mP:SL.cell? ⟨Ea,3,none⟩=some (.int .i64 Pa):=(ga za.out 3).trans rfl;have lP:SL.cell? ⟨Ea,4,none⟩=some (.int .i64 nc):=(ga za.out 4).trans rfl;have uN:=aa za.out 0;have tN:=aa za.out 1;have sN:=aa za.out 2;have rN:=aa za.out 3;have qN:=aa za.out 4;have RG:SL.cell? ⟨Fa,0,none⟩=some (.slice Vf Dd.length Nf):=(ga Ba.out 0).trans rfl;have QG:SL.cell? ⟨Fa,1,none⟩=some (.int .i64 Fb):=(ga Ba.out 1).trans rfl;have Aad:SL.cell? ⟨Fa,2,none⟩=some (.int .i64 Ob):=(ga Ba.out 2).trans rfl;have zad:SL.cell? ⟨Fa,3,none⟩=some (.int .i64 Rb):=(ga Ba.out 3).trans rfl;have yad:SL.cell? ⟨Fa,4,none⟩=some (.int .i64 Qc):=(ga Ba.out 4).trans rfl;have xF:=aa Ba.out 0;have wF:=aa Ba.out 1;have naa:=aa Ba.out 2;have maa:=aa Ba.out 3;have laa:=aa Ba.out 4)|((with_reducible refine mb (f:=120) rfl ?_);refine yd (some 9) rfl rfl Try.func120 (by kernel_rfl) rfl #[.slice Cb Ta.length Bb,.slice Vf Dd.length Nf] rfl (by (try simp only [List.map_toArray,List.map_cons,List.map_nil]);first|done|rfl|(simp only [List.length_drop,List.length_take];rfl)) ?_;(with_reducible refine (Nb.calls k _ _ Ta _ _ Dd true _ ?side1 ?side2 ?side3 ?side4 A3.out).mono ?_);(case side1=>repeat (first|exact (Kd.Mb ig.out HB.out)|(with_reducible refine Kd.Sc ?_ _)|(with_reducible refine Kd.Rc ?_ _)|(with_reducible refine Kd.Qd ?_)));(case side2=>exact mg.out);(case side3=>repeat (first|exact (Kd.Mb xm.out HB.out)|(with_reducible refine Kd.Sc ?_ _)|(with_reducible refine Kd.Rc ?_ _)|(with_reducible refine Kd.Qd ?_)));(case side4=>exact zo.out);rintro e Sv ⟨rfl,hb⟩;refine ⟨_,rfl,?_⟩;have Gb:=ja.mk (gb (g:=Ea) (o:=.cells #[.slice Cb Ta.length Bb,.int .i64 Ma,.int .i64 Oa,.int .i64 Pa,.int .i64 nc] 68 (0,0)) (by (with_reducible repeat (first|refine Da ?_ _|refine Ga ?_|refine Ca ?_ _));exact za.out) hb);have Vb:=ja.mk (gb (g:=Fa) (o:=.cells #[.slice Vf Dd.length Nf,.int .i64 Fb,.int .i64 Ob,.int .i64 Rb,.int .i64 Qc] 68 (0,0)) (by (with_reducible repeat (first|refine Da ?_ _|refine Ga ?_|refine Ca ?_ _));exact Ba.out) hb);have Ac:=ja.mk (Qa (by repeat (first|(with_reducible first|exact HB.out|apply qa|apply ia|apply ua|refine Aa ?_ Wa.out|refine Aa ?_ Sb.out)|exact HB.out)) hb);clear za;clear Ba;clear HB;have za:=Gb;have Ba:=Vb;have HB:=Ac;clear Gb Vb Ac;(try clear hb);(try clear hb2);(try clear hk);(try clear hi);have PG:Sv.cell? ⟨Ea,0,none⟩=some (.slice Cb Ta.length Bb):=(ga za.out 0).trans rfl;have OG:Sv.cell? ⟨Ea,1,none⟩=some (.int .i64 Ma):=(ga za.out 1).trans rfl;have xad:Sv.cell? ⟨Ea,2,none⟩=some (.int .i64 Oa):=(ga za.out 2).trans rfl;have wad:Sv.cell? ⟨Ea,3,none⟩=some (.int .i64 Pa):=(ga za.out 3).trans rfl;have vad:Sv.cell? ⟨Ea,4,none⟩=some (.int .i64 nc):=(ga za.out 4).trans rfl;have vF:=aa za.out 0;have uF:=aa za.out 1;have kaa:=aa za.out 2;have jaa:=aa za.out 3;have iaa:=aa za.out 4;have cu:Sv.cell? ⟨Fa,0,none⟩=some (.slice Vf Dd.length Nf):=(ga Ba.out 0).trans rfl;have bu:Sv.cell? ⟨Fa,1,none⟩=some (.int .i64 Fb):=(ga Ba.out 1).trans rfl;have PA:Sv.cell? ⟨Fa,2,none⟩=some (.int .i64 Ob):=(ga Ba.out 2).trans rfl;have OA:Sv.cell? ⟨Fa,3,none⟩=some (.int .i64 Rb):=(ga Ba.out 3).trans rfl;have NA:Sv.cell? ⟨Fa,4,none⟩=some (.int .i64 Qc):=(ga Ba.out 4).trans rfl;have Dt:=aa Ba.out 0;have Ct:=aa Ba.out 1;have nA:=aa Ba.out 2;have mA:=aa Ba.out 3;have lA:=aa Ba.out 4))
   go_ret
   exact ⟨by first|rfl|(simp [La,Ka] <;> rfl)|(simp [*,La,Ka] <;> rfl),by repeat (first|(with_reducible first|exact HB.out|apply qa|apply ia|apply ua|refine Aa ?_ Wa.out|refine Aa ?_ Sb.out)|exact HB.out)⟩
 ·replace c4:=Bool.eq_false_iff.mpr c4
  subst c4
  have H1:(some false)=some r:=by rw [if_neg (show ¬ (false=true) by decide)] at H;exact H
  clear H
  have H:=H1
  clear H1
  obtain rfl:=Option.some.inj H
  go_enter Try.func93,Try.ntmps93
  go_wp2_with (first|((with_reducible refine Kb (N:=2) rfl ?_);refine Eb ?hg (N:=2) ?hd (cs:=#[.slice Cb Ta.length Bb,.int .i64 Ma,.int .i64 Oa,.int .i64 Pa,.int .i64 nc]) (t:=68) ?hr ?_;(case hd=>rfl);(case hg=>rfl);(case hr=>first|(go_simp;done)|(go_simp;rfl));intro Ea hg w49 Tb hb;have Gb:=ja.mk (Qa (by repeat (first|(with_reducible first|exact HB.out|apply qa|apply ia|apply ua)|exact HB.out)) hb);have Vb:=ja.mk (Tb);have Ac:=ja.mk ((by rw [hg];exact (Ra (by repeat (first|(with_reducible first|exact HB.out|apply qa|apply ia|apply ua)|exact HB.out))):w.heap.size ≤ Ea));have ud:=ja.mk ((by rw [hg];exact (Ra (by repeat (first|(with_reducible first|exact HB.out|apply qa|apply ia|apply ua)|exact HB.out))):w.heap.size ≤ Ea));clear HB;have HB:=Gb;have za:=Vb;have Be:=Ac;have Wa:=ud;clear Gb Vb Ac ud;clear hb Tb hg)|((with_reducible refine Kb (N:=3) rfl ?_);refine Eb ?hg (N:=3) ?hd (cs:=#[.slice Vf Dd.length Nf,.int .i64 Fb,.int .i64 Ob,.int .i64 Rb,.int .i64 Qc]) (t:=68) ?hr ?_;(case hd=>rfl);(case hg=>rfl);(case hr=>first|(go_simp;done)|(go_simp;rfl));intro Fa hg Bv Tb hb;have Gb:=ja.mk (gb (g:=Ea) (o:=.cells #[.slice Cb Ta.length Bb,.int .i64 Ma,.int .i64 Oa,.int .i64 Pa,.int .i64 nc] 68 (0,0)) (by (with_reducible repeat (first|refine Da ?_ _|refine Ga ?_|refine Ca ?_ _));exact za.out) hb);have Vb:=ja.mk (Qa (by repeat (first|(with_reducible first|exact HB.out|apply qa|apply ia|apply ua|refine Aa ?_ Wa.out)|exact HB.out)) hb);have Ac:=ja.mk (Tb);have ud:=ja.mk ((by rw [hg];exact (Ra (by repeat (first|(with_reducible first|exact HB.out|apply qa|apply ia|apply ua|refine Aa ?_ Wa.out)|exact HB.out))):w.heap.size ≤ Fa));have ef:=ja.mk ((by rw [hg];exact (Ra (by repeat (first|(with_reducible first|exact HB.out|apply qa|apply ia|apply ua|refine Aa ?_ Wa.out)|exact HB.out))):w.heap.size ≤ Fa));have Ag:=ja.mk ((by rw [hg];exact Nat.ne_of_lt (Lc (g:=Ea) (o:=.cells #[.slice Cb Ta.length Bb,.int .i64 Ma,.int .i64 Oa,.int .i64 Pa,.int .i64 nc] 68 (0,0)) (by (with_reducible repeat (first|refine Da ?_ _|refine Ga ?_|refine Ca ?_ _));exact za.out)):Ea ≠ Fa));have dh:=ja.mk ((by rw [hg];exact Nat.ne_of_gt (Lc (g:=Ea) (o:=.cells #[.slice Cb Ta.length Bb,.int .i64 Ma,.int .i64 Oa,.int .i64 Pa,.int .i64 nc] 68 (0,0)) (by (with_reducible repeat (first|refine Da ?_ _|refine Ga ?_|refine Ca ?_ _));exact za.out)):Fa ≠ Ea));clear za;clear HB;have za:=Gb;have HB:=Vb;have Ba:=Ac;have Df:=ud;have Sb:=ef;have Ua:=Ag;have jb:=dh;clear Gb Vb Ac ud ef Ag dh;clear hb Tb hg;have ZJ:=Ua.out;have XJ:=jb.out;have MA:Bv.cell? ⟨Ea,0,none⟩=some (.slice Cb Ta.length Bb):=(ga za.out 0).trans rfl;have LA:Bv.cell? ⟨Ea,1,none⟩=some (.int .i64 Ma):=(ga za.out 1).trans rfl;have NG:Bv.cell? ⟨Ea,2,none⟩=some (.int .i64 Oa):=(ga za.out 2).trans rfl;have MG:Bv.cell? ⟨Ea,3,none⟩=some (.int .i64 Pa):=(ga za.out 3).trans rfl;have LG:Bv.cell? ⟨Ea,4,none⟩=some (.int .i64 nc):=(ga za.out 4).trans rfl;have kA:=aa za.out 0;have jA:=aa za.out 1;have sF:=aa za.out 2;have rF:=aa za.out 3;have qF:=aa za.out 4;have KA:Bv.cell? ⟨Fa,0,none⟩=some (.slice Vf Dd.length Nf):=(ga Ba.out 0).trans rfl;have JA:Bv.cell? ⟨Fa,1,none⟩=some (.int .i64 Fb):=(ga Ba.out 1).trans rfl;have cP:Bv.cell? ⟨Fa,2,none⟩=some (.int .i64 Ob):=(ga Ba.out 2).trans rfl;have ZO:Bv.cell? ⟨Fa,3,none⟩=some (.int .i64 Rb):=(ga Ba.out 3).trans rfl;have YO:Bv.cell? ⟨Fa,4,none⟩=some (.int .i64 Qc):=(ga Ba.out 4).trans rfl;have iA:=aa Ba.out 0;have gA:=aa Ba.out 1;have iN:=aa Ba.out 2;have gN:=aa Ba.out 3;have fN:=aa Ba.out 4)|((with_reducible refine mb (f:=120) rfl ?_);refine yd (some 9) rfl rfl Try.func120 (by kernel_rfl) rfl #[.slice Cb Ta.length Bb,.slice Vf Dd.length Nf] rfl (by (try simp only [List.map_toArray,List.map_cons,List.map_nil]);first|done|rfl|(simp only [List.length_drop,List.length_take];rfl)) ?_;(with_reducible refine (Nb.calls k _ _ Ta _ _ Dd false _ ?side1 ?side2 ?side3 ?side4 A3.out).mono ?_);(case side1=>repeat (first|exact (Kd.Mb ig.out HB.out)|(with_reducible refine Kd.Sc ?_ _)|(with_reducible refine Kd.Rc ?_ _)|(with_reducible refine Kd.Qd ?_)));(case side2=>exact mg.out);(case side3=>repeat (first|exact (Kd.Mb xm.out HB.out)|(with_reducible refine Kd.Sc ?_ _)|(with_reducible refine Kd.Rc ?_ _)|(with_reducible refine Kd.Qd ?_)));(case side4=>exact zo.out);rintro e w54 ⟨rfl,hb⟩;refine ⟨_,rfl,?_⟩;have Gb:=ja.mk (gb (g:=Ea) (o:=.cells #[.slice Cb Ta.length Bb,.int .i64 Ma,.int .i64 Oa,.int .i64 Pa,.int .i64 nc] 68 (0,0)) (by (with_reducible repeat (first|refine Da ?_ _|refine Ga ?_|refine Ca ?_ _));exact za.out) hb);have Vb:=ja.mk (gb (g:=Fa) (o:=.cells #[.slice Vf Dd.length Nf,.int .i64 Fb,.int .i64 Ob,.int .i64 Rb,.int .i64 Qc] 68 (0,0)) (by (with_reducible repeat (first|refine Da ?_ _|refine Ga ?_|refine Ca ?_ _));exact Ba.out) hb);have Ac:=ja.mk (Qa (by repeat (first|(with_reducible first|exact HB.out|apply qa|apply ia|apply ua|refine Aa ?_ Wa.out|refine Aa ?_ Sb.out)|exact HB.out)) hb);clear za;clear Ba;clear HB;have za:=Gb;have Ba:=Vb;have HB:=Ac;clear Gb Vb Ac;(try clear hb);(try clear hb2);(try clear hk);(try clear hi)))
  go_ret
  exact ⟨by first|rfl|(simp [La,Ka] <;> rfl)|(simp [*,La,Ka] <;> rfl),by repeat (first|(with_reducible first|exact HB.out|apply qa|apply ia|apply ua|refine Aa ?_ Wa.out|refine Aa ?_ Sb.out)|exact HB.out)⟩
end Go.Proofs.Ytmifdccaajngcaa.P
end
