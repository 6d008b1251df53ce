import Derived.Test.YtmifdccaajngcaaQPlaces1
set_option maxHeartbeats 8000000
set_option maxRecDepth 100000
section
namespace Go.Proofs.Ytmifdccaajngcaa.P
open Go.RowKit Go.Proofs.Sa.Ec Go.Proofs.Sa.Bf Go.Proofs.Sa.Yg
set_option linter.unusedVariables false
set_option linter.unusedSimpArgs false
attribute [local go_sem] Jk Gk ym xm Gj Fj Ik Fk
def ng.f (k:Nat) (Ta:List Int) (Pa:Int) (Oa:Int) (Ma:Int) (Ra:List (Dl)):Option (List Int × Int × Int × Int × (List (Dh))):=(Rd.f k Ta).bind fun t104=>((Sc.f k Ra).bind fun t107=>(some (t104,Pa,Oa,Ma,t107)))
theorem ng.mono:∀ a0 a1 a2 a3 a4 k,Nb (ng.f k a0 a1 a2 a3 a4) (ng.f (k + 1) a0 a1 a2 a3 a4):=by
 intro a0 a1 a2 a3 a4 k
 unfold ng.f
 repeat' first
   | (with_reducible exact Sc.mono _ _)
   | (with_reducible exact Rd.mono _ _)
   | (with_reducible exact Nb.refl _)
   | (with_reducible exact Nb.none _)
   | (with_reducible refine Nb.ite ?_ ?_)
   | (with_reducible refine Nb.bind ?_ (fun _=>?_))
   | exact Sc.mono _ _
   | exact Rd.mono _ _
   | exact Nb.none _
   | refine Nb.ite ?_ ?_
   | refine Nb.bind ?_ (fun _=>?_)
theorem ng.calls (k:Nat) (Eb:Option Addr) (Db:Nat) (Ta:List Int) (Pa:Int) (Oa:Int) (Ma:Int) (yc:Option Addr) (Zb:Nat) (Ra:List (Dl)) (r1:List Int) (r2:Int) (r3:Int) (r4:Int) (r5:List (Dh)) (w:World) (Kf:Kd.C (Kd.int .i64) w Eb Ta.length Ta) (Gf:Ta.length ≤ Db) (Bg:Kd.C fz w yc Ra.length Ra) (Jg:Ra.length ≤ Zb) (h:ng.f k Ta Pa Oa Ma Ra=some (r1,r2,r3,r4,r5)) :
  Calls Try.prog 15 #[.agg #[.slice Eb Ta.length Db,.int .i64 Pa,.int .i64 Oa,.int .i64 Ma,.slice yc Ra.length Zb]] w fun e w'=>∃ v0_ v4_:Value,e = .returned (.agg #[v0_,.int .i64 r2,.int .i64 r3,.int .i64 r4,v4_])∧Kd.R (Kd.int .i64) 3 w' w.heap.size (fun _=>True) v0_ r1∧Kd.S Tp 68 w' w.heap.size (fun _=>True) v4_ r5∧Below w.heap.size w w':=by
 have Yad:=Try.underlying25
 have vB:=Try.underlying30
 have Uf:=ja.mk Kf
 have ig:=ja.mk Gf
 clear Kf Gf
 have Zg:=ja.mk Bg
 have Li:=ja.mk Jg
 clear Bg Jg
 have HB:=ja.mk (Below.refl w.heap.size w)
 have H:((Rd.f k Ta).bind fun t104=>((Sc.f k Ra).bind fun t107=>(some (t104,Pa,Oa,Ma,t107))))=some (r1,r2,r3,r4,r5):=h
 clear h
 replace H:=Option.bind_eq_some_iff.mp H
 obtain ⟨t104,cN,H⟩:=H
 replace H:((Sc.f k Ra).bind fun t107=>(some (t104,Pa,Oa,Ma,t107)))=some (r1,r2,r3,r4,r5):=H
 have A2:=ja.mk cN
 clear cN
 replace H:=Option.bind_eq_some_iff.mp H
 obtain ⟨t107,tw,H⟩:=H
 replace H:(some (t104,Pa,Oa,Ma,t107))=some (r1,r2,r3,r4,r5):=H
 have A3:=ja.mk tw
 clear tw
 simp only [Option.some.injEq,Prod.mk.injEq] at H
 obtain ⟨rfl,rfl,rfl,rfl,rfl⟩:=H
 go_enter Try.func15,Try.ntmps15
 go_wp2_with (first|((with_reducible refine Pb (N:=1) rfl ?_);refine Kb ?hg (N:=1) ?hd (cs:=#[.slice Eb Ta.length Db,.int .i64 Pa,.int .i64 Oa,.int .i64 Ma,.slice yc Ra.length Zb]) (t:=25) ?hr ?_;(case hd=>rfl);(case hg=>rfl);(case hr=>first|(go_simp;done)|(go_simp;rfl));intro Da hg w4 Yb hb;have Qb:=ja.mk (Na (by repeat (first|(with_reducible first|exact HB.out|apply qa|apply ia|apply ua)|exact HB.out)) hb);have uc:=ja.mk (Yb);have Qc:=ja.mk ((by rw [hg];exact (Qa (by repeat (first|(with_reducible first|exact HB.out|apply qa|apply ia|apply ua)|exact HB.out))):w.heap.size ≤ Da));have Td:=ja.mk ((by rw [hg];exact (Qa (by repeat (first|(with_reducible first|exact HB.out|apply qa|apply ia|apply ua)|exact HB.out))):w.heap.size ≤ Da));clear HB;have HB:=Qb;have za:=uc;have Vf:=Qc;have Wa:=Td;clear Qb uc Qc Td hb Yb hg)|((with_reducible refine Pb (N:=2) rfl ?_);refine Kb ?hg (N:=2) ?hd (cs:=#[.slice none 0 0,.int .i64 0,.int .i64 0,.int .i64 0,.slice none 0 0]) (t:=30) ?hr ?_;(case hd=>rfl);(case hg=>rfl);(case hr=>first|(go_simp;done)|(go_simp;rfl));intro Ja hg w5 Yb hb;have Qb:=ja.mk (Ya (g:=Da) (o:=.cells #[.slice Eb Ta.length Db,.int .i64 Pa,.int .i64 Oa,.int .i64 Ma,.slice yc Ra.length Zb] 25 (0,0)) (by (with_reducible repeat (first|refine Ga ?_ _|refine Ia ?_|refine Fa ?_ _));exact za.out) hb);have uc:=ja.mk (Na (by repeat (first|(with_reducible first|exact HB.out|apply qa|apply ia|apply ua|refine Aa ?_ Wa.out)|exact HB.out)) hb);have Qc:=ja.mk (Yb);have Td:=ja.mk ((by rw [hg];exact (Qa (by repeat (first|(with_reducible first|exact HB.out|apply qa|apply ia|apply ua|refine Aa ?_ Wa.out)|exact HB.out))):w.heap.size ≤ Ja));have dh:=ja.mk ((by rw [hg];exact (Qa (by repeat (first|(with_reducible first|exact HB.out|apply qa|apply ia|apply ua|refine Aa ?_ Wa.out)|exact HB.out))):w.heap.size ≤ Ja));have Eh:=ja.mk ((by rw [hg];exact Nat.ne_of_lt (Pc (g:=Da) (o:=.cells #[.slice Eb Ta.length Db,.int .i64 Pa,.int .i64 Oa,.int .i64 Ma,.slice yc Ra.length Zb] 25 (0,0)) (by (with_reducible repeat (first|refine Ga ?_ _|refine Ia ?_|refine Fa ?_ _));exact za.out)):Da ≠ Ja));have Kh:=ja.mk ((by rw [hg];exact Nat.ne_of_gt (Pc (g:=Da) (o:=.cells #[.slice Eb Ta.length Db,.int .i64 Pa,.int .i64 Oa,.int .i64 Ma,.slice yc Ra.length Zb] 25 (0,0)) (by (with_reducible repeat (first|refine Ga ?_ _|refine Ia ?_|refine Fa ?_ _));exact za.out)):Ja ≠ Da));clear za HB;have za:=Qb;have HB:=uc;have Ba:=Qc;have Ci:=Td;have Dc:=dh;have qb:=Eh;have mb:=Kh;clear Qb uc Qc Td dh Eh Kh hb Yb hg)|((with_reducible refine Pb (N:=3) rfl ?_);refine Kb ?hg (N:=3) ?hd (cs:=#[.slice none 0 0,.int .i64 0,.int .i64 0,.int .i64 0,.slice none 0 0]) (t:=30) ?hr ?_;(case hd=>rfl);(case hg=>rfl);(case hr=>first|(go_simp;done)|(go_simp;rfl));intro we hg w6 Yb hb;have Qb:=ja.mk (Ya (g:=Da) (o:=.cells #[.slice Eb Ta.length Db,.int .i64 Pa,.int .i64 Oa,.int .i64 Ma,.slice yc Ra.length Zb] 25 (0,0)) (by (with_reducible repeat (first|refine Ga ?_ _|refine Ia ?_|refine Fa ?_ _));exact za.out) hb);have uc:=ja.mk (Ya (g:=Ja) (o:=.cells #[.slice none 0 0,.int .i64 0,.int .i64 0,.int .i64 0,.slice none 0 0] 30 (0,0)) (by (with_reducible repeat (first|refine Ga ?_ _|refine Ia ?_|refine Fa ?_ _));exact Ba.out) hb);have Qc:=ja.mk (Na (by repeat (first|(with_reducible first|exact HB.out|apply qa|apply ia|apply ua|refine Aa ?_ Wa.out|refine Aa ?_ Dc.out)|exact HB.out)) hb);have Td:=ja.mk (Yb);have dh:=ja.mk ((by rw [hg];exact (Qa (by repeat (first|(with_reducible first|exact HB.out|apply qa|apply ia|apply ua|refine Aa ?_ Wa.out|refine Aa ?_ Dc.out)|exact HB.out))):w.heap.size ≤ we));have Eh:=ja.mk ((by rw [hg];exact (Qa (by repeat (first|(with_reducible first|exact HB.out|apply qa|apply ia|apply ua|refine Aa ?_ Wa.out|refine Aa ?_ Dc.out)|exact HB.out))):w.heap.size ≤ we));have Kh:=ja.mk ((by rw [hg];exact Nat.ne_of_lt (Pc (g:=Da) (o:=.cells #[.slice Eb Ta.length Db,.int .i64 Pa,.int .i64 Oa,.int .i64 Ma,.slice yc Ra.length Zb] 25 (0,0)) (by (with_reducible repeat (first|refine Ga ?_ _|refine Ia ?_|refine Fa ?_ _));exact za.out)):Da ≠ we));have PK:=ja.mk ((by rw [hg];exact Nat.ne_of_gt (Pc (g:=Da) (o:=.cells #[.slice Eb Ta.length Db,.int .i64 Pa,.int .i64 Oa,.int .i64 Ma,.slice yc Ra.length Zb] 25 (0,0)) (by (with_reducible repeat (first|refine Ga ?_ _|refine Ia ?_|refine Fa ?_ _));exact za.out)):we ≠ Da));have OK:=ja.mk ((by rw [hg];exact Nat.ne_of_lt (Pc (g:=Ja) (o:=.cells #[.slice none 0 0,.int .i64 0,.int .i64 0,.int .i64 0,.slice none 0 0] 30 (0,0)) (by (with_reducible repeat (first|refine Ga ?_ _|refine Ia ?_|refine Fa ?_ _));exact Ba.out)):Ja ≠ we));have NK:=ja.mk ((by rw [hg];exact Nat.ne_of_gt (Pc (g:=Ja) (o:=.cells #[.slice none 0 0,.int .i64 0,.int .i64 0,.int .i64 0,.slice none 0 0] 30 (0,0)) (by (with_reducible repeat (first|refine Ga ?_ _|refine Ia ?_|refine Fa ?_ _));exact Ba.out)):we ≠ Ja));clear za Ba HB;have za:=Qb;have Ba:=uc;have HB:=Qc;have Ld:=Td;have LM:=dh;have Mi:=Eh;have Fg:=Kh;have Ah:=PK;have Ke:=OK;have zh:=NK;clear Qb uc Qc Td dh Eh Kh PK OK NK hb Yb hg;have rae:=qb.out;have eae:=mb.out;have qae:=Fg.out;have dae:=Ah.out;have Ko:w6.cell? ⟨Da,0,none⟩=some (.slice Eb Ta.length Db):=(ga za.out 0).trans rfl;have Jo:w6.cell? ⟨Da,1,none⟩=some (.int .i64 Pa):=(ga za.out 1).trans rfl;have Io:w6.cell? ⟨Da,2,none⟩=some (.int .i64 Oa):=(ga za.out 2).trans rfl;have Ho:w6.cell? ⟨Da,3,none⟩=some (.int .i64 Ma):=(ga za.out 3).trans rfl;have Fo:w6.cell? ⟨Da,4,none⟩=some (.slice yc Ra.length Zb):=(ga za.out 4).trans rfl;have Eo:=aa za.out 0;have Co:=aa za.out 1;have Bo:=aa za.out 2;have Ao:=aa za.out 3;have zo:=aa za.out 4)|((with_reducible refine xb (f:=25) rfl ?_);refine qd (some 6) rfl rfl Try.func25 (by kernel_rfl) rfl #[.slice Eb Ta.length Db] rfl (by (try simp only [List.map_toArray,List.map_cons,List.map_nil]);first|done|rfl|(simp only [List.length_drop,List.length_take];rfl)) ?_;(with_reducible refine (Rd.calls k _ _ Ta t104 _ ?side1 ?side2 A2.out).mono ?_);(case side1=>repeat (first|exact (Kd.Mb Uf.out HB.out)|(with_reducible refine Kd.Lc ?_ _)|(with_reducible refine Kd.Jc ?_ _)|(with_reducible refine Kd.Ed ?_)));(case side2=>exact ig.out);rintro e jq ⟨sS,rfl,Am,hb⟩;refine ⟨_,rfl,?_⟩;have Qb:=ja.mk (Kd.ri Am (Qa (by repeat (first|(with_reducible first|exact HB.out|apply qa|apply ia|apply ua|refine Aa ?_ Wa.out|refine Aa ?_ Dc.out|refine Aa ?_ Mi.out)|exact HB.out))));have uc:=ja.mk (Ya (g:=Da) (o:=.cells #[.slice Eb Ta.length Db,.int .i64 Pa,.int .i64 Oa,.int .i64 Ma,.slice yc Ra.length Zb] 25 (0,0)) (by (with_reducible repeat (first|refine Ga ?_ _|refine Ia ?_|refine Fa ?_ _));exact za.out) hb);have Qc:=ja.mk (Ya (g:=Ja) (o:=.cells #[.slice none 0 0,.int .i64 0,.int .i64 0,.int .i64 0,.slice none 0 0] 30 (0,0)) (by (with_reducible repeat (first|refine Ga ?_ _|refine Ia ?_|refine Fa ?_ _));exact Ba.out) hb);have Td:=ja.mk (Ya (g:=we) (o:=.cells #[.slice none 0 0,.int .i64 0,.int .i64 0,.int .i64 0,.slice none 0 0] 30 (0,0)) (by (with_reducible repeat (first|refine Ga ?_ _|refine Ia ?_|refine Fa ?_ _));exact Ld.out) hb);have dh:=ja.mk (Na (by repeat (first|(with_reducible first|exact HB.out|apply qa|apply ia|apply ua|refine Aa ?_ Wa.out|refine Aa ?_ Dc.out|refine Aa ?_ Mi.out)|exact HB.out)) hb);clear za Ba Ld HB;have Wr:=Qb;have za:=uc;have Ba:=Qc;have Ld:=Td;have HB:=dh;clear Qb uc Qc Td dh;(try clear hb);(try clear hb2);(try clear hk);(try clear hi);(try clear Am);obtain ⟨Tw,Gw,waf⟩:=Kd.Mf Wr.out;subst waf;have mL:=zh.out;have kL:=Ke.out;have Qj:jq.cell? ⟨we,0,none⟩=some (.slice none 0 0):=(ga Ld.out 0).trans rfl;have Pj:jq.cell? ⟨we,1,none⟩=some (.int .i64 0):=(ga Ld.out 1).trans rfl;have Xn:jq.cell? ⟨we,2,none⟩=some (.int .i64 0):=(ga Ld.out 2).trans rfl;have Wn:jq.cell? ⟨we,3,none⟩=some (.int .i64 0):=(ga Ld.out 3).trans rfl;have Vn:jq.cell? ⟨we,4,none⟩=some (.slice none 0 0):=(ga Ld.out 4).trans rfl;have Oj:=aa Ld.out 0;have Mj:=aa Ld.out 1;have Sn:=aa Ld.out 2;have Rn:=aa Ld.out 3;have Qn:=aa Ld.out 4;have Lp:jq.cell? ⟨Da,0,none⟩=some (.slice Eb Ta.length Db):=(ga za.out 0).trans rfl;have Kp:jq.cell? ⟨Da,1,none⟩=some (.int .i64 Pa):=(ga za.out 1).trans rfl;have Jp:jq.cell? ⟨Da,2,none⟩=some (.int .i64 Oa):=(ga za.out 2).trans rfl;have Ip:jq.cell? ⟨Da,3,none⟩=some (.int .i64 Ma):=(ga za.out 3).trans rfl;have Hp:jq.cell? ⟨Da,4,none⟩=some (.slice yc Ra.length Zb):=(ga za.out 4).trans rfl;have Dp:=aa za.out 0;have Cp:=aa za.out 1;have Bp:=aa za.out 2;have Ap:=aa za.out 3;have zp:=aa za.out 4)|((with_reducible refine xb (f:=56) rfl ?_);refine qd (some 19) rfl rfl Try.func56 (by kernel_rfl) rfl #[.slice yc Ra.length Zb] rfl (by (try simp only [List.map_toArray,List.map_cons,List.map_nil]);first|done|rfl|(simp only [List.length_drop,List.length_take];rfl)) ?_;(with_reducible refine (Sc.calls k _ _ Ra t107 _ ?side1 ?side2 A3.out).mono ?_);(case side1=>exact Kd.Mb Zg.out (by repeat (first|(with_reducible first|exact HB.out|apply qa|apply ia|apply ua|refine Aa ?_ Wa.out|refine Aa ?_ Dc.out|refine Aa ?_ Mi.out)|exact HB.out)));(case side2=>exact Li.out);rintro e Fl ⟨zV,rfl,Am,hb⟩;refine ⟨_,rfl,?_⟩;have Qb:=ja.mk (Kd.Ue (by (with_reducible repeat (first|apply Kd.Sd|apply Kd.ee|apply Kd.Ie));exact (Kd.Hg (Kd.Qk (p:=⟨we,3,none⟩) (Kd.Qk (p:=⟨we,2,none⟩) (Kd.Qk (p:=⟨we,1,none⟩) (Kd.Qk (p:=⟨we,0,none⟩) (Kd.Np Wr.out Ld.out (by decide)) (fun _ hk=>hk.2) (.slice Tw t104.length Gw)) (fun _ hk=>hk.2) (.int .i64 Pa)) (fun _ hk=>hk.2) (.int .i64 Oa)) (fun _ hk=>hk.2) (.int .i64 Ma)) (fun _ h_=>h_.1))) hb);have uc:=ja.mk (Kd.eD Am (Qa (by repeat (first|(with_reducible first|exact HB.out|apply qa|apply ia|apply ua|refine Aa ?_ Wa.out|refine Aa ?_ Dc.out|refine Aa ?_ Mi.out)|exact HB.out))));have Qc:=ja.mk (Ya (g:=Da) (o:=.cells #[.slice Eb Ta.length Db,.int .i64 Pa,.int .i64 Oa,.int .i64 Ma,.slice yc Ra.length Zb] 25 (0,0)) (by (with_reducible repeat (first|refine Ga ?_ _|refine Ia ?_|refine Fa ?_ _));refine Tc ?_ Fg.out _;(with_reducible repeat (first|refine Ga ?_ _|refine Ia ?_|refine Fa ?_ _));refine Tc ?_ Fg.out _;(with_reducible repeat (first|refine Ga ?_ _|refine Ia ?_|refine Fa ?_ _));refine Tc ?_ Fg.out _;(with_reducible repeat (first|refine Ga ?_ _|refine Ia ?_|refine Fa ?_ _));refine Tc ?_ Fg.out _;(with_reducible repeat (first|refine Ga ?_ _|refine Ia ?_|refine Fa ?_ _));exact za.out) hb);have Td:=ja.mk (Ya (g:=Ja) (o:=.cells #[.slice none 0 0,.int .i64 0,.int .i64 0,.int .i64 0,.slice none 0 0] 30 (0,0)) (by (with_reducible repeat (first|refine Ga ?_ _|refine Ia ?_|refine Fa ?_ _));refine Tc ?_ Ke.out _;(with_reducible repeat (first|refine Ga ?_ _|refine Ia ?_|refine Fa ?_ _));refine Tc ?_ Ke.out _;(with_reducible repeat (first|refine Ga ?_ _|refine Ia ?_|refine Fa ?_ _));refine Tc ?_ Ke.out _;(with_reducible repeat (first|refine Ga ?_ _|refine Ia ?_|refine Fa ?_ _));refine Tc ?_ Ke.out _;(with_reducible repeat (first|refine Ga ?_ _|refine Ia ?_|refine Fa ?_ _));exact Ba.out) hb);have dh:=ja.mk (Ya (g:=we) (o:=.cells #[.slice Tw t104.length Gw,.int .i64 Pa,.int .i64 Oa,.int .i64 Ma,.slice none 0 0] 30 (0,0)) (by (with_reducible repeat (first|refine Ga ?_ _|refine Ia ?_|refine Fa ?_ _));refine zb (cs:=#[.slice Tw t104.length Gw,.int .i64 Pa,.int .i64 Oa,.int .i64 0,.slice none 0 0]) ?_ 3 _ rfl;(with_reducible repeat (first|refine Ga ?_ _|refine Ia ?_|refine Fa ?_ _));refine zb (cs:=#[.slice Tw t104.length Gw,.int .i64 Pa,.int .i64 0,.int .i64 0,.slice none 0 0]) ?_ 2 _ rfl;(with_reducible repeat (first|refine Ga ?_ _|refine Ia ?_|refine Fa ?_ _));refine zb (cs:=#[.slice Tw t104.length Gw,.int .i64 0,.int .i64 0,.int .i64 0,.slice none 0 0]) ?_ 1 _ rfl;(with_reducible repeat (first|refine Ga ?_ _|refine Ia ?_|refine Fa ?_ _));refine zb (cs:=#[.slice none 0 0,.int .i64 0,.int .i64 0,.int .i64 0,.slice none 0 0]) ?_ 0 _ rfl;(with_reducible repeat (first|refine Ga ?_ _|refine Ia ?_|refine Fa ?_ _));exact Ld.out) hb);have Eh:=ja.mk (Na (by repeat (first|(with_reducible first|exact HB.out|apply qa|apply ia|apply ua|refine Aa ?_ Wa.out|refine Aa ?_ Dc.out|refine Aa ?_ Mi.out)|exact HB.out)) hb);clear Wr za Ba Ld HB;have Wr:=Qb;have sJ:=uc;have za:=Qc;have Ba:=Td;have Ld:=dh;have HB:=Eh;clear Qb uc Qc Td dh Eh;(try clear hb);(try clear hb2);(try clear hk);(try clear hi);(try clear Am);obtain ⟨MM,aM,vaf⟩:=Kd.Qt sJ.out;subst vaf;have RC:Fl.cell? ⟨we,0,none⟩=some (.slice Tw t104.length Gw):=(ga Ld.out 0).trans rfl;have QC:Fl.cell? ⟨we,1,none⟩=some (.int .i64 Pa):=(ga Ld.out 1).trans rfl;have OC:Fl.cell? ⟨we,2,none⟩=some (.int .i64 Oa):=(ga Ld.out 2).trans rfl;have NC:Fl.cell? ⟨we,3,none⟩=some (.int .i64 Ma):=(ga Ld.out 3).trans rfl;have MC:Fl.cell? ⟨we,4,none⟩=some (.slice none 0 0):=(ga Ld.out 4).trans rfl;have bC:=aa Ld.out 0;have aC:=aa Ld.out 1;have ZB:=aa Ld.out 2;have YB:=aa Ld.out 3;have XB:=aa Ld.out 4;have Jr:Fl.cell? ⟨Ja,0,none⟩=some (.slice none 0 0):=(ga Ba.out 0).trans rfl;have Ir:Fl.cell? ⟨Ja,1,none⟩=some (.int .i64 0):=(ga Ba.out 1).trans rfl;have Hr:Fl.cell? ⟨Ja,2,none⟩=some (.int .i64 0):=(ga Ba.out 2).trans rfl;have Gr:Fl.cell? ⟨Ja,3,none⟩=some (.int .i64 0):=(ga Ba.out 3).trans rfl;have Er:Fl.cell? ⟨Ja,4,none⟩=some (.slice none 0 0):=(ga Ba.out 4).trans rfl;have Wq:=aa Ba.out 0;have Vq:=aa Ba.out 1;have Uq:=aa Ba.out 2;have Sq:=aa Ba.out 3;have Rq:=aa Ba.out 4))
 refine bodyPost_ret (results_cell_row rfl _ _ Ja 30 #[.slice Tw t104.length Gw,.int .i64 Pa,.int .i64 Oa,.int .i64 Ma,.slice MM t107.length aM] (0,0) _ rfl (by (with_reducible repeat (first|refine Ga ?_ _|refine Ia ?_|refine Fa ?_ _));refine zb (cs:=#[.slice Tw t104.length Gw,.int .i64 Pa,.int .i64 Oa,.int .i64 Ma,.slice none 0 0]) ?_ 4 _ rfl;(with_reducible repeat (first|refine Ga ?_ _|refine Ia ?_|refine Fa ?_ _));refine zb (cs:=#[.slice Tw t104.length Gw,.int .i64 Pa,.int .i64 Oa,.int .i64 0,.slice none 0 0]) ?_ 3 _ rfl;(with_reducible repeat (first|refine Ga ?_ _|refine Ia ?_|refine Fa ?_ _));refine zb (cs:=#[.slice Tw t104.length Gw,.int .i64 Pa,.int .i64 0,.int .i64 0,.slice none 0 0]) ?_ 2 _ rfl;(with_reducible repeat (first|refine Ga ?_ _|refine Ia ?_|refine Fa ?_ _));refine zb (cs:=#[.slice Tw t104.length Gw,.int .i64 0,.int .i64 0,.int .i64 0,.slice none 0 0]) ?_ 1 _ rfl;(with_reducible repeat (first|refine Ga ?_ _|refine Ia ?_|refine Fa ?_ _));refine zb (cs:=#[.slice none 0 0,.int .i64 0,.int .i64 0,.int .i64 0,.slice none 0 0]) ?_ 0 _ rfl;(with_reducible repeat (first|refine Ga ?_ _|refine Ia ?_|refine Fa ?_ _));refine Tc ?_ Ke.out _;(with_reducible repeat (first|refine Ga ?_ _|refine Ia ?_|refine Fa ?_ _));exact Ba.out) Try.underlying30 rfl (by kernel_rfl)) rfl ?_
 exact ⟨_,_,by first|rfl|(simp [La,Ka] <;> rfl)|(simp [*,La,Ka] <;> rfl),by (with_reducible repeat (first|apply Kd.Sd|apply Kd.ee|apply Kd.Ie));exact Kd.Hg (Kd.Qk (p:=⟨Ja,4,none⟩) (Kd.Qk (p:=⟨Ja,3,none⟩) (Kd.Qk (p:=⟨Ja,2,none⟩) (Kd.Qk (p:=⟨Ja,1,none⟩) (Kd.Qk (p:=⟨Ja,0,none⟩) (Kd.Qk (p:=⟨we,4,none⟩) (Kd.Np (Kd.Np Wr.out Ld.out (by decide)) Ba.out (by decide)) (fun _ hk=>hk.1.2) (.slice MM t107.length aM)) (fun _ hk=>hk.2) (.slice Tw t104.length Gw)) (fun _ hk=>hk.2) (.int .i64 Pa)) (fun _ hk=>hk.2) (.int .i64 Oa)) (fun _ hk=>hk.2) (.int .i64 Ma)) (fun _ hk=>hk.2) (.slice MM t107.length aM)) (fun _ hk=>trivial),by (with_reducible repeat (first|apply Kd.St|apply Kd.Rt|apply Kd.tu));exact Kd.su (Kd.IA (p:=⟨Ja,4,none⟩) (Kd.IA (p:=⟨Ja,3,none⟩) (Kd.IA (p:=⟨Ja,2,none⟩) (Kd.IA (p:=⟨Ja,1,none⟩) (Kd.IA (p:=⟨Ja,0,none⟩) (Kd.IA (p:=⟨we,4,none⟩) (Kd.fJ (Kd.fJ sJ.out Ld.out (by decide)) Ba.out (by decide)) (fun _ hk=>hk.1.2) (.slice MM t107.length aM)) (fun _ hk=>hk.2) (.slice Tw t104.length Gw)) (fun _ hk=>hk.2) (.int .i64 Pa)) (fun _ hk=>hk.2) (.int .i64 Oa)) (fun _ hk=>hk.2) (.int .i64 Ma)) (fun _ hk=>hk.2) (.slice MM t107.length aM)) (fun _ hk=>trivial),by repeat (first|(with_reducible first|exact HB.out|apply qa|apply ia|apply ua|refine Aa ?_ Wa.out|refine Aa ?_ Dc.out|refine Aa ?_ Mi.out)|exact HB.out)⟩
def Jd.l0:Nat→List Int→List Int→Int→Option (Bool)
 | 0,_,_,_=>none
 | k + 1,x0,x1,x5=>if x5 < (x0.length:Int) then (if 0 ≤ x5 then (if x5 < (x1.length:Int) then (if (rd x0 x5)=(rd x1 x5) then (Jd.l0 k x0 x1 (wrap64 (x5 + 1))) else (some false)) else (none)) else (none)) else (some true)
def Jd.f (k:Nat) (l0:List Int) (l1:List Int):Option (Bool):=if (l0.length:Int)=(l1.length:Int) then (Jd.l0 k l0 l1 0) else (some false)
theorem Jd.Qd:∀ k,(∀ y0 y1 y2,Nb (Jd.l0 k y0 y1 y2) (Jd.l0 (k + 1) y0 y1 y2))
 | 0=>fun _ _ _ r h=>by simp [Jd.l0] at h
 | k + 1=>by
  have Ff:=Jd.Qd k
  ·intro y0 y1 y2
   unfold Jd.l0
   repeat' first
   | (with_reducible exact Ff _ _ _)
   | (with_reducible exact Nb.refl _)
   | (with_reducible exact Nb.none _)
   | (with_reducible refine Nb.ite ?_ ?_)
   | (with_reducible refine Nb.bind ?_ (fun _=>?_))
   | exact Ff _ _ _
   | exact Nb.none _
   | refine Nb.ite ?_ ?_
   | refine Nb.bind ?_ (fun _=>?_)
theorem Jd.mono:∀ a0 a1 k,Nb (Jd.f k a0 a1) (Jd.f (k + 1) a0 a1):=by
 intro a0 a1 k
 have Ff:=Jd.Qd k
 unfold Jd.f
 repeat' first
   | (with_reducible exact Ff _ _ _)
   | (with_reducible exact Nb.refl _)
   | (with_reducible exact Nb.none _)
   | (with_reducible refine Nb.ite ?_ ?_)
   | (with_reducible refine Nb.bind ?_ (fun _=>?_))
   | exact Ff _ _ _
   | exact Nb.none _
   | refine Nb.ite ?_ ?_
   | refine Nb.bind ?_ (fun _=>?_)
theorem Jd.calls (k:Nat) (A0:Option Addr) (c0:Nat) (l0:List Int) (A1:Option Addr) (c1:Nat) (l1:List Int) (r:Bool) (w:World) (hr0:Kd.C (Kd.int .i64) w A0 l0.length l0) (hc0:l0.length ≤ c0) (Mn:Kd.C (Kd.int .i64) w A1 l1.length l1) (XI:l1.length ≤ c1) (h:Jd.f k l0 l1=some r) :
  Calls Try.prog 20 #[.slice A0 l0.length c0,.slice A1 l1.length c1] w fun e w'=>e = .returned (.bool r)∧jc w w':=by
 have Bh:=ja.mk hr0
 have Rw:=ja.mk hc0
 clear hr0 hc0
 have lG:=ja.mk Mn
 have WU:=ja.mk XI
 clear Mn XI
 have H:(if (l0.length:Int)=(l1.length:Int) then (Jd.l0 k l0 l1 0) else (some false))=some r:=h
 clear h
 by_cases c3:(l0.length:Int)=(l1.length:Int)
 ·rw [if_pos c3] at H
  have Jh:((l0.length:Int) == (l1.length:Int))=true:=beq_iff_eq.mpr c3
  have Zp:((l0.length:Int) != (l1.length:Int))=false:=bne_eq_false_iff_eq.mpr c3
  have Bz:(l0.length == l1.length)=true:=by first|simpa using c3|(simp at c3 ⊢;omega)
  clear c3
  have H':=ja.mk H
  clear H
  go_enter Try.func20,Try.ntmps20
  go_wp2
  repeat (go_quiet (fail);try go_wp2)
  go_loopg [5] k (fun kq v5 w'=>∃ (Ca:Int),v5 = .int .i64 Ca∧ja (Jd.l0 kq l0 l1 Ca=some r)∧ja (kq ≤ k)∧jc w w')
  case atStart=>exact ⟨(0),(by first|rfl|(simp;done)|(simp [*];done)),H',⟨Nat.le_refl _⟩,by repeat (first|exact jc.refl _|apply jc.step)⟩
  case round =>
   clear H'
   try clear c1
   try clear c2
   try clear p2
   try clear c3
   try clear Jh
   try clear Zp
   try clear Bz
   (try clear HA)
   (try clear Ig)
   obtain ⟨Ca,rfl,HA,Ig,⟨m1,rfl⟩⟩:=hrel
   cases gk with
   | zero=>exact absurd HA.out (by simp [Jd.l0])
   | succ k1 =>
    have H:=HA.out
    clear HA
    simp only [Jd.l0] at H
    by_cases c4:Ca < (l0.length:Int)
    ·rw [if_pos c4] at H
     have si:decide (Ca < (l0.length:Int))=true:=decide_eq_true c4
     clear c4
     by_cases c5:0 ≤ Ca
     ·rw [if_pos c5] at H
      have Ok:decide (0 ≤ Ca)=true:=decide_eq_true c5
      clear c5
      by_cases c6:Ca < (l1.length:Int)
      ·rw [if_pos c6] at H
       have El:decide (Ca < (l1.length:Int))=true:=decide_eq_true c6
       clear c6
       by_cases c7:(rd l0 Ca)=(rd l1 Ca)
       ·rw [if_pos c7] at H
        have Uo:((rd l0 Ca) == (rd l1 Ca))=true:=beq_iff_eq.mpr c7
        have qu:((rd l0 Ca) != (rd l1 Ca))=false:=bne_eq_false_iff_eq.mpr c7
        clear c7
        have H':=ja.mk H
        clear H
        have Vd:0 ≤ (Ca:Int):=of_decide_eq_true (by first|(with_reducible assumption)|assumption)
        have Ud:Ca < (l0.length:Int):=of_decide_eq_true (by first|(with_reducible assumption)|assumption)
        obtain ⟨ic,Eg,Ob⟩:=Kd.bq Bh.out Ca Vd Ud
        cases Eg
        replace Vd:=eq_true Vd
        replace Ud:=eq_true Ud
        have Jf:0 ≤ (Ca:Int):=of_decide_eq_true (by first|(with_reducible assumption)|assumption)
        have Hf:Ca < (l1.length:Int):=of_decide_eq_true (by first|(with_reducible assumption)|assumption)
        obtain ⟨xe,gj,Rc⟩:=Kd.bq lG.out Ca Jf Hf
        cases gj
        replace Jf:=eq_true Jf
        replace Hf:=eq_true Hf
        go_wp2
        repeat (go_quiet (fail);try go_wp2)
        go_roundg k1
        case measure=>have:=Ig.out;omega
        case rel=>exact ⟨(wrap64 (Ca + 1)),(by first|rfl|(simp;done)|(simp [*];done)),H',⟨by have:=Ig.out;omega⟩,by repeat (first|exact jc.refl _|apply jc.step)⟩
       ·rw [if_neg c7] at H
        have Uo:((rd l0 Ca) == (rd l1 Ca))=false:=beq_eq_false_iff_ne.mpr c7
        have qu:((rd l0 Ca) != (rd l1 Ca))=true:=bne_iff_ne.mpr c7
        obtain rfl:=Option.some.inj H
        have Vd:0 ≤ (Ca:Int):=of_decide_eq_true (by first|(with_reducible assumption)|assumption)
        have Ud:Ca < (l0.length:Int):=of_decide_eq_true (by first|(with_reducible assumption)|assumption)
        obtain ⟨ic,Eg,Ob⟩:=Kd.bq Bh.out Ca Vd Ud
        cases Eg
        replace Vd:=eq_true Vd
        replace Ud:=eq_true Ud
        have Jf:0 ≤ (Ca:Int):=of_decide_eq_true (by first|(with_reducible assumption)|assumption)
        have Hf:Ca < (l1.length:Int):=of_decide_eq_true (by first|(with_reducible assumption)|assumption)
        obtain ⟨xe,gj,Rc⟩:=Kd.bq lG.out Ca Jf Hf
        cases gj
        replace Jf:=eq_true Jf
        replace Hf:=eq_true Hf
        go_wp2
        repeat (go_quiet (fail);try go_wp2)
        go_ret
        exact ⟨by first|rfl|(simp;done)|(simp [*];done),by repeat (first|exact jc.refl _|apply jc.step)⟩
      ·rw [if_neg c6] at H
       exact absurd H (by simp)
     ·rw [if_neg c5] at H
      exact absurd H (by simp)
    ·rw [if_neg c4] at H
     have si:decide (Ca < (l0.length:Int))=false:=decide_eq_false c4
     clear c4
     obtain rfl:=Option.some.inj H
     go_wp2
     repeat (go_quiet (fail);try go_wp2)
     go_ret
     exact ⟨by first|rfl|(simp;done)|(simp [*];done),by repeat (first|exact jc.refl _|apply jc.step)⟩
 ·rw [if_neg c3] at H
  have Jh:((l0.length:Int) == (l1.length:Int))=false:=beq_eq_false_iff_ne.mpr c3
  have Zp:((l0.length:Int) != (l1.length:Int))=true:=bne_iff_ne.mpr c3
  have Bz:(l0.length == l1.length)=false:=by first|simpa using c3|(simp at c3 ⊢;omega)
  obtain rfl:=Option.some.inj H
  go_enter Try.func20,Try.ntmps20
  go_wp2
  repeat (go_quiet (fail);try go_wp2)
  go_ret
  exact ⟨by first|rfl|(simp;done)|(simp [*];done),by repeat (first|exact jc.refl _|apply jc.step)⟩
def ck.f (Yc:Int) (Pa:Int) (Oa:Int) (Ma:Int) (Vc:Int) (ke:Int) (Le:ByteArray) (nc:Int) (Lb:Int) (Rb:Int) (Sb:Int) (Uc:Int) (fe:Int) (Je:ByteArray):Option (Bool):=if Yc=nc then (if Pa=Lb then (if Oa=Rb then (if Ma=Sb then (if Vc=Uc then (if ke=fe then (if Le.toList=Je.toList then (some true) else (some false)) else (some false)) else (some false)) else (some false)) else (some false)) else (some false)) else (some false)
theorem ck.calls (Yc:Int) (Pa:Int) (Oa:Int) (Ma:Int) (Vc:Int) (ke:Int) (Le:ByteArray) (nc:Int) (Lb:Int) (Rb:Int) (Sb:Int) (Uc:Int) (fe:Int) (Je:ByteArray) (r:Bool) (w:World) (h:ck.f Yc Pa Oa Ma Vc ke Le nc Lb Rb Sb Uc fe Je=some r) :
  Calls Try.prog 137 #[.agg #[.int .i64 Yc,.int .i64 Pa,.int .i64 Oa,.int .i64 Ma,.int .i64 Vc,.int .i64 ke,.string Le],.agg #[.int .i64 nc,.int .i64 Lb,.int .i64 Rb,.int .i64 Sb,.int .i64 Uc,.int .i64 fe,.string Je]] w fun e w'=>e = .returned (.bool r)∧Below w.heap.size w w':=by
 have MD:=Try.underlying70
 have HB:=ja.mk (Below.refl w.heap.size w)
 have H:(if Yc=nc then (if Pa=Lb then (if Oa=Rb then (if Ma=Sb then (if Vc=Uc then (if ke=fe then (if Le.toList=Je.toList then (some true) else (some false)) else (some false)) else (some false)) else (some false)) else (some false)) else (some false)) else (some false))=some r:=h
 clear h
 by_cases c3:Yc=nc
 ·rw [if_pos c3] at H
  have Jh:(Yc == nc)=true:=beq_iff_eq.mpr c3
  have Zp:(Yc != nc)=false:=bne_eq_false_iff_eq.mpr c3
  clear c3
  by_cases c4:Pa=Lb
  ·rw [if_pos c4] at H
   have si:(Pa == Lb)=true:=beq_iff_eq.mpr c4
   have lE:(Pa != Lb)=false:=bne_eq_false_iff_eq.mpr c4
   clear c4
   by_cases c5:Oa=Rb
   ·rw [if_pos c5] at H
    have Ok:(Oa == Rb)=true:=beq_iff_eq.mpr c5
    have Yp:(Oa != Rb)=false:=bne_eq_false_iff_eq.mpr c5
    clear c5
    by_cases c6:Ma=Sb
    ·rw [if_pos c6] at H
     have El:(Ma == Sb)=true:=beq_iff_eq.mpr c6
     have Ts:(Ma != Sb)=false:=bne_eq_false_iff_eq.mpr c6
     clear c6
     by_cases c7:Vc=Uc
     ·rw [if_pos c7] at H
      have Uo:(Vc == Uc)=true:=beq_iff_eq.mpr c7
      have qu:(Vc != Uc)=false:=bne_eq_false_iff_eq.mpr c7
      clear c7
      by_cases c8:ke=fe
      ·rw [if_pos c8] at H
       have Yl:(ke == fe)=true:=beq_iff_eq.mpr c8
       have sq:(ke != fe)=false:=bne_eq_false_iff_eq.mpr c8
       clear c8
       by_cases c9:Le.toList=Je.toList
       ·rw [if_pos c9] at H
        have Az:(Le.toList == Je.toList)=true:=beq_iff_eq.mpr c9
        have YC:(Le.toList != Je.toList)=false:=bne_eq_false_iff_eq.mpr c9
        clear c9
        obtain rfl:=Option.some.inj H
        go_enter Try.func137,Try.ntmps137
        go_wp2_with (first|((with_reducible refine Pb (N:=2) rfl ?_);refine Kb ?hg (N:=2) ?hd (cs:=#[.int .i64 Yc,.int .i64 Pa,.int .i64 Oa,.int .i64 Ma,.int .i64 Vc,.int .i64 ke,.string Le]) (t:=70) ?hr ?_;(case hd=>rfl);(case hg=>rfl);(case hr=>first|(go_simp;done)|(go_simp;rfl));intro Da hg jq Yb hb;have Qb:=ja.mk (Na (by repeat (first|(with_reducible first|exact HB.out|apply qa|apply ia|apply ua)|exact HB.out)) hb);have uc:=ja.mk (Yb);have Qc:=ja.mk ((by rw [hg];exact (Qa (by repeat (first|(with_reducible first|exact HB.out|apply qa|apply ia|apply ua)|exact HB.out))):w.heap.size ≤ Da));have Td:=ja.mk ((by rw [hg];exact (Qa (by repeat (first|(with_reducible first|exact HB.out|apply qa|apply ia|apply ua)|exact HB.out))):w.heap.size ≤ Da));clear HB;have HB:=Qb;have za:=uc;have Vf:=Qc;have Wa:=Td;clear Qb uc Qc Td hb Yb hg)|((with_reducible refine Pb (N:=3) rfl ?_);refine Kb ?hg (N:=3) ?hd (cs:=#[.int .i64 nc,.int .i64 Lb,.int .i64 Rb,.int .i64 Sb,.int .i64 Uc,.int .i64 fe,.string Je]) (t:=70) ?hr ?_;(case hd=>rfl);(case hg=>rfl);(case hr=>first|(go_simp;done)|(go_simp;rfl));intro Ja hg Ei Yb hb;have Qb:=ja.mk (Ya (g:=Da) (o:=.cells #[.int .i64 Yc,.int .i64 Pa,.int .i64 Oa,.int .i64 Ma,.int .i64 Vc,.int .i64 ke,.string Le] 70 (0,0)) (by (with_reducible repeat (first|refine Ga ?_ _|refine Ia ?_|refine Fa ?_ _));exact za.out) hb);have uc:=ja.mk (Na (by repeat (first|(with_reducible first|exact HB.out|apply qa|apply ia|apply ua|refine Aa ?_ Wa.out)|exact HB.out)) hb);have Qc:=ja.mk (Yb);have Td:=ja.mk ((by rw [hg];exact (Qa (by repeat (first|(with_reducible first|exact HB.out|apply qa|apply ia|apply ua|refine Aa ?_ Wa.out)|exact HB.out))):w.heap.size ≤ Ja));have dh:=ja.mk ((by rw [hg];exact (Qa (by repeat (first|(with_reducible first|exact HB.out|apply qa|apply ia|apply ua|refine Aa ?_ Wa.out)|exact HB.out))):w.heap.size ≤ Ja));have Eh:=ja.mk ((by rw [hg];exact Nat.ne_of_lt (Pc (g:=Da) (o:=.cells #[.int .i64 Yc,.int .i64 Pa,.int .i64 Oa,.int .i64 Ma,.int .i64 Vc,.int .i64 ke,.string Le] 70 (0,0)) (by (with_reducible repeat (first|refine Ga ?_ _|refine Ia ?_|refine Fa ?_ _));exact za.out)):Da ≠ Ja));have Kh:=ja.mk ((by rw [hg];exact Nat.ne_of_gt (Pc (g:=Da) (o:=.cells #[.int .i64 Yc,.int .i64 Pa,.int .i64 Oa,.int .i64 Ma,.int .i64 Vc,.int .i64 ke,.string Le] 70 (0,0)) (by (with_reducible repeat (first|refine Ga ?_ _|refine Ia ?_|refine Fa ?_ _));exact za.out)):Ja ≠ Da));clear za HB;have za:=Qb;have HB:=uc;have Ba:=Qc;have Ci:=Td;have Dc:=dh;have qb:=Eh;have mb:=Kh;clear Qb uc Qc Td dh Eh Kh hb Yb hg;have mL:=qb.out;have kL:=mb.out;have Qj:Ei.cell? ⟨Da,0,none⟩=some (.int .i64 Yc):=(ga za.out 0).trans rfl;have Pj:Ei.cell? ⟨Da,1,none⟩=some (.int .i64 Pa):=(ga za.out 1).trans rfl;have Xn:Ei.cell? ⟨Da,2,none⟩=some (.int .i64 Oa):=(ga za.out 2).trans rfl;have Wn:Ei.cell? ⟨Da,3,none⟩=some (.int .i64 Ma):=(ga za.out 3).trans rfl;have Vn:Ei.cell? ⟨Da,4,none⟩=some (.int .i64 Vc):=(ga za.out 4).trans rfl;have Ead:Ei.cell? ⟨Da,5,none⟩=some (.int .i64 ke):=(ga za.out 5).trans rfl;have Dad:Ei.cell? ⟨Da,6,none⟩=some (.string Le):=(ga za.out 6).trans rfl;have Oj:=aa za.out 0;have Mj:=aa za.out 1;have Sn:=aa za.out 2;have Rn:=aa za.out 3;have Qn:=aa za.out 4;have baa:=aa za.out 5;have aaa:=aa za.out 6;have Lp:Ei.cell? ⟨Ja,0,none⟩=some (.int .i64 nc):=(ga Ba.out 0).trans rfl;have Kp:Ei.cell? ⟨Ja,1,none⟩=some (.int .i64 Lb):=(ga Ba.out 1).trans rfl;have Jp:Ei.cell? ⟨Ja,2,none⟩=some (.int .i64 Rb):=(ga Ba.out 2).trans rfl;have Ip:Ei.cell? ⟨Ja,3,none⟩=some (.int .i64 Sb):=(ga Ba.out 3).trans rfl;have Hp:Ei.cell? ⟨Ja,4,none⟩=some (.int .i64 Uc):=(ga Ba.out 4).trans rfl;have Cad:Ei.cell? ⟨Ja,5,none⟩=some (.int .i64 fe):=(ga Ba.out 5).trans rfl;have Bad:Ei.cell? ⟨Ja,6,none⟩=some (.string Je):=(ga Ba.out 6).trans rfl;have Dp:=aa Ba.out 0;have Cp:=aa Ba.out 1;have Bp:=aa Ba.out 2;have Ap:=aa Ba.out 3;have zp:=aa Ba.out 4;have Z_:=aa Ba.out 5;have Y_:=aa Ba.out 6))
        go_ret
        exact ⟨by first|rfl|(simp [La,Ka] <;> rfl)|(simp [*,La,Ka] <;> rfl),by repeat (first|(with_reducible first|exact HB.out|apply qa|apply ia|apply ua|refine Aa ?_ Wa.out|refine Aa ?_ Dc.out)|exact HB.out)⟩
       ·rw [if_neg c9] at H
        have Az:(Le.toList == Je.toList)=false:=beq_eq_false_iff_ne.mpr c9
        have YC:(Le.toList != Je.toList)=true:=bne_iff_ne.mpr c9
        obtain rfl:=Option.some.inj H
        go_enter Try.func137,Try.ntmps137
        go_wp2_with (first|((with_reducible refine Pb (N:=2) rfl ?_);refine Kb ?hg (N:=2) ?hd (cs:=#[.int .i64 Yc,.int .i64 Pa,.int .i64 Oa,.int .i64 Ma,.int .i64 Vc,.int .i64 ke,.string Le]) (t:=70) ?hr ?_;(case hd=>rfl);(case hg=>rfl);(case hr=>first|(go_simp;done)|(go_simp;rfl));intro Da hg Fl Yb hb;have Qb:=ja.mk (Na (by repeat (first|(with_reducible first|exact HB.out|apply qa|apply ia|apply ua)|exact HB.out)) hb);have uc:=ja.mk (Yb);have Qc:=ja.mk ((by rw [hg];exact (Qa (by repeat (first|(with_reducible first|exact HB.out|apply qa|apply ia|apply ua)|exact HB.out))):w.heap.size ≤ Da));have Td:=ja.mk ((by rw [hg];exact (Qa (by repeat (first|(with_reducible first|exact HB.out|apply qa|apply ia|apply ua)|exact HB.out))):w.heap.size ≤ Da));clear HB;have HB:=Qb;have za:=uc;have Vf:=Qc;have Wa:=Td;clear Qb uc Qc Td hb Yb hg)|((with_reducible refine Pb (N:=3) rfl ?_);refine Kb ?hg (N:=3) ?hd (cs:=#[.int .i64 nc,.int .i64 Lb,.int .i64 Rb,.int .i64 Sb,.int .i64 Uc,.int .i64 fe,.string Je]) (t:=70) ?hr ?_;(case hd=>rfl);(case hg=>rfl);(case hr=>first|(go_simp;done)|(go_simp;rfl));intro Ja hg Xz Yb hb;have Qb:=ja.mk (Ya (g:=Da) (o:=.cells #[.int .i64 Yc,.int .i64 Pa,.int .i64 Oa,.int .i64 Ma,.int .i64 Vc,.int .i64 ke,.string Le] 70 (0,0)) (by (with_reducible repeat (first|refine Ga ?_ _|refine Ia ?_|refine Fa ?_ _));exact za.out) hb);have uc:=ja.mk (Na (by repeat (first|(with_reducible first|exact HB.out|apply qa|apply ia|apply ua|refine Aa ?_ Wa.out)|exact HB.out)) hb);have Qc:=ja.mk (Yb);have Td:=ja.mk ((by rw [hg];exact (Qa (by repeat (first|(with_reducible first|exact HB.out|apply qa|apply ia|apply ua|refine Aa ?_ Wa.out)|exact HB.out))):w.heap.size ≤ Ja));have dh:=ja.mk ((by rw [hg];exact (Qa (by repeat (first|(with_reducible first|exact HB.out|apply qa|apply ia|apply ua|refine Aa ?_ Wa.out)|exact HB.out))):w.heap.size ≤ Ja));have Eh:=ja.mk ((by rw [hg];exact Nat.ne_of_lt (Pc (g:=Da) (o:=.cells #[.int .i64 Yc,.int .i64 Pa,.int .i64 Oa,.int .i64 Ma,.int .i64 Vc,.int .i64 ke,.string Le] 70 (0,0)) (by (with_reducible repeat (first|refine Ga ?_ _|refine Ia ?_|refine Fa ?_ _));exact za.out)):Da ≠ Ja));have Kh:=ja.mk ((by rw [hg];exact Nat.ne_of_gt (Pc (g:=Da) (o:=.cells #[.int .i64 Yc,.int .i64 Pa,.int .i64 Oa,.int .i64 Ma,.int .i64 Vc,.int .i64 ke,.string Le] 70 (0,0)) (by (with_reducible repeat (first|refine Ga ?_ _|refine Ia ?_|refine Fa ?_ _));exact za.out)):Ja ≠ Da));clear za HB;have za:=Qb;have HB:=uc;have Ba:=Qc;have Ci:=Td;have Dc:=dh;have qb:=Eh;have mb:=Kh;clear Qb uc Qc Td dh Eh Kh hb Yb hg;have dai:=qb.out;have qah:=mb.out;have Jr:Xz.cell? ⟨Da,0,none⟩=some (.int .i64 Yc):=(ga za.out 0).trans rfl;have Ir:Xz.cell? ⟨Da,1,none⟩=some (.int .i64 Pa):=(ga za.out 1).trans rfl;have Hr:Xz.cell? ⟨Da,2,none⟩=some (.int .i64 Oa):=(ga za.out 2).trans rfl;have Gr:Xz.cell? ⟨Da,3,none⟩=some (.int .i64 Ma):=(ga za.out 3).trans rfl;have Er:Xz.cell? ⟨Da,4,none⟩=some (.int .i64 Vc):=(ga za.out 4).trans rfl;have Aad:Xz.cell? ⟨Da,5,none⟩=some (.int .i64 ke):=(ga za.out 5).trans rfl;have zad:Xz.cell? ⟨Da,6,none⟩=some (.string Le):=(ga za.out 6).trans rfl;have Wq:=aa za.out 0;have Vq:=aa za.out 1;have Uq:=aa za.out 2;have Sq:=aa za.out 3;have Rq:=aa za.out 4;have X_:=aa za.out 5;have V_:=aa za.out 6;have LC:Xz.cell? ⟨Ja,0,none⟩=some (.int .i64 nc):=(ga Ba.out 0).trans rfl;have KC:Xz.cell? ⟨Ja,1,none⟩=some (.int .i64 Lb):=(ga Ba.out 1).trans rfl;have JC:Xz.cell? ⟨Ja,2,none⟩=some (.int .i64 Rb):=(ga Ba.out 2).trans rfl;have IC:Xz.cell? ⟨Ja,3,none⟩=some (.int .i64 Sb):=(ga Ba.out 3).trans rfl;have FC:Xz.cell? ⟨Ja,4,none⟩=some (.int .i64 Uc):=(ga Ba.out 4).trans rfl;have yad:Xz.cell? ⟨Ja,5,none⟩=some (.int .i64 fe):=(ga Ba.out 5).trans rfl;have xad:Xz.cell? ⟨Ja,6,none⟩=some (.string Je):=(ga Ba.out 6).trans rfl;have WB:=aa Ba.out 0;have VB:=aa Ba.out 1;have UB:=aa Ba.out 2;have TB:=aa Ba.out 3;have SB:=aa Ba.out 4;have U_:=aa Ba.out 5;have T_:=aa Ba.out 6))
        go_ret
        exact ⟨by first|rfl|(simp [La,Ka] <;> rfl)|(simp [*,La,Ka] <;> rfl),by repeat (first|(with_reducible first|exact HB.out|apply qa|apply ia|apply ua|refine Aa ?_ Wa.out|refine Aa ?_ Dc.out)|exact HB.out)⟩
      ·rw [if_neg c8] at H
       have Yl:(ke == fe)=false:=beq_eq_false_iff_ne.mpr c8
       have sq:(ke != fe)=true:=bne_iff_ne.mpr c8
       obtain rfl:=Option.some.inj H
       go_enter Try.func137,Try.ntmps137
       go_wp2_with (first|((with_reducible refine Pb (N:=2) rfl ?_);refine Kb ?hg (N:=2) ?hd (cs:=#[.int .i64 Yc,.int .i64 Pa,.int .i64 Oa,.int .i64 Ma,.int .i64 Vc,.int .i64 ke,.string Le]) (t:=70) ?hr ?_;(case hd=>rfl);(case hg=>rfl);(case hr=>first|(go_simp;done)|(go_simp;rfl));intro Da hg dV Yb hb;have Qb:=ja.mk (Na (by repeat (first|(with_reducible first|exact HB.out|apply qa|apply ia|apply ua)|exact HB.out)) hb);have uc:=ja.mk (Yb);have Qc:=ja.mk ((by rw [hg];exact (Qa (by repeat (first|(with_reducible first|exact HB.out|apply qa|apply ia|apply ua)|exact HB.out))):w.heap.size ≤ Da));have Td:=ja.mk ((by rw [hg];exact (Qa (by repeat (first|(with_reducible first|exact HB.out|apply qa|apply ia|apply ua)|exact HB.out))):w.heap.size ≤ Da));clear HB;have HB:=Qb;have za:=uc;have Vf:=Qc;have Wa:=Td;clear Qb uc Qc Td hb Yb hg)|((with_reducible refine Pb (N:=3) rfl ?_);refine Kb ?hg (N:=3) ?hd (cs:=#[.int .i64 nc,.int .i64 Lb,.int .i64 Rb,.int .i64 Sb,.int .i64 Uc,.int .i64 fe,.string Je]) (t:=70) ?hr ?_;(case hd=>rfl);(case hg=>rfl);(case hr=>first|(go_simp;done)|(go_simp;rfl));intro Ja hg Cs Yb hb;have Qb:=ja.mk (Ya (g:=Da) (o:=.cells #[.int .i64 Yc,.int .i64 Pa,.int .i64 Oa,.int .i64 Ma,.int .i64 Vc,.int .i64 ke,.string Le] 70 (0,0)) (by (with_reducible repeat (first|refine Ga ?_ _|refine Ia ?_|refine Fa ?_ _));exact za.out) hb);have uc:=ja.mk (Na (by repeat (first|(with_reducible first|exact HB.out|apply qa|apply ia|apply ua|refine Aa ?_ Wa.out)|exact HB.out)) hb);have Qc:=ja.mk (Yb);have Td:=ja.mk ((by rw [hg];exact (Qa (by repeat (first|(with_reducible first|exact HB.out|apply qa|apply ia|apply ua|refine Aa ?_ Wa.out)|exact HB.out))):w.heap.size ≤ Ja));have dh:=ja.mk ((by rw [hg];exact (Qa (by repeat (first|(with_reducible first|exact HB.out|apply qa|apply ia|apply ua|refine Aa ?_ Wa.out)|exact HB.out))):w.heap.size ≤ Ja));have Eh:=ja.mk ((by rw [hg];exact Nat.ne_of_lt (Pc (g:=Da) (o:=.cells #[.int .i64 Yc,.int .i64 Pa,.int .i64 Oa,.int .i64 Ma,.int .i64 Vc,.int .i64 ke,.string Le] 70 (0,0)) (by (with_reducible repeat (first|refine Ga ?_ _|refine Ia ?_|refine Fa ?_ _));exact za.out)):Da ≠ Ja));have Kh:=ja.mk ((by rw [hg];exact Nat.ne_of_gt (Pc (g:=Da) (o:=.cells #[.int .i64 Yc,.int .i64 Pa,.int .i64 Oa,.int .i64 Ma,.int .i64 Vc,.int .i64 ke,.string Le] 70 (0,0)) (by (with_reducible repeat (first|refine Ga ?_ _|refine Ia ?_|refine Fa ?_ _));exact za.out)):Ja ≠ Da));clear za HB;have za:=Qb;have HB:=uc;have Ba:=Qc;have Ci:=Td;have Dc:=dh;have qb:=Eh;have mb:=Kh;clear Qb uc Qc Td dh Eh Kh hb Yb hg;have aR:=qb.out;have TQ:=mb.out;have Yk:Cs.cell? ⟨Da,0,none⟩=some (.int .i64 Yc):=(ga za.out 0).trans rfl;have Xk:Cs.cell? ⟨Da,1,none⟩=some (.int .i64 Pa):=(ga za.out 1).trans rfl;have Gp:Cs.cell? ⟨Da,2,none⟩=some (.int .i64 Oa):=(ga za.out 2).trans rfl;have Fp:Cs.cell? ⟨Da,3,none⟩=some (.int .i64 Ma):=(ga za.out 3).trans rfl;have Ep:Cs.cell? ⟨Da,4,none⟩=some (.int .i64 Vc):=(ga za.out 4).trans rfl;have wad:Cs.cell? ⟨Da,5,none⟩=some (.int .i64 ke):=(ga za.out 5).trans rfl;have vad:Cs.cell? ⟨Da,6,none⟩=some (.string Le):=(ga za.out 6).trans rfl;have Tk:=aa za.out 0;have Sk:=aa za.out 1;have yp:=aa za.out 2;have xp:=aa za.out 3;have vp:=aa za.out 4;have S_:=aa za.out 5;have R_:=aa za.out 6;have Un:Cs.cell? ⟨Ja,0,none⟩=some (.int .i64 nc):=(ga Ba.out 0).trans rfl;have Tn:Cs.cell? ⟨Ja,1,none⟩=some (.int .i64 Lb):=(ga Ba.out 1).trans rfl;have Jv:Cs.cell? ⟨Ja,2,none⟩=some (.int .i64 Rb):=(ga Ba.out 2).trans rfl;have Iv:Cs.cell? ⟨Ja,3,none⟩=some (.int .i64 Sb):=(ga Ba.out 3).trans rfl;have Hv:Cs.cell? ⟨Ja,4,none⟩=some (.int .i64 Uc):=(ga Ba.out 4).trans rfl;have uad:Cs.cell? ⟨Ja,5,none⟩=some (.int .i64 fe):=(ga Ba.out 5).trans rfl;have tad:Cs.cell? ⟨Ja,6,none⟩=some (.string Je):=(ga Ba.out 6).trans rfl;have Pn:=aa Ba.out 0;have Nn:=aa Ba.out 1;have Su:=aa Ba.out 2;have Ru:=aa Ba.out 3;have Qu:=aa Ba.out 4;have Q_:=aa Ba.out 5;have P_:=aa Ba.out 6))
       go_ret
       exact ⟨by first|rfl|(simp [La,Ka] <;> rfl)|(simp [*,La,Ka] <;> rfl),by repeat (first|(with_reducible first|exact HB.out|apply qa|apply ia|apply ua|refine Aa ?_ Wa.out|refine Aa ?_ Dc.out)|exact HB.out)⟩
     ·rw [if_neg c7] at H
      have Uo:(Vc == Uc)=false:=beq_eq_false_iff_ne.mpr c7
      have qu:(Vc != Uc)=true:=bne_iff_ne.mpr c7
      obtain rfl:=Option.some.inj H
      go_enter Try.func137,Try.ntmps137
      go_wp2_with (first|((with_reducible refine Pb (N:=2) rfl ?_);refine Kb ?hg (N:=2) ?hd (cs:=#[.int .i64 Yc,.int .i64 Pa,.int .i64 Oa,.int .i64 Ma,.int .i64 Vc,.int .i64 ke,.string Le]) (t:=70) ?hr ?_;(case hd=>rfl);(case hg=>rfl);(case hr=>first|(go_simp;done)|(go_simp;rfl));intro Da hg yV Yb hb;have Qb:=ja.mk (Na (by repeat (first|(with_reducible first|exact HB.out|apply qa|apply ia|apply ua)|exact HB.out)) hb);have uc:=ja.mk (Yb);have Qc:=ja.mk ((by rw [hg];exact (Qa (by repeat (first|(with_reducible first|exact HB.out|apply qa|apply ia|apply ua)|exact HB.out))):w.heap.size ≤ Da));have Td:=ja.mk ((by rw [hg];exact (Qa (by repeat (first|(with_reducible first|exact HB.out|apply qa|apply ia|apply ua)|exact HB.out))):w.heap.size ≤ Da));clear HB;have HB:=Qb;have za:=uc;have Vf:=Qc;have Wa:=Td;clear Qb uc Qc Td hb Yb hg)|((with_reducible refine Pb (N:=3) rfl ?_);refine Kb ?hg (N:=3) ?hd (cs:=#[.int .i64 nc,.int .i64 Lb,.int .i64 Rb,.int .i64 Sb,.int .i64 Uc,.int .i64 fe,.string Je]) (t:=70) ?hr ?_;(case hd=>rfl);(case hg=>rfl);(case hr=>first|(go_simp;done)|(go_simp;rfl));intro Ja hg Rp Yb hb;have Qb:=ja.mk (Ya (g:=Da) (o:=.cells #[.int .i64 Yc,.int .i64 Pa,.int .i64 Oa,.int .i64 Ma,.int .i64 Vc,.int .i64 ke,.string Le] 70 (0,0)) (by (with_reducible repeat (first|refine Ga ?_ _|refine Ia ?_|refine Fa ?_ _));exact za.out) hb);have uc:=ja.mk (Na (by repeat (first|(with_reducible first|exact HB.out|apply qa|apply ia|apply ua|refine Aa ?_ Wa.out)|exact HB.out)) hb);have Qc:=ja.mk (Yb);have Td:=ja.mk ((by rw [hg];exact (Qa (by repeat (first|(with_reducible first|exact HB.out|apply qa|apply ia|apply ua|refine Aa ?_ Wa.out)|exact HB.out))):w.heap.size ≤ Ja));have dh:=ja.mk ((by rw [hg];exact (Qa (by repeat (first|(with_reducible first|exact HB.out|apply qa|apply ia|apply ua|refine Aa ?_ Wa.out)|exact HB.out))):w.heap.size ≤ Ja));have Eh:=ja.mk ((by rw [hg];exact Nat.ne_of_lt (Pc (g:=Da) (o:=.cells #[.int .i64 Yc,.int .i64 Pa,.int .i64 Oa,.int .i64 Ma,.int .i64 Vc,.int .i64 ke,.string Le] 70 (0,0)) (by (with_reducible repeat (first|refine Ga ?_ _|refine Ia ?_|refine Fa ?_ _));exact za.out)):Da ≠ Ja));have Kh:=ja.mk ((by rw [hg];exact Nat.ne_of_gt (Pc (g:=Da) (o:=.cells #[.int .i64 Yc,.int .i64 Pa,.int .i64 Oa,.int .i64 Ma,.int .i64 Vc,.int .i64 ke,.string Le] 70 (0,0)) (by (with_reducible repeat (first|refine Ga ?_ _|refine Ia ?_|refine Fa ?_ _));exact za.out)):Ja ≠ Da));clear za HB;have za:=Qb;have HB:=uc;have Ba:=Qc;have Ci:=Td;have Dc:=dh;have qb:=Eh;have mb:=Kh;clear Qb uc Qc Td dh Eh Kh hb Yb hg;have YQ:=qb.out;have RQ:=mb.out;have VP:Rp.cell? ⟨Da,0,none⟩=some (.int .i64 Yc):=(ga za.out 0).trans rfl;have TP:Rp.cell? ⟨Da,1,none⟩=some (.int .i64 Pa):=(ga za.out 1).trans rfl;have SP:Rp.cell? ⟨Da,2,none⟩=some (.int .i64 Oa):=(ga za.out 2).trans rfl;have RP:Rp.cell? ⟨Da,3,none⟩=some (.int .i64 Ma):=(ga za.out 3).trans rfl;have OP:Rp.cell? ⟨Da,4,none⟩=some (.int .i64 Vc):=(ga za.out 4).trans rfl;have sad:Rp.cell? ⟨Da,5,none⟩=some (.int .i64 ke):=(ga za.out 5).trans rfl;have rad:Rp.cell? ⟨Da,6,none⟩=some (.string Le):=(ga za.out 6).trans rfl;have LO:=aa za.out 0;have KO:=aa za.out 1;have JO:=aa za.out 2;have FO:=aa za.out 3;have EO:=aa za.out 4;have O_:=aa za.out 5;have N_:=aa za.out 6;have Gt:Rp.cell? ⟨Ja,0,none⟩=some (.int .i64 nc):=(ga Ba.out 0).trans rfl;have Ft:Rp.cell? ⟨Ja,1,none⟩=some (.int .i64 Lb):=(ga Ba.out 1).trans rfl;have JI:Rp.cell? ⟨Ja,2,none⟩=some (.int .i64 Rb):=(ga Ba.out 2).trans rfl;have II:Rp.cell? ⟨Ja,3,none⟩=some (.int .i64 Sb):=(ga Ba.out 3).trans rfl;have GI:Rp.cell? ⟨Ja,4,none⟩=some (.int .i64 Uc):=(ga Ba.out 4).trans rfl;have qad:Rp.cell? ⟨Ja,5,none⟩=some (.int .i64 fe):=(ga Ba.out 5).trans rfl;have oad:Rp.cell? ⟨Ja,6,none⟩=some (.string Je):=(ga Ba.out 6).trans rfl;have ot:=aa Ba.out 0;have jt:=aa Ba.out 1;have BH:=aa Ba.out 2;have AH:=aa Ba.out 3;have zH:=aa Ba.out 4;have M_:=aa Ba.out 5;have L_:=aa Ba.out 6))
      go_ret
      exact ⟨by first|rfl|(simp [La,Ka] <;> rfl)|(simp [*,La,Ka] <;> rfl),by repeat (first|(with_reducible first|exact HB.out|apply qa|apply ia|apply ua|refine Aa ?_ Wa.out|refine Aa ?_ Dc.out)|exact HB.out)⟩
    ·rw [if_neg c6] at H
     have El:(Ma == Sb)=false:=beq_eq_false_iff_ne.mpr c6
     have Ts:(Ma != Sb)=true:=bne_iff_ne.mpr c6
     obtain rfl:=Option.some.inj H
     go_enter Try.func137,Try.ntmps137
     go_wp2_with (first|((with_reducible refine Pb (N:=2) rfl ?_);refine Kb ?hg (N:=2) ?hd (cs:=#[.int .i64 Yc,.int .i64 Pa,.int .i64 Oa,.int .i64 Ma,.int .i64 Vc,.int .i64 ke,.string Le]) (t:=70) ?hr ?_;(case hd=>rfl);(case hg=>rfl);(case hr=>first|(go_simp;done)|(go_simp;rfl));intro Da hg oK Yb hb;have Qb:=ja.mk (Na (by repeat (first|(with_reducible first|exact HB.out|apply qa|apply ia|apply ua)|exact HB.out)) hb);have uc:=ja.mk (Yb);have Qc:=ja.mk ((by rw [hg];exact (Qa (by repeat (first|(with_reducible first|exact HB.out|apply qa|apply ia|apply ua)|exact HB.out))):w.heap.size ≤ Da));have Td:=ja.mk ((by rw [hg];exact (Qa (by repeat (first|(with_reducible first|exact HB.out|apply qa|apply ia|apply ua)|exact HB.out))):w.heap.size ≤ Da));clear HB;have HB:=Qb;have za:=uc;have Vf:=Qc;have Wa:=Td;clear Qb uc Qc Td hb Yb hg)|((with_reducible refine Pb (N:=3) rfl ?_);refine Kb ?hg (N:=3) ?hd (cs:=#[.int .i64 nc,.int .i64 Lb,.int .i64 Rb,.int .i64 Sb,.int .i64 Uc,.int .i64 fe,.string Je]) (t:=70) ?hr ?_;(case hd=>rfl);(case hg=>rfl);(case hr=>first|(go_simp;done)|(go_simp;rfl));intro Ja hg xG Yb hb;have Qb:=ja.mk (Ya (g:=Da) (o:=.cells #[.int .i64 Yc,.int .i64 Pa,.int .i64 Oa,.int .i64 Ma,.int .i64 Vc,.int .i64 ke,.string Le] 70 (0,0)) (by (with_reducible repeat (first|refine Ga ?_ _|refine Ia ?_|refine Fa ?_ _));exact za.out) hb);have uc:=ja.mk (Na (by repeat (first|(with_reducible first|exact HB.out|apply qa|apply ia|apply ua|refine Aa ?_ Wa.out)|exact HB.out)) hb);have Qc:=ja.mk (Yb);have Td:=ja.mk ((by rw [hg];exact (Qa (by repeat (first|(with_reducible first|exact HB.out|apply qa|apply ia|apply ua|refine Aa ?_ Wa.out)|exact HB.out))):w.heap.size ≤ Ja));have dh:=ja.mk ((by rw [hg];exact (Qa (by repeat (first|(with_reducible first|exact HB.out|apply qa|apply ia|apply ua|refine Aa ?_ Wa.out)|exact HB.out))):w.heap.size ≤ Ja));have Eh:=ja.mk ((by rw [hg];exact Nat.ne_of_lt (Pc (g:=Da) (o:=.cells #[.int .i64 Yc,.int .i64 Pa,.int .i64 Oa,.int .i64 Ma,.int .i64 Vc,.int .i64 ke,.string Le] 70 (0,0)) (by (with_reducible repeat (first|refine Ga ?_ _|refine Ia ?_|refine Fa ?_ _));exact za.out)):Da ≠ Ja));have Kh:=ja.mk ((by rw [hg];exact Nat.ne_of_gt (Pc (g:=Da) (o:=.cells #[.int .i64 Yc,.int .i64 Pa,.int .i64 Oa,.int .i64 Ma,.int .i64 Vc,.int .i64 ke,.string Le] 70 (0,0)) (by (with_reducible repeat (first|refine Ga ?_ _|refine Ia ?_|refine Fa ?_ _));exact za.out)):Ja ≠ Da));clear za HB;have za:=Qb;have HB:=uc;have Ba:=Qc;have Ci:=Td;have Dc:=dh;have qb:=Eh;have mb:=Kh;clear Qb uc Qc Td dh Eh Kh hb Yb hg;have KW:=qb.out;have sW:=mb.out;have vC:xG.cell? ⟨Da,0,none⟩=some (.int .i64 Yc):=(ga za.out 0).trans rfl;have uC:xG.cell? ⟨Da,1,none⟩=some (.int .i64 Pa):=(ga za.out 1).trans rfl;have nad:xG.cell? ⟨Da,2,none⟩=some (.int .i64 Oa):=(ga za.out 2).trans rfl;have mad:xG.cell? ⟨Da,3,none⟩=some (.int .i64 Ma):=(ga za.out 3).trans rfl;have lad:xG.cell? ⟨Da,4,none⟩=some (.int .i64 Vc):=(ga za.out 4).trans rfl;have kad:xG.cell? ⟨Da,5,none⟩=some (.int .i64 ke):=(ga za.out 5).trans rfl;have jad:xG.cell? ⟨Da,6,none⟩=some (.string Le):=(ga za.out 6).trans rfl;have IB:=aa za.out 0;have FB:=aa za.out 1;have K_:=aa za.out 2;have J_:=aa za.out 3;have I_:=aa za.out 4;have H_:=aa za.out 5;have G_:=aa za.out 6;have BI:xG.cell? ⟨Ja,0,none⟩=some (.int .i64 nc):=(ga Ba.out 0).trans rfl;have zI:xG.cell? ⟨Ja,1,none⟩=some (.int .i64 Lb):=(ga Ba.out 1).trans rfl;have yI:xG.cell? ⟨Ja,2,none⟩=some (.int .i64 Rb):=(ga Ba.out 2).trans rfl;have xI:xG.cell? ⟨Ja,3,none⟩=some (.int .i64 Sb):=(ga Ba.out 3).trans rfl;have wI:xG.cell? ⟨Ja,4,none⟩=some (.int .i64 Uc):=(ga Ba.out 4).trans rfl;have vI:xG.cell? ⟨Ja,5,none⟩=some (.int .i64 fe):=(ga Ba.out 5).trans rfl;have uI:xG.cell? ⟨Ja,6,none⟩=some (.string Je):=(ga Ba.out 6).trans rfl;have uH:=aa Ba.out 0;have tH:=aa Ba.out 1;have sH:=aa Ba.out 2;have rH:=aa Ba.out 3;have qH:=aa Ba.out 4;have pH:=aa Ba.out 5;have oH:=aa Ba.out 6))
     go_ret
     exact ⟨by first|rfl|(simp [La,Ka] <;> rfl)|(simp [*,La,Ka] <;> rfl),by repeat (first|(with_reducible first|exact HB.out|apply qa|apply ia|apply ua|refine Aa ?_ Wa.out|refine Aa ?_ Dc.out)|exact HB.out)⟩
   ·rw [if_neg c5] at H
    have Ok:(Oa == Rb)=false:=beq_eq_false_iff_ne.mpr c5
    have Yp:(Oa != Rb)=true:=bne_iff_ne.mpr c5
    obtain rfl:=Option.some.inj H
    go_enter Try.func137,Try.ntmps137
    go_wp2_with (first|((with_reducible refine Pb (N:=2) rfl ?_);refine Kb ?hg (N:=2) ?hd (cs:=#[.int .i64 Yc,.int .i64 Pa,.int .i64 Oa,.int .i64 Ma,.int .i64 Vc,.int .i64 ke,.string Le]) (t:=70) ?hr ?_;(case hd=>rfl);(case hg=>rfl);(case hr=>first|(go_simp;done)|(go_simp;rfl));intro Da hg w35 Yb hb;have Qb:=ja.mk (Na (by repeat (first|(with_reducible first|exact HB.out|apply qa|apply ia|apply ua)|exact HB.out)) hb);have uc:=ja.mk (Yb);have Qc:=ja.mk ((by rw [hg];exact (Qa (by repeat (first|(with_reducible first|exact HB.out|apply qa|apply ia|apply ua)|exact HB.out))):w.heap.size ≤ Da));have Td:=ja.mk ((by rw [hg];exact (Qa (by repeat (first|(with_reducible first|exact HB.out|apply qa|apply ia|apply ua)|exact HB.out))):w.heap.size ≤ Da));clear HB;have HB:=Qb;have za:=uc;have Vf:=Qc;have Wa:=Td;clear Qb uc Qc Td hb Yb hg)|((with_reducible refine Pb (N:=3) rfl ?_);refine Kb ?hg (N:=3) ?hd (cs:=#[.int .i64 nc,.int .i64 Lb,.int .i64 Rb,.int .i64 Sb,.int .i64 Uc,.int .i64 fe,.string Je]) (t:=70) ?hr ?_;(case hd=>rfl);(case hg=>rfl);(case hr=>first|(go_simp;done)|(go_simp;rfl));intro Ja hg EE Yb hb;have Qb:=ja.mk (Ya (g:=Da) (o:=.cells #[.int .i64 Yc,.int .i64 Pa,.int .i64 Oa,.int .i64 Ma,.int .i64 Vc,.int .i64 ke,.string Le] 70 (0,0)) (by (with_reducible repeat (first|refine Ga ?_ _|refine Ia ?_|refine Fa ?_ _));exact za.out) hb);have uc:=ja.mk (Na (by repeat (first|(with_reducible first|exact HB.out|apply qa|apply ia|apply ua|refine Aa ?_ Wa.out)|exact HB.out)) hb);have Qc:=ja.mk (Yb);have Td:=ja.mk ((by rw [hg];exact (Qa (by repeat (first|(with_reducible first|exact HB.out|apply qa|apply ia|apply ua|refine Aa ?_ Wa.out)|exact HB.out))):w.heap.size ≤ Ja));have dh:=ja.mk ((by rw [hg];exact (Qa (by repeat (first|(with_reducible first|exact HB.out|apply qa|apply ia|apply ua|refine Aa ?_ Wa.out)|exact HB.out))):w.heap.size ≤ Ja));have Eh:=ja.mk ((by rw [hg];exact Nat.ne_of_lt (Pc (g:=Da) (o:=.cells #[.int .i64 Yc,.int .i64 Pa,.int .i64 Oa,.int .i64 Ma,.int .i64 Vc,.int .i64 ke,.string Le] 70 (0,0)) (by (with_reducible repeat (first|refine Ga ?_ _|refine Ia ?_|refine Fa ?_ _));exact za.out)):Da ≠ Ja));have Kh:=ja.mk ((by rw [hg];exact Nat.ne_of_gt (Pc (g:=Da) (o:=.cells #[.int .i64 Yc,.int .i64 Pa,.int .i64 Oa,.int .i64 Ma,.int .i64 Vc,.int .i64 ke,.string Le] 70 (0,0)) (by (with_reducible repeat (first|refine Ga ?_ _|refine Ia ?_|refine Fa ?_ _));exact za.out)):Ja ≠ Da));clear za HB;have za:=Qb;have HB:=uc;have Ba:=Qc;have Ci:=Td;have Dc:=dh;have qb:=Eh;have mb:=Kh;clear Qb uc Qc Td dh Eh Kh hb Yb hg;have GW:=qb.out;have pW:=mb.out;have tC:EE.cell? ⟨Da,0,none⟩=some (.int .i64 Yc):=(ga za.out 0).trans rfl;have sC:EE.cell? ⟨Da,1,none⟩=some (.int .i64 Pa):=(ga za.out 1).trans rfl;have rC:EE.cell? ⟨Da,2,none⟩=some (.int .i64 Oa):=(ga za.out 2).trans rfl;have qC:EE.cell? ⟨Da,3,none⟩=some (.int .i64 Ma):=(ga za.out 3).trans rfl;have oC:EE.cell? ⟨Da,4,none⟩=some (.int .i64 Vc):=(ga za.out 4).trans rfl;have qI:EE.cell? ⟨Da,5,none⟩=some (.int .i64 ke):=(ga za.out 5).trans rfl;have pI:EE.cell? ⟨Da,6,none⟩=some (.string Le):=(ga za.out 6).trans rfl;have EB:=aa za.out 0;have DB:=aa za.out 1;have CB:=aa za.out 2;have BB:=aa za.out 3;have AB:=aa za.out 4;have kH:=aa za.out 5;have jH:=aa za.out 6;have oI:EE.cell? ⟨Ja,0,none⟩=some (.int .i64 nc):=(ga Ba.out 0).trans rfl;have nI:EE.cell? ⟨Ja,1,none⟩=some (.int .i64 Lb):=(ga Ba.out 1).trans rfl;have mI:EE.cell? ⟨Ja,2,none⟩=some (.int .i64 Rb):=(ga Ba.out 2).trans rfl;have lI:EE.cell? ⟨Ja,3,none⟩=some (.int .i64 Sb):=(ga Ba.out 3).trans rfl;have kI:EE.cell? ⟨Ja,4,none⟩=some (.int .i64 Uc):=(ga Ba.out 4).trans rfl;have iad:EE.cell? ⟨Ja,5,none⟩=some (.int .i64 fe):=(ga Ba.out 5).trans rfl;have gad:EE.cell? ⟨Ja,6,none⟩=some (.string Je):=(ga Ba.out 6).trans rfl;have iH:=aa Ba.out 0;have gH:=aa Ba.out 1;have fH:=aa Ba.out 2;have eH:=aa Ba.out 3;have dH:=aa Ba.out 4;have F_:=aa Ba.out 5;have E_:=aa Ba.out 6))
    go_ret
    exact ⟨by first|rfl|(simp [La,Ka] <;> rfl)|(simp [*,La,Ka] <;> rfl),by repeat (first|(with_reducible first|exact HB.out|apply qa|apply ia|apply ua|refine Aa ?_ Wa.out|refine Aa ?_ Dc.out)|exact HB.out)⟩
  ·rw [if_neg c4] at H
   have si:(Pa == Lb)=false:=beq_eq_false_iff_ne.mpr c4
   have lE:(Pa != Lb)=true:=bne_iff_ne.mpr c4
   obtain rfl:=Option.some.inj H
   go_enter Try.func137,Try.ntmps137
   go_wp2_with (first|((with_reducible refine Pb (N:=2) rfl ?_);refine Kb ?hg (N:=2) ?hd (cs:=#[.int .i64 Yc,.int .i64 Pa,.int .i64 Oa,.int .i64 Ma,.int .i64 Vc,.int .i64 ke,.string Le]) (t:=70) ?hr ?_;(case hd=>rfl);(case hg=>rfl);(case hr=>first|(go_simp;done)|(go_simp;rfl));intro Da hg w40 Yb hb;have Qb:=ja.mk (Na (by repeat (first|(with_reducible first|exact HB.out|apply qa|apply ia|apply ua)|exact HB.out)) hb);have uc:=ja.mk (Yb);have Qc:=ja.mk ((by rw [hg];exact (Qa (by repeat (first|(with_reducible first|exact HB.out|apply qa|apply ia|apply ua)|exact HB.out))):w.heap.size ≤ Da));have Td:=ja.mk ((by rw [hg];exact (Qa (by repeat (first|(with_reducible first|exact HB.out|apply qa|apply ia|apply ua)|exact HB.out))):w.heap.size ≤ Da));clear HB;have HB:=Qb;have za:=uc;have Vf:=Qc;have Wa:=Td;clear Qb uc Qc Td hb Yb hg)|((with_reducible refine Pb (N:=3) rfl ?_);refine Kb ?hg (N:=3) ?hd (cs:=#[.int .i64 nc,.int .i64 Lb,.int .i64 Rb,.int .i64 Sb,.int .i64 Uc,.int .i64 fe,.string Je]) (t:=70) ?hr ?_;(case hd=>rfl);(case hg=>rfl);(case hr=>first|(go_simp;done)|(go_simp;rfl));intro Ja hg DE Yb hb;have Qb:=ja.mk (Ya (g:=Da) (o:=.cells #[.int .i64 Yc,.int .i64 Pa,.int .i64 Oa,.int .i64 Ma,.int .i64 Vc,.int .i64 ke,.string Le] 70 (0,0)) (by (with_reducible repeat (first|refine Ga ?_ _|refine Ia ?_|refine Fa ?_ _));exact za.out) hb);have uc:=ja.mk (Na (by repeat (first|(with_reducible first|exact HB.out|apply qa|apply ia|apply ua|refine Aa ?_ Wa.out)|exact HB.out)) hb);have Qc:=ja.mk (Yb);have Td:=ja.mk ((by rw [hg];exact (Qa (by repeat (first|(with_reducible first|exact HB.out|apply qa|apply ia|apply ua|refine Aa ?_ Wa.out)|exact HB.out))):w.heap.size ≤ Ja));have dh:=ja.mk ((by rw [hg];exact (Qa (by repeat (first|(with_reducible first|exact HB.out|apply qa|apply ia|apply ua|refine Aa ?_ Wa.out)|exact HB.out))):w.heap.size ≤ Ja));have Eh:=ja.mk ((by rw [hg];exact Nat.ne_of_lt (Pc (g:=Da) (o:=.cells #[.int .i64 Yc,.int .i64 Pa,.int .i64 Oa,.int .i64 Ma,.int .i64 Vc,.int .i64 ke,.string Le] 70 (0,0)) (by (with_reducible repeat (first|refine Ga ?_ _|refine Ia ?_|refine Fa ?_ _));exact za.out)):Da ≠ Ja));have Kh:=ja.mk ((by rw [hg];exact Nat.ne_of_gt (Pc (g:=Da) (o:=.cells #[.int .i64 Yc,.int .i64 Pa,.int .i64 Oa,.int .i64 Ma,.int .i64 Vc,.int .i64 ke,.string Le] 70 (0,0)) (by (with_reducible repeat (first|refine Ga ?_ _|refine Ia ?_|refine Fa ?_ _));exact za.out)):Ja ≠ Da));clear za HB;have za:=Qb;have HB:=uc;have Ba:=Qc;have Ci:=Td;have Dc:=dh;have qb:=Eh;have mb:=Kh;clear Qb uc Qc Td dh Eh Kh hb Yb hg;have Uah:=qb.out;have hah:=mb.out;have uP:DE.cell? ⟨Da,0,none⟩=some (.int .i64 Yc):=(ga za.out 0).trans rfl;have tP:DE.cell? ⟨Da,1,none⟩=some (.int .i64 Pa):=(ga za.out 1).trans rfl;have sP:DE.cell? ⟨Da,2,none⟩=some (.int .i64 Oa):=(ga za.out 2).trans rfl;have rP:DE.cell? ⟨Da,3,none⟩=some (.int .i64 Ma):=(ga za.out 3).trans rfl;have qP:DE.cell? ⟨Da,4,none⟩=some (.int .i64 Vc):=(ga za.out 4).trans rfl;have fad:DE.cell? ⟨Da,5,none⟩=some (.int .i64 ke):=(ga za.out 5).trans rfl;have ead:DE.cell? ⟨Da,6,none⟩=some (.string Le):=(ga za.out 6).trans rfl;have kO:=aa za.out 0;have jO:=aa za.out 1;have iO:=aa za.out 2;have hO:=aa za.out 3;have gO:=aa za.out 4;have D_:=aa za.out 5;have C_:=aa za.out 6;have pP:DE.cell? ⟨Ja,0,none⟩=some (.int .i64 nc):=(ga Ba.out 0).trans rfl;have oP:DE.cell? ⟨Ja,1,none⟩=some (.int .i64 Lb):=(ga Ba.out 1).trans rfl;have nP:DE.cell? ⟨Ja,2,none⟩=some (.int .i64 Rb):=(ga Ba.out 2).trans rfl;have mP:DE.cell? ⟨Ja,3,none⟩=some (.int .i64 Sb):=(ga Ba.out 3).trans rfl;have lP:DE.cell? ⟨Ja,4,none⟩=some (.int .i64 Uc):=(ga Ba.out 4).trans rfl;have dad:DE.cell? ⟨Ja,5,none⟩=some (.int .i64 fe):=(ga Ba.out 5).trans rfl;have cad:DE.cell? ⟨Ja,6,none⟩=some (.string Je):=(ga Ba.out 6).trans rfl;have fO:=aa Ba.out 0;have eO:=aa Ba.out 1;have dO:=aa Ba.out 2;have cO:=aa Ba.out 3;have bO:=aa Ba.out 4;have B_:=aa Ba.out 5;have A_:=aa Ba.out 6))
   go_ret
   exact ⟨by first|rfl|(simp [La,Ka] <;> rfl)|(simp [*,La,Ka] <;> rfl),by repeat (first|(with_reducible first|exact HB.out|apply qa|apply ia|apply ua|refine Aa ?_ Wa.out|refine Aa ?_ Dc.out)|exact HB.out)⟩
 ·rw [if_neg c3] at H
  have Jh:(Yc == nc)=false:=beq_eq_false_iff_ne.mpr c3
  have Zp:(Yc != nc)=true:=bne_iff_ne.mpr c3
  obtain rfl:=Option.some.inj H
  go_enter Try.func137,Try.ntmps137
  go_wp2_with (first|((with_reducible refine Pb (N:=2) rfl ?_);refine Kb ?hg (N:=2) ?hd (cs:=#[.int .i64 Yc,.int .i64 Pa,.int .i64 Oa,.int .i64 Ma,.int .i64 Vc,.int .i64 ke,.string Le]) (t:=70) ?hr ?_;(case hd=>rfl);(case hg=>rfl);(case hr=>first|(go_simp;done)|(go_simp;rfl));intro Da hg w45 Yb hb;have Qb:=ja.mk (Na (by repeat (first|(with_reducible first|exact HB.out|apply qa|apply ia|apply ua)|exact HB.out)) hb);have uc:=ja.mk (Yb);have Qc:=ja.mk ((by rw [hg];exact (Qa (by repeat (first|(with_reducible first|exact HB.out|apply qa|apply ia|apply ua)|exact HB.out))):w.heap.size ≤ Da));have Td:=ja.mk ((by rw [hg];exact (Qa (by repeat (first|(with_reducible first|exact HB.out|apply qa|apply ia|apply ua)|exact HB.out))):w.heap.size ≤ Da));clear HB;have HB:=Qb;have za:=uc;have Vf:=Qc;have Wa:=Td;clear Qb uc Qc Td hb Yb hg)|((with_reducible refine Pb (N:=3) rfl ?_);refine Kb ?hg (N:=3) ?hd (cs:=#[.int .i64 nc,.int .i64 Lb,.int .i64 Rb,.int .i64 Sb,.int .i64 Uc,.int .i64 fe,.string Je]) (t:=70) ?hr ?_;(case hd=>rfl);(case hg=>rfl);(case hr=>first|(go_simp;done)|(go_simp;rfl));intro Ja hg ux Yb hb;have Qb:=ja.mk (Ya (g:=Da) (o:=.cells #[.int .i64 Yc,.int .i64 Pa,.int .i64 Oa,.int .i64 Ma,.int .i64 Vc,.int .i64 ke,.string Le] 70 (0,0)) (by (with_reducible repeat (first|refine Ga ?_ _|refine Ia ?_|refine Fa ?_ _));exact za.out) hb);have uc:=ja.mk (Na (by repeat (first|(with_reducible first|exact HB.out|apply qa|apply ia|apply ua|refine Aa ?_ Wa.out)|exact HB.out)) hb);have Qc:=ja.mk (Yb);have Td:=ja.mk ((by rw [hg];exact (Qa (by repeat (first|(with_reducible first|exact HB.out|apply qa|apply ia|apply ua|refine Aa ?_ Wa.out)|exact HB.out))):w.heap.size ≤ Ja));have dh:=ja.mk ((by rw [hg];exact (Qa (by repeat (first|(with_reducible first|exact HB.out|apply qa|apply ia|apply ua|refine Aa ?_ Wa.out)|exact HB.out))):w.heap.size ≤ Ja));have Eh:=ja.mk ((by rw [hg];exact Nat.ne_of_lt (Pc (g:=Da) (o:=.cells #[.int .i64 Yc,.int .i64 Pa,.int .i64 Oa,.int .i64 Ma,.int .i64 Vc,.int .i64 ke,.string Le] 70 (0,0)) (by (with_reducible repeat (first|refine Ga ?_ _|refine Ia ?_|refine Fa ?_ _));exact za.out)):Da ≠ Ja));have Kh:=ja.mk ((by rw [hg];exact Nat.ne_of_gt (Pc (g:=Da) (o:=.cells #[.int .i64 Yc,.int .i64 Pa,.int .i64 Oa,.int .i64 Ma,.int .i64 Vc,.int .i64 ke,.string Le] 70 (0,0)) (by (with_reducible repeat (first|refine Ga ?_ _|refine Ia ?_|refine Fa ?_ _));exact za.out)):Ja ≠ Da));clear za HB;have za:=Qb;have HB:=uc;have Ba:=Qc;have Ci:=Td;have Dc:=dh;have qb:=Eh;have mb:=Kh;clear Qb uc Qc Td dh Eh Kh hb Yb hg;have WQ:=qb.out;have NQ:=mb.out;have Cv:ux.cell? ⟨Da,0,none⟩=some (.int .i64 Yc):=(ga za.out 0).trans rfl;have Bv:ux.cell? ⟨Da,1,none⟩=some (.int .i64 Pa):=(ga za.out 1).trans rfl;have nC:ux.cell? ⟨Da,2,none⟩=some (.int .i64 Oa):=(ga za.out 2).trans rfl;have mC:ux.cell? ⟨Da,3,none⟩=some (.int .i64 Ma):=(ga za.out 3).trans rfl;have lC:ux.cell? ⟨Da,4,none⟩=some (.int .i64 Vc):=(ga za.out 4).trans rfl;have kP:ux.cell? ⟨Da,5,none⟩=some (.int .i64 ke):=(ga za.out 5).trans rfl;have jP:ux.cell? ⟨Da,6,none⟩=some (.string Le):=(ga za.out 6).trans rfl;have Mu:=aa za.out 0;have Lu:=aa za.out 1;have zB:=aa za.out 2;have yB:=aa za.out 3;have xB:=aa za.out 4;have ZN:=aa za.out 5;have YN:=aa za.out 6;have iP:ux.cell? ⟨Ja,0,none⟩=some (.int .i64 nc):=(ga Ba.out 0).trans rfl;have gP:ux.cell? ⟨Ja,1,none⟩=some (.int .i64 Lb):=(ga Ba.out 1).trans rfl;have fP:ux.cell? ⟨Ja,2,none⟩=some (.int .i64 Rb):=(ga Ba.out 2).trans rfl;have eP:ux.cell? ⟨Ja,3,none⟩=some (.int .i64 Sb):=(ga Ba.out 3).trans rfl;have dP:ux.cell? ⟨Ja,4,none⟩=some (.int .i64 Uc):=(ga Ba.out 4).trans rfl;have Uac:ux.cell? ⟨Ja,5,none⟩=some (.int .i64 fe):=(ga Ba.out 5).trans rfl;have Tac:ux.cell? ⟨Ja,6,none⟩=some (.string Je):=(ga Ba.out 6).trans rfl;have XN:=aa Ba.out 0;have WN:=aa Ba.out 1;have VN:=aa Ba.out 2;have UN:=aa Ba.out 3;have TN:=aa Ba.out 4;have r_:=aa Ba.out 5;have q_:=aa Ba.out 6))
  go_ret
  exact ⟨by first|rfl|(simp [La,Ka] <;> rfl)|(simp [*,La,Ka] <;> rfl),by repeat (first|(with_reducible first|exact HB.out|apply qa|apply ia|apply ua|refine Aa ?_ Wa.out|refine Aa ?_ Dc.out)|exact HB.out)⟩
def Wb.l0:Nat→List (yf)→List (yf)→Int→Option (Bool)
 | 0,_,_,_=>none
 | k + 1,x0,x1,x5=>if x5 < (x0.length:Int) then (if 0 ≤ x5 then (if x5 < (x1.length:Int) then ((ck.f ((Ea x0 x5).f0) ((Ea x0 x5).f1) ((Ea x0 x5).f2) ((Ea x0 x5).f3) ((Ea x0 x5).f4) ((Ea x0 x5).f5) ((Ea x0 x5).f6) ((Ea x1 x5).f0) ((Ea x1 x5).f1) ((Ea x1 x5).f2) ((Ea x1 x5).f3) ((Ea x1 x5).f4) ((Ea x1 x5).f5) ((Ea x1 x5).f6)).bind fun t103=>(if t103=true then (Wb.l0 k x0 x1 (wrap64 (x5 + 1))) else (some false))) else (none)) else (none)) else (some true)
def Wb.f (k:Nat) (l0:List (yf)) (l1:List (yf)):Option (Bool):=if (l0.length:Int)=(l1.length:Int) then (Wb.l0 k l0 l1 0) else (some false)
theorem Wb.Qd:∀ k,(∀ y0 y1 y2,Nb (Wb.l0 k y0 y1 y2) (Wb.l0 (k + 1) y0 y1 y2))
 | 0=>fun _ _ _ r h=>by simp [Wb.l0] at h
 | k + 1=>by
  have Ff:=Wb.Qd k
  ·intro y0 y1 y2
   unfold Wb.l0
   repeat' first
   | (with_reducible exact Ff _ _ _)
   | (with_reducible exact Nb.refl _)
   | (with_reducible exact Nb.none _)
   | (with_reducible refine Nb.ite ?_ ?_)
   | (with_reducible refine Nb.bind ?_ (fun _=>?_))
   | exact Ff _ _ _
   | exact Nb.none _
   | refine Nb.ite ?_ ?_
   | refine Nb.bind ?_ (fun _=>?_)
theorem Wb.mono:∀ a0 a1 k,Nb (Wb.f k a0 a1) (Wb.f (k + 1) a0 a1):=by
 intro a0 a1 k
 have Ff:=Wb.Qd k
 unfold Wb.f
 repeat' first
   | (with_reducible exact Ff _ _ _)
   | (with_reducible exact Nb.refl _)
   | (with_reducible exact Nb.none _)
   | (with_reducible refine Nb.ite ?_ ?_)
   | (with_reducible refine Nb.bind ?_ (fun _=>?_))
   | exact Ff _ _ _
   | exact Nb.none _
   | refine Nb.ite ?_ ?_
   | refine Nb.bind ?_ (fun _=>?_)
def Wb.T6:Bool × List (List Nat × List Nat):=(true,[([],[]),([],[]),([0,1],[0,1]),([2],[2]),([],[]),([],[]),([4,5],[4,5]),([6],[6]),([3,7],[3,7]),([8],[8])])
def Wb.B6:List Nat:=[0,0,3,7,0,0,48,112,255,511]
theorem Wb.xD:Gm .any (opsOf Try.f120 6)=Wb.T6:=by kernel_rfl
theorem Wb.gx:um Wb.T6.2 Wb.B6=true:=by kernel_rfl
theorem Wb.calls (k:Nat) (A0:Option Addr) (c0:Nat) (l0:List (yf)) (A1:Option Addr) (c1:Nat) (l1:List (yf)) (r:Bool) (w:World) (hr0:Kd.C Uj w A0 l0.length l0) (hc0:l0.length ≤ c0) (Mn:Kd.C Uj w A1 l1.length l1) (XI:l1.length ≤ c1) (h:Wb.f k l0 l1=some r) :
  Calls Try.prog 120 #[.slice A0 l0.length c0,.slice A1 l1.length c1] w fun e w'=>e = .returned (.bool r)∧Below w.heap.size w w':=by
 have MD:=Try.underlying70
 have Bh:=ja.mk hr0
 have Rw:=ja.mk hc0
 clear hr0 hc0
 have lG:=ja.mk Mn
 have WU:=ja.mk XI
 clear Mn XI
 have HB:=ja.mk (Below.refl w.heap.size w)
 have H:(if (l0.length:Int)=(l1.length:Int) then (Wb.l0 k l0 l1 0) else (some false))=some r:=h
 clear h
 by_cases c3:(l0.length:Int)=(l1.length:Int)
 ·rw [if_pos c3] at H
  have Jh:((l0.length:Int) == (l1.length:Int))=true:=beq_iff_eq.mpr c3
  have Zp:((l0.length:Int) != (l1.length:Int))=false:=bne_eq_false_iff_eq.mpr c3
  have Bz:(l0.length == l1.length)=true:=by first|simpa using c3|(simp at c3 ⊢;omega)
  clear c3
  have H':=ja.mk H
  clear H
  go_enter Try.func120,Try.ntmps120
  go_wp2
  go_loopg [5] k (fun kq v5 w'=>∃ (Ca:Int),v5 = .int .i64 Ca∧ja (Wb.l0 kq l0 l1 Ca=some r)∧ja (kq ≤ k)∧ja (Below w.heap.size w w'))
  case atStart=>exact ⟨(0),(by first|rfl|(simp;done)|(simp [*];done)),H',⟨Nat.le_refl _⟩,⟨by repeat (first|(with_reducible first|exact HB.out|apply qa|apply ia|apply ua)|exact HB.out)⟩⟩
  case round =>
   clear H'
   try clear c1
   try clear p2
   try clear c3
   try clear Jh
   try clear Zp
   try clear Bz
   (try clear HA)
   (try clear Ig)
   (try clear HB)
   obtain ⟨Ca,rfl,HA,Ig,HB⟩:=hrel
   cases gk with
   | zero=>exact absurd HA.out (by simp [Wb.l0])
   | succ k1 =>
    have H:=HA.out
    clear HA
    simp only [Wb.l0] at H
    by_cases c4:Ca < (l0.length:Int)
    ·rw [if_pos c4] at H
     have si:decide (Ca < (l0.length:Int))=true:=decide_eq_true c4
     clear c4
     by_cases c5:0 ≤ Ca
     ·rw [if_pos c5] at H
      have Ok:decide (0 ≤ Ca)=true:=decide_eq_true c5
      clear c5
      by_cases c6:Ca < (l1.length:Int)
      ·rw [if_pos c6] at H
       have El:decide (Ca < (l1.length:Int))=true:=decide_eq_true c6
       clear c6
       replace H:=Option.bind_eq_some_iff.mp H
       obtain ⟨t103,Gx,H⟩:=H
       replace H:(if t103=true then (Wb.l0 k1 l0 l1 (wrap64 (Ca + 1))) else (some false))=some r:=H
       have A7:=ja.mk Gx
       clear Gx
       by_cases c8:t103=true
       ·subst c8
        have H1:(Wb.l0 k1 l0 l1 (wrap64 (Ca + 1)))=some r:=by rw [if_pos rfl] at H;exact H
        clear H
        have H:=H1
        clear H1
        have H':=ja.mk H
        clear H
        try go_wp2
        have Qb:=ja.mk (ua HB.out)
        clear HB
        have HB:=Qb
        clear Qb
        have Vd:0 ≤ (Ca:Int):=of_decide_eq_true (by first|(with_reducible assumption)|assumption)
        have Ud:Ca < (l0.length:Int):=of_decide_eq_true (by first|(with_reducible assumption)|assumption)
        obtain ⟨ic,Eg,Ob,Vb,Ub,Tb,Cc,Ce,Be⟩:=kf Bh.out Ca Vd Ud
        have Kn:=Be
        have Ln:=Ce
        have Th:=Cc
        have xg:=Tb
        have yg:=Ub
        have zg:=Vb
        have Ag:=Ob
        cases Eg
        replace Ob:=(HB.out.cell (World.block_lt_of_cell? w _ Ob)).trans Ob
        replace Vb:=(HB.out.cell (World.block_lt_of_cell? w _ Vb)).trans Vb
        replace Ub:=(HB.out.cell (World.block_lt_of_cell? w _ Ub)).trans Ub
        replace Tb:=(HB.out.cell (World.block_lt_of_cell? w _ Tb)).trans Tb
        replace Cc:=(HB.out.cell (World.block_lt_of_cell? w _ Cc)).trans Cc
        replace Ce:=(HB.out.cell (World.block_lt_of_cell? w _ Ce)).trans Ce
        replace Be:=(HB.out.cell (World.block_lt_of_cell? w _ Be)).trans Be
        replace Vd:=eq_true Vd
        replace Ud:=eq_true Ud
        have Jf:0 ≤ (Ca:Int):=of_decide_eq_true (by first|(with_reducible assumption)|assumption)
        have Hf:Ca < (l1.length:Int):=of_decide_eq_true (by first|(with_reducible assumption)|assumption)
        obtain ⟨xe,gj,Rc,Dd,Cd,Bd,Ae,jf,gf⟩:=kf lG.out Ca Jf Hf
        have Gn:=gf
        have Jn:=jf
        have Sh:=Ae
        have qg:=Bd
        have sg:=Cd
        have ug:=Dd
        have wg:=Rc
        cases gj
        replace Rc:=(HB.out.cell (World.block_lt_of_cell? w _ Rc)).trans Rc
        replace Dd:=(HB.out.cell (World.block_lt_of_cell? w _ Dd)).trans Dd
        replace Cd:=(HB.out.cell (World.block_lt_of_cell? w _ Cd)).trans Cd
        replace Bd:=(HB.out.cell (World.block_lt_of_cell? w _ Bd)).trans Bd
        replace Ae:=(HB.out.cell (World.block_lt_of_cell? w _ Ae)).trans Ae
        replace jf:=(HB.out.cell (World.block_lt_of_cell? w _ jf)).trans jf
        replace gf:=(HB.out.cell (World.block_lt_of_cell? w _ gf)).trans gf
        replace Jf:=eq_true Jf
        replace Hf:=eq_true Hf
        refine Oi (n:=10) (S:=fun w'=>w'.cell? (ic.add ((Ca).toNat * 7))=some (.int .i64 ((Ea l0 Ca).f0))∧w'.cell? ⟨(ic.add ((Ca).toNat * 7)).block,(ic.add ((Ca).toNat * 7)).off + 1,none⟩=some (.int .i64 ((Ea l0 Ca).f1))∧w'.cell? ⟨(ic.add ((Ca).toNat * 7)).block,(ic.add ((Ca).toNat * 7)).off + 2,none⟩=some (.int .i64 ((Ea l0 Ca).f2))∧w'.cell? ⟨(ic.add ((Ca).toNat * 7)).block,(ic.add ((Ca).toNat * 7)).off + 3,none⟩=some (.int .i64 ((Ea l0 Ca).f3))∧w'.cell? ⟨(ic.add ((Ca).toNat * 7)).block,(ic.add ((Ca).toNat * 7)).off + 4,none⟩=some (.int .i64 ((Ea l0 Ca).f4))∧w'.cell? ⟨(ic.add ((Ca).toNat * 7)).block,(ic.add ((Ca).toNat * 7)).off + 5,none⟩=some (.int .i64 ((Ea l0 Ca).f5))∧w'.cell? ⟨(ic.add ((Ca).toNat * 7)).block,(ic.add ((Ca).toNat * 7)).off + 6,none⟩=some (.string ((Ea l0 Ca).f6))∧w'.cell? (xe.add ((Ca).toNat * 7))=some (.int .i64 ((Ea l1 Ca).f0))∧w'.cell? ⟨(xe.add ((Ca).toNat * 7)).block,(xe.add ((Ca).toNat * 7)).off + 1,none⟩=some (.int .i64 ((Ea l1 Ca).f1))∧w'.cell? ⟨(xe.add ((Ca).toNat * 7)).block,(xe.add ((Ca).toNat * 7)).off + 2,none⟩=some (.int .i64 ((Ea l1 Ca).f2))∧w'.cell? ⟨(xe.add ((Ca).toNat * 7)).block,(xe.add ((Ca).toNat * 7)).off + 3,none⟩=some (.int .i64 ((Ea l1 Ca).f3))∧w'.cell? ⟨(xe.add ((Ca).toNat * 7)).block,(xe.add ((Ca).toNat * 7)).off + 4,none⟩=some (.int .i64 ((Ea l1 Ca).f4))∧w'.cell? ⟨(xe.add ((Ca).toNat * 7)).block,(xe.add ((Ca).toNat * 7)).off + 5,none⟩=some (.int .i64 ((Ea l1 Ca).f5))∧w'.cell? ⟨(xe.add ((Ca).toNat * 7)).block,(xe.add ((Ca).toNat * 7)).off + 6,none⟩=some (.string ((Ea l1 Ca).f6))) (ds:=[]) #[false,false,false,false,false,false,false,false,false,false] (by kernel_rfl) rfl rfl ⟨((HB.out.cell (World.block_lt_of_cell? w _ Ag)).trans Ag),((HB.out.cell (World.block_lt_of_cell? w _ zg)).trans zg),((HB.out.cell (World.block_lt_of_cell? w _ yg)).trans yg),((HB.out.cell (World.block_lt_of_cell? w _ xg)).trans xg),((HB.out.cell (World.block_lt_of_cell? w _ Th)).trans Th),((HB.out.cell (World.block_lt_of_cell? w _ Ln)).trans Ln),((HB.out.cell (World.block_lt_of_cell? w _ Kn)).trans Kn),((HB.out.cell (World.block_lt_of_cell? w _ wg)).trans wg),((HB.out.cell (World.block_lt_of_cell? w _ ug)).trans ug),((HB.out.cell (World.block_lt_of_cell? w _ sg)).trans sg),((HB.out.cell (World.block_lt_of_cell? w _ qg)).trans qg),((HB.out.cell (World.block_lt_of_cell? w _ Sh)).trans Sh),((HB.out.cell (World.block_lt_of_cell? w _ Jn)).trans Jn),((HB.out.cell (World.block_lt_of_cell? w _ Gn)).trans Gn)⟩ (fun hHeld=>?_);refine Xh Wb.xD Wb.gx (fun cg Vr=>?_)
        generalize wr.drew=w9 at HB Ob Vb Ub Tb Cc Ce Be Rc Dd Cd Bd Ae jf gf hHeld ⊢
        refine Nc (i:=0) (N:=some 17) (v:=?_) (a':=?_) #[true,false,false,false,false,false,false,false,false,false] rfl rfl (ud cg.out (by kernel_rfl)) (fun _ _ _ h=>h) (Or.inl ⟨by rfl,?_⟩) ?_ ?_
        rotate_left
        ·intro w'
         go_simp
         with_reducible rfl
        rotate_left
        ·simp only [Act.put,List.setIfInBounds_toArray,List.set_cons_zero,List.set_cons_succ,Bb,Cb]
         rfl
        refine Nc (i:=1) (N:=some 18) (v:=?_) (a':=?_) #[true,true,false,false,false,false,false,false,false,false] rfl rfl (ud cg.out (by kernel_rfl)) (fun _ _ _ h=>h) (Or.inl ⟨by rfl,?_⟩) ?_ ?_
        rotate_left
        ·intro w'
         go_simp
         with_reducible rfl
        rotate_left
        ·simp only [Act.put,List.setIfInBounds_toArray,List.set_cons_zero,List.set_cons_succ,Bb,Cb]
         rfl
        refine Nc (i:=2) (N:=some 19) (v:=?_) (a':=?_) #[true,true,true,false,false,false,false,false,false,false] rfl rfl (ud cg.out (by kernel_rfl)) (fun _ _ _ h=>h) (Or.inl ⟨by rfl,?_⟩) ?_ ?_
        rotate_left
        ·intro w'
         go_simp
         with_reducible rfl
        rotate_left
        ·simp only [Act.put,List.setIfInBounds_toArray,List.set_cons_zero,List.set_cons_succ,Bb,Cb]
         rfl
        refine Nc (i:=4) (N:=some 21) (v:=?_) (a':=?_) #[true,true,true,false,true,false,false,false,false,false] rfl rfl (ud cg.out (by kernel_rfl)) (fun _ _ _ h=>h) (Or.inl ⟨by rfl,?_⟩) ?_ ?_
        rotate_left
        ·intro w'
         go_simp
         with_reducible rfl
        rotate_left
        ·simp only [Act.put,List.setIfInBounds_toArray,List.set_cons_zero,List.set_cons_succ,Bb,Cb]
         rfl
        refine Nc (i:=5) (N:=some 22) (v:=?_) (a':=?_) #[true,true,true,false,true,true,false,false,false,false] rfl rfl (ud cg.out (by kernel_rfl)) (fun _ _ _ h=>h) (Or.inl ⟨by rfl,?_⟩) ?_ ?_
        rotate_left
        ·intro w'
         go_simp
         with_reducible rfl
        rotate_left
        ·simp only [Act.put,List.setIfInBounds_toArray,List.set_cons_zero,List.set_cons_succ,Bb,Cb]
         rfl
        refine Nc (i:=6) (N:=some 23) (v:=?_) (a':=?_) #[true,true,true,false,true,true,true,false,false,false] rfl rfl (ud cg.out (by kernel_rfl)) (fun _ _ _ h=>h) (Or.inl ⟨by rfl,?_⟩) ?_ ?_
        rotate_left
        ·intro w'
         go_simp
         with_reducible rfl
        rotate_left
        ·simp only [Act.put,List.setIfInBounds_toArray,List.set_cons_zero,List.set_cons_succ,Bb,Cb]
         rfl
        refine Lf (i:=3) (N:=some 20) (v:=?_) (a':=?_) #[true,true,true,true,true,true,true,false,false,false] rfl rfl (Pf cg.out Vr.out (by kernel_rfl)) (fun _ _ _ h=>h) (Or.inl ⟨by rfl,?_⟩) hHeld ?_ ?_
        rotate_left
        ·rintro w' ⟨s0,s1,s2,s3,s4,s5,s6,s7,s8,s9,rN,qN,pN,oN⟩
         go_simp
         with_reducible rfl
        rotate_left
        ·simp only [Act.put,List.setIfInBounds_toArray,List.set_cons_zero,List.set_cons_succ,Bb,Cb]
         rfl
        refine Lf (i:=7) (N:=some 24) (v:=?_) (a':=?_) #[true,true,true,true,true,true,true,true,false,false] rfl rfl (Pf cg.out Vr.out (by kernel_rfl)) (fun _ _ _ h=>h) (Or.inl ⟨by rfl,?_⟩) hHeld ?_ ?_
        rotate_left
        ·rintro w' ⟨s0,s1,s2,s3,s4,s5,s6,s7,s8,s9,rN,qN,pN,oN⟩
         go_simp
         with_reducible rfl
        rotate_left
        ·simp only [Act.put,List.setIfInBounds_toArray,List.set_cons_zero,List.set_cons_succ,Bb,Cb]
         rfl
        refine gm (i:=8) (N:=some 25) #[true,true,true,true,true,true,true,true,true,false] rfl rfl (Pm cg.out (by kernel_rfl)) (by decide) (fun K hK=>?_)
        refine Qm Try.func137 (by kernel_rfl) rfl #[.agg #[.int .i64 ((Ea l0 Ca).f0),.int .i64 ((Ea l0 Ca).f1),.int .i64 ((Ea l0 Ca).f2),.int .i64 ((Ea l0 Ca).f3),.int .i64 ((Ea l0 Ca).f4),.int .i64 ((Ea l0 Ca).f5),.string ((Ea l0 Ca).f6)],.agg #[.int .i64 ((Ea l1 Ca).f0),.int .i64 ((Ea l1 Ca).f1),.int .i64 ((Ea l1 Ca).f2),.int .i64 ((Ea l1 Ca).f3),.int .i64 ((Ea l1 Ca).f4),.int .i64 ((Ea l1 Ca).f5),.string ((Ea l1 Ca).f6)]] (by rfl) rfl rfl (by (try simp only [List.map_toArray,List.map_cons,List.map_nil]);first|done|rfl|(simp only [List.length_drop,List.length_take];rfl)) ?_
        with_reducible refine (ck.calls ((Ea l0 Ca).f0) ((Ea l0 Ca).f1) ((Ea l0 Ca).f2) ((Ea l0 Ca).f3) ((Ea l0 Ca).f4) ((Ea l0 Ca).f5) ((Ea l0 Ca).f6) ((Ea l1 Ca).f0) ((Ea l1 Ca).f1) ((Ea l1 Ca).f2) ((Ea l1 Ca).f3) ((Ea l1 Ca).f4) ((Ea l1 Ca).f5) ((Ea l1 Ca).f6) true _ A7.out).mono ?_
        rintro e jq ⟨rfl,hb⟩
        refine ⟨_,rfl,?_⟩
        have Qb:=ja.mk (Na (by repeat (first|(with_reducible first|exact HB.out|apply qa|apply ia|apply ua)|exact HB.out)) hb)
        clear HB
        have HB:=Qb
        clear Qb
        (try clear hb)
        (try clear hb2)
        (try clear hk)
        (try clear hi)
        refine hK.out _ _ ⟨((HB.out.cell (World.block_lt_of_cell? w _ Ag)).trans Ag),((HB.out.cell (World.block_lt_of_cell? w _ zg)).trans zg),((HB.out.cell (World.block_lt_of_cell? w _ yg)).trans yg),((HB.out.cell (World.block_lt_of_cell? w _ xg)).trans xg),((HB.out.cell (World.block_lt_of_cell? w _ Th)).trans Th),((HB.out.cell (World.block_lt_of_cell? w _ Ln)).trans Ln),((HB.out.cell (World.block_lt_of_cell? w _ Kn)).trans Kn),((HB.out.cell (World.block_lt_of_cell? w _ wg)).trans wg),((HB.out.cell (World.block_lt_of_cell? w _ ug)).trans ug),((HB.out.cell (World.block_lt_of_cell? w _ sg)).trans sg),((HB.out.cell (World.block_lt_of_cell? w _ qg)).trans qg),((HB.out.cell (World.block_lt_of_cell? w _ Sh)).trans Sh),((HB.out.cell (World.block_lt_of_cell? w _ Jn)).trans Jn),((HB.out.cell (World.block_lt_of_cell? w _ Gn)).trans Gn)⟩ (fun hHeld=>?_)
        clear hK K
        refine Mg (a':=?_) ?_ ?_
        rotate_left
        ·show Act.put _ (some 25) _=_
         simp only [Act.put,List.setIfInBounds_toArray,List.set_cons_zero,List.set_cons_succ,Bb,Cb]
         rfl
        refine Nc (i:=9) (N:=some 26) (v:=?_) (a':=?_) #[true,true,true,true,true,true,true,true,true,true] rfl rfl (ud cg.out (by kernel_rfl)) (fun _ _ _ h=>h) (Or.inl ⟨by rfl,?_⟩) ?_ ?_
        rotate_left
        ·intro w'
         go_simp
         with_reducible rfl
        rotate_left
        ·simp only [Act.put,List.setIfInBounds_toArray,List.set_cons_zero,List.set_cons_succ,Bb,Cb]
         rfl
        refine Mk (Bk cg.out (by kernel_rfl)) ?_
        try go_wp2
        go_roundg k1
        case measure=>have:=Ig.out;omega
        case rel=>exact ⟨(wrap64 (Ca + 1)),(by first|rfl|(simp;done)|(simp [*];done)),H',⟨by have:=Ig.out;omega⟩,⟨by repeat (first|(with_reducible first|exact HB.out|apply qa|apply ia|apply ua)|exact HB.out)⟩⟩
       ·replace c8:=Bool.eq_false_iff.mpr c8
        subst c8
        have H1:(some false)=some r:=by rw [if_neg (show ¬ (false=true) by decide)] at H;exact H
        clear H
        have H:=H1
        clear H1
        obtain rfl:=Option.some.inj H
        try go_wp2
        have Qb:=ja.mk (ua HB.out)
        clear HB
        have HB:=Qb
        clear Qb
        have Vd:0 ≤ (Ca:Int):=of_decide_eq_true (by first|(with_reducible assumption)|assumption)
        have Ud:Ca < (l0.length:Int):=of_decide_eq_true (by first|(with_reducible assumption)|assumption)
        obtain ⟨ic,Eg,Ob,Vb,Ub,Tb,Cc,Ce,Be⟩:=kf Bh.out Ca Vd Ud
        have Kn:=Be
        have Ln:=Ce
        have Th:=Cc
        have xg:=Tb
        have yg:=Ub
        have zg:=Vb
        have Ag:=Ob
        cases Eg
        replace Ob:=(HB.out.cell (World.block_lt_of_cell? w _ Ob)).trans Ob
        replace Vb:=(HB.out.cell (World.block_lt_of_cell? w _ Vb)).trans Vb
        replace Ub:=(HB.out.cell (World.block_lt_of_cell? w _ Ub)).trans Ub
        replace Tb:=(HB.out.cell (World.block_lt_of_cell? w _ Tb)).trans Tb
        replace Cc:=(HB.out.cell (World.block_lt_of_cell? w _ Cc)).trans Cc
        replace Ce:=(HB.out.cell (World.block_lt_of_cell? w _ Ce)).trans Ce
        replace Be:=(HB.out.cell (World.block_lt_of_cell? w _ Be)).trans Be
        replace Vd:=eq_true Vd
        replace Ud:=eq_true Ud
        have Jf:0 ≤ (Ca:Int):=of_decide_eq_true (by first|(with_reducible assumption)|assumption)
        have Hf:Ca < (l1.length:Int):=of_decide_eq_true (by first|(with_reducible assumption)|assumption)
        obtain ⟨xe,gj,Rc,Dd,Cd,Bd,Ae,jf,gf⟩:=kf lG.out Ca Jf Hf
        have Gn:=gf
        have Jn:=jf
        have Sh:=Ae
        have qg:=Bd
        have sg:=Cd
        have ug:=Dd
        have wg:=Rc
        cases gj
        replace Rc:=(HB.out.cell (World.block_lt_of_cell? w _ Rc)).trans Rc
        replace Dd:=(HB.out.cell (World.block_lt_of_cell? w _ Dd)).trans Dd
        replace Cd:=(HB.out.cell (World.block_lt_of_cell? w _ Cd)).trans Cd
        replace Bd:=(HB.out.cell (World.block_lt_of_cell? w _ Bd)).trans Bd
        replace Ae:=(HB.out.cell (World.block_lt_of_cell? w _ Ae)).trans Ae
        replace jf:=(HB.out.cell (World.block_lt_of_cell? w _ jf)).trans jf
        replace gf:=(HB.out.cell (World.block_lt_of_cell? w _ gf)).trans gf
        replace Jf:=eq_true Jf
        replace Hf:=eq_true Hf
        refine Oi (n:=10) (S:=fun w'=>w'.cell? (ic.add ((Ca).toNat * 7))=some (.int .i64 ((Ea l0 Ca).f0))∧w'.cell? ⟨(ic.add ((Ca).toNat * 7)).block,(ic.add ((Ca).toNat * 7)).off + 1,none⟩=some (.int .i64 ((Ea l0 Ca).f1))∧w'.cell? ⟨(ic.add ((Ca).toNat * 7)).block,(ic.add ((Ca).toNat * 7)).off + 2,none⟩=some (.int .i64 ((Ea l0 Ca).f2))∧w'.cell? ⟨(ic.add ((Ca).toNat * 7)).block,(ic.add ((Ca).toNat * 7)).off + 3,none⟩=some (.int .i64 ((Ea l0 Ca).f3))∧w'.cell? ⟨(ic.add ((Ca).toNat * 7)).block,(ic.add ((Ca).toNat * 7)).off + 4,none⟩=some (.int .i64 ((Ea l0 Ca).f4))∧w'.cell? ⟨(ic.add ((Ca).toNat * 7)).block,(ic.add ((Ca).toNat * 7)).off + 5,none⟩=some (.int .i64 ((Ea l0 Ca).f5))∧w'.cell? ⟨(ic.add ((Ca).toNat * 7)).block,(ic.add ((Ca).toNat * 7)).off + 6,none⟩=some (.string ((Ea l0 Ca).f6))∧w'.cell? (xe.add ((Ca).toNat * 7))=some (.int .i64 ((Ea l1 Ca).f0))∧w'.cell? ⟨(xe.add ((Ca).toNat * 7)).block,(xe.add ((Ca).toNat * 7)).off + 1,none⟩=some (.int .i64 ((Ea l1 Ca).f1))∧w'.cell? ⟨(xe.add ((Ca).toNat * 7)).block,(xe.add ((Ca).toNat * 7)).off + 2,none⟩=some (.int .i64 ((Ea l1 Ca).f2))∧w'.cell? ⟨(xe.add ((Ca).toNat * 7)).block,(xe.add ((Ca).toNat * 7)).off + 3,none⟩=some (.int .i64 ((Ea l1 Ca).f3))∧w'.cell? ⟨(xe.add ((Ca).toNat * 7)).block,(xe.add ((Ca).toNat * 7)).off + 4,none⟩=some (.int .i64 ((Ea l1 Ca).f4))∧w'.cell? ⟨(xe.add ((Ca).toNat * 7)).block,(xe.add ((Ca).toNat * 7)).off + 5,none⟩=some (.int .i64 ((Ea l1 Ca).f5))∧w'.cell? ⟨(xe.add ((Ca).toNat * 7)).block,(xe.add ((Ca).toNat * 7)).off + 6,none⟩=some (.string ((Ea l1 Ca).f6))) (ds:=[]) #[false,false,false,false,false,false,false,false,false,false] (by kernel_rfl) rfl rfl ⟨((HB.out.cell (World.block_lt_of_cell? w _ Ag)).trans Ag),((HB.out.cell (World.block_lt_of_cell? w _ zg)).trans zg),((HB.out.cell (World.block_lt_of_cell? w _ yg)).trans yg),((HB.out.cell (World.block_lt_of_cell? w _ xg)).trans xg),((HB.out.cell (World.block_lt_of_cell? w _ Th)).trans Th),((HB.out.cell (World.block_lt_of_cell? w _ Ln)).trans Ln),((HB.out.cell (World.block_lt_of_cell? w _ Kn)).trans Kn),((HB.out.cell (World.block_lt_of_cell? w _ wg)).trans wg),((HB.out.cell (World.block_lt_of_cell? w _ ug)).trans ug),((HB.out.cell (World.block_lt_of_cell? w _ sg)).trans sg),((HB.out.cell (World.block_lt_of_cell? w _ qg)).trans qg),((HB.out.cell (World.block_lt_of_cell? w _ Sh)).trans Sh),((HB.out.cell (World.block_lt_of_cell? w _ Jn)).trans Jn),((HB.out.cell (World.block_lt_of_cell? w _ Gn)).trans Gn)⟩ (fun hHeld=>?_);refine Xh Wb.xD Wb.gx (fun cg Vr=>?_)
        generalize wr.drew=Ei at HB Ob Vb Ub Tb Cc Ce Be Rc Dd Cd Bd Ae jf gf hHeld ⊢
        refine Nc (i:=0) (N:=some 17) (v:=?_) (a':=?_) #[true,false,false,false,false,false,false,false,false,false] rfl rfl (ud cg.out (by kernel_rfl)) (fun _ _ _ h=>h) (Or.inl ⟨by rfl,?_⟩) ?_ ?_
        rotate_left
        ·intro w'
         go_simp
         with_reducible rfl
        rotate_left
        ·simp only [Act.put,List.setIfInBounds_toArray,List.set_cons_zero,List.set_cons_succ,Bb,Cb]
         rfl
        refine Nc (i:=1) (N:=some 18) (v:=?_) (a':=?_) #[true,true,false,false,false,false,false,false,false,false] rfl rfl (ud cg.out (by kernel_rfl)) (fun _ _ _ h=>h) (Or.inl ⟨by rfl,?_⟩) ?_ ?_
        rotate_left
        ·intro w'
         go_simp
         with_reducible rfl
        rotate_left
        ·simp only [Act.put,List.setIfInBounds_toArray,List.set_cons_zero,List.set_cons_succ,Bb,Cb]
         rfl
        refine Nc (i:=2) (N:=some 19) (v:=?_) (a':=?_) #[true,true,true,false,false,false,false,false,false,false] rfl rfl (ud cg.out (by kernel_rfl)) (fun _ _ _ h=>h) (Or.inl ⟨by rfl,?_⟩) ?_ ?_
        rotate_left
        ·intro w'
         go_simp
         with_reducible rfl
        rotate_left
        ·simp only [Act.put,List.setIfInBounds_toArray,List.set_cons_zero,List.set_cons_succ,Bb,Cb]
         rfl
        refine Nc (i:=4) (N:=some 21) (v:=?_) (a':=?_) #[true,true,true,false,true,false,false,false,false,false] rfl rfl (ud cg.out (by kernel_rfl)) (fun _ _ _ h=>h) (Or.inl ⟨by rfl,?_⟩) ?_ ?_
        rotate_left
        ·intro w'
         go_simp
         with_reducible rfl
        rotate_left
        ·simp only [Act.put,List.setIfInBounds_toArray,List.set_cons_zero,List.set_cons_succ,Bb,Cb]
         rfl
        refine Nc (i:=5) (N:=some 22) (v:=?_) (a':=?_) #[true,true,true,false,true,true,false,false,false,false] rfl rfl (ud cg.out (by kernel_rfl)) (fun _ _ _ h=>h) (Or.inl ⟨by rfl,?_⟩) ?_ ?_
        rotate_left
        ·intro w'
         go_simp
         with_reducible rfl
        rotate_left
        ·simp only [Act.put,List.setIfInBounds_toArray,List.set_cons_zero,List.set_cons_succ,Bb,Cb]
         rfl
        refine Nc (i:=6) (N:=some 23) (v:=?_) (a':=?_) #[true,true,true,false,true,true,true,false,false,false] rfl rfl (ud cg.out (by kernel_rfl)) (fun _ _ _ h=>h) (Or.inl ⟨by rfl,?_⟩) ?_ ?_
        rotate_left
        ·intro w'
         go_simp
         with_reducible rfl
        rotate_left
        ·simp only [Act.put,List.setIfInBounds_toArray,List.set_cons_zero,List.set_cons_succ,Bb,Cb]
         rfl
        refine Lf (i:=3) (N:=some 20) (v:=?_) (a':=?_) #[true,true,true,true,true,true,true,false,false,false] rfl rfl (Pf cg.out Vr.out (by kernel_rfl)) (fun _ _ _ h=>h) (Or.inl ⟨by rfl,?_⟩) hHeld ?_ ?_
        rotate_left
        ·rintro w' ⟨s0,s1,s2,s3,s4,s5,s6,s7,s8,s9,rN,qN,pN,oN⟩
         go_simp
         with_reducible rfl
        rotate_left
        ·simp only [Act.put,List.setIfInBounds_toArray,List.set_cons_zero,List.set_cons_succ,Bb,Cb]
         rfl
        refine Lf (i:=7) (N:=some 24) (v:=?_) (a':=?_) #[true,true,true,true,true,true,true,true,false,false] rfl rfl (Pf cg.out Vr.out (by kernel_rfl)) (fun _ _ _ h=>h) (Or.inl ⟨by rfl,?_⟩) hHeld ?_ ?_
        rotate_left
        ·rintro w' ⟨s0,s1,s2,s3,s4,s5,s6,s7,s8,s9,rN,qN,pN,oN⟩
         go_simp
         with_reducible rfl
        rotate_left
        ·simp only [Act.put,List.setIfInBounds_toArray,List.set_cons_zero,List.set_cons_succ,Bb,Cb]
         rfl
        refine gm (i:=8) (N:=some 25) #[true,true,true,true,true,true,true,true,true,false] rfl rfl (Pm cg.out (by kernel_rfl)) (by decide) (fun K hK=>?_)
        refine Qm Try.func137 (by kernel_rfl) rfl #[.agg #[.int .i64 ((Ea l0 Ca).f0),.int .i64 ((Ea l0 Ca).f1),.int .i64 ((Ea l0 Ca).f2),.int .i64 ((Ea l0 Ca).f3),.int .i64 ((Ea l0 Ca).f4),.int .i64 ((Ea l0 Ca).f5),.string ((Ea l0 Ca).f6)],.agg #[.int .i64 ((Ea l1 Ca).f0),.int .i64 ((Ea l1 Ca).f1),.int .i64 ((Ea l1 Ca).f2),.int .i64 ((Ea l1 Ca).f3),.int .i64 ((Ea l1 Ca).f4),.int .i64 ((Ea l1 Ca).f5),.string ((Ea l1 Ca).f6)]] (by rfl) rfl rfl (by (try simp only [List.map_toArray,List.map_cons,List.map_nil]);first|done|rfl|(simp only [List.length_drop,List.length_take];rfl)) ?_
        with_reducible refine (ck.calls ((Ea l0 Ca).f0) ((Ea l0 Ca).f1) ((Ea l0 Ca).f2) ((Ea l0 Ca).f3) ((Ea l0 Ca).f4) ((Ea l0 Ca).f5) ((Ea l0 Ca).f6) ((Ea l1 Ca).f0) ((Ea l1 Ca).f1) ((Ea l1 Ca).f2) ((Ea l1 Ca).f3) ((Ea l1 Ca).f4) ((Ea l1 Ca).f5) ((Ea l1 Ca).f6) false _ A7.out).mono ?_
        rintro e sA ⟨rfl,hb⟩
        refine ⟨_,rfl,?_⟩
        have Qb:=ja.mk (Na (by repeat (first|(with_reducible first|exact HB.out|apply qa|apply ia|apply ua)|exact HB.out)) hb)
        clear HB
        have HB:=Qb
        clear Qb
        (try clear hb)
        (try clear hb2)
        (try clear hk)
        (try clear hi)
        refine hK.out _ _ ⟨((HB.out.cell (World.block_lt_of_cell? w _ Ag)).trans Ag),((HB.out.cell (World.block_lt_of_cell? w _ zg)).trans zg),((HB.out.cell (World.block_lt_of_cell? w _ yg)).trans yg),((HB.out.cell (World.block_lt_of_cell? w _ xg)).trans xg),((HB.out.cell (World.block_lt_of_cell? w _ Th)).trans Th),((HB.out.cell (World.block_lt_of_cell? w _ Ln)).trans Ln),((HB.out.cell (World.block_lt_of_cell? w _ Kn)).trans Kn),((HB.out.cell (World.block_lt_of_cell? w _ wg)).trans wg),((HB.out.cell (World.block_lt_of_cell? w _ ug)).trans ug),((HB.out.cell (World.block_lt_of_cell? w _ sg)).trans sg),((HB.out.cell (World.block_lt_of_cell? w _ qg)).trans qg),((HB.out.cell (World.block_lt_of_cell? w _ Sh)).trans Sh),((HB.out.cell (World.block_lt_of_cell? w _ Jn)).trans Jn),((HB.out.cell (World.block_lt_of_cell? w _ Gn)).trans Gn)⟩ (fun hHeld=>?_)
        clear hK K
        refine Mg (a':=?_) ?_ ?_
        rotate_left
        ·show Act.put _ (some 25) _=_
         simp only [Act.put,List.setIfInBounds_toArray,List.set_cons_zero,List.set_cons_succ,Bb,Cb]
         rfl
        refine Nc (i:=9) (N:=some 26) (v:=?_) (a':=?_) #[true,true,true,true,true,true,true,true,true,true] rfl rfl (ud cg.out (by kernel_rfl)) (fun _ _ _ h=>h) (Or.inl ⟨by rfl,?_⟩) ?_ ?_
        rotate_left
        ·intro w'
         go_simp
         with_reducible rfl
        rotate_left
        ·simp only [Act.put,List.setIfInBounds_toArray,List.set_cons_zero,List.set_cons_succ,Bb,Cb]
         rfl
        refine Mk (Bk cg.out (by kernel_rfl)) ?_
        try go_wp2
        go_ret
        exact ⟨by first|rfl|(simp [La,Ka] <;> rfl)|(simp [*,La,Ka] <;> rfl),by repeat (first|(with_reducible first|exact HB.out|apply qa|apply ia|apply ua)|exact HB.out)⟩
      ·rw [if_neg c6] at H
       exact absurd H (by simp)
     ·rw [if_neg c5] at H
      exact absurd H (by simp)
    ·rw [if_neg c4] at H
     have si:decide (Ca < (l0.length:Int))=false:=decide_eq_false c4
     clear c4
     obtain rfl:=Option.some.inj H
     go_wp2
     go_ret
     exact ⟨by first|rfl|(simp [La,Ka] <;> rfl)|(simp [*,La,Ka] <;> rfl),by repeat (first|(with_reducible first|exact HB.out|apply qa|apply ia|apply ua)|exact HB.out)⟩
 ·rw [if_neg c3] at H
  have Jh:((l0.length:Int) == (l1.length:Int))=false:=beq_eq_false_iff_ne.mpr c3
  have Zp:((l0.length:Int) != (l1.length:Int))=true:=bne_iff_ne.mpr c3
  have Bz:(l0.length == l1.length)=false:=by first|simpa using c3|(simp at c3 ⊢;omega)
  obtain rfl:=Option.some.inj H
  go_enter Try.func120,Try.ntmps120
  go_wp2
  go_ret
  exact ⟨by first|rfl|(simp [La,Ka] <;> rfl)|(simp [*,La,Ka] <;> rfl),by repeat (first|(with_reducible first|exact HB.out|apply qa|apply ia|apply ua)|exact HB.out)⟩
def pg.f (k:Nat) (Ta:List (yf)) (Pa:Int) (Oa:Int) (Ma:Int) (Vc:Int) (Nd:List (yf)) (Lb:Int) (Rb:Int) (Sb:Int) (Uc:Int):Option (Bool):=(Wb.f k Ta Nd).bind fun t103=>(if t103=true then (if Pa=Lb then (if Oa=Rb then (if Ma=Sb then (if Vc=Uc then (some true) else (some false)) else (some false)) else (some false)) else (some false)) else (some false))
theorem pg.mono:∀ a0 a1 a2 a3 a4 a5 a6 a7 a8 a9 k,Nb (pg.f k a0 a1 a2 a3 a4 a5 a6 a7 a8 a9) (pg.f (k + 1) a0 a1 a2 a3 a4 a5 a6 a7 a8 a9):=by
 intro a0 a1 a2 a3 a4 a5 a6 a7 a8 a9 k
 unfold pg.f
 repeat' first
   | (with_reducible exact Wb.mono _ _ _)
   | (with_reducible exact Nb.refl _)
   | (with_reducible exact Nb.none _)
   | (with_reducible refine Nb.ite ?_ ?_)
   | (with_reducible refine Nb.bind ?_ (fun _=>?_))
   | exact Wb.mono _ _ _
   | exact Nb.none _
   | refine Nb.ite ?_ ?_
   | refine Nb.bind ?_ (fun _=>?_)
theorem pg.calls (k:Nat) (Eb:Option Addr) (Db:Nat) (Ta:List (yf)) (Pa:Int) (Oa:Int) (Ma:Int) (Vc:Int) (kg:Option Addr) (Tf:Nat) (Nd:List (yf)) (Lb:Int) (Rb:Int) (Sb:Int) (Uc:Int) (r:Bool) (w:World) (Kf:Kd.C Uj w Eb Ta.length Ta) (Gf:Ta.length ≤ Db) (eu:Kd.C Uj w kg Nd.length Nd) (fu:Nd.length ≤ Tf) (h:pg.f k Ta Pa Oa Ma Vc Nd Lb Rb Sb Uc=some r) :
  Calls Try.prog 93 #[.agg #[.slice Eb Ta.length Db,.int .i64 Pa,.int .i64 Oa,.int .i64 Ma,.int .i64 Vc],.agg #[.slice kg Nd.length Tf,.int .i64 Lb,.int .i64 Rb,.int .i64 Sb,.int .i64 Uc]] w fun e w'=>e = .returned (.bool r)∧Below w.heap.size w w':=by
 have XJ:=Try.underlying68
 have Uf:=ja.mk Kf
 have ig:=ja.mk Gf
 clear Kf Gf
 have Rm:=ja.mk eu
 have Qp:=ja.mk fu
 clear eu fu
 have HB:=ja.mk (Below.refl w.heap.size w)
 have H:((Wb.f k Ta Nd).bind fun t103=>(if t103=true then (if Pa=Lb then (if Oa=Rb then (if Ma=Sb then (if Vc=Uc then (some true) else (some false)) else (some false)) else (some false)) else (some false)) else (some false)))=some r:=h
 clear h
 replace H:=Option.bind_eq_some_iff.mp H
 obtain ⟨t103,tw,H⟩:=H
 replace H:(if t103=true then (if Pa=Lb then (if Oa=Rb then (if Ma=Sb then (if Vc=Uc then (some true) else (some false)) else (some false)) else (some false)) else (some false)) else (some false))=some r:=H
 have A3:=ja.mk tw
 clear tw
 by_cases c4:t103=true
 ·subst c4
  have H1:(if Pa=Lb then (if Oa=Rb then (if Ma=Sb then (if Vc=Uc then (some true) else (some false)) else (some false)) else (some false)) else (some false))=some r:=by rw [if_pos rfl] at H;exact H
  clear H
  have H:=H1
  clear H1
  by_cases c5:Pa=Lb
  ·rw [if_pos c5] at H
   have Ok:(Pa == Lb)=true:=beq_iff_eq.mpr c5
   have Yp:(Pa != Lb)=false:=bne_eq_false_iff_eq.mpr c5
   clear c5
   by_cases c6:Oa=Rb
   ·rw [if_pos c6] at H
    have El:(Oa == Rb)=true:=beq_iff_eq.mpr c6
    have Ts:(Oa != Rb)=false:=bne_eq_false_iff_eq.mpr c6
    clear c6
    by_cases c7:Ma=Sb
    ·rw [if_pos c7] at H
     have Uo:(Ma == Sb)=true:=beq_iff_eq.mpr c7
     have qu:(Ma != Sb)=false:=bne_eq_false_iff_eq.mpr c7
     clear c7
     by_cases c8:Vc=Uc
     ·rw [if_pos c8] at H
      have Yl:(Vc == Uc)=true:=beq_iff_eq.mpr c8
      have sq:(Vc != Uc)=false:=bne_eq_false_iff_eq.mpr c8
      clear c8
      obtain rfl:=Option.some.inj H
      go_enter Try.func93,Try.ntmps93
      go_wp2_with (first|((with_reducible refine Pb (N:=2) rfl ?_);refine Kb ?hg (N:=2) ?hd (cs:=#[.slice Eb Ta.length Db,.int .i64 Pa,.int .i64 Oa,.int .i64 Ma,.int .i64 Vc]) (t:=68) ?hr ?_;(case hd=>rfl);(case hg=>rfl);(case hr=>first|(go_simp;done)|(go_simp;rfl));intro Da hg w9 Yb hb;have Qb:=ja.mk (Na (by repeat (first|(with_reducible first|exact HB.out|apply qa|apply ia|apply ua)|exact HB.out)) hb);have uc:=ja.mk (Yb);have Qc:=ja.mk ((by rw [hg];exact (Qa (by repeat (first|(with_reducible first|exact HB.out|apply qa|apply ia|apply ua)|exact HB.out))):w.heap.size ≤ Da));have Td:=ja.mk ((by rw [hg];exact (Qa (by repeat (first|(with_reducible first|exact HB.out|apply qa|apply ia|apply ua)|exact HB.out))):w.heap.size ≤ Da));clear HB;have HB:=Qb;have za:=uc;have Vf:=Qc;have Wa:=Td;clear Qb uc Qc Td hb Yb hg)|((with_reducible refine Pb (N:=3) rfl ?_);refine Kb ?hg (N:=3) ?hd (cs:=#[.slice kg Nd.length Tf,.int .i64 Lb,.int .i64 Rb,.int .i64 Sb,.int .i64 Uc]) (t:=68) ?hr ?_;(case hd=>rfl);(case hg=>rfl);(case hr=>first|(go_simp;done)|(go_simp;rfl));intro Ja hg jq Yb hb;have Qb:=ja.mk (Ya (g:=Da) (o:=.cells #[.slice Eb Ta.length Db,.int .i64 Pa,.int .i64 Oa,.int .i64 Ma,.int .i64 Vc] 68 (0,0)) (by (with_reducible repeat (first|refine Ga ?_ _|refine Ia ?_|refine Fa ?_ _));exact za.out) hb);have uc:=ja.mk (Na (by repeat (first|(with_reducible first|exact HB.out|apply qa|apply ia|apply ua|refine Aa ?_ Wa.out)|exact HB.out)) hb);have Qc:=ja.mk (Yb);have Td:=ja.mk ((by rw [hg];exact (Qa (by repeat (first|(with_reducible first|exact HB.out|apply qa|apply ia|apply ua|refine Aa ?_ Wa.out)|exact HB.out))):w.heap.size ≤ Ja));have dh:=ja.mk ((by rw [hg];exact (Qa (by repeat (first|(with_reducible first|exact HB.out|apply qa|apply ia|apply ua|refine Aa ?_ Wa.out)|exact HB.out))):w.heap.size ≤ Ja));have Eh:=ja.mk ((by rw [hg];exact Nat.ne_of_lt (Pc (g:=Da) (o:=.cells #[.slice Eb Ta.length Db,.int .i64 Pa,.int .i64 Oa,.int .i64 Ma,.int .i64 Vc] 68 (0,0)) (by (with_reducible repeat (first|refine Ga ?_ _|refine Ia ?_|refine Fa ?_ _));exact za.out)):Da ≠ Ja));have Kh:=ja.mk ((by rw [hg];exact Nat.ne_of_gt (Pc (g:=Da) (o:=.cells #[.slice Eb Ta.length Db,.int .i64 Pa,.int .i64 Oa,.int .i64 Ma,.int .i64 Vc] 68 (0,0)) (by (with_reducible repeat (first|refine Ga ?_ _|refine Ia ?_|refine Fa ?_ _));exact za.out)):Ja ≠ Da));clear za HB;have za:=Qb;have HB:=uc;have Ba:=Qc;have Ci:=Td;have Dc:=dh;have qb:=Eh;have mb:=Kh;clear Qb uc Qc Td dh Eh Kh hb Yb hg;have RW:=qb.out;have AW:=mb.out;have Pr:jq.cell? ⟨Da,0,none⟩=some (.slice Eb Ta.length Db):=(ga za.out 0).trans rfl;have Nr:jq.cell? ⟨Da,1,none⟩=some (.int .i64 Pa):=(ga za.out 1).trans rfl;have Mr:jq.cell? ⟨Da,2,none⟩=some (.int .i64 Oa):=(ga za.out 2).trans rfl;have Lr:jq.cell? ⟨Da,3,none⟩=some (.int .i64 Ma):=(ga za.out 3).trans rfl;have Kr:jq.cell? ⟨Da,4,none⟩=some (.int .i64 Vc):=(ga za.out 4).trans rfl;have cr:=aa za.out 0;have br:=aa za.out 1;have Zq:=aa za.out 2;have Yq:=aa za.out 3;have Xq:=aa za.out 4;have Qj:jq.cell? ⟨Ja,0,none⟩=some (.slice kg Nd.length Tf):=(ga Ba.out 0).trans rfl;have Pj:jq.cell? ⟨Ja,1,none⟩=some (.int .i64 Lb):=(ga Ba.out 1).trans rfl;have Xn:jq.cell? ⟨Ja,2,none⟩=some (.int .i64 Rb):=(ga Ba.out 2).trans rfl;have Wn:jq.cell? ⟨Ja,3,none⟩=some (.int .i64 Sb):=(ga Ba.out 3).trans rfl;have Vn:jq.cell? ⟨Ja,4,none⟩=some (.int .i64 Uc):=(ga Ba.out 4).trans rfl;have Oj:=aa Ba.out 0;have Mj:=aa Ba.out 1;have Sn:=aa Ba.out 2;have Rn:=aa Ba.out 3;have Qn:=aa Ba.out 4)|((with_reducible refine xb (f:=120) rfl ?_);refine qd (some 9) rfl rfl Try.func120 (by kernel_rfl) rfl #[.slice Eb Ta.length Db,.slice kg Nd.length Tf] rfl (by (try simp only [List.map_toArray,List.map_cons,List.map_nil]);first|done|rfl|(simp only [List.length_drop,List.length_take];rfl)) ?_;(with_reducible refine (Wb.calls k _ _ Ta _ _ Nd true _ ?side1 ?side2 ?side3 ?side4 A3.out).mono ?_);(case side1=>repeat (first|exact (Kd.Mb Uf.out HB.out)|(with_reducible refine Kd.Lc ?_ _)|(with_reducible refine Kd.Jc ?_ _)|(with_reducible refine Kd.Ed ?_)));(case side2=>exact ig.out);(case side3=>repeat (first|exact (Kd.Mb Rm.out HB.out)|(with_reducible refine Kd.Lc ?_ _)|(with_reducible refine Kd.Jc ?_ _)|(with_reducible refine Kd.Ed ?_)));(case side4=>exact Qp.out);rintro e rA ⟨rfl,hb⟩;refine ⟨_,rfl,?_⟩;have Qb:=ja.mk (Ya (g:=Da) (o:=.cells #[.slice Eb Ta.length Db,.int .i64 Pa,.int .i64 Oa,.int .i64 Ma,.int .i64 Vc] 68 (0,0)) (by (with_reducible repeat (first|refine Ga ?_ _|refine Ia ?_|refine Fa ?_ _));exact za.out) hb);have uc:=ja.mk (Ya (g:=Ja) (o:=.cells #[.slice kg Nd.length Tf,.int .i64 Lb,.int .i64 Rb,.int .i64 Sb,.int .i64 Uc] 68 (0,0)) (by (with_reducible repeat (first|refine Ga ?_ _|refine Ia ?_|refine Fa ?_ _));exact Ba.out) hb);have Qc:=ja.mk (Na (by repeat (first|(with_reducible first|exact HB.out|apply qa|apply ia|apply ua|refine Aa ?_ Wa.out|refine Aa ?_ Dc.out)|exact HB.out)) hb);clear za Ba HB;have za:=Qb;have Ba:=uc;have HB:=Qc;clear Qb uc Qc;(try clear hb);(try clear hb2);(try clear hk);(try clear hi);have Uv:rA.cell? ⟨Da,0,none⟩=some (.slice Eb Ta.length Db):=(ga za.out 0).trans rfl;have Tv:rA.cell? ⟨Da,1,none⟩=some (.int .i64 Pa):=(ga za.out 1).trans rfl;have Sv:rA.cell? ⟨Da,2,none⟩=some (.int .i64 Oa):=(ga za.out 2).trans rfl;have Rv:rA.cell? ⟨Da,3,none⟩=some (.int .i64 Ma):=(ga za.out 3).trans rfl;have Hy:rA.cell? ⟨Da,4,none⟩=some (.int .i64 Vc):=(ga za.out 4).trans rfl;have qv:=aa za.out 0;have jv:=aa za.out 1;have cv:=aa za.out 2;have av:=aa za.out 3;have ay:=aa za.out 4;have Em:rA.cell? ⟨Ja,0,none⟩=some (.slice kg Nd.length Tf):=(ga Ba.out 0).trans rfl;have Dm:rA.cell? ⟨Ja,1,none⟩=some (.int .i64 Lb):=(ga Ba.out 1).trans rfl;have Qv:rA.cell? ⟨Ja,2,none⟩=some (.int .i64 Rb):=(ga Ba.out 2).trans rfl;have Pv:rA.cell? ⟨Ja,3,none⟩=some (.int .i64 Sb):=(ga Ba.out 3).trans rfl;have Gy:rA.cell? ⟨Ja,4,none⟩=some (.int .i64 Uc):=(ga Ba.out 4).trans rfl;have Cm:=aa Ba.out 0;have Bm:=aa Ba.out 1;have Zu:=aa Ba.out 2;have Yu:=aa Ba.out 3;have Zx:=aa Ba.out 4))
      go_ret
      exact ⟨by first|rfl|(simp [La,Ka] <;> rfl)|(simp [*,La,Ka] <;> rfl),by repeat (first|(with_reducible first|exact HB.out|apply qa|apply ia|apply ua|refine Aa ?_ Wa.out|refine Aa ?_ Dc.out)|exact HB.out)⟩
     ·rw [if_neg c8] at H
      have Yl:(Vc == Uc)=false:=beq_eq_false_iff_ne.mpr c8
      have sq:(Vc != Uc)=true:=bne_iff_ne.mpr c8
      obtain rfl:=Option.some.inj H
      go_enter Try.func93,Try.ntmps93
      go_wp2_with (first|((with_reducible refine Pb (N:=2) rfl ?_);refine Kb ?hg (N:=2) ?hd (cs:=#[.slice Eb Ta.length Db,.int .i64 Pa,.int .i64 Oa,.int .i64 Ma,.int .i64 Vc]) (t:=68) ?hr ?_;(case hd=>rfl);(case hg=>rfl);(case hr=>first|(go_simp;done)|(go_simp;rfl));intro Da hg Ro Yb hb;have Qb:=ja.mk (Na (by repeat (first|(with_reducible first|exact HB.out|apply qa|apply ia|apply ua)|exact HB.out)) hb);have uc:=ja.mk (Yb);have Qc:=ja.mk ((by rw [hg];exact (Qa (by repeat (first|(with_reducible first|exact HB.out|apply qa|apply ia|apply ua)|exact HB.out))):w.heap.size ≤ Da));have Td:=ja.mk ((by rw [hg];exact (Qa (by repeat (first|(with_reducible first|exact HB.out|apply qa|apply ia|apply ua)|exact HB.out))):w.heap.size ≤ Da));clear HB;have HB:=Qb;have za:=uc;have Vf:=Qc;have Wa:=Td;clear Qb uc Qc Td hb Yb hg)|((with_reducible refine Pb (N:=3) rfl ?_);refine Kb ?hg (N:=3) ?hd (cs:=#[.slice kg Nd.length Tf,.int .i64 Lb,.int .i64 Rb,.int .i64 Sb,.int .i64 Uc]) (t:=68) ?hr ?_;(case hd=>rfl);(case hg=>rfl);(case hr=>first|(go_simp;done)|(go_simp;rfl));intro Ja hg Wz Yb hb;have Qb:=ja.mk (Ya (g:=Da) (o:=.cells #[.slice Eb Ta.length Db,.int .i64 Pa,.int .i64 Oa,.int .i64 Ma,.int .i64 Vc] 68 (0,0)) (by (with_reducible repeat (first|refine Ga ?_ _|refine Ia ?_|refine Fa ?_ _));exact za.out) hb);have uc:=ja.mk (Na (by repeat (first|(with_reducible first|exact HB.out|apply qa|apply ia|apply ua|refine Aa ?_ Wa.out)|exact HB.out)) hb);have Qc:=ja.mk (Yb);have Td:=ja.mk ((by rw [hg];exact (Qa (by repeat (first|(with_reducible first|exact HB.out|apply qa|apply ia|apply ua|refine Aa ?_ Wa.out)|exact HB.out))):w.heap.size ≤ Ja));have dh:=ja.mk ((by rw [hg];exact (Qa (by repeat (first|(with_reducible first|exact HB.out|apply qa|apply ia|apply ua|refine Aa ?_ Wa.out)|exact HB.out))):w.heap.size ≤ Ja));have Eh:=ja.mk ((by rw [hg];exact Nat.ne_of_lt (Pc (g:=Da) (o:=.cells #[.slice Eb Ta.length Db,.int .i64 Pa,.int .i64 Oa,.int .i64 Ma,.int .i64 Vc] 68 (0,0)) (by (with_reducible repeat (first|refine Ga ?_ _|refine Ia ?_|refine Fa ?_ _));exact za.out)):Da ≠ Ja));have Kh:=ja.mk ((by rw [hg];exact Nat.ne_of_gt (Pc (g:=Da) (o:=.cells #[.slice Eb Ta.length Db,.int .i64 Pa,.int .i64 Oa,.int .i64 Ma,.int .i64 Vc] 68 (0,0)) (by (with_reducible repeat (first|refine Ga ?_ _|refine Ia ?_|refine Fa ?_ _));exact za.out)):Ja ≠ Da));clear za HB;have za:=Qb;have HB:=uc;have Ba:=Qc;have Ci:=Td;have Dc:=dh;have qb:=Eh;have mb:=Kh;clear Qb uc Qc Td dh Eh Kh hb Yb hg;have bR:=qb.out;have UQ:=mb.out;have UI:Wz.cell? ⟨Da,0,none⟩=some (.slice Eb Ta.length Db):=(ga za.out 0).trans rfl;have TI:Wz.cell? ⟨Da,1,none⟩=some (.int .i64 Pa):=(ga za.out 1).trans rfl;have SI:Wz.cell? ⟨Da,2,none⟩=some (.int .i64 Oa):=(ga za.out 2).trans rfl;have RI:Wz.cell? ⟨Da,3,none⟩=some (.int .i64 Ma):=(ga za.out 3).trans rfl;have XP:Wz.cell? ⟨Da,4,none⟩=some (.int .i64 Vc):=(ga za.out 4).trans rfl;have OH:=aa za.out 0;have NH:=aa za.out 1;have MH:=aa za.out 2;have LH:=aa za.out 3;have MO:=aa za.out 4;have Dr:Wz.cell? ⟨Ja,0,none⟩=some (.slice kg Nd.length Tf):=(ga Ba.out 0).trans rfl;have Cr:Wz.cell? ⟨Ja,1,none⟩=some (.int .i64 Lb):=(ga Ba.out 1).trans rfl;have EC:Wz.cell? ⟨Ja,2,none⟩=some (.int .i64 Rb):=(ga Ba.out 2).trans rfl;have DC:Wz.cell? ⟨Ja,3,none⟩=some (.int .i64 Sb):=(ga Ba.out 3).trans rfl;have QI:Wz.cell? ⟨Ja,4,none⟩=some (.int .i64 Uc):=(ga Ba.out 4).trans rfl;have Qq:=aa Ba.out 0;have Pq:=aa Ba.out 1;have RB:=aa Ba.out 2;have QB:=aa Ba.out 3;have KH:=aa Ba.out 4)|((with_reducible refine xb (f:=120) rfl ?_);refine qd (some 9) rfl rfl Try.func120 (by kernel_rfl) rfl #[.slice Eb Ta.length Db,.slice kg Nd.length Tf] rfl (by (try simp only [List.map_toArray,List.map_cons,List.map_nil]);first|done|rfl|(simp only [List.length_drop,List.length_take];rfl)) ?_;(with_reducible refine (Wb.calls k _ _ Ta _ _ Nd true _ ?side1 ?side2 ?side3 ?side4 A3.out).mono ?_);(case side1=>repeat (first|exact (Kd.Mb Uf.out HB.out)|(with_reducible refine Kd.Lc ?_ _)|(with_reducible refine Kd.Jc ?_ _)|(with_reducible refine Kd.Ed ?_)));(case side2=>exact ig.out);(case side3=>repeat (first|exact (Kd.Mb Rm.out HB.out)|(with_reducible refine Kd.Lc ?_ _)|(with_reducible refine Kd.Jc ?_ _)|(with_reducible refine Kd.Ed ?_)));(case side4=>exact Qp.out);rintro e pK ⟨rfl,hb⟩;refine ⟨_,rfl,?_⟩;have Qb:=ja.mk (Ya (g:=Da) (o:=.cells #[.slice Eb Ta.length Db,.int .i64 Pa,.int .i64 Oa,.int .i64 Ma,.int .i64 Vc] 68 (0,0)) (by (with_reducible repeat (first|refine Ga ?_ _|refine Ia ?_|refine Fa ?_ _));exact za.out) hb);have uc:=ja.mk (Ya (g:=Ja) (o:=.cells #[.slice kg Nd.length Tf,.int .i64 Lb,.int .i64 Rb,.int .i64 Sb,.int .i64 Uc] 68 (0,0)) (by (with_reducible repeat (first|refine Ga ?_ _|refine Ia ?_|refine Fa ?_ _));exact Ba.out) hb);have Qc:=ja.mk (Na (by repeat (first|(with_reducible first|exact HB.out|apply qa|apply ia|apply ua|refine Aa ?_ Wa.out|refine Aa ?_ Dc.out)|exact HB.out)) hb);clear za Ba HB;have za:=Qb;have Ba:=uc;have HB:=Qc;clear Qb uc Qc;(try clear hb);(try clear hb2);(try clear hk);(try clear hi);have Yk:pK.cell? ⟨Da,0,none⟩=some (.slice Eb Ta.length Db):=(ga za.out 0).trans rfl;have Xk:pK.cell? ⟨Da,1,none⟩=some (.int .i64 Pa):=(ga za.out 1).trans rfl;have Gp:pK.cell? ⟨Da,2,none⟩=some (.int .i64 Oa):=(ga za.out 2).trans rfl;have Fp:pK.cell? ⟨Da,3,none⟩=some (.int .i64 Ma):=(ga za.out 3).trans rfl;have Ep:pK.cell? ⟨Da,4,none⟩=some (.int .i64 Vc):=(ga za.out 4).trans rfl;have Tk:=aa za.out 0;have Sk:=aa za.out 1;have yp:=aa za.out 2;have xp:=aa za.out 3;have vp:=aa za.out 4;have Un:pK.cell? ⟨Ja,0,none⟩=some (.slice kg Nd.length Tf):=(ga Ba.out 0).trans rfl;have Tn:pK.cell? ⟨Ja,1,none⟩=some (.int .i64 Lb):=(ga Ba.out 1).trans rfl;have Jv:pK.cell? ⟨Ja,2,none⟩=some (.int .i64 Rb):=(ga Ba.out 2).trans rfl;have Iv:pK.cell? ⟨Ja,3,none⟩=some (.int .i64 Sb):=(ga Ba.out 3).trans rfl;have Hv:pK.cell? ⟨Ja,4,none⟩=some (.int .i64 Uc):=(ga Ba.out 4).trans rfl;have Pn:=aa Ba.out 0;have Nn:=aa Ba.out 1;have Su:=aa Ba.out 2;have Ru:=aa Ba.out 3;have Qu:=aa Ba.out 4))
      go_ret
      exact ⟨by first|rfl|(simp [La,Ka] <;> rfl)|(simp [*,La,Ka] <;> rfl),by repeat (first|(with_reducible first|exact HB.out|apply qa|apply ia|apply ua|refine Aa ?_ Wa.out|refine Aa ?_ Dc.out)|exact HB.out)⟩
    ·rw [if_neg c7] at H
     have Uo:(Ma == Sb)=false:=beq_eq_false_iff_ne.mpr c7
     have qu:(Ma != Sb)=true:=bne_iff_ne.mpr c7
     obtain rfl:=Option.some.inj H
     go_enter Try.func93,Try.ntmps93
     go_wp2_with (first|((with_reducible refine Pb (N:=2) rfl ?_);refine Kb ?hg (N:=2) ?hd (cs:=#[.slice Eb Ta.length Db,.int .i64 Pa,.int .i64 Oa,.int .i64 Ma,.int .i64 Vc]) (t:=68) ?hr ?_;(case hd=>rfl);(case hg=>rfl);(case hr=>first|(go_simp;done)|(go_simp;rfl));intro Da hg yV Yb hb;have Qb:=ja.mk (Na (by repeat (first|(with_reducible first|exact HB.out|apply qa|apply ia|apply ua)|exact HB.out)) hb);have uc:=ja.mk (Yb);have Qc:=ja.mk ((by rw [hg];exact (Qa (by repeat (first|(with_reducible first|exact HB.out|apply qa|apply ia|apply ua)|exact HB.out))):w.heap.size ≤ Da));have Td:=ja.mk ((by rw [hg];exact (Qa (by repeat (first|(with_reducible first|exact HB.out|apply qa|apply ia|apply ua)|exact HB.out))):w.heap.size ≤ Da));clear HB;have HB:=Qb;have za:=uc;have Vf:=Qc;have Wa:=Td;clear Qb uc Qc Td hb Yb hg)|((with_reducible refine Pb (N:=3) rfl ?_);refine Kb ?hg (N:=3) ?hd (cs:=#[.slice kg Nd.length Tf,.int .i64 Lb,.int .i64 Rb,.int .i64 Sb,.int .i64 Uc]) (t:=68) ?hr ?_;(case hd=>rfl);(case hg=>rfl);(case hr=>first|(go_simp;done)|(go_simp;rfl));intro Ja hg Rp Yb hb;have Qb:=ja.mk (Ya (g:=Da) (o:=.cells #[.slice Eb Ta.length Db,.int .i64 Pa,.int .i64 Oa,.int .i64 Ma,.int .i64 Vc] 68 (0,0)) (by (with_reducible repeat (first|refine Ga ?_ _|refine Ia ?_|refine Fa ?_ _));exact za.out) hb);have uc:=ja.mk (Na (by repeat (first|(with_reducible first|exact HB.out|apply qa|apply ia|apply ua|refine Aa ?_ Wa.out)|exact HB.out)) hb);have Qc:=ja.mk (Yb);have Td:=ja.mk ((by rw [hg];exact (Qa (by repeat (first|(with_reducible first|exact HB.out|apply qa|apply ia|apply ua|refine Aa ?_ Wa.out)|exact HB.out))):w.heap.size ≤ Ja));have dh:=ja.mk ((by rw [hg];exact (Qa (by repeat (first|(with_reducible first|exact HB.out|apply qa|apply ia|apply ua|refine Aa ?_ Wa.out)|exact HB.out))):w.heap.size ≤ Ja));have Eh:=ja.mk ((by rw [hg];exact Nat.ne_of_lt (Pc (g:=Da) (o:=.cells #[.slice Eb Ta.length Db,.int .i64 Pa,.int .i64 Oa,.int .i64 Ma,.int .i64 Vc] 68 (0,0)) (by (with_reducible repeat (first|refine Ga ?_ _|refine Ia ?_|refine Fa ?_ _));exact za.out)):Da ≠ Ja));have Kh:=ja.mk ((by rw [hg];exact Nat.ne_of_gt (Pc (g:=Da) (o:=.cells #[.slice Eb Ta.length Db,.int .i64 Pa,.int .i64 Oa,.int .i64 Ma,.int .i64 Vc] 68 (0,0)) (by (with_reducible repeat (first|refine Ga ?_ _|refine Ia ?_|refine Fa ?_ _));exact za.out)):Ja ≠ Da));clear za HB;have za:=Qb;have HB:=uc;have Ba:=Qc;have Ci:=Td;have Dc:=dh;have qb:=Eh;have mb:=Kh;clear Qb uc Qc Td dh Eh Kh hb Yb hg;have YQ:=qb.out;have RQ:=mb.out;have VP:Rp.cell? ⟨Da,0,none⟩=some (.slice Eb Ta.length Db):=(ga za.out 0).trans rfl;have TP:Rp.cell? ⟨Da,1,none⟩=some (.int .i64 Pa):=(ga za.out 1).trans rfl;have SP:Rp.cell? ⟨Da,2,none⟩=some (.int .i64 Oa):=(ga za.out 2).trans rfl;have RP:Rp.cell? ⟨Da,3,none⟩=some (.int .i64 Ma):=(ga za.out 3).trans rfl;have OP:Rp.cell? ⟨Da,4,none⟩=some (.int .i64 Vc):=(ga za.out 4).trans rfl;have LO:=aa za.out 0;have KO:=aa za.out 1;have JO:=aa za.out 2;have FO:=aa za.out 3;have EO:=aa za.out 4;have Gt:Rp.cell? ⟨Ja,0,none⟩=some (.slice kg Nd.length Tf):=(ga Ba.out 0).trans rfl;have Ft:Rp.cell? ⟨Ja,1,none⟩=some (.int .i64 Lb):=(ga Ba.out 1).trans rfl;have JI:Rp.cell? ⟨Ja,2,none⟩=some (.int .i64 Rb):=(ga Ba.out 2).trans rfl;have II:Rp.cell? ⟨Ja,3,none⟩=some (.int .i64 Sb):=(ga Ba.out 3).trans rfl;have GI:Rp.cell? ⟨Ja,4,none⟩=some (.int .i64 Uc):=(ga Ba.out 4).trans rfl;have ot:=aa Ba.out 0;have jt:=aa Ba.out 1;have BH:=aa Ba.out 2;have AH:=aa Ba.out 3;have zH:=aa Ba.out 4)|((with_reducible refine xb (f:=120) rfl ?_);refine qd (some 9) rfl rfl Try.func120 (by kernel_rfl) rfl #[.slice Eb Ta.length Db,.slice kg Nd.length Tf] rfl (by (try simp only [List.map_toArray,List.map_cons,List.map_nil]);first|done|rfl|(simp only [List.length_drop,List.length_take];rfl)) ?_;(with_reducible refine (Wb.calls k _ _ Ta _ _ Nd true _ ?side1 ?side2 ?side3 ?side4 A3.out).mono ?_);(case side1=>repeat (first|exact (Kd.Mb Uf.out HB.out)|(with_reducible refine Kd.Lc ?_ _)|(with_reducible refine Kd.Jc ?_ _)|(with_reducible refine Kd.Ed ?_)));(case side2=>exact ig.out);(case side3=>repeat (first|exact (Kd.Mb Rm.out HB.out)|(with_reducible refine Kd.Lc ?_ _)|(with_reducible refine Kd.Jc ?_ _)|(with_reducible refine Kd.Ed ?_)));(case side4=>exact Qp.out);rintro e oK ⟨rfl,hb⟩;refine ⟨_,rfl,?_⟩;have Qb:=ja.mk (Ya (g:=Da) (o:=.cells #[.slice Eb Ta.length Db,.int .i64 Pa,.int .i64 Oa,.int .i64 Ma,.int .i64 Vc] 68 (0,0)) (by (with_reducible repeat (first|refine Ga ?_ _|refine Ia ?_|refine Fa ?_ _));exact za.out) hb);have uc:=ja.mk (Ya (g:=Ja) (o:=.cells #[.slice kg Nd.length Tf,.int .i64 Lb,.int .i64 Rb,.int .i64 Sb,.int .i64 Uc] 68 (0,0)) (by (with_reducible repeat (first|refine Ga ?_ _|refine Ia ?_|refine Fa ?_ _));exact Ba.out) hb);have Qc:=ja.mk (Na (by repeat (first|(with_reducible first|exact HB.out|apply qa|apply ia|apply ua|refine Aa ?_ Wa.out|refine Aa ?_ Dc.out)|exact HB.out)) hb);clear za Ba HB;have za:=Qb;have Ba:=uc;have HB:=Qc;clear Qb uc Qc;(try clear hb);(try clear hb2);(try clear hk);(try clear hi);have zy:oK.cell? ⟨Da,0,none⟩=some (.slice Eb Ta.length Db):=(ga za.out 0).trans rfl;have yy:oK.cell? ⟨Da,1,none⟩=some (.int .i64 Pa):=(ga za.out 1).trans rfl;have xy:oK.cell? ⟨Da,2,none⟩=some (.int .i64 Oa):=(ga za.out 2).trans rfl;have uy:oK.cell? ⟨Da,3,none⟩=some (.int .i64 Ma):=(ga za.out 3).trans rfl;have CC:oK.cell? ⟨Da,4,none⟩=some (.int .i64 Vc):=(ga za.out 4).trans rfl;have Tx:=aa za.out 0;have Sx:=aa za.out 1;have Rx:=aa za.out 2;have Qx:=aa za.out 3;have PB:=aa za.out 4;have BC:oK.cell? ⟨Ja,0,none⟩=some (.slice kg Nd.length Tf):=(ga Ba.out 0).trans rfl;have zC:oK.cell? ⟨Ja,1,none⟩=some (.int .i64 Lb):=(ga Ba.out 1).trans rfl;have yC:oK.cell? ⟨Ja,2,none⟩=some (.int .i64 Rb):=(ga Ba.out 2).trans rfl;have xC:oK.cell? ⟨Ja,3,none⟩=some (.int .i64 Sb):=(ga Ba.out 3).trans rfl;have wC:oK.cell? ⟨Ja,4,none⟩=some (.int .i64 Uc):=(ga Ba.out 4).trans rfl;have OB:=aa Ba.out 0;have NB:=aa Ba.out 1;have MB:=aa Ba.out 2;have LB:=aa Ba.out 3;have JB:=aa Ba.out 4))
     go_ret
     exact ⟨by first|rfl|(simp [La,Ka] <;> rfl)|(simp [*,La,Ka] <;> rfl),by repeat (first|(with_reducible first|exact HB.out|apply qa|apply ia|apply ua|refine Aa ?_ Wa.out|refine Aa ?_ Dc.out)|exact HB.out)⟩
   ·rw [if_neg c6] at H
    have El:(Oa == Rb)=false:=beq_eq_false_iff_ne.mpr c6
    have Ts:(Oa != Rb)=true:=bne_iff_ne.mpr c6
    obtain rfl:=Option.some.inj H
    go_enter Try.func93,Try.ntmps93
    go_wp2_with (first|((with_reducible refine Pb (N:=2) rfl ?_);refine Kb ?hg (N:=2) ?hd (cs:=#[.slice Eb Ta.length Db,.int .i64 Pa,.int .i64 Oa,.int .i64 Ma,.int .i64 Vc]) (t:=68) ?hr ?_;(case hd=>rfl);(case hg=>rfl);(case hr=>first|(go_simp;done)|(go_simp;rfl));intro Da hg nK Yb hb;have Qb:=ja.mk (Na (by repeat (first|(with_reducible first|exact HB.out|apply qa|apply ia|apply ua)|exact HB.out)) hb);have uc:=ja.mk (Yb);have Qc:=ja.mk ((by rw [hg];exact (Qa (by repeat (first|(with_reducible first|exact HB.out|apply qa|apply ia|apply ua)|exact HB.out))):w.heap.size ≤ Da));have Td:=ja.mk ((by rw [hg];exact (Qa (by repeat (first|(with_reducible first|exact HB.out|apply qa|apply ia|apply ua)|exact HB.out))):w.heap.size ≤ Da));clear HB;have HB:=Qb;have za:=uc;have Vf:=Qc;have Wa:=Td;clear Qb uc Qc Td hb Yb hg)|((with_reducible refine Pb (N:=3) rfl ?_);refine Kb ?hg (N:=3) ?hd (cs:=#[.slice kg Nd.length Tf,.int .i64 Lb,.int .i64 Rb,.int .i64 Sb,.int .i64 Uc]) (t:=68) ?hr ?_;(case hd=>rfl);(case hg=>rfl);(case hr=>first|(go_simp;done)|(go_simp;rfl));intro Ja hg VM Yb hb;have Qb:=ja.mk (Ya (g:=Da) (o:=.cells #[.slice Eb Ta.length Db,.int .i64 Pa,.int .i64 Oa,.int .i64 Ma,.int .i64 Vc] 68 (0,0)) (by (with_reducible repeat (first|refine Ga ?_ _|refine Ia ?_|refine Fa ?_ _));exact za.out) hb);have uc:=ja.mk (Na (by repeat (first|(with_reducible first|exact HB.out|apply qa|apply ia|apply ua|refine Aa ?_ Wa.out)|exact HB.out)) hb);have Qc:=ja.mk (Yb);have Td:=ja.mk ((by rw [hg];exact (Qa (by repeat (first|(with_reducible first|exact HB.out|apply qa|apply ia|apply ua|refine Aa ?_ Wa.out)|exact HB.out))):w.heap.size ≤ Ja));have dh:=ja.mk ((by rw [hg];exact (Qa (by repeat (first|(with_reducible first|exact HB.out|apply qa|apply ia|apply ua|refine Aa ?_ Wa.out)|exact HB.out))):w.heap.size ≤ Ja));have Eh:=ja.mk ((by rw [hg];exact Nat.ne_of_lt (Pc (g:=Da) (o:=.cells #[.slice Eb Ta.length Db,.int .i64 Pa,.int .i64 Oa,.int .i64 Ma,.int .i64 Vc] 68 (0,0)) (by (with_reducible repeat (first|refine Ga ?_ _|refine Ia ?_|refine Fa ?_ _));exact za.out)):Da ≠ Ja));have Kh:=ja.mk ((by rw [hg];exact Nat.ne_of_gt (Pc (g:=Da) (o:=.cells #[.slice Eb Ta.length Db,.int .i64 Pa,.int .i64 Oa,.int .i64 Ma,.int .i64 Vc] 68 (0,0)) (by (with_reducible repeat (first|refine Ga ?_ _|refine Ia ?_|refine Fa ?_ _));exact za.out)):Ja ≠ Da));clear za HB;have za:=Qb;have HB:=uc;have Ba:=Qc;have Ci:=Td;have Dc:=dh;have qb:=Eh;have mb:=Kh;clear Qb uc Qc Td dh Eh Kh hb Yb hg;have IW:=qb.out;have qW:=mb.out;have Fv:VM.cell? ⟨Da,0,none⟩=some (.slice Eb Ta.length Db):=(ga za.out 0).trans rfl;have Dv:VM.cell? ⟨Da,1,none⟩=some (.int .i64 Pa):=(ga za.out 1).trans rfl;have tI:VM.cell? ⟨Da,2,none⟩=some (.int .i64 Oa):=(ga za.out 2).trans rfl;have sI:VM.cell? ⟨Da,3,none⟩=some (.int .i64 Ma):=(ga za.out 3).trans rfl;have rI:VM.cell? ⟨Da,4,none⟩=some (.int .i64 Vc):=(ga za.out 4).trans rfl;have Ou:=aa za.out 0;have Nu:=aa za.out 1;have nH:=aa za.out 2;have mH:=aa za.out 3;have lH:=aa za.out 4;have GP:VM.cell? ⟨Ja,0,none⟩=some (.slice kg Nd.length Tf):=(ga Ba.out 0).trans rfl;have FP:VM.cell? ⟨Ja,1,none⟩=some (.int .i64 Lb):=(ga Ba.out 1).trans rfl;have EP:VM.cell? ⟨Ja,2,none⟩=some (.int .i64 Rb):=(ga Ba.out 2).trans rfl;have DP:VM.cell? ⟨Ja,3,none⟩=some (.int .i64 Sb):=(ga Ba.out 3).trans rfl;have CP:VM.cell? ⟨Ja,4,none⟩=some (.int .i64 Uc):=(ga Ba.out 4).trans rfl;have wO:=aa Ba.out 0;have vO:=aa Ba.out 1;have uO:=aa Ba.out 2;have tO:=aa Ba.out 3;have sO:=aa Ba.out 4)|((with_reducible refine xb (f:=120) rfl ?_);refine qd (some 9) rfl rfl Try.func120 (by kernel_rfl) rfl #[.slice Eb Ta.length Db,.slice kg Nd.length Tf] rfl (by (try simp only [List.map_toArray,List.map_cons,List.map_nil]);first|done|rfl|(simp only [List.length_drop,List.length_take];rfl)) ?_;(with_reducible refine (Wb.calls k _ _ Ta _ _ Nd true _ ?side1 ?side2 ?side3 ?side4 A3.out).mono ?_);(case side1=>repeat (first|exact (Kd.Mb Uf.out HB.out)|(with_reducible refine Kd.Lc ?_ _)|(with_reducible refine Kd.Jc ?_ _)|(with_reducible refine Kd.Ed ?_)));(case side2=>exact ig.out);(case side3=>repeat (first|exact (Kd.Mb Rm.out HB.out)|(with_reducible refine Kd.Lc ?_ _)|(with_reducible refine Kd.Jc ?_ _)|(with_reducible refine Kd.Ed ?_)));(case side4=>exact Qp.out);rintro e Vz ⟨rfl,hb⟩;refine ⟨_,rfl,?_⟩;have Qb:=ja.mk (Ya (g:=Da) (o:=.cells #[.slice Eb Ta.length Db,.int .i64 Pa,.int .i64 Oa,.int .i64 Ma,.int .i64 Vc] 68 (0,0)) (by (with_reducible repeat (first|refine Ga ?_ _|refine Ia ?_|refine Fa ?_ _));exact za.out) hb);have uc:=ja.mk (Ya (g:=Ja) (o:=.cells #[.slice kg Nd.length Tf,.int .i64 Lb,.int .i64 Rb,.int .i64 Sb,.int .i64 Uc] 68 (0,0)) (by (with_reducible repeat (first|refine Ga ?_ _|refine Ia ?_|refine Fa ?_ _));exact Ba.out) hb);have Qc:=ja.mk (Na (by repeat (first|(with_reducible first|exact HB.out|apply qa|apply ia|apply ua|refine Aa ?_ Wa.out|refine Aa ?_ Dc.out)|exact HB.out)) hb);clear za Ba HB;have za:=Qb;have Ba:=uc;have HB:=Qc;clear Qb uc Qc;(try clear hb);(try clear hb2);(try clear hk);(try clear hi);have oI:Vz.cell? ⟨Da,0,none⟩=some (.slice Eb Ta.length Db):=(ga za.out 0).trans rfl;have nI:Vz.cell? ⟨Da,1,none⟩=some (.int .i64 Pa):=(ga za.out 1).trans rfl;have mI:Vz.cell? ⟨Da,2,none⟩=some (.int .i64 Oa):=(ga za.out 2).trans rfl;have lI:Vz.cell? ⟨Da,3,none⟩=some (.int .i64 Ma):=(ga za.out 3).trans rfl;have kI:Vz.cell? ⟨Da,4,none⟩=some (.int .i64 Vc):=(ga za.out 4).trans rfl;have iH:=aa za.out 0;have gH:=aa za.out 1;have fH:=aa za.out 2;have eH:=aa za.out 3;have dH:=aa za.out 4;have qy:Vz.cell? ⟨Ja,0,none⟩=some (.slice kg Nd.length Tf):=(ga Ba.out 0).trans rfl;have oy:Vz.cell? ⟨Ja,1,none⟩=some (.int .i64 Lb):=(ga Ba.out 1).trans rfl;have ny:Vz.cell? ⟨Ja,2,none⟩=some (.int .i64 Rb):=(ga Ba.out 2).trans rfl;have jy:Vz.cell? ⟨Ja,3,none⟩=some (.int .i64 Sb):=(ga Ba.out 3).trans rfl;have iy:Vz.cell? ⟨Ja,4,none⟩=some (.int .i64 Uc):=(ga Ba.out 4).trans rfl;have Nx:=aa Ba.out 0;have Mx:=aa Ba.out 1;have Lx:=aa Ba.out 2;have Kx:=aa Ba.out 3;have Jx:=aa Ba.out 4))
    go_ret
    exact ⟨by first|rfl|(simp [La,Ka] <;> rfl)|(simp [*,La,Ka] <;> rfl),by repeat (first|(with_reducible first|exact HB.out|apply qa|apply ia|apply ua|refine Aa ?_ Wa.out|refine Aa ?_ Dc.out)|exact HB.out)⟩
  ·rw [if_neg c5] at H
   have Ok:(Pa == Lb)=false:=beq_eq_false_iff_ne.mpr c5
   have Yp:(Pa != Lb)=true:=bne_iff_ne.mpr c5
   obtain rfl:=Option.some.inj H
   go_enter Try.func93,Try.ntmps93
   go_wp2_with (first|((with_reducible refine Pb (N:=2) rfl ?_);refine Kb ?hg (N:=2) ?hd (cs:=#[.slice Eb Ta.length Db,.int .i64 Pa,.int .i64 Oa,.int .i64 Ma,.int .i64 Vc]) (t:=68) ?hr ?_;(case hd=>rfl);(case hg=>rfl);(case hr=>first|(go_simp;done)|(go_simp;rfl));intro Da hg DE Yb hb;have Qb:=ja.mk (Na (by repeat (first|(with_reducible first|exact HB.out|apply qa|apply ia|apply ua)|exact HB.out)) hb);have uc:=ja.mk (Yb);have Qc:=ja.mk ((by rw [hg];exact (Qa (by repeat (first|(with_reducible first|exact HB.out|apply qa|apply ia|apply ua)|exact HB.out))):w.heap.size ≤ Da));have Td:=ja.mk ((by rw [hg];exact (Qa (by repeat (first|(with_reducible first|exact HB.out|apply qa|apply ia|apply ua)|exact HB.out))):w.heap.size ≤ Da));clear HB;have HB:=Qb;have za:=uc;have Vf:=Qc;have Wa:=Td;clear Qb uc Qc Td hb Yb hg)|((with_reducible refine Pb (N:=3) rfl ?_);refine Kb ?hg (N:=3) ?hd (cs:=#[.slice kg Nd.length Tf,.int .i64 Lb,.int .i64 Rb,.int .i64 Sb,.int .i64 Uc]) (t:=68) ?hr ?_;(case hd=>rfl);(case hg=>rfl);(case hr=>first|(go_simp;done)|(go_simp;rfl));intro Ja hg UM Yb hb;have Qb:=ja.mk (Ya (g:=Da) (o:=.cells #[.slice Eb Ta.length Db,.int .i64 Pa,.int .i64 Oa,.int .i64 Ma,.int .i64 Vc] 68 (0,0)) (by (with_reducible repeat (first|refine Ga ?_ _|refine Ia ?_|refine Fa ?_ _));exact za.out) hb);have uc:=ja.mk (Na (by repeat (first|(with_reducible first|exact HB.out|apply qa|apply ia|apply ua|refine Aa ?_ Wa.out)|exact HB.out)) hb);have Qc:=ja.mk (Yb);have Td:=ja.mk ((by rw [hg];exact (Qa (by repeat (first|(with_reducible first|exact HB.out|apply qa|apply ia|apply ua|refine Aa ?_ Wa.out)|exact HB.out))):w.heap.size ≤ Ja));have dh:=ja.mk ((by rw [hg];exact (Qa (by repeat (first|(with_reducible first|exact HB.out|apply qa|apply ia|apply ua|refine Aa ?_ Wa.out)|exact HB.out))):w.heap.size ≤ Ja));have Eh:=ja.mk ((by rw [hg];exact Nat.ne_of_lt (Pc (g:=Da) (o:=.cells #[.slice Eb Ta.length Db,.int .i64 Pa,.int .i64 Oa,.int .i64 Ma,.int .i64 Vc] 68 (0,0)) (by (with_reducible repeat (first|refine Ga ?_ _|refine Ia ?_|refine Fa ?_ _));exact za.out)):Da ≠ Ja));have Kh:=ja.mk ((by rw [hg];exact Nat.ne_of_gt (Pc (g:=Da) (o:=.cells #[.slice Eb Ta.length Db,.int .i64 Pa,.int .i64 Oa,.int .i64 Ma,.int .i64 Vc] 68 (0,0)) (by (with_reducible repeat (first|refine Ga ?_ _|refine Ia ?_|refine Fa ?_ _));exact za.out)):Ja ≠ Da));clear za HB;have za:=Qb;have HB:=uc;have Ba:=Qc;have Ci:=Td;have Dc:=dh;have qb:=Eh;have mb:=Kh;clear Qb uc Qc Td dh Eh Kh hb Yb hg;have EW:=qb.out;have nW:=mb.out;have pP:UM.cell? ⟨Da,0,none⟩=some (.slice Eb Ta.length Db):=(ga za.out 0).trans rfl;have oP:UM.cell? ⟨Da,1,none⟩=some (.int .i64 Pa):=(ga za.out 1).trans rfl;have nP:UM.cell? ⟨Da,2,none⟩=some (.int .i64 Oa):=(ga za.out 2).trans rfl;have mP:UM.cell? ⟨Da,3,none⟩=some (.int .i64 Ma):=(ga za.out 3).trans rfl;have lP:UM.cell? ⟨Da,4,none⟩=some (.int .i64 Vc):=(ga za.out 4).trans rfl;have fO:=aa za.out 0;have eO:=aa za.out 1;have dO:=aa za.out 2;have cO:=aa za.out 3;have bO:=aa za.out 4;have dI:UM.cell? ⟨Ja,0,none⟩=some (.slice kg Nd.length Tf):=(ga Ba.out 0).trans rfl;have cI:UM.cell? ⟨Ja,1,none⟩=some (.int .i64 Lb):=(ga Ba.out 1).trans rfl;have aad:UM.cell? ⟨Ja,2,none⟩=some (.int .i64 Rb):=(ga Ba.out 2).trans rfl;have Zac:UM.cell? ⟨Ja,3,none⟩=some (.int .i64 Sb):=(ga Ba.out 3).trans rfl;have Yac:UM.cell? ⟨Ja,4,none⟩=some (.int .i64 Uc):=(ga Ba.out 4).trans rfl;have XG:=aa Ba.out 0;have WG:=aa Ba.out 1;have z_:=aa Ba.out 2;have x_:=aa Ba.out 3;have w_:=aa Ba.out 4)|((with_reducible refine xb (f:=120) rfl ?_);refine qd (some 9) rfl rfl Try.func120 (by kernel_rfl) rfl #[.slice Eb Ta.length Db,.slice kg Nd.length Tf] rfl (by (try simp only [List.map_toArray,List.map_cons,List.map_nil]);first|done|rfl|(simp only [List.length_drop,List.length_take];rfl)) ?_;(with_reducible refine (Wb.calls k _ _ Ta _ _ Nd true _ ?side1 ?side2 ?side3 ?side4 A3.out).mono ?_);(case side1=>repeat (first|exact (Kd.Mb Uf.out HB.out)|(with_reducible refine Kd.Lc ?_ _)|(with_reducible refine Kd.Jc ?_ _)|(with_reducible refine Kd.Ed ?_)));(case side2=>exact ig.out);(case side3=>repeat (first|exact (Kd.Mb Rm.out HB.out)|(with_reducible refine Kd.Lc ?_ _)|(with_reducible refine Kd.Jc ?_ _)|(with_reducible refine Kd.Ed ?_)));(case side4=>exact Qp.out);rintro e ux ⟨rfl,hb⟩;refine ⟨_,rfl,?_⟩;have Qb:=ja.mk (Ya (g:=Da) (o:=.cells #[.slice Eb Ta.length Db,.int .i64 Pa,.int .i64 Oa,.int .i64 Ma,.int .i64 Vc] 68 (0,0)) (by (with_reducible repeat (first|refine Ga ?_ _|refine Ia ?_|refine Fa ?_ _));exact za.out) hb);have uc:=ja.mk (Ya (g:=Ja) (o:=.cells #[.slice kg Nd.length Tf,.int .i64 Lb,.int .i64 Rb,.int .i64 Sb,.int .i64 Uc] 68 (0,0)) (by (with_reducible repeat (first|refine Ga ?_ _|refine Ia ?_|refine Fa ?_ _));exact Ba.out) hb);have Qc:=ja.mk (Na (by repeat (first|(with_reducible first|exact HB.out|apply qa|apply ia|apply ua|refine Aa ?_ Wa.out|refine Aa ?_ Dc.out)|exact HB.out)) hb);clear za Ba HB;have za:=Qb;have Ba:=uc;have HB:=Qc;clear Qb uc Qc;(try clear hb);(try clear hb2);(try clear hk);(try clear hi);have bI:ux.cell? ⟨Da,0,none⟩=some (.slice Eb Ta.length Db):=(ga za.out 0).trans rfl;have aI:ux.cell? ⟨Da,1,none⟩=some (.int .i64 Pa):=(ga za.out 1).trans rfl;have Xac:ux.cell? ⟨Da,2,none⟩=some (.int .i64 Oa):=(ga za.out 2).trans rfl;have Wac:ux.cell? ⟨Da,3,none⟩=some (.int .i64 Ma):=(ga za.out 3).trans rfl;have Vac:ux.cell? ⟨Da,4,none⟩=some (.int .i64 Vc):=(ga za.out 4).trans rfl;have VG:=aa za.out 0;have UG:=aa za.out 1;have v_:=aa za.out 2;have u_:=aa za.out 3;have t_:=aa za.out 4;have Cv:ux.cell? ⟨Ja,0,none⟩=some (.slice kg Nd.length Tf):=(ga Ba.out 0).trans rfl;have Bv:ux.cell? ⟨Ja,1,none⟩=some (.int .i64 Lb):=(ga Ba.out 1).trans rfl;have nC:ux.cell? ⟨Ja,2,none⟩=some (.int .i64 Rb):=(ga Ba.out 2).trans rfl;have mC:ux.cell? ⟨Ja,3,none⟩=some (.int .i64 Sb):=(ga Ba.out 3).trans rfl;have lC:ux.cell? ⟨Ja,4,none⟩=some (.int .i64 Uc):=(ga Ba.out 4).trans rfl;have Mu:=aa Ba.out 0;have Lu:=aa Ba.out 1;have zB:=aa Ba.out 2;have yB:=aa Ba.out 3;have xB:=aa Ba.out 4))
   go_ret
   exact ⟨by first|rfl|(simp [La,Ka] <;> rfl)|(simp [*,La,Ka] <;> rfl),by repeat (first|(with_reducible first|exact HB.out|apply qa|apply ia|apply ua|refine Aa ?_ Wa.out|refine Aa ?_ Dc.out)|exact HB.out)⟩
 ·replace c4:=Bool.eq_false_iff.mpr c4
  subst c4
  have H1:(some false)=some r:=by rw [if_neg (show ¬ (false=true) by decide)] at H;exact H
  clear H
  have H:=H1
  clear H1
  obtain rfl:=Option.some.inj H
  go_enter Try.func93,Try.ntmps93
  go_wp2_with (first|((with_reducible refine Pb (N:=2) rfl ?_);refine Kb ?hg (N:=2) ?hd (cs:=#[.slice Eb Ta.length Db,.int .i64 Pa,.int .i64 Oa,.int .i64 Ma,.int .i64 Vc]) (t:=68) ?hr ?_;(case hd=>rfl);(case hg=>rfl);(case hr=>first|(go_simp;done)|(go_simp;rfl));intro Da hg w49 Yb hb;have Qb:=ja.mk (Na (by repeat (first|(with_reducible first|exact HB.out|apply qa|apply ia|apply ua)|exact HB.out)) hb);have uc:=ja.mk (Yb);have Qc:=ja.mk ((by rw [hg];exact (Qa (by repeat (first|(with_reducible first|exact HB.out|apply qa|apply ia|apply ua)|exact HB.out))):w.heap.size ≤ Da));have Td:=ja.mk ((by rw [hg];exact (Qa (by repeat (first|(with_reducible first|exact HB.out|apply qa|apply ia|apply ua)|exact HB.out))):w.heap.size ≤ Da));clear HB;have HB:=Qb;have za:=uc;have Vf:=Qc;have Wa:=Td;clear Qb uc Qc Td hb Yb hg)|((with_reducible refine Pb (N:=3) rfl ?_);refine Kb ?hg (N:=3) ?hd (cs:=#[.slice kg Nd.length Tf,.int .i64 Lb,.int .i64 Rb,.int .i64 Sb,.int .i64 Uc]) (t:=68) ?hr ?_;(case hd=>rfl);(case hg=>rfl);(case hr=>first|(go_simp;done)|(go_simp;rfl));intro Ja hg SM Yb hb;have Qb:=ja.mk (Ya (g:=Da) (o:=.cells #[.slice Eb Ta.length Db,.int .i64 Pa,.int .i64 Oa,.int .i64 Ma,.int .i64 Vc] 68 (0,0)) (by (with_reducible repeat (first|refine Ga ?_ _|refine Ia ?_|refine Fa ?_ _));exact za.out) hb);have uc:=ja.mk (Na (by repeat (first|(with_reducible first|exact HB.out|apply qa|apply ia|apply ua|refine Aa ?_ Wa.out)|exact HB.out)) hb);have Qc:=ja.mk (Yb);have Td:=ja.mk ((by rw [hg];exact (Qa (by repeat (first|(with_reducible first|exact HB.out|apply qa|apply ia|apply ua|refine Aa ?_ Wa.out)|exact HB.out))):w.heap.size ≤ Ja));have dh:=ja.mk ((by rw [hg];exact (Qa (by repeat (first|(with_reducible first|exact HB.out|apply qa|apply ia|apply ua|refine Aa ?_ Wa.out)|exact HB.out))):w.heap.size ≤ Ja));have Eh:=ja.mk ((by rw [hg];exact Nat.ne_of_lt (Pc (g:=Da) (o:=.cells #[.slice Eb Ta.length Db,.int .i64 Pa,.int .i64 Oa,.int .i64 Ma,.int .i64 Vc] 68 (0,0)) (by (with_reducible repeat (first|refine Ga ?_ _|refine Ia ?_|refine Fa ?_ _));exact za.out)):Da ≠ Ja));have Kh:=ja.mk ((by rw [hg];exact Nat.ne_of_gt (Pc (g:=Da) (o:=.cells #[.slice Eb Ta.length Db,.int .i64 Pa,.int .i64 Oa,.int .i64 Ma,.int .i64 Vc] 68 (0,0)) (by (with_reducible repeat (first|refine Ga ?_ _|refine Ia ?_|refine Fa ?_ _));exact za.out)):Ja ≠ Da));clear za HB;have za:=Qb;have HB:=uc;have Ba:=Qc;have Ci:=Td;have Dc:=dh;have qb:=Eh;have mb:=Kh;clear Qb uc Qc Td dh Eh Kh hb Yb hg;have VQ:=qb.out;have MQ:=mb.out;have ZH:SM.cell? ⟨Da,0,none⟩=some (.slice Eb Ta.length Db):=(ga za.out 0).trans rfl;have YH:SM.cell? ⟨Da,1,none⟩=some (.int .i64 Pa):=(ga za.out 1).trans rfl;have XH:SM.cell? ⟨Da,2,none⟩=some (.int .i64 Oa):=(ga za.out 2).trans rfl;have WH:SM.cell? ⟨Da,3,none⟩=some (.int .i64 Ma):=(ga za.out 3).trans rfl;have VH:SM.cell? ⟨Da,4,none⟩=some (.int .i64 Vc):=(ga za.out 4).trans rfl;have SG:=aa za.out 0;have RG:=aa za.out 1;have QG:=aa za.out 2;have PG:=aa za.out 3;have OG:=aa za.out 4;have UH:SM.cell? ⟨Ja,0,none⟩=some (.slice kg Nd.length Tf):=(ga Ba.out 0).trans rfl;have TH:SM.cell? ⟨Ja,1,none⟩=some (.int .i64 Lb):=(ga Ba.out 1).trans rfl;have Eac:SM.cell? ⟨Ja,2,none⟩=some (.int .i64 Rb):=(ga Ba.out 2).trans rfl;have Dac:SM.cell? ⟨Ja,3,none⟩=some (.int .i64 Sb):=(ga Ba.out 3).trans rfl;have Cac:SM.cell? ⟨Ja,4,none⟩=some (.int .i64 Uc):=(ga Ba.out 4).trans rfl;have NG:=aa Ba.out 0;have MG:=aa Ba.out 1;have U9:=aa Ba.out 2;have T9:=aa Ba.out 3;have S9:=aa Ba.out 4)|((with_reducible refine xb (f:=120) rfl ?_);refine qd (some 9) rfl rfl Try.func120 (by kernel_rfl) rfl #[.slice Eb Ta.length Db,.slice kg Nd.length Tf] rfl (by (try simp only [List.map_toArray,List.map_cons,List.map_nil]);first|done|rfl|(simp only [List.length_drop,List.length_take];rfl)) ?_;(with_reducible refine (Wb.calls k _ _ Ta _ _ Nd false _ ?side1 ?side2 ?side3 ?side4 A3.out).mono ?_);(case side1=>repeat (first|exact (Kd.Mb Uf.out HB.out)|(with_reducible refine Kd.Lc ?_ _)|(with_reducible refine Kd.Jc ?_ _)|(with_reducible refine Kd.Ed ?_)));(case side2=>exact ig.out);(case side3=>repeat (first|exact (Kd.Mb Rm.out HB.out)|(with_reducible refine Kd.Lc ?_ _)|(with_reducible refine Kd.Jc ?_ _)|(with_reducible refine Kd.Ed ?_)));(case side4=>exact Qp.out);rintro e w54 ⟨rfl,hb⟩;refine ⟨_,rfl,?_⟩;have Qb:=ja.mk (Ya (g:=Da) (o:=.cells #[.slice Eb Ta.length Db,.int .i64 Pa,.int .i64 Oa,.int .i64 Ma,.int .i64 Vc] 68 (0,0)) (by (with_reducible repeat (first|refine Ga ?_ _|refine Ia ?_|refine Fa ?_ _));exact za.out) hb);have uc:=ja.mk (Ya (g:=Ja) (o:=.cells #[.slice kg Nd.length Tf,.int .i64 Lb,.int .i64 Rb,.int .i64 Sb,.int .i64 Uc] 68 (0,0)) (by (with_reducible repeat (first|refine Ga ?_ _|refine Ia ?_|refine Fa ?_ _));exact Ba.out) hb);have Qc:=ja.mk (Na (by repeat (first|(with_reducible first|exact HB.out|apply qa|apply ia|apply ua|refine Aa ?_ Wa.out|refine Aa ?_ Dc.out)|exact HB.out)) hb);clear za Ba HB;have za:=Qb;have Ba:=uc;have HB:=Qc;clear Qb uc Qc;(try clear hb);(try clear hb2);(try clear hk);(try clear hi)))
  go_ret
  exact ⟨by first|rfl|(simp [La,Ka] <;> rfl)|(simp [*,La,Ka] <;> rfl),by repeat (first|(with_reducible first|exact HB.out|apply qa|apply ia|apply ua|refine Aa ?_ Wa.out|refine Aa ?_ Dc.out)|exact HB.out)⟩
end Go.Proofs.Ytmifdccaajngcaa.P
end
