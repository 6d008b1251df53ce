import Derived.Test.YtkigbdceceeenaaQCode1
import Derived.Test.YtkigbdceceeenaaQCode8
import Derived.Test.YtkigbdceceeenaaQCode9
import Derived.Test.YtkigbdceceeenaaQCode6
import Derived.Test.YtkigbdceceeenaaQCode7
import Derived.Test.YtkigbdceceeenaaQCode3
import Derived.Test.YtkigbdceceeenaaQCode2
import Derived.Shelf.Abstract
import Derived.Outline
import Derived.RegionTactic
set_option maxHeartbeats 8000000
set_option maxRecDepth 100000
section
namespace Go.Proofs.Ytkigbdceceeenaa.P
open Go.RowKit Go.Proofs.Oa.Rb Go.Proofs.Oa.Pd Go.Proofs.Oa.Re
set_option linter.unusedVariables false
set_option linter.unusedSimpArgs false
attribute [local go_sem] Mh ki rj Kj th qh ni ji
def Oj.f (k:Nat) (Ua:List Int) (Pa:Int) (Ra:Int) (Sa:Int) (Fa:List (Ff)) (Pc:List Int) (Oc:Int) (Bc:Int) (Nc:Int) (eo:List (Ff)):Option (Bool):=(Gd.f k Ua Pc).bind fun t103=>(if t103=true then (if Pa=Oc then (if Ra=Bc then (if Sa=Nc then ((Sc.f k Fa eo).bind fun t104=>(if t104=true then (some true) else (some false))) else (some false)) else (some false)) else (some false)) else (some false))
theorem Oj.calls (k:Nat) (yb:Option Addr) (zb:Nat) (Ua:List Int) (Pa:Int) (Ra:Int) (Sa:Int) (fc:Option Addr) (Qb:Nat) (Fa:List (Ff)) (Wf:Option Addr) (Gf:Nat) (Pc:List Int) (Oc:Int) (Bc:Int) (Nc:Int) (Mu:Option Addr) (Ku:Nat) (eo:List (Ff)) (r:Bool) (w:World) (jf:Kd.C (Kd.int .i64) w yb Ua.length Ua) (Ze:Ua.length ≤ zb) (Lg:Kd.C Wr w fc Fa.length Fa) (Ig:Fa.length ≤ Qb) (Xr:Kd.C (Kd.int .i64) w Wf Pc.length Pc) (Zr:Pc.length ≤ Gf) (F7:Kd.C Wr w Mu eo.length eo) (j9:eo.length ≤ Ku) (h:Oj.f k Ua Pa Ra Sa Fa Pc Oc Bc Nc eo=some r) :
  Calls Try.prog 14 #[.agg #[.slice yb Ua.length zb,.int .i64 Pa,.int .i64 Ra,.int .i64 Sa,.slice fc Fa.length Qb],.agg #[.slice Wf Pc.length Gf,.int .i64 Oc,.int .i64 Bc,.int .i64 Nc,.slice Mu eo.length Ku]] w fun e w'=>e = .returned (.bool r)∧Below w.heap.size w w':=by
 have uI:=Try.underlying30;have lf:=aa.mk jf;have Df:=aa.mk Ze;clear jf Ze;have Tg:=aa.mk Lg;have Ej:=aa.mk Ig;clear Lg Ig;have Nl:=aa.mk Xr;have Lm:=aa.mk Zr;clear Xr Zr;have B_:=aa.mk F7;have R_:=aa.mk j9;clear F7 j9;have HB:=aa.mk (Below.refl w.heap.size w);have H:((Gd.f k Ua Pc).bind fun t103=>(if t103=true then (if Pa=Oc then (if Ra=Bc then (if Sa=Nc then ((Sc.f k Fa eo).bind fun t104=>(if t104=true then (some true) else (some false))) else (some false)) else (some false)) else (some false)) else (some false)))=some r:=h;clear h;replace H:=Option.bind_eq_some_iff.mp H;obtain ⟨t103,Qx,H⟩:=H
 try dsimp only at H
 have A3:=aa.mk Qx;clear Qx
 by_cases c4:t103=true
 ·subst c4;rw [if_pos rfl] at H
  by_cases c5:Pa=Oc
  ·rw [if_pos c5] at H;have Tl:=beq_iff_eq.mpr c5;have tu:=bne_eq_false_iff_eq.mpr c5;clear c5
   by_cases c6:Ra=Bc
   ·rw [if_pos c6] at H;have vn:=beq_iff_eq.mpr c6;have zB:=bne_eq_false_iff_eq.mpr c6;clear c6
    by_cases c7:Sa=Nc
    ·rw [if_pos c7] at H;have Yl:=beq_iff_eq.mpr c7;have su:=bne_eq_false_iff_eq.mpr c7;clear c7;replace H:=Option.bind_eq_some_iff.mp H;obtain ⟨t104,aY,H⟩:=H
     try dsimp only at H
     have A8:=aa.mk aY;clear aY
     by_cases c9:t104=true
     ·subst c9;rw [if_pos rfl] at H;obtain rfl:=Option.some.inj H;go_enter Try.func14,Try.ntmps14;go_wp2_with (first|((with_reducible refine Za (N:=2) rfl ?_);refine Ab ?hg (N:=2) ?hd (cs:=#[.slice yb Ua.length zb,.int .i64 Pa,.int .i64 Ra,.int .i64 Sa,.slice fc Fa.length Qb]) (t:=30) ?hr ?_;(case hd|hg=>rfl);(case hr=>exact gaK);intro ya hg Bo Fb hb;have Bb:=aa.mk (Ma jaK hb);have Db:=aa.mk (Fb);have Ib:=aa.mk ((by rw [hg];exact (Da jaK):w.heap.size ≤ ya));have Xb:=aa.mk ((by rw [hg];exact (Da jaK):w.heap.size ≤ ya));clear HB;have HB:=Bb;have ta:=Db;have Jd:=Ib;have Qa:=Xb;clear Bb Db Ib Xb hb Fb hg)|((with_reducible refine Za (N:=3) rfl ?_);refine Ab ?hg (N:=3) ?hd (cs:=#[.slice Wf Pc.length Gf,.int .i64 Oc,.int .i64 Bc,.int .i64 Nc,.slice Mu eo.length Ku]) (t:=30) ?hr ?_;(case hd|hg=>rfl);(case hr=>exact gaK);intro Ta hg Zj Fb hb;have Bb:=aa.mk (Na (g:=ya) (o:=.cells #[.slice yb Ua.length zb,.int .i64 Pa,.int .i64 Ra,.int .i64 Sa,.slice fc Fa.length Qb] 30 (0,0)) kaK hb);have Db:=aa.mk (Ma iaK hb);have Ib:=aa.mk (Fb);have Xb:=aa.mk ((by rw [hg];exact (Da iaK):w.heap.size ≤ Ta));have De:=aa.mk ((by rw [hg];exact (Da iaK):w.heap.size ≤ Ta));have ef:=aa.mk ((by rw [hg];exact Nat.ne_of_lt (Tb (g:=ya) (o:=.cells #[.slice yb Ua.length zb,.int .i64 Pa,.int .i64 Ra,.int .i64 Sa,.slice fc Fa.length Qb] 30 (0,0)) kaK):ya ≠ Ta));have Cf:=aa.mk ((by rw [hg];exact Nat.ne_of_gt (Tb (g:=ya) (o:=.cells #[.slice yb Ua.length zb,.int .i64 Pa,.int .i64 Ra,.int .i64 Sa,.slice fc Fa.length Qb] 30 (0,0)) kaK):Ta ≠ ya));clear ta HB;have ta:=Bb;have HB:=Db;have Ea:=Ib;have bh:=Xb;have Lb:=De;have xb:=ef;have qb:=Cf;clear Bb Db Ib Xb De ef Cf hb Fb hg;have j8:=xb.out;have Q7:=qb.out;have ir:Zj.cell? ⟨ya,0,none⟩=some (.slice yb Ua.length zb):=(ja ta.out 0).trans rfl;have gr:Zj.cell? ⟨ya,1,none⟩=some (.int .i64 Pa):=(ja ta.out 1).trans rfl;have er:Zj.cell? ⟨ya,2,none⟩=some (.int .i64 Ra):=(ja ta.out 2).trans rfl;have dr:Zj.cell? ⟨ya,3,none⟩=some (.int .i64 Sa):=(ja ta.out 3).trans rfl;have iu:Zj.cell? ⟨ya,4,none⟩=some (.slice fc Fa.length Qb):=(ja ta.out 4).trans rfl;have Fq:=qa ta.out 0;have Dq:=qa ta.out 1;have Cq:=qa ta.out 2;have Bq:=qa ta.out 3;have Gt:=qa ta.out 4;have Xn:Zj.cell? ⟨Ta,0,none⟩=some (.slice Wf Pc.length Gf):=(ja Ea.out 0).trans rfl;have Wn:Zj.cell? ⟨Ta,1,none⟩=some (.int .i64 Oc):=(ja Ea.out 1).trans rfl;have Vn:Zj.cell? ⟨Ta,2,none⟩=some (.int .i64 Bc):=(ja Ea.out 2).trans rfl;have Un:Zj.cell? ⟨Ta,3,none⟩=some (.int .i64 Nc):=(ja Ea.out 3).trans rfl;have Tn:Zj.cell? ⟨Ta,4,none⟩=some (.slice Mu eo.length Ku):=(ja Ea.out 4).trans rfl;have Sn:=qa Ea.out 0;have Rn:=qa Ea.out 1;have Qn:=qa Ea.out 2;have Pn:=qa Ea.out 3;have Nn:=qa Ea.out 4)|((with_reducible refine Cb (f:=17) rfl ?_);refine Jc (some 9) rfl rfl Try.func17 (by kernel_rfl) rfl #[.slice yb Ua.length zb,.slice Wf Pc.length Gf] rfl laK ?_;(with_reducible refine (Gd.calls k _ _ Ua _ _ Pc true _ ?Ic ?Gc ?Ae ?ze A3.out).mono ?_);(case Ic=>repeat (first|exact (Kd.Kb lf.out HB.out)|(with_reducible refine Kd.Vb ?_ _)|(with_reducible refine Kd.Ub ?_ _)|(with_reducible refine Kd.tc ?_)));(case Gc=>exact Df.out);(case Ae=>repeat (first|exact (Kd.Kb Nl.out HB.out)|(with_reducible refine Kd.Vb ?_ _)|(with_reducible refine Kd.Ub ?_ _)|(with_reducible refine Kd.tc ?_)));(case ze=>exact Lm.out);rintro e w' ⟨rfl,⟨nd,rfl⟩⟩;refine ⟨_,rfl,?_⟩)|((with_reducible refine Cb (f:=52) rfl ?_);refine Jc (some 30) rfl rfl Try.func52 (by kernel_rfl) rfl #[.slice fc Fa.length Qb,.slice Mu eo.length Ku] rfl laK ?_;(with_reducible refine (Sc.calls k _ _ Fa _ _ eo true _ ?Ic ?Gc ?Ae ?ze A8.out).mono ?_);(case Ic=>repeat (first|exact (Kd.Kb Tg.out paK)|(with_reducible refine Kd.Vb ?_ _)|(with_reducible refine Kd.Ub ?_ _)|(with_reducible refine Kd.tc ?_)));(case Gc=>exact Ej.out);(case Ae=>repeat (first|exact (Kd.Kb B_.out paK)|(with_reducible refine Kd.Vb ?_ _)|(with_reducible refine Kd.Ub ?_ _)|(with_reducible refine Kd.tc ?_)));(case ze=>exact R_.out);rintro e Ho ⟨rfl,hb⟩;refine ⟨_,rfl,?_⟩;have Bb:=aa.mk (Na (g:=ya) (o:=.cells #[.slice yb Ua.length zb,.int .i64 Pa,.int .i64 Ra,.int .i64 Sa,.slice fc Fa.length Qb] 30 (0,0)) kaK hb);have Db:=aa.mk (Na (g:=Ta) (o:=.cells #[.slice Wf Pc.length Gf,.int .i64 Oc,.int .i64 Bc,.int .i64 Nc,.slice Mu eo.length Ku] 30 (0,0)) qaK hb);have Ib:=aa.mk (Ma paK hb);clear ta Ea HB;have ta:=Bb;have Ea:=Db;have HB:=Ib;clear Bb Db Ib;(try clear hb);(try clear ek);(try clear hk);(try clear hi)));go_ret;exact ⟨naK,maK⟩
     ·replace c9:=Bool.eq_false_iff.mpr c9;subst c9;rw [if_neg (show ¬ (false=true) by decide)] at H;obtain rfl:=Option.some.inj H;go_enter Try.func14,Try.ntmps14;go_wp2_with (first|((with_reducible refine Za (N:=2) rfl ?_);refine Ab ?hg (N:=2) ?hd (cs:=#[.slice yb Ua.length zb,.int .i64 Pa,.int .i64 Ra,.int .i64 Sa,.slice fc Fa.length Qb]) (t:=30) ?hr ?_;(case hd|hg=>rfl);(case hr=>exact gaK);intro ya hg um Fb hb;have Bb:=aa.mk (Ma jaK hb);have Db:=aa.mk (Fb);have Ib:=aa.mk ((by rw [hg];exact (Da jaK):w.heap.size ≤ ya));have Xb:=aa.mk ((by rw [hg];exact (Da jaK):w.heap.size ≤ ya));clear HB;have HB:=Bb;have ta:=Db;have Jd:=Ib;have Qa:=Xb;clear Bb Db Ib Xb hb Fb hg)|((with_reducible refine Za (N:=3) rfl ?_);refine Ab ?hg (N:=3) ?hd (cs:=#[.slice Wf Pc.length Gf,.int .i64 Oc,.int .i64 Bc,.int .i64 Nc,.slice Mu eo.length Ku]) (t:=30) ?hr ?_;(case hd|hg=>rfl);(case hr=>exact gaK);intro Ta hg Qr Fb hb;have Bb:=aa.mk (Na (g:=ya) (o:=.cells #[.slice yb Ua.length zb,.int .i64 Pa,.int .i64 Ra,.int .i64 Sa,.slice fc Fa.length Qb] 30 (0,0)) kaK hb);have Db:=aa.mk (Ma iaK hb);have Ib:=aa.mk (Fb);have Xb:=aa.mk ((by rw [hg];exact (Da iaK):w.heap.size ≤ Ta));have De:=aa.mk ((by rw [hg];exact (Da iaK):w.heap.size ≤ Ta));have ef:=aa.mk ((by rw [hg];exact Nat.ne_of_lt (Tb (g:=ya) (o:=.cells #[.slice yb Ua.length zb,.int .i64 Pa,.int .i64 Ra,.int .i64 Sa,.slice fc Fa.length Qb] 30 (0,0)) kaK):ya ≠ Ta));have Cf:=aa.mk ((by rw [hg];exact Nat.ne_of_gt (Tb (g:=ya) (o:=.cells #[.slice yb Ua.length zb,.int .i64 Pa,.int .i64 Ra,.int .i64 Sa,.slice fc Fa.length Qb] 30 (0,0)) kaK):Ta ≠ ya));clear ta HB;have ta:=Bb;have HB:=Db;have Ea:=Ib;have bh:=Xb;have Lb:=De;have xb:=ef;have qb:=Cf;clear Bb Db Ib Xb De ef Cf hb Fb hg;have vaD:=xb.out;have MaC:=qb.out;have VQ:Qr.cell? ⟨ya,0,none⟩=some (.slice yb Ua.length zb):=(ja ta.out 0).trans rfl;have UQ:Qr.cell? ⟨ya,1,none⟩=some (.int .i64 Pa):=(ja ta.out 1).trans rfl;have TQ:Qr.cell? ⟨ya,2,none⟩=some (.int .i64 Ra):=(ja ta.out 2).trans rfl;have SQ:Qr.cell? ⟨ya,3,none⟩=some (.int .i64 Sa):=(ja ta.out 3).trans rfl;have V4:Qr.cell? ⟨ya,4,none⟩=some (.slice fc Fa.length Qb):=(ja ta.out 4).trans rfl;have dQ:=qa ta.out 0;have cQ:=qa ta.out 1;have bQ:=qa ta.out 2;have aQ:=qa ta.out 3;have S1:=qa ta.out 4;have U4:Qr.cell? ⟨Ta,0,none⟩=some (.slice Wf Pc.length Gf):=(ja Ea.out 0).trans rfl;have S4:Qr.cell? ⟨Ta,1,none⟩=some (.int .i64 Oc):=(ja Ea.out 1).trans rfl;have R4:Qr.cell? ⟨Ta,2,none⟩=some (.int .i64 Bc):=(ja Ea.out 2).trans rfl;have Q4:Qr.cell? ⟨Ta,3,none⟩=some (.int .i64 Nc):=(ja Ea.out 3).trans rfl;have P4:Qr.cell? ⟨Ta,4,none⟩=some (.slice Mu eo.length Ku):=(ja Ea.out 4).trans rfl;have R1:=qa Ea.out 0;have Q1:=qa Ea.out 1;have P1:=qa Ea.out 2;have O1:=qa Ea.out 3;have N1:=qa Ea.out 4)|((with_reducible refine Cb (f:=17) rfl ?_);refine Jc (some 9) rfl rfl Try.func17 (by kernel_rfl) rfl #[.slice yb Ua.length zb,.slice Wf Pc.length Gf] rfl laK ?_;(with_reducible refine (Gd.calls k _ _ Ua _ _ Pc true _ ?Ic ?Gc ?Ae ?ze A3.out).mono ?_);(case Ic=>repeat (first|exact (Kd.Kb lf.out HB.out)|(with_reducible refine Kd.Vb ?_ _)|(with_reducible refine Kd.Ub ?_ _)|(with_reducible refine Kd.tc ?_)));(case Gc=>exact Df.out);(case Ae=>repeat (first|exact (Kd.Kb Nl.out HB.out)|(with_reducible refine Kd.Vb ?_ _)|(with_reducible refine Kd.Ub ?_ _)|(with_reducible refine Kd.tc ?_)));(case ze=>exact Lm.out);rintro e w' ⟨rfl,⟨nd,rfl⟩⟩;refine ⟨_,rfl,?_⟩)|((with_reducible refine Cb (f:=52) rfl ?_);refine Jc (some 30) rfl rfl Try.func52 (by kernel_rfl) rfl #[.slice fc Fa.length Qb,.slice Mu eo.length Ku] rfl laK ?_;(with_reducible refine (Sc.calls k _ _ Fa _ _ eo false _ ?Ic ?Gc ?Ae ?ze A8.out).mono ?_);(case Ic=>repeat (first|exact (Kd.Kb Tg.out paK)|(with_reducible refine Kd.Vb ?_ _)|(with_reducible refine Kd.Ub ?_ _)|(with_reducible refine Kd.tc ?_)));(case Gc=>exact Ej.out);(case Ae=>repeat (first|exact (Kd.Kb B_.out paK)|(with_reducible refine Kd.Vb ?_ _)|(with_reducible refine Kd.Ub ?_ _)|(with_reducible refine Kd.tc ?_)));(case ze=>exact R_.out);rintro e Wp ⟨rfl,hb⟩;refine ⟨_,rfl,?_⟩;have Bb:=aa.mk (Na (g:=ya) (o:=.cells #[.slice yb Ua.length zb,.int .i64 Pa,.int .i64 Ra,.int .i64 Sa,.slice fc Fa.length Qb] 30 (0,0)) kaK hb);have Db:=aa.mk (Na (g:=Ta) (o:=.cells #[.slice Wf Pc.length Gf,.int .i64 Oc,.int .i64 Bc,.int .i64 Nc,.slice Mu eo.length Ku] 30 (0,0)) qaK hb);have Ib:=aa.mk (Ma paK hb);clear ta Ea HB;have ta:=Bb;have Ea:=Db;have HB:=Ib;clear Bb Db Ib;(try clear hb);(try clear ek);(try clear hk);(try clear hi)));go_ret;exact ⟨naK,maK⟩
    ·rw [if_neg c7] at H;have Yl:=beq_eq_false_iff_ne.mpr c7;have su:=bne_iff_ne.mpr c7;obtain rfl:=Option.some.inj H;go_enter Try.func14,Try.ntmps14;go_wp2_with (first|((with_reducible refine Za (N:=2) rfl ?_);refine Ab ?hg (N:=2) ?hd (cs:=#[.slice yb Ua.length zb,.int .i64 Pa,.int .i64 Ra,.int .i64 Sa,.slice fc Fa.length Qb]) (t:=30) ?hr ?_;(case hd|hg=>rfl);(case hr=>exact gaK);intro ya hg IC Fb hb;have Bb:=aa.mk (Ma jaK hb);have Db:=aa.mk (Fb);have Ib:=aa.mk ((by rw [hg];exact (Da jaK):w.heap.size ≤ ya));have Xb:=aa.mk ((by rw [hg];exact (Da jaK):w.heap.size ≤ ya));clear HB;have HB:=Bb;have ta:=Db;have Jd:=Ib;have Qa:=Xb;clear Bb Db Ib Xb hb Fb hg)|((with_reducible refine Za (N:=3) rfl ?_);refine Ab ?hg (N:=3) ?hd (cs:=#[.slice Wf Pc.length Gf,.int .i64 Oc,.int .i64 Bc,.int .i64 Nc,.slice Mu eo.length Ku]) (t:=30) ?hr ?_;(case hd|hg=>rfl);(case hr=>exact gaK);intro Ta hg Po Fb hb;have Bb:=aa.mk (Na (g:=ya) (o:=.cells #[.slice yb Ua.length zb,.int .i64 Pa,.int .i64 Ra,.int .i64 Sa,.slice fc Fa.length Qb] 30 (0,0)) kaK hb);have Db:=aa.mk (Ma iaK hb);have Ib:=aa.mk (Fb);have Xb:=aa.mk ((by rw [hg];exact (Da iaK):w.heap.size ≤ Ta));have De:=aa.mk ((by rw [hg];exact (Da iaK):w.heap.size ≤ Ta));have ef:=aa.mk ((by rw [hg];exact Nat.ne_of_lt (Tb (g:=ya) (o:=.cells #[.slice yb Ua.length zb,.int .i64 Pa,.int .i64 Ra,.int .i64 Sa,.slice fc Fa.length Qb] 30 (0,0)) kaK):ya ≠ Ta));have Cf:=aa.mk ((by rw [hg];exact Nat.ne_of_gt (Tb (g:=ya) (o:=.cells #[.slice yb Ua.length zb,.int .i64 Pa,.int .i64 Ra,.int .i64 Sa,.slice fc Fa.length Qb] 30 (0,0)) kaK):Ta ≠ ya));clear ta HB;have ta:=Bb;have HB:=Db;have Ea:=Ib;have bh:=Xb;have Lb:=De;have xb:=ef;have qb:=Cf;clear Bb Db Ib Xb De ef Cf hb Fb hg;have zag:=xb.out;have iag:=qb.out;have au:Po.cell? ⟨ya,0,none⟩=some (.slice yb Ua.length zb):=(ja ta.out 0).trans rfl;have Zt:Po.cell? ⟨ya,1,none⟩=some (.int .i64 Pa):=(ja ta.out 1).trans rfl;have Yt:Po.cell? ⟨ya,2,none⟩=some (.int .i64 Ra):=(ja ta.out 2).trans rfl;have Xt:Po.cell? ⟨ya,3,none⟩=some (.int .i64 Sa):=(ja ta.out 3).trans rfl;have Xw:Po.cell? ⟨ya,4,none⟩=some (.slice fc Fa.length Qb):=(ja ta.out 4).trans rfl;have yt:=qa ta.out 0;have vt:=qa ta.out 1;have qt:=qa ta.out 2;have ot:=qa ta.out 3;have vw:=qa ta.out 4;have Qq:Po.cell? ⟨Ta,0,none⟩=some (.slice Wf Pc.length Gf):=(ja Ea.out 0).trans rfl;have Pq:Po.cell? ⟨Ta,1,none⟩=some (.int .i64 Oc):=(ja Ea.out 1).trans rfl;have Oq:Po.cell? ⟨Ta,2,none⟩=some (.int .i64 Bc):=(ja Ea.out 2).trans rfl;have Nq:Po.cell? ⟨Ta,3,none⟩=some (.int .i64 Nc):=(ja Ea.out 3).trans rfl;have Mq:Po.cell? ⟨Ta,4,none⟩=some (.slice Mu eo.length Ku):=(ja Ea.out 4).trans rfl;have mq:=qa Ea.out 0;have lq:=qa Ea.out 1;have jq:=qa Ea.out 2;have iq:=qa Ea.out 3;have gq:=qa Ea.out 4)|((with_reducible refine Cb (f:=17) rfl ?_);refine Jc (some 9) rfl rfl Try.func17 (by kernel_rfl) rfl #[.slice yb Ua.length zb,.slice Wf Pc.length Gf] rfl laK ?_;(with_reducible refine (Gd.calls k _ _ Ua _ _ Pc true _ ?Ic ?Gc ?Ae ?ze A3.out).mono ?_);(case Ic=>repeat (first|exact (Kd.Kb lf.out HB.out)|(with_reducible refine Kd.Vb ?_ _)|(with_reducible refine Kd.Ub ?_ _)|(with_reducible refine Kd.tc ?_)));(case Gc=>exact Df.out);(case Ae=>repeat (first|exact (Kd.Kb Nl.out HB.out)|(with_reducible refine Kd.Vb ?_ _)|(with_reducible refine Kd.Ub ?_ _)|(with_reducible refine Kd.tc ?_)));(case ze=>exact Lm.out);rintro e w' ⟨rfl,⟨nd,rfl⟩⟩;refine ⟨_,rfl,?_⟩));go_ret;exact ⟨naK,maK⟩
   ·rw [if_neg c6] at H;have vn:=beq_eq_false_iff_ne.mpr c6;have zB:=bne_iff_ne.mpr c6;obtain rfl:=Option.some.inj H;go_enter Try.func14,Try.ntmps14;go_wp2_with (first|((with_reducible refine Za (N:=2) rfl ?_);refine Ab ?hg (N:=2) ?hd (cs:=#[.slice yb Ua.length zb,.int .i64 Pa,.int .i64 Ra,.int .i64 Sa,.slice fc Fa.length Qb]) (t:=30) ?hr ?_;(case hd|hg=>rfl);(case hr=>exact gaK);intro ya hg IG Fb hb;have Bb:=aa.mk (Ma jaK hb);have Db:=aa.mk (Fb);have Ib:=aa.mk ((by rw [hg];exact (Da jaK):w.heap.size ≤ ya));have Xb:=aa.mk ((by rw [hg];exact (Da jaK):w.heap.size ≤ ya));clear HB;have HB:=Bb;have ta:=Db;have Jd:=Ib;have Qa:=Xb;clear Bb Db Ib Xb hb Fb hg)|((with_reducible refine Za (N:=3) rfl ?_);refine Ab ?hg (N:=3) ?hd (cs:=#[.slice Wf Pc.length Gf,.int .i64 Oc,.int .i64 Bc,.int .i64 Nc,.slice Mu eo.length Ku]) (t:=30) ?hr ?_;(case hd|hg=>rfl);(case hr=>exact gaK);intro Ta hg Fu Fb hb;have Bb:=aa.mk (Na (g:=ya) (o:=.cells #[.slice yb Ua.length zb,.int .i64 Pa,.int .i64 Ra,.int .i64 Sa,.slice fc Fa.length Qb] 30 (0,0)) kaK hb);have Db:=aa.mk (Ma iaK hb);have Ib:=aa.mk (Fb);have Xb:=aa.mk ((by rw [hg];exact (Da iaK):w.heap.size ≤ Ta));have De:=aa.mk ((by rw [hg];exact (Da iaK):w.heap.size ≤ Ta));have ef:=aa.mk ((by rw [hg];exact Nat.ne_of_lt (Tb (g:=ya) (o:=.cells #[.slice yb Ua.length zb,.int .i64 Pa,.int .i64 Ra,.int .i64 Sa,.slice fc Fa.length Qb] 30 (0,0)) kaK):ya ≠ Ta));have Cf:=aa.mk ((by rw [hg];exact Nat.ne_of_gt (Tb (g:=ya) (o:=.cells #[.slice yb Ua.length zb,.int .i64 Pa,.int .i64 Ra,.int .i64 Sa,.slice fc Fa.length Qb] 30 (0,0)) kaK):Ta ≠ ya));clear ta HB;have ta:=Bb;have HB:=Db;have Ea:=Ib;have bh:=Xb;have Lb:=De;have xb:=ef;have qb:=Cf;clear Bb Db Ib Xb De ef Cf hb Fb hg;have xag:=xb.out;have gag:=qb.out;have ZD:Fu.cell? ⟨ya,0,none⟩=some (.slice yb Ua.length zb):=(ja ta.out 0).trans rfl;have YD:Fu.cell? ⟨ya,1,none⟩=some (.int .i64 Pa):=(ja ta.out 1).trans rfl;have XD:Fu.cell? ⟨ya,2,none⟩=some (.int .i64 Ra):=(ja ta.out 2).trans rfl;have WD:Fu.cell? ⟨ya,3,none⟩=some (.int .i64 Sa):=(ja ta.out 3).trans rfl;have K4:Fu.cell? ⟨ya,4,none⟩=some (.slice fc Fa.length Qb):=(ja ta.out 4).trans rfl;have oD:=qa ta.out 0;have nD:=qa ta.out 1;have mD:=qa ta.out 2;have lD:=qa ta.out 3;have G1:=qa ta.out 4;have Ww:Fu.cell? ⟨Ta,0,none⟩=some (.slice Wf Pc.length Gf):=(ja Ea.out 0).trans rfl;have Vw:Fu.cell? ⟨Ta,1,none⟩=some (.int .i64 Oc):=(ja Ea.out 1).trans rfl;have Uw:Fu.cell? ⟨Ta,2,none⟩=some (.int .i64 Bc):=(ja Ea.out 2).trans rfl;have Tw:Fu.cell? ⟨Ta,3,none⟩=some (.int .i64 Nc):=(ja Ea.out 3).trans rfl;have Sw:Fu.cell? ⟨Ta,4,none⟩=some (.slice Mu eo.length Ku):=(ja Ea.out 4).trans rfl;have uw:=qa Ea.out 0;have tw:=qa Ea.out 1;have sw:=qa Ea.out 2;have qw:=qa Ea.out 3;have ow:=qa Ea.out 4)|((with_reducible refine Cb (f:=17) rfl ?_);refine Jc (some 9) rfl rfl Try.func17 (by kernel_rfl) rfl #[.slice yb Ua.length zb,.slice Wf Pc.length Gf] rfl laK ?_;(with_reducible refine (Gd.calls k _ _ Ua _ _ Pc true _ ?Ic ?Gc ?Ae ?ze A3.out).mono ?_);(case Ic=>repeat (first|exact (Kd.Kb lf.out HB.out)|(with_reducible refine Kd.Vb ?_ _)|(with_reducible refine Kd.Ub ?_ _)|(with_reducible refine Kd.tc ?_)));(case Gc=>exact Df.out);(case Ae=>repeat (first|exact (Kd.Kb Nl.out HB.out)|(with_reducible refine Kd.Vb ?_ _)|(with_reducible refine Kd.Ub ?_ _)|(with_reducible refine Kd.tc ?_)));(case ze=>exact Lm.out);rintro e w' ⟨rfl,⟨nd,rfl⟩⟩;refine ⟨_,rfl,?_⟩));go_ret;exact ⟨naK,maK⟩
  ·rw [if_neg c5] at H;have Tl:=beq_eq_false_iff_ne.mpr c5;have tu:=bne_iff_ne.mpr c5;obtain rfl:=Option.some.inj H;go_enter Try.func14,Try.ntmps14;go_wp2_with (first|((with_reducible refine Za (N:=2) rfl ?_);refine Ab ?hg (N:=2) ?hd (cs:=#[.slice yb Ua.length zb,.int .i64 Pa,.int .i64 Ra,.int .i64 Sa,.slice fc Fa.length Qb]) (t:=30) ?hr ?_;(case hd|hg=>rfl);(case hr=>exact gaK);intro ya hg WO Fb hb;have Bb:=aa.mk (Ma jaK hb);have Db:=aa.mk (Fb);have Ib:=aa.mk ((by rw [hg];exact (Da jaK):w.heap.size ≤ ya));have Xb:=aa.mk ((by rw [hg];exact (Da jaK):w.heap.size ≤ ya));clear HB;have HB:=Bb;have ta:=Db;have Jd:=Ib;have Qa:=Xb;clear Bb Db Ib Xb hb Fb hg)|((with_reducible refine Za (N:=3) rfl ?_);refine Ab ?hg (N:=3) ?hd (cs:=#[.slice Wf Pc.length Gf,.int .i64 Oc,.int .i64 Bc,.int .i64 Nc,.slice Mu eo.length Ku]) (t:=30) ?hr ?_;(case hd|hg=>rfl);(case hr=>exact gaK);intro Ta hg VO Fb hb;have Bb:=aa.mk (Na (g:=ya) (o:=.cells #[.slice yb Ua.length zb,.int .i64 Pa,.int .i64 Ra,.int .i64 Sa,.slice fc Fa.length Qb] 30 (0,0)) kaK hb);have Db:=aa.mk (Ma iaK hb);have Ib:=aa.mk (Fb);have Xb:=aa.mk ((by rw [hg];exact (Da iaK):w.heap.size ≤ Ta));have De:=aa.mk ((by rw [hg];exact (Da iaK):w.heap.size ≤ Ta));have ef:=aa.mk ((by rw [hg];exact Nat.ne_of_lt (Tb (g:=ya) (o:=.cells #[.slice yb Ua.length zb,.int .i64 Pa,.int .i64 Ra,.int .i64 Sa,.slice fc Fa.length Qb] 30 (0,0)) kaK):ya ≠ Ta));have Cf:=aa.mk ((by rw [hg];exact Nat.ne_of_gt (Tb (g:=ya) (o:=.cells #[.slice yb Ua.length zb,.int .i64 Pa,.int .i64 Ra,.int .i64 Sa,.slice fc Fa.length Qb] 30 (0,0)) kaK):Ta ≠ ya));clear ta HB;have ta:=Bb;have HB:=Db;have Ea:=Ib;have bh:=Xb;have Lb:=De;have xb:=ef;have qb:=Cf;clear Bb Db Ib Xb De ef Cf hb Fb hg;have oaD:=xb.out;have FaC:=qb.out;have BJ:VO.cell? ⟨ya,0,none⟩=some (.slice yb Ua.length zb):=(ja ta.out 0).trans rfl;have zJ:VO.cell? ⟨ya,1,none⟩=some (.int .i64 Pa):=(ja ta.out 1).trans rfl;have yJ:VO.cell? ⟨ya,2,none⟩=some (.int .i64 Ra):=(ja ta.out 2).trans rfl;have xJ:VO.cell? ⟨ya,3,none⟩=some (.int .i64 Sa):=(ja ta.out 3).trans rfl;have GQ:VO.cell? ⟨ya,4,none⟩=some (.slice fc Fa.length Qb):=(ja ta.out 4).trans rfl;have RI:=qa ta.out 0;have QI:=qa ta.out 1;have PI:=qa ta.out 2;have OI:=qa ta.out 3;have NP:=qa ta.out 4;have QD:VO.cell? ⟨Ta,0,none⟩=some (.slice Wf Pc.length Gf):=(ja Ea.out 0).trans rfl;have PD:VO.cell? ⟨Ta,1,none⟩=some (.int .i64 Oc):=(ja Ea.out 1).trans rfl;have OD:VO.cell? ⟨Ta,2,none⟩=some (.int .i64 Bc):=(ja Ea.out 2).trans rfl;have ND:VO.cell? ⟨Ta,3,none⟩=some (.int .i64 Nc):=(ja Ea.out 3).trans rfl;have MD:VO.cell? ⟨Ta,4,none⟩=some (.slice Mu eo.length Ku):=(ja Ea.out 4).trans rfl;have fD:=qa Ea.out 0;have eD:=qa Ea.out 1;have dD:=qa Ea.out 2;have cD:=qa Ea.out 3;have bD:=qa Ea.out 4)|((with_reducible refine Cb (f:=17) rfl ?_);refine Jc (some 9) rfl rfl Try.func17 (by kernel_rfl) rfl #[.slice yb Ua.length zb,.slice Wf Pc.length Gf] rfl laK ?_;(with_reducible refine (Gd.calls k _ _ Ua _ _ Pc true _ ?Ic ?Gc ?Ae ?ze A3.out).mono ?_);(case Ic=>repeat (first|exact (Kd.Kb lf.out HB.out)|(with_reducible refine Kd.Vb ?_ _)|(with_reducible refine Kd.Ub ?_ _)|(with_reducible refine Kd.tc ?_)));(case Gc=>exact Df.out);(case Ae=>repeat (first|exact (Kd.Kb Nl.out HB.out)|(with_reducible refine Kd.Vb ?_ _)|(with_reducible refine Kd.Ub ?_ _)|(with_reducible refine Kd.tc ?_)));(case ze=>exact Lm.out);rintro e w' ⟨rfl,⟨nd,rfl⟩⟩;refine ⟨_,rfl,?_⟩));go_ret;exact ⟨naK,maK⟩
 ·replace c4:=Bool.eq_false_iff.mpr c4;subst c4;rw [if_neg (show ¬ (false=true) by decide)] at H;obtain rfl:=Option.some.inj H;go_enter Try.func14,Try.ntmps14;go_wp2_with (first|((with_reducible refine Za (N:=2) rfl ?_);refine Ab ?hg (N:=2) ?hd (cs:=#[.slice yb Ua.length zb,.int .i64 Pa,.int .i64 Ra,.int .i64 Sa,.slice fc Fa.length Qb]) (t:=30) ?hr ?_;(case hd|hg=>rfl);(case hr=>exact gaK);intro ya hg w37 Fb hb;have Bb:=aa.mk (Ma jaK hb);have Db:=aa.mk (Fb);have Ib:=aa.mk ((by rw [hg];exact (Da jaK):w.heap.size ≤ ya));have Xb:=aa.mk ((by rw [hg];exact (Da jaK):w.heap.size ≤ ya));clear HB;have HB:=Bb;have ta:=Db;have Jd:=Ib;have Qa:=Xb;clear Bb Db Ib Xb hb Fb hg)|((with_reducible refine Za (N:=3) rfl ?_);refine Ab ?hg (N:=3) ?hd (cs:=#[.slice Wf Pc.length Gf,.int .i64 Oc,.int .i64 Bc,.int .i64 Nc,.slice Mu eo.length Ku]) (t:=30) ?hr ?_;(case hd|hg=>rfl);(case hr=>exact gaK);intro Ta hg vE Fb hb;have Bb:=aa.mk (Na (g:=ya) (o:=.cells #[.slice yb Ua.length zb,.int .i64 Pa,.int .i64 Ra,.int .i64 Sa,.slice fc Fa.length Qb] 30 (0,0)) kaK hb);have Db:=aa.mk (Ma iaK hb);have Ib:=aa.mk (Fb);have Xb:=aa.mk ((by rw [hg];exact (Da iaK):w.heap.size ≤ Ta));have De:=aa.mk ((by rw [hg];exact (Da iaK):w.heap.size ≤ Ta));have ef:=aa.mk ((by rw [hg];exact Nat.ne_of_lt (Tb (g:=ya) (o:=.cells #[.slice yb Ua.length zb,.int .i64 Pa,.int .i64 Ra,.int .i64 Sa,.slice fc Fa.length Qb] 30 (0,0)) kaK):ya ≠ Ta));have Cf:=aa.mk ((by rw [hg];exact Nat.ne_of_gt (Tb (g:=ya) (o:=.cells #[.slice yb Ua.length zb,.int .i64 Pa,.int .i64 Ra,.int .i64 Sa,.slice fc Fa.length Qb] 30 (0,0)) kaK):Ta ≠ ya));clear ta HB;have ta:=Bb;have HB:=Db;have Ea:=Ib;have bh:=Xb;have Lb:=De;have xb:=ef;have qb:=Cf;clear Bb Db Ib Xb De ef Cf hb Fb hg;have W7:=xb.out;have L7:=qb.out;have wA:vE.cell? ⟨ya,0,none⟩=some (.slice yb Ua.length zb):=(ja ta.out 0).trans rfl;have vA:vE.cell? ⟨ya,1,none⟩=some (.int .i64 Pa):=(ja ta.out 1).trans rfl;have uA:vE.cell? ⟨ya,2,none⟩=some (.int .i64 Ra):=(ja ta.out 2).trans rfl;have tA:vE.cell? ⟨ya,3,none⟩=some (.int .i64 Sa):=(ja ta.out 3).trans rfl;have sA:vE.cell? ⟨ya,4,none⟩=some (.slice fc Fa.length Qb):=(ja ta.out 4).trans rfl;have jA:=qa ta.out 0;have iA:=qa ta.out 1;have gA:=qa ta.out 2;have fA:=qa ta.out 3;have eA:=qa ta.out 4;have vQ:vE.cell? ⟨Ta,0,none⟩=some (.slice Wf Pc.length Gf):=(ja Ea.out 0).trans rfl;have uQ:vE.cell? ⟨Ta,1,none⟩=some (.int .i64 Oc):=(ja Ea.out 1).trans rfl;have tQ:vE.cell? ⟨Ta,2,none⟩=some (.int .i64 Bc):=(ja Ea.out 2).trans rfl;have sQ:vE.cell? ⟨Ta,3,none⟩=some (.int .i64 Nc):=(ja Ea.out 3).trans rfl;have qJ:vE.cell? ⟨Ta,4,none⟩=some (.slice Mu eo.length Ku):=(ja Ea.out 4).trans rfl;have II:=qa Ea.out 0;have GI:=qa Ea.out 1;have FI:=qa Ea.out 2;have EI:=qa Ea.out 3;have DI:=qa Ea.out 4)|((with_reducible refine Cb (f:=17) rfl ?_);refine Jc (some 9) rfl rfl Try.func17 (by kernel_rfl) rfl #[.slice yb Ua.length zb,.slice Wf Pc.length Gf] rfl laK ?_;(with_reducible refine (Gd.calls k _ _ Ua _ _ Pc false _ ?Ic ?Gc ?Ae ?ze A3.out).mono ?_);(case Ic=>repeat (first|exact (Kd.Kb lf.out HB.out)|(with_reducible refine Kd.Vb ?_ _)|(with_reducible refine Kd.Ub ?_ _)|(with_reducible refine Kd.tc ?_)));(case Gc=>exact Df.out);(case Ae=>repeat (first|exact (Kd.Kb Nl.out HB.out)|(with_reducible refine Kd.Vb ?_ _)|(with_reducible refine Kd.Ub ?_ _)|(with_reducible refine Kd.tc ?_)));(case ze=>exact Lm.out);rintro e w' ⟨rfl,⟨nd,rfl⟩⟩;refine ⟨_,rfl,?_⟩));go_ret;exact ⟨naK,maK⟩
theorem Ev.pos {α:Type} {c:Prop} [Decidable c] {f g:Nat→Option α} {r:α} (h:c) (k:Ev f r):Ev (fun n=>if c then f n else g n) r:=Ev.congr (fun n=>if_pos h) k
theorem Ev.neg {α:Type} {c:Prop} [Decidable c] {f g:Nat→Option α} {r:α} (h:¬ c) (k:Ev g r):Ev (fun n=>if c then f n else g n) r:=Ev.congr (fun n=>if_neg h) k
theorem Ev.val {α β:Type} {a:α} {f:Nat→α→Option β} {r:β} (k:Ev (fun n=>f n a) r):Ev (fun n=>(some a).bind (f n)) r:=Ev.congr (fun n=>rfl) k
theorem Ev.here {α:Type} {o:Option α} {r:α} (h:o=some r):Ev (fun _=>o) r:=Ev.congr (fun n=>h) (Ev.now r)
theorem Ev.eq {α:Type} {g:Nat→Option α} {r r':α} (h:Ev g r) (h':Ev g r'):r=r':=by
 obtain ⟨K,h⟩:=h;obtain ⟨K',h'⟩:=h';have h1:=h (max K K') (by omega);rw [h' (max K K') (by omega)] at h1;exact (Option.some.inj h1).symm
theorem sg {x:Int} (h:-9223372036854775808 ≤ x) (h':x ≤ 9223372036854775807):wrap64 x=x:=by
 unfold wrap64;omega
theorem Kf {i n:Nat} (h:i < n) (hn:n ≤ 9223372036854775807):wrap64 ((i:Int) + 1)=((i + 1:Nat):Int):=by
 rw [sg (by omega) (by omega)];omega
theorem Wj {ρ:Type} {n:Nat} {r:ρ} (P:Nat→Prop) (hend:P n) (hstep:∀ i,i < n→P (i + 1)→P i):∀ i,i ≤ n→P i:=by
 have key:∀ d i,i + d=n→P i:=by
  intro d
  induction d with
  | zero =>
   intro i hi;have:i=n:=by omega
   exact this ▸ hend
  | succ d ih =>
   intro i hi;exact hstep i (by omega) (ih (i + 1) (by omega))
 intro i hi;exact key (n - i) i (by omega)
theorem fF {α:Type} {m:List α} {z:α} {i:Nat} (h:i < m.length):(m.take i ++ List.replicate (m.length - i) z).set i (m.getD i z)=m.take (i + 1) ++ List.replicate (m.length - (i + 1)) z:=by
 rw [List.set_append_right _ _ (by rw [List.length_take];omega),List.length_take,Nat.min_eq_left (by omega),Nat.sub_self];rw [show m.length - i=(m.length - (i + 1)) + 1 from by omega,List.replicate_succ,List.set_cons_zero,List.take_succ_eq_append_getElem h,List.append_assoc];simp [List.getD_eq_getElem?_getD,List.getElem?_eq_getElem h]
theorem ZG {α:Type} {m:List α} {z:α}:m.take 0 ++ List.replicate (m.length - 0) z=List.replicate m.length z:=by simp
theorem gF {α:Type} {m:List α} {z:α}:m.take m.length ++ List.replicate (m.length - m.length) z=m:=by simp
theorem VT (l:List Int) (i:Nat):rd l (i:Int)=l.getD i 0:=rfl
def iota (m:Int) (n:Nat):List Int:=(List.range n).map fun (j:Nat)=>m + (j:Int)
theorem cl (m:Int) (n:Nat):(iota m n).length=n:=by simp [iota]
theorem QG {m:Int} {n i:Nat} (h:i < n):(iota m n).getD i 0=m + i:=by simp [iota,List.getD_eq_getElem?_getD,h]
theorem FE {α:Type} {m l:List α} {z:α} {i:Nat} (hl:l.length=m.length) (h:i < m.length):(m.take i ++ l.drop i).set i (m.getD i z)=m.take (i + 1) ++ l.drop (i + 1):=by
 rw [List.set_append_right _ _ (by rw [List.length_take];omega),List.length_take,Nat.min_eq_left (by omega),Nat.sub_self];rw [List.drop_eq_getElem_cons (by omega),List.set_cons_zero,List.take_succ_eq_append_getElem h,List.append_assoc];simp [List.getD_eq_getElem?_getD,List.getElem?_eq_getElem h]
theorem AL (a b c:Int):Gl.f a b c=some (zm a b c):=by
 unfold Gl.f zm
 by_cases h:a ≥ b
 ·rw [if_pos h];have h':b ≤ a:=h;simp [h']
 ·rw [if_neg h];have h':¬ b ≤ a:=h;simp [h']
theorem TS (l:List Int) (hl:l.length ≤ 35184372088832):Ev (fun k=>yf.f k l) l:=by
 refine Ev.congr (f:=fun k=>yf.l0 k l (List.replicate l.length 0) 0) (fun k=>?_) ?_
 ·unfold yf.f;rw [if_pos (by omega),if_pos (by omega)]
  rfl
 ·have key:=Wj (r:=l) (n:=l.length) (fun i=>Ev (fun k=>yf.l0 k l (l.take i ++ List.replicate (l.length - i) 0) (i:Int)) l) ?_ ?_ 0 (by omega)
  ·simpa using key
  ·refine Ev.step (fun k=>by rw [yf.l0]) ?_;refine Ev.neg (by omega) ?_;rw [gF];exact Ev.now l
  ·intro i hi h;refine Ev.step (fun k=>by rw [yf.l0]) ?_;refine Ev.pos (by omega) (Ev.pos (by omega) (Ev.pos (by simp;omega) ?_));rw [Kf hi (by omega),VT,Int.toNat_natCast,fF hi];exact h
theorem bH (l:List Int) (hl:l.length ≤ 9223372036854775807):Ev (fun k=>Gd.f k l l) true:=by
 refine Ev.congr (f:=fun k=>Gd.l0 k l l 0) (fun k=>?_) ?_
 ·unfold Gd.f;rw [if_pos rfl]
 ·refine Wj (r:=true) (n:=l.length) (fun i=>Ev (fun k=>Gd.l0 k l l (i:Int)) true) ?_ ?_ 0 (by omega)
  ·refine Ev.step (fun k=>by rw [Gd.l0]) ?_;exact Ev.neg (by omega) (Ev.now _)
  ·intro i hi h;refine Ev.step (fun k=>by rw [Gd.l0]) ?_;refine Ev.pos (by omega) (Ev.pos (by omega) (Ev.pos (by omega) (Ev.pos rfl ?_)));rw [Kf hi hl];exact h
theorem LY (l:List Int) (a:Int) (ha:0 ≤ a) (ha':a ≤ 1048576) (hl:l.length ≤ 9223372036854775807):∃ t,Ii.f l a=some t∧t ≤ a∧(0 ≤ t→t + l.length=a):=by
 unfold Ii.f;rw [sg (by omega) (by omega)]
 split
 ·exact ⟨-1,rfl,by omega,by omega⟩
 ·exact ⟨_,rfl,by omega,by omega⟩
def Mn (x:vo):tf:=⟨x.f0,x.f1,x.f2,x.f3,x.f4,x.f5,x.f6⟩
theorem RL (l:List vo) (hl:l.length ≤ 4398046511104):Ev (fun k=>Yd.f k l) (l.map Mn):=by
 refine Ev.congr (f:=fun k=>Yd.l0 k l (List.replicate l.length Wv) 0) (fun k=>?_) ?_
 ·unfold Yd.f;rw [if_pos (by omega),if_pos (by omega)]
  rfl
 ·have key:=Wj (r:=l.map Mn) (n:=l.length) (fun i=>Ev (fun k=>Yd.l0 k l ((l.map Mn).take i ++ List.replicate ((l.map Mn).length - i) Wv) (i:Int)) (l.map Mn)) ?_ ?_ 0 (by omega)
  ·rw [ZG,List.length_map] at key;exact key
  ·refine Ev.step (fun k=>by rw [Yd.l0]) ?_;refine Ev.neg (by omega) ?_;have e:=gF (m:=l.map Mn) (z:=Wv);rw [List.length_map] at e;rw [List.length_map,e];exact Ev.now _
  ·intro i hi h;refine Ev.step (fun k=>by rw [Yd.l0]) ?_;refine Ev.pos (by omega) (Ev.pos (by omega) ?_);unfold Rm.f;refine Ev.val (Ev.pos (by simp;omega) ?_)
   have hc:Mn (Uc l (i:Int))=(l.map Mn).getD i Wv:=by
    simp [Uc,List.getD_eq_getElem?_getD,hi]
   have hf:=fF (m:=l.map Mn) (z:=Wv) (i:=i) (by rw [List.length_map];exact hi);rw [← hc] at hf;rw [Kf hi (by omega),Int.toNat_natCast];have e:=hf ▸ h;exact e
theorem YL (l:List tf) (hl:l.length ≤ 9223372036854775807):Ev (fun k=>Ec.f k l l) true:=by
 refine Ev.congr (f:=fun k=>Ec.l0 k l l 0) (fun k=>?_) ?_
 ·unfold Ec.f;rw [if_pos rfl]
 ·refine Wj (r:=true) (n:=l.length) (fun i=>Ev (fun k=>Ec.l0 k l l (i:Int)) true) ?_ ?_ 0 (by omega)
  ·refine Ev.step (fun k=>by rw [Ec.l0]) ?_;exact Ev.neg (by omega) (Ev.now _)
  ·intro i hi h;refine Ev.step (fun k=>by rw [Ec.l0]) ?_;refine Ev.pos (by omega) (Ev.pos (by omega) (Ev.pos (by omega) ?_));unfold Dl.f;simp only [if_true];refine Ev.val (Ev.pos rfl ?_);rw [Kf hi hl];exact h
def ZA (l:List vo):Nat:=(l.map fun x=>x.f6.size).sum
def YR (l:List vo):Nat:=l.length + ZA l
def szB (l:List Ry):Nat:=l.length + (l.map fun x=>YR x.f0).sum
theorem Xx {l:List vo} {i:Nat} (h:i < l.length):Uc l (i:Int)=l[i]:=by simp [Uc,List.getD_eq_getElem?_getD,h]
theorem Dr {l:List Ry} {i:Nat} (h:i < l.length):Xe l (i:Int)=l[i]:=by simp [Xe,List.getD_eq_getElem?_getD,h]
theorem TL (l:List vo) (a:Int) (ha:0 ≤ a) (ha':a ≤ 1048576) (hl:l.length ≤ 9223372036854775807) (ht:∀ x ∈ l,x.f6.size ≤ 9223372036854775807) :
  ∃ t,Ev (fun k=>Je.f k l a) t∧t ≤ a∧(0 ≤ t→t + YR l=a):=by
 have key:=Wj (ρ:=Unit) (r:=()) (n:=l.length) (fun i=>∀ a:Int,0 ≤ a→a ≤ 1048576→∃ t,Ev (fun k=>Je.l0 k l a (i:Int)) t∧t ≤ a∧(0 ≤ t→t + ZA (l.drop i)=a)) ?_ ?_ 0 (by omega)
 ·unfold Je.f;rw [sg (by omega) (by omega)]
  by_cases h:a - (l.length:Int) < 0
  ·exact ⟨-1,Ev.pos h (Ev.now _),by omega,by omega⟩
  ·obtain ⟨t,e1,e2,e3⟩:=key (a - l.length) (by omega) (by omega);refine ⟨t,Ev.neg h e1,by omega,fun h0=>?_⟩;have:=e3 h0;rw [List.drop_zero] at this;unfold YR;omega
 ·intro a h0 h1;refine ⟨a,?_,by omega,?_⟩
  ·refine Ev.step (fun k=>by rw [Je.l0]) ?_;exact Ev.neg (by omega) (Ev.now _)
  ·intro _;rw [List.drop_length];simp [ZA]
 ·intro i hi ih a h0 h1;have hx:=ht l[i] (List.getElem_mem hi)
  have hd:ZA (l.drop i)=l[i].f6.size + ZA (l.drop (i + 1)):=by
   rw [List.drop_eq_getElem_cons hi];simp only [ZA,List.map_cons,List.sum_cons]
  by_cases h:a - (l[i].f6.size:Int) < 0
  ·refine ⟨-1,?_,by omega,by omega⟩;refine Ev.step (fun k=>by rw [Je.l0]) ?_;refine Ev.pos (by omega) (Ev.pos (by omega) ?_);rw [Xx hi];unfold Lj.f;rw [sg (by omega) (by omega),if_pos h];exact Ev.val (Ev.pos (by decide) (Ev.now _))
  ·obtain ⟨t,e1,e2,e3⟩:=ih (a - l[i].f6.size) (by omega) (by omega);refine ⟨t,?_,by omega,fun hh=>by have:=e3 hh;omega⟩;refine Ev.step (fun k=>by rw [Je.l0]) ?_;refine Ev.pos (by omega) (Ev.pos (by omega) ?_);rw [Xx hi];unfold Lj.f;rw [sg (by omega) (by omega),if_neg h];refine Ev.val (Ev.neg (by omega) ?_);rw [Kf hi hl];exact e1
theorem UL (l:List Ry) (a:Int) (ha:0 ≤ a) (ha':a ≤ 1048576) (hl:l.length ≤ 9223372036854775807) (ht:∀ x ∈ l,x.f0.length ≤ 9223372036854775807∧∀ y ∈ x.f0,y.f6.size ≤ 9223372036854775807) :
  ∃ t,Ev (fun k=>Ke.f k l a) t∧t ≤ a∧(0 ≤ t→t + szB l=a):=by
 have key:=Wj (ρ:=Unit) (r:=()) (n:=l.length) (fun i=>∀ a:Int,0 ≤ a→a ≤ 1048576→∃ t,Ev (fun k=>Ke.l0 k l a (i:Int)) t∧t ≤ a∧(0 ≤ t→t + ((l.drop i).map fun x=>YR x.f0).sum=a)) ?_ ?_ 0 (by omega)
 ·unfold Ke.f;rw [sg (by omega) (by omega)]
  by_cases h:a - (l.length:Int) < 0
  ·exact ⟨-1,Ev.pos h (Ev.now _),by omega,by omega⟩
  ·obtain ⟨t,e1,e2,e3⟩:=key (a - l.length) (by omega) (by omega);refine ⟨t,Ev.neg h e1,by omega,fun h0=>?_⟩;have:=e3 h0;rw [List.drop_zero] at this;unfold szB;omega
 ·intro a h0 h1;refine ⟨a,?_,by omega,?_⟩
  ·refine Ev.step (fun k=>by rw [Ke.l0]) ?_;exact Ev.neg (by omega) (Ev.now _)
  ·intro _;rw [List.drop_length];simp
 ·intro i hi ih a h0 h1;have hx:=ht l[i] (List.getElem_mem hi)
  have hd:((l.drop i).map fun x=>YR x.f0).sum=YR l[i].f0 + ((l.drop (i + 1)).map fun x=>YR x.f0).sum:=by
   rw [List.drop_eq_getElem_cons hi];simp only [List.map_cons,List.sum_cons]
  obtain ⟨u,f1,f2,f3⟩:=TL l[i].f0 a h0 h1 hx.1 hx.2
  by_cases h:u < 0
  ·refine ⟨-1,?_,by omega,by omega⟩;refine Ev.step (fun k=>by rw [Ke.l0]) ?_;refine Ev.pos (by omega) (Ev.pos (by omega) ?_);rw [Dr hi];unfold Mj.f;refine Ev.bind (Ev.bind f1 (Ev.pos h (Ev.now _))) ?_;exact Ev.pos (by decide) (Ev.now _)
  ·obtain ⟨t,e1,e2,e3⟩:=ih u (by omega) (by omega);have:=f3 (by omega);refine ⟨t,?_,by omega,fun hh=>by have:=e3 hh;omega⟩;refine Ev.step (fun k=>by rw [Ke.l0]) ?_;refine Ev.pos (by omega) (Ev.pos (by omega) ?_);rw [Dr hi];unfold Mj.f;refine Ev.bind (Ev.bind f1 (Ev.neg h (Ev.now _))) ?_;refine Ev.neg (by omega) ?_;rw [Kf hi hl];exact e1
theorem QE {l:List Nat} {n:Nat} (h:n ∈ l):n ≤ l.sum:=by
 induction l with
 | nil=>cases h
 | cons a l ih =>
  rw [List.sum_cons];cases h with
  | head=>omega
  | tail _ h=>have:=ih h;omega
theorem fL {l:List Ry} {n:Nat} (h:szB l ≤ n):l.length ≤ n∧∀ x ∈ l,x.f0.length ≤ n:=by
 unfold szB at h;refine ⟨by omega,fun x hx=>?_⟩;have:YR x.f0 ≤ (l.map fun x=>YR x.f0).sum:=QE (List.mem_map.mpr ⟨x,hx,rfl⟩);unfold YR at this h;omega
theorem TN (x0:List Int) (x1 x2 x3:Int) (x4:List Ry) (a:Int) (ha:0 ≤ a) (ha':a ≤ 1048576) (h0:x0.length ≤ 9223372036854775807) (hl:x4.length ≤ 9223372036854775807) (ht:∀ x ∈ x4,x.f0.length ≤ 9223372036854775807∧∀ y ∈ x.f0,y.f6.size ≤ 9223372036854775807) :
  ∃ t,Ev (fun k=>Ji.f k x0 x1 x2 x3 x4 a) t∧t ≤ a∧(0 ≤ t→t + x0.length + szB x4=a):=by
 obtain ⟨t,e1,e2,e3⟩:=LY x0 a ha ha' h0;unfold Ji.f;rw [e1];simp only [Option.bind_some]
 by_cases ht':t < 0
 ·exact ⟨-1,Ev.pos ht' (Ev.now _),by omega,by omega⟩
 ·obtain ⟨u,f1,f2,f3⟩:=UL x4 t (by omega) (by omega) hl ht
  by_cases hu:u < 0
  ·exact ⟨-1,Ev.neg ht' (Ev.bind f1 (Ev.pos hu (Ev.now _))),by omega,by omega⟩
  ·exact ⟨u,Ev.neg ht' (Ev.bind f1 (Ev.neg hu (Ev.now _))),by omega,fun _=>by have:=e3 (by omega);have:=f3 (by omega);omega⟩
def Og (x:Ry):Ff:=⟨x.f0.map Mn,x.f1,x.f2,x.f3,x.f4⟩
theorem SL (l:List Ry) (hl:l.length ≤ 1048576) (hb:∀ x ∈ l,x.f0.length ≤ 1048576):Ev (fun k=>Zd.f k l) (l.map Og):=by
 refine Ev.congr (f:=fun k=>Zd.l0 k l (List.replicate l.length QK) 0) (fun k=>?_) ?_
 ·unfold Zd.f;rw [if_pos (by omega),if_pos (by omega)]
  rfl
 ·have key:=Wj (r:=l.map Og) (n:=l.length) (fun i=>Ev (fun k=>Zd.l0 k l ((l.map Og).take i ++ List.replicate ((l.map Og).length - i) QK) (i:Int)) (l.map Og)) ?_ ?_ 0 (by omega)
  ·rw [ZG,List.length_map] at key;exact key
  ·refine Ev.step (fun k=>by rw [Zd.l0]) ?_;refine Ev.neg (by omega) ?_;have e:=gF (m:=l.map Og) (z:=QK);rw [List.length_map] at e;rw [List.length_map,e];exact Ev.now _
  ·intro i hi h;refine Ev.step (fun k=>by rw [Zd.l0]) ?_;refine Ev.pos (by omega) (Ev.pos (by omega) ?_);unfold Sm.f;have hx:=hb l[i] (List.getElem_mem hi);rw [Dr hi];refine Ev.bind (Ev.bind (RL l[i].f0 (by omega)) (Ev.now _)) ?_;refine Ev.pos (by simp;omega) ?_
   have hc:Og l[i]=(l.map Og).getD i QK:=by
    simp [List.getD_eq_getElem?_getD,hi]
   have hf:=fF (m:=l.map Og) (z:=QK) (i:=i) (by rw [List.length_map];exact hi);rw [← hc] at hf;rw [Kf hi (by omega),Int.toNat_natCast];have e:=hf ▸ h;exact e
theorem ng {l:List Ff} {i:Nat} (h:i < l.length):Ia l (i:Int)=l[i]:=by simp [Ia,List.getD_eq_getElem?_getD,h]
theorem nk {l:List tf} {i:Nat} (h:i < l.length):Ga l (i:Int)=l[i]:=by simp [Ga,List.getD_eq_getElem?_getD,h]
theorem aM (l:List Ff) (hl:l.length ≤ 9223372036854775807) (hb:∀ x ∈ l,x.f0.length ≤ 9223372036854775807):Ev (fun k=>Sc.f k l l) true:=by
 refine Ev.congr (f:=fun k=>Sc.l0 k l l 0) (fun k=>?_) ?_
 ·unfold Sc.f;rw [if_pos rfl]
 ·refine Wj (r:=true) (n:=l.length) (fun i=>Ev (fun k=>Sc.l0 k l l (i:Int)) true) ?_ ?_ 0 (by omega)
  ·refine Ev.step (fun k=>by rw [Sc.l0]) ?_;exact Ev.neg (by omega) (Ev.now _)
  ·intro i hi h;refine Ev.step (fun k=>by rw [Sc.l0]) ?_;refine Ev.pos (by omega) (Ev.pos (by omega) (Ev.pos (by omega) ?_));unfold El.f;rw [ng hi];refine Ev.bind (Ev.bind (YL l[i].f0 (hb _ (List.getElem_mem hi))) (Ev.pos rfl (Ev.pos rfl (Ev.pos rfl (Ev.pos rfl (Ev.pos rfl (Ev.now _))))))) (Ev.pos rfl ?_);rw [Kf hi hl];exact h
theorem SN (x0:List Int) (x1 x2 x3:Int) (x4:List Ry) (h0:x0.length ≤ 1048576) (hl:x4.length ≤ 1048576) (hb:∀ x ∈ x4,x.f0.length ≤ 1048576):Ev (fun k=>Ah.f k x0 x1 x2 x3 x4) (x0,x1,x2,x3,x4.map Og):=by
 unfold Ah.f;exact Ev.bind (TS x0 (by omega)) (Ev.bind (SL x4 hl hb) (Ev.now _))
theorem WN (x0:List Int) (x1 x2 x3:Int) (x4:List Ff) (h0:x0.length ≤ 9223372036854775807) (hl:x4.length ≤ 9223372036854775807) (hb:∀ x ∈ x4,x.f0.length ≤ 9223372036854775807):Ev (fun k=>Oj.f k x0 x1 x2 x3 x4 x0 x1 x2 x3 x4) true:=by
 unfold Oj.f;refine Ev.bind (bH x0 h0) ?_;refine Ev.pos rfl (Ev.pos rfl (Ev.pos rfl (Ev.pos rfl ?_)));exact Ev.bind (aM x4 hl hb) (Ev.pos rfl (Ev.now _))
def Gm.f (Ua:List (tf)) (Pa:Int) (Ra:Int) (Sa:Int) (Eb:Int):Option (List Int):=if Pa=0 then (some (([Sa]:List Int))) else (if Pa=1 then (some (([Sa,Eb]:List Int))) else (some ([]:List Int)))
theorem Gm.calls (yb:Option Addr) (zb:Nat) (Ua:List (tf)) (Pa:Int) (Ra:Int) (Sa:Int) (Eb:Int) (r:List Int) (w:World) (jf:Kd.C Xk w yb Ua.length Ua) (Ze:Ua.length ≤ zb) (h:Gm.f Ua Pa Ra Sa Eb=some r) :
  Calls Try.prog 78 #[.agg #[.slice yb Ua.length zb,.int .i64 Pa,.int .i64 Ra,.int .i64 Sa,.int .i64 Eb]] w fun e w'=>∃ Zn:Value,e = .returned (Zn)∧Kd.R (Kd.int .i64) 3 w' w.heap.size (fun _=>True) Zn r∧Below w.heap.size w w':=by
 have oG:=Try.underlying59;have lf:=aa.mk jf;have Df:=aa.mk Ze;clear jf Ze;have HB:=aa.mk (Below.refl w.heap.size w);have H:(if Pa=0 then (some (([Sa]:List Int))) else (if Pa=1 then (some (([Sa,Eb]:List Int))) else (some ([]:List Int))))=some r:=h;clear h
 by_cases c2:Pa=0
 ·rw [if_pos c2] at H;have Ju:=beq_iff_eq.mpr c2;have AB:=bne_eq_false_iff_eq.mpr c2;clear c2;obtain ⟨Rc,zg⟩:∃ y_:List Int,y_=(([Sa]:List Int)):=⟨_,rfl⟩;replace H:(some Rc)=some r:=by first|(rw [zg];with_reducible exact H)|(have Ld:=(Option.bind_some _ _).symm.trans H;rw [zg];with_reducible exact Ld)|(have Ld:=(Option.bind_some _ _).symm.trans H;with_reducible exact Ld)|with_reducible exact H|(rw [zg];exact H)|exact H
  have Qh:=aa.mk zg;clear zg;obtain rfl:=Option.some.inj H;go_enter Try.func78,Try.ntmps78;go_wp2_with (first|((with_reducible refine Za (N:=1) rfl ?_);refine Ab ?hg (N:=1) ?hd (cs:=#[.slice yb Ua.length zb,.int .i64 Pa,.int .i64 Ra,.int .i64 Sa,.int .i64 Eb]) (t:=59) ?hr ?_;(case hd|hg=>rfl);(case hr=>exact gaK);intro ya hg w3 Fb hb;have Bb:=aa.mk (Ma jaK hb);have Db:=aa.mk (Fb);have Ib:=aa.mk ((by rw [hg];exact (Da jaK):w.heap.size ≤ ya));have Xb:=aa.mk ((by rw [hg];exact (Da jaK):w.heap.size ≤ ya));clear HB;have HB:=Bb;have ta:=Db;have Jd:=Ib;have Qa:=Xb;clear Bb Db Ib Xb hb Fb hg;have NN:w3.cell? ⟨ya,0,none⟩=some (.slice yb Ua.length zb):=(ja ta.out 0).trans rfl;have MN:w3.cell? ⟨ya,1,none⟩=some (.int .i64 Pa):=(ja ta.out 1).trans rfl;have LN:w3.cell? ⟨ya,2,none⟩=some (.int .i64 Ra):=(ja ta.out 2).trans rfl;have KN:w3.cell? ⟨ya,3,none⟩=some (.int .i64 Sa):=(ja ta.out 3).trans rfl;have JN:w3.cell? ⟨ya,4,none⟩=some (.int .i64 Eb):=(ja ta.out 4).trans rfl;have FN:=qa ta.out 0;have EN:=qa ta.out 1;have DN:=qa ta.out 2;have CN:=qa ta.out 3;have BN:=qa ta.out 4)|((with_reducible refine Za (N:=9) rfl ?_);refine Kd.Ei (Kd.int .i64) _ 3 ?hg (N:=9) ?hd (xs:=([Sa]:List Int)) (inner:=[.int .i64 Sa]) (ok:=fun _=>True) (Sh:=fun _=>True) ?hr ?hp (fun _ hk=>hk) trivial (Below.refl _ _) (Nat.le_refl _) (by simp) ?_;(case hd|hg=>rfl);(case hr=>exact gaK);(case hp=>exact (Wc.one (show Kd.M (Kd.int .i64) _ _ _ Sa [.int .i64 Sa] from rfl) (Wc.none _ _)));intro En w5 VE hb bk xe;clear bk xe;(first|rw [← Qh.out] at VE|(simp only [Int.reduceToNat] at VE;rw [← Qh.out] at VE));have Bb:=aa.mk (Kd.td VE (Da iaK));have Db:=aa.mk (Na (g:=ya) (o:=.cells #[.slice yb Ua.length zb,.int .i64 Pa,.int .i64 Ra,.int .i64 Sa,.int .i64 Eb] 59 (0,0)) kaK hb);have Ib:=aa.mk (Ma iaK hb);clear ta HB;have dg:=Bb;have ta:=Db;have HB:=Ib;clear Bb Db Ib hb VE));go_ret;exact ⟨_,naK,WaK,oaK⟩
 ·rw [if_neg c2] at H;have Ju:=beq_eq_false_iff_ne.mpr c2;have AB:=bne_iff_ne.mpr c2
  by_cases c7:Pa=1
  ·rw [if_pos c7] at H;have Yl:=beq_iff_eq.mpr c7;have su:=bne_eq_false_iff_eq.mpr c7;clear c7;obtain ⟨He,cg⟩:∃ y_:List Int,y_=(([Sa,Eb]:List Int)):=⟨_,rfl⟩;replace H:(some He)=some r:=by first|(rw [cg];with_reducible exact H)|(have Ld:=(Option.bind_some _ _).symm.trans H;rw [cg];with_reducible exact Ld)|(have Ld:=(Option.bind_some _ _).symm.trans H;with_reducible exact Ld)|with_reducible exact H|(rw [cg];exact H)|exact H
   have cm:=aa.mk cg;clear cg;obtain rfl:=Option.some.inj H;go_enter Try.func78,Try.ntmps78;go_wp2_with (first|((with_reducible refine Za (N:=1) rfl ?_);refine Ab ?hg (N:=1) ?hd (cs:=#[.slice yb Ua.length zb,.int .i64 Pa,.int .i64 Ra,.int .i64 Sa,.int .i64 Eb]) (t:=59) ?hr ?_;(case hd|hg=>rfl);(case hr=>exact gaK);intro ya hg w8 Fb hb;have Bb:=aa.mk (Ma jaK hb);have Db:=aa.mk (Fb);have Ib:=aa.mk ((by rw [hg];exact (Da jaK):w.heap.size ≤ ya));have Xb:=aa.mk ((by rw [hg];exact (Da jaK):w.heap.size ≤ ya));clear HB;have HB:=Bb;have ta:=Db;have Jd:=Ib;have Qa:=Xb;clear Bb Db Ib Xb hb Fb hg;have Iv:w8.cell? ⟨ya,0,none⟩=some (.slice yb Ua.length zb):=(ja ta.out 0).trans rfl;have Hv:w8.cell? ⟨ya,1,none⟩=some (.int .i64 Pa):=(ja ta.out 1).trans rfl;have Gv:w8.cell? ⟨ya,2,none⟩=some (.int .i64 Ra):=(ja ta.out 2).trans rfl;have Fv:w8.cell? ⟨ya,3,none⟩=some (.int .i64 Sa):=(ja ta.out 3).trans rfl;have Dv:w8.cell? ⟨ya,4,none⟩=some (.int .i64 Eb):=(ja ta.out 4).trans rfl;have uv:=qa ta.out 0;have tv:=qa ta.out 1;have qv:=qa ta.out 2;have ov:=qa ta.out 3;have nv:=qa ta.out 4)|((with_reducible refine Za (N:=16) rfl ?_);refine Kd.Ei (Kd.int .i64) _ 3 ?hg (N:=16) ?hd (xs:=([Sa,Eb]:List Int)) (inner:=[.int .i64 Sa,.int .i64 Eb]) (ok:=fun _=>True) (Sh:=fun _=>True) ?hr ?hp (fun _ hk=>hk) trivial (Below.refl _ _) (Nat.le_refl _) (by simp) ?_;(case hd|hg=>rfl);(case hr=>exact gaK);(case hp=>exact (Wc.one (show Kd.M (Kd.int .i64) _ _ _ Sa [.int .i64 Sa] from rfl) (Wc.one (show Kd.M (Kd.int .i64) _ _ _ Eb [.int .i64 Eb] from rfl) (Wc.none _ _))));intro xE Bo jv hb bk xe;clear bk xe;(first|rw [← cm.out] at jv|(simp only [Int.reduceToNat] at jv;rw [← cm.out] at jv));have Bb:=aa.mk (Kd.td jv (Da iaK));have Db:=aa.mk (Na (g:=ya) (o:=.cells #[.slice yb Ua.length zb,.int .i64 Pa,.int .i64 Ra,.int .i64 Sa,.int .i64 Eb] 59 (0,0)) kaK hb);have Ib:=aa.mk (Ma iaK hb);clear ta HB;have Km:=Bb;have ta:=Db;have HB:=Ib;clear Bb Db Ib hb jv));go_ret;exact ⟨_,naK,iaL,oaK⟩
  ·rw [if_neg c7] at H;have Yl:=beq_eq_false_iff_ne.mpr c7;have su:=bne_iff_ne.mpr c7;obtain rfl:=Option.some.inj H;go_enter Try.func78,Try.ntmps78;go_wp2_with (first|((with_reducible refine Za (N:=1) rfl ?_);refine Ab ?hg (N:=1) ?hd (cs:=#[.slice yb Ua.length zb,.int .i64 Pa,.int .i64 Ra,.int .i64 Sa,.int .i64 Eb]) (t:=59) ?hr ?_;(case hd|hg=>rfl);(case hr=>exact gaK);intro ya hg Ao Fb hb;have Bb:=aa.mk (Ma jaK hb);have Db:=aa.mk (Fb);have Ib:=aa.mk ((by rw [hg];exact (Da jaK):w.heap.size ≤ ya));have Xb:=aa.mk ((by rw [hg];exact (Da jaK):w.heap.size ≤ ya));clear HB;have HB:=Bb;have ta:=Db;have Jd:=Ib;have Qa:=Xb;clear Bb Db Ib Xb hb Fb hg;have ir:Ao.cell? ⟨ya,0,none⟩=some (.slice yb Ua.length zb):=(ja ta.out 0).trans rfl;have gr:Ao.cell? ⟨ya,1,none⟩=some (.int .i64 Pa):=(ja ta.out 1).trans rfl;have er:Ao.cell? ⟨ya,2,none⟩=some (.int .i64 Ra):=(ja ta.out 2).trans rfl;have dr:Ao.cell? ⟨ya,3,none⟩=some (.int .i64 Sa):=(ja ta.out 3).trans rfl;have iu:Ao.cell? ⟨ya,4,none⟩=some (.int .i64 Eb):=(ja ta.out 4).trans rfl;have Fq:=qa ta.out 0;have Dq:=qa ta.out 1;have Cq:=qa ta.out 2;have Bq:=qa ta.out 3;have Gt:=qa ta.out 4));go_ret;exact ⟨_,naK,UaK,oaK⟩
end Go.Proofs.Ytkigbdceceeenaa.P
end
section
namespace Go.Proofs.Ytkigbdceceeenaa.P
open Go.RowKit Go.Proofs.Oa.Rb Go.Proofs.Oa.Pd Go.Proofs.Oa.Re
set_option linter.unusedVariables false
set_option linter.unusedSimpArgs false
open Classical in
noncomputable def FC (n:Nat) (p:Nat→Prop):Bool:=decide (∀ j,j < n→p j)
open Classical in
theorem gT {n:Nat} {p:Nat→Prop} (h:∀ j,j < n→p j):FC n p=true:=by
 unfold FC;exact decide_eq_true h
open Classical in
theorem nM {n:Nat} {p:Nat→Prop}:FC n p=true ↔ ∀ j,j < n→p j:=by
 unfold FC;exact decide_eq_true_iff
theorem sO {n i:Nat} {p:Nat→Prop} (hi:i < n) (h:¬ p i):FC n p=false:=by
 cases e:FC n p with
 | false=>rfl
 | true=>exact absurd (nM.mp e i hi) h
theorem ZN {ρ:Type} {n:Nat} {R e:ρ} (p:Nat→Prop) (f:Nat→Nat→Option ρ) (hend:Ev (f n) R) (hyes:∀ i,i < n→p i→∀ r,Ev (f (i + 1)) r→Ev (f i) r) (hno:∀ i,i < n→¬ p i→Ev (f i) e):Ev (f 0) (bif FC n p then R else e):=by
 have key:∀ d i,i + d=n→(∀ j,j < i→p j)→Ev (f i) (bif FC n p then R else e):=by
  intro d
  induction d with
  | zero =>
   intro i hi h;have:i=n:=by omega
   subst this;rw [gT h];exact hend
  | succ d ih =>
   intro i hi h
   by_cases hp:p i
   ·refine hyes i (by omega) hp _ (ih (i + 1) (by omega) ?_);intro j hj
    by_cases hji:j=i
    ·rw [hji];exact hp
    ·exact h j (by omega)
   ·rw [sO (by omega) hp];exact hno i (by omega) hp
 exact key n 0 (by omega) (fun j hj=>absurd hj (by omega))
theorem CB {α:Type} (l:List α) (z:α) (q:α→Bool):FC l.length (fun j=>q (l.getD j z)=true) = !(l.any fun x=>!q x):=by
 rw [Bool.eq_iff_iff,nM];simp only [Bool.not_eq_true',List.any_eq_false,Bool.not_eq_true',Bool.not_eq_false]
 constructor
 ·intro h x hx;obtain ⟨j,hj,rfl⟩:=List.mem_iff_getElem.mp hx;have:=h j hj;rw [List.getD_eq_getElem?_getD,List.getElem?_eq_getElem hj] at this
  simpa using this
 ·intro h j hj;have:=h l[j] (List.getElem_mem hj);rw [List.getD_eq_getElem?_getD,List.getElem?_eq_getElem hj]
  simpa using this
end Go.Proofs.Ytkigbdceceeenaa.P
end
section
namespace Go.Proofs.Ytkigbdceceeenaa.P
open Go.RowKit Go.Proofs.Oa.Rb Go.Proofs.Oa.Pd Go.Proofs.Oa.Re
set_option linter.unusedVariables false
set_option linter.unusedSimpArgs false
theorem xU (a b c:Int):Ob.f a b c=some (zm a b c):=by
 unfold Ob.f zm
 by_cases h:a ≥ b
 ·rw [if_pos h];have h':b ≤ a:=h;simp [h']
 ·rw [if_neg h];have h':¬ b ≤ a:=h;simp [h']
theorem Fg (a b c:Int):Ev (fun _=>Ob.f a b c) (zm a b c):=Ev.here (xU a b c)
theorem iac (t:ByteArray):Ev (fun k=>xg.f k ([(⟨#[61,61]⟩:ByteArray),(⟨#[60]⟩:ByteArray),(⟨#[38]⟩:ByteArray),(⟨#[43]⟩:ByteArray),(⟨#[45]⟩:ByteArray),(⟨#[42]⟩:ByteArray)]:List ByteArray) t) (az t):=by
 refine ⟨8,fun k hk=>?_⟩;obtain ⟨m,rfl⟩:∃ m,k=m + 8:=⟨k - 8,by omega⟩;unfold xg.f az jN;simp only [xg.l0,List.any_cons,List.any_nil]
 by_cases h0:t.toList=[61,61]
 ·simp [Kg,h0]
 by_cases h1:t.toList=[60]
 ·simp [Kg,h1,wrap64]
 by_cases h2:t.toList=[38]
 ·simp [Kg,h2,wrap64]
 by_cases h3:t.toList=[43]
 ·simp [Kg,h3,wrap64]
 by_cases h4:t.toList=[45]
 ·simp [Kg,h4,wrap64]
 by_cases h5:t.toList=[42]
 ·simp [Kg,h5,wrap64]
 simp [Kg,Ne.symm h0,Ne.symm h1,Ne.symm h2,Ne.symm h3,Ne.symm h4,Ne.symm h5,h0,h1,h2,h3,h4,h5,wrap64]
theorem yN (s d:Int):zm d 0 (s - 1)=Fl s d:=by
 unfold zm Fl;rw [Bool.eq_iff_iff];simp;omega
def GH (D A B C M:Bool) (o d a b n:Int) (t:ByteArray):Bool :=
 if o=0 then D && (a == 0 && b == 0)
 else if o=1 then D && (A && (b == 0 && n == 0))
 else if o=2 then D && (A && (B && (n == 0 && az t)))
 else if o=3 then D && M
 else if o=4 then d == 0 && (M && C)
 else if o=5 then D && (a == 0 && (b == 0 && n == 0))
 else if o=6 then d == 0 && (A && (b == 0 && n == 0))
 else false
theorem Ev.KA {b:Bool} {f:Nat→Option Bool} {r:Bool} (hf:b=true→Ev f r):Ev (fun n=>if b=true then f n else some false) (b && r):=by
 cases b with
 | true=>exact Ev.pos rfl (hf rfl)
 | false=>exact Ev.neg (by simp) (Ev.now _)
theorem Ev.DG {c:Prop} [Decidable c] {f:Nat→Option Bool} {r:Bool} (hf:c→Ev f r):Ev (fun n=>if c then f n else some false) (decide c && r):=by
 by_cases h:c
 ·rw [decide_eq_true h];exact Ev.pos h (hf h)
 ·rw [decide_eq_false h];exact Ev.neg h (Ev.now _)
section
variable {l0:List Int} {p v s:Int} {l4:List Ff} {o d a b c n:Int} {t:ByteArray}
theorem WL (D A B M:Bool) (x:Bool) (hs:0 ≤ s) (hs':s ≤ 1000):Ev (fun k=>mc.j1 k D A B M x l0 p v s l4 o d a b c n t) (!x && GH D A B (Fl s c) M o d a b n t):=by
 refine Ev.step (fun k=>by rw [mc.j1]) ?_;cases x with
 | true=>exact Ev.pos rfl (Ev.now _)
 | false =>
  refine Ev.neg (by simp) ?_;rw [Bool.not_false,Bool.true_and];unfold GH
  by_cases h0:o=0
  ·rw [if_pos h0];exact Ev.pos h0 (Ev.KA fun _=>Ev.DG fun _=>Ev.now _)
  rw [if_neg h0];refine Ev.neg h0 ?_
  by_cases h1:o=1
  ·rw [if_pos h1];exact Ev.pos h1 (Ev.KA fun _=>Ev.KA fun _=>Ev.DG fun _=>Ev.now _)
  rw [if_neg h1];refine Ev.neg h1 ?_
  by_cases h2:o=2
  ·rw [if_pos h2];exact Ev.pos h2 (Ev.KA fun _=>Ev.KA fun _=>Ev.KA fun _=>Ev.DG fun _=>Ev.bind (iac t) (Ev.now _))
  rw [if_neg h2];refine Ev.neg h2 ?_
  by_cases h3:o=3
  ·rw [if_pos h3,if_pos h3];exact (Ev.KA fun _=>Ev.now _)
  rw [if_neg h3,if_neg h3]
  by_cases h4:o=4
  ·rw [if_pos h4,if_pos h4];refine (Ev.DG fun _=>Ev.KA fun _=>?_);rw [sg (x:=s - 1) (by omega) (by omega),← yN];exact Ev.bind (Fg _ _ _) (Ev.now _)
  rw [if_neg h4,if_neg h4]
  by_cases h5:o=5
  ·rw [if_pos h5,if_pos h5];exact (Ev.KA fun _=>Ev.DG fun _=>Ev.DG fun _=>Ev.now _)
  rw [if_neg h5,if_neg h5]
  by_cases h6:o=6
  ·rw [if_pos h6,if_pos h6];exact (Ev.DG fun _=>Ev.KA fun _=>Ev.DG fun _=>Ev.now _)
  rw [if_neg h6,if_neg h6];exact Ev.now _
theorem oo (M:Bool) (hM:M=((Fl s a || a == -1) && (Fl s b && zm n 0 ((l0.length:Int) - 1)))) (hs:0 ≤ s) (hs':s ≤ 1000):Ev (fun k=>mc.j0 k (Fl s d) (Fl s a) (Fl s b) M l0 p v s l4 o d a b c n t) (om l0.length s o d a b c n t):=by
 refine Ev.step (fun k=>by rw [mc.j0]) ?_
 have key:∀ x:Bool,(x=if o=2 then (c != 0) else if t.toList=[] then (if o=4 then false else (c != 0)) else true)→Ev (fun k=>mc.j1 k (Fl s d) (Fl s a) (Fl s b) M x l0 p v s l4 o d a b c n t) (om l0.length s o d a b c n t):=by
  intro x hx
  have e:om l0.length s o d a b c n t=(!x && GH (Fl s d) (Fl s a) (Fl s b) (Fl s c) M o d a b n t):=by
   subst hM;subst hx;unfold om GH
   by_cases h0:o=0
   ·subst h0;rw [Bool.eq_iff_iff]
    by_cases ht:t.toList=[] <;> simp [ht]
    all_goals (constructor <;> intro h <;> simp_all)
   by_cases h1:o=1
   ·subst h1;rw [Bool.eq_iff_iff]
    by_cases ht:t.toList=[] <;> simp [ht]
    all_goals (constructor <;> intro h <;> simp_all)
   by_cases h2:o=2
   ·subst h2;rw [Bool.eq_iff_iff];simp
    constructor <;> intro h <;> simp_all
   by_cases h3:o=3
   ·subst h3;rw [Bool.eq_iff_iff]
    by_cases ht:t.toList=[] <;> simp [ht]
    all_goals (constructor <;> intro h <;> simp_all)
   by_cases h4:o=4
   ·subst h4;rw [Bool.eq_iff_iff]
    by_cases ht:t.toList=[] <;> simp [ht]
    all_goals (constructor <;> intro h <;> simp_all)
   by_cases h5:o=5
   ·subst h5;rw [Bool.eq_iff_iff]
    by_cases ht:t.toList=[] <;> simp [ht]
    all_goals (constructor <;> intro h <;> simp_all)
   by_cases h6:o=6
   ·subst h6;rw [Bool.eq_iff_iff]
    by_cases ht:t.toList=[] <;> simp [ht]
    all_goals (constructor <;> intro h <;> simp_all)
   simp [h0,h1,h2,h3,h4,h5,h6]
  rw [e];exact WL _ _ _ _ _ hs hs'
 by_cases h2:o=2
 ·exact Ev.pos h2 (Ev.neg (by omega) (key _ (by rw [if_pos h2])))
 ·refine Ev.neg h2 ?_
  by_cases ht:t.toList=([]:List UInt8)
  ·refine Ev.pos ht ?_
   by_cases h4:o=4
   ·exact Ev.pos h4 (key _ (by rw [if_neg h2,if_pos ht,if_pos h4]))
   ·exact Ev.neg h4 (key _ (by rw [if_neg h2,if_pos ht,if_neg h4]))
  ·exact Ev.neg ht (key _ (by rw [if_neg h2,if_neg ht]))
theorem kF (hs:0 ≤ s) (hs':s ≤ 1000) (hl:l0.length ≤ 1048576):Ev (fun k=>mc.f k l0 p v s l4 o d a b c n t) (om l0.length s o d a b c n t):=by
 unfold mc.f;rw [sg (x:=s - 1) (by omega) (by omega),sg (x:=(l0.length:Int) - 1) (by omega) (by omega)];refine Ev.bind (Fg _ _ _) (Ev.bind (Fg _ _ _) (Ev.bind (Fg _ _ _) ?_));simp only [yN];cases ha:Fl s a with
 | true =>
  refine Ev.pos rfl ?_;cases hb:Fl s b with
  | true=>exact Ev.pos rfl (Ev.bind (Fg _ _ _) (by have:=oo (l0:=l0) (p:=p) (v:=v) (s:=s) (l4:=l4) (o:=o) (d:=d) (a:=a) (b:=b) (c:=c) (n:=n) (t:=t) (zm n 0 ((l0.length:Int) - 1)) (by simp [ha,hb]) hs hs';rw [ha,hb] at this;exact this))
  | false=>exact Ev.neg (by simp) (by have:=oo (l0:=l0) (p:=p) (v:=v) (s:=s) (l4:=l4) (o:=o) (d:=d) (a:=a) (b:=b) (c:=c) (n:=n) (t:=t) false (by simp [hb]) hs hs';rw [ha,hb] at this;exact this)
 | false =>
  refine Ev.neg (by simp) ?_
  by_cases h1:a = -1
  ·refine Ev.pos h1 ?_;cases hb:Fl s b with
   | true=>exact Ev.pos rfl (Ev.bind (Fg _ _ _) (by have:=oo (l0:=l0) (p:=p) (v:=v) (s:=s) (l4:=l4) (o:=o) (d:=d) (a:=a) (b:=b) (c:=c) (n:=n) (t:=t) (zm n 0 ((l0.length:Int) - 1)) (by simp [h1,hb]) hs hs';rw [ha,hb] at this;exact this))
   | false=>exact Ev.neg (by simp) (by have:=oo (l0:=l0) (p:=p) (v:=v) (s:=s) (l4:=l4) (o:=o) (d:=d) (a:=a) (b:=b) (c:=c) (n:=n) (t:=t) false (by simp [hb]) hs hs';rw [ha,hb] at this;exact this)
  ·exact Ev.neg h1 (by have:=oo (l0:=l0) (p:=p) (v:=v) (s:=s) (l4:=l4) (o:=o) (d:=d) (a:=a) (b:=b) (c:=c) (n:=n) (t:=t) false (by simp [ha,h1]) hs hs';rw [ha] at this;exact this)
theorem XN (code:List tf) (j ba tg els:Int) (hs:0 ≤ s) (hs':s ≤ 1000) (hl:l0.length ≤ 1048576) (hl4:l4.length ≤ 1048576) (hc:code.length ≤ 1048576):Ev (fun k=>Dc.f k l0 p v s l4 code j ba tg els) (sj l0.length s l4.length code j ba tg els):=by
 unfold Dc.f;have key:=ZN (n:=code.length) (R:=(if j=0 then zm tg 0 ((l4.length:Int) - 1) && ba == 0 && els == 0 else if j=1 then zm tg 0 ((l4.length:Int) - 1) && zm els 0 ((l4.length:Int) - 1) && Fl s ba else if j=2 then Fl s ba && tg == 0 && els == 0 else false)) (e:=false) (fun i=>mm l0.length s (code.getD i Wv)=true) (fun i k=>Dc.l0 k (i:Int) l0 p v s l4 code j ba tg els) ?_ ?_ ?_
 ·have e:(bif FC code.length (fun i=>mm l0.length s (code.getD i Wv)=true) then (if j=0 then zm tg 0 ((l4.length:Int) - 1) && ba == 0 && els == 0 else if j=1 then zm tg 0 ((l4.length:Int) - 1) && zm els 0 ((l4.length:Int) - 1) && Fl s ba else if j=2 then Fl s ba && tg == 0 && els == 0 else false) else false)=sj l0.length s l4.length code j ba tg els:=by
   rw [CB];unfold sj;rw [decide_eq_true hs,Bool.and_true];cases (!(code.any fun x=>!mm l0.length s x)) <;> rfl
  rw [e] at key;exact key
 ·refine Ev.step (fun k=>by rw [Dc.l0]) (Ev.neg (by omega) ?_);rw [sg (x:=s - 1) (by omega) (by omega),sg (x:=(l4.length:Int) - 1) (by omega) (by omega)];refine Ev.bind (Fg _ _ _) (Ev.bind (Fg _ _ _) ?_);rw [yN s ba]
  by_cases h0:j=0
  ·rw [if_pos h0,if_pos h0,Bool.and_assoc];exact Ev.KA fun _=>Ev.DG fun _=>Ev.now _
  rw [if_neg h0,if_neg h0]
  by_cases h1:j=1
  ·rw [if_pos h1,if_pos h1,Bool.and_assoc,Bool.and_comm (zm els 0 ((l4.length:Int) - 1))];exact Ev.KA fun _=>Ev.KA fun _=>Ev.bind (Fg _ _ _) (Ev.now _)
  rw [if_neg h1,if_neg h1]
  by_cases h2:j=2
  ·rw [if_pos h2,if_pos h2,Bool.and_assoc];exact Ev.KA fun _=>Ev.DG fun _=>Ev.now _
  rw [if_neg h2,if_neg h2];exact Ev.now _
 ·intro i hi hp r hr;refine Ev.step (fun k=>by rw [Dc.l0]) (Ev.pos (by omega) (Ev.pos (by omega) ?_));refine Ev.bind (kF hs hs' hl) ?_;have hq:om l0.length s (Ga code (i:Int)).f0 (Ga code (i:Int)).f1 (Ga code (i:Int)).f2 (Ga code (i:Int)).f3 (Ga code (i:Int)).f4 (Ga code (i:Int)).f5 (Ga code (i:Int)).f6=true:=hp;refine Ev.pos hq ?_;rw [Kf hi (by omega)];exact hr
 ·intro i hi hp;refine Ev.step (fun k=>by rw [Dc.l0]) (Ev.pos (by omega) (Ev.pos (by omega) ?_));refine Ev.bind (kF hs hs' hl) ?_;exact Ev.neg hp (Ev.now _)
end
def Rd (l:List Ff):Nat:=(l.map fun x=>x.f0.length).sum
def sB (l0:List Int) (p v s:Int) (n4:Nat):Bool:=sy l0 p v && zm s v 1000 && zm (n4:Int) 1 300
def Lp (l0:List Int) (s:Int) (l4:List Ff) (x:Ff):Bool:=sj l0.length s l4.length x.f0 x.f1 x.f2 x.f3 x.f4
def Uj (l0:List Int) (p v s:Int) (l4:List Ff):Bool:=sB l0 p v s l4.length && (!(l4.any fun x=>!Lp l0 s l4 x) && decide (Rd l4 ≤ 1000))
theorem Yy (l:List Ff) (i:Nat) (h:i < l.length):Rd (l.take (i + 1))=Rd (l.take i) + l[i].f0.length:=by
 unfold Rd;rw [List.take_succ_eq_append_getElem h,List.map_append,List.sum_append];simp
theorem zE (l:List Nat) (i:Nat):(l.take i).sum ≤ l.sum:=by
 conv=>rhs;rw [← List.take_append_drop i l]
 rw [List.sum_append];omega
theorem AE (l:List Ff) (i:Nat):Rd (l.take i) ≤ Rd l:=by
 unfold Rd;rw [List.map_take];exact zE _ _
theorem rB {l0:List Int} {p v s:Int} {n4:Nat} (h:sB l0 p v s n4=true):1 ≤ l0.length∧l0.length ≤ 4∧0 ≤ p∧p ≤ v∧p ≤ 6∧v ≤ 20∧v ≤ s∧s ≤ 1000∧1 ≤ n4∧n4 ≤ 300:=by
 unfold sB sy zm at h;simp only [Bool.and_eq_true,decide_eq_true_eq] at h;obtain ⟨⟨⟨⟨⟨⟨h1,h2⟩,_⟩,h3,h4⟩,h5⟩,h6,h7⟩,h8,h9⟩:=h
 split at h4 <;> omega
section
variable {l0:List Int} {p v s:Int} {l4:List Ff}
theorem jF (h0:l0.length ≤ 1048576) (hl4:l4.length ≤ 1048576) (ht:Rd l4 ≤ 1048576):Ev (fun k=>jd.f k l0 p v s l4) (Uj l0 p v s l4):=by
 unfold jd.f Zg.f;simp only [List.length_nil,if_true];refine Ev.val ?_
 have no:∀ {r:Bool},r=false→Ev (fun k=>jd.j0 k true l0 p v s l4) r:=by
  intro r hr;subst hr;exact Ev.step (fun k=>by rw [jd.j0]) (Ev.pos rfl (Ev.now _))
 unfold Uj sB;cases hp:sy l0 p v with
 | false=>exact Ev.neg (by simp) (no (by simp))
 | true =>
  refine Ev.pos rfl (Ev.bind (Ev.here (AL _ _ _)) ?_);cases hv:zm s v 1000 with
  | false=>exact Ev.neg (by simp) (no (by simp))
  | true =>
   refine Ev.pos rfl (Ev.bind (Ev.here (AL _ _ _)) ?_);cases hn:zm (l4.length:Int) 1 300 with
   | false=>exact no (by simp)
   | true =>
    refine Ev.step (fun k=>by rw [jd.j0]) (Ev.neg (by simp) ?_);simp only [Bool.true_and];have key:=ZN (n:=l4.length) (R:=decide (Rd l4 ≤ 1000)) (e:=false) (fun i=>Lp l0 s l4 (l4.getD i QK)=true) (fun i k=>jd.l0 k (Rd (l4.take i):Int) l4 (l4.length:Int) (i:Int) l0 p v s l4) ?_ ?_ ?_
    ·have e:(bif FC l4.length (fun i=>Lp l0 s l4 (l4.getD i QK)=true) then decide (Rd l4 ≤ 1000) else false)=(!(l4.any fun x=>!Lp l0 s l4 x) && decide (Rd l4 ≤ 1000)):=by
      rw [CB];cases (!(l4.any fun x=>!Lp l0 s l4 x)) <;> rfl
     rw [e] at key
     simpa [Rd] using key
    ·refine Ev.step (fun k=>by rw [jd.l0]) (Ev.neg (by omega) ?_);rw [List.take_length]
     have e:decide ((Rd l4:Int) ≤ 1000)=decide (Rd l4 ≤ 1000):=by
      rw [Bool.eq_iff_iff,decide_eq_true_iff,decide_eq_true_iff];omega
     rw [e];exact Ev.now _
    ·intro i hi hq r hr;refine Ev.step (fun k=>by rw [jd.l0]) (Ev.pos (by omega) (Ev.pos (by omega) (Ev.pos (by omega) ?_)));unfold Qj.f;have hq':sj l0.length s l4.length (Ia l4 (i:Int)).f0 (Ia l4 (i:Int)).f1 (Ia l4 (i:Int)).f2 (Ia l4 (i:Int)).f3 (Ia l4 (i:Int)).f4=true:=hq;refine Ev.val (Ev.pos hq' ?_);have h1:=Yy l4 i hi;have h2:=AE l4 (i + 1);rw [ng hi,Kf hi (by omega),sg (x:=(Rd (l4.take i):Int) + (l4[i].f0.length:Int)) (by omega) (by omega),show (Rd (l4.take i):Int) + (l4[i].f0.length:Int)=(Rd (l4.take (i + 1)):Int) from by omega];exact hr
    ·intro i hi hq;refine Ev.step (fun k=>by rw [jd.l0]) (Ev.pos (by omega) (Ev.pos (by omega) (Ev.pos (by omega) ?_)));unfold Qj.f;exact Ev.val (Ev.neg hq (Ev.now _))
theorem lF (h0:l0.length ≤ 1048576) (hl4:l4.length ≤ 1048576) (ht:Rd l4 ≤ 1048576):Ev (fun k=>Sb.f k l0 p v s l4) (Uj l0 p v s l4):=by
 unfold Sb.f
 have no:∀ {r:Bool},r=false→Ev (fun k=>Sb.j1 k true l0 p v s l4) r:=by
  intro r hr;subst hr;exact Ev.step (fun k=>by rw [Sb.j1]) (Ev.pos rfl (Ev.now _))
 have key:=ZN (n:=l0.length) (R:=zm (l0.length:Int) 1 4 && (zm v 0 20 && (zm p 0 6 && (decide (p ≤ v) && (zm s v 1000 && (zm (l4.length:Int) 1 300 && (!(l4.any fun x=>!Lp l0 s l4 x) && decide (Rd l4 ≤ 1000)))))))) (e:=false) (fun i=>zm (l0.getD i 0) 1 16=true) (fun i k=>Sb.l0 k (i:Int) l0 p v s l4) ?_ ?_ ?_
 ·have e:(bif FC l0.length (fun i=>zm (l0.getD i 0) 1 16=true) then (zm (l0.length:Int) 1 4 && (zm v 0 20 && (zm p 0 6 && (decide (p ≤ v) && (zm s v 1000 && (zm (l4.length:Int) 1 300 && (!(l4.any fun x=>!Lp l0 s l4 x) && decide (Rd l4 ≤ 1000)))))))) else false)=Uj l0 p v s l4:=by
   rw [CB l0 0 (fun x=>zm x 1 16)];unfold Uj sB sy;rw [Bool.eq_iff_iff];cases (!(l0.any fun x=>!zm x 1 16))
   ·simp
   ·simp only [cond_true,Bool.and_eq_true,zm,decide_eq_true_eq,and_assoc,true_and]
    constructor
    ·rintro ⟨h1,h2,h3,h4,h5,h6,h7,h8⟩;refine ⟨h1,h2,h5,?_,h4,h8⟩
     split <;> omega
    ·rintro ⟨h1,h2,h5,h6,h4,h7,h8,h9⟩;refine ⟨h1,h2,?_⟩
     split at h6 <;> exact ⟨by omega,by omega,by omega,by omega,by omega,h7,h8,h9⟩
  rw [e] at key;exact key
 ·refine Ev.step (fun k=>by rw [Sb.l0]) (Ev.neg (by omega) ?_);refine Ev.bind (Fg _ _ _) ?_;cases hb0:zm (l0.length:Int) 1 4 with
  | false=>exact Ev.neg (by simp) (no (by simp))
  | true =>
   refine Ev.pos rfl (Ev.bind (Fg _ _ _) ?_);cases wB:zm v 0 20 with
   | false=>exact Ev.neg (by simp) (no (by simp))
   | true =>
    refine Ev.pos rfl (Ev.bind (Fg _ _ _) ?_);cases ek:zm p 0 6 with
    | false=>exact Ev.neg (by simp) (no (by simp))
    | true =>
     refine Ev.pos rfl ?_
     by_cases hpv:p > v
     ·refine Ev.pos hpv (no ?_);rw [decide_eq_false (show ¬ p ≤ v from by omega)];simp
     ·refine Ev.neg hpv (Ev.bind (Fg _ _ _) ?_);rw [decide_eq_true (show p ≤ v from by omega)];cases b5:zm s v 1000 with
      | false=>exact Ev.neg (by simp) (no (by simp))
      | true =>
       refine Ev.pos rfl (Ev.bind (Fg _ _ _) ?_);cases hb4:zm (l4.length:Int) 1 300 with
       | false=>exact no (by simp)
       | true =>
        refine Ev.step (fun k=>by rw [Sb.j1]) (Ev.neg (by simp) ?_);simp only [Bool.true_and];have hs0:0 ≤ s∧s ≤ 1000:=by simp [zm] at wB b5;omega
        have key:=Wj (r:=true) (n:=l4.length) (fun i=>Rd (l4.take i) ≤ 1000→Ev (fun k=>Sb.l1 k (Rd (l4.take i):Int) (i:Int) l0 p v s l4) (!((l4.drop i).any fun x=>!Lp l0 s l4 x) && decide (Rd l4 ≤ 1000))) ?_ ?_ 0 (by omega) (by simp [Rd])
        ·rw [List.drop_zero] at key
         simpa [Rd] using key
        ·intro h;rw [List.take_length] at h;refine Ev.step (fun k=>by rw [Sb.l1]) (Ev.neg (by omega) ?_);rw [List.drop_length,decide_eq_true h];exact Ev.now _
        ·intro i hi ih h;have h1:=Yy l4 i hi;have h2:=AE l4 (i + 1);refine Ev.step (fun k=>by rw [Sb.l1]) (Ev.pos (by omega) (Ev.pos (by omega) ?_));rw [ng hi,sg (x:=(Rd (l4.take i):Int) + (l4[i].f0.length:Int)) (by omega) (by omega),show (Rd (l4.take i):Int) + (l4[i].f0.length:Int)=(Rd (l4.take (i + 1)):Int) from by omega]
         have hd:((l4.drop i).any fun x=>!Lp l0 s l4 x)=(!Lp l0 s l4 l4[i] || (l4.drop (i + 1)).any fun x=>!Lp l0 s l4 x):=by
          rw [List.drop_eq_getElem_cons hi,List.any_cons]
         rw [hd]
         by_cases hgt:(Rd (l4.take (i + 1)):Int) > 1000
         ·rw [decide_eq_false (show ¬ Rd l4 ≤ 1000 from by omega),Bool.and_false];exact Ev.pos hgt (Ev.now _)
         ·refine Ev.neg hgt (Ev.bind (XN _ _ _ _ _ hs0.1 hs0.2 h0 hl4 (by omega)) ?_);cases hq:Lp l0 s l4 l4[i] with
          | false =>
           have hq':¬ sj l0.length s l4.length l4[i].f0 l4[i].f1 l4[i].f2 l4[i].f3 l4[i].f4=true:=by
            have e:sj l0.length s l4.length l4[i].f0 l4[i].f1 l4[i].f2 l4[i].f3 l4[i].f4=false:=hq;rw [e];simp
           exact Ev.neg hq' (Ev.now _)
          | true =>
           have hq':sj l0.length s l4.length l4[i].f0 l4[i].f1 l4[i].f2 l4[i].f3 l4[i].f4=true:=hq;refine Ev.pos hq' ?_;rw [Kf hi (by omega),Bool.not_true,Bool.false_or];exact ih (by omega)
 ·intro i hi hq r hr;refine Ev.step (fun k=>by rw [Sb.l0]) (Ev.pos (by omega) (Ev.pos (by omega) ?_));refine Ev.bind (Fg _ _ _) (Ev.pos hq ?_);rw [Kf hi (by omega)];exact hr
 ·intro i hi hq;refine Ev.step (fun k=>by rw [Sb.l0]) (Ev.pos (by omega) (Ev.pos (by omega) ?_));exact Ev.bind (Fg _ _ _) (Ev.neg hq (Ev.now _))
end
end Go.Proofs.Ytkigbdceceeenaa.P
end
section
namespace Go.Proofs.Ytkigbdceceeenaa.P
open Go.RowKit Go.Proofs.Oa.Rb Go.Proofs.Oa.Pd Go.Proofs.Oa.Re
set_option linter.unusedVariables false
set_option linter.unusedSimpArgs false
theorem vm {l:List Int} {j:Nat} (hj:j < l.length):rd l (j:Int)=l[j]:=by simp [rd,List.getD_eq_getElem?_getD,hj]
def rG (b:Ff):List Int:=if b.f1=0 then [b.f3] else if b.f1=1 then [b.f3,b.f4] else []
theorem lS (b:Ff):Gm.f b.f0 b.f1 b.f2 b.f3 b.f4=some (rG b):=by
 unfold Gm.f rG
 by_cases h0:b.f1=0
 ·rw [if_pos h0,if_pos h0]
 ·rw [if_neg h0,if_neg h0]
  by_cases h1:b.f1=1
  ·rw [if_pos h1,if_pos h1]
  ·rw [if_neg h1,if_neg h1]
theorem GV (b:Ff):(rG b).length ≤ 2:=by
 unfold rG
 by_cases h0:b.f1=0
 ·rw [if_pos h0];simp
 ·rw [if_neg h0]
  by_cases h1:b.f1=1
  ·rw [if_pos h1];simp
  ·rw [if_neg h1];simp
def Bu (bs:List Ff) (i:Nat):List Int:=rG (Ia bs (i:Int))
def UA (bs:List Ff):Prop:=0 < bs.length∧bs.length ≤ 1048576∧∀ i,i < bs.length→∀ j ∈ Bu bs i,0 ≤ j∧j < (bs.length:Int)
theorem cO {l0:List Int} {p v s:Int} {bs:List Ff} (h:Uj l0 p v s bs=true):UA bs:=by
 unfold Uj at h;simp only [Bool.and_eq_true] at h;obtain ⟨h1,h2,-⟩:=h;have hh:=rB h1;refine ⟨by omega,by omega,fun i hi j hj=>?_⟩
 have hb:Lp l0 s bs bs[i]=true:=by
  simp only [Bool.not_eq_true',List.any_eq_false] at h2;have:=h2 _ (List.getElem_mem hi)
  simpa using this
 unfold Lp sj at hb;simp only [Bool.and_eq_true] at hb;obtain ⟨-,hb⟩:=hb;unfold Bu at hj;rw [ng hi] at hj;unfold rG at hj
 by_cases h0:bs[i].f1=0
 ·rw [if_pos h0] at hj hb;simp only [Bool.and_eq_true,zm,decide_eq_true_eq] at hb;rw [List.mem_singleton] at hj;subst hj;omega
 ·rw [if_neg h0] at hj hb
  by_cases h1:bs[i].f1=1
  ·rw [if_pos h1] at hj hb;simp only [Bool.and_eq_true,zm,decide_eq_true_eq] at hb;simp only [List.mem_cons,List.not_mem_nil,or_false] at hj
   rcases hj with hj|hj <;> subst hj <;> omega
  ·rw [if_neg h1] at hj;cases hj
def seen (s:List Bool) (j:Nat):Bool:=s.getD j false
theorem WT (s:List Bool) (j:Nat):Kg false s (j:Int)=seen s j:=rfl
theorem fz {s:List Bool} {j:Nat} (h:seen s j=true):j < s.length:=by
 unfold seen at h
 rcases Nat.lt_or_ge j s.length with h'|h'
 ·exact h'
 ·rw [List.getD_eq_getElem?_getD,List.getElem?_eq_none h'] at h;simp at h
def news (s:List Bool):Nat:=s.count false
def Shut (nx:Nat→List Int) (s:List Bool) (q:List Int) (i:Nat):Prop:=∀ j,seen s j=true→(j:Int) ∉ q→j ≠ i→∀ m ∈ nx j,seen s m.toNat=true
theorem jL {s t:List Bool} (hl:s.length=t.length) (h:∀ j,seen s j=true ↔ seen t j=true):s=t:=by
 apply List.ext_getElem hl;intro i h1 h2;have:=h i;unfold seen at this;rw [List.getD_eq_getElem?_getD,List.getElem?_eq_getElem h1,List.getD_eq_getElem?_getD,List.getElem?_eq_getElem h2] at this;simp only [Option.getD_some] at this;exact Bool.eq_iff_iff.mpr this
theorem cB (n j:Nat):seen (List.replicate n false) j=false:=by
 unfold seen;rw [List.getD_eq_getElem?_getD,List.getElem?_replicate]
 by_cases h:j < n
 ·rw [if_pos h];rfl
 ·rw [if_neg h];rfl
def Yk (x:tf):List Int :=
 if x.f0=1 ∨ x.f0=6 then [x.f2] else if x.f0=2 then [x.f2,x.f3] else if x.f0=3 ∨ x.f0=4 then [x.f3] ++ (if 0 ≤ x.f2 then [x.f2] else []) ++ (if x.f0=4 then [x.f4] else []) else []
def RK (x:tf):Int:=if x.f0=4 then -1 else if x.f0=6 then -1 else x.f1
def mz (n:Nat) (x:tf):Prop:=(∀ u ∈ Yk x,0 ≤ u∧u < (n:Int))∧(¬ x.f0=4→¬ x.f0=6→0 ≤ x.f1∧x.f1 < (n:Int))
theorem XR (x:tf):(Yk x).length ≤ 3:=by
 unfold Yk
 by_cases h1:x.f0=1 ∨ x.f0=6
 ·rw [if_pos h1];simp
 ·rw [if_neg h1]
  by_cases h2:x.f0=2
  ·rw [if_pos h2];simp
  ·rw [if_neg h2]
   by_cases h3:x.f0=3 ∨ x.f0=4
   ·rw [if_pos h3]
    by_cases h4:0 ≤ x.f2
    ·rw [if_pos h4]
     by_cases h5:x.f0=4
     ·rw [if_pos h5];simp
     ·rw [if_neg h5];simp
    ·rw [if_neg h4]
     by_cases h5:x.f0=4
     ·rw [if_pos h5];simp
     ·rw [if_neg h5];simp
   ·rw [if_neg h3];simp
def wH (s:List Bool) (u:Int):List Bool:=s.set u.toNat true
def iy (s:List Bool) (x:tf):List Bool:=(Yk x).foldl wH (if RK x ≥ 0 then s.set (RK x).toNat false else s)
def Gu (b:Ff) (s:List Bool):List Bool:=if b.f1=0 then s else s.set b.f2.toNat true
def UE (b:Ff) (s:List Bool):List Bool:=b.f0.foldr (fun x s=>iy s x) (Gu b s)
theorem Vx:∀ (l:List Int) (s:List Bool),(l.foldl wH s).length=s.length
 | [],_=>rfl
 | u :: l,s=>by rw [List.foldl_cons,Vx l];unfold wH;rw [List.length_set]
theorem fT (s:List Bool) (x:tf):(iy s x).length=s.length:=by
 unfold iy;rw [Vx]
 by_cases h:RK x ≥ 0
 ·rw [if_pos h,List.length_set]
 ·rw [if_neg h]
theorem jz (b:Ff) (s:List Bool):(Gu b s).length=s.length:=by
 unfold Gu
 by_cases h:b.f1=0
 ·rw [if_pos h]
 ·rw [if_neg h,List.length_set]
theorem BB (l:List tf) (s:List Bool):(l.foldr (fun x s=>iy s x) s).length=s.length:=by
 induction l with
 | nil=>rfl
 | cons x l ih=>rw [List.foldr_cons,fT,ih]
theorem ew (b:Ff) (s:List Bool):(UE b s).length=s.length:=by
 unfold UE;rw [BB,jz]
theorem wj {s:List Bool} {i j:Nat} {b:Bool} (hi:i < s.length):seen (s.set i b) j=if i=j then b else seen s j:=by
 unfold seen;rw [List.getD_eq_getElem?_getD,List.getD_eq_getElem?_getD,List.getElem?_set]
 by_cases h:i=j
 ·rw [if_pos h,if_pos h,if_pos hi];rfl
 ·rw [if_neg h,if_neg h]
def bk1 (u:Nat) (x:tf) (b:Bool):Bool:=if (u:Int) ∈ Yk x then true else if RK x=(u:Int) then false else b
def sS (u:Nat) (k:Ff) (b:Bool):Bool:=if k.f1=0 then b else if k.f2=(u:Int) then true else b
def oY (u:Nat) (k:Ff) (b:Bool):Bool:=k.f0.foldr (bk1 u) (sS u k b)
theorem dW {u:Nat} {x:tf} {a b:Bool} (h:a=true→b=true):bk1 u x a=true→bk1 u x b=true:=by
 unfold bk1
 by_cases h1:(u:Int) ∈ Yk x
 ·rw [if_pos h1,if_pos h1];exact id
 ·rw [if_neg h1,if_neg h1]
  by_cases h2:RK x=(u:Int)
  ·rw [if_pos h2,if_pos h2];exact id
  ·rw [if_neg h2,if_neg h2];exact h
theorem Wu {u:Nat} {k:Ff} {a b:Bool} (h:a=true→b=true):oY u k a=true→oY u k b=true:=by
 unfold oY
 have he:sS u k a=true→sS u k b=true:=by
  unfold sS
  by_cases h1:k.f1=0
  ·rw [if_pos h1,if_pos h1];exact h
  ·rw [if_neg h1,if_neg h1]
   by_cases h2:k.f2=(u:Int)
   ·rw [if_pos h2,if_pos h2];exact id
   ·rw [if_neg h2,if_neg h2];exact h
 induction k.f0 with
 | nil=>exact he
 | cons x l ih=>exact dW ih
theorem Tu:∀ (l:List Int) (s:List Bool) (u:Nat),(∀ a ∈ l,0 ≤ a∧a < (s.length:Int))→seen (l.foldl wH s) u=(decide ((u:Int) ∈ l) || seen s u)
 | [],s,u,_=>by simp
 | a :: l,s,u,h=>by
  obtain ⟨a0,a1⟩:=h a (by simp);rw [List.foldl_cons,Tu l (wH s a) u (fun c hc=>by unfold wH;rw [List.length_set];exact h c (by simp [hc]))];unfold wH;rw [wj (by omega)]
  by_cases e:a.toNat=u
  ·rw [if_pos e,decide_eq_true (show (u:Int) ∈ a :: l from List.mem_cons.2 (Or.inl (by omega)))];simp
  ·rw [if_neg e]
   have:(u:Int) ∈ a :: l ↔ (u:Int) ∈ l:=by
    rw [List.mem_cons];exact ⟨fun h=>h.resolve_left (by omega),Or.inr⟩
   rw [decide_eq_decide.2 this]
theorem qO {s:List Bool} {x:tf} {u:Nat} (hx:mz s.length x):seen (iy s x) u=bk1 u x (seen s u):=by
 obtain ⟨h1,h2⟩:=hx;unfold iy bk1
 have hm:RK x ≥ 0→(RK x).toNat < s.length:=by
  unfold RK;intro h
  by_cases h4:x.f0=4
  ·rw [if_pos h4] at h;omega
  ·rw [if_neg h4] at h ⊢
   by_cases h6:x.f0=6
   ·rw [if_pos h6] at h;omega
   ·rw [if_neg h6] at h ⊢;have:=h2 h4 h6;omega
 have hlen:(if RK x ≥ 0 then s.set (RK x).toNat false else s).length=s.length:=by
  by_cases h:RK x ≥ 0
  ·rw [if_pos h,List.length_set]
  ·rw [if_neg h]
 rw [Tu _ _ _ (fun a ha=>by rw [hlen];exact h1 a ha)]
 by_cases hu:(u:Int) ∈ Yk x
 ·rw [if_pos hu,decide_eq_true hu];rfl
 ·rw [if_neg hu,decide_eq_false hu,Bool.false_or]
  by_cases h:RK x ≥ 0
  ·rw [if_pos h,wj (hm h)]
   by_cases e:RK x=(u:Int)
   ·rw [if_pos e,if_pos (by omega)]
   ·rw [if_neg e,if_neg (by omega)]
  ·rw [if_neg h,if_neg (by omega)]
def lC (n:Nat) (b:Ff):Prop:=b.f0.length ≤ 1048576∧(¬ b.f1=0→0 ≤ b.f2∧b.f2 < (n:Int))∧∀ x ∈ b.f0,mz n x
theorem rS {s:List Bool} {b:Ff} {u:Nat} (hb:¬ b.f1=0→0 ≤ b.f2∧b.f2 < (s.length:Int)):seen (Gu b s) u=sS u b (seen s u):=by
 unfold Gu sS
 by_cases h:b.f1=0
 ·rw [if_pos h,if_pos h]
 ·have:=hb h;rw [if_neg h,if_neg h,wj (by omega)]
  by_cases e:b.f2=(u:Int)
  ·rw [if_pos e,if_pos (by omega)]
  ·rw [if_neg e,if_neg (by omega)]
theorem kz {s:List Bool} {b:Ff} {u:Nat} (hb:lC s.length b):seen (UE b s) u=oY u b (seen s u):=by
 unfold UE oY;obtain ⟨_,h2,h3⟩:=hb;have he:=rS (u:=u) h2;have hl:=jz b s;generalize Gu b s=s0 at he hl;rw [← he];clear he h2;generalize b.f0=cd at h3 ⊢
 induction cd with
 | nil=>rfl
 | cons x l ih =>
  rw [List.foldr_cons,List.foldr_cons,qO (by rw [BB,hl];exact h3 x (by simp)),ih (fun y hy=>h3 y (by simp [hy]))]
inductive LB (bs:List Ff) (u:Nat):Nat→Prop
 | gen {i:Nat} {t:Int}:t ∈ Bu bs i→oY u (Ia bs t) false=true→LB bs u i
 | step {i:Nat} {t:Int}:t ∈ Bu bs i→oY u (Ia bs t) true=true→LB bs u t.toNat→LB bs u i
noncomputable def Pm (bs:List Ff) (n i:Nat):List Bool:=open Classical in (List.range n).map fun u=>decide (LB bs u i)
noncomputable def Qm (bs:List Ff) (n:Nat):List (List Bool):=(List.range bs.length).map (Pm bs n)
theorem Em (bs:List Ff) (n i:Nat):(Pm bs n i).length=n:=by simp [Pm]
theorem mB (bs:List Ff) (n:Nat):(Qm bs n).length=bs.length:=by simp [Qm]
theorem Ro {bs:List Ff} {n i u:Nat} (hu:u < n):seen (Pm bs n i) u=true ↔ LB bs u i:=by simp [seen,Pm,List.getD_eq_getElem?_getD,hu]
def PA (bs:List Ff) (n:Nat):Prop:=UA bs∧n ≤ 1048576∧∀ b ∈ bs,lC n b
def Zf (X:List (List Bool)) (i:Nat):List Bool:=X.getD i []
theorem Co {X:List (List Bool)} {i k:Nat} {x:List Bool} (hi:i < X.length):Zf (X.set i x) k=if i=k then x else Zf X k:=by
 unfold Zf;rw [List.getD_eq_getElem?_getD,List.getD_eq_getElem?_getD,List.getElem?_set]
 by_cases h:i=k
 ·rw [if_pos h,if_pos h,if_pos hi];rfl
 ·rw [if_neg h,if_neg h]
structure aG (bs:List Ff) (n:Nat) (X Y:List (List Bool)):Prop where
 xl:X.length=bs.length
 yl:Y.length=bs.length
 xr:∀ i,i < bs.length→(Zf X i).length=n
 yr:∀ i,i < bs.length→(Zf Y i).length=n
 xs:∀ i u,i < bs.length→seen (Zf X i) u=true→LB bs u i
 ys:∀ i u,i < bs.length→seen (Zf Y i) u=true→oY u (Ia bs (i:Int)) (seen (Zf X i) u)=true
section
variable {bs:List Ff} {n:Nat} {X Y:List (List Bool)}
theorem aG.or (h:aG bs n X Y) (hE:UA bs) {i s:Nat} {t:Int} (hi:i < bs.length) (ht:t ∈ Bu bs i) (hs:s < n):aG bs n (X.set i ((Zf X i).set s (seen (Zf X i) s || seen (Zf Y t.toNat) s))) Y:=by
 obtain ⟨t0,t1⟩:=hE.2.2 i hi t ht;have hil:i < X.length:=by rw [h.xl];exact hi
 have sZ:s < (Zf X i).length:=by rw [h.xr i hi];exact hs
 refine ⟨by rw [List.length_set];exact h.xl,h.yl,fun k hk=>?_,h.yr,fun k u hk hu=>?_,fun k u hk hu=>?_⟩
 ·rw [Co hil]
  by_cases e:i=k
  ·rw [if_pos e,List.length_set];exact h.xr i hi
  ·rw [if_neg e];exact h.xr k hk
 ·rw [Co hil] at hu
  by_cases e:i=k
  ·subst e;rw [if_pos rfl,wj sZ] at hu
   by_cases e2:s=u
   ·subst e2;rw [if_pos rfl,Bool.or_eq_true] at hu
    rcases hu with hu|hu
    ·exact h.xs i s hk hu
    ·have hy:=h.ys t.toNat s (by omega) hu;rw [Int.toNat_of_nonneg t0] at hy;cases hb:seen (Zf X t.toNat) s with
     | false=>rw [hb] at hy;exact LB.gen ht hy
     | true=>rw [hb] at hy;exact LB.step ht hy (h.xs t.toNat s (by omega) hb)
   ·rw [if_neg e2] at hu;exact h.xs i u hk hu
  ·rw [if_neg e] at hu;exact h.xs k u hk hu
 ·have hy:=h.ys k u hk hu;rw [Co hil]
  by_cases e:i=k
  ·subst e;rw [if_pos rfl,wj sZ]
   by_cases e2:s=u
   ·subst e2;rw [if_pos rfl];exact Wu (fun hb=>by rw [hb];rfl) hy
   ·rw [if_neg e2];exact hy
  ·rw [if_neg e];exact hy
theorem aG.put (h:aG bs n X Y) (hO:PA bs n) {i:Nat} (hi:i < bs.length):aG bs n X (Y.set i (UE (Ia bs (i:Int)) (Zf X i))):=by
 have hil:i < Y.length:=by rw [h.yl];exact hi
 have hb:lC n (Ia bs (i:Int)):=by rw [ng hi];exact hO.2.2 _ (List.getElem_mem hi)
 refine ⟨h.xl,by rw [List.length_set];exact h.yl,h.xr,fun k hk=>?_,h.xs,fun k u hk hu=>?_⟩
 ·rw [Co hil]
  by_cases e:i=k
  ·rw [if_pos e,ew];exact h.xr i hi
  ·rw [if_neg e];exact h.yr k hk
 ·rw [Co hil] at hu
  by_cases e:i=k
  ·subst e;rw [if_pos rfl,kz (by rw [h.xr i hi];exact hb)] at hu;exact hu
  ·rw [if_neg e] at hu;exact h.ys k u hk hu
def StE (bs:List Ff) (X Y:List (List Bool)) (i:Nat):Prop:=(∀ t ∈ Bu bs i,∀ u,seen (Zf Y t.toNat) u=true→seen (Zf X i) u=true)∧Zf Y i=UE (Ia bs (i:Int)) (Zf X i)
theorem aG.done (h:aG bs n X Y) (hO:PA bs n) (hst:∀ i,i < bs.length→StE bs X Y i):X=Qm bs n:=by
 have hE:=hO.1
 have key:∀ u i,LB bs u i→i < bs.length→seen (Zf X i) u=true:=by
  intro u i hl
  have turn:∀ (i:Nat) (t:Int),i < bs.length→t ∈ Bu bs i→oY u (Ia bs t) (seen (Zf X t.toNat) u)=true→seen (Zf X i) u=true:=by
   intro i t hi ht h1;obtain ⟨t0,t1⟩:=hE.2.2 i hi t ht;have htn:t.toNat < bs.length:=by omega
   refine (hst i hi).1 t ht u ?_;rw [(hst t.toNat htn).2,kz (by rw [h.xr _ htn,ng htn];exact hO.2.2 _ (List.getElem_mem htn)),Int.toNat_of_nonneg t0];exact h1
  induction hl with
  | @gen i t ht h1 =>
   intro hi;exact turn i t hi ht (Wu (fun hf=>by cases hf) h1)
  | @step i t ht h1 _ ih =>
   intro hi;obtain ⟨t0,t1⟩:=hE.2.2 i hi t ht;exact turn i t hi ht (Wu (fun _=>ih (by omega)) h1)
 apply List.ext_getElem
 ·rw [h.xl,mB]
 ·intro i h1 h2;have hi:i < bs.length:=by rw [← h.xl];exact h1
  have e1:X[i]=Zf X i:=by simp [Zf,List.getD_eq_getElem?_getD,h1]
  have e2:(Qm bs n)[i]=Pm bs n i:=by simp [Qm]
  rw [e1,e2];refine jL (by rw [h.xr i hi,Em]) (fun u=>?_)
  constructor
  ·intro hu;have hun:u < n:=by have:=fz hu;rw [h.xr i hi] at this;exact this
   exact (Ro hun).2 (h.xs i u hi hu)
  ·intro hu;have hun:u < n:=by have:=fz hu;rw [Em] at this;exact this
   exact key u i ((Ro hun).1 hu) hi
def cnt (s:List Bool):Nat:=s.count true
def Sp (Y:List (List Bool)):Nat:=(Y.map cnt).sum
theorem nF:∀ (Y:List (List Bool)) (i:Nat) (x:List Bool),i < Y.length→Sp (Y.set i x) + cnt (Zf Y i)=Sp Y + cnt x
 | [],i,x,h=>by simp at h
 | y :: Y,0,x,_=>by
  simp only [Sp,List.set_cons_zero,List.map_cons,List.sum_cons,Zf,List.getD_cons_zero];omega
 | y :: Y,i + 1,x,h=>by
  have ih:=nF Y i x (by simpa using h);simp only [Sp,List.set_cons_succ,List.map_cons,List.sum_cons,Zf,List.getD_cons_succ] at ih ⊢;omega
theorem fO:∀ (a b:List Bool),a.length=b.length→(∀ u,seen a u=true→seen b u=true)→cnt a ≤ cnt b∧(a ≠ b→cnt a < cnt b)
 | [],[],_,_=>⟨Nat.le_refl _,fun h=>absurd rfl h⟩
 | [],_ :: _,h,_=>by cases h
 | _ :: _,[],h,_=>by cases h
 | x :: a,y :: b,hl,h=>by
  obtain ⟨h1,h2⟩:=fO a b (by simpa using hl) (fun u hu=>h (u + 1) hu);have h0:x=true→y=true:=h 0;unfold cnt at h1 h2 ⊢;rw [List.count_cons,List.count_cons];cases x with
  | false =>
   cases y with
   | false=>exact ⟨by simpa using h1,fun hne=>by have:=h2 (fun e=>hne (by rw [e]));simpa using this⟩
   | true=>exact ⟨by simp;omega,fun _=>by simp;omega⟩
  | true =>
   have hy:=h0 rfl;subst hy;exact ⟨by simpa using h1,fun hne=>by have:=h2 (fun e=>hne (by rw [e]));simpa using this⟩
theorem J5 (a:List Bool):cnt a ≤ a.length:=List.count_le_length
theorem bK {m:Nat}:∀ (Y:List (List Bool)),(∀ i,i < Y.length→(Zf Y i).length ≤ m)→Sp Y ≤ m * Y.length
 | [],_=>by simp [Sp]
 | y :: Y,h=>by
  have h1:=bK Y (fun i hi=>h (i + 1) (by simpa using hi));have h2:=h 0 (by simp);have h3:=J5 y;have h4:(Zf (y :: Y) 0)=y:=rfl;rw [h4] at h2;simp only [Sp,List.map_cons,List.sum_cons,List.length_cons,Nat.mul_succ] at h1 ⊢;omega
theorem aG.grow (h:aG bs n X Y) (hO:PA bs n) {i:Nat} (hi:i < bs.length) (hne:UE (Ia bs (i:Int)) (Zf X i) ≠ Zf Y i):Sp Y < Sp (Y.set i (UE (Ia bs (i:Int)) (Zf X i))):=by
 have hb:lC n (Ia bs (i:Int)):=by rw [ng hi];exact hO.2.2 _ (List.getElem_mem hi)
 have h1:=nF Y i (UE (Ia bs (i:Int)) (Zf X i)) (by rw [h.yl];exact hi)
 have h2:=(fO (Zf Y i) (UE (Ia bs (i:Int)) (Zf X i)) (by rw [ew,h.xr i hi,h.yr i hi]) (fun u hu=>by
  rw [kz (by rw [h.xr i hi];exact hb)]
  exact h.ys i u hi hu)).2 (fun e=>hne e.symm)
 omega
theorem aG.start (bs:List Ff) (n:Nat):aG bs n (List.replicate bs.length (List.replicate n false)) (List.replicate bs.length (List.replicate n false)):=by
 have hr:∀ i,i < bs.length→Zf (List.replicate bs.length (List.replicate n false)) i=List.replicate n false:=fun i hi=>by
  unfold Zf;rw [List.getD_eq_getElem?_getD,List.getElem?_replicate,if_pos hi];rfl
 refine ⟨by simp,by simp,fun i hi=>by rw [hr i hi];simp,fun i hi=>by rw [hr i hi];simp,fun i u hi hu=>?_,fun i u hi hu=>?_⟩
 ·rw [hr i hi,cB] at hu;cases hu
 ·rw [hr i hi,cB] at hu;cases hu
end
end Go.Proofs.Ytkigbdceceeenaa.P
end
section
namespace Go.Proofs.Ytkigbdceceeenaa.P
open Go.RowKit Go.Proofs.Oa.Rb Go.Proofs.Oa.Pd Go.Proofs.Oa.Re
set_option linter.unusedVariables false
set_option linter.unusedSimpArgs false
section
variable {St:Type} (f:St→tf→List Bool→St)
end
def EvS (S:Nat→Prop) (w:World) (k:Nat):Prop:=S k ∨ w.heap.size ≤ k
structure V_ (S:Nat→Prop) (w:World) (o:Obj) (wr:World):Prop where
 k:Kept w wr (EvS S w)
 b:Below 0 w wr
 hx:wr.heap[w.heap.size]? = some o
section
variable {S:Nat→Prop} {w wr W:World} {o:Obj}
theorem ql {B:Nat} (h:Below B wr W):Below 0 wr W:=⟨h.os,h.tape,h.output,h.size,fun k hk=>by omega⟩
theorem V_.below (h:V_ S w o wr) (hb:Below wr.heap.size wr W):V_ S w o W:=⟨h.k.below hb,h.b.trans (ql hb),Na h.hx hb⟩
theorem V_.kept (h:V_ S w o wr) (hS:∀ k,S k→k < w.heap.size) (hk:Kept wr W S) (hb:Below 0 wr W):V_ S w o W :=
 ⟨h.k.Gj hk (fun _ h2=>Or.inl (Or.inl h2)),h.b.trans hb,Sd h.hx hk (fun e=>by have:=hS _ e;omega)⟩
theorem V_.le (h:V_ S w o wr):w.heap.size < wr.heap.size:=Tb h.hx
end
end Go.Proofs.Ytkigbdceceeenaa.P
end
section
namespace Go.Proofs.Ytkigbdceceeenaa.P
open Go.RowKit Go.Proofs.Oa.Rb Go.Proofs.Oa.Pd Go.Proofs.Oa.Re
set_option linter.unusedVariables false
set_option linter.unusedSimpArgs false
attribute [local go_sem] Mh ki rj Kj th qh ni ji
theorem Dm {x:tf} (h:x.f0=1 ∨ x.f0=6):Yk x=[x.f2]:=if_pos h
theorem Fp {x:tf} (h:x.f0=2):Yk x=[x.f2,x.f3]:=by
 unfold Yk;rw [if_neg (by omega),if_pos h]
theorem Eh {x:tf} (h:x.f0=3 ∨ x.f0=4):Yk x=[x.f3] ++ (if 0 ≤ x.f2 then [x.f2] else []) ++ (if x.f0=4 then [x.f4] else []):=by
 unfold Yk;rw [if_neg (by omega),if_neg (by omega),if_pos h]
theorem yE {x:tf} (h1:¬ (x.f0=1 ∨ x.f0=6)) (h2:¬ x.f0=2) (h3:¬ (x.f0=3 ∨ x.f0=4)):Yk x=[]:=by
 unfold Yk;rw [if_neg h1,if_neg h2,if_neg h3]
theorem bL {x:tf} (ha:0 ≤ x.f2) (h4:x.f0=4):Yk x=[x.f3] ++ [x.f2] ++ [x.f4]:=by rw [Eh (Or.inr h4),if_pos ha,if_pos h4]
theorem ZK {x:tf} (ha:0 ≤ x.f2) (h3:x.f0=3 ∨ x.f0=4) (h4:¬ x.f0=4):Yk x=[x.f3] ++ [x.f2]:=by rw [Eh h3,if_pos ha,if_neg h4];rfl
theorem YK {x:tf} (ha:¬ 0 ≤ x.f2) (h4:x.f0=4):Yk x=[x.f3] ++ [x.f4]:=by rw [Eh (Or.inr h4),if_neg ha,if_pos h4];rfl
theorem XK {x:tf} (ha:¬ 0 ≤ x.f2) (h3:x.f0=3 ∨ x.f0=4) (h4:¬ x.f0=4):Yk x=[x.f3]:=by rw [Eh h3,if_neg ha,if_neg h4];rfl
theorem SS (x:tf):Ev (fun k=>Xd.f k x.f0 x.f1 x.f2 x.f3 x.f4 x.f5 x.f6) (Yk x):=by
 unfold Xd.f;refine Ev.val ?_
 by_cases h1:x.f0=1
 ·rw [Dm (Or.inl h1)];refine Ev.pos h1 (Ev.step (fun k=>by rw [Xd.j0]) ?_);exact Ev.pos (by rw [h1];rfl) (Ev.pos (by simp) (Ev.now _))
 refine Ev.neg h1 (Ev.step (fun k=>by rw [Xd.j0]) ?_)
 by_cases h6:x.f0=6
 ·rw [Dm (Or.inr h6)];exact Ev.pos (by rw [h6];rfl) (Ev.pos (by simp) (Ev.now _))
 refine Ev.neg (by simp [h6]) ?_
 by_cases h2:x.f0=2
 ·rw [Fp h2];exact Ev.pos h2 (Ev.val (Ev.pos (by simp) (Ev.now _)))
 refine Ev.neg h2 ?_
 have key:∀ b:Bool,(b=true ↔ x.f0=3 ∨ x.f0=4)→Ev (fun k=>Xd.j1 k [] b x.f0 x.f1 x.f2 x.f3 x.f4 x.f5 x.f6) (Yk x):=by
  intro b hb;refine Ev.step (fun k=>by rw [Xd.j1]) ?_
  by_cases hbt:b=true
  ·have h34:=hb.1 hbt;refine Ev.pos hbt (Ev.pos (by simp) (Ev.val ?_))
   by_cases ha:0 ≤ x.f2
   ·refine Ev.pos ha (Ev.pos (by simp) (Ev.val ?_))
    by_cases h4:x.f0=4
    ·rw [bL ha h4];exact Ev.pos h4 (Ev.pos (by simp) (Ev.now _))
    ·rw [ZK ha h34 h4];exact Ev.neg h4 (Ev.now _)
   ·refine Ev.neg ha ?_
    by_cases h4:x.f0=4
    ·rw [YK ha h4];exact Ev.pos h4 (Ev.pos (by simp) (Ev.now _))
    ·rw [XK ha h34 h4];exact Ev.neg h4 (Ev.now _)
  ·rw [yE (fun h=>h.elim h1 h6) h2 (fun h=>hbt (hb.2 h))];exact Ev.neg hbt (Ev.now _)
 by_cases h3:x.f0=3
 ·exact Ev.pos h3 (key _ (by simp [h3]))
 ·exact Ev.neg h3 (key _ (by simp [h3]))
theorem YN (us:List Int) (hl:us.length ≤ 1048576):∀ (d i:Nat) (s:List Bool),i + d=us.length→(∀ u ∈ us,0 ≤ u∧u < (s.length:Int))→Ev (fun k=>Ye.l0 k s us (us.length:Int) (i:Int)) ((us.drop i).foldl wH s):=by
 intro d
 induction d with
 | zero =>
  intro i s hi _;obtain rfl:i=us.length:=by omega
  rw [List.drop_length];refine Ev.step (fun k=>by rw [Ye.l0]) ?_;exact Ev.neg (by omega) (Ev.now _)
 | succ d ih =>
  intro i s hi hu;have hi':i < us.length:=by omega
  obtain ⟨u0,u1⟩:=hu _ (List.getElem_mem hi');rw [List.drop_eq_getElem_cons hi',List.foldl_cons];refine Ev.step (fun k=>by rw [Ye.l0]) ?_;refine Ev.pos (by omega) (Ev.pos (by omega) (Ev.pos (by omega) ?_));rw [vm hi',Kf hi' (by omega)];exact Ev.pos u0 (Ev.pos u1 (ih (i + 1) _ (by omega) (fun u h=>by rw [List.length_set];exact hu u h)))
theorem cR (s:List Bool) (x:tf) (hx:mz s.length x):Ev (fun k=>Ye.f k s x.f0 x.f1 x.f2 x.f3 x.f4 x.f5 x.f6) (iy s x):=by
 obtain ⟨h1,h2⟩:=hx
 have hm:Am.f x.f0 x.f1 x.f2 x.f3 x.f4 x.f5 x.f6=some (RK x):=by
  unfold Am.f RK
  by_cases h4:x.f0=4
  ·rw [if_pos h4,if_pos h4]
  ·rw [if_neg h4,if_neg h4]
   by_cases h6:x.f0=6
   ·rw [if_pos h6,if_pos h6]
   ·rw [if_neg h6,if_neg h6]
 have hul:=XR x;unfold Ye.f iy;rw [hm];refine Ev.val ?_
 have tail:∀ s2:List Bool,s2.length=s.length→Ev (fun k=>Ye.j0 k s2 x.f0 x.f1 x.f2 x.f3 x.f4 x.f5 x.f6) ((Yk x).foldl wH s2):=by
  intro s2 hs2;refine Ev.step (fun k=>by rw [Ye.j0]) ?_;refine Ev.bind (SS x) ?_;have:=YN (Yk x) (by omega) (Yk x).length 0 s2 (by omega) (fun u hu=>by rw [hs2];exact h1 u hu)
  rwa [List.drop_zero] at this
 by_cases h:RK x ≥ 0
 ·rw [if_pos h]
  have hlt:RK x < (s.length:Int):=by
   have h':=h;unfold RK at h' ⊢
   by_cases h4:x.f0=4
   ·rw [if_pos h4] at h';omega
   ·rw [if_neg h4] at h' ⊢
    by_cases h6:x.f0=6
    ·rw [if_pos h6] at h';omega
    ·rw [if_neg h6];exact (h2 h4 h6).2
  exact Ev.pos h (Ev.pos h (Ev.pos hlt (tail _ (by rw [List.length_set]))))
 ·rw [if_neg h];exact Ev.neg h (tail _ rfl)
theorem mE {α:Type} (d:Kd α) (e:Nat) (w:World) (base:Nat) (h:base ≤ w.heap.size):d.R e (w.alloc (.cells #[] e (0,0))) base (fun _=>True) (.slice (some ⟨w.heap.size,0,none⟩) 0 0) []:=by
 refine ⟨fun _ _=>trivial,[],?_,⟨by simp,fun i p hp=>by simp at hp⟩⟩;have h2:=World.ownsRow_lit (base:=base) (e:=e) (size:=d.sz) w #[] 0 h (by simp [maxLen]) (by simp)
 simpa using h2
theorem qy {α:Type} {d:Kd α} {e B:Nat} {ok:Nat→Prop} {W w':World} {v:Value} {xs:List α} (h:d.R e w' W.heap.size ok v xs) (hB:B ≤ W.heap.size):d.R e w' B (fun k=>W.heap.size ≤ k∧k < w'.heap.size) v xs :=
 Kd.td (Kd.yc (Kd.Xf h) (fun _ hk=>⟨hk.2.1,hk.2.2.1⟩)) hB
theorem haa {α:Type} {d:Kd α} {e B:Nat} {ok:Nat→Prop} {W w':World} {v:Value} {xs:List α} (h:Kd.S d e w' W.heap.size ok v xs) (hB:B ≤ W.heap.size):Kd.S d e w' B (fun k=>W.heap.size ≤ k∧k < w'.heap.size) v xs :=
 Kd.mK (Kd.dn (Kd.LA h) (fun _ hk=>⟨hk.2.1,hk.2.2.1⟩)) hB
theorem ead {α:Type} {d:Kd α} {et e base g n cap i:Nat} {W:World} {ok QM:Nat→Prop} {D:List (List α)} {v:Value} {xs:List α} (h:Kd.S (Kd.slice et d) e W base (fun k=>ok k∧¬ QM k) (.slice (some ⟨g,0,none⟩) n cap) D) (hg:∀ k,QM k→ok k) (hi:i < n) (hx:Kd.R d et W base QM v xs) :
  Kd.S (Kd.slice et d) e (W.setCell ⟨g,i,none⟩ v) base ok (.slice (some ⟨g,0,none⟩) n cap) (D.set i xs)∧W.grownBy (W.setCell ⟨g,i,none⟩ v) (some g):=by
 obtain ⟨Io,c,tB,hM,My,hcf,pG,hH⟩:=Kd.DB h ([]:List α) (i:Int) (by omega) (by omega);have hH2:=Kd.tW hH hg;have Yaj:c.length=1:=tB
 obtain ⟨u,rfl⟩:∃ u,c=[u]:=by
  rcases c with _|⟨u,_|⟨u2,c⟩⟩
  ·simp at Yaj
  ·exact ⟨u,rfl⟩
  ·simp at Yaj
 have hs:=Kd.dad (d:=Kd.slice et d) hH2 (by omega) (by omega) (seg:=[v]) (j:=0) (show 0 + 1 ≤ 1 from by decide) (x':=xs) (Sh:=QM) (show (Kd.slice et d).M W base QM xs [v] from ⟨v,rfl,hx⟩) (fun k hk=>Or.inr hk);rw [Int.toNat_natCast,show i * (Kd.slice et d).sz + 0=i from by show i * 1 + 0=i;omega] at hs;exact hs
theorem mW {α:Type} {enc:α→Value} {h1:∀ x,(enc x).oneCell' = true} {et e base g n cap i s:Nat} {W:World} {ok:Nat→Prop} {D:List (List α)} (z:α) (h:Kd.S (Kd.slice et (Kd.scalar enc h1)) e W base ok (.slice (some ⟨g,0,none⟩) n cap) D) (hi:i < n) (hs:s < (D.getD i []).length) :
  ∃ (gi c:Nat),W.cell? ⟨g,i,none⟩=some (.slice (some ⟨gi,0,none⟩) (D.getD i []).length c)∧ok gi∧W.cell? ⟨gi,s,none⟩=some (enc ((D.getD i []).getD s z))∧W.frozen? ⟨gi,s,none⟩=false ∧
   ∀ x,Kd.S (Kd.slice et (Kd.scalar enc h1)) e (W.setCell ⟨gi,s,none⟩ (enc x)) base ok (.slice (some ⟨g,0,none⟩) n cap) (D.set i ((D.getD i []).set s x))∧W.grownBy (W.setCell ⟨gi,s,none⟩ (enc x)) (some gi):=by
 obtain ⟨Io,c,tB,hM,My,hcf,pG,hH⟩:=Kd.DB h ([]:List α) (i:Int) (by omega) (by omega);rw [Int.toNat_natCast] at hM My hcf;obtain ⟨v,rfl,hR⟩:=hM;obtain ⟨gi,cc,rfl,-⟩:=Kd.Kn hR (by omega);have hb:=hR.1 gi rfl;have hc0:=My 0 _ rfl;rw [show i * (Kd.slice et (Kd.scalar enc h1)).sz + 0=i from by show i * 1 + 0=i;omega] at hc0;obtain ⟨e1,e2⟩:=Kd.Br z hR (s:Int) (by omega) (by omega);rw [Int.toNat_natCast] at e1 e2;refine ⟨gi,cc,hc0,(pG gi hb).1,e1,e2,fun x=>?_⟩;obtain ⟨p1,p2⟩:=Kd.Sy hR (s:Int) x;rw [Int.toNat_natCast] at p1 p2;refine ⟨?_,p2⟩;have hH2:=Kd.W5 hH p2 (fun k hk=>by injection hk with hk;rw [← hk];exact hb);have:=Kd.vO hH2 (x':=(D.getD i []).set s x) (show (Kd.slice et (Kd.scalar enc h1)).M _ base Io ((D.getD i []).set s x) [.slice (some ⟨gi,0,none⟩) (D.getD i []).length cc] from ⟨_,rfl,p1⟩) (fun k hk=>hk)
 rwa [Int.toNat_natCast] at this
theorem uM {α:Type} (d:Kd α) (e:Nat) (w:World) (base:Nat) (h:base ≤ w.heap.size):Kd.S d e (w.alloc (.cells #[] e (0,0))) base (fun k=>k=w.heap.size) (.slice (some ⟨w.heap.size,0,none⟩) 0 0) []:=by
 have h1:=mE (Kd.tag (fun _=>0) d) e w w.heap.size (Nat.le_refl _);refine ⟨fun _=>0,Kd.td (Kd.yc (Kd.Xf h1) (fun k hk=>?_)) h⟩;obtain ⟨_,h2,h3,_⟩:=hk;simp at h3;omega
theorem jW {α:Type} {d:Kd α} {et e base g n cap i:Nat} {W:World} {P:Nat→Prop} {D:List (List α)} (h:Kd.S (Kd.slice et d) e W base P (.slice (some ⟨g,0,none⟩) n cap) D) (hi:i < n) :
  ∃ (A:Option Addr) (c:Nat),W.cell? ⟨g,i,none⟩=some (.slice A (D.getD i []).length c)∧W.frozen? ⟨g,i,none⟩=false∧Kd.R d et W base (fun k=>P k∧k ≠ g∧base ≤ k∧k < W.heap.size) (.slice A (D.getD i []).length c) (D.getD i []):=by
 obtain ⟨Io,c,tB,hM,My,hcf,pG,hH⟩:=Kd.DB h ([]:List α) (i:Int) (by omega) (by omega);rw [Int.toNat_natCast] at hM My hcf;obtain ⟨v,hc,hR⟩:=hM;obtain ⟨A,cc,rfl⟩:=Kd.Lc hR;have h1:=My 0 _ (by rw [hc];rfl);have h2:=hcf 0;rw [show i * (Kd.slice et d).sz + 0=i from by show i * 1 + 0=i;omega] at h1 h2;exact ⟨A,cc,h1,h2,Kd.yc (Kd.Xf hR) (fun k hk=>⟨(pG k hk.1).1,(pG k hk.1).2,hk.2.1,hk.2.2.1⟩)⟩
structure Hs (w:World) (o:Obj) (PB:Nat→Prop) (vX vY:Value) (X Y:List (List Bool)) (wr:World):Prop where
 bl:Below w.heap.size w wr
 hx:wr.heap[w.heap.size]? = some o
 x:Kd.S (Kd.slice 4 Kd.bool) 60 wr w.heap.size PB vX X
 y:Kd.S (Kd.slice 4 Kd.bool) 60 wr w.heap.size (fun k=>¬ PB k∧w.heap.size < k) vY Y
 pb:∀ k,PB k→w.heap.size < k∧k < wr.heap.size
section
variable {w wr W w1:World} {o:Obj} {PB:Nat→Prop} {vX vY v1:Value} {X Y:List (List Bool)} {p:List Bool}
theorem Hs.below (h:Hs w o PB vX vY X Y wr) (hb:Below wr.heap.size wr W):Hs w o PB vX vY X Y W :=
 ⟨Ma h.bl hb,Na h.hx hb,Kd.zi h.x hb,Kd.zi h.y hb,fun k hk=>⟨(h.pb k hk).1,Nat.lt_of_lt_of_le (h.pb k hk).2 hb.size⟩⟩
theorem Hs.Zaz (h:Hs w o PB vX vY X Y wr) (hb:Below wr.heap.size wr W) (hs:Kd.S (Kd.slice 4 Kd.bool) 60 w1 w.heap.size (fun k=>PB k ∨ wr.heap.size ≤ k) v1 (X ++ [p])) (hw:Below w.heap.size w w1) (hg:W.grownBy w1 vX.ownBlock) :
  Hs w o (fun k=>PB k ∨ (wr.heap.size ≤ k∧k < w1.heap.size)) v1 vY (X ++ [p]) Y w1:=by
 have h2:=h.below hb;have hsz:wr.heap.size ≤ w1.heap.size:=Nat.le_trans hb.size hg.size;have hown:∀ k,vX.ownBlock=some k→PB k:=(Kd.iT h.x).1;refine ⟨hw,?_,Kd.dn (Kd.LA hs) (fun k hk=>hk.1.imp id (fun h3=>⟨h3,hk.2.2.1⟩)),?_,fun k hk=>?_⟩
 ·exact Mc h2.hx hg (fun e=>by have:=(h.pb _ (hown _ e.symm)).1;omega)
 ·refine Kd.dn (Kd.kE (Kd.kW h.y hb) hg (fun k hk e=>hk.1.1 (hown k e.symm))) (fun k hk=>⟨fun h3=>h3.elim hk.1.1 (fun h4=>by have:=hk.2;omega),hk.1.2⟩)
 ·rcases hk with hk|hk
  ·have:=h.pb k hk;exact ⟨this.1,by omega⟩
  ·have:=Tb h.hx;exact ⟨by omega,hk.2⟩
theorem Hs.Yaz (h:Hs w o PB vX vY X Y wr) (hb:Below wr.heap.size wr W) (hs:Kd.S (Kd.slice 4 Kd.bool) 60 w1 w.heap.size (fun k=>¬ PB k∧w.heap.size < k) v1 (Y ++ [p])) (hw:Below w.heap.size w w1) (hg:W.grownBy w1 vY.ownBlock) :
  Hs w o PB vX v1 X (Y ++ [p]) w1:=by
 have h2:=h.below hb;have hown:∀ k,vY.ownBlock=some k→¬ PB k∧w.heap.size < k:=(Kd.iT h.y).1;exact ⟨hw,Mc h2.hx hg (fun e=>by have:=(hown _ e.symm).2;omega),Kd.kE h2.x hg (fun k hk e=>(hown k e.symm).1 hk),hs,fun k hk=>⟨(h2.pb k hk).1,Nat.lt_of_lt_of_le (h2.pb k hk).2 hg.size⟩⟩
end
theorem Hs.okX {w wr W:World} {o:Obj} {PB:Nat→Prop} {vX vY:Value} {X Y:List (List Bool)} (h:Hs w o PB vX vY X Y wr) (hb:Below wr.heap.size wr W):Kd.S (Kd.slice 4 Kd.bool) 60 W w.heap.size (fun k=>(PB k ∨ wr.heap.size ≤ k)∧¬ wr.heap.size ≤ k) vX X :=
 Kd.dn (Kd.kW h.x hb) (fun k hk=>⟨Or.inl hk.1,by have:=hk.2;omega⟩)
theorem Hs.neX {w wr:World} {o:Obj} {PB:Nat→Prop} {vX vY:Value} {X Y:List (List Bool)} (h:Hs w o PB vX vY X Y wr):∀ k,wr.heap.size ≤ k→(PB k ∨ wr.heap.size ≤ k)∧some k ≠ vX.ownBlock :=
 fun k hk=>⟨Or.inr hk,fun e=>by have:=(h.pb k ((Kd.iT h.x).1 k e.symm)).2;omega⟩
theorem Hs.frX {w wr W:World} {o:Obj} {PB:Nat→Prop} {vX vY:Value} {X Y:List (List Bool)} (_:Hs w o PB vX vY X Y wr) (hb:Below wr.heap.size wr W):∀ k,W.heap.size ≤ k→PB k ∨ wr.heap.size ≤ k:=fun _ hk=>Or.inr (Nat.le_trans hb.size hk)
theorem Hs.okY {w wr W:World} {o:Obj} {PB:Nat→Prop} {vX vY:Value} {X Y:List (List Bool)} (h:Hs w o PB vX vY X Y wr) (hb:Below wr.heap.size wr W):Kd.S (Kd.slice 4 Kd.bool) 60 W w.heap.size (fun k=>(¬ PB k∧w.heap.size < k)∧¬ wr.heap.size ≤ k) vY Y :=
 Kd.dn (Kd.kW h.y hb) (fun k hk=>⟨hk.1,by have:=hk.2;omega⟩)
theorem Hs.neY {w wr:World} {o:Obj} {PB:Nat→Prop} {vX vY:Value} {X Y:List (List Bool)} (h:Hs w o PB vX vY X Y wr):∀ k,wr.heap.size ≤ k→(¬ PB k∧w.heap.size < k)∧some k ≠ vY.ownBlock :=
 fun k hk=>⟨⟨fun e=>by have:=(h.pb k e).2;omega,by have:=Tb h.hx;omega⟩,fun e=>by have:=Kd.daA h.y k e.symm;omega⟩
theorem Hs.frY {w wr W:World} {o:Obj} {PB:Nat→Prop} {vX vY:Value} {X Y:List (List Bool)} (h:Hs w o PB vX vY X Y wr) (hb:Below wr.heap.size wr W):∀ k,W.heap.size ≤ k→¬ PB k∧w.heap.size < k:=fun k hk=>(h.neY k (Nat.le_trans hb.size hk)).1
theorem j7 {W:World} {base N:Nat} {ok:Nat→Prop} {v:Value} {xs:List Bool} (ho:Kd.R Kd.bool 4 W N ok v xs) (hl:base ≤ N):(Kd.slice 4 Kd.bool).M W base ok xs [v]:=⟨v,rfl,Kd.td ho hl⟩
theorem Hs.forms {w wr:World} {o:Obj} {PB:Nat→Prop} {vX vY:Value} {n m:Nat} (h:Hs w o PB vX vY (List.replicate m (List.replicate n false)) (List.replicate m (List.replicate n false)) wr) (hm:0 < m) :
  ∃ gX cX gY cY,vX = .slice (some ⟨gX,0,none⟩) m cX∧vY = .slice (some ⟨gY,0,none⟩) m cY:=by
 obtain ⟨gX,cX,e1,-⟩:=Kd.wF h.x (by rw [List.length_replicate];exact hm);obtain ⟨gY,cY,e2,-⟩:=Kd.wF h.y (by rw [List.length_replicate];exact hm);rw [List.length_replicate] at e1 e2;exact ⟨gX,cX,gY,cY,e1,e2⟩
theorem Hs.Cax {w wr:World} {o:Obj} {PB:Nat→Prop} {vY:Value} {X Y:List (List Bool)} {gX m cX i s:Nat} (h:Hs w o PB (.slice (some ⟨gX,0,none⟩) m cX) vY X Y wr) (hi:i < m) (hs:s < (Zf X i).length) :
  ∃ (gi c:Nat),wr.cell? ⟨gX,i,none⟩=some (.slice (some ⟨gi,0,none⟩) (Zf X i).length c)∧wr.cell? ⟨gi,s,none⟩=some (.bool (seen (Zf X i) s))∧wr.frozen? ⟨gi,s,none⟩=false∧PB gi ∧
   ∀ b,Hs w o PB (.slice (some ⟨gX,0,none⟩) m cX) vY (X.set i ((Zf X i).set s b)) Y (wr.setCell ⟨gi,s,none⟩ (.bool b)):=by
 obtain ⟨gi,c,h1,h2,h3,h4,h5⟩:=mW false h.x hi hs;refine ⟨gi,c,h1,h3,h4,h2,fun b=>?_⟩;obtain ⟨h6,hg⟩:=h5 b;have hb:=h.pb gi h2
 exact ⟨h.bl.grown hg (by omega) (fun k e=>by injection e with e;omega),Mc h.hx hg (fun e=>by injection e with e;omega),h6,
  Kd.kE h.y hg (fun k hk e=>by injection e with e;exact hk.1 (e ▸ h2)),fun k hk=>⟨(h.pb k hk).1,Nat.lt_of_lt_of_le (h.pb k hk).2 hg.size⟩⟩
theorem Hs.maf {w wr W:World} {o:Obj} {PB:Nat→Prop} {vX v:Value} {X Y:List (List Bool)} {gY m cY i:Nat} {ok:Nat→Prop} {xs:List Bool} (h:Hs w o PB vX (.slice (some ⟨gY,0,none⟩) m cY) X Y wr) (hb:Below wr.heap.size wr W) (hi:i < m) (hR:Kd.R Kd.bool 4 W wr.heap.size ok v xs) :
  Hs w o PB vX (.slice (some ⟨gY,0,none⟩) m cY) X (Y.set i xs) (W.setCell ⟨gY,i,none⟩ v):=by
 have h2:=h.below hb;have hl:=Tb h.hx;obtain ⟨h6,hg⟩:=ead (QM:=fun k=>wr.heap.size ≤ k) (h.okY hb) (fun k hk=>(h.neY k hk).1) hi (Kd.td (Kd.yc (Kd.Xf hR) (fun k hk=>hk.2.1)) (Nat.le_of_lt hl));have hy:=(Kd.iT h.y).1 gY rfl
 exact ⟨h2.bl.grown hg h2.bl.size (fun k e=>by injection e with e;omega),Mc h2.hx hg (fun e=>by injection e with e;omega),Kd.kE h2.x hg (fun k hk e=>by injection e with e;exact hy.1 (e ▸ hk)),h6,
  fun k hk=>⟨(h2.pb k hk).1,Nat.lt_of_lt_of_le (h2.pb k hk).2 hg.size⟩⟩
theorem Hs.yax {w wr:World} {o:Obj} {PB:Nat→Prop} {vY:Value} {X Y:List (List Bool)} {gX m cX i:Nat} (h:Hs w o PB (.slice (some ⟨gX,0,none⟩) m cX) vY X Y wr) (hi:i < m) :
  ∃ (A:Option Addr) (c:Nat),wr.cell? ⟨gX,i,none⟩=some (.slice A (Zf X i).length c)∧Kd.C Kd.bool wr A (Zf X i).length (Zf X i)∧(Zf X i).length ≤ c:=by
 obtain ⟨A,c,h1,_,h2⟩:=jW h.x hi;exact ⟨A,c,h1,(Kd.Jb h2).2.2,(Kd.Jb h2).2.1⟩
theorem Hs.RY {w wr:World} {o:Obj} {PB:Nat→Prop} {vX:Value} {X Y:List (List Bool)} {gY m cY i:Nat} (h:Hs w o PB vX (.slice (some ⟨gY,0,none⟩) m cY) X Y wr) (hi:i < m) :
  ∃ (A:Option Addr) (c:Nat),wr.cell? ⟨gY,i,none⟩=some (.slice A (Zf Y i).length c)∧wr.frozen? ⟨gY,i,none⟩=false∧(Zf Y i).length ≤ c∧Kd.C Kd.bool wr A (Zf Y i).length (Zf Y i)∧∀ W,Kept wr W PB→Kd.C Kd.bool W A (Zf Y i).length (Zf Y i):=by
 obtain ⟨A,c,h1,hf,h2⟩:=jW h.y hi;exact ⟨A,c,h1,hf,(Kd.Jb h2).2.1,(Kd.Jb h2).2.2,Kd.SF (S:=PB) h2 (fun k hk=>hk.1.1)⟩
structure LvS (bs:List Ff) (X Y:List (List Bool)) (C:Nat) (a:Bool) (q:Nat):Prop where
 le:C ≤ Sp Y
 lt:a=true→C < Sp Y
 so:a=false→∀ k,q ≤ k→k < bs.length→StE bs X Y k
structure LvR (bs:List Ff) (n:Nat) (X0 Y:List (List Bool)) (i:Nat) (X:List (List Bool)):Prop where
 inv:aG bs n X Y
 oth:∀ k,k ≠ i→Zf X k=Zf X0 k
def rY (ts:List Int) (j:Nat) (Y X:List (List Bool)) (i:Nat):Prop:=∀ t ∈ ts.take j,∀ u,seen (Zf Y t.toNat) u=true→seen (Zf X i) u=true
def TkS (t s:Nat) (Y X:List (List Bool)) (i:Nat):Prop:=∀ u,u < s→seen (Zf Y t) u=true→seen (Zf X i) u=true
section
variable {bs:List Ff} {n i s tn:Nat} {X0 X Y:List (List Bool)} {ts:List Int} {j:Nat}
theorem LvR.step (h:LvR bs n X0 Y i X) (hE:UA bs) (hi:i < bs.length) {t:Int} (ht:t ∈ Bu bs i) (htn:t=(tn:Int)) (hs:s < n) (hj:rY ts j Y X i) (hk:TkS tn s Y X i) :
  LvR bs n X0 Y i (X.set i ((Zf X i).set s (seen (Zf X i) s || seen (Zf Y tn) s)))∧rY ts j Y (X.set i ((Zf X i).set s (seen (Zf X i) s || seen (Zf Y tn) s))) i∧TkS tn (s + 1) Y (X.set i ((Zf X i).set s (seen (Zf X i) s || seen (Zf Y tn) s))) i:=by
 have hil:i < X.length:=by rw [h.inv.xl];exact hi
 have sZ:s < (Zf X i).length:=by rw [h.inv.xr i hi];exact hs
 have h1:=h.inv.or hE hi ht hs;rw [htn,Int.toNat_natCast] at h1
 have hm:∀ u,seen (Zf X i) u=true→seen (Zf (X.set i ((Zf X i).set s (seen (Zf X i) s || seen (Zf Y tn) s))) i) u=true:=fun u hu=>by
  rw [Co hil,if_pos rfl,wj sZ]
  by_cases e:s=u
  ·subst e;rw [if_pos rfl,hu];rfl
  ·rw [if_neg e];exact hu
 refine ⟨⟨h1,fun k hk=>?_⟩,fun t ht u hu=>hm u (hj t ht u hu),fun u hu hy=>?_⟩
 ·rw [Co hil,if_neg (fun e=>hk e.symm)];exact h.oth k hk
 ·by_cases e:s=u
  ·subst e;rw [Co hil,if_pos rfl,wj sZ,if_pos rfl,hy,Bool.or_true]
  ·exact hm u (hk u (by omega) hy)
theorem rY.next (h:rY ts j Y X i) (hj:j < ts.length) (ht:ts[j]=(tn:Int)) (hk:TkS tn (Zf Y tn).length Y X i):rY ts (j + 1) Y X i:=by
 intro t h1 u hu;rw [List.take_succ_eq_append_getElem hj,List.mem_append,List.mem_singleton] at h1
 rcases h1 with h1|h1
 ·exact h t h1 u hu
 ·rw [h1,ht,Int.toNat_natCast] at hu;exact hk u (fz hu) hu
theorem LvS.next {C:Nat} {a:Bool} (h:LvS bs X0 Y C a (i + 1)) (hO:PA bs n) (hi:i < bs.length) (hr:LvR bs n X0 Y i X) (hj:rY (Bu bs i) (Bu bs i).length Y X i) :
  aG bs n X (Y.set i (UE (Ia bs (i:Int)) (Zf X i)))∧LvS bs X (Y.set i (UE (Ia bs (i:Int)) (Zf X i))) C (a || !decide (UE (Ia bs (i:Int)) (Zf X i)=Zf Y i)) i:=by
 have hil:i < Y.length:=by rw [hr.inv.yl];exact hi
 refine ⟨hr.inv.put hO hi,?_⟩
 by_cases he:UE (Ia bs (i:Int)) (Zf X i)=Zf Y i
 ·have hY:Y.set i (UE (Ia bs (i:Int)) (Zf X i))=Y:=by
   rw [he];apply List.ext_getElem (by simp);intro k h1 h2;rw [List.getElem_set]
   by_cases e:i=k
   ·subst e;simp [Zf,List.getD_eq_getElem?_getD,h2]
   ·rw [if_neg e]
  rw [hY,decide_eq_true he];refine ⟨h.le,fun ha=>h.lt (by simpa using ha),fun ha k m8 hk2=>?_⟩
  by_cases e:k=i
  ·subst e;exact ⟨fun t ht u hu=>hj t (by rw [List.take_length];exact ht) u hu,he.symm⟩
  ·have:=h.so (by simpa using ha) k (by omega) hk2;unfold StE at this ⊢;rw [hr.oth k e];exact this
 ·have:=hr.inv.grow hO hi he;rw [decide_eq_false he];exact ⟨by have:=h.le;omega,fun _=>by have:=h.le;omega,fun ha=>by simp at ha⟩
end
theorem aG.cnt {bs:List Ff} {n:Nat} {X Y:List (List Bool)} (h:aG bs n X Y):Sp Y ≤ n * bs.length:=by
 have:=bK (m:=n) Y (fun i hi=>by rw [h.yr i (by rw [← h.yl];exact hi)];exact Nat.le_refl _)
 rwa [h.yl] at this
abbrev n7 (yb:Option Addr) (n0 zb:Nat) (Pa Ra:Int) (n:Nat) (fc:Option Addr) (n4 Qb:Nat):Obj:=.cells #[.slice yb n0 zb,.int .i64 Pa,.int .i64 Ra,.int .i64 (n:Int),.slice fc n4 Qb] 30 (0,0)
theorem m7 {w wr:World} {PB:Nat→Prop} {vX vY:Value} {X Y:List (List Bool)} {yb fc:Option Addr} {n0 c0 n n4 c4:Nat} {a1 a2:Int} (h:Hs w (n7 yb n0 c0 a1 a2 n fc n4 c4) PB vX vY X Y wr):wr.cell? ⟨w.heap.size,3,none⟩=some (.int .i64 (n:Int)):=(ja h.hx 3).trans rfl
theorem lU {w wr:World} {PB:Nat→Prop} {vX vY:Value} {X Y:List (List Bool)} {yb fc:Option Addr} {n0 c0 n n4 c4:Nat} {a1 a2:Int} (h:Hs w (n7 yb n0 c0 a1 a2 n fc n4 c4) PB vX vY X Y wr):wr.cell? ⟨w.heap.size,4,none⟩=some (.slice fc n4 c4):=(ja h.hx 4).trans rfl
theorem jZ {bs:List Ff} (hE:UA bs) {b j:Nat} (hb:b < bs.length) (hj:j < (Bu bs b).length) {A:Option Addr} {W:World} (hC:Kd.C (Kd.int .i64) W A (Bu bs b).length (Bu bs b)) :
  ∃ (ad:Addr) (t:Nat),A=some ad∧(Bu bs b)[j]=(t:Int)∧t < bs.length∧W.cell? (ad.add j)=some (.int .i64 (t:Int)):=by
 obtain ⟨t0,t1⟩:=hE.2.2 b hb _ (List.getElem_mem hj);obtain ⟨ad,e1,hx⟩:=Kd.Bm hC (j:Int) (by omega) (by omega);rw [Int.toNat_natCast,vm hj] at hx;exact ⟨ad,((Bu bs b)[j]).toNat,e1,(Int.toNat_of_nonneg t0).symm,by omega,by rw [Int.toNat_of_nonneg t0];exact hx⟩
theorem kZ {xs:List Bool} {A:Option Addr} {W:World} {s:Nat} (hC:Kd.C Kd.bool W A xs.length xs) (hs:s < xs.length):∃ ad:Addr,A=some ad∧W.cell? (ad.add s)=some (.bool (seen xs s)):=by
 obtain ⟨ad,e1,hx⟩:=Kd.wu hC (s:Int) (by omega) (by omega);rw [Int.toNat_natCast] at hx;exact ⟨ad,e1,hx⟩
def eT (code:List tf) (q:Nat) (s:List Bool):List Bool:=(code.drop q).foldr (fun x s=>iy s x) s
theorem qR (code:List tf) (q:Nat) (s:List Bool):(eT code q s).length=s.length:=BB _ _
theorem rR (code:List tf) (s:List Bool):eT code code.length s=s:=by unfold eT;rw [List.drop_length];rfl
theorem lM {code:List tf} {q:Nat} (h:q < code.length) (s:List Bool):eT code q s=iy (eT code (q + 1) s) (Ga code (q:Int)):=by
 unfold eT;rw [List.drop_eq_getElem_cons h,List.foldr_cons,nk h]
theorem cW (b:Ff) (s:List Bool):eT b.f0 0 (Gu b s)=UE b s:=rfl
theorem lB {bs:List Ff} {n i:Nat} (hO:PA bs n) (hi:i < bs.length):lC n (Ia bs (i:Int)):=by
 rw [ng hi];exact hO.2.2 _ (List.getElem_mem hi)
theorem DH {n q:Nat} {b:Ff} (h:lC n b) (hq:q < b.f0.length):mz n (Ga b.f0 (q:Int)):=by
 rw [nk hq];exact h.2.2 _ (List.getElem_mem hq)
theorem lad {W:World} {base n c u:Nat} {ok:Nat→Prop} {A:Option Addr} {xs:List Bool} (h:Kd.R Kd.bool 4 W base ok (.slice A n c) xs) (hu:u < xs.length) :
  ∃ g,A=some ⟨g,0,none⟩∧base ≤ g∧W.cell? ⟨g,u,none⟩=some (.bool (seen xs u))∧W.frozen? ⟨g,u,none⟩=false∧∀ b,Kd.R Kd.bool 4 (W.setCell ⟨g,u,none⟩ (.bool b)) base ok (.slice A n c) (xs.set u b)∧W.grownBy (W.setCell ⟨g,u,none⟩ (.bool b)) (some g):=by
 obtain ⟨g,cap,e,hb,-⟩:=Kd.Kn h (by omega);injection e with e1 e2 e3
 subst e1;obtain ⟨r1,r2⟩:=Kd.Br false h (u:Int) (by omega) (by omega);rw [Int.toNat_natCast] at r1 r2;refine ⟨g,rfl,hb,r1,r2,fun b=>?_⟩;have:=Kd.Sy h (u:Int) b
 rwa [Int.toNat_natCast] at this
end Go.Proofs.Ytkigbdceceeenaa.P
end
section
namespace Go.Proofs.Ytkigbdceceeenaa.P
open Go.RowKit Go.Proofs.Oa.Rb Go.Proofs.Oa.Pd Go.Proofs.Oa.Re
set_option linter.unusedVariables false
set_option linter.unusedSimpArgs false
theorem GG {i:Nat} (h:i ≤ 1048576):wrap64 ((i:Int) - 1)=(i:Int) - 1:=by unfold wrap64;omega
theorem succ_pred (i:Nat):((i + 1:Nat):Int) - 1=(i:Int):=by omega
theorem maa (X:List (List Bool)) (i:Nat):Rl X (i:Int)=Zf X i:=by unfold Rl Zf;rw [Int.toNat_natCast]
def Yc (s:List Bool) (m:Nat):List Int:=((List.range m).filter (fun i=>seen s i)).map (fun (i:Nat)=>(i:Int))
theorem jS {s:List Bool} {m:Nat} (h:seen s m=true):Yc s (m + 1)=Yc s m ++ [(m:Int)]:=by
 unfold Yc;rw [List.range_succ,List.filter_append,List.map_append];simp [h]
theorem kS {s:List Bool} {m:Nat} (h:¬ seen s m=true):Yc s (m + 1)=Yc s m:=by
 unfold Yc;rw [List.range_succ,List.filter_append,List.map_append];simp [h]
theorem kB (s:List Bool) (m:Nat):(Yc s m).length ≤ m:=by
 unfold Yc;rw [List.length_map];exact Nat.le_trans (List.length_filter_le _ _) (Nat.le_of_eq List.length_range)
theorem wG (s:List Bool) (hm:s.length ≤ 1048576):∀ (d i:Nat),i + d=s.length→Ev (fun k=>bf.l0 k (Yc s i) s (s.length:Int) (i:Int)) (Yc s s.length):=by
 intro d
 induction d with
 | zero =>
  intro i hi;obtain rfl:i=s.length:=by omega
  refine Ev.step (fun k=>by rw [bf.l0]) ?_;exact Ev.neg (by omega) (Ev.now _)
 | succ d ih =>
  intro i hi;have hl:=kB s i;have h:=ih (i + 1) (by omega);refine Ev.step (fun k=>by rw [bf.l0]) ?_;refine Ev.pos (by omega) (Ev.pos (by omega) (Ev.pos (by omega) ?_));rw [WT,Kf (show i < s.length by omega) (by omega)]
  by_cases hs:seen s i=true
  ·rw [jS hs] at h;exact Ev.pos hs (Ev.pos (by omega) h)
  ·rw [kS hs] at h;exact Ev.neg hs h
theorem UN (s:List Bool) (hm:s.length ≤ 1048576):Ev (fun k=>bf.f k s) (Yc s s.length):=wG s hm s.length 0 (by omega)
theorem UJ (b:Ff) (s:List Bool) (hb:lC s.length b) (x:List Bool) (hx:x.length=s.length):∀ (q:Nat),q ≤ b.f0.length→Ev (fun k=>yg.l0 k (eT b.f0 q x) b.f0 ((q:Int) - 1)) (eT b.f0 0 x):=by
 intro q
 induction q with
 | zero =>
  intro _;refine Ev.step (fun k=>by rw [yg.l0]) ?_;exact Ev.neg (by omega) (Ev.now _)
 | succ q ih =>
  intro hq;have h1:=hb.1;have he:=cR (eT b.f0 (q + 1) x) (Ga b.f0 (q:Int)) (by rw [qR,hx];exact DH hb (by omega));rw [← lM (by omega)] at he;refine Ev.step (fun k=>by rw [yg.l0]) ?_;rw [succ_pred];refine Ev.pos (by omega) (Ev.pos (by omega) (Ev.pos (by omega) (Ev.bind he ?_)));rw [GG (by omega)];exact ih (by omega)
theorem vN {bs:List Ff} {n i:Nat} (hO:PA bs n) (hi:i < bs.length) (X:List (List Bool)) (hX:X.length=bs.length) (hr:(Zf X i).length=n) (l0:List Int) (p v s:Int):Pj.f l0 p v s bs X (i:Int)=some (Gu (Ia bs (i:Int)) (Zf X i)):=by
 have hb:=lB hO hi;have hn:=hO.2.1;unfold Pj.f Gu;rw [maa,Option.bind_some,if_pos (by omega),if_pos (by omega),if_pos (by simp;omega),Option.bind_some,List.nil_append,if_pos (by omega)]
 by_cases hf:(Ia bs (i:Int)).f1=0
 ·rw [if_pos hf,if_pos hf]
 ·have:=hb.2.1 hf;rw [if_neg hf,if_neg hf,if_pos (by omega),if_pos (by omega)]
theorem US {bs:List Ff} {n i:Nat} (hO:PA bs n) (hi:i < bs.length) (X:List (List Bool)) (hX:X.length=bs.length) (hr:(Zf X i).length=n) (l0:List Int) (p v s:Int):Ev (fun k=>yg.f k l0 p v s bs X (i:Int)) (UE (Ia bs (i:Int)) (Zf X i)):=by
 have hb:=lB hO hi;have hl:=UJ (Ia bs (i:Int)) (Zf X i) (by rw [hr];exact hb) (Gu (Ia bs (i:Int)) (Zf X i)) (jz _ _) _ (Nat.le_refl _);rw [rR,cW] at hl;unfold yg.f;refine Ev.bind (Ev.here (vN hO hi X hX hr l0 p v s)) ?_;refine Ev.pos (by omega) (Ev.pos (by omega) ?_);rw [GG hb.1];exact hl
structure SpI (bs:List Ff) (n:Nat) (X:List (List Bool)):Prop where
 len:X.length=bs.length
 row:∀ i,i < bs.length→(Zf X i).length=n
 so:∀ i u,i < bs.length→seen (Zf X i) u=true→LB bs u i
def StS (bs:List Ff) (X:List (List Bool)) (i:Nat):Prop:=∀ t ∈ Bu bs i,∀ u,seen (UE (Ia bs t) (Zf X t.toNat)) u=true→seen (Zf X i) u=true
structure SpP (bs:List Ff) (n:Nat) (X0 X:List (List Bool)) (a:Bool):Prop where
 inv:SpI bs n X
 le:Sp X0 ≤ Sp X
 lt:a=true→Sp X0 < Sp X
 eq:a=false→X=X0
section
variable {bs:List Ff} {n:Nat} {X0 X:List (List Bool)} {a:Bool}
theorem SpP.put (h:SpP bs n X0 X a) {i s:Nat} (hi:i < bs.length) (hs:s < n) (hb:LB bs s i) (hns:¬ seen (Zf X i) s=true):SpP bs n X0 (X.set i ((Zf X i).set s true)) true:=by
 have hil:i < X.length:=by rw [h.inv.len];exact hi
 have sZ:s < (Zf X i).length:=by rw [h.inv.row i hi];exact hs
 have h1:=nF X i ((Zf X i).set s true) hil
 have h2:=(fO (Zf X i) ((Zf X i).set s true) (by rw [List.length_set]) (fun u hu=>by
  rw [wj sZ]
  by_cases e:s=u
  ·rw [if_pos e]
  ·rw [if_neg e];exact hu)).2 (fun e=>hns (by rw [e,wj sZ,if_pos rfl]))
 have h3:=h.le;refine ⟨⟨by rw [List.length_set];exact h.inv.len,fun k hk=>?_,fun k u hk hu=>?_⟩,by omega,fun _=>by omega,fun e=>by cases e⟩
 ·rw [Co hil]
  by_cases e:i=k
  ·rw [if_pos e,List.length_set];exact h.inv.row i hi
  ·rw [if_neg e];exact h.inv.row k hk
 ·rw [Co hil] at hu
  by_cases e:i=k
  ·subst e;rw [if_pos rfl,wj sZ] at hu
   by_cases e2:s=u
   ·subst e2;exact hb
   ·rw [if_neg e2] at hu;exact h.inv.so i u hk hu
  ·rw [if_neg e] at hu;exact h.inv.so k u hk hu
theorem SpI.done (h:SpI bs n X) (hO:PA bs n) (hst:∀ i,i < bs.length→StS bs X i):X=Qm bs n:=by
 have hE:=hO.1
 have key:∀ u i,LB bs u i→i < bs.length→seen (Zf X i) u=true:=by
  intro u i hl
  have turn:∀ (i:Nat) (t:Int),i < bs.length→t ∈ Bu bs i→oY u (Ia bs t) (seen (Zf X t.toNat) u)=true→seen (Zf X i) u=true:=by
   intro i t hi ht h1;obtain ⟨t0,t1⟩:=hE.2.2 i hi t ht;have htn:t.toNat < bs.length:=by omega
   have hb:=lB hO htn;rw [Int.toNat_of_nonneg t0] at hb;refine hst i hi t ht u ?_;rw [kz (by rw [h.row _ htn];exact hb)];exact h1
  induction hl with
  | @gen i t ht h1 =>
   intro hi;exact turn i t hi ht (Wu (fun hf=>by cases hf) h1)
  | @step i t ht h1 _ ih =>
   intro hi;obtain ⟨t0,t1⟩:=hE.2.2 i hi t ht;exact turn i t hi ht (Wu (fun _=>ih (by omega)) h1)
 apply List.ext_getElem
 ·rw [h.len,mB]
 ·intro i h1 h2;have hi:i < bs.length:=by rw [← h.len];exact h1
  have e1:X[i]=Zf X i:=by simp [Zf,List.getD_eq_getElem?_getD,h1]
  have e2:(Qm bs n)[i]=Pm bs n i:=by simp [Qm]
  rw [e1,e2];refine jL (by rw [h.row i hi,Em]) (fun u=>?_)
  constructor
  ·intro hu;have hun:u < n:=by have:=fz hu;rw [h.row i hi] at this;exact this
   exact (Ro hun).2 (h.so i u hi hu)
  ·intro hu;have hun:u < n:=by have:=fz hu;rw [Em] at this;exact this
   exact key u i ((Ro hun).1 hu) hi
theorem SpI.start (bs:List Ff) (n:Nat):SpI bs n (List.replicate bs.length (List.replicate n false)) :=
 ⟨(aG.start bs n).xl,(aG.start bs n).xr,(aG.start bs n).xs⟩
theorem SpI.cnt (h:SpI bs n X):Sp X ≤ n * bs.length:=by
 have:=bK (m:=n) X (fun i hi=>by rw [h.row i (by rw [← h.len];exact hi)];exact Nat.le_refl _)
 rwa [h.len] at this
end
section
variable {bs:List Ff} {n:Nat} (l0:List Int) (p v:Int) {R:List (List Bool)} {X0:List (List Bool)}
end
end Go.Proofs.Ytkigbdceceeenaa.P
end
section
namespace Go.Proofs.Ytkigbdceceeenaa.P
open Go.RowKit Go.Proofs.Oa.Rb Go.Proofs.Oa.Pd Go.Proofs.Oa.Re
set_option linter.unusedVariables false
set_option linter.unusedSimpArgs false
end Go.Proofs.Ytkigbdceceeenaa.P
end
