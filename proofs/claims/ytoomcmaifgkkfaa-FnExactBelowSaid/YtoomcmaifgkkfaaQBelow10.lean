import Derived.Test.YtoomcmaifgkkfaaQBelow1
import Derived.Test.YtoomcmaifgkkfaaQBelow6
import Derived.Test.YtoomcmaifgkkfaaQBelow8
import Derived.Test.YtoomcmaifgkkfaaQBelow9
set_option maxHeartbeats 8000000
set_option maxRecDepth 100000
namespace Go.Proofs.Ytoomcmaifgkkfaa.P
open Go.RowKit Go.Proofs.Ia.Qb Go.Proofs.Ia.Dd Go.Proofs.Ia.ze
attribute [local go_sem] Eh Ch Ji Ii Jg Ig Dh Bh
set_option linter.unusedVariables false
set_option linter.unusedSimpArgs false
mutual
def Gb.l0:Nat→List Int→List Int→List Int→List Int→Int→Int→Int→List (jf)→Option (List Int)
 | 0,_,_,_,_,_,_,_,_=>none
 | k + 1,x3,x4,x5,Sc,Tc,Rc,Qc,Xb=>if (x5.length:Int) > 0 then (if 0 < (x5.length:Int) then (if 0 ≤ (rd x5 0) then (if (rd x5 0) < (Xb.length:Int) then ((Cg.f ((Sa Xb (rd x5 0)).f0) ((Sa Xb (rd x5 0)).f1) ((Sa Xb (rd x5 0)).f2) ((Sa Xb (rd x5 0)).f3) ((Sa Xb (rd x5 0)).f4)).bind fun t115=>(if 1 ≤ (x5.length:Int) then (Gb.l1 k x3 x4 (x5.drop (1:Int).toNat) t115 0 Sc Tc Rc Qc Xb) else (none))) else (none)) else (none)) else (none)) else (Gb.l2 k x3 x4 0)
def Gb.l1:Nat→List Int→List Int→List Int→List Int→Int→List Int→Int→Int→Int→List (jf)→Option (List Int)
 | 0,_,_,_,_,_,_,_,_,_,_=>none
 | k + 1,x3,x4,x5,x6,x7,Sc,Tc,Rc,Qc,Xb=>if x7 < (x6.length:Int) then (if 0 ≤ x7 then (if 0 ≤ (rd x6 x7) then (if (rd x6 x7) < (x4.length:Int) then (if (rd x4 (rd x6 x7))=0 then (if x5.length < 17592186044416 then (Gb.l1 k x3 (x4.set ((rd x6 x7):Int).toNat 1) (x5 ++ [rd x6 x7]) x6 (wrap64 (x7 + 1)) Sc Tc Rc Qc Xb) else (none)) else (Gb.l1 k x3 x4 x5 x6 (wrap64 (x7 + 1)) Sc Tc Rc Qc Xb)) else (none)) else (none)) else (none)) else (Gb.l0 k x3 x4 x5 Sc Tc Rc Qc Xb)
def Gb.l2:Nat→List Int→List Int→Int→Option (List Int)
 | 0,_,_,_=>none
 | k + 1,x3,x4,x8=>if x8 < (x4.length:Int) then (if 0 ≤ x8 then (if (rd x4 x8)=1 then (if x3.length < 17592186044416 then (Gb.l2 k (x3 ++ [x8]) x4 (wrap64 (x8 + 1))) else (none)) else (Gb.l2 k x3 x4 (wrap64 (x8 + 1)))) else (none)) else (some x3)
end
def Gb.f (k:Nat) (Oa:List Int) (Ka:Int) (Pa:Int) (Ja:Int) (Ga:List (jf)):Option (List Int):=(some (([]:List Int):List Int)).bind fun qe=>((Ua.f k Oa Ka Pa Ja Ga).bind fun t105=>(if t105=true then ((qd.f k (Ga.length:Int)).bind fun t106=>(if 0 < (t106.length:Int) then (Gb.l0 k qe (t106.set (0:Int).toNat 1) (([0]:List Int)) Oa Ka Pa Ja Ga) else (none))) else (some qe)))
def Gb.T8:Bool × List (List Nat × List Nat):=(true,[([],[]),([0],[0]),([],[]),([2],[2]),([3],[3]),([1,4],[1,4]),([5],[5]),([6],[6]),([7,7,0,1,2,3,4,5,6,7],[7])])
def Gb.B8:List Nat:=[0,1,0,4,12,31,63,127,255]
theorem Gb.bal:Wk .any (opsOf Try.f68 8)=Gb.T8:=by kernel_rfl
theorem Gb.Xaa:Yj Gb.T8.2 Gb.B8=true:=by kernel_rfl
theorem Gb.calls (k:Nat) (yb:Option Addr) (xb:Nat) (Oa:List Int) (Ka:Int) (Pa:Int) (Ja:Int) (Rb:Option Addr) (Ib:Nat) (Ga:List (jf)) (r:List Int) (w:World) (fe:Kd.C (Kd.int .i64) w yb Oa.length Oa) (Yd:Oa.length ≤ xb) (Ff:Kd.C Po w Rb Ga.length Ga) (Hf:Ga.length ≤ Ib) (h:Gb.f k Oa Ka Pa Ja Ga=some r) :
  Calls Try.prog 68 #[.agg #[.slice yb Oa.length xb,.int .i64 Ka,.int .i64 Pa,.int .i64 Ja,.slice Rb Ga.length Ib]] w fun e w'=>∃ Pm:Value,e = .returned (Pm)∧Kd.R (Kd.int .i64) 3 w' w.heap.size (fun _=>True) Pm r∧Below w.heap.size w w':=by
 have KA:=Try.underlying45;have Iz:=Try.underlying83;have Qe:=ga.mk fe;have gf:=ga.mk Yd;clear fe Yd;have ug:=ga.mk Ff;have Kh:=ga.mk Hf;clear Ff Hf;have HB:=ga.mk (Below.refl w.heap.size w);have H:((some (([]:List Int):List Int)).bind fun qe=>((Ua.f k Oa Ka Pa Ja Ga).bind fun t105=>(if t105=true then ((qd.f k (Ga.length:Int)).bind fun t106=>(if 0 < (t106.length:Int) then (Gb.l0 k qe (t106.set (0:Int).toNat 1) (([0]:List Int)) Oa Ka Pa Ja Ga) else (none))) else (some qe))))=some r:=h;clear h;obtain ⟨qe,jg⟩:∃ y_:List Int,y_=(([]:List Int)):=⟨_,rfl⟩;replace H:((Ua.f k Oa Ka Pa Ja Ga).bind fun t105=>(if t105=true then ((qd.f k (Ga.length:Int)).bind fun t106=>(if 0 < (t106.length:Int) then (Gb.l0 k qe (t106.set (0:Int).toNat 1) (([0]:List Int)) Oa Ka Pa Ja Ga) else (none))) else (some qe)))=some r:=by first|(rw [jg];with_reducible exact H)|(have Od:=(Option.bind_some _ _).symm.trans H;rw [jg];with_reducible exact Od)|(have Od:=(Option.bind_some _ _).symm.trans H;with_reducible exact Od)|with_reducible exact H|(rw [jg];exact H)|exact H
 have Aj:=ga.mk jg;clear jg;replace H:=Option.bind_eq_some_iff.mp H;obtain ⟨t105,bN,H⟩:=H;replace H:(if t105=true then ((qd.f k (Ga.length:Int)).bind fun t106=>(if 0 < (t106.length:Int) then (Gb.l0 k qe (t106.set (0:Int).toNat 1) (([0]:List Int)) Oa Ka Pa Ja Ga) else (none))) else (some qe))=some r:=H;have A2:=ga.mk bN;clear bN
 by_cases c3:t105=true
 ·subst c3;have H1:((qd.f k (Ga.length:Int)).bind fun t106=>(if 0 < (t106.length:Int) then (Gb.l0 k qe (t106.set (0:Int).toNat 1) (([0]:List Int)) Oa Ka Pa Ja Ga) else (none)))=some r:=by rw [if_pos rfl] at H;exact H
  clear H;have H:=H1;clear H1;replace H:=Option.bind_eq_some_iff.mp H;obtain ⟨t106,CQ,H⟩:=H;replace H:(if 0 < (t106.length:Int) then (Gb.l0 k qe (t106.set (0:Int).toNat 1) (([0]:List Int)) Oa Ka Pa Ja Ga) else (none))=some r:=H;have A4:=ga.mk CQ;clear CQ
  by_cases c5:0 < (t106.length:Int)
  ·rw [if_pos c5] at H;have Il:decide (0 < (t106.length:Int))=true:=decide_eq_true c5;have sx:decide (0 < t106.length)=true:=decide_eq_true (by omega);clear c5;obtain ⟨UE,ur⟩:∃ y_:List Int,y_=(t106.set (0:Int).toNat 1):=⟨_,rfl⟩;replace H:(Gb.l0 k qe UE (([0]:List Int)) Oa Ka Pa Ja Ga)=some r:=by first|(rw [ur];with_reducible exact H)|(have Od:=(Option.bind_some _ _).symm.trans H;rw [ur];with_reducible exact Od)|(have Od:=(Option.bind_some _ _).symm.trans H;with_reducible exact Od)|with_reducible exact H|(rw [ur];exact H)|exact H
   have nQ:=ga.mk ur;clear ur;obtain ⟨mN,tr⟩:∃ y_:List Int,y_=(([0]:List Int)):=⟨_,rfl⟩;replace H:(Gb.l0 k qe UE mN Oa Ka Pa Ja Ga)=some r:=by first|(rw [tr];with_reducible exact H)|(have Od:=(Option.bind_some _ _).symm.trans H;rw [tr];with_reducible exact Od)|(have Od:=(Option.bind_some _ _).symm.trans H;with_reducible exact Od)|with_reducible exact H|(rw [tr];exact H)|exact H
   have PG:=ga.mk tr;clear tr;have H':=ga.mk H;clear H;go_enter Try.func68,Try.ntmps68;go_wp2_with (first|((with_reducible refine Db (N:=1) rfl ?_);refine Lb ?hg (N:=1) ?hd (cs:=#[.slice yb Oa.length xb,.int .i64 Ka,.int .i64 Pa,.int .i64 Ja,.slice Rb Ga.length Ib]) (t:=45) ?hr ?_;(case hd=>rfl);(case hg=>rfl);(case hr=>first|(go_simp;done)|(go_simp;rfl));intro za hg w7 Tb hb;have Jb:=ga.mk (Ra (by repeat (first|(with_reducible first|exact HB.out|apply oa|apply ia|apply qa)|exact HB.out)) hb);have Ob:=ga.mk (Tb);have Vb:=ga.mk ((by rw [hg];exact (La (by repeat (first|(with_reducible first|exact HB.out|apply oa|apply ia|apply qa)|exact HB.out))):w.heap.size ≤ za));have uc:=ga.mk ((by rw [hg];exact (La (by repeat (first|(with_reducible first|exact HB.out|apply oa|apply ia|apply qa)|exact HB.out))):w.heap.size ≤ za));clear HB;have HB:=Jb;have ta:=Ob;have ue:=Vb;have Ta:=uc;clear Jb Ob Vb uc hb Tb hg)|((with_reducible refine Db (N:=9) rfl ?_);refine Kd.Tk (Kd.int .i64) _ 3 ?hg (N:=9) ?hd (xs:=([]:List Int)) (inner:=[]) (ok:=fun _=>True) (Ah:=fun _=>True) ?hr ?hp (fun _ hk=>hk) trivial (Below.refl _ _) (Nat.le_refl _) (by simp) ?_;(case hd=>rfl);(case hg=>rfl);(case hr=>first|(go_simp;done)|(go_simp;rfl));(case hp=>exact (Ld.none _ _));intro Sh w8 tO hb Um Gf;clear Um Gf;(first|rw [← Aj.out] at tO|(simp only [Int.reduceToNat] at tO;rw [← Aj.out] at tO));have Jb:=ga.mk (Kd.Fe tO (La (by repeat (first|(with_reducible first|exact HB.out|apply oa|apply ia|apply qa|refine ua ?_ Ta.out)|exact HB.out))));have Ob:=ga.mk (Va (g:=za) (o:=.cells #[.slice yb Oa.length xb,.int .i64 Ka,.int .i64 Pa,.int .i64 Ja,.slice Rb Ga.length Ib] 45 (0,0)) (by (with_reducible repeat (first|refine Da ?_ _|refine Ea ?_|refine Ca ?_ _));exact ta.out) hb);have Vb:=ga.mk (Ra (by repeat (first|(with_reducible first|exact HB.out|apply oa|apply ia|apply qa|refine ua ?_ Ta.out)|exact HB.out)) hb);clear ta HB;have dg:=Jb;have ta:=Ob;have HB:=Vb;clear Jb Ob Vb hb tO;have Nj:w8.cell? ⟨za,0,none⟩=some (.slice yb Oa.length xb):=(ja ta.out 0).trans rfl;have Mj:w8.cell? ⟨za,1,none⟩=some (.int .i64 Ka):=(ja ta.out 1).trans rfl;have Lj:w8.cell? ⟨za,2,none⟩=some (.int .i64 Pa):=(ja ta.out 2).trans rfl;have Kj:w8.cell? ⟨za,3,none⟩=some (.int .i64 Ja):=(ja ta.out 3).trans rfl;have Jj:w8.cell? ⟨za,4,none⟩=some (.slice Rb Ga.length Ib):=(ja ta.out 4).trans rfl;have Ij:=aa ta.out 0;have Hj:=aa ta.out 1;have Gj:=aa ta.out 2;have Fj:=aa ta.out 3;have Ej:=aa ta.out 4)|((with_reducible refine zb (f:=66) rfl ?_);refine Fc (some 11) rfl rfl Try.func66 (by kernel_rfl) rfl #[.agg #[.slice yb Oa.length xb,.int .i64 Ka,.int .i64 Pa,.int .i64 Ja,.slice Rb Ga.length Ib]] rfl (by (try simp only [List.map_toArray,List.map_cons,List.map_nil]);first|done|rfl|(simp only [List.length_drop,List.length_take];rfl)) ?_;(with_reducible refine (Ua.calls k _ _ Oa Ka Pa Ja _ _ Ga true _ ?Ic ?Gc ?ee ?Zd A2.out).mono ?_);(case Ic=>repeat (first|exact (Kd.Mb Qe.out HB.out)|(with_reducible refine Kd.ec ?_ _)|(with_reducible refine Kd.dc ?_ _)|(with_reducible refine Kd.Dc ?_)));(case Gc=>exact gf.out);(case ee=>repeat (first|exact (Kd.Mb ug.out HB.out)|(with_reducible refine Kd.ec ?_ _)|(with_reducible refine Kd.dc ?_ _)|(with_reducible refine Kd.Dc ?_)));(case Zd=>exact Kh.out);rintro e Ti ⟨rfl,hb⟩;refine ⟨_,rfl,?_⟩;have Jb:=ga.mk (Kd.ld (by (with_reducible repeat (first|apply Kd.Xa|apply Kd.Wa|apply Kd.qb));exact dg.out) hb);have Ob:=ga.mk (Va (g:=za) (o:=.cells #[.slice yb Oa.length xb,.int .i64 Ka,.int .i64 Pa,.int .i64 Ja,.slice Rb Ga.length Ib] 45 (0,0)) (by (with_reducible repeat (first|refine Da ?_ _|refine Ea ?_|refine Ca ?_ _));exact ta.out) hb);have Vb:=ga.mk (Ra (by repeat (first|(with_reducible first|exact HB.out|apply oa|apply ia|apply qa|refine ua ?_ Ta.out)|exact HB.out)) hb);clear dg ta HB;have dg:=Jb;have ta:=Ob;have HB:=Vb;clear Jb Ob Vb;(try clear hb);(try clear mj);(try clear hk);(try clear hi);have qo:Ti.cell? ⟨za,0,none⟩=some (.slice yb Oa.length xb):=(ja ta.out 0).trans rfl;have oo:Ti.cell? ⟨za,1,none⟩=some (.int .i64 Ka):=(ja ta.out 1).trans rfl;have mo:Ti.cell? ⟨za,2,none⟩=some (.int .i64 Pa):=(ja ta.out 2).trans rfl;have jo:Ti.cell? ⟨za,3,none⟩=some (.int .i64 Ja):=(ja ta.out 3).trans rfl;have fo:Ti.cell? ⟨za,4,none⟩=some (.slice Rb Ga.length Ib):=(ja ta.out 4).trans rfl;have Vn:=aa ta.out 0;have Un:=aa ta.out 1;have Tn:=aa ta.out 2;have Sn:=aa ta.out 3;have Rn:=aa ta.out 4)|((with_reducible refine zb (f:=90) rfl ?_);refine Fc (some 17) rfl rfl Try.func90 (by kernel_rfl) rfl #[.int .i64 (Ga.length:Int)] rfl (by (try simp only [List.map_toArray,List.map_cons,List.map_nil]);first|done|rfl|(simp only [List.length_drop,List.length_take];rfl)) ?_;(with_reducible refine (qd.calls k (Ga.length:Int) t106 _ A4.out).mono ?_);rintro e OE ⟨v107,rfl,qj,hb⟩;refine ⟨_,rfl,?_⟩;have Jb:=ga.mk (Kd.si (by (with_reducible repeat (first|apply Kd.Xa|apply Kd.Wa|apply Kd.qb));exact dg.out) (Kd.xh qj) hb);have Ob:=ga.mk (Kd.Fe (Kd.Kk qj (Kd.Km (by (with_reducible repeat (first|apply Kd.Xa|apply Kd.Wa|apply Kd.qb));exact dg.out))) (La (by repeat (first|(with_reducible first|exact HB.out|apply oa|apply ia|apply qa|refine ua ?_ Ta.out)|exact HB.out))));have Vb:=ga.mk (Va (g:=za) (o:=.cells #[.slice yb Oa.length xb,.int .i64 Ka,.int .i64 Pa,.int .i64 Ja,.slice Rb Ga.length Ib] 45 (0,0)) (by (with_reducible repeat (first|refine Da ?_ _|refine Ea ?_|refine Ca ?_ _));exact ta.out) hb);have uc:=ga.mk (Ra (by repeat (first|(with_reducible first|exact HB.out|apply oa|apply ia|apply qa|refine ua ?_ Ta.out)|exact HB.out)) hb);clear dg ta HB;have dg:=Jb;have Uk:=Ob;have ta:=Vb;have HB:=uc;clear Jb Ob Vb uc;(try clear hb);(try clear mj);(try clear hk);(try clear hi);(try clear qj);have p6:0 ≤ (0:Int):=(by omega);have q6:(0:Int) < ((t106.length:Int):Int):=of_decide_eq_true (by first|(with_reducible assumption)|assumption);have qi6:(0 < t106.length)=True:=eq_true (by omega);obtain ⟨Cr,dw,eo6,gb6,gl6,cl6,HG6⟩:=Kd.Vj Uk.out (by omega);(first|cases eo6|(injection eo6 with Oj dy ey;(first|subst Oj|(injection Oj with Oj;subst Oj));subst ey;clear dy));have GB6:=ga.mk gb6;have GG6:=ga.mk HG6;clear gb6 gl6 HG6;obtain ⟨kB,KO⟩:=Kd.Xg 0 Uk.out (0:Int) p6 q6;(try rw [show ((0:Int)).toNat=0 from rfl] at kB);(try simp only [Nat.reduceMul,Nat.zero_mul,Nat.zero_add,Nat.reduceAdd] at kB);(try rw [show ((0:Int)).toNat=0 from rfl] at KO);(try simp only [Nat.reduceMul,Nat.zero_mul,Nat.zero_add,Nat.reduceAdd] at KO);replace p6:=eq_true p6;replace q6:=eq_true q6;have n_:=ga.mk (Kd.Bc (vn:=(fun k_=>some k_ ≠ (Sh:Value).ownBlock)) Uk.out (fun k_ hk=>hk.2));clear Uk;have Uk:=n_;clear n_;obtain ⟨PV,OV⟩:=Kd.Xg 0 Uk.out (0:Int) (by omega) (of_decide_eq_true (by first|(with_reducible assumption)|assumption));(try simp only [Int.reduceToNat,Int.toNat_zero,Int.toNat_ofNat,Nat.reduceMul,Nat.zero_mul,Nat.zero_add] at PV OV);(try rw [show ((0:Int)).toNat=0 from rfl] at PV);(try rw [show ((0:Int)).toNat=0 from rfl] at OV);have aJ:=Kd.Zk Uk.out (0:Int) 1)|((with_reducible refine Le (t:=3) (p:=19) rfl ?_);refine ke (t:=3) (p:=19) (v:=?OX) (w1:=(OE.setCell ⟨Cr,(0:Int).toNat,none⟩ (.int .i64 1))) ?hg ?ho ?hn ?hr ?_;(case ho=>rfl);(case hg=>rfl);(case hn=>rfl);(case hr=>first|(go_simp;done)|(go_simp;rfl));intro Xo hw;have hg:OE.grownBy Xo (some Cr):=(by rw [hw];exact aJ.2);have Fk:Kd.R (Kd.int .i64) 3 Xo w.heap.size (fun k_=>some k_ ≠ (Sh:Value).ownBlock) (.slice (some ⟨Cr,0,none⟩) t106.length dw) UE:=(by rw [hw,nQ.out];exact aJ.1);clear aJ;have Jb:=ga.mk (wg (g:=za) (o:=.cells #[.slice yb Oa.length xb,.int .i64 Ka,.int .i64 Pa,.int .i64 Ja,.slice Rb Ga.length Ib] 45 (0,0)) (by (with_reducible repeat (first|refine Da ?_ _|refine Ea ?_|refine Ca ?_ _));exact ta.out) hg (Kd.Nt Uk.out ta.out (by decide)));have Ob:=ga.mk (Kd.Zg (v:=(.slice (some ⟨Cr,0,none⟩) t106.length dw)) (v1:=(.slice (some ⟨Cr,0,none⟩) t106.length dw)) (ok:=(fun _=>True)) (by (with_reducible repeat (first|apply Kd.Xa|apply Kd.Wa|apply Kd.qb));exact dg.out) hg (.inl rfl));have Vb:=ga.mk (Fk);have uc:=ga.mk ((by rw [hw];exact ua (HB.out) GB6.out:Below w.heap.size w Xo));clear ta dg Uk HB;have ta:=Jb;have dg:=Ob;have Uk:=Vb;have HB:=uc;clear Jb Ob Vb uc hg hw Fk)|((with_reducible refine Db (N:=20) rfl ?_);refine Kd.Tk (Kd.int .i64) _ 3 ?hg (N:=20) ?hd (xs:=([0]:List Int)) (inner:=[.int .i64 0]) (ok:=fun _=>True) (Ah:=fun _=>True) ?hr ?hp (fun _ hk=>hk) trivial (Below.refl _ _) (Nat.le_refl _) (by simp) ?_;(case hd=>rfl);(case hg=>rfl);(case hr=>first|(go_simp;done)|(go_simp;rfl));(case hp=>exact (Ld.one (show Kd.M (Kd.int .i64) _ _ _ 0 [.int .i64 0] from rfl) (Ld.none _ _)));intro aal XA XH hb Um Gf;clear Um Gf;(first|rw [← PG.out] at XH|(simp only [Int.reduceToNat] at XH;rw [← PG.out] at XH));have Jb:=ga.mk (Kd.si (by (with_reducible repeat (first|apply Kd.Xa|apply Kd.Wa|apply Kd.qb));exact dg.out) (Kd.xh XH) hb);have Ob:=ga.mk (Kd.si (by (with_reducible repeat (first|apply Kd.Xa|apply Kd.Wa|apply Kd.qb));exact Uk.out) (Kd.xh XH) hb);have Vb:=ga.mk (Kd.Fe (Kd.Kk (Kd.Kk XH (Kd.Km (by (with_reducible repeat (first|apply Kd.Xa|apply Kd.Wa|apply Kd.qb));exact dg.out))) (Kd.Km (by (with_reducible repeat (first|apply Kd.Xa|apply Kd.Wa|apply Kd.qb));exact Uk.out))) (La (by repeat (first|(with_reducible first|exact HB.out|apply oa|apply ia|apply qa|refine ua ?_ Ta.out)|exact HB.out))));have uc:=ga.mk (Va (g:=za) (o:=.cells #[.slice yb Oa.length xb,.int .i64 Ka,.int .i64 Pa,.int .i64 Ja,.slice Rb Ga.length Ib] 45 (0,0)) (by (with_reducible repeat (first|refine Da ?_ _|refine Ea ?_|refine Ca ?_ _));exact ta.out) hb);have Be:=ga.mk (Ra (by repeat (first|(with_reducible first|exact HB.out|apply oa|apply ia|apply qa|refine ua ?_ Ta.out)|exact HB.out)) hb);clear dg Uk ta HB;have dg:=Jb;have Uk:=Ob;have wQ:=Vb;have ta:=uc;have HB:=Be;clear Jb Ob Vb uc Be hb XH))
   go_loopg [5] k (fun kq v5 w'=>∃ (Wb:List Int) (Ba:List Int),ga (Gb.l0 kq qe Wb Ba Oa Ka Pa Ja Ga=some r)∧ga (kq ≤ k)∧ga (Kd.R (Kd.int .i64) 3 w' w.heap.size (fun k_=>some k_ ≠ ((.slice (some ⟨Cr,0,none⟩) t106.length dw):Value).ownBlock∧some k_ ≠ (v5:Value).ownBlock) Sh qe)∧ga (Kd.R (Kd.int .i64) 3 w' w.heap.size (fun k_=>some k_ ≠ (Sh:Value).ownBlock∧some k_ ≠ (v5:Value).ownBlock) (.slice (some ⟨Cr,0,none⟩) t106.length dw) Wb)∧ga (Kd.Q (Kd.int .i64) 3 w' w.heap.size (fun k_=>some k_ ≠ (Sh:Value).ownBlock∧some k_ ≠ ((.slice (some ⟨Cr,0,none⟩) t106.length dw):Value).ownBlock) v5 Ba)∧ga (w'.heap[za]? = some (.cells #[(.slice yb Oa.length xb),.int .i64 Ka,.int .i64 Pa,.int .i64 Ja,(.slice Rb Ga.length Ib)] 45 (0,0)))∧ga (Below w.heap.size w w'))
   case atStart=>exact ⟨(UE),(mN),H',⟨Nat.le_refl _⟩,⟨by (with_reducible repeat (first|apply Kd.Xa|apply Kd.Wa|apply Kd.qb));exact Kd.Bc dg.out (fun _ hk=>⟨hk.1.2,hk.2⟩)⟩,⟨by (with_reducible repeat (first|apply Kd.Xa|apply Kd.Wa|apply Kd.qb));exact Uk.out⟩,⟨Kd.VI (by (with_reducible repeat (first|apply Kd.Xa|apply Kd.Wa|apply Kd.qb));exact Kd.Bc wQ.out (fun _ hk=>⟨hk.1.2,hk.2⟩))⟩,⟨by (with_reducible repeat (first|refine Da ?_ _|refine Ea ?_|refine Ca ?_ _));exact ta.out⟩,⟨by repeat (first|(with_reducible first|exact HB.out|apply oa|apply ia|apply qa|refine ua ?_ Ta.out)|exact HB.out)⟩⟩
   case round =>
    clear H'
    try clear p2
    try clear c3
    try clear c5
    try clear Il
    try clear sx
    try clear c6
    try clear p6
    try clear q6
    try clear SB
    try clear qi6
    try clear hf6
    try clear c9
    try clear Nj
    try clear Mj
    try clear Lj
    try clear Kj
    try clear Jj
    try clear qo
    try clear oo
    try clear mo
    try clear jo
    try clear fo
    try clear Ij
    try clear Hj
    try clear Gj
    try clear Fj
    try clear Ej
    try clear Vn
    try clear Un
    try clear Tn
    try clear Sn
    try clear Rn
    try clear kB
    try clear p6
    try clear q6
    (try clear HA);(try clear Nf);(try clear Vc);(try clear Jd);(try clear mg);(try clear ta);(try clear HB);obtain ⟨Wb,Ba,HA,Nf,Vc,Jd,mg,ta,HB⟩:=hrel;have Kg:=(Kd.Fb Jd.out).1;rw [Kg] at Jd;(try simp only [Kg]);(try simp only [Kg] at ta);(try simp only [Kg] at Vc);(try simp only [Kg] at mg);cases gk with
    | zero=>exact absurd HA.out (by simp [Gb.l0])
    | succ k1 =>
     have H:=HA.out;clear HA;simp only [Gb.l0] at H
     by_cases Ir:(Ba.length:Int) > 0
     ·rw [if_pos Ir] at H;have vo:decide (0 < (Ba.length:Int))=true:=decide_eq_true Ir;have jw:decide (0 < Ba.length)=true:=decide_eq_true (by omega);clear Ir
      by_cases Mt:0 < (Ba.length:Int)
      ·rw [if_pos Mt] at H;have tB:decide (0 < (Ba.length:Int))=true:=decide_eq_true Mt;have DL:decide (0 < Ba.length)=true:=decide_eq_true (by omega);clear Mt
       by_cases vw:0 ≤ (rd Ba 0)
       ·rw [if_pos vw] at H;have JP:decide (0 ≤ (rd Ba 0))=true:=decide_eq_true vw;clear vw
        by_cases TA:(rd Ba 0) < (Ga.length:Int)
        ·rw [if_pos TA] at H;have BG:decide ((rd Ba 0) < (Ga.length:Int))=true:=decide_eq_true TA;clear TA;replace H:=Option.bind_eq_some_iff.mp H;obtain ⟨t115,DQ,H⟩:=H;replace H:(if 1 ≤ (Ba.length:Int) then (Gb.l1 k1 qe Wb (Ba.drop (1:Int).toNat) t115 0 Oa Ka Pa Ja Ga) else (none))=some r:=H;have GX:=ga.mk DQ;clear DQ
         by_cases ux:1 ≤ (Ba.length:Int)
         ·rw [if_pos ux] at H;have Zz:=eq_true ux;have AG:decide (1 ≤ (Ba.length:Int))=true:=decide_eq_true ux;clear ux;obtain ⟨wu,kr⟩:∃ y_:List Int,y_=(Ba.drop (1:Int).toNat):=⟨_,rfl⟩;replace H:(Gb.l1 k1 qe Wb wu t115 0 Oa Ka Pa Ja Ga)=some r:=by first|(rw [kr];with_reducible exact H)|(have Od:=(Option.bind_some _ _).symm.trans H;rw [kr];with_reducible exact Od)|(have Od:=(Option.bind_some _ _).symm.trans H;with_reducible exact Od)|with_reducible exact H|(rw [kr];exact H)|exact H
          have LL:=ga.mk kr;clear kr;have H':=ga.mk H;clear H;obtain ⟨Daw,AP,SU,_⟩:=Kd.qw mg.out;subst SU
          try go_wp2
          have Jb:=ga.mk (Kd.qb Vc.out);have Ob:=ga.mk (Kd.qb Jd.out);have Vb:=ga.mk (Kd.Qh mg.out);have uc:=ga.mk (Ea ta.out);have Be:=ga.mk (qa HB.out);clear Vc Jd mg ta HB;have Vc:=Jb;have Jd:=Ob;have mg:=Vb;have ta:=uc;have HB:=Be;clear Jb Ob Vb uc Be;have EN:0 ≤ (0:Int):=(by omega);have BN:0 < (Ba.length:Int):=of_decide_eq_true (by first|(with_reducible assumption)|assumption);obtain ⟨wB,Van,Yr⟩:=Kd.qf (Kd.iA mg.out).2.2 0 EN BN;cases Van;have kap:(0 < Ba.length)=True:=eq_true (by omega);(try rw [show ((0:Int)).toNat=0 from rfl] at Yr);(try rw [Addr.add_zero'] at Yr);replace EN:=eq_true EN;replace BN:=eq_true BN;have Yq:0 ≤ ((rd Ba 0):Int):=of_decide_eq_true (by first|(with_reducible assumption)|assumption);have Wq:(rd Ba 0) < (Ga.length:Int):=of_decide_eq_true (by first|(with_reducible assumption)|assumption);obtain ⟨sj,FQ,MP,EI,mm,Xr,Wr,Vr,Ur,IJ,NJ⟩:=Tj ug.out (rd Ba 0) Yq Wq;have AJ:=Ur;have BJ:=Vr;have CJ:=Wr;have DJ:=Xr;have EJ:=mm;cases EI;replace mm:=Qa HB.out mm;replace Xr:=Qa HB.out Xr;replace Wr:=Qa HB.out Wr;replace Vr:=Qa HB.out Vr;replace Ur:=Qa HB.out Ur;have RL:=ga.mk NJ;have DV:=ga.mk IJ;clear NJ IJ;replace Yq:=eq_true Yq;replace Wq:=eq_true Wq;refine bk (n:=9) (S:=fun w'=>w'.cell? ⟨za,0,none⟩=some (.slice yb Oa.length xb)∧w'.cell? ⟨za,1,none⟩=some (.int .i64 Ka)∧w'.cell? ⟨za,2,none⟩=some (.int .i64 Pa)∧w'.cell? ⟨za,3,none⟩=some (.int .i64 Ja)∧w'.cell? ⟨za,4,none⟩=some (.slice (some sj) Ga.length Ib)∧w'.cell? wB=some (.int .i64 (rd Ba 0))∧w'.cell? (sj.add (((rd Ba 0)).toNat * 5))=some (.slice FQ ((Sa Ga (rd Ba 0)).f0).length MP)∧w'.cell? ⟨(sj.add (((rd Ba 0)).toNat * 5)).block,(sj.add (((rd Ba 0)).toNat * 5)).off + 1,none⟩=some (.int .i64 ((Sa Ga (rd Ba 0)).f1))∧w'.cell? ⟨(sj.add (((rd Ba 0)).toNat * 5)).block,(sj.add (((rd Ba 0)).toNat * 5)).off + 2,none⟩=some (.int .i64 ((Sa Ga (rd Ba 0)).f2))∧w'.cell? ⟨(sj.add (((rd Ba 0)).toNat * 5)).block,(sj.add (((rd Ba 0)).toNat * 5)).off + 3,none⟩=some (.int .i64 ((Sa Ga (rd Ba 0)).f3))∧w'.cell? ⟨(sj.add (((rd Ba 0)).toNat * 5)).block,(sj.add (((rd Ba 0)).toNat * 5)).off + 4,none⟩=some (.int .i64 ((Sa Ga (rd Ba 0)).f4))) (ds:=[]) #[false,false,false,false,false,false,false,false,false] (by kernel_rfl) rfl rfl ⟨(ja ta.out 0).trans rfl,(ja ta.out 1).trans rfl,(ja ta.out 2).trans rfl,(ja ta.out 3).trans rfl,(ja ta.out 4).trans rfl,Yr,(Qa HB.out EJ),(Qa HB.out DJ),(Qa HB.out CJ),(Qa HB.out BJ),(Qa HB.out AJ)⟩ (fun hHeld=>?_);refine zh Gb.bal Gb.Xaa (fun zf Bq=>?_);generalize wr.drew=L3 at Vc Jd mg ta HB RL Yr mm Xr Wr Vr Ur hHeld ⊢;refine jd (i:=0) (N:=some 24) (v:=?_) (a':=?_) #[true,false,false,false,false,false,false,false,false] rfl rfl (qc zf.out (by kernel_rfl)) (fun _ _ _ h=>h) (Or.inl ⟨by rfl,?_⟩) ?_ ?_;rotate_left
          ·intro w';go_simp;with_reducible rfl
          rotate_left
          ·simp only [Act.put,List.setIfInBounds_toArray,List.set_cons_zero,List.set_cons_succ,Yb,Zb]
           rfl
          refine jd (i:=2) (N:=some 26) (v:=?_) (a':=?_) #[true,false,true,false,false,false,false,false,false] rfl rfl (qc zf.out (by kernel_rfl)) (fun _ _ _ h=>h) (Or.inl ⟨by rfl,?_⟩) ?_ ?_;rotate_left
          ·intro w';go_simp;with_reducible rfl
          rotate_left
          ·simp only [Act.put,List.setIfInBounds_toArray,List.set_cons_zero,List.set_cons_succ,Yb,Zb]
           rfl
          refine jd (i:=3) (N:=some 27) (v:=?_) (a':=?_) #[true,false,true,true,false,false,false,false,false] rfl rfl (qc zf.out (by kernel_rfl)) (fun _ _ _ h=>h) (Or.inl ⟨by rfl,?_⟩) ?_ ?_;rotate_left
          ·intro w';go_simp;with_reducible rfl
          rotate_left
          ·simp only [Act.put,List.setIfInBounds_toArray,List.set_cons_zero,List.set_cons_succ,Yb,Zb]
           rfl
          refine Og (i:=1) (N:=some 25) (v:=?_) (a':=?_) #[true,true,true,true,false,false,false,false,false] rfl rfl (Ge zf.out Bq.out (by kernel_rfl)) (fun _ _ _ h=>h) (Or.inl ⟨by rfl,?_⟩) hHeld ?_ ?_;rotate_left
          ·rintro w' ⟨s0,s1,s2,s3,s4,s5,s6,s7,s8,s9,vH⟩;go_simp;with_reducible rfl
          rotate_left
          ·simp only [Act.put,List.setIfInBounds_toArray,List.set_cons_zero,List.set_cons_succ,Yb,Zb]
           rfl
          refine Og (i:=4) (N:=some 28) (v:=?_) (a':=?_) #[true,true,true,true,true,false,false,false,false] rfl rfl (Ge zf.out Bq.out (by kernel_rfl)) (fun _ _ _ h=>h) (Or.inl ⟨by rfl,?_⟩) hHeld ?_ ?_;rotate_left
          ·rintro w' ⟨s0,s1,s2,s3,s4,s5,s6,s7,s8,s9,vH⟩;go_simp;with_reducible rfl
          rotate_left
          ·simp only [Act.put,List.setIfInBounds_toArray,List.set_cons_zero,List.set_cons_succ,Yb,Zb]
           rfl
          refine jd (i:=5) (N:=some 29) (v:=?_) (a':=?_) #[true,true,true,true,true,true,false,false,false] rfl rfl (qc zf.out (by kernel_rfl)) (fun _ _ _ h=>h) (Or.inl ⟨by rfl,?_⟩) ?_ ?_;rotate_left
          ·intro w';go_simp;with_reducible rfl
          rotate_left
          ·simp only [Act.put,List.setIfInBounds_toArray,List.set_cons_zero,List.set_cons_succ,Yb,Zb]
           rfl
          refine Og (i:=6) (N:=some 30) (v:=?_) (a':=?_) #[true,true,true,true,true,true,true,false,false] rfl rfl (Ge zf.out Bq.out (by kernel_rfl)) (fun _ _ _ h=>h) (Or.inl ⟨by rfl,?_⟩) hHeld ?_ ?_;rotate_left
          ·rintro w' ⟨s0,s1,s2,s3,s4,s5,s6,s7,s8,s9,vH⟩;go_simp;with_reducible rfl
          rotate_left
          ·simp only [Act.put,List.setIfInBounds_toArray,List.set_cons_zero,List.set_cons_succ,Yb,Zb]
           rfl
          refine Gu (i:=7) (N:=some 31) #[true,true,true,true,true,true,true,true,false] rfl rfl (Ol zf.out (by kernel_rfl)) (by decide) (fun K hK=>?_);refine Iq Try.func85 (by kernel_rfl) rfl #[.agg #[.slice FQ ((Sa Ga (rd Ba 0)).f0).length MP,.int .i64 ((Sa Ga (rd Ba 0)).f1),.int .i64 ((Sa Ga (rd Ba 0)).f2),.int .i64 ((Sa Ga (rd Ba 0)).f3),.int .i64 ((Sa Ga (rd Ba 0)).f4)]] (by rfl) rfl rfl (by (try simp only [List.map_toArray,List.map_cons,List.map_nil]);first|done|rfl|(simp only [List.length_drop,List.length_take];rfl)) ?_;with_reducible refine (Cg.calls _ _ ((Sa Ga (rd Ba 0)).f0) ((Sa Ga (rd Ba 0)).f1) ((Sa Ga (rd Ba 0)).f2) ((Sa Ga (rd Ba 0)).f3) ((Sa Ga (rd Ba 0)).f4) t115 _ ?Ic ?Gc GX.out).mono ?_
          (case Ic=>repeat (first|exact (Kd.Mb RL.out HB.out)|(with_reducible refine Kd.ec ?_ _)|(with_reducible refine Kd.dc ?_ _)|(with_reducible refine Kd.Dc ?_)))
          (case Gc=>exact DV.out)
          rintro e Ll ⟨XE,rfl,qj,hb⟩;have V1:=(hb.cell (World.block_lt_of_cell? _ _ (hHeld.2.2.2.2.2.1))).trans (hHeld.2.2.2.2.2.1);refine ⟨_,rfl,?_⟩;have Jb:=ga.mk (Kd.si (by (with_reducible repeat (first|apply Kd.Xa|apply Kd.Wa|apply Kd.qb));exact Vc.out) (Kd.xh qj) hb);have Ob:=ga.mk (Kd.si (by (with_reducible repeat (first|apply Kd.Xa|apply Kd.Wa|apply Kd.qb));exact Jd.out) (Kd.xh qj) hb);have Vb:=ga.mk (Kd.LG (by (with_reducible repeat (first|apply Kd.oh|apply Kd.nh|apply Kd.Qh));exact mg.out) (Kd.xh qj) hb);have uc:=ga.mk (Kd.Fe (Kd.Kk (Kd.Kk (Kd.Kk qj (Kd.Km (by (with_reducible repeat (first|apply Kd.Xa|apply Kd.Wa|apply Kd.qb));exact Vc.out))) (Kd.Km (by (with_reducible repeat (first|apply Kd.Xa|apply Kd.Wa|apply Kd.qb));exact Jd.out))) (Kd.qab (by (with_reducible repeat (first|apply Kd.oh|apply Kd.nh|apply Kd.Qh));exact mg.out))) (La (by repeat (first|(with_reducible first|exact HB.out|apply oa|apply ia|apply qa|refine ua ?_ Ta.out)|exact HB.out))));have Be:=ga.mk (Va (g:=za) (o:=.cells #[.slice yb Oa.length xb,.int .i64 Ka,.int .i64 Pa,.int .i64 Ja,.slice (some sj) Ga.length Ib] 45 (0,0)) (by (with_reducible repeat (first|refine Da ?_ _|refine Ea ?_|refine Ca ?_ _));exact ta.out) hb);have Vf:=ga.mk (Ra (by repeat (first|(with_reducible first|exact HB.out|apply oa|apply ia|apply qa|refine ua ?_ Ta.out)|exact HB.out)) hb);clear Vc Jd mg ta HB;have Vc:=Jb;have Jd:=Ob;have mg:=Vb;have VL:=uc;have ta:=Be;have HB:=Vf;clear Jb Ob Vb uc Be Vf;(try clear hb);(try clear mj);(try clear hk);(try clear hi);(try clear qj);refine hK.out _ _ ⟨(ja ta.out 0).trans rfl,(ja ta.out 1).trans rfl,(ja ta.out 2).trans rfl,(ja ta.out 3).trans rfl,(ja ta.out 4).trans rfl,V1,(Qa HB.out EJ),(Qa HB.out DJ),(Qa HB.out CJ),(Qa HB.out BJ),(Qa HB.out AJ)⟩ (fun hHeld=>?_);clear hK K;refine zn (a':=?_) ?_ ?_;rotate_left
          ·show Act.put _ (some 31) _=_
           simp only [Act.put,List.setIfInBounds_toArray,List.set_cons_zero,List.set_cons_succ,Yb,Zb]
           rfl
          refine jd (i:=8) (N:=some 6) (v:=?_) (a':=?_) #[true,true,true,true,true,true,true,true,true] rfl rfl (qc zf.out (by kernel_rfl)) (fun _ _ _ h=>h) (Or.inl ⟨by rfl,?_⟩) ?_ ?_;rotate_left
          ·intro w';go_simp;with_reducible rfl
          rotate_left
          ·simp only [Act.put,List.setIfInBounds_toArray,List.set_cons_zero,List.set_cons_succ,Yb,Zb]
           rfl
          refine uo (Pj zf.out (by kernel_rfl)) ?_;have n_:=ga.mk (Kd.Aq (vn:=(fun k_=>some k_ ≠ (Sh:Value).ownBlock∧some k_ ≠ (.slice (some ⟨Cr,0,none⟩) Wb.length dw:Value).ownBlock∧some k_ ≠ (XE:Value).ownBlock)) mg.out (fun k_ hk=>⟨hk.1.1,⟨hk.1.2,hk.2⟩⟩));clear mg;have mg:=n_;clear n_;have cY:(1:Int) ≤ ((Ba.length:Int):Int):=of_decide_eq_true (by first|(with_reducible assumption)|assumption);obtain ⟨Dau,eW,_,SV,_⟩:=info_parts info3;have lZ:=qG (P:=Try.prog) 22 3 .i64 Try.underlying22 eW 1 SV (some wB) Ba.length AP 1 (by omega) cY;have sO:=Kd.jQ (k:=(1:Int).toNat) mg.out (by omega);obtain ⟨F3,PU⟩:∃ A1,A1=(if AP=(1:Int).toNat then (some wB) else ((some wB):Option Addr).map (·.add ((1:Int).toNat * 1))):=⟨_,rfl⟩;obtain ⟨PE,nZ⟩:∃ c1,c1=AP - (1:Int).toNat:=⟨_,rfl⟩;have pY:wu.length=Ba.length - (1:Int).toNat:=(by rw [LL.out,List.length_drop]);rw [← LL.out] at sO;rw [← pY,← PU,← nZ] at lZ;replace sO:Kd.Q (Kd.int .i64) 3 Ll w.heap.size (fun k_=>some k_ ≠ (Sh:Value).ownBlock∧some k_ ≠ (.slice (some ⟨Cr,0,none⟩) Wb.length dw:Value).ownBlock∧some k_ ≠ (XE:Value).ownBlock) (.slice F3 wu.length PE) wu:=(by rw [PU,nZ,pY];exact sO);have j3:ga ((Value.slice F3 wu.length PE).ownBlock=(.slice (some wB) Ba.length AP:Value).ownBlock):=⟨by rw [PU];split <;> (cases ((some wB):Option Addr) <;> rfl)⟩;clear pY eW SV mg PU nZ;have iac:=ga.mk sO;clear sO;replace cY:=eq_true cY;have n_:=ga.mk (Kd.Bc (vn:=fun k_=>((some k_ ≠ (.slice (some ⟨Cr,0,none⟩) Wb.length dw:Value).ownBlock∧some k_ ≠ (.slice F3 wu.length PE:Value).ownBlock)∧some k_ ≠ (XE:Value).ownBlock)) Vc.out (fun k_ hk=>⟨⟨hk.1.1,(by rw [j3.out];exact hk.1.2)⟩,hk.2⟩));clear Vc;have Vc:=n_;clear n_;have n_:=ga.mk (Kd.Bc (vn:=fun k_=>((some k_ ≠ (Sh:Value).ownBlock∧some k_ ≠ (.slice F3 wu.length PE:Value).ownBlock)∧some k_ ≠ (XE:Value).ownBlock)) Jd.out (fun k_ hk=>⟨⟨hk.1.1,(by rw [j3.out];exact hk.1.2)⟩,hk.2⟩));clear Jd;have Jd:=n_;clear n_;have n_:=ga.mk (Kd.Bc (vn:=fun k_=>(((True∧some k_ ≠ (Sh:Value).ownBlock)∧some k_ ≠ (.slice (some ⟨Cr,0,none⟩) Wb.length dw:Value).ownBlock)∧some k_ ≠ (.slice F3 wu.length PE:Value).ownBlock)) VL.out (fun k_ hk=>⟨⟨⟨trivial,hk.1.1.2⟩,hk.1.2⟩,(by rw [j3.out];exact hk.2)⟩));clear VL;have VL:=n_;clear n_
          try go_wp2
          go_loopg [5,7] k1 (fun kq v5 v7 w'=>∃ (bf:List Int) (AA:List Int) (af:Int),v7 = .int .i64 af∧ga (Gb.l1 kq qe bf AA t115 af Oa Ka Pa Ja Ga=some r)∧ga (kq ≤ k1)∧ga (Kd.R (Kd.int .i64) 3 w' w.heap.size (fun k_=>some k_ ≠ ((.slice (some ⟨Cr,0,none⟩) Wb.length dw):Value).ownBlock∧some k_ ≠ (v5:Value).ownBlock∧some k_ ≠ (XE:Value).ownBlock) Sh qe)∧ga (Kd.R (Kd.int .i64) 3 w' w.heap.size (fun k_=>some k_ ≠ (Sh:Value).ownBlock∧some k_ ≠ (v5:Value).ownBlock∧some k_ ≠ (XE:Value).ownBlock) (.slice (some ⟨Cr,0,none⟩) Wb.length dw) bf)∧ga (Kd.Q (Kd.int .i64) 3 w' w.heap.size (fun k_=>some k_ ≠ (Sh:Value).ownBlock∧some k_ ≠ ((.slice (some ⟨Cr,0,none⟩) Wb.length dw):Value).ownBlock∧some k_ ≠ (XE:Value).ownBlock) v5 AA)∧ga (Kd.R (Kd.int .i64) 3 w' w.heap.size (fun k_=>some k_ ≠ (Sh:Value).ownBlock∧some k_ ≠ ((.slice (some ⟨Cr,0,none⟩) Wb.length dw):Value).ownBlock∧some k_ ≠ (v5:Value).ownBlock) XE t115)∧ga (w'.heap[za]? = some (.cells #[(.slice yb Oa.length xb),.int .i64 Ka,.int .i64 Pa,.int .i64 Ja,(.slice (some sj) Ga.length Ib)] 45 (0,0)))∧ga (Below w.heap.size w w'))
          case atStart=>exact ⟨(Wb),(wu),(0),(by first|rfl|(simp;done)|(simp [*];done)),H',⟨Nat.le_refl _⟩,⟨by (try simp only [Kg]);(with_reducible repeat (first|apply Kd.Xa|apply Kd.Wa|apply Kd.qb));exact Kd.Bc Vc.out (fun _ hk=>⟨hk.1.1,⟨hk.1.2,hk.2⟩⟩)⟩,⟨by (try simp only [Kg]);(with_reducible repeat (first|apply Kd.Xa|apply Kd.Wa|apply Kd.qb));exact Kd.Bc Jd.out (fun _ hk=>⟨hk.1.1,⟨hk.1.2,hk.2⟩⟩)⟩,⟨by (try simp only [Kg]);(with_reducible repeat (first|apply Kd.oh|apply Kd.nh|apply Kd.Qh));exact iac.out⟩,⟨by (try simp only [Kg]);(with_reducible repeat (first|apply Kd.Xa|apply Kd.Wa|apply Kd.qb));exact Kd.Bc VL.out (fun _ hk=>⟨hk.1.1.2,⟨hk.1.2,hk.2⟩⟩)⟩,⟨by (try simp only [Kg]);(with_reducible repeat (first|refine Da ?_ _|refine Ea ?_|refine Ca ?_ _));exact ta.out⟩,⟨by repeat (first|(with_reducible first|exact HB.out|apply oa|apply ia|apply qa|refine ua ?_ Ta.out)|exact HB.out)⟩⟩
          case round =>
           clear H'
           try clear c1
           try clear p1
           try clear q1
           try clear hx1
           try clear qi1
           try clear c2
           try clear p2
           try clear q2
           try clear c3
           try clear c5
           try clear Il
           try clear sx
           try clear c6
           try clear p6
           try clear q6
           try clear SB
           try clear qi6
           try clear hf6
           try clear c8
           try clear c9
           try clear NP
           try clear p11
           try clear CN
           try clear Eal
           try clear fal
           try clear Ir
           try clear vo
           try clear jw
           try clear Mt
           try clear tB
           try clear DL
           try clear vw
           try clear JP
           try clear TA
           try clear BG
           try clear ux
           try clear Zz
           try clear AG
           try clear PE
           try clear cY
           try clear Nj
           try clear Mj
           try clear Lj
           try clear Kj
           try clear Jj
           try clear qo
           try clear oo
           try clear mo
           try clear jo
           try clear fo
           try clear Ij
           try clear Hj
           try clear Gj
           try clear Fj
           try clear Ej
           try clear Vn
           try clear Un
           try clear Tn
           try clear Sn
           try clear Rn
           try clear Yr
           try clear mm
           try clear Xr
           try clear Wr
           try clear Vr
           try clear Ur
           try clear kB
           try clear EN
           try clear Yq
           try clear p2
           try clear p6
           try clear BN
           try clear Wq
           try clear cY
           try clear q6
           (try clear HA);(try clear Vo);(try clear Vc);(try clear Jd);(try clear mg);(try clear Rq);(try clear ta);(try clear HB);obtain ⟨bf,AA,af,rfl,HA,Vo,Vc,Jd,mg,Rq,ta,HB⟩:=hrel;have cj:=(Kd.Fb Jd.out).1;rw [cj] at Jd;(try simp only [cj]);(try simp only [cj] at ta);(try simp only [cj] at Vc);(try simp only [cj] at mg);(try simp only [cj] at Rq);cases gk with
           | zero=>exact absurd HA.out (by simp [Gb.l1])
           | succ k2 =>
            have H:=HA.out;clear HA;simp only [Gb.l1] at H
            by_cases iw:af < (t115.length:Int)
            ·rw [if_pos iw] at H;have Zo:decide (af < (t115.length:Int))=true:=decide_eq_true iw;clear iw
             by_cases cz:0 ≤ af
             ·rw [if_pos cz] at H;have gw:decide (0 ≤ af)=true:=decide_eq_true cz;clear cz
              by_cases Ox:0 ≤ (rd t115 af)
              ·rw [if_pos Ox] at H;have sB:decide (0 ≤ (rd t115 af))=true:=decide_eq_true Ox;clear Ox
               by_cases BL:(rd t115 af) < (bf.length:Int)
               ·rw [if_pos BL] at H;have EP:decide ((rd t115 af) < (bf.length:Int))=true:=decide_eq_true BL;clear BL
                by_cases PM:(rd bf (rd t115 af))=0
                ·rw [if_pos PM] at H;have KW:((rd bf (rd t115 af)) == 0)=true:=beq_iff_eq.mpr PM;have JW:((rd bf (rd t115 af)) != 0)=false:=bne_eq_false_iff_eq.mpr PM;clear PM;obtain ⟨RE,jr⟩:∃ y_:List Int,y_=(bf.set ((rd t115 af):Int).toNat 1):=⟨_,rfl⟩;replace H:(if AA.length < 17592186044416 then (Gb.l1 k2 qe RE (AA ++ [rd t115 af]) t115 (wrap64 (af + 1)) Oa Ka Pa Ja Ga) else (none))=some r:=by first|(rw [jr];with_reducible exact H)|(have Od:=(Option.bind_some _ _).symm.trans H;rw [jr];with_reducible exact Od)|(have Od:=(Option.bind_some _ _).symm.trans H;with_reducible exact Od)|with_reducible exact H|(rw [jr];exact H)|exact H
                 have mQ:=ga.mk jr;clear jr
                 by_cases yG:AA.length < 17592186044416
                 ·rw [if_pos yG] at H;have Bab:=ga.mk yG;clear yG;obtain ⟨lN,gr⟩:∃ y_:List Int,y_=(AA ++ [rd t115 af]):=⟨_,rfl⟩;replace H:(Gb.l1 k2 qe RE lN t115 (wrap64 (af + 1)) Oa Ka Pa Ja Ga)=some r:=by first|(rw [gr];with_reducible exact H)|(have Od:=(Option.bind_some _ _).symm.trans H;rw [gr];with_reducible exact Od)|(have Od:=(Option.bind_some _ _).symm.trans H;with_reducible exact Od)|with_reducible exact H|(rw [gr];exact H)|exact H
                  have kQ:=ga.mk gr;clear gr;have H':=ga.mk H;clear H;obtain ⟨xaw,JM,Ian⟩:=Kd.xd Rq.out;subst Ian;have Kt:0 ≤ (af:Int):=of_decide_eq_true (by first|(with_reducible assumption)|assumption);have Jt:af < (t115.length:Int):=of_decide_eq_true (by first|(with_reducible assumption)|assumption);obtain ⟨gp,BI,Cn⟩:=Kd.qf (Kd.Fb Rq.out).2.2 af Kt Jt;cases BI;replace Kt:=eq_true Kt;replace Jt:=eq_true Jt;have ay:0 ≤ ((rd t115 af):Int):=of_decide_eq_true (by first|(with_reducible assumption)|assumption);have Zx:(rd t115 af) < (bf.length:Int):=of_decide_eq_true (by first|(with_reducible assumption)|assumption);obtain ⟨eA,xP,nk⟩:=Kd.qf (Kd.Fb Jd.out).2.2 (rd t115 af) ay Zx;obtain rfl:(⟨Cr,0,none⟩:Addr)=eA:=(by injection xP);(first|simp only [add_plain] at nk|simp only [Uo] at nk|simp only [Addr.add,Nat.zero_add] at nk|skip);replace ay:=eq_true ay;replace Zx:=eq_true Zx;have xR:0 ≤ (af:Int):=of_decide_eq_true (by first|(with_reducible assumption)|assumption);have sR:af < (t115.length:Int):=of_decide_eq_true (by first|(with_reducible assumption)|assumption);obtain ⟨bab,San,LR⟩:=Kd.qf (Kd.Fb Rq.out).2.2 af xR sR;obtain rfl:gp=bab:=(by injection San);replace xR:=eq_true xR;replace sR:=eq_true sR;have V4:0 ≤ ((rd t115 af):Int):=of_decide_eq_true (by first|(with_reducible assumption)|assumption);have U4:((rd t115 af):Int) < ((bf.length:Int):Int):=of_decide_eq_true (by first|(with_reducible assumption)|assumption);obtain ⟨qY,Oam⟩:=Kd.Xg 0 Jd.out ((rd t115 af):Int) V4 U4;replace V4:=eq_true V4;replace U4:=eq_true U4;have D2:=Kd.Zk Jd.out ((rd t115 af):Int) 1;go_wp2_with (first|((with_reducible refine Le (t:=3) (p:=53) rfl ?_);refine ke (t:=3) (p:=53) (v:=?Nak) (w1:=(wr.setCell ⟨Cr,((rd t115 af):Int).toNat,none⟩ (.int .i64 1))) ?hg ?ho ?hn ?hr ?_;(case ho=>rfl);(case hg=>rfl);(case hn=>rfl);(case hr=>first|(go_simp;done)|(go_simp;rfl));intro MX hw;have hg:wr.grownBy MX (some Cr):=(by rw [hw];exact D2.2);have Fk:Kd.R (Kd.int .i64) 3 MX w.heap.size (fun k_=>some k_ ≠ (Sh:Value).ownBlock∧some k_ ≠ (u5:Value).ownBlock∧some k_ ≠ (.slice (some gp) t115.length JM:Value).ownBlock) (.slice (some ⟨Cr,0,none⟩) bf.length dw) RE:=(by rw [hw,mQ.out];exact D2.1);clear D2;have Jb:=ga.mk (Kd.Zg (v:=(.slice (some ⟨Cr,0,none⟩) bf.length dw)) (v1:=(.slice (some ⟨Cr,0,none⟩) bf.length dw)) (ok:=(fun k_=>some k_ ≠ (u5:Value).ownBlock∧some k_ ≠ (.slice (some gp) t115.length JM:Value).ownBlock)) (by (with_reducible repeat (first|apply Kd.Xa|apply Kd.Wa|apply Kd.qb));exact Kd.Bc Vc.out (fun _ hk=>⟨⟨hk.2.1,hk.2.2⟩,hk.1⟩)) hg (.inl rfl));have Ob:=ga.mk (Fk);have Vb:=ga.mk (Kd.lV (v:=(.slice (some ⟨Cr,0,none⟩) bf.length dw)) (v1:=(.slice (some ⟨Cr,0,none⟩) bf.length dw)) (ok:=(fun k_=>some k_ ≠ (Sh:Value).ownBlock∧some k_ ≠ (.slice (some gp) t115.length JM:Value).ownBlock)) (by (with_reducible repeat (first|apply Kd.oh|apply Kd.nh|apply Kd.Qh));exact Kd.Aq mg.out (fun _ hk=>⟨⟨hk.1,hk.2.2⟩,hk.2.1⟩)) hg (.inl rfl));have uc:=ga.mk (Kd.Zg (v:=(.slice (some ⟨Cr,0,none⟩) bf.length dw)) (v1:=(.slice (some ⟨Cr,0,none⟩) bf.length dw)) (ok:=(fun k_=>some k_ ≠ (Sh:Value).ownBlock∧some k_ ≠ (u5:Value).ownBlock)) (by (with_reducible repeat (first|apply Kd.Xa|apply Kd.Wa|apply Kd.qb));exact Kd.Bc Rq.out (fun _ hk=>⟨⟨hk.1,hk.2.2⟩,hk.2.1⟩)) hg (.inl rfl));have Be:=ga.mk (wg (g:=za) (o:=.cells #[.slice yb Oa.length xb,.int .i64 Ka,.int .i64 Pa,.int .i64 Ja,.slice (some sj) Ga.length Ib] 45 (0,0)) (by (with_reducible repeat (first|refine Da ?_ _|refine Ea ?_|refine Ca ?_ _));exact ta.out) hg (Kd.Nt Jd.out ta.out (by decide)));have Vf:=ga.mk ((by rw [hw];exact ua (HB.out) GB6.out:Below w.heap.size w MX));clear Vc Jd mg Rq ta HB;have Vc:=Jb;have Jd:=Ob;have mg:=Vb;have Rq:=uc;have ta:=Be;have HB:=Vf;clear Jb Ob Vb uc Be Vf hg hw Fk;have wR:0 ≤ (af:Int):=of_decide_eq_true (by first|(with_reducible assumption)|assumption);have rR:af < (t115.length:Int):=of_decide_eq_true (by first|(with_reducible assumption)|assumption);obtain ⟨aab,Ran,KR⟩:=Kd.qf (Kd.Fb Rq.out).2.2 af wR rR;obtain rfl:gp=aab:=(by injection Ran);replace wR:=eq_true wR;replace rR:=eq_true rR)|((with_reducible refine Hh (b:=.append) (xs:=#[.tmp 54,.tmp 59]) rfl ?_);at_builtin;refine Kd.MG (Kd.int .i64) (w0:=w) w.heap.size rfl (.tmp 54) (.tmp 59) 22 3 (.int .i64 0) 8 rfl Try.underlying22 info3 rfl (by decide) (by omega) u5 AA (rd t115 af) [.int .i64 (rd t115 af)] (fun k_=>some k_ ≠ (Sh:Value).ownBlock∧some k_ ≠ (.slice (some ⟨Cr,0,none⟩) bf.length dw:Value).ownBlock∧some k_ ≠ (.slice (some gp) t115.length JM:Value).ownBlock) (fun _=>False) rfl rfl ?aP (fun _ hk=>hk.elim) ?aF ?aO ?aB ?aS ?aL ?_;(case aP=>exact rfl);(case aB=>exact (by repeat (first|(with_reducible first|exact HB.out|apply oa|apply ia|apply qa|refine ua ?_ Ta.out)|exact HB.out)));(case aF=>exact (fun k_ hk=>⟨Kd.fresh' (Kd.Km (by (with_reducible repeat (first|apply Kd.Xa|apply Kd.Wa|apply Kd.qb));exact Vc.out)) k_ hk,Kd.fresh' (Kd.Km (by (with_reducible repeat (first|apply Kd.Xa|apply Kd.Wa|apply Kd.qb));exact Jd.out)) k_ hk,Kd.fresh' (Kd.Km (by (with_reducible repeat (first|apply Kd.Xa|apply Kd.Wa|apply Kd.qb));exact Rq.out)) k_ hk⟩));(case aO=>exact (by (with_reducible repeat (first|apply Kd.oh|apply Kd.nh|apply Kd.Qh));exact Kd.Aq mg.out (fun _ hk=>⟨hk.1.1,⟨hk.2,hk.1.2⟩⟩)));(case aS=>exact (La (by repeat (first|(with_reducible first|exact HB.out|apply oa|apply ia|apply qa|refine ua ?_ Ta.out)|exact HB.out))));(case aL=>have:=Bab.out;omega);intro v127 tA ho hb hg hat;rw [← kQ.out] at ho;have Jb:=ga.mk (Kd.Zg (ok:=(fun k_=>some k_ ≠ (.slice (some ⟨Cr,0,none⟩) bf.length dw:Value).ownBlock∧some k_ ≠ (.slice (some gp) t115.length JM:Value).ownBlock)) (by (with_reducible repeat (first|apply Kd.Xa|apply Kd.Wa|apply Kd.qb));exact Kd.Bc Vc.out (fun _ hk=>⟨⟨hk.2,hk.1.2⟩,hk.1.1⟩)) hg hat);have Ob:=ga.mk (Kd.Zg (ok:=(fun k_=>some k_ ≠ (Sh:Value).ownBlock∧some k_ ≠ (.slice (some gp) t115.length JM:Value).ownBlock)) (by (with_reducible repeat (first|apply Kd.Xa|apply Kd.Wa|apply Kd.qb));exact Kd.Bc Jd.out (fun _ hk=>⟨⟨hk.1,hk.2.2⟩,hk.2.1⟩)) hg hat);have Vb:=ga.mk (Kd.Zg (ok:=(fun k_=>some k_ ≠ (Sh:Value).ownBlock∧some k_ ≠ (.slice (some ⟨Cr,0,none⟩) bf.length dw:Value).ownBlock)) (by (with_reducible repeat (first|apply Kd.Xa|apply Kd.Wa|apply Kd.qb));exact Kd.Bc Rq.out (fun _ hk=>⟨⟨hk.1.1,hk.2⟩,hk.1.2⟩)) hg hat);have uc:=ga.mk (wg (g:=za) (o:=.cells #[.slice yb Oa.length xb,.int .i64 Ka,.int .i64 Pa,.int .i64 Ja,.slice (some sj) Ga.length Ib] 45 (0,0)) (by (with_reducible repeat (first|refine Da ?_ _|refine Ea ?_|refine Ca ?_ _));exact ta.out) hg (Kd.pab mg.out ta.out (by decide)));have Be:=ga.mk (hb);have Vf:=ga.mk (ho);clear Vc Jd Rq ta HB mg;have Vc:=Jb;have Jd:=Ob;have Rq:=Vb;have ta:=uc;have HB:=Be;have uQ:=Vf;clear Jb Ob Vb uc Be Vf ho hb hg hat));(try simp only [← cj])
                  go_roundg k2
                  case measure=>have:=Nf.out;have:=Vo.out;omega
                  case rel=>exact ⟨(RE),(lN),(wrap64 (af + 1)),(by first|rfl|(simp;done)|(simp [*];done)),H',⟨by have:=Nf.out;have:=Vo.out;omega⟩,⟨by (try simp only [Kg]);(try simp only [cj]);(with_reducible repeat (first|apply Kd.Xa|apply Kd.Wa|apply Kd.qb));exact Kd.Bc Vc.out (fun _ hk=>⟨hk.1.1,⟨hk.2,hk.1.2⟩⟩)⟩,⟨by (try simp only [Kg]);(try simp only [cj]);(with_reducible repeat (first|apply Kd.Xa|apply Kd.Wa|apply Kd.qb));exact Kd.Bc Jd.out (fun _ hk=>⟨hk.1.1,⟨hk.2,hk.1.2⟩⟩)⟩,⟨by (try simp only [Kg]);(try simp only [cj]);(with_reducible repeat (first|apply Kd.oh|apply Kd.nh|apply Kd.Qh));exact uQ.out⟩,⟨by (try simp only [Kg]);(try simp only [cj]);(with_reducible repeat (first|apply Kd.Xa|apply Kd.Wa|apply Kd.qb));exact Kd.Bc Rq.out (fun _ hk=>⟨hk.1.1,⟨hk.1.2,hk.2⟩⟩)⟩,⟨by (try simp only [Kg]);(try simp only [cj]);(with_reducible repeat (first|refine Da ?_ _|refine Ea ?_|refine Ca ?_ _));exact ta.out⟩,⟨by repeat (first|(with_reducible first|exact HB.out|apply oa|apply ia|apply qa|refine ua ?_ Ta.out)|exact HB.out)⟩⟩
                 ·rw [if_neg yG] at H;exact absurd H (by simp)
                ·rw [if_neg PM] at H;have KW:((rd bf (rd t115 af)) == 0)=false:=beq_eq_false_iff_ne.mpr PM;have JW:((rd bf (rd t115 af)) != 0)=true:=bne_iff_ne.mpr PM;have H':=ga.mk H;clear H;obtain ⟨Pao,bao,vZ⟩:=Kd.xd Rq.out;subst vZ;have Kt:0 ≤ (af:Int):=of_decide_eq_true (by first|(with_reducible assumption)|assumption);have Jt:af < (t115.length:Int):=of_decide_eq_true (by first|(with_reducible assumption)|assumption);obtain ⟨gp,BI,Cn⟩:=Kd.qf (Kd.Fb Rq.out).2.2 af Kt Jt;cases BI;replace Kt:=eq_true Kt;replace Jt:=eq_true Jt;have ay:0 ≤ ((rd t115 af):Int):=of_decide_eq_true (by first|(with_reducible assumption)|assumption);have Zx:(rd t115 af) < (bf.length:Int):=of_decide_eq_true (by first|(with_reducible assumption)|assumption);obtain ⟨eA,xP,nk⟩:=Kd.qf (Kd.Fb Jd.out).2.2 (rd t115 af) ay Zx;obtain rfl:(⟨Cr,0,none⟩:Addr)=eA:=(by injection xP);(first|simp only [add_plain] at nk|simp only [Uo] at nk|simp only [Addr.add,Nat.zero_add] at nk|skip);replace ay:=eq_true ay;replace Zx:=eq_true Zx;go_wp2;(try simp only [← cj])
                 go_roundg k2
                 case measure=>have:=Nf.out;have:=Vo.out;omega
                 case rel=>exact ⟨(bf),(AA),(wrap64 (af + 1)),(by first|rfl|(simp;done)|(simp [*];done)),H',⟨by have:=Nf.out;have:=Vo.out;omega⟩,⟨by (try simp only [Kg]);(try simp only [cj]);(with_reducible repeat (first|apply Kd.Xa|apply Kd.Wa|apply Kd.qb));exact Vc.out⟩,⟨by (try simp only [Kg]);(try simp only [cj]);(with_reducible repeat (first|apply Kd.Xa|apply Kd.Wa|apply Kd.qb));exact Jd.out⟩,⟨by (try simp only [Kg]);(try simp only [cj]);(with_reducible repeat (first|apply Kd.oh|apply Kd.nh|apply Kd.Qh));exact mg.out⟩,⟨by (try simp only [Kg]);(try simp only [cj]);(with_reducible repeat (first|apply Kd.Xa|apply Kd.Wa|apply Kd.qb));exact Rq.out⟩,⟨by (try simp only [Kg]);(try simp only [cj]);(with_reducible repeat (first|refine Da ?_ _|refine Ea ?_|refine Ca ?_ _));exact ta.out⟩,⟨by repeat (first|(with_reducible first|exact HB.out|apply oa|apply ia|apply qa|refine ua ?_ Ta.out)|exact HB.out)⟩⟩
               ·rw [if_neg BL] at H;exact absurd H (by simp)
              ·rw [if_neg Ox] at H;exact absurd H (by simp)
             ·rw [if_neg cz] at H;exact absurd H (by simp)
            ·rw [if_neg iw] at H;have Zo:decide (af < (t115.length:Int))=false:=decide_eq_false iw;clear iw;have H':=ga.mk H;clear H;obtain ⟨waw,qav,Han⟩:=Kd.xd Rq.out;subst Han;go_wp2;(try simp only [← Kg,← cj])
             go_roundg k2
             case measure=>have:=Nf.out;have:=Vo.out;omega
             case rel=>exact ⟨(bf),(AA),H',⟨by have:=Nf.out;have:=Vo.out;omega⟩,⟨by (try simp only [Kg]);(try simp only [cj]);(with_reducible repeat (first|apply Kd.Xa|apply Kd.Wa|apply Kd.qb));exact Kd.Bc Vc.out (fun _ hk=>⟨hk.1,hk.2.1⟩)⟩,⟨by (try simp only [Kg]);(try simp only [cj]);(with_reducible repeat (first|apply Kd.Xa|apply Kd.Wa|apply Kd.qb));exact Kd.Bc Jd.out (fun _ hk=>⟨hk.1,hk.2.1⟩)⟩,⟨by (try simp only [Kg]);(try simp only [cj]);(with_reducible repeat (first|apply Kd.oh|apply Kd.nh|apply Kd.Qh));exact Kd.Aq mg.out (fun _ hk=>⟨hk.1,hk.2.1⟩)⟩,⟨by (try simp only [Kg]);(try simp only [cj]);(with_reducible repeat (first|refine Da ?_ _|refine Ea ?_|refine Ca ?_ _));exact ta.out⟩,⟨by repeat (first|(with_reducible first|exact HB.out|apply oa|apply ia|apply qa|refine ua ?_ Ta.out)|exact HB.out)⟩⟩
         ·rw [if_neg ux] at H;exact absurd H (by simp)
        ·rw [if_neg TA] at H;exact absurd H (by simp)
       ·rw [if_neg vw] at H;exact absurd H (by simp)
      ·rw [if_neg Mt] at H;exact absurd H (by simp)
     ·rw [if_neg Ir] at H;have vo:decide (0 < (Ba.length:Int))=false:=decide_eq_false Ir;have jw:decide (0 < Ba.length)=false:=decide_eq_false (by omega);clear Ir;have H':=ga.mk H;clear H;obtain ⟨Oao,aao,uZ,_⟩:=Kd.qw mg.out;subst uZ;go_wp2
      go_loopg [3,8] k1 (fun kq v3 v8 w'=>∃ (Vi:List Int) (je:Int),v8 = .int .i64 je∧ga (Gb.l2 kq Vi Wb je=some r)∧ga (kq ≤ k1)∧ga (Kd.R (Kd.int .i64) 3 w' w.heap.size (fun k_=>some k_ ≠ ((.slice (some ⟨Cr,0,none⟩) Wb.length dw):Value).ownBlock) v3 Vi)∧ga (Kd.R (Kd.int .i64) 3 w' w.heap.size (fun k_=>some k_ ≠ (v3:Value).ownBlock) (.slice (some ⟨Cr,0,none⟩) Wb.length dw) Wb)∧ga (w'.heap[za]? = some (.cells #[(.slice yb Oa.length xb),.int .i64 Ka,.int .i64 Pa,.int .i64 Ja,(.slice Rb Ga.length Ib)] 45 (0,0)))∧ga (Below w.heap.size w w'))
      case atStart=>exact ⟨(qe),(0),(by first|rfl|(simp;done)|(simp [*];done)),H',⟨Nat.le_refl _⟩,⟨by (try simp only [Kg]);(with_reducible repeat (first|apply Kd.Xa|apply Kd.Wa|apply Kd.qb));exact Kd.Bc Vc.out (fun _ hk=>hk.1)⟩,⟨by (try simp only [Kg]);(with_reducible repeat (first|apply Kd.Xa|apply Kd.Wa|apply Kd.qb));exact Kd.Bc Jd.out (fun _ hk=>hk.1)⟩,⟨by (try simp only [Kg]);(with_reducible repeat (first|refine Da ?_ _|refine Ea ?_|refine Ca ?_ _));exact ta.out⟩,⟨by repeat (first|(with_reducible first|exact HB.out|apply oa|apply ia|apply qa|refine ua ?_ Ta.out)|exact HB.out)⟩⟩
      case round =>
       clear H'
       try clear c1
       try clear p1
       try clear q1
       try clear hx1
       try clear qi1
       try clear c2
       try clear p2
       try clear q2
       try clear c3
       try clear p3
       try clear q3
       try clear vu
       try clear hf3
       try clear c5
       try clear Il
       try clear sx
       try clear c6
       try clear p6
       try clear q6
       try clear SB
       try clear qi6
       try clear hf6
       try clear c8
       try clear c9
       try clear NP
       try clear p11
       try clear CN
       try clear Eal
       try clear fal
       try clear p12
       try clear q12
       try clear Gau
       try clear Ir
       try clear vo
       try clear jw
       try clear Mt
       try clear tB
       try clear DL
       try clear vw
       try clear JP
       try clear TA
       try clear BG
       try clear ux
       try clear Zz
       try clear AG
       try clear PE
       try clear cY
       try clear iw
       try clear Zo
       try clear cz
       try clear gw
       try clear Ox
       try clear sB
       try clear BL
       try clear EP
       try clear PM
       try clear KW
       try clear JW
       try clear V4
       try clear U4
       try clear Fau
       try clear Yau
       try clear yG
       try clear Nj
       try clear Mj
       try clear Lj
       try clear Kj
       try clear Jj
       try clear qo
       try clear oo
       try clear mo
       try clear jo
       try clear fo
       try clear Ij
       try clear Hj
       try clear Gj
       try clear Fj
       try clear Ej
       try clear Vn
       try clear Un
       try clear Tn
       try clear Sn
       try clear Rn
       try clear Yr
       try clear mm
       try clear Xr
       try clear Wr
       try clear Vr
       try clear Ur
       try clear Cn
       try clear nk
       try clear LR
       try clear KR
       try clear qY
       try clear kB
       try clear p1
       try clear p11
       try clear EN
       try clear Yq
       try clear Kt
       try clear ay
       try clear xR
       try clear wR
       try clear p2
       try clear V4
       try clear p6
       try clear q1
       try clear CN
       try clear BN
       try clear Wq
       try clear Jt
       try clear Zx
       try clear sR
       try clear rR
       try clear q2
       try clear cY
       try clear U4
       try clear q6
       (try clear HA);(try clear Vo);(try clear Vc);(try clear Jd);(try clear ta);(try clear HB);obtain ⟨Vi,je,rfl,HA,Vo,Vc,Jd,ta,HB⟩:=hrel;cases gk with
       | zero=>exact absurd HA.out (by simp [Gb.l2])
       | succ k2 =>
        have H:=HA.out;clear HA;simp only [Gb.l2] at H
        by_cases DP:je < (Wb.length:Int)
        ·rw [if_pos DP] at H;have AW:decide (je < (Wb.length:Int))=true:=decide_eq_true DP;clear DP
         by_cases AL:0 ≤ je
         ·rw [if_pos AL] at H;have Faa:decide (0 ≤ je)=true:=decide_eq_true AL;clear AL
          by_cases Yz:(rd Wb je)=1
          ·rw [if_pos Yz] at H;have wG:((rd Wb je) == 1)=true:=beq_iff_eq.mpr Yz;have vG:((rd Wb je) != 1)=false:=bne_eq_false_iff_eq.mpr Yz;clear Yz
           by_cases mE:Vi.length < 17592186044416
           ·rw [if_pos mE] at H;have Aab:=ga.mk mE;clear mE;obtain ⟨G4,rF⟩:∃ y_:List Int,y_=(Vi ++ [je]):=⟨_,rfl⟩;replace H:(Gb.l2 k2 G4 Wb (wrap64 (je + 1)))=some r:=by first|(rw [rF];with_reducible exact H)|(have Od:=(Option.bind_some _ _).symm.trans H;rw [rF];with_reducible exact Od)|(have Od:=(Option.bind_some _ _).symm.trans H;with_reducible exact Od)|with_reducible exact H|(rw [rF];exact H)|exact H
            have sab:=ga.mk rF;clear rF;have H':=ga.mk H;clear H;have FH:0 ≤ (je:Int):=of_decide_eq_true (by first|(with_reducible assumption)|assumption);have zH:je < (Wb.length:Int):=of_decide_eq_true (by first|(with_reducible assumption)|assumption);obtain ⟨TP,BZ,Fp⟩:=Kd.qf (Kd.Fb Jd.out).2.2 je FH zH;obtain rfl:(⟨Cr,0,none⟩:Addr)=TP:=(by injection BZ);(first|simp only [add_plain] at Fp|simp only [Uo] at Fp|simp only [Addr.add,Nat.zero_add] at Fp|skip);replace FH:=eq_true FH;replace zH:=eq_true zH;go_wp2_with (first|((with_reducible refine Hh (b:=.append) (xs:=#[.tmp 72,.tmp 74]) rfl ?_);at_builtin;refine Kd.qp (Kd.int .i64) (w0:=w) w.heap.size rfl (.tmp 72) (.tmp 74) 22 3 (.int .i64 0) 8 rfl Try.underlying22 info3 rfl (by decide) (by omega) u3 Vi je [.int .i64 je] (fun k_=>some k_ ≠ (.slice (some ⟨Cr,0,none⟩) Wb.length dw:Value).ownBlock) (fun _=>False) rfl rfl ?aP (fun _ hk=>hk.elim) ?aF ?aO ?aB ?aS ?aL ?_;(case aP=>exact rfl);(case aB=>exact (by repeat (first|(with_reducible first|exact HB.out|apply oa|apply ia|apply qa|refine ua ?_ Ta.out)|exact HB.out)));(case aF=>exact (fun k_ hk=>Kd.fresh' (Kd.Km (by (with_reducible repeat (first|apply Kd.Xa|apply Kd.Wa|apply Kd.qb));exact Jd.out)) k_ hk));(case aO=>exact (by (with_reducible repeat (first|apply Kd.Xa|apply Kd.Wa|apply Kd.qb));exact Vc.out));(case aS=>exact (La (by repeat (first|(with_reducible first|exact HB.out|apply oa|apply ia|apply qa|refine ua ?_ Ta.out)|exact HB.out))));(case aL=>have:=Aab.out;omega);intro v131 Hx ho hb hg hat;rw [← sab.out] at ho;have Jb:=ga.mk (Kd.Zg (ok:=(fun _=>True)) (by (with_reducible repeat (first|apply Kd.Xa|apply Kd.Wa|apply Kd.qb));exact Kd.Bc Jd.out (fun _ hk=>⟨trivial,hk⟩)) hg hat);have Ob:=ga.mk (wg (g:=za) (o:=.cells #[.slice yb Oa.length xb,.int .i64 Ka,.int .i64 Pa,.int .i64 Ja,.slice Rb Ga.length Ib] 45 (0,0)) (by (with_reducible repeat (first|refine Da ?_ _|refine Ea ?_|refine Ca ?_ _));exact ta.out) hg (Kd.Nt Vc.out ta.out (by decide)));have Vb:=ga.mk (hb);have uc:=ga.mk (ho);clear Jd ta HB Vc;have Jd:=Jb;have ta:=Ob;have HB:=Vb;have eac:=uc;clear Jb Ob Vb uc ho hb hg hat))
            go_roundg k2
            case measure=>have:=Nf.out;have:=Vo.out;omega
            case rel=>exact ⟨(G4),(wrap64 (je + 1)),(by first|rfl|(simp;done)|(simp [*];done)),H',⟨by have:=Nf.out;have:=Vo.out;omega⟩,⟨by (try simp only [Kg]);(with_reducible repeat (first|apply Kd.Xa|apply Kd.Wa|apply Kd.qb));exact eac.out⟩,⟨by (try simp only [Kg]);(with_reducible repeat (first|apply Kd.Xa|apply Kd.Wa|apply Kd.qb));exact Kd.Bc Jd.out (fun _ hk=>hk.2)⟩,⟨by (try simp only [Kg]);(with_reducible repeat (first|refine Da ?_ _|refine Ea ?_|refine Ca ?_ _));exact ta.out⟩,⟨by repeat (first|(with_reducible first|exact HB.out|apply oa|apply ia|apply qa|refine ua ?_ Ta.out)|exact HB.out)⟩⟩
           ·rw [if_neg mE] at H;exact absurd H (by simp)
          ·rw [if_neg Yz] at H;have wG:((rd Wb je) == 1)=false:=beq_eq_false_iff_ne.mpr Yz;have vG:((rd Wb je) != 1)=true:=bne_iff_ne.mpr Yz;have H':=ga.mk H;clear H;have FH:0 ≤ (je:Int):=of_decide_eq_true (by first|(with_reducible assumption)|assumption);have zH:je < (Wb.length:Int):=of_decide_eq_true (by first|(with_reducible assumption)|assumption);obtain ⟨TP,BZ,Fp⟩:=Kd.qf (Kd.Fb Jd.out).2.2 je FH zH;obtain rfl:(⟨Cr,0,none⟩:Addr)=TP:=(by injection BZ);(first|simp only [add_plain] at Fp|simp only [Uo] at Fp|simp only [Addr.add,Nat.zero_add] at Fp|skip);replace FH:=eq_true FH;replace zH:=eq_true zH;go_wp2
           go_roundg k2
           case measure=>have:=Nf.out;have:=Vo.out;omega
           case rel=>exact ⟨(Vi),(wrap64 (je + 1)),(by first|rfl|(simp;done)|(simp [*];done)),H',⟨by have:=Nf.out;have:=Vo.out;omega⟩,⟨by (try simp only [Kg]);(with_reducible repeat (first|apply Kd.Xa|apply Kd.Wa|apply Kd.qb));exact Vc.out⟩,⟨by (try simp only [Kg]);(with_reducible repeat (first|apply Kd.Xa|apply Kd.Wa|apply Kd.qb));exact Jd.out⟩,⟨by (try simp only [Kg]);(with_reducible repeat (first|refine Da ?_ _|refine Ea ?_|refine Ca ?_ _));exact ta.out⟩,⟨by repeat (first|(with_reducible first|exact HB.out|apply oa|apply ia|apply qa|refine ua ?_ Ta.out)|exact HB.out)⟩⟩
         ·rw [if_neg AL] at H;exact absurd H (by simp)
        ·rw [if_neg DP] at H;have AW:decide (je < (Wb.length:Int))=false:=decide_eq_false DP;clear DP;obtain rfl:=Option.some.inj H;go_wp2;go_ret;exact ⟨_,by first|rfl|(simp [Na,Ma] <;> rfl)|(simp [*,Na,Ma] <;> rfl),by (with_reducible repeat (first|apply Kd.Xa|apply Kd.Wa|apply Kd.qb));exact Kd.Bc Vc.out (fun _ hk=>trivial),by repeat (first|(with_reducible first|exact HB.out|apply oa|apply ia|apply qa|refine ua ?_ Ta.out)|exact HB.out)⟩
  ·rw [if_neg c5] at H;exact absurd H (by simp)
 ·replace c3:=Bool.eq_false_iff.mpr c3;subst c3;have H1:(some qe)=some r:=by rw [if_neg (show ¬ (false=true) by decide)] at H;exact H
  clear H;have H:=H1;clear H1;obtain rfl:=Option.some.inj H;go_enter Try.func68,Try.ntmps68;go_wp2_with (first|((with_reducible refine Db (N:=1) rfl ?_);refine Lb ?hg (N:=1) ?hd (cs:=#[.slice yb Oa.length xb,.int .i64 Ka,.int .i64 Pa,.int .i64 Ja,.slice Rb Ga.length Ib]) (t:=45) ?hr ?_;(case hd=>rfl);(case hg=>rfl);(case hr=>first|(go_simp;done)|(go_simp;rfl));intro za hg w47 Tb hb;have Jb:=ga.mk (Ra (by repeat (first|(with_reducible first|exact HB.out|apply oa|apply ia|apply qa)|exact HB.out)) hb);have Ob:=ga.mk (Tb);have Vb:=ga.mk ((by rw [hg];exact (La (by repeat (first|(with_reducible first|exact HB.out|apply oa|apply ia|apply qa)|exact HB.out))):w.heap.size ≤ za));have uc:=ga.mk ((by rw [hg];exact (La (by repeat (first|(with_reducible first|exact HB.out|apply oa|apply ia|apply qa)|exact HB.out))):w.heap.size ≤ za));clear HB;have HB:=Jb;have ta:=Ob;have ue:=Vb;have Ta:=uc;clear Jb Ob Vb uc hb Tb hg)|((with_reducible refine Db (N:=9) rfl ?_);refine Kd.Tk (Kd.int .i64) _ 3 ?hg (N:=9) ?hd (xs:=([]:List Int)) (inner:=[]) (ok:=fun _=>True) (Ah:=fun _=>True) ?hr ?hp (fun _ hk=>hk) trivial (Below.refl _ _) (Nat.le_refl _) (by simp) ?_;(case hd=>rfl);(case hg=>rfl);(case hr=>first|(go_simp;done)|(go_simp;rfl));(case hp=>exact (Ld.none _ _));intro Sh L4 vO hb Um Gf;clear Um Gf;(first|rw [← Aj.out] at vO|(simp only [Int.reduceToNat] at vO;rw [← Aj.out] at vO));have Jb:=ga.mk (Kd.Fe vO (La (by repeat (first|(with_reducible first|exact HB.out|apply oa|apply ia|apply qa|refine ua ?_ Ta.out)|exact HB.out))));have Ob:=ga.mk (Va (g:=za) (o:=.cells #[.slice yb Oa.length xb,.int .i64 Ka,.int .i64 Pa,.int .i64 Ja,.slice Rb Ga.length Ib] 45 (0,0)) (by (with_reducible repeat (first|refine Da ?_ _|refine Ea ?_|refine Ca ?_ _));exact ta.out) hb);have Vb:=ga.mk (Ra (by repeat (first|(with_reducible first|exact HB.out|apply oa|apply ia|apply qa|refine ua ?_ Ta.out)|exact HB.out)) hb);clear ta HB;have dg:=Jb;have ta:=Ob;have HB:=Vb;clear Jb Ob Vb hb vO;have DT:L4.cell? ⟨za,0,none⟩=some (.slice yb Oa.length xb):=(ja ta.out 0).trans rfl;have CT:L4.cell? ⟨za,1,none⟩=some (.int .i64 Ka):=(ja ta.out 1).trans rfl;have zT:L4.cell? ⟨za,2,none⟩=some (.int .i64 Pa):=(ja ta.out 2).trans rfl;have yT:L4.cell? ⟨za,3,none⟩=some (.int .i64 Ja):=(ja ta.out 3).trans rfl;have xT:L4.cell? ⟨za,4,none⟩=some (.slice Rb Ga.length Ib):=(ja ta.out 4).trans rfl;have dS:=aa ta.out 0;have cS:=aa ta.out 1;have bS:=aa ta.out 2;have ZR:=aa ta.out 3;have YR:=aa ta.out 4)|((with_reducible refine zb (f:=66) rfl ?_);refine Fc (some 11) rfl rfl Try.func66 (by kernel_rfl) rfl #[.agg #[.slice yb Oa.length xb,.int .i64 Ka,.int .i64 Pa,.int .i64 Ja,.slice Rb Ga.length Ib]] rfl (by (try simp only [List.map_toArray,List.map_cons,List.map_nil]);first|done|rfl|(simp only [List.length_drop,List.length_take];rfl)) ?_;(with_reducible refine (Ua.calls k _ _ Oa Ka Pa Ja _ _ Ga false _ ?Ic ?Gc ?ee ?Zd A2.out).mono ?_);(case Ic=>repeat (first|exact (Kd.Mb Qe.out HB.out)|(with_reducible refine Kd.ec ?_ _)|(with_reducible refine Kd.dc ?_ _)|(with_reducible refine Kd.Dc ?_)));(case Gc=>exact gf.out);(case ee=>repeat (first|exact (Kd.Mb ug.out HB.out)|(with_reducible refine Kd.ec ?_ _)|(with_reducible refine Kd.dc ?_ _)|(with_reducible refine Kd.Dc ?_)));(case Zd=>exact Kh.out);rintro e w51 ⟨rfl,hb⟩;refine ⟨_,rfl,?_⟩;have Jb:=ga.mk (Kd.ld (by (with_reducible repeat (first|apply Kd.Xa|apply Kd.Wa|apply Kd.qb));exact dg.out) hb);have Ob:=ga.mk (Va (g:=za) (o:=.cells #[.slice yb Oa.length xb,.int .i64 Ka,.int .i64 Pa,.int .i64 Ja,.slice Rb Ga.length Ib] 45 (0,0)) (by (with_reducible repeat (first|refine Da ?_ _|refine Ea ?_|refine Ca ?_ _));exact ta.out) hb);have Vb:=ga.mk (Ra (by repeat (first|(with_reducible first|exact HB.out|apply oa|apply ia|apply qa|refine ua ?_ Ta.out)|exact HB.out)) hb);clear dg ta HB;have dg:=Jb;have ta:=Ob;have HB:=Vb;clear Jb Ob Vb;(try clear hb);(try clear mj);(try clear hk);(try clear hi)));go_ret;exact ⟨_,by first|rfl|(simp [Na,Ma] <;> rfl)|(simp [*,Na,Ma] <;> rfl),by (with_reducible repeat (first|apply Kd.Xa|apply Kd.Wa|apply Kd.qb));exact dg.out,by repeat (first|(with_reducible first|exact HB.out|apply oa|apply ia|apply qa|refine ua ?_ Ta.out)|exact HB.out)⟩
end Go.Proofs.Ytoomcmaifgkkfaa.P
