import Derived.Test.YtoomcmaifgkkfaaQEdge1
import Derived.Test.YtoomcmaifgkkfaaQEdge2
set_option maxHeartbeats 8000000
set_option maxRecDepth 100000
section
namespace Go.Proofs.Ytoomcmaifgkkfaa.P
open Go.RowKit Go.Proofs.Ia.Zb Go.Proofs.Ia.Qd Go.Proofs.Ia.Me
set_option linter.unusedVariables false
set_option linter.unusedSimpArgs false
attribute [local go_sem] Wi Ui jk fk Ch Bh Vi Ti
def ig.f (Ma:List (ud)) (La:Int) (Na:Int) (Ka:Int) (Pc:Int):Option (List Int):=if La=0 then (some (([Ka]:List Int))) else (if La=1 then (some (([Ka,Pc]:List Int))) else (some (([]:List Int))))
theorem ig.calls (xb:Option Addr) (qb:Nat) (Ma:List (ud)) (La:Int) (Na:Int) (Ka:Int) (Pc:Int) (r:List Int) (w:World) (Re:Kd.C sg w xb Ma.length Ma) (Pe:Ma.length ≤ qb) (h:ig.f Ma La Na Ka Pc=some r) :
  Calls Try.prog 85 #[.agg #[.slice xb Ma.length qb,.int .i64 La,.int .i64 Na,.int .i64 Ka,.int .i64 Pc]] w fun e w'=>∃ Kp:Value,e = .returned (Kp)∧Kd.R (Kd.int .i64) 3 w' w.heap.size (fun _=>True) Kp r∧Below w.heap.size w w':=by
 have dA:=Try.underlying83;have Ue:=aa.mk Re;have af:=aa.mk Pe;clear Re Pe;have HB:=aa.mk (Below.refl w.heap.size w);have H:(if La=0 then (some (([Ka]:List Int))) else (if La=1 then (some (([Ka,Pc]:List Int))) else (some (([]:List Int)))))=some r:=h;clear h
 by_cases c2:La=0
 ·rw [if_pos c2] at H;have Yt:(La == 0)=true:=beq_iff_eq.mpr c2;have ow:(La != 0)=false:=bne_eq_false_iff_eq.mpr c2;clear c2;obtain ⟨ze,xg⟩:∃ y_:List Int,y_=(([Ka]:List Int)):=⟨_,rfl⟩;replace H:(some ze)=some r:=by first|(rw [xg];with_reducible exact H)|(have Ud:=(Option.bind_some _ _).symm.trans H;rw [xg];with_reducible exact Ud)|(have Ud:=(Option.bind_some _ _).symm.trans H;with_reducible exact Ud)|with_reducible exact H|(rw [xg];exact H)|exact H
  have Fh:=aa.mk xg;clear xg;obtain rfl:=Option.some.inj H;go_enter Try.func85,Try.ntmps85;go_wp2_with (first|((with_reducible refine Bb (N:=1) rfl ?_);refine Ob ?hg (N:=1) ?hd (cs:=#[.slice xb Ma.length qb,.int .i64 La,.int .i64 Na,.int .i64 Ka,.int .i64 Pc]) (t:=83) ?hr ?_;(case hd=>rfl);(case hg=>rfl);(case hr=>first|(go_simp;done)|(go_simp;rfl));intro za hg w3 oc hb;have Cb:=aa.mk (Oa (by repeat (first|(with_reducible first|exact HB.out|apply oa|apply ia|apply qa)|exact HB.out)) hb);have Lb:=aa.mk (oc);have Pb:=aa.mk ((by rw [hg];exact (Ja (by repeat (first|(with_reducible first|exact HB.out|apply oa|apply ia|apply qa)|exact HB.out))):w.heap.size ≤ za));have Ec:=aa.mk ((by rw [hg];exact (Ja (by repeat (first|(with_reducible first|exact HB.out|apply oa|apply ia|apply qa)|exact HB.out))):w.heap.size ≤ za));clear HB;have HB:=Cb;have ta:=Lb;have He:=Pb;have Ua:=Ec;clear Cb Lb Pb Ec hb oc hg;have M7:w3.cell? ⟨za,0,none⟩=some (.slice xb Ma.length qb):=(ja ta.out 0).trans rfl;have L7:w3.cell? ⟨za,1,none⟩=some (.int .i64 La):=(ja ta.out 1).trans rfl;have K7:w3.cell? ⟨za,2,none⟩=some (.int .i64 Na):=(ja ta.out 2).trans rfl;have J7:w3.cell? ⟨za,3,none⟩=some (.int .i64 Ka):=(ja ta.out 3).trans rfl;have I7:w3.cell? ⟨za,4,none⟩=some (.int .i64 Pc):=(ja ta.out 4).trans rfl;have j7:=ga ta.out 0;have e7:=ga ta.out 1;have Z6:=ga ta.out 2;have Y6:=ga ta.out 3;have X6:=ga ta.out 4)|((with_reducible refine Bb (N:=9) rfl ?_);refine Kd.Bl (Kd.int .i64) _ 3 ?hg (N:=9) ?hd (xs:=([Ka]:List Int)) (inner:=[.int .i64 Ka]) (ok:=fun _=>True) (Oh:=fun _=>True) ?hr ?hp (fun _ hk=>hk) trivial (Below.refl _ _) (Nat.le_refl _) (by simp) ?_;(case hd=>rfl);(case hg=>rfl);(case hr=>first|(go_simp;done)|(go_simp;rfl));(case hp=>exact (Td.one (show Kd.M (Kd.int .i64) _ _ _ Ka [.int .i64 Ka] from rfl) (Td.none _ _)));intro Ji w5 yJ hb gl Ee;clear gl Ee;(first|rw [← Fh.out] at yJ|(simp only [Int.reduceToNat] at yJ;rw [← Fh.out] at yJ));have Cb:=aa.mk (Kd.xe yJ (Ja (by repeat (first|(with_reducible first|exact HB.out|apply oa|apply ia|apply qa|refine ua ?_ Ua.out)|exact HB.out))));have Lb:=aa.mk (Xa (g:=za) (o:=.cells #[.slice xb Ma.length qb,.int .i64 La,.int .i64 Na,.int .i64 Ka,.int .i64 Pc] 83 (0,0)) (by (with_reducible repeat (first|refine Aa ?_ _|refine Fa ?_|refine Ba ?_ _));exact ta.out) hb);have Pb:=aa.mk (Oa (by repeat (first|(with_reducible first|exact HB.out|apply oa|apply ia|apply qa|refine ua ?_ Ua.out)|exact HB.out)) hb);clear ta HB;have ee:=Cb;have ta:=Lb;have HB:=Pb;clear Cb Lb Pb hb yJ));go_ret;exact ⟨_,by first|rfl|(simp [Ra,Qa] <;> rfl)|(simp [*,Ra,Qa] <;> rfl),by (with_reducible repeat (first|apply Kd.Va|apply Kd.Wa|apply Kd.jb));exact ee.out,by repeat (first|(with_reducible first|exact HB.out|apply oa|apply ia|apply qa|refine ua ?_ Ua.out)|exact HB.out)⟩
 ·rw [if_neg c2] at H;have Yt:(La == 0)=false:=beq_eq_false_iff_ne.mpr c2;have ow:(La != 0)=true:=bne_iff_ne.mpr c2
  by_cases c7:La=1
  ·rw [if_pos c7] at H;have Xt:(La == 1)=true:=beq_iff_eq.mpr c7;have nD:(La != 1)=false:=bne_eq_false_iff_eq.mpr c7;clear c7;obtain ⟨ef,yh⟩:∃ y_:List Int,y_=(([Ka,Pc]:List Int)):=⟨_,rfl⟩;replace H:(some ef)=some r:=by first|(rw [yh];with_reducible exact H)|(have Ud:=(Option.bind_some _ _).symm.trans H;rw [yh];with_reducible exact Ud)|(have Ud:=(Option.bind_some _ _).symm.trans H;with_reducible exact Ud)|with_reducible exact H|(rw [yh];exact H)|exact H
   have Br:=aa.mk yh;clear yh;obtain rfl:=Option.some.inj H;go_enter Try.func85,Try.ntmps85;go_wp2_with (first|((with_reducible refine Bb (N:=1) rfl ?_);refine Ob ?hg (N:=1) ?hd (cs:=#[.slice xb Ma.length qb,.int .i64 La,.int .i64 Na,.int .i64 Ka,.int .i64 Pc]) (t:=83) ?hr ?_;(case hd=>rfl);(case hg=>rfl);(case hr=>first|(go_simp;done)|(go_simp;rfl));intro za hg w8 oc hb;have Cb:=aa.mk (Oa (by repeat (first|(with_reducible first|exact HB.out|apply oa|apply ia|apply qa)|exact HB.out)) hb);have Lb:=aa.mk (oc);have Pb:=aa.mk ((by rw [hg];exact (Ja (by repeat (first|(with_reducible first|exact HB.out|apply oa|apply ia|apply qa)|exact HB.out))):w.heap.size ≤ za));have Ec:=aa.mk ((by rw [hg];exact (Ja (by repeat (first|(with_reducible first|exact HB.out|apply oa|apply ia|apply qa)|exact HB.out))):w.heap.size ≤ za));clear HB;have HB:=Cb;have ta:=Lb;have He:=Pb;have Ua:=Ec;clear Cb Lb Pb Ec hb oc hg;have Ip:w8.cell? ⟨za,0,none⟩=some (.slice xb Ma.length qb):=(ja ta.out 0).trans rfl;have Hp:w8.cell? ⟨za,1,none⟩=some (.int .i64 La):=(ja ta.out 1).trans rfl;have Gp:w8.cell? ⟨za,2,none⟩=some (.int .i64 Na):=(ja ta.out 2).trans rfl;have Fp:w8.cell? ⟨za,3,none⟩=some (.int .i64 Ka):=(ja ta.out 3).trans rfl;have Ep:w8.cell? ⟨za,4,none⟩=some (.int .i64 Pc):=(ja ta.out 4).trans rfl;have Dp:=ga ta.out 0;have Cp:=ga ta.out 1;have Bp:=ga ta.out 2;have Ap:=ga ta.out 3;have yp:=ga ta.out 4)|((with_reducible refine Bb (N:=16) rfl ?_);refine Kd.Bl (Kd.int .i64) _ 3 ?hg (N:=16) ?hd (xs:=([Ka,Pc]:List Int)) (inner:=[.int .i64 Ka,.int .i64 Pc]) (ok:=fun _=>True) (Oh:=fun _=>True) ?hr ?hp (fun _ hk=>hk) trivial (Below.refl _ _) (Nat.le_refl _) (by simp) ?_;(case hd=>rfl);(case hg=>rfl);(case hr=>first|(go_simp;done)|(go_simp;rfl));(case hp=>exact (Td.one (show Kd.M (Kd.int .i64) _ _ _ Ka [.int .i64 Ka] from rfl) (Td.one (show Kd.M (Kd.int .i64) _ _ _ Pc [.int .i64 Pc] from rfl) (Td.none _ _))));intro QD Nq xp hb gl Ee;clear gl Ee;(first|rw [← Br.out] at xp|(simp only [Int.reduceToNat] at xp;rw [← Br.out] at xp));have Cb:=aa.mk (Kd.xe xp (Ja (by repeat (first|(with_reducible first|exact HB.out|apply oa|apply ia|apply qa|refine ua ?_ Ua.out)|exact HB.out))));have Lb:=aa.mk (Xa (g:=za) (o:=.cells #[.slice xb Ma.length qb,.int .i64 La,.int .i64 Na,.int .i64 Ka,.int .i64 Pc] 83 (0,0)) (by (with_reducible repeat (first|refine Aa ?_ _|refine Fa ?_|refine Ba ?_ _));exact ta.out) hb);have Pb:=aa.mk (Oa (by repeat (first|(with_reducible first|exact HB.out|apply oa|apply ia|apply qa|refine ua ?_ Ua.out)|exact HB.out)) hb);clear ta HB;have Mq:=Cb;have ta:=Lb;have HB:=Pb;clear Cb Lb Pb hb xp));go_ret;exact ⟨_,by first|rfl|(simp [Ra,Qa] <;> rfl)|(simp [*,Ra,Qa] <;> rfl),by (with_reducible repeat (first|apply Kd.Va|apply Kd.Wa|apply Kd.jb));exact Mq.out,by repeat (first|(with_reducible first|exact HB.out|apply oa|apply ia|apply qa|refine ua ?_ Ua.out)|exact HB.out)⟩
  ·rw [if_neg c7] at H;have Xt:(La == 1)=false:=beq_eq_false_iff_ne.mpr c7;have nD:(La != 1)=true:=bne_iff_ne.mpr c7;obtain ⟨sC,Kk⟩:∃ y_:List Int,y_=(([]:List Int)):=⟨_,rfl⟩;replace H:(some sC)=some r:=by first|(rw [Kk];with_reducible exact H)|(have Ud:=(Option.bind_some _ _).symm.trans H;rw [Kk];with_reducible exact Ud)|(have Ud:=(Option.bind_some _ _).symm.trans H;with_reducible exact Ud)|with_reducible exact H|(rw [Kk];exact H)|exact H
   have Hw:=aa.mk Kk;clear Kk;obtain rfl:=Option.some.inj H;go_enter Try.func85,Try.ntmps85;go_wp2_with (first|((with_reducible refine Bb (N:=1) rfl ?_);refine Ob ?hg (N:=1) ?hd (cs:=#[.slice xb Ma.length qb,.int .i64 La,.int .i64 Na,.int .i64 Ka,.int .i64 Pc]) (t:=83) ?hr ?_;(case hd=>rfl);(case hg=>rfl);(case hr=>first|(go_simp;done)|(go_simp;rfl));intro za hg DA oc hb;have Cb:=aa.mk (Oa (by repeat (first|(with_reducible first|exact HB.out|apply oa|apply ia|apply qa)|exact HB.out)) hb);have Lb:=aa.mk (oc);have Pb:=aa.mk ((by rw [hg];exact (Ja (by repeat (first|(with_reducible first|exact HB.out|apply oa|apply ia|apply qa)|exact HB.out))):w.heap.size ≤ za));have Ec:=aa.mk ((by rw [hg];exact (Ja (by repeat (first|(with_reducible first|exact HB.out|apply oa|apply ia|apply qa)|exact HB.out))):w.heap.size ≤ za));clear HB;have HB:=Cb;have ta:=Lb;have He:=Pb;have Ua:=Ec;clear Cb Lb Pb Ec hb oc hg;have Vt:DA.cell? ⟨za,0,none⟩=some (.slice xb Ma.length qb):=(ja ta.out 0).trans rfl;have Ut:DA.cell? ⟨za,1,none⟩=some (.int .i64 La):=(ja ta.out 1).trans rfl;have Tt:DA.cell? ⟨za,2,none⟩=some (.int .i64 Na):=(ja ta.out 2).trans rfl;have St:DA.cell? ⟨za,3,none⟩=some (.int .i64 Ka):=(ja ta.out 3).trans rfl;have Rt:DA.cell? ⟨za,4,none⟩=some (.int .i64 Pc):=(ja ta.out 4).trans rfl;have Lt:=ga ta.out 0;have Kt:=ga ta.out 1;have Jt:=ga ta.out 2;have Ht:=ga ta.out 3;have Gt:=ga ta.out 4)|((with_reducible refine Bb (N:=17) rfl ?_);refine Kd.Bl (Kd.int .i64) _ 3 ?hg (N:=17) ?hd (xs:=([]:List Int)) (inner:=[]) (ok:=fun _=>True) (Oh:=fun _=>True) ?hr ?hp (fun _ hk=>hk) trivial (Below.refl _ _) (Nat.le_refl _) (by simp) ?_;(case hd=>rfl);(case hg=>rfl);(case hr=>first|(go_simp;done)|(go_simp;rfl));(case hp=>exact (Td.none _ _));intro v109 cB Wk hb gl Ee;clear gl Ee;(first|rw [← Hw.out] at Wk|(simp only [Int.reduceToNat] at Wk;rw [← Hw.out] at Wk));have Cb:=aa.mk (Kd.xe Wk (Ja (by repeat (first|(with_reducible first|exact HB.out|apply oa|apply ia|apply qa|refine ua ?_ Ua.out)|exact HB.out))));have Lb:=aa.mk (Xa (g:=za) (o:=.cells #[.slice xb Ma.length qb,.int .i64 La,.int .i64 Na,.int .i64 Ka,.int .i64 Pc] 83 (0,0)) (by (with_reducible repeat (first|refine Aa ?_ _|refine Fa ?_|refine Ba ?_ _));exact ta.out) hb);have Pb:=aa.mk (Oa (by repeat (first|(with_reducible first|exact HB.out|apply oa|apply ia|apply qa|refine ua ?_ Ua.out)|exact HB.out)) hb);clear ta HB;have nu:=Cb;have ta:=Lb;have HB:=Pb;clear Cb Lb Pb hb Wk));go_ret;exact ⟨_,by first|rfl|(simp [Ra,Qa] <;> rfl)|(simp [*,Ra,Qa] <;> rfl),by (with_reducible repeat (first|apply Kd.Va|apply Kd.Wa|apply Kd.jb));exact nu.out,by repeat (first|(with_reducible first|exact HB.out|apply oa|apply ia|apply qa|refine ua ?_ Ua.out)|exact HB.out)⟩
mutual
def Mb.l0:Nat→Int→List Bool→List Int→List Int→Int→Int→Int→List (Df)→Option (List Bool)
 | 0,_,_,_,_,_,_,_,_=>none
 | k + 1,x2,x3,x8,Mc,Nc,Lc,Jc,Nb=>if (x8.length:Int) > 0 then (if 0 < (x8.length:Int) then (if 0 ≤ (rd x8 0) then (if (rd x8 0) < (Nb.length:Int) then ((ig.f ((Ta Nb (rd x8 0)).f0) ((Ta Nb (rd x8 0)).f1) ((Ta Nb (rd x8 0)).f2) ((Ta Nb (rd x8 0)).f3) ((Ta Nb (rd x8 0)).f4)).bind fun t108=>(if 1 ≤ (x8.length:Int) then (Mb.l1 k x2 x3 (x8.drop (1:Int).toNat) t108 0 Mc Nc Lc Jc Nb) else (none))) else (none)) else (none)) else (none)) else (some x3)
def Mb.l1:Nat→Int→List Bool→List Int→List Int→Int→List Int→Int→Int→Int→List (Df)→Option (List Bool)
 | 0,_,_,_,_,_,_,_,_,_,_=>none
 | k + 1,x2,x3,x8,x9,YE,Mc,Nc,Lc,Jc,Nb=>if YE < (x9.length:Int) then (if 0 ≤ YE then (if (rd x9 YE)=x2 then (Mb.l1 k x2 x3 x8 x9 (wrap64 (YE + 1)) Mc Nc Lc Jc Nb) else (if 0 ≤ (rd x9 YE) then (if (rd x9 YE) < (x3.length:Int) then (if (qg false x3 (rd x9 YE)=true) then (Mb.l1 k x2 x3 x8 x9 (wrap64 (YE + 1)) Mc Nc Lc Jc Nb) else (if x8.length < 17592186044416 then (Mb.l1 k x2 (x3.set ((rd x9 YE):Int).toNat true) (x8 ++ [rd x9 YE]) x9 (wrap64 (YE + 1)) Mc Nc Lc Jc Nb) else (none))) else (none)) else (none))) else (none)) else (Mb.l0 k x2 x3 x8 Mc Nc Lc Jc Nb)
end
def Mb.f (k:Nat) (Ma:List Int) (La:Int) (Na:Int) (Ka:Int) (Ea:List (Df)) (a1:Int) (a2:Int) (l3:List Bool):Option (List Bool):=if 0 ≤ a1 then (if a1 < (l3.length:Int) then (Mb.l0 k a2 (l3.set (a1:Int).toNat true) (([a1]:List Int)) Ma La Na Ka Ea) else (none)) else (none)
def Mb.T4:Bool × List (List Nat × List Nat):=(true,[([],[]),([0],[0]),([],[]),([2],[2]),([3],[3]),([1,4],[1,4]),([5],[5]),([6],[6]),([7,7,0,1,2,3,4,5,6,7],[7])])
def Mb.B4:List Nat:=[0,1,0,4,12,31,63,127,255]
theorem Mb.HV:Bn .any (opsOf Try.f102 4)=Mb.T4:=by kernel_rfl
theorem Mb.MP:um Mb.T4.2 Mb.B4=true:=by kernel_rfl
theorem Mb.calls (k:Nat) (xb:Option Addr) (qb:Nat) (Ma:List Int) (La:Int) (Na:Int) (Ka:Int) (Qb:Option Addr) (Kb:Nat) (Ea:List (Df)) (a1:Int) (a2:Int) (sw:Nat→Prop) (Lf:Value) (l3:List Bool) (r:List Bool) (w0 w:World) (hB:Below w0.heap.size w0 w) (Re:∀ W_,Kept w W_ (fun k_=>sw k_)→Kd.C (Kd.int .i64) W_ xb Ma.length Ma) (Pe:Ma.length ≤ qb) (Cg:∀ W_,Kept w W_ (fun k_=>sw k_)→Kd.C Pr W_ Qb Ea.length Ea) (zg:Ea.length ≤ Kb) (UQ:Kd.R Kd.bool 4 w w0.heap.size sw Lf l3) (h:Mb.f k Ma La Na Ka Ea a1 a2 l3=some r) :
  Calls Try.prog 102 #[.agg #[.slice xb Ma.length qb,.int .i64 La,.int .i64 Na,.int .i64 Ka,.slice Qb Ea.length Kb],.int .i64 a1,.int .i64 a2,Lf] w fun e w'=>e = .returned (.tuple #[])∧Kd.R Kd.bool 4 w' w0.heap.size (fun k_=>(sw k_ ∨ w.heap.size ≤ k_)) Lf r∧Below w0.heap.size w0 w'∧Kept w w' (fun k_=>sw k_):=by
 have RC:=Try.underlying45;have dA:=Try.underlying83;have Ue:=aa.mk Re;have af:=aa.mk Pe;clear Re Pe;have Xf:=aa.mk Cg;have Zg:=aa.mk zg;clear Cg zg;have XA:=aa.mk (show Kd.R Kd.bool 4 w w0.heap.size (fun k_=>(sw k_ ∨ w.heap.size ≤ k_)) Lf l3 from Kd.mc UQ (fun k_ hk=>(.inl hk)));have HK:=aa.mk (Kept.refl w (fun k_=>sw k_));have HW0:=aa.mk hB.size;have HB:=aa.mk hB;clear hB;have H:(if 0 ≤ a1 then (if a1 < (l3.length:Int) then (Mb.l0 k a2 (l3.set (a1:Int).toNat true) (([a1]:List Int)) Ma La Na Ka Ea) else (none)) else (none))=some r:=h;clear h;obtain ⟨ze,xg⟩:∃ y_:List Int,y_=(([a1]:List Int)):=⟨_,rfl⟩;replace H:(if 0 ≤ a1 then (if a1 < (l3.length:Int) then (Mb.l0 k a2 (l3.set (a1:Int).toNat true) ze Ma La Na Ka Ea) else (none)) else (none))=some r:=by first|(rw [xg];with_reducible exact H)|(have Ud:=(Option.bind_some _ _).symm.trans H;rw [xg];with_reducible exact Ud)|(have Ud:=(Option.bind_some _ _).symm.trans H;with_reducible exact Ud)|with_reducible exact H|(rw [xg];exact H)|exact H
 have Fh:=aa.mk xg;clear xg
 by_cases c5:0 ≤ a1
 ·rw [if_pos c5] at H;have Sn:decide (0 ≤ a1)=true:=decide_eq_true c5;clear c5
  by_cases c6:a1 < (l3.length:Int)
  ·rw [if_pos c6] at H;have Ro:decide (a1 < (l3.length:Int))=true:=decide_eq_true c6;clear c6;obtain ⟨ef,yh⟩:∃ y_:List Bool,y_=(l3.set (a1:Int).toNat true):=⟨_,rfl⟩;replace H:(Mb.l0 k a2 ef ze Ma La Na Ka Ea)=some r:=by first|(rw [yh];with_reducible exact H)|(have Ud:=(Option.bind_some _ _).symm.trans H;rw [yh];with_reducible exact Ud)|(have Ud:=(Option.bind_some _ _).symm.trans H;with_reducible exact Ud)|with_reducible exact H|(rw [yh];exact H)|exact H
   have Br:=aa.mk yh;clear yh;have H':=aa.mk H;clear H;go_enter Try.func102,Try.ntmps102;go_wp2_with (first|((with_reducible refine Bb (N:=4) rfl ?_);refine Ob ?hg (N:=4) ?hd (cs:=#[.slice xb Ma.length qb,.int .i64 La,.int .i64 Na,.int .i64 Ka,.slice Qb Ea.length Kb]) (t:=45) ?hr ?_;(case hd=>rfl);(case hg=>rfl);(case hr=>first|(go_simp;done)|(go_simp;rfl));intro za hg w8 oc hb;have Cb:=aa.mk (Kd.lg (by (with_reducible repeat (first|apply Kd.Va|apply Kd.Wa|apply Kd.jb));exact XA.out) hb);have Lb:=aa.mk (Kept.below (S:=(fun k_=>sw k_)) (by repeat (first|(with_reducible first|exact HK.out|apply Kept.alloc|apply Kept.drewN|apply Kept.drew)|exact HK.out)) hb);have Pb:=aa.mk (Oa (by repeat (first|(with_reducible first|exact HB.out|apply oa|apply ia|apply qa)|exact HB.out)) hb);have Ec:=aa.mk (oc);have fe:=aa.mk ((by rw [hg];exact (by first|exact HK.out.1|exact (show Kept w _ (fun k_=>sw k_) from by repeat (first|(with_reducible first|exact HK.out|apply Kept.alloc|apply Kept.drewN|apply Kept.drew)|exact HK.out)).1):w.heap.size ≤ za));have Af:=aa.mk ((by rw [hg];exact (Ja (by repeat (first|(with_reducible first|exact HB.out|apply oa|apply ia|apply qa)|exact HB.out))):w0.heap.size ≤ za));clear XA HK HB;have XA:=Cb;have HK:=Lb;have HB:=Pb;have ta:=Ec;have He:=fe;have Ua:=Af;clear Cb Lb Pb Ec fe Af hb oc hg)|((with_reducible refine Bb (N:=12) rfl ?_);refine Kd.Bl (Kd.int .i64) _ 3 ?hg (N:=12) ?hd (xs:=([a1]:List Int)) (inner:=[.int .i64 a1]) (ok:=fun _=>True) (Oh:=fun _=>True) ?hr ?hp (fun _ hk=>hk) trivial (Below.refl _ _) (Nat.le_refl _) (by simp) ?_;(case hd=>rfl);(case hg=>rfl);(case hr=>first|(go_simp;done)|(go_simp;rfl));(case hp=>exact (Td.one (show Kd.M (Kd.int .i64) _ _ _ a1 [.int .i64 a1] from rfl) (Td.none _ _)));intro Ji w9 eT hb gl Ee;clear gl Ee;(first|rw [← Fh.out] at eT|(simp only [Int.reduceToNat] at eT;rw [← Fh.out] at eT));have Cb:=aa.mk (Kd.lg (by (with_reducible repeat (first|apply Kd.Va|apply Kd.Wa|apply Kd.jb));exact XA.out) hb);have Lb:=aa.mk (Kd.xe (Kd.NU (M:=fun k_=>(sw k_ ∨ w.heap.size ≤ k_)) eT (by first|exact HK.out.1|exact (show Kept w _ (fun k_=>sw k_) from by repeat (first|(with_reducible first|exact HK.out|apply Kept.alloc|apply Kept.drewN|apply Kept.drew|refine Kept.setCell ?_ (.inr He.out) _)|exact HK.out)).1) (fun k_ h_=>.inr h_)) (Ja (by repeat (first|(with_reducible first|exact HB.out|apply oa|apply ia|apply qa|refine ua ?_ Ua.out)|exact HB.out))));have Pb:=aa.mk (Xa (g:=za) (o:=.cells #[.slice xb Ma.length qb,.int .i64 La,.int .i64 Na,.int .i64 Ka,.slice Qb Ea.length Kb] 45 (0,0)) (by (with_reducible repeat (first|refine Aa ?_ _|refine Fa ?_|refine Ba ?_ _));exact ta.out) hb);have Ec:=aa.mk (Kept.below (S:=(fun k_=>sw k_)) (by repeat (first|(with_reducible first|exact HK.out|apply Kept.alloc|apply Kept.drewN|apply Kept.drew|refine Kept.setCell ?_ (.inr He.out) _)|exact HK.out)) hb);have fe:=aa.mk (Oa (by repeat (first|(with_reducible first|exact HB.out|apply oa|apply ia|apply qa|refine ua ?_ Ua.out)|exact HB.out)) hb);clear XA ta HK HB;have XA:=Cb;have ee:=Lb;have ta:=Pb;have HK:=Ec;have HB:=fe;clear Cb Lb Pb Ec fe hb eT;have p7:0 ≤ (a1:Int):=Pa;have q7:(a1:Int) < ((l3.length:Int):Int):=Pa;obtain ⟨dM,H8,eo7,gb7,gl7,cl7,HG7⟩:=Kd.gm XA.out (by omega);(first|cases eo7|(injection eo7 with Xj Uw Ww;(first|subst Xj|(injection Xj with Xj;subst Xj));subst Ww;clear Uw));have GB7:=aa.mk gb7;have GG7:=aa.mk HG7;clear gb7 gl7 HG7;have Gax:=aa.mk (show (sw dM ∨ w.heap.size ≤ dM) from (XA.out.1 _ rfl));obtain ⟨NS,Cac⟩:=Kd.Vh false XA.out (a1:Int) p7 q7;replace p7:=eq_true p7;replace q7:=eq_true q7;obtain ⟨Oat,Mat⟩:=Kd.Vh false XA.out (a1:Int) (Pa) (Pa);have QM:=Kd.Vn XA.out (a1:Int) true)|((with_reducible refine Ef (t:=4) (p:=15) rfl ?_);refine Xe (t:=4) (p:=15) (v:=?kap) (w1:=(w9.setCell ⟨dM,(a1:Int).toNat,none⟩ (.bool true))) ?hg ?ho ?hn ?hr ?_;(case ho=>rfl);(case hg=>rfl);(case hn=>rfl);(case hr=>first|(go_simp;done)|(go_simp;rfl));intro DA hw;have hg:w9.grownBy DA (some dM):=(by rw [hw];exact QM.2);have Mm:Kd.R Kd.bool 4 DA w0.heap.size (fun k_=>(sw k_ ∨ w.heap.size ≤ k_)) (.slice (some ⟨dM,0,none⟩) l3.length H8) ef:=(by rw [hw,Br.out];exact QM.1);clear QM;have Cb:=aa.mk (Mm);have Lb:=aa.mk (Ff (g:=za) (o:=.cells #[.slice xb Ma.length qb,.int .i64 La,.int .i64 Na,.int .i64 Ka,.slice Qb Ea.length Kb] 45 (0,0)) (by (with_reducible repeat (first|refine Aa ?_ _|refine Fa ?_|refine Ba ?_ _));exact ta.out) hg (Kd.Xo XA.out ta.out (by decide)));have Pb:=aa.mk (Kd.Xm (v:=(.slice (some ⟨dM,0,none⟩) l3.length H8)) (by (with_reducible repeat (first|apply Kd.Va|apply Kd.Wa|apply Kd.jb));exact ee.out) (Kd.mj XA.out) (by decide) hg);have Ec:=aa.mk ((by rw [hw];exact ua (HB.out) GB7.out:Below w0.heap.size w0 DA));have fe:=aa.mk (Kept.fh (S:=(fun k_=>sw k_)) hg (by repeat (first|(with_reducible first|exact HK.out|apply Kept.alloc|apply Kept.drewN|apply Kept.drew|refine Kept.setCell ?_ (.inr He.out) _)|exact HK.out)) (fun k_ e_=>(XA.out.1 k_ e_)));clear XA ta ee HB HK;have XA:=Cb;have ta:=Lb;have ee:=Pb;have HB:=Ec;have HK:=fe;clear Cb Lb Pb Ec fe hg hw Mm))
   go_loopg [8] k (fun kq v8 w'=>∃ (Tc:List Bool) (Ie:List Int),aa (Mb.l0 kq a2 Tc Ie Ma La Na Ka Ea=some r)∧aa (kq ≤ k)∧aa (Kd.R Kd.bool 4 w' w0.heap.size (fun k_=>(sw k_ ∨ w.heap.size ≤ k_)) (.slice (some ⟨dM,0,none⟩) l3.length H8) Tc)∧aa (Kd.Q (Kd.int .i64) 3 w' w0.heap.size (fun k_=>(sw k_ ∨ w.heap.size ≤ k_)) v8 Ie)∧aa (w'.heap[za]? = some (.cells #[(.slice xb Ma.length qb),.int .i64 La,.int .i64 Na,.int .i64 Ka,(.slice Qb Ea.length Kb)] 45 (0,0)))∧aa (Kept w w' (fun k_=>sw k_))∧aa (Below w0.heap.size w0 w'))
   case atStart=>exact ⟨(ef),(ze),H',⟨Nat.le_refl _⟩,⟨by (with_reducible repeat (first|apply Kd.Va|apply Kd.Wa|apply Kd.jb));exact XA.out⟩,⟨Kd.IM (by (with_reducible repeat (first|apply Kd.Va|apply Kd.Wa|apply Kd.jb));exact Kd.mc ee.out (fun _ hk=>hk.1))⟩,⟨by (with_reducible repeat (first|refine Aa ?_ _|refine Fa ?_|refine Ba ?_ _));exact ta.out⟩,⟨by repeat (first|(with_reducible first|exact HK.out|apply Kept.alloc|apply Kept.drewN|apply Kept.drew|refine Kept.setCell ?_ (.inr He.out) _)|exact HK.out)⟩,⟨by repeat (first|(with_reducible first|exact HB.out|apply oa|apply ia|apply qa|refine ua ?_ Ua.out)|exact HB.out)⟩⟩
   case round =>
    clear H'
    try clear c1
    try clear p2
    try clear c5
    try clear Sn
    try clear c6
    try clear Ro
    try clear p7
    try clear q7
    try clear hx7
    try clear hf7
    try clear c10
    try clear NS
    try clear p7
    try clear q7
    (try clear HA);(try clear Cf);(try clear Ub);(try clear Yf);(try clear ta);(try clear HK);(try clear HB);obtain ⟨Tc,Ie,HA,Cf,Ub,Yf,ta,HK,HB⟩:=hrel;have Rj:=(Kd.Rb Ub.out).1;rw [Rj] at Ub;(try simp only [Rj]);(try simp only [Rj] at ta);(try simp only [Rj] at Yf);cases gk with
    | zero=>exact absurd HA.out (by simp [Mb.l0])
    | succ k1 =>
     have H:=HA.out;clear HA;simp only [Mb.l0] at H
     by_cases ax:(Ie.length:Int) > 0
     ·rw [if_pos ax] at H;have Ew:decide (0 < (Ie.length:Int))=true:=decide_eq_true ax;have j3:decide (0 < Ie.length)=true:=decide_eq_true (by omega);clear ax
      by_cases kB:0 < (Ie.length:Int)
      ·rw [if_pos kB] at H;have JE:decide (0 < (Ie.length:Int))=true:=decide_eq_true kB;have gaf:decide (0 < Ie.length)=true:=decide_eq_true (by omega);clear kB
       by_cases JR:0 ≤ (rd Ie 0)
       ·rw [if_pos JR] at H;have Z2:decide (0 ≤ (rd Ie 0))=true:=decide_eq_true JR;clear JR
        by_cases SA:(rd Ie 0) < (Ea.length:Int)
        ·rw [if_pos SA] at H;have wK:decide ((rd Ie 0) < (Ea.length:Int))=true:=decide_eq_true SA;clear SA;replace H:=Option.bind_eq_some_iff.mp H;obtain ⟨t108,lV,H⟩:=H;replace H:(if 1 ≤ (Ie.length:Int) then (Mb.l1 k1 a2 Tc (Ie.drop (1:Int).toNat) t108 0 Ma La Na Ka Ea) else (none))=some r:=H;have KR:=aa.mk lV;clear lV
         by_cases Gs:1 ≤ (Ie.length:Int)
         ·rw [if_pos Gs] at H;have vn:=eq_true Gs;have Fz:decide (1 ≤ (Ie.length:Int))=true:=decide_eq_true Gs;clear Gs;obtain ⟨nL,wJ⟩:∃ y_:List Int,y_=(Ie.drop (1:Int).toNat):=⟨_,rfl⟩;replace H:(Mb.l1 k1 a2 Tc nL t108 0 Ma La Na Ka Ea)=some r:=by first|(rw [wJ];with_reducible exact H)|(have Ud:=(Option.bind_some _ _).symm.trans H;rw [wJ];with_reducible exact Ud)|(have Ud:=(Option.bind_some _ _).symm.trans H;with_reducible exact Ud)|with_reducible exact H|(rw [wJ];exact H)|exact H
          have O3:=aa.mk wJ;clear wJ;have H':=aa.mk H;clear H;obtain ⟨kat,mU,n8,_⟩:=Kd.Lz Yf.out;subst n8
          try go_wp2
          have Cb:=aa.mk (Kd.jb Ub.out);have Lb:=aa.mk (Kd.sj Yf.out);have Pb:=aa.mk (Fa ta.out);have Ec:=aa.mk (Kept.drew HK.out);have fe:=aa.mk (qa HB.out);clear Ub Yf ta HK HB;have Ub:=Cb;have Yf:=Lb;have ta:=Pb;have HK:=Ec;have HB:=fe;clear Cb Lb Pb Ec fe;have ZV:0 ≤ (0:Int):=(by omega);have VV:0 < (Ie.length:Int):=Pa;obtain ⟨PE,pas,Mx⟩:=Kd.Ce (Kd.BD Yf.out).2.2 0 ZV VV;cases pas;have Hat:(0 < Ie.length)=True:=eq_true (by omega);(try rw [show ((0:Int)).toNat=0 from rfl] at Mx);(try rw [Addr.add_zero'] at Mx);replace ZV:=eq_true ZV;replace VV:=eq_true VV;have YV:0 ≤ ((rd Ie 0):Int):=Pa;have TV:(rd Ie 0) < (Ea.length:Int):=Pa;obtain ⟨ur,qV,AU,oas,sB,rB,qB,oB,nB,GN,QN⟩:=Nk (Kd.VM Xf.out HK.out) (rd Ie 0) YV TV;have uah:=nB;have vah:=oB;have wah:=qB;have xah:=rB;have yah:=sB;cases oas;have fu:=aa.mk QN;have LZ:=aa.mk GN;clear QN GN;replace YV:=eq_true YV;replace TV:=eq_true TV;refine fl (n:=9) (S:=fun w'=>w'.cell? ⟨za,0,none⟩=some (.slice xb Ma.length qb)∧w'.cell? ⟨za,1,none⟩=some (.int .i64 La)∧w'.cell? ⟨za,2,none⟩=some (.int .i64 Na)∧w'.cell? ⟨za,3,none⟩=some (.int .i64 Ka)∧w'.cell? ⟨za,4,none⟩=some (.slice (some ur) Ea.length Kb)∧w'.cell? PE=some (.int .i64 (rd Ie 0))∧w'.cell? (ur.add (((rd Ie 0)).toNat * 5))=some (.slice qV ((Ta Ea (rd Ie 0)).f0).length AU)∧w'.cell? ⟨(ur.add (((rd Ie 0)).toNat * 5)).block,(ur.add (((rd Ie 0)).toNat * 5)).off + 1,none⟩=some (.int .i64 ((Ta Ea (rd Ie 0)).f1))∧w'.cell? ⟨(ur.add (((rd Ie 0)).toNat * 5)).block,(ur.add (((rd Ie 0)).toNat * 5)).off + 2,none⟩=some (.int .i64 ((Ta Ea (rd Ie 0)).f2))∧w'.cell? ⟨(ur.add (((rd Ie 0)).toNat * 5)).block,(ur.add (((rd Ie 0)).toNat * 5)).off + 3,none⟩=some (.int .i64 ((Ta Ea (rd Ie 0)).f3))∧w'.cell? ⟨(ur.add (((rd Ie 0)).toNat * 5)).block,(ur.add (((rd Ie 0)).toNat * 5)).off + 4,none⟩=some (.int .i64 ((Ta Ea (rd Ie 0)).f4))) (ds:=[]) #[false,false,false,false,false,false,false,false,false] (by kernel_rfl) rfl rfl ⟨(ja ta.out 0).trans rfl,(ja ta.out 1).trans rfl,(ja ta.out 2).trans rfl,(ja ta.out 3).trans rfl,(ja ta.out 4).trans rfl,Mx,sB,rB,qB,oB,nB⟩ (fun hHeld=>?_);refine Si Mb.HV Mb.MP (fun mg eu=>?_);generalize wr.drew=w20 at Ub Yf ta HK HB fu Mx sB rB qB oB nB hHeld ⊢;refine od (i:=0) (N:=some 19) (v:=?_) (a':=?_) #[true,false,false,false,false,false,false,false,false] rfl rfl (Vc mg.out (by kernel_rfl)) (fun _ _ _ h=>h) (Or.inl ⟨by rfl,?_⟩) ?_ ?_;rotate_left
          ·intro w';go_simp;with_reducible rfl
          rotate_left
          ·simp only [Act.put,List.setIfInBounds_toArray,List.set_cons_zero,List.set_cons_succ,Vb,Wb]
           rfl
          refine od (i:=2) (N:=some 21) (v:=?_) (a':=?_) #[true,false,true,false,false,false,false,false,false] rfl rfl (Vc mg.out (by kernel_rfl)) (fun _ _ _ h=>h) (Or.inl ⟨by rfl,?_⟩) ?_ ?_;rotate_left
          ·intro w';go_simp;with_reducible rfl
          rotate_left
          ·simp only [Act.put,List.setIfInBounds_toArray,List.set_cons_zero,List.set_cons_succ,Vb,Wb]
           rfl
          refine od (i:=3) (N:=some 22) (v:=?_) (a':=?_) #[true,false,true,true,false,false,false,false,false] rfl rfl (Vc mg.out (by kernel_rfl)) (fun _ _ _ h=>h) (Or.inl ⟨by rfl,?_⟩) ?_ ?_;rotate_left
          ·intro w';go_simp;with_reducible rfl
          rotate_left
          ·simp only [Act.put,List.setIfInBounds_toArray,List.set_cons_zero,List.set_cons_succ,Vb,Wb]
           rfl
          refine Ih (i:=1) (N:=some 20) (v:=?_) (a':=?_) #[true,true,true,true,false,false,false,false,false] rfl rfl (zf mg.out eu.out (by kernel_rfl)) (fun _ _ _ h=>h) (Or.inl ⟨by rfl,?_⟩) hHeld ?_ ?_;rotate_left
          ·rintro w' ⟨s0,s1,s2,s3,s4,s5,s6,s7,s8,s9,yL⟩;go_simp;with_reducible rfl
          rotate_left
          ·simp only [Act.put,List.setIfInBounds_toArray,List.set_cons_zero,List.set_cons_succ,Vb,Wb]
           rfl
          refine Ih (i:=4) (N:=some 23) (v:=?_) (a':=?_) #[true,true,true,true,true,false,false,false,false] rfl rfl (zf mg.out eu.out (by kernel_rfl)) (fun _ _ _ h=>h) (Or.inl ⟨by rfl,?_⟩) hHeld ?_ ?_;rotate_left
          ·rintro w' ⟨s0,s1,s2,s3,s4,s5,s6,s7,s8,s9,yL⟩;go_simp;with_reducible rfl
          rotate_left
          ·simp only [Act.put,List.setIfInBounds_toArray,List.set_cons_zero,List.set_cons_succ,Vb,Wb]
           rfl
          refine od (i:=5) (N:=some 24) (v:=?_) (a':=?_) #[true,true,true,true,true,true,false,false,false] rfl rfl (Vc mg.out (by kernel_rfl)) (fun _ _ _ h=>h) (Or.inl ⟨by rfl,?_⟩) ?_ ?_;rotate_left
          ·intro w';go_simp;with_reducible rfl
          rotate_left
          ·simp only [Act.put,List.setIfInBounds_toArray,List.set_cons_zero,List.set_cons_succ,Vb,Wb]
           rfl
          refine Ih (i:=6) (N:=some 25) (v:=?_) (a':=?_) #[true,true,true,true,true,true,true,false,false] rfl rfl (zf mg.out eu.out (by kernel_rfl)) (fun _ _ _ h=>h) (Or.inl ⟨by rfl,?_⟩) hHeld ?_ ?_;rotate_left
          ·rintro w' ⟨s0,s1,s2,s3,s4,s5,s6,s7,s8,s9,yL⟩;go_simp;with_reducible rfl
          rotate_left
          ·simp only [Act.put,List.setIfInBounds_toArray,List.set_cons_zero,List.set_cons_succ,Vb,Wb]
           rfl
          refine Ko (i:=7) (N:=some 26) #[true,true,true,true,true,true,true,true,false] rfl rfl (vp mg.out (by kernel_rfl)) (by decide) (fun K hK=>?_);refine ju Try.func85 (by kernel_rfl) rfl #[.agg #[.slice qV ((Ta Ea (rd Ie 0)).f0).length AU,.int .i64 ((Ta Ea (rd Ie 0)).f1),.int .i64 ((Ta Ea (rd Ie 0)).f2),.int .i64 ((Ta Ea (rd Ie 0)).f3),.int .i64 ((Ta Ea (rd Ie 0)).f4)]] (by rfl) rfl rfl (by (try simp only [List.map_toArray,List.map_cons,List.map_nil]);first|done|rfl|(simp only [List.length_drop,List.length_take];rfl)) ?_;with_reducible refine (ig.calls _ _ ((Ta Ea (rd Ie 0)).f0) ((Ta Ea (rd Ie 0)).f1) ((Ta Ea (rd Ie 0)).f2) ((Ta Ea (rd Ie 0)).f3) ((Ta Ea (rd Ie 0)).f4) t108 _ ?jc ?ic KR.out).mono ?_
          (case jc=>repeat (first|exact (by repeat (first|(with_reducible exact fu.out)|(with_reducible refine Kd.Jb ?_ _)|(with_reducible refine Kd.Gb ?_ _)|(with_reducible refine Kd.dc ?_)|exact fu.out))|(with_reducible refine Kd.Jb ?_ _)|(with_reducible refine Kd.Gb ?_ _)|(with_reducible refine Kd.dc ?_)))
          (case ic=>exact LZ.out)
          rintro e xq ⟨v109,rfl,Bg,hb⟩;have W9:=(hb.cell (World.block_lt_of_cell? _ _ (hHeld.2.2.2.2.2.1))).trans (hHeld.2.2.2.2.2.1);have Kas:=(hb.cell (World.block_lt_of_cell? _ _ (hHeld.2.2.2.2.2.2.1))).trans (hHeld.2.2.2.2.2.2.1);have Jas:=(hb.cell (World.block_lt_of_cell? _ _ (hHeld.2.2.2.2.2.2.2.1))).trans (hHeld.2.2.2.2.2.2.2.1);have Ias:=(hb.cell (World.block_lt_of_cell? _ _ (hHeld.2.2.2.2.2.2.2.2.1))).trans (hHeld.2.2.2.2.2.2.2.2.1);have Gas:=(hb.cell (World.block_lt_of_cell? _ _ (hHeld.2.2.2.2.2.2.2.2.2.1))).trans (hHeld.2.2.2.2.2.2.2.2.2.1);have cag:=(hb.cell (World.block_lt_of_cell? _ _ (hHeld.2.2.2.2.2.2.2.2.2.2))).trans (hHeld.2.2.2.2.2.2.2.2.2.2);refine ⟨_,rfl,?_⟩;have Cb:=aa.mk (Kd.lg (by (with_reducible repeat (first|apply Kd.Va|apply Kd.Wa|apply Kd.jb));exact Ub.out) hb);have Lb:=aa.mk (Kd.EK (by (with_reducible repeat (first|apply Kd.Gi|apply Kd.Fi|apply Kd.sj));exact Yf.out) (Kd.cg Bg) hb);have Pb:=aa.mk (Kd.xe (Kd.Yj (Kd.NU (M:=fun k_=>(sw k_ ∨ w.heap.size ≤ k_)) Bg (by first|exact HK.out.1|exact (show Kept w _ (fun k_=>sw k_) from by repeat (first|(with_reducible first|exact HK.out|apply Kept.alloc|apply Kept.drewN|apply Kept.drew|refine Kept.setCell ?_ (.inr He.out) _)|exact HK.out)).1) (fun k_ h_=>.inr h_)) (Kd.zaf (by (with_reducible repeat (first|apply Kd.Gi|apply Kd.Fi|apply Kd.sj));exact Yf.out))) (Ja (by repeat (first|(with_reducible first|exact HB.out|apply oa|apply ia|apply qa|refine ua ?_ Ua.out)|exact HB.out))));have Ec:=aa.mk (Xa (g:=za) (o:=.cells #[.slice xb Ma.length qb,.int .i64 La,.int .i64 Na,.int .i64 Ka,.slice (some ur) Ea.length Kb] 45 (0,0)) (by (with_reducible repeat (first|refine Aa ?_ _|refine Fa ?_|refine Ba ?_ _));exact ta.out) hb);have fe:=aa.mk (Kd.Ib (by repeat (first|(with_reducible exact fu.out)|(with_reducible refine Kd.Jb ?_ _)|(with_reducible refine Kd.Gb ?_ _)|(with_reducible refine Kd.dc ?_)|exact fu.out)) hb);have Af:=aa.mk (Kept.below (S:=(fun k_=>sw k_)) (by repeat (first|(with_reducible first|exact HK.out|apply Kept.alloc|apply Kept.drewN|apply Kept.drew|refine Kept.setCell ?_ (.inr He.out) _)|exact HK.out)) hb);have Ah:=aa.mk (Oa (by repeat (first|(with_reducible first|exact HB.out|apply oa|apply ia|apply qa|refine ua ?_ Ua.out)|exact HB.out)) hb);clear Ub Yf ta fu HK HB;have Ub:=Cb;have Yf:=Lb;have nu:=Pb;have ta:=Ec;have fu:=fe;have HK:=Af;have HB:=Ah;clear Cb Lb Pb Ec fe Af Ah;(try clear hb);(try clear Gj);(try clear hk);(try clear hi);(try clear Bg);refine hK.out _ _ ⟨(ja ta.out 0).trans rfl,(ja ta.out 1).trans rfl,(ja ta.out 2).trans rfl,(ja ta.out 3).trans rfl,(ja ta.out 4).trans rfl,W9,Kas,Jas,Ias,Gas,cag⟩ (fun hHeld=>?_);clear hK K;refine Rg (a':=?_) ?_ ?_;rotate_left
          ·show Act.put _ (some 26) _=_
           simp only [Act.put,List.setIfInBounds_toArray,List.set_cons_zero,List.set_cons_succ,Vb,Wb]
           rfl
          refine od (i:=8) (N:=some 9) (v:=?_) (a':=?_) #[true,true,true,true,true,true,true,true,true] rfl rfl (Vc mg.out (by kernel_rfl)) (fun _ _ _ h=>h) (Or.inl ⟨by rfl,?_⟩) ?_ ?_;rotate_left
          ·intro w';go_simp;with_reducible rfl
          rotate_left
          ·simp only [Act.put,List.setIfInBounds_toArray,List.set_cons_zero,List.set_cons_succ,Vb,Wb]
           rfl
          refine Mp (Sl mg.out (by kernel_rfl)) ?_;have QV:(1:Int) ≤ ((Ie.length:Int):Int):=Pa;obtain ⟨Oap,CJ,_,BN,_⟩:=info_parts info3;have ZL:=kD (P:=Try.prog) 22 3 .i64 Try.underlying22 CJ 1 BN (some PE) Ie.length mU 1 (by omega) QV;have WD:=Kd.OU (k:=(1:Int).toNat) Yf.out (by omega);obtain ⟨o5,UY⟩:∃ A1,A1=(if mU=(1:Int).toNat then (some PE) else ((some PE):Option Addr).map (·.add ((1:Int).toNat * 1))):=⟨_,rfl⟩;obtain ⟨eE,T7⟩:∃ c1,c1=mU - (1:Int).toNat:=⟨_,rfl⟩;have TQ:nL.length=Ie.length - (1:Int).toNat:=(by rw [O3.out,List.length_drop]);rw [← O3.out] at WD;rw [← TQ,← UY,← T7] at ZL;replace WD:Kd.Q (Kd.int .i64) 3 xq w0.heap.size (fun k_=>(sw k_ ∨ w.heap.size ≤ k_)∧some k_ ≠ (v109:Value).ownBlock) (.slice o5 nL.length eE) nL:=(by rw [UY,T7,TQ];exact WD);have Qas:aa ((Value.slice o5 nL.length eE).ownBlock=(.slice (some PE) Ie.length mU:Value).ownBlock):=⟨by rw [UY];split <;> (cases ((some PE):Option Addr) <;> rfl)⟩;clear TQ CJ BN Yf UY T7;have pag:=aa.mk WD;clear WD;replace QV:=eq_true QV;have n_:=aa.mk (Kd.mc (wj:=fun k_=>((((sw k_ ∨ w.heap.size ≤ k_))∧True)∧some k_ ≠ (.slice o5 nL.length eE:Value).ownBlock)) nu.out (fun k_ hk=>⟨⟨hk.1.1,trivial⟩,(by rw [Qas.out];exact hk.2)⟩));clear nu;have nu:=n_;clear n_
          try go_wp2
          go_loopg [8,10] k1 (fun kq v8 v10 w'=>∃ (Ck:List Bool) (We:List Int) (De:Int),v10 = .int .i64 De∧aa (Mb.l1 kq a2 Ck We t108 De Ma La Na Ka Ea=some r)∧aa (kq ≤ k1)∧aa (Kd.R Kd.bool 4 w' w0.heap.size (fun k_=>(sw k_ ∨ w.heap.size ≤ k_)) (.slice (some ⟨dM,0,none⟩) Tc.length H8) Ck)∧aa (Kd.Q (Kd.int .i64) 3 w' w0.heap.size (fun k_=>(sw k_ ∨ w.heap.size ≤ k_)∧some k_ ≠ (v109:Value).ownBlock) v8 We)∧aa (Kd.R (Kd.int .i64) 3 w' w0.heap.size (fun k_=>(sw k_ ∨ w.heap.size ≤ k_)∧some k_ ≠ (v8:Value).ownBlock) v109 t108)∧aa (w'.heap[za]? = some (.cells #[(.slice xb Ma.length qb),.int .i64 La,.int .i64 Na,.int .i64 Ka,(.slice (some ur) Ea.length Kb)] 45 (0,0)))∧aa (Kept w w' (fun k_=>sw k_))∧aa (Below w0.heap.size w0 w'))
          case atStart=>exact ⟨(Tc),(nL),(0),(by first|rfl|(simp;done)|(simp [*];done)),H',⟨Nat.le_refl _⟩,⟨by (try simp only [Rj]);(with_reducible repeat (first|apply Kd.Va|apply Kd.Wa|apply Kd.jb));exact Ub.out⟩,⟨by (try simp only [Rj]);(with_reducible repeat (first|apply Kd.Gi|apply Kd.Fi|apply Kd.sj));exact pag.out⟩,⟨by (try simp only [Rj]);(with_reducible repeat (first|apply Kd.Va|apply Kd.Wa|apply Kd.jb));exact Kd.mc nu.out (fun _ hk=>⟨hk.1.1,hk.2⟩)⟩,⟨by (try simp only [Rj]);(with_reducible repeat (first|refine Aa ?_ _|refine Fa ?_|refine Ba ?_ _));exact ta.out⟩,⟨by repeat (first|(with_reducible first|exact HK.out|apply Kept.alloc|apply Kept.drewN|apply Kept.drew|refine Kept.setCell ?_ (.inr He.out) _)|exact HK.out)⟩,⟨by repeat (first|(with_reducible first|exact HB.out|apply oa|apply ia|apply qa|refine ua ?_ Ua.out)|exact HB.out)⟩⟩
          case round =>
           clear H'
           try clear c1
           try clear p1
           try clear q1
           try clear hx1
           try clear qi1
           try clear c2
           try clear p2
           try clear q2
           try clear c5
           try clear Sn
           try clear c6
           try clear Ro
           try clear p7
           try clear q7
           try clear hx7
           try clear hf7
           try clear c8
           try clear c10
           try clear vE
           try clear uE
           try clear VS
           try clear Iay
           try clear ax
           try clear Ew
           try clear j3
           try clear kB
           try clear JE
           try clear gaf
           try clear JR
           try clear Z2
           try clear SA
           try clear wK
           try clear Gs
           try clear vn
           try clear Fz
           try clear eE
           try clear QV
           try clear Mx
           try clear sB
           try clear rB
           try clear qB
           try clear oB
           try clear nB
           try clear NS
           try clear ZV
           try clear YV
           try clear p2
           try clear p7
           try clear VV
           try clear TV
           try clear QV
           try clear q7
           (try clear HA);(try clear Qk);(try clear Ub);(try clear Yf);(try clear Xh);(try clear ta);(try clear HK);(try clear HB);obtain ⟨Ck,We,De,rfl,HA,Qk,Ub,Yf,Xh,ta,HK,HB⟩:=hrel;have sk:=(Kd.Rb Ub.out).1;rw [sk] at Ub;(try simp only [sk]);(try simp only [sk] at ta);(try simp only [sk] at Yf);(try simp only [sk] at Xh);cases gk with
           | zero=>exact absurd HA.out (by simp [Mb.l1])
           | succ k2 =>
            have H:=HA.out;clear HA;simp only [Mb.l1] at H
            by_cases Dw:De < (t108.length:Int)
            ·rw [if_pos Dw] at H;have PA:decide (De < (t108.length:Int))=true:=decide_eq_true Dw;clear Dw
             by_cases lI:0 ≤ De
             ·rw [if_pos lI] at H;have JP:decide (0 ≤ De)=true:=decide_eq_true lI;clear lI
              by_cases sK:(rd t108 De)=a2
              ·rw [if_pos sK] at H;have X2:((rd t108 De) == a2)=true:=beq_iff_eq.mpr sK;have eaf:((rd t108 De) != a2)=false:=bne_eq_false_iff_eq.mpr sK;clear sK;have H':=aa.mk H;clear H;obtain ⟨JaA,Eaz,das⟩:=Kd.xd Xh.out;subst das;have Du:0 ≤ (De:Int):=Pa;have Bu:De < (t108.length:Int):=Pa;obtain ⟨cl,pM,Vp⟩:=Kd.Ce (Kd.Rb Xh.out).2.2 De Du Bu;cases pM;replace Du:=eq_true Du;replace Bu:=eq_true Bu;go_wp2;(try simp only [← sk])
               go_roundg k2
               case measure=>have:=Cf.out;have:=Qk.out;omega
               case rel=>exact ⟨(Ck),(We),(wrap64 (De + 1)),(by first|rfl|(simp;done)|(simp [*];done)),H',⟨by have:=Cf.out;have:=Qk.out;omega⟩,⟨by (try simp only [Rj]);(try simp only [sk]);(with_reducible repeat (first|apply Kd.Va|apply Kd.Wa|apply Kd.jb));exact Ub.out⟩,⟨by (try simp only [Rj]);(try simp only [sk]);(with_reducible repeat (first|apply Kd.Gi|apply Kd.Fi|apply Kd.sj));exact Yf.out⟩,⟨by (try simp only [Rj]);(try simp only [sk]);(with_reducible repeat (first|apply Kd.Va|apply Kd.Wa|apply Kd.jb));exact Xh.out⟩,⟨by (try simp only [Rj]);(try simp only [sk]);(with_reducible repeat (first|refine Aa ?_ _|refine Fa ?_|refine Ba ?_ _));exact ta.out⟩,⟨by repeat (first|(with_reducible first|exact HK.out|apply Kept.alloc|apply Kept.drewN|apply Kept.drew|refine Kept.setCell ?_ (.inr He.out) _)|exact HK.out)⟩,⟨by repeat (first|(with_reducible first|exact HB.out|apply oa|apply ia|apply qa|refine ua ?_ Ua.out)|exact HB.out)⟩⟩
              ·rw [if_neg sK] at H;have X2:((rd t108 De) == a2)=false:=beq_eq_false_iff_ne.mpr sK;have eaf:((rd t108 De) != a2)=true:=bne_iff_ne.mpr sK
               by_cases rD:0 ≤ (rd t108 De)
               ·rw [if_pos rD] at H;have daf:decide (0 ≤ (rd t108 De))=true:=decide_eq_true rD;clear rD
                by_cases Zt:(rd t108 De) < (Ck.length:Int)
                ·rw [if_pos Zt] at H;have nr:decide ((rd t108 De) < (Ck.length:Int))=true:=decide_eq_true Zt;clear Zt;obtain ⟨laf,TT⟩:∃ b_:Bool,b_=(qg false Ck (rd t108 De)):=⟨_,rfl⟩;replace H:(if (laf=true) then (Mb.l1 k2 a2 Ck We t108 (wrap64 (De + 1)) Ma La Na Ka Ea) else (if We.length < 17592186044416 then (Mb.l1 k2 a2 (Ck.set ((rd t108 De):Int).toNat true) (We ++ [rd t108 De]) t108 (wrap64 (De + 1)) Ma La Na Ka Ea) else (none)))=some r:=by rw [← TT] at H;exact H
                 have Q3:=aa.mk TT;clear TT
                 by_cases yu:(laf=true)
                 ·subst yu;have H1:(Mb.l1 k2 a2 Ck We t108 (wrap64 (De + 1)) Ma La Na Ka Ea)=some r:=by rw [if_pos rfl] at H;exact H
                  clear H;have H:=H1;clear H1;have H':=aa.mk H;clear H;obtain ⟨xR,jR,l8⟩:=Kd.xd Xh.out;subst l8;have Du:0 ≤ (De:Int):=Pa;have Bu:De < (t108.length:Int):=Pa;obtain ⟨cl,pM,Vp⟩:=Kd.Ce (Kd.Rb Xh.out).2.2 De Du Bu;cases pM;replace Du:=eq_true Du;replace Bu:=eq_true Bu;have Ks:0 ≤ (De:Int):=Pa;have Js:De < (t108.length:Int):=Pa;obtain ⟨Fw,aI,mo⟩:=Kd.Ce (Kd.Rb Xh.out).2.2 De Ks Js;obtain rfl:cl=Fw:=(by injection aI);replace Ks:=eq_true Ks;replace Js:=eq_true Js;have IL:0 ≤ ((rd t108 De):Int):=Pa;have CL:(rd t108 De) < (Ck.length:Int):=Pa;obtain ⟨DU,C8,Tp⟩:=Kd.cj (Kd.Rb Ub.out).2.2 (rd t108 De) IL CL;(try rw [← Q3.out] at Tp);obtain rfl:(⟨dM,0,none⟩:Addr)=DU:=(by injection C8);(first|simp only [add_plain] at Tp|simp only [Es] at Tp|simp only [Addr.add,Nat.zero_add] at Tp|skip);replace IL:=eq_true IL;replace CL:=eq_true CL;go_wp2;(try simp only [← sk])
                  go_roundg k2
                  case measure=>have:=Cf.out;have:=Qk.out;omega
                  case rel=>exact ⟨(Ck),(We),(wrap64 (De + 1)),(by first|rfl|(simp;done)|(simp [*];done)),H',⟨by have:=Cf.out;have:=Qk.out;omega⟩,⟨by (try simp only [Rj]);(try simp only [sk]);(with_reducible repeat (first|apply Kd.Va|apply Kd.Wa|apply Kd.jb));exact Ub.out⟩,⟨by (try simp only [Rj]);(try simp only [sk]);(with_reducible repeat (first|apply Kd.Gi|apply Kd.Fi|apply Kd.sj));exact Yf.out⟩,⟨by (try simp only [Rj]);(try simp only [sk]);(with_reducible repeat (first|apply Kd.Va|apply Kd.Wa|apply Kd.jb));exact Xh.out⟩,⟨by (try simp only [Rj]);(try simp only [sk]);(with_reducible repeat (first|refine Aa ?_ _|refine Fa ?_|refine Ba ?_ _));exact ta.out⟩,⟨by repeat (first|(with_reducible first|exact HK.out|apply Kept.alloc|apply Kept.drewN|apply Kept.drew|refine Kept.setCell ?_ (.inr He.out) _)|exact HK.out)⟩,⟨by repeat (first|(with_reducible first|exact HB.out|apply oa|apply ia|apply qa|refine ua ?_ Ua.out)|exact HB.out)⟩⟩
                 ·replace yu:=Bool.eq_false_iff.mpr yu;subst yu;have H1:(if We.length < 17592186044416 then (Mb.l1 k2 a2 (Ck.set ((rd t108 De):Int).toNat true) (We ++ [rd t108 De]) t108 (wrap64 (De + 1)) Ma La Na Ka Ea) else (none))=some r:=by rw [if_neg (show ¬ (false=true) by decide)] at H;exact H
                  clear H;have H:=H1;clear H1;obtain ⟨zx,Ku⟩:∃ y_:List Bool,y_=(Ck.set ((rd t108 De):Int).toNat true):=⟨_,rfl⟩;replace H:(if We.length < 17592186044416 then (Mb.l1 k2 a2 zx (We ++ [rd t108 De]) t108 (wrap64 (De + 1)) Ma La Na Ka Ea) else (none))=some r:=by first|(rw [Ku];with_reducible exact H)|(have Ud:=(Option.bind_some _ _).symm.trans H;rw [Ku];with_reducible exact Ud)|(have Ud:=(Option.bind_some _ _).symm.trans H;with_reducible exact Ud)|with_reducible exact H|(rw [Ku];exact H)|exact H
                  have SP:=aa.mk Ku;clear Ku
                  by_cases xx:We.length < 17592186044416
                  ·rw [if_pos xx] at H;have Laf:=aa.mk xx;clear xx;obtain ⟨iaa,sJ⟩:∃ y_:List Int,y_=(We ++ [rd t108 De]):=⟨_,rfl⟩;replace H:(Mb.l1 k2 a2 zx iaa t108 (wrap64 (De + 1)) Ma La Na Ka Ea)=some r:=by first|(rw [sJ];with_reducible exact H)|(have Ud:=(Option.bind_some _ _).symm.trans H;rw [sJ];with_reducible exact Ud)|(have Ud:=(Option.bind_some _ _).symm.trans H;with_reducible exact Ud)|with_reducible exact H|(rw [sJ];exact H)|exact H
                   have Eaf:=aa.mk sJ;clear sJ;have H':=aa.mk H;clear H;obtain ⟨FaA,sas,Zar⟩:=Kd.xd Xh.out;subst Zar;have Du:0 ≤ (De:Int):=Pa;have Bu:De < (t108.length:Int):=Pa;obtain ⟨cl,pM,Vp⟩:=Kd.Ce (Kd.Rb Xh.out).2.2 De Du Bu;cases pM;replace Du:=eq_true Du;replace Bu:=eq_true Bu;have Ks:0 ≤ (De:Int):=Pa;have Js:De < (t108.length:Int):=Pa;obtain ⟨Fw,aI,mo⟩:=Kd.Ce (Kd.Rb Xh.out).2.2 De Ks Js;obtain rfl:cl=Fw:=(by injection aI);replace Ks:=eq_true Ks;replace Js:=eq_true Js;have IL:0 ≤ ((rd t108 De):Int):=Pa;have CL:(rd t108 De) < (Ck.length:Int):=Pa;obtain ⟨DU,C8,Tp⟩:=Kd.cj (Kd.Rb Ub.out).2.2 (rd t108 De) IL CL;(try rw [← Q3.out] at Tp);obtain rfl:(⟨dM,0,none⟩:Addr)=DU:=(by injection C8);(first|simp only [add_plain] at Tp|simp only [Es] at Tp|simp only [Addr.add,Nat.zero_add] at Tp|skip);replace IL:=eq_true IL;replace CL:=eq_true CL;have X5:0 ≤ (De:Int):=Pa;have W5:De < (t108.length:Int):=Pa;obtain ⟨raf,las,tah⟩:=Kd.Ce (Kd.Rb Xh.out).2.2 De X5 W5;obtain rfl:cl=raf:=(by injection las);replace X5:=eq_true X5;replace W5:=eq_true W5;have p32:0 ≤ ((rd t108 De):Int):=Pa;have q32:((rd t108 De):Int) < ((Ck.length:Int):Int):=Pa;obtain ⟨Tap,dar⟩:=Kd.Vh false Ub.out ((rd t108 De):Int) p32 q32;replace p32:=eq_true p32;replace q32:=eq_true q32;have g_:=Kd.Vn Ub.out ((rd t108 De):Int) true;go_wp2_with (first|((with_reducible refine Ef (t:=4) (p:=56) rfl ?_);refine Xe (t:=4) (p:=56) (v:=?Xao) (w1:=(wr.setCell ⟨dM,((rd t108 De):Int).toNat,none⟩ (.bool true))) ?hg ?ho ?hn ?hr ?_;(case ho=>rfl);(case hg=>rfl);(case hn=>rfl);(case hr=>first|(go_simp;done)|(go_simp;rfl));intro pE hw;have hg:wr.grownBy pE (some dM):=(by rw [hw];exact g_.2);have Mm:Kd.R Kd.bool 4 pE w0.heap.size (fun k_=>(sw k_ ∨ w.heap.size ≤ k_)) (.slice (some ⟨dM,0,none⟩) Ck.length H8) zx:=(by rw [hw,SP.out];exact g_.1);clear g_;have Cb:=aa.mk (Mm);have Lb:=aa.mk (Kd.qZ (v:=(.slice (some ⟨dM,0,none⟩) Ck.length H8)) (by (with_reducible repeat (first|apply Kd.Gi|apply Kd.Fi|apply Kd.sj));exact Yf.out) (Kd.mj Ub.out) (by decide) hg);have Pb:=aa.mk (Kd.Xm (v:=(.slice (some ⟨dM,0,none⟩) Ck.length H8)) (by (with_reducible repeat (first|apply Kd.Va|apply Kd.Wa|apply Kd.jb));exact Xh.out) (Kd.mj Ub.out) (by decide) hg);have Ec:=aa.mk (Ff (g:=za) (o:=.cells #[.slice xb Ma.length qb,.int .i64 La,.int .i64 Na,.int .i64 Ka,.slice (some ur) Ea.length Kb] 45 (0,0)) (by (with_reducible repeat (first|refine Aa ?_ _|refine Fa ?_|refine Ba ?_ _));exact ta.out) hg (Kd.Xo Ub.out ta.out (by decide)));have fe:=aa.mk ((by rw [hw];exact ua (HB.out) GB7.out:Below w0.heap.size w0 pE));have Af:=aa.mk (Kept.fh (S:=(fun k_=>sw k_)) hg (by repeat (first|(with_reducible first|exact HK.out|apply Kept.alloc|apply Kept.drewN|apply Kept.drew|refine Kept.setCell ?_ (.inr He.out) _)|exact HK.out)) (fun k_ e_=>(Ub.out.1 k_ e_)));clear Ub Yf Xh ta HB HK;have Ub:=Cb;have Yf:=Lb;have Xh:=Pb;have ta:=Ec;have HB:=fe;have HK:=Af;clear Cb Lb Pb Ec fe Af hg hw Mm;have Dq:0 ≤ (De:Int):=Pa;have Aq:De < (t108.length:Int):=Pa;obtain ⟨UA,ZH,zm⟩:=Kd.Ce (Kd.Rb Xh.out).2.2 De Dq Aq;obtain rfl:cl=UA:=(by injection ZH);replace Dq:=eq_true Dq;replace Aq:=eq_true Aq)|((with_reducible refine Eg (b:=.append) (xs:=#[.tmp 57,.tmp 62]) rfl ?_);at_builtin;refine Kd.GK (Kd.int .i64) (w0:=w0) w0.heap.size rfl (.tmp 57) (.tmp 62) 22 3 (.int .i64 0) 8 rfl Try.underlying22 info3 rfl (by decide) (by omega) u8 We (rd t108 De) [.int .i64 (rd t108 De)] (fun k_=>(sw k_ ∨ w.heap.size ≤ k_)∧some k_ ≠ (.slice (some cl) t108.length sas:Value).ownBlock) (fun _=>False) rfl rfl ?aP (fun _ hk=>hk.elim) ?aF ?aO ?aB ?aS ?aL ?_;(case aP=>exact rfl);(case aB=>exact (by repeat (first|(with_reducible first|exact HB.out|apply oa|apply ia|apply qa|refine ua ?_ Ua.out)|exact HB.out)));(case aF=>exact (fun k_ hk=>⟨(.inr (Nat.le_trans (by first|exact HK.out.1|exact (show Kept w _ (fun k_=>sw k_) from by repeat (first|(with_reducible first|exact HK.out|apply Kept.alloc|apply Kept.drewN|apply Kept.drew|refine Kept.setCell ?_ (.inr He.out) _)|exact HK.out)).1) hk)),Kd.fresh' (Kd.Pk (by (with_reducible repeat (first|apply Kd.Va|apply Kd.Wa|apply Kd.jb));exact Xh.out)) k_ hk⟩));(case aO=>exact (by (with_reducible repeat (first|apply Kd.Gi|apply Kd.Fi|apply Kd.sj));exact Yf.out));(case aS=>exact (Ja (by repeat (first|(with_reducible first|exact HB.out|apply oa|apply ia|apply qa|refine ua ?_ Ua.out)|exact HB.out))));(case aL=>have:=Laf.out;omega);intro oap E5 ho hb hg hat;rw [← Eaf.out] at ho;have Cb:=aa.mk (Kd.Xm (by (with_reducible repeat (first|apply Kd.Va|apply Kd.Wa|apply Kd.jb));exact Ub.out) (Kd.pZ (by (with_reducible repeat (first|apply Kd.Gi|apply Kd.Fi|apply Kd.sj));exact Yf.out)) (by decide) hg);have Lb:=aa.mk (Kd.Yg (ok:=(fun k_=>(sw k_ ∨ w.heap.size ≤ k_))) (by (with_reducible repeat (first|apply Kd.Va|apply Kd.Wa|apply Kd.jb));exact Xh.out) hg hat);have Pb:=aa.mk (Ff (g:=za) (o:=.cells #[.slice xb Ma.length qb,.int .i64 La,.int .i64 Na,.int .i64 Ka,.slice (some ur) Ea.length Kb] 45 (0,0)) (by (with_reducible repeat (first|refine Aa ?_ _|refine Fa ?_|refine Ba ?_ _));exact ta.out) hg (Kd.yaf Yf.out ta.out (by decide)));have Ec:=aa.mk (hb);have fe:=aa.mk (Kept.fh (S:=(fun k_=>sw k_)) hg (by repeat (first|(with_reducible first|exact HK.out|apply Kept.alloc|apply Kept.drewN|apply Kept.drew|refine Kept.setCell ?_ (.inr He.out) _)|exact HK.out)) (fun k_ e_=>(Yf.out.1 k_ e_).1));have Af:=aa.mk (ho);clear Ub Xh ta HB HK Yf;have Ub:=Cb;have Xh:=Lb;have ta:=Pb;have HB:=Ec;have HK:=fe;have fQ:=Af;clear Cb Lb Pb Ec fe Af ho hb hg hat));(try simp only [← sk])
                   go_roundg k2
                   case measure=>have:=Cf.out;have:=Qk.out;omega
                   case rel=>exact ⟨(zx),(iaa),(wrap64 (De + 1)),(by first|rfl|(simp;done)|(simp [*];done)),H',⟨by have:=Cf.out;have:=Qk.out;omega⟩,⟨by (try simp only [Rj]);(try simp only [sk]);(with_reducible repeat (first|apply Kd.Va|apply Kd.Wa|apply Kd.jb));exact Ub.out⟩,⟨by (try simp only [Rj]);(try simp only [sk]);(with_reducible repeat (first|apply Kd.Gi|apply Kd.Fi|apply Kd.sj));exact fQ.out⟩,⟨by (try simp only [Rj]);(try simp only [sk]);(with_reducible repeat (first|apply Kd.Va|apply Kd.Wa|apply Kd.jb));exact Xh.out⟩,⟨by (try simp only [Rj]);(try simp only [sk]);(with_reducible repeat (first|refine Aa ?_ _|refine Fa ?_|refine Ba ?_ _));exact ta.out⟩,⟨by repeat (first|(with_reducible first|exact HK.out|apply Kept.alloc|apply Kept.drewN|apply Kept.drew|refine Kept.setCell ?_ (.inr He.out) _)|exact HK.out)⟩,⟨by repeat (first|(with_reducible first|exact HB.out|apply oa|apply ia|apply qa|refine ua ?_ Ua.out)|exact HB.out)⟩⟩
                  ·rw [if_neg xx] at H;exact absurd H (by simp)
                ·rw [if_neg Zt] at H;exact absurd H (by simp)
               ·rw [if_neg rD] at H;exact absurd H (by simp)
             ·rw [if_neg lI] at H;exact absurd H (by simp)
            ·rw [if_neg Dw] at H;have PA:decide (De < (t108.length:Int))=false:=decide_eq_false Dw;clear Dw;have H':=aa.mk H;clear H;obtain ⟨WK,pK,j8⟩:=Kd.xd Xh.out;subst j8;go_wp2;(try simp only [← Rj,← sk])
             go_roundg k2
             case measure=>have:=Cf.out;have:=Qk.out;omega
             case rel=>exact ⟨(Ck),(We),H',⟨by have:=Cf.out;have:=Qk.out;omega⟩,⟨by (try simp only [Rj]);(try simp only [sk]);(with_reducible repeat (first|apply Kd.Va|apply Kd.Wa|apply Kd.jb));exact Ub.out⟩,⟨by (try simp only [Rj]);(try simp only [sk]);(with_reducible repeat (first|apply Kd.Gi|apply Kd.Fi|apply Kd.sj));exact Kd.cu Yf.out (fun _ hk=>hk.1)⟩,⟨by (try simp only [Rj]);(try simp only [sk]);(with_reducible repeat (first|refine Aa ?_ _|refine Fa ?_|refine Ba ?_ _));exact ta.out⟩,⟨by repeat (first|(with_reducible first|exact HK.out|apply Kept.alloc|apply Kept.drewN|apply Kept.drew|refine Kept.setCell ?_ (.inr He.out) _)|exact HK.out)⟩,⟨by repeat (first|(with_reducible first|exact HB.out|apply oa|apply ia|apply qa|refine ua ?_ Ua.out)|exact HB.out)⟩⟩
         ·rw [if_neg Gs] at H;exact absurd H (by simp)
        ·rw [if_neg SA] at H;exact absurd H (by simp)
       ·rw [if_neg JR] at H;exact absurd H (by simp)
      ·rw [if_neg kB] at H;exact absurd H (by simp)
     ·rw [if_neg ax] at H;have Ew:decide (0 < (Ie.length:Int))=false:=decide_eq_false ax;have j3:decide (0 < Ie.length)=false:=decide_eq_false (by omega);clear ax;obtain rfl:=Option.some.inj H;obtain ⟨Wag,Eae,gU,_⟩:=Kd.Lz Yf.out;subst gU;go_wp2
      first|go_end0|((try simp only [Exit.inBlock,Exit.then]);refine bodyPost_ret (results_none rfl _ _ _) rfl ?_)
      exact ⟨by first|rfl|(simp [Ra,Qa] <;> rfl)|(simp [*,Ra,Qa] <;> rfl),(by first|exact (by (with_reducible repeat (first|apply Kd.Va|apply Kd.Wa|apply Kd.jb));exact Ub.out)|(simp only [Rj];exact (by (with_reducible repeat (first|apply Kd.Va|apply Kd.Wa|apply Kd.jb));exact Ub.out))),by repeat (first|(with_reducible first|exact HB.out|apply oa|apply ia|apply qa|refine ua ?_ Ua.out)|exact HB.out),by repeat (first|(with_reducible first|exact HK.out|apply Kept.alloc|apply Kept.drewN|apply Kept.drew|refine Kept.setCell ?_ (.inr He.out) _)|exact HK.out)⟩
  ·rw [if_neg c6] at H;exact absurd H (by simp)
 ·rw [if_neg c5] at H;exact absurd H (by simp)
def Od.l0:Nat→Int→List Int→Int→Option (List Int)
 | 0,_,_,_=>none
 | k + 1,x0,x3,x4=>if x4 < x0 then (if x3.length < 17592186044416 then (Od.l0 k x0 (x3 ++ [0]) (wrap64 (x4 + 1))) else (none)) else (some x3)
def Od.f (k:Nat) (a0:Int):Option (List Int):=Od.l0 k a0 (([]:List Int)) 0
theorem Od.calls (k:Nat) (a0:Int) (r:List Int) (w:World) (h:Od.f k a0=some r) :
  Calls Try.prog 90 #[.int .i64 a0] w fun e w'=>∃ Kp:Value,e = .returned (Kp)∧Kd.R (Kd.int .i64) 3 w' w.heap.size (fun _=>True) Kp r∧Below w.heap.size w w':=by
 have HB:=aa.mk (Below.refl w.heap.size w);have H:(Od.l0 k a0 (([]:List Int)) 0)=some r:=h;clear h;obtain ⟨pg,yg⟩:∃ y_:List Int,y_=(([]:List Int)):=⟨_,rfl⟩;replace H:(Od.l0 k a0 pg 0)=some r:=by first|(rw [yg];with_reducible exact H)|(have Ud:=(Option.bind_some _ _).symm.trans H;rw [yg];with_reducible exact Ud)|(have Ud:=(Option.bind_some _ _).symm.trans H;with_reducible exact Ud)|with_reducible exact H|(rw [yg];exact H)|exact H
 have Cl:=aa.mk yg;clear yg;have H':=aa.mk H;clear H;go_enter Try.func90,Try.ntmps90;go_wp2_with (first|((with_reducible refine Bb (N:=5) rfl ?_);refine Kd.Bl (Kd.int .i64) _ 3 ?hg (N:=5) ?hd (xs:=([]:List Int)) (inner:=[]) (ok:=fun _=>True) (Oh:=fun _=>True) ?hr ?hp (fun _ hk=>hk) trivial (Below.refl _ _) (Nat.le_refl _) (by simp) ?_;(case hd=>rfl);(case hg=>rfl);(case hr=>first|(go_simp;done)|(go_simp;rfl));(case hp=>exact (Td.none _ _));intro SI w2 UQ hb gl Ee;clear gl Ee;(first|rw [← Cl.out] at UQ|(simp only [Int.reduceToNat] at UQ;rw [← Cl.out] at UQ));have Cb:=aa.mk (Kd.xe UQ (Ja (by repeat (first|(with_reducible first|exact HB.out|apply oa|apply ia|apply qa)|exact HB.out))));have Lb:=aa.mk (Oa (by repeat (first|(with_reducible first|exact HB.out|apply oa|apply ia|apply qa)|exact HB.out)) hb);clear HB;have Ws:=Cb;have HB:=Lb;clear Cb Lb hb UQ))
 go_loopg [3,4] k (fun kq v3 v4 w'=>∃ (Tc:List Int) (nc:Int),v4 = .int .i64 nc∧aa (Od.l0 kq a0 Tc nc=some r)∧aa (kq ≤ k)∧aa (Kd.R (Kd.int .i64) 3 w' w.heap.size (fun _=>True) v3 Tc)∧aa (Below w.heap.size w w'))
 case atStart=>exact ⟨(pg),(0),(by first|rfl|(simp;done)|(simp [*];done)),H',⟨Nat.le_refl _⟩,⟨by (with_reducible repeat (first|apply Kd.Va|apply Kd.Wa|apply Kd.jb));exact Ws.out⟩,⟨by repeat (first|(with_reducible first|exact HB.out|apply oa|apply ia|apply qa)|exact HB.out)⟩⟩
 case round =>
  clear H'
  try clear p2
  (try clear HA);(try clear Cf);(try clear Ub);(try clear HB);obtain ⟨Tc,nc,rfl,HA,Cf,Ub,HB⟩:=hrel;cases gk with
  | zero=>exact absurd HA.out (by simp [Od.l0])
  | succ k1 =>
   have H:=HA.out;clear HA;simp only [Od.l0] at H
   by_cases c4:nc < a0
   ·rw [if_pos c4] at H;have Mk:decide (nc < a0)=true:=decide_eq_true c4;clear c4
    by_cases c5:Tc.length < 17592186044416
    ·rw [if_pos c5] at H;have Aas:=aa.mk c5;clear c5;obtain ⟨ng,Oo⟩:∃ y_:List Int,y_=(Tc ++ [0]):=⟨_,rfl⟩;replace H:(Od.l0 k1 a0 ng (wrap64 (nc + 1)))=some r:=by first|(rw [Oo];with_reducible exact H)|(have Ud:=(Option.bind_some _ _).symm.trans H;rw [Oo];with_reducible exact Ud)|(have Ud:=(Option.bind_some _ _).symm.trans H;with_reducible exact Ud)|with_reducible exact H|(rw [Oo];exact H)|exact H
     have MK:=aa.mk Oo;clear Oo;have H':=aa.mk H;clear H;go_wp2_with (first|((with_reducible refine Eg (b:=.append) (xs:=#[.tmp 11,.tmp 12]) rfl ?_);at_builtin;refine Kd.Ss (Kd.int .i64) (w0:=w) w.heap.size rfl (.tmp 11) (.tmp 12) 22 3 (.int .i64 0) 8 rfl Try.underlying22 info3 rfl (by decide) (by omega) u3 Tc 0 [.int .i64 0] (fun _=>True) (fun _=>False) rfl rfl ?aP (fun _ hk=>hk.elim) ?aF ?aO ?aB ?aS ?aL ?_;(case aP=>exact rfl);(case aB=>exact (by repeat (first|(with_reducible first|exact HB.out|apply oa|apply ia|apply qa)|exact HB.out)));(case aF=>exact (fun _ _=>trivial));(case aO=>exact (by (with_reducible repeat (first|apply Kd.Va|apply Kd.Wa|apply Kd.jb));exact Ub.out));(case aS=>exact (Ja (by repeat (first|(with_reducible first|exact HB.out|apply oa|apply ia|apply qa)|exact HB.out))));(case aL=>have:=Aas.out;omega);intro v105 w6 ho hb hg hat;rw [← MK.out] at ho;have Cb:=aa.mk (hb);have Lb:=aa.mk (ho);clear HB Ub;have HB:=Cb;have Jw:=Lb;clear Cb Lb ho hb hg hat))
     go_roundg k1
     case measure=>have:=Cf.out;omega
     case rel=>exact ⟨(ng),(wrap64 (nc + 1)),(by first|rfl|(simp;done)|(simp [*];done)),H',⟨by have:=Cf.out;omega⟩,⟨by (with_reducible repeat (first|apply Kd.Va|apply Kd.Wa|apply Kd.jb));exact Jw.out⟩,⟨by repeat (first|(with_reducible first|exact HB.out|apply oa|apply ia|apply qa)|exact HB.out)⟩⟩
    ·rw [if_neg c5] at H;exact absurd H (by simp)
   ·rw [if_neg c4] at H;have Mk:decide (nc < a0)=false:=decide_eq_false c4;clear c4;obtain rfl:=Option.some.inj H;go_wp2;go_ret;exact ⟨_,by first|rfl|(simp [Ra,Qa] <;> rfl)|(simp [*,Ra,Qa] <;> rfl),by (with_reducible repeat (first|apply Kd.Va|apply Kd.Wa|apply Kd.jb));exact Ub.out,by repeat (first|(with_reducible first|exact HB.out|apply oa|apply ia|apply qa)|exact HB.out)⟩
mutual
def Sb.l0:Nat→List Int→List Int→List Int→List Int→Int→Int→Int→List (Df)→Option (List Int)
 | 0,_,_,_,_,_,_,_,_=>none
 | k + 1,x3,x4,x5,Mc,Nc,Lc,Jc,Nb=>if (x5.length:Int) > 0 then (if 0 < (x5.length:Int) then (if 0 ≤ (rd x5 0) then (if (rd x5 0) < (Nb.length:Int) then ((ig.f ((Ta Nb (rd x5 0)).f0) ((Ta Nb (rd x5 0)).f1) ((Ta Nb (rd x5 0)).f2) ((Ta Nb (rd x5 0)).f3) ((Ta Nb (rd x5 0)).f4)).bind fun t115=>(if 1 ≤ (x5.length:Int) then (Sb.l1 k x3 x4 (x5.drop (1:Int).toNat) t115 0 Mc Nc Lc Jc Nb) else (none))) else (none)) else (none)) else (none)) else (Sb.l2 k x3 x4 0)
def Sb.l1:Nat→List Int→List Int→List Int→List Int→Int→List Int→Int→Int→Int→List (Df)→Option (List Int)
 | 0,_,_,_,_,_,_,_,_,_,_=>none
 | k + 1,x3,x4,x5,x6,x7,Mc,Nc,Lc,Jc,Nb=>if x7 < (x6.length:Int) then (if 0 ≤ x7 then (if 0 ≤ (rd x6 x7) then (if (rd x6 x7) < (x4.length:Int) then (if (rd x4 (rd x6 x7))=0 then (if x5.length < 17592186044416 then (Sb.l1 k x3 (x4.set ((rd x6 x7):Int).toNat 1) (x5 ++ [rd x6 x7]) x6 (wrap64 (x7 + 1)) Mc Nc Lc Jc Nb) else (none)) else (Sb.l1 k x3 x4 x5 x6 (wrap64 (x7 + 1)) Mc Nc Lc Jc Nb)) else (none)) else (none)) else (none)) else (Sb.l0 k x3 x4 x5 Mc Nc Lc Jc Nb)
def Sb.l2:Nat→List Int→List Int→Int→Option (List Int)
 | 0,_,_,_=>none
 | k + 1,x3,x4,x8=>if x8 < (x4.length:Int) then (if 0 ≤ x8 then (if (rd x4 x8)=1 then (if x3.length < 17592186044416 then (Sb.l2 k (x3 ++ [x8]) x4 (wrap64 (x8 + 1))) else (none)) else (Sb.l2 k x3 x4 (wrap64 (x8 + 1)))) else (none)) else (some x3)
end
def Sb.f (k:Nat) (Ma:List Int) (La:Int) (Na:Int) (Ka:Int) (Ea:List (Df)):Option (List Int):=(some (([]:List Int):List Int)).bind fun ze=>((Ya.f k Ma La Na Ka Ea).bind fun t105=>(if t105=true then ((Od.f k (Ea.length:Int)).bind fun t106=>(if 0 < (t106.length:Int) then (Sb.l0 k ze (t106.set (0:Int).toNat 1) (([0]:List Int)) Ma La Na Ka Ea) else (none))) else (some ze)))
def Sb.T8:Bool × List (List Nat × List Nat):=(true,[([],[]),([0],[0]),([],[]),([2],[2]),([3],[3]),([1,4],[1,4]),([5],[5]),([6],[6]),([7,7,0,1,2,3,4,5,6,7],[7])])
def Sb.B8:List Nat:=[0,1,0,4,12,31,63,127,255]
theorem Sb.rap:Bn .any (opsOf Try.f68 8)=Sb.T8:=by kernel_rfl
theorem Sb.oaf:um Sb.T8.2 Sb.B8=true:=by kernel_rfl
theorem Sb.calls (k:Nat) (xb:Option Addr) (qb:Nat) (Ma:List Int) (La:Int) (Na:Int) (Ka:Int) (Qb:Option Addr) (Kb:Nat) (Ea:List (Df)) (r:List Int) (w:World) (Re:Kd.C (Kd.int .i64) w xb Ma.length Ma) (Pe:Ma.length ≤ qb) (Cg:Kd.C Pr w Qb Ea.length Ea) (zg:Ea.length ≤ Kb) (h:Sb.f k Ma La Na Ka Ea=some r) :
  Calls Try.prog 68 #[.agg #[.slice xb Ma.length qb,.int .i64 La,.int .i64 Na,.int .i64 Ka,.slice Qb Ea.length Kb]] w fun e w'=>∃ Kp:Value,e = .returned (Kp)∧Kd.R (Kd.int .i64) 3 w' w.heap.size (fun _=>True) Kp r∧Below w.heap.size w w':=by
 have RC:=Try.underlying45;have dA:=Try.underlying83;have Ue:=aa.mk Re;have af:=aa.mk Pe;clear Re Pe;have Xf:=aa.mk Cg;have Zg:=aa.mk zg;clear Cg zg;have HB:=aa.mk (Below.refl w.heap.size w);have H:((some (([]:List Int):List Int)).bind fun ze=>((Ya.f k Ma La Na Ka Ea).bind fun t105=>(if t105=true then ((Od.f k (Ea.length:Int)).bind fun t106=>(if 0 < (t106.length:Int) then (Sb.l0 k ze (t106.set (0:Int).toNat 1) (([0]:List Int)) Ma La Na Ka Ea) else (none))) else (some ze))))=some r:=h;clear h;obtain ⟨ze,xg⟩:∃ y_:List Int,y_=(([]:List Int)):=⟨_,rfl⟩;replace H:((Ya.f k Ma La Na Ka Ea).bind fun t105=>(if t105=true then ((Od.f k (Ea.length:Int)).bind fun t106=>(if 0 < (t106.length:Int) then (Sb.l0 k ze (t106.set (0:Int).toNat 1) (([0]:List Int)) Ma La Na Ka Ea) else (none))) else (some ze)))=some r:=by first|(rw [xg];with_reducible exact H)|(have Ud:=(Option.bind_some _ _).symm.trans H;rw [xg];with_reducible exact Ud)|(have Ud:=(Option.bind_some _ _).symm.trans H;with_reducible exact Ud)|with_reducible exact H|(rw [xg];exact H)|exact H
 have Fh:=aa.mk xg;clear xg;replace H:=Option.bind_eq_some_iff.mp H;obtain ⟨t105,nE,H⟩:=H;replace H:(if t105=true then ((Od.f k (Ea.length:Int)).bind fun t106=>(if 0 < (t106.length:Int) then (Sb.l0 k ze (t106.set (0:Int).toNat 1) (([0]:List Int)) Ma La Na Ka Ea) else (none))) else (some ze))=some r:=H;have A2:=aa.mk nE;clear nE
 by_cases c3:t105=true
 ·subst c3;have H1:((Od.f k (Ea.length:Int)).bind fun t106=>(if 0 < (t106.length:Int) then (Sb.l0 k ze (t106.set (0:Int).toNat 1) (([0]:List Int)) Ma La Na Ka Ea) else (none)))=some r:=by rw [if_pos rfl] at H;exact H
  clear H;have H:=H1;clear H1;replace H:=Option.bind_eq_some_iff.mp H;obtain ⟨t106,mE,H⟩:=H;replace H:(if 0 < (t106.length:Int) then (Sb.l0 k ze (t106.set (0:Int).toNat 1) (([0]:List Int)) Ma La Na Ka Ea) else (none))=some r:=H;have A4:=aa.mk mE;clear mE
  by_cases c5:0 < (t106.length:Int)
  ·rw [if_pos c5] at H;have Sn:decide (0 < (t106.length:Int))=true:=decide_eq_true c5;have nA:decide (0 < t106.length)=true:=decide_eq_true (by omega);clear c5;obtain ⟨Ax,Jk⟩:∃ y_:List Int,y_=(t106.set (0:Int).toNat 1):=⟨_,rfl⟩;replace H:(Sb.l0 k ze Ax (([0]:List Int)) Ma La Na Ka Ea)=some r:=by first|(rw [Jk];with_reducible exact H)|(have Ud:=(Option.bind_some _ _).symm.trans H;rw [Jk];with_reducible exact Ud)|(have Ud:=(Option.bind_some _ _).symm.trans H;with_reducible exact Ud)|with_reducible exact H|(rw [Jk];exact H)|exact H
   have Ts:=aa.mk Jk;clear Jk;obtain ⟨MR,Mu⟩:∃ y_:List Int,y_=(([0]:List Int)):=⟨_,rfl⟩;replace H:(Sb.l0 k ze Ax MR Ma La Na Ka Ea)=some r:=by first|(rw [Mu];with_reducible exact H)|(have Ud:=(Option.bind_some _ _).symm.trans H;rw [Mu];with_reducible exact Ud)|(have Ud:=(Option.bind_some _ _).symm.trans H;with_reducible exact Ud)|with_reducible exact H|(rw [Mu];exact H)|exact H
   have LK:=aa.mk Mu;clear Mu;have H':=aa.mk H;clear H;go_enter Try.func68,Try.ntmps68;go_wp2_with (first|((with_reducible refine Bb (N:=1) rfl ?_);refine Ob ?hg (N:=1) ?hd (cs:=#[.slice xb Ma.length qb,.int .i64 La,.int .i64 Na,.int .i64 Ka,.slice Qb Ea.length Kb]) (t:=45) ?hr ?_;(case hd=>rfl);(case hg=>rfl);(case hr=>first|(go_simp;done)|(go_simp;rfl));intro za hg w7 oc hb;have Cb:=aa.mk (Oa (by repeat (first|(with_reducible first|exact HB.out|apply oa|apply ia|apply qa)|exact HB.out)) hb);have Lb:=aa.mk (oc);have Pb:=aa.mk ((by rw [hg];exact (Ja (by repeat (first|(with_reducible first|exact HB.out|apply oa|apply ia|apply qa)|exact HB.out))):w.heap.size ≤ za));have Ec:=aa.mk ((by rw [hg];exact (Ja (by repeat (first|(with_reducible first|exact HB.out|apply oa|apply ia|apply qa)|exact HB.out))):w.heap.size ≤ za));clear HB;have HB:=Cb;have ta:=Lb;have He:=Pb;have Ua:=Ec;clear Cb Lb Pb Ec hb oc hg)|((with_reducible refine Bb (N:=9) rfl ?_);refine Kd.Bl (Kd.int .i64) _ 3 ?hg (N:=9) ?hd (xs:=([]:List Int)) (inner:=[]) (ok:=fun _=>True) (Oh:=fun _=>True) ?hr ?hp (fun _ hk=>hk) trivial (Below.refl _ _) (Nat.le_refl _) (by simp) ?_;(case hd=>rfl);(case hg=>rfl);(case hr=>first|(go_simp;done)|(go_simp;rfl));(case hp=>exact (Td.none _ _));intro Ji w8 ZS hb gl Ee;clear gl Ee;(first|rw [← Fh.out] at ZS|(simp only [Int.reduceToNat] at ZS;rw [← Fh.out] at ZS));have Cb:=aa.mk (Kd.xe ZS (Ja (by repeat (first|(with_reducible first|exact HB.out|apply oa|apply ia|apply qa|refine ua ?_ Ua.out)|exact HB.out))));have Lb:=aa.mk (Xa (g:=za) (o:=.cells #[.slice xb Ma.length qb,.int .i64 La,.int .i64 Na,.int .i64 Ka,.slice Qb Ea.length Kb] 45 (0,0)) (by (with_reducible repeat (first|refine Aa ?_ _|refine Fa ?_|refine Ba ?_ _));exact ta.out) hb);have Pb:=aa.mk (Oa (by repeat (first|(with_reducible first|exact HB.out|apply oa|apply ia|apply qa|refine ua ?_ Ua.out)|exact HB.out)) hb);clear ta HB;have ee:=Cb;have ta:=Lb;have HB:=Pb;clear Cb Lb Pb hb ZS;have Ei:w8.cell? ⟨za,0,none⟩=some (.slice xb Ma.length qb):=(ja ta.out 0).trans rfl;have Di:w8.cell? ⟨za,1,none⟩=some (.int .i64 La):=(ja ta.out 1).trans rfl;have Ci:w8.cell? ⟨za,2,none⟩=some (.int .i64 Na):=(ja ta.out 2).trans rfl;have Bi:w8.cell? ⟨za,3,none⟩=some (.int .i64 Ka):=(ja ta.out 3).trans rfl;have Ai:w8.cell? ⟨za,4,none⟩=some (.slice Qb Ea.length Kb):=(ja ta.out 4).trans rfl;have zi:=ga ta.out 0;have si:=ga ta.out 1;have qi:=ga ta.out 2;have ni:=ga ta.out 3;have ki:=ga ta.out 4)|((with_reducible refine Ab (f:=66) rfl ?_);refine Uc (some 11) rfl rfl Try.func66 (by kernel_rfl) rfl #[.agg #[.slice xb Ma.length qb,.int .i64 La,.int .i64 Na,.int .i64 Ka,.slice Qb Ea.length Kb]] rfl (by (try simp only [List.map_toArray,List.map_cons,List.map_nil]);first|done|rfl|(simp only [List.length_drop,List.length_take];rfl)) ?_;(with_reducible refine (Ya.calls k _ _ Ma La Na Ka _ _ Ea true _ ?jc ?ic ?Ed ?Dd A2.out).mono ?_);(case jc=>repeat (first|exact (Kd.Ib Ue.out HB.out)|(with_reducible refine Kd.Jb ?_ _)|(with_reducible refine Kd.Gb ?_ _)|(with_reducible refine Kd.dc ?_)));(case ic=>exact af.out);(case Ed=>repeat (first|exact (Kd.Ib Xf.out HB.out)|(with_reducible refine Kd.Jb ?_ _)|(with_reducible refine Kd.Gb ?_ _)|(with_reducible refine Kd.dc ?_)));(case Dd=>exact Zg.out);rintro e Vj ⟨rfl,hb⟩;refine ⟨_,rfl,?_⟩;have Cb:=aa.mk (Kd.lg (by (with_reducible repeat (first|apply Kd.Va|apply Kd.Wa|apply Kd.jb));exact ee.out) hb);have Lb:=aa.mk (Xa (g:=za) (o:=.cells #[.slice xb Ma.length qb,.int .i64 La,.int .i64 Na,.int .i64 Ka,.slice Qb Ea.length Kb] 45 (0,0)) (by (with_reducible repeat (first|refine Aa ?_ _|refine Fa ?_|refine Ba ?_ _));exact ta.out) hb);have Pb:=aa.mk (Oa (by repeat (first|(with_reducible first|exact HB.out|apply oa|apply ia|apply qa|refine ua ?_ Ua.out)|exact HB.out)) hb);clear ee ta HB;have ee:=Cb;have ta:=Lb;have HB:=Pb;clear Cb Lb Pb;(try clear hb);(try clear Gj);(try clear hk);(try clear hi);have Ql:Vj.cell? ⟨za,0,none⟩=some (.slice xb Ma.length qb):=(ja ta.out 0).trans rfl;have Ol:Vj.cell? ⟨za,1,none⟩=some (.int .i64 La):=(ja ta.out 1).trans rfl;have Nl:Vj.cell? ⟨za,2,none⟩=some (.int .i64 Na):=(ja ta.out 2).trans rfl;have Ml:Vj.cell? ⟨za,3,none⟩=some (.int .i64 Ka):=(ja ta.out 3).trans rfl;have Ll:Vj.cell? ⟨za,4,none⟩=some (.slice Qb Ea.length Kb):=(ja ta.out 4).trans rfl;have Kl:=ga ta.out 0;have Jl:=ga ta.out 1;have Il:=ga ta.out 2;have Hl:=ga ta.out 3;have Gl:=ga ta.out 4)|((with_reducible refine Ab (f:=90) rfl ?_);refine Uc (some 17) rfl rfl Try.func90 (by kernel_rfl) rfl #[.int .i64 (Ea.length:Int)] rfl (by (try simp only [List.map_toArray,List.map_cons,List.map_nil]);first|done|rfl|(simp only [List.length_drop,List.length_take];rfl)) ?_;(with_reducible refine (Od.calls k (Ea.length:Int) t106 _ A4.out).mono ?_);rintro e KI ⟨v107,rfl,Bg,hb⟩;refine ⟨_,rfl,?_⟩;have Cb:=aa.mk (Kd.Mh (by (with_reducible repeat (first|apply Kd.Va|apply Kd.Wa|apply Kd.jb));exact ee.out) (Kd.cg Bg) hb);have Lb:=aa.mk (Kd.xe (Kd.Yj Bg (Kd.Pk (by (with_reducible repeat (first|apply Kd.Va|apply Kd.Wa|apply Kd.jb));exact ee.out))) (Ja (by repeat (first|(with_reducible first|exact HB.out|apply oa|apply ia|apply qa|refine ua ?_ Ua.out)|exact HB.out))));have Pb:=aa.mk (Xa (g:=za) (o:=.cells #[.slice xb Ma.length qb,.int .i64 La,.int .i64 Na,.int .i64 Ka,.slice Qb Ea.length Kb] 45 (0,0)) (by (with_reducible repeat (first|refine Aa ?_ _|refine Fa ?_|refine Ba ?_ _));exact ta.out) hb);have Ec:=aa.mk (Oa (by repeat (first|(with_reducible first|exact HB.out|apply oa|apply ia|apply qa|refine ua ?_ Ua.out)|exact HB.out)) hb);clear ee ta HB;have ee:=Cb;have Dl:=Lb;have ta:=Pb;have HB:=Ec;clear Cb Lb Pb Ec;(try clear hb);(try clear Gj);(try clear hk);(try clear hi);(try clear Bg);have p6:0 ≤ (0:Int):=(by omega);have q6:(0:Int) < ((t106.length:Int):Int):=Pa;have qi6:(0 < t106.length)=True:=eq_true (by omega);obtain ⟨Ru,Dz,eo6,gb6,gl6,cl6,HG6⟩:=Kd.gm Dl.out (by omega);(first|cases eo6|(injection eo6 with Xj Uw Ww;(first|subst Xj|(injection Xj with Xj;subst Xj));subst Ww;clear Uw));have GB6:=aa.mk gb6;have GG6:=aa.mk HG6;clear gb6 gl6 HG6;obtain ⟨zE,oT⟩:=Kd.Vh 0 Dl.out (0:Int) p6 q6;(try rw [show ((0:Int)).toNat=0 from rfl] at zE);(try simp only [Nat.reduceMul,Nat.zero_mul,Nat.zero_add,Nat.reduceAdd] at zE);(try rw [show ((0:Int)).toNat=0 from rfl] at oT);(try simp only [Nat.reduceMul,Nat.zero_mul,Nat.zero_add,Nat.reduceAdd] at oT);replace p6:=eq_true p6;replace q6:=eq_true q6;have n_:=aa.mk (Kd.mc (wj:=(fun k_=>some k_ ≠ (Ji:Value).ownBlock)) Dl.out (fun k_ hk=>hk.2));clear Dl;have Dl:=n_;clear n_;obtain ⟨WZ,VZ⟩:=Kd.Vh 0 Dl.out (0:Int) (by omega) (Pa);(try simp only [Int.reduceToNat,Int.toNat_zero,Int.toNat_ofNat,Nat.reduceMul,Nat.zero_mul,Nat.zero_add] at WZ VZ);(try rw [show ((0:Int)).toNat=0 from rfl] at WZ);(try rw [show ((0:Int)).toNat=0 from rfl] at VZ);have PM:=Kd.Vn Dl.out (0:Int) 1)|((with_reducible refine Ef (t:=3) (p:=19) rfl ?_);refine Xe (t:=3) (p:=19) (v:=?G5) (w1:=(KI.setCell ⟨Ru,(0:Int).toNat,none⟩ (.int .i64 1))) ?hg ?ho ?hn ?hr ?_;(case ho=>rfl);(case hg=>rfl);(case hn=>rfl);(case hr=>first|(go_simp;done)|(go_simp;rfl));intro Fs hw;have hg:KI.grownBy Fs (some Ru):=(by rw [hw];exact PM.2);have Mm:Kd.R (Kd.int .i64) 3 Fs w.heap.size (fun k_=>some k_ ≠ (Ji:Value).ownBlock) (.slice (some ⟨Ru,0,none⟩) t106.length Dz) Ax:=(by rw [hw,Ts.out];exact PM.1);clear PM;have Cb:=aa.mk (Ff (g:=za) (o:=.cells #[.slice xb Ma.length qb,.int .i64 La,.int .i64 Na,.int .i64 Ka,.slice Qb Ea.length Kb] 45 (0,0)) (by (with_reducible repeat (first|refine Aa ?_ _|refine Fa ?_|refine Ba ?_ _));exact ta.out) hg (Kd.Xo Dl.out ta.out (by decide)));have Lb:=aa.mk (Kd.Yg (v:=(.slice (some ⟨Ru,0,none⟩) t106.length Dz)) (v1:=(.slice (some ⟨Ru,0,none⟩) t106.length Dz)) (ok:=(fun _=>True)) (by (with_reducible repeat (first|apply Kd.Va|apply Kd.Wa|apply Kd.jb));exact ee.out) hg (.inl rfl));have Pb:=aa.mk (Mm);have Ec:=aa.mk ((by rw [hw];exact ua (HB.out) GB6.out:Below w.heap.size w Fs));clear ta ee Dl HB;have ta:=Cb;have ee:=Lb;have Dl:=Pb;have HB:=Ec;clear Cb Lb Pb Ec hg hw Mm)|((with_reducible refine Bb (N:=20) rfl ?_);refine Kd.Bl (Kd.int .i64) _ 3 ?hg (N:=20) ?hd (xs:=([0]:List Int)) (inner:=[.int .i64 0]) (ok:=fun _=>True) (Oh:=fun _=>True) ?hr ?hp (fun _ hk=>hk) trivial (Below.refl _ _) (Nat.le_refl _) (by simp) ?_;(case hd=>rfl);(case hg=>rfl);(case hr=>first|(go_simp;done)|(go_simp;rfl));(case hp=>exact (Td.one (show Kd.M (Kd.int .i64) _ _ _ 0 [.int .i64 0] from rfl) (Td.none _ _)));intro qap qE VL hb gl Ee;clear gl Ee;(first|rw [← LK.out] at VL|(simp only [Int.reduceToNat] at VL;rw [← LK.out] at VL));have Cb:=aa.mk (Kd.Mh (by (with_reducible repeat (first|apply Kd.Va|apply Kd.Wa|apply Kd.jb));exact ee.out) (Kd.cg VL) hb);have Lb:=aa.mk (Kd.Mh (by (with_reducible repeat (first|apply Kd.Va|apply Kd.Wa|apply Kd.jb));exact Dl.out) (Kd.cg VL) hb);have Pb:=aa.mk (Kd.xe (Kd.Yj (Kd.Yj VL (Kd.Pk (by (with_reducible repeat (first|apply Kd.Va|apply Kd.Wa|apply Kd.jb));exact ee.out))) (Kd.Pk (by (with_reducible repeat (first|apply Kd.Va|apply Kd.Wa|apply Kd.jb));exact Dl.out))) (Ja (by repeat (first|(with_reducible first|exact HB.out|apply oa|apply ia|apply qa|refine ua ?_ Ua.out)|exact HB.out))));have Ec:=aa.mk (Xa (g:=za) (o:=.cells #[.slice xb Ma.length qb,.int .i64 La,.int .i64 Na,.int .i64 Ka,.slice Qb Ea.length Kb] 45 (0,0)) (by (with_reducible repeat (first|refine Aa ?_ _|refine Fa ?_|refine Ba ?_ _));exact ta.out) hb);have fe:=aa.mk (Oa (by repeat (first|(with_reducible first|exact HB.out|apply oa|apply ia|apply qa|refine ua ?_ Ua.out)|exact HB.out)) hb);clear ee Dl ta HB;have ee:=Cb;have Dl:=Lb;have aV:=Pb;have ta:=Ec;have HB:=fe;clear Cb Lb Pb Ec fe hb VL))
   go_loopg [5] k (fun kq v5 w'=>∃ (nc:List Int) (Ca:List Int),aa (Sb.l0 kq ze nc Ca Ma La Na Ka Ea=some r)∧aa (kq ≤ k)∧aa (Kd.R (Kd.int .i64) 3 w' w.heap.size (fun k_=>some k_ ≠ ((.slice (some ⟨Ru,0,none⟩) t106.length Dz):Value).ownBlock∧some k_ ≠ (v5:Value).ownBlock) Ji ze)∧aa (Kd.R (Kd.int .i64) 3 w' w.heap.size (fun k_=>some k_ ≠ (Ji:Value).ownBlock∧some k_ ≠ (v5:Value).ownBlock) (.slice (some ⟨Ru,0,none⟩) t106.length Dz) nc)∧aa (Kd.Q (Kd.int .i64) 3 w' w.heap.size (fun k_=>some k_ ≠ (Ji:Value).ownBlock∧some k_ ≠ ((.slice (some ⟨Ru,0,none⟩) t106.length Dz):Value).ownBlock) v5 Ca)∧aa (w'.heap[za]? = some (.cells #[(.slice xb Ma.length qb),.int .i64 La,.int .i64 Na,.int .i64 Ka,(.slice Qb Ea.length Kb)] 45 (0,0)))∧aa (Below w.heap.size w w'))
   case atStart=>exact ⟨(Ax),(MR),H',⟨Nat.le_refl _⟩,⟨by (with_reducible repeat (first|apply Kd.Va|apply Kd.Wa|apply Kd.jb));exact Kd.mc ee.out (fun _ hk=>⟨hk.1.2,hk.2⟩)⟩,⟨by (with_reducible repeat (first|apply Kd.Va|apply Kd.Wa|apply Kd.jb));exact Dl.out⟩,⟨Kd.IM (by (with_reducible repeat (first|apply Kd.Va|apply Kd.Wa|apply Kd.jb));exact Kd.mc aV.out (fun _ hk=>⟨hk.1.2,hk.2⟩))⟩,⟨by (with_reducible repeat (first|refine Aa ?_ _|refine Fa ?_|refine Ba ?_ _));exact ta.out⟩,⟨by repeat (first|(with_reducible first|exact HB.out|apply oa|apply ia|apply qa|refine ua ?_ Ua.out)|exact HB.out)⟩⟩
   case round =>
    clear H'
    try clear p2
    try clear c3
    try clear c5
    try clear Sn
    try clear nA
    try clear c6
    try clear p6
    try clear q6
    try clear pF
    try clear qi6
    try clear hf6
    try clear c9
    try clear Ei
    try clear Di
    try clear Ci
    try clear Bi
    try clear Ai
    try clear Ql
    try clear Ol
    try clear Nl
    try clear Ml
    try clear Ll
    try clear zi
    try clear si
    try clear qi
    try clear ni
    try clear ki
    try clear Kl
    try clear Jl
    try clear Il
    try clear Hl
    try clear Gl
    try clear zE
    try clear p6
    try clear q6
    (try clear HA);(try clear Cf);(try clear Ub);(try clear uc);(try clear wh);(try clear ta);(try clear HB);obtain ⟨nc,Ca,HA,Cf,Ub,uc,wh,ta,HB⟩:=hrel;have Dh:=(Kd.Rb uc.out).1;rw [Dh] at uc;(try simp only [Dh]);(try simp only [Dh] at ta);(try simp only [Dh] at Ub);(try simp only [Dh] at wh);cases gk with
    | zero=>exact absurd HA.out (by simp [Sb.l0])
    | succ k1 =>
     have H:=HA.out;clear HA;simp only [Sb.l0] at H
     by_cases Gs:(Ca.length:Int) > 0
     ·rw [if_pos Gs] at H;have vn:decide (0 < (Ca.length:Int))=true:=decide_eq_true Gs;have Fz:decide (0 < Ca.length)=true:=decide_eq_true (by omega);clear Gs
      by_cases gw:0 < (Ca.length:Int)
      ·rw [if_pos gw] at H;have QA:decide (0 < (Ca.length:Int))=true:=decide_eq_true gw;have KP:decide (0 < Ca.length)=true:=decide_eq_true (by omega);clear gw
       by_cases Qz:0 ≤ (rd Ca 0)
       ·rw [if_pos Qz] at H;have wU:decide (0 ≤ (rd Ca 0))=true:=decide_eq_true Qz;clear Qz
        by_cases fE:(rd Ca 0) < (Ea.length:Int)
        ·rw [if_pos fE] at H;have vK:decide ((rd Ca 0) < (Ea.length:Int))=true:=decide_eq_true fE;clear fE;replace H:=Option.bind_eq_some_iff.mp H;obtain ⟨t115,iV,H⟩:=H;replace H:(if 1 ≤ (Ca.length:Int) then (Sb.l1 k1 ze nc (Ca.drop (1:Int).toNat) t115 0 Ma La Na Ka Ea) else (none))=some r:=H;have o5:=aa.mk iV;clear iV
         by_cases Dw:1 ≤ (Ca.length:Int)
         ·rw [if_pos Dw] at H;have PA:=eq_true Dw;have tK:decide (1 ≤ (Ca.length:Int))=true:=decide_eq_true Dw;clear Dw;obtain ⟨zx,Ku⟩:∃ y_:List Int,y_=(Ca.drop (1:Int).toNat):=⟨_,rfl⟩;replace H:(Sb.l1 k1 ze nc zx t115 0 Ma La Na Ka Ea)=some r:=by first|(rw [Ku];with_reducible exact H)|(have Ud:=(Option.bind_some _ _).symm.trans H;rw [Ku];with_reducible exact Ud)|(have Ud:=(Option.bind_some _ _).symm.trans H;with_reducible exact Ud)|with_reducible exact H|(rw [Ku];exact H)|exact H
          have SP:=aa.mk Ku;clear Ku;have H':=aa.mk H;clear H;obtain ⟨KaA,lU,XY,_⟩:=Kd.Lz wh.out;subst XY
          try go_wp2
          have Cb:=aa.mk (Kd.jb Ub.out);have Lb:=aa.mk (Kd.jb uc.out);have Pb:=aa.mk (Kd.sj wh.out);have Ec:=aa.mk (Fa ta.out);have fe:=aa.mk (qa HB.out);clear Ub uc wh ta HB;have Ub:=Cb;have uc:=Lb;have wh:=Pb;have ta:=Ec;have HB:=fe;clear Cb Lb Pb Ec fe;have jS:0 ≤ (0:Int):=(by omega);have gS:0 < (Ca.length:Int):=Pa;obtain ⟨ME,mas,tv⟩:=Kd.Ce (Kd.BD wh.out).2.2 0 jS gS;cases mas;have Gat:(0 < Ca.length)=True:=eq_true (by omega);(try rw [show ((0:Int)).toNat=0 from rfl] at tv);(try rw [Addr.add_zero'] at tv);replace jS:=eq_true jS;replace gS:=eq_true gS;have Du:0 ≤ ((rd Ca 0):Int):=Pa;have Bu:(rd Ca 0) < (Ea.length:Int):=Pa;obtain ⟨cl,nV,yU,pM,Vp,qv,ov,nv,jv,FN,PN⟩:=Nk Xf.out (rd Ca 0) Du Bu;have vN:=jv;have wN:=nv;have xN:=ov;have yN:=qv;have zN:=Vp;cases pM;replace Vp:=Sa HB.out Vp;replace qv:=Sa HB.out qv;replace ov:=Sa HB.out ov;replace nv:=Sa HB.out nv;replace jv:=Sa HB.out jv;have ZP:=aa.mk PN;have KZ:=aa.mk FN;clear PN FN;replace Du:=eq_true Du;replace Bu:=eq_true Bu;refine fl (n:=9) (S:=fun w'=>w'.cell? ⟨za,0,none⟩=some (.slice xb Ma.length qb)∧w'.cell? ⟨za,1,none⟩=some (.int .i64 La)∧w'.cell? ⟨za,2,none⟩=some (.int .i64 Na)∧w'.cell? ⟨za,3,none⟩=some (.int .i64 Ka)∧w'.cell? ⟨za,4,none⟩=some (.slice (some cl) Ea.length Kb)∧w'.cell? ME=some (.int .i64 (rd Ca 0))∧w'.cell? (cl.add (((rd Ca 0)).toNat * 5))=some (.slice nV ((Ta Ea (rd Ca 0)).f0).length yU)∧w'.cell? ⟨(cl.add (((rd Ca 0)).toNat * 5)).block,(cl.add (((rd Ca 0)).toNat * 5)).off + 1,none⟩=some (.int .i64 ((Ta Ea (rd Ca 0)).f1))∧w'.cell? ⟨(cl.add (((rd Ca 0)).toNat * 5)).block,(cl.add (((rd Ca 0)).toNat * 5)).off + 2,none⟩=some (.int .i64 ((Ta Ea (rd Ca 0)).f2))∧w'.cell? ⟨(cl.add (((rd Ca 0)).toNat * 5)).block,(cl.add (((rd Ca 0)).toNat * 5)).off + 3,none⟩=some (.int .i64 ((Ta Ea (rd Ca 0)).f3))∧w'.cell? ⟨(cl.add (((rd Ca 0)).toNat * 5)).block,(cl.add (((rd Ca 0)).toNat * 5)).off + 4,none⟩=some (.int .i64 ((Ta Ea (rd Ca 0)).f4))) (ds:=[]) #[false,false,false,false,false,false,false,false,false] (by kernel_rfl) rfl rfl ⟨(ja ta.out 0).trans rfl,(ja ta.out 1).trans rfl,(ja ta.out 2).trans rfl,(ja ta.out 3).trans rfl,(ja ta.out 4).trans rfl,tv,(Sa HB.out zN),(Sa HB.out yN),(Sa HB.out xN),(Sa HB.out wN),(Sa HB.out vN)⟩ (fun hHeld=>?_);refine Si Sb.rap Sb.oaf (fun mg eu=>?_);generalize wr.drew=R_ at Ub uc wh ta HB ZP tv Vp qv ov nv jv hHeld ⊢;refine od (i:=0) (N:=some 24) (v:=?_) (a':=?_) #[true,false,false,false,false,false,false,false,false] rfl rfl (Vc mg.out (by kernel_rfl)) (fun _ _ _ h=>h) (Or.inl ⟨by rfl,?_⟩) ?_ ?_;rotate_left
          ·intro w';go_simp;with_reducible rfl
          rotate_left
          ·simp only [Act.put,List.setIfInBounds_toArray,List.set_cons_zero,List.set_cons_succ,Vb,Wb]
           rfl
          refine od (i:=2) (N:=some 26) (v:=?_) (a':=?_) #[true,false,true,false,false,false,false,false,false] rfl rfl (Vc mg.out (by kernel_rfl)) (fun _ _ _ h=>h) (Or.inl ⟨by rfl,?_⟩) ?_ ?_;rotate_left
          ·intro w';go_simp;with_reducible rfl
          rotate_left
          ·simp only [Act.put,List.setIfInBounds_toArray,List.set_cons_zero,List.set_cons_succ,Vb,Wb]
           rfl
          refine od (i:=3) (N:=some 27) (v:=?_) (a':=?_) #[true,false,true,true,false,false,false,false,false] rfl rfl (Vc mg.out (by kernel_rfl)) (fun _ _ _ h=>h) (Or.inl ⟨by rfl,?_⟩) ?_ ?_;rotate_left
          ·intro w';go_simp;with_reducible rfl
          rotate_left
          ·simp only [Act.put,List.setIfInBounds_toArray,List.set_cons_zero,List.set_cons_succ,Vb,Wb]
           rfl
          refine Ih (i:=1) (N:=some 25) (v:=?_) (a':=?_) #[true,true,true,true,false,false,false,false,false] rfl rfl (zf mg.out eu.out (by kernel_rfl)) (fun _ _ _ h=>h) (Or.inl ⟨by rfl,?_⟩) hHeld ?_ ?_;rotate_left
          ·rintro w' ⟨s0,s1,s2,s3,s4,s5,s6,s7,s8,s9,yL⟩;go_simp;with_reducible rfl
          rotate_left
          ·simp only [Act.put,List.setIfInBounds_toArray,List.set_cons_zero,List.set_cons_succ,Vb,Wb]
           rfl
          refine Ih (i:=4) (N:=some 28) (v:=?_) (a':=?_) #[true,true,true,true,true,false,false,false,false] rfl rfl (zf mg.out eu.out (by kernel_rfl)) (fun _ _ _ h=>h) (Or.inl ⟨by rfl,?_⟩) hHeld ?_ ?_;rotate_left
          ·rintro w' ⟨s0,s1,s2,s3,s4,s5,s6,s7,s8,s9,yL⟩;go_simp;with_reducible rfl
          rotate_left
          ·simp only [Act.put,List.setIfInBounds_toArray,List.set_cons_zero,List.set_cons_succ,Vb,Wb]
           rfl
          refine od (i:=5) (N:=some 29) (v:=?_) (a':=?_) #[true,true,true,true,true,true,false,false,false] rfl rfl (Vc mg.out (by kernel_rfl)) (fun _ _ _ h=>h) (Or.inl ⟨by rfl,?_⟩) ?_ ?_;rotate_left
          ·intro w';go_simp;with_reducible rfl
          rotate_left
          ·simp only [Act.put,List.setIfInBounds_toArray,List.set_cons_zero,List.set_cons_succ,Vb,Wb]
           rfl
          refine Ih (i:=6) (N:=some 30) (v:=?_) (a':=?_) #[true,true,true,true,true,true,true,false,false] rfl rfl (zf mg.out eu.out (by kernel_rfl)) (fun _ _ _ h=>h) (Or.inl ⟨by rfl,?_⟩) hHeld ?_ ?_;rotate_left
          ·rintro w' ⟨s0,s1,s2,s3,s4,s5,s6,s7,s8,s9,yL⟩;go_simp;with_reducible rfl
          rotate_left
          ·simp only [Act.put,List.setIfInBounds_toArray,List.set_cons_zero,List.set_cons_succ,Vb,Wb]
           rfl
          refine Ko (i:=7) (N:=some 31) #[true,true,true,true,true,true,true,true,false] rfl rfl (vp mg.out (by kernel_rfl)) (by decide) (fun K hK=>?_);refine ju Try.func85 (by kernel_rfl) rfl #[.agg #[.slice nV ((Ta Ea (rd Ca 0)).f0).length yU,.int .i64 ((Ta Ea (rd Ca 0)).f1),.int .i64 ((Ta Ea (rd Ca 0)).f2),.int .i64 ((Ta Ea (rd Ca 0)).f3),.int .i64 ((Ta Ea (rd Ca 0)).f4)]] (by rfl) rfl rfl (by (try simp only [List.map_toArray,List.map_cons,List.map_nil]);first|done|rfl|(simp only [List.length_drop,List.length_take];rfl)) ?_;with_reducible refine (ig.calls _ _ ((Ta Ea (rd Ca 0)).f0) ((Ta Ea (rd Ca 0)).f1) ((Ta Ea (rd Ca 0)).f2) ((Ta Ea (rd Ca 0)).f3) ((Ta Ea (rd Ca 0)).f4) t115 _ ?jc ?ic o5.out).mono ?_
          (case jc=>repeat (first|exact (Kd.Ib ZP.out HB.out)|(with_reducible refine Kd.Jb ?_ _)|(with_reducible refine Kd.Gb ?_ _)|(with_reducible refine Kd.dc ?_)))
          (case ic=>exact KZ.out)
          rintro e lp ⟨cF,rfl,Bg,hb⟩;have W9:=(hb.cell (World.block_lt_of_cell? _ _ (hHeld.2.2.2.2.2.1))).trans (hHeld.2.2.2.2.2.1);refine ⟨_,rfl,?_⟩;have Cb:=aa.mk (Kd.Mh (by (with_reducible repeat (first|apply Kd.Va|apply Kd.Wa|apply Kd.jb));exact Ub.out) (Kd.cg Bg) hb);have Lb:=aa.mk (Kd.Mh (by (with_reducible repeat (first|apply Kd.Va|apply Kd.Wa|apply Kd.jb));exact uc.out) (Kd.cg Bg) hb);have Pb:=aa.mk (Kd.EK (by (with_reducible repeat (first|apply Kd.Gi|apply Kd.Fi|apply Kd.sj));exact wh.out) (Kd.cg Bg) hb);have Ec:=aa.mk (Kd.xe (Kd.Yj (Kd.Yj (Kd.Yj Bg (Kd.Pk (by (with_reducible repeat (first|apply Kd.Va|apply Kd.Wa|apply Kd.jb));exact Ub.out))) (Kd.Pk (by (with_reducible repeat (first|apply Kd.Va|apply Kd.Wa|apply Kd.jb));exact uc.out))) (Kd.zaf (by (with_reducible repeat (first|apply Kd.Gi|apply Kd.Fi|apply Kd.sj));exact wh.out))) (Ja (by repeat (first|(with_reducible first|exact HB.out|apply oa|apply ia|apply qa|refine ua ?_ Ua.out)|exact HB.out))));have fe:=aa.mk (Xa (g:=za) (o:=.cells #[.slice xb Ma.length qb,.int .i64 La,.int .i64 Na,.int .i64 Ka,.slice (some cl) Ea.length Kb] 45 (0,0)) (by (with_reducible repeat (first|refine Aa ?_ _|refine Fa ?_|refine Ba ?_ _));exact ta.out) hb);have Af:=aa.mk (Oa (by repeat (first|(with_reducible first|exact HB.out|apply oa|apply ia|apply qa|refine ua ?_ Ua.out)|exact HB.out)) hb);clear Ub uc wh ta HB;have Ub:=Cb;have uc:=Lb;have wh:=Pb;have SE:=Ec;have ta:=fe;have HB:=Af;clear Cb Lb Pb Ec fe Af;(try clear hb);(try clear Gj);(try clear hk);(try clear hi);(try clear Bg);refine hK.out _ _ ⟨(ja ta.out 0).trans rfl,(ja ta.out 1).trans rfl,(ja ta.out 2).trans rfl,(ja ta.out 3).trans rfl,(ja ta.out 4).trans rfl,W9,(Sa HB.out zN),(Sa HB.out yN),(Sa HB.out xN),(Sa HB.out wN),(Sa HB.out vN)⟩ (fun hHeld=>?_);clear hK K;refine Rg (a':=?_) ?_ ?_;rotate_left
          ·show Act.put _ (some 31) _=_
           simp only [Act.put,List.setIfInBounds_toArray,List.set_cons_zero,List.set_cons_succ,Vb,Wb]
           rfl
          refine od (i:=8) (N:=some 6) (v:=?_) (a':=?_) #[true,true,true,true,true,true,true,true,true] rfl rfl (Vc mg.out (by kernel_rfl)) (fun _ _ _ h=>h) (Or.inl ⟨by rfl,?_⟩) ?_ ?_;rotate_left
          ·intro w';go_simp;with_reducible rfl
          rotate_left
          ·simp only [Act.put,List.setIfInBounds_toArray,List.set_cons_zero,List.set_cons_succ,Vb,Wb]
           rfl
          refine Mp (Sl mg.out (by kernel_rfl)) ?_;have n_:=aa.mk (Kd.cu (wj:=(fun k_=>some k_ ≠ (Ji:Value).ownBlock∧some k_ ≠ (.slice (some ⟨Ru,0,none⟩) nc.length Dz:Value).ownBlock∧some k_ ≠ (cF:Value).ownBlock)) wh.out (fun k_ hk=>⟨hk.1.1,⟨hk.1.2,hk.2⟩⟩));clear wh;have wh:=n_;clear n_;have V5:(1:Int) ≤ ((Ca.length:Int):Int):=Pa;obtain ⟨May,V0,_,ZZ,_⟩:=info_parts info3;have O7:=kD (P:=Try.prog) 22 3 .i64 Try.underlying22 V0 1 ZZ (some ME) Ca.length lU 1 (by omega) V5;have YS:=Kd.OU (k:=(1:Int).toNat) wh.out (by omega);obtain ⟨L_,SY⟩:∃ A1,A1=(if lU=(1:Int).toNat then (some ME) else ((some ME):Option Addr).map (·.add ((1:Int).toNat * 1))):=⟨_,rfl⟩;obtain ⟨rD,R7⟩:∃ c1,c1=lU - (1:Int).toNat:=⟨_,rfl⟩;have C6:zx.length=Ca.length - (1:Int).toNat:=(by rw [SP.out,List.length_drop]);rw [← SP.out] at YS;rw [← C6,← SY,← R7] at O7;replace YS:Kd.Q (Kd.int .i64) 3 lp w.heap.size (fun k_=>some k_ ≠ (Ji:Value).ownBlock∧some k_ ≠ (.slice (some ⟨Ru,0,none⟩) nc.length Dz:Value).ownBlock∧some k_ ≠ (cF:Value).ownBlock) (.slice L_ zx.length rD) zx:=(by rw [SY,R7,C6];exact YS);have C_:aa ((Value.slice L_ zx.length rD).ownBlock=(.slice (some ME) Ca.length lU:Value).ownBlock):=⟨by rw [SY];split <;> (cases ((some ME):Option Addr) <;> rfl)⟩;clear C6 V0 ZZ wh SY R7;have oag:=aa.mk YS;clear YS;replace V5:=eq_true V5;have n_:=aa.mk (Kd.mc (wj:=fun k_=>((some k_ ≠ (.slice (some ⟨Ru,0,none⟩) nc.length Dz:Value).ownBlock∧some k_ ≠ (.slice L_ zx.length rD:Value).ownBlock)∧some k_ ≠ (cF:Value).ownBlock)) Ub.out (fun k_ hk=>⟨⟨hk.1.1,(by rw [C_.out];exact hk.1.2)⟩,hk.2⟩));clear Ub;have Ub:=n_;clear n_;have n_:=aa.mk (Kd.mc (wj:=fun k_=>((some k_ ≠ (Ji:Value).ownBlock∧some k_ ≠ (.slice L_ zx.length rD:Value).ownBlock)∧some k_ ≠ (cF:Value).ownBlock)) uc.out (fun k_ hk=>⟨⟨hk.1.1,(by rw [C_.out];exact hk.1.2)⟩,hk.2⟩));clear uc;have uc:=n_;clear n_;have n_:=aa.mk (Kd.mc (wj:=fun k_=>(((True∧some k_ ≠ (Ji:Value).ownBlock)∧some k_ ≠ (.slice (some ⟨Ru,0,none⟩) nc.length Dz:Value).ownBlock)∧some k_ ≠ (.slice L_ zx.length rD:Value).ownBlock)) SE.out (fun k_ hk=>⟨⟨⟨trivial,hk.1.1.2⟩,hk.1.2⟩,(by rw [C_.out];exact hk.2)⟩));clear SE;have SE:=n_;clear n_
          try go_wp2
          go_loopg [5,7] k1 (fun kq v5 v7 w'=>∃ (Uf:List Int) (ND:List Int) (Ad:Int),v7 = .int .i64 Ad∧aa (Sb.l1 kq ze Uf ND t115 Ad Ma La Na Ka Ea=some r)∧aa (kq ≤ k1)∧aa (Kd.R (Kd.int .i64) 3 w' w.heap.size (fun k_=>some k_ ≠ ((.slice (some ⟨Ru,0,none⟩) nc.length Dz):Value).ownBlock∧some k_ ≠ (v5:Value).ownBlock∧some k_ ≠ (cF:Value).ownBlock) Ji ze)∧aa (Kd.R (Kd.int .i64) 3 w' w.heap.size (fun k_=>some k_ ≠ (Ji:Value).ownBlock∧some k_ ≠ (v5:Value).ownBlock∧some k_ ≠ (cF:Value).ownBlock) (.slice (some ⟨Ru,0,none⟩) nc.length Dz) Uf)∧aa (Kd.Q (Kd.int .i64) 3 w' w.heap.size (fun k_=>some k_ ≠ (Ji:Value).ownBlock∧some k_ ≠ ((.slice (some ⟨Ru,0,none⟩) nc.length Dz):Value).ownBlock∧some k_ ≠ (cF:Value).ownBlock) v5 ND)∧aa (Kd.R (Kd.int .i64) 3 w' w.heap.size (fun k_=>some k_ ≠ (Ji:Value).ownBlock∧some k_ ≠ ((.slice (some ⟨Ru,0,none⟩) nc.length Dz):Value).ownBlock∧some k_ ≠ (v5:Value).ownBlock) cF t115)∧aa (w'.heap[za]? = some (.cells #[(.slice xb Ma.length qb),.int .i64 La,.int .i64 Na,.int .i64 Ka,(.slice (some cl) Ea.length Kb)] 45 (0,0)))∧aa (Below w.heap.size w w'))
          case atStart=>exact ⟨(nc),(zx),(0),(by first|rfl|(simp;done)|(simp [*];done)),H',⟨Nat.le_refl _⟩,⟨by (try simp only [Dh]);(with_reducible repeat (first|apply Kd.Va|apply Kd.Wa|apply Kd.jb));exact Kd.mc Ub.out (fun _ hk=>⟨hk.1.1,⟨hk.1.2,hk.2⟩⟩)⟩,⟨by (try simp only [Dh]);(with_reducible repeat (first|apply Kd.Va|apply Kd.Wa|apply Kd.jb));exact Kd.mc uc.out (fun _ hk=>⟨hk.1.1,⟨hk.1.2,hk.2⟩⟩)⟩,⟨by (try simp only [Dh]);(with_reducible repeat (first|apply Kd.Gi|apply Kd.Fi|apply Kd.sj));exact oag.out⟩,⟨by (try simp only [Dh]);(with_reducible repeat (first|apply Kd.Va|apply Kd.Wa|apply Kd.jb));exact Kd.mc SE.out (fun _ hk=>⟨hk.1.1.2,⟨hk.1.2,hk.2⟩⟩)⟩,⟨by (try simp only [Dh]);(with_reducible repeat (first|refine Aa ?_ _|refine Fa ?_|refine Ba ?_ _));exact ta.out⟩,⟨by repeat (first|(with_reducible first|exact HB.out|apply oa|apply ia|apply qa|refine ua ?_ Ua.out)|exact HB.out)⟩⟩
          case round =>
           clear H'
           try clear c1
           try clear p1
           try clear q1
           try clear hx1
           try clear qi1
           try clear c2
           try clear p2
           try clear q2
           try clear c3
           try clear c5
           try clear Sn
           try clear nA
           try clear c6
           try clear p6
           try clear q6
           try clear pF
           try clear qi6
           try clear hf6
           try clear c8
           try clear c9
           try clear oR
           try clear p11
           try clear tQ
           try clear L6
           try clear wap
           try clear Gs
           try clear vn
           try clear Fz
           try clear gw
           try clear QA
           try clear KP
           try clear Qz
           try clear wU
           try clear fE
           try clear vK
           try clear Dw
           try clear PA
           try clear tK
           try clear rD
           try clear V5
           try clear Ei
           try clear Di
           try clear Ci
           try clear Bi
           try clear Ai
           try clear Ql
           try clear Ol
           try clear Nl
           try clear Ml
           try clear Ll
           try clear zi
           try clear si
           try clear qi
           try clear ni
           try clear ki
           try clear Kl
           try clear Jl
           try clear Il
           try clear Hl
           try clear Gl
           try clear tv
           try clear Vp
           try clear qv
           try clear ov
           try clear nv
           try clear jv
           try clear zE
           try clear jS
           try clear Du
           try clear p2
           try clear p6
           try clear gS
           try clear Bu
           try clear V5
           try clear q6
           (try clear HA);(try clear Qk);(try clear Ub);(try clear uc);(try clear wh);(try clear Ge);(try clear ta);(try clear HB);obtain ⟨Uf,ND,Ad,rfl,HA,Qk,Ub,uc,wh,Ge,ta,HB⟩:=hrel;have Lk:=(Kd.Rb uc.out).1;rw [Lk] at uc;(try simp only [Lk]);(try simp only [Lk] at ta);(try simp only [Lk] at Ub);(try simp only [Lk] at wh);(try simp only [Lk] at Ge);cases gk with
           | zero=>exact absurd HA.out (by simp [Sb.l1])
           | succ k2 =>
            have H:=HA.out;clear HA;simp only [Sb.l1] at H
            by_cases Zt:Ad < (t115.length:Int)
            ·rw [if_pos Zt] at H;have nr:decide (Ad < (t115.length:Int))=true:=decide_eq_true Zt;clear Zt
             by_cases ew:0 ≤ Ad
             ·rw [if_pos ew] at H;have Vu:decide (0 ≤ Ad)=true:=decide_eq_true ew;clear ew
              by_cases yu:0 ≤ (rd t115 Ad)
              ·rw [if_pos yu] at H;have OA:decide (0 ≤ (rd t115 Ad))=true:=decide_eq_true yu;clear yu
               by_cases kI:(rd t115 Ad) < (Uf.length:Int)
               ·rw [if_pos kI] at H;have IP:decide ((rd t115 Ad) < (Uf.length:Int))=true:=decide_eq_true kI;clear kI
                by_cases LI:(rd Uf (rd t115 Ad))=0
                ·rw [if_pos LI] at H;have T2:((rd Uf (rd t115 Ad)) == 0)=true:=beq_iff_eq.mpr LI;have O2:((rd Uf (rd t115 Ad)) != 0)=false:=bne_eq_false_iff_eq.mpr LI;clear LI;obtain ⟨OI,Ju⟩:∃ y_:List Int,y_=(Uf.set ((rd t115 Ad):Int).toNat 1):=⟨_,rfl⟩;replace H:(if ND.length < 17592186044416 then (Sb.l1 k2 ze OI (ND ++ [rd t115 Ad]) t115 (wrap64 (Ad + 1)) Ma La Na Ka Ea) else (none))=some r:=by first|(rw [Ju];with_reducible exact H)|(have Ud:=(Option.bind_some _ _).symm.trans H;rw [Ju];with_reducible exact Ud)|(have Ud:=(Option.bind_some _ _).symm.trans H;with_reducible exact Ud)|with_reducible exact H|(rw [Ju];exact H)|exact H
                 have QU:=aa.mk Ju;clear Ju
                 by_cases ux:ND.length < 17592186044416
                 ·rw [if_pos ux] at H;have TU:=aa.mk ux;clear ux;obtain ⟨NI,Mo⟩:∃ y_:List Int,y_=(ND ++ [rd t115 Ad]):=⟨_,rfl⟩;replace H:(Sb.l1 k2 ze OI NI t115 (wrap64 (Ad + 1)) Ma La Na Ka Ea)=some r:=by first|(rw [Mo];with_reducible exact H)|(have Ud:=(Option.bind_some _ _).symm.trans H;rw [Mo];with_reducible exact Ud)|(have Ud:=(Option.bind_some _ _).symm.trans H;with_reducible exact Ud)|with_reducible exact H|(rw [Mo];exact H)|exact H
                  have KK:=aa.mk Mo;clear Mo;have H':=aa.mk H;clear H;obtain ⟨jat,dI,k8⟩:=Kd.xd Ge.out;subst k8;have Wl:0 ≤ (Ad:Int):=Pa;have Ul:Ad < (t115.length:Int):=Pa;obtain ⟨Wm,gA,Zi⟩:=Kd.Ce (Kd.Rb Ge.out).2.2 Ad Wl Ul;cases gA;replace Wl:=eq_true Wl;replace Ul:=eq_true Ul;have Rp:0 ≤ ((rd t115 Ad):Int):=Pa;have Qp:(rd t115 Ad) < (Uf.length:Int):=Pa;obtain ⟨xj,jD,qk⟩:=Kd.Ce (Kd.Rb uc.out).2.2 (rd t115 Ad) Rp Qp;obtain rfl:(⟨Ru,0,none⟩:Addr)=xj:=(by injection jD);(first|simp only [add_plain] at qk|simp only [Es] at qk|simp only [Addr.add,Nat.zero_add] at qk|skip);replace Rp:=eq_true Rp;replace Qp:=eq_true Qp;have ql:0 ≤ (Ad:Int):=Pa;have jl:Ad < (t115.length:Int):=Pa;obtain ⟨Vo,Xw,nk⟩:=Kd.Ce (Kd.Rb Ge.out).2.2 Ad ql jl;obtain rfl:Wm=Vo:=(by injection Xw);replace ql:=eq_true ql;replace jl:=eq_true jl;have p33:0 ≤ ((rd t115 Ad):Int):=Pa;have q33:((rd t115 Ad):Int) < ((Uf.length:Int):Int):=Pa;obtain ⟨D6,car⟩:=Kd.Vh 0 uc.out ((rd t115 Ad):Int) p33 q33;replace p33:=eq_true p33;replace q33:=eq_true q33;have f_:=Kd.Vn uc.out ((rd t115 Ad):Int) 1;go_wp2_with (first|((with_reducible refine Ef (t:=3) (p:=53) rfl ?_);refine Xe (t:=3) (p:=53) (v:=?Wao) (w1:=(wr.setCell ⟨Ru,((rd t115 Ad):Int).toNat,none⟩ (.int .i64 1))) ?hg ?ho ?hn ?hr ?_;(case ho=>rfl);(case hg=>rfl);(case hn=>rfl);(case hr=>first|(go_simp;done)|(go_simp;rfl));intro E5 hw;have hg:wr.grownBy E5 (some Ru):=(by rw [hw];exact f_.2);have Mm:Kd.R (Kd.int .i64) 3 E5 w.heap.size (fun k_=>some k_ ≠ (Ji:Value).ownBlock∧some k_ ≠ (u5:Value).ownBlock∧some k_ ≠ (.slice (some Wm) t115.length dI:Value).ownBlock) (.slice (some ⟨Ru,0,none⟩) Uf.length Dz) OI:=(by rw [hw,QU.out];exact f_.1);clear f_;have Cb:=aa.mk (Kd.Yg (v:=(.slice (some ⟨Ru,0,none⟩) Uf.length Dz)) (v1:=(.slice (some ⟨Ru,0,none⟩) Uf.length Dz)) (ok:=(fun k_=>some k_ ≠ (u5:Value).ownBlock∧some k_ ≠ (.slice (some Wm) t115.length dI:Value).ownBlock)) (by (with_reducible repeat (first|apply Kd.Va|apply Kd.Wa|apply Kd.jb));exact Kd.mc Ub.out (fun _ hk=>⟨⟨hk.2.1,hk.2.2⟩,hk.1⟩)) hg (.inl rfl));have Lb:=aa.mk (Mm);have Pb:=aa.mk (Kd.rZ (v:=(.slice (some ⟨Ru,0,none⟩) Uf.length Dz)) (v1:=(.slice (some ⟨Ru,0,none⟩) Uf.length Dz)) (ok:=(fun k_=>some k_ ≠ (Ji:Value).ownBlock∧some k_ ≠ (.slice (some Wm) t115.length dI:Value).ownBlock)) (by (with_reducible repeat (first|apply Kd.Gi|apply Kd.Fi|apply Kd.sj));exact Kd.cu wh.out (fun _ hk=>⟨⟨hk.1,hk.2.2⟩,hk.2.1⟩)) hg (.inl rfl));have Ec:=aa.mk (Kd.Yg (v:=(.slice (some ⟨Ru,0,none⟩) Uf.length Dz)) (v1:=(.slice (some ⟨Ru,0,none⟩) Uf.length Dz)) (ok:=(fun k_=>some k_ ≠ (Ji:Value).ownBlock∧some k_ ≠ (u5:Value).ownBlock)) (by (with_reducible repeat (first|apply Kd.Va|apply Kd.Wa|apply Kd.jb));exact Kd.mc Ge.out (fun _ hk=>⟨⟨hk.1,hk.2.2⟩,hk.2.1⟩)) hg (.inl rfl));have fe:=aa.mk (Ff (g:=za) (o:=.cells #[.slice xb Ma.length qb,.int .i64 La,.int .i64 Na,.int .i64 Ka,.slice (some cl) Ea.length Kb] 45 (0,0)) (by (with_reducible repeat (first|refine Aa ?_ _|refine Fa ?_|refine Ba ?_ _));exact ta.out) hg (Kd.Xo uc.out ta.out (by decide)));have Af:=aa.mk ((by rw [hw];exact ua (HB.out) GB6.out:Below w.heap.size w E5));clear Ub uc wh Ge ta HB;have Ub:=Cb;have uc:=Lb;have wh:=Pb;have Ge:=Ec;have ta:=fe;have HB:=Af;clear Cb Lb Pb Ec fe Af hg hw Mm;have gJ:0 ≤ (Ad:Int):=Pa;have dJ:Ad < (t115.length:Int):=Pa;obtain ⟨CU,y8,oN⟩:=Kd.Ce (Kd.Rb Ge.out).2.2 Ad gJ dJ;obtain rfl:Wm=CU:=(by injection y8);replace gJ:=eq_true gJ;replace dJ:=eq_true dJ)|((with_reducible refine Eg (b:=.append) (xs:=#[.tmp 54,.tmp 59]) rfl ?_);at_builtin;refine Kd.GK (Kd.int .i64) (w0:=w) w.heap.size rfl (.tmp 54) (.tmp 59) 22 3 (.int .i64 0) 8 rfl Try.underlying22 info3 rfl (by decide) (by omega) u5 ND (rd t115 Ad) [.int .i64 (rd t115 Ad)] (fun k_=>some k_ ≠ (Ji:Value).ownBlock∧some k_ ≠ (.slice (some ⟨Ru,0,none⟩) Uf.length Dz:Value).ownBlock∧some k_ ≠ (.slice (some Wm) t115.length dI:Value).ownBlock) (fun _=>False) rfl rfl ?aP (fun _ hk=>hk.elim) ?aF ?aO ?aB ?aS ?aL ?_;(case aP=>exact rfl);(case aB=>exact (by repeat (first|(with_reducible first|exact HB.out|apply oa|apply ia|apply qa|refine ua ?_ Ua.out)|exact HB.out)));(case aF=>exact (fun k_ hk=>⟨Kd.fresh' (Kd.Pk (by (with_reducible repeat (first|apply Kd.Va|apply Kd.Wa|apply Kd.jb));exact Ub.out)) k_ hk,Kd.fresh' (Kd.Pk (by (with_reducible repeat (first|apply Kd.Va|apply Kd.Wa|apply Kd.jb));exact uc.out)) k_ hk,Kd.fresh' (Kd.Pk (by (with_reducible repeat (first|apply Kd.Va|apply Kd.Wa|apply Kd.jb));exact Ge.out)) k_ hk⟩));(case aO=>exact (by (with_reducible repeat (first|apply Kd.Gi|apply Kd.Fi|apply Kd.sj));exact Kd.cu wh.out (fun _ hk=>⟨hk.1.1,⟨hk.2,hk.1.2⟩⟩)));(case aS=>exact (Ja (by repeat (first|(with_reducible first|exact HB.out|apply oa|apply ia|apply qa|refine ua ?_ Ua.out)|exact HB.out))));(case aL=>have:=TU.out;omega);intro v127 bB ho hb hg hat;rw [← KK.out] at ho;have Cb:=aa.mk (Kd.Yg (ok:=(fun k_=>some k_ ≠ (.slice (some ⟨Ru,0,none⟩) Uf.length Dz:Value).ownBlock∧some k_ ≠ (.slice (some Wm) t115.length dI:Value).ownBlock)) (by (with_reducible repeat (first|apply Kd.Va|apply Kd.Wa|apply Kd.jb));exact Kd.mc Ub.out (fun _ hk=>⟨⟨hk.2,hk.1.2⟩,hk.1.1⟩)) hg hat);have Lb:=aa.mk (Kd.Yg (ok:=(fun k_=>some k_ ≠ (Ji:Value).ownBlock∧some k_ ≠ (.slice (some Wm) t115.length dI:Value).ownBlock)) (by (with_reducible repeat (first|apply Kd.Va|apply Kd.Wa|apply Kd.jb));exact Kd.mc uc.out (fun _ hk=>⟨⟨hk.1,hk.2.2⟩,hk.2.1⟩)) hg hat);have Pb:=aa.mk (Kd.Yg (ok:=(fun k_=>some k_ ≠ (Ji:Value).ownBlock∧some k_ ≠ (.slice (some ⟨Ru,0,none⟩) Uf.length Dz:Value).ownBlock)) (by (with_reducible repeat (first|apply Kd.Va|apply Kd.Wa|apply Kd.jb));exact Kd.mc Ge.out (fun _ hk=>⟨⟨hk.1.1,hk.2⟩,hk.1.2⟩)) hg hat);have Ec:=aa.mk (Ff (g:=za) (o:=.cells #[.slice xb Ma.length qb,.int .i64 La,.int .i64 Na,.int .i64 Ka,.slice (some cl) Ea.length Kb] 45 (0,0)) (by (with_reducible repeat (first|refine Aa ?_ _|refine Fa ?_|refine Ba ?_ _));exact ta.out) hg (Kd.yaf wh.out ta.out (by decide)));have fe:=aa.mk (hb);have Af:=aa.mk (ho);clear Ub uc Ge ta HB wh;have Ub:=Cb;have uc:=Lb;have Ge:=Pb;have ta:=Ec;have HB:=fe;have Oz:=Af;clear Cb Lb Pb Ec fe Af ho hb hg hat));(try simp only [← Lk])
                  go_roundg k2
                  case measure=>have:=Cf.out;have:=Qk.out;omega
                  case rel=>exact ⟨(OI),(NI),(wrap64 (Ad + 1)),(by first|rfl|(simp;done)|(simp [*];done)),H',⟨by have:=Cf.out;have:=Qk.out;omega⟩,⟨by (try simp only [Dh]);(try simp only [Lk]);(with_reducible repeat (first|apply Kd.Va|apply Kd.Wa|apply Kd.jb));exact Kd.mc Ub.out (fun _ hk=>⟨hk.1.1,⟨hk.2,hk.1.2⟩⟩)⟩,⟨by (try simp only [Dh]);(try simp only [Lk]);(with_reducible repeat (first|apply Kd.Va|apply Kd.Wa|apply Kd.jb));exact Kd.mc uc.out (fun _ hk=>⟨hk.1.1,⟨hk.2,hk.1.2⟩⟩)⟩,⟨by (try simp only [Dh]);(try simp only [Lk]);(with_reducible repeat (first|apply Kd.Gi|apply Kd.Fi|apply Kd.sj));exact Oz.out⟩,⟨by (try simp only [Dh]);(try simp only [Lk]);(with_reducible repeat (first|apply Kd.Va|apply Kd.Wa|apply Kd.jb));exact Kd.mc Ge.out (fun _ hk=>⟨hk.1.1,⟨hk.1.2,hk.2⟩⟩)⟩,⟨by (try simp only [Dh]);(try simp only [Lk]);(with_reducible repeat (first|refine Aa ?_ _|refine Fa ?_|refine Ba ?_ _));exact ta.out⟩,⟨by repeat (first|(with_reducible first|exact HB.out|apply oa|apply ia|apply qa|refine ua ?_ Ua.out)|exact HB.out)⟩⟩
                 ·rw [if_neg ux] at H;exact absurd H (by simp)
                ·rw [if_neg LI] at H;have T2:((rd Uf (rd t115 Ad)) == 0)=false:=beq_eq_false_iff_ne.mpr LI;have O2:((rd Uf (rd t115 Ad)) != 0)=true:=bne_iff_ne.mpr LI;have H':=aa.mk H;clear H;obtain ⟨Wag,Eae,gU⟩:=Kd.xd Ge.out;subst gU;have Wl:0 ≤ (Ad:Int):=Pa;have Ul:Ad < (t115.length:Int):=Pa;obtain ⟨Wm,gA,Zi⟩:=Kd.Ce (Kd.Rb Ge.out).2.2 Ad Wl Ul;cases gA;replace Wl:=eq_true Wl;replace Ul:=eq_true Ul;have Rp:0 ≤ ((rd t115 Ad):Int):=Pa;have Qp:(rd t115 Ad) < (Uf.length:Int):=Pa;obtain ⟨xj,jD,qk⟩:=Kd.Ce (Kd.Rb uc.out).2.2 (rd t115 Ad) Rp Qp;obtain rfl:(⟨Ru,0,none⟩:Addr)=xj:=(by injection jD);(first|simp only [add_plain] at qk|simp only [Es] at qk|simp only [Addr.add,Nat.zero_add] at qk|skip);replace Rp:=eq_true Rp;replace Qp:=eq_true Qp;go_wp2;(try simp only [← Lk])
                 go_roundg k2
                 case measure=>have:=Cf.out;have:=Qk.out;omega
                 case rel=>exact ⟨(Uf),(ND),(wrap64 (Ad + 1)),(by first|rfl|(simp;done)|(simp [*];done)),H',⟨by have:=Cf.out;have:=Qk.out;omega⟩,⟨by (try simp only [Dh]);(try simp only [Lk]);(with_reducible repeat (first|apply Kd.Va|apply Kd.Wa|apply Kd.jb));exact Ub.out⟩,⟨by (try simp only [Dh]);(try simp only [Lk]);(with_reducible repeat (first|apply Kd.Va|apply Kd.Wa|apply Kd.jb));exact uc.out⟩,⟨by (try simp only [Dh]);(try simp only [Lk]);(with_reducible repeat (first|apply Kd.Gi|apply Kd.Fi|apply Kd.sj));exact wh.out⟩,⟨by (try simp only [Dh]);(try simp only [Lk]);(with_reducible repeat (first|apply Kd.Va|apply Kd.Wa|apply Kd.jb));exact Ge.out⟩,⟨by (try simp only [Dh]);(try simp only [Lk]);(with_reducible repeat (first|refine Aa ?_ _|refine Fa ?_|refine Ba ?_ _));exact ta.out⟩,⟨by repeat (first|(with_reducible first|exact HB.out|apply oa|apply ia|apply qa|refine ua ?_ Ua.out)|exact HB.out)⟩⟩
               ·rw [if_neg kI] at H;exact absurd H (by simp)
              ·rw [if_neg yu] at H;exact absurd H (by simp)
             ·rw [if_neg ew] at H;exact absurd H (by simp)
            ·rw [if_neg Zt] at H;have nr:decide (Ad < (t115.length:Int))=false:=decide_eq_false Zt;clear Zt;have H':=aa.mk H;clear H;obtain ⟨DaA,Caz,War⟩:=Kd.xd Ge.out;subst War;go_wp2;(try simp only [← Dh,← Lk])
             go_roundg k2
             case measure=>have:=Cf.out;have:=Qk.out;omega
             case rel=>exact ⟨(Uf),(ND),H',⟨by have:=Cf.out;have:=Qk.out;omega⟩,⟨by (try simp only [Dh]);(try simp only [Lk]);(with_reducible repeat (first|apply Kd.Va|apply Kd.Wa|apply Kd.jb));exact Kd.mc Ub.out (fun _ hk=>⟨hk.1,hk.2.1⟩)⟩,⟨by (try simp only [Dh]);(try simp only [Lk]);(with_reducible repeat (first|apply Kd.Va|apply Kd.Wa|apply Kd.jb));exact Kd.mc uc.out (fun _ hk=>⟨hk.1,hk.2.1⟩)⟩,⟨by (try simp only [Dh]);(try simp only [Lk]);(with_reducible repeat (first|apply Kd.Gi|apply Kd.Fi|apply Kd.sj));exact Kd.cu wh.out (fun _ hk=>⟨hk.1,hk.2.1⟩)⟩,⟨by (try simp only [Dh]);(try simp only [Lk]);(with_reducible repeat (first|refine Aa ?_ _|refine Fa ?_|refine Ba ?_ _));exact ta.out⟩,⟨by repeat (first|(with_reducible first|exact HB.out|apply oa|apply ia|apply qa|refine ua ?_ Ua.out)|exact HB.out)⟩⟩
         ·rw [if_neg Dw] at H;exact absurd H (by simp)
        ·rw [if_neg fE] at H;exact absurd H (by simp)
       ·rw [if_neg Qz] at H;exact absurd H (by simp)
      ·rw [if_neg gw] at H;exact absurd H (by simp)
     ·rw [if_neg Gs] at H;have vn:decide (0 < (Ca.length:Int))=false:=decide_eq_false Gs;have Fz:decide (0 < Ca.length)=false:=decide_eq_false (by omega);clear Gs;have H':=aa.mk H;clear H;obtain ⟨J_,cI,nM,_⟩:=Kd.Lz wh.out;subst nM;go_wp2
      go_loopg [3,8] k1 (fun kq v3 v8 w'=>∃ (Ck:List Int) (We:Int),v8 = .int .i64 We∧aa (Sb.l2 kq Ck nc We=some r)∧aa (kq ≤ k1)∧aa (Kd.R (Kd.int .i64) 3 w' w.heap.size (fun k_=>some k_ ≠ ((.slice (some ⟨Ru,0,none⟩) nc.length Dz):Value).ownBlock) v3 Ck)∧aa (Kd.R (Kd.int .i64) 3 w' w.heap.size (fun k_=>some k_ ≠ (v3:Value).ownBlock) (.slice (some ⟨Ru,0,none⟩) nc.length Dz) nc)∧aa (w'.heap[za]? = some (.cells #[(.slice xb Ma.length qb),.int .i64 La,.int .i64 Na,.int .i64 Ka,(.slice Qb Ea.length Kb)] 45 (0,0)))∧aa (Below w.heap.size w w'))
      case atStart=>exact ⟨(ze),(0),(by first|rfl|(simp;done)|(simp [*];done)),H',⟨Nat.le_refl _⟩,⟨by (try simp only [Dh]);(with_reducible repeat (first|apply Kd.Va|apply Kd.Wa|apply Kd.jb));exact Kd.mc Ub.out (fun _ hk=>hk.1)⟩,⟨by (try simp only [Dh]);(with_reducible repeat (first|apply Kd.Va|apply Kd.Wa|apply Kd.jb));exact Kd.mc uc.out (fun _ hk=>hk.1)⟩,⟨by (try simp only [Dh]);(with_reducible repeat (first|refine Aa ?_ _|refine Fa ?_|refine Ba ?_ _));exact ta.out⟩,⟨by repeat (first|(with_reducible first|exact HB.out|apply oa|apply ia|apply qa|refine ua ?_ Ua.out)|exact HB.out)⟩⟩
      case round =>
       clear H'
       try clear c1
       try clear p1
       try clear q1
       try clear hx1
       try clear qi1
       try clear c2
       try clear p2
       try clear q2
       try clear c3
       try clear p3
       try clear q3
       try clear fB
       try clear hf3
       try clear c5
       try clear Sn
       try clear nA
       try clear c6
       try clear p6
       try clear q6
       try clear pF
       try clear qi6
       try clear hf6
       try clear c8
       try clear c9
       try clear oR
       try clear p11
       try clear tQ
       try clear L6
       try clear wap
       try clear p12
       try clear q12
       try clear Pay
       try clear Gs
       try clear vn
       try clear Fz
       try clear gw
       try clear QA
       try clear KP
       try clear Qz
       try clear wU
       try clear fE
       try clear vK
       try clear Dw
       try clear PA
       try clear tK
       try clear rD
       try clear V5
       try clear Zt
       try clear nr
       try clear ew
       try clear Vu
       try clear yu
       try clear OA
       try clear kI
       try clear IP
       try clear LI
       try clear T2
       try clear O2
       try clear p33
       try clear q33
       try clear Oay
       try clear haz
       try clear ux
       try clear Ei
       try clear Di
       try clear Ci
       try clear Bi
       try clear Ai
       try clear Ql
       try clear Ol
       try clear Nl
       try clear Ml
       try clear Ll
       try clear zi
       try clear si
       try clear qi
       try clear ni
       try clear ki
       try clear Kl
       try clear Jl
       try clear Il
       try clear Hl
       try clear Gl
       try clear tv
       try clear Vp
       try clear qv
       try clear ov
       try clear nv
       try clear jv
       try clear Zi
       try clear qk
       try clear nk
       try clear oN
       try clear D6
       try clear zE
       try clear p1
       try clear p11
       try clear jS
       try clear Du
       try clear Wl
       try clear Rp
       try clear ql
       try clear gJ
       try clear p2
       try clear p33
       try clear p6
       try clear q1
       try clear tQ
       try clear gS
       try clear Bu
       try clear Ul
       try clear Qp
       try clear jl
       try clear dJ
       try clear q2
       try clear V5
       try clear q33
       try clear q6
       (try clear HA);(try clear Qk);(try clear Ub);(try clear uc);(try clear ta);(try clear HB);obtain ⟨Ck,We,rfl,HA,Qk,Ub,uc,ta,HB⟩:=hrel;cases gk with
       | zero=>exact absurd HA.out (by simp [Sb.l2])
       | succ k2 =>
        have H:=HA.out;clear HA;simp only [Sb.l2] at H
        by_cases gL:We < (nc.length:Int)
        ·rw [if_pos gL] at H;have C2:decide (We < (nc.length:Int))=true:=decide_eq_true gL;clear gL
         by_cases GP:0 ≤ We
         ·rw [if_pos GP] at H;have Yae:decide (0 ≤ We)=true:=decide_eq_true GP;clear GP
          by_cases oD:(rd nc We)=1
          ·rw [if_pos oD] at H;have rK:((rd nc We) == 1)=true:=beq_iff_eq.mpr oD;have qK:((rd nc We) != 1)=false:=bne_eq_false_iff_eq.mpr oD;clear oD
           by_cases jI:Ck.length < 17592186044416
           ·rw [if_pos jI] at H;have Jaf:=aa.mk jI;clear jI;obtain ⟨haa,qJ⟩:∃ y_:List Int,y_=(Ck ++ [We]):=⟨_,rfl⟩;replace H:(Sb.l2 k2 haa nc (wrap64 (We + 1)))=some r:=by first|(rw [qJ];with_reducible exact H)|(have Ud:=(Option.bind_some _ _).symm.trans H;rw [qJ];with_reducible exact Ud)|(have Ud:=(Option.bind_some _ _).symm.trans H;with_reducible exact Ud)|with_reducible exact H|(rw [qJ];exact H)|exact H
            have Caf:=aa.mk qJ;clear qJ;have H':=aa.mk H;clear H;have Nr:0 ≤ (We:Int):=Pa;have Lr:We < (nc.length:Int):=Pa;obtain ⟨Iz,YH,Fl⟩:=Kd.Ce (Kd.Rb uc.out).2.2 We Nr Lr;obtain rfl:(⟨Ru,0,none⟩:Addr)=Iz:=(by injection YH);(first|simp only [add_plain] at Fl|simp only [Es] at Fl|simp only [Addr.add,Nat.zero_add] at Fl|skip);replace Nr:=eq_true Nr;replace Lr:=eq_true Lr;go_wp2_with (first|((with_reducible refine Eg (b:=.append) (xs:=#[.tmp 72,.tmp 74]) rfl ?_);at_builtin;refine Kd.Ss (Kd.int .i64) (w0:=w) w.heap.size rfl (.tmp 72) (.tmp 74) 22 3 (.int .i64 0) 8 rfl Try.underlying22 info3 rfl (by decide) (by omega) u3 Ck We [.int .i64 We] (fun k_=>some k_ ≠ (.slice (some ⟨Ru,0,none⟩) nc.length Dz:Value).ownBlock) (fun _=>False) rfl rfl ?aP (fun _ hk=>hk.elim) ?aF ?aO ?aB ?aS ?aL ?_;(case aP=>exact rfl);(case aB=>exact (by repeat (first|(with_reducible first|exact HB.out|apply oa|apply ia|apply qa|refine ua ?_ Ua.out)|exact HB.out)));(case aF=>exact (fun k_ hk=>Kd.fresh' (Kd.Pk (by (with_reducible repeat (first|apply Kd.Va|apply Kd.Wa|apply Kd.jb));exact uc.out)) k_ hk));(case aO=>exact (by (with_reducible repeat (first|apply Kd.Va|apply Kd.Wa|apply Kd.jb));exact Ub.out));(case aS=>exact (Ja (by repeat (first|(with_reducible first|exact HB.out|apply oa|apply ia|apply qa|refine ua ?_ Ua.out)|exact HB.out))));(case aL=>have:=Jaf.out;omega);intro v131 CA ho hb hg hat;rw [← Caf.out] at ho;have Cb:=aa.mk (Kd.Yg (ok:=(fun _=>True)) (by (with_reducible repeat (first|apply Kd.Va|apply Kd.Wa|apply Kd.jb));exact Kd.mc uc.out (fun _ hk=>⟨trivial,hk⟩)) hg hat);have Lb:=aa.mk (Ff (g:=za) (o:=.cells #[.slice xb Ma.length qb,.int .i64 La,.int .i64 Na,.int .i64 Ka,.slice Qb Ea.length Kb] 45 (0,0)) (by (with_reducible repeat (first|refine Aa ?_ _|refine Fa ?_|refine Ba ?_ _));exact ta.out) hg (Kd.Xo Ub.out ta.out (by decide)));have Pb:=aa.mk (hb);have Ec:=aa.mk (ho);clear uc ta HB Ub;have uc:=Cb;have ta:=Lb;have HB:=Pb;have QK:=Ec;clear Cb Lb Pb Ec ho hb hg hat))
            go_roundg k2
            case measure=>have:=Cf.out;have:=Qk.out;omega
            case rel=>exact ⟨(haa),(wrap64 (We + 1)),(by first|rfl|(simp;done)|(simp [*];done)),H',⟨by have:=Cf.out;have:=Qk.out;omega⟩,⟨by (try simp only [Dh]);(with_reducible repeat (first|apply Kd.Va|apply Kd.Wa|apply Kd.jb));exact QK.out⟩,⟨by (try simp only [Dh]);(with_reducible repeat (first|apply Kd.Va|apply Kd.Wa|apply Kd.jb));exact Kd.mc uc.out (fun _ hk=>hk.2)⟩,⟨by (try simp only [Dh]);(with_reducible repeat (first|refine Aa ?_ _|refine Fa ?_|refine Ba ?_ _));exact ta.out⟩,⟨by repeat (first|(with_reducible first|exact HB.out|apply oa|apply ia|apply qa|refine ua ?_ Ua.out)|exact HB.out)⟩⟩
           ·rw [if_neg jI] at H;exact absurd H (by simp)
          ·rw [if_neg oD] at H;have rK:((rd nc We) == 1)=false:=beq_eq_false_iff_ne.mpr oD;have qK:((rd nc We) != 1)=true:=bne_iff_ne.mpr oD;have H':=aa.mk H;clear H;have Nr:0 ≤ (We:Int):=Pa;have Lr:We < (nc.length:Int):=Pa;obtain ⟨Iz,YH,Fl⟩:=Kd.Ce (Kd.Rb uc.out).2.2 We Nr Lr;obtain rfl:(⟨Ru,0,none⟩:Addr)=Iz:=(by injection YH);(first|simp only [add_plain] at Fl|simp only [Es] at Fl|simp only [Addr.add,Nat.zero_add] at Fl|skip);replace Nr:=eq_true Nr;replace Lr:=eq_true Lr;go_wp2
           go_roundg k2
           case measure=>have:=Cf.out;have:=Qk.out;omega
           case rel=>exact ⟨(Ck),(wrap64 (We + 1)),(by first|rfl|(simp;done)|(simp [*];done)),H',⟨by have:=Cf.out;have:=Qk.out;omega⟩,⟨by (try simp only [Dh]);(with_reducible repeat (first|apply Kd.Va|apply Kd.Wa|apply Kd.jb));exact Ub.out⟩,⟨by (try simp only [Dh]);(with_reducible repeat (first|apply Kd.Va|apply Kd.Wa|apply Kd.jb));exact uc.out⟩,⟨by (try simp only [Dh]);(with_reducible repeat (first|refine Aa ?_ _|refine Fa ?_|refine Ba ?_ _));exact ta.out⟩,⟨by repeat (first|(with_reducible first|exact HB.out|apply oa|apply ia|apply qa|refine ua ?_ Ua.out)|exact HB.out)⟩⟩
         ·rw [if_neg GP] at H;exact absurd H (by simp)
        ·rw [if_neg gL] at H;have C2:decide (We < (nc.length:Int))=false:=decide_eq_false gL;clear gL;obtain rfl:=Option.some.inj H;go_wp2;go_ret;exact ⟨_,by first|rfl|(simp [Ra,Qa] <;> rfl)|(simp [*,Ra,Qa] <;> rfl),by (with_reducible repeat (first|apply Kd.Va|apply Kd.Wa|apply Kd.jb));exact Kd.mc Ub.out (fun _ hk=>trivial),by repeat (first|(with_reducible first|exact HB.out|apply oa|apply ia|apply qa|refine ua ?_ Ua.out)|exact HB.out)⟩
  ·rw [if_neg c5] at H;exact absurd H (by simp)
 ·replace c3:=Bool.eq_false_iff.mpr c3;subst c3;have H1:(some ze)=some r:=by rw [if_neg (show ¬ (false=true) by decide)] at H;exact H
  clear H;have H:=H1;clear H1;obtain rfl:=Option.some.inj H;go_enter Try.func68,Try.ntmps68;go_wp2_with (first|((with_reducible refine Bb (N:=1) rfl ?_);refine Ob ?hg (N:=1) ?hd (cs:=#[.slice xb Ma.length qb,.int .i64 La,.int .i64 Na,.int .i64 Ka,.slice Qb Ea.length Kb]) (t:=45) ?hr ?_;(case hd=>rfl);(case hg=>rfl);(case hr=>first|(go_simp;done)|(go_simp;rfl));intro za hg w47 oc hb;have Cb:=aa.mk (Oa (by repeat (first|(with_reducible first|exact HB.out|apply oa|apply ia|apply qa)|exact HB.out)) hb);have Lb:=aa.mk (oc);have Pb:=aa.mk ((by rw [hg];exact (Ja (by repeat (first|(with_reducible first|exact HB.out|apply oa|apply ia|apply qa)|exact HB.out))):w.heap.size ≤ za));have Ec:=aa.mk ((by rw [hg];exact (Ja (by repeat (first|(with_reducible first|exact HB.out|apply oa|apply ia|apply qa)|exact HB.out))):w.heap.size ≤ za));clear HB;have HB:=Cb;have ta:=Lb;have He:=Pb;have Ua:=Ec;clear Cb Lb Pb Ec hb oc hg)|((with_reducible refine Bb (N:=9) rfl ?_);refine Kd.Bl (Kd.int .i64) _ 3 ?hg (N:=9) ?hd (xs:=([]:List Int)) (inner:=[]) (ok:=fun _=>True) (Oh:=fun _=>True) ?hr ?hp (fun _ hk=>hk) trivial (Below.refl _ _) (Nat.le_refl _) (by simp) ?_;(case hd=>rfl);(case hg=>rfl);(case hr=>first|(go_simp;done)|(go_simp;rfl));(case hp=>exact (Td.none _ _));intro Ji w48 bT hb gl Ee;clear gl Ee;(first|rw [← Fh.out] at bT|(simp only [Int.reduceToNat] at bT;rw [← Fh.out] at bT));have Cb:=aa.mk (Kd.xe bT (Ja (by repeat (first|(with_reducible first|exact HB.out|apply oa|apply ia|apply qa|refine ua ?_ Ua.out)|exact HB.out))));have Lb:=aa.mk (Xa (g:=za) (o:=.cells #[.slice xb Ma.length qb,.int .i64 La,.int .i64 Na,.int .i64 Ka,.slice Qb Ea.length Kb] 45 (0,0)) (by (with_reducible repeat (first|refine Aa ?_ _|refine Fa ?_|refine Ba ?_ _));exact ta.out) hb);have Pb:=aa.mk (Oa (by repeat (first|(with_reducible first|exact HB.out|apply oa|apply ia|apply qa|refine ua ?_ Ua.out)|exact HB.out)) hb);clear ta HB;have ee:=Cb;have ta:=Lb;have HB:=Pb;clear Cb Lb Pb hb bT;have OX:w48.cell? ⟨za,0,none⟩=some (.slice xb Ma.length qb):=(ja ta.out 0).trans rfl;have NX:w48.cell? ⟨za,1,none⟩=some (.int .i64 La):=(ja ta.out 1).trans rfl;have MX:w48.cell? ⟨za,2,none⟩=some (.int .i64 Na):=(ja ta.out 2).trans rfl;have LX:w48.cell? ⟨za,3,none⟩=some (.int .i64 Ka):=(ja ta.out 3).trans rfl;have KX:w48.cell? ⟨za,4,none⟩=some (.slice Qb Ea.length Kb):=(ja ta.out 4).trans rfl;have CW:=ga ta.out 0;have AW:=ga ta.out 1;have zW:=ga ta.out 2;have xW:=ga ta.out 3;have wW:=ga ta.out 4)|((with_reducible refine Ab (f:=66) rfl ?_);refine Uc (some 11) rfl rfl Try.func66 (by kernel_rfl) rfl #[.agg #[.slice xb Ma.length qb,.int .i64 La,.int .i64 Na,.int .i64 Ka,.slice Qb Ea.length Kb]] rfl (by (try simp only [List.map_toArray,List.map_cons,List.map_nil]);first|done|rfl|(simp only [List.length_drop,List.length_take];rfl)) ?_;(with_reducible refine (Ya.calls k _ _ Ma La Na Ka _ _ Ea false _ ?jc ?ic ?Ed ?Dd A2.out).mono ?_);(case jc=>repeat (first|exact (Kd.Ib Ue.out HB.out)|(with_reducible refine Kd.Jb ?_ _)|(with_reducible refine Kd.Gb ?_ _)|(with_reducible refine Kd.dc ?_)));(case ic=>exact af.out);(case Ed=>repeat (first|exact (Kd.Ib Xf.out HB.out)|(with_reducible refine Kd.Jb ?_ _)|(with_reducible refine Kd.Gb ?_ _)|(with_reducible refine Kd.dc ?_)));(case Dd=>exact Zg.out);rintro e JI ⟨rfl,hb⟩;refine ⟨_,rfl,?_⟩;have Cb:=aa.mk (Kd.lg (by (with_reducible repeat (first|apply Kd.Va|apply Kd.Wa|apply Kd.jb));exact ee.out) hb);have Lb:=aa.mk (Xa (g:=za) (o:=.cells #[.slice xb Ma.length qb,.int .i64 La,.int .i64 Na,.int .i64 Ka,.slice Qb Ea.length Kb] 45 (0,0)) (by (with_reducible repeat (first|refine Aa ?_ _|refine Fa ?_|refine Ba ?_ _));exact ta.out) hb);have Pb:=aa.mk (Oa (by repeat (first|(with_reducible first|exact HB.out|apply oa|apply ia|apply qa|refine ua ?_ Ua.out)|exact HB.out)) hb);clear ee ta HB;have ee:=Cb;have ta:=Lb;have HB:=Pb;clear Cb Lb Pb;(try clear hb);(try clear Gj);(try clear hk);(try clear hi)));go_ret;exact ⟨_,by first|rfl|(simp [Ra,Qa] <;> rfl)|(simp [*,Ra,Qa] <;> rfl),by (with_reducible repeat (first|apply Kd.Va|apply Kd.Wa|apply Kd.jb));exact ee.out,by repeat (first|(with_reducible first|exact HB.out|apply oa|apply ia|apply qa|refine ua ?_ Ua.out)|exact HB.out)⟩
end Go.Proofs.Ytoomcmaifgkkfaa.P
end
