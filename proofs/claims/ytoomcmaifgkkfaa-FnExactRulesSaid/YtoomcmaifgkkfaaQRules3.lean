import Derived.Test.YtoomcmaifgkkfaaQRules1
import Derived.Test.YtoomcmaifgkkfaaQRules2
set_option maxHeartbeats 8000000
set_option maxRecDepth 100000
section
namespace Go.Proofs.Ytoomcmaifgkkfaa.P
open Go.RowKit Go.Proofs.Ia.Qb Go.Proofs.Ia.Od Go.Proofs.Ia.Re
set_option linter.unusedVariables false
set_option linter.unusedSimpArgs false
attribute [local go_sem] Wh Uh Fj Ej oh nh Vh Th
def Hg.f (Oa:List (Vc)) (La:Int) (Pa:Int) (Ja:Int) (nc:Int):Option (List Int):=if La=0 then (some (([Ja]:List Int))) else (if La=1 then (some (([Ja,nc]:List Int))) else (some (([]:List Int))))
theorem Hg.calls (xb:Option Addr) (qb:Nat) (Oa:List (Vc)) (La:Int) (Pa:Int) (Ja:Int) (nc:Int) (r:List Int) (w:World) (xe:Kd.C Pf w xb Oa.length Oa) (we:Oa.length ≤ qb) (h:Hg.f Oa La Pa Ja nc=some r) :
  Calls Try.prog 85 #[.agg #[.slice xb Oa.length qb,.int .i64 La,.int .i64 Pa,.int .i64 Ja,.int .i64 nc]] w fun e w'=>∃ vn:Value,e = .returned (vn)∧Kd.R (Kd.int .i64) 3 w' w.heap.size (fun _=>True) vn r∧Below w.heap.size w w':=by
 have kA:=Try.underlying83;have Ue:=ga.mk xe;have af:=ga.mk we;clear xe we;have HB:=ga.mk (Below.refl w.heap.size w);have H:(if La=0 then (some (([Ja]:List Int))) else (if La=1 then (some (([Ja,nc]:List Int))) else (some (([]:List Int)))))=some r:=h;clear h
 by_cases c2:La=0
 ·rw [if_pos c2] at H;have Bq:(La == 0)=true:=beq_iff_eq.mpr c2;have Lt:(La != 0)=false:=bne_eq_false_iff_eq.mpr c2;clear c2;obtain ⟨Yd,Rf⟩:∃ y_:List Int,y_=(([Ja]:List Int)):=⟨_,rfl⟩;replace H:(some Yd)=some r:=by first|(rw [Rf];with_reducible exact H)|(have Md:=(Option.bind_some _ _).symm.trans H;rw [Rf];with_reducible exact Md)|(have Md:=(Option.bind_some _ _).symm.trans H;with_reducible exact Md)|with_reducible exact H|(rw [Rf];exact H)|exact H
  have ki:=ga.mk Rf;clear Rf;obtain rfl:=Option.some.inj H;go_enter Try.func85,Try.ntmps85;go_wp2_with (first|((with_reducible refine Db (N:=1) rfl ?_);refine Jb ?hg (N:=1) ?hd (cs:=#[.slice xb Oa.length qb,.int .i64 La,.int .i64 Pa,.int .i64 Ja,.int .i64 nc]) (t:=83) ?hr ?_;(case hd=>rfl);(case hg=>rfl);(case hr=>first|(go_simp;done)|(go_simp;rfl));intro za hg w3 Wb hb;have Fb:=ga.mk (Qa (by repeat (first|(with_reducible first|exact HB.out|apply oa|apply ia|apply qa)|exact HB.out)) hb);have Lb:=ga.mk (Wb);have Vb:=ga.mk ((by rw [hg];exact (Ka (by repeat (first|(with_reducible first|exact HB.out|apply oa|apply ia|apply qa)|exact HB.out))):w.heap.size ≤ za));have Bc:=ga.mk ((by rw [hg];exact (Ka (by repeat (first|(with_reducible first|exact HB.out|apply oa|apply ia|apply qa)|exact HB.out))):w.heap.size ≤ za));clear HB;have HB:=Fb;have ta:=Lb;have ye:=Vb;have Sa:=Bc;clear Fb Lb Vb Bc hb Wb hg;have EZ:w3.cell? ⟨za,0,none⟩=some (.slice xb Oa.length qb):=(ja ta.out 0).trans rfl;have DZ:w3.cell? ⟨za,1,none⟩=some (.int .i64 La):=(ja ta.out 1).trans rfl;have CZ:w3.cell? ⟨za,2,none⟩=some (.int .i64 Pa):=(ja ta.out 2).trans rfl;have BZ:w3.cell? ⟨za,3,none⟩=some (.int .i64 Ja):=(ja ta.out 3).trans rfl;have AZ:w3.cell? ⟨za,4,none⟩=some (.int .i64 nc):=(ja ta.out 4).trans rfl;have nZ:=aa ta.out 0;have mZ:=aa ta.out 1;have lZ:=aa ta.out 2;have kZ:=aa ta.out 3;have jZ:=aa ta.out 4)|((with_reducible refine Db (N:=9) rfl ?_);refine Kd.vl (Kd.int .i64) _ 3 ?hg (N:=9) ?hd (xs:=([Ja]:List Int)) (inner:=[.int .i64 Ja]) (ok:=fun _=>True) (Gh:=fun _=>True) ?hr ?hp (fun _ hk=>hk) trivial (Below.refl _ _) (Nat.le_refl _) (by simp) ?_;(case hd=>rfl);(case hg=>rfl);(case hr=>first|(go_simp;done)|(go_simp;rfl));(case hp=>exact (Ld.one (show Kd.M (Kd.int .i64) _ _ _ Ja [.int .i64 Ja] from rfl) (Ld.none _ _)));intro Sh w5 iG hb um Df;clear um Df;(first|rw [← ki.out] at iG|(simp only [Int.reduceToNat] at iG;rw [← ki.out] at iG));have Fb:=ga.mk (Kd.Qe iG (Ka (by repeat (first|(with_reducible first|exact HB.out|apply oa|apply ia|apply qa|refine ua ?_ Sa.out)|exact HB.out))));have Lb:=ga.mk (Va (g:=za) (o:=.cells #[.slice xb Oa.length qb,.int .i64 La,.int .i64 Pa,.int .i64 Ja,.int .i64 nc] 83 (0,0)) (by (with_reducible repeat (first|refine Ca ?_ _|refine Ea ?_|refine Da ?_ _));exact ta.out) hb);have Vb:=ga.mk (Qa (by repeat (first|(with_reducible first|exact HB.out|apply oa|apply ia|apply qa|refine ua ?_ Sa.out)|exact HB.out)) hb);clear ta HB;have Ze:=Fb;have ta:=Lb;have HB:=Vb;clear Fb Lb Vb hb iG));go_ret;exact ⟨_,by first|rfl|(simp [Na,Ma] <;> rfl)|(simp [*,Na,Ma] <;> rfl),by (with_reducible repeat (first|apply Kd.Xa|apply Kd.Wa|apply Kd.yb));exact Ze.out,by repeat (first|(with_reducible first|exact HB.out|apply oa|apply ia|apply qa|refine ua ?_ Sa.out)|exact HB.out)⟩
 ·rw [if_neg c2] at H;have Bq:(La == 0)=false:=beq_eq_false_iff_ne.mpr c2;have Lt:(La != 0)=true:=bne_iff_ne.mpr c2
  by_cases c7:La=1
  ·rw [if_pos c7] at H;have Aq:(La == 1)=true:=beq_iff_eq.mpr c7;have BA:(La != 1)=false:=bne_eq_false_iff_eq.mpr c7;clear c7;obtain ⟨Ce,Ng⟩:∃ y_:List Int,y_=(([Ja,nc]:List Int)):=⟨_,rfl⟩;replace H:(some Ce)=some r:=by first|(rw [Ng];with_reducible exact H)|(have Md:=(Option.bind_some _ _).symm.trans H;rw [Ng];with_reducible exact Md)|(have Md:=(Option.bind_some _ _).symm.trans H;with_reducible exact Md)|with_reducible exact H|(rw [Ng];exact H)|exact H
   have bp:=ga.mk Ng;clear Ng;obtain rfl:=Option.some.inj H;go_enter Try.func85,Try.ntmps85;go_wp2_with (first|((with_reducible refine Db (N:=1) rfl ?_);refine Jb ?hg (N:=1) ?hd (cs:=#[.slice xb Oa.length qb,.int .i64 La,.int .i64 Pa,.int .i64 Ja,.int .i64 nc]) (t:=83) ?hr ?_;(case hd=>rfl);(case hg=>rfl);(case hr=>first|(go_simp;done)|(go_simp;rfl));intro za hg w8 Wb hb;have Fb:=ga.mk (Qa (by repeat (first|(with_reducible first|exact HB.out|apply oa|apply ia|apply qa)|exact HB.out)) hb);have Lb:=ga.mk (Wb);have Vb:=ga.mk ((by rw [hg];exact (Ka (by repeat (first|(with_reducible first|exact HB.out|apply oa|apply ia|apply qa)|exact HB.out))):w.heap.size ≤ za));have Bc:=ga.mk ((by rw [hg];exact (Ka (by repeat (first|(with_reducible first|exact HB.out|apply oa|apply ia|apply qa)|exact HB.out))):w.heap.size ≤ za));clear HB;have HB:=Fb;have ta:=Lb;have ye:=Vb;have Sa:=Bc;clear Fb Lb Vb Bc hb Wb hg;have Em:w8.cell? ⟨za,0,none⟩=some (.slice xb Oa.length qb):=(ja ta.out 0).trans rfl;have Dm:w8.cell? ⟨za,1,none⟩=some (.int .i64 La):=(ja ta.out 1).trans rfl;have Cm:w8.cell? ⟨za,2,none⟩=some (.int .i64 Pa):=(ja ta.out 2).trans rfl;have Bm:w8.cell? ⟨za,3,none⟩=some (.int .i64 Ja):=(ja ta.out 3).trans rfl;have Am:w8.cell? ⟨za,4,none⟩=some (.int .i64 nc):=(ja ta.out 4).trans rfl;have zm:=aa ta.out 0;have ym:=aa ta.out 1;have xm:=aa ta.out 2;have wm:=aa ta.out 3;have vm:=aa ta.out 4)|((with_reducible refine Db (N:=16) rfl ?_);refine Kd.vl (Kd.int .i64) _ 3 ?hg (N:=16) ?hd (xs:=([Ja,nc]:List Int)) (inner:=[.int .i64 Ja,.int .i64 nc]) (ok:=fun _=>True) (Gh:=fun _=>True) ?hr ?hp (fun _ hk=>hk) trivial (Below.refl _ _) (Nat.le_refl _) (by simp) ?_;(case hd=>rfl);(case hg=>rfl);(case hr=>first|(go_simp;done)|(go_simp;rfl));(case hp=>exact (Ld.one (show Kd.M (Kd.int .i64) _ _ _ Ja [.int .i64 Ja] from rfl) (Ld.one (show Kd.M (Kd.int .i64) _ _ _ nc [.int .i64 nc] from rfl) (Ld.none _ _))));intro dB Qn Uq hb um Df;clear um Df;(first|rw [← bp.out] at Uq|(simp only [Int.reduceToNat] at Uq;rw [← bp.out] at Uq));have Fb:=ga.mk (Kd.Qe Uq (Ka (by repeat (first|(with_reducible first|exact HB.out|apply oa|apply ia|apply qa|refine ua ?_ Sa.out)|exact HB.out))));have Lb:=ga.mk (Va (g:=za) (o:=.cells #[.slice xb Oa.length qb,.int .i64 La,.int .i64 Pa,.int .i64 Ja,.int .i64 nc] 83 (0,0)) (by (with_reducible repeat (first|refine Ca ?_ _|refine Ea ?_|refine Da ?_ _));exact ta.out) hb);have Vb:=ga.mk (Qa (by repeat (first|(with_reducible first|exact HB.out|apply oa|apply ia|apply qa|refine ua ?_ Sa.out)|exact HB.out)) hb);clear ta HB;have Pn:=Fb;have ta:=Lb;have HB:=Vb;clear Fb Lb Vb hb Uq));go_ret;exact ⟨_,by first|rfl|(simp [Na,Ma] <;> rfl)|(simp [*,Na,Ma] <;> rfl),by (with_reducible repeat (first|apply Kd.Xa|apply Kd.Wa|apply Kd.yb));exact Pn.out,by repeat (first|(with_reducible first|exact HB.out|apply oa|apply ia|apply qa|refine ua ?_ Sa.out)|exact HB.out)⟩
  ·rw [if_neg c7] at H;have Aq:(La == 1)=false:=beq_eq_false_iff_ne.mpr c7;have BA:(La != 1)=true:=bne_iff_ne.mpr c7;obtain ⟨Mz,yj⟩:∃ y_:List Int,y_=(([]:List Int)):=⟨_,rfl⟩;replace H:(some Mz)=some r:=by first|(rw [yj];with_reducible exact H)|(have Md:=(Option.bind_some _ _).symm.trans H;rw [yj];with_reducible exact Md)|(have Md:=(Option.bind_some _ _).symm.trans H;with_reducible exact Md)|with_reducible exact H|(rw [yj];exact H)|exact H
   have Zt:=ga.mk yj;clear yj;obtain rfl:=Option.some.inj H;go_enter Try.func85,Try.ntmps85;go_wp2_with (first|((with_reducible refine Db (N:=1) rfl ?_);refine Jb ?hg (N:=1) ?hd (cs:=#[.slice xb Oa.length qb,.int .i64 La,.int .i64 Pa,.int .i64 Ja,.int .i64 nc]) (t:=83) ?hr ?_;(case hd=>rfl);(case hg=>rfl);(case hr=>first|(go_simp;done)|(go_simp;rfl));intro za hg dx Wb hb;have Fb:=ga.mk (Qa (by repeat (first|(with_reducible first|exact HB.out|apply oa|apply ia|apply qa)|exact HB.out)) hb);have Lb:=ga.mk (Wb);have Vb:=ga.mk ((by rw [hg];exact (Ka (by repeat (first|(with_reducible first|exact HB.out|apply oa|apply ia|apply qa)|exact HB.out))):w.heap.size ≤ za));have Bc:=ga.mk ((by rw [hg];exact (Ka (by repeat (first|(with_reducible first|exact HB.out|apply oa|apply ia|apply qa)|exact HB.out))):w.heap.size ≤ za));clear HB;have HB:=Fb;have ta:=Lb;have ye:=Vb;have Sa:=Bc;clear Fb Lb Vb Bc hb Wb hg;have xq:dx.cell? ⟨za,0,none⟩=some (.slice xb Oa.length qb):=(ja ta.out 0).trans rfl;have wq:dx.cell? ⟨za,1,none⟩=some (.int .i64 La):=(ja ta.out 1).trans rfl;have vq:dx.cell? ⟨za,2,none⟩=some (.int .i64 Pa):=(ja ta.out 2).trans rfl;have uq:dx.cell? ⟨za,3,none⟩=some (.int .i64 Ja):=(ja ta.out 3).trans rfl;have sq:dx.cell? ⟨za,4,none⟩=some (.int .i64 nc):=(ja ta.out 4).trans rfl;have lq:=aa ta.out 0;have jq:=aa ta.out 1;have iq:=aa ta.out 2;have gq:=aa ta.out 3;have fq:=aa ta.out 4)|((with_reducible refine Db (N:=17) rfl ?_);refine Kd.vl (Kd.int .i64) _ 3 ?hg (N:=17) ?hd (xs:=([]:List Int)) (inner:=[]) (ok:=fun _=>True) (Gh:=fun _=>True) ?hr ?hp (fun _ hk=>hk) trivial (Below.refl _ _) (Nat.le_refl _) (by simp) ?_;(case hd=>rfl);(case hg=>rfl);(case hr=>first|(go_simp;done)|(go_simp;rfl));(case hp=>exact (Ld.none _ _));intro v109 AF qy hb um Df;clear um Df;(first|rw [← Zt.out] at qy|(simp only [Int.reduceToNat] at qy;rw [← Zt.out] at qy));have Fb:=ga.mk (Kd.Qe qy (Ka (by repeat (first|(with_reducible first|exact HB.out|apply oa|apply ia|apply qa|refine ua ?_ Sa.out)|exact HB.out))));have Lb:=ga.mk (Va (g:=za) (o:=.cells #[.slice xb Oa.length qb,.int .i64 La,.int .i64 Pa,.int .i64 Ja,.int .i64 nc] 83 (0,0)) (by (with_reducible repeat (first|refine Ca ?_ _|refine Ea ?_|refine Da ?_ _));exact ta.out) hb);have Vb:=ga.mk (Qa (by repeat (first|(with_reducible first|exact HB.out|apply oa|apply ia|apply qa|refine ua ?_ Sa.out)|exact HB.out)) hb);clear ta HB;have Pq:=Fb;have ta:=Lb;have HB:=Vb;clear Fb Lb Vb hb qy));go_ret;exact ⟨_,by first|rfl|(simp [Na,Ma] <;> rfl)|(simp [*,Na,Ma] <;> rfl),by (with_reducible repeat (first|apply Kd.Xa|apply Kd.Wa|apply Kd.yb));exact Pq.out,by repeat (first|(with_reducible first|exact HB.out|apply oa|apply ia|apply qa|refine ua ?_ Sa.out)|exact HB.out)⟩
mutual
def Eb.l0:Nat→Int→List Bool→List Int→List Int→Int→Int→Int→List (zf)→Option (List Bool)
 | 0,_,_,_,_,_,_,_,_=>none
 | k + 1,x2,x3,x8,Tc,Uc,Sc,Rc,Zb=>if (x8.length:Int) > 0 then (if 0 < (x8.length:Int) then (if 0 ≤ (rd x8 0) then (if (rd x8 0) < (Zb.length:Int) then ((Hg.f ((Ta Zb (rd x8 0)).f0) ((Ta Zb (rd x8 0)).f1) ((Ta Zb (rd x8 0)).f2) ((Ta Zb (rd x8 0)).f3) ((Ta Zb (rd x8 0)).f4)).bind fun t108=>(if 1 ≤ (x8.length:Int) then (Eb.l1 k x2 x3 (x8.drop (1:Int).toNat) t108 0 Tc Uc Sc Rc Zb) else (none))) else (none)) else (none)) else (none)) else (some x3)
def Eb.l1:Nat→Int→List Bool→List Int→List Int→Int→List Int→Int→Int→Int→List (zf)→Option (List Bool)
 | 0,_,_,_,_,_,_,_,_,_,_=>none
 | k + 1,x2,x3,x8,x9,iC,Tc,Uc,Sc,Rc,Zb=>if iC < (x9.length:Int) then (if 0 ≤ iC then (if (rd x9 iC)=x2 then (Eb.l1 k x2 x3 x8 x9 (wrap64 (iC + 1)) Tc Uc Sc Rc Zb) else (if 0 ≤ (rd x9 iC) then (if (rd x9 iC) < (x3.length:Int) then (if (sg false x3 (rd x9 iC)=true) then (Eb.l1 k x2 x3 x8 x9 (wrap64 (iC + 1)) Tc Uc Sc Rc Zb) else (if x8.length < 17592186044416 then (Eb.l1 k x2 (x3.set ((rd x9 iC):Int).toNat true) (x8 ++ [rd x9 iC]) x9 (wrap64 (iC + 1)) Tc Uc Sc Rc Zb) else (none))) else (none)) else (none))) else (none)) else (Eb.l0 k x2 x3 x8 Tc Uc Sc Rc Zb)
end
def Eb.f (k:Nat) (Oa:List Int) (La:Int) (Pa:Int) (Ja:Int) (Fa:List (zf)) (a1:Int) (a2:Int) (l3:List Bool):Option (List Bool):=if 0 ≤ a1 then (if a1 < (l3.length:Int) then (Eb.l0 k a2 (l3.set (a1:Int).toNat true) (([a1]:List Int)) Oa La Pa Ja Fa) else (none)) else (none)
def Eb.T4:Bool × List (List Nat × List Nat):=(true,[([],[]),([0],[0]),([],[]),([2],[2]),([3],[3]),([1,4],[1,4]),([5],[5]),([6],[6]),([7,7,0,1,2,3,4,5,6,7],[7])])
def Eb.B4:List Nat:=[0,1,0,4,12,31,63,127,255]
theorem Eb.uR:yl .any (opsOf Try.f102 4)=Eb.T4:=by kernel_rfl
theorem Eb.XL:vk Eb.T4.2 Eb.B4=true:=by kernel_rfl
theorem Eb.calls (k:Nat) (xb:Option Addr) (qb:Nat) (Oa:List Int) (La:Int) (Pa:Int) (Ja:Int) (Pb:Option Addr) (Gb:Nat) (Fa:List (zf)) (a1:Int) (a2:Int) (Ot:Nat→Prop) (Nf:Value) (l3:List Bool) (r:List Bool) (w0 w:World) (hB:Below w0.heap.size w0 w) (xe:∀ W_,Kept w W_ (fun k_=>Ot k_)→Kd.C (Kd.int .i64) W_ xb Oa.length Oa) (we:Oa.length ≤ qb) (Wf:∀ W_,Kept w W_ (fun k_=>Ot k_)→Kd.C Bp W_ Pb Fa.length Fa) (Uf:Fa.length ≤ Gb) (eZ:Kd.R Kd.bool 4 w w0.heap.size Ot Nf l3) (h:Eb.f k Oa La Pa Ja Fa a1 a2 l3=some r) :
  Calls Try.prog 102 #[.agg #[.slice xb Oa.length qb,.int .i64 La,.int .i64 Pa,.int .i64 Ja,.slice Pb Fa.length Gb],.int .i64 a1,.int .i64 a2,Nf] w fun e w'=>e = .returned (.tuple #[])∧Kd.R Kd.bool 4 w' w0.heap.size (fun k_=>(Ot k_ ∨ w.heap.size ≤ k_)) Nf r∧Below w0.heap.size w0 w'∧Kept w w' (fun k_=>Ot k_):=by
 have mA:=Try.underlying45;have kA:=Try.underlying83;have Ue:=ga.mk xe;have af:=ga.mk we;clear xe we;have ng:=ga.mk Wf;have Xg:=ga.mk Uf;clear Wf Uf;have bC:=ga.mk (show Kd.R Kd.bool 4 w w0.heap.size (fun k_=>(Ot k_ ∨ w.heap.size ≤ k_)) Nf l3 from Kd.Jc eZ (fun k_ hk=>(.inl hk)));have HK:=ga.mk (Kept.refl w (fun k_=>Ot k_));have HW0:=ga.mk hB.size;have HB:=ga.mk hB;clear hB;have H:(if 0 ≤ a1 then (if a1 < (l3.length:Int) then (Eb.l0 k a2 (l3.set (a1:Int).toNat true) (([a1]:List Int)) Oa La Pa Ja Fa) else (none)) else (none))=some r:=h;clear h;obtain ⟨Yd,Rf⟩:∃ y_:List Int,y_=(([a1]:List Int)):=⟨_,rfl⟩;replace H:(if 0 ≤ a1 then (if a1 < (l3.length:Int) then (Eb.l0 k a2 (l3.set (a1:Int).toNat true) Yd Oa La Pa Ja Fa) else (none)) else (none))=some r:=by first|(rw [Rf];with_reducible exact H)|(have Md:=(Option.bind_some _ _).symm.trans H;rw [Rf];with_reducible exact Md)|(have Md:=(Option.bind_some _ _).symm.trans H;with_reducible exact Md)|with_reducible exact H|(rw [Rf];exact H)|exact H
 have ki:=ga.mk Rf;clear Rf
 by_cases c5:0 ≤ a1
 ·rw [if_pos c5] at H;have Al:decide (0 ≤ a1)=true:=decide_eq_true c5;clear c5
  by_cases c6:a1 < (l3.length:Int)
  ·rw [if_pos c6] at H;have Yl:decide (a1 < (l3.length:Int))=true:=decide_eq_true c6;clear c6;obtain ⟨Ce,Ng⟩:∃ y_:List Bool,y_=(l3.set (a1:Int).toNat true):=⟨_,rfl⟩;replace H:(Eb.l0 k a2 Ce Yd Oa La Pa Ja Fa)=some r:=by first|(rw [Ng];with_reducible exact H)|(have Md:=(Option.bind_some _ _).symm.trans H;rw [Ng];with_reducible exact Md)|(have Md:=(Option.bind_some _ _).symm.trans H;with_reducible exact Md)|with_reducible exact H|(rw [Ng];exact H)|exact H
   have bp:=ga.mk Ng;clear Ng;have H':=ga.mk H;clear H;go_enter Try.func102,Try.ntmps102;go_wp2_with (first|((with_reducible refine Db (N:=4) rfl ?_);refine Jb ?hg (N:=4) ?hd (cs:=#[.slice xb Oa.length qb,.int .i64 La,.int .i64 Pa,.int .i64 Ja,.slice Pb Fa.length Gb]) (t:=45) ?hr ?_;(case hd=>rfl);(case hg=>rfl);(case hr=>first|(go_simp;done)|(go_simp;rfl));intro za hg w8 Wb hb;have Fb:=ga.mk (Kd.Xf (by (with_reducible repeat (first|apply Kd.Xa|apply Kd.Wa|apply Kd.yb));exact bC.out) hb);have Lb:=ga.mk (Kept.below (S:=(fun k_=>Ot k_)) (by repeat (first|(with_reducible first|exact HK.out|apply Kept.alloc|apply Kept.drewN|apply Kept.drew)|exact HK.out)) hb);have Vb:=ga.mk (Qa (by repeat (first|(with_reducible first|exact HB.out|apply oa|apply ia|apply qa)|exact HB.out)) hb);have Bc:=ga.mk (Wb);have Ge:=ga.mk ((by rw [hg];exact (by first|exact HK.out.1|exact (show Kept w _ (fun k_=>Ot k_) from by repeat (first|(with_reducible first|exact HK.out|apply Kept.alloc|apply Kept.drewN|apply Kept.drew)|exact HK.out)).1):w.heap.size ≤ za));have Zf:=ga.mk ((by rw [hg];exact (Ka (by repeat (first|(with_reducible first|exact HB.out|apply oa|apply ia|apply qa)|exact HB.out))):w0.heap.size ≤ za));clear bC HK HB;have bC:=Fb;have HK:=Lb;have HB:=Vb;have ta:=Bc;have ye:=Ge;have Sa:=Zf;clear Fb Lb Vb Bc Ge Zf hb Wb hg)|((with_reducible refine Db (N:=12) rfl ?_);refine Kd.vl (Kd.int .i64) _ 3 ?hg (N:=12) ?hd (xs:=([a1]:List Int)) (inner:=[.int .i64 a1]) (ok:=fun _=>True) (Gh:=fun _=>True) ?hr ?hp (fun _ hk=>hk) trivial (Below.refl _ _) (Nat.le_refl _) (by simp) ?_;(case hd=>rfl);(case hg=>rfl);(case hr=>first|(go_simp;done)|(go_simp;rfl));(case hp=>exact (Ld.one (show Kd.M (Kd.int .i64) _ _ _ a1 [.int .i64 a1] from rfl) (Ld.none _ _)));intro Sh w9 VO hb um Df;clear um Df;(first|rw [← ki.out] at VO|(simp only [Int.reduceToNat] at VO;rw [← ki.out] at VO));have Fb:=ga.mk (Kd.Xf (by (with_reducible repeat (first|apply Kd.Xa|apply Kd.Wa|apply Kd.yb));exact bC.out) hb);have Lb:=ga.mk (Kd.Qe (Kd.AQ (M:=fun k_=>(Ot k_ ∨ w.heap.size ≤ k_)) VO (by first|exact HK.out.1|exact (show Kept w _ (fun k_=>Ot k_) from by repeat (first|(with_reducible first|exact HK.out|apply Kept.alloc|apply Kept.drewN|apply Kept.drew|refine Kept.setCell ?_ (.inr ye.out) _)|exact HK.out)).1) (fun k_ h_=>.inr h_)) (Ka (by repeat (first|(with_reducible first|exact HB.out|apply oa|apply ia|apply qa|refine ua ?_ Sa.out)|exact HB.out))));have Vb:=ga.mk (Va (g:=za) (o:=.cells #[.slice xb Oa.length qb,.int .i64 La,.int .i64 Pa,.int .i64 Ja,.slice Pb Fa.length Gb] 45 (0,0)) (by (with_reducible repeat (first|refine Ca ?_ _|refine Ea ?_|refine Da ?_ _));exact ta.out) hb);have Bc:=ga.mk (Kept.below (S:=(fun k_=>Ot k_)) (by repeat (first|(with_reducible first|exact HK.out|apply Kept.alloc|apply Kept.drewN|apply Kept.drew|refine Kept.setCell ?_ (.inr ye.out) _)|exact HK.out)) hb);have Ge:=ga.mk (Qa (by repeat (first|(with_reducible first|exact HB.out|apply oa|apply ia|apply qa|refine ua ?_ Sa.out)|exact HB.out)) hb);clear bC ta HK HB;have bC:=Fb;have Ze:=Lb;have ta:=Vb;have HK:=Bc;have HB:=Ge;clear Fb Lb Vb Bc Ge hb VO;have p7:0 ≤ (a1:Int):=of_decide_eq_true (by first|(with_reducible assumption)|assumption);have q7:(a1:Int) < ((l3.length:Int):Int):=of_decide_eq_true (by first|(with_reducible assumption)|assumption);obtain ⟨JI,L0,eo7,gb7,gl7,cl7,HG7⟩:=Kd.jk bC.out (by omega);(first|cases eo7|(injection eo7 with Uj sy uy;(first|subst Uj|(injection Uj with Uj;subst Uj));subst uy;clear sy));have GB7:=ga.mk gb7;have GG7:=ga.mk HG7;clear gb7 gl7 HG7;have Yat:=ga.mk (show (Ot JI ∨ w.heap.size ≤ JI) from (bC.out.1 _ rfl));obtain ⟨wO,B9⟩:=Kd.gh false bC.out (a1:Int) p7 q7;replace p7:=eq_true p7;replace q7:=eq_true q7;obtain ⟨Tap,Sap⟩:=Kd.gh false bC.out (a1:Int) (of_decide_eq_true (by first|(with_reducible assumption)|assumption)) (of_decide_eq_true (by first|(with_reducible assumption)|assumption));have vJ:=Kd.Cl bC.out (a1:Int) true)|((with_reducible refine Xe (t:=4) (p:=15) rfl ?_);refine Ae (t:=4) (p:=15) (v:=?Cal) (w1:=(w9.setCell ⟨JI,(a1:Int).toNat,none⟩ (.bool true))) ?hg ?ho ?hn ?hr ?_;(case ho=>rfl);(case hg=>rfl);(case hn=>rfl);(case hr=>first|(go_simp;done)|(go_simp;rfl));intro dx hw;have hg:w9.grownBy dx (some JI):=(by rw [hw];exact vJ.2);have Tk:Kd.R Kd.bool 4 dx w0.heap.size (fun k_=>(Ot k_ ∨ w.heap.size ≤ k_)) (.slice (some ⟨JI,0,none⟩) l3.length L0) Ce:=(by rw [hw,bp.out];exact vJ.1);clear vJ;have Fb:=ga.mk (Tk);have Lb:=ga.mk (wg (g:=za) (o:=.cells #[.slice xb Oa.length qb,.int .i64 La,.int .i64 Pa,.int .i64 Ja,.slice Pb Fa.length Gb] 45 (0,0)) (by (with_reducible repeat (first|refine Ca ?_ _|refine Ea ?_|refine Da ?_ _));exact ta.out) hg (Kd.Nt bC.out ta.out (by decide)));have Vb:=ga.mk (Kd.Zj (v:=(.slice (some ⟨JI,0,none⟩) l3.length L0)) (by (with_reducible repeat (first|apply Kd.Xa|apply Kd.Wa|apply Kd.yb));exact Ze.out) (Kd.Yj bC.out) (by decide) hg);have Bc:=ga.mk ((by rw [hw];exact ua (HB.out) GB7.out:Below w0.heap.size w0 dx));have Ge:=ga.mk (Kept.Dg (S:=(fun k_=>Ot k_)) hg (by repeat (first|(with_reducible first|exact HK.out|apply Kept.alloc|apply Kept.drewN|apply Kept.drew|refine Kept.setCell ?_ (.inr ye.out) _)|exact HK.out)) (fun k_ e_=>(bC.out.1 k_ e_)));clear bC ta Ze HB HK;have bC:=Fb;have ta:=Lb;have Ze:=Vb;have HB:=Bc;have HK:=Ge;clear Fb Lb Vb Bc Ge hg hw Tk))
   go_loopg [8] k (fun kq v8 w'=>∃ (Fc:List Bool) (me:List Int),ga (Eb.l0 kq a2 Fc me Oa La Pa Ja Fa=some r)∧ga (kq ≤ k)∧ga (Kd.R Kd.bool 4 w' w0.heap.size (fun k_=>(Ot k_ ∨ w.heap.size ≤ k_)) (.slice (some ⟨JI,0,none⟩) l3.length L0) Fc)∧ga (Kd.Q (Kd.int .i64) 3 w' w0.heap.size (fun k_=>(Ot k_ ∨ w.heap.size ≤ k_)) v8 me)∧ga (w'.heap[za]? = some (.cells #[(.slice xb Oa.length qb),.int .i64 La,.int .i64 Pa,.int .i64 Ja,(.slice Pb Fa.length Gb)] 45 (0,0)))∧ga (Kept w w' (fun k_=>Ot k_))∧ga (Below w0.heap.size w0 w'))
   case atStart=>exact ⟨(Ce),(Yd),H',⟨Nat.le_refl _⟩,⟨by (with_reducible repeat (first|apply Kd.Xa|apply Kd.Wa|apply Kd.yb));exact bC.out⟩,⟨Kd.nJ (by (with_reducible repeat (first|apply Kd.Xa|apply Kd.Wa|apply Kd.yb));exact Kd.Jc Ze.out (fun _ hk=>hk.1))⟩,⟨by (with_reducible repeat (first|refine Ca ?_ _|refine Ea ?_|refine Da ?_ _));exact ta.out⟩,⟨by repeat (first|(with_reducible first|exact HK.out|apply Kept.alloc|apply Kept.drewN|apply Kept.drew|refine Kept.setCell ?_ (.inr ye.out) _)|exact HK.out)⟩,⟨by repeat (first|(with_reducible first|exact HB.out|apply oa|apply ia|apply qa|refine ua ?_ Sa.out)|exact HB.out)⟩⟩
   case round =>
    clear H'
    try clear c1
    try clear p2
    try clear c5
    try clear Al
    try clear c6
    try clear Yl
    try clear p7
    try clear q7
    try clear hx7
    try clear hf7
    try clear c10
    try clear wO
    try clear p7
    try clear q7
    (try clear HA);(try clear Gf);(try clear Lc);(try clear Yk);(try clear ta);(try clear HK);(try clear HB);obtain ⟨Fc,me,HA,Gf,Lc,Yk,ta,HK,HB⟩:=hrel;have Ti:=(Kd.Tb Lc.out).1;rw [Ti] at Lc;(try simp only [Ti]);(try simp only [Ti] at ta);(try simp only [Ti] at Yk);cases gk with
    | zero=>exact absurd HA.out (by simp [Eb.l0])
    | succ k1 =>
     have H:=HA.out;clear HA;simp only [Eb.l0] at H
     by_cases XA:(me.length:Int) > 0
     ·rw [if_pos XA] at H;have TB:decide (0 < (me.length:Int))=true:=decide_eq_true XA;have dX:decide (0 < me.length)=true:=decide_eq_true (by omega);clear XA
      by_cases yy:0 < (me.length:Int)
      ·rw [if_pos yy] at H;have SB:decide (0 < (me.length:Int))=true:=decide_eq_true yy;have sab:decide (0 < me.length)=true:=decide_eq_true (by omega);clear yy
       by_cases vN:0 ≤ (rd me 0)
       ·rw [if_pos vN] at H;have cX:decide (0 ≤ (rd me 0))=true:=decide_eq_true vN;clear vN
        by_cases xy:(rd me 0) < (Fa.length:Int)
        ·rw [if_pos xy] at H;have VL:decide ((rd me 0) < (Fa.length:Int))=true:=decide_eq_true xy;clear xy;replace H:=Option.bind_eq_some_iff.mp H;obtain ⟨t108,WQ,H⟩:=H;replace H:(if 1 ≤ (me.length:Int) then (Eb.l1 k1 a2 Fc (me.drop (1:Int).toNat) t108 0 Oa La Pa Ja Fa) else (none))=some r:=H;have yN:=ga.mk WQ;clear WQ
         by_cases Kr:1 ≤ (me.length:Int)
         ·rw [if_pos Kr] at H;have Gn:=eq_true Kr;have Rw:decide (1 ≤ (me.length:Int))=true:=decide_eq_true Kr;clear Kr;obtain ⟨OH,eG⟩:∃ y_:List Int,y_=(me.drop (1:Int).toNat):=⟨_,rfl⟩;replace H:(Eb.l1 k1 a2 Fc OH t108 0 Oa La Pa Ja Fa)=some r:=by first|(rw [eG];with_reducible exact H)|(have Md:=(Option.bind_some _ _).symm.trans H;rw [eG];with_reducible exact Md)|(have Md:=(Option.bind_some _ _).symm.trans H;with_reducible exact Md)|with_reducible exact H|(rw [eG];exact H)|exact H
          have pX:=ga.mk eG;clear eG;have H':=ga.mk H;clear H;obtain ⟨vap,cQ,VZ,_⟩:=Kd.Ww Yk.out;subst VZ
          try go_wp2
          have Fb:=ga.mk (Kd.yb Lc.out);have Lb:=ga.mk (Kd.ai Yk.out);have Vb:=ga.mk (Ea ta.out);have Bc:=ga.mk (Kept.drew HK.out);have Ge:=ga.mk (qa HB.out);clear Lc Yk ta HK HB;have Lc:=Fb;have Yk:=Lb;have ta:=Vb;have HK:=Bc;have HB:=Ge;clear Fb Lb Vb Bc Ge;have RR:0 ≤ (0:Int):=(by omega);have KR:0 < (me.length:Int):=of_decide_eq_true (by first|(with_reducible assumption)|assumption);obtain ⟨WB,Cao,av⟩:=Kd.Ef (Kd.MA Yk.out).2.2 0 RR KR;cases Cao;have Lap:(0 < me.length)=True:=eq_true (by omega);(try rw [show ((0:Int)).toNat=0 from rfl] at av);(try rw [Addr.add_zero'] at av);replace RR:=eq_true RR;replace KR:=eq_true KR;have PR:0 ≤ ((rd me 0):Int):=of_decide_eq_true (by first|(with_reducible assumption)|assumption);have JR:(rd me 0) < (Fa.length:Int):=of_decide_eq_true (by first|(with_reducible assumption)|assumption);obtain ⟨Yo,bR,pQ,Bao,Gy,Fy,Ey,Dy,Cy,cK,jK⟩:=ek (Kd.zJ ng.out HK.out) (rd me 0) PR JR;have Mad:=Cy;have Nad:=Dy;have Oad:=Ey;have Pad:=Fy;have Qad:=Gy;cases Bao;have Iq:=ga.mk jK;have TV:=ga.mk cK;clear jK cK;replace PR:=eq_true PR;replace JR:=eq_true JR;refine xk (n:=9) (S:=fun w'=>w'.cell? ⟨za,0,none⟩=some (.slice xb Oa.length qb)∧w'.cell? ⟨za,1,none⟩=some (.int .i64 La)∧w'.cell? ⟨za,2,none⟩=some (.int .i64 Pa)∧w'.cell? ⟨za,3,none⟩=some (.int .i64 Ja)∧w'.cell? ⟨za,4,none⟩=some (.slice (some Yo) Fa.length Gb)∧w'.cell? WB=some (.int .i64 (rd me 0))∧w'.cell? (Yo.add (((rd me 0)).toNat * 5))=some (.slice bR ((Ta Fa (rd me 0)).f0).length pQ)∧w'.cell? ⟨(Yo.add (((rd me 0)).toNat * 5)).block,(Yo.add (((rd me 0)).toNat * 5)).off + 1,none⟩=some (.int .i64 ((Ta Fa (rd me 0)).f1))∧w'.cell? ⟨(Yo.add (((rd me 0)).toNat * 5)).block,(Yo.add (((rd me 0)).toNat * 5)).off + 2,none⟩=some (.int .i64 ((Ta Fa (rd me 0)).f2))∧w'.cell? ⟨(Yo.add (((rd me 0)).toNat * 5)).block,(Yo.add (((rd me 0)).toNat * 5)).off + 3,none⟩=some (.int .i64 ((Ta Fa (rd me 0)).f3))∧w'.cell? ⟨(Yo.add (((rd me 0)).toNat * 5)).block,(Yo.add (((rd me 0)).toNat * 5)).off + 4,none⟩=some (.int .i64 ((Ta Fa (rd me 0)).f4))) (ds:=[]) #[false,false,false,false,false,false,false,false,false] (by kernel_rfl) rfl rfl ⟨(ja ta.out 0).trans rfl,(ja ta.out 1).trans rfl,(ja ta.out 2).trans rfl,(ja ta.out 3).trans rfl,(ja ta.out 4).trans rfl,av,Gy,Fy,Ey,Dy,Cy⟩ (fun hHeld=>?_);refine Kh Eb.uR Eb.XL (fun Kf Hq=>?_);generalize wr.drew=w20 at Lc Yk ta HK HB Iq av Gy Fy Ey Dy Cy hHeld ⊢;refine od (i:=0) (N:=some 19) (v:=?_) (a':=?_) #[true,false,false,false,false,false,false,false,false] rfl rfl (Cc Kf.out (by kernel_rfl)) (fun _ _ _ h=>h) (Or.inl ⟨by rfl,?_⟩) ?_ ?_;rotate_left
          ·intro w';go_simp;with_reducible rfl
          rotate_left
          ·simp only [Act.put,List.setIfInBounds_toArray,List.set_cons_zero,List.set_cons_succ,dc,ec]
           rfl
          refine od (i:=2) (N:=some 21) (v:=?_) (a':=?_) #[true,false,true,false,false,false,false,false,false] rfl rfl (Cc Kf.out (by kernel_rfl)) (fun _ _ _ h=>h) (Or.inl ⟨by rfl,?_⟩) ?_ ?_;rotate_left
          ·intro w';go_simp;with_reducible rfl
          rotate_left
          ·simp only [Act.put,List.setIfInBounds_toArray,List.set_cons_zero,List.set_cons_succ,dc,ec]
           rfl
          refine od (i:=3) (N:=some 22) (v:=?_) (a':=?_) #[true,false,true,true,false,false,false,false,false] rfl rfl (Cc Kf.out (by kernel_rfl)) (fun _ _ _ h=>h) (Or.inl ⟨by rfl,?_⟩) ?_ ?_;rotate_left
          ·intro w';go_simp;with_reducible rfl
          rotate_left
          ·simp only [Act.put,List.setIfInBounds_toArray,List.set_cons_zero,List.set_cons_succ,dc,ec]
           rfl
          refine Ug (i:=1) (N:=some 20) (v:=?_) (a':=?_) #[true,true,true,true,false,false,false,false,false] rfl rfl (Te Kf.out Hq.out (by kernel_rfl)) (fun _ _ _ h=>h) (Or.inl ⟨by rfl,?_⟩) hHeld ?_ ?_;rotate_left
          ·rintro w' ⟨s0,s1,s2,s3,s4,s5,s6,s7,s8,s9,YH⟩;go_simp;with_reducible rfl
          rotate_left
          ·simp only [Act.put,List.setIfInBounds_toArray,List.set_cons_zero,List.set_cons_succ,dc,ec]
           rfl
          refine Ug (i:=4) (N:=some 23) (v:=?_) (a':=?_) #[true,true,true,true,true,false,false,false,false] rfl rfl (Te Kf.out Hq.out (by kernel_rfl)) (fun _ _ _ h=>h) (Or.inl ⟨by rfl,?_⟩) hHeld ?_ ?_;rotate_left
          ·rintro w' ⟨s0,s1,s2,s3,s4,s5,s6,s7,s8,s9,YH⟩;go_simp;with_reducible rfl
          rotate_left
          ·simp only [Act.put,List.setIfInBounds_toArray,List.set_cons_zero,List.set_cons_succ,dc,ec]
           rfl
          refine od (i:=5) (N:=some 24) (v:=?_) (a':=?_) #[true,true,true,true,true,true,false,false,false] rfl rfl (Cc Kf.out (by kernel_rfl)) (fun _ _ _ h=>h) (Or.inl ⟨by rfl,?_⟩) ?_ ?_;rotate_left
          ·intro w';go_simp;with_reducible rfl
          rotate_left
          ·simp only [Act.put,List.setIfInBounds_toArray,List.set_cons_zero,List.set_cons_succ,dc,ec]
           rfl
          refine Ug (i:=6) (N:=some 25) (v:=?_) (a':=?_) #[true,true,true,true,true,true,true,false,false] rfl rfl (Te Kf.out Hq.out (by kernel_rfl)) (fun _ _ _ h=>h) (Or.inl ⟨by rfl,?_⟩) hHeld ?_ ?_;rotate_left
          ·rintro w' ⟨s0,s1,s2,s3,s4,s5,s6,s7,s8,s9,YH⟩;go_simp;with_reducible rfl
          rotate_left
          ·simp only [Act.put,List.setIfInBounds_toArray,List.set_cons_zero,List.set_cons_succ,dc,ec]
           rfl
          refine Yu (i:=7) (N:=some 26) #[true,true,true,true,true,true,true,true,false] rfl rfl (qm Kf.out (by kernel_rfl)) (by decide) (fun K hK=>?_);refine Nq Try.func85 (by kernel_rfl) rfl #[.agg #[.slice bR ((Ta Fa (rd me 0)).f0).length pQ,.int .i64 ((Ta Fa (rd me 0)).f1),.int .i64 ((Ta Fa (rd me 0)).f2),.int .i64 ((Ta Fa (rd me 0)).f3),.int .i64 ((Ta Fa (rd me 0)).f4)]] (by rfl) rfl rfl (by (try simp only [List.map_toArray,List.map_cons,List.map_nil]);first|done|rfl|(simp only [List.length_drop,List.length_take];rfl)) ?_;with_reducible refine (Hg.calls _ _ ((Ta Fa (rd me 0)).f0) ((Ta Fa (rd me 0)).f1) ((Ta Fa (rd me 0)).f2) ((Ta Fa (rd me 0)).f3) ((Ta Fa (rd me 0)).f4) t108 _ ?yc ?uc yN.out).mono ?_
          (case yc=>repeat (first|exact (by repeat (first|(with_reducible exact Iq.out)|(with_reducible refine Kd.Sb ?_ _)|(with_reducible refine Kd.Rb ?_ _)|(with_reducible refine Kd.jc ?_)|exact Iq.out))|(with_reducible refine Kd.Sb ?_ _)|(with_reducible refine Kd.Rb ?_ _)|(with_reducible refine Kd.jc ?_)))
          (case uc=>exact TV.out)
          rintro e Kq ⟨v109,rfl,Zi,hb⟩;have G3:=(hb.cell (World.block_lt_of_cell? _ _ (hHeld.2.2.2.2.2.1))).trans (hHeld.2.2.2.2.2.1);have Vao:=(hb.cell (World.block_lt_of_cell? _ _ (hHeld.2.2.2.2.2.2.1))).trans (hHeld.2.2.2.2.2.2.1);have Uao:=(hb.cell (World.block_lt_of_cell? _ _ (hHeld.2.2.2.2.2.2.2.1))).trans (hHeld.2.2.2.2.2.2.2.1);have Tao:=(hb.cell (World.block_lt_of_cell? _ _ (hHeld.2.2.2.2.2.2.2.2.1))).trans (hHeld.2.2.2.2.2.2.2.2.1);have Sao:=(hb.cell (World.block_lt_of_cell? _ _ (hHeld.2.2.2.2.2.2.2.2.2.1))).trans (hHeld.2.2.2.2.2.2.2.2.2.1);have xac:=(hb.cell (World.block_lt_of_cell? _ _ (hHeld.2.2.2.2.2.2.2.2.2.2))).trans (hHeld.2.2.2.2.2.2.2.2.2.2);refine ⟨_,rfl,?_⟩;have Fb:=ga.mk (Kd.Xf (by (with_reducible repeat (first|apply Kd.Xa|apply Kd.Wa|apply Kd.yb));exact Lc.out) hb);have Lb:=ga.mk (Kd.oH (by (with_reducible repeat (first|apply Kd.Ah|apply Kd.zh|apply Kd.ai));exact Yk.out) (Kd.xh Zi) hb);have Vb:=ga.mk (Kd.Qe (Kd.Xk (Kd.AQ (M:=fun k_=>(Ot k_ ∨ w.heap.size ≤ k_)) Zi (by first|exact HK.out.1|exact (show Kept w _ (fun k_=>Ot k_) from by repeat (first|(with_reducible first|exact HK.out|apply Kept.alloc|apply Kept.drewN|apply Kept.drew|refine Kept.setCell ?_ (.inr ye.out) _)|exact HK.out)).1) (fun k_ h_=>.inr h_)) (Kd.Rab (by (with_reducible repeat (first|apply Kd.Ah|apply Kd.zh|apply Kd.ai));exact Yk.out))) (Ka (by repeat (first|(with_reducible first|exact HB.out|apply oa|apply ia|apply qa|refine ua ?_ Sa.out)|exact HB.out))));have Bc:=ga.mk (Va (g:=za) (o:=.cells #[.slice xb Oa.length qb,.int .i64 La,.int .i64 Pa,.int .i64 Ja,.slice (some Yo) Fa.length Gb] 45 (0,0)) (by (with_reducible repeat (first|refine Ca ?_ _|refine Ea ?_|refine Da ?_ _));exact ta.out) hb);have Ge:=ga.mk (Kd.Mb (by repeat (first|(with_reducible exact Iq.out)|(with_reducible refine Kd.Sb ?_ _)|(with_reducible refine Kd.Rb ?_ _)|(with_reducible refine Kd.jc ?_)|exact Iq.out)) hb);have Zf:=ga.mk (Kept.below (S:=(fun k_=>Ot k_)) (by repeat (first|(with_reducible first|exact HK.out|apply Kept.alloc|apply Kept.drewN|apply Kept.drew|refine Kept.setCell ?_ (.inr ye.out) _)|exact HK.out)) hb);have Dh:=ga.mk (Qa (by repeat (first|(with_reducible first|exact HB.out|apply oa|apply ia|apply qa|refine ua ?_ Sa.out)|exact HB.out)) hb);clear Lc Yk ta Iq HK HB;have Lc:=Fb;have Yk:=Lb;have Pq:=Vb;have ta:=Bc;have Iq:=Ge;have HK:=Zf;have HB:=Dh;clear Fb Lb Vb Bc Ge Zf Dh;(try clear hb);(try clear Jj);(try clear hk);(try clear hi);(try clear Zi);refine hK.out _ _ ⟨(ja ta.out 0).trans rfl,(ja ta.out 1).trans rfl,(ja ta.out 2).trans rfl,(ja ta.out 3).trans rfl,(ja ta.out 4).trans rfl,G3,Vao,Uao,Tao,Sao,xac⟩ (fun hHeld=>?_);clear hK K;refine Wn (a':=?_) ?_ ?_;rotate_left
          ·show Act.put _ (some 26) _=_
           simp only [Act.put,List.setIfInBounds_toArray,List.set_cons_zero,List.set_cons_succ,dc,ec]
           rfl
          refine od (i:=8) (N:=some 9) (v:=?_) (a':=?_) #[true,true,true,true,true,true,true,true,true] rfl rfl (Cc Kf.out (by kernel_rfl)) (fun _ _ _ h=>h) (Or.inl ⟨by rfl,?_⟩) ?_ ?_;rotate_left
          ·intro w';go_simp;with_reducible rfl
          rotate_left
          ·simp only [Act.put,List.setIfInBounds_toArray,List.set_cons_zero,List.set_cons_succ,dc,ec]
           rfl
          refine Wo (Vj Kf.out (by kernel_rfl)) ?_;have DR:(1:Int) ≤ ((me.length:Int):Int):=of_decide_eq_true (by first|(with_reducible assumption)|assumption);obtain ⟨cam,mG,_,ZJ,_⟩:=info_parts info3;have EI:=XG (P:=Try.prog) 22 3 .i64 Try.underlying22 mG 1 ZJ (some WB) me.length cQ 1 (by omega) DR;have jB:=Kd.BQ (k:=(1:Int).toNat) Yk.out (by omega);obtain ⟨dY,eV⟩:∃ A1,A1=(if cQ=(1:Int).toNat then (some WB) else ((some WB):Option Addr).map (·.add ((1:Int).toNat * 1))):=⟨_,rfl⟩;obtain ⟨xF,KZ⟩:∃ c1,c1=cQ - (1:Int).toNat:=⟨_,rfl⟩;have UM:OH.length=me.length - (1:Int).toNat:=(by rw [pX.out,List.length_drop]);rw [← pX.out] at jB;rw [← UM,← eV,← KZ] at EI;replace jB:Kd.Q (Kd.int .i64) 3 Kq w0.heap.size (fun k_=>(Ot k_ ∨ w.heap.size ≤ k_)∧some k_ ≠ (v109:Value).ownBlock) (.slice dY OH.length xF) OH:=(by rw [eV,KZ,UM];exact jB);have Zao:ga ((Value.slice dY OH.length xF).ownBlock=(.slice (some WB) me.length cQ:Value).ownBlock):=⟨by rw [eV];split <;> (cases ((some WB):Option Addr) <;> rfl)⟩;clear UM mG ZJ Yk eV KZ;have Lac:=ga.mk jB;clear jB;replace DR:=eq_true DR;have n_:=ga.mk (Kd.Jc (Cn:=fun k_=>((((Ot k_ ∨ w.heap.size ≤ k_))∧True)∧some k_ ≠ (.slice dY OH.length xF:Value).ownBlock)) Pq.out (fun k_ hk=>⟨⟨hk.1.1,trivial⟩,(by rw [Zao.out];exact hk.2)⟩));clear Pq;have Pq:=n_;clear n_
          try go_wp2
          go_loopg [8,10] k1 (fun kq v8 v10 w'=>∃ (tj:List Bool) (ze:List Int) (ie:Int),v10 = .int .i64 ie∧ga (Eb.l1 kq a2 tj ze t108 ie Oa La Pa Ja Fa=some r)∧ga (kq ≤ k1)∧ga (Kd.R Kd.bool 4 w' w0.heap.size (fun k_=>(Ot k_ ∨ w.heap.size ≤ k_)) (.slice (some ⟨JI,0,none⟩) Fc.length L0) tj)∧ga (Kd.Q (Kd.int .i64) 3 w' w0.heap.size (fun k_=>(Ot k_ ∨ w.heap.size ≤ k_)∧some k_ ≠ (v109:Value).ownBlock) v8 ze)∧ga (Kd.R (Kd.int .i64) 3 w' w0.heap.size (fun k_=>(Ot k_ ∨ w.heap.size ≤ k_)∧some k_ ≠ (v8:Value).ownBlock) v109 t108)∧ga (w'.heap[za]? = some (.cells #[(.slice xb Oa.length qb),.int .i64 La,.int .i64 Pa,.int .i64 Ja,(.slice (some Yo) Fa.length Gb)] 45 (0,0)))∧ga (Kept w w' (fun k_=>Ot k_))∧ga (Below w0.heap.size w0 w'))
          case atStart=>exact ⟨(Fc),(OH),(0),(by first|rfl|(simp;done)|(simp [*];done)),H',⟨Nat.le_refl _⟩,⟨by (try simp only [Ti]);(with_reducible repeat (first|apply Kd.Xa|apply Kd.Wa|apply Kd.yb));exact Lc.out⟩,⟨by (try simp only [Ti]);(with_reducible repeat (first|apply Kd.Ah|apply Kd.zh|apply Kd.ai));exact Lac.out⟩,⟨by (try simp only [Ti]);(with_reducible repeat (first|apply Kd.Xa|apply Kd.Wa|apply Kd.yb));exact Kd.Jc Pq.out (fun _ hk=>⟨hk.1.1,hk.2⟩)⟩,⟨by (try simp only [Ti]);(with_reducible repeat (first|refine Ca ?_ _|refine Ea ?_|refine Da ?_ _));exact ta.out⟩,⟨by repeat (first|(with_reducible first|exact HK.out|apply Kept.alloc|apply Kept.drewN|apply Kept.drew|refine Kept.setCell ?_ (.inr ye.out) _)|exact HK.out)⟩,⟨by repeat (first|(with_reducible first|exact HB.out|apply oa|apply ia|apply qa|refine ua ?_ Sa.out)|exact HB.out)⟩⟩
          case round =>
           clear H'
           try clear c1
           try clear p1
           try clear q1
           try clear hx1
           try clear qi1
           try clear c2
           try clear p2
           try clear q2
           try clear c5
           try clear Al
           try clear c6
           try clear Yl
           try clear p7
           try clear q7
           try clear hx7
           try clear hf7
           try clear c8
           try clear c10
           try clear AB
           try clear zB
           try clear FO
           try clear Tau
           try clear XA
           try clear TB
           try clear dX
           try clear yy
           try clear SB
           try clear sab
           try clear vN
           try clear cX
           try clear xy
           try clear VL
           try clear Kr
           try clear Gn
           try clear Rw
           try clear xF
           try clear DR
           try clear av
           try clear Gy
           try clear Fy
           try clear Ey
           try clear Dy
           try clear Cy
           try clear wO
           try clear RR
           try clear PR
           try clear p2
           try clear p7
           try clear KR
           try clear JR
           try clear DR
           try clear q7
           (try clear HA);(try clear Fm);(try clear Lc);(try clear Yk);(try clear jh);(try clear ta);(try clear HK);(try clear HB);obtain ⟨tj,ze,ie,rfl,HA,Fm,Lc,Yk,jh,ta,HK,HB⟩:=hrel;have ij:=(Kd.Tb Lc.out).1;rw [ij] at Lc;(try simp only [ij]);(try simp only [ij] at ta);(try simp only [ij] at Yk);(try simp only [ij] at jh);cases gk with
           | zero=>exact absurd HA.out (by simp [Eb.l1])
           | succ k2 =>
            have H:=HA.out;clear HA;simp only [Eb.l1] at H
            by_cases Fx:ie < (t108.length:Int)
            ·rw [if_pos Fx] at H;have EA:decide (ie < (t108.length:Int))=true:=decide_eq_true Fx;clear Fx
             by_cases ZE:0 ≤ ie
             ·rw [if_pos ZE] at H;have jQ:decide (0 ≤ ie)=true:=decide_eq_true ZE;clear ZE
              by_cases uN:(rd t108 ie)=a2
              ·rw [if_pos uN] at H;have qab:((rd t108 ie) == a2)=true:=beq_iff_eq.mpr uN;have pab:((rd t108 ie) != a2)=false:=bne_eq_false_iff_eq.mpr uN;clear uN;have H':=ga.mk H;clear H;obtain ⟨O4,U0,UZ⟩:=Kd.Jd jh.out;subst UZ;have kr:0 ≤ (ie:Int):=of_decide_eq_true (by first|(with_reducible assumption)|assumption);have ir:ie < (t108.length:Int):=of_decide_eq_true (by first|(with_reducible assumption)|assumption);obtain ⟨Nj,WI,Mm⟩:=Kd.Ef (Kd.Tb jh.out).2.2 ie kr ir;cases WI;replace kr:=eq_true kr;replace ir:=eq_true ir;go_wp2;(try simp only [← ij])
               go_roundg k2
               case measure=>have:=Gf.out;have:=Fm.out;omega
               case rel=>exact ⟨(tj),(ze),(wrap64 (ie + 1)),(by first|rfl|(simp;done)|(simp [*];done)),H',⟨by have:=Gf.out;have:=Fm.out;omega⟩,⟨by (try simp only [Ti]);(try simp only [ij]);(with_reducible repeat (first|apply Kd.Xa|apply Kd.Wa|apply Kd.yb));exact Lc.out⟩,⟨by (try simp only [Ti]);(try simp only [ij]);(with_reducible repeat (first|apply Kd.Ah|apply Kd.zh|apply Kd.ai));exact Yk.out⟩,⟨by (try simp only [Ti]);(try simp only [ij]);(with_reducible repeat (first|apply Kd.Xa|apply Kd.Wa|apply Kd.yb));exact jh.out⟩,⟨by (try simp only [Ti]);(try simp only [ij]);(with_reducible repeat (first|refine Ca ?_ _|refine Ea ?_|refine Da ?_ _));exact ta.out⟩,⟨by repeat (first|(with_reducible first|exact HK.out|apply Kept.alloc|apply Kept.drewN|apply Kept.drew|refine Kept.setCell ?_ (.inr ye.out) _)|exact HK.out)⟩,⟨by repeat (first|(with_reducible first|exact HB.out|apply oa|apply ia|apply qa|refine ua ?_ Sa.out)|exact HB.out)⟩⟩
              ·rw [if_neg uN] at H;have qab:((rd t108 ie) == a2)=false:=beq_eq_false_iff_ne.mpr uN;have pab:((rd t108 ie) != a2)=true:=bne_iff_ne.mpr uN
               by_cases wF:0 ≤ (rd t108 ie)
               ·rw [if_pos wF] at H;have Aat:decide (0 ≤ (rd t108 ie))=true:=decide_eq_true wF;clear wF
                by_cases Qw:(rd t108 ie) < (tj.length:Int)
                ·rw [if_pos Qw] at H;have Ip:decide ((rd t108 ie) < (tj.length:Int))=true:=decide_eq_true Qw;clear Qw;obtain ⟨xab,CP⟩:∃ b_:Bool,b_=(sg false tj (rd t108 ie)):=⟨_,rfl⟩;replace H:(if (xab=true) then (Eb.l1 k2 a2 tj ze t108 (wrap64 (ie + 1)) Oa La Pa Ja Fa) else (if ze.length < 17592186044416 then (Eb.l1 k2 a2 (tj.set ((rd t108 ie):Int).toNat true) (ze ++ [rd t108 ie]) t108 (wrap64 (ie + 1)) Oa La Pa Ja Fa) else (none)))=some r:=by rw [← CP] at H;exact H
                 have qX:=ga.mk CP;clear CP
                 by_cases Xx:(xab=true)
                 ·subst Xx;have H1:(Eb.l1 k2 a2 tj ze t108 (wrap64 (ie + 1)) Oa La Pa Ja Fa)=some r:=by rw [if_pos rfl] at H;exact H
                  clear H;have H:=H1;clear H1;have H':=ga.mk H;clear H;obtain ⟨nN,dN,TZ⟩:=Kd.Jd jh.out;subst TZ;have kr:0 ≤ (ie:Int):=of_decide_eq_true (by first|(with_reducible assumption)|assumption);have ir:ie < (t108.length:Int):=of_decide_eq_true (by first|(with_reducible assumption)|assumption);obtain ⟨Nj,WI,Mm⟩:=Kd.Ef (Kd.Tb jh.out).2.2 ie kr ir;cases WI;replace kr:=eq_true kr;replace ir:=eq_true ir;have ju:0 ≤ (ie:Int):=of_decide_eq_true (by first|(with_reducible assumption)|assumption);have fu:ie < (t108.length:Int):=of_decide_eq_true (by first|(with_reducible assumption)|assumption);obtain ⟨kH,VI,Wr⟩:=Kd.Ef (Kd.Tb jh.out).2.2 ie ju fu;obtain rfl:Nj=kH:=(by injection VI);replace ju:=eq_true ju;replace fu:=eq_true fu;have lI:0 ≤ ((rd t108 ie):Int):=of_decide_eq_true (by first|(with_reducible assumption)|assumption);have dI:(rd t108 ie) < (tj.length:Int):=of_decide_eq_true (by first|(with_reducible assumption)|assumption);obtain ⟨sQ,ZZ,Lm⟩:=Kd.Xj (Kd.Tb Lc.out).2.2 (rd t108 ie) lI dI;(try rw [← qX.out] at Lm);obtain rfl:(⟨JI,0,none⟩:Addr)=sQ:=(by injection ZZ);(first|simp only [add_plain] at Lm|simp only [Fp] at Lm|simp only [Addr.add,Nat.zero_add] at Lm|skip);replace lI:=eq_true lI;replace dI:=eq_true dI;go_wp2;(try simp only [← ij])
                  go_roundg k2
                  case measure=>have:=Gf.out;have:=Fm.out;omega
                  case rel=>exact ⟨(tj),(ze),(wrap64 (ie + 1)),(by first|rfl|(simp;done)|(simp [*];done)),H',⟨by have:=Gf.out;have:=Fm.out;omega⟩,⟨by (try simp only [Ti]);(try simp only [ij]);(with_reducible repeat (first|apply Kd.Xa|apply Kd.Wa|apply Kd.yb));exact Lc.out⟩,⟨by (try simp only [Ti]);(try simp only [ij]);(with_reducible repeat (first|apply Kd.Ah|apply Kd.zh|apply Kd.ai));exact Yk.out⟩,⟨by (try simp only [Ti]);(try simp only [ij]);(with_reducible repeat (first|apply Kd.Xa|apply Kd.Wa|apply Kd.yb));exact jh.out⟩,⟨by (try simp only [Ti]);(try simp only [ij]);(with_reducible repeat (first|refine Ca ?_ _|refine Ea ?_|refine Da ?_ _));exact ta.out⟩,⟨by repeat (first|(with_reducible first|exact HK.out|apply Kept.alloc|apply Kept.drewN|apply Kept.drew|refine Kept.setCell ?_ (.inr ye.out) _)|exact HK.out)⟩,⟨by repeat (first|(with_reducible first|exact HB.out|apply oa|apply ia|apply qa|refine ua ?_ Sa.out)|exact HB.out)⟩⟩
                 ·replace Xx:=Bool.eq_false_iff.mpr Xx;subst Xx;have H1:(if ze.length < 17592186044416 then (Eb.l1 k2 a2 (tj.set ((rd t108 ie):Int).toNat true) (ze ++ [rd t108 ie]) t108 (wrap64 (ie + 1)) Oa La Pa Ja Fa) else (none))=some r:=by rw [if_neg (show ¬ (false=true) by decide)] at H;exact H
                  clear H;have H:=H1;clear H1;obtain ⟨Ou,Cr⟩:∃ y_:List Bool,y_=(tj.set ((rd t108 ie):Int).toNat true):=⟨_,rfl⟩;replace H:(if ze.length < 17592186044416 then (Eb.l1 k2 a2 Ou (ze ++ [rd t108 ie]) t108 (wrap64 (ie + 1)) Oa La Pa Ja Fa) else (none))=some r:=by first|(rw [Cr];with_reducible exact H)|(have Md:=(Option.bind_some _ _).symm.trans H;rw [Cr];with_reducible exact Md)|(have Md:=(Option.bind_some _ _).symm.trans H;with_reducible exact Md)|with_reducible exact H|(rw [Cr];exact H)|exact H
                  have eM:=ga.mk Cr;clear Cr
                  by_cases dH:ze.length < 17592186044416
                  ·rw [if_pos dH] at H;have cac:=ga.mk dH;clear dH;obtain ⟨I5,aG⟩:∃ y_:List Int,y_=(ze ++ [rd t108 ie]):=⟨_,rfl⟩;replace H:(Eb.l1 k2 a2 Ou I5 t108 (wrap64 (ie + 1)) Oa La Pa Ja Fa)=some r:=by first|(rw [aG];with_reducible exact H)|(have Md:=(Option.bind_some _ _).symm.trans H;rw [aG];with_reducible exact Md)|(have Md:=(Option.bind_some _ _).symm.trans H;with_reducible exact Md)|with_reducible exact H|(rw [aG];exact H)|exact H
                   have Vab:=ga.mk aG;clear aG;have H':=ga.mk H;clear H;obtain ⟨Law,Gao,oao⟩:=Kd.Jd jh.out;subst oao;have kr:0 ≤ (ie:Int):=of_decide_eq_true (by first|(with_reducible assumption)|assumption);have ir:ie < (t108.length:Int):=of_decide_eq_true (by first|(with_reducible assumption)|assumption);obtain ⟨Nj,WI,Mm⟩:=Kd.Ef (Kd.Tb jh.out).2.2 ie kr ir;cases WI;replace kr:=eq_true kr;replace ir:=eq_true ir;have ju:0 ≤ (ie:Int):=of_decide_eq_true (by first|(with_reducible assumption)|assumption);have fu:ie < (t108.length:Int):=of_decide_eq_true (by first|(with_reducible assumption)|assumption);obtain ⟨kH,VI,Wr⟩:=Kd.Ef (Kd.Tb jh.out).2.2 ie ju fu;obtain rfl:Nj=kH:=(by injection VI);replace ju:=eq_true ju;replace fu:=eq_true fu;have lI:0 ≤ ((rd t108 ie):Int):=of_decide_eq_true (by first|(with_reducible assumption)|assumption);have dI:(rd t108 ie) < (tj.length:Int):=of_decide_eq_true (by first|(with_reducible assumption)|assumption);obtain ⟨sQ,ZZ,Lm⟩:=Kd.Xj (Kd.Tb Lc.out).2.2 (rd t108 ie) lI dI;(try rw [← qX.out] at Lm);obtain rfl:(⟨JI,0,none⟩:Addr)=sQ:=(by injection ZZ);(first|simp only [add_plain] at Lm|simp only [Fp] at Lm|simp only [Addr.add,Nat.zero_add] at Lm|skip);replace lI:=eq_true lI;replace dI:=eq_true dI;have EY:0 ≤ (ie:Int):=of_decide_eq_true (by first|(with_reducible assumption)|assumption);have CY:ie < (t108.length:Int):=of_decide_eq_true (by first|(with_reducible assumption)|assumption);obtain ⟨Gab,zao,Lad⟩:=Kd.Ef (Kd.Tb jh.out).2.2 ie EY CY;obtain rfl:Nj=Gab:=(by injection zao);replace EY:=eq_true EY;replace CY:=eq_true CY;have p32:0 ≤ ((rd t108 ie):Int):=of_decide_eq_true (by first|(with_reducible assumption)|assumption);have q32:((rd t108 ie):Int) < ((tj.length:Int):Int):=of_decide_eq_true (by first|(with_reducible assumption)|assumption);obtain ⟨ham,xan⟩:=Kd.gh false Lc.out ((rd t108 ie):Int) p32 q32;replace p32:=eq_true p32;replace q32:=eq_true q32;have R3:=Kd.Cl Lc.out ((rd t108 ie):Int) true;go_wp2_with (first|((with_reducible refine Xe (t:=4) (p:=56) rfl ?_);refine Ae (t:=4) (p:=56) (v:=?sal) (w1:=(wr.setCell ⟨JI,((rd t108 ie):Int).toNat,none⟩ (.bool true))) ?hg ?ho ?hn ?hr ?_;(case ho=>rfl);(case hg=>rfl);(case hn=>rfl);(case hr=>first|(go_simp;done)|(go_simp;rfl));intro jC hw;have hg:wr.grownBy jC (some JI):=(by rw [hw];exact R3.2);have Tk:Kd.R Kd.bool 4 jC w0.heap.size (fun k_=>(Ot k_ ∨ w.heap.size ≤ k_)) (.slice (some ⟨JI,0,none⟩) tj.length L0) Ou:=(by rw [hw,eM.out];exact R3.1);clear R3;have Fb:=ga.mk (Tk);have Lb:=ga.mk (Kd.zV (v:=(.slice (some ⟨JI,0,none⟩) tj.length L0)) (by (with_reducible repeat (first|apply Kd.Ah|apply Kd.zh|apply Kd.ai));exact Yk.out) (Kd.Yj Lc.out) (by decide) hg);have Vb:=ga.mk (Kd.Zj (v:=(.slice (some ⟨JI,0,none⟩) tj.length L0)) (by (with_reducible repeat (first|apply Kd.Xa|apply Kd.Wa|apply Kd.yb));exact jh.out) (Kd.Yj Lc.out) (by decide) hg);have Bc:=ga.mk (wg (g:=za) (o:=.cells #[.slice xb Oa.length qb,.int .i64 La,.int .i64 Pa,.int .i64 Ja,.slice (some Yo) Fa.length Gb] 45 (0,0)) (by (with_reducible repeat (first|refine Ca ?_ _|refine Ea ?_|refine Da ?_ _));exact ta.out) hg (Kd.Nt Lc.out ta.out (by decide)));have Ge:=ga.mk ((by rw [hw];exact ua (HB.out) GB7.out:Below w0.heap.size w0 jC));have Zf:=ga.mk (Kept.Dg (S:=(fun k_=>Ot k_)) hg (by repeat (first|(with_reducible first|exact HK.out|apply Kept.alloc|apply Kept.drewN|apply Kept.drew|refine Kept.setCell ?_ (.inr ye.out) _)|exact HK.out)) (fun k_ e_=>(Lc.out.1 k_ e_)));clear Lc Yk jh ta HB HK;have Lc:=Fb;have Yk:=Lb;have jh:=Vb;have ta:=Bc;have HB:=Ge;have HK:=Zf;clear Fb Lb Vb Bc Ge Zf hg hw Tk;have DY:0 ≤ (ie:Int):=of_decide_eq_true (by first|(with_reducible assumption)|assumption);have AY:ie < (t108.length:Int):=of_decide_eq_true (by first|(with_reducible assumption)|assumption);obtain ⟨Fab,yao,Kad⟩:=Kd.Ef (Kd.Tb jh.out).2.2 ie DY AY;obtain rfl:Nj=Fab:=(by injection yao);replace DY:=eq_true DY;replace AY:=eq_true AY)|((with_reducible refine fh (b:=.append) (xs:=#[.tmp 57,.tmp 62]) rfl ?_);at_builtin;refine Kd.pH (Kd.int .i64) (w0:=w0) w0.heap.size rfl (.tmp 57) (.tmp 62) 22 3 (.int .i64 0) 8 rfl Try.underlying22 info3 rfl (by decide) (by omega) u8 ze (rd t108 ie) [.int .i64 (rd t108 ie)] (fun k_=>(Ot k_ ∨ w.heap.size ≤ k_)∧some k_ ≠ (.slice (some Nj) t108.length Gao:Value).ownBlock) (fun _=>False) rfl rfl ?aP (fun _ hk=>hk.elim) ?aF ?aO ?aB ?aS ?aL ?_;(case aP=>exact rfl);(case aB=>exact (by repeat (first|(with_reducible first|exact HB.out|apply oa|apply ia|apply qa|refine ua ?_ Sa.out)|exact HB.out)));(case aF=>exact (fun k_ hk=>⟨(.inr (Nat.le_trans (by first|exact HK.out.1|exact (show Kept w _ (fun k_=>Ot k_) from by repeat (first|(with_reducible first|exact HK.out|apply Kept.alloc|apply Kept.drewN|apply Kept.drew|refine Kept.setCell ?_ (.inr ye.out) _)|exact HK.out)).1) hk)),Kd.fresh' (Kd.Mn (by (with_reducible repeat (first|apply Kd.Xa|apply Kd.Wa|apply Kd.yb));exact jh.out)) k_ hk⟩));(case aO=>exact (by (with_reducible repeat (first|apply Kd.Ah|apply Kd.zh|apply Kd.ai));exact Yk.out));(case aS=>exact (Ka (by repeat (first|(with_reducible first|exact HB.out|apply oa|apply ia|apply qa|refine ua ?_ Sa.out)|exact HB.out))));(case aL=>have:=cac.out;omega);intro Oau hY ho hb hg hat;rw [← Vab.out] at ho;have Fb:=ga.mk (Kd.Zj (by (with_reducible repeat (first|apply Kd.Xa|apply Kd.Wa|apply Kd.yb));exact Lc.out) (Kd.yV (by (with_reducible repeat (first|apply Kd.Ah|apply Kd.zh|apply Kd.ai));exact Yk.out)) (by decide) hg);have Lb:=ga.mk (Kd.yh (ok:=(fun k_=>(Ot k_ ∨ w.heap.size ≤ k_))) (by (with_reducible repeat (first|apply Kd.Xa|apply Kd.Wa|apply Kd.yb));exact jh.out) hg hat);have Vb:=ga.mk (wg (g:=za) (o:=.cells #[.slice xb Oa.length qb,.int .i64 La,.int .i64 Pa,.int .i64 Ja,.slice (some Yo) Fa.length Gb] 45 (0,0)) (by (with_reducible repeat (first|refine Ca ?_ _|refine Ea ?_|refine Da ?_ _));exact ta.out) hg (Kd.Qab Yk.out ta.out (by decide)));have Bc:=ga.mk (hb);have Ge:=ga.mk (Kept.Dg (S:=(fun k_=>Ot k_)) hg (by repeat (first|(with_reducible first|exact HK.out|apply Kept.alloc|apply Kept.drewN|apply Kept.drew|refine Kept.setCell ?_ (.inr ye.out) _)|exact HK.out)) (fun k_ e_=>(Yk.out.1 k_ e_).1));have Zf:=ga.mk (ho);clear Lc jh ta HB HK Yk;have Lc:=Fb;have jh:=Lb;have ta:=Vb;have HB:=Bc;have HK:=Ge;have Iac:=Zf;clear Fb Lb Vb Bc Ge Zf ho hb hg hat));(try simp only [← ij])
                   go_roundg k2
                   case measure=>have:=Gf.out;have:=Fm.out;omega
                   case rel=>exact ⟨(Ou),(I5),(wrap64 (ie + 1)),(by first|rfl|(simp;done)|(simp [*];done)),H',⟨by have:=Gf.out;have:=Fm.out;omega⟩,⟨by (try simp only [Ti]);(try simp only [ij]);(with_reducible repeat (first|apply Kd.Xa|apply Kd.Wa|apply Kd.yb));exact Lc.out⟩,⟨by (try simp only [Ti]);(try simp only [ij]);(with_reducible repeat (first|apply Kd.Ah|apply Kd.zh|apply Kd.ai));exact Iac.out⟩,⟨by (try simp only [Ti]);(try simp only [ij]);(with_reducible repeat (first|apply Kd.Xa|apply Kd.Wa|apply Kd.yb));exact jh.out⟩,⟨by (try simp only [Ti]);(try simp only [ij]);(with_reducible repeat (first|refine Ca ?_ _|refine Ea ?_|refine Da ?_ _));exact ta.out⟩,⟨by repeat (first|(with_reducible first|exact HK.out|apply Kept.alloc|apply Kept.drewN|apply Kept.drew|refine Kept.setCell ?_ (.inr ye.out) _)|exact HK.out)⟩,⟨by repeat (first|(with_reducible first|exact HB.out|apply oa|apply ia|apply qa|refine ua ?_ Sa.out)|exact HB.out)⟩⟩
                  ·rw [if_neg dH] at H;exact absurd H (by simp)
                ·rw [if_neg Qw] at H;exact absurd H (by simp)
               ·rw [if_neg wF] at H;exact absurd H (by simp)
             ·rw [if_neg ZE] at H;exact absurd H (by simp)
            ·rw [if_neg Fx] at H;have EA:decide (ie < (t108.length:Int))=false:=decide_eq_false Fx;clear Fx;have H':=ga.mk H;clear H;obtain ⟨zH,ZG,SZ⟩:=Kd.Jd jh.out;subst SZ;go_wp2;(try simp only [← Ti,← ij])
             go_roundg k2
             case measure=>have:=Gf.out;have:=Fm.out;omega
             case rel=>exact ⟨(tj),(ze),H',⟨by have:=Gf.out;have:=Fm.out;omega⟩,⟨by (try simp only [Ti]);(try simp only [ij]);(with_reducible repeat (first|apply Kd.Xa|apply Kd.Wa|apply Kd.yb));exact Lc.out⟩,⟨by (try simp only [Ti]);(try simp only [ij]);(with_reducible repeat (first|apply Kd.Ah|apply Kd.zh|apply Kd.ai));exact Kd.Gq Yk.out (fun _ hk=>hk.1)⟩,⟨by (try simp only [Ti]);(try simp only [ij]);(with_reducible repeat (first|refine Ca ?_ _|refine Ea ?_|refine Da ?_ _));exact ta.out⟩,⟨by repeat (first|(with_reducible first|exact HK.out|apply Kept.alloc|apply Kept.drewN|apply Kept.drew|refine Kept.setCell ?_ (.inr ye.out) _)|exact HK.out)⟩,⟨by repeat (first|(with_reducible first|exact HB.out|apply oa|apply ia|apply qa|refine ua ?_ Sa.out)|exact HB.out)⟩⟩
         ·rw [if_neg Kr] at H;exact absurd H (by simp)
        ·rw [if_neg xy] at H;exact absurd H (by simp)
       ·rw [if_neg vN] at H;exact absurd H (by simp)
      ·rw [if_neg yy] at H;exact absurd H (by simp)
     ·rw [if_neg XA] at H;have TB:decide (0 < (me.length:Int))=false:=decide_eq_false XA;have dX:decide (0 < me.length)=false:=decide_eq_false (by omega);clear XA;obtain rfl:=Option.some.inj H;obtain ⟨uap,Fao,RZ,_⟩:=Kd.Ww Yk.out;subst RZ;go_wp2
      first|go_end0|((try simp only [Exit.inBlock,Exit.then]);refine bodyPost_ret (results_none rfl _ _ _) rfl ?_)
      exact ⟨by first|rfl|(simp [Na,Ma] <;> rfl)|(simp [*,Na,Ma] <;> rfl),(by first|exact (by (with_reducible repeat (first|apply Kd.Xa|apply Kd.Wa|apply Kd.yb));exact Lc.out)|(simp only [Ti];exact (by (with_reducible repeat (first|apply Kd.Xa|apply Kd.Wa|apply Kd.yb));exact Lc.out))),by repeat (first|(with_reducible first|exact HB.out|apply oa|apply ia|apply qa|refine ua ?_ Sa.out)|exact HB.out),by repeat (first|(with_reducible first|exact HK.out|apply Kept.alloc|apply Kept.drewN|apply Kept.drew|refine Kept.setCell ?_ (.inr ye.out) _)|exact HK.out)⟩
  ·rw [if_neg c6] at H;exact absurd H (by simp)
 ·rw [if_neg c5] at H;exact absurd H (by simp)
def td.l0:Nat→Int→List Int→Int→Option (List Int)
 | 0,_,_,_=>none
 | k + 1,x0,x3,x4=>if x4 < x0 then (if x3.length < 17592186044416 then (td.l0 k x0 (x3 ++ [0]) (wrap64 (x4 + 1))) else (none)) else (some x3)
def td.f (k:Nat) (a0:Int):Option (List Int):=td.l0 k a0 (([]:List Int)) 0
theorem td.calls (k:Nat) (a0:Int) (r:List Int) (w:World) (h:td.f k a0=some r) :
  Calls Try.prog 90 #[.int .i64 a0] w fun e w'=>∃ vn:Value,e = .returned (vn)∧Kd.R (Kd.int .i64) 3 w' w.heap.size (fun _=>True) vn r∧Below w.heap.size w w':=by
 have HB:=ga.mk (Below.refl w.heap.size w);have H:(td.l0 k a0 (([]:List Int)) 0)=some r:=h;clear h;obtain ⟨Mf,Tf⟩:∃ y_:List Int,y_=(([]:List Int)):=⟨_,rfl⟩;replace H:(td.l0 k a0 Mf 0)=some r:=by first|(rw [Tf];with_reducible exact H)|(have Md:=(Option.bind_some _ _).symm.trans H;rw [Tf];with_reducible exact Md)|(have Md:=(Option.bind_some _ _).symm.trans H;with_reducible exact Md)|with_reducible exact H|(rw [Tf];exact H)|exact H
 have Sj:=ga.mk Tf;clear Tf;have H':=ga.mk H;clear H;go_enter Try.func90,Try.ntmps90;go_wp2_with (first|((with_reducible refine Db (N:=5) rfl ?_);refine Kd.vl (Kd.int .i64) _ 3 ?hg (N:=5) ?hd (xs:=([]:List Int)) (inner:=[]) (ok:=fun _=>True) (Gh:=fun _=>True) ?hr ?hp (fun _ hk=>hk) trivial (Below.refl _ _) (Nat.le_refl _) (by simp) ?_;(case hd=>rfl);(case hg=>rfl);(case hr=>first|(go_simp;done)|(go_simp;rfl));(case hp=>exact (Ld.none _ _));intro CF w2 eZ hb um Df;clear um Df;(first|rw [← Sj.out] at eZ|(simp only [Int.reduceToNat] at eZ;rw [← Sj.out] at eZ));have Fb:=ga.mk (Kd.Qe eZ (Ka (by repeat (first|(with_reducible first|exact HB.out|apply oa|apply ia|apply qa)|exact HB.out))));have Lb:=ga.mk (Qa (by repeat (first|(with_reducible first|exact HB.out|apply oa|apply ia|apply qa)|exact HB.out)) hb);clear HB;have Pp:=Fb;have HB:=Lb;clear Fb Lb hb eZ))
 go_loopg [3,4] k (fun kq v3 v4 w'=>∃ (Fc:List Int) (Yb:Int),v4 = .int .i64 Yb∧ga (td.l0 kq a0 Fc Yb=some r)∧ga (kq ≤ k)∧ga (Kd.R (Kd.int .i64) 3 w' w.heap.size (fun _=>True) v3 Fc)∧ga (Below w.heap.size w w'))
 case atStart=>exact ⟨(Mf),(0),(by first|rfl|(simp;done)|(simp [*];done)),H',⟨Nat.le_refl _⟩,⟨by (with_reducible repeat (first|apply Kd.Xa|apply Kd.Wa|apply Kd.yb));exact Pp.out⟩,⟨by repeat (first|(with_reducible first|exact HB.out|apply oa|apply ia|apply qa)|exact HB.out)⟩⟩
 case round =>
  clear H'
  try clear p2
  (try clear HA);(try clear Gf);(try clear Lc);(try clear HB);obtain ⟨Fc,Yb,rfl,HA,Gf,Lc,HB⟩:=hrel;cases gk with
  | zero=>exact absurd HA.out (by simp [td.l0])
  | succ k1 =>
   have H:=HA.out;clear HA;simp only [td.l0] at H
   by_cases c4:Yb < a0
   ·rw [if_pos c4] at H;have Aj:decide (Yb < a0)=true:=decide_eq_true c4;clear c4
    by_cases c5:Fc.length < 17592186044416
    ·rw [if_pos c5] at H;have Mao:=ga.mk c5;clear c5;obtain ⟨Lf,Vl⟩:∃ y_:List Int,y_=(Fc ++ [0]):=⟨_,rfl⟩;replace H:(td.l0 k1 a0 Lf (wrap64 (Yb + 1)))=some r:=by first|(rw [Vl];with_reducible exact H)|(have Md:=(Option.bind_some _ _).symm.trans H;rw [Vl];with_reducible exact Md)|(have Md:=(Option.bind_some _ _).symm.trans H;with_reducible exact Md)|with_reducible exact H|(rw [Vl];exact H)|exact H
     have tH:=ga.mk Vl;clear Vl;have H':=ga.mk H;clear H;go_wp2_with (first|((with_reducible refine fh (b:=.append) (xs:=#[.tmp 11,.tmp 12]) rfl ?_);at_builtin;refine Kd.Lr (Kd.int .i64) (w0:=w) w.heap.size rfl (.tmp 11) (.tmp 12) 22 3 (.int .i64 0) 8 rfl Try.underlying22 info3 rfl (by decide) (by omega) u3 Fc 0 [.int .i64 0] (fun _=>True) (fun _=>False) rfl rfl ?aP (fun _ hk=>hk.elim) ?aF ?aO ?aB ?aS ?aL ?_;(case aP=>exact rfl);(case aB=>exact (by repeat (first|(with_reducible first|exact HB.out|apply oa|apply ia|apply qa)|exact HB.out)));(case aF=>exact (fun _ _=>trivial));(case aO=>exact (by (with_reducible repeat (first|apply Kd.Xa|apply Kd.Wa|apply Kd.yb));exact Lc.out));(case aS=>exact (Ka (by repeat (first|(with_reducible first|exact HB.out|apply oa|apply ia|apply qa)|exact HB.out))));(case aL=>have:=Mao.out;omega);intro v105 w6 ho hb hg hat;rw [← tH.out] at ho;have Fb:=ga.mk (hb);have Lb:=ga.mk (ho);clear HB Lc;have HB:=Fb;have bu:=Lb;clear Fb Lb ho hb hg hat))
     go_roundg k1
     case measure=>have:=Gf.out;omega
     case rel=>exact ⟨(Lf),(wrap64 (Yb + 1)),(by first|rfl|(simp;done)|(simp [*];done)),H',⟨by have:=Gf.out;omega⟩,⟨by (with_reducible repeat (first|apply Kd.Xa|apply Kd.Wa|apply Kd.yb));exact bu.out⟩,⟨by repeat (first|(with_reducible first|exact HB.out|apply oa|apply ia|apply qa)|exact HB.out)⟩⟩
    ·rw [if_neg c5] at H;exact absurd H (by simp)
   ·rw [if_neg c4] at H;have Aj:decide (Yb < a0)=false:=decide_eq_false c4;clear c4;obtain rfl:=Option.some.inj H;go_wp2;go_ret;exact ⟨_,by first|rfl|(simp [Na,Ma] <;> rfl)|(simp [*,Na,Ma] <;> rfl),by (with_reducible repeat (first|apply Kd.Xa|apply Kd.Wa|apply Kd.yb));exact Lc.out,by repeat (first|(with_reducible first|exact HB.out|apply oa|apply ia|apply qa)|exact HB.out)⟩
mutual
def Ib.l0:Nat→List Int→List Int→List Int→List Int→Int→Int→Int→List (zf)→Option (List Int)
 | 0,_,_,_,_,_,_,_,_=>none
 | k + 1,x3,x4,x5,Tc,Uc,Sc,Rc,Zb=>if (x5.length:Int) > 0 then (if 0 < (x5.length:Int) then (if 0 ≤ (rd x5 0) then (if (rd x5 0) < (Zb.length:Int) then ((Hg.f ((Ta Zb (rd x5 0)).f0) ((Ta Zb (rd x5 0)).f1) ((Ta Zb (rd x5 0)).f2) ((Ta Zb (rd x5 0)).f3) ((Ta Zb (rd x5 0)).f4)).bind fun t115=>(if 1 ≤ (x5.length:Int) then (Ib.l1 k x3 x4 (x5.drop (1:Int).toNat) t115 0 Tc Uc Sc Rc Zb) else (none))) else (none)) else (none)) else (none)) else (Ib.l2 k x3 x4 0)
def Ib.l1:Nat→List Int→List Int→List Int→List Int→Int→List Int→Int→Int→Int→List (zf)→Option (List Int)
 | 0,_,_,_,_,_,_,_,_,_,_=>none
 | k + 1,x3,x4,x5,x6,x7,Tc,Uc,Sc,Rc,Zb=>if x7 < (x6.length:Int) then (if 0 ≤ x7 then (if 0 ≤ (rd x6 x7) then (if (rd x6 x7) < (x4.length:Int) then (if (rd x4 (rd x6 x7))=0 then (if x5.length < 17592186044416 then (Ib.l1 k x3 (x4.set ((rd x6 x7):Int).toNat 1) (x5 ++ [rd x6 x7]) x6 (wrap64 (x7 + 1)) Tc Uc Sc Rc Zb) else (none)) else (Ib.l1 k x3 x4 x5 x6 (wrap64 (x7 + 1)) Tc Uc Sc Rc Zb)) else (none)) else (none)) else (none)) else (Ib.l0 k x3 x4 x5 Tc Uc Sc Rc Zb)
def Ib.l2:Nat→List Int→List Int→Int→Option (List Int)
 | 0,_,_,_=>none
 | k + 1,x3,x4,x8=>if x8 < (x4.length:Int) then (if 0 ≤ x8 then (if (rd x4 x8)=1 then (if x3.length < 17592186044416 then (Ib.l2 k (x3 ++ [x8]) x4 (wrap64 (x8 + 1))) else (none)) else (Ib.l2 k x3 x4 (wrap64 (x8 + 1)))) else (none)) else (some x3)
end
def Ib.f (k:Nat) (Oa:List Int) (La:Int) (Pa:Int) (Ja:Int) (Fa:List (zf)):Option (List Int):=(some (([]:List Int):List Int)).bind fun Yd=>((Ua.f k Oa La Pa Ja Fa).bind fun t105=>(if t105=true then ((td.f k (Fa.length:Int)).bind fun t106=>(if 0 < (t106.length:Int) then (Ib.l0 k Yd (t106.set (0:Int).toNat 1) (([0]:List Int)) Oa La Pa Ja Fa) else (none))) else (some Yd)))
def Ib.T8:Bool × List (List Nat × List Nat):=(true,[([],[]),([0],[0]),([],[]),([2],[2]),([3],[3]),([1,4],[1,4]),([5],[5]),([6],[6]),([7,7,0,1,2,3,4,5,6,7],[7])])
def Ib.B8:List Nat:=[0,1,0,4,12,31,63,127,255]
theorem Ib.Gal:yl .any (opsOf Try.f68 8)=Ib.T8:=by kernel_rfl
theorem Ib.Aab:vk Ib.T8.2 Ib.B8=true:=by kernel_rfl
theorem Ib.calls (k:Nat) (xb:Option Addr) (qb:Nat) (Oa:List Int) (La:Int) (Pa:Int) (Ja:Int) (Pb:Option Addr) (Gb:Nat) (Fa:List (zf)) (r:List Int) (w:World) (xe:Kd.C (Kd.int .i64) w xb Oa.length Oa) (we:Oa.length ≤ qb) (Wf:Kd.C Bp w Pb Fa.length Fa) (Uf:Fa.length ≤ Gb) (h:Ib.f k Oa La Pa Ja Fa=some r) :
  Calls Try.prog 68 #[.agg #[.slice xb Oa.length qb,.int .i64 La,.int .i64 Pa,.int .i64 Ja,.slice Pb Fa.length Gb]] w fun e w'=>∃ vn:Value,e = .returned (vn)∧Kd.R (Kd.int .i64) 3 w' w.heap.size (fun _=>True) vn r∧Below w.heap.size w w':=by
 have mA:=Try.underlying45;have kA:=Try.underlying83;have Ue:=ga.mk xe;have af:=ga.mk we;clear xe we;have ng:=ga.mk Wf;have Xg:=ga.mk Uf;clear Wf Uf;have HB:=ga.mk (Below.refl w.heap.size w);have H:((some (([]:List Int):List Int)).bind fun Yd=>((Ua.f k Oa La Pa Ja Fa).bind fun t105=>(if t105=true then ((td.f k (Fa.length:Int)).bind fun t106=>(if 0 < (t106.length:Int) then (Ib.l0 k Yd (t106.set (0:Int).toNat 1) (([0]:List Int)) Oa La Pa Ja Fa) else (none))) else (some Yd))))=some r:=h;clear h;obtain ⟨Yd,Rf⟩:∃ y_:List Int,y_=(([]:List Int)):=⟨_,rfl⟩;replace H:((Ua.f k Oa La Pa Ja Fa).bind fun t105=>(if t105=true then ((td.f k (Fa.length:Int)).bind fun t106=>(if 0 < (t106.length:Int) then (Ib.l0 k Yd (t106.set (0:Int).toNat 1) (([0]:List Int)) Oa La Pa Ja Fa) else (none))) else (some Yd)))=some r:=by first|(rw [Rf];with_reducible exact H)|(have Md:=(Option.bind_some _ _).symm.trans H;rw [Rf];with_reducible exact Md)|(have Md:=(Option.bind_some _ _).symm.trans H;with_reducible exact Md)|with_reducible exact H|(rw [Rf];exact H)|exact H
 have ki:=ga.mk Rf;clear Rf;replace H:=Option.bind_eq_some_iff.mp H;obtain ⟨t105,sF,H⟩:=H;replace H:(if t105=true then ((td.f k (Fa.length:Int)).bind fun t106=>(if 0 < (t106.length:Int) then (Ib.l0 k Yd (t106.set (0:Int).toNat 1) (([0]:List Int)) Oa La Pa Ja Fa) else (none))) else (some Yd))=some r:=H;have A2:=ga.mk sF;clear sF
 by_cases c3:t105=true
 ·subst c3;have H1:((td.f k (Fa.length:Int)).bind fun t106=>(if 0 < (t106.length:Int) then (Ib.l0 k Yd (t106.set (0:Int).toNat 1) (([0]:List Int)) Oa La Pa Ja Fa) else (none)))=some r:=by rw [if_pos rfl] at H;exact H
  clear H;have H:=H1;clear H1;replace H:=Option.bind_eq_some_iff.mp H;obtain ⟨t106,AH,H⟩:=H;replace H:(if 0 < (t106.length:Int) then (Ib.l0 k Yd (t106.set (0:Int).toNat 1) (([0]:List Int)) Oa La Pa Ja Fa) else (none))=some r:=H;have A4:=ga.mk AH;clear AH
  by_cases c5:0 < (t106.length:Int)
  ·rw [if_pos c5] at H;have Al:decide (0 < (t106.length:Int))=true:=decide_eq_true c5;have Ex:decide (0 < t106.length)=true:=decide_eq_true (by omega);clear c5;obtain ⟨Lz,Ul⟩:∃ y_:List Int,y_=(t106.set (0:Int).toNat 1):=⟨_,rfl⟩;replace H:(Ib.l0 k Yd Lz (([0]:List Int)) Oa La Pa Ja Fa)=some r:=by first|(rw [Ul];with_reducible exact H)|(have Md:=(Option.bind_some _ _).symm.trans H;rw [Ul];with_reducible exact Md)|(have Md:=(Option.bind_some _ _).symm.trans H;with_reducible exact Md)|with_reducible exact H|(rw [Ul];exact H)|exact H
   have ZB:=ga.mk Ul;clear Ul;obtain ⟨CN,Dr⟩:∃ y_:List Int,y_=(([0]:List Int)):=⟨_,rfl⟩;replace H:(Ib.l0 k Yd Lz CN Oa La Pa Ja Fa)=some r:=by first|(rw [Dr];with_reducible exact H)|(have Md:=(Option.bind_some _ _).symm.trans H;rw [Dr];with_reducible exact Md)|(have Md:=(Option.bind_some _ _).symm.trans H;with_reducible exact Md)|with_reducible exact H|(rw [Dr];exact H)|exact H
   have sH:=ga.mk Dr;clear Dr;have H':=ga.mk H;clear H;go_enter Try.func68,Try.ntmps68;go_wp2_with (first|((with_reducible refine Db (N:=1) rfl ?_);refine Jb ?hg (N:=1) ?hd (cs:=#[.slice xb Oa.length qb,.int .i64 La,.int .i64 Pa,.int .i64 Ja,.slice Pb Fa.length Gb]) (t:=45) ?hr ?_;(case hd=>rfl);(case hg=>rfl);(case hr=>first|(go_simp;done)|(go_simp;rfl));intro za hg w7 Wb hb;have Fb:=ga.mk (Qa (by repeat (first|(with_reducible first|exact HB.out|apply oa|apply ia|apply qa)|exact HB.out)) hb);have Lb:=ga.mk (Wb);have Vb:=ga.mk ((by rw [hg];exact (Ka (by repeat (first|(with_reducible first|exact HB.out|apply oa|apply ia|apply qa)|exact HB.out))):w.heap.size ≤ za));have Bc:=ga.mk ((by rw [hg];exact (Ka (by repeat (first|(with_reducible first|exact HB.out|apply oa|apply ia|apply qa)|exact HB.out))):w.heap.size ≤ za));clear HB;have HB:=Fb;have ta:=Lb;have ye:=Vb;have Sa:=Bc;clear Fb Lb Vb Bc hb Wb hg)|((with_reducible refine Db (N:=9) rfl ?_);refine Kd.vl (Kd.int .i64) _ 3 ?hg (N:=9) ?hd (xs:=([]:List Int)) (inner:=[]) (ok:=fun _=>True) (Gh:=fun _=>True) ?hr ?hp (fun _ hk=>hk) trivial (Below.refl _ _) (Nat.le_refl _) (by simp) ?_;(case hd=>rfl);(case hg=>rfl);(case hr=>first|(go_simp;done)|(go_simp;rfl));(case hp=>exact (Ld.none _ _));intro Sh w8 MO hb um Df;clear um Df;(first|rw [← ki.out] at MO|(simp only [Int.reduceToNat] at MO;rw [← ki.out] at MO));have Fb:=ga.mk (Kd.Qe MO (Ka (by repeat (first|(with_reducible first|exact HB.out|apply oa|apply ia|apply qa|refine ua ?_ Sa.out)|exact HB.out))));have Lb:=ga.mk (Va (g:=za) (o:=.cells #[.slice xb Oa.length qb,.int .i64 La,.int .i64 Pa,.int .i64 Ja,.slice Pb Fa.length Gb] 45 (0,0)) (by (with_reducible repeat (first|refine Ca ?_ _|refine Ea ?_|refine Da ?_ _));exact ta.out) hb);have Vb:=ga.mk (Qa (by repeat (first|(with_reducible first|exact HB.out|apply oa|apply ia|apply qa|refine ua ?_ Sa.out)|exact HB.out)) hb);clear ta HB;have Ze:=Fb;have ta:=Lb;have HB:=Vb;clear Fb Lb Vb hb MO;have Ni:w8.cell? ⟨za,0,none⟩=some (.slice xb Oa.length qb):=(ja ta.out 0).trans rfl;have Mi:w8.cell? ⟨za,1,none⟩=some (.int .i64 La):=(ja ta.out 1).trans rfl;have Li:w8.cell? ⟨za,2,none⟩=some (.int .i64 Pa):=(ja ta.out 2).trans rfl;have Ki:w8.cell? ⟨za,3,none⟩=some (.int .i64 Ja):=(ja ta.out 3).trans rfl;have Ji:w8.cell? ⟨za,4,none⟩=some (.slice Pb Fa.length Gb):=(ja ta.out 4).trans rfl;have Ii:=aa ta.out 0;have Hi:=aa ta.out 1;have Gi:=aa ta.out 2;have Fi:=aa ta.out 3;have Ei:=aa ta.out 4)|((with_reducible refine zb (f:=66) rfl ?_);refine Dc (some 11) rfl rfl Try.func66 (by kernel_rfl) rfl #[.agg #[.slice xb Oa.length qb,.int .i64 La,.int .i64 Pa,.int .i64 Ja,.slice Pb Fa.length Gb]] rfl (by (try simp only [List.map_toArray,List.map_cons,List.map_nil]);first|done|rfl|(simp only [List.length_drop,List.length_take];rfl)) ?_;(with_reducible refine (Ua.calls k _ _ Oa La Pa Ja _ _ Fa true _ ?yc ?uc ?Ad ?yd A2.out).mono ?_);(case yc=>repeat (first|exact (Kd.Mb Ue.out HB.out)|(with_reducible refine Kd.Sb ?_ _)|(with_reducible refine Kd.Rb ?_ _)|(with_reducible refine Kd.jc ?_)));(case uc=>exact af.out);(case Ad=>repeat (first|exact (Kd.Mb ng.out HB.out)|(with_reducible refine Kd.Sb ?_ _)|(with_reducible refine Kd.Rb ?_ _)|(with_reducible refine Kd.jc ?_)));(case yd=>exact Xg.out);rintro e gj ⟨rfl,hb⟩;refine ⟨_,rfl,?_⟩;have Fb:=ga.mk (Kd.Xf (by (with_reducible repeat (first|apply Kd.Xa|apply Kd.Wa|apply Kd.yb));exact Ze.out) hb);have Lb:=ga.mk (Va (g:=za) (o:=.cells #[.slice xb Oa.length qb,.int .i64 La,.int .i64 Pa,.int .i64 Ja,.slice Pb Fa.length Gb] 45 (0,0)) (by (with_reducible repeat (first|refine Ca ?_ _|refine Ea ?_|refine Da ?_ _));exact ta.out) hb);have Vb:=ga.mk (Qa (by repeat (first|(with_reducible first|exact HB.out|apply oa|apply ia|apply qa|refine ua ?_ Sa.out)|exact HB.out)) hb);clear Ze ta HB;have Ze:=Fb;have ta:=Lb;have HB:=Vb;clear Fb Lb Vb;(try clear hb);(try clear Jj);(try clear hk);(try clear hi);have Vo:gj.cell? ⟨za,0,none⟩=some (.slice xb Oa.length qb):=(ja ta.out 0).trans rfl;have Uo:gj.cell? ⟨za,1,none⟩=some (.int .i64 La):=(ja ta.out 1).trans rfl;have Ro:gj.cell? ⟨za,2,none⟩=some (.int .i64 Pa):=(ja ta.out 2).trans rfl;have Qo:gj.cell? ⟨za,3,none⟩=some (.int .i64 Ja):=(ja ta.out 3).trans rfl;have Po:gj.cell? ⟨za,4,none⟩=some (.slice Pb Fa.length Gb):=(ja ta.out 4).trans rfl;have Io:=aa ta.out 0;have Ho:=aa ta.out 1;have Fo:=aa ta.out 2;have Eo:=aa ta.out 3;have Co:=aa ta.out 4)|((with_reducible refine zb (f:=90) rfl ?_);refine Dc (some 17) rfl rfl Try.func90 (by kernel_rfl) rfl #[.int .i64 (Fa.length:Int)] rfl (by (try simp only [List.map_toArray,List.map_cons,List.map_nil]);first|done|rfl|(simp only [List.length_drop,List.length_take];rfl)) ?_;(with_reducible refine (td.calls k (Fa.length:Int) t106 _ A4.out).mono ?_);rintro e vF ⟨v107,rfl,Zi,hb⟩;refine ⟨_,rfl,?_⟩;have Fb:=ga.mk (Kd.Wi (by (with_reducible repeat (first|apply Kd.Xa|apply Kd.Wa|apply Kd.yb));exact Ze.out) (Kd.xh Zi) hb);have Lb:=ga.mk (Kd.Qe (Kd.Xk Zi (Kd.Mn (by (with_reducible repeat (first|apply Kd.Xa|apply Kd.Wa|apply Kd.yb));exact Ze.out))) (Ka (by repeat (first|(with_reducible first|exact HB.out|apply oa|apply ia|apply qa|refine ua ?_ Sa.out)|exact HB.out))));have Vb:=ga.mk (Va (g:=za) (o:=.cells #[.slice xb Oa.length qb,.int .i64 La,.int .i64 Pa,.int .i64 Ja,.slice Pb Fa.length Gb] 45 (0,0)) (by (with_reducible repeat (first|refine Ca ?_ _|refine Ea ?_|refine Da ?_ _));exact ta.out) hb);have Bc:=ga.mk (Qa (by repeat (first|(with_reducible first|exact HB.out|apply oa|apply ia|apply qa|refine ua ?_ Sa.out)|exact HB.out)) hb);clear Ze ta HB;have Ze:=Fb;have jm:=Lb;have ta:=Vb;have HB:=Bc;clear Fb Lb Vb Bc;(try clear hb);(try clear Jj);(try clear hk);(try clear hi);(try clear Zi);have p6:0 ≤ (0:Int):=(by omega);have q6:(0:Int) < ((t106.length:Int):Int):=of_decide_eq_true (by first|(with_reducible assumption)|assumption);have qi6:(0 < t106.length)=True:=eq_true (by omega);obtain ⟨Hr,Nw,eo6,gb6,gl6,cl6,HG6⟩:=Kd.jk jm.out (by omega);(first|cases eo6|(injection eo6 with Uj sy uy;(first|subst Uj|(injection Uj with Uj;subst Uj));subst uy;clear sy));have GB6:=ga.mk gb6;have GG6:=ga.mk HG6;clear gb6 gl6 HG6;obtain ⟨IB,fP⟩:=Kd.gh 0 jm.out (0:Int) p6 q6;(try rw [show ((0:Int)).toNat=0 from rfl] at IB);(try simp only [Nat.reduceMul,Nat.zero_mul,Nat.zero_add,Nat.reduceAdd] at IB);(try rw [show ((0:Int)).toNat=0 from rfl] at fP);(try simp only [Nat.reduceMul,Nat.zero_mul,Nat.zero_add,Nat.reduceAdd] at fP);replace p6:=eq_true p6;replace q6:=eq_true q6;have n_:=ga.mk (Kd.Jc (Cn:=(fun k_=>some k_ ≠ (Sh:Value).ownBlock)) jm.out (fun k_ hk=>hk.2));clear jm;have jm:=n_;clear n_;obtain ⟨fW,eW⟩:=Kd.gh 0 jm.out (0:Int) (by omega) (of_decide_eq_true (by first|(with_reducible assumption)|assumption));(try simp only [Int.reduceToNat,Int.toNat_zero,Int.toNat_ofNat,Nat.reduceMul,Nat.zero_mul,Nat.zero_add] at fW eW);(try rw [show ((0:Int)).toNat=0 from rfl] at fW);(try rw [show ((0:Int)).toNat=0 from rfl] at eW);have uJ:=Kd.Cl jm.out (0:Int) 1)|((with_reducible refine Xe (t:=3) (p:=19) rfl ?_);refine Ae (t:=3) (p:=19) (v:=?kY) (w1:=(vF.setCell ⟨Hr,(0:Int).toNat,none⟩ (.int .i64 1))) ?hg ?ho ?hn ?hr ?_;(case ho=>rfl);(case hg=>rfl);(case hn=>rfl);(case hr=>first|(go_simp;done)|(go_simp;rfl));intro Gp hw;have hg:vF.grownBy Gp (some Hr):=(by rw [hw];exact uJ.2);have Tk:Kd.R (Kd.int .i64) 3 Gp w.heap.size (fun k_=>some k_ ≠ (Sh:Value).ownBlock) (.slice (some ⟨Hr,0,none⟩) t106.length Nw) Lz:=(by rw [hw,ZB.out];exact uJ.1);clear uJ;have Fb:=ga.mk (wg (g:=za) (o:=.cells #[.slice xb Oa.length qb,.int .i64 La,.int .i64 Pa,.int .i64 Ja,.slice Pb Fa.length Gb] 45 (0,0)) (by (with_reducible repeat (first|refine Ca ?_ _|refine Ea ?_|refine Da ?_ _));exact ta.out) hg (Kd.Nt jm.out ta.out (by decide)));have Lb:=ga.mk (Kd.yh (v:=(.slice (some ⟨Hr,0,none⟩) t106.length Nw)) (v1:=(.slice (some ⟨Hr,0,none⟩) t106.length Nw)) (ok:=(fun _=>True)) (by (with_reducible repeat (first|apply Kd.Xa|apply Kd.Wa|apply Kd.yb));exact Ze.out) hg (.inl rfl));have Vb:=ga.mk (Tk);have Bc:=ga.mk ((by rw [hw];exact ua (HB.out) GB6.out:Below w.heap.size w Gp));clear ta Ze jm HB;have ta:=Fb;have Ze:=Lb;have jm:=Vb;have HB:=Bc;clear Fb Lb Vb Bc hg hw Tk)|((with_reducible refine Db (N:=20) rfl ?_);refine Kd.vl (Kd.int .i64) _ 3 ?hg (N:=20) ?hd (xs:=([0]:List Int)) (inner:=[.int .i64 0]) (ok:=fun _=>True) (Gh:=fun _=>True) ?hr ?hp (fun _ hk=>hk) trivial (Below.refl _ _) (Nat.le_refl _) (by simp) ?_;(case hd=>rfl);(case hg=>rfl);(case hr=>first|(go_simp;done)|(go_simp;rfl));(case hp=>exact (Ld.one (show Kd.M (Kd.int .i64) _ _ _ 0 [.int .i64 0] from rfl) (Ld.none _ _)));intro Fal wB zI hb um Df;clear um Df;(first|rw [← sH.out] at zI|(simp only [Int.reduceToNat] at zI;rw [← sH.out] at zI));have Fb:=ga.mk (Kd.Wi (by (with_reducible repeat (first|apply Kd.Xa|apply Kd.Wa|apply Kd.yb));exact Ze.out) (Kd.xh zI) hb);have Lb:=ga.mk (Kd.Wi (by (with_reducible repeat (first|apply Kd.Xa|apply Kd.Wa|apply Kd.yb));exact jm.out) (Kd.xh zI) hb);have Vb:=ga.mk (Kd.Qe (Kd.Xk (Kd.Xk zI (Kd.Mn (by (with_reducible repeat (first|apply Kd.Xa|apply Kd.Wa|apply Kd.yb));exact Ze.out))) (Kd.Mn (by (with_reducible repeat (first|apply Kd.Xa|apply Kd.Wa|apply Kd.yb));exact jm.out))) (Ka (by repeat (first|(with_reducible first|exact HB.out|apply oa|apply ia|apply qa|refine ua ?_ Sa.out)|exact HB.out))));have Bc:=ga.mk (Va (g:=za) (o:=.cells #[.slice xb Oa.length qb,.int .i64 La,.int .i64 Pa,.int .i64 Ja,.slice Pb Fa.length Gb] 45 (0,0)) (by (with_reducible repeat (first|refine Ca ?_ _|refine Ea ?_|refine Da ?_ _));exact ta.out) hb);have Ge:=ga.mk (Qa (by repeat (first|(with_reducible first|exact HB.out|apply oa|apply ia|apply qa|refine ua ?_ Sa.out)|exact HB.out)) hb);clear Ze jm ta HB;have Ze:=Fb;have jm:=Lb;have OQ:=Vb;have ta:=Bc;have HB:=Ge;clear Fb Lb Vb Bc Ge hb zI))
   go_loopg [5] k (fun kq v5 w'=>∃ (Yb:List Int) (Aa:List Int),ga (Ib.l0 kq Yd Yb Aa Oa La Pa Ja Fa=some r)∧ga (kq ≤ k)∧ga (Kd.R (Kd.int .i64) 3 w' w.heap.size (fun k_=>some k_ ≠ ((.slice (some ⟨Hr,0,none⟩) t106.length Nw):Value).ownBlock∧some k_ ≠ (v5:Value).ownBlock) Sh Yd)∧ga (Kd.R (Kd.int .i64) 3 w' w.heap.size (fun k_=>some k_ ≠ (Sh:Value).ownBlock∧some k_ ≠ (v5:Value).ownBlock) (.slice (some ⟨Hr,0,none⟩) t106.length Nw) Yb)∧ga (Kd.Q (Kd.int .i64) 3 w' w.heap.size (fun k_=>some k_ ≠ (Sh:Value).ownBlock∧some k_ ≠ ((.slice (some ⟨Hr,0,none⟩) t106.length Nw):Value).ownBlock) v5 Aa)∧ga (w'.heap[za]? = some (.cells #[(.slice xb Oa.length qb),.int .i64 La,.int .i64 Pa,.int .i64 Ja,(.slice Pb Fa.length Gb)] 45 (0,0)))∧ga (Below w.heap.size w w'))
   case atStart=>exact ⟨(Lz),(CN),H',⟨Nat.le_refl _⟩,⟨by (with_reducible repeat (first|apply Kd.Xa|apply Kd.Wa|apply Kd.yb));exact Kd.Jc Ze.out (fun _ hk=>⟨hk.1.2,hk.2⟩)⟩,⟨by (with_reducible repeat (first|apply Kd.Xa|apply Kd.Wa|apply Kd.yb));exact jm.out⟩,⟨Kd.nJ (by (with_reducible repeat (first|apply Kd.Xa|apply Kd.Wa|apply Kd.yb));exact Kd.Jc OQ.out (fun _ hk=>⟨hk.1.2,hk.2⟩))⟩,⟨by (with_reducible repeat (first|refine Ca ?_ _|refine Ea ?_|refine Da ?_ _));exact ta.out⟩,⟨by repeat (first|(with_reducible first|exact HB.out|apply oa|apply ia|apply qa|refine ua ?_ Sa.out)|exact HB.out)⟩⟩
   case round =>
    clear H'
    try clear p2
    try clear c3
    try clear c5
    try clear Al
    try clear Ex
    try clear c6
    try clear p6
    try clear q6
    try clear zC
    try clear qi6
    try clear hf6
    try clear c9
    try clear Ni
    try clear Mi
    try clear Li
    try clear Ki
    try clear Ji
    try clear Vo
    try clear Uo
    try clear Ro
    try clear Qo
    try clear Po
    try clear Ii
    try clear Hi
    try clear Gi
    try clear Fi
    try clear Ei
    try clear Io
    try clear Ho
    try clear Fo
    try clear Eo
    try clear Co
    try clear IB
    try clear p6
    try clear q6
    (try clear HA);(try clear Gf);(try clear Lc);(try clear jd);(try clear Lg);(try clear ta);(try clear HB);obtain ⟨Yb,Aa,HA,Gf,Lc,jd,Lg,ta,HB⟩:=hrel;have Pg:=(Kd.Tb jd.out).1;rw [Pg] at jd;(try simp only [Pg]);(try simp only [Pg] at ta);(try simp only [Pg] at Lc);(try simp only [Pg] at Lg);cases gk with
    | zero=>exact absurd HA.out (by simp [Ib.l0])
    | succ k1 =>
     have H:=HA.out;clear HA;simp only [Ib.l0] at H
     by_cases Kr:(Aa.length:Int) > 0
     ·rw [if_pos Kr] at H;have Gn:decide (0 < (Aa.length:Int))=true:=decide_eq_true Kr;have Rw:decide (0 < Aa.length)=true:=decide_eq_true (by omega);clear Kr
      by_cases Mt:0 < (Aa.length:Int)
      ·rw [if_pos Mt] at H;have FA:decide (0 < (Aa.length:Int))=true:=decide_eq_true Mt;have UL:decide (0 < Aa.length)=true:=decide_eq_true (by omega);clear Mt
       by_cases bx:0 ≤ (rd Aa 0)
       ·rw [if_pos bx] at H;have lQ:decide (0 ≤ (rd Aa 0))=true:=decide_eq_true bx;clear bx
        by_cases Yx:(rd Aa 0) < (Fa.length:Int)
        ·rw [if_pos Yx] at H;have fH:decide ((rd Aa 0) < (Fa.length:Int))=true:=decide_eq_true Yx;clear Yx;replace H:=Option.bind_eq_some_iff.mp H;obtain ⟨t115,VQ,H⟩:=H;replace H:(if 1 ≤ (Aa.length:Int) then (Ib.l1 k1 Yd Yb (Aa.drop (1:Int).toNat) t115 0 Oa La Pa Ja Fa) else (none))=some r:=H;have dY:=ga.mk VQ;clear VQ
         by_cases Fx:1 ≤ (Aa.length:Int)
         ·rw [if_pos Fx] at H;have EA:=eq_true Fx;have eH:decide (1 ≤ (Aa.length:Int))=true:=decide_eq_true Fx;clear Fx;obtain ⟨Ou,Cr⟩:∃ y_:List Int,y_=(Aa.drop (1:Int).toNat):=⟨_,rfl⟩;replace H:(Ib.l1 k1 Yd Yb Ou t115 0 Oa La Pa Ja Fa)=some r:=by first|(rw [Cr];with_reducible exact H)|(have Md:=(Option.bind_some _ _).symm.trans H;rw [Cr];with_reducible exact Md)|(have Md:=(Option.bind_some _ _).symm.trans H;with_reducible exact Md)|with_reducible exact H|(rw [Cr];exact H)|exact H
          have eM:=ga.mk Cr;clear Cr;have H':=ga.mk H;clear H;obtain ⟨Qaw,bQ,gV,_⟩:=Kd.Ww Lg.out;subst gV
          try go_wp2
          have Fb:=ga.mk (Kd.yb Lc.out);have Lb:=ga.mk (Kd.yb jd.out);have Vb:=ga.mk (Kd.ai Lg.out);have Bc:=ga.mk (Ea ta.out);have Ge:=ga.mk (qa HB.out);clear Lc jd Lg ta HB;have Lc:=Fb;have jd:=Lb;have Lg:=Vb;have ta:=Bc;have HB:=Ge;clear Fb Lb Vb Bc Ge;have ux:0 ≤ (0:Int):=(by omega);have sx:0 < (Aa.length:Int):=of_decide_eq_true (by first|(with_reducible assumption)|assumption);obtain ⟨ay,TP,Ll⟩:=Kd.Ef (Kd.MA Lg.out).2.2 0 ux sx;cases TP;have Kap:(0 < Aa.length)=True:=eq_true (by omega);(try rw [show ((0:Int)).toNat=0 from rfl] at Ll);(try rw [Addr.add_zero'] at Ll);replace ux:=eq_true ux;replace sx:=eq_true sx;have kr:0 ≤ ((rd Aa 0):Int):=of_decide_eq_true (by first|(with_reducible assumption)|assumption);have ir:(rd Aa 0) < (Fa.length:Int):=of_decide_eq_true (by first|(with_reducible assumption)|assumption);obtain ⟨Nj,XQ,mQ,WI,Mm,js,Zr,Yr,Xr,bK,iK⟩:=ek ng.out (rd Aa 0) kr ir;have UJ:=Xr;have VJ:=Yr;have WJ:=Zr;have XJ:=js;have YJ:=Mm;cases WI;replace Mm:=Ra HB.out Mm;replace js:=Ra HB.out js;replace Zr:=Ra HB.out Zr;replace Yr:=Ra HB.out Yr;replace Xr:=Ra HB.out Xr;have iM:=ga.mk iK;have RV:=ga.mk bK;clear iK bK;replace kr:=eq_true kr;replace ir:=eq_true ir;refine xk (n:=9) (S:=fun w'=>w'.cell? ⟨za,0,none⟩=some (.slice xb Oa.length qb)∧w'.cell? ⟨za,1,none⟩=some (.int .i64 La)∧w'.cell? ⟨za,2,none⟩=some (.int .i64 Pa)∧w'.cell? ⟨za,3,none⟩=some (.int .i64 Ja)∧w'.cell? ⟨za,4,none⟩=some (.slice (some Nj) Fa.length Gb)∧w'.cell? ay=some (.int .i64 (rd Aa 0))∧w'.cell? (Nj.add (((rd Aa 0)).toNat * 5))=some (.slice XQ ((Ta Fa (rd Aa 0)).f0).length mQ)∧w'.cell? ⟨(Nj.add (((rd Aa 0)).toNat * 5)).block,(Nj.add (((rd Aa 0)).toNat * 5)).off + 1,none⟩=some (.int .i64 ((Ta Fa (rd Aa 0)).f1))∧w'.cell? ⟨(Nj.add (((rd Aa 0)).toNat * 5)).block,(Nj.add (((rd Aa 0)).toNat * 5)).off + 2,none⟩=some (.int .i64 ((Ta Fa (rd Aa 0)).f2))∧w'.cell? ⟨(Nj.add (((rd Aa 0)).toNat * 5)).block,(Nj.add (((rd Aa 0)).toNat * 5)).off + 3,none⟩=some (.int .i64 ((Ta Fa (rd Aa 0)).f3))∧w'.cell? ⟨(Nj.add (((rd Aa 0)).toNat * 5)).block,(Nj.add (((rd Aa 0)).toNat * 5)).off + 4,none⟩=some (.int .i64 ((Ta Fa (rd Aa 0)).f4))) (ds:=[]) #[false,false,false,false,false,false,false,false,false] (by kernel_rfl) rfl rfl ⟨(ja ta.out 0).trans rfl,(ja ta.out 1).trans rfl,(ja ta.out 2).trans rfl,(ja ta.out 3).trans rfl,(ja ta.out 4).trans rfl,Ll,(Ra HB.out YJ),(Ra HB.out XJ),(Ra HB.out WJ),(Ra HB.out VJ),(Ra HB.out UJ)⟩ (fun hHeld=>?_);refine Kh Ib.Gal Ib.Aab (fun Kf Hq=>?_);generalize wr.drew=jY at Lc jd Lg ta HB iM Ll Mm js Zr Yr Xr hHeld ⊢;refine od (i:=0) (N:=some 24) (v:=?_) (a':=?_) #[true,false,false,false,false,false,false,false,false] rfl rfl (Cc Kf.out (by kernel_rfl)) (fun _ _ _ h=>h) (Or.inl ⟨by rfl,?_⟩) ?_ ?_;rotate_left
          ·intro w';go_simp;with_reducible rfl
          rotate_left
          ·simp only [Act.put,List.setIfInBounds_toArray,List.set_cons_zero,List.set_cons_succ,dc,ec]
           rfl
          refine od (i:=2) (N:=some 26) (v:=?_) (a':=?_) #[true,false,true,false,false,false,false,false,false] rfl rfl (Cc Kf.out (by kernel_rfl)) (fun _ _ _ h=>h) (Or.inl ⟨by rfl,?_⟩) ?_ ?_;rotate_left
          ·intro w';go_simp;with_reducible rfl
          rotate_left
          ·simp only [Act.put,List.setIfInBounds_toArray,List.set_cons_zero,List.set_cons_succ,dc,ec]
           rfl
          refine od (i:=3) (N:=some 27) (v:=?_) (a':=?_) #[true,false,true,true,false,false,false,false,false] rfl rfl (Cc Kf.out (by kernel_rfl)) (fun _ _ _ h=>h) (Or.inl ⟨by rfl,?_⟩) ?_ ?_;rotate_left
          ·intro w';go_simp;with_reducible rfl
          rotate_left
          ·simp only [Act.put,List.setIfInBounds_toArray,List.set_cons_zero,List.set_cons_succ,dc,ec]
           rfl
          refine Ug (i:=1) (N:=some 25) (v:=?_) (a':=?_) #[true,true,true,true,false,false,false,false,false] rfl rfl (Te Kf.out Hq.out (by kernel_rfl)) (fun _ _ _ h=>h) (Or.inl ⟨by rfl,?_⟩) hHeld ?_ ?_;rotate_left
          ·rintro w' ⟨s0,s1,s2,s3,s4,s5,s6,s7,s8,s9,YH⟩;go_simp;with_reducible rfl
          rotate_left
          ·simp only [Act.put,List.setIfInBounds_toArray,List.set_cons_zero,List.set_cons_succ,dc,ec]
           rfl
          refine Ug (i:=4) (N:=some 28) (v:=?_) (a':=?_) #[true,true,true,true,true,false,false,false,false] rfl rfl (Te Kf.out Hq.out (by kernel_rfl)) (fun _ _ _ h=>h) (Or.inl ⟨by rfl,?_⟩) hHeld ?_ ?_;rotate_left
          ·rintro w' ⟨s0,s1,s2,s3,s4,s5,s6,s7,s8,s9,YH⟩;go_simp;with_reducible rfl
          rotate_left
          ·simp only [Act.put,List.setIfInBounds_toArray,List.set_cons_zero,List.set_cons_succ,dc,ec]
           rfl
          refine od (i:=5) (N:=some 29) (v:=?_) (a':=?_) #[true,true,true,true,true,true,false,false,false] rfl rfl (Cc Kf.out (by kernel_rfl)) (fun _ _ _ h=>h) (Or.inl ⟨by rfl,?_⟩) ?_ ?_;rotate_left
          ·intro w';go_simp;with_reducible rfl
          rotate_left
          ·simp only [Act.put,List.setIfInBounds_toArray,List.set_cons_zero,List.set_cons_succ,dc,ec]
           rfl
          refine Ug (i:=6) (N:=some 30) (v:=?_) (a':=?_) #[true,true,true,true,true,true,true,false,false] rfl rfl (Te Kf.out Hq.out (by kernel_rfl)) (fun _ _ _ h=>h) (Or.inl ⟨by rfl,?_⟩) hHeld ?_ ?_;rotate_left
          ·rintro w' ⟨s0,s1,s2,s3,s4,s5,s6,s7,s8,s9,YH⟩;go_simp;with_reducible rfl
          rotate_left
          ·simp only [Act.put,List.setIfInBounds_toArray,List.set_cons_zero,List.set_cons_succ,dc,ec]
           rfl
          refine Yu (i:=7) (N:=some 31) #[true,true,true,true,true,true,true,true,false] rfl rfl (qm Kf.out (by kernel_rfl)) (by decide) (fun K hK=>?_);refine Nq Try.func85 (by kernel_rfl) rfl #[.agg #[.slice XQ ((Ta Fa (rd Aa 0)).f0).length mQ,.int .i64 ((Ta Fa (rd Aa 0)).f1),.int .i64 ((Ta Fa (rd Aa 0)).f2),.int .i64 ((Ta Fa (rd Aa 0)).f3),.int .i64 ((Ta Fa (rd Aa 0)).f4)]] (by rfl) rfl rfl (by (try simp only [List.map_toArray,List.map_cons,List.map_nil]);first|done|rfl|(simp only [List.length_drop,List.length_take];rfl)) ?_;with_reducible refine (Hg.calls _ _ ((Ta Fa (rd Aa 0)).f0) ((Ta Fa (rd Aa 0)).f1) ((Ta Fa (rd Aa 0)).f2) ((Ta Fa (rd Aa 0)).f3) ((Ta Fa (rd Aa 0)).f4) t115 _ ?yc ?uc dY.out).mono ?_
          (case yc=>repeat (first|exact (Kd.Mb iM.out HB.out)|(with_reducible refine Kd.Sb ?_ _)|(with_reducible refine Kd.Rb ?_ _)|(with_reducible refine Kd.jc ?_)))
          (case uc=>exact RV.out)
          rintro e mm ⟨BF,rfl,Zi,hb⟩;have G3:=(hb.cell (World.block_lt_of_cell? _ _ (hHeld.2.2.2.2.2.1))).trans (hHeld.2.2.2.2.2.1);refine ⟨_,rfl,?_⟩;have Fb:=ga.mk (Kd.Wi (by (with_reducible repeat (first|apply Kd.Xa|apply Kd.Wa|apply Kd.yb));exact Lc.out) (Kd.xh Zi) hb);have Lb:=ga.mk (Kd.Wi (by (with_reducible repeat (first|apply Kd.Xa|apply Kd.Wa|apply Kd.yb));exact jd.out) (Kd.xh Zi) hb);have Vb:=ga.mk (Kd.oH (by (with_reducible repeat (first|apply Kd.Ah|apply Kd.zh|apply Kd.ai));exact Lg.out) (Kd.xh Zi) hb);have Bc:=ga.mk (Kd.Qe (Kd.Xk (Kd.Xk (Kd.Xk Zi (Kd.Mn (by (with_reducible repeat (first|apply Kd.Xa|apply Kd.Wa|apply Kd.yb));exact Lc.out))) (Kd.Mn (by (with_reducible repeat (first|apply Kd.Xa|apply Kd.Wa|apply Kd.yb));exact jd.out))) (Kd.Rab (by (with_reducible repeat (first|apply Kd.Ah|apply Kd.zh|apply Kd.ai));exact Lg.out))) (Ka (by repeat (first|(with_reducible first|exact HB.out|apply oa|apply ia|apply qa|refine ua ?_ Sa.out)|exact HB.out))));have Ge:=ga.mk (Va (g:=za) (o:=.cells #[.slice xb Oa.length qb,.int .i64 La,.int .i64 Pa,.int .i64 Ja,.slice (some Nj) Fa.length Gb] 45 (0,0)) (by (with_reducible repeat (first|refine Ca ?_ _|refine Ea ?_|refine Da ?_ _));exact ta.out) hb);have Zf:=ga.mk (Qa (by repeat (first|(with_reducible first|exact HB.out|apply oa|apply ia|apply qa|refine ua ?_ Sa.out)|exact HB.out)) hb);clear Lc jd Lg ta HB;have Lc:=Fb;have jd:=Lb;have Lg:=Vb;have nM:=Bc;have ta:=Ge;have HB:=Zf;clear Fb Lb Vb Bc Ge Zf;(try clear hb);(try clear Jj);(try clear hk);(try clear hi);(try clear Zi);refine hK.out _ _ ⟨(ja ta.out 0).trans rfl,(ja ta.out 1).trans rfl,(ja ta.out 2).trans rfl,(ja ta.out 3).trans rfl,(ja ta.out 4).trans rfl,G3,(Ra HB.out YJ),(Ra HB.out XJ),(Ra HB.out WJ),(Ra HB.out VJ),(Ra HB.out UJ)⟩ (fun hHeld=>?_);clear hK K;refine Wn (a':=?_) ?_ ?_;rotate_left
          ·show Act.put _ (some 31) _=_
           simp only [Act.put,List.setIfInBounds_toArray,List.set_cons_zero,List.set_cons_succ,dc,ec]
           rfl
          refine od (i:=8) (N:=some 6) (v:=?_) (a':=?_) #[true,true,true,true,true,true,true,true,true] rfl rfl (Cc Kf.out (by kernel_rfl)) (fun _ _ _ h=>h) (Or.inl ⟨by rfl,?_⟩) ?_ ?_;rotate_left
          ·intro w';go_simp;with_reducible rfl
          rotate_left
          ·simp only [Act.put,List.setIfInBounds_toArray,List.set_cons_zero,List.set_cons_succ,dc,ec]
           rfl
          refine Wo (Vj Kf.out (by kernel_rfl)) ?_;have n_:=ga.mk (Kd.Gq (Cn:=(fun k_=>some k_ ≠ (Sh:Value).ownBlock∧some k_ ≠ (.slice (some ⟨Hr,0,none⟩) Yb.length Nw:Value).ownBlock∧some k_ ≠ (BF:Value).ownBlock)) Lg.out (fun k_ hk=>⟨hk.1.1,⟨hk.1.2,hk.2⟩⟩));clear Lg;have Lg:=n_;clear n_;have zY:(1:Int) ≤ ((Aa.length:Int):Int):=of_decide_eq_true (by first|(with_reducible assumption)|assumption);obtain ⟨Xau,uW,_,jW,_⟩:=info_parts info3;have GZ:=XG (P:=Try.prog) 22 3 .i64 Try.underlying22 uW 1 jW (some ay) Aa.length bQ 1 (by omega) zY;have LO:=Kd.BQ (k:=(1:Int).toNat) Lg.out (by omega);obtain ⟨P4,dV⟩:∃ A1,A1=(if bQ=(1:Int).toNat then (some ay) else ((some ay):Option Addr).map (·.add ((1:Int).toNat * 1))):=⟨_,rfl⟩;obtain ⟨wF,JZ⟩:∃ c1,c1=bQ - (1:Int).toNat:=⟨_,rfl⟩;have MY:Ou.length=Aa.length - (1:Int).toNat:=(by rw [eM.out,List.length_drop]);rw [← eM.out] at LO;rw [← MY,← dV,← JZ] at GZ;replace LO:Kd.Q (Kd.int .i64) 3 mm w.heap.size (fun k_=>some k_ ≠ (Sh:Value).ownBlock∧some k_ ≠ (.slice (some ⟨Hr,0,none⟩) Yb.length Nw:Value).ownBlock∧some k_ ≠ (BF:Value).ownBlock) (.slice P4 Ou.length wF) Ou:=(by rw [dV,JZ,MY];exact LO);have I4:ga ((Value.slice P4 Ou.length wF).ownBlock=(.slice (some ay) Aa.length bQ:Value).ownBlock):=⟨by rw [dV];split <;> (cases ((some ay):Option Addr) <;> rfl)⟩;clear MY uW jW Lg dV JZ;have Jac:=ga.mk LO;clear LO;replace zY:=eq_true zY;have n_:=ga.mk (Kd.Jc (Cn:=fun k_=>((some k_ ≠ (.slice (some ⟨Hr,0,none⟩) Yb.length Nw:Value).ownBlock∧some k_ ≠ (.slice P4 Ou.length wF:Value).ownBlock)∧some k_ ≠ (BF:Value).ownBlock)) Lc.out (fun k_ hk=>⟨⟨hk.1.1,(by rw [I4.out];exact hk.1.2)⟩,hk.2⟩));clear Lc;have Lc:=n_;clear n_;have n_:=ga.mk (Kd.Jc (Cn:=fun k_=>((some k_ ≠ (Sh:Value).ownBlock∧some k_ ≠ (.slice P4 Ou.length wF:Value).ownBlock)∧some k_ ≠ (BF:Value).ownBlock)) jd.out (fun k_ hk=>⟨⟨hk.1.1,(by rw [I4.out];exact hk.1.2)⟩,hk.2⟩));clear jd;have jd:=n_;clear n_;have n_:=ga.mk (Kd.Jc (Cn:=fun k_=>(((True∧some k_ ≠ (Sh:Value).ownBlock)∧some k_ ≠ (.slice (some ⟨Hr,0,none⟩) Yb.length Nw:Value).ownBlock)∧some k_ ≠ (.slice P4 Ou.length wF:Value).ownBlock)) nM.out (fun k_ hk=>⟨⟨⟨trivial,hk.1.1.2⟩,hk.1.2⟩,(by rw [I4.out];exact hk.2)⟩));clear nM;have nM:=n_;clear n_
          try go_wp2
          go_loopg [5,7] k1 (fun kq v5 v7 w'=>∃ (Af:List Int) (ZA:List Int) (Qd:Int),v7 = .int .i64 Qd∧ga (Ib.l1 kq Yd Af ZA t115 Qd Oa La Pa Ja Fa=some r)∧ga (kq ≤ k1)∧ga (Kd.R (Kd.int .i64) 3 w' w.heap.size (fun k_=>some k_ ≠ ((.slice (some ⟨Hr,0,none⟩) Yb.length Nw):Value).ownBlock∧some k_ ≠ (v5:Value).ownBlock∧some k_ ≠ (BF:Value).ownBlock) Sh Yd)∧ga (Kd.R (Kd.int .i64) 3 w' w.heap.size (fun k_=>some k_ ≠ (Sh:Value).ownBlock∧some k_ ≠ (v5:Value).ownBlock∧some k_ ≠ (BF:Value).ownBlock) (.slice (some ⟨Hr,0,none⟩) Yb.length Nw) Af)∧ga (Kd.Q (Kd.int .i64) 3 w' w.heap.size (fun k_=>some k_ ≠ (Sh:Value).ownBlock∧some k_ ≠ ((.slice (some ⟨Hr,0,none⟩) Yb.length Nw):Value).ownBlock∧some k_ ≠ (BF:Value).ownBlock) v5 ZA)∧ga (Kd.R (Kd.int .i64) 3 w' w.heap.size (fun k_=>some k_ ≠ (Sh:Value).ownBlock∧some k_ ≠ ((.slice (some ⟨Hr,0,none⟩) Yb.length Nw):Value).ownBlock∧some k_ ≠ (v5:Value).ownBlock) BF t115)∧ga (w'.heap[za]? = some (.cells #[(.slice xb Oa.length qb),.int .i64 La,.int .i64 Pa,.int .i64 Ja,(.slice (some Nj) Fa.length Gb)] 45 (0,0)))∧ga (Below w.heap.size w w'))
          case atStart=>exact ⟨(Yb),(Ou),(0),(by first|rfl|(simp;done)|(simp [*];done)),H',⟨Nat.le_refl _⟩,⟨by (try simp only [Pg]);(with_reducible repeat (first|apply Kd.Xa|apply Kd.Wa|apply Kd.yb));exact Kd.Jc Lc.out (fun _ hk=>⟨hk.1.1,⟨hk.1.2,hk.2⟩⟩)⟩,⟨by (try simp only [Pg]);(with_reducible repeat (first|apply Kd.Xa|apply Kd.Wa|apply Kd.yb));exact Kd.Jc jd.out (fun _ hk=>⟨hk.1.1,⟨hk.1.2,hk.2⟩⟩)⟩,⟨by (try simp only [Pg]);(with_reducible repeat (first|apply Kd.Ah|apply Kd.zh|apply Kd.ai));exact Jac.out⟩,⟨by (try simp only [Pg]);(with_reducible repeat (first|apply Kd.Xa|apply Kd.Wa|apply Kd.yb));exact Kd.Jc nM.out (fun _ hk=>⟨hk.1.1.2,⟨hk.1.2,hk.2⟩⟩)⟩,⟨by (try simp only [Pg]);(with_reducible repeat (first|refine Ca ?_ _|refine Ea ?_|refine Da ?_ _));exact ta.out⟩,⟨by repeat (first|(with_reducible first|exact HB.out|apply oa|apply ia|apply qa|refine ua ?_ Sa.out)|exact HB.out)⟩⟩
          case round =>
           clear H'
           try clear c1
           try clear p1
           try clear q1
           try clear hx1
           try clear qi1
           try clear c2
           try clear p2
           try clear q2
           try clear c3
           try clear c5
           try clear Al
           try clear Ex
           try clear c6
           try clear p6
           try clear q6
           try clear zC
           try clear qi6
           try clear hf6
           try clear c8
           try clear c9
           try clear nQ
           try clear p11
           try clear TN
           try clear jam
           try clear Lal
           try clear Kr
           try clear Gn
           try clear Rw
           try clear Mt
           try clear FA
           try clear UL
           try clear bx
           try clear lQ
           try clear Yx
           try clear fH
           try clear Fx
           try clear EA
           try clear eH
           try clear wF
           try clear zY
           try clear Ni
           try clear Mi
           try clear Li
           try clear Ki
           try clear Ji
           try clear Vo
           try clear Uo
           try clear Ro
           try clear Qo
           try clear Po
           try clear Ii
           try clear Hi
           try clear Gi
           try clear Fi
           try clear Ei
           try clear Io
           try clear Ho
           try clear Fo
           try clear Eo
           try clear Co
           try clear Ll
           try clear Mm
           try clear js
           try clear Zr
           try clear Yr
           try clear Xr
           try clear IB
           try clear ux
           try clear kr
           try clear p2
           try clear p6
           try clear sx
           try clear ir
           try clear zY
           try clear q6
           (try clear HA);(try clear Fm);(try clear Lc);(try clear jd);(try clear Lg);(try clear uk);(try clear ta);(try clear HB);obtain ⟨Af,ZA,Qd,rfl,HA,Fm,Lc,jd,Lg,uk,ta,HB⟩:=hrel;have zj:=(Kd.Tb jd.out).1;rw [zj] at jd;(try simp only [zj]);(try simp only [zj] at ta);(try simp only [zj] at Lc);(try simp only [zj] at Lg);(try simp only [zj] at uk);cases gk with
           | zero=>exact absurd HA.out (by simp [Ib.l1])
           | succ k2 =>
            have H:=HA.out;clear HA;simp only [Ib.l1] at H
            by_cases Qw:Qd < (t115.length:Int)
            ·rw [if_pos Qw] at H;have Ip:decide (Qd < (t115.length:Int))=true:=decide_eq_true Qw;clear Qw
             by_cases Dz:0 ≤ Qd
             ·rw [if_pos Dz] at H;have Pw:decide (0 ≤ Qd)=true:=decide_eq_true Dz;clear Dz
              by_cases Xx:0 ≤ (rd t115 Qd)
              ·rw [if_pos Xx] at H;have RB:decide (0 ≤ (rd t115 Qd))=true:=decide_eq_true Xx;clear Xx
               by_cases TL:(rd t115 Qd) < (Af.length:Int)
               ·rw [if_pos TL] at H;have gQ:decide ((rd t115 Qd) < (Af.length:Int))=true:=decide_eq_true TL;clear TL
                by_cases jN:(rd Af (rd t115 Qd))=0
                ·rw [if_pos jN] at H;have YW:((rd Af (rd t115 Qd)) == 0)=true:=beq_iff_eq.mpr jN;have XW:((rd Af (rd t115 Qd)) != 0)=false:=bne_eq_false_iff_eq.mpr jN;clear jN;obtain ⟨yF,Br⟩:∃ y_:List Int,y_=(Af.set ((rd t115 Qd):Int).toNat 1):=⟨_,rfl⟩;replace H:(if ZA.length < 17592186044416 then (Ib.l1 k2 Yd yF (ZA ++ [rd t115 Qd]) t115 (wrap64 (Qd + 1)) Oa La Pa Ja Fa) else (none))=some r:=by first|(rw [Br];with_reducible exact H)|(have Md:=(Option.bind_some _ _).symm.trans H;rw [Br];with_reducible exact Md)|(have Md:=(Option.bind_some _ _).symm.trans H;with_reducible exact Md)|with_reducible exact H|(rw [Br];exact H)|exact H
                 have FQ:=ga.mk Br;clear Br
                 by_cases cH:ZA.length < 17592186044416
                 ·rw [if_pos cH] at H;have bac:=ga.mk cH;clear cH;obtain ⟨BN,ur⟩:∃ y_:List Int,y_=(ZA ++ [rd t115 Qd]):=⟨_,rfl⟩;replace H:(Ib.l1 k2 Yd yF BN t115 (wrap64 (Qd + 1)) Oa La Pa Ja Fa)=some r:=by first|(rw [ur];with_reducible exact H)|(have Md:=(Option.bind_some _ _).symm.trans H;rw [ur];with_reducible exact Md)|(have Md:=(Option.bind_some _ _).symm.trans H;with_reducible exact Md)|with_reducible exact H|(rw [ur];exact H)|exact H
                  have CQ:=ga.mk ur;clear ur;have H':=ga.mk H;clear H;obtain ⟨Kaw,cN,nao⟩:=Kd.Jd uk.out;subst nao;have Jt:0 ≤ (Qd:Int):=of_decide_eq_true (by first|(with_reducible assumption)|assumption);have Ht:Qd < (t115.length:Int):=of_decide_eq_true (by first|(with_reducible assumption)|assumption);obtain ⟨Kp,TI,Yn⟩:=Kd.Ef (Kd.Tb uk.out).2.2 Qd Jt Ht;cases TI;replace Jt:=eq_true Jt;replace Ht:=eq_true Ht;have ny:0 ≤ ((rd t115 Qd):Int):=of_decide_eq_true (by first|(with_reducible assumption)|assumption);have jy:(rd t115 Qd) < (Af.length:Int):=of_decide_eq_true (by first|(with_reducible assumption)|assumption);obtain ⟨JA,SP,Fk⟩:=Kd.Ef (Kd.Tb jd.out).2.2 (rd t115 Qd) ny jy;obtain rfl:(⟨Hr,0,none⟩:Addr)=JA:=(by injection SP);(first|simp only [add_plain] at Fk|simp only [Fp] at Fk|simp only [Addr.add,Nat.zero_add] at Fk|skip);replace ny:=eq_true ny;replace jy:=eq_true jy;have NR:0 ≤ (Qd:Int):=of_decide_eq_true (by first|(with_reducible assumption)|assumption);have GR:Qd < (t115.length:Int):=of_decide_eq_true (by first|(with_reducible assumption)|assumption);obtain ⟨Eab,xao,cS⟩:=Kd.Ef (Kd.Tb uk.out).2.2 Qd NR GR;obtain rfl:Kp=Eab:=(by injection xao);replace NR:=eq_true NR;replace GR:=eq_true GR;have V5:0 ≤ ((rd t115 Qd):Int):=of_decide_eq_true (by first|(with_reducible assumption)|assumption);have U5:((rd t115 Qd):Int) < ((Af.length:Int):Int):=of_decide_eq_true (by first|(with_reducible assumption)|assumption);obtain ⟨NY,wan⟩:=Kd.gh 0 jd.out ((rd t115 Qd):Int) V5 U5;replace V5:=eq_true V5;replace U5:=eq_true U5;have Q3:=Kd.Cl jd.out ((rd t115 Qd):Int) 1;go_wp2_with (first|((with_reducible refine Xe (t:=3) (p:=53) rfl ?_);refine Ae (t:=3) (p:=53) (v:=?ral) (w1:=(wr.setCell ⟨Hr,((rd t115 Qd):Int).toNat,none⟩ (.int .i64 1))) ?hg ?ho ?hn ?hr ?_;(case ho=>rfl);(case hg=>rfl);(case hn=>rfl);(case hr=>first|(go_simp;done)|(go_simp;rfl));intro hY hw;have hg:wr.grownBy hY (some Hr):=(by rw [hw];exact Q3.2);have Tk:Kd.R (Kd.int .i64) 3 hY w.heap.size (fun k_=>some k_ ≠ (Sh:Value).ownBlock∧some k_ ≠ (u5:Value).ownBlock∧some k_ ≠ (.slice (some Kp) t115.length cN:Value).ownBlock) (.slice (some ⟨Hr,0,none⟩) Af.length Nw) yF:=(by rw [hw,FQ.out];exact Q3.1);clear Q3;have Fb:=ga.mk (Kd.yh (v:=(.slice (some ⟨Hr,0,none⟩) Af.length Nw)) (v1:=(.slice (some ⟨Hr,0,none⟩) Af.length Nw)) (ok:=(fun k_=>some k_ ≠ (u5:Value).ownBlock∧some k_ ≠ (.slice (some Kp) t115.length cN:Value).ownBlock)) (by (with_reducible repeat (first|apply Kd.Xa|apply Kd.Wa|apply Kd.yb));exact Kd.Jc Lc.out (fun _ hk=>⟨⟨hk.2.1,hk.2.2⟩,hk.1⟩)) hg (.inl rfl));have Lb:=ga.mk (Tk);have Vb:=ga.mk (Kd.AV (v:=(.slice (some ⟨Hr,0,none⟩) Af.length Nw)) (v1:=(.slice (some ⟨Hr,0,none⟩) Af.length Nw)) (ok:=(fun k_=>some k_ ≠ (Sh:Value).ownBlock∧some k_ ≠ (.slice (some Kp) t115.length cN:Value).ownBlock)) (by (with_reducible repeat (first|apply Kd.Ah|apply Kd.zh|apply Kd.ai));exact Kd.Gq Lg.out (fun _ hk=>⟨⟨hk.1,hk.2.2⟩,hk.2.1⟩)) hg (.inl rfl));have Bc:=ga.mk (Kd.yh (v:=(.slice (some ⟨Hr,0,none⟩) Af.length Nw)) (v1:=(.slice (some ⟨Hr,0,none⟩) Af.length Nw)) (ok:=(fun k_=>some k_ ≠ (Sh:Value).ownBlock∧some k_ ≠ (u5:Value).ownBlock)) (by (with_reducible repeat (first|apply Kd.Xa|apply Kd.Wa|apply Kd.yb));exact Kd.Jc uk.out (fun _ hk=>⟨⟨hk.1,hk.2.2⟩,hk.2.1⟩)) hg (.inl rfl));have Ge:=ga.mk (wg (g:=za) (o:=.cells #[.slice xb Oa.length qb,.int .i64 La,.int .i64 Pa,.int .i64 Ja,.slice (some Nj) Fa.length Gb] 45 (0,0)) (by (with_reducible repeat (first|refine Ca ?_ _|refine Ea ?_|refine Da ?_ _));exact ta.out) hg (Kd.Nt jd.out ta.out (by decide)));have Zf:=ga.mk ((by rw [hw];exact ua (HB.out) GB6.out:Below w.heap.size w hY));clear Lc jd Lg uk ta HB;have Lc:=Fb;have jd:=Lb;have Lg:=Vb;have uk:=Bc;have ta:=Ge;have HB:=Zf;clear Fb Lb Vb Bc Ge Zf hg hw Tk;have MR:0 ≤ (Qd:Int):=of_decide_eq_true (by first|(with_reducible assumption)|assumption);have FR:Qd < (t115.length:Int):=of_decide_eq_true (by first|(with_reducible assumption)|assumption);obtain ⟨Dab,wao,bS⟩:=Kd.Ef (Kd.Tb uk.out).2.2 Qd MR FR;obtain rfl:Kp=Dab:=(by injection wao);replace MR:=eq_true MR;replace FR:=eq_true FR)|((with_reducible refine fh (b:=.append) (xs:=#[.tmp 54,.tmp 59]) rfl ?_);at_builtin;refine Kd.pH (Kd.int .i64) (w0:=w) w.heap.size rfl (.tmp 54) (.tmp 59) 22 3 (.int .i64 0) 8 rfl Try.underlying22 info3 rfl (by decide) (by omega) u5 ZA (rd t115 Qd) [.int .i64 (rd t115 Qd)] (fun k_=>some k_ ≠ (Sh:Value).ownBlock∧some k_ ≠ (.slice (some ⟨Hr,0,none⟩) Af.length Nw:Value).ownBlock∧some k_ ≠ (.slice (some Kp) t115.length cN:Value).ownBlock) (fun _=>False) rfl rfl ?aP (fun _ hk=>hk.elim) ?aF ?aO ?aB ?aS ?aL ?_;(case aP=>exact rfl);(case aB=>exact (by repeat (first|(with_reducible first|exact HB.out|apply oa|apply ia|apply qa|refine ua ?_ Sa.out)|exact HB.out)));(case aF=>exact (fun k_ hk=>⟨Kd.fresh' (Kd.Mn (by (with_reducible repeat (first|apply Kd.Xa|apply Kd.Wa|apply Kd.yb));exact Lc.out)) k_ hk,Kd.fresh' (Kd.Mn (by (with_reducible repeat (first|apply Kd.Xa|apply Kd.Wa|apply Kd.yb));exact jd.out)) k_ hk,Kd.fresh' (Kd.Mn (by (with_reducible repeat (first|apply Kd.Xa|apply Kd.Wa|apply Kd.yb));exact uk.out)) k_ hk⟩));(case aO=>exact (by (with_reducible repeat (first|apply Kd.Ah|apply Kd.zh|apply Kd.ai));exact Kd.Gq Lg.out (fun _ hk=>⟨hk.1.1,⟨hk.2,hk.1.2⟩⟩)));(case aS=>exact (Ka (by repeat (first|(with_reducible first|exact HB.out|apply oa|apply ia|apply qa|refine ua ?_ Sa.out)|exact HB.out))));(case aL=>have:=bac.out;omega);intro v127 UA ho hb hg hat;rw [← CQ.out] at ho;have Fb:=ga.mk (Kd.yh (ok:=(fun k_=>some k_ ≠ (.slice (some ⟨Hr,0,none⟩) Af.length Nw:Value).ownBlock∧some k_ ≠ (.slice (some Kp) t115.length cN:Value).ownBlock)) (by (with_reducible repeat (first|apply Kd.Xa|apply Kd.Wa|apply Kd.yb));exact Kd.Jc Lc.out (fun _ hk=>⟨⟨hk.2,hk.1.2⟩,hk.1.1⟩)) hg hat);have Lb:=ga.mk (Kd.yh (ok:=(fun k_=>some k_ ≠ (Sh:Value).ownBlock∧some k_ ≠ (.slice (some Kp) t115.length cN:Value).ownBlock)) (by (with_reducible repeat (first|apply Kd.Xa|apply Kd.Wa|apply Kd.yb));exact Kd.Jc jd.out (fun _ hk=>⟨⟨hk.1,hk.2.2⟩,hk.2.1⟩)) hg hat);have Vb:=ga.mk (Kd.yh (ok:=(fun k_=>some k_ ≠ (Sh:Value).ownBlock∧some k_ ≠ (.slice (some ⟨Hr,0,none⟩) Af.length Nw:Value).ownBlock)) (by (with_reducible repeat (first|apply Kd.Xa|apply Kd.Wa|apply Kd.yb));exact Kd.Jc uk.out (fun _ hk=>⟨⟨hk.1.1,hk.2⟩,hk.1.2⟩)) hg hat);have Bc:=ga.mk (wg (g:=za) (o:=.cells #[.slice xb Oa.length qb,.int .i64 La,.int .i64 Pa,.int .i64 Ja,.slice (some Nj) Fa.length Gb] 45 (0,0)) (by (with_reducible repeat (first|refine Ca ?_ _|refine Ea ?_|refine Da ?_ _));exact ta.out) hg (Kd.Qab Lg.out ta.out (by decide)));have Ge:=ga.mk (hb);have Zf:=ga.mk (ho);clear Lc jd uk ta HB Lg;have Lc:=Fb;have jd:=Lb;have uk:=Vb;have ta:=Bc;have HB:=Ge;have NQ:=Zf;clear Fb Lb Vb Bc Ge Zf ho hb hg hat));(try simp only [← zj])
                  go_roundg k2
                  case measure=>have:=Gf.out;have:=Fm.out;omega
                  case rel=>exact ⟨(yF),(BN),(wrap64 (Qd + 1)),(by first|rfl|(simp;done)|(simp [*];done)),H',⟨by have:=Gf.out;have:=Fm.out;omega⟩,⟨by (try simp only [Pg]);(try simp only [zj]);(with_reducible repeat (first|apply Kd.Xa|apply Kd.Wa|apply Kd.yb));exact Kd.Jc Lc.out (fun _ hk=>⟨hk.1.1,⟨hk.2,hk.1.2⟩⟩)⟩,⟨by (try simp only [Pg]);(try simp only [zj]);(with_reducible repeat (first|apply Kd.Xa|apply Kd.Wa|apply Kd.yb));exact Kd.Jc jd.out (fun _ hk=>⟨hk.1.1,⟨hk.2,hk.1.2⟩⟩)⟩,⟨by (try simp only [Pg]);(try simp only [zj]);(with_reducible repeat (first|apply Kd.Ah|apply Kd.zh|apply Kd.ai));exact NQ.out⟩,⟨by (try simp only [Pg]);(try simp only [zj]);(with_reducible repeat (first|apply Kd.Xa|apply Kd.Wa|apply Kd.yb));exact Kd.Jc uk.out (fun _ hk=>⟨hk.1.1,⟨hk.1.2,hk.2⟩⟩)⟩,⟨by (try simp only [Pg]);(try simp only [zj]);(with_reducible repeat (first|refine Ca ?_ _|refine Ea ?_|refine Da ?_ _));exact ta.out⟩,⟨by repeat (first|(with_reducible first|exact HB.out|apply oa|apply ia|apply qa|refine ua ?_ Sa.out)|exact HB.out)⟩⟩
                 ·rw [if_neg cH] at H;exact absurd H (by simp)
                ·rw [if_neg jN] at H;have YW:((rd Af (rd t115 Qd)) == 0)=false:=beq_eq_false_iff_ne.mpr jN;have XW:((rd Af (rd t115 Qd)) != 0)=true:=bne_iff_ne.mpr jN;have H':=ga.mk H;clear H;obtain ⟨uap,Fao,RZ⟩:=Kd.Jd uk.out;subst RZ;have Jt:0 ≤ (Qd:Int):=of_decide_eq_true (by first|(with_reducible assumption)|assumption);have Ht:Qd < (t115.length:Int):=of_decide_eq_true (by first|(with_reducible assumption)|assumption);obtain ⟨Kp,TI,Yn⟩:=Kd.Ef (Kd.Tb uk.out).2.2 Qd Jt Ht;cases TI;replace Jt:=eq_true Jt;replace Ht:=eq_true Ht;have ny:0 ≤ ((rd t115 Qd):Int):=of_decide_eq_true (by first|(with_reducible assumption)|assumption);have jy:(rd t115 Qd) < (Af.length:Int):=of_decide_eq_true (by first|(with_reducible assumption)|assumption);obtain ⟨JA,SP,Fk⟩:=Kd.Ef (Kd.Tb jd.out).2.2 (rd t115 Qd) ny jy;obtain rfl:(⟨Hr,0,none⟩:Addr)=JA:=(by injection SP);(first|simp only [add_plain] at Fk|simp only [Fp] at Fk|simp only [Addr.add,Nat.zero_add] at Fk|skip);replace ny:=eq_true ny;replace jy:=eq_true jy;go_wp2;(try simp only [← zj])
                 go_roundg k2
                 case measure=>have:=Gf.out;have:=Fm.out;omega
                 case rel=>exact ⟨(Af),(ZA),(wrap64 (Qd + 1)),(by first|rfl|(simp;done)|(simp [*];done)),H',⟨by have:=Gf.out;have:=Fm.out;omega⟩,⟨by (try simp only [Pg]);(try simp only [zj]);(with_reducible repeat (first|apply Kd.Xa|apply Kd.Wa|apply Kd.yb));exact Lc.out⟩,⟨by (try simp only [Pg]);(try simp only [zj]);(with_reducible repeat (first|apply Kd.Xa|apply Kd.Wa|apply Kd.yb));exact jd.out⟩,⟨by (try simp only [Pg]);(try simp only [zj]);(with_reducible repeat (first|apply Kd.Ah|apply Kd.zh|apply Kd.ai));exact Lg.out⟩,⟨by (try simp only [Pg]);(try simp only [zj]);(with_reducible repeat (first|apply Kd.Xa|apply Kd.Wa|apply Kd.yb));exact uk.out⟩,⟨by (try simp only [Pg]);(try simp only [zj]);(with_reducible repeat (first|refine Ca ?_ _|refine Ea ?_|refine Da ?_ _));exact ta.out⟩,⟨by repeat (first|(with_reducible first|exact HB.out|apply oa|apply ia|apply qa|refine ua ?_ Sa.out)|exact HB.out)⟩⟩
               ·rw [if_neg TL] at H;exact absurd H (by simp)
              ·rw [if_neg Xx] at H;exact absurd H (by simp)
             ·rw [if_neg Dz] at H;exact absurd H (by simp)
            ·rw [if_neg Qw] at H;have Ip:decide (Qd < (t115.length:Int))=false:=decide_eq_false Qw;clear Qw;have H':=ga.mk H;clear H;obtain ⟨Jaw,Hav,mao⟩:=Kd.Jd uk.out;subst mao;go_wp2;(try simp only [← Pg,← zj])
             go_roundg k2
             case measure=>have:=Gf.out;have:=Fm.out;omega
             case rel=>exact ⟨(Af),(ZA),H',⟨by have:=Gf.out;have:=Fm.out;omega⟩,⟨by (try simp only [Pg]);(try simp only [zj]);(with_reducible repeat (first|apply Kd.Xa|apply Kd.Wa|apply Kd.yb));exact Kd.Jc Lc.out (fun _ hk=>⟨hk.1,hk.2.1⟩)⟩,⟨by (try simp only [Pg]);(try simp only [zj]);(with_reducible repeat (first|apply Kd.Xa|apply Kd.Wa|apply Kd.yb));exact Kd.Jc jd.out (fun _ hk=>⟨hk.1,hk.2.1⟩)⟩,⟨by (try simp only [Pg]);(try simp only [zj]);(with_reducible repeat (first|apply Kd.Ah|apply Kd.zh|apply Kd.ai));exact Kd.Gq Lg.out (fun _ hk=>⟨hk.1,hk.2.1⟩)⟩,⟨by (try simp only [Pg]);(try simp only [zj]);(with_reducible repeat (first|refine Ca ?_ _|refine Ea ?_|refine Da ?_ _));exact ta.out⟩,⟨by repeat (first|(with_reducible first|exact HB.out|apply oa|apply ia|apply qa|refine ua ?_ Sa.out)|exact HB.out)⟩⟩
         ·rw [if_neg Fx] at H;exact absurd H (by simp)
        ·rw [if_neg Yx] at H;exact absurd H (by simp)
       ·rw [if_neg bx] at H;exact absurd H (by simp)
      ·rw [if_neg Mt] at H;exact absurd H (by simp)
     ·rw [if_neg Kr] at H;have Gn:decide (0 < (Aa.length:Int))=false:=decide_eq_false Kr;have Rw:decide (0 < Aa.length)=false:=decide_eq_false (by omega);clear Kr;have H':=ga.mk H;clear H;obtain ⟨tap,Eao,QZ,_⟩:=Kd.Ww Lg.out;subst QZ;go_wp2
      go_loopg [3,8] k1 (fun kq v3 v8 w'=>∃ (tj:List Int) (ze:Int),v8 = .int .i64 ze∧ga (Ib.l2 kq tj Yb ze=some r)∧ga (kq ≤ k1)∧ga (Kd.R (Kd.int .i64) 3 w' w.heap.size (fun k_=>some k_ ≠ ((.slice (some ⟨Hr,0,none⟩) Yb.length Nw):Value).ownBlock) v3 tj)∧ga (Kd.R (Kd.int .i64) 3 w' w.heap.size (fun k_=>some k_ ≠ (v3:Value).ownBlock) (.slice (some ⟨Hr,0,none⟩) Yb.length Nw) Yb)∧ga (w'.heap[za]? = some (.cells #[(.slice xb Oa.length qb),.int .i64 La,.int .i64 Pa,.int .i64 Ja,(.slice Pb Fa.length Gb)] 45 (0,0)))∧ga (Below w.heap.size w w'))
      case atStart=>exact ⟨(Yd),(0),(by first|rfl|(simp;done)|(simp [*];done)),H',⟨Nat.le_refl _⟩,⟨by (try simp only [Pg]);(with_reducible repeat (first|apply Kd.Xa|apply Kd.Wa|apply Kd.yb));exact Kd.Jc Lc.out (fun _ hk=>hk.1)⟩,⟨by (try simp only [Pg]);(with_reducible repeat (first|apply Kd.Xa|apply Kd.Wa|apply Kd.yb));exact Kd.Jc jd.out (fun _ hk=>hk.1)⟩,⟨by (try simp only [Pg]);(with_reducible repeat (first|refine Ca ?_ _|refine Ea ?_|refine Da ?_ _));exact ta.out⟩,⟨by repeat (first|(with_reducible first|exact HB.out|apply oa|apply ia|apply qa|refine ua ?_ Sa.out)|exact HB.out)⟩⟩
      case round =>
       clear H'
       try clear c1
       try clear p1
       try clear q1
       try clear hx1
       try clear qi1
       try clear c2
       try clear p2
       try clear q2
       try clear c3
       try clear p3
       try clear q3
       try clear oy
       try clear hf3
       try clear c5
       try clear Al
       try clear Ex
       try clear c6
       try clear p6
       try clear q6
       try clear zC
       try clear qi6
       try clear hf6
       try clear c8
       try clear c9
       try clear nQ
       try clear p11
       try clear TN
       try clear jam
       try clear Lal
       try clear p12
       try clear q12
       try clear aav
       try clear Kr
       try clear Gn
       try clear Rw
       try clear Mt
       try clear FA
       try clear UL
       try clear bx
       try clear lQ
       try clear Yx
       try clear fH
       try clear Fx
       try clear EA
       try clear eH
       try clear wF
       try clear zY
       try clear Qw
       try clear Ip
       try clear Dz
       try clear Pw
       try clear Xx
       try clear RB
       try clear TL
       try clear gQ
       try clear jN
       try clear YW
       try clear XW
       try clear V5
       try clear U5
       try clear Zau
       try clear rav
       try clear cH
       try clear Ni
       try clear Mi
       try clear Li
       try clear Ki
       try clear Ji
       try clear Vo
       try clear Uo
       try clear Ro
       try clear Qo
       try clear Po
       try clear Ii
       try clear Hi
       try clear Gi
       try clear Fi
       try clear Ei
       try clear Io
       try clear Ho
       try clear Fo
       try clear Eo
       try clear Co
       try clear Ll
       try clear Mm
       try clear js
       try clear Zr
       try clear Yr
       try clear Xr
       try clear Yn
       try clear Fk
       try clear cS
       try clear bS
       try clear NY
       try clear IB
       try clear p1
       try clear p11
       try clear ux
       try clear kr
       try clear Jt
       try clear ny
       try clear NR
       try clear MR
       try clear p2
       try clear V5
       try clear p6
       try clear q1
       try clear TN
       try clear sx
       try clear ir
       try clear Ht
       try clear jy
       try clear GR
       try clear FR
       try clear q2
       try clear zY
       try clear U5
       try clear q6
       (try clear HA);(try clear Fm);(try clear Lc);(try clear jd);(try clear ta);(try clear HB);obtain ⟨tj,ze,rfl,HA,Fm,Lc,jd,ta,HB⟩:=hrel;cases gk with
       | zero=>exact absurd HA.out (by simp [Ib.l2])
       | succ k2 =>
        have H:=HA.out;clear HA;simp only [Ib.l2] at H
        by_cases fQ:ze < (Yb.length:Int)
        ·rw [if_pos fQ] at H;have QW:decide (ze < (Yb.length:Int))=true:=decide_eq_true fQ;clear fQ
         by_cases SL:0 ≤ ze
         ·rw [if_pos SL] at H;have eab:decide (0 ≤ ze)=true:=decide_eq_true SL;clear SL
          by_cases CA:(rd Yb ze)=1
          ·rw [if_pos CA] at H;have bH:((rd Yb ze) == 1)=true:=beq_iff_eq.mpr CA;have aH:((rd Yb ze) != 1)=false:=bne_eq_false_iff_eq.mpr CA;clear CA
           by_cases YE:tj.length < 17592186044416
           ·rw [if_pos YE] at H;have aac:=ga.mk YE;clear YE;obtain ⟨G5,YF⟩:∃ y_:List Int,y_=(tj ++ [ze]):=⟨_,rfl⟩;replace H:(Ib.l2 k2 G5 Yb (wrap64 (ze + 1)))=some r:=by first|(rw [YF];with_reducible exact H)|(have Md:=(Option.bind_some _ _).symm.trans H;rw [YF];with_reducible exact Md)|(have Md:=(Option.bind_some _ _).symm.trans H;with_reducible exact Md)|with_reducible exact H|(rw [YF];exact H)|exact H
            have Tab:=ga.mk YF;clear YF;have H':=ga.mk H;clear H;have kI:0 ≤ (ze:Int):=of_decide_eq_true (by first|(with_reducible assumption)|assumption);have cI:ze < (Yb.length:Int):=of_decide_eq_true (by first|(with_reducible assumption)|assumption);obtain ⟨rQ,YZ,Xp⟩:=Kd.Ef (Kd.Tb jd.out).2.2 ze kI cI;obtain rfl:(⟨Hr,0,none⟩:Addr)=rQ:=(by injection YZ);(first|simp only [add_plain] at Xp|simp only [Fp] at Xp|simp only [Addr.add,Nat.zero_add] at Xp|skip);replace kI:=eq_true kI;replace cI:=eq_true cI;go_wp2_with (first|((with_reducible refine fh (b:=.append) (xs:=#[.tmp 72,.tmp 74]) rfl ?_);at_builtin;refine Kd.Lr (Kd.int .i64) (w0:=w) w.heap.size rfl (.tmp 72) (.tmp 74) 22 3 (.int .i64 0) 8 rfl Try.underlying22 info3 rfl (by decide) (by omega) u3 tj ze [.int .i64 ze] (fun k_=>some k_ ≠ (.slice (some ⟨Hr,0,none⟩) Yb.length Nw:Value).ownBlock) (fun _=>False) rfl rfl ?aP (fun _ hk=>hk.elim) ?aF ?aO ?aB ?aS ?aL ?_;(case aP=>exact rfl);(case aB=>exact (by repeat (first|(with_reducible first|exact HB.out|apply oa|apply ia|apply qa|refine ua ?_ Sa.out)|exact HB.out)));(case aF=>exact (fun k_ hk=>Kd.fresh' (Kd.Mn (by (with_reducible repeat (first|apply Kd.Xa|apply Kd.Wa|apply Kd.yb));exact jd.out)) k_ hk));(case aO=>exact (by (with_reducible repeat (first|apply Kd.Xa|apply Kd.Wa|apply Kd.yb));exact Lc.out));(case aS=>exact (Ka (by repeat (first|(with_reducible first|exact HB.out|apply oa|apply ia|apply qa|refine ua ?_ Sa.out)|exact HB.out))));(case aL=>have:=aac.out;omega);intro v131 Qx ho hb hg hat;rw [← Tab.out] at ho;have Fb:=ga.mk (Kd.yh (ok:=(fun _=>True)) (by (with_reducible repeat (first|apply Kd.Xa|apply Kd.Wa|apply Kd.yb));exact Kd.Jc jd.out (fun _ hk=>⟨trivial,hk⟩)) hg hat);have Lb:=ga.mk (wg (g:=za) (o:=.cells #[.slice xb Oa.length qb,.int .i64 La,.int .i64 Pa,.int .i64 Ja,.slice Pb Fa.length Gb] 45 (0,0)) (by (with_reducible repeat (first|refine Ca ?_ _|refine Ea ?_|refine Da ?_ _));exact ta.out) hg (Kd.Nt Lc.out ta.out (by decide)));have Vb:=ga.mk (hb);have Bc:=ga.mk (ho);clear jd ta HB Lc;have jd:=Fb;have ta:=Lb;have HB:=Vb;have Gac:=Bc;clear Fb Lb Vb Bc ho hb hg hat))
            go_roundg k2
            case measure=>have:=Gf.out;have:=Fm.out;omega
            case rel=>exact ⟨(G5),(wrap64 (ze + 1)),(by first|rfl|(simp;done)|(simp [*];done)),H',⟨by have:=Gf.out;have:=Fm.out;omega⟩,⟨by (try simp only [Pg]);(with_reducible repeat (first|apply Kd.Xa|apply Kd.Wa|apply Kd.yb));exact Gac.out⟩,⟨by (try simp only [Pg]);(with_reducible repeat (first|apply Kd.Xa|apply Kd.Wa|apply Kd.yb));exact Kd.Jc jd.out (fun _ hk=>hk.2)⟩,⟨by (try simp only [Pg]);(with_reducible repeat (first|refine Ca ?_ _|refine Ea ?_|refine Da ?_ _));exact ta.out⟩,⟨by repeat (first|(with_reducible first|exact HB.out|apply oa|apply ia|apply qa|refine ua ?_ Sa.out)|exact HB.out)⟩⟩
           ·rw [if_neg YE] at H;exact absurd H (by simp)
          ·rw [if_neg CA] at H;have bH:((rd Yb ze) == 1)=false:=beq_eq_false_iff_ne.mpr CA;have aH:((rd Yb ze) != 1)=true:=bne_iff_ne.mpr CA;have H':=ga.mk H;clear H;have kI:0 ≤ (ze:Int):=of_decide_eq_true (by first|(with_reducible assumption)|assumption);have cI:ze < (Yb.length:Int):=of_decide_eq_true (by first|(with_reducible assumption)|assumption);obtain ⟨rQ,YZ,Xp⟩:=Kd.Ef (Kd.Tb jd.out).2.2 ze kI cI;obtain rfl:(⟨Hr,0,none⟩:Addr)=rQ:=(by injection YZ);(first|simp only [add_plain] at Xp|simp only [Fp] at Xp|simp only [Addr.add,Nat.zero_add] at Xp|skip);replace kI:=eq_true kI;replace cI:=eq_true cI;go_wp2
           go_roundg k2
           case measure=>have:=Gf.out;have:=Fm.out;omega
           case rel=>exact ⟨(tj),(wrap64 (ze + 1)),(by first|rfl|(simp;done)|(simp [*];done)),H',⟨by have:=Gf.out;have:=Fm.out;omega⟩,⟨by (try simp only [Pg]);(with_reducible repeat (first|apply Kd.Xa|apply Kd.Wa|apply Kd.yb));exact Lc.out⟩,⟨by (try simp only [Pg]);(with_reducible repeat (first|apply Kd.Xa|apply Kd.Wa|apply Kd.yb));exact jd.out⟩,⟨by (try simp only [Pg]);(with_reducible repeat (first|refine Ca ?_ _|refine Ea ?_|refine Da ?_ _));exact ta.out⟩,⟨by repeat (first|(with_reducible first|exact HB.out|apply oa|apply ia|apply qa|refine ua ?_ Sa.out)|exact HB.out)⟩⟩
         ·rw [if_neg SL] at H;exact absurd H (by simp)
        ·rw [if_neg fQ] at H;have QW:decide (ze < (Yb.length:Int))=false:=decide_eq_false fQ;clear fQ;obtain rfl:=Option.some.inj H;go_wp2;go_ret;exact ⟨_,by first|rfl|(simp [Na,Ma] <;> rfl)|(simp [*,Na,Ma] <;> rfl),by (with_reducible repeat (first|apply Kd.Xa|apply Kd.Wa|apply Kd.yb));exact Kd.Jc Lc.out (fun _ hk=>trivial),by repeat (first|(with_reducible first|exact HB.out|apply oa|apply ia|apply qa|refine ua ?_ Sa.out)|exact HB.out)⟩
  ·rw [if_neg c5] at H;exact absurd H (by simp)
 ·replace c3:=Bool.eq_false_iff.mpr c3;subst c3;have H1:(some Yd)=some r:=by rw [if_neg (show ¬ (false=true) by decide)] at H;exact H
  clear H;have H:=H1;clear H1;obtain rfl:=Option.some.inj H;go_enter Try.func68,Try.ntmps68;go_wp2_with (first|((with_reducible refine Db (N:=1) rfl ?_);refine Jb ?hg (N:=1) ?hd (cs:=#[.slice xb Oa.length qb,.int .i64 La,.int .i64 Pa,.int .i64 Ja,.slice Pb Fa.length Gb]) (t:=45) ?hr ?_;(case hd=>rfl);(case hg=>rfl);(case hr=>first|(go_simp;done)|(go_simp;rfl));intro za hg w47 Wb hb;have Fb:=ga.mk (Qa (by repeat (first|(with_reducible first|exact HB.out|apply oa|apply ia|apply qa)|exact HB.out)) hb);have Lb:=ga.mk (Wb);have Vb:=ga.mk ((by rw [hg];exact (Ka (by repeat (first|(with_reducible first|exact HB.out|apply oa|apply ia|apply qa)|exact HB.out))):w.heap.size ≤ za));have Bc:=ga.mk ((by rw [hg];exact (Ka (by repeat (first|(with_reducible first|exact HB.out|apply oa|apply ia|apply qa)|exact HB.out))):w.heap.size ≤ za));clear HB;have HB:=Fb;have ta:=Lb;have ye:=Vb;have Sa:=Bc;clear Fb Lb Vb Bc hb Wb hg)|((with_reducible refine Db (N:=9) rfl ?_);refine Kd.vl (Kd.int .i64) _ 3 ?hg (N:=9) ?hd (xs:=([]:List Int)) (inner:=[]) (ok:=fun _=>True) (Gh:=fun _=>True) ?hr ?hp (fun _ hk=>hk) trivial (Below.refl _ _) (Nat.le_refl _) (by simp) ?_;(case hd=>rfl);(case hg=>rfl);(case hr=>first|(go_simp;done)|(go_simp;rfl));(case hp=>exact (Ld.none _ _));intro Sh M5 QO hb um Df;clear um Df;(first|rw [← ki.out] at QO|(simp only [Int.reduceToNat] at QO;rw [← ki.out] at QO));have Fb:=ga.mk (Kd.Qe QO (Ka (by repeat (first|(with_reducible first|exact HB.out|apply oa|apply ia|apply qa|refine ua ?_ Sa.out)|exact HB.out))));have Lb:=ga.mk (Va (g:=za) (o:=.cells #[.slice xb Oa.length qb,.int .i64 La,.int .i64 Pa,.int .i64 Ja,.slice Pb Fa.length Gb] 45 (0,0)) (by (with_reducible repeat (first|refine Ca ?_ _|refine Ea ?_|refine Da ?_ _));exact ta.out) hb);have Vb:=ga.mk (Qa (by repeat (first|(with_reducible first|exact HB.out|apply oa|apply ia|apply qa|refine ua ?_ Sa.out)|exact HB.out)) hb);clear ta HB;have Ze:=Fb;have ta:=Lb;have HB:=Vb;clear Fb Lb Vb hb QO;have WT:M5.cell? ⟨za,0,none⟩=some (.slice xb Oa.length qb):=(ja ta.out 0).trans rfl;have VT:M5.cell? ⟨za,1,none⟩=some (.int .i64 La):=(ja ta.out 1).trans rfl;have UT:M5.cell? ⟨za,2,none⟩=some (.int .i64 Pa):=(ja ta.out 2).trans rfl;have TT:M5.cell? ⟨za,3,none⟩=some (.int .i64 Ja):=(ja ta.out 3).trans rfl;have RT:M5.cell? ⟨za,4,none⟩=some (.slice Pb Fa.length Gb):=(ja ta.out 4).trans rfl;have vS:=aa ta.out 0;have uS:=aa ta.out 1;have tS:=aa ta.out 2;have sS:=aa ta.out 3;have rS:=aa ta.out 4)|((with_reducible refine zb (f:=66) rfl ?_);refine Dc (some 11) rfl rfl Try.func66 (by kernel_rfl) rfl #[.agg #[.slice xb Oa.length qb,.int .i64 La,.int .i64 Pa,.int .i64 Ja,.slice Pb Fa.length Gb]] rfl (by (try simp only [List.map_toArray,List.map_cons,List.map_nil]);first|done|rfl|(simp only [List.length_drop,List.length_take];rfl)) ?_;(with_reducible refine (Ua.calls k _ _ Oa La Pa Ja _ _ Fa false _ ?yc ?uc ?Ad ?yd A2.out).mono ?_);(case yc=>repeat (first|exact (Kd.Mb Ue.out HB.out)|(with_reducible refine Kd.Sb ?_ _)|(with_reducible refine Kd.Rb ?_ _)|(with_reducible refine Kd.jc ?_)));(case uc=>exact af.out);(case Ad=>repeat (first|exact (Kd.Mb ng.out HB.out)|(with_reducible refine Kd.Sb ?_ _)|(with_reducible refine Kd.Rb ?_ _)|(with_reducible refine Kd.jc ?_)));(case yd=>exact Xg.out);rintro e w51 ⟨rfl,hb⟩;refine ⟨_,rfl,?_⟩;have Fb:=ga.mk (Kd.Xf (by (with_reducible repeat (first|apply Kd.Xa|apply Kd.Wa|apply Kd.yb));exact Ze.out) hb);have Lb:=ga.mk (Va (g:=za) (o:=.cells #[.slice xb Oa.length qb,.int .i64 La,.int .i64 Pa,.int .i64 Ja,.slice Pb Fa.length Gb] 45 (0,0)) (by (with_reducible repeat (first|refine Ca ?_ _|refine Ea ?_|refine Da ?_ _));exact ta.out) hb);have Vb:=ga.mk (Qa (by repeat (first|(with_reducible first|exact HB.out|apply oa|apply ia|apply qa|refine ua ?_ Sa.out)|exact HB.out)) hb);clear Ze ta HB;have Ze:=Fb;have ta:=Lb;have HB:=Vb;clear Fb Lb Vb;(try clear hb);(try clear Jj);(try clear hk);(try clear hi)));go_ret;exact ⟨_,by first|rfl|(simp [Na,Ma] <;> rfl)|(simp [*,Na,Ma] <;> rfl),by (with_reducible repeat (first|apply Kd.Xa|apply Kd.Wa|apply Kd.yb));exact Ze.out,by repeat (first|(with_reducible first|exact HB.out|apply oa|apply ia|apply qa|refine ua ?_ Sa.out)|exact HB.out)⟩
end Go.Proofs.Ytoomcmaifgkkfaa.P
end
