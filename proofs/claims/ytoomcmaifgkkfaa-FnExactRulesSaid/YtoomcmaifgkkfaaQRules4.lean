import Derived.Test.YtoomcmaifgkkfaaQRules1
import Derived.Test.YtoomcmaifgkkfaaQRules3
import Derived.Test.YtoomcmaifgkkfaaQRules2
import Derived.Shelf.Abstract
import Derived.Outline
set_option maxHeartbeats 8000000
set_option maxRecDepth 100000
section
namespace Go.Proofs.Ytoomcmaifgkkfaa.P
open Go.RowKit Go.Proofs.Ia.Qb Go.Proofs.Ia.Od Go.Proofs.Ia.Re
set_option linter.unusedVariables false
set_option linter.unusedSimpArgs false
attribute [local go_sem] Wh Uh Fj Ej oh nh Vh Th
mutual
def jb.l0:Nat→Int→List Bool→List Int→Int→List Int→Int→Int→Int→List (zf)→Option ((List (List Bool)))
 | 0,_,_,_,_,_,_,_,_,_=>none
 | k + 1,x3,x4,x5,x6,Tc,Uc,Sc,Rc,Zb=>if x6 < (x5.length:Int) then (if 0 ≤ x6 then (if 0 ≤ (rd x5 x6) then (if (rd x5 x6) < (x4.length:Int) then (jb.l0 k x3 (x4.set ((rd x5 x6):Int).toNat true) x5 (wrap64 (x6 + 1)) Tc Uc Sc Rc Zb) else (none)) else (none)) else (none)) else (jb.l1 k x3 x4 (([]:List (List Bool))) 0 Tc Uc Sc Rc Zb)
def jb.l1:Nat→Int→List Bool→List (List Bool)→Int→List Int→Int→Int→Int→List (zf)→Option ((List (List Bool)))
 | 0,_,_,_,_,_,_,_,_,_=>none
 | k + 1,x3,x4,x7,x8,Tc,Uc,Sc,Rc,Zb=>if x8 < x3 then (if 0 ≤ x3 then (if (x3:Int).toNat ≤ 281474976710656 then ((some (List.replicate (x3:Int).toNat false:List Bool)).bind fun ey=>(if x8=0 then (jb.j2 k x3 x4 x7 x8 ey Tc Uc Sc Rc Zb) else ((Eb.f k Tc Uc Sc Rc Zb 0 x8 ey).bind fun t116=>(jb.j2 k x3 x4 x7 x8 t116 Tc Uc Sc Rc Zb)))) else (none)) else (none)) else (some x7)
def jb.j2:Nat→Int→List Bool→List (List Bool)→Int→List Bool→List Int→Int→Int→Int→List (zf)→Option ((List (List Bool)))
 | 0,_,_,_,_,_,_,_,_,_,_=>none
 | k + 1,x3,x4,x7,x8,x9,Tc,Uc,Sc,Rc,Zb=>if 0 ≤ x3 then (if (x3:Int).toNat ≤ 281474976710656 then (jb.l2 k x3 x4 x7 x8 x9 (List.replicate (x3:Int).toNat false) 0 Tc Uc Sc Rc Zb) else (none)) else (none)
def jb.l2:Nat→Int→List Bool→List (List Bool)→Int→List Bool→List Bool→Int→List Int→Int→Int→Int→List (zf)→Option ((List (List Bool)))
 | 0,_,_,_,_,_,_,_,_,_,_,_,_=>none
 | k + 1,x3,x4,x7,x8,x9,iC,BH,Tc,Uc,Sc,Rc,Zb=>if BH < x3 then (if 0 ≤ x8 then (if x8 < (x4.length:Int) then (if sg false x4 x8=true then (if 0 ≤ BH then (if BH < (x4.length:Int) then (if sg false x4 BH=true then (if BH < (x9.length:Int) then (if BH < (iC.length:Int) then (jb.l2 k x3 x4 x7 x8 x9 (iC.set (BH:Int).toNat (!(sg false x9 BH))) (wrap64 (BH + 1)) Tc Uc Sc Rc Zb) else (none)) else (none)) else (if BH < (iC.length:Int) then (jb.l2 k x3 x4 x7 x8 x9 (iC.set (BH:Int).toNat false) (wrap64 (BH + 1)) Tc Uc Sc Rc Zb) else (none))) else (none)) else (none)) else (if 0 ≤ BH then (if BH < (iC.length:Int) then (jb.l2 k x3 x4 x7 x8 x9 (iC.set (BH:Int).toNat false) (wrap64 (BH + 1)) Tc Uc Sc Rc Zb) else (none)) else (none))) else (none)) else (none)) else (if x7.length < 5864062014805 then (jb.l1 k x3 x4 (x7 ++ [iC]) (wrap64 (x8 + 1)) Tc Uc Sc Rc Zb) else (none))
end
def jb.f (k:Nat) (Oa:List Int) (La:Int) (Pa:Int) (Ja:Int) (Fa:List (zf)):Option ((List (List Bool))):=if 0 ≤ (Fa.length:Int) then (if ((Fa.length:Int):Int).toNat ≤ 281474976710656 then ((Ib.f k Oa La Pa Ja Fa).bind fun t105=>(jb.l0 k (Fa.length:Int) (List.replicate ((Fa.length:Int):Int).toNat false) t105 0 Oa La Pa Ja Fa)) else (none)) else (none)
theorem jb.calls (k:Nat) (xb:Option Addr) (qb:Nat) (Oa:List Int) (La:Int) (Pa:Int) (Ja:Int) (Pb:Option Addr) (Gb:Nat) (Fa:List (zf)) (r:List (List Bool)) (w:World) (xe:Kd.C (Kd.int .i64) w xb Oa.length Oa) (we:Oa.length ≤ qb) (Wf:Kd.C Bp w Pb Fa.length Fa) (Uf:Fa.length ≤ Gb) (h:jb.f k Oa La Pa Ja Fa=some r) :
  Calls Try.prog 67 #[.agg #[.slice xb Oa.length qb,.int .i64 La,.int .i64 Pa,.int .i64 Ja,.slice Pb Fa.length Gb]] w fun e w'=>∃ vn:Value,e = .returned (vn)∧Kd.S (Kd.slice 4 Kd.bool) 73 w' w.heap.size (fun _=>True) vn r∧Below w.heap.size w w':=by
 have mA:=Try.underlying45;have Ue:=ga.mk xe;have af:=ga.mk we;clear xe we;have ng:=ga.mk Wf;have Xg:=ga.mk Uf;clear Wf Uf;have HB:=ga.mk (Below.refl w.heap.size w);have H:(if 0 ≤ (Fa.length:Int) then (if ((Fa.length:Int):Int).toNat ≤ 281474976710656 then ((Ib.f k Oa La Pa Ja Fa).bind fun t105=>(jb.l0 k (Fa.length:Int) (List.replicate ((Fa.length:Int):Int).toNat false) t105 0 Oa La Pa Ja Fa)) else (none)) else (none))=some r:=h;clear h
 by_cases c2:0 ≤ (Fa.length:Int)
 ·rw [if_pos c2] at H;have Bq:=eq_true c2;have Lt:decide (0 ≤ (Fa.length:Int))=true:=decide_eq_true c2;clear c2
  by_cases c3:((Fa.length:Int):Int).toNat ≤ 281474976710656
  ·rw [if_pos c3] at H;have Cg:=eq_true c3;have Zl:decide (((Fa.length:Int):Int).toNat ≤ 281474976710656)=true:=decide_eq_true c3;clear c3;obtain ⟨Yd,Rf⟩:∃ y_:List Bool,y_=(List.replicate ((Fa.length:Int):Int).toNat false):=⟨_,rfl⟩;replace H:((Ib.f k Oa La Pa Ja Fa).bind fun t105=>(jb.l0 k (Fa.length:Int) Yd t105 0 Oa La Pa Ja Fa))=some r:=by first|(rw [Rf];with_reducible exact H)|(have Md:=(Option.bind_some _ _).symm.trans H;rw [Rf];with_reducible exact Md)|(have Md:=(Option.bind_some _ _).symm.trans H;with_reducible exact Md)|with_reducible exact H|(rw [Rf];exact H)|exact H
   have ki:=ga.mk Rf;clear Rf;replace H:=Option.bind_eq_some_iff.mp H;obtain ⟨t105,AH,H⟩:=H;replace H:(jb.l0 k (Fa.length:Int) Yd t105 0 Oa La Pa Ja Fa)=some r:=H;have A4:=ga.mk AH;clear AH;have H':=ga.mk H;clear H;go_enter Try.func67,Try.ntmps67;go_wp2_with (first|((with_reducible refine Db (N:=1) rfl ?_);refine Jb ?hg (N:=1) ?hd (cs:=#[.slice xb Oa.length qb,.int .i64 La,.int .i64 Pa,.int .i64 Ja,.slice Pb Fa.length Gb]) (t:=45) ?hr ?_;(case hd=>rfl);(case hg=>rfl);(case hr=>first|(go_simp;done)|(go_simp;rfl));intro za hg w5 Wb hb;have Fb:=ga.mk (Qa (by repeat (first|(with_reducible first|exact HB.out|apply oa|apply ia|apply qa)|exact HB.out)) hb);have Lb:=ga.mk (Wb);have Vb:=ga.mk ((by rw [hg];exact (Ka (by repeat (first|(with_reducible first|exact HB.out|apply oa|apply ia|apply qa)|exact HB.out))):w.heap.size ≤ za));have Bc:=ga.mk ((by rw [hg];exact (Ka (by repeat (first|(with_reducible first|exact HB.out|apply oa|apply ia|apply qa)|exact HB.out))):w.heap.size ≤ za));clear HB;have HB:=Fb;have ta:=Lb;have ye:=Vb;have Sa:=Bc;clear Fb Lb Vb Bc hb Wb hg;have Gu:w5.cell? ⟨za,0,none⟩=some (.slice xb Oa.length qb):=(ja ta.out 0).trans rfl;have Fu:w5.cell? ⟨za,1,none⟩=some (.int .i64 La):=(ja ta.out 1).trans rfl;have Eu:w5.cell? ⟨za,2,none⟩=some (.int .i64 Pa):=(ja ta.out 2).trans rfl;have Du:w5.cell? ⟨za,3,none⟩=some (.int .i64 Ja):=(ja ta.out 3).trans rfl;have Cu:w5.cell? ⟨za,4,none⟩=some (.slice Pb Fa.length Gb):=(ja ta.out 4).trans rfl;have wu:=aa ta.out 0;have vu:=aa ta.out 1;have uu:=aa ta.out 2;have tu:=aa ta.out 3;have su:=aa ta.out 4)|((with_reducible refine Db (N:=16) rfl ?_);refine Kd.Lu Kd.bool _ 4 rfl (N:=16) rfl 73 _ _ rfl (Fa.length:Int) rfl rfl Try.underlying73 (.bool false) 1 NJ rfl (by decide) (by omega) false (ok:=fun _=>True) (Gh:=fun _=>True) rfl (fun _ hk=>hk) trivial (of_decide_eq_true (by first|(with_reducible assumption)|assumption)) (Nat.le_trans (Nat.mul_le_mul_right _ (of_decide_eq_true (by first|(with_reducible assumption)|assumption):(Fa.length:Int).toNat ≤ 281474976710656)) (by omega)) (Below.refl _ _) (Nat.le_refl _) ?_;intro Sh w7 n6 hb um Df;clear um Df;(first|rw [← ki.out] at n6|(simp only [Int.reduceToNat] at n6;rw [← ki.out] at n6));have Fb:=ga.mk (Kd.Qe n6 (Ka (by repeat (first|(with_reducible first|exact HB.out|apply oa|apply ia|apply qa|refine ua ?_ Sa.out)|exact HB.out))));have Lb:=ga.mk (Va (g:=za) (o:=.cells #[.slice xb Oa.length qb,.int .i64 La,.int .i64 Pa,.int .i64 Ja,.slice Pb Fa.length Gb] 45 (0,0)) (by (with_reducible repeat (first|refine Ca ?_ _|refine Ea ?_|refine Da ?_ _));exact ta.out) hb);have Vb:=ga.mk (Qa (by repeat (first|(with_reducible first|exact HB.out|apply oa|apply ia|apply qa|refine ua ?_ Sa.out)|exact HB.out)) hb);clear ta HB;have Ze:=Fb;have ta:=Lb;have HB:=Vb;clear Fb Lb Vb hb n6;have Em:w7.cell? ⟨za,0,none⟩=some (.slice xb Oa.length qb):=(ja ta.out 0).trans rfl;have Dm:w7.cell? ⟨za,1,none⟩=some (.int .i64 La):=(ja ta.out 1).trans rfl;have Cm:w7.cell? ⟨za,2,none⟩=some (.int .i64 Pa):=(ja ta.out 2).trans rfl;have Bm:w7.cell? ⟨za,3,none⟩=some (.int .i64 Ja):=(ja ta.out 3).trans rfl;have Am:w7.cell? ⟨za,4,none⟩=some (.slice Pb Fa.length Gb):=(ja ta.out 4).trans rfl;have zm:=aa ta.out 0;have ym:=aa ta.out 1;have xm:=aa ta.out 2;have wm:=aa ta.out 3;have vm:=aa ta.out 4)|((with_reducible refine zb (f:=68) rfl ?_);refine Dc (some 18) rfl rfl Try.func68 (by kernel_rfl) rfl #[.agg #[.slice xb Oa.length qb,.int .i64 La,.int .i64 Pa,.int .i64 Ja,.slice Pb Fa.length Gb]] rfl (by (try simp only [List.map_toArray,List.map_cons,List.map_nil]);first|done|rfl|(simp only [List.length_drop,List.length_take];rfl)) ?_;(with_reducible refine (Ib.calls k _ _ Oa La Pa Ja _ _ Fa t105 _ ?yc ?uc ?Ad ?yd A4.out).mono ?_);(case yc=>repeat (first|exact (Kd.Mb Ue.out HB.out)|(with_reducible refine Kd.Sb ?_ _)|(with_reducible refine Kd.Rb ?_ _)|(with_reducible refine Kd.jc ?_)));(case uc=>exact af.out);(case Ad=>repeat (first|exact (Kd.Mb ng.out HB.out)|(with_reducible refine Kd.Sb ?_ _)|(with_reducible refine Kd.Rb ?_ _)|(with_reducible refine Kd.jc ?_)));(case yd=>exact Xg.out);rintro e Qn ⟨dB,rfl,Zi,hb⟩;refine ⟨_,rfl,?_⟩;have Fb:=ga.mk (Kd.Xf (by (with_reducible repeat (first|apply Kd.Xa|apply Kd.Wa|apply Kd.yb));exact Ze.out) hb);have Lb:=ga.mk (Kd.Qe Zi (Ka (by repeat (first|(with_reducible first|exact HB.out|apply oa|apply ia|apply qa|refine ua ?_ Sa.out)|exact HB.out))));have Vb:=ga.mk (Va (g:=za) (o:=.cells #[.slice xb Oa.length qb,.int .i64 La,.int .i64 Pa,.int .i64 Ja,.slice Pb Fa.length Gb] 45 (0,0)) (by (with_reducible repeat (first|refine Ca ?_ _|refine Ea ?_|refine Da ?_ _));exact ta.out) hb);have Bc:=ga.mk (Qa (by repeat (first|(with_reducible first|exact HB.out|apply oa|apply ia|apply qa|refine ua ?_ Sa.out)|exact HB.out)) hb);clear Ze ta HB;have Ze:=Fb;have Pn:=Lb;have ta:=Vb;have HB:=Bc;clear Fb Lb Vb Bc;(try clear hb);(try clear Jj);(try clear hk);(try clear hi);(try clear Zi)))
   go_loopg [6] k (fun kq v6 w'=>∃ (Yb:List Bool) (qn:Int),v6 = .int .i64 qn∧ga (jb.l0 kq (Fa.length:Int) Yb t105 qn Oa La Pa Ja Fa=some r)∧ga (kq ≤ k)∧ga (Kd.R Kd.bool 4 w' w.heap.size (fun _=>True) Sh Yb)∧ga (Kd.R (Kd.int .i64) 3 w' w.heap.size (fun _=>True) dB t105)∧ga (w'.heap[za]? = some (.cells #[(.slice xb Oa.length qb),.int .i64 La,.int .i64 Pa,.int .i64 Ja,(.slice Pb Fa.length Gb)] 45 (0,0)))∧ga (Below w.heap.size w w'))
   case atStart=>exact ⟨(Yd),(0),(by first|rfl|(simp;done)|(simp [*];done)),H',⟨Nat.le_refl _⟩,⟨by (with_reducible repeat (first|apply Kd.Xa|apply Kd.Wa|apply Kd.yb));exact Ze.out⟩,⟨by (with_reducible repeat (first|apply Kd.Xa|apply Kd.Wa|apply Kd.yb));exact Pn.out⟩,⟨by (with_reducible repeat (first|refine Ca ?_ _|refine Ea ?_|refine Da ?_ _));exact ta.out⟩,⟨by repeat (first|(with_reducible first|exact HB.out|apply oa|apply ia|apply qa|refine ua ?_ Sa.out)|exact HB.out)⟩⟩
   case round =>
    clear H'
    try clear c2
    try clear Bq
    try clear Lt
    try clear p2
    try clear c3
    try clear Cg
    try clear Zl
    try clear c6
    try clear Gu
    try clear Fu
    try clear Eu
    try clear Du
    try clear Cu
    try clear Em
    try clear Dm
    try clear Cm
    try clear Bm
    try clear Am
    try clear wu
    try clear vu
    try clear uu
    try clear tu
    try clear su
    try clear zm
    try clear ym
    try clear xm
    try clear wm
    try clear vm
    (try clear HA);(try clear Gf);(try clear jd);(try clear Lg);(try clear ta);(try clear HB);obtain ⟨Yb,qn,rfl,HA,Gf,jd,Lg,ta,HB⟩:=hrel;cases gk with
    | zero=>exact absurd HA.out (by simp [jb.l0])
    | succ k1 =>
     have H:=HA.out;clear HA;simp only [jb.l0] at H
     by_cases nQ:qn < (t105.length:Int)
     ·rw [if_pos nQ] at H;have WL:decide (qn < (t105.length:Int))=true:=decide_eq_true nQ;clear nQ
      by_cases Zq:0 ≤ qn
      ·rw [if_pos Zq] at H;have Zx:decide (0 ≤ qn)=true:=decide_eq_true Zq;clear Zq
       by_cases XA:0 ≤ (rd t105 qn)
       ·rw [if_pos XA] at H;have TB:decide (0 ≤ (rd t105 qn))=true:=decide_eq_true XA;clear XA
        by_cases yy:(rd t105 qn) < (Yb.length:Int)
        ·rw [if_pos yy] at H;have SB:decide ((rd t105 qn) < (Yb.length:Int))=true:=decide_eq_true yy;clear yy;obtain ⟨Lz,Ul⟩:∃ y_:List Bool,y_=(Yb.set ((rd t105 qn):Int).toNat true):=⟨_,rfl⟩;replace H:(jb.l0 k1 (Fa.length:Int) Lz t105 (wrap64 (qn + 1)) Oa La Pa Ja Fa)=some r:=by first|(rw [Ul];with_reducible exact H)|(have Md:=(Option.bind_some _ _).symm.trans H;rw [Ul];with_reducible exact Md)|(have Md:=(Option.bind_some _ _).symm.trans H;with_reducible exact Md)|with_reducible exact H|(rw [Ul];exact H)|exact H
         have ZB:=ga.mk Ul;clear Ul;have H':=ga.mk H;clear H;obtain ⟨oN,eN,WZ⟩:=Kd.Jd Lg.out;subst WZ;have xM:0 ≤ (qn:Int):=of_decide_eq_true (by first|(with_reducible assumption)|assumption);have wM:qn < (t105.length:Int):=of_decide_eq_true (by first|(with_reducible assumption)|assumption);obtain ⟨Eat,Aao,IC⟩:=Kd.Ef (Kd.Tb Lg.out).2.2 qn xM wM;cases Aao;replace xM:=eq_true xM;replace wM:=eq_true wM;have LR:0 ≤ ((rd t105 qn):Int):=of_decide_eq_true (by first|(with_reducible assumption)|assumption);have ER:((rd t105 qn):Int) < ((Yb.length:Int):Int):=of_decide_eq_true (by first|(with_reducible assumption)|assumption);obtain ⟨fV,Laa,Jaa,Caa,bao,Rav,uB⟩:=Kd.jk jd.out (by omega);(first|cases Jaa|(injection Jaa with Uj sy uy;(first|subst Uj|(injection Uj with Uj;subst Uj));subst uy;clear sy));have sap:=ga.mk Caa;have Aaw:=ga.mk uB;clear Caa bao uB;obtain ⟨xI,zan⟩:=Kd.gh false jd.out ((rd t105 qn):Int) LR ER;replace LR:=eq_true LR;replace ER:=eq_true ER;have Z3:=Kd.Cl jd.out ((rd t105 qn):Int) true;go_wp2_with (first|((with_reducible refine Xe (t:=4) (p:=30) rfl ?_);refine Ae (t:=4) (p:=30) (v:=?Aal) (w1:=(wr.setCell ⟨fV,((rd t105 qn):Int).toNat,none⟩ (.bool true))) ?hg ?ho ?hn ?hr ?_;(case ho=>rfl);(case hg=>rfl);(case hn=>rfl);(case hr=>first|(go_simp;done)|(go_simp;rfl));intro EH hw;have hg:wr.grownBy EH (some fV):=(by rw [hw];exact Z3.2);have Tk:Kd.R Kd.bool 4 EH w.heap.size (fun _=>True) (.slice (some ⟨fV,0,none⟩) Yb.length Laa) Lz:=(by rw [hw,ZB.out];exact Z3.1);clear Z3;have Fb:=ga.mk (Tk);have Lb:=ga.mk (Kd.Zj (v:=(.slice (some ⟨fV,0,none⟩) Yb.length Laa)) (by (with_reducible repeat (first|apply Kd.Xa|apply Kd.Wa|apply Kd.yb));exact Lg.out) (Kd.Yj jd.out) (by decide) hg);have Vb:=ga.mk (wg (g:=za) (o:=.cells #[.slice xb Oa.length qb,.int .i64 La,.int .i64 Pa,.int .i64 Ja,.slice Pb Fa.length Gb] 45 (0,0)) (by (with_reducible repeat (first|refine Ca ?_ _|refine Ea ?_|refine Da ?_ _));exact ta.out) hg (Kd.Nt jd.out ta.out (by decide)));have Bc:=ga.mk ((by rw [hw];exact ua (HB.out) sap.out:Below w.heap.size w EH));clear jd Lg ta HB;have jd:=Fb;have Lg:=Lb;have ta:=Vb;have HB:=Bc;clear Fb Lb Vb Bc hg hw Tk))
         go_roundg k1
         case measure=>have:=Gf.out;omega
         case rel=>exact ⟨(Lz),(wrap64 (qn + 1)),(by first|rfl|(simp;done)|(simp [*];done)),H',⟨by have:=Gf.out;omega⟩,⟨by (with_reducible repeat (first|apply Kd.Xa|apply Kd.Wa|apply Kd.yb));exact jd.out⟩,⟨by (with_reducible repeat (first|apply Kd.Xa|apply Kd.Wa|apply Kd.yb));exact Lg.out⟩,⟨by (with_reducible repeat (first|refine Ca ?_ _|refine Ea ?_|refine Da ?_ _));exact ta.out⟩,⟨by repeat (first|(with_reducible first|exact HB.out|apply oa|apply ia|apply qa|refine ua ?_ Sa.out)|exact HB.out)⟩⟩
        ·rw [if_neg yy] at H;exact absurd H (by simp)
       ·rw [if_neg XA] at H;exact absurd H (by simp)
      ·rw [if_neg Zq] at H;exact absurd H (by simp)
     ·rw [if_neg nQ] at H;have WL:decide (qn < (t105.length:Int))=false:=decide_eq_false nQ;clear nQ;obtain ⟨CN,Dr⟩:∃ y_:List (List Bool),y_=(([]:List (List Bool))):=⟨_,rfl⟩;replace H:(jb.l1 k1 (Fa.length:Int) Yb CN 0 Oa La Pa Ja Fa)=some r:=by first|(rw [Dr];with_reducible exact H)|(have Md:=(Option.bind_some _ _).symm.trans H;rw [Dr];with_reducible exact Md)|(have Md:=(Option.bind_some _ _).symm.trans H;with_reducible exact Md)|with_reducible exact H|(rw [Dr];exact H)|exact H
      have sH:=ga.mk Dr;clear Dr;have H':=ga.mk H;clear H;obtain ⟨vap,cQ,VZ⟩:=Kd.Jd Lg.out;subst VZ;go_wp2_with (first|((with_reducible refine Db (N:=31) rfl ?_);refine Kd.vQ (Kd.slice 4 Kd.bool) _ 73 ?hg (N:=31) ?hd (xs:=([]:List (List Bool))) (inner:=[]) (ok:=fun _=>True) (Gh:=fun _=>True) ?hr ?hp (fun _ hk=>hk) trivial (Below.refl _ _) (Nat.le_refl _) (by simp) ?_;(case hd=>rfl);(case hg=>rfl);(case hr=>first|(go_simp;done)|(go_simp;rfl));(case hp=>exact (Ld.none _ _));intro Fal w20 UO hb um Df;clear um Df;(first|rw [← sH.out] at UO|(simp only [Int.reduceToNat] at UO;rw [← sH.out] at UO));have Fb:=ga.mk (Kd.Xf (by (with_reducible repeat (first|apply Kd.Xa|apply Kd.Wa|apply Kd.yb));exact jd.out) hb);have Lb:=ga.mk (Kd.Xf (by (with_reducible repeat (first|apply Kd.Xa|apply Kd.Wa|apply Kd.yb));exact Lg.out) hb);have Vb:=ga.mk (Kd.Zo (Kd.K2 UO (Kd.Mn (by (with_reducible repeat (first|apply Kd.Xa|apply Kd.Wa|apply Kd.yb));exact jd.out))) (Ka (by repeat (first|(with_reducible first|exact HB.out|apply oa|apply ia|apply qa|refine ua ?_ Sa.out)|exact HB.out))));have Bc:=ga.mk (Va (g:=za) (o:=.cells #[.slice xb Oa.length qb,.int .i64 La,.int .i64 Pa,.int .i64 Ja,.slice Pb Fa.length Gb] 45 (0,0)) (by (with_reducible repeat (first|refine Ca ?_ _|refine Ea ?_|refine Da ?_ _));exact ta.out) hb);have Ge:=ga.mk (Qa (by repeat (first|(with_reducible first|exact HB.out|apply oa|apply ia|apply qa|refine ua ?_ Sa.out)|exact HB.out)) hb);clear jd Lg ta HB;have jd:=Fb;have Lg:=Lb;have OQ:=Vb;have ta:=Bc;have HB:=Ge;clear Fb Lb Vb Bc Ge hb UO))
      go_loopg [7,8] k1 (fun kq v7 v8 w'=>∃ (Af:List Bool) (Qd:List (List Bool)) (ze:Int),v8 = .int .i64 ze∧ga (jb.l1 kq (Fa.length:Int) Af Qd ze Oa La Pa Ja Fa=some r)∧ga (kq ≤ k1)∧ga (Kd.R Kd.bool 4 w' w.heap.size (fun _=>True) Sh Af)∧ga (Kd.S (Kd.slice 4 Kd.bool) 73 w' w.heap.size (fun k_=>some k_ ≠ (Sh:Value).ownBlock) v7 Qd)∧ga (w'.heap[za]? = some (.cells #[(.slice xb Oa.length qb),.int .i64 La,.int .i64 Pa,.int .i64 Ja,(.slice Pb Fa.length Gb)] 45 (0,0)))∧ga (Below w.heap.size w w'))
      case atStart=>exact ⟨(Yb),(CN),(0),(by first|rfl|(simp;done)|(simp [*];done)),H',⟨Nat.le_refl _⟩,⟨by (with_reducible repeat (first|apply Kd.Xa|apply Kd.Wa|apply Kd.yb));exact jd.out⟩,⟨by (with_reducible repeat (first|apply Kd.Gd|apply Kd.Ed|apply Kd.qe));exact Kd.Bg OQ.out (fun _ hk=>hk.2)⟩,⟨by (with_reducible repeat (first|refine Ca ?_ _|refine Ea ?_|refine Da ?_ _));exact ta.out⟩,⟨by repeat (first|(with_reducible first|exact HB.out|apply oa|apply ia|apply qa|refine ua ?_ Sa.out)|exact HB.out)⟩⟩
      case round =>
       clear H'
       try clear c1
       try clear p1
       try clear q1
       try clear hx1
       try clear hf1
       try clear c2
       try clear Bq
       try clear Lt
       try clear p2
       try clear c3
       try clear Cg
       try clear Zl
       try clear c6
       try clear p6
       try clear AB
       try clear zB
       try clear FO
       try clear nQ
       try clear WL
       try clear Zq
       try clear Zx
       try clear XA
       try clear TB
       try clear yy
       try clear SB
       try clear LR
       try clear ER
       try clear Y5
       try clear D9
       try clear Gu
       try clear Fu
       try clear Eu
       try clear Du
       try clear Cu
       try clear Em
       try clear Dm
       try clear Cm
       try clear Bm
       try clear Am
       try clear wu
       try clear vu
       try clear uu
       try clear tu
       try clear su
       try clear zm
       try clear ym
       try clear xm
       try clear wm
       try clear vm
       try clear IC
       try clear xI
       try clear xM
       try clear LR
       try clear p2
       try clear wM
       try clear ER
       (try clear HA);(try clear Fm);(try clear jd);(try clear sj);(try clear ta);(try clear HB);obtain ⟨Af,Qd,ze,rfl,HA,Fm,jd,sj,ta,HB⟩:=hrel;cases gk with
       | zero=>exact absurd HA.out (by simp [jb.l1])
       | succ k2 =>
        have H:=HA.out;clear HA;simp only [jb.l1] at H
        by_cases xF:ze < (Fa.length:Int)
        ·rw [if_pos xF] at H;have kQ:decide (ze < (Fa.length:Int))=true:=decide_eq_true xF;clear xF
         by_cases Fx:0 ≤ (Fa.length:Int)
         ·rw [if_pos Fx] at H;have EA:=eq_true Fx;have eH:decide (0 ≤ (Fa.length:Int))=true:=decide_eq_true Fx;clear Fx
          by_cases ZE:((Fa.length:Int):Int).toNat ≤ 281474976710656
          ·rw [if_pos ZE] at H;have jQ:=eq_true ZE;have bX:decide (((Fa.length:Int):Int).toNat ≤ 281474976710656)=true:=decide_eq_true ZE;clear ZE;obtain ⟨ey,dG⟩:∃ y_:List Bool,y_=(List.replicate ((Fa.length:Int):Int).toNat false):=⟨_,rfl⟩;replace H:(if ze=0 then (jb.j2 k2 (Fa.length:Int) Af Qd ze ey Oa La Pa Ja Fa) else ((Eb.f k2 Oa La Pa Ja Fa 0 ze ey).bind fun t116=>(jb.j2 k2 (Fa.length:Int) Af Qd ze t116 Oa La Pa Ja Fa)))=some r:=by first|(rw [dG];with_reducible exact H)|(have Md:=(Option.bind_some _ _).symm.trans H;rw [dG];with_reducible exact Md)|(have Md:=(Option.bind_some _ _).symm.trans H;with_reducible exact Md)|with_reducible exact H|(rw [dG];exact H)|exact H
           have oX:=ga.mk dG;clear dG;have K4:=ga.mk H;clear H
           go_upto_if 40 with (first|((with_reducible refine Db (N:=38) rfl ?_);refine Kd.Lu Kd.bool _ 4 rfl (N:=38) rfl 73 _ _ rfl (Fa.length:Int) rfl rfl Try.underlying73 (.bool false) 1 NJ rfl (by decide) (by omega) false (ok:=fun _=>True) (Gh:=fun _=>True) rfl (fun _ hk=>hk) trivial (of_decide_eq_true (by first|(with_reducible assumption)|assumption)) (Nat.le_trans (Nat.mul_le_mul_right _ (of_decide_eq_true (by first|(with_reducible assumption)|assumption):(Fa.length:Int).toNat ≤ 281474976710656)) (by omega)) (Below.refl _ _) (Nat.le_refl _) ?_;intro Ft mm yI hb um Df;clear um Df;(first|rw [← oX.out] at yI|(simp only [Int.reduceToNat] at yI;rw [← oX.out] at yI));have Fb:=ga.mk (Kd.Wi (by (with_reducible repeat (first|apply Kd.Xa|apply Kd.Wa|apply Kd.yb));exact jd.out) (Kd.xh yI) hb);have Lb:=ga.mk (Kd.Uw (by (with_reducible repeat (first|apply Kd.Gd|apply Kd.Ed|apply Kd.qe));exact sj.out) (Kd.xh yI) hb);have Vb:=ga.mk (Kd.Qe (Kd.Xk yI (Kd.Mn (by (with_reducible repeat (first|apply Kd.Xa|apply Kd.Wa|apply Kd.yb));exact jd.out))) (Ka (by repeat (first|(with_reducible first|exact HB.out|apply oa|apply ia|apply qa|refine ua ?_ Sa.out)|exact HB.out))));have Bc:=ga.mk (Va (g:=za) (o:=.cells #[.slice xb Oa.length qb,.int .i64 La,.int .i64 Pa,.int .i64 Ja,.slice Pb Fa.length Gb] 45 (0,0)) (by (with_reducible repeat (first|refine Ca ?_ _|refine Ea ?_|refine Da ?_ _));exact ta.out) hb);have Ge:=ga.mk (Qa (by repeat (first|(with_reducible first|exact HB.out|apply oa|apply ia|apply qa|refine ua ?_ Sa.out)|exact HB.out)) hb);clear jd sj ta HB;have jd:=Fb;have sj:=Lb;have au:=Vb;have ta:=Bc;have HB:=Ge;clear Fb Lb Vb Bc Ge hb yI))
           (try simp only [Act.put,List.setIfInBounds_toArray,List.set_cons_zero,List.set_cons_succ])
           go_cut [] (fun wc=>∃ (kq:Nat) (Gg:List Bool),ga (jb.j2 kq (Fa.length:Int) Af Qd ze Gg Oa La Pa Ja Fa=some r)∧ga (kq ≤ k2)∧ga (Kd.R Kd.bool 4 wc w.heap.size (fun k_=>some k_ ≠ (Ft:Value).ownBlock) Sh Af)∧ga (Kd.S (Kd.slice 4 Kd.bool) 73 wc w.heap.size (fun k_=>some k_ ≠ (Sh:Value).ownBlock∧some k_ ≠ (Ft:Value).ownBlock) u7 Qd)∧ga (Kd.R Kd.bool 4 wc w.heap.size (fun k_=>some k_ ≠ (Sh:Value).ownBlock) Ft Gg)∧ga (wc.heap[za]? = some (.cells #[(.slice xb Oa.length qb),.int .i64 La,.int .i64 Pa,.int .i64 Ja,(.slice Pb Fa.length Gb)] 45 (0,0)))∧ga (Below w.heap.size w wc))
           case first =>
            have H:=K4.out;clear K4
            by_cases Qw:ze=0
            ·rw [if_pos Qw] at H;have Ip:(ze == 0)=true:=beq_iff_eq.mpr Qw;have iQ:(ze != 0)=false:=bne_eq_false_iff_eq.mpr Qw;clear Qw;(first|rw [Ip]|(simp only [dc,ec];rw [Ip])|skip);have H':=ga.mk H;clear H;go_wp2
             go_meet
             case rel=>exact ⟨_,(ey),H',⟨by have:=Gf.out;have:=Fm.out;first|omega|exact Nat.le_refl _⟩,⟨by (with_reducible repeat (first|apply Kd.Xa|apply Kd.Wa|apply Kd.yb));exact Kd.Jc jd.out (fun _ hk=>hk.2)⟩,⟨by (with_reducible repeat (first|apply Kd.Gd|apply Kd.Ed|apply Kd.qe));exact sj.out⟩,⟨by (with_reducible repeat (first|apply Kd.Xa|apply Kd.Wa|apply Kd.yb));exact Kd.Jc au.out (fun _ hk=>hk.2)⟩,⟨by (with_reducible repeat (first|refine Ca ?_ _|refine Ea ?_|refine Da ?_ _));exact ta.out⟩,⟨by repeat (first|(with_reducible first|exact HB.out|apply oa|apply ia|apply qa|refine ua ?_ Sa.out)|exact HB.out)⟩⟩
            ·rw [if_neg Qw] at H;have Ip:(ze == 0)=false:=beq_eq_false_iff_ne.mpr Qw;have iQ:(ze != 0)=true:=bne_iff_ne.mpr Qw;(first|rw [Ip]|(simp only [dc,ec];rw [Ip])|skip);replace H:=Option.bind_eq_some_iff.mp H;obtain ⟨t116,xad,H⟩:=H;replace H:(jb.j2 k2 (Fa.length:Int) Af Qd ze t116 Oa La Pa Ja Fa)=some r:=H;have A29:=ga.mk xad;clear xad;have H':=ga.mk H;clear H;have wz:mm.cell? ⟨za,0,none⟩=some (.slice xb Oa.length qb):=(ja ta.out 0).trans rfl;have uz:mm.cell? ⟨za,1,none⟩=some (.int .i64 La):=(ja ta.out 1).trans rfl;have rz:mm.cell? ⟨za,2,none⟩=some (.int .i64 Pa):=(ja ta.out 2).trans rfl;have qz:mm.cell? ⟨za,3,none⟩=some (.int .i64 Ja):=(ja ta.out 3).trans rfl;have pz:mm.cell? ⟨za,4,none⟩=some (.slice Pb Fa.length Gb):=(ja ta.out 4).trans rfl;have Wy:=aa ta.out 0;have Vy:=aa ta.out 1;have Uy:=aa ta.out 2;have Ty:=aa ta.out 3;have Sy:=aa ta.out 4;obtain ⟨nN,dN,TZ⟩:=Kd.Jd au.out;subst TZ;go_wp2_with (first|((with_reducible refine zb (f:=102) rfl ?_);refine Dc (some 44) rfl rfl Try.func102 (by kernel_rfl) rfl #[.agg #[.slice xb Oa.length qb,.int .i64 La,.int .i64 Pa,.int .i64 Ja,.slice Pb Fa.length Gb],.int .i64 0,.int .i64 ze,.slice nN ey.length dN] rfl (by (try simp only [List.map_toArray,List.map_cons,List.map_nil]);first|done|rfl|(simp only [List.length_drop,List.length_take];rfl)) ?_;(with_reducible refine (Eb.calls k2 _ _ Oa La Pa Ja _ _ Fa 0 ze (fun k_=>some k_=(.slice nN ey.length dN:Value).ownBlock) (.slice nN ey.length dN) ey t116 w _ ?yc ?uc ?Ad ?yd ?Su ?Ru A29.out).mono ?_);(case yc=>repeat (first|(with_reducible first|exact HB.out|apply oa|apply ia|apply qa|refine ua ?_ Sa.out)|exact HB.out));(case uc=>exact Kd.Nr (Kd.Ui .i64) Ue.out (by repeat (first|(with_reducible first|exact HB.out|apply oa|apply ia|apply qa|refine ua ?_ Sa.out)|exact HB.out)) (fun k_ hs_=>(fun e_=>Kd.xh au.out k_ e_.symm) hs_));(case Ad=>exact af.out);(case yd=>exact Kd.Nr pO ng.out (by repeat (first|(with_reducible first|exact HB.out|apply oa|apply ia|apply qa|refine ua ?_ Sa.out)|exact HB.out)) (fun k_ hs_=>(fun e_=>Kd.xh au.out k_ e_.symm) hs_));(case Su=>exact Xg.out);(case Ru=>exact Kd.Fq rfl au.out);rintro e w32 ⟨rfl,hy0,hb,hkp⟩;refine ⟨_,rfl,?_⟩;have Fb:=ga.mk (Kd.Jc (Cn:=fun k_=>some k_ ≠ (.slice nN ey.length dN:Value).ownBlock) (Kd.Hz (jd.out) hkp (fun k_ Tv hs_=>(Tv.2) hs_)) (fun k_ Tv=>Tv.1.2));have Lb:=ga.mk (Kd.Bg (Cn:=fun k_=>some k_ ≠ (Sh:Value).ownBlock∧some k_ ≠ (.slice nN ey.length dN:Value).ownBlock) (Kd.uV (sj.out) hkp (fun k_ Tv hs_=>(Tv.2) hs_)) (fun k_ Tv=>⟨Tv.1.1,Tv.1.2⟩));have Vb:=ga.mk (Nh (by (with_reducible repeat (first|refine Ca ?_ _|refine Ea ?_|refine Da ?_ _));exact ta.out) hkp (fun hs_=>(fun e_=>(Kd.Nt au.out ta.out (by decide)) e_) hs_));have Bc:=ga.mk (Kd.yQ rfl hy0 (fun k_ e_=>au.out.1 k_ e_));have Ge:=ga.mk (hb);clear jd sj ta au HB;have jd:=Fb;have sj:=Lb;have ta:=Vb;have au:=Bc;have HB:=Ge;clear Fb Lb Vb Bc Ge;(try clear hb);(try clear hkp);(try clear hy0)))
             go_meet
             case rel=>exact ⟨_,(t116),H',⟨by have:=Gf.out;have:=Fm.out;first|omega|exact Nat.le_refl _⟩,⟨by (with_reducible repeat (first|apply Kd.Xa|apply Kd.Wa|apply Kd.yb));exact jd.out⟩,⟨by (with_reducible repeat (first|apply Kd.Gd|apply Kd.Ed|apply Kd.qe));exact sj.out⟩,⟨by (with_reducible repeat (first|apply Kd.Xa|apply Kd.Wa|apply Kd.yb));exact Kd.Jc au.out (fun _ hk=>hk.2)⟩,⟨by (with_reducible repeat (first|refine Ca ?_ _|refine Ea ?_|refine Da ?_ _));exact ta.out⟩,⟨by repeat (first|(with_reducible first|exact HB.out|apply oa|apply ia|apply qa|refine ua ?_ Sa.out)|exact HB.out)⟩⟩
           case rest =>
            clear K4
            try clear c1
            try clear p1
            try clear q1
            try clear hx1
            try clear hf1
            try clear c2
            try clear Bq
            try clear Lt
            try clear p2
            try clear c3
            try clear Cg
            try clear Zl
            try clear c6
            try clear p6
            try clear c10
            try clear AB
            try clear zB
            try clear FO
            try clear nQ
            try clear WL
            try clear Zq
            try clear Zx
            try clear XA
            try clear TB
            try clear yy
            try clear SB
            try clear LR
            try clear ER
            try clear Y5
            try clear D9
            try clear xF
            try clear kQ
            try clear Fx
            try clear EA
            try clear eH
            try clear ZE
            try clear jQ
            try clear bX
            try clear Qw
            try clear Ip
            try clear iQ
            try clear wz
            try clear uz
            try clear rz
            try clear qz
            try clear pz
            try clear Gu
            try clear Fu
            try clear Eu
            try clear Du
            try clear Cu
            try clear Em
            try clear Dm
            try clear Cm
            try clear Bm
            try clear Am
            try clear Wy
            try clear Vy
            try clear Uy
            try clear Ty
            try clear Sy
            try clear wu
            try clear vu
            try clear uu
            try clear tu
            try clear su
            try clear zm
            try clear ym
            try clear xm
            try clear wm
            try clear vm
            try clear IC
            try clear xI
            try clear p1
            try clear AB
            try clear xM
            try clear LR
            try clear p2
            try clear p6
            try clear q1
            try clear zB
            try clear wM
            try clear ER
            obtain ⟨kq,Gg,HA,wH,jd,sj,jh,ta,HB⟩:=hcut;cases kq with
            | zero=>exact absurd HA.out (by simp [jb.j2])
            | succ JY =>
             have H:=HA.out;clear HA;simp only [jb.j2] at H
             by_cases dH:0 ≤ (Fa.length:Int)
             ·rw [if_pos dH] at H;have mab:=eq_true dH;have lab:decide (0 ≤ (Fa.length:Int))=true:=decide_eq_true dH;clear dH
              by_cases cH:((Fa.length:Int):Int).toNat ≤ 281474976710656
              ·rw [if_pos cH] at H;have kab:=eq_true cH;have jab:decide (((Fa.length:Int):Int).toNat ≤ 281474976710656)=true:=decide_eq_true cH;clear cH;obtain ⟨Kz,Sl⟩:∃ y_:List Bool,y_=(List.replicate ((Fa.length:Int):Int).toNat false):=⟨_,rfl⟩;replace H:(jb.l2 JY (Fa.length:Int) Af Qd ze Gg Kz 0 Oa La Pa Ja Fa)=some r:=by first|(rw [Sl];with_reducible exact H)|(have Md:=(Option.bind_some _ _).symm.trans H;rw [Sl];with_reducible exact Md)|(have Md:=(Option.bind_some _ _).symm.trans H;with_reducible exact Md)|with_reducible exact H|(rw [Sl];exact H)|exact H
               have YB:=ga.mk Sl;clear Sl;have H':=ga.mk H;clear H;go_wp2_with (first|((with_reducible refine Db (N:=46) rfl ?_);refine Kd.Lu Kd.bool _ 4 rfl (N:=46) rfl 73 _ _ rfl (Fa.length:Int) rfl rfl Try.underlying73 (.bool false) 1 NJ rfl (by decide) (by omega) false (ok:=fun _=>True) (Gh:=fun _=>True) rfl (fun _ hk=>hk) trivial (of_decide_eq_true (by first|(with_reducible assumption)|assumption)) (Nat.le_trans (Nat.mul_le_mul_right _ (of_decide_eq_true (by first|(with_reducible assumption)|assumption):(Fa.length:Int).toNat ≤ 281474976710656)) (by omega)) (Below.refl _ _) (Nat.le_refl _) ?_;intro kC iY kG hb um Df;clear um Df;(first|rw [← YB.out] at kG|(simp only [Int.reduceToNat] at kG;rw [← YB.out] at kG));have Fb:=ga.mk (Kd.Wi (by (with_reducible repeat (first|apply Kd.Xa|apply Kd.Wa|apply Kd.yb));exact jd.out) (Kd.xh kG) hb);have Lb:=ga.mk (Kd.Uw (by (with_reducible repeat (first|apply Kd.Gd|apply Kd.Ed|apply Kd.qe));exact sj.out) (Kd.xh kG) hb);have Vb:=ga.mk (Kd.Wi (by (with_reducible repeat (first|apply Kd.Xa|apply Kd.Wa|apply Kd.yb));exact jh.out) (Kd.xh kG) hb);have Bc:=ga.mk (Kd.Qe (Kd.Xk (Kd.Xk kG (Kd.Mn (by (with_reducible repeat (first|apply Kd.Xa|apply Kd.Wa|apply Kd.yb));exact jd.out))) (Kd.Mn (by (with_reducible repeat (first|apply Kd.Xa|apply Kd.Wa|apply Kd.yb));exact jh.out))) (Ka (by repeat (first|(with_reducible first|exact HB.out|apply oa|apply ia|apply qa|refine ua ?_ Sa.out)|exact HB.out))));have Ge:=ga.mk (Va (g:=za) (o:=.cells #[.slice xb Oa.length qb,.int .i64 La,.int .i64 Pa,.int .i64 Ja,.slice Pb Fa.length Gb] 45 (0,0)) (by (with_reducible repeat (first|refine Ca ?_ _|refine Ea ?_|refine Da ?_ _));exact ta.out) hb);have Zf:=ga.mk (Qa (by repeat (first|(with_reducible first|exact HB.out|apply oa|apply ia|apply qa|refine ua ?_ Sa.out)|exact HB.out)) hb);clear jd sj jh ta HB;have jd:=Fb;have sj:=Lb;have jh:=Vb;have Km:=Bc;have ta:=Ge;have HB:=Zf;clear Fb Lb Vb Bc Ge Zf hb kG))
               go_loopg [11] JY (fun kq v11 w'=>∃ (Fe:List Bool) (Pc:Int),v11 = .int .i64 Pc∧ga (jb.l2 kq (Fa.length:Int) Af Qd ze Gg Fe Pc Oa La Pa Ja Fa=some r)∧ga (kq ≤ JY)∧ga (Kd.R Kd.bool 4 w' w.heap.size (fun k_=>some k_ ≠ (Ft:Value).ownBlock∧some k_ ≠ (kC:Value).ownBlock) Sh Af)∧ga (Kd.S (Kd.slice 4 Kd.bool) 73 w' w.heap.size (fun k_=>some k_ ≠ (Sh:Value).ownBlock∧some k_ ≠ (Ft:Value).ownBlock∧some k_ ≠ (kC:Value).ownBlock) u7 Qd)∧ga (Kd.R Kd.bool 4 w' w.heap.size (fun k_=>some k_ ≠ (Sh:Value).ownBlock∧some k_ ≠ (kC:Value).ownBlock) Ft Gg)∧ga (Kd.R Kd.bool 4 w' w.heap.size (fun k_=>some k_ ≠ (Sh:Value).ownBlock∧some k_ ≠ (Ft:Value).ownBlock) kC Fe)∧ga (w'.heap[za]? = some (.cells #[(.slice xb Oa.length qb),.int .i64 La,.int .i64 Pa,.int .i64 Ja,(.slice Pb Fa.length Gb)] 45 (0,0)))∧ga (Below w.heap.size w w'))
               case atStart=>exact ⟨(Kz),(0),(by first|rfl|(simp;done)|(simp [*];done)),H',⟨Nat.le_refl _⟩,⟨by (with_reducible repeat (first|apply Kd.Xa|apply Kd.Wa|apply Kd.yb));exact jd.out⟩,⟨by (with_reducible repeat (first|apply Kd.Gd|apply Kd.Ed|apply Kd.qe));exact Kd.Bg sj.out (fun _ hk=>⟨hk.1.1,⟨hk.1.2,hk.2⟩⟩)⟩,⟨by (with_reducible repeat (first|apply Kd.Xa|apply Kd.Wa|apply Kd.yb));exact jh.out⟩,⟨by (with_reducible repeat (first|apply Kd.Xa|apply Kd.Wa|apply Kd.yb));exact Kd.Jc Km.out (fun _ hk=>⟨hk.1.2,hk.2⟩)⟩,⟨by (with_reducible repeat (first|refine Ca ?_ _|refine Ea ?_|refine Da ?_ _));exact ta.out⟩,⟨by repeat (first|(with_reducible first|exact HB.out|apply oa|apply ia|apply qa|refine ua ?_ Sa.out)|exact HB.out)⟩⟩
               case round =>
                clear H'
                try clear c1
                try clear p1
                try clear q1
                try clear hx1
                try clear hf1
                try clear c2
                try clear Bq
                try clear Lt
                try clear p2
                try clear c3
                try clear Cg
                try clear Zl
                try clear c6
                try clear p6
                try clear c10
                try clear AB
                try clear zB
                try clear FO
                try clear nQ
                try clear WL
                try clear Zq
                try clear Zx
                try clear XA
                try clear TB
                try clear yy
                try clear SB
                try clear LR
                try clear ER
                try clear Y5
                try clear D9
                try clear xF
                try clear kQ
                try clear Fx
                try clear EA
                try clear eH
                try clear ZE
                try clear jQ
                try clear bX
                try clear Qw
                try clear Ip
                try clear iQ
                try clear dH
                try clear mab
                try clear lab
                try clear cH
                try clear kab
                try clear jab
                try clear wz
                try clear uz
                try clear rz
                try clear qz
                try clear pz
                try clear Gu
                try clear Fu
                try clear Eu
                try clear Du
                try clear Cu
                try clear Em
                try clear Dm
                try clear Cm
                try clear Bm
                try clear Am
                try clear Wy
                try clear Vy
                try clear Uy
                try clear Ty
                try clear Sy
                try clear wu
                try clear vu
                try clear uu
                try clear tu
                try clear su
                try clear zm
                try clear ym
                try clear xm
                try clear wm
                try clear vm
                try clear IC
                try clear xI
                try clear p1
                try clear AB
                try clear xM
                try clear LR
                try clear p2
                try clear p6
                try clear q1
                try clear zB
                try clear wM
                try clear ER
                (try clear HA);(try clear NV);(try clear jd);(try clear sj);(try clear jh);(try clear ni);(try clear ta);(try clear HB);obtain ⟨Fe,Pc,rfl,HA,NV,jd,sj,jh,ni,ta,HB⟩:=hrel;cases gk with
                | zero=>exact absurd HA.out (by simp [jb.l2])
                | succ k4 =>
                 have H:=HA.out;clear HA;simp only [jb.l2] at H
                 by_cases G1:Pc < (Fa.length:Int)
                 ·rw [if_pos G1] at H;have iab:decide (Pc < (Fa.length:Int))=true:=decide_eq_true G1;clear G1
                  by_cases c38:0 ≤ ze
                  ·rw [if_pos c38] at H;have zat:decide (0 ≤ ze)=true:=decide_eq_true c38;clear c38
                   by_cases c39:ze < (Af.length:Int)
                   ·rw [if_pos c39] at H;have yat:decide (ze < (Af.length:Int))=true:=decide_eq_true c39;clear c39;obtain ⟨wab,BP⟩:∃ b_:Bool,b_=(sg false Af ze):=⟨_,rfl⟩;replace H:(if wab=true then (if 0 ≤ Pc then (if Pc < (Af.length:Int) then (if sg false Af Pc=true then (if Pc < (Gg.length:Int) then (if Pc < (Fe.length:Int) then (jb.l2 k4 (Fa.length:Int) Af Qd ze Gg (Fe.set (Pc:Int).toNat (!(sg false Gg Pc))) (wrap64 (Pc + 1)) Oa La Pa Ja Fa) else (none)) else (none)) else (if Pc < (Fe.length:Int) then (jb.l2 k4 (Fa.length:Int) Af Qd ze Gg (Fe.set (Pc:Int).toNat false) (wrap64 (Pc + 1)) Oa La Pa Ja Fa) else (none))) else (none)) else (none)) else (if 0 ≤ Pc then (if Pc < (Fe.length:Int) then (jb.l2 k4 (Fa.length:Int) Af Qd ze Gg (Fe.set (Pc:Int).toNat false) (wrap64 (Pc + 1)) Oa La Pa Ja Fa) else (none)) else (none)))=some r:=by rw [← BP] at H;exact H
                    have aC:=ga.mk BP;clear BP
                    by_cases c41:wab=true
                    ·subst c41;have H1:(if 0 ≤ Pc then (if Pc < (Af.length:Int) then (if sg false Af Pc=true then (if Pc < (Gg.length:Int) then (if Pc < (Fe.length:Int) then (jb.l2 k4 (Fa.length:Int) Af Qd ze Gg (Fe.set (Pc:Int).toNat (!(sg false Gg Pc))) (wrap64 (Pc + 1)) Oa La Pa Ja Fa) else (none)) else (none)) else (if Pc < (Fe.length:Int) then (jb.l2 k4 (Fa.length:Int) Af Qd ze Gg (Fe.set (Pc:Int).toNat false) (wrap64 (Pc + 1)) Oa La Pa Ja Fa) else (none))) else (none)) else (none))=some r:=by rw [if_pos rfl] at H;exact H
                     clear H;have H:=H1;clear H1
                     by_cases fQ:0 ≤ Pc
                     ·rw [if_pos fQ] at H;have QW:decide (0 ≤ Pc)=true:=decide_eq_true fQ;clear fQ
                      by_cases SL:Pc < (Af.length:Int)
                      ·rw [if_pos SL] at H;have eab:decide (Pc < (Af.length:Int))=true:=decide_eq_true SL;clear SL;obtain ⟨vab,AP⟩:∃ b_:Bool,b_=(sg false Af Pc):=⟨_,rfl⟩;replace H:(if vab=true then (if Pc < (Gg.length:Int) then (if Pc < (Fe.length:Int) then (jb.l2 k4 (Fa.length:Int) Af Qd ze Gg (Fe.set (Pc:Int).toNat (!(sg false Gg Pc))) (wrap64 (Pc + 1)) Oa La Pa Ja Fa) else (none)) else (none)) else (if Pc < (Fe.length:Int) then (jb.l2 k4 (Fa.length:Int) Af Qd ze Gg (Fe.set (Pc:Int).toNat false) (wrap64 (Pc + 1)) Oa La Pa Ja Fa) else (none)))=some r:=by rw [← AP] at H;exact H
                       have uH:=ga.mk AP;clear AP
                       by_cases YE:vab=true
                       ·subst YE;have H1:(if Pc < (Gg.length:Int) then (if Pc < (Fe.length:Int) then (jb.l2 k4 (Fa.length:Int) Af Qd ze Gg (Fe.set (Pc:Int).toNat (!(sg false Gg Pc))) (wrap64 (Pc + 1)) Oa La Pa Ja Fa) else (none)) else (none))=some r:=by rw [if_pos rfl] at H;exact H
                        clear H;have H:=H1;clear H1
                        by_cases QB:Pc < (Gg.length:Int)
                        ·rw [if_pos QB] at H;have RL:decide (Pc < (Gg.length:Int))=true:=decide_eq_true QB;clear QB
                         by_cases c47:Pc < (Fe.length:Int)
                         ·rw [if_pos c47] at H;have xat:decide (Pc < (Fe.length:Int))=true:=decide_eq_true c47;clear c47;obtain ⟨fY,ZF⟩:∃ y_:List Bool,y_=(Fe.set (Pc:Int).toNat (!(sg false Gg Pc))):=⟨_,rfl⟩;replace H:(jb.l2 k4 (Fa.length:Int) Af Qd ze Gg fY (wrap64 (Pc + 1)) Oa La Pa Ja Fa)=some r:=by first|(rw [ZF];with_reducible exact H)|(have Md:=(Option.bind_some _ _).symm.trans H;rw [ZF];with_reducible exact Md)|(have Md:=(Option.bind_some _ _).symm.trans H;with_reducible exact Md)|with_reducible exact H|(rw [ZF];exact H)|exact H
                          have Uab:=ga.mk ZF;clear ZF;have H':=ga.mk H;clear H;obtain ⟨Iaw,Q0,lao⟩:=Kd.Jd jd.out;subst lao;have iu:0 ≤ (ze:Int):=of_decide_eq_true (by first|(with_reducible assumption)|assumption);have eu:ze < (Af.length:Int):=of_decide_eq_true (by first|(with_reducible assumption)|assumption);obtain ⟨Im,UI,Kl⟩:=Kd.Xj (Kd.Tb jd.out).2.2 ze iu eu;(try rw [← aC.out] at Kl);(try rw [← uH.out] at Kl);cases UI;replace iu:=eq_true iu;replace eu:=eq_true eu;have Jt:0 ≤ (Pc:Int):=of_decide_eq_true (by first|(with_reducible assumption)|assumption);have Ht:Pc < (Af.length:Int):=of_decide_eq_true (by first|(with_reducible assumption)|assumption);obtain ⟨Kp,TI,Yn⟩:=Kd.Xj (Kd.Tb jd.out).2.2 Pc Jt Ht;(try rw [← aC.out] at Yn);(try rw [← uH.out] at Yn);obtain rfl:Im=Kp:=(by injection TI);replace Jt:=eq_true Jt;replace Ht:=eq_true Ht;obtain ⟨Gaw,P0,kao⟩:=Kd.Jd jh.out;subst kao;have ny:0 ≤ (Pc:Int):=of_decide_eq_true (by first|(with_reducible assumption)|assumption);have jy:Pc < (Gg.length:Int):=of_decide_eq_true (by first|(with_reducible assumption)|assumption);obtain ⟨JA,SP,Fk⟩:=Kd.Xj (Kd.Tb jh.out).2.2 Pc ny jy;(try rw [← aC.out] at Fk);(try rw [← uH.out] at Fk);cases SP;replace ny:=eq_true ny;replace jy:=eq_true jy;have p48:0 ≤ (Pc:Int):=of_decide_eq_true (by first|(with_reducible assumption)|assumption);have q48:(Pc:Int) < ((Fe.length:Int):Int):=of_decide_eq_true (by first|(with_reducible assumption)|assumption);obtain ⟨ME,ZI,Iaa,Aaa,Zan,Pav,Xac⟩:=Kd.jk ni.out (by omega);(first|cases Iaa|(injection Iaa with Uj sy uy;(first|subst Uj|(injection Uj with Uj;subst Uj));subst uy;clear sy));have qap:=ga.mk Aaa;have yaw:=ga.mk Xac;clear Aaa Zan Xac;obtain ⟨gam,van⟩:=Kd.gh false ni.out (Pc:Int) p48 q48;replace p48:=eq_true p48;replace q48:=eq_true q48;have O3:=Kd.Cl ni.out (Pc:Int) (!(sg false Gg Pc));go_wp2_with (first|((with_reducible refine Xe (t:=4) (p:=71) rfl ?_);refine Ae (t:=4) (p:=71) (v:=?qal) (w1:=(wr.setCell ⟨ME,(Pc:Int).toNat,none⟩ (.bool (!(sg false Gg Pc))))) ?hg ?ho ?hn ?hr ?_;(case ho=>rfl);(case hg=>rfl);(case hn=>rfl);(case hr=>first|(go_simp;done)|(go_simp;rfl));intro w52 hw;have hg:wr.grownBy w52 (some ME):=(by rw [hw];exact O3.2);have Tk:Kd.R Kd.bool 4 w52 w.heap.size (fun k_=>some k_ ≠ (.slice (some Im) Af.length Q0:Value).ownBlock∧some k_ ≠ (.slice (some JA) Gg.length P0:Value).ownBlock) (.slice (some ⟨ME,0,none⟩) Fe.length ZI) fY:=(by rw [hw,Uab.out];exact O3.1);clear O3;have Fb:=ga.mk (Kd.yh (v:=(.slice (some ⟨ME,0,none⟩) Fe.length ZI)) (v1:=(.slice (some ⟨ME,0,none⟩) Fe.length ZI)) (ok:=(fun k_=>some k_ ≠ (.slice (some JA) Gg.length P0:Value).ownBlock)) (by (with_reducible repeat (first|apply Kd.Xa|apply Kd.Wa|apply Kd.yb));exact jd.out) hg (.inl rfl));have Lb:=ga.mk (Kd.Fz (v:=(.slice (some ⟨ME,0,none⟩) Fe.length ZI)) (v1:=(.slice (some ⟨ME,0,none⟩) Fe.length ZI)) (ok:=(fun k_=>some k_ ≠ (.slice (some Im) Af.length Q0:Value).ownBlock∧some k_ ≠ (.slice (some JA) Gg.length P0:Value).ownBlock)) (by (with_reducible repeat (first|apply Kd.Gd|apply Kd.Ed|apply Kd.qe));exact Kd.Bg sj.out (fun _ hk=>⟨⟨hk.1,hk.2.1⟩,hk.2.2⟩)) hg (.inl rfl));have Vb:=ga.mk (Kd.yh (v:=(.slice (some ⟨ME,0,none⟩) Fe.length ZI)) (v1:=(.slice (some ⟨ME,0,none⟩) Fe.length ZI)) (ok:=(fun k_=>some k_ ≠ (.slice (some Im) Af.length Q0:Value).ownBlock)) (by (with_reducible repeat (first|apply Kd.Xa|apply Kd.Wa|apply Kd.yb));exact jh.out) hg (.inl rfl));have Bc:=ga.mk (Tk);have Ge:=ga.mk (wg (g:=za) (o:=.cells #[.slice xb Oa.length qb,.int .i64 La,.int .i64 Pa,.int .i64 Ja,.slice Pb Fa.length Gb] 45 (0,0)) (by (with_reducible repeat (first|refine Ca ?_ _|refine Ea ?_|refine Da ?_ _));exact ta.out) hg (Kd.Nt ni.out ta.out (by decide)));have Zf:=ga.mk ((by rw [hw];exact ua (HB.out) qap.out:Below w.heap.size w w52));clear jd sj jh ni ta HB;have jd:=Fb;have sj:=Lb;have jh:=Vb;have ni:=Bc;have ta:=Ge;have HB:=Zf;clear Fb Lb Vb Bc Ge Zf hg hw Tk))
                          go_roundg k4
                          case measure=>have:=Gf.out;have:=Fm.out;have:=wH.out;have:=NV.out;omega
                          case rel=>exact ⟨(fY),(wrap64 (Pc + 1)),(by first|rfl|(simp;done)|(simp [*];done)),H',⟨by have:=Gf.out;have:=Fm.out;have:=wH.out;have:=NV.out;omega⟩,⟨by (with_reducible repeat (first|apply Kd.Xa|apply Kd.Wa|apply Kd.yb));exact jd.out⟩,⟨by (with_reducible repeat (first|apply Kd.Gd|apply Kd.Ed|apply Kd.qe));exact Kd.Bg sj.out (fun _ hk=>⟨hk.1.1,⟨hk.1.2,hk.2⟩⟩)⟩,⟨by (with_reducible repeat (first|apply Kd.Xa|apply Kd.Wa|apply Kd.yb));exact jh.out⟩,⟨by (with_reducible repeat (first|apply Kd.Xa|apply Kd.Wa|apply Kd.yb));exact ni.out⟩,⟨by (with_reducible repeat (first|refine Ca ?_ _|refine Ea ?_|refine Da ?_ _));exact ta.out⟩,⟨by repeat (first|(with_reducible first|exact HB.out|apply oa|apply ia|apply qa|refine ua ?_ Sa.out)|exact HB.out)⟩⟩
                         ·rw [if_neg c47] at H;exact absurd H (by simp)
                        ·rw [if_neg QB] at H;exact absurd H (by simp)
                       ·replace YE:=Bool.eq_false_iff.mpr YE;subst YE;have H1:(if Pc < (Fe.length:Int) then (jb.l2 k4 (Fa.length:Int) Af Qd ze Gg (Fe.set (Pc:Int).toNat false) (wrap64 (Pc + 1)) Oa La Pa Ja Fa) else (none))=some r:=by rw [if_neg (show ¬ (false=true) by decide)] at H;exact H
                        clear H;have H:=H1;clear H1
                        by_cases tN:Pc < (Fe.length:Int)
                        ·rw [if_pos tN] at H;have PW:decide (Pc < (Fe.length:Int))=true:=decide_eq_true tN;clear tN;obtain ⟨yF,Br⟩:∃ y_:List Bool,y_=(Fe.set (Pc:Int).toNat false):=⟨_,rfl⟩;replace H:(jb.l2 k4 (Fa.length:Int) Af Qd ze Gg yF (wrap64 (Pc + 1)) Oa La Pa Ja Fa)=some r:=by first|(rw [Br];with_reducible exact H)|(have Md:=(Option.bind_some _ _).symm.trans H;rw [Br];with_reducible exact Md)|(have Md:=(Option.bind_some _ _).symm.trans H;with_reducible exact Md)|with_reducible exact H|(rw [Br];exact H)|exact H
                         have FQ:=ga.mk Br;clear Br;have H':=ga.mk H;clear H;obtain ⟨Faw,O0,jao⟩:=Kd.Jd jd.out;subst jao;have iu:0 ≤ (ze:Int):=of_decide_eq_true (by first|(with_reducible assumption)|assumption);have eu:ze < (Af.length:Int):=of_decide_eq_true (by first|(with_reducible assumption)|assumption);obtain ⟨Im,UI,Kl⟩:=Kd.Xj (Kd.Tb jd.out).2.2 ze iu eu;(try rw [← aC.out] at Kl);(try rw [← uH.out] at Kl);cases UI;replace iu:=eq_true iu;replace eu:=eq_true eu;have Jt:0 ≤ (Pc:Int):=of_decide_eq_true (by first|(with_reducible assumption)|assumption);have Ht:Pc < (Af.length:Int):=of_decide_eq_true (by first|(with_reducible assumption)|assumption);obtain ⟨Kp,TI,Yn⟩:=Kd.Xj (Kd.Tb jd.out).2.2 Pc Jt Ht;(try rw [← aC.out] at Yn);(try rw [← uH.out] at Yn);obtain rfl:Im=Kp:=(by injection TI);replace Jt:=eq_true Jt;replace Ht:=eq_true Ht;have p54:0 ≤ (Pc:Int):=of_decide_eq_true (by first|(with_reducible assumption)|assumption);have q54:(Pc:Int) < ((Fe.length:Int):Int):=of_decide_eq_true (by first|(with_reducible assumption)|assumption);obtain ⟨KE,YI,Haa,yaa,Xan,Nav,Wac⟩:=Kd.jk ni.out (by omega);(first|cases Haa|(injection Haa with Uj sy uy;(first|subst Uj|(injection Uj with Uj;subst Uj));subst uy;clear sy));have oap:=ga.mk yaa;have waw:=ga.mk Wac;clear yaa Xan Wac;obtain ⟨fam,uan⟩:=Kd.gh false ni.out (Pc:Int) p54 q54;replace p54:=eq_true p54;replace q54:=eq_true q54;have L3:=Kd.Cl ni.out (Pc:Int) false;go_wp2_with (first|((with_reducible refine Xe (t:=4) (p:=71) rfl ?_);refine Ae (t:=4) (p:=71) (v:=?pal) (w1:=(wr.setCell ⟨KE,(Pc:Int).toNat,none⟩ (.bool false))) ?hg ?ho ?hn ?hr ?_;(case ho=>rfl);(case hg=>rfl);(case hn=>rfl);(case hr=>first|(go_simp;done)|(go_simp;rfl));intro w57 hw;have hg:wr.grownBy w57 (some KE):=(by rw [hw];exact L3.2);have Tk:Kd.R Kd.bool 4 w57 w.heap.size (fun k_=>some k_ ≠ (.slice (some Im) Af.length O0:Value).ownBlock∧some k_ ≠ (Ft:Value).ownBlock) (.slice (some ⟨KE,0,none⟩) Fe.length YI) yF:=(by rw [hw,FQ.out];exact L3.1);clear L3;have Fb:=ga.mk (Kd.yh (v:=(.slice (some ⟨KE,0,none⟩) Fe.length YI)) (v1:=(.slice (some ⟨KE,0,none⟩) Fe.length YI)) (ok:=(fun k_=>some k_ ≠ (Ft:Value).ownBlock)) (by (with_reducible repeat (first|apply Kd.Xa|apply Kd.Wa|apply Kd.yb));exact jd.out) hg (.inl rfl));have Lb:=ga.mk (Kd.Fz (v:=(.slice (some ⟨KE,0,none⟩) Fe.length YI)) (v1:=(.slice (some ⟨KE,0,none⟩) Fe.length YI)) (ok:=(fun k_=>some k_ ≠ (.slice (some Im) Af.length O0:Value).ownBlock∧some k_ ≠ (Ft:Value).ownBlock)) (by (with_reducible repeat (first|apply Kd.Gd|apply Kd.Ed|apply Kd.qe));exact Kd.Bg sj.out (fun _ hk=>⟨⟨hk.1,hk.2.1⟩,hk.2.2⟩)) hg (.inl rfl));have Vb:=ga.mk (Kd.yh (v:=(.slice (some ⟨KE,0,none⟩) Fe.length YI)) (v1:=(.slice (some ⟨KE,0,none⟩) Fe.length YI)) (ok:=(fun k_=>some k_ ≠ (.slice (some Im) Af.length O0:Value).ownBlock)) (by (with_reducible repeat (first|apply Kd.Xa|apply Kd.Wa|apply Kd.yb));exact jh.out) hg (.inl rfl));have Bc:=ga.mk (Tk);have Ge:=ga.mk (wg (g:=za) (o:=.cells #[.slice xb Oa.length qb,.int .i64 La,.int .i64 Pa,.int .i64 Ja,.slice Pb Fa.length Gb] 45 (0,0)) (by (with_reducible repeat (first|refine Ca ?_ _|refine Ea ?_|refine Da ?_ _));exact ta.out) hg (Kd.Nt ni.out ta.out (by decide)));have Zf:=ga.mk ((by rw [hw];exact ua (HB.out) oap.out:Below w.heap.size w w57));clear jd sj jh ni ta HB;have jd:=Fb;have sj:=Lb;have jh:=Vb;have ni:=Bc;have ta:=Ge;have HB:=Zf;clear Fb Lb Vb Bc Ge Zf hg hw Tk))
                         go_roundg k4
                         case measure=>have:=Gf.out;have:=Fm.out;have:=wH.out;have:=NV.out;omega
                         case rel=>exact ⟨(yF),(wrap64 (Pc + 1)),(by first|rfl|(simp;done)|(simp [*];done)),H',⟨by have:=Gf.out;have:=Fm.out;have:=wH.out;have:=NV.out;omega⟩,⟨by (with_reducible repeat (first|apply Kd.Xa|apply Kd.Wa|apply Kd.yb));exact jd.out⟩,⟨by (with_reducible repeat (first|apply Kd.Gd|apply Kd.Ed|apply Kd.qe));exact Kd.Bg sj.out (fun _ hk=>⟨hk.1.1,⟨hk.1.2,hk.2⟩⟩)⟩,⟨by (with_reducible repeat (first|apply Kd.Xa|apply Kd.Wa|apply Kd.yb));exact jh.out⟩,⟨by (with_reducible repeat (first|apply Kd.Xa|apply Kd.Wa|apply Kd.yb));exact ni.out⟩,⟨by (with_reducible repeat (first|refine Ca ?_ _|refine Ea ?_|refine Da ?_ _));exact ta.out⟩,⟨by repeat (first|(with_reducible first|exact HB.out|apply oa|apply ia|apply qa|refine ua ?_ Sa.out)|exact HB.out)⟩⟩
                        ·rw [if_neg tN] at H;exact absurd H (by simp)
                      ·rw [if_neg SL] at H;exact absurd H (by simp)
                     ·rw [if_neg fQ] at H;exact absurd H (by simp)
                    ·replace c41:=Bool.eq_false_iff.mpr c41;subst c41;have H1:(if 0 ≤ Pc then (if Pc < (Fe.length:Int) then (jb.l2 k4 (Fa.length:Int) Af Qd ze Gg (Fe.set (Pc:Int).toNat false) (wrap64 (Pc + 1)) Oa La Pa Ja Fa) else (none)) else (none))=some r:=by rw [if_neg (show ¬ (false=true) by decide)] at H;exact H
                     clear H;have H:=H1;clear H1
                     by_cases c58:0 ≤ Pc
                     ·rw [if_pos c58] at H;have wat:decide (0 ≤ Pc)=true:=decide_eq_true c58;clear c58
                      by_cases c59:Pc < (Fe.length:Int)
                      ·rw [if_pos c59] at H;have vat:decide (Pc < (Fe.length:Int))=true:=decide_eq_true c59;clear c59;obtain ⟨qM,vr⟩:∃ y_:List Bool,y_=(Fe.set (Pc:Int).toNat false):=⟨_,rfl⟩;replace H:(jb.l2 k4 (Fa.length:Int) Af Qd ze Gg qM (wrap64 (Pc + 1)) Oa La Pa Ja Fa)=some r:=by first|(rw [vr];with_reducible exact H)|(have Md:=(Option.bind_some _ _).symm.trans H;rw [vr];with_reducible exact Md)|(have Md:=(Option.bind_some _ _).symm.trans H;with_reducible exact Md)|with_reducible exact H|(rw [vr];exact H)|exact H
                       have DQ:=ga.mk vr;clear vr;have H':=ga.mk H;clear H;obtain ⟨Eaw,M0,iao⟩:=Kd.Jd jd.out;subst iao;have iu:0 ≤ (ze:Int):=of_decide_eq_true (by first|(with_reducible assumption)|assumption);have eu:ze < (Af.length:Int):=of_decide_eq_true (by first|(with_reducible assumption)|assumption);obtain ⟨Im,UI,Kl⟩:=Kd.Xj (Kd.Tb jd.out).2.2 ze iu eu;(try rw [← aC.out] at Kl);cases UI;replace iu:=eq_true iu;replace eu:=eq_true eu;have p60:0 ≤ (Pc:Int):=of_decide_eq_true (by first|(with_reducible assumption)|assumption);have q60:(Pc:Int) < ((Fe.length:Int):Int):=of_decide_eq_true (by first|(with_reducible assumption)|assumption);obtain ⟨JE,XI,Gaa,xaa,Wan,Mav,Uac⟩:=Kd.jk ni.out (by omega);(first|cases Gaa|(injection Gaa with Uj sy uy;(first|subst Uj|(injection Uj with Uj;subst Uj));subst uy;clear sy));have nap:=ga.mk xaa;have vaw:=ga.mk Uac;clear xaa Wan Uac;obtain ⟨eam,san⟩:=Kd.gh false ni.out (Pc:Int) p60 q60;replace p60:=eq_true p60;replace q60:=eq_true q60;have K3:=Kd.Cl ni.out (Pc:Int) false;go_wp2_with (first|((with_reducible refine Xe (t:=4) (p:=71) rfl ?_);refine Ae (t:=4) (p:=71) (v:=?oal) (w1:=(wr.setCell ⟨JE,(Pc:Int).toNat,none⟩ (.bool false))) ?hg ?ho ?hn ?hr ?_;(case ho=>rfl);(case hg=>rfl);(case hn=>rfl);(case hr=>first|(go_simp;done)|(go_simp;rfl));intro w63 hw;have hg:wr.grownBy w63 (some JE):=(by rw [hw];exact K3.2);have Tk:Kd.R Kd.bool 4 w63 w.heap.size (fun k_=>some k_ ≠ (.slice (some Im) Af.length M0:Value).ownBlock∧some k_ ≠ (Ft:Value).ownBlock) (.slice (some ⟨JE,0,none⟩) Fe.length XI) qM:=(by rw [hw,DQ.out];exact K3.1);clear K3;have Fb:=ga.mk (Kd.yh (v:=(.slice (some ⟨JE,0,none⟩) Fe.length XI)) (v1:=(.slice (some ⟨JE,0,none⟩) Fe.length XI)) (ok:=(fun k_=>some k_ ≠ (Ft:Value).ownBlock)) (by (with_reducible repeat (first|apply Kd.Xa|apply Kd.Wa|apply Kd.yb));exact jd.out) hg (.inl rfl));have Lb:=ga.mk (Kd.Fz (v:=(.slice (some ⟨JE,0,none⟩) Fe.length XI)) (v1:=(.slice (some ⟨JE,0,none⟩) Fe.length XI)) (ok:=(fun k_=>some k_ ≠ (.slice (some Im) Af.length M0:Value).ownBlock∧some k_ ≠ (Ft:Value).ownBlock)) (by (with_reducible repeat (first|apply Kd.Gd|apply Kd.Ed|apply Kd.qe));exact Kd.Bg sj.out (fun _ hk=>⟨⟨hk.1,hk.2.1⟩,hk.2.2⟩)) hg (.inl rfl));have Vb:=ga.mk (Kd.yh (v:=(.slice (some ⟨JE,0,none⟩) Fe.length XI)) (v1:=(.slice (some ⟨JE,0,none⟩) Fe.length XI)) (ok:=(fun k_=>some k_ ≠ (.slice (some Im) Af.length M0:Value).ownBlock)) (by (with_reducible repeat (first|apply Kd.Xa|apply Kd.Wa|apply Kd.yb));exact jh.out) hg (.inl rfl));have Bc:=ga.mk (Tk);have Ge:=ga.mk (wg (g:=za) (o:=.cells #[.slice xb Oa.length qb,.int .i64 La,.int .i64 Pa,.int .i64 Ja,.slice Pb Fa.length Gb] 45 (0,0)) (by (with_reducible repeat (first|refine Ca ?_ _|refine Ea ?_|refine Da ?_ _));exact ta.out) hg (Kd.Nt ni.out ta.out (by decide)));have Zf:=ga.mk ((by rw [hw];exact ua (HB.out) nap.out:Below w.heap.size w w63));clear jd sj jh ni ta HB;have jd:=Fb;have sj:=Lb;have jh:=Vb;have ni:=Bc;have ta:=Ge;have HB:=Zf;clear Fb Lb Vb Bc Ge Zf hg hw Tk))
                       go_roundg k4
                       case measure=>have:=Gf.out;have:=Fm.out;have:=wH.out;have:=NV.out;omega
                       case rel=>exact ⟨(qM),(wrap64 (Pc + 1)),(by first|rfl|(simp;done)|(simp [*];done)),H',⟨by have:=Gf.out;have:=Fm.out;have:=wH.out;have:=NV.out;omega⟩,⟨by (with_reducible repeat (first|apply Kd.Xa|apply Kd.Wa|apply Kd.yb));exact jd.out⟩,⟨by (with_reducible repeat (first|apply Kd.Gd|apply Kd.Ed|apply Kd.qe));exact Kd.Bg sj.out (fun _ hk=>⟨hk.1.1,⟨hk.1.2,hk.2⟩⟩)⟩,⟨by (with_reducible repeat (first|apply Kd.Xa|apply Kd.Wa|apply Kd.yb));exact jh.out⟩,⟨by (with_reducible repeat (first|apply Kd.Xa|apply Kd.Wa|apply Kd.yb));exact ni.out⟩,⟨by (with_reducible repeat (first|refine Ca ?_ _|refine Ea ?_|refine Da ?_ _));exact ta.out⟩,⟨by repeat (first|(with_reducible first|exact HB.out|apply oa|apply ia|apply qa|refine ua ?_ Sa.out)|exact HB.out)⟩⟩
                      ·rw [if_neg c59] at H;exact absurd H (by simp)
                     ·rw [if_neg c58] at H;exact absurd H (by simp)
                   ·rw [if_neg c39] at H;exact absurd H (by simp)
                  ·rw [if_neg c38] at H;exact absurd H (by simp)
                 ·rw [if_neg G1] at H;have iab:decide (Pc < (Fa.length:Int))=false:=decide_eq_false G1;clear G1
                  by_cases c64:Qd.length < 5864062014805
                  ·rw [if_pos c64] at H;have Zab:=ga.mk c64;clear c64;obtain ⟨BN,ur⟩:∃ y_:List (List Bool),y_=(Qd ++ [Fe]):=⟨_,rfl⟩;replace H:(jb.l1 k4 (Fa.length:Int) Af BN (wrap64 (ze + 1)) Oa La Pa Ja Fa)=some r:=by first|(rw [ur];with_reducible exact H)|(have Md:=(Option.bind_some _ _).symm.trans H;rw [ur];with_reducible exact Md)|(have Md:=(Option.bind_some _ _).symm.trans H;with_reducible exact Md)|with_reducible exact H|(rw [ur];exact H)|exact H
                   have CQ:=ga.mk ur;clear ur;have H':=ga.mk H;clear H;obtain ⟨rad,Kaa,gao⟩:=Kd.Jd ni.out;subst gao;go_wp2_with (first|((with_reducible refine fh (b:=.append) (xs:=#[.tmp 72,.tmp 74]) rfl ?_);at_builtin;refine Kd.mH (Kd.slice 4 Kd.bool) (w0:=w) w.heap.size rfl (.tmp 72) (.tmp 74) 75 73 (.slice none 0 0) 24 rfl Try.underlying75 LY rfl (by decide) (by omega) u7 Qd Fe [.slice rad Fe.length Kaa] (fun k_=>some k_ ≠ (Sh:Value).ownBlock∧some k_ ≠ (Ft:Value).ownBlock) (fun k_=>some k_=(.slice rad Fe.length Kaa:Value).ownBlock) rfl rfl ?aP (fun k_ Tv=>((Kd.Jc (Cn:=fun k_=>((fun k_=>some k_ ≠ (Sh:Value).ownBlock∧some k_ ≠ (Ft:Value).ownBlock)) k_∧some k_ ≠ (u7:Value).ownBlock) (Kd.Nn (ni.out) (Kd.pn sj.out) (by decide)) (fun k_ hk=>⟨⟨hk.1.1,hk.1.2⟩,hk.2⟩))).1 k_ Tv.symm) ?aF ?aO ?aB ?aS ?aL ?_;(case aP=>exact Kd.vX (Kd.Jc (Kd.Fq rfl (Kd.Jc (Cn:=fun k_=>((fun k_=>some k_ ≠ (Sh:Value).ownBlock∧some k_ ≠ (Ft:Value).ownBlock)) k_∧some k_ ≠ (u7:Value).ownBlock) (Kd.Nn (ni.out) (Kd.pn sj.out) (by decide)) (fun k_ hk=>⟨⟨hk.1.1,hk.1.2⟩,hk.2⟩))) (fun _ h_=>h_)));(case aB=>exact (by repeat (first|(with_reducible first|exact HB.out|apply oa|apply ia|apply qa|refine ua ?_ Sa.out)|exact HB.out)));(case aF=>exact (fun k_ hk=>⟨Kd.fresh' (Kd.Mn (by (with_reducible repeat (first|apply Kd.Xa|apply Kd.Wa|apply Kd.yb));exact jd.out)) k_ hk,Kd.fresh' (Kd.Mn (by (with_reducible repeat (first|apply Kd.Xa|apply Kd.Wa|apply Kd.yb));exact jh.out)) k_ hk⟩));(case aO=>exact (by (with_reducible repeat (first|apply Kd.Gd|apply Kd.Ed|apply Kd.qe));exact Kd.Bg sj.out (fun k_ hk=>⟨⟨hk.1,hk.2.1⟩,fun e_=>hk.2.2 e_⟩)));(case aS=>exact (Ka (by repeat (first|(with_reducible first|exact HB.out|apply oa|apply ia|apply qa|refine ua ?_ Sa.out)|exact HB.out))));(case aL=>have:=Zab.out;omega);intro v127 w65 ho hb hg hat;rw [← CQ.out] at ho;have Fb:=ga.mk (Kd.Zj (by (with_reducible repeat (first|apply Kd.Xa|apply Kd.Wa|apply Kd.yb));exact jd.out) (Kd.pn (by (with_reducible repeat (first|apply Kd.Gd|apply Kd.Ed|apply Kd.qe));exact sj.out)) (by decide) hg);have Lb:=ga.mk (Kd.Zj (by (with_reducible repeat (first|apply Kd.Xa|apply Kd.Wa|apply Kd.yb));exact jh.out) (Kd.pn (by (with_reducible repeat (first|apply Kd.Gd|apply Kd.Ed|apply Kd.qe));exact sj.out)) (by decide) hg);have Vb:=ga.mk (wg (g:=za) (o:=.cells #[.slice xb Oa.length qb,.int .i64 La,.int .i64 Pa,.int .i64 Ja,.slice Pb Fa.length Gb] 45 (0,0)) (by (with_reducible repeat (first|refine Ca ?_ _|refine Ea ?_|refine Da ?_ _));exact ta.out) hg (Kd.Mab sj.out ta.out (by decide)));have Bc:=ga.mk (hb);have Ge:=ga.mk (ho);clear jd jh ta HB sj ni;have jd:=Fb;have jh:=Lb;have ta:=Vb;have HB:=Bc;have NQ:=Ge;clear Fb Lb Vb Bc Ge ho hb hg hat))
                   go_roundg k4
                   case measure=>have:=Gf.out;have:=Fm.out;have:=wH.out;have:=NV.out;omega
                   case rel=>exact ⟨(Af),(BN),(wrap64 (ze + 1)),(by first|rfl|(simp;done)|(simp [*];done)),H',⟨by have:=Gf.out;have:=Fm.out;have:=wH.out;have:=NV.out;omega⟩,⟨by (with_reducible repeat (first|apply Kd.Xa|apply Kd.Wa|apply Kd.yb));exact Kd.Jc jd.out (fun _ hk=>trivial)⟩,⟨by (with_reducible repeat (first|apply Kd.Gd|apply Kd.Ed|apply Kd.qe));exact Kd.Bg NQ.out (fun _ hk=>hk.1)⟩,⟨by (with_reducible repeat (first|refine Ca ?_ _|refine Ea ?_|refine Da ?_ _));exact ta.out⟩,⟨by repeat (first|(with_reducible first|exact HB.out|apply oa|apply ia|apply qa|refine ua ?_ Sa.out)|exact HB.out)⟩⟩
                  ·rw [if_neg c64] at H;exact absurd H (by simp)
              ·rw [if_neg cH] at H;exact absurd H (by simp)
             ·rw [if_neg dH] at H;exact absurd H (by simp)
          ·rw [if_neg ZE] at H;exact absurd H (by simp)
         ·rw [if_neg Fx] at H;exact absurd H (by simp)
        ·rw [if_neg xF] at H;have kQ:decide (ze < (Fa.length:Int))=false:=decide_eq_false xF;clear xF;obtain rfl:=Option.some.inj H;go_wp2;go_ret;exact ⟨_,by first|rfl|(simp [Na,Ma] <;> rfl)|(simp [*,Na,Ma] <;> rfl),by (with_reducible repeat (first|apply Kd.Gd|apply Kd.Ed|apply Kd.qe));exact Kd.Bg sj.out (fun _ hk=>trivial),by repeat (first|(with_reducible first|exact HB.out|apply oa|apply ia|apply qa|refine ua ?_ Sa.out)|exact HB.out)⟩
  ·rw [if_neg c3] at H;exact absurd H (by simp)
 ·rw [if_neg c2] at H;exact absurd H (by simp)
mutual
def Gc.l0:Nat→List (List Int)→List (List Bool)→Int→Option ((List (List Int)))
 | 0,_,_,_=>none
 | k + 1,x3,x4,x5=>if x5 < (x4.length:Int) then (Gc.l1 k x3 x4 x5 (([]:List Int)) 0) else (some x3)
def Gc.l1:Nat→List (List Int)→List (List Bool)→Int→List Int→Int→Option ((List (List Int)))
 | 0,_,_,_,_,_=>none
 | k + 1,x3,x4,x5,x6,x7=>if x7 < (x4.length:Int) then (if 0 ≤ x7 then (if 0 ≤ x5 then (if x5 < ((Bk x4 x7).length:Int) then (if sg false (Bk x4 x7) x5=true then (if x6.length < 17592186044416 then (Gc.l1 k x3 x4 x5 (x6 ++ [x7]) (wrap64 (x7 + 1))) else (none)) else (Gc.l1 k x3 x4 x5 x6 (wrap64 (x7 + 1)))) else (none)) else (none)) else (none)) else (if x3.length < 5864062014805 then (Gc.l0 k (x3 ++ [x6]) x4 (wrap64 (x5 + 1))) else (none))
end
def Gc.f (k:Nat) (Oa:List Int) (La:Int) (Pa:Int) (Ja:Int) (Fa:List (zf)):Option ((List (List Int))):=(some (([]:List (List Int)):List (List Int))).bind fun Yd=>((Ua.f k Oa La Pa Ja Fa).bind fun t105=>(if t105=true then ((jb.f k Oa La Pa Ja Fa).bind fun t106=>(Gc.l0 k Yd t106 0)) else (some Yd)))
theorem Gc.calls (k:Nat) (xb:Option Addr) (qb:Nat) (Oa:List Int) (La:Int) (Pa:Int) (Ja:Int) (Pb:Option Addr) (Gb:Nat) (Fa:List (zf)) (r:List (List Int)) (w:World) (xe:Kd.C (Kd.int .i64) w xb Oa.length Oa) (we:Oa.length ≤ qb) (Wf:Kd.C Bp w Pb Fa.length Fa) (Uf:Fa.length ≤ Gb) (h:Gc.f k Oa La Pa Ja Fa=some r) :
  Calls Try.prog 35 #[.agg #[.slice xb Oa.length qb,.int .i64 La,.int .i64 Pa,.int .i64 Ja,.slice Pb Fa.length Gb]] w fun e w'=>∃ vn:Value,e = .returned (vn)∧Kd.S (Kd.slice 3 (Kd.int .i64)) 22 w' w.heap.size (fun _=>True) vn r∧Below w.heap.size w w':=by
 have mA:=Try.underlying45;have Ue:=ga.mk xe;have af:=ga.mk we;clear xe we;have ng:=ga.mk Wf;have Xg:=ga.mk Uf;clear Wf Uf;have HB:=ga.mk (Below.refl w.heap.size w);have H:((some (([]:List (List Int)):List (List Int))).bind fun Yd=>((Ua.f k Oa La Pa Ja Fa).bind fun t105=>(if t105=true then ((jb.f k Oa La Pa Ja Fa).bind fun t106=>(Gc.l0 k Yd t106 0)) else (some Yd))))=some r:=h;clear h;obtain ⟨Yd,Rf⟩:∃ y_:List (List Int),y_=(([]:List (List Int))):=⟨_,rfl⟩;replace H:((Ua.f k Oa La Pa Ja Fa).bind fun t105=>(if t105=true then ((jb.f k Oa La Pa Ja Fa).bind fun t106=>(Gc.l0 k Yd t106 0)) else (some Yd)))=some r:=by first|(rw [Rf];with_reducible exact H)|(have Md:=(Option.bind_some _ _).symm.trans H;rw [Rf];with_reducible exact Md)|(have Md:=(Option.bind_some _ _).symm.trans H;with_reducible exact Md)|with_reducible exact H|(rw [Rf];exact H)|exact H
 have ki:=ga.mk Rf;clear Rf;replace H:=Option.bind_eq_some_iff.mp H;obtain ⟨t105,sF,H⟩:=H;replace H:(if t105=true then ((jb.f k Oa La Pa Ja Fa).bind fun t106=>(Gc.l0 k Yd t106 0)) else (some Yd))=some r:=H;have A2:=ga.mk sF;clear sF
 by_cases c3:t105=true
 ·subst c3;have H1:((jb.f k Oa La Pa Ja Fa).bind fun t106=>(Gc.l0 k Yd t106 0))=some r:=by rw [if_pos rfl] at H;exact H
  clear H;have H:=H1;clear H1;replace H:=Option.bind_eq_some_iff.mp H;obtain ⟨t106,AH,H⟩:=H;replace H:(Gc.l0 k Yd t106 0)=some r:=H;have A4:=ga.mk AH;clear AH;have H':=ga.mk H;clear H;go_enter Try.func35,Try.ntmps35;go_wp2_with (first|((with_reducible refine Db (N:=1) rfl ?_);refine Jb ?hg (N:=1) ?hd (cs:=#[.slice xb Oa.length qb,.int .i64 La,.int .i64 Pa,.int .i64 Ja,.slice Pb Fa.length Gb]) (t:=45) ?hr ?_;(case hd=>rfl);(case hg=>rfl);(case hr=>first|(go_simp;done)|(go_simp;rfl));intro za hg w5 Wb hb;have Fb:=ga.mk (Qa (by repeat (first|(with_reducible first|exact HB.out|apply oa|apply ia|apply qa)|exact HB.out)) hb);have Lb:=ga.mk (Wb);have Vb:=ga.mk ((by rw [hg];exact (Ka (by repeat (first|(with_reducible first|exact HB.out|apply oa|apply ia|apply qa)|exact HB.out))):w.heap.size ≤ za));have Bc:=ga.mk ((by rw [hg];exact (Ka (by repeat (first|(with_reducible first|exact HB.out|apply oa|apply ia|apply qa)|exact HB.out))):w.heap.size ≤ za));clear HB;have HB:=Fb;have ta:=Lb;have ye:=Vb;have Sa:=Bc;clear Fb Lb Vb Bc hb Wb hg)|((with_reducible refine Db (N:=8) rfl ?_);refine Kd.vQ (Kd.slice 3 (Kd.int .i64)) _ 22 ?hg (N:=8) ?hd (xs:=([]:List (List Int))) (inner:=[]) (ok:=fun _=>True) (Gh:=fun _=>True) ?hr ?hp (fun _ hk=>hk) trivial (Below.refl _ _) (Nat.le_refl _) (by simp) ?_;(case hd=>rfl);(case hg=>rfl);(case hr=>first|(go_simp;done)|(go_simp;rfl));(case hp=>exact (Ld.none _ _));intro Sh w6 PO hb um Df;clear um Df;(first|rw [← ki.out] at PO|(simp only [Int.reduceToNat] at PO;rw [← ki.out] at PO));have Fb:=ga.mk (Kd.Zo PO (Ka (by repeat (first|(with_reducible first|exact HB.out|apply oa|apply ia|apply qa|refine ua ?_ Sa.out)|exact HB.out))));have Lb:=ga.mk (Va (g:=za) (o:=.cells #[.slice xb Oa.length qb,.int .i64 La,.int .i64 Pa,.int .i64 Ja,.slice Pb Fa.length Gb] 45 (0,0)) (by (with_reducible repeat (first|refine Ca ?_ _|refine Ea ?_|refine Da ?_ _));exact ta.out) hb);have Vb:=ga.mk (Qa (by repeat (first|(with_reducible first|exact HB.out|apply oa|apply ia|apply qa|refine ua ?_ Sa.out)|exact HB.out)) hb);clear ta HB;have Ze:=Fb;have ta:=Lb;have HB:=Vb;clear Fb Lb Vb hb PO;have Bu:w6.cell? ⟨za,0,none⟩=some (.slice xb Oa.length qb):=(ja ta.out 0).trans rfl;have Au:w6.cell? ⟨za,1,none⟩=some (.int .i64 La):=(ja ta.out 1).trans rfl;have zu:w6.cell? ⟨za,2,none⟩=some (.int .i64 Pa):=(ja ta.out 2).trans rfl;have yu:w6.cell? ⟨za,3,none⟩=some (.int .i64 Ja):=(ja ta.out 3).trans rfl;have xu:w6.cell? ⟨za,4,none⟩=some (.slice Pb Fa.length Gb):=(ja ta.out 4).trans rfl;have ru:=aa ta.out 0;have qu:=aa ta.out 1;have ou:=aa ta.out 2;have nu:=aa ta.out 3;have lu:=aa ta.out 4)|((with_reducible refine zb (f:=66) rfl ?_);refine Dc (some 10) rfl rfl Try.func66 (by kernel_rfl) rfl #[.agg #[.slice xb Oa.length qb,.int .i64 La,.int .i64 Pa,.int .i64 Ja,.slice Pb Fa.length Gb]] rfl (by (try simp only [List.map_toArray,List.map_cons,List.map_nil]);first|done|rfl|(simp only [List.length_drop,List.length_take];rfl)) ?_;(with_reducible refine (Ua.calls k _ _ Oa La Pa Ja _ _ Fa true _ ?yc ?uc ?Ad ?yd A2.out).mono ?_);(case yc=>repeat (first|exact (Kd.Mb Ue.out HB.out)|(with_reducible refine Kd.Sb ?_ _)|(with_reducible refine Kd.Rb ?_ _)|(with_reducible refine Kd.jc ?_)));(case uc=>exact af.out);(case Ad=>repeat (first|exact (Kd.Mb ng.out HB.out)|(with_reducible refine Kd.Sb ?_ _)|(with_reducible refine Kd.Rb ?_ _)|(with_reducible refine Kd.jc ?_)));(case yd=>exact Xg.out);rintro e w9 ⟨rfl,hb⟩;refine ⟨_,rfl,?_⟩;have Fb:=ga.mk (Kd.Le (by (with_reducible repeat (first|apply Kd.Gd|apply Kd.Ed|apply Kd.qe));exact Ze.out) hb);have Lb:=ga.mk (Va (g:=za) (o:=.cells #[.slice xb Oa.length qb,.int .i64 La,.int .i64 Pa,.int .i64 Ja,.slice Pb Fa.length Gb] 45 (0,0)) (by (with_reducible repeat (first|refine Ca ?_ _|refine Ea ?_|refine Da ?_ _));exact ta.out) hb);have Vb:=ga.mk (Qa (by repeat (first|(with_reducible first|exact HB.out|apply oa|apply ia|apply qa|refine ua ?_ Sa.out)|exact HB.out)) hb);clear Ze ta HB;have Ze:=Fb;have ta:=Lb;have HB:=Vb;clear Fb Lb Vb;(try clear hb);(try clear Jj);(try clear hk);(try clear hi);have Ni:w9.cell? ⟨za,0,none⟩=some (.slice xb Oa.length qb):=(ja ta.out 0).trans rfl;have Mi:w9.cell? ⟨za,1,none⟩=some (.int .i64 La):=(ja ta.out 1).trans rfl;have Li:w9.cell? ⟨za,2,none⟩=some (.int .i64 Pa):=(ja ta.out 2).trans rfl;have Ki:w9.cell? ⟨za,3,none⟩=some (.int .i64 Ja):=(ja ta.out 3).trans rfl;have Ji:w9.cell? ⟨za,4,none⟩=some (.slice Pb Fa.length Gb):=(ja ta.out 4).trans rfl;have Ii:=aa ta.out 0;have Hi:=aa ta.out 1;have Gi:=aa ta.out 2;have Fi:=aa ta.out 3;have Ei:=aa ta.out 4)|((with_reducible refine zb (f:=67) rfl ?_);refine Dc (some 14) rfl rfl Try.func67 (by kernel_rfl) rfl #[.agg #[.slice xb Oa.length qb,.int .i64 La,.int .i64 Pa,.int .i64 Ja,.slice Pb Fa.length Gb]] rfl (by (try simp only [List.map_toArray,List.map_cons,List.map_nil]);first|done|rfl|(simp only [List.length_drop,List.length_take];rfl)) ?_;(with_reducible refine (jb.calls k _ _ Oa La Pa Ja _ _ Fa t106 _ ?yc ?uc ?Ad ?yd A4.out).mono ?_);(case yc=>repeat (first|exact (Kd.Mb Ue.out HB.out)|(with_reducible refine Kd.Sb ?_ _)|(with_reducible refine Kd.Rb ?_ _)|(with_reducible refine Kd.jc ?_)));(case uc=>exact af.out);(case Ad=>repeat (first|exact (Kd.Mb ng.out HB.out)|(with_reducible refine Kd.Sb ?_ _)|(with_reducible refine Kd.Rb ?_ _)|(with_reducible refine Kd.jc ?_)));(case yd=>exact Xg.out);rintro e gj ⟨v107,rfl,Zi,hb⟩;refine ⟨_,rfl,?_⟩;have Fb:=ga.mk (Kd.Le (by (with_reducible repeat (first|apply Kd.Gd|apply Kd.Ed|apply Kd.qe));exact Ze.out) hb);have Lb:=ga.mk (Kd.Zo Zi (Ka (by repeat (first|(with_reducible first|exact HB.out|apply oa|apply ia|apply qa|refine ua ?_ Sa.out)|exact HB.out))));have Vb:=ga.mk (Va (g:=za) (o:=.cells #[.slice xb Oa.length qb,.int .i64 La,.int .i64 Pa,.int .i64 Ja,.slice Pb Fa.length Gb] 45 (0,0)) (by (with_reducible repeat (first|refine Ca ?_ _|refine Ea ?_|refine Da ?_ _));exact ta.out) hb);have Bc:=ga.mk (Qa (by repeat (first|(with_reducible first|exact HB.out|apply oa|apply ia|apply qa|refine ua ?_ Sa.out)|exact HB.out)) hb);clear Ze ta HB;have Ze:=Fb;have jm:=Lb;have ta:=Vb;have HB:=Bc;clear Fb Lb Vb Bc;(try clear hb);(try clear Jj);(try clear hk);(try clear hi);(try clear Zi)))
  go_loopg [3,5] k (fun kq v3 v5 w'=>∃ (Fc:List (List Int)) (Aa:Int),v5 = .int .i64 Aa∧ga (Gc.l0 kq Fc t106 Aa=some r)∧ga (kq ≤ k)∧ga (Kd.S (Kd.slice 3 (Kd.int .i64)) 22 w' w.heap.size (fun _=>True) v3 Fc)∧ga (Kd.S (Kd.slice 4 Kd.bool) 73 w' w.heap.size (fun _=>True) v107 t106)∧ga (w'.heap[za]? = some (.cells #[(.slice xb Oa.length qb),.int .i64 La,.int .i64 Pa,.int .i64 Ja,(.slice Pb Fa.length Gb)] 45 (0,0)))∧ga (Below w.heap.size w w'))
  case atStart=>exact ⟨(Yd),(0),(by first|rfl|(simp;done)|(simp [*];done)),H',⟨Nat.le_refl _⟩,⟨by (with_reducible repeat (first|apply Kd.Gd|apply Kd.Ed|apply Kd.qe));exact Ze.out⟩,⟨by (with_reducible repeat (first|apply Kd.Gd|apply Kd.Ed|apply Kd.qe));exact jm.out⟩,⟨by (with_reducible repeat (first|refine Ca ?_ _|refine Ea ?_|refine Da ?_ _));exact ta.out⟩,⟨by repeat (first|(with_reducible first|exact HB.out|apply oa|apply ia|apply qa|refine ua ?_ Sa.out)|exact HB.out)⟩⟩
  case round =>
   clear H'
   try clear p2
   try clear c3
   try clear c6
   try clear Ni
   try clear Mi
   try clear Li
   try clear Ki
   try clear Ji
   try clear Bu
   try clear Au
   try clear zu
   try clear yu
   try clear xu
   try clear Ii
   try clear Hi
   try clear Gi
   try clear Fi
   try clear Ei
   try clear ru
   try clear qu
   try clear ou
   try clear nu
   try clear lu
   (try clear HA);(try clear Gf);(try clear Lc);(try clear jd);(try clear ta);(try clear HB);obtain ⟨Fc,Aa,rfl,HA,Gf,Lc,jd,ta,HB⟩:=hrel;cases gk with
   | zero=>exact absurd HA.out (by simp [Gc.l0])
   | succ k1 =>
    have H:=HA.out;clear HA;simp only [Gc.l0] at H
    by_cases Zq:Aa < (t106.length:Int)
    ·rw [if_pos Zq] at H;have Zx:decide (Aa < (t106.length:Int))=true:=decide_eq_true Zq;clear Zq;obtain ⟨Lz,Ul⟩:∃ y_:List Int,y_=(([]:List Int)):=⟨_,rfl⟩;replace H:(Gc.l1 k1 Fc t106 Aa Lz 0)=some r:=by first|(rw [Ul];with_reducible exact H)|(have Md:=(Option.bind_some _ _).symm.trans H;rw [Ul];with_reducible exact Md)|(have Md:=(Option.bind_some _ _).symm.trans H;with_reducible exact Md)|with_reducible exact H|(rw [Ul];exact H)|exact H
     have ZB:=ga.mk Ul;clear Ul;have H':=ga.mk H;clear H;obtain ⟨sad,Kt,XZ⟩:=Kd.Wk jd.out;subst XZ;go_wp2_with (first|((with_reducible refine Db (N:=21) rfl ?_);refine Kd.vl (Kd.int .i64) _ 3 ?hg (N:=21) ?hd (xs:=([]:List Int)) (inner:=[]) (ok:=fun _=>True) (Gh:=fun _=>True) ?hr ?hp (fun _ hk=>hk) trivial (Below.refl _ _) (Nat.le_refl _) (by simp) ?_;(case hd=>rfl);(case hg=>rfl);(case hr=>first|(go_simp;done)|(go_simp;rfl));(case hp=>exact (Ld.none _ _));intro Qau AF qy hb um Df;clear um Df;(first|rw [← ZB.out] at qy|(simp only [Int.reduceToNat] at qy;rw [← ZB.out] at qy));have Fb:=ga.mk (Kd.Uw (by (with_reducible repeat (first|apply Kd.Gd|apply Kd.Ed|apply Kd.qe));exact Lc.out) (Kd.xh qy) hb);have Lb:=ga.mk (Kd.Le (by (with_reducible repeat (first|apply Kd.Gd|apply Kd.Ed|apply Kd.qe));exact jd.out) hb);have Vb:=ga.mk (Kd.Qe qy (Ka (by repeat (first|(with_reducible first|exact HB.out|apply oa|apply ia|apply qa|refine ua ?_ Sa.out)|exact HB.out))));have Bc:=ga.mk (Va (g:=za) (o:=.cells #[.slice xb Oa.length qb,.int .i64 La,.int .i64 Pa,.int .i64 Ja,.slice Pb Fa.length Gb] 45 (0,0)) (by (with_reducible repeat (first|refine Ca ?_ _|refine Ea ?_|refine Da ?_ _));exact ta.out) hb);have Ge:=ga.mk (Qa (by repeat (first|(with_reducible first|exact HB.out|apply oa|apply ia|apply qa|refine ua ?_ Sa.out)|exact HB.out)) hb);clear Lc jd ta HB;have Lc:=Fb;have jd:=Lb;have Mac:=Vb;have ta:=Bc;have HB:=Ge;clear Fb Lb Vb Bc Ge hb qy))
     go_loopg [6,7] k1 (fun kq v6 v7 w'=>∃ (gr:List Int) (Qd:Int),v7 = .int .i64 Qd∧ga (Gc.l1 kq Fc t106 Aa gr Qd=some r)∧ga (kq ≤ k1)∧ga (Kd.S (Kd.slice 3 (Kd.int .i64)) 22 w' w.heap.size (fun k_=>some k_ ≠ (v6:Value).ownBlock) u3 Fc)∧ga (Kd.S (Kd.slice 4 Kd.bool) 73 w' w.heap.size (fun _=>True) (.slice sad t106.length Kt) t106)∧ga (Kd.R (Kd.int .i64) 3 w' w.heap.size (fun _=>True) v6 gr)∧ga (w'.heap[za]? = some (.cells #[(.slice xb Oa.length qb),.int .i64 La,.int .i64 Pa,.int .i64 Ja,(.slice Pb Fa.length Gb)] 45 (0,0)))∧ga (Below w.heap.size w w'))
     case atStart=>exact ⟨(Lz),(0),(by first|rfl|(simp;done)|(simp [*];done)),H',⟨Nat.le_refl _⟩,⟨by (with_reducible repeat (first|apply Kd.Gd|apply Kd.Ed|apply Kd.qe));exact Kd.Bg Lc.out (fun _ hk=>hk.2)⟩,⟨by (with_reducible repeat (first|apply Kd.Gd|apply Kd.Ed|apply Kd.qe));exact jd.out⟩,⟨by (with_reducible repeat (first|apply Kd.Xa|apply Kd.Wa|apply Kd.yb));exact Mac.out⟩,⟨by (with_reducible repeat (first|refine Ca ?_ _|refine Ea ?_|refine Da ?_ _));exact ta.out⟩,⟨by repeat (first|(with_reducible first|exact HB.out|apply oa|apply ia|apply qa|refine ua ?_ Sa.out)|exact HB.out)⟩⟩
     case round =>
      clear H'
      try clear c1
      try clear p2
      try clear c3
      try clear c6
      try clear Zq
      try clear Zx
      try clear Ni
      try clear Mi
      try clear Li
      try clear Ki
      try clear Ji
      try clear Bu
      try clear Au
      try clear zu
      try clear yu
      try clear xu
      try clear Ii
      try clear Hi
      try clear Gi
      try clear Fi
      try clear Ei
      try clear ru
      try clear qu
      try clear ou
      try clear nu
      try clear lu
      try clear p2
      (try clear HA);(try clear Fm);(try clear Lc);(try clear jd);(try clear uk);(try clear ta);(try clear HB);obtain ⟨gr,Qd,rfl,HA,Fm,Lc,jd,uk,ta,HB⟩:=hrel;cases gk with
      | zero=>exact absurd HA.out (by simp [Gc.l1])
      | succ k2 =>
       have H:=HA.out;clear HA;simp only [Gc.l1] at H
       by_cases xy:Qd < (t106.length:Int)
       ·rw [if_pos xy] at H;have VL:decide (Qd < (t106.length:Int))=true:=decide_eq_true xy;clear xy
        by_cases Ez:0 ≤ Qd
        ·rw [if_pos Ez] at H;have Sw:decide (0 ≤ Qd)=true:=decide_eq_true Ez;clear Ez
         by_cases Kr:0 ≤ Aa
         ·rw [if_pos Kr] at H;have Gn:decide (0 ≤ Aa)=true:=decide_eq_true Kr;clear Kr
          by_cases Mt:Aa < ((Bk t106 Qd).length:Int)
          ·rw [if_pos Mt] at H;have FA:decide (Aa < ((Bk t106 Qd).length:Int))=true:=decide_eq_true Mt;clear Mt;obtain ⟨yab,DP⟩:∃ b_:Bool,b_=(sg false (Bk t106 Qd) Aa):=⟨_,rfl⟩;replace H:(if yab=true then (if gr.length < 17592186044416 then (Gc.l1 k2 Fc t106 Aa (gr ++ [Qd]) (wrap64 (Qd + 1))) else (none)) else (Gc.l1 k2 Fc t106 Aa gr (wrap64 (Qd + 1))))=some r:=by rw [← DP] at H;exact H
           have rX:=ga.mk DP;clear DP
           by_cases Yx:yab=true
           ·subst Yx;have H1:(if gr.length < 17592186044416 then (Gc.l1 k2 Fc t106 Aa (gr ++ [Qd]) (wrap64 (Qd + 1))) else (none))=some r:=by rw [if_pos rfl] at H;exact H
            clear H;have H:=H1;clear H1
            by_cases xF:gr.length < 17592186044416
            ·rw [if_pos xF] at H;have gac:=ga.mk xF;clear xF;obtain ⟨J5,cG⟩:∃ y_:List Int,y_=(gr ++ [Qd]):=⟨_,rfl⟩;replace H:(Gc.l1 k2 Fc t106 Aa J5 (wrap64 (Qd + 1)))=some r:=by first|(rw [cG];with_reducible exact H)|(have Md:=(Option.bind_some _ _).symm.trans H;rw [cG];with_reducible exact Md)|(have Md:=(Option.bind_some _ _).symm.trans H;with_reducible exact Md)|with_reducible exact H|(rw [cG];exact H)|exact H
             have Xab:=ga.mk cG;clear cG;have H':=ga.mk H;clear H;have qC:0 ≤ (Qd:Int):=of_decide_eq_true (by first|(with_reducible assumption)|assumption);have nC:Qd < (t106.length:Int):=of_decide_eq_true (by first|(with_reducible assumption)|assumption);obtain ⟨Hab,R4,V1,u0,GC,Qv,Uv⟩:=qQ (Kd.ke jd.out).2.2 Qd qC nC;cases u0;obtain ⟨Naa,FI,GI,oA⟩:=Kd.kX jd.out [] Qd qC (by first|exact nC|exact of_decide_eq_true (by first|(with_reducible assumption)|assumption)|(have e_:=(Kd.ke jd.out).1;omega));obtain ⟨rR,rfl,yq⟩:=GI;have Sk:=oA 0 _ rfl;rw [Nat.add_zero,show ((Kd.slice 4 Kd.bool)).sz=1 from rfl,Nat.mul_one] at Sk;replace Sk:=Option.some.inj (Sk.symm.trans GC);rw [Sk] at yq;have Jz:=ga.mk (show Kd.R Kd.bool 4 _ _ _ _ (Bk t106 Qd) from yq);clear Sk yq oA FI;have Xw:=ga.mk Uv;have SV:=ga.mk Qv;clear Uv Qv;replace qC:=eq_true qC;replace nC:=eq_true nC;have ux:0 ≤ (Aa:Int):=of_decide_eq_true (by first|(with_reducible assumption)|assumption);have sx:Aa < ((Bk t106 Qd).length:Int):=of_decide_eq_true (by first|(with_reducible assumption)|assumption);obtain ⟨ay,TP,Ll⟩:=Kd.Xj (by repeat (first|(with_reducible exact Xw.out)|(with_reducible refine Kd.Sb ?_ _)|(with_reducible refine Kd.Rb ?_ _)|(with_reducible refine Kd.jc ?_)|exact Xw.out)) Aa ux sx;(try rw [← rX.out] at Ll);cases TP;replace ux:=eq_true ux;replace sx:=eq_true sx;go_wp2_with (first|((with_reducible refine fh (b:=.append) (xs:=#[.tmp 35,.tmp 37]) rfl ?_);at_builtin;refine Kd.Lr (Kd.int .i64) (w0:=w) w.heap.size rfl (.tmp 35) (.tmp 37) 22 3 (.int .i64 0) 8 rfl Try.underlying22 info3 rfl (by decide) (by omega) u6 gr Qd [.int .i64 Qd] (fun _=>True) (fun _=>False) rfl rfl ?aP (fun _ hk=>hk.elim) ?aF ?aO ?aB ?aS ?aL ?_;(case aP=>exact rfl);(case aB=>exact (by repeat (first|(with_reducible first|exact HB.out|apply oa|apply ia|apply qa|refine ua ?_ Sa.out)|exact HB.out)));(case aF=>exact (fun _ _=>trivial));(case aO=>exact (by (with_reducible repeat (first|apply Kd.Xa|apply Kd.Wa|apply Kd.yb));exact uk.out));(case aS=>exact (Ka (by repeat (first|(with_reducible first|exact HB.out|apply oa|apply ia|apply qa|refine ua ?_ Sa.out)|exact HB.out))));(case aL=>have:=gac.out;omega);intro Pau Qt ho hb hg hat;rw [← Xab.out] at ho;have Fb:=ga.mk (Kd.Fz (ok:=(fun _=>True)) (by (with_reducible repeat (first|apply Kd.Gd|apply Kd.Ed|apply Kd.qe));exact Kd.Bg Lc.out (fun _ hk=>⟨trivial,hk⟩)) hg hat);have Lb:=ga.mk (Kd.bM (by (with_reducible repeat (first|apply Kd.Gd|apply Kd.Ed|apply Kd.qe));exact jd.out) (Kd.Yj (by (with_reducible repeat (first|apply Kd.Xa|apply Kd.Wa|apply Kd.yb));exact uk.out)) (by decide) hg);have Vb:=ga.mk (wg (g:=za) (o:=.cells #[.slice xb Oa.length qb,.int .i64 La,.int .i64 Pa,.int .i64 Ja,.slice Pb Fa.length Gb] 45 (0,0)) (by (with_reducible repeat (first|refine Ca ?_ _|refine Ea ?_|refine Da ?_ _));exact ta.out) hg (Kd.Nt uk.out ta.out (by decide)));have Bc:=ga.mk (Kd.Zj (by (with_reducible repeat (first|apply Kd.Xa|apply Kd.Wa|apply Kd.yb));exact Jz.out) (Kd.Yj (by (with_reducible repeat (first|apply Kd.Xa|apply Kd.Wa|apply Kd.yb));exact uk.out)) (by decide) hg);have Ge:=ga.mk (hb);have Zf:=ga.mk (ho);clear Lc jd ta Jz HB uk;have Lc:=Fb;have jd:=Lb;have ta:=Vb;have Jz:=Bc;have HB:=Ge;have Kac:=Zf;clear Fb Lb Vb Bc Ge Zf ho hb hg hat))
             go_roundg k2
             case measure=>have:=Gf.out;have:=Fm.out;omega
             case rel=>exact ⟨(J5),(wrap64 (Qd + 1)),(by first|rfl|(simp;done)|(simp [*];done)),H',⟨by have:=Gf.out;have:=Fm.out;omega⟩,⟨by (with_reducible repeat (first|apply Kd.Gd|apply Kd.Ed|apply Kd.qe));exact Kd.Bg Lc.out (fun _ hk=>hk.2)⟩,⟨by (with_reducible repeat (first|apply Kd.Gd|apply Kd.Ed|apply Kd.qe));exact jd.out⟩,⟨by (with_reducible repeat (first|apply Kd.Xa|apply Kd.Wa|apply Kd.yb));exact Kac.out⟩,⟨by (with_reducible repeat (first|refine Ca ?_ _|refine Ea ?_|refine Da ?_ _));exact ta.out⟩,⟨by repeat (first|(with_reducible first|exact HB.out|apply oa|apply ia|apply qa|refine ua ?_ Sa.out)|exact HB.out)⟩⟩
            ·rw [if_neg xF] at H;exact absurd H (by simp)
           ·replace Yx:=Bool.eq_false_iff.mpr Yx;subst Yx;have H1:(Gc.l1 k2 Fc t106 Aa gr (wrap64 (Qd + 1)))=some r:=by rw [if_neg (show ¬ (false=true) by decide)] at H;exact H
            clear H;have H:=H1;clear H1;have H':=ga.mk H;clear H;have qC:0 ≤ (Qd:Int):=of_decide_eq_true (by first|(with_reducible assumption)|assumption);have nC:Qd < (t106.length:Int):=of_decide_eq_true (by first|(with_reducible assumption)|assumption);obtain ⟨Hab,R4,V1,u0,GC,Qv,Uv⟩:=qQ (Kd.ke jd.out).2.2 Qd qC nC;cases u0;obtain ⟨Naa,FI,GI,oA⟩:=Kd.kX jd.out [] Qd qC (by first|exact nC|exact of_decide_eq_true (by first|(with_reducible assumption)|assumption)|(have e_:=(Kd.ke jd.out).1;omega));obtain ⟨rR,rfl,yq⟩:=GI;have Sk:=oA 0 _ rfl;rw [Nat.add_zero,show ((Kd.slice 4 Kd.bool)).sz=1 from rfl,Nat.mul_one] at Sk;replace Sk:=Option.some.inj (Sk.symm.trans GC);rw [Sk] at yq;have Jz:=ga.mk (show Kd.R Kd.bool 4 _ _ _ _ (Bk t106 Qd) from yq);clear Sk yq oA FI;have Xw:=ga.mk Uv;have SV:=ga.mk Qv;clear Uv Qv;replace qC:=eq_true qC;replace nC:=eq_true nC;have ux:0 ≤ (Aa:Int):=of_decide_eq_true (by first|(with_reducible assumption)|assumption);have sx:Aa < ((Bk t106 Qd).length:Int):=of_decide_eq_true (by first|(with_reducible assumption)|assumption);obtain ⟨ay,TP,Ll⟩:=Kd.Xj (by repeat (first|(with_reducible exact Xw.out)|(with_reducible refine Kd.Sb ?_ _)|(with_reducible refine Kd.Rb ?_ _)|(with_reducible refine Kd.jc ?_)|exact Xw.out)) Aa ux sx;(try rw [← rX.out] at Ll);cases TP;replace ux:=eq_true ux;replace sx:=eq_true sx;go_wp2
            go_roundg k2
            case measure=>have:=Gf.out;have:=Fm.out;omega
            case rel=>exact ⟨(gr),(wrap64 (Qd + 1)),(by first|rfl|(simp;done)|(simp [*];done)),H',⟨by have:=Gf.out;have:=Fm.out;omega⟩,⟨by (with_reducible repeat (first|apply Kd.Gd|apply Kd.Ed|apply Kd.qe));exact Lc.out⟩,⟨by (with_reducible repeat (first|apply Kd.Gd|apply Kd.Ed|apply Kd.qe));exact jd.out⟩,⟨by (with_reducible repeat (first|apply Kd.Xa|apply Kd.Wa|apply Kd.yb));exact uk.out⟩,⟨by (with_reducible repeat (first|refine Ca ?_ _|refine Ea ?_|refine Da ?_ _));exact ta.out⟩,⟨by repeat (first|(with_reducible first|exact HB.out|apply oa|apply ia|apply qa|refine ua ?_ Sa.out)|exact HB.out)⟩⟩
          ·rw [if_neg Mt] at H;exact absurd H (by simp)
         ·rw [if_neg Kr] at H;exact absurd H (by simp)
        ·rw [if_neg Ez] at H;exact absurd H (by simp)
       ·rw [if_neg xy] at H;have VL:decide (Qd < (t106.length:Int))=false:=decide_eq_false xy;clear xy
        by_cases ZE:Fc.length < 5864062014805
        ·rw [if_pos ZE] at H;have fac:=ga.mk ZE;clear ZE;obtain ⟨Kz,Sl⟩:∃ y_:List (List Int),y_=(Fc ++ [gr]):=⟨_,rfl⟩;replace H:(Gc.l0 k2 Kz t106 (wrap64 (Aa + 1)))=some r:=by first|(rw [Sl];with_reducible exact H)|(have Md:=(Option.bind_some _ _).symm.trans H;rw [Sl];with_reducible exact Md)|(have Md:=(Option.bind_some _ _).symm.trans H;with_reducible exact Md)|with_reducible exact H|(rw [Sl];exact H)|exact H
         have YB:=ga.mk Sl;clear Sl;have H':=ga.mk H;clear H;obtain ⟨O4,U0,UZ⟩:=Kd.Jd uk.out;subst UZ;go_wp2_with (first|((with_reducible refine fh (b:=.append) (xs:=#[.tmp 39,.tmp 41]) rfl ?_);at_builtin;refine Kd.mH (Kd.slice 3 (Kd.int .i64)) (w0:=w) w.heap.size rfl (.tmp 39) (.tmp 41) 53 22 (.slice none 0 0) 24 rfl Try.underlying53 sO rfl (by decide) (by omega) u3 Fc gr [.slice O4 gr.length U0] (fun _=>True) (fun k_=>some k_=(.slice O4 gr.length U0:Value).ownBlock) rfl rfl ?aP (fun k_ Tv=>((Kd.Jc (Cn:=fun k_=>((fun _=>True)) k_∧some k_ ≠ (u3:Value).ownBlock) (Kd.Nn (uk.out) (Kd.pn Lc.out) (by decide)) (fun k_ hk=>⟨trivial,hk.2⟩))).1 k_ Tv.symm) ?aF ?aO ?aB ?aS ?aL ?_;(case aP=>exact Kd.vX (Kd.Jc (Kd.Fq rfl (Kd.Jc (Cn:=fun k_=>((fun _=>True)) k_∧some k_ ≠ (u3:Value).ownBlock) (Kd.Nn (uk.out) (Kd.pn Lc.out) (by decide)) (fun k_ hk=>⟨trivial,hk.2⟩))) (fun _ h_=>h_)));(case aB=>exact (by repeat (first|(with_reducible first|exact HB.out|apply oa|apply ia|apply qa|refine ua ?_ Sa.out)|exact HB.out)));(case aF=>exact (fun _ _=>trivial));(case aO=>exact (by (with_reducible repeat (first|apply Kd.Gd|apply Kd.Ed|apply Kd.qe));exact Kd.Bg Lc.out (fun k_ hk=>⟨trivial,fun e_=>hk e_⟩)));(case aS=>exact (Ka (by repeat (first|(with_reducible first|exact HB.out|apply oa|apply ia|apply qa|refine ua ?_ Sa.out)|exact HB.out))));(case aL=>have:=fac.out;omega);intro kC jY ho hb hg hat;rw [← YB.out] at ho;have Fb:=ga.mk (Kd.bM (by (with_reducible repeat (first|apply Kd.Gd|apply Kd.Ed|apply Kd.qe));exact jd.out) (Kd.pn (by (with_reducible repeat (first|apply Kd.Gd|apply Kd.Ed|apply Kd.qe));exact Lc.out)) (by decide) hg);have Lb:=ga.mk (wg (g:=za) (o:=.cells #[.slice xb Oa.length qb,.int .i64 La,.int .i64 Pa,.int .i64 Ja,.slice Pb Fa.length Gb] 45 (0,0)) (by (with_reducible repeat (first|refine Ca ?_ _|refine Ea ?_|refine Da ?_ _));exact ta.out) hg (Kd.Mab Lc.out ta.out (by decide)));have Vb:=ga.mk (hb);have Bc:=ga.mk (ho);clear jd ta HB Lc uk;have jd:=Fb;have ta:=Lb;have HB:=Vb;have Km:=Bc;clear Fb Lb Vb Bc ho hb hg hat))
         go_roundg k2
         case measure=>have:=Gf.out;have:=Fm.out;omega
         case rel=>exact ⟨(Kz),(wrap64 (Aa + 1)),(by first|rfl|(simp;done)|(simp [*];done)),H',⟨by have:=Gf.out;have:=Fm.out;omega⟩,⟨by (with_reducible repeat (first|apply Kd.Gd|apply Kd.Ed|apply Kd.qe));exact Km.out⟩,⟨by (with_reducible repeat (first|apply Kd.Gd|apply Kd.Ed|apply Kd.qe));exact jd.out⟩,⟨by (with_reducible repeat (first|refine Ca ?_ _|refine Ea ?_|refine Da ?_ _));exact ta.out⟩,⟨by repeat (first|(with_reducible first|exact HB.out|apply oa|apply ia|apply qa|refine ua ?_ Sa.out)|exact HB.out)⟩⟩
        ·rw [if_neg ZE] at H;exact absurd H (by simp)
    ·rw [if_neg Zq] at H;have Zx:decide (Aa < (t106.length:Int))=false:=decide_eq_false Zq;clear Zq;obtain rfl:=Option.some.inj H;obtain ⟨Paw,Jav,sao⟩:=Kd.Wk jd.out;subst sao;go_wp2;go_ret;exact ⟨_,by first|rfl|(simp [Na,Ma] <;> rfl)|(simp [*,Na,Ma] <;> rfl),by (with_reducible repeat (first|apply Kd.Gd|apply Kd.Ed|apply Kd.qe));exact Lc.out,by repeat (first|(with_reducible first|exact HB.out|apply oa|apply ia|apply qa|refine ua ?_ Sa.out)|exact HB.out)⟩
 ·replace c3:=Bool.eq_false_iff.mpr c3;subst c3;have H1:(some Yd)=some r:=by rw [if_neg (show ¬ (false=true) by decide)] at H;exact H
  clear H;have H:=H1;clear H1;obtain rfl:=Option.some.inj H;go_enter Try.func35,Try.ntmps35;go_wp2_with (first|((with_reducible refine Db (N:=1) rfl ?_);refine Jb ?hg (N:=1) ?hd (cs:=#[.slice xb Oa.length qb,.int .i64 La,.int .i64 Pa,.int .i64 Ja,.slice Pb Fa.length Gb]) (t:=45) ?hr ?_;(case hd=>rfl);(case hg=>rfl);(case hr=>first|(go_simp;done)|(go_simp;rfl));intro za hg DH Wb hb;have Fb:=ga.mk (Qa (by repeat (first|(with_reducible first|exact HB.out|apply oa|apply ia|apply qa)|exact HB.out)) hb);have Lb:=ga.mk (Wb);have Vb:=ga.mk ((by rw [hg];exact (Ka (by repeat (first|(with_reducible first|exact HB.out|apply oa|apply ia|apply qa)|exact HB.out))):w.heap.size ≤ za));have Bc:=ga.mk ((by rw [hg];exact (Ka (by repeat (first|(with_reducible first|exact HB.out|apply oa|apply ia|apply qa)|exact HB.out))):w.heap.size ≤ za));clear HB;have HB:=Fb;have ta:=Lb;have ye:=Vb;have Sa:=Bc;clear Fb Lb Vb Bc hb Wb hg)|((with_reducible refine Db (N:=8) rfl ?_);refine Kd.vQ (Kd.slice 3 (Kd.int .i64)) _ 22 ?hg (N:=8) ?hd (xs:=([]:List (List Int))) (inner:=[]) (ok:=fun _=>True) (Gh:=fun _=>True) ?hr ?hp (fun _ hk=>hk) trivial (Below.refl _ _) (Nat.le_refl _) (by simp) ?_;(case hd=>rfl);(case hg=>rfl);(case hr=>first|(go_simp;done)|(go_simp;rfl));(case hp=>exact (Ld.none _ _));intro Sh CH RO hb um Df;clear um Df;(first|rw [← ki.out] at RO|(simp only [Int.reduceToNat] at RO;rw [← ki.out] at RO));have Fb:=ga.mk (Kd.Zo RO (Ka (by repeat (first|(with_reducible first|exact HB.out|apply oa|apply ia|apply qa|refine ua ?_ Sa.out)|exact HB.out))));have Lb:=ga.mk (Va (g:=za) (o:=.cells #[.slice xb Oa.length qb,.int .i64 La,.int .i64 Pa,.int .i64 Ja,.slice Pb Fa.length Gb] 45 (0,0)) (by (with_reducible repeat (first|refine Ca ?_ _|refine Ea ?_|refine Da ?_ _));exact ta.out) hb);have Vb:=ga.mk (Qa (by repeat (first|(with_reducible first|exact HB.out|apply oa|apply ia|apply qa|refine ua ?_ Sa.out)|exact HB.out)) hb);clear ta HB;have Ze:=Fb;have ta:=Lb;have HB:=Vb;clear Fb Lb Vb hb RO;have oz:CH.cell? ⟨za,0,none⟩=some (.slice xb Oa.length qb):=(ja ta.out 0).trans rfl;have mz:CH.cell? ⟨za,1,none⟩=some (.int .i64 La):=(ja ta.out 1).trans rfl;have kz:CH.cell? ⟨za,2,none⟩=some (.int .i64 Pa):=(ja ta.out 2).trans rfl;have jz:CH.cell? ⟨za,3,none⟩=some (.int .i64 Ja):=(ja ta.out 3).trans rfl;have iz:CH.cell? ⟨za,4,none⟩=some (.slice Pb Fa.length Gb):=(ja ta.out 4).trans rfl;have Ry:=aa ta.out 0;have Qy:=aa ta.out 1;have Py:=aa ta.out 2;have Oy:=aa ta.out 3;have Ny:=aa ta.out 4)|((with_reducible refine zb (f:=66) rfl ?_);refine Dc (some 10) rfl rfl Try.func66 (by kernel_rfl) rfl #[.agg #[.slice xb Oa.length qb,.int .i64 La,.int .i64 Pa,.int .i64 Ja,.slice Pb Fa.length Gb]] rfl (by (try simp only [List.map_toArray,List.map_cons,List.map_nil]);first|done|rfl|(simp only [List.length_drop,List.length_take];rfl)) ?_;(with_reducible refine (Ua.calls k _ _ Oa La Pa Ja _ _ Fa false _ ?yc ?uc ?Ad ?yd A2.out).mono ?_);(case yc=>repeat (first|exact (Kd.Mb Ue.out HB.out)|(with_reducible refine Kd.Sb ?_ _)|(with_reducible refine Kd.Rb ?_ _)|(with_reducible refine Kd.jc ?_)));(case uc=>exact af.out);(case Ad=>repeat (first|exact (Kd.Mb ng.out HB.out)|(with_reducible refine Kd.Sb ?_ _)|(with_reducible refine Kd.Rb ?_ _)|(with_reducible refine Kd.jc ?_)));(case yd=>exact Xg.out);rintro e w32 ⟨rfl,hb⟩;refine ⟨_,rfl,?_⟩;have Fb:=ga.mk (Kd.Le (by (with_reducible repeat (first|apply Kd.Gd|apply Kd.Ed|apply Kd.qe));exact Ze.out) hb);have Lb:=ga.mk (Va (g:=za) (o:=.cells #[.slice xb Oa.length qb,.int .i64 La,.int .i64 Pa,.int .i64 Ja,.slice Pb Fa.length Gb] 45 (0,0)) (by (with_reducible repeat (first|refine Ca ?_ _|refine Ea ?_|refine Da ?_ _));exact ta.out) hb);have Vb:=ga.mk (Qa (by repeat (first|(with_reducible first|exact HB.out|apply oa|apply ia|apply qa|refine ua ?_ Sa.out)|exact HB.out)) hb);clear Ze ta HB;have Ze:=Fb;have ta:=Lb;have HB:=Vb;clear Fb Lb Vb;(try clear hb);(try clear Jj);(try clear hk);(try clear hi)));go_ret;exact ⟨_,by first|rfl|(simp [Na,Ma] <;> rfl)|(simp [*,Na,Ma] <;> rfl),by (with_reducible repeat (first|apply Kd.Gd|apply Kd.Ed|apply Kd.qe));exact Ze.out,by repeat (first|(with_reducible first|exact HB.out|apply oa|apply ia|apply qa|refine ua ?_ Sa.out)|exact HB.out)⟩
def Yg.f (a0:Int) (a1:Int) (a2:Int):Option (Bool):=if a0 ≥ a1 then (some (decide (a0 ≤ a2))) else (some false)
theorem Yg.calls (a0:Int) (a1:Int) (a2:Int) (r:Bool) (w:World) (h:Yg.f a0 a1 a2=some r) :
  Calls Try.prog 94 #[.int .i64 a0,.int .i64 a1,.int .i64 a2] w fun e w'=>e = .returned (.bool r)∧fc w w':=by
 have H:(if a0 ≥ a1 then (some (decide (a0 ≤ a2))) else (some false))=some r:=h;clear h
 by_cases c4:a0 ≥ a1
 ·rw [if_pos c4] at H;have Aj:decide (a1 ≤ a0)=true:=decide_eq_true c4;clear c4;obtain rfl:=Option.some.inj H;go_enter Try.func94,Try.ntmps94;go_wp2;go_ret;exact ⟨by first|rfl|(simp;done)|(simp [*];done),by repeat (first|exact fc.refl _|apply fc.step)⟩
 ·rw [if_neg c4] at H;have Aj:decide (a1 ≤ a0)=false:=decide_eq_false c4;clear c4;obtain rfl:=Option.some.inj H;go_enter Try.func94,Try.ntmps94;go_wp2;go_ret;exact ⟨by first|rfl|(simp;done)|(simp [*];done),by repeat (first|exact fc.refl _|apply fc.step)⟩
theorem eX {W w1:World} (hb:Below W.heap.size W w1):(∀ b o,b < W.heap.size→w1.cell? ⟨b,o,none⟩=W.cell? ⟨b,o,none⟩)∧(∀ b o,b < W.heap.size→w1.frozen? ⟨b,o,none⟩=W.frozen? ⟨b,o,none⟩) :=
 ⟨fun b o h=>hb.cell (p:=⟨b,o,none⟩) h,fun b o h=>hb.frozen (p:=⟨b,o,none⟩) h⟩
theorem Ep {α:Type} {l:List α} {p:α→Bool} {k:Nat} {d:α} (hk:k < l.length) (h:(l.take k).any p=false) (hx:p (l.getD k d)=false):(l.take (k + 1)).any p=false:=by
 rw [List.take_succ_eq_append_getElem hk,List.any_append,h]
 simpa [List.getD_eq_getElem?_getD,List.getElem?_eq_getElem hk] using hx
theorem YL {α:Type} {l:List α} {p:α→Bool} {k:Nat} {d:α} (hk:k < l.length) (hx:p (l.getD k d)=true):l.any p=true:=by
 rw [List.any_eq_true];exact ⟨l[k],List.getElem_mem hk,by simpa [List.getD_eq_getElem?_getD,List.getElem?_eq_getElem hk] using hx⟩
theorem iB (g:Nat) (lb:Array Value) (p:Vc→Bool) (eg:∀ args w,(callFunc g args).run Try.prog w = .ok (.enter g args) w) (A0:Option Addr) (c0:Nat) (l0:List Vc) (w:World) (Si:Kd.C Pf w A0 l0.length l0) (hc0:l0.length ≤ c0)
  (hp:∀ (W:World) (x:Vc),Below w.heap.size w W→Calls Try.prog g (#[(.agg #[.int .i64 x.f0,.int .i64 x.f1,.int .i64 x.f2,.int .i64 x.f3,.int .i64 x.f4,.int .i64 x.f5,.string x.f6])] ++ lb) W fun e w'=>e = .returned (.bool (p x))∧Below W.heap.size W w') :
  Calls Try.prog 137 #[.slice A0 l0.length c0,.func (.func g) #[] lb] w fun e w'=>(∃ i:Int,e = .returned (.int .i64 i)∧decide (0 ≤ i)=l0.any p)∧Below w.heap.size w w':=by
 have W6:=Si.2.1;have fl:=ga.mk Si;have vB:=ga.mk hc0;have HP:=ga.mk hp;clear Si hc0 hp;go_enter Try.func137,Try.ntmps137;go_wp2
 go_loopg [5,8] l0.length (fun gg _ s8 wr=>∃ kk:Nat,kk ≤ l0.length∧l0.length - kk ≤ gg∧s8 = .int .i64 kk∧ga (Below w.heap.size w wr)∧ga ((l0.take kk).any p=false))
 case atStart=>exact ⟨0,Nat.zero_le _,by omega,rfl,⟨Below.refl _ w⟩,⟨by simp⟩⟩
 case round =>
  (try clear BW);(try clear HA);obtain ⟨kk,hkk,hg,rfl,BW,HA⟩:=hrel
  by_cases hlt:kk < l0.length
  ·have p1:0 ≤ (kk:Int):=by omega
   have q1:(kk:Int) < (l0.length:Int):=by omega
   obtain ⟨ad,e1,hx0,hx1,hx2,oy,ax,rN,zC⟩:=Cq fl.out (kk:Int) p1 q1;cases e1;simp only [Int.toNat_natCast] at hx0 hx1 hx2 oy ax rN zC;replace hx0:=(BW.out.cell (World.block_lt_of_cell? w _ hx0)).trans hx0;replace hx1:=(BW.out.cell (World.block_lt_of_cell? w _ hx1)).trans hx1;replace hx2:=(BW.out.cell (World.block_lt_of_cell? w _ hx2)).trans hx2;replace oy:=(BW.out.cell (World.block_lt_of_cell? w _ oy)).trans oy;replace ax:=(BW.out.cell (World.block_lt_of_cell? w _ ax)).trans ax;replace rN:=(BW.out.cell (World.block_lt_of_cell? w _ rN)).trans rN;replace zC:=(BW.out.cell (World.block_lt_of_cell? w _ zC)).trans zC;have hcall:=HP.out wr (Ba l0 (kk:Int)) BW.out;cases hq:p (Ba l0 (kk:Int)) with
   | true =>
    rw [hq] at hcall;go_wp2_with (go_at_fn g;refine hcall.mono ?_;rintro e w1 ⟨rfl,Qp⟩);go_ret;exact ⟨⟨_,rfl,by rw [YL (d:=Cj) hlt hq];simp⟩,BW.out.trans (Qp.mono BW.out.size)⟩
   | false =>
    rw [hq] at hcall;go_wp2_with (go_at_fn g;refine hcall.mono ?_;rintro e w1 ⟨rfl,Qp⟩)
    go_roundg (l0.length - (kk + 1))
    case measure=>omega
    case rel=>exact ⟨kk + 1,by omega,by omega,by go_num,⟨BW.out.trans (Qp.mono BW.out.size)⟩,⟨Ep (d:=Cj) hlt HA.out hq⟩⟩
  ·have fZ:¬ (kk:Int) < (l0.length:Int):=by omega
   have he:kk=l0.length:=by omega
   subst he;go_wp2;go_ret;exact ⟨⟨_,rfl,by have h_:=HA.out;rw [List.take_length] at h_;rw [h_];simp⟩,BW.out⟩
theorem Ju (g:Nat) (lb:Array Value) (p:Vc→Bool) (eg:∀ args w,(callFunc g args).run Try.prog w = .ok (.enter g args) w) (A0:Option Addr) (c0:Nat) (l0:List Vc) (w:World) (Si:Kd.C Pf w A0 l0.length l0) (hc0:l0.length ≤ c0)
  (hp:∀ (W:World) (x:Vc),Below w.heap.size w W→Calls Try.prog g (#[(.agg #[.int .i64 x.f0,.int .i64 x.f1,.int .i64 x.f2,.int .i64 x.f3,.int .i64 x.f4,.int .i64 x.f5,.string x.f6])] ++ lb) W fun e w'=>e = .returned (.bool (p x))∧Below W.heap.size W w') :
  Calls Try.prog 123 #[.slice A0 l0.length c0,.func (.func g) #[] lb] w fun e w'=>e = .returned (.bool (l0.any p))∧Below w.heap.size w w':=by
 have HI:=ga.mk (iB g lb p eg A0 c0 l0 w Si hc0 hp);clear Si hc0 hp;go_enter Try.func123,Try.ntmps123;go_wp2_with (go_at_call 137;refine HI.out.mono ?_;rintro e w1 ⟨⟨i,rfl,hi⟩,Qp⟩;have HD:=ga.mk hi;clear hi);go_ret;exact ⟨by rw [← HD.out];first|rfl|simp,Qp⟩
def Ab.l0:Nat→List ByteArray→ByteArray→Int→Int→Option (Int)
 | 0,_,_,_,_=>none
 | k + 1,x0,x1,x7,x8=>if x8 < x7 then (if 0 ≤ x8 then (if x8 < (x0.length:Int) then (if x1.toList=(sg ByteArray.empty x0 x8).toList then (some x8) else (Ab.l0 k x0 x1 x7 (wrap64 (x8 + 1)))) else (none)) else (none)) else (some (-1))
def Ab.f (k:Nat) (l0:List ByteArray) (a1:ByteArray):Option (Int):=Ab.l0 k l0 a1 (l0.length:Int) 0
theorem Ab.tr:∀ k,(∀ y0 y1 y2 y3,di (Ab.l0 k y0 y1 y2 y3) (Ab.l0 (k + 1) y0 y1 y2 y3))
 | 0=>fun _ _ _ _ r h=>by simp [Ab.l0] at h
 | k + 1=>by
  have VF:=Ab.tr k
  ·intro y0 y1 y2 y3;unfold Ab.l0
   repeat' first
   | (with_reducible exact VF _ _ _ _)
   | (with_reducible exact di.refl _)
   | (with_reducible exact di.none _)
   | (with_reducible refine di.ite ?_ ?_)
   | (with_reducible refine di.bind ?_ (fun _=>?_))
   | exact VF _ _ _ _
   | exact di.none _
   | refine di.ite ?_ ?_
   | refine di.bind ?_ (fun _=>?_)
theorem Ab.mono:∀ a0 a1 k,di (Ab.f k a0 a1) (Ab.f (k + 1) a0 a1):=by
 intro a0 a1 k;have VF:=Ab.tr k;unfold Ab.f
 repeat' first
   | (with_reducible exact VF _ _ _ _)
   | (with_reducible exact di.refl _)
   | (with_reducible exact di.none _)
   | (with_reducible refine di.ite ?_ ?_)
   | (with_reducible refine di.bind ?_ (fun _=>?_))
   | exact VF _ _ _ _
   | exact di.none _
   | refine di.ite ?_ ?_
   | refine di.bind ?_ (fun _=>?_)
theorem Ab.calls (k:Nat) (A0:Option Addr) (c0:Nat) (l0:List ByteArray) (a1:ByteArray) (r:Int) (w:World) (Si:Kd.C Kd.string w A0 l0.length l0) (hc0:l0.length ≤ c0) (h:Ab.f k l0 a1=some r) :
  Calls Try.prog 161 #[.slice A0 l0.length c0,.string a1] w fun e w'=>e = .returned (.int .i64 r)∧fc w w':=by
 have fl:=ga.mk Si;have vB:=ga.mk hc0;clear Si hc0;have H:(Ab.l0 k l0 a1 (l0.length:Int) 0)=some r:=h;clear h;have H':=ga.mk H;clear H;go_enter Try.func161,Try.ntmps161;go_wp2
 go_loopg [8] k (fun kq v8 w'=>∃ (me:Int),v8 = .int .i64 me∧ga (Ab.l0 kq l0 a1 (l0.length:Int) me=some r)∧ga (kq ≤ k)∧fc w w')
 case atStart=>exact ⟨(0),(by first|rfl|(simp;done)|(simp [*];done)),H',⟨Nat.le_refl _⟩,by repeat (first|exact fc.refl _|apply fc.step)⟩
 case round =>
  clear H'
  try clear c1
  try clear p2
  (try clear HA);(try clear Gf);obtain ⟨me,rfl,HA,Gf,⟨m1,rfl⟩⟩:=hrel;cases gk with
  | zero=>exact absurd HA.out (by simp [Ab.l0])
  | succ k1 =>
   have H:=HA.out;clear HA;simp only [Ab.l0] at H
   by_cases c3:me < (l0.length:Int)
   ·rw [if_pos c3] at H;have Cg:decide (me < (l0.length:Int))=true:=decide_eq_true c3;clear c3
    by_cases c4:0 ≤ me
    ·rw [if_pos c4] at H;have Aj:decide (0 ≤ me)=true:=decide_eq_true c4;clear c4
     by_cases c5:me < (l0.length:Int)
     ·rw [if_pos c5] at H;have Al:decide (me < (l0.length:Int))=true:=decide_eq_true c5;clear c5
      by_cases c6:a1.toList=(sg ByteArray.empty l0 me).toList
      ·rw [if_pos c6] at H;have Yl:(a1.toList == (sg ByteArray.empty l0 me).toList)=true:=beq_iff_eq.mpr c6;have XE:(a1.toList != (sg ByteArray.empty l0 me).toList)=false:=bne_eq_false_iff_eq.mpr c6;clear c6;obtain rfl:=Option.some.inj H;have Ee:0 ≤ (me:Int):=of_decide_eq_true (by first|(with_reducible assumption)|assumption);have De:me < (l0.length:Int):=of_decide_eq_true (by first|(with_reducible assumption)|assumption);obtain ⟨je,Ih,xd⟩:=Kd.Dt fl.out me Ee De;cases Ih;replace Ee:=eq_true Ee;replace De:=eq_true De;go_wp2;go_ret;exact ⟨by first|rfl|(simp;done)|(simp [*];done),by repeat (first|exact fc.refl _|apply fc.step)⟩
      ·rw [if_neg c6] at H;have Yl:(a1.toList == (sg ByteArray.empty l0 me).toList)=false:=beq_eq_false_iff_ne.mpr c6;have XE:(a1.toList != (sg ByteArray.empty l0 me).toList)=true:=bne_iff_ne.mpr c6;have H':=ga.mk H;clear H;have Ee:0 ≤ (me:Int):=of_decide_eq_true (by first|(with_reducible assumption)|assumption);have De:me < (l0.length:Int):=of_decide_eq_true (by first|(with_reducible assumption)|assumption);obtain ⟨je,Ih,xd⟩:=Kd.Dt fl.out me Ee De;cases Ih;replace Ee:=eq_true Ee;replace De:=eq_true De;go_wp2
       go_roundg k1
       case measure=>have:=Gf.out;omega
       case rel=>exact ⟨(wrap64 (me + 1)),(by first|rfl|(simp;done)|(simp [*];done)),H',⟨by have:=Gf.out;omega⟩,by repeat (first|exact fc.refl _|apply fc.step)⟩
     ·rw [if_neg c5] at H;exact absurd H (by simp)
    ·rw [if_neg c4] at H;exact absurd H (by simp)
   ·rw [if_neg c3] at H;have Cg:decide (me < (l0.length:Int))=false:=decide_eq_false c3;clear c3;obtain rfl:=Option.some.inj H;go_wp2;go_ret;exact ⟨by first|rfl|(simp;done)|(simp [*];done),by repeat (first|exact fc.refl _|apply fc.step)⟩
def Oc.f (k:Nat) (l0:List ByteArray) (a1:ByteArray):Option (Bool):=(Ab.f k l0 a1).bind fun t101=>(some (decide (t101 ≥ 0)))
theorem Oc.mono:∀ a0 a1 k,di (Oc.f k a0 a1) (Oc.f (k + 1) a0 a1):=by
 intro a0 a1 k;unfold Oc.f
 repeat' first
   | (with_reducible exact Ab.mono _ _ _)
   | (with_reducible exact di.refl _)
   | (with_reducible exact di.none _)
   | (with_reducible refine di.ite ?_ ?_)
   | (with_reducible refine di.bind ?_ (fun _=>?_))
   | exact Ab.mono _ _ _
   | exact di.none _
   | refine di.ite ?_ ?_
   | refine di.bind ?_ (fun _=>?_)
theorem Oc.calls (k:Nat) (A0:Option Addr) (c0:Nat) (l0:List ByteArray) (a1:ByteArray) (r:Bool) (w:World) (Si:Kd.C Kd.string w A0 l0.length l0) (hc0:l0.length ≤ c0) (h:Oc.f k l0 a1=some r) :
  Calls Try.prog 154 #[.slice A0 l0.length c0,.string a1] w fun e w'=>e = .returned (.bool r)∧fc w w':=by
 have fl:=ga.mk Si;have vB:=ga.mk hc0;clear Si hc0;have H:((Ab.f k l0 a1).bind fun t101=>(some (decide (t101 ≥ 0))))=some r:=h;clear h;replace H:=Option.bind_eq_some_iff.mp H;obtain ⟨t101,SA,H⟩:=H;replace H:(some (decide (t101 ≥ 0)))=some r:=H;have A3:=ga.mk SA;clear SA;obtain rfl:=Option.some.inj H;go_enter Try.func154,Try.ntmps154;go_wp2_with (first|((with_reducible refine zb (f:=161) rfl ?_);refine Dc (some 7) rfl rfl Try.func161 (by kernel_rfl) rfl #[.slice A0 l0.length c0,.string a1] rfl (by (try simp only [List.map_toArray,List.map_cons,List.map_nil]);first|done|rfl|(simp only [List.length_drop,List.length_take];rfl)) ?_;(with_reducible refine (Ab.calls k _ _ l0 a1 t101 _ ?yc ?uc A3.out).mono ?_);(case yc=>repeat (first|exact fl.out|(with_reducible refine Kd.Sb ?_ _)|(with_reducible refine Kd.Rb ?_ _)|(with_reducible refine Kd.jc ?_)));(case uc=>exact vB.out);rintro e w' ⟨rfl,⟨nd,rfl⟩⟩;refine ⟨_,rfl,?_⟩));go_ret;exact ⟨by first|rfl|(simp;done)|(simp [*];done),by repeat (first|exact fc.refl _|apply fc.step)⟩
def Rl.f (k:Nat) (a0:ByteArray):Option (Bool):=(Oc.f k (([(⟨#[61,61]⟩:ByteArray),(⟨#[60]⟩:ByteArray),(⟨#[38]⟩:ByteArray),(⟨#[43]⟩:ByteArray),(⟨#[45]⟩:ByteArray),(⟨#[42]⟩:ByteArray)]:List ByteArray)) a0).bind fun t104=>(some t104)
theorem Rl.calls (k:Nat) (a0:ByteArray) (r:Bool) (w:World) (h:Rl.f k a0=some r) :
  Calls Try.prog 139 #[.string a0] w fun e w'=>e = .returned (.bool r)∧Below w.heap.size w w':=by
 have HB:=ga.mk (Below.refl w.heap.size w);have H:((Oc.f k (([(⟨#[61,61]⟩:ByteArray),(⟨#[60]⟩:ByteArray),(⟨#[38]⟩:ByteArray),(⟨#[43]⟩:ByteArray),(⟨#[45]⟩:ByteArray),(⟨#[42]⟩:ByteArray)]:List ByteArray)) a0).bind fun t104=>(some t104))=some r:=h;clear h;obtain ⟨Mf,Tf⟩:∃ y_:List ByteArray,y_=(([(⟨#[61,61]⟩:ByteArray),(⟨#[60]⟩:ByteArray),(⟨#[38]⟩:ByteArray),(⟨#[43]⟩:ByteArray),(⟨#[45]⟩:ByteArray),(⟨#[42]⟩:ByteArray)]:List ByteArray)):=⟨_,rfl⟩;replace H:((Oc.f k Mf a0).bind fun t104=>(some t104))=some r:=by first|(rw [Tf];with_reducible exact H)|(have Md:=(Option.bind_some _ _).symm.trans H;rw [Tf];with_reducible exact Md)|(have Md:=(Option.bind_some _ _).symm.trans H;with_reducible exact Md)|with_reducible exact H|(rw [Tf];exact H)|exact H
 have Sj:=ga.mk Tf;clear Tf;replace H:=Option.bind_eq_some_iff.mp H;obtain ⟨t104,sF,H⟩:=H;replace H:(some t104)=some r:=H;have A2:=ga.mk sF;clear sF;obtain rfl:=Option.some.inj H;go_enter Try.func139,Try.ntmps139;go_wp2_with (first|((with_reducible refine Db (N:=3) rfl ?_);refine Kd.vl Kd.string _ 9 ?hg (N:=3) ?hd (xs:=([(⟨#[61,61]⟩:ByteArray),(⟨#[60]⟩:ByteArray),(⟨#[38]⟩:ByteArray),(⟨#[43]⟩:ByteArray),(⟨#[45]⟩:ByteArray),(⟨#[42]⟩:ByteArray)]:List ByteArray)) (inner:=[.string (⟨#[61,61]⟩:ByteArray),.string (⟨#[60]⟩:ByteArray),.string (⟨#[38]⟩:ByteArray),.string (⟨#[43]⟩:ByteArray),.string (⟨#[45]⟩:ByteArray),.string (⟨#[42]⟩:ByteArray)]) (ok:=fun _=>True) (Gh:=fun _=>True) ?hr ?hp (fun _ hk=>hk) trivial (Below.refl _ _) (Nat.le_refl _) (by simp) ?_;(case hd=>rfl);(case hg=>rfl);(case hr=>first|(go_simp;done)|(go_simp;rfl));(case hp=>exact (Ld.one (show Kd.M Kd.string _ _ _ (⟨#[61,61]⟩:ByteArray) [.string (⟨#[61,61]⟩:ByteArray)] from rfl) (Ld.one (show Kd.M Kd.string _ _ _ (⟨#[60]⟩:ByteArray) [.string (⟨#[60]⟩:ByteArray)] from rfl) (Ld.one (show Kd.M Kd.string _ _ _ (⟨#[38]⟩:ByteArray) [.string (⟨#[38]⟩:ByteArray)] from rfl) (Ld.one (show Kd.M Kd.string _ _ _ (⟨#[43]⟩:ByteArray) [.string (⟨#[43]⟩:ByteArray)] from rfl) (Ld.one (show Kd.M Kd.string _ _ _ (⟨#[45]⟩:ByteArray) [.string (⟨#[45]⟩:ByteArray)] from rfl) (Ld.one (show Kd.M Kd.string _ _ _ (⟨#[42]⟩:ByteArray) [.string (⟨#[42]⟩:ByteArray)] from rfl) (Ld.none _ _))))))));intro CF w3 kB hb um Df;clear um Df;(first|rw [← Sj.out] at kB|(simp only [Int.reduceToNat] at kB;rw [← Sj.out] at kB));have Fb:=ga.mk (Kd.Qe kB (Ka (by repeat (first|(with_reducible first|exact HB.out|apply oa|apply ia|apply qa)|exact HB.out))));have Lb:=ga.mk (Qa (by repeat (first|(with_reducible first|exact HB.out|apply oa|apply ia|apply qa)|exact HB.out)) hb);clear HB;have Pp:=Fb;have HB:=Lb;clear Fb Lb hb kB;obtain ⟨Ao5,co5,PZ⟩:=Kd.Jd Pp.out;subst PZ)|((with_reducible refine zb (f:=154) rfl ?_);refine Dc (some 5) rfl rfl Try.func154 (by kernel_rfl) rfl #[.slice Ao5 Mf.length co5,.string a0] rfl (by (try simp only [List.map_toArray,List.map_cons,List.map_nil]);first|done|rfl|(simp only [List.length_drop,List.length_take];rfl)) ?_;(with_reducible refine (Oc.calls k _ _ Mf a0 t104 _ ?yc ?uc A2.out).mono ?_);(case yc=>repeat (first|exact (Kd.Tb Pp.out).2.2|(with_reducible refine Kd.Sb ?_ _)|(with_reducible refine Kd.Rb ?_ _)|(with_reducible refine Kd.jc ?_)));(case uc=>exact (Kd.Tb Pp.out).2.1);rintro e w' ⟨rfl,⟨nd,rfl⟩⟩;refine ⟨_,rfl,?_⟩));go_ret;exact ⟨by first|rfl|(simp [Na,Ma] <;> rfl)|(simp [*,Na,Ma] <;> rfl),by repeat (first|(with_reducible first|exact HB.out|apply oa|apply ia|apply qa)|exact HB.out)⟩
theorem XF (g:Nat) (lb:Array Value) (p:Int→Bool) (eg:∀ args w,(callFunc g args).run Try.prog w = .ok (.enter g args) w) (A0:Option Addr) (c0:Nat) (l0:List Int) (w:World) (Si:Kd.C (Kd.int .i64) w A0 l0.length l0) (hc0:l0.length ≤ c0)
  (hp:∀ (W:World) (x:Int),Below w.heap.size w W→Calls Try.prog g (#[(.int .i64 x)] ++ lb) W fun e w'=>e = .returned (.bool (p x))∧Below W.heap.size W w') :
  Calls Try.prog 105 #[.slice A0 l0.length c0,.func (.func g) #[] lb] w fun e w'=>(∃ i:Int,e = .returned (.int .i64 i)∧decide (0 ≤ i)=l0.any p)∧Below w.heap.size w w':=by
 have W6:=Si.2.1;have fl:=ga.mk Si;have vB:=ga.mk hc0;have HP:=ga.mk hp;clear Si hc0 hp;go_enter Try.func105,Try.ntmps105;go_wp2
 go_loopg [5,8] l0.length (fun gg _ s8 wr=>∃ kk:Nat,kk ≤ l0.length∧l0.length - kk ≤ gg∧s8 = .int .i64 kk∧ga (Below w.heap.size w wr)∧ga ((l0.take kk).any p=false))
 case atStart=>exact ⟨0,Nat.zero_le _,by omega,rfl,⟨Below.refl _ w⟩,⟨by simp⟩⟩
 case round =>
  (try clear BW);(try clear HA);obtain ⟨kk,hkk,hg,rfl,BW,HA⟩:=hrel
  by_cases hlt:kk < l0.length
  ·have p1:0 ≤ (kk:Int):=by omega
   have q1:(kk:Int) < (l0.length:Int):=by omega
   obtain ⟨ad,e1,hx0⟩:=Kd.Ef fl.out (kk:Int) p1 q1;cases e1;simp only [Int.toNat_natCast] at hx0;replace hx0:=(BW.out.cell (World.block_lt_of_cell? w _ hx0)).trans hx0;have hcall:=HP.out wr (rd l0 (kk:Int)) BW.out;cases hq:p (rd l0 (kk:Int)) with
   | true =>
    rw [hq] at hcall;go_wp2_with (go_at_fn g;refine hcall.mono ?_;rintro e w1 ⟨rfl,Qp⟩);go_ret;exact ⟨⟨_,rfl,by rw [YL (d:=0) hlt hq];simp⟩,BW.out.trans (Qp.mono BW.out.size)⟩
   | false =>
    rw [hq] at hcall;go_wp2_with (go_at_fn g;refine hcall.mono ?_;rintro e w1 ⟨rfl,Qp⟩)
    go_roundg (l0.length - (kk + 1))
    case measure=>omega
    case rel=>exact ⟨kk + 1,by omega,by omega,by go_num,⟨BW.out.trans (Qp.mono BW.out.size)⟩,⟨Ep (d:=0) hlt HA.out hq⟩⟩
  ·have fZ:¬ (kk:Int) < (l0.length:Int):=by omega
   have he:kk=l0.length:=by omega
   subst he;go_wp2;go_ret;exact ⟨⟨_,rfl,by have h_:=HA.out;rw [List.take_length] at h_;rw [h_];simp⟩,BW.out⟩
theorem Bx (g:Nat) (lb:Array Value) (p:Int→Bool) (eg:∀ args w,(callFunc g args).run Try.prog w = .ok (.enter g args) w) (A0:Option Addr) (c0:Nat) (l0:List Int) (w:World) (Si:Kd.C (Kd.int .i64) w A0 l0.length l0) (hc0:l0.length ≤ c0)
  (hp:∀ (W:World) (x:Int),Below w.heap.size w W→Calls Try.prog g (#[(.int .i64 x)] ++ lb) W fun e w'=>e = .returned (.bool (p x))∧Below W.heap.size W w') :
  Calls Try.prog 115 #[.slice A0 l0.length c0,.func (.func g) #[] lb] w fun e w'=>e = .returned (.bool (l0.any p))∧Below w.heap.size w w':=by
 have HI:=ga.mk (XF g lb p eg A0 c0 l0 w Si hc0 hp);clear Si hc0 hp;go_enter Try.func115,Try.ntmps115;go_wp2_with (go_at_call 105;refine HI.out.mono ?_;rintro e w1 ⟨⟨i,rfl,hi⟩,Qp⟩;have HD:=ga.mk hi;clear hi);go_ret;exact ⟨by rw [← HD.out];first|rfl|simp,Qp⟩
def Ij (a b c:Int):Bool:=decide (b ≤ a) && decide (a ≤ c)
theorem ak (a b c:Int) (w:World):Calls Try.prog 94 #[.int .i64 a,.int .i64 b,.int .i64 c] w fun e w'=>e = .returned (.bool (Ij a b c))∧fc w w' :=
 Yg.calls a b c (Ij a b c) w (by
  unfold Yg.f Ij
  by_cases h:a ≥ b
  ·rw [if_pos h];have h':b ≤ a:=h;simp [h']
  ·rw [if_neg h];have h':¬ b ≤ a:=h
   simp [h'])
def gu (l:List Int) (p v:Int):Bool:=Ij (l.length:Int) 1 4 && !(l.any fun n=>!Ij n 1 16) && Ij p 0 (if v < 6 then v else 6) && decide (v ≤ 20)
theorem QF (W:World) (x:Int):Calls Try.prog 116 #[.int .i64 x] W fun e w'=>e = .returned (.bool (!Ij x 1 16))∧Below W.heap.size W w':=by
 have HC:=ga.mk (ak x 1 16);generalize Ij x 1 16=b at HC ⊢;go_enter Try.func116,Try.ntmps116;go_wp2_with (go_at_call 94;refine (HC.out _).mono ?_;rintro e w1 ⟨rfl,Qp⟩;have HD:=ga.mk Qp.below;clear Qp);go_ret;exact ⟨rfl,HD.out⟩
theorem fF (p0 p1 p2 p3:Value) (A:Option Addr) (c:Nat) (w:World) :
  Calls Try.prog 117 #[.agg #[p0,p1,p2,p3],.slice A 0 c,.int .i64 0] w fun e w'=>e = .returned (.bool true)∧Below w.heap.size w w':=by
 go_enter Try.func117,Try.ntmps117;go_wp2
 go_loop [25] (fun i=>i = .int .i64 0) (fun _=>0)
 case atStart=>exact rfl
 case round =>
  obtain rfl:=hrel;go_wp2;go_ret;exact ⟨rfl,oa (oa (Below.refl _ _) _) _⟩
theorem gB (A0 A3:Option Addr) (c0 c3:Nat) (l0:List Int) (a1 a2:Int) (w:World) (Si:Kd.C (Kd.int .i64) w A0 l0.length l0) (hc0:l0.length ≤ c0) :
  Calls Try.prog 93 #[.agg #[.slice A0 l0.length c0,.int .i64 a1,.int .i64 a2,.slice A3 0 c3]] w fun e w'=>e = .returned (.bool (gu l0 a1 a2))∧Below w.heap.size w w':=by
 have eg:=enters_of Try.func116 (by kernel_rfl) rfl;have W6:=Si.2.1;have L4:=ga.mk (ak (l0.length:Int) 1 4);have XX:=ga.mk (ak a1 0 (if a2 < 6 then a2 else 6));have HF:=ga.mk (fun (W:World) (hb:Below w.heap.size w W)=>Bx 116 #[] (fun n=>!Ij n 1 16) eg A0 c0 l0 W (Kd.Mb Si hb) hc0 (fun W x _=>QF W x));clear Si hc0;unfold gu
 by_cases h6:a2 < 6
 all_goals
  have hmin:min 6 a2=if a2 < 6 then a2 else 6:=by split <;> omega
  first|rw [if_pos h6] at XX hmin ⊢|rw [if_neg h6] at XX hmin ⊢
  cases Qp:Ij (l0.length:Int) 1 4 with
  | false =>
   go_enter Try.func93,Try.ntmps93;go_wp2_with (first|(go_at_call 94;refine (ak _ _ _ _).mono ?_;rintro e w1 ⟨rfl,⟨n,rfl⟩⟩));go_ret;exact ⟨rfl,ia (oa (Below.refl _ _) _) _⟩
  | true =>
   cases Jj:(l0.any fun n=>!Ij n 1 16) with
   | true =>
    rw [Jj] at HF;go_enter Try.func93,Try.ntmps93;go_wp2_with (first|(go_at_call 94;refine (ak _ _ _ _).mono ?_;rintro e w1 ⟨rfl,⟨n,rfl⟩⟩)|(go_at_call 115;refine (HF.out _ (ia (oa (Below.refl _ _) _) _)).mono ?_;rintro e w1 ⟨rfl,hb⟩;have HB:=ga.mk (Qa (ia (oa (Below.refl _ _) _) _) hb);clear hb));go_ret;exact ⟨rfl,HB.out⟩
   | false =>
    rw [Jj] at HF;go_enter Try.func93,Try.ntmps93;go_wp2_with (first|(go_at_call 94;(with_reducible refine (ak _ _ _ _).mono ?_);rintro e w1 ⟨rfl,⟨n,rfl⟩⟩)|(go_at_call 115;(with_reducible refine (HF.out _ (ia (oa (Below.refl _ _) _) _)).mono ?_);rintro e w1 ⟨rfl,hb⟩;have HB:=ga.mk (Qa (ia (oa (Below.refl _ _) _) _) hb);obtain ⟨aV,JT⟩:=eX hb;have uO:=hb.size;simp at uO;clear hb)|(go_at_call 117;(with_reducible refine (fF _ _ _ _ _ _ _).mono ?_);rintro e w2 ⟨rfl,hb⟩;have br:=ga.mk (Qa (ia HB.out _) hb);clear hb))
    all_goals
     go_ret
     first
      | exact ⟨by simp [*],br.out⟩
      | exact ⟨by simp [*],ia HB.out _⟩
def yg.f (Oa:List Int) (La:Int) (Pa:Int) (sI:List (Kx)):Option Bool:=if sI.length=0 then some (gu Oa La Pa) else none
theorem yg.calls (xb:Option Addr) (qb:Nat) (Oa:List Int) (La:Int) (Pa:Int) (U4:Option Addr) (G2:Nat) (sI:List (Kx)) (r:Bool) (w:World) (xe:Kd.C (Kd.int .i64) w xb Oa.length Oa) (we:Oa.length ≤ qb) (Eaq:Kd.C bam w U4 sI.length sI) (Was:sI.length ≤ G2) (h:yg.f Oa La Pa sI=some r) :
  Calls Try.prog 93 #[.agg #[.slice xb Oa.length qb,.int .i64 La,.int .i64 Pa,.slice U4 sI.length G2]] w fun e w'=>e = .returned (.bool r)∧Below w.heap.size w w':=by
 unfold yg.f at h
 split at h
 ·rename_i h0;injection h with h
  subst h;rw [h0];exact gB xb U4 qb G2 Oa La Pa w xe we
 ·cases h
theorem OZ (d:Nat) (w:World) (x0 y0:Int) (x1 y1:Int) (x2 y2:Int) (x3 y3:Int) (x4 y4:Int) (x5 y5:Int) (x6 y6:ByteArray) :
  (Op.equalIn (d + 2) 122 (.agg #[.int .i64 x0,.int .i64 x1,.int .i64 x2,.int .i64 x3,.int .i64 x4,.int .i64 x5,.string x6]) (.agg #[.int .i64 y0,.int .i64 y1,.int .i64 y2,.int .i64 y3,.int .i64 y4,.int .i64 y5,.string y6])).run Try.prog w = .ok (x0 == y0 && (x1 == y1 && (x2 == y2 && (x3 == y3 && (x4 == y4 && (x5 == y5 && (x6.toList == y6.toList))))))) w:=by
 refine OP Try.underlying122 (by kernel_rfl) ?_;refine Pj (by rfl) (by go_simp;rfl) (by go_simp;rfl) (by go_simp) ?_;refine Pj (by rfl) (by go_simp;rfl) (by go_simp;rfl) (by go_simp) ?_;refine Pj (by rfl) (by go_simp;rfl) (by go_simp;rfl) (by go_simp) ?_;refine Pj (by rfl) (by go_simp;rfl) (by go_simp;rfl) (by go_simp) ?_;refine Pj (by rfl) (by go_simp;rfl) (by go_simp;rfl) (by go_simp) ?_;refine Pj (by rfl) (by go_simp;rfl) (by go_simp;rfl) (by go_simp) ?_;exact SG (by rfl) (by go_simp;rfl) (by go_simp;rfl) (by go_simp)
end Go.Proofs.Ytoomcmaifgkkfaa.P
end
