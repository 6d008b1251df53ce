import Derived.Test.YtoomcmaifgkkfaaQRuler1
import Derived.Test.YtoomcmaifgkkfaaQRuler3
import Derived.Test.YtoomcmaifgkkfaaQRuler2
set_option maxHeartbeats 8000000
set_option maxRecDepth 100000
section
namespace Go.Proofs.Ytoomcmaifgkkfaa.P
open Go.RowKit Go.Proofs.Ia.Pb Go.Proofs.Ia.Ld Go.Proofs.Ia.De
set_option linter.unusedVariables false
set_option linter.unusedSimpArgs false
attribute [local go_sem] Bi zi Fj Ej mh jh Ai si
mutual
def xb.l0:Nat→Int→List Bool→List Int→Int→List Int→Int→Int→Int→List (jf)→Option ((List (List Bool)))
 | 0,_,_,_,_,_,_,_,_,_=>none
 | k + 1,x3,x4,x5,x6,Yc,Zc,Xc,Wc,dc=>if x6 < (x5.length:Int) then (if 0 ≤ x6 then (if 0 ≤ (rd x5 x6) then (if (rd x5 x6) < (x4.length:Int) then (xb.l0 k x3 (x4.set ((rd x5 x6):Int).toNat true) x5 (wrap64 (x6 + 1)) Yc Zc Xc Wc dc) else (none)) else (none)) else (none)) else (xb.l1 k x3 x4 (([]:List (List Bool))) 0 Yc Zc Xc Wc dc)
def xb.l1:Nat→Int→List Bool→List (List Bool)→Int→List Int→Int→Int→Int→List (jf)→Option ((List (List Bool)))
 | 0,_,_,_,_,_,_,_,_,_=>none
 | k + 1,x3,x4,x7,x8,Yc,Zc,Xc,Wc,dc=>if x8 < x3 then (if 0 ≤ x3 then (if (x3:Int).toNat ≤ 281474976710656 then ((some (List.replicate (x3:Int).toNat false:List Bool)).bind fun Rv=>(if x8=0 then (xb.j2 k x3 x4 x7 x8 Rv Yc Zc Xc Wc dc) else ((Gb.f k Yc Zc Xc Wc dc 0 x8 Rv).bind fun t116=>(xb.j2 k x3 x4 x7 x8 t116 Yc Zc Xc Wc dc)))) else (none)) else (none)) else (some x7)
def xb.j2:Nat→Int→List Bool→List (List Bool)→Int→List Bool→List Int→Int→Int→Int→List (jf)→Option ((List (List Bool)))
 | 0,_,_,_,_,_,_,_,_,_,_=>none
 | k + 1,x3,x4,x7,x8,x9,Yc,Zc,Xc,Wc,dc=>if 0 ≤ x3 then (if (x3:Int).toNat ≤ 281474976710656 then (xb.l2 k x3 x4 x7 x8 x9 (List.replicate (x3:Int).toNat false) 0 Yc Zc Xc Wc dc) else (none)) else (none)
def xb.l2:Nat→Int→List Bool→List (List Bool)→Int→List Bool→List Bool→Int→List Int→Int→Int→Int→List (jf)→Option ((List (List Bool)))
 | 0,_,_,_,_,_,_,_,_,_,_,_,_=>none
 | k + 1,x3,x4,x7,x8,x9,ND,mJ,Yc,Zc,Xc,Wc,dc=>if mJ < x3 then (if 0 ≤ x8 then (if x8 < (x4.length:Int) then (if Eg false x4 x8=true then (if 0 ≤ mJ then (if mJ < (x4.length:Int) then (if Eg false x4 mJ=true then (if mJ < (x9.length:Int) then (if mJ < (ND.length:Int) then (xb.l2 k x3 x4 x7 x8 x9 (ND.set (mJ:Int).toNat (!(Eg false x9 mJ))) (wrap64 (mJ + 1)) Yc Zc Xc Wc dc) else (none)) else (none)) else (if mJ < (ND.length:Int) then (xb.l2 k x3 x4 x7 x8 x9 (ND.set (mJ:Int).toNat false) (wrap64 (mJ + 1)) Yc Zc Xc Wc dc) else (none))) else (none)) else (none)) else (if 0 ≤ mJ then (if mJ < (ND.length:Int) then (xb.l2 k x3 x4 x7 x8 x9 (ND.set (mJ:Int).toNat false) (wrap64 (mJ + 1)) Yc Zc Xc Wc dc) else (none)) else (none))) else (none)) else (none)) else (if x7.length < 5864062014805 then (xb.l1 k x3 x4 (x7 ++ [ND]) (wrap64 (x8 + 1)) Yc Zc Xc Wc dc) else (none))
end
def xb.f (k:Nat) (Ma:List Int) (La:Int) (Na:Int) (Ka:Int) (Fa:List (jf)):Option ((List (List Bool))):=if 0 ≤ (Fa.length:Int) then (if ((Fa.length:Int):Int).toNat ≤ 281474976710656 then ((Mb.f k Ma La Na Ka Fa).bind fun t105=>(xb.l0 k (Fa.length:Int) (List.replicate ((Fa.length:Int):Int).toNat false) t105 0 Ma La Na Ka Fa)) else (none)) else (none)
theorem xb.calls (k:Nat) (qb:Option Addr) (mb:Nat) (Ma:List Int) (La:Int) (Na:Int) (Ka:Int) (Lb:Option Addr) (Fb:Nat) (Fa:List (jf)) (r:List (List Bool)) (w:World) (Ae:Kd.C (Kd.int .i64) w qb Ma.length Ma) (we:Ma.length ≤ mb) (Uf:Kd.C Gp w Lb Fa.length Fa) (Lf:Fa.length ≤ Fb) (h:xb.f k Ma La Na Ka Fa=some r) :
  Calls Try.prog 67 #[.agg #[.slice qb Ma.length mb,.int .i64 La,.int .i64 Na,.int .i64 Ka,.slice Lb Fa.length Fb]] w fun e w'=>∃ Xn:Value,e = .returned (Xn)∧Kd.S (Kd.slice 4 Kd.bool) 73 w' w.heap.size (fun _=>True) Xn r∧Below w.heap.size w w':=by
 have Oz:=Try.underlying45;have Ke:=ga.mk Ae;have Ve:=ga.mk we;clear Ae we;have kg:=ga.mk Uf;have Tg:=ga.mk Lf;clear Uf Lf;have HB:=ga.mk (Below.refl w.heap.size w);have H:(if 0 ≤ (Fa.length:Int) then (if ((Fa.length:Int):Int).toNat ≤ 281474976710656 then ((Mb.f k Ma La Na Ka Fa).bind fun t105=>(xb.l0 k (Fa.length:Int) (List.replicate ((Fa.length:Int):Int).toNat false) t105 0 Ma La Na Ka Fa)) else (none)) else (none))=some r:=h;clear h
 by_cases c2:0 ≤ (Fa.length:Int)
 ·rw [if_pos c2] at H;have js:=eq_true c2;have tv:decide (0 ≤ (Fa.length:Int))=true:=decide_eq_true c2;clear c2
  by_cases c3:((Fa.length:Int):Int).toNat ≤ 281474976710656
  ·rw [if_pos c3] at H;have dh:=eq_true c3;have gp:decide (((Fa.length:Int):Int).toNat ≤ 281474976710656)=true:=decide_eq_true c3;clear c3;obtain ⟨Xd,lf⟩:∃ y_:List Bool,y_=(List.replicate ((Fa.length:Int):Int).toNat false):=⟨_,rfl⟩;replace H:((Mb.f k Ma La Na Ka Fa).bind fun t105=>(xb.l0 k (Fa.length:Int) Xd t105 0 Ma La Na Ka Fa))=some r:=by first|(rw [lf];with_reducible exact H)|(have Md:=(Option.bind_some _ _).symm.trans H;rw [lf];with_reducible exact Md)|(have Md:=(Option.bind_some _ _).symm.trans H;with_reducible exact Md)|with_reducible exact H|(rw [lf];exact H)|exact H
   have xh:=ga.mk lf;clear lf;replace H:=Option.bind_eq_some_iff.mp H;obtain ⟨t105,lJ,H⟩:=H;replace H:(xb.l0 k (Fa.length:Int) Xd t105 0 Ma La Na Ka Fa)=some r:=H;have A4:=ga.mk lJ;clear lJ;have H':=ga.mk H;clear H;go_enter Try.func67,Try.ntmps67;go_wp2_with (first|((with_reducible refine Ab (N:=1) rfl ?_);refine Kb ?hg (N:=1) ?hd (cs:=#[.slice qb Ma.length mb,.int .i64 La,.int .i64 Na,.int .i64 Ka,.slice Lb Fa.length Fb]) (t:=45) ?hr ?_;(case hd=>rfl);(case hg=>rfl);(case hr=>first|(go_simp;done)|(go_simp;rfl));intro za hg w5 Wb hb;have Eb:=ga.mk (Qa (by repeat (first|(with_reducible first|exact HB.out|apply oa|apply ia|apply qa)|exact HB.out)) hb);have Ib:=ga.mk (Wb);have Sb:=ga.mk ((by rw [hg];exact (Ja (by repeat (first|(with_reducible first|exact HB.out|apply oa|apply ia|apply qa)|exact HB.out))):w.heap.size ≤ za));have yc:=ga.mk ((by rw [hg];exact (Ja (by repeat (first|(with_reducible first|exact HB.out|apply oa|apply ia|apply qa)|exact HB.out))):w.heap.size ≤ za));clear HB;have HB:=Eb;have ta:=Ib;have Be:=Sb;have Sa:=yc;clear Eb Ib Sb yc hb Wb hg;have Zl:w5.cell? ⟨za,0,none⟩=some (.slice qb Ma.length mb):=(ja ta.out 0).trans rfl;have Yl:w5.cell? ⟨za,1,none⟩=some (.int .i64 La):=(ja ta.out 1).trans rfl;have Xl:w5.cell? ⟨za,2,none⟩=some (.int .i64 Na):=(ja ta.out 2).trans rfl;have Wl:w5.cell? ⟨za,3,none⟩=some (.int .i64 Ka):=(ja ta.out 3).trans rfl;have Vl:w5.cell? ⟨za,4,none⟩=some (.slice Lb Fa.length Fb):=(ja ta.out 4).trans rfl;have Ul:=aa ta.out 0;have Tl:=aa ta.out 1;have Sl:=aa ta.out 2;have Rl:=aa ta.out 3;have Ql:=aa ta.out 4)|((with_reducible refine Ab (N:=16) rfl ?_);refine Kd.nw Kd.bool _ 4 rfl (N:=16) rfl 73 _ _ rfl (Fa.length:Int) rfl rfl Try.underlying73 (.bool false) 1 wL rfl (by decide) (by omega) false (ok:=fun _=>True) (Jh:=fun _=>True) rfl (fun _ hk=>hk) trivial (of_decide_eq_true (by first|(with_reducible assumption)|assumption)) (Nat.le_trans (Nat.mul_le_mul_right _ (of_decide_eq_true (by first|(with_reducible assumption)|assumption):(Fa.length:Int).toNat ≤ 281474976710656)) (by omega)) (Below.refl _ _) (Nat.le_refl _) ?_;intro ji w7 R8 hb Ol Re;clear Ol Re;(first|rw [← xh.out] at R8|(simp only [Int.reduceToNat] at R8;rw [← xh.out] at R8));have Eb:=ga.mk (Kd.Fe R8 (Ja (by repeat (first|(with_reducible first|exact HB.out|apply oa|apply ia|apply qa|refine ua ?_ Sa.out)|exact HB.out))));have Ib:=ga.mk (Wa (g:=za) (o:=.cells #[.slice qb Ma.length mb,.int .i64 La,.int .i64 Na,.int .i64 Ka,.slice Lb Fa.length Fb] 45 (0,0)) (by (with_reducible repeat (first|refine Ca ?_ _|refine Ea ?_|refine Da ?_ _));exact ta.out) hb);have Sb:=ga.mk (Qa (by repeat (first|(with_reducible first|exact HB.out|apply oa|apply ia|apply qa|refine ua ?_ Sa.out)|exact HB.out)) hb);clear ta HB;have ke:=Eb;have ta:=Ib;have HB:=Sb;clear Eb Ib Sb hb R8;have Wn:w7.cell? ⟨za,0,none⟩=some (.slice qb Ma.length mb):=(ja ta.out 0).trans rfl;have Vn:w7.cell? ⟨za,1,none⟩=some (.int .i64 La):=(ja ta.out 1).trans rfl;have Un:w7.cell? ⟨za,2,none⟩=some (.int .i64 Na):=(ja ta.out 2).trans rfl;have Tn:w7.cell? ⟨za,3,none⟩=some (.int .i64 Ka):=(ja ta.out 3).trans rfl;have Sn:w7.cell? ⟨za,4,none⟩=some (.slice Lb Fa.length Fb):=(ja ta.out 4).trans rfl;have Rn:=aa ta.out 0;have Qn:=aa ta.out 1;have Pn:=aa ta.out 2;have Nn:=aa ta.out 3;have Mn:=aa ta.out 4)|((with_reducible refine zb (f:=68) rfl ?_);refine Pc (some 18) rfl rfl Try.func68 (by kernel_rfl) rfl #[.agg #[.slice qb Ma.length mb,.int .i64 La,.int .i64 Na,.int .i64 Ka,.slice Lb Fa.length Fb]] rfl (by (try simp only [List.map_toArray,List.map_cons,List.map_nil]);first|done|rfl|(simp only [List.length_drop,List.length_take];rfl)) ?_;(with_reducible refine (Mb.calls k _ _ Ma La Na Ka _ _ Fa t105 _ ?Fc ?Ec ?Wd ?Vd A4.out).mono ?_);(case Fc=>repeat (first|exact (Kd.Nb Ke.out HB.out)|(with_reducible refine Kd.Ub ?_ _)|(with_reducible refine Kd.Tb ?_ _)|(with_reducible refine Kd.mc ?_)));(case Ec=>exact Ve.out);(case Wd=>repeat (first|exact (Kd.Nb kg.out HB.out)|(with_reducible refine Kd.Ub ?_ _)|(with_reducible refine Kd.Tb ?_ _)|(with_reducible refine Kd.mc ?_)));(case Vd=>exact Tg.out);rintro e Xq ⟨sw,rfl,Ri,hb⟩;refine ⟨_,rfl,?_⟩;have Eb:=ga.mk (Kd.Dd (by (with_reducible repeat (first|apply Kd.Va|apply Kd.Ua|apply Kd.jb));exact ke.out) hb);have Ib:=ga.mk (Kd.Fe Ri (Ja (by repeat (first|(with_reducible first|exact HB.out|apply oa|apply ia|apply qa|refine ua ?_ Sa.out)|exact HB.out))));have Sb:=ga.mk (Wa (g:=za) (o:=.cells #[.slice qb Ma.length mb,.int .i64 La,.int .i64 Na,.int .i64 Ka,.slice Lb Fa.length Fb] 45 (0,0)) (by (with_reducible repeat (first|refine Ca ?_ _|refine Ea ?_|refine Da ?_ _));exact ta.out) hb);have yc:=ga.mk (Qa (by repeat (first|(with_reducible first|exact HB.out|apply oa|apply ia|apply qa|refine ua ?_ Sa.out)|exact HB.out)) hb);clear ke ta HB;have ke:=Eb;have wm:=Ib;have ta:=Sb;have HB:=yc;clear Eb Ib Sb yc;(try clear hb);(try clear Qj);(try clear hk);(try clear hi);(try clear Ri)))
   go_loopg [6] k (fun kq v6 w'=>∃ (Zb:List Bool) (Qo:Int),v6 = .int .i64 Qo∧ga (xb.l0 kq (Fa.length:Int) Zb t105 Qo Ma La Na Ka Fa=some r)∧ga (kq ≤ k)∧ga (Kd.R Kd.bool 4 w' w.heap.size (fun _=>True) ji Zb)∧ga (Kd.R (Kd.int .i64) 3 w' w.heap.size (fun _=>True) sw t105)∧ga (w'.heap[za]? = some (.cells #[(.slice qb Ma.length mb),.int .i64 La,.int .i64 Na,.int .i64 Ka,(.slice Lb Fa.length Fb)] 45 (0,0)))∧ga (Below w.heap.size w w'))
   case atStart=>exact ⟨(Xd),(0),(by first|rfl|(simp;done)|(simp [*];done)),H',⟨Nat.le_refl _⟩,⟨by (with_reducible repeat (first|apply Kd.Va|apply Kd.Ua|apply Kd.jb));exact ke.out⟩,⟨by (with_reducible repeat (first|apply Kd.Va|apply Kd.Ua|apply Kd.jb));exact wm.out⟩,⟨by (with_reducible repeat (first|refine Ca ?_ _|refine Ea ?_|refine Da ?_ _));exact ta.out⟩,⟨by repeat (first|(with_reducible first|exact HB.out|apply oa|apply ia|apply qa|refine ua ?_ Sa.out)|exact HB.out)⟩⟩
   case round =>
    clear H'
    try clear c2
    try clear js
    try clear tv
    try clear p2
    try clear c3
    try clear dh
    try clear gp
    try clear c6
    try clear Zl
    try clear Yl
    try clear Xl
    try clear Wl
    try clear Vl
    try clear Wn
    try clear Vn
    try clear Un
    try clear Tn
    try clear Sn
    try clear Ul
    try clear Tl
    try clear Sl
    try clear Rl
    try clear Ql
    try clear Rn
    try clear Qn
    try clear Pn
    try clear Nn
    try clear Mn
    (try clear HA);(try clear uf);(try clear ec);(try clear Zg);(try clear ta);(try clear HB);obtain ⟨Zb,Qo,rfl,HA,uf,ec,Zg,ta,HB⟩:=hrel;cases gk with
    | zero=>exact absurd HA.out (by simp [xb.l0])
    | succ k1 =>
     have H:=HA.out;clear HA;simp only [xb.l0] at H
     by_cases uJ:Qo < (t105.length:Int)
     ·rw [if_pos uJ] at H;have NI:decide (Qo < (t105.length:Int))=true:=decide_eq_true uJ;clear uJ
      by_cases Fq:0 ≤ Qo
      ·rw [if_pos Fq] at H;have Lv:decide (0 ≤ Qo)=true:=decide_eq_true Fq;clear Fq
       by_cases Yt:0 ≤ (rd t105 Qo)
       ·rw [if_pos Yt] at H;have Kv:decide (0 ≤ (rd t105 Qo))=true:=decide_eq_true Yt;clear Yt
        by_cases Bs:(rd t105 Qo) < (Zb.length:Int)
        ·rw [if_pos Bs] at H;have Jv:decide ((rd t105 Qo) < (Zb.length:Int))=true:=decide_eq_true Bs;clear Bs;obtain ⟨eB,bn⟩:∃ y_:List Bool,y_=(Zb.set ((rd t105 Qo):Int).toNat true):=⟨_,rfl⟩;replace H:(xb.l0 k1 (Fa.length:Int) eB t105 (wrap64 (Qo + 1)) Ma La Na Ka Fa)=some r:=by first|(rw [bn];with_reducible exact H)|(have Md:=(Option.bind_some _ _).symm.trans H;rw [bn];with_reducible exact Md)|(have Md:=(Option.bind_some _ _).symm.trans H;with_reducible exact Md)|with_reducible exact H|(rw [bn];exact H)|exact H
         have FD:=ga.mk bn;clear bn;have H':=ga.mk H;clear H;obtain ⟨lP,bP,M4⟩:=Kd.Nd Zg.out;subst M4;have Qk:0 ≤ (Qo:Int):=of_decide_eq_true (by first|(with_reducible assumption)|assumption);have Pk:Qo < (t105.length:Int):=of_decide_eq_true (by first|(with_reducible assumption)|assumption);obtain ⟨Zn,WB,Ei⟩:=Kd.Te (Kd.Jb Zg.out).2.2 Qo Qk Pk;cases WB;replace Qk:=eq_true Qk;replace Pk:=eq_true Pk;have KT:0 ≤ ((rd t105 Qo):Int):=of_decide_eq_true (by first|(with_reducible assumption)|assumption);have CT:((rd t105 Qo):Int) < ((Zb.length:Int):Int):=of_decide_eq_true (by first|(with_reducible assumption)|assumption);obtain ⟨QW,rac,pac,iac,Iap,Dax,YC⟩:=Kd.Uk ec.out (by omega);(first|cases pac|(injection pac with Si nv ov;(first|subst Si|(injection Si with Si;subst Si));subst ov;clear nv));have Taq:=ga.mk iac;have pay:=ga.mk YC;clear iac Iap YC;obtain ⟨aK,Zao⟩:=Kd.Fh false ec.out ((rd t105 Qo):Int) KT CT;replace KT:=eq_true KT;replace CT:=eq_true CT;have Y6:=Kd.Jm ec.out ((rd t105 Qo):Int) true;go_wp2_with (first|((with_reducible refine gf (t:=4) (p:=30) rfl ?_);refine Ie (t:=4) (p:=30) (v:=?ean) (w1:=(wr.setCell ⟨QW,((rd t105 Qo):Int).toNat,none⟩ (.bool true))) ?hg ?ho ?hn ?hr ?_;(case ho=>rfl);(case hg=>rfl);(case hn=>rfl);(case hr=>first|(go_simp;done)|(go_simp;rfl));intro pJ hw;have hg:wr.grownBy pJ (some QW):=(by rw [hw];exact Y6.2);have Hl:Kd.R Kd.bool 4 pJ w.heap.size (fun _=>True) (.slice (some ⟨QW,0,none⟩) Zb.length rac) eB:=(by rw [hw,FD.out];exact Y6.1);clear Y6;have Eb:=ga.mk (Hl);have Ib:=ga.mk (Kd.Nk (v:=(.slice (some ⟨QW,0,none⟩) Zb.length rac)) (by (with_reducible repeat (first|apply Kd.Va|apply Kd.Ua|apply Kd.jb));exact Zg.out) (Kd.Mk ec.out) (by decide) hg);have Sb:=ga.mk (Kf (g:=za) (o:=.cells #[.slice qb Ma.length mb,.int .i64 La,.int .i64 Na,.int .i64 Ka,.slice Lb Fa.length Fb] 45 (0,0)) (by (with_reducible repeat (first|refine Ca ?_ _|refine Ea ?_|refine Da ?_ _));exact ta.out) hg (Kd.Rq ec.out ta.out (by decide)));have yc:=ga.mk ((by rw [hw];exact ua (HB.out) Taq.out:Below w.heap.size w pJ));clear ec Zg ta HB;have ec:=Eb;have Zg:=Ib;have ta:=Sb;have HB:=yc;clear Eb Ib Sb yc hg hw Hl))
         go_roundg k1
         case measure=>have:=uf.out;omega
         case rel=>exact ⟨(eB),(wrap64 (Qo + 1)),(by first|rfl|(simp;done)|(simp [*];done)),H',⟨by have:=uf.out;omega⟩,⟨by (with_reducible repeat (first|apply Kd.Va|apply Kd.Ua|apply Kd.jb));exact ec.out⟩,⟨by (with_reducible repeat (first|apply Kd.Va|apply Kd.Ua|apply Kd.jb));exact Zg.out⟩,⟨by (with_reducible repeat (first|refine Ca ?_ _|refine Ea ?_|refine Da ?_ _));exact ta.out⟩,⟨by repeat (first|(with_reducible first|exact HB.out|apply oa|apply ia|apply qa|refine ua ?_ Sa.out)|exact HB.out)⟩⟩
        ·rw [if_neg Bs] at H;exact absurd H (by simp)
       ·rw [if_neg Yt] at H;exact absurd H (by simp)
      ·rw [if_neg Fq] at H;exact absurd H (by simp)
     ·rw [if_neg uJ] at H;have NI:decide (Qo < (t105.length:Int))=false:=decide_eq_false uJ;clear uJ;obtain ⟨xP,Ot⟩:∃ y_:List (List Bool),y_=(([]:List (List Bool))):=⟨_,rfl⟩;replace H:(xb.l1 k1 (Fa.length:Int) Zb xP 0 Ma La Na Ka Fa)=some r:=by first|(rw [Ot];with_reducible exact H)|(have Md:=(Option.bind_some _ _).symm.trans H;rw [Ot];with_reducible exact Md)|(have Md:=(Option.bind_some _ _).symm.trans H;with_reducible exact Md)|with_reducible exact H|(rw [Ot];exact H)|exact H
      have aJ:=ga.mk Ot;clear Ot;have H':=ga.mk H;clear H;obtain ⟨Xaq,UR,L4⟩:=Kd.Nd Zg.out;subst L4;go_wp2_with (first|((with_reducible refine Ab (N:=31) rfl ?_);refine Kd.lS (Kd.slice 4 Kd.bool) _ 73 ?hg (N:=31) ?hd (xs:=([]:List (List Bool))) (inner:=[]) (ok:=fun _=>True) (Jh:=fun _=>True) ?hr ?hp (fun _ hk=>hk) trivial (Below.refl _ _) (Nat.le_refl _) (by simp) ?_;(case hd=>rfl);(case hg=>rfl);(case hr=>first|(go_simp;done)|(go_simp;rfl));(case hp=>exact (Sd.none _ _));intro jan w20 LQ hb Ol Re;clear Ol Re;(first|rw [← aJ.out] at LQ|(simp only [Int.reduceToNat] at LQ;rw [← aJ.out] at LQ));have Eb:=ga.mk (Kd.Dd (by (with_reducible repeat (first|apply Kd.Va|apply Kd.Ua|apply Kd.jb));exact ec.out) hb);have Ib:=ga.mk (Kd.Dd (by (with_reducible repeat (first|apply Kd.Va|apply Kd.Ua|apply Kd.jb));exact Zg.out) hb);have Sb:=ga.mk (Kd.om (Kd.kC LQ (Kd.Km (by (with_reducible repeat (first|apply Kd.Va|apply Kd.Ua|apply Kd.jb));exact ec.out))) (Ja (by repeat (first|(with_reducible first|exact HB.out|apply oa|apply ia|apply qa|refine ua ?_ Sa.out)|exact HB.out))));have yc:=ga.mk (Wa (g:=za) (o:=.cells #[.slice qb Ma.length mb,.int .i64 La,.int .i64 Na,.int .i64 Ka,.slice Lb Fa.length Fb] 45 (0,0)) (by (with_reducible repeat (first|refine Ca ?_ _|refine Ea ?_|refine Da ?_ _));exact ta.out) hb);have Ee:=ga.mk (Qa (by repeat (first|(with_reducible first|exact HB.out|apply oa|apply ia|apply qa|refine ua ?_ Sa.out)|exact HB.out)) hb);clear ec Zg ta HB;have ec:=Eb;have Zg:=Ib;have JS:=Sb;have ta:=yc;have HB:=Ee;clear Eb Ib Sb yc Ee hb LQ))
      go_loopg [7,8] k1 (fun kq v7 v8 w'=>∃ (Hf:List Bool) (Jc:List (List Bool)) (He:Int),v8 = .int .i64 He∧ga (xb.l1 kq (Fa.length:Int) Hf Jc He Ma La Na Ka Fa=some r)∧ga (kq ≤ k1)∧ga (Kd.R Kd.bool 4 w' w.heap.size (fun _=>True) ji Hf)∧ga (Kd.S (Kd.slice 4 Kd.bool) 73 w' w.heap.size (fun k_=>some k_ ≠ (ji:Value).ownBlock) v7 Jc)∧ga (w'.heap[za]? = some (.cells #[(.slice qb Ma.length mb),.int .i64 La,.int .i64 Na,.int .i64 Ka,(.slice Lb Fa.length Fb)] 45 (0,0)))∧ga (Below w.heap.size w w'))
      case atStart=>exact ⟨(Zb),(xP),(0),(by first|rfl|(simp;done)|(simp [*];done)),H',⟨Nat.le_refl _⟩,⟨by (with_reducible repeat (first|apply Kd.Va|apply Kd.Ua|apply Kd.jb));exact ec.out⟩,⟨by (with_reducible repeat (first|apply Kd.Ic|apply Kd.Gc|apply Kd.yd));exact Kd.Gf JS.out (fun _ hk=>hk.2)⟩,⟨by (with_reducible repeat (first|refine Ca ?_ _|refine Ea ?_|refine Da ?_ _));exact ta.out⟩,⟨by repeat (first|(with_reducible first|exact HB.out|apply oa|apply ia|apply qa|refine ua ?_ Sa.out)|exact HB.out)⟩⟩
      case round =>
       clear H'
       try clear c1
       try clear p1
       try clear q1
       try clear hx1
       try clear hf1
       try clear c2
       try clear js
       try clear tv
       try clear p2
       try clear c3
       try clear dh
       try clear gp
       try clear c6
       try clear p6
       try clear GC
       try clear EC
       try clear LO
       try clear uJ
       try clear NI
       try clear Fq
       try clear Lv
       try clear Yt
       try clear Kv
       try clear Bs
       try clear Jv
       try clear KT
       try clear CT
       try clear K8
       try clear raa
       try clear Zl
       try clear Yl
       try clear Xl
       try clear Wl
       try clear Vl
       try clear Wn
       try clear Vn
       try clear Un
       try clear Tn
       try clear Sn
       try clear Ul
       try clear Tl
       try clear Sl
       try clear Rl
       try clear Ql
       try clear Rn
       try clear Qn
       try clear Pn
       try clear Nn
       try clear Mn
       try clear Ei
       try clear aK
       try clear Qk
       try clear KT
       try clear p2
       try clear Pk
       try clear CT
       (try clear HA);(try clear Pj);(try clear ec);(try clear Oj);(try clear ta);(try clear HB);obtain ⟨Hf,Jc,He,rfl,HA,Pj,ec,Oj,ta,HB⟩:=hrel;cases gk with
       | zero=>exact absurd HA.out (by simp [xb.l1])
       | succ k2 =>
        have H:=HA.out;clear HA;simp only [xb.l1] at H
        by_cases Fz:He < (Fa.length:Int)
        ·rw [if_pos Fz] at H;have MI:decide (He < (Fa.length:Int))=true:=decide_eq_true Fz;clear Fz
         by_cases Hv:0 ≤ (Fa.length:Int)
         ·rw [if_pos Hv] at H;have bC:=eq_true Hv;have LI:decide (0 ≤ (Fa.length:Int))=true:=decide_eq_true Hv;clear Hv
          by_cases EG:((Fa.length:Int):Int).toNat ≤ 281474976710656
          ·rw [if_pos EG] at H;have cS:=eq_true EG;have NY:decide (((Fa.length:Int):Int).toNat ≤ 281474976710656)=true:=decide_eq_true EG;clear EG;obtain ⟨Rv,Nt⟩:∃ y_:List Bool,y_=(List.replicate ((Fa.length:Int):Int).toNat false):=⟨_,rfl⟩;replace H:(if He=0 then (xb.j2 k2 (Fa.length:Int) Hf Jc He Rv Ma La Na Ka Fa) else ((Gb.f k2 Ma La Na Ka Fa 0 He Rv).bind fun t116=>(xb.j2 k2 (Fa.length:Int) Hf Jc He t116 Ma La Na Ka Fa)))=some r:=by first|(rw [Nt];with_reducible exact H)|(have Md:=(Option.bind_some _ _).symm.trans H;rw [Nt];with_reducible exact Md)|(have Md:=(Option.bind_some _ _).symm.trans H;with_reducible exact Md)|with_reducible exact H|(rw [Nt];exact H)|exact H
           have ED:=ga.mk Nt;clear Nt;have y7:=ga.mk H;clear H
           go_upto_if 40 with (first|((with_reducible refine Ab (N:=38) rfl ?_);refine Kd.nw Kd.bool _ 4 rfl (N:=38) rfl 73 _ _ rfl (Fa.length:Int) rfl rfl Try.underlying73 (.bool false) 1 wL rfl (by decide) (by omega) false (ok:=fun _=>True) (Jh:=fun _=>True) rfl (fun _ hk=>hk) trivial (of_decide_eq_true (by first|(with_reducible assumption)|assumption)) (Nat.le_trans (Nat.mul_le_mul_right _ (of_decide_eq_true (by first|(with_reducible assumption)|assumption):(Fa.length:Int).toNat ≤ 281474976710656)) (by omega)) (Below.refl _ _) (Nat.le_refl _) ?_;intro Yq En bK hb Ol Re;clear Ol Re;(first|rw [← ED.out] at bK|(simp only [Int.reduceToNat] at bK;rw [← ED.out] at bK));have Eb:=ga.mk (Kd.mj (by (with_reducible repeat (first|apply Kd.Va|apply Kd.Ua|apply Kd.jb));exact ec.out) (Kd.Mh bK) hb);have Ib:=ga.mk (Kd.yy (by (with_reducible repeat (first|apply Kd.Ic|apply Kd.Gc|apply Kd.yd));exact Oj.out) (Kd.Mh bK) hb);have Sb:=ga.mk (Kd.Fe (Kd.qm bK (Kd.Km (by (with_reducible repeat (first|apply Kd.Va|apply Kd.Ua|apply Kd.jb));exact ec.out))) (Ja (by repeat (first|(with_reducible first|exact HB.out|apply oa|apply ia|apply qa|refine ua ?_ Sa.out)|exact HB.out))));have yc:=ga.mk (Wa (g:=za) (o:=.cells #[.slice qb Ma.length mb,.int .i64 La,.int .i64 Na,.int .i64 Ka,.slice Lb Fa.length Fb] 45 (0,0)) (by (with_reducible repeat (first|refine Ca ?_ _|refine Ea ?_|refine Da ?_ _));exact ta.out) hb);have Ee:=ga.mk (Qa (by repeat (first|(with_reducible first|exact HB.out|apply oa|apply ia|apply qa|refine ua ?_ Sa.out)|exact HB.out)) hb);clear ec Oj ta HB;have ec:=Eb;have Oj:=Ib;have yq:=Sb;have ta:=yc;have HB:=Ee;clear Eb Ib Sb yc Ee hb bK))
           (try simp only [Act.put,List.setIfInBounds_toArray,List.set_cons_zero,List.set_cons_succ])
           go_cut [] (fun wc=>∃ (kq:Nat) (Vg:List Bool),ga (xb.j2 kq (Fa.length:Int) Hf Jc He Vg Ma La Na Ka Fa=some r)∧ga (kq ≤ k2)∧ga (Kd.R Kd.bool 4 wc w.heap.size (fun k_=>some k_ ≠ (Yq:Value).ownBlock) ji Hf)∧ga (Kd.S (Kd.slice 4 Kd.bool) 73 wc w.heap.size (fun k_=>some k_ ≠ (ji:Value).ownBlock∧some k_ ≠ (Yq:Value).ownBlock) u7 Jc)∧ga (Kd.R Kd.bool 4 wc w.heap.size (fun k_=>some k_ ≠ (ji:Value).ownBlock) Yq Vg)∧ga (wc.heap[za]? = some (.cells #[(.slice qb Ma.length mb),.int .i64 La,.int .i64 Na,.int .i64 Ka,(.slice Lb Fa.length Fb)] 45 (0,0)))∧ga (Below w.heap.size w wc))
           case first =>
            have H:=y7.out;clear y7
            by_cases sy:He=0
            ·rw [if_pos sy] at H;have Nq:(He == 0)=true:=beq_iff_eq.mpr sy;have bS:(He != 0)=false:=bne_eq_false_iff_eq.mpr sy;clear sy;(first|rw [Nq]|(simp only [fc,ic];rw [Nq])|skip);have H':=ga.mk H;clear H;go_wp2
             go_meet
             case rel=>exact ⟨_,(Rv),H',⟨by have:=uf.out;have:=Pj.out;first|omega|exact Nat.le_refl _⟩,⟨by (with_reducible repeat (first|apply Kd.Va|apply Kd.Ua|apply Kd.jb));exact Kd.Mc ec.out (fun _ hk=>hk.2)⟩,⟨by (with_reducible repeat (first|apply Kd.Ic|apply Kd.Gc|apply Kd.yd));exact Oj.out⟩,⟨by (with_reducible repeat (first|apply Kd.Va|apply Kd.Ua|apply Kd.jb));exact Kd.Mc yq.out (fun _ hk=>hk.2)⟩,⟨by (with_reducible repeat (first|refine Ca ?_ _|refine Ea ?_|refine Da ?_ _));exact ta.out⟩,⟨by repeat (first|(with_reducible first|exact HB.out|apply oa|apply ia|apply qa|refine ua ?_ Sa.out)|exact HB.out)⟩⟩
            ·rw [if_neg sy] at H;have Nq:(He == 0)=false:=beq_eq_false_iff_ne.mpr sy;have bS:(He != 0)=true:=bne_iff_ne.mpr sy;(first|rw [Nq]|(simp only [fc,ic];rw [Nq])|skip);replace H:=Option.bind_eq_some_iff.mp H;obtain ⟨t116,aaf,H⟩:=H;replace H:(xb.j2 k2 (Fa.length:Int) Hf Jc He t116 Ma La Na Ka Fa)=some r:=H;have A29:=ga.mk aaf;clear aaf;have H':=ga.mk H;clear H;have NA:En.cell? ⟨za,0,none⟩=some (.slice qb Ma.length mb):=(ja ta.out 0).trans rfl;have MA:En.cell? ⟨za,1,none⟩=some (.int .i64 La):=(ja ta.out 1).trans rfl;have LA:En.cell? ⟨za,2,none⟩=some (.int .i64 Na):=(ja ta.out 2).trans rfl;have KA:En.cell? ⟨za,3,none⟩=some (.int .i64 Ka):=(ja ta.out 3).trans rfl;have JA:En.cell? ⟨za,4,none⟩=some (.slice Lb Fa.length Fb):=(ja ta.out 4).trans rfl;have rA:=aa ta.out 0;have qA:=aa ta.out 1;have oA:=aa ta.out 2;have nA:=aa ta.out 3;have mA:=aa ta.out 4;obtain ⟨kP,ZO,I4⟩:=Kd.Nd yq.out;subst I4;go_wp2_with (first|((with_reducible refine zb (f:=102) rfl ?_);refine Pc (some 44) rfl rfl Try.func102 (by kernel_rfl) rfl #[.agg #[.slice qb Ma.length mb,.int .i64 La,.int .i64 Na,.int .i64 Ka,.slice Lb Fa.length Fb],.int .i64 0,.int .i64 He,.slice kP Rv.length ZO] rfl (by (try simp only [List.map_toArray,List.map_cons,List.map_nil]);first|done|rfl|(simp only [List.length_drop,List.length_take];rfl)) ?_;(with_reducible refine (Gb.calls k2 _ _ Ma La Na Ka _ _ Fa 0 He (fun k_=>some k_=(.slice kP Rv.length ZO:Value).ownBlock) (.slice kP Rv.length ZO) Rv t116 w _ ?Fc ?Ec ?Wd ?Vd ?xw ?vw A29.out).mono ?_);(case Fc=>repeat (first|(with_reducible first|exact HB.out|apply oa|apply ia|apply qa|refine ua ?_ Sa.out)|exact HB.out));(case Ec=>exact Kd.bu (Kd.jj .i64) Ke.out (by repeat (first|(with_reducible first|exact HB.out|apply oa|apply ia|apply qa|refine ua ?_ Sa.out)|exact HB.out)) (fun k_ hs_=>(fun e_=>Kd.Mh yq.out k_ e_.symm) hs_));(case Wd=>exact Ve.out);(case Vd=>exact Kd.bu nQ kg.out (by repeat (first|(with_reducible first|exact HB.out|apply oa|apply ia|apply qa|refine ua ?_ Sa.out)|exact HB.out)) (fun k_ hs_=>(fun e_=>Kd.Mh yq.out k_ e_.symm) hs_));(case xw=>exact Tg.out);(case vw=>exact Kd.Fs rfl yq.out);rintro e w32 ⟨rfl,hy0,hb,hkp⟩;refine ⟨_,rfl,?_⟩;have Eb:=ga.mk (Kd.Mc (vp:=fun k_=>some k_ ≠ (.slice kP Rv.length ZO:Value).ownBlock) (Kd.XA (ec.out) hkp (fun k_ sx hs_=>(sx.2) hs_)) (fun k_ sx=>sx.1.2));have Ib:=ga.mk (Kd.Gf (vp:=fun k_=>some k_ ≠ (ji:Value).ownBlock∧some k_ ≠ (.slice kP Rv.length ZO:Value).ownBlock) (Kd.gX (Oj.out) hkp (fun k_ sx hs_=>(sx.2) hs_)) (fun k_ sx=>⟨sx.1.1,sx.1.2⟩));have Sb:=ga.mk (Fi (by (with_reducible repeat (first|refine Ca ?_ _|refine Ea ?_|refine Da ?_ _));exact ta.out) hkp (fun hs_=>(fun e_=>(Kd.Rq yq.out ta.out (by decide)) e_) hs_));have yc:=ga.mk (Kd.rS rfl hy0 (fun k_ e_=>yq.out.1 k_ e_));have Ee:=ga.mk (hb);clear ec Oj ta yq HB;have ec:=Eb;have Oj:=Ib;have ta:=Sb;have yq:=yc;have HB:=Ee;clear Eb Ib Sb yc Ee;(try clear hb);(try clear hkp);(try clear hy0)))
             go_meet
             case rel=>exact ⟨_,(t116),H',⟨by have:=uf.out;have:=Pj.out;first|omega|exact Nat.le_refl _⟩,⟨by (with_reducible repeat (first|apply Kd.Va|apply Kd.Ua|apply Kd.jb));exact ec.out⟩,⟨by (with_reducible repeat (first|apply Kd.Ic|apply Kd.Gc|apply Kd.yd));exact Oj.out⟩,⟨by (with_reducible repeat (first|apply Kd.Va|apply Kd.Ua|apply Kd.jb));exact Kd.Mc yq.out (fun _ hk=>hk.2)⟩,⟨by (with_reducible repeat (first|refine Ca ?_ _|refine Ea ?_|refine Da ?_ _));exact ta.out⟩,⟨by repeat (first|(with_reducible first|exact HB.out|apply oa|apply ia|apply qa|refine ua ?_ Sa.out)|exact HB.out)⟩⟩
           case rest =>
            clear y7
            try clear c1
            try clear p1
            try clear q1
            try clear hx1
            try clear hf1
            try clear c2
            try clear js
            try clear tv
            try clear p2
            try clear c3
            try clear dh
            try clear gp
            try clear c6
            try clear p6
            try clear cT
            try clear GC
            try clear EC
            try clear LO
            try clear uJ
            try clear NI
            try clear Fq
            try clear Lv
            try clear Yt
            try clear Kv
            try clear Bs
            try clear Jv
            try clear KT
            try clear CT
            try clear K8
            try clear raa
            try clear Fz
            try clear MI
            try clear Hv
            try clear bC
            try clear LI
            try clear EG
            try clear cS
            try clear NY
            try clear sy
            try clear Nq
            try clear bS
            try clear NA
            try clear MA
            try clear LA
            try clear KA
            try clear JA
            try clear Zl
            try clear Yl
            try clear Xl
            try clear Wl
            try clear Vl
            try clear Wn
            try clear Vn
            try clear Un
            try clear Tn
            try clear Sn
            try clear rA
            try clear qA
            try clear oA
            try clear nA
            try clear mA
            try clear Ul
            try clear Tl
            try clear Sl
            try clear Rl
            try clear Ql
            try clear Rn
            try clear Qn
            try clear Pn
            try clear Nn
            try clear Mn
            try clear Ei
            try clear aK
            try clear p1
            try clear GC
            try clear Qk
            try clear KT
            try clear p2
            try clear p6
            try clear q1
            try clear EC
            try clear Pk
            try clear CT
            obtain ⟨kq,Vg,HA,gJ,ec,Oj,Gh,ta,HB⟩:=hcut;cases kq with
            | zero=>exact absurd HA.out (by simp [xb.j2])
            | succ W0 =>
             have H:=HA.out;clear HA;simp only [xb.j2] at H
             by_cases KI:0 ≤ (Fa.length:Int)
             ·rw [if_pos KI] at H;have Rac:=eq_true KI;have Qac:decide (0 ≤ (Fa.length:Int))=true:=decide_eq_true KI;clear KI
              by_cases JI:((Fa.length:Int):Int).toNat ≤ 281474976710656
              ·rw [if_pos JI] at H;have Pac:=eq_true JI;have Oac:decide (((Fa.length:Int):Int).toNat ≤ 281474976710656)=true:=decide_eq_true JI;clear JI;obtain ⟨dB,Zm⟩:∃ y_:List Bool,y_=(List.replicate ((Fa.length:Int):Int).toNat false):=⟨_,rfl⟩;replace H:(xb.l2 W0 (Fa.length:Int) Hf Jc He Vg dB 0 Ma La Na Ka Fa)=some r:=by first|(rw [Zm];with_reducible exact H)|(have Md:=(Option.bind_some _ _).symm.trans H;rw [Zm];with_reducible exact Md)|(have Md:=(Option.bind_some _ _).symm.trans H;with_reducible exact Md)|with_reducible exact H|(rw [Zm];exact H)|exact H
               have DD:=ga.mk Zm;clear Zm;have H':=ga.mk H;clear H;go_wp2_with (first|((with_reducible refine Ab (N:=46) rfl ?_);refine Kd.nw Kd.bool _ 4 rfl (N:=46) rfl 73 _ _ rfl (Fa.length:Int) rfl rfl Try.underlying73 (.bool false) 1 wL rfl (by decide) (by omega) false (ok:=fun _=>True) (Jh:=fun _=>True) rfl (fun _ hk=>hk) trivial (of_decide_eq_true (by first|(with_reducible assumption)|assumption)) (Nat.le_trans (Nat.mul_le_mul_right _ (of_decide_eq_true (by first|(with_reducible assumption)|assumption):(Fa.length:Int).toNat ≤ 281474976710656)) (by omega)) (Below.refl _ _) (Nat.le_refl _) ?_;intro RD PZ QH hb Ol Re;clear Ol Re;(first|rw [← DD.out] at QH|(simp only [Int.reduceToNat] at QH;rw [← DD.out] at QH));have Eb:=ga.mk (Kd.mj (by (with_reducible repeat (first|apply Kd.Va|apply Kd.Ua|apply Kd.jb));exact ec.out) (Kd.Mh QH) hb);have Ib:=ga.mk (Kd.yy (by (with_reducible repeat (first|apply Kd.Ic|apply Kd.Gc|apply Kd.yd));exact Oj.out) (Kd.Mh QH) hb);have Sb:=ga.mk (Kd.mj (by (with_reducible repeat (first|apply Kd.Va|apply Kd.Ua|apply Kd.jb));exact Gh.out) (Kd.Mh QH) hb);have yc:=ga.mk (Kd.Fe (Kd.qm (Kd.qm QH (Kd.Km (by (with_reducible repeat (first|apply Kd.Va|apply Kd.Ua|apply Kd.jb));exact ec.out))) (Kd.Km (by (with_reducible repeat (first|apply Kd.Va|apply Kd.Ua|apply Kd.jb));exact Gh.out))) (Ja (by repeat (first|(with_reducible first|exact HB.out|apply oa|apply ia|apply qa|refine ua ?_ Sa.out)|exact HB.out))));have Ee:=ga.mk (Wa (g:=za) (o:=.cells #[.slice qb Ma.length mb,.int .i64 La,.int .i64 Na,.int .i64 Ka,.slice Lb Fa.length Fb] 45 (0,0)) (by (with_reducible repeat (first|refine Ca ?_ _|refine Ea ?_|refine Da ?_ _));exact ta.out) hb);have mg:=ga.mk (Qa (by repeat (first|(with_reducible first|exact HB.out|apply oa|apply ia|apply qa|refine ua ?_ Sa.out)|exact HB.out)) hb);clear ec Oj Gh ta HB;have ec:=Eb;have Oj:=Ib;have Gh:=Sb;have fo:=yc;have ta:=Ee;have HB:=mg;clear Eb Ib Sb yc Ee mg hb QH))
               go_loopg [11] W0 (fun kq v11 w'=>∃ (Oe:List Bool) (Uc:Int),v11 = .int .i64 Uc∧ga (xb.l2 kq (Fa.length:Int) Hf Jc He Vg Oe Uc Ma La Na Ka Fa=some r)∧ga (kq ≤ W0)∧ga (Kd.R Kd.bool 4 w' w.heap.size (fun k_=>some k_ ≠ (Yq:Value).ownBlock∧some k_ ≠ (RD:Value).ownBlock) ji Hf)∧ga (Kd.S (Kd.slice 4 Kd.bool) 73 w' w.heap.size (fun k_=>some k_ ≠ (ji:Value).ownBlock∧some k_ ≠ (Yq:Value).ownBlock∧some k_ ≠ (RD:Value).ownBlock) u7 Jc)∧ga (Kd.R Kd.bool 4 w' w.heap.size (fun k_=>some k_ ≠ (ji:Value).ownBlock∧some k_ ≠ (RD:Value).ownBlock) Yq Vg)∧ga (Kd.R Kd.bool 4 w' w.heap.size (fun k_=>some k_ ≠ (ji:Value).ownBlock∧some k_ ≠ (Yq:Value).ownBlock) RD Oe)∧ga (w'.heap[za]? = some (.cells #[(.slice qb Ma.length mb),.int .i64 La,.int .i64 Na,.int .i64 Ka,(.slice Lb Fa.length Fb)] 45 (0,0)))∧ga (Below w.heap.size w w'))
               case atStart=>exact ⟨(dB),(0),(by first|rfl|(simp;done)|(simp [*];done)),H',⟨Nat.le_refl _⟩,⟨by (with_reducible repeat (first|apply Kd.Va|apply Kd.Ua|apply Kd.jb));exact ec.out⟩,⟨by (with_reducible repeat (first|apply Kd.Ic|apply Kd.Gc|apply Kd.yd));exact Kd.Gf Oj.out (fun _ hk=>⟨hk.1.1,⟨hk.1.2,hk.2⟩⟩)⟩,⟨by (with_reducible repeat (first|apply Kd.Va|apply Kd.Ua|apply Kd.jb));exact Gh.out⟩,⟨by (with_reducible repeat (first|apply Kd.Va|apply Kd.Ua|apply Kd.jb));exact Kd.Mc fo.out (fun _ hk=>⟨hk.1.2,hk.2⟩)⟩,⟨by (with_reducible repeat (first|refine Ca ?_ _|refine Ea ?_|refine Da ?_ _));exact ta.out⟩,⟨by repeat (first|(with_reducible first|exact HB.out|apply oa|apply ia|apply qa|refine ua ?_ Sa.out)|exact HB.out)⟩⟩
               case round =>
                clear H'
                try clear c1
                try clear p1
                try clear q1
                try clear hx1
                try clear hf1
                try clear c2
                try clear js
                try clear tv
                try clear p2
                try clear c3
                try clear dh
                try clear gp
                try clear c6
                try clear p6
                try clear cT
                try clear GC
                try clear EC
                try clear LO
                try clear uJ
                try clear NI
                try clear Fq
                try clear Lv
                try clear Yt
                try clear Kv
                try clear Bs
                try clear Jv
                try clear KT
                try clear CT
                try clear K8
                try clear raa
                try clear Fz
                try clear MI
                try clear Hv
                try clear bC
                try clear LI
                try clear EG
                try clear cS
                try clear NY
                try clear sy
                try clear Nq
                try clear bS
                try clear KI
                try clear Rac
                try clear Qac
                try clear JI
                try clear Pac
                try clear Oac
                try clear NA
                try clear MA
                try clear LA
                try clear KA
                try clear JA
                try clear Zl
                try clear Yl
                try clear Xl
                try clear Wl
                try clear Vl
                try clear Wn
                try clear Vn
                try clear Un
                try clear Tn
                try clear Sn
                try clear rA
                try clear qA
                try clear oA
                try clear nA
                try clear mA
                try clear Ul
                try clear Tl
                try clear Sl
                try clear Rl
                try clear Ql
                try clear Rn
                try clear Qn
                try clear Pn
                try clear Nn
                try clear Mn
                try clear Ei
                try clear aK
                try clear p1
                try clear GC
                try clear Qk
                try clear KT
                try clear p2
                try clear p6
                try clear q1
                try clear EC
                try clear Pk
                try clear CT
                (try clear HA);(try clear BX);(try clear ec);(try clear Oj);(try clear Gh);(try clear Ti);(try clear ta);(try clear HB);obtain ⟨Oe,Uc,rfl,HA,BX,ec,Oj,Gh,Ti,ta,HB⟩:=hrel;cases gk with
                | zero=>exact absurd HA.out (by simp [xb.l2])
                | succ k4 =>
                 have H:=HA.out;clear HA;simp only [xb.l2] at H
                 by_cases G5:Uc < (Fa.length:Int)
                 ·rw [if_pos G5] at H;have Nac:decide (Uc < (Fa.length:Int))=true:=decide_eq_true G5;clear G5
                  by_cases c38:0 ≤ He
                  ·rw [if_pos c38] at H;have dav:decide (0 ≤ He)=true:=decide_eq_true c38;clear c38
                   by_cases c39:He < (Hf.length:Int)
                   ·rw [if_pos c39] at H;have cav:decide (He < (Hf.length:Int))=true:=decide_eq_true c39;clear c39;obtain ⟨aad,wR⟩:∃ b_:Bool,b_=(Eg false Hf He):=⟨_,rfl⟩;replace H:(if aad=true then (if 0 ≤ Uc then (if Uc < (Hf.length:Int) then (if Eg false Hf Uc=true then (if Uc < (Vg.length:Int) then (if Uc < (Oe.length:Int) then (xb.l2 k4 (Fa.length:Int) Hf Jc He Vg (Oe.set (Uc:Int).toNat (!(Eg false Vg Uc))) (wrap64 (Uc + 1)) Ma La Na Ka Fa) else (none)) else (none)) else (if Uc < (Oe.length:Int) then (xb.l2 k4 (Fa.length:Int) Hf Jc He Vg (Oe.set (Uc:Int).toNat false) (wrap64 (Uc + 1)) Ma La Na Ka Fa) else (none))) else (none)) else (none)) else (if 0 ≤ Uc then (if Uc < (Oe.length:Int) then (xb.l2 k4 (Fa.length:Int) Hf Jc He Vg (Oe.set (Uc:Int).toNat false) (wrap64 (Uc + 1)) Ma La Na Ka Fa) else (none)) else (none)))=some r:=by rw [← wR] at H;exact H
                    have ID:=ga.mk wR;clear wR
                    by_cases c41:aad=true
                    ·subst c41;have H1:(if 0 ≤ Uc then (if Uc < (Hf.length:Int) then (if Eg false Hf Uc=true then (if Uc < (Vg.length:Int) then (if Uc < (Oe.length:Int) then (xb.l2 k4 (Fa.length:Int) Hf Jc He Vg (Oe.set (Uc:Int).toNat (!(Eg false Vg Uc))) (wrap64 (Uc + 1)) Ma La Na Ka Fa) else (none)) else (none)) else (if Uc < (Oe.length:Int) then (xb.l2 k4 (Fa.length:Int) Hf Jc He Vg (Oe.set (Uc:Int).toNat false) (wrap64 (Uc + 1)) Ma La Na Ka Fa) else (none))) else (none)) else (none))=some r:=by rw [if_pos rfl] at H;exact H
                     clear H;have H:=H1;clear H1
                     by_cases YR:0 ≤ Uc
                     ·rw [if_pos YR] at H;have CY:decide (0 ≤ Uc)=true:=decide_eq_true YR;clear YR
                      by_cases EN:Uc < (Hf.length:Int)
                      ·rw [if_pos EN] at H;have Kac:decide (Uc < (Hf.length:Int))=true:=decide_eq_true EN;clear EN;obtain ⟨Zac,vR⟩:∃ b_:Bool,b_=(Eg false Hf Uc):=⟨_,rfl⟩;replace H:(if Zac=true then (if Uc < (Vg.length:Int) then (if Uc < (Oe.length:Int) then (xb.l2 k4 (Fa.length:Int) Hf Jc He Vg (Oe.set (Uc:Int).toNat (!(Eg false Vg Uc))) (wrap64 (Uc + 1)) Ma La Na Ka Fa) else (none)) else (none)) else (if Uc < (Oe.length:Int) then (xb.l2 k4 (Fa.length:Int) Hf Jc He Vg (Oe.set (Uc:Int).toNat false) (wrap64 (Uc + 1)) Ma La Na Ka Fa) else (none)))=some r:=by rw [← vR] at H;exact H
                       have cJ:=ga.mk vR;clear vR
                       by_cases DG:Zac=true
                       ·subst DG;have H1:(if Uc < (Vg.length:Int) then (if Uc < (Oe.length:Int) then (xb.l2 k4 (Fa.length:Int) Hf Jc He Vg (Oe.set (Uc:Int).toNat (!(Eg false Vg Uc))) (wrap64 (Uc + 1)) Ma La Na Ka Fa) else (none)) else (none))=some r:=by rw [if_pos rfl] at H;exact H
                        clear H;have H:=H1;clear H1
                        by_cases tD:Uc < (Vg.length:Int)
                        ·rw [if_pos tD] at H;have DN:decide (Uc < (Vg.length:Int))=true:=decide_eq_true tD;clear tD
                         by_cases c47:Uc < (Oe.length:Int)
                         ·rw [if_pos c47] at H;have bav:decide (Uc < (Oe.length:Int))=true:=decide_eq_true c47;clear c47;obtain ⟨LZ,EH⟩:∃ y_:List Bool,y_=(Oe.set (Uc:Int).toNat (!(Eg false Vg Uc))):=⟨_,rfl⟩;replace H:(xb.l2 k4 (Fa.length:Int) Hf Jc He Vg LZ (wrap64 (Uc + 1)) Ma La Na Ka Fa)=some r:=by first|(rw [EH];with_reducible exact H)|(have Md:=(Option.bind_some _ _).symm.trans H;rw [EH];with_reducible exact Md)|(have Md:=(Option.bind_some _ _).symm.trans H;with_reducible exact Md)|with_reducible exact H|(rw [EH];exact H)|exact H
                          have Aad:=ga.mk EH;clear EH;have H':=ga.mk H;clear H;obtain ⟨zay,Y4,Sap⟩:=Kd.Nd ec.out;subst Sap;have Wv:0 ≤ (He:Int):=of_decide_eq_true (by first|(with_reducible assumption)|assumption);have Tv:He < (Hf.length:Int):=of_decide_eq_true (by first|(with_reducible assumption)|assumption);obtain ⟨Yn,vK,Sm⟩:=Kd.Lk (Kd.Jb ec.out).2.2 He Wv Tv;(try rw [← ID.out] at Sm);(try rw [← cJ.out] at Sm);cases vK;replace Wv:=eq_true Wv;replace Tv:=eq_true Tv;have jv:0 ≤ (Uc:Int):=of_decide_eq_true (by first|(with_reducible assumption)|assumption);have gv:Uc < (Hf.length:Int):=of_decide_eq_true (by first|(with_reducible assumption)|assumption);obtain ⟨Pq,uK,Ip⟩:=Kd.Lk (Kd.Jb ec.out).2.2 Uc jv gv;(try rw [← ID.out] at Ip);(try rw [← cJ.out] at Ip);obtain rfl:Yn=Pq:=(by injection uK);replace jv:=eq_true jv;replace gv:=eq_true gv;obtain ⟨xay,X4,Rap⟩:=Kd.Nd Gh.out;subst Rap;have Mz:0 ≤ (Uc:Int):=of_decide_eq_true (by first|(with_reducible assumption)|assumption);have Lz:Uc < (Vg.length:Int):=of_decide_eq_true (by first|(with_reducible assumption)|assumption);obtain ⟨jC,MR,vl⟩:=Kd.Lk (Kd.Jb Gh.out).2.2 Uc Mz Lz;(try rw [← ID.out] at vl);(try rw [← cJ.out] at vl);cases MR;replace Mz:=eq_true Mz;replace Lz:=eq_true Lz;have p48:0 ≤ (Uc:Int):=of_decide_eq_true (by first|(with_reducible assumption)|assumption);have q48:(Uc:Int) < ((Oe.length:Int):Int):=of_decide_eq_true (by first|(with_reducible assumption)|assumption);obtain ⟨rG,BK,oac,fac,Gap,Bax,Bae⟩:=Kd.Uk Ti.out (by omega);(first|cases oac|(injection oac with Si nv ov;(first|subst Si|(injection Si with Si;subst Si));subst ov;clear nv));have Raq:=ga.mk fac;have nay:=ga.mk Bae;clear fac Gap Bae;obtain ⟨Nan,Vao⟩:=Kd.Fh false Ti.out (Uc:Int) p48 q48;replace p48:=eq_true p48;replace q48:=eq_true q48;have O6:=Kd.Jm Ti.out (Uc:Int) (!(Eg false Vg Uc));go_wp2_with (first|((with_reducible refine gf (t:=4) (p:=71) rfl ?_);refine Ie (t:=4) (p:=71) (v:=?Uam) (w1:=(wr.setCell ⟨rG,(Uc:Int).toNat,none⟩ (.bool (!(Eg false Vg Uc))))) ?hg ?ho ?hn ?hr ?_;(case ho=>rfl);(case hg=>rfl);(case hn=>rfl);(case hr=>first|(go_simp;done)|(go_simp;rfl));intro w52 hw;have hg:wr.grownBy w52 (some rG):=(by rw [hw];exact O6.2);have Hl:Kd.R Kd.bool 4 w52 w.heap.size (fun k_=>some k_ ≠ (.slice (some Yn) Hf.length Y4:Value).ownBlock∧some k_ ≠ (.slice (some jC) Vg.length X4:Value).ownBlock) (.slice (some ⟨rG,0,none⟩) Oe.length BK) LZ:=(by rw [hw,Aad.out];exact O6.1);clear O6;have Eb:=ga.mk (Kd.Yg (v:=(.slice (some ⟨rG,0,none⟩) Oe.length BK)) (v1:=(.slice (some ⟨rG,0,none⟩) Oe.length BK)) (ok:=(fun k_=>some k_ ≠ (.slice (some jC) Vg.length X4:Value).ownBlock)) (by (with_reducible repeat (first|apply Kd.Va|apply Kd.Ua|apply Kd.jb));exact ec.out) hg (.inl rfl));have Ib:=ga.mk (Kd.Oo (v:=(.slice (some ⟨rG,0,none⟩) Oe.length BK)) (v1:=(.slice (some ⟨rG,0,none⟩) Oe.length BK)) (ok:=(fun k_=>some k_ ≠ (.slice (some Yn) Hf.length Y4:Value).ownBlock∧some k_ ≠ (.slice (some jC) Vg.length X4:Value).ownBlock)) (by (with_reducible repeat (first|apply Kd.Ic|apply Kd.Gc|apply Kd.yd));exact Kd.Gf Oj.out (fun _ hk=>⟨⟨hk.1,hk.2.1⟩,hk.2.2⟩)) hg (.inl rfl));have Sb:=ga.mk (Kd.Yg (v:=(.slice (some ⟨rG,0,none⟩) Oe.length BK)) (v1:=(.slice (some ⟨rG,0,none⟩) Oe.length BK)) (ok:=(fun k_=>some k_ ≠ (.slice (some Yn) Hf.length Y4:Value).ownBlock)) (by (with_reducible repeat (first|apply Kd.Va|apply Kd.Ua|apply Kd.jb));exact Gh.out) hg (.inl rfl));have yc:=ga.mk (Hl);have Ee:=ga.mk (Kf (g:=za) (o:=.cells #[.slice qb Ma.length mb,.int .i64 La,.int .i64 Na,.int .i64 Ka,.slice Lb Fa.length Fb] 45 (0,0)) (by (with_reducible repeat (first|refine Ca ?_ _|refine Ea ?_|refine Da ?_ _));exact ta.out) hg (Kd.Rq Ti.out ta.out (by decide)));have mg:=ga.mk ((by rw [hw];exact ua (HB.out) Raq.out:Below w.heap.size w w52));clear ec Oj Gh Ti ta HB;have ec:=Eb;have Oj:=Ib;have Gh:=Sb;have Ti:=yc;have ta:=Ee;have HB:=mg;clear Eb Ib Sb yc Ee mg hg hw Hl))
                          go_roundg k4
                          case measure=>have:=uf.out;have:=Pj.out;have:=gJ.out;have:=BX.out;omega
                          case rel=>exact ⟨(LZ),(wrap64 (Uc + 1)),(by first|rfl|(simp;done)|(simp [*];done)),H',⟨by have:=uf.out;have:=Pj.out;have:=gJ.out;have:=BX.out;omega⟩,⟨by (with_reducible repeat (first|apply Kd.Va|apply Kd.Ua|apply Kd.jb));exact ec.out⟩,⟨by (with_reducible repeat (first|apply Kd.Ic|apply Kd.Gc|apply Kd.yd));exact Kd.Gf Oj.out (fun _ hk=>⟨hk.1.1,⟨hk.1.2,hk.2⟩⟩)⟩,⟨by (with_reducible repeat (first|apply Kd.Va|apply Kd.Ua|apply Kd.jb));exact Gh.out⟩,⟨by (with_reducible repeat (first|apply Kd.Va|apply Kd.Ua|apply Kd.jb));exact Ti.out⟩,⟨by (with_reducible repeat (first|refine Ca ?_ _|refine Ea ?_|refine Da ?_ _));exact ta.out⟩,⟨by repeat (first|(with_reducible first|exact HB.out|apply oa|apply ia|apply qa|refine ua ?_ Sa.out)|exact HB.out)⟩⟩
                         ·rw [if_neg c47] at H;exact absurd H (by simp)
                        ·rw [if_neg tD] at H;exact absurd H (by simp)
                       ·replace DG:=Bool.eq_false_iff.mpr DG;subst DG;have H1:(if Uc < (Oe.length:Int) then (xb.l2 k4 (Fa.length:Int) Hf Jc He Vg (Oe.set (Uc:Int).toNat false) (wrap64 (Uc + 1)) Ma La Na Ka Fa) else (none))=some r:=by rw [if_neg (show ¬ (false=true) by decide)] at H;exact H
                        clear H;have H:=H1;clear H1
                        by_cases rP:Uc < (Oe.length:Int)
                        ·rw [if_pos rP] at H;have AY:decide (Uc < (Oe.length:Int))=true:=decide_eq_true rP;clear rP;obtain ⟨gH,Lt⟩:∃ y_:List Bool,y_=(Oe.set (Uc:Int).toNat false):=⟨_,rfl⟩;replace H:(xb.l2 k4 (Fa.length:Int) Hf Jc He Vg gH (wrap64 (Uc + 1)) Ma La Na Ka Fa)=some r:=by first|(rw [Lt];with_reducible exact H)|(have Md:=(Option.bind_some _ _).symm.trans H;rw [Lt];with_reducible exact Md)|(have Md:=(Option.bind_some _ _).symm.trans H;with_reducible exact Md)|with_reducible exact H|(rw [Lt];exact H)|exact H
                         have xS:=ga.mk Lt;clear Lt;have H':=ga.mk H;clear H;obtain ⟨vay,W4,Qap⟩:=Kd.Nd ec.out;subst Qap;have Wv:0 ≤ (He:Int):=of_decide_eq_true (by first|(with_reducible assumption)|assumption);have Tv:He < (Hf.length:Int):=of_decide_eq_true (by first|(with_reducible assumption)|assumption);obtain ⟨Yn,vK,Sm⟩:=Kd.Lk (Kd.Jb ec.out).2.2 He Wv Tv;(try rw [← ID.out] at Sm);(try rw [← cJ.out] at Sm);cases vK;replace Wv:=eq_true Wv;replace Tv:=eq_true Tv;have jv:0 ≤ (Uc:Int):=of_decide_eq_true (by first|(with_reducible assumption)|assumption);have gv:Uc < (Hf.length:Int):=of_decide_eq_true (by first|(with_reducible assumption)|assumption);obtain ⟨Pq,uK,Ip⟩:=Kd.Lk (Kd.Jb ec.out).2.2 Uc jv gv;(try rw [← ID.out] at Ip);(try rw [← cJ.out] at Ip);obtain rfl:Yn=Pq:=(by injection uK);replace jv:=eq_true jv;replace gv:=eq_true gv;have p54:0 ≤ (Uc:Int):=of_decide_eq_true (by first|(with_reducible assumption)|assumption);have q54:(Uc:Int) < ((Oe.length:Int):Int):=of_decide_eq_true (by first|(with_reducible assumption)|assumption);obtain ⟨qG,AK,nac,dac,Eap,zax,Aae⟩:=Kd.Uk Ti.out (by omega);(first|cases nac|(injection nac with Si nv ov;(first|subst Si|(injection Si with Si;subst Si));subst ov;clear nv));have Qaq:=ga.mk dac;have jay:=ga.mk Aae;clear dac Eap Aae;obtain ⟨Man,Uao⟩:=Kd.Fh false Ti.out (Uc:Int) p54 q54;replace p54:=eq_true p54;replace q54:=eq_true q54;have N6:=Kd.Jm Ti.out (Uc:Int) false;go_wp2_with (first|((with_reducible refine gf (t:=4) (p:=71) rfl ?_);refine Ie (t:=4) (p:=71) (v:=?Tam) (w1:=(wr.setCell ⟨qG,(Uc:Int).toNat,none⟩ (.bool false))) ?hg ?ho ?hn ?hr ?_;(case ho=>rfl);(case hg=>rfl);(case hn=>rfl);(case hr=>first|(go_simp;done)|(go_simp;rfl));intro w57 hw;have hg:wr.grownBy w57 (some qG):=(by rw [hw];exact N6.2);have Hl:Kd.R Kd.bool 4 w57 w.heap.size (fun k_=>some k_ ≠ (.slice (some Yn) Hf.length W4:Value).ownBlock∧some k_ ≠ (Yq:Value).ownBlock) (.slice (some ⟨qG,0,none⟩) Oe.length AK) gH:=(by rw [hw,xS.out];exact N6.1);clear N6;have Eb:=ga.mk (Kd.Yg (v:=(.slice (some ⟨qG,0,none⟩) Oe.length AK)) (v1:=(.slice (some ⟨qG,0,none⟩) Oe.length AK)) (ok:=(fun k_=>some k_ ≠ (Yq:Value).ownBlock)) (by (with_reducible repeat (first|apply Kd.Va|apply Kd.Ua|apply Kd.jb));exact ec.out) hg (.inl rfl));have Ib:=ga.mk (Kd.Oo (v:=(.slice (some ⟨qG,0,none⟩) Oe.length AK)) (v1:=(.slice (some ⟨qG,0,none⟩) Oe.length AK)) (ok:=(fun k_=>some k_ ≠ (.slice (some Yn) Hf.length W4:Value).ownBlock∧some k_ ≠ (Yq:Value).ownBlock)) (by (with_reducible repeat (first|apply Kd.Ic|apply Kd.Gc|apply Kd.yd));exact Kd.Gf Oj.out (fun _ hk=>⟨⟨hk.1,hk.2.1⟩,hk.2.2⟩)) hg (.inl rfl));have Sb:=ga.mk (Kd.Yg (v:=(.slice (some ⟨qG,0,none⟩) Oe.length AK)) (v1:=(.slice (some ⟨qG,0,none⟩) Oe.length AK)) (ok:=(fun k_=>some k_ ≠ (.slice (some Yn) Hf.length W4:Value).ownBlock)) (by (with_reducible repeat (first|apply Kd.Va|apply Kd.Ua|apply Kd.jb));exact Gh.out) hg (.inl rfl));have yc:=ga.mk (Hl);have Ee:=ga.mk (Kf (g:=za) (o:=.cells #[.slice qb Ma.length mb,.int .i64 La,.int .i64 Na,.int .i64 Ka,.slice Lb Fa.length Fb] 45 (0,0)) (by (with_reducible repeat (first|refine Ca ?_ _|refine Ea ?_|refine Da ?_ _));exact ta.out) hg (Kd.Rq Ti.out ta.out (by decide)));have mg:=ga.mk ((by rw [hw];exact ua (HB.out) Qaq.out:Below w.heap.size w w57));clear ec Oj Gh Ti ta HB;have ec:=Eb;have Oj:=Ib;have Gh:=Sb;have Ti:=yc;have ta:=Ee;have HB:=mg;clear Eb Ib Sb yc Ee mg hg hw Hl))
                         go_roundg k4
                         case measure=>have:=uf.out;have:=Pj.out;have:=gJ.out;have:=BX.out;omega
                         case rel=>exact ⟨(gH),(wrap64 (Uc + 1)),(by first|rfl|(simp;done)|(simp [*];done)),H',⟨by have:=uf.out;have:=Pj.out;have:=gJ.out;have:=BX.out;omega⟩,⟨by (with_reducible repeat (first|apply Kd.Va|apply Kd.Ua|apply Kd.jb));exact ec.out⟩,⟨by (with_reducible repeat (first|apply Kd.Ic|apply Kd.Gc|apply Kd.yd));exact Kd.Gf Oj.out (fun _ hk=>⟨hk.1.1,⟨hk.1.2,hk.2⟩⟩)⟩,⟨by (with_reducible repeat (first|apply Kd.Va|apply Kd.Ua|apply Kd.jb));exact Gh.out⟩,⟨by (with_reducible repeat (first|apply Kd.Va|apply Kd.Ua|apply Kd.jb));exact Ti.out⟩,⟨by (with_reducible repeat (first|refine Ca ?_ _|refine Ea ?_|refine Da ?_ _));exact ta.out⟩,⟨by repeat (first|(with_reducible first|exact HB.out|apply oa|apply ia|apply qa|refine ua ?_ Sa.out)|exact HB.out)⟩⟩
                        ·rw [if_neg rP] at H;exact absurd H (by simp)
                      ·rw [if_neg EN] at H;exact absurd H (by simp)
                     ·rw [if_neg YR] at H;exact absurd H (by simp)
                    ·replace c41:=Bool.eq_false_iff.mpr c41;subst c41;have H1:(if 0 ≤ Uc then (if Uc < (Oe.length:Int) then (xb.l2 k4 (Fa.length:Int) Hf Jc He Vg (Oe.set (Uc:Int).toNat false) (wrap64 (Uc + 1)) Ma La Na Ka Fa) else (none)) else (none))=some r:=by rw [if_neg (show ¬ (false=true) by decide)] at H;exact H
                     clear H;have H:=H1;clear H1
                     by_cases c58:0 ≤ Uc
                     ·rw [if_pos c58] at H;have aav:decide (0 ≤ Uc)=true:=decide_eq_true c58;clear c58
                      by_cases c59:Uc < (Oe.length:Int)
                      ·rw [if_pos c59] at H;have Zau:decide (Uc < (Oe.length:Int))=true:=decide_eq_true c59;clear c59;obtain ⟨ZN,Kt⟩:∃ y_:List Bool,y_=(Oe.set (Uc:Int).toNat false):=⟨_,rfl⟩;replace H:(xb.l2 k4 (Fa.length:Int) Hf Jc He Vg ZN (wrap64 (Uc + 1)) Ma La Na Ka Fa)=some r:=by first|(rw [Kt];with_reducible exact H)|(have Md:=(Option.bind_some _ _).symm.trans H;rw [Kt];with_reducible exact Md)|(have Md:=(Option.bind_some _ _).symm.trans H;with_reducible exact Md)|with_reducible exact H|(rw [Kt];exact H)|exact H
                       have wS:=ga.mk Kt;clear Kt;have H':=ga.mk H;clear H;obtain ⟨uay,V4,Pap⟩:=Kd.Nd ec.out;subst Pap;have Wv:0 ≤ (He:Int):=of_decide_eq_true (by first|(with_reducible assumption)|assumption);have Tv:He < (Hf.length:Int):=of_decide_eq_true (by first|(with_reducible assumption)|assumption);obtain ⟨Yn,vK,Sm⟩:=Kd.Lk (Kd.Jb ec.out).2.2 He Wv Tv;(try rw [← ID.out] at Sm);cases vK;replace Wv:=eq_true Wv;replace Tv:=eq_true Tv;have p60:0 ≤ (Uc:Int):=of_decide_eq_true (by first|(with_reducible assumption)|assumption);have q60:(Uc:Int) < ((Oe.length:Int):Int):=of_decide_eq_true (by first|(with_reducible assumption)|assumption);obtain ⟨pG,zK,mac,cac,Dap,yax,yae⟩:=Kd.Uk Ti.out (by omega);(first|cases mac|(injection mac with Si nv ov;(first|subst Si|(injection Si with Si;subst Si));subst ov;clear nv));have Paq:=ga.mk cac;have iay:=ga.mk yae;clear cac Dap yae;obtain ⟨Lan,Tao⟩:=Kd.Fh false Ti.out (Uc:Int) p60 q60;replace p60:=eq_true p60;replace q60:=eq_true q60;have M6:=Kd.Jm Ti.out (Uc:Int) false;go_wp2_with (first|((with_reducible refine gf (t:=4) (p:=71) rfl ?_);refine Ie (t:=4) (p:=71) (v:=?Sam) (w1:=(wr.setCell ⟨pG,(Uc:Int).toNat,none⟩ (.bool false))) ?hg ?ho ?hn ?hr ?_;(case ho=>rfl);(case hg=>rfl);(case hn=>rfl);(case hr=>first|(go_simp;done)|(go_simp;rfl));intro w63 hw;have hg:wr.grownBy w63 (some pG):=(by rw [hw];exact M6.2);have Hl:Kd.R Kd.bool 4 w63 w.heap.size (fun k_=>some k_ ≠ (.slice (some Yn) Hf.length V4:Value).ownBlock∧some k_ ≠ (Yq:Value).ownBlock) (.slice (some ⟨pG,0,none⟩) Oe.length zK) ZN:=(by rw [hw,wS.out];exact M6.1);clear M6;have Eb:=ga.mk (Kd.Yg (v:=(.slice (some ⟨pG,0,none⟩) Oe.length zK)) (v1:=(.slice (some ⟨pG,0,none⟩) Oe.length zK)) (ok:=(fun k_=>some k_ ≠ (Yq:Value).ownBlock)) (by (with_reducible repeat (first|apply Kd.Va|apply Kd.Ua|apply Kd.jb));exact ec.out) hg (.inl rfl));have Ib:=ga.mk (Kd.Oo (v:=(.slice (some ⟨pG,0,none⟩) Oe.length zK)) (v1:=(.slice (some ⟨pG,0,none⟩) Oe.length zK)) (ok:=(fun k_=>some k_ ≠ (.slice (some Yn) Hf.length V4:Value).ownBlock∧some k_ ≠ (Yq:Value).ownBlock)) (by (with_reducible repeat (first|apply Kd.Ic|apply Kd.Gc|apply Kd.yd));exact Kd.Gf Oj.out (fun _ hk=>⟨⟨hk.1,hk.2.1⟩,hk.2.2⟩)) hg (.inl rfl));have Sb:=ga.mk (Kd.Yg (v:=(.slice (some ⟨pG,0,none⟩) Oe.length zK)) (v1:=(.slice (some ⟨pG,0,none⟩) Oe.length zK)) (ok:=(fun k_=>some k_ ≠ (.slice (some Yn) Hf.length V4:Value).ownBlock)) (by (with_reducible repeat (first|apply Kd.Va|apply Kd.Ua|apply Kd.jb));exact Gh.out) hg (.inl rfl));have yc:=ga.mk (Hl);have Ee:=ga.mk (Kf (g:=za) (o:=.cells #[.slice qb Ma.length mb,.int .i64 La,.int .i64 Na,.int .i64 Ka,.slice Lb Fa.length Fb] 45 (0,0)) (by (with_reducible repeat (first|refine Ca ?_ _|refine Ea ?_|refine Da ?_ _));exact ta.out) hg (Kd.Rq Ti.out ta.out (by decide)));have mg:=ga.mk ((by rw [hw];exact ua (HB.out) Paq.out:Below w.heap.size w w63));clear ec Oj Gh Ti ta HB;have ec:=Eb;have Oj:=Ib;have Gh:=Sb;have Ti:=yc;have ta:=Ee;have HB:=mg;clear Eb Ib Sb yc Ee mg hg hw Hl))
                       go_roundg k4
                       case measure=>have:=uf.out;have:=Pj.out;have:=gJ.out;have:=BX.out;omega
                       case rel=>exact ⟨(ZN),(wrap64 (Uc + 1)),(by first|rfl|(simp;done)|(simp [*];done)),H',⟨by have:=uf.out;have:=Pj.out;have:=gJ.out;have:=BX.out;omega⟩,⟨by (with_reducible repeat (first|apply Kd.Va|apply Kd.Ua|apply Kd.jb));exact ec.out⟩,⟨by (with_reducible repeat (first|apply Kd.Ic|apply Kd.Gc|apply Kd.yd));exact Kd.Gf Oj.out (fun _ hk=>⟨hk.1.1,⟨hk.1.2,hk.2⟩⟩)⟩,⟨by (with_reducible repeat (first|apply Kd.Va|apply Kd.Ua|apply Kd.jb));exact Gh.out⟩,⟨by (with_reducible repeat (first|apply Kd.Va|apply Kd.Ua|apply Kd.jb));exact Ti.out⟩,⟨by (with_reducible repeat (first|refine Ca ?_ _|refine Ea ?_|refine Da ?_ _));exact ta.out⟩,⟨by repeat (first|(with_reducible first|exact HB.out|apply oa|apply ia|apply qa|refine ua ?_ Sa.out)|exact HB.out)⟩⟩
                      ·rw [if_neg c59] at H;exact absurd H (by simp)
                     ·rw [if_neg c58] at H;exact absurd H (by simp)
                   ·rw [if_neg c39] at H;exact absurd H (by simp)
                  ·rw [if_neg c38] at H;exact absurd H (by simp)
                 ·rw [if_neg G5] at H;have Nac:decide (Uc < (Fa.length:Int))=false:=decide_eq_false G5;clear G5
                  by_cases c64:Jc.length < 5864062014805
                  ·rw [if_pos c64] at H;have Fad:=ga.mk c64;clear c64;obtain ⟨wP,Jt⟩:∃ y_:List (List Bool),y_=(Jc ++ [Oe]):=⟨_,rfl⟩;replace H:(xb.l1 k4 (Fa.length:Int) Hf wP (wrap64 (He + 1)) Ma La Na Ka Fa)=some r:=by first|(rw [Jt];with_reducible exact H)|(have Md:=(Option.bind_some _ _).symm.trans H;rw [Jt];with_reducible exact Md)|(have Md:=(Option.bind_some _ _).symm.trans H;with_reducible exact Md)|with_reducible exact H|(rw [Jt];exact H)|exact H
                   have vS:=ga.mk Jt;clear Jt;have H':=ga.mk H;clear H;obtain ⟨Sae,qac,Oap⟩:=Kd.Nd Ti.out;subst Oap;go_wp2_with (first|((with_reducible refine lg (b:=.append) (xs:=#[.tmp 72,.tmp 74]) rfl ?_);at_builtin;refine Kd.UI (Kd.slice 4 Kd.bool) (w0:=w) w.heap.size rfl (.tmp 72) (.tmp 74) 75 73 (.slice none 0 0) 24 rfl Try.underlying75 Y0 rfl (by decide) (by omega) u7 Jc Oe [.slice Sae Oe.length qac] (fun k_=>some k_ ≠ (ji:Value).ownBlock∧some k_ ≠ (Yq:Value).ownBlock) (fun k_=>some k_=(.slice Sae Oe.length qac:Value).ownBlock) rfl rfl ?aP (fun k_ sx=>((Kd.Mc (vp:=fun k_=>((fun k_=>some k_ ≠ (ji:Value).ownBlock∧some k_ ≠ (Yq:Value).ownBlock)) k_∧some k_ ≠ (u7:Value).ownBlock) (Kd.qp (Ti.out) (Kd.Mo Oj.out) (by decide)) (fun k_ hk=>⟨⟨hk.1.1,hk.1.2⟩,hk.2⟩))).1 k_ sx.symm) ?aF ?aO ?aB ?aS ?aL ?_;(case aP=>exact Kd.dZ (Kd.Mc (Kd.Fs rfl (Kd.Mc (vp:=fun k_=>((fun k_=>some k_ ≠ (ji:Value).ownBlock∧some k_ ≠ (Yq:Value).ownBlock)) k_∧some k_ ≠ (u7:Value).ownBlock) (Kd.qp (Ti.out) (Kd.Mo Oj.out) (by decide)) (fun k_ hk=>⟨⟨hk.1.1,hk.1.2⟩,hk.2⟩))) (fun _ h_=>h_)));(case aB=>exact (by repeat (first|(with_reducible first|exact HB.out|apply oa|apply ia|apply qa|refine ua ?_ Sa.out)|exact HB.out)));(case aF=>exact (fun k_ hk=>⟨Kd.fresh' (Kd.Km (by (with_reducible repeat (first|apply Kd.Va|apply Kd.Ua|apply Kd.jb));exact ec.out)) k_ hk,Kd.fresh' (Kd.Km (by (with_reducible repeat (first|apply Kd.Va|apply Kd.Ua|apply Kd.jb));exact Gh.out)) k_ hk⟩));(case aO=>exact (by (with_reducible repeat (first|apply Kd.Ic|apply Kd.Gc|apply Kd.yd));exact Kd.Gf Oj.out (fun k_ hk=>⟨⟨hk.1,hk.2.1⟩,fun e_=>hk.2.2 e_⟩)));(case aS=>exact (Ja (by repeat (first|(with_reducible first|exact HB.out|apply oa|apply ia|apply qa|refine ua ?_ Sa.out)|exact HB.out))));(case aL=>have:=Fad.out;omega);intro v127 w65 ho hb hg hat;rw [← vS.out] at ho;have Eb:=ga.mk (Kd.Nk (by (with_reducible repeat (first|apply Kd.Va|apply Kd.Ua|apply Kd.jb));exact ec.out) (Kd.Mo (by (with_reducible repeat (first|apply Kd.Ic|apply Kd.Gc|apply Kd.yd));exact Oj.out)) (by decide) hg);have Ib:=ga.mk (Kd.Nk (by (with_reducible repeat (first|apply Kd.Va|apply Kd.Ua|apply Kd.jb));exact Gh.out) (Kd.Mo (by (with_reducible repeat (first|apply Kd.Ic|apply Kd.Gc|apply Kd.yd));exact Oj.out)) (by decide) hg);have Sb:=ga.mk (Kf (g:=za) (o:=.cells #[.slice qb Ma.length mb,.int .i64 La,.int .i64 Na,.int .i64 Ka,.slice Lb Fa.length Fb] 45 (0,0)) (by (with_reducible repeat (first|refine Ca ?_ _|refine Ea ?_|refine Da ?_ _));exact ta.out) hg (Kd.sad Oj.out ta.out (by decide)));have yc:=ga.mk (hb);have Ee:=ga.mk (ho);clear ec Gh ta HB Oj Ti;have ec:=Eb;have Gh:=Ib;have ta:=Sb;have HB:=yc;have GS:=Ee;clear Eb Ib Sb yc Ee ho hb hg hat))
                   go_roundg k4
                   case measure=>have:=uf.out;have:=Pj.out;have:=gJ.out;have:=BX.out;omega
                   case rel=>exact ⟨(Hf),(wP),(wrap64 (He + 1)),(by first|rfl|(simp;done)|(simp [*];done)),H',⟨by have:=uf.out;have:=Pj.out;have:=gJ.out;have:=BX.out;omega⟩,⟨by (with_reducible repeat (first|apply Kd.Va|apply Kd.Ua|apply Kd.jb));exact Kd.Mc ec.out (fun _ hk=>trivial)⟩,⟨by (with_reducible repeat (first|apply Kd.Ic|apply Kd.Gc|apply Kd.yd));exact Kd.Gf GS.out (fun _ hk=>hk.1)⟩,⟨by (with_reducible repeat (first|refine Ca ?_ _|refine Ea ?_|refine Da ?_ _));exact ta.out⟩,⟨by repeat (first|(with_reducible first|exact HB.out|apply oa|apply ia|apply qa|refine ua ?_ Sa.out)|exact HB.out)⟩⟩
                  ·rw [if_neg c64] at H;exact absurd H (by simp)
              ·rw [if_neg JI] at H;exact absurd H (by simp)
             ·rw [if_neg KI] at H;exact absurd H (by simp)
          ·rw [if_neg EG] at H;exact absurd H (by simp)
         ·rw [if_neg Hv] at H;exact absurd H (by simp)
        ·rw [if_neg Fz] at H;have MI:decide (He < (Fa.length:Int))=false:=decide_eq_false Fz;clear Fz;obtain rfl:=Option.some.inj H;go_wp2;go_ret;exact ⟨_,by first|rfl|(simp [Pa,Oa] <;> rfl)|(simp [*,Pa,Oa] <;> rfl),by (with_reducible repeat (first|apply Kd.Ic|apply Kd.Gc|apply Kd.yd));exact Kd.Gf Oj.out (fun _ hk=>trivial),by repeat (first|(with_reducible first|exact HB.out|apply oa|apply ia|apply qa|refine ua ?_ Sa.out)|exact HB.out)⟩
  ·rw [if_neg c3] at H;exact absurd H (by simp)
 ·rw [if_neg c2] at H;exact absurd H (by simp)
mutual
def Dc.l0:Nat→List (List Int)→List (List Bool)→Int→Option ((List (List Int)))
 | 0,_,_,_=>none
 | k + 1,x3,x4,x5=>if x5 < (x4.length:Int) then (Dc.l1 k x3 x4 x5 (([]:List Int)) 0) else (some x3)
def Dc.l1:Nat→List (List Int)→List (List Bool)→Int→List Int→Int→Option ((List (List Int)))
 | 0,_,_,_,_,_=>none
 | k + 1,x3,x4,x5,x6,x7=>if x7 < (x4.length:Int) then (if 0 ≤ x7 then (if 0 ≤ x5 then (if x5 < ((fl x4 x7).length:Int) then (if Eg false (fl x4 x7) x5=true then (if x6.length < 17592186044416 then (Dc.l1 k x3 x4 x5 (x6 ++ [x7]) (wrap64 (x7 + 1))) else (none)) else (Dc.l1 k x3 x4 x5 x6 (wrap64 (x7 + 1)))) else (none)) else (none)) else (none)) else (if x3.length < 5864062014805 then (Dc.l0 k (x3 ++ [x6]) x4 (wrap64 (x5 + 1))) else (none))
end
def Dc.f (k:Nat) (Ma:List Int) (La:Int) (Na:Int) (Ka:Int) (Fa:List (jf)):Option ((List (List Int))):=(some (([]:List (List Int)):List (List Int))).bind fun Xd=>((Xa.f k Ma La Na Ka Fa).bind fun t105=>(if t105=true then ((xb.f k Ma La Na Ka Fa).bind fun t106=>(Dc.l0 k Xd t106 0)) else (some Xd)))
theorem Dc.calls (k:Nat) (qb:Option Addr) (mb:Nat) (Ma:List Int) (La:Int) (Na:Int) (Ka:Int) (Lb:Option Addr) (Fb:Nat) (Fa:List (jf)) (r:List (List Int)) (w:World) (Ae:Kd.C (Kd.int .i64) w qb Ma.length Ma) (we:Ma.length ≤ mb) (Uf:Kd.C Gp w Lb Fa.length Fa) (Lf:Fa.length ≤ Fb) (h:Dc.f k Ma La Na Ka Fa=some r) :
  Calls Try.prog 35 #[.agg #[.slice qb Ma.length mb,.int .i64 La,.int .i64 Na,.int .i64 Ka,.slice Lb Fa.length Fb]] w fun e w'=>∃ Xn:Value,e = .returned (Xn)∧Kd.S (Kd.slice 3 (Kd.int .i64)) 22 w' w.heap.size (fun _=>True) Xn r∧Below w.heap.size w w':=by
 have Oz:=Try.underlying45;have Ke:=ga.mk Ae;have Ve:=ga.mk we;clear Ae we;have kg:=ga.mk Uf;have Tg:=ga.mk Lf;clear Uf Lf;have HB:=ga.mk (Below.refl w.heap.size w);have H:((some (([]:List (List Int)):List (List Int))).bind fun Xd=>((Xa.f k Ma La Na Ka Fa).bind fun t105=>(if t105=true then ((xb.f k Ma La Na Ka Fa).bind fun t106=>(Dc.l0 k Xd t106 0)) else (some Xd))))=some r:=h;clear h;obtain ⟨Xd,lf⟩:∃ y_:List (List Int),y_=(([]:List (List Int))):=⟨_,rfl⟩;replace H:((Xa.f k Ma La Na Ka Fa).bind fun t105=>(if t105=true then ((xb.f k Ma La Na Ka Fa).bind fun t106=>(Dc.l0 k Xd t106 0)) else (some Xd)))=some r:=by first|(rw [lf];with_reducible exact H)|(have Md:=(Option.bind_some _ _).symm.trans H;rw [lf];with_reducible exact Md)|(have Md:=(Option.bind_some _ _).symm.trans H;with_reducible exact Md)|with_reducible exact H|(rw [lf];exact H)|exact H
 have xh:=ga.mk lf;clear lf;replace H:=Option.bind_eq_some_iff.mp H;obtain ⟨t105,zC,H⟩:=H;replace H:(if t105=true then ((xb.f k Ma La Na Ka Fa).bind fun t106=>(Dc.l0 k Xd t106 0)) else (some Xd))=some r:=H;have A2:=ga.mk zC;clear zC
 by_cases c3:t105=true
 ·subst c3;have H1:((xb.f k Ma La Na Ka Fa).bind fun t106=>(Dc.l0 k Xd t106 0))=some r:=by rw [if_pos rfl] at H;exact H
  clear H;have H:=H1;clear H1;replace H:=Option.bind_eq_some_iff.mp H;obtain ⟨t106,lJ,H⟩:=H;replace H:(Dc.l0 k Xd t106 0)=some r:=H;have A4:=ga.mk lJ;clear lJ;have H':=ga.mk H;clear H;go_enter Try.func35,Try.ntmps35;go_wp2_with (first|((with_reducible refine Ab (N:=1) rfl ?_);refine Kb ?hg (N:=1) ?hd (cs:=#[.slice qb Ma.length mb,.int .i64 La,.int .i64 Na,.int .i64 Ka,.slice Lb Fa.length Fb]) (t:=45) ?hr ?_;(case hd=>rfl);(case hg=>rfl);(case hr=>first|(go_simp;done)|(go_simp;rfl));intro za hg w5 Wb hb;have Eb:=ga.mk (Qa (by repeat (first|(with_reducible first|exact HB.out|apply oa|apply ia|apply qa)|exact HB.out)) hb);have Ib:=ga.mk (Wb);have Sb:=ga.mk ((by rw [hg];exact (Ja (by repeat (first|(with_reducible first|exact HB.out|apply oa|apply ia|apply qa)|exact HB.out))):w.heap.size ≤ za));have yc:=ga.mk ((by rw [hg];exact (Ja (by repeat (first|(with_reducible first|exact HB.out|apply oa|apply ia|apply qa)|exact HB.out))):w.heap.size ≤ za));clear HB;have HB:=Eb;have ta:=Ib;have Be:=Sb;have Sa:=yc;clear Eb Ib Sb yc hb Wb hg)|((with_reducible refine Ab (N:=8) rfl ?_);refine Kd.lS (Kd.slice 3 (Kd.int .i64)) _ 22 ?hg (N:=8) ?hd (xs:=([]:List (List Int))) (inner:=[]) (ok:=fun _=>True) (Jh:=fun _=>True) ?hr ?hp (fun _ hk=>hk) trivial (Below.refl _ _) (Nat.le_refl _) (by simp) ?_;(case hd=>rfl);(case hg=>rfl);(case hr=>first|(go_simp;done)|(go_simp;rfl));(case hp=>exact (Sd.none _ _));intro ji w6 IQ hb Ol Re;clear Ol Re;(first|rw [← xh.out] at IQ|(simp only [Int.reduceToNat] at IQ;rw [← xh.out] at IQ));have Eb:=ga.mk (Kd.om IQ (Ja (by repeat (first|(with_reducible first|exact HB.out|apply oa|apply ia|apply qa|refine ua ?_ Sa.out)|exact HB.out))));have Ib:=ga.mk (Wa (g:=za) (o:=.cells #[.slice qb Ma.length mb,.int .i64 La,.int .i64 Na,.int .i64 Ka,.slice Lb Fa.length Fb] 45 (0,0)) (by (with_reducible repeat (first|refine Ca ?_ _|refine Ea ?_|refine Da ?_ _));exact ta.out) hb);have Sb:=ga.mk (Qa (by repeat (first|(with_reducible first|exact HB.out|apply oa|apply ia|apply qa|refine ua ?_ Sa.out)|exact HB.out)) hb);clear ta HB;have ke:=Eb;have ta:=Ib;have HB:=Sb;clear Eb Ib Sb hb IQ;have cz:w6.cell? ⟨za,0,none⟩=some (.slice qb Ma.length mb):=(ja ta.out 0).trans rfl;have bz:w6.cell? ⟨za,1,none⟩=some (.int .i64 La):=(ja ta.out 1).trans rfl;have az:w6.cell? ⟨za,2,none⟩=some (.int .i64 Na):=(ja ta.out 2).trans rfl;have Zy:w6.cell? ⟨za,3,none⟩=some (.int .i64 Ka):=(ja ta.out 3).trans rfl;have Yy:w6.cell? ⟨za,4,none⟩=some (.slice Lb Fa.length Fb):=(ja ta.out 4).trans rfl;have Xy:=aa ta.out 0;have Wy:=aa ta.out 1;have Vy:=aa ta.out 2;have Uy:=aa ta.out 3;have Ty:=aa ta.out 4)|((with_reducible refine zb (f:=66) rfl ?_);refine Pc (some 10) rfl rfl Try.func66 (by kernel_rfl) rfl #[.agg #[.slice qb Ma.length mb,.int .i64 La,.int .i64 Na,.int .i64 Ka,.slice Lb Fa.length Fb]] rfl (by (try simp only [List.map_toArray,List.map_cons,List.map_nil]);first|done|rfl|(simp only [List.length_drop,List.length_take];rfl)) ?_;(with_reducible refine (Xa.calls k _ _ Ma La Na Ka _ _ Fa true _ ?Fc ?Ec ?Wd ?Vd A2.out).mono ?_);(case Fc=>repeat (first|exact (Kd.Nb Ke.out HB.out)|(with_reducible refine Kd.Ub ?_ _)|(with_reducible refine Kd.Tb ?_ _)|(with_reducible refine Kd.mc ?_)));(case Ec=>exact Ve.out);(case Wd=>repeat (first|exact (Kd.Nb kg.out HB.out)|(with_reducible refine Kd.Ub ?_ _)|(with_reducible refine Kd.Tb ?_ _)|(with_reducible refine Kd.mc ?_)));(case Vd=>exact Tg.out);rintro e w9 ⟨rfl,hb⟩;refine ⟨_,rfl,?_⟩;have Eb:=ga.mk (Kd.Ji (by (with_reducible repeat (first|apply Kd.Ic|apply Kd.Gc|apply Kd.yd));exact ke.out) hb);have Ib:=ga.mk (Wa (g:=za) (o:=.cells #[.slice qb Ma.length mb,.int .i64 La,.int .i64 Na,.int .i64 Ka,.slice Lb Fa.length Fb] 45 (0,0)) (by (with_reducible repeat (first|refine Ca ?_ _|refine Ea ?_|refine Da ?_ _));exact ta.out) hb);have Sb:=ga.mk (Qa (by repeat (first|(with_reducible first|exact HB.out|apply oa|apply ia|apply qa|refine ua ?_ Sa.out)|exact HB.out)) hb);clear ke ta HB;have ke:=Eb;have ta:=Ib;have HB:=Sb;clear Eb Ib Sb;(try clear hb);(try clear Qj);(try clear hk);(try clear hi);have Wh:w9.cell? ⟨za,0,none⟩=some (.slice qb Ma.length mb):=(ja ta.out 0).trans rfl;have Vh:w9.cell? ⟨za,1,none⟩=some (.int .i64 La):=(ja ta.out 1).trans rfl;have Uh:w9.cell? ⟨za,2,none⟩=some (.int .i64 Na):=(ja ta.out 2).trans rfl;have Th:w9.cell? ⟨za,3,none⟩=some (.int .i64 Ka):=(ja ta.out 3).trans rfl;have Sh:w9.cell? ⟨za,4,none⟩=some (.slice Lb Fa.length Fb):=(ja ta.out 4).trans rfl;have Rh:=aa ta.out 0;have Qh:=aa ta.out 1;have Ph:=aa ta.out 2;have Oh:=aa ta.out 3;have Nh:=aa ta.out 4)|((with_reducible refine zb (f:=67) rfl ?_);refine Pc (some 14) rfl rfl Try.func67 (by kernel_rfl) rfl #[.agg #[.slice qb Ma.length mb,.int .i64 La,.int .i64 Na,.int .i64 Ka,.slice Lb Fa.length Fb]] rfl (by (try simp only [List.map_toArray,List.map_cons,List.map_nil]);first|done|rfl|(simp only [List.length_drop,List.length_take];rfl)) ?_;(with_reducible refine (xb.calls k _ _ Ma La Na Ka _ _ Fa t106 _ ?Fc ?Ec ?Wd ?Vd A4.out).mono ?_);(case Fc=>repeat (first|exact (Kd.Nb Ke.out HB.out)|(with_reducible refine Kd.Ub ?_ _)|(with_reducible refine Kd.Tb ?_ _)|(with_reducible refine Kd.mc ?_)));(case Ec=>exact Ve.out);(case Wd=>repeat (first|exact (Kd.Nb kg.out HB.out)|(with_reducible refine Kd.Ub ?_ _)|(with_reducible refine Kd.Tb ?_ _)|(with_reducible refine Kd.mc ?_)));(case Vd=>exact Tg.out);rintro e uj ⟨v107,rfl,Ri,hb⟩;refine ⟨_,rfl,?_⟩;have Eb:=ga.mk (Kd.Ji (by (with_reducible repeat (first|apply Kd.Ic|apply Kd.Gc|apply Kd.yd));exact ke.out) hb);have Ib:=ga.mk (Kd.om Ri (Ja (by repeat (first|(with_reducible first|exact HB.out|apply oa|apply ia|apply qa|refine ua ?_ Sa.out)|exact HB.out))));have Sb:=ga.mk (Wa (g:=za) (o:=.cells #[.slice qb Ma.length mb,.int .i64 La,.int .i64 Na,.int .i64 Ka,.slice Lb Fa.length Fb] 45 (0,0)) (by (with_reducible repeat (first|refine Ca ?_ _|refine Ea ?_|refine Da ?_ _));exact ta.out) hb);have yc:=ga.mk (Qa (by repeat (first|(with_reducible first|exact HB.out|apply oa|apply ia|apply qa|refine ua ?_ Sa.out)|exact HB.out)) hb);clear ke ta HB;have ke:=Eb;have Gk:=Ib;have ta:=Sb;have HB:=yc;clear Eb Ib Sb yc;(try clear hb);(try clear Qj);(try clear hk);(try clear hi);(try clear Ri)))
  go_loopg [3,5] k (fun kq v3 v5 w'=>∃ (Cc:List (List Int)) (Aa:Int),v5 = .int .i64 Aa∧ga (Dc.l0 kq Cc t106 Aa=some r)∧ga (kq ≤ k)∧ga (Kd.S (Kd.slice 3 (Kd.int .i64)) 22 w' w.heap.size (fun _=>True) v3 Cc)∧ga (Kd.S (Kd.slice 4 Kd.bool) 73 w' w.heap.size (fun _=>True) v107 t106)∧ga (w'.heap[za]? = some (.cells #[(.slice qb Ma.length mb),.int .i64 La,.int .i64 Na,.int .i64 Ka,(.slice Lb Fa.length Fb)] 45 (0,0)))∧ga (Below w.heap.size w w'))
  case atStart=>exact ⟨(Xd),(0),(by first|rfl|(simp;done)|(simp [*];done)),H',⟨Nat.le_refl _⟩,⟨by (with_reducible repeat (first|apply Kd.Ic|apply Kd.Gc|apply Kd.yd));exact ke.out⟩,⟨by (with_reducible repeat (first|apply Kd.Ic|apply Kd.Gc|apply Kd.yd));exact Gk.out⟩,⟨by (with_reducible repeat (first|refine Ca ?_ _|refine Ea ?_|refine Da ?_ _));exact ta.out⟩,⟨by repeat (first|(with_reducible first|exact HB.out|apply oa|apply ia|apply qa|refine ua ?_ Sa.out)|exact HB.out)⟩⟩
  case round =>
   clear H'
   try clear p2
   try clear c3
   try clear c6
   try clear Wh
   try clear Vh
   try clear Uh
   try clear Th
   try clear Sh
   try clear cz
   try clear bz
   try clear az
   try clear Zy
   try clear Yy
   try clear Rh
   try clear Qh
   try clear Ph
   try clear Oh
   try clear Nh
   try clear Xy
   try clear Wy
   try clear Vy
   try clear Uy
   try clear Ty
   (try clear HA);(try clear uf);(try clear qc);(try clear ec);(try clear ta);(try clear HB);obtain ⟨Cc,Aa,rfl,HA,uf,qc,ec,ta,HB⟩:=hrel;cases gk with
   | zero=>exact absurd HA.out (by simp [Dc.l0])
   | succ k1 =>
    have H:=HA.out;clear HA;simp only [Dc.l0] at H
    by_cases Fq:Aa < (t106.length:Int)
    ·rw [if_pos Fq] at H;have Lv:decide (Aa < (t106.length:Int))=true:=decide_eq_true Fq;clear Fq;obtain ⟨eB,bn⟩:∃ y_:List Int,y_=(([]:List Int)):=⟨_,rfl⟩;replace H:(Dc.l1 k1 Cc t106 Aa eB 0)=some r:=by first|(rw [bn];with_reducible exact H)|(have Md:=(Option.bind_some _ _).symm.trans H;rw [bn];with_reducible exact Md)|(have Md:=(Option.bind_some _ _).symm.trans H;with_reducible exact Md)|with_reducible exact H|(rw [bn];exact H)|exact H
     have FD:=ga.mk bn;clear bn;have H':=ga.mk H;clear H;obtain ⟨Tae,qv,N4⟩:=Kd.mm ec.out;subst N4;go_wp2_with (first|((with_reducible refine Ab (N:=21) rfl ?_);refine Kd.vk (Kd.int .i64) _ 3 ?hg (N:=21) ?hd (xs:=([]:List Int)) (inner:=[]) (ok:=fun _=>True) (Jh:=fun _=>True) ?hr ?hp (fun _ hk=>hk) trivial (Below.refl _ _) (Nat.le_refl _) (by simp) ?_;(case hd=>rfl);(case hg=>rfl);(case hr=>first|(go_simp;done)|(go_simp;rfl));(case hp=>exact (Sd.none _ _));intro yaw jH Pz hb Ol Re;clear Ol Re;(first|rw [← FD.out] at Pz|(simp only [Int.reduceToNat] at Pz;rw [← FD.out] at Pz));have Eb:=ga.mk (Kd.yy (by (with_reducible repeat (first|apply Kd.Ic|apply Kd.Gc|apply Kd.yd));exact qc.out) (Kd.Mh Pz) hb);have Ib:=ga.mk (Kd.Ji (by (with_reducible repeat (first|apply Kd.Ic|apply Kd.Gc|apply Kd.yd));exact ec.out) hb);have Sb:=ga.mk (Kd.Fe Pz (Ja (by repeat (first|(with_reducible first|exact HB.out|apply oa|apply ia|apply qa|refine ua ?_ Sa.out)|exact HB.out))));have yc:=ga.mk (Wa (g:=za) (o:=.cells #[.slice qb Ma.length mb,.int .i64 La,.int .i64 Na,.int .i64 Ka,.slice Lb Fa.length Fb] 45 (0,0)) (by (with_reducible repeat (first|refine Ca ?_ _|refine Ea ?_|refine Da ?_ _));exact ta.out) hb);have Ee:=ga.mk (Qa (by repeat (first|(with_reducible first|exact HB.out|apply oa|apply ia|apply qa|refine ua ?_ Sa.out)|exact HB.out)) hb);clear qc ec ta HB;have qc:=Eb;have ec:=Ib;have sae:=Sb;have ta:=yc;have HB:=Ee;clear Eb Ib Sb yc Ee hb Pz))
     go_loopg [6,7] k1 (fun kq v6 v7 w'=>∃ (fh:List Int) (Jc:Int),v7 = .int .i64 Jc∧ga (Dc.l1 kq Cc t106 Aa fh Jc=some r)∧ga (kq ≤ k1)∧ga (Kd.S (Kd.slice 3 (Kd.int .i64)) 22 w' w.heap.size (fun k_=>some k_ ≠ (v6:Value).ownBlock) u3 Cc)∧ga (Kd.S (Kd.slice 4 Kd.bool) 73 w' w.heap.size (fun _=>True) (.slice Tae t106.length qv) t106)∧ga (Kd.R (Kd.int .i64) 3 w' w.heap.size (fun _=>True) v6 fh)∧ga (w'.heap[za]? = some (.cells #[(.slice qb Ma.length mb),.int .i64 La,.int .i64 Na,.int .i64 Ka,(.slice Lb Fa.length Fb)] 45 (0,0)))∧ga (Below w.heap.size w w'))
     case atStart=>exact ⟨(eB),(0),(by first|rfl|(simp;done)|(simp [*];done)),H',⟨Nat.le_refl _⟩,⟨by (with_reducible repeat (first|apply Kd.Ic|apply Kd.Gc|apply Kd.yd));exact Kd.Gf qc.out (fun _ hk=>hk.2)⟩,⟨by (with_reducible repeat (first|apply Kd.Ic|apply Kd.Gc|apply Kd.yd));exact ec.out⟩,⟨by (with_reducible repeat (first|apply Kd.Va|apply Kd.Ua|apply Kd.jb));exact sae.out⟩,⟨by (with_reducible repeat (first|refine Ca ?_ _|refine Ea ?_|refine Da ?_ _));exact ta.out⟩,⟨by repeat (first|(with_reducible first|exact HB.out|apply oa|apply ia|apply qa|refine ua ?_ Sa.out)|exact HB.out)⟩⟩
     case round =>
      clear H'
      try clear c1
      try clear p2
      try clear c3
      try clear c6
      try clear Fq
      try clear Lv
      try clear Wh
      try clear Vh
      try clear Uh
      try clear Th
      try clear Sh
      try clear cz
      try clear bz
      try clear az
      try clear Zy
      try clear Yy
      try clear Rh
      try clear Qh
      try clear Ph
      try clear Oh
      try clear Nh
      try clear Xy
      try clear Wy
      try clear Vy
      try clear Uy
      try clear Ty
      try clear p2
      (try clear HA);(try clear Pj);(try clear qc);(try clear ec);(try clear Xk);(try clear ta);(try clear HB);obtain ⟨fh,Jc,rfl,HA,Pj,qc,ec,Xk,ta,HB⟩:=hrel;cases gk with
      | zero=>exact absurd HA.out (by simp [Dc.l1])
      | succ k2 =>
       have H:=HA.out;clear HA;simp only [Dc.l1] at H
       by_cases jt:Jc < (t106.length:Int)
       ·rw [if_pos jt] at H;have cC:decide (Jc < (t106.length:Int))=true:=decide_eq_true jt;clear jt
        by_cases Xu:0 ≤ Jc
        ·rw [if_pos Xu] at H;have Xt:decide (0 ≤ Jc)=true:=decide_eq_true Xu;clear Xu
         by_cases Bp:0 ≤ Aa
         ·rw [if_pos Bp] at H;have vn:decide (0 ≤ Aa)=true:=decide_eq_true Bp;clear Bp
          by_cases xp:Aa < ((fl t106 Jc).length:Int)
          ·rw [if_pos xp] at H;have Iv:decide (Aa < ((fl t106 Jc).length:Int))=true:=decide_eq_true xp;clear xp;obtain ⟨dad,yR⟩:∃ b_:Bool,b_=(Eg false (fl t106 Jc) Aa):=⟨_,rfl⟩;replace H:(if dad=true then (if fh.length < 17592186044416 then (Dc.l1 k2 Cc t106 Aa (fh ++ [Jc]) (wrap64 (Jc + 1))) else (none)) else (Dc.l1 k2 Cc t106 Aa fh (wrap64 (Jc + 1))))=some r:=by rw [← yR] at H;exact H
           have aZ:=ga.mk yR;clear yR
           by_cases qt:dad=true
           ·subst qt;have H1:(if fh.length < 17592186044416 then (Dc.l1 k2 Cc t106 Aa (fh ++ [Jc]) (wrap64 (Jc + 1))) else (none))=some r:=by rw [if_pos rfl] at H;exact H
            clear H;have H:=H1;clear H1
            by_cases Fz:fh.length < 17592186044416
            ·rw [if_pos Fz] at H;have Nad:=ga.mk Fz;clear Fz;obtain ⟨j8,JH⟩:∃ y_:List Int,y_=(fh ++ [Jc]):=⟨_,rfl⟩;replace H:(Dc.l1 k2 Cc t106 Aa j8 (wrap64 (Jc + 1)))=some r:=by first|(rw [JH];with_reducible exact H)|(have Md:=(Option.bind_some _ _).symm.trans H;rw [JH];with_reducible exact Md)|(have Md:=(Option.bind_some _ _).symm.trans H;with_reducible exact Md)|with_reducible exact H|(rw [JH];exact H)|exact H
             have Dad:=ga.mk JH;clear JH;have H':=ga.mk H;clear H;have ir:0 ≤ (Jc:Int):=of_decide_eq_true (by first|(with_reducible assumption)|assumption);have gr:Jc < (t106.length:Int):=of_decide_eq_true (by first|(with_reducible assumption)|assumption);obtain ⟨SI,gL,GK,yK,nr,Il,Ll⟩:=gS (Kd.od ec.out).2.2 Jc ir gr;cases yK;obtain ⟨VR,Zv,cw,Xo⟩:=Kd.Cm ec.out [] Jc ir (by first|exact gr|exact of_decide_eq_true (by first|(with_reducible assumption)|assumption)|(have e_:=(Kd.od ec.out).1;omega));obtain ⟨PD,rfl,aj⟩:=cw;have Mg:=Xo 0 _ rfl;rw [Nat.add_zero,show ((Kd.slice 4 Kd.bool)).sz=1 from rfl,Nat.mul_one] at Mg;replace Mg:=Option.some.inj (Mg.symm.trans nr);rw [Mg] at aj;have av:=ga.mk (show Kd.R Kd.bool 4 _ _ _ _ (fl t106 Jc) from aj);clear Mg aj Xo Zv;have Js:=ga.mk Ll;have WG:=ga.mk Il;clear Ll Il;replace ir:=eq_true ir;replace gr:=eq_true gr;have Py:0 ≤ (Aa:Int):=of_decide_eq_true (by first|(with_reducible assumption)|assumption);have Oy:Aa < ((fl t106 Jc).length:Int):=of_decide_eq_true (by first|(with_reducible assumption)|assumption);obtain ⟨Gz,NR,Um⟩:=Kd.Lk (by repeat (first|(with_reducible exact Js.out)|(with_reducible refine Kd.Ub ?_ _)|(with_reducible refine Kd.Tb ?_ _)|(with_reducible refine Kd.mc ?_)|exact Js.out)) Aa Py Oy;(try rw [← aZ.out] at Um);cases NR;replace Py:=eq_true Py;replace Oy:=eq_true Oy;go_wp2_with (first|((with_reducible refine lg (b:=.append) (xs:=#[.tmp 35,.tmp 37]) rfl ?_);at_builtin;refine Kd.um (Kd.int .i64) (w0:=w) w.heap.size rfl (.tmp 35) (.tmp 37) 22 3 (.int .i64 0) 8 rfl Try.underlying22 info3 rfl (by decide) (by omega) u6 fh Jc [.int .i64 Jc] (fun _=>True) (fun _=>False) rfl rfl ?aP (fun _ hk=>hk.elim) ?aF ?aO ?aB ?aS ?aL ?_;(case aP=>exact rfl);(case aB=>exact (by repeat (first|(with_reducible first|exact HB.out|apply oa|apply ia|apply qa|refine ua ?_ Sa.out)|exact HB.out)));(case aF=>exact (fun _ _=>trivial));(case aO=>exact (by (with_reducible repeat (first|apply Kd.Va|apply Kd.Ua|apply Kd.jb));exact Xk.out));(case aS=>exact (Ja (by repeat (first|(with_reducible first|exact HB.out|apply oa|apply ia|apply qa|refine ua ?_ Sa.out)|exact HB.out))));(case aL=>have:=Nad.out;omega);intro waw wv ho hb hg hat;rw [← Dad.out] at ho;have Eb:=ga.mk (Kd.Oo (ok:=(fun _=>True)) (by (with_reducible repeat (first|apply Kd.Ic|apply Kd.Gc|apply Kd.yd));exact Kd.Gf qc.out (fun _ hk=>⟨trivial,hk⟩)) hg hat);have Ib:=ga.mk (Kd.LN (by (with_reducible repeat (first|apply Kd.Ic|apply Kd.Gc|apply Kd.yd));exact ec.out) (Kd.Mk (by (with_reducible repeat (first|apply Kd.Va|apply Kd.Ua|apply Kd.jb));exact Xk.out)) (by decide) hg);have Sb:=ga.mk (Kf (g:=za) (o:=.cells #[.slice qb Ma.length mb,.int .i64 La,.int .i64 Na,.int .i64 Ka,.slice Lb Fa.length Fb] 45 (0,0)) (by (with_reducible repeat (first|refine Ca ?_ _|refine Ea ?_|refine Da ?_ _));exact ta.out) hg (Kd.Rq Xk.out ta.out (by decide)));have yc:=ga.mk (Kd.Nk (by (with_reducible repeat (first|apply Kd.Va|apply Kd.Ua|apply Kd.jb));exact av.out) (Kd.Mk (by (with_reducible repeat (first|apply Kd.Va|apply Kd.Ua|apply Kd.jb));exact Xk.out)) (by decide) hg);have Ee:=ga.mk (hb);have mg:=ga.mk (ho);clear qc ec ta av HB Xk;have qc:=Eb;have ec:=Ib;have ta:=Sb;have av:=yc;have HB:=Ee;have qae:=mg;clear Eb Ib Sb yc Ee mg ho hb hg hat))
             go_roundg k2
             case measure=>have:=uf.out;have:=Pj.out;omega
             case rel=>exact ⟨(j8),(wrap64 (Jc + 1)),(by first|rfl|(simp;done)|(simp [*];done)),H',⟨by have:=uf.out;have:=Pj.out;omega⟩,⟨by (with_reducible repeat (first|apply Kd.Ic|apply Kd.Gc|apply Kd.yd));exact Kd.Gf qc.out (fun _ hk=>hk.2)⟩,⟨by (with_reducible repeat (first|apply Kd.Ic|apply Kd.Gc|apply Kd.yd));exact ec.out⟩,⟨by (with_reducible repeat (first|apply Kd.Va|apply Kd.Ua|apply Kd.jb));exact qae.out⟩,⟨by (with_reducible repeat (first|refine Ca ?_ _|refine Ea ?_|refine Da ?_ _));exact ta.out⟩,⟨by repeat (first|(with_reducible first|exact HB.out|apply oa|apply ia|apply qa|refine ua ?_ Sa.out)|exact HB.out)⟩⟩
            ·rw [if_neg Fz] at H;exact absurd H (by simp)
           ·replace qt:=Bool.eq_false_iff.mpr qt;subst qt;have H1:(Dc.l1 k2 Cc t106 Aa fh (wrap64 (Jc + 1)))=some r:=by rw [if_neg (show ¬ (false=true) by decide)] at H;exact H
            clear H;have H:=H1;clear H1;have H':=ga.mk H;clear H;have ir:0 ≤ (Jc:Int):=of_decide_eq_true (by first|(with_reducible assumption)|assumption);have gr:Jc < (t106.length:Int):=of_decide_eq_true (by first|(with_reducible assumption)|assumption);obtain ⟨SI,gL,GK,yK,nr,Il,Ll⟩:=gS (Kd.od ec.out).2.2 Jc ir gr;cases yK;obtain ⟨VR,Zv,cw,Xo⟩:=Kd.Cm ec.out [] Jc ir (by first|exact gr|exact of_decide_eq_true (by first|(with_reducible assumption)|assumption)|(have e_:=(Kd.od ec.out).1;omega));obtain ⟨PD,rfl,aj⟩:=cw;have Mg:=Xo 0 _ rfl;rw [Nat.add_zero,show ((Kd.slice 4 Kd.bool)).sz=1 from rfl,Nat.mul_one] at Mg;replace Mg:=Option.some.inj (Mg.symm.trans nr);rw [Mg] at aj;have av:=ga.mk (show Kd.R Kd.bool 4 _ _ _ _ (fl t106 Jc) from aj);clear Mg aj Xo Zv;have Js:=ga.mk Ll;have WG:=ga.mk Il;clear Ll Il;replace ir:=eq_true ir;replace gr:=eq_true gr;have Py:0 ≤ (Aa:Int):=of_decide_eq_true (by first|(with_reducible assumption)|assumption);have Oy:Aa < ((fl t106 Jc).length:Int):=of_decide_eq_true (by first|(with_reducible assumption)|assumption);obtain ⟨Gz,NR,Um⟩:=Kd.Lk (by repeat (first|(with_reducible exact Js.out)|(with_reducible refine Kd.Ub ?_ _)|(with_reducible refine Kd.Tb ?_ _)|(with_reducible refine Kd.mc ?_)|exact Js.out)) Aa Py Oy;(try rw [← aZ.out] at Um);cases NR;replace Py:=eq_true Py;replace Oy:=eq_true Oy;go_wp2
            go_roundg k2
            case measure=>have:=uf.out;have:=Pj.out;omega
            case rel=>exact ⟨(fh),(wrap64 (Jc + 1)),(by first|rfl|(simp;done)|(simp [*];done)),H',⟨by have:=uf.out;have:=Pj.out;omega⟩,⟨by (with_reducible repeat (first|apply Kd.Ic|apply Kd.Gc|apply Kd.yd));exact qc.out⟩,⟨by (with_reducible repeat (first|apply Kd.Ic|apply Kd.Gc|apply Kd.yd));exact ec.out⟩,⟨by (with_reducible repeat (first|apply Kd.Va|apply Kd.Ua|apply Kd.jb));exact Xk.out⟩,⟨by (with_reducible repeat (first|refine Ca ?_ _|refine Ea ?_|refine Da ?_ _));exact ta.out⟩,⟨by repeat (first|(with_reducible first|exact HB.out|apply oa|apply ia|apply qa|refine ua ?_ Sa.out)|exact HB.out)⟩⟩
          ·rw [if_neg xp] at H;exact absurd H (by simp)
         ·rw [if_neg Bp] at H;exact absurd H (by simp)
        ·rw [if_neg Xu] at H;exact absurd H (by simp)
       ·rw [if_neg jt] at H;have cC:decide (Jc < (t106.length:Int))=false:=decide_eq_false jt;clear jt
        by_cases EG:Cc.length < 5864062014805
        ·rw [if_pos EG] at H;have Lad:=ga.mk EG;clear EG;obtain ⟨dB,Zm⟩:∃ y_:List (List Int),y_=(Cc ++ [fh]):=⟨_,rfl⟩;replace H:(Dc.l0 k2 dB t106 (wrap64 (Aa + 1)))=some r:=by first|(rw [Zm];with_reducible exact H)|(have Md:=(Option.bind_some _ _).symm.trans H;rw [Zm];with_reducible exact Md)|(have Md:=(Option.bind_some _ _).symm.trans H;with_reducible exact Md)|with_reducible exact H|(rw [Zm];exact H)|exact H
         have DD:=ga.mk Zm;clear Zm;have H':=ga.mk H;clear H;obtain ⟨D7,j5,J4⟩:=Kd.Nd Xk.out;subst J4;go_wp2_with (first|((with_reducible refine lg (b:=.append) (xs:=#[.tmp 39,.tmp 41]) rfl ?_);at_builtin;refine Kd.UI (Kd.slice 3 (Kd.int .i64)) (w0:=w) w.heap.size rfl (.tmp 39) (.tmp 41) 53 22 (.slice none 0 0) 24 rfl Try.underlying53 qQ rfl (by decide) (by omega) u3 Cc fh [.slice D7 fh.length j5] (fun _=>True) (fun k_=>some k_=(.slice D7 fh.length j5:Value).ownBlock) rfl rfl ?aP (fun k_ sx=>((Kd.Mc (vp:=fun k_=>((fun _=>True)) k_∧some k_ ≠ (u3:Value).ownBlock) (Kd.qp (Xk.out) (Kd.Mo qc.out) (by decide)) (fun k_ hk=>⟨trivial,hk.2⟩))).1 k_ sx.symm) ?aF ?aO ?aB ?aS ?aL ?_;(case aP=>exact Kd.dZ (Kd.Mc (Kd.Fs rfl (Kd.Mc (vp:=fun k_=>((fun _=>True)) k_∧some k_ ≠ (u3:Value).ownBlock) (Kd.qp (Xk.out) (Kd.Mo qc.out) (by decide)) (fun k_ hk=>⟨trivial,hk.2⟩))) (fun _ h_=>h_)));(case aB=>exact (by repeat (first|(with_reducible first|exact HB.out|apply oa|apply ia|apply qa|refine ua ?_ Sa.out)|exact HB.out)));(case aF=>exact (fun _ _=>trivial));(case aO=>exact (by (with_reducible repeat (first|apply Kd.Ic|apply Kd.Gc|apply Kd.yd));exact Kd.Gf qc.out (fun k_ hk=>⟨trivial,fun e_=>hk e_⟩)));(case aS=>exact (Ja (by repeat (first|(with_reducible first|exact HB.out|apply oa|apply ia|apply qa|refine ua ?_ Sa.out)|exact HB.out))));(case aL=>have:=Lad.out;omega);intro RD cO ho hb hg hat;rw [← DD.out] at ho;have Eb:=ga.mk (Kd.LN (by (with_reducible repeat (first|apply Kd.Ic|apply Kd.Gc|apply Kd.yd));exact ec.out) (Kd.Mo (by (with_reducible repeat (first|apply Kd.Ic|apply Kd.Gc|apply Kd.yd));exact qc.out)) (by decide) hg);have Ib:=ga.mk (Kf (g:=za) (o:=.cells #[.slice qb Ma.length mb,.int .i64 La,.int .i64 Na,.int .i64 Ka,.slice Lb Fa.length Fb] 45 (0,0)) (by (with_reducible repeat (first|refine Ca ?_ _|refine Ea ?_|refine Da ?_ _));exact ta.out) hg (Kd.sad qc.out ta.out (by decide)));have Sb:=ga.mk (hb);have yc:=ga.mk (ho);clear ec ta HB qc Xk;have ec:=Eb;have ta:=Ib;have HB:=Sb;have fo:=yc;clear Eb Ib Sb yc ho hb hg hat))
         go_roundg k2
         case measure=>have:=uf.out;have:=Pj.out;omega
         case rel=>exact ⟨(dB),(wrap64 (Aa + 1)),(by first|rfl|(simp;done)|(simp [*];done)),H',⟨by have:=uf.out;have:=Pj.out;omega⟩,⟨by (with_reducible repeat (first|apply Kd.Ic|apply Kd.Gc|apply Kd.yd));exact fo.out⟩,⟨by (with_reducible repeat (first|apply Kd.Ic|apply Kd.Gc|apply Kd.yd));exact ec.out⟩,⟨by (with_reducible repeat (first|refine Ca ?_ _|refine Ea ?_|refine Da ?_ _));exact ta.out⟩,⟨by repeat (first|(with_reducible first|exact HB.out|apply oa|apply ia|apply qa|refine ua ?_ Sa.out)|exact HB.out)⟩⟩
        ·rw [if_neg EG] at H;exact absurd H (by simp)
    ·rw [if_neg Fq] at H;have Lv:decide (Aa < (t106.length:Int))=false:=decide_eq_false Fq;clear Fq;obtain rfl:=Option.some.inj H;obtain ⟨Hay,wax,Zap⟩:=Kd.mm ec.out;subst Zap;go_wp2;go_ret;exact ⟨_,by first|rfl|(simp [Pa,Oa] <;> rfl)|(simp [*,Pa,Oa] <;> rfl),by (with_reducible repeat (first|apply Kd.Ic|apply Kd.Gc|apply Kd.yd));exact qc.out,by repeat (first|(with_reducible first|exact HB.out|apply oa|apply ia|apply qa|refine ua ?_ Sa.out)|exact HB.out)⟩
 ·replace c3:=Bool.eq_false_iff.mpr c3;subst c3;have H1:(some Xd)=some r:=by rw [if_neg (show ¬ (false=true) by decide)] at H;exact H
  clear H;have H:=H1;clear H1;obtain rfl:=Option.some.inj H;go_enter Try.func35,Try.ntmps35;go_wp2_with (first|((with_reducible refine Ab (N:=1) rfl ?_);refine Kb ?hg (N:=1) ?hd (cs:=#[.slice qb Ma.length mb,.int .i64 La,.int .i64 Na,.int .i64 Ka,.slice Lb Fa.length Fb]) (t:=45) ?hr ?_;(case hd=>rfl);(case hg=>rfl);(case hr=>first|(go_simp;done)|(go_simp;rfl));intro za hg oJ Wb hb;have Eb:=ga.mk (Qa (by repeat (first|(with_reducible first|exact HB.out|apply oa|apply ia|apply qa)|exact HB.out)) hb);have Ib:=ga.mk (Wb);have Sb:=ga.mk ((by rw [hg];exact (Ja (by repeat (first|(with_reducible first|exact HB.out|apply oa|apply ia|apply qa)|exact HB.out))):w.heap.size ≤ za));have yc:=ga.mk ((by rw [hg];exact (Ja (by repeat (first|(with_reducible first|exact HB.out|apply oa|apply ia|apply qa)|exact HB.out))):w.heap.size ≤ za));clear HB;have HB:=Eb;have ta:=Ib;have Be:=Sb;have Sa:=yc;clear Eb Ib Sb yc hb Wb hg)|((with_reducible refine Ab (N:=8) rfl ?_);refine Kd.lS (Kd.slice 3 (Kd.int .i64)) _ 22 ?hg (N:=8) ?hd (xs:=([]:List (List Int))) (inner:=[]) (ok:=fun _=>True) (Jh:=fun _=>True) ?hr ?hp (fun _ hk=>hk) trivial (Below.refl _ _) (Nat.le_refl _) (by simp) ?_;(case hd=>rfl);(case hg=>rfl);(case hr=>first|(go_simp;done)|(go_simp;rfl));(case hp=>exact (Sd.none _ _));intro ji nJ KQ hb Ol Re;clear Ol Re;(first|rw [← xh.out] at KQ|(simp only [Int.reduceToNat] at KQ;rw [← xh.out] at KQ));have Eb:=ga.mk (Kd.om KQ (Ja (by repeat (first|(with_reducible first|exact HB.out|apply oa|apply ia|apply qa|refine ua ?_ Sa.out)|exact HB.out))));have Ib:=ga.mk (Wa (g:=za) (o:=.cells #[.slice qb Ma.length mb,.int .i64 La,.int .i64 Na,.int .i64 Ka,.slice Lb Fa.length Fb] 45 (0,0)) (by (with_reducible repeat (first|refine Ca ?_ _|refine Ea ?_|refine Da ?_ _));exact ta.out) hb);have Sb:=ga.mk (Qa (by repeat (first|(with_reducible first|exact HB.out|apply oa|apply ia|apply qa|refine ua ?_ Sa.out)|exact HB.out)) hb);clear ta HB;have ke:=Eb;have ta:=Ib;have HB:=Sb;clear Eb Ib Sb hb KQ;have IA:nJ.cell? ⟨za,0,none⟩=some (.slice qb Ma.length mb):=(ja ta.out 0).trans rfl;have GA:nJ.cell? ⟨za,1,none⟩=some (.int .i64 La):=(ja ta.out 1).trans rfl;have FA:nJ.cell? ⟨za,2,none⟩=some (.int .i64 Na):=(ja ta.out 2).trans rfl;have EA:nJ.cell? ⟨za,3,none⟩=some (.int .i64 Ka):=(ja ta.out 3).trans rfl;have DA:nJ.cell? ⟨za,4,none⟩=some (.slice Lb Fa.length Fb):=(ja ta.out 4).trans rfl;have kA:=aa ta.out 0;have jA:=aa ta.out 1;have iA:=aa ta.out 2;have gA:=aa ta.out 3;have fA:=aa ta.out 4)|((with_reducible refine zb (f:=66) rfl ?_);refine Pc (some 10) rfl rfl Try.func66 (by kernel_rfl) rfl #[.agg #[.slice qb Ma.length mb,.int .i64 La,.int .i64 Na,.int .i64 Ka,.slice Lb Fa.length Fb]] rfl (by (try simp only [List.map_toArray,List.map_cons,List.map_nil]);first|done|rfl|(simp only [List.length_drop,List.length_take];rfl)) ?_;(with_reducible refine (Xa.calls k _ _ Ma La Na Ka _ _ Fa false _ ?Fc ?Ec ?Wd ?Vd A2.out).mono ?_);(case Fc=>repeat (first|exact (Kd.Nb Ke.out HB.out)|(with_reducible refine Kd.Ub ?_ _)|(with_reducible refine Kd.Tb ?_ _)|(with_reducible refine Kd.mc ?_)));(case Ec=>exact Ve.out);(case Wd=>repeat (first|exact (Kd.Nb kg.out HB.out)|(with_reducible refine Kd.Ub ?_ _)|(with_reducible refine Kd.Tb ?_ _)|(with_reducible refine Kd.mc ?_)));(case Vd=>exact Tg.out);rintro e w32 ⟨rfl,hb⟩;refine ⟨_,rfl,?_⟩;have Eb:=ga.mk (Kd.Ji (by (with_reducible repeat (first|apply Kd.Ic|apply Kd.Gc|apply Kd.yd));exact ke.out) hb);have Ib:=ga.mk (Wa (g:=za) (o:=.cells #[.slice qb Ma.length mb,.int .i64 La,.int .i64 Na,.int .i64 Ka,.slice Lb Fa.length Fb] 45 (0,0)) (by (with_reducible repeat (first|refine Ca ?_ _|refine Ea ?_|refine Da ?_ _));exact ta.out) hb);have Sb:=ga.mk (Qa (by repeat (first|(with_reducible first|exact HB.out|apply oa|apply ia|apply qa|refine ua ?_ Sa.out)|exact HB.out)) hb);clear ke ta HB;have ke:=Eb;have ta:=Ib;have HB:=Sb;clear Eb Ib Sb;(try clear hb);(try clear Qj);(try clear hk);(try clear hi)));go_ret;exact ⟨_,by first|rfl|(simp [Pa,Oa] <;> rfl)|(simp [*,Pa,Oa] <;> rfl),by (with_reducible repeat (first|apply Kd.Ic|apply Kd.Gc|apply Kd.yd));exact ke.out,by repeat (first|(with_reducible first|exact HB.out|apply oa|apply ia|apply qa|refine ua ?_ Sa.out)|exact HB.out)⟩
end Go.Proofs.Ytoomcmaifgkkfaa.P
end
