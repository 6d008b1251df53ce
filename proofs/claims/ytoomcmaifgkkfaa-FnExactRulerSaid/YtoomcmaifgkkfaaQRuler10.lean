import Derived.Test.YtoomcmaifgkkfaaQRuler1
import Derived.Test.YtoomcmaifgkkfaaQRuler6
import Derived.Test.YtoomcmaifgkkfaaQRuler9
import Derived.Test.YtoomcmaifgkkfaaQRuler5
import Derived.Shelf.Abstract
import Derived.Outline
import Derived.RegionTactic
import Derived.Test.YtoomcmaifgkkfaaQRuler2
import Derived.Test.YtoomcmaifgkkfaaQRuler4
import Derived.Test.YtoomcmaifgkkfaaQRuler3
set_option maxHeartbeats 8000000
set_option maxRecDepth 100000
section
namespace Go.Proofs.Ytoomcmaifgkkfaa.P
open Go.RowKit Go.Proofs.Ia.Pb Go.Proofs.Ia.Ld Go.Proofs.Ia.De
set_option linter.unusedVariables false
set_option linter.unusedSimpArgs false
attribute [local go_sem] Bi zi Fj Ej mh jh Ai si
mutual
noncomputable def ld.l0:Nat→List Int→List (List Int)→List (List Int)→Int→Int→Option (List Int)
 | 0,_,_,_,_,_=>none
 | k + 1,x3,x4,US,MZ,bO=>if bO < MZ then (if 0 ≤ bO then (if bO < (US.length:Int) then (ld.l1 k x3 x4 bO (Vb US bO) (-1) US MZ bO (Vb US bO) ((Vb US bO).length:Int) 0) else (none)) else (none)) else (some x3)
noncomputable def ld.l1:Nat→List Int→List (List Int)→Int→List Int→Int→List (List Int)→Int→Int→List Int→Int→Int→Option (List Int)
 | 0,_,_,_,_,_,_,_,_,_,_,_=>none
 | k + 1,x3,x4,x5,x6,x7,US,MZ,bO,kT,x24,yP=>if yP < x24 then (if 0 ≤ yP then (if yP < (kT.length:Int) then (if (rd kT yP)=x5 then (ld.l1 k x3 x4 x5 x6 x7 US MZ bO kT x24 (wrap64 (yP + 1))) else (if 0 ≤ (rd kT yP) then (if (rd kT yP) < (x4.length:Int) then (if ((Vb x4 (rd kT yP)).length:Int)=(wrap64 ((x6.length:Int) - 1)) then (ld.l1 k x3 x4 x5 x6 (rd kT yP) US MZ bO kT x24 (wrap64 (yP + 1))) else (ld.l1 k x3 x4 x5 x6 x7 US MZ bO kT x24 (wrap64 (yP + 1)))) else (none)) else (none))) else (none)) else (none)) else (if x3.length < 17592186044416 then (ld.l0 k (x3 ++ [x7]) x4 US MZ (wrap64 (bO + 1))) else (none))
end
noncomputable def ld.f (k:Nat) (Ma:List Int) (La:Int) (Na:Int) (Ka:Int) (Fa:List (jf)):Option (List Int):=(Yb.f k Ma La Na Ka Fa).bind fun t102=>(if t102=true then ((Jg.f Ma La Na Ka Fa).bind fun t106=>(ld.l0 k (([]:List Int)) t106 t106 (t106.length:Int) 0)) else (some ([]:List Int)))
theorem ld.calls (k:Nat) (qb:Option Addr) (mb:Nat) (Ma:List Int) (La:Int) (Na:Int) (Ka:Int) (Lb:Option Addr) (Fb:Nat) (Fa:List (jf)) (r:List Int) (w:World) (Ae:Kd.C (Kd.int .i64) w qb Ma.length Ma) (we:Ma.length ≤ mb) (Uf:Kd.C Gp w Lb Fa.length Fa) (Lf:Fa.length ≤ Fb) (h:ld.f k Ma La Na Ka Fa=some r) :
  Calls Try.prog 34 #[.agg #[.slice qb Ma.length mb,.int .i64 La,.int .i64 Na,.int .i64 Ka,.slice Lb Fa.length Fb]] w fun e w'=>∃ Xn:Value,e = .returned (Xn)∧Kd.R (Kd.int .i64) 3 w' w.heap.size (fun _=>True) Xn r∧Below w.heap.size w w':=by
 have Oz:=Try.underlying45;have Ke:=ga.mk Ae;have Ve:=ga.mk we;clear Ae we;have kg:=ga.mk Uf;have Tg:=ga.mk Lf;clear Uf Lf;have HB:=ga.mk (Below.refl w.heap.size w);have H:((Yb.f k Ma La Na Ka Fa).bind fun t102=>(if t102=true then ((Jg.f Ma La Na Ka Fa).bind fun t106=>(ld.l0 k (([]:List Int)) t106 t106 (t106.length:Int) 0)) else (some ([]:List Int))))=some r:=h;clear h;replace H:=Option.bind_eq_some_iff.mp H;obtain ⟨t102,zC,H⟩:=H;replace H:(if t102=true then ((Jg.f Ma La Na Ka Fa).bind fun t106=>(ld.l0 k (([]:List Int)) t106 t106 (t106.length:Int) 0)) else (some ([]:List Int)))=some r:=H;have A2:=ga.mk zC;clear zC
 by_cases c3:t102=true
 ·subst c3;have H1:((Jg.f Ma La Na Ka Fa).bind fun t106=>(ld.l0 k (([]:List Int)) t106 t106 (t106.length:Int) 0))=some r:=by rw [if_pos rfl] at H;exact H
  clear H;have H:=H1;clear H1;obtain ⟨zg,en⟩:∃ y_:List Int,y_=(([]:List Int)):=⟨_,rfl⟩;replace H:((Jg.f Ma La Na Ka Fa).bind fun t106=>(ld.l0 k zg t106 t106 (t106.length:Int) 0))=some r:=by first|(rw [en];with_reducible exact H)|(have Md:=(Option.bind_some _ _).symm.trans H;rw [en];with_reducible exact Md)|(have Md:=(Option.bind_some _ _).symm.trans H;with_reducible exact Md)|with_reducible exact H|(rw [en];exact H)|exact H
  have GD:=ga.mk en;clear en;replace H:=Option.bind_eq_some_iff.mp H;obtain ⟨t106,lJ,H⟩:=H;replace H:(ld.l0 k zg t106 t106 (t106.length:Int) 0)=some r:=H;have A4:=ga.mk lJ;clear lJ;have H':=ga.mk H;clear H;go_enter Try.func34,Try.ntmps34;go_wp2_with (first|((with_reducible refine Ab (N:=1) rfl ?_);(try (refine Me (by rfl) ?_;dsimp only));refine Kb ?hg (N:=1) ?hd (cs:=#[.slice qb Ma.length mb,.int .i64 La,.int .i64 Na,.int .i64 Ka,.slice Lb Fa.length Fb]) (t:=45) ?hr ?_;(case hd=>rfl);(case hg=>rfl);(case hr=>first|(go_simp;done)|(go_simp;rfl));intro za hg w5 Wb hb;have Eb:=ga.mk (Qa (by repeat (first|(with_reducible first|exact HB.out|apply oa|apply ia|apply qa)|exact HB.out)) hb);have Ib:=ga.mk (Wb);have Sb:=ga.mk ((by rw [hg];exact (Ja (by repeat (first|(with_reducible first|exact HB.out|apply oa|apply ia|apply qa)|exact HB.out))):w.heap.size ≤ za));have yc:=ga.mk ((by rw [hg];exact (Ja (by repeat (first|(with_reducible first|exact HB.out|apply oa|apply ia|apply qa)|exact HB.out))):w.heap.size ≤ za));clear HB;have HB:=Eb;have ta:=Ib;have Be:=Sb;have Sa:=yc;clear Eb Ib Sb yc hb Wb hg;have Zl:w5.cell? ⟨za,0,none⟩=some (.slice qb Ma.length mb):=(ja ta.out 0).trans rfl;have Yl:w5.cell? ⟨za,1,none⟩=some (.int .i64 La):=(ja ta.out 1).trans rfl;have Xl:w5.cell? ⟨za,2,none⟩=some (.int .i64 Na):=(ja ta.out 2).trans rfl;have Wl:w5.cell? ⟨za,3,none⟩=some (.int .i64 Ka):=(ja ta.out 3).trans rfl;have Vl:w5.cell? ⟨za,4,none⟩=some (.slice Lb Fa.length Fb):=(ja ta.out 4).trans rfl;have Ul:=aa ta.out 0;have Tl:=aa ta.out 1;have Sl:=aa ta.out 2;have Rl:=aa ta.out 3;have Ql:=aa ta.out 4)|((with_reducible refine zb (f:=71) rfl ?_);refine Pc (some 11) rfl rfl Try.func71 (by kernel_rfl) rfl #[.agg #[.slice qb Ma.length mb,.int .i64 La,.int .i64 Na,.int .i64 Ka,.slice Lb Fa.length Fb]] rfl (by (try simp only [List.map_toArray,List.map_cons,List.map_nil]);first|done|rfl|(simp only [List.length_drop,List.length_take];rfl)) ?_;(with_reducible refine (Yb.calls k _ _ Ma La Na Ka _ _ Fa true _ ?Fc ?Ec ?Wd ?Vd A2.out).mono ?_);(case Fc=>repeat (first|exact (Kd.Nb Ke.out HB.out)|(with_reducible refine Kd.Ub ?_ _)|(with_reducible refine Kd.Tb ?_ _)|(with_reducible refine Kd.mc ?_)));(case Ec=>exact Ve.out);(case Wd=>repeat (first|exact (Kd.Nb kg.out HB.out)|(with_reducible refine Kd.Ub ?_ _)|(with_reducible refine Kd.Tb ?_ _)|(with_reducible refine Kd.mc ?_)));(case Vd=>exact Tg.out);rintro e w7 ⟨rfl,hb⟩;refine ⟨_,rfl,?_⟩;have Eb:=ga.mk (Wa (g:=za) (o:=.cells #[.slice qb Ma.length mb,.int .i64 La,.int .i64 Na,.int .i64 Ka,.slice Lb Fa.length Fb] 45 (0,0)) (by (with_reducible repeat (first|refine Ca ?_ _|refine Ea ?_|refine Da ?_ _));exact ta.out) hb);have Ib:=ga.mk (Qa (by repeat (first|(with_reducible first|exact HB.out|apply oa|apply ia|apply qa|refine ua ?_ Sa.out)|exact HB.out)) hb);clear ta HB;have ta:=Eb;have HB:=Ib;clear Eb Ib;(try clear hb);(try clear Qj);(try clear hk);(try clear hi))|((with_reducible refine Ab (N:=13) rfl ?_);(try (refine Me (by rfl) ?_;dsimp only));refine Kd.vk (Kd.int .i64) _ 3 ?hg (N:=13) ?hd (xs:=([]:List Int)) (inner:=[]) (ok:=fun _=>True) (Jh:=fun _=>True) ?hr ?hp (fun _ hk=>hk) trivial (Below.refl _ _) (Nat.le_refl _) (by simp) ?_;(case hd=>rfl);(case hg=>rfl);(case hr=>first|(go_simp;done)|(go_simp;rfl));(case hp=>exact (Sd.none _ _));intro Aaw w8 NH hb Ol Re;clear Ol Re;(first|rw [← GD.out] at NH|(simp only [Int.reduceToNat] at NH;rw [← GD.out] at NH));have Eb:=ga.mk (Kd.Fe NH (Ja (by repeat (first|(with_reducible first|exact HB.out|apply oa|apply ia|apply qa|refine ua ?_ Sa.out)|exact HB.out))));have Ib:=ga.mk (Wa (g:=za) (o:=.cells #[.slice qb Ma.length mb,.int .i64 La,.int .i64 Na,.int .i64 Ka,.slice Lb Fa.length Fb] 45 (0,0)) (by (with_reducible repeat (first|refine Ca ?_ _|refine Ea ?_|refine Da ?_ _));exact ta.out) hb);have Sb:=ga.mk (Qa (by repeat (first|(with_reducible first|exact HB.out|apply oa|apply ia|apply qa|refine ua ?_ Sa.out)|exact HB.out)) hb);clear ta HB;have fJ:=Eb;have ta:=Ib;have HB:=Sb;clear Eb Ib Sb hb NH;have Wh:w8.cell? ⟨za,0,none⟩=some (.slice qb Ma.length mb):=(ja ta.out 0).trans rfl;have Vh:w8.cell? ⟨za,1,none⟩=some (.int .i64 La):=(ja ta.out 1).trans rfl;have Uh:w8.cell? ⟨za,2,none⟩=some (.int .i64 Na):=(ja ta.out 2).trans rfl;have Th:w8.cell? ⟨za,3,none⟩=some (.int .i64 Ka):=(ja ta.out 3).trans rfl;have Sh:w8.cell? ⟨za,4,none⟩=some (.slice Lb Fa.length Fb):=(ja ta.out 4).trans rfl;have Rh:=aa ta.out 0;have Qh:=aa ta.out 1;have Ph:=aa ta.out 2;have Oh:=aa ta.out 3;have Nh:=aa ta.out 4)|((with_reducible refine zb (f:=82) rfl ?_);refine Pc (some 15) rfl rfl Try.func82 (by kernel_rfl) rfl #[.agg #[.slice qb Ma.length mb,.int .i64 La,.int .i64 Na,.int .i64 Ka,.slice Lb Fa.length Fb]] rfl (by (try simp only [List.map_toArray,List.map_cons,List.map_nil]);first|done|rfl|(simp only [List.length_drop,List.length_take];rfl)) ?_;(with_reducible refine (Jg.calls _ _ Ma La Na Ka _ _ Fa t106 _ ?Fc ?Ec ?Wd ?Vd A4.out).mono ?_);(case Fc=>repeat (first|exact (Kd.Nb Ke.out HB.out)|(with_reducible refine Kd.Ub ?_ _)|(with_reducible refine Kd.Tb ?_ _)|(with_reducible refine Kd.mc ?_)));(case Ec=>exact Ve.out);(case Wd=>repeat (first|exact (Kd.Nb kg.out HB.out)|(with_reducible refine Kd.Ub ?_ _)|(with_reducible refine Kd.Tb ?_ _)|(with_reducible refine Kd.mc ?_)));(case Vd=>exact Tg.out);rintro e uj ⟨v107,rfl,Ri,hb⟩;refine ⟨_,rfl,?_⟩;have Eb:=ga.mk (Kd.Dd (by (with_reducible repeat (first|apply Kd.Va|apply Kd.Ua|apply Kd.jb));exact fJ.out) hb);have Ib:=ga.mk (Kd.om (Kd.kC Ri (Kd.Km (by (with_reducible repeat (first|apply Kd.Va|apply Kd.Ua|apply Kd.jb));exact fJ.out))) (Ja (by repeat (first|(with_reducible first|exact HB.out|apply oa|apply ia|apply qa|refine ua ?_ Sa.out)|exact HB.out))));have Sb:=ga.mk (Wa (g:=za) (o:=.cells #[.slice qb Ma.length mb,.int .i64 La,.int .i64 Na,.int .i64 Ka,.slice Lb Fa.length Fb] 45 (0,0)) (by (with_reducible repeat (first|refine Ca ?_ _|refine Ea ?_|refine Da ?_ _));exact ta.out) hb);have yc:=ga.mk (Qa (by repeat (first|(with_reducible first|exact HB.out|apply oa|apply ia|apply qa|refine ua ?_ Sa.out)|exact HB.out)) hb);clear fJ ta HB;have fJ:=Eb;have Gk:=Ib;have ta:=Sb;have HB:=yc;clear Eb Ib Sb yc;(try clear hb);(try clear Qj);(try clear hk);(try clear hi);(try clear Ri);obtain ⟨Uae,YW,baq⟩:=Kd.mm Gk.out;subst baq))
  go_loopg [3,18] k (fun kq v3 v18 w'=>∃ (Cc:List Int) (ue:Int),v18 = .int .i64 ue∧ga (ld.l0 kq Cc t106 t106 (t106.length:Int) ue=some r)∧ga (kq ≤ k)∧ga (Kd.R (Kd.int .i64) 3 w' w.heap.size (fun _=>True) v3 Cc)∧ga (Kd.S (Kd.slice 3 (Kd.int .i64)) 22 w' w.heap.size (fun k_=>some k_ ≠ (v3:Value).ownBlock) (.slice Uae t106.length YW) t106)∧ga (Kd.S (Kd.slice 3 (Kd.int .i64)) 22 w' w.heap.size (fun k_=>some k_ ≠ (v3:Value).ownBlock) (.slice Uae t106.length YW) t106)∧ga (w'.heap[za]? = some (.cells #[(.slice qb Ma.length mb),.int .i64 La,.int .i64 Na,.int .i64 Ka,(.slice Lb Fa.length Fb)] 45 (0,0)))∧ga (Below w.heap.size w w'))
  case atStart=>exact ⟨(zg),(0),(by first|rfl|(simp;done)|(simp [*];done)),H',⟨Nat.le_refl _⟩,⟨by (with_reducible repeat (first|apply Kd.Va|apply Kd.Ua|apply Kd.jb));exact fJ.out⟩,⟨by (with_reducible repeat (first|apply Kd.Ic|apply Kd.Gc|apply Kd.yd));exact Kd.Gf Gk.out (fun _ hk=>hk.2)⟩,⟨by (with_reducible repeat (first|apply Kd.Ic|apply Kd.Gc|apply Kd.yd));exact Kd.Gf Gk.out (fun _ hk=>hk.2)⟩,⟨by (with_reducible repeat (first|refine Ca ?_ _|refine Ea ?_|refine Da ?_ _));exact ta.out⟩,⟨by repeat (first|(with_reducible first|exact HB.out|apply oa|apply ia|apply qa|refine ua ?_ Sa.out)|exact HB.out)⟩⟩
  case round =>
   clear H'
   try clear p2
   try clear c3
   try clear c7
   try clear c8
   try clear Wh
   try clear Vh
   try clear Uh
   try clear Th
   try clear Sh
   try clear Zl
   try clear Yl
   try clear Xl
   try clear Wl
   try clear Vl
   try clear Rh
   try clear Qh
   try clear Ph
   try clear Oh
   try clear Nh
   try clear Ul
   try clear Tl
   try clear Sl
   try clear Rl
   try clear Ql
   (try clear HA);(try clear uf);(try clear qc);(try clear ec);(try clear wq);(try clear ta);(try clear HB);obtain ⟨Cc,ue,rfl,HA,uf,qc,ec,wq,ta,HB⟩:=hrel;cases gk with
   | zero=>exact absurd HA.out (by simp [ld.l0])
   | succ k1 =>
    have H:=HA.out;clear HA;simp only [ld.l0] at H
    by_cases Yt:ue < (t106.length:Int)
    ·rw [if_pos Yt] at H;have Kv:decide (ue < (t106.length:Int))=true:=decide_eq_true Yt;clear Yt
     by_cases Bs:0 ≤ ue
     ·rw [if_pos Bs] at H;have Jv:decide (0 ≤ ue)=true:=decide_eq_true Bs;clear Bs
      by_cases Qz:ue < (t106.length:Int)
      ·rw [if_pos Qz] at H;have yD:decide (ue < (t106.length:Int))=true:=decide_eq_true Qz;clear Qz;have H':=ga.mk H;clear H;have yj:0 ≤ (ue:Int):=of_decide_eq_true (by first|(with_reducible assumption)|assumption);have wj:ue < (t106.length:Int):=of_decide_eq_true (by first|(with_reducible assumption)|assumption);obtain ⟨Gg,cu,mw,iw,Lg,Og,Pg⟩:=xk (Kd.od wq.out).2.2 ue yj wj;cases iw;obtain ⟨BN,Ur,Wr,dm⟩:=Kd.Cm wq.out [] ue yj (by first|exact wj|exact of_decide_eq_true (by first|(with_reducible assumption)|assumption)|(have e_:=(Kd.od wq.out).1;omega));obtain ⟨Tz,rfl,Dh⟩:=Wr;have Rf:=dm 0 _ rfl;rw [Nat.add_zero,show ((Kd.slice 3 (Kd.int .i64))).sz=1 from rfl,Nat.mul_one] at Rf;replace Rf:=Option.some.inj (Rf.symm.trans Lg);rw [Rf] at Dh;have bB:=ga.mk (show Kd.R (Kd.int .i64) 3 _ _ _ _ (Vb t106 ue) from Dh);clear Rf Dh dm Ur;have cg:=ga.mk Pg;have Ls:=ga.mk Og;clear Pg Og;replace yj:=eq_true yj;replace wj:=eq_true wj;go_wp2
       go_loopg [7,25] k1 (fun kq v7 v25 w'=>∃ (Jc:Int) (dg:Int),v7 = .int .i64 Jc∧v25 = .int .i64 dg∧ga (ld.l1 kq Cc t106 ue (Vb t106 ue) Jc t106 (t106.length:Int) ue (Vb t106 ue) ((Vb t106 ue).length:Int) dg=some r)∧ga (kq ≤ k1)∧ga (Kd.R (Kd.int .i64) 3 w' w.heap.size (fun _=>True) u3 Cc)∧ga (Kd.S (Kd.slice 3 (Kd.int .i64)) 22 w' w.heap.size (fun k_=>some k_ ≠ (u3:Value).ownBlock) (.slice (some Gg) t106.length YW) t106)∧ga (Kd.S (Kd.slice 3 (Kd.int .i64)) 22 w' w.heap.size (fun k_=>some k_ ≠ (u3:Value).ownBlock) (.slice (some Gg) t106.length YW) t106)∧ga (w'.heap[za]? = some (.cells #[(.slice qb Ma.length mb),.int .i64 La,.int .i64 Na,.int .i64 Ka,(.slice Lb Fa.length Fb)] 45 (0,0)))∧ga (Kd.C (Kd.int .i64) w' cu (Vb t106 ue).length (Vb t106 ue))∧ga (Below w.heap.size w w'))
       case atStart=>exact ⟨((-1)),(0),(by first|rfl|(simp;done)|(simp [*];done)),(by first|rfl|(simp;done)|(simp [*];done)),H',⟨Nat.le_refl _⟩,⟨by (with_reducible repeat (first|apply Kd.Va|apply Kd.Ua|apply Kd.jb));exact qc.out⟩,⟨by (with_reducible repeat (first|apply Kd.Ic|apply Kd.Gc|apply Kd.yd));exact ec.out⟩,⟨by (with_reducible repeat (first|apply Kd.Ic|apply Kd.Gc|apply Kd.yd));exact wq.out⟩,⟨by (with_reducible repeat (first|refine Ca ?_ _|refine Ea ?_|refine Da ?_ _));exact ta.out⟩,⟨by repeat (first|(with_reducible exact cg.out)|(with_reducible refine Kd.Ub ?_ _)|(with_reducible refine Kd.Tb ?_ _)|(with_reducible refine Kd.mc ?_)|exact cg.out)⟩,⟨by repeat (first|(with_reducible first|exact HB.out|apply oa|apply ia|apply qa|refine ua ?_ Sa.out)|exact HB.out)⟩⟩
       case round =>
        clear H'
        try clear c1
        try clear p1
        try clear q1
        try clear hx1
        try clear p2
        try clear c3
        try clear c7
        try clear c8
        try clear cT
        try clear GC
        try clear EC
        try clear LO
        try clear Yt
        try clear Kv
        try clear Bs
        try clear Jv
        try clear Qz
        try clear yD
        try clear Wh
        try clear Vh
        try clear Uh
        try clear Th
        try clear Sh
        try clear Zl
        try clear Yl
        try clear Xl
        try clear Wl
        try clear Vl
        try clear Rh
        try clear Qh
        try clear Ph
        try clear Oh
        try clear Nh
        try clear Ul
        try clear Tl
        try clear Sl
        try clear Rl
        try clear Ql
        try clear Lg
        try clear yj
        try clear p2
        try clear wj
        (try clear HA);(try clear Pj);(try clear qc);(try clear ec);(try clear wq);(try clear ta);(try clear cg);(try clear HB);obtain ⟨Jc,dg,rfl,rfl,HA,Pj,qc,ec,wq,ta,cg,HB⟩:=hrel;cases gk with
        | zero=>exact absurd HA.out (by simp [ld.l1])
        | succ k2 =>
         have H:=HA.out;clear HA;simp only [ld.l1] at H
         by_cases jt:dg < ((Vb t106 ue).length:Int)
         ·rw [if_pos jt] at H;have cC:decide (dg < ((Vb t106 ue).length:Int))=true:=decide_eq_true jt;clear jt
          by_cases Xu:0 ≤ dg
          ·rw [if_pos Xu] at H;have Xt:decide (0 ≤ dg)=true:=decide_eq_true Xu;clear Xu
           by_cases Bp:dg < ((Vb t106 ue).length:Int)
           ·rw [if_pos Bp] at H;have vn:decide (dg < ((Vb t106 ue).length:Int))=true:=decide_eq_true Bp;clear Bp
            by_cases xp:(rd (Vb t106 ue) dg)=ue
            ·rw [if_pos xp] at H;have Iv:((rd (Vb t106 ue) dg) == ue)=true:=beq_iff_eq.mpr xp;have xD:((rd (Vb t106 ue) dg) != ue)=false:=bne_eq_false_iff_eq.mpr xp;clear xp;have H':=ga.mk H;clear H;have Uj:0 ≤ (dg:Int):=of_decide_eq_true (by first|(with_reducible assumption)|assumption);have Tj:dg < ((Vb t106 ue).length:Int):=of_decide_eq_true (by first|(with_reducible assumption)|assumption);obtain ⟨Mv,Vt,Rg⟩:=Kd.Te cg.out dg Uj Tj;cases Vt
             try replace Rg:=Ra HB.out Rg
             replace Uj:=eq_true Uj;replace Tj:=eq_true Tj;go_wp2
             go_roundg k2
             case measure=>have:=uf.out;have:=Pj.out;omega
             case rel=>exact ⟨(Jc),(wrap64 (dg + 1)),(by first|rfl|(simp;done)|(simp [*];done)),(by first|rfl|(simp;done)|(simp [*];done)),H',⟨by have:=uf.out;have:=Pj.out;omega⟩,⟨by (with_reducible repeat (first|apply Kd.Va|apply Kd.Ua|apply Kd.jb));exact qc.out⟩,⟨by (with_reducible repeat (first|apply Kd.Ic|apply Kd.Gc|apply Kd.yd));exact ec.out⟩,⟨by (with_reducible repeat (first|apply Kd.Ic|apply Kd.Gc|apply Kd.yd));exact wq.out⟩,⟨by (with_reducible repeat (first|refine Ca ?_ _|refine Ea ?_|refine Da ?_ _));exact ta.out⟩,⟨by repeat (first|(with_reducible exact cg.out)|(with_reducible refine Kd.Ub ?_ _)|(with_reducible refine Kd.Tb ?_ _)|(with_reducible refine Kd.mc ?_)|exact cg.out)⟩,⟨by repeat (first|(with_reducible first|exact HB.out|apply oa|apply ia|apply qa|refine ua ?_ Sa.out)|exact HB.out)⟩⟩
            ·rw [if_neg xp] at H;have Iv:((rd (Vb t106 ue) dg) == ue)=false:=beq_eq_false_iff_ne.mpr xp;have xD:((rd (Vb t106 ue) dg) != ue)=true:=bne_iff_ne.mpr xp
             by_cases Jq:0 ≤ (rd (Vb t106 ue) dg)
             ·rw [if_pos Jq] at H;have wD:decide (0 ≤ (rd (Vb t106 ue) dg))=true:=decide_eq_true Jq;clear Jq
              by_cases qt:(rd (Vb t106 ue) dg) < (t106.length:Int)
              ·rw [if_pos qt] at H;have vD:decide ((rd (Vb t106 ue) dg) < (t106.length:Int))=true:=decide_eq_true qt;clear qt
               by_cases Fz:((Vb t106 (rd (Vb t106 ue) dg)).length:Int)=(wrap64 (((Vb t106 ue).length:Int) - 1))
               ·rw [if_pos Fz] at H;have MI:(((Vb t106 (rd (Vb t106 ue) dg)).length:Int) == (wrap64 (((Vb t106 ue).length:Int) - 1)))=true:=beq_iff_eq.mpr Fz;have Vac:(((Vb t106 (rd (Vb t106 ue) dg)).length:Int) != (wrap64 (((Vb t106 ue).length:Int) - 1)))=false:=bne_eq_false_iff_eq.mpr Fz;clear Fz;have H':=ga.mk H;clear H;have Uj:0 ≤ (dg:Int):=of_decide_eq_true (by first|(with_reducible assumption)|assumption);have Tj:dg < ((Vb t106 ue).length:Int):=of_decide_eq_true (by first|(with_reducible assumption)|assumption);obtain ⟨Mv,Vt,Rg⟩:=Kd.Te cg.out dg Uj Tj;cases Vt
                try replace Rg:=Ra HB.out Rg
                replace Uj:=eq_true Uj;replace Tj:=eq_true Tj;have Gm:0 ≤ ((rd (Vb t106 ue) dg):Int):=of_decide_eq_true (by first|(with_reducible assumption)|assumption);have Fm:(rd (Vb t106 ue) dg) < (t106.length:Int):=of_decide_eq_true (by first|(with_reducible assumption)|assumption);obtain ⟨sq,iL,IK,VB,oo,Jl,Ml⟩:=xk (Kd.od ec.out).2.2 (rd (Vb t106 ue) dg) Gm Fm;obtain rfl:Gg=sq:=(by injection VB);obtain ⟨WR,bw,dw,Yo⟩:=Kd.Cm ec.out [] (rd (Vb t106 ue) dg) Gm (by first|exact Fm|exact of_decide_eq_true (by first|(with_reducible assumption)|assumption)|(have e_:=(Kd.od ec.out).1;omega));obtain ⟨QD,rfl,cj⟩:=dw;have Ng:=Yo 0 _ rfl;rw [Nat.add_zero,show ((Kd.slice 3 (Kd.int .i64))).sz=1 from rfl,Nat.mul_one] at Ng;replace Ng:=Option.some.inj (Ng.symm.trans oo);rw [Ng] at cj;have VG:=ga.mk (show Kd.R (Kd.int .i64) 3 _ _ _ _ (Vb t106 (rd (Vb t106 ue) dg)) from cj);clear Ng cj Yo bw;have RG:=ga.mk Ml;have XG:=ga.mk Jl;clear Ml Jl;replace Gm:=eq_true Gm;replace Fm:=eq_true Fm;go_wp2
                go_roundg k2
                case measure=>have:=uf.out;have:=Pj.out;omega
                case rel=>exact ⟨(rd (Vb t106 ue) dg),(wrap64 (dg + 1)),(by first|rfl|(simp;done)|(simp [*];done)),(by first|rfl|(simp;done)|(simp [*];done)),H',⟨by have:=uf.out;have:=Pj.out;omega⟩,⟨by (with_reducible repeat (first|apply Kd.Va|apply Kd.Ua|apply Kd.jb));exact qc.out⟩,⟨by (with_reducible repeat (first|apply Kd.Ic|apply Kd.Gc|apply Kd.yd));exact ec.out⟩,⟨by (with_reducible repeat (first|apply Kd.Ic|apply Kd.Gc|apply Kd.yd));exact wq.out⟩,⟨by (with_reducible repeat (first|refine Ca ?_ _|refine Ea ?_|refine Da ?_ _));exact ta.out⟩,⟨by repeat (first|(with_reducible exact cg.out)|(with_reducible refine Kd.Ub ?_ _)|(with_reducible refine Kd.Tb ?_ _)|(with_reducible refine Kd.mc ?_)|exact cg.out)⟩,⟨by repeat (first|(with_reducible first|exact HB.out|apply oa|apply ia|apply qa|refine ua ?_ Sa.out)|exact HB.out)⟩⟩
               ·rw [if_neg Fz] at H;have MI:(((Vb t106 (rd (Vb t106 ue) dg)).length:Int) == (wrap64 (((Vb t106 ue).length:Int) - 1)))=false:=beq_eq_false_iff_ne.mpr Fz;have Vac:(((Vb t106 (rd (Vb t106 ue) dg)).length:Int) != (wrap64 (((Vb t106 ue).length:Int) - 1)))=true:=bne_iff_ne.mpr Fz;have H':=ga.mk H;clear H;have Uj:0 ≤ (dg:Int):=of_decide_eq_true (by first|(with_reducible assumption)|assumption);have Tj:dg < ((Vb t106 ue).length:Int):=of_decide_eq_true (by first|(with_reducible assumption)|assumption);obtain ⟨Mv,Vt,Rg⟩:=Kd.Te cg.out dg Uj Tj;cases Vt
                try replace Rg:=Ra HB.out Rg
                replace Uj:=eq_true Uj;replace Tj:=eq_true Tj;have Gm:0 ≤ ((rd (Vb t106 ue) dg):Int):=of_decide_eq_true (by first|(with_reducible assumption)|assumption);have Fm:(rd (Vb t106 ue) dg) < (t106.length:Int):=of_decide_eq_true (by first|(with_reducible assumption)|assumption);obtain ⟨sq,iL,IK,VB,oo,Jl,Ml⟩:=xk (Kd.od ec.out).2.2 (rd (Vb t106 ue) dg) Gm Fm;obtain rfl:Gg=sq:=(by injection VB);obtain ⟨WR,bw,dw,Yo⟩:=Kd.Cm ec.out [] (rd (Vb t106 ue) dg) Gm (by first|exact Fm|exact of_decide_eq_true (by first|(with_reducible assumption)|assumption)|(have e_:=(Kd.od ec.out).1;omega));obtain ⟨QD,rfl,cj⟩:=dw;have Ng:=Yo 0 _ rfl;rw [Nat.add_zero,show ((Kd.slice 3 (Kd.int .i64))).sz=1 from rfl,Nat.mul_one] at Ng;replace Ng:=Option.some.inj (Ng.symm.trans oo);rw [Ng] at cj;have VG:=ga.mk (show Kd.R (Kd.int .i64) 3 _ _ _ _ (Vb t106 (rd (Vb t106 ue) dg)) from cj);clear Ng cj Yo bw;have RG:=ga.mk Ml;have XG:=ga.mk Jl;clear Ml Jl;replace Gm:=eq_true Gm;replace Fm:=eq_true Fm;go_wp2
                go_roundg k2
                case measure=>have:=uf.out;have:=Pj.out;omega
                case rel=>exact ⟨(Jc),(wrap64 (dg + 1)),(by first|rfl|(simp;done)|(simp [*];done)),(by first|rfl|(simp;done)|(simp [*];done)),H',⟨by have:=uf.out;have:=Pj.out;omega⟩,⟨by (with_reducible repeat (first|apply Kd.Va|apply Kd.Ua|apply Kd.jb));exact qc.out⟩,⟨by (with_reducible repeat (first|apply Kd.Ic|apply Kd.Gc|apply Kd.yd));exact ec.out⟩,⟨by (with_reducible repeat (first|apply Kd.Ic|apply Kd.Gc|apply Kd.yd));exact wq.out⟩,⟨by (with_reducible repeat (first|refine Ca ?_ _|refine Ea ?_|refine Da ?_ _));exact ta.out⟩,⟨by repeat (first|(with_reducible exact cg.out)|(with_reducible refine Kd.Ub ?_ _)|(with_reducible refine Kd.Tb ?_ _)|(with_reducible refine Kd.mc ?_)|exact cg.out)⟩,⟨by repeat (first|(with_reducible first|exact HB.out|apply oa|apply ia|apply qa|refine ua ?_ Sa.out)|exact HB.out)⟩⟩
              ·rw [if_neg qt] at H;exact absurd H (by simp)
             ·rw [if_neg Jq] at H;exact absurd H (by simp)
           ·rw [if_neg Bp] at H;exact absurd H (by simp)
          ·rw [if_neg Xu] at H;exact absurd H (by simp)
         ·rw [if_neg jt] at H;have cC:decide (dg < ((Vb t106 ue).length:Int))=false:=decide_eq_false jt;clear jt
          by_cases Hv:Cc.length < 17592186044416
          ·rw [if_pos Hv] at H;have Mad:=ga.mk Hv;clear Hv;obtain ⟨ei,Xj⟩:∃ y_:List Int,y_=(Cc ++ [Jc]):=⟨_,rfl⟩;replace H:(ld.l0 k2 ei t106 t106 (t106.length:Int) (wrap64 (ue + 1)))=some r:=by first|(rw [Xj];with_reducible exact H)|(have Md:=(Option.bind_some _ _).symm.trans H;rw [Xj];with_reducible exact Md)|(have Md:=(Option.bind_some _ _).symm.trans H;with_reducible exact Md)|with_reducible exact H|(rw [Xj];exact H)|exact H
           have Ov:=ga.mk Xj;clear Xj;have H':=ga.mk H;clear H;go_wp2_with (first|((with_reducible refine lg (b:=.append) (xs:=#[.tmp 45,.tmp 47]) rfl ?_);(try (refine Me (by rfl) ?_;dsimp only));at_builtin;refine Kd.um (Kd.int .i64) (w0:=w) w.heap.size rfl (.tmp 45) (.tmp 47) 22 3 (.int .i64 0) 8 rfl Try.underlying22 info3 rfl (by decide) (by omega) u3 Cc Jc [.int .i64 Jc] (fun _=>True) (fun _=>False) rfl rfl ?aP (fun _ hk=>hk.elim) ?aF ?aO ?aB ?aS ?aL ?_;(case aP=>exact rfl);(case aB=>exact (by repeat (first|(with_reducible first|exact HB.out|apply oa|apply ia|apply qa|refine ua ?_ Sa.out)|exact HB.out)));(case aF=>exact (fun _ _=>trivial));(case aO=>exact (by (with_reducible repeat (first|apply Kd.Va|apply Kd.Ua|apply Kd.jb));exact qc.out));(case aS=>exact (Ja (by repeat (first|(with_reducible first|exact HB.out|apply oa|apply ia|apply qa|refine ua ?_ Sa.out)|exact HB.out))));(case aL=>have:=Mad.out;omega);intro xaw AP ho hb hg hat;rw [← Ov.out] at ho;have Eb:=ga.mk (Kd.Oo (ok:=(fun _=>True)) (by (with_reducible repeat (first|apply Kd.Ic|apply Kd.Gc|apply Kd.yd));exact Kd.Gf ec.out (fun _ hk=>⟨trivial,hk⟩)) hg hat);have Ib:=ga.mk (Kd.Oo (ok:=(fun _=>True)) (by (with_reducible repeat (first|apply Kd.Ic|apply Kd.Gc|apply Kd.yd));exact Kd.Gf wq.out (fun _ hk=>⟨trivial,hk⟩)) hg hat);have Sb:=ga.mk (Kf (g:=za) (o:=.cells #[.slice qb Ma.length mb,.int .i64 La,.int .i64 Na,.int .i64 Ka,.slice Lb Fa.length Fb] 45 (0,0)) (by (with_reducible repeat (first|refine Ca ?_ _|refine Ea ?_|refine Da ?_ _));exact ta.out) hg (Kd.Rq qc.out ta.out (by decide)));have yc:=ga.mk (hb);have Ee:=ga.mk (ho);clear ec wq ta HB qc;have ec:=Eb;have wq:=Ib;have ta:=Sb;have HB:=yc;have wk:=Ee;clear Eb Ib Sb yc Ee ho hb hg hat))
           go_roundg k2
           case measure=>have:=uf.out;have:=Pj.out;omega
           case rel=>exact ⟨(ei),(wrap64 (ue + 1)),(by first|rfl|(simp;done)|(simp [*];done)),H',⟨by have:=uf.out;have:=Pj.out;omega⟩,⟨by (with_reducible repeat (first|apply Kd.Va|apply Kd.Ua|apply Kd.jb));exact wk.out⟩,⟨by (with_reducible repeat (first|apply Kd.Ic|apply Kd.Gc|apply Kd.yd));exact Kd.Gf ec.out (fun _ hk=>hk.2)⟩,⟨by (with_reducible repeat (first|apply Kd.Ic|apply Kd.Gc|apply Kd.yd));exact Kd.Gf wq.out (fun _ hk=>hk.2)⟩,⟨by (with_reducible repeat (first|refine Ca ?_ _|refine Ea ?_|refine Da ?_ _));exact ta.out⟩,⟨by repeat (first|(with_reducible first|exact HB.out|apply oa|apply ia|apply qa|refine ua ?_ Sa.out)|exact HB.out)⟩⟩
          ·rw [if_neg Hv] at H;exact absurd H (by simp)
      ·rw [if_neg Qz] at H;exact absurd H (by simp)
     ·rw [if_neg Bs] at H;exact absurd H (by simp)
    ·rw [if_neg Yt] at H;have Kv:decide (ue < (t106.length:Int))=false:=decide_eq_false Yt;clear Yt;obtain rfl:=Option.some.inj H;go_wp2;go_ret;exact ⟨_,by first|rfl|(simp [Pa,Oa] <;> rfl)|(simp [*,Pa,Oa] <;> rfl),by (with_reducible repeat (first|apply Kd.Va|apply Kd.Ua|apply Kd.jb));exact qc.out,by repeat (first|(with_reducible first|exact HB.out|apply oa|apply ia|apply qa|refine ua ?_ Sa.out)|exact HB.out)⟩
 ·replace c3:=Bool.eq_false_iff.mpr c3;subst c3;have H1:(some ([]:List Int))=some r:=by rw [if_neg (show ¬ (false=true) by decide)] at H;exact H
  clear H;have H:=H1;clear H1;obtain rfl:=Option.some.inj H;go_enter Try.func34,Try.ntmps34;go_wp2_with (first|((with_reducible refine Ab (N:=1) rfl ?_);(try (refine Me (by rfl) ?_;dsimp only));refine Kb ?hg (N:=1) ?hd (cs:=#[.slice qb Ma.length mb,.int .i64 La,.int .i64 Na,.int .i64 Ka,.slice Lb Fa.length Fb]) (t:=45) ?hr ?_;(case hd=>rfl);(case hg=>rfl);(case hr=>first|(go_simp;done)|(go_simp;rfl));intro za hg cO Wb hb;have Eb:=ga.mk (Qa (by repeat (first|(with_reducible first|exact HB.out|apply oa|apply ia|apply qa)|exact HB.out)) hb);have Ib:=ga.mk (Wb);have Sb:=ga.mk ((by rw [hg];exact (Ja (by repeat (first|(with_reducible first|exact HB.out|apply oa|apply ia|apply qa)|exact HB.out))):w.heap.size ≤ za));have yc:=ga.mk ((by rw [hg];exact (Ja (by repeat (first|(with_reducible first|exact HB.out|apply oa|apply ia|apply qa)|exact HB.out))):w.heap.size ≤ za));clear HB;have HB:=Eb;have ta:=Ib;have Be:=Sb;have Sa:=yc;clear Eb Ib Sb yc hb Wb hg;have Lu:cO.cell? ⟨za,0,none⟩=some (.slice qb Ma.length mb):=(ja ta.out 0).trans rfl;have Ku:cO.cell? ⟨za,1,none⟩=some (.int .i64 La):=(ja ta.out 1).trans rfl;have Ju:cO.cell? ⟨za,2,none⟩=some (.int .i64 Na):=(ja ta.out 2).trans rfl;have Iu:cO.cell? ⟨za,3,none⟩=some (.int .i64 Ka):=(ja ta.out 3).trans rfl;have Hu:cO.cell? ⟨za,4,none⟩=some (.slice Lb Fa.length Fb):=(ja ta.out 4).trans rfl;have wu:=aa ta.out 0;have vu:=aa ta.out 1;have uu:=aa ta.out 2;have tu:=aa ta.out 3;have su:=aa ta.out 4)|((with_reducible refine zb (f:=71) rfl ?_);refine Pc (some 11) rfl rfl Try.func71 (by kernel_rfl) rfl #[.agg #[.slice qb Ma.length mb,.int .i64 La,.int .i64 Na,.int .i64 Ka,.slice Lb Fa.length Fb]] rfl (by (try simp only [List.map_toArray,List.map_cons,List.map_nil]);first|done|rfl|(simp only [List.length_drop,List.length_take];rfl)) ?_;(with_reducible refine (Yb.calls k _ _ Ma La Na Ka _ _ Fa false _ ?Fc ?Ec ?Wd ?Vd A2.out).mono ?_);(case Fc=>repeat (first|exact (Kd.Nb Ke.out HB.out)|(with_reducible refine Kd.Ub ?_ _)|(with_reducible refine Kd.Tb ?_ _)|(with_reducible refine Kd.mc ?_)));(case Ec=>exact Ve.out);(case Wd=>repeat (first|exact (Kd.Nb kg.out HB.out)|(with_reducible refine Kd.Ub ?_ _)|(with_reducible refine Kd.Tb ?_ _)|(with_reducible refine Kd.mc ?_)));(case Vd=>exact Tg.out);rintro e w27 ⟨rfl,hb⟩;refine ⟨_,rfl,?_⟩;have Eb:=ga.mk (Wa (g:=za) (o:=.cells #[.slice qb Ma.length mb,.int .i64 La,.int .i64 Na,.int .i64 Ka,.slice Lb Fa.length Fb] 45 (0,0)) (by (with_reducible repeat (first|refine Ca ?_ _|refine Ea ?_|refine Da ?_ _));exact ta.out) hb);have Ib:=ga.mk (Qa (by repeat (first|(with_reducible first|exact HB.out|apply oa|apply ia|apply qa|refine ua ?_ Sa.out)|exact HB.out)) hb);clear ta HB;have ta:=Eb;have HB:=Ib;clear Eb Ib;(try clear hb);(try clear Qj);(try clear hk);(try clear hi)));go_ret;exact ⟨_,by first|rfl|(simp [Pa,Oa] <;> rfl)|(simp [*,Pa,Oa] <;> rfl),by first|exact Kd.Hz _ _ _ _ _|exact Kd.cZ _ _ _ _ _|exact Kd.RY _ _ _ _ _|exact Kd.XY _ _ _ _ _|exact Kd.UY _ _ _ _ _,by repeat (first|(with_reducible first|exact HB.out|apply oa|apply ia|apply qa|refine ua ?_ Sa.out)|exact HB.out)⟩
section
variable {l0:List Int} {p v s:Int} {l4:List jf}
theorem WW (l:List jf) (b:jf) (hb:b ∈ l):b.f0.length ≤ ee l:=by
 unfold ee;exact wB (List.mem_map.mpr ⟨b,hb,rfl⟩)
end
end Go.Proofs.Ytoomcmaifgkkfaa.P
end
section
namespace Go.Proofs.Ytoomcmaifgkkfaa.P
open Go.RowKit Go.Proofs.Ia.Pb Go.Proofs.Ia.Ld Go.Proofs.Ia.De
set_option linter.unusedVariables false
set_option linter.unusedSimpArgs false
attribute [local go_sem] Bi zi Fj Ej mh jh Ai si
def Hi:List Bool→Nat→List Int
 | [],_=>[]
 | b :: s,i=>if b=true then (i:Int) :: Hi s (i + 1) else Hi s (i + 1)
theorem Zq:∀ (s:List Bool) (i:Nat),(Hi s i).length ≤ s.length
 | [],_=>Nat.le_refl _
 | b :: s,i=>by
  have:=Zq s (i + 1);unfold Hi
  by_cases h:b=true
  ·rw [if_pos h];simp;omega
  ·rw [if_neg h];simp;omega
theorem bD:∀ (s t:List Bool) (i:Nat),Hi (s ++ t) i=Hi s i ++ Hi t (i + s.length)
 | [],t,i=>by simp [Hi]
 | b :: s,t,i=>by
  have:=bD s t (i + 1);simp only [List.cons_append,Hi,this,List.length_cons];rw [show i + 1 + s.length=i + (s.length + 1) from by omega]
  by_cases h:b=true
  ·rw [if_pos h,if_pos h];rfl
  ·rw [if_neg h,if_neg h]
theorem kB (s:List Bool) (i:Nat) (hi:i < s.length):Hi (s.take (i + 1)) 0=if s[i]=true then Hi (s.take i) 0 ++ [(i:Int)] else Hi (s.take i) 0:=by
 rw [List.take_succ_eq_append_getElem hi,bD,List.length_take,Nat.min_eq_left (by omega),Nat.zero_add];unfold Hi Hi
 by_cases h:s[i]=true
 ·rw [if_pos h,if_pos h]
 ·rw [if_neg h,if_neg h,List.append_nil]
def gw (s:List Bool):List Int:=s.map fun b=>if b=true then 1 else 0
theorem Ut (s:List Bool):(gw s).length=s.length:=by simp [gw]
theorem yN (s:List Bool) {j:Int} (h0:0 ≤ j) (h1:j < (s.length:Int)):rd (gw s) j=if seen s j.toNat=true then 1 else 0:=by
 have hl:j.toNat < s.length:=by omega
 simp [rd,gw,seen,List.getD_eq_getElem?_getD,hl]
theorem yI (s:List Bool) (i:Nat):(gw s).set i 1=gw (s.set i true):=by
 unfold gw;rw [List.map_set]
 rfl
theorem GR (n:Nat) (hn:n ≤ 1048576):Ev (fun k=>Ed.f k (n:Int)) (List.replicate n 0):=by
 unfold Ed.f;have key:=Qg (r:=List.replicate n (0:Int)) (n:=n) (fun i=>Ev (fun k=>Ed.l0 k (n:Int) (List.replicate i 0) (i:Int)) (List.replicate n 0)) ?_ ?_ 0 (by omega)
 ·exact key
 ·refine Ev.step (fun k=>by rw [Ed.l0]) ?_;exact Ev.neg (by omega) (Ev.now _)
 ·intro i hi h;refine Ev.step (fun k=>by rw [Ed.l0]) ?_;refine Ev.pos (by omega) (Ev.pos (by rw [List.length_replicate];omega) ?_);rw [xe hi (by omega),← List.replicate_succ'];exact h
section
variable {l0:List Int} {p v s:Int} {bs:List jf}
theorem yG {ys acc:List Int} {r:List Int} {n:Nat} (hn:n ≤ 1048576) (hy:ys.length ≤ 2) :
  ∀ (d i:Nat) (sn:List Bool) (q:List Int),i + d=ys.length→sn.length=n→q.length + d ≤ 4 * n + 8→(∀ j ∈ ys,0 ≤ j∧j < n) →
  Ev (fun k=>Mb.l0 k acc (gw ((ys.drop i).foldl Qf (sn,q)).1) ((ys.drop i).foldl Qf (sn,q)).2 l0 p v s bs) r→Ev (fun k=>Mb.l1 k acc (gw sn) q ys (i:Int) l0 p v s bs) r:=by
 intro d
 induction d with
 | zero =>
  intro i sn q hi hs hq hr he;have e:i=ys.length:=by omega
  subst e;rw [List.drop_length] at he;refine Ev.step (fun k=>by rw [Mb.l1]) ?_;exact Ev.neg (by omega) he
 | succ d ih =>
  intro i sn q hi hs hq hr he;have hi':i < ys.length:=by omega
  obtain ⟨j0,j1⟩:=hr ys[i] (List.getElem_mem hi');have hrd:rd ys (i:Int)=ys[i]:=by rw [TD,List.getD_eq_getElem?_getD,List.getElem?_eq_getElem hi'];rfl
  rw [List.drop_eq_getElem_cons hi',List.foldl_cons] at he;refine Ev.step (fun k=>by rw [Mb.l1]) ?_;refine Ev.pos (by omega) (Ev.pos (by omega) ?_);rw [hrd];refine Ev.pos j0 (Ev.pos (by rw [Ut];omega) ?_);rw [xe hi' (by omega),yN sn j0 (by omega)]
  by_cases hc:seen sn ys[i].toNat=true
  ·rw [if_pos hc];refine Ev.neg (by decide) ?_;have e:Qf (sn,q) ys[i]=(sn,q):=by unfold Qf;rw [if_pos hc]
   rw [e] at he;exact ih (i + 1) sn q (by omega) hs (by omega) hr he
  ·rw [if_neg hc];refine Ev.pos rfl (Ev.pos (by omega) ?_);have e:Qf (sn,q) ys[i]=(sn.set ys[i].toNat true,q ++ [ys[i]]):=by unfold Qf;rw [if_neg hc]
   rw [e] at he;rw [yI];exact ih (i + 1) _ _ (by omega) (by rw [List.length_set];exact hs) (by rw [List.length_append,List.length_singleton];omega) hr he
theorem UB {r:List Int} (hE:Ye bs) (hend:∀ sn:List Bool,sn.length=bs.length→(∀ j,seen sn j=true ↔ Bn (Ii bs) j)→Ev (fun k=>Mb.l2 k [] (gw sn) 0) r) :
  ∀ (m:Nat) (sn:List Bool) (q:List Int),2 * news sn + q.length ≤ m→XC bs.length (Ii bs) sn q→(∀ j,seen sn j=true→(j:Int) ∉ q→∀ m ∈ Ii bs j,seen sn m.toNat=true)→Ev (fun k=>Mb.l0 k [] (gw sn) q l0 p v s bs) r:=by
 have hn:=hE.2.1;intro m
 induction m with
 | zero =>
  intro sn q hm h hs;cases q with
  | cons i q=>rw [List.length_cons] at hm;omega
  | nil =>
   refine Ev.step (fun k=>by rw [Mb.l0]) ?_;exact Ev.neg (by simp) (hend sn h.len (SW h (fun j hj=>hs j hj (by simp))))
 | succ m ih =>
  intro sn q hm h hs;cases q with
  | nil =>
   refine Ev.step (fun k=>by rw [Mb.l0]) ?_;exact Ev.neg (by simp) (hend sn h.len (SW h (fun j hj=>hs j hj (by simp))))
  | cons i q =>
   obtain ⟨h0,h1,h2⟩:=h.JP i (by simp);have hi:i.toNat < bs.length:=by omega
   have hR:=h.qJ _ h2;have hc:=h.cap;rw [List.length_cons] at hc hm;have g:XC bs.length (Ii bs) sn q:=⟨h.len,fun j hj=>h.JP j (by simp [hj]),h.qJ,by omega,h.jT⟩
   have gs:Shut (Ii bs) sn q i.toNat:=by
    intro j hj hq hji;refine hs j hj ?_;intro hmem
    rcases List.mem_cons.mp hmem with e|e
    ·exact hji (by omega)
    ·exact hq e
   obtain ⟨a1,a2,a3,a4,a5⟩:=wH hR (Ii bs i.toNat) sn q g gs (fun j hj=>⟨(hE.2.2 _ hi j hj).1,(hE.2.2 _ hi j hj).2,hj⟩);have hit:((i.toNat:Nat):Int)=i:=Int.toNat_of_nonneg h0;have iY:(Ii bs i.toNat).length ≤ 2:=Rt _;have K7:Wg.f (Ta bs i).f0 (Ta bs i).f1 (Ta bs i).f2 (Ta bs i).f3 (Ta bs i).f4=some (Ii bs i.toNat):=by unfold Ii;rw [hit];exact eD _
   have hrd:rd (i :: q) 0=i:=rfl;refine Ev.step (fun k=>by rw [Mb.l0]) ?_;refine Ev.pos (by rw [List.length_cons];omega) (Ev.pos (by rw [List.length_cons];omega) ?_);rw [hrd];refine Ev.pos h0 (Ev.pos h1 ?_);rw [K7];refine Ev.val (Ev.pos (by rw [List.length_cons];omega) ?_);have hl:=h.len;refine yG (n:=bs.length) hn iY (Ii bs i.toNat).length 0 sn q (by omega) hl (by omega) (hE.2.2 _ hi) ?_;refine ih _ _ (by rw [List.drop_zero];omega) (by rw [List.drop_zero];exact a1) ?_;rw [List.drop_zero];intro j hj hq
   by_cases e:j=i.toNat
   ·intro m hm';rw [e] at hm';exact a3 m hm'
   ·exact a2 j hj hq e
theorem xG (sn:List Bool) (hs:sn.length ≤ 1048576):Ev (fun k=>Mb.l2 k [] (gw sn) 0) (Hi sn 0):=by
 have key:=Qg (r:=Hi sn 0) (n:=sn.length) (fun i=>Ev (fun k=>Mb.l2 k (Hi (sn.take i) 0) (gw sn) (i:Int)) (Hi sn 0)) ?_ ?_ 0 (by omega)
 ·exact key
 ·refine Ev.step (fun k=>by rw [Mb.l2]) ?_;refine Ev.neg (by rw [Ut];omega) ?_;rw [List.take_length];exact Ev.now _
 ·intro i hi h;have ht:=Zq (sn.take i) 0;rw [List.length_take] at ht;refine Ev.step (fun k=>by rw [Mb.l2]) ?_;refine Ev.pos (by rw [Ut];omega) (Ev.pos (by omega) ?_);rw [xe hi (by omega),yN sn (by omega) (by omega),Int.toNat_natCast];have hse:seen sn i=sn[i]:=by simp [seen,List.getD_eq_getElem?_getD,hi]
  rw [hse];rw [kB sn i hi] at h
  by_cases hc:sn[i]=true
  ·rw [if_pos hc] at h ⊢;exact Ev.pos rfl (Ev.pos (by omega) h)
  ·rw [if_neg hc] at h ⊢;exact Ev.neg (by decide) h
theorem eu:∀ (sn:List Bool) (i:Nat) (x:Int),x ∈ Hi sn i ↔ ∃ j:Nat,j < sn.length∧seen sn j=true∧x=((i + j:Nat):Int)
 | [],i,x=>by simp [Hi]
 | b :: sn,i,x=>by
  have ih:=eu sn (i + 1) x;have hs0:seen (b :: sn) 0=b:=rfl;have hs1:∀ j,seen (b :: sn) (j + 1)=seen sn j:=fun j=>rfl
  unfold Hi
  constructor
  ·intro h
   by_cases hb:b=true
   ·rw [if_pos hb] at h
    rcases List.mem_cons.1 h with h|h
    ·exact ⟨0,by simp,by rw [hs0];exact hb,by rw [h];rfl⟩
    ·obtain ⟨j,h1,h2,h3⟩:=ih.1 h;exact ⟨j + 1,by simpa using h1,by rw [hs1];exact h2,by omega⟩
   ·rw [if_neg hb] at h;obtain ⟨j,h1,h2,h3⟩:=ih.1 h;exact ⟨j + 1,by simpa using h1,by rw [hs1];exact h2,by omega⟩
  ·rintro ⟨j,h1,h2,h3⟩
   have hrest:(∃ j',j=j' + 1)→x ∈ Hi sn (i + 1):=by
    rintro ⟨j',rfl⟩;exact ih.2 ⟨j',by simpa using h1,by rw [← hs1];exact h2,by omega⟩
   by_cases hb:b=true
   ·rw [if_pos hb]
    rcases j with _|j
    ·exact List.mem_cons.2 (Or.inl (by omega))
    ·exact List.mem_cons.2 (Or.inr (hrest ⟨j,rfl⟩))
   ·rw [if_neg hb]
    rcases j with _|j
    ·rw [hs0] at h2;exact absurd h2 hb
    ·exact hrest ⟨j,rfl⟩
theorem lB:∀ (sn:List Bool) (i:Nat),(Hi sn i).Pairwise (· < ·)
 | [],i=>by simp [Hi]
 | b :: sn,i=>by
  have ih:=lB sn (i + 1);unfold Hi
  by_cases hb:b=true
  ·rw [if_pos hb,List.pairwise_cons];refine ⟨fun x hx=>?_,ih⟩;obtain ⟨j,_,_,h3⟩:=(eu sn (i + 1) x).1 hx;omega
  ·rw [if_neg hb];exact ih
theorem mH (hE:Ye bs) (sn:List Bool) (hs:sn.length=bs.length) (h:∀ j,seen sn j=true ↔ Bn (Ii bs) j):Hi sn 0=td bs:=by
 refine YD _ _ (lB sn 0) (Mq bs) (fun x=>?_);rw [eu,Fg hE]
 constructor
 ·rintro ⟨j,h1,h2,h3⟩;rw [Nat.zero_add] at h3;subst h3;exact ⟨by omega,(h _).1 (by rw [Int.toNat_natCast];exact h2)⟩
 ·rintro ⟨h0,hr⟩;exact ⟨x.toNat,by rw [hs];exact Kn hE hr,(h _).2 hr,by omega⟩
theorem Xm (n:Nat) (hn:0 < n) (j:Nat):seen ((List.replicate n false).set 0 true) j=decide (j=0):=by
 rw [gj (by simpa using hn),Kq,Bool.or_false]
 by_cases h:j=0
 ·subst h;rfl
 ·rw [decide_eq_false h,decide_eq_false (fun e=>h e.symm)]
theorem AB {n:Nat} {nx:Nat→List Int} (hn:0 < n):XC n nx ((List.replicate n false).set 0 true) [0]:=by
 refine ⟨by simp,fun j hj=>?_,fun j hj=>?_,?_,?_⟩
 ·rw [List.mem_singleton] at hj;subst hj;exact ⟨by omega,by omega,by rw [Xm n hn];rfl⟩
 ·rw [Xm n hn,decide_eq_true_eq] at hj;subst hj;exact Bn.zero
 ·have:=Ew (s:=List.replicate n false) (i:=0) (by simpa using hn) (Kq _ _);rw [Ry] at this;rw [List.length_singleton];omega
 ·rw [Xm n hn];rfl
theorem wG (h0:l0.length ≤ 1048576) (hl:bs.length ≤ 1048576) (ht:ee bs ≤ 1048576) (hok:jm l0 p v s bs=true):Ev (fun k=>Mb.f k l0 p v s bs) (td bs):=by
 have hE:=Yr hok;unfold Mb.f;refine Ev.val (Ev.bind (ew h0 hl ht) ?_);refine Ev.pos hok (Ev.bind (GR bs.length hl) (Ev.pos (by rw [List.length_replicate];have:=hE.1;omega) ?_))
 have e:(List.replicate bs.length (0:Int)).set (0:Int).toNat 1=gw ((List.replicate bs.length false).set 0 true):=by
  rw [← yI];unfold gw;rw [List.map_replicate]
  rfl
 rw [e];refine UB hE (fun sn hs hr=>?_) _ _ _ (Nat.le_refl _) (AB hE.1) (fun j hj hq=>?_)
 ·rw [← mH hE sn hs hr];exact xG sn (by omega)
 ·rw [Xm _ hE.1,decide_eq_true_eq] at hj;subst hj;exact absurd (by simp) hq
end
end Go.Proofs.Ytoomcmaifgkkfaa.P
end
section
namespace Go.Proofs.Ytoomcmaifgkkfaa.P
open Go.RowKit Go.Proofs.Ia.Pb Go.Proofs.Ia.Ld Go.Proofs.Ia.De
set_option linter.unusedVariables false
set_option linter.unusedSimpArgs false
def S0 (bs:List jf) (a:Int) (i:Nat):List Int:=(Ii bs i).filter fun j=>decide (j ≠ a)
section
variable {l0:List Int} {p v s:Int} {bs:List jf}
theorem wT (hE:Ye bs) {a:Nat} (ha:0 ≠ a) (k:Nat):Bn (S0 bs (a:Int)) k ↔ RA (Ii bs) a k:=by
 constructor
 ·intro h
  induction h with
  | zero=>exact RA.zero ha
  | @step i j hr hj ih =>
   obtain ⟨h1,h2⟩:=List.mem_filter.1 hj;have:=hE.2.2 i (Kn hE ih.qJ) j h1;rw [decide_eq_true_eq] at h2;exact RA.step ih h1 (by omega)
 ·intro h
  induction h with
  | zero _=>exact Bn.zero
  | @step i j hr hj hne ih =>
   have:=hE.2.2 i (Kn hE hr.qJ) j hj;exact Bn.step ih (List.mem_filter.2 ⟨hj,by rw [decide_eq_true_eq];omega⟩)
theorem sG {ys:List Int} {a:Int} {r:List Bool} {n:Nat} (hn:n ≤ 1048576) (hy:ys.length ≤ 2) :
  ∀ (d i:Nat) (sn:List Bool) (q:List Int),i + d=ys.length→sn.length=n→q.length + d ≤ 4 * n + 8→(∀ j ∈ ys,0 ≤ j∧j < n) →
  Ev (fun k=>Gb.l0 k a (((ys.drop i).filter fun j=>decide (j ≠ a)).foldl Qf (sn,q)).1 (((ys.drop i).filter fun j=>decide (j ≠ a)).foldl Qf (sn,q)).2 l0 p v s bs) r→Ev (fun k=>Gb.l1 k a sn q ys (i:Int) l0 p v s bs) r:=by
 intro d
 induction d with
 | zero =>
  intro i sn q hi hs hq hr he;have e:i=ys.length:=by omega
  subst e;rw [List.drop_length,List.filter_nil] at he;refine Ev.step (fun k=>by rw [Gb.l1]) ?_;exact Ev.neg (by omega) he
 | succ d ih =>
  intro i sn q hi hs hq hr he;have hi':i < ys.length:=by omega
  obtain ⟨j0,j1⟩:=hr ys[i] (List.getElem_mem hi');have hrd:rd ys (i:Int)=ys[i]:=by rw [TD,List.getD_eq_getElem?_getD,List.getElem?_eq_getElem hi'];rfl
  rw [List.drop_eq_getElem_cons hi',List.filter_cons] at he;refine Ev.step (fun k=>by rw [Gb.l1]) ?_;refine Ev.pos (by omega) (Ev.pos (by omega) ?_);rw [hrd];rw [xe hi' (by omega)];have hse:Eg false sn ys[i]=seen sn ys[i].toNat:=rfl;rw [hse]
  by_cases ha:ys[i]=a
  ·refine Ev.pos ha ?_;rw [if_neg (by simp [ha])] at he;exact ih (i + 1) sn q (by omega) hs (by omega) hr he
  ·rw [if_pos (by simp [ha]),List.foldl_cons] at he;refine Ev.neg ha (Ev.pos j0 (Ev.pos (by omega) ?_))
   by_cases hc:seen sn ys[i].toNat=true
   ·refine Ev.pos hc ?_;have e:Qf (sn,q) ys[i]=(sn,q):=by unfold Qf;rw [if_pos hc]
    rw [e] at he;exact ih (i + 1) sn q (by omega) hs (by omega) hr he
   ·refine Ev.neg hc (Ev.pos (by omega) ?_);have e:Qf (sn,q) ys[i]=(sn.set ys[i].toNat true,q ++ [ys[i]]):=by unfold Qf;rw [if_neg hc]
    rw [e] at he;exact ih (i + 1) _ _ (by omega) (by rw [List.length_set];exact hs) (by rw [List.length_append,List.length_singleton];omega) hr he
theorem TB {a:Int} (hE:Ye bs) :
  ∀ (m:Nat) (sn:List Bool) (q:List Int),2 * news sn + q.length ≤ m→XC bs.length (S0 bs a) sn q→(∀ j,seen sn j=true→(j:Int) ∉ q→∀ m ∈ S0 bs a j,seen sn m.toNat=true)→∃ t:List Bool,t.length=bs.length∧(∀ j,seen t j=true ↔ Bn (S0 bs a) j)∧Ev (fun k=>Gb.l0 k a sn q l0 p v s bs) t:=by
 have hn:=hE.2.1;intro m
 induction m with
 | zero =>
  intro sn q hm h hs;cases q with
  | cons i q=>rw [List.length_cons] at hm;omega
  | nil=>exact ⟨sn,h.len,SW h (fun j hj=>hs j hj (by simp)),Ev.step (fun k=>by rw [Gb.l0]) (Ev.neg (by simp) (Ev.now _))⟩
 | succ m ih =>
  intro sn q hm h hs;cases q with
  | nil=>exact ⟨sn,h.len,SW h (fun j hj=>hs j hj (by simp)),Ev.step (fun k=>by rw [Gb.l0]) (Ev.neg (by simp) (Ev.now _))⟩
  | cons i q =>
   obtain ⟨h0,h1,h2⟩:=h.JP i (by simp);have hi:i.toNat < bs.length:=by omega
   have hR:=h.qJ _ h2;have hc:=h.cap;rw [List.length_cons] at hc hm;have g:XC bs.length (S0 bs a) sn q:=⟨h.len,fun j hj=>h.JP j (by simp [hj]),h.qJ,by omega,h.jT⟩
   have gs:Shut (S0 bs a) sn q i.toNat:=by
    intro j hj hq hji;refine hs j hj ?_;intro hmem
    rcases List.mem_cons.mp hmem with e|e
    ·exact hji (by omega)
    ·exact hq e
   obtain ⟨a1,a2,a3,a4,a5⟩:=wH hR (S0 bs a i.toNat) sn q g gs (fun j hj=>⟨(hE.2.2 _ hi j (List.mem_filter.1 hj).1).1,(hE.2.2 _ hi j (List.mem_filter.1 hj).1).2,hj⟩);have hit:((i.toNat:Nat):Int)=i:=Int.toNat_of_nonneg h0;have iY:(Ii bs i.toNat).length ≤ 2:=Rt _;have K7:Wg.f (Ta bs i).f0 (Ta bs i).f1 (Ta bs i).f2 (Ta bs i).f3 (Ta bs i).f4=some (Ii bs i.toNat):=by unfold Ii;rw [hit];exact eD _
   have hrd:rd (i :: q) 0=i:=rfl;have hl:=h.len
   obtain ⟨t,t1,t2,t3⟩:=ih _ _ (by omega) a1 (by
    intro j hj hq
    by_cases e:j=i.toNat
    ·intro m hm';rw [e] at hm';exact a3 m hm'
    ·exact a2 j hj hq e)
   refine ⟨t,t1,t2,?_⟩;refine Ev.step (fun k=>by rw [Gb.l0]) ?_;refine Ev.pos (by rw [List.length_cons];omega) (Ev.pos (by rw [List.length_cons];omega) ?_);rw [hrd];refine Ev.pos h0 (Ev.pos h1 ?_);rw [K7];refine Ev.val (Ev.pos (by rw [List.length_cons];omega) ?_);refine sG (n:=bs.length) hn iY (Ii bs i.toNat).length 0 sn q (by omega) hl (by omega) (hE.2.2 _ hi) ?_;rw [List.drop_zero];exact t3
theorem UO (hE:Ye bs) (a:Nat) (ha:0 ≠ a):∃ t:List Bool,t.length=bs.length∧(∀ j,seen t j=true ↔ RA (Ii bs) a j)∧Ev (fun k=>Gb.f k l0 p v s bs 0 (a:Int) (List.replicate bs.length false)) t:=by
 obtain ⟨t,t1,t2,t3⟩:=TB (a:=(a:Int)) (l0:=l0) (p:=p) (v:=v) (s:=s) hE _ ((List.replicate bs.length false).set 0 true) [0] (Nat.le_refl _) (AB hE.1) (fun j hj hq=>by
  rw [Xm _ hE.1,decide_eq_true_eq] at hj;subst hj
  exact absurd (by simp) hq)
 refine ⟨t,t1,fun j=>(t2 j).trans (wT hE ha j),?_⟩;unfold Gb.f;exact Ev.pos (by omega) (Ev.pos (by rw [List.length_replicate];have:=hE.1;omega) t3)
noncomputable def Zo (bs:List jf) (i:Nat):List Bool:=open Classical in (List.range bs.length).map fun k=>decide (Dom (Ii bs) i k)
noncomputable def Ws (bs:List jf):List (List Bool):=(List.range bs.length).map (Zo bs)
theorem pn (bs:List jf) (i:Nat):(Zo bs i).length=bs.length:=by simp [Zo]
theorem Wm (bs:List jf):(Ws bs).length=bs.length:=by simp [Ws]
theorem mT {bs:List jf} {i:Nat} (hi:i < bs.length):(Ws bs).getD i []=Zo bs i:=by simp [Ws,List.getD_eq_getElem?_getD,hi]
theorem VW {bs:List jf} {i k:Nat} (hk:k < bs.length):(Zo bs i).getD k false=true ↔ Dom (Ii bs) i k:=by simp [Zo,List.getD_eq_getElem?_getD,hk]
theorem QB {r:List (List Bool)} (hE:Ye bs) (he:∀ cm:List Bool,cm.length=bs.length→(∀ j,seen cm j=true ↔ Bn (Ii bs) j)→Ev (fun k=>xb.l1 k (bs.length:Int) cm [] 0 l0 p v s bs) r) :
  Ev (fun k=>xb.l0 k (bs.length:Int) (List.replicate bs.length false) (td bs) 0 l0 p v s bs) r:=by
 have hrl:=Pm bs;have hn:=hE.2.1;have key:=Qg (r:=r) (n:=(td bs).length) (fun i=>∀ cm:List Bool,cm.length=bs.length→(∀ j:Nat,seen cm j=true ↔ (j:Int) ∈ (td bs).take i)→Ev (fun k=>xb.l0 k (bs.length:Int) cm (td bs) (i:Int) l0 p v s bs) r) ?_ ?_ 0 (by omega)
 ·exact key _ (by simp) (fun j=>by rw [Kq];simp)
 ·intro cm hc hs;refine Ev.step (fun k=>by rw [xb.l0]) ?_;refine Ev.neg (by omega) (he cm hc (fun j=>?_));rw [hs,List.take_length,Fg hE,Int.toNat_natCast];exact ⟨fun h=>h.2,fun h=>⟨by omega,h⟩⟩
 ·intro i hi h cm hc hs;obtain ⟨x0,xr⟩:=(Fg hE _).1 (List.getElem_mem hi);have hx:=Kn hE xr;refine Ev.step (fun k=>by rw [xb.l0]) ?_;refine Ev.pos (by omega) (Ev.pos (by omega) ?_);rw [Sj hi,xe hi (by omega)];refine Ev.pos x0 (Ev.pos (by rw [hc];omega) (h _ (by rw [List.length_set];exact hc) (fun j=>?_)));rw [gj (by rw [hc];exact hx),Bool.or_eq_true,decide_eq_true_eq,hs,List.take_succ_eq_append_getElem hi,List.mem_append,List.mem_singleton]
  constructor
  ·rintro (h|h)
   ·right;omega
   ·left;exact h
  ·rintro (h|h)
   ·right;exact h
   ·left;omega
theorem Tt {r:List (List Bool)} {cm wo:List Bool} {acc:List (List Bool)} {i:Nat} (hE:Ye bs) (hi:i < bs.length) (hc:cm.length=bs.length) (U3:∀ j,seen cm j=true ↔ Bn (Ii bs) j) (hw:wo.length=bs.length) (hwr:Bn (Ii bs) i→∀ j,Bn (Ii bs) j→(seen wo j=true ↔ RA (Ii bs) i j)) (ha:acc.length ≤ bs.length)
  (he:Ev (fun k=>xb.l1 k (bs.length:Int) cm (acc ++ [Zo bs i]) ((i + 1:Nat):Int) l0 p v s bs) r) :
  Ev (fun k=>xb.l2 k (bs.length:Int) cm acc (i:Int) wo (List.replicate bs.length false) 0 l0 p v s bs) r:=by
 have hn:=hE.2.1;have key:=Qg (r:=r) (n:=bs.length) (fun j=>Ev (fun k=>xb.l2 k (bs.length:Int) cm acc (i:Int) wo ((Zo bs i).take j ++ List.replicate (bs.length - j) false) (j:Int) l0 p v s bs) r) ?_ ?_ 0 (by omega)
 ·simpa using key
 ·have e:(Zo bs i).take bs.length ++ List.replicate (bs.length - bs.length) false=Zo bs i:=by rw [List.take_of_length_le (by rw [pn];omega),Nat.sub_self,List.replicate_zero,List.append_nil]
  rw [e];refine Ev.step (fun k=>by rw [xb.l2]) ?_;refine Ev.neg (by omega) (Ev.pos (by omega) ?_);rw [xe hi (by omega)];exact he
 ·intro j hj h
  have mE:∀ b:Bool,b=(Zo bs i).getD j false→((Zo bs i).take j ++ List.replicate (bs.length - j) false).set j b=(Zo bs i).take (j + 1) ++ List.replicate (bs.length - (j + 1)) false:=by
   intro b hb;subst hb;have:=jy (m:=Zo bs i) (z:=false) (i:=j) (by rw [pn];exact hj);rw [pn] at this;exact this
  have hln:((Zo bs i).take j ++ List.replicate (bs.length - j) false).length=bs.length:=by rw [List.length_append,List.length_take,List.length_replicate,pn];omega
  have s1:Eg false cm (i:Int)=seen cm i:=rfl;have s2:Eg false cm (j:Int)=seen cm j:=rfl;have s3:Eg false wo (j:Int)=seen wo j:=rfl;refine Ev.step (fun k=>by rw [xb.l2]) ?_;refine Ev.pos (by omega) (Ev.pos (by omega) (Ev.pos (by omega) ?_));rw [s1,s2,s3,Int.toNat_natCast,xe hj (by omega)];have hdom:=VW (bs:=bs) (i:=i) hj
  by_cases aT:seen cm i=true
  ·refine Ev.pos aT (Ev.pos (by omega) (Ev.pos (by omega) ?_))
   by_cases hcj:seen cm j=true
   ·refine Ev.pos hcj (Ev.pos (by omega) (Ev.pos (by rw [hln];omega) ?_));rw [mE]
    ·exact h
    ·have hri:=(U3 i).1 aT;have hrj:=(U3 j).1 hcj;have hwj:=hwr hri j hrj;cases hwb:seen wo j with
     | true =>
      cases hd:(Zo bs i).getD j false with
      | false=>rfl
      | true=>exact absurd (hwj.1 hwb) (hdom.1 hd).2.2
     | false=>exact (hdom.2 ⟨hri,hrj,fun hra=>by rw [hwj.2 hra] at hwb;cases hwb⟩).symm
   ·refine Ev.neg hcj (Ev.pos (by rw [hln];omega) ?_);rw [mE]
    ·exact h
    ·cases hd:(Zo bs i).getD j false with
     | false=>rfl
     | true=>exact absurd ((U3 j).2 (hdom.1 hd).2.1) hcj
  ·refine Ev.neg aT (Ev.pos (by omega) (Ev.pos (by rw [hln];omega) ?_));rw [mE]
   ·exact h
   ·cases hd:(Zo bs i).getD j false with
    | false=>rfl
    | true=>exact absurd ((U3 i).2 (hdom.1 hd).1) aT
theorem PB {cm:List Bool} (hE:Ye bs) (hc:cm.length=bs.length) (U3:∀ j,seen cm j=true ↔ Bn (Ii bs) j):Ev (fun k=>xb.l1 k (bs.length:Int) cm [] 0 l0 p v s bs) (Ws bs):=by
 have hn:=hE.2.1;have key:=Qg (r:=Ws bs) (n:=bs.length) (fun i=>Ev (fun k=>xb.l1 k (bs.length:Int) cm ((Ws bs).take i) (i:Int) l0 p v s bs) (Ws bs)) ?_ ?_ 0 (by omega)
 ·exact key
 ·refine Ev.step (fun k=>by rw [xb.l1]) ?_;refine Ev.neg (by omega) ?_;rw [List.take_of_length_le (by rw [Wm];omega)];exact Ev.now _
 ·intro i hi h
  have hti:(Ws bs).take (i + 1)=(Ws bs).take i ++ [Zo bs i]:=by
   rw [List.take_succ_eq_append_getElem (by rw [Wm];exact hi)];simp [Ws]
  rw [hti] at h;have hlt:((Ws bs).take i).length ≤ bs.length:=by rw [List.length_take,Wm];omega
  refine Ev.step (fun k=>by rw [xb.l1]) ?_;refine Ev.pos (by omega) (Ev.pos (by omega) (Ev.pos (by omega) (Ev.val ?_)));rw [Int.toNat_natCast]
  by_cases h0:i=0
  ·subst h0;refine Ev.pos rfl ?_;refine Ev.step (fun k=>by rw [xb.j2]) ?_;refine Ev.pos (by omega) (Ev.pos (by omega) ?_);rw [Int.toNat_natCast];refine Tt hE hi hc U3 (by simp) (fun _ j hj=>?_) hlt h;rw [Kq];exact ⟨(fun h=>by cases h),fun h=>absurd h (Dom.zero hj).2.2⟩
  ·obtain ⟨t,t1,t2,t3⟩:=UO (l0:=l0) (p:=p) (v:=v) (s:=s) hE i (fun e=>h0 e.symm);refine Ev.neg (by omega) (Ev.bind t3 ?_);refine Ev.step (fun k=>by rw [xb.j2]) ?_;refine Ev.pos (by omega) (Ev.pos (by omega) ?_);rw [Int.toNat_natCast];exact Tt hE hi hc U3 t1 (fun _ j _=>t2 j) hlt h
theorem qI (h0:l0.length ≤ 1048576) (hl:bs.length ≤ 1048576) (ht:ee bs ≤ 1048576) (hok:jm l0 p v s bs=true):Ev (fun k=>xb.f k l0 p v s bs) (Ws bs):=by
 have hE:=Yr hok;unfold xb.f;refine Ev.pos (by omega) (Ev.pos (by omega) (Ev.bind (wG h0 hl ht hok) ?_));rw [Int.toNat_natCast];exact QB hE (fun cm h1 h2=>PB hE h1 h2)
end
end Go.Proofs.Ytoomcmaifgkkfaa.P
end
section
namespace Go.Proofs.Ytoomcmaifgkkfaa.P
open Go.RowKit Go.Proofs.Ia.Pb Go.Proofs.Ia.Ld Go.Proofs.Ia.De
set_option linter.unusedVariables false
set_option linter.unusedSimpArgs false
section
variable {l0:List Int} {p v s:Int} {bs:List jf}
theorem fO {k:Nat} (hk:k < bs.length):Bm (ng bs) k=Hg bs k:=by simp [Bm,ng,List.getD_eq_getElem?_getD,hk]
theorem kn (hE:Ye bs) {i:Int} {k:Nat}:i ∈ Hg bs k ↔ 0 ≤ i∧Dom (Ii bs) i.toNat k:=by
 unfold Hg;rw [List.mem_filter,Fg hE]
 constructor
 ·rintro ⟨⟨h0,_⟩,h⟩;exact ⟨h0,by simpa using h⟩
 ·rintro ⟨h0,h⟩;exact ⟨⟨h0,h.1⟩,by simpa using h⟩
theorem UW (k:Nat):(Hg bs k).Pairwise (· < ·):=(Mq bs).filter _
theorem IJ (hE:Ye bs):Jg.f l0 p v s bs=some (ng bs):=by
 unfold Jg.f;rw [if_pos hE]
end
end Go.Proofs.Ytoomcmaifgkkfaa.P
end
section
namespace Go.Proofs.Ytoomcmaifgkkfaa.P
open Go.RowKit Go.Proofs.Ia.Pb Go.Proofs.Ia.Ld Go.Proofs.Ia.De
set_option linter.unusedVariables false
set_option linter.unusedSimpArgs false
theorem RA.uB {nx:Nat→List Int} {i k:Nat} (hi:Bn nx i) (hk:Bn nx k) (h:¬ Dom nx i k):RA nx i k:=Classical.byContradiction fun hn=>h ⟨hi,hk,hn⟩
theorem Dom.antisymm {nx:Nat→List Int} {x y:Nat} (h1:Dom nx x y) (h2:Dom nx y x):x=y:=by
 refine Classical.byContradiction fun hne=>?_
 have key:∀ v,Bn nx v→RA nx x v∧RA nx y v:=by
  intro v hv
  induction hv with
  | zero =>
   have hx:0 ≠ x:=fun e=>h2.2.2 (e ▸ RA.zero (fun e2=>hne (e.symm.trans e2)))
   have hy:0 ≠ y:=fun e=>h1.2.2 (e ▸ RA.zero (fun e2=>hne (e2.symm.trans e)))
   exact ⟨RA.zero hx,RA.zero hy⟩
  | @step u t hu ht ih =>
   have hx:t.toNat ≠ x:=fun e=>h2.2.2 (e ▸ RA.step ih.2 ht (fun e2=>hne (e.symm.trans e2)))
   have hy:t.toNat ≠ y:=fun e=>h1.2.2 (e ▸ RA.step ih.1 ht (fun e2=>hne (e2.symm.trans e)))
   exact ⟨RA.step ih.1 ht hx,RA.step ih.2 ht hy⟩
 exact (key x h1.1).1.ne rfl
theorem Dom.trans {nx:Nat→List Int} {x y z:Nat} (h1:Dom nx x y) (h2:Dom nx y z):Dom nx x z:=by
 refine ⟨h1.1,h2.2.1,fun hr=>h2.2.2 ?_⟩
 have key:∀ v,RA nx x v→RA nx y v:=by
  intro v hv
  induction hv with
  | zero h0=>exact RA.zero (fun e=>h1.2.2 (e ▸ RA.zero h0))
  | @step u t hu ht hne ih=>exact RA.step ih ht (fun e=>h1.2.2 (e ▸ RA.step hu ht hne))
 exact key z hr
theorem Dom.chain {nx:Nat→List Int} {x y k:Nat} (h1:Dom nx x k) (h2:Dom nx y k) (hne:x ≠ y):Dom nx x y ∨ Dom nx y x:=by
 refine Classical.byContradiction fun hn=>?_
 have hxy:RA nx x y:=RA.uB h1.1 h2.1 (fun h=>hn (Or.inl h));have hyx:RA nx y x:=RA.uB h2.1 h1.1 (fun h=>hn (Or.inr h))
 have key:∀ v,Bn nx v→RA nx x v ∨ RA nx y v:=by
  intro v hv
  induction hv with
  | zero =>
   by_cases h:0=x
   ·exact Or.inr (RA.zero (fun e=>hne (h.symm.trans e)))
   ·exact Or.inl (RA.zero h)
  | @step u t hu ht ih =>
   rcases ih with ih|ih
   ·by_cases h:t.toNat=x
    ·rw [h];exact Or.inr hyx
    ·exact Or.inl (RA.step ih ht h)
   ·by_cases h:t.toNat=y
    ·rw [h];exact Or.inl hxy
    ·exact Or.inr (RA.step ih ht h)
 rcases key k h1.2.1 with h|h
 ·exact h1.2.2 h
 ·exact h2.2.2 h
theorem QC {l:List Int} {p q:Int→Bool} (h:∀ x ∈ l,p x=true→q x=true):(l.filter p).length ≤ (l.filter q).length:=by
 induction l with
 | nil=>simp
 | cons a l ih =>
  have h2:=ih (fun x hx=>h x (by simp [hx]));rw [List.filter_cons,List.filter_cons]
  by_cases hp:p a=true
  ·rw [if_pos hp,if_pos (h a (by simp) hp)];simp only [List.length_cons];omega
  ·rw [if_neg hp]
   by_cases hq:q a=true
   ·rw [if_pos hq];simp only [List.length_cons];omega
   ·rw [if_neg hq];exact h2
theorem PC {l:List Int} {p q:Int→Bool} (h:∀ x ∈ l,p x=true→q x=true) {y:Int} (hy:y ∈ l) (hq:q y=true) (hp:p y=false):(l.filter p).length < (l.filter q).length:=by
 induction l with
 | nil=>cases hy
 | cons a l ih =>
  rw [List.filter_cons,List.filter_cons];have hle:=QC (l:=l) (p:=p) (q:=q) (fun x hx=>h x (by simp [hx]))
  rcases List.mem_cons.1 hy with e|hy
  ·subst e;rw [if_neg (by rw [hp];simp),if_pos hq];simp only [List.length_cons];omega
  ·have h2:=ih (fun x hx=>h x (by simp [hx])) hy
   by_cases hpa:p a=true
   ·rw [if_pos hpa,if_pos (h a (by simp) hpa)];simp only [List.length_cons];omega
   ·rw [if_neg hpa]
    by_cases hqa:q a=true
    ·rw [if_pos hqa];simp only [List.length_cons];omega
    ·rw [if_neg hqa];exact h2
theorem MB {l:List Int} (hl:l.Pairwise (· < ·)) {p q:Int→Bool} {y:Int} (hy:y ∈ l) (hp:p y=false) (h:∀ x ∈ l,q x=true ↔ (p x=true ∨ x=y)):(l.filter q).length=(l.filter p).length + 1:=by
 induction l with
 | nil=>cases hy
 | cons a l ih =>
  obtain ⟨ha,hl2⟩:=List.pairwise_cons.1 hl;rw [List.filter_cons,List.filter_cons]
  by_cases e:a=y
  ·subst e;rw [if_pos ((h a (by simp)).2 (Or.inr rfl)),if_neg (by rw [hp];simp)]
   have he:l.filter q=l.filter p:=by
    apply List.filter_congr;intro x hx;have hne:x ≠ a:=by have:=ha x hx;omega
    have hx2:=h x (by simp [hx]);cases hpx:p x with
    | true=>exact hx2.2 (Or.inl hpx)
    | false =>
     cases O8:q x with
     | false=>rfl
     | true =>
      rcases hx2.1 O8 with h3|h3
      ·rw [hpx] at h3;cases h3
      ·exact absurd h3 hne
   rw [he,List.length_cons]
  ·have hy2:y ∈ l:=by
    rcases List.mem_cons.1 hy with h3|h3
    ·exact absurd h3.symm e
    ·exact h3
   have h2:=ih hl2 hy2 (fun x hx=>h x (by simp [hx]));have ha2:=h a (by simp)
   by_cases hpa:p a=true
   ·rw [if_pos hpa,if_pos (ha2.2 (Or.inl hpa)),List.length_cons,List.length_cons,h2]
   ·rw [if_neg hpa,if_neg (fun hq=>(ha2.1 hq).elim hpa e)];exact h2
theorem OB (f:Int→Nat):∀ (l:List Int),l ≠ []→∃ x,x ∈ l∧∀ y ∈ l,f y ≤ f x
 | [],h=>absurd rfl h
 | [a],_=>⟨a,by simp,fun y hy=>by rw [List.mem_singleton] at hy;rw [hy];exact Nat.le_refl _⟩
 | a :: b :: l,_=>by
  obtain ⟨x,hx,hm⟩:=OB f (b :: l) (by simp)
  by_cases h:f a ≤ f x
  ·exact ⟨x,List.mem_cons_of_mem _ hx,fun y hy=>by
    rcases List.mem_cons.1 hy with e|hy
    ·rw [e];exact h
    ·exact hm y hy⟩
  ·exact ⟨a,by simp,fun y hy=>by
    rcases List.mem_cons.1 hy with e|hy
    ·rw [e];exact Nat.le_refl _
    ·have:=hm y hy;omega⟩
noncomputable def Gy (bs:List jf) (x:Int):Nat:=(Hg bs x.toNat).length
section
variable {bs:List jf}
theorem KP (hE:Ye bs) {x y:Int} (hx:0 ≤ x) (hy:0 ≤ y) (h:Dom (Ii bs) x.toNat y.toNat) (hne:x ≠ y):Gy bs x < Gy bs y:=by
 unfold Gy Hg;refine PC (fun z hz hp=>?_) (y:=y) ((Fg hE y).2 ⟨hy,h.2.1⟩) ?_ ?_
 ·simp only [decide_eq_true_eq] at hp ⊢;exact hp.trans h
 ·simp only [decide_eq_true_eq];exact Dom.self h.2.1
 ·simp only [decide_eq_false_iff_not];intro h2;have:=h.antisymm h2;exact hne (by omega)
theorem IP (hE:Ye bs) {k:Nat} (hk:∃ x ∈ Hg bs k,x ≠ (k:Int)):∃ x0 ∈ Hg bs k,x0 ≠ (k:Int)∧Gy bs x0 + 1=(Hg bs k).length∧∀ y ∈ Hg bs k,y ≠ (k:Int)→y ≠ x0→Gy bs y < Gy bs x0:=by
 obtain ⟨x,hx,YS⟩:=hk
 obtain ⟨x0,h0,hmax⟩:=OB (Gy bs) ((Hg bs k).filter fun z=>decide (z ≠ (k:Int))) (fun e=>by
  have:x ∈ (Hg bs k).filter fun z=>decide (z ≠ (k:Int)):=List.mem_filter.2 ⟨hx,by simpa using YS⟩
  rw [e] at this
  cases this)
 obtain ⟨m0,mk⟩:=List.mem_filter.1 h0;rw [decide_eq_true_eq] at mk;obtain ⟨z0,d0⟩:=(kn hE).1 m0
 have hall:∀ y ∈ Hg bs k,y ≠ (k:Int)→y ≠ x0→Dom (Ii bs) y.toNat x0.toNat:=by
  intro y hy hyk hyx;obtain ⟨zy,dy⟩:=(kn hE).1 hy
  rcases dy.chain d0 (by omega) with h|h
  ·exact h
  ·have h1:=KP hE z0 zy h (fun e=>hyx e.symm);have h2:=hmax y (List.mem_filter.2 ⟨hy,by simpa using hyk⟩);omega
 refine ⟨x0,m0,mk,?_,fun y hy hyk hyx=>?_⟩
 ·have hr:Bn (Ii bs) k:=d0.2.1;unfold Gy Hg;refine (MB (Mq bs) (y:=(k:Int)) ((Fg hE _).2 ⟨by omega,by rw [Int.toNat_natCast];exact hr⟩) ?_ (fun z hz=>?_)).symm
  ·simp only [decide_eq_false_iff_not,Int.toNat_natCast];intro h;have:=h.antisymm d0;exact mk (by omega)
  ·simp only [decide_eq_true_eq];obtain ⟨zz,_⟩:=(Fg hE z).1 hz
   constructor
   ·intro hd
    by_cases e:z=(k:Int)
    ·exact Or.inr e
    ·by_cases e2:z=x0
     ·rw [e2];exact Or.inl (Dom.self d0.1)
     ·exact Or.inl (hall z ((kn hE).2 ⟨zz,hd⟩) e e2)
   ·rintro (h|h)
    ·exact h.trans d0
    ·rw [h,Int.toNat_natCast];exact Dom.self hr
 ·obtain ⟨zy,_⟩:=(kn hE).1 hy;exact KP hE zy z0 (hall y hy hyk hyx) hyx
noncomputable def qH (bs:List jf) (k best x:Int):Int:=if x=k then best else if best < 0 then x else if ((Gy bs x:Nat):Int) > ((Gy bs best:Nat):Int) then x else best
noncomputable def eO (bs:List jf) (k n ru x:Int):Int:=if x=k then ru else if ((Gy bs x:Nat):Int)=n then x else ru
theorem EB {k x0:Int}:∀ (l:List Int),(∀ y ∈ l,y ≠ k→y ≠ x0→Gy bs y < Gy bs x0)→0 ≤ x0→l.foldl (qH bs k) x0=x0
 | [],_,_=>rfl
 | y :: l,h,h0=>by
  have e:qH bs k x0 y=x0:=by
   unfold qH
   by_cases hy:y=k
   ·rw [if_pos hy]
   ·rw [if_neg hy,if_neg (by omega)]
    by_cases hx:y=x0
    ·subst hx;rw [if_neg (by omega)]
    ·have:=h y (by simp) hy hx;rw [if_neg (by omega)]
  rw [List.foldl_cons,e];exact EB l (fun z hz=>h z (by simp [hz])) h0
theorem IB {k x0:Int} (YS:x0 ≠ k):∀ (l:List Int) (b:Int),(∀ y ∈ l,0 ≤ y∧(y ≠ k→y ≠ x0→Gy bs y < Gy bs x0))→x0 ∈ l→(b < 0 ∨ Gy bs b < Gy bs x0)→l.foldl (qH bs k) b=x0
 | [],b,_,h,_=>by cases h
 | y :: l,b,h,hx,hb=>by
  rw [List.foldl_cons]
  by_cases e:y=x0
  ·have e2:qH bs k b y=x0:=by
    unfold qH;rw [if_neg (by rw [e];exact YS),e]
    rcases hb with hb|hb
    ·rw [if_pos hb]
    ·by_cases h0:b < 0
     ·rw [if_pos h0]
     ·rw [if_neg h0,if_pos (by omega)]
   rw [e2];exact EB l (fun z hz=>(h z (by simp [hz])).2) (by have:=(h y (by simp)).1;omega)
  ·refine IB YS l _ (fun z hz=>h z (by simp [hz])) ((List.mem_cons.1 hx).resolve_left (fun e2=>e e2.symm)) ?_;unfold qH
   by_cases hy:y=k
   ·rw [if_pos hy];exact hb
   ·have hlt:=(h y (by simp)).2 hy e;rw [if_neg hy]
    by_cases h0:b < 0
    ·rw [if_pos h0];exact Or.inr hlt
    ·rw [if_neg h0]
     by_cases hg:((Gy bs y:Nat):Int) > ((Gy bs b:Nat):Int)
     ·rw [if_pos hg];exact Or.inr hlt
     ·rw [if_neg hg];exact hb
theorem FB {k:Int}:∀ (l:List Int),(∀ y ∈ l,y=k)→l.foldl (qH bs k) (-1) = -1
 | [],_=>rfl
 | y :: l,h=>by
  rw [List.foldl_cons];have e:qH bs k (-1) y = -1:=by unfold qH;rw [if_pos (h y (by simp))]
  rw [e];exact FB l (fun z hz=>h z (by simp [hz]))
theorem JB {k n x0:Int}:∀ (l:List Int),(∀ y ∈ l,y ≠ k→y ≠ x0→((Gy bs y:Nat):Int) ≠ n)→l.foldl (eO bs k n) x0=x0
 | [],_=>rfl
 | y :: l,h=>by
  have e:eO bs k n x0 y=x0:=by
   unfold eO
   by_cases hy:y=k
   ·rw [if_pos hy]
   ·rw [if_neg hy]
    by_cases hx:y=x0
    ·by_cases hn:((Gy bs y:Nat):Int)=n
     ·rw [if_pos hn];exact hx
     ·rw [if_neg hn]
    ·rw [if_neg (h y (by simp) hy hx)]
  rw [List.foldl_cons,e];exact JB l (fun z hz=>h z (by simp [hz]))
theorem LB {k n x0:Int} (YS:x0 ≠ k) (hn:((Gy bs x0:Nat):Int)=n):∀ (l:List Int) (b:Int),(∀ y ∈ l,y ≠ k→y ≠ x0→((Gy bs y:Nat):Int) ≠ n)→x0 ∈ l→l.foldl (eO bs k n) b=x0
 | [],b,_,h=>by cases h
 | y :: l,b,h,hx=>by
  rw [List.foldl_cons]
  by_cases e:y=x0
  ·have e2:eO bs k n b y=x0:=by
    unfold eO;rw [if_neg (by rw [e];exact YS),if_pos (by rw [e];exact hn),e]
   rw [e2];exact JB l (fun z hz=>h z (by simp [hz]))
  ·exact LB YS hn l _ (fun z hz=>h z (by simp [hz])) ((List.mem_cons.1 hx).resolve_left (fun e2=>e e2.symm))
theorem KB {k n:Int}:∀ (l:List Int),(∀ y ∈ l,y=k)→l.foldl (eO bs k n) (-1) = -1
 | [],_=>rfl
 | y :: l,h=>by
  rw [List.foldl_cons];have e:eO bs k n (-1) y = -1:=by unfold eO;rw [if_pos (h y (by simp))]
  rw [e];exact KB l (fun z hz=>h z (by simp [hz]))
noncomputable def iO (bs:List jf) (k:Nat):Int:=(Hg bs k).foldl (qH bs (k:Int)) (-1)
theorem uT (hE:Ye bs) (k:Nat):(Hg bs k).foldl (eO bs (k:Int) (((Hg bs k).length:Int) - 1)) (-1)=iO bs k:=by
 unfold iO
 by_cases hk:∃ x ∈ Hg bs k,x ≠ (k:Int)
 ·obtain ⟨x0,m0,YS,hr,hlt⟩:=IP hE hk;rw [IB YS (Hg bs k) (-1) (fun y hy=>⟨((kn hE).1 hy).1,hlt y hy⟩) m0 (Or.inl (by omega))];exact LB YS (by omega) (Hg bs k) (-1) (fun y hy h1 h2=>by have:=hlt y hy h1 h2;omega) m0
 ·have hall:∀ y ∈ Hg bs k,y=(k:Int):=fun y hy=>Classical.byContradiction fun h=>hk ⟨y,hy,h⟩
  rw [FB _ hall,KB _ hall]
end
end Go.Proofs.Ytoomcmaifgkkfaa.P
end
section
namespace Go.Proofs.Ytoomcmaifgkkfaa.P
open Go.RowKit Go.Proofs.Ia.Pb Go.Proofs.Ia.Ld Go.Proofs.Ia.De
set_option linter.unusedVariables false
set_option linter.unusedSimpArgs false
section
variable {l0:List Int} {p v s:Int} {bs:List jf}
noncomputable def UC (bs:List jf) (k:Nat):List Bool:=open Classical in (List.range bs.length).map fun i=>decide (Dom (Ii bs) i k)
theorem Wk (k:Nat):(UC bs k).length=bs.length:=by simp [UC]
theorem sD {i k:Nat} (hi:i < bs.length):seen (UC bs k) i=true ↔ Dom (Ii bs) i k:=by simp [seen,UC,List.getD_eq_getElem?_getD,hi]
theorem XO {i k:Nat} (hi:i < bs.length) (hk:k < bs.length):(UC bs k)[i]'(by rw [Wk];exact hi)=Eg false (Zo bs i) (k:Int):=by
 simp [UC,Eg,Zo,List.getD_eq_getElem?_getD,hk]
theorem SR (hE:Ye bs) (k:Nat):Hi (UC bs k) 0=Hg bs k:=by
 refine YD _ _ (lB _ 0) (UW k) (fun x=>?_);rw [eu,kn hE]
 constructor
 ·rintro ⟨j,h1,h2,h3⟩;rw [Nat.zero_add] at h3;subst h3;rw [Wk] at h1;exact ⟨by omega,by rw [Int.toNat_natCast];exact (sD h1).1 h2⟩
 ·rintro ⟨h0,hr⟩;have hl:=Kn hE hr.1;exact ⟨x.toNat,by rw [Wk];exact hl,(sD hl).2 hr,by omega⟩
theorem C0 {i:Nat} (hi:i < bs.length):fl (Ws bs) (i:Int)=Zo bs i:=mT hi
theorem Bt {i:Nat} (hi:i < bs.length):Vb (ng bs) (i:Int)=Hg bs i:=by
 rw [← fO hi]
 rfl
theorem sH {i:Nat} (hi:i < bs.length):(ng bs).take (i + 1)=(ng bs).take i ++ [Hg bs i]:=by
 rw [List.take_succ_eq_append_getElem (by rw [qj];exact hi)];simp [ng]
theorem vI {acc:List (List Int)} {r:List (List Int)} {j:Nat} (hE:Ye bs) (hj:j < bs.length) (ha:acc.length ≤ bs.length) (he:Ev (fun k=>Dc.l0 k (acc ++ [Hg bs j]) (Ws bs) ((j + 1:Nat):Int)) r) :
  Ev (fun k=>Dc.l1 k acc (Ws bs) (j:Int) [] 0) r:=by
 have hn:=hE.2.1;have htl:=Wm bs;have key:=Qg (r:=r) (n:=bs.length) (fun i=>Ev (fun k=>Dc.l1 k acc (Ws bs) (j:Int) (Hi ((UC bs j).take i) 0) (i:Int)) r) ?_ ?_ 0 (by omega)
 ·exact key
 ·refine Ev.step (fun k=>by rw [Dc.l1]) ?_;refine Ev.neg (by omega) (Ev.pos (by omega) ?_);rw [List.take_of_length_le (by rw [Wk];omega),SR hE,xe hj (by omega)];exact he
 ·intro i hi h;have ht:=Zq ((UC bs j).take i) 0;rw [List.length_take,Wk] at ht;refine Ev.step (fun k=>by rw [Dc.l1]) ?_;refine Ev.pos (by omega) (Ev.pos (by omega) (Ev.pos (by omega) ?_));rw [C0 hi,pn];refine Ev.pos (by omega) ?_;rw [kB (UC bs j) i (by rw [Wk];exact hi),XO hi hj] at h;rw [xe hi (by omega)]
  by_cases hb:Eg false (Zo bs i) (j:Int)=true
  ·rw [if_pos hb] at h;exact Ev.pos hb (Ev.pos (by omega) h)
  ·rw [if_neg hb] at h;exact Ev.neg hb h
theorem VO (h0:l0.length ≤ 1048576) (hl:bs.length ≤ 1048576) (ht:ee bs ≤ 1048576) (hok:jm l0 p v s bs=true):Ev (fun k=>Dc.f k l0 p v s bs) (ng bs):=by
 have hE:=Yr hok;have hn:=hE.2.1;have htl:=Wm bs;unfold Dc.f;refine Ev.val (Ev.bind (ew h0 hl ht) (Ev.pos hok (Ev.bind (qI h0 hl ht hok) ?_)));have key:=Qg (r:=ng bs) (n:=bs.length) (fun i=>Ev (fun k=>Dc.l0 k ((ng bs).take i) (Ws bs) (i:Int)) (ng bs)) ?_ ?_ 0 (by omega)
 ·exact key
 ·refine Ev.step (fun k=>by rw [Dc.l0]) ?_;refine Ev.neg (by omega) ?_;rw [List.take_of_length_le (by rw [qj];omega)];exact Ev.now _
 ·intro i hi h;rw [sH hi] at h;refine Ev.step (fun k=>by rw [Dc.l0]) ?_;refine Ev.pos (by omega) ?_;exact vI hE hi (by rw [List.length_take,qj];omega) h
theorem zN (hE:Ye bs) {k i:Nat} (hi:i < (Hg bs k).length):0 ≤ (Hg bs k)[i]∧(Hg bs k)[i] < (bs.length:Int)∧Vb (ng bs) ((Hg bs k)[i])=Hg bs ((Hg bs k)[i]).toNat:=by
 obtain ⟨h0,hd⟩:=(kn hE).1 (List.getElem_mem hi);have hl:=Kn hE hd.1;have:=Bt (bs:=bs) hl;rw [Int.toNat_of_nonneg h0] at this;exact ⟨h0,by omega,this⟩
theorem nD {α β:Type} (f:β→α→β) (b:β) (l:List α) (i:Nat) (hi:i < l.length):(l.take (i + 1)).foldl f b=f ((l.take i).foldl f b) l[i]:=by
 rw [List.take_succ_eq_append_getElem hi,List.foldl_append]
 rfl
theorem sL (hE:Ye bs) {k:Nat}:∀ (l:List Int),(∀ x ∈ l,x ∈ Hg bs k)→∀ b:Int,(b < 0 ∨ b ∈ Hg bs k)→(l.foldl (qH bs (k:Int)) b < 0 ∨ l.foldl (qH bs (k:Int)) b ∈ Hg bs k)
 | [],_,b,hb=>hb
 | x :: l,h,b,hb=>by
  rw [List.foldl_cons];refine sL hE l (fun y hy=>h y (by simp [hy])) _ ?_;unfold qH
  by_cases h1:x=(k:Int)
  ·rw [if_pos h1];exact hb
  ·rw [if_neg h1]
   by_cases h2:b < 0
   ·rw [if_pos h2];exact Or.inr (h x (by simp))
   ·rw [if_neg h2]
    by_cases h3:((Gy bs x:Nat):Int) > ((Gy bs b:Nat):Int)
    ·rw [if_pos h3];exact Or.inr (h x (by simp))
    ·rw [if_neg h3];exact hb
theorem uG {acc:List Int} {r:List Int} {j:Nat} (hE:Ye bs) (hj:j < bs.length) (ha:acc.length ≤ bs.length) (he:Ev (fun k=>qd.l0 k (acc ++ [iO bs j]) (ng bs) ((j + 1:Nat):Int)) r) :
  Ev (fun k=>qd.l1 k acc (ng bs) (j:Int) (-1) 0) r:=by
 have hn:=hE.2.1;have hrl:=qj bs;have hdl:=Dz bs j;have key:=Qg (r:=r) (n:=(Hg bs j).length) (fun i=>Ev (fun k=>qd.l1 k acc (ng bs) (j:Int) (((Hg bs j).take i).foldl (qH bs (j:Int)) (-1)) (i:Int)) r) ?_ ?_ 0 (by omega)
 ·exact key
 ·refine Ev.step (fun k=>by rw [qd.l1]) ?_;refine Ev.pos (by omega) (Ev.pos (by omega) ?_);rw [Bt hj];refine Ev.neg (by omega) (Ev.pos (by omega) ?_);rw [List.take_length,xe hj (by omega)];exact he
 ·intro i hi h;rw [nD _ _ _ _ hi] at h;have hb:=sL hE (k:=j) ((Hg bs j).take i) (fun x hx=>List.mem_of_mem_take hx) (-1) (Or.inl (by omega));generalize ((Hg bs j).take i).foldl (qH bs (j:Int)) (-1)=b at h hb ⊢;obtain ⟨x0,x1,x2⟩:=zN hE hi;refine Ev.step (fun k=>by rw [qd.l1]) ?_;refine Ev.pos (by omega) (Ev.pos (by omega) ?_);rw [Bt hj];refine Ev.pos (by omega) (Ev.pos (by omega) ?_);rw [Sj hi,xe hi (by omega),x2];unfold qH at h
  by_cases h1:(Hg bs j)[i]=(j:Int)
  ·rw [if_pos h1] at h;exact Ev.pos h1 h
  ·rw [if_neg h1] at h;refine Ev.neg h1 ?_
   by_cases h2:b < 0
   ·rw [if_pos h2] at h;exact Ev.pos h2 h
   ·rw [if_neg h2] at h;refine Ev.neg h2 (Ev.pos x0 (Ev.pos (by omega) ?_));obtain ⟨b0,bd⟩:=(kn hE).1 (hb.resolve_left h2);have hbl:=Kn hE bd.1;have X3:=Bt (bs:=bs) hbl;rw [Int.toNat_of_nonneg b0] at X3;refine Ev.pos b0 (Ev.pos (by omega) ?_);rw [X3]
    by_cases h3:((Gy bs ((Hg bs j)[i]):Nat):Int) > ((Gy bs b:Nat):Int)
    ·rw [if_pos h3] at h;exact Ev.pos h3 h
    ·rw [if_neg h3] at h;exact Ev.neg h3 h
noncomputable def Gn (bs:List jf):List Int:=(List.range bs.length).map (iO bs)
theorem sj:(Gn bs).length=bs.length:=by simp [Gn]
theorem wz {i:Nat} (hi:i < bs.length):(Gn bs).take (i + 1)=(Gn bs).take i ++ [iO bs i]:=by
 rw [List.take_succ_eq_append_getElem (by rw [sj];exact hi)];simp [Gn]
theorem vG {acc:List Int} {r:List Int} {j:Nat} (hE:Ye bs) (hj:j < bs.length) (ha:acc.length ≤ bs.length) (he:Ev (fun k=>ld.l0 k (acc ++ [iO bs j]) (ng bs) (ng bs) ((ng bs).length:Int) ((j + 1:Nat):Int)) r) :
  Ev (fun k=>ld.l1 k acc (ng bs) (j:Int) (Hg bs j) (-1) (ng bs) ((ng bs).length:Int) (j:Int) (Hg bs j) ((Hg bs j).length:Int) 0) r:=by
 have hn:=hE.2.1;have hrl:=qj bs;have hdl:=Dz bs j;have key:=Qg (r:=r) (n:=(Hg bs j).length) (fun i=>Ev (fun k=>ld.l1 k acc (ng bs) (j:Int) (Hg bs j) (((Hg bs j).take i).foldl (eO bs (j:Int) (((Hg bs j).length:Int) - 1)) (-1)) (ng bs) ((ng bs).length:Int) (j:Int) (Hg bs j) ((Hg bs j).length:Int) (i:Int)) r) ?_ ?_ 0 (by omega)
 ·exact key
 ·refine Ev.step (fun k=>by rw [ld.l1]) ?_;refine Ev.neg (by omega) (Ev.pos (by omega) ?_);rw [List.take_length,xe hj (by omega),uT hE];exact he
 ·intro i hi h;rw [nD _ _ _ _ hi] at h;generalize ((Hg bs j).take i).foldl (eO bs (j:Int) (((Hg bs j).length:Int) - 1)) (-1)=b at h ⊢;obtain ⟨x0,x1,x2⟩:=zN hE hi;have hw:wrap64 (((Hg bs j).length:Int) - 1)=((Hg bs j).length:Int) - 1:=Cg (by omega) (by omega);refine Ev.step (fun k=>by rw [ld.l1]) ?_;refine Ev.pos (by omega) (Ev.pos (by omega) (Ev.pos (by omega) ?_));rw [Sj hi,xe hi (by omega),x2,hw];unfold eO at h
  by_cases h1:(Hg bs j)[i]=(j:Int)
  ·rw [if_pos h1] at h;exact Ev.pos h1 h
  ·rw [if_neg h1] at h;refine Ev.neg h1 (Ev.pos x0 (Ev.pos (by omega) ?_))
   by_cases h3:((Gy bs ((Hg bs j)[i]):Nat):Int)=((Hg bs j).length:Int) - 1
   ·rw [if_pos h3] at h;exact Ev.pos h3 h
   ·rw [if_neg h3] at h;exact Ev.neg h3 h
theorem JR (l0:List Int) (p v s:Int) (bs:List jf) (h0:l0.length ≤ 1048576) (hl:bs.length ≤ 1048576) (ht:ee bs ≤ 1048576) :
  ∃ r:List Int,Ev (fun k=>qd.f k l0 p v s bs) r∧Ev (fun k=>ld.f k l0 p v s bs) r∧r.length ≤ 1048576:=by
 by_cases hok:jm l0 p v s bs=true
 ·have hE:=Yr hok;have hn:=hE.2.1;have hrl:=qj bs;refine ⟨Gn bs,?_,?_,by rw [sj];exact hl⟩
  ·unfold qd.f;refine Ev.bind (VO h0 hl ht hok) ?_;have key:=Qg (r:=Gn bs) (n:=bs.length) (fun i=>Ev (fun k=>qd.l0 k ((Gn bs).take i) (ng bs) (i:Int)) (Gn bs)) ?_ ?_ 0 (by omega)
   ·exact key
   ·refine Ev.step (fun k=>by rw [qd.l0]) ?_;refine Ev.neg (by omega) ?_;rw [List.take_of_length_le (by rw [sj];omega)];exact Ev.now _
   ·intro i hi h;rw [wz hi] at h;refine Ev.step (fun k=>by rw [qd.l0]) ?_;refine Ev.pos (by omega) ?_;exact uG hE hi (by rw [List.length_take,sj];omega) h
  ·unfold ld.f;refine Ev.bind (RB h0 hl ht) (Ev.pos hok ?_);rw [IJ hE];refine Ev.val ?_;have key:=Qg (r:=Gn bs) (n:=bs.length) (fun i=>Ev (fun k=>ld.l0 k ((Gn bs).take i) (ng bs) (ng bs) ((ng bs).length:Int) (i:Int)) (Gn bs)) ?_ ?_ 0 (by omega)
   ·exact key
   ·refine Ev.step (fun k=>by rw [ld.l0]) ?_;refine Ev.neg (by omega) ?_;rw [List.take_of_length_le (by rw [sj];omega)];exact Ev.now _
   ·intro i hi h;rw [wz hi] at h;refine Ev.step (fun k=>by rw [ld.l0]) ?_;refine Ev.pos (by omega) (Ev.pos (by omega) (Ev.pos (by omega) ?_));rw [Bt hi];exact vG hE hi (by rw [List.length_take,sj];omega) h
 ·refine ⟨[],?_,?_,by simp⟩
  ·unfold qd.f;refine Ev.bind (a:=[]) ?_ ?_
   ·unfold Dc.f;exact Ev.val (Ev.bind (ew h0 hl ht) (Ev.neg hok (Ev.now _)))
   ·refine Ev.step (fun k=>by rw [qd.l0]) ?_;exact Ev.neg (by simp) (Ev.now _)
  ·unfold ld.f;exact Ev.bind (RB h0 hl ht) (Ev.neg hok (Ev.now _))
end
end Go.Proofs.Ytoomcmaifgkkfaa.P
end
section
namespace Go.Proofs.Ytoomcmaifgkkfaa.P
open Go.RowKit Go.Proofs.Ia.Pb Go.Proofs.Ia.Ld Go.Proofs.Ia.De
set_option linter.unusedVariables false
set_option linter.unusedSimpArgs false
attribute [local go_sem] Bi zi Fj Ej mh jh Ai si
def ud.l0:Nat→Int→ByteArray→Option (ByteArray)
 | 0,_,_=>none
 | k + 1,x0,x3=>if x0 > 0 then ((some (([(wrap64 (48 + (Int.tmod x0 10))) % 256]:List Int):List Int)).bind fun Yf=>(if (strOfNums Yf).size + x3.size ≤ 9223372036854775807 then (ud.l0 k (wrap64 (Int.tdiv x0 10)) ((strOfNums Yf) ++ x3)) else (none))) else (if 1 + x3.size ≤ 9223372036854775807 then (some ((⟨#[109]⟩:ByteArray) ++ x3)) else (none))
def ud.f (k:Nat) (a0:Int):Option (ByteArray):=if a0 ≤ 0 then (some (⟨#[109,48]⟩:ByteArray)) else (ud.l0 k a0 (⟨#[]⟩:ByteArray))
theorem ud.calls (k:Nat) (a0:Int) (r:ByteArray) (w:World) (h:ud.f k a0=some r) :
  Calls Try.prog 127 #[.int .i64 a0] w fun e w'=>e = .returned (.string r)∧Below w.heap.size w w':=by
 have HB:=ga.mk (Below.refl w.heap.size w);have H:(if a0 ≤ 0 then (some (⟨#[109,48]⟩:ByteArray)) else (ud.l0 k a0 (⟨#[]⟩:ByteArray)))=some r:=h;clear h
 by_cases c2:a0 ≤ 0
 ·rw [if_pos c2] at H;have js:decide (a0 ≤ 0)=true:=decide_eq_true c2;clear c2;obtain rfl:=Option.some.inj H;go_enter Try.func127,Try.ntmps127;go_wp2;go_ret;exact ⟨by first|rfl|(simp [Pa,Oa] <;> rfl)|(simp [*,Pa,Oa] <;> rfl),by repeat (first|(with_reducible first|exact HB.out|apply oa|apply ia|apply qa)|exact HB.out)⟩
 ·rw [if_neg c2] at H;have js:decide (a0 ≤ 0)=false:=decide_eq_false c2;clear c2;have H':=ga.mk H;clear H;go_enter Try.func127,Try.ntmps127;go_wp2
  go_loopg [0,3] k (fun kq v0 v3 w'=>∃ (Yd:Int) (Cc:ByteArray),v0 = .int .i64 Yd∧v3 = .string Cc∧ga (ud.l0 kq Yd Cc=some r)∧ga (kq ≤ k)∧ga (Below w.heap.size w w'))
  case atStart=>exact ⟨(a0),((⟨#[]⟩:ByteArray)),(by first|rfl|(simp;done)|(simp [*];done)),(by first|rfl|(simp;done)|(simp [*];done)),H',⟨Nat.le_refl _⟩,⟨by repeat (first|(with_reducible first|exact HB.out|apply oa|apply ia|apply qa)|exact HB.out)⟩⟩
  case round =>
   clear H'
   try clear c1
   try clear c2
   try clear js
   try clear p2
   (try clear HA);(try clear uf);(try clear HB);obtain ⟨Yd,Cc,rfl,rfl,HA,uf,HB⟩:=hrel;cases gk with
   | zero=>exact absurd HA.out (by simp [ud.l0])
   | succ k1 =>
    have H:=HA.out;clear HA;simp only [ud.l0] at H
    by_cases c3:Yd > 0
    ·rw [if_pos c3] at H;have dh:decide (0 < Yd)=true:=decide_eq_true c3;clear c3;obtain ⟨Yf,ig⟩:∃ y_:List Int,y_=(([(wrap64 (48 + (Int.tmod Yd 10))) % 256]:List Int)):=⟨_,rfl⟩;replace H:(if (strOfNums Yf).size + Cc.size ≤ 9223372036854775807 then (ud.l0 k1 (wrap64 (Int.tdiv Yd 10)) ((strOfNums Yf) ++ Cc)) else (none))=some r:=by first|(rw [ig];with_reducible exact H)|(have Md:=(Option.bind_some _ _).symm.trans H;rw [ig];with_reducible exact Md)|(have Md:=(Option.bind_some _ _).symm.trans H;with_reducible exact Md)|with_reducible exact H|(rw [ig];exact H)|exact H
     have Fk:=ga.mk ig;clear ig
     by_cases c4:(strOfNums Yf).size + Cc.size ≤ 9223372036854775807
     ·rw [if_pos c4] at H;have Dk:=eq_true c4;have Jac:decide ((strOfNums Yf).size + Cc.size ≤ 9223372036854775807)=true:=decide_eq_true c4
      try have Nax:(9223372036854775807 < (strOfNums Yf).size + Cc.size)=False:=eq_false (Nat.not_lt.2 c4)
      have H':=ga.mk H;clear H;go_wp2_with (first|((with_reducible refine Ab (N:=12) rfl ?_);refine Kd.vk (Kd.int .u8) _ 5 ?hg (N:=12) ?hd (xs:=([(wrap64 (48 + (Int.tmod Yd 10))) % 256]:List Int)) (inner:=[.int .u8 ((wrap64 (48 + (Int.tmod Yd 10))) % 256)]) (ok:=fun _=>True) (Jh:=fun _=>True) ?hr ?hp (fun _ hk=>hk) trivial (Below.refl _ _) (Nat.le_refl _) (by simp) ?_;(case hd=>rfl);(case hg=>rfl);(case hr=>first|(go_simp;done)|(go_simp;rfl));(case hp=>exact (Sd.one (show Kd.M (Kd.int .u8) _ _ _ ((wrap64 (48 + (Int.tmod Yd 10))) % 256) [.int .u8 ((wrap64 (48 + (Int.tmod Yd 10))) % 256)] from rfl) (Sd.none _ _)));intro lH w5 OH hb Ol Re;clear Ol Re;(first|rw [← Fk.out] at OH|(simp only [Int.reduceToNat] at OH;rw [← Fk.out] at OH));have Eb:=ga.mk (Kd.Fe OH (Ja (by repeat (first|(with_reducible first|exact HB.out|apply oa|apply ia|apply qa)|exact HB.out))));have Ib:=ga.mk (Qa (by repeat (first|(with_reducible first|exact HB.out|apply oa|apply ia|apply qa)|exact HB.out)) hb);clear HB;have Vq:=Eb;have HB:=Ib;clear Eb Ib hb OH;have fax:=UJ (P:=Try.prog) Try.underlying148 Try.underlying5 Try.underlying9 (Kd.Cw Vq.out)))
      go_roundg k1
      case measure=>have:=uf.out;omega
      case rel=>exact ⟨(wrap64 (Int.tdiv Yd 10)),((strOfNums Yf) ++ Cc),(by first|rfl|(simp;done)|(simp [*];done)),(by first|rfl|(simp;done)|(simp [*];done)),H',⟨by have:=uf.out;omega⟩,⟨by repeat (first|(with_reducible first|exact HB.out|apply oa|apply ia|apply qa)|exact HB.out)⟩⟩
     ·rw [if_neg c4] at H;exact absurd H (by simp)
    ·rw [if_neg c3] at H;have dh:decide (0 < Yd)=false:=decide_eq_false c3;clear c3
     by_cases c8:1 + Cc.size ≤ 9223372036854775807
     ·rw [if_pos c8] at H;have VC:=eq_true c8;have aX:decide (1 + Cc.size ≤ 9223372036854775807)=true:=decide_eq_true c8
      try have Lax:(9223372036854775807 < 1 + Cc.size)=False:=eq_false (Nat.not_lt.2 c8)
      obtain rfl:=Option.some.inj H;go_wp2;go_ret;exact ⟨by first|rfl|(simp [Pa,Oa] <;> rfl)|(simp [*,Pa,Oa] <;> rfl),by repeat (first|(with_reducible first|exact HB.out|apply oa|apply ia|apply qa)|exact HB.out)⟩
     ·rw [if_neg c8] at H;exact absurd H (by simp)
def Sc.l0:Nat→List (jd)→Int→Int→Option (Int × (List (jd)))
 | 0,_,_,_=>none
 | k + 1,x0,x1,x5=>if x5 < (x0.length:Int) then (if 0 ≤ x5 then ((some (x0.set (x5:Int).toNat (⟨x1,(Ba x0 x5).f1,(Ba x0 x5).f2,(Ba x0 x5).f3,(Ba x0 x5).f4,(Ba x0 x5).f5,(Ba x0 x5).f6⟩:jd):List (jd))).bind fun Yf=>((some (Yf.set (x5:Int).toNat (⟨(Ba Yf x5).f0,wrap64 (x1 + 1),(Ba Yf x5).f2,(Ba Yf x5).f3,(Ba Yf x5).f4,(Ba Yf x5).f5,(Ba Yf x5).f6⟩:jd):List (jd))).bind fun Xd=>((some (Xd.set (x5:Int).toNat (⟨(Ba Xd x5).f0,(Ba Xd x5).f1,wrap64 ((wrap64 (x1 + 1)) + 1),(Ba Xd x5).f3,(Ba Xd x5).f4,(Ba Xd x5).f5,(Ba Xd x5).f6⟩:jd):List (jd))).bind fun zg=>((some (zg.set (x5:Int).toNat (⟨(Ba zg x5).f0,(Ba zg x5).f1,(Ba zg x5).f2,wrap64 ((wrap64 ((wrap64 (x1 + 1)) + 1)) + 1),(Ba zg x5).f4,(Ba zg x5).f5,(Ba zg x5).f6⟩:jd):List (jd))).bind fun Xf=>((some (Xf.set (x5:Int).toNat (⟨(Ba Xf x5).f0,(Ba Xf x5).f1,(Ba Xf x5).f2,(Ba Xf x5).f3,wrap64 ((wrap64 ((wrap64 ((wrap64 (x1 + 1)) + 1)) + 1)) + 1),(Ba Xf x5).f5,(Ba Xf x5).f6⟩:jd):List (jd))).bind fun Le=>((some (Le.set (x5:Int).toNat (⟨(Ba Le x5).f0,(Ba Le x5).f1,(Ba Le x5).f2,(Ba Le x5).f3,(Ba Le x5).f4,wrap64 ((wrap64 ((wrap64 ((wrap64 ((wrap64 (x1 + 1)) + 1)) + 1)) + 1)) + 1),(Ba Le x5).f6⟩:jd):List (jd))).bind fun Pe=>((ud.f k (wrap64 ((wrap64 ((wrap64 ((wrap64 ((wrap64 ((wrap64 (x1 + 1)) + 1)) + 1)) + 1)) + 1)) + 1))).bind fun t107=>(Sc.l0 k (Pe.set (x5:Int).toNat (⟨(Ba Pe x5).f0,(Ba Pe x5).f1,(Ba Pe x5).f2,(Ba Pe x5).f3,(Ba Pe x5).f4,(Ba Pe x5).f5,t107⟩:jd)) (wrap64 ((wrap64 ((wrap64 ((wrap64 ((wrap64 ((wrap64 ((wrap64 (x1 + 1)) + 1)) + 1)) + 1)) + 1)) + 1)) + 1)) (wrap64 (x5 + 1)))))))))) else (none)) else (some (x1,x0))
def Sc.f (k:Nat) (l0:List (jd)) (a1:Int):Option (Int × (List (jd))):=Sc.l0 k l0 a1 0
theorem Sc.calls (k:Nat) (Vk:Nat→Prop) (Bg:Value) (l0:List (jd)) (a1:Int) (r1:Int) (r2:List (jd)) (w0 w:World) (hB:Below w0.heap.size w0 w) (Ri:Kd.R Zf 122 w w0.heap.size Vk Bg l0) (h:Sc.f k l0 a1=some (r1,r2)) :
  Calls Try.prog 111 #[Bg,.int .i64 a1] w fun e w'=>e = .returned (.int .i64 r1)∧Kd.R Zf 122 w' w0.heap.size (fun k_=>(Vk k_ ∨ w.heap.size ≤ k_)) Bg r2∧Below w0.heap.size w0 w'∧Kept w w' (fun k_=>Vk k_):=by
 have R7:=ga.mk (show Kd.R Zf 122 w w0.heap.size (fun k_=>(Vk k_ ∨ w.heap.size ≤ k_)) Bg l0 from Kd.Mc Ri (fun k_ hk=>(.inl hk)));have HK:=ga.mk (Kept.refl w (fun k_=>Vk k_));have HW0:=ga.mk hB.size;have HB:=ga.mk hB;clear hB;have H:(Sc.l0 k l0 a1 0)=some (r1,r2):=h;clear h;have H':=ga.mk H;clear H;go_enter Try.func111,Try.ntmps111;go_wp2
 go_loopg [1,5] k (fun kq v1 v5 w'=>∃ (Yd:List (jd)) (ze:Int) (Aa:Int),v1 = .int .i64 ze∧v5 = .int .i64 Aa∧ga (Sc.l0 kq Yd ze Aa=some (r1,r2))∧ga (kq ≤ k)∧ga (Kd.R Zf 122 w' w0.heap.size (fun k_=>(Vk k_ ∨ w.heap.size ≤ k_)) Bg Yd)∧ga (Kept w w' (fun k_=>Vk k_))∧ga (Below w0.heap.size w0 w'))
 case atStart=>exact ⟨(l0),(a1),(0),(by first|rfl|(simp;done)|(simp [*];done)),(by first|rfl|(simp;done)|(simp [*];done)),H',⟨Nat.le_refl _⟩,⟨by (with_reducible repeat (first|apply Kd.Va|apply Kd.Ua|apply Kd.jb));exact R7.out⟩,⟨by repeat (first|(with_reducible first|exact HK.out|apply Kept.alloc|apply Kept.drewN|apply Kept.drew)|exact HK.out)⟩,⟨by repeat (first|(with_reducible first|exact HB.out|apply oa|apply ia|apply qa)|exact HB.out)⟩⟩
 case round =>
  clear H'
  try clear c1
  try clear p2
  (try clear HA);(try clear uf);(try clear Xe);(try clear HK);(try clear HB);obtain ⟨Yd,ze,Aa,rfl,rfl,HA,uf,Xe,HK,HB⟩:=hrel;cases gk with
  | zero=>exact absurd HA.out (by simp [Sc.l0])
  | succ k1 =>
   have H:=HA.out;clear HA;simp only [Sc.l0] at H
   by_cases c3:Aa < (Yd.length:Int)
   ·rw [if_pos c3] at H;have dh:decide (Aa < (Yd.length:Int))=true:=decide_eq_true c3;clear c3
    by_cases c4:0 ≤ Aa
    ·rw [if_pos c4] at H;have Dk:decide (0 ≤ Aa)=true:=decide_eq_true c4;clear c4;obtain ⟨Yf,ig⟩:∃ y_:List (jd),y_=(Yd.set (Aa:Int).toNat (⟨ze,(Ba Yd Aa).f1,(Ba Yd Aa).f2,(Ba Yd Aa).f3,(Ba Yd Aa).f4,(Ba Yd Aa).f5,(Ba Yd Aa).f6⟩:jd)):=⟨_,rfl⟩;replace H:((some (Yf.set (Aa:Int).toNat (⟨(Ba Yf Aa).f0,wrap64 (ze + 1),(Ba Yf Aa).f2,(Ba Yf Aa).f3,(Ba Yf Aa).f4,(Ba Yf Aa).f5,(Ba Yf Aa).f6⟩:jd):List (jd))).bind fun Xd=>((some (Xd.set (Aa:Int).toNat (⟨(Ba Xd Aa).f0,(Ba Xd Aa).f1,wrap64 ((wrap64 (ze + 1)) + 1),(Ba Xd Aa).f3,(Ba Xd Aa).f4,(Ba Xd Aa).f5,(Ba Xd Aa).f6⟩:jd):List (jd))).bind fun zg=>((some (zg.set (Aa:Int).toNat (⟨(Ba zg Aa).f0,(Ba zg Aa).f1,(Ba zg Aa).f2,wrap64 ((wrap64 ((wrap64 (ze + 1)) + 1)) + 1),(Ba zg Aa).f4,(Ba zg Aa).f5,(Ba zg Aa).f6⟩:jd):List (jd))).bind fun Xf=>((some (Xf.set (Aa:Int).toNat (⟨(Ba Xf Aa).f0,(Ba Xf Aa).f1,(Ba Xf Aa).f2,(Ba Xf Aa).f3,wrap64 ((wrap64 ((wrap64 ((wrap64 (ze + 1)) + 1)) + 1)) + 1),(Ba Xf Aa).f5,(Ba Xf Aa).f6⟩:jd):List (jd))).bind fun Le=>((some (Le.set (Aa:Int).toNat (⟨(Ba Le Aa).f0,(Ba Le Aa).f1,(Ba Le Aa).f2,(Ba Le Aa).f3,(Ba Le Aa).f4,wrap64 ((wrap64 ((wrap64 ((wrap64 ((wrap64 (ze + 1)) + 1)) + 1)) + 1)) + 1),(Ba Le Aa).f6⟩:jd):List (jd))).bind fun Pe=>((ud.f k1 (wrap64 ((wrap64 ((wrap64 ((wrap64 ((wrap64 ((wrap64 (ze + 1)) + 1)) + 1)) + 1)) + 1)) + 1))).bind fun t107=>(Sc.l0 k1 (Pe.set (Aa:Int).toNat (⟨(Ba Pe Aa).f0,(Ba Pe Aa).f1,(Ba Pe Aa).f2,(Ba Pe Aa).f3,(Ba Pe Aa).f4,(Ba Pe Aa).f5,t107⟩:jd)) (wrap64 ((wrap64 ((wrap64 ((wrap64 ((wrap64 ((wrap64 ((wrap64 (ze + 1)) + 1)) + 1)) + 1)) + 1)) + 1)) + 1)) (wrap64 (Aa + 1)))))))))=some (r1,r2):=by first|(rw [ig];with_reducible exact H)|(have Md:=(Option.bind_some _ _).symm.trans H;rw [ig];with_reducible exact Md)|(have Md:=(Option.bind_some _ _).symm.trans H;with_reducible exact Md)|with_reducible exact H|(rw [ig];exact H)|exact H
     have Fk:=ga.mk ig;clear ig;obtain ⟨Xd,lf⟩:∃ y_:List (jd),y_=(Yf.set (Aa:Int).toNat (⟨(Ba Yf Aa).f0,wrap64 (ze + 1),(Ba Yf Aa).f2,(Ba Yf Aa).f3,(Ba Yf Aa).f4,(Ba Yf Aa).f5,(Ba Yf Aa).f6⟩:jd)):=⟨_,rfl⟩;replace H:((some (Xd.set (Aa:Int).toNat (⟨(Ba Xd Aa).f0,(Ba Xd Aa).f1,wrap64 ((wrap64 (ze + 1)) + 1),(Ba Xd Aa).f3,(Ba Xd Aa).f4,(Ba Xd Aa).f5,(Ba Xd Aa).f6⟩:jd):List (jd))).bind fun zg=>((some (zg.set (Aa:Int).toNat (⟨(Ba zg Aa).f0,(Ba zg Aa).f1,(Ba zg Aa).f2,wrap64 ((wrap64 ((wrap64 (ze + 1)) + 1)) + 1),(Ba zg Aa).f4,(Ba zg Aa).f5,(Ba zg Aa).f6⟩:jd):List (jd))).bind fun Xf=>((some (Xf.set (Aa:Int).toNat (⟨(Ba Xf Aa).f0,(Ba Xf Aa).f1,(Ba Xf Aa).f2,(Ba Xf Aa).f3,wrap64 ((wrap64 ((wrap64 ((wrap64 (ze + 1)) + 1)) + 1)) + 1),(Ba Xf Aa).f5,(Ba Xf Aa).f6⟩:jd):List (jd))).bind fun Le=>((some (Le.set (Aa:Int).toNat (⟨(Ba Le Aa).f0,(Ba Le Aa).f1,(Ba Le Aa).f2,(Ba Le Aa).f3,(Ba Le Aa).f4,wrap64 ((wrap64 ((wrap64 ((wrap64 ((wrap64 (ze + 1)) + 1)) + 1)) + 1)) + 1),(Ba Le Aa).f6⟩:jd):List (jd))).bind fun Pe=>((ud.f k1 (wrap64 ((wrap64 ((wrap64 ((wrap64 ((wrap64 ((wrap64 (ze + 1)) + 1)) + 1)) + 1)) + 1)) + 1))).bind fun t107=>(Sc.l0 k1 (Pe.set (Aa:Int).toNat (⟨(Ba Pe Aa).f0,(Ba Pe Aa).f1,(Ba Pe Aa).f2,(Ba Pe Aa).f3,(Ba Pe Aa).f4,(Ba Pe Aa).f5,t107⟩:jd)) (wrap64 ((wrap64 ((wrap64 ((wrap64 ((wrap64 ((wrap64 ((wrap64 (ze + 1)) + 1)) + 1)) + 1)) + 1)) + 1)) + 1)) (wrap64 (Aa + 1))))))))=some (r1,r2):=by first|(rw [lf];with_reducible exact H)|(have Md:=(Option.bind_some _ _).symm.trans H;rw [lf];with_reducible exact Md)|(have Md:=(Option.bind_some _ _).symm.trans H;with_reducible exact Md)|with_reducible exact H|(rw [lf];exact H)|exact H
     have xh:=ga.mk lf;clear lf;obtain ⟨zg,en⟩:∃ y_:List (jd),y_=(Xd.set (Aa:Int).toNat (⟨(Ba Xd Aa).f0,(Ba Xd Aa).f1,wrap64 ((wrap64 (ze + 1)) + 1),(Ba Xd Aa).f3,(Ba Xd Aa).f4,(Ba Xd Aa).f5,(Ba Xd Aa).f6⟩:jd)):=⟨_,rfl⟩;replace H:((some (zg.set (Aa:Int).toNat (⟨(Ba zg Aa).f0,(Ba zg Aa).f1,(Ba zg Aa).f2,wrap64 ((wrap64 ((wrap64 (ze + 1)) + 1)) + 1),(Ba zg Aa).f4,(Ba zg Aa).f5,(Ba zg Aa).f6⟩:jd):List (jd))).bind fun Xf=>((some (Xf.set (Aa:Int).toNat (⟨(Ba Xf Aa).f0,(Ba Xf Aa).f1,(Ba Xf Aa).f2,(Ba Xf Aa).f3,wrap64 ((wrap64 ((wrap64 ((wrap64 (ze + 1)) + 1)) + 1)) + 1),(Ba Xf Aa).f5,(Ba Xf Aa).f6⟩:jd):List (jd))).bind fun Le=>((some (Le.set (Aa:Int).toNat (⟨(Ba Le Aa).f0,(Ba Le Aa).f1,(Ba Le Aa).f2,(Ba Le Aa).f3,(Ba Le Aa).f4,wrap64 ((wrap64 ((wrap64 ((wrap64 ((wrap64 (ze + 1)) + 1)) + 1)) + 1)) + 1),(Ba Le Aa).f6⟩:jd):List (jd))).bind fun Pe=>((ud.f k1 (wrap64 ((wrap64 ((wrap64 ((wrap64 ((wrap64 ((wrap64 (ze + 1)) + 1)) + 1)) + 1)) + 1)) + 1))).bind fun t107=>(Sc.l0 k1 (Pe.set (Aa:Int).toNat (⟨(Ba Pe Aa).f0,(Ba Pe Aa).f1,(Ba Pe Aa).f2,(Ba Pe Aa).f3,(Ba Pe Aa).f4,(Ba Pe Aa).f5,t107⟩:jd)) (wrap64 ((wrap64 ((wrap64 ((wrap64 ((wrap64 ((wrap64 ((wrap64 (ze + 1)) + 1)) + 1)) + 1)) + 1)) + 1)) + 1)) (wrap64 (Aa + 1)))))))=some (r1,r2):=by first|(rw [en];with_reducible exact H)|(have Md:=(Option.bind_some _ _).symm.trans H;rw [en];with_reducible exact Md)|(have Md:=(Option.bind_some _ _).symm.trans H;with_reducible exact Md)|with_reducible exact H|(rw [en];exact H)|exact H
     have GD:=ga.mk en;clear en;obtain ⟨Xf,dn⟩:∃ y_:List (jd),y_=(zg.set (Aa:Int).toNat (⟨(Ba zg Aa).f0,(Ba zg Aa).f1,(Ba zg Aa).f2,wrap64 ((wrap64 ((wrap64 (ze + 1)) + 1)) + 1),(Ba zg Aa).f4,(Ba zg Aa).f5,(Ba zg Aa).f6⟩:jd)):=⟨_,rfl⟩;replace H:((some (Xf.set (Aa:Int).toNat (⟨(Ba Xf Aa).f0,(Ba Xf Aa).f1,(Ba Xf Aa).f2,(Ba Xf Aa).f3,wrap64 ((wrap64 ((wrap64 ((wrap64 (ze + 1)) + 1)) + 1)) + 1),(Ba Xf Aa).f5,(Ba Xf Aa).f6⟩:jd):List (jd))).bind fun Le=>((some (Le.set (Aa:Int).toNat (⟨(Ba Le Aa).f0,(Ba Le Aa).f1,(Ba Le Aa).f2,(Ba Le Aa).f3,(Ba Le Aa).f4,wrap64 ((wrap64 ((wrap64 ((wrap64 ((wrap64 (ze + 1)) + 1)) + 1)) + 1)) + 1),(Ba Le Aa).f6⟩:jd):List (jd))).bind fun Pe=>((ud.f k1 (wrap64 ((wrap64 ((wrap64 ((wrap64 ((wrap64 ((wrap64 (ze + 1)) + 1)) + 1)) + 1)) + 1)) + 1))).bind fun t107=>(Sc.l0 k1 (Pe.set (Aa:Int).toNat (⟨(Ba Pe Aa).f0,(Ba Pe Aa).f1,(Ba Pe Aa).f2,(Ba Pe Aa).f3,(Ba Pe Aa).f4,(Ba Pe Aa).f5,t107⟩:jd)) (wrap64 ((wrap64 ((wrap64 ((wrap64 ((wrap64 ((wrap64 ((wrap64 (ze + 1)) + 1)) + 1)) + 1)) + 1)) + 1)) + 1)) (wrap64 (Aa + 1))))))=some (r1,r2):=by first|(rw [dn];with_reducible exact H)|(have Md:=(Option.bind_some _ _).symm.trans H;rw [dn];with_reducible exact Md)|(have Md:=(Option.bind_some _ _).symm.trans H;with_reducible exact Md)|with_reducible exact H|(rw [dn];exact H)|exact H
     have bJ:=ga.mk dn;clear dn;obtain ⟨Le,bh⟩:∃ y_:List (jd),y_=(Xf.set (Aa:Int).toNat (⟨(Ba Xf Aa).f0,(Ba Xf Aa).f1,(Ba Xf Aa).f2,(Ba Xf Aa).f3,wrap64 ((wrap64 ((wrap64 ((wrap64 (ze + 1)) + 1)) + 1)) + 1),(Ba Xf Aa).f5,(Ba Xf Aa).f6⟩:jd)):=⟨_,rfl⟩;replace H:((some (Le.set (Aa:Int).toNat (⟨(Ba Le Aa).f0,(Ba Le Aa).f1,(Ba Le Aa).f2,(Ba Le Aa).f3,(Ba Le Aa).f4,wrap64 ((wrap64 ((wrap64 ((wrap64 ((wrap64 (ze + 1)) + 1)) + 1)) + 1)) + 1),(Ba Le Aa).f6⟩:jd):List (jd))).bind fun Pe=>((ud.f k1 (wrap64 ((wrap64 ((wrap64 ((wrap64 ((wrap64 ((wrap64 (ze + 1)) + 1)) + 1)) + 1)) + 1)) + 1))).bind fun t107=>(Sc.l0 k1 (Pe.set (Aa:Int).toNat (⟨(Ba Pe Aa).f0,(Ba Pe Aa).f1,(Ba Pe Aa).f2,(Ba Pe Aa).f3,(Ba Pe Aa).f4,(Ba Pe Aa).f5,t107⟩:jd)) (wrap64 ((wrap64 ((wrap64 ((wrap64 ((wrap64 ((wrap64 ((wrap64 (ze + 1)) + 1)) + 1)) + 1)) + 1)) + 1)) + 1)) (wrap64 (Aa + 1)))))=some (r1,r2):=by first|(rw [bh];with_reducible exact H)|(have Md:=(Option.bind_some _ _).symm.trans H;rw [bh];with_reducible exact Md)|(have Md:=(Option.bind_some _ _).symm.trans H;with_reducible exact Md)|with_reducible exact H|(rw [bh];exact H)|exact H
     have vq:=ga.mk bh;clear bh;obtain ⟨Pe,LH⟩:∃ y_:List (jd),y_=(Le.set (Aa:Int).toNat (⟨(Ba Le Aa).f0,(Ba Le Aa).f1,(Ba Le Aa).f2,(Ba Le Aa).f3,(Ba Le Aa).f4,wrap64 ((wrap64 ((wrap64 ((wrap64 ((wrap64 (ze + 1)) + 1)) + 1)) + 1)) + 1),(Ba Le Aa).f6⟩:jd)):=⟨_,rfl⟩;replace H:((ud.f k1 (wrap64 ((wrap64 ((wrap64 ((wrap64 ((wrap64 ((wrap64 (ze + 1)) + 1)) + 1)) + 1)) + 1)) + 1))).bind fun t107=>(Sc.l0 k1 (Pe.set (Aa:Int).toNat (⟨(Ba Pe Aa).f0,(Ba Pe Aa).f1,(Ba Pe Aa).f2,(Ba Pe Aa).f3,(Ba Pe Aa).f4,(Ba Pe Aa).f5,t107⟩:jd)) (wrap64 ((wrap64 ((wrap64 ((wrap64 ((wrap64 ((wrap64 ((wrap64 (ze + 1)) + 1)) + 1)) + 1)) + 1)) + 1)) + 1)) (wrap64 (Aa + 1))))=some (r1,r2):=by first|(rw [LH];with_reducible exact H)|(have Md:=(Option.bind_some _ _).symm.trans H;rw [LH];with_reducible exact Md)|(have Md:=(Option.bind_some _ _).symm.trans H;with_reducible exact Md)|with_reducible exact H|(rw [LH];exact H)|exact H
     have Ead:=ga.mk LH;clear LH;replace H:=Option.bind_eq_some_iff.mp H;obtain ⟨t107,RS,H⟩:=H;replace H:(Sc.l0 k1 (Pe.set (Aa:Int).toNat (⟨(Ba Pe Aa).f0,(Ba Pe Aa).f1,(Ba Pe Aa).f2,(Ba Pe Aa).f3,(Ba Pe Aa).f4,(Ba Pe Aa).f5,t107⟩:jd)) (wrap64 ((wrap64 ((wrap64 ((wrap64 ((wrap64 ((wrap64 ((wrap64 (ze + 1)) + 1)) + 1)) + 1)) + 1)) + 1)) + 1)) (wrap64 (Aa + 1)))=some (r1,r2):=H;have KZ:=ga.mk RS;clear RS;obtain ⟨fB,Yj⟩:∃ y_:List (jd),y_=(Pe.set (Aa:Int).toNat (⟨(Ba Pe Aa).f0,(Ba Pe Aa).f1,(Ba Pe Aa).f2,(Ba Pe Aa).f3,(Ba Pe Aa).f4,(Ba Pe Aa).f5,t107⟩:jd)):=⟨_,rfl⟩;replace H:(Sc.l0 k1 fB (wrap64 ((wrap64 ((wrap64 ((wrap64 ((wrap64 ((wrap64 ((wrap64 (ze + 1)) + 1)) + 1)) + 1)) + 1)) + 1)) + 1)) (wrap64 (Aa + 1)))=some (r1,r2):=by first|(rw [Yj];with_reducible exact H)|(have Md:=(Option.bind_some _ _).symm.trans H;rw [Yj];with_reducible exact Md)|(have Md:=(Option.bind_some _ _).symm.trans H;with_reducible exact Md)|with_reducible exact H|(rw [Yj];exact H)|exact H
     have Pv:=ga.mk Yj;clear Yj;have H':=ga.mk H;clear H;obtain ⟨Tae,qv,N4⟩:=Kd.Nd Xe.out;subst N4;have p5:0 ≤ (Aa:Int):=of_decide_eq_true (by first|(with_reducible assumption)|assumption);have q5:(Aa:Int) < ((Yd.length:Int):Int):=of_decide_eq_true (by first|(with_reducible assumption)|assumption);obtain ⟨xg,co5,C4,gb5,gl5,cl5,CZ⟩:=Kd.Uk Xe.out (by omega);(first|cases C4|(injection C4 with Si nv ov;(first|subst Si|(injection Si with Si;subst Si));subst ov;clear nv));have JX:=ga.mk gb5;have GG5:=ga.mk CZ;clear gb5 gl5 CZ;have tae:=ga.mk (show (Vk xg ∨ w.heap.size ≤ xg) from (Xe.out.1 _ rfl));obtain ⟨ce5,qap,hM5,gI,XH⟩:=Kd.Bj Xe.out bk (Aa:Int) p5 q5;obtain rfl:=pg hM5;have J8:wr.cell? ⟨xg,(Aa:Int).toNat * 7,none⟩=some (.int .i64 ((Ba Yd Aa).f0)):=gI 0 _ rfl;have cas:wr.cell? ⟨xg,(Aa:Int).toNat * 7 + 1,none⟩=some (.int .i64 ((Ba Yd Aa).f1)):=gI 1 _ rfl;have bas:wr.cell? ⟨xg,(Aa:Int).toNat * 7 + 2,none⟩=some (.int .i64 ((Ba Yd Aa).f2)):=gI 2 _ rfl;have aas:wr.cell? ⟨xg,(Aa:Int).toNat * 7 + 3,none⟩=some (.int .i64 ((Ba Yd Aa).f3)):=gI 3 _ rfl;have Zar:wr.cell? ⟨xg,(Aa:Int).toNat * 7 + 4,none⟩=some (.int .i64 ((Ba Yd Aa).f4)):=gI 4 _ rfl;have Yar:wr.cell? ⟨xg,(Aa:Int).toNat * 7 + 5,none⟩=some (.int .i64 ((Ba Yd Aa).f5)):=gI 5 _ rfl;have Xar:wr.cell? ⟨xg,(Aa:Int).toNat * 7 + 6,none⟩=some (.string ((Ba Yd Aa).f6)):=gI 6 _ rfl;have qaa:wr.frozen? ⟨xg,(Aa:Int).toNat * 7,none⟩=false:=XH 0;have Aau:wr.frozen? ⟨xg,(Aa:Int).toNat * 7 + 1,none⟩=false:=XH 1;have zau:wr.frozen? ⟨xg,(Aa:Int).toNat * 7 + 2,none⟩=false:=XH 2;have yau:wr.frozen? ⟨xg,(Aa:Int).toNat * 7 + 3,none⟩=false:=XH 3;have xau:wr.frozen? ⟨xg,(Aa:Int).toNat * 7 + 4,none⟩=false:=XH 4;have wau:wr.frozen? ⟨xg,(Aa:Int).toNat * 7 + 5,none⟩=false:=XH 5;have vau:wr.frozen? ⟨xg,(Aa:Int).toNat * 7 + 6,none⟩=false:=XH 6;clear qap gI XH hM5;replace p5:=eq_true p5;replace q5:=eq_true q5;have Xad:=ga.mk (show Kd.R Zf 122 wr w0.heap.size (fun k_=>(Vk k_ ∨ w.heap.size ≤ k_)) (.slice (some ⟨xg,0,none⟩) Yd.length qv) Yd from (by (with_reducible repeat (first|apply Kd.Va|apply Kd.Ua|apply Kd.jb));exact Xe.out));obtain ⟨Kax,yY,aac,uR,pY⟩:=Kd.Bj Xad.out bk (Aa:Int) (of_decide_eq_true (by first|(with_reducible assumption)|assumption)) (by have h_:(Aa:Int) < ((Yd.length:Int):Int):=of_decide_eq_true (by first|(with_reducible assumption)|assumption);first|exact h_|(have e_:=(Kd.Jb Xe.out).1;omega)|simpa using h_);obtain rfl:=pg aac;have XK:=Kd.Ay Xad.out (Aa:Int) (of_decide_eq_true (by first|(with_reducible assumption)|assumption)) (by have h_:(Aa:Int) < ((Yd.length:Int):Int):=of_decide_eq_true (by first|(with_reducible assumption)|assumption);first|exact h_|(have e_:=(Kd.Jb Xe.out).1;omega)|simpa using h_) (seg:=[.int .i64 ze]) (j:=0) yY uR (show 1 ≤ 7 from by decide) (x':=(⟨ze,(Ba Yd Aa).f1,(Ba Yd Aa).f2,(Ba Yd Aa).f3,(Ba Yd Aa).f4,(Ba Yd Aa).f5,(Ba Yd Aa).f6⟩:jd)) (ql _ _ _ (⟨ze,(Ba Yd Aa).f1,(Ba Yd Aa).f2,(Ba Yd Aa).f3,(Ba Yd Aa).f4,(Ba Yd Aa).f5,(Ba Yd Aa).f6⟩:jd) ) (fun _ hk=>hk);have N1:=uR 0 _ rfl;(try simp only [show (Zf).sz=7 from rfl,Nat.mul_one,Nat.add_zero] at N1);have C3:=pY 0;(try simp only [show (Zf).sz=7 from rfl,Nat.mul_one,Nat.add_zero] at C3);clear yY uR pY aac;go_wp2_with (first|((with_reducible refine gf (t:=3) (p:=16) rfl ?_);refine Ie (t:=3) (p:=16) (v:=?QZ) (w1:=(wr.setCell ⟨xg,(Aa:Int).toNat * 7,none⟩ (.int .i64 ze))) ?hg ?ho ?hn ?hr ?_;(case ho=>rfl);(case hg=>rfl);(case hn=>rfl);(case hr=>first|(go_simp;done)|(go_simp;rfl));intro Iq hw;have hg:wr.grownBy Iq (some xg):=(by rw [hw];exact XK.2);have Hl:Kd.R Zf 122 Iq w0.heap.size (fun k_=>(Vk k_ ∨ w.heap.size ≤ k_)) (.slice (some ⟨xg,0,none⟩) Yd.length qv) Yf:=(by rw [hw,Fk.out];exact XK.1);clear XK;have Eb:=ga.mk (Hl);have Ib:=ga.mk ((by rw [hw];exact ua (HB.out) JX.out:Below w0.heap.size w0 Iq));have Sb:=ga.mk (Kept.Sg (S:=(fun k_=>Vk k_)) hg (by repeat (first|(with_reducible first|exact HK.out|apply Kept.alloc|apply Kept.drewN|apply Kept.drew)|exact HK.out)) (fun k_ e_=>(Xe.out.1 k_ e_)));clear Xe HB HK;have Xe:=Eb;have HB:=Ib;have HK:=Sb;clear Eb Ib Sb hg hw Hl;have p6:0 ≤ (Aa:Int):=of_decide_eq_true (by first|(with_reducible assumption)|assumption);have q6:(Aa:Int) < ((Yd.length:Int):Int):=of_decide_eq_true (by first|(with_reducible assumption)|assumption);obtain ⟨ce6,oap,hM6,fI,WH⟩:=Kd.Bj Xe.out bk (Aa:Int) p6 q6;obtain rfl:=pg hM6;have kD:Iq.cell? ⟨xg,(Aa:Int).toNat * 7,none⟩=some (.int .i64 ((Ba Yf Aa).f0)):=fI 0 _ rfl;have War:Iq.cell? ⟨xg,(Aa:Int).toNat * 7 + 1,none⟩=some (.int .i64 ((Ba Yf Aa).f1)):=fI 1 _ rfl;have Uar:Iq.cell? ⟨xg,(Aa:Int).toNat * 7 + 2,none⟩=some (.int .i64 ((Ba Yf Aa).f2)):=fI 2 _ rfl;have Tar:Iq.cell? ⟨xg,(Aa:Int).toNat * 7 + 3,none⟩=some (.int .i64 ((Ba Yf Aa).f3)):=fI 3 _ rfl;have Sar:Iq.cell? ⟨xg,(Aa:Int).toNat * 7 + 4,none⟩=some (.int .i64 ((Ba Yf Aa).f4)):=fI 4 _ rfl;have Rar:Iq.cell? ⟨xg,(Aa:Int).toNat * 7 + 5,none⟩=some (.int .i64 ((Ba Yf Aa).f5)):=fI 5 _ rfl;have Qar:Iq.cell? ⟨xg,(Aa:Int).toNat * 7 + 6,none⟩=some (.string ((Ba Yf Aa).f6)):=fI 6 _ rfl;have XQ:Iq.frozen? ⟨xg,(Aa:Int).toNat * 7,none⟩=false:=WH 0;have tau:Iq.frozen? ⟨xg,(Aa:Int).toNat * 7 + 1,none⟩=false:=WH 1;have sau:Iq.frozen? ⟨xg,(Aa:Int).toNat * 7 + 2,none⟩=false:=WH 2;have rau:Iq.frozen? ⟨xg,(Aa:Int).toNat * 7 + 3,none⟩=false:=WH 3;have qau:Iq.frozen? ⟨xg,(Aa:Int).toNat * 7 + 4,none⟩=false:=WH 4;have pau:Iq.frozen? ⟨xg,(Aa:Int).toNat * 7 + 5,none⟩=false:=WH 5;have oau:Iq.frozen? ⟨xg,(Aa:Int).toNat * 7 + 6,none⟩=false:=WH 6;clear oap fI WH hM6;replace p6:=eq_true p6;replace q6:=eq_true q6;have Wad:=ga.mk (show Kd.R Zf 122 Iq w0.heap.size (fun k_=>(Vk k_ ∨ w.heap.size ≤ k_)) (.slice (some ⟨xg,0,none⟩) Yd.length qv) Yf from (by (with_reducible repeat (first|apply Kd.Va|apply Kd.Ua|apply Kd.jb));exact Xe.out));obtain ⟨Jax,xY,Zab,tR,oY⟩:=Kd.Bj Wad.out bk (Aa:Int) (of_decide_eq_true (by first|(with_reducible assumption)|assumption)) (by have h_:(Aa:Int) < ((Yd.length:Int):Int):=of_decide_eq_true (by first|(with_reducible assumption)|assumption);first|exact h_|(have e_:=(Kd.Jb Xe.out).1;omega)|simpa using h_);obtain rfl:=pg Zab;have Z6:=Kd.Ay Wad.out (Aa:Int) (of_decide_eq_true (by first|(with_reducible assumption)|assumption)) (by have h_:(Aa:Int) < ((Yd.length:Int):Int):=of_decide_eq_true (by first|(with_reducible assumption)|assumption);first|exact h_|(have e_:=(Kd.Jb Xe.out).1;omega)|simpa using h_) (seg:=[.int .i64 (wrap64 (ze + 1))]) (j:=1) xY tR (show 2 ≤ 7 from by decide) (x':=(⟨(Ba Yf Aa).f0,wrap64 (ze + 1),(Ba Yf Aa).f2,(Ba Yf Aa).f3,(Ba Yf Aa).f4,(Ba Yf Aa).f5,(Ba Yf Aa).f6⟩:jd)) (ql _ _ _ (⟨(Ba Yf Aa).f0,wrap64 (ze + 1),(Ba Yf Aa).f2,(Ba Yf Aa).f3,(Ba Yf Aa).f4,(Ba Yf Aa).f5,(Ba Yf Aa).f6⟩:jd) ) (fun _ hk=>hk);have L1:=tR 1 _ rfl;(try simp only [show (Zf).sz=7 from rfl,Nat.mul_one,Nat.add_zero] at L1);have o3:=oY 1;(try simp only [show (Zf).sz=7 from rfl,Nat.mul_one,Nat.add_zero] at o3);clear xY tR oY Zab)|((with_reducible refine gf (t:=3) (p:=23) rfl ?_);refine Ie (t:=3) (p:=23) (v:=?fan) (w1:=(Iq.setCell ⟨xg,(Aa:Int).toNat * 7 + 1,none⟩ (.int .i64 (wrap64 (ze + 1))))) ?hg ?ho ?hn ?hr ?_;(case ho=>rfl);(case hg=>rfl);(case hn=>rfl);(case hr=>first|(go_simp;done)|(go_simp;rfl));intro zm hw;have hg:Iq.grownBy zm (some xg):=(by rw [hw];exact Z6.2);have Hl:Kd.R Zf 122 zm w0.heap.size (fun k_=>(Vk k_ ∨ w.heap.size ≤ k_)) (.slice (some ⟨xg,0,none⟩) Yd.length qv) Xd:=(by rw [hw,xh.out];exact Z6.1);clear Z6;have Eb:=ga.mk (Hl);have Ib:=ga.mk ((by rw [hw];exact ua (HB.out) JX.out:Below w0.heap.size w0 zm));have Sb:=ga.mk (Kept.Sg (S:=(fun k_=>Vk k_)) hg (by repeat (first|(with_reducible first|exact HK.out|apply Kept.alloc|apply Kept.drewN|apply Kept.drew)|exact HK.out)) (fun k_ e_=>(Xe.out.1 k_ e_)));clear Xe HB HK;have Xe:=Eb;have HB:=Ib;have HK:=Sb;clear Eb Ib Sb hg hw Hl;have p7:0 ≤ (Aa:Int):=of_decide_eq_true (by first|(with_reducible assumption)|assumption);have q7:(Aa:Int) < ((Yd.length:Int):Int):=of_decide_eq_true (by first|(with_reducible assumption)|assumption);obtain ⟨ce7,nap,hM7,dI,VH⟩:=Kd.Bj Xe.out bk (Aa:Int) p7 q7;obtain rfl:=pg hM7;have uQ:zm.cell? ⟨xg,(Aa:Int).toNat * 7,none⟩=some (.int .i64 ((Ba Xd Aa).f0)):=dI 0 _ rfl;have Par:zm.cell? ⟨xg,(Aa:Int).toNat * 7 + 1,none⟩=some (.int .i64 ((Ba Xd Aa).f1)):=dI 1 _ rfl;have Oar:zm.cell? ⟨xg,(Aa:Int).toNat * 7 + 2,none⟩=some (.int .i64 ((Ba Xd Aa).f2)):=dI 2 _ rfl;have Nar:zm.cell? ⟨xg,(Aa:Int).toNat * 7 + 3,none⟩=some (.int .i64 ((Ba Xd Aa).f3)):=dI 3 _ rfl;have Mar:zm.cell? ⟨xg,(Aa:Int).toNat * 7 + 4,none⟩=some (.int .i64 ((Ba Xd Aa).f4)):=dI 4 _ rfl;have Lar:zm.cell? ⟨xg,(Aa:Int).toNat * 7 + 5,none⟩=some (.int .i64 ((Ba Xd Aa).f5)):=dI 5 _ rfl;have Kar:zm.cell? ⟨xg,(Aa:Int).toNat * 7 + 6,none⟩=some (.string ((Ba Xd Aa).f6)):=dI 6 _ rfl;have paa:zm.frozen? ⟨xg,(Aa:Int).toNat * 7,none⟩=false:=VH 0;have nau:zm.frozen? ⟨xg,(Aa:Int).toNat * 7 + 1,none⟩=false:=VH 1;have mau:zm.frozen? ⟨xg,(Aa:Int).toNat * 7 + 2,none⟩=false:=VH 2;have lau:zm.frozen? ⟨xg,(Aa:Int).toNat * 7 + 3,none⟩=false:=VH 3;have kau:zm.frozen? ⟨xg,(Aa:Int).toNat * 7 + 4,none⟩=false:=VH 4;have jau:zm.frozen? ⟨xg,(Aa:Int).toNat * 7 + 5,none⟩=false:=VH 5;have iau:zm.frozen? ⟨xg,(Aa:Int).toNat * 7 + 6,none⟩=false:=VH 6;clear nap dI VH hM7;replace p7:=eq_true p7;replace q7:=eq_true q7;have Vad:=ga.mk (show Kd.R Zf 122 zm w0.heap.size (fun k_=>(Vk k_ ∨ w.heap.size ≤ k_)) (.slice (some ⟨xg,0,none⟩) Yd.length qv) Xd from (by (with_reducible repeat (first|apply Kd.Va|apply Kd.Ua|apply Kd.jb));exact Xe.out));obtain ⟨Iax,wY,Yab,sR,nY⟩:=Kd.Bj Vad.out bk (Aa:Int) (of_decide_eq_true (by first|(with_reducible assumption)|assumption)) (by have h_:(Aa:Int) < ((Yd.length:Int):Int):=of_decide_eq_true (by first|(with_reducible assumption)|assumption);first|exact h_|(have e_:=(Kd.Jb Xe.out).1;omega)|simpa using h_);obtain rfl:=pg Yab;have X6:=Kd.Ay Vad.out (Aa:Int) (of_decide_eq_true (by first|(with_reducible assumption)|assumption)) (by have h_:(Aa:Int) < ((Yd.length:Int):Int):=of_decide_eq_true (by first|(with_reducible assumption)|assumption);first|exact h_|(have e_:=(Kd.Jb Xe.out).1;omega)|simpa using h_) (seg:=[.int .i64 (wrap64 ((wrap64 (ze + 1)) + 1))]) (j:=2) wY sR (show 3 ≤ 7 from by decide) (x':=(⟨(Ba Xd Aa).f0,(Ba Xd Aa).f1,wrap64 ((wrap64 (ze + 1)) + 1),(Ba Xd Aa).f3,(Ba Xd Aa).f4,(Ba Xd Aa).f5,(Ba Xd Aa).f6⟩:jd)) (ql _ _ _ (⟨(Ba Xd Aa).f0,(Ba Xd Aa).f1,wrap64 ((wrap64 (ze + 1)) + 1),(Ba Xd Aa).f3,(Ba Xd Aa).f4,(Ba Xd Aa).f5,(Ba Xd Aa).f6⟩:jd) ) (fun _ hk=>hk);have K1:=sR 2 _ rfl;(try simp only [show (Zf).sz=7 from rfl,Nat.mul_one,Nat.add_zero] at K1);have j3:=nY 2;(try simp only [show (Zf).sz=7 from rfl,Nat.mul_one,Nat.add_zero] at j3);clear wY sR nY Yab)|((with_reducible refine gf (t:=3) (p:=30) rfl ?_);refine Ie (t:=3) (p:=30) (v:=?dan) (w1:=(zm.setCell ⟨xg,(Aa:Int).toNat * 7 + 2,none⟩ (.int .i64 (wrap64 ((wrap64 (ze + 1)) + 1))))) ?hg ?ho ?hn ?hr ?_;(case ho=>rfl);(case hg=>rfl);(case hn=>rfl);(case hr=>first|(go_simp;done)|(go_simp;rfl));intro Iy hw;have hg:zm.grownBy Iy (some xg):=(by rw [hw];exact X6.2);have Hl:Kd.R Zf 122 Iy w0.heap.size (fun k_=>(Vk k_ ∨ w.heap.size ≤ k_)) (.slice (some ⟨xg,0,none⟩) Yd.length qv) zg:=(by rw [hw,GD.out];exact X6.1);clear X6;have Eb:=ga.mk (Hl);have Ib:=ga.mk ((by rw [hw];exact ua (HB.out) JX.out:Below w0.heap.size w0 Iy));have Sb:=ga.mk (Kept.Sg (S:=(fun k_=>Vk k_)) hg (by repeat (first|(with_reducible first|exact HK.out|apply Kept.alloc|apply Kept.drewN|apply Kept.drew)|exact HK.out)) (fun k_ e_=>(Xe.out.1 k_ e_)));clear Xe HB HK;have Xe:=Eb;have HB:=Ib;have HK:=Sb;clear Eb Ib Sb hg hw Hl;have p8:0 ≤ (Aa:Int):=of_decide_eq_true (by first|(with_reducible assumption)|assumption);have q8:(Aa:Int) < ((Yd.length:Int):Int):=of_decide_eq_true (by first|(with_reducible assumption)|assumption);obtain ⟨ce8,lap,hM8,cI,UH⟩:=Kd.Bj Xe.out bk (Aa:Int) p8 q8;obtain rfl:=pg hM8;have UX:Iy.cell? ⟨xg,(Aa:Int).toNat * 7,none⟩=some (.int .i64 ((Ba zg Aa).f0)):=cI 0 _ rfl;have Jar:Iy.cell? ⟨xg,(Aa:Int).toNat * 7 + 1,none⟩=some (.int .i64 ((Ba zg Aa).f1)):=cI 1 _ rfl;have Iar:Iy.cell? ⟨xg,(Aa:Int).toNat * 7 + 2,none⟩=some (.int .i64 ((Ba zg Aa).f2)):=cI 2 _ rfl;have Har:Iy.cell? ⟨xg,(Aa:Int).toNat * 7 + 3,none⟩=some (.int .i64 ((Ba zg Aa).f3)):=cI 3 _ rfl;have Gar:Iy.cell? ⟨xg,(Aa:Int).toNat * 7 + 4,none⟩=some (.int .i64 ((Ba zg Aa).f4)):=cI 4 _ rfl;have Far:Iy.cell? ⟨xg,(Aa:Int).toNat * 7 + 5,none⟩=some (.int .i64 ((Ba zg Aa).f5)):=cI 5 _ rfl;have Ear:Iy.cell? ⟨xg,(Aa:Int).toNat * 7 + 6,none⟩=some (.string ((Ba zg Aa).f6)):=cI 6 _ rfl;have qY:Iy.frozen? ⟨xg,(Aa:Int).toNat * 7,none⟩=false:=UH 0;have hau:Iy.frozen? ⟨xg,(Aa:Int).toNat * 7 + 1,none⟩=false:=UH 1;have gau:Iy.frozen? ⟨xg,(Aa:Int).toNat * 7 + 2,none⟩=false:=UH 2;have fau:Iy.frozen? ⟨xg,(Aa:Int).toNat * 7 + 3,none⟩=false:=UH 3;have eau:Iy.frozen? ⟨xg,(Aa:Int).toNat * 7 + 4,none⟩=false:=UH 4;have dau:Iy.frozen? ⟨xg,(Aa:Int).toNat * 7 + 5,none⟩=false:=UH 5;have cau:Iy.frozen? ⟨xg,(Aa:Int).toNat * 7 + 6,none⟩=false:=UH 6;clear lap cI UH hM8;replace p8:=eq_true p8;replace q8:=eq_true q8;have Uad:=ga.mk (show Kd.R Zf 122 Iy w0.heap.size (fun k_=>(Vk k_ ∨ w.heap.size ≤ k_)) (.slice (some ⟨xg,0,none⟩) Yd.length qv) zg from (by (with_reducible repeat (first|apply Kd.Va|apply Kd.Ua|apply Kd.jb));exact Xe.out));obtain ⟨Hax,vY,Xab,rR,mY⟩:=Kd.Bj Uad.out bk (Aa:Int) (of_decide_eq_true (by first|(with_reducible assumption)|assumption)) (by have h_:(Aa:Int) < ((Yd.length:Int):Int):=of_decide_eq_true (by first|(with_reducible assumption)|assumption);first|exact h_|(have e_:=(Kd.Jb Xe.out).1;omega)|simpa using h_);obtain rfl:=pg Xab;have W6:=Kd.Ay Uad.out (Aa:Int) (of_decide_eq_true (by first|(with_reducible assumption)|assumption)) (by have h_:(Aa:Int) < ((Yd.length:Int):Int):=of_decide_eq_true (by first|(with_reducible assumption)|assumption);first|exact h_|(have e_:=(Kd.Jb Xe.out).1;omega)|simpa using h_) (seg:=[.int .i64 (wrap64 ((wrap64 ((wrap64 (ze + 1)) + 1)) + 1))]) (j:=3) vY rR (show 4 ≤ 7 from by decide) (x':=(⟨(Ba zg Aa).f0,(Ba zg Aa).f1,(Ba zg Aa).f2,wrap64 ((wrap64 ((wrap64 (ze + 1)) + 1)) + 1),(Ba zg Aa).f4,(Ba zg Aa).f5,(Ba zg Aa).f6⟩:jd)) (ql _ _ _ (⟨(Ba zg Aa).f0,(Ba zg Aa).f1,(Ba zg Aa).f2,wrap64 ((wrap64 ((wrap64 (ze + 1)) + 1)) + 1),(Ba zg Aa).f4,(Ba zg Aa).f5,(Ba zg Aa).f6⟩:jd) ) (fun _ hk=>hk);have I1:=rR 3 _ rfl;(try simp only [show (Zf).sz=7 from rfl,Nat.mul_one,Nat.add_zero] at I1);have Z2:=mY 3;(try simp only [show (Zf).sz=7 from rfl,Nat.mul_one,Nat.add_zero] at Z2);clear vY rR mY Xab)|((with_reducible refine gf (t:=3) (p:=37) rfl ?_);refine Ie (t:=3) (p:=37) (v:=?ban) (w1:=(Iy.setCell ⟨xg,(Aa:Int).toNat * 7 + 3,none⟩ (.int .i64 (wrap64 ((wrap64 ((wrap64 (ze + 1)) + 1)) + 1))))) ?hg ?ho ?hn ?hr ?_;(case ho=>rfl);(case hg=>rfl);(case hn=>rfl);(case hr=>first|(go_simp;done)|(go_simp;rfl));intro Rs hw;have hg:Iy.grownBy Rs (some xg):=(by rw [hw];exact W6.2);have Hl:Kd.R Zf 122 Rs w0.heap.size (fun k_=>(Vk k_ ∨ w.heap.size ≤ k_)) (.slice (some ⟨xg,0,none⟩) Yd.length qv) Xf:=(by rw [hw,bJ.out];exact W6.1);clear W6;have Eb:=ga.mk (Hl);have Ib:=ga.mk ((by rw [hw];exact ua (HB.out) JX.out:Below w0.heap.size w0 Rs));have Sb:=ga.mk (Kept.Sg (S:=(fun k_=>Vk k_)) hg (by repeat (first|(with_reducible first|exact HK.out|apply Kept.alloc|apply Kept.drewN|apply Kept.drew)|exact HK.out)) (fun k_ e_=>(Xe.out.1 k_ e_)));clear Xe HB HK;have Xe:=Eb;have HB:=Ib;have HK:=Sb;clear Eb Ib Sb hg hw Hl;have p9:0 ≤ (Aa:Int):=of_decide_eq_true (by first|(with_reducible assumption)|assumption);have q9:(Aa:Int) < ((Yd.length:Int):Int):=of_decide_eq_true (by first|(with_reducible assumption)|assumption);obtain ⟨ce9,kap,hM9,bI,TH⟩:=Kd.Bj Xe.out bk (Aa:Int) p9 q9;obtain rfl:=pg hM9;have tQ:Rs.cell? ⟨xg,(Aa:Int).toNat * 7,none⟩=some (.int .i64 ((Ba Xf Aa).f0)):=bI 0 _ rfl;have Dar:Rs.cell? ⟨xg,(Aa:Int).toNat * 7 + 1,none⟩=some (.int .i64 ((Ba Xf Aa).f1)):=bI 1 _ rfl;have Car:Rs.cell? ⟨xg,(Aa:Int).toNat * 7 + 2,none⟩=some (.int .i64 ((Ba Xf Aa).f2)):=bI 2 _ rfl;have Bar:Rs.cell? ⟨xg,(Aa:Int).toNat * 7 + 3,none⟩=some (.int .i64 ((Ba Xf Aa).f3)):=bI 3 _ rfl;have Aar:Rs.cell? ⟨xg,(Aa:Int).toNat * 7 + 4,none⟩=some (.int .i64 ((Ba Xf Aa).f4)):=bI 4 _ rfl;have zar:Rs.cell? ⟨xg,(Aa:Int).toNat * 7 + 5,none⟩=some (.int .i64 ((Ba Xf Aa).f5)):=bI 5 _ rfl;have yar:Rs.cell? ⟨xg,(Aa:Int).toNat * 7 + 6,none⟩=some (.string ((Ba Xf Aa).f6)):=bI 6 _ rfl;have WQ:Rs.frozen? ⟨xg,(Aa:Int).toNat * 7,none⟩=false:=TH 0;have bau:Rs.frozen? ⟨xg,(Aa:Int).toNat * 7 + 1,none⟩=false:=TH 1;have aau:Rs.frozen? ⟨xg,(Aa:Int).toNat * 7 + 2,none⟩=false:=TH 2;have Zat:Rs.frozen? ⟨xg,(Aa:Int).toNat * 7 + 3,none⟩=false:=TH 3;have Yat:Rs.frozen? ⟨xg,(Aa:Int).toNat * 7 + 4,none⟩=false:=TH 4;have Xat:Rs.frozen? ⟨xg,(Aa:Int).toNat * 7 + 5,none⟩=false:=TH 5;have Wat:Rs.frozen? ⟨xg,(Aa:Int).toNat * 7 + 6,none⟩=false:=TH 6;clear kap bI TH hM9;replace p9:=eq_true p9;replace q9:=eq_true q9;have Tad:=ga.mk (show Kd.R Zf 122 Rs w0.heap.size (fun k_=>(Vk k_ ∨ w.heap.size ≤ k_)) (.slice (some ⟨xg,0,none⟩) Yd.length qv) Xf from (by (with_reducible repeat (first|apply Kd.Va|apply Kd.Ua|apply Kd.jb));exact Xe.out));obtain ⟨Gax,uY,Wab,qR,lY⟩:=Kd.Bj Tad.out bk (Aa:Int) (of_decide_eq_true (by first|(with_reducible assumption)|assumption)) (by have h_:(Aa:Int) < ((Yd.length:Int):Int):=of_decide_eq_true (by first|(with_reducible assumption)|assumption);first|exact h_|(have e_:=(Kd.Jb Xe.out).1;omega)|simpa using h_);obtain rfl:=pg Wab;have V6:=Kd.Ay Tad.out (Aa:Int) (of_decide_eq_true (by first|(with_reducible assumption)|assumption)) (by have h_:(Aa:Int) < ((Yd.length:Int):Int):=of_decide_eq_true (by first|(with_reducible assumption)|assumption);first|exact h_|(have e_:=(Kd.Jb Xe.out).1;omega)|simpa using h_) (seg:=[.int .i64 (wrap64 ((wrap64 ((wrap64 ((wrap64 (ze + 1)) + 1)) + 1)) + 1))]) (j:=4) uY qR (show 5 ≤ 7 from by decide) (x':=(⟨(Ba Xf Aa).f0,(Ba Xf Aa).f1,(Ba Xf Aa).f2,(Ba Xf Aa).f3,wrap64 ((wrap64 ((wrap64 ((wrap64 (ze + 1)) + 1)) + 1)) + 1),(Ba Xf Aa).f5,(Ba Xf Aa).f6⟩:jd)) (ql _ _ _ (⟨(Ba Xf Aa).f0,(Ba Xf Aa).f1,(Ba Xf Aa).f2,(Ba Xf Aa).f3,wrap64 ((wrap64 ((wrap64 ((wrap64 (ze + 1)) + 1)) + 1)) + 1),(Ba Xf Aa).f5,(Ba Xf Aa).f6⟩:jd) ) (fun _ hk=>hk);have G1:=qR 4 _ rfl;(try simp only [show (Zf).sz=7 from rfl,Nat.mul_one,Nat.add_zero] at G1);have Y2:=lY 4;(try simp only [show (Zf).sz=7 from rfl,Nat.mul_one,Nat.add_zero] at Y2);clear uY qR lY Wab)|((with_reducible refine gf (t:=3) (p:=44) rfl ?_);refine Ie (t:=3) (p:=44) (v:=?aan) (w1:=(Rs.setCell ⟨xg,(Aa:Int).toNat * 7 + 4,none⟩ (.int .i64 (wrap64 ((wrap64 ((wrap64 ((wrap64 (ze + 1)) + 1)) + 1)) + 1))))) ?hg ?ho ?hn ?hr ?_;(case ho=>rfl);(case hg=>rfl);(case hn=>rfl);(case hr=>first|(go_simp;done)|(go_simp;rfl));intro wv hw;have hg:Rs.grownBy wv (some xg):=(by rw [hw];exact V6.2);have Hl:Kd.R Zf 122 wv w0.heap.size (fun k_=>(Vk k_ ∨ w.heap.size ≤ k_)) (.slice (some ⟨xg,0,none⟩) Yd.length qv) Le:=(by rw [hw,vq.out];exact V6.1);clear V6;have Eb:=ga.mk (Hl);have Ib:=ga.mk ((by rw [hw];exact ua (HB.out) JX.out:Below w0.heap.size w0 wv));have Sb:=ga.mk (Kept.Sg (S:=(fun k_=>Vk k_)) hg (by repeat (first|(with_reducible first|exact HK.out|apply Kept.alloc|apply Kept.drewN|apply Kept.drew)|exact HK.out)) (fun k_ e_=>(Xe.out.1 k_ e_)));clear Xe HB HK;have Xe:=Eb;have HB:=Ib;have HK:=Sb;clear Eb Ib Sb hg hw Hl;have GC:0 ≤ (Aa:Int):=of_decide_eq_true (by first|(with_reducible assumption)|assumption);have EC:(Aa:Int) < ((Yd.length:Int):Int):=of_decide_eq_true (by first|(with_reducible assumption)|assumption);obtain ⟨uac,aI,jI,Lj,Kj⟩:=Kd.Bj Xe.out bk (Aa:Int) GC EC;obtain rfl:=pg jI;have BQ:wv.cell? ⟨xg,(Aa:Int).toNat * 7,none⟩=some (.int .i64 ((Ba Le Aa).f0)):=Lj 0 _ rfl;have AQ:wv.cell? ⟨xg,(Aa:Int).toNat * 7 + 1,none⟩=some (.int .i64 ((Ba Le Aa).f1)):=Lj 1 _ rfl;have zQ:wv.cell? ⟨xg,(Aa:Int).toNat * 7 + 2,none⟩=some (.int .i64 ((Ba Le Aa).f2)):=Lj 2 _ rfl;have yQ:wv.cell? ⟨xg,(Aa:Int).toNat * 7 + 3,none⟩=some (.int .i64 ((Ba Le Aa).f3)):=Lj 3 _ rfl;have xQ:wv.cell? ⟨xg,(Aa:Int).toNat * 7 + 4,none⟩=some (.int .i64 ((Ba Le Aa).f4)):=Lj 4 _ rfl;have T1:wv.cell? ⟨xg,(Aa:Int).toNat * 7 + 5,none⟩=some (.int .i64 ((Ba Le Aa).f5)):=Lj 5 _ rfl;have O1:wv.cell? ⟨xg,(Aa:Int).toNat * 7 + 6,none⟩=some (.string ((Ba Le Aa).f6)):=Lj 6 _ rfl;have iR:wv.frozen? ⟨xg,(Aa:Int).toNat * 7,none⟩=false:=Kj 0;have fR:wv.frozen? ⟨xg,(Aa:Int).toNat * 7 + 1,none⟩=false:=Kj 1;have dR:wv.frozen? ⟨xg,(Aa:Int).toNat * 7 + 2,none⟩=false:=Kj 2;have cR:wv.frozen? ⟨xg,(Aa:Int).toNat * 7 + 3,none⟩=false:=Kj 3;have bR:wv.frozen? ⟨xg,(Aa:Int).toNat * 7 + 4,none⟩=false:=Kj 4;have E3:wv.frozen? ⟨xg,(Aa:Int).toNat * 7 + 5,none⟩=false:=Kj 5;have D3:wv.frozen? ⟨xg,(Aa:Int).toNat * 7 + 6,none⟩=false:=Kj 6;clear aI Lj Kj jI;replace GC:=eq_true GC;replace EC:=eq_true EC;have Sad:=ga.mk (show Kd.R Zf 122 wv w0.heap.size (fun k_=>(Vk k_ ∨ w.heap.size ≤ k_)) (.slice (some ⟨xg,0,none⟩) Yd.length qv) Le from (by (with_reducible repeat (first|apply Kd.Va|apply Kd.Ua|apply Kd.jb));exact Xe.out));obtain ⟨Fax,sY,Vab,pR,kY⟩:=Kd.Bj Sad.out bk (Aa:Int) (of_decide_eq_true (by first|(with_reducible assumption)|assumption)) (by have h_:(Aa:Int) < ((Yd.length:Int):Int):=of_decide_eq_true (by first|(with_reducible assumption)|assumption);first|exact h_|(have e_:=(Kd.Jb Xe.out).1;omega)|simpa using h_);obtain rfl:=pg Vab;have U6:=Kd.Ay Sad.out (Aa:Int) (of_decide_eq_true (by first|(with_reducible assumption)|assumption)) (by have h_:(Aa:Int) < ((Yd.length:Int):Int):=of_decide_eq_true (by first|(with_reducible assumption)|assumption);first|exact h_|(have e_:=(Kd.Jb Xe.out).1;omega)|simpa using h_) (seg:=[.int .i64 (wrap64 ((wrap64 ((wrap64 ((wrap64 ((wrap64 (ze + 1)) + 1)) + 1)) + 1)) + 1))]) (j:=5) sY pR (show 6 ≤ 7 from by decide) (x':=(⟨(Ba Le Aa).f0,(Ba Le Aa).f1,(Ba Le Aa).f2,(Ba Le Aa).f3,(Ba Le Aa).f4,wrap64 ((wrap64 ((wrap64 ((wrap64 ((wrap64 (ze + 1)) + 1)) + 1)) + 1)) + 1),(Ba Le Aa).f6⟩:jd)) (ql _ _ _ (⟨(Ba Le Aa).f0,(Ba Le Aa).f1,(Ba Le Aa).f2,(Ba Le Aa).f3,(Ba Le Aa).f4,wrap64 ((wrap64 ((wrap64 ((wrap64 ((wrap64 (ze + 1)) + 1)) + 1)) + 1)) + 1),(Ba Le Aa).f6⟩:jd) ) (fun _ hk=>hk);have E1:=pR 5 _ rfl;(try simp only [show (Zf).sz=7 from rfl,Nat.mul_one,Nat.add_zero] at E1);have X2:=kY 5;(try simp only [show (Zf).sz=7 from rfl,Nat.mul_one,Nat.add_zero] at X2);clear sY pR kY Vab)|((with_reducible refine gf (t:=3) (p:=51) rfl ?_);refine Ie (t:=3) (p:=51) (v:=?Zam) (w1:=(wv.setCell ⟨xg,(Aa:Int).toNat * 7 + 5,none⟩ (.int .i64 (wrap64 ((wrap64 ((wrap64 ((wrap64 ((wrap64 (ze + 1)) + 1)) + 1)) + 1)) + 1))))) ?hg ?ho ?hn ?hr ?_;(case ho=>rfl);(case hg=>rfl);(case hn=>rfl);(case hr=>first|(go_simp;done)|(go_simp;rfl));intro cO hw;have hg:wv.grownBy cO (some xg):=(by rw [hw];exact U6.2);have Hl:Kd.R Zf 122 cO w0.heap.size (fun k_=>(Vk k_ ∨ w.heap.size ≤ k_)) (.slice (some ⟨xg,0,none⟩) Yd.length qv) Pe:=(by rw [hw,Ead.out];exact U6.1);clear U6;have Eb:=ga.mk (Hl);have Ib:=ga.mk ((by rw [hw];exact ua (HB.out) JX.out:Below w0.heap.size w0 cO));have Sb:=ga.mk (Kept.Sg (S:=(fun k_=>Vk k_)) hg (by repeat (first|(with_reducible first|exact HK.out|apply Kept.alloc|apply Kept.drewN|apply Kept.drew)|exact HK.out)) (fun k_ e_=>(Xe.out.1 k_ e_)));clear Xe HB HK;have Xe:=Eb;have HB:=Ib;have HK:=Sb;clear Eb Ib Sb hg hw Hl)|((with_reducible refine zb (f:=127) rfl ?_);refine Pc (some 57) rfl rfl Try.func127 (by kernel_rfl) rfl #[.int .i64 (wrap64 ((wrap64 ((wrap64 ((wrap64 ((wrap64 ((wrap64 (ze + 1)) + 1)) + 1)) + 1)) + 1)) + 1))] rfl (by (try simp only [List.map_toArray,List.map_cons,List.map_nil]);first|done|rfl|(simp only [List.length_drop,List.length_take];rfl)) ?_;(with_reducible refine (ud.calls k1 (wrap64 ((wrap64 ((wrap64 ((wrap64 ((wrap64 ((wrap64 (ze + 1)) + 1)) + 1)) + 1)) + 1)) + 1)) t107 _ KZ.out).mono ?_);rintro e En ⟨rfl,hb⟩;refine ⟨_,rfl,?_⟩;have Eb:=ga.mk (Kd.Dd (by (with_reducible repeat (first|apply Kd.Va|apply Kd.Ua|apply Kd.jb));exact Xe.out) hb);have Ib:=ga.mk (Kept.below (S:=(fun k_=>Vk k_)) (by repeat (first|(with_reducible first|exact HK.out|apply Kept.alloc|apply Kept.drewN|apply Kept.drew)|exact HK.out)) hb);have Sb:=ga.mk (Qa (by repeat (first|(with_reducible first|exact HB.out|apply oa|apply ia|apply qa)|exact HB.out)) hb);clear Xe HK HB;have Xe:=Eb;have HK:=Ib;have HB:=Sb;clear Eb Ib Sb;(try clear hb);(try clear Qj);(try clear hk);(try clear hi);have p12:0 ≤ (Aa:Int):=of_decide_eq_true (by first|(with_reducible assumption)|assumption);have q12:(Aa:Int) < ((Yd.length:Int):Int):=of_decide_eq_true (by first|(with_reducible assumption)|assumption);obtain ⟨sac,mD,iI,kj,Jj⟩:=Kd.Bj Xe.out bk (Aa:Int) p12 q12;obtain rfl:=pg iI;have lE:En.cell? ⟨xg,(Aa:Int).toNat * 7,none⟩=some (.int .i64 ((Ba Pe Aa).f0)):=kj 0 _ rfl;have kE:En.cell? ⟨xg,(Aa:Int).toNat * 7 + 1,none⟩=some (.int .i64 ((Ba Pe Aa).f1)):=kj 1 _ rfl;have jE:En.cell? ⟨xg,(Aa:Int).toNat * 7 + 2,none⟩=some (.int .i64 ((Ba Pe Aa).f2)):=kj 2 _ rfl;have iE:En.cell? ⟨xg,(Aa:Int).toNat * 7 + 3,none⟩=some (.int .i64 ((Ba Pe Aa).f3)):=kj 3 _ rfl;have gE:En.cell? ⟨xg,(Aa:Int).toNat * 7 + 4,none⟩=some (.int .i64 ((Ba Pe Aa).f4)):=kj 4 _ rfl;have wQ:En.cell? ⟨xg,(Aa:Int).toNat * 7 + 5,none⟩=some (.int .i64 ((Ba Pe Aa).f5)):=kj 5 _ rfl;have vQ:En.cell? ⟨xg,(Aa:Int).toNat * 7 + 6,none⟩=some (.string ((Ba Pe Aa).f6)):=kj 6 _ rfl;have rF:En.frozen? ⟨xg,(Aa:Int).toNat * 7,none⟩=false:=Jj 0;have qF:En.frozen? ⟨xg,(Aa:Int).toNat * 7 + 1,none⟩=false:=Jj 1;have pF:En.frozen? ⟨xg,(Aa:Int).toNat * 7 + 2,none⟩=false:=Jj 2;have oF:En.frozen? ⟨xg,(Aa:Int).toNat * 7 + 3,none⟩=false:=Jj 3;have nF:En.frozen? ⟨xg,(Aa:Int).toNat * 7 + 4,none⟩=false:=Jj 4;have ZQ:En.frozen? ⟨xg,(Aa:Int).toNat * 7 + 5,none⟩=false:=Jj 5;have YQ:En.frozen? ⟨xg,(Aa:Int).toNat * 7 + 6,none⟩=false:=Jj 6;clear mD kj Jj iI;replace p12:=eq_true p12;replace q12:=eq_true q12;have Rad:=ga.mk (show Kd.R Zf 122 En w0.heap.size (fun k_=>(Vk k_ ∨ w.heap.size ≤ k_)) (.slice (some ⟨xg,0,none⟩) Yd.length qv) Pe from (by (with_reducible repeat (first|apply Kd.Va|apply Kd.Ua|apply Kd.jb));exact Xe.out));obtain ⟨Eax,rY,Uab,oR,jY⟩:=Kd.Bj Rad.out bk (Aa:Int) (of_decide_eq_true (by first|(with_reducible assumption)|assumption)) (by have h_:(Aa:Int) < ((Yd.length:Int):Int):=of_decide_eq_true (by first|(with_reducible assumption)|assumption);first|exact h_|(have e_:=(Kd.Jb Xe.out).1;omega)|simpa using h_);obtain rfl:=pg Uab;have S6:=Kd.Ay Rad.out (Aa:Int) (of_decide_eq_true (by first|(with_reducible assumption)|assumption)) (by have h_:(Aa:Int) < ((Yd.length:Int):Int):=of_decide_eq_true (by first|(with_reducible assumption)|assumption);first|exact h_|(have e_:=(Kd.Jb Xe.out).1;omega)|simpa using h_) (seg:=[.string t107]) (j:=6) rY oR (show 7 ≤ 7 from by decide) (x':=(⟨(Ba Pe Aa).f0,(Ba Pe Aa).f1,(Ba Pe Aa).f2,(Ba Pe Aa).f3,(Ba Pe Aa).f4,(Ba Pe Aa).f5,t107⟩:jd)) (ql _ _ _ (⟨(Ba Pe Aa).f0,(Ba Pe Aa).f1,(Ba Pe Aa).f2,(Ba Pe Aa).f3,(Ba Pe Aa).f4,(Ba Pe Aa).f5,t107⟩:jd) ) (fun _ hk=>hk);have D1:=oR 6 _ rfl;(try simp only [show (Zf).sz=7 from rfl,Nat.mul_one,Nat.add_zero] at D1);have V2:=jY 6;(try simp only [show (Zf).sz=7 from rfl,Nat.mul_one,Nat.add_zero] at V2);clear rY oR jY Uab)|((with_reducible refine gf (t:=9) (p:=59) rfl ?_);refine Ie (t:=9) (p:=59) (v:=?Yam) (w1:=(En.setCell ⟨xg,(Aa:Int).toNat * 7 + 6,none⟩ (.string t107))) ?hg ?ho ?hn ?hr ?_;(case ho=>rfl);(case hg=>rfl);(case hn=>rfl);(case hr=>first|(go_simp;done)|(go_simp;rfl));intro oJ hw;have hg:En.grownBy oJ (some xg):=(by rw [hw];exact S6.2);have Hl:Kd.R Zf 122 oJ w0.heap.size (fun k_=>(Vk k_ ∨ w.heap.size ≤ k_)) (.slice (some ⟨xg,0,none⟩) Yd.length qv) fB:=(by rw [hw,Pv.out];exact S6.1);clear S6;have Eb:=ga.mk (Hl);have Ib:=ga.mk ((by rw [hw];exact ua (HB.out) JX.out:Below w0.heap.size w0 oJ));have Sb:=ga.mk (Kept.Sg (S:=(fun k_=>Vk k_)) hg (by repeat (first|(with_reducible first|exact HK.out|apply Kept.alloc|apply Kept.drewN|apply Kept.drew)|exact HK.out)) (fun k_ e_=>(Xe.out.1 k_ e_)));clear Xe HB HK;have Xe:=Eb;have HB:=Ib;have HK:=Sb;clear Eb Ib Sb hg hw Hl))
     go_roundg k1
     case measure=>have:=uf.out;omega
     case rel=>exact ⟨(fB),(wrap64 ((wrap64 ((wrap64 ((wrap64 ((wrap64 ((wrap64 ((wrap64 (ze + 1)) + 1)) + 1)) + 1)) + 1)) + 1)) + 1)),(wrap64 (Aa + 1)),(by first|rfl|(simp;done)|(simp [*];done)),(by first|rfl|(simp;done)|(simp [*];done)),H',⟨by have:=uf.out;omega⟩,⟨by (with_reducible repeat (first|apply Kd.Va|apply Kd.Ua|apply Kd.jb));exact Xe.out⟩,⟨by repeat (first|(with_reducible first|exact HK.out|apply Kept.alloc|apply Kept.drewN|apply Kept.drew)|exact HK.out)⟩,⟨by repeat (first|(with_reducible first|exact HB.out|apply oa|apply ia|apply qa)|exact HB.out)⟩⟩
    ·rw [if_neg c4] at H;exact absurd H (by simp)
   ·rw [if_neg c3] at H;have dh:decide (Aa < (Yd.length:Int))=false:=decide_eq_false c3;clear c3;simp only [Option.some.injEq,Prod.mk.injEq] at H;obtain ⟨rfl,rfl⟩:=H;obtain ⟨Gay,vax,Yap⟩:=Kd.Nd Xe.out;subst Yap;go_wp2;go_ret;exact ⟨by first|rfl|(simp [Pa,Oa] <;> rfl)|(simp [*,Pa,Oa] <;> rfl),by (with_reducible repeat (first|apply Kd.Va|apply Kd.Ua|apply Kd.jb));exact Xe.out,by repeat (first|(with_reducible first|exact HB.out|apply oa|apply ia|apply qa)|exact HB.out),by repeat (first|(with_reducible first|exact HK.out|apply Kept.alloc|apply Kept.drewN|apply Kept.drew)|exact HK.out)⟩
def fe.l0:Nat→List Int→Int→Int→Option (Int × List Int)
 | 0,_,_,_=>none
 | k + 1,x0,x1,x5=>if x5 < (x0.length:Int) then (if 0 ≤ x5 then (fe.l0 k (x0.set (x5:Int).toNat x1) (wrap64 (x1 + 1)) (wrap64 (x5 + 1))) else (none)) else (some (x1,x0))
def fe.f (k:Nat) (l0:List Int) (a1:Int):Option (Int × List Int):=fe.l0 k l0 a1 0
theorem fe.calls (k:Nat) (Vk:Nat→Prop) (Bg:Value) (l0:List Int) (a1:Int) (r1:Int) (r2:List Int) (w0 w:World) (hB:Below w0.heap.size w0 w) (Ri:Kd.R (Kd.int .i64) 3 w w0.heap.size Vk Bg l0) (h:fe.f k l0 a1=some (r1,r2)) :
  Calls Try.prog 20 #[Bg,.int .i64 a1] w fun e w'=>e = .returned (.int .i64 r1)∧Kd.R (Kd.int .i64) 3 w' w0.heap.size (fun k_=>(Vk k_ ∨ w.heap.size ≤ k_)) Bg r2∧Below w0.heap.size w0 w'∧Kept w w' (fun k_=>Vk k_):=by
 have R7:=ga.mk (show Kd.R (Kd.int .i64) 3 w w0.heap.size (fun k_=>(Vk k_ ∨ w.heap.size ≤ k_)) Bg l0 from Kd.Mc Ri (fun k_ hk=>(.inl hk)));have HK:=ga.mk (Kept.refl w (fun k_=>Vk k_));have HW0:=ga.mk hB.size;have HB:=ga.mk hB;clear hB;have H:(fe.l0 k l0 a1 0)=some (r1,r2):=h;clear h;have H':=ga.mk H;clear H;go_enter Try.func20,Try.ntmps20;go_wp2
 go_loopg [1,5] k (fun kq v1 v5 w'=>∃ (Yd:List Int) (ze:Int) (Aa:Int),v1 = .int .i64 ze∧v5 = .int .i64 Aa∧ga (fe.l0 kq Yd ze Aa=some (r1,r2))∧ga (kq ≤ k)∧ga (Kd.R (Kd.int .i64) 3 w' w0.heap.size (fun k_=>(Vk k_ ∨ w.heap.size ≤ k_)) Bg Yd)∧ga (Kept w w' (fun k_=>Vk k_))∧ga (Below w0.heap.size w0 w'))
 case atStart=>exact ⟨(l0),(a1),(0),(by first|rfl|(simp;done)|(simp [*];done)),(by first|rfl|(simp;done)|(simp [*];done)),H',⟨Nat.le_refl _⟩,⟨by (with_reducible repeat (first|apply Kd.Va|apply Kd.Ua|apply Kd.jb));exact R7.out⟩,⟨by repeat (first|(with_reducible first|exact HK.out|apply Kept.alloc|apply Kept.drewN|apply Kept.drew)|exact HK.out)⟩,⟨by repeat (first|(with_reducible first|exact HB.out|apply oa|apply ia|apply qa)|exact HB.out)⟩⟩
 case round =>
  clear H'
  try clear c2
  try clear p2
  (try clear HA);(try clear uf);(try clear Xe);(try clear HK);(try clear HB);obtain ⟨Yd,ze,Aa,rfl,rfl,HA,uf,Xe,HK,HB⟩:=hrel;cases gk with
  | zero=>exact absurd HA.out (by simp [fe.l0])
  | succ k1 =>
   have H:=HA.out;clear HA;simp only [fe.l0] at H
   by_cases c3:Aa < (Yd.length:Int)
   ·rw [if_pos c3] at H;have dh:decide (Aa < (Yd.length:Int))=true:=decide_eq_true c3;clear c3
    by_cases c4:0 ≤ Aa
    ·rw [if_pos c4] at H;have Dk:decide (0 ≤ Aa)=true:=decide_eq_true c4;clear c4;obtain ⟨Yf,ig⟩:∃ y_:List Int,y_=(Yd.set (Aa:Int).toNat ze):=⟨_,rfl⟩;replace H:(fe.l0 k1 Yf (wrap64 (ze + 1)) (wrap64 (Aa + 1)))=some (r1,r2):=by first|(rw [ig];with_reducible exact H)|(have Md:=(Option.bind_some _ _).symm.trans H;rw [ig];with_reducible exact Md)|(have Md:=(Option.bind_some _ _).symm.trans H;with_reducible exact Md)|with_reducible exact H|(rw [ig];exact H)|exact H
     have Fk:=ga.mk ig;clear ig;have H':=ga.mk H;clear H;obtain ⟨Ao6,oy,eo6⟩:=Kd.Nd Xe.out;subst eo6;have p5:0 ≤ (Aa:Int):=of_decide_eq_true (by first|(with_reducible assumption)|assumption);have q5:(Aa:Int) < ((Yd.length:Int):Int):=of_decide_eq_true (by first|(with_reducible assumption)|assumption);obtain ⟨xg,co5,C4,gb5,gl5,cl5,CZ⟩:=Kd.Uk Xe.out (by omega);(first|cases C4|(injection C4 with Si nv ov;(first|subst Si|(injection Si with Si;subst Si));subst ov;clear nv));have JX:=ga.mk gb5;have GG5:=ga.mk CZ;clear gb5 gl5 CZ;have tae:=ga.mk (show (Vk xg ∨ w.heap.size ≤ xg) from (Xe.out.1 _ rfl));obtain ⟨J8,qaa⟩:=Kd.Fh 0 Xe.out (Aa:Int) p5 q5;replace p5:=eq_true p5;replace q5:=eq_true q5;have HP7:=Kd.Jm Xe.out (Aa:Int) ze;go_wp2_with (first|((with_reducible refine gf (t:=3) (p:=15) rfl ?_);refine Ie (t:=3) (p:=15) (v:=?jar) (w1:=(wr.setCell ⟨xg,(Aa:Int).toNat,none⟩ (.int .i64 ze))) ?hg ?ho ?hn ?hr ?_;(case ho=>rfl);(case hg=>rfl);(case hn=>rfl);(case hr=>first|(go_simp;done)|(go_simp;rfl));intro w8 hw;have hg:wr.grownBy w8 (some xg):=(by rw [hw];exact HP7.2);have Hl:Kd.R (Kd.int .i64) 3 w8 w0.heap.size (fun k_=>(Vk k_ ∨ w.heap.size ≤ k_)) (.slice (some ⟨xg,0,none⟩) Yd.length oy) Yf:=(by rw [hw,Fk.out];exact HP7.1);clear HP7;have Eb:=ga.mk (Hl);have Ib:=ga.mk ((by rw [hw];exact ua (HB.out) JX.out:Below w0.heap.size w0 w8));have Sb:=ga.mk (Kept.Sg (S:=(fun k_=>Vk k_)) hg (by repeat (first|(with_reducible first|exact HK.out|apply Kept.alloc|apply Kept.drewN|apply Kept.drew)|exact HK.out)) (fun k_ e_=>(Xe.out.1 k_ e_)));clear Xe HB HK;have Xe:=Eb;have HB:=Ib;have HK:=Sb;clear Eb Ib Sb hg hw Hl))
     go_roundg k1
     case measure=>have:=uf.out;omega
     case rel=>exact ⟨(Yf),(wrap64 (ze + 1)),(wrap64 (Aa + 1)),(by first|rfl|(simp;done)|(simp [*];done)),(by first|rfl|(simp;done)|(simp [*];done)),H',⟨by have:=uf.out;omega⟩,⟨by (with_reducible repeat (first|apply Kd.Va|apply Kd.Ua|apply Kd.jb));exact Xe.out⟩,⟨by repeat (first|(with_reducible first|exact HK.out|apply Kept.alloc|apply Kept.drewN|apply Kept.drew)|exact HK.out)⟩,⟨by repeat (first|(with_reducible first|exact HB.out|apply oa|apply ia|apply qa)|exact HB.out)⟩⟩
    ·rw [if_neg c4] at H;exact absurd H (by simp)
   ·rw [if_neg c3] at H;have dh:decide (Aa < (Yd.length:Int))=false:=decide_eq_false c3;clear c3;simp only [Option.some.injEq,Prod.mk.injEq] at H;obtain ⟨rfl,rfl⟩:=H;obtain ⟨Ao9,S4,M7⟩:=Kd.Nd Xe.out;subst M7;go_wp2;go_ret;exact ⟨by first|rfl|(simp [Pa,Oa] <;> rfl)|(simp [*,Pa,Oa] <;> rfl),by (with_reducible repeat (first|apply Kd.Va|apply Kd.Ua|apply Kd.jb));exact Xe.out,by repeat (first|(with_reducible first|exact HB.out|apply oa|apply ia|apply qa)|exact HB.out),by repeat (first|(with_reducible first|exact HK.out|apply Kept.alloc|apply Kept.drewN|apply Kept.drew)|exact HK.out)⟩
end Go.Proofs.Ytoomcmaifgkkfaa.P
end
