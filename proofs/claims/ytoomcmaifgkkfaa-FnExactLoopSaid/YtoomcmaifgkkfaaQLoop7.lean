import Derived.Test.YtoomcmaifgkkfaaQLoop1
import Derived.Test.YtoomcmaifgkkfaaQLoop6
import Derived.Shelf.Abstract
import Derived.Outline
import Derived.RegionTactic
import Derived.Test.YtoomcmaifgkkfaaQLoop3
import Derived.Test.YtoomcmaifgkkfaaQLoop4
import Derived.Test.YtoomcmaifgkkfaaQLoop5
import Derived.Deep.QuietTactic
import Derived.BigQuiet
import Derived.Test.YtoomcmaifgkkfaaQLoop2
set_option maxHeartbeats 8000000
set_option maxRecDepth 100000
section
namespace Go.Proofs.Ytoomcmaifgkkfaa.P
open Go.RowKit Go.Proofs.Aa.Db Go.Proofs.Aa.Tc Go.Proofs.Aa.ke
set_option linter.unusedVariables false
set_option linter.unusedSimpArgs false
attribute [local go_sem] fh bh Zh Yh mg lg dh ah
mutual
noncomputable def Va.l0:Nat→Int→List Bool→List Int→Int→List Int→Int→Int→Int→List (Wd)→Option ((List (List Bool)))
 | 0,_,_,_,_,_,_,_,_,_=>none
 | k + 1,x3,x4,x5,x6,Fc,Ec,Dc,Cc,Lb=>if x6 < (x5.length:Int) then (if 0 ≤ x6 then (if 0 ≤ (rd x5 x6) then (if (rd x5 x6) < (x4.length:Int) then (Va.l0 k x3 (x4.set ((rd x5 x6):Int).toNat true) x5 (wrap64 (x6 + 1)) Fc Ec Dc Cc Lb) else (none)) else (none)) else (none)) else (Va.l1 k x3 x4 (([]:List (List Bool))) 0 Fc Ec Dc Cc Lb)
noncomputable def Va.l1:Nat→Int→List Bool→List (List Bool)→Int→List Int→Int→Int→Int→List (Wd)→Option ((List (List Bool)))
 | 0,_,_,_,_,_,_,_,_,_=>none
 | k + 1,x3,x4,x7,x8,Fc,Ec,Dc,Cc,Lb=>if x8 < x3 then (if 0 ≤ x3 then (if (x3:Int).toNat ≤ 281474976710656 then ((some (List.replicate (x3:Int).toNat false:List Bool)).bind fun Zu=>(if x8=0 then (Va.j2 k x3 x4 x7 x8 Zu Fc Ec Dc Cc Lb) else ((Ab.f k Fc Ec Dc Cc Lb 0 x8 Zu).bind fun t116=>(Va.j2 k x3 x4 x7 x8 t116 Fc Ec Dc Cc Lb)))) else (none)) else (none)) else (some x7)
noncomputable def Va.j2:Nat→Int→List Bool→List (List Bool)→Int→List Bool→List Int→Int→Int→Int→List (Wd)→Option ((List (List Bool)))
 | 0,_,_,_,_,_,_,_,_,_,_=>none
 | k + 1,x3,x4,x7,x8,x9,Fc,Ec,Dc,Cc,Lb=>if 0 ≤ x3 then (if (x3:Int).toNat ≤ 281474976710656 then (Va.l2 k x3 x4 x7 x8 x9 (List.replicate (x3:Int).toNat false) 0 Fc Ec Dc Cc Lb) else (none)) else (none)
noncomputable def Va.l2:Nat→Int→List Bool→List (List Bool)→Int→List Bool→List Bool→Int→List Int→Int→Int→Int→List (Wd)→Option ((List (List Bool)))
 | 0,_,_,_,_,_,_,_,_,_,_,_,_=>none
 | k + 1,x3,x4,x7,x8,x9,sy,yC,Fc,Ec,Dc,Cc,Lb=>if yC < x3 then (if 0 ≤ x8 then (if x8 < (x4.length:Int) then (if xg false x4 x8=true then (if 0 ≤ yC then (if yC < (x4.length:Int) then (if xg false x4 yC=true then (if yC < (x9.length:Int) then (if yC < (sy.length:Int) then (Va.l2 k x3 x4 x7 x8 x9 (sy.set (yC:Int).toNat (!(xg false x9 yC))) (wrap64 (yC + 1)) Fc Ec Dc Cc Lb) else (none)) else (none)) else (if yC < (sy.length:Int) then (Va.l2 k x3 x4 x7 x8 x9 (sy.set (yC:Int).toNat false) (wrap64 (yC + 1)) Fc Ec Dc Cc Lb) else (none))) else (none)) else (none)) else (if 0 ≤ yC then (if yC < (sy.length:Int) then (Va.l2 k x3 x4 x7 x8 x9 (sy.set (yC:Int).toNat false) (wrap64 (yC + 1)) Fc Ec Dc Cc Lb) else (none)) else (none))) else (none)) else (none)) else (if x7.length < 5864062014805 then (Va.l1 k x3 x4 (x7 ++ [sy]) (wrap64 (x8 + 1)) Fc Ec Dc Cc Lb) else (none))
end
noncomputable def Va.f (k:Nat) (Ma:List Int) (Oa:Int) (Pa:Int) (Na:Int) (oa:List (Wd)):Option ((List (List Bool))):=if 0 ≤ (oa.length:Int) then (if ((oa.length:Int):Int).toNat ≤ 281474976710656 then ((Cb.f k Ma Oa Pa Na oa).bind fun t105=>(Va.l0 k (oa.length:Int) (List.replicate ((oa.length:Int):Int).toNat false) t105 0 Ma Oa Pa Na oa)) else (none)) else (none)
theorem Va.calls (k:Nat) (zb:Option Addr) (yb:Nat) (Ma:List Int) (Oa:Int) (Pa:Int) (Na:Int) (Ob:Option Addr) (Fb:Nat) (oa:List (Wd)) (r:List (List Bool)) (w:World) (qd:Kd.C (Kd.int .i64) w zb Ma.length Ma) (Ad:Ma.length ≤ yb) (fe:Kd.C Km w Ob oa.length oa) (Fe:oa.length ≤ Fb) (h:Va.f k Ma Oa Pa Na oa=some r) :
  Calls Try.prog 67 #[.agg #[.slice zb Ma.length yb,.int .i64 Oa,.int .i64 Pa,.int .i64 Na,.slice Ob oa.length Fb]] w fun e w'=>∃ Di:Value,e = .returned (Di)∧Kd.S (Kd.slice 4 Kd.bool) 73 w' w.heap.size (fun _=>True) Di r∧Below w.heap.size w w':=by
 have gD:=Try.underlying45;have Ng:=aa.mk qd;have Pg:=aa.mk Ad;clear qd Ad;have Dh:=aa.mk fe;have bk:=aa.mk Fe;clear fe Fe;have HB:=aa.mk (Below.refl w.heap.size w);have H:(if 0 ≤ (oa.length:Int) then (if ((oa.length:Int):Int).toNat ≤ 281474976710656 then ((Cb.f k Ma Oa Pa Na oa).bind fun t105=>(Va.l0 k (oa.length:Int) (List.replicate ((oa.length:Int):Int).toNat false) t105 0 Ma Oa Pa Na oa)) else (none)) else (none))=some r:=h;clear h
 by_cases c2:0 ≤ (oa.length:Int)
 ·rw [if_pos c2] at H;have Mo:=eq_true c2;have Sq:decide (0 ≤ (oa.length:Int))=true:=decide_eq_true c2;clear c2
  by_cases c3:((oa.length:Int):Int).toNat ≤ 281474976710656
  ·rw [if_pos c3] at H;have Ah:=eq_true c3;have Kr:decide (((oa.length:Int):Int).toNat ≤ 281474976710656)=true:=decide_eq_true c3;clear c3;obtain ⟨yd,Ee⟩:∃ y_:List Bool,y_=(List.replicate ((oa.length:Int):Int).toNat false):=⟨_,rfl⟩;replace H:((Cb.f k Ma Oa Pa Na oa).bind fun t105=>(Va.l0 k (oa.length:Int) yd t105 0 Ma Oa Pa Na oa))=some r:=by first|(rw [Ee];with_reducible exact H)|(have Qc:=(Option.bind_some _ _).symm.trans H;rw [Ee];with_reducible exact Qc)|(have Qc:=(Option.bind_some _ _).symm.trans H;with_reducible exact Qc)|with_reducible exact H|(rw [Ee];exact H)|exact H
   have Ch:=aa.mk Ee;clear Ee;replace H:=Option.bind_eq_some_iff.mp H;obtain ⟨t105,uQ,H⟩:=H
   try dsimp only at H
   have A4:=aa.mk uQ;clear uQ;have H':=aa.mk H;clear H;go_enter Try.func67,Try.ntmps67;go_wp2_with (first|((with_reducible refine Qb (N:=1) rfl ?_);refine Ic ?hg (N:=1) ?hd (cs:=#[.slice zb Ma.length yb,.int .i64 Oa,.int .i64 Pa,.int .i64 Na,.slice Ob oa.length Fb]) (t:=45) ?hr ?_;(case hd|hg=>rfl);(case hr=>exact jaj);intro Ka hg w5 Bd hb;have Pb:=aa.mk (Ga maj hb);have Rb:=aa.mk (Bd);have Yb:=aa.mk ((by rw [hg];exact (Qa maj):w.heap.size ≤ Ka));have Vc:=aa.mk ((by rw [hg];exact (Qa maj):w.heap.size ≤ Ka));clear HB;have HB:=Pb;have qa:=Rb;have Vf:=Yb;have Xa:=Vc;clear Pb Rb Yb Vc hb Bd hg;have uu:w5.cell? ⟨Ka,0,none⟩=some (.slice zb Ma.length yb):=(ya qa.out 0).trans rfl;have tu:w5.cell? ⟨Ka,1,none⟩=some (.int .i64 Oa):=(ya qa.out 1).trans rfl;have su:w5.cell? ⟨Ka,2,none⟩=some (.int .i64 Pa):=(ya qa.out 2).trans rfl;have ru:w5.cell? ⟨Ka,3,none⟩=some (.int .i64 Na):=(ya qa.out 3).trans rfl;have qu:w5.cell? ⟨Ka,4,none⟩=some (.slice Ob oa.length Fb):=(ya qa.out 4).trans rfl;have nu:=za qa.out 0;have lu:=za qa.out 1;have ku:=za qa.out 2;have ju:=za qa.out 3;have iu:=za qa.out 4)|((with_reducible refine Qb (N:=16) rfl ?_);refine Kd.Mr Kd.bool _ 4 rfl (N:=16) rfl 73 _ _ rfl (oa.length:Int) rfl rfl Try.underlying73 (.bool false) 1 DE rfl (by decide) (by omega) false (ok:=fun _=>True) (Yg:=fun _=>True) rfl (fun _ hk=>hk) trivial (Ja) (Nat.le_trans (Nat.mul_le_mul_right _ (Ja:(oa.length:Int).toNat ≤ 281474976710656)) (by omega)) (Below.refl _ _) (Nat.le_refl _) ?_;intro th w7 JH hb Ll Pe;clear Ll Pe;(first|rw [← Ch.out] at JH|(simp only [Int.reduceToNat] at JH;rw [← Ch.out] at JH));have Pb:=aa.mk (Kd.Xc JH (Qa laj));have Rb:=aa.mk (Ta (g:=Ka) (o:=.cells #[.slice zb Ma.length yb,.int .i64 Oa,.int .i64 Pa,.int .i64 Na,.slice Ob oa.length Fb] 45 (0,0)) naj hb);have Yb:=aa.mk (Ga laj hb);clear qa HB;have qe:=Pb;have qa:=Rb;have HB:=Yb;clear Pb Rb Yb hb JH;have Bl:w7.cell? ⟨Ka,0,none⟩=some (.slice zb Ma.length yb):=(ya qa.out 0).trans rfl;have Al:w7.cell? ⟨Ka,1,none⟩=some (.int .i64 Oa):=(ya qa.out 1).trans rfl;have zl:w7.cell? ⟨Ka,2,none⟩=some (.int .i64 Pa):=(ya qa.out 2).trans rfl;have yl:w7.cell? ⟨Ka,3,none⟩=some (.int .i64 Na):=(ya qa.out 3).trans rfl;have xl:w7.cell? ⟨Ka,4,none⟩=some (.slice Ob oa.length Fb):=(ya qa.out 4).trans rfl;have vl:=za qa.out 0;have ql:=za qa.out 1;have jl:=za qa.out 2;have gl:=za qa.out 3;have fl:=za qa.out 4)|((with_reducible refine Kb (f:=68) rfl ?_);refine ie (some 18) rfl rfl Try.func68 (by kernel_rfl) rfl #[.agg #[.slice zb Ma.length yb,.int .i64 Oa,.int .i64 Pa,.int .i64 Na,.slice Ob oa.length Fb]] rfl paj ?_;(with_reducible refine (Cb.calls k _ _ Ma Oa Pa Na _ _ oa t105 _ ?Oc ?Nc ?Si ?Ri A4.out).mono ?_);(case Oc=>repeat (first|exact (Kd.Za Ng.out HB.out)|(with_reducible refine Kd.Gd ?_ _)|(with_reducible refine Kd.Ed ?_ _)|(with_reducible refine Kd.He ?_)));(case Nc=>exact Pg.out);(case Si=>repeat (first|exact (Kd.Za Dh.out HB.out)|(with_reducible refine Kd.Gd ?_ _)|(with_reducible refine Kd.Ed ?_ _)|(with_reducible refine Kd.He ?_)));(case Ri=>exact bk.out);rintro e wv ⟨Wv,rfl,Rg,hb⟩;refine ⟨_,rfl,?_⟩;have Pb:=aa.mk (Kd.ec yaj hb);have Rb:=aa.mk (Kd.Xc Rg (Qa laj));have Yb:=aa.mk (Ta (g:=Ka) (o:=.cells #[.slice zb Ma.length yb,.int .i64 Oa,.int .i64 Pa,.int .i64 Na,.slice Ob oa.length Fb] 45 (0,0)) naj hb);have Vc:=aa.mk (Ga laj hb);clear qe qa HB;have qe:=Pb;have Uk:=Rb;have qa:=Yb;have HB:=Vc;clear Pb Rb Yb Vc;(try clear hb);(try clear Cl);(try clear hk);(try clear hi);(try clear Rg)))
   go_loopg [6] k (fun kq v6 w'=>∃ (Ib:List Bool) (gm:Int),v6 = .int .i64 gm∧aa (Va.l0 kq (oa.length:Int) Ib t105 gm Ma Oa Pa Na oa=some r)∧aa (kq ≤ k)∧aa (Kd.R Kd.bool 4 w' w.heap.size (fun _=>True) th Ib)∧aa (Kd.R (Kd.int .i64) 3 w' w.heap.size (fun _=>True) Wv t105)∧aa (w'.heap[Ka]? = some (.cells #[(.slice zb Ma.length yb),.int .i64 Oa,.int .i64 Pa,.int .i64 Na,(.slice Ob oa.length Fb)] 45 (0,0)))∧aa (Below w.heap.size w w'))
   case atStart=>exact ⟨(yd),(0),raj,H',⟨Nat.le_refl _⟩,⟨Taj⟩,⟨by (with_reducible repeat (first|apply Kd.Ia|apply Kd.La|apply Kd.Ra));exact Uk.out⟩,⟨saj⟩,⟨oaj⟩⟩
   case round =>
    clear H'
    try clear c2
    try clear Mo
    try clear Sq
    try clear p2
    try clear c3
    try clear Ah
    try clear Kr
    try clear c6
    try clear uu
    try clear tu
    try clear su
    try clear ru
    try clear qu
    try clear Bl
    try clear Al
    try clear zl
    try clear yl
    try clear xl
    try clear nu
    try clear lu
    try clear ku
    try clear ju
    try clear iu
    try clear vl
    try clear ql
    try clear jl
    try clear gl
    try clear fl
    (try clear HA);(try clear Kf);(try clear Uc);(try clear Ue);(try clear qa);(try clear HB);obtain ⟨Ib,gm,rfl,HA,Kf,Uc,Ue,qa,HB⟩:=hrel;cases gk with
    | zero=>exact absurd HA.out (by simp [Va.l0])
    | succ k1 =>
     have H:=HA.out;clear HA;simp only [Va.l0] at H
     by_cases Dx:gm < (t105.length:Int)
     ·rw [if_pos Dx] at H;have ay:decide (gm < (t105.length:Int))=true:=decide_eq_true Dx;clear Dx
      by_cases XF:0 ≤ gm
      ·rw [if_pos XF] at H;have YB:decide (0 ≤ gm)=true:=decide_eq_true XF;clear XF
       by_cases Cx:0 ≤ (rd t105 gm)
       ·rw [if_pos Cx] at H;have Zx:decide (0 ≤ (rd t105 gm))=true:=decide_eq_true Cx;clear Cx
        by_cases rA:(rd t105 gm) < (Ib.length:Int)
        ·rw [if_pos rA] at H;have Yx:decide ((rd t105 gm) < (Ib.length:Int))=true:=decide_eq_true rA;clear rA;obtain ⟨tA,Sp⟩:∃ y_:List Bool,y_=(Ib.set ((rd t105 gm):Int).toNat true):=⟨_,rfl⟩;replace H:(Va.l0 k1 (oa.length:Int) tA t105 (wrap64 (gm + 1)) Ma Oa Pa Na oa)=some r:=by first|(rw [Sp];with_reducible exact H)|(have Qc:=(Option.bind_some _ _).symm.trans H;rw [Sp];with_reducible exact Qc)|(have Qc:=(Option.bind_some _ _).symm.trans H;with_reducible exact Qc)|with_reducible exact H|(rw [Sp];exact H)|exact H
         have EK:=aa.mk Sp;clear Sp;have H':=aa.mk H;clear H;obtain ⟨wC,RB,UJ⟩:=Kd.Vb Ue.out;subst UJ;have CG:0 ≤ (gm:Int):=Ja;have BG:gm < (t105.length:Int):=Ja;obtain ⟨Gad,x_,Ry⟩:=Kd.Ld (Kd.Ua Ue.out).2.2 gm CG BG;cases x_;replace CG:=eq_true CG;replace BG:=eq_true BG;have OL:0 ≤ ((rd t105 gm):Int):=Ja;have SC:((rd t105 gm):Int) < ((Ib.length:Int):Int):=Ja;obtain ⟨dN,vW,rW,kW,M9,wag,Ix⟩:=Kd.qj Uc.out (by omega);(first|cases rW|(injection rW with ej qv tv;(first|subst ej|(injection ej with ej;subst ej));subst tv;clear qv));have xaa:=aa.mk kW;have xah:=aa.mk Ix;clear kW M9 Ix;obtain ⟨fD,G8⟩:=Kd.Dg false Uc.out ((rd t105 gm):Int) OL SC;replace OL:=eq_true OL;replace SC:=eq_true SC;have gU:=Kd.vk Uc.out ((rd t105 gm):Int) true;go_wp2_with (first|((with_reducible refine Ce (t:=4) (p:=30) rfl ?_);refine Sd (t:=4) (p:=30) (v:=?R5) (w1:=(wr.setCell ⟨dN,((rd t105 gm):Int).toNat,none⟩ (.bool true))) ?hg ?ho ?hn ?hr ?_;(case ho=>rfl);(case hg=>rfl);(case hn=>rfl);(case hr=>exact jaj);intro bV hw;have hg:wr.grownBy bV (some dN):=(by rw [hw];exact gU.2);have Gj:Kd.R Kd.bool 4 bV w.heap.size (fun _=>True) (.slice (some ⟨dN,0,none⟩) Ib.length vW) tA:=(by rw [hw,EK.out];exact gU.1);clear gU;have Pb:=aa.mk (Gj);have Rb:=aa.mk (Kd.Ek (v:=(.slice (some ⟨dN,0,none⟩) Ib.length vW)) gak (Kd.Dk Uc.out) (by decide) hg);have Yb:=aa.mk (uf (g:=Ka) (o:=.cells #[.slice zb Ma.length yb,.int .i64 Oa,.int .i64 Pa,.int .i64 Na,.slice Ob oa.length Fb] 45 (0,0)) naj hg (Kd.xp Uc.out qa.out (by decide)));have Vc:=aa.mk ((by rw [hw];exact ta (HB.out) xaa.out:Below w.heap.size w bV));clear Uc Ue qa HB;have Uc:=Pb;have Ue:=Rb;have qa:=Yb;have HB:=Vc;clear Pb Rb Yb Vc hg hw Gj))
         go_roundg k1
         case measure=>have:=Kf.out;omega
         case rel=>exact ⟨(tA),(wrap64 (gm + 1)),raj,H',⟨by have:=Kf.out;omega⟩,⟨Saj⟩,⟨cak⟩,⟨saj⟩,⟨oaj⟩⟩
        ·rw [if_neg rA] at H;exact absurd H (by simp)
       ·rw [if_neg Cx] at H;exact absurd H (by simp)
      ·rw [if_neg XF] at H;exact absurd H (by simp)
     ·rw [if_neg Dx] at H;have ay:decide (gm < (t105.length:Int))=false:=decide_eq_false Dx;clear Dx;obtain ⟨RH,Rp⟩:∃ y_:List (List Bool),y_=(([]:List (List Bool))):=⟨_,rfl⟩;replace H:(Va.l1 k1 (oa.length:Int) Ib RH 0 Ma Oa Pa Na oa)=some r:=by first|(rw [Rp];with_reducible exact H)|(have Qc:=(Option.bind_some _ _).symm.trans H;rw [Rp];with_reducible exact Qc)|(have Qc:=(Option.bind_some _ _).symm.trans H;with_reducible exact Qc)|with_reducible exact H|(rw [Rp];exact H)|exact H
      have mC:=aa.mk Rp;clear Rp;have H':=aa.mk H;clear H;obtain ⟨Caa,dK,WS⟩:=Kd.Vb Ue.out;subst WS;go_wp2_with (first|((with_reducible refine Qb (N:=31) rfl ?_);refine Kd.oX (Kd.slice 4 Kd.bool) _ 73 ?hg (N:=31) ?hd (xs:=([]:List (List Bool))) (inner:=[]) (ok:=fun _=>True) (Yg:=fun _=>True) ?hr ?hp (fun _ hk=>hk) trivial (Below.refl _ _) (Nat.le_refl _) (by simp) ?_;(case hd|hg=>rfl);(case hr=>exact jaj);(case hp=>exact (Pc.none _ _));intro Y5 D5 WI hb Ll Pe;clear Ll Pe;(first|rw [← mC.out] at WI|(simp only [Int.reduceToNat] at WI;rw [← mC.out] at WI));have Pb:=aa.mk (Kd.ec waj hb);have Rb:=aa.mk (Kd.ec gak hb);have Yb:=aa.mk (Kd.Ov (Kd.wT WI (Kd.Yi waj)) (Qa laj));have Vc:=aa.mk (Ta (g:=Ka) (o:=.cells #[.slice zb Ma.length yb,.int .i64 Oa,.int .i64 Pa,.int .i64 Na,.slice Ob oa.length Fb] 45 (0,0)) naj hb);have Df:=aa.mk (Ga laj hb);clear Uc Ue qa HB;have Uc:=Pb;have Ue:=Rb;have UK:=Yb;have qa:=Vc;have HB:=Df;clear Pb Rb Yb Vc Df hb WI))
      go_loopg [7,8] k1 (fun kq v7 v8 w'=>∃ (yf:List Bool) (ef:List (List Bool)) (me:Int),v8 = .int .i64 me∧aa (Va.l1 kq (oa.length:Int) yf ef me Ma Oa Pa Na oa=some r)∧aa (kq ≤ k1)∧aa (Kd.R Kd.bool 4 w' w.heap.size (fun _=>True) th yf)∧aa (Kd.S (Kd.slice 4 Kd.bool) 73 w' w.heap.size (fun k_=>some k_ ≠ (th:Value).ownBlock) v7 ef)∧aa (w'.heap[Ka]? = some (.cells #[(.slice zb Ma.length yb),.int .i64 Oa,.int .i64 Pa,.int .i64 Na,(.slice Ob oa.length Fb)] 45 (0,0)))∧aa (Below w.heap.size w w'))
      case atStart=>exact ⟨(Ib),(RH),(0),raj,H',⟨Nat.le_refl _⟩,⟨Saj⟩,⟨by (with_reducible repeat (first|apply Kd.Rf|apply Kd.Qf|apply Kd.Cg));exact Kd.wg UK.out (fun _ hk=>hk.2)⟩,⟨saj⟩,⟨oaj⟩⟩
      case round =>
       clear H'
       try clear c1
       try clear p1
       try clear q1
       try clear hx1
       try clear hf1
       try clear c2
       try clear Mo
       try clear Sq
       try clear p2
       try clear c3
       try clear Ah
       try clear Kr
       try clear c6
       try clear p6
       try clear mA
       try clear kA
       try clear dM
       try clear Dx
       try clear ay
       try clear XF
       try clear YB
       try clear Cx
       try clear Zx
       try clear rA
       try clear Yx
       try clear OL
       try clear SC
       try clear pV
       try clear KV
       try clear uu
       try clear tu
       try clear su
       try clear ru
       try clear qu
       try clear Bl
       try clear Al
       try clear zl
       try clear yl
       try clear xl
       try clear nu
       try clear lu
       try clear ku
       try clear ju
       try clear iu
       try clear vl
       try clear ql
       try clear jl
       try clear gl
       try clear fl
       try clear Ry
       try clear fD
       try clear CG
       try clear OL
       try clear p2
       try clear BG
       try clear SC
       (try clear HA);(try clear aj);(try clear Uc);(try clear Od);(try clear qa);(try clear HB);obtain ⟨yf,ef,me,rfl,HA,aj,Uc,Od,qa,HB⟩:=hrel;cases gk with
       | zero=>exact absurd HA.out (by simp [Va.l1])
       | succ k2 =>
        have H:=HA.out;clear HA;simp only [Va.l1] at H
        by_cases oA:me < (oa.length:Int)
        ·rw [if_pos oA] at H;have UF:decide (me < (oa.length:Int))=true:=decide_eq_true oA;clear oA
         by_cases Qn:0 ≤ (oa.length:Int)
         ·rw [if_pos Qn] at H;have bq:=eq_true Qn;have Kw:decide (0 ≤ (oa.length:Int))=true:=decide_eq_true Qn;clear Qn
          by_cases TB:((oa.length:Int):Int).toNat ≤ 281474976710656
          ·rw [if_pos TB] at H;have SF:=eq_true TB;have uP:decide (((oa.length:Int):Int).toNat ≤ 281474976710656)=true:=decide_eq_true TB;clear TB;obtain ⟨Zu,bB⟩:∃ y_:List Bool,y_=(List.replicate ((oa.length:Int):Int).toNat false):=⟨_,rfl⟩;replace H:(if me=0 then (Va.j2 k2 (oa.length:Int) yf ef me Zu Ma Oa Pa Na oa) else ((Ab.f k2 Ma Oa Pa Na oa 0 me Zu).bind fun t116=>(Va.j2 k2 (oa.length:Int) yf ef me t116 Ma Oa Pa Na oa)))=some r:=by first|(rw [bB];with_reducible exact H)|(have Qc:=(Option.bind_some _ _).symm.trans H;rw [bB];with_reducible exact Qc)|(have Qc:=(Option.bind_some _ _).symm.trans H;with_reducible exact Qc)|with_reducible exact H|(rw [bB];exact H)|exact H
           have FP:=aa.mk bB;clear bB;have oU:=aa.mk H;clear H
           go_upto_if 40 with (first|((with_reducible refine Qb (N:=38) rfl ?_);refine Kd.Mr Kd.bool _ 4 rfl (N:=38) rfl 73 _ _ rfl (oa.length:Int) rfl rfl Try.underlying73 (.bool false) 1 DE rfl (by decide) (by omega) false (ok:=fun _=>True) (Yg:=fun _=>True) rfl (fun _ hk=>hk) trivial (Ja) (Nat.le_trans (Nat.mul_le_mul_right _ (Ja:(oa.length:Int).toNat ≤ 281474976710656)) (by omega)) (Below.refl _ _) (Nat.le_refl _) ?_;intro Nq Jx iD hb Ll Pe;clear Ll Pe;(first|rw [← FP.out] at iD|(simp only [Int.reduceToNat] at iD;rw [← FP.out] at iD));have Pb:=aa.mk (Kd.Ag waj (Kd.Wf iD) hb);have Rb:=aa.mk (Kd.Qw fak (Kd.Wf iD) hb);have Yb:=aa.mk (Kd.Xc (Kd.Bh iD (Kd.Yi waj)) (Qa laj));have Vc:=aa.mk (Ta (g:=Ka) (o:=.cells #[.slice zb Ma.length yb,.int .i64 Oa,.int .i64 Pa,.int .i64 Na,.slice Ob oa.length Fb] 45 (0,0)) naj hb);have Df:=aa.mk (Ga laj hb);clear Uc Od qa HB;have Uc:=Pb;have Od:=Rb;have ir:=Yb;have qa:=Vc;have HB:=Df;clear Pb Rb Yb Vc Df hb iD))
           (try simp only [Act.put,List.setIfInBounds_toArray,List.set_cons_zero,List.set_cons_succ])
           go_cut [] (fun wc=>∃ (kq:Nat) (xh:List Bool),aa (Va.j2 kq (oa.length:Int) yf ef me xh Ma Oa Pa Na oa=some r)∧aa (kq ≤ k2)∧aa (Kd.R Kd.bool 4 wc w.heap.size (fun k_=>some k_ ≠ (Nq:Value).ownBlock) th yf)∧aa (Kd.S (Kd.slice 4 Kd.bool) 73 wc w.heap.size (fun k_=>some k_ ≠ (th:Value).ownBlock∧some k_ ≠ (Nq:Value).ownBlock) u7 ef)∧aa (Kd.R Kd.bool 4 wc w.heap.size (fun k_=>some k_ ≠ (th:Value).ownBlock) Nq xh)∧aa (wc.heap[Ka]? = some (.cells #[(.slice zb Ma.length yb),.int .i64 Oa,.int .i64 Pa,.int .i64 Na,(.slice Ob oa.length Fb)] 45 (0,0)))∧aa (Below w.heap.size w wc))
           case first =>
            have H:=oU.out;clear oU
            by_cases zu:me=0
            ·rw [if_pos zu] at H;have aq:=beq_iff_eq.mpr zu;have jK:=bne_eq_false_iff_eq.mpr zu;clear zu;(first|rw [aq]|(simp only [Mb,Nb];rw [aq])|skip);have H':=aa.mk H;clear H;go_wp2
             go_meet
             case rel=>exact ⟨_,(Zu),H',⟨by have:=Kf.out;have:=aj.out;first|omega|exact Nat.le_refl _⟩,⟨by (with_reducible repeat (first|apply Kd.Ia|apply Kd.La|apply Kd.Ra));exact Kd.Eb Uc.out (fun _ hk=>hk.2)⟩,⟨by (with_reducible repeat (first|apply Kd.Rf|apply Kd.Qf|apply Kd.Cg));exact Od.out⟩,⟨by (with_reducible repeat (first|apply Kd.Ia|apply Kd.La|apply Kd.Ra));exact Kd.Eb ir.out (fun _ hk=>hk.2)⟩,⟨saj⟩,⟨oaj⟩⟩
            ·rw [if_neg zu] at H;have aq:=beq_eq_false_iff_ne.mpr zu;have jK:=bne_iff_ne.mpr zu;(first|rw [aq]|(simp only [Mb,Nb];rw [aq])|skip);replace H:=Option.bind_eq_some_iff.mp H;obtain ⟨t116,mZ,H⟩:=H
             try dsimp only at H
             have A29:=aa.mk mZ;clear mZ;have H':=aa.mk H;clear H;obtain ⟨mz,kz,jz,iz,gz,Zy,Yy,Xy,Wy,Vy⟩:=Gz qa.out;obtain ⟨DH,mH,TS⟩:=Kd.Vb ir.out;subst TS;go_wp2_with (first|((with_reducible refine Kb (f:=102) rfl ?_);refine ie (some 44) rfl rfl Try.func102 (by kernel_rfl) rfl #[.agg #[.slice zb Ma.length yb,.int .i64 Oa,.int .i64 Pa,.int .i64 Na,.slice Ob oa.length Fb],.int .i64 0,.int .i64 me,.slice DH Zu.length mH] rfl paj ?_;(with_reducible refine (Ab.calls k2 _ _ Ma Oa Pa Na _ _ oa 0 me (fun k_=>some k_=(.slice DH Zu.length mH:Value).ownBlock) (.slice DH Zu.length mH) Zu t116 w _ ?Oc ?Nc ?Si ?Ri ?IA ?GA A29.out).mono ?_);(case Oc=>repeat (first|(with_reducible first|exact HB.out|apply ia|apply ga|apply ja|refine ta ?_ Xa.out)|exact HB.out));(case Nc=>exact Kd.mq (Kd.Sh .i64) Ng.out laj (fun k_ hs_=>(fun e_=>Kd.Wf ir.out k_ e_.symm) hs_));(case Si=>exact Pg.out);(case Ri=>exact Kd.mq yI Dh.out laj (fun k_ hs_=>(fun e_=>Kd.Wf ir.out k_ e_.symm) hs_));(case IA=>exact bk.out);(case GA=>exact Kd.Ji rfl ir.out);rintro e w32 ⟨rfl,hy0,hb,hkp⟩;refine ⟨_,rfl,?_⟩;have Pb:=aa.mk (Kd.Eb (cl:=fun k_=>some k_ ≠ (.slice DH Zu.length mH:Value).ownBlock) (Kd.Ot (Uc.out) hkp (fun k_ Tn hs_=>(Tn.2) hs_)) (fun k_ Tn=>Tn.1.2));have Rb:=aa.mk (Kd.wg (cl:=fun k_=>some k_ ≠ (th:Value).ownBlock∧some k_ ≠ (.slice DH Zu.length mH:Value).ownBlock) (Kd.wN (Od.out) hkp (fun k_ Tn hs_=>(Tn.2) hs_)) (fun k_ Tn=>⟨Tn.1.1,Tn.1.2⟩));have Yb:=aa.mk (jg naj hkp (fun hs_=>(fun e_=>(Kd.xp ir.out qa.out (by decide)) e_) hs_));have Vc:=aa.mk (Kd.yK rfl hy0 (fun k_ e_=>ir.out.1 k_ e_));have Df:=aa.mk (hb);clear Uc Od qa ir HB;have Uc:=Pb;have Od:=Rb;have qa:=Yb;have ir:=Vc;have HB:=Df;clear Pb Rb Yb Vc Df;(try clear hb);(try clear hkp);(try clear hy0)))
             go_meet
             case rel=>exact ⟨_,(t116),H',⟨by have:=Kf.out;have:=aj.out;first|omega|exact Nat.le_refl _⟩,⟨Saj⟩,⟨by (with_reducible repeat (first|apply Kd.Rf|apply Kd.Qf|apply Kd.Cg));exact Od.out⟩,⟨by (with_reducible repeat (first|apply Kd.Ia|apply Kd.La|apply Kd.Ra));exact Kd.Eb ir.out (fun _ hk=>hk.2)⟩,⟨saj⟩,⟨oaj⟩⟩
           case rest =>
            clear oU
            try clear c1
            try clear p1
            try clear q1
            try clear hx1
            try clear hf1
            try clear c2
            try clear Mo
            try clear Sq
            try clear p2
            try clear c3
            try clear Ah
            try clear Kr
            try clear c6
            try clear p6
            try clear mK
            try clear mA
            try clear kA
            try clear dM
            try clear Dx
            try clear ay
            try clear XF
            try clear YB
            try clear Cx
            try clear Zx
            try clear rA
            try clear Yx
            try clear OL
            try clear SC
            try clear pV
            try clear KV
            try clear oA
            try clear UF
            try clear Qn
            try clear bq
            try clear Kw
            try clear TB
            try clear SF
            try clear uP
            try clear zu
            try clear aq
            try clear jK
            try clear mz
            try clear kz
            try clear jz
            try clear iz
            try clear gz
            try clear uu
            try clear tu
            try clear su
            try clear ru
            try clear qu
            try clear Bl
            try clear Al
            try clear zl
            try clear yl
            try clear xl
            try clear Zy
            try clear Yy
            try clear Xy
            try clear Wy
            try clear Vy
            try clear nu
            try clear lu
            try clear ku
            try clear ju
            try clear iu
            try clear vl
            try clear ql
            try clear jl
            try clear gl
            try clear fl
            try clear Ry
            try clear fD
            try clear p1
            try clear mA
            try clear CG
            try clear OL
            try clear p2
            try clear p6
            try clear q1
            try clear kA
            try clear BG
            try clear SC
            obtain ⟨kq,xh,HA,rC,Uc,Od,Eg,qa,HB⟩:=hcut;cases kq with
            | zero=>exact absurd HA.out (by simp [Va.j2])
            | succ VQ =>
             have H:=HA.out;clear HA;simp only [Va.j2] at H
             by_cases iK:0 ≤ (oa.length:Int)
             ·rw [if_pos iK] at H;have LW:=eq_true iK;have KW:decide (0 ≤ (oa.length:Int))=true:=decide_eq_true iK;clear iK
              by_cases KH:((oa.length:Int):Int).toNat ≤ 281474976710656
              ·rw [if_pos KH] at H;have JW:=eq_true KH;have IW:decide (((oa.length:Int):Int).toNat ≤ 281474976710656)=true:=decide_eq_true KH;clear KH;obtain ⟨uG,Pp⟩:∃ y_:List Bool,y_=(List.replicate ((oa.length:Int):Int).toNat false):=⟨_,rfl⟩;replace H:(Va.l2 VQ (oa.length:Int) yf ef me xh uG 0 Ma Oa Pa Na oa)=some r:=by first|(rw [Pp];with_reducible exact H)|(have Qc:=(Option.bind_some _ _).symm.trans H;rw [Pp];with_reducible exact Qc)|(have Qc:=(Option.bind_some _ _).symm.trans H;with_reducible exact Qc)|with_reducible exact H|(rw [Pp];exact H)|exact H
               have dG:=aa.mk Pp;clear Pp;have H':=aa.mk H;clear H;go_wp2_with (first|((with_reducible refine Qb (N:=46) rfl ?_);refine Kd.Mr Kd.bool _ 4 rfl (N:=46) rfl 73 _ _ rfl (oa.length:Int) rfl rfl Try.underlying73 (.bool false) 1 DE rfl (by decide) (by omega) false (ok:=fun _=>True) (Yg:=fun _=>True) rfl (fun _ hk=>hk) trivial (Ja) (Nat.le_trans (Nat.mul_le_mul_right _ (Ja:(oa.length:Int).toNat ≤ 281474976710656)) (by omega)) (Below.refl _ _) (Nat.le_refl _) ?_;intro vA xQ fB hb Ll Pe;clear Ll Pe;(first|rw [← dG.out] at fB|(simp only [Int.reduceToNat] at fB;rw [← dG.out] at fB));have Pb:=aa.mk (Kd.Ag waj (Kd.Wf fB) hb);have Rb:=aa.mk (Kd.Qw fak (Kd.Wf fB) hb);have Yb:=aa.mk (Kd.Ag Maj (Kd.Wf fB) hb);have Vc:=aa.mk (Kd.Xc (Kd.Bh (Kd.Bh fB (Kd.Yi waj)) (Kd.Yi Maj)) (Qa laj));have Df:=aa.mk (Ta (g:=Ka) (o:=.cells #[.slice zb Ma.length yb,.int .i64 Oa,.int .i64 Pa,.int .i64 Na,.slice Ob oa.length Fb] 45 (0,0)) naj hb);have Qg:=aa.mk (Ga laj hb);clear Uc Od Eg qa HB;have Uc:=Pb;have Od:=Rb;have Eg:=Yb;have Gn:=Vc;have qa:=Df;have HB:=Qg;clear Pb Rb Yb Vc Df Qg hb fB))
               go_loopg [11] VQ (fun kq v11 w'=>∃ (Le:List Bool) (Jc:Int),v11 = .int .i64 Jc∧aa (Va.l2 kq (oa.length:Int) yf ef me xh Le Jc Ma Oa Pa Na oa=some r)∧aa (kq ≤ VQ)∧aa (Kd.R Kd.bool 4 w' w.heap.size (fun k_=>some k_ ≠ (Nq:Value).ownBlock∧some k_ ≠ (vA:Value).ownBlock) th yf)∧aa (Kd.S (Kd.slice 4 Kd.bool) 73 w' w.heap.size (fun k_=>some k_ ≠ (th:Value).ownBlock∧some k_ ≠ (Nq:Value).ownBlock∧some k_ ≠ (vA:Value).ownBlock) u7 ef)∧aa (Kd.R Kd.bool 4 w' w.heap.size (fun k_=>some k_ ≠ (th:Value).ownBlock∧some k_ ≠ (vA:Value).ownBlock) Nq xh)∧aa (Kd.R Kd.bool 4 w' w.heap.size (fun k_=>some k_ ≠ (th:Value).ownBlock∧some k_ ≠ (Nq:Value).ownBlock) vA Le)∧aa (w'.heap[Ka]? = some (.cells #[(.slice zb Ma.length yb),.int .i64 Oa,.int .i64 Pa,.int .i64 Na,(.slice Ob oa.length Fb)] 45 (0,0)))∧aa (Below w.heap.size w w'))
               case atStart=>exact ⟨(uG),(0),raj,H',⟨Nat.le_refl _⟩,⟨Saj⟩,⟨Zaj⟩,⟨jak⟩,⟨by (with_reducible repeat (first|apply Kd.Ia|apply Kd.La|apply Kd.Ra));exact Kd.Eb Gn.out (fun _ hk=>⟨hk.1.2,hk.2⟩)⟩,⟨saj⟩,⟨oaj⟩⟩
               case round =>
                clear H'
                try clear c1
                try clear p1
                try clear q1
                try clear hx1
                try clear hf1
                try clear c2
                try clear Mo
                try clear Sq
                try clear p2
                try clear c3
                try clear Ah
                try clear Kr
                try clear c6
                try clear p6
                try clear mK
                try clear mA
                try clear kA
                try clear dM
                try clear Dx
                try clear ay
                try clear XF
                try clear YB
                try clear Cx
                try clear Zx
                try clear rA
                try clear Yx
                try clear OL
                try clear SC
                try clear pV
                try clear KV
                try clear oA
                try clear UF
                try clear Qn
                try clear bq
                try clear Kw
                try clear TB
                try clear SF
                try clear uP
                try clear zu
                try clear aq
                try clear jK
                try clear iK
                try clear LW
                try clear KW
                try clear KH
                try clear JW
                try clear IW
                try clear mz
                try clear kz
                try clear jz
                try clear iz
                try clear gz
                try clear uu
                try clear tu
                try clear su
                try clear ru
                try clear qu
                try clear Bl
                try clear Al
                try clear zl
                try clear yl
                try clear xl
                try clear Zy
                try clear Yy
                try clear Xy
                try clear Wy
                try clear Vy
                try clear nu
                try clear lu
                try clear ku
                try clear ju
                try clear iu
                try clear vl
                try clear ql
                try clear jl
                try clear gl
                try clear fl
                try clear Ry
                try clear fD
                try clear p1
                try clear mA
                try clear CG
                try clear OL
                try clear p2
                try clear p6
                try clear q1
                try clear kA
                try clear BG
                try clear SC
                (try clear HA);(try clear bO);(try clear Uc);(try clear Od);(try clear Eg);(try clear Hh);(try clear qa);(try clear HB);obtain ⟨Le,Jc,rfl,HA,bO,Uc,Od,Eg,Hh,qa,HB⟩:=hrel;cases gk with
                | zero=>exact absurd HA.out (by simp [Va.l2])
                | succ k4 =>
                 have H:=HA.out;clear HA;simp only [Va.l2] at H
                 by_cases CU:Jc < (oa.length:Int)
                 ·rw [if_pos CU] at H;have GW:decide (Jc < (oa.length:Int))=true:=decide_eq_true CU;clear CU
                  by_cases I4:0 ≤ me
                  ·rw [if_pos I4] at H;have Aad:decide (0 ≤ me)=true:=decide_eq_true I4;clear I4
                   by_cases G4:me < (yf.length:Int)
                   ·rw [if_pos G4] at H;have zad:decide (me < (yf.length:Int))=true:=decide_eq_true G4;clear G4;obtain ⟨XW,IJ⟩:∃ b_:Bool,b_=(xg false yf me):=⟨_,rfl⟩;replace H:(if XW=true then (if 0 ≤ Jc then (if Jc < (yf.length:Int) then (if xg false yf Jc=true then (if Jc < (xh.length:Int) then (if Jc < (Le.length:Int) then (Va.l2 k4 (oa.length:Int) yf ef me xh (Le.set (Jc:Int).toNat (!(xg false xh Jc))) (wrap64 (Jc + 1)) Ma Oa Pa Na oa) else (none)) else (none)) else (if Jc < (Le.length:Int) then (Va.l2 k4 (oa.length:Int) yf ef me xh (Le.set (Jc:Int).toNat false) (wrap64 (Jc + 1)) Ma Oa Pa Na oa) else (none))) else (none)) else (none)) else (if 0 ≤ Jc then (if Jc < (Le.length:Int) then (Va.l2 k4 (oa.length:Int) yf ef me xh (Le.set (Jc:Int).toNat false) (wrap64 (Jc + 1)) Ma Oa Pa Na oa) else (none)) else (none)))=some r:=by rw [← IJ] at H;exact H
                    have ny:=aa.mk IJ;clear IJ
                    by_cases E4:XW=true
                    ·subst E4;rw [if_pos rfl] at H
                     by_cases gK:0 ≤ Jc
                     ·rw [if_pos gK] at H;have pP:decide (0 ≤ Jc)=true:=decide_eq_true gK;clear gK
                      by_cases rN:Jc < (yf.length:Int)
                      ·rw [if_pos rN] at H;have EW:decide (Jc < (yf.length:Int))=true:=decide_eq_true rN;clear rN;obtain ⟨WW,GJ⟩:∃ b_:Bool,b_=(xg false yf Jc):=⟨_,rfl⟩;replace H:(if WW=true then (if Jc < (xh.length:Int) then (if Jc < (Le.length:Int) then (Va.l2 k4 (oa.length:Int) yf ef me xh (Le.set (Jc:Int).toNat (!(xg false xh Jc))) (wrap64 (Jc + 1)) Ma Oa Pa Na oa) else (none)) else (none)) else (if Jc < (Le.length:Int) then (Va.l2 k4 (oa.length:Int) yf ef me xh (Le.set (Jc:Int).toNat false) (wrap64 (Jc + 1)) Ma Oa Pa Na oa) else (none)))=some r:=by rw [← GJ] at H;exact H
                       have oC:=aa.mk GJ;clear GJ
                       by_cases qN:WW=true
                       ·subst qN;rw [if_pos rfl] at H
                        by_cases D4:Jc < (xh.length:Int)
                        ·rw [if_pos D4] at H;have yad:decide (Jc < (xh.length:Int))=true:=decide_eq_true D4;clear D4
                         by_cases C4:Jc < (Le.length:Int)
                         ·rw [if_pos C4] at H;have xad:decide (Jc < (Le.length:Int))=true:=decide_eq_true C4;clear C4;obtain ⟨wQ,YA⟩:∃ y_:List Bool,y_=(Le.set (Jc:Int).toNat (!(xg false xh Jc))):=⟨_,rfl⟩;replace H:(Va.l2 k4 (oa.length:Int) yf ef me xh wQ (wrap64 (Jc + 1)) Ma Oa Pa Na oa)=some r:=by first|(rw [YA];with_reducible exact H)|(have Qc:=(Option.bind_some _ _).symm.trans H;rw [YA];with_reducible exact Qc)|(have Qc:=(Option.bind_some _ _).symm.trans H;with_reducible exact Qc)|with_reducible exact H|(rw [YA];exact H)|exact H
                          have vX:=aa.mk YA;clear YA;have H':=aa.mk H;clear H;obtain ⟨Dah,jT,U9⟩:=Kd.Vb Uc.out;subst U9;have Br:0 ≤ (me:Int):=Ja;have tr:me < (yf.length:Int):=Ja;obtain ⟨El,CD,Bk⟩:=Kd.Uj (Kd.Ua Uc.out).2.2 me Br tr;(try rw [← ny.out] at Bk);(try rw [← oC.out] at Bk);cases CD;replace Br:=eq_true Br;replace tr:=eq_true tr;have Qq:0 ≤ (Jc:Int):=Ja;have Pq:Jc < (yf.length:Int):=Ja;obtain ⟨Zn,BD,Sm⟩:=Kd.Uj (Kd.Ua Uc.out).2.2 Jc Qq Pq;(try rw [← ny.out] at Sm);(try rw [← oC.out] at Sm);obtain rfl:El=Zn:=(by injection BD);replace Qq:=eq_true Qq;replace Pq:=eq_true Pq;obtain ⟨Bah,iT,T9⟩:=Kd.Vb Eg.out;subst T9;have nv:0 ≤ (Jc:Int):=Ja;have jv:Jc < (xh.length:Int):=Ja;obtain ⟨Ow,WJ,Bj⟩:=Kd.Uj (Kd.Ua Eg.out).2.2 Jc nv jv;(try rw [← ny.out] at Bj);(try rw [← oC.out] at Bj);cases WJ;replace nv:=eq_true nv;replace jv:=eq_true jv;have J6:0 ≤ (Jc:Int):=Ja;have D6:(Jc:Int) < ((Le.length:Int):Int):=Ja;obtain ⟨qz,JD,qW,iW,K9,uag,LY⟩:=Kd.qj Hh.out (by omega);(first|cases qW|(injection qW with ej qv tv;(first|subst ej|(injection ej with ej;subst ej));subst tv;clear qv));have vaa:=aa.mk iW;have vah:=aa.mk LY;clear iW K9 LY;obtain ⟨U6,C8⟩:=Kd.Dg false Hh.out (Jc:Int) J6 D6;replace J6:=eq_true J6;replace D6:=eq_true D6;have XT:=Kd.vk Hh.out (Jc:Int) (!(xg false xh Jc));go_wp2_with (first|((with_reducible refine Ce (t:=4) (p:=71) rfl ?_);refine Sd (t:=4) (p:=71) (v:=?I5) (w1:=(wr.setCell ⟨qz,(Jc:Int).toNat,none⟩ (.bool (!(xg false xh Jc))))) ?hg ?ho ?hn ?hr ?_;(case ho=>rfl);(case hg=>rfl);(case hn=>rfl);(case hr=>exact jaj);intro B5 hw;have hg:wr.grownBy B5 (some qz):=(by rw [hw];exact XT.2);have Gj:Kd.R Kd.bool 4 B5 w.heap.size (fun k_=>some k_ ≠ (.slice (some El) yf.length jT:Value).ownBlock∧some k_ ≠ (.slice (some Ow) xh.length iT:Value).ownBlock) (.slice (some ⟨qz,0,none⟩) Le.length JD) wQ:=(by rw [hw,vX.out];exact XT.1);clear XT;have Pb:=aa.mk (Kd.qg (v:=(.slice (some ⟨qz,0,none⟩) Le.length JD)) (v1:=(.slice (some ⟨qz,0,none⟩) Le.length JD)) (ok:=(fun k_=>some k_ ≠ (.slice (some Ow) xh.length iT:Value).ownBlock)) waj hg (.inl rfl));have Rb:=aa.mk (Kd.Tz (v:=(.slice (some ⟨qz,0,none⟩) Le.length JD)) (v1:=(.slice (some ⟨qz,0,none⟩) Le.length JD)) (ok:=(fun k_=>some k_ ≠ (.slice (some El) yf.length jT:Value).ownBlock∧some k_ ≠ (.slice (some Ow) xh.length iT:Value).ownBlock)) eak hg (.inl rfl));have Yb:=aa.mk (Kd.qg (v:=(.slice (some ⟨qz,0,none⟩) Le.length JD)) (v1:=(.slice (some ⟨qz,0,none⟩) Le.length JD)) (ok:=(fun k_=>some k_ ≠ (.slice (some El) yf.length jT:Value).ownBlock)) Maj hg (.inl rfl));have Vc:=aa.mk (Gj);have Df:=aa.mk (uf (g:=Ka) (o:=.cells #[.slice zb Ma.length yb,.int .i64 Oa,.int .i64 Pa,.int .i64 Na,.slice Ob oa.length Fb] 45 (0,0)) naj hg (Kd.xp Hh.out qa.out (by decide)));have Qg:=aa.mk ((by rw [hw];exact ta (HB.out) vaa.out:Below w.heap.size w B5));clear Uc Od Eg Hh qa HB;have Uc:=Pb;have Od:=Rb;have Eg:=Yb;have Hh:=Vc;have qa:=Df;have HB:=Qg;clear Pb Rb Yb Vc Df Qg hg hw Gj))
                          go_roundg k4
                          case measure=>have:=Kf.out;have:=aj.out;have:=rC.out;have:=bO.out;omega
                          case rel=>exact ⟨(wQ),(wrap64 (Jc + 1)),raj,H',⟨by have:=Kf.out;have:=aj.out;have:=rC.out;have:=bO.out;omega⟩,⟨Saj⟩,⟨Zaj⟩,⟨jak⟩,⟨by (with_reducible repeat (first|apply Kd.Ia|apply Kd.La|apply Kd.Ra));exact Hh.out⟩,⟨saj⟩,⟨oaj⟩⟩
                         ·rw [if_neg C4] at H;exact absurd H (by simp)
                        ·rw [if_neg D4] at H;exact absurd H (by simp)
                       ·replace qN:=Bool.eq_false_iff.mpr qN;subst qN;rw [if_neg (show ¬ (false=true) by decide)] at H
                        by_cases o4:Jc < (Le.length:Int)
                        ·rw [if_pos o4] at H;have wad:decide (Jc < (Le.length:Int))=true:=decide_eq_true o4;clear o4;obtain ⟨sA,Mp⟩:∃ y_:List Bool,y_=(Le.set (Jc:Int).toNat false):=⟨_,rfl⟩;replace H:(Va.l2 k4 (oa.length:Int) yf ef me xh sA (wrap64 (Jc + 1)) Ma Oa Pa Na oa)=some r:=by first|(rw [Mp];with_reducible exact H)|(have Qc:=(Option.bind_some _ _).symm.trans H;rw [Mp];with_reducible exact Qc)|(have Qc:=(Option.bind_some _ _).symm.trans H;with_reducible exact Qc)|with_reducible exact H|(rw [Mp];exact H)|exact H
                         have CK:=aa.mk Mp;clear Mp;have H':=aa.mk H;clear H;obtain ⟨Aah,fT,S9⟩:=Kd.Vb Uc.out;subst S9;have Br:0 ≤ (me:Int):=Ja;have tr:me < (yf.length:Int):=Ja;obtain ⟨El,CD,Bk⟩:=Kd.Uj (Kd.Ua Uc.out).2.2 me Br tr;(try rw [← ny.out] at Bk);(try rw [← oC.out] at Bk);cases CD;replace Br:=eq_true Br;replace tr:=eq_true tr;have Qq:0 ≤ (Jc:Int):=Ja;have Pq:Jc < (yf.length:Int):=Ja;obtain ⟨Zn,BD,Sm⟩:=Kd.Uj (Kd.Ua Uc.out).2.2 Jc Qq Pq;(try rw [← ny.out] at Sm);(try rw [← oC.out] at Sm);obtain rfl:El=Zn:=(by injection BD);replace Qq:=eq_true Qq;replace Pq:=eq_true Pq;have I6:0 ≤ (Jc:Int):=Ja;have C6:(Jc:Int) < ((Le.length:Int):Int):=Ja;obtain ⟨pz,ID,pW,fW,I9,rag,KY⟩:=Kd.qj Hh.out (by omega);(first|cases pW|(injection pW with ej qv tv;(first|subst ej|(injection ej with ej;subst ej));subst tv;clear qv));have uaa:=aa.mk fW;have tah:=aa.mk KY;clear fW I9 KY;obtain ⟨T6,y8⟩:=Kd.Dg false Hh.out (Jc:Int) I6 C6;replace I6:=eq_true I6;replace C6:=eq_true C6;have WT:=Kd.vk Hh.out (Jc:Int) false;go_wp2_with (first|((with_reducible refine Ce (t:=4) (p:=71) rfl ?_);refine Sd (t:=4) (p:=71) (v:=?G5) (w1:=(wr.setCell ⟨pz,(Jc:Int).toNat,none⟩ (.bool false))) ?hg ?ho ?hn ?hr ?_;(case ho=>rfl);(case hg=>rfl);(case hn=>rfl);(case hr=>exact jaj);intro o5 hw;have hg:wr.grownBy o5 (some pz):=(by rw [hw];exact WT.2);have Gj:Kd.R Kd.bool 4 o5 w.heap.size (fun k_=>some k_ ≠ (.slice (some El) yf.length fT:Value).ownBlock∧some k_ ≠ (Nq:Value).ownBlock) (.slice (some ⟨pz,0,none⟩) Le.length ID) sA:=(by rw [hw,CK.out];exact WT.1);clear WT;have Pb:=aa.mk (Kd.qg (v:=(.slice (some ⟨pz,0,none⟩) Le.length ID)) (v1:=(.slice (some ⟨pz,0,none⟩) Le.length ID)) (ok:=(fun k_=>some k_ ≠ (Nq:Value).ownBlock)) waj hg (.inl rfl));have Rb:=aa.mk (Kd.Tz (v:=(.slice (some ⟨pz,0,none⟩) Le.length ID)) (v1:=(.slice (some ⟨pz,0,none⟩) Le.length ID)) (ok:=(fun k_=>some k_ ≠ (.slice (some El) yf.length fT:Value).ownBlock∧some k_ ≠ (Nq:Value).ownBlock)) eak hg (.inl rfl));have Yb:=aa.mk (Kd.qg (v:=(.slice (some ⟨pz,0,none⟩) Le.length ID)) (v1:=(.slice (some ⟨pz,0,none⟩) Le.length ID)) (ok:=(fun k_=>some k_ ≠ (.slice (some El) yf.length fT:Value).ownBlock)) Maj hg (.inl rfl));have Vc:=aa.mk (Gj);have Df:=aa.mk (uf (g:=Ka) (o:=.cells #[.slice zb Ma.length yb,.int .i64 Oa,.int .i64 Pa,.int .i64 Na,.slice Ob oa.length Fb] 45 (0,0)) naj hg (Kd.xp Hh.out qa.out (by decide)));have Qg:=aa.mk ((by rw [hw];exact ta (HB.out) uaa.out:Below w.heap.size w o5));clear Uc Od Eg Hh qa HB;have Uc:=Pb;have Od:=Rb;have Eg:=Yb;have Hh:=Vc;have qa:=Df;have HB:=Qg;clear Pb Rb Yb Vc Df Qg hg hw Gj))
                         go_roundg k4
                         case measure=>have:=Kf.out;have:=aj.out;have:=rC.out;have:=bO.out;omega
                         case rel=>exact ⟨(sA),(wrap64 (Jc + 1)),raj,H',⟨by have:=Kf.out;have:=aj.out;have:=rC.out;have:=bO.out;omega⟩,⟨Saj⟩,⟨Zaj⟩,⟨jak⟩,⟨by (with_reducible repeat (first|apply Kd.Ia|apply Kd.La|apply Kd.Ra));exact Hh.out⟩,⟨saj⟩,⟨oaj⟩⟩
                        ·rw [if_neg o4] at H;exact absurd H (by simp)
                      ·rw [if_neg rN] at H;exact absurd H (by simp)
                     ·rw [if_neg gK] at H;exact absurd H (by simp)
                    ·replace E4:=Bool.eq_false_iff.mpr E4;subst E4;rw [if_neg (show ¬ (false=true) by decide)] at H
                     by_cases j4:0 ≤ Jc
                     ·rw [if_pos j4] at H;have vad:decide (0 ≤ Jc)=true:=decide_eq_true j4;clear j4
                      by_cases Z3:Jc < (Le.length:Int)
                      ·rw [if_pos Z3] at H;have uad:decide (Jc < (Le.length:Int))=true:=decide_eq_true Z3;clear Z3;obtain ⟨qy,Mk⟩:∃ y_:List Bool,y_=(Le.set (Jc:Int).toNat false):=⟨_,rfl⟩;replace H:(Va.l2 k4 (oa.length:Int) yf ef me xh qy (wrap64 (Jc + 1)) Ma Oa Pa Na oa)=some r:=by first|(rw [Mk];with_reducible exact H)|(have Qc:=(Option.bind_some _ _).symm.trans H;rw [Mk];with_reducible exact Qc)|(have Qc:=(Option.bind_some _ _).symm.trans H;with_reducible exact Qc)|with_reducible exact H|(rw [Mk];exact H)|exact H
                       have lC:=aa.mk Mk;clear Mk;have H':=aa.mk H;clear H;obtain ⟨zah,eT,R9⟩:=Kd.Vb Uc.out;subst R9;have Br:0 ≤ (me:Int):=Ja;have tr:me < (yf.length:Int):=Ja;obtain ⟨El,CD,Bk⟩:=Kd.Uj (Kd.Ua Uc.out).2.2 me Br tr;(try rw [← ny.out] at Bk);cases CD;replace Br:=eq_true Br;replace tr:=eq_true tr;have H6:0 ≤ (Jc:Int):=Ja;have B6:(Jc:Int) < ((Le.length:Int):Int):=Ja;obtain ⟨oz,GD,oW,eW,H9,qag,IY⟩:=Kd.qj Hh.out (by omega);(first|cases oW|(injection oW with ej qv tv;(first|subst ej|(injection ej with ej;subst ej));subst tv;clear qv));have taa:=aa.mk eW;have sah:=aa.mk IY;clear eW H9 IY;obtain ⟨S6,r8⟩:=Kd.Dg false Hh.out (Jc:Int) H6 B6;replace H6:=eq_true H6;replace B6:=eq_true B6;have VT:=Kd.vk Hh.out (Jc:Int) false;go_wp2_with (first|((with_reducible refine Ce (t:=4) (p:=71) rfl ?_);refine Sd (t:=4) (p:=71) (v:=?F5) (w1:=(wr.setCell ⟨oz,(Jc:Int).toNat,none⟩ (.bool false))) ?hg ?ho ?hn ?hr ?_;(case ho=>rfl);(case hg=>rfl);(case hn=>rfl);(case hr=>exact jaj);intro n5 hw;have hg:wr.grownBy n5 (some oz):=(by rw [hw];exact VT.2);have Gj:Kd.R Kd.bool 4 n5 w.heap.size (fun k_=>some k_ ≠ (.slice (some El) yf.length eT:Value).ownBlock∧some k_ ≠ (Nq:Value).ownBlock) (.slice (some ⟨oz,0,none⟩) Le.length GD) qy:=(by rw [hw,lC.out];exact VT.1);clear VT;have Pb:=aa.mk (Kd.qg (v:=(.slice (some ⟨oz,0,none⟩) Le.length GD)) (v1:=(.slice (some ⟨oz,0,none⟩) Le.length GD)) (ok:=(fun k_=>some k_ ≠ (Nq:Value).ownBlock)) waj hg (.inl rfl));have Rb:=aa.mk (Kd.Tz (v:=(.slice (some ⟨oz,0,none⟩) Le.length GD)) (v1:=(.slice (some ⟨oz,0,none⟩) Le.length GD)) (ok:=(fun k_=>some k_ ≠ (.slice (some El) yf.length eT:Value).ownBlock∧some k_ ≠ (Nq:Value).ownBlock)) eak hg (.inl rfl));have Yb:=aa.mk (Kd.qg (v:=(.slice (some ⟨oz,0,none⟩) Le.length GD)) (v1:=(.slice (some ⟨oz,0,none⟩) Le.length GD)) (ok:=(fun k_=>some k_ ≠ (.slice (some El) yf.length eT:Value).ownBlock)) Maj hg (.inl rfl));have Vc:=aa.mk (Gj);have Df:=aa.mk (uf (g:=Ka) (o:=.cells #[.slice zb Ma.length yb,.int .i64 Oa,.int .i64 Pa,.int .i64 Na,.slice Ob oa.length Fb] 45 (0,0)) naj hg (Kd.xp Hh.out qa.out (by decide)));have Qg:=aa.mk ((by rw [hw];exact ta (HB.out) taa.out:Below w.heap.size w n5));clear Uc Od Eg Hh qa HB;have Uc:=Pb;have Od:=Rb;have Eg:=Yb;have Hh:=Vc;have qa:=Df;have HB:=Qg;clear Pb Rb Yb Vc Df Qg hg hw Gj))
                       go_roundg k4
                       case measure=>have:=Kf.out;have:=aj.out;have:=rC.out;have:=bO.out;omega
                       case rel=>exact ⟨(qy),(wrap64 (Jc + 1)),raj,H',⟨by have:=Kf.out;have:=aj.out;have:=rC.out;have:=bO.out;omega⟩,⟨Saj⟩,⟨Zaj⟩,⟨jak⟩,⟨by (with_reducible repeat (first|apply Kd.Ia|apply Kd.La|apply Kd.Ra));exact Hh.out⟩,⟨saj⟩,⟨oaj⟩⟩
                      ·rw [if_neg Z3] at H;exact absurd H (by simp)
                     ·rw [if_neg j4] at H;exact absurd H (by simp)
                   ·rw [if_neg G4] at H;exact absurd H (by simp)
                  ·rw [if_neg I4] at H;exact absurd H (by simp)
                 ·rw [if_neg CU] at H;have GW:decide (Jc < (oa.length:Int))=false:=decide_eq_false CU;clear CU
                  by_cases Y3:ef.length < 5864062014805
                  ·rw [if_pos Y3] at H;have AX:=aa.mk Y3;clear Y3;obtain ⟨QH,Lp⟩:∃ y_:List (List Bool),y_=(ef ++ [Le]):=⟨_,rfl⟩;replace H:(Va.l1 k4 (oa.length:Int) yf QH (wrap64 (me + 1)) Ma Oa Pa Na oa)=some r:=by first|(rw [Lp];with_reducible exact H)|(have Qc:=(Option.bind_some _ _).symm.trans H;rw [Lp];with_reducible exact Qc)|(have Qc:=(Option.bind_some _ _).symm.trans H;with_reducible exact Qc)|with_reducible exact H|(rw [Lp];exact H)|exact H
                   have BK:=aa.mk Lp;clear Lp;have H':=aa.mk H;clear H;obtain ⟨gZ,sW,Q9⟩:=Kd.Vb Hh.out;subst Q9;go_wp2_with (first|((with_reducible refine Bg (b:=.append) (xs:=#[.tmp 72,.tmp 74]) rfl ?_);at_builtin;refine Kd.xK (Kd.slice 4 Kd.bool) (w0:=w) w.heap.size rfl (.tmp 72) (.tmp 74) 75 73 (.slice none 0 0) 24 rfl Try.underlying75 XQ rfl (by decide) (by omega) u7 ef Le [.slice gZ Le.length sW] (fun k_=>some k_ ≠ (th:Value).ownBlock∧some k_ ≠ (Nq:Value).ownBlock) (fun k_=>some k_=(.slice gZ Le.length sW:Value).ownBlock) rfl rfl ?aP (fun k_ Tn=>((Kd.Eb (cl:=fun k_=>((fun k_=>some k_ ≠ (th:Value).ownBlock∧some k_ ≠ (Nq:Value).ownBlock)) k_∧some k_ ≠ (u7:Value).ownBlock) (Kd.iq (Hh.out) (Kd.Iq Od.out) (by decide)) (fun k_ hk=>⟨⟨hk.1.1,hk.1.2⟩,hk.2⟩))).1 k_ Tn.symm) ?aF ?aO ?aB ?aS ?aL ?_;(case aP=>exact Kd.zX (Kd.Eb (Kd.Ji rfl (Kd.Eb (cl:=fun k_=>((fun k_=>some k_ ≠ (th:Value).ownBlock∧some k_ ≠ (Nq:Value).ownBlock)) k_∧some k_ ≠ (u7:Value).ownBlock) (Kd.iq (Hh.out) (Kd.Iq Od.out) (by decide)) (fun k_ hk=>⟨⟨hk.1.1,hk.1.2⟩,hk.2⟩))) (fun _ h_=>h_)));(case aB=>exact laj);(case aF=>exact (fun k_ hk=>⟨Kd.fresh' (Kd.Yi waj) k_ hk,Kd.fresh' (Kd.Yi Maj) k_ hk⟩));(case aO=>exact (by (with_reducible repeat (first|apply Kd.Rf|apply Kd.Qf|apply Kd.Cg));exact Kd.wg Od.out (fun k_ hk=>⟨⟨hk.1,hk.2.1⟩,fun e_=>hk.2.2 e_⟩)));(case aS=>exact (Qa laj));(case aL=>have:=AX.out;omega);intro v127 w65 ho hb hg hat;rw [← BK.out] at ho;have Pb:=aa.mk (Kd.Ek waj (Kd.Iq fak) (by decide) hg);have Rb:=aa.mk (Kd.Ek Maj (Kd.Iq fak) (by decide) hg);have Yb:=aa.mk (uf (g:=Ka) (o:=.cells #[.slice zb Ma.length yb,.int .i64 Oa,.int .i64 Pa,.int .i64 Na,.slice Ob oa.length Fb] 45 (0,0)) naj hg (Kd.K_ Od.out qa.out (by decide)));have Vc:=aa.mk (hb);have Df:=aa.mk (ho);clear Uc Eg qa HB Od Hh;have Uc:=Pb;have Eg:=Rb;have qa:=Yb;have HB:=Vc;have SK:=Df;clear Pb Rb Yb Vc Df ho hb hg hat))
                   go_roundg k4
                   case measure=>have:=Kf.out;have:=aj.out;have:=rC.out;have:=bO.out;omega
                   case rel=>exact ⟨(yf),(QH),(wrap64 (me + 1)),raj,H',⟨by have:=Kf.out;have:=aj.out;have:=rC.out;have:=bO.out;omega⟩,⟨by (with_reducible repeat (first|apply Kd.Ia|apply Kd.La|apply Kd.Ra));exact Kd.Eb Uc.out (fun _ hk=>trivial)⟩,⟨by (with_reducible repeat (first|apply Kd.Rf|apply Kd.Qf|apply Kd.Cg));exact Kd.wg SK.out (fun _ hk=>hk.1)⟩,⟨saj⟩,⟨oaj⟩⟩
                  ·rw [if_neg Y3] at H;exact absurd H (by simp)
              ·rw [if_neg KH] at H;exact absurd H (by simp)
             ·rw [if_neg iK] at H;exact absurd H (by simp)
          ·rw [if_neg TB] at H;exact absurd H (by simp)
         ·rw [if_neg Qn] at H;exact absurd H (by simp)
        ·rw [if_neg oA] at H;have UF:decide (me < (oa.length:Int))=false:=decide_eq_false oA;clear oA;obtain rfl:=Option.some.inj H;go_wp2;go_ret;exact ⟨_,taj,by (with_reducible repeat (first|apply Kd.Rf|apply Kd.Qf|apply Kd.Cg));exact Kd.wg Od.out (fun _ hk=>trivial),oaj⟩
  ·rw [if_neg c3] at H;exact absurd H (by simp)
 ·rw [if_neg c2] at H;exact absurd H (by simp)
def Fh:List Bool→Nat→List Int
 | [],_=>[]
 | b :: s,i=>if b=true then (i:Int) :: Fh s (i + 1) else Fh s (i + 1)
theorem Sr:∀ (s:List Bool) (i:Nat),(Fh s i).length ≤ s.length
 | [],_=>Nat.le_refl _
 | b :: s,i=>by
  have:=Sr s (i + 1);unfold Fh
  by_cases h:b=true
  ·rw [if_pos h];simp;omega
  ·rw [if_neg h];simp;omega
theorem Lx:∀ (s t:List Bool) (i:Nat),Fh (s ++ t) i=Fh s i ++ Fh t (i + s.length)
 | [],t,i=>by simp [Fh]
 | b :: s,t,i=>by
  have:=Lx s t (i + 1);simp only [List.cons_append,Fh,this,List.length_cons];rw [show i + 1 + s.length=i + (s.length + 1) from by omega]
  by_cases h:b=true
  ·rw [if_pos h,if_pos h];rfl
  ·rw [if_neg h,if_neg h]
theorem JC (s:List Bool) (i:Nat) (hi:i < s.length):Fh (s.take (i + 1)) 0=if s[i]=true then Fh (s.take i) 0 ++ [(i:Int)] else Fh (s.take i) 0:=by
 rw [List.take_succ_eq_append_getElem hi,Lx,List.length_take,Nat.min_eq_left (by omega),Nat.zero_add];unfold Fh Fh
 by_cases h:s[i]=true
 ·rw [if_pos h,if_pos h]
 ·rw [if_neg h,if_neg h,List.append_nil]
theorem tK {α:Type} {d:Kd α} {et e base g n cap i:Nat} {W:World} {P:Nat→Prop} {D:List (List α)} (h:Kd.S (Kd.slice et d) e W base P (.slice (some ⟨g,0,none⟩) n cap) D) (hi:i < n) :
  ∃ (A:Option Addr) (c:Nat),W.cell? ⟨g,i,none⟩=some (.slice A (D.getD i []).length c)∧W.frozen? ⟨g,i,none⟩=false∧Kd.R d et W base (fun k=>P k∧k ≠ g∧base ≤ k∧k < W.heap.size) (.slice A (D.getD i []).length c) (D.getD i []):=by
 obtain ⟨dm,c,Ru,hM,yw,mP,Uy,hH⟩:=Kd.Bu h ([]:List α) (i:Int) (by omega) (by omega);rw [Int.toNat_natCast] at hM yw mP;obtain ⟨v,hc,hR⟩:=hM;obtain ⟨A,cc,rfl⟩:=Kd.Vb hR;have h1:=yw 0 _ (by rw [hc];rfl);have h2:=mP 0;rw [show i * (Kd.slice et d).sz + 0=i from by show i * 1 + 0=i;omega] at h1 h2;exact ⟨A,cc,h1,h2,Kd.Eb (Kd.We hR) (fun k hk=>⟨(Uy k hk.1).1,(Uy k hk.1).2,hk.2.1,hk.2.2.1⟩)⟩
def Ir (s:List Bool):List Int:=s.map fun b=>if b=true then 1 else 0
theorem Zp (s:List Bool):(Ir s).length=s.length:=by simp [Ir]
theorem QF (s:List Bool) {j:Int} (h0:0 ≤ j) (h1:j < (s.length:Int)):rd (Ir s) j=if seen s j.toNat=true then 1 else 0:=by
 have hl:j.toNat < s.length:=by omega
 simp [rd,Ir,seen,List.getD_eq_getElem?_getD,hl]
theorem MB (s:List Bool) (i:Nat):(Ir s).set i 1=Ir (s.set i true):=by
 unfold Ir;rw [List.map_set]
 rfl
theorem RJ (n:Nat) (hn:n ≤ 1048576):Ev (fun k=>Sc.f k (n:Int)) (List.replicate n 0):=by
 unfold Sc.f;have key:=oh (r:=List.replicate n (0:Int)) (n:=n) (fun i=>Ev (fun k=>Sc.l0 k (n:Int) (List.replicate i 0) (i:Int)) (List.replicate n 0)) ?_ ?_ 0 (by omega)
 ·exact key
 ·refine Ev.step (fun k=>by rw [Sc.l0]) ?_;exact Ev.neg (by omega) (Ev.now _)
 ·intro i hi h;refine Ev.step (fun k=>by rw [Sc.l0]) ?_;refine Ev.pos (by omega) (Ev.pos (by rw [List.length_replicate];omega) ?_);rw [Ve hi (by omega),← List.replicate_succ'];exact h
section
variable {l0:List Int} {p v s:Int} {bs:List Wd}
theorem zz {ys acc:List Int} {r:List Int} {n:Nat} (hn:n ≤ 1048576) (hy:ys.length ≤ 2) :
  ∀ (d i:Nat) (sn:List Bool) (q:List Int),i + d=ys.length→sn.length=n→q.length + d ≤ 4 * n + 8→(∀ j ∈ ys,0 ≤ j∧j < n) →
  Ev (fun k=>Cb.l0 k acc (Ir ((ys.drop i).foldl Oe (sn,q)).1) ((ys.drop i).foldl Oe (sn,q)).2 l0 p v s bs) r→Ev (fun k=>Cb.l1 k acc (Ir sn) q ys (i:Int) l0 p v s bs) r:=by
 intro d
 induction d with
 | zero =>
  intro i sn q hi hs hq hr he;have e:i=ys.length:=by omega
  subst e;rw [List.drop_length] at he;refine Ev.step (fun k=>by rw [Cb.l1]) ?_;exact Ev.neg (by omega) he
 | succ d ih =>
  intro i sn q hi hs hq hr he;have hi':i < ys.length:=by omega
  obtain ⟨j0,j1⟩:=hr ys[i] (List.getElem_mem hi');have hrd:rd ys (i:Int)=ys[i]:=by rw [xy,List.getD_eq_getElem?_getD,List.getElem?_eq_getElem hi'];rfl
  rw [List.drop_eq_getElem_cons hi',List.foldl_cons] at he;refine Ev.step (fun k=>by rw [Cb.l1]) ?_;refine Ev.pos (by omega) (Ev.pos (by omega) ?_);rw [hrd];refine Ev.pos j0 (Ev.pos (by rw [Zp];omega) ?_);rw [Ve hi' (by omega),QF sn j0 (by omega)]
  by_cases hc:seen sn ys[i].toNat=true
  ·rw [if_pos hc];refine Ev.neg (by decide) ?_;have e:Oe (sn,q) ys[i]=(sn,q):=by unfold Oe;rw [if_pos hc]
   rw [e] at he;exact ih (i + 1) sn q (by omega) hs (by omega) hr he
  ·rw [if_neg hc];refine Ev.pos rfl (Ev.pos (by omega) ?_);have e:Oe (sn,q) ys[i]=(sn.set ys[i].toNat true,q ++ [ys[i]]):=by unfold Oe;rw [if_neg hc]
   rw [e] at he;rw [MB];exact ih (i + 1) _ _ (by omega) (by rw [List.length_set];exact hs) Xaj hr he
theorem Gw {r:List Int} (hE:ze bs) (hend:∀ sn:List Bool,sn.length=bs.length→(∀ j,seen sn j=true ↔ Em (De bs) j)→Ev (fun k=>Cb.l2 k [] (Ir sn) 0) r) :
  ∀ (m:Nat) (sn:List Bool) (q:List Int),2 * news sn + q.length ≤ m→Fx bs.length (De bs) sn q→(∀ j,seen sn j=true→(j:Int) ∉ q→∀ m ∈ De bs j,seen sn m.toNat=true)→Ev (fun k=>Cb.l0 k [] (Ir sn) q l0 p v s bs) r:=by
 have hn:=hE.2.1;intro m
 induction m with
 | zero =>
  intro sn q hm h hs;cases q with
  | cons i q=>rw [List.length_cons] at hm;omega
  | nil =>
   refine Ev.step (fun k=>by rw [Cb.l0]) ?_;exact Ev.neg (by simp) (hend sn h.len (gN h (fun j hj=>hs j hj (by simp))))
 | succ m ih =>
  intro sn q hm h hs;cases q with
  | nil =>
   refine Ev.step (fun k=>by rw [Cb.l0]) ?_;exact Ev.neg (by simp) (hend sn h.len (gN h (fun j hj=>hs j hj (by simp))))
  | cons i q =>
   obtain ⟨h0,h1,h2⟩:=h.YH i (by simp);have hi:i.toNat < bs.length:=by omega
   have hR:=h.zC _ h2;have hc:=h.cap;rw [List.length_cons] at hc hm;have g:Fx bs.length (De bs) sn q:=⟨h.len,fun j hj=>h.YH j (by simp [hj]),h.zC,by omega,h.yL⟩
   have gs:Shut (De bs) sn q i.toNat:=by
    intro j hj hq hji;refine hs j hj ?_;intro hmem
    rcases List.mem_cons.mp hmem with e|e
    ·exact hji (by omega)
    ·exact hq e
   obtain ⟨a1,a2,a3,a4,a5⟩:=NA hR (De bs i.toNat) sn q g gs (fun j hj=>⟨(hE.2.2 _ hi j hj).1,(hE.2.2 _ hi j hj).2,hj⟩);have hit:((i.toNat:Nat):Int)=i:=Int.toNat_of_nonneg h0;have UO:(De bs i.toNat).length ≤ 2:=Ti _;have AU:bf.f (Ea bs i).f0 (Ea bs i).f1 (Ea bs i).f2 (Ea bs i).f3 (Ea bs i).f4=some (De bs i.toNat):=by unfold De;rw [hit];exact sq _
   have hrd:rd (i :: q) 0=i:=rfl;refine Ev.step (fun k=>by rw [Cb.l0]) ?_;refine Ev.pos kak (Ev.pos kak ?_);rw [hrd];refine Ev.pos h0 (Ev.pos h1 ?_);rw [AU];refine Ev.val (Ev.pos kak ?_);have hl:=h.len;refine zz (n:=bs.length) hn UO (De bs i.toNat).length 0 sn q (by omega) hl (by omega) (hE.2.2 _ hi) ?_;refine ih _ _ (by rw [List.drop_zero];omega) (by rw [List.drop_zero];exact a1) ?_;rw [List.drop_zero];intro j hj hq
   by_cases e:j=i.toNat
   ·intro m hm';rw [e] at hm';exact a3 m hm'
   ·exact a2 j hj hq e
theorem yz (sn:List Bool) (hs:sn.length ≤ 1048576):Ev (fun k=>Cb.l2 k [] (Ir sn) 0) (Fh sn 0):=by
 have key:=oh (r:=Fh sn 0) (n:=sn.length) (fun i=>Ev (fun k=>Cb.l2 k (Fh (sn.take i) 0) (Ir sn) (i:Int)) (Fh sn 0)) ?_ ?_ 0 (by omega)
 ·exact key
 ·refine Ev.step (fun k=>by rw [Cb.l2]) ?_;refine Ev.neg (by rw [Zp];omega) ?_;rw [List.take_length];exact Ev.now _
 ·intro i hi h;have ht:=Sr (sn.take i) 0;rw [List.length_take] at ht;refine Ev.step (fun k=>by rw [Cb.l2]) ?_;refine Ev.pos (by rw [Zp];omega) (Ev.pos (by omega) ?_);rw [Ve hi (by omega),QF sn (by omega) (by omega),Int.toNat_natCast];have o7:seen sn i=sn[i]:=by simp [seen,List.getD_eq_getElem?_getD,hi]
  rw [o7];rw [JC sn i hi] at h
  by_cases hc:sn[i]=true
  ·rw [if_pos hc] at h ⊢;exact Ev.pos rfl (Ev.pos (by omega) h)
  ·rw [if_neg hc] at h ⊢;exact Ev.neg (by decide) h
theorem Xt:∀ (sn:List Bool) (i:Nat) (x:Int),x ∈ Fh sn i ↔ ∃ j:Nat,j < sn.length∧seen sn j=true∧x=((i + j:Nat):Int)
 | [],i,x=>by simp [Fh]
 | b :: sn,i,x=>by
  have ih:=Xt sn (i + 1) x;have hs0:seen (b :: sn) 0=b:=rfl;have hs1:∀ j,seen (b :: sn) (j + 1)=seen sn j:=fun j=>rfl
  unfold Fh
  constructor
  ·intro h
   by_cases hb:b=true
   ·rw [if_pos hb] at h
    rcases List.mem_cons.1 h with h|h
    ·exact ⟨0,by simp,by rw [hs0];exact hb,by rw [h];rfl⟩
    ·obtain ⟨j,h1,h2,h3⟩:=ih.1 h;exact ⟨j + 1,by simpa using h1,by rw [hs1];exact h2,by omega⟩
   ·rw [if_neg hb] at h;obtain ⟨j,h1,h2,h3⟩:=ih.1 h;exact ⟨j + 1,by simpa using h1,by rw [hs1];exact h2,by omega⟩
  ·rintro ⟨j,h1,h2,h3⟩
   have hrest:(∃ j',j=j' + 1)→x ∈ Fh sn (i + 1):=by
    rintro ⟨j',rfl⟩;exact ih.2 ⟨j',by simpa using h1,by rw [← hs1];exact h2,by omega⟩
   by_cases hb:b=true
   ·rw [if_pos hb]
    rcases j with _|j
    ·exact List.mem_cons.2 (Or.inl (by omega))
    ·exact List.mem_cons.2 (Or.inr (hrest ⟨j,rfl⟩))
   ·rw [if_neg hb]
    rcases j with _|j
    ·rw [hs0] at h2;exact absurd h2 hb
    ·exact hrest ⟨j,rfl⟩
theorem AA:∀ (sn:List Bool) (i:Nat),(Fh sn i).Pairwise (· < ·)
 | [],i=>by simp [Fh]
 | b :: sn,i=>by
  have ih:=AA sn (i + 1);unfold Fh
  by_cases hb:b=true
  ·rw [if_pos hb,List.pairwise_cons];refine ⟨fun x hx=>?_,ih⟩;obtain ⟨j,_,_,h3⟩:=(Xt sn (i + 1) x).1 hx;omega
  ·rw [if_neg hb];exact ih
theorem zA (hE:ze bs) (sn:List Bool) (hs:sn.length=bs.length) (h:∀ j,seen sn j=true ↔ Em (De bs) j):Fh sn 0=mc bs:=by
 refine Jp _ _ (AA sn 0) (cu bs) (fun x=>?_);rw [Xt,ug hE]
 constructor
 ·rintro ⟨j,h1,h2,h3⟩;rw [Nat.zero_add] at h3;subst h3;exact ⟨by omega,(h _).1 (by rw [Int.toNat_natCast];exact h2)⟩
 ·rintro ⟨h0,hr⟩;exact ⟨x.toNat,by rw [hs];exact Fo hE hr,(h _).2 hr,by omega⟩
theorem Jk (n:Nat) (hn:0 < n) (j:Nat):seen ((List.replicate n false).set 0 true) j=decide (j=0):=by
 rw [Qh (by simpa using hn),Sn,Bool.or_false]
 by_cases h:j=0
 ·subst h;rfl
 ·rw [decide_eq_false h,decide_eq_false (fun e=>h e.symm)]
theorem uw {n:Nat} {nx:Nat→List Int} (hn:0 < n):Fx n nx ((List.replicate n false).set 0 true) [0]:=by
 refine ⟨by simp,fun j hj=>?_,fun j hj=>?_,?_,?_⟩
 ·rw [List.mem_singleton] at hj;subst hj;exact ⟨by omega,by omega,by rw [Jk n hn];rfl⟩
 ·rw [Jk n hn,decide_eq_true_eq] at hj;subst hj;exact Em.zero
 ·have:=Zr (s:=List.replicate n false) (i:=0) (by simpa using hn) (Sn _ _);rw [fu] at this;rw [List.length_singleton];omega
 ·rw [Jk n hn];rfl
theorem xz (h0:l0.length ≤ 1048576) (hl:bs.length ≤ 1048576) (ht:Rc bs ≤ 1048576) (hok:Ii l0 p v s bs=true):Ev (fun k=>Cb.f k l0 p v s bs) (mc bs):=by
 have hE:=ym hok;unfold Cb.f;refine Ev.val (Ev.bind (Lo h0 hl ht) ?_);refine Ev.pos hok (Ev.bind (RJ bs.length hl) (Ev.pos (by rw [List.length_replicate];have:=hE.1;omega) ?_))
 have e:(List.replicate bs.length (0:Int)).set (0:Int).toNat 1=Ir ((List.replicate bs.length false).set 0 true):=by
  rw [← MB];unfold Ir;rw [List.map_replicate]
  rfl
 rw [e];refine Gw hE (fun sn hs hr=>?_) _ _ _ (Nat.le_refl _) (uw hE.1) (fun j hj hq=>?_)
 ·rw [← zA hE sn hs hr];exact yz sn (by omega)
 ·rw [Jk _ hE.1,decide_eq_true_eq] at hj;subst hj;exact absurd (by simp) hq
end
end Go.Proofs.Ytoomcmaifgkkfaa.P
end
section
namespace Go.Proofs.Ytoomcmaifgkkfaa.P
open Go.RowKit Go.Proofs.Aa.Db Go.Proofs.Aa.Tc Go.Proofs.Aa.ke
set_option linter.unusedVariables false
set_option linter.unusedSimpArgs false
def SQ (bs:List Wd) (a:Int) (i:Nat):List Int:=(De bs i).filter fun j=>decide (j ≠ a)
section
variable {l0:List Int} {p v s:Int} {bs:List Wd}
theorem GL (hE:ze bs) {a:Nat} (ha:0 ≠ a) (k:Nat):Em (SQ bs (a:Int)) k ↔ RA (De bs) a k:=by
 constructor
 ·intro h
  induction h with
  | zero=>exact RA.zero ha
  | @step i j hr hj ih =>
   obtain ⟨h1,h2⟩:=List.mem_filter.1 hj;have:=hE.2.2 i (Fo hE ih.zC) j h1;rw [decide_eq_true_eq] at h2;exact RA.step ih h1 (by omega)
 ·intro h
  induction h with
  | zero _=>exact Em.zero
  | @step i j hr hj hne ih =>
   have:=hE.2.2 i (Fo hE hr.zC) j hj;exact Em.step ih (List.mem_filter.2 ⟨hj,by rw [decide_eq_true_eq];omega⟩)
theorem uz {ys:List Int} {a:Int} {r:List Bool} {n:Nat} (hn:n ≤ 1048576) (hy:ys.length ≤ 2) :
  ∀ (d i:Nat) (sn:List Bool) (q:List Int),i + d=ys.length→sn.length=n→q.length + d ≤ 4 * n + 8→(∀ j ∈ ys,0 ≤ j∧j < n) →
  Ev (fun k=>Ab.l0 k a (((ys.drop i).filter fun j=>decide (j ≠ a)).foldl Oe (sn,q)).1 (((ys.drop i).filter fun j=>decide (j ≠ a)).foldl Oe (sn,q)).2 l0 p v s bs) r→Ev (fun k=>Ab.l1 k a sn q ys (i:Int) l0 p v s bs) r:=by
 intro d
 induction d with
 | zero =>
  intro i sn q hi hs hq hr he;have e:i=ys.length:=by omega
  subst e;rw [List.drop_length,List.filter_nil] at he;refine Ev.step (fun k=>by rw [Ab.l1]) ?_;exact Ev.neg (by omega) he
 | succ d ih =>
  intro i sn q hi hs hq hr he;have hi':i < ys.length:=by omega
  obtain ⟨j0,j1⟩:=hr ys[i] (List.getElem_mem hi');have hrd:rd ys (i:Int)=ys[i]:=by rw [xy,List.getD_eq_getElem?_getD,List.getElem?_eq_getElem hi'];rfl
  rw [List.drop_eq_getElem_cons hi',List.filter_cons] at he;refine Ev.step (fun k=>by rw [Ab.l1]) ?_;refine Ev.pos (by omega) (Ev.pos (by omega) ?_);rw [hrd];rw [Ve hi' (by omega)];have o7:xg false sn ys[i]=seen sn ys[i].toNat:=rfl;rw [o7]
  by_cases ha:ys[i]=a
  ·refine Ev.pos ha ?_;rw [if_neg (by simp [ha])] at he;exact ih (i + 1) sn q (by omega) hs (by omega) hr he
  ·rw [if_pos (by simp [ha]),List.foldl_cons] at he;refine Ev.neg ha (Ev.pos j0 (Ev.pos (by omega) ?_))
   by_cases hc:seen sn ys[i].toNat=true
   ·refine Ev.pos hc ?_;have e:Oe (sn,q) ys[i]=(sn,q):=by unfold Oe;rw [if_pos hc]
    rw [e] at he;exact ih (i + 1) sn q (by omega) hs (by omega) hr he
   ·refine Ev.neg hc (Ev.pos (by omega) ?_);have e:Oe (sn,q) ys[i]=(sn.set ys[i].toNat true,q ++ [ys[i]]):=by unfold Oe;rw [if_neg hc]
    rw [e] at he;exact ih (i + 1) _ _ (by omega) (by rw [List.length_set];exact hs) Xaj hr he
theorem Fw {a:Int} (hE:ze bs) :
  ∀ (m:Nat) (sn:List Bool) (q:List Int),2 * news sn + q.length ≤ m→Fx bs.length (SQ bs a) sn q→(∀ j,seen sn j=true→(j:Int) ∉ q→∀ m ∈ SQ bs a j,seen sn m.toNat=true)→∃ t:List Bool,t.length=bs.length∧(∀ j,seen t j=true ↔ Em (SQ bs a) j)∧Ev (fun k=>Ab.l0 k a sn q l0 p v s bs) t:=by
 have hn:=hE.2.1;intro m
 induction m with
 | zero =>
  intro sn q hm h hs;cases q with
  | cons i q=>rw [List.length_cons] at hm;omega
  | nil=>exact ⟨sn,h.len,gN h (fun j hj=>hs j hj (by simp)),Ev.step (fun k=>by rw [Ab.l0]) (Ev.neg (by simp) (Ev.now _))⟩
 | succ m ih =>
  intro sn q hm h hs;cases q with
  | nil=>exact ⟨sn,h.len,gN h (fun j hj=>hs j hj (by simp)),Ev.step (fun k=>by rw [Ab.l0]) (Ev.neg (by simp) (Ev.now _))⟩
  | cons i q =>
   obtain ⟨h0,h1,h2⟩:=h.YH i (by simp);have hi:i.toNat < bs.length:=by omega
   have hR:=h.zC _ h2;have hc:=h.cap;rw [List.length_cons] at hc hm;have g:Fx bs.length (SQ bs a) sn q:=⟨h.len,fun j hj=>h.YH j (by simp [hj]),h.zC,by omega,h.yL⟩
   have gs:Shut (SQ bs a) sn q i.toNat:=by
    intro j hj hq hji;refine hs j hj ?_;intro hmem
    rcases List.mem_cons.mp hmem with e|e
    ·exact hji (by omega)
    ·exact hq e
   obtain ⟨a1,a2,a3,a4,a5⟩:=NA hR (SQ bs a i.toNat) sn q g gs (fun j hj=>⟨(hE.2.2 _ hi j (List.mem_filter.1 hj).1).1,(hE.2.2 _ hi j (List.mem_filter.1 hj).1).2,hj⟩);have hit:((i.toNat:Nat):Int)=i:=Int.toNat_of_nonneg h0;have UO:(De bs i.toNat).length ≤ 2:=Ti _;have AU:bf.f (Ea bs i).f0 (Ea bs i).f1 (Ea bs i).f2 (Ea bs i).f3 (Ea bs i).f4=some (De bs i.toNat):=by unfold De;rw [hit];exact sq _
   have hrd:rd (i :: q) 0=i:=rfl;have hl:=h.len
   obtain ⟨t,t1,t2,t3⟩:=ih _ _ (by omega) a1 (by
    intro j hj hq
    by_cases e:j=i.toNat
    ·intro m hm';rw [e] at hm';exact a3 m hm'
    ·exact a2 j hj hq e)
   refine ⟨t,t1,t2,?_⟩;refine Ev.step (fun k=>by rw [Ab.l0]) ?_;refine Ev.pos kak (Ev.pos kak ?_);rw [hrd];refine Ev.pos h0 (Ev.pos h1 ?_);rw [AU];refine Ev.val (Ev.pos kak ?_);refine uz (n:=bs.length) hn UO (De bs i.toNat).length 0 sn q (by omega) hl (by omega) (hE.2.2 _ hi) ?_;rw [List.drop_zero];exact t3
theorem jH (hE:ze bs) (a:Nat) (ha:0 ≠ a):∃ t:List Bool,t.length=bs.length∧(∀ j,seen t j=true ↔ RA (De bs) a j)∧Ev (fun k=>Ab.f k l0 p v s bs 0 (a:Int) (List.replicate bs.length false)) t:=by
 obtain ⟨t,t1,t2,t3⟩:=Fw (a:=(a:Int)) (l0:=l0) (p:=p) (v:=v) (s:=s) hE _ ((List.replicate bs.length false).set 0 true) [0] (Nat.le_refl _) (uw hE.1) (fun j hj hq=>by
  rw [Jk _ hE.1,decide_eq_true_eq] at hj;subst hj
  exact absurd (by simp) hq)
 refine ⟨t,t1,fun j=>(t2 j).trans (GL hE ha j),?_⟩;unfold Ab.f;exact Ev.pos (by omega) (Ev.pos (by rw [List.length_replicate];have:=hE.1;omega) t3)
noncomputable def Xl (bs:List Wd) (i:Nat):List Bool:=open Classical in (List.range bs.length).map fun k=>decide (Dom (De bs) i k)
noncomputable def zo (bs:List Wd):List (List Bool):=(List.range bs.length).map (Xl bs)
theorem sj (bs:List Wd) (i:Nat):(Xl bs i).length=bs.length:=by simp [Xl]
theorem Gh (bs:List Wd):(zo bs).length=bs.length:=by simp [zo]
theorem CL {bs:List Wd} {i:Nat} (hi:i < bs.length):(zo bs).getD i []=Xl bs i:=by simp [zo,List.getD_eq_getElem?_getD,hi]
theorem RF {bs:List Wd} {i k:Nat} (hk:k < bs.length):(Xl bs i).getD k false=true ↔ Dom (De bs) i k:=by simp [Xl,List.getD_eq_getElem?_getD,hk]
theorem Ew {r:List (List Bool)} (hE:ze bs) (he:∀ cm:List Bool,cm.length=bs.length→(∀ j,seen cm j=true ↔ Em (De bs) j)→Ev (fun k=>Va.l1 k (bs.length:Int) cm [] 0 l0 p v s bs) r) :
  Ev (fun k=>Va.l0 k (bs.length:Int) (List.replicate bs.length false) (mc bs) 0 l0 p v s bs) r:=by
 have hrl:=Mn bs;have hn:=hE.2.1;have key:=oh (r:=r) (n:=(mc bs).length) (fun i=>∀ cm:List Bool,cm.length=bs.length→(∀ j:Nat,seen cm j=true ↔ (j:Int) ∈ (mc bs).take i)→Ev (fun k=>Va.l0 k (bs.length:Int) cm (mc bs) (i:Int) l0 p v s bs) r) ?_ ?_ 0 (by omega)
 ·exact key _ (by simp) (fun j=>by rw [Sn];simp)
 ·intro cm hc hs;refine Ev.step (fun k=>by rw [Va.l0]) ?_;refine Ev.neg (by omega) (he cm hc (fun j=>?_));rw [hs,List.take_length,ug hE,Int.toNat_natCast];exact ⟨fun h=>h.2,fun h=>⟨by omega,h⟩⟩
 ·intro i hi h cm hc hs;obtain ⟨x0,xr⟩:=(ug hE _).1 (List.getElem_mem hi);have hx:=Fo hE xr;refine Ev.step (fun k=>by rw [Va.l0]) ?_;refine Ev.pos (by omega) (Ev.pos (by omega) ?_);rw [uh hi,Ve hi (by omega)];refine Ev.pos x0 (Ev.pos (by rw [hc];omega) (h _ (by rw [List.length_set];exact hc) (fun j=>?_)));rw [Qh (by rw [hc];exact hx),Bool.or_eq_true,decide_eq_true_eq,hs,List.take_succ_eq_append_getElem hi,List.mem_append,List.mem_singleton]
  constructor
  ·rintro (h|h)
   ·right;omega
   ·left;exact h
  ·rintro (h|h)
   ·right;exact h
   ·left;omega
theorem Xp {r:List (List Bool)} {cm wo:List Bool} {acc:List (List Bool)} {i:Nat} (hE:ze bs) (hi:i < bs.length) (hc:cm.length=bs.length) (xS:∀ j,seen cm j=true ↔ Em (De bs) j) (hw:wo.length=bs.length) (hwr:Em (De bs) i→∀ j,Em (De bs) j→(seen wo j=true ↔ RA (De bs) i j)) (ha:acc.length ≤ bs.length)
  (he:Ev (fun k=>Va.l1 k (bs.length:Int) cm (acc ++ [Xl bs i]) ((i + 1:Nat):Int) l0 p v s bs) r) :
  Ev (fun k=>Va.l2 k (bs.length:Int) cm acc (i:Int) wo (List.replicate bs.length false) 0 l0 p v s bs) r:=by
 have hn:=hE.2.1;have key:=oh (r:=r) (n:=bs.length) (fun j=>Ev (fun k=>Va.l2 k (bs.length:Int) cm acc (i:Int) wo ((Xl bs i).take j ++ List.replicate (bs.length - j) false) (j:Int) l0 p v s bs) r) ?_ ?_ 0 (by omega)
 ·simpa using key
 ·have e:(Xl bs i).take bs.length ++ List.replicate (bs.length - bs.length) false=Xl bs i:=by rw [List.take_of_length_le (by rw [sj];omega),Nat.sub_self,List.replicate_zero,List.append_nil]
  rw [e];refine Ev.step (fun k=>by rw [Va.l2]) ?_;refine Ev.neg (by omega) (Ev.pos (by omega) ?_);rw [Ve hi (by omega)];exact he
 ·intro j hj h
  have Ty:∀ b:Bool,b=(Xl bs i).getD j false→((Xl bs i).take j ++ List.replicate (bs.length - j) false).set j b=(Xl bs i).take (j + 1) ++ List.replicate (bs.length - (j + 1)) false:=by
   intro b hb;subst hb;have:=Bt (m:=Xl bs i) (z:=false) (i:=j) (by rw [sj];exact hj);rw [sj] at this;exact this
  have N7:((Xl bs i).take j ++ List.replicate (bs.length - j) false).length=bs.length:=by rw [List.length_append,List.length_take,List.length_replicate,sj];omega
  have s1:xg false cm (i:Int)=seen cm i:=rfl;have s2:xg false cm (j:Int)=seen cm j:=rfl;have s3:xg false wo (j:Int)=seen wo j:=rfl;refine Ev.step (fun k=>by rw [Va.l2]) ?_;refine Ev.pos (by omega) (Ev.pos (by omega) (Ev.pos (by omega) ?_));rw [s1,s2,s3,Int.toNat_natCast,Ve hj (by omega)];have hdom:=RF (bs:=bs) (i:=i) hj
  by_cases pL:seen cm i=true
  ·refine Ev.pos pL (Ev.pos (by omega) (Ev.pos (by omega) ?_))
   by_cases L3:seen cm j=true
   ·refine Ev.pos L3 (Ev.pos (by omega) (Ev.pos (by rw [N7];omega) ?_));rw [Ty]
    ·exact h
    ·have hri:=(xS i).1 pL;have hrj:=(xS j).1 L3;have hwj:=hwr hri j hrj;cases X6:seen wo j with
     | true =>
      cases hd:(Xl bs i).getD j false with
      | false=>rfl
      | true=>exact absurd (hwj.1 X6) (hdom.1 hd).2.2
     | false=>exact (hdom.2 ⟨hri,hrj,fun hra=>by rw [hwj.2 hra] at X6;cases X6⟩).symm
   ·refine Ev.neg L3 (Ev.pos (by rw [N7];omega) ?_);rw [Ty]
    ·exact h
    ·cases hd:(Xl bs i).getD j false with
     | false=>rfl
     | true=>exact absurd ((xS j).2 (hdom.1 hd).2.1) L3
  ·refine Ev.neg pL (Ev.pos (by omega) (Ev.pos (by rw [N7];omega) ?_));rw [Ty]
   ·exact h
   ·cases hd:(Xl bs i).getD j false with
    | false=>rfl
    | true=>exact absurd ((xS i).2 (hdom.1 hd).1) pL
theorem Dw {cm:List Bool} (hE:ze bs) (hc:cm.length=bs.length) (xS:∀ j,seen cm j=true ↔ Em (De bs) j):Ev (fun k=>Va.l1 k (bs.length:Int) cm [] 0 l0 p v s bs) (zo bs):=by
 have hn:=hE.2.1;have key:=oh (r:=zo bs) (n:=bs.length) (fun i=>Ev (fun k=>Va.l1 k (bs.length:Int) cm ((zo bs).take i) (i:Int) l0 p v s bs) (zo bs)) ?_ ?_ 0 (by omega)
 ·exact key
 ·refine Ev.step (fun k=>by rw [Va.l1]) ?_;refine Ev.neg (by omega) ?_;rw [List.take_of_length_le (by rw [Gh];omega)];exact Ev.now _
 ·intro i hi h
  have hti:(zo bs).take (i + 1)=(zo bs).take i ++ [Xl bs i]:=by
   rw [List.take_succ_eq_append_getElem (by rw [Gh];exact hi)];simp [zo]
  rw [hti] at h;have hlt:((zo bs).take i).length ≤ bs.length:=by rw [List.length_take,Gh];omega
  refine Ev.step (fun k=>by rw [Va.l1]) ?_;refine Ev.pos (by omega) (Ev.pos (by omega) (Ev.pos (by omega) (Ev.val ?_)));rw [Int.toNat_natCast]
  by_cases h0:i=0
  ·subst h0;refine Ev.pos rfl ?_;refine Ev.step (fun k=>by rw [Va.j2]) ?_;refine Ev.pos (by omega) (Ev.pos (by omega) ?_);rw [Int.toNat_natCast];refine Xp hE hi hc xS (by simp) (fun _ j hj=>?_) hlt h;rw [Sn];exact ⟨(fun h=>by cases h),fun h=>absurd h (Dom.zero hj).2.2⟩
  ·obtain ⟨t,t1,t2,t3⟩:=jH (l0:=l0) (p:=p) (v:=v) (s:=s) hE i (fun e=>h0 e.symm);refine Ev.neg (by omega) (Ev.bind t3 ?_);refine Ev.step (fun k=>by rw [Va.j2]) ?_;refine Ev.pos (by omega) (Ev.pos (by omega) ?_);rw [Int.toNat_natCast];exact Xp hE hi hc xS t1 (fun _ j _=>t2 j) hlt h
theorem IB (h0:l0.length ≤ 1048576) (hl:bs.length ≤ 1048576) (ht:Rc bs ≤ 1048576) (hok:Ii l0 p v s bs=true):Ev (fun k=>Va.f k l0 p v s bs) (zo bs):=by
 have hE:=ym hok;unfold Va.f;refine Ev.pos (by omega) (Ev.pos (by omega) (Ev.bind (xz h0 hl ht hok) ?_));rw [Int.toNat_natCast];exact Ew hE (fun cm h1 h2=>Dw hE h1 h2)
end
end Go.Proofs.Ytoomcmaifgkkfaa.P
end
section
namespace Go.Proofs.Ytoomcmaifgkkfaa.P
open Go.RowKit Go.Proofs.Aa.Db Go.Proofs.Aa.Tc Go.Proofs.Aa.ke
set_option linter.unusedVariables false
set_option linter.unusedSimpArgs false
theorem Yp (l:List Int) (a:Int) (hl:l.length ≤ 9223372036854775807):Ev (fun k=>Gb.f k l a) (decide (a ∈ l)):=by
 obtain ⟨k,r,h1,h2⟩:=vw l a hl;refine Ev.of (fun k=>Gb.mono _ _ _) (k:=k) ?_;unfold Gb.f;rw [h1];exact congrArg some (decide_eq_decide.2 h2)
section
variable {l0:List Int} {p v s:Int} {bs:List Wd}
theorem xG {k:Nat} (hk:k < bs.length):nk (om bs) k=Mm bs k:=by simp [nk,om,List.getD_eq_getElem?_getD,hk]
theorem NB (hE:ze bs) {i:Int} {k:Nat}:i ∈ Mm bs k ↔ 0 ≤ i∧Dom (De bs) i.toNat k:=by
 unfold Mm;rw [List.mem_filter,ug hE]
 constructor
 ·rintro ⟨⟨h0,_⟩,h⟩;exact ⟨h0,by simpa using h⟩
 ·rintro ⟨h0,h⟩;exact ⟨⟨h0,h.1⟩,by simpa using h⟩
theorem PC (hE:ze bs):Fi.f l0 p v s bs=some (om bs):=by
 unfold Fi.f;rw [if_pos hE]
end
end Go.Proofs.Ytoomcmaifgkkfaa.P
end
section
namespace Go.Proofs.Ytoomcmaifgkkfaa.P
open Go.RowKit Go.Proofs.Aa.Db Go.Proofs.Aa.Tc Go.Proofs.Aa.ke
set_option linter.unusedVariables false
set_option linter.unusedSimpArgs false
noncomputable def nh.f (Ma:List Int) (Oa:Int) (Pa:Int) (Na:Int) (oa:List (Wd)):Option (List (Int × Int)):=open Classical in if ze oa then some (fq oa) else none
noncomputable def Yn (bs:List Wd) (b j:Nat):List (Int × Int):=(((Nh (De bs b)).take j).filter (fun t=>decide (t ∈ Mm bs b))).map (fun t=>((b:Int),t))
theorem qH (bs:List Wd) (b j:Nat):(Yn bs b j).length ≤ j:=by
 unfold Yn;rw [List.length_map];exact Nat.le_trans (List.length_filter_le _ _) (by rw [List.length_take];omega)
theorem QD {bs:List Wd} {b j:Nat} (h:j < (Nh (De bs b)).length):Yn bs b (j + 1)=if (Nh (De bs b))[j] ∈ Mm bs b then Yn bs b j ++ [((b:Int),(Nh (De bs b))[j])] else Yn bs b j:=by
 unfold Yn;rw [Vn _ _ h,List.map_append]
 by_cases hm:(Nh (De bs b))[j] ∈ Mm bs b
 ·rw [if_pos (decide_eq_true hm),if_pos hm];rfl
 ·rw [if_neg (by simp [hm]),if_neg hm,List.map_nil,List.append_nil]
theorem rH {bs:List Wd} {b:Nat}:Jg bs b ++ Yn bs b (Nh (De bs b)).length=Jg bs (b + 1):=by
 unfold Yn;rw [List.take_length]
 rfl
theorem nh.calls (zb:Option Addr) (yb:Nat) (Ma:List Int) (Oa:Int) (Pa:Int) (Na:Int) (Ob:Option Addr) (Fb:Nat) (oa:List (Wd)) (r:List (Int × Int)) (w:World) (qd:Kd.C (Kd.int .i64) w zb Ma.length Ma) (Ad:Ma.length ≤ yb) (fe:Kd.C Km w Ob oa.length oa) (Fe:oa.length ≤ Fb) (h:nh.f Ma Oa Pa Na oa=some r) :
  Calls Try.prog 72 #[.agg #[.slice zb Ma.length yb,.int .i64 Oa,.int .i64 Pa,.int .i64 Na,.slice Ob oa.length Fb]] w fun e w'=>∃ Di:Value,e = .returned (Di)∧Kd.R k2 85 w' w.heap.size (fun _=>True) Di r∧Below w.heap.size w w':=by
 unfold nh.f at h
 by_cases hE:ze oa
 case neg=>rw [if_neg hE] at h;cases h
 rw [if_pos hE] at h;obtain rfl:=Option.some.inj h;clear h;have HE:=aa.mk hE;have hn0:0 < oa.length:=hE.1;have AR:oa.length ≤ 1048576:=hE.2.1;obtain ⟨W1,hW,hb,hx⟩:=Io w (.cells #[.slice zb Ma.length yb,.int .i64 Oa,.int .i64 Pa,.int .i64 Na,.slice Ob oa.length Fb] 45 (0,0));have HW:=aa.mk hW;have HB:=aa.mk hb;have HX:=aa.mk hx;have vv:=aa.mk fe;have MK:=aa.mk (Fi.calls zb yb Ma Oa Pa Na Ob Fb oa (om oa) W1 (Kd.Za qd hb) Ad (Kd.Za fe hb) Fe (PC hE));obtain ⟨x0,x1,x2,x3,x4⟩:=ig hx;clear hW hb hx qd fe hE;go_enter Try.func72,Try.ntmps72
 go_upto_region 1 with (fail)
 rw [← HW.out];clear HW
 go_upto_region 2 with (first|(go_at_call 82;(with_reducible refine MK.out.mono ?_);rintro e w2 ⟨v2,rfl,ho,hb⟩;obtain ⟨gR,cR,hv2,-,-,-⟩:=Kd.Pw ho (by rw [Ln];exact hn0);subst hv2;have VN:=aa.mk ho;have Li:=aa.mk (Ga HB.out hb);have AH:=aa.mk (Ta HX.out hb);clear ho hb x0 x1 x2 x3 x4))
 clear HX MK HB
 go_upto_region 3 with (fail)
 have HZ:=aa.mk (Zj k2 85 w2 w2.heap.size (Nat.le_refl _));have vo:=aa.mk (ia (Below.refl w2.heap.size w2) (.cells #[] 85 (0,0)));generalize w2.alloc (.cells #[] 85 (0,0))=W3 at HZ vo ⊢;obtain ⟨-,-,-,-,x4⟩:=ig (Ta AH.out vo.out);go_wp2
 go_loopg [4,15] oa.length (fun gg v4 v15 wr=>∃ i:Nat,v15 = .int .i64 i∧i ≤ oa.length∧oa.length - i ≤ gg∧aa (Kd.R k2 85 wr w2.heap.size (fun _=>True) v4 (Jg oa i))∧aa (Below w2.heap.size w2 wr))
 case atStart=>exact ⟨0,rfl,Nat.zero_le _,by omega,HZ,vo⟩
 case round =>
  clear HZ vo x4;(try clear HR);(try clear HB);obtain ⟨i,rfl,hi,lD,HR,HB⟩:=hrel
  by_cases hlt:i < oa.length
  ·have ek:decide ((i:Int) < (oa.length:Int))=true:=decide_eq_true (by omega);have i1:0 ≤ (i:Int):=by omega
   have i2:(i:Int) < (oa.length:Int):=by omega
   obtain ⟨ag,Ac,cc,e1,hc0,hc1,Lv,nA,qL,Ru,nP⟩:=Vj (Kd.Za (Kd.Za vv.out Li.out) HB.out) (i:Int) i1 i2;subst e1;simp only [Int.toNat_natCast] at hc0 hc1 Lv nA qL;have YK:=aa.mk nP;have vL:=aa.mk Ru;have HTS:=aa.mk (HE.out.2.2 i hlt);clear nP Ru
   go_upto_region 6 with (fail)
   have O4:=aa.mk (Kd.Ia HR.out (.cells #[.slice Ac (Ea oa (i:Int)).f0.length cc,.int .i64 (Ea oa (i:Int)).f1,.int .i64 (Ea oa (i:Int)).f2,.int .i64 (Ea oa (i:Int)).f3,.int .i64 (Ea oa (i:Int)).f4] 83 (0,0)));have RU:=aa.mk (HB.out.alloc HB.out.size (.cells #[.slice Ac (Ea oa (i:Int)).f0.length cc,.int .i64 (Ea oa (i:Int)).f1,.int .i64 (Ea oa (i:Int)).f2,.int .i64 (Ea oa (i:Int)).f3,.int .i64 (Ea oa (i:Int)).f4] 83 (0,0)));have HCb:=aa.mk (Kd.Za YK.out (ia (Below.refl wr.heap.size wr) (.cells #[.slice Ac (Ea oa (i:Int)).f0.length cc,.int .i64 (Ea oa (i:Int)).f1,.int .i64 (Ea oa (i:Int)).f2,.int .i64 (Ea oa (i:Int)).f3,.int .i64 (Ea oa (i:Int)).f4] 83 (0,0))));have L4:=aa.mk (ij wr (.cells #[.slice Ac (Ea oa (i:Int)).f0.length cc,.int .i64 (Ea oa (i:Int)).f1,.int .i64 (Ea oa (i:Int)).f2,.int .i64 (Ea oa (i:Int)).f3,.int .i64 (Ea oa (i:Int)).f4] 83 (0,0)));generalize wr.alloc (.cells #[.slice Ac (Ea oa (i:Int)).f0.length cc,.int .i64 (Ea oa (i:Int)).f1,.int .i64 (Ea oa (i:Int)).f2,.int .i64 (Ea oa (i:Int)).f3,.int .i64 (Ea oa (i:Int)).f4] 83 (0,0))=wb at O4 RU HCb L4 ⊢;obtain ⟨y0,y1,y2,y3,y4⟩:=ig L4.out;clear HR HB YK hc0 hc1 Lv nA qL;generalize wr.heap.size=qb at L4 y0 y1 y2 y3 y4 ⊢;have S4:=aa.mk (show ue.f ((Ea oa (i:Int)).f0) ((Ea oa (i:Int)).f1) ((Ea oa (i:Int)).f2) ((Ea oa (i:Int)).f3) ((Ea oa (i:Int)).f4)=some (De oa i) from uq _);have htl:(De oa i).length ≤ 2:=Ti _
   have HAS:=aa.mk (show Be.f (De oa i)=some (Nh (De oa i)) from by
    unfold Be.f
    rw [if_pos (by omega)])
   go_wp2_with (first|(go_at_call 75;(with_reducible refine (ue.calls Ac cc ((Ea oa (i:Int)).f0) ((Ea oa (i:Int)).f1) ((Ea oa (i:Int)).f2) ((Ea oa (i:Int)).f3) ((Ea oa (i:Int)).f4) (De oa i) wb HCb.out vL.out S4.out).mono ?_);rintro e w6 ⟨v6,rfl,ho,hb⟩;have HN6:=aa.mk ho;have HBB:=aa.mk hb;have HR6:=aa.mk (Kd.ec O4.out hb);have UY:=aa.mk (RU.out.trans (hb.mono RU.out.size));clear ho hb y0 y1 y2 y3 y4)|(go_at_call 86;(with_reducible refine (Be.calls (fun _=>True) v6 (De oa i) (Nh (De oa i)) wb w6 HBB.out HN6.out HAS.out).mono ?_);rintro e w7 ⟨v7,rfl,ho,hb,hk⟩;obtain ⟨AS,cS,rfl⟩:=Kd.Vb ho;have HA7:=aa.mk ho;have mO:=aa.mk (RU.out.trans (hb.mono RU.out.size));have HR7:=aa.mk (Kd.ec (Kd.Eb (Kd.We O4.out) (fun k hk=>(Or.inl hk.2.2.1:k < wb.heap.size ∨ w7.heap.size ≤ k))) hb);have HZ7:=aa.mk hb.size;clear ho hb hk));have hal:(Nh (De oa i)).length ≤ 2:=Nat.le_trans (Xu _) htl;have HZB:=aa.mk RU.out.size;have HK0:=aa.mk (Kept.refl w7 (fun k=>k < wb.heap.size));have HAC:=aa.mk (fun W' hk=>Kd.Jm (S:=fun k=>k < wb.heap.size) (Kd.Eb (Kd.We HA7.out) (fun k hk=>hk.2.1)) (fun k hk e=>by omega) W' hk)
   have HRI:=aa.mk (show Kd.R k2 85 w7 w2.heap.size (fun k=>k < wb.heap.size ∨ w7.heap.size ≤ k) u4 (Jg oa i ++ Yn oa i 0) from by
    rw [show Yn oa i 0=[] from rfl,List.append_nil]
    exact HR7.out)
   clear HN6 HBB HR6 UY HA7 HR7 O4 HCb L4 S4 HAS htl
   go_loopg [4,24] (Nh (De oa i)).length (fun gj v4 v24 wz=>∃ j:Nat,v24 = .int .i64 j∧j ≤ (Nh (De oa i)).length∧(Nh (De oa i)).length - j ≤ gj∧aa (Kd.R k2 85 wz w2.heap.size (fun k=>k < wb.heap.size ∨ w7.heap.size ≤ k) v4 (Jg oa i ++ Yn oa i j))∧aa (Kept w7 wz (fun k=>k < wb.heap.size))∧aa (Below w2.heap.size w2 wz))
   case atStart=>exact ⟨0,rfl,Nat.zero_le _,by omega,HRI,HK0,mO⟩
   case round =>
    clear HRI HK0 mO;(try clear HR);(try clear HK);(try clear HB);obtain ⟨j,rfl,hj,U7,HR,HK,HB⟩:=hrel
    by_cases hjt:j < (Nh (De oa i)).length
    ·have cH:decide ((j:Int) < ((Nh (De oa i)).length:Int))=true:=decide_eq_true (by omega);have j1:0 ≤ (j:Int):=by omega
     have j2:(j:Int) < ((Nh (De oa i)).length:Int):=by omega
     obtain ⟨ad,e1,hx⟩:=Kd.Ld (HAC.out wr HK.out) (j:Int) j1 j2;subst e1;rw [Int.toNat_natCast,uh hjt] at hx;obtain ⟨A3,c3,Hi,-,YM⟩:=tK (Kd.ki VN.out HB.out) (i:=i) (by rw [Ln];exact hlt);rw [show (om oa).getD i []=Mm oa i from by rw [← xG hlt];rfl] at Hi YM;obtain ⟨kc,hkc⟩:=Ev.rounds (Yp (Mm oa i) (Nh (De oa i))[j] (Kd.Ua YM).2.2.2.1);have SY:=aa.mk (Gb.calls kc A3 c3 (Mm oa i) (Nh (De oa i))[j] _ wr (Kd.Ua YM).2.2 (Kd.Ua YM).2.1 hkc);have OK:=aa.mk (QD (bs:=oa) hjt);have i1:0 ≤ (i:Int):=by omega
     have i2:(i:Int) < ((om oa).length:Int):=by rw [Ln];omega
     have ZN:=aa.mk (show ((Jg oa i ++ Yn oa i j).length + 1) * 16 ≤ 140737488355328 from by
      have h1:=Oo oa i;have h2:=qH oa i j;rw [List.length_append]
      omega)
     clear YM hkc;generalize (Nh (De oa i))[j]=t at hx SY OK
     by_cases hm:t ∈ Mm oa i
     ·rw [decide_eq_true hm] at SY;have UT:=aa.mk (OK.out.trans (if_pos hm));have HFR:=aa.mk (fun k (hk:wr.heap.size ≤ k)=>(Or.inr (Nat.le_trans HK.out.1 hk):k < wb.heap.size ∨ w7.heap.size ≤ k));clear OK;go_wp2_with (first|(go_at_call 83;(with_reducible refine SY.out.mono ?_);rintro e w8 ⟨rfl,⟨n8,rfl⟩⟩)|(at_builtin;refine Kd.Fm k2 (w0:=w2) w2.heap.size rfl (.tmp 34) (.tmp 38) 57 85 (.agg #[.int .i64 0,.int .i64 0]) 16 rfl Try.underlying57 CE rfl (by decide) (by omega) _ (Jg oa i ++ Yn oa i j) ((i:Int),t) [.int .i64 (i:Int),.int .i64 t] (fun k=>k < wb.heap.size ∨ w7.heap.size ≤ k) (fun _=>False) rfl rfl ?aP (fun _ hk=>hk.elim) HFR.out ?aR ?aB ?aS ZN.out ?_;(case aP=>exact BI _ _ _ ((i:Int),t));(case aR=>exact Kd.La HR.out _);(case aB=>exact ga HB.out _);(case aS=>exact HB.out.size);intro v1 w1 ho hb hgr hat;have RP:=aa.mk ho;have Vo:=aa.mk hb;have Kf:=aa.mk (Kept.Af hgr (Kept.drewN HK.out _) (fun k e=>HR.out.1 k e));clear ho hb hgr hat))
      go_roundg ((Nh (De oa i)).length - (j + 1))
      case measure=>omega
      case rel=>exact ⟨j + 1,by go_num,by omega,by omega,⟨by rw [UT.out,← List.append_assoc];exact RP.out⟩,Kf,Vo⟩
     ·rw [decide_eq_false hm] at SY;have UT:=aa.mk (OK.out.trans (if_neg hm));clear OK;go_wp2_with (first|(go_at_call 83;(with_reducible refine SY.out.mono ?_);rintro e w8 ⟨rfl,⟨n8,rfl⟩⟩))
      go_roundg ((Nh (De oa i)).length - (j + 1))
      case measure=>omega
      case rel=>exact ⟨j + 1,by go_num,by omega,by omega,⟨by rw [UT.out];exact Kd.La HR.out _⟩,⟨Kept.drewN HK.out _⟩,⟨ga HB.out _⟩⟩
    ·have cH:decide ((j:Int) < ((Nh (De oa i)).length:Int))=false:=decide_eq_false (by omega);obtain rfl:j=(Nh (De oa i)).length:=by omega
     have YX:=aa.mk (show Kd.R k2 85 wr w2.heap.size (fun _=>True) u4 (Jg oa (i + 1)) from by
      rw [← rH]
      exact Kd.Eb HR.out (fun _ _=>trivial))
     go_wp2
     go_roundg (oa.length - (i + 1))
     case measure=>omega
     case rel=>exact ⟨i + 1,by go_num,by omega,by omega,YX,HB⟩
  ·have ek:decide ((i:Int) < (oa.length:Int))=false:=decide_eq_false (by omega);obtain rfl:i=oa.length:=by omega
   go_wp2;go_ret;exact ⟨_,rfl,Kd.Eb (Kd.Xc HR.out Li.out.size) (fun _ _=>trivial),Lr Li.out Li.out.size HB.out⟩
theorem aK {bs:List Wd} (hE:ze bs) {b q:Nat} (hq:q < bs.length):decide ((b:Int) ∈ Mm bs q)=xg false (Xl bs b) (q:Int):=by
 have h1:=RF (bs:=bs) (i:=b) hq;have h2:xg false (Xl bs b) (q:Int)=(Xl bs b).getD q false:=rfl;rw [h2]
 by_cases hd:Dom (De bs) b q
 ·rw [h1.2 hd];exact decide_eq_true ((NB hE).2 ⟨by omega,by rw [Int.toNat_natCast];exact hd⟩)
 ·rw [decide_eq_false (fun h=>hd (by have:=((NB hE).1 h).2;rwa [Int.toNat_natCast] at this))];cases hb:(Xl bs b).getD q false with
  | false=>rfl
  | true=>exact absurd (h1.1 hb) hd
noncomputable def kj.f (k:Nat) (Ma:List Int) (Oa:Int) (Pa:Int) (Na:Int) (oa:List (Wd)):Option (List (Int × Int)) :=
 (Qd.f k Ma Oa Pa Na oa).bind fun t=>if t=true then ((Va.f k Ma Oa Pa Na oa).bind fun M=>open Classical in if M=zo oa∧ze oa then some (fq oa) else none) else some []
noncomputable def Cn (bs:List Wd) (b j:Nat):List Int:=((De bs b).take j).filter (fun t=>decide (t ∈ Mm bs b))
theorem RD {bs:List Wd} {b j:Nat} (h:j < (De bs b).length):Cn bs b (j + 1)=if (De bs b)[j] ∈ Mm bs b then Cn bs b j ++ [(De bs b)[j]] else Cn bs b j:=by
 unfold Cn;rw [Vn _ _ h]
 by_cases hm:(De bs b)[j] ∈ Mm bs b
 ·rw [if_pos (decide_eq_true hm),if_pos hm]
 ·rw [if_neg (by simp [hm]),if_neg hm,List.append_nil]
theorem sH (bs:List Wd) (b:Nat):(Cn bs b (De bs b).length).foldl Fg []=Bi bs b:=by
 rw [Jt];unfold Cn Bi;rw [List.take_length];refine Jp _ _ (Kg _).1 ((Kg _).1.filter _) (fun x=>?_);rw [(Kg _).2,List.mem_filter,List.mem_filter,(Kg _).2]
theorem kj.calls (k:Nat) (zb:Option Addr) (yb:Nat) (Ma:List Int) (Oa:Int) (Pa:Int) (Na:Int) (Ob:Option Addr) (Fb:Nat) (oa:List (Wd)) (r:List (Int × Int)) (w:World) (qd:Kd.C (Kd.int .i64) w zb Ma.length Ma) (Ad:Ma.length ≤ yb) (fe:Kd.C Km w Ob oa.length oa) (Fe:oa.length ≤ Fb) (h:kj.f k Ma Oa Pa Na oa=some r) :
  Calls Try.prog 42 #[.agg #[.slice zb Ma.length yb,.int .i64 Oa,.int .i64 Pa,.int .i64 Na,.slice Ob oa.length Fb]] w fun e w'=>∃ Di:Value,e = .returned (Di)∧Kd.R k2 85 w' w.heap.size (fun _=>True) Di r∧Below w.heap.size w w':=by
 unfold kj.f at h;obtain ⟨t,tT,h⟩:=Option.bind_eq_some_iff.mp h;have TT:=aa.mk tT;have HH:=aa.mk h;obtain ⟨W1,hW,hb,hx,hy⟩:=oq w (.cells #[.slice zb Ma.length yb,.int .i64 Oa,.int .i64 Pa,.int .i64 Na,.slice Ob oa.length Fb] 45 (0,0)) (.cells #[] 85 (0,0));have hzz:(w.alloc (.cells #[.slice zb Ma.length yb,.int .i64 Oa,.int .i64 Pa,.int .i64 Na,.slice Ob oa.length Fb] 45 (0,0))).heap.size=w.heap.size + 1:=by simp
 have HO:=aa.mk (show Kd.R k2 85 W1 w.heap.size (fun k=>k=w.heap.size + 1) (.slice (some ⟨w.heap.size + 1,0,none⟩) 0 0) [] by
  have h:=Zj k2 85 (w.alloc (.cells #[.slice zb Ma.length yb,.int .i64 Oa,.int .i64 Pa,.int .i64 Na,.slice Ob oa.length Fb] 45 (0,0))) w.heap.size (by simp);rw [hzz,← hW] at h
  exact ⟨fun k hk=>by simpa [Value.ownBlock] using hk.symm,h.2.wm (fun p c hp=>hp.elim (fun _ h=>h.elim (fun _ h=>⟨_,_,h⟩)))⟩)
 have HW:=aa.mk hW;have HB:=aa.mk hb;have HX:=aa.mk hx;have ak:=aa.mk qd;have vv:=aa.mk fe;have Hx:=aa.mk Ad;have Gx:=aa.mk Fe;have hm4:=fe.2.1;obtain ⟨x0,x1,x2,x3,x4⟩:=ig hx;clear hW hb hx hy qd fe Ad Fe h tT hzz;go_enter Try.func42,Try.ntmps42
 go_upto_region 2 with (fail)
 rw [← HW.out];clear HW;cases t with
 | false =>
  have h:=HH.out;rw [if_neg (by simp)] at h;cases h;go_wp2_with (first|(go_at_call 66;(with_reducible refine (Qd.calls k zb yb Ma Oa Pa Na Ob Fb oa false W1 (Kd.Za ak.out HB.out) Hx.out (Kd.Za vv.out HB.out) Gx.out TT.out).mono ?_);rintro e w2 ⟨rfl,hb⟩;have VN:=aa.mk (Kd.ec HO.out hb);have Li:=aa.mk (Ga HB.out hb);clear hb));go_ret;exact ⟨_,rfl,Kd.Eb VN.out (fun _ _=>trivial),Li.out⟩
 | true =>
  have h:=HH.out;rw [if_pos rfl] at h;obtain ⟨M,tM,h⟩:=Option.bind_eq_some_iff.mp h
  by_cases hm:M=zo oa∧ze oa
  case neg=>rw [if_neg hm] at h;cases h
  rw [if_pos hm] at h;cases h;obtain ⟨rfl,hE⟩:=hm;have HE:=aa.mk hE;have hn0:0 < oa.length:=hE.1;have AR:oa.length ≤ 1048576:=hE.2.1;have TM:=aa.mk tM;clear tM HH hE
  go_upto_region 4 with (first|(go_at_call 66;(with_reducible refine (Qd.calls k zb yb Ma Oa Pa Na Ob Fb oa true W1 (Kd.Za ak.out HB.out) Hx.out (Kd.Za vv.out HB.out) Gx.out TT.out).mono ?_);rintro e w2 ⟨rfl,hb⟩;have VN:=aa.mk (Kd.ec HO.out hb);have Li:=aa.mk (Ga HB.out hb);have AH:=aa.mk (Ta HX.out hb);have HZ2:=aa.mk (Nat.lt_of_lt_of_le (Kd.Yi HO.out _ rfl) hb.size);clear hb x0 x1 x2 x3 x4))
  clear HO HB HX;obtain ⟨x0,x1,x2,x3,x4⟩:=ig AH.out
  go_upto_region 5 with (first|(go_at_call 67;(with_reducible refine (Va.calls k zb yb Ma Oa Pa Na Ob Fb oa (zo oa) w2 (Kd.Za ak.out Li.out) Hx.out (Kd.Za vv.out Li.out) Gx.out TM.out).mono ?_);rintro e w3 ⟨v3,rfl,ho,hb⟩;obtain ⟨gT,cT,hv3,-,-,-⟩:=Kd.Pw ho (by rw [Gh];exact hn0);subst hv3;have HM3:=aa.mk (Kd.wg (Kd.Ro ho) (fun k hk=>hk.2.1));have Rt:=aa.mk (Kd.ec VN.out hb);have vo:=aa.mk (Ga Li.out hb);have EU:=aa.mk (Ta AH.out hb);have HZ3:=aa.mk hb.size;clear ho hb x0 x1 x2 x3 x4))
  clear VN Li AH;have HQ:=aa.mk (show w.heap.size + 1 < w2.heap.size from HZ2.out);have ZX:=aa.mk (show Kd.R k2 85 w3 w.heap.size (fun k=>k=w.heap.size + 1 ∨ w3.heap.size ≤ k) (.slice (some ⟨w.heap.size + 1,0,none⟩) 0 0) (Jg oa 0) from Kd.Eb Rt.out (fun k hk=>.inl hk));have HKA:=aa.mk (Kept.refl w3 (fun k=>k=w.heap.size + 1));clear Rt HZ2 TT TM h;go_wp2
  go_loopg [3,5] oa.length (fun gg v3 v5 wr=>∃ i:Nat,v5 = .int .i64 i∧i ≤ oa.length∧oa.length - i ≤ gg∧aa (Kd.R k2 85 wr w.heap.size (fun k=>k=w.heap.size + 1 ∨ w3.heap.size ≤ k) v3 (Jg oa i))∧aa (Kept w3 wr (fun k=>k=w.heap.size + 1))∧aa (Below w.heap.size w wr))
  case atStart=>exact ⟨0,rfl,Nat.zero_le _,by omega,ZX,HKA,vo⟩
  case round =>
   clear ZX HKA vo;(try clear HR);(try clear HK);(try clear HB);obtain ⟨i,rfl,hi,lD,HR,HK,HB⟩:=hrel
   by_cases hlt:i < oa.length
   ·have ek:i < (zo oa).length:=by rw [Gh];exact hlt
    have i1:0 ≤ (i:Int):=by omega
    have i2:(i:Int) < (oa.length:Int):=by omega
    obtain ⟨x0,x1,x2,x3,x4⟩:=ig (jg EU.out HK.out (by omega));obtain ⟨ag,Ac,cc,e1,hc0,hc1,Lv,nA,qL,Ru,nP⟩:=Vj (Kd.Za vv.out HB.out) (i:Int) i1 i2;subst e1;simp only [Int.toNat_natCast] at hc0 hc1 Lv nA qL;have HTS:=aa.mk (HE.out.2.2 i hlt);have htl:(De oa i).length ≤ 2:=Ti _
    go_upto_region 9 with (fail)
    have CH:=aa.mk (ia (Below.refl wr.heap.size wr) (.cells #[] 3 (0,0)));have HL:=aa.mk (Zj (Kd.int .i64) 3 wr wr.heap.size (Nat.le_refl _));have hla:(wr.alloc (.cells #[] 3 (0,0))).heap.size=wr.heap.size + 1:=by simp
    generalize wr.alloc (.cells #[] 3 (0,0))=wa at CH HL hla ⊢;replace x4:=zf CH.out x4;replace hc0:=zf CH.out hc0;replace hc1:=zf CH.out hc1;replace Lv:=zf CH.out Lv;replace nA:=zf CH.out nA;replace qL:=zf CH.out qL;have YK:=aa.mk (Kd.Za nP CH.out);have vL:=aa.mk Ru;have HLA:=aa.mk hla;clear x0 x1 x2 x3 nP Ru hla;obtain ⟨wo,rfl⟩:∃ wo,wo=wr:=⟨_,rfl⟩;go_wp2_with (first|(go_at_call 85;(with_reducible refine (bf.calls Ac cc (Ea oa (i:Int)).f0 (Ea oa (i:Int)).f1 (Ea oa (i:Int)).f2 (Ea oa (i:Int)).f3 (Ea oa (i:Int)).f4 (De oa i) wa YK.out vL.out (sq _)).mono ?_);rintro e w5 ⟨v7,rfl,ho,hb⟩;obtain ⟨A7,c7,rfl⟩:=Kd.Vb ho;have vY:=aa.mk ho;have iE:=aa.mk (Ga CH.out hb);have HL5:=aa.mk (Kd.ec HL.out hb);have ZN:=aa.mk (Kd.Yi HL.out);have HZ5:=aa.mk hb.size;have QN:=aa.mk (show Kd.R (Kd.int .i64) 3 w5 wo.heap.size (fun k=>(k < wa.heap.size∧wo.heap.size ≤ k) ∨ w5.heap.size ≤ k) (.slice (some ⟨wo.heap.size,0,none⟩) 0 0) ((Cn oa i 0).foldl Fg []) from Kd.ec (Kd.Eb (Kd.We HL.out) (fun k hk=>.inl ⟨hk.2.2.1,hk.2.1⟩)) hb);clear ho hb x4 hc0 hc1 Lv nA qL));have MU:=aa.mk (fun W' hk=>Kd.Jm (S:=fun k=>k < wa.heap.size∧wo.heap.size ≤ k) (Kd.Eb (Kd.We vY.out) (fun k hk=>hk.2.1)) (fun k hk e=>by omega) W' hk);have CY:=aa.mk (Kept.refl w5 (fun k=>k < wa.heap.size∧wo.heap.size ≤ k));clear vY HL5 ZN HL YK vL HLA
    go_loopg [6,8] (De oa i).length (fun g2 v6 v8 wz=>∃ j:Nat,v8 = .int .i64 j∧j ≤ (De oa i).length∧(De oa i).length - j ≤ g2∧aa (Kd.R (Kd.int .i64) 3 wz wo.heap.size (fun k=>(k < wa.heap.size∧wo.heap.size ≤ k) ∨ w5.heap.size ≤ k) v6 ((Cn oa i j).foldl Fg []))∧aa (Kept w5 wz (fun k=>k < wa.heap.size∧wo.heap.size ≤ k))∧aa (Below wo.heap.size wo wz))
    case atStart=>exact ⟨0,rfl,Nat.zero_le _,by omega,QN,CY,iE⟩
    case round =>
     clear QN CY iE;(try clear QN);(try clear lQ);(try clear jO);obtain ⟨j,rfl,hj,U7,QN,lQ,jO⟩:=hrel
     have qD:((Cn oa i j).foldl Fg []).length ≤ 2:=by
      have h1:=vt (Cn oa i j) [];have h2:(Cn oa i j).length ≤ (De oa i).length:=Nat.le_trans (List.length_filter_le _ _) (by rw [List.length_take];omega);simp only [List.length_nil] at h1;omega
     have HBN:=aa.mk qD;clear qD
     by_cases hjt:j < (De oa i).length
     ·have cH:decide ((j:Int) < ((De oa i).length:Int))=true:=decide_eq_true (by omega);have j1:0 ≤ (j:Int):=by omega
      have j2:(j:Int) < ((De oa i).length:Int):=by omega
      obtain ⟨ad,tn,e1,ht,htn,hx⟩:=wE HE.out hlt hjt (MU.out wr lQ.out);subst e1;have HMr:=aa.mk (Kd.ki (Kd.Sz HM3.out HK.out (fun k hk e=>by have:=HQ.out;have hk:w2.heap.size ≤ k:=hk;omega)) jO.out);obtain ⟨A3,c3,Hi,-,YM⟩:=tK HMr.out (i:=tn) (by rw [Gh];exact htn);rw [CL htn] at Hi YM;obtain ⟨bd,e3,j9⟩:=Kd.Uj (Kd.Ua YM).2.2 (i:Int) i1 (by rw [sj];exact i2);subst e3;rw [Int.toNat_natCast,← aK HE.out hlt] at j9;have OK:=aa.mk (RD (bs:=oa) hjt);rw [ht] at OK;have t1:0 ≤ (tn:Int):=by omega
      have t2:(tn:Int) < ((zo oa).length:Int):=by rw [Gh];omega
      have t3:(i:Int) < ((Xl oa tn).length:Int):=by rw [sj];omega
      have HAD:=aa.mk (show Ff.f ((Cn oa i j).foldl Fg []) (tn:Int)=some (Fg ((Cn oa i j).foldl Fg []) (tn:Int)) from by
       unfold Ff.f
       rw [if_pos (by have:=HBN.out;omega)])
      clear YM ht HMr
      by_cases hm:(tn:Int) ∈ Mm oa i
      ·rw [decide_eq_true hm] at j9;have UT:=aa.mk (OK.out.trans (if_pos hm));clear OK;go_wp2_with (first|(go_at_call 55;(with_reducible refine (Ff.calls (fun k=>(k < wa.heap.size∧wo.heap.size ≤ k) ∨ w5.heap.size ≤ k) _ ((Cn oa i j).foldl Fg []) (tn:Int) _ wo wr jO.out QN.out HAD.out).mono ?_);rintro e w8 ⟨v8,rfl,ho,hb,hk⟩;have aY:=aa.mk (Kd.Eb ho (fun k hk=>(hk.elim id (fun h=>.inr (Nat.le_trans lQ.out.1 h)):(k < wa.heap.size∧wo.heap.size ≤ k) ∨ w5.heap.size ≤ k)));have kO:=aa.mk hb;have AY:=aa.mk (lQ.out.Lu hk (fun k hk=>hk));clear ho hb hk))
       go_roundg ((De oa i).length - (j + 1))
       case measure=>omega
       case rel=>exact ⟨j + 1,by go_num,by omega,by omega,⟨by rw [UT.out,List.foldl_append];exact aY.out⟩,AY,kO⟩
      ·rw [decide_eq_false hm] at j9;have UT:=aa.mk (OK.out.trans (if_neg hm));clear OK;go_wp2
       go_roundg ((De oa i).length - (j + 1))
       case measure=>omega
       case rel=>exact ⟨j + 1,by go_num,by omega,by omega,⟨by rw [UT.out];exact QN.out⟩,lQ,jO⟩
     ·have cH:decide ((j:Int) < ((De oa i).length:Int))=false:=decide_eq_false (by omega);obtain rfl:j=(De oa i).length:=by omega
      rw [sH] at QN;have RT:=QN.out;obtain ⟨A6,c6,rfl⟩:=Kd.Vb RT;have HLC:=aa.mk (fun W' hk=>Kd.Jm (S:=fun k=>k < wo.heap.size∧(k=w.heap.size + 1 ∨ w3.heap.size ≤ k)) (Kd.Eb (Kd.We RT) (fun k hk=>hk.2.1)) (fun k hk e=>by have hk:wo.heap.size ≤ k:=hk;omega) W' hk);have KZ:=dy oa i;obtain ⟨wp,rfl⟩:∃ wp,wp=wr:=⟨_,rfl⟩
      have Q4:=aa.mk (show Kd.R k2 85 wp w.heap.size (fun k=>(k=w.heap.size + 1 ∨ w3.heap.size ≤ k)∧(k < wo.heap.size ∨ wp.heap.size ≤ k)) u3 (Jg oa i ++ ((Bi oa i).take 0).map (fun t=>((i:Int),t))) from by
       rw [List.take_zero,List.map_nil,List.append_nil]
       exact Kd.ec (Kd.Eb (Kd.We HR.out) (fun k hk=>⟨hk.1,.inl hk.2.2.1⟩)) jO.out)
      have BH:=aa.mk (Kept.refl wp (fun k=>k < wo.heap.size∧(k=w.heap.size + 1 ∨ w3.heap.size ≤ k)));have Mq:=aa.mk (Ga HB.out jO.out);have HKo:=aa.mk (HK.out.below jO.out);clear QN RT lQ MU HR HBN HK HB;go_wp2
      go_loopg [3,9] (Bi oa i).length (fun g3 v3 v9 wz=>∃ j:Nat,v9 = .int .i64 j∧j ≤ (Bi oa i).length∧(Bi oa i).length - j ≤ g3∧aa (Kd.R k2 85 wz w.heap.size (fun k=>(k=w.heap.size + 1 ∨ w3.heap.size ≤ k)∧(k < wo.heap.size ∨ wp.heap.size ≤ k)) v3 (Jg oa i ++ ((Bi oa i).take j).map (fun t=>((i:Int),t))))∧aa (Kept wp wz (fun k=>k < wo.heap.size∧(k=w.heap.size + 1 ∨ w3.heap.size ≤ k)))∧aa (Below w.heap.size w wz))
      case atStart=>exact ⟨0,rfl,Nat.zero_le _,by omega,Q4,BH,Mq⟩
      case round =>
       clear Q4 BH Mq;(try clear HR);(try clear HK);(try clear HB);obtain ⟨q,rfl,hq,hgq,HR,HK,HB⟩:=hrel
       by_cases hqt:q < (Bi oa i).length
       ·have B7:decide ((q:Int) < ((Bi oa i).length:Int))=true:=decide_eq_true (by omega);have q1:0 ≤ (q:Int):=by omega
        have q2:(q:Int) < ((Bi oa i).length:Int):=by omega
        obtain ⟨ad,e1,hx⟩:=Kd.Ld (HLC.out wr HK.out) (q:Int) q1 q2;subst e1;rw [Int.toNat_natCast,uh hqt] at hx;have HTK:=aa.mk (show (Bi oa i).take (q + 1)=(Bi oa i).take q ++ [(Bi oa i)[q]] from List.take_succ_eq_append_getElem hqt)
        have HLB:=aa.mk (show ((Jg oa i ++ ((Bi oa i).take q).map (fun t=>((i:Int),t))).length + 1) * 16 ≤ 140737488355328 from by
         have h1:=Oo oa i;rw [List.length_append,List.length_map,List.length_take]
         omega)
        have HFR:=aa.mk (fun k (hk:wr.heap.size ≤ k)=>(And.intro (Or.inr (Nat.le_trans HKo.out.1 (Nat.le_trans HK.out.1 hk))) (Or.inr (Nat.le_trans HK.out.1 hk)):(k=w.heap.size + 1 ∨ w3.heap.size ≤ k)∧(k < wo.heap.size ∨ wp.heap.size ≤ k)));generalize (Bi oa i)[q]=t at hx HTK;go_wp2_with (first|(at_builtin;refine Kd.Fm k2 (w0:=w) w.heap.size rfl (.tmp 58) (.tmp 65) 57 85 (.agg #[.int .i64 0,.int .i64 0]) 16 rfl Try.underlying57 CE rfl (by decide) (by omega) _ (Jg oa i ++ ((Bi oa i).take q).map (fun t=>((i:Int),t))) ((i:Int),t) [.int .i64 (i:Int),.int .i64 t] (fun k=>(k=w.heap.size + 1 ∨ w3.heap.size ≤ k)∧(k < wo.heap.size ∨ wp.heap.size ≤ k)) (fun _=>False) rfl rfl ?aP (fun _ hk=>hk.elim) HFR.out HR.out HB.out HB.out.size HLB.out ?_;(case aP=>exact BI _ _ _ ((i:Int),t));intro v1 w1 ho hb hgr hat;have RP:=aa.mk ho;have Vo:=aa.mk hb;have Kf:=aa.mk (Kept.Af hgr HK.out (fun k e=>(HR.out.1 k e).2.elim (fun h=>.inl ⟨h,(HR.out.1 k e).1⟩) .inr));clear ho hb hgr hat))
        go_roundg ((Bi oa i).length - (q + 1))
        case measure=>omega
        case rel=>exact ⟨q + 1,by go_num,by omega,by omega,⟨by rw [HTK.out,List.map_append,← List.append_assoc];exact RP.out⟩,Kf,Vo⟩
       ·have B7:decide ((q:Int) < ((Bi oa i).length:Int))=false:=decide_eq_false (by omega);obtain rfl:q=(Bi oa i).length:=by omega
        have YX:=aa.mk (show Kd.R k2 85 wr w.heap.size (fun k=>k=w.heap.size + 1 ∨ w3.heap.size ≤ k) u3 (Jg oa (i + 1)) from by
         have h:=HR.out;rw [List.take_length] at h
         exact Kd.Eb h (fun _ hk=>hk.1))
        have HKN:=aa.mk (HKo.out.Lu HK.out (fun k hk=>hk.2));go_wp2
        go_roundg (oa.length - (i + 1))
        case measure=>omega
        case rel=>exact ⟨i + 1,by go_num,by omega,by omega,YX,HKN,HB⟩
   ·have ek:¬ i < (zo oa).length:=by rw [Gh];exact hlt
    have hie:i=oa.length:=by omega
    have GU:=aa.mk (show Kd.R k2 85 wr w.heap.size (fun _=>True) u3 (fq oa) from by rw [hie] at HR;exact Kd.Eb HR.out (fun _ _=>trivial));clear hie;go_wp2;go_ret;exact ⟨_,rfl,GU.out,HB.out⟩
theorem Lw {l0:List Int} {p v s:Int} {bs:List Wd} (hE:ze bs):nh.f l0 p v s bs=some (fq bs):=by
 unfold nh.f;rw [if_pos hE]
open Classical in
theorem Cw (l0:List Int) (p v s:Int) (bs:List Wd) (h0:l0.length ≤ 1048576) (hl:bs.length ≤ 1048576) (ht:Rc bs ≤ 1048576):Ev (fun k=>kj.f k l0 p v s bs) (if Ii l0 p v s bs=true then fq bs else []):=by
 unfold kj.f
 by_cases hok:Ii l0 p v s bs=true
 ·rw [if_pos hok];exact Ev.bind (Lo h0 hl ht) (Ev.pos hok (Ev.bind (IB h0 hl ht hok) (Ev.pos ⟨rfl,ym hok⟩ (Ev.now _))))
 ·rw [if_neg hok];exact Ev.bind (Lo h0 hl ht) (Ev.neg hok (Ev.now _))
theorem SJ (d:Nat) (x y a b:Int) (W:World):(Op.equalIn (d + 1 + 1) 85 (.agg #[.int .i64 x,.int .i64 y]) (.agg #[.int .i64 a,.int .i64 b])).run Try.prog W = .ok (x == a && y == b) W:=by
 have h1:∀ (p q:Int),(Op.equalIn (d + 1) 3 (.int .i64 p) (.int .i64 q)).run Try.prog W = .ok (p == q) W:=fun p q=>run_equalIn_int W d 3 .i64 .i64 p q Try.underlying3
 rw [Op.equalIn];simp only [Sem.run_bind,run_underlying Try.underlying85,Result.andThen_ok];obtain ⟨i0,hi1,_,hsz1,_⟩:=info_parts info3;have hs:(sizeOf 3).run Try.prog W = .ok 1 W:=by simp [sizeOf,typeInfo,hi1,hsz1]
 have hp:∀ (p q:Int),(part 3 #[.int .i64 p,.int .i64 q] 0).run Try.prog W = .ok (.int .i64 p) W:=fun p q=>by simp [part,isAgg,run_underlying Try.underlying3]
 have hq:∀ (p q:Int),(part 3 #[.int .i64 p,.int .i64 q] 1).run Try.prog W = .ok (.int .i64 q) W:=fun p q=>by simp [part,isAgg,run_underlying Try.underlying3]
 rw [hs,Result.andThen_ok,Std.Legacy.Range.forIn_eq_forIn_range'];simp only [Std.Legacy.Range.size,Nat.sub_zero,Nat.add_sub_cancel,Nat.div_one,List.range'_succ,List.range'_zero,List.forIn_cons,List.forIn_nil,Sem.run_bind,Nat.zero_mul,Nat.one_mul,Nat.zero_add,hp,hq,h1,Result.andThen_ok];cases hxa:x == a <;> cases hyb:y == b <;> simp [hq,h1,hxa,hyb]
theorem oP (x y a b:Int) (W:World):(Op.equalIn 10000 85 (.agg #[.int .i64 x,.int .i64 y]) (.agg #[.int .i64 a,.int .i64 b])).run Try.prog W = .ok (x == a && y == b) W:=SJ 9998 x y a b W
attribute [local go_sem] oP
theorem DI (A:Option Addr) (c:Nat) (xs:List (Int × Int)) (x y:Int) (w:World) (hC:Kd.C k2 w A xs.length xs) (hm:xs.length ≤ 4398046511104) :
  Calls Try.prog 106 #[.slice A xs.length c,.agg #[.int .i64 x,.int .i64 y]] w fun e w'=>∃ i:Int,e = .returned (.int .i64 i)∧aa (decide (0 ≤ i)=decide ((x,y) ∈ xs))∧Below w.heap.size w w':=by
 obtain ⟨W1,hW,hb,hx⟩:=Io w (.cells #[.int .i64 x,.int .i64 y] 85 (0,0));have HW:=aa.mk hW;have gE:=aa.mk hb;have HX:=aa.mk hx;have HC:=aa.mk (Kd.Za hC hb);clear hW hb hx hC;have hgt:Try.prog.eqGuardType Try.prog.depth 85=false:=by kernel_rfl
 go_enter Try.func106,Try.ntmps106
 go_upto_region 1 with (fail)
 rw [← HW.out];clear HW;go_wp2
 go_loopg [8] xs.length (fun gg v8 wr=>∃ i:Nat,v8 = .int .i64 i∧i ≤ xs.length∧xs.length - i ≤ gg∧aa ((x,y) ∉ xs.take i)∧aa (Below W1.heap.size W1 wr))
 case atStart=>exact ⟨0,rfl,Nat.zero_le _,by omega,⟨by simp⟩,⟨Below.refl _ _⟩⟩
 case round =>
  (try clear HN);(try clear HB);obtain ⟨i,rfl,hi,lD,HN,HB⟩:=hrel
  by_cases hlt:i < xs.length
  case neg =>
   obtain rfl:i=xs.length:=by omega
   have HNE:=aa.mk (show (x,y) ∉ xs by have h:=HN.out;rwa [List.take_length] at h);have pU:=aa.mk (Ga gE.out HB.out);clear HN;go_wp2;go_ret;exact ⟨_,rfl,⟨by simp [HNE.out]⟩,pU.out⟩
  have i1:0 ≤ (i:Int):=by omega
  have i2:(i:Int) < (xs.length:Int):=by omega
  have ek:decide ((i:Int) < (xs.length:Int))=true:=decide_eq_true i2;obtain ⟨ad,e1,c0,c1⟩:=AP (Kd.Za HC.out HB.out) (i:Int) i1 i2;subst e1;rw [uE hlt,Int.toNat_natCast] at c0 c1;have hx0:wr.cell? ⟨w.heap.size,0,none⟩=some (.int .i64 x):=(ya (Ta HX.out HB.out) 0).trans rfl;have hx1:wr.cell? ⟨w.heap.size,1,none⟩=some (.int .i64 y):=(ya (Ta HX.out HB.out) 1).trans rfl;have HT:=aa.mk (List.take_succ_eq_append_getElem hlt);have xY:=aa.mk (List.getElem_mem hlt);generalize xs[i]=p at c0 c1 HT xY;obtain ⟨p1,p2⟩:=p;replace c0:wr.cell? (ad.add (i * 2))=some (.int .i64 p1):=c0;replace c1:wr.cell? ⟨(ad.add (i * 2)).block,(ad.add (i * 2)).off + 1,none⟩=some (.int .i64 p2):=c1
  by_cases he:(x,y)=(p1,p2)
  ·cases he;have HYE:=aa.mk (show decide (0 ≤ (i:Int))=decide ((x,y) ∈ xs) by rw [decide_eq_true i1,decide_eq_true xY.out])
   go_upto_region 4 with (fail)
   go_quiet (fail)
   go_wp2;go_ret;exact ⟨_,rfl,HYE,ga (Ga gE.out HB.out) _⟩
  ·have HNN:=aa.mk (show (x,y) ∉ xs.take (i + 1) by rw [HT.out,List.mem_append,List.mem_singleton];exact fun h=>h.elim HN.out he)
   have hf:(x == p1 && y == p2)=false:=by
    rw [Bool.and_eq_false_iff,beq_eq_false_iff_ne,beq_eq_false_iff_ne]
    by_cases h:x=p1
    ·exact .inr (fun h2=>he (by rw [h,h2]))
    ·exact .inl h
   go_upto_region 4 with (fail)
   go_quiet (fail)
   go_wp2
   go_roundg (xs.length - (i + 1))
   case measure=>omega
   case rel=>exact ⟨i + 1,by go_num,by omega,by omega,HNN,⟨ga HB.out _⟩⟩
theorem Vu (A:Option Addr) (c:Nat) (xs:List (Int × Int)) (x y:Int) (w:World) (hC:Kd.C k2 w A xs.length xs) (hm:xs.length ≤ 4398046511104) :
  Calls Try.prog 77 #[.slice A xs.length c,.agg #[.int .i64 x,.int .i64 y]] w fun e w'=>e = .returned (.bool (decide ((x,y) ∈ xs)))∧Below w.heap.size w w':=by
 obtain ⟨W1,hW,hb,hx⟩:=Io w (.cells #[.int .i64 x,.int .i64 y] 85 (0,0));have HW:=aa.mk hW;have gE:=aa.mk hb;have HC:=aa.mk (Kd.Za hC hb);have hx0:W1.cell? ⟨w.heap.size,0,none⟩=some (.int .i64 x):=(ya hx 0).trans rfl;have hx1:W1.cell? ⟨w.heap.size,1,none⟩=some (.int .i64 y):=(ya hx 1).trans rfl;clear hW hb hx hC;go_enter Try.func77,Try.ntmps77
 go_upto_region 1 with (fail)
 rw [← HW.out];clear HW;go_wp2_with (first|(go_at_call 106;(with_reducible refine (DI A c xs x y W1 HC.out hm).mono ?_);rintro e w2 ⟨i,rfl,HI,hb⟩;have Li:=aa.mk (Ga gE.out hb);clear hb));go_ret;exact ⟨by rw [HI.out];rfl,Li.out⟩
noncomputable def Wh.f (k:Nat) (Ma:List Int) (Oa:Int) (Pa:Int) (Na:Int) (oa:List (Wd)) (a1 a2:Int):Option (List Int) :=
 (ic.f k Ma Oa Pa Na oa).bind fun t=>if t=true then ((nh.f Ma Oa Pa Na oa).bind fun B=>if B.length ≤ 4398046511104 then (if (a1,a2) ∈ B then Xb.f k Ma Oa Pa Na oa a1 a2 else some []) else none) else some []
theorem Wh.calls (k:Nat) (zb:Option Addr) (yb:Nat) (Ma:List Int) (Oa:Int) (Pa:Int) (Na:Int) (Ob:Option Addr) (Fb:Nat) (oa:List (Wd)) (a1 a2:Int) (r:List Int) (w:World) (qd:Kd.C (Kd.int .i64) w zb Ma.length Ma) (Ad:Ma.length ≤ yb) (fe:Kd.C Km w Ob oa.length oa) (Fe:oa.length ≤ Fb) (h:Wh.f k Ma Oa Pa Na oa a1 a2=some r) :
  Calls Try.prog 48 #[.agg #[.slice zb Ma.length yb,.int .i64 Oa,.int .i64 Pa,.int .i64 Na,.slice Ob oa.length Fb],.int .i64 a1,.int .i64 a2] w fun e w'=>∃ Di:Value,e = .returned (Di)∧Kd.R (Kd.int .i64) 3 w' w.heap.size (fun _=>True) Di r∧Below w.heap.size w w':=by
 unfold Wh.f at h;obtain ⟨t,tT,h⟩:=Option.bind_eq_some_iff.mp h;obtain ⟨W1,hW,hb,hx⟩:=Io w (.cells #[.slice zb Ma.length yb,.int .i64 Oa,.int .i64 Pa,.int .i64 Na,.slice Ob oa.length Fb] 45 (0,0));have HW:=aa.mk hW;have HB:=aa.mk hb;have HX:=aa.mk hx;have HIG:=aa.mk (ic.calls k zb yb Ma Oa Pa Na Ob Fb oa t W1 (Kd.Za qd hb) Ad (Kd.Za fe hb) Fe tT);have HH:=aa.mk h;have ak:=aa.mk (Kd.Za qd hb);have vv:=aa.mk (Kd.Za fe hb);have Hx:=aa.mk Ad;have Gx:=aa.mk Fe;obtain ⟨x0,x1,x2,x3,x4⟩:=ig hx;clear hW hb hx qd fe Ad Fe h tT;go_enter Try.func48,Try.ntmps48
 go_upto_region 1 with (fail)
 rw [← HW.out];clear HW;cases t with
 | false =>
  have h:=HH.out;rw [if_neg (by simp)] at h;cases h;go_wp2_with (first|(go_at_call 71;(with_reducible refine HIG.out.mono ?_);rintro e w2 ⟨rfl,hb⟩;have Li:=aa.mk (Ga HB.out hb);clear hb));go_ret;exact ⟨_,rfl,Kd.Nt _ _ _ _ _,Li.out⟩
 | true =>
  have h:=HH.out;rw [if_pos rfl] at h;obtain ⟨B,hB,h⟩:=Option.bind_eq_some_iff.mp h
  by_cases hl:B.length ≤ 4398046511104
  case neg=>rw [if_neg hl] at h;cases h
  rw [if_pos hl] at h;have HF:=aa.mk hB;have X4:=aa.mk h;clear h HH hB
  by_cases hm:(a1,a2) ∈ B
  ·have hmb:decide ((a1,a2) ∈ B)=true:=decide_eq_true hm;have ZN:=aa.mk (show Xb.f k Ma Oa Pa Na oa a1 a2=some r by have h:=X4.out;rwa [if_pos hm] at h);clear X4 hm;go_wp2_with (first|(go_at_call 71;(with_reducible refine HIG.out.mono ?_);rintro e w2 ⟨rfl,hb⟩;have Li:=aa.mk hb;clear x0 x1 x2 x3 x4;obtain ⟨x0,x1,x2,x3,x4⟩:=ig (Ta HX.out Li.out);clear hb)|(go_at_call 72;(with_reducible refine (nh.calls zb yb Ma Oa Pa Na Ob Fb oa B w2 (Kd.Za ak.out Li.out) Hx.out (Kd.Za vv.out Li.out) Gx.out HF.out).mono ?_);rintro e w3 ⟨v3,rfl,ho,hb⟩;obtain ⟨A3,c3,rfl⟩:=Kd.Vb ho;have WN:=aa.mk (Kd.Ua ho).2.2;have vo:=aa.mk (Ga Li.out hb);clear ho hb x0 x1 x2 x3 x4)|(go_at_call 77;(with_reducible refine (Vu A3 c3 B a1 a2 w3 WN.out hl).mono ?_);rintro e w4 ⟨rfl,hb⟩;have Mq:=aa.mk (Ga vo.out hb);clear hb;rw [hmb];obtain ⟨x0,x1,x2,x3,x4⟩:=ig (Ta HX.out Mq.out))|(go_at_call 89;(with_reducible refine (Xb.calls k zb yb Ma Oa Pa Na Ob Fb oa a1 a2 r w4 (Kd.Za ak.out Mq.out) Hx.out (Kd.Za vv.out Mq.out) Gx.out ZN.out).mono ?_);rintro e w5 ⟨v5,rfl,ho,hb⟩;have lY:=aa.mk (Kd.Xc ho (Nat.le_trans HB.out.size Mq.out.size));have iE:=aa.mk (Ga HB.out (Ga Mq.out hb));clear ho hb x0 x1 x2 x3 x4));go_ret;exact ⟨_,rfl,lY.out,iE.out⟩
  ·have hmb:decide ((a1,a2) ∈ B)=false:=decide_eq_false hm;have ZN:=aa.mk (show r=[] by have h:=X4.out;rw [if_neg hm] at h;injection h with h;exact h.symm);clear X4 hm;go_wp2_with (first|(go_at_call 71;(with_reducible refine HIG.out.mono ?_);rintro e w2 ⟨rfl,hb⟩;have Li:=aa.mk hb;clear x0 x1 x2 x3 x4;obtain ⟨x0,x1,x2,x3,x4⟩:=ig (Ta HX.out Li.out);clear hb)|(go_at_call 72;(with_reducible refine (nh.calls zb yb Ma Oa Pa Na Ob Fb oa B w2 (Kd.Za ak.out Li.out) Hx.out (Kd.Za vv.out Li.out) Gx.out HF.out).mono ?_);rintro e w3 ⟨v3,rfl,ho,hb⟩;obtain ⟨A3,c3,rfl⟩:=Kd.Vb ho;have WN:=aa.mk (Kd.Ua ho).2.2;have vo:=aa.mk (Ga Li.out hb);clear ho hb x0 x1 x2 x3 x4)|(go_at_call 77;(with_reducible refine (Vu A3 c3 B a1 a2 w3 WN.out hl).mono ?_);rintro e w4 ⟨rfl,hb⟩;have Mq:=aa.mk (Ga vo.out hb);clear hb;rw [hmb]));go_ret;exact ⟨_,rfl,by rw [ZN.out];exact Kd.Nt _ _ _ _ _,Ga HB.out Mq.out⟩
end Go.Proofs.Ytoomcmaifgkkfaa.P
end
