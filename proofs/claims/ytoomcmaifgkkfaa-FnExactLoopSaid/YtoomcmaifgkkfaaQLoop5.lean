import Derived.Test.YtoomcmaifgkkfaaQLoop1
import Derived.Test.YtoomcmaifgkkfaaQLoop4
import Derived.Test.YtoomcmaifgkkfaaQLoop3
import Derived.Shelf.Abstract
import Derived.Lib.SliceRun
import Derived.Outline
import Derived.BigQuiet
import Derived.RegionTactic
import Derived.StillTailTactics
import Derived.Test.YtoomcmaifgkkfaaQLoop2
set_option maxHeartbeats 8000000
set_option maxRecDepth 100000
section
namespace Go.Proofs.Ytoomcmaifgkkfaa.P
open Go.RowKit Go.Proofs.Aa.Db Go.Proofs.Aa.Tc Go.Proofs.Aa.ke
set_option linter.unusedVariables false
set_option linter.unusedSimpArgs false
attribute [local go_sem] fh bh Zh Yh mg lg dh ah
def Gc.l0:Nat→List Bool→List Int→List Int→List Int→Int→Int→Int→List (Wd)→Option (List Int)
 | 0,_,_,_,_,_,_,_,_=>none
 | k + 1,x3,x4,x5,Fc,Ec,Dc,Cc,Lb=>if (x5.length:Int) > 0 then (if 0 ≤ (wrap64 ((x5.length:Int) - 1)) then (if (wrap64 ((x5.length:Int) - 1)) < (x5.length:Int) then (if (wrap64 ((x5.length:Int) - 1)) ≤ (x5.length:Int) then ((some (x5.take ((wrap64 ((x5.length:Int) - 1)):Int).toNat:List Int)).bind fun Xf=>(if 0 ≤ (rd x5 (wrap64 ((x5.length:Int) - 1))) then (if (rd x5 (wrap64 ((x5.length:Int) - 1))) < (x3.length:Int) then (if xg false x3 (rd x5 (wrap64 ((x5.length:Int) - 1)))=true then (Gc.l0 k x3 x4 Xf Fc Ec Dc Cc Lb) else (if x4.length < 17592186044416 then (if (rd x5 (wrap64 ((x5.length:Int) - 1))) < (Lb.length:Int) then ((ue.f ((Ea Lb (rd x5 (wrap64 ((x5.length:Int) - 1)))).f0) ((Ea Lb (rd x5 (wrap64 ((x5.length:Int) - 1)))).f1) ((Ea Lb (rd x5 (wrap64 ((x5.length:Int) - 1)))).f2) ((Ea Lb (rd x5 (wrap64 ((x5.length:Int) - 1)))).f3) ((Ea Lb (rd x5 (wrap64 ((x5.length:Int) - 1)))).f4)).bind fun t121=>((Sa.f k t121).bind fun t124=>(if Xf.length + t124.length < 17592186044416 then (Gc.l0 k (x3.set ((rd x5 (wrap64 ((x5.length:Int) - 1))):Int).toNat true) (x4 ++ [rd x5 (wrap64 ((x5.length:Int) - 1))]) (Xf ++ t124) Fc Ec Dc Cc Lb) else (none)))) else (none)) else (none))) else (none)) else (none))) else (none)) else (none)) else (none)) else (some x4)
def Gc.f (k:Nat) (Ma:List Int) (Oa:Int) (Pa:Int) (Na:Int) (oa:List (Wd)):Option (List Int):=if 0 ≤ (oa.length:Int) then (if ((oa.length:Int):Int).toNat ≤ 281474976710656 then (Gc.l0 k (List.replicate ((oa.length:Int):Int).toNat false) (([]:List Int)) (([0]:List Int)) Ma Oa Pa Na oa) else (none)) else (none)
theorem Gc.calls (k:Nat) (zb:Option Addr) (yb:Nat) (Ma:List Int) (Oa:Int) (Pa:Int) (Na:Int) (Ob:Option Addr) (Fb:Nat) (oa:List (Wd)) (r:List Int) (w:World) (qd:Kd.C (Kd.int .i64) w zb Ma.length Ma) (Ad:Ma.length ≤ yb) (fe:Kd.C Km w Ob oa.length oa) (Fe:oa.length ≤ Fb) (h:Gc.f k Ma Oa Pa Na oa=some r) :
  Calls Try.prog 78 #[.agg #[.slice zb Ma.length yb,.int .i64 Oa,.int .i64 Pa,.int .i64 Na,.slice Ob oa.length Fb]] w fun e w'=>∃ Di:Value,e = .returned (Di)∧Kd.R (Kd.int .i64) 3 w' w.heap.size (fun _=>True) Di r∧Below w.heap.size w w':=by
 have gD:=Try.underlying45;have Sy:=Try.underlying83;have Ng:=aa.mk qd;have Pg:=aa.mk Ad;clear qd Ad;have Dh:=aa.mk fe;have bk:=aa.mk Fe;clear fe Fe;have HB:=aa.mk (Below.refl w.heap.size w);have H:(if 0 ≤ (oa.length:Int) then (if ((oa.length:Int):Int).toNat ≤ 281474976710656 then (Gc.l0 k (List.replicate ((oa.length:Int):Int).toNat false) (([]:List Int)) (([0]:List Int)) Ma Oa Pa Na oa) else (none)) else (none))=some r:=h;clear h
 by_cases c2:0 ≤ (oa.length:Int)
 ·rw [if_pos c2] at H;have Mo:=eq_true c2;have Sq:decide (0 ≤ (oa.length:Int))=true:=decide_eq_true c2;clear c2
  by_cases c3:((oa.length:Int):Int).toNat ≤ 281474976710656
  ·rw [if_pos c3] at H;have Ah:=eq_true c3;have Kr:decide (((oa.length:Int):Int).toNat ≤ 281474976710656)=true:=decide_eq_true c3;clear c3;obtain ⟨yd,Ee⟩:∃ y_:List Bool,y_=(List.replicate ((oa.length:Int):Int).toNat false):=⟨_,rfl⟩;replace H:(Gc.l0 k yd (([]:List Int)) (([0]:List Int)) Ma Oa Pa Na oa)=some r:=by first|(rw [Ee];with_reducible exact H)|(have Qc:=(Option.bind_some _ _).symm.trans H;rw [Ee];with_reducible exact Qc)|(have Qc:=(Option.bind_some _ _).symm.trans H;with_reducible exact Qc)|with_reducible exact H|(rw [Ee];exact H)|exact H
   have Ch:=aa.mk Ee;clear Ee;obtain ⟨Pd,Hf⟩:∃ y_:List Int,y_=(([]:List Int)):=⟨_,rfl⟩;replace H:(Gc.l0 k yd Pd (([0]:List Int)) Ma Oa Pa Na oa)=some r:=by first|(rw [Hf];with_reducible exact H)|(have Qc:=(Option.bind_some _ _).symm.trans H;rw [Hf];with_reducible exact Qc)|(have Qc:=(Option.bind_some _ _).symm.trans H;with_reducible exact Qc)|with_reducible exact H|(rw [Hf];exact H)|exact H
   have Tk:=aa.mk Hf;clear Hf;obtain ⟨uA,Nk⟩:∃ y_:List Int,y_=(([0]:List Int)):=⟨_,rfl⟩;replace H:(Gc.l0 k yd Pd uA Ma Oa Pa Na oa)=some r:=by first|(rw [Nk];with_reducible exact H)|(have Qc:=(Option.bind_some _ _).symm.trans H;rw [Nk];with_reducible exact Qc)|(have Qc:=(Option.bind_some _ _).symm.trans H;with_reducible exact Qc)|with_reducible exact H|(rw [Nk];exact H)|exact H
   have Uw:=aa.mk Nk;clear Nk;have H':=aa.mk H;clear H;go_enter Try.func78,Try.ntmps78;go_wp2_with (first|((with_reducible refine Qb (N:=1) rfl ?_);refine Ic ?hg (N:=1) ?hd (cs:=#[.slice zb Ma.length yb,.int .i64 Oa,.int .i64 Pa,.int .i64 Na,.slice Ob oa.length Fb]) (t:=45) ?hr ?_;(case hd|hg=>rfl);(case hr=>exact jaj);intro Ka hg w4 Bd hb;have Pb:=aa.mk (Ga maj hb);have Rb:=aa.mk (Bd);have Yb:=aa.mk ((by rw [hg];exact (Qa maj):w.heap.size ≤ Ka));have Vc:=aa.mk ((by rw [hg];exact (Qa maj):w.heap.size ≤ Ka));clear HB;have HB:=Pb;have qa:=Rb;have Vf:=Yb;have Xa:=Vc;clear Pb Rb Yb Vc hb Bd hg;have wJ:w4.cell? ⟨Ka,0,none⟩=some (.slice zb Ma.length yb):=(ya qa.out 0).trans rfl;have vJ:w4.cell? ⟨Ka,1,none⟩=some (.int .i64 Oa):=(ya qa.out 1).trans rfl;have uJ:w4.cell? ⟨Ka,2,none⟩=some (.int .i64 Pa):=(ya qa.out 2).trans rfl;have tJ:w4.cell? ⟨Ka,3,none⟩=some (.int .i64 Na):=(ya qa.out 3).trans rfl;have sJ:w4.cell? ⟨Ka,4,none⟩=some (.slice Ob oa.length Fb):=(ya qa.out 4).trans rfl;have gJ:=za qa.out 0;have fJ:=za qa.out 1;have dJ:=za qa.out 2;have cJ:=za qa.out 3;have bJ:=za qa.out 4)|((with_reducible refine Qb (N:=11) rfl ?_);refine Kd.Mr Kd.bool _ 4 rfl (N:=11) rfl 73 _ _ rfl (oa.length:Int) rfl rfl Try.underlying73 (.bool false) 1 DE rfl (by decide) (by omega) false (ok:=fun _=>True) (Yg:=fun _=>True) rfl (fun _ hk=>hk) trivial (Ja) (Nat.le_trans (Nat.mul_le_mul_right _ (Ja:(oa.length:Int).toNat ≤ 281474976710656)) (by omega)) (Below.refl _ _) (Nat.le_refl _) ?_;intro th w6 zV hb Ll Pe;clear Ll Pe;(first|rw [← Ch.out] at zV|(simp only [Int.reduceToNat] at zV;rw [← Ch.out] at zV));have Pb:=aa.mk (Kd.Xc zV (Qa laj));have Rb:=aa.mk (Ta (g:=Ka) (o:=.cells #[.slice zb Ma.length yb,.int .i64 Oa,.int .i64 Pa,.int .i64 Na,.slice Ob oa.length Fb] 45 (0,0)) naj hb);have Yb:=aa.mk (Ga laj hb);clear qa HB;have qe:=Pb;have qa:=Rb;have HB:=Yb;clear Pb Rb Yb hb zV)|((with_reducible refine Qb (N:=12) rfl ?_);refine Kd.Yj (Kd.int .i64) _ 3 ?hg (N:=12) ?hd (xs:=([]:List Int)) (inner:=[]) (ok:=fun _=>True) (Yg:=fun _=>True) ?hr ?hp (fun _ hk=>hk) trivial (Below.refl _ _) (Nat.le_refl _) (by simp) ?_;(case hd|hg=>rfl);(case hr=>exact jaj);(case hp=>exact (Pc.none _ _));intro Wv w8 UI hb Ll Pe;clear Ll Pe;(first|rw [← Tk.out] at UI|(simp only [Int.reduceToNat] at UI;rw [← Tk.out] at UI));have Pb:=aa.mk (Kd.ec yaj hb);have Rb:=aa.mk (Kd.Xc UI (Qa laj));have Yb:=aa.mk (Ta (g:=Ka) (o:=.cells #[.slice zb Ma.length yb,.int .i64 Oa,.int .i64 Pa,.int .i64 Na,.slice Ob oa.length Fb] 45 (0,0)) naj hb);have Vc:=aa.mk (Ga laj hb);clear qe qa HB;have qe:=Pb;have Uk:=Rb;have qa:=Yb;have HB:=Vc;clear Pb Rb Yb Vc hb UI)|((with_reducible refine Qb (N:=13) rfl ?_);refine Kd.Yj (Kd.int .i64) _ 3 ?hg (N:=13) ?hd (xs:=([0]:List Int)) (inner:=[.int .i64 0]) (ok:=fun _=>True) (Yg:=fun _=>True) ?hr ?hp (fun _ hk=>hk) trivial (Below.refl _ _) (Nat.le_refl _) (by simp) ?_;(case hd|hg=>rfl);(case hr=>exact jaj);(case hp=>exact (Pc.one (show Kd.M (Kd.int .i64) _ _ _ 0 [.int .i64 0] from rfl) (Pc.none _ _)));intro v109 wv vp hb Ll Pe;clear Ll Pe;(first|rw [← Uw.out] at vp|(simp only [Int.reduceToNat] at vp;rw [← Uw.out] at vp));have Pb:=aa.mk (Kd.ec yaj hb);have Rb:=aa.mk (Kd.Ag (by (with_reducible repeat (first|apply Kd.Ia|apply Kd.La|apply Kd.Ra));exact Uk.out) (Kd.Wf vp) hb);have Yb:=aa.mk (Kd.Xc (Kd.Bh vp (Kd.Yi (by (with_reducible repeat (first|apply Kd.Ia|apply Kd.La|apply Kd.Ra));exact Uk.out))) (Qa laj));have Vc:=aa.mk (Ta (g:=Ka) (o:=.cells #[.slice zb Ma.length yb,.int .i64 Oa,.int .i64 Pa,.int .i64 Na,.slice Ob oa.length Fb] 45 (0,0)) naj hb);have Df:=aa.mk (Ga laj hb);clear qe Uk qa HB;have qe:=Pb;have Uk:=Rb;have bp:=Yb;have qa:=Vc;have HB:=Df;clear Pb Rb Yb Vc Df hb vp))
   go_loopg [4,5] k (fun kq v4 v5 w'=>∃ (uc:List Bool) (Ib:List Int) (Da:List Int),aa (Gc.l0 kq uc Ib Da Ma Oa Pa Na oa=some r)∧aa (kq ≤ k)∧aa (Kd.R Kd.bool 4 w' w.heap.size (fun _=>True) th uc)∧aa (Kd.R (Kd.int .i64) 3 w' w.heap.size (fun k_=>some k_ ≠ (v5:Value).ownBlock) v4 Ib)∧aa (Kd.R (Kd.int .i64) 3 w' w.heap.size (fun k_=>some k_ ≠ (v4:Value).ownBlock) v5 Da)∧aa (w'.heap[Ka]? = some (.cells #[(.slice zb Ma.length yb),.int .i64 Oa,.int .i64 Pa,.int .i64 Na,(.slice Ob oa.length Fb)] 45 (0,0)))∧aa (Below w.heap.size w w'))
   case atStart=>exact ⟨(yd),(Pd),(uA),H',⟨Nat.le_refl _⟩,⟨Taj⟩,⟨by (with_reducible repeat (first|apply Kd.Ia|apply Kd.La|apply Kd.Ra));exact Kd.Eb Uk.out (fun _ hk=>hk.2)⟩,⟨by (with_reducible repeat (first|apply Kd.Ia|apply Kd.La|apply Kd.Ra));exact Kd.Eb bp.out (fun _ hk=>hk.2)⟩,⟨saj⟩,⟨oaj⟩⟩
   case round =>
    clear H'
    try clear c2
    try clear Mo
    try clear Sq
    try clear p2
    try clear c3
    try clear Ah
    try clear Kr
    try clear c7
    try clear wJ
    try clear vJ
    try clear uJ
    try clear tJ
    try clear sJ
    try clear gJ
    try clear fJ
    try clear dJ
    try clear cJ
    try clear bJ
    (try clear HA);(try clear Kf);(try clear jc);(try clear Uc);(try clear Ue);(try clear qa);(try clear HB);obtain ⟨uc,Ib,Da,HA,Kf,jc,Uc,Ue,qa,HB⟩:=hrel;cases gk with
    | zero=>exact absurd HA.out (by simp [Gc.l0])
    | succ k1 =>
     have H:=HA.out;clear HA;simp only [Gc.l0] at H
     by_cases XF:(Da.length:Int) > 0
     ·rw [if_pos XF] at H;have YB:decide (0 < (Da.length:Int))=true:=decide_eq_true XF;have SW:decide (0 < Da.length)=true:=decide_eq_true (by omega);clear XF;obtain ⟨td,ZE⟩:∃ j_:Int,(wrap64 ((Da.length:Int) - 1))=j_:=⟨_,rfl⟩;replace H:(if 0 ≤ (td) then (if (td) < (Da.length:Int) then (if (td) ≤ (Da.length:Int) then ((some (Da.take ((td):Int).toNat:List Int)).bind fun Xf=>(if 0 ≤ (rd Da (td)) then (if (rd Da (td)) < (uc.length:Int) then (if xg false uc (rd Da (td))=true then (Gc.l0 k1 uc Ib Xf Ma Oa Pa Na oa) else (if Ib.length < 17592186044416 then (if (rd Da (td)) < (oa.length:Int) then ((ue.f ((Ea oa (rd Da (td))).f0) ((Ea oa (rd Da (td))).f1) ((Ea oa (rd Da (td))).f2) ((Ea oa (rd Da (td))).f3) ((Ea oa (rd Da (td))).f4)).bind fun t121=>((Sa.f k1 t121).bind fun t124=>(if Xf.length + t124.length < 17592186044416 then (Gc.l0 k1 (uc.set ((rd Da (td)):Int).toNat true) (Ib ++ [rd Da (td)]) (Xf ++ t124) Ma Oa Pa Na oa) else (none)))) else (none)) else (none))) else (none)) else (none))) else (none)) else (none)) else (none))=some r:=by first|(rw [ZE] at H;exact H)|(simp only [ZE] at H ⊢;exact H)
      have T7:(IntKind.i64.wrap ((Da.length:Int) - 1))=td:=(Mb _).trans ZE
      by_cases rA:0 ≤ (td)
      ·rw [if_pos rA] at H;have Yx:decide (0 ≤ (td))=true:=decide_eq_true rA;clear rA
       by_cases Zw:(td) < (Da.length:Int)
       ·rw [if_pos Zw] at H;have xP:decide ((td) < (Da.length:Int))=true:=decide_eq_true Zw;clear Zw
        by_cases Iz:(td) ≤ (Da.length:Int)
        ·rw [if_pos Iz] at H;have XB:=eq_true Iz;have Dad:decide ((td) ≤ (Da.length:Int))=true:=decide_eq_true Iz;clear Iz;obtain ⟨Xf,zi⟩:∃ y_:List Int,y_=(Da.take ((td):Int).toNat):=⟨_,rfl⟩;replace H:(if 0 ≤ (rd Da (td)) then (if (rd Da (td)) < (uc.length:Int) then (if xg false uc (rd Da (td))=true then (Gc.l0 k1 uc Ib Xf Ma Oa Pa Na oa) else (if Ib.length < 17592186044416 then (if (rd Da (td)) < (oa.length:Int) then ((ue.f ((Ea oa (rd Da (td))).f0) ((Ea oa (rd Da (td))).f1) ((Ea oa (rd Da (td))).f2) ((Ea oa (rd Da (td))).f3) ((Ea oa (rd Da (td))).f4)).bind fun t121=>((Sa.f k1 t121).bind fun t124=>(if Xf.length + t124.length < 17592186044416 then (Gc.l0 k1 (uc.set ((rd Da (td)):Int).toNat true) (Ib ++ [rd Da (td)]) (Xf ++ t124) Ma Oa Pa Na oa) else (none)))) else (none)) else (none))) else (none)) else (none))=some r:=by first|(rw [zi];with_reducible exact H)|(have Qc:=(Option.bind_some _ _).symm.trans H;rw [zi];with_reducible exact Qc)|(have Qc:=(Option.bind_some _ _).symm.trans H;with_reducible exact Qc)|with_reducible exact H|(rw [zi];exact H)|exact H
         have fo:=aa.mk zi;clear zi
         by_cases Yw:0 ≤ (rd Da (td))
         ·rw [if_pos Yw] at H;have wP:decide (0 ≤ (rd Da (td)))=true:=decide_eq_true Yw;clear Yw
          by_cases Xx:(rd Da (td)) < (uc.length:Int)
          ·rw [if_pos Xx] at H;have Wx:decide ((rd Da (td)) < (uc.length:Int))=true:=decide_eq_true Xx;clear Xx;obtain ⟨ZW,KJ⟩:∃ b_:Bool,b_=(xg false uc (rd Da (td))):=⟨_,rfl⟩;replace H:(if ZW=true then (Gc.l0 k1 uc Ib Xf Ma Oa Pa Na oa) else (if Ib.length < 17592186044416 then (if (rd Da (td)) < (oa.length:Int) then ((ue.f ((Ea oa (rd Da (td))).f0) ((Ea oa (rd Da (td))).f1) ((Ea oa (rd Da (td))).f2) ((Ea oa (rd Da (td))).f3) ((Ea oa (rd Da (td))).f4)).bind fun t121=>((Sa.f k1 t121).bind fun t124=>(if Xf.length + t124.length < 17592186044416 then (Gc.l0 k1 (uc.set ((rd Da (td)):Int).toNat true) (Ib ++ [rd Da (td)]) (Xf ++ t124) Ma Oa Pa Na oa) else (none)))) else (none)) else (none)))=some r:=by rw [← KJ] at H;exact H
           have JP:=aa.mk KJ;clear KJ
           by_cases DC:ZW=true
           ·subst DC;rw [if_pos rfl] at H;have H':=aa.mk H;clear H;obtain ⟨Lah,G_,i_⟩:=Kd.Vb Ue.out;subst i_;have Gl:0 ≤ ((td):Int):=Ja;have Fl:(td) < (Da.length:Int):=Ja;obtain ⟨Xi,Hw,Ck⟩:=Kd.Ld (Kd.Ua Ue.out).2.2 (td) Gl Fl;cases Hw;replace Gl:=eq_true Gl;replace Fl:=eq_true Fl;have KL:((td):Int) ≤ ((Da.length:Int):Int):=Ja;obtain ⟨P6,iB,_,UE,_⟩:=info_parts info3;have oD:=FD (P:=Try.prog) 22 3 .i64 Try.underlying22 iB (some Xi) Da.length G_ (td) (Ja) KL (Kd.Ua Ue.out).2.1;have qx:=Kd.Uz (m:=((td):Int).toNat) Ue.out (by omega);have aH:Xf.length=((td):Int).toNat:=(by rw [fo.out,List.length_take];omega);rw [← fo.out] at qx;rw [← aH] at qx oD;clear aH iB UE Ue;have Og:=aa.mk qx;clear qx;replace KL:=eq_true KL;obtain ⟨Kah,oag,g_⟩:=Kd.Vb jc.out;subst g_;have Cr:0 ≤ ((rd Da (td)):Int):=Ja;have ur:(rd Da (td)) < (uc.length:Int):=Ja;obtain ⟨cC,DD,yq⟩:=Kd.Uj (Kd.Ua jc.out).2.2 (rd Da (td)) Cr ur;(try rw [← JP.out] at yq);cases DD;replace Cr:=eq_true Cr;replace ur:=eq_true ur;go_wp2
            go_roundg k1
            case measure=>have:=Kf.out;omega
            case rel=>exact ⟨(uc),(Ib),(Xf),H',⟨by have:=Kf.out;omega⟩,⟨Uaj⟩,⟨Saj⟩,⟨by (with_reducible repeat (first|apply Kd.Ia|apply Kd.La|apply Kd.Ra));exact Og.out⟩,⟨saj⟩,⟨oaj⟩⟩
           ·replace DC:=Bool.eq_false_iff.mpr DC;subst DC;rw [if_neg (show ¬ (false=true) by decide)] at H;obtain ⟨Rv,Qp⟩:∃ y_:List Bool,y_=(uc.set ((rd Da (td)):Int).toNat true):=⟨_,rfl⟩;replace H:(if Ib.length < 17592186044416 then (if (rd Da (td)) < (oa.length:Int) then ((ue.f ((Ea oa (rd Da (td))).f0) ((Ea oa (rd Da (td))).f1) ((Ea oa (rd Da (td))).f2) ((Ea oa (rd Da (td))).f3) ((Ea oa (rd Da (td))).f4)).bind fun t121=>((Sa.f k1 t121).bind fun t124=>(if Xf.length + t124.length < 17592186044416 then (Gc.l0 k1 Rv (Ib ++ [rd Da (td)]) (Xf ++ t124) Ma Oa Pa Na oa) else (none)))) else (none)) else (none))=some r:=by first|(rw [Qp];with_reducible exact H)|(have Qc:=(Option.bind_some _ _).symm.trans H;rw [Qp];with_reducible exact Qc)|(have Qc:=(Option.bind_some _ _).symm.trans H;with_reducible exact Qc)|with_reducible exact H|(rw [Qp];exact H)|exact H
            have DK:=aa.mk Qp;clear Qp
            by_cases SB:Ib.length < 17592186044416
            ·rw [if_pos SB] at H;have EX:=aa.mk SB;clear SB;obtain ⟨uG,Pp⟩:∃ y_:List Int,y_=(Ib ++ [rd Da (td)]):=⟨_,rfl⟩;replace H:(if (rd Da (td)) < (oa.length:Int) then ((ue.f ((Ea oa (rd Da (td))).f0) ((Ea oa (rd Da (td))).f1) ((Ea oa (rd Da (td))).f2) ((Ea oa (rd Da (td))).f3) ((Ea oa (rd Da (td))).f4)).bind fun t121=>((Sa.f k1 t121).bind fun t124=>(if Xf.length + t124.length < 17592186044416 then (Gc.l0 k1 Rv uG (Xf ++ t124) Ma Oa Pa Na oa) else (none)))) else (none))=some r:=by first|(rw [Pp];with_reducible exact H)|(have Qc:=(Option.bind_some _ _).symm.trans H;rw [Pp];with_reducible exact Qc)|(have Qc:=(Option.bind_some _ _).symm.trans H;with_reducible exact Qc)|with_reducible exact H|(rw [Pp];exact H)|exact H
             have dG:=aa.mk Pp;clear Pp
             by_cases J4:(rd Da (td)) < (oa.length:Int)
             ·rw [if_pos J4] at H;have Cad:decide ((rd Da (td)) < (oa.length:Int))=true:=decide_eq_true J4;clear J4;replace H:=Option.bind_eq_some_iff.mp H;obtain ⟨t121,dL,H⟩:=H
              try dsimp only at H
              have xL:=aa.mk dL;clear dL;replace H:=Option.bind_eq_some_iff.mp H;obtain ⟨t124,nZ,H⟩:=H
              try dsimp only at H
              have A28:=aa.mk nZ;clear nZ
              by_cases MD:Xf.length + t124.length < 17592186044416
              ·rw [if_pos MD] at H;have JK:=aa.mk MD;clear MD;obtain ⟨qy,Mk⟩:∃ y_:List Int,y_=(Xf ++ t124):=⟨_,rfl⟩;replace H:(Gc.l0 k1 Rv uG qy Ma Oa Pa Na oa)=some r:=by first|(rw [Mk];with_reducible exact H)|(have Qc:=(Option.bind_some _ _).symm.trans H;rw [Mk];with_reducible exact Qc)|(have Qc:=(Option.bind_some _ _).symm.trans H;with_reducible exact Qc)|with_reducible exact H|(rw [Mk];exact H)|exact H
               have lC:=aa.mk Mk;clear Mk;have H':=aa.mk H;clear H;obtain ⟨Gah,kN,Z9⟩:=Kd.Vb Ue.out;subst Z9;have Gl:0 ≤ ((td):Int):=Ja;have Fl:(td) < (Da.length:Int):=Ja;obtain ⟨Xi,Hw,Ck⟩:=Kd.Ld (Kd.Ua Ue.out).2.2 (td) Gl Fl;cases Hw;replace Gl:=eq_true Gl;replace Fl:=eq_true Fl;have F6:((td):Int) ≤ ((Da.length:Int):Int):=Ja;obtain ⟨kaf,OO,_,uV,_⟩:=info_parts info3;have tS:=FD (P:=Try.prog) 22 3 .i64 Try.underlying22 OO (some Xi) Da.length kN (td) (Ja) F6 (Kd.Ua Ue.out).2.1;have gM:=Kd.Uz (m:=((td):Int).toNat) Ue.out (by omega);have nV:Xf.length=((td):Int).toNat:=(by rw [fo.out,List.length_take];omega);rw [← fo.out] at gM;rw [← nV] at gM tS;clear nV OO uV Ue;have Og:=aa.mk gM;clear gM;replace F6:=eq_true F6;obtain ⟨Fah,lT,Y9⟩:=Kd.Vb jc.out;subst Y9;have Cr:0 ≤ ((rd Da (td)):Int):=Ja;have ur:(rd Da (td)) < (uc.length:Int):=Ja;obtain ⟨cC,DD,yq⟩:=Kd.Uj (Kd.Ua jc.out).2.2 (rd Da (td)) Cr ur;(try rw [← JP.out] at yq);cases DD;replace Cr:=eq_true Cr;replace ur:=eq_true ur;have L6:0 ≤ ((rd Da (td)):Int):=Ja;have G6:((rd Da (td)):Int) < ((uc.length:Int):Int):=Ja;obtain ⟨NJ,cK,fN,jW,L9,vag,MY⟩:=Kd.qj jc.out (by omega);(first|cases fN|(injection fN with ej qv tv;(first|subst ej|(injection ej with ej;subst ej));subst tv;clear qv));have waa:=aa.mk jW;have wah:=aa.mk MY;clear jW L9 MY;(first|simp only [add_plain] at yq|skip);obtain ⟨W6,F8⟩:=Kd.Dg false jc.out ((rd Da (td)):Int) L6 G6;replace L6:=eq_true L6;replace G6:=eq_true G6;have aU:=Kd.vk jc.out ((rd Da (td)):Int) true;go_wp2_with (first|((with_reducible refine Ce (t:=4) (p:=34) rfl ?_);refine Sd (t:=4) (p:=34) (v:=?L5) (w1:=(wr.setCell ⟨NJ,((rd Da (td)):Int).toNat,none⟩ (.bool true))) ?hg ?ho ?hn ?hr ?_;(case ho=>rfl);(case hg=>rfl);(case hn=>rfl);(case hr=>exact jaj);intro C5 hw;have hg:wr.grownBy C5 (some NJ):=(by rw [hw];exact aU.2);have Gj:Kd.R Kd.bool 4 C5 w.heap.size (fun _=>True) (.slice (some ⟨NJ,0,none⟩) uc.length lT) Rv:=(by rw [hw,DK.out];exact aU.1);clear aU;have Pb:=aa.mk (Gj);have Rb:=aa.mk (Kd.Ek (v:=(.slice (some ⟨NJ,0,none⟩) uc.length lT)) waj (Kd.Dk jc.out) (by decide) hg);have Yb:=aa.mk (Kd.Ek (v:=(.slice (some ⟨NJ,0,none⟩) uc.length lT)) Yaj (Kd.Dk jc.out) (by decide) hg);have Vc:=aa.mk (uf (g:=Ka) (o:=.cells #[.slice zb Ma.length yb,.int .i64 Oa,.int .i64 Pa,.int .i64 Na,.slice Ob oa.length Fb] 45 (0,0)) naj hg (Kd.xp jc.out qa.out (by decide)));have Df:=aa.mk ((by rw [hw];exact ta (HB.out) waa.out:Below w.heap.size w C5));clear jc Uc Og qa HB;have jc:=Pb;have Uc:=Rb;have Og:=Yb;have qa:=Vc;have HB:=Df;clear Pb Rb Yb Vc Df hg hw Gj)|((with_reducible refine Bg (b:=.append) (xs:=#[.tmp 35,.tmp 37]) rfl ?_);at_builtin;refine Kd.Fm (Kd.int .i64) (w0:=w) w.heap.size rfl (.tmp 35) (.tmp 37) 22 3 (.int .i64 0) 8 rfl Try.underlying22 info3 rfl (by decide) (by omega) u4 Ib (rd Da (td)) [.int .i64 (rd Da (td))] (fun k_=>some k_ ≠ (.slice (some Xi) Xf.length kN:Value).ownBlock) (fun _=>False) rfl rfl ?aP (fun _ hk=>hk.elim) ?aF ?aO ?aB ?aS ?aL ?_;(case aP=>exact rfl);(case aB=>exact laj);(case aF=>exact (fun k_ hk=>Kd.fresh' (Kd.Yi Yaj) k_ hk));(case aO=>exact waj);(case aS=>exact (Qa laj));(case aL=>have:=EX.out;omega);intro vA xQ ho hb hg hat;rw [← dG.out] at ho;have Pb:=aa.mk (Kd.Ek Baj (Kd.Dk waj) (by decide) hg);have Rb:=aa.mk (Kd.qg (ok:=(fun _=>True)) (by (with_reducible repeat (first|apply Kd.Ia|apply Kd.La|apply Kd.Ra));exact Kd.Eb Og.out (fun _ hk=>⟨trivial,hk⟩)) hg hat);have Yb:=aa.mk (uf (g:=Ka) (o:=.cells #[.slice zb Ma.length yb,.int .i64 Oa,.int .i64 Pa,.int .i64 Na,.slice Ob oa.length Fb] 45 (0,0)) naj hg (Kd.xp Uc.out qa.out (by decide)));have Vc:=aa.mk (hb);have Df:=aa.mk (ho);clear jc Og qa HB Uc;have jc:=Pb;have Og:=Rb;have qa:=Yb;have HB:=Vc;have Gn:=Df;clear Pb Rb Yb Vc Df ho hb hg hat;have E2:xQ.cell? ⟨Ka,0,none⟩=some (.slice zb Ma.length yb):=(ya qa.out 0).trans rfl;have D2:xQ.cell? ⟨Ka,1,none⟩=some (.int .i64 Oa):=(ya qa.out 1).trans rfl;have C2:xQ.cell? ⟨Ka,2,none⟩=some (.int .i64 Pa):=(ya qa.out 2).trans rfl;have Z1:xQ.cell? ⟨Ka,3,none⟩=some (.int .i64 Na):=(ya qa.out 3).trans rfl;have Y1:xQ.cell? ⟨Ka,4,none⟩=some (.slice Ob oa.length Fb):=(ya qa.out 4).trans rfl;have ZZ:=za qa.out 0;have YZ:=za qa.out 1;have XZ:=za qa.out 2;have WZ:=za qa.out 3;have VZ:=za qa.out 4;have Br:0 ≤ ((rd Da (td)):Int):=Ja;have tr:(rd Da (td)) < (oa.length:Int):=Ja;obtain ⟨El,uU,qT,CD,Bk,JE,IE,FE,EE,WE,bF⟩:=Vj Dh.out (rd Da (td)) Br tr;cases CD;replace Bk:=Jb HB.out Bk;replace JE:=Jb HB.out JE;replace IE:=Jb HB.out IE;replace FE:=Jb HB.out FE;replace EE:=Jb HB.out EE;have RN:=aa.mk bF;have eO:=aa.mk WE;clear bF WE;replace Br:=eq_true Br;replace tr:=eq_true tr)|((with_reducible refine Kb (f:=75) rfl ?_);refine ie (some 44) rfl rfl Try.func75 (by kernel_rfl) rfl #[.agg #[.slice uU ((Ea oa (rd Da (td))).f0).length qT,.int .i64 ((Ea oa (rd Da (td))).f1),.int .i64 ((Ea oa (rd Da (td))).f2),.int .i64 ((Ea oa (rd Da (td))).f3),.int .i64 ((Ea oa (rd Da (td))).f4)]] rfl (by (try simp only [List.map_toArray,List.map_cons,List.map_nil]);first|done|(simp only [ZE];rfl)|rfl|(simp only [List.length_drop,List.length_take];rfl)) ?_;(with_reducible refine (ue.calls _ _ ((Ea oa (rd Da (td))).f0) ((Ea oa (rd Da (td))).f1) ((Ea oa (rd Da (td))).f2) ((Ea oa (rd Da (td))).f3) ((Ea oa (rd Da (td))).f4) t121 _ ?Oc ?Nc xL.out).mono ?_);(case Oc=>repeat (first|exact (Kd.Za RN.out HB.out)|(with_reducible refine Kd.Gd ?_ _)|(with_reducible refine Kd.Ed ?_ _)|(with_reducible refine Kd.He ?_)));(case Nc=>exact eO.out);rintro e ZU ⟨cV,rfl,Rg,hb⟩;refine ⟨_,rfl,?_⟩;have Pb:=aa.mk (Kd.ec Baj hb);have Rb:=aa.mk (Kd.Ag Yaj (Kd.Wf Rg) hb);have Yb:=aa.mk (Kd.Ag (by (with_reducible repeat (first|apply Kd.Ia|apply Kd.La|apply Kd.Ra));exact Gn.out) (Kd.Wf Rg) hb);have Vc:=aa.mk (Kd.Xc (Kd.Bh (Kd.Bh Rg (Kd.Yi Yaj)) (Kd.Yi (by (with_reducible repeat (first|apply Kd.Ia|apply Kd.La|apply Kd.Ra));exact Gn.out))) (Qa laj));have Df:=aa.mk (Ta (g:=Ka) (o:=.cells #[.slice zb Ma.length yb,.int .i64 Oa,.int .i64 Pa,.int .i64 Na,.slice (some El) oa.length Fb] 45 (0,0)) naj hb);have Qg:=aa.mk (Ga laj hb);clear jc Og Gn qa HB;have jc:=Pb;have Og:=Rb;have Gn:=Yb;have Ih:=Vc;have qa:=Df;have HB:=Qg;clear Pb Rb Yb Vc Df Qg;(try clear hb);(try clear Cl);(try clear hk);(try clear hi);(try clear Rg);obtain ⟨vC,QB,RS⟩:=Kd.Vb Ih.out;subst RS)|((with_reducible refine Kb (f:=107) rfl ?_);refine ie (some 46) rfl rfl Try.func107 (by kernel_rfl) rfl #[.slice vC t121.length QB] rfl paj ?_;(with_reducible refine (Sa.calls k1 (fun k_=>some k_=(.slice vC t121.length QB:Value).ownBlock) (.slice vC t121.length QB) t121 t124 w _ ?Oc ?Nc A28.out).mono ?_);(case Oc=>repeat (first|(with_reducible first|exact HB.out|apply ia|apply ga|apply ja|refine ta ?_ Xa.out)|exact HB.out));(case Nc=>exact Kd.Ji rfl Ih.out);rintro e w39 ⟨rfl,hy0,hb,hkp⟩;refine ⟨_,rfl,?_⟩;have Pb:=aa.mk (Kd.Eb (cl:=fun k_=>True) (Kd.Ot ((Kd.iq jc.out (Kd.Dk Ih.out) (by decide))) hkp (fun k_ Tn hs_=>(Tn.2) hs_)) (fun k_ Tn=>trivial));have Rb:=aa.mk (Kd.Eb (cl:=fun k_=>some k_ ≠ (vA:Value).ownBlock∧some k_ ≠ (.slice vC t121.length QB:Value).ownBlock) (Kd.Ot (Og.out) hkp (fun k_ Tn hs_=>(Tn.2) hs_)) (fun k_ Tn=>⟨Tn.1.1.2,Tn.1.2⟩));have Yb:=aa.mk (jg naj hkp (fun hs_=>(fun e_=>(Kd.xp Ih.out qa.out (by decide)) e_) hs_));have Vc:=aa.mk (Kd.Eb (cl:=fun k_=>some k_ ≠ (.slice (some Xi) Xf.length kN:Value).ownBlock∧some k_ ≠ (.slice vC t121.length QB:Value).ownBlock) (Kd.Ot (Gn.out) hkp (fun k_ Tn hs_=>(Tn.2) hs_)) (fun k_ Tn=>⟨Tn.1.1,Tn.1.2⟩));have Df:=aa.mk (Kd.yK rfl hy0 (fun k_ e_=>Ih.out.1 k_ e_));have Qg:=aa.mk (hb);clear jc Og qa Gn Ih HB;have jc:=Pb;have Og:=Rb;have qa:=Yb;have Gn:=Vc;have Ih:=Df;have HB:=Qg;clear Pb Rb Yb Vc Df Qg;(try clear hb);(try clear hkp);(try clear hy0))|((with_reducible refine Bg (b:=.append) (xs:=#[.tmp 47,.tmp 48]) rfl ?_);at_builtin;refine Kd.gr (Kd.int .i64) (w0:=w) w.heap.size rfl (.tmp 47) (.tmp 48) 22 3 (.int .i64 0) 8 rfl Try.underlying22 info3 rfl (by decide) (by omega) (.slice (some Xi) Xf.length kN) Xf t124 _ _ _ (fun k_=>some k_ ≠ (vA:Value).ownBlock∧some k_ ≠ (.slice vC t121.length QB:Value).ownBlock) (fun _=>False) rfl rfl ?aO ?aR (fun _ _ h=>h) (fun _ h=>h.elim) ?aF ?aB ?aS ?aL ?_;(case aR=>rw [show t121.length=t124.length from (Kd.Ua Ih.out).1];repeat (first|exact (Kd.Ua Ih.out).2.2|(with_reducible refine Kd.Gd ?_ _)|(with_reducible refine Kd.Ed ?_ _)|(with_reducible refine Kd.He ?_)));(case aB=>exact laj);(case aF=>exact (fun k_ hk=>⟨Kd.fresh' (Kd.Yi (by (with_reducible repeat (first|apply Kd.Ia|apply Kd.La|apply Kd.Ra));exact Gn.out)) k_ hk,Kd.fresh' (Kd.Yi (by (with_reducible repeat (first|apply Kd.Ia|apply Kd.La|apply Kd.Ra));exact Ih.out)) k_ hk⟩));(case aO=>exact Yaj);(case aS=>exact (Qa laj));(case aL=>have:=JK.out;have Jaf:=(Kd.Ua Ih.out).1;omega);intro W5 w40 ho hb hg hat;rw [← lC.out] at ho;have Pb:=aa.mk (Kd.Ek Baj (Kd.Dk Yaj) (by decide) hg);have Rb:=aa.mk (uf (g:=Ka) (o:=.cells #[.slice zb Ma.length yb,.int .i64 Oa,.int .i64 Pa,.int .i64 Na,.slice (some El) oa.length Fb] 45 (0,0)) naj hg (Kd.xp Og.out qa.out (by decide)));have Yb:=aa.mk (Kd.qg (ok:=(fun k_=>some k_ ≠ (.slice vC t121.length QB:Value).ownBlock)) (by (with_reducible repeat (first|apply Kd.Ia|apply Kd.La|apply Kd.Ra));exact Kd.Eb Gn.out (fun _ hk=>⟨hk.2,hk.1⟩)) hg hat);have Vc:=aa.mk (Kd.qg (ok:=(fun k_=>some k_ ≠ (vA:Value).ownBlock)) (by (with_reducible repeat (first|apply Kd.Ia|apply Kd.La|apply Kd.Ra));exact Kd.Eb Ih.out (fun _ hk=>⟨hk.2,hk.1.2⟩)) hg hat);have Df:=aa.mk (hb);have Qg:=aa.mk (ho);clear jc qa Gn Ih HB Og;have jc:=Pb;have qa:=Rb;have Gn:=Yb;have Ih:=Vc;have HB:=Df;have TK:=Qg;clear Pb Rb Yb Vc Df Qg ho hb hg hat))
               go_roundg k1
               case measure=>have:=Kf.out;omega
               case rel=>exact ⟨(Rv),(uG),(qy),H',⟨by have:=Kf.out;omega⟩,⟨Uaj⟩,⟨by (with_reducible repeat (first|apply Kd.Ia|apply Kd.La|apply Kd.Ra));exact Kd.Eb Gn.out (fun _ hk=>hk.2)⟩,⟨by (with_reducible repeat (first|apply Kd.Ia|apply Kd.La|apply Kd.Ra));exact Kd.Eb TK.out (fun _ hk=>hk.1)⟩,⟨saj⟩,⟨oaj⟩⟩
              ·rw [if_neg MD] at H;exact absurd H (by simp)
             ·rw [if_neg J4] at H;exact absurd H (by simp)
            ·rw [if_neg SB] at H;exact absurd H (by simp)
          ·rw [if_neg Xx] at H;exact absurd H (by simp)
         ·rw [if_neg Yw] at H;exact absurd H (by simp)
        ·rw [if_neg Iz] at H;exact absurd H (by simp)
       ·rw [if_neg Zw] at H;exact absurd H (by simp)
      ·rw [if_neg rA] at H;exact absurd H (by simp)
     ·rw [if_neg XF] at H;have YB:decide (0 < (Da.length:Int))=false:=decide_eq_false XF;have SW:decide (0 < Da.length)=false:=decide_eq_false (by omega);clear XF;obtain rfl:=Option.some.inj H;obtain ⟨zaa,C_,OS⟩:=Kd.Vb Ue.out;subst OS;go_wp2;go_ret;exact ⟨_,taj,by (with_reducible repeat (first|apply Kd.Ia|apply Kd.La|apply Kd.Ra));exact Kd.Eb Uc.out (fun _ hk=>trivial),oaj⟩
  ·rw [if_neg c3] at H;exact absurd H (by simp)
 ·rw [if_neg c2] at H;exact absurd H (by simp)
inductive Em (nx:Nat→List Int):Nat→Prop
 | zero:Em nx 0
 | step {i:Nat} {j:Int}:Em nx i→j ∈ nx i→Em nx j.toNat
def seen (s:List Bool) (j:Nat):Bool:=s.getD j false
theorem Qh {s:List Bool} {i j:Nat} (hi:i < s.length):seen (s.set i true) j=(decide (i=j) || seen s j):=by
 unfold seen;rw [List.getD_eq_getElem?_getD,List.getD_eq_getElem?_getD,List.getElem?_set]
 by_cases h:i=j
 ·simp [h];subst h;simp [hi]
 ·simp [h]
def news (s:List Bool):Nat:=s.count false
theorem Zr {s:List Bool} {i:Nat} (hi:i < s.length) (h:seen s i=false):news (s.set i true) + 1=news s:=by
 unfold news;rw [List.count_set hi];unfold seen at h;rw [List.getD_eq_getElem?_getD,List.getElem?_eq_getElem hi] at h;have h':s[i]=false:=by simpa using h
 have hp:0 < s.count false:=List.count_pos_iff.mpr (h' ▸ List.getElem_mem hi);simp [h'];omega
def Oe (p:List Bool × List Int) (j:Int):List Bool × List Int:=if seen p.1 j.toNat=true then p else (p.1.set j.toNat true,p.2 ++ [j])
structure Fx (n:Nat) (nx:Nat→List Int) (s:List Bool) (q:List Int):Prop where
 len:s.length=n
 YH:∀ j ∈ q,0 ≤ j∧j < n∧seen s j.toNat=true
 zC:∀ j,seen s j=true→Em nx j
 cap:q.length + news s ≤ n
 yL:seen s 0=true
def Shut (nx:Nat→List Int) (s:List Bool) (q:List Int) (i:Nat):Prop:=∀ j,seen s j=true→(j:Int) ∉ q→j ≠ i→∀ m ∈ nx j,seen s m.toNat=true
theorem fI {n:Nat} {nx:Nat→List Int} {s:List Bool} {q:List Int} {i:Nat} (h:Fx n nx s q) (hs:Shut nx s q i) {j:Int} (h0:0 ≤ j) (h1:j < n) (hr:Em nx j.toNat) :
  Fx n nx (Oe (s,q) j).1 (Oe (s,q) j).2∧Shut nx (Oe (s,q) j).1 (Oe (s,q) j).2 i∧seen (Oe (s,q) j).1 j.toNat=true∧(∀ m,seen s m=true→seen (Oe (s,q) j).1 m=true)∧2 * news (Oe (s,q) j).1 + (Oe (s,q) j).2.length ≤ 2 * news s + q.length:=by
 have hl:j.toNat < s.length:=by rw [h.len];omega
 unfold Oe
 by_cases hc:seen s j.toNat=true
 ·simp only [if_pos hc];exact ⟨h,hs,hc,fun m hm=>hm,Nat.le_refl _⟩
 ·simp only [if_neg hc];have hf:seen s j.toNat=false:=by simpa using hc
  have hn:=Zr hl hf;have hk:∀ m,seen s m=true→seen (s.set j.toNat true) m=true:=fun m hm=>by rw [Qh hl,hm,Bool.or_true]
  refine ⟨⟨?_,?_,?_,?_,?_⟩,?_,?_,hk,?_⟩
  ·rw [List.length_set];exact h.len
  ·intro m hm
   rcases List.mem_append.mp hm with hm|hm
   ·obtain ⟨a,b,c⟩:=h.YH m hm;exact ⟨a,b,hk _ c⟩
   ·rw [List.mem_singleton] at hm;subst hm;refine ⟨h0,h1,?_⟩;rw [Qh hl];simp
  ·intro m hm;rw [Qh hl] at hm
   by_cases e:j.toNat=m
   ·rw [← e];exact hr
   ·simp [e] at hm;exact h.zC m hm
  ·have:=h.cap;rw [List.length_append,List.length_singleton];omega
  ·exact hk _ h.yL
  ·intro a ha hq hi m hm;rw [Qh hl] at ha
   have hq':(a:Int) ∉ q∧(a:Int) ≠ j:=by
    rw [List.mem_append,List.mem_singleton] at hq;exact ⟨fun x=>hq (Or.inl x),fun x=>hq (Or.inr x)⟩
   have e:j.toNat ≠ a:=fun e=>hq'.2 (by omega)
   simp [e] at ha;exact hk _ (hs a ha hq'.1 hi m hm)
  ·rw [Qh hl];simp
  ·rw [List.length_append,List.length_singleton];omega
theorem NA {n:Nat} {nx:Nat→List Int} {i:Nat} (hi:Em nx i):∀ (l:List Int) (s:List Bool) (q:List Int),Fx n nx s q→Shut nx s q i→(∀ j ∈ l,0 ≤ j∧j < n∧j ∈ nx i) →
  Fx n nx (l.foldl Oe (s,q)).1 (l.foldl Oe (s,q)).2∧Shut nx (l.foldl Oe (s,q)).1 (l.foldl Oe (s,q)).2 i∧(∀ j ∈ l,seen (l.foldl Oe (s,q)).1 j.toNat=true)∧(∀ m,seen s m=true→seen (l.foldl Oe (s,q)).1 m=true)∧2 * news (l.foldl Oe (s,q)).1 + (l.foldl Oe (s,q)).2.length ≤ 2 * news s + q.length:=by
 intro l
 induction l with
 | nil=>intro s q h hs _;exact ⟨h,hs,fun j hj=>absurd hj (by simp),fun m hm=>hm,Nat.le_refl _⟩
 | cons j l ih =>
  intro s q h hs hl;obtain ⟨a,b,c⟩:=hl j (by simp);obtain ⟨p1,p2,p3,p4,p5⟩:=fI h hs a b (Em.step hi c);obtain ⟨q1,q2,q3,q4,q5⟩:=ih _ _ p1 p2 (fun m hm=>hl m (by simp [hm]));refine ⟨q1,q2,?_,fun m hm=>q4 m (p4 m hm),Nat.le_trans q5 p5⟩;intro m hm
  rcases List.mem_cons.mp hm with e|hm
  ·subst e;exact q4 _ p3
  ·exact q3 m hm
structure uv (n:Nat) (nx:Nat→List Int) (s:List Bool) (q:List Int):Prop where
 len:s.length=n
 YH:∀ j ∈ q,0 ≤ j∧j < n∧Em nx j.toNat
 zC:∀ j,seen s j=true→Em nx j
 cap:q.length + 2 * news s ≤ 1 + 2 * n
 yL:seen s 0=true ∨ (0:Int) ∈ q
 shut:∀ j,seen s j=true→∀ m ∈ nx j,seen s m.toNat=true ∨ m ∈ q
theorem UH {n:Nat} {nx:Nat→List Int} {s:List Bool} {i:Int} {q:List Int} (hn:∀ a,a < n→(nx a).length ≤ 2∧∀ j ∈ nx a,0 ≤ j∧j < n) (h:uv n nx s (i :: q)) (hf:seen s i.toNat=false):uv n nx (s.set i.toNat true) (q ++ nx i.toNat):=by
 obtain ⟨h0,h1,hr⟩:=h.YH i (by simp);have hl:i.toNat < s.length:=by rw [h.len];omega
 obtain ⟨n1,n2⟩:=hn i.toNat (by omega);have hw:=Zr hl hf;refine ⟨by rw [List.length_set];exact h.len,?_,?_,?_,?_,?_⟩
 ·intro j hj
  rcases List.mem_append.mp hj with hj|hj
  ·exact h.YH j (by simp [hj])
  ·exact ⟨(n2 j hj).1,(n2 j hj).2,Em.step hr hj⟩
 ·intro m hm;rw [Qh hl] at hm
  by_cases e:i.toNat=m
  ·rw [← e];exact hr
  ·simp [e] at hm;exact h.zC m hm
 ·have:=h.cap;rw [List.length_cons] at this;rw [List.length_append];omega
 ·rw [Qh hl]
  rcases h.yL with z|z
  ·left;rw [z,Bool.or_true]
  ·rcases List.mem_cons.mp z with z|z
   ·left
    rw [← z];simp
   ·right
    exact List.mem_append.mpr (Or.inl z)
 ·intro j hj m hm;rw [Qh hl] at hj
  by_cases e:i.toNat=j
  ·right
   rw [← e] at hm;exact List.mem_append.mpr (Or.inr hm)
  ·simp [e] at hj;rw [Qh hl]
   rcases h.shut j hj m hm with z|z
   ·left;rw [z,Bool.or_true]
   ·rcases List.mem_cons.mp z with z|z
    ·left
     rw [z];simp
    ·right
     exact List.mem_append.mpr (Or.inl z)
theorem WH {n:Nat} {nx:Nat→List Int} {s:List Bool} {i:Int} {q:List Int} (h:uv n nx s (i :: q)) (hf:seen s i.toNat=true):uv n nx s q:=by
 refine ⟨h.len,fun j hj=>h.YH j (by simp [hj]),h.zC,?_,?_,?_⟩
 ·have:=h.cap;rw [List.length_cons] at this;omega
 ·rcases h.yL with z|z
  ·left;exact z
  ·rcases List.mem_cons.mp z with z|z
   ·left
    rw [← z] at hf;exact hf
   ·right;exact z
 ·intro j hj m hm
  rcases h.shut j hj m hm with z|z
  ·left;exact z
  ·rcases List.mem_cons.mp z with z|z
   ·left;rw [z];exact hf
   ·right;exact z
theorem gN {n:Nat} {nx:Nat→List Int} {s:List Bool} (h:Fx n nx s []) (hs:∀ j,seen s j=true→∀ m ∈ nx j,seen s m.toNat=true):∀ j,seen s j=true ↔ Em nx j:=by
 intro j;refine ⟨h.zC j,fun r=>?_⟩
 induction r with
 | zero=>exact h.yL
 | step _ hm ih=>exact hs _ ih _ hm
theorem iN {n:Nat} {nx:Nat→List Int} {s:List Bool} (h:uv n nx s []):∀ j,seen s j=true ↔ Em nx j:=by
 intro j;refine ⟨h.zC j,fun r=>?_⟩
 induction r with
 | zero=>exact h.yL.resolve_right (by simp)
 | step _ hm ih=>exact (h.shut _ ih _ hm).resolve_right (by simp)
theorem fu (n:Nat):news (List.replicate n false)=n:=by simp [news]
theorem Sn (n j:Nat):seen (List.replicate n false) j=false:=by
 unfold seen;rw [List.getD_eq_getElem?_getD,List.getElem?_replicate]
 by_cases h:j < n
 ·rw [if_pos h];rfl
 ·rw [if_neg h];rfl
theorem uv.perm {n:Nat} {nx:Nat→List Int} {s:List Bool} {q q':List Int} (h:uv n nx s q) (hp:∀ x,x ∈ q ↔ x ∈ q') (hl:q.length=q'.length):uv n nx s q' :=
 ⟨h.len,fun j hj=>h.YH j ((hp j).2 hj),h.zC,by rw [← hl];exact h.cap,h.yL.imp id (hp 0).1,fun j hj m hm=>(h.shut j hj m hm).imp id (hp m).1⟩
theorem KB (ys:List Int) (hy:ys.length ≤ 2):Ev (fun k=>Sa.f k ys) ys.reverse:=by
 unfold Sa.f
 rcases ys with _|⟨a,_|⟨b,_|⟨c,l⟩⟩⟩
 ·rw [show wrap64 ((([]:List Int).length:Int) - 1) = -1 from by rw [bg (by simp) (by simp)];rfl];refine Ev.step (fun k=>by rw [Sa.l0]) ?_;exact Ev.neg (by omega) (Ev.now _)
 ·rw [show wrap64 (([a].length:Int) - 1)=0 from by rw [bg (by simp) (by simp)];rfl];refine Ev.step (fun k=>by rw [Sa.l0]) ?_;exact Ev.neg (by omega) (Ev.now _)
 ·rw [show wrap64 (([a,b].length:Int) - 1)=1 from by rw [bg (by simp) (by simp)];rfl];refine Ev.step (fun k=>by rw [Sa.l0]) ?_;refine Ev.pos (by omega) (Ev.pos (by omega) (Ev.pos (by simp) (Ev.pos (by omega) (Ev.pos (by simp) ?_))));rw [bg (x:=0 + 1) (by omega) (by omega),bg (x:=1 - 1) (by omega) (by omega)];refine Ev.step (fun k=>by rw [Sa.l0]) ?_;exact Ev.neg (by omega) (Ev.now _)
 ·simp at hy
noncomputable def mc (bs:List Wd):List Int:=open Classical in ((List.range bs.length).filter fun i=>decide (Em (De bs) i)).map fun (i:Nat)=>(i:Int)
theorem ug {bs:List Wd} (hE:ze bs) (j:Int):j ∈ mc bs ↔ 0 ≤ j∧Em (De bs) j.toNat:=by
 unfold mc;rw [List.mem_map]
 constructor
 ·rintro ⟨i,hi,rfl⟩;rw [List.mem_filter] at hi;exact ⟨by omega,by simpa using hi.2⟩
 ·rintro ⟨h0,h⟩
  have hlt:j.toNat < bs.length:=by
   have:∀ i,Em (De bs) i→i < bs.length:=by
    intro i hi
    induction hi with
    | zero=>exact hE.1
    | step hr hj ih=>have:=hE.2.2 _ ih _ hj;omega
   exact this _ h
  exact ⟨j.toNat,List.mem_filter.2 ⟨List.mem_range.2 hlt,by simpa using h⟩,by omega⟩
theorem Fo {bs:List Wd} (hE:ze bs) {i:Nat} (h:Em (De bs) i):i < bs.length:=by
 induction h with
 | zero=>exact hE.1
 | step hr hj ih=>have:=hE.2.2 _ ih _ hj;omega
theorem aI (n:Nat):(List.range n).Pairwise (· < ·):=by
 exact List.pairwise_lt_range
theorem oN {l:List Nat} (h:l.Pairwise (· < ·)):(l.map fun (i:Nat)=>(i:Int)).Pairwise (· < ·):=by
 rw [List.pairwise_map];exact h.imp (fun h=>by omega)
theorem cu (bs:List Wd):(mc bs).Pairwise (· < ·):=by
 unfold mc;exact oN ((aI _).filter _)
theorem Mn (bs:List Wd):(mc bs).length ≤ bs.length:=by
 unfold mc;rw [List.length_map];exact Nat.le_trans (List.length_filter_le _ _) (by rw [List.length_range];exact Nat.le_refl _)
section
variable {l0:List Int} {p v s:Int} {bs:List Wd}
theorem FB (hE:ze bs):∀ (m:Nat) (sn:List Bool) (out dx:List Int),2 * news sn + dx.length ≤ m→uv bs.length (De bs) sn dx→(∀ j:Nat,seen sn j=true ↔ (j:Int) ∈ out)→(∀ j ∈ out,0 ≤ j)→out.Nodup→out.length + news sn=bs.length →
  ∃ R,Ev (fun k=>Gc.l0 k sn out dx l0 p v s bs) R∧R.Nodup∧R.length ≤ bs.length∧∀ j:Int,j ∈ R ↔ 0 ≤ j∧Em (De bs) j.toNat:=by
 intro m
 induction m with
 | zero =>
  intro sn out dx hm hI FO h0 BU hlen;have hp:dx=[]:=List.eq_nil_of_length_eq_zero (by omega);subst hp;refine ⟨out,Ev.step (fun k=>by rw [Gc.l0]) (Ev.neg (by decide) (Ev.now _)),BU,by omega,fun j=>?_⟩
  constructor
  ·intro hj;have h:=h0 j hj;refine ⟨h,(iN hI _).1 ((FO _).2 ?_)⟩
   rwa [Int.toNat_of_nonneg h]
  ·rintro ⟨h,hr⟩;have:=(FO _).1 ((iN hI _).2 hr)
   rwa [Int.toNat_of_nonneg h] at this
 | succ m ih =>
  intro sn out dx hm hI FO h0 BU hlen
  by_cases hpe:dx=[]
  ·subst hpe;refine ⟨out,Ev.step (fun k=>by rw [Gc.l0]) (Ev.neg (by decide) (Ev.now _)),BU,by omega,fun j=>?_⟩
   constructor
   ·intro hj;have h:=h0 j hj;refine ⟨h,(iN hI _).1 ((FO _).2 ?_)⟩
    rwa [Int.toNat_of_nonneg h]
   ·rintro ⟨h,hr⟩;have:=(FO _).1 ((iN hI _).2 hr)
    rwa [Int.toNat_of_nonneg h] at this
  ·obtain ⟨q,b,rfl⟩:∃ q b,dx=q ++ [b]:=⟨dx.dropLast,dx.getLast hpe,(List.dropLast_concat_getLast hpe).symm⟩;have hcap:=hI.cap;have hnn:news sn ≤ bs.length:=by omega
   have hE2:=hE.2.1;rw [List.length_append,List.length_singleton] at hm hcap;have y9:uv bs.length (De bs) sn (b :: q):=hI.perm (fun x=>by simp [or_comm]) (by simp);obtain ⟨hb0,Ko,DS⟩:=y9.YH b (by simp);have MO:rd (q ++ [b]) (q.length:Int)=b:=by simp [rd]
   have htake:(q ++ [b]).take q.length=q:=by simp
   have hw:wrap64 (((q ++ [b]).length:Int) - 1)=(q.length:Int):=by
    rw [List.length_append,List.length_singleton,bg (by omega) (by omega)];omega
   have qD:((b.toNat:Nat):Int)=b:=Int.toNat_of_nonneg hb0;have zU:=hI.len;have hrd:xg false sn b=seen sn b.toNat:=rfl
   by_cases IZ:seen sn b.toNat=true
   ·obtain ⟨R,hR,hrest⟩:=ih sn out q (by omega) (WH y9 IZ) FO h0 BU hlen;refine ⟨R,?_,hrest⟩;refine Ev.step (fun k=>by rw [Gc.l0]) (Ev.pos Xaj ?_);rw [hw,MO,hrd];refine Ev.pos (by omega) (Ev.pos Xaj (Ev.pos Xaj ?_));rw [Int.toNat_natCast,htake];exact Ev.val (Ev.pos hb0 (Ev.pos (by rw [zU];exact Ko) (Ev.pos IZ hR)))
   ·have n7:seen sn b.toNat=false:=by simpa using IZ
    have hlt:b.toNat < sn.length:=by rw [zU];omega
    have hn:=Zr hlt n7;have hT:uv bs.length (De bs) (sn.set b.toNat true) (q ++ De bs b.toNat):=UH (fun a ha=>⟨Ti _,hE.2.2 a ha⟩) y9 n7;have AU:De bs b.toNat=ux (Ea bs b):=by unfold De;rw [qD]
    have UO:=Ti (Ea bs b)
    obtain ⟨R,hR,hrest⟩:=ih (sn.set b.toNat true) (out ++ [b]) (q ++ (ux (Ea bs b)).reverse) (by rw [List.length_append,List.length_reverse];omega)
     (hT.perm (fun x=>by rw [AU];simp) (by rw [AU];simp)) (fun j=>by
      rw [Qh hlt,List.mem_append,List.mem_singleton,← FO j,Bool.or_eq_true,decide_eq_true_eq]
      constructor
      ·rintro (h|h)
       ·right;omega
       ·left;exact h
      ·rintro (h|h)
       ·right;exact h
       ·left;omega) (fun j hj=>by
      rcases List.mem_append.1 hj with hj|hj
      ·exact h0 j hj
      ·rw [List.mem_singleton] at hj;omega) (by
      rw [List.nodup_append];refine ⟨BU,by simp,fun a ha c hc he=>?_⟩;rw [List.mem_singleton] at hc;subst hc;subst he;have:=(FO a.toNat).2 (by rw [qD];exact ha);rw [n7] at this
      cases this) Xaj
    refine ⟨R,?_,hrest⟩;refine Ev.step (fun k=>by rw [Gc.l0]) (Ev.pos Xaj ?_);rw [hw,MO,hrd];refine Ev.pos (by omega) (Ev.pos Xaj (Ev.pos Xaj ?_));rw [Int.toNat_natCast,htake];refine Ev.val (Ev.pos hb0 (Ev.pos (by rw [zU];exact Ko) (Ev.neg IZ (Ev.pos (by omega) (Ev.pos Ko ?_)))));rw [uq];refine Ev.val (Ev.bind (KB _ UO) (Ev.pos (by rw [List.length_reverse];omega) hR))
theorem QJ (hE:ze bs):∃ R,Ev (fun k=>Gc.f k l0 p v s bs) R∧R.length ≤ bs.length∧Nh R=mc bs:=by
 have hE1:=hE.1;have hE2:=hE.2.1;have l7:∀ j,seen (List.replicate bs.length false) j=false:=fun j=>Sn _ _
 have hI:uv bs.length (De bs) (List.replicate bs.length false) [0]:=by
  refine ⟨by simp,fun j hj=>?_,fun j hj=>?_,?_,Or.inr (by simp),fun j hj=>?_⟩
  ·rw [List.mem_singleton] at hj;subst hj;exact ⟨by omega,by omega,Em.zero⟩
  ·rw [l7] at hj;cases hj
  ·rw [fu];simp
  ·rw [l7] at hj;cases hj
 obtain ⟨R,h1,h2,h3,h4⟩:=FB (l0:=l0) (p:=p) (v:=v) (s:=s) hE (2 * news (List.replicate bs.length false) + 1) (List.replicate bs.length false) [] [0] (by simp) hI
  (fun j=>by rw [l7];simp) (by simp) (by simp) (by rw [fu];simp)
 refine ⟨R,?_,h3,?_⟩
 ·unfold Gc.f;refine Ev.pos (by omega) (Ev.pos (by omega) ?_);rw [Int.toNat_natCast];exact h1
 ·refine Jp _ _ (Kg R).1 (cu bs) (fun x=>?_);rw [(Kg R).2,h4,ug hE]
end
end Go.Proofs.Ytoomcmaifgkkfaa.P
end
section
namespace Go.Proofs.Ytoomcmaifgkkfaa.P
open Go.RowKit Go.Proofs.Aa.Db Go.Proofs.Aa.Tc Go.Proofs.Aa.ke
set_option linter.unusedVariables false
set_option linter.unusedSimpArgs false
inductive RA (nx:Nat→List Int) (a:Nat):Nat→Prop
 | zero:0 ≠ a→RA nx a 0
 | step {i:Nat} {j:Int}:RA nx a i→j ∈ nx i→j.toNat ≠ a→RA nx a j.toNat
def Dom (nx:Nat→List Int) (i k:Nat):Prop:=Em nx i∧Em nx k∧¬ RA nx i k
theorem RA.zC {nx:Nat→List Int} {a k:Nat} (h:RA nx a k):Em nx k:=by
 induction h with
 | zero _=>exact Em.zero
 | step _ hj _ ih=>exact Em.step ih hj
theorem RA.ne {nx:Nat→List Int} {a k:Nat} (h:RA nx a k):k ≠ a:=by
 cases h with
 | zero h=>exact h
 | step _ _ h=>exact h
theorem Dom.zero {nx:Nat→List Int} {k:Nat} (h:Em nx k):Dom nx 0 k:=by
 have key:∀ j,RA nx 0 j→False:=fun j h=>by
  induction h with
  | zero h=>exact h rfl
  | step _ _ _ ih=>exact ih
 exact ⟨Em.zero,h,key k⟩
theorem Dom.at0 {nx:Nat→List Int} {i:Nat} (h:Dom nx i 0):i=0:=Decidable.byContradiction fun hc=>h.2.2 (RA.zero (fun e=>hc e.symm))
theorem Dom.back {nx:Nat→List Int} {i b:Nat} {t:Int} (h:Dom nx i t.toNat) (hb:Em nx b) (ht:t ∈ nx b) (hne:t.toNat ≠ i):Dom nx i b:=⟨h.1,hb,fun hr=>h.2.2 (RA.step hr ht hne)⟩
noncomputable def Mm (bs:List Wd) (k:Nat):List Int:=open Classical in (mc bs).filter fun i=>decide (Dom (De bs) i.toNat k)
noncomputable def om (bs:List Wd):List (List Int):=(List.range bs.length).map (Mm bs)
def nk (D:List (List Int)) (k:Nat):List Int:=D.getD k []
theorem Yl {D:List (List Int)} {i k:Nat} {x:List Int} (hi:i < D.length):nk (D.set i x) k=if i=k then x else nk D k:=by
 unfold nk;rw [List.getD_eq_getElem?_getD,List.getD_eq_getElem?_getD,List.getElem?_set]
 by_cases h:i=k
 ·rw [if_pos h,if_pos h,if_pos hi];rfl
 ·rw [if_neg h,if_neg h]
def cv (D:List (List Int)):Nat:=(D.map List.length).sum
theorem DA:∀ (D:List (List Int)) (i:Nat) (x:List Int),i < D.length→cv (D.set i x) + (nk D i).length=cv D + x.length
 | [],i,x,h=>by simp at h
 | y :: D,0,x,_=>by
  simp only [cv,List.set_cons_zero,List.map_cons,List.sum_cons,nk,List.getD_cons_zero];omega
 | y :: D,i + 1,x,h=>by
  have ih:=DA D i x (by simpa using h);simp only [cv,List.set_cons_succ,List.map_cons,List.sum_cons,nk,List.getD_cons_succ] at ih ⊢;omega
def Ct (D:List (List Int)) (b t:Nat) (r:Int):Bool:=if r=(t:Int) then false else !decide (r ∈ nk D b)
def jk (D:List (List Int)) (b t:Nat):List Int:=(nk D t).filter fun r=>!Ct D b t r
def sX (D:List (List Int)) (b t:Nat):Prop:=∀ r ∈ nk D t,r=(t:Int) ∨ r ∈ nk D b
theorem Gy (D:List (List Int)) (b t:Nat):(jk D b t).length ≤ (nk D t).length:=List.length_filter_le _ _
theorem wI {D:List (List Int)} {b t:Nat} (h:¬ (jk D b t).length < (nk D t).length):jk D b t=nk D t∧sX D b t:=by
 have he:(jk D b t).length=(nk D t).length:=by have:=Gy D b t;omega
 unfold jk at he ⊢;have h2:=List.length_filter_eq_length_iff.1 he;refine ⟨List.filter_eq_self.2 h2,fun r hr=>?_⟩;have:=h2 r hr;unfold Ct at this
 by_cases vV:r=(t:Int)
 ·exact Or.inl vV
 ·rw [if_neg vV] at this
  right
  simpa using this
structure xN (bs:List Wd) (D:List (List Int)):Prop where
 len:D.length=bs.length
 U3:∀ k,∃ q:Int→Bool,nk D k=(mc bs).filter q
 unr:∀ k,¬ Em (De bs) k→nk D k=[]
 dom:∀ i k,Dom (De bs) i k→(i:Int) ∈ nk D k
 zero:nk D 0=[0]
section
variable {bs:List Wd} {D:List (List Int)}
theorem xN.step (h:xN bs D) (hE:ze bs) {b:Nat} {t:Int} (hb:Em (De bs) b) (ht:t ∈ De bs b):xN bs (D.set t.toNat (jk D b t.toNat)):=by
 have l9:=Fo hE hb;obtain ⟨t0,t1⟩:=hE.2.2 b l9 t ht;have htl:t.toNat < D.length:=by rw [h.len];omega
 refine ⟨by rw [List.length_set];exact h.len,fun k=>?_,fun k hk=>?_,fun i k hik=>?_,?_⟩
 ·rw [Yl htl]
  by_cases e:t.toNat=k
  ·rw [if_pos e];obtain ⟨q,hq⟩:=h.U3 t.toNat;refine ⟨fun x=>q x && !Ct D b t.toNat x,?_⟩;unfold jk;rw [hq,List.filter_filter]
   congr 1
   funext x
   exact Bool.and_comm _ _
  ·rw [if_neg e];exact h.U3 k
 ·rw [Yl htl]
  by_cases e:t.toNat=k
  ·exact absurd (e ▸ Em.step hb ht) hk
  ·rw [if_neg e];exact h.unr k hk
 ·rw [Yl htl]
  by_cases e:t.toNat=k
  ·rw [if_pos e];subst e;unfold jk;refine List.mem_filter.2 ⟨h.dom i _ hik,?_⟩;unfold Ct
   by_cases hi:(i:Int)=((t.toNat:Nat):Int)
   ·rw [if_pos hi];rfl
   ·rw [if_neg hi];have:=h.dom i b (hik.back hb ht (by omega));simp [this]
  ·rw [if_neg e];exact h.dom i k hik
 ·rw [Yl htl]
  by_cases e:t.toNat=0
  ·rw [if_pos e,e];unfold jk;rw [h.zero];simp [Ct]
  ·rw [if_neg e];exact h.zero
theorem xN.done (h:xN bs D) (hE:ze bs) (hOk:∀ b,Em (De bs) b→∀ t ∈ De bs b,sX D b t.toNat):D=om bs:=by
 have key:∀ (i k:Nat),RA (De bs) i k→(i:Int) ∉ nk D k:=by
  intro i k hr
  induction hr with
  | zero h0 =>
   rw [h.zero,List.mem_singleton];omega
  | @step u t hu ht hne ih =>
   intro hm;obtain ⟨t0,t1⟩:=hE.2.2 u (Fo hE hu.zC) t ht
   rcases hOk u hu.zC t ht _ hm with e|e
   ·omega
   ·exact ih e
 have hrow:∀ k,k < bs.length→nk D k=Mm bs k:=by
  intro k hk;obtain ⟨q,hq⟩:=h.U3 k;unfold Mm;rw [hq];apply List.filter_congr;intro x hx;obtain ⟨x0,xr⟩:=(ug hE x).1 hx;have fR:((x.toNat:Nat):Int)=x:=Int.toNat_of_nonneg x0
  have hiff:q x=true ↔ Dom (De bs) x.toNat k:=by
   constructor
   ·intro y7;have hm:x ∈ nk D k:=by rw [hq];exact List.mem_filter.2 ⟨hx,y7⟩
    have hk2:Em (De bs) k:=Classical.byContradiction fun hn=>by rw [h.unr k hn] at hm;cases hm
    refine ⟨xr,hk2,fun hr=>key _ _ hr ?_⟩;rw [fR];exact hm
   ·intro hd;have:=h.dom _ _ hd;rw [fR,hq] at this;exact (List.mem_filter.1 this).2
  by_cases hd:Dom (De bs) x.toNat k
  ·rw [hiff.2 hd];exact (@decide_eq_true _ (Classical.propDecidable _) hd).symm
  ·refine Eq.trans ?_ (@decide_eq_false _ (Classical.propDecidable _) hd).symm;cases y7:q x with
   | false=>rfl
   | true=>exact absurd (hiff.1 y7) hd
 unfold om;apply List.ext_getElem
 ·rw [List.length_map,List.length_range];exact h.len
 ·intro k h1 h2;rw [List.getElem_map,List.getElem_range,← hrow k (by rw [← h.len];exact h1)];simp [nk,List.getD_eq_getElem?_getD,h1]
noncomputable def Xz (bs:List Wd) (i:Nat) (D:List (List Int)):Prop:=D.length=bs.length∧∀ k,nk D k=if (k:Int) ∈ (mc bs).take i then mc bs else []
theorem Xz.start (bs:List Wd):Xz bs 0 (List.replicate bs.length []):=by
 refine ⟨by simp,fun k=>?_⟩;unfold nk;rw [List.getD_eq_getElem?_getD,List.getElem?_replicate]
 by_cases h:k < bs.length
 ·rw [if_pos h];simp
 ·rw [if_neg h];simp
theorem Xz.next {i:Nat} (h:Xz bs i D) (hE:ze bs) (hi:i < (mc bs).length):Xz bs (i + 1) (D.set ((mc bs)[i]).toNat (mc bs)):=by
 obtain ⟨x0,xr⟩:=(ug hE _).1 (List.getElem_mem hi);have hl:=Fo hE xr;refine ⟨by rw [List.length_set];exact h.1,fun k=>?_⟩;rw [Yl (by rw [h.1];exact hl),h.2 k,List.take_succ_eq_append_getElem hi]
 by_cases e:((mc bs)[i]).toNat=k
 ·rw [if_pos e,if_pos (by rw [List.mem_append,List.mem_singleton];right;omega)]
 ·rw [if_neg e]
  have:(k:Int) ∈ (mc bs).take i ++ [(mc bs)[i]] ↔ (k:Int) ∈ (mc bs).take i:=by
   rw [List.mem_append,List.mem_singleton]
   constructor
   ·rintro (h|h)
    ·exact h
    ·omega
   ·exact Or.inl
  by_cases hm:(k:Int) ∈ (mc bs).take i
  ·rw [if_pos hm,if_pos (this.2 hm)]
  ·rw [if_neg hm,if_neg (fun h=>hm (this.1 h))]
theorem EC (hE:ze bs):(0:Int) ∈ mc bs:=(ug hE 0).2 ⟨by omega,Em.zero⟩
theorem Xz.go (h:Xz bs (mc bs).length D) (hE:ze bs):xN bs (D.set 0 [0]):=by
 have hD:∀ k,nk D k=if (k:Int) ∈ mc bs then mc bs else []:=fun k=>by rw [h.2 k,List.take_length]
 have h0:0 < D.length:=by rw [h.1];exact hE.1
 have hz:[0]=(mc bs).filter fun x=>decide (x=0):=by
  refine Jp _ _ (by simp) ((cu bs).filter _) (fun x=>?_);rw [List.mem_singleton,List.mem_filter,decide_eq_true_eq]
  constructor
  ·rintro rfl;exact ⟨EC hE,rfl⟩
  ·exact fun h=>h.2
 have hmem:∀ k:Nat,(k:Int) ∈ mc bs ↔ Em (De bs) k:=fun k=>by
  rw [ug hE,Int.toNat_natCast];exact ⟨fun h=>h.2,fun h=>⟨by omega,h⟩⟩
 refine ⟨by rw [List.length_set];exact h.1,fun k=>?_,fun k hk=>?_,fun i k hik=>?_,?_⟩
 ·rw [Yl h0]
  by_cases e:0=k
  ·rw [if_pos e];exact ⟨_,hz⟩
  ·rw [if_neg e,hD]
   by_cases hm:(k:Int) ∈ mc bs
   ·rw [if_pos hm];exact ⟨fun _=>true,(List.filter_eq_self.2 (fun _ _=>rfl)).symm⟩
   ·rw [if_neg hm];exact ⟨fun _=>false,(List.filter_eq_nil_iff.2 (fun _ _=>by simp)).symm⟩
 ·rw [Yl h0]
  by_cases e:0=k
  ·subst e;exact absurd Em.zero hk
  ·rw [if_neg e,hD,if_neg (fun hm=>hk ((hmem k).1 hm))]
 ·rw [Yl h0]
  by_cases e:0=k
  ·rw [if_pos e];subst e;rw [hik.at0];simp
  ·rw [if_neg e,hD,if_pos ((hmem k).2 hik.2.1)];exact (hmem i).2 hik.1
 ·rw [Yl h0,if_pos rfl]
theorem Ln (bs:List Wd):(om bs).length=bs.length:=by simp [om]
end
end Go.Proofs.Ytoomcmaifgkkfaa.P
end
section
namespace Go.Proofs.Ytoomcmaifgkkfaa.P
open Go.RowKit Go.Proofs.Aa.Db Go.Proofs.Aa.Tc Go.Proofs.Aa.ke
set_option linter.unusedVariables false
set_option linter.unusedSimpArgs false
noncomputable def Bi (bs:List Wd) (b:Nat):List Int:=(Nh (De bs b)).filter (fun t=>decide (t ∈ Mm bs b))
noncomputable def Jg (bs:List Wd):Nat→List (Int × Int)
 | 0=>[]
 | b + 1=>Jg bs b ++ (Bi bs b).map (fun t=>((b:Int),t))
noncomputable def fq (bs:List Wd):List (Int × Int):=Jg bs bs.length
theorem dy (bs:List Wd) (b:Nat):(Bi bs b).length ≤ 2:=Nat.le_trans (List.length_filter_le _ _) (Nat.le_trans (Xu _) (Ti _))
theorem Oo (bs:List Wd):∀ b,(Jg bs b).length ≤ 2 * b
 | 0=>by simp [Jg]
 | b + 1=>by
  have h1:=Oo bs b;have h2:=dy bs b;unfold Jg;rw [List.length_append,List.length_map];omega
theorem PD (bs:List Wd):(fq bs).length ≤ 2 * bs.length:=Oo bs _
theorem cy {bs:List Wd} {b:Nat} {t:Int}:t ∈ Bi bs b ↔ t ∈ De bs b∧t ∈ Mm bs b:=by
 unfold Bi;rw [List.mem_filter,decide_eq_true_eq,(Kg _).2]
theorem OD {bs:List Wd} {x:Int × Int}:x ∈ fq bs ↔ ∃ b,b < bs.length∧x.1=(b:Int)∧x.2 ∈ De bs b∧x.2 ∈ Mm bs b:=by
 have key:∀ n,x ∈ Jg bs n ↔ ∃ b,b < n∧x.1=(b:Int)∧x.2 ∈ De bs b∧x.2 ∈ Mm bs b:=by
  intro n
  induction n with
  | zero=>simp [Jg]
  | succ n ih =>
   unfold Jg;rw [List.mem_append,ih,List.mem_map]
   constructor
   ·rintro (⟨b,h1,h2⟩|⟨t,ht,rfl⟩)
    ·exact ⟨b,by omega,h2⟩
    ·exact ⟨n,by omega,rfl,cy.1 ht⟩
   ·rintro ⟨b,h1,h2,h3⟩
    by_cases e:b=n
    ·subst e;exact .inr ⟨x.2,cy.2 h3,by rw [← h2]⟩
    ·exact .inl ⟨b,by omega,h2,h3⟩
 exact key _
theorem Vn {α:Type} (p:α→Bool) (l:List α) {j:Nat} (h:j < l.length):(l.take (j + 1)).filter p=(l.take j).filter p ++ (if p l[j]=true then [l[j]] else []):=by
 rw [List.take_succ_eq_append_getElem h,List.filter_append]
 by_cases hp:p l[j]=true
 ·rw [if_pos hp,List.filter_cons_of_pos hp,List.filter_nil]
 ·rw [if_neg hp,List.filter_cons_of_neg hp,List.filter_nil]
theorem yN {base g n cap:Nat} {ok:Nat→Prop} (m:Nat):∀ (W:World) (xs:List Int) (i:Nat),i + m=xs.length→Kd.R (Kd.int .i64) 3 W base ok (.slice (some ⟨g,0,none⟩) n cap) xs →
  Kd.R (Kd.int .i64) 3 (W.setCells g i (List.replicate m (.int .i64 0))) base ok (.slice (some ⟨g,0,none⟩) n cap) (xs.take i ++ List.replicate m 0)∧W.grownBy (W.setCells g i (List.replicate m (.int .i64 0))) (some g):=by
 induction m with
 | zero =>
  intro W xs i hi h;rw [List.take_of_length_le (by omega)];simp only [List.replicate_zero,List.append_nil];exact ⟨h,World.grownBy.refl _ _⟩
 | succ m ih =>
  intro W xs i hi h;obtain ⟨h2,h3⟩:=Kd.vk (enc:=Value.int .i64) (h1:=fun _=>rfl) h (i:Int) 0;rw [Int.toNat_natCast] at h2 h3;obtain ⟨h4,h5⟩:=ih _ _ (i + 1) (by rw [List.length_set];omega) h2;have e:W.setCells g i (List.replicate (m + 1) (.int .i64 0))=(W.setCell ⟨g,i,none⟩ (.int .i64 0)).setCells g (i + 1) (List.replicate m (.int .i64 0)):=rfl;rw [e];refine ⟨?_,h3.trans h5⟩
  have e2:(xs.set i 0).take (i + 1) ++ List.replicate m 0=xs.take i ++ List.replicate (m + 1) 0:=by
   rw [List.take_set,List.replicate_succ,List.take_succ_eq_append_getElem (by omega),List.set_append_right _ _ (by rw [List.length_take];omega),List.length_take,Nat.min_eq_left (by omega),Nat.sub_self,List.set_cons_zero,List.append_assoc]
   rfl
  rw [← e2];exact h4
theorem Jy (g:Nat) (lb:Array Value) (p:Int→Bool) (eg:∀ args w,(callFunc g args).run Try.prog w = .ok (.enter g args) w) (A0:Option Addr) (c0:Nat) (l0:List Int) (w:World) (Hi:Kd.C (Kd.int .i64) w A0 l0.length l0) (hc0:l0.length ≤ c0)
  (hp:∀ (W:World) (x:Int),Below w.heap.size w W→Calls Try.prog g (#[(.int .i64 x)] ++ lb) W fun e w'=>e = .returned (.bool (p x))∧Below W.heap.size W w') :
  Calls Try.prog 105 #[.slice A0 l0.length c0,.func (.func g) #[] lb] w fun e w'=>(e = .returned (.int .i64 (-1))∧l0.any p=false ∨ ∃ i:Nat,i < l0.length∧e = .returned (.int .i64 i)∧p (rd l0 (i:Int))=true∧(l0.take i).any p=false)∧Below w.heap.size w w':=by
 have BV:=Hi.2.1;have ak:=aa.mk Hi;have oy:=aa.mk hc0;have HP:=aa.mk hp;clear Hi hc0 hp;go_enter Try.func105,Try.ntmps105;go_wp2
 go_loopg [5,8] l0.length (fun gg _ s8 wr=>∃ kk:Nat,kk ≤ l0.length∧l0.length - kk ≤ gg∧s8 = .int .i64 kk∧aa (Below w.heap.size w wr)∧aa ((l0.take kk).any p=false))
 case atStart=>exact ⟨0,Nat.zero_le _,by omega,rfl,⟨Below.refl _ w⟩,⟨by simp⟩⟩
 case round =>
  (try clear BW);(try clear HA);obtain ⟨kk,hkk,hg,rfl,BW,HA⟩:=hrel
  by_cases hlt:kk < l0.length
  ·have p1:0 ≤ (kk:Int):=by omega
   have q1:(kk:Int) < (l0.length:Int):=by omega
   obtain ⟨ad,e1,hx0⟩:=Kd.Ld ak.out (kk:Int) p1 q1;cases e1;simp only [Int.toNat_natCast] at hx0;replace hx0:=(BW.out.cell (World.block_lt_of_cell? w _ hx0)).trans hx0;have hcall:=HP.out wr (rd l0 (kk:Int)) BW.out;cases hq:p (rd l0 (kk:Int)) with
   | true =>
    rw [hq] at hcall;have HQ:=aa.mk hq;clear hq;go_wp2_with (go_at_fn g;refine hcall.mono ?_;rintro e w1 ⟨rfl,Ko⟩);go_ret;exact ⟨Or.inr ⟨kk,hlt,rfl,HQ.out,HA.out⟩,BW.out.trans (Ko.mono BW.out.size)⟩
   | false =>
    rw [hq] at hcall;go_wp2_with (go_at_fn g;refine hcall.mono ?_;rintro e w1 ⟨rfl,Ko⟩)
    go_roundg (l0.length - (kk + 1))
    case measure=>omega
    case rel=>exact ⟨kk + 1,by omega,by omega,by go_num,⟨BW.out.trans (Ko.mono BW.out.size)⟩,⟨Pn (d:=0) hlt HA.out hq⟩⟩
  ·have BR:¬ (kk:Int) < (l0.length:Int):=by omega
   have he:kk=l0.length:=by omega
   subst he;go_wp2;go_ret;exact ⟨Or.inl ⟨rfl,by have h_:=HA.out;rw [List.take_length] at h_;simpa using h_⟩,BW.out⟩
def wL (l xs:List Int) (p:Int→Bool) (i j:Nat):Prop:=i < j∧j ≤ l.length∧xs.length=l.length∧xs.take i=(l.take j).filter (fun x=>!p x)∧xs.drop j=l.drop j
theorem wL.keep {l xs:List Int} {p:Int→Bool} {i j:Nat} (h:wL l xs p i j) (hj:j < l.length) (hp:p (rd l (j:Int))=false):wL l (xs.set i (rd l (j:Int))) p (i + 1) (j + 1):=by
 obtain ⟨h1,h2,h3,h4,h5⟩:=h;rw [uh hj] at hp ⊢;refine ⟨by omega,by omega,by rw [List.length_set];exact h3,?_,?_⟩
 ·rw [List.take_succ_eq_append_getElem (show j < l.length from hj),List.filter_append,← h4];rw [List.take_set,List.take_succ_eq_append_getElem (by omega),List.set_append_right _ _ (by rw [List.length_take];omega),List.length_take,Nat.min_eq_left (by omega),Nat.sub_self,List.set_cons_zero];simp [hp]
 ·rw [List.drop_set_of_lt (by omega)];have e1:xs.drop (j + 1)=(xs.drop j).drop 1:=by rw [List.drop_drop]
  have e2:l.drop (j + 1)=(l.drop j).drop 1:=by rw [List.drop_drop]
  rw [e1,e2,h5]
theorem wL.skip {l xs:List Int} {p:Int→Bool} {i j:Nat} (h:wL l xs p i j) (hj:j < l.length) (hp:p (rd l (j:Int))=true):wL l xs p i (j + 1):=by
 obtain ⟨h1,h2,h3,h4,h5⟩:=h;rw [uh hj] at hp;refine ⟨by omega,by omega,h3,?_,?_⟩
 ·rw [List.take_succ_eq_append_getElem (show j < l.length from hj),List.filter_append,← h4];simp [hp]
 ·have e1:xs.drop (j + 1)=(xs.drop j).drop 1:=by rw [List.drop_drop]
  have e2:l.drop (j + 1)=(l.drop j).drop 1:=by rw [List.drop_drop]
  rw [e1,e2,h5]
theorem wL.at_ {l xs:List Int} {p:Int→Bool} {i j:Nat} (h:wL l xs p i j) (hj:j < l.length):xg 0 xs (j:Int)=rd l (j:Int):=by
 obtain ⟨h1,h2,h3,h4,h5⟩:=h;have:=congrArg List.head? h5;rw [List.head?_drop,List.head?_drop] at this;simp [rd,xg,List.getD_eq_getElem?_getD,this]
theorem yt {l:List Int} {p:Int→Bool} (h:l.any p=false):l.filter (fun x=>!p x)=l:=by
 rw [List.filter_eq_self];intro x hx;have:=List.any_eq_false.1 h x hx
 simpa using this
theorem OB (g:Nat) (lb:Array Value) (p:Int→Bool) (eg:∀ args w,(callFunc g args).run Try.prog w = .ok (.enter g args) w) (P_:Nat→Prop) (A:Option Addr) (c:Nat) (l:List Int) (base:Nat) (w0 w:World) (hB:Below base w0 w) (k9:base ≤ w.heap.size) (ho:Kd.R (Kd.int .i64) 3 w base P_ (.slice A l.length c) l)
  (hp:∀ (W:World) (x:Int),Kept w W P_→Calls Try.prog g (#[(.int .i64 x)] ++ lb) W fun e w'=>e = .returned (.bool (p x))∧Below W.heap.size W w') :
  Calls Try.prog 74 #[.slice A l.length c,.func (.func g) #[] lb] w fun e w'=>e = .returned (.slice A (l.filter (fun x=>!p x)).length c)∧Kd.R (Kd.int .i64) 3 w' base P_ (.slice A (l.filter (fun x=>!p x)).length c) (l.filter (fun x=>!p x))∧Below base w0 w'∧Kept w w' P_:=by
 obtain ⟨hn,hnc,hC⟩:=Kd.Ua ho;have BV:=hC.2.1;have HP:=aa.mk hp;have HI:=aa.mk (Jy g lb p eg A c l w hC hnc (fun W x hb=>hp W x (Kept.xj hb P_)));have HO:=aa.mk ho;have HB:=aa.mk hB;have SU:=aa.mk k9;clear hp hC ho hB hn;go_enter Try.func74,Try.ntmps74
 go_upto_region 2 with (go_at_call 105;refine HI.out.mono ?_;rintro e w1 ⟨hi,Ko⟩;have Vo:=aa.mk Ko;clear Ko;(rcases hi with ⟨rfl,MJ⟩|⟨i0,hi0,rfl,hpi,MJ⟩))
 ·have HN:=aa.mk (yt MJ);clear MJ;go_wp2;go_ret;rw [HN.out];exact ⟨rfl,Kd.ec HO.out Vo.out,HB.out.trans (Vo.out.mono k9),Kept.xj Vo.out P_⟩
 ·have E7:((i0:Int) == -1)=false:=beq_eq_false_iff_ne.2 (by omega)
  have HD0:=aa.mk (show wL l l p i0 (i0 + 1) from ⟨by omega,by omega,rfl,by
   rw [uh hi0] at hpi;rw [List.take_succ_eq_append_getElem hi0,List.filter_append,yt MJ]
   simp [hpi],rfl⟩)
  have pG:=aa.mk (Kd.ec HO.out Vo.out);have Li:=aa.mk (HB.out.trans (Vo.out.mono k9));have Kf:=aa.mk (Kept.xj Vo.out P_);clear hpi MJ HI HO HB Vo;go_wp2
  go_loopg [5,6] l.length (fun gg v5 v6 wr=>∃ (i j:Nat) (xs:List Int),v5 = .int .i64 i∧v6 = .int .i64 j∧l.length - j ≤ gg∧aa (wL l xs p i j)∧aa (Kd.R (Kd.int .i64) 3 wr base P_ (.slice A l.length c) xs)∧aa (Below base w0 wr)∧aa (Kept w wr P_))
  case atStart=>exact ⟨i0,i0 + 1,l,rfl,by go_num,by omega,HD0,pG,Li,Kf⟩
  case round =>
   clear HD0 pG Li Kf E7 hi0;(try clear HD);(try clear HO);(try clear HB);(try clear HK);obtain ⟨i,j,xs,rfl,rfl,hg,HD,HO,HB,HK⟩:=hrel;obtain ⟨d1,d2,d3,_,_⟩:=HD.out;have Q_:=aa.mk d3;clear d3
   by_cases hlt:j < l.length
   ·have p1:0 ≤ (j:Int):=by omega
    have p2:(j:Int) < (l.length:Int):=by omega
    have ek:decide ((j:Int) < (l.length:Int))=true:=decide_eq_true p2;obtain ⟨gb,cb,he,-⟩:=Kd.qj (by exact HO.out) (by have:=Q_.out;omega);have H8:A=some ⟨gb,0,none⟩:=by injection he
    subst H8;clear he;obtain ⟨hx0,-⟩:=Kd.Dg (enc:=Value.int .i64) (h1:=fun _=>rfl) 0 HO.out (j:Int) p1 (by omega);rw [HD.out.at_ hlt,Int.toNat_natCast] at hx0;have hcall:=HP.out wr (rd l (j:Int)) HK.out;cases hq:p (rd l (j:Int)) with
    | true =>
     rw [hq] at hcall;have OU:=aa.mk (HD.out.skip hlt hq);clear hq;go_wp2_with (go_at_fn g;refine hcall.mono ?_;rintro e w7 ⟨rfl,VM⟩;have KU:=aa.mk (Kd.ec HO.out VM);have mO:=aa.mk (HB.out.trans (VM.mono (Nat.le_trans SU.out HK.out.1)));have V4:=aa.mk (HK.out.below VM);clear VM)
     go_roundg (l.length - (j + 1))
     case measure=>omega
     case rel=>exact ⟨i,j + 1,xs,rfl,by go_num,by omega,OU,KU,mO,V4⟩
    | false =>
     rw [hq] at hcall;have OU:=aa.mk (HD.out.keep hlt hq);clear hq
     go_upto_region 9 with (go_at_fn g;refine hcall.mono ?_;rintro e w7 ⟨rfl,VM⟩;have KU:=aa.mk (Kd.ec HO.out VM);have mO:=aa.mk (HB.out.trans (VM.mono (Nat.le_trans SU.out HK.out.1)));have V4:=aa.mk (HK.out.below VM);clear VM hx0)
     obtain ⟨Hi,LV⟩:=Kd.Dg (enc:=Value.int .i64) (h1:=fun _=>rfl) 0 KU.out (i:Int) (by omega) (by omega);have hbg:=(Kd.Wf KU.out) gb rfl;have hpg:=KU.out.1 gb rfl;have dO:=aa.mk (And.intro hbg hpg);have PN:=aa.mk (Kd.vk (enc:=Value.int .i64) (h1:=fun _=>rfl) KU.out (i:Int) (rd l (j:Int)));simp only [Int.toNat_natCast] at Hi LV;rw [Int.toNat_natCast] at PN;clear hbg hpg;go_wp2
     go_roundg (l.length - (j + 1))
     case measure=>omega
     case rel =>
      exact ⟨i + 1,j + 1,_,by go_num,by go_num,by omega,OU,⟨PN.out.1⟩,⟨mO.out.grown PN.out.2 (Nat.le_trans SU.out V4.out.1) (fun k_ e=>by injection e with e;rw [← e];exact dO.out.1)⟩,⟨Kept.Af PN.out.2 V4.out (fun k_ e=>Or.inl (by injection e with e;rw [← e];exact dO.out.2))⟩⟩
   ·obtain rfl:j=l.length:=by omega
    have BR:decide ((l.length:Int) < (l.length:Int))=false:=decide_eq_false (by omega);obtain ⟨A',c',he,_⟩:=Kd.qj (by exact HO.out) (by have:=Q_.out;omega);have H8:A=some ⟨A',0,none⟩:=by injection he
    subst H8;clear he;have hic:¬ c=i:=by omega
    have pL:¬ i=c:=by omega
    have Ru:∀ ty,(Builtin.clear_ #[22] ty #[.slice (some ⟨A',i,none⟩) (l.length - i) (c - i)]).run Try.prog wr = .ok (.tuple #[]) (wr.setCells A' i (List.replicate (l.length - i) (.int .i64 0))) :=
     fun ty=>Go.Lib.run_clear_slice wr 22 3 ty (.int .i64 0) Try.underlying22 (fun w=>by go_simp) rfl rfl A' i _ _ (by omega) (fun t ht=>by
      have:=(Kd.Dg (enc:=Value.int .i64) (h1:=fun _=>rfl) 0 HO.out ((i + t:Nat):Int) (by omega) (by omega)).1;rw [Int.toNat_natCast] at this;rw [this]
      rfl) (fun t ht=>by
      have:=(Kd.Dg (enc:=Value.int .i64) (h1:=fun _=>rfl) 0 HO.out ((i + t:Nat):Int) (by omega) (by omega)).2
      rwa [Int.toNat_natCast] at this)
    have N_:=aa.mk (yN (l.length - i) wr xs i (by have:=Q_.out;omega) HO.out);have dO:=aa.mk (And.intro ((Kd.Wf HO.out) A' rfl) (HO.out.1 A' rfl));go_wp2;go_ret;obtain ⟨e1,e2,e3,e4,e5⟩:=HD.out;rw [List.take_length] at e4;have e6:(l.filter (fun x=>!p x)).length=i:=by rw [← e4,List.length_take];omega
    rw [e6];refine ⟨rfl,?_,HB.out.grown N_.out.2 (Nat.le_trans SU.out HK.out.1) (fun k_ e=>by injection e with e;rw [← e];exact dO.out.1),Kept.Af N_.out.2 HK.out (fun k_ e=>Or.inl (by injection e with e;rw [← e];exact dO.out.2))⟩;have h:=Kd.Uz N_.out.1 (m:=i) (by rw [List.length_append,List.length_take];omega)
    rwa [List.take_append_of_le_length (by rw [List.length_take];omega),List.take_take,Nat.min_self,e4] at h
attribute [local go_sem] fh bh Zh Yh mg lg dh ah
theorem nW (d:Nat) (w:World) (x0 y0:Int) (x1 y1:Int) (x2 y2:Int) (x3 y3:Int) (x4 y4:Int) :
  (Op.equalIn (d + 2) 67 (.agg #[.int .i64 x0,.int .i64 x1,.int .i64 x2,.int .i64 x3,.int .i64 x4]) (.agg #[.int .i64 y0,.int .i64 y1,.int .i64 y2,.int .i64 y3,.int .i64 y4])).run Try.prog w = .ok (x0 == y0 && (x1 == y1 && (x2 == y2 && (x3 == y3 && (x4 == y4))))) w:=by
 refine TJ Try.underlying67 (by kernel_rfl) ?_;refine Vi (by rfl) (by go_simp;rfl) (by go_simp;rfl) (by go_simp) ?_;refine Vi (by rfl) (by go_simp;rfl) (by go_simp;rfl) (by go_simp) ?_;refine Vi (by rfl) (by go_simp;rfl) (by go_simp;rfl) (by go_simp) ?_;refine Vi (by rfl) (by go_simp;rfl) (by go_simp;rfl) (by go_simp) ?_;exact LB (by rfl) (by go_simp;rfl) (by go_simp;rfl) (by go_simp)
theorem vw (l:List Int) (a:Int) (hl:l.length ≤ 9223372036854775807):∃ k r,Bb.f k l a=some r∧(r ≥ 0 ↔ a ∈ l):=by
 have key:∀ d i:Nat,i + d=l.length→∃ k r,Bb.l0 k l a (l.length:Int) (i:Int)=some r∧(r ≥ 0 ↔ a ∈ l.drop i):=by
  intro d
  induction d with
  | zero =>
   intro i hi;refine ⟨1,-1,?_,?_⟩
   ·rw [Bb.l0,if_neg (by omega)]
   ·rw [List.drop_of_length_le (by omega)];simp
  | succ d ih =>
   intro i hi;obtain ⟨k,r,h1,h2⟩:=ih (i + 1) (by omega);have hlt:i < l.length:=by omega
   have hr:rd l (i:Int)=l[i]:=by simp [rd,List.getD_eq_getElem?_getD,hlt]
   by_cases e:a=l[i]
   ·refine ⟨k + 1,i,?_,?_⟩
    ·rw [Bb.l0,if_pos (by omega),if_pos (by omega),if_pos (by omega),hr,if_pos e]
    ·rw [List.drop_eq_getElem_cons hlt,e];exact ⟨fun _=>List.mem_cons_self,fun _=>by omega⟩
   ·refine ⟨k + 1,r,?_,?_⟩
    ·rw [Bb.l0,if_pos (by omega),if_pos (by omega),if_pos (by omega),hr,if_neg e,show wrap64 ((i:Int) + 1)=((i + 1:Nat):Int) from by unfold wrap64;omega,h1]
    ·rw [List.drop_eq_getElem_cons hlt,h2,List.mem_cons];exact ⟨Or.inr,fun h=>h.resolve_left e⟩
 obtain ⟨k,r,h1,h2⟩:=key l.length 0 (by omega);exact ⟨k,r,h1,by simpa using h2⟩
theorem Dz (A0:Option Addr) (c0:Nat) (l0:List Int) (a1:Int) (w:World) (Hi:Kd.C (Kd.int .i64) w A0 l0.length l0) (hc0:l0.length ≤ c0) :
  Calls Try.prog 83 #[.slice A0 l0.length c0,.int .i64 a1] w fun e w'=>e = .returned (.bool (decide (a1 ∈ l0)))∧Sb w w':=by
 obtain ⟨k,r,h1,h2⟩:=vw l0 a1 Hi.2.1
 have h:Gb.f k l0 a1=some (decide (a1 ∈ l0)):=by
  unfold Gb.f;rw [h1];exact congrArg some (decide_eq_decide.2 h2)
 exact Gb.calls k A0 c0 l0 a1 _ w Hi hc0 h
def PP (w:World) (N p r q:Nat) (im m:Array Value) (v0:Value) (s0:List Int) (v4:Value) (gs:List Int) (W:World):Prop :=
 Below w.heap.size w W∧W.heap[p]? = some (.cells im 30 (0,0))∧W.heap[r]? = some (.cells #[.slice none 0 0,.int .i64 0,.int .i64 0,.slice none 0 0] 30 (0,0))∧W.heap[q]? = some (.cells m 30 (0,0)) ∧
 Kd.R (Kd.int .i64) 3 W w.heap.size (fun k=>k < N) v0 s0∧Kd.R (Kd.int .i64) 3 W w.heap.size (fun k=>k < N) v4 gs∧(w.heap.size ≤ q∧w.heap.size ≤ r∧p < N∧q < N∧r < N∧p ≠ q∧r ≠ q∧w.heap.size ≤ N∧N ≤ W.heap.size)
section
variable {w W W':World} {N p r q:Nat} {im m:Array Value} {v0 v4:Value} {s0 gs:List Int}
theorem PP.up (h:PP w N p r q im m v0 s0 v4 gs W) (hb:Below w.heap.size w W') (hk:Kept W W' (fun k=>N ≤ k)):PP w N p r q im m v0 s0 v4 gs W':=by
 obtain ⟨h1,h2,h3,h4,h5,h6,b1,b2,b3,b4,b5,b6,b7,b8,b9⟩:=h;exact ⟨hb,jg h2 hk (by omega),jg h3 hk (by omega),jg h4 hk (by omega),Kd.gq h5 hk (fun k a b=>by omega),Kd.gq h6 hk (fun k a b=>by omega),b1,b2,b3,b4,b5,b6,b7,b8,Nat.le_trans b9 hk.1⟩
theorem PP.below (h:PP w N p r q im m v0 s0 v4 gs W) (hb:Below W.heap.size W W'):PP w N p r q im m v0 s0 v4 gs W':=h.up (Ga h.1 hb) (Kept.xj hb _)
theorem PP.alloc (h:PP w N p r q im m v0 s0 v4 gs W) (o:Obj):PP w N p r q im m v0 s0 v4 gs (W.alloc o):=h.below (ia (Below.refl _ _) o)
theorem PP.grown {row:Option Nat} (h:PP w N p r q im m v0 s0 v4 gs W) (hg:W.grownBy W' row) (hr:∀ k,row=some k→N ≤ k):PP w N p r q im m v0 s0 v4 gs W' :=
 h.up (Ep h.1 row h.1.size hg (fun k e=>Nat.le_trans h.2.2.2.2.2.2.2.2.2.2.2.2.2.1 (hr k e))) (Kept.Af hg (Kept.refl _ _) (fun k e=>Or.inl (hr k e)))
theorem PP.set (h:PP w N p r q im m v0 s0 v4 gs W) (j:Nat) (u:Value):PP w N p r q im (m.setIfInBounds j u) v0 s0 v4 gs (W.setCell ⟨q,j,none⟩ u):=by
 obtain ⟨h1,h2,h3,h4,h5,h6,b1,b2,b3,b4,b5,b6,b7,b8,b9⟩:=h;exact ⟨h1.setCell b1 _,ld h2 b6 u,ld h3 b7 u,Kz h4 j u,Kd.DP h5 h4 (by decide) j u,Kd.DP h6 h4 (by decide) j u,b1,b2,b3,b4,b5,b6,b7,b8,by simpa using b9⟩
end
attribute [local go_sem high] nW
end Go.Proofs.Ytoomcmaifgkkfaa.P
end
section
namespace Go.Proofs.Ytoomcmaifgkkfaa.P
open Go.RowKit Go.Proofs.Aa.Db Go.Proofs.Aa.Tc Go.Proofs.Aa.ke
set_option linter.unusedVariables false
set_option linter.unusedSimpArgs false
theorem xH {W1 W:World} {base g n cap i:Nat} {P:Nat→Prop} {D:List (List Int)} {v:Value} {xs:List Int}
  (h:Kd.S (Kd.slice 3 (Kd.int .i64)) 22 W1 base P (.slice (some ⟨g,0,none⟩) n cap) D) (hb:Below W1.heap.size W1 W) (hi:i < n)
  (hx:Kd.R (Kd.int .i64) 3 W base (fun k=>P k∧W1.heap.size ≤ k) v xs) :
  Kd.S (Kd.slice 3 (Kd.int .i64)) 22 (W.setCell ⟨g,i,none⟩ v) base P (.slice (some ⟨g,0,none⟩) n cap) (D.set i xs)∧W.grownBy (W.setCell ⟨g,i,none⟩ v) (some g):=by
 obtain ⟨dm,c,Ru,hM,yw,mP,Uy,hH⟩:=Kd.Bu h ([]:List Int) (i:Int) (by omega) (by omega);have hH2:=Kd.JN (Kd.fG hH) hb;have OV:c.length=1:=Ru
 obtain ⟨u,rfl⟩:∃ u,c=[u]:=by
  rcases c with _|⟨u,_|⟨u2,c⟩⟩
  ·simp at OV
  ·exact ⟨u,rfl⟩
  ·simp at OV
 have hs:=Kd.vT (d:=Kd.slice 3 (Kd.int .i64)) hH2 (by omega) (by omega) (seg:=[v]) (j:=0) (show 0 + 1 ≤ 1 from by decide) (x':=xs) (Yg:=fun k=>P k∧W1.heap.size ≤ k) (show (Kd.slice 3 (Kd.int .i64)).M W base (fun k=>P k∧W1.heap.size ≤ k) xs [v] from ⟨v,rfl,hx⟩) (fun k hk=>Or.inr hk);rw [Int.toNat_natCast,show i * (Kd.slice 3 (Kd.int .i64)).sz + 0=i from by show i * 1 + 0=i;omega] at hs;exact hs
theorem eC {W:World} {base g n cap i:Nat} {P:Nat→Prop} {D:List (List Int)} (h:Kd.S (Kd.slice 3 (Kd.int .i64)) 22 W base P (.slice (some ⟨g,0,none⟩) n cap) D) (hi:i < n) :
  ∃ (A:Option Addr) (c:Nat),W.cell? ⟨g,i,none⟩=some (.slice A (nk D i).length c)∧W.frozen? ⟨g,i,none⟩=false∧(nk D i).length ≤ c∧Kd.C (Kd.int .i64) W A (nk D i).length (nk D i):=by
 obtain ⟨dm,c,Ru,hM,yw,mP,Uy,hH⟩:=Kd.Bu h ([]:List Int) (i:Int) (by omega) (by omega);rw [Int.toNat_natCast] at hM yw mP;obtain ⟨A,cc,hc,hl,hC⟩:=Kd.af _ hM;have h1:=yw 0 _ (by rw [hc];rfl);have h2:=mP 0;rw [show i * (Kd.slice 3 (Kd.int .i64)).sz + 0=i from by show i * 1 + 0=i;omega] at h1 h2;exact ⟨A,cc,h1,h2,hl,hC⟩
structure ax (w wA:World) (b4 g cap n:Nat) (D:List (List Int)) (wr:World):Prop where
 bl:Below w.heap.size w wr
 k:Kept wA wr (fun k=>k=g)
 v:wr.heap[b4]? = some (.cells #[.slice (some ⟨g,0,none⟩) n cap] 53 (0,0))
 row:Kd.S (Kd.slice 3 (Kd.int .i64)) 22 wr w.heap.size (fun k=>k ≠ b4) (.slice (some ⟨g,0,none⟩) n cap) D
 ne:b4 ≠ g
 gb:w.heap.size ≤ g
section
variable {w wA wr W:World} {b4 g cap n:Nat} {D:List (List Int)}
theorem ax.below (h:ax w wA b4 g cap n D wr) (hb:Below wr.heap.size wr W):ax w wA b4 g cap n D W :=
 ⟨Ga h.bl hb,h.k.below hb,Ta h.v hb,Kd.ki h.row hb,h.ne,h.gb⟩
theorem ax.put (h:ax w wA b4 g cap n D wr) (hb:Below wr.heap.size wr W) {i:Nat} (hi:i < n) {v:Value} {xs:List Int} (hx:Kd.R (Kd.int .i64) 3 W w.heap.size (fun k=>k ≠ b4∧wr.heap.size ≤ k) v xs):ax w wA b4 g cap n (D.set i xs) (W.setCell ⟨g,i,none⟩ v):=by
 obtain ⟨h1,h2⟩:=xH h.row hb hi hx;have hw:=h.below hb
 exact ⟨hw.bl.grown h2 hw.bl.size (fun k e=>by injection e with e;rw [← e];exact h.gb),Kept.Af h2 hw.k (fun k e=>Or.inl (by injection e with e;exact e.symm)),
  (Below.heap_setCell W ⟨g,i,none⟩ v b4 hw.ne).trans hw.v,h1,hw.ne,hw.gb⟩
theorem ax.cell (h:ax w wA b4 g cap n D wr):wr.cell? ⟨b4,0,none⟩=some (.slice (some ⟨g,0,none⟩) n cap):=(ya h.v 0).trans rfl
theorem ax.at (h:ax w wA b4 g cap n D wr) {i:Nat} (hi:i < n):∃ (A:Option Addr) (c:Nat),wr.cell? ⟨g,i,none⟩=some (.slice A (nk D i).length c)∧wr.frozen? ⟨g,i,none⟩=false∧(nk D i).length ≤ c∧Kd.C (Kd.int .i64) wr A (nk D i).length (nk D i):=eC h.row hi
theorem ax.G9 (h:ax w wA b4 g cap n D wr):g < wr.heap.size:=Kd.L_ h.row g rfl
theorem ax.blt (h:ax w wA b4 g cap n D wr):b4 < wr.heap.size:=Te h.v
end
theorem QC (EH b4 q9 g n cap b t:Nat) (D:List (List Int)) (A:Option Addr) (c:Nat) (r:Int) (W:World) (qD:b < n)
  (E9:W.cell? ⟨EH,0,none⟩=some (.int .i64 t)) (h4:W.cell? ⟨b4,0,none⟩=some (.slice (some ⟨g,0,none⟩) n cap)) (h9:W.cell? ⟨q9,0,none⟩=some (.int .i64 b))
  (hr:W.cell? ⟨g,b,none⟩=some (.slice A (nk D b).length c)) (hl:(nk D b).length ≤ c) (hC:Kd.C (Kd.int .i64) W A (nk D b).length (nk D b)) :
  Calls Try.prog 109 (#[.int .i64 r] ++ #[.pointer (some ⟨EH,0,none⟩),.pointer (some ⟨b4,0,none⟩),.pointer (some ⟨q9,0,none⟩)]) W fun e w'=>e = .returned (.bool (Ct D b t r))∧Below W.heap.size W w':=by
 have HC:=aa.mk (Dz A c (nk D b) r W hC hl);have p0:0 ≤ (b:Int):=by omega
 have p1:(b:Int) < (n:Int):=by omega
 clear hC hl
 by_cases h:r=(t:Int)
 ·have hb:(r != (t:Int))=false:=by rw [h];exact bne_self_eq_false' (t:Int)
  have HD:=aa.mk (show Ct D b t r=false from if_pos h);clear h;go_enter Try.func109,Try.ntmps109;go_wp2_with (first|(go_at_call 83;(refine HC.out.mono ?_);rintro e xU ⟨rfl,⟨⟨nd,rfl⟩⟩⟩));go_ret;exact ⟨by rw [HD.out];rfl,Below.refl _ _⟩
 ·have hb:(r != (t:Int))=true:=bne_iff_ne.2 h;have HD:=aa.mk (show Ct D b t r = !decide (r ∈ nk D b) from if_neg h);clear h;go_enter Try.func109,Try.ntmps109;go_wp2_with (first|(go_at_call 83;(refine HC.out.mono ?_);rintro e xU ⟨rfl,⟨⟨nd,rfl⟩⟩⟩));go_ret;exact ⟨by rw [HD.out];rfl,ga (Below.refl _ _) _⟩
end Go.Proofs.Ytoomcmaifgkkfaa.P
end
section
namespace Go.Proofs.Ytoomcmaifgkkfaa.P
open Go.RowKit Go.Proofs.Aa.Db Go.Proofs.Aa.Tc Go.Proofs.Aa.ke
set_option linter.unusedVariables false
set_option linter.unusedSimpArgs false
noncomputable def Fi.f (Ma:List Int) (Oa:Int) (Pa:Int) (Na:Int) (oa:List (Wd)):Option (List (List Int)):=open Classical in if ze oa then some (om oa) else none
noncomputable def kX (bs:List Wd) (D:List (List Int)) (i:Nat):Prop:=∀ b ∈ (mc bs).take i,∀ t ∈ De bs b.toNat,sX D b.toNat t.toNat
def jX (D:List (List Int)) (b:Nat) (ts:List Int) (j:Nat):Prop:=∀ t ∈ ts.take j,sX D b t.toNat
theorem kX.next {bs:List Wd} {D:List (List Int)} {i:Nat} (h:kX bs D i) (hi:i < (mc bs).length) (hj:jX D ((mc bs)[i]).toNat (De bs ((mc bs)[i]).toNat) (De bs ((mc bs)[i]).toNat).length):kX bs D (i + 1):=by
 intro b hb t ht;rw [List.take_succ_eq_append_getElem hi,List.mem_append,List.mem_singleton] at hb
 rcases hb with hb|hb
 ·exact h b hb t ht
 ·subst hb;exact hj t (by rw [List.take_length];exact ht)
theorem jX.next {D:List (List Int)} {b:Nat} {ts:List Int} {j:Nat} (h:jX D b ts j) (hj:j < ts.length) (ho:sX D b (ts[j]).toNat):jX D b ts (j + 1):=by
 intro t ht;rw [List.take_succ_eq_append_getElem hj,List.mem_append,List.mem_singleton] at ht
 rcases ht with ht|ht
 ·exact h t ht
 ·subst ht;exact ho
structure zT (bs:List Wd) (D:List (List Int)) (m:Nat) (a:Bool) (i:Nat):Prop where
 inv:xN bs D
 le:cv D ≤ m
 lt:a=true→cv D < m
 so:a=false→kX bs D i
theorem zT.keep {bs:List Wd} {D:List (List Int)} {m:Nat} {a:Bool} {i:Nat} (h:zT bs D m a i) (hE:ze bs) (hi:i < (mc bs).length) {t:Int} (ht:t ∈ De bs ((mc bs)[i]).toNat)
  (hlt:(jk D ((mc bs)[i]).toNat t.toNat).length < (nk D t.toNat).length):zT bs (D.set t.toNat (jk D ((mc bs)[i]).toNat t.toNat)) m true i:=by
 obtain ⟨x0,xr⟩:=(ug hE _).1 (List.getElem_mem hi);obtain ⟨t0,t1⟩:=hE.2.2 _ (Fo hE xr) t ht;have hs:=DA D t.toNat (jk D ((mc bs)[i]).toNat t.toNat) (by rw [h.inv.len];omega);have:=h.le;exact ⟨h.inv.step hE xr ht,by omega,fun _=>by omega,fun e=>by cases e⟩
theorem IG {P:Nat→Prop} {w1:World} {base n B:Nat} {v:Value} (h:Kd.S (Kd.slice 3 (Kd.int .i64)) 22 w1 base P v (List.replicate ((n:Int)).toNat [])) (hn:0 < n) (hat:∃ b,v.ownBlock=some b∧B ≤ b) :
  ∃ g cap,v = .slice (some ⟨g,0,none⟩) n cap∧B ≤ g∧g < w1.heap.size∧Kd.S (Kd.slice 3 (Kd.int .i64)) 22 w1 base P (.slice (some ⟨g,0,none⟩) n cap) (List.replicate n []):=by
 rw [Int.toNat_natCast] at h;obtain ⟨g,cap,hv,hb,hl,-⟩:=Kd.Pw h (by rw [List.length_replicate];exact hn);rw [List.length_replicate] at hv;obtain ⟨b,h1,h2⟩:=hat;rw [hv] at h1;obtain rfl:g=b:=by simpa [Value.ownBlock] using h1
 exact ⟨g,cap,hv,h2,hl,hv ▸ h⟩
theorem ax.fresh {w wA wd w1:World} {b4 g cap n:Nat} {D:List (List Int)} {ok:Nat→Prop} {v:Value} {xs:List Int} (h:ax w wA b4 g cap n D wd) (ho:Kd.R (Kd.int .i64) 3 w1 wd.heap.size ok v xs):Kd.R (Kd.int .i64) 3 w1 w.heap.size (fun k=>k ≠ b4∧wd.heap.size ≤ k) v xs :=
 Kd.Xc (Kd.Eb (Kd.We ho) (fun k hk=>⟨by have:=h.blt;have:=hk.2.1;omega,hk.2.1⟩)) h.bl.size
theorem MA {bs:List Wd} (hE:ze bs) {i:Nat} (hi:i < (mc bs).length) {A:Option Addr} {W:World} (hC:Kd.C (Kd.int .i64) W A (mc bs).length (mc bs)) :
  ∃ (ad:Addr) (b:Nat),A=some ad∧(mc bs)[i]=(b:Int)∧b < bs.length∧Em (De bs) b∧W.cell? (ad.add i)=some (.int .i64 (b:Int)):=by
 obtain ⟨x0,xr⟩:=(ug hE _).1 (List.getElem_mem hi);obtain ⟨ad,e1,hx⟩:=Kd.Ld hC (i:Int) (by omega) (by omega);rw [Int.toNat_natCast,uh hi] at hx;exact ⟨ad,((mc bs)[i]).toNat,e1,(Int.toNat_of_nonneg x0).symm,Fo hE xr,xr,by rw [Int.toNat_of_nonneg x0];exact hx⟩
theorem IQ {w wA Om Vt:World} {EH b4 q9 g cap n b tn ck:Nat} {D:List (List Int)} {Ak:Option Addr} {ok:Nat→Prop} (h:ax w wA b4 g cap n D Om) (E9:Om.heap[EH]? = some (.cells #[.int .i64 (tn:Int)] 3 (0,0))) (h9:Om.heap[q9]? = some (.cells #[.int .i64 (b:Int)] 3 (0,0)))
  (qD:b < n) (hbd:Below Om.heap.size Om Vt) (ho:Kd.R (Kd.int .i64) 3 Vt Om.heap.size ok (.slice Ak (nk D tn).length ck) (nk D tn)) :
  Calls Try.prog 74 #[.slice Ak (nk D tn).length ck,.func (.func 109) #[] #[.pointer (some ⟨EH,0,none⟩),.pointer (some ⟨b4,0,none⟩),.pointer (some ⟨q9,0,none⟩)]] Vt fun e w'=>e = .returned (.slice Ak (jk D b tn).length ck)∧Kd.R (Kd.int .i64) 3 w' Om.heap.size (fun _=>True) (.slice Ak (jk D b tn).length ck) (jk D b tn)∧Below Om.heap.size Om w':=by
 have hown:∀ k,(Value.slice Ak (nk D tn).length ck).ownBlock=some k→Om.heap.size ≤ k:=Kd.Wf ho;have fV:=Kd.mX h.row hbd;refine (OB 109 #[.pointer (some ⟨EH,0,none⟩),.pointer (some ⟨b4,0,none⟩),.pointer (some ⟨q9,0,none⟩)] (Ct D b tn) (enters_of Try.func109 (by kernel_rfl) rfl) (fun k=>some k=(Value.slice Ak (nk D tn).length ck).ownBlock) Ak ck (nk D tn) Om.heap.size Om Vt hbd hbd.size (Kd.Ji rfl ho) (fun W x hk=>?_)).mono ?_
 ·have l6:=Kd.Sz fV hk (fun k hk e=>by have:=hown k e.symm;have:=hk.2;omega);obtain ⟨A,c,hc,-,hl,hC⟩:=eC l6 qD;have hne:∀ q,q < Om.heap.size→¬ some q=(Value.slice Ak (nk D tn).length ck).ownBlock:=fun q hq e=>by have:=hown q e.symm;omega
  exact QC EH b4 q9 g n cap b tn D A c x W qD
   ((ya (jg (Ta E9 hbd) hk (hne _ (Te E9))) 0).trans rfl) ((ya (jg (Ta h.v hbd) hk (hne _ h.blt)) 0).trans rfl) ((ya (jg (Ta h9 hbd) hk (hne _ (Te h9))) 0).trans rfl) hc hl hC
 ·rintro e w' ⟨he,hr,hb,-⟩;exact ⟨he,Kd.Eb hr (fun _ _=>trivial),hb⟩
theorem FL {bs:List Wd} {D:List (List Int)} (h:xN bs D) (hn:bs.length ≤ 1048576) (k:Nat):(nk D k).length ≤ 1048576:=by
 obtain ⟨q,hq⟩:=h.U3 k;rw [hq];exact Nat.le_trans (List.length_filter_le _ _) (Nat.le_trans (Mn bs) hn)
theorem wE {bs:List Wd} (hE:ze bs) {b j:Nat} (hb:b < bs.length) (hj:j < (De bs b).length) {A:Option Addr} {W:World} (hC:Kd.C (Kd.int .i64) W A (De bs b).length (De bs b)) :
  ∃ (ad:Addr) (t:Nat),A=some ad∧(De bs b)[j]=(t:Int)∧t < bs.length∧W.cell? (ad.add j)=some (.int .i64 (t:Int)):=by
 obtain ⟨t0,t1⟩:=hE.2.2 b hb _ (List.getElem_mem hj);obtain ⟨ad,e1,hx⟩:=Kd.Ld hC (j:Int) (by omega) (by omega);rw [Int.toNat_natCast,uh hj] at hx;exact ⟨ad,((De bs b)[j]).toNat,e1,(Int.toNat_of_nonneg t0).symm,by omega,by rw [Int.toNat_of_nonneg t0];exact hx⟩
theorem Fi.calls (zb:Option Addr) (yb:Nat) (Ma:List Int) (Oa:Int) (Pa:Int) (Na:Int) (Ob:Option Addr) (Fb:Nat) (oa:List (Wd)) (r:List (List Int)) (w:World) (qd:Kd.C (Kd.int .i64) w zb Ma.length Ma) (Ad:Ma.length ≤ yb) (fe:Kd.C Km w Ob oa.length oa) (Fe:oa.length ≤ Fb) (h:Fi.f Ma Oa Pa Na oa=some r) :
  Calls Try.prog 82 #[.agg #[.slice zb Ma.length yb,.int .i64 Oa,.int .i64 Pa,.int .i64 Na,.slice Ob oa.length Fb]] w fun e w'=>∃ Di:Value,e = .returned (Di)∧Kd.S (Kd.slice 3 (Kd.int .i64)) 22 w' w.heap.size (fun _=>True) Di r∧Below w.heap.size w w':=by
 unfold Fi.f at h
 by_cases hE:ze oa
 case neg=>rw [if_neg hE] at h;cases h
 rw [if_pos hE] at h;obtain rfl:=Option.some.inj h;clear h;obtain ⟨R,hR,hRl,hRa⟩:=QJ (l0:=Ma) (p:=Oa) (v:=Pa) (s:=Na) hE;obtain ⟨ko,FV⟩:=Ev.rounds hR;have HO_:=aa.mk FV
 have ZX:=aa.mk (show Be.f R=some (mc oa) from by
  unfold Be.f
  rw [if_pos (by have:=hE.2.1;omega),hRa])
 have HE:=aa.mk hE;have hn0:0 < oa.length:=hE.1;have AR:oa.length ≤ 1048576:=hE.2.1;have HML:=aa.mk (Mn oa);have HN:=aa.mk (And.intro hn0 AR);clear hR hRl hRa FV hE;obtain ⟨W1,tf⟩:∃ W1,W1=w.alloc (.cells #[.slice zb Ma.length yb,.int .i64 Oa,.int .i64 Pa,.int .i64 Na,.slice Ob oa.length Fb] 45 (0,0)):=⟨_,rfl⟩;have HW:=aa.mk tf;have HB:=aa.mk (show Below w.heap.size w W1 by rw [tf];exact ia (Below.refl _ _) _);have HX:=aa.mk (show W1.heap[w.heap.size]? = some (.cells #[.slice zb Ma.length yb,.int .i64 Oa,.int .i64 Pa,.int .i64 Na,.slice Ob oa.length Fb] 45 (0,0)) by rw [tf];exact ij _ _);have ak:=aa.mk qd;have vv:=aa.mk fe;have Hx:=aa.mk Ad;have Gx:=aa.mk Fe;have hx0:=(ya HX.out 0).trans rfl;have hx1:=(ya HX.out 1).trans rfl;have hx2:=(ya HX.out 2).trans rfl;have ov:=(ya HX.out 3).trans rfl;have Tt:=(ya HX.out 4).trans rfl;clear tf qd fe Ad Fe hn0 AR;go_enter Try.func82,Try.ntmps82
 go_upto_region 1 with (fail)
 rw [← HW.out];clear HW
 go_upto_region 2 with (first|(go_at_call 78;(with_reducible refine (Gc.calls ko zb yb Ma Oa Pa Na Ob Fb oa R W1 (Kd.Za ak.out HB.out) Hx.out (Kd.Za vv.out HB.out) Gx.out HO_.out).mono ?_);rintro e w2 ⟨v2,rfl,ho,hb⟩;have VN:=aa.mk ho;have Li:=aa.mk (Ga HB.out hb);have bL:=aa.mk hb;have AH:=aa.mk (Ta HX.out hb);clear ho hb hx0 hx1 hx2 ov Tt)|(go_at_call 86;(with_reducible refine (Be.calls (fun _=>True) v2 R (mc oa) W1 w2 bL.out VN.out ZX.out).mono ?_);rintro e w3 ⟨v3,rfl,ho,hb,hk⟩;obtain ⟨Ar,cr,rfl⟩:=Kd.Vb ho;have Rt:=aa.mk ho;have vo:=aa.mk (Ga HB.out hb);have EU:=aa.mk (Ta HX.out hb);clear ho hb hk))
 have NH:=aa.mk (Kd.Ua Rt.out).2.2;have hrl:(mc oa).length ≤ 1048576:=Nat.le_trans HML.out HN.out.2;clear Rt VN Li bL AH HO_ ZX HX HB;have Tt:=(ya EU.out 4).trans rfl;have HMK:=aa.mk (show ((oa.length:Int)).toNat * 24 ≤ 281474976710656 from by have:=HN.out;omega);have h0n:(0:Int) ≤ (oa.length:Int):=by omega
 go_upto_region 3 with (first|((with_reducible refine Qb (N:=19) rfl ?_);refine Kd.uK (Kd.slice 3 (Kd.int .i64)) (w0:=w) w.heap.size 22 rfl (N:=19) rfl 53 _ _ rfl (oa.length:Int) rfl rfl Try.underlying53 (.slice none 0 0) 24 YQ rfl (by decide) (by omega) [] (ok:=fun _=>True) (Yg:=fun _=>True) ⟨_,rfl,Kd.Nt _ _ _ _ _⟩ (fun _ hk=>hk) trivial h0n HMK.out vo.out vo.out.size ?_;intro v4 w4 hs hb hg hat;obtain ⟨g,cap,rfl,hgb,UO,hs⟩:=IG hs HN.out.1 hat;have HS4:=aa.mk hs;have Mq:=aa.mk hb;have WK:=aa.mk hg;have dO:=aa.mk hgb;have HGL:=aa.mk UO;clear hs hb hg hat hgb UO))
 have SV:Below w3.heap.size w3 w4:=(Below.refl _ w3).grown WK.out (Nat.le_refl _) (fun k e=>by cases e);have N3:=ia (Below.refl w4.heap.size w4) (.cells #[.slice (some ⟨g,0,none⟩) oa.length cap] 53 (0,0));have Z6:=ij w4 (.cells #[.slice (some ⟨g,0,none⟩) oa.length cap] 53 (0,0));generalize w4.alloc (.cells #[.slice (some ⟨g,0,none⟩) oa.length cap] 53 (0,0))=wA at N3 Z6 ⊢;have HBA:=aa.mk (Ga SV N3);have HXA:=aa.mk (Ta EU.out HBA.out);have jO:=aa.mk (show Below w.heap.size w wA from Lr vo.out vo.out.size HBA.out);have HCR:=aa.mk (fun W' hk=>Kd.mq (S:=fun k=>k=g) (Kd.Sh .i64) NH.out HBA.out (fun k e=>e ▸ dO.out) W' hk);have HS:=aa.mk (show ax w wA w4.heap.size g cap oa.length (List.replicate oa.length []) wA from ⟨jO.out,Kept.refl _ _,Z6,Kd.wg (Kd.ki (Kd.vK HS4.out w4.heap.size (Nat.le_refl _)) N3) (fun k hk=>hk.2),by have:=HGL.out;omega,Nat.le_trans vo.out.size dO.out⟩);have S4:=aa.mk (show w.heap.size ≠ g from by have:=Te EU.out;have:=dO.out;omega);have HI:=aa.mk (Xz.start oa);clear SV N3 Z6 HS4 Mq WK HGL EU NH vo h0n HMK Tt;generalize w4.heap.size=b4 at HS ⊢;go_wp2
 go_loopg [22] (mc oa).length (fun gg v22 wr=>∃ (i:Nat) (D:List (List Int)),i ≤ (mc oa).length∧(mc oa).length - i ≤ gg∧v22 = .int .i64 i∧aa (Xz oa i D)∧aa (ax w wA b4 g cap oa.length D wr))
 case atStart=>exact ⟨0,_,Nat.zero_le _,by omega,rfl,HI,HS⟩
 case round =>
  clear HI HS;(try clear D);(try clear HI);(try clear HS);obtain ⟨i,D,hi,lD,rfl,HI,HS⟩:=hrel
  by_cases hlt:i < (mc oa).length
  ·have ek:decide ((i:Int) < ((mc oa).length:Int))=true:=decide_eq_true (by omega);have p1:0 ≤ (i:Int):=by omega
   have p2:(i:Int) < ((mc oa).length:Int):=by omega
   obtain ⟨ad,b,e1,hb,qD,DS,hx⟩:=MA HE.out hlt (HCR.out wr HS.out.k);subst e1;have HNI:=aa.mk (HI.out.next HE.out hlt);rw [hb,Int.toNat_natCast] at HNI;have q1:0 ≤ (b:Int):=by omega
   have q2:(b:Int) < (oa.length:Int):=by omega
   clear hb DS
   go_upto_region 6 with (fail)
   have HD:=aa.mk (HS.out.below (Am (Below.refl wr.heap.size wr)));clear HS HI hx;refine Yk (n:=7) (S:=fun w'=>w'.cell? ⟨b4,0,none⟩=some (.slice (some ⟨g,0,none⟩) oa.length cap)) (ds:=[6]) #[false,false,false,false,false,false,false] (by kernel_rfl) rfl rfl (HD.out.cell) (fun hHeld=>?_);generalize wr.drew=wd at HD hHeld ⊢;refine od (i:=1) (N:=some 27) (v:=?_) (a':=?_) #[false,true,false,false,false,false,false] rfl rfl (by kernel_rfl) (fun _ _ _ h=>h) (Or.inl ⟨by rfl,?_⟩) ?_ ?_;rotate_left
   ·exact eaj
   rotate_left
   ·exact daj
   refine od (i:=3) (N:=some 29) (v:=?_) (a':=?_) #[false,true,false,true,false,false,false] rfl rfl (by kernel_rfl) (fun _ _ _ h=>h) (Or.inl ⟨by rfl,?_⟩) ?_ ?_;rotate_left
   ·exact eaj
   rotate_left
   ·exact daj
   refine Ph (i:=0) (N:=some 26) (v:=?_) (a':=?_) #[true,true,false,true,false,false,false] rfl rfl (by kernel_rfl) (fun _ _ _ h=>h) (Or.inl ⟨by rfl,?_⟩) hHeld ?_ ?_;rotate_left
   ·intro w' s0;go_simp;with_reducible rfl
   rotate_left
   ·exact daj
   refine qp (i:=2) (N:=some 28) #[true,true,true,true,false,false,false] rfl rfl (by kernel_rfl) (by decide) (fun K hK=>?_);refine jm (w1:=?_) (v:=?_) (by rfl) rfl ?_ ?_;rotate_left 2
   ·go_simp
    constructor
    ·rfl
    ·rfl
   refine hK.out _ _ ((HD.out.below (ia (Below.refl _ _) _)).cell) (fun hHeld=>?_);clear hK K;refine Nf (a':=?_) ?_ ?_;rotate_left
   ·show Act.put _ (some 28) _=_
    exact daj
   refine qp (i:=4) (N:=some 30) #[true,true,true,true,true,false,false] rfl rfl (by kernel_rfl) (by decide) (fun K hK=>?_);refine Kd.Nd (Kd.int .i64) (w0:=wd) wd.heap.size (by rfl) (.tmp 28) (.tmp 29) 22 3 (.int .i64 0) 8 rfl Try.underlying22 info3 rfl (by decide) (by omega) (.slice (some ⟨wd.heap.size,0,none⟩) 0 0) [] (mc oa) (some ad) (mc oa).length cr (fun _=>True) (fun _=>False) rfl rfl (Zj (Kd.int .i64) 3 wd wd.heap.size (Nat.le_refl _)) ?aR (fun _ _ h=>h) (fun _ hk=>hk.elim) (fun _ _=>trivial) (ia (Below.refl _ _) _) (ia (Below.refl _ _) _).size ?aL ?_
   (case aR=>exact HCR.out _ (HD.out.below (ia (Below.refl _ _) _)).k)
   (case aL=>have:=HML.out;have:=HN.out.2;simp;omega)
   intro v1 w1 ho Ko Xw hat;rw [List.nil_append] at ho;clear Xw hat;obtain ⟨A1,c1,rfl⟩:=Kd.Vb ho;have OU:=aa.mk (HD.out.below Ko);have HP:=aa.mk (HD.out.put Ko qD (HD.out.fresh ho));clear ho Ko;refine hK.out _ _ (OU.out.cell) (fun hHeld=>?_);clear hK K;refine Nf (a':=?_) ?_ ?_;rotate_left
   ·show Act.put _ (some 30) _=_
    exact daj
   refine od (i:=5) (N:=some 31) (v:=?_) (a':=?_) #[true,true,true,true,true,true,false] rfl rfl (by kernel_rfl) (fun _ _ _ h=>h) (Or.inl ⟨by rfl,?_⟩) ?_ ?_;rotate_left
   ·exact eaj
   rotate_left
   ·exact daj
   refine Qu (i:=6) (N:=none) #[true,true,true,true,true,true,true] rfl rfl (by kernel_rfl) (by decide) (fun K hK=>?_);obtain ⟨Ao,co,hc,hf,-,-⟩:=OU.out.at qD;refine XH (w1:=?_) (by rfl) rfl ?_ ?_;rotate_left
   ·go_simp
    rfl
   refine hK.out _ _ ?_;clear hK K;refine Yo (by kernel_rfl) ?_;clear hHeld;go_wp2
   go_roundg ((mc oa).length - (i + 1))
   case measure=>omega
   case rel=>exact ⟨i + 1,_,by omega,by omega,by go_num,HNI,HP⟩
  ·have ek:decide ((i:Int) < ((mc oa).length:Int))=false:=decide_eq_false (by omega);obtain rfl:i=(mc oa).length:=by omega
   have MK:=aa.mk (HI.out.go HE.out);have hv:=HS.out.cell;obtain ⟨A0,c0,eH,LV,-,-⟩:=HS.out.at (i:=0) HN.out.1;have q0:(0:Int) < (oa.length:Int):=by have:=HN.out.1;omega
   have s1:=HS.out.G9;have s2:=HS.out.blt;have hp:=HS.out.put (ia (Below.refl _ _) (.cells #[.int .i64 0] 3 (0,0))) HN.out.1 (HS.out.fresh (Mt wr wr.heap.size 0 (Nat.le_refl _)));rw [World.setCell_alloc_past _ _ _ _ s1] at hp;have HP:=aa.mk hp;clear hp
   go_upto_region 9 with (fail)
   clear HI HS hv eH LV s1 s2 q0 ek hlt lD hi;generalize (wr.setCell ⟨g,0,none⟩ (.slice (some ⟨wr.heap.size,0,none⟩) 1 1)).alloc (.cells #[.int .i64 0] 3 (0,0))=w8 at HP ⊢;generalize D.set 0 [0]=D at MK HP;go_wp2
   go_loopg [7] (cv D + 1) (fun gg v7 wr=>∃ (D:List (List Int)) (a:Bool),v7 = .bool a∧cv D + (if a=true then 1 else 0) ≤ gg∧aa (xN oa D)∧aa (a=false→kX oa D (mc oa).length)∧aa (ax w wA b4 g cap oa.length D wr))
   case atStart=>exact ⟨_,true,rfl,by simp,MK,⟨fun e=>by cases e⟩,HP⟩
   case round =>
    clear MK HP;(try clear D);(try clear MK);(try clear OT);(try clear HS);obtain ⟨D,a,rfl,lD,MK,OT,HS⟩:=hrel;cases a with
    | false =>
     have HDE:=aa.mk (MK.out.done HE.out (fun b hb t ht=>by
      have h:=OT.out rfl (b:Int) (by rw [List.take_length];exact (ug HE.out _).2 ⟨by omega,by rw [Int.toNat_natCast];exact hb⟩) t (by rw [Int.toNat_natCast];exact ht)
      rwa [Int.toNat_natCast] at h))
     have hv:=HS.out.cell;go_wp2;go_ret;exact ⟨_,rfl,by rw [← HDE.out];exact Kd.wg HS.out.row (fun _ _=>trivial),HS.out.bl⟩
    | true =>
     have HV:=lD;rw [if_pos rfl] at HV;have HJ:=aa.mk (show zT oa D (cv D) false 0 from ⟨MK.out,Nat.le_refl _,(fun e=>by cases e),(fun _ b hb=>by simp at hb)⟩);clear MK OT lD;generalize cv D=m0 at HJ HV;go_wp2
     go_loopg [7,39] (mc oa).length (fun g3 v7 v39 wr=>∃ (i:Nat) (D:List (List Int)) (a:Bool),v7 = .bool a∧v39 = .int .i64 i∧i ≤ (mc oa).length∧(mc oa).length - i ≤ g3∧aa (zT oa D m0 a i)∧aa (ax w wA b4 g cap oa.length D wr))
     case atStart=>exact ⟨0,_,false,rfl,rfl,Nat.zero_le _,by omega,HJ,HS⟩
     case round =>
      clear HJ HS;(try clear D);(try clear HJ);(try clear HS);obtain ⟨i,D,a,rfl,rfl,hi,CC,HJ,HS⟩:=hrel
      by_cases hlt:i < (mc oa).length
      ·have ek:decide ((i:Int) < ((mc oa).length:Int))=true:=decide_eq_true (by omega);have p1:0 ≤ (i:Int):=by omega
       have p2:(i:Int) < ((mc oa).length:Int):=by omega
       obtain ⟨ad,b,e1,hb,qD,DS,hx⟩:=MA HE.out hlt (HCR.out wr HS.out.k);subst e1;have P4:=aa.mk hb;clear hb DS
       go_upto_region 15 with (fail)
       have n9:=ia (Below.refl wr.heap.size wr) (.cells #[.int .i64 (b:Int)] 3 (0,0));have Y6:=ij wr (.cells #[.int .i64 (b:Int)] 3 (0,0));generalize wr.alloc (.cells #[.int .i64 (b:Int)] 3 (0,0))=w9 at n9 Y6 ⊢;have VX:=aa.mk (HS.out.below n9);have JU:=aa.mk Y6;have HN9:=aa.mk (show wr.heap.size ≠ g from by have:=HS.out.G9;omega);clear n9 Y6 HS hx;generalize wr.heap.size=q9 at JU HN9 ⊢;have hq9:=(ya JU.out 0).trans rfl;have Tt:=(ya (jg HXA.out VX.out.k S4.out) 4).trans rfl;obtain ⟨ag,Ac,cc,e1,hc0,hc1,Lv,nA,qL,Ru,nP⟩:=Vj (Kd.Za vv.out VX.out.bl) (b:Int) (by omega) (by omega);subst e1;simp only [Int.toNat_natCast] at hc0 hc1 Lv nA qL;have q1:0 ≤ (b:Int):=by omega
       have q2:(b:Int) < (oa.length:Int):=by omega
       have eaa:=aa.mk (show ue.f (Ea oa (b:Int)).f0 (Ea oa (b:Int)).f1 (Ea oa (b:Int)).f2 (Ea oa (b:Int)).f3 (Ea oa (b:Int)).f4=some (De oa b) from uq _);have YK:=aa.mk nP;have vL:=aa.mk Ru;clear nP Ru;have htl:(De oa b).length ≤ 2:=Ti _;go_wp2_with (first|(go_at_call 75;(with_reducible refine (ue.calls Ac cc (Ea oa (b:Int)).f0 (Ea oa (b:Int)).f1 (Ea oa (b:Int)).f2 (Ea oa (b:Int)).f3 (Ea oa (b:Int)).f4 (De oa b) w9 YK.out vL.out eaa.out).mono ?_);rintro e yo ⟨v15,rfl,ho,hb⟩;obtain ⟨An,cn,rfl⟩:=Kd.Vb ho;have nY:=aa.mk ho;have tC:=aa.mk hb;clear ho hb hc0 hc1 Lv nA qL Tt hq9));have WX:=aa.mk (VX.out.below tC.out);have baa:=aa.mk (Ta JU.out tC.out);have mQ:=aa.mk VX.out.G9;have MU:=aa.mk (fun W' hk=>Kd.Jm (S:=fun k=>k=g) (Kd.Eb (Kd.We nY.out) (fun k hk=>hk.2.1)) (fun k hk e=>by have:=mQ.out;omega) W' hk);have HNE:=aa.mk (rfl:De oa b=De oa b);clear VX nY tC YK vL JU
       go_loopg [7,50] (De oa b).length (fun g4 v7 v50 wr=>∃ (j:Nat) (D:List (List Int)) (a:Bool),v7 = .bool a∧v50 = .int .i64 j∧j ≤ (De oa b).length∧(De oa b).length - j ≤ g4∧aa (zT oa D m0 a i)∧aa (a=false→jX D b (De oa b) j)∧aa (ax w wA b4 g cap oa.length D wr)∧aa (Kept yo wr (fun k=>k=g)))
       case atStart=>exact ⟨0,_,_,rfl,rfl,Nat.zero_le _,by omega,HJ,⟨fun _ t ht=>by simp at ht⟩,WX,⟨Kept.refl _ _⟩⟩
       case round =>
        clear HJ WX;(try clear D);(try clear HJ);(try clear OT);(try clear HS);(try clear HK);obtain ⟨j,D,a,rfl,rfl,hj,BC,HJ,OT,HS,HK⟩:=hrel
        by_cases hjt:j < (De oa b).length
        ·have cH:decide ((j:Int) < ((De oa b).length:Int))=true:=decide_eq_true (by omega);have r1:0 ≤ (j:Int):=by omega
         have r2:(j:Int) < ((De oa b).length:Int):=by omega
         obtain ⟨an,tn,e1,ht,htn,hx⟩:=wE HE.out qD hjt (MU.out wr HK.out);subst e1;have HT:=aa.mk ht;clear ht
         go_upto_region 18 with (fail)
         have LJ:=ia (Below.refl wr.heap.size wr) (.cells #[.int .i64 (tn:Int)] 3 (0,0));have sR:=ij wr (.cells #[.int .i64 (tn:Int)] 3 (0,0));generalize wr.alloc (.cells #[.int .i64 (tn:Int)] 3 (0,0))=Om at LJ sR ⊢;have aE:=aa.mk (HS.out.below LJ);have bA:=aa.mk sR;have dY:=aa.mk (Ta (jg baa.out HK.out HN9.out) LJ);have EY:=aa.mk (HK.out.below LJ);clear LJ sR HS HK hx;generalize wr.heap.size=EH at bA ⊢;have sC:=aa.mk (ia (Below.refl Om.heap.size Om) (.cells #[] 3 (0,0)));obtain ⟨At,ct,vV,-,hlt',hCt⟩:=(aE.out.below sC.out).at htn;have HCt:=aa.mk hCt;have hv4:=(aE.out.below sC.out).cell;have xV:=(ya (Ta bA.out sC.out) 0).trans rfl;have t1:0 ≤ (tn:Int):=by omega
         have t2:(tn:Int) < (oa.length:Int):=by omega
         have HEM:=aa.mk (Zj (Kd.int .i64) 3 Om Om.heap.size (Nat.le_refl _));have HLN:=aa.mk (show (([]:List Int).length + (nk D tn).length) * 8 ≤ 140737488355328 from by have:=FL HJ.out.inv HN.out.2 tn;simp;omega);have hmf:∀ (fn:Fn) (first cap:Array Value) (w:World),(Instr.makeFunc fn first cap).run Try.prog w = .ok (.func fn first cap) w:=fun _ _ _ _=>rfl
         clear hCt
         go_upto_region 19 with (first|((with_reducible refine Qb (N:=59) rfl ?_);refine Kd.gr (Kd.int .i64) (w0:=Om) Om.heap.size rfl (.tmp 54) (.tmp 58) 22 3 (.int .i64 0) 8 rfl Try.underlying22 info3 rfl (by decide) (by omega) (.slice (some ⟨Om.heap.size,0,none⟩) 0 0) [] (nk D tn) At (nk D tn).length ct (fun _=>True) (fun _=>False) rfl rfl HEM.out HCt.out (fun _ _ h=>h) (fun _ hk=>hk.elim) (fun _ _=>trivial) sC.out sC.out.size HLN.out ?_;intro v19 Vt ho Ko Xw hat;rw [List.nil_append] at ho;obtain ⟨Ak,ck,rfl⟩:=Kd.Vb ho;have HDC:=aa.mk (IQ aE.out bA.out dY.out qD Ko ho);clear ho Ko Xw hat vV hv4 xV)|(go_at_call 74;(with_reducible refine HDC.out.mono ?_);rintro e D5 ⟨rfl,wV,TV⟩;have bY:=aa.mk wV;have ZK:=aa.mk TV;clear wV TV HDC))
         have QT:=aa.mk (aE.out.below ZK.out);have HP:=aa.mk (aE.out.put ZK.out htn (aE.out.fresh bY.out));have DY:=aa.mk (EY.out.below ZK.out);have hv4:=QT.out.cell;have xV:=(ya (Ta bA.out ZK.out) 0).trans rfl;obtain ⟨At,ct,vV,hft,-,-⟩:=QT.out.at htn;clear aE dY EY HEM HLN HCt sC bY hlt' bA ZK
         by_cases hk:(jk D b tn).length < (nk D tn).length
         ·have hkb:decide (((jk D b tn).length:Int) < ((nk D tn).length:Int))=true:=decide_eq_true (by omega);have W4:=aa.mk (HJ.out.keep HE.out hlt (t:=(De oa b)[j]) (by rw [P4.out,Int.toNat_natCast];exact List.getElem_mem hjt) (by rw [P4.out,HT.out,Int.toNat_natCast,Int.toNat_natCast];exact hk));rw [P4.out,HT.out,Int.toNat_natCast,Int.toNat_natCast] at W4;have hGK:=HP.out.k;go_wp2
          go_roundg ((De oa b).length - (j + 1))
          case measure=>omega
          case rel=>exact ⟨j + 1,_,true,rfl,by go_num,by omega,by omega,W4,⟨fun e=>by cases e⟩,HP,⟨DY.out.setCell (Or.inl rfl) _⟩⟩
         ·have hkb:decide (((jk D b tn).length:Int) < ((nk D tn).length:Int))=false:=decide_eq_false (by omega);have jY:=aa.mk (wI hk).2;clear HP;go_wp2
          go_roundg ((De oa b).length - (j + 1))
          case measure=>omega
          case rel=>exact ⟨j + 1,D,a,rfl,by go_num,by omega,by omega,HJ,⟨fun e=>(OT.out e).next hjt (by rw [HT.out,Int.toNat_natCast];exact jY.out)⟩,QT,DY⟩
        ·have cH:decide ((j:Int) < ((De oa b).length:Int))=false:=decide_eq_false (by omega);obtain rfl:j=(De oa b).length:=by omega
         have W4:=aa.mk (show zT oa D m0 a (i + 1) from ⟨HJ.out.inv,HJ.out.le,HJ.out.lt,fun e=>(HJ.out.so e).next hlt (by rw [P4.out,Int.toNat_natCast];exact OT.out e)⟩);go_wp2
         go_roundg ((mc oa).length - (i + 1))
         case measure=>omega
         case rel=>exact ⟨i + 1,D,a,rfl,by go_num,by omega,by omega,W4,HS⟩
      ·have ek:decide ((i:Int) < ((mc oa).length:Int))=false:=decide_eq_false (by omega);obtain rfl:i=(mc oa).length:=by omega
       have h1:=HJ.out.le;have h2:=HJ.out.lt
       have HM:=aa.mk (show cv D + (if a=true then 1 else 0) < m0 + 1 from by
        cases a with
        | false=>rw [if_neg (by simp)];omega
        | true=>have:=h2 rfl;rw [if_pos rfl];omega)
       clear h1 h2;go_wp2
       go_roundg (cv D + (if a=true then 1 else 0))
       case measure=>have:=HM.out;omega
       case rel=>exact ⟨D,a,rfl,Nat.le_refl _,⟨HJ.out.inv⟩,⟨HJ.out.so⟩,HS⟩
attribute [local go_sem] fh bh Zh Yh mg lg dh ah
end Go.Proofs.Ytoomcmaifgkkfaa.P
end
