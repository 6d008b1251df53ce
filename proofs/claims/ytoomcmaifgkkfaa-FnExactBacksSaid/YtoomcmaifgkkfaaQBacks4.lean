import Derived.Test.YtoomcmaifgkkfaaQBacks1
import Derived.Test.YtoomcmaifgkkfaaQBacks3
import Derived.Shelf.Abstract
import Derived.Lib.SliceRun
import Derived.Outline
import Derived.Test.YtoomcmaifgkkfaaQBacks2
import Derived.BigQuiet
import Derived.RegionTactic
import Derived.StillTailTactics
set_option maxHeartbeats 8000000
set_option maxRecDepth 100000
section
namespace Go.Proofs.Ytoomcmaifgkkfaa.P
open Go.RowKit Go.Proofs.ua.zb Go.Proofs.ua.Lc Go.Proofs.ua.Pd
set_option linter.unusedVariables false
set_option linter.unusedSimpArgs false
attribute [local go_sem] Hg Fg Nh Mh cg bg Gg Eg
def nc.l0:Nat→List Bool→List Int→List Int→List Int→Int→Int→Int→List (Yd)→Option (List Int)
 | 0,_,_,_,_,_,_,_,_=>none
 | k + 1,x3,x4,x5,Cd,Bd,Ad,yd,Yb=>if (x5.length:Int) > 0 then (if 0 ≤ (wrap64 ((x5.length:Int) - 1)) then (if (wrap64 ((x5.length:Int) - 1)) < (x5.length:Int) then (if (wrap64 ((x5.length:Int) - 1)) ≤ (x5.length:Int) then ((some (x5.take ((wrap64 ((x5.length:Int) - 1)):Int).toNat:List Int)).bind fun Eh=>(if 0 ≤ (rd x5 (wrap64 ((x5.length:Int) - 1))) then (if (rd x5 (wrap64 ((x5.length:Int) - 1))) < (x3.length:Int) then (if Tf false x3 (rd x5 (wrap64 ((x5.length:Int) - 1)))=true then (nc.l0 k x3 x4 Eh Cd Bd Ad yd Yb) else (if x4.length < 17592186044416 then (if (rd x5 (wrap64 ((x5.length:Int) - 1))) < (Yb.length:Int) then ((xe.f ((Ga Yb (rd x5 (wrap64 ((x5.length:Int) - 1)))).f0) ((Ga Yb (rd x5 (wrap64 ((x5.length:Int) - 1)))).f1) ((Ga Yb (rd x5 (wrap64 ((x5.length:Int) - 1)))).f2) ((Ga Yb (rd x5 (wrap64 ((x5.length:Int) - 1)))).f3) ((Ga Yb (rd x5 (wrap64 ((x5.length:Int) - 1)))).f4)).bind fun t121=>((Na.f k t121).bind fun t124=>(if Eh.length + t124.length < 17592186044416 then (nc.l0 k (x3.set ((rd x5 (wrap64 ((x5.length:Int) - 1))):Int).toNat true) (x4 ++ [rd x5 (wrap64 ((x5.length:Int) - 1))]) (Eh ++ t124) Cd Bd Ad yd Yb) else (none)))) else (none)) else (none))) else (none)) else (none))) else (none)) else (none)) else (none)) else (some x4)
def nc.f (k:Nat) (Ma:List Int) (Pa:Int) (Qa:Int) (Oa:Int) (za:List (Yd)):Option (List Int):=if 0 ≤ (za.length:Int) then (if ((za.length:Int):Int).toNat ≤ 281474976710656 then (nc.l0 k (List.replicate ((za.length:Int):Int).toNat false) (([]:List Int)) (([0]:List Int)) Ma Pa Qa Oa za) else (none)) else (none)
theorem nc.calls (k:Nat) (Bb:Option Addr) (Ab:Nat) (Ma:List Int) (Pa:Int) (Qa:Int) (Oa:Int) (Qb:Option Addr) (Gb:Nat) (za:List (Yd)) (r:List Int) (w:World) (od:Kd.C (Kd.int .i64) w Bb Ma.length Ma) (Nd:Ma.length ≤ Ab) (ze:Kd.C Jl w Qb za.length za) (Ve:za.length ≤ Gb) (h:nc.f k Ma Pa Qa Oa za=some r) :
  Calls Try.prog 78 #[.agg #[.slice Bb Ma.length Ab,.int .i64 Pa,.int .i64 Qa,.int .i64 Oa,.slice Qb za.length Gb]] w fun e w'=>∃ zj:Value,e = .returned (zj)∧Kd.R (Kd.int .i64) 3 w' w.heap.size (fun _=>True) zj r∧Below w.heap.size w w':=by
 have WG:=Try.underlying45;have mB:=Try.underlying83;have Qg:=aa.mk od;have Sg:=aa.mk Nd;clear od Nd;have Ei:=aa.mk ze;have Uk:=aa.mk Ve;clear ze Ve;have HB:=aa.mk (Below.refl w.heap.size w);have H:(if 0 ≤ (za.length:Int) then (if ((za.length:Int):Int).toNat ≤ 281474976710656 then (nc.l0 k (List.replicate ((za.length:Int):Int).toNat false) (([]:List Int)) (([0]:List Int)) Ma Pa Qa Oa za) else (none)) else (none))=some r:=h;clear h
 by_cases c2:0 ≤ (za.length:Int)
 ·rw [if_pos c2] at H;have Jm:=eq_true c2;have Ro:decide (0 ≤ (za.length:Int))=true:=decide_eq_true c2;clear c2
  by_cases c3:((za.length:Int):Int).toNat ≤ 281474976710656
  ·rw [if_pos c3] at H;have Yg:=eq_true c3;have Mp:decide (((za.length:Int):Int).toNat ≤ 281474976710656)=true:=decide_eq_true c3;clear c3;obtain ⟨Dd,Ue⟩:∃ y_:List Bool,y_=(List.replicate ((za.length:Int):Int).toNat false):=⟨_,rfl⟩;replace H:(nc.l0 k Dd (([]:List Int)) (([0]:List Int)) Ma Pa Qa Oa za)=some r:=by first|(rw [Ue];with_reducible exact H)|(have Mc:=(Option.bind_some _ _).symm.trans H;rw [Ue];with_reducible exact Mc)|(have Mc:=(Option.bind_some _ _).symm.trans H;with_reducible exact Mc)|with_reducible exact H|(rw [Ue];exact H)|exact H
   have ji:=aa.mk Ue;clear Ue;obtain ⟨Yc,Ff⟩:∃ y_:List Int,y_=(([]:List Int)):=⟨_,rfl⟩;replace H:(nc.l0 k Dd Yc (([0]:List Int)) Ma Pa Qa Oa za)=some r:=by first|(rw [Ff];with_reducible exact H)|(have Mc:=(Option.bind_some _ _).symm.trans H;rw [Ff];with_reducible exact Mc)|(have Mc:=(Option.bind_some _ _).symm.trans H;with_reducible exact Mc)|with_reducible exact H|(rw [Ff];exact H)|exact H
   have zl:=aa.mk Ff;clear Ff;obtain ⟨sy,Hj⟩:∃ y_:List Int,y_=(([0]:List Int)):=⟨_,rfl⟩;replace H:(nc.l0 k Dd Yc sy Ma Pa Qa Oa za)=some r:=by first|(rw [Hj];with_reducible exact H)|(have Mc:=(Option.bind_some _ _).symm.trans H;rw [Hj];with_reducible exact Mc)|(have Mc:=(Option.bind_some _ _).symm.trans H;with_reducible exact Mc)|with_reducible exact H|(rw [Hj];exact H)|exact H
   have vv:=aa.mk Hj;clear Hj;have H':=aa.mk H;clear H;go_enter Try.func78,Try.ntmps78;go_wp2_with (first|((with_reducible refine Lb (N:=1) rfl ?_);refine Jc ?hg (N:=1) ?hd (cs:=#[.slice Bb Ma.length Ab,.int .i64 Pa,.int .i64 Qa,.int .i64 Oa,.slice Qb za.length Gb]) (t:=45) ?hr ?_;(case hd|hg=>rfl);(case hr=>exact Vae);intro Ja hg w4 qd hb;have Kb:=aa.mk (Fa Yae hb);have Ob:=aa.mk (qd);have fc:=aa.mk ((by rw [hg];exact (Ra Yae):w.heap.size ≤ Ja));have Sc:=aa.mk ((by rw [hg];exact (Ra Yae):w.heap.size ≤ Ja));clear HB;have HB:=Kb;have ta:=Ob;have Af:=fc;have mb:=Sc;clear Kb Ob fc Sc hb qd hg;have BH:w4.cell? ⟨Ja,0,none⟩=some (.slice Bb Ma.length Ab):=(qa ta.out 0).trans rfl;have AH:w4.cell? ⟨Ja,1,none⟩=some (.int .i64 Pa):=(qa ta.out 1).trans rfl;have zH:w4.cell? ⟨Ja,2,none⟩=some (.int .i64 Qa):=(qa ta.out 2).trans rfl;have yH:w4.cell? ⟨Ja,3,none⟩=some (.int .i64 Oa):=(qa ta.out 3).trans rfl;have xH:w4.cell? ⟨Ja,4,none⟩=some (.slice Qb za.length Gb):=(qa ta.out 4).trans rfl;have nH:=Aa ta.out 0;have mH:=Aa ta.out 1;have lH:=Aa ta.out 2;have kH:=Aa ta.out 3;have jH:=Aa ta.out 4)|((with_reducible refine Lb (N:=11) rfl ?_);refine Kd.Qp Kd.bool _ 4 rfl (N:=11) rfl 73 _ _ rfl (za.length:Int) rfl rfl Try.underlying73 (.bool false) 1 zC rfl (by decide) (by omega) false (ok:=fun _=>True) (Ag:=fun _=>True) rfl (fun _ hk=>hk) trivial (Ia) (Nat.le_trans (Nat.mul_le_mul_right _ (Ia:(za.length:Int).toNat ≤ 281474976710656)) (by omega)) (Below.refl _ _) (Nat.le_refl _) ?_;intro Ng w6 pS hb Hl Je;clear Hl Je;(first|rw [← ji.out] at pS|(simp only [Int.reduceToNat] at pS;rw [← ji.out] at pS));have Kb:=aa.mk (Kd.Xc pS (Ra Xae));have Ob:=aa.mk (Ua (g:=Ja) (o:=.cells #[.slice Bb Ma.length Ab,.int .i64 Pa,.int .i64 Qa,.int .i64 Oa,.slice Qb za.length Gb] 45 (0,0)) Zae hb);have fc:=aa.mk (Fa Xae hb);clear ta HB;have Pe:=Kb;have ta:=Ob;have HB:=fc;clear Kb Ob fc hb pS)|((with_reducible refine Lb (N:=12) rfl ?_);refine Kd.jk (Kd.int .i64) _ 3 ?hg (N:=12) ?hd (xs:=([]:List Int)) (inner:=[]) (ok:=fun _=>True) (Ag:=fun _=>True) ?hr ?hp (fun _ hk=>hk) trivial (Below.refl _ _) (Nat.le_refl _) (by simp) ?_;(case hd|hg=>rfl);(case hr=>exact Vae);(case hp=>exact (Fc.none _ _));intro Kv w8 aH hb Hl Je;clear Hl Je;(first|rw [← zl.out] at aH|(simp only [Int.reduceToNat] at aH;rw [← zl.out] at aH));have Kb:=aa.mk (Kd.Xb raf hb);have Ob:=aa.mk (Kd.Xc aH (Ra Xae));have fc:=aa.mk (Ua (g:=Ja) (o:=.cells #[.slice Bb Ma.length Ab,.int .i64 Pa,.int .i64 Qa,.int .i64 Oa,.slice Qb za.length Gb] 45 (0,0)) Zae hb);have Sc:=aa.mk (Fa Xae hb);clear Pe ta HB;have Pe:=Kb;have Tk:=Ob;have ta:=fc;have HB:=Sc;clear Kb Ob fc Sc hb aH)|((with_reducible refine Lb (N:=13) rfl ?_);refine Kd.jk (Kd.int .i64) _ 3 ?hg (N:=13) ?hd (xs:=([0]:List Int)) (inner:=[.int .i64 0]) (ok:=fun _=>True) (Ag:=fun _=>True) ?hr ?hp (fun _ hk=>hk) trivial (Below.refl _ _) (Nat.le_refl _) (by simp) ?_;(case hd|hg=>rfl);(case hr=>exact Vae);(case hp=>exact (Fc.one (show Kd.M (Kd.int .i64) _ _ _ 0 [.int .i64 0] from rfl) (Fc.none _ _)));intro v109 Gt en hb Hl Je;clear Hl Je;(first|rw [← vv.out] at en|(simp only [Int.reduceToNat] at en;rw [← vv.out] at en));have Kb:=aa.mk (Kd.Xb raf hb);have Ob:=aa.mk (Kd.mh (by (with_reducible repeat (first|apply Kd.Ka|apply Kd.La|apply Kd.Sa));exact Tk.out) (Kd.ug en) hb);have fc:=aa.mk (Kd.Xc (Kd.Wi en (Kd.ek (by (with_reducible repeat (first|apply Kd.Ka|apply Kd.La|apply Kd.Sa));exact Tk.out))) (Ra Xae));have Sc:=aa.mk (Ua (g:=Ja) (o:=.cells #[.slice Bb Ma.length Ab,.int .i64 Pa,.int .i64 Qa,.int .i64 Oa,.slice Qb za.length Gb] 45 (0,0)) Zae hb);have uf:=aa.mk (Fa Xae hb);clear Pe Tk ta HB;have Pe:=Kb;have Tk:=Ob;have jt:=fc;have ta:=Sc;have HB:=uf;clear Kb Ob fc Sc uf hb en))
   go_loopg [4,5] k (fun kq v4 v5 w'=>∃ (jc:List Bool) (Cb:List Int) (Ba:List Int),aa (nc.l0 kq jc Cb Ba Ma Pa Qa Oa za=some r)∧aa (kq ≤ k)∧aa (Kd.R Kd.bool 4 w' w.heap.size (fun _=>True) Ng jc)∧aa (Kd.R (Kd.int .i64) 3 w' w.heap.size (fun k_=>some k_ ≠ (v5:Value).ownBlock) v4 Cb)∧aa (Kd.R (Kd.int .i64) 3 w' w.heap.size (fun k_=>some k_ ≠ (v4:Value).ownBlock) v5 Ba)∧aa (w'.heap[Ja]? = some (.cells #[(.slice Bb Ma.length Ab),.int .i64 Pa,.int .i64 Qa,.int .i64 Oa,(.slice Qb za.length Gb)] 45 (0,0)))∧aa (Below w.heap.size w w'))
   case atStart=>exact ⟨(Dd),(Yc),(sy),H',⟨Nat.le_refl _⟩,⟨Haf⟩,⟨by (with_reducible repeat (first|apply Kd.Ka|apply Kd.La|apply Kd.Sa));exact Kd.Db Tk.out (fun _ hk=>hk.2)⟩,⟨by (with_reducible repeat (first|apply Kd.Ka|apply Kd.La|apply Kd.Sa));exact Kd.Db jt.out (fun _ hk=>hk.2)⟩,⟨faf⟩,⟨aaf⟩⟩
   case round =>
    clear H'
    try clear c2
    try clear Jm
    try clear Ro
    try clear p2
    try clear c3
    try clear Yg
    try clear Mp
    try clear c7
    try clear BH
    try clear AH
    try clear zH
    try clear yH
    try clear xH
    try clear nH
    try clear mH
    try clear lH
    try clear kH
    try clear jH
    (try clear HA);(try clear Gf);(try clear Ub);(try clear Cc);(try clear Df);(try clear ta);(try clear HB);obtain ⟨jc,Cb,Ba,HA,Gf,Ub,Cc,Df,ta,HB⟩:=hrel;cases gk with
    | zero=>exact absurd HA.out (by simp [nc.l0])
    | succ k1 =>
     have H:=HA.out;clear HA;simp only [nc.l0] at H
     by_cases WD:(Ba.length:Int) > 0
     ·rw [if_pos WD] at H;have Zz:decide (0 < (Ba.length:Int))=true:=decide_eq_true WD;have UT:decide (0 < Ba.length)=true:=decide_eq_true (by omega);clear WD;obtain ⟨Nc,TC⟩:∃ j_:Int,(wrap64 ((Ba.length:Int) - 1))=j_:=⟨_,rfl⟩;replace H:(if 0 ≤ (Nc) then (if (Nc) < (Ba.length:Int) then (if (Nc) ≤ (Ba.length:Int) then ((some (Ba.take ((Nc):Int).toNat:List Int)).bind fun Eh=>(if 0 ≤ (rd Ba (Nc)) then (if (rd Ba (Nc)) < (jc.length:Int) then (if Tf false jc (rd Ba (Nc))=true then (nc.l0 k1 jc Cb Eh Ma Pa Qa Oa za) else (if Cb.length < 17592186044416 then (if (rd Ba (Nc)) < (za.length:Int) then ((xe.f ((Ga za (rd Ba (Nc))).f0) ((Ga za (rd Ba (Nc))).f1) ((Ga za (rd Ba (Nc))).f2) ((Ga za (rd Ba (Nc))).f3) ((Ga za (rd Ba (Nc))).f4)).bind fun t121=>((Na.f k1 t121).bind fun t124=>(if Eh.length + t124.length < 17592186044416 then (nc.l0 k1 (jc.set ((rd Ba (Nc)):Int).toNat true) (Cb ++ [rd Ba (Nc)]) (Eh ++ t124) Ma Pa Qa Oa za) else (none)))) else (none)) else (none))) else (none)) else (none))) else (none)) else (none)) else (none))=some r:=by first|(rw [TC] at H;exact H)|(simp only [TC] at H ⊢;exact H)
      have M0:(IntKind.i64.wrap ((Ba.length:Int) - 1))=Nc:=(Eb _).trans TC
      by_cases ny:0 ≤ (Nc)
      ·rw [if_pos ny] at H;have xw:decide (0 ≤ (Nc))=true:=decide_eq_true ny;clear ny
       by_cases IJ:(Nc) < (Ba.length:Int)
       ·rw [if_pos IJ] at H;have JM:decide ((Nc) < (Ba.length:Int))=true:=decide_eq_true IJ;clear IJ
        by_cases xI:(Nc) ≤ (Ba.length:Int)
        ·rw [if_pos xI] at H;have IM:=eq_true xI;have L_:decide ((Nc) ≤ (Ba.length:Int))=true:=decide_eq_true xI;clear xI;obtain ⟨Eh,Gj⟩:∃ y_:List Int,y_=(Ba.take ((Nc):Int).toNat):=⟨_,rfl⟩;replace H:(if 0 ≤ (rd Ba (Nc)) then (if (rd Ba (Nc)) < (jc.length:Int) then (if Tf false jc (rd Ba (Nc))=true then (nc.l0 k1 jc Cb Eh Ma Pa Qa Oa za) else (if Cb.length < 17592186044416 then (if (rd Ba (Nc)) < (za.length:Int) then ((xe.f ((Ga za (rd Ba (Nc))).f0) ((Ga za (rd Ba (Nc))).f1) ((Ga za (rd Ba (Nc))).f2) ((Ga za (rd Ba (Nc))).f3) ((Ga za (rd Ba (Nc))).f4)).bind fun t121=>((Na.f k1 t121).bind fun t124=>(if Eh.length + t124.length < 17592186044416 then (nc.l0 k1 (jc.set ((rd Ba (Nc)):Int).toNat true) (Cb ++ [rd Ba (Nc)]) (Eh ++ t124) Ma Pa Qa Oa za) else (none)))) else (none)) else (none))) else (none)) else (none))=some r:=by first|(rw [Gj];with_reducible exact H)|(have Mc:=(Option.bind_some _ _).symm.trans H;rw [Gj];with_reducible exact Mc)|(have Mc:=(Option.bind_some _ _).symm.trans H;with_reducible exact Mc)|with_reducible exact H|(rw [Gj];exact H)|exact H
         have bt:=aa.mk Gj;clear Gj
         by_cases GJ:0 ≤ (rd Ba (Nc))
         ·rw [if_pos GJ] at H;have K_:decide (0 ≤ (rd Ba (Nc)))=true:=decide_eq_true GJ;clear GJ
          by_cases vw:(rd Ba (Nc)) < (jc.length:Int)
          ·rw [if_pos vw] at H;have uw:decide ((rd Ba (Nc)) < (jc.length:Int))=true:=decide_eq_true vw;clear vw;obtain ⟨YT,QH⟩:∃ b_:Bool,b_=(Tf false jc (rd Ba (Nc))):=⟨_,rfl⟩;replace H:(if YT=true then (nc.l0 k1 jc Cb Eh Ma Pa Qa Oa za) else (if Cb.length < 17592186044416 then (if (rd Ba (Nc)) < (za.length:Int) then ((xe.f ((Ga za (rd Ba (Nc))).f0) ((Ga za (rd Ba (Nc))).f1) ((Ga za (rd Ba (Nc))).f2) ((Ga za (rd Ba (Nc))).f3) ((Ga za (rd Ba (Nc))).f4)).bind fun t121=>((Na.f k1 t121).bind fun t124=>(if Eh.length + t124.length < 17592186044416 then (nc.l0 k1 (jc.set ((rd Ba (Nc)):Int).toNat true) (Cb ++ [rd Ba (Nc)]) (Eh ++ t124) Ma Pa Qa Oa za) else (none)))) else (none)) else (none)))=some r:=by rw [← QH] at H;exact H
           have UM:=aa.mk QH;clear QH
           by_cases EA:YT=true
           ·subst EA;rw [if_pos rfl] at H;have H':=aa.mk H;clear H;obtain ⟨Jad,V4,D4⟩:=Kd.ic Df.out;subst D4;have cB:0 ≤ ((Nc):Int):=Ia;have XA:(Nc) < (Ba.length:Int):=Ia;obtain ⟨Cw,YP,wK⟩:=Kd.Ud (Kd.Wa Df.out).2.2 (Nc) cB XA;cases YP;replace cB:=eq_true cB;replace XA:=eq_true XA;have ZJ:((Nc):Int) ≤ ((Ba.length:Int):Int):=Ia;obtain ⟨AZ,jz,_,NC,_⟩:=info_parts info3;have tB:=KB (P:=Try.prog) 22 3 .i64 Try.underlying22 jz (some Cw) Ba.length V4 (Nc) (Ia) ZJ (Kd.Wa Df.out).2.1;have Pv:=Kd.Tx (m:=((Nc):Int).toNat) Df.out (by omega);have kF:Eh.length=((Nc):Int).toNat:=(by rw [bt.out,List.length_take];omega);rw [← bt.out] at Pv;rw [← kF] at Pv tB;clear kF jz NC Df;have Fi:=aa.mk Pv;clear Pv;replace ZJ:=eq_true ZJ;obtain ⟨Iad,nac,C4⟩:=Kd.ic Ub.out;subst C4;have Fp:0 ≤ ((rd Ba (Nc)):Int):=Ia;have Cp:(rd Ba (Nc)) < (jc.length:Int):=Ia;obtain ⟨dA,IB,zo⟩:=Kd.Ui (Kd.Wa Ub.out).2.2 (rd Ba (Nc)) Fp Cp;(try rw [← UM.out] at zo);cases IB;replace Fp:=eq_true Fp;replace Cp:=eq_true Cp;go_wp2
            go_roundg k1
            case measure=>have:=Gf.out;omega
            case rel=>exact ⟨(jc),(Cb),(Eh),H',⟨by have:=Gf.out;omega⟩,⟨zaf⟩,⟨yaf⟩,⟨by (with_reducible repeat (first|apply Kd.Ka|apply Kd.La|apply Kd.Sa));exact Fi.out⟩,⟨faf⟩,⟨aaf⟩⟩
           ·replace EA:=Bool.eq_false_iff.mpr EA;subst EA;rw [if_neg (show ¬ (false=true) by decide)] at H;obtain ⟨ZF,az⟩:∃ y_:List Bool,y_=(jc.set ((rd Ba (Nc)):Int).toNat true):=⟨_,rfl⟩;replace H:(if Cb.length < 17592186044416 then (if (rd Ba (Nc)) < (za.length:Int) then ((xe.f ((Ga za (rd Ba (Nc))).f0) ((Ga za (rd Ba (Nc))).f1) ((Ga za (rd Ba (Nc))).f2) ((Ga za (rd Ba (Nc))).f3) ((Ga za (rd Ba (Nc))).f4)).bind fun t121=>((Na.f k1 t121).bind fun t124=>(if Eh.length + t124.length < 17592186044416 then (nc.l0 k1 ZF (Cb ++ [rd Ba (Nc)]) (Eh ++ t124) Ma Pa Qa Oa za) else (none)))) else (none)) else (none))=some r:=by first|(rw [az];with_reducible exact H)|(have Mc:=(Option.bind_some _ _).symm.trans H;rw [az];with_reducible exact Mc)|(have Mc:=(Option.bind_some _ _).symm.trans H;with_reducible exact Mc)|with_reducible exact H|(rw [az];exact H)|exact H
            have yU:=aa.mk az;clear az
            by_cases UF:Cb.length < 17592186044416
            ·rw [if_pos UF] at H;have IU:=aa.mk UF;clear UF;obtain ⟨yE,Qn⟩:∃ y_:List Int,y_=(Cb ++ [rd Ba (Nc)]):=⟨_,rfl⟩;replace H:(if (rd Ba (Nc)) < (za.length:Int) then ((xe.f ((Ga za (rd Ba (Nc))).f0) ((Ga za (rd Ba (Nc))).f1) ((Ga za (rd Ba (Nc))).f2) ((Ga za (rd Ba (Nc))).f3) ((Ga za (rd Ba (Nc))).f4)).bind fun t121=>((Na.f k1 t121).bind fun t124=>(if Eh.length + t124.length < 17592186044416 then (nc.l0 k1 ZF yE (Eh ++ t124) Ma Pa Qa Oa za) else (none)))) else (none))=some r:=by first|(rw [Qn];with_reducible exact H)|(have Mc:=(Option.bind_some _ _).symm.trans H;rw [Qn];with_reducible exact Mc)|(have Mc:=(Option.bind_some _ _).symm.trans H;with_reducible exact Mc)|with_reducible exact H|(rw [Qn];exact H)|exact H
             have eE:=aa.mk Qn;clear Qn
             by_cases oY:(rd Ba (Nc)) < (za.length:Int)
             ·rw [if_pos oY] at H;have J_:decide ((rd Ba (Nc)) < (za.length:Int))=true:=decide_eq_true oY;clear oY;replace H:=Option.bind_eq_some_iff.mp H;obtain ⟨t121,XV,H⟩:=H
              try dsimp only at H
              have mR:=aa.mk XV;clear XV;replace H:=Option.bind_eq_some_iff.mp H;obtain ⟨t124,WV,H⟩:=H
              try dsimp only at H
              have A28:=aa.mk WV;clear WV
              by_cases FJ:Eh.length + t124.length < 17592186044416
              ·rw [if_pos FJ] at H;have GU:=aa.mk FJ;clear FJ;obtain ⟨xE,Mn⟩:∃ y_:List Int,y_=(Eh ++ t124):=⟨_,rfl⟩;replace H:(nc.l0 k1 ZF yE xE Ma Pa Qa Oa za)=some r:=by first|(rw [Mn];with_reducible exact H)|(have Mc:=(Option.bind_some _ _).symm.trans H;rw [Mn];with_reducible exact Mc)|(have Mc:=(Option.bind_some _ _).symm.trans H;with_reducible exact Mc)|with_reducible exact H|(rw [Mn];exact H)|exact H
               have TI:=aa.mk Mn;clear Mn;have H':=aa.mk H;clear H;obtain ⟨Ead,TK,Z3⟩:=Kd.ic Df.out;subst Z3;have cB:0 ≤ ((Nc):Int):=Ia;have XA:(Nc) < (Ba.length:Int):=Ia;obtain ⟨Cw,YP,wK⟩:=Kd.Ud (Kd.Wa Df.out).2.2 (Nc) cB XA;cases YP;replace cB:=eq_true cB;replace XA:=eq_true XA;have rZ:((Nc):Int) ≤ ((Ba.length:Int):Int):=Ia;obtain ⟨kab,eM,_,iS,_⟩:=info_parts info3;have zP:=KB (P:=Try.prog) 22 3 .i64 Try.underlying22 eM (some Cw) Ba.length TK (Nc) (Ia) rZ (Kd.Wa Df.out).2.1;have zK:=Kd.Tx (m:=((Nc):Int).toNat) Df.out (by omega);have ZR:Eh.length=((Nc):Int).toNat:=(by rw [bt.out,List.length_take];omega);rw [← bt.out] at zK;rw [← ZR] at zK zP;clear ZR eM iS Df;have Fi:=aa.mk zK;clear zK;replace rZ:=eq_true rZ;obtain ⟨Dad,gQ,Y3⟩:=Kd.ic Ub.out;subst Y3;have Fp:0 ≤ ((rd Ba (Nc)):Int):=Ia;have Cp:(rd Ba (Nc)) < (jc.length:Int):=Ia;obtain ⟨dA,IB,zo⟩:=Kd.Ui (Kd.Wa Ub.out).2.2 (rd Ba (Nc)) Fp Cp;(try rw [← UM.out] at zo);cases IB;replace Fp:=eq_true Fp;replace Cp:=eq_true Cp;have xZ:0 ≤ ((rd Ba (Nc)):Int):=Ia;have sZ:((rd Ba (Nc)):Int) < ((jc.length:Int):Int):=Ia;obtain ⟨TH,kI,PK,eT,G3,uac,BV⟩:=Kd.Uh Ub.out (by omega);(first|cases PK|(injection PK with qi Dt Et;(first|subst qi|(injection qi with qi;subst qi));subst Et;clear Dt));have l6:=aa.mk eT;have sad:=aa.mk BV;clear eT G3 BV;(first|simp only [add_plain] at zo|skip);obtain ⟨GZ,J1⟩:=Kd.Yf false Ub.out ((rd Ba (Nc)):Int) xZ sZ;replace xZ:=eq_true xZ;replace sZ:=eq_true sZ;have OQ:=Kd.kj Ub.out ((rd Ba (Nc)):Int) true;go_wp2_with (first|((with_reducible refine Od (t:=4) (p:=34) rfl ?_);refine Uc (t:=4) (p:=34) (v:=?UY) (w1:=(wr.setCell ⟨TH,((rd Ba (Nc)):Int).toNat,none⟩ (.bool true))) ?hg ?ho ?hn ?hr ?_;(case ho=>rfl);(case hg=>rfl);(case hn=>rfl);(case hr=>exact Vae);intro MY hw;have hg:wr.grownBy MY (some TH):=(by rw [hw];exact OQ.2);have Si:Kd.R Kd.bool 4 MY w.heap.size (fun _=>True) (.slice (some ⟨TH,0,none⟩) jc.length gQ) ZF:=(by rw [hw,yU.out];exact OQ.1);clear OQ;have Kb:=aa.mk (Si);have Ob:=aa.mk (Kd.wj (v:=(.slice (some ⟨TH,0,none⟩) jc.length gQ)) gaf (Kd.tj Ub.out) (by decide) hg);have fc:=aa.mk (Kd.wj (v:=(.slice (some ⟨TH,0,none⟩) jc.length gQ)) Daf (Kd.tj Ub.out) (by decide) hg);have Sc:=aa.mk (yf (g:=Ja) (o:=.cells #[.slice Bb Ma.length Ab,.int .i64 Pa,.int .i64 Qa,.int .i64 Oa,.slice Qb za.length Gb] 45 (0,0)) Zae hg (Kd.Pp Ub.out ta.out (by decide)));have uf:=aa.mk ((by rw [hw];exact ya (HB.out) l6.out:Below w.heap.size w MY));clear Ub Cc Fi ta HB;have Ub:=Kb;have Cc:=Ob;have Fi:=fc;have ta:=Sc;have HB:=uf;clear Kb Ob fc Sc uf hg hw Si)|((with_reducible refine Xg (b:=.append) (xs:=#[.tmp 35,.tmp 37]) rfl ?_);at_builtin;refine Kd.Sl (Kd.int .i64) (w0:=w) w.heap.size rfl (.tmp 35) (.tmp 37) 22 3 (.int .i64 0) 8 rfl Try.underlying22 info3 rfl (by decide) (by omega) u4 Cb (rd Ba (Nc)) [.int .i64 (rd Ba (Nc))] (fun k_=>some k_ ≠ (.slice (some Cw) Eh.length TK:Value).ownBlock) (fun _=>False) rfl rfl ?aP (fun _ hk=>hk.elim) ?aF ?aO ?aB ?aS ?aL ?_;(case aP=>exact rfl);(case aB=>exact Xae);(case aF=>exact (fun k_ hk=>Kd.fresh' (Kd.ek Daf) k_ hk));(case aO=>exact gaf);(case aS=>exact (Ra Xae));(case aL=>have:=IU.out;omega);intro uy qR ho hb hg hat;rw [← eE.out] at ho;have Kb:=aa.mk (Kd.wj iaf (Kd.tj gaf) (by decide) hg);have Ob:=aa.mk (Kd.kg (ok:=(fun _=>True)) (by (with_reducible repeat (first|apply Kd.Ka|apply Kd.La|apply Kd.Sa));exact Kd.Db Fi.out (fun _ hk=>⟨trivial,hk⟩)) hg hat);have fc:=aa.mk (yf (g:=Ja) (o:=.cells #[.slice Bb Ma.length Ab,.int .i64 Pa,.int .i64 Qa,.int .i64 Oa,.slice Qb za.length Gb] 45 (0,0)) Zae hg (Kd.Pp Cc.out ta.out (by decide)));have Sc:=aa.mk (hb);have uf:=aa.mk (ho);clear Ub Fi ta HB Cc;have Ub:=Kb;have Fi:=Ob;have ta:=fc;have HB:=Sc;have Bl:=uf;clear Kb Ob fc Sc uf ho hb hg hat;have rX:qR.cell? ⟨Ja,0,none⟩=some (.slice Bb Ma.length Ab):=(qa ta.out 0).trans rfl;have qX:qR.cell? ⟨Ja,1,none⟩=some (.int .i64 Pa):=(qa ta.out 1).trans rfl;have pX:qR.cell? ⟨Ja,2,none⟩=some (.int .i64 Qa):=(qa ta.out 2).trans rfl;have oX:qR.cell? ⟨Ja,3,none⟩=some (.int .i64 Oa):=(qa ta.out 3).trans rfl;have nX:qR.cell? ⟨Ja,4,none⟩=some (.slice Qb za.length Gb):=(qa ta.out 4).trans rfl;have EW:=Aa ta.out 0;have DW:=Aa ta.out 1;have CW:=Aa ta.out 2;have AW:=Aa ta.out 3;have zW:=Aa ta.out 4;have Ep:0 ≤ ((rd Ba (Nc)):Int):=Ia;have Bp:(rd Ba (Nc)) < (za.length:Int):=Ia;obtain ⟨fk,nR,mQ,FB,sj,EC,DC,CC,BC,PC,UC⟩:=Nk Ei.out (rd Ba (Nc)) Ep Bp;cases FB;replace sj:=Jb HB.out sj;replace EC:=Jb HB.out EC;replace DC:=Jb HB.out DC;replace CC:=Jb HB.out CC;replace BC:=Jb HB.out BC;have vL:=aa.mk UC;have CL:=aa.mk PC;clear UC PC;replace Ep:=eq_true Ep;replace Bp:=eq_true Bp)|((with_reducible refine Sb (f:=75) rfl ?_);refine Ke (some 44) rfl rfl Try.func75 (by kernel_rfl) rfl #[.agg #[.slice nR ((Ga za (rd Ba (Nc))).f0).length mQ,.int .i64 ((Ga za (rd Ba (Nc))).f1),.int .i64 ((Ga za (rd Ba (Nc))).f2),.int .i64 ((Ga za (rd Ba (Nc))).f3),.int .i64 ((Ga za (rd Ba (Nc))).f4)]] rfl (by (try simp only [List.map_toArray,List.map_cons,List.map_nil]);first|done|(simp only [TC];rfl)|rfl|(simp only [List.length_drop,List.length_take];rfl)) ?_;(with_reducible refine (xe.calls _ _ ((Ga za (rd Ba (Nc))).f0) ((Ga za (rd Ba (Nc))).f1) ((Ga za (rd Ba (Nc))).f2) ((Ga za (rd Ba (Nc))).f3) ((Ga za (rd Ba (Nc))).f4) t121 _ ?Gd ?Ed mR.out).mono ?_);(case Gd=>repeat (first|exact (Kd.yb vL.out HB.out)|(with_reducible refine Kd.ee ?_ _)|(with_reducible refine Kd.Zd ?_ _)|(with_reducible refine Kd.We ?_)));(case Ed=>exact CL.out);rintro e NR ⟨cab,rfl,uh,hb⟩;refine ⟨_,rfl,?_⟩;have Kb:=aa.mk (Kd.Xb iaf hb);have Ob:=aa.mk (Kd.mh Daf (Kd.ug uh) hb);have fc:=aa.mk (Kd.mh (by (with_reducible repeat (first|apply Kd.Ka|apply Kd.La|apply Kd.Sa));exact Bl.out) (Kd.ug uh) hb);have Sc:=aa.mk (Kd.Xc (Kd.Wi (Kd.Wi uh (Kd.ek Daf)) (Kd.ek (by (with_reducible repeat (first|apply Kd.Ka|apply Kd.La|apply Kd.Sa));exact Bl.out))) (Ra Xae));have uf:=aa.mk (Ua (g:=Ja) (o:=.cells #[.slice Bb Ma.length Ab,.int .i64 Pa,.int .i64 Qa,.int .i64 Oa,.slice (some fk) za.length Gb] 45 (0,0)) Zae hb);have qh:=aa.mk (Fa Xae hb);clear Ub Fi Bl ta HB;have Ub:=Kb;have Fi:=Ob;have Bl:=fc;have Al:=Sc;have ta:=uf;have HB:=qh;clear Kb Ob fc Sc uf qh;(try clear hb);(try clear Vk);(try clear hk);(try clear hi);(try clear uh);obtain ⟨xA,Vz,OP⟩:=Kd.ic Al.out;subst OP)|((with_reducible refine Sb (f:=107) rfl ?_);refine Ke (some 46) rfl rfl Try.func107 (by kernel_rfl) rfl #[.slice xA t121.length Vz] rfl baf ?_;(with_reducible refine (Na.calls k1 (fun k_=>some k_=(.slice xA t121.length Vz:Value).ownBlock) (.slice xA t121.length Vz) t121 t124 w _ ?Gd ?Ed A28.out).mono ?_);(case Gd=>repeat (first|(with_reducible first|exact HB.out|apply ia|apply ga|apply ja|refine ya ?_ mb.out)|exact HB.out));(case Ed=>exact Kd.uj rfl Al.out);rintro e w39 ⟨rfl,hy0,hb,hkp⟩;refine ⟨_,rfl,?_⟩;have Kb:=aa.mk (Kd.Db (Wk:=fun k_=>True) (Kd.qu ((Kd.jo Ub.out (Kd.tj Al.out) (by decide))) hkp (fun k_ Ir hs_=>(Ir.2) hs_)) (fun k_ Ir=>trivial));have Ob:=aa.mk (Kd.Db (Wk:=fun k_=>some k_ ≠ (uy:Value).ownBlock∧some k_ ≠ (.slice xA t121.length Vz:Value).ownBlock) (Kd.qu (Fi.out) hkp (fun k_ Ir hs_=>(Ir.2) hs_)) (fun k_ Ir=>⟨Ir.1.1.2,Ir.1.2⟩));have fc:=aa.mk (jg Zae hkp (fun hs_=>(fun e_=>(Kd.Pp Al.out ta.out (by decide)) e_) hs_));have Sc:=aa.mk (Kd.Db (Wk:=fun k_=>some k_ ≠ (.slice (some Cw) Eh.length TK:Value).ownBlock∧some k_ ≠ (.slice xA t121.length Vz:Value).ownBlock) (Kd.qu (Bl.out) hkp (fun k_ Ir hs_=>(Ir.2) hs_)) (fun k_ Ir=>⟨Ir.1.1,Ir.1.2⟩));have uf:=aa.mk (Kd.OI rfl hy0 (fun k_ e_=>Al.out.1 k_ e_));have qh:=aa.mk (hb);clear Ub Fi ta Bl Al HB;have Ub:=Kb;have Fi:=Ob;have ta:=fc;have Bl:=Sc;have Al:=uf;have HB:=qh;clear Kb Ob fc Sc uf qh;(try clear hb);(try clear hkp);(try clear hy0))|((with_reducible refine Xg (b:=.append) (xs:=#[.tmp 47,.tmp 48]) rfl ?_);at_builtin;refine Kd.lp (Kd.int .i64) (w0:=w) w.heap.size rfl (.tmp 47) (.tmp 48) 22 3 (.int .i64 0) 8 rfl Try.underlying22 info3 rfl (by decide) (by omega) (.slice (some Cw) Eh.length TK) Eh t124 _ _ _ (fun k_=>some k_ ≠ (uy:Value).ownBlock∧some k_ ≠ (.slice xA t121.length Vz:Value).ownBlock) (fun _=>False) rfl rfl ?aO ?aR (fun _ _ h=>h) (fun _ h=>h.elim) ?aF ?aB ?aS ?aL ?_;(case aR=>rw [show t121.length=t124.length from (Kd.Wa Al.out).1];repeat (first|exact (Kd.Wa Al.out).2.2|(with_reducible refine Kd.ee ?_ _)|(with_reducible refine Kd.Zd ?_ _)|(with_reducible refine Kd.We ?_)));(case aB=>exact Xae);(case aF=>exact (fun k_ hk=>⟨Kd.fresh' (Kd.ek (by (with_reducible repeat (first|apply Kd.Ka|apply Kd.La|apply Kd.Sa));exact Bl.out)) k_ hk,Kd.fresh' (Kd.ek (by (with_reducible repeat (first|apply Kd.Ka|apply Kd.La|apply Kd.Sa));exact Al.out)) k_ hk⟩));(case aO=>exact Daf);(case aS=>exact (Ra Xae));(case aL=>have:=GU.out;have Fab:=(Kd.Wa Al.out).1;omega);intro bab w40 ho hb hg hat;rw [← TI.out] at ho;have Kb:=aa.mk (Kd.wj iaf (Kd.tj Daf) (by decide) hg);have Ob:=aa.mk (yf (g:=Ja) (o:=.cells #[.slice Bb Ma.length Ab,.int .i64 Pa,.int .i64 Qa,.int .i64 Oa,.slice (some fk) za.length Gb] 45 (0,0)) Zae hg (Kd.Pp Fi.out ta.out (by decide)));have fc:=aa.mk (Kd.kg (ok:=(fun k_=>some k_ ≠ (.slice xA t121.length Vz:Value).ownBlock)) (by (with_reducible repeat (first|apply Kd.Ka|apply Kd.La|apply Kd.Sa));exact Kd.Db Bl.out (fun _ hk=>⟨hk.2,hk.1⟩)) hg hat);have Sc:=aa.mk (Kd.kg (ok:=(fun k_=>some k_ ≠ (uy:Value).ownBlock)) (by (with_reducible repeat (first|apply Kd.Ka|apply Kd.La|apply Kd.Sa));exact Kd.Db Al.out (fun _ hk=>⟨hk.2,hk.1.2⟩)) hg hat);have uf:=aa.mk (hb);have qh:=aa.mk (ho);clear Ub ta Bl Al HB Fi;have Ub:=Kb;have ta:=Ob;have Bl:=fc;have Al:=Sc;have HB:=uf;have kV:=qh;clear Kb Ob fc Sc uf qh ho hb hg hat))
               go_roundg k1
               case measure=>have:=Gf.out;omega
               case rel=>exact ⟨(ZF),(yE),(xE),H',⟨by have:=Gf.out;omega⟩,⟨zaf⟩,⟨by (with_reducible repeat (first|apply Kd.Ka|apply Kd.La|apply Kd.Sa));exact Kd.Db Bl.out (fun _ hk=>hk.2)⟩,⟨by (with_reducible repeat (first|apply Kd.Ka|apply Kd.La|apply Kd.Sa));exact Kd.Db kV.out (fun _ hk=>hk.1)⟩,⟨faf⟩,⟨aaf⟩⟩
              ·rw [if_neg FJ] at H;exact absurd H (by simp)
             ·rw [if_neg oY] at H;exact absurd H (by simp)
            ·rw [if_neg UF] at H;exact absurd H (by simp)
          ·rw [if_neg vw] at H;exact absurd H (by simp)
         ·rw [if_neg GJ] at H;exact absurd H (by simp)
        ·rw [if_neg xI] at H;exact absurd H (by simp)
       ·rw [if_neg IJ] at H;exact absurd H (by simp)
      ·rw [if_neg ny] at H;exact absurd H (by simp)
     ·rw [if_neg WD] at H;have Zz:decide (0 < (Ba.length:Int))=false:=decide_eq_false WD;have UT:decide (0 < Ba.length)=false:=decide_eq_false (by omega);clear WD;obtain rfl:=Option.some.inj H;obtain ⟨o6,R4,MP⟩:=Kd.ic Df.out;subst MP;go_wp2;go_ret;exact ⟨_,eaf,by (with_reducible repeat (first|apply Kd.Ka|apply Kd.La|apply Kd.Sa));exact Kd.Db Cc.out (fun _ hk=>trivial),aaf⟩
  ·rw [if_neg c3] at H;exact absurd H (by simp)
 ·rw [if_neg c2] at H;exact absurd H (by simp)
inductive Rk (nx:Nat→List Int):Nat→Prop
 | zero:Rk nx 0
 | step {i:Nat} {j:Int}:Rk nx i→j ∈ nx i→Rk nx j.toNat
def seen (s:List Bool) (j:Nat):Bool:=s.getD j false
theorem bh {s:List Bool} {i j:Nat} (hi:i < s.length):seen (s.set i true) j=(decide (i=j) || seen s j):=by
 unfold seen;rw [List.getD_eq_getElem?_getD,List.getD_eq_getElem?_getD,List.getElem?_set]
 by_cases h:i=j
 ·simp [h];subst h;simp [hi]
 ·simp [h]
def news (s:List Bool):Nat:=s.count false
theorem fq {s:List Bool} {i:Nat} (hi:i < s.length) (h:seen s i=false):news (s.set i true) + 1=news s:=by
 unfold news;rw [List.count_set hi];unfold seen at h;rw [List.getD_eq_getElem?_getD,List.getElem?_eq_getElem hi] at h;have h':s[i]=false:=by simpa using h
 have hp:0 < s.count false:=List.count_pos_iff.mpr (h' ▸ List.getElem_mem hi);simp [h'];omega
def me (p:List Bool × List Int) (j:Int):List Bool × List Int:=if seen p.1 j.toNat=true then p else (p.1.set j.toNat true,p.2 ++ [j])
structure cw (n:Nat) (nx:Nat→List Int) (s:List Bool) (q:List Int):Prop where
 len:s.length=n
 fG:∀ j ∈ q,0 ≤ j∧j < n∧seen s j.toNat=true
 AA:∀ j,seen s j=true→Rk nx j
 cap:q.length + news s ≤ n
 PJ:seen s 0=true
def Shut (nx:Nat→List Int) (s:List Bool) (q:List Int) (i:Nat):Prop:=∀ j,seen s j=true→(j:Int) ∉ q→j ≠ i→∀ m ∈ nx j,seen s m.toNat=true
theorem oG {n:Nat} {nx:Nat→List Int} {s:List Bool} {q:List Int} {i:Nat} (h:cw n nx s q) (hs:Shut nx s q i) {j:Int} (h0:0 ≤ j) (h1:j < n) (hr:Rk nx j.toNat) :
  cw n nx (me (s,q) j).1 (me (s,q) j).2∧Shut nx (me (s,q) j).1 (me (s,q) j).2 i∧seen (me (s,q) j).1 j.toNat=true∧(∀ m,seen s m=true→seen (me (s,q) j).1 m=true)∧2 * news (me (s,q) j).1 + (me (s,q) j).2.length ≤ 2 * news s + q.length:=by
 have hl:j.toNat < s.length:=by rw [h.len];omega
 unfold me
 by_cases hc:seen s j.toNat=true
 ·simp only [if_pos hc];exact ⟨h,hs,hc,fun m hm=>hm,Nat.le_refl _⟩
 ·simp only [if_neg hc];have hf:seen s j.toNat=false:=by simpa using hc
  have hn:=fq hl hf;have hk:∀ m,seen s m=true→seen (s.set j.toNat true) m=true:=fun m hm=>by rw [bh hl,hm,Bool.or_true]
  refine ⟨⟨?_,?_,?_,?_,?_⟩,?_,?_,hk,?_⟩
  ·rw [List.length_set];exact h.len
  ·intro m hm
   rcases List.mem_append.mp hm with hm|hm
   ·obtain ⟨a,b,c⟩:=h.fG m hm;exact ⟨a,b,hk _ c⟩
   ·rw [List.mem_singleton] at hm;subst hm;refine ⟨h0,h1,?_⟩;rw [bh hl];simp
  ·intro m hm;rw [bh hl] at hm
   by_cases e:j.toNat=m
   ·rw [← e];exact hr
   ·simp [e] at hm;exact h.AA m hm
  ·have:=h.cap;rw [List.length_append,List.length_singleton];omega
  ·exact hk _ h.PJ
  ·intro a ha hq hi m hm;rw [bh hl] at ha
   have hq':(a:Int) ∉ q∧(a:Int) ≠ j:=by
    rw [List.mem_append,List.mem_singleton] at hq;exact ⟨fun x=>hq (Or.inl x),fun x=>hq (Or.inr x)⟩
   have e:j.toNat ≠ a:=fun e=>hq'.2 (by omega)
   simp [e] at ha;exact hk _ (hs a ha hq'.1 hi m hm)
  ·rw [bh hl];simp
  ·rw [List.length_append,List.length_singleton];omega
theorem Py {n:Nat} {nx:Nat→List Int} {i:Nat} (hi:Rk nx i):∀ (l:List Int) (s:List Bool) (q:List Int),cw n nx s q→Shut nx s q i→(∀ j ∈ l,0 ≤ j∧j < n∧j ∈ nx i) →
  cw n nx (l.foldl me (s,q)).1 (l.foldl me (s,q)).2∧Shut nx (l.foldl me (s,q)).1 (l.foldl me (s,q)).2 i∧(∀ j ∈ l,seen (l.foldl me (s,q)).1 j.toNat=true)∧(∀ m,seen s m=true→seen (l.foldl me (s,q)).1 m=true)∧2 * news (l.foldl me (s,q)).1 + (l.foldl me (s,q)).2.length ≤ 2 * news s + q.length:=by
 intro l
 induction l with
 | nil=>intro s q h hs _;exact ⟨h,hs,fun j hj=>absurd hj (by simp),fun m hm=>hm,Nat.le_refl _⟩
 | cons j l ih =>
  intro s q h hs hl;obtain ⟨a,b,c⟩:=hl j (by simp);obtain ⟨p1,p2,p3,p4,p5⟩:=oG h hs a b (Rk.step hi c);obtain ⟨q1,q2,q3,q4,q5⟩:=ih _ _ p1 p2 (fun m hm=>hl m (by simp [hm]));refine ⟨q1,q2,?_,fun m hm=>q4 m (p4 m hm),Nat.le_trans q5 p5⟩;intro m hm
  rcases List.mem_cons.mp hm with e|hm
  ·subst e;exact q4 _ p3
  ·exact q3 m hm
structure Ft (n:Nat) (nx:Nat→List Int) (s:List Bool) (q:List Int):Prop where
 len:s.length=n
 fG:∀ j ∈ q,0 ≤ j∧j < n∧Rk nx j.toNat
 AA:∀ j,seen s j=true→Rk nx j
 cap:q.length + 2 * news s ≤ 1 + 2 * n
 PJ:seen s 0=true ∨ (0:Int) ∈ q
 shut:∀ j,seen s j=true→∀ m ∈ nx j,seen s m.toNat=true ∨ m ∈ q
theorem bG {n:Nat} {nx:Nat→List Int} {s:List Bool} {i:Int} {q:List Int} (hn:∀ a,a < n→(nx a).length ≤ 2∧∀ j ∈ nx a,0 ≤ j∧j < n) (h:Ft n nx s (i :: q)) (hf:seen s i.toNat=false):Ft n nx (s.set i.toNat true) (q ++ nx i.toNat):=by
 obtain ⟨h0,h1,hr⟩:=h.fG i (by simp);have hl:i.toNat < s.length:=by rw [h.len];omega
 obtain ⟨n1,n2⟩:=hn i.toNat (by omega);have hw:=fq hl hf;refine ⟨by rw [List.length_set];exact h.len,?_,?_,?_,?_,?_⟩
 ·intro j hj
  rcases List.mem_append.mp hj with hj|hj
  ·exact h.fG j (by simp [hj])
  ·exact ⟨(n2 j hj).1,(n2 j hj).2,Rk.step hr hj⟩
 ·intro m hm;rw [bh hl] at hm
  by_cases e:i.toNat=m
  ·rw [← e];exact hr
  ·simp [e] at hm;exact h.AA m hm
 ·have:=h.cap;rw [List.length_cons] at this;rw [List.length_append];omega
 ·rw [bh hl]
  rcases h.PJ with z|z
  ·left;rw [z,Bool.or_true]
  ·rcases List.mem_cons.mp z with z|z
   ·left
    rw [← z];simp
   ·right
    exact List.mem_append.mpr (Or.inl z)
 ·intro j hj m hm;rw [bh hl] at hj
  by_cases e:i.toNat=j
  ·right
   rw [← e] at hm;exact List.mem_append.mpr (Or.inr hm)
  ·simp [e] at hj;rw [bh hl]
   rcases h.shut j hj m hm with z|z
   ·left;rw [z,Bool.or_true]
   ·rcases List.mem_cons.mp z with z|z
    ·left
     rw [z];simp
    ·right
     exact List.mem_append.mpr (Or.inl z)
theorem dG {n:Nat} {nx:Nat→List Int} {s:List Bool} {i:Int} {q:List Int} (h:Ft n nx s (i :: q)) (hf:seen s i.toNat=true):Ft n nx s q:=by
 refine ⟨h.len,fun j hj=>h.fG j (by simp [hj]),h.AA,?_,?_,?_⟩
 ·have:=h.cap;rw [List.length_cons] at this;omega
 ·rcases h.PJ with z|z
  ·left;exact z
  ·rcases List.mem_cons.mp z with z|z
   ·left
    rw [← z] at hf;exact hf
   ·right;exact z
 ·intro j hj m hm
  rcases h.shut j hj m hm with z|z
  ·left;exact z
  ·rcases List.mem_cons.mp z with z|z
   ·left;rw [z];exact hf
   ·right;exact z
theorem QK {n:Nat} {nx:Nat→List Int} {s:List Bool} (h:cw n nx s []) (hs:∀ j,seen s j=true→∀ m ∈ nx j,seen s m.toNat=true):∀ j,seen s j=true ↔ Rk nx j:=by
 intro j;refine ⟨h.AA j,fun r=>?_⟩
 induction r with
 | zero=>exact h.PJ
 | step _ hm ih=>exact hs _ ih _ hm
theorem RK {n:Nat} {nx:Nat→List Int} {s:List Bool} (h:Ft n nx s []):∀ j,seen s j=true ↔ Rk nx j:=by
 intro j;refine ⟨h.AA j,fun r=>?_⟩
 induction r with
 | zero=>exact h.PJ.resolve_right (by simp)
 | step _ hm ih=>exact (h.shut _ ih _ hm).resolve_right (by simp)
theorem Er (n:Nat):news (List.replicate n false)=n:=by simp [news]
theorem Kl (n j:Nat):seen (List.replicate n false) j=false:=by
 unfold seen;rw [List.getD_eq_getElem?_getD,List.getElem?_replicate]
 by_cases h:j < n
 ·rw [if_pos h];rfl
 ·rw [if_neg h];rfl
theorem Ft.perm {n:Nat} {nx:Nat→List Int} {s:List Bool} {q q':List Int} (h:Ft n nx s q) (hp:∀ x,x ∈ q ↔ x ∈ q') (hl:q.length=q'.length):Ft n nx s q' :=
 ⟨h.len,fun j hj=>h.fG j ((hp j).2 hj),h.AA,by rw [← hl];exact h.cap,h.PJ.imp id (hp 0).1,fun j hj m hm=>(h.shut j hj m hm).imp id (hp m).1⟩
theorem Oz (ys:List Int) (hy:ys.length ≤ 2):Ev (fun k=>Na.f k ys) ys.reverse:=by
 unfold Na.f
 rcases ys with _|⟨a,_|⟨b,_|⟨c,l⟩⟩⟩
 ·rw [show wrap64 ((([]:List Int).length:Int) - 1) = -1 from by rw [Wf (by simp) (by simp)];rfl];refine Ev.step (fun k=>by rw [Na.l0]) ?_;exact Ev.neg (by omega) (Ev.now _)
 ·rw [show wrap64 (([a].length:Int) - 1)=0 from by rw [Wf (by simp) (by simp)];rfl];refine Ev.step (fun k=>by rw [Na.l0]) ?_;exact Ev.neg (by omega) (Ev.now _)
 ·rw [show wrap64 (([a,b].length:Int) - 1)=1 from by rw [Wf (by simp) (by simp)];rfl];refine Ev.step (fun k=>by rw [Na.l0]) ?_;refine Ev.pos (by omega) (Ev.pos (by omega) (Ev.pos (by simp) (Ev.pos (by omega) (Ev.pos (by simp) ?_))));rw [Wf (x:=0 + 1) (by omega) (by omega),Wf (x:=1 - 1) (by omega) (by omega)];refine Ev.step (fun k=>by rw [Na.l0]) ?_;exact Ev.neg (by omega) (Ev.now _)
 ·simp at hy
noncomputable def Vb (bs:List Yd):List Int:=open Classical in ((List.range bs.length).filter fun i=>decide (Rk (Oe bs) i)).map fun (i:Nat)=>(i:Int)
theorem Mf {bs:List Yd} (hE:Vd bs) (j:Int):j ∈ Vb bs ↔ 0 ≤ j∧Rk (Oe bs) j.toNat:=by
 unfold Vb;rw [List.mem_map]
 constructor
 ·rintro ⟨i,hi,rfl⟩;rw [List.mem_filter] at hi;exact ⟨by omega,by simpa using hi.2⟩
 ·rintro ⟨h0,h⟩
  have hlt:j.toNat < bs.length:=by
   have:∀ i,Rk (Oe bs) i→i < bs.length:=by
    intro i hi
    induction hi with
    | zero=>exact hE.1
    | step hr hj ih=>have:=hE.2.2 _ ih _ hj;omega
   exact this _ h
  exact ⟨j.toNat,List.mem_filter.2 ⟨List.mem_range.2 hlt,by simpa using h⟩,by omega⟩
theorem qm {bs:List Yd} (hE:Vd bs) {i:Nat} (h:Rk (Oe bs) i):i < bs.length:=by
 induction h with
 | zero=>exact hE.1
 | step hr hj ih=>have:=hE.2.2 _ ih _ hj;omega
theorem iG (n:Nat):(List.range n).Pairwise (· < ·):=by
 exact List.pairwise_lt_range
theorem UK {l:List Nat} (h:l.Pairwise (· < ·)):(l.map fun (i:Nat)=>(i:Int)).Pairwise (· < ·):=by
 rw [List.pairwise_map];exact h.imp (fun h=>by omega)
theorem vr (bs:List Yd):(Vb bs).Pairwise (· < ·):=by
 unfold Vb;exact UK ((iG _).filter _)
theorem Fl (bs:List Yd):(Vb bs).length ≤ bs.length:=by
 unfold Vb;rw [List.length_map];exact Nat.le_trans (List.length_filter_le _ _) (by rw [List.length_range];exact Nat.le_refl _)
section
variable {l0:List Int} {p v s:Int} {bs:List Yd}
theorem Kz (hE:Vd bs):∀ (m:Nat) (sn:List Bool) (out Lv:List Int),2 * news sn + Lv.length ≤ m→Ft bs.length (Oe bs) sn Lv→(∀ j:Nat,seen sn j=true ↔ (j:Int) ∈ out)→(∀ j ∈ out,0 ≤ j)→out.Nodup→out.length + news sn=bs.length →
  ∃ R,Ev (fun k=>nc.l0 k sn out Lv l0 p v s bs) R∧R.Nodup∧R.length ≤ bs.length∧∀ j:Int,j ∈ R ↔ 0 ≤ j∧Rk (Oe bs) j.toNat:=by
 intro m
 induction m with
 | zero =>
  intro sn out Lv hm hI ZL h0 uR hlen;have hp:Lv=[]:=List.eq_nil_of_length_eq_zero (by omega);subst hp;refine ⟨out,Ev.step (fun k=>by rw [nc.l0]) (Ev.neg (by decide) (Ev.now _)),uR,by omega,fun j=>?_⟩
  constructor
  ·intro hj;have h:=h0 j hj;refine ⟨h,(RK hI _).1 ((ZL _).2 ?_)⟩
   rwa [Int.toNat_of_nonneg h]
  ·rintro ⟨h,hr⟩;have:=(ZL _).1 ((RK hI _).2 hr)
   rwa [Int.toNat_of_nonneg h] at this
 | succ m ih =>
  intro sn out Lv hm hI ZL h0 uR hlen
  by_cases hpe:Lv=[]
  ·subst hpe;refine ⟨out,Ev.step (fun k=>by rw [nc.l0]) (Ev.neg (by decide) (Ev.now _)),uR,by omega,fun j=>?_⟩
   constructor
   ·intro hj;have h:=h0 j hj;refine ⟨h,(RK hI _).1 ((ZL _).2 ?_)⟩
    rwa [Int.toNat_of_nonneg h]
   ·rintro ⟨h,hr⟩;have:=(ZL _).1 ((RK hI _).2 hr)
    rwa [Int.toNat_of_nonneg h] at this
  ·obtain ⟨q,b,rfl⟩:∃ q b,Lv=q ++ [b]:=⟨Lv.dropLast,Lv.getLast hpe,(List.dropLast_concat_getLast hpe).symm⟩;have hcap:=hI.cap;have hnn:news sn ≤ bs.length:=by omega
   have hE2:=hE.2.1;rw [List.length_append,List.length_singleton] at hm hcap;have V2:Ft bs.length (Oe bs) sn (b :: q):=hI.perm (fun x=>by simp [or_comm]) (by simp);obtain ⟨hb0,Xm,XX⟩:=V2.fG b (by simp);have dM:rd (q ++ [b]) (q.length:Int)=b:=by simp [rd]
   have htake:(q ++ [b]).take q.length=q:=by simp
   have hw:wrap64 (((q ++ [b]).length:Int) - 1)=(q.length:Int):=by
    rw [List.length_append,List.length_singleton,Wf (by omega) (by omega)];omega
   have uB:((b.toNat:Nat):Int)=b:=Int.toNat_of_nonneg hb0;have sR:=hI.len;have hrd:Tf false sn b=seen sn b.toNat:=rfl
   by_cases oW:seen sn b.toNat=true
   ·obtain ⟨R,hR,hrest⟩:=ih sn out q (by omega) (dG V2 oW) ZL h0 uR hlen;refine ⟨R,?_,hrest⟩;refine Ev.step (fun k=>by rw [nc.l0]) (Ev.pos Caf ?_);rw [hw,dM,hrd];refine Ev.pos (by omega) (Ev.pos Caf (Ev.pos Caf ?_));rw [Int.toNat_natCast,htake];exact Ev.val (Ev.pos hb0 (Ev.pos (by rw [sR];exact Xm) (Ev.pos oW hR)))
   ·have PZ:seen sn b.toNat=false:=by simpa using oW
    have hlt:b.toNat < sn.length:=by rw [sR];omega
    have hn:=fq hlt PZ;have hT:Ft bs.length (Oe bs) (sn.set b.toNat true) (q ++ Oe bs b.toNat):=bG (fun a ha=>⟨Jj _,hE.2.2 a ha⟩) V2 PZ;have tR:Oe bs b.toNat=Rv (Ga bs b):=by unfold Oe;rw [uB]
    have BK:=Jj (Ga bs b)
    obtain ⟨R,hR,hrest⟩:=ih (sn.set b.toNat true) (out ++ [b]) (q ++ (Rv (Ga bs b)).reverse) (by rw [List.length_append,List.length_reverse];omega)
     (hT.perm (fun x=>by rw [tR];simp) (by rw [tR];simp)) (fun j=>by
      rw [bh hlt,List.mem_append,List.mem_singleton,← ZL j,Bool.or_eq_true,decide_eq_true_eq]
      constructor
      ·rintro (h|h)
       ·right;omega
       ·left;exact h
      ·rintro (h|h)
       ·right;exact h
       ·left;omega) (fun j hj=>by
      rcases List.mem_append.1 hj with hj|hj
      ·exact h0 j hj
      ·rw [List.mem_singleton] at hj;omega) (by
      rw [List.nodup_append];refine ⟨uR,by simp,fun a ha c hc he=>?_⟩;rw [List.mem_singleton] at hc;subst hc;subst he;have:=(ZL a.toNat).2 (by rw [uB];exact ha);rw [PZ] at this
      cases this) Caf
    refine ⟨R,?_,hrest⟩;refine Ev.step (fun k=>by rw [nc.l0]) (Ev.pos Caf ?_);rw [hw,dM,hrd];refine Ev.pos (by omega) (Ev.pos Caf (Ev.pos Caf ?_));rw [Int.toNat_natCast,htake];refine Ev.val (Ev.pos hb0 (Ev.pos (by rw [sR];exact Xm) (Ev.neg oW (Ev.pos (by omega) (Ev.pos Xm ?_)))));rw [Dr];refine Ev.val (Ev.bind (Oz _ BK) (Ev.pos (by rw [List.length_reverse];omega) hR))
theorem YH (hE:Vd bs):∃ R,Ev (fun k=>nc.f k l0 p v s bs) R∧R.length ≤ bs.length∧Lh R=Vb bs:=by
 have hE1:=hE.1;have hE2:=hE.2.1;have OZ:∀ j,seen (List.replicate bs.length false) j=false:=fun j=>Kl _ _
 have hI:Ft bs.length (Oe bs) (List.replicate bs.length false) [0]:=by
  refine ⟨by simp,fun j hj=>?_,fun j hj=>?_,?_,Or.inr (by simp),fun j hj=>?_⟩
  ·rw [List.mem_singleton] at hj;subst hj;exact ⟨by omega,by omega,Rk.zero⟩
  ·rw [OZ] at hj;cases hj
  ·rw [Er];simp
  ·rw [OZ] at hj;cases hj
 obtain ⟨R,h1,h2,h3,h4⟩:=Kz (l0:=l0) (p:=p) (v:=v) (s:=s) hE (2 * news (List.replicate bs.length false) + 1) (List.replicate bs.length false) [] [0] (by simp) hI
  (fun j=>by rw [OZ];simp) (by simp) (by simp) (by rw [Er];simp)
 refine ⟨R,?_,h3,?_⟩
 ·unfold nc.f;refine Ev.pos (by omega) (Ev.pos (by omega) ?_);rw [Int.toNat_natCast];exact h1
 ·refine Fu _ _ (Pk R).1 (vr bs) (fun x=>?_);rw [(Pk R).2,h4,Mf hE]
end
end Go.Proofs.Ytoomcmaifgkkfaa.P
end
section
namespace Go.Proofs.Ytoomcmaifgkkfaa.P
open Go.RowKit Go.Proofs.ua.zb Go.Proofs.ua.Lc Go.Proofs.ua.Pd
set_option linter.unusedVariables false
set_option linter.unusedSimpArgs false
inductive RA (nx:Nat→List Int) (a:Nat):Nat→Prop
 | zero:0 ≠ a→RA nx a 0
 | step {i:Nat} {j:Int}:RA nx a i→j ∈ nx i→j.toNat ≠ a→RA nx a j.toNat
def Dom (nx:Nat→List Int) (i k:Nat):Prop:=Rk nx i∧Rk nx k∧¬ RA nx i k
theorem RA.AA {nx:Nat→List Int} {a k:Nat} (h:RA nx a k):Rk nx k:=by
 induction h with
 | zero _=>exact Rk.zero
 | step _ hj _ ih=>exact Rk.step ih hj
theorem RA.ne {nx:Nat→List Int} {a k:Nat} (h:RA nx a k):k ≠ a:=by
 cases h with
 | zero h=>exact h
 | step _ _ h=>exact h
theorem Dom.zero {nx:Nat→List Int} {k:Nat} (h:Rk nx k):Dom nx 0 k:=by
 have key:∀ j,RA nx 0 j→False:=fun j h=>by
  induction h with
  | zero h=>exact h rfl
  | step _ _ _ ih=>exact ih
 exact ⟨Rk.zero,h,key k⟩
theorem Dom.at0 {nx:Nat→List Int} {i:Nat} (h:Dom nx i 0):i=0:=Decidable.byContradiction fun hc=>h.2.2 (RA.zero (fun e=>hc e.symm))
theorem Dom.back {nx:Nat→List Int} {i b:Nat} {t:Int} (h:Dom nx i t.toNat) (hb:Rk nx b) (ht:t ∈ nx b) (hne:t.toNat ≠ i):Dom nx i b:=⟨h.1,hb,fun hr=>h.2.2 (RA.step hr ht hne)⟩
noncomputable def Im (bs:List Yd) (k:Nat):List Int:=open Classical in (Vb bs).filter fun i=>decide (Dom (Oe bs) i.toNat k)
noncomputable def Gk (bs:List Yd):List (List Int):=(List.range bs.length).map (Im bs)
def cj (D:List (List Int)) (k:Nat):List Int:=D.getD k []
theorem wk {D:List (List Int)} {i k:Nat} {x:List Int} (hi:i < D.length):cj (D.set i x) k=if i=k then x else cj D k:=by
 unfold cj;rw [List.getD_eq_getElem?_getD,List.getD_eq_getElem?_getD,List.getElem?_set]
 by_cases h:i=k
 ·rw [if_pos h,if_pos h,if_pos hi];rfl
 ·rw [if_neg h,if_neg h]
def qt (D:List (List Int)):Nat:=(D.map List.length).sum
theorem Ey:∀ (D:List (List Int)) (i:Nat) (x:List Int),i < D.length→qt (D.set i x) + (cj D i).length=qt D + x.length
 | [],i,x,h=>by simp at h
 | y :: D,0,x,_=>by
  simp only [qt,List.set_cons_zero,List.map_cons,List.sum_cons,cj,List.getD_cons_zero];omega
 | y :: D,i + 1,x,h=>by
  have ih:=Ey D i x (by simpa using h);simp only [qt,List.set_cons_succ,List.map_cons,List.sum_cons,cj,List.getD_cons_succ] at ih ⊢;omega
def Sq (D:List (List Int)) (b t:Nat) (r:Int):Bool:=if r=(t:Int) then false else !decide (r ∈ cj D b)
def aj (D:List (List Int)) (b t:Nat):List Int:=(cj D t).filter fun r=>!Sq D b t r
def uU (D:List (List Int)) (b t:Nat):Prop:=∀ r ∈ cj D t,r=(t:Int) ∨ r ∈ cj D b
theorem Ow (D:List (List Int)) (b t:Nat):(aj D b t).length ≤ (cj D t).length:=List.length_filter_le _ _
theorem EG {D:List (List Int)} {b t:Nat} (h:¬ (aj D b t).length < (cj D t).length):aj D b t=cj D t∧uU D b t:=by
 have he:(aj D b t).length=(cj D t).length:=by have:=Ow D b t;omega
 unfold aj at he ⊢;have h2:=List.length_filter_eq_length_iff.1 he;refine ⟨List.filter_eq_self.2 h2,fun r hr=>?_⟩;have:=h2 r hr;unfold Sq at this
 by_cases jS:r=(t:Int)
 ·exact Or.inl jS
 ·rw [if_neg jS] at this
  right
  simpa using this
structure fL (bs:List Yd) (D:List (List Int)):Prop where
 len:D.length=bs.length
 bY:∀ k,∃ q:Int→Bool,cj D k=(Vb bs).filter q
 Q6:∀ k,¬ Rk (Oe bs) k→cj D k=[]
 dom:∀ i k,Dom (Oe bs) i k→(i:Int) ∈ cj D k
 zero:cj D 0=[0]
section
variable {bs:List Yd} {D:List (List Int)}
theorem fL.step (h:fL bs D) (hE:Vd bs) {b:Nat} {t:Int} (hb:Rk (Oe bs) b) (ht:t ∈ Oe bs b):fL bs (D.set t.toNat (aj D b t.toNat)):=by
 have hbl:=qm hE hb;obtain ⟨t0,t1⟩:=hE.2.2 b hbl t ht;have htl:t.toNat < D.length:=by rw [h.len];omega
 refine ⟨by rw [List.length_set];exact h.len,fun k=>?_,fun k hk=>?_,fun i k hik=>?_,?_⟩
 ·rw [wk htl]
  by_cases e:t.toNat=k
  ·rw [if_pos e];obtain ⟨q,hq⟩:=h.bY t.toNat;refine ⟨fun x=>q x && !Sq D b t.toNat x,?_⟩;unfold aj;rw [hq,List.filter_filter]
   congr 1
   funext x
   exact Bool.and_comm _ _
  ·rw [if_neg e];exact h.bY k
 ·rw [wk htl]
  by_cases e:t.toNat=k
  ·exact absurd (e ▸ Rk.step hb ht) hk
  ·rw [if_neg e];exact h.Q6 k hk
 ·rw [wk htl]
  by_cases e:t.toNat=k
  ·rw [if_pos e];subst e;unfold aj;refine List.mem_filter.2 ⟨h.dom i _ hik,?_⟩;unfold Sq
   by_cases hi:(i:Int)=((t.toNat:Nat):Int)
   ·rw [if_pos hi];rfl
   ·rw [if_neg hi];have:=h.dom i b (hik.back hb ht (by omega));simp [this]
  ·rw [if_neg e];exact h.dom i k hik
 ·rw [wk htl]
  by_cases e:t.toNat=0
  ·rw [if_pos e,e];unfold aj;rw [h.zero];simp [Sq]
  ·rw [if_neg e];exact h.zero
theorem fL.done (h:fL bs D) (hE:Vd bs) (hOk:∀ b,Rk (Oe bs) b→∀ t ∈ Oe bs b,uU D b t.toNat):D=Gk bs:=by
 have key:∀ (i k:Nat),RA (Oe bs) i k→(i:Int) ∉ cj D k:=by
  intro i k hr
  induction hr with
  | zero h0 =>
   rw [h.zero,List.mem_singleton];omega
  | @step u t hu ht hne ih =>
   intro hm;obtain ⟨t0,t1⟩:=hE.2.2 u (qm hE hu.AA) t ht
   rcases hOk u hu.AA t ht _ hm with e|e
   ·omega
   ·exact ih e
 have hrow:∀ k,k < bs.length→cj D k=Im bs k:=by
  intro k hk;obtain ⟨q,hq⟩:=h.bY k;unfold Im;rw [hq];apply List.filter_congr;intro x hx;obtain ⟨x0,xr⟩:=(Mf hE x).1 hx;have oO:((x.toNat:Nat):Int)=x:=Int.toNat_of_nonneg x0
  have hiff:q x=true ↔ Dom (Oe bs) x.toNat k:=by
   constructor
   ·intro RZ;have hm:x ∈ cj D k:=by rw [hq];exact List.mem_filter.2 ⟨hx,RZ⟩
    have hk2:Rk (Oe bs) k:=Classical.byContradiction fun hn=>by rw [h.Q6 k hn] at hm;cases hm
    refine ⟨xr,hk2,fun hr=>key _ _ hr ?_⟩;rw [oO];exact hm
   ·intro hd;have:=h.dom _ _ hd;rw [oO,hq] at this;exact (List.mem_filter.1 this).2
  by_cases hd:Dom (Oe bs) x.toNat k
  ·rw [hiff.2 hd];exact (@decide_eq_true _ (Classical.propDecidable _) hd).symm
  ·refine Eq.trans ?_ (@decide_eq_false _ (Classical.propDecidable _) hd).symm;cases RZ:q x with
   | false=>rfl
   | true=>exact absurd (hiff.1 RZ) hd
 unfold Gk;apply List.ext_getElem
 ·rw [List.length_map,List.length_range];exact h.len
 ·intro k h1 h2;rw [List.getElem_map,List.getElem_range,← hrow k (by rw [← h.len];exact h1)];simp [cj,List.getD_eq_getElem?_getD,h1]
noncomputable def Xx (bs:List Yd) (i:Nat) (D:List (List Int)):Prop:=D.length=bs.length∧∀ k,cj D k=if (k:Int) ∈ (Vb bs).take i then Vb bs else []
theorem Xx.start (bs:List Yd):Xx bs 0 (List.replicate bs.length []):=by
 refine ⟨by simp,fun k=>?_⟩;unfold cj;rw [List.getD_eq_getElem?_getD,List.getElem?_replicate]
 by_cases h:k < bs.length
 ·rw [if_pos h];simp
 ·rw [if_neg h];simp
theorem Xx.next {i:Nat} (h:Xx bs i D) (hE:Vd bs) (hi:i < (Vb bs).length):Xx bs (i + 1) (D.set ((Vb bs)[i]).toNat (Vb bs)):=by
 obtain ⟨x0,xr⟩:=(Mf hE _).1 (List.getElem_mem hi);have hl:=qm hE xr;refine ⟨by rw [List.length_set];exact h.1,fun k=>?_⟩;rw [wk (by rw [h.1];exact hl),h.2 k,List.take_succ_eq_append_getElem hi]
 by_cases e:((Vb bs)[i]).toNat=k
 ·rw [if_pos e,if_pos (by rw [List.mem_append,List.mem_singleton];right;omega)]
 ·rw [if_neg e]
  have:(k:Int) ∈ (Vb bs).take i ++ [(Vb bs)[i]] ↔ (k:Int) ∈ (Vb bs).take i:=by
   rw [List.mem_append,List.mem_singleton]
   constructor
   ·rintro (h|h)
    ·exact h
    ·omega
   ·exact Or.inl
  by_cases hm:(k:Int) ∈ (Vb bs).take i
  ·rw [if_pos hm,if_pos (this.2 hm)]
  ·rw [if_neg hm,if_neg (fun h=>hm (this.1 h))]
theorem FA (hE:Vd bs):(0:Int) ∈ Vb bs:=(Mf hE 0).2 ⟨by omega,Rk.zero⟩
theorem Xx.go (h:Xx bs (Vb bs).length D) (hE:Vd bs):fL bs (D.set 0 [0]):=by
 have hD:∀ k,cj D k=if (k:Int) ∈ Vb bs then Vb bs else []:=fun k=>by rw [h.2 k,List.take_length]
 have h0:0 < D.length:=by rw [h.1];exact hE.1
 have hz:[0]=(Vb bs).filter fun x=>decide (x=0):=by
  refine Fu _ _ (by simp) ((vr bs).filter _) (fun x=>?_);rw [List.mem_singleton,List.mem_filter,decide_eq_true_eq]
  constructor
  ·rintro rfl;exact ⟨FA hE,rfl⟩
  ·exact fun h=>h.2
 have hmem:∀ k:Nat,(k:Int) ∈ Vb bs ↔ Rk (Oe bs) k:=fun k=>by
  rw [Mf hE,Int.toNat_natCast];exact ⟨fun h=>h.2,fun h=>⟨by omega,h⟩⟩
 refine ⟨by rw [List.length_set];exact h.1,fun k=>?_,fun k hk=>?_,fun i k hik=>?_,?_⟩
 ·rw [wk h0]
  by_cases e:0=k
  ·rw [if_pos e];exact ⟨_,hz⟩
  ·rw [if_neg e,hD]
   by_cases hm:(k:Int) ∈ Vb bs
   ·rw [if_pos hm];exact ⟨fun _=>true,(List.filter_eq_self.2 (fun _ _=>rfl)).symm⟩
   ·rw [if_neg hm];exact ⟨fun _=>false,(List.filter_eq_nil_iff.2 (fun _ _=>by simp)).symm⟩
 ·rw [wk h0]
  by_cases e:0=k
  ·subst e;exact absurd Rk.zero hk
  ·rw [if_neg e,hD,if_neg (fun hm=>hk ((hmem k).1 hm))]
 ·rw [wk h0]
  by_cases e:0=k
  ·rw [if_pos e];subst e;rw [hik.at0];simp
  ·rw [if_neg e,hD,if_pos ((hmem k).2 hik.2.1)];exact (hmem i).2 hik.1
 ·rw [wk h0,if_pos rfl]
theorem El (bs:List Yd):(Gk bs).length=bs.length:=by simp [Gk]
end
end Go.Proofs.Ytoomcmaifgkkfaa.P
end
section
namespace Go.Proofs.Ytoomcmaifgkkfaa.P
open Go.RowKit Go.Proofs.ua.zb Go.Proofs.ua.Lc Go.Proofs.ua.Pd
set_option linter.unusedVariables false
set_option linter.unusedSimpArgs false
noncomputable def di (bs:List Yd) (b:Nat):List Int:=(Lh (Oe bs b)).filter (fun t=>decide (t ∈ Im bs b))
noncomputable def Kg (bs:List Yd):Nat→List (Int × Int)
 | 0=>[]
 | b + 1=>Kg bs b ++ (di bs b).map (fun t=>((b:Int),t))
noncomputable def Bs (bs:List Yd):List (Int × Int):=Kg bs bs.length
theorem zw (bs:List Yd) (b:Nat):(di bs b).length ≤ 2:=Nat.le_trans (List.length_filter_le _ _) (Nat.le_trans (Ys _) (Jj _))
theorem Km (bs:List Yd):∀ b,(Kg bs b).length ≤ 2 * b
 | 0=>by simp [Kg]
 | b + 1=>by
  have h1:=Km bs b;have h2:=zw bs b;unfold Kg;rw [List.length_append,List.length_map];omega
theorem SB (bs:List Yd):(Bs bs).length ≤ 2 * bs.length:=Km bs _
theorem Ll {α:Type} (p:α→Bool) (l:List α) {j:Nat} (h:j < l.length):(l.take (j + 1)).filter p=(l.take j).filter p ++ (if p l[j]=true then [l[j]] else []):=by
 rw [List.take_succ_eq_append_getElem h,List.filter_append]
 by_cases hp:p l[j]=true
 ·rw [if_pos hp,List.filter_cons_of_pos hp,List.filter_nil]
 ·rw [if_neg hp,List.filter_cons_of_neg hp,List.filter_nil]
theorem gL {base g n cap:Nat} {ok:Nat→Prop} (m:Nat):∀ (W:World) (xs:List Int) (i:Nat),i + m=xs.length→Kd.R (Kd.int .i64) 3 W base ok (.slice (some ⟨g,0,none⟩) n cap) xs →
  Kd.R (Kd.int .i64) 3 (W.setCells g i (List.replicate m (.int .i64 0))) base ok (.slice (some ⟨g,0,none⟩) n cap) (xs.take i ++ List.replicate m 0)∧W.grownBy (W.setCells g i (List.replicate m (.int .i64 0))) (some g):=by
 induction m with
 | zero =>
  intro W xs i hi h;rw [List.take_of_length_le (by omega)];simp only [List.replicate_zero,List.append_nil];exact ⟨h,World.grownBy.refl _ _⟩
 | succ m ih =>
  intro W xs i hi h;obtain ⟨h2,h3⟩:=Kd.kj (enc:=Value.int .i64) (h1:=fun _=>rfl) h (i:Int) 0;rw [Int.toNat_natCast] at h2 h3;obtain ⟨h4,h5⟩:=ih _ _ (i + 1) (by rw [List.length_set];omega) h2;have e:W.setCells g i (List.replicate (m + 1) (.int .i64 0))=(W.setCell ⟨g,i,none⟩ (.int .i64 0)).setCells g (i + 1) (List.replicate m (.int .i64 0)):=rfl;rw [e];refine ⟨?_,h3.trans h5⟩
  have e2:(xs.set i 0).take (i + 1) ++ List.replicate m 0=xs.take i ++ List.replicate (m + 1) 0:=by
   rw [List.take_set,List.replicate_succ,List.take_succ_eq_append_getElem (by omega),List.set_append_right _ _ (by rw [List.length_take];omega),List.length_take,Nat.min_eq_left (by omega),Nat.sub_self,List.set_cons_zero,List.append_assoc]
   rfl
  rw [← e2];exact h4
theorem Sw (g:Nat) (lb:Array Value) (p:Int→Bool) (eg:∀ args w,(callFunc g args).run Try.prog w = .ok (.enter g args) w) (A0:Option Addr) (c0:Nat) (l0:List Int) (w:World) (Jh:Kd.C (Kd.int .i64) w A0 l0.length l0) (hc0:l0.length ≤ c0)
  (hp:∀ (W:World) (x:Int),Below w.heap.size w W→Calls Try.prog g (#[(.int .i64 x)] ++ lb) W fun e w'=>e = .returned (.bool (p x))∧Below W.heap.size W w') :
  Calls Try.prog 105 #[.slice A0 l0.length c0,.func (.func g) #[] lb] w fun e w'=>(e = .returned (.int .i64 (-1))∧l0.any p=false ∨ ∃ i:Nat,i < l0.length∧e = .returned (.int .i64 i)∧p (rd l0 (i:Int))=true∧(l0.take i).any p=false)∧Below w.heap.size w w':=by
 have sS:=Jh.2.1;have xk:=aa.mk Jh;have ey:=aa.mk hc0;have HP:=aa.mk hp;clear Jh hc0 hp;go_enter Try.func105,Try.ntmps105;go_wp2
 go_loopg [5,8] l0.length (fun gg _ s8 wr=>∃ kk:Nat,kk ≤ l0.length∧l0.length - kk ≤ gg∧s8 = .int .i64 kk∧aa (Below w.heap.size w wr)∧aa ((l0.take kk).any p=false))
 case atStart=>exact ⟨0,Nat.zero_le _,by omega,rfl,⟨Below.refl _ w⟩,⟨by simp⟩⟩
 case round =>
  (try clear BW);(try clear HA);obtain ⟨kk,hkk,hg,rfl,BW,HA⟩:=hrel
  by_cases hlt:kk < l0.length
  ·have p1:0 ≤ (kk:Int):=by omega
   have q1:(kk:Int) < (l0.length:Int):=by omega
   obtain ⟨ad,e1,hx0⟩:=Kd.Ud xk.out (kk:Int) p1 q1;cases e1;simp only [Int.toNat_natCast] at hx0;replace hx0:=(BW.out.cell (World.block_lt_of_cell? w _ hx0)).trans hx0;have hcall:=HP.out wr (rd l0 (kk:Int)) BW.out;cases hq:p (rd l0 (kk:Int)) with
   | true =>
    rw [hq] at hcall;have HQ:=aa.mk hq;clear hq;go_wp2_with (go_at_fn g;refine hcall.mono ?_;rintro e w1 ⟨rfl,Xm⟩);go_ret;exact ⟨Or.inr ⟨kk,hlt,rfl,HQ.out,HA.out⟩,BW.out.trans (Xm.mono BW.out.size)⟩
   | false =>
    rw [hq] at hcall;go_wp2_with (go_at_fn g;refine hcall.mono ?_;rintro e w1 ⟨rfl,Xm⟩)
    go_roundg (l0.length - (kk + 1))
    case measure=>omega
    case rel=>exact ⟨kk + 1,by omega,by omega,by go_num,⟨BW.out.trans (Xm.mono BW.out.size)⟩,⟨Il (d:=0) hlt HA.out hq⟩⟩
  ·have LO:¬ (kk:Int) < (l0.length:Int):=by omega
   have he:kk=l0.length:=by omega
   subst he;go_wp2;go_ret;exact ⟨Or.inl ⟨rfl,by have h_:=HA.out;rw [List.take_length] at h_;simpa using h_⟩,BW.out⟩
def OJ (l xs:List Int) (p:Int→Bool) (i j:Nat):Prop:=i < j∧j ≤ l.length∧xs.length=l.length∧xs.take i=(l.take j).filter (fun x=>!p x)∧xs.drop j=l.drop j
theorem OJ.keep {l xs:List Int} {p:Int→Bool} {i j:Nat} (h:OJ l xs p i j) (hj:j < l.length) (hp:p (rd l (j:Int))=false):OJ l (xs.set i (rd l (j:Int))) p (i + 1) (j + 1):=by
 obtain ⟨h1,h2,h3,h4,h5⟩:=h;rw [Gh hj] at hp ⊢;refine ⟨by omega,by omega,by rw [List.length_set];exact h3,?_,?_⟩
 ·rw [List.take_succ_eq_append_getElem (show j < l.length from hj),List.filter_append,← h4];rw [List.take_set,List.take_succ_eq_append_getElem (by omega),List.set_append_right _ _ (by rw [List.length_take];omega),List.length_take,Nat.min_eq_left (by omega),Nat.sub_self,List.set_cons_zero];simp [hp]
 ·rw [List.drop_set_of_lt (by omega)];have e1:xs.drop (j + 1)=(xs.drop j).drop 1:=by rw [List.drop_drop]
  have e2:l.drop (j + 1)=(l.drop j).drop 1:=by rw [List.drop_drop]
  rw [e1,e2,h5]
theorem OJ.skip {l xs:List Int} {p:Int→Bool} {i j:Nat} (h:OJ l xs p i j) (hj:j < l.length) (hp:p (rd l (j:Int))=true):OJ l xs p i (j + 1):=by
 obtain ⟨h1,h2,h3,h4,h5⟩:=h;rw [Gh hj] at hp;refine ⟨by omega,by omega,h3,?_,?_⟩
 ·rw [List.take_succ_eq_append_getElem (show j < l.length from hj),List.filter_append,← h4];simp [hp]
 ·have e1:xs.drop (j + 1)=(xs.drop j).drop 1:=by rw [List.drop_drop]
  have e2:l.drop (j + 1)=(l.drop j).drop 1:=by rw [List.drop_drop]
  rw [e1,e2,h5]
theorem OJ.at_ {l xs:List Int} {p:Int→Bool} {i j:Nat} (h:OJ l xs p i j) (hj:j < l.length):Tf 0 xs (j:Int)=rd l (j:Int):=by
 obtain ⟨h1,h2,h3,h4,h5⟩:=h;have:=congrArg List.head? h5;rw [List.head?_drop,List.head?_drop] at this;simp [rd,Tf,List.getD_eq_getElem?_getD,this]
theorem Qq {l:List Int} {p:Int→Bool} (h:l.any p=false):l.filter (fun x=>!p x)=l:=by
 rw [List.filter_eq_self];intro x hx;have:=List.any_eq_false.1 h x hx
 simpa using this
theorem Tz (g:Nat) (lb:Array Value) (p:Int→Bool) (eg:∀ args w,(callFunc g args).run Try.prog w = .ok (.enter g args) w) (P_:Nat→Prop) (A:Option Addr) (c:Nat) (l:List Int) (base:Nat) (w0 w:World) (hB:Below base w0 w) (N2:base ≤ w.heap.size) (ho:Kd.R (Kd.int .i64) 3 w base P_ (.slice A l.length c) l)
  (hp:∀ (W:World) (x:Int),Kept w W P_→Calls Try.prog g (#[(.int .i64 x)] ++ lb) W fun e w'=>e = .returned (.bool (p x))∧Below W.heap.size W w') :
  Calls Try.prog 74 #[.slice A l.length c,.func (.func g) #[] lb] w fun e w'=>e = .returned (.slice A (l.filter (fun x=>!p x)).length c)∧Kd.R (Kd.int .i64) 3 w' base P_ (.slice A (l.filter (fun x=>!p x)).length c) (l.filter (fun x=>!p x))∧Below base w0 w'∧Kept w w' P_:=by
 obtain ⟨hn,hnc,hC⟩:=Kd.Wa ho;have sS:=hC.2.1;have HP:=aa.mk hp;have HI:=aa.mk (Sw g lb p eg A c l w hC hnc (fun W x hb=>hp W x (Kept.Wh hb P_)));have HO:=aa.mk ho;have HB:=aa.mk hB;have EY:=aa.mk N2;clear hp hC ho hB hn;go_enter Try.func74,Try.ntmps74
 go_upto_region 2 with (go_at_call 105;refine HI.out.mono ?_;rintro e w1 ⟨hi,Xm⟩;have Sm:=aa.mk Xm;clear Xm;(rcases hi with ⟨rfl,SH⟩|⟨i0,hi0,rfl,hpi,SH⟩))
 ·have HN:=aa.mk (Qq SH);clear SH;go_wp2;go_ret;rw [HN.out];exact ⟨rfl,Kd.Xb HO.out Sm.out,HB.out.trans (Sm.out.mono N2),Kept.Wh Sm.out P_⟩
 ·have VZ:((i0:Int) == -1)=false:=beq_eq_false_iff_ne.2 (by omega)
  have HD0:=aa.mk (show OJ l l p i0 (i0 + 1) from ⟨by omega,by omega,rfl,by
   rw [Gh hi0] at hpi;rw [List.take_succ_eq_append_getElem hi0,List.filter_append,Qq SH]
   simp [hpi],rfl⟩)
  have qE:=aa.mk (Kd.Xb HO.out Sm.out);have Yi:=aa.mk (HB.out.trans (Sm.out.mono N2));have Gf:=aa.mk (Kept.Wh Sm.out P_);clear hpi SH HI HO HB Sm;go_wp2
  go_loopg [5,6] l.length (fun gg v5 v6 wr=>∃ (i j:Nat) (xs:List Int),v5 = .int .i64 i∧v6 = .int .i64 j∧l.length - j ≤ gg∧aa (OJ l xs p i j)∧aa (Kd.R (Kd.int .i64) 3 wr base P_ (.slice A l.length c) xs)∧aa (Below base w0 wr)∧aa (Kept w wr P_))
  case atStart=>exact ⟨i0,i0 + 1,l,rfl,by go_num,by omega,HD0,qE,Yi,Gf⟩
  case round =>
   clear HD0 qE Yi Gf VZ hi0;(try clear HD);(try clear HO);(try clear HB);(try clear HK);obtain ⟨i,j,xs,rfl,rfl,hg,HD,HO,HB,HK⟩:=hrel;obtain ⟨d1,d2,d3,_,_⟩:=HD.out;have WM:=aa.mk d3;clear d3
   by_cases hlt:j < l.length
   ·have p1:0 ≤ (j:Int):=by omega
    have p2:(j:Int) < (l.length:Int):=by omega
    have Xh:decide ((j:Int) < (l.length:Int))=true:=decide_eq_true p2;obtain ⟨gb,cb,he,-⟩:=Kd.Uh (by exact HO.out) (by have:=WM.out;omega);have L1:A=some ⟨gb,0,none⟩:=by injection he
    subst L1;clear he;obtain ⟨hx0,-⟩:=Kd.Yf (enc:=Value.int .i64) (h1:=fun _=>rfl) 0 HO.out (j:Int) p1 (by omega);rw [HD.out.at_ hlt,Int.toNat_natCast] at hx0;have hcall:=HP.out wr (rd l (j:Int)) HK.out;cases hq:p (rd l (j:Int)) with
    | true =>
     rw [hq] at hcall;have CR:=aa.mk (HD.out.skip hlt hq);clear hq;go_wp2_with (go_at_fn g;refine hcall.mono ?_;rintro e w7 ⟨rfl,GK⟩;have AR:=aa.mk (Kd.Xb HO.out GK);have JL:=aa.mk (HB.out.trans (GK.mono (Nat.le_trans EY.out HK.out.1)));have zY:=aa.mk (HK.out.below GK);clear GK)
     go_roundg (l.length - (j + 1))
     case measure=>omega
     case rel=>exact ⟨i,j + 1,xs,rfl,by go_num,by omega,CR,AR,JL,zY⟩
    | false =>
     rw [hq] at hcall;have CR:=aa.mk (HD.out.keep hlt hq);clear hq
     go_upto_region 9 with (go_at_fn g;refine hcall.mono ?_;rintro e w7 ⟨rfl,GK⟩;have AR:=aa.mk (Kd.Xb HO.out GK);have JL:=aa.mk (HB.out.trans (GK.mono (Nat.le_trans EY.out HK.out.1)));have zY:=aa.mk (HK.out.below GK);clear GK hx0)
     obtain ⟨Jh,DS⟩:=Kd.Yf (enc:=Value.int .i64) (h1:=fun _=>rfl) 0 AR.out (i:Int) (by omega) (by omega);have hbg:=(Kd.ug AR.out) gb rfl;have F8:=AR.out.1 gb rfl;have kJ:=aa.mk (And.intro hbg F8);have tL:=aa.mk (Kd.kj (enc:=Value.int .i64) (h1:=fun _=>rfl) AR.out (i:Int) (rd l (j:Int)));simp only [Int.toNat_natCast] at Jh DS;rw [Int.toNat_natCast] at tL;clear hbg F8;go_wp2
     go_roundg (l.length - (j + 1))
     case measure=>omega
     case rel =>
      exact ⟨i + 1,j + 1,_,by go_num,by go_num,by omega,CR,⟨tL.out.1⟩,⟨JL.out.grown tL.out.2 (Nat.le_trans EY.out zY.out.1) (fun k_ e=>by injection e with e;rw [← e];exact kJ.out.1)⟩,⟨Kept.Te tL.out.2 zY.out (fun k_ e=>Or.inl (by injection e with e;rw [← e];exact kJ.out.2))⟩⟩
   ·obtain rfl:j=l.length:=by omega
    have LO:decide ((l.length:Int) < (l.length:Int))=false:=decide_eq_false (by omega);obtain ⟨A',c',he,_⟩:=Kd.Uh (by exact HO.out) (by have:=WM.out;omega);have L1:A=some ⟨A',0,none⟩:=by injection he
    subst L1;clear he;have hic:¬ c=i:=by omega
    have CJ:¬ i=c:=by omega
    have Us:∀ ty,(Builtin.clear_ #[22] ty #[.slice (some ⟨A',i,none⟩) (l.length - i) (c - i)]).run Try.prog wr = .ok (.tuple #[]) (wr.setCells A' i (List.replicate (l.length - i) (.int .i64 0))) :=
     fun ty=>Go.Lib.run_clear_slice wr 22 3 ty (.int .i64 0) Try.underlying22 (fun w=>by go_simp) rfl rfl A' i _ _ (by omega) (fun t ht=>by
      have:=(Kd.Yf (enc:=Value.int .i64) (h1:=fun _=>rfl) 0 HO.out ((i + t:Nat):Int) (by omega) (by omega)).1;rw [Int.toNat_natCast] at this;rw [this]
      rfl) (fun t ht=>by
      have:=(Kd.Yf (enc:=Value.int .i64) (h1:=fun _=>rfl) 0 HO.out ((i + t:Nat):Int) (by omega) (by omega)).2
      rwa [Int.toNat_natCast] at this)
    have o5:=aa.mk (gL (l.length - i) wr xs i (by have:=WM.out;omega) HO.out);have kJ:=aa.mk (And.intro ((Kd.ug HO.out) A' rfl) (HO.out.1 A' rfl));go_wp2;go_ret;obtain ⟨e1,e2,e3,e4,e5⟩:=HD.out;rw [List.take_length] at e4;have e6:(l.filter (fun x=>!p x)).length=i:=by rw [← e4,List.length_take];omega
    rw [e6];refine ⟨rfl,?_,HB.out.grown o5.out.2 (Nat.le_trans EY.out HK.out.1) (fun k_ e=>by injection e with e;rw [← e];exact kJ.out.1),Kept.Te o5.out.2 HK.out (fun k_ e=>Or.inl (by injection e with e;rw [← e];exact kJ.out.2))⟩;have h:=Kd.Tx o5.out.1 (m:=i) (by rw [List.length_append,List.length_take];omega)
    rwa [List.take_append_of_le_length (by rw [List.length_take];omega),List.take_take,Nat.min_self,e4] at h
attribute [local go_sem] Hg Fg Nh Mh cg bg Gg Eg
theorem kT (d:Nat) (w:World) (x0 y0:Int) (x1 y1:Int) (x2 y2:Int) (x3 y3:Int) (x4 y4:Int) :
  (Op.equalIn (d + 2) 67 (.agg #[.int .i64 x0,.int .i64 x1,.int .i64 x2,.int .i64 x3,.int .i64 x4]) (.agg #[.int .i64 y0,.int .i64 y1,.int .i64 y2,.int .i64 y3,.int .i64 y4])).run Try.prog w = .ok (x0 == y0 && (x1 == y1 && (x2 == y2 && (x3 == y3 && (x4 == y4))))) w:=by
 refine cI Try.underlying67 (by kernel_rfl) ?_;refine Zh (by rfl) (by go_simp;rfl) (by go_simp;rfl) (by go_simp) ?_;refine Zh (by rfl) (by go_simp;rfl) (by go_simp;rfl) (by go_simp) ?_;refine Zh (by rfl) (by go_simp;rfl) (by go_simp;rfl) (by go_simp) ?_;refine Zh (by rfl) (by go_simp;rfl) (by go_simp;rfl) (by go_simp) ?_;exact Qz (by rfl) (by go_simp;rfl) (by go_simp;rfl) (by go_simp)
theorem Mu (l:List Int) (a:Int) (hl:l.length ≤ 9223372036854775807):∃ k r,jb.f k l a=some r∧(r ≥ 0 ↔ a ∈ l):=by
 have key:∀ d i:Nat,i + d=l.length→∃ k r,jb.l0 k l a (l.length:Int) (i:Int)=some r∧(r ≥ 0 ↔ a ∈ l.drop i):=by
  intro d
  induction d with
  | zero =>
   intro i hi;refine ⟨1,-1,?_,?_⟩
   ·rw [jb.l0,if_neg (by omega)]
   ·rw [List.drop_of_length_le (by omega)];simp
  | succ d ih =>
   intro i hi;obtain ⟨k,r,h1,h2⟩:=ih (i + 1) (by omega);have hlt:i < l.length:=by omega
   have hr:rd l (i:Int)=l[i]:=by simp [rd,List.getD_eq_getElem?_getD,hlt]
   by_cases e:a=l[i]
   ·refine ⟨k + 1,i,?_,?_⟩
    ·rw [jb.l0,if_pos (by omega),if_pos (by omega),if_pos (by omega),hr,if_pos e]
    ·rw [List.drop_eq_getElem_cons hlt,e];exact ⟨fun _=>List.mem_cons_self,fun _=>by omega⟩
   ·refine ⟨k + 1,r,?_,?_⟩
    ·rw [jb.l0,if_pos (by omega),if_pos (by omega),if_pos (by omega),hr,if_neg e,show wrap64 ((i:Int) + 1)=((i + 1:Nat):Int) from by unfold wrap64;omega,h1]
    ·rw [List.drop_eq_getElem_cons hlt,h2,List.mem_cons];exact ⟨Or.inr,fun h=>h.resolve_left e⟩
 obtain ⟨k,r,h1,h2⟩:=key l.length 0 (by omega);exact ⟨k,r,h1,by simpa using h2⟩
theorem Gx (A0:Option Addr) (c0:Nat) (l0:List Int) (a1:Int) (w:World) (Jh:Kd.C (Kd.int .i64) w A0 l0.length l0) (hc0:l0.length ≤ c0) :
  Calls Try.prog 83 #[.slice A0 l0.length c0,.int .i64 a1] w fun e w'=>e = .returned (.bool (decide (a1 ∈ l0)))∧Nb w w':=by
 obtain ⟨k,r,h1,h2⟩:=Mu l0 a1 Jh.2.1
 have h:Tb.f k l0 a1=some (decide (a1 ∈ l0)):=by
  unfold Tb.f;rw [h1];exact congrArg some (decide_eq_decide.2 h2)
 exact Tb.calls k A0 c0 l0 a1 _ w Jh hc0 h
def PP (w:World) (N p r q:Nat) (im m:Array Value) (v0:Value) (s0:List Int) (v4:Value) (gs:List Int) (W:World):Prop :=
 Below w.heap.size w W∧W.heap[p]? = some (.cells im 30 (0,0))∧W.heap[r]? = some (.cells #[.slice none 0 0,.int .i64 0,.int .i64 0,.slice none 0 0] 30 (0,0))∧W.heap[q]? = some (.cells m 30 (0,0)) ∧
 Kd.R (Kd.int .i64) 3 W w.heap.size (fun k=>k < N) v0 s0∧Kd.R (Kd.int .i64) 3 W w.heap.size (fun k=>k < N) v4 gs∧(w.heap.size ≤ q∧w.heap.size ≤ r∧p < N∧q < N∧r < N∧p ≠ q∧r ≠ q∧w.heap.size ≤ N∧N ≤ W.heap.size)
section
variable {w W W':World} {N p r q:Nat} {im m:Array Value} {v0 v4:Value} {s0 gs:List Int}
theorem PP.up (h:PP w N p r q im m v0 s0 v4 gs W) (hb:Below w.heap.size w W') (hk:Kept W W' (fun k=>N ≤ k)):PP w N p r q im m v0 s0 v4 gs W':=by
 obtain ⟨h1,h2,h3,h4,h5,h6,b1,b2,b3,b4,b5,b6,b7,b8,b9⟩:=h;exact ⟨hb,jg h2 hk (by omega),jg h3 hk (by omega),jg h4 hk (by omega),Kd.fo h5 hk (fun k a b=>by omega),Kd.fo h6 hk (fun k a b=>by omega),b1,b2,b3,b4,b5,b6,b7,b8,Nat.le_trans b9 hk.1⟩
theorem PP.below (h:PP w N p r q im m v0 s0 v4 gs W) (hb:Below W.heap.size W W'):PP w N p r q im m v0 s0 v4 gs W':=h.up (Fa h.1 hb) (Kept.Wh hb _)
theorem PP.alloc (h:PP w N p r q im m v0 s0 v4 gs W) (o:Obj):PP w N p r q im m v0 s0 v4 gs (W.alloc o):=h.below (ia (Below.refl _ _) o)
theorem PP.grown {row:Option Nat} (h:PP w N p r q im m v0 s0 v4 gs W) (hg:W.grownBy W' row) (hr:∀ k,row=some k→N ≤ k):PP w N p r q im m v0 s0 v4 gs W' :=
 h.up (zn h.1 row h.1.size hg (fun k e=>Nat.le_trans h.2.2.2.2.2.2.2.2.2.2.2.2.2.1 (hr k e))) (Kept.Te hg (Kept.refl _ _) (fun k e=>Or.inl (hr k e)))
theorem PP.set (h:PP w N p r q im m v0 s0 v4 gs W) (j:Nat) (u:Value):PP w N p r q im (m.setIfInBounds j u) v0 s0 v4 gs (W.setCell ⟨q,j,none⟩ u):=by
 obtain ⟨h1,h2,h3,h4,h5,h6,b1,b2,b3,b4,b5,b6,b7,b8,b9⟩:=h;exact ⟨h1.setCell b1 _,Ld h2 b6 u,Ld h3 b7 u,Jx h4 j u,Kd.OM h5 h4 (by decide) j u,Kd.OM h6 h4 (by decide) j u,b1,b2,b3,b4,b5,b6,b7,b8,by simpa using b9⟩
end
attribute [local go_sem high] kT
end Go.Proofs.Ytoomcmaifgkkfaa.P
end
section
namespace Go.Proofs.Ytoomcmaifgkkfaa.P
open Go.RowKit Go.Proofs.ua.zb Go.Proofs.ua.Lc Go.Proofs.ua.Pd
set_option linter.unusedVariables false
set_option linter.unusedSimpArgs false
theorem KF {W1 W:World} {base g n cap i:Nat} {P:Nat→Prop} {D:List (List Int)} {v:Value} {xs:List Int}
  (h:Kd.S (Kd.slice 3 (Kd.int .i64)) 22 W1 base P (.slice (some ⟨g,0,none⟩) n cap) D) (hb:Below W1.heap.size W1 W) (hi:i < n)
  (hx:Kd.R (Kd.int .i64) 3 W base (fun k=>P k∧W1.heap.size ≤ k) v xs) :
  Kd.S (Kd.slice 3 (Kd.int .i64)) 22 (W.setCell ⟨g,i,none⟩ v) base P (.slice (some ⟨g,0,none⟩) n cap) (D.set i xs)∧W.grownBy (W.setCell ⟨g,i,none⟩ v) (some g):=by
 obtain ⟨Bk,c,Us,hM,Ou,xM,bx,hH⟩:=Kd.Ds h ([]:List Int) (i:Int) (by omega) (by omega);have hH2:=Kd.pL (Kd.fE hH) hb;have KS:c.length=1:=Us
 obtain ⟨u,rfl⟩:∃ u,c=[u]:=by
  rcases c with _|⟨u,_|⟨u2,c⟩⟩
  ·simp at KS
  ·exact ⟨u,rfl⟩
  ·simp at KS
 have hs:=Kd.pQ (d:=Kd.slice 3 (Kd.int .i64)) hH2 (by omega) (by omega) (seg:=[v]) (j:=0) (show 0 + 1 ≤ 1 from by decide) (x':=xs) (Ag:=fun k=>P k∧W1.heap.size ≤ k) (show (Kd.slice 3 (Kd.int .i64)).M W base (fun k=>P k∧W1.heap.size ≤ k) xs [v] from ⟨v,rfl,hx⟩) (fun k hk=>Or.inr hk);rw [Int.toNat_natCast,show i * (Kd.slice 3 (Kd.int .i64)).sz + 0=i from by show i * 1 + 0=i;omega] at hs;exact hs
theorem eA {W:World} {base g n cap i:Nat} {P:Nat→Prop} {D:List (List Int)} (h:Kd.S (Kd.slice 3 (Kd.int .i64)) 22 W base P (.slice (some ⟨g,0,none⟩) n cap) D) (hi:i < n) :
  ∃ (A:Option Addr) (c:Nat),W.cell? ⟨g,i,none⟩=some (.slice A (cj D i).length c)∧W.frozen? ⟨g,i,none⟩=false∧(cj D i).length ≤ c∧Kd.C (Kd.int .i64) W A (cj D i).length (cj D i):=by
 obtain ⟨Bk,c,Us,hM,Ou,xM,bx,hH⟩:=Kd.Ds h ([]:List Int) (i:Int) (by omega) (by omega);rw [Int.toNat_natCast] at hM Ou xM;obtain ⟨A,cc,hc,hl,hC⟩:=Kd.we _ hM;have h1:=Ou 0 _ (by rw [hc];rfl);have h2:=xM 0;rw [show i * (Kd.slice 3 (Kd.int .i64)).sz + 0=i from by show i * 1 + 0=i;omega] at h1 h2;exact ⟨A,cc,h1,h2,hl,hC⟩
structure Gv (w wA:World) (b4 g cap n:Nat) (D:List (List Int)) (wr:World):Prop where
 bl:Below w.heap.size w wr
 k:Kept wA wr (fun k=>k=g)
 v:wr.heap[b4]? = some (.cells #[.slice (some ⟨g,0,none⟩) n cap] 53 (0,0))
 row:Kd.S (Kd.slice 3 (Kd.int .i64)) 22 wr w.heap.size (fun k=>k ≠ b4) (.slice (some ⟨g,0,none⟩) n cap) D
 ne:b4 ≠ g
 gb:w.heap.size ≤ g
section
variable {w wA wr W:World} {b4 g cap n:Nat} {D:List (List Int)}
theorem Gv.below (h:Gv w wA b4 g cap n D wr) (hb:Below wr.heap.size wr W):Gv w wA b4 g cap n D W :=
 ⟨Fa h.bl hb,h.k.below hb,Ua h.v hb,Kd.Bh h.row hb,h.ne,h.gb⟩
theorem Gv.put (h:Gv w wA b4 g cap n D wr) (hb:Below wr.heap.size wr W) {i:Nat} (hi:i < n) {v:Value} {xs:List Int} (hx:Kd.R (Kd.int .i64) 3 W w.heap.size (fun k=>k ≠ b4∧wr.heap.size ≤ k) v xs):Gv w wA b4 g cap n (D.set i xs) (W.setCell ⟨g,i,none⟩ v):=by
 obtain ⟨h1,h2⟩:=KF h.row hb hi hx;have hw:=h.below hb
 exact ⟨hw.bl.grown h2 hw.bl.size (fun k e=>by injection e with e;rw [← e];exact h.gb),Kept.Te h2 hw.k (fun k e=>Or.inl (by injection e with e;exact e.symm)),
  (Below.heap_setCell W ⟨g,i,none⟩ v b4 hw.ne).trans hw.v,h1,hw.ne,hw.gb⟩
theorem Gv.cell (h:Gv w wA b4 g cap n D wr):wr.cell? ⟨b4,0,none⟩=some (.slice (some ⟨g,0,none⟩) n cap):=(qa h.v 0).trans rfl
theorem Gv.at (h:Gv w wA b4 g cap n D wr) {i:Nat} (hi:i < n):∃ (A:Option Addr) (c:Nat),wr.cell? ⟨g,i,none⟩=some (.slice A (cj D i).length c)∧wr.frozen? ⟨g,i,none⟩=false∧(cj D i).length ≤ c∧Kd.C (Kd.int .i64) wr A (cj D i).length (cj D i):=eA h.row hi
theorem Gv.o3 (h:Gv w wA b4 g cap n D wr):g < wr.heap.size:=Kd.k5 h.row g rfl
theorem Gv.blt (h:Gv w wA b4 g cap n D wr):b4 < wr.heap.size:=Le h.v
end
theorem SA (mG b4 q9 g n cap b t:Nat) (D:List (List Int)) (A:Option Addr) (c:Nat) (r:Int) (W:World) (uB:b < n)
  (Z2:W.cell? ⟨mG,0,none⟩=some (.int .i64 t)) (h4:W.cell? ⟨b4,0,none⟩=some (.slice (some ⟨g,0,none⟩) n cap)) (h9:W.cell? ⟨q9,0,none⟩=some (.int .i64 b))
  (hr:W.cell? ⟨g,b,none⟩=some (.slice A (cj D b).length c)) (hl:(cj D b).length ≤ c) (hC:Kd.C (Kd.int .i64) W A (cj D b).length (cj D b)) :
  Calls Try.prog 109 (#[.int .i64 r] ++ #[.pointer (some ⟨mG,0,none⟩),.pointer (some ⟨b4,0,none⟩),.pointer (some ⟨q9,0,none⟩)]) W fun e w'=>e = .returned (.bool (Sq D b t r))∧Below W.heap.size W w':=by
 have HC:=aa.mk (Gx A c (cj D b) r W hC hl);have p0:0 ≤ (b:Int):=by omega
 have p1:(b:Int) < (n:Int):=by omega
 clear hC hl
 by_cases h:r=(t:Int)
 ·have hb:(r != (t:Int))=false:=by rw [h];exact bne_self_eq_false' (t:Int)
  have HD:=aa.mk (show Sq D b t r=false from if_pos h);clear h;go_enter Try.func109,Try.ntmps109;go_wp2_with (first|(go_at_call 83;(refine HC.out.mono ?_);rintro e RR ⟨rfl,⟨⟨nd,rfl⟩⟩⟩));go_ret;exact ⟨by rw [HD.out];rfl,Below.refl _ _⟩
 ·have hb:(r != (t:Int))=true:=bne_iff_ne.2 h;have HD:=aa.mk (show Sq D b t r = !decide (r ∈ cj D b) from if_neg h);clear h;go_enter Try.func109,Try.ntmps109;go_wp2_with (first|(go_at_call 83;(refine HC.out.mono ?_);rintro e RR ⟨rfl,⟨⟨nd,rfl⟩⟩⟩));go_ret;exact ⟨by rw [HD.out];rfl,ga (Below.refl _ _) _⟩
end Go.Proofs.Ytoomcmaifgkkfaa.P
end
section
namespace Go.Proofs.Ytoomcmaifgkkfaa.P
open Go.RowKit Go.Proofs.ua.zb Go.Proofs.ua.Lc Go.Proofs.ua.Pd
set_option linter.unusedVariables false
set_option linter.unusedSimpArgs false
noncomputable def Oh.f (Ma:List Int) (Pa:Int) (Qa:Int) (Oa:Int) (za:List (Yd)):Option (List (List Int)):=open Classical in if Vd za then some (Gk za) else none
noncomputable def kU (bs:List Yd) (D:List (List Int)) (i:Nat):Prop:=∀ b ∈ (Vb bs).take i,∀ t ∈ Oe bs b.toNat,uU D b.toNat t.toNat
def jU (D:List (List Int)) (b:Nat) (ts:List Int) (j:Nat):Prop:=∀ t ∈ ts.take j,uU D b t.toNat
theorem kU.next {bs:List Yd} {D:List (List Int)} {i:Nat} (h:kU bs D i) (hi:i < (Vb bs).length) (hj:jU D ((Vb bs)[i]).toNat (Oe bs ((Vb bs)[i]).toNat) (Oe bs ((Vb bs)[i]).toNat).length):kU bs D (i + 1):=by
 intro b hb t ht;rw [List.take_succ_eq_append_getElem hi,List.mem_append,List.mem_singleton] at hb
 rcases hb with hb|hb
 ·exact h b hb t ht
 ·subst hb;exact hj t (by rw [List.take_length];exact ht)
theorem jU.next {D:List (List Int)} {b:Nat} {ts:List Int} {j:Nat} (h:jU D b ts j) (hj:j < ts.length) (ho:uU D b (ts[j]).toNat):jU D b ts (j + 1):=by
 intro t ht;rw [List.take_succ_eq_append_getElem hj,List.mem_append,List.mem_singleton] at ht
 rcases ht with ht|ht
 ·exact h t ht
 ·subst ht;exact ho
structure tQ (bs:List Yd) (D:List (List Int)) (m:Nat) (a:Bool) (i:Nat):Prop where
 inv:fL bs D
 le:qt D ≤ m
 lt:a=true→qt D < m
 so:a=false→kU bs D i
theorem tQ.keep {bs:List Yd} {D:List (List Int)} {m:Nat} {a:Bool} {i:Nat} (h:tQ bs D m a i) (hE:Vd bs) (hi:i < (Vb bs).length) {t:Int} (ht:t ∈ Oe bs ((Vb bs)[i]).toNat)
  (hlt:(aj D ((Vb bs)[i]).toNat t.toNat).length < (cj D t.toNat).length):tQ bs (D.set t.toNat (aj D ((Vb bs)[i]).toNat t.toNat)) m true i:=by
 obtain ⟨x0,xr⟩:=(Mf hE _).1 (List.getElem_mem hi);obtain ⟨t0,t1⟩:=hE.2.2 _ (qm hE xr) t ht;have hs:=Ey D t.toNat (aj D ((Vb bs)[i]).toNat t.toNat) (by rw [h.inv.len];omega);have:=h.le;exact ⟨h.inv.step hE xr ht,by omega,fun _=>by omega,fun e=>by cases e⟩
theorem RE {P:Nat→Prop} {w1:World} {base n B:Nat} {v:Value} (h:Kd.S (Kd.slice 3 (Kd.int .i64)) 22 w1 base P v (List.replicate ((n:Int)).toNat [])) (hn:0 < n) (hat:∃ b,v.ownBlock=some b∧B ≤ b) :
  ∃ g cap,v = .slice (some ⟨g,0,none⟩) n cap∧B ≤ g∧g < w1.heap.size∧Kd.S (Kd.slice 3 (Kd.int .i64)) 22 w1 base P (.slice (some ⟨g,0,none⟩) n cap) (List.replicate n []):=by
 rw [Int.toNat_natCast] at h;obtain ⟨g,cap,hv,hb,hl,-⟩:=Kd.nv h (by rw [List.length_replicate];exact hn);rw [List.length_replicate] at hv;obtain ⟨b,h1,h2⟩:=hat;rw [hv] at h1;obtain rfl:g=b:=by simpa [Value.ownBlock] using h1
 exact ⟨g,cap,hv,h2,hl,hv ▸ h⟩
theorem Gv.fresh {w wA wd w1:World} {b4 g cap n:Nat} {D:List (List Int)} {ok:Nat→Prop} {v:Value} {xs:List Int} (h:Gv w wA b4 g cap n D wd) (ho:Kd.R (Kd.int .i64) 3 w1 wd.heap.size ok v xs):Kd.R (Kd.int .i64) 3 w1 w.heap.size (fun k=>k ≠ b4∧wd.heap.size ≤ k) v xs :=
 Kd.Xc (Kd.Db (Kd.Fe ho) (fun k hk=>⟨by have:=h.blt;have:=hk.2.1;omega,hk.2.1⟩)) h.bl.size
theorem Ny {bs:List Yd} (hE:Vd bs) {i:Nat} (hi:i < (Vb bs).length) {A:Option Addr} {W:World} (hC:Kd.C (Kd.int .i64) W A (Vb bs).length (Vb bs)) :
  ∃ (ad:Addr) (b:Nat),A=some ad∧(Vb bs)[i]=(b:Int)∧b < bs.length∧Rk (Oe bs) b∧W.cell? (ad.add i)=some (.int .i64 (b:Int)):=by
 obtain ⟨x0,xr⟩:=(Mf hE _).1 (List.getElem_mem hi);obtain ⟨ad,e1,hx⟩:=Kd.Ud hC (i:Int) (by omega) (by omega);rw [Int.toNat_natCast,Gh hi] at hx;exact ⟨ad,((Vb bs)[i]).toNat,e1,(Int.toNat_of_nonneg x0).symm,qm hE xr,xr,by rw [Int.toNat_of_nonneg x0];exact hx⟩
theorem SN {w wA Zk jr:World} {mG b4 q9 g cap n b tn ck:Nat} {D:List (List Int)} {Ak:Option Addr} {ok:Nat→Prop} (h:Gv w wA b4 g cap n D Zk) (Z2:Zk.heap[mG]? = some (.cells #[.int .i64 (tn:Int)] 3 (0,0))) (h9:Zk.heap[q9]? = some (.cells #[.int .i64 (b:Int)] 3 (0,0)))
  (uB:b < n) (hbd:Below Zk.heap.size Zk jr) (ho:Kd.R (Kd.int .i64) 3 jr Zk.heap.size ok (.slice Ak (cj D tn).length ck) (cj D tn)) :
  Calls Try.prog 74 #[.slice Ak (cj D tn).length ck,.func (.func 109) #[] #[.pointer (some ⟨mG,0,none⟩),.pointer (some ⟨b4,0,none⟩),.pointer (some ⟨q9,0,none⟩)]] jr fun e w'=>e = .returned (.slice Ak (aj D b tn).length ck)∧Kd.R (Kd.int .i64) 3 w' Zk.heap.size (fun _=>True) (.slice Ak (aj D b tn).length ck) (aj D b tn)∧Below Zk.heap.size Zk w':=by
 have hown:∀ k,(Value.slice Ak (cj D tn).length ck).ownBlock=some k→Zk.heap.size ≤ k:=Kd.ug ho;have UR:=Kd.mU h.row hbd;refine (Tz 109 #[.pointer (some ⟨mG,0,none⟩),.pointer (some ⟨b4,0,none⟩),.pointer (some ⟨q9,0,none⟩)] (Sq D b tn) (enters_of Try.func109 (by kernel_rfl) rfl) (fun k=>some k=(Value.slice Ak (cj D tn).length ck).ownBlock) Ak ck (cj D tn) Zk.heap.size Zk jr hbd hbd.size (Kd.uj rfl ho) (fun W x hk=>?_)).mono ?_
 ·have kZ:=Kd.Qx UR hk (fun k hk e=>by have:=hown k e.symm;have:=hk.2;omega);obtain ⟨A,c,hc,-,hl,hC⟩:=eA kZ uB;have hne:∀ q,q < Zk.heap.size→¬ some q=(Value.slice Ak (cj D tn).length ck).ownBlock:=fun q hq e=>by have:=hown q e.symm;omega
  exact SA mG b4 q9 g n cap b tn D A c x W uB
   ((qa (jg (Ua Z2 hbd) hk (hne _ (Le Z2))) 0).trans rfl) ((qa (jg (Ua h.v hbd) hk (hne _ h.blt)) 0).trans rfl) ((qa (jg (Ua h9 hbd) hk (hne _ (Le h9))) 0).trans rfl) hc hl hC
 ·rintro e w' ⟨he,hr,hb,-⟩;exact ⟨he,Kd.Db hr (fun _ _=>trivial),hb⟩
theorem VJ {bs:List Yd} {D:List (List Int)} (h:fL bs D) (hn:bs.length ≤ 1048576) (k:Nat):(cj D k).length ≤ 1048576:=by
 obtain ⟨q,hq⟩:=h.bY k;rw [hq];exact Nat.le_trans (List.length_filter_le _ _) (Nat.le_trans (Fl bs) hn)
theorem uC {bs:List Yd} (hE:Vd bs) {b j:Nat} (hb:b < bs.length) (hj:j < (Oe bs b).length) {A:Option Addr} {W:World} (hC:Kd.C (Kd.int .i64) W A (Oe bs b).length (Oe bs b)) :
  ∃ (ad:Addr) (t:Nat),A=some ad∧(Oe bs b)[j]=(t:Int)∧t < bs.length∧W.cell? (ad.add j)=some (.int .i64 (t:Int)):=by
 obtain ⟨t0,t1⟩:=hE.2.2 b hb _ (List.getElem_mem hj);obtain ⟨ad,e1,hx⟩:=Kd.Ud hC (j:Int) (by omega) (by omega);rw [Int.toNat_natCast,Gh hj] at hx;exact ⟨ad,((Oe bs b)[j]).toNat,e1,(Int.toNat_of_nonneg t0).symm,by omega,by rw [Int.toNat_of_nonneg t0];exact hx⟩
theorem Oh.calls (Bb:Option Addr) (Ab:Nat) (Ma:List Int) (Pa:Int) (Qa:Int) (Oa:Int) (Qb:Option Addr) (Gb:Nat) (za:List (Yd)) (r:List (List Int)) (w:World) (od:Kd.C (Kd.int .i64) w Bb Ma.length Ma) (Nd:Ma.length ≤ Ab) (ze:Kd.C Jl w Qb za.length za) (Ve:za.length ≤ Gb) (h:Oh.f Ma Pa Qa Oa za=some r) :
  Calls Try.prog 82 #[.agg #[.slice Bb Ma.length Ab,.int .i64 Pa,.int .i64 Qa,.int .i64 Oa,.slice Qb za.length Gb]] w fun e w'=>∃ zj:Value,e = .returned (zj)∧Kd.S (Kd.slice 3 (Kd.int .i64)) 22 w' w.heap.size (fun _=>True) zj r∧Below w.heap.size w w':=by
 unfold Oh.f at h
 by_cases hE:Vd za
 case neg=>rw [if_neg hE] at h;cases h
 rw [if_pos hE] at h;obtain rfl:=Option.some.inj h;clear h;obtain ⟨R,hR,hRl,Z9⟩:=YH (l0:=Ma) (p:=Pa) (v:=Qa) (s:=Oa) hE;obtain ⟨ko,wS⟩:=Ev.rounds hR;have HO_:=aa.mk wS
 have YU:=aa.mk (show ef.f R=some (Vb za) from by
  unfold ef.f
  rw [if_pos (by have:=hE.2.1;omega),Z9])
 have HE:=aa.mk hE;have hn0:0 < za.length:=hE.1;have rW:za.length ≤ 1048576:=hE.2.1;have HML:=aa.mk (Fl za);have HN:=aa.mk (And.intro hn0 rW);clear hR hRl Z9 wS hE;obtain ⟨W1,He⟩:∃ W1,W1=w.alloc (.cells #[.slice Bb Ma.length Ab,.int .i64 Pa,.int .i64 Qa,.int .i64 Oa,.slice Qb za.length Gb] 45 (0,0)):=⟨_,rfl⟩;have HW:=aa.mk He;have HB:=aa.mk (show Below w.heap.size w W1 by rw [He];exact ia (Below.refl _ _) _);have HX:=aa.mk (show W1.heap[w.heap.size]? = some (.cells #[.slice Bb Ma.length Ab,.int .i64 Pa,.int .i64 Qa,.int .i64 Oa,.slice Qb za.length Gb] 45 (0,0)) by rw [He];exact si _ _);have xk:=aa.mk od;have oy:=aa.mk ze;have sE:=aa.mk Nd;have rE:=aa.mk Ve;have hx0:=(qa HX.out 0).trans rfl;have hx1:=(qa HX.out 1).trans rfl;have hx2:=(qa HX.out 2).trans rfl;have Ct:=(qa HX.out 3).trans rfl;have gr:=(qa HX.out 4).trans rfl;clear He od ze Nd Ve hn0 rW;go_enter Try.func82,Try.ntmps82
 go_upto_region 1 with (fail)
 rw [← HW.out];clear HW
 go_upto_region 2 with (first|(go_at_call 78;(with_reducible refine (nc.calls ko Bb Ab Ma Pa Qa Oa Qb Gb za R W1 (Kd.yb xk.out HB.out) sE.out (Kd.yb oy.out HB.out) rE.out HO_.out).mono ?_);rintro e w2 ⟨v2,rfl,ho,hb⟩;have zL:=aa.mk ho;have Yi:=aa.mk (Fa HB.out hb);have qJ:=aa.mk hb;have bC:=aa.mk (Ua HX.out hb);clear ho hb hx0 hx1 hx2 Ct gr)|(go_at_call 86;(with_reducible refine (ef.calls (fun _=>True) v2 R (Vb za) W1 w2 qJ.out zL.out YU.out).mono ?_);rintro e w3 ⟨v3,rfl,ho,hb,hk⟩;obtain ⟨Ar,cr,rfl⟩:=Kd.ic ho;have Rp:=aa.mk ho;have xp:=aa.mk (Fa HB.out hb);have xR:=aa.mk (Ua HX.out hb);clear ho hb hk))
 have xN:=aa.mk (Kd.Wa Rp.out).2.2;have hrl:(Vb za).length ≤ 1048576:=Nat.le_trans HML.out HN.out.2;clear Rp zL Yi qJ bC HO_ YU HX HB;have gr:=(qa xR.out 4).trans rfl;have HMK:=aa.mk (show ((za.length:Int)).toNat * 24 ≤ 281474976710656 from by have:=HN.out;omega);have r_:(0:Int) ≤ (za.length:Int):=by omega
 go_upto_region 3 with (first|((with_reducible refine Lb (N:=19) rfl ?_);refine Kd.KI (Kd.slice 3 (Kd.int .i64)) (w0:=w) w.heap.size 22 rfl (N:=19) rfl 53 _ _ rfl (za.length:Int) rfl rfl Try.underlying53 (.slice none 0 0) 24 mO rfl (by decide) (by omega) [] (ok:=fun _=>True) (Ag:=fun _=>True) ⟨_,rfl,Kd.Zs _ _ _ _ _⟩ (fun _ hk=>hk) trivial r_ HMK.out xp.out xp.out.size ?_;intro v4 w4 hs hb hg hat;obtain ⟨g,cap,rfl,sW,BK,hs⟩:=RE hs HN.out.1 hat;have HS4:=aa.mk hs;have fy:=aa.mk hb;have lJ:=aa.mk hg;have kJ:=aa.mk sW;have HGL:=aa.mk BK;clear hs hb hg hat sW BK))
 have OS:Below w3.heap.size w3 w4:=(Below.refl _ w3).grown lJ.out (Nat.le_refl _) (fun k e=>by cases e);have YX:=ia (Below.refl w4.heap.size w4) (.cells #[.slice (some ⟨g,0,none⟩) za.length cap] 53 (0,0));have LZ:=si w4 (.cells #[.slice (some ⟨g,0,none⟩) za.length cap] 53 (0,0));generalize w4.alloc (.cells #[.slice (some ⟨g,0,none⟩) za.length cap] 53 (0,0))=wA at YX LZ ⊢;have W5:=aa.mk (Fa OS YX);have HXA:=aa.mk (Ua xR.out W5.out);have IL:=aa.mk (show Below w.heap.size w wA from Np xp.out xp.out.size W5.out);have V5:=aa.mk (fun W' hk=>Kd.oo (S:=fun k=>k=g) (Kd.fh .i64) xN.out W5.out (fun k e=>e ▸ kJ.out) W' hk);have HS:=aa.mk (show Gv w wA w4.heap.size g cap za.length (List.replicate za.length []) wA from ⟨IL.out,Kept.refl _ _,LZ,Kd.Rf (Kd.Bh (Kd.LI HS4.out w4.heap.size (Nat.le_refl _)) YX) (fun k hk=>hk.2),by have:=HGL.out;omega,Nat.le_trans xp.out.size kJ.out⟩);have xY:=aa.mk (show w.heap.size ≠ g from by have:=Le xR.out;have:=kJ.out;omega);have HI:=aa.mk (Xx.start za);clear OS YX LZ HS4 fy lJ HGL xR xN xp r_ HMK gr;generalize w4.heap.size=b4 at HS ⊢;go_wp2
 go_loopg [22] (Vb za).length (fun gg v22 wr=>∃ (i:Nat) (D:List (List Int)),i ≤ (Vb za).length∧(Vb za).length - i ≤ gg∧v22 = .int .i64 i∧aa (Xx za i D)∧aa (Gv w wA b4 g cap za.length D wr))
 case atStart=>exact ⟨0,_,Nat.zero_le _,by omega,rfl,HI,HS⟩
 case round =>
  clear HI HS;(try clear D);(try clear HI);(try clear HS);obtain ⟨i,D,hi,BA,rfl,HI,HS⟩:=hrel
  by_cases hlt:i < (Vb za).length
  ·have Xh:decide ((i:Int) < ((Vb za).length:Int))=true:=decide_eq_true (by omega);have p1:0 ≤ (i:Int):=by omega
   have p2:(i:Int) < ((Vb za).length:Int):=by omega
   obtain ⟨ad,b,e1,hb,uB,XX,hx⟩:=Ny HE.out hlt (V5.out wr HS.out.k);subst e1;have HNI:=aa.mk (HI.out.next HE.out hlt);rw [hb,Int.toNat_natCast] at HNI;have q1:0 ≤ (b:Int):=by omega
   have q2:(b:Int) < (za.length:Int):=by omega
   clear hb XX
   go_upto_region 6 with (fail)
   have HD:=aa.mk (HS.out.below (Mk (Below.refl wr.heap.size wr)));clear HS HI hx;refine Pj (n:=7) (S:=fun w'=>w'.cell? ⟨b4,0,none⟩=some (.slice (some ⟨g,0,none⟩) za.length cap)) (ds:=[6]) #[false,false,false,false,false,false,false] (by kernel_rfl) rfl rfl (HD.out.cell) (fun hHeld=>?_);generalize wr.drew=wd at HD hHeld ⊢;refine Dc (i:=1) (N:=some 27) (v:=?_) (a':=?_) #[false,true,false,false,false,false,false] rfl rfl (by kernel_rfl) (fun _ _ _ h=>h) (Or.inl ⟨by rfl,?_⟩) ?_ ?_;rotate_left
   ·exact Rae
   rotate_left
   ·exact Qae
   refine Dc (i:=3) (N:=some 29) (v:=?_) (a':=?_) #[false,true,false,true,false,false,false] rfl rfl (by kernel_rfl) (fun _ _ _ h=>h) (Or.inl ⟨by rfl,?_⟩) ?_ ?_;rotate_left
   ·exact Rae
   rotate_left
   ·exact Qae
   refine ah (i:=0) (N:=some 26) (v:=?_) (a':=?_) #[true,true,false,true,false,false,false] rfl rfl (by kernel_rfl) (fun _ _ _ h=>h) (Or.inl ⟨by rfl,?_⟩) hHeld ?_ ?_;rotate_left
   ·intro w' s0;go_simp;with_reducible rfl
   rotate_left
   ·exact Qae
   refine dn (i:=2) (N:=some 28) #[true,true,true,true,false,false,false] rfl rfl (by kernel_rfl) (by decide) (fun K hK=>?_);refine Dk (w1:=?_) (v:=?_) (by rfl) rfl ?_ ?_;rotate_left 2
   ·go_simp
    constructor
    ·rfl
    ·rfl
   refine hK.out _ _ ((HD.out.below (ia (Below.refl _ _) _)).cell) (fun hHeld=>?_);clear hK K;refine Ze (a':=?_) ?_ ?_;rotate_left
   ·show Act.put _ (some 28) _=_
    exact Qae
   refine dn (i:=4) (N:=some 30) #[true,true,true,true,true,false,false] rfl rfl (by kernel_rfl) (by decide) (fun K hK=>?_);refine Kd.Tc (Kd.int .i64) (w0:=wd) wd.heap.size (by rfl) (.tmp 28) (.tmp 29) 22 3 (.int .i64 0) 8 rfl Try.underlying22 info3 rfl (by decide) (by omega) (.slice (some ⟨wd.heap.size,0,none⟩) 0 0) [] (Vb za) (some ad) (Vb za).length cr (fun _=>True) (fun _=>False) rfl rfl (xj (Kd.int .i64) 3 wd wd.heap.size (Nat.le_refl _)) ?aR (fun _ _ h=>h) (fun _ hk=>hk.elim) (fun _ _=>trivial) (ia (Below.refl _ _) _) (ia (Below.refl _ _) _).size ?aL ?_
   (case aR=>exact V5.out _ (HD.out.below (ia (Below.refl _ _) _)).k)
   (case aL=>have:=HML.out;have:=HN.out.2;simp;omega)
   intro v1 w1 ho Xm Dv hat;rw [List.nil_append] at ho;clear Dv hat;obtain ⟨A1,c1,rfl⟩:=Kd.ic ho;have CR:=aa.mk (HD.out.below Xm);have HP:=aa.mk (HD.out.put Xm uB (HD.out.fresh ho));clear ho Xm;refine hK.out _ _ (CR.out.cell) (fun hHeld=>?_);clear hK K;refine Ze (a':=?_) ?_ ?_;rotate_left
   ·show Act.put _ (some 30) _=_
    exact Qae
   refine Dc (i:=5) (N:=some 31) (v:=?_) (a':=?_) #[true,true,true,true,true,true,false] rfl rfl (by kernel_rfl) (fun _ _ _ h=>h) (Or.inl ⟨by rfl,?_⟩) ?_ ?_;rotate_left
   ·exact Rae
   rotate_left
   ·exact Qae
   refine Ts (i:=6) (N:=none) #[true,true,true,true,true,true,true] rfl rfl (by kernel_rfl) (by decide) (fun K hK=>?_);obtain ⟨Ao,co,hc,hf,-,-⟩:=CR.out.at uB;refine eG (w1:=?_) (by rfl) rfl ?_ ?_;rotate_left
   ·go_simp
    rfl
   refine hK.out _ _ ?_;clear hK K;refine Ym (by kernel_rfl) ?_;clear hHeld;go_wp2
   go_roundg ((Vb za).length - (i + 1))
   case measure=>omega
   case rel=>exact ⟨i + 1,_,by omega,by omega,by go_num,HNI,HP⟩
  ·have Xh:decide ((i:Int) < ((Vb za).length:Int))=false:=decide_eq_false (by omega);obtain rfl:i=(Vb za).length:=by omega
   have ZI:=aa.mk (HI.out.go HE.out);have hv:=HS.out.cell;obtain ⟨A0,c0,nF,DS,-,-⟩:=HS.out.at (i:=0) HN.out.1;have q0:(0:Int) < (za.length:Int):=by have:=HN.out.1;omega
   have s1:=HS.out.o3;have s2:=HS.out.blt;have hp:=HS.out.put (ia (Below.refl _ _) (.cells #[.int .i64 0] 3 (0,0))) HN.out.1 (HS.out.fresh (tv wr wr.heap.size 0 (Nat.le_refl _)));rw [World.setCell_alloc_past _ _ _ _ s1] at hp;have HP:=aa.mk hp;clear hp
   go_upto_region 9 with (fail)
   clear HI HS hv nF DS s1 s2 q0 Xh hlt BA hi;generalize (wr.setCell ⟨g,0,none⟩ (.slice (some ⟨wr.heap.size,0,none⟩) 1 1)).alloc (.cells #[.int .i64 0] 3 (0,0))=w8 at HP ⊢;generalize D.set 0 [0]=D at ZI HP;go_wp2
   go_loopg [7] (qt D + 1) (fun gg v7 wr=>∃ (D:List (List Int)) (a:Bool),v7 = .bool a∧qt D + (if a=true then 1 else 0) ≤ gg∧aa (fL za D)∧aa (a=false→kU za D (Vb za).length)∧aa (Gv w wA b4 g cap za.length D wr))
   case atStart=>exact ⟨_,true,rfl,by simp,ZI,⟨fun e=>by cases e⟩,HP⟩
   case round =>
    clear ZI HP;(try clear D);(try clear ZI);(try clear CQ);(try clear HS);obtain ⟨D,a,rfl,BA,ZI,CQ,HS⟩:=hrel;cases a with
    | false =>
     have HDE:=aa.mk (ZI.out.done HE.out (fun b hb t ht=>by
      have h:=CQ.out rfl (b:Int) (by rw [List.take_length];exact (Mf HE.out _).2 ⟨by omega,by rw [Int.toNat_natCast];exact hb⟩) t (by rw [Int.toNat_natCast];exact ht)
      rwa [Int.toNat_natCast] at h))
     have hv:=HS.out.cell;go_wp2;go_ret;exact ⟨_,rfl,by rw [← HDE.out];exact Kd.Rf HS.out.row (fun _ _=>trivial),HS.out.bl⟩
    | true =>
     have yS:=BA;rw [if_pos rfl] at yS;have HJ:=aa.mk (show tQ za D (qt D) false 0 from ⟨ZI.out,Nat.le_refl _,(fun e=>by cases e),(fun _ b hb=>by simp at hb)⟩);clear ZI CQ BA;generalize qt D=m0 at HJ yS;go_wp2
     go_loopg [7,39] (Vb za).length (fun g3 v7 v39 wr=>∃ (i:Nat) (D:List (List Int)) (a:Bool),v7 = .bool a∧v39 = .int .i64 i∧i ≤ (Vb za).length∧(Vb za).length - i ≤ g3∧aa (tQ za D m0 a i)∧aa (Gv w wA b4 g cap za.length D wr))
     case atStart=>exact ⟨0,_,false,rfl,rfl,Nat.zero_le _,by omega,HJ,HS⟩
     case round =>
      clear HJ HS;(try clear D);(try clear HJ);(try clear HS);obtain ⟨i,D,a,rfl,rfl,hi,DA,HJ,HS⟩:=hrel
      by_cases hlt:i < (Vb za).length
      ·have Xh:decide ((i:Int) < ((Vb za).length:Int))=true:=decide_eq_true (by omega);have p1:0 ≤ (i:Int):=by omega
       have p2:(i:Int) < ((Vb za).length:Int):=by omega
       obtain ⟨ad,b,e1,hb,uB,XX,hx⟩:=Ny HE.out hlt (V5.out wr HS.out.k);subst e1;have uY:=aa.mk hb;clear hb XX
       go_upto_region 15 with (fail)
       have O2:=ia (Below.refl wr.heap.size wr) (.cells #[.int .i64 (b:Int)] 3 (0,0));have KZ:=si wr (.cells #[.int .i64 (b:Int)] 3 (0,0));generalize wr.alloc (.cells #[.int .i64 (b:Int)] 3 (0,0))=w9 at O2 KZ ⊢;have VU:=aa.mk (HS.out.below O2);have wY:=aa.mk KZ;have HN9:=aa.mk (show wr.heap.size ≠ g from by have:=HS.out.o3;omega);clear O2 KZ HS hx;generalize wr.heap.size=q9 at wY HN9 ⊢;have hq9:=(qa wY.out 0).trans rfl;have gr:=(qa (jg HXA.out VU.out.k xY.out) 4).trans rfl;obtain ⟨ag,Ac,cc,e1,hc0,hc1,ju,jy,DJ,Us,yM⟩:=Nk (Kd.yb oy.out VU.out.bl) (b:Int) (by omega) (by omega);subst e1;simp only [Int.toNat_natCast] at hc0 hc1 ju jy DJ;have q1:0 ≤ (b:Int):=by omega
       have q2:(b:Int) < (za.length:Int):=by omega
       have P5:=aa.mk (show xe.f (Ga za (b:Int)).f0 (Ga za (b:Int)).f1 (Ga za (b:Int)).f2 (Ga za (b:Int)).f3 (Ga za (b:Int)).f4=some (Oe za b) from Dr _);have nJ:=aa.mk yM;have MJ:=aa.mk Us;clear yM Us;have htl:(Oe za b).length ≤ 2:=Jj _;go_wp2_with (first|(go_at_call 75;(with_reducible refine (xe.calls Ac cc (Ga za (b:Int)).f0 (Ga za (b:Int)).f1 (Ga za (b:Int)).f2 (Ga za (b:Int)).f3 (Ga za (b:Int)).f4 (Oe za b) w9 nJ.out MJ.out P5.out).mono ?_);rintro e Zl ⟨P6,rfl,ho,hb⟩;obtain ⟨An,cn,rfl⟩:=Kd.ic ho;have iV:=aa.mk ho;have uA:=aa.mk hb;clear ho hb hc0 hc1 ju jy DJ gr hq9));have WU:=aa.mk (VU.out.below uA.out);have L5:=aa.mk (Ua wY.out uA.out);have uN:=aa.mk VU.out.o3;have yY:=aa.mk (fun W' hk=>Kd.Um (S:=fun k=>k=g) (Kd.Db (Kd.Fe iV.out) (fun k hk=>hk.2.1)) (fun k hk e=>by have:=uN.out;omega) W' hk);have HNE:=aa.mk (rfl:Oe za b=Oe za b);clear VU iV uA nJ MJ wY
       go_loopg [7,50] (Oe za b).length (fun g4 v7 v50 wr=>∃ (j:Nat) (D:List (List Int)) (a:Bool),v7 = .bool a∧v50 = .int .i64 j∧j ≤ (Oe za b).length∧(Oe za b).length - j ≤ g4∧aa (tQ za D m0 a i)∧aa (a=false→jU D b (Oe za b) j)∧aa (Gv w wA b4 g cap za.length D wr)∧aa (Kept Zl wr (fun k=>k=g)))
       case atStart=>exact ⟨0,_,_,rfl,rfl,Nat.zero_le _,by omega,HJ,⟨fun _ t ht=>by simp at ht⟩,WU,⟨Kept.refl _ _⟩⟩
       case round =>
        clear HJ WU;(try clear D);(try clear HJ);(try clear CQ);(try clear HS);(try clear HK);obtain ⟨j,D,a,rfl,rfl,hj,CA,HJ,CQ,HS,HK⟩:=hrel
        by_cases hjt:j < (Oe za b).length
        ·have iH:decide ((j:Int) < ((Oe za b).length:Int))=true:=decide_eq_true (by omega);have r1:0 ≤ (j:Int):=by omega
         have r2:(j:Int) < ((Oe za b).length:Int):=by omega
         obtain ⟨an,tn,e1,ht,htn,hx⟩:=uC HE.out uB hjt (yY.out wr HK.out);subst e1;have HT:=aa.mk ht;clear ht
         go_upto_region 18 with (fail)
         have RH:=ia (Below.refl wr.heap.size wr) (.cells #[.int .i64 (tn:Int)] 3 (0,0));have AO:=si wr (.cells #[.int .i64 (tn:Int)] 3 (0,0));generalize wr.alloc (.cells #[.int .i64 (tn:Int)] 3 (0,0))=Zk at RH AO ⊢;have eC:=aa.mk (HS.out.below RH);have ay:=aa.mk AO;have aV:=aa.mk (Ua (jg L5.out HK.out HN9.out) RH);have vV:=aa.mk (HK.out.below RH);clear RH AO HS HK hx;generalize wr.heap.size=mG at ay ⊢;have tA:=aa.mk (ia (Below.refl Zk.heap.size Zk) (.cells #[] 3 (0,0)));obtain ⟨At,ct,jS,-,hlt',p_⟩:=(eC.out.below tA.out).at htn;have HCt:=aa.mk p_;have l8:=(eC.out.below tA.out).cell;have lS:=(qa (Ua ay.out tA.out) 0).trans rfl;have t1:0 ≤ (tn:Int):=by omega
         have t2:(tn:Int) < (za.length:Int):=by omega
         have HEM:=aa.mk (xj (Kd.int .i64) 3 Zk Zk.heap.size (Nat.le_refl _));have HLN:=aa.mk (show (([]:List Int).length + (cj D tn).length) * 8 ≤ 140737488355328 from by have:=VJ HJ.out.inv HN.out.2 tn;simp;omega);have hmf:∀ (fn:Fn) (first cap:Array Value) (w:World),(Instr.makeFunc fn first cap).run Try.prog w = .ok (.func fn first cap) w:=fun _ _ _ _=>rfl
         clear p_
         go_upto_region 19 with (first|((with_reducible refine Lb (N:=59) rfl ?_);refine Kd.lp (Kd.int .i64) (w0:=Zk) Zk.heap.size rfl (.tmp 54) (.tmp 58) 22 3 (.int .i64 0) 8 rfl Try.underlying22 info3 rfl (by decide) (by omega) (.slice (some ⟨Zk.heap.size,0,none⟩) 0 0) [] (cj D tn) At (cj D tn).length ct (fun _=>True) (fun _=>False) rfl rfl HEM.out HCt.out (fun _ _ h=>h) (fun _ hk=>hk.elim) (fun _ _=>trivial) tA.out tA.out.size HLN.out ?_;intro v19 jr ho Xm Dv hat;rw [List.nil_append] at ho;obtain ⟨Ak,ck,rfl⟩:=Kd.ic ho;have HDC:=aa.mk (SN eC.out ay.out aV.out uB Xm ho);clear ho Xm Dv hat jS l8 lS)|(go_at_call 74;(with_reducible refine HDC.out.mono ?_);rintro e M6 ⟨rfl,kS,PS⟩;have ZU:=aa.mk kS;have pJ:=aa.mk PS;clear kS PS HDC))
         have FQ:=aa.mk (eC.out.below pJ.out);have HP:=aa.mk (eC.out.put pJ.out htn (eC.out.fresh ZU.out));have uV:=aa.mk (vV.out.below pJ.out);have l8:=FQ.out.cell;have lS:=(qa (Ua ay.out pJ.out) 0).trans rfl;obtain ⟨At,ct,jS,hft,-,-⟩:=FQ.out.at htn;clear eC aV vV HEM HLN HCt tA ZU hlt' ay pJ
         by_cases hk:(aj D b tn).length < (cj D tn).length
         ·have hkb:decide (((aj D b tn).length:Int) < ((cj D tn).length:Int))=true:=decide_eq_true (by omega);have AY:=aa.mk (HJ.out.keep HE.out hlt (t:=(Oe za b)[j]) (by rw [uY.out,Int.toNat_natCast];exact List.getElem_mem hjt) (by rw [uY.out,HT.out,Int.toNat_natCast,Int.toNat_natCast];exact hk));rw [uY.out,HT.out,Int.toNat_natCast,Int.toNat_natCast] at AY;have hGK:=HP.out.k;go_wp2
          go_roundg ((Oe za b).length - (j + 1))
          case measure=>omega
          case rel=>exact ⟨j + 1,_,true,rfl,by go_num,by omega,by omega,AY,⟨fun e=>by cases e⟩,HP,⟨uV.out.setCell (Or.inl rfl) _⟩⟩
         ·have hkb:decide (((aj D b tn).length:Int) < ((cj D tn).length:Int))=false:=decide_eq_false (by omega);have fV:=aa.mk (EG hk).2;clear HP;go_wp2
          go_roundg ((Oe za b).length - (j + 1))
          case measure=>omega
          case rel=>exact ⟨j + 1,D,a,rfl,by go_num,by omega,by omega,HJ,⟨fun e=>(CQ.out e).next hjt (by rw [HT.out,Int.toNat_natCast];exact fV.out)⟩,FQ,uV⟩
        ·have iH:decide ((j:Int) < ((Oe za b).length:Int))=false:=decide_eq_false (by omega);obtain rfl:j=(Oe za b).length:=by omega
         have AY:=aa.mk (show tQ za D m0 a (i + 1) from ⟨HJ.out.inv,HJ.out.le,HJ.out.lt,fun e=>(HJ.out.so e).next hlt (by rw [uY.out,Int.toNat_natCast];exact CQ.out e)⟩);go_wp2
         go_roundg ((Vb za).length - (i + 1))
         case measure=>omega
         case rel=>exact ⟨i + 1,D,a,rfl,by go_num,by omega,by omega,AY,HS⟩
      ·have Xh:decide ((i:Int) < ((Vb za).length:Int))=false:=decide_eq_false (by omega);obtain rfl:i=(Vb za).length:=by omega
       have h1:=HJ.out.le;have h2:=HJ.out.lt
       have HM:=aa.mk (show qt D + (if a=true then 1 else 0) < m0 + 1 from by
        cases a with
        | false=>rw [if_neg (by simp)];omega
        | true=>have:=h2 rfl;rw [if_pos rfl];omega)
       clear h1 h2;go_wp2
       go_roundg (qt D + (if a=true then 1 else 0))
       case measure=>have:=HM.out;omega
       case rel=>exact ⟨D,a,rfl,Nat.le_refl _,⟨HJ.out.inv⟩,⟨HJ.out.so⟩,HS⟩
attribute [local go_sem] Hg Fg Nh Mh cg bg Gg Eg
end Go.Proofs.Ytoomcmaifgkkfaa.P
end
