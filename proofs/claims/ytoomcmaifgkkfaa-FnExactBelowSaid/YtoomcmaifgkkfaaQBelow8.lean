import Derived.Test.YtoomcmaifgkkfaaQBelow1
import Derived.Test.YtoomcmaifgkkfaaQBelow7
import Derived.Shelf.Abstract
import Derived.Outline
import Derived.RegionTactic
import Derived.Shelf.Small.Bits
import Derived.Shelf.Small.Wraps
import Derived.Shelf.Strconv.Itoa0
import Derived.Shelf.Sort.Plain
import Derived.Shelf.Slices.Turned
import Derived.Shelf.Slices.Reverse
import Derived.Ground.Names2Prog
import Derived.Shelf.Slices.CompactI
import Derived.Shelf.Slices.SearchI
import Derived.Shelf.Slices.Cells
import Derived.Shelf.Slices.In.SortNone
import Derived.Sort.OwnSortedInts
import Derived.Lib.SliceRun
import Derived.Test.YtoomcmaifgkkfaaQBelow3
import Derived.Test.YtoomcmaifgkkfaaQBelow4
import Derived.BigQuiet
import Derived.StillTailTactics
set_option maxHeartbeats 8000000
set_option maxRecDepth 100000
section
namespace Go.Proofs.Ytoomcmaifgkkfaa.P
open Go.RowKit Go.Proofs.Ia.Qb Go.Proofs.Ia.Dd Go.Proofs.Ia.ze
set_option linter.unusedVariables false
set_option linter.unusedSimpArgs false
attribute [local go_sem] Eh Ch Ji Ii Jg Ig Dh Bh
def Zc.l0:Nat→List Bool→List Int→List Int→List Int→Int→Int→Int→List (jf)→Option (List Int)
 | 0,_,_,_,_,_,_,_,_=>none
 | k + 1,x3,x4,x5,Sc,Tc,Rc,Qc,Xb=>if (x5.length:Int) > 0 then (if 0 ≤ (wrap64 ((x5.length:Int) - 1)) then (if (wrap64 ((x5.length:Int) - 1)) < (x5.length:Int) then (if (wrap64 ((x5.length:Int) - 1)) ≤ (x5.length:Int) then ((some (x5.take ((wrap64 ((x5.length:Int) - 1)):Int).toNat:List Int)).bind fun Mh=>(if 0 ≤ (rd x5 (wrap64 ((x5.length:Int) - 1))) then (if (rd x5 (wrap64 ((x5.length:Int) - 1))) < (x3.length:Int) then (if lg false x3 (rd x5 (wrap64 ((x5.length:Int) - 1)))=true then (Zc.l0 k x3 x4 Mh Sc Tc Rc Qc Xb) else (if x4.length < 17592186044416 then (if (rd x5 (wrap64 ((x5.length:Int) - 1))) < (Xb.length:Int) then ((Wf.f ((Sa Xb (rd x5 (wrap64 ((x5.length:Int) - 1)))).f0) ((Sa Xb (rd x5 (wrap64 ((x5.length:Int) - 1)))).f1) ((Sa Xb (rd x5 (wrap64 ((x5.length:Int) - 1)))).f2) ((Sa Xb (rd x5 (wrap64 ((x5.length:Int) - 1)))).f3) ((Sa Xb (rd x5 (wrap64 ((x5.length:Int) - 1)))).f4)).bind fun t121=>((Ya.f k t121).bind fun t124=>(if Mh.length + t124.length < 17592186044416 then (Zc.l0 k (x3.set ((rd x5 (wrap64 ((x5.length:Int) - 1))):Int).toNat true) (x4 ++ [rd x5 (wrap64 ((x5.length:Int) - 1))]) (Mh ++ t124) Sc Tc Rc Qc Xb) else (none)))) else (none)) else (none))) else (none)) else (none))) else (none)) else (none)) else (none)) else (some x4)
def Zc.f (k:Nat) (Oa:List Int) (Ka:Int) (Pa:Int) (Ja:Int) (Ga:List (jf)):Option (List Int):=if 0 ≤ (Ga.length:Int) then (if ((Ga.length:Int):Int).toNat ≤ 281474976710656 then (Zc.l0 k (List.replicate ((Ga.length:Int):Int).toNat false) (([]:List Int)) (([0]:List Int)) Oa Ka Pa Ja Ga) else (none)) else (none)
theorem Zc.calls (k:Nat) (yb:Option Addr) (xb:Nat) (Oa:List Int) (Ka:Int) (Pa:Int) (Ja:Int) (Rb:Option Addr) (Ib:Nat) (Ga:List (jf)) (r:List Int) (w:World) (fe:Kd.C (Kd.int .i64) w yb Oa.length Oa) (Yd:Oa.length ≤ xb) (Ff:Kd.C Po w Rb Ga.length Ga) (Hf:Ga.length ≤ Ib) (h:Zc.f k Oa Ka Pa Ja Ga=some r) :
  Calls Try.prog 78 #[.agg #[.slice yb Oa.length xb,.int .i64 Ka,.int .i64 Pa,.int .i64 Ja,.slice Rb Ga.length Ib]] w fun e w'=>∃ Pm:Value,e = .returned (Pm)∧Kd.R (Kd.int .i64) 3 w' w.heap.size (fun _=>True) Pm r∧Below w.heap.size w w':=by
 have KA:=Try.underlying45;have Iz:=Try.underlying83;have Qe:=ga.mk fe;have gf:=ga.mk Yd;clear fe Yd;have ug:=ga.mk Ff;have Kh:=ga.mk Hf;clear Ff Hf;have HB:=ga.mk (Below.refl w.heap.size w);have H:(if 0 ≤ (Ga.length:Int) then (if ((Ga.length:Int):Int).toNat ≤ 281474976710656 then (Zc.l0 k (List.replicate ((Ga.length:Int):Int).toNat false) (([]:List Int)) (([0]:List Int)) Oa Ka Pa Ja Ga) else (none)) else (none))=some r:=h;clear h
 by_cases c2:0 ≤ (Ga.length:Int)
 ·rw [if_pos c2] at H;have vq:=eq_true c2;have Lt:decide (0 ≤ (Ga.length:Int))=true:=decide_eq_true c2;clear c2
  by_cases c3:((Ga.length:Int):Int).toNat ≤ 281474976710656
  ·rw [if_pos c3] at H;have Gg:=eq_true c3;have Wm:decide (((Ga.length:Int):Int).toNat ≤ 281474976710656)=true:=decide_eq_true c3;clear c3;obtain ⟨qe,jg⟩:∃ y_:List Bool,y_=(List.replicate ((Ga.length:Int):Int).toNat false):=⟨_,rfl⟩;replace H:(Zc.l0 k qe (([]:List Int)) (([0]:List Int)) Oa Ka Pa Ja Ga)=some r:=by first|(rw [jg];with_reducible exact H)|(have Od:=(Option.bind_some _ _).symm.trans H;rw [jg];with_reducible exact Od)|(have Od:=(Option.bind_some _ _).symm.trans H;with_reducible exact Od)|with_reducible exact H|(rw [jg];exact H)|exact H
   have Aj:=ga.mk jg;clear jg;obtain ⟨we,Fg⟩:∃ y_:List Int,y_=(([]:List Int)):=⟨_,rfl⟩;replace H:(Zc.l0 k qe we (([0]:List Int)) Oa Ka Pa Ja Ga)=some r:=by first|(rw [Fg];with_reducible exact H)|(have Od:=(Option.bind_some _ _).symm.trans H;rw [Fg];with_reducible exact Od)|(have Od:=(Option.bind_some _ _).symm.trans H;with_reducible exact Od)|with_reducible exact H|(rw [Fg];exact H)|exact H
   have zo:=ga.mk Fg;clear Fg;obtain ⟨jz,Zi⟩:∃ y_:List Int,y_=(([0]:List Int)):=⟨_,rfl⟩;replace H:(Zc.l0 k qe we jz Oa Ka Pa Ja Ga)=some r:=by first|(rw [Zi];with_reducible exact H)|(have Od:=(Option.bind_some _ _).symm.trans H;rw [Zi];with_reducible exact Od)|(have Od:=(Option.bind_some _ _).symm.trans H;with_reducible exact Od)|with_reducible exact H|(rw [Zi];exact H)|exact H
   have Zt:=ga.mk Zi;clear Zi;have H':=ga.mk H;clear H;go_enter Try.func78,Try.ntmps78;go_wp2_with (first|((with_reducible refine Db (N:=1) rfl ?_);refine Lb ?hg (N:=1) ?hd (cs:=#[.slice yb Oa.length xb,.int .i64 Ka,.int .i64 Pa,.int .i64 Ja,.slice Rb Ga.length Ib]) (t:=45) ?hr ?_;(case hd=>rfl);(case hg=>rfl);(case hr=>first|(go_simp;done)|(go_simp;rfl));intro za hg w4 Tb hb;have Jb:=ga.mk (Ra (by repeat (first|(with_reducible first|exact HB.out|apply oa|apply ia|apply qa)|exact HB.out)) hb);have Ob:=ga.mk (Tb);have Vb:=ga.mk ((by rw [hg];exact (La (by repeat (first|(with_reducible first|exact HB.out|apply oa|apply ia|apply qa)|exact HB.out))):w.heap.size ≤ za));have uc:=ga.mk ((by rw [hg];exact (La (by repeat (first|(with_reducible first|exact HB.out|apply oa|apply ia|apply qa)|exact HB.out))):w.heap.size ≤ za));clear HB;have HB:=Jb;have ta:=Ob;have ue:=Vb;have Ta:=uc;clear Jb Ob Vb uc hb Tb hg;have ZO:w4.cell? ⟨za,0,none⟩=some (.slice yb Oa.length xb):=(ja ta.out 0).trans rfl;have YO:w4.cell? ⟨za,1,none⟩=some (.int .i64 Ka):=(ja ta.out 1).trans rfl;have XO:w4.cell? ⟨za,2,none⟩=some (.int .i64 Pa):=(ja ta.out 2).trans rfl;have WO:w4.cell? ⟨za,3,none⟩=some (.int .i64 Ja):=(ja ta.out 3).trans rfl;have VO:w4.cell? ⟨za,4,none⟩=some (.slice Rb Ga.length Ib):=(ja ta.out 4).trans rfl;have FO:=aa ta.out 0;have EO:=aa ta.out 1;have CO:=aa ta.out 2;have BO:=aa ta.out 3;have AO:=aa ta.out 4)|((with_reducible refine Db (N:=11) rfl ?_);refine Kd.tu Kd.bool _ 4 rfl (N:=11) rfl 73 _ _ rfl (Ga.length:Int) rfl rfl Try.underlying73 (.bool false) 1 tJ rfl (by decide) (by omega) false (ok:=fun _=>True) (Ah:=fun _=>True) rfl (fun _ hk=>hk) trivial (of_decide_eq_true (by first|(with_reducible assumption)|assumption)) (Nat.le_trans (Nat.mul_le_mul_right _ (of_decide_eq_true (by first|(with_reducible assumption)|assumption):(Ga.length:Int).toNat ≤ 281474976710656)) (by omega)) (Below.refl _ _) (Nat.le_refl _) ?_;intro Sh w6 D5 hb Um Gf;clear Um Gf;(first|rw [← Aj.out] at D5|(simp only [Int.reduceToNat] at D5;rw [← Aj.out] at D5));have Jb:=ga.mk (Kd.Fe D5 (La (by repeat (first|(with_reducible first|exact HB.out|apply oa|apply ia|apply qa|refine ua ?_ Ta.out)|exact HB.out))));have Ob:=ga.mk (Va (g:=za) (o:=.cells #[.slice yb Oa.length xb,.int .i64 Ka,.int .i64 Pa,.int .i64 Ja,.slice Rb Ga.length Ib] 45 (0,0)) (by (with_reducible repeat (first|refine Da ?_ _|refine Ea ?_|refine Ca ?_ _));exact ta.out) hb);have Vb:=ga.mk (Ra (by repeat (first|(with_reducible first|exact HB.out|apply oa|apply ia|apply qa|refine ua ?_ Ta.out)|exact HB.out)) hb);clear ta HB;have dg:=Jb;have ta:=Ob;have HB:=Vb;clear Jb Ob Vb hb D5)|((with_reducible refine Db (N:=12) rfl ?_);refine Kd.Tk (Kd.int .i64) _ 3 ?hg (N:=12) ?hd (xs:=([]:List Int)) (inner:=[]) (ok:=fun _=>True) (Ah:=fun _=>True) ?hr ?hp (fun _ hk=>hk) trivial (Below.refl _ _) (Nat.le_refl _) (by simp) ?_;(case hd=>rfl);(case hg=>rfl);(case hr=>first|(go_simp;done)|(go_simp;rfl));(case hp=>exact (Ld.none _ _));intro DA w8 tO hb Um Gf;clear Um Gf;(first|rw [← zo.out] at tO|(simp only [Int.reduceToNat] at tO;rw [← zo.out] at tO));have Jb:=ga.mk (Kd.ld (by (with_reducible repeat (first|apply Kd.Xa|apply Kd.Wa|apply Kd.qb));exact dg.out) hb);have Ob:=ga.mk (Kd.Fe tO (La (by repeat (first|(with_reducible first|exact HB.out|apply oa|apply ia|apply qa|refine ua ?_ Ta.out)|exact HB.out))));have Vb:=ga.mk (Va (g:=za) (o:=.cells #[.slice yb Oa.length xb,.int .i64 Ka,.int .i64 Pa,.int .i64 Ja,.slice Rb Ga.length Ib] 45 (0,0)) (by (with_reducible repeat (first|refine Da ?_ _|refine Ea ?_|refine Ca ?_ _));exact ta.out) hb);have uc:=ga.mk (Ra (by repeat (first|(with_reducible first|exact HB.out|apply oa|apply ia|apply qa|refine ua ?_ Ta.out)|exact HB.out)) hb);clear dg ta HB;have dg:=Jb;have Zm:=Ob;have ta:=Vb;have HB:=uc;clear Jb Ob Vb uc hb tO)|((with_reducible refine Db (N:=13) rfl ?_);refine Kd.Tk (Kd.int .i64) _ 3 ?hg (N:=13) ?hd (xs:=([0]:List Int)) (inner:=[.int .i64 0]) (ok:=fun _=>True) (Ah:=fun _=>True) ?hr ?hp (fun _ hk=>hk) trivial (Below.refl _ _) (Nat.le_refl _) (by simp) ?_;(case hd=>rfl);(case hg=>rfl);(case hr=>first|(go_simp;done)|(go_simp;rfl));(case hp=>exact (Ld.one (show Kd.M (Kd.int .i64) _ _ _ 0 [.int .i64 0] from rfl) (Ld.none _ _)));intro v109 Bp Oq hb Um Gf;clear Um Gf;(first|rw [← Zt.out] at Oq|(simp only [Int.reduceToNat] at Oq;rw [← Zt.out] at Oq));have Jb:=ga.mk (Kd.ld (by (with_reducible repeat (first|apply Kd.Xa|apply Kd.Wa|apply Kd.qb));exact dg.out) hb);have Ob:=ga.mk (Kd.si (by (with_reducible repeat (first|apply Kd.Xa|apply Kd.Wa|apply Kd.qb));exact Zm.out) (Kd.xh Oq) hb);have Vb:=ga.mk (Kd.Fe (Kd.Kk Oq (Kd.Km (by (with_reducible repeat (first|apply Kd.Xa|apply Kd.Wa|apply Kd.qb));exact Zm.out))) (La (by repeat (first|(with_reducible first|exact HB.out|apply oa|apply ia|apply qa|refine ua ?_ Ta.out)|exact HB.out))));have uc:=ga.mk (Va (g:=za) (o:=.cells #[.slice yb Oa.length xb,.int .i64 Ka,.int .i64 Pa,.int .i64 Ja,.slice Rb Ga.length Ib] 45 (0,0)) (by (with_reducible repeat (first|refine Da ?_ _|refine Ea ?_|refine Ca ?_ _));exact ta.out) hb);have Be:=ga.mk (Ra (by repeat (first|(with_reducible first|exact HB.out|apply oa|apply ia|apply qa|refine ua ?_ Ta.out)|exact HB.out)) hb);clear dg Zm ta HB;have dg:=Jb;have Zm:=Ob;have Kq:=Vb;have ta:=uc;have HB:=Be;clear Jb Ob Vb uc Be hb Oq))
   go_loopg [4,5] k (fun kq v4 v5 w'=>∃ (Oc:List Bool) (Wb:List Int) (Ba:List Int),ga (Zc.l0 kq Oc Wb Ba Oa Ka Pa Ja Ga=some r)∧ga (kq ≤ k)∧ga (Kd.R Kd.bool 4 w' w.heap.size (fun _=>True) Sh Oc)∧ga (Kd.R (Kd.int .i64) 3 w' w.heap.size (fun k_=>some k_ ≠ (v5:Value).ownBlock) v4 Wb)∧ga (Kd.R (Kd.int .i64) 3 w' w.heap.size (fun k_=>some k_ ≠ (v4:Value).ownBlock) v5 Ba)∧ga (w'.heap[za]? = some (.cells #[(.slice yb Oa.length xb),.int .i64 Ka,.int .i64 Pa,.int .i64 Ja,(.slice Rb Ga.length Ib)] 45 (0,0)))∧ga (Below w.heap.size w w'))
   case atStart=>exact ⟨(qe),(we),(jz),H',⟨Nat.le_refl _⟩,⟨by (with_reducible repeat (first|apply Kd.Xa|apply Kd.Wa|apply Kd.qb));exact dg.out⟩,⟨by (with_reducible repeat (first|apply Kd.Xa|apply Kd.Wa|apply Kd.qb));exact Kd.Bc Zm.out (fun _ hk=>hk.2)⟩,⟨by (with_reducible repeat (first|apply Kd.Xa|apply Kd.Wa|apply Kd.qb));exact Kd.Bc Kq.out (fun _ hk=>hk.2)⟩,⟨by (with_reducible repeat (first|refine Da ?_ _|refine Ea ?_|refine Ca ?_ _));exact ta.out⟩,⟨by repeat (first|(with_reducible first|exact HB.out|apply oa|apply ia|apply qa|refine ua ?_ Ta.out)|exact HB.out)⟩⟩
   case round =>
    clear H'
    try clear c2
    try clear vq
    try clear Lt
    try clear p2
    try clear c3
    try clear Gg
    try clear Wm
    try clear c7
    try clear ZO
    try clear YO
    try clear XO
    try clear WO
    try clear VO
    try clear FO
    try clear EO
    try clear CO
    try clear BO
    try clear AO
    (try clear HA);(try clear Nf);(try clear Vc);(try clear Jd);(try clear mg);(try clear ta);(try clear HB);obtain ⟨Oc,Wb,Ba,HA,Nf,Vc,Jd,mg,ta,HB⟩:=hrel;cases gk with
    | zero=>exact absurd HA.out (by simp [Zc.l0])
    | succ k1 =>
     have H:=HA.out;clear HA;simp only [Zc.l0] at H
     by_cases xw:(Ba.length:Int) > 0
     ·rw [if_pos xw] at H;have DG:decide (0 < (Ba.length:Int))=true:=decide_eq_true xw;have Saa:decide (0 < Ba.length)=true:=decide_eq_true (by omega);clear xw;obtain ⟨Nd,LJ⟩:∃ j_:Int,(wrap64 ((Ba.length:Int) - 1))=j_:=⟨_,rfl⟩;replace H:(if 0 ≤ (Nd) then (if (Nd) < (Ba.length:Int) then (if (Nd) ≤ (Ba.length:Int) then ((some (Ba.take ((Nd):Int).toNat:List Int)).bind fun Mh=>(if 0 ≤ (rd Ba (Nd)) then (if (rd Ba (Nd)) < (Oc.length:Int) then (if lg false Oc (rd Ba (Nd))=true then (Zc.l0 k1 Oc Wb Mh Oa Ka Pa Ja Ga) else (if Wb.length < 17592186044416 then (if (rd Ba (Nd)) < (Ga.length:Int) then ((Wf.f ((Sa Ga (rd Ba (Nd))).f0) ((Sa Ga (rd Ba (Nd))).f1) ((Sa Ga (rd Ba (Nd))).f2) ((Sa Ga (rd Ba (Nd))).f3) ((Sa Ga (rd Ba (Nd))).f4)).bind fun t121=>((Ya.f k1 t121).bind fun t124=>(if Mh.length + t124.length < 17592186044416 then (Zc.l0 k1 (Oc.set ((rd Ba (Nd)):Int).toNat true) (Wb ++ [rd Ba (Nd)]) (Mh ++ t124) Oa Ka Pa Ja Ga) else (none)))) else (none)) else (none))) else (none)) else (none))) else (none)) else (none)) else (none))=some r:=by first|(rw [LJ] at H;exact H)|(simp only [LJ] at H ⊢;exact H)
      have Gam:(IntKind.i64.wrap ((Ba.length:Int) - 1))=Nd:=(Yb _).trans LJ
      by_cases Xt:0 ≤ (Nd)
      ·rw [if_pos Xt] at H;have Qx:decide (0 ≤ (Nd))=true:=decide_eq_true Xt;clear Xt
       by_cases CG:(Nd) < (Ba.length:Int)
       ·rw [if_pos CG] at H;have LP:decide ((Nd) < (Ba.length:Int))=true:=decide_eq_true CG;clear CG
        by_cases aA:(Nd) ≤ (Ba.length:Int)
        ·rw [if_pos aA] at H;have KP:=eq_true aA;have aat:decide ((Nd) ≤ (Ba.length:Int))=true:=decide_eq_true aA;clear aA;obtain ⟨Mh,El⟩:∃ y_:List Int,y_=(Ba.take ((Nd):Int).toNat):=⟨_,rfl⟩;replace H:(if 0 ≤ (rd Ba (Nd)) then (if (rd Ba (Nd)) < (Oc.length:Int) then (if lg false Oc (rd Ba (Nd))=true then (Zc.l0 k1 Oc Wb Mh Oa Ka Pa Ja Ga) else (if Wb.length < 17592186044416 then (if (rd Ba (Nd)) < (Ga.length:Int) then ((Wf.f ((Sa Ga (rd Ba (Nd))).f0) ((Sa Ga (rd Ba (Nd))).f1) ((Sa Ga (rd Ba (Nd))).f2) ((Sa Ga (rd Ba (Nd))).f3) ((Sa Ga (rd Ba (Nd))).f4)).bind fun t121=>((Ya.f k1 t121).bind fun t124=>(if Mh.length + t124.length < 17592186044416 then (Zc.l0 k1 (Oc.set ((rd Ba (Nd)):Int).toNat true) (Wb ++ [rd Ba (Nd)]) (Mh ++ t124) Oa Ka Pa Ja Ga) else (none)))) else (none)) else (none))) else (none)) else (none))=some r:=by first|(rw [El];with_reducible exact H)|(have Od:=(Option.bind_some _ _).symm.trans H;rw [El];with_reducible exact Od)|(have Od:=(Option.bind_some _ _).symm.trans H;with_reducible exact Od)|with_reducible exact H|(rw [El];exact H)|exact H
         have Tx:=ga.mk El;clear El
         by_cases nE:0 ≤ (rd Ba (Nd))
         ·rw [if_pos nE] at H;have Px:decide (0 ≤ (rd Ba (Nd)))=true:=decide_eq_true nE;clear nE
          by_cases Ir:(rd Ba (Nd)) < (Oc.length:Int)
          ·rw [if_pos Ir] at H;have vo:decide ((rd Ba (Nd)) < (Oc.length:Int))=true:=decide_eq_true Ir;clear Ir;obtain ⟨Waa,mP⟩:∃ b_:Bool,b_=(lg false Oc (rd Ba (Nd))):=⟨_,rfl⟩;replace H:(if Waa=true then (Zc.l0 k1 Oc Wb Mh Oa Ka Pa Ja Ga) else (if Wb.length < 17592186044416 then (if (rd Ba (Nd)) < (Ga.length:Int) then ((Wf.f ((Sa Ga (rd Ba (Nd))).f0) ((Sa Ga (rd Ba (Nd))).f1) ((Sa Ga (rd Ba (Nd))).f2) ((Sa Ga (rd Ba (Nd))).f3) ((Sa Ga (rd Ba (Nd))).f4)).bind fun t121=>((Ya.f k1 t121).bind fun t124=>(if Mh.length + t124.length < 17592186044416 then (Zc.l0 k1 (Oc.set ((rd Ba (Nd)):Int).toNat true) (Wb ++ [rd Ba (Nd)]) (Mh ++ t124) Oa Ka Pa Ja Ga) else (none)))) else (none)) else (none)))=some r:=by rw [← mP] at H;exact H
           have aX:=ga.mk mP;clear mP
           by_cases vw:Waa=true
           ·subst vw;have H1:(Zc.l0 k1 Oc Wb Mh Oa Ka Pa Ja Ga)=some r:=by rw [if_pos rfl] at H;exact H
            clear H;have H:=H1;clear H1;have H':=ga.mk H;clear H;obtain ⟨Faw,dao,Pan⟩:=Kd.xd mg.out;subst Pan;have JH:0 ≤ ((Nd):Int):=of_decide_eq_true (by first|(with_reducible assumption)|assumption);have BH:(Nd) < (Ba.length:Int):=of_decide_eq_true (by first|(with_reducible assumption)|assumption);obtain ⟨xB,DZ,MR⟩:=Kd.qf (Kd.Fb mg.out).2.2 (Nd) JH BH;cases DZ;replace JH:=eq_true JH;replace BH:=eq_true BH;have pR:((Nd):Int) ≤ ((Ba.length:Int):Int):=of_decide_eq_true (by first|(with_reducible assumption)|assumption);obtain ⟨xal,DF,_,FJ,_⟩:=info_parts info3;have nI:=zP (P:=Try.prog) 22 3 .i64 Try.underlying22 DF (some xB) Ba.length dao (Nd) (of_decide_eq_true (by first|(with_reducible assumption)|assumption)) pR (Kd.Fb mg.out).2.1;have LA:=Kd.wE (m:=((Nd):Int).toNat) mg.out (by omega);have BM:Mh.length=((Nd):Int).toNat:=(by rw [Tx.out,List.length_take];omega);rw [← Tx.out] at LA;rw [← BM] at LA nI;clear BM DF FJ mg;have Xj:=ga.mk LA;clear LA;replace pR:=eq_true pR;obtain ⟨Eaw,tav,Oan⟩:=Kd.xd Vc.out;subst Oan;have ku:0 ≤ ((rd Ba (Nd)):Int):=of_decide_eq_true (by first|(with_reducible assumption)|assumption);have gu:(rd Ba (Nd)) < (Oc.length:Int):=of_decide_eq_true (by first|(with_reducible assumption)|assumption);obtain ⟨IG,DI,Tr⟩:=Kd.Jk (Kd.Fb Vc.out).2.2 (rd Ba (Nd)) ku gu;(try rw [← aX.out] at Tr);cases DI;replace ku:=eq_true ku;replace gu:=eq_true gu;go_wp2
            go_roundg k1
            case measure=>have:=Nf.out;omega
            case rel=>exact ⟨(Oc),(Wb),(Mh),H',⟨by have:=Nf.out;omega⟩,⟨by (with_reducible repeat (first|apply Kd.Xa|apply Kd.Wa|apply Kd.qb));exact Vc.out⟩,⟨by (with_reducible repeat (first|apply Kd.Xa|apply Kd.Wa|apply Kd.qb));exact Jd.out⟩,⟨by (with_reducible repeat (first|apply Kd.Xa|apply Kd.Wa|apply Kd.qb));exact Xj.out⟩,⟨by (with_reducible repeat (first|refine Da ?_ _|refine Ea ?_|refine Ca ?_ _));exact ta.out⟩,⟨by repeat (first|(with_reducible first|exact HB.out|apply oa|apply ia|apply qa|refine ua ?_ Ta.out)|exact HB.out)⟩⟩
           ·replace vw:=Bool.eq_false_iff.mpr vw;subst vw;have H1:(if Wb.length < 17592186044416 then (if (rd Ba (Nd)) < (Ga.length:Int) then ((Wf.f ((Sa Ga (rd Ba (Nd))).f0) ((Sa Ga (rd Ba (Nd))).f1) ((Sa Ga (rd Ba (Nd))).f2) ((Sa Ga (rd Ba (Nd))).f3) ((Sa Ga (rd Ba (Nd))).f4)).bind fun t121=>((Ya.f k1 t121).bind fun t124=>(if Mh.length + t124.length < 17592186044416 then (Zc.l0 k1 (Oc.set ((rd Ba (Nd)):Int).toNat true) (Wb ++ [rd Ba (Nd)]) (Mh ++ t124) Oa Ka Pa Ja Ga) else (none)))) else (none)) else (none))=some r:=by rw [if_neg (show ¬ (false=true) by decide)] at H;exact H
            clear H;have H:=H1;clear H1;obtain ⟨lH,vF⟩:∃ y_:List Bool,y_=(Oc.set ((rd Ba (Nd)):Int).toNat true):=⟨_,rfl⟩;replace H:(if Wb.length < 17592186044416 then (if (rd Ba (Nd)) < (Ga.length:Int) then ((Wf.f ((Sa Ga (rd Ba (Nd))).f0) ((Sa Ga (rd Ba (Nd))).f1) ((Sa Ga (rd Ba (Nd))).f2) ((Sa Ga (rd Ba (Nd))).f3) ((Sa Ga (rd Ba (Nd))).f4)).bind fun t121=>((Ya.f k1 t121).bind fun t124=>(if Mh.length + t124.length < 17592186044416 then (Zc.l0 k1 lH (Wb ++ [rd Ba (Nd)]) (Mh ++ t124) Oa Ka Pa Ja Ga) else (none)))) else (none)) else (none))=some r:=by first|(rw [vF];with_reducible exact H)|(have Od:=(Option.bind_some _ _).symm.trans H;rw [vF];with_reducible exact Od)|(have Od:=(Option.bind_some _ _).symm.trans H;with_reducible exact Od)|with_reducible exact H|(rw [vF];exact H)|exact H
            have wab:=ga.mk vF;clear vF
            by_cases iN:Wb.length < 17592186044416
            ·rw [if_pos iN] at H;have Eab:=ga.mk iN;clear iN;obtain ⟨SE,nr⟩:∃ y_:List Int,y_=(Wb ++ [rd Ba (Nd)]):=⟨_,rfl⟩;replace H:(if (rd Ba (Nd)) < (Ga.length:Int) then ((Wf.f ((Sa Ga (rd Ba (Nd))).f0) ((Sa Ga (rd Ba (Nd))).f1) ((Sa Ga (rd Ba (Nd))).f2) ((Sa Ga (rd Ba (Nd))).f3) ((Sa Ga (rd Ba (Nd))).f4)).bind fun t121=>((Ya.f k1 t121).bind fun t124=>(if Mh.length + t124.length < 17592186044416 then (Zc.l0 k1 lH SE (Mh ++ t124) Oa Ka Pa Ja Ga) else (none)))) else (none))=some r:=by first|(rw [nr];with_reducible exact H)|(have Od:=(Option.bind_some _ _).symm.trans H;rw [nr];with_reducible exact Od)|(have Od:=(Option.bind_some _ _).symm.trans H;with_reducible exact Od)|with_reducible exact H|(rw [nr];exact H)|exact H
             have ML:=ga.mk nr;clear nr
             by_cases U3:(rd Ba (Nd)) < (Ga.length:Int)
             ·rw [if_pos U3] at H;have Zas:decide ((rd Ba (Nd)) < (Ga.length:Int))=true:=decide_eq_true U3;clear U3;replace H:=Option.bind_eq_some_iff.mp H;obtain ⟨t121,Rac,H⟩:=H;replace H:((Ya.f k1 t121).bind fun t124=>(if Mh.length + t124.length < 17592186044416 then (Zc.l0 k1 lH SE (Mh ++ t124) Oa Ka Pa Ja Ga) else (none)))=some r:=H;have F3:=ga.mk Rac;clear Rac;replace H:=Option.bind_eq_some_iff.mp H;obtain ⟨t124,Qac,H⟩:=H;replace H:(if Mh.length + t124.length < 17592186044416 then (Zc.l0 k1 lH SE (Mh ++ t124) Oa Ka Pa Ja Ga) else (none))=some r:=H;have A28:=ga.mk Qac;clear Qac
              by_cases cz:Mh.length + t124.length < 17592186044416
              ·rw [if_pos cz] at H;have Dab:=ga.mk cz;clear cz;obtain ⟨XL,ir⟩:∃ y_:List Int,y_=(Mh ++ t124):=⟨_,rfl⟩;replace H:(Zc.l0 k1 lH SE XL Oa Ka Pa Ja Ga)=some r:=by first|(rw [ir];with_reducible exact H)|(have Od:=(Option.bind_some _ _).symm.trans H;rw [ir];with_reducible exact Od)|(have Od:=(Option.bind_some _ _).symm.trans H;with_reducible exact Od)|with_reducible exact H|(rw [ir];exact H)|exact H
               have lQ:=ga.mk ir;clear ir;have H':=ga.mk H;clear H;obtain ⟨Aaw,WU,Lan⟩:=Kd.xd mg.out;subst Lan;have JH:0 ≤ ((Nd):Int):=of_decide_eq_true (by first|(with_reducible assumption)|assumption);have BH:(Nd) < (Ba.length:Int):=of_decide_eq_true (by first|(with_reducible assumption)|assumption);obtain ⟨xB,DZ,MR⟩:=Kd.qf (Kd.Fb mg.out).2.2 (Nd) JH BH;cases DZ;replace JH:=eq_true JH;replace BH:=eq_true BH;have q31:((Nd):Int) ≤ ((Ba.length:Int):Int):=of_decide_eq_true (by first|(with_reducible assumption)|assumption);obtain ⟨Cau,dW,_,j5,_⟩:=info_parts info3;have kZ:=zP (P:=Try.prog) 22 3 .i64 Try.underlying22 dW (some xB) Ba.length WU (Nd) (of_decide_eq_true (by first|(with_reducible assumption)|assumption)) q31 (Kd.Fb mg.out).2.1;have RR:=Kd.wE (m:=((Nd):Int).toNat) mg.out (by omega);have W4:Mh.length=((Nd):Int).toNat:=(by rw [Tx.out,List.length_take];omega);rw [← Tx.out] at RR;rw [← W4] at RR kZ;clear W4 dW j5 mg;have Xj:=ga.mk RR;clear RR;replace q31:=eq_true q31;obtain ⟨zaw,MZ,Kan⟩:=Kd.xd Vc.out;subst Kan;have ku:0 ≤ ((rd Ba (Nd)):Int):=of_decide_eq_true (by first|(with_reducible assumption)|assumption);have gu:(rd Ba (Nd)) < (Oc.length:Int):=of_decide_eq_true (by first|(with_reducible assumption)|assumption);obtain ⟨IG,DI,Tr⟩:=Kd.Jk (Kd.Fb Vc.out).2.2 (rd Ba (Nd)) ku gu;(try rw [← aX.out] at Tr);cases DI;replace ku:=eq_true ku;replace gu:=eq_true gu;have p24:0 ≤ ((rd Ba (Nd)):Int):=of_decide_eq_true (by first|(with_reducible assumption)|assumption);have q24:((rd Ba (Nd)):Int) < ((Oc.length:Int):Int):=of_decide_eq_true (by first|(with_reducible assumption)|assumption);obtain ⟨pP,AP,SU,caa,van,zav,sac⟩:=Kd.Vj Vc.out (by omega);(first|cases SU|(injection SU with Oj dy ey;(first|subst Oj|(injection Oj with Oj;subst Oj));subst ey;clear dy));have Mao:=ga.mk caa;have kaw:=ga.mk sac;clear caa van sac;(first|simp only [add_plain] at Tr|skip);obtain ⟨Dal,Qam⟩:=Kd.Xg false Vc.out ((rd Ba (Nd)):Int) p24 q24;replace p24:=eq_true p24;replace q24:=eq_true q24;have F2:=Kd.Zk Vc.out ((rd Ba (Nd)):Int) true;go_wp2_with (first|((with_reducible refine Le (t:=4) (p:=34) rfl ?_);refine ke (t:=4) (p:=34) (v:=?Pak) (w1:=(wr.setCell ⟨pP,((rd Ba (Nd)):Int).toNat,none⟩ (.bool true))) ?hg ?ho ?hn ?hr ?_;(case ho=>rfl);(case hg=>rfl);(case hn=>rfl);(case hr=>first|(go_simp;done)|(go_simp;rfl));intro lJ hw;have hg:wr.grownBy lJ (some pP):=(by rw [hw];exact F2.2);have Fk:Kd.R Kd.bool 4 lJ w.heap.size (fun _=>True) (.slice (some ⟨pP,0,none⟩) Oc.length MZ) lH:=(by rw [hw,wab.out];exact F2.1);clear F2;have Jb:=ga.mk (Fk);have Ob:=ga.mk (Kd.Al (v:=(.slice (some ⟨pP,0,none⟩) Oc.length MZ)) (by (with_reducible repeat (first|apply Kd.Xa|apply Kd.Wa|apply Kd.qb));exact Jd.out) (Kd.zl Vc.out) (by decide) hg);have Vb:=ga.mk (Kd.Al (v:=(.slice (some ⟨pP,0,none⟩) Oc.length MZ)) (by (with_reducible repeat (first|apply Kd.Xa|apply Kd.Wa|apply Kd.qb));exact Xj.out) (Kd.zl Vc.out) (by decide) hg);have uc:=ga.mk (wg (g:=za) (o:=.cells #[.slice yb Oa.length xb,.int .i64 Ka,.int .i64 Pa,.int .i64 Ja,.slice Rb Ga.length Ib] 45 (0,0)) (by (with_reducible repeat (first|refine Da ?_ _|refine Ea ?_|refine Ca ?_ _));exact ta.out) hg (Kd.Nt Vc.out ta.out (by decide)));have Be:=ga.mk ((by rw [hw];exact ua (HB.out) Mao.out:Below w.heap.size w lJ));clear Vc Jd Xj ta HB;have Vc:=Jb;have Jd:=Ob;have Xj:=Vb;have ta:=uc;have HB:=Be;clear Jb Ob Vb uc Be hg hw Fk)|((with_reducible refine Hh (b:=.append) (xs:=#[.tmp 35,.tmp 37]) rfl ?_);at_builtin;refine Kd.qp (Kd.int .i64) (w0:=w) w.heap.size rfl (.tmp 35) (.tmp 37) 22 3 (.int .i64 0) 8 rfl Try.underlying22 info3 rfl (by decide) (by omega) u4 Wb (rd Ba (Nd)) [.int .i64 (rd Ba (Nd))] (fun k_=>some k_ ≠ (.slice (some xB) Mh.length WU:Value).ownBlock) (fun _=>False) rfl rfl ?aP (fun _ hk=>hk.elim) ?aF ?aO ?aB ?aS ?aL ?_;(case aP=>exact rfl);(case aB=>exact (by repeat (first|(with_reducible first|exact HB.out|apply oa|apply ia|apply qa|refine ua ?_ Ta.out)|exact HB.out)));(case aF=>exact (fun k_ hk=>Kd.fresh' (Kd.Km (by (with_reducible repeat (first|apply Kd.Xa|apply Kd.Wa|apply Kd.qb));exact Xj.out)) k_ hk));(case aO=>exact (by (with_reducible repeat (first|apply Kd.Xa|apply Kd.Wa|apply Kd.qb));exact Jd.out));(case aS=>exact (La (by repeat (first|(with_reducible first|exact HB.out|apply oa|apply ia|apply qa|refine ua ?_ Ta.out)|exact HB.out))));(case aL=>have:=Eab.out;omega);intro WE NX ho hb hg hat;rw [← ML.out] at ho;have Jb:=ga.mk (Kd.Al (by (with_reducible repeat (first|apply Kd.Xa|apply Kd.Wa|apply Kd.qb));exact Vc.out) (Kd.zl (by (with_reducible repeat (first|apply Kd.Xa|apply Kd.Wa|apply Kd.qb));exact Jd.out)) (by decide) hg);have Ob:=ga.mk (Kd.Zg (ok:=(fun _=>True)) (by (with_reducible repeat (first|apply Kd.Xa|apply Kd.Wa|apply Kd.qb));exact Kd.Bc Xj.out (fun _ hk=>⟨trivial,hk⟩)) hg hat);have Vb:=ga.mk (wg (g:=za) (o:=.cells #[.slice yb Oa.length xb,.int .i64 Ka,.int .i64 Pa,.int .i64 Ja,.slice Rb Ga.length Ib] 45 (0,0)) (by (with_reducible repeat (first|refine Da ?_ _|refine Ea ?_|refine Ca ?_ _));exact ta.out) hg (Kd.Nt Jd.out ta.out (by decide)));have uc:=ga.mk (hb);have Be:=ga.mk (ho);clear Vc Xj ta HB Jd;have Vc:=Jb;have Xj:=Ob;have ta:=Vb;have HB:=uc;have Eo:=Be;clear Jb Ob Vb uc Be ho hb hg hat;have tD:NX.cell? ⟨za,0,none⟩=some (.slice yb Oa.length xb):=(ja ta.out 0).trans rfl;have sD:NX.cell? ⟨za,1,none⟩=some (.int .i64 Ka):=(ja ta.out 1).trans rfl;have rD:NX.cell? ⟨za,2,none⟩=some (.int .i64 Pa):=(ja ta.out 2).trans rfl;have qD:NX.cell? ⟨za,3,none⟩=some (.int .i64 Ja):=(ja ta.out 3).trans rfl;have oD:NX.cell? ⟨za,4,none⟩=some (.slice Rb Ga.length Ib):=(ja ta.out 4).trans rfl;have uC:=aa ta.out 0;have tC:=aa ta.out 1;have sC:=aa ta.out 2;have rC:=aa ta.out 3;have qC:=aa ta.out 4;have ju:0 ≤ ((rd Ba (Nd)):Int):=of_decide_eq_true (by first|(with_reducible assumption)|assumption);have fu:(rd Ba (Nd)) < (Ga.length:Int):=of_decide_eq_true (by first|(with_reducible assumption)|assumption);obtain ⟨dm,G3,WZ,CI,xl,xJ,wJ,vJ,uJ,GJ,MJ⟩:=Tj ug.out (rd Ba (Nd)) ju fu;cases CI;replace xl:=Qa HB.out xl;replace xJ:=Qa HB.out xJ;replace wJ:=Qa HB.out wJ;replace vJ:=Qa HB.out vJ;replace uJ:=Qa HB.out uJ;have uV:=ga.mk MJ;have CV:=ga.mk GJ;clear MJ GJ;replace ju:=eq_true ju;replace fu:=eq_true fu)|((with_reducible refine zb (f:=75) rfl ?_);refine Fc (some 44) rfl rfl Try.func75 (by kernel_rfl) rfl #[.agg #[.slice G3 ((Sa Ga (rd Ba (Nd))).f0).length WZ,.int .i64 ((Sa Ga (rd Ba (Nd))).f1),.int .i64 ((Sa Ga (rd Ba (Nd))).f2),.int .i64 ((Sa Ga (rd Ba (Nd))).f3),.int .i64 ((Sa Ga (rd Ba (Nd))).f4)]] rfl (by (try simp only [List.map_toArray,List.map_cons,List.map_nil]);first|done|(simp only [LJ];rfl)|rfl|(simp only [List.length_drop,List.length_take];rfl)) ?_;(with_reducible refine (Wf.calls _ _ ((Sa Ga (rd Ba (Nd))).f0) ((Sa Ga (rd Ba (Nd))).f1) ((Sa Ga (rd Ba (Nd))).f2) ((Sa Ga (rd Ba (Nd))).f3) ((Sa Ga (rd Ba (Nd))).f4) t121 _ ?Ic ?Gc F3.out).mono ?_);(case Ic=>repeat (first|exact (Kd.Mb uV.out HB.out)|(with_reducible refine Kd.ec ?_ _)|(with_reducible refine Kd.dc ?_ _)|(with_reducible refine Kd.Dc ?_)));(case Gc=>exact CV.out);rintro e MX ⟨tau,rfl,qj,hb⟩;refine ⟨_,rfl,?_⟩;have Jb:=ga.mk (Kd.ld (by (with_reducible repeat (first|apply Kd.Xa|apply Kd.Wa|apply Kd.qb));exact Vc.out) hb);have Ob:=ga.mk (Kd.si (by (with_reducible repeat (first|apply Kd.Xa|apply Kd.Wa|apply Kd.qb));exact Xj.out) (Kd.xh qj) hb);have Vb:=ga.mk (Kd.si (by (with_reducible repeat (first|apply Kd.Xa|apply Kd.Wa|apply Kd.qb));exact Eo.out) (Kd.xh qj) hb);have uc:=ga.mk (Kd.Fe (Kd.Kk (Kd.Kk qj (Kd.Km (by (with_reducible repeat (first|apply Kd.Xa|apply Kd.Wa|apply Kd.qb));exact Xj.out))) (Kd.Km (by (with_reducible repeat (first|apply Kd.Xa|apply Kd.Wa|apply Kd.qb));exact Eo.out))) (La (by repeat (first|(with_reducible first|exact HB.out|apply oa|apply ia|apply qa|refine ua ?_ Ta.out)|exact HB.out))));have Be:=ga.mk (Va (g:=za) (o:=.cells #[.slice yb Oa.length xb,.int .i64 Ka,.int .i64 Pa,.int .i64 Ja,.slice (some dm) Ga.length Ib] 45 (0,0)) (by (with_reducible repeat (first|refine Da ?_ _|refine Ea ?_|refine Ca ?_ _));exact ta.out) hb);have Vf:=ga.mk (Ra (by repeat (first|(with_reducible first|exact HB.out|apply oa|apply ia|apply qa|refine ua ?_ Ta.out)|exact HB.out)) hb);clear Vc Xj Eo ta HB;have Vc:=Jb;have Xj:=Ob;have Eo:=Vb;have Co:=uc;have ta:=Be;have HB:=Vf;clear Jb Ob Vb uc Be Vf;(try clear hb);(try clear mj);(try clear hk);(try clear hi);(try clear qj);obtain ⟨aH,uG,wZ⟩:=Kd.xd Co.out;subst wZ)|((with_reducible refine zb (f:=107) rfl ?_);refine Fc (some 46) rfl rfl Try.func107 (by kernel_rfl) rfl #[.slice aH t121.length uG] rfl (by (try simp only [List.map_toArray,List.map_cons,List.map_nil]);first|done|rfl|(simp only [List.length_drop,List.length_take];rfl)) ?_;(with_reducible refine (Ya.calls k1 (fun k_=>some k_=(.slice aH t121.length uG:Value).ownBlock) (.slice aH t121.length uG) t121 t124 w _ ?Ic ?Gc A28.out).mono ?_);(case Ic=>repeat (first|(with_reducible first|exact HB.out|apply oa|apply ia|apply qa|refine ua ?_ Ta.out)|exact HB.out));(case Gc=>exact Kd.Et rfl Co.out);rintro e w39 ⟨rfl,hy0,hb,hkp⟩;refine ⟨_,rfl,?_⟩;have Jb:=ga.mk (Kd.Bc (vn:=fun k_=>True) (Kd.fz ((Kd.Kr Vc.out (Kd.zl Co.out) (by decide))) hkp (fun k_ Kw hs_=>(Kw.2) hs_)) (fun k_ Kw=>trivial));have Ob:=ga.mk (Kd.Bc (vn:=fun k_=>some k_ ≠ (WE:Value).ownBlock∧some k_ ≠ (.slice aH t121.length uG:Value).ownBlock) (Kd.fz (Xj.out) hkp (fun k_ Kw hs_=>(Kw.2) hs_)) (fun k_ Kw=>⟨Kw.1.1.2,Kw.1.2⟩));have Vb:=ga.mk (Ih (by (with_reducible repeat (first|refine Da ?_ _|refine Ea ?_|refine Ca ?_ _));exact ta.out) hkp (fun hs_=>(fun e_=>(Kd.Nt Co.out ta.out (by decide)) e_) hs_));have uc:=ga.mk (Kd.Bc (vn:=fun k_=>some k_ ≠ (.slice (some xB) Mh.length WU:Value).ownBlock∧some k_ ≠ (.slice aH t121.length uG:Value).ownBlock) (Kd.fz (Eo.out) hkp (fun k_ Kw hs_=>(Kw.2) hs_)) (fun k_ Kw=>⟨Kw.1.1,Kw.1.2⟩));have Be:=ga.mk (Kd.fQ rfl hy0 (fun k_ e_=>Co.out.1 k_ e_));have Vf:=ga.mk (hb);clear Vc Xj ta Eo Co HB;have Vc:=Jb;have Xj:=Ob;have ta:=Vb;have Eo:=uc;have Co:=Be;have HB:=Vf;clear Jb Ob Vb uc Be Vf;(try clear hb);(try clear hkp);(try clear hy0))|((with_reducible refine Hh (b:=.append) (xs:=#[.tmp 47,.tmp 48]) rfl ?_);at_builtin;refine Kd.Yt (Kd.int .i64) (w0:=w) w.heap.size rfl (.tmp 47) (.tmp 48) 22 3 (.int .i64 0) 8 rfl Try.underlying22 info3 rfl (by decide) (by omega) (.slice (some xB) Mh.length WU) Mh t124 _ _ _ (fun k_=>some k_ ≠ (WE:Value).ownBlock∧some k_ ≠ (.slice aH t121.length uG:Value).ownBlock) (fun _=>False) rfl rfl ?aO ?aR (fun _ _ h=>h) (fun _ h=>h.elim) ?aF ?aB ?aS ?aL ?_;(case aR=>rw [show t121.length=t124.length from (Kd.Fb Co.out).1];repeat (first|exact (Kd.Fb Co.out).2.2|(with_reducible refine Kd.ec ?_ _)|(with_reducible refine Kd.dc ?_ _)|(with_reducible refine Kd.Dc ?_)));(case aB=>exact (by repeat (first|(with_reducible first|exact HB.out|apply oa|apply ia|apply qa|refine ua ?_ Ta.out)|exact HB.out)));(case aF=>exact (fun k_ hk=>⟨Kd.fresh' (Kd.Km (by (with_reducible repeat (first|apply Kd.Xa|apply Kd.Wa|apply Kd.qb));exact Eo.out)) k_ hk,Kd.fresh' (Kd.Km (by (with_reducible repeat (first|apply Kd.Xa|apply Kd.Wa|apply Kd.qb));exact Co.out)) k_ hk⟩));(case aO=>exact (by (with_reducible repeat (first|apply Kd.Xa|apply Kd.Wa|apply Kd.qb));exact Xj.out));(case aS=>exact (La (by repeat (first|(with_reducible first|exact HB.out|apply oa|apply ia|apply qa|refine ua ?_ Ta.out)|exact HB.out))));(case aL=>have:=Dab.out;have Pau:=(Kd.Fb Co.out).1;omega);intro sau w40 ho hb hg hat;rw [← lQ.out] at ho;have Jb:=ga.mk (Kd.Al (by (with_reducible repeat (first|apply Kd.Xa|apply Kd.Wa|apply Kd.qb));exact Vc.out) (Kd.zl (by (with_reducible repeat (first|apply Kd.Xa|apply Kd.Wa|apply Kd.qb));exact Xj.out)) (by decide) hg);have Ob:=ga.mk (wg (g:=za) (o:=.cells #[.slice yb Oa.length xb,.int .i64 Ka,.int .i64 Pa,.int .i64 Ja,.slice (some dm) Ga.length Ib] 45 (0,0)) (by (with_reducible repeat (first|refine Da ?_ _|refine Ea ?_|refine Ca ?_ _));exact ta.out) hg (Kd.Nt Xj.out ta.out (by decide)));have Vb:=ga.mk (Kd.Zg (ok:=(fun k_=>some k_ ≠ (.slice aH t121.length uG:Value).ownBlock)) (by (with_reducible repeat (first|apply Kd.Xa|apply Kd.Wa|apply Kd.qb));exact Kd.Bc Eo.out (fun _ hk=>⟨hk.2,hk.1⟩)) hg hat);have uc:=ga.mk (Kd.Zg (ok:=(fun k_=>some k_ ≠ (WE:Value).ownBlock)) (by (with_reducible repeat (first|apply Kd.Xa|apply Kd.Wa|apply Kd.qb));exact Kd.Bc Co.out (fun _ hk=>⟨hk.2,hk.1.2⟩)) hg hat);have Be:=ga.mk (hb);have Vf:=ga.mk (ho);clear Vc ta Eo Co HB Xj;have Vc:=Jb;have ta:=Ob;have Eo:=Vb;have Co:=uc;have HB:=Be;have fac:=Vf;clear Jb Ob Vb uc Be Vf ho hb hg hat))
               go_roundg k1
               case measure=>have:=Nf.out;omega
               case rel=>exact ⟨(lH),(SE),(XL),H',⟨by have:=Nf.out;omega⟩,⟨by (with_reducible repeat (first|apply Kd.Xa|apply Kd.Wa|apply Kd.qb));exact Vc.out⟩,⟨by (with_reducible repeat (first|apply Kd.Xa|apply Kd.Wa|apply Kd.qb));exact Kd.Bc Eo.out (fun _ hk=>hk.2)⟩,⟨by (with_reducible repeat (first|apply Kd.Xa|apply Kd.Wa|apply Kd.qb));exact Kd.Bc fac.out (fun _ hk=>hk.1)⟩,⟨by (with_reducible repeat (first|refine Da ?_ _|refine Ea ?_|refine Ca ?_ _));exact ta.out⟩,⟨by repeat (first|(with_reducible first|exact HB.out|apply oa|apply ia|apply qa|refine ua ?_ Ta.out)|exact HB.out)⟩⟩
              ·rw [if_neg cz] at H;exact absurd H (by simp)
             ·rw [if_neg U3] at H;exact absurd H (by simp)
            ·rw [if_neg iN] at H;exact absurd H (by simp)
          ·rw [if_neg Ir] at H;exact absurd H (by simp)
         ·rw [if_neg nE] at H;exact absurd H (by simp)
        ·rw [if_neg aA] at H;exact absurd H (by simp)
       ·rw [if_neg CG] at H;exact absurd H (by simp)
      ·rw [if_neg Xt] at H;exact absurd H (by simp)
     ·rw [if_neg xw] at H;have DG:decide (0 < (Ba.length:Int))=false:=decide_eq_false xw;have Saa:decide (0 < Ba.length)=false:=decide_eq_false (by omega);clear xw;obtain rfl:=Option.some.inj H;obtain ⟨Oao,aao,uZ⟩:=Kd.xd mg.out;subst uZ;go_wp2;go_ret;exact ⟨_,by first|rfl|(simp [Na,Ma] <;> rfl)|(simp [*,Na,Ma] <;> rfl),by (with_reducible repeat (first|apply Kd.Xa|apply Kd.Wa|apply Kd.qb));exact Kd.Bc Jd.out (fun _ hk=>trivial),by repeat (first|(with_reducible first|exact HB.out|apply oa|apply ia|apply qa|refine ua ?_ Ta.out)|exact HB.out)⟩
  ·rw [if_neg c3] at H;exact absurd H (by simp)
 ·rw [if_neg c2] at H;exact absurd H (by simp)
theorem xE {α:Type} (d:Kd α) (e:Nat) (w:World) (base:Nat) (h:base ≤ w.heap.size):d.R e (w.alloc (.cells #[] e (0,0))) base (fun _=>True) (.slice (some ⟨w.heap.size,0,none⟩) 0 0) []:=by
 refine ⟨fun _ _=>trivial,[],?_,⟨by simp,fun i p hp=>by simp at hp⟩⟩;have h2:=World.ownsRow_lit (base:=base) (e:=e) (size:=d.sz) w #[] 0 h (by simp [maxLen]) (by simp)
 simpa using h2
theorem qH {α:Type} {d:Kd α} {e B:Nat} {ok:Nat→Prop} {W w':World} {v:Value} {xs:List α} (h:d.R e w' W.heap.size ok v xs) (hB:B ≤ W.heap.size):d.R e w' B (fun k=>W.heap.size ≤ k∧k < w'.heap.size) v xs :=
 Kd.Fe (Kd.Bc (Kd.Yg h) (fun _ hk=>⟨hk.2.1,hk.2.2.1⟩)) hB
theorem UX {α:Type} {d:Kd α} {e B:Nat} {ok:Nat→Prop} {W w':World} {v:Value} {xs:List α} (h:Kd.S d e w' W.heap.size ok v xs) (hB:B ≤ W.heap.size):Kd.S d e w' B (fun k=>W.heap.size ≤ k∧k < w'.heap.size) v xs :=
 Kd.nw (Kd.yg (Kd.Dt h) (fun _ hk=>⟨hk.2.1,hk.2.2.1⟩)) hB
theorem lab {e:Nat} (w:World) (base:Nat) (n:Int) (h:base ≤ w.heap.size):Kd.R (Kd.int .i64) e (w.alloc (.cells #[.int .i64 n] e (0,0))) base (fun _=>True) (.slice (some ⟨w.heap.size,0,none⟩) 1 1) [n]:=by
 refine ⟨fun _ _=>trivial,[.int .i64 n],?_,⟨rfl,fun i p hp=>?_⟩⟩
 ·have h2:=World.ownsRow_lit (base:=base) (e:=e) (size:=1) w #[.int .i64 n] 1 h (by simp [maxLen]) (by simp);exact h2
 ·cases i with
  | zero =>
   simp at hp;subst hp
   rfl
  | succ i=>simp at hp
end Go.Proofs.Ytoomcmaifgkkfaa.P
end
section
namespace Go.Proofs.Ytoomcmaifgkkfaa.P
open Go.RowKit Go.Proofs.Ia.Qb Go.Proofs.Ia.Dd Go.Proofs.Ia.ze
set_option linter.unusedVariables false
set_option linter.unusedSimpArgs false
open Go.Shelf
def Bu:Go.Shelf.Ren:=⟨fun | 189=>112 | 125=>129 | 257=>128 | 128=>150 | 129=>151 | 294=>141 | 295=>142 | 296=>143 | 297=>144 | 298=>145 | 299=>146 | 216=>147 | 300=>148 | 301=>149 | 328=>155 | 329=>156 | 330=>157 | 331=>158 | 332=>159 | 215=>160 | 343=>162|n=>n,fun | 28=>22 | 3=>3 | 46=>130 | 0=>0 | 51=>159 | 53=>161 | 4=>4 | 183=>151 | 182=>150 | 131=>156 | 5=>5 | 9=>9 | 218=>163 | 222=>167 | 228=>170 | 229=>171|n=>n,fun|n=>n⟩
theorem St:Go.Proofs.Lays.n189 Try.prog Bu:={
 mixed:=by kernel_rfl
 f125:=Try.func129.trans (congrArg some (by kernel_rfl))
 f128:=Try.func150.trans (congrArg some (by kernel_rfl))
 f129:=Try.func151.trans (congrArg some (by kernel_rfl))
 f189:=Try.func112.trans (congrArg some (by kernel_rfl))
 f215:=Try.func160.trans (congrArg some (by kernel_rfl))
 f216:=Try.func147.trans (congrArg some (by kernel_rfl))
 f257:=Try.func128.trans (congrArg some (by kernel_rfl))
 f294:=Try.func141.trans (congrArg some (by kernel_rfl))
 f295:=Try.func142.trans (congrArg some (by kernel_rfl))
 f296:=Try.func143.trans (congrArg some (by kernel_rfl))
 f297:=Try.func144.trans (congrArg some (by kernel_rfl))
 f298:=Try.func145.trans (congrArg some (by kernel_rfl))
 f299:=Try.func146.trans (congrArg some (by kernel_rfl))
 f300:=Try.func148.trans (congrArg some (by kernel_rfl))
 f301:=Try.func149.trans (congrArg some (by kernel_rfl))
 f328:=Try.func155.trans (congrArg some (by kernel_rfl))
 f329:=Try.func156.trans (congrArg some (by kernel_rfl))
 f330:=Try.func157.trans (congrArg some (by kernel_rfl))
 f331:=Try.func158.trans (congrArg some (by kernel_rfl))
 f332:=Try.func159.trans (congrArg some (by kernel_rfl))
 f343:=Try.func162.trans (congrArg some (by kernel_rfl))
 t0:=Try.underlying0
 a0:=Try.isAgg0
 z0:=Try.sizeOf0
 v0:=Try.zeroValue0
 t3:=Try.underlying3
 a3:=Try.isAgg3
 z3:=Try.sizeOf3
 v3:=Try.zeroValue3
 t4:=Try.underlying4
 a4:=Try.isAgg4
 z4:=Try.sizeOf4
 v4:=Try.zeroValue4
 t5:=Try.underlying5
 a5:=Try.isAgg5
 z5:=Try.sizeOf5
 v5:=Try.zeroValue5
 t9:=Try.underlying9
 a9:=Try.isAgg9
 z9:=Try.sizeOf9
 v9:=Try.zeroValue9
 t28:=Try.underlying22
 a28:=Try.isAgg22
 z28:=Try.sizeOf22
 v28:=Try.zeroValue22
 t46:=Try.underlying130
 a46:=Try.isAgg130
 z46:=Try.sizeOf130
 v46:=Try.zeroValue130
 t51:=Try.underlying159
 a51:=Try.isAgg159
 z51:=Try.sizeOf159
 v51:=Try.zeroValue159
 t53:=Try.underlying161
 a53:=Try.isAgg161
 z53:=Try.sizeOf161
 v53:=Try.zeroValue161
 t131:=Try.underlying156
 a131:=Try.isAgg156
 z131:=Try.sizeOf156
 v131:=Try.zeroValue156
 t182:=Try.underlying150
 a182:=Try.isAgg150
 z182:=Try.sizeOf150
 v182:=Try.zeroValue150
 t183:=Try.underlying151
 a183:=Try.isAgg151
 z183:=Try.sizeOf151
 v183:=Try.zeroValue151
 t218:=Try.underlying163
 a218:=Try.isAgg163
 z218:=Try.sizeOf163
 v218:=Try.zeroValue163
 t222:=Try.underlying167
 a222:=Try.isAgg167
 z222:=Try.sizeOf167
 v222:=Try.zeroValue167
 t228:=Try.underlying170
 a228:=Try.isAgg170
 z228:=Try.sizeOf170
 v228:=Try.zeroValue170
 t229:=Try.underlying171
 a229:=Try.isAgg171
 z229:=Try.sizeOf171
 v229:=Try.zeroValue171 }
open Go.Sort Go.RowKit in
theorem Nq (blk off cap:Nat) (zs:List Int) (w:World) (hH:Holds (Value.int .i64) w blk off zs.toArray) (hblk:blk < w.heap.size) (hsz:zs.length < 4611686018427387904) :
  Calls Try.prog 112 #[.slice (some ⟨blk,off,none⟩) zs.length cap] w fun e w' =>
   e = .returned (.tuple #[])∧∃ n os,w' = grow (putRow (Value.int .i64) (Sort.ahead w n) blk off (zs.mergeSort fun x y=>decide (x ≤ y)).toArray) os:=Any.slices_Sort_int St blk off cap zs w hH hblk hsz
def Ht:Go.Shelf.Ren:=⟨fun | 20=>113|n=>n,fun | 22=>22 | 3=>3 | 4=>4 | 0=>0|n=>n,fun|n=>n⟩
theorem Hq:Go.Proofs.Lays2.n20 Try.prog Ht:={
 mixed:=by kernel_rfl
 f20:=Try.func113.trans (congrArg some (by kernel_rfl))
 t0:=Try.underlying0
 a0:=Try.isAgg0
 z0:=Try.sizeOf0
 v0:=Try.zeroValue0
 t3:=Try.underlying3
 a3:=Try.isAgg3
 z3:=Try.sizeOf3
 v3:=Try.zeroValue3
 t4:=Try.underlying4
 a4:=Try.isAgg4
 z4:=Try.sizeOf4
 v4:=Try.zeroValue4
 t22:=Try.underlying22
 a22:=Try.isAgg22
 z22:=Try.sizeOf22
 v22:=Try.zeroValue22
 i3:=by kernel_rfl }
open Go.RowKit Go.Lib Go.Sort in
theorem Ho (blk off cap:Nat) (zs:List Int) (w:World) (hH:Holds (Value.int .i64) w blk off zs.toArray) (hsz:zs.length ≤ 9223372036854775807) (hcap:zs.length ≤ cap) :
  Calls Try.prog 113 #[.slice (some ⟨blk,off,none⟩) zs.length cap] w fun e w'=>e = .returned (.slice (some ⟨blk,off,none⟩) (Lib.compact zs).length cap)∧∃ q,w' = putRow (Value.int .i64) (Sort.ahead w q) blk off (Lib.compact zs ++ List.replicate (zs.length - (Lib.compact zs).length) 0).toArray:=Any.slices_Compact_int Hq blk off cap zs w hH hsz hcap
open Go.RowKit Go.Lib Go.Sort in
theorem Vk (a:Option Addr) (cap:Nat) (w:World) :
  Calls Try.prog 113 #[.slice a 0 cap] w fun e w'=>e = .returned (.slice a 0 cap)∧w' = w:=Any.slices_Compact_int_empty Hq a cap w
open Go.RowKit Go.Sort in
theorem Qm (p:Option Addr) (cap:Nat) (w:World) :
  Calls Try.prog 112 #[.slice p 0 cap] w fun e w'=>e = .returned (.tuple #[])∧w' = w:=Any.slices_Sort_int_none St p cap w
end Go.Proofs.Ytoomcmaifgkkfaa.P
end
section
namespace Go.Proofs.Ytoomcmaifgkkfaa.P
open Go.RowKit Go.Proofs.Ia.Qb Go.Proofs.Ia.Dd Go.Proofs.Ia.ze
set_option linter.unusedVariables false
set_option linter.unusedSimpArgs false
def sE (l:List Int):List Int:=Go.Lib.compact (l.mergeSort fun x y=>decide (x ≤ y))
def Ph.f (l0:List Int):Option (List Int):=if l0.length ≤ 4398046511104 then some (sE l0) else none
theorem rG (zs:List Int):(Go.Lib.compact zs).length ≤ zs.length:=by
 unfold Go.Lib.compact Go.Lib.compactUpTo;rw [List.length_map];have:=List.length_filter_le (Go.Lib.keeps zs.toArray) (List.range zs.length)
 rwa [List.length_range] at this
open Go.RowKit Go.Lib Go.Sort in
theorem bV (B g n c:Nat) (P:Nat→Prop) (l0:List Int) (w:World) (hn:l0.length=n) (hgB:B ≤ g) (hP:P g) (hl:n ≤ 4398046511104) (hown:w.ownsRow B 3 1 (.slice (some ⟨g,0,none⟩) n c) n (dn (Value.int .i64) l0)) :
  Calls Try.prog 86 #[.slice (some ⟨g,0,none⟩) n c] w fun e w'=>∃ Pm:Value,e = .returned Pm∧Kd.R (Kd.int .i64) 3 w' B P Pm (sE l0)∧w.grownBy w' (some g):=by
 obtain ⟨cur,hb,h1,h2,h3,h4⟩:∃ cur,w.heap[g]? = some (.cells cur 3 (0,0))∧n ≤ c∧c ≤ maxLen∧cur.size=c * 1∧cur.toList.take (n * 1)=dn (Value.int .i64) l0:=by
  rcases hown.2 with ⟨h0,_⟩|⟨g',cap',cur,hv,_,hh,a1,a2,a3,a4⟩
  ·cases h0
  ·cases hv;exact ⟨cur,hh,a1,a2,a3,a4⟩
 subst hn;rw [Nat.mul_one] at h4;have HH:=ga.mk (holds_of_blockI (ss:=l0) hb (by rw [h4];rfl));have HG:=ga.mk (Array.getElem?_eq_some_iff.1 hb).1;have HB:=ga.mk hb;have H1:=ga.mk h1;have H2:=ga.mk h2;have H3:=ga.mk h3;have H4:=ga.mk h4;clear hown hb h1 h2 h3 h4;obtain ⟨s,hs⟩:∃ s:List Int,s=l0.mergeSort fun x y=>decide (x ≤ y):=⟨_,rfl⟩
 have Q3:s.length=l0.length:=by rw [hs];exact List.length_mergeSort l0
 have HS:=ga.mk hs;have W3:=ga.mk Q3;clear hs Q3;go_enter Try.func86,Try.ntmps86
 go_upto_region 2 with (go_at_call 112;(with_reducible refine (Nq g 0 c l0 w HH.out HG.out (by omega)).mono ?_);rintro e w1 ⟨rfl,m,os,hw1⟩;have HW1:=ga.mk hw1;clear hw1)
 have nA:=ga.mk (show w1.heap[g]? = some (.cells (putCells (Value.int .i64) 0 s.toArray cur) 3 (0,0)) from by rw [HW1.out,← HS.out];exact heap_sortedI _ HB.out);have dJ:=ga.mk (show w.grownBy w1 (some g) from by rw [HW1.out];exact grownBy_sortedI _);have HH1:=ga.mk (holds_of_blockI (ss:=s) nA.out (take_putCellsI cur s (by have:=H3.out;have:=H1.out;have:=W3.out;omega)));have hcp:(Go.Lib.compact s).length ≤ s.length:=rG s;have HCP:=ga.mk hcp;clear hcp;have HL:=ga.mk hl;clear hl;have HCC:=ga.mk (Ho g 0 c s w1 HH1.out (by have:=HL.out;have:=W3.out;omega) (by have:=H1.out;have:=W3.out;omega));rw [W3.out] at HCC;go_wp2_with (go_at_call 113;(refine HCC.out.mono ?_);rintro e w2 ⟨rfl,q,hw2⟩;have HW2:=ga.mk hw2;clear hw2);go_ret
 have hz:(Go.Lib.compact s ++ List.replicate (l0.length - (Go.Lib.compact s).length) 0).length=s.length:=by
  rw [List.length_append,List.length_replicate];have:=HCP.out;have:=W3.out;omega
 refine ⟨_,rfl,?_,?_⟩
 ·have hr:=ownsRow_sortedI (w:=w1) (base:=B) (n:=q) (os:=#[]) (ss:=s) (ts:=Go.Lib.compact s ++ List.replicate (l0.length - (Go.Lib.compact s).length) 0) hz hgB nA.out (by rw [W3.out];exact H1.out) H2.out (by simp [putCells,H3.out]);rw [grow_empty,← HW2.out] at hr
  have hR:Kd.R (Kd.int .i64) 3 w2 B P (.slice (some ⟨g,0,none⟩) s.length c) (Go.Lib.compact s ++ List.replicate (l0.length - (Go.Lib.compact s).length) 0):=Kd.KG (by rw [hz];exact hr) (fun k hk=>by
   have:g=k:=by simpa [Value.ownBlock] using hk
   subst this
   exact hP)
  have ht:=Kd.wE (m:=(Go.Lib.compact s).length) hR (by rw [hz];exact HCP.out);rw [List.take_left] at ht;unfold sE;rw [← HS.out];exact ht
 ·have h2:=grownBy_sortedI (w:=w1) (g:=g) (n:=q) (os:=#[]) (Go.Lib.compact s ++ List.replicate (l0.length - (Go.Lib.compact s).length) 0).toArray;rw [grow_empty,← HW2.out] at h2;exact dJ.out.trans h2
theorem Ph.calls (Wj:Nat→Prop) (bg:Value) (l0:List Int) (r:List Int) (w0 w:World) (hB:Below w0.heap.size w0 w) (qj:Kd.R (Kd.int .i64) 3 w w0.heap.size Wj bg l0) (h:Ph.f l0=some r) :
  Calls Try.prog 86 #[bg] w fun e w'=>∃ Pm:Value,e = .returned (Pm)∧Kd.R (Kd.int .i64) 3 w' w0.heap.size (fun k_=>(Wj k_ ∨ w.heap.size ≤ k_)) Pm r∧Below w0.heap.size w0 w'∧Kept w w' (fun k_=>Wj k_):=by
 unfold Ph.f at h;have hl:l0.length ≤ 4398046511104:=Decidable.byContradiction fun hn=>by rw [if_neg hn] at h;cases h
 rw [if_pos hl] at h;obtain rfl:=Option.some.inj h;have ho:=Kd.Fu qj;have hbase:=Kd.xh qj;have hP:=qj.1
 rcases ho.2 with ⟨rfl,h0⟩|⟨g,cap,cur,rfl,hg,_⟩
 ·obtain rfl:l0=[]:=List.eq_nil_of_length_eq_zero h0;clear ho qj hbase hP h;have HB:=ga.mk hB;clear hB;go_enter Try.func86,Try.ntmps86
  go_upto_region 2 with (go_at_call 112;(with_reducible refine (Qm none 0 w).mono ?_);rintro e w1 ⟨rfl,rfl⟩)
  go_wp2_with (go_at_call 113;(with_reducible refine (Vk none 0 _).mono ?_);rintro e w2 ⟨rfl,rfl⟩);go_ret;exact ⟨_,rfl,by rw [show sE []=[] from by simp [sE,Go.Lib.compact,Go.Lib.compactUpTo]];exact Kd.Rx _ _ _ _ _,HB.out,Kept.refl _ _⟩
 ·have hPg:=hP g rfl;refine (bV w0.heap.size g l0.length cap (fun k_=>(Wj k_ ∨ w.heap.size ≤ k_)) l0 w rfl hg (Or.inl hPg) hl ho).mono ?_;rintro e w' ⟨v,he,hr,hgw⟩;exact ⟨v,he,hr,Xq hB _ hB.size hgw (fun k hk=>by cases hk;exact hg),Kept.ng hgw (Kept.refl _ _) (fun k hk=>by cases hk;exact Or.inl hPg)⟩
theorem gV {base g n cap:Nat} {ok:Nat→Prop} (m:Nat):∀ (W:World) (xs:List Int) (i:Nat),i + m=xs.length→Kd.R (Kd.int .i64) 3 W base ok (.slice (some ⟨g,0,none⟩) n cap) xs →
  Kd.R (Kd.int .i64) 3 (W.setCells g i (List.replicate m (.int .i64 0))) base ok (.slice (some ⟨g,0,none⟩) n cap) (xs.take i ++ List.replicate m 0)∧W.grownBy (W.setCells g i (List.replicate m (.int .i64 0))) (some g):=by
 induction m with
 | zero =>
  intro W xs i hi h;rw [List.take_of_length_le (by omega)];simp only [List.replicate_zero,List.append_nil];exact ⟨h,World.grownBy.refl _ _⟩
 | succ m ih =>
  intro W xs i hi h;obtain ⟨h2,h3⟩:=Kd.Zk (enc:=Value.int .i64) (h1:=fun _=>rfl) h (i:Int) 0;rw [Int.toNat_natCast] at h2 h3;obtain ⟨h4,h5⟩:=ih _ _ (i + 1) (by rw [List.length_set];omega) h2;have e:W.setCells g i (List.replicate (m + 1) (.int .i64 0))=(W.setCell ⟨g,i,none⟩ (.int .i64 0)).setCells g (i + 1) (List.replicate m (.int .i64 0)):=rfl;rw [e];refine ⟨?_,h3.trans h5⟩
  have e2:(xs.set i 0).take (i + 1) ++ List.replicate m 0=xs.take i ++ List.replicate (m + 1) 0:=by
   rw [List.take_set,List.replicate_succ,List.take_succ_eq_append_getElem (by omega),List.set_append_right _ _ (by rw [List.length_take];omega),List.length_take,Nat.min_eq_left (by omega),Nat.sub_self,List.set_cons_zero,List.append_assoc]
   rfl
  rw [← e2];exact h4
theorem RB (g:Nat) (lb:Array Value) (p:Int→Bool) (eg:∀ args w,(callFunc g args).run Try.prog w = .ok (.enter g args) w) (A0:Option Addr) (c0:Nat) (l0:List Int) (w:World) (aj:Kd.C (Kd.int .i64) w A0 l0.length l0) (hc0:l0.length ≤ c0)
  (hp:∀ (W:World) (x:Int),Below w.heap.size w W→Calls Try.prog g (#[(.int .i64 x)] ++ lb) W fun e w'=>e = .returned (.bool (p x))∧Below W.heap.size W w') :
  Calls Try.prog 105 #[.slice A0 l0.length c0,.func (.func g) #[] lb] w fun e w'=>(e = .returned (.int .i64 (-1))∧l0.any p=false ∨ ∃ i:Nat,i < l0.length∧e = .returned (.int .i64 i)∧p (rd l0 (i:Int))=true∧(l0.take i).any p=false)∧Below w.heap.size w w':=by
 have Z5:=aj.2.1;have Pk:=ga.mk aj;have KE:=ga.mk hc0;have HP:=ga.mk hp;clear aj hc0 hp;go_enter Try.func105,Try.ntmps105;go_wp2
 go_loopg [5,8] l0.length (fun gg _ s8 wr=>∃ kk:Nat,kk ≤ l0.length∧l0.length - kk ≤ gg∧s8 = .int .i64 kk∧ga (Below w.heap.size w wr)∧ga ((l0.take kk).any p=false))
 case atStart=>exact ⟨0,Nat.zero_le _,by omega,rfl,⟨Below.refl _ w⟩,⟨by simp⟩⟩
 case round =>
  (try clear BW);(try clear HA);obtain ⟨kk,hkk,hg,rfl,BW,HA⟩:=hrel
  by_cases hlt:kk < l0.length
  ·have p1:0 ≤ (kk:Int):=by omega
   have q1:(kk:Int) < (l0.length:Int):=by omega
   obtain ⟨ad,e1,hx0⟩:=Kd.qf Pk.out (kk:Int) p1 q1;cases e1;simp only [Int.toNat_natCast] at hx0;replace hx0:=(BW.out.cell (World.block_lt_of_cell? w _ hx0)).trans hx0;have hcall:=HP.out wr (rd l0 (kk:Int)) BW.out;cases hq:p (rd l0 (kk:Int)) with
   | true =>
    rw [hq] at hcall;have HQ:=ga.mk hq;clear hq;go_wp2_with (go_at_fn g;refine hcall.mono ?_;rintro e w1 ⟨rfl,Ap⟩);go_ret;exact ⟨Or.inr ⟨kk,hlt,rfl,HQ.out,HA.out⟩,BW.out.trans (Ap.mono BW.out.size)⟩
   | false =>
    rw [hq] at hcall;go_wp2_with (go_at_fn g;refine hcall.mono ?_;rintro e w1 ⟨rfl,Ap⟩)
    go_roundg (l0.length - (kk + 1))
    case measure=>omega
    case rel=>exact ⟨kk + 1,by omega,by omega,by go_num,⟨BW.out.trans (Ap.mono BW.out.size)⟩,⟨Ro (d:=0) hlt HA.out hq⟩⟩
  ·have IY:¬ (kk:Int) < (l0.length:Int):=by omega
   have he:kk=l0.length:=by omega
   subst he;go_wp2;go_ret;exact ⟨Or.inl ⟨rfl,by have h_:=HA.out;rw [List.take_length] at h_;simpa using h_⟩,BW.out⟩
def VQ (l xs:List Int) (p:Int→Bool) (i j:Nat):Prop:=i < j∧j ≤ l.length∧xs.length=l.length∧xs.take i=(l.take j).filter (fun x=>!p x)∧xs.drop j=l.drop j
theorem Xk {l:List Int} {j:Nat} (hj:j < l.length):rd l (j:Int)=l[j]:=by simp [rd,List.getD_eq_getElem?_getD,hj]
theorem VQ.keep {l xs:List Int} {p:Int→Bool} {i j:Nat} (h:VQ l xs p i j) (hj:j < l.length) (hp:p (rd l (j:Int))=false):VQ l (xs.set i (rd l (j:Int))) p (i + 1) (j + 1):=by
 obtain ⟨h1,h2,h3,h4,h5⟩:=h;rw [Xk hj] at hp ⊢;refine ⟨by omega,by omega,by rw [List.length_set];exact h3,?_,?_⟩
 ·rw [List.take_succ_eq_append_getElem (show j < l.length from hj),List.filter_append,← h4];rw [List.take_set,List.take_succ_eq_append_getElem (by omega),List.set_append_right _ _ (by rw [List.length_take];omega),List.length_take,Nat.min_eq_left (by omega),Nat.sub_self,List.set_cons_zero];simp [hp]
 ·rw [List.drop_set_of_lt (by omega)];have e1:xs.drop (j + 1)=(xs.drop j).drop 1:=by rw [List.drop_drop]
  have e2:l.drop (j + 1)=(l.drop j).drop 1:=by rw [List.drop_drop]
  rw [e1,e2,h5]
theorem VQ.skip {l xs:List Int} {p:Int→Bool} {i j:Nat} (h:VQ l xs p i j) (hj:j < l.length) (hp:p (rd l (j:Int))=true):VQ l xs p i (j + 1):=by
 obtain ⟨h1,h2,h3,h4,h5⟩:=h;rw [Xk hj] at hp;refine ⟨by omega,by omega,h3,?_,?_⟩
 ·rw [List.take_succ_eq_append_getElem (show j < l.length from hj),List.filter_append,← h4];simp [hp]
 ·have e1:xs.drop (j + 1)=(xs.drop j).drop 1:=by rw [List.drop_drop]
  have e2:l.drop (j + 1)=(l.drop j).drop 1:=by rw [List.drop_drop]
  rw [e1,e2,h5]
theorem VQ.at_ {l xs:List Int} {p:Int→Bool} {i j:Nat} (h:VQ l xs p i j) (hj:j < l.length):lg 0 xs (j:Int)=rd l (j:Int):=by
 obtain ⟨h1,h2,h3,h4,h5⟩:=h;have:=congrArg List.head? h5;rw [List.head?_drop,List.head?_drop] at this;simp [rd,lg,List.getD_eq_getElem?_getD,this]
theorem Zv {l:List Int} {p:Int→Bool} (h:l.any p=false):l.filter (fun x=>!p x)=l:=by
 rw [List.filter_eq_self];intro x hx;have:=List.any_eq_false.1 h x hx
 simpa using this
theorem pG (g:Nat) (lb:Array Value) (p:Int→Bool) (eg:∀ args w,(callFunc g args).run Try.prog w = .ok (.enter g args) w) (P_:Nat→Prop) (A:Option Addr) (c:Nat) (l:List Int) (base:Nat) (w0 w:World) (hB:Below base w0 w) (hbs:base ≤ w.heap.size) (ho:Kd.R (Kd.int .i64) 3 w base P_ (.slice A l.length c) l)
  (hp:∀ (W:World) (x:Int),Kept w W P_→Calls Try.prog g (#[(.int .i64 x)] ++ lb) W fun e w'=>e = .returned (.bool (p x))∧Below W.heap.size W w') :
  Calls Try.prog 74 #[.slice A l.length c,.func (.func g) #[] lb] w fun e w'=>e = .returned (.slice A (l.filter (fun x=>!p x)).length c)∧Kd.R (Kd.int .i64) 3 w' base P_ (.slice A (l.filter (fun x=>!p x)).length c) (l.filter (fun x=>!p x))∧Below base w0 w'∧Kept w w' P_:=by
 obtain ⟨hn,hnc,hC⟩:=Kd.Fb ho;have Z5:=hC.2.1;have HP:=ga.mk hp;have HI:=ga.mk (RB g lb p eg A c l w hC hnc (fun W x hb=>hp W x (Kept.Sm hb P_)));have HO:=ga.mk ho;have HB:=ga.mk hB;have HBS:=ga.mk hbs;clear hp hC ho hB hn;go_enter Try.func74,Try.ntmps74
 go_upto_region 2 with (go_at_call 105;refine HI.out.mono ?_;rintro e w1 ⟨hi,Ap⟩;have nA:=ga.mk Ap;clear Ap;(rcases hi with ⟨rfl,oP⟩|⟨i0,hi0,rfl,hpi,oP⟩))
 ·have HN:=ga.mk (Zv oP);clear oP;go_wp2;go_ret;rw [HN.out];exact ⟨rfl,Kd.ld HO.out nA.out,HB.out.trans (nA.out.mono hbs),Kept.Sm nA.out P_⟩
 ·have Tal:((i0:Int) == -1)=false:=beq_eq_false_iff_ne.2 (by omega)
  have HD0:=ga.mk (show VQ l l p i0 (i0 + 1) from ⟨by omega,by omega,rfl,by
   rw [Xk hi0] at hpi;rw [List.take_succ_eq_append_getElem hi0,List.filter_append,Zv oP]
   simp [hpi],rfl⟩)
  have HO1:=ga.mk (Kd.ld HO.out nA.out);have Wo:=ga.mk (HB.out.trans (nA.out.mono hbs));have Nf:=ga.mk (Kept.Sm nA.out P_);clear hpi oP HI HO HB nA;go_wp2
  go_loopg [5,6] l.length (fun gg v5 v6 wr=>∃ (i j:Nat) (xs:List Int),v5 = .int .i64 i∧v6 = .int .i64 j∧l.length - j ≤ gg∧ga (VQ l xs p i j)∧ga (Kd.R (Kd.int .i64) 3 wr base P_ (.slice A l.length c) xs)∧ga (Below base w0 wr)∧ga (Kept w wr P_))
  case atStart=>exact ⟨i0,i0 + 1,l,rfl,by go_num,by omega,HD0,HO1,Wo,Nf⟩
  case round =>
   clear HD0 HO1 Wo Nf Tal hi0;(try clear HD);(try clear HO);(try clear HB);(try clear HK);obtain ⟨i,j,xs,rfl,rfl,hg,HD,HO,HB,HK⟩:=hrel;obtain ⟨d1,d2,d3,_,_⟩:=HD.out;have HXL:=ga.mk d3;clear d3
   by_cases hlt:j < l.length
   ·have p1:0 ≤ (j:Int):=by omega
    have p2:(j:Int) < (l.length:Int):=by omega
    have bC:decide ((j:Int) < (l.length:Int))=true:=decide_eq_true p2;obtain ⟨gb,cb,he,-⟩:=Kd.Vj (by exact HO.out) (by have:=HXL.out;omega);have he2:A=some ⟨gb,0,none⟩:=by injection he
    subst he2;clear he;obtain ⟨hx0,-⟩:=Kd.Xg (enc:=Value.int .i64) (h1:=fun _=>rfl) 0 HO.out (j:Int) p1 (by omega);rw [HD.out.at_ hlt,Int.toNat_natCast] at hx0;have hcall:=HP.out wr (rd l (j:Int)) HK.out;cases hq:p (rd l (j:Int)) with
    | true =>
     rw [hq] at hcall;have j4:=ga.mk (HD.out.skip hlt hq);clear hq;go_wp2_with (go_at_fn g;refine hcall.mono ?_;rintro e w7 ⟨rfl,NU⟩;have X3:=ga.mk (Kd.ld HO.out NU);have D4:=ga.mk (HB.out.trans (NU.mono (Nat.le_trans HBS.out HK.out.1)));have HK7:=ga.mk (HK.out.below NU);clear NU)
     go_roundg (l.length - (j + 1))
     case measure=>omega
     case rel=>exact ⟨i,j + 1,xs,rfl,by go_num,by omega,j4,X3,D4,HK7⟩
    | false =>
     rw [hq] at hcall;have j4:=ga.mk (HD.out.keep hlt hq);clear hq
     go_upto_region 9 with (go_at_fn g;refine hcall.mono ?_;rintro e w7 ⟨rfl,NU⟩;have X3:=ga.mk (Kd.ld HO.out NU);have D4:=ga.mk (HB.out.trans (NU.mono (Nat.le_trans HBS.out HK.out.1)));have HK7:=ga.mk (HK.out.below NU);clear NU hx0)
     obtain ⟨aj,M8⟩:=Kd.Xg (enc:=Value.int .i64) (h1:=fun _=>rfl) 0 X3.out (i:Int) (by omega) (by omega);have hbg:=(Kd.xh X3.out) gb rfl;have hpg:=X3.out.1 gb rfl;have BV:=ga.mk (And.intro hbg hpg);have tV:=ga.mk (Kd.Zk (enc:=Value.int .i64) (h1:=fun _=>rfl) X3.out (i:Int) (rd l (j:Int)));simp only [Int.toNat_natCast] at aj M8;rw [Int.toNat_natCast] at tV;clear hbg hpg;go_wp2
     go_roundg (l.length - (j + 1))
     case measure=>omega
     case rel =>
      exact ⟨i + 1,j + 1,_,by go_num,by go_num,by omega,j4,⟨tV.out.1⟩,⟨D4.out.grown tV.out.2 (Nat.le_trans HBS.out HK7.out.1) (fun k_ e=>by injection e with e;rw [← e];exact BV.out.1)⟩,⟨Kept.ng tV.out.2 HK7.out (fun k_ e=>Or.inl (by injection e with e;rw [← e];exact BV.out.2))⟩⟩
   ·obtain rfl:j=l.length:=by omega
    have IY:decide ((l.length:Int) < (l.length:Int))=false:=decide_eq_false (by omega);obtain ⟨A',c',he,_⟩:=Kd.Vj (by exact HO.out) (by have:=HXL.out;omega);have he2:A=some ⟨A',0,none⟩:=by injection he
    subst he2;clear he;have hic:¬ c=i:=by omega
    have SQ:¬ i=c:=by omega
    have vA:∀ ty,(Builtin.clear_ #[22] ty #[.slice (some ⟨A',i,none⟩) (l.length - i) (c - i)]).run Try.prog wr = .ok (.tuple #[]) (wr.setCells A' i (List.replicate (l.length - i) (.int .i64 0))) :=
     fun ty=>Go.Lib.run_clear_slice wr 22 3 ty (.int .i64 0) Try.underlying22 (fun w=>by go_simp) rfl rfl A' i _ _ (by omega) (fun t ht=>by
      have:=(Kd.Xg (enc:=Value.int .i64) (h1:=fun _=>rfl) 0 HO.out ((i + t:Nat):Int) (by omega) (by omega)).1;rw [Int.toNat_natCast] at this;rw [this]
      rfl) (fun t ht=>by
      have:=(Kd.Xg (enc:=Value.int .i64) (h1:=fun _=>rfl) 0 HO.out ((i + t:Nat):Int) (by omega) (by omega)).2
      rwa [Int.toNat_natCast] at this)
    have HZR:=ga.mk (gV (l.length - i) wr xs i (by have:=HXL.out;omega) HO.out);have BV:=ga.mk (And.intro ((Kd.xh HO.out) A' rfl) (HO.out.1 A' rfl));go_wp2;go_ret;obtain ⟨e1,e2,e3,e4,e5⟩:=HD.out;rw [List.take_length] at e4;have e6:(l.filter (fun x=>!p x)).length=i:=by rw [← e4,List.length_take];omega
    rw [e6];refine ⟨rfl,?_,HB.out.grown HZR.out.2 (Nat.le_trans HBS.out HK.out.1) (fun k_ e=>by injection e with e;rw [← e];exact BV.out.1),Kept.ng HZR.out.2 HK.out (fun k_ e=>Or.inl (by injection e with e;rw [← e];exact BV.out.2))⟩;have h:=Kd.wE HZR.out.1 (m:=i) (by rw [List.length_append,List.length_take];omega)
    rwa [List.take_append_of_le_length (by rw [List.length_take];omega),List.take_take,Nat.min_self,e4] at h
inductive Ym (nx:Nat→List Int):Nat→Prop
 | zero:Ym nx 0
 | step {i:Nat} {j:Int}:Ym nx i→j ∈ nx i→Ym nx j.toNat
def seen (s:List Bool) (j:Nat):Bool:=s.getD j false
theorem ji {s:List Bool} {i j:Nat} (hi:i < s.length):seen (s.set i true) j=(decide (i=j) || seen s j):=by
 unfold seen;rw [List.getD_eq_getElem?_getD,List.getD_eq_getElem?_getD,List.getElem?_set]
 by_cases h:i=j
 ·simp [h];subst h;simp [hi]
 ·simp [h]
def news (s:List Bool):Nat:=s.count false
theorem Hu {s:List Bool} {i:Nat} (hi:i < s.length) (h:seen s i=false):news (s.set i true) + 1=news s:=by
 unfold news;rw [List.count_set hi];unfold seen at h;rw [List.getD_eq_getElem?_getD,List.getElem?_eq_getElem hi] at h;have h':s[i]=false:=by simpa using h
 have hp:0 < s.count false:=List.count_pos_iff.mpr (h' ▸ List.getElem_mem hi);simp [h'];omega
def uf (p:List Bool × List Int) (j:Int):List Bool × List Int:=if seen p.1 j.toNat=true then p else (p.1.set j.toNat true,p.2 ++ [j])
structure VA (n:Nat) (nx:Nat→List Int) (s:List Bool) (q:List Int):Prop where
 len:s.length=n
 vN:∀ j ∈ q,0 ≤ j∧j < n∧seen s j.toNat=true
 fH:∀ j,seen s j=true→Ym nx j
 cap:q.length + news s ≤ n
 XQ:seen s 0=true
def Shut (nx:Nat→List Int) (s:List Bool) (q:List Int) (i:Nat):Prop:=∀ j,seen s j=true→(j:Int) ∉ q→j ≠ i→∀ m ∈ nx j,seen s m.toNat=true
theorem DN {n:Nat} {nx:Nat→List Int} {s:List Bool} {q:List Int} {i:Nat} (h:VA n nx s q) (hs:Shut nx s q i) {j:Int} (h0:0 ≤ j) (h1:j < n) (hr:Ym nx j.toNat) :
  VA n nx (uf (s,q) j).1 (uf (s,q) j).2∧Shut nx (uf (s,q) j).1 (uf (s,q) j).2 i∧seen (uf (s,q) j).1 j.toNat=true∧(∀ m,seen s m=true→seen (uf (s,q) j).1 m=true)∧2 * news (uf (s,q) j).1 + (uf (s,q) j).2.length ≤ 2 * news s + q.length:=by
 have hl:j.toNat < s.length:=by rw [h.len];omega
 unfold uf
 by_cases hc:seen s j.toNat=true
 ·simp only [if_pos hc];exact ⟨h,hs,hc,fun m hm=>hm,Nat.le_refl _⟩
 ·simp only [if_neg hc];have hf:seen s j.toNat=false:=by simpa using hc
  have hn:=Hu hl hf;have hk:∀ m,seen s m=true→seen (s.set j.toNat true) m=true:=fun m hm=>by rw [ji hl,hm,Bool.or_true]
  refine ⟨⟨?_,?_,?_,?_,?_⟩,?_,?_,hk,?_⟩
  ·rw [List.length_set];exact h.len
  ·intro m hm
   rcases List.mem_append.mp hm with hm|hm
   ·obtain ⟨a,b,c⟩:=h.vN m hm;exact ⟨a,b,hk _ c⟩
   ·rw [List.mem_singleton] at hm;subst hm;refine ⟨h0,h1,?_⟩;rw [ji hl];simp
  ·intro m hm;rw [ji hl] at hm
   by_cases e:j.toNat=m
   ·rw [← e];exact hr
   ·simp [e] at hm;exact h.fH m hm
  ·have:=h.cap;rw [List.length_append,List.length_singleton];omega
  ·exact hk _ h.XQ
  ·intro a ha hq hi m hm;rw [ji hl] at ha
   have hq':(a:Int) ∉ q∧(a:Int) ≠ j:=by
    rw [List.mem_append,List.mem_singleton] at hq;exact ⟨fun x=>hq (Or.inl x),fun x=>hq (Or.inr x)⟩
   have e:j.toNat ≠ a:=fun e=>hq'.2 (by omega)
   simp [e] at ha;exact hk _ (hs a ha hq'.1 hi m hm)
  ·rw [ji hl];simp
  ·rw [List.length_append,List.length_singleton];omega
theorem kF {n:Nat} {nx:Nat→List Int} {i:Nat} (hi:Ym nx i):∀ (l:List Int) (s:List Bool) (q:List Int),VA n nx s q→Shut nx s q i→(∀ j ∈ l,0 ≤ j∧j < n∧j ∈ nx i) →
  VA n nx (l.foldl uf (s,q)).1 (l.foldl uf (s,q)).2∧Shut nx (l.foldl uf (s,q)).1 (l.foldl uf (s,q)).2 i∧(∀ j ∈ l,seen (l.foldl uf (s,q)).1 j.toNat=true)∧(∀ m,seen s m=true→seen (l.foldl uf (s,q)).1 m=true)∧2 * news (l.foldl uf (s,q)).1 + (l.foldl uf (s,q)).2.length ≤ 2 * news s + q.length:=by
 intro l
 induction l with
 | nil=>intro s q h hs _;exact ⟨h,hs,fun j hj=>absurd hj (by simp),fun m hm=>hm,Nat.le_refl _⟩
 | cons j l ih =>
  intro s q h hs hl;obtain ⟨a,b,c⟩:=hl j (by simp);obtain ⟨p1,p2,p3,p4,p5⟩:=DN h hs a b (Ym.step hi c);obtain ⟨q1,q2,q3,q4,q5⟩:=ih _ _ p1 p2 (fun m hm=>hl m (by simp [hm]));refine ⟨q1,q2,?_,fun m hm=>q4 m (p4 m hm),Nat.le_trans q5 p5⟩;intro m hm
  rcases List.mem_cons.mp hm with e|hm
  ·subst e;exact q4 _ p3
  ·exact q3 m hm
structure iy (n:Nat) (nx:Nat→List Int) (s:List Bool) (q:List Int):Prop where
 len:s.length=n
 vN:∀ j ∈ q,0 ≤ j∧j < n∧Ym nx j.toNat
 fH:∀ j,seen s j=true→Ym nx j
 cap:q.length + 2 * news s ≤ 1 + 2 * n
 XQ:seen s 0=true ∨ (0:Int) ∈ q
 shut:∀ j,seen s j=true→∀ m ∈ nx j,seen s m.toNat=true ∨ m ∈ q
theorem pN {n:Nat} {nx:Nat→List Int} {s:List Bool} {i:Int} {q:List Int} (hn:∀ a,a < n→(nx a).length ≤ 2∧∀ j ∈ nx a,0 ≤ j∧j < n) (h:iy n nx s (i :: q)) (hf:seen s i.toNat=false):iy n nx (s.set i.toNat true) (q ++ nx i.toNat):=by
 obtain ⟨h0,h1,hr⟩:=h.vN i (by simp);have hl:i.toNat < s.length:=by rw [h.len];omega
 obtain ⟨n1,n2⟩:=hn i.toNat (by omega);have hw:=Hu hl hf;refine ⟨by rw [List.length_set];exact h.len,?_,?_,?_,?_,?_⟩
 ·intro j hj
  rcases List.mem_append.mp hj with hj|hj
  ·exact h.vN j (by simp [hj])
  ·exact ⟨(n2 j hj).1,(n2 j hj).2,Ym.step hr hj⟩
 ·intro m hm;rw [ji hl] at hm
  by_cases e:i.toNat=m
  ·rw [← e];exact hr
  ·simp [e] at hm;exact h.fH m hm
 ·have:=h.cap;rw [List.length_cons] at this;rw [List.length_append];omega
 ·rw [ji hl]
  rcases h.XQ with z|z
  ·left;rw [z,Bool.or_true]
  ·rcases List.mem_cons.mp z with z|z
   ·left
    rw [← z];simp
   ·right
    exact List.mem_append.mpr (Or.inl z)
 ·intro j hj m hm;rw [ji hl] at hj
  by_cases e:i.toNat=j
  ·right
   rw [← e] at hm;exact List.mem_append.mpr (Or.inr hm)
  ·simp [e] at hj;rw [ji hl]
   rcases h.shut j hj m hm with z|z
   ·left;rw [z,Bool.or_true]
   ·rcases List.mem_cons.mp z with z|z
    ·left
     rw [z];simp
    ·right
     exact List.mem_append.mpr (Or.inl z)
theorem tN {n:Nat} {nx:Nat→List Int} {s:List Bool} {i:Int} {q:List Int} (h:iy n nx s (i :: q)) (hf:seen s i.toNat=true):iy n nx s q:=by
 refine ⟨h.len,fun j hj=>h.vN j (by simp [hj]),h.fH,?_,?_,?_⟩
 ·have:=h.cap;rw [List.length_cons] at this;omega
 ·rcases h.XQ with z|z
  ·left;exact z
  ·rcases List.mem_cons.mp z with z|z
   ·left
    rw [← z] at hf;exact hf
   ·right;exact z
 ·intro j hj m hm
  rcases h.shut j hj m hm with z|z
  ·left;exact z
  ·rcases List.mem_cons.mp z with z|z
   ·left;rw [z];exact hf
   ·right;exact z
theorem TU {n:Nat} {nx:Nat→List Int} {s:List Bool} (h:VA n nx s []) (hs:∀ j,seen s j=true→∀ m ∈ nx j,seen s m.toNat=true):∀ j,seen s j=true ↔ Ym nx j:=by
 intro j;refine ⟨h.fH j,fun r=>?_⟩
 induction r with
 | zero=>exact h.XQ
 | step _ hm ih=>exact hs _ ih _ hm
theorem UU {n:Nat} {nx:Nat→List Int} {s:List Bool} (h:iy n nx s []):∀ j,seen s j=true ↔ Ym nx j:=by
 intro j;refine ⟨h.fH j,fun r=>?_⟩
 induction r with
 | zero=>exact h.XQ.resolve_right (by simp)
 | step _ hm ih=>exact (h.shut _ ih _ hm).resolve_right (by simp)
theorem QH:∀ (l1 l2:List Int),l1.Pairwise (· < ·)→l2.Pairwise (· < ·)→(∀ x,x ∈ l1 ↔ x ∈ l2)→l1=l2:=by
 intro l1
 induction l1 with
 | nil =>
  intro l2 _ _ h;cases l2 with
  | nil=>rfl
  | cons y l2=>exact absurd ((h y).2 (by simp)) (by simp)
 | cons x l1 ih =>
  intro l2 h1 h2 h;cases l2 with
  | nil=>exact absurd ((h x).1 (by simp)) (by simp)
  | cons y l2 =>
   obtain ⟨a1,a2⟩:=List.pairwise_cons.1 h1;obtain ⟨b1,b2⟩:=List.pairwise_cons.1 h2
   have e:x=y:=by
    rcases List.mem_cons.1 ((h x).1 (by simp)) with e|e
    ·exact e
    ·rcases List.mem_cons.1 ((h y).2 (by simp)) with e2|e2
     ·exact e2.symm
     ·have:=a1 y e2;have:=b1 x e;omega
   subst e
   congr 1
   refine ih l2 a2 b2 (fun z=>?_)
   constructor
   ·intro hz
    rcases List.mem_cons.1 ((h z).1 (List.mem_cons_of_mem _ hz)) with e|e
    ·have:=a1 z hz;omega
    ·exact e
   ·intro hz
    rcases List.mem_cons.1 ((h z).2 (List.mem_cons_of_mem _ hz)) with e|e
    ·have:=b1 z hz;omega
    ·exact e
theorem Vz (d:Array Int) (hd:∀ i j:Nat,i ≤ j→j < d.size→d[i]! ≤ d[j]!):∀ m:Nat,m ≤ d.size→(Go.Lib.compactUpTo d m).Pairwise (· < ·)∧∀ x,x ∈ Go.Lib.compactUpTo d m ↔ ∃ j,j < m∧d[j]! = x:=by
 intro m
 induction m with
 | zero =>
  intro _;simp [Go.Lib.compactUpTo]
 | succ m ih =>
  intro hm;obtain ⟨h1,h2⟩:=ih (by omega);rw [Go.Lib.compactUpTo_succ]
  by_cases hk:Go.Lib.keeps d m=true
  ·rw [if_pos hk];have hk2:m=0 ∨ d[m]! ≠ d[m - 1]!:=by simpa [Go.Lib.keeps] using hk
   refine ⟨List.pairwise_append.2 ⟨h1,by simp,fun a ha b hb=>?_⟩,fun x=>?_⟩
   ·rw [List.mem_singleton] at hb;subst hb;obtain ⟨j,hj,rfl⟩:=(h2 a).1 ha;have e1:=hd j (m - 1) (by omega) (by omega);have e2:=hd (m - 1) m (by omega) (by omega)
    rcases hk2 with e|e
    ·omega
    ·omega
   ·rw [List.mem_append,h2,List.mem_singleton]
    constructor
    ·rintro (⟨j,hj,e⟩|e)
     ·exact ⟨j,by omega,e⟩
     ·exact ⟨m,by omega,e.symm⟩
    ·rintro ⟨j,hj,e⟩
     by_cases hjm:j=m
     ·subst hjm;exact Or.inr e.symm
     ·exact Or.inl ⟨j,by omega,e⟩
  ·rw [if_neg hk,List.append_nil];refine ⟨h1,fun x=>?_⟩;rw [h2]
   have hk2:m ≠ 0∧d[m]! = d[m - 1]!:=by
    have:¬ (m=0 ∨ d[m]! ≠ d[m - 1]!):=by simpa [Go.Lib.keeps] using hk
    exact ⟨fun e=>this (Or.inl e),Decidable.byContradiction fun e=>this (Or.inr e)⟩
   constructor
   ·rintro ⟨j,hj,e⟩;exact ⟨j,by omega,e⟩
   ·rintro ⟨j,hj,e⟩
    by_cases hjm:j=m
    ·subst hjm;exact ⟨j - 1,by omega,by rw [← hk2.2];exact e⟩
    ·exact ⟨j,by omega,e⟩
theorem FG (l:List Int):(sE l).Pairwise (· < ·)∧∀ x,x ∈ sE l ↔ x ∈ l:=by
 have hp:(l.mergeSort fun x y=>decide (x ≤ y)).Pairwise (fun a b=>decide (a ≤ b)=true):=List.pairwise_mergeSort (le:=fun x y:Int=>decide (x ≤ y)) (fun a b c h1 h2=>by simp at h1 h2 ⊢;omega) (fun a b=>by simp;omega) l;have hm:∀ x,x ∈ (l.mergeSort fun x y=>decide (x ≤ y)) ↔ x ∈ l:=fun x=>List.mem_mergeSort
 unfold sE;generalize (l.mergeSort fun x y=>decide (x ≤ y))=s at hp hm
 have hd:∀ i j:Nat,i ≤ j→j < s.toArray.size→s.toArray[i]! ≤ s.toArray[j]!:=by
  intro i j hij hj;have hj':j < s.length:=by simpa using hj
  rcases Nat.lt_or_ge i j with h|h
  ·have:=List.pairwise_iff_getElem.1 hp i j (by omega) hj' h
   simpa [show i < s.length by omega,hj'] using this
  ·obtain rfl:i=j:=by omega
   exact Int.le_refl _
 obtain ⟨h1,h2⟩:=Vz s.toArray hd s.length (by simp);refine ⟨h1,fun x=>?_⟩;rw [← hm];refine (h2 x).trans ?_;rw [List.mem_iff_getElem]
 constructor
 ·rintro ⟨j,hj,e⟩;exact ⟨j,hj,by simpa [hj] using e⟩
 ·rintro ⟨j,hj,e⟩;exact ⟨j,hj,by simpa [hj] using e⟩
attribute [local go_sem] Eh Ch Ji Ii Jg Ig Dh Bh
def Cg.f (Oa:List (Uc)) (Ka:Int) (Pa:Int) (Ja:Int) (jc:Int):Option (List Int):=if Ka=0 then (some (([Ja]:List Int))) else (if Ka=1 then (some (([Ja,jc]:List Int))) else (some (([]:List Int))))
theorem Cg.calls (yb:Option Addr) (xb:Nat) (Oa:List (Uc)) (Ka:Int) (Pa:Int) (Ja:Int) (jc:Int) (r:List Int) (w:World) (fe:Kd.C Cf w yb Oa.length Oa) (Yd:Oa.length ≤ xb) (h:Cg.f Oa Ka Pa Ja jc=some r) :
  Calls Try.prog 85 #[.agg #[.slice yb Oa.length xb,.int .i64 Ka,.int .i64 Pa,.int .i64 Ja,.int .i64 jc]] w fun e w'=>∃ Pm:Value,e = .returned (Pm)∧Kd.R (Kd.int .i64) 3 w' w.heap.size (fun _=>True) Pm r∧Below w.heap.size w w':=by
 have Iz:=Try.underlying83;have Qe:=ga.mk fe;have gf:=ga.mk Yd;clear fe Yd;have HB:=ga.mk (Below.refl w.heap.size w);have H:(if Ka=0 then (some (([Ja]:List Int))) else (if Ka=1 then (some (([Ja,jc]:List Int))) else (some (([]:List Int)))))=some r:=h;clear h
 by_cases c2:Ka=0
 ·rw [if_pos c2] at H;have vq:(Ka == 0)=true:=beq_iff_eq.mpr c2;have Lt:(Ka != 0)=false:=bne_eq_false_iff_eq.mpr c2;clear c2;obtain ⟨qe,jg⟩:∃ y_:List Int,y_=(([Ja]:List Int)):=⟨_,rfl⟩;replace H:(some qe)=some r:=by first|(rw [jg];with_reducible exact H)|(have Od:=(Option.bind_some _ _).symm.trans H;rw [jg];with_reducible exact Od)|(have Od:=(Option.bind_some _ _).symm.trans H;with_reducible exact Od)|with_reducible exact H|(rw [jg];exact H)|exact H
  have Aj:=ga.mk jg;clear jg;obtain rfl:=Option.some.inj H;go_enter Try.func85,Try.ntmps85;go_wp2_with (first|((with_reducible refine Db (N:=1) rfl ?_);refine Lb ?hg (N:=1) ?hd (cs:=#[.slice yb Oa.length xb,.int .i64 Ka,.int .i64 Pa,.int .i64 Ja,.int .i64 jc]) (t:=83) ?hr ?_;(case hd=>rfl);(case hg=>rfl);(case hr=>first|(go_simp;done)|(go_simp;rfl));intro za hg w3 Tb hb;have Jb:=ga.mk (Ra (by repeat (first|(with_reducible first|exact HB.out|apply oa|apply ia|apply qa)|exact HB.out)) hb);have Ob:=ga.mk (Tb);have Vb:=ga.mk ((by rw [hg];exact (La (by repeat (first|(with_reducible first|exact HB.out|apply oa|apply ia|apply qa)|exact HB.out))):w.heap.size ≤ za));have uc:=ga.mk ((by rw [hg];exact (La (by repeat (first|(with_reducible first|exact HB.out|apply oa|apply ia|apply qa)|exact HB.out))):w.heap.size ≤ za));clear HB;have HB:=Jb;have ta:=Ob;have ue:=Vb;have Ta:=uc;clear Jb Ob Vb uc hb Tb hg;have jZ:w3.cell? ⟨za,0,none⟩=some (.slice yb Oa.length xb):=(ja ta.out 0).trans rfl;have iZ:w3.cell? ⟨za,1,none⟩=some (.int .i64 Ka):=(ja ta.out 1).trans rfl;have gZ:w3.cell? ⟨za,2,none⟩=some (.int .i64 Pa):=(ja ta.out 2).trans rfl;have fZ:w3.cell? ⟨za,3,none⟩=some (.int .i64 Ja):=(ja ta.out 3).trans rfl;have eZ:w3.cell? ⟨za,4,none⟩=some (.int .i64 jc):=(ja ta.out 4).trans rfl;have PY:=aa ta.out 0;have OY:=aa ta.out 1;have NY:=aa ta.out 2;have MY:=aa ta.out 3;have LY:=aa ta.out 4)|((with_reducible refine Db (N:=9) rfl ?_);refine Kd.Tk (Kd.int .i64) _ 3 ?hg (N:=9) ?hd (xs:=([Ja]:List Int)) (inner:=[.int .i64 Ja]) (ok:=fun _=>True) (Ah:=fun _=>True) ?hr ?hp (fun _ hk=>hk) trivial (Below.refl _ _) (Nat.le_refl _) (by simp) ?_;(case hd=>rfl);(case hg=>rfl);(case hr=>first|(go_simp;done)|(go_simp;rfl));(case hp=>exact (Ld.one (show Kd.M (Kd.int .i64) _ _ _ Ja [.int .i64 Ja] from rfl) (Ld.none _ _)));intro Sh w5 zF hb Um Gf;clear Um Gf;(first|rw [← Aj.out] at zF|(simp only [Int.reduceToNat] at zF;rw [← Aj.out] at zF));have Jb:=ga.mk (Kd.Fe zF (La (by repeat (first|(with_reducible first|exact HB.out|apply oa|apply ia|apply qa|refine ua ?_ Ta.out)|exact HB.out))));have Ob:=ga.mk (Va (g:=za) (o:=.cells #[.slice yb Oa.length xb,.int .i64 Ka,.int .i64 Pa,.int .i64 Ja,.int .i64 jc] 83 (0,0)) (by (with_reducible repeat (first|refine Da ?_ _|refine Ea ?_|refine Ca ?_ _));exact ta.out) hb);have Vb:=ga.mk (Ra (by repeat (first|(with_reducible first|exact HB.out|apply oa|apply ia|apply qa|refine ua ?_ Ta.out)|exact HB.out)) hb);clear ta HB;have dg:=Jb;have ta:=Ob;have HB:=Vb;clear Jb Ob Vb hb zF));go_ret;exact ⟨_,by first|rfl|(simp [Na,Ma] <;> rfl)|(simp [*,Na,Ma] <;> rfl),by (with_reducible repeat (first|apply Kd.Xa|apply Kd.Wa|apply Kd.qb));exact dg.out,by repeat (first|(with_reducible first|exact HB.out|apply oa|apply ia|apply qa|refine ua ?_ Ta.out)|exact HB.out)⟩
 ·rw [if_neg c2] at H;have vq:(Ka == 0)=false:=beq_eq_false_iff_ne.mpr c2;have Lt:(Ka != 0)=true:=bne_iff_ne.mpr c2
  by_cases c7:Ka=1
  ·rw [if_pos c7] at H;have uq:(Ka == 1)=true:=beq_iff_eq.mpr c7;have Xz:(Ka != 1)=false:=bne_eq_false_iff_eq.mpr c7;clear c7;obtain ⟨we,Fg⟩:∃ y_:List Int,y_=(([Ja,jc]:List Int)):=⟨_,rfl⟩;replace H:(some we)=some r:=by first|(rw [Fg];with_reducible exact H)|(have Od:=(Option.bind_some _ _).symm.trans H;rw [Fg];with_reducible exact Od)|(have Od:=(Option.bind_some _ _).symm.trans H;with_reducible exact Od)|with_reducible exact H|(rw [Fg];exact H)|exact H
   have zo:=ga.mk Fg;clear Fg;obtain rfl:=Option.some.inj H;go_enter Try.func85,Try.ntmps85;go_wp2_with (first|((with_reducible refine Db (N:=1) rfl ?_);refine Lb ?hg (N:=1) ?hd (cs:=#[.slice yb Oa.length xb,.int .i64 Ka,.int .i64 Pa,.int .i64 Ja,.int .i64 jc]) (t:=83) ?hr ?_;(case hd=>rfl);(case hg=>rfl);(case hr=>first|(go_simp;done)|(go_simp;rfl));intro za hg w8 Tb hb;have Jb:=ga.mk (Ra (by repeat (first|(with_reducible first|exact HB.out|apply oa|apply ia|apply qa)|exact HB.out)) hb);have Ob:=ga.mk (Tb);have Vb:=ga.mk ((by rw [hg];exact (La (by repeat (first|(with_reducible first|exact HB.out|apply oa|apply ia|apply qa)|exact HB.out))):w.heap.size ≤ za));have uc:=ga.mk ((by rw [hg];exact (La (by repeat (first|(with_reducible first|exact HB.out|apply oa|apply ia|apply qa)|exact HB.out))):w.heap.size ≤ za));clear HB;have HB:=Jb;have ta:=Ob;have ue:=Vb;have Ta:=uc;clear Jb Ob Vb uc hb Tb hg;have Zl:w8.cell? ⟨za,0,none⟩=some (.slice yb Oa.length xb):=(ja ta.out 0).trans rfl;have Yl:w8.cell? ⟨za,1,none⟩=some (.int .i64 Ka):=(ja ta.out 1).trans rfl;have Xl:w8.cell? ⟨za,2,none⟩=some (.int .i64 Pa):=(ja ta.out 2).trans rfl;have Wl:w8.cell? ⟨za,3,none⟩=some (.int .i64 Ja):=(ja ta.out 3).trans rfl;have Vl:w8.cell? ⟨za,4,none⟩=some (.int .i64 jc):=(ja ta.out 4).trans rfl;have Ul:=aa ta.out 0;have Tl:=aa ta.out 1;have Sl:=aa ta.out 2;have Rl:=aa ta.out 3;have Ql:=aa ta.out 4)|((with_reducible refine Db (N:=16) rfl ?_);refine Kd.Tk (Kd.int .i64) _ 3 ?hg (N:=16) ?hd (xs:=([Ja,jc]:List Int)) (inner:=[.int .i64 Ja,.int .i64 jc]) (ok:=fun _=>True) (Ah:=fun _=>True) ?hr ?hp (fun _ hk=>hk) trivial (Below.refl _ _) (Nat.le_refl _) (by simp) ?_;(case hd=>rfl);(case hg=>rfl);(case hr=>first|(go_simp;done)|(go_simp;rfl));(case hp=>exact (Ld.one (show Kd.M (Kd.int .i64) _ _ _ Ja [.int .i64 Ja] from rfl) (Ld.one (show Kd.M (Kd.int .i64) _ _ _ jc [.int .i64 jc] from rfl) (Ld.none _ _))));intro DA Bp Oq hb Um Gf;clear Um Gf;(first|rw [← zo.out] at Oq|(simp only [Int.reduceToNat] at Oq;rw [← zo.out] at Oq));have Jb:=ga.mk (Kd.Fe Oq (La (by repeat (first|(with_reducible first|exact HB.out|apply oa|apply ia|apply qa|refine ua ?_ Ta.out)|exact HB.out))));have Ob:=ga.mk (Va (g:=za) (o:=.cells #[.slice yb Oa.length xb,.int .i64 Ka,.int .i64 Pa,.int .i64 Ja,.int .i64 jc] 83 (0,0)) (by (with_reducible repeat (first|refine Da ?_ _|refine Ea ?_|refine Ca ?_ _));exact ta.out) hb);have Vb:=ga.mk (Ra (by repeat (first|(with_reducible first|exact HB.out|apply oa|apply ia|apply qa|refine ua ?_ Ta.out)|exact HB.out)) hb);clear ta HB;have Zm:=Jb;have ta:=Ob;have HB:=Vb;clear Jb Ob Vb hb Oq));go_ret;exact ⟨_,by first|rfl|(simp [Na,Ma] <;> rfl)|(simp [*,Na,Ma] <;> rfl),by (with_reducible repeat (first|apply Kd.Xa|apply Kd.Wa|apply Kd.qb));exact Zm.out,by repeat (first|(with_reducible first|exact HB.out|apply oa|apply ia|apply qa|refine ua ?_ Ta.out)|exact HB.out)⟩
  ·rw [if_neg c7] at H;have uq:(Ka == 1)=false:=beq_eq_false_iff_ne.mpr c7;have Xz:(Ka != 1)=true:=bne_iff_ne.mpr c7;obtain ⟨jz,Zi⟩:∃ y_:List Int,y_=(([]:List Int)):=⟨_,rfl⟩;replace H:(some jz)=some r:=by first|(rw [Zi];with_reducible exact H)|(have Od:=(Option.bind_some _ _).symm.trans H;rw [Zi];with_reducible exact Od)|(have Od:=(Option.bind_some _ _).symm.trans H;with_reducible exact Od)|with_reducible exact H|(rw [Zi];exact H)|exact H
   have Zt:=ga.mk Zi;clear Zi;obtain rfl:=Option.some.inj H;go_enter Try.func85,Try.ntmps85;go_wp2_with (first|((with_reducible refine Db (N:=1) rfl ?_);refine Lb ?hg (N:=1) ?hd (cs:=#[.slice yb Oa.length xb,.int .i64 Ka,.int .i64 Pa,.int .i64 Ja,.int .i64 jc]) (t:=83) ?hr ?_;(case hd=>rfl);(case hg=>rfl);(case hr=>first|(go_simp;done)|(go_simp;rfl));intro za hg zw Tb hb;have Jb:=ga.mk (Ra (by repeat (first|(with_reducible first|exact HB.out|apply oa|apply ia|apply qa)|exact HB.out)) hb);have Ob:=ga.mk (Tb);have Vb:=ga.mk ((by rw [hg];exact (La (by repeat (first|(with_reducible first|exact HB.out|apply oa|apply ia|apply qa)|exact HB.out))):w.heap.size ≤ za));have uc:=ga.mk ((by rw [hg];exact (La (by repeat (first|(with_reducible first|exact HB.out|apply oa|apply ia|apply qa)|exact HB.out))):w.heap.size ≤ za));clear HB;have HB:=Jb;have ta:=Ob;have ue:=Vb;have Ta:=uc;clear Jb Ob Vb uc hb Tb hg;have jq:zw.cell? ⟨za,0,none⟩=some (.slice yb Oa.length xb):=(ja ta.out 0).trans rfl;have iq:zw.cell? ⟨za,1,none⟩=some (.int .i64 Ka):=(ja ta.out 1).trans rfl;have gq:zw.cell? ⟨za,2,none⟩=some (.int .i64 Pa):=(ja ta.out 2).trans rfl;have fq:zw.cell? ⟨za,3,none⟩=some (.int .i64 Ja):=(ja ta.out 3).trans rfl;have cq:zw.cell? ⟨za,4,none⟩=some (.int .i64 jc):=(ja ta.out 4).trans rfl;have Qp:=aa ta.out 0;have Pp:=aa ta.out 1;have Np:=aa ta.out 2;have Mp:=aa ta.out 3;have Lp:=aa ta.out 4)|((with_reducible refine Db (N:=17) rfl ?_);refine Kd.Tk (Kd.int .i64) _ 3 ?hg (N:=17) ?hd (xs:=([]:List Int)) (inner:=[]) (ok:=fun _=>True) (Ah:=fun _=>True) ?hr ?hp (fun _ hk=>hk) trivial (Below.refl _ _) (Nat.le_refl _) (by simp) ?_;(case hd=>rfl);(case hg=>rfl);(case hr=>first|(go_simp;done)|(go_simp;rfl));(case hp=>exact (Ld.none _ _));intro v109 eH xO hb Um Gf;clear Um Gf;(first|rw [← Zt.out] at xO|(simp only [Int.reduceToNat] at xO;rw [← Zt.out] at xO));have Jb:=ga.mk (Kd.Fe xO (La (by repeat (first|(with_reducible first|exact HB.out|apply oa|apply ia|apply qa|refine ua ?_ Ta.out)|exact HB.out))));have Ob:=ga.mk (Va (g:=za) (o:=.cells #[.slice yb Oa.length xb,.int .i64 Ka,.int .i64 Pa,.int .i64 Ja,.int .i64 jc] 83 (0,0)) (by (with_reducible repeat (first|refine Da ?_ _|refine Ea ?_|refine Ca ?_ _));exact ta.out) hb);have Vb:=ga.mk (Ra (by repeat (first|(with_reducible first|exact HB.out|apply oa|apply ia|apply qa|refine ua ?_ Ta.out)|exact HB.out)) hb);clear ta HB;have Kq:=Jb;have ta:=Ob;have HB:=Vb;clear Jb Ob Vb hb xO));go_ret;exact ⟨_,by first|rfl|(simp [Na,Ma] <;> rfl)|(simp [*,Na,Ma] <;> rfl),by (with_reducible repeat (first|apply Kd.Xa|apply Kd.Wa|apply Kd.qb));exact Kq.out,by repeat (first|(with_reducible first|exact HB.out|apply oa|apply ia|apply qa|refine ua ?_ Ta.out)|exact HB.out)⟩
def NA (b:jf):List Int:=if b.f1=0 then [b.f3] else if b.f1=1 then [b.f3,b.f4] else []
theorem fB (b:jf):Wf.f b.f0 b.f1 b.f2 b.f3 b.f4=some (NA b):=by
 unfold Wf.f NA
 by_cases h0:b.f1=0
 ·rw [if_pos h0,if_pos h0]
 ·rw [if_neg h0,if_neg h0]
  by_cases h1:b.f1=1
  ·rw [if_pos h1,if_pos h1]
  ·rw [if_neg h1,if_neg h1]
theorem eB (b:jf):Cg.f b.f0 b.f1 b.f2 b.f3 b.f4=some (NA b):=by
 unfold Cg.f NA
 by_cases h0:b.f1=0
 ·rw [if_pos h0,if_pos h0]
 ·rw [if_neg h0,if_neg h0]
  by_cases h1:b.f1=1
  ·rw [if_pos h1,if_pos h1]
  ·rw [if_neg h1,if_neg h1]
theorem Br (b:jf):(NA b).length ≤ 2:=by
 unfold NA
 by_cases h0:b.f1=0
 ·rw [if_pos h0];simp
 ·rw [if_neg h0]
  by_cases h1:b.f1=1
  ·rw [if_pos h1];simp
  ·rw [if_neg h1];simp
def Th (bs:List jf) (i:Nat):List Int:=NA (Sa bs (i:Int))
def Pf (bs:List jf):Prop:=0 < bs.length∧bs.length ≤ 1048576∧∀ i,i < bs.length→∀ j ∈ Th bs i,0 ≤ j∧j < (bs.length:Int)
theorem qu {l0:List Int} {p v s:Int} {bs:List jf} (h:yl l0 p v s bs=true):Pf bs:=by
 unfold yl at h;simp only [Bool.and_eq_true] at h;obtain ⟨h1,h2,-⟩:=h;have hh:=EM h1;refine ⟨by omega,by omega,fun i hi j hj=>?_⟩
 have hb:xo l0 s bs bs[i]=true:=by
  simp only [Bool.not_eq_true',List.any_eq_false] at h2;have:=h2 _ (List.getElem_mem hi)
  simpa using this
 unfold xo Qj at hb;simp only [Bool.and_eq_true] at hb;obtain ⟨-,hb⟩:=hb;unfold Th at hj;rw [ql hi] at hj;unfold NA at hj
 by_cases h0:bs[i].f1=0
 ·rw [if_pos h0] at hj hb;simp only [Bool.and_eq_true,Di,decide_eq_true_eq] at hb;rw [List.mem_singleton] at hj;subst hj;omega
 ·rw [if_neg h0] at hj hb
  by_cases h1:bs[i].f1=1
  ·rw [if_pos h1] at hj hb;simp only [Bool.and_eq_true,Di,decide_eq_true_eq] at hb;simp only [List.mem_cons,List.not_mem_nil,or_false] at hj
   rcases hj with hj|hj <;> subst hj <;> omega
  ·rw [if_neg h1] at hj;cases hj
theorem Iw (n:Nat):news (List.replicate n false)=n:=by simp [news]
theorem Yo (n j:Nat):seen (List.replicate n false) j=false:=by
 unfold seen;rw [List.getD_eq_getElem?_getD,List.getElem?_replicate]
 by_cases h:j < n
 ·rw [if_pos h];rfl
 ·rw [if_neg h];rfl
theorem iy.perm {n:Nat} {nx:Nat→List Int} {s:List Bool} {q q':List Int} (h:iy n nx s q) (hp:∀ x,x ∈ q ↔ x ∈ q') (hl:q.length=q'.length):iy n nx s q' :=
 ⟨h.len,fun j hj=>h.vN j ((hp j).2 hj),h.fH,by rw [← hl];exact h.cap,h.XQ.imp id (hp 0).1,fun j hj m hm=>(h.shut j hj m hm).imp id (hp m).1⟩
theorem kG (ys:List Int) (hy:ys.length ≤ 2):Ev (fun k=>Ya.f k ys) ys.reverse:=by
 unfold Ya.f
 rcases ys with _|⟨a,_|⟨b,_|⟨c,l⟩⟩⟩
 ·rw [show wrap64 ((([]:List Int).length:Int) - 1) = -1 from by rw [kg (by simp) (by simp)];rfl];refine Ev.step (fun k=>by rw [Ya.l0]) ?_;exact Ev.neg (by omega) (Ev.now _)
 ·rw [show wrap64 (([a].length:Int) - 1)=0 from by rw [kg (by simp) (by simp)];rfl];refine Ev.step (fun k=>by rw [Ya.l0]) ?_;exact Ev.neg (by omega) (Ev.now _)
 ·rw [show wrap64 (([a,b].length:Int) - 1)=1 from by rw [kg (by simp) (by simp)];rfl];refine Ev.step (fun k=>by rw [Ya.l0]) ?_;refine Ev.pos (by omega) (Ev.pos (by omega) (Ev.pos (by simp) (Ev.pos (by omega) (Ev.pos (by simp) ?_))));rw [kg (x:=0 + 1) (by omega) (by omega),kg (x:=1 - 1) (by omega) (by omega)];refine Ev.step (fun k=>by rw [Ya.l0]) ?_;exact Ev.neg (by omega) (Ev.now _)
 ·simp at hy
noncomputable def Wc (bs:List jf):List Int:=open Classical in ((List.range bs.length).filter fun i=>decide (Ym (Th bs) i)).map fun (i:Nat)=>(i:Int)
theorem Ng {bs:List jf} (hE:Pf bs) (j:Int):j ∈ Wc bs ↔ 0 ≤ j∧Ym (Th bs) j.toNat:=by
 unfold Wc;rw [List.mem_map]
 constructor
 ·rintro ⟨i,hi,rfl⟩;rw [List.mem_filter] at hi;exact ⟨by omega,by simpa using hi.2⟩
 ·rintro ⟨h0,h⟩
  have hlt:j.toNat < bs.length:=by
   have:∀ i,Ym (Th bs) i→i < bs.length:=by
    intro i hi
    induction hi with
    | zero=>exact hE.1
    | step hr hj ih=>have:=hE.2.2 _ ih _ hj;omega
   exact this _ h
  exact ⟨j.toNat,List.mem_filter.2 ⟨List.mem_range.2 hlt,by simpa using h⟩,by omega⟩
theorem Ko {bs:List jf} (hE:Pf bs) {i:Nat} (h:Ym (Th bs) i):i < bs.length:=by
 induction h with
 | zero=>exact hE.1
 | step hr hj ih=>have:=hE.2.2 _ ih _ hj;omega
theorem xN (n:Nat):(List.range n).Pairwise (· < ·):=by
 exact List.pairwise_lt_range
theorem XU {l:List Nat} (h:l.Pairwise (· < ·)):(l.map fun (i:Nat)=>(i:Int)).Pairwise (· < ·):=by
 rw [List.pairwise_map];exact h.imp (fun h=>by omega)
theorem Gw (bs:List jf):(Wc bs).Pairwise (· < ·):=by
 unfold Wc;exact XU ((xN _).filter _)
theorem jl (bs:List jf):(Wc bs).length ≤ bs.length:=by
 unfold Wc;rw [List.length_map];exact Nat.le_trans (List.length_filter_le _ _) (by rw [List.length_range];exact Nat.le_refl _)
section
variable {l0:List Int} {p v s:Int} {bs:List jf}
theorem dG (hE:Pf bs):∀ (m:Nat) (sn:List Bool) (out FA:List Int),2 * news sn + FA.length ≤ m→iy bs.length (Th bs) sn FA→(∀ j:Nat,seen sn j=true ↔ (j:Int) ∈ out)→(∀ j ∈ out,0 ≤ j)→out.Nodup→out.length + news sn=bs.length →
  ∃ R,Ev (fun k=>Zc.l0 k sn out FA l0 p v s bs) R∧R.Nodup∧R.length ≤ bs.length∧∀ j:Int,j ∈ R ↔ 0 ≤ j∧Ym (Th bs) j.toNat:=by
 intro m
 induction m with
 | zero =>
  intro sn out FA hm hI TV h0 S3 hlen;have hp:FA=[]:=List.eq_nil_of_length_eq_zero (by omega);subst hp;refine ⟨out,Ev.step (fun k=>by rw [Zc.l0]) (Ev.neg (by decide) (Ev.now _)),S3,by omega,fun j=>?_⟩
  constructor
  ·intro hj;have h:=h0 j hj;refine ⟨h,(UU hI _).1 ((TV _).2 ?_)⟩
   rwa [Int.toNat_of_nonneg h]
  ·rintro ⟨h,hr⟩;have:=(TV _).1 ((UU hI _).2 hr)
   rwa [Int.toNat_of_nonneg h] at this
 | succ m ih =>
  intro sn out FA hm hI TV h0 S3 hlen
  by_cases hpe:FA=[]
  ·subst hpe;refine ⟨out,Ev.step (fun k=>by rw [Zc.l0]) (Ev.neg (by decide) (Ev.now _)),S3,by omega,fun j=>?_⟩
   constructor
   ·intro hj;have h:=h0 j hj;refine ⟨h,(UU hI _).1 ((TV _).2 ?_)⟩
    rwa [Int.toNat_of_nonneg h]
   ·rintro ⟨h,hr⟩;have:=(TV _).1 ((UU hI _).2 hr)
    rwa [Int.toNat_of_nonneg h] at this
  ·obtain ⟨q,b,rfl⟩:∃ q b,FA=q ++ [b]:=⟨FA.dropLast,FA.getLast hpe,(List.dropLast_concat_getLast hpe).symm⟩;have hcap:=hI.cap;have hnn:news sn ≤ bs.length:=by omega
   have hE2:=hE.2.1;rw [List.length_append,List.length_singleton] at hm hcap;have hI2:iy bs.length (Th bs) sn (b :: q):=hI.perm (fun x=>by simp [or_comm]) (by simp);obtain ⟨hb0,Ap,hbr⟩:=hI2.vN b (by simp);have cW:rd (q ++ [b]) (q.length:Int)=b:=by simp [rd]
   have htake:(q ++ [b]).take q.length=q:=by simp
   have hw:wrap64 (((q ++ [b]).length:Int) - 1)=(q.length:Int):=by
    rw [List.length_append,List.length_singleton,kg (by omega) (by omega)];omega
   have fN:((b.toNat:Nat):Int)=b:=Int.toNat_of_nonneg hb0;have Q3:=hI.len;have hrd:lg false sn b=seen sn b.toNat:=rfl
   by_cases hsb:seen sn b.toNat=true
   ·obtain ⟨R,hR,hrest⟩:=ih sn out q (by omega) (tN hI2 hsb) TV h0 S3 hlen;refine ⟨R,?_,hrest⟩;refine Ev.step (fun k=>by rw [Zc.l0]) (Ev.pos (by rw [List.length_append,List.length_singleton];omega) ?_);rw [hw,cW,hrd];refine Ev.pos (by omega) (Ev.pos (by rw [List.length_append,List.length_singleton];omega) (Ev.pos (by rw [List.length_append,List.length_singleton];omega) ?_));rw [Int.toNat_natCast,htake];exact Ev.val (Ev.pos hb0 (Ev.pos (by rw [Q3];exact Ap) (Ev.pos hsb hR)))
   ·have hsf:seen sn b.toNat=false:=by simpa using hsb
    have hlt:b.toNat < sn.length:=by rw [Q3];omega
    have hn:=Hu hlt hsf;have hT:iy bs.length (Th bs) (sn.set b.toNat true) (q ++ Th bs b.toNat):=pN (fun a ha=>⟨Br _,hE.2.2 a ha⟩) hI2 hsf;have R3:Th bs b.toNat=NA (Sa bs b):=by unfold Th;rw [fN]
    have fW:=Br (Sa bs b)
    obtain ⟨R,hR,hrest⟩:=ih (sn.set b.toNat true) (out ++ [b]) (q ++ (NA (Sa bs b)).reverse) (by rw [List.length_append,List.length_reverse];omega)
     (hT.perm (fun x=>by rw [R3];simp) (by rw [R3];simp)) (fun j=>by
      rw [ji hlt,List.mem_append,List.mem_singleton,← TV j,Bool.or_eq_true,decide_eq_true_eq]
      constructor
      ·rintro (h|h)
       ·right;omega
       ·left;exact h
      ·rintro (h|h)
       ·right;exact h
       ·left;omega) (fun j hj=>by
      rcases List.mem_append.1 hj with hj|hj
      ·exact h0 j hj
      ·rw [List.mem_singleton] at hj;omega) (by
      rw [List.nodup_append];refine ⟨S3,by simp,fun a ha c hc he=>?_⟩;rw [List.mem_singleton] at hc;subst hc;subst he;have:=(TV a.toNat).2 (by rw [fN];exact ha);rw [hsf] at this
      cases this) (by rw [List.length_append,List.length_singleton];omega)
    refine ⟨R,?_,hrest⟩;refine Ev.step (fun k=>by rw [Zc.l0]) (Ev.pos (by rw [List.length_append,List.length_singleton];omega) ?_);rw [hw,cW,hrd];refine Ev.pos (by omega) (Ev.pos (by rw [List.length_append,List.length_singleton];omega) (Ev.pos (by rw [List.length_append,List.length_singleton];omega) ?_));rw [Int.toNat_natCast,htake];refine Ev.val (Ev.pos hb0 (Ev.pos (by rw [Q3];exact Ap) (Ev.neg hsb (Ev.pos (by omega) (Ev.pos Ap ?_)))));rw [fB];refine Ev.val (Ev.bind (kG _ fW) (Ev.pos (by rw [List.length_reverse];omega) hR))
theorem sP (hE:Pf bs):∃ R,Ev (fun k=>Zc.f k l0 p v s bs) R∧R.length ≤ bs.length∧sE R=Wc bs:=by
 have hE1:=hE.1;have hE2:=hE.2.1;have hsn:∀ j,seen (List.replicate bs.length false) j=false:=fun j=>Yo _ _
 have hI:iy bs.length (Th bs) (List.replicate bs.length false) [0]:=by
  refine ⟨by simp,fun j hj=>?_,fun j hj=>?_,?_,Or.inr (by simp),fun j hj=>?_⟩
  ·rw [List.mem_singleton] at hj;subst hj;exact ⟨by omega,by omega,Ym.zero⟩
  ·rw [hsn] at hj;cases hj
  ·rw [Iw];simp
  ·rw [hsn] at hj;cases hj
 obtain ⟨R,h1,h2,h3,h4⟩:=dG (l0:=l0) (p:=p) (v:=v) (s:=s) hE (2 * news (List.replicate bs.length false) + 1) (List.replicate bs.length false) [] [0] (by simp) hI
  (fun j=>by rw [hsn];simp) (by simp) (by simp) (by rw [Iw];simp)
 refine ⟨R,?_,h3,?_⟩
 ·unfold Zc.f;refine Ev.pos (by omega) (Ev.pos (by omega) ?_);rw [Int.toNat_natCast];exact h1
 ·refine QH _ _ (FG R).1 (Gw bs) (fun x=>?_);rw [(FG R).2,h4,Ng hE]
end
end Go.Proofs.Ytoomcmaifgkkfaa.P
end
section
namespace Go.Proofs.Ytoomcmaifgkkfaa.P
open Go.RowKit Go.Proofs.Ia.Qb Go.Proofs.Ia.Dd Go.Proofs.Ia.ze
set_option linter.unusedVariables false
set_option linter.unusedSimpArgs false
inductive RA (nx:Nat→List Int) (a:Nat):Nat→Prop
 | zero:0 ≠ a→RA nx a 0
 | step {i:Nat} {j:Int}:RA nx a i→j ∈ nx i→j.toNat ≠ a→RA nx a j.toNat
def Dom (nx:Nat→List Int) (i k:Nat):Prop:=Ym nx i∧Ym nx k∧¬ RA nx i k
theorem RA.fH {nx:Nat→List Int} {a k:Nat} (h:RA nx a k):Ym nx k:=by
 induction h with
 | zero _=>exact Ym.zero
 | step _ hj _ ih=>exact Ym.step ih hj
theorem RA.ne {nx:Nat→List Int} {a k:Nat} (h:RA nx a k):k ≠ a:=by
 cases h with
 | zero h=>exact h
 | step _ _ h=>exact h
theorem Dom.zero {nx:Nat→List Int} {k:Nat} (h:Ym nx k):Dom nx 0 k:=by
 have key:∀ j,RA nx 0 j→False:=fun j h=>by
  induction h with
  | zero h=>exact h rfl
  | step _ _ _ ih=>exact ih
 exact ⟨Ym.zero,h,key k⟩
theorem Dom.at0 {nx:Nat→List Int} {i:Nat} (h:Dom nx i 0):i=0:=Decidable.byContradiction fun hc=>h.2.2 (RA.zero (fun e=>hc e.symm))
theorem Dom.back {nx:Nat→List Int} {i b:Nat} {t:Int} (h:Dom nx i t.toNat) (hb:Ym nx b) (ht:t ∈ nx b) (hne:t.toNat ≠ i):Dom nx i b:=⟨h.1,hb,fun hr=>h.2.2 (RA.step hr ht hne)⟩
noncomputable def fy (bs:List jf) (k:Nat):List Int:=open Classical in (Wc bs).filter fun i=>decide (Dom (Th bs) i.toNat k)
noncomputable def tj (bs:List jf):List (List Int):=(List.range bs.length).map (fy bs)
def Sk (D:List (List Int)) (k:Nat):List Int:=D.getD k []
theorem Im {D:List (List Int)} {i k:Nat} {x:List Int} (hi:i < D.length):Sk (D.set i x) k=if i=k then x else Sk D k:=by
 unfold Sk;rw [List.getD_eq_getElem?_getD,List.getD_eq_getElem?_getD,List.getElem?_set]
 by_cases h:i=k
 ·rw [if_pos h,if_pos h,if_pos hi];rfl
 ·rw [if_neg h,if_neg h]
def Xx (D:List (List Int)):Nat:=(D.map List.length).sum
theorem eF:∀ (D:List (List Int)) (i:Nat) (x:List Int),i < D.length→Xx (D.set i x) + (Sk D i).length=Xx D + x.length
 | [],i,x,h=>by simp at h
 | y :: D,0,x,_=>by
  simp only [Xx,List.set_cons_zero,List.map_cons,List.sum_cons,Sk,List.getD_cons_zero];omega
 | y :: D,i + 1,x,h=>by
  have ih:=eF D i x (by simpa using h);simp only [Xx,List.set_cons_succ,List.map_cons,List.sum_cons,Sk,List.getD_cons_succ] at ih ⊢;omega
def cw (D:List (List Int)) (b t:Nat) (r:Int):Bool:=if r=(t:Int) then false else !decide (r ∈ Sk D b)
def Rk (D:List (List Int)) (b t:Nat):List Int:=(Sk D t).filter fun r=>!cw D b t r
def OkE (D:List (List Int)) (b t:Nat):Prop:=∀ r ∈ Sk D t,r=(t:Int) ∨ r ∈ Sk D b
theorem OB (D:List (List Int)) (b t:Nat):(Rk D b t).length ≤ (Sk D t).length:=List.length_filter_le _ _
theorem WN {D:List (List Int)} {b t:Nat} (h:¬ (Rk D b t).length < (Sk D t).length):Rk D b t=Sk D t∧OkE D b t:=by
 have he:(Rk D b t).length=(Sk D t).length:=by have:=OB D b t;omega
 unfold Rk at he ⊢;have h2:=List.length_filter_eq_length_iff.1 he;refine ⟨List.filter_eq_self.2 h2,fun r hr=>?_⟩;have:=h2 r hr;unfold cw at this
 by_cases k5:r=(t:Int)
 ·exact Or.inl k5
 ·rw [if_neg k5] at this
  right
  simpa using this
structure fV (bs:List jf) (D:List (List Int)):Prop where
 len:D.length=bs.length
 fil:∀ k,∃ q:Int→Bool,Sk D k=(Wc bs).filter q
 unr:∀ k,¬ Ym (Th bs) k→Sk D k=[]
 dom:∀ i k,Dom (Th bs) i k→(i:Int) ∈ Sk D k
 zero:Sk D 0=[0]
section
variable {bs:List jf} {D:List (List Int)}
theorem fV.step (h:fV bs D) (hE:Pf bs) {b:Nat} {t:Int} (hb:Ym (Th bs) b) (ht:t ∈ Th bs b):fV bs (D.set t.toNat (Rk D b t.toNat)):=by
 have hbl:=Ko hE hb;obtain ⟨t0,t1⟩:=hE.2.2 b hbl t ht;have htl:t.toNat < D.length:=by rw [h.len];omega
 refine ⟨by rw [List.length_set];exact h.len,fun k=>?_,fun k hk=>?_,fun i k hik=>?_,?_⟩
 ·rw [Im htl]
  by_cases e:t.toNat=k
  ·rw [if_pos e];obtain ⟨q,hq⟩:=h.fil t.toNat;refine ⟨fun x=>q x && !cw D b t.toNat x,?_⟩;unfold Rk;rw [hq,List.filter_filter]
   congr 1
   funext x
   exact Bool.and_comm _ _
  ·rw [if_neg e];exact h.fil k
 ·rw [Im htl]
  by_cases e:t.toNat=k
  ·exact absurd (e ▸ Ym.step hb ht) hk
  ·rw [if_neg e];exact h.unr k hk
 ·rw [Im htl]
  by_cases e:t.toNat=k
  ·rw [if_pos e];subst e;unfold Rk;refine List.mem_filter.2 ⟨h.dom i _ hik,?_⟩;unfold cw
   by_cases hi:(i:Int)=((t.toNat:Nat):Int)
   ·rw [if_pos hi];rfl
   ·rw [if_neg hi];have:=h.dom i b (hik.back hb ht (by omega));simp [this]
  ·rw [if_neg e];exact h.dom i k hik
 ·rw [Im htl]
  by_cases e:t.toNat=0
  ·rw [if_pos e,e];unfold Rk;rw [h.zero];simp [cw]
  ·rw [if_neg e];exact h.zero
theorem fV.done (h:fV bs D) (hE:Pf bs) (hOk:∀ b,Ym (Th bs) b→∀ t ∈ Th bs b,OkE D b t.toNat):D=tj bs:=by
 have key:∀ (i k:Nat),RA (Th bs) i k→(i:Int) ∉ Sk D k:=by
  intro i k hr
  induction hr with
  | zero h0 =>
   rw [h.zero,List.mem_singleton];omega
  | @step u t hu ht hne ih =>
   intro hm;obtain ⟨t0,t1⟩:=hE.2.2 u (Ko hE hu.fH) t ht
   rcases hOk u hu.fH t ht _ hm with e|e
   ·omega
   ·exact ih e
 have hrow:∀ k,k < bs.length→Sk D k=fy bs k:=by
  intro k hk;obtain ⟨q,hq⟩:=h.fil k;unfold fy;rw [hq];apply List.filter_congr;intro x hx;obtain ⟨x0,xr⟩:=(Ng hE x).1 hx;have hxn:((x.toNat:Nat):Int)=x:=Int.toNat_of_nonneg x0
  have hiff:q x=true ↔ Dom (Th bs) x.toNat k:=by
   constructor
   ·intro hqx;have hm:x ∈ Sk D k:=by rw [hq];exact List.mem_filter.2 ⟨hx,hqx⟩
    have hk2:Ym (Th bs) k:=Classical.byContradiction fun hn=>by rw [h.unr k hn] at hm;cases hm
    refine ⟨xr,hk2,fun hr=>key _ _ hr ?_⟩;rw [hxn];exact hm
   ·intro hd;have:=h.dom _ _ hd;rw [hxn,hq] at this;exact (List.mem_filter.1 this).2
  by_cases hd:Dom (Th bs) x.toNat k
  ·rw [hiff.2 hd];exact (@decide_eq_true _ (Classical.propDecidable _) hd).symm
  ·refine Eq.trans ?_ (@decide_eq_false _ (Classical.propDecidable _) hd).symm;cases hqx:q x with
   | false=>rfl
   | true=>exact absurd (hiff.1 hqx) hd
 unfold tj;apply List.ext_getElem
 ·rw [List.length_map,List.length_range];exact h.len
 ·intro k h1 h2;rw [List.getElem_map,List.getElem_range,← hrow k (by rw [← h.len];exact h1)];simp [Sk,List.getD_eq_getElem?_getD,h1]
noncomputable def CE (bs:List jf) (i:Nat) (D:List (List Int)):Prop:=D.length=bs.length∧∀ k,Sk D k=if (k:Int) ∈ (Wc bs).take i then Wc bs else []
theorem CE.start (bs:List jf):CE bs 0 (List.replicate bs.length []):=by
 refine ⟨by simp,fun k=>?_⟩;unfold Sk;rw [List.getD_eq_getElem?_getD,List.getElem?_replicate]
 by_cases h:k < bs.length
 ·rw [if_pos h];simp
 ·rw [if_neg h];simp
theorem CE.next {i:Nat} (h:CE bs i D) (hE:Pf bs) (hi:i < (Wc bs).length):CE bs (i + 1) (D.set ((Wc bs)[i]).toNat (Wc bs)):=by
 obtain ⟨x0,xr⟩:=(Ng hE _).1 (List.getElem_mem hi);have hl:=Ko hE xr;refine ⟨by rw [List.length_set];exact h.1,fun k=>?_⟩;rw [Im (by rw [h.1];exact hl),h.2 k,List.take_succ_eq_append_getElem hi]
 by_cases e:((Wc bs)[i]).toNat=k
 ·rw [if_pos e,if_pos (by rw [List.mem_append,List.mem_singleton];right;omega)]
 ·rw [if_neg e]
  have:(k:Int) ∈ (Wc bs).take i ++ [(Wc bs)[i]] ↔ (k:Int) ∈ (Wc bs).take i:=by
   rw [List.mem_append,List.mem_singleton]
   constructor
   ·rintro (h|h)
    ·exact h
    ·omega
   ·exact Or.inl
  by_cases hm:(k:Int) ∈ (Wc bs).take i
  ·rw [if_pos hm,if_pos (this.2 hm)]
  ·rw [if_neg hm,if_neg (fun h=>hm (this.1 h))]
theorem kH (hE:Pf bs):(0:Int) ∈ Wc bs:=(Ng hE 0).2 ⟨by omega,Ym.zero⟩
theorem CE.go (h:CE bs (Wc bs).length D) (hE:Pf bs):fV bs (D.set 0 [0]):=by
 have hD:∀ k,Sk D k=if (k:Int) ∈ Wc bs then Wc bs else []:=fun k=>by rw [h.2 k,List.take_length]
 have h0:0 < D.length:=by rw [h.1];exact hE.1
 have hz:[0]=(Wc bs).filter fun x=>decide (x=0):=by
  refine QH _ _ (by simp) ((Gw bs).filter _) (fun x=>?_);rw [List.mem_singleton,List.mem_filter,decide_eq_true_eq]
  constructor
  ·rintro rfl;exact ⟨kH hE,rfl⟩
  ·exact fun h=>h.2
 have hmem:∀ k:Nat,(k:Int) ∈ Wc bs ↔ Ym (Th bs) k:=fun k=>by
  rw [Ng hE,Int.toNat_natCast];exact ⟨fun h=>h.2,fun h=>⟨by omega,h⟩⟩
 refine ⟨by rw [List.length_set];exact h.1,fun k=>?_,fun k hk=>?_,fun i k hik=>?_,?_⟩
 ·rw [Im h0]
  by_cases e:0=k
  ·rw [if_pos e];exact ⟨_,hz⟩
  ·rw [if_neg e,hD]
   by_cases hm:(k:Int) ∈ Wc bs
   ·rw [if_pos hm];exact ⟨fun _=>true,(List.filter_eq_self.2 (fun _ _=>rfl)).symm⟩
   ·rw [if_neg hm];exact ⟨fun _=>false,(List.filter_eq_nil_iff.2 (fun _ _=>by simp)).symm⟩
 ·rw [Im h0]
  by_cases e:0=k
  ·subst e;exact absurd Ym.zero hk
  ·rw [if_neg e,hD,if_neg (fun hm=>hk ((hmem k).1 hm))]
 ·rw [Im h0]
  by_cases e:0=k
  ·rw [if_pos e];subst e;rw [hik.at0];simp
  ·rw [if_neg e,hD,if_pos ((hmem k).2 hik.2.1)];exact (hmem i).2 hik.1
 ·rw [Im h0,if_pos rfl]
theorem EA (bs:List jf):(tj bs).length=bs.length:=by simp [tj]
theorem oG (bs:List jf) (k:Nat):(fy bs k).length ≤ bs.length:=Nat.le_trans (List.length_filter_le _ _) (jl bs)
end
end Go.Proofs.Ytoomcmaifgkkfaa.P
end
section
namespace Go.Proofs.Ytoomcmaifgkkfaa.P
open Go.RowKit Go.Proofs.Ia.Qb Go.Proofs.Ia.Dd Go.Proofs.Ia.ze
set_option linter.unusedVariables false
set_option linter.unusedSimpArgs false
attribute [local go_sem] Eh Ch Ji Ii Jg Ig Dh Bh
theorem gaa (d:Nat) (w:World) (x0 y0:Int) (x1 y1:Int) (x2 y2:Int) (x3 y3:Int) (x4 y4:Int) :
  (Op.equalIn (d + 2) 67 (.agg #[.int .i64 x0,.int .i64 x1,.int .i64 x2,.int .i64 x3,.int .i64 x4]) (.agg #[.int .i64 y0,.int .i64 y1,.int .i64 y2,.int .i64 y3,.int .i64 y4])).run Try.prog w = .ok (x0 == y0 && (x1 == y1 && (x2 == y2 && (x3 == y3 && (x4 == y4))))) w:=by
 refine vP Try.underlying67 (by kernel_rfl) ?_;refine wj (by rfl) (by go_simp;rfl) (by go_simp;rfl) (by go_simp) ?_;refine wj (by rfl) (by go_simp;rfl) (by go_simp;rfl) (by go_simp) ?_;refine wj (by rfl) (by go_simp;rfl) (by go_simp;rfl) (by go_simp) ?_;refine wj (by rfl) (by go_simp;rfl) (by go_simp;rfl) (by go_simp) ?_;exact mG (by rfl) (by go_simp;rfl) (by go_simp;rfl) (by go_simp)
theorem Gz (l:List Int) (a:Int) (hl:l.length ≤ 9223372036854775807):∃ k r,Kb.f k l a=some r∧(r ≥ 0 ↔ a ∈ l):=by
 have key:∀ d i:Nat,i + d=l.length→∃ k r,Kb.l0 k l a (l.length:Int) (i:Int)=some r∧(r ≥ 0 ↔ a ∈ l.drop i):=by
  intro d
  induction d with
  | zero =>
   intro i hi;refine ⟨1,-1,?_,?_⟩
   ·rw [Kb.l0,if_neg (by omega)]
   ·rw [List.drop_of_length_le (by omega)];simp
  | succ d ih =>
   intro i hi;obtain ⟨k,r,h1,h2⟩:=ih (i + 1) (by omega);have hlt:i < l.length:=by omega
   have hr:rd l (i:Int)=l[i]:=by simp [rd,List.getD_eq_getElem?_getD,hlt]
   by_cases e:a=l[i]
   ·refine ⟨k + 1,i,?_,?_⟩
    ·rw [Kb.l0,if_pos (by omega),if_pos (by omega),if_pos (by omega),hr,if_pos e]
    ·rw [List.drop_eq_getElem_cons hlt,e];exact ⟨fun _=>List.mem_cons_self,fun _=>by omega⟩
   ·refine ⟨k + 1,r,?_,?_⟩
    ·rw [Kb.l0,if_pos (by omega),if_pos (by omega),if_pos (by omega),hr,if_neg e,show wrap64 ((i:Int) + 1)=((i + 1:Nat):Int) from by unfold wrap64;omega,h1]
    ·rw [List.drop_eq_getElem_cons hlt,h2,List.mem_cons];exact ⟨Or.inr,fun h=>h.resolve_left e⟩
 obtain ⟨k,r,h1,h2⟩:=key l.length 0 (by omega);exact ⟨k,r,h1,by simpa using h2⟩
theorem iE (A0:Option Addr) (c0:Nat) (l0:List Int) (a1:Int) (w:World) (aj:Kd.C (Kd.int .i64) w A0 l0.length l0) (hc0:l0.length ≤ c0) :
  Calls Try.prog 83 #[.slice A0 l0.length c0,.int .i64 a1] w fun e w'=>e = .returned (.bool (decide (a1 ∈ l0)))∧tc w w':=by
 obtain ⟨k,r,h1,h2⟩:=Gz l0 a1 aj.2.1
 have h:Cc.f k l0 a1=some (decide (a1 ∈ l0)):=by
  unfold Cc.f;rw [h1];exact congrArg some (decide_eq_decide.2 h2)
 exact Cc.calls k A0 c0 l0 a1 _ w aj hc0 h
def PP (w:World) (N p r q:Nat) (im m:Array Value) (v0:Value) (s0:List Int) (v4:Value) (gs:List Int) (W:World):Prop :=
 Below w.heap.size w W∧W.heap[p]? = some (.cells im 30 (0,0))∧W.heap[r]? = some (.cells #[.slice none 0 0,.int .i64 0,.int .i64 0,.slice none 0 0] 30 (0,0))∧W.heap[q]? = some (.cells m 30 (0,0)) ∧
 Kd.R (Kd.int .i64) 3 W w.heap.size (fun k=>k < N) v0 s0∧Kd.R (Kd.int .i64) 3 W w.heap.size (fun k=>k < N) v4 gs∧(w.heap.size ≤ q∧w.heap.size ≤ r∧p < N∧q < N∧r < N∧p ≠ q∧r ≠ q∧w.heap.size ≤ N∧N ≤ W.heap.size)
section
variable {w W W':World} {N p r q:Nat} {im m:Array Value} {v0 v4:Value} {s0 gs:List Int}
theorem PP.up (h:PP w N p r q im m v0 s0 v4 gs W) (hb:Below w.heap.size w W') (hk:Kept W W' (fun k=>N ≤ k)):PP w N p r q im m v0 s0 v4 gs W':=by
 obtain ⟨h1,h2,h3,h4,h5,h6,b1,b2,b3,b4,b5,b6,b7,b8,b9⟩:=h;exact ⟨hb,Ih h2 hk (by omega),Ih h3 hk (by omega),Ih h4 hk (by omega),Kd.Jr h5 hk (fun k a b=>by omega),Kd.Jr h6 hk (fun k a b=>by omega),b1,b2,b3,b4,b5,b6,b7,b8,Nat.le_trans b9 hk.1⟩
theorem PP.below (h:PP w N p r q im m v0 s0 v4 gs W) (hb:Below W.heap.size W W'):PP w N p r q im m v0 s0 v4 gs W':=h.up (Ra h.1 hb) (Kept.Sm hb _)
theorem PP.alloc (h:PP w N p r q im m v0 s0 v4 gs W) (o:Obj):PP w N p r q im m v0 s0 v4 gs (W.alloc o):=h.below (oa (Below.refl _ _) o)
theorem PP.grown {row:Option Nat} (h:PP w N p r q im m v0 s0 v4 gs W) (hg:W.grownBy W' row) (hr:∀ k,row=some k→N ≤ k):PP w N p r q im m v0 s0 v4 gs W' :=
 h.up (Xq h.1 row h.1.size hg (fun k e=>Nat.le_trans h.2.2.2.2.2.2.2.2.2.2.2.2.2.1 (hr k e))) (Kept.ng hg (Kept.refl _ _) (fun k e=>Or.inl (hr k e)))
theorem PP.set (h:PP w N p r q im m v0 s0 v4 gs W) (j:Nat) (u:Value):PP w N p r q im (m.setIfInBounds j u) v0 s0 v4 gs (W.setCell ⟨q,j,none⟩ u):=by
 obtain ⟨h1,h2,h3,h4,h5,h6,b1,b2,b3,b4,b5,b6,b7,b8,b9⟩:=h;exact ⟨h1.setCell b1 _,Je h2 b6 u,Je h3 b7 u,pE h4 j u,Kd.VW h5 h4 (by decide) j u,Kd.VW h6 h4 (by decide) j u,b1,b2,b3,b4,b5,b6,b7,b8,by simpa using b9⟩
end
attribute [local go_sem high] gaa
end Go.Proofs.Ytoomcmaifgkkfaa.P
end
section
namespace Go.Proofs.Ytoomcmaifgkkfaa.P
open Go.RowKit Go.Proofs.Ia.Qb Go.Proofs.Ia.Dd Go.Proofs.Ia.ze
set_option linter.unusedVariables false
set_option linter.unusedSimpArgs false
theorem UM {W1 W:World} {base g n cap i:Nat} {P:Nat→Prop} {D:List (List Int)} {v:Value} {xs:List Int}
  (h:Kd.S (Kd.slice 3 (Kd.int .i64)) 22 W1 base P (.slice (some ⟨g,0,none⟩) n cap) D) (hb:Below W1.heap.size W1 W) (hi:i < n)
  (hx:Kd.R (Kd.int .i64) 3 W base (fun k=>P k∧W1.heap.size ≤ k) v xs) :
  Kd.S (Kd.slice 3 (Kd.int .i64)) 22 (W.setCell ⟨g,i,none⟩ v) base P (.slice (some ⟨g,0,none⟩) n cap) (D.set i xs)∧W.grownBy (W.setCell ⟨g,i,none⟩ v) (some g):=by
 obtain ⟨Mm,c,vA,hM,cy,wW,aC,hH⟩:=Kd.zx h ([]:List Int) (i:Int) (by omega) (by omega);have hH2:=Kd.oV (Kd.OL hH) hb;have J_:c.length=1:=vA
 obtain ⟨u,rfl⟩:∃ u,c=[u]:=by
  rcases c with _|⟨u,_|⟨u2,c⟩⟩
  ·simp at J_
  ·exact ⟨u,rfl⟩
  ·simp at J_
 have hs:=Kd.U0 (d:=Kd.slice 3 (Kd.int .i64)) hH2 (by omega) (by omega) (seg:=[v]) (j:=0) (show 0 + 1 ≤ 1 from by decide) (x':=xs) (Ah:=fun k=>P k∧W1.heap.size ≤ k) (show (Kd.slice 3 (Kd.int .i64)).M W base (fun k=>P k∧W1.heap.size ≤ k) xs [v] from ⟨v,rfl,hx⟩) (fun k hk=>Or.inr hk);rw [Int.toNat_natCast,show i * (Kd.slice 3 (Kd.int .i64)).sz + 0=i from by show i * 1 + 0=i;omega] at hs;exact hs
theorem JG {W:World} {base g n cap i:Nat} {P:Nat→Prop} {D:List (List Int)} (h:Kd.S (Kd.slice 3 (Kd.int .i64)) 22 W base P (.slice (some ⟨g,0,none⟩) n cap) D) (hi:i < n) :
  ∃ (A:Option Addr) (c:Nat),W.cell? ⟨g,i,none⟩=some (.slice A (Sk D i).length c)∧W.frozen? ⟨g,i,none⟩=false∧(Sk D i).length ≤ c∧Kd.C (Kd.int .i64) W A (Sk D i).length (Sk D i):=by
 obtain ⟨Mm,c,vA,hM,cy,wW,aC,hH⟩:=Kd.zx h ([]:List Int) (i:Int) (by omega) (by omega);rw [Int.toNat_natCast] at hM cy wW;obtain ⟨A,cc,hc,hl,hC⟩:=Kd.Jf _ hM;have h1:=cy 0 _ (by rw [hc];rfl);have h2:=wW 0;rw [show i * (Kd.slice 3 (Kd.int .i64)).sz + 0=i from by show i * 1 + 0=i;omega] at h1 h2;exact ⟨A,cc,h1,h2,hl,hC⟩
structure yA (w wA:World) (b4 g cap n:Nat) (D:List (List Int)) (wr:World):Prop where
 bl:Below w.heap.size w wr
 k:Kept wA wr (fun k=>k=g)
 v:wr.heap[b4]? = some (.cells #[.slice (some ⟨g,0,none⟩) n cap] 53 (0,0))
 row:Kd.S (Kd.slice 3 (Kd.int .i64)) 22 wr w.heap.size (fun k=>k ≠ b4) (.slice (some ⟨g,0,none⟩) n cap) D
 ne:b4 ≠ g
 gb:w.heap.size ≤ g
section
variable {w wA wr W:World} {b4 g cap n:Nat} {D:List (List Int)}
theorem yA.below (h:yA w wA b4 g cap n D wr) (hb:Below wr.heap.size wr W):yA w wA b4 g cap n D W :=
 ⟨Ra h.bl hb,h.k.below hb,Va h.v hb,Kd.Rj h.row hb,h.ne,h.gb⟩
theorem yA.put (h:yA w wA b4 g cap n D wr) (hb:Below wr.heap.size wr W) {i:Nat} (hi:i < n) {v:Value} {xs:List Int} (hx:Kd.R (Kd.int .i64) 3 W w.heap.size (fun k=>k ≠ b4∧wr.heap.size ≤ k) v xs):yA w wA b4 g cap n (D.set i xs) (W.setCell ⟨g,i,none⟩ v):=by
 obtain ⟨h1,h2⟩:=UM h.row hb hi hx;have hw:=h.below hb
 exact ⟨hw.bl.grown h2 hw.bl.size (fun k e=>by injection e with e;rw [← e];exact h.gb),Kept.ng h2 hw.k (fun k e=>Or.inl (by injection e with e;exact e.symm)),
  (Below.heap_setCell W ⟨g,i,none⟩ v b4 hw.ne).trans hw.v,h1,hw.ne,hw.gb⟩
theorem yA.cell (h:yA w wA b4 g cap n D wr):wr.cell? ⟨b4,0,none⟩=some (.slice (some ⟨g,0,none⟩) n cap):=(ja h.v 0).trans rfl
theorem yA.at (h:yA w wA b4 g cap n D wr) {i:Nat} (hi:i < n):∃ (A:Option Addr) (c:Nat),wr.cell? ⟨g,i,none⟩=some (.slice A (Sk D i).length c)∧wr.frozen? ⟨g,i,none⟩=false∧(Sk D i).length ≤ c∧Kd.C (Kd.int .i64) wr A (Sk D i).length (Sk D i):=JG h.row hi
theorem yA.glt (h:yA w wA b4 g cap n D wr):g < wr.heap.size:=Kd.kao h.row g rfl
theorem yA.blt (h:yA w wA b4 g cap n D wr):b4 < wr.heap.size:=Pc h.v
end
theorem xH (CN b4 q9 g n cap b t:Nat) (D:List (List Int)) (A:Option Addr) (c:Nat) (r:Int) (W:World) (fN:b < n)
  (h11:W.cell? ⟨CN,0,none⟩=some (.int .i64 t)) (h4:W.cell? ⟨b4,0,none⟩=some (.slice (some ⟨g,0,none⟩) n cap)) (h9:W.cell? ⟨q9,0,none⟩=some (.int .i64 b))
  (hr:W.cell? ⟨g,b,none⟩=some (.slice A (Sk D b).length c)) (hl:(Sk D b).length ≤ c) (hC:Kd.C (Kd.int .i64) W A (Sk D b).length (Sk D b)) :
  Calls Try.prog 109 (#[.int .i64 r] ++ #[.pointer (some ⟨CN,0,none⟩),.pointer (some ⟨b4,0,none⟩),.pointer (some ⟨q9,0,none⟩)]) W fun e w'=>e = .returned (.bool (cw D b t r))∧Below W.heap.size W w':=by
 have HC:=ga.mk (iE A c (Sk D b) r W hC hl);have p0:0 ≤ (b:Int):=by omega
 have p1:(b:Int) < (n:Int):=by omega
 clear hC hl
 by_cases h:r=(t:Int)
 ·have hb:(r != (t:Int))=false:=by rw [h];exact bne_self_eq_false' (t:Int)
  have HD:=ga.mk (show cw D b t r=false from if_pos h);clear h;go_enter Try.func109,Try.ntmps109;go_wp2_with (first|(go_at_call 83;(refine HC.out.mono ?_);rintro e eH ⟨rfl,⟨⟨nd,rfl⟩⟩⟩));go_ret;exact ⟨by rw [HD.out];rfl,Below.refl _ _⟩
 ·have hb:(r != (t:Int))=true:=bne_iff_ne.2 h;have HD:=ga.mk (show cw D b t r = !decide (r ∈ Sk D b) from if_neg h);clear h;go_enter Try.func109,Try.ntmps109;go_wp2_with (first|(go_at_call 83;(refine HC.out.mono ?_);rintro e eH ⟨rfl,⟨⟨nd,rfl⟩⟩⟩));go_ret;exact ⟨by rw [HD.out];rfl,ia (Below.refl _ _) _⟩
end Go.Proofs.Ytoomcmaifgkkfaa.P
end
section
namespace Go.Proofs.Ytoomcmaifgkkfaa.P
open Go.RowKit Go.Proofs.Ia.Qb Go.Proofs.Ia.Dd Go.Proofs.Ia.ze
set_option linter.unusedVariables false
set_option linter.unusedSimpArgs false
noncomputable def qg.f (Oa:List Int) (Ka:Int) (Pa:Int) (Ja:Int) (Ga:List (jf)):Option (List (List Int)):=open Classical in if Pf Ga then some (tj Ga) else none
noncomputable def SoE (bs:List jf) (D:List (List Int)) (i:Nat):Prop:=∀ b ∈ (Wc bs).take i,∀ t ∈ Th bs b.toNat,OkE D b.toNat t.toNat
def SoJ (D:List (List Int)) (b:Nat) (ts:List Int) (j:Nat):Prop:=∀ t ∈ ts.take j,OkE D b t.toNat
theorem SoE.next {bs:List jf} {D:List (List Int)} {i:Nat} (h:SoE bs D i) (hi:i < (Wc bs).length) (hj:SoJ D ((Wc bs)[i]).toNat (Th bs ((Wc bs)[i]).toNat) (Th bs ((Wc bs)[i]).toNat).length):SoE bs D (i + 1):=by
 intro b hb t ht;rw [List.take_succ_eq_append_getElem hi,List.mem_append,List.mem_singleton] at hb
 rcases hb with hb|hb
 ·exact h b hb t ht
 ·subst hb;exact hj t (by rw [List.take_length];exact ht)
theorem SoJ.next {D:List (List Int)} {b:Nat} {ts:List Int} {j:Nat} (h:SoJ D b ts j) (hj:j < ts.length) (ho:OkE D b (ts[j]).toNat):SoJ D b ts (j + 1):=by
 intro t ht;rw [List.take_succ_eq_append_getElem hj,List.mem_append,List.mem_singleton] at ht
 rcases ht with ht|ht
 ·exact h t ht
 ·subst ht;exact ho
structure Y0 (bs:List jf) (D:List (List Int)) (m:Nat) (a:Bool) (i:Nat):Prop where
 inv:fV bs D
 le:Xx D ≤ m
 lt:a=true→Xx D < m
 so:a=false→SoE bs D i
theorem Y0.keep {bs:List jf} {D:List (List Int)} {m:Nat} {a:Bool} {i:Nat} (h:Y0 bs D m a i) (hE:Pf bs) (hi:i < (Wc bs).length) {t:Int} (ht:t ∈ Th bs ((Wc bs)[i]).toNat)
  (hlt:(Rk D ((Wc bs)[i]).toNat t.toNat).length < (Sk D t.toNat).length):Y0 bs (D.set t.toNat (Rk D ((Wc bs)[i]).toNat t.toNat)) m true i:=by
 obtain ⟨x0,xr⟩:=(Ng hE _).1 (List.getElem_mem hi);obtain ⟨t0,t1⟩:=hE.2.2 _ (Ko hE xr) t ht;have hs:=eF D t.toNat (Rk D ((Wc bs)[i]).toNat t.toNat) (by rw [h.inv.len];omega);have:=h.le;exact ⟨h.inv.step hE xr ht,by omega,fun _=>by omega,fun e=>by cases e⟩
theorem kM {P:Nat→Prop} {w1:World} {base n B:Nat} {v:Value} (h:Kd.S (Kd.slice 3 (Kd.int .i64)) 22 w1 base P v (List.replicate ((n:Int)).toNat [])) (hn:0 < n) (hat:∃ b,v.ownBlock=some b∧B ≤ b) :
  ∃ g cap,v = .slice (some ⟨g,0,none⟩) n cap∧B ≤ g∧g < w1.heap.size∧Kd.S (Kd.slice 3 (Kd.int .i64)) 22 w1 base P (.slice (some ⟨g,0,none⟩) n cap) (List.replicate n []):=by
 rw [Int.toNat_natCast] at h;obtain ⟨g,cap,hv,hb,hl,-⟩:=Kd.vE h (by rw [List.length_replicate];exact hn);rw [List.length_replicate] at hv;obtain ⟨b,h1,h2⟩:=hat;rw [hv] at h1;obtain rfl:g=b:=by simpa [Value.ownBlock] using h1
 exact ⟨g,cap,hv,h2,hl,hv ▸ h⟩
theorem yA.fresh {w wA wd w1:World} {b4 g cap n:Nat} {D:List (List Int)} {ok:Nat→Prop} {v:Value} {xs:List Int} (h:yA w wA b4 g cap n D wd) (ho:Kd.R (Kd.int .i64) 3 w1 wd.heap.size ok v xs):Kd.R (Kd.int .i64) 3 w1 w.heap.size (fun k=>k ≠ b4∧wd.heap.size ≤ k) v xs :=
 Kd.Fe (Kd.Bc (Kd.Yg ho) (fun k hk=>⟨by have:=h.blt;have:=hk.2.1;omega,hk.2.1⟩)) h.bl.size
theorem jF {bs:List jf} (hE:Pf bs) {i:Nat} (hi:i < (Wc bs).length) {A:Option Addr} {W:World} (hC:Kd.C (Kd.int .i64) W A (Wc bs).length (Wc bs)) :
  ∃ (ad:Addr) (b:Nat),A=some ad∧(Wc bs)[i]=(b:Int)∧b < bs.length∧Ym (Th bs) b∧W.cell? (ad.add i)=some (.int .i64 (b:Int)):=by
 obtain ⟨x0,xr⟩:=(Ng hE _).1 (List.getElem_mem hi);obtain ⟨ad,e1,hx⟩:=Kd.qf hC (i:Int) (by omega) (by omega);rw [Int.toNat_natCast,Xk hi] at hx;exact ⟨ad,((Wc bs)[i]).toNat,e1,(Int.toNat_of_nonneg x0).symm,Ko hE xr,xr,by rw [Int.toNat_of_nonneg x0];exact hx⟩
theorem YX {w wA Qk yw:World} {CN b4 q9 g cap n b tn ck:Nat} {D:List (List Int)} {Ak:Option Addr} {ok:Nat→Prop} (h:yA w wA b4 g cap n D Qk) (h11:Qk.heap[CN]? = some (.cells #[.int .i64 (tn:Int)] 3 (0,0))) (h9:Qk.heap[q9]? = some (.cells #[.int .i64 (b:Int)] 3 (0,0)))
  (fN:b < n) (hbd:Below Qk.heap.size Qk yw) (ho:Kd.R (Kd.int .i64) 3 yw Qk.heap.size ok (.slice Ak (Sk D tn).length ck) (Sk D tn)) :
  Calls Try.prog 74 #[.slice Ak (Sk D tn).length ck,.func (.func 109) #[] #[.pointer (some ⟨CN,0,none⟩),.pointer (some ⟨b4,0,none⟩),.pointer (some ⟨q9,0,none⟩)]] yw fun e w'=>e = .returned (.slice Ak (Rk D b tn).length ck)∧Kd.R (Kd.int .i64) 3 w' Qk.heap.size (fun _=>True) (.slice Ak (Rk D b tn).length ck) (Rk D b tn)∧Below Qk.heap.size Qk w':=by
 have hown:∀ k,(Value.slice Ak (Sk D tn).length ck).ownBlock=some k→Qk.heap.size ≤ k:=Kd.xh ho;have R4:=Kd.iab h.row hbd;refine (pG 109 #[.pointer (some ⟨CN,0,none⟩),.pointer (some ⟨b4,0,none⟩),.pointer (some ⟨q9,0,none⟩)] (cw D b tn) (enters_of Try.func109 (by kernel_rfl) rfl) (fun k=>some k=(Value.slice Ak (Sk D tn).length ck).ownBlock) Ak ck (Sk D tn) Qk.heap.size Qk yw hbd hbd.size (Kd.Et rfl ho) (fun W x hk=>?_)).mono ?_
 ·have dal:=Kd.TI R4 hk (fun k hk e=>by have:=hown k e.symm;have:=hk.2;omega);obtain ⟨A,c,hc,-,hl,hC⟩:=JG dal fN;have hne:∀ q,q < Qk.heap.size→¬ some q=(Value.slice Ak (Sk D tn).length ck).ownBlock:=fun q hq e=>by have:=hown q e.symm;omega
  exact xH CN b4 q9 g n cap b tn D A c x W fN
   ((ja (Ih (Va h11 hbd) hk (hne _ (Pc h11))) 0).trans rfl) ((ja (Ih (Va h.v hbd) hk (hne _ h.blt)) 0).trans rfl) ((ja (Ih (Va h9 hbd) hk (hne _ (Pc h9))) 0).trans rfl) hc hl hC
 ·rintro e w' ⟨he,hr,hb,-⟩;exact ⟨he,Kd.Bc hr (fun _ _=>trivial),hb⟩
theorem lR {bs:List jf} {D:List (List Int)} (h:fV bs D) (hn:bs.length ≤ 1048576) (k:Nat):(Sk D k).length ≤ 1048576:=by
 obtain ⟨q,hq⟩:=h.fil k;rw [hq];exact Nat.le_trans (List.length_filter_le _ _) (Nat.le_trans (jl bs) hn)
theorem FR {bs:List jf} (hE:Pf bs) {b j:Nat} (hb:b < bs.length) (hj:j < (Th bs b).length) {A:Option Addr} {W:World} (hC:Kd.C (Kd.int .i64) W A (Th bs b).length (Th bs b)) :
  ∃ (ad:Addr) (t:Nat),A=some ad∧(Th bs b)[j]=(t:Int)∧t < bs.length∧W.cell? (ad.add j)=some (.int .i64 (t:Int)):=by
 obtain ⟨t0,t1⟩:=hE.2.2 b hb _ (List.getElem_mem hj);obtain ⟨ad,e1,hx⟩:=Kd.qf hC (j:Int) (by omega) (by omega);rw [Int.toNat_natCast,Xk hj] at hx;exact ⟨ad,((Th bs b)[j]).toNat,e1,(Int.toNat_of_nonneg t0).symm,by omega,by rw [Int.toNat_of_nonneg t0];exact hx⟩
theorem qg.calls (yb:Option Addr) (xb:Nat) (Oa:List Int) (Ka:Int) (Pa:Int) (Ja:Int) (Rb:Option Addr) (Ib:Nat) (Ga:List (jf)) (r:List (List Int)) (w:World) (fe:Kd.C (Kd.int .i64) w yb Oa.length Oa) (Yd:Oa.length ≤ xb) (Ff:Kd.C Po w Rb Ga.length Ga) (Hf:Ga.length ≤ Ib) (h:qg.f Oa Ka Pa Ja Ga=some r) :
  Calls Try.prog 82 #[.agg #[.slice yb Oa.length xb,.int .i64 Ka,.int .i64 Pa,.int .i64 Ja,.slice Rb Ga.length Ib]] w fun e w'=>∃ Pm:Value,e = .returned (Pm)∧Kd.S (Kd.slice 3 (Kd.int .i64)) 22 w' w.heap.size (fun _=>True) Pm r∧Below w.heap.size w w':=by
 unfold qg.f at h
 by_cases hE:Pf Ga
 case neg=>rw [if_neg hE] at h;cases h
 rw [if_pos hE] at h;obtain rfl:=Option.some.inj h;clear h;obtain ⟨R,hR,hRl,hRa⟩:=sP (l0:=Oa) (p:=Ka) (v:=Pa) (s:=Ja) hE;obtain ⟨ko,hko⟩:=Ev.rounds hR;have HO_:=ga.mk hko
 have HRA:=ga.mk (show Ph.f R=some (Wc Ga) from by
  unfold Ph.f
  rw [if_pos (by have:=hE.2.1;omega),hRa])
 have HE:=ga.mk hE;have hn0:0 < Ga.length:=hE.1;have hn1:Ga.length ≤ 1048576:=hE.2.1;have HML:=ga.mk (jl Ga);have HN:=ga.mk (And.intro hn0 hn1);clear hR hRl hRa hko hE;obtain ⟨W1,Kf⟩:∃ W1,W1=w.alloc (.cells #[.slice yb Oa.length xb,.int .i64 Ka,.int .i64 Pa,.int .i64 Ja,.slice Rb Ga.length Ib] 45 (0,0)):=⟨_,rfl⟩;have HW:=ga.mk Kf;have HB:=ga.mk (show Below w.heap.size w W1 by rw [Kf];exact oa (Below.refl _ _) _);have HX:=ga.mk (show W1.heap[w.heap.size]? = some (.cells #[.slice yb Oa.length xb,.int .i64 Ka,.int .i64 Pa,.int .i64 Ja,.slice Rb Ga.length Ib] 45 (0,0)) by rw [Kf];exact Jm _ _);have Pk:=ga.mk fe;have QE:=ga.mk Ff;have XM:=ga.mk Yd;have WM:=ga.mk Hf;have hx0:=(ja HX.out 0).trans rfl;have hx1:=(ja HX.out 1).trans rfl;have hx2:=(ja HX.out 2).trans rfl;have vu:=(ja HX.out 3).trans rfl;have Uq:=(ja HX.out 4).trans rfl;clear Kf fe Ff Yd Hf hn0 hn1;go_enter Try.func82,Try.ntmps82
 go_upto_region 1 with (fail)
 rw [← HW.out];clear HW
 go_upto_region 2 with (first|(go_at_call 78;(with_reducible refine (Zc.calls ko yb xb Oa Ka Pa Ja Rb Ib Ga R W1 (Kd.Mb Pk.out HB.out) XM.out (Kd.Mb QE.out HB.out) WM.out HO_.out).mono ?_);rintro e w2 ⟨v2,rfl,ho,hb⟩;have yV:=ga.mk ho;have Wo:=ga.mk (Ra HB.out hb);have AQ:=ga.mk hb;have qV:=ga.mk (Va HX.out hb);clear ho hb hx0 hx1 hx2 vu Uq)|(go_at_call 86;(with_reducible refine (Ph.calls (fun _=>True) v2 R (Wc Ga) W1 w2 AQ.out yV.out HRA.out).mono ?_);rintro e w3 ⟨v3,rfl,ho,hb,hk⟩;obtain ⟨Ar,cr,rfl⟩:=Kd.xd ho;have mA:=ga.mk ho;have WG:=ga.mk (Ra HB.out hb);have qQ:=ga.mk (Va HX.out hb);clear ho hb hk))
 have BX:=ga.mk (Kd.Fb mA.out).2.2;have hrl:(Wc Ga).length ≤ 1048576:=Nat.le_trans HML.out HN.out.2;clear mA yV Wo AQ qV HO_ HRA HX HB;have Uq:=(ja qQ.out 4).trans rfl;have HMK:=ga.mk (show ((Ga.length:Int)).toNat * 24 ≤ 281474976710656 from by have:=HN.out;omega);have h0n:(0:Int) ≤ (Ga.length:Int):=by omega
 go_upto_region 3 with (first|((with_reducible refine Db (N:=19) rfl ?_);refine Kd.ZP (Kd.slice 3 (Kd.int .i64)) (w0:=w) w.heap.size 22 rfl (N:=19) rfl 53 _ _ rfl (Ga.length:Int) rfl rfl Try.underlying53 (.slice none 0 0) 24 oY rfl (by decide) (by omega) [] (ok:=fun _=>True) (Ah:=fun _=>True) ⟨_,rfl,Kd.Rx _ _ _ _ _⟩ (fun _ hk=>hk) trivial h0n HMK.out WG.out WG.out.size ?_;intro v4 w4 hs hb hg hat;obtain ⟨g,cap,rfl,hgb,fW,hs⟩:=kM hs HN.out.1 hat;have HS4:=ga.mk hs;have yQ:=ga.mk hb;have xQ:=ga.mk hg;have BV:=ga.mk hgb;have HGL:=ga.mk fW;clear hs hb hg hat hgb fW))
 have M_:Below w3.heap.size w3 w4:=(Below.refl _ w3).grown xQ.out (Nat.le_refl _) (fun k e=>by cases e);have hb5:=oa (Below.refl w4.heap.size w4) (.cells #[.slice (some ⟨g,0,none⟩) Ga.length cap] 53 (0,0));have hv5:=Jm w4 (.cells #[.slice (some ⟨g,0,none⟩) Ga.length cap] 53 (0,0));generalize w4.alloc (.cells #[.slice (some ⟨g,0,none⟩) Ga.length cap] 53 (0,0))=wA at hb5 hv5 ⊢;have HBA:=ga.mk (Ra M_ hb5);have HXA:=ga.mk (Va qQ.out HBA.out);have HBL:=ga.mk (show Below w.heap.size w wA from dA WG.out WG.out.size HBA.out);have HCR:=ga.mk (fun W' hk=>Kd.Mr (S:=fun k=>k=g) (Kd.ni .i64) BX.out HBA.out (fun k e=>e ▸ BV.out) W' hk);have HS:=ga.mk (show yA w wA w4.heap.size g cap Ga.length (List.replicate Ga.length []) wA from ⟨HBL.out,Kept.refl _ _,hv5,Kd.yg (Kd.Rj (Kd.aQ HS4.out w4.heap.size (Nat.le_refl _)) hb5) (fun k hk=>hk.2),by have:=HGL.out;omega,Nat.le_trans WG.out.size BV.out⟩);have HNX:=ga.mk (show w.heap.size ≠ g from by have:=Pc qQ.out;have:=BV.out;omega);have HI:=ga.mk (CE.start Ga);clear M_ hb5 hv5 HS4 yQ xQ HGL qQ BX WG h0n HMK Uq;generalize w4.heap.size=b4 at HS ⊢;go_wp2
 go_loopg [22] (Wc Ga).length (fun gg v22 wr=>∃ (i:Nat) (D:List (List Int)),i ≤ (Wc Ga).length∧(Wc Ga).length - i ≤ gg∧v22 = .int .i64 i∧ga (CE Ga i D)∧ga (yA w wA b4 g cap Ga.length D wr))
 case atStart=>exact ⟨0,_,Nat.zero_le _,by omega,rfl,HI,HS⟩
 case round =>
  clear HI HS;(try clear D);(try clear HI);(try clear HS);obtain ⟨i,D,hi,o6,rfl,HI,HS⟩:=hrel
  by_cases hlt:i < (Wc Ga).length
  ·have bC:decide ((i:Int) < ((Wc Ga).length:Int))=true:=decide_eq_true (by omega);have p1:0 ≤ (i:Int):=by omega
   have p2:(i:Int) < ((Wc Ga).length:Int):=by omega
   obtain ⟨ad,b,e1,hb,fN,hbr,hx⟩:=jF HE.out hlt (HCR.out wr HS.out.k);subst e1;have HNI:=ga.mk (HI.out.next HE.out hlt);rw [hb,Int.toNat_natCast] at HNI;have q1:0 ≤ (b:Int):=by omega
   have q2:(b:Int) < (Ga.length:Int):=by omega
   clear hb hbr
   go_upto_region 6 with (fail)
   have HD:=ga.mk (HS.out.below (Xm (Below.refl wr.heap.size wr)));clear HS HI hx;refine bk (n:=7) (S:=fun w'=>w'.cell? ⟨b4,0,none⟩=some (.slice (some ⟨g,0,none⟩) Ga.length cap)) (ds:=[6]) #[false,false,false,false,false,false,false] (by kernel_rfl) rfl rfl (HD.out.cell) (fun hHeld=>?_);generalize wr.drew=wd at HD hHeld ⊢;refine jd (i:=1) (N:=some 27) (v:=?_) (a':=?_) #[false,true,false,false,false,false,false] rfl rfl (by kernel_rfl) (fun _ _ _ h=>h) (Or.inl ⟨by rfl,?_⟩) ?_ ?_;rotate_left
   ·intro w';go_simp;with_reducible rfl
   rotate_left
   ·simp only [Act.put,List.setIfInBounds_toArray,List.set_cons_zero,List.set_cons_succ,Yb,Zb]
    rfl
   refine jd (i:=3) (N:=some 29) (v:=?_) (a':=?_) #[false,true,false,true,false,false,false] rfl rfl (by kernel_rfl) (fun _ _ _ h=>h) (Or.inl ⟨by rfl,?_⟩) ?_ ?_;rotate_left
   ·intro w';go_simp;with_reducible rfl
   rotate_left
   ·simp only [Act.put,List.setIfInBounds_toArray,List.set_cons_zero,List.set_cons_succ,Yb,Zb]
    rfl
   refine Og (i:=0) (N:=some 26) (v:=?_) (a':=?_) #[true,true,false,true,false,false,false] rfl rfl (by kernel_rfl) (fun _ _ _ h=>h) (Or.inl ⟨by rfl,?_⟩) hHeld ?_ ?_;rotate_left
   ·intro w' s0;go_simp;with_reducible rfl
   rotate_left
   ·simp only [Act.put,List.setIfInBounds_toArray,List.set_cons_zero,List.set_cons_succ,Yb,Zb]
    rfl
   refine Gu (i:=2) (N:=some 28) #[true,true,true,true,false,false,false] rfl rfl (by kernel_rfl) (by decide) (fun K hK=>?_);refine RX (w1:=?_) (v:=?_) (by rfl) rfl ?_ ?_;rotate_left 2
   ·go_simp
    constructor
    ·rfl
    ·rfl
   refine hK.out _ _ ((HD.out.below (oa (Below.refl _ _) _)).cell) (fun hHeld=>?_);clear hK K;refine zn (a':=?_) ?_ ?_;rotate_left
   ·show Act.put _ (some 28) _=_
    simp only [Act.put,List.setIfInBounds_toArray,List.set_cons_zero,List.set_cons_succ,Yb,Zb]
    rfl
   refine Gu (i:=4) (N:=some 30) #[true,true,true,true,true,false,false] rfl rfl (by kernel_rfl) (by decide) (fun K hK=>?_);refine Kd.uu (Kd.int .i64) (w0:=wd) wd.heap.size (by rfl) (.tmp 28) (.tmp 29) 22 3 (.int .i64 0) 8 rfl Try.underlying22 info3 rfl (by decide) (by omega) (.slice (some ⟨wd.heap.size,0,none⟩) 0 0) [] (Wc Ga) (some ad) (Wc Ga).length cr (fun _=>True) (fun _=>False) rfl rfl (xE (Kd.int .i64) 3 wd wd.heap.size (Nat.le_refl _)) ?aR (fun _ _ h=>h) (fun _ hk=>hk.elim) (fun _ _=>trivial) (oa (Below.refl _ _) _) (oa (Below.refl _ _) _).size ?aL ?_
   (case aR=>exact HCR.out _ (HD.out.below (oa (Below.refl _ _) _)).k)
   (case aL=>have:=HML.out;have:=HN.out.2;simp;omega)
   intro v1 w1 ho Ap uA hat;rw [List.nil_append] at ho;clear uA hat;obtain ⟨A1,c1,rfl⟩:=Kd.xd ho;have j4:=ga.mk (HD.out.below Ap);have HP:=ga.mk (HD.out.put Ap fN (HD.out.fresh ho));clear ho Ap;refine hK.out _ _ (j4.out.cell) (fun hHeld=>?_);clear hK K;refine zn (a':=?_) ?_ ?_;rotate_left
   ·show Act.put _ (some 30) _=_
    simp only [Act.put,List.setIfInBounds_toArray,List.set_cons_zero,List.set_cons_succ,Yb,Zb]
    rfl
   refine jd (i:=5) (N:=some 31) (v:=?_) (a':=?_) #[true,true,true,true,true,true,false] rfl rfl (by kernel_rfl) (fun _ _ _ h=>h) (Or.inl ⟨by rfl,?_⟩) ?_ ?_;rotate_left
   ·intro w';go_simp;with_reducible rfl
   rotate_left
   ·simp only [Act.put,List.setIfInBounds_toArray,List.set_cons_zero,List.set_cons_succ,Yb,Zb]
    rfl
   refine VN (i:=6) (N:=none) #[true,true,true,true,true,true,true] rfl rfl (by kernel_rfl) (by decide) (fun K hK=>?_);obtain ⟨Ao,co,hc,hf,-,-⟩:=j4.out.at fN;refine uN (w1:=?_) (by rfl) rfl ?_ ?_;rotate_left
   ·go_simp
    rfl
   refine hK.out _ _ ?_;clear hK K;refine uo (by kernel_rfl) ?_;clear hHeld;go_wp2
   go_roundg ((Wc Ga).length - (i + 1))
   case measure=>omega
   case rel=>exact ⟨i + 1,_,by omega,by omega,by go_num,HNI,HP⟩
  ·have bC:decide ((i:Int) < ((Wc Ga).length:Int))=false:=decide_eq_false (by omega);obtain rfl:i=(Wc Ga).length:=by omega
   have fX:=ga.mk (HI.out.go HE.out);have hv:=HS.out.cell;obtain ⟨A0,c0,DM,M8,-,-⟩:=HS.out.at (i:=0) HN.out.1;have q0:(0:Int) < (Ga.length:Int):=by have:=HN.out.1;omega
   have s1:=HS.out.glt;have s2:=HS.out.blt;have hp:=HS.out.put (oa (Below.refl _ _) (.cells #[.int .i64 0] 3 (0,0))) HN.out.1 (HS.out.fresh (lab wr wr.heap.size 0 (Nat.le_refl _)));rw [World.setCell_alloc_past _ _ _ _ s1] at hp;have HP:=ga.mk hp;clear hp
   go_upto_region 9 with (fail)
   clear HI HS hv DM M8 s1 s2 q0 bC hlt o6 hi;generalize (wr.setCell ⟨g,0,none⟩ (.slice (some ⟨wr.heap.size,0,none⟩) 1 1)).alloc (.cells #[.int .i64 0] 3 (0,0))=w8 at HP ⊢;generalize D.set 0 [0]=D at fX HP;go_wp2
   go_loopg [7] (Xx D + 1) (fun gg v7 wr=>∃ (D:List (List Int)) (a:Bool),v7 = .bool a∧Xx D + (if a=true then 1 else 0) ≤ gg∧ga (fV Ga D)∧ga (a=false→SoE Ga D (Wc Ga).length)∧ga (yA w wA b4 g cap Ga.length D wr))
   case atStart=>exact ⟨_,true,rfl,by simp,fX,⟨fun e=>by cases e⟩,HP⟩
   case round =>
    clear fX HP;(try clear D);(try clear fX);(try clear U1);(try clear HS);obtain ⟨D,a,rfl,o6,fX,U1,HS⟩:=hrel;cases a with
    | false =>
     have HDE:=ga.mk (fX.out.done HE.out (fun b hb t ht=>by
      have h:=U1.out rfl (b:Int) (by rw [List.take_length];exact (Ng HE.out _).2 ⟨by omega,by rw [Int.toNat_natCast];exact hb⟩) t (by rw [Int.toNat_natCast];exact ht)
      rwa [Int.toNat_natCast] at h))
     have hv:=HS.out.cell;go_wp2;go_ret;exact ⟨_,rfl,by rw [← HDE.out];exact Kd.yg HS.out.row (fun _ _=>trivial),HS.out.bl⟩
    | true =>
     have n6:=o6;rw [if_pos rfl] at n6;have HJ:=ga.mk (show Y0 Ga D (Xx D) false 0 from ⟨fX.out,Nat.le_refl _,(fun e=>by cases e),(fun _ b hb=>by simp at hb)⟩);clear fX U1 o6;generalize Xx D=m0 at HJ n6;go_wp2
     go_loopg [7,39] (Wc Ga).length (fun g3 v7 v39 wr=>∃ (i:Nat) (D:List (List Int)) (a:Bool),v7 = .bool a∧v39 = .int .i64 i∧i ≤ (Wc Ga).length∧(Wc Ga).length - i ≤ g3∧ga (Y0 Ga D m0 a i)∧ga (yA w wA b4 g cap Ga.length D wr))
     case atStart=>exact ⟨0,_,false,rfl,rfl,Nat.zero_le _,by omega,HJ,HS⟩
     case round =>
      clear HJ HS;(try clear D);(try clear HJ);(try clear HS);obtain ⟨i,D,a,rfl,rfl,hi,iH,HJ,HS⟩:=hrel
      by_cases hlt:i < (Wc Ga).length
      ·have bC:decide ((i:Int) < ((Wc Ga).length:Int))=true:=decide_eq_true (by omega);have p1:0 ≤ (i:Int):=by omega
       have p2:(i:Int) < ((Wc Ga).length:Int):=by omega
       obtain ⟨ad,b,e1,hb,fN,hbr,hx⟩:=jF HE.out hlt (HCR.out wr HS.out.k);subst e1;have HRB:=ga.mk hb;clear hb hbr
       go_upto_region 15 with (fail)
       have hb9:=oa (Below.refl wr.heap.size wr) (.cells #[.int .i64 (b:Int)] 3 (0,0));have hv9:=Jm wr (.cells #[.int .i64 (b:Int)] 3 (0,0));generalize wr.alloc (.cells #[.int .i64 (b:Int)] 3 (0,0))=w9 at hb9 hv9 ⊢;have HS9:=ga.mk (HS.out.below hb9);have HQ9:=ga.mk hv9;have HN9:=ga.mk (show wr.heap.size ≠ g from by have:=HS.out.glt;omega);clear hb9 hv9 HS hx;generalize wr.heap.size=q9 at HQ9 HN9 ⊢;have hq9:=(ja HQ9.out 0).trans rfl;have Uq:=(ja (Ih HXA.out HS9.out.k HNX.out) 4).trans rfl;obtain ⟨ag,Ac,cc,e1,hc0,hc1,jH,TQ,hc4,vA,hcC⟩:=Tj (Kd.Mb QE.out HS9.out.bl) (b:Int) (by omega) (by omega);subst e1;simp only [Int.toNat_natCast] at hc0 hc1 jH TQ hc4;have q1:0 ≤ (b:Int):=by omega
       have q2:(b:Int) < (Ga.length:Int):=by omega
       have zao:=ga.mk (show Wf.f (Sa Ga (b:Int)).f0 (Sa Ga (b:Int)).f1 (Sa Ga (b:Int)).f2 (Sa Ga (b:Int)).f3 (Sa Ga (b:Int)).f4=some (Th Ga b) from fB _);have HCC:=ga.mk hcC;have HCL:=ga.mk vA;clear hcC vA;have htl:(Th Ga b).length ≤ 2:=Br _;go_wp2_with (first|(go_at_call 75;(with_reducible refine (Wf.calls Ac cc (Sa Ga (b:Int)).f0 (Sa Ga (b:Int)).f1 (Sa Ga (b:Int)).f2 (Sa Ga (b:Int)).f3 (Sa Ga (b:Int)).f4 (Th Ga b) w9 HCC.out HCL.out zao.out).mono ?_);rintro e Xo ⟨v15,rfl,ho,hb⟩;obtain ⟨An,cn,rfl⟩:=Kd.xd ho;have dac:=ga.mk ho;have YG:=ga.mk hb;clear ho hb hc0 hc1 jH TQ hc4 Uq hq9));have Tab:=ga.mk (HS9.out.below YG.out);have xao:=ga.mk (Va HQ9.out YG.out);have yX:=ga.mk HS9.out.glt;have HNC:=ga.mk (fun W' hk=>Kd.qA (S:=fun k=>k=g) (Kd.Bc (Kd.Yg dac.out) (fun k hk=>hk.2.1)) (fun k hk e=>by have:=yX.out;omega) W' hk);have HNE:=ga.mk (rfl:Th Ga b=Th Ga b);clear HS9 dac YG HCC HCL HQ9
       go_loopg [7,50] (Th Ga b).length (fun g4 v7 v50 wr=>∃ (j:Nat) (D:List (List Int)) (a:Bool),v7 = .bool a∧v50 = .int .i64 j∧j ≤ (Th Ga b).length∧(Th Ga b).length - j ≤ g4∧ga (Y0 Ga D m0 a i)∧ga (a=false→SoJ D b (Th Ga b) j)∧ga (yA w wA b4 g cap Ga.length D wr)∧ga (Kept Xo wr (fun k=>k=g)))
       case atStart=>exact ⟨0,_,_,rfl,rfl,Nat.zero_le _,by omega,HJ,⟨fun _ t ht=>by simp at ht⟩,Tab,⟨Kept.refl _ _⟩⟩
       case round =>
        clear HJ Tab;(try clear D);(try clear HJ);(try clear U1);(try clear HS);(try clear HK);obtain ⟨j,D,a,rfl,rfl,hj,gH,HJ,U1,HS,HK⟩:=hrel
        by_cases hjt:j < (Th Ga b).length
        ·have Fam:decide ((j:Int) < ((Th Ga b).length:Int))=true:=decide_eq_true (by omega);have r1:0 ≤ (j:Int):=by omega
         have r2:(j:Int) < ((Th Ga b).length:Int):=by omega
         obtain ⟨an,tn,e1,ht,htn,hx⟩:=FR HE.out fN hjt (HNC.out wr HK.out);subst e1;have HT:=ga.mk ht;clear ht
         go_upto_region 18 with (fail)
         have nP:=oa (Below.refl wr.heap.size wr) (.cells #[.int .i64 (tn:Int)] 3 (0,0));have CY:=Jm wr (.cells #[.int .i64 (tn:Int)] 3 (0,0));generalize wr.alloc (.cells #[.int .i64 (tn:Int)] 3 (0,0))=Qk at nP CY ⊢;have ZI:=ga.mk (HS.out.below nP);have EE:=ga.mk CY;have Wab:=ga.mk (Va (Ih xao.out HK.out HN9.out) nP);have lac:=ga.mk (HK.out.below nP);clear nP CY HS HK hx;generalize wr.heap.size=CN at EE ⊢;have XG:=ga.mk (oa (Below.refl Qk.heap.size Qk) (.cells #[] 3 (0,0)));obtain ⟨At,ct,k5,-,hlt',hCt⟩:=(ZI.out.below XG.out).at htn;have HCt:=ga.mk hCt;have hv4:=(ZI.out.below XG.out).cell;have o5:=(ja (Va EE.out XG.out) 0).trans rfl;have t1:0 ≤ (tn:Int):=by omega
         have t2:(tn:Int) < (Ga.length:Int):=by omega
         have HEM:=ga.mk (xE (Kd.int .i64) 3 Qk Qk.heap.size (Nat.le_refl _));have HLN:=ga.mk (show (([]:List Int).length + (Sk D tn).length) * 8 ≤ 140737488355328 from by have:=lR HJ.out.inv HN.out.2 tn;simp;omega);have hmf:∀ (fn:Fn) (first cap:Array Value) (w:World),(Instr.makeFunc fn first cap).run Try.prog w = .ok (.func fn first cap) w:=fun _ _ _ _=>rfl
         clear hCt
         go_upto_region 19 with (first|((with_reducible refine Db (N:=59) rfl ?_);refine Kd.Yt (Kd.int .i64) (w0:=Qk) Qk.heap.size rfl (.tmp 54) (.tmp 58) 22 3 (.int .i64 0) 8 rfl Try.underlying22 info3 rfl (by decide) (by omega) (.slice (some ⟨Qk.heap.size,0,none⟩) 0 0) [] (Sk D tn) At (Sk D tn).length ct (fun _=>True) (fun _=>False) rfl rfl HEM.out HCt.out (fun _ _ h=>h) (fun _ hk=>hk.elim) (fun _ _=>trivial) XG.out XG.out.size HLN.out ?_;intro v19 yw ho Ap uA hat;rw [List.nil_append] at ho;obtain ⟨Ak,ck,rfl⟩:=Kd.xd ho;have HDC:=ga.mk (YX ZI.out EE.out Wab.out fN Ap ho);clear ho Ap uA hat k5 hv4 o5)|(go_at_call 74;(with_reducible refine HDC.out.mono ?_);rintro e w20 ⟨rfl,n5,N_⟩;have Vab:=ga.mk n5;have zQ:=ga.mk N_;clear n5 N_ HDC))
         have X1:=ga.mk (ZI.out.below zQ.out);have HP:=ga.mk (ZI.out.put zQ.out htn (ZI.out.fresh Vab.out));have kac:=ga.mk (lac.out.below zQ.out);have hv4:=X1.out.cell;have o5:=(ja (Va EE.out zQ.out) 0).trans rfl;obtain ⟨At,ct,k5,hft,-,-⟩:=X1.out.at htn;clear ZI Wab lac HEM HLN HCt XG Vab hlt' EE zQ
         by_cases hk:(Rk D b tn).length < (Sk D tn).length
         ·have hkb:decide (((Rk D b tn).length:Int) < ((Sk D tn).length:Int))=true:=decide_eq_true (by omega);have HJN:=ga.mk (HJ.out.keep HE.out hlt (t:=(Th Ga b)[j]) (by rw [HRB.out,Int.toNat_natCast];exact List.getElem_mem hjt) (by rw [HRB.out,HT.out,Int.toNat_natCast,Int.toNat_natCast];exact hk));rw [HRB.out,HT.out,Int.toNat_natCast,Int.toNat_natCast] at HJN;have hGK:=HP.out.k;go_wp2
          go_roundg ((Th Ga b).length - (j + 1))
          case measure=>omega
          case rel=>exact ⟨j + 1,_,true,rfl,by go_num,by omega,by omega,HJN,⟨fun e=>by cases e⟩,HP,⟨kac.out.setCell (Or.inl rfl) _⟩⟩
         ·have hkb:decide (((Rk D b tn).length:Int) < ((Sk D tn).length:Int))=false:=decide_eq_false (by omega);have HOK:=ga.mk (WN hk).2;clear HP;go_wp2
          go_roundg ((Th Ga b).length - (j + 1))
          case measure=>omega
          case rel=>exact ⟨j + 1,D,a,rfl,by go_num,by omega,by omega,HJ,⟨fun e=>(U1.out e).next hjt (by rw [HT.out,Int.toNat_natCast];exact HOK.out)⟩,X1,kac⟩
        ·have Fam:decide ((j:Int) < ((Th Ga b).length:Int))=false:=decide_eq_false (by omega);obtain rfl:j=(Th Ga b).length:=by omega
         have HJN:=ga.mk (show Y0 Ga D m0 a (i + 1) from ⟨HJ.out.inv,HJ.out.le,HJ.out.lt,fun e=>(HJ.out.so e).next hlt (by rw [HRB.out,Int.toNat_natCast];exact U1.out e)⟩);go_wp2
         go_roundg ((Wc Ga).length - (i + 1))
         case measure=>omega
         case rel=>exact ⟨i + 1,D,a,rfl,by go_num,by omega,by omega,HJN,HS⟩
      ·have bC:decide ((i:Int) < ((Wc Ga).length:Int))=false:=decide_eq_false (by omega);obtain rfl:i=(Wc Ga).length:=by omega
       have h1:=HJ.out.le;have h2:=HJ.out.lt
       have HM:=ga.mk (show Xx D + (if a=true then 1 else 0) < m0 + 1 from by
        cases a with
        | false=>rw [if_neg (by simp)];omega
        | true=>have:=h2 rfl;rw [if_pos rfl];omega)
       clear h1 h2;go_wp2
       go_roundg (Xx D + (if a=true then 1 else 0))
       case measure=>have:=HM.out;omega
       case rel=>exact ⟨D,a,rfl,Nat.le_refl _,⟨HJ.out.inv⟩,⟨HJ.out.so⟩,HS⟩
end Go.Proofs.Ytoomcmaifgkkfaa.P
end
