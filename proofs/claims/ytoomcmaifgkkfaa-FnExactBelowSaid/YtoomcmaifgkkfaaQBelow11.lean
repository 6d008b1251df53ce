import Derived.Test.YtoomcmaifgkkfaaQBelow1
import Derived.Test.YtoomcmaifgkkfaaQBelow9
import Derived.Test.YtoomcmaifgkkfaaQBelow10
import Derived.Shelf.Abstract
import Derived.Outline
import Derived.RegionTactic
import Derived.Test.YtoomcmaifgkkfaaQBelow6
import Derived.Test.YtoomcmaifgkkfaaQBelow4
import Derived.Test.YtoomcmaifgkkfaaQBelow8
import Derived.Test.YtoomcmaifgkkfaaQBelow7
import Derived.Deep.QuietTactic
import Derived.BigQuiet
import Derived.Test.YtoomcmaifgkkfaaQBelow2
import Derived.Test.YtoomcmaifgkkfaaQBelow3
set_option maxHeartbeats 8000000
set_option maxRecDepth 100000
section
namespace Go.Proofs.Ytoomcmaifgkkfaa.P
open Go.RowKit Go.Proofs.Ia.Qb Go.Proofs.Ia.Dd Go.Proofs.Ia.ze
set_option linter.unusedVariables false
set_option linter.unusedSimpArgs false
attribute [local go_sem] Eh Ch Ji Ii Jg Ig Dh Bh
mutual
def mb.l0:Nat→Int→List Bool→List Int→Int→List Int→Int→Int→Int→List (jf)→Option ((List (List Bool)))
 | 0,_,_,_,_,_,_,_,_,_=>none
 | k + 1,x3,x4,x5,x6,Sc,Tc,Rc,Qc,Xb=>if x6 < (x5.length:Int) then (if 0 ≤ x6 then (if 0 ≤ (rd x5 x6) then (if (rd x5 x6) < (x4.length:Int) then (mb.l0 k x3 (x4.set ((rd x5 x6):Int).toNat true) x5 (wrap64 (x6 + 1)) Sc Tc Rc Qc Xb) else (none)) else (none)) else (none)) else (mb.l1 k x3 x4 (([]:List (List Bool))) 0 Sc Tc Rc Qc Xb)
def mb.l1:Nat→Int→List Bool→List (List Bool)→Int→List Int→Int→Int→Int→List (jf)→Option ((List (List Bool)))
 | 0,_,_,_,_,_,_,_,_,_=>none
 | k + 1,x3,x4,x7,x8,Sc,Tc,Rc,Qc,Xb=>if x8 < x3 then (if 0 ≤ x3 then (if (x3:Int).toNat ≤ 281474976710656 then ((some (List.replicate (x3:Int).toNat false:List Bool)).bind fun Vx=>(if x8=0 then (mb.j2 k x3 x4 x7 x8 Vx Sc Tc Rc Qc Xb) else ((Eb.f k Sc Tc Rc Qc Xb 0 x8 Vx).bind fun t116=>(mb.j2 k x3 x4 x7 x8 t116 Sc Tc Rc Qc Xb)))) else (none)) else (none)) else (some x7)
def mb.j2:Nat→Int→List Bool→List (List Bool)→Int→List Bool→List Int→Int→Int→Int→List (jf)→Option ((List (List Bool)))
 | 0,_,_,_,_,_,_,_,_,_,_=>none
 | k + 1,x3,x4,x7,x8,x9,Sc,Tc,Rc,Qc,Xb=>if 0 ≤ x3 then (if (x3:Int).toNat ≤ 281474976710656 then (mb.l2 k x3 x4 x7 x8 x9 (List.replicate (x3:Int).toNat false) 0 Sc Tc Rc Qc Xb) else (none)) else (none)
def mb.l2:Nat→Int→List Bool→List (List Bool)→Int→List Bool→List Bool→Int→List Int→Int→Int→Int→List (jf)→Option ((List (List Bool)))
 | 0,_,_,_,_,_,_,_,_,_,_,_,_=>none
 | k + 1,x3,x4,x7,x8,x9,EB,cH,Sc,Tc,Rc,Qc,Xb=>if cH < x3 then (if 0 ≤ x8 then (if x8 < (x4.length:Int) then (if lg false x4 x8=true then (if 0 ≤ cH then (if cH < (x4.length:Int) then (if lg false x4 cH=true then (if cH < (x9.length:Int) then (if cH < (EB.length:Int) then (mb.l2 k x3 x4 x7 x8 x9 (EB.set (cH:Int).toNat (!(lg false x9 cH))) (wrap64 (cH + 1)) Sc Tc Rc Qc Xb) else (none)) else (none)) else (if cH < (EB.length:Int) then (mb.l2 k x3 x4 x7 x8 x9 (EB.set (cH:Int).toNat false) (wrap64 (cH + 1)) Sc Tc Rc Qc Xb) else (none))) else (none)) else (none)) else (if 0 ≤ cH then (if cH < (EB.length:Int) then (mb.l2 k x3 x4 x7 x8 x9 (EB.set (cH:Int).toNat false) (wrap64 (cH + 1)) Sc Tc Rc Qc Xb) else (none)) else (none))) else (none)) else (none)) else (if x7.length < 5864062014805 then (mb.l1 k x3 x4 (x7 ++ [EB]) (wrap64 (x8 + 1)) Sc Tc Rc Qc Xb) else (none))
end
def mb.f (k:Nat) (Oa:List Int) (Ka:Int) (Pa:Int) (Ja:Int) (Ga:List (jf)):Option ((List (List Bool))):=if 0 ≤ (Ga.length:Int) then (if ((Ga.length:Int):Int).toNat ≤ 281474976710656 then ((Gb.f k Oa Ka Pa Ja Ga).bind fun t105=>(mb.l0 k (Ga.length:Int) (List.replicate ((Ga.length:Int):Int).toNat false) t105 0 Oa Ka Pa Ja Ga)) else (none)) else (none)
theorem mb.calls (k:Nat) (yb:Option Addr) (xb:Nat) (Oa:List Int) (Ka:Int) (Pa:Int) (Ja:Int) (Rb:Option Addr) (Ib:Nat) (Ga:List (jf)) (r:List (List Bool)) (w:World) (fe:Kd.C (Kd.int .i64) w yb Oa.length Oa) (Yd:Oa.length ≤ xb) (Ff:Kd.C Po w Rb Ga.length Ga) (Hf:Ga.length ≤ Ib) (h:mb.f k Oa Ka Pa Ja Ga=some r) :
  Calls Try.prog 67 #[.agg #[.slice yb Oa.length xb,.int .i64 Ka,.int .i64 Pa,.int .i64 Ja,.slice Rb Ga.length Ib]] w fun e w'=>∃ Pm:Value,e = .returned (Pm)∧Kd.S (Kd.slice 4 Kd.bool) 73 w' w.heap.size (fun _=>True) Pm r∧Below w.heap.size w w':=by
 have KA:=Try.underlying45;have Qe:=ga.mk fe;have gf:=ga.mk Yd;clear fe Yd;have ug:=ga.mk Ff;have Kh:=ga.mk Hf;clear Ff Hf;have HB:=ga.mk (Below.refl w.heap.size w);have H:(if 0 ≤ (Ga.length:Int) then (if ((Ga.length:Int):Int).toNat ≤ 281474976710656 then ((Gb.f k Oa Ka Pa Ja Ga).bind fun t105=>(mb.l0 k (Ga.length:Int) (List.replicate ((Ga.length:Int):Int).toNat false) t105 0 Oa Ka Pa Ja Ga)) else (none)) else (none))=some r:=h;clear h
 by_cases c2:0 ≤ (Ga.length:Int)
 ·rw [if_pos c2] at H;have vq:=eq_true c2;have Lt:decide (0 ≤ (Ga.length:Int))=true:=decide_eq_true c2;clear c2
  by_cases c3:((Ga.length:Int):Int).toNat ≤ 281474976710656
  ·rw [if_pos c3] at H;have Gg:=eq_true c3;have Wm:decide (((Ga.length:Int):Int).toNat ≤ 281474976710656)=true:=decide_eq_true c3;clear c3;obtain ⟨qe,jg⟩:∃ y_:List Bool,y_=(List.replicate ((Ga.length:Int):Int).toNat false):=⟨_,rfl⟩;replace H:((Gb.f k Oa Ka Pa Ja Ga).bind fun t105=>(mb.l0 k (Ga.length:Int) qe t105 0 Oa Ka Pa Ja Ga))=some r:=by first|(rw [jg];with_reducible exact H)|(have Od:=(Option.bind_some _ _).symm.trans H;rw [jg];with_reducible exact Od)|(have Od:=(Option.bind_some _ _).symm.trans H;with_reducible exact Od)|with_reducible exact H|(rw [jg];exact H)|exact H
   have Aj:=ga.mk jg;clear jg;replace H:=Option.bind_eq_some_iff.mp H;obtain ⟨t105,CQ,H⟩:=H;replace H:(mb.l0 k (Ga.length:Int) qe t105 0 Oa Ka Pa Ja Ga)=some r:=H;have A4:=ga.mk CQ;clear CQ;have H':=ga.mk H;clear H;go_enter Try.func67,Try.ntmps67;go_wp2_with (first|((with_reducible refine Db (N:=1) rfl ?_);refine Lb ?hg (N:=1) ?hd (cs:=#[.slice yb Oa.length xb,.int .i64 Ka,.int .i64 Pa,.int .i64 Ja,.slice Rb Ga.length Ib]) (t:=45) ?hr ?_;(case hd=>rfl);(case hg=>rfl);(case hr=>first|(go_simp;done)|(go_simp;rfl));intro za hg w5 Tb hb;have Jb:=ga.mk (Ra (by repeat (first|(with_reducible first|exact HB.out|apply oa|apply ia|apply qa)|exact HB.out)) hb);have Ob:=ga.mk (Tb);have Vb:=ga.mk ((by rw [hg];exact (La (by repeat (first|(with_reducible first|exact HB.out|apply oa|apply ia|apply qa)|exact HB.out))):w.heap.size ≤ za));have uc:=ga.mk ((by rw [hg];exact (La (by repeat (first|(with_reducible first|exact HB.out|apply oa|apply ia|apply qa)|exact HB.out))):w.heap.size ≤ za));clear HB;have HB:=Jb;have ta:=Ob;have ue:=Vb;have Ta:=uc;clear Jb Ob Vb uc hb Tb hg;have gx:w5.cell? ⟨za,0,none⟩=some (.slice yb Oa.length xb):=(ja ta.out 0).trans rfl;have dx:w5.cell? ⟨za,1,none⟩=some (.int .i64 Ka):=(ja ta.out 1).trans rfl;have cx:w5.cell? ⟨za,2,none⟩=some (.int .i64 Pa):=(ja ta.out 2).trans rfl;have bx:w5.cell? ⟨za,3,none⟩=some (.int .i64 Ja):=(ja ta.out 3).trans rfl;have ax:w5.cell? ⟨za,4,none⟩=some (.slice Rb Ga.length Ib):=(ja ta.out 4).trans rfl;have Uw:=aa ta.out 0;have Tw:=aa ta.out 1;have Sw:=aa ta.out 2;have Rw:=aa ta.out 3;have Qw:=aa ta.out 4)|((with_reducible refine Db (N:=16) rfl ?_);refine Kd.tu Kd.bool _ 4 rfl (N:=16) rfl 73 _ _ rfl (Ga.length:Int) rfl rfl Try.underlying73 (.bool false) 1 tJ rfl (by decide) (by omega) false (ok:=fun _=>True) (Ah:=fun _=>True) rfl (fun _ hk=>hk) trivial (of_decide_eq_true (by first|(with_reducible assumption)|assumption)) (Nat.le_trans (Nat.mul_le_mul_right _ (of_decide_eq_true (by first|(with_reducible assumption)|assumption):(Ga.length:Int).toNat ≤ 281474976710656)) (by omega)) (Below.refl _ _) (Nat.le_refl _) ?_;intro Sh w7 C5 hb Um Gf;clear Um Gf;(first|rw [← Aj.out] at C5|(simp only [Int.reduceToNat] at C5;rw [← Aj.out] at C5));have Jb:=ga.mk (Kd.Fe C5 (La (by repeat (first|(with_reducible first|exact HB.out|apply oa|apply ia|apply qa|refine ua ?_ Ta.out)|exact HB.out))));have Ob:=ga.mk (Va (g:=za) (o:=.cells #[.slice yb Oa.length xb,.int .i64 Ka,.int .i64 Pa,.int .i64 Ja,.slice Rb Ga.length Ib] 45 (0,0)) (by (with_reducible repeat (first|refine Da ?_ _|refine Ea ?_|refine Ca ?_ _));exact ta.out) hb);have Vb:=ga.mk (Ra (by repeat (first|(with_reducible first|exact HB.out|apply oa|apply ia|apply qa|refine ua ?_ Ta.out)|exact HB.out)) hb);clear ta HB;have dg:=Jb;have ta:=Ob;have HB:=Vb;clear Jb Ob Vb hb C5;have Zl:w7.cell? ⟨za,0,none⟩=some (.slice yb Oa.length xb):=(ja ta.out 0).trans rfl;have Yl:w7.cell? ⟨za,1,none⟩=some (.int .i64 Ka):=(ja ta.out 1).trans rfl;have Xl:w7.cell? ⟨za,2,none⟩=some (.int .i64 Pa):=(ja ta.out 2).trans rfl;have Wl:w7.cell? ⟨za,3,none⟩=some (.int .i64 Ja):=(ja ta.out 3).trans rfl;have Vl:w7.cell? ⟨za,4,none⟩=some (.slice Rb Ga.length Ib):=(ja ta.out 4).trans rfl;have Ul:=aa ta.out 0;have Tl:=aa ta.out 1;have Sl:=aa ta.out 2;have Rl:=aa ta.out 3;have Ql:=aa ta.out 4)|((with_reducible refine zb (f:=68) rfl ?_);refine Fc (some 18) rfl rfl Try.func68 (by kernel_rfl) rfl #[.agg #[.slice yb Oa.length xb,.int .i64 Ka,.int .i64 Pa,.int .i64 Ja,.slice Rb Ga.length Ib]] rfl (by (try simp only [List.map_toArray,List.map_cons,List.map_nil]);first|done|rfl|(simp only [List.length_drop,List.length_take];rfl)) ?_;(with_reducible refine (Gb.calls k _ _ Oa Ka Pa Ja _ _ Ga t105 _ ?Ic ?Gc ?ee ?Zd A4.out).mono ?_);(case Ic=>repeat (first|exact (Kd.Mb Qe.out HB.out)|(with_reducible refine Kd.ec ?_ _)|(with_reducible refine Kd.dc ?_ _)|(with_reducible refine Kd.Dc ?_)));(case Gc=>exact gf.out);(case ee=>repeat (first|exact (Kd.Mb ug.out HB.out)|(with_reducible refine Kd.ec ?_ _)|(with_reducible refine Kd.dc ?_ _)|(with_reducible refine Kd.Dc ?_)));(case Zd=>exact Kh.out);rintro e Bp ⟨DA,rfl,qj,hb⟩;refine ⟨_,rfl,?_⟩;have Jb:=ga.mk (Kd.ld (by (with_reducible repeat (first|apply Kd.Xa|apply Kd.Wa|apply Kd.qb));exact dg.out) hb);have Ob:=ga.mk (Kd.Fe qj (La (by repeat (first|(with_reducible first|exact HB.out|apply oa|apply ia|apply qa|refine ua ?_ Ta.out)|exact HB.out))));have Vb:=ga.mk (Va (g:=za) (o:=.cells #[.slice yb Oa.length xb,.int .i64 Ka,.int .i64 Pa,.int .i64 Ja,.slice Rb Ga.length Ib] 45 (0,0)) (by (with_reducible repeat (first|refine Da ?_ _|refine Ea ?_|refine Ca ?_ _));exact ta.out) hb);have uc:=ga.mk (Ra (by repeat (first|(with_reducible first|exact HB.out|apply oa|apply ia|apply qa|refine ua ?_ Ta.out)|exact HB.out)) hb);clear dg ta HB;have dg:=Jb;have Zm:=Ob;have ta:=Vb;have HB:=uc;clear Jb Ob Vb uc;(try clear hb);(try clear mj);(try clear hk);(try clear hi);(try clear qj)))
   go_loopg [6] k (fun kq v6 w'=>∃ (Wb:List Bool) (Om:Int),v6 = .int .i64 Om∧ga (mb.l0 kq (Ga.length:Int) Wb t105 Om Oa Ka Pa Ja Ga=some r)∧ga (kq ≤ k)∧ga (Kd.R Kd.bool 4 w' w.heap.size (fun _=>True) Sh Wb)∧ga (Kd.R (Kd.int .i64) 3 w' w.heap.size (fun _=>True) DA t105)∧ga (w'.heap[za]? = some (.cells #[(.slice yb Oa.length xb),.int .i64 Ka,.int .i64 Pa,.int .i64 Ja,(.slice Rb Ga.length Ib)] 45 (0,0)))∧ga (Below w.heap.size w w'))
   case atStart=>exact ⟨(qe),(0),(by first|rfl|(simp;done)|(simp [*];done)),H',⟨Nat.le_refl _⟩,⟨by (with_reducible repeat (first|apply Kd.Xa|apply Kd.Wa|apply Kd.qb));exact dg.out⟩,⟨by (with_reducible repeat (first|apply Kd.Xa|apply Kd.Wa|apply Kd.qb));exact Zm.out⟩,⟨by (with_reducible repeat (first|refine Da ?_ _|refine Ea ?_|refine Ca ?_ _));exact ta.out⟩,⟨by repeat (first|(with_reducible first|exact HB.out|apply oa|apply ia|apply qa|refine ua ?_ Ta.out)|exact HB.out)⟩⟩
   case round =>
    clear H'
    try clear c2
    try clear vq
    try clear Lt
    try clear p2
    try clear c3
    try clear Gg
    try clear Wm
    try clear c6
    try clear gx
    try clear dx
    try clear cx
    try clear bx
    try clear ax
    try clear Zl
    try clear Yl
    try clear Xl
    try clear Wl
    try clear Vl
    try clear Uw
    try clear Tw
    try clear Sw
    try clear Rw
    try clear Qw
    try clear Ul
    try clear Tl
    try clear Sl
    try clear Rl
    try clear Ql
    (try clear HA);(try clear Nf);(try clear Jd);(try clear mg);(try clear ta);(try clear HB);obtain ⟨Wb,Om,rfl,HA,Nf,Jd,mg,ta,HB⟩:=hrel;cases gk with
    | zero=>exact absurd HA.out (by simp [mb.l0])
    | succ k1 =>
     have H:=HA.out;clear HA;simp only [mb.l0] at H
     by_cases NP:Om < (t105.length:Int)
     ·rw [if_pos NP] at H;have EL:decide (Om < (t105.length:Int))=true:=decide_eq_true NP;clear NP
      by_cases xw:0 ≤ Om
      ·rw [if_pos xw] at H;have DG:decide (0 ≤ Om)=true:=decide_eq_true xw;clear xw
       by_cases xA:0 ≤ (rd t105 Om)
       ·rw [if_pos xA] at H;have uB:decide (0 ≤ (rd t105 Om))=true:=decide_eq_true xA;clear xA
        by_cases Xt:(rd t105 Om) < (Wb.length:Int)
        ·rw [if_pos Xt] at H;have Qx:decide ((rd t105 Om) < (Wb.length:Int))=true:=decide_eq_true Xt;clear Xt;obtain ⟨UE,ur⟩:∃ y_:List Bool,y_=(Wb.set ((rd t105 Om):Int).toNat true):=⟨_,rfl⟩;replace H:(mb.l0 k1 (Ga.length:Int) UE t105 (wrap64 (Om + 1)) Oa Ka Pa Ja Ga)=some r:=by first|(rw [ur];with_reducible exact H)|(have Od:=(Option.bind_some _ _).symm.trans H;rw [ur];with_reducible exact Od)|(have Od:=(Option.bind_some _ _).symm.trans H;with_reducible exact Od)|with_reducible exact H|(rw [ur];exact H)|exact H
         have nQ:=ga.mk ur;clear ur;have H':=ga.mk H;clear H;obtain ⟨ZM,LM,zZ⟩:=Kd.xd mg.out;subst zZ;have eM:0 ≤ (Om:Int):=of_decide_eq_true (by first|(with_reducible assumption)|assumption);have dM:Om < (t105.length:Int):=of_decide_eq_true (by first|(with_reducible assumption)|assumption);obtain ⟨bat,Wan,YB⟩:=Kd.qf (Kd.Fb mg.out).2.2 Om eM dM;cases Wan;replace eM:=eq_true eM;replace dM:=eq_true dM;have vR:0 ≤ ((rd t105 Om):Int):=of_decide_eq_true (by first|(with_reducible assumption)|assumption);have qR:((rd t105 Om):Int) < ((Wb.length:Int):Int):=of_decide_eq_true (by first|(with_reducible assumption)|assumption);obtain ⟨RU,maa,kaa,daa,wan,Aav,WA⟩:=Kd.Vj Jd.out (by omega);(first|cases kaa|(injection kaa with Oj dy ey;(first|subst Oj|(injection Oj with Oj;subst Oj));subst ey;clear dy));have Nao:=ga.mk daa;have maw:=ga.mk WA;clear daa wan WA;obtain ⟨VH,Ram⟩:=Kd.Xg false Jd.out ((rd t105 Om):Int) vR qR;replace vR:=eq_true vR;replace qR:=eq_true qR;have T2:=Kd.Zk Jd.out ((rd t105 Om):Int) true;go_wp2_with (first|((with_reducible refine Le (t:=4) (p:=30) rfl ?_);refine ke (t:=4) (p:=30) (v:=?Vak) (w1:=(wr.setCell ⟨RU,((rd t105 Om):Int).toNat,none⟩ (.bool true))) ?hg ?ho ?hn ?hr ?_;(case ho=>rfl);(case hg=>rfl);(case hn=>rfl);(case hr=>first|(go_simp;done)|(go_simp;rfl));intro dH hw;have hg:wr.grownBy dH (some RU):=(by rw [hw];exact T2.2);have Fk:Kd.R Kd.bool 4 dH w.heap.size (fun _=>True) (.slice (some ⟨RU,0,none⟩) Wb.length maa) UE:=(by rw [hw,nQ.out];exact T2.1);clear T2;have Jb:=ga.mk (Fk);have Ob:=ga.mk (Kd.Al (v:=(.slice (some ⟨RU,0,none⟩) Wb.length maa)) (by (with_reducible repeat (first|apply Kd.Xa|apply Kd.Wa|apply Kd.qb));exact mg.out) (Kd.zl Jd.out) (by decide) hg);have Vb:=ga.mk (wg (g:=za) (o:=.cells #[.slice yb Oa.length xb,.int .i64 Ka,.int .i64 Pa,.int .i64 Ja,.slice Rb Ga.length Ib] 45 (0,0)) (by (with_reducible repeat (first|refine Da ?_ _|refine Ea ?_|refine Ca ?_ _));exact ta.out) hg (Kd.Nt Jd.out ta.out (by decide)));have uc:=ga.mk ((by rw [hw];exact ua (HB.out) Nao.out:Below w.heap.size w dH));clear Jd mg ta HB;have Jd:=Jb;have mg:=Ob;have ta:=Vb;have HB:=uc;clear Jb Ob Vb uc hg hw Fk))
         go_roundg k1
         case measure=>have:=Nf.out;omega
         case rel=>exact ⟨(UE),(wrap64 (Om + 1)),(by first|rfl|(simp;done)|(simp [*];done)),H',⟨by have:=Nf.out;omega⟩,⟨by (with_reducible repeat (first|apply Kd.Xa|apply Kd.Wa|apply Kd.qb));exact Jd.out⟩,⟨by (with_reducible repeat (first|apply Kd.Xa|apply Kd.Wa|apply Kd.qb));exact mg.out⟩,⟨by (with_reducible repeat (first|refine Da ?_ _|refine Ea ?_|refine Ca ?_ _));exact ta.out⟩,⟨by repeat (first|(with_reducible first|exact HB.out|apply oa|apply ia|apply qa|refine ua ?_ Ta.out)|exact HB.out)⟩⟩
        ·rw [if_neg Xt] at H;exact absurd H (by simp)
       ·rw [if_neg xA] at H;exact absurd H (by simp)
      ·rw [if_neg xw] at H;exact absurd H (by simp)
     ·rw [if_neg NP] at H;have EL:decide (Om < (t105.length:Int))=false:=decide_eq_false NP;clear NP;obtain ⟨mN,tr⟩:∃ y_:List (List Bool),y_=(([]:List (List Bool))):=⟨_,rfl⟩;replace H:(mb.l1 k1 (Ga.length:Int) Wb mN 0 Oa Ka Pa Ja Ga)=some r:=by first|(rw [tr];with_reducible exact H)|(have Od:=(Option.bind_some _ _).symm.trans H;rw [tr];with_reducible exact Od)|(have Od:=(Option.bind_some _ _).symm.trans H;with_reducible exact Od)|with_reducible exact H|(rw [tr];exact H)|exact H
      have PG:=ga.mk tr;clear tr;have H':=ga.mk H;clear H;obtain ⟨Qao,BP,yZ⟩:=Kd.xd mg.out;subst yZ;go_wp2_with (first|((with_reducible refine Db (N:=31) rfl ?_);refine Kd.jab (Kd.slice 4 Kd.bool) _ 73 ?hg (N:=31) ?hd (xs:=([]:List (List Bool))) (inner:=[]) (ok:=fun _=>True) (Ah:=fun _=>True) ?hr ?hp (fun _ hk=>hk) trivial (Below.refl _ _) (Nat.le_refl _) (by simp) ?_;(case hd=>rfl);(case hg=>rfl);(case hr=>first|(go_simp;done)|(go_simp;rfl));(case hp=>exact (Ld.none _ _));intro aal w20 wO hb Um Gf;clear Um Gf;(first|rw [← PG.out] at wO|(simp only [Int.reduceToNat] at wO;rw [← PG.out] at wO));have Jb:=ga.mk (Kd.ld (by (with_reducible repeat (first|apply Kd.Xa|apply Kd.Wa|apply Kd.qb));exact Jd.out) hb);have Ob:=ga.mk (Kd.ld (by (with_reducible repeat (first|apply Kd.Xa|apply Kd.Wa|apply Kd.qb));exact mg.out) hb);have Vb:=ga.mk (Kd.nw (Kd.YP wO (Kd.Km (by (with_reducible repeat (first|apply Kd.Xa|apply Kd.Wa|apply Kd.qb));exact Jd.out))) (La (by repeat (first|(with_reducible first|exact HB.out|apply oa|apply ia|apply qa|refine ua ?_ Ta.out)|exact HB.out))));have uc:=ga.mk (Va (g:=za) (o:=.cells #[.slice yb Oa.length xb,.int .i64 Ka,.int .i64 Pa,.int .i64 Ja,.slice Rb Ga.length Ib] 45 (0,0)) (by (with_reducible repeat (first|refine Da ?_ _|refine Ea ?_|refine Ca ?_ _));exact ta.out) hb);have Be:=ga.mk (Ra (by repeat (first|(with_reducible first|exact HB.out|apply oa|apply ia|apply qa|refine ua ?_ Ta.out)|exact HB.out)) hb);clear Jd mg ta HB;have Jd:=Jb;have mg:=Ob;have wQ:=Vb;have ta:=uc;have HB:=Be;clear Jb Ob Vb uc Be hb wO))
      go_loopg [7,8] k1 (fun kq v7 v8 w'=>∃ (bf:List Bool) (af:List (List Bool)) (je:Int),v8 = .int .i64 je∧ga (mb.l1 kq (Ga.length:Int) bf af je Oa Ka Pa Ja Ga=some r)∧ga (kq ≤ k1)∧ga (Kd.R Kd.bool 4 w' w.heap.size (fun _=>True) Sh bf)∧ga (Kd.S (Kd.slice 4 Kd.bool) 73 w' w.heap.size (fun k_=>some k_ ≠ (Sh:Value).ownBlock) v7 af)∧ga (w'.heap[za]? = some (.cells #[(.slice yb Oa.length xb),.int .i64 Ka,.int .i64 Pa,.int .i64 Ja,(.slice Rb Ga.length Ib)] 45 (0,0)))∧ga (Below w.heap.size w w'))
      case atStart=>exact ⟨(Wb),(mN),(0),(by first|rfl|(simp;done)|(simp [*];done)),H',⟨Nat.le_refl _⟩,⟨by (with_reducible repeat (first|apply Kd.Xa|apply Kd.Wa|apply Kd.qb));exact Jd.out⟩,⟨by (with_reducible repeat (first|apply Kd.Mf|apply Kd.Lf|apply Kd.xg));exact Kd.yg wQ.out (fun _ hk=>hk.2)⟩,⟨by (with_reducible repeat (first|refine Da ?_ _|refine Ea ?_|refine Ca ?_ _));exact ta.out⟩,⟨by repeat (first|(with_reducible first|exact HB.out|apply oa|apply ia|apply qa|refine ua ?_ Ta.out)|exact HB.out)⟩⟩
      case round =>
       clear H'
       try clear c1
       try clear p1
       try clear q1
       try clear hx1
       try clear hf1
       try clear c2
       try clear vq
       try clear Lt
       try clear p2
       try clear c3
       try clear Gg
       try clear Wm
       try clear c6
       try clear p6
       try clear dB
       try clear cB
       try clear pO
       try clear NP
       try clear EL
       try clear xw
       try clear DG
       try clear xA
       try clear uB
       try clear Xt
       try clear Qx
       try clear vR
       try clear qR
       try clear Y4
       try clear L8
       try clear gx
       try clear dx
       try clear cx
       try clear bx
       try clear ax
       try clear Zl
       try clear Yl
       try clear Xl
       try clear Wl
       try clear Vl
       try clear Uw
       try clear Tw
       try clear Sw
       try clear Rw
       try clear Qw
       try clear Ul
       try clear Tl
       try clear Sl
       try clear Rl
       try clear Ql
       try clear YB
       try clear VH
       try clear eM
       try clear vR
       try clear p2
       try clear dM
       try clear qR
       (try clear HA);(try clear Vo);(try clear Jd);(try clear Ui);(try clear ta);(try clear HB);obtain ⟨bf,af,je,rfl,HA,Vo,Jd,Ui,ta,HB⟩:=hrel;cases gk with
       | zero=>exact absurd HA.out (by simp [mb.l1])
       | succ k2 =>
        have H:=HA.out;clear HA;simp only [mb.l1] at H
        by_cases QM:je < (Ga.length:Int)
        ·rw [if_pos QM] at H;have IP:decide (je < (Ga.length:Int))=true:=decide_eq_true QM;clear QM
         by_cases ux:0 ≤ (Ga.length:Int)
         ·rw [if_pos ux] at H;have Zz:=eq_true ux;have AG:decide (0 ≤ (Ga.length:Int))=true:=decide_eq_true ux;clear ux
          by_cases CL:((Ga.length:Int):Int).toNat ≤ 281474976710656
          ·rw [if_pos CL] at H;have GP:=eq_true CL;have NW:decide (((Ga.length:Int):Int).toNat ≤ 281474976710656)=true:=decide_eq_true CL;clear CL;obtain ⟨Vx,wF⟩:∃ y_:List Bool,y_=(List.replicate ((Ga.length:Int):Int).toNat false):=⟨_,rfl⟩;replace H:(if je=0 then (mb.j2 k2 (Ga.length:Int) bf af je Vx Oa Ka Pa Ja Ga) else ((Eb.f k2 Oa Ka Pa Ja Ga 0 je Vx).bind fun t116=>(mb.j2 k2 (Ga.length:Int) bf af je t116 Oa Ka Pa Ja Ga)))=some r:=by first|(rw [wF];with_reducible exact H)|(have Od:=(Option.bind_some _ _).symm.trans H;rw [wF];with_reducible exact Od)|(have Od:=(Option.bind_some _ _).symm.trans H;with_reducible exact Od)|with_reducible exact H|(rw [wF];exact H)|exact H
           have YW:=ga.mk wF;clear wF;have C3:=ga.mk H;clear H
           go_upto_if 40 with (first|((with_reducible refine Db (N:=38) rfl ?_);refine Kd.tu Kd.bool _ 4 rfl (N:=38) rfl 73 _ _ rfl (Ga.length:Int) rfl rfl Try.underlying73 (.bool false) 1 tJ rfl (by decide) (by omega) false (ok:=fun _=>True) (Ah:=fun _=>True) rfl (fun _ hk=>hk) trivial (of_decide_eq_true (by first|(with_reducible assumption)|assumption)) (Nat.le_trans (Nat.mul_le_mul_right _ (of_decide_eq_true (by first|(with_reducible assumption)|assumption):(Ga.length:Int).toNat ≤ 281474976710656)) (by omega)) (Below.refl _ _) (Nat.le_refl _) ?_;intro Gt Ll WH hb Um Gf;clear Um Gf;(first|rw [← YW.out] at WH|(simp only [Int.reduceToNat] at WH;rw [← YW.out] at WH));have Jb:=ga.mk (Kd.si (by (with_reducible repeat (first|apply Kd.Xa|apply Kd.Wa|apply Kd.qb));exact Jd.out) (Kd.xh WH) hb);have Ob:=ga.mk (Kd.fA (by (with_reducible repeat (first|apply Kd.Mf|apply Kd.Lf|apply Kd.xg));exact Ui.out) (Kd.xh WH) hb);have Vb:=ga.mk (Kd.Fe (Kd.Kk WH (Kd.Km (by (with_reducible repeat (first|apply Kd.Xa|apply Kd.Wa|apply Kd.qb));exact Jd.out))) (La (by repeat (first|(with_reducible first|exact HB.out|apply oa|apply ia|apply qa|refine ua ?_ Ta.out)|exact HB.out))));have uc:=ga.mk (Va (g:=za) (o:=.cells #[.slice yb Oa.length xb,.int .i64 Ka,.int .i64 Pa,.int .i64 Ja,.slice Rb Ga.length Ib] 45 (0,0)) (by (with_reducible repeat (first|refine Da ?_ _|refine Ea ?_|refine Ca ?_ _));exact ta.out) hb);have Be:=ga.mk (Ra (by repeat (first|(with_reducible first|exact HB.out|apply oa|apply ia|apply qa|refine ua ?_ Ta.out)|exact HB.out)) hb);clear Jd Ui ta HB;have Jd:=Jb;have Ui:=Ob;have au:=Vb;have ta:=uc;have HB:=Be;clear Jb Ob Vb uc Be hb WH))
           (try simp only [Act.put,List.setIfInBounds_toArray,List.set_cons_zero,List.set_cons_succ])
           go_cut [] (fun wc=>∃ (kq:Nat) (Ag:List Bool),ga (mb.j2 kq (Ga.length:Int) bf af je Ag Oa Ka Pa Ja Ga=some r)∧ga (kq ≤ k2)∧ga (Kd.R Kd.bool 4 wc w.heap.size (fun k_=>some k_ ≠ (Gt:Value).ownBlock) Sh bf)∧ga (Kd.S (Kd.slice 4 Kd.bool) 73 wc w.heap.size (fun k_=>some k_ ≠ (Sh:Value).ownBlock∧some k_ ≠ (Gt:Value).ownBlock) u7 af)∧ga (Kd.R Kd.bool 4 wc w.heap.size (fun k_=>some k_ ≠ (Sh:Value).ownBlock) Gt Ag)∧ga (wc.heap[za]? = some (.cells #[(.slice yb Oa.length xb),.int .i64 Ka,.int .i64 Pa,.int .i64 Ja,(.slice Rb Ga.length Ib)] 45 (0,0)))∧ga (Below w.heap.size w wc))
           case first =>
            have H:=C3.out;clear C3
            by_cases iw:je=0
            ·rw [if_pos iw] at H;have Zo:(je == 0)=true:=beq_iff_eq.mpr iw;have FP:(je != 0)=false:=bne_eq_false_iff_eq.mpr iw;clear iw;(first|rw [Zo]|(simp only [Yb,Zb];rw [Zo])|skip);have H':=ga.mk H;clear H;go_wp2
             go_meet
             case rel=>exact ⟨_,(Vx),H',⟨by have:=Nf.out;have:=Vo.out;first|omega|exact Nat.le_refl _⟩,⟨by (with_reducible repeat (first|apply Kd.Xa|apply Kd.Wa|apply Kd.qb));exact Kd.Bc Jd.out (fun _ hk=>hk.2)⟩,⟨by (with_reducible repeat (first|apply Kd.Mf|apply Kd.Lf|apply Kd.xg));exact Ui.out⟩,⟨by (with_reducible repeat (first|apply Kd.Xa|apply Kd.Wa|apply Kd.qb));exact Kd.Bc au.out (fun _ hk=>hk.2)⟩,⟨by (with_reducible repeat (first|refine Da ?_ _|refine Ea ?_|refine Ca ?_ _));exact ta.out⟩,⟨by repeat (first|(with_reducible first|exact HB.out|apply oa|apply ia|apply qa|refine ua ?_ Ta.out)|exact HB.out)⟩⟩
            ·rw [if_neg iw] at H;have Zo:(je == 0)=false:=beq_eq_false_iff_ne.mpr iw;have FP:(je != 0)=true:=bne_iff_ne.mpr iw;(first|rw [Zo]|(simp only [Yb,Zb];rw [Zo])|skip);replace H:=Option.bind_eq_some_iff.mp H;obtain ⟨t116,Pac,H⟩:=H;replace H:(mb.j2 k2 (Ga.length:Int) bf af je t116 Oa Ka Pa Ja Ga)=some r:=H;have A29:=ga.mk Pac;clear Pac;have H':=ga.mk H;clear H;have Vy:Ll.cell? ⟨za,0,none⟩=some (.slice yb Oa.length xb):=(ja ta.out 0).trans rfl;have Uy:Ll.cell? ⟨za,1,none⟩=some (.int .i64 Ka):=(ja ta.out 1).trans rfl;have Ty:Ll.cell? ⟨za,2,none⟩=some (.int .i64 Pa):=(ja ta.out 2).trans rfl;have Sy:Ll.cell? ⟨za,3,none⟩=some (.int .i64 Ja):=(ja ta.out 3).trans rfl;have Ry:Ll.cell? ⟨za,4,none⟩=some (.slice Rb Ga.length Ib):=(ja ta.out 4).trans rfl;have Fy:=aa ta.out 0;have Ey:=aa ta.out 1;have Dy:=aa ta.out 2;have Cy:=aa ta.out 3;have Ay:=aa ta.out 4;obtain ⟨YM,KM,xZ⟩:=Kd.xd au.out;subst xZ;go_wp2_with (first|((with_reducible refine zb (f:=102) rfl ?_);refine Fc (some 44) rfl rfl Try.func102 (by kernel_rfl) rfl #[.agg #[.slice yb Oa.length xb,.int .i64 Ka,.int .i64 Pa,.int .i64 Ja,.slice Rb Ga.length Ib],.int .i64 0,.int .i64 je,.slice YM Vx.length KM] rfl (by (try simp only [List.map_toArray,List.map_cons,List.map_nil]);first|done|rfl|(simp only [List.length_drop,List.length_take];rfl)) ?_;(with_reducible refine (Eb.calls k2 _ _ Oa Ka Pa Ja _ _ Ga 0 je (fun k_=>some k_=(.slice YM Vx.length KM:Value).ownBlock) (.slice YM Vx.length KM) Vx t116 w _ ?Ic ?Gc ?ee ?Zd ?Au ?zu A29.out).mono ?_);(case Ic=>repeat (first|(with_reducible first|exact HB.out|apply oa|apply ia|apply qa|refine ua ?_ Ta.out)|exact HB.out));(case Gc=>exact Kd.Mr (Kd.ni .i64) Qe.out (by repeat (first|(with_reducible first|exact HB.out|apply oa|apply ia|apply qa|refine ua ?_ Ta.out)|exact HB.out)) (fun k_ hs_=>(fun e_=>Kd.xh au.out k_ e_.symm) hs_));(case ee=>exact gf.out);(case Zd=>exact Kd.Mr YN ug.out (by repeat (first|(with_reducible first|exact HB.out|apply oa|apply ia|apply qa|refine ua ?_ Ta.out)|exact HB.out)) (fun k_ hs_=>(fun e_=>Kd.xh au.out k_ e_.symm) hs_));(case Au=>exact Kh.out);(case zu=>exact Kd.Et rfl au.out);rintro e w32 ⟨rfl,hy0,hb,hkp⟩;refine ⟨_,rfl,?_⟩;have Jb:=ga.mk (Kd.Bc (vn:=fun k_=>some k_ ≠ (.slice YM Vx.length KM:Value).ownBlock) (Kd.fz (Jd.out) hkp (fun k_ Kw hs_=>(Kw.2) hs_)) (fun k_ Kw=>Kw.1.2));have Ob:=ga.mk (Kd.yg (vn:=fun k_=>some k_ ≠ (Sh:Value).ownBlock∧some k_ ≠ (.slice YM Vx.length KM:Value).ownBlock) (Kd.eV (Ui.out) hkp (fun k_ Kw hs_=>(Kw.2) hs_)) (fun k_ Kw=>⟨Kw.1.1,Kw.1.2⟩));have Vb:=ga.mk (Ih (by (with_reducible repeat (first|refine Da ?_ _|refine Ea ?_|refine Ca ?_ _));exact ta.out) hkp (fun hs_=>(fun e_=>(Kd.Nt au.out ta.out (by decide)) e_) hs_));have uc:=ga.mk (Kd.fQ rfl hy0 (fun k_ e_=>au.out.1 k_ e_));have Be:=ga.mk (hb);clear Jd Ui ta au HB;have Jd:=Jb;have Ui:=Ob;have ta:=Vb;have au:=uc;have HB:=Be;clear Jb Ob Vb uc Be;(try clear hb);(try clear hkp);(try clear hy0)))
             go_meet
             case rel=>exact ⟨_,(t116),H',⟨by have:=Nf.out;have:=Vo.out;first|omega|exact Nat.le_refl _⟩,⟨by (with_reducible repeat (first|apply Kd.Xa|apply Kd.Wa|apply Kd.qb));exact Jd.out⟩,⟨by (with_reducible repeat (first|apply Kd.Mf|apply Kd.Lf|apply Kd.xg));exact Ui.out⟩,⟨by (with_reducible repeat (first|apply Kd.Xa|apply Kd.Wa|apply Kd.qb));exact Kd.Bc au.out (fun _ hk=>hk.2)⟩,⟨by (with_reducible repeat (first|refine Da ?_ _|refine Ea ?_|refine Ca ?_ _));exact ta.out⟩,⟨by repeat (first|(with_reducible first|exact HB.out|apply oa|apply ia|apply qa|refine ua ?_ Ta.out)|exact HB.out)⟩⟩
           case rest =>
            clear C3
            try clear c1
            try clear p1
            try clear q1
            try clear hx1
            try clear hf1
            try clear c2
            try clear vq
            try clear Lt
            try clear p2
            try clear c3
            try clear Gg
            try clear Wm
            try clear c6
            try clear p6
            try clear c10
            try clear dB
            try clear cB
            try clear pO
            try clear NP
            try clear EL
            try clear xw
            try clear DG
            try clear xA
            try clear uB
            try clear Xt
            try clear Qx
            try clear vR
            try clear qR
            try clear Y4
            try clear L8
            try clear QM
            try clear IP
            try clear ux
            try clear Zz
            try clear AG
            try clear CL
            try clear GP
            try clear NW
            try clear iw
            try clear Zo
            try clear FP
            try clear Vy
            try clear Uy
            try clear Ty
            try clear Sy
            try clear Ry
            try clear gx
            try clear dx
            try clear cx
            try clear bx
            try clear ax
            try clear Zl
            try clear Yl
            try clear Xl
            try clear Wl
            try clear Vl
            try clear Fy
            try clear Ey
            try clear Dy
            try clear Cy
            try clear Ay
            try clear Uw
            try clear Tw
            try clear Sw
            try clear Rw
            try clear Qw
            try clear Ul
            try clear Tl
            try clear Sl
            try clear Rl
            try clear Ql
            try clear YB
            try clear VH
            try clear p1
            try clear dB
            try clear eM
            try clear vR
            try clear p2
            try clear p6
            try clear q1
            try clear cB
            try clear dM
            try clear qR
            obtain ⟨kq,Ag,HA,VG,Jd,Ui,ah,ta,HB⟩:=hcut;cases kq with
            | zero=>exact absurd HA.out (by simp [mb.j2])
            | succ lY =>
             have H:=HA.out;clear HA;simp only [mb.j2] at H
             by_cases zG:0 ≤ (Ga.length:Int)
             ·rw [if_pos zG] at H;have Maa:=eq_true zG;have Laa:decide (0 ≤ (Ga.length:Int))=true:=decide_eq_true zG;clear zG
              by_cases yG:((Ga.length:Int):Int).toNat ≤ 281474976710656
              ·rw [if_pos yG] at H;have Kaa:=eq_true yG;have Jaa:decide (((Ga.length:Int):Int).toNat ≤ 281474976710656)=true:=decide_eq_true yG;clear yG;obtain ⟨SE,nr⟩:∃ y_:List Bool,y_=(List.replicate ((Ga.length:Int):Int).toNat false):=⟨_,rfl⟩;replace H:(mb.l2 lY (Ga.length:Int) bf af je Ag SE 0 Oa Ka Pa Ja Ga)=some r:=by first|(rw [nr];with_reducible exact H)|(have Od:=(Option.bind_some _ _).symm.trans H;rw [nr];with_reducible exact Od)|(have Od:=(Option.bind_some _ _).symm.trans H;with_reducible exact Od)|with_reducible exact H|(rw [nr];exact H)|exact H
               have ML:=ga.mk nr;clear nr;have H':=ga.mk H;clear H;go_wp2_with (first|((with_reducible refine Db (N:=46) rfl ?_);refine Kd.tu Kd.bool _ 4 rfl (N:=46) rfl 73 _ _ rfl (Ga.length:Int) rfl rfl Try.underlying73 (.bool false) 1 tJ rfl (by decide) (by omega) false (ok:=fun _=>True) (Ah:=fun _=>True) rfl (fun _ hk=>hk) trivial (of_decide_eq_true (by first|(with_reducible assumption)|assumption)) (Nat.le_trans (Nat.mul_le_mul_right _ (of_decide_eq_true (by first|(with_reducible assumption)|assumption):(Ga.length:Int).toNat ≤ 281474976710656)) (by omega)) (Below.refl _ _) (Nat.le_refl _) ?_;intro WE NX BF hb Um Gf;clear Um Gf;(first|rw [← ML.out] at BF|(simp only [Int.reduceToNat] at BF;rw [← ML.out] at BF));have Jb:=ga.mk (Kd.si (by (with_reducible repeat (first|apply Kd.Xa|apply Kd.Wa|apply Kd.qb));exact Jd.out) (Kd.xh BF) hb);have Ob:=ga.mk (Kd.fA (by (with_reducible repeat (first|apply Kd.Mf|apply Kd.Lf|apply Kd.xg));exact Ui.out) (Kd.xh BF) hb);have Vb:=ga.mk (Kd.si (by (with_reducible repeat (first|apply Kd.Xa|apply Kd.Wa|apply Kd.qb));exact ah.out) (Kd.xh BF) hb);have uc:=ga.mk (Kd.Fe (Kd.Kk (Kd.Kk BF (Kd.Km (by (with_reducible repeat (first|apply Kd.Xa|apply Kd.Wa|apply Kd.qb));exact Jd.out))) (Kd.Km (by (with_reducible repeat (first|apply Kd.Xa|apply Kd.Wa|apply Kd.qb));exact ah.out))) (La (by repeat (first|(with_reducible first|exact HB.out|apply oa|apply ia|apply qa|refine ua ?_ Ta.out)|exact HB.out))));have Be:=ga.mk (Va (g:=za) (o:=.cells #[.slice yb Oa.length xb,.int .i64 Ka,.int .i64 Pa,.int .i64 Ja,.slice Rb Ga.length Ib] 45 (0,0)) (by (with_reducible repeat (first|refine Da ?_ _|refine Ea ?_|refine Ca ?_ _));exact ta.out) hb);have Vf:=ga.mk (Ra (by repeat (first|(with_reducible first|exact HB.out|apply oa|apply ia|apply qa|refine ua ?_ Ta.out)|exact HB.out)) hb);clear Jd Ui ah ta HB;have Jd:=Jb;have Ui:=Ob;have ah:=Vb;have Eo:=uc;have ta:=Be;have HB:=Vf;clear Jb Ob Vb uc Be Vf hb BF))
               go_loopg [11] lY (fun kq v11 w'=>∃ (xe:List Bool) (Nc:Int),v11 = .int .i64 Nc∧ga (mb.l2 kq (Ga.length:Int) bf af je Ag xe Nc Oa Ka Pa Ja Ga=some r)∧ga (kq ≤ lY)∧ga (Kd.R Kd.bool 4 w' w.heap.size (fun k_=>some k_ ≠ (Gt:Value).ownBlock∧some k_ ≠ (WE:Value).ownBlock) Sh bf)∧ga (Kd.S (Kd.slice 4 Kd.bool) 73 w' w.heap.size (fun k_=>some k_ ≠ (Sh:Value).ownBlock∧some k_ ≠ (Gt:Value).ownBlock∧some k_ ≠ (WE:Value).ownBlock) u7 af)∧ga (Kd.R Kd.bool 4 w' w.heap.size (fun k_=>some k_ ≠ (Sh:Value).ownBlock∧some k_ ≠ (WE:Value).ownBlock) Gt Ag)∧ga (Kd.R Kd.bool 4 w' w.heap.size (fun k_=>some k_ ≠ (Sh:Value).ownBlock∧some k_ ≠ (Gt:Value).ownBlock) WE xe)∧ga (w'.heap[za]? = some (.cells #[(.slice yb Oa.length xb),.int .i64 Ka,.int .i64 Pa,.int .i64 Ja,(.slice Rb Ga.length Ib)] 45 (0,0)))∧ga (Below w.heap.size w w'))
               case atStart=>exact ⟨(SE),(0),(by first|rfl|(simp;done)|(simp [*];done)),H',⟨Nat.le_refl _⟩,⟨by (with_reducible repeat (first|apply Kd.Xa|apply Kd.Wa|apply Kd.qb));exact Jd.out⟩,⟨by (with_reducible repeat (first|apply Kd.Mf|apply Kd.Lf|apply Kd.xg));exact Kd.yg Ui.out (fun _ hk=>⟨hk.1.1,⟨hk.1.2,hk.2⟩⟩)⟩,⟨by (with_reducible repeat (first|apply Kd.Xa|apply Kd.Wa|apply Kd.qb));exact ah.out⟩,⟨by (with_reducible repeat (first|apply Kd.Xa|apply Kd.Wa|apply Kd.qb));exact Kd.Bc Eo.out (fun _ hk=>⟨hk.1.2,hk.2⟩)⟩,⟨by (with_reducible repeat (first|refine Da ?_ _|refine Ea ?_|refine Ca ?_ _));exact ta.out⟩,⟨by repeat (first|(with_reducible first|exact HB.out|apply oa|apply ia|apply qa|refine ua ?_ Ta.out)|exact HB.out)⟩⟩
               case round =>
                clear H'
                try clear c1
                try clear p1
                try clear q1
                try clear hx1
                try clear hf1
                try clear c2
                try clear vq
                try clear Lt
                try clear p2
                try clear c3
                try clear Gg
                try clear Wm
                try clear c6
                try clear p6
                try clear c10
                try clear dB
                try clear cB
                try clear pO
                try clear NP
                try clear EL
                try clear xw
                try clear DG
                try clear xA
                try clear uB
                try clear Xt
                try clear Qx
                try clear vR
                try clear qR
                try clear Y4
                try clear L8
                try clear QM
                try clear IP
                try clear ux
                try clear Zz
                try clear AG
                try clear CL
                try clear GP
                try clear NW
                try clear iw
                try clear Zo
                try clear FP
                try clear zG
                try clear Maa
                try clear Laa
                try clear yG
                try clear Kaa
                try clear Jaa
                try clear Vy
                try clear Uy
                try clear Ty
                try clear Sy
                try clear Ry
                try clear gx
                try clear dx
                try clear cx
                try clear bx
                try clear ax
                try clear Zl
                try clear Yl
                try clear Xl
                try clear Wl
                try clear Vl
                try clear Fy
                try clear Ey
                try clear Dy
                try clear Cy
                try clear Ay
                try clear Uw
                try clear Tw
                try clear Sw
                try clear Rw
                try clear Qw
                try clear Ul
                try clear Tl
                try clear Sl
                try clear Rl
                try clear Ql
                try clear YB
                try clear VH
                try clear p1
                try clear dB
                try clear eM
                try clear vR
                try clear p2
                try clear p6
                try clear q1
                try clear cB
                try clear dM
                try clear qR
                (try clear HA);(try clear zV);(try clear Jd);(try clear Ui);(try clear ah);(try clear Uh);(try clear ta);(try clear HB);obtain ⟨xe,Nc,rfl,HA,zV,Jd,Ui,ah,Uh,ta,HB⟩:=hrel;cases gk with
                | zero=>exact absurd HA.out (by simp [mb.l2])
                | succ k4 =>
                 have H:=HA.out;clear HA;simp only [mb.l2] at H
                 by_cases VZ:Nc < (Ga.length:Int)
                 ·rw [if_pos VZ] at H;have Iaa:decide (Nc < (Ga.length:Int))=true:=decide_eq_true VZ;clear VZ
                  by_cases c38:0 ≤ je
                  ·rw [if_pos c38] at H;have Xas:decide (0 ≤ je)=true:=decide_eq_true c38;clear c38
                   by_cases c39:je < (bf.length:Int)
                   ·rw [if_pos c39] at H;have Was:decide (je < (bf.length:Int))=true:=decide_eq_true c39;clear c39;obtain ⟨Uaa,kP⟩:∃ b_:Bool,b_=(lg false bf je):=⟨_,rfl⟩;replace H:(if Uaa=true then (if 0 ≤ Nc then (if Nc < (bf.length:Int) then (if lg false bf Nc=true then (if Nc < (Ag.length:Int) then (if Nc < (xe.length:Int) then (mb.l2 k4 (Ga.length:Int) bf af je Ag (xe.set (Nc:Int).toNat (!(lg false Ag Nc))) (wrap64 (Nc + 1)) Oa Ka Pa Ja Ga) else (none)) else (none)) else (if Nc < (xe.length:Int) then (mb.l2 k4 (Ga.length:Int) bf af je Ag (xe.set (Nc:Int).toNat false) (wrap64 (Nc + 1)) Oa Ka Pa Ja Ga) else (none))) else (none)) else (none)) else (if 0 ≤ Nc then (if Nc < (xe.length:Int) then (mb.l2 k4 (Ga.length:Int) bf af je Ag (xe.set (Nc:Int).toNat false) (wrap64 (Nc + 1)) Oa Ka Pa Ja Ga) else (none)) else (none)))=some r:=by rw [← kP] at H;exact H
                    have BB:=ga.mk kP;clear kP
                    by_cases c41:Uaa=true
                    ·subst c41;have H1:(if 0 ≤ Nc then (if Nc < (bf.length:Int) then (if lg false bf Nc=true then (if Nc < (Ag.length:Int) then (if Nc < (xe.length:Int) then (mb.l2 k4 (Ga.length:Int) bf af je Ag (xe.set (Nc:Int).toNat (!(lg false Ag Nc))) (wrap64 (Nc + 1)) Oa Ka Pa Ja Ga) else (none)) else (none)) else (if Nc < (xe.length:Int) then (mb.l2 k4 (Ga.length:Int) bf af je Ag (xe.set (Nc:Int).toNat false) (wrap64 (Nc + 1)) Oa Ka Pa Ja Ga) else (none))) else (none)) else (none))=some r:=by rw [if_pos rfl] at H;exact H
                     clear H;have H:=H1;clear H1
                     by_cases DP:0 ≤ Nc
                     ·rw [if_pos DP] at H;have AW:decide (0 ≤ Nc)=true:=decide_eq_true DP;clear DP
                      by_cases AL:Nc < (bf.length:Int)
                      ·rw [if_pos AL] at H;have Faa:decide (Nc < (bf.length:Int))=true:=decide_eq_true AL;clear AL;obtain ⟨Taa,jP⟩:∃ b_:Bool,b_=(lg false bf Nc):=⟨_,rfl⟩;replace H:(if Taa=true then (if Nc < (Ag.length:Int) then (if Nc < (xe.length:Int) then (mb.l2 k4 (Ga.length:Int) bf af je Ag (xe.set (Nc:Int).toNat (!(lg false Ag Nc))) (wrap64 (Nc + 1)) Oa Ka Pa Ja Ga) else (none)) else (none)) else (if Nc < (xe.length:Int) then (mb.l2 k4 (Ga.length:Int) bf af je Ag (xe.set (Nc:Int).toNat false) (wrap64 (Nc + 1)) Oa Ka Pa Ja Ga) else (none)))=some r:=by rw [← jP] at H;exact H
                       have RG:=ga.mk jP;clear jP
                       by_cases mE:Taa=true
                       ·subst mE;have H1:(if Nc < (Ag.length:Int) then (if Nc < (xe.length:Int) then (mb.l2 k4 (Ga.length:Int) bf af je Ag (xe.set (Nc:Int).toNat (!(lg false Ag Nc))) (wrap64 (Nc + 1)) Oa Ka Pa Ja Ga) else (none)) else (none))=some r:=by rw [if_pos rfl] at H;exact H
                        clear H;have H:=H1;clear H1
                        by_cases rB:Nc < (Ag.length:Int)
                        ·rw [if_pos rB] at H;have zL:decide (Nc < (Ag.length:Int))=true:=decide_eq_true rB;clear rB
                         by_cases c47:Nc < (xe.length:Int)
                         ·rw [if_pos c47] at H;have Vas:decide (Nc < (xe.length:Int))=true:=decide_eq_true c47;clear c47;obtain ⟨JX,sF⟩:∃ y_:List Bool,y_=(xe.set (Nc:Int).toNat (!(lg false Ag Nc))):=⟨_,rfl⟩;replace H:(mb.l2 k4 (Ga.length:Int) bf af je Ag JX (wrap64 (Nc + 1)) Oa Ka Pa Ja Ga)=some r:=by first|(rw [sF];with_reducible exact H)|(have Od:=(Option.bind_some _ _).symm.trans H;rw [sF];with_reducible exact Od)|(have Od:=(Option.bind_some _ _).symm.trans H;with_reducible exact Od)|with_reducible exact H|(rw [sF];exact H)|exact H
                          have uab:=ga.mk sF;clear sF;have H':=ga.mk H;clear H;obtain ⟨vaw,LZ,Gan⟩:=Kd.xd Jd.out;subst Gan;have ju:0 ≤ (je:Int):=of_decide_eq_true (by first|(with_reducible assumption)|assumption);have fu:je < (bf.length:Int):=of_decide_eq_true (by first|(with_reducible assumption)|assumption);obtain ⟨dm,CI,xl⟩:=Kd.Jk (Kd.Fb Jd.out).2.2 je ju fu;(try rw [← BB.out] at xl);(try rw [← RG.out] at xl);cases CI;replace ju:=eq_true ju;replace fu:=eq_true fu;have Kt:0 ≤ (Nc:Int):=of_decide_eq_true (by first|(with_reducible assumption)|assumption);have Jt:Nc < (bf.length:Int):=of_decide_eq_true (by first|(with_reducible assumption)|assumption);obtain ⟨gp,BI,Cn⟩:=Kd.Jk (Kd.Fb Jd.out).2.2 Nc Kt Jt;(try rw [← BB.out] at Cn);(try rw [← RG.out] at Cn);obtain rfl:dm=gp:=(by injection BI);replace Kt:=eq_true Kt;replace Jt:=eq_true Jt;obtain ⟨taw,KZ,Fan⟩:=Kd.xd ah.out;subst Fan;have ay:0 ≤ (Nc:Int):=of_decide_eq_true (by first|(with_reducible assumption)|assumption);have Zx:Nc < (Ag.length:Int):=of_decide_eq_true (by first|(with_reducible assumption)|assumption);obtain ⟨eA,xP,nk⟩:=Kd.Jk (Kd.Fb ah.out).2.2 Nc ay Zx;(try rw [← BB.out] at nk);(try rw [← RG.out] at nk);cases xP;replace ay:=eq_true ay;replace Zx:=eq_true Zx;have p48:0 ≤ (Nc:Int):=of_decide_eq_true (by first|(with_reducible assumption)|assumption);have q48:(Nc:Int) < ((xe.length:Int):Int):=of_decide_eq_true (by first|(with_reducible assumption)|assumption);obtain ⟨aE,II,jaa,baa,uan,yav,rac⟩:=Kd.Vj Uh.out (by omega);(first|cases jaa|(injection jaa with Oj dy ey;(first|subst Oj|(injection Oj with Oj;subst Oj));subst ey;clear dy));have Lao:=ga.mk baa;have jaw:=ga.mk rac;clear baa uan rac;obtain ⟨Bal,Nam⟩:=Kd.Xg false Uh.out (Nc:Int) p48 q48;replace p48:=eq_true p48;replace q48:=eq_true q48;have C2:=Kd.Zk Uh.out (Nc:Int) (!(lg false Ag Nc));go_wp2_with (first|((with_reducible refine Le (t:=4) (p:=71) rfl ?_);refine ke (t:=4) (p:=71) (v:=?Mak) (w1:=(wr.setCell ⟨aE,(Nc:Int).toNat,none⟩ (.bool (!(lg false Ag Nc))))) ?hg ?ho ?hn ?hr ?_;(case ho=>rfl);(case hg=>rfl);(case hn=>rfl);(case hr=>first|(go_simp;done)|(go_simp;rfl));intro w52 hw;have hg:wr.grownBy w52 (some aE):=(by rw [hw];exact C2.2);have Fk:Kd.R Kd.bool 4 w52 w.heap.size (fun k_=>some k_ ≠ (.slice (some dm) bf.length LZ:Value).ownBlock∧some k_ ≠ (.slice (some eA) Ag.length KZ:Value).ownBlock) (.slice (some ⟨aE,0,none⟩) xe.length II) JX:=(by rw [hw,uab.out];exact C2.1);clear C2;have Jb:=ga.mk (Kd.Zg (v:=(.slice (some ⟨aE,0,none⟩) xe.length II)) (v1:=(.slice (some ⟨aE,0,none⟩) xe.length II)) (ok:=(fun k_=>some k_ ≠ (.slice (some eA) Ag.length KZ:Value).ownBlock)) (by (with_reducible repeat (first|apply Kd.Xa|apply Kd.Wa|apply Kd.qb));exact Jd.out) hg (.inl rfl));have Ob:=ga.mk (Kd.dz (v:=(.slice (some ⟨aE,0,none⟩) xe.length II)) (v1:=(.slice (some ⟨aE,0,none⟩) xe.length II)) (ok:=(fun k_=>some k_ ≠ (.slice (some dm) bf.length LZ:Value).ownBlock∧some k_ ≠ (.slice (some eA) Ag.length KZ:Value).ownBlock)) (by (with_reducible repeat (first|apply Kd.Mf|apply Kd.Lf|apply Kd.xg));exact Kd.yg Ui.out (fun _ hk=>⟨⟨hk.1,hk.2.1⟩,hk.2.2⟩)) hg (.inl rfl));have Vb:=ga.mk (Kd.Zg (v:=(.slice (some ⟨aE,0,none⟩) xe.length II)) (v1:=(.slice (some ⟨aE,0,none⟩) xe.length II)) (ok:=(fun k_=>some k_ ≠ (.slice (some dm) bf.length LZ:Value).ownBlock)) (by (with_reducible repeat (first|apply Kd.Xa|apply Kd.Wa|apply Kd.qb));exact ah.out) hg (.inl rfl));have uc:=ga.mk (Fk);have Be:=ga.mk (wg (g:=za) (o:=.cells #[.slice yb Oa.length xb,.int .i64 Ka,.int .i64 Pa,.int .i64 Ja,.slice Rb Ga.length Ib] 45 (0,0)) (by (with_reducible repeat (first|refine Da ?_ _|refine Ea ?_|refine Ca ?_ _));exact ta.out) hg (Kd.Nt Uh.out ta.out (by decide)));have Vf:=ga.mk ((by rw [hw];exact ua (HB.out) Lao.out:Below w.heap.size w w52));clear Jd Ui ah Uh ta HB;have Jd:=Jb;have Ui:=Ob;have ah:=Vb;have Uh:=uc;have ta:=Be;have HB:=Vf;clear Jb Ob Vb uc Be Vf hg hw Fk))
                          go_roundg k4
                          case measure=>have:=Nf.out;have:=Vo.out;have:=VG.out;have:=zV.out;omega
                          case rel=>exact ⟨(JX),(wrap64 (Nc + 1)),(by first|rfl|(simp;done)|(simp [*];done)),H',⟨by have:=Nf.out;have:=Vo.out;have:=VG.out;have:=zV.out;omega⟩,⟨by (with_reducible repeat (first|apply Kd.Xa|apply Kd.Wa|apply Kd.qb));exact Jd.out⟩,⟨by (with_reducible repeat (first|apply Kd.Mf|apply Kd.Lf|apply Kd.xg));exact Kd.yg Ui.out (fun _ hk=>⟨hk.1.1,⟨hk.1.2,hk.2⟩⟩)⟩,⟨by (with_reducible repeat (first|apply Kd.Xa|apply Kd.Wa|apply Kd.qb));exact ah.out⟩,⟨by (with_reducible repeat (first|apply Kd.Xa|apply Kd.Wa|apply Kd.qb));exact Uh.out⟩,⟨by (with_reducible repeat (first|refine Da ?_ _|refine Ea ?_|refine Ca ?_ _));exact ta.out⟩,⟨by repeat (first|(with_reducible first|exact HB.out|apply oa|apply ia|apply qa|refine ua ?_ Ta.out)|exact HB.out)⟩⟩
                         ·rw [if_neg c47] at H;exact absurd H (by simp)
                        ·rw [if_neg rB] at H;exact absurd H (by simp)
                       ·replace mE:=Bool.eq_false_iff.mpr mE;subst mE;have H1:(if Nc < (xe.length:Int) then (mb.l2 k4 (Ga.length:Int) bf af je Ag (xe.set (Nc:Int).toNat false) (wrap64 (Nc + 1)) Oa Ka Pa Ja Ga) else (none))=some r:=by rw [if_neg (show ¬ (false=true) by decide)] at H;exact H
                        clear H;have H:=H1;clear H1
                        by_cases gN:Nc < (xe.length:Int)
                        ·rw [if_pos gN] at H;have zW:decide (Nc < (xe.length:Int))=true:=decide_eq_true gN;clear gN;obtain ⟨RE,jr⟩:∃ y_:List Bool,y_=(xe.set (Nc:Int).toNat false):=⟨_,rfl⟩;replace H:(mb.l2 k4 (Ga.length:Int) bf af je Ag RE (wrap64 (Nc + 1)) Oa Ka Pa Ja Ga)=some r:=by first|(rw [jr];with_reducible exact H)|(have Od:=(Option.bind_some _ _).symm.trans H;rw [jr];with_reducible exact Od)|(have Od:=(Option.bind_some _ _).symm.trans H;with_reducible exact Od)|with_reducible exact H|(rw [jr];exact H)|exact H
                         have mQ:=ga.mk jr;clear jr;have H':=ga.mk H;clear H;obtain ⟨saw,JZ,Ean⟩:=Kd.xd Jd.out;subst Ean;have ju:0 ≤ (je:Int):=of_decide_eq_true (by first|(with_reducible assumption)|assumption);have fu:je < (bf.length:Int):=of_decide_eq_true (by first|(with_reducible assumption)|assumption);obtain ⟨dm,CI,xl⟩:=Kd.Jk (Kd.Fb Jd.out).2.2 je ju fu;(try rw [← BB.out] at xl);(try rw [← RG.out] at xl);cases CI;replace ju:=eq_true ju;replace fu:=eq_true fu;have Kt:0 ≤ (Nc:Int):=of_decide_eq_true (by first|(with_reducible assumption)|assumption);have Jt:Nc < (bf.length:Int):=of_decide_eq_true (by first|(with_reducible assumption)|assumption);obtain ⟨gp,BI,Cn⟩:=Kd.Jk (Kd.Fb Jd.out).2.2 Nc Kt Jt;(try rw [← BB.out] at Cn);(try rw [← RG.out] at Cn);obtain rfl:dm=gp:=(by injection BI);replace Kt:=eq_true Kt;replace Jt:=eq_true Jt;have p54:0 ≤ (Nc:Int):=of_decide_eq_true (by first|(with_reducible assumption)|assumption);have q54:(Nc:Int) < ((xe.length:Int):Int):=of_decide_eq_true (by first|(with_reducible assumption)|assumption);obtain ⟨YD,GI,iaa,Z_,qan,wav,qac⟩:=Kd.Vj Uh.out (by omega);(first|cases iaa|(injection iaa with Oj dy ey;(first|subst Oj|(injection Oj with Oj;subst Oj));subst ey;clear dy));have Kao:=ga.mk Z_;have haw:=ga.mk qac;clear Z_ qan qac;obtain ⟨Aal,Mam⟩:=Kd.Xg false Uh.out (Nc:Int) p54 q54;replace p54:=eq_true p54;replace q54:=eq_true q54;have Z1:=Kd.Zk Uh.out (Nc:Int) false;go_wp2_with (first|((with_reducible refine Le (t:=4) (p:=71) rfl ?_);refine ke (t:=4) (p:=71) (v:=?Lak) (w1:=(wr.setCell ⟨YD,(Nc:Int).toNat,none⟩ (.bool false))) ?hg ?ho ?hn ?hr ?_;(case ho=>rfl);(case hg=>rfl);(case hn=>rfl);(case hr=>first|(go_simp;done)|(go_simp;rfl));intro w57 hw;have hg:wr.grownBy w57 (some YD):=(by rw [hw];exact Z1.2);have Fk:Kd.R Kd.bool 4 w57 w.heap.size (fun k_=>some k_ ≠ (.slice (some dm) bf.length JZ:Value).ownBlock∧some k_ ≠ (Gt:Value).ownBlock) (.slice (some ⟨YD,0,none⟩) xe.length GI) RE:=(by rw [hw,mQ.out];exact Z1.1);clear Z1;have Jb:=ga.mk (Kd.Zg (v:=(.slice (some ⟨YD,0,none⟩) xe.length GI)) (v1:=(.slice (some ⟨YD,0,none⟩) xe.length GI)) (ok:=(fun k_=>some k_ ≠ (Gt:Value).ownBlock)) (by (with_reducible repeat (first|apply Kd.Xa|apply Kd.Wa|apply Kd.qb));exact Jd.out) hg (.inl rfl));have Ob:=ga.mk (Kd.dz (v:=(.slice (some ⟨YD,0,none⟩) xe.length GI)) (v1:=(.slice (some ⟨YD,0,none⟩) xe.length GI)) (ok:=(fun k_=>some k_ ≠ (.slice (some dm) bf.length JZ:Value).ownBlock∧some k_ ≠ (Gt:Value).ownBlock)) (by (with_reducible repeat (first|apply Kd.Mf|apply Kd.Lf|apply Kd.xg));exact Kd.yg Ui.out (fun _ hk=>⟨⟨hk.1,hk.2.1⟩,hk.2.2⟩)) hg (.inl rfl));have Vb:=ga.mk (Kd.Zg (v:=(.slice (some ⟨YD,0,none⟩) xe.length GI)) (v1:=(.slice (some ⟨YD,0,none⟩) xe.length GI)) (ok:=(fun k_=>some k_ ≠ (.slice (some dm) bf.length JZ:Value).ownBlock)) (by (with_reducible repeat (first|apply Kd.Xa|apply Kd.Wa|apply Kd.qb));exact ah.out) hg (.inl rfl));have uc:=ga.mk (Fk);have Be:=ga.mk (wg (g:=za) (o:=.cells #[.slice yb Oa.length xb,.int .i64 Ka,.int .i64 Pa,.int .i64 Ja,.slice Rb Ga.length Ib] 45 (0,0)) (by (with_reducible repeat (first|refine Da ?_ _|refine Ea ?_|refine Ca ?_ _));exact ta.out) hg (Kd.Nt Uh.out ta.out (by decide)));have Vf:=ga.mk ((by rw [hw];exact ua (HB.out) Kao.out:Below w.heap.size w w57));clear Jd Ui ah Uh ta HB;have Jd:=Jb;have Ui:=Ob;have ah:=Vb;have Uh:=uc;have ta:=Be;have HB:=Vf;clear Jb Ob Vb uc Be Vf hg hw Fk))
                         go_roundg k4
                         case measure=>have:=Nf.out;have:=Vo.out;have:=VG.out;have:=zV.out;omega
                         case rel=>exact ⟨(RE),(wrap64 (Nc + 1)),(by first|rfl|(simp;done)|(simp [*];done)),H',⟨by have:=Nf.out;have:=Vo.out;have:=VG.out;have:=zV.out;omega⟩,⟨by (with_reducible repeat (first|apply Kd.Xa|apply Kd.Wa|apply Kd.qb));exact Jd.out⟩,⟨by (with_reducible repeat (first|apply Kd.Mf|apply Kd.Lf|apply Kd.xg));exact Kd.yg Ui.out (fun _ hk=>⟨hk.1.1,⟨hk.1.2,hk.2⟩⟩)⟩,⟨by (with_reducible repeat (first|apply Kd.Xa|apply Kd.Wa|apply Kd.qb));exact ah.out⟩,⟨by (with_reducible repeat (first|apply Kd.Xa|apply Kd.Wa|apply Kd.qb));exact Uh.out⟩,⟨by (with_reducible repeat (first|refine Da ?_ _|refine Ea ?_|refine Ca ?_ _));exact ta.out⟩,⟨by repeat (first|(with_reducible first|exact HB.out|apply oa|apply ia|apply qa|refine ua ?_ Ta.out)|exact HB.out)⟩⟩
                        ·rw [if_neg gN] at H;exact absurd H (by simp)
                      ·rw [if_neg AL] at H;exact absurd H (by simp)
                     ·rw [if_neg DP] at H;exact absurd H (by simp)
                    ·replace c41:=Bool.eq_false_iff.mpr c41;subst c41;have H1:(if 0 ≤ Nc then (if Nc < (xe.length:Int) then (mb.l2 k4 (Ga.length:Int) bf af je Ag (xe.set (Nc:Int).toNat false) (wrap64 (Nc + 1)) Oa Ka Pa Ja Ga) else (none)) else (none))=some r:=by rw [if_neg (show ¬ (false=true) by decide)] at H;exact H
                     clear H;have H:=H1;clear H1
                     by_cases c58:0 ≤ Nc
                     ·rw [if_pos c58] at H;have Uas:decide (0 ≤ Nc)=true:=decide_eq_true c58;clear c58
                      by_cases c59:Nc < (xe.length:Int)
                      ·rw [if_pos c59] at H;have Tas:decide (Nc < (xe.length:Int))=true:=decide_eq_true c59;clear c59;obtain ⟨XL,ir⟩:∃ y_:List Bool,y_=(xe.set (Nc:Int).toNat false):=⟨_,rfl⟩;replace H:(mb.l2 k4 (Ga.length:Int) bf af je Ag XL (wrap64 (Nc + 1)) Oa Ka Pa Ja Ga)=some r:=by first|(rw [ir];with_reducible exact H)|(have Od:=(Option.bind_some _ _).symm.trans H;rw [ir];with_reducible exact Od)|(have Od:=(Option.bind_some _ _).symm.trans H;with_reducible exact Od)|with_reducible exact H|(rw [ir];exact H)|exact H
                       have lQ:=ga.mk ir;clear ir;have H':=ga.mk H;clear H;obtain ⟨qaw,IZ,Dan⟩:=Kd.xd Jd.out;subst Dan;have ju:0 ≤ (je:Int):=of_decide_eq_true (by first|(with_reducible assumption)|assumption);have fu:je < (bf.length:Int):=of_decide_eq_true (by first|(with_reducible assumption)|assumption);obtain ⟨dm,CI,xl⟩:=Kd.Jk (Kd.Fb Jd.out).2.2 je ju fu;(try rw [← BB.out] at xl);cases CI;replace ju:=eq_true ju;replace fu:=eq_true fu;have p60:0 ≤ (Nc:Int):=of_decide_eq_true (by first|(with_reducible assumption)|assumption);have q60:(Nc:Int) < ((xe.length:Int):Int):=of_decide_eq_true (by first|(with_reducible assumption)|assumption);obtain ⟨XD,FI,haa,Y_,pan,vav,oac⟩:=Kd.Vj Uh.out (by omega);(first|cases haa|(injection haa with Oj dy ey;(first|subst Oj|(injection Oj with Oj;subst Oj));subst ey;clear dy));have Jao:=ga.mk Y_;have gaw:=ga.mk oac;clear Y_ pan oac;obtain ⟨zal,Lam⟩:=Kd.Xg false Uh.out (Nc:Int) p60 q60;replace p60:=eq_true p60;replace q60:=eq_true q60;have Y1:=Kd.Zk Uh.out (Nc:Int) false;go_wp2_with (first|((with_reducible refine Le (t:=4) (p:=71) rfl ?_);refine ke (t:=4) (p:=71) (v:=?Kak) (w1:=(wr.setCell ⟨XD,(Nc:Int).toNat,none⟩ (.bool false))) ?hg ?ho ?hn ?hr ?_;(case ho=>rfl);(case hg=>rfl);(case hn=>rfl);(case hr=>first|(go_simp;done)|(go_simp;rfl));intro w63 hw;have hg:wr.grownBy w63 (some XD):=(by rw [hw];exact Y1.2);have Fk:Kd.R Kd.bool 4 w63 w.heap.size (fun k_=>some k_ ≠ (.slice (some dm) bf.length IZ:Value).ownBlock∧some k_ ≠ (Gt:Value).ownBlock) (.slice (some ⟨XD,0,none⟩) xe.length FI) XL:=(by rw [hw,lQ.out];exact Y1.1);clear Y1;have Jb:=ga.mk (Kd.Zg (v:=(.slice (some ⟨XD,0,none⟩) xe.length FI)) (v1:=(.slice (some ⟨XD,0,none⟩) xe.length FI)) (ok:=(fun k_=>some k_ ≠ (Gt:Value).ownBlock)) (by (with_reducible repeat (first|apply Kd.Xa|apply Kd.Wa|apply Kd.qb));exact Jd.out) hg (.inl rfl));have Ob:=ga.mk (Kd.dz (v:=(.slice (some ⟨XD,0,none⟩) xe.length FI)) (v1:=(.slice (some ⟨XD,0,none⟩) xe.length FI)) (ok:=(fun k_=>some k_ ≠ (.slice (some dm) bf.length IZ:Value).ownBlock∧some k_ ≠ (Gt:Value).ownBlock)) (by (with_reducible repeat (first|apply Kd.Mf|apply Kd.Lf|apply Kd.xg));exact Kd.yg Ui.out (fun _ hk=>⟨⟨hk.1,hk.2.1⟩,hk.2.2⟩)) hg (.inl rfl));have Vb:=ga.mk (Kd.Zg (v:=(.slice (some ⟨XD,0,none⟩) xe.length FI)) (v1:=(.slice (some ⟨XD,0,none⟩) xe.length FI)) (ok:=(fun k_=>some k_ ≠ (.slice (some dm) bf.length IZ:Value).ownBlock)) (by (with_reducible repeat (first|apply Kd.Xa|apply Kd.Wa|apply Kd.qb));exact ah.out) hg (.inl rfl));have uc:=ga.mk (Fk);have Be:=ga.mk (wg (g:=za) (o:=.cells #[.slice yb Oa.length xb,.int .i64 Ka,.int .i64 Pa,.int .i64 Ja,.slice Rb Ga.length Ib] 45 (0,0)) (by (with_reducible repeat (first|refine Da ?_ _|refine Ea ?_|refine Ca ?_ _));exact ta.out) hg (Kd.Nt Uh.out ta.out (by decide)));have Vf:=ga.mk ((by rw [hw];exact ua (HB.out) Jao.out:Below w.heap.size w w63));clear Jd Ui ah Uh ta HB;have Jd:=Jb;have Ui:=Ob;have ah:=Vb;have Uh:=uc;have ta:=Be;have HB:=Vf;clear Jb Ob Vb uc Be Vf hg hw Fk))
                       go_roundg k4
                       case measure=>have:=Nf.out;have:=Vo.out;have:=VG.out;have:=zV.out;omega
                       case rel=>exact ⟨(XL),(wrap64 (Nc + 1)),(by first|rfl|(simp;done)|(simp [*];done)),H',⟨by have:=Nf.out;have:=Vo.out;have:=VG.out;have:=zV.out;omega⟩,⟨by (with_reducible repeat (first|apply Kd.Xa|apply Kd.Wa|apply Kd.qb));exact Jd.out⟩,⟨by (with_reducible repeat (first|apply Kd.Mf|apply Kd.Lf|apply Kd.xg));exact Kd.yg Ui.out (fun _ hk=>⟨hk.1.1,⟨hk.1.2,hk.2⟩⟩)⟩,⟨by (with_reducible repeat (first|apply Kd.Xa|apply Kd.Wa|apply Kd.qb));exact ah.out⟩,⟨by (with_reducible repeat (first|apply Kd.Xa|apply Kd.Wa|apply Kd.qb));exact Uh.out⟩,⟨by (with_reducible repeat (first|refine Da ?_ _|refine Ea ?_|refine Ca ?_ _));exact ta.out⟩,⟨by repeat (first|(with_reducible first|exact HB.out|apply oa|apply ia|apply qa|refine ua ?_ Ta.out)|exact HB.out)⟩⟩
                      ·rw [if_neg c59] at H;exact absurd H (by simp)
                     ·rw [if_neg c58] at H;exact absurd H (by simp)
                   ·rw [if_neg c39] at H;exact absurd H (by simp)
                  ·rw [if_neg c38] at H;exact absurd H (by simp)
                 ·rw [if_neg VZ] at H;have Iaa:decide (Nc < (Ga.length:Int))=false:=decide_eq_false VZ;clear VZ
                  by_cases c64:af.length < 5864062014805
                  ·rw [if_pos c64] at H;have zab:=ga.mk c64;clear c64;obtain ⟨lN,gr⟩:∃ y_:List (List Bool),y_=(af ++ [xe]):=⟨_,rfl⟩;replace H:(mb.l1 k4 (Ga.length:Int) bf lN (wrap64 (je + 1)) Oa Ka Pa Ja Ga)=some r:=by first|(rw [gr];with_reducible exact H)|(have Od:=(Option.bind_some _ _).symm.trans H;rw [gr];with_reducible exact Od)|(have Od:=(Option.bind_some _ _).symm.trans H;with_reducible exact Od)|with_reducible exact H|(rw [gr];exact H)|exact H
                   have kQ:=ga.mk gr;clear gr;have H':=ga.mk H;clear H;obtain ⟨Jac,laa,Ban⟩:=Kd.xd Uh.out;subst Ban;go_wp2_with (first|((with_reducible refine Hh (b:=.append) (xs:=#[.tmp 72,.tmp 74]) rfl ?_);at_builtin;refine Kd.cQ (Kd.slice 4 Kd.bool) (w0:=w) w.heap.size rfl (.tmp 72) (.tmp 74) 75 73 (.slice none 0 0) 24 rfl Try.underlying75 nY rfl (by decide) (by omega) u7 af xe [.slice Jac xe.length laa] (fun k_=>some k_ ≠ (Sh:Value).ownBlock∧some k_ ≠ (Gt:Value).ownBlock) (fun k_=>some k_=(.slice Jac xe.length laa:Value).ownBlock) rfl rfl ?aP (fun k_ Kw=>((Kd.Bc (vn:=fun k_=>((fun k_=>some k_ ≠ (Sh:Value).ownBlock∧some k_ ≠ (Gt:Value).ownBlock)) k_∧some k_ ≠ (u7:Value).ownBlock) (Kd.Kr (Uh.out) (Kd.Ct Ui.out) (by decide)) (fun k_ hk=>⟨⟨hk.1.1,hk.1.2⟩,hk.2⟩))).1 k_ Kw.symm) ?aF ?aO ?aB ?aS ?aL ?_;(case aP=>exact Kd.yab (Kd.Bc (Kd.Et rfl (Kd.Bc (vn:=fun k_=>((fun k_=>some k_ ≠ (Sh:Value).ownBlock∧some k_ ≠ (Gt:Value).ownBlock)) k_∧some k_ ≠ (u7:Value).ownBlock) (Kd.Kr (Uh.out) (Kd.Ct Ui.out) (by decide)) (fun k_ hk=>⟨⟨hk.1.1,hk.1.2⟩,hk.2⟩))) (fun _ h_=>h_)));(case aB=>exact (by repeat (first|(with_reducible first|exact HB.out|apply oa|apply ia|apply qa|refine ua ?_ Ta.out)|exact HB.out)));(case aF=>exact (fun k_ hk=>⟨Kd.fresh' (Kd.Km (by (with_reducible repeat (first|apply Kd.Xa|apply Kd.Wa|apply Kd.qb));exact Jd.out)) k_ hk,Kd.fresh' (Kd.Km (by (with_reducible repeat (first|apply Kd.Xa|apply Kd.Wa|apply Kd.qb));exact ah.out)) k_ hk⟩));(case aO=>exact (by (with_reducible repeat (first|apply Kd.Mf|apply Kd.Lf|apply Kd.xg));exact Kd.yg Ui.out (fun k_ hk=>⟨⟨hk.1,hk.2.1⟩,fun e_=>hk.2.2 e_⟩)));(case aS=>exact (La (by repeat (first|(with_reducible first|exact HB.out|apply oa|apply ia|apply qa|refine ua ?_ Ta.out)|exact HB.out))));(case aL=>have:=zab.out;omega);intro v127 w65 ho hb hg hat;rw [← kQ.out] at ho;have Jb:=ga.mk (Kd.Al (by (with_reducible repeat (first|apply Kd.Xa|apply Kd.Wa|apply Kd.qb));exact Jd.out) (Kd.Ct (by (with_reducible repeat (first|apply Kd.Mf|apply Kd.Lf|apply Kd.xg));exact Ui.out)) (by decide) hg);have Ob:=ga.mk (Kd.Al (by (with_reducible repeat (first|apply Kd.Xa|apply Kd.Wa|apply Kd.qb));exact ah.out) (Kd.Ct (by (with_reducible repeat (first|apply Kd.Mf|apply Kd.Lf|apply Kd.xg));exact Ui.out)) (by decide) hg);have Vb:=ga.mk (wg (g:=za) (o:=.cells #[.slice yb Oa.length xb,.int .i64 Ka,.int .i64 Pa,.int .i64 Ja,.slice Rb Ga.length Ib] 45 (0,0)) (by (with_reducible repeat (first|refine Da ?_ _|refine Ea ?_|refine Ca ?_ _));exact ta.out) hg (Kd.jao Ui.out ta.out (by decide)));have uc:=ga.mk (hb);have Be:=ga.mk (ho);clear Jd ah ta HB Ui Uh;have Jd:=Jb;have ah:=Ob;have ta:=Vb;have HB:=uc;have uQ:=Be;clear Jb Ob Vb uc Be ho hb hg hat))
                   go_roundg k4
                   case measure=>have:=Nf.out;have:=Vo.out;have:=VG.out;have:=zV.out;omega
                   case rel=>exact ⟨(bf),(lN),(wrap64 (je + 1)),(by first|rfl|(simp;done)|(simp [*];done)),H',⟨by have:=Nf.out;have:=Vo.out;have:=VG.out;have:=zV.out;omega⟩,⟨by (with_reducible repeat (first|apply Kd.Xa|apply Kd.Wa|apply Kd.qb));exact Kd.Bc Jd.out (fun _ hk=>trivial)⟩,⟨by (with_reducible repeat (first|apply Kd.Mf|apply Kd.Lf|apply Kd.xg));exact Kd.yg uQ.out (fun _ hk=>hk.1)⟩,⟨by (with_reducible repeat (first|refine Da ?_ _|refine Ea ?_|refine Ca ?_ _));exact ta.out⟩,⟨by repeat (first|(with_reducible first|exact HB.out|apply oa|apply ia|apply qa|refine ua ?_ Ta.out)|exact HB.out)⟩⟩
                  ·rw [if_neg c64] at H;exact absurd H (by simp)
              ·rw [if_neg yG] at H;exact absurd H (by simp)
             ·rw [if_neg zG] at H;exact absurd H (by simp)
          ·rw [if_neg CL] at H;exact absurd H (by simp)
         ·rw [if_neg ux] at H;exact absurd H (by simp)
        ·rw [if_neg QM] at H;have IP:decide (je < (Ga.length:Int))=false:=decide_eq_false QM;clear QM;obtain rfl:=Option.some.inj H;go_wp2;go_ret;exact ⟨_,by first|rfl|(simp [Na,Ma] <;> rfl)|(simp [*,Na,Ma] <;> rfl),by (with_reducible repeat (first|apply Kd.Mf|apply Kd.Lf|apply Kd.xg));exact Kd.yg Ui.out (fun _ hk=>trivial),by repeat (first|(with_reducible first|exact HB.out|apply oa|apply ia|apply qa|refine ua ?_ Ta.out)|exact HB.out)⟩
  ·rw [if_neg c3] at H;exact absurd H (by simp)
 ·rw [if_neg c2] at H;exact absurd H (by simp)
def ig:List Bool→Nat→List Int
 | [],_=>[]
 | b :: s,i=>if b=true then (i:Int) :: ig s (i + 1) else ig s (i + 1)
theorem Zj:∀ (s:List Bool) (i:Nat),(ig s i).length ≤ s.length
 | [],_=>Nat.le_refl _
 | b :: s,i=>by
  have:=Zj s (i + 1);unfold ig
  by_cases h:b=true
  ·rw [if_pos h];simp;omega
  ·rw [if_neg h];simp;omega
theorem YA:∀ (s t:List Bool) (i:Nat),ig (s ++ t) i=ig s i ++ ig t (i + s.length)
 | [],t,i=>by simp [ig]
 | b :: s,t,i=>by
  have:=YA s t (i + 1);simp only [List.cons_append,ig,this,List.length_cons];rw [show i + 1 + s.length=i + (s.length + 1) from by omega]
  by_cases h:b=true
  ·rw [if_pos h,if_pos h];rfl
  ·rw [if_neg h,if_neg h]
theorem cu (s:List Bool) (i:Nat) (hi:i < s.length):ig (s.take (i + 1)) 0=if s[i]=true then ig (s.take i) 0 ++ [(i:Int)] else ig (s.take i) 0:=by
 rw [List.take_succ_eq_append_getElem hi,YA,List.length_take,Nat.min_eq_left (by omega),Nat.zero_add];unfold ig ig
 by_cases h:s[i]=true
 ·rw [if_pos h,if_pos h]
 ·rw [if_neg h,if_neg h,List.append_nil]
theorem V0 {α:Type} {d:Kd α} {et e base g n cap i:Nat} {W:World} {P:Nat→Prop} {D:List (List α)} (h:Kd.S (Kd.slice et d) e W base P (.slice (some ⟨g,0,none⟩) n cap) D) (hi:i < n) :
  ∃ (A:Option Addr) (c:Nat),W.cell? ⟨g,i,none⟩=some (.slice A (D.getD i []).length c)∧W.frozen? ⟨g,i,none⟩=false∧Kd.R d et W base (fun k=>P k∧k ≠ g∧base ≤ k∧k < W.heap.size) (.slice A (D.getD i []).length c) (D.getD i []):=by
 obtain ⟨Mm,c,vA,hM,cy,wW,aC,hH⟩:=Kd.zx h ([]:List α) (i:Int) (by omega) (by omega);rw [Int.toNat_natCast] at hM cy wW;obtain ⟨v,hc,hR⟩:=hM;obtain ⟨A,cc,rfl⟩:=Kd.xd hR;have h1:=cy 0 _ (by rw [hc];rfl);have h2:=wW 0;rw [show i * (Kd.slice et d).sz + 0=i from by show i * 1 + 0=i;omega] at h1 h2;exact ⟨A,cc,h1,h2,Kd.Bc (Kd.Yg hR) (fun k hk=>⟨(aC k hk.1).1,(aC k hk.1).2,hk.2.1,hk.2.2.1⟩)⟩
def Wi.f (k:Nat) (Oa:List Int) (Ka:Int) (Pa:Int) (Ja:Int) (Ga:List (jf)) (a1:Int):Option (List Int) :=
 (Ua.f k Oa Ka Pa Ja Ga).bind fun t=>if t=true then (if Di a1 0 ((Ga.length:Int) - 1)=true then ((mb.f k Oa Ka Pa Ja Ga).bind fun M=>if a1.toNat < M.length∧(M.getD a1.toNat []).length ≤ 1048576 then some (ig (M.getD a1.toNat []) 0) else none) else some []) else some []
theorem Wi.calls (k:Nat) (yb:Option Addr) (xb:Nat) (Oa:List Int) (Ka:Int) (Pa:Int) (Ja:Int) (Rb:Option Addr) (Ib:Nat) (Ga:List (jf)) (a1:Int) (r:List Int) (w:World) (fe:Kd.C (Kd.int .i64) w yb Oa.length Oa) (Yd:Oa.length ≤ xb) (Ff:Kd.C Po w Rb Ga.length Ga) (Hf:Ga.length ≤ Ib) (h:Wi.f k Oa Ka Pa Ja Ga a1=some r) :
  Calls Try.prog 30 #[.agg #[.slice yb Oa.length xb,.int .i64 Ka,.int .i64 Pa,.int .i64 Ja,.slice Rb Ga.length Ib],.int .i64 a1] w fun e w'=>∃ Pm:Value,e = .returned (Pm)∧Kd.R (Kd.int .i64) 3 w' w.heap.size (fun _=>True) Pm r∧Below w.heap.size w w':=by
 unfold Wi.f at h;obtain ⟨t,tT,h⟩:=Option.bind_eq_some_iff.mp h;have TT_:=ga.mk tT;obtain ⟨W1,Kf⟩:∃ W1,W1=(w.alloc (.cells #[.slice yb Oa.length xb,.int .i64 Ka,.int .i64 Pa,.int .i64 Ja,.slice Rb Ga.length Ib] 45 (0,0))).alloc (.cells #[] 3 (0,0)):=⟨_,rfl⟩;have HW:=ga.mk Kf;have HB:=ga.mk (show Below w.heap.size w W1 by rw [Kf];exact oa (oa (Below.refl _ _) _) _);have HX:=ga.mk (show W1.heap[w.heap.size]? = some (.cells #[.slice yb Oa.length xb,.int .i64 Ka,.int .i64 Pa,.int .i64 Ja,.slice Rb Ga.length Ib] 45 (0,0)) by rw [Kf];exact Ca (Jm _ _) _)
 have HO:=ga.mk (show Kd.R (Kd.int .i64) 3 W1 w.heap.size (fun _=>True) (.slice (some ⟨w.heap.size + 1,0,none⟩) 0 0) [] by
  have h:=xE (Kd.int .i64) 3 (w.alloc (.cells #[.slice yb Oa.length xb,.int .i64 Ka,.int .i64 Pa,.int .i64 Ja,.slice Rb Ga.length Ib] 45 (0,0))) w.heap.size (by simp);rw [Kf]
  simpa using h)
 have Pk:=ga.mk fe;have QE:=ga.mk Ff;have XM:=ga.mk Yd;have WM:=ga.mk Hf;have hm4:=Ff.2.1;have HH:=ga.mk h;have hx0:=(ja HX.out 0).trans rfl;have hx1:=(ja HX.out 1).trans rfl;have hx2:=(ja HX.out 2).trans rfl;have vu:=(ja HX.out 3).trans rfl;have Uq:=(ja HX.out 4).trans rfl;clear Kf fe Ff Yd Hf h tT;go_enter Try.func30,Try.ntmps30
 go_upto_region 2 with (fail)
 rw [← HW.out];clear HW;cases t with
 | false =>
  have h:=HH.out;rw [if_neg (by simp)] at h;cases h;go_wp2_with (first|(go_at_call 66;(with_reducible refine (Ua.calls k yb xb Oa Ka Pa Ja Rb Ib Ga false W1 (Kd.Mb Pk.out HB.out) XM.out (Kd.Mb QE.out HB.out) WM.out TT_.out).mono ?_);rintro e w2 ⟨rfl,hb⟩;have yV:=ga.mk (Kd.ld HO.out hb);have Wo:=ga.mk (Ra HB.out hb);clear hb));go_ret;exact ⟨_,rfl,yV.out,Wo.out⟩
 | true =>
  have h:=HH.out;rw [if_pos rfl] at h;cases hin:Di a1 0 ((Ga.length:Int) - 1) with
  | false =>
   rw [hin,if_neg (by simp)] at h;cases h;have HIN:=ga.mk ((Hz a1 0 ((Ga.length:Int) - 1)).trans (congrArg some hin));clear hin;go_wp2_with (first|(go_at_call 66;(with_reducible refine (Ua.calls k yb xb Oa Ka Pa Ja Rb Ib Ga true W1 (Kd.Mb Pk.out HB.out) XM.out (Kd.Mb QE.out HB.out) WM.out TT_.out).mono ?_);rintro e w2 ⟨rfl,hb⟩;have yV:=ga.mk (Kd.ld HO.out hb);have Wo:=ga.mk (Ra HB.out hb);have qV:=ga.mk (Va HX.out hb);clear hb hx0 hx1 hx2 vu Uq;have Uq:=(ja qV.out 4).trans rfl)|(go_at_call 81;(with_reducible refine (Za.calls a1 0 ((Ga.length:Int) - 1) false w2 HIN.out).mono ?_);rintro e w3 ⟨rfl,⟨⟨nd,rfl⟩⟩⟩));go_ret;exact ⟨_,rfl,Kd.Wa yV.out _,ia Wo.out _⟩
  | true =>
   rw [hin,if_pos rfl] at h;have HIN:=ga.mk ((Hz a1 0 ((Ga.length:Int) - 1)).trans (congrArg some hin))
   have HA:=ga.mk (show 0 ≤ a1 from by
    unfold Di at hin;simp only [Bool.and_eq_true,decide_eq_true_eq] at hin
    exact hin.1)
   obtain ⟨M,tM,h⟩:=Option.bind_eq_some_iff.mp h
   by_cases hm:a1.toNat < M.length∧(M.getD a1.toNat []).length ≤ 1048576
   case neg=>rw [if_neg hm] at h;cases h
   rw [if_pos hm] at h;cases h;have TM:=ga.mk tM;obtain ⟨b,rfl⟩:∃ b:Nat,a1=(b:Int):=⟨a1.toNat,(Int.toNat_of_nonneg HA.out).symm⟩;rw [Int.toNat_natCast] at hm;obtain ⟨hm1,hm2⟩:=hm;obtain ⟨row,hrow⟩:∃ row,M.getD b []=row:=⟨_,rfl⟩;have wao:=ga.mk hrow;have HT:=ga.mk (show ig (M.getD ((b:Int)).toNat []) 0=ig row 0 from by rw [Int.toNat_natCast,hrow]);rw [hrow] at hm2;clear hrow;have p1:0 ≤ (b:Int):=by omega
   have p2:(b:Int) < (M.length:Int):=by omega
   clear hin tM HA HH
   go_upto_region 5 with (first|(go_at_call 66;(with_reducible refine (Ua.calls k yb xb Oa Ka Pa Ja Rb Ib Ga true W1 (Kd.Mb Pk.out HB.out) XM.out (Kd.Mb QE.out HB.out) WM.out TT_.out).mono ?_);rintro e w2 ⟨rfl,hb⟩;have yV:=ga.mk (Kd.ld HO.out hb);have Wo:=ga.mk (Ra HB.out hb);have qV:=ga.mk (Va HX.out hb);clear hb hx0 hx1 hx2 vu Uq;have Uq:=(ja qV.out 4).trans rfl)|(go_at_call 81;(with_reducible refine (Za.calls (b:Int) 0 ((Ga.length:Int) - 1) true w2 HIN.out).mono ?_);rintro e w3 ⟨rfl,⟨⟨nd,rfl⟩⟩⟩;have mA:=ga.mk (Kd.Wa yV.out nd);have WG:=ga.mk (ia Wo.out nd);have qQ:=ga.mk (Va qV.out (ia (Below.refl w2.heap.size w2) nd));clear Uq;have hx0:=(ja qQ.out 0).trans rfl;have hx1:=(ja qQ.out 1).trans rfl;have hx2:=(ja qQ.out 2).trans rfl;have vu:=(ja qQ.out 3).trans rfl;have Uq:=(ja qQ.out 4).trans rfl)|(go_at_call 67;(with_reducible refine (mb.calls k yb xb Oa Ka Pa Ja Rb Ib Ga M (w2.drewN nd) (Kd.Mb Pk.out WG.out) XM.out (Kd.Mb QE.out WG.out) WM.out TM.out).mono ?_);rintro e w4 ⟨v4,rfl,ho,hb⟩;obtain ⟨g,cap,rfl,-⟩:=Kd.vE ho (Nat.lt_of_le_of_lt (Nat.zero_le _) hm1);obtain ⟨Ar,cr,hrc,-,hrr⟩:=V0 ho hm1;rw [wao.out] at hrc hrr;have HRR:=ga.mk hrr;have yQ:=ga.mk (Ra WG.out hb);have HO4:=ga.mk (Kd.mab mA.out hb);have HZ4:=ga.mk hb.size;clear ho hb hrr hx0 hx1 hx2 vu Uq))
   have HRC:=ga.mk (fun W' hk=>Kd.qA (S:=fun k=>k < w2.heap.size) HRR.out (fun k hk e=>by have:=hk.2.2.1;have e2:(w2.drewN nd).heap.size=w2.heap.size:=rfl;omega) W' hk);have QE:=ga.mk (show Kd.R (Kd.int .i64) 3 w4 w.heap.size (fun k=>k < w2.heap.size ∨ w4.heap.size ≤ k) (.slice (some ⟨w.heap.size + 1,0,none⟩) 0 0) [] from Kd.Bc HO4.out (fun k hk=>Or.inl hk.2));clear HO yV mA HO4 HB Wo WG HX qV qQ hrc HIN TT_ HRR;generalize w2.heap.size=N2 at HRC QE;go_wp2
   go_loopg [5,7] row.length (fun gg v5 v7 wr=>∃ i:Nat,v7 = .int .i64 i∧i ≤ row.length∧row.length - i ≤ gg∧ga (Kd.R (Kd.int .i64) 3 wr w.heap.size (fun k=>k < N2 ∨ w4.heap.size ≤ k) v5 (ig (row.take i) 0))∧ga (Kept w4 wr (fun k=>k < N2))∧ga (Below w.heap.size w wr))
   case atStart=>exact ⟨0,rfl,Nat.zero_le _,by omega,QE,⟨Kept.refl _ _⟩,yQ⟩
   case round =>
    clear QE yQ;(try clear HR);(try clear HK);(try clear HB);obtain ⟨i,rfl,hi,o6,HR,HK,HB⟩:=hrel
    by_cases hlt:i < row.length
    ·have bC:decide ((i:Int) < (row.length:Int))=true:=decide_eq_true (by omega);have r1:0 ≤ (i:Int):=by omega
     have r2:(i:Int) < (row.length:Int):=by omega
     obtain ⟨ad,e1,hx⟩:=Kd.Jk (HRC.out wr HK.out) (i:Int) r1 r2;subst e1;rw [Int.toNat_natCast,show lg false row (i:Int)=row[i] from by simp [lg,List.getD_eq_getElem?_getD,hlt]] at hx;have HTT:=ga.mk (cu row i hlt);generalize row[i]=bv at hx HTT;cases bv with
     | false =>
      have HTN:=ga.mk (HTT.out.trans (if_neg (by simp)));go_wp2
      go_roundg (row.length - (i + 1))
      case measure=>omega
      case rel=>exact ⟨i + 1,by go_num,by omega,by omega,⟨by rw [HTN.out];exact HR.out⟩,HK,HB⟩
     | true =>
      have HTN:=ga.mk (HTT.out.trans (if_pos rfl));have HLL:=ga.mk (show ((ig (row.take i) 0).length + 1) * 8 ≤ 140737488355328 from by have:=Zj (row.take i) 0;rw [List.length_take] at this;omega);have HFR:=ga.mk (fun k (hk:wr.heap.size ≤ k)=>(Or.inr (Nat.le_trans HK.out.1 hk):k < N2 ∨ w4.heap.size ≤ k));go_wp2_with (first|(at_builtin;refine Kd.qp (Kd.int .i64) (w0:=w) w.heap.size rfl (.tmp 37) (.tmp 39) 22 3 (.int .i64 0) 8 rfl Try.underlying22 info3 rfl (by decide) (by omega) _ (ig (row.take i) 0) (i:Int) [.int .i64 (i:Int)] (fun k=>k < N2 ∨ w4.heap.size ≤ k) (fun _=>False) rfl rfl ?aP (fun _ hk=>hk.elim) HFR.out HR.out HB.out HB.out.size HLL.out ?_;(case aP=>exact rfl);intro v1 w1 ho hb hgr hat;have jN:=ga.mk ho;have nA:=ga.mk hb;have Nf:=ga.mk (Kept.ng hgr HK.out (fun k e=>HR.out.1 k e));clear ho hb hgr hat))
      go_roundg (row.length - (i + 1))
      case measure=>omega
      case rel=>exact ⟨i + 1,by go_num,by omega,by omega,⟨by rw [HTN.out];exact jN.out⟩,Nf,nA⟩
    ·have bC:decide ((i:Int) < (row.length:Int))=false:=decide_eq_false (by omega);have hie:i=row.length:=by omega
     have hti:ig (row.take i) 0=ig row 0:=by rw [hie,List.take_length]
     have HTI:=ga.mk hti;clear hie hti;go_wp2;go_ret;exact ⟨_,rfl,by rw [HT.out];have h:=HR.out;rw [HTI.out] at h;exact Kd.Bc h (fun _ _=>trivial),HB.out⟩
noncomputable def pg.f (k:Nat) (Oa:List Int) (Ka:Int) (Pa:Int) (Ja:Int) (Ga:List Uj) (a1:Int):Option Bool :=
 (Gh.f k Oa Ka Pa Ja Ga 1048576).bind fun s=>if s < 0 then some true else
 (Dg.f k Oa Ka Pa Ja Ga).bind fun G =>
 (Wi.f k G.1 G.2.1 G.2.2.1 G.2.2.2.1 G.2.2.2.2 a1).bind fun x =>
 (Cd.f k G.1 G.2.1 G.2.2.1 G.2.2.2.1 G.2.2.2.2 a1).bind fun y =>
 (ud.f k y x).bind fun e1=>if e1=true then
 (Xh.f k G.1 G.2.1 G.2.2.1 G.2.2.2.1 G.2.2.2.2 G.1 G.2.1 G.2.2.1 G.2.2.2.1 G.2.2.2.2).bind fun e2=>if e2=true then
 (Eg.f k G.1 G.2.1 G.2.2.1 G.2.2.2.1 G.2.2.2.2 1).bind fun M=>if M.1 < 0 then none else
 (Qd.f k y 1).bind fun m=>(Xd.f k m.2 1).bind fun q=>if q < 0 then none else if q=m.1 then some true else none
 else none else none
theorem pg.calls (k:Nat) (yb:Option Addr) (xb:Nat) (Oa:List Int) (Ka:Int) (Pa:Int) (Ja:Int) (Rb:Option Addr) (Ib:Nat) (Ga:List Uj) (a1:Int) (r:Bool) (w:World) (fe:Kd.C (Kd.int .i64) w yb Oa.length Oa) (Yd:Oa.length ≤ xb) (Ff:Kd.C Dz w Rb Ga.length Ga) (Hf:Ga.length ≤ Ib) (h:pg.f k Oa Ka Pa Ja Ga a1=some r) :
  Calls Try.prog 6 #[.agg #[.slice yb Oa.length xb,.int .i64 Ka,.int .i64 Pa,.int .i64 Ja,.slice Rb Ga.length Ib],.int .i64 a1] w fun e w'=>e = .returned (.bool r)∧Below w.heap.size w w':=by
 unfold pg.f at h;obtain ⟨s,hs,h⟩:=Option.bind_eq_some_iff.mp h;have HSZ:=ga.mk hs;have Pk:=ga.mk fe;have QE:=ga.mk Ff;have XM:=ga.mk Yd;have WM:=ga.mk Hf;obtain ⟨W1,Kf⟩:∃ W1,W1=w.alloc (.cells #[.slice yb Oa.length xb,.int .i64 Ka,.int .i64 Pa,.int .i64 Ja,.slice Rb Ga.length Ib] 40 (0,0)):=⟨_,rfl⟩;have HW:=ga.mk Kf;have nA:=ga.mk (show Below w.heap.size w W1 by rw [Kf];exact oa (Below.refl _ _) _);have dJ:=ga.mk (show W1.heap[w.heap.size]? = some (.cells #[.slice yb Oa.length xb,.int .i64 Ka,.int .i64 Pa,.int .i64 Ja,.slice Rb Ga.length Ib] 40 (0,0)) by rw [Kf];exact Jm _ _);clear hs fe Ff Yd Hf Kf
 by_cases hneg:s < 0
 ·rw [if_pos hneg] at h;obtain rfl:=Option.some.inj h;have hnb:decide (s < 0)=true:=decide_eq_true hneg;clear h hneg;have DM:=(ja dJ.out 0).trans rfl;have uA:=(ja dJ.out 1).trans rfl;have hg2:=(ja dJ.out 2).trans rfl;have iH:=(ja dJ.out 3).trans rfl;have gH:=(ja dJ.out 4).trans rfl;go_enter Try.func6,Try.ntmps6
  go_upto_region 1 with (fail)
  rw [← HW.out];clear HW;go_wp2_with (first|(go_at_call 25;(with_reducible refine (Gh.calls k yb xb Oa Ka Pa Ja Rb Ib Ga 1048576 s W1 (Kd.Mb Pk.out nA.out) XM.out (Kd.Mb QE.out nA.out) WM.out HSZ.out).mono ?_);rintro e w2 ⟨rfl,hb⟩;have Wo:=ga.mk (Ra nA.out hb);have AX:=ga.mk (Va dJ.out hb);clear hb));go_ret;exact ⟨rfl,Wo.out⟩
 ·rw [if_neg hneg] at h;have hnb:decide (s < 0)=false:=decide_eq_false hneg;obtain ⟨⟨g1,g2,g3,g4,g5⟩,tG,h⟩:=Option.bind_eq_some_iff.mp h;obtain ⟨x,tX,h⟩:=Option.bind_eq_some_iff.mp h;obtain ⟨y,tY,h⟩:=Option.bind_eq_some_iff.mp h;obtain ⟨e1,tE,h⟩:=Option.bind_eq_some_iff.mp h;obtain rfl:e1=true:=by cases e1 with|false=>simp at h|true=>rfl
  rw [if_pos rfl] at h;obtain ⟨e2,tF,h⟩:=Option.bind_eq_some_iff.mp h;obtain rfl:e2=true:=by cases e2 with|false=>simp at h|true=>rfl
  rw [if_pos rfl] at h;obtain ⟨⟨M1,M2,M3⟩,tM,h⟩:=Option.bind_eq_some_iff.mp h;have hM:¬ M1 < 0:=fun hm=>by rw [if_pos hm] at h;cases h
  rw [if_neg hM] at h;obtain ⟨⟨m1,m2⟩,tm,h⟩:=Option.bind_eq_some_iff.mp h;obtain ⟨q,tq,h⟩:=Option.bind_eq_some_iff.mp h;have hq:¬ q < 0:=fun hm=>by rw [if_pos hm] at h;cases h
  rw [if_neg hq] at h;have hqm:q=m1:=Decidable.byContradiction fun hm=>by rw [if_neg hm] at h;cases h
  rw [if_pos hqm] at h;obtain rfl:=Option.some.inj h;subst hqm;have hMb:decide (M1 < 0)=false:=decide_eq_false hM;have hqb:decide (q < 0)=false:=decide_eq_false hq;have TG:=ga.mk tG;have TX:=ga.mk tX;have TY:=ga.mk tY;have TE:=ga.mk tE;have TF:=ga.mk tF;have TM:=ga.mk tM;have Tm:=ga.mk tm;have Tq:=ga.mk tq;clear tG tX tY tE tF tM tm tq hM hq hneg h;have DM:=(ja dJ.out 0).trans rfl;have uA:=(ja dJ.out 1).trans rfl;have hg2:=(ja dJ.out 2).trans rfl;have iH:=(ja dJ.out 3).trans rfl;have gH:=(ja dJ.out 4).trans rfl;go_enter Try.func6,Try.ntmps6
  go_upto_region 1 with (fail)
  rw [← HW.out];clear HW
  go_upto_region 5 with (first|(go_at_call 25;(with_reducible refine (Gh.calls k yb xb Oa Ka Pa Ja Rb Ib Ga 1048576 s W1 (Kd.Mb Pk.out nA.out) XM.out (Kd.Mb QE.out nA.out) WM.out HSZ.out).mono ?_);rintro e w2 ⟨rfl,hb⟩;have Wo:=ga.mk (Ra nA.out hb);have AX:=ga.mk (Va dJ.out hb);clear hb nA dJ DM uA hg2 iH gH))
  have DM:=(ja AX.out 0).trans rfl;have uA:=(ja AX.out 1).trans rfl;have hg2:=(ja AX.out 2).trans rfl;have iH:=(ja AX.out 3).trans rfl;have gH:=(ja AX.out 4).trans rfl
  go_upto_region 6 with (first|(go_at_call 27;(with_reducible refine (Dg.calls k yb xb Oa Ka Pa Ja Rb Ib Ga g1 g2 g3 g4 g5 w2 (Kd.Mb Pk.out Wo.out) XM.out (Kd.Mb QE.out Wo.out) WM.out TG.out).mono ?_);rintro e w3 ⟨v0,v4,rfl,qj,MA,hb⟩;obtain ⟨B0,d0,rfl⟩:=Kd.xd qj;obtain ⟨B4,d4,rfl⟩:=Kd.yq MA;have sQ:=ga.mk qj;have rQ:=ga.mk MA;have WG:=ga.mk (Ra Wo.out hb);have HG3:=ga.mk (Va AX.out hb);have z23:=hb.size;clear qj MA hb Wo AX DM uA hg2 iH gH)|(go_at_call 30;(with_reducible refine (Wi.calls k B0 d0 g1 g2 g3 g4 B4 d4 g5 a1 x w3 (Kd.Fb sQ.out).2.2 (Kd.Fb sQ.out).2.1 (Kd.Pg rQ.out).2.2 (Kd.Pg rQ.out).2.1 TX.out).mono ?_);rintro e w4 ⟨vx,rfl,ho,hb⟩;have HOW:=ga.mk (qH ho WG.out.size);have yQ:=ga.mk (Ra WG.out hb);have xQ:=ga.mk (Va HG3.out hb);have z34:=hb.size;obtain ⟨D0,f0,rfl⟩:=Kd.xd ho;clear ho hb sQ rQ WG HG3))
  have hzw:=Pc xQ.out;have DM:=(ja xQ.out 0).trans rfl;have uA:=(ja xQ.out 1).trans rfl;have hg2:=(ja xQ.out 2).trans rfl;have iH:=(ja xQ.out 3).trans rfl;have gH:=(ja xQ.out 4).trans rfl
  go_upto_region 7 with (first|(go_at_call 27;(with_reducible refine (Dg.calls k yb xb Oa Ka Pa Ja Rb Ib Ga g1 g2 g3 g4 g5 w4 (Kd.Mb Pk.out yQ.out) XM.out (Kd.Mb QE.out yQ.out) WM.out TG.out).mono ?_);rintro e w5 ⟨v0,v4,rfl,qj,MA,hb⟩;obtain ⟨B0,d0,rfl⟩:=Kd.xd qj;obtain ⟨B4,d4,rfl⟩:=Kd.yq MA;have HX0:=ga.mk (qH qj yQ.out.size);have HX4:=ga.mk (UX MA yQ.out.size);have HB5:=ga.mk (Ra yQ.out hb);have zX:=ga.mk (Va xQ.out hb);have aac:=ga.mk (Kd.ld HOW.out hb);have z45:=hb.size;clear qj MA hb yQ xQ HOW DM uA hg2 iH gH))
  have hz6:(w5.alloc (.cells #[.slice B0 g1.length d0,.int .i64 g2,.int .i64 g3,.int .i64 g4,.slice B4 g5.length d4] 45 (0,0))).heap.size=w5.heap.size + 1:=by simp
  have pZ:=oa (Below.refl w5.heap.size w5) (.cells #[.slice B0 g1.length d0,.int .i64 g2,.int .i64 g3,.int .i64 g4,.slice B4 g5.length d4] 45 (0,0));have SB:=Jm w5 (.cells #[.slice B0 g1.length d0,.int .i64 g2,.int .i64 g3,.int .i64 g4,.slice B4 g5.length d4] 45 (0,0));generalize w5.alloc (.cells #[.slice B0 g1.length d0,.int .i64 g2,.int .i64 g3,.int .i64 g4,.slice B4 g5.length d4] 45 (0,0))=w6 at hz6 pZ SB ⊢;have HB6:=ga.mk (Ra HB5.out pZ);have HG6:=ga.mk (Va zX.out pZ);have Zab:=ga.mk (Kd.ld aac.out pZ);have sV:=ga.mk (Kd.ld HX0.out pZ);have pV:=ga.mk (Kd.Rj HX4.out pZ);have N1:=ga.mk SB;have Z56:=ga.mk hz6;clear hz6 pZ SB HB5 zX aac HX0 HX4;have hx0:=(ja N1.out 0).trans rfl;have hx1:=(ja N1.out 1).trans rfl;have hx2:=(ja N1.out 2).trans rfl;have vu:=(ja N1.out 3).trans rfl;have Uq:=(ja N1.out 4).trans rfl
  go_upto_region 8 with (first|(go_at_call 31;(with_reducible refine (Cd.calls k B0 d0 g1 g2 g3 g4 B4 d4 g5 a1 y w6 (Kd.Fb sV.out).2.2 (Kd.Fb sV.out).2.1 (Kd.Pg pV.out).2.2 (Kd.Pg pV.out).2.1 TY.out).mono ?_);rintro e w7 ⟨vy,rfl,ho,hb⟩;have HOG:=ga.mk (qH ho HB6.out.size);have D4:=ga.mk (Ra HB6.out hb);have HG7:=ga.mk (Va HG6.out hb);have HX7:=ga.mk (Va N1.out hb);have wV:=ga.mk (Kd.ld Zab.out hb);have Rab:=ga.mk (Kd.ld sV.out hb);have Iab:=ga.mk (Kd.Rj pV.out hb);have z67:=hb.size;obtain ⟨E0,q0,rfl⟩:=Kd.xd ho;clear ho hb HB6 HG6 N1 Zab sV pV hx0 hx1 hx2 vu Uq))
  have xV:=HOG;clear HOG
  go_upto_region 10 with (first|(go_at_call 17;(with_reducible refine (ud.calls k E0 q0 y D0 f0 x true w7 (Kd.Fb xV.out).2.2 (Kd.Fb xV.out).2.1 (Kd.Fb wV.out).2.2 (Kd.Fb wV.out).2.1 TE.out).mono ?_);rintro e w8 ⟨rfl,hb0⟩;have hb:Below _ _ _:=hb0.below;have HB8:=ga.mk (Ra D4.out hb);have UQ:=ga.mk (Va HG7.out hb);have L1:=ga.mk (Va HX7.out hb);have Yab:=ga.mk (Kd.ld wV.out hb);have Qab:=ga.mk (Kd.ld Rab.out hb);have Hab:=ga.mk (Kd.Rj Iab.out hb);have cac:=ga.mk (Kd.ld xV.out hb);have z78:=hb.size;clear hb hb0 D4 HG7 HX7 wV Rab Iab xV))
  have HB9:=ga.mk (qa HB8.out);have yX:=ga.mk (Ea UQ.out);have HX9:=ga.mk (Ea L1.out);have X2:=ga.mk (Kd.qb Yab.out);have T1:=ga.mk (Kd.qb Qab.out);have O1:=ga.mk (Kd.xg Hab.out);have Y2:=ga.mk (Kd.qb cac.out);have z89:w8.heap.size ≤ w8.drew.heap.size:=Nat.le_refl _;refine bk (n:=5) (S:=fun w'=>w'.cell? ⟨w5.heap.size,0,none⟩=some (.slice B0 g1.length d0)∧w'.cell? ⟨w5.heap.size,1,none⟩=some (.int .i64 g2)∧w'.cell? ⟨w5.heap.size,2,none⟩=some (.int .i64 g3)∧w'.cell? ⟨w5.heap.size,3,none⟩=some (.int .i64 g4)∧w'.cell? ⟨w5.heap.size,4,none⟩=some (.slice B4 g5.length d4)∧w'.cell? ⟨w.heap.size,0,none⟩=some (.slice yb Oa.length xb)∧w'.cell? ⟨w.heap.size,1,none⟩=some (.int .i64 Ka)∧w'.cell? ⟨w.heap.size,2,none⟩=some (.int .i64 Pa)∧w'.cell? ⟨w.heap.size,3,none⟩=some (.int .i64 Ja)∧w'.cell? ⟨w.heap.size,4,none⟩=some (.slice Rb Ga.length Ib)) (ds:=[]) #[false,false,false,false,false] (by kernel_rfl) rfl rfl ⟨(ja L1.out 0).trans rfl,(ja L1.out 1).trans rfl,(ja L1.out 2).trans rfl,(ja L1.out 3).trans rfl,(ja L1.out 4).trans rfl,(ja UQ.out 0).trans rfl,(ja UQ.out 1).trans rfl,(ja UQ.out 2).trans rfl,(ja UQ.out 3).trans rfl,(ja UQ.out 4).trans rfl⟩ (fun hHeld=>?_);generalize w8.drew=w9 at HB9 yX HX9 X2 T1 O1 Y2 z89 hHeld ⊢;refine Og (i:=0) (N:=some 31) (v:=?_) (a':=?_) #[true,false,false,false,false] rfl rfl (by kernel_rfl) (fun _ _ _ h=>h) (Or.inl ⟨by rfl,?_⟩) hHeld ?_ ?_;rotate_left
  ·rintro w' ⟨s0,s1,s2,s3,s4,s5,s6,s7,s8,s9⟩;go_simp;with_reducible rfl
  rotate_left
  ·simp only [Act.put,List.setIfInBounds_toArray,List.set_cons_zero,List.set_cons_succ,Yb,Zb]
   rfl
  refine Og (i:=1) (N:=some 32) (v:=?_) (a':=?_) #[true,true,false,false,false] rfl rfl (by kernel_rfl) (fun _ _ _ h=>h) (Or.inl ⟨by rfl,?_⟩) hHeld ?_ ?_;rotate_left
  ·rintro w' ⟨s0,s1,s2,s3,s4,s5,s6,s7,s8,s9⟩;go_simp;with_reducible rfl
  rotate_left
  ·simp only [Act.put,List.setIfInBounds_toArray,List.set_cons_zero,List.set_cons_succ,Yb,Zb]
   rfl
  refine Gu (i:=2) (N:=some 33) #[true,true,true,false,false] rfl rfl (by kernel_rfl) (by decide) (fun K hK=>?_);refine Iq Try.func27 (by kernel_rfl) rfl #[.agg #[.slice yb Oa.length xb,.int .i64 Ka,.int .i64 Pa,.int .i64 Ja,.slice Rb Ga.length Ib]] (by rfl) rfl rfl (by simp only [List.map_toArray,List.map_cons,List.map_nil];rfl) ?_;with_reducible refine (Dg.calls k yb xb Oa Ka Pa Ja Rb Ib Ga g1 g2 g3 g4 g5 w9 (Kd.Mb Pk.out HB9.out) XM.out (Kd.Mb QE.out HB9.out) WM.out TG.out).mono ?_
  rintro e Bp ⟨v0,v4,rfl,qj,MA,hb⟩;refine ⟨_,rfl,?_⟩;have Gac:=ga.mk (Ra HB9.out hb);have Dx:=ga.mk (Va yX.out hb);have YI:=ga.mk (Va HX9.out hb);have nX:=ga.mk (Kd.ld X2.out hb);have QL:=ga.mk (Kd.ld T1.out hb);have PL:=ga.mk (Kd.Rj O1.out hb);have vX:=ga.mk (Kd.ld Y2.out hb);have bau:=hb.size;obtain ⟨F0,i0,rfl⟩:=Kd.xd qj;obtain ⟨F4,i4,rfl⟩:=Kd.yq MA;have sQ:=ga.mk qj;have rQ:=ga.mk MA;clear qj MA hb HB9 yX HX9 X2 T1 O1 Y2;refine hK.out _ _ ⟨(ja YI.out 0).trans rfl,(ja YI.out 1).trans rfl,(ja YI.out 2).trans rfl,(ja YI.out 3).trans rfl,(ja YI.out 4).trans rfl,(ja Dx.out 0).trans rfl,(ja Dx.out 1).trans rfl,(ja Dx.out 2).trans rfl,(ja Dx.out 3).trans rfl,(ja Dx.out 4).trans rfl⟩ (fun hHeld=>?_);clear hK K;refine zn (a':=?_) ?_ ?_;rotate_left
  ·show Act.put _ (some 33) _=_
   simp only [Act.put,List.setIfInBounds_toArray,List.set_cons_zero,List.set_cons_succ,Yb,Zb]
   rfl
  refine Gu (i:=3) (N:=some 34) #[true,true,true,true,false] rfl rfl (by kernel_rfl) (by decide) (fun K hK=>?_);refine Iq Try.func29 (by kernel_rfl) rfl #[.agg #[.slice B0 g1.length d0,.int .i64 g2,.int .i64 g3,.int .i64 g4,.slice B4 g5.length d4],.agg #[.slice F0 g1.length i0,.int .i64 g2,.int .i64 g3,.int .i64 g4,.slice F4 g5.length i4]] (by rfl) rfl rfl (by simp only [List.map_toArray,List.map_cons,List.map_nil];rfl) ?_;with_reducible refine (Xh.calls k B0 d0 g1 g2 g3 g4 B4 d4 g5 F0 i0 g1 g2 g3 g4 F4 i4 g5 true Bp (Kd.Fb QL.out).2.2 (Kd.Fb QL.out).2.1 (Kd.Pg PL.out).2.2 (Kd.Pg PL.out).2.1 (Kd.Fb sQ.out).2.2 (Kd.Fb sQ.out).2.1 (Kd.Pg rQ.out).2.2 (Kd.Pg rQ.out).2.1 TF.out).mono ?_
  rintro e Ti ⟨rfl,hb⟩;refine ⟨_,rfl,?_⟩;have Fac:=ga.mk (Ra Gac.out hb);have cJ:=ga.mk (Va Dx.out hb);have jA:=ga.mk (Va YI.out hb);have mX:=ga.mk (Kd.ld nX.out hb);have eX:=ga.mk (Kd.ld QL.out hb);have dX:=ga.mk (Kd.Rj PL.out hb);have uX:=ga.mk (Kd.ld vX.out hb);have Yao:=hb.size;clear hb sQ rQ Gac Dx YI nX QL PL vX;refine hK.out _ _ ⟨(ja jA.out 0).trans rfl,(ja jA.out 1).trans rfl,(ja jA.out 2).trans rfl,(ja jA.out 3).trans rfl,(ja jA.out 4).trans rfl,(ja cJ.out 0).trans rfl,(ja cJ.out 1).trans rfl,(ja cJ.out 2).trans rfl,(ja cJ.out 3).trans rfl,(ja cJ.out 4).trans rfl⟩ (fun hHeld=>?_);clear hK K;refine zn (a':=?_) ?_ ?_;rotate_left
  ·show Act.put _ (some 34) _=_
   simp only [Act.put,List.setIfInBounds_toArray,List.set_cons_zero,List.set_cons_succ,Yb,Zb]
   rfl
  refine jd (i:=4) (N:=some 35) (v:=?_) (a':=?_) #[true,true,true,true,true] rfl rfl (by kernel_rfl) (fun _ _ _ h=>h) (Or.inl ⟨by rfl,?_⟩) ?_ ?_;rotate_left
  ·intro w';go_simp;with_reducible rfl
  rotate_left
  ·simp only [Act.put,List.setIfInBounds_toArray,List.set_cons_zero,List.set_cons_succ,Yb,Zb]
   rfl
  refine uo (by kernel_rfl) ?_;clear HB8 UQ L1 Yab Qab Hab cac;have hx0:=(ja jA.out 0).trans rfl;have hx1:=(ja jA.out 1).trans rfl;have hx2:=(ja jA.out 2).trans rfl;have vu:=(ja jA.out 3).trans rfl;have Uq:=(ja jA.out 4).trans rfl
  go_upto_region 14 with (first|(go_at_call 32;(with_reducible refine (Eg.calls k _ _ g1 g2 g3 g4 _ _ g5 1 M1 M2 M3 w Ti Fac.out eX.out dX.out TM.out).mono ?_);rintro e zw ⟨rfl,_,_,hb,hk⟩;have AQ:=ga.mk hb;have AV:=ga.mk (Kept.mono hk (fun k_ Kw=>(Or.elim Kw id id:w4.heap.size ≤ k_∧k_ < w5.heap.size)));have Xao:=hk.1;clear hb hk hx0 hx1 hx2 vu Uq))
  have yac:=ga.mk (Ih cJ.out AV.out (by omega));have TL:=ga.mk (Kd.Jr mX.out AV.out (by intro k_ h1 h2;omega));have UL:=ga.mk (Kd.Jr uX.out AV.out (by have:=Z56.out;intro k_ h1 h2;omega));clear cJ mX uX jA eX dX Fac AV
  go_upto_region 17 with (first|(go_at_call 17;(with_reducible refine (ud.calls k E0 q0 y D0 f0 x true zw (Kd.Fb UL.out).2.2 (Kd.Fb UL.out).2.1 (Kd.Fb TL.out).2.2 (Kd.Fb TL.out).2.1 TE.out).mono ?_);rintro e OE ⟨rfl,hb0⟩;have hb:Below _ _ _:=hb0.below;have Eac:=ga.mk (Ra AQ.out hb);have xac:=ga.mk (Va yac.out hb);have lX:=ga.mk (Kd.ld TL.out hb);have sX:=ga.mk (Kd.ld UL.out hb);have Wao:=hb.size;clear hb hb0 AQ yac TL UL))
  go_upto_region 19 with (first|(go_at_call 20;(with_reducible refine (Qd.calls k _ _ y 1 q m2 w OE Eac.out sX.out Tm.out).mono ?_);rintro e eH ⟨rfl,ho,hb,hk⟩;have Dac:=ga.mk hb;have Z2:=ga.mk hk;have SG:=ga.mk ho;have Vao:=hk.1;clear hb hk ho))
  have wac:=ga.mk (Ih xac.out Z2.out (by have:=Z56.out;omega));have kX:=ga.mk (Kd.Jr lX.out Z2.out (by have:=Z56.out;intro k_ h1 h2;omega));have hlm:m2.length=y.length:=(Kd.Fb SG.out).1.symm;have HLM:=ga.mk hlm;clear xac lX sX Eac Z2 hlm
  go_upto_region 24 with (first|(go_at_call 21;(with_reducible refine (Ov k E0 q0 y.length m2 1 q eH HLM.out (Kd.Fb SG.out).2.2 (Kd.Fb SG.out).2.1 Tq.out).mono ?_);rintro e Xo ⟨rfl,hb0⟩;have hb:Below _ _ _:=hb0.below;have YG:=ga.mk (Ra Dac.out hb);have WA:=ga.mk (Va wac.out hb);have jX:=ga.mk (Kd.ld kX.out hb);have rX:=ga.mk (Kd.ld SG.out hb);have Uao:=hb.size;clear hb hb0 Dac wac kX SG))
  have DM:=(ja WA.out 0).trans rfl;have uA:=(ja WA.out 1).trans rfl;have hg2:=(ja WA.out 2).trans rfl;have iH:=(ja WA.out 3).trans rfl;have gH:=(ja WA.out 4).trans rfl
  go_upto_region 25 with (first|(go_at_call 27;(with_reducible refine (Dg.calls k yb xb Oa Ka Pa Ja Rb Ib Ga g1 g2 g3 g4 g5 Xo (Kd.Mb Pk.out YG.out) XM.out (Kd.Mb QE.out YG.out) WM.out TG.out).mono ?_);rintro e XA ⟨v0,v4,rfl,qj,MA,hb⟩;obtain ⟨F0,i0,rfl⟩:=Kd.xd qj;obtain ⟨F4,i4,rfl⟩:=Kd.yq MA;have sQ:=ga.mk qj;have rQ:=ga.mk MA;have Cac:=ga.mk (Ra YG.out hb);have vac:=ga.mk (Va WA.out hb);have iX:=ga.mk (Kd.ld jX.out hb);have qX:=ga.mk (Kd.ld rX.out hb);have Tao:=hb.size;clear qj MA hb YG WA jX rX DM uA hg2 iH gH)|(go_at_call 31;(with_reducible refine (Cd.calls k F0 i0 g1 g2 g3 g4 F4 i4 g5 a1 y XA (Kd.Fb sQ.out).2.2 (Kd.Fb sQ.out).2.1 (Kd.Pg rQ.out).2.2 (Kd.Pg rQ.out).2.1 TY.out).mono ?_);rintro e Qk ⟨vz,rfl,ho,hb⟩;have tQ:=ga.mk ho;have Bac:=ga.mk (Ra Cac.out hb);have uac:=ga.mk (Va vac.out hb);have SL:=ga.mk (Kd.ld iX.out hb);have pX:=ga.mk (Kd.ld qX.out hb);have Sao:=hb.size;obtain ⟨J0,j0,rfl⟩:=Kd.xd ho;clear ho hb sQ rQ Cac vac iX qX))
  go_upto_region 28 with (first|(go_at_call 17;(with_reducible refine (ud.calls k J0 j0 y D0 f0 x true Qk (Kd.Fb tQ.out).2.2 (Kd.Fb tQ.out).2.1 (Kd.Fb SL.out).2.2 (Kd.Fb SL.out).2.1 TE.out).mono ?_);rintro e dH ⟨rfl,hb0⟩;have hb:Below _ _ _:=hb0.below;have XG:=ga.mk (Ra Bac.out hb);have aaw:=ga.mk (Va uac.out hb);have vat:=ga.mk (Kd.ld SL.out hb);have oX:=ga.mk (Kd.ld pX.out hb);have Rao:=hb.size;clear hb hb0 Bac uac SL pX tQ))
  go_wp2_with (first|(go_at_call 21;(with_reducible refine (Ov k E0 q0 y.length m2 1 q dH HLM.out (Kd.Fb oX.out).2.2 (Kd.Fb oX.out).2.1 Tq.out).mono ?_);rintro e yw ⟨rfl,hb0⟩;have hb:Below _ _ _:=hb0.below;have Hao:=ga.mk (Ra XG.out hb);clear hb hb0));go_ret;exact ⟨rfl,Hao.out⟩
def ou (s:List Bool):List Int:=s.map fun b=>if b=true then 1 else 0
theorem Er (s:List Bool):(ou s).length=s.length:=by simp [ou]
theorem xL (s:List Bool) {j:Int} (h0:0 ≤ j) (h1:j < (s.length:Int)):rd (ou s) j=if seen s j.toNat=true then 1 else 0:=by
 have hl:j.toNat < s.length:=by omega
 simp [rd,ou,seen,List.getD_eq_getElem?_getD,hl]
theorem nG (s:List Bool) (i:Nat):(ou s).set i 1=ou (s.set i true):=by
 unfold ou;rw [List.map_set]
 rfl
theorem tP (n:Nat) (hn:n ≤ 1048576):Ev (fun k=>qd.f k (n:Int)) (List.replicate n 0):=by
 unfold qd.f;have key:=mh (r:=List.replicate n (0:Int)) (n:=n) (fun i=>Ev (fun k=>qd.l0 k (n:Int) (List.replicate i 0) (i:Int)) (List.replicate n 0)) ?_ ?_ 0 (by omega)
 ·exact key
 ·refine Ev.step (fun k=>by rw [qd.l0]) ?_;exact Ev.neg (by omega) (Ev.now _)
 ·intro i hi h;refine Ev.step (fun k=>by rw [qd.l0]) ?_;refine Ev.pos (by omega) (Ev.pos (by rw [List.length_replicate];omega) ?_);rw [Ke hi (by omega),← List.replicate_succ'];exact h
section
variable {l0:List Int} {p v s:Int} {bs:List jf}
theorem fE {ys acc:List Int} {r:List Int} {n:Nat} (hn:n ≤ 1048576) (hy:ys.length ≤ 2) :
  ∀ (d i:Nat) (sn:List Bool) (q:List Int),i + d=ys.length→sn.length=n→q.length + d ≤ 4 * n + 8→(∀ j ∈ ys,0 ≤ j∧j < n) →
  Ev (fun k=>Gb.l0 k acc (ou ((ys.drop i).foldl uf (sn,q)).1) ((ys.drop i).foldl uf (sn,q)).2 l0 p v s bs) r→Ev (fun k=>Gb.l1 k acc (ou sn) q ys (i:Int) l0 p v s bs) r:=by
 intro d
 induction d with
 | zero =>
  intro i sn q hi hs hq hr he;have e:i=ys.length:=by omega
  subst e;rw [List.drop_length] at he;refine Ev.step (fun k=>by rw [Gb.l1]) ?_;exact Ev.neg (by omega) he
 | succ d ih =>
  intro i sn q hi hs hq hr he;have hi':i < ys.length:=by omega
  obtain ⟨j0,j1⟩:=hr ys[i] (List.getElem_mem hi');have hrd:rd ys (i:Int)=ys[i]:=by rw [JB,List.getD_eq_getElem?_getD,List.getElem?_eq_getElem hi'];rfl
  rw [List.drop_eq_getElem_cons hi',List.foldl_cons] at he;refine Ev.step (fun k=>by rw [Gb.l1]) ?_;refine Ev.pos (by omega) (Ev.pos (by omega) ?_);rw [hrd];refine Ev.pos j0 (Ev.pos (by rw [Er];omega) ?_);rw [Ke hi' (by omega),xL sn j0 (by omega)]
  by_cases hc:seen sn ys[i].toNat=true
  ·rw [if_pos hc];refine Ev.neg (by decide) ?_;have e:uf (sn,q) ys[i]=(sn,q):=by unfold uf;rw [if_pos hc]
   rw [e] at he;exact ih (i + 1) sn q (by omega) hs (by omega) hr he
  ·rw [if_neg hc];refine Ev.pos rfl (Ev.pos (by omega) ?_);have e:uf (sn,q) ys[i]=(sn.set ys[i].toNat true,q ++ [ys[i]]):=by unfold uf;rw [if_neg hc]
   rw [e] at he;rw [nG];exact ih (i + 1) _ _ (by omega) (by rw [List.length_set];exact hs) (by rw [List.length_append,List.length_singleton];omega) hr he
theorem Tz {r:List Int} (hE:Pf bs) (hend:∀ sn:List Bool,sn.length=bs.length→(∀ j,seen sn j=true ↔ Ym (Th bs) j)→Ev (fun k=>Gb.l2 k [] (ou sn) 0) r) :
  ∀ (m:Nat) (sn:List Bool) (q:List Int),2 * news sn + q.length ≤ m→VA bs.length (Th bs) sn q→(∀ j,seen sn j=true→(j:Int) ∉ q→∀ m ∈ Th bs j,seen sn m.toNat=true)→Ev (fun k=>Gb.l0 k [] (ou sn) q l0 p v s bs) r:=by
 have hn:=hE.2.1;intro m
 induction m with
 | zero =>
  intro sn q hm h hs;cases q with
  | cons i q=>rw [List.length_cons] at hm;omega
  | nil =>
   refine Ev.step (fun k=>by rw [Gb.l0]) ?_;exact Ev.neg (by simp) (hend sn h.len (TU h (fun j hj=>hs j hj (by simp))))
 | succ m ih =>
  intro sn q hm h hs;cases q with
  | nil =>
   refine Ev.step (fun k=>by rw [Gb.l0]) ?_;exact Ev.neg (by simp) (hend sn h.len (TU h (fun j hj=>hs j hj (by simp))))
  | cons i q =>
   obtain ⟨h0,h1,h2⟩:=h.vN i (by simp);have hi:i.toNat < bs.length:=by omega
   have hR:=h.fH _ h2;have hc:=h.cap;rw [List.length_cons] at hc hm;have g:VA bs.length (Th bs) sn q:=⟨h.len,fun j hj=>h.vN j (by simp [hj]),h.fH,by omega,h.XQ⟩
   have gs:Shut (Th bs) sn q i.toNat:=by
    intro j hj hq hji;refine hs j hj ?_;intro hmem
    rcases List.mem_cons.mp hmem with e|e
    ·exact hji (by omega)
    ·exact hq e
   obtain ⟨a1,a2,a3,a4,a5⟩:=kF hR (Th bs i.toNat) sn q g gs (fun j hj=>⟨(hE.2.2 _ hi j hj).1,(hE.2.2 _ hi j hj).2,hj⟩);have hit:((i.toNat:Nat):Int)=i:=Int.toNat_of_nonneg h0;have fW:(Th bs i.toNat).length ≤ 2:=Br _;have R3:Cg.f (Sa bs i).f0 (Sa bs i).f1 (Sa bs i).f2 (Sa bs i).f3 (Sa bs i).f4=some (Th bs i.toNat):=by unfold Th;rw [hit];exact eB _
   have hrd:rd (i :: q) 0=i:=rfl;refine Ev.step (fun k=>by rw [Gb.l0]) ?_;refine Ev.pos (by rw [List.length_cons];omega) (Ev.pos (by rw [List.length_cons];omega) ?_);rw [hrd];refine Ev.pos h0 (Ev.pos h1 ?_);rw [R3];refine Ev.val (Ev.pos (by rw [List.length_cons];omega) ?_);have hl:=h.len;refine fE (n:=bs.length) hn fW (Th bs i.toNat).length 0 sn q (by omega) hl (by omega) (hE.2.2 _ hi) ?_;refine ih _ _ (by rw [List.drop_zero];omega) (by rw [List.drop_zero];exact a1) ?_;rw [List.drop_zero];intro j hj hq
   by_cases e:j=i.toNat
   ·intro m hm';rw [e] at hm';exact a3 m hm'
   ·exact a2 j hj hq e
theorem eE (sn:List Bool) (hs:sn.length ≤ 1048576):Ev (fun k=>Gb.l2 k [] (ou sn) 0) (ig sn 0):=by
 have key:=mh (r:=ig sn 0) (n:=sn.length) (fun i=>Ev (fun k=>Gb.l2 k (ig (sn.take i) 0) (ou sn) (i:Int)) (ig sn 0)) ?_ ?_ 0 (by omega)
 ·exact key
 ·refine Ev.step (fun k=>by rw [Gb.l2]) ?_;refine Ev.neg (by rw [Er];omega) ?_;rw [List.take_length];exact Ev.now _
 ·intro i hi h;have ht:=Zj (sn.take i) 0;rw [List.length_take] at ht;refine Ev.step (fun k=>by rw [Gb.l2]) ?_;refine Ev.pos (by rw [Er];omega) (Ev.pos (by omega) ?_);rw [Ke hi (by omega),xL sn (by omega) (by omega),Int.toNat_natCast];have hse:seen sn i=sn[i]:=by simp [seen,List.getD_eq_getElem?_getD,hi]
  rw [hse];rw [cu sn i hi] at h
  by_cases hc:sn[i]=true
  ·rw [if_pos hc] at h ⊢;exact Ev.pos rfl (Ev.pos (by omega) h)
  ·rw [if_neg hc] at h ⊢;exact Ev.neg (by decide) h
theorem Aw:∀ (sn:List Bool) (i:Nat) (x:Int),x ∈ ig sn i ↔ ∃ j:Nat,j < sn.length∧seen sn j=true∧x=((i + j:Nat):Int)
 | [],i,x=>by simp [ig]
 | b :: sn,i,x=>by
  have ih:=Aw sn (i + 1) x;have hs0:seen (b :: sn) 0=b:=rfl;have hs1:∀ j,seen (b :: sn) (j + 1)=seen sn j:=fun j=>rfl
  unfold ig
  constructor
  ·intro h
   by_cases hb:b=true
   ·rw [if_pos hb] at h
    rcases List.mem_cons.1 h with h|h
    ·exact ⟨0,by simp,by rw [hs0];exact hb,by rw [h];rfl⟩
    ·obtain ⟨j,h1,h2,h3⟩:=ih.1 h;exact ⟨j + 1,by simpa using h1,by rw [hs1];exact h2,by omega⟩
   ·rw [if_neg hb] at h;obtain ⟨j,h1,h2,h3⟩:=ih.1 h;exact ⟨j + 1,by simpa using h1,by rw [hs1];exact h2,by omega⟩
  ·rintro ⟨j,h1,h2,h3⟩
   have hrest:(∃ j',j=j' + 1)→x ∈ ig sn (i + 1):=by
    rintro ⟨j',rfl⟩;exact ih.2 ⟨j',by simpa using h1,by rw [← hs1];exact h2,by omega⟩
   by_cases hb:b=true
   ·rw [if_pos hb]
    rcases j with _|j
    ·exact List.mem_cons.2 (Or.inl (by omega))
    ·exact List.mem_cons.2 (Or.inr (hrest ⟨j,rfl⟩))
   ·rw [if_neg hb]
    rcases j with _|j
    ·rw [hs0] at h2;exact absurd h2 hb
    ·exact hrest ⟨j,rfl⟩
theorem bF:∀ (sn:List Bool) (i:Nat),(ig sn i).Pairwise (· < ·)
 | [],i=>by simp [ig]
 | b :: sn,i=>by
  have ih:=bF sn (i + 1);unfold ig
  by_cases hb:b=true
  ·rw [if_pos hb,List.pairwise_cons];refine ⟨fun x hx=>?_,ih⟩;obtain ⟨j,_,_,h3⟩:=(Aw sn (i + 1) x).1 hx;omega
  ·rw [if_neg hb];exact ih
theorem ZE (hE:Pf bs) (sn:List Bool) (hs:sn.length=bs.length) (h:∀ j,seen sn j=true ↔ Ym (Th bs) j):ig sn 0=Wc bs:=by
 refine QH _ _ (bF sn 0) (Gw bs) (fun x=>?_);rw [Aw,Ng hE]
 constructor
 ·rintro ⟨j,h1,h2,h3⟩;rw [Nat.zero_add] at h3;subst h3;exact ⟨by omega,(h _).1 (by rw [Int.toNat_natCast];exact h2)⟩
 ·rintro ⟨h0,hr⟩;exact ⟨x.toNat,by rw [hs];exact Ko hE hr,(h _).2 hr,by omega⟩
theorem Cl (n:Nat) (hn:0 < n) (j:Nat):seen ((List.replicate n false).set 0 true) j=decide (j=0):=by
 rw [ji (by simpa using hn),Yo,Bool.or_false]
 by_cases h:j=0
 ·subst h;rfl
 ·rw [decide_eq_false h,decide_eq_false (fun e=>h e.symm)]
theorem Fz {n:Nat} {nx:Nat→List Int} (hn:0 < n):VA n nx ((List.replicate n false).set 0 true) [0]:=by
 refine ⟨by simp,fun j hj=>?_,fun j hj=>?_,?_,?_⟩
 ·rw [List.mem_singleton] at hj;subst hj;exact ⟨by omega,by omega,by rw [Cl n hn];rfl⟩
 ·rw [Cl n hn,decide_eq_true_eq] at hj;subst hj;exact Ym.zero
 ·have:=Hu (s:=List.replicate n false) (i:=0) (by simpa using hn) (Yo _ _);rw [Iw] at this;rw [List.length_singleton];omega
 ·rw [Cl n hn];rfl
theorem cE (h0:l0.length ≤ 1048576) (hl:bs.length ≤ 1048576) (ht:Pd bs ≤ 1048576) (hok:yl l0 p v s bs=true):Ev (fun k=>Gb.f k l0 p v s bs) (Wc bs):=by
 have hE:=qu hok;unfold Gb.f;refine Ev.val (Ev.bind (nu h0 hl ht) ?_);refine Ev.pos hok (Ev.bind (tP bs.length hl) (Ev.pos (by rw [List.length_replicate];have:=hE.1;omega) ?_))
 have e:(List.replicate bs.length (0:Int)).set (0:Int).toNat 1=ou ((List.replicate bs.length false).set 0 true):=by
  rw [← nG];unfold ou;rw [List.map_replicate]
  rfl
 rw [e];refine Tz hE (fun sn hs hr=>?_) _ _ _ (Nat.le_refl _) (Fz hE.1) (fun j hj hq=>?_)
 ·rw [← ZE hE sn hs hr];exact eE sn (by omega)
 ·rw [Cl _ hE.1,decide_eq_true_eq] at hj;subst hj;exact absurd (by simp) hq
end
end Go.Proofs.Ytoomcmaifgkkfaa.P
end
section
namespace Go.Proofs.Ytoomcmaifgkkfaa.P
open Go.RowKit Go.Proofs.Ia.Qb Go.Proofs.Ia.Dd Go.Proofs.Ia.ze
set_option linter.unusedVariables false
set_option linter.unusedSimpArgs false
def iY (bs:List jf) (a:Int) (i:Nat):List Int:=(Th bs i).filter fun j=>decide (j ≠ a)
section
variable {l0:List Int} {p v s:Int} {bs:List jf}
theorem mR (hE:Pf bs) {a:Nat} (ha:0 ≠ a) (k:Nat):Ym (iY bs (a:Int)) k ↔ RA (Th bs) a k:=by
 constructor
 ·intro h
  induction h with
  | zero=>exact RA.zero ha
  | @step i j hr hj ih =>
   obtain ⟨h1,h2⟩:=List.mem_filter.1 hj;have:=hE.2.2 i (Ko hE ih.fH) j h1;rw [decide_eq_true_eq] at h2;exact RA.step ih h1 (by omega)
 ·intro h
  induction h with
  | zero _=>exact Ym.zero
  | @step i j hr hj hne ih =>
   have:=hE.2.2 i (Ko hE hr.fH) j hj;exact Ym.step ih (List.mem_filter.2 ⟨hj,by rw [decide_eq_true_eq];omega⟩)
theorem bE {ys:List Int} {a:Int} {r:List Bool} {n:Nat} (hn:n ≤ 1048576) (hy:ys.length ≤ 2) :
  ∀ (d i:Nat) (sn:List Bool) (q:List Int),i + d=ys.length→sn.length=n→q.length + d ≤ 4 * n + 8→(∀ j ∈ ys,0 ≤ j∧j < n) →
  Ev (fun k=>Eb.l0 k a (((ys.drop i).filter fun j=>decide (j ≠ a)).foldl uf (sn,q)).1 (((ys.drop i).filter fun j=>decide (j ≠ a)).foldl uf (sn,q)).2 l0 p v s bs) r→Ev (fun k=>Eb.l1 k a sn q ys (i:Int) l0 p v s bs) r:=by
 intro d
 induction d with
 | zero =>
  intro i sn q hi hs hq hr he;have e:i=ys.length:=by omega
  subst e;rw [List.drop_length,List.filter_nil] at he;refine Ev.step (fun k=>by rw [Eb.l1]) ?_;exact Ev.neg (by omega) he
 | succ d ih =>
  intro i sn q hi hs hq hr he;have hi':i < ys.length:=by omega
  obtain ⟨j0,j1⟩:=hr ys[i] (List.getElem_mem hi');have hrd:rd ys (i:Int)=ys[i]:=by rw [JB,List.getD_eq_getElem?_getD,List.getElem?_eq_getElem hi'];rfl
  rw [List.drop_eq_getElem_cons hi',List.filter_cons] at he;refine Ev.step (fun k=>by rw [Eb.l1]) ?_;refine Ev.pos (by omega) (Ev.pos (by omega) ?_);rw [hrd];rw [Ke hi' (by omega)];have hse:lg false sn ys[i]=seen sn ys[i].toNat:=rfl;rw [hse]
  by_cases ha:ys[i]=a
  ·refine Ev.pos ha ?_;rw [if_neg (by simp [ha])] at he;exact ih (i + 1) sn q (by omega) hs (by omega) hr he
  ·rw [if_pos (by simp [ha]),List.foldl_cons] at he;refine Ev.neg ha (Ev.pos j0 (Ev.pos (by omega) ?_))
   by_cases hc:seen sn ys[i].toNat=true
   ·refine Ev.pos hc ?_;have e:uf (sn,q) ys[i]=(sn,q):=by unfold uf;rw [if_pos hc]
    rw [e] at he;exact ih (i + 1) sn q (by omega) hs (by omega) hr he
   ·refine Ev.neg hc (Ev.pos (by omega) ?_);have e:uf (sn,q) ys[i]=(sn.set ys[i].toNat true,q ++ [ys[i]]):=by unfold uf;rw [if_neg hc]
    rw [e] at he;exact ih (i + 1) _ _ (by omega) (by rw [List.length_set];exact hs) (by rw [List.length_append,List.length_singleton];omega) hr he
theorem Sz {a:Int} (hE:Pf bs) :
  ∀ (m:Nat) (sn:List Bool) (q:List Int),2 * news sn + q.length ≤ m→VA bs.length (iY bs a) sn q→(∀ j,seen sn j=true→(j:Int) ∉ q→∀ m ∈ iY bs a j,seen sn m.toNat=true)→∃ t:List Bool,t.length=bs.length∧(∀ j,seen t j=true ↔ Ym (iY bs a) j)∧Ev (fun k=>Eb.l0 k a sn q l0 p v s bs) t:=by
 have hn:=hE.2.1;intro m
 induction m with
 | zero =>
  intro sn q hm h hs;cases q with
  | cons i q=>rw [List.length_cons] at hm;omega
  | nil=>exact ⟨sn,h.len,TU h (fun j hj=>hs j hj (by simp)),Ev.step (fun k=>by rw [Eb.l0]) (Ev.neg (by simp) (Ev.now _))⟩
 | succ m ih =>
  intro sn q hm h hs;cases q with
  | nil=>exact ⟨sn,h.len,TU h (fun j hj=>hs j hj (by simp)),Ev.step (fun k=>by rw [Eb.l0]) (Ev.neg (by simp) (Ev.now _))⟩
  | cons i q =>
   obtain ⟨h0,h1,h2⟩:=h.vN i (by simp);have hi:i.toNat < bs.length:=by omega
   have hR:=h.fH _ h2;have hc:=h.cap;rw [List.length_cons] at hc hm;have g:VA bs.length (iY bs a) sn q:=⟨h.len,fun j hj=>h.vN j (by simp [hj]),h.fH,by omega,h.XQ⟩
   have gs:Shut (iY bs a) sn q i.toNat:=by
    intro j hj hq hji;refine hs j hj ?_;intro hmem
    rcases List.mem_cons.mp hmem with e|e
    ·exact hji (by omega)
    ·exact hq e
   obtain ⟨a1,a2,a3,a4,a5⟩:=kF hR (iY bs a i.toNat) sn q g gs (fun j hj=>⟨(hE.2.2 _ hi j (List.mem_filter.1 hj).1).1,(hE.2.2 _ hi j (List.mem_filter.1 hj).1).2,hj⟩);have hit:((i.toNat:Nat):Int)=i:=Int.toNat_of_nonneg h0;have fW:(Th bs i.toNat).length ≤ 2:=Br _;have R3:Cg.f (Sa bs i).f0 (Sa bs i).f1 (Sa bs i).f2 (Sa bs i).f3 (Sa bs i).f4=some (Th bs i.toNat):=by unfold Th;rw [hit];exact eB _
   have hrd:rd (i :: q) 0=i:=rfl;have hl:=h.len
   obtain ⟨t,t1,t2,t3⟩:=ih _ _ (by omega) a1 (by
    intro j hj hq
    by_cases e:j=i.toNat
    ·intro m hm';rw [e] at hm';exact a3 m hm'
    ·exact a2 j hj hq e)
   refine ⟨t,t1,t2,?_⟩;refine Ev.step (fun k=>by rw [Eb.l0]) ?_;refine Ev.pos (by rw [List.length_cons];omega) (Ev.pos (by rw [List.length_cons];omega) ?_);rw [hrd];refine Ev.pos h0 (Ev.pos h1 ?_);rw [R3];refine Ev.val (Ev.pos (by rw [List.length_cons];omega) ?_);refine bE (n:=bs.length) hn fW (Th bs i.toNat).length 0 sn q (by omega) hl (by omega) (hE.2.2 _ hi) ?_;rw [List.drop_zero];exact t3
theorem GM (hE:Pf bs) (a:Nat) (ha:0 ≠ a):∃ t:List Bool,t.length=bs.length∧(∀ j,seen t j=true ↔ RA (Th bs) a j)∧Ev (fun k=>Eb.f k l0 p v s bs 0 (a:Int) (List.replicate bs.length false)) t:=by
 obtain ⟨t,t1,t2,t3⟩:=Sz (a:=(a:Int)) (l0:=l0) (p:=p) (v:=v) (s:=s) hE _ ((List.replicate bs.length false).set 0 true) [0] (Nat.le_refl _) (Fz hE.1) (fun j hj hq=>by
  rw [Cl _ hE.1,decide_eq_true_eq] at hj;subst hj
  exact absurd (by simp) hq)
 refine ⟨t,t1,fun j=>(t2 j).trans (mR hE ha j),?_⟩;unfold Eb.f;exact Ev.pos (by omega) (Ev.pos (by rw [List.length_replicate];have:=hE.1;omega) t3)
noncomputable def Qo (bs:List jf) (i:Nat):List Bool:=open Classical in (List.range bs.length).map fun k=>decide (Dom (Th bs) i k)
noncomputable def Cw (bs:List jf):List (List Bool):=(List.range bs.length).map (Qo bs)
theorem ej (bs:List jf) (i:Nat):(Qo bs i).length=bs.length:=by simp [Qo]
theorem kn (bs:List jf):(Cw bs).length=bs.length:=by simp [Cw]
theorem bR {bs:List jf} {i:Nat} (hi:i < bs.length):(Cw bs).getD i []=Qo bs i:=by simp [Cw,List.getD_eq_getElem?_getD,hi]
theorem yL {bs:List jf} {i k:Nat} (hk:k < bs.length):(Qo bs i).getD k false=true ↔ Dom (Th bs) i k:=by simp [Qo,List.getD_eq_getElem?_getD,hk]
theorem Pz {r:List (List Bool)} (hE:Pf bs) (he:∀ cm:List Bool,cm.length=bs.length→(∀ j,seen cm j=true ↔ Ym (Th bs) j)→Ev (fun k=>mb.l1 k (bs.length:Int) cm [] 0 l0 p v s bs) r) :
  Ev (fun k=>mb.l0 k (bs.length:Int) (List.replicate bs.length false) (Wc bs) 0 l0 p v s bs) r:=by
 have hrl:=jl bs;have hn:=hE.2.1;have key:=mh (r:=r) (n:=(Wc bs).length) (fun i=>∀ cm:List Bool,cm.length=bs.length→(∀ j:Nat,seen cm j=true ↔ (j:Int) ∈ (Wc bs).take i)→Ev (fun k=>mb.l0 k (bs.length:Int) cm (Wc bs) (i:Int) l0 p v s bs) r) ?_ ?_ 0 (by omega)
 ·exact key _ (by simp) (fun j=>by rw [Yo];simp)
 ·intro cm hc hs;refine Ev.step (fun k=>by rw [mb.l0]) ?_;refine Ev.neg (by omega) (he cm hc (fun j=>?_));rw [hs,List.take_length,Ng hE,Int.toNat_natCast];exact ⟨fun h=>h.2,fun h=>⟨by omega,h⟩⟩
 ·intro i hi h cm hc hs;obtain ⟨x0,xr⟩:=(Ng hE _).1 (List.getElem_mem hi);have hx:=Ko hE xr;refine Ev.step (fun k=>by rw [mb.l0]) ?_;refine Ev.pos (by omega) (Ev.pos (by omega) ?_);rw [Xk hi,Ke hi (by omega)];refine Ev.pos x0 (Ev.pos (by rw [hc];omega) (h _ (by rw [List.length_set];exact hc) (fun j=>?_)));rw [ji (by rw [hc];exact hx),Bool.or_eq_true,decide_eq_true_eq,hs,List.take_succ_eq_append_getElem hi,List.mem_append,List.mem_singleton]
  constructor
  ·rintro (h|h)
   ·right;omega
   ·left;exact h
  ·rintro (h|h)
   ·right;exact h
   ·left;omega
theorem Dr {r:List (List Bool)} {cm wo:List Bool} {acc:List (List Bool)} {i:Nat} (hE:Pf bs) (hi:i < bs.length) (hc:cm.length=bs.length) (mZ:∀ j,seen cm j=true ↔ Ym (Th bs) j) (hw:wo.length=bs.length) (hwr:Ym (Th bs) i→∀ j,Ym (Th bs) j→(seen wo j=true ↔ RA (Th bs) i j)) (ha:acc.length ≤ bs.length)
  (he:Ev (fun k=>mb.l1 k (bs.length:Int) cm (acc ++ [Qo bs i]) ((i + 1:Nat):Int) l0 p v s bs) r) :
  Ev (fun k=>mb.l2 k (bs.length:Int) cm acc (i:Int) wo (List.replicate bs.length false) 0 l0 p v s bs) r:=by
 have hn:=hE.2.1;have key:=mh (r:=r) (n:=bs.length) (fun j=>Ev (fun k=>mb.l2 k (bs.length:Int) cm acc (i:Int) wo ((Qo bs i).take j ++ List.replicate (bs.length - j) false) (j:Int) l0 p v s bs) r) ?_ ?_ 0 (by omega)
 ·simpa using key
 ·have e:(Qo bs i).take bs.length ++ List.replicate (bs.length - bs.length) false=Qo bs i:=by rw [List.take_of_length_le (by rw [ej];omega),Nat.sub_self,List.replicate_zero,List.append_nil]
  rw [e];refine Ev.step (fun k=>by rw [mb.l2]) ?_;refine Ev.neg (by omega) (Ev.pos (by omega) ?_);rw [Ke hi (by omega)];exact he
 ·intro j hj h
  have ZB:∀ b:Bool,b=(Qo bs i).getD j false→((Qo bs i).take j ++ List.replicate (bs.length - j) false).set j b=(Qo bs i).take (j + 1) ++ List.replicate (bs.length - (j + 1)) false:=by
   intro b hb;subst hb;have:=bw (m:=Qo bs i) (z:=false) (i:=j) (by rw [ej];exact hj);rw [ej] at this;exact this
  have hln:((Qo bs i).take j ++ List.replicate (bs.length - j) false).length=bs.length:=by rw [List.length_append,List.length_take,List.length_replicate,ej];omega
  have s1:lg false cm (i:Int)=seen cm i:=rfl;have s2:lg false cm (j:Int)=seen cm j:=rfl;have s3:lg false wo (j:Int)=seen wo j:=rfl;refine Ev.step (fun k=>by rw [mb.l2]) ?_;refine Ev.pos (by omega) (Ev.pos (by omega) (Ev.pos (by omega) ?_));rw [s1,s2,s3,Int.toNat_natCast,Ke hj (by omega)];have hdom:=yL (bs:=bs) (i:=i) hj
  by_cases SQ:seen cm i=true
  ·refine Ev.pos SQ (Ev.pos (by omega) (Ev.pos (by omega) ?_))
   by_cases hcj:seen cm j=true
   ·refine Ev.pos hcj (Ev.pos (by omega) (Ev.pos (by rw [hln];omega) ?_));rw [ZB]
    ·exact h
    ·have hri:=(mZ i).1 SQ;have hrj:=(mZ j).1 hcj;have hwj:=hwr hri j hrj;cases hwb:seen wo j with
     | true =>
      cases hd:(Qo bs i).getD j false with
      | false=>rfl
      | true=>exact absurd (hwj.1 hwb) (hdom.1 hd).2.2
     | false=>exact (hdom.2 ⟨hri,hrj,fun hra=>by rw [hwj.2 hra] at hwb;cases hwb⟩).symm
   ·refine Ev.neg hcj (Ev.pos (by rw [hln];omega) ?_);rw [ZB]
    ·exact h
    ·cases hd:(Qo bs i).getD j false with
     | false=>rfl
     | true=>exact absurd ((mZ j).2 (hdom.1 hd).2.1) hcj
  ·refine Ev.neg SQ (Ev.pos (by omega) (Ev.pos (by rw [hln];omega) ?_));rw [ZB]
   ·exact h
   ·cases hd:(Qo bs i).getD j false with
    | false=>rfl
    | true=>exact absurd ((mZ i).2 (hdom.1 hd).1) SQ
theorem Oz {cm:List Bool} (hE:Pf bs) (hc:cm.length=bs.length) (mZ:∀ j,seen cm j=true ↔ Ym (Th bs) j):Ev (fun k=>mb.l1 k (bs.length:Int) cm [] 0 l0 p v s bs) (Cw bs):=by
 have hn:=hE.2.1;have key:=mh (r:=Cw bs) (n:=bs.length) (fun i=>Ev (fun k=>mb.l1 k (bs.length:Int) cm ((Cw bs).take i) (i:Int) l0 p v s bs) (Cw bs)) ?_ ?_ 0 (by omega)
 ·exact key
 ·refine Ev.step (fun k=>by rw [mb.l1]) ?_;refine Ev.neg (by omega) ?_;rw [List.take_of_length_le (by rw [kn];omega)];exact Ev.now _
 ·intro i hi h
  have hti:(Cw bs).take (i + 1)=(Cw bs).take i ++ [Qo bs i]:=by
   rw [List.take_succ_eq_append_getElem (by rw [kn];exact hi)];simp [Cw]
  rw [hti] at h;have hlt:((Cw bs).take i).length ≤ bs.length:=by rw [List.length_take,kn];omega
  refine Ev.step (fun k=>by rw [mb.l1]) ?_;refine Ev.pos (by omega) (Ev.pos (by omega) (Ev.pos (by omega) (Ev.val ?_)));rw [Int.toNat_natCast]
  by_cases h0:i=0
  ·subst h0;refine Ev.pos rfl ?_;refine Ev.step (fun k=>by rw [mb.j2]) ?_;refine Ev.pos (by omega) (Ev.pos (by omega) ?_);rw [Int.toNat_natCast];refine Dr hE hi hc mZ (by simp) (fun _ j hj=>?_) hlt h;rw [Yo];exact ⟨(fun h=>by cases h),fun h=>absurd h (Dom.zero hj).2.2⟩
  ·obtain ⟨t,t1,t2,t3⟩:=GM (l0:=l0) (p:=p) (v:=v) (s:=s) hE i (fun e=>h0 e.symm);refine Ev.neg (by omega) (Ev.bind t3 ?_);refine Ev.step (fun k=>by rw [mb.j2]) ?_;refine Ev.pos (by omega) (Ev.pos (by omega) ?_);rw [Int.toNat_natCast];exact Dr hE hi hc mZ t1 (fun _ j _=>t2 j) hlt h
theorem eG (h0:l0.length ≤ 1048576) (hl:bs.length ≤ 1048576) (ht:Pd bs ≤ 1048576) (hok:yl l0 p v s bs=true):Ev (fun k=>mb.f k l0 p v s bs) (Cw bs):=by
 have hE:=qu hok;unfold mb.f;refine Ev.pos (by omega) (Ev.pos (by omega) (Ev.bind (cE h0 hl ht hok) ?_));rw [Int.toNat_natCast];exact Pz hE (fun cm h1 h2=>Oz hE h1 h2)
end
end Go.Proofs.Ytoomcmaifgkkfaa.P
end
section
namespace Go.Proofs.Ytoomcmaifgkkfaa.P
open Go.RowKit Go.Proofs.Ia.Qb Go.Proofs.Ia.Dd Go.Proofs.Ia.ze
set_option linter.unusedVariables false
set_option linter.unusedSimpArgs false
theorem lG (l:List Int) (a:Int) (hl:l.length ≤ 9223372036854775807):Ev (fun k=>Cc.f k l a) (decide (a ∈ l)):=by
 obtain ⟨k,r,h1,h2⟩:=Gz l a hl;refine Ev.of (fun k=>Cc.mono _ _ _) (k:=k) ?_;unfold Cc.f;rw [h1];exact congrArg some (decide_eq_decide.2 h2)
section
variable {l0:List Int} {p v s:Int} {bs:List jf}
theorem ZL {k:Nat} (hk:k < bs.length):Sk (tj bs) k=fy bs k:=by simp [Sk,tj,List.getD_eq_getElem?_getD,hk]
theorem Uz (hE:Pf bs) {i:Int} {k:Nat}:i ∈ fy bs k ↔ 0 ≤ i∧Dom (Th bs) i.toNat k:=by
 unfold fy;rw [List.mem_filter,Ng hE]
 constructor
 ·rintro ⟨⟨h0,_⟩,h⟩;exact ⟨h0,by simpa using h⟩
 ·rintro ⟨h0,h⟩;exact ⟨⟨h0,h.1⟩,by simpa using h⟩
theorem wH (hE:Pf bs):qg.f l0 p v s bs=some (tj bs):=by
 unfold qg.f;rw [if_pos hE]
noncomputable def su (bs:List jf) (b:Int):List Bool:=(tj bs).map fun l=>decide (b ∈ l)
theorem Jh (b:Int):(su bs b).length=bs.length:=by simp [su,tj]
theorem GL (b:Int) {k:Nat} (hk:k < bs.length):(su bs b).getD k false=decide (b ∈ fy bs k):=by simp [su,tj,List.getD_eq_getElem?_getD,hk]
theorem RP (hE:Pf bs) {b:Nat}:su bs (b:Int)=Qo bs b:=by
 apply List.ext_getElem
 ·rw [Jh,ej]
 ·intro k h1 h2;rw [Jh] at h1;have e1:=GL (bs:=bs) (b:Int) h1;have e2:=yL (bs:=bs) (i:=b) h1;rw [List.getD_eq_getElem?_getD,List.getElem?_eq_getElem (by rw [Jh];exact h1),Option.getD_some] at e1;rw [List.getD_eq_getElem?_getD,List.getElem?_eq_getElem (by rw [ej];exact h1),Option.getD_some] at e2;rw [e1]
  by_cases hd:Dom (Th bs) b k
  ·rw [e2.2 hd];exact decide_eq_true ((Uz hE).2 ⟨by omega,by rw [Int.toNat_natCast];exact hd⟩)
  ·rw [decide_eq_false (fun h=>hd (by have:=((Uz hE).1 h).2;rwa [Int.toNat_natCast] at this))];cases hb:(Qo bs b)[k] with
   | false=>rfl
   | true=>exact absurd (e2.1 hb) hd
theorem pz:∀ (sn:List Bool) (i:Nat),(∀ x ∈ sn,x=false)→ig sn i=[]
 | [],i,_=>rfl
 | b :: sn,i,h=>by
  unfold ig;rw [if_neg (by rw [h b (by simp)];simp),pz sn (i + 1) (fun x hx=>h x (by simp [hx]))]
theorem SA (hE:Pf bs) (b:Int):Ev (fun k=>Cd.l0 k b [] (tj bs) ((tj bs).length:Int) 0) (ig (su bs b) 0):=by
 have hn:=hE.2.1;have hrl:=EA bs;have key:=mh (r:=ig (su bs b) 0) (n:=bs.length) (fun i=>Ev (fun k=>Cd.l0 k b (ig ((su bs b).take i) 0) (tj bs) ((tj bs).length:Int) (i:Int)) (ig (su bs b) 0)) ?_ ?_ 0 (by omega)
 ·exact key
 ·refine Ev.step (fun k=>by rw [Cd.l0]) ?_;refine Ev.neg (by omega) ?_;rw [List.take_of_length_le (by rw [Jh];omega)];exact Ev.now _
 ·intro i hi h;have ht:=Zj ((su bs b).take i) 0;rw [List.length_take,Jh] at ht
  have hr:Nl (tj bs) (i:Int)=fy bs i:=by
   rw [← ZL hi]
   rfl
  have hdl:=oG bs i;refine Ev.step (fun k=>by rw [Cd.l0]) ?_;refine Ev.pos (by omega) (Ev.pos (by omega) (Ev.pos (by omega) ?_));rw [hr,Ke hi (by omega)];refine Ev.bind (lG (fy bs i) b (by omega)) ?_;rw [cu (su bs b) i (by rw [Jh];exact hi)] at h
  have hbi:(su bs b)[i]'(by rw [Jh];exact hi)=decide (b ∈ fy bs i):=by
   rw [← GL b hi,List.getD_eq_getElem?_getD,List.getElem?_eq_getElem (by rw [Jh];exact hi),Option.getD_some]
  rw [hbi] at h
  by_cases hm:decide (b ∈ fy bs i)=true
  ·rw [if_pos hm] at h;exact Ev.pos hm (Ev.pos (by omega) h)
  ·rw [if_neg hm] at h;exact Ev.neg hm h
theorem uP (l0:List Int) (p v s:Int) (bs:List jf) (b:Int) (h0:l0.length ≤ 1048576) (hl:bs.length ≤ 1048576) (ht:Pd bs ≤ 1048576) :
  ∃ r:List Int,Ev (fun k=>Wi.f k l0 p v s bs b) r∧Ev (fun k=>Cd.f k l0 p v s bs b) r∧r.length ≤ 1048576:=by
 by_cases hok:yl l0 p v s bs=true
 ·have hE:=qu hok;refine ⟨ig (su bs b) 0,?_,?_,by have:=Zj (su bs b) 0;rw [Jh] at this;omega⟩
  ·unfold Wi.f;refine Ev.bind (nu h0 hl ht) (Ev.pos hok ?_)
   by_cases hb:Di b 0 ((bs.length:Int) - 1)=true
   ·have mj:=hb;unfold Di at mj;simp only [Bool.and_eq_true,decide_eq_true_eq] at mj;obtain ⟨c,rfl⟩:∃ c:Nat,b=(c:Int):=⟨b.toNat,by omega⟩;have hc:c < bs.length:=by omega
    refine Ev.pos hb (Ev.bind (eG h0 hl ht hok) ?_);rw [Int.toNat_natCast,bR hc,RP hE];exact Ev.pos ⟨by rw [kn];exact hc,by rw [ej];exact hl⟩ (Ev.now _)
   ·refine Ev.neg hb ?_
    rw [pz (su bs b) 0 (fun x hx=>by
     obtain ⟨l,hl2,rfl⟩:=List.mem_map.1 hx;obtain ⟨k,hk,rfl⟩:=List.mem_map.1 hl2;rw [List.mem_range] at hk;refine decide_eq_false (fun hm=>hb ?_);obtain ⟨m1,m2⟩:=(Uz hE).1 hm;have:=Ko hE m2.1;unfold Di;simp only [Bool.and_eq_true,decide_eq_true_eq]
     omega)]
    exact Ev.now _
  ·unfold Cd.f;refine Ev.bind (Qz h0 hl ht) (Ev.pos hok ?_);rw [wH hE];exact Ev.val (SA hE b)
 ·refine ⟨[],?_,?_,by simp⟩
  ·unfold Wi.f;exact Ev.bind (nu h0 hl ht) (Ev.neg hok (Ev.now _))
  ·unfold Cd.f;exact Ev.bind (Qz h0 hl ht) (Ev.neg hok (Ev.now _))
end
end Go.Proofs.Ytoomcmaifgkkfaa.P
end
section
namespace Go.Proofs.Ytoomcmaifgkkfaa.P
open Go.RowKit Go.Proofs.Ia.Qb Go.Proofs.Ia.Dd Go.Proofs.Ia.ze
set_option linter.unusedVariables false
set_option linter.unusedSimpArgs false
theorem uw (x:V3) (b0:Int) (hf:rP x) (hb0:sq b0):∃ k,pg.f k x.f0 x.f1 x.f2 x.f3 x.f4 b0=some true:=by
 obtain ⟨t,e1,e2⟩:=qI x hf;refine Ev.rounds (g:=fun k=>pg.f k x.f0 x.f1 x.f2 x.f3 x.f4 b0) ?_;unfold pg.f;refine Ev.bind e1 ?_
 by_cases ht:t < 0
 ·exact Ev.pos ht (Ev.now _)
 refine Ev.neg ht ?_;obtain ⟨h0,hl,hst,hT,hq,⟨M1,M2,M3⟩,hM,hM0,_⟩:=e2 ht;obtain ⟨r,r1,r2,r3⟩:=uP x.f0 x.f1 x.f2 x.f3 (x.f4.map cg) b0 h0 hl hst;have hE:=qB r (by omega);have hm:=Mx r 1 (by omega) (by omega);have hh:=gG 1 r.length (by omega) (by omega);refine Ev.bind hT (Ev.bind r1 (Ev.bind r2 (Ev.bind hE (Ev.pos rfl (Ev.bind hq (Ev.pos rfl (Ev.bind hM (Ev.neg (by simp only at hM0 ⊢;omega) (Ev.bind hm (Ev.bind hh (Ev.neg (by omega) (Ev.pos rfl (Ev.now _)))))))))))))
end Go.Proofs.Ytoomcmaifgkkfaa.P
end
