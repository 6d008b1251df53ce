import Derived.Test.YtoomcmaifgkkfaaQEdge1
import Derived.Test.YtoomcmaifgkkfaaQEdge3
import Derived.Shelf.Abstract
import Derived.Outline
import Derived.RegionTactic
set_option maxHeartbeats 8000000
set_option maxRecDepth 100000
section
namespace Go.Proofs.Ytoomcmaifgkkfaa.P
open Go.RowKit Go.Proofs.Ia.Zb Go.Proofs.Ia.Qd Go.Proofs.Ia.Me
set_option linter.unusedVariables false
set_option linter.unusedSimpArgs false
attribute [local go_sem] Wi Ui jk fk Ch Bh Vi Ti
mutual
def yb.l0:Nat→Int→List Bool→List Int→Int→List Int→Int→Int→Int→List (Df)→Option ((List (List Bool)))
 | 0,_,_,_,_,_,_,_,_,_=>none
 | k + 1,x3,x4,x5,x6,Mc,Nc,Lc,Jc,Nb=>if x6 < (x5.length:Int) then (if 0 ≤ x6 then (if 0 ≤ (rd x5 x6) then (if (rd x5 x6) < (x4.length:Int) then (yb.l0 k x3 (x4.set ((rd x5 x6):Int).toNat true) x5 (wrap64 (x6 + 1)) Mc Nc Lc Jc Nb) else (none)) else (none)) else (none)) else (yb.l1 k x3 x4 (([]:List (List Bool))) 0 Mc Nc Lc Jc Nb)
def yb.l1:Nat→Int→List Bool→List (List Bool)→Int→List Int→Int→Int→Int→List (Df)→Option ((List (List Bool)))
 | 0,_,_,_,_,_,_,_,_,_=>none
 | k + 1,x3,x4,x7,x8,Mc,Nc,Lc,Jc,Nb=>if x8 < x3 then (if 0 ≤ x3 then (if (x3:Int).toNat ≤ 281474976710656 then ((some (List.replicate (x3:Int).toNat false:List Bool)).bind fun YA=>(if x8=0 then (yb.j2 k x3 x4 x7 x8 YA Mc Nc Lc Jc Nb) else ((Mb.f k Mc Nc Lc Jc Nb 0 x8 YA).bind fun t116=>(yb.j2 k x3 x4 x7 x8 t116 Mc Nc Lc Jc Nb)))) else (none)) else (none)) else (some x7)
def yb.j2:Nat→Int→List Bool→List (List Bool)→Int→List Bool→List Int→Int→Int→Int→List (Df)→Option ((List (List Bool)))
 | 0,_,_,_,_,_,_,_,_,_,_=>none
 | k + 1,x3,x4,x7,x8,x9,Mc,Nc,Lc,Jc,Nb=>if 0 ≤ x3 then (if (x3:Int).toNat ≤ 281474976710656 then (yb.l2 k x3 x4 x7 x8 x9 (List.replicate (x3:Int).toNat false) 0 Mc Nc Lc Jc Nb) else (none)) else (none)
def yb.l2:Nat→Int→List Bool→List (List Bool)→Int→List Bool→List Bool→Int→List Int→Int→Int→Int→List (Df)→Option ((List (List Bool)))
 | 0,_,_,_,_,_,_,_,_,_,_,_,_=>none
 | k + 1,x3,x4,x7,x8,x9,YE,YK,Mc,Nc,Lc,Jc,Nb=>if YK < x3 then (if 0 ≤ x8 then (if x8 < (x4.length:Int) then (if qg false x4 x8=true then (if 0 ≤ YK then (if YK < (x4.length:Int) then (if qg false x4 YK=true then (if YK < (x9.length:Int) then (if YK < (YE.length:Int) then (yb.l2 k x3 x4 x7 x8 x9 (YE.set (YK:Int).toNat (!(qg false x9 YK))) (wrap64 (YK + 1)) Mc Nc Lc Jc Nb) else (none)) else (none)) else (if YK < (YE.length:Int) then (yb.l2 k x3 x4 x7 x8 x9 (YE.set (YK:Int).toNat false) (wrap64 (YK + 1)) Mc Nc Lc Jc Nb) else (none))) else (none)) else (none)) else (if 0 ≤ YK then (if YK < (YE.length:Int) then (yb.l2 k x3 x4 x7 x8 x9 (YE.set (YK:Int).toNat false) (wrap64 (YK + 1)) Mc Nc Lc Jc Nb) else (none)) else (none))) else (none)) else (none)) else (if x7.length < 5864062014805 then (yb.l1 k x3 x4 (x7 ++ [YE]) (wrap64 (x8 + 1)) Mc Nc Lc Jc Nb) else (none))
end
def yb.f (k:Nat) (Ma:List Int) (La:Int) (Na:Int) (Ka:Int) (Ea:List (Df)):Option ((List (List Bool))):=if 0 ≤ (Ea.length:Int) then (if ((Ea.length:Int):Int).toNat ≤ 281474976710656 then ((Sb.f k Ma La Na Ka Ea).bind fun t105=>(yb.l0 k (Ea.length:Int) (List.replicate ((Ea.length:Int):Int).toNat false) t105 0 Ma La Na Ka Ea)) else (none)) else (none)
theorem yb.calls (k:Nat) (xb:Option Addr) (qb:Nat) (Ma:List Int) (La:Int) (Na:Int) (Ka:Int) (Qb:Option Addr) (Kb:Nat) (Ea:List (Df)) (r:List (List Bool)) (w:World) (Re:Kd.C (Kd.int .i64) w xb Ma.length Ma) (Pe:Ma.length ≤ qb) (Cg:Kd.C Pr w Qb Ea.length Ea) (zg:Ea.length ≤ Kb) (h:yb.f k Ma La Na Ka Ea=some r) :
  Calls Try.prog 67 #[.agg #[.slice xb Ma.length qb,.int .i64 La,.int .i64 Na,.int .i64 Ka,.slice Qb Ea.length Kb]] w fun e w'=>∃ Kp:Value,e = .returned (Kp)∧Kd.S (Kd.slice 4 Kd.bool) 73 w' w.heap.size (fun _=>True) Kp r∧Below w.heap.size w w':=by
 have RC:=Try.underlying45;have Ue:=aa.mk Re;have af:=aa.mk Pe;clear Re Pe;have Xf:=aa.mk Cg;have Zg:=aa.mk zg;clear Cg zg;have HB:=aa.mk (Below.refl w.heap.size w);have H:(if 0 ≤ (Ea.length:Int) then (if ((Ea.length:Int):Int).toNat ≤ 281474976710656 then ((Sb.f k Ma La Na Ka Ea).bind fun t105=>(yb.l0 k (Ea.length:Int) (List.replicate ((Ea.length:Int):Int).toNat false) t105 0 Ma La Na Ka Ea)) else (none)) else (none))=some r:=h;clear h
 by_cases c2:0 ≤ (Ea.length:Int)
 ·rw [if_pos c2] at H;have Yt:=eq_true c2;have ow:decide (0 ≤ (Ea.length:Int))=true:=decide_eq_true c2;clear c2
  by_cases c3:((Ea.length:Int):Int).toNat ≤ 281474976710656
  ·rw [if_pos c3] at H;have bh:=eq_true c3;have Uo:decide (((Ea.length:Int):Int).toNat ≤ 281474976710656)=true:=decide_eq_true c3;clear c3;obtain ⟨ze,xg⟩:∃ y_:List Bool,y_=(List.replicate ((Ea.length:Int):Int).toNat false):=⟨_,rfl⟩;replace H:((Sb.f k Ma La Na Ka Ea).bind fun t105=>(yb.l0 k (Ea.length:Int) ze t105 0 Ma La Na Ka Ea))=some r:=by first|(rw [xg];with_reducible exact H)|(have Ud:=(Option.bind_some _ _).symm.trans H;rw [xg];with_reducible exact Ud)|(have Ud:=(Option.bind_some _ _).symm.trans H;with_reducible exact Ud)|with_reducible exact H|(rw [xg];exact H)|exact H
   have Fh:=aa.mk xg;clear xg;replace H:=Option.bind_eq_some_iff.mp H;obtain ⟨t105,mE,H⟩:=H;replace H:(yb.l0 k (Ea.length:Int) ze t105 0 Ma La Na Ka Ea)=some r:=H;have A4:=aa.mk mE;clear mE;have H':=aa.mk H;clear H;go_enter Try.func67,Try.ntmps67;go_wp2_with (first|((with_reducible refine Bb (N:=1) rfl ?_);refine Ob ?hg (N:=1) ?hd (cs:=#[.slice xb Ma.length qb,.int .i64 La,.int .i64 Na,.int .i64 Ka,.slice Qb Ea.length Kb]) (t:=45) ?hr ?_;(case hd=>rfl);(case hg=>rfl);(case hr=>first|(go_simp;done)|(go_simp;rfl));intro za hg w5 oc hb;have Cb:=aa.mk (Oa (by repeat (first|(with_reducible first|exact HB.out|apply oa|apply ia|apply qa)|exact HB.out)) hb);have Lb:=aa.mk (oc);have Pb:=aa.mk ((by rw [hg];exact (Ja (by repeat (first|(with_reducible first|exact HB.out|apply oa|apply ia|apply qa)|exact HB.out))):w.heap.size ≤ za));have Ec:=aa.mk ((by rw [hg];exact (Ja (by repeat (first|(with_reducible first|exact HB.out|apply oa|apply ia|apply qa)|exact HB.out))):w.heap.size ≤ za));clear HB;have HB:=Cb;have ta:=Lb;have He:=Pb;have Ua:=Ec;clear Cb Lb Pb Ec hb oc hg;have js:w5.cell? ⟨za,0,none⟩=some (.slice xb Ma.length qb):=(ja ta.out 0).trans rfl;have Zr:w5.cell? ⟨za,1,none⟩=some (.int .i64 La):=(ja ta.out 1).trans rfl;have Yr:w5.cell? ⟨za,2,none⟩=some (.int .i64 Na):=(ja ta.out 2).trans rfl;have Xr:w5.cell? ⟨za,3,none⟩=some (.int .i64 Ka):=(ja ta.out 3).trans rfl;have Wr:w5.cell? ⟨za,4,none⟩=some (.slice Qb Ea.length Kb):=(ja ta.out 4).trans rfl;have Vr:=ga ta.out 0;have Ur:=ga ta.out 1;have Tr:=ga ta.out 2;have Sr:=ga ta.out 3;have Qr:=ga ta.out 4)|((with_reducible refine Bb (N:=16) rfl ?_);refine Kd.jx Kd.bool _ 4 rfl (N:=16) rfl 73 _ _ rfl (Ea.length:Int) rfl rfl Try.underlying73 (.bool false) 1 nN rfl (by decide) (by omega) false (ok:=fun _=>True) (Oh:=fun _=>True) rfl (fun _ hk=>hk) trivial (Pa) (Nat.le_trans (Nat.mul_le_mul_right _ (Pa:(Ea.length:Int).toNat ≤ 281474976710656)) (by omega)) (Below.refl _ _) (Nat.le_refl _) ?_;intro Ji w7 ho8 hb gl Ee;clear gl Ee;(first|rw [← Fh.out] at ho8|(simp only [Int.reduceToNat] at ho8;rw [← Fh.out] at ho8));have Cb:=aa.mk (Kd.xe ho8 (Ja (by repeat (first|(with_reducible first|exact HB.out|apply oa|apply ia|apply qa|refine ua ?_ Ua.out)|exact HB.out))));have Lb:=aa.mk (Xa (g:=za) (o:=.cells #[.slice xb Ma.length qb,.int .i64 La,.int .i64 Na,.int .i64 Ka,.slice Qb Ea.length Kb] 45 (0,0)) (by (with_reducible repeat (first|refine Aa ?_ _|refine Fa ?_|refine Ba ?_ _));exact ta.out) hb);have Pb:=aa.mk (Oa (by repeat (first|(with_reducible first|exact HB.out|apply oa|apply ia|apply qa|refine ua ?_ Ua.out)|exact HB.out)) hb);clear ta HB;have ee:=Cb;have ta:=Lb;have HB:=Pb;clear Cb Lb Pb hb ho8;have Ip:w7.cell? ⟨za,0,none⟩=some (.slice xb Ma.length qb):=(ja ta.out 0).trans rfl;have Hp:w7.cell? ⟨za,1,none⟩=some (.int .i64 La):=(ja ta.out 1).trans rfl;have Gp:w7.cell? ⟨za,2,none⟩=some (.int .i64 Na):=(ja ta.out 2).trans rfl;have Fp:w7.cell? ⟨za,3,none⟩=some (.int .i64 Ka):=(ja ta.out 3).trans rfl;have Ep:w7.cell? ⟨za,4,none⟩=some (.slice Qb Ea.length Kb):=(ja ta.out 4).trans rfl;have Dp:=ga ta.out 0;have Cp:=ga ta.out 1;have Bp:=ga ta.out 2;have Ap:=ga ta.out 3;have yp:=ga ta.out 4)|((with_reducible refine Ab (f:=68) rfl ?_);refine Uc (some 18) rfl rfl Try.func68 (by kernel_rfl) rfl #[.agg #[.slice xb Ma.length qb,.int .i64 La,.int .i64 Na,.int .i64 Ka,.slice Qb Ea.length Kb]] rfl (by (try simp only [List.map_toArray,List.map_cons,List.map_nil]);first|done|rfl|(simp only [List.length_drop,List.length_take];rfl)) ?_;(with_reducible refine (Sb.calls k _ _ Ma La Na Ka _ _ Ea t105 _ ?jc ?ic ?Ed ?Dd A4.out).mono ?_);(case jc=>repeat (first|exact (Kd.Ib Ue.out HB.out)|(with_reducible refine Kd.Jb ?_ _)|(with_reducible refine Kd.Gb ?_ _)|(with_reducible refine Kd.dc ?_)));(case ic=>exact af.out);(case Ed=>repeat (first|exact (Kd.Ib Xf.out HB.out)|(with_reducible refine Kd.Jb ?_ _)|(with_reducible refine Kd.Gb ?_ _)|(with_reducible refine Kd.dc ?_)));(case Dd=>exact Zg.out);rintro e Nq ⟨QD,rfl,Bg,hb⟩;refine ⟨_,rfl,?_⟩;have Cb:=aa.mk (Kd.lg (by (with_reducible repeat (first|apply Kd.Va|apply Kd.Wa|apply Kd.jb));exact ee.out) hb);have Lb:=aa.mk (Kd.xe Bg (Ja (by repeat (first|(with_reducible first|exact HB.out|apply oa|apply ia|apply qa|refine ua ?_ Ua.out)|exact HB.out))));have Pb:=aa.mk (Xa (g:=za) (o:=.cells #[.slice xb Ma.length qb,.int .i64 La,.int .i64 Na,.int .i64 Ka,.slice Qb Ea.length Kb] 45 (0,0)) (by (with_reducible repeat (first|refine Aa ?_ _|refine Fa ?_|refine Ba ?_ _));exact ta.out) hb);have Ec:=aa.mk (Oa (by repeat (first|(with_reducible first|exact HB.out|apply oa|apply ia|apply qa|refine ua ?_ Ua.out)|exact HB.out)) hb);clear ee ta HB;have ee:=Cb;have Mq:=Lb;have ta:=Pb;have HB:=Ec;clear Cb Lb Pb Ec;(try clear hb);(try clear Gj);(try clear hk);(try clear hi);(try clear Bg)))
   go_loopg [6] k (fun kq v6 w'=>∃ (nc:List Bool) (wq:Int),v6 = .int .i64 wq∧aa (yb.l0 kq (Ea.length:Int) nc t105 wq Ma La Na Ka Ea=some r)∧aa (kq ≤ k)∧aa (Kd.R Kd.bool 4 w' w.heap.size (fun _=>True) Ji nc)∧aa (Kd.R (Kd.int .i64) 3 w' w.heap.size (fun _=>True) QD t105)∧aa (w'.heap[za]? = some (.cells #[(.slice xb Ma.length qb),.int .i64 La,.int .i64 Na,.int .i64 Ka,(.slice Qb Ea.length Kb)] 45 (0,0)))∧aa (Below w.heap.size w w'))
   case atStart=>exact ⟨(ze),(0),(by first|rfl|(simp;done)|(simp [*];done)),H',⟨Nat.le_refl _⟩,⟨by (with_reducible repeat (first|apply Kd.Va|apply Kd.Wa|apply Kd.jb));exact ee.out⟩,⟨by (with_reducible repeat (first|apply Kd.Va|apply Kd.Wa|apply Kd.jb));exact Mq.out⟩,⟨by (with_reducible repeat (first|refine Aa ?_ _|refine Fa ?_|refine Ba ?_ _));exact ta.out⟩,⟨by repeat (first|(with_reducible first|exact HB.out|apply oa|apply ia|apply qa|refine ua ?_ Ua.out)|exact HB.out)⟩⟩
   case round =>
    clear H'
    try clear c2
    try clear Yt
    try clear ow
    try clear p2
    try clear c3
    try clear bh
    try clear Uo
    try clear c6
    try clear js
    try clear Zr
    try clear Yr
    try clear Xr
    try clear Wr
    try clear Ip
    try clear Hp
    try clear Gp
    try clear Fp
    try clear Ep
    try clear Vr
    try clear Ur
    try clear Tr
    try clear Sr
    try clear Qr
    try clear Dp
    try clear Cp
    try clear Bp
    try clear Ap
    try clear yp
    (try clear HA);(try clear Cf);(try clear uc);(try clear wh);(try clear ta);(try clear HB);obtain ⟨nc,wq,rfl,HA,Cf,uc,wh,ta,HB⟩:=hrel;cases gk with
    | zero=>exact absurd HA.out (by simp [yb.l0])
    | succ k1 =>
     have H:=HA.out;clear HA;simp only [yb.l0] at H
     by_cases oR:wq < (t105.length:Int)
     ·rw [if_pos oR] at H;have LP:decide (wq < (t105.length:Int))=true:=decide_eq_true oR;clear oR
      by_cases uu:0 ≤ wq
      ·rw [if_pos uu] at H;have Gz:decide (0 ≤ wq)=true:=decide_eq_true uu;clear uu
       by_cases ax:0 ≤ (rd t105 wq)
       ·rw [if_pos ax] at H;have Ew:decide (0 ≤ (rd t105 wq))=true:=decide_eq_true ax;clear ax
        by_cases kB:(rd t105 wq) < (nc.length:Int)
        ·rw [if_pos kB] at H;have JE:decide ((rd t105 wq) < (nc.length:Int))=true:=decide_eq_true kB;clear kB;obtain ⟨Ax,Jk⟩:∃ y_:List Bool,y_=(nc.set ((rd t105 wq):Int).toNat true):=⟨_,rfl⟩;replace H:(yb.l0 k1 (Ea.length:Int) Ax t105 (wrap64 (wq + 1)) Ma La Na Ka Ea)=some r:=by first|(rw [Jk];with_reducible exact H)|(have Ud:=(Option.bind_some _ _).symm.trans H;rw [Jk];with_reducible exact Ud)|(have Ud:=(Option.bind_some _ _).symm.trans H;with_reducible exact Ud)|with_reducible exact H|(rw [Jk];exact H)|exact H
         have Ts:=aa.mk Jk;clear Jk;have H':=aa.mk H;clear H;obtain ⟨yR,kR,o8⟩:=Kd.xd wh.out;subst o8;have vQ:0 ≤ (wq:Int):=Pa;have uQ:wq < (t105.length:Int):=Pa;obtain ⟨qax,nas,FF⟩:=Kd.Ce (Kd.Rb wh.out).2.2 wq vQ uQ;cases nas;replace vQ:=eq_true vQ;replace uQ:=eq_true uQ;have WV:0 ≤ ((rd t105 wq):Int):=Pa;have RV:((rd t105 wq):Int) < ((nc.length:Int):Int):=Pa;obtain ⟨VY,Fae,Cae,wae,Iar,Maz,jE⟩:=Kd.gm uc.out (by omega);(first|cases Cae|(injection Cae with Xj Uw Ww;(first|subst Xj|(injection Xj with Xj;subst Xj));subst Ww;clear Uw));have fat:=aa.mk wae;have taA:=aa.mk jE;clear wae Iar jE;obtain ⟨TL,gar⟩:=Kd.Vh false uc.out ((rd t105 wq):Int) WV RV;replace WV:=eq_true WV;replace RV:=eq_true RV;have t_:=Kd.Vn uc.out ((rd t105 wq):Int) true;go_wp2_with (first|((with_reducible refine Ef (t:=4) (p:=30) rfl ?_);refine Xe (t:=4) (p:=30) (v:=?iap) (w1:=(wr.setCell ⟨VY,((rd t105 wq):Int).toNat,none⟩ (.bool true))) ?hg ?ho ?hn ?hr ?_;(case ho=>rfl);(case hg=>rfl);(case hn=>rfl);(case hr=>first|(go_simp;done)|(go_simp;rfl));intro ZK hw;have hg:wr.grownBy ZK (some VY):=(by rw [hw];exact t_.2);have Mm:Kd.R Kd.bool 4 ZK w.heap.size (fun _=>True) (.slice (some ⟨VY,0,none⟩) nc.length Fae) Ax:=(by rw [hw,Ts.out];exact t_.1);clear t_;have Cb:=aa.mk (Mm);have Lb:=aa.mk (Kd.Xm (v:=(.slice (some ⟨VY,0,none⟩) nc.length Fae)) (by (with_reducible repeat (first|apply Kd.Va|apply Kd.Wa|apply Kd.jb));exact wh.out) (Kd.mj uc.out) (by decide) hg);have Pb:=aa.mk (Ff (g:=za) (o:=.cells #[.slice xb Ma.length qb,.int .i64 La,.int .i64 Na,.int .i64 Ka,.slice Qb Ea.length Kb] 45 (0,0)) (by (with_reducible repeat (first|refine Aa ?_ _|refine Fa ?_|refine Ba ?_ _));exact ta.out) hg (Kd.Xo uc.out ta.out (by decide)));have Ec:=aa.mk ((by rw [hw];exact ua (HB.out) fat.out:Below w.heap.size w ZK));clear uc wh ta HB;have uc:=Cb;have wh:=Lb;have ta:=Pb;have HB:=Ec;clear Cb Lb Pb Ec hg hw Mm))
         go_roundg k1
         case measure=>have:=Cf.out;omega
         case rel=>exact ⟨(Ax),(wrap64 (wq + 1)),(by first|rfl|(simp;done)|(simp [*];done)),H',⟨by have:=Cf.out;omega⟩,⟨by (with_reducible repeat (first|apply Kd.Va|apply Kd.Wa|apply Kd.jb));exact uc.out⟩,⟨by (with_reducible repeat (first|apply Kd.Va|apply Kd.Wa|apply Kd.jb));exact wh.out⟩,⟨by (with_reducible repeat (first|refine Aa ?_ _|refine Fa ?_|refine Ba ?_ _));exact ta.out⟩,⟨by repeat (first|(with_reducible first|exact HB.out|apply oa|apply ia|apply qa|refine ua ?_ Ua.out)|exact HB.out)⟩⟩
        ·rw [if_neg kB] at H;exact absurd H (by simp)
       ·rw [if_neg ax] at H;exact absurd H (by simp)
      ·rw [if_neg uu] at H;exact absurd H (by simp)
     ·rw [if_neg oR] at H;have LP:decide (wq < (t105.length:Int))=false:=decide_eq_false oR;clear oR;obtain ⟨MR,Mu⟩:∃ y_:List (List Bool),y_=(([]:List (List Bool))):=⟨_,rfl⟩;replace H:(yb.l1 k1 (Ea.length:Int) nc MR 0 Ma La Na Ka Ea)=some r:=by first|(rw [Mu];with_reducible exact H)|(have Ud:=(Option.bind_some _ _).symm.trans H;rw [Mu];with_reducible exact Ud)|(have Ud:=(Option.bind_some _ _).symm.trans H;with_reducible exact Ud)|with_reducible exact H|(rw [Mu];exact H)|exact H
      have LK:=aa.mk Mu;clear Mu;have H':=aa.mk H;clear H;obtain ⟨kat,mU,n8⟩:=Kd.xd wh.out;subst n8;go_wp2_with (first|((with_reducible refine Bb (N:=31) rfl ?_);refine Kd.VA (Kd.slice 4 Kd.bool) _ 73 ?hg (N:=31) ?hd (xs:=([]:List (List Bool))) (inner:=[]) (ok:=fun _=>True) (Oh:=fun _=>True) ?hr ?hp (fun _ hk=>hk) trivial (Below.refl _ _) (Nat.le_refl _) (by simp) ?_;(case hd=>rfl);(case hg=>rfl);(case hr=>first|(go_simp;done)|(go_simp;rfl));(case hp=>exact (Td.none _ _));intro qap w20 cT hb gl Ee;clear gl Ee;(first|rw [← LK.out] at cT|(simp only [Int.reduceToNat] at cT;rw [← LK.out] at cT));have Cb:=aa.mk (Kd.lg (by (with_reducible repeat (first|apply Kd.Va|apply Kd.Wa|apply Kd.jb));exact uc.out) hb);have Lb:=aa.mk (Kd.lg (by (with_reducible repeat (first|apply Kd.Va|apply Kd.Wa|apply Kd.jb));exact wh.out) hb);have Pb:=aa.mk (Kd.Lj (Kd.FU cT (Kd.Pk (by (with_reducible repeat (first|apply Kd.Va|apply Kd.Wa|apply Kd.jb));exact uc.out))) (Ja (by repeat (first|(with_reducible first|exact HB.out|apply oa|apply ia|apply qa|refine ua ?_ Ua.out)|exact HB.out))));have Ec:=aa.mk (Xa (g:=za) (o:=.cells #[.slice xb Ma.length qb,.int .i64 La,.int .i64 Na,.int .i64 Ka,.slice Qb Ea.length Kb] 45 (0,0)) (by (with_reducible repeat (first|refine Aa ?_ _|refine Fa ?_|refine Ba ?_ _));exact ta.out) hb);have fe:=aa.mk (Oa (by repeat (first|(with_reducible first|exact HB.out|apply oa|apply ia|apply qa|refine ua ?_ Ua.out)|exact HB.out)) hb);clear uc wh ta HB;have uc:=Cb;have wh:=Lb;have aV:=Pb;have ta:=Ec;have HB:=fe;clear Cb Lb Pb Ec fe hb cT))
      go_loopg [7,8] k1 (fun kq v7 v8 w'=>∃ (Uf:List Bool) (Ad:List (List Bool)) (We:Int),v8 = .int .i64 We∧aa (yb.l1 kq (Ea.length:Int) Uf Ad We Ma La Na Ka Ea=some r)∧aa (kq ≤ k1)∧aa (Kd.R Kd.bool 4 w' w.heap.size (fun _=>True) Ji Uf)∧aa (Kd.S (Kd.slice 4 Kd.bool) 73 w' w.heap.size (fun k_=>some k_ ≠ (Ji:Value).ownBlock) v7 Ad)∧aa (w'.heap[za]? = some (.cells #[(.slice xb Ma.length qb),.int .i64 La,.int .i64 Na,.int .i64 Ka,(.slice Qb Ea.length Kb)] 45 (0,0)))∧aa (Below w.heap.size w w'))
      case atStart=>exact ⟨(nc),(MR),(0),(by first|rfl|(simp;done)|(simp [*];done)),H',⟨Nat.le_refl _⟩,⟨by (with_reducible repeat (first|apply Kd.Va|apply Kd.Wa|apply Kd.jb));exact uc.out⟩,⟨by (with_reducible repeat (first|apply Kd.Yb|apply Kd.Xb|apply Kd.Dc));exact Kd.Ld aV.out (fun _ hk=>hk.2)⟩,⟨by (with_reducible repeat (first|refine Aa ?_ _|refine Fa ?_|refine Ba ?_ _));exact ta.out⟩,⟨by repeat (first|(with_reducible first|exact HB.out|apply oa|apply ia|apply qa|refine ua ?_ Ua.out)|exact HB.out)⟩⟩
      case round =>
       clear H'
       try clear c1
       try clear p1
       try clear q1
       try clear hx1
       try clear hf1
       try clear c2
       try clear Yt
       try clear ow
       try clear p2
       try clear c3
       try clear bh
       try clear Uo
       try clear c6
       try clear p6
       try clear vE
       try clear uE
       try clear VS
       try clear oR
       try clear LP
       try clear uu
       try clear Gz
       try clear ax
       try clear Ew
       try clear kB
       try clear JE
       try clear WV
       try clear RV
       try clear zaa
       try clear Eac
       try clear js
       try clear Zr
       try clear Yr
       try clear Xr
       try clear Wr
       try clear Ip
       try clear Hp
       try clear Gp
       try clear Fp
       try clear Ep
       try clear Vr
       try clear Ur
       try clear Tr
       try clear Sr
       try clear Qr
       try clear Dp
       try clear Cp
       try clear Bp
       try clear Ap
       try clear yp
       try clear FF
       try clear TL
       try clear vQ
       try clear WV
       try clear p2
       try clear uQ
       try clear RV
       (try clear HA);(try clear Qk);(try clear uc);(try clear Bk);(try clear ta);(try clear HB);obtain ⟨Uf,Ad,We,rfl,HA,Qk,uc,Bk,ta,HB⟩:=hrel;cases gk with
       | zero=>exact absurd HA.out (by simp [yb.l1])
       | succ k2 =>
        have H:=HA.out;clear HA;simp only [yb.l1] at H
        by_cases eE:We < (Ea.length:Int)
        ·rw [if_pos eE] at H;have uK:decide (We < (Ea.length:Int))=true:=decide_eq_true eE;clear eE
         by_cases Dw:0 ≤ (Ea.length:Int)
         ·rw [if_pos Dw] at H;have PA:=eq_true Dw;have tK:decide (0 ≤ (Ea.length:Int))=true:=decide_eq_true Dw;clear Dw
          by_cases lI:((Ea.length:Int):Int).toNat ≤ 281474976710656
          ·rw [if_pos lI] at H;have JP:=eq_true lI;have Y2:decide (((Ea.length:Int):Int).toNat ≤ 281474976710656)=true:=decide_eq_true lI;clear lI;obtain ⟨YA,vJ⟩:∃ y_:List Bool,y_=(List.replicate ((Ea.length:Int):Int).toNat false):=⟨_,rfl⟩;replace H:(if We=0 then (yb.j2 k2 (Ea.length:Int) Uf Ad We YA Ma La Na Ka Ea) else ((Mb.f k2 Ma La Na Ka Ea 0 We YA).bind fun t116=>(yb.j2 k2 (Ea.length:Int) Uf Ad We t116 Ma La Na Ka Ea)))=some r:=by first|(rw [vJ];with_reducible exact H)|(have Ud:=(Option.bind_some _ _).symm.trans H;rw [vJ];with_reducible exact Ud)|(have Ud:=(Option.bind_some _ _).symm.trans H;with_reducible exact Ud)|with_reducible exact H|(rw [vJ];exact H)|exact H
           have L3:=aa.mk vJ;clear vJ;have E_:=aa.mk H;clear H
           go_upto_if 40 with (first|((with_reducible refine Bb (N:=38) rfl ?_);refine Kd.jx Kd.bool _ 4 rfl (N:=38) rfl 73 _ _ rfl (Ea.length:Int) rfl rfl Try.underlying73 (.bool false) 1 nN rfl (by decide) (by omega) false (ok:=fun _=>True) (Oh:=fun _=>True) rfl (fun _ hk=>hk) trivial (Pa) (Nat.le_trans (Nat.mul_le_mul_right _ (Pa:(Ea.length:Int).toNat ≤ 281474976710656)) (by omega)) (Below.refl _ _) (Nat.le_refl _) ?_;intro mw lp UL hb gl Ee;clear gl Ee;(first|rw [← L3.out] at UL|(simp only [Int.reduceToNat] at UL;rw [← L3.out] at UL));have Cb:=aa.mk (Kd.Mh (by (with_reducible repeat (first|apply Kd.Va|apply Kd.Wa|apply Kd.jb));exact uc.out) (Kd.cg UL) hb);have Lb:=aa.mk (Kd.ej (by (with_reducible repeat (first|apply Kd.Yb|apply Kd.Xb|apply Kd.Dc));exact Bk.out) (Kd.cg UL) hb);have Pb:=aa.mk (Kd.xe (Kd.Yj UL (Kd.Pk (by (with_reducible repeat (first|apply Kd.Va|apply Kd.Wa|apply Kd.jb));exact uc.out))) (Ja (by repeat (first|(with_reducible first|exact HB.out|apply oa|apply ia|apply qa|refine ua ?_ Ua.out)|exact HB.out))));have Ec:=aa.mk (Xa (g:=za) (o:=.cells #[.slice xb Ma.length qb,.int .i64 La,.int .i64 Na,.int .i64 Ka,.slice Qb Ea.length Kb] 45 (0,0)) (by (with_reducible repeat (first|refine Aa ?_ _|refine Fa ?_|refine Ba ?_ _));exact ta.out) hb);have fe:=aa.mk (Oa (by repeat (first|(with_reducible first|exact HB.out|apply oa|apply ia|apply qa|refine ua ?_ Ua.out)|exact HB.out)) hb);clear uc Bk ta HB;have uc:=Cb;have Bk:=Lb;have Iw:=Pb;have ta:=Ec;have HB:=fe;clear Cb Lb Pb Ec fe hb UL))
           (try simp only [Act.put,List.setIfInBounds_toArray,List.set_cons_zero,List.set_cons_succ])
           go_cut [] (fun wc=>∃ (kq:Nat) (mh:List Bool),aa (yb.j2 kq (Ea.length:Int) Uf Ad We mh Ma La Na Ka Ea=some r)∧aa (kq ≤ k2)∧aa (Kd.R Kd.bool 4 wc w.heap.size (fun k_=>some k_ ≠ (mw:Value).ownBlock) Ji Uf)∧aa (Kd.S (Kd.slice 4 Kd.bool) 73 wc w.heap.size (fun k_=>some k_ ≠ (Ji:Value).ownBlock∧some k_ ≠ (mw:Value).ownBlock) u7 Ad)∧aa (Kd.R Kd.bool 4 wc w.heap.size (fun k_=>some k_ ≠ (Ji:Value).ownBlock) mw mh)∧aa (wc.heap[za]? = some (.cells #[(.slice xb Ma.length qb),.int .i64 La,.int .i64 Na,.int .i64 Ka,(.slice Qb Ea.length Kb)] 45 (0,0)))∧aa (Below w.heap.size w wc))
           case first =>
            have H:=E_.out;clear E_
            by_cases Zt:We=0
            ·rw [if_pos Zt] at H;have nr:(We == 0)=true:=beq_iff_eq.mpr Zt;have uU:(We != 0)=false:=bne_eq_false_iff_eq.mpr Zt;clear Zt;(first|rw [nr]|(simp only [Vb,Wb];rw [nr])|skip);have H':=aa.mk H;clear H;go_wp2
             go_meet
             case rel=>exact ⟨_,(YA),H',⟨by have:=Cf.out;have:=Qk.out;first|omega|exact Nat.le_refl _⟩,⟨by (with_reducible repeat (first|apply Kd.Va|apply Kd.Wa|apply Kd.jb));exact Kd.mc uc.out (fun _ hk=>hk.2)⟩,⟨by (with_reducible repeat (first|apply Kd.Yb|apply Kd.Xb|apply Kd.Dc));exact Bk.out⟩,⟨by (with_reducible repeat (first|apply Kd.Va|apply Kd.Wa|apply Kd.jb));exact Kd.mc Iw.out (fun _ hk=>hk.2)⟩,⟨by (with_reducible repeat (first|refine Aa ?_ _|refine Fa ?_|refine Ba ?_ _));exact ta.out⟩,⟨by repeat (first|(with_reducible first|exact HB.out|apply oa|apply ia|apply qa|refine ua ?_ Ua.out)|exact HB.out)⟩⟩
            ·rw [if_neg Zt] at H;have nr:(We == 0)=false:=beq_eq_false_iff_ne.mpr Zt;have uU:(We != 0)=true:=bne_iff_ne.mpr Zt;(first|rw [nr]|(simp only [Vb,Wb];rw [nr])|skip);replace H:=Option.bind_eq_some_iff.mp H;obtain ⟨t116,gah,H⟩:=H;replace H:(yb.j2 k2 (Ea.length:Int) Uf Ad We t116 Ma La Na Ka Ea)=some r:=H;have A29:=aa.mk gah;clear gah;have H':=aa.mk H;clear H;have eC:lp.cell? ⟨za,0,none⟩=some (.slice xb Ma.length qb):=(ja ta.out 0).trans rfl;have cC:lp.cell? ⟨za,1,none⟩=some (.int .i64 La):=(ja ta.out 1).trans rfl;have bC:lp.cell? ⟨za,2,none⟩=some (.int .i64 Na):=(ja ta.out 2).trans rfl;have aC:lp.cell? ⟨za,3,none⟩=some (.int .i64 Ka):=(ja ta.out 3).trans rfl;have ZB:lp.cell? ⟨za,4,none⟩=some (.slice Qb Ea.length Kb):=(ja ta.out 4).trans rfl;have JB:=ga ta.out 0;have IB:=ga ta.out 1;have FB:=ga ta.out 2;have EB:=ga ta.out 3;have DB:=ga ta.out 4;obtain ⟨xR,jR,l8⟩:=Kd.xd Iw.out;subst l8;go_wp2_with (first|((with_reducible refine Ab (f:=102) rfl ?_);refine Uc (some 44) rfl rfl Try.func102 (by kernel_rfl) rfl #[.agg #[.slice xb Ma.length qb,.int .i64 La,.int .i64 Na,.int .i64 Ka,.slice Qb Ea.length Kb],.int .i64 0,.int .i64 We,.slice xR YA.length jR] rfl (by (try simp only [List.map_toArray,List.map_cons,List.map_nil]);first|done|rfl|(simp only [List.length_drop,List.length_take];rfl)) ?_;(with_reducible refine (Mb.calls k2 _ _ Ma La Na Ka _ _ Ea 0 We (fun k_=>some k_=(.slice xR YA.length jR:Value).ownBlock) (.slice xR YA.length jR) YA t116 w _ ?jc ?ic ?Ed ?Dd ?Fx ?Ex A29.out).mono ?_);(case jc=>repeat (first|(with_reducible first|exact HB.out|apply oa|apply ia|apply qa|refine ua ?_ Ua.out)|exact HB.out));(case ic=>exact Kd.Yu (Kd.Sj .i64) Ue.out (by repeat (first|(with_reducible first|exact HB.out|apply oa|apply ia|apply qa|refine ua ?_ Ua.out)|exact HB.out)) (fun k_ hs_=>(fun e_=>Kd.cg Iw.out k_ e_.symm) hs_));(case Ed=>exact af.out);(case Dd=>exact Kd.Yu ES Xf.out (by repeat (first|(with_reducible first|exact HB.out|apply oa|apply ia|apply qa|refine ua ?_ Ua.out)|exact HB.out)) (fun k_ hs_=>(fun e_=>Kd.cg Iw.out k_ e_.symm) hs_));(case Fx=>exact Zg.out);(case Ex=>exact Kd.th rfl Iw.out);rintro e w32 ⟨rfl,hy0,hb,hkp⟩;refine ⟨_,rfl,?_⟩;have Cb:=aa.mk (Kd.mc (wj:=fun k_=>some k_ ≠ (.slice xR YA.length jR:Value).ownBlock) (Kd.Fo (uc.out) hkp (fun k_ wg hs_=>(wg.2) hs_)) (fun k_ wg=>wg.1.2));have Lb:=aa.mk (Kd.Ld (wj:=fun k_=>some k_ ≠ (Ji:Value).ownBlock∧some k_ ≠ (.slice xR YA.length jR:Value).ownBlock) (Kd.Mj (Bk.out) hkp (fun k_ wg hs_=>(wg.2) hs_)) (fun k_ wg=>⟨wg.1.1,wg.1.2⟩));have Pb:=aa.mk (Og (by (with_reducible repeat (first|refine Aa ?_ _|refine Fa ?_|refine Ba ?_ _));exact ta.out) hkp (fun hs_=>(fun e_=>(Kd.Xo Iw.out ta.out (by decide)) e_) hs_));have Ec:=aa.mk (Kd.LU rfl hy0 (fun k_ e_=>Iw.out.1 k_ e_));have fe:=aa.mk (hb);clear uc Bk ta Iw HB;have uc:=Cb;have Bk:=Lb;have ta:=Pb;have Iw:=Ec;have HB:=fe;clear Cb Lb Pb Ec fe;(try clear hb);(try clear hkp);(try clear hy0)))
             go_meet
             case rel=>exact ⟨_,(t116),H',⟨by have:=Cf.out;have:=Qk.out;first|omega|exact Nat.le_refl _⟩,⟨by (with_reducible repeat (first|apply Kd.Va|apply Kd.Wa|apply Kd.jb));exact uc.out⟩,⟨by (with_reducible repeat (first|apply Kd.Yb|apply Kd.Xb|apply Kd.Dc));exact Bk.out⟩,⟨by (with_reducible repeat (first|apply Kd.Va|apply Kd.Wa|apply Kd.jb));exact Kd.mc Iw.out (fun _ hk=>hk.2)⟩,⟨by (with_reducible repeat (first|refine Aa ?_ _|refine Fa ?_|refine Ba ?_ _));exact ta.out⟩,⟨by repeat (first|(with_reducible first|exact HB.out|apply oa|apply ia|apply qa|refine ua ?_ Ua.out)|exact HB.out)⟩⟩
           case rest =>
            clear E_
            try clear c1
            try clear p1
            try clear q1
            try clear hx1
            try clear hf1
            try clear c2
            try clear Yt
            try clear ow
            try clear p2
            try clear c3
            try clear bh
            try clear Uo
            try clear c6
            try clear p6
            try clear c10
            try clear vE
            try clear uE
            try clear VS
            try clear oR
            try clear LP
            try clear uu
            try clear Gz
            try clear ax
            try clear Ew
            try clear kB
            try clear JE
            try clear WV
            try clear RV
            try clear zaa
            try clear Eac
            try clear eE
            try clear uK
            try clear Dw
            try clear PA
            try clear tK
            try clear lI
            try clear JP
            try clear Y2
            try clear Zt
            try clear nr
            try clear uU
            try clear eC
            try clear cC
            try clear bC
            try clear aC
            try clear ZB
            try clear js
            try clear Zr
            try clear Yr
            try clear Xr
            try clear Wr
            try clear Ip
            try clear Hp
            try clear Gp
            try clear Fp
            try clear Ep
            try clear JB
            try clear IB
            try clear FB
            try clear EB
            try clear DB
            try clear Vr
            try clear Ur
            try clear Tr
            try clear Sr
            try clear Qr
            try clear Dp
            try clear Cp
            try clear Bp
            try clear Ap
            try clear yp
            try clear FF
            try clear TL
            try clear p1
            try clear vE
            try clear vQ
            try clear WV
            try clear p2
            try clear p6
            try clear q1
            try clear uE
            try clear uQ
            try clear RV
            obtain ⟨kq,mh,HA,TK,uc,Bk,Xh,ta,HB⟩:=hcut;cases kq with
            | zero=>exact absurd HA.out (by simp [yb.j2])
            | succ l6 =>
             have H:=HA.out;clear HA;simp only [yb.j2] at H
             by_cases xx:0 ≤ (Ea.length:Int)
             ·rw [if_pos xx] at H;have tU:=eq_true xx;have sU:decide (0 ≤ (Ea.length:Int))=true:=decide_eq_true xx;clear xx
              by_cases ux:((Ea.length:Int):Int).toNat ≤ 281474976710656
              ·rw [if_pos ux] at H;have rU:=eq_true ux;have qU:decide (((Ea.length:Int):Int).toNat ≤ 281474976710656)=true:=decide_eq_true ux;clear ux;obtain ⟨PI,Lu⟩:∃ y_:List Bool,y_=(List.replicate ((Ea.length:Int):Int).toNat false):=⟨_,rfl⟩;replace H:(yb.l2 l6 (Ea.length:Int) Uf Ad We mh PI 0 Ma La Na Ka Ea)=some r:=by first|(rw [Lu];with_reducible exact H)|(have Ud:=(Option.bind_some _ _).symm.trans H;rw [Lu];with_reducible exact Ud)|(have Ud:=(Option.bind_some _ _).symm.trans H;with_reducible exact Ud)|with_reducible exact H|(rw [Lu];exact H)|exact H
               have TP:=aa.mk Lu;clear Lu;have H':=aa.mk H;clear H;go_wp2_with (first|((with_reducible refine Bb (N:=46) rfl ?_);refine Kd.jx Kd.bool _ 4 rfl (N:=46) rfl 73 _ _ rfl (Ea.length:Int) rfl rfl Try.underlying73 (.bool false) 1 nN rfl (by decide) (by omega) false (ok:=fun _=>True) (Oh:=fun _=>True) rfl (fun _ hk=>hk) trivial (Pa) (Nat.le_trans (Nat.mul_le_mul_right _ (Pa:(Ea.length:Int).toNat ≤ 281474976710656)) (by omega)) (Below.refl _ _) (Nat.le_refl _) ?_;intro RI F5 AJ hb gl Ee;clear gl Ee;(first|rw [← TP.out] at AJ|(simp only [Int.reduceToNat] at AJ;rw [← TP.out] at AJ));have Cb:=aa.mk (Kd.Mh (by (with_reducible repeat (first|apply Kd.Va|apply Kd.Wa|apply Kd.jb));exact uc.out) (Kd.cg AJ) hb);have Lb:=aa.mk (Kd.ej (by (with_reducible repeat (first|apply Kd.Yb|apply Kd.Xb|apply Kd.Dc));exact Bk.out) (Kd.cg AJ) hb);have Pb:=aa.mk (Kd.Mh (by (with_reducible repeat (first|apply Kd.Va|apply Kd.Wa|apply Kd.jb));exact Xh.out) (Kd.cg AJ) hb);have Ec:=aa.mk (Kd.xe (Kd.Yj (Kd.Yj AJ (Kd.Pk (by (with_reducible repeat (first|apply Kd.Va|apply Kd.Wa|apply Kd.jb));exact uc.out))) (Kd.Pk (by (with_reducible repeat (first|apply Kd.Va|apply Kd.Wa|apply Kd.jb));exact Xh.out))) (Ja (by repeat (first|(with_reducible first|exact HB.out|apply oa|apply ia|apply qa|refine ua ?_ Ua.out)|exact HB.out))));have fe:=aa.mk (Xa (g:=za) (o:=.cells #[.slice xb Ma.length qb,.int .i64 La,.int .i64 Na,.int .i64 Ka,.slice Qb Ea.length Kb] 45 (0,0)) (by (with_reducible repeat (first|refine Aa ?_ _|refine Fa ?_|refine Ba ?_ _));exact ta.out) hb);have Af:=aa.mk (Oa (by repeat (first|(with_reducible first|exact HB.out|apply oa|apply ia|apply qa|refine ua ?_ Ua.out)|exact HB.out)) hb);clear uc Bk Xh ta HB;have uc:=Cb;have Bk:=Lb;have Xh:=Pb;have Er:=Ec;have ta:=fe;have HB:=Af;clear Cb Lb Pb Ec fe Af hb AJ))
               go_loopg [11] l6 (fun kq v11 w'=>∃ (kf:List Bool) (td:Int),v11 = .int .i64 td∧aa (yb.l2 kq (Ea.length:Int) Uf Ad We mh kf td Ma La Na Ka Ea=some r)∧aa (kq ≤ l6)∧aa (Kd.R Kd.bool 4 w' w.heap.size (fun k_=>some k_ ≠ (mw:Value).ownBlock∧some k_ ≠ (RI:Value).ownBlock) Ji Uf)∧aa (Kd.S (Kd.slice 4 Kd.bool) 73 w' w.heap.size (fun k_=>some k_ ≠ (Ji:Value).ownBlock∧some k_ ≠ (mw:Value).ownBlock∧some k_ ≠ (RI:Value).ownBlock) u7 Ad)∧aa (Kd.R Kd.bool 4 w' w.heap.size (fun k_=>some k_ ≠ (Ji:Value).ownBlock∧some k_ ≠ (RI:Value).ownBlock) mw mh)∧aa (Kd.R Kd.bool 4 w' w.heap.size (fun k_=>some k_ ≠ (Ji:Value).ownBlock∧some k_ ≠ (mw:Value).ownBlock) RI kf)∧aa (w'.heap[za]? = some (.cells #[(.slice xb Ma.length qb),.int .i64 La,.int .i64 Na,.int .i64 Ka,(.slice Qb Ea.length Kb)] 45 (0,0)))∧aa (Below w.heap.size w w'))
               case atStart=>exact ⟨(PI),(0),(by first|rfl|(simp;done)|(simp [*];done)),H',⟨Nat.le_refl _⟩,⟨by (with_reducible repeat (first|apply Kd.Va|apply Kd.Wa|apply Kd.jb));exact uc.out⟩,⟨by (with_reducible repeat (first|apply Kd.Yb|apply Kd.Xb|apply Kd.Dc));exact Kd.Ld Bk.out (fun _ hk=>⟨hk.1.1,⟨hk.1.2,hk.2⟩⟩)⟩,⟨by (with_reducible repeat (first|apply Kd.Va|apply Kd.Wa|apply Kd.jb));exact Xh.out⟩,⟨by (with_reducible repeat (first|apply Kd.Va|apply Kd.Wa|apply Kd.jb));exact Kd.mc Er.out (fun _ hk=>⟨hk.1.2,hk.2⟩)⟩,⟨by (with_reducible repeat (first|refine Aa ?_ _|refine Fa ?_|refine Ba ?_ _));exact ta.out⟩,⟨by repeat (first|(with_reducible first|exact HB.out|apply oa|apply ia|apply qa|refine ua ?_ Ua.out)|exact HB.out)⟩⟩
               case round =>
                clear H'
                try clear c1
                try clear p1
                try clear q1
                try clear hx1
                try clear hf1
                try clear c2
                try clear Yt
                try clear ow
                try clear p2
                try clear c3
                try clear bh
                try clear Uo
                try clear c6
                try clear p6
                try clear c10
                try clear vE
                try clear uE
                try clear VS
                try clear oR
                try clear LP
                try clear uu
                try clear Gz
                try clear ax
                try clear Ew
                try clear kB
                try clear JE
                try clear WV
                try clear RV
                try clear zaa
                try clear Eac
                try clear eE
                try clear uK
                try clear Dw
                try clear PA
                try clear tK
                try clear lI
                try clear JP
                try clear Y2
                try clear Zt
                try clear nr
                try clear uU
                try clear xx
                try clear tU
                try clear sU
                try clear ux
                try clear rU
                try clear qU
                try clear eC
                try clear cC
                try clear bC
                try clear aC
                try clear ZB
                try clear js
                try clear Zr
                try clear Yr
                try clear Xr
                try clear Wr
                try clear Ip
                try clear Hp
                try clear Gp
                try clear Fp
                try clear Ep
                try clear JB
                try clear IB
                try clear FB
                try clear EB
                try clear DB
                try clear Vr
                try clear Ur
                try clear Tr
                try clear Sr
                try clear Qr
                try clear Dp
                try clear Cp
                try clear Bp
                try clear Ap
                try clear yp
                try clear FF
                try clear TL
                try clear p1
                try clear vE
                try clear vQ
                try clear WV
                try clear p2
                try clear p6
                try clear q1
                try clear uE
                try clear uQ
                try clear RV
                (try clear HA);(try clear FZ);(try clear uc);(try clear Bk);(try clear Xh);(try clear yj);(try clear ta);(try clear HB);obtain ⟨kf,td,rfl,HA,FZ,uc,Bk,Xh,yj,ta,HB⟩:=hrel;cases gk with
                | zero=>exact absurd HA.out (by simp [yb.l2])
                | succ k4 =>
                 have H:=HA.out;clear HA;simp only [yb.l2] at H
                 by_cases GR:td < (Ea.length:Int)
                 ·rw [if_pos GR] at H;have D2:decide (td < (Ea.length:Int))=true:=decide_eq_true GR;clear GR
                  by_cases gZ:0 ≤ We
                  ·rw [if_pos gZ] at H;have baf:decide (0 ≤ We)=true:=decide_eq_true gZ;clear gZ
                   by_cases c39:We < (Uf.length:Int)
                   ·rw [if_pos c39] at H;have nax:decide (We < (Uf.length:Int))=true:=decide_eq_true c39;clear c39;obtain ⟨jaf,QT⟩:∃ b_:Bool,b_=(qg false Uf We):=⟨_,rfl⟩;replace H:(if jaf=true then (if 0 ≤ td then (if td < (Uf.length:Int) then (if qg false Uf td=true then (if td < (mh.length:Int) then (if td < (kf.length:Int) then (yb.l2 k4 (Ea.length:Int) Uf Ad We mh (kf.set (td:Int).toNat (!(qg false mh td))) (wrap64 (td + 1)) Ma La Na Ka Ea) else (none)) else (none)) else (if td < (kf.length:Int) then (yb.l2 k4 (Ea.length:Int) Uf Ad We mh (kf.set (td:Int).toNat false) (wrap64 (td + 1)) Ma La Na Ka Ea) else (none))) else (none)) else (none)) else (if 0 ≤ td then (if td < (kf.length:Int) then (yb.l2 k4 (Ea.length:Int) Uf Ad We mh (kf.set (td:Int).toNat false) (wrap64 (td + 1)) Ma La Na Ka Ea) else (none)) else (none)))=some r:=by rw [← QT] at H;exact H
                    have QE:=aa.mk QT;clear QT
                    by_cases c41:jaf=true
                    ·subst c41;have H1:(if 0 ≤ td then (if td < (Uf.length:Int) then (if qg false Uf td=true then (if td < (mh.length:Int) then (if td < (kf.length:Int) then (yb.l2 k4 (Ea.length:Int) Uf Ad We mh (kf.set (td:Int).toNat (!(qg false mh td))) (wrap64 (td + 1)) Ma La Na Ka Ea) else (none)) else (none)) else (if td < (kf.length:Int) then (yb.l2 k4 (Ea.length:Int) Uf Ad We mh (kf.set (td:Int).toNat false) (wrap64 (td + 1)) Ma La Na Ka Ea) else (none))) else (none)) else (none))=some r:=by rw [if_pos rfl] at H;exact H
                     clear H;have H:=H1;clear H1
                     by_cases gL:0 ≤ td
                     ·rw [if_pos gL] at H;have C2:decide (0 ≤ td)=true:=decide_eq_true gL;clear gL
                      by_cases GP:td < (Uf.length:Int)
                      ·rw [if_pos GP] at H;have Yae:decide (td < (Uf.length:Int))=true:=decide_eq_true GP;clear GP;obtain ⟨iaf,PT⟩:∃ b_:Bool,b_=(qg false Uf td):=⟨_,rfl⟩;replace H:(if iaf=true then (if td < (mh.length:Int) then (if td < (kf.length:Int) then (yb.l2 k4 (Ea.length:Int) Uf Ad We mh (kf.set (td:Int).toNat (!(qg false mh td))) (wrap64 (td + 1)) Ma La Na Ka Ea) else (none)) else (none)) else (if td < (kf.length:Int) then (yb.l2 k4 (Ea.length:Int) Uf Ad We mh (kf.set (td:Int).toNat false) (wrap64 (td + 1)) Ma La Na Ka Ea) else (none)))=some r:=by rw [← PT] at H;exact H
                       have NK:=aa.mk PT;clear PT
                       by_cases jI:iaf=true
                       ·subst jI;have H1:(if td < (mh.length:Int) then (if td < (kf.length:Int) then (yb.l2 k4 (Ea.length:Int) Uf Ad We mh (kf.set (td:Int).toNat (!(qg false mh td))) (wrap64 (td + 1)) Ma La Na Ka Ea) else (none)) else (none))=some r:=by rw [if_pos rfl] at H;exact H
                        clear H;have H:=H1;clear H1
                        by_cases jB:td < (mh.length:Int)
                        ·rw [if_pos jB] at H;have FP:decide (td < (mh.length:Int))=true:=decide_eq_true jB;clear jB
                         by_cases fZ:td < (kf.length:Int)
                         ·rw [if_pos fZ] at H;have kax:decide (td < (kf.length:Int))=true:=decide_eq_true fZ;clear fZ;obtain ⟨C5,rJ⟩:∃ y_:List Bool,y_=(kf.set (td:Int).toNat (!(qg false mh td))):=⟨_,rfl⟩;replace H:(yb.l2 k4 (Ea.length:Int) Uf Ad We mh C5 (wrap64 (td + 1)) Ma La Na Ka Ea)=some r:=by first|(rw [rJ];with_reducible exact H)|(have Ud:=(Option.bind_some _ _).symm.trans H;rw [rJ];with_reducible exact Ud)|(have Ud:=(Option.bind_some _ _).symm.trans H;with_reducible exact Ud)|with_reducible exact H|(rw [rJ];exact H)|exact H
                          have Daf:=aa.mk rJ;clear rJ;have H':=aa.mk H;clear H;obtain ⟨gat,bZ,Z7⟩:=Kd.xd uc.out;subst Z7;have Xl:0 ≤ (We:Int):=Pa;have Vl:We < (Uf.length:Int):=Pa;obtain ⟨om,Yw,qh⟩:=Kd.cj (Kd.Rb uc.out).2.2 We Xl Vl;(try rw [← QE.out] at qh);(try rw [← NK.out] at qh);cases Yw;replace Xl:=eq_true Xl;replace Vl:=eq_true Vl;have Wl:0 ≤ (td:Int):=Pa;have Ul:td < (Uf.length:Int):=Pa;obtain ⟨Wm,gA,Zi⟩:=Kd.cj (Kd.Rb uc.out).2.2 td Wl Ul;(try rw [← QE.out] at Zi);(try rw [← NK.out] at Zi);obtain rfl:om=Wm:=(by injection gA);replace Wl:=eq_true Wl;replace Ul:=eq_true Ul;obtain ⟨zaA,L8,Rar⟩:=Kd.xd Xh.out;subst Rar;have Rp:0 ≤ (td:Int):=Pa;have Qp:td < (mh.length:Int):=Pa;obtain ⟨xj,jD,qk⟩:=Kd.cj (Kd.Rb Xh.out).2.2 td Rp Qp;(try rw [← QE.out] at qk);(try rw [← NK.out] at qk);cases jD;replace Rp:=eq_true Rp;replace Qp:=eq_true Qp;have p48:0 ≤ (td:Int):=Pa;have q48:(td:Int) < ((kf.length:Int):Int):=Pa;obtain ⟨SH,su,ZQ,uae,Gar,Kaz,Cag⟩:=Kd.gm yj.out (by omega);(first|cases ZQ|(injection ZQ with Xj Uw Ww;(first|subst Xj|(injection Xj with Xj;subst Xj));subst Ww;clear Uw));have bat:=aa.mk uae;have raA:=aa.mk Cag;clear uae Gar Cag;obtain ⟨Sap,bar⟩:=Kd.Vh false yj.out (td:Int) p48 q48;replace p48:=eq_true p48;replace q48:=eq_true q48;have d_:=Kd.Vn yj.out (td:Int) (!(qg false mh td));go_wp2_with (first|((with_reducible refine Ef (t:=4) (p:=71) rfl ?_);refine Xe (t:=4) (p:=71) (v:=?Vao) (w1:=(wr.setCell ⟨SH,(td:Int).toNat,none⟩ (.bool (!(qg false mh td))))) ?hg ?ho ?hn ?hr ?_;(case ho=>rfl);(case hg=>rfl);(case hn=>rfl);(case hr=>first|(go_simp;done)|(go_simp;rfl));intro CV hw;have hg:wr.grownBy CV (some SH):=(by rw [hw];exact d_.2);have Mm:Kd.R Kd.bool 4 CV w.heap.size (fun k_=>some k_ ≠ (.slice (some om) Uf.length bZ:Value).ownBlock∧some k_ ≠ (.slice (some xj) mh.length L8:Value).ownBlock) (.slice (some ⟨SH,0,none⟩) kf.length su) C5:=(by rw [hw,Daf.out];exact d_.1);clear d_;have Cb:=aa.mk (Kd.Yg (v:=(.slice (some ⟨SH,0,none⟩) kf.length su)) (v1:=(.slice (some ⟨SH,0,none⟩) kf.length su)) (ok:=(fun k_=>some k_ ≠ (.slice (some xj) mh.length L8:Value).ownBlock)) (by (with_reducible repeat (first|apply Kd.Va|apply Kd.Wa|apply Kd.jb));exact uc.out) hg (.inl rfl));have Lb:=aa.mk (Kd.vr (v:=(.slice (some ⟨SH,0,none⟩) kf.length su)) (v1:=(.slice (some ⟨SH,0,none⟩) kf.length su)) (ok:=(fun k_=>some k_ ≠ (.slice (some om) Uf.length bZ:Value).ownBlock∧some k_ ≠ (.slice (some xj) mh.length L8:Value).ownBlock)) (by (with_reducible repeat (first|apply Kd.Yb|apply Kd.Xb|apply Kd.Dc));exact Kd.Ld Bk.out (fun _ hk=>⟨⟨hk.1,hk.2.1⟩,hk.2.2⟩)) hg (.inl rfl));have Pb:=aa.mk (Kd.Yg (v:=(.slice (some ⟨SH,0,none⟩) kf.length su)) (v1:=(.slice (some ⟨SH,0,none⟩) kf.length su)) (ok:=(fun k_=>some k_ ≠ (.slice (some om) Uf.length bZ:Value).ownBlock)) (by (with_reducible repeat (first|apply Kd.Va|apply Kd.Wa|apply Kd.jb));exact Xh.out) hg (.inl rfl));have Ec:=aa.mk (Mm);have fe:=aa.mk (Ff (g:=za) (o:=.cells #[.slice xb Ma.length qb,.int .i64 La,.int .i64 Na,.int .i64 Ka,.slice Qb Ea.length Kb] 45 (0,0)) (by (with_reducible repeat (first|refine Aa ?_ _|refine Fa ?_|refine Ba ?_ _));exact ta.out) hg (Kd.Xo yj.out ta.out (by decide)));have Af:=aa.mk ((by rw [hw];exact ua (HB.out) bat.out:Below w.heap.size w CV));clear uc Bk Xh yj ta HB;have uc:=Cb;have Bk:=Lb;have Xh:=Pb;have yj:=Ec;have ta:=fe;have HB:=Af;clear Cb Lb Pb Ec fe Af hg hw Mm))
                          go_roundg k4
                          case measure=>have:=Cf.out;have:=Qk.out;have:=TK.out;have:=FZ.out;omega
                          case rel=>exact ⟨(C5),(wrap64 (td + 1)),(by first|rfl|(simp;done)|(simp [*];done)),H',⟨by have:=Cf.out;have:=Qk.out;have:=TK.out;have:=FZ.out;omega⟩,⟨by (with_reducible repeat (first|apply Kd.Va|apply Kd.Wa|apply Kd.jb));exact uc.out⟩,⟨by (with_reducible repeat (first|apply Kd.Yb|apply Kd.Xb|apply Kd.Dc));exact Kd.Ld Bk.out (fun _ hk=>⟨hk.1.1,⟨hk.1.2,hk.2⟩⟩)⟩,⟨by (with_reducible repeat (first|apply Kd.Va|apply Kd.Wa|apply Kd.jb));exact Xh.out⟩,⟨by (with_reducible repeat (first|apply Kd.Va|apply Kd.Wa|apply Kd.jb));exact yj.out⟩,⟨by (with_reducible repeat (first|refine Aa ?_ _|refine Fa ?_|refine Ba ?_ _));exact ta.out⟩,⟨by repeat (first|(with_reducible first|exact HB.out|apply oa|apply ia|apply qa|refine ua ?_ Ua.out)|exact HB.out)⟩⟩
                         ·rw [if_neg fZ] at H;exact absurd H (by simp)
                        ·rw [if_neg jB] at H;exact absurd H (by simp)
                       ·replace jI:=Bool.eq_false_iff.mpr jI;subst jI;have H1:(if td < (kf.length:Int) then (yb.l2 k4 (Ea.length:Int) Uf Ad We mh (kf.set (td:Int).toNat false) (wrap64 (td + 1)) Ma La Na Ka Ea) else (none))=some r:=by rw [if_neg (show ¬ (false=true) by decide)] at H;exact H
                        clear H;have H:=H1;clear H1
                        by_cases FR:td < (kf.length:Int)
                        ·rw [if_pos FR] at H;have Z1:decide (td < (kf.length:Int))=true:=decide_eq_true FR;clear FR;obtain ⟨OI,Ju⟩:∃ y_:List Bool,y_=(kf.set (td:Int).toNat false):=⟨_,rfl⟩;replace H:(yb.l2 k4 (Ea.length:Int) Uf Ad We mh OI (wrap64 (td + 1)) Ma La Na Ka Ea)=some r:=by first|(rw [Ju];with_reducible exact H)|(have Ud:=(Option.bind_some _ _).symm.trans H;rw [Ju];with_reducible exact Ud)|(have Ud:=(Option.bind_some _ _).symm.trans H;with_reducible exact Ud)|with_reducible exact H|(rw [Ju];exact H)|exact H
                         have QU:=aa.mk Ju;clear Ju;have H':=aa.mk H;clear H;obtain ⟨yaA,J8,Par⟩:=Kd.xd uc.out;subst Par;have Xl:0 ≤ (We:Int):=Pa;have Vl:We < (Uf.length:Int):=Pa;obtain ⟨om,Yw,qh⟩:=Kd.cj (Kd.Rb uc.out).2.2 We Xl Vl;(try rw [← QE.out] at qh);(try rw [← NK.out] at qh);cases Yw;replace Xl:=eq_true Xl;replace Vl:=eq_true Vl;have Wl:0 ≤ (td:Int):=Pa;have Ul:td < (Uf.length:Int):=Pa;obtain ⟨Wm,gA,Zi⟩:=Kd.cj (Kd.Rb uc.out).2.2 td Wl Ul;(try rw [← QE.out] at Zi);(try rw [← NK.out] at Zi);obtain rfl:om=Wm:=(by injection gA);replace Wl:=eq_true Wl;replace Ul:=eq_true Ul;have p54:0 ≤ (td:Int):=Pa;have q54:(td:Int) < ((kf.length:Int):Int):=Pa;obtain ⟨RH,sM,Bae,sae,Ear,Iaz,Bag⟩:=Kd.gm yj.out (by omega);(first|cases Bae|(injection Bae with Xj Uw Ww;(first|subst Xj|(injection Xj with Xj;subst Xj));subst Ww;clear Uw));have aat:=aa.mk sae;have paA:=aa.mk Bag;clear sae Ear Bag;obtain ⟨Rap,aar⟩:=Kd.Vh false yj.out (td:Int) p54 q54;replace p54:=eq_true p54;replace q54:=eq_true q54;have Z9:=Kd.Vn yj.out (td:Int) false;go_wp2_with (first|((with_reducible refine Ef (t:=4) (p:=71) rfl ?_);refine Xe (t:=4) (p:=71) (v:=?Uao) (w1:=(wr.setCell ⟨RH,(td:Int).toNat,none⟩ (.bool false))) ?hg ?ho ?hn ?hr ?_;(case ho=>rfl);(case hg=>rfl);(case hn=>rfl);(case hr=>first|(go_simp;done)|(go_simp;rfl));intro w57 hw;have hg:wr.grownBy w57 (some RH):=(by rw [hw];exact Z9.2);have Mm:Kd.R Kd.bool 4 w57 w.heap.size (fun k_=>some k_ ≠ (.slice (some om) Uf.length J8:Value).ownBlock∧some k_ ≠ (mw:Value).ownBlock) (.slice (some ⟨RH,0,none⟩) kf.length sM) OI:=(by rw [hw,QU.out];exact Z9.1);clear Z9;have Cb:=aa.mk (Kd.Yg (v:=(.slice (some ⟨RH,0,none⟩) kf.length sM)) (v1:=(.slice (some ⟨RH,0,none⟩) kf.length sM)) (ok:=(fun k_=>some k_ ≠ (mw:Value).ownBlock)) (by (with_reducible repeat (first|apply Kd.Va|apply Kd.Wa|apply Kd.jb));exact uc.out) hg (.inl rfl));have Lb:=aa.mk (Kd.vr (v:=(.slice (some ⟨RH,0,none⟩) kf.length sM)) (v1:=(.slice (some ⟨RH,0,none⟩) kf.length sM)) (ok:=(fun k_=>some k_ ≠ (.slice (some om) Uf.length J8:Value).ownBlock∧some k_ ≠ (mw:Value).ownBlock)) (by (with_reducible repeat (first|apply Kd.Yb|apply Kd.Xb|apply Kd.Dc));exact Kd.Ld Bk.out (fun _ hk=>⟨⟨hk.1,hk.2.1⟩,hk.2.2⟩)) hg (.inl rfl));have Pb:=aa.mk (Kd.Yg (v:=(.slice (some ⟨RH,0,none⟩) kf.length sM)) (v1:=(.slice (some ⟨RH,0,none⟩) kf.length sM)) (ok:=(fun k_=>some k_ ≠ (.slice (some om) Uf.length J8:Value).ownBlock)) (by (with_reducible repeat (first|apply Kd.Va|apply Kd.Wa|apply Kd.jb));exact Xh.out) hg (.inl rfl));have Ec:=aa.mk (Mm);have fe:=aa.mk (Ff (g:=za) (o:=.cells #[.slice xb Ma.length qb,.int .i64 La,.int .i64 Na,.int .i64 Ka,.slice Qb Ea.length Kb] 45 (0,0)) (by (with_reducible repeat (first|refine Aa ?_ _|refine Fa ?_|refine Ba ?_ _));exact ta.out) hg (Kd.Xo yj.out ta.out (by decide)));have Af:=aa.mk ((by rw [hw];exact ua (HB.out) aat.out:Below w.heap.size w w57));clear uc Bk Xh yj ta HB;have uc:=Cb;have Bk:=Lb;have Xh:=Pb;have yj:=Ec;have ta:=fe;have HB:=Af;clear Cb Lb Pb Ec fe Af hg hw Mm))
                         go_roundg k4
                         case measure=>have:=Cf.out;have:=Qk.out;have:=TK.out;have:=FZ.out;omega
                         case rel=>exact ⟨(OI),(wrap64 (td + 1)),(by first|rfl|(simp;done)|(simp [*];done)),H',⟨by have:=Cf.out;have:=Qk.out;have:=TK.out;have:=FZ.out;omega⟩,⟨by (with_reducible repeat (first|apply Kd.Va|apply Kd.Wa|apply Kd.jb));exact uc.out⟩,⟨by (with_reducible repeat (first|apply Kd.Yb|apply Kd.Xb|apply Kd.Dc));exact Kd.Ld Bk.out (fun _ hk=>⟨hk.1.1,⟨hk.1.2,hk.2⟩⟩)⟩,⟨by (with_reducible repeat (first|apply Kd.Va|apply Kd.Wa|apply Kd.jb));exact Xh.out⟩,⟨by (with_reducible repeat (first|apply Kd.Va|apply Kd.Wa|apply Kd.jb));exact yj.out⟩,⟨by (with_reducible repeat (first|refine Aa ?_ _|refine Fa ?_|refine Ba ?_ _));exact ta.out⟩,⟨by repeat (first|(with_reducible first|exact HB.out|apply oa|apply ia|apply qa|refine ua ?_ Ua.out)|exact HB.out)⟩⟩
                        ·rw [if_neg FR] at H;exact absurd H (by simp)
                      ·rw [if_neg GP] at H;exact absurd H (by simp)
                     ·rw [if_neg gL] at H;exact absurd H (by simp)
                    ·replace c41:=Bool.eq_false_iff.mpr c41;subst c41;have H1:(if 0 ≤ td then (if td < (kf.length:Int) then (yb.l2 k4 (Ea.length:Int) Uf Ad We mh (kf.set (td:Int).toNat false) (wrap64 (td + 1)) Ma La Na Ka Ea) else (none)) else (none))=some r:=by rw [if_neg (show ¬ (false=true) by decide)] at H;exact H
                     clear H;have H:=H1;clear H1
                     by_cases c58:0 ≤ td
                     ·rw [if_pos c58] at H;have jax:decide (0 ≤ td)=true:=decide_eq_true c58;clear c58
                      by_cases c59:td < (kf.length:Int)
                      ·rw [if_pos c59] at H;have iax:decide (td < (kf.length:Int))=true:=decide_eq_true c59;clear c59;obtain ⟨lQ,Iu⟩:∃ y_:List Bool,y_=(kf.set (td:Int).toNat false):=⟨_,rfl⟩;replace H:(yb.l2 k4 (Ea.length:Int) Uf Ad We mh lQ (wrap64 (td + 1)) Ma La Na Ka Ea)=some r:=by first|(rw [Iu];with_reducible exact H)|(have Ud:=(Option.bind_some _ _).symm.trans H;rw [Iu];with_reducible exact Ud)|(have Ud:=(Option.bind_some _ _).symm.trans H;with_reducible exact Ud)|with_reducible exact H|(rw [Iu];exact H)|exact H
                       have PU:=aa.mk Iu;clear Iu;have H':=aa.mk H;clear H;obtain ⟨xaA,I8,Oar⟩:=Kd.xd uc.out;subst Oar;have Xl:0 ≤ (We:Int):=Pa;have Vl:We < (Uf.length:Int):=Pa;obtain ⟨om,Yw,qh⟩:=Kd.cj (Kd.Rb uc.out).2.2 We Xl Vl;(try rw [← QE.out] at qh);cases Yw;replace Xl:=eq_true Xl;replace Vl:=eq_true Vl;have p60:0 ≤ (td:Int):=Pa;have q60:(td:Int) < ((kf.length:Int):Int):=Pa;obtain ⟨QH,rM,Aae,rae,Dar,Haz,zag⟩:=Kd.gm yj.out (by omega);(first|cases Aae|(injection Aae with Xj Uw Ww;(first|subst Xj|(injection Xj with Xj;subst Xj));subst Ww;clear Uw));have Zas:=aa.mk rae;have oaA:=aa.mk zag;clear rae Dar zag;obtain ⟨Qap,Zaq⟩:=Kd.Vh false yj.out (td:Int) p60 q60;replace p60:=eq_true p60;replace q60:=eq_true q60;have Y9:=Kd.Vn yj.out (td:Int) false;go_wp2_with (first|((with_reducible refine Ef (t:=4) (p:=71) rfl ?_);refine Xe (t:=4) (p:=71) (v:=?Tao) (w1:=(wr.setCell ⟨QH,(td:Int).toNat,none⟩ (.bool false))) ?hg ?ho ?hn ?hr ?_;(case ho=>rfl);(case hg=>rfl);(case hn=>rfl);(case hr=>first|(go_simp;done)|(go_simp;rfl));intro w63 hw;have hg:wr.grownBy w63 (some QH):=(by rw [hw];exact Y9.2);have Mm:Kd.R Kd.bool 4 w63 w.heap.size (fun k_=>some k_ ≠ (.slice (some om) Uf.length I8:Value).ownBlock∧some k_ ≠ (mw:Value).ownBlock) (.slice (some ⟨QH,0,none⟩) kf.length rM) lQ:=(by rw [hw,PU.out];exact Y9.1);clear Y9;have Cb:=aa.mk (Kd.Yg (v:=(.slice (some ⟨QH,0,none⟩) kf.length rM)) (v1:=(.slice (some ⟨QH,0,none⟩) kf.length rM)) (ok:=(fun k_=>some k_ ≠ (mw:Value).ownBlock)) (by (with_reducible repeat (first|apply Kd.Va|apply Kd.Wa|apply Kd.jb));exact uc.out) hg (.inl rfl));have Lb:=aa.mk (Kd.vr (v:=(.slice (some ⟨QH,0,none⟩) kf.length rM)) (v1:=(.slice (some ⟨QH,0,none⟩) kf.length rM)) (ok:=(fun k_=>some k_ ≠ (.slice (some om) Uf.length I8:Value).ownBlock∧some k_ ≠ (mw:Value).ownBlock)) (by (with_reducible repeat (first|apply Kd.Yb|apply Kd.Xb|apply Kd.Dc));exact Kd.Ld Bk.out (fun _ hk=>⟨⟨hk.1,hk.2.1⟩,hk.2.2⟩)) hg (.inl rfl));have Pb:=aa.mk (Kd.Yg (v:=(.slice (some ⟨QH,0,none⟩) kf.length rM)) (v1:=(.slice (some ⟨QH,0,none⟩) kf.length rM)) (ok:=(fun k_=>some k_ ≠ (.slice (some om) Uf.length I8:Value).ownBlock)) (by (with_reducible repeat (first|apply Kd.Va|apply Kd.Wa|apply Kd.jb));exact Xh.out) hg (.inl rfl));have Ec:=aa.mk (Mm);have fe:=aa.mk (Ff (g:=za) (o:=.cells #[.slice xb Ma.length qb,.int .i64 La,.int .i64 Na,.int .i64 Ka,.slice Qb Ea.length Kb] 45 (0,0)) (by (with_reducible repeat (first|refine Aa ?_ _|refine Fa ?_|refine Ba ?_ _));exact ta.out) hg (Kd.Xo yj.out ta.out (by decide)));have Af:=aa.mk ((by rw [hw];exact ua (HB.out) Zas.out:Below w.heap.size w w63));clear uc Bk Xh yj ta HB;have uc:=Cb;have Bk:=Lb;have Xh:=Pb;have yj:=Ec;have ta:=fe;have HB:=Af;clear Cb Lb Pb Ec fe Af hg hw Mm))
                       go_roundg k4
                       case measure=>have:=Cf.out;have:=Qk.out;have:=TK.out;have:=FZ.out;omega
                       case rel=>exact ⟨(lQ),(wrap64 (td + 1)),(by first|rfl|(simp;done)|(simp [*];done)),H',⟨by have:=Cf.out;have:=Qk.out;have:=TK.out;have:=FZ.out;omega⟩,⟨by (with_reducible repeat (first|apply Kd.Va|apply Kd.Wa|apply Kd.jb));exact uc.out⟩,⟨by (with_reducible repeat (first|apply Kd.Yb|apply Kd.Xb|apply Kd.Dc));exact Kd.Ld Bk.out (fun _ hk=>⟨hk.1.1,⟨hk.1.2,hk.2⟩⟩)⟩,⟨by (with_reducible repeat (first|apply Kd.Va|apply Kd.Wa|apply Kd.jb));exact Xh.out⟩,⟨by (with_reducible repeat (first|apply Kd.Va|apply Kd.Wa|apply Kd.jb));exact yj.out⟩,⟨by (with_reducible repeat (first|refine Aa ?_ _|refine Fa ?_|refine Ba ?_ _));exact ta.out⟩,⟨by repeat (first|(with_reducible first|exact HB.out|apply oa|apply ia|apply qa|refine ua ?_ Ua.out)|exact HB.out)⟩⟩
                      ·rw [if_neg c59] at H;exact absurd H (by simp)
                     ·rw [if_neg c58] at H;exact absurd H (by simp)
                   ·rw [if_neg c39] at H;exact absurd H (by simp)
                  ·rw [if_neg gZ] at H;exact absurd H (by simp)
                 ·rw [if_neg GR] at H;have D2:decide (td < (Ea.length:Int))=false:=decide_eq_false GR;clear GR
                  by_cases c64:Ad.length < 5864062014805
                  ·rw [if_pos c64] at H;have Haf:=aa.mk c64;clear c64;obtain ⟨NI,Mo⟩:∃ y_:List (List Bool),y_=(Ad ++ [kf]):=⟨_,rfl⟩;replace H:(yb.l1 k4 (Ea.length:Int) Uf NI (wrap64 (We + 1)) Ma La Na Ka Ea)=some r:=by first|(rw [Mo];with_reducible exact H)|(have Ud:=(Option.bind_some _ _).symm.trans H;rw [Mo];with_reducible exact Ud)|(have Ud:=(Option.bind_some _ _).symm.trans H;with_reducible exact Ud)|with_reducible exact H|(rw [Mo];exact H)|exact H
                   have KK:=aa.mk Mo;clear Mo;have H':=aa.mk H;clear H;obtain ⟨Vag,Dae,Nar⟩:=Kd.xd yj.out;subst Nar;go_wp2_with (first|((with_reducible refine Eg (b:=.append) (xs:=#[.tmp 72,.tmp 74]) rfl ?_);at_builtin;refine Kd.Wu (Kd.slice 4 Kd.bool) (w0:=w) w.heap.size rfl (.tmp 72) (.tmp 74) 75 73 (.slice none 0 0) 24 rfl Try.underlying75 o6 rfl (by decide) (by omega) u7 Ad kf [.slice Vag kf.length Dae] (fun k_=>some k_ ≠ (Ji:Value).ownBlock∧some k_ ≠ (mw:Value).ownBlock) (fun k_=>some k_=(.slice Vag kf.length Dae:Value).ownBlock) rfl rfl ?aP (fun k_ wg=>((Kd.mc (wj:=fun k_=>((fun k_=>some k_ ≠ (Ji:Value).ownBlock∧some k_ ≠ (mw:Value).ownBlock)) k_∧some k_ ≠ (u7:Value).ownBlock) (Kd.Nh (yj.out) (Kd.Uh Bk.out) (by decide)) (fun k_ hk=>⟨⟨hk.1.1,hk.1.2⟩,hk.2⟩))).1 k_ wg.symm) ?aF ?aO ?aB ?aS ?aL ?_;(case aP=>exact Kd.OK (Kd.mc (Kd.th rfl (Kd.mc (wj:=fun k_=>((fun k_=>some k_ ≠ (Ji:Value).ownBlock∧some k_ ≠ (mw:Value).ownBlock)) k_∧some k_ ≠ (u7:Value).ownBlock) (Kd.Nh (yj.out) (Kd.Uh Bk.out) (by decide)) (fun k_ hk=>⟨⟨hk.1.1,hk.1.2⟩,hk.2⟩))) (fun _ h_=>h_)));(case aB=>exact (by repeat (first|(with_reducible first|exact HB.out|apply oa|apply ia|apply qa|refine ua ?_ Ua.out)|exact HB.out)));(case aF=>exact (fun k_ hk=>⟨Kd.fresh' (Kd.Pk (by (with_reducible repeat (first|apply Kd.Va|apply Kd.Wa|apply Kd.jb));exact uc.out)) k_ hk,Kd.fresh' (Kd.Pk (by (with_reducible repeat (first|apply Kd.Va|apply Kd.Wa|apply Kd.jb));exact Xh.out)) k_ hk⟩));(case aO=>exact (by (with_reducible repeat (first|apply Kd.Yb|apply Kd.Xb|apply Kd.Dc));exact Kd.Ld Bk.out (fun k_ hk=>⟨⟨hk.1,hk.2.1⟩,fun e_=>hk.2.2 e_⟩)));(case aS=>exact (Ja (by repeat (first|(with_reducible first|exact HB.out|apply oa|apply ia|apply qa|refine ua ?_ Ua.out)|exact HB.out))));(case aL=>have:=Haf.out;omega);intro v127 w65 ho hb hg hat;rw [← KK.out] at ho;have Cb:=aa.mk (Kd.Xm (by (with_reducible repeat (first|apply Kd.Va|apply Kd.Wa|apply Kd.jb));exact uc.out) (Kd.Uh (by (with_reducible repeat (first|apply Kd.Yb|apply Kd.Xb|apply Kd.Dc));exact Bk.out)) (by decide) hg);have Lb:=aa.mk (Kd.Xm (by (with_reducible repeat (first|apply Kd.Va|apply Kd.Wa|apply Kd.jb));exact Xh.out) (Kd.Uh (by (with_reducible repeat (first|apply Kd.Yb|apply Kd.Xb|apply Kd.Dc));exact Bk.out)) (by decide) hg);have Pb:=aa.mk (Ff (g:=za) (o:=.cells #[.slice xb Ma.length qb,.int .i64 La,.int .i64 Na,.int .i64 Ka,.slice Qb Ea.length Kb] 45 (0,0)) (by (with_reducible repeat (first|refine Aa ?_ _|refine Fa ?_|refine Ba ?_ _));exact ta.out) hg (Kd.GU Bk.out ta.out (by decide)));have Ec:=aa.mk (hb);have fe:=aa.mk (ho);clear uc Xh ta HB Bk yj;have uc:=Cb;have Xh:=Lb;have ta:=Pb;have HB:=Ec;have Oz:=fe;clear Cb Lb Pb Ec fe ho hb hg hat))
                   go_roundg k4
                   case measure=>have:=Cf.out;have:=Qk.out;have:=TK.out;have:=FZ.out;omega
                   case rel=>exact ⟨(Uf),(NI),(wrap64 (We + 1)),(by first|rfl|(simp;done)|(simp [*];done)),H',⟨by have:=Cf.out;have:=Qk.out;have:=TK.out;have:=FZ.out;omega⟩,⟨by (with_reducible repeat (first|apply Kd.Va|apply Kd.Wa|apply Kd.jb));exact Kd.mc uc.out (fun _ hk=>trivial)⟩,⟨by (with_reducible repeat (first|apply Kd.Yb|apply Kd.Xb|apply Kd.Dc));exact Kd.Ld Oz.out (fun _ hk=>hk.1)⟩,⟨by (with_reducible repeat (first|refine Aa ?_ _|refine Fa ?_|refine Ba ?_ _));exact ta.out⟩,⟨by repeat (first|(with_reducible first|exact HB.out|apply oa|apply ia|apply qa|refine ua ?_ Ua.out)|exact HB.out)⟩⟩
                  ·rw [if_neg c64] at H;exact absurd H (by simp)
              ·rw [if_neg ux] at H;exact absurd H (by simp)
             ·rw [if_neg xx] at H;exact absurd H (by simp)
          ·rw [if_neg lI] at H;exact absurd H (by simp)
         ·rw [if_neg Dw] at H;exact absurd H (by simp)
        ·rw [if_neg eE] at H;have uK:decide (We < (Ea.length:Int))=false:=decide_eq_false eE;clear eE;obtain rfl:=Option.some.inj H;go_wp2;go_ret;exact ⟨_,by first|rfl|(simp [Ra,Qa] <;> rfl)|(simp [*,Ra,Qa] <;> rfl),by (with_reducible repeat (first|apply Kd.Yb|apply Kd.Xb|apply Kd.Dc));exact Kd.Ld Bk.out (fun _ hk=>trivial),by repeat (first|(with_reducible first|exact HB.out|apply oa|apply ia|apply qa|refine ua ?_ Ua.out)|exact HB.out)⟩
  ·rw [if_neg c3] at H;exact absurd H (by simp)
 ·rw [if_neg c2] at H;exact absurd H (by simp)
theorem bu {α:Type} (d:Kd α) (e:Nat) (w:World) (base:Nat) (h:base ≤ w.heap.size):d.R e (w.alloc (.cells #[] e (0,0))) base (fun _=>True) (.slice (some ⟨w.heap.size,0,none⟩) 0 0) []:=by
 refine ⟨fun _ _=>trivial,[],?_,⟨by simp,fun i p hp=>by simp at hp⟩⟩;have h2:=World.ownsRow_lit (base:=base) (e:=e) (size:=d.sz) w #[] 0 h (by simp [maxLen]) (by simp)
 simpa using h2
theorem M5 {α:Type} {d:Kd α} {e B:Nat} {ok:Nat→Prop} {W w':World} {v:Value} {xs:List α} (h:d.R e w' W.heap.size ok v xs) (hB:B ≤ W.heap.size):d.R e w' B (fun k=>W.heap.size ≤ k∧k < w'.heap.size) v xs :=
 Kd.xe (Kd.mc (Kd.Wh h) (fun _ hk=>⟨hk.2.1,hk.2.2.1⟩)) hB
theorem tL {α:Type} {d:Kd α} {e B:Nat} {ok:Nat→Prop} {W w':World} {v:Value} {xs:List α} (h:Kd.S d e w' W.heap.size ok v xs) (hB:B ≤ W.heap.size):Kd.S d e w' B (fun k=>W.heap.size ≤ k∧k < w'.heap.size) v xs :=
 Kd.Lj (Kd.Ld (Kd.jw h) (fun _ hk=>⟨hk.2.1,hk.2.2.1⟩)) hB
def Hu (l:List Int) (n:Int):Nat:=(l.takeWhile (fun x=>decide (x < n))).length
def Qq (l:List Int) (n:Int):List Int:=if Hu l n < l.length∧rd l (Hu l n:Int)=n then l else l.take (Hu l n) ++ [n] ++ l.drop (Hu l n)
theorem ot (x:Int) (l:List Int) (j:Nat):rd (x :: l) ((j + 1:Nat):Int)=rd l (j:Int):=by
 simp [rd]
theorem gW (l:List Int) (n:Int):∀ i:Nat,i ≤ l.length→(∀ j:Nat,j < i→rd l (j:Int) < n)→(i=l.length ∨ ¬ rd l (i:Int) < n)→Hu l n=i:=by
 induction l with
 | nil =>
  intro i hi _ _;simp at hi;simp [Hu,hi]
 | cons x l ih =>
  intro i hi ha hb;cases i with
  | zero =>
   have hx:¬ x < n:=by
    rcases hb with h|h
    ·simp at h
    ·simpa [rd] using h
   simp [Hu,hx]
  | succ i =>
   have hx:x < n:=by simpa [rd] using ha 0 (by omega)
   have h:=ih i (by simpa using hi) (fun j hj=>by have:=ha (j + 1) (by omega);rwa [ot] at this) (by
    rcases hb with h|h
    ·exact Or.inl (by simpa using h)
    ·rw [ot] at h
     exact Or.inr h)
   unfold Hu at h ⊢;simp [List.takeWhile_cons,hx,h]
def Ke.f (l0:List Int) (a1:Int):Option (List Int):=if l0.length ≤ 4398046511104 then some (Qq l0 a1) else none
theorem DK {e:Nat} {W:World} {base:Nat} (h:base ≤ W.heap.size) (n:Int) (t:Nat):Kd.R (Kd.int .i64) e ((W.alloc (.cells #[.int .i64 n] t (0,0))).alloc (.cells #[] e (0,0))) base (fun _=>True) (.slice (some ⟨W.heap.size + 1,0,none⟩) 0 0) []:=by
 have h2:=bu (Kd.int .i64) e (W.alloc (.cells #[.int .i64 n] t (0,0))) base (by simp;omega)
 simpa using h2
theorem yD {e:Nat} (w:World) (base:Nat) (n:Int) (h:base ≤ w.heap.size):Kd.R (Kd.int .i64) e (w.alloc (.cells #[.int .i64 n] e (0,0))) base (fun _=>True) (.slice (some ⟨w.heap.size,0,none⟩) 1 1) [n]:=by
 refine ⟨fun _ _=>trivial,[.int .i64 n],?_,⟨rfl,fun i p hp=>?_⟩⟩
 ·have h2:=World.ownsRow_lit (base:=base) (e:=e) (size:=1) w #[.int .i64 n] 1 h (by simp [maxLen]) (by simp);exact h2
 ·cases i with
  | zero =>
   simp at hp;subst hp
   rfl
  | succ i=>simp at hp
theorem Ke.calls (ak:Nat→Prop) (Lf:Value) (l0:List Int) (a1:Int) (r:List Int) (w0 w:World) (hB:Below w0.heap.size w0 w) (Bg:Kd.R (Kd.int .i64) 3 w w0.heap.size ak Lf l0) (h:Ke.f l0 a1=some r) :
  Calls Try.prog 55 #[Lf,.int .i64 a1] w fun e w'=>∃ Kp:Value,e = .returned (Kp)∧Kd.R (Kd.int .i64) 3 w' w0.heap.size (fun k_=>(ak k_ ∨ w.heap.size ≤ k_)) Kp r∧Below w0.heap.size w0 w'∧Kept w w' (fun k_=>ak k_):=by
 unfold Ke.f at h;have hl:l0.length ≤ 4398046511104:=Decidable.byContradiction fun hn=>by rw [if_neg hn] at h;cases h
 rw [if_pos hl] at h;obtain rfl:=Option.some.inj h;obtain ⟨A,c,rfl⟩:=Kd.xd Bg;obtain ⟨_,hnc,hC⟩:=Kd.Rb Bg;have HO:=aa.mk Bg;have HB0:=aa.mk hB;have cV:=aa.mk hC;have HL:=aa.mk hl;have hm6:l0.length ≤ 9223372036854775807:=by omega
 clear Bg hB hC h hl;go_enter Try.func55,Try.ntmps55;go_wp2
 go_loopg [5] l0.length (fun gg v5 wr=>∃ i:Nat,i ≤ l0.length∧l0.length - i ≤ gg∧v5 = .int .i64 i∧aa (∀ j:Nat,j < i→rd l0 (j:Int) < a1)∧aa (Below w.heap.size w wr))
 case atStart=>exact ⟨0,Nat.zero_le _,by omega,rfl,⟨fun j hj=>absurd hj (by omega)⟩,⟨Below.refl _ _⟩⟩
 case round =>
  (try clear HA);(try clear yV);obtain ⟨i,hi,hg,rfl,HA,yV⟩:=hrel;have key:∀ hstop:(i=l0.length ∨ ¬ rd l0 (i:Int) < a1),Hu l0 a1=i:=fun hstop=>gW l0 a1 i hi HA.out hstop
  have HKEY:=aa.mk key;clear key
  by_cases hgo:i < l0.length∧rd l0 (i:Int) < a1
  case pos =>
   obtain ⟨hlt,hc⟩:=hgo;have eA:decide ((i:Int) < (l0.length:Int))=true:=decide_eq_true (by omega);have p1:0 ≤ (i:Int):=by omega
   have p2:(i:Int) < (l0.length:Int):=by omega
   obtain ⟨ad,e1,hx⟩:=Kd.Ce (Kd.Ib cV.out yV.out) (i:Int) p1 p2;subst e1;simp only [Int.toNat_natCast] at hx;have hcb:decide (rd l0 (i:Int) < a1)=true:=decide_eq_true hc;have HC:=aa.mk hc;clear hc;go_wp2
   go_roundg (l0.length - (i + 1))
   case measure=>omega
   case rel=>exact ⟨i + 1,by omega,by omega,by go_num,⟨fun j hj=>by by_cases e:j=i;(rw [e];exact HC.out);(exact HA.out j (by omega))⟩,yV⟩
  have sag:=aa.mk (HKEY.out (by by_cases h:i < l0.length;(exact Or.inr (fun hc=>hgo ⟨h,hc⟩));(exact Or.inl (by omega))))
  by_cases hre:i < l0.length∧rd l0 (i:Int)=a1
  case pos =>
   obtain ⟨hlt,he⟩:=hre;have eA:decide ((i:Int) < (l0.length:Int))=true:=decide_eq_true (by omega);have p1:0 ≤ (i:Int):=by omega
   have p2:(i:Int) < (l0.length:Int):=by omega
   obtain ⟨ad,e1,hx⟩:=Kd.Ce (Kd.Ib cV.out yV.out) (i:Int) p1 p2;subst e1;simp only [Int.toNat_natCast] at hx;have hcb:decide (rd l0 (i:Int) < a1)=false:=decide_eq_false (by omega);have heb:(rd l0 (i:Int) == a1)=true:=beq_iff_eq.2 he;have HE:=aa.mk (show Qq l0 a1=l0 from by unfold Qq;rw [sag.out,if_pos ⟨hlt,he⟩]);clear he hgo;go_wp2;go_ret;exact ⟨_,rfl,by rw [HE.out];exact Kd.mc (Kd.lg HO.out yV.out) (fun _ hk=>Or.inl hk),Oa HB0.out yV.out,Kept.vl yV.out _⟩
  have HE:=aa.mk (show Qq l0 a1=l0.take i ++ [a1] ++ l0.drop i from by unfold Qq;rw [sag.out,if_neg hre]);have p1:0 ≤ (i:Int):=by omega
  have p3:(i:Int) ≤ (l0.length:Int):=by omega
  have hi0:=info3;obtain ⟨i0,hi1,hi2⟩:=Option.map_eq_some_iff.1 hi0;have hi3:i0.size=1:=by simp only [Prod.mk.injEq] at hi2;exact hi2.2.1
  have cae:=qM 22 3 .i64 Try.underlying22 hi1 A l0.length c (i:Int) p1 p3 hnc;have bae:=kD 22 3 .i64 Try.underlying22 hi1 1 hi3 A l0.length c (i:Int) p1 p3;simp only [Int.toNat_natCast,Nat.mul_one] at cae bae;clear hi0 hi2 hi3
  have Baa:(decide ((i:Int) < (l0.length:Int))=false∧¬ i < l0.length) ∨ (decide ((i:Int) < (l0.length:Int))=true∧i < l0.length∧(i:Int) < (l0.length:Int)∧decide (rd l0 (i:Int) < a1)=false∧(rd l0 (i:Int) == a1)=false):=by
   by_cases h:i < l0.length
   ·exact Or.inr ⟨decide_eq_true (by omega),h,by omega,decide_eq_false (fun hc=>hgo ⟨h,hc⟩),beq_eq_false_iff_ne.2 (fun hc=>hre ⟨h,hc⟩)⟩
   ·exact Or.inl ⟨decide_eq_false (by omega),h⟩
  clear hgo hre
  rcases Baa with ⟨eA,hlt⟩|⟨eA,hlt,p2,hcb,heb⟩
  ·go_upto_region 6 with (fail)
   have ox:=aa.mk (qa yV.out);refine fl (n:=13) (S:=fun w'=>True) (ds:=[]) #[false,false,false,false,false,false,false,false,false,false,false,false,false] (by kernel_rfl) rfl rfl trivial (fun hHeld=>?_);generalize wr.drew=wd at ox hHeld ⊢;refine od (i:=1) (N:=some 34) (v:=?_) (a':=?_) #[false,true,false,false,false,false,false,false,false,false,false,false,false] rfl rfl (by kernel_rfl) (fun _ _ _ h=>h) (Or.inl ⟨by rfl,?_⟩) ?_ ?_;rotate_left
   ·intro w';go_simp;with_reducible rfl
   rotate_left
   ·simp only [Act.put,List.setIfInBounds_toArray,List.set_cons_zero,List.set_cons_succ,Vb,Wb]
    rfl
   refine od (i:=2) (N:=some 35) (v:=?_) (a':=?_) #[false,true,true,false,false,false,false,false,false,false,false,false,false] rfl rfl (by kernel_rfl) (fun _ _ _ h=>h) (Or.inl ⟨by rfl,?_⟩) ?_ ?_;rotate_left
   ·intro w';go_simp;with_reducible rfl
   rotate_left
   ·simp only [Act.put,List.setIfInBounds_toArray,List.set_cons_zero,List.set_cons_succ,Vb,Wb]
    rfl
   refine od (i:=3) (N:=some 36) (v:=?_) (a':=?_) #[false,true,true,true,false,false,false,false,false,false,false,false,false] rfl rfl (by kernel_rfl) (fun _ _ _ h=>h) (Or.inl ⟨by rfl,?_⟩) ?_ ?_;rotate_left
   ·intro w';go_simp;with_reducible rfl
   rotate_left
   ·simp only [Act.put,List.setIfInBounds_toArray,List.set_cons_zero,List.set_cons_succ,Vb,Wb]
    rfl
   refine od (i:=5) (N:=some 38) (v:=?_) (a':=?_) #[false,true,true,true,false,true,false,false,false,false,false,false,false] rfl rfl (by kernel_rfl) (fun _ _ _ h=>h) (Or.inl ⟨by rfl,?_⟩) ?_ ?_;rotate_left
   ·intro w';go_simp;with_reducible rfl
   rotate_left
   ·simp only [Act.put,List.setIfInBounds_toArray,List.set_cons_zero,List.set_cons_succ,Vb,Wb]
    rfl
   refine od (i:=8) (N:=some 41) (v:=?_) (a':=?_) #[false,true,true,true,false,true,false,false,true,false,false,false,false] rfl rfl (by kernel_rfl) (fun _ _ _ h=>h) (Or.inl ⟨by rfl,?_⟩) ?_ ?_;rotate_left
   ·intro w';go_simp;with_reducible rfl
   rotate_left
   ·simp only [Act.put,List.setIfInBounds_toArray,List.set_cons_zero,List.set_cons_succ,Vb,Wb]
    rfl
   refine od (i:=9) (N:=some 42) (v:=?_) (a':=?_) #[false,true,true,true,false,true,false,false,true,true,false,false,false] rfl rfl (by kernel_rfl) (fun _ _ _ h=>h) (Or.inl ⟨by rfl,?_⟩) ?_ ?_;rotate_left
   ·intro w';go_simp;with_reducible rfl
   rotate_left
   ·simp only [Act.put,List.setIfInBounds_toArray,List.set_cons_zero,List.set_cons_succ,Vb,Wb]
    rfl
   refine od (i:=10) (N:=some 43) (v:=?_) (a':=?_) #[false,true,true,true,false,true,false,false,true,true,true,false,false] rfl rfl (by kernel_rfl) (fun _ _ _ h=>h) (Or.inl ⟨by rfl,?_⟩) ?_ ?_;rotate_left
   ·intro w';go_simp;with_reducible rfl
   rotate_left
   ·simp only [Act.put,List.setIfInBounds_toArray,List.set_cons_zero,List.set_cons_succ,Vb,Wb]
    rfl
   refine UZ (σ:=Nat × Value × Nat) 3 #[true,true,true,true,true,true,true,false,true,true,true,false,false] (fun s=>[(33,.slice (some ⟨s.1,0,none⟩) 0 0),(37,s.2.1),(39,.slice (some ⟨s.2.2,0,none⟩) 1 1)]) (fun s w'=>Below w.heap.size w w'∧Kd.R (Kd.int .i64) 3 w' w.heap.size (fun _=>True) s.2.1 (l0.take i)∧Kd.R (Kd.int .i64) 3 w' w.heap.size (fun _=>True) (.slice (some ⟨s.2.2,0,none⟩) 1 1) [a1]) ?_ ?_;rotate_left
   ·intro XC;refine EV (i:=0) (j:=6) (Ni:=some 33) (Nj:=some 39) #[true,true,true,true,false,true,false,false,true,true,true,false,false] #[false,true,true,true,false,true,true,false,true,true,true,false,false] rfl rfl rfl rfl (by kernel_rfl) (by decide) (by decide) (fun K hK=>?_) (fun K hK=>?_)
    ·skip
     refine yq (w1:=?_) (v:=?_) (by rfl) rfl ?_ ?_;rotate_left 2
     ·go_simp
      constructor
      ·rfl
      ·rfl
     refine hK.out _ _ trivial (fun hHeld=>?_);clear hK K;refine Rg (a':=?_) ?_ ?_;rotate_left
     ·show Act.put _ (some 33) _=_
      simp only [Act.put,List.setIfInBounds_toArray,List.set_cons_zero,List.set_cons_succ,Vb,Wb]
      rfl
     refine EV (i:=4) (j:=6) (Ni:=some 37) (Nj:=some 39) #[true,true,true,true,true,true,false,false,true,true,true,false,false] #[true,true,true,true,false,true,true,false,true,true,true,false,false] rfl rfl rfl rfl (by kernel_rfl) (by decide) (by decide) (fun K hK=>?_) (fun K hK=>?_)
     ·skip
      refine Kd.Te (Kd.int .i64) (w0:=w) w.heap.size (by rfl) (.tmp 33) (.tmp 36) 22 3 (.int .i64 0) 8 rfl Try.underlying22 info3 rfl (by decide) (by omega) (.slice (some ⟨wd.heap.size,0,none⟩) 0 0) [] (l0.take i) A i c (fun _=>True) (fun _=>False) rfl rfl (bu (Kd.int .i64) 3 wd w.heap.size ox.out.size) ?aR (fun _ _ h=>h) (fun _ hk=>hk.elim) (fun _ _=>trivial) (oa ox.out _) (oa ox.out _).size (by simp;have:=HL.out;omega) ?_
      (case aR=>have h:=Kd.AA (m:=i) (Kd.Ib (w1:=wd.alloc (.cells #[] 3 (0,0))) cV.out (oa ox.out _)) (by omega);rw [List.length_take,Nat.min_eq_left (by omega)] at h;exact h)
      intro v1 w1 ho hb hg hat;have gQ:=aa.mk ho;have wu:=aa.mk hb;clear ho hb hg hat;refine hK.out _ _ trivial (fun hHeld=>?_);clear hK K;refine Rg (a':=?_) ?_ ?_;rotate_left
      ·show Act.put _ (some 37) _=_
       simp only [Act.put,List.setIfInBounds_toArray,List.set_cons_zero,List.set_cons_succ,Vb,Wb]
       rfl
      refine Ko (i:=6) (N:=some 39) #[true,true,true,true,true,true,true,false,true,true,true,false,false] rfl rfl (by kernel_rfl) (by decide) (fun K hK=>?_);refine yq (w1:=?_) (v:=?_) (by rfl) rfl ?_ ?_;rotate_left 2
      ·go_simp
       constructor
       ·rfl
       ·rfl
      refine hK.out _ _ trivial (fun hHeld=>?_);clear hK K;refine Rg (a':=?_) ?_ ?_;rotate_left
      ·show Act.put _ (some 39) _=_
       simp only [Act.put,List.setIfInBounds_toArray,List.set_cons_zero,List.set_cons_succ,Vb,Wb]
       rfl
      exact Rg (by simp only [Bq,Act.put,List.setIfInBounds_toArray,List.set_cons_zero,List.set_cons_succ]) (XC (wd.heap.size,v1,w1.heap.size) _ ⟨oa wu.out _,Kd.Va gQ.out _,yD w1 w.heap.size a1 wu.out.size⟩)
     ·skip
      refine yq (w1:=?_) (v:=?_) (by rfl) rfl ?_ ?_;rotate_left 2
      ·go_simp
       constructor
       ·rfl
       ·rfl
      refine hK.out _ _ trivial (fun hHeld=>?_);clear hK K;refine Rg (a':=?_) ?_ ?_;rotate_left
      ·show Act.put _ (some 39) _=_
       simp only [Act.put,List.setIfInBounds_toArray,List.set_cons_zero,List.set_cons_succ,Vb,Wb]
       rfl
      refine Ko (i:=4) (N:=some 37) #[true,true,true,true,true,true,true,false,true,true,true,false,false] rfl rfl (by kernel_rfl) (by decide) (fun K hK=>?_);refine Kd.Te (Kd.int .i64) (w0:=w) w.heap.size (by rfl) (.tmp 33) (.tmp 36) 22 3 (.int .i64 0) 8 rfl Try.underlying22 info3 rfl (by decide) (by omega) (.slice (some ⟨wd.heap.size,0,none⟩) 0 0) [] (l0.take i) A i c (fun _=>True) (fun _=>False) rfl rfl (Kd.Va (bu (Kd.int .i64) 3 wd w.heap.size ox.out.size) _) ?aR (fun _ _ h=>h) (fun _ hk=>hk.elim) (fun _ _=>trivial) (oa (oa ox.out _) _) (oa (oa ox.out _) _).size (by simp;have:=HL.out;omega) ?_
      (case aR=>have h:=Kd.AA (m:=i) (Kd.Ib (w1:=((wd.alloc (.cells #[] 3 (0,0))).alloc (.cells #[.int .i64 a1] 3 (0,0)))) cV.out (oa (oa ox.out _) _)) (by omega);rw [List.length_take,Nat.min_eq_left (by omega)] at h;exact h)
      intro v1 w1 ho hb hg hat;have gQ:=aa.mk ho;have wu:=aa.mk hb;have A_:=aa.mk (Kd.mc (Kd.Kz (Kd.th rfl (show Kd.R (Kd.int .i64) 3 ((wd.alloc (.cells #[] 3 (0,0))).alloc (.cells #[.int .i64 a1] 3 (0,0))) w.heap.size (fun _=>True) (.slice (some ⟨wd.heap.size + 1,0,none⟩) 1 1) [a1] from by have h:=yD (e:=3) (wd.alloc (.cells #[] 3 (0,0))) w.heap.size a1 (by simp;have:=ox.out.size;omega);simpa using h)) hg (fun k_ hk e=>by simp [Value.ownBlock] at hk e;omega)) (fun _ _=>(trivial:True)));clear ho hb hg hat;refine hK.out _ _ trivial (fun hHeld=>?_);clear hK K;refine Rg (a':=?_) ?_ ?_;rotate_left
      ·show Act.put _ (some 37) _=_
       simp only [Act.put,List.setIfInBounds_toArray,List.set_cons_zero,List.set_cons_succ,Vb,Wb]
       rfl
      exact Rg (by simp only [Bq,Act.put,List.setIfInBounds_toArray,List.set_cons_zero,List.set_cons_succ]) (XC (wd.heap.size,v1,wd.heap.size + 1) _ ⟨wu.out,gQ.out,A_.out⟩)
    ·skip
     refine yq (w1:=?_) (v:=?_) (by rfl) rfl ?_ ?_;rotate_left 2
     ·go_simp
      constructor
      ·rfl
      ·rfl
     refine hK.out _ _ trivial (fun hHeld=>?_);clear hK K;refine Rg (a':=?_) ?_ ?_;rotate_left
     ·show Act.put _ (some 39) _=_
      simp only [Act.put,List.setIfInBounds_toArray,List.set_cons_zero,List.set_cons_succ,Vb,Wb]
      rfl
     refine Ko (i:=0) (N:=some 33) #[true,true,true,true,false,true,true,false,true,true,true,false,false] rfl rfl (by kernel_rfl) (by decide) (fun K hK=>?_);refine yq (w1:=?_) (v:=?_) (by rfl) rfl ?_ ?_;rotate_left 2
     ·go_simp
      constructor
      ·rfl
      ·rfl
     refine hK.out _ _ trivial (fun hHeld=>?_);clear hK K;refine Rg (a':=?_) ?_ ?_;rotate_left
     ·show Act.put _ (some 33) _=_
      simp only [Act.put,List.setIfInBounds_toArray,List.set_cons_zero,List.set_cons_succ,Vb,Wb]
      rfl
     refine Ko (i:=4) (N:=some 37) #[true,true,true,true,true,true,true,false,true,true,true,false,false] rfl rfl (by kernel_rfl) (by decide) (fun K hK=>?_);refine Kd.Te (Kd.int .i64) (w0:=w) w.heap.size (by rfl) (.tmp 33) (.tmp 36) 22 3 (.int .i64 0) 8 rfl Try.underlying22 info3 rfl (by decide) (by omega) (.slice (some ⟨wd.heap.size + 1,0,none⟩) 0 0) [] (l0.take i) A i c (fun _=>True) (fun _=>False) rfl rfl (DK ox.out.size a1 3) ?aR (fun _ _ h=>h) (fun _ hk=>hk.elim) (fun _ _=>trivial) (oa (oa ox.out _) _) (oa (oa ox.out _) _).size (by simp;have:=HL.out;omega) ?_
     (case aR=>have h:=Kd.AA (m:=i) (Kd.Ib (w1:=((wd.alloc (.cells #[.int .i64 a1] 3 (0,0))).alloc (.cells #[] 3 (0,0)))) cV.out (oa (oa ox.out _) _)) (by omega);rw [List.length_take,Nat.min_eq_left (by omega)] at h;exact h)
     intro v1 w1 ho hb hg hat;have gQ:=aa.mk ho;have wu:=aa.mk hb;have A_:=aa.mk (Kd.mc (Kd.Kz (Kd.th rfl (show Kd.R (Kd.int .i64) 3 ((wd.alloc (.cells #[.int .i64 a1] 3 (0,0))).alloc (.cells #[] 3 (0,0))) w.heap.size (fun _=>True) (.slice (some ⟨wd.heap.size,0,none⟩) 1 1) [a1] from Kd.Va (yD wd w.heap.size a1 ox.out.size) _)) hg (fun k_ hk e=>by simp [Value.ownBlock] at hk e;omega)) (fun _ _=>(trivial:True)));clear ho hb hg hat;refine hK.out _ _ trivial (fun hHeld=>?_);clear hK K;refine Rg (a':=?_) ?_ ?_;rotate_left
     ·show Act.put _ (some 37) _=_
      simp only [Act.put,List.setIfInBounds_toArray,List.set_cons_zero,List.set_cons_succ,Vb,Wb]
      rfl
     exact Rg (by simp only [Bq,Act.put,List.setIfInBounds_toArray,List.set_cons_zero,List.set_cons_succ]) (XC (wd.heap.size + 1,v1,wd.heap.size) _ ⟨wu.out,gQ.out,A_.out⟩)
   rintro ⟨s1,s2,s3⟩ W3 ⟨QY,UQ,hn3⟩;have hHeld:=trivial;have UE:=aa.mk QY;have XA:=aa.mk UQ;have HN3:=aa.mk hn3;clear QY UQ hn3;refine Rg (a':=?_) ?_ ?_;rotate_left
   ·simp only [Bq,Act.put,List.setIfInBounds_toArray,List.set_cons_zero,List.set_cons_succ]
    rfl
   refine Ko (i:=7) (N:=some 40) #[true,true,true,true,true,true,true,true,true,true,true,false,false] rfl rfl (by kernel_rfl) (by decide) (fun K hK=>?_);refine Kd.Te (Kd.int .i64) (w0:=w) w.heap.size (by rfl) (.tmp 37) (.tmp 39) 22 3 (.int .i64 0) 8 rfl Try.underlying22 info3 rfl (by decide) (by omega) s2 (l0.take i) [a1] (some ⟨s3,0,none⟩) 1 1 (fun _=>True) (fun _=>False) rfl rfl XA.out ?aR (fun _ _ h=>h) (fun _ hk=>hk.elim) (fun _ _=>trivial) UE.out UE.out.size (by rw [List.length_take];have:=HL.out;omega) ?_
   (case aR=>exact (Kd.Rb HN3.out).2.2)
   intro v4 w4 ho hb hg hat;have HO4:=aa.mk ho;have iL:=aa.mk hb;clear ho hb hg hat XA UE HN3;refine hK.out _ _ trivial (fun hHeld=>?_);clear hK K;refine Rg (a':=?_) ?_ ?_;rotate_left
   ·show Act.put _ (some 40) _=_
    simp only [Act.put,List.setIfInBounds_toArray,List.set_cons_zero,List.set_cons_succ,Vb,Wb]
    rfl
   refine Ko (i:=11) (N:=some 44) #[true,true,true,true,true,true,true,true,true,true,true,true,false] rfl rfl (by kernel_rfl) (by decide) (fun K hK=>?_);refine Kd.Te (Kd.int .i64) (w0:=w) w.heap.size (by rfl) (.tmp 40) (.tmp 43) 22 3 (.int .i64 0) 8 rfl Try.underlying22 info3 rfl (by decide) (by omega) v4 (l0.take i ++ [a1]) (l0.drop i) _ (l0.length - i) (c - i) (fun _=>True) (fun _=>False) rfl rfl HO4.out ?aR2 (fun _ _ h=>h) (fun _ hk=>hk.elim) (fun _ _=>trivial) iL.out iL.out.size (by rw [List.length_append,List.length_take,List.length_singleton];have:=HL.out;omega) ?_
   (case aR2=>have h:=Kd.fV (m:=i) (c:=c) (Kd.Ib cV.out iL.out) (by omega) hnc;rw [List.length_drop] at h;simp only [show (Kd.int .i64).sz=1 from rfl,Nat.mul_one,Option.map_some] at h;exact h)
   intro v5 w5 ho hb hg hat;have HO5:=aa.mk ho;have Z4:=aa.mk hb;clear ho hb hg hat;refine hK.out _ _ trivial (fun hHeld=>?_);clear hK K;refine Rg (a':=?_) ?_ ?_;rotate_left
   ·show Act.put _ (some 44) _=_
    simp only [Act.put,List.setIfInBounds_toArray,List.set_cons_zero,List.set_cons_succ,Vb,Wb]
    rfl
   refine od (i:=12) (N:=some 4) (v:=?_) (a':=?_) #[true,true,true,true,true,true,true,true,true,true,true,true,true] rfl rfl (by kernel_rfl) (fun _ _ _ h=>h) (Or.inl ⟨by rfl,?_⟩) ?_ ?_;rotate_left
   ·intro w';go_simp;with_reducible rfl
   rotate_left
   ·simp only [Act.put,List.setIfInBounds_toArray,List.set_cons_zero,List.set_cons_succ,Vb,Wb]
    rfl
   refine Mp (by kernel_rfl) ?_;clear hHeld;go_wp2
   all_goals (go_ret;exact ⟨_,rfl,by rw [HE.out];exact Kd.xe (Kd.mc (Kd.Wh HO5.out) (fun _ hk=>Or.inr hk.2.1)) HB0.out.size,Oa HB0.out Z4.out,Kept.vl Z4.out _⟩)
  ·obtain ⟨ad,e1,hx⟩:=Kd.Ce (Kd.Ib cV.out yV.out) (i:Int) p1 p2;subst e1;simp only [Int.toNat_natCast] at hx
   go_upto_region 6 with (fail)
   have ox:=aa.mk (qa yV.out);refine fl (n:=13) (S:=fun w'=>True) (ds:=[]) #[false,false,false,false,false,false,false,false,false,false,false,false,false] (by kernel_rfl) rfl rfl trivial (fun hHeld=>?_);generalize wr.drew=wd at ox hHeld ⊢;refine od (i:=1) (N:=some 34) (v:=?_) (a':=?_) #[false,true,false,false,false,false,false,false,false,false,false,false,false] rfl rfl (by kernel_rfl) (fun _ _ _ h=>h) (Or.inl ⟨by rfl,?_⟩) ?_ ?_;rotate_left
   ·intro w';go_simp;with_reducible rfl
   rotate_left
   ·simp only [Act.put,List.setIfInBounds_toArray,List.set_cons_zero,List.set_cons_succ,Vb,Wb]
    rfl
   refine od (i:=2) (N:=some 35) (v:=?_) (a':=?_) #[false,true,true,false,false,false,false,false,false,false,false,false,false] rfl rfl (by kernel_rfl) (fun _ _ _ h=>h) (Or.inl ⟨by rfl,?_⟩) ?_ ?_;rotate_left
   ·intro w';go_simp;with_reducible rfl
   rotate_left
   ·simp only [Act.put,List.setIfInBounds_toArray,List.set_cons_zero,List.set_cons_succ,Vb,Wb]
    rfl
   refine od (i:=3) (N:=some 36) (v:=?_) (a':=?_) #[false,true,true,true,false,false,false,false,false,false,false,false,false] rfl rfl (by kernel_rfl) (fun _ _ _ h=>h) (Or.inl ⟨by rfl,?_⟩) ?_ ?_;rotate_left
   ·intro w';go_simp;with_reducible rfl
   rotate_left
   ·simp only [Act.put,List.setIfInBounds_toArray,List.set_cons_zero,List.set_cons_succ,Vb,Wb]
    rfl
   refine od (i:=5) (N:=some 38) (v:=?_) (a':=?_) #[false,true,true,true,false,true,false,false,false,false,false,false,false] rfl rfl (by kernel_rfl) (fun _ _ _ h=>h) (Or.inl ⟨by rfl,?_⟩) ?_ ?_;rotate_left
   ·intro w';go_simp;with_reducible rfl
   rotate_left
   ·simp only [Act.put,List.setIfInBounds_toArray,List.set_cons_zero,List.set_cons_succ,Vb,Wb]
    rfl
   refine od (i:=8) (N:=some 41) (v:=?_) (a':=?_) #[false,true,true,true,false,true,false,false,true,false,false,false,false] rfl rfl (by kernel_rfl) (fun _ _ _ h=>h) (Or.inl ⟨by rfl,?_⟩) ?_ ?_;rotate_left
   ·intro w';go_simp;with_reducible rfl
   rotate_left
   ·simp only [Act.put,List.setIfInBounds_toArray,List.set_cons_zero,List.set_cons_succ,Vb,Wb]
    rfl
   refine od (i:=9) (N:=some 42) (v:=?_) (a':=?_) #[false,true,true,true,false,true,false,false,true,true,false,false,false] rfl rfl (by kernel_rfl) (fun _ _ _ h=>h) (Or.inl ⟨by rfl,?_⟩) ?_ ?_;rotate_left
   ·intro w';go_simp;with_reducible rfl
   rotate_left
   ·simp only [Act.put,List.setIfInBounds_toArray,List.set_cons_zero,List.set_cons_succ,Vb,Wb]
    rfl
   refine od (i:=10) (N:=some 43) (v:=?_) (a':=?_) #[false,true,true,true,false,true,false,false,true,true,true,false,false] rfl rfl (by kernel_rfl) (fun _ _ _ h=>h) (Or.inl ⟨by rfl,?_⟩) ?_ ?_;rotate_left
   ·intro w';go_simp;with_reducible rfl
   rotate_left
   ·simp only [Act.put,List.setIfInBounds_toArray,List.set_cons_zero,List.set_cons_succ,Vb,Wb]
    rfl
   refine UZ (σ:=Nat × Value × Nat) 3 #[true,true,true,true,true,true,true,false,true,true,true,false,false] (fun s=>[(33,.slice (some ⟨s.1,0,none⟩) 0 0),(37,s.2.1),(39,.slice (some ⟨s.2.2,0,none⟩) 1 1)]) (fun s w'=>Below w.heap.size w w'∧Kd.R (Kd.int .i64) 3 w' w.heap.size (fun _=>True) s.2.1 (l0.take i)∧Kd.R (Kd.int .i64) 3 w' w.heap.size (fun _=>True) (.slice (some ⟨s.2.2,0,none⟩) 1 1) [a1]) ?_ ?_;rotate_left
   ·intro XC;refine EV (i:=0) (j:=6) (Ni:=some 33) (Nj:=some 39) #[true,true,true,true,false,true,false,false,true,true,true,false,false] #[false,true,true,true,false,true,true,false,true,true,true,false,false] rfl rfl rfl rfl (by kernel_rfl) (by decide) (by decide) (fun K hK=>?_) (fun K hK=>?_)
    ·skip
     refine yq (w1:=?_) (v:=?_) (by rfl) rfl ?_ ?_;rotate_left 2
     ·go_simp
      constructor
      ·rfl
      ·rfl
     refine hK.out _ _ trivial (fun hHeld=>?_);clear hK K;refine Rg (a':=?_) ?_ ?_;rotate_left
     ·show Act.put _ (some 33) _=_
      simp only [Act.put,List.setIfInBounds_toArray,List.set_cons_zero,List.set_cons_succ,Vb,Wb]
      rfl
     refine EV (i:=4) (j:=6) (Ni:=some 37) (Nj:=some 39) #[true,true,true,true,true,true,false,false,true,true,true,false,false] #[true,true,true,true,false,true,true,false,true,true,true,false,false] rfl rfl rfl rfl (by kernel_rfl) (by decide) (by decide) (fun K hK=>?_) (fun K hK=>?_)
     ·skip
      refine Kd.Te (Kd.int .i64) (w0:=w) w.heap.size (by rfl) (.tmp 33) (.tmp 36) 22 3 (.int .i64 0) 8 rfl Try.underlying22 info3 rfl (by decide) (by omega) (.slice (some ⟨wd.heap.size,0,none⟩) 0 0) [] (l0.take i) (some ad) i c (fun _=>True) (fun _=>False) rfl rfl (bu (Kd.int .i64) 3 wd w.heap.size ox.out.size) ?aR (fun _ _ h=>h) (fun _ hk=>hk.elim) (fun _ _=>trivial) (oa ox.out _) (oa ox.out _).size (by simp;have:=HL.out;omega) ?_
      (case aR=>have h:=Kd.AA (m:=i) (Kd.Ib (w1:=wd.alloc (.cells #[] 3 (0,0))) cV.out (oa ox.out _)) (by omega);rw [List.length_take,Nat.min_eq_left (by omega)] at h;exact h)
      intro v1 w1 ho hb hg hat;have gQ:=aa.mk ho;have wu:=aa.mk hb;clear ho hb hg hat;refine hK.out _ _ trivial (fun hHeld=>?_);clear hK K;refine Rg (a':=?_) ?_ ?_;rotate_left
      ·show Act.put _ (some 37) _=_
       simp only [Act.put,List.setIfInBounds_toArray,List.set_cons_zero,List.set_cons_succ,Vb,Wb]
       rfl
      refine Ko (i:=6) (N:=some 39) #[true,true,true,true,true,true,true,false,true,true,true,false,false] rfl rfl (by kernel_rfl) (by decide) (fun K hK=>?_);refine yq (w1:=?_) (v:=?_) (by rfl) rfl ?_ ?_;rotate_left 2
      ·go_simp
       constructor
       ·rfl
       ·rfl
      refine hK.out _ _ trivial (fun hHeld=>?_);clear hK K;refine Rg (a':=?_) ?_ ?_;rotate_left
      ·show Act.put _ (some 39) _=_
       simp only [Act.put,List.setIfInBounds_toArray,List.set_cons_zero,List.set_cons_succ,Vb,Wb]
       rfl
      exact Rg (by simp only [Bq,Act.put,List.setIfInBounds_toArray,List.set_cons_zero,List.set_cons_succ]) (XC (wd.heap.size,v1,w1.heap.size) _ ⟨oa wu.out _,Kd.Va gQ.out _,yD w1 w.heap.size a1 wu.out.size⟩)
     ·skip
      refine yq (w1:=?_) (v:=?_) (by rfl) rfl ?_ ?_;rotate_left 2
      ·go_simp
       constructor
       ·rfl
       ·rfl
      refine hK.out _ _ trivial (fun hHeld=>?_);clear hK K;refine Rg (a':=?_) ?_ ?_;rotate_left
      ·show Act.put _ (some 39) _=_
       simp only [Act.put,List.setIfInBounds_toArray,List.set_cons_zero,List.set_cons_succ,Vb,Wb]
       rfl
      refine Ko (i:=4) (N:=some 37) #[true,true,true,true,true,true,true,false,true,true,true,false,false] rfl rfl (by kernel_rfl) (by decide) (fun K hK=>?_);refine Kd.Te (Kd.int .i64) (w0:=w) w.heap.size (by rfl) (.tmp 33) (.tmp 36) 22 3 (.int .i64 0) 8 rfl Try.underlying22 info3 rfl (by decide) (by omega) (.slice (some ⟨wd.heap.size,0,none⟩) 0 0) [] (l0.take i) (some ad) i c (fun _=>True) (fun _=>False) rfl rfl (Kd.Va (bu (Kd.int .i64) 3 wd w.heap.size ox.out.size) _) ?aR (fun _ _ h=>h) (fun _ hk=>hk.elim) (fun _ _=>trivial) (oa (oa ox.out _) _) (oa (oa ox.out _) _).size (by simp;have:=HL.out;omega) ?_
      (case aR=>have h:=Kd.AA (m:=i) (Kd.Ib (w1:=((wd.alloc (.cells #[] 3 (0,0))).alloc (.cells #[.int .i64 a1] 3 (0,0)))) cV.out (oa (oa ox.out _) _)) (by omega);rw [List.length_take,Nat.min_eq_left (by omega)] at h;exact h)
      intro v1 w1 ho hb hg hat;have gQ:=aa.mk ho;have wu:=aa.mk hb;have A_:=aa.mk (Kd.mc (Kd.Kz (Kd.th rfl (show Kd.R (Kd.int .i64) 3 ((wd.alloc (.cells #[] 3 (0,0))).alloc (.cells #[.int .i64 a1] 3 (0,0))) w.heap.size (fun _=>True) (.slice (some ⟨wd.heap.size + 1,0,none⟩) 1 1) [a1] from by have h:=yD (e:=3) (wd.alloc (.cells #[] 3 (0,0))) w.heap.size a1 (by simp;have:=ox.out.size;omega);simpa using h)) hg (fun k_ hk e=>by simp [Value.ownBlock] at hk e;omega)) (fun _ _=>(trivial:True)));clear ho hb hg hat;refine hK.out _ _ trivial (fun hHeld=>?_);clear hK K;refine Rg (a':=?_) ?_ ?_;rotate_left
      ·show Act.put _ (some 37) _=_
       simp only [Act.put,List.setIfInBounds_toArray,List.set_cons_zero,List.set_cons_succ,Vb,Wb]
       rfl
      exact Rg (by simp only [Bq,Act.put,List.setIfInBounds_toArray,List.set_cons_zero,List.set_cons_succ]) (XC (wd.heap.size,v1,wd.heap.size + 1) _ ⟨wu.out,gQ.out,A_.out⟩)
    ·skip
     refine yq (w1:=?_) (v:=?_) (by rfl) rfl ?_ ?_;rotate_left 2
     ·go_simp
      constructor
      ·rfl
      ·rfl
     refine hK.out _ _ trivial (fun hHeld=>?_);clear hK K;refine Rg (a':=?_) ?_ ?_;rotate_left
     ·show Act.put _ (some 39) _=_
      simp only [Act.put,List.setIfInBounds_toArray,List.set_cons_zero,List.set_cons_succ,Vb,Wb]
      rfl
     refine Ko (i:=0) (N:=some 33) #[true,true,true,true,false,true,true,false,true,true,true,false,false] rfl rfl (by kernel_rfl) (by decide) (fun K hK=>?_);refine yq (w1:=?_) (v:=?_) (by rfl) rfl ?_ ?_;rotate_left 2
     ·go_simp
      constructor
      ·rfl
      ·rfl
     refine hK.out _ _ trivial (fun hHeld=>?_);clear hK K;refine Rg (a':=?_) ?_ ?_;rotate_left
     ·show Act.put _ (some 33) _=_
      simp only [Act.put,List.setIfInBounds_toArray,List.set_cons_zero,List.set_cons_succ,Vb,Wb]
      rfl
     refine Ko (i:=4) (N:=some 37) #[true,true,true,true,true,true,true,false,true,true,true,false,false] rfl rfl (by kernel_rfl) (by decide) (fun K hK=>?_);refine Kd.Te (Kd.int .i64) (w0:=w) w.heap.size (by rfl) (.tmp 33) (.tmp 36) 22 3 (.int .i64 0) 8 rfl Try.underlying22 info3 rfl (by decide) (by omega) (.slice (some ⟨wd.heap.size + 1,0,none⟩) 0 0) [] (l0.take i) (some ad) i c (fun _=>True) (fun _=>False) rfl rfl (DK ox.out.size a1 3) ?aR (fun _ _ h=>h) (fun _ hk=>hk.elim) (fun _ _=>trivial) (oa (oa ox.out _) _) (oa (oa ox.out _) _).size (by simp;have:=HL.out;omega) ?_
     (case aR=>have h:=Kd.AA (m:=i) (Kd.Ib (w1:=((wd.alloc (.cells #[.int .i64 a1] 3 (0,0))).alloc (.cells #[] 3 (0,0)))) cV.out (oa (oa ox.out _) _)) (by omega);rw [List.length_take,Nat.min_eq_left (by omega)] at h;exact h)
     intro v1 w1 ho hb hg hat;have gQ:=aa.mk ho;have wu:=aa.mk hb;have A_:=aa.mk (Kd.mc (Kd.Kz (Kd.th rfl (show Kd.R (Kd.int .i64) 3 ((wd.alloc (.cells #[.int .i64 a1] 3 (0,0))).alloc (.cells #[] 3 (0,0))) w.heap.size (fun _=>True) (.slice (some ⟨wd.heap.size,0,none⟩) 1 1) [a1] from Kd.Va (yD wd w.heap.size a1 ox.out.size) _)) hg (fun k_ hk e=>by simp [Value.ownBlock] at hk e;omega)) (fun _ _=>(trivial:True)));clear ho hb hg hat;refine hK.out _ _ trivial (fun hHeld=>?_);clear hK K;refine Rg (a':=?_) ?_ ?_;rotate_left
     ·show Act.put _ (some 37) _=_
      simp only [Act.put,List.setIfInBounds_toArray,List.set_cons_zero,List.set_cons_succ,Vb,Wb]
      rfl
     exact Rg (by simp only [Bq,Act.put,List.setIfInBounds_toArray,List.set_cons_zero,List.set_cons_succ]) (XC (wd.heap.size + 1,v1,wd.heap.size) _ ⟨wu.out,gQ.out,A_.out⟩)
   rintro ⟨s1,s2,s3⟩ W3 ⟨QY,UQ,hn3⟩;have hHeld:=trivial;have UE:=aa.mk QY;have XA:=aa.mk UQ;have HN3:=aa.mk hn3;clear QY UQ hn3;refine Rg (a':=?_) ?_ ?_;rotate_left
   ·simp only [Bq,Act.put,List.setIfInBounds_toArray,List.set_cons_zero,List.set_cons_succ]
    rfl
   refine Ko (i:=7) (N:=some 40) #[true,true,true,true,true,true,true,true,true,true,true,false,false] rfl rfl (by kernel_rfl) (by decide) (fun K hK=>?_);refine Kd.Te (Kd.int .i64) (w0:=w) w.heap.size (by rfl) (.tmp 37) (.tmp 39) 22 3 (.int .i64 0) 8 rfl Try.underlying22 info3 rfl (by decide) (by omega) s2 (l0.take i) [a1] (some ⟨s3,0,none⟩) 1 1 (fun _=>True) (fun _=>False) rfl rfl XA.out ?aR (fun _ _ h=>h) (fun _ hk=>hk.elim) (fun _ _=>trivial) UE.out UE.out.size (by rw [List.length_take];have:=HL.out;omega) ?_
   (case aR=>exact (Kd.Rb HN3.out).2.2)
   intro v4 w4 ho hb hg hat;have HO4:=aa.mk ho;have iL:=aa.mk hb;clear ho hb hg hat XA UE HN3;refine hK.out _ _ trivial (fun hHeld=>?_);clear hK K;refine Rg (a':=?_) ?_ ?_;rotate_left
   ·show Act.put _ (some 40) _=_
    simp only [Act.put,List.setIfInBounds_toArray,List.set_cons_zero,List.set_cons_succ,Vb,Wb]
    rfl
   refine Ko (i:=11) (N:=some 44) #[true,true,true,true,true,true,true,true,true,true,true,true,false] rfl rfl (by kernel_rfl) (by decide) (fun K hK=>?_);refine Kd.Te (Kd.int .i64) (w0:=w) w.heap.size (by rfl) (.tmp 40) (.tmp 43) 22 3 (.int .i64 0) 8 rfl Try.underlying22 info3 rfl (by decide) (by omega) v4 (l0.take i ++ [a1]) (l0.drop i) _ (l0.length - i) (c - i) (fun _=>True) (fun _=>False) rfl rfl HO4.out ?aR2 (fun _ _ h=>h) (fun _ hk=>hk.elim) (fun _ _=>trivial) iL.out iL.out.size (by rw [List.length_append,List.length_take,List.length_singleton];have:=HL.out;omega) ?_
   (case aR2=>have h:=Kd.fV (m:=i) (c:=c) (Kd.Ib cV.out iL.out) (by omega) hnc;rw [List.length_drop] at h;simp only [show (Kd.int .i64).sz=1 from rfl,Nat.mul_one,Option.map_some] at h;exact h)
   intro v5 w5 ho hb hg hat;have HO5:=aa.mk ho;have Z4:=aa.mk hb;clear ho hb hg hat;refine hK.out _ _ trivial (fun hHeld=>?_);clear hK K;refine Rg (a':=?_) ?_ ?_;rotate_left
   ·show Act.put _ (some 44) _=_
    simp only [Act.put,List.setIfInBounds_toArray,List.set_cons_zero,List.set_cons_succ,Vb,Wb]
    rfl
   refine od (i:=12) (N:=some 4) (v:=?_) (a':=?_) #[true,true,true,true,true,true,true,true,true,true,true,true,true] rfl rfl (by kernel_rfl) (fun _ _ _ h=>h) (Or.inl ⟨by rfl,?_⟩) ?_ ?_;rotate_left
   ·intro w';go_simp;with_reducible rfl
   rotate_left
   ·simp only [Act.put,List.setIfInBounds_toArray,List.set_cons_zero,List.set_cons_succ,Vb,Wb]
    rfl
   refine Mp (by kernel_rfl) ?_;clear hHeld;go_wp2
   all_goals (go_ret;exact ⟨_,rfl,by rw [HE.out];exact Kd.xe (Kd.mc (Kd.Wh HO5.out) (fun _ hk=>Or.inr hk.2.1)) HB0.out.size,Oa HB0.out Z4.out,Kept.vl Z4.out _⟩)
end Go.Proofs.Ytoomcmaifgkkfaa.P
end
