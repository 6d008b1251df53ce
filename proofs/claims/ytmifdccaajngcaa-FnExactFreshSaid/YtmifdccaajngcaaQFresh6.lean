import Derived.Test.YtmifdccaajngcaaQFresh1
import Derived.Test.YtmifdccaajngcaaQFresh5
section
namespace Go.Proofs.Ytmifdccaajngcaa.P
open Go.RowKit Go.Proofs.Ca.xb Go.Proofs.Ca.Xb Go.Proofs.Ca.ic
attribute [local go_sem] Vd Td we ue Dd Cd Ud Sd
set_option linter.unusedVariables false
set_option linter.unusedSimpArgs false
def Dc.l0:Nat→List (Xi)→List (Eh)→Int→Option ((List (Eh)))
 | 0,_,_,_=>none
 | k + 1,x0,x3,x4=>if x4 < (x0.length:Int) then (if 0 ≤ x4 then ((yf.f k ((Qd x0 x4).f0) ((Qd x0 x4).f1) ((Qd x0 x4).f2) ((Qd x0 x4).f3) ((Qd x0 x4).f4)).bind fun Nn=>(if x4 < (x3.length:Int) then (Dc.l0 k x0 (x3.set (x4:Int).toNat (⟨Nn.1,Nn.2.1,Nn.2.2.1,Nn.2.2.2.1,Nn.2.2.2.2⟩:Eh)) (wrap64 (x4 + 1))) else (none))) else (none)) else (some x3)
def Dc.f (k:Nat) (l0:List (Xi)):Option ((List (Eh))):=if 0 ≤ (l0.length:Int) then (if ((l0.length:Int):Int).toNat ≤ 5026338869833 then (Dc.l0 k l0 (List.replicate ((l0.length:Int):Int).toNat eB) 0) else (none)) else (none)
theorem Dc.je:∀ k,(∀ y0 y1 y2,mc (Dc.l0 k y0 y1 y2) (Dc.l0 (k + 1) y0 y1 y2))
 | 0=>fun _ _ _ r h=>by simp [Dc.l0] at h
 | k + 1=>by
  have Lf:=Dc.je k
  ·intro y0 y1 y2
   unfold Dc.l0
   repeat' first
   | (with_reducible exact Lf _ _ _)
   | (with_reducible exact yf.mono _ _ _ _ _ _)
   | (with_reducible exact mc.refl _)
   | (with_reducible exact mc.none _)
   | (with_reducible refine mc.ite ?_ ?_)
   | (with_reducible refine mc.bind ?_ (fun _=>?_))
   | exact Lf _ _ _
   | exact yf.mono _ _ _ _ _ _
   | exact mc.none _
   | refine mc.ite ?_ ?_
   | refine mc.bind ?_ (fun _=>?_)
theorem Dc.mono:∀ a0 k,mc (Dc.f k a0) (Dc.f (k + 1) a0):=by
 intro a0 k
 have Lf:=Dc.je k
 unfold Dc.f
 repeat' first
   | (with_reducible exact Lf _ _ _)
   | (with_reducible exact yf.mono _ _ _ _ _ _)
   | (with_reducible exact mc.refl _)
   | (with_reducible exact mc.none _)
   | (with_reducible refine mc.ite ?_ ?_)
   | (with_reducible refine mc.bind ?_ (fun _=>?_))
   | exact Lf _ _ _
   | exact yf.mono _ _ _ _ _ _
   | exact mc.none _
   | refine mc.ite ?_ ?_
   | refine mc.bind ?_ (fun _=>?_)
set_option maxHeartbeats 8000000 in
set_option maxRecDepth 100000 in
theorem Dc.calls (k:Nat) (A0:Option Addr) (c0:Nat) (l0:List (Xi)) (r:List (Eh)) (w:World) (hr0:Kd.C Rw w A0 l0.length l0) (hc0:l0.length ≤ c0) (h:Dc.f k l0=some r) :
  Calls Try.prog 56 #[.slice A0 l0.length c0] w fun e w'=>∃ v0_:Value,e = .returned (v0_)∧Kd.S Xq 68 w' w.heap.size (fun _=>True) v0_ r∧Below w.heap.size w w':=by
 have ZH:=Try.underlying118
 have NG:=Try.underlying68
 have Nq:=qa.mk hr0
 have fA:=qa.mk hc0
 clear hr0 hc0
 have HB:=qa.mk (Below.refl w.heap.size w)
 have H:(if 0 ≤ (l0.length:Int) then (if ((l0.length:Int):Int).toNat ≤ 5026338869833 then (Dc.l0 k l0 (List.replicate ((l0.length:Int):Int).toNat eB) 0) else (none)) else (none))=some r:=h
 clear h
 by_cases c2:0 ≤ (l0.length:Int)
 ·rw [if_pos c2] at H
  have BC:=eq_true c2
  have zC:decide (0 ≤ (l0.length:Int))=true:=decide_eq_true c2
  clear c2
  by_cases c3:((l0.length:Int):Int).toNat ≤ 5026338869833
  ·rw [if_pos c3] at H
   have Uh:=eq_true c3
   have Mq:decide (((l0.length:Int):Int).toNat ≤ 5026338869833)=true:=decide_eq_true c3
   clear c3
   obtain ⟨y101,hy101⟩:∃ y_:List (Eh),y_=(List.replicate ((l0.length:Int):Int).toNat eB):=⟨_,rfl⟩
   replace H:(Dc.l0 k l0 y101 0)=some r:=by first|(rw [hy101];with_reducible exact H)|(have Tj:=(Option.bind_some _ _).symm.trans H;rw [hy101];with_reducible exact Tj)|(have Tj:=(Option.bind_some _ _).symm.trans H;with_reducible exact Tj)|with_reducible exact H|(rw [hy101];exact H)|exact H
   have gn:=qa.mk hy101
   clear hy101
   have H':=qa.mk H
   clear H
   go_enter Try.func56,Try.ntmps56
   go_wp2_with (first|((with_reducible refine Mb (N:=7) rfl ?_);refine Kd.WQ Xq _ 68 rfl (N:=7) rfl 28 _ _ rfl (l0.length:Int) rfl rfl Try.underlying28 (.agg #[(.slice none 0 0),(.int .i64 0),(.int .i64 0),(.int .i64 0),(.int .i64 0)]) 56 rP rfl (by decide) (by omega) eB (ok:=fun _=>True) (Uo:=fun _=>True) (cD _ _ _ eB (Kd.EO _ _ _ _ _)) (fun _ hk=>hk) trivial (of_decide_eq_true (by first|(with_reducible assumption)|assumption)) (Nat.le_trans (Nat.mul_le_mul_right _ (of_decide_eq_true (by first|(with_reducible assumption)|assumption):(l0.length:Int).toNat ≤ 5026338869833)) (by omega)) (Below.refl _ _) (Nat.le_refl _) ?_;intro qB w4 EA hb iI xp;clear iI xp;(first|rw [← gn.out] at EA|(simp only [Int.reduceToNat] at EA;rw [← gn.out] at EA));have Pb:=qa.mk (Kd.yt EA (Na (by repeat (first|(with_reducible first|exact HB.out|apply ia|apply ja|apply za)|exact HB.out))));have Wb:=qa.mk (Pa (by repeat (first|(with_reducible first|exact HB.out|apply ia|apply ja|apply za)|exact HB.out)) hb);clear HB;have Qp:=Pb;have HB:=Wb;clear Pb Wb;clear hb EA))
   go_loopg [4] k (fun kq v4 w'=>∃ (Te:List (Eh)) (Zc:Int),v4 = .int .i64 Zc∧qa (Dc.l0 kq l0 Te Zc=some r)∧qa (kq ≤ k)∧qa (Kd.S Xq 68 w' w.heap.size (fun _=>True) qB Te)∧qa (Below w.heap.size w w'))
   case atStart=>exact ⟨(y101),(0),(by first|rfl|(simp;done)|(simp [*];done)),H',⟨Nat.le_refl _⟩,⟨by (with_reducible repeat (first|apply Kd.ag|apply Kd.Zf|apply Kd.Jg));exact Qp.out⟩,⟨by repeat (first|(with_reducible first|exact HB.out|apply ia|apply ja|apply za)|exact HB.out)⟩⟩
   case round =>
    clear H'
    try clear c2
    try clear BC
    try clear zC
    try clear p2
    try clear c3
    try clear Uh
    try clear Mq
    try clear c5
    (try clear HA)
    (try clear We)
    (try clear Ng)
    (try clear HB)
    obtain ⟨Te,Zc,rfl,HA,We,Ng,HB⟩:=hrel
    cases gk with
    | zero=>exact absurd HA.out (by simp [Dc.l0])
    | succ k1 =>
     have H:=HA.out
     clear HA
     simp only [Dc.l0] at H
     by_cases c6:Zc < (l0.length:Int)
     ·rw [if_pos c6] at H
      have rm:decide (Zc < (l0.length:Int))=true:=decide_eq_true c6
      clear c6
      by_cases c7:0 ≤ Zc
      ·rw [if_pos c7] at H
       have Wo:decide (0 ≤ Zc)=true:=decide_eq_true c7
       clear c7
       replace H:=Option.bind_eq_some_iff.mp H
       obtain ⟨⟨t105,t108,t109,t110,t111⟩,pG,H⟩:=H
       replace H:(if Zc < (Te.length:Int) then (Dc.l0 k1 l0 (Te.set (Zc:Int).toNat (⟨t105,t108,t109,t110,t111⟩:Eh)) (wrap64 (Zc + 1))) else (none))=some r:=H
       have A8:=qa.mk pG
       clear pG
       by_cases c9:Zc < (Te.length:Int)
       ·rw [if_pos c9] at H
        have xC:decide (Zc < (Te.length:Int))=true:=decide_eq_true c9
        clear c9
        obtain ⟨y112,hy112⟩:∃ y_:List (Eh),y_=(Te.set (Zc:Int).toNat (⟨t105,t108,t109,t110,t111⟩:Eh)):=⟨_,rfl⟩
        replace H:(Dc.l0 k1 l0 y112 (wrap64 (Zc + 1)))=some r:=by first|(rw [hy112];with_reducible exact H)|(have Tj:=(Option.bind_some _ _).symm.trans H;rw [hy112];with_reducible exact Tj)|(have Tj:=(Option.bind_some _ _).symm.trans H;with_reducible exact Tj)|with_reducible exact H|(rw [hy112];exact H)|exact H
        have dB:=qa.mk hy112
        clear hy112
        have H':=qa.mk H
        clear H
        have gr:0 ≤ (Zc:Int):=of_decide_eq_true (by first|(with_reducible assumption)|assumption)
        have dr:Zc < (l0.length:Int):=of_decide_eq_true (by first|(with_reducible assumption)|assumption)
        obtain ⟨kG,xR,RQ,vC,Th,Tk,Vn,Un,Tn,eD,fD⟩:=Wz Nq.out Zc gr dr
        cases vC
        replace Th:=(HB.out.cell (World.block_lt_of_cell? w _ Th)).trans Th
        replace Tk:=(HB.out.cell (World.block_lt_of_cell? w _ Tk)).trans Tk
        replace Vn:=(HB.out.cell (World.block_lt_of_cell? w _ Vn)).trans Vn
        replace Un:=(HB.out.cell (World.block_lt_of_cell? w _ Un)).trans Un
        replace Tn:=(HB.out.cell (World.block_lt_of_cell? w _ Tn)).trans Tn
        have JN:=qa.mk fD
        have LN:=qa.mk eD
        clear fD eD
        replace gr:=eq_true gr
        replace dr:=eq_true dr
        go_wp2_with (first|((with_reducible refine Bb (f:=88) rfl ?_);refine jd (some 20) rfl rfl Try.func88 (by kernel_rfl) rfl #[.agg #[.slice xR ((Qd l0 Zc).f0).length RQ,.int .i64 ((Qd l0 Zc).f1),.int .i64 ((Qd l0 Zc).f2),.int .i64 ((Qd l0 Zc).f3),.int .i64 ((Qd l0 Zc).f4)]] rfl (by (try simp only [List.map_toArray,List.map_cons,List.map_nil]);first|done|rfl|(simp only [List.length_drop,List.length_take];rfl)) ?_;(with_reducible refine (yf.calls k1 _ _ ((Qd l0 Zc).f0) ((Qd l0 Zc).f1) ((Qd l0 Zc).f2) ((Qd l0 Zc).f3) ((Qd l0 Zc).f4) t105 t108 t109 t110 t111 _ ?side1 ?side2 A8.out).mono ?_);(case side1=>repeat (first|exact (Kd.Yb JN.out HB.out)|(with_reducible refine Kd.yc ?_ _)|(with_reducible refine Kd.uc ?_ _)|(with_reducible refine Kd.Sc ?_)));(case side2=>exact LN.out);rintro e ri ⟨qH,rfl,Vo,hb⟩;refine ⟨_,rfl,?_⟩;have Pb:=qa.mk (Kd.Bt (by (with_reducible repeat (first|apply Kd.ag|apply Kd.Zf|apply Kd.Jg));exact Ng.out) (Kd.Bx Vo) hb);have Wb:=qa.mk (Kd.Xg Vo (Na (by repeat (first|(with_reducible first|exact HB.out|apply ia|apply ja|apply za)|exact HB.out))));have nc:=qa.mk (Pa (by repeat (first|(with_reducible first|exact HB.out|apply ia|apply ja|apply za)|exact HB.out)) hb);clear Ng;clear HB;have Ng:=Pb;have AJ:=Wb;have HB:=nc;clear Pb Wb nc;(try clear hb);(try clear hb2);(try clear hk);(try clear hi);(try clear Vo);have xH:0 ≤ (Zc:Int):=of_decide_eq_true (by first|(with_reducible assumption)|assumption);have wH:(Zc:Int) < ((Te.length:Int):Int):=of_decide_eq_true (by first|(with_reducible assumption)|assumption);obtain ⟨Qg,Wt,uC,WI,uQ,Oaa,CJ⟩:=Kd.ZQ Ng.out (by omega);(first|cases uC|(injection uC with ea_ en_ ec_;(first|subst ea_|(injection ea_ with ea_;subst ea_));subst ec_;clear en_));have cu:=qa.mk WI;have jab:=qa.mk CJ;clear WI uQ CJ;obtain ⟨_,Qaa,MI,UI,dm,Vl,_,_⟩:=Kd.sJ Ng.out eB (Zc:Int) xH wH;obtain ⟨cP,rfl,Caa⟩:=Vx UI;have GP:ri.cell? ⟨Qg,(Zc:Int).toNat * 5,none⟩=some (cP):=dm 0 _ rfl;have FP:ri.cell? ⟨Qg,(Zc:Int).toNat * 5 + 1,none⟩=some (.int .i64 ((mb Te Zc).f1)):=dm 1 _ rfl;have EP:ri.cell? ⟨Qg,(Zc:Int).toNat * 5 + 2,none⟩=some (.int .i64 ((mb Te Zc).f2)):=dm 2 _ rfl;have DP:ri.cell? ⟨Qg,(Zc:Int).toNat * 5 + 3,none⟩=some (.int .i64 ((mb Te Zc).f3)):=dm 3 _ rfl;have CP:ri.cell? ⟨Qg,(Zc:Int).toNat * 5 + 4,none⟩=some (.int .i64 ((mb Te Zc).f4)):=dm 4 _ rfl;have lQ:ri.frozen? ⟨Qg,(Zc:Int).toNat * 5,none⟩=false:=Vl 0;have kQ:ri.frozen? ⟨Qg,(Zc:Int).toNat * 5 + 1,none⟩=false:=Vl 1;have jQ:ri.frozen? ⟨Qg,(Zc:Int).toNat * 5 + 2,none⟩=false:=Vl 2;have iQ:ri.frozen? ⟨Qg,(Zc:Int).toNat * 5 + 3,none⟩=false:=Vl 3;have gQ:ri.frozen? ⟨Qg,(Zc:Int).toNat * 5 + 4,none⟩=false:=Vl 4;clear MI dm Vl UI;replace xH:=eq_true xH;replace wH:=eq_true wH;have n_:=qa.mk (Kd.ur (ok':=(fun k_=>some k_ ≠ (qH:Value).ownBlock)) Ng.out (fun k_ hk=>hk.2));clear Ng;have Ng:=n_;clear n_;have GN:=qa.mk (show Kd.S Xq 68 ri w.heap.size (fun k_=>((fun _=>True)) k_∧¬ ((fun k_=>some k_=(qH:Value).ownBlock)) k_) (.slice (some ⟨Qg,0,none⟩) Te.length Wt) Te from (by (with_reducible repeat (first|apply Kd.ag|apply Kd.Zf|apply Kd.Jg));exact Kd.ur Ng.out (fun k_ hk=>⟨trivial,fun e_=>hk e_⟩)));obtain ⟨vab,Paa,UF,TI,Ok,Ul,JP,qW⟩:=Kd.sJ GN.out eB (Zc:Int) (of_decide_eq_true (by first|(with_reducible assumption)|assumption)) (by have h_:(Zc:Int) < ((Te.length:Int):Int):=of_decide_eq_true (by first|(with_reducible assumption)|assumption);first|exact h_|(have e_:=(Kd.Ai Ng.out).1;omega)|simpa using h_);obtain ⟨o9,rfl,Baa⟩:=Vx TI;have OC:=Kd.lX qW (of_decide_eq_true (by first|(with_reducible assumption)|assumption)) (by have h_:(Zc:Int) < ((Te.length:Int):Int):=of_decide_eq_true (by first|(with_reducible assumption)|assumption);first|exact h_|(have e_:=(Kd.Ai Ng.out).1;omega)|simpa using h_) (seg:=[qH,.int .i64 t108,.int .i64 t109,.int .i64 t110,.int .i64 t111]) (j:=0) (show 5 ≤ 5 from by decide) (x':=(⟨t105,t108,t109,t110,t111⟩:Eh)) (cD _ _ _ (⟨t105,t108,t109,t110,t111⟩:Eh) (Kd.ke (Kd.Ct rfl (Kd.ke (ok':=fun k_=>((fun _=>True)) k_∧k_ ≠ Qg) (Kd.cB (AJ.out) (Kd.lG Ng.out) (by decide)) (fun k_ hk=>⟨trivial,fun e_=>(hk.2) (by rw [e_];rfl)⟩))) (fun _ h_=>Or.inr (h_)))) (fun _ hk=>hk) (fun k_ hk_=>((Kd.ke (ok':=fun k_=>((fun _=>True)) k_∧k_ ≠ Qg) (Kd.cB (AJ.out) (Kd.lG Ng.out) (by decide)) (fun k_ hk=>⟨trivial,fun e_=>(hk.2) (by rw [e_];rfl)⟩))).1 k_ hk_.symm);have PB:=Ok 0 _ rfl;(try simp only [show (Xq).sz=5 from rfl,Nat.mul_one,Nat.add_zero] at PB);have bC:=Ul 0;(try simp only [show (Xq).sz=5 from rfl,Nat.mul_one,Nat.add_zero] at bC);have OB:=Ok 1 _ rfl;(try simp only [show (Xq).sz=5 from rfl,Nat.mul_one,Nat.add_zero] at OB);have aC:=Ul 1;(try simp only [show (Xq).sz=5 from rfl,Nat.mul_one,Nat.add_zero] at aC);have NB:=Ok 2 _ rfl;(try simp only [show (Xq).sz=5 from rfl,Nat.mul_one,Nat.add_zero] at NB);have ZB:=Ul 2;(try simp only [show (Xq).sz=5 from rfl,Nat.mul_one,Nat.add_zero] at ZB);have MB:=Ok 3 _ rfl;(try simp only [show (Xq).sz=5 from rfl,Nat.mul_one,Nat.add_zero] at MB);have YB:=Ul 3;(try simp only [show (Xq).sz=5 from rfl,Nat.mul_one,Nat.add_zero] at YB);have LB:=Ok 4 _ rfl;(try simp only [show (Xq).sz=5 from rfl,Nat.mul_one,Nat.add_zero] at LB);have XB:=Ul 4;(try simp only [show (Xq).sz=5 from rfl,Nat.mul_one,Nat.add_zero] at XB);clear UF Ok Ul TI JP qW)|((with_reducible refine Rf (t:=68) (p:=21) rfl ?_);refine Bf (t:=68) (p:=21) (v:=?vo_w13) (w1:=(((((ri.setCell ⟨Qg,(Zc:Int).toNat * 5,none⟩ (qH)).setCell ⟨Qg,(Zc:Int).toNat * 5 + 1,none⟩ (.int .i64 t108)).setCell ⟨Qg,(Zc:Int).toNat * 5 + 2,none⟩ (.int .i64 t109)).setCell ⟨Qg,(Zc:Int).toNat * 5 + 3,none⟩ (.int .i64 t110)).setCell ⟨Qg,(Zc:Int).toNat * 5 + 4,none⟩ (.int .i64 t111))) ?hg ?ho ?hn ?hr ?_;(case ho=>rfl);(case hg=>rfl);(case hn=>rfl);(case hr=>first|(go_simp;done)|(go_simp;rfl)|(have Jae:=fun (a_:Addr) (W_:World) (m_:Mode)=>run_store Try.prog W_ a_ qH m_ (by first|exact EH (by assumption)|exact DH (by assumption)|exact GH (by assumption)|exact FH (by assumption));first|(go_simp;done)|(go_simp;rfl)));intro sy hw;have hg:ri.grownBy sy (some Qg):=(by rw [hw];exact OC.2);have Sw:Kd.S Xq 68 sy w.heap.size (fun _=>True) (.slice (some ⟨Qg,0,none⟩) Te.length Wt) y112:=(by rw [hw,dB.out];exact OC.1);clear OC;have Pb:=qa.mk (Sw);have Wb:=qa.mk ((by rw [hw];exact Aa (Aa (Aa (Aa (Aa (HB.out) cu.out) cu.out) cu.out) cu.out) cu.out:Below w.heap.size w sy));clear Ng;clear HB;clear AJ;have Ng:=Pb;have HB:=Wb;clear Pb Wb;clear hg hw Sw))
        go_roundg k1
        case measure=>have:=We.out;omega
        case rel=>exact ⟨(y112),(wrap64 (Zc + 1)),(by first|rfl|(simp;done)|(simp [*];done)),H',⟨by have:=We.out;omega⟩,⟨by (with_reducible repeat (first|apply Kd.ag|apply Kd.Zf|apply Kd.Jg));exact Ng.out⟩,⟨by repeat (first|(with_reducible first|exact HB.out|apply ia|apply ja|apply za)|exact HB.out)⟩⟩
       ·rw [if_neg c9] at H
        exact absurd H (by simp)
      ·rw [if_neg c7] at H
       exact absurd H (by simp)
     ·rw [if_neg c6] at H
      have rm:decide (Zc < (l0.length:Int))=false:=decide_eq_false c6
      clear c6
      obtain rfl:=Option.some.inj H
      go_wp2
      go_ret
      exact ⟨_,by first|rfl|(simp [La,Ka] <;> rfl)|(simp [*,La,Ka] <;> rfl),by (with_reducible repeat (first|apply Kd.ag|apply Kd.Zf|apply Kd.Jg));exact Ng.out,by repeat (first|(with_reducible first|exact HB.out|apply ia|apply ja|apply za)|exact HB.out)⟩
  ·rw [if_neg c3] at H
   exact absurd H (by simp)
 ·rw [if_neg c2] at H
  exact absurd H (by simp)
end Go.Proofs.Ytmifdccaajngcaa.P
end
section
namespace Go.Proofs.Ytmifdccaajngcaa.P
open Go.RowKit Go.Proofs.Ca.xb Go.Proofs.Ca.Xb Go.Proofs.Ca.ic
attribute [local go_sem] Vd Td we ue Dd Cd Ud Sd
set_option linter.unusedVariables false
set_option linter.unusedSimpArgs false
def yd.f (k:Nat) (Ra:List Int) (Ja:Int) (Ma:Int) (Oa:Int) (Qa:List (Xi)):Option (List Int × Int × Int × Int × (List (Eh))):=(ud.f k Ra).bind fun t104=>((Dc.f k Qa).bind fun t107=>(some (t104,Ja,Ma,Oa,t107)))
theorem yd.mono:∀ a0 a1 a2 a3 a4 k,mc (yd.f k a0 a1 a2 a3 a4) (yd.f (k + 1) a0 a1 a2 a3 a4):=by
 intro a0 a1 a2 a3 a4 k
 unfold yd.f
 repeat' first
   | (with_reducible exact Dc.mono _ _)
   | (with_reducible exact ud.mono _ _)
   | (with_reducible exact mc.refl _)
   | (with_reducible exact mc.none _)
   | (with_reducible refine mc.ite ?_ ?_)
   | (with_reducible refine mc.bind ?_ (fun _=>?_))
   | exact Dc.mono _ _
   | exact ud.mono _ _
   | exact mc.none _
   | refine mc.ite ?_ ?_
   | refine mc.bind ?_ (fun _=>?_)
set_option maxHeartbeats 8000000 in
set_option maxRecDepth 100000 in
theorem yd.calls (k:Nat) (Ib:Option Addr) (Gb:Nat) (Ra:List Int) (Ja:Int) (Ma:Int) (Oa:Int) (qc:Option Addr) (dc:Nat) (Qa:List (Xi)) (r1:List Int) (r2:Int) (r3:Int) (r4:Int) (r5:List (Eh)) (w:World) (zf:Kd.C (Kd.int .i64) w Ib Ra.length Ra) (uf:Ra.length ≤ Gb) (bg:Kd.C Rw w qc Qa.length Qa) (cg:Qa.length ≤ dc) (h:yd.f k Ra Ja Ma Oa Qa=some (r1,r2,r3,r4,r5)) :
  Calls Try.prog 15 #[.agg #[.slice Ib Ra.length Gb,.int .i64 Ja,.int .i64 Ma,.int .i64 Oa,.slice qc Qa.length dc]] w fun e w'=>∃ v0_ v4_:Value,e = .returned (.agg #[v0_,.int .i64 r2,.int .i64 r3,.int .i64 r4,v4_])∧Kd.R (Kd.int .i64) 3 w' w.heap.size (fun _=>True) v0_ r1∧Kd.S Xq 68 w' w.heap.size (fun _=>True) v4_ r5∧Below w.heap.size w w':=by
 have WR:=Try.underlying25
 have CA:=Try.underlying30
 have Ve:=qa.mk zf
 have gf:=qa.mk uf
 clear zf uf
 have Tf:=qa.mk bg
 have Yg:=qa.mk cg
 clear bg cg
 have HB:=qa.mk (Below.refl w.heap.size w)
 have H:((ud.f k Ra).bind fun t104=>((Dc.f k Qa).bind fun t107=>(some (t104,Ja,Ma,Oa,t107))))=some (r1,r2,r3,r4,r5):=h
 clear h
 replace H:=Option.bind_eq_some_iff.mp H
 obtain ⟨t104,QJ,H⟩:=H
 replace H:((Dc.f k Qa).bind fun t107=>(some (t104,Ja,Ma,Oa,t107)))=some (r1,r2,r3,r4,r5):=H
 have A2:=qa.mk QJ
 clear QJ
 replace H:=Option.bind_eq_some_iff.mp H
 obtain ⟨t107,Ht,H⟩:=H
 replace H:(some (t104,Ja,Ma,Oa,t107))=some (r1,r2,r3,r4,r5):=H
 have A3:=qa.mk Ht
 clear Ht
 simp only [Option.some.injEq,Prod.mk.injEq] at H
 obtain ⟨rfl,rfl,rfl,rfl,rfl⟩:=H
 go_enter Try.func15,Try.ntmps15
 go_wp2_with (first|((with_reducible refine Mb (N:=1) rfl ?_);refine Jb ?hg (N:=1) ?hd (cs:=#[.slice Ib Ra.length Gb,.int .i64 Ja,.int .i64 Ma,.int .i64 Oa,.slice qc Qa.length dc]) (t:=25) ?hr ?_;(case hd=>rfl);(case hg=>rfl);(case hr=>first|(go_simp;done)|(go_simp;rfl));intro Fa hg w4 Qb hb;have Pb:=qa.mk (Pa (by repeat (first|(with_reducible first|exact HB.out|apply ia|apply ja|apply za)|exact HB.out)) hb);have Wb:=qa.mk (Qb);have nc:=qa.mk ((by rw [hg];exact (Na (by repeat (first|(with_reducible first|exact HB.out|apply ia|apply ja|apply za)|exact HB.out))):w.heap.size ≤ Fa));have Nc:=qa.mk ((by rw [hg];exact (Na (by repeat (first|(with_reducible first|exact HB.out|apply ia|apply ja|apply za)|exact HB.out))):w.heap.size ≤ Fa));clear HB;have HB:=Pb;have ua:=Wb;have Nd:=nc;have Va:=Nc;clear Pb Wb nc Nc;clear hb Qb hg)|((with_reducible refine Mb (N:=2) rfl ?_);refine Jb ?hg (N:=2) ?hd (cs:=#[.slice none 0 0,.int .i64 0,.int .i64 0,.int .i64 0,.slice none 0 0]) (t:=30) ?hr ?_;(case hd=>rfl);(case hg=>rfl);(case hr=>first|(go_simp;done)|(go_simp;rfl));intro Ia hg w5 Qb hb;have Pb:=qa.mk (Wa (g:=Fa) (o:=.cells #[.slice Ib Ra.length Gb,.int .i64 Ja,.int .i64 Ma,.int .i64 Oa,.slice qc Qa.length dc] 25 (0,0)) (by (with_reducible repeat (first|refine Ea ?_ _|refine Ga ?_|refine Da ?_ _));exact ua.out) hb);have Wb:=qa.mk (Pa (by repeat (first|(with_reducible first|exact HB.out|apply ia|apply ja|apply za|refine Aa ?_ Va.out)|exact HB.out)) hb);have nc:=qa.mk (Qb);have Nc:=qa.mk ((by rw [hg];exact (Na (by repeat (first|(with_reducible first|exact HB.out|apply ia|apply ja|apply za|refine Aa ?_ Va.out)|exact HB.out))):w.heap.size ≤ Ia));have qe:=qa.mk ((by rw [hg];exact (Na (by repeat (first|(with_reducible first|exact HB.out|apply ia|apply ja|apply za|refine Aa ?_ Va.out)|exact HB.out))):w.heap.size ≤ Ia));have lf:=qa.mk ((by rw [hg];exact Nat.ne_of_lt (Ac (g:=Fa) (o:=.cells #[.slice Ib Ra.length Gb,.int .i64 Ja,.int .i64 Ma,.int .i64 Oa,.slice qc Qa.length dc] 25 (0,0)) (by (with_reducible repeat (first|refine Ea ?_ _|refine Ga ?_|refine Da ?_ _));exact ua.out)):Fa ≠ Ia));have Hf:=qa.mk ((by rw [hg];exact Nat.ne_of_gt (Ac (g:=Fa) (o:=.cells #[.slice Ib Ra.length Gb,.int .i64 Ja,.int .i64 Ma,.int .i64 Oa,.slice qc Qa.length dc] 25 (0,0)) (by (with_reducible repeat (first|refine Ea ?_ _|refine Ga ?_|refine Da ?_ _));exact ua.out)):Ia ≠ Fa));clear ua;clear HB;have ua:=Pb;have HB:=Wb;have Ba:=nc;have Je:=Nc;have Vb:=qe;have Sa:=lf;have qb:=Hf;clear Pb Wb nc Nc qe lf Hf;clear hb Qb hg)|((with_reducible refine Mb (N:=3) rfl ?_);refine Jb ?hg (N:=3) ?hd (cs:=#[.slice none 0 0,.int .i64 0,.int .i64 0,.int .i64 0,.slice none 0 0]) (t:=30) ?hr ?_;(case hd=>rfl);(case hg=>rfl);(case hr=>first|(go_simp;done)|(go_simp;rfl));intro Ld hg w6 Qb hb;have Pb:=qa.mk (Wa (g:=Fa) (o:=.cells #[.slice Ib Ra.length Gb,.int .i64 Ja,.int .i64 Ma,.int .i64 Oa,.slice qc Qa.length dc] 25 (0,0)) (by (with_reducible repeat (first|refine Ea ?_ _|refine Ga ?_|refine Da ?_ _));exact ua.out) hb);have Wb:=qa.mk (Wa (g:=Ia) (o:=.cells #[.slice none 0 0,.int .i64 0,.int .i64 0,.int .i64 0,.slice none 0 0] 30 (0,0)) (by (with_reducible repeat (first|refine Ea ?_ _|refine Ga ?_|refine Da ?_ _));exact Ba.out) hb);have nc:=qa.mk (Pa (by repeat (first|(with_reducible first|exact HB.out|apply ia|apply ja|apply za|refine Aa ?_ Va.out|refine Aa ?_ Vb.out)|exact HB.out)) hb);have Nc:=qa.mk (Qb);have qe:=qa.mk ((by rw [hg];exact (Na (by repeat (first|(with_reducible first|exact HB.out|apply ia|apply ja|apply za|refine Aa ?_ Va.out|refine Aa ?_ Vb.out)|exact HB.out))):w.heap.size ≤ Ld));have lf:=qa.mk ((by rw [hg];exact (Na (by repeat (first|(with_reducible first|exact HB.out|apply ia|apply ja|apply za|refine Aa ?_ Va.out|refine Aa ?_ Vb.out)|exact HB.out))):w.heap.size ≤ Ld));have Hf:=qa.mk ((by rw [hg];exact Nat.ne_of_lt (Ac (g:=Fa) (o:=.cells #[.slice Ib Ra.length Gb,.int .i64 Ja,.int .i64 Ma,.int .i64 Oa,.slice qc Qa.length dc] 25 (0,0)) (by (with_reducible repeat (first|refine Ea ?_ _|refine Ga ?_|refine Da ?_ _));exact ua.out)):Fa ≠ Ld));have lp:=qa.mk ((by rw [hg];exact Nat.ne_of_gt (Ac (g:=Fa) (o:=.cells #[.slice Ib Ra.length Gb,.int .i64 Ja,.int .i64 Ma,.int .i64 Oa,.slice qc Qa.length dc] 25 (0,0)) (by (with_reducible repeat (first|refine Ea ?_ _|refine Ga ?_|refine Da ?_ _));exact ua.out)):Ld ≠ Fa));have gp:=qa.mk ((by rw [hg];exact Nat.ne_of_lt (Ac (g:=Ia) (o:=.cells #[.slice none 0 0,.int .i64 0,.int .i64 0,.int .i64 0,.slice none 0 0] 30 (0,0)) (by (with_reducible repeat (first|refine Ea ?_ _|refine Ga ?_|refine Da ?_ _));exact Ba.out)):Ia ≠ Ld));have XC:=qa.mk ((by rw [hg];exact Nat.ne_of_gt (Ac (g:=Ia) (o:=.cells #[.slice none 0 0,.int .i64 0,.int .i64 0,.int .i64 0,.slice none 0 0] 30 (0,0)) (by (with_reducible repeat (first|refine Ea ?_ _|refine Ga ?_|refine Da ?_ _));exact Ba.out)):Ld ≠ Ia));clear ua;clear Ba;clear HB;have ua:=Pb;have Ba:=Wb;have HB:=nc;have Vc:=Nc;have DJ:=qe;have Zg:=lf;have qf:=Hf;have Vf:=lp;have Wd:=gp;have Uf:=XC;clear Pb Wb nc Nc qe lf Hf lp gp XC;clear hb Qb hg;have g_:=Sa.out;have P9:=qb.out;have f_:=qf.out;have O9:=Vf.out;have cm:w6.cell? ⟨Fa,0,none⟩=some (.slice Ib Ra.length Gb):=(ga ua.out 0).trans rfl;have Zl:w6.cell? ⟨Fa,1,none⟩=some (.int .i64 Ja):=(ga ua.out 1).trans rfl;have Yl:w6.cell? ⟨Fa,2,none⟩=some (.int .i64 Ma):=(ga ua.out 2).trans rfl;have Xl:w6.cell? ⟨Fa,3,none⟩=some (.int .i64 Oa):=(ga ua.out 3).trans rfl;have Wl:w6.cell? ⟨Fa,4,none⟩=some (.slice qc Qa.length dc):=(ga ua.out 4).trans rfl;have Tl:=aa ua.out 0;have Sl:=aa ua.out 1;have Rl:=aa ua.out 2;have Ql:=aa ua.out 3;have Ol:=aa ua.out 4)|((with_reducible refine Bb (f:=25) rfl ?_);refine jd (some 6) rfl rfl Try.func25 (by kernel_rfl) rfl #[.slice Ib Ra.length Gb] rfl (by (try simp only [List.map_toArray,List.map_cons,List.map_nil]);first|done|rfl|(simp only [List.length_drop,List.length_take];rfl)) ?_;(with_reducible refine (ud.calls k _ _ Ra t104 _ ?side1 ?side2 A2.out).mono ?_);(case side1=>repeat (first|exact (Kd.Yb Ve.out HB.out)|(with_reducible refine Kd.yc ?_ _)|(with_reducible refine Kd.uc ?_ _)|(with_reducible refine Kd.Sc ?_)));(case side2=>exact gf.out);rintro e Qo ⟨dP,rfl,Vo,hb⟩;refine ⟨_,rfl,?_⟩;have Pb:=qa.mk (Kd.Xg Vo (Na (by repeat (first|(with_reducible first|exact HB.out|apply ia|apply ja|apply za|refine Aa ?_ Va.out|refine Aa ?_ Vb.out|refine Aa ?_ Zg.out)|exact HB.out))));have Wb:=qa.mk (Wa (g:=Fa) (o:=.cells #[.slice Ib Ra.length Gb,.int .i64 Ja,.int .i64 Ma,.int .i64 Oa,.slice qc Qa.length dc] 25 (0,0)) (by (with_reducible repeat (first|refine Ea ?_ _|refine Ga ?_|refine Da ?_ _));exact ua.out) hb);have nc:=qa.mk (Wa (g:=Ia) (o:=.cells #[.slice none 0 0,.int .i64 0,.int .i64 0,.int .i64 0,.slice none 0 0] 30 (0,0)) (by (with_reducible repeat (first|refine Ea ?_ _|refine Ga ?_|refine Da ?_ _));exact Ba.out) hb);have Nc:=qa.mk (Wa (g:=Ld) (o:=.cells #[.slice none 0 0,.int .i64 0,.int .i64 0,.int .i64 0,.slice none 0 0] 30 (0,0)) (by (with_reducible repeat (first|refine Ea ?_ _|refine Ga ?_|refine Da ?_ _));exact Vc.out) hb);have qe:=qa.mk (Pa (by repeat (first|(with_reducible first|exact HB.out|apply ia|apply ja|apply za|refine Aa ?_ Va.out|refine Aa ?_ Vb.out|refine Aa ?_ Zg.out)|exact HB.out)) hb);clear ua;clear Ba;clear Vc;clear HB;have Pp:=Pb;have ua:=Wb;have Ba:=nc;have Vc:=Nc;have HB:=qe;clear Pb Wb nc Nc qe;(try clear hb);(try clear hb2);(try clear hk);(try clear hi);(try clear Vo);obtain ⟨eu,Vt,Laa⟩:=Kd.mh Pp.out;subst Laa;have gI:=Uf.out;have dI:=Wd.out;have Lj:Qo.cell? ⟨Ld,0,none⟩=some (.slice none 0 0):=(ga Vc.out 0).trans rfl;have Kj:Qo.cell? ⟨Ld,1,none⟩=some (.int .i64 0):=(ga Vc.out 1).trans rfl;have Gq:Qo.cell? ⟨Ld,2,none⟩=some (.int .i64 0):=(ga Vc.out 2).trans rfl;have Fq:Qo.cell? ⟨Ld,3,none⟩=some (.int .i64 0):=(ga Vc.out 3).trans rfl;have Dq:Qo.cell? ⟨Ld,4,none⟩=some (.slice none 0 0):=(ga Vc.out 4).trans rfl;have Jj:=aa Vc.out 0;have Ij:=aa Vc.out 1;have pq:=aa Vc.out 2;have oq:=aa Vc.out 3;have mq:=aa Vc.out 4;have Gl:Qo.cell? ⟨Fa,0,none⟩=some (.slice Ib Ra.length Gb):=(ga ua.out 0).trans rfl;have Fl:Qo.cell? ⟨Fa,1,none⟩=some (.int .i64 Ja):=(ga ua.out 1).trans rfl;have Wm:Qo.cell? ⟨Fa,2,none⟩=some (.int .i64 Ma):=(ga ua.out 2).trans rfl;have Vm:Qo.cell? ⟨Fa,3,none⟩=some (.int .i64 Oa):=(ga ua.out 3).trans rfl;have Um:Qo.cell? ⟨Fa,4,none⟩=some (.slice qc Qa.length dc):=(ga ua.out 4).trans rfl;have El:=aa ua.out 0;have Dl:=aa ua.out 1;have Jm:=aa ua.out 2;have Im:=aa ua.out 3;have Gm:=aa ua.out 4)|((with_reducible refine Bb (f:=56) rfl ?_);refine jd (some 19) rfl rfl Try.func56 (by kernel_rfl) rfl #[.slice qc Qa.length dc] rfl (by (try simp only [List.map_toArray,List.map_cons,List.map_nil]);first|done|rfl|(simp only [List.length_drop,List.length_take];rfl)) ?_;(with_reducible refine (Dc.calls k _ _ Qa t107 _ ?side1 ?side2 A3.out).mono ?_);(case side1=>exact Kd.Yb Tf.out (by repeat (first|(with_reducible first|exact HB.out|apply ia|apply ja|apply za|refine Aa ?_ Va.out|refine Aa ?_ Vb.out|refine Aa ?_ Zg.out)|exact HB.out)));(case side2=>exact Yg.out);rintro e sn ⟨wae,rfl,Vo,hb⟩;refine ⟨_,rfl,?_⟩;have Pb:=qa.mk (Kd.Ge (by (with_reducible repeat (first|apply Kd.Qc|apply Kd.Pc|apply Kd.xd));exact (Kd.ke (Kd.He (p:=⟨Ld,3,none⟩) (Kd.He (p:=⟨Ld,2,none⟩) (Kd.He (p:=⟨Ld,1,none⟩) (Kd.He (p:=⟨Ld,0,none⟩) (Kd.Rj Pp.out Vc.out (by decide)) (fun _ hk=>hk.2) (.slice eu t104.length Vt)) (fun _ hk=>hk.2) (.int .i64 Ja)) (fun _ hk=>hk.2) (.int .i64 Ma)) (fun _ hk=>hk.2) (.int .i64 Oa)) (fun _ h_=>h_.1))) hb);have Wb:=qa.mk (Kd.yt Vo (Na (by repeat (first|(with_reducible first|exact HB.out|apply ia|apply ja|apply za|refine Aa ?_ Va.out|refine Aa ?_ Vb.out|refine Aa ?_ Zg.out)|exact HB.out))));have nc:=qa.mk (Wa (g:=Fa) (o:=.cells #[.slice Ib Ra.length Gb,.int .i64 Ja,.int .i64 Ma,.int .i64 Oa,.slice qc Qa.length dc] 25 (0,0)) (by (with_reducible repeat (first|refine Ea ?_ _|refine Ga ?_|refine Da ?_ _));refine Rb ?_ qf.out _;(with_reducible repeat (first|refine Ea ?_ _|refine Ga ?_|refine Da ?_ _));refine Rb ?_ qf.out _;(with_reducible repeat (first|refine Ea ?_ _|refine Ga ?_|refine Da ?_ _));refine Rb ?_ qf.out _;(with_reducible repeat (first|refine Ea ?_ _|refine Ga ?_|refine Da ?_ _));refine Rb ?_ qf.out _;(with_reducible repeat (first|refine Ea ?_ _|refine Ga ?_|refine Da ?_ _));exact ua.out) hb);have Nc:=qa.mk (Wa (g:=Ia) (o:=.cells #[.slice none 0 0,.int .i64 0,.int .i64 0,.int .i64 0,.slice none 0 0] 30 (0,0)) (by (with_reducible repeat (first|refine Ea ?_ _|refine Ga ?_|refine Da ?_ _));refine Rb ?_ Wd.out _;(with_reducible repeat (first|refine Ea ?_ _|refine Ga ?_|refine Da ?_ _));refine Rb ?_ Wd.out _;(with_reducible repeat (first|refine Ea ?_ _|refine Ga ?_|refine Da ?_ _));refine Rb ?_ Wd.out _;(with_reducible repeat (first|refine Ea ?_ _|refine Ga ?_|refine Da ?_ _));refine Rb ?_ Wd.out _;(with_reducible repeat (first|refine Ea ?_ _|refine Ga ?_|refine Da ?_ _));exact Ba.out) hb);have qe:=qa.mk (Wa (g:=Ld) (o:=.cells #[.slice eu t104.length Vt,.int .i64 Ja,.int .i64 Ma,.int .i64 Oa,.slice none 0 0] 30 (0,0)) (by (with_reducible repeat (first|refine Ea ?_ _|refine Ga ?_|refine Da ?_ _));refine Db (cs:=#[.slice eu t104.length Vt,.int .i64 Ja,.int .i64 Ma,.int .i64 0,.slice none 0 0]) ?_ 3 _ rfl;(with_reducible repeat (first|refine Ea ?_ _|refine Ga ?_|refine Da ?_ _));refine Db (cs:=#[.slice eu t104.length Vt,.int .i64 Ja,.int .i64 0,.int .i64 0,.slice none 0 0]) ?_ 2 _ rfl;(with_reducible repeat (first|refine Ea ?_ _|refine Ga ?_|refine Da ?_ _));refine Db (cs:=#[.slice eu t104.length Vt,.int .i64 0,.int .i64 0,.int .i64 0,.slice none 0 0]) ?_ 1 _ rfl;(with_reducible repeat (first|refine Ea ?_ _|refine Ga ?_|refine Da ?_ _));refine Db (cs:=#[.slice none 0 0,.int .i64 0,.int .i64 0,.int .i64 0,.slice none 0 0]) ?_ 0 _ rfl;(with_reducible repeat (first|refine Ea ?_ _|refine Ga ?_|refine Da ?_ _));exact Vc.out) hb);have lf:=qa.mk (Pa (by repeat (first|(with_reducible first|exact HB.out|apply ia|apply ja|apply za|refine Aa ?_ Va.out|refine Aa ?_ Vb.out|refine Aa ?_ Zg.out)|exact HB.out)) hb);clear Pp;clear ua;clear Ba;clear Vc;clear HB;have Pp:=Pb;have LO:=Wb;have ua:=nc;have Ba:=Nc;have Vc:=qe;have HB:=lf;clear Pb Wb nc Nc qe lf;(try clear hb);(try clear hb2);(try clear hk);(try clear hi);(try clear Vo);obtain ⟨FJ,cJ,Jaa⟩:=Kd.zw LO.out;subst Jaa;have Zs:sn.cell? ⟨Ld,0,none⟩=some (.slice eu t104.length Vt):=(ga Vc.out 0).trans rfl;have Ys:sn.cell? ⟨Ld,1,none⟩=some (.int .i64 Ja):=(ga Vc.out 1).trans rfl;have iw:sn.cell? ⟨Ld,2,none⟩=some (.int .i64 Ma):=(ga Vc.out 2).trans rfl;have ew:sn.cell? ⟨Ld,3,none⟩=some (.int .i64 Oa):=(ga Vc.out 3).trans rfl;have dw:sn.cell? ⟨Ld,4,none⟩=some (.slice none 0 0):=(ga Vc.out 4).trans rfl;have Ds:=aa Vc.out 0;have Cs:=aa Vc.out 1;have jv:=aa Vc.out 2;have cv:=aa Vc.out 3;have av:=aa Vc.out 4;have Eo:sn.cell? ⟨Ia,0,none⟩=some (.slice none 0 0):=(ga Ba.out 0).trans rfl;have Co:sn.cell? ⟨Ia,1,none⟩=some (.int .i64 0):=(ga Ba.out 1).trans rfl;have Bo:sn.cell? ⟨Ia,2,none⟩=some (.int .i64 0):=(ga Ba.out 2).trans rfl;have Ao:sn.cell? ⟨Ia,3,none⟩=some (.int .i64 0):=(ga Ba.out 3).trans rfl;have zo:sn.cell? ⟨Ia,4,none⟩=some (.slice none 0 0):=(ga Ba.out 4).trans rfl;have qo:=aa Ba.out 0;have oo:=aa Ba.out 1;have mo:=aa Ba.out 2;have ko:=aa Ba.out 3;have jo:=aa Ba.out 4))
 refine bodyPost_ret (results_cell_row rfl _ _ Ia 30 #[.slice eu t104.length Vt,.int .i64 Ja,.int .i64 Ma,.int .i64 Oa,.slice FJ t107.length cJ] (0,0) _ rfl (by (with_reducible repeat (first|refine Ea ?_ _|refine Ga ?_|refine Da ?_ _));refine Db (cs:=#[.slice eu t104.length Vt,.int .i64 Ja,.int .i64 Ma,.int .i64 Oa,.slice none 0 0]) ?_ 4 _ rfl;(with_reducible repeat (first|refine Ea ?_ _|refine Ga ?_|refine Da ?_ _));refine Db (cs:=#[.slice eu t104.length Vt,.int .i64 Ja,.int .i64 Ma,.int .i64 0,.slice none 0 0]) ?_ 3 _ rfl;(with_reducible repeat (first|refine Ea ?_ _|refine Ga ?_|refine Da ?_ _));refine Db (cs:=#[.slice eu t104.length Vt,.int .i64 Ja,.int .i64 0,.int .i64 0,.slice none 0 0]) ?_ 2 _ rfl;(with_reducible repeat (first|refine Ea ?_ _|refine Ga ?_|refine Da ?_ _));refine Db (cs:=#[.slice eu t104.length Vt,.int .i64 0,.int .i64 0,.int .i64 0,.slice none 0 0]) ?_ 1 _ rfl;(with_reducible repeat (first|refine Ea ?_ _|refine Ga ?_|refine Da ?_ _));refine Db (cs:=#[.slice none 0 0,.int .i64 0,.int .i64 0,.int .i64 0,.slice none 0 0]) ?_ 0 _ rfl;(with_reducible repeat (first|refine Ea ?_ _|refine Ga ?_|refine Da ?_ _));refine Rb ?_ Wd.out _;(with_reducible repeat (first|refine Ea ?_ _|refine Ga ?_|refine Da ?_ _));exact Ba.out) Try.underlying30 rfl (by kernel_rfl)) rfl ?_
 exact ⟨_,_,by first|rfl|(simp [La,Ka] <;> rfl)|(simp [*,La,Ka] <;> rfl),by (with_reducible repeat (first|apply Kd.Qc|apply Kd.Pc|apply Kd.xd));exact Kd.ke (Kd.He (p:=⟨Ia,4,none⟩) (Kd.He (p:=⟨Ia,3,none⟩) (Kd.He (p:=⟨Ia,2,none⟩) (Kd.He (p:=⟨Ia,1,none⟩) (Kd.He (p:=⟨Ia,0,none⟩) (Kd.He (p:=⟨Ld,4,none⟩) (Kd.Rj (Kd.Rj Pp.out Vc.out (by decide)) Ba.out (by decide)) (fun _ hk=>hk.1.2) (.slice FJ t107.length cJ)) (fun _ hk=>hk.2) (.slice eu t104.length Vt)) (fun _ hk=>hk.2) (.int .i64 Ja)) (fun _ hk=>hk.2) (.int .i64 Ma)) (fun _ hk=>hk.2) (.int .i64 Oa)) (fun _ hk=>hk.2) (.slice FJ t107.length cJ)) (fun _ hk=>trivial),by (with_reducible repeat (first|apply Kd.ag|apply Kd.Zf|apply Kd.Jg));exact Kd.ur (Kd.Bi (p:=⟨Ia,4,none⟩) (Kd.Bi (p:=⟨Ia,3,none⟩) (Kd.Bi (p:=⟨Ia,2,none⟩) (Kd.Bi (p:=⟨Ia,1,none⟩) (Kd.Bi (p:=⟨Ia,0,none⟩) (Kd.Bi (p:=⟨Ld,4,none⟩) (Kd.qt (Kd.qt LO.out Vc.out (by decide)) Ba.out (by decide)) (fun _ hk=>hk.1.2) (.slice FJ t107.length cJ)) (fun _ hk=>hk.2) (.slice eu t104.length Vt)) (fun _ hk=>hk.2) (.int .i64 Ja)) (fun _ hk=>hk.2) (.int .i64 Ma)) (fun _ hk=>hk.2) (.int .i64 Oa)) (fun _ hk=>hk.2) (.slice FJ t107.length cJ)) (fun _ hk=>trivial),by repeat (first|(with_reducible first|exact HB.out|apply ia|apply ja|apply za|refine Aa ?_ Va.out|refine Aa ?_ Vb.out|refine Aa ?_ Zg.out)|exact HB.out)⟩
end Go.Proofs.Ytmifdccaajngcaa.P
end
section
namespace Go.Proofs.Ytmifdccaajngcaa.P
open Go.RowKit Go.Proofs.Ca.xb Go.Proofs.Ca.Xb Go.Proofs.Ca.ic
attribute [local go_sem] Vd Td we ue Dd Cd Ud Sd
set_option linter.unusedVariables false
set_option linter.unusedSimpArgs false
def Uc.l0:Nat→List Int→List Int→Int→Option (Bool)
 | 0,_,_,_=>none
 | k + 1,x0,x1,x5=>if x5 < (x0.length:Int) then (if 0 ≤ x5 then (if x5 < (x1.length:Int) then (if (rd x0 x5)=(rd x1 x5) then (Uc.l0 k x0 x1 (wrap64 (x5 + 1))) else (some false)) else (none)) else (none)) else (some true)
def Uc.f (k:Nat) (l0:List Int) (l1:List Int):Option (Bool):=if (l0.length:Int)=(l1.length:Int) then (Uc.l0 k l0 l1 0) else (some false)
theorem Uc.je:∀ k,(∀ y0 y1 y2,mc (Uc.l0 k y0 y1 y2) (Uc.l0 (k + 1) y0 y1 y2))
 | 0=>fun _ _ _ r h=>by simp [Uc.l0] at h
 | k + 1=>by
  have Lf:=Uc.je k
  ·intro y0 y1 y2
   unfold Uc.l0
   repeat' first
   | (with_reducible exact Lf _ _ _)
   | (with_reducible exact mc.refl _)
   | (with_reducible exact mc.none _)
   | (with_reducible refine mc.ite ?_ ?_)
   | (with_reducible refine mc.bind ?_ (fun _=>?_))
   | exact Lf _ _ _
   | exact mc.none _
   | refine mc.ite ?_ ?_
   | refine mc.bind ?_ (fun _=>?_)
theorem Uc.mono:∀ a0 a1 k,mc (Uc.f k a0 a1) (Uc.f (k + 1) a0 a1):=by
 intro a0 a1 k
 have Lf:=Uc.je k
 unfold Uc.f
 repeat' first
   | (with_reducible exact Lf _ _ _)
   | (with_reducible exact mc.refl _)
   | (with_reducible exact mc.none _)
   | (with_reducible refine mc.ite ?_ ?_)
   | (with_reducible refine mc.bind ?_ (fun _=>?_))
   | exact Lf _ _ _
   | exact mc.none _
   | refine mc.ite ?_ ?_
   | refine mc.bind ?_ (fun _=>?_)
set_option maxHeartbeats 8000000 in
set_option maxRecDepth 100000 in
theorem Uc.calls (k:Nat) (A0:Option Addr) (c0:Nat) (l0:List Int) (A1:Option Addr) (c1:Nat) (l1:List Int) (r:Bool) (w:World) (hr0:Kd.C (Kd.int .i64) w A0 l0.length l0) (hc0:l0.length ≤ c0) (En:Kd.C (Kd.int .i64) w A1 l1.length l1) (OJ:l1.length ≤ c1) (h:Uc.f k l0 l1=some r) :
  Calls Try.prog 20 #[.slice A0 l0.length c0,.slice A1 l1.length c1] w fun e w'=>e = .returned (.bool r)∧Cc w w':=by
 have Nq:=qa.mk hr0
 have fA:=qa.mk hc0
 clear hr0 hc0
 have PJ:=qa.mk En
 have HC1:=qa.mk OJ
 clear En OJ
 have H:(if (l0.length:Int)=(l1.length:Int) then (Uc.l0 k l0 l1 0) else (some false))=some r:=h
 clear h
 by_cases c3:(l0.length:Int)=(l1.length:Int)
 ·rw [if_pos c3] at H
  have Uh:((l0.length:Int) == (l1.length:Int))=true:=beq_iff_eq.mpr c3
  have Mq:((l0.length:Int) != (l1.length:Int))=false:=bne_eq_false_iff_eq.mpr c3
  have UA:(l0.length == l1.length)=true:=by first|simpa using c3|(simp at c3 ⊢;omega)
  clear c3
  have H':=qa.mk H
  clear H
  go_enter Try.func20,Try.ntmps20
  go_wp2
  repeat (go_quiet (fail);try go_wp2)
  go_loopg [5] k (fun kq v5 w'=>∃ (Ya:Int),v5 = .int .i64 Ya∧qa (Uc.l0 kq l0 l1 Ya=some r)∧qa (kq ≤ k)∧Cc w w')
  case atStart=>exact ⟨(0),(by first|rfl|(simp;done)|(simp [*];done)),H',⟨Nat.le_refl _⟩,by repeat (first|exact Cc.refl _|apply Cc.step)⟩
  case round =>
   clear H'
   try clear c1
   try clear c2
   try clear p2
   try clear c3
   try clear Uh
   try clear Mq
   try clear UA
   (try clear HA)
   (try clear We)
   obtain ⟨Ya,rfl,HA,We,⟨m1,rfl⟩⟩:=hrel
   cases gk with
   | zero=>exact absurd HA.out (by simp [Uc.l0])
   | succ k1 =>
    have H:=HA.out
    clear HA
    simp only [Uc.l0] at H
    by_cases c4:Ya < (l0.length:Int)
    ·rw [if_pos c4] at H
     have Mh:decide (Ya < (l0.length:Int))=true:=decide_eq_true c4
     clear c4
     by_cases c5:0 ≤ Ya
     ·rw [if_pos c5] at H
      have Hl:decide (0 ≤ Ya)=true:=decide_eq_true c5
      clear c5
      by_cases c6:Ya < (l1.length:Int)
      ·rw [if_pos c6] at H
       have rm:decide (Ya < (l1.length:Int))=true:=decide_eq_true c6
       clear c6
       by_cases c7:(rd l0 Ya)=(rd l1 Ya)
       ·rw [if_pos c7] at H
        have Wo:((rd l0 Ya) == (rd l1 Ya))=true:=beq_iff_eq.mpr c7
        have gx:((rd l0 Ya) != (rd l1 Ya))=false:=bne_eq_false_iff_eq.mpr c7
        clear c7
        have H':=qa.mk H
        clear H
        have Yf:0 ≤ (Ya:Int):=of_decide_eq_true (by first|(with_reducible assumption)|assumption)
        have Xf:Ya < (l0.length:Int):=of_decide_eq_true (by first|(with_reducible assumption)|assumption)
        obtain ⟨Ie,Xj,Zd⟩:=Kd.Lp Nq.out Ya Yf Xf
        cases Xj
        replace Yf:=eq_true Yf
        replace Xf:=eq_true Xf
        have ei:0 ≤ (Ya:Int):=of_decide_eq_true (by first|(with_reducible assumption)|assumption)
        have di:Ya < (l1.length:Int):=of_decide_eq_true (by first|(with_reducible assumption)|assumption)
        obtain ⟨Ue,sr,Ee⟩:=Kd.Lp PJ.out Ya ei di
        cases sr
        replace ei:=eq_true ei
        replace di:=eq_true di
        go_wp2
        repeat (go_quiet (fail);try go_wp2)
        go_roundg k1
        case measure=>have:=We.out;omega
        case rel=>exact ⟨(wrap64 (Ya + 1)),(by first|rfl|(simp;done)|(simp [*];done)),H',⟨by have:=We.out;omega⟩,by repeat (first|exact Cc.refl _|apply Cc.step)⟩
       ·rw [if_neg c7] at H
        have Wo:((rd l0 Ya) == (rd l1 Ya))=false:=beq_eq_false_iff_ne.mpr c7
        have gx:((rd l0 Ya) != (rd l1 Ya))=true:=bne_iff_ne.mpr c7
        obtain rfl:=Option.some.inj H
        have Yf:0 ≤ (Ya:Int):=of_decide_eq_true (by first|(with_reducible assumption)|assumption)
        have Xf:Ya < (l0.length:Int):=of_decide_eq_true (by first|(with_reducible assumption)|assumption)
        obtain ⟨Ie,Xj,Zd⟩:=Kd.Lp Nq.out Ya Yf Xf
        cases Xj
        replace Yf:=eq_true Yf
        replace Xf:=eq_true Xf
        have ei:0 ≤ (Ya:Int):=of_decide_eq_true (by first|(with_reducible assumption)|assumption)
        have di:Ya < (l1.length:Int):=of_decide_eq_true (by first|(with_reducible assumption)|assumption)
        obtain ⟨Ue,sr,Ee⟩:=Kd.Lp PJ.out Ya ei di
        cases sr
        replace ei:=eq_true ei
        replace di:=eq_true di
        go_wp2
        repeat (go_quiet (fail);try go_wp2)
        go_ret
        exact ⟨by first|rfl|(simp;done)|(simp [*];done),by repeat (first|exact Cc.refl _|apply Cc.step)⟩
      ·rw [if_neg c6] at H
       exact absurd H (by simp)
     ·rw [if_neg c5] at H
      exact absurd H (by simp)
    ·rw [if_neg c4] at H
     have Mh:decide (Ya < (l0.length:Int))=false:=decide_eq_false c4
     clear c4
     obtain rfl:=Option.some.inj H
     go_wp2
     repeat (go_quiet (fail);try go_wp2)
     go_ret
     exact ⟨by first|rfl|(simp;done)|(simp [*];done),by repeat (first|exact Cc.refl _|apply Cc.step)⟩
 ·rw [if_neg c3] at H
  have Uh:((l0.length:Int) == (l1.length:Int))=false:=beq_eq_false_iff_ne.mpr c3
  have Mq:((l0.length:Int) != (l1.length:Int))=true:=bne_iff_ne.mpr c3
  have UA:(l0.length == l1.length)=false:=by first|simpa using c3|(simp at c3 ⊢;omega)
  obtain rfl:=Option.some.inj H
  go_enter Try.func20,Try.ntmps20
  go_wp2
  repeat (go_quiet (fail);try go_wp2)
  go_ret
  exact ⟨by first|rfl|(simp;done)|(simp [*];done),by repeat (first|exact Cc.refl _|apply Cc.step)⟩
end Go.Proofs.Ytmifdccaajngcaa.P
end
section
namespace Go.Proofs.Ytmifdccaajngcaa.P
open Go.RowKit Go.Proofs.Ca.xb Go.Proofs.Ca.Xb Go.Proofs.Ca.ic
attribute [local go_sem] Vd Td we ue Dd Cd Ud Sd
set_option linter.unusedVariables false
set_option linter.unusedSimpArgs false
def Rh.f (Ec:Int) (Ja:Int) (Ma:Int) (Oa:Int) (fc:Int) (qd:Int) (ld:ByteArray) (jc:Int) (Lb:Int) (Sb:Int) (Ub:Int) (Fc:Int) (Bd:Int) (Rd:ByteArray):Option (Bool):=if Ec=jc then (if Ja=Lb then (if Ma=Sb then (if Oa=Ub then (if fc=Fc then (if qd=Bd then (if ld.toList=Rd.toList then (some true) else (some false)) else (some false)) else (some false)) else (some false)) else (some false)) else (some false)) else (some false)
set_option maxHeartbeats 8000000 in
set_option maxRecDepth 100000 in
theorem Rh.calls (Ec:Int) (Ja:Int) (Ma:Int) (Oa:Int) (fc:Int) (qd:Int) (ld:ByteArray) (jc:Int) (Lb:Int) (Sb:Int) (Ub:Int) (Fc:Int) (Bd:Int) (Rd:ByteArray) (r:Bool) (w:World) (h:Rh.f Ec Ja Ma Oa fc qd ld jc Lb Sb Ub Fc Bd Rd=some r) :
  Calls Try.prog 137 #[.agg #[.int .i64 Ec,.int .i64 Ja,.int .i64 Ma,.int .i64 Oa,.int .i64 fc,.int .i64 qd,.string ld],.agg #[.int .i64 jc,.int .i64 Lb,.int .i64 Sb,.int .i64 Ub,.int .i64 Fc,.int .i64 Bd,.string Rd]] w fun e w'=>e = .returned (.bool r)∧Below w.heap.size w w':=by
 have BA:=Try.underlying70
 have HB:=qa.mk (Below.refl w.heap.size w)
 have H:(if Ec=jc then (if Ja=Lb then (if Ma=Sb then (if Oa=Ub then (if fc=Fc then (if qd=Bd then (if ld.toList=Rd.toList then (some true) else (some false)) else (some false)) else (some false)) else (some false)) else (some false)) else (some false)) else (some false))=some r:=h
 clear h
 by_cases c3:Ec=jc
 ·rw [if_pos c3] at H
  have Uh:(Ec == jc)=true:=beq_iff_eq.mpr c3
  have Mq:(Ec != jc)=false:=bne_eq_false_iff_eq.mpr c3
  clear c3
  by_cases c4:Ja=Lb
  ·rw [if_pos c4] at H
   have Mh:(Ja == Lb)=true:=beq_iff_eq.mpr c4
   have yC:(Ja != Lb)=false:=bne_eq_false_iff_eq.mpr c4
   clear c4
   by_cases c5:Ma=Sb
   ·rw [if_pos c5] at H
    have Hl:(Ma == Sb)=true:=beq_iff_eq.mpr c5
    have Yt:(Ma != Sb)=false:=bne_eq_false_iff_eq.mpr c5
    clear c5
    by_cases c6:Oa=Ub
    ·rw [if_pos c6] at H
     have rm:(Oa == Ub)=true:=beq_iff_eq.mpr c6
     have jx:(Oa != Ub)=false:=bne_eq_false_iff_eq.mpr c6
     clear c6
     by_cases c7:fc=Fc
     ·rw [if_pos c7] at H
      have Wo:(fc == Fc)=true:=beq_iff_eq.mpr c7
      have gx:(fc != Fc)=false:=bne_eq_false_iff_eq.mpr c7
      clear c7
      by_cases c8:qd=Bd
      ·rw [if_pos c8] at H
       have Mn:(qd == Bd)=true:=beq_iff_eq.mpr c8
       have Xt:(qd != Bd)=false:=bne_eq_false_iff_eq.mpr c8
       clear c8
       by_cases c9:ld.toList=Rd.toList
       ·rw [if_pos c9] at H
        have xC:(ld.toList == Rd.toList)=true:=beq_iff_eq.mpr c9
        have dJ:(ld.toList != Rd.toList)=false:=bne_eq_false_iff_eq.mpr c9
        clear c9
        obtain rfl:=Option.some.inj H
        go_enter Try.func137,Try.ntmps137
        go_wp2_with (first|((with_reducible refine Mb (N:=2) rfl ?_);refine Jb ?hg (N:=2) ?hd (cs:=#[.int .i64 Ec,.int .i64 Ja,.int .i64 Ma,.int .i64 Oa,.int .i64 fc,.int .i64 qd,.string ld]) (t:=70) ?hr ?_;(case hd=>rfl);(case hg=>rfl);(case hr=>first|(go_simp;done)|(go_simp;rfl));intro Fa hg Qo Qb hb;have Pb:=qa.mk (Pa (by repeat (first|(with_reducible first|exact HB.out|apply ia|apply ja|apply za)|exact HB.out)) hb);have Wb:=qa.mk (Qb);have nc:=qa.mk ((by rw [hg];exact (Na (by repeat (first|(with_reducible first|exact HB.out|apply ia|apply ja|apply za)|exact HB.out))):w.heap.size ≤ Fa));have Nc:=qa.mk ((by rw [hg];exact (Na (by repeat (first|(with_reducible first|exact HB.out|apply ia|apply ja|apply za)|exact HB.out))):w.heap.size ≤ Fa));clear HB;have HB:=Pb;have ua:=Wb;have Nd:=nc;have Va:=Nc;clear Pb Wb nc Nc;clear hb Qb hg)|((with_reducible refine Mb (N:=3) rfl ?_);refine Jb ?hg (N:=3) ?hd (cs:=#[.int .i64 jc,.int .i64 Lb,.int .i64 Sb,.int .i64 Ub,.int .i64 Fc,.int .i64 Bd,.string Rd]) (t:=70) ?hr ?_;(case hd=>rfl);(case hg=>rfl);(case hr=>first|(go_simp;done)|(go_simp;rfl));intro Ia hg ri Qb hb;have Pb:=qa.mk (Wa (g:=Fa) (o:=.cells #[.int .i64 Ec,.int .i64 Ja,.int .i64 Ma,.int .i64 Oa,.int .i64 fc,.int .i64 qd,.string ld] 70 (0,0)) (by (with_reducible repeat (first|refine Ea ?_ _|refine Ga ?_|refine Da ?_ _));exact ua.out) hb);have Wb:=qa.mk (Pa (by repeat (first|(with_reducible first|exact HB.out|apply ia|apply ja|apply za|refine Aa ?_ Va.out)|exact HB.out)) hb);have nc:=qa.mk (Qb);have Nc:=qa.mk ((by rw [hg];exact (Na (by repeat (first|(with_reducible first|exact HB.out|apply ia|apply ja|apply za|refine Aa ?_ Va.out)|exact HB.out))):w.heap.size ≤ Ia));have qe:=qa.mk ((by rw [hg];exact (Na (by repeat (first|(with_reducible first|exact HB.out|apply ia|apply ja|apply za|refine Aa ?_ Va.out)|exact HB.out))):w.heap.size ≤ Ia));have lf:=qa.mk ((by rw [hg];exact Nat.ne_of_lt (Ac (g:=Fa) (o:=.cells #[.int .i64 Ec,.int .i64 Ja,.int .i64 Ma,.int .i64 Oa,.int .i64 fc,.int .i64 qd,.string ld] 70 (0,0)) (by (with_reducible repeat (first|refine Ea ?_ _|refine Ga ?_|refine Da ?_ _));exact ua.out)):Fa ≠ Ia));have Hf:=qa.mk ((by rw [hg];exact Nat.ne_of_gt (Ac (g:=Fa) (o:=.cells #[.int .i64 Ec,.int .i64 Ja,.int .i64 Ma,.int .i64 Oa,.int .i64 fc,.int .i64 qd,.string ld] 70 (0,0)) (by (with_reducible repeat (first|refine Ea ?_ _|refine Ga ?_|refine Da ?_ _));exact ua.out)):Ia ≠ Fa));clear ua;clear HB;have ua:=Pb;have HB:=Wb;have Ba:=nc;have Je:=Nc;have Vb:=qe;have Sa:=lf;have qb:=Hf;clear Pb Wb nc Nc qe lf Hf;clear hb Qb hg;have gI:=Sa.out;have dI:=qb.out;have Lj:ri.cell? ⟨Fa,0,none⟩=some (.int .i64 Ec):=(ga ua.out 0).trans rfl;have Kj:ri.cell? ⟨Fa,1,none⟩=some (.int .i64 Ja):=(ga ua.out 1).trans rfl;have Gq:ri.cell? ⟨Fa,2,none⟩=some (.int .i64 Ma):=(ga ua.out 2).trans rfl;have Fq:ri.cell? ⟨Fa,3,none⟩=some (.int .i64 Oa):=(ga ua.out 3).trans rfl;have Dq:ri.cell? ⟨Fa,4,none⟩=some (.int .i64 fc):=(ga ua.out 4).trans rfl;have sN:ri.cell? ⟨Fa,5,none⟩=some (.int .i64 qd):=(ga ua.out 5).trans rfl;have rN:ri.cell? ⟨Fa,6,none⟩=some (.string ld):=(ga ua.out 6).trans rfl;have Jj:=aa ua.out 0;have Ij:=aa ua.out 1;have pq:=aa ua.out 2;have oq:=aa ua.out 3;have mq:=aa ua.out 4;have NL:=aa ua.out 5;have ML:=aa ua.out 6;have Gl:ri.cell? ⟨Ia,0,none⟩=some (.int .i64 jc):=(ga Ba.out 0).trans rfl;have Fl:ri.cell? ⟨Ia,1,none⟩=some (.int .i64 Lb):=(ga Ba.out 1).trans rfl;have Wm:ri.cell? ⟨Ia,2,none⟩=some (.int .i64 Sb):=(ga Ba.out 2).trans rfl;have Vm:ri.cell? ⟨Ia,3,none⟩=some (.int .i64 Ub):=(ga Ba.out 3).trans rfl;have Um:ri.cell? ⟨Ia,4,none⟩=some (.int .i64 Fc):=(ga Ba.out 4).trans rfl;have X8:ri.cell? ⟨Ia,5,none⟩=some (.int .i64 Bd):=(ga Ba.out 5).trans rfl;have W8:ri.cell? ⟨Ia,6,none⟩=some (.string Rd):=(ga Ba.out 6).trans rfl;have El:=aa Ba.out 0;have Dl:=aa Ba.out 1;have Jm:=aa Ba.out 2;have Im:=aa Ba.out 3;have Gm:=aa Ba.out 4;have J3:=aa Ba.out 5;have I3:=aa Ba.out 6))
        go_ret
        exact ⟨by first|rfl|(simp [La,Ka] <;> rfl)|(simp [*,La,Ka] <;> rfl),by repeat (first|(with_reducible first|exact HB.out|apply ia|apply ja|apply za|refine Aa ?_ Va.out|refine Aa ?_ Vb.out)|exact HB.out)⟩
       ·rw [if_neg c9] at H
        have xC:(ld.toList == Rd.toList)=false:=beq_eq_false_iff_ne.mpr c9
        have dJ:(ld.toList != Rd.toList)=true:=bne_iff_ne.mpr c9
        obtain rfl:=Option.some.inj H
        go_enter Try.func137,Try.ntmps137
        go_wp2_with (first|((with_reducible refine Mb (N:=2) rfl ?_);refine Jb ?hg (N:=2) ?hd (cs:=#[.int .i64 Ec,.int .i64 Ja,.int .i64 Ma,.int .i64 Oa,.int .i64 fc,.int .i64 qd,.string ld]) (t:=70) ?hr ?_;(case hd=>rfl);(case hg=>rfl);(case hr=>first|(go_simp;done)|(go_simp;rfl));intro Fa hg sn Qb hb;have Pb:=qa.mk (Pa (by repeat (first|(with_reducible first|exact HB.out|apply ia|apply ja|apply za)|exact HB.out)) hb);have Wb:=qa.mk (Qb);have nc:=qa.mk ((by rw [hg];exact (Na (by repeat (first|(with_reducible first|exact HB.out|apply ia|apply ja|apply za)|exact HB.out))):w.heap.size ≤ Fa));have Nc:=qa.mk ((by rw [hg];exact (Na (by repeat (first|(with_reducible first|exact HB.out|apply ia|apply ja|apply za)|exact HB.out))):w.heap.size ≤ Fa));clear HB;have HB:=Pb;have ua:=Wb;have Nd:=nc;have Va:=Nc;clear Pb Wb nc Nc;clear hb Qb hg)|((with_reducible refine Mb (N:=3) rfl ?_);refine Jb ?hg (N:=3) ?hd (cs:=#[.int .i64 jc,.int .i64 Lb,.int .i64 Sb,.int .i64 Ub,.int .i64 Fc,.int .i64 Bd,.string Rd]) (t:=70) ?hr ?_;(case hd=>rfl);(case hg=>rfl);(case hr=>first|(go_simp;done)|(go_simp;rfl));intro Ia hg Dw Qb hb;have Pb:=qa.mk (Wa (g:=Fa) (o:=.cells #[.int .i64 Ec,.int .i64 Ja,.int .i64 Ma,.int .i64 Oa,.int .i64 fc,.int .i64 qd,.string ld] 70 (0,0)) (by (with_reducible repeat (first|refine Ea ?_ _|refine Ga ?_|refine Da ?_ _));exact ua.out) hb);have Wb:=qa.mk (Pa (by repeat (first|(with_reducible first|exact HB.out|apply ia|apply ja|apply za|refine Aa ?_ Va.out)|exact HB.out)) hb);have nc:=qa.mk (Qb);have Nc:=qa.mk ((by rw [hg];exact (Na (by repeat (first|(with_reducible first|exact HB.out|apply ia|apply ja|apply za|refine Aa ?_ Va.out)|exact HB.out))):w.heap.size ≤ Ia));have qe:=qa.mk ((by rw [hg];exact (Na (by repeat (first|(with_reducible first|exact HB.out|apply ia|apply ja|apply za|refine Aa ?_ Va.out)|exact HB.out))):w.heap.size ≤ Ia));have lf:=qa.mk ((by rw [hg];exact Nat.ne_of_lt (Ac (g:=Fa) (o:=.cells #[.int .i64 Ec,.int .i64 Ja,.int .i64 Ma,.int .i64 Oa,.int .i64 fc,.int .i64 qd,.string ld] 70 (0,0)) (by (with_reducible repeat (first|refine Ea ?_ _|refine Ga ?_|refine Da ?_ _));exact ua.out)):Fa ≠ Ia));have Hf:=qa.mk ((by rw [hg];exact Nat.ne_of_gt (Ac (g:=Fa) (o:=.cells #[.int .i64 Ec,.int .i64 Ja,.int .i64 Ma,.int .i64 Oa,.int .i64 fc,.int .i64 qd,.string ld] 70 (0,0)) (by (with_reducible repeat (first|refine Ea ?_ _|refine Ga ?_|refine Da ?_ _));exact ua.out)):Ia ≠ Fa));clear ua;clear HB;have ua:=Pb;have HB:=Wb;have Ba:=nc;have Je:=Nc;have Vb:=qe;have Sa:=lf;have qb:=Hf;clear Pb Wb nc Nc qe lf Hf;clear hb Qb hg;have aad:=Sa.out;have mac:=qb.out;have Eo:Dw.cell? ⟨Fa,0,none⟩=some (.int .i64 Ec):=(ga ua.out 0).trans rfl;have Co:Dw.cell? ⟨Fa,1,none⟩=some (.int .i64 Ja):=(ga ua.out 1).trans rfl;have Bo:Dw.cell? ⟨Fa,2,none⟩=some (.int .i64 Ma):=(ga ua.out 2).trans rfl;have Ao:Dw.cell? ⟨Fa,3,none⟩=some (.int .i64 Oa):=(ga ua.out 3).trans rfl;have zo:Dw.cell? ⟨Fa,4,none⟩=some (.int .i64 fc):=(ga ua.out 4).trans rfl;have V8:Dw.cell? ⟨Fa,5,none⟩=some (.int .i64 qd):=(ga ua.out 5).trans rfl;have U8:Dw.cell? ⟨Fa,6,none⟩=some (.string ld):=(ga ua.out 6).trans rfl;have qo:=aa ua.out 0;have oo:=aa ua.out 1;have mo:=aa ua.out 2;have ko:=aa ua.out 3;have jo:=aa ua.out 4;have G3:=aa ua.out 5;have F3:=aa ua.out 6;have TF:Dw.cell? ⟨Ia,0,none⟩=some (.int .i64 jc):=(ga Ba.out 0).trans rfl;have SF:Dw.cell? ⟨Ia,1,none⟩=some (.int .i64 Lb):=(ga Ba.out 1).trans rfl;have RF:Dw.cell? ⟨Ia,2,none⟩=some (.int .i64 Sb):=(ga Ba.out 2).trans rfl;have QF:Dw.cell? ⟨Ia,3,none⟩=some (.int .i64 Ub):=(ga Ba.out 3).trans rfl;have PF:Dw.cell? ⟨Ia,4,none⟩=some (.int .i64 Fc):=(ga Ba.out 4).trans rfl;have T8:Dw.cell? ⟨Ia,5,none⟩=some (.int .i64 Bd):=(ga Ba.out 5).trans rfl;have S8:Dw.cell? ⟨Ia,6,none⟩=some (.string Rd):=(ga Ba.out 6).trans rfl;have xE:=aa Ba.out 0;have wE:=aa Ba.out 1;have vE:=aa Ba.out 2;have uE:=aa Ba.out 3;have tE:=aa Ba.out 4;have E3:=aa Ba.out 5;have D3:=aa Ba.out 6))
        go_ret
        exact ⟨by first|rfl|(simp [La,Ka] <;> rfl)|(simp [*,La,Ka] <;> rfl),by repeat (first|(with_reducible first|exact HB.out|apply ia|apply ja|apply za|refine Aa ?_ Va.out|refine Aa ?_ Vb.out)|exact HB.out)⟩
      ·rw [if_neg c8] at H
       have Mn:(qd == Bd)=false:=beq_eq_false_iff_ne.mpr c8
       have Xt:(qd != Bd)=true:=bne_iff_ne.mpr c8
       obtain rfl:=Option.some.inj H
       go_enter Try.func137,Try.ntmps137
       go_wp2_with (first|((with_reducible refine Mb (N:=2) rfl ?_);refine Jb ?hg (N:=2) ?hd (cs:=#[.int .i64 Ec,.int .i64 Ja,.int .i64 Ma,.int .i64 Oa,.int .i64 fc,.int .i64 qd,.string ld]) (t:=70) ?hr ?_;(case hd=>rfl);(case hg=>rfl);(case hr=>first|(go_simp;done)|(go_simp;rfl));intro Fa hg w20 Qb hb;have Pb:=qa.mk (Pa (by repeat (first|(with_reducible first|exact HB.out|apply ia|apply ja|apply za)|exact HB.out)) hb);have Wb:=qa.mk (Qb);have nc:=qa.mk ((by rw [hg];exact (Na (by repeat (first|(with_reducible first|exact HB.out|apply ia|apply ja|apply za)|exact HB.out))):w.heap.size ≤ Fa));have Nc:=qa.mk ((by rw [hg];exact (Na (by repeat (first|(with_reducible first|exact HB.out|apply ia|apply ja|apply za)|exact HB.out))):w.heap.size ≤ Fa));clear HB;have HB:=Pb;have ua:=Wb;have Nd:=nc;have Va:=Nc;clear Pb Wb nc Nc;clear hb Qb hg)|((with_reducible refine Mb (N:=3) rfl ?_);refine Jb ?hg (N:=3) ?hd (cs:=#[.int .i64 jc,.int .i64 Lb,.int .i64 Sb,.int .i64 Ub,.int .i64 Fc,.int .i64 Bd,.string Rd]) (t:=70) ?hr ?_;(case hd=>rfl);(case hg=>rfl);(case hr=>first|(go_simp;done)|(go_simp;rfl));intro Ia hg oB Qb hb;have Pb:=qa.mk (Wa (g:=Fa) (o:=.cells #[.int .i64 Ec,.int .i64 Ja,.int .i64 Ma,.int .i64 Oa,.int .i64 fc,.int .i64 qd,.string ld] 70 (0,0)) (by (with_reducible repeat (first|refine Ea ?_ _|refine Ga ?_|refine Da ?_ _));exact ua.out) hb);have Wb:=qa.mk (Pa (by repeat (first|(with_reducible first|exact HB.out|apply ia|apply ja|apply za|refine Aa ?_ Va.out)|exact HB.out)) hb);have nc:=qa.mk (Qb);have Nc:=qa.mk ((by rw [hg];exact (Na (by repeat (first|(with_reducible first|exact HB.out|apply ia|apply ja|apply za|refine Aa ?_ Va.out)|exact HB.out))):w.heap.size ≤ Ia));have qe:=qa.mk ((by rw [hg];exact (Na (by repeat (first|(with_reducible first|exact HB.out|apply ia|apply ja|apply za|refine Aa ?_ Va.out)|exact HB.out))):w.heap.size ≤ Ia));have lf:=qa.mk ((by rw [hg];exact Nat.ne_of_lt (Ac (g:=Fa) (o:=.cells #[.int .i64 Ec,.int .i64 Ja,.int .i64 Ma,.int .i64 Oa,.int .i64 fc,.int .i64 qd,.string ld] 70 (0,0)) (by (with_reducible repeat (first|refine Ea ?_ _|refine Ga ?_|refine Da ?_ _));exact ua.out)):Fa ≠ Ia));have Hf:=qa.mk ((by rw [hg];exact Nat.ne_of_gt (Ac (g:=Fa) (o:=.cells #[.int .i64 Ec,.int .i64 Ja,.int .i64 Ma,.int .i64 Oa,.int .i64 fc,.int .i64 qd,.string ld] 70 (0,0)) (by (with_reducible repeat (first|refine Ea ?_ _|refine Ga ?_|refine Da ?_ _));exact ua.out)):Ia ≠ Fa));clear ua;clear HB;have ua:=Pb;have HB:=Wb;have Ba:=nc;have Je:=Nc;have Vb:=qe;have Sa:=lf;have qb:=Hf;clear Pb Wb nc Nc qe lf Hf;clear hb Qb hg;have dO:=Sa.out;have YN:=qb.out;have Mi:oB.cell? ⟨Fa,0,none⟩=some (.int .i64 Ec):=(ga ua.out 0).trans rfl;have Li:oB.cell? ⟨Fa,1,none⟩=some (.int .i64 Ja):=(ga ua.out 1).trans rfl;have Tm:oB.cell? ⟨Fa,2,none⟩=some (.int .i64 Ma):=(ga ua.out 2).trans rfl;have Sm:oB.cell? ⟨Fa,3,none⟩=some (.int .i64 Oa):=(ga ua.out 3).trans rfl;have Rm:oB.cell? ⟨Fa,4,none⟩=some (.int .i64 fc):=(ga ua.out 4).trans rfl;have O8:oB.cell? ⟨Fa,5,none⟩=some (.int .i64 qd):=(ga ua.out 5).trans rfl;have N8:oB.cell? ⟨Fa,6,none⟩=some (.string ld):=(ga ua.out 6).trans rfl;have Ii:=aa ua.out 0;have Hi:=aa ua.out 1;have Fm:=aa ua.out 2;have Em:=aa ua.out 3;have Dm:=aa ua.out 4;have m3:=aa ua.out 5;have Z2:=aa ua.out 6;have nk:oB.cell? ⟨Ia,0,none⟩=some (.int .i64 jc):=(ga Ba.out 0).trans rfl;have jk:oB.cell? ⟨Ia,1,none⟩=some (.int .i64 Lb):=(ga Ba.out 1).trans rfl;have Cq:oB.cell? ⟨Ia,2,none⟩=some (.int .i64 Sb):=(ga Ba.out 2).trans rfl;have Bq:oB.cell? ⟨Ia,3,none⟩=some (.int .i64 Ub):=(ga Ba.out 3).trans rfl;have Aq:oB.cell? ⟨Ia,4,none⟩=some (.int .i64 Fc):=(ga Ba.out 4).trans rfl;have M8:oB.cell? ⟨Ia,5,none⟩=some (.int .i64 Bd):=(ga Ba.out 5).trans rfl;have L8:oB.cell? ⟨Ia,6,none⟩=some (.string Rd):=(ga Ba.out 6).trans rfl;have ck:=aa Ba.out 0;have bk:=aa Ba.out 1;have lq:=aa Ba.out 2;have jq:=aa Ba.out 3;have iq:=aa Ba.out 4;have Y2:=aa Ba.out 5;have X2:=aa Ba.out 6))
       go_ret
       exact ⟨by first|rfl|(simp [La,Ka] <;> rfl)|(simp [*,La,Ka] <;> rfl),by repeat (first|(with_reducible first|exact HB.out|apply ia|apply ja|apply za|refine Aa ?_ Va.out|refine Aa ?_ Vb.out)|exact HB.out)⟩
     ·rw [if_neg c7] at H
      have Wo:(fc == Fc)=false:=beq_eq_false_iff_ne.mpr c7
      have gx:(fc != Fc)=true:=bne_iff_ne.mpr c7
      obtain rfl:=Option.some.inj H
      go_enter Try.func137,Try.ntmps137
      go_wp2_with (first|((with_reducible refine Mb (N:=2) rfl ?_);refine Jb ?hg (N:=2) ?hd (cs:=#[.int .i64 Ec,.int .i64 Ja,.int .i64 Ma,.int .i64 Oa,.int .i64 fc,.int .i64 qd,.string ld]) (t:=70) ?hr ?_;(case hd=>rfl);(case hg=>rfl);(case hr=>first|(go_simp;done)|(go_simp;rfl));intro Fa hg w25 Qb hb;have Pb:=qa.mk (Pa (by repeat (first|(with_reducible first|exact HB.out|apply ia|apply ja|apply za)|exact HB.out)) hb);have Wb:=qa.mk (Qb);have nc:=qa.mk ((by rw [hg];exact (Na (by repeat (first|(with_reducible first|exact HB.out|apply ia|apply ja|apply za)|exact HB.out))):w.heap.size ≤ Fa));have Nc:=qa.mk ((by rw [hg];exact (Na (by repeat (first|(with_reducible first|exact HB.out|apply ia|apply ja|apply za)|exact HB.out))):w.heap.size ≤ Fa));clear HB;have HB:=Pb;have ua:=Wb;have Nd:=nc;have Va:=Nc;clear Pb Wb nc Nc;clear hb Qb hg)|((with_reducible refine Mb (N:=3) rfl ?_);refine Jb ?hg (N:=3) ?hd (cs:=#[.int .i64 jc,.int .i64 Lb,.int .i64 Sb,.int .i64 Ub,.int .i64 Fc,.int .i64 Bd,.string Rd]) (t:=70) ?hr ?_;(case hd=>rfl);(case hg=>rfl);(case hr=>first|(go_simp;done)|(go_simp;rfl));intro Ia hg Sq Qb hb;have Pb:=qa.mk (Wa (g:=Fa) (o:=.cells #[.int .i64 Ec,.int .i64 Ja,.int .i64 Ma,.int .i64 Oa,.int .i64 fc,.int .i64 qd,.string ld] 70 (0,0)) (by (with_reducible repeat (first|refine Ea ?_ _|refine Ga ?_|refine Da ?_ _));exact ua.out) hb);have Wb:=qa.mk (Pa (by repeat (first|(with_reducible first|exact HB.out|apply ia|apply ja|apply za|refine Aa ?_ Va.out)|exact HB.out)) hb);have nc:=qa.mk (Qb);have Nc:=qa.mk ((by rw [hg];exact (Na (by repeat (first|(with_reducible first|exact HB.out|apply ia|apply ja|apply za|refine Aa ?_ Va.out)|exact HB.out))):w.heap.size ≤ Ia));have qe:=qa.mk ((by rw [hg];exact (Na (by repeat (first|(with_reducible first|exact HB.out|apply ia|apply ja|apply za|refine Aa ?_ Va.out)|exact HB.out))):w.heap.size ≤ Ia));have lf:=qa.mk ((by rw [hg];exact Nat.ne_of_lt (Ac (g:=Fa) (o:=.cells #[.int .i64 Ec,.int .i64 Ja,.int .i64 Ma,.int .i64 Oa,.int .i64 fc,.int .i64 qd,.string ld] 70 (0,0)) (by (with_reducible repeat (first|refine Ea ?_ _|refine Ga ?_|refine Da ?_ _));exact ua.out)):Fa ≠ Ia));have Hf:=qa.mk ((by rw [hg];exact Nat.ne_of_gt (Ac (g:=Fa) (o:=.cells #[.int .i64 Ec,.int .i64 Ja,.int .i64 Ma,.int .i64 Oa,.int .i64 fc,.int .i64 qd,.string ld] 70 (0,0)) (by (with_reducible repeat (first|refine Ea ?_ _|refine Ga ?_|refine Da ?_ _));exact ua.out)):Ia ≠ Fa));clear ua;clear HB;have ua:=Pb;have HB:=Wb;have Ba:=nc;have Je:=Nc;have Vb:=qe;have Sa:=lf;have qb:=Hf;clear Pb Wb nc Nc qe lf Hf;clear hb Qb hg;have cO:=Sa.out;have XN:=qb.out;have lN:Sq.cell? ⟨Fa,0,none⟩=some (.int .i64 Ec):=(ga ua.out 0).trans rfl;have kN:Sq.cell? ⟨Fa,1,none⟩=some (.int .i64 Ja):=(ga ua.out 1).trans rfl;have jN:Sq.cell? ⟨Fa,2,none⟩=some (.int .i64 Ma):=(ga ua.out 2).trans rfl;have iN:Sq.cell? ⟨Fa,3,none⟩=some (.int .i64 Oa):=(ga ua.out 3).trans rfl;have gN:Sq.cell? ⟨Fa,4,none⟩=some (.int .i64 fc):=(ga ua.out 4).trans rfl;have K8:Sq.cell? ⟨Fa,5,none⟩=some (.int .i64 qd):=(ga ua.out 5).trans rfl;have J8:Sq.cell? ⟨Fa,6,none⟩=some (.string ld):=(ga ua.out 6).trans rfl;have GL:=aa ua.out 0;have FL:=aa ua.out 1;have EL:=aa ua.out 2;have DL:=aa ua.out 3;have CL:=aa ua.out 4;have V2:=aa ua.out 5;have U2:=aa ua.out 6;have Qm:Sq.cell? ⟨Ia,0,none⟩=some (.int .i64 jc):=(ga Ba.out 0).trans rfl;have Pm:Sq.cell? ⟨Ia,1,none⟩=some (.int .i64 Lb):=(ga Ba.out 1).trans rfl;have Jz:Sq.cell? ⟨Ia,2,none⟩=some (.int .i64 Sb):=(ga Ba.out 2).trans rfl;have Iz:Sq.cell? ⟨Ia,3,none⟩=some (.int .i64 Ub):=(ga Ba.out 3).trans rfl;have Hz:Sq.cell? ⟨Ia,4,none⟩=some (.int .i64 Fc):=(ga Ba.out 4).trans rfl;have I8:Sq.cell? ⟨Ia,5,none⟩=some (.int .i64 Bd):=(ga Ba.out 5).trans rfl;have H8:Sq.cell? ⟨Ia,6,none⟩=some (.string Rd):=(ga Ba.out 6).trans rfl;have Cm:=aa Ba.out 0;have Bm:=aa Ba.out 1;have gz:=aa Ba.out 2;have fz:=aa Ba.out 3;have ez:=aa Ba.out 4;have T2:=aa Ba.out 5;have R2:=aa Ba.out 6))
      go_ret
      exact ⟨by first|rfl|(simp [La,Ka] <;> rfl)|(simp [*,La,Ka] <;> rfl),by repeat (first|(with_reducible first|exact HB.out|apply ia|apply ja|apply za|refine Aa ?_ Va.out|refine Aa ?_ Vb.out)|exact HB.out)⟩
    ·rw [if_neg c6] at H
     have rm:(Oa == Ub)=false:=beq_eq_false_iff_ne.mpr c6
     have jx:(Oa != Ub)=true:=bne_iff_ne.mpr c6
     obtain rfl:=Option.some.inj H
     go_enter Try.func137,Try.ntmps137
     go_wp2_with (first|((with_reducible refine Mb (N:=2) rfl ?_);refine Jb ?hg (N:=2) ?hd (cs:=#[.int .i64 Ec,.int .i64 Ja,.int .i64 Ma,.int .i64 Oa,.int .i64 fc,.int .i64 qd,.string ld]) (t:=70) ?hr ?_;(case hd=>rfl);(case hg=>rfl);(case hr=>first|(go_simp;done)|(go_simp;rfl));intro Fa hg Lt Qb hb;have Pb:=qa.mk (Pa (by repeat (first|(with_reducible first|exact HB.out|apply ia|apply ja|apply za)|exact HB.out)) hb);have Wb:=qa.mk (Qb);have nc:=qa.mk ((by rw [hg];exact (Na (by repeat (first|(with_reducible first|exact HB.out|apply ia|apply ja|apply za)|exact HB.out))):w.heap.size ≤ Fa));have Nc:=qa.mk ((by rw [hg];exact (Na (by repeat (first|(with_reducible first|exact HB.out|apply ia|apply ja|apply za)|exact HB.out))):w.heap.size ≤ Fa));clear HB;have HB:=Pb;have ua:=Wb;have Nd:=nc;have Va:=Nc;clear Pb Wb nc Nc;clear hb Qb hg)|((with_reducible refine Mb (N:=3) rfl ?_);refine Jb ?hg (N:=3) ?hd (cs:=#[.int .i64 jc,.int .i64 Lb,.int .i64 Sb,.int .i64 Ub,.int .i64 Fc,.int .i64 Bd,.string Rd]) (t:=70) ?hr ?_;(case hd=>rfl);(case hg=>rfl);(case hr=>first|(go_simp;done)|(go_simp;rfl));intro Ia hg gB Qb hb;have Pb:=qa.mk (Wa (g:=Fa) (o:=.cells #[.int .i64 Ec,.int .i64 Ja,.int .i64 Ma,.int .i64 Oa,.int .i64 fc,.int .i64 qd,.string ld] 70 (0,0)) (by (with_reducible repeat (first|refine Ea ?_ _|refine Ga ?_|refine Da ?_ _));exact ua.out) hb);have Wb:=qa.mk (Pa (by repeat (first|(with_reducible first|exact HB.out|apply ia|apply ja|apply za|refine Aa ?_ Va.out)|exact HB.out)) hb);have nc:=qa.mk (Qb);have Nc:=qa.mk ((by rw [hg];exact (Na (by repeat (first|(with_reducible first|exact HB.out|apply ia|apply ja|apply za|refine Aa ?_ Va.out)|exact HB.out))):w.heap.size ≤ Ia));have qe:=qa.mk ((by rw [hg];exact (Na (by repeat (first|(with_reducible first|exact HB.out|apply ia|apply ja|apply za|refine Aa ?_ Va.out)|exact HB.out))):w.heap.size ≤ Ia));have lf:=qa.mk ((by rw [hg];exact Nat.ne_of_lt (Ac (g:=Fa) (o:=.cells #[.int .i64 Ec,.int .i64 Ja,.int .i64 Ma,.int .i64 Oa,.int .i64 fc,.int .i64 qd,.string ld] 70 (0,0)) (by (with_reducible repeat (first|refine Ea ?_ _|refine Ga ?_|refine Da ?_ _));exact ua.out)):Fa ≠ Ia));have Hf:=qa.mk ((by rw [hg];exact Nat.ne_of_gt (Ac (g:=Fa) (o:=.cells #[.int .i64 Ec,.int .i64 Ja,.int .i64 Ma,.int .i64 Oa,.int .i64 fc,.int .i64 qd,.string ld] 70 (0,0)) (by (with_reducible repeat (first|refine Ea ?_ _|refine Ga ?_|refine Da ?_ _));exact ua.out)):Ia ≠ Fa));clear ua;clear HB;have ua:=Pb;have HB:=Wb;have Ba:=nc;have Je:=Nc;have Vb:=qe;have Sa:=lf;have qb:=Hf;clear Pb Wb nc Nc qe lf Hf;clear hb Qb hg;have JS:=Sa.out;have mS:=qb.out;have Pv:gB.cell? ⟨Fa,0,none⟩=some (.int .i64 Ec):=(ga ua.out 0).trans rfl;have Ov:gB.cell? ⟨Fa,1,none⟩=some (.int .i64 Ja):=(ga ua.out 1).trans rfl;have E8:gB.cell? ⟨Fa,2,none⟩=some (.int .i64 Ma):=(ga ua.out 2).trans rfl;have D8:gB.cell? ⟨Fa,3,none⟩=some (.int .i64 Oa):=(ga ua.out 3).trans rfl;have C8:gB.cell? ⟨Fa,4,none⟩=some (.int .i64 fc):=(ga ua.out 4).trans rfl;have z8:gB.cell? ⟨Fa,5,none⟩=some (.int .i64 qd):=(ga ua.out 5).trans rfl;have r8:gB.cell? ⟨Fa,6,none⟩=some (.string ld):=(ga ua.out 6).trans rfl;have Nu:=aa ua.out 0;have Mu:=aa ua.out 1;have O2:=aa ua.out 2;have N2:=aa ua.out 3;have K2:=aa ua.out 4;have J2:=aa ua.out 5;have I2:=aa ua.out 6;have FF:gB.cell? ⟨Ia,0,none⟩=some (.int .i64 jc):=(ga Ba.out 0).trans rfl;have EF:gB.cell? ⟨Ia,1,none⟩=some (.int .i64 Lb):=(ga Ba.out 1).trans rfl;have DF:gB.cell? ⟨Ia,2,none⟩=some (.int .i64 Sb):=(ga Ba.out 2).trans rfl;have CF:gB.cell? ⟨Ia,3,none⟩=some (.int .i64 Ub):=(ga Ba.out 3).trans rfl;have BF:gB.cell? ⟨Ia,4,none⟩=some (.int .i64 Fc):=(ga Ba.out 4).trans rfl;have AF:gB.cell? ⟨Ia,5,none⟩=some (.int .i64 Bd):=(ga Ba.out 5).trans rfl;have zF:gB.cell? ⟨Ia,6,none⟩=some (.string Rd):=(ga Ba.out 6).trans rfl;have mE:=aa Ba.out 0;have lE:=aa Ba.out 1;have kE:=aa Ba.out 2;have jE:=aa Ba.out 3;have iE:=aa Ba.out 4;have gE:=aa Ba.out 5;have fE:=aa Ba.out 6))
     go_ret
     exact ⟨by first|rfl|(simp [La,Ka] <;> rfl)|(simp [*,La,Ka] <;> rfl),by repeat (first|(with_reducible first|exact HB.out|apply ia|apply ja|apply za|refine Aa ?_ Va.out|refine Aa ?_ Vb.out)|exact HB.out)⟩
   ·rw [if_neg c5] at H
    have Hl:(Ma == Sb)=false:=beq_eq_false_iff_ne.mpr c5
    have Yt:(Ma != Sb)=true:=bne_iff_ne.mpr c5
    obtain rfl:=Option.some.inj H
    go_enter Try.func137,Try.ntmps137
    go_wp2_with (first|((with_reducible refine Mb (N:=2) rfl ?_);refine Jb ?hg (N:=2) ?hd (cs:=#[.int .i64 Ec,.int .i64 Ja,.int .i64 Ma,.int .i64 Oa,.int .i64 fc,.int .i64 qd,.string ld]) (t:=70) ?hr ?_;(case hd=>rfl);(case hg=>rfl);(case hr=>first|(go_simp;done)|(go_simp;rfl));intro Fa hg w35 Qb hb;have Pb:=qa.mk (Pa (by repeat (first|(with_reducible first|exact HB.out|apply ia|apply ja|apply za)|exact HB.out)) hb);have Wb:=qa.mk (Qb);have nc:=qa.mk ((by rw [hg];exact (Na (by repeat (first|(with_reducible first|exact HB.out|apply ia|apply ja|apply za)|exact HB.out))):w.heap.size ≤ Fa));have Nc:=qa.mk ((by rw [hg];exact (Na (by repeat (first|(with_reducible first|exact HB.out|apply ia|apply ja|apply za)|exact HB.out))):w.heap.size ≤ Fa));clear HB;have HB:=Pb;have ua:=Wb;have Nd:=nc;have Va:=Nc;clear Pb Wb nc Nc;clear hb Qb hg)|((with_reducible refine Mb (N:=3) rfl ?_);refine Jb ?hg (N:=3) ?hd (cs:=#[.int .i64 jc,.int .i64 Lb,.int .i64 Sb,.int .i64 Ub,.int .i64 Fc,.int .i64 Bd,.string Rd]) (t:=70) ?hr ?_;(case hd=>rfl);(case hg=>rfl);(case hr=>first|(go_simp;done)|(go_simp;rfl));intro Ia hg fB Qb hb;have Pb:=qa.mk (Wa (g:=Fa) (o:=.cells #[.int .i64 Ec,.int .i64 Ja,.int .i64 Ma,.int .i64 Oa,.int .i64 fc,.int .i64 qd,.string ld] 70 (0,0)) (by (with_reducible repeat (first|refine Ea ?_ _|refine Ga ?_|refine Da ?_ _));exact ua.out) hb);have Wb:=qa.mk (Pa (by repeat (first|(with_reducible first|exact HB.out|apply ia|apply ja|apply za|refine Aa ?_ Va.out)|exact HB.out)) hb);have nc:=qa.mk (Qb);have Nc:=qa.mk ((by rw [hg];exact (Na (by repeat (first|(with_reducible first|exact HB.out|apply ia|apply ja|apply za|refine Aa ?_ Va.out)|exact HB.out))):w.heap.size ≤ Ia));have qe:=qa.mk ((by rw [hg];exact (Na (by repeat (first|(with_reducible first|exact HB.out|apply ia|apply ja|apply za|refine Aa ?_ Va.out)|exact HB.out))):w.heap.size ≤ Ia));have lf:=qa.mk ((by rw [hg];exact Nat.ne_of_lt (Ac (g:=Fa) (o:=.cells #[.int .i64 Ec,.int .i64 Ja,.int .i64 Ma,.int .i64 Oa,.int .i64 fc,.int .i64 qd,.string ld] 70 (0,0)) (by (with_reducible repeat (first|refine Ea ?_ _|refine Ga ?_|refine Da ?_ _));exact ua.out)):Fa ≠ Ia));have Hf:=qa.mk ((by rw [hg];exact Nat.ne_of_gt (Ac (g:=Fa) (o:=.cells #[.int .i64 Ec,.int .i64 Ja,.int .i64 Ma,.int .i64 Oa,.int .i64 fc,.int .i64 qd,.string ld] 70 (0,0)) (by (with_reducible repeat (first|refine Ea ?_ _|refine Ga ?_|refine Da ?_ _));exact ua.out)):Ia ≠ Fa));clear ua;clear HB;have ua:=Pb;have HB:=Wb;have Ba:=nc;have Je:=Nc;have Vb:=qe;have Sa:=lf;have qb:=Hf;clear Pb Wb nc Nc qe lf Hf;clear hb Qb hg;have DS:=Sa.out;have jS:=qb.out;have Bz:fB.cell? ⟨Fa,0,none⟩=some (.int .i64 Ec):=(ga ua.out 0).trans rfl;have Az:fB.cell? ⟨Fa,1,none⟩=some (.int .i64 Ja):=(ga ua.out 1).trans rfl;have zz:fB.cell? ⟨Fa,2,none⟩=some (.int .i64 Ma):=(ga ua.out 2).trans rfl;have yz:fB.cell? ⟨Fa,3,none⟩=some (.int .i64 Oa):=(ga ua.out 3).trans rfl;have xz:fB.cell? ⟨Fa,4,none⟩=some (.int .i64 fc):=(ga ua.out 4).trans rfl;have sF:fB.cell? ⟨Fa,5,none⟩=some (.int .i64 qd):=(ga ua.out 5).trans rfl;have rF:fB.cell? ⟨Fa,6,none⟩=some (.string ld):=(ga ua.out 6).trans rfl;have Yy:=aa ua.out 0;have Xy:=aa ua.out 1;have Wy:=aa ua.out 2;have Vy:=aa ua.out 3;have Uy:=aa ua.out 4;have XD:=aa ua.out 5;have WD:=aa ua.out 6;have qF:fB.cell? ⟨Ia,0,none⟩=some (.int .i64 jc):=(ga Ba.out 0).trans rfl;have pF:fB.cell? ⟨Ia,1,none⟩=some (.int .i64 Lb):=(ga Ba.out 1).trans rfl;have oF:fB.cell? ⟨Ia,2,none⟩=some (.int .i64 Sb):=(ga Ba.out 2).trans rfl;have nF:fB.cell? ⟨Ia,3,none⟩=some (.int .i64 Ub):=(ga Ba.out 3).trans rfl;have mF:fB.cell? ⟨Ia,4,none⟩=some (.int .i64 Fc):=(ga Ba.out 4).trans rfl;have o8:fB.cell? ⟨Ia,5,none⟩=some (.int .i64 Bd):=(ga Ba.out 5).trans rfl;have n8:fB.cell? ⟨Ia,6,none⟩=some (.string Rd):=(ga Ba.out 6).trans rfl;have VD:=aa Ba.out 0;have UD:=aa Ba.out 1;have TD:=aa Ba.out 2;have SD:=aa Ba.out 3;have RD:=aa Ba.out 4;have E2:=aa Ba.out 5;have D2:=aa Ba.out 6))
    go_ret
    exact ⟨by first|rfl|(simp [La,Ka] <;> rfl)|(simp [*,La,Ka] <;> rfl),by repeat (first|(with_reducible first|exact HB.out|apply ia|apply ja|apply za|refine Aa ?_ Va.out|refine Aa ?_ Vb.out)|exact HB.out)⟩
  ·rw [if_neg c4] at H
   have Mh:(Ja == Lb)=false:=beq_eq_false_iff_ne.mpr c4
   have yC:(Ja != Lb)=true:=bne_iff_ne.mpr c4
   obtain rfl:=Option.some.inj H
   go_enter Try.func137,Try.ntmps137
   go_wp2_with (first|((with_reducible refine Mb (N:=2) rfl ?_);refine Jb ?hg (N:=2) ?hd (cs:=#[.int .i64 Ec,.int .i64 Ja,.int .i64 Ma,.int .i64 Oa,.int .i64 fc,.int .i64 qd,.string ld]) (t:=70) ?hr ?_;(case hd=>rfl);(case hg=>rfl);(case hr=>first|(go_simp;done)|(go_simp;rfl));intro Fa hg w40 Qb hb;have Pb:=qa.mk (Pa (by repeat (first|(with_reducible first|exact HB.out|apply ia|apply ja|apply za)|exact HB.out)) hb);have Wb:=qa.mk (Qb);have nc:=qa.mk ((by rw [hg];exact (Na (by repeat (first|(with_reducible first|exact HB.out|apply ia|apply ja|apply za)|exact HB.out))):w.heap.size ≤ Fa));have Nc:=qa.mk ((by rw [hg];exact (Na (by repeat (first|(with_reducible first|exact HB.out|apply ia|apply ja|apply za)|exact HB.out))):w.heap.size ≤ Fa));clear HB;have HB:=Pb;have ua:=Wb;have Nd:=nc;have Va:=Nc;clear Pb Wb nc Nc;clear hb Qb hg)|((with_reducible refine Mb (N:=3) rfl ?_);refine Jb ?hg (N:=3) ?hd (cs:=#[.int .i64 jc,.int .i64 Lb,.int .i64 Sb,.int .i64 Ub,.int .i64 Fc,.int .i64 Bd,.string Rd]) (t:=70) ?hr ?_;(case hd=>rfl);(case hg=>rfl);(case hr=>first|(go_simp;done)|(go_simp;rfl));intro Ia hg nB Qb hb;have Pb:=qa.mk (Wa (g:=Fa) (o:=.cells #[.int .i64 Ec,.int .i64 Ja,.int .i64 Ma,.int .i64 Oa,.int .i64 fc,.int .i64 qd,.string ld] 70 (0,0)) (by (with_reducible repeat (first|refine Ea ?_ _|refine Ga ?_|refine Da ?_ _));exact ua.out) hb);have Wb:=qa.mk (Pa (by repeat (first|(with_reducible first|exact HB.out|apply ia|apply ja|apply za|refine Aa ?_ Va.out)|exact HB.out)) hb);have nc:=qa.mk (Qb);have Nc:=qa.mk ((by rw [hg];exact (Na (by repeat (first|(with_reducible first|exact HB.out|apply ia|apply ja|apply za|refine Aa ?_ Va.out)|exact HB.out))):w.heap.size ≤ Ia));have qe:=qa.mk ((by rw [hg];exact (Na (by repeat (first|(with_reducible first|exact HB.out|apply ia|apply ja|apply za|refine Aa ?_ Va.out)|exact HB.out))):w.heap.size ≤ Ia));have lf:=qa.mk ((by rw [hg];exact Nat.ne_of_lt (Ac (g:=Fa) (o:=.cells #[.int .i64 Ec,.int .i64 Ja,.int .i64 Ma,.int .i64 Oa,.int .i64 fc,.int .i64 qd,.string ld] 70 (0,0)) (by (with_reducible repeat (first|refine Ea ?_ _|refine Ga ?_|refine Da ?_ _));exact ua.out)):Fa ≠ Ia));have Hf:=qa.mk ((by rw [hg];exact Nat.ne_of_gt (Ac (g:=Fa) (o:=.cells #[.int .i64 Ec,.int .i64 Ja,.int .i64 Ma,.int .i64 Oa,.int .i64 fc,.int .i64 qd,.string ld] 70 (0,0)) (by (with_reducible repeat (first|refine Ea ?_ _|refine Ga ?_|refine Da ?_ _));exact ua.out)):Ia ≠ Fa));clear ua;clear HB;have ua:=Pb;have HB:=Wb;have Ba:=nc;have Je:=Nc;have Vb:=qe;have Sa:=lf;have qb:=Hf;clear Pb Wb nc Nc qe lf Hf;clear hb Qb hg;have Qac:=Sa.out;have bac:=qb.out;have MM:nB.cell? ⟨Fa,0,none⟩=some (.int .i64 Ec):=(ga ua.out 0).trans rfl;have LM:nB.cell? ⟨Fa,1,none⟩=some (.int .i64 Ja):=(ga ua.out 1).trans rfl;have KM:nB.cell? ⟨Fa,2,none⟩=some (.int .i64 Ma):=(ga ua.out 2).trans rfl;have JM:nB.cell? ⟨Fa,3,none⟩=some (.int .i64 Oa):=(ga ua.out 3).trans rfl;have IM:nB.cell? ⟨Fa,4,none⟩=some (.int .i64 fc):=(ga ua.out 4).trans rfl;have m8:nB.cell? ⟨Fa,5,none⟩=some (.int .i64 qd):=(ga ua.out 5).trans rfl;have l8:nB.cell? ⟨Fa,6,none⟩=some (.string ld):=(ga ua.out 6).trans rfl;have gL:=aa ua.out 0;have fL:=aa ua.out 1;have eL:=aa ua.out 2;have dL:=aa ua.out 3;have cL:=aa ua.out 4;have C2:=aa ua.out 5;have z2:=aa ua.out 6;have HM:nB.cell? ⟨Ia,0,none⟩=some (.int .i64 jc):=(ga Ba.out 0).trans rfl;have GM:nB.cell? ⟨Ia,1,none⟩=some (.int .i64 Lb):=(ga Ba.out 1).trans rfl;have FM:nB.cell? ⟨Ia,2,none⟩=some (.int .i64 Sb):=(ga Ba.out 2).trans rfl;have EM:nB.cell? ⟨Ia,3,none⟩=some (.int .i64 Ub):=(ga Ba.out 3).trans rfl;have DM:nB.cell? ⟨Ia,4,none⟩=some (.int .i64 Fc):=(ga Ba.out 4).trans rfl;have j8:nB.cell? ⟨Ia,5,none⟩=some (.int .i64 Bd):=(ga Ba.out 5).trans rfl;have e8:nB.cell? ⟨Ia,6,none⟩=some (.string Rd):=(ga Ba.out 6).trans rfl;have bL:=aa Ba.out 0;have ZK:=aa Ba.out 1;have YK:=aa Ba.out 2;have XK:=aa Ba.out 3;have WK:=aa Ba.out 4;have Z1:=aa Ba.out 5;have Y1:=aa Ba.out 6))
   go_ret
   exact ⟨by first|rfl|(simp [La,Ka] <;> rfl)|(simp [*,La,Ka] <;> rfl),by repeat (first|(with_reducible first|exact HB.out|apply ia|apply ja|apply za|refine Aa ?_ Va.out|refine Aa ?_ Vb.out)|exact HB.out)⟩
 ·rw [if_neg c3] at H
  have Uh:(Ec == jc)=false:=beq_eq_false_iff_ne.mpr c3
  have Mq:(Ec != jc)=true:=bne_iff_ne.mpr c3
  obtain rfl:=Option.some.inj H
  go_enter Try.func137,Try.ntmps137
  go_wp2_with (first|((with_reducible refine Mb (N:=2) rfl ?_);refine Jb ?hg (N:=2) ?hd (cs:=#[.int .i64 Ec,.int .i64 Ja,.int .i64 Ma,.int .i64 Oa,.int .i64 fc,.int .i64 qd,.string ld]) (t:=70) ?hr ?_;(case hd=>rfl);(case hg=>rfl);(case hr=>first|(go_simp;done)|(go_simp;rfl));intro Fa hg w45 Qb hb;have Pb:=qa.mk (Pa (by repeat (first|(with_reducible first|exact HB.out|apply ia|apply ja|apply za)|exact HB.out)) hb);have Wb:=qa.mk (Qb);have nc:=qa.mk ((by rw [hg];exact (Na (by repeat (first|(with_reducible first|exact HB.out|apply ia|apply ja|apply za)|exact HB.out))):w.heap.size ≤ Fa));have Nc:=qa.mk ((by rw [hg];exact (Na (by repeat (first|(with_reducible first|exact HB.out|apply ia|apply ja|apply za)|exact HB.out))):w.heap.size ≤ Fa));clear HB;have HB:=Pb;have ua:=Wb;have Nd:=nc;have Va:=Nc;clear Pb Wb nc Nc;clear hb Qb hg)|((with_reducible refine Mb (N:=3) rfl ?_);refine Jb ?hg (N:=3) ?hd (cs:=#[.int .i64 jc,.int .i64 Lb,.int .i64 Sb,.int .i64 Ub,.int .i64 Fc,.int .i64 Bd,.string Rd]) (t:=70) ?hr ?_;(case hd=>rfl);(case hg=>rfl);(case hr=>first|(go_simp;done)|(go_simp;rfl));intro Ia hg wu Qb hb;have Pb:=qa.mk (Wa (g:=Fa) (o:=.cells #[.int .i64 Ec,.int .i64 Ja,.int .i64 Ma,.int .i64 Oa,.int .i64 fc,.int .i64 qd,.string ld] 70 (0,0)) (by (with_reducible repeat (first|refine Ea ?_ _|refine Ga ?_|refine Da ?_ _));exact ua.out) hb);have Wb:=qa.mk (Pa (by repeat (first|(with_reducible first|exact HB.out|apply ia|apply ja|apply za|refine Aa ?_ Va.out)|exact HB.out)) hb);have nc:=qa.mk (Qb);have Nc:=qa.mk ((by rw [hg];exact (Na (by repeat (first|(with_reducible first|exact HB.out|apply ia|apply ja|apply za|refine Aa ?_ Va.out)|exact HB.out))):w.heap.size ≤ Ia));have qe:=qa.mk ((by rw [hg];exact (Na (by repeat (first|(with_reducible first|exact HB.out|apply ia|apply ja|apply za|refine Aa ?_ Va.out)|exact HB.out))):w.heap.size ≤ Ia));have lf:=qa.mk ((by rw [hg];exact Nat.ne_of_lt (Ac (g:=Fa) (o:=.cells #[.int .i64 Ec,.int .i64 Ja,.int .i64 Ma,.int .i64 Oa,.int .i64 fc,.int .i64 qd,.string ld] 70 (0,0)) (by (with_reducible repeat (first|refine Ea ?_ _|refine Ga ?_|refine Da ?_ _));exact ua.out)):Fa ≠ Ia));have Hf:=qa.mk ((by rw [hg];exact Nat.ne_of_gt (Ac (g:=Fa) (o:=.cells #[.int .i64 Ec,.int .i64 Ja,.int .i64 Ma,.int .i64 Oa,.int .i64 fc,.int .i64 qd,.string ld] 70 (0,0)) (by (with_reducible repeat (first|refine Ea ?_ _|refine Ga ?_|refine Da ?_ _));exact ua.out)):Ia ≠ Fa));clear ua;clear HB;have ua:=Pb;have HB:=Wb;have Ba:=nc;have Je:=Nc;have Vb:=qe;have Sa:=lf;have qb:=Hf;clear Pb Wb nc Nc qe lf Hf;clear hb Qb hg;have ZN:=Sa.out;have VN:=qb.out;have Js:wu.cell? ⟨Fa,0,none⟩=some (.int .i64 Ec):=(ga ua.out 0).trans rfl;have Hs:wu.cell? ⟨Fa,1,none⟩=some (.int .i64 Ja):=(ga ua.out 1).trans rfl;have wz:wu.cell? ⟨Fa,2,none⟩=some (.int .i64 Ma):=(ga ua.out 2).trans rfl;have vz:wu.cell? ⟨Fa,3,none⟩=some (.int .i64 Oa):=(ga ua.out 3).trans rfl;have uz:wu.cell? ⟨Fa,4,none⟩=some (.int .i64 fc):=(ga ua.out 4).trans rfl;have CM:wu.cell? ⟨Fa,5,none⟩=some (.int .i64 qd):=(ga ua.out 5).trans rfl;have BM:wu.cell? ⟨Fa,6,none⟩=some (.string ld):=(ga ua.out 6).trans rfl;have Nr:=aa ua.out 0;have Mr:=aa ua.out 1;have Ty:=aa ua.out 2;have Sy:=aa ua.out 3;have Ry:=aa ua.out 4;have VK:=aa ua.out 5;have UK:=aa ua.out 6;have zM:wu.cell? ⟨Ia,0,none⟩=some (.int .i64 jc):=(ga Ba.out 0).trans rfl;have yM:wu.cell? ⟨Ia,1,none⟩=some (.int .i64 Lb):=(ga Ba.out 1).trans rfl;have xM:wu.cell? ⟨Ia,2,none⟩=some (.int .i64 Sb):=(ga Ba.out 2).trans rfl;have wM:wu.cell? ⟨Ia,3,none⟩=some (.int .i64 Ub):=(ga Ba.out 3).trans rfl;have vM:wu.cell? ⟨Ia,4,none⟩=some (.int .i64 Fc):=(ga Ba.out 4).trans rfl;have T7:wu.cell? ⟨Ia,5,none⟩=some (.int .i64 Bd):=(ga Ba.out 5).trans rfl;have S7:wu.cell? ⟨Ia,6,none⟩=some (.string Rd):=(ga Ba.out 6).trans rfl;have TK:=aa Ba.out 0;have SK:=aa Ba.out 1;have RK:=aa Ba.out 2;have QK:=aa Ba.out 3;have PK:=aa Ba.out 4;have Q1:=aa Ba.out 5;have P1:=aa Ba.out 6))
  go_ret
  exact ⟨by first|rfl|(simp [La,Ka] <;> rfl)|(simp [*,La,Ka] <;> rfl),by repeat (first|(with_reducible first|exact HB.out|apply ia|apply ja|apply za|refine Aa ?_ Va.out|refine Aa ?_ Vb.out)|exact HB.out)⟩
end Go.Proofs.Ytmifdccaajngcaa.P
end
section
namespace Go.Proofs.Ytmifdccaajngcaa.P
open Go.RowKit Go.Proofs.Ca.xb Go.Proofs.Ca.Xb Go.Proofs.Ca.ic
attribute [local go_sem] Vd Td we ue Dd Cd Ud Sd
set_option linter.unusedVariables false
set_option linter.unusedSimpArgs false
def Ob.l0:Nat→List (Jh)→List (Jh)→Int→Option (Bool)
 | 0,_,_,_=>none
 | k + 1,x0,x1,x5=>if x5 < (x0.length:Int) then (if 0 ≤ x5 then (if x5 < (x1.length:Int) then ((Rh.f ((zb x0 x5).f0) ((zb x0 x5).f1) ((zb x0 x5).f2) ((zb x0 x5).f3) ((zb x0 x5).f4) ((zb x0 x5).f5) ((zb x0 x5).f6) ((zb x1 x5).f0) ((zb x1 x5).f1) ((zb x1 x5).f2) ((zb x1 x5).f3) ((zb x1 x5).f4) ((zb x1 x5).f5) ((zb x1 x5).f6)).bind fun t103=>(if t103=true then (Ob.l0 k x0 x1 (wrap64 (x5 + 1))) else (some false))) else (none)) else (none)) else (some true)
def Ob.f (k:Nat) (l0:List (Jh)) (l1:List (Jh)):Option (Bool):=if (l0.length:Int)=(l1.length:Int) then (Ob.l0 k l0 l1 0) else (some false)
theorem Ob.je:∀ k,(∀ y0 y1 y2,mc (Ob.l0 k y0 y1 y2) (Ob.l0 (k + 1) y0 y1 y2))
 | 0=>fun _ _ _ r h=>by simp [Ob.l0] at h
 | k + 1=>by
  have Lf:=Ob.je k
  ·intro y0 y1 y2
   unfold Ob.l0
   repeat' first
   | (with_reducible exact Lf _ _ _)
   | (with_reducible exact mc.refl _)
   | (with_reducible exact mc.none _)
   | (with_reducible refine mc.ite ?_ ?_)
   | (with_reducible refine mc.bind ?_ (fun _=>?_))
   | exact Lf _ _ _
   | exact mc.none _
   | refine mc.ite ?_ ?_
   | refine mc.bind ?_ (fun _=>?_)
theorem Ob.mono:∀ a0 a1 k,mc (Ob.f k a0 a1) (Ob.f (k + 1) a0 a1):=by
 intro a0 a1 k
 have Lf:=Ob.je k
 unfold Ob.f
 repeat' first
   | (with_reducible exact Lf _ _ _)
   | (with_reducible exact mc.refl _)
   | (with_reducible exact mc.none _)
   | (with_reducible refine mc.ite ?_ ?_)
   | (with_reducible refine mc.bind ?_ (fun _=>?_))
   | exact Lf _ _ _
   | exact mc.none _
   | refine mc.ite ?_ ?_
   | refine mc.bind ?_ (fun _=>?_)
def Ob.T6:Bool × List (List Nat × List Nat):=(true,[([],[]),([],[]),([0,1],[0,1]),([2],[2]),([],[]),([],[]),([4,5],[4,5]),([6],[6]),([3,7],[3,7]),([8],[8])])
def Ob.B6:List Nat:=[0,0,3,7,0,0,48,112,255,511]
theorem Ob.tH:Jk .any (opsOf Try.f120 6)=Ob.T6:=by kernel_rfl
theorem Ob.WA:Rk Ob.T6.2 Ob.B6=true:=by kernel_rfl
set_option maxHeartbeats 8000000 in
set_option maxRecDepth 100000 in
theorem Ob.calls (k:Nat) (A0:Option Addr) (c0:Nat) (l0:List (Jh)) (A1:Option Addr) (c1:Nat) (l1:List (Jh)) (r:Bool) (w:World) (hr0:Kd.C Ro w A0 l0.length l0) (hc0:l0.length ≤ c0) (En:Kd.C Ro w A1 l1.length l1) (OJ:l1.length ≤ c1) (h:Ob.f k l0 l1=some r) :
  Calls Try.prog 120 #[.slice A0 l0.length c0,.slice A1 l1.length c1] w fun e w'=>e = .returned (.bool r)∧Below w.heap.size w w':=by
 have BA:=Try.underlying70
 have Nq:=qa.mk hr0
 have fA:=qa.mk hc0
 clear hr0 hc0
 have PJ:=qa.mk En
 have HC1:=qa.mk OJ
 clear En OJ
 have HB:=qa.mk (Below.refl w.heap.size w)
 have H:(if (l0.length:Int)=(l1.length:Int) then (Ob.l0 k l0 l1 0) else (some false))=some r:=h
 clear h
 by_cases c3:(l0.length:Int)=(l1.length:Int)
 ·rw [if_pos c3] at H
  have Uh:((l0.length:Int) == (l1.length:Int))=true:=beq_iff_eq.mpr c3
  have Mq:((l0.length:Int) != (l1.length:Int))=false:=bne_eq_false_iff_eq.mpr c3
  have UA:(l0.length == l1.length)=true:=by first|simpa using c3|(simp at c3 ⊢;omega)
  clear c3
  have H':=qa.mk H
  clear H
  go_enter Try.func120,Try.ntmps120
  go_wp2
  go_loopg [5] k (fun kq v5 w'=>∃ (Ya:Int),v5 = .int .i64 Ya∧qa (Ob.l0 kq l0 l1 Ya=some r)∧qa (kq ≤ k)∧qa (Below w.heap.size w w'))
  case atStart=>exact ⟨(0),(by first|rfl|(simp;done)|(simp [*];done)),H',⟨Nat.le_refl _⟩,⟨by repeat (first|(with_reducible first|exact HB.out|apply ia|apply ja|apply za)|exact HB.out)⟩⟩
  case round =>
   clear H'
   try clear c1
   try clear p2
   try clear c3
   try clear Uh
   try clear Mq
   try clear UA
   (try clear HA)
   (try clear We)
   (try clear HB)
   obtain ⟨Ya,rfl,HA,We,HB⟩:=hrel
   cases gk with
   | zero=>exact absurd HA.out (by simp [Ob.l0])
   | succ k1 =>
    have H:=HA.out
    clear HA
    simp only [Ob.l0] at H
    by_cases c4:Ya < (l0.length:Int)
    ·rw [if_pos c4] at H
     have Mh:decide (Ya < (l0.length:Int))=true:=decide_eq_true c4
     clear c4
     by_cases c5:0 ≤ Ya
     ·rw [if_pos c5] at H
      have Hl:decide (0 ≤ Ya)=true:=decide_eq_true c5
      clear c5
      by_cases c6:Ya < (l1.length:Int)
      ·rw [if_pos c6] at H
       have rm:decide (Ya < (l1.length:Int))=true:=decide_eq_true c6
       clear c6
       replace H:=Option.bind_eq_some_iff.mp H
       obtain ⟨t103,lB,H⟩:=H
       replace H:(if t103=true then (Ob.l0 k1 l0 l1 (wrap64 (Ya + 1))) else (some false))=some r:=H
       have A7:=qa.mk lB
       clear lB
       by_cases c8:t103=true
       ·subst c8
        have H1:(Ob.l0 k1 l0 l1 (wrap64 (Ya + 1)))=some r:=by rw [if_pos rfl] at H;exact H
        clear H
        have H:=H1
        clear H1
        have H':=qa.mk H
        clear H
        try go_wp2
        have Pb:=qa.mk (za HB.out)
        clear HB
        have HB:=Pb
        clear Pb
        have Yf:0 ≤ (Ya:Int):=of_decide_eq_true (by first|(with_reducible assumption)|assumption)
        have Xf:Ya < (l0.length:Int):=of_decide_eq_true (by first|(with_reducible assumption)|assumption)
        obtain ⟨Ie,Xj,Zd,Be,Ae,ze,ye,wg,ug⟩:=Jo Nq.out Ya Yf Xf
        have Bl:=ug
        have Cl:=wg
        have Cg:=ye
        have Dg:=ze
        have Eg:=Ae
        have Fg:=Be
        have Gg:=Zd
        cases Xj
        replace Zd:=(HB.out.cell (World.block_lt_of_cell? w _ Zd)).trans Zd
        replace Be:=(HB.out.cell (World.block_lt_of_cell? w _ Be)).trans Be
        replace Ae:=(HB.out.cell (World.block_lt_of_cell? w _ Ae)).trans Ae
        replace ze:=(HB.out.cell (World.block_lt_of_cell? w _ ze)).trans ze
        replace ye:=(HB.out.cell (World.block_lt_of_cell? w _ ye)).trans ye
        replace wg:=(HB.out.cell (World.block_lt_of_cell? w _ wg)).trans wg
        replace ug:=(HB.out.cell (World.block_lt_of_cell? w _ ug)).trans ug
        replace Yf:=eq_true Yf
        replace Xf:=eq_true Xf
        have ei:0 ≤ (Ya:Int):=of_decide_eq_true (by first|(with_reducible assumption)|assumption)
        have di:Ya < (l1.length:Int):=of_decide_eq_true (by first|(with_reducible assumption)|assumption)
        obtain ⟨Ue,sr,Ee,Ff,Qf,Pf,Nf,Dj,Cj⟩:=Jo PJ.out Ya ei di
        have zl:=Cj
        have Al:=Dj
        have xg:=Nf
        have yg:=Pf
        have zg:=Qf
        have Ag:=Ff
        have Bg:=Ee
        cases sr
        replace Ee:=(HB.out.cell (World.block_lt_of_cell? w _ Ee)).trans Ee
        replace Ff:=(HB.out.cell (World.block_lt_of_cell? w _ Ff)).trans Ff
        replace Qf:=(HB.out.cell (World.block_lt_of_cell? w _ Qf)).trans Qf
        replace Pf:=(HB.out.cell (World.block_lt_of_cell? w _ Pf)).trans Pf
        replace Nf:=(HB.out.cell (World.block_lt_of_cell? w _ Nf)).trans Nf
        replace Dj:=(HB.out.cell (World.block_lt_of_cell? w _ Dj)).trans Dj
        replace Cj:=(HB.out.cell (World.block_lt_of_cell? w _ Cj)).trans Cj
        replace ei:=eq_true ei
        replace di:=eq_true di
        refine Pg (n:=10) (S:=fun w'=>w'.cell? (Ie.add ((Ya).toNat * 7))=some (.int .i64 ((zb l0 Ya).f0))∧w'.cell? ⟨(Ie.add ((Ya).toNat * 7)).block,(Ie.add ((Ya).toNat * 7)).off + 1,none⟩=some (.int .i64 ((zb l0 Ya).f1))∧w'.cell? ⟨(Ie.add ((Ya).toNat * 7)).block,(Ie.add ((Ya).toNat * 7)).off + 2,none⟩=some (.int .i64 ((zb l0 Ya).f2))∧w'.cell? ⟨(Ie.add ((Ya).toNat * 7)).block,(Ie.add ((Ya).toNat * 7)).off + 3,none⟩=some (.int .i64 ((zb l0 Ya).f3))∧w'.cell? ⟨(Ie.add ((Ya).toNat * 7)).block,(Ie.add ((Ya).toNat * 7)).off + 4,none⟩=some (.int .i64 ((zb l0 Ya).f4))∧w'.cell? ⟨(Ie.add ((Ya).toNat * 7)).block,(Ie.add ((Ya).toNat * 7)).off + 5,none⟩=some (.int .i64 ((zb l0 Ya).f5))∧w'.cell? ⟨(Ie.add ((Ya).toNat * 7)).block,(Ie.add ((Ya).toNat * 7)).off + 6,none⟩=some (.string ((zb l0 Ya).f6))∧w'.cell? (Ue.add ((Ya).toNat * 7))=some (.int .i64 ((zb l1 Ya).f0))∧w'.cell? ⟨(Ue.add ((Ya).toNat * 7)).block,(Ue.add ((Ya).toNat * 7)).off + 1,none⟩=some (.int .i64 ((zb l1 Ya).f1))∧w'.cell? ⟨(Ue.add ((Ya).toNat * 7)).block,(Ue.add ((Ya).toNat * 7)).off + 2,none⟩=some (.int .i64 ((zb l1 Ya).f2))∧w'.cell? ⟨(Ue.add ((Ya).toNat * 7)).block,(Ue.add ((Ya).toNat * 7)).off + 3,none⟩=some (.int .i64 ((zb l1 Ya).f3))∧w'.cell? ⟨(Ue.add ((Ya).toNat * 7)).block,(Ue.add ((Ya).toNat * 7)).off + 4,none⟩=some (.int .i64 ((zb l1 Ya).f4))∧w'.cell? ⟨(Ue.add ((Ya).toNat * 7)).block,(Ue.add ((Ya).toNat * 7)).off + 5,none⟩=some (.int .i64 ((zb l1 Ya).f5))∧w'.cell? ⟨(Ue.add ((Ya).toNat * 7)).block,(Ue.add ((Ya).toNat * 7)).off + 6,none⟩=some (.string ((zb l1 Ya).f6))) (ds:=[]) #[false,false,false,false,false,false,false,false,false,false] (by kernel_rfl) rfl rfl ⟨((HB.out.cell (World.block_lt_of_cell? w _ Gg)).trans Gg),((HB.out.cell (World.block_lt_of_cell? w _ Fg)).trans Fg),((HB.out.cell (World.block_lt_of_cell? w _ Eg)).trans Eg),((HB.out.cell (World.block_lt_of_cell? w _ Dg)).trans Dg),((HB.out.cell (World.block_lt_of_cell? w _ Cg)).trans Cg),((HB.out.cell (World.block_lt_of_cell? w _ Cl)).trans Cl),((HB.out.cell (World.block_lt_of_cell? w _ Bl)).trans Bl),((HB.out.cell (World.block_lt_of_cell? w _ Bg)).trans Bg),((HB.out.cell (World.block_lt_of_cell? w _ Ag)).trans Ag),((HB.out.cell (World.block_lt_of_cell? w _ zg)).trans zg),((HB.out.cell (World.block_lt_of_cell? w _ yg)).trans yg),((HB.out.cell (World.block_lt_of_cell? w _ xg)).trans xg),((HB.out.cell (World.block_lt_of_cell? w _ Al)).trans Al),((HB.out.cell (World.block_lt_of_cell? w _ zl)).trans zl)⟩ (fun hHeld=>?_);refine nh Ob.tH Ob.WA (fun ef Pn=>?_)
        generalize wr.drew=w9 at HB Zd Be Ae ze ye wg ug Ee Ff Qf Pf Nf Dj Cj hHeld ⊢
        refine Nb (i:=0) (N:=some 17) (v:=?_) (a':=?_) #[true,false,false,false,false,false,false,false,false,false] rfl rfl (Oc ef.out (by kernel_rfl)) (fun _ _ _ h=>h) (Or.inl ⟨by rfl,?_⟩) ?_ ?_
        rotate_left
        ·intro w'
         go_simp
         with_reducible rfl
        rotate_left
        ·simp only [Act.put,List.setIfInBounds_toArray,List.set_cons_zero,List.set_cons_succ,Za,gb]
         rfl
        refine Nb (i:=1) (N:=some 18) (v:=?_) (a':=?_) #[true,true,false,false,false,false,false,false,false,false] rfl rfl (Oc ef.out (by kernel_rfl)) (fun _ _ _ h=>h) (Or.inl ⟨by rfl,?_⟩) ?_ ?_
        rotate_left
        ·intro w'
         go_simp
         with_reducible rfl
        rotate_left
        ·simp only [Act.put,List.setIfInBounds_toArray,List.set_cons_zero,List.set_cons_succ,Za,gb]
         rfl
        refine Nb (i:=2) (N:=some 19) (v:=?_) (a':=?_) #[true,true,true,false,false,false,false,false,false,false] rfl rfl (Oc ef.out (by kernel_rfl)) (fun _ _ _ h=>h) (Or.inl ⟨by rfl,?_⟩) ?_ ?_
        rotate_left
        ·intro w'
         go_simp
         with_reducible rfl
        rotate_left
        ·simp only [Act.put,List.setIfInBounds_toArray,List.set_cons_zero,List.set_cons_succ,Za,gb]
         rfl
        refine Nb (i:=4) (N:=some 21) (v:=?_) (a':=?_) #[true,true,true,false,true,false,false,false,false,false] rfl rfl (Oc ef.out (by kernel_rfl)) (fun _ _ _ h=>h) (Or.inl ⟨by rfl,?_⟩) ?_ ?_
        rotate_left
        ·intro w'
         go_simp
         with_reducible rfl
        rotate_left
        ·simp only [Act.put,List.setIfInBounds_toArray,List.set_cons_zero,List.set_cons_succ,Za,gb]
         rfl
        refine Nb (i:=5) (N:=some 22) (v:=?_) (a':=?_) #[true,true,true,false,true,true,false,false,false,false] rfl rfl (Oc ef.out (by kernel_rfl)) (fun _ _ _ h=>h) (Or.inl ⟨by rfl,?_⟩) ?_ ?_
        rotate_left
        ·intro w'
         go_simp
         with_reducible rfl
        rotate_left
        ·simp only [Act.put,List.setIfInBounds_toArray,List.set_cons_zero,List.set_cons_succ,Za,gb]
         rfl
        refine Nb (i:=6) (N:=some 23) (v:=?_) (a':=?_) #[true,true,true,false,true,true,true,false,false,false] rfl rfl (Oc ef.out (by kernel_rfl)) (fun _ _ _ h=>h) (Or.inl ⟨by rfl,?_⟩) ?_ ?_
        rotate_left
        ·intro w'
         go_simp
         with_reducible rfl
        rotate_left
        ·simp only [Act.put,List.setIfInBounds_toArray,List.set_cons_zero,List.set_cons_succ,Za,gb]
         rfl
        refine Jd (i:=3) (N:=some 20) (v:=?_) (a':=?_) #[true,true,true,true,true,true,true,false,false,false] rfl rfl (Fe ef.out Pn.out (by kernel_rfl)) (fun _ _ _ h=>h) (Or.inl ⟨by rfl,?_⟩) hHeld ?_ ?_
        rotate_left
        ·rintro w' ⟨s0,s1,s2,s3,s4,s5,s6,s7,s8,s9,xy,cK,bK,aK⟩
         go_simp
         with_reducible rfl
        rotate_left
        ·simp only [Act.put,List.setIfInBounds_toArray,List.set_cons_zero,List.set_cons_succ,Za,gb]
         rfl
        refine Jd (i:=7) (N:=some 24) (v:=?_) (a':=?_) #[true,true,true,true,true,true,true,true,false,false] rfl rfl (Fe ef.out Pn.out (by kernel_rfl)) (fun _ _ _ h=>h) (Or.inl ⟨by rfl,?_⟩) hHeld ?_ ?_
        rotate_left
        ·rintro w' ⟨s0,s1,s2,s3,s4,s5,s6,s7,s8,s9,xy,cK,bK,aK⟩
         go_simp
         with_reducible rfl
        rotate_left
        ·simp only [Act.put,List.setIfInBounds_toArray,List.set_cons_zero,List.set_cons_succ,Za,gb]
         rfl
        refine gh (i:=8) (N:=some 25) #[true,true,true,true,true,true,true,true,true,false] rfl rfl (Mk ef.out (by kernel_rfl)) (by decide) (fun K hK=>?_)
        refine Gn Try.func137 (by kernel_rfl) rfl #[.agg #[.int .i64 ((zb l0 Ya).f0),.int .i64 ((zb l0 Ya).f1),.int .i64 ((zb l0 Ya).f2),.int .i64 ((zb l0 Ya).f3),.int .i64 ((zb l0 Ya).f4),.int .i64 ((zb l0 Ya).f5),.string ((zb l0 Ya).f6)],.agg #[.int .i64 ((zb l1 Ya).f0),.int .i64 ((zb l1 Ya).f1),.int .i64 ((zb l1 Ya).f2),.int .i64 ((zb l1 Ya).f3),.int .i64 ((zb l1 Ya).f4),.int .i64 ((zb l1 Ya).f5),.string ((zb l1 Ya).f6)]] (by rfl) rfl rfl (by (try simp only [List.map_toArray,List.map_cons,List.map_nil]);first|done|rfl|(simp only [List.length_drop,List.length_take];rfl)) ?_
        with_reducible refine (Rh.calls ((zb l0 Ya).f0) ((zb l0 Ya).f1) ((zb l0 Ya).f2) ((zb l0 Ya).f3) ((zb l0 Ya).f4) ((zb l0 Ya).f5) ((zb l0 Ya).f6) ((zb l1 Ya).f0) ((zb l1 Ya).f1) ((zb l1 Ya).f2) ((zb l1 Ya).f3) ((zb l1 Ya).f4) ((zb l1 Ya).f5) ((zb l1 Ya).f6) true _ A7.out).mono ?_
        rintro e Qo ⟨rfl,hb⟩
        refine ⟨_,rfl,?_⟩
        have Pb:=qa.mk (Pa (by repeat (first|(with_reducible first|exact HB.out|apply ia|apply ja|apply za)|exact HB.out)) hb)
        clear HB
        have HB:=Pb
        clear Pb
        (try clear hb)
        (try clear hb2)
        (try clear hk)
        (try clear hi)
        refine hK.out _ _ ⟨((HB.out.cell (World.block_lt_of_cell? w _ Gg)).trans Gg),((HB.out.cell (World.block_lt_of_cell? w _ Fg)).trans Fg),((HB.out.cell (World.block_lt_of_cell? w _ Eg)).trans Eg),((HB.out.cell (World.block_lt_of_cell? w _ Dg)).trans Dg),((HB.out.cell (World.block_lt_of_cell? w _ Cg)).trans Cg),((HB.out.cell (World.block_lt_of_cell? w _ Cl)).trans Cl),((HB.out.cell (World.block_lt_of_cell? w _ Bl)).trans Bl),((HB.out.cell (World.block_lt_of_cell? w _ Bg)).trans Bg),((HB.out.cell (World.block_lt_of_cell? w _ Ag)).trans Ag),((HB.out.cell (World.block_lt_of_cell? w _ zg)).trans zg),((HB.out.cell (World.block_lt_of_cell? w _ yg)).trans yg),((HB.out.cell (World.block_lt_of_cell? w _ xg)).trans xg),((HB.out.cell (World.block_lt_of_cell? w _ Al)).trans Al),((HB.out.cell (World.block_lt_of_cell? w _ zl)).trans zl)⟩ (fun hHeld=>?_)
        clear hK K
        refine Xd (a':=?_) ?_ ?_
        rotate_left
        ·show Act.put _ (some 25) _=_
         simp only [Act.put,List.setIfInBounds_toArray,List.set_cons_zero,List.set_cons_succ,Za,gb]
         rfl
        refine Nb (i:=9) (N:=some 26) (v:=?_) (a':=?_) #[true,true,true,true,true,true,true,true,true,true] rfl rfl (Oc ef.out (by kernel_rfl)) (fun _ _ _ h=>h) (Or.inl ⟨by rfl,?_⟩) ?_ ?_
        rotate_left
        ·intro w'
         go_simp
         with_reducible rfl
        rotate_left
        ·simp only [Act.put,List.setIfInBounds_toArray,List.set_cons_zero,List.set_cons_succ,Za,gb]
         rfl
        refine Yh (Oj ef.out (by kernel_rfl)) ?_
        try go_wp2
        go_roundg k1
        case measure=>have:=We.out;omega
        case rel=>exact ⟨(wrap64 (Ya + 1)),(by first|rfl|(simp;done)|(simp [*];done)),H',⟨by have:=We.out;omega⟩,⟨by repeat (first|(with_reducible first|exact HB.out|apply ia|apply ja|apply za)|exact HB.out)⟩⟩
       ·replace c8:=Bool.eq_false_iff.mpr c8
        subst c8
        have H1:(some false)=some r:=by rw [if_neg (show ¬ (false=true) by decide)] at H;exact H
        clear H
        have H:=H1
        clear H1
        obtain rfl:=Option.some.inj H
        try go_wp2
        have Pb:=qa.mk (za HB.out)
        clear HB
        have HB:=Pb
        clear Pb
        have Yf:0 ≤ (Ya:Int):=of_decide_eq_true (by first|(with_reducible assumption)|assumption)
        have Xf:Ya < (l0.length:Int):=of_decide_eq_true (by first|(with_reducible assumption)|assumption)
        obtain ⟨Ie,Xj,Zd,Be,Ae,ze,ye,wg,ug⟩:=Jo Nq.out Ya Yf Xf
        have Bl:=ug
        have Cl:=wg
        have Cg:=ye
        have Dg:=ze
        have Eg:=Ae
        have Fg:=Be
        have Gg:=Zd
        cases Xj
        replace Zd:=(HB.out.cell (World.block_lt_of_cell? w _ Zd)).trans Zd
        replace Be:=(HB.out.cell (World.block_lt_of_cell? w _ Be)).trans Be
        replace Ae:=(HB.out.cell (World.block_lt_of_cell? w _ Ae)).trans Ae
        replace ze:=(HB.out.cell (World.block_lt_of_cell? w _ ze)).trans ze
        replace ye:=(HB.out.cell (World.block_lt_of_cell? w _ ye)).trans ye
        replace wg:=(HB.out.cell (World.block_lt_of_cell? w _ wg)).trans wg
        replace ug:=(HB.out.cell (World.block_lt_of_cell? w _ ug)).trans ug
        replace Yf:=eq_true Yf
        replace Xf:=eq_true Xf
        have ei:0 ≤ (Ya:Int):=of_decide_eq_true (by first|(with_reducible assumption)|assumption)
        have di:Ya < (l1.length:Int):=of_decide_eq_true (by first|(with_reducible assumption)|assumption)
        obtain ⟨Ue,sr,Ee,Ff,Qf,Pf,Nf,Dj,Cj⟩:=Jo PJ.out Ya ei di
        have zl:=Cj
        have Al:=Dj
        have xg:=Nf
        have yg:=Pf
        have zg:=Qf
        have Ag:=Ff
        have Bg:=Ee
        cases sr
        replace Ee:=(HB.out.cell (World.block_lt_of_cell? w _ Ee)).trans Ee
        replace Ff:=(HB.out.cell (World.block_lt_of_cell? w _ Ff)).trans Ff
        replace Qf:=(HB.out.cell (World.block_lt_of_cell? w _ Qf)).trans Qf
        replace Pf:=(HB.out.cell (World.block_lt_of_cell? w _ Pf)).trans Pf
        replace Nf:=(HB.out.cell (World.block_lt_of_cell? w _ Nf)).trans Nf
        replace Dj:=(HB.out.cell (World.block_lt_of_cell? w _ Dj)).trans Dj
        replace Cj:=(HB.out.cell (World.block_lt_of_cell? w _ Cj)).trans Cj
        replace ei:=eq_true ei
        replace di:=eq_true di
        refine Pg (n:=10) (S:=fun w'=>w'.cell? (Ie.add ((Ya).toNat * 7))=some (.int .i64 ((zb l0 Ya).f0))∧w'.cell? ⟨(Ie.add ((Ya).toNat * 7)).block,(Ie.add ((Ya).toNat * 7)).off + 1,none⟩=some (.int .i64 ((zb l0 Ya).f1))∧w'.cell? ⟨(Ie.add ((Ya).toNat * 7)).block,(Ie.add ((Ya).toNat * 7)).off + 2,none⟩=some (.int .i64 ((zb l0 Ya).f2))∧w'.cell? ⟨(Ie.add ((Ya).toNat * 7)).block,(Ie.add ((Ya).toNat * 7)).off + 3,none⟩=some (.int .i64 ((zb l0 Ya).f3))∧w'.cell? ⟨(Ie.add ((Ya).toNat * 7)).block,(Ie.add ((Ya).toNat * 7)).off + 4,none⟩=some (.int .i64 ((zb l0 Ya).f4))∧w'.cell? ⟨(Ie.add ((Ya).toNat * 7)).block,(Ie.add ((Ya).toNat * 7)).off + 5,none⟩=some (.int .i64 ((zb l0 Ya).f5))∧w'.cell? ⟨(Ie.add ((Ya).toNat * 7)).block,(Ie.add ((Ya).toNat * 7)).off + 6,none⟩=some (.string ((zb l0 Ya).f6))∧w'.cell? (Ue.add ((Ya).toNat * 7))=some (.int .i64 ((zb l1 Ya).f0))∧w'.cell? ⟨(Ue.add ((Ya).toNat * 7)).block,(Ue.add ((Ya).toNat * 7)).off + 1,none⟩=some (.int .i64 ((zb l1 Ya).f1))∧w'.cell? ⟨(Ue.add ((Ya).toNat * 7)).block,(Ue.add ((Ya).toNat * 7)).off + 2,none⟩=some (.int .i64 ((zb l1 Ya).f2))∧w'.cell? ⟨(Ue.add ((Ya).toNat * 7)).block,(Ue.add ((Ya).toNat * 7)).off + 3,none⟩=some (.int .i64 ((zb l1 Ya).f3))∧w'.cell? ⟨(Ue.add ((Ya).toNat * 7)).block,(Ue.add ((Ya).toNat * 7)).off + 4,none⟩=some (.int .i64 ((zb l1 Ya).f4))∧w'.cell? ⟨(Ue.add ((Ya).toNat * 7)).block,(Ue.add ((Ya).toNat * 7)).off + 5,none⟩=some (.int .i64 ((zb l1 Ya).f5))∧w'.cell? ⟨(Ue.add ((Ya).toNat * 7)).block,(Ue.add ((Ya).toNat * 7)).off + 6,none⟩=some (.string ((zb l1 Ya).f6))) (ds:=[]) #[false,false,false,false,false,false,false,false,false,false] (by kernel_rfl) rfl rfl ⟨((HB.out.cell (World.block_lt_of_cell? w _ Gg)).trans Gg),((HB.out.cell (World.block_lt_of_cell? w _ Fg)).trans Fg),((HB.out.cell (World.block_lt_of_cell? w _ Eg)).trans Eg),((HB.out.cell (World.block_lt_of_cell? w _ Dg)).trans Dg),((HB.out.cell (World.block_lt_of_cell? w _ Cg)).trans Cg),((HB.out.cell (World.block_lt_of_cell? w _ Cl)).trans Cl),((HB.out.cell (World.block_lt_of_cell? w _ Bl)).trans Bl),((HB.out.cell (World.block_lt_of_cell? w _ Bg)).trans Bg),((HB.out.cell (World.block_lt_of_cell? w _ Ag)).trans Ag),((HB.out.cell (World.block_lt_of_cell? w _ zg)).trans zg),((HB.out.cell (World.block_lt_of_cell? w _ yg)).trans yg),((HB.out.cell (World.block_lt_of_cell? w _ xg)).trans xg),((HB.out.cell (World.block_lt_of_cell? w _ Al)).trans Al),((HB.out.cell (World.block_lt_of_cell? w _ zl)).trans zl)⟩ (fun hHeld=>?_);refine nh Ob.tH Ob.WA (fun ef Pn=>?_)
        generalize wr.drew=ri at HB Zd Be Ae ze ye wg ug Ee Ff Qf Pf Nf Dj Cj hHeld ⊢
        refine Nb (i:=0) (N:=some 17) (v:=?_) (a':=?_) #[true,false,false,false,false,false,false,false,false,false] rfl rfl (Oc ef.out (by kernel_rfl)) (fun _ _ _ h=>h) (Or.inl ⟨by rfl,?_⟩) ?_ ?_
        rotate_left
        ·intro w'
         go_simp
         with_reducible rfl
        rotate_left
        ·simp only [Act.put,List.setIfInBounds_toArray,List.set_cons_zero,List.set_cons_succ,Za,gb]
         rfl
        refine Nb (i:=1) (N:=some 18) (v:=?_) (a':=?_) #[true,true,false,false,false,false,false,false,false,false] rfl rfl (Oc ef.out (by kernel_rfl)) (fun _ _ _ h=>h) (Or.inl ⟨by rfl,?_⟩) ?_ ?_
        rotate_left
        ·intro w'
         go_simp
         with_reducible rfl
        rotate_left
        ·simp only [Act.put,List.setIfInBounds_toArray,List.set_cons_zero,List.set_cons_succ,Za,gb]
         rfl
        refine Nb (i:=2) (N:=some 19) (v:=?_) (a':=?_) #[true,true,true,false,false,false,false,false,false,false] rfl rfl (Oc ef.out (by kernel_rfl)) (fun _ _ _ h=>h) (Or.inl ⟨by rfl,?_⟩) ?_ ?_
        rotate_left
        ·intro w'
         go_simp
         with_reducible rfl
        rotate_left
        ·simp only [Act.put,List.setIfInBounds_toArray,List.set_cons_zero,List.set_cons_succ,Za,gb]
         rfl
        refine Nb (i:=4) (N:=some 21) (v:=?_) (a':=?_) #[true,true,true,false,true,false,false,false,false,false] rfl rfl (Oc ef.out (by kernel_rfl)) (fun _ _ _ h=>h) (Or.inl ⟨by rfl,?_⟩) ?_ ?_
        rotate_left
        ·intro w'
         go_simp
         with_reducible rfl
        rotate_left
        ·simp only [Act.put,List.setIfInBounds_toArray,List.set_cons_zero,List.set_cons_succ,Za,gb]
         rfl
        refine Nb (i:=5) (N:=some 22) (v:=?_) (a':=?_) #[true,true,true,false,true,true,false,false,false,false] rfl rfl (Oc ef.out (by kernel_rfl)) (fun _ _ _ h=>h) (Or.inl ⟨by rfl,?_⟩) ?_ ?_
        rotate_left
        ·intro w'
         go_simp
         with_reducible rfl
        rotate_left
        ·simp only [Act.put,List.setIfInBounds_toArray,List.set_cons_zero,List.set_cons_succ,Za,gb]
         rfl
        refine Nb (i:=6) (N:=some 23) (v:=?_) (a':=?_) #[true,true,true,false,true,true,true,false,false,false] rfl rfl (Oc ef.out (by kernel_rfl)) (fun _ _ _ h=>h) (Or.inl ⟨by rfl,?_⟩) ?_ ?_
        rotate_left
        ·intro w'
         go_simp
         with_reducible rfl
        rotate_left
        ·simp only [Act.put,List.setIfInBounds_toArray,List.set_cons_zero,List.set_cons_succ,Za,gb]
         rfl
        refine Jd (i:=3) (N:=some 20) (v:=?_) (a':=?_) #[true,true,true,true,true,true,true,false,false,false] rfl rfl (Fe ef.out Pn.out (by kernel_rfl)) (fun _ _ _ h=>h) (Or.inl ⟨by rfl,?_⟩) hHeld ?_ ?_
        rotate_left
        ·rintro w' ⟨s0,s1,s2,s3,s4,s5,s6,s7,s8,s9,xy,cK,bK,aK⟩
         go_simp
         with_reducible rfl
        rotate_left
        ·simp only [Act.put,List.setIfInBounds_toArray,List.set_cons_zero,List.set_cons_succ,Za,gb]
         rfl
        refine Jd (i:=7) (N:=some 24) (v:=?_) (a':=?_) #[true,true,true,true,true,true,true,true,false,false] rfl rfl (Fe ef.out Pn.out (by kernel_rfl)) (fun _ _ _ h=>h) (Or.inl ⟨by rfl,?_⟩) hHeld ?_ ?_
        rotate_left
        ·rintro w' ⟨s0,s1,s2,s3,s4,s5,s6,s7,s8,s9,xy,cK,bK,aK⟩
         go_simp
         with_reducible rfl
        rotate_left
        ·simp only [Act.put,List.setIfInBounds_toArray,List.set_cons_zero,List.set_cons_succ,Za,gb]
         rfl
        refine gh (i:=8) (N:=some 25) #[true,true,true,true,true,true,true,true,true,false] rfl rfl (Mk ef.out (by kernel_rfl)) (by decide) (fun K hK=>?_)
        refine Gn Try.func137 (by kernel_rfl) rfl #[.agg #[.int .i64 ((zb l0 Ya).f0),.int .i64 ((zb l0 Ya).f1),.int .i64 ((zb l0 Ya).f2),.int .i64 ((zb l0 Ya).f3),.int .i64 ((zb l0 Ya).f4),.int .i64 ((zb l0 Ya).f5),.string ((zb l0 Ya).f6)],.agg #[.int .i64 ((zb l1 Ya).f0),.int .i64 ((zb l1 Ya).f1),.int .i64 ((zb l1 Ya).f2),.int .i64 ((zb l1 Ya).f3),.int .i64 ((zb l1 Ya).f4),.int .i64 ((zb l1 Ya).f5),.string ((zb l1 Ya).f6)]] (by rfl) rfl rfl (by (try simp only [List.map_toArray,List.map_cons,List.map_nil]);first|done|rfl|(simp only [List.length_drop,List.length_take];rfl)) ?_
        with_reducible refine (Rh.calls ((zb l0 Ya).f0) ((zb l0 Ya).f1) ((zb l0 Ya).f2) ((zb l0 Ya).f3) ((zb l0 Ya).f4) ((zb l0 Ya).f5) ((zb l0 Ya).f6) ((zb l1 Ya).f0) ((zb l1 Ya).f1) ((zb l1 Ya).f2) ((zb l1 Ya).f3) ((zb l1 Ya).f4) ((zb l1 Ya).f5) ((zb l1 Ya).f6) false _ A7.out).mono ?_
        rintro e yu ⟨rfl,hb⟩
        refine ⟨_,rfl,?_⟩
        have Pb:=qa.mk (Pa (by repeat (first|(with_reducible first|exact HB.out|apply ia|apply ja|apply za)|exact HB.out)) hb)
        clear HB
        have HB:=Pb
        clear Pb
        (try clear hb)
        (try clear hb2)
        (try clear hk)
        (try clear hi)
        refine hK.out _ _ ⟨((HB.out.cell (World.block_lt_of_cell? w _ Gg)).trans Gg),((HB.out.cell (World.block_lt_of_cell? w _ Fg)).trans Fg),((HB.out.cell (World.block_lt_of_cell? w _ Eg)).trans Eg),((HB.out.cell (World.block_lt_of_cell? w _ Dg)).trans Dg),((HB.out.cell (World.block_lt_of_cell? w _ Cg)).trans Cg),((HB.out.cell (World.block_lt_of_cell? w _ Cl)).trans Cl),((HB.out.cell (World.block_lt_of_cell? w _ Bl)).trans Bl),((HB.out.cell (World.block_lt_of_cell? w _ Bg)).trans Bg),((HB.out.cell (World.block_lt_of_cell? w _ Ag)).trans Ag),((HB.out.cell (World.block_lt_of_cell? w _ zg)).trans zg),((HB.out.cell (World.block_lt_of_cell? w _ yg)).trans yg),((HB.out.cell (World.block_lt_of_cell? w _ xg)).trans xg),((HB.out.cell (World.block_lt_of_cell? w _ Al)).trans Al),((HB.out.cell (World.block_lt_of_cell? w _ zl)).trans zl)⟩ (fun hHeld=>?_)
        clear hK K
        refine Xd (a':=?_) ?_ ?_
        rotate_left
        ·show Act.put _ (some 25) _=_
         simp only [Act.put,List.setIfInBounds_toArray,List.set_cons_zero,List.set_cons_succ,Za,gb]
         rfl
        refine Nb (i:=9) (N:=some 26) (v:=?_) (a':=?_) #[true,true,true,true,true,true,true,true,true,true] rfl rfl (Oc ef.out (by kernel_rfl)) (fun _ _ _ h=>h) (Or.inl ⟨by rfl,?_⟩) ?_ ?_
        rotate_left
        ·intro w'
         go_simp
         with_reducible rfl
        rotate_left
        ·simp only [Act.put,List.setIfInBounds_toArray,List.set_cons_zero,List.set_cons_succ,Za,gb]
         rfl
        refine Yh (Oj ef.out (by kernel_rfl)) ?_
        try go_wp2
        go_ret
        exact ⟨by first|rfl|(simp [La,Ka] <;> rfl)|(simp [*,La,Ka] <;> rfl),by repeat (first|(with_reducible first|exact HB.out|apply ia|apply ja|apply za)|exact HB.out)⟩
      ·rw [if_neg c6] at H
       exact absurd H (by simp)
     ·rw [if_neg c5] at H
      exact absurd H (by simp)
    ·rw [if_neg c4] at H
     have Mh:decide (Ya < (l0.length:Int))=false:=decide_eq_false c4
     clear c4
     obtain rfl:=Option.some.inj H
     go_wp2
     go_ret
     exact ⟨by first|rfl|(simp [La,Ka] <;> rfl)|(simp [*,La,Ka] <;> rfl),by repeat (first|(with_reducible first|exact HB.out|apply ia|apply ja|apply za)|exact HB.out)⟩
 ·rw [if_neg c3] at H
  have Uh:((l0.length:Int) == (l1.length:Int))=false:=beq_eq_false_iff_ne.mpr c3
  have Mq:((l0.length:Int) != (l1.length:Int))=true:=bne_iff_ne.mpr c3
  have UA:(l0.length == l1.length)=false:=by first|simpa using c3|(simp at c3 ⊢;omega)
  obtain rfl:=Option.some.inj H
  go_enter Try.func120,Try.ntmps120
  go_wp2
  go_ret
  exact ⟨by first|rfl|(simp [La,Ka] <;> rfl)|(simp [*,La,Ka] <;> rfl),by repeat (first|(with_reducible first|exact HB.out|apply ia|apply ja|apply za)|exact HB.out)⟩
end Go.Proofs.Ytmifdccaajngcaa.P
end
