import Derived.Test.YtoomcmaifgkkfaaQLoop1
import Derived.Test.YtoomcmaifgkkfaaQLoop2
import Derived.Shelf.Abstract
import Derived.Outline
import Derived.RegionTactic
import Derived.Deep.QuietTactic
import Derived.BigQuiet
set_option maxHeartbeats 8000000
set_option maxRecDepth 100000
section
namespace Go.Proofs.Ytoomcmaifgkkfaa.P
open Go.RowKit Go.Proofs.Aa.Db Go.Proofs.Aa.Tc Go.Proofs.Aa.ke
set_option linter.unusedVariables false
set_option linter.unusedSimpArgs false
attribute [local go_sem] fh bh Zh Yh mg lg dh ah
def Mc.l0:Nat→List (nj)→List (Wd)→Int→Option ((List (Wd)))
 | 0,_,_,_=>none
 | k + 1,x0,x3,x4=>if x4 < (x0.length:Int) then (if 0 ≤ x4 then ((zj.f k ((yc x0 x4).f0) ((yc x0 x4).f1) ((yc x0 x4).f2) ((yc x0 x4).f3) ((yc x0 x4).f4)).bind fun Xn=>(if x4 < (x3.length:Int) then (Mc.l0 k x0 (x3.set (x4:Int).toNat (⟨Xn.1,Xn.2.1,Xn.2.2.1,Xn.2.2.2.1,Xn.2.2.2.2⟩:Wd)) (wrap64 (x4 + 1))) else (none))) else (none)) else (some x3)
def Mc.f (k:Nat) (l0:List (nj)):Option ((List (Wd))):=if 0 ≤ (l0.length:Int) then (if ((l0.length:Int):Int).toNat ≤ 5026338869833 then (Mc.l0 k l0 (List.replicate ((l0.length:Int):Int).toNat iA) 0) else (none)) else (none)
theorem Mc.calls (k:Nat) (A0:Option Addr) (c0:Nat) (l0:List (nj)) (r:List (Wd)) (w:World) (Hi:Kd.C qw w A0 l0.length l0) (hc0:l0.length ≤ c0) (h:Mc.f k l0=some r) :
  Calls Try.prog 70 #[.slice A0 l0.length c0] w fun e w'=>∃ Di:Value,e = .returned (Di)∧Kd.S Km 83 w' w.heap.size (fun _=>True) Di r∧Below w.heap.size w w':=by
 have QI:=Try.underlying106;have Sy:=Try.underlying83;have ak:=aa.mk Hi;have oy:=aa.mk hc0;clear Hi hc0;have HB:=aa.mk (Below.refl w.heap.size w);have H:(if 0 ≤ (l0.length:Int) then (if ((l0.length:Int):Int).toNat ≤ 5026338869833 then (Mc.l0 k l0 (List.replicate ((l0.length:Int):Int).toNat iA) 0) else (none)) else (none))=some r:=h;clear h
 by_cases c2:0 ≤ (l0.length:Int)
 ·rw [if_pos c2] at H;have Mo:=eq_true c2;have Sq:decide (0 ≤ (l0.length:Int))=true:=decide_eq_true c2;clear c2
  by_cases c3:((l0.length:Int):Int).toNat ≤ 5026338869833
  ·rw [if_pos c3] at H;have Ah:=eq_true c3;have Kr:decide (((l0.length:Int):Int).toNat ≤ 5026338869833)=true:=decide_eq_true c3;clear c3;obtain ⟨Re,Ye⟩:∃ y_:List (Wd),y_=(List.replicate ((l0.length:Int):Int).toNat iA):=⟨_,rfl⟩;replace H:(Mc.l0 k l0 Re 0)=some r:=by first|(rw [Ye];with_reducible exact H)|(have Qc:=(Option.bind_some _ _).symm.trans H;rw [Ye];with_reducible exact Qc)|(have Qc:=(Option.bind_some _ _).symm.trans H;with_reducible exact Qc)|with_reducible exact H|(rw [Ye];exact H)|exact H
   have Zi:=aa.mk Ye;clear Ye;have H':=aa.mk H;clear H;go_enter Try.func70,Try.ntmps70;go_wp2_with (first|((with_reducible refine Qb (N:=7) rfl ?_);refine Kd.uK Km _ 83 rfl (N:=7) rfl 43 _ _ rfl (l0.length:Int) rfl rfl Try.underlying43 (.agg #[(.slice none 0 0),(.int .i64 0),(.int .i64 0),(.int .i64 0),(.int .i64 0)]) 56 WQ rfl (by decide) (by omega) iA (ok:=fun _=>True) (Yg:=fun _=>True) (Hy _ _ _ iA (Kd.Nt _ _ _ _ _)) (fun _ hk=>hk) trivial (Ja) (Nat.le_trans (Nat.mul_le_mul_right _ (Ja:(l0.length:Int).toNat ≤ 5026338869833)) (by omega)) (Below.refl _ _) (Nat.le_refl _) ?_;intro yA w4 eB hb Ll Pe;clear Ll Pe;(first|rw [← Zi.out] at eB|(simp only [Int.reduceToNat] at eB;rw [← Zi.out] at eB));have Pb:=aa.mk (Kd.Ov eB (Qa maj));have Rb:=aa.mk (Ga maj hb);clear HB;have uo:=Pb;have HB:=Rb;clear Pb Rb hb eB))
   go_loopg [4] k (fun kq v4 w'=>∃ (uc:List (Wd)) (Ib:Int),v4 = .int .i64 Ib∧aa (Mc.l0 kq l0 uc Ib=some r)∧aa (kq ≤ k)∧aa (Kd.S Km 83 w' w.heap.size (fun _=>True) yA uc)∧aa (Below w.heap.size w w'))
   case atStart=>exact ⟨(Re),(0),raj,H',⟨Nat.le_refl _⟩,⟨by (with_reducible repeat (first|apply Kd.Rf|apply Kd.Qf|apply Kd.Cg));exact uo.out⟩,⟨qaj⟩⟩
   case round =>
    clear H'
    try clear c2
    try clear Mo
    try clear Sq
    try clear p2
    try clear c3
    try clear Ah
    try clear Kr
    (try clear HA);(try clear Kf);(try clear jc);(try clear HB);obtain ⟨uc,Ib,rfl,HA,Kf,jc,HB⟩:=hrel;cases gk with
    | zero=>exact absurd HA.out (by simp [Mc.l0])
    | succ k1 =>
     have H:=HA.out;clear HA;simp only [Mc.l0] at H
     by_cases c6:Ib < (l0.length:Int)
     ·rw [if_pos c6] at H;have Gt:decide (Ib < (l0.length:Int))=true:=decide_eq_true c6;clear c6
      by_cases c7:0 ≤ Ib
      ·rw [if_pos c7] at H;have yu:decide (0 ≤ Ib)=true:=decide_eq_true c7;clear c7;replace H:=Option.bind_eq_some_iff.mp H;obtain ⟨⟨t105,t108,t109,t110,t111⟩,sQ,H⟩:=H;replace H:(if Ib < (uc.length:Int) then (Mc.l0 k1 l0 (uc.set (Ib:Int).toNat (⟨t105,t108,t109,t110,t111⟩:Wd)) (wrap64 (Ib + 1))) else (none))=some r:=H;have A8:=aa.mk sQ;clear sQ
       by_cases c9:Ib < (uc.length:Int)
       ·rw [if_pos c9] at H;have pN:decide (Ib < (uc.length:Int))=true:=decide_eq_true c9;clear c9;obtain ⟨Xf,zi⟩:∃ y_:List (Wd),y_=(uc.set (Ib:Int).toNat (⟨t105,t108,t109,t110,t111⟩:Wd)):=⟨_,rfl⟩;replace H:(Mc.l0 k1 l0 Xf (wrap64 (Ib + 1)))=some r:=by first|(rw [zi];with_reducible exact H)|(have Qc:=(Option.bind_some _ _).symm.trans H;rw [zi];with_reducible exact Qc)|(have Qc:=(Option.bind_some _ _).symm.trans H;with_reducible exact Qc)|with_reducible exact H|(rw [zi];exact H)|exact H
        have fo:=aa.mk zi;clear zi;have H':=aa.mk H;clear H;have iw:0 ≤ (Ib:Int):=Ja;have dw:Ib < (l0.length:Int):=Ja;obtain ⟨BP,vU,rT,YJ,Zm,Qs,Ns,Ms,Ls,YE,dF⟩:=Mz ak.out Ib iw dw;cases YJ;replace Zm:=Jb HB.out Zm;replace Qs:=Jb HB.out Qs;replace Ns:=Jb HB.out Ns;replace Ms:=Jb HB.out Ms;replace Ls:=Jb HB.out Ls;have SN:=aa.mk dF;have iO:=aa.mk YE;clear dF YE;replace iw:=eq_true iw;replace dw:=eq_true dw;go_wp2_with (first|((with_reducible refine Kb (f:=103) rfl ?_);refine ie (some 20) rfl rfl Try.func103 (by kernel_rfl) rfl #[.agg #[.slice vU ((yc l0 Ib).f0).length rT,.int .i64 ((yc l0 Ib).f1),.int .i64 ((yc l0 Ib).f2),.int .i64 ((yc l0 Ib).f3),.int .i64 ((yc l0 Ib).f4)]] rfl paj ?_;(with_reducible refine (zj.calls k1 _ _ ((yc l0 Ib).f0) ((yc l0 Ib).f1) ((yc l0 Ib).f2) ((yc l0 Ib).f3) ((yc l0 Ib).f4) t105 t108 t109 t110 t111 _ ?Oc ?Nc A8.out).mono ?_);(case Oc=>repeat (first|exact (Kd.Za SN.out HB.out)|(with_reducible refine Kd.Gd ?_ _)|(with_reducible refine Kd.Ed ?_ _)|(with_reducible refine Kd.He ?_)));(case Nc=>exact iO.out);rintro e Dl ⟨Wv,rfl,Rg,hb⟩;refine ⟨_,rfl,?_⟩;have Pb:=aa.mk (Kd.Qw (by (with_reducible repeat (first|apply Kd.Rf|apply Kd.Qf|apply Kd.Cg));exact jc.out) (Kd.Wf Rg) hb);have Rb:=aa.mk (Kd.Xc Rg (Qa maj));have Yb:=aa.mk (Ga maj hb);clear jc HB;have jc:=Pb;have Uk:=Rb;have HB:=Yb;clear Pb Rb Yb;(try clear hb);(try clear Cl);(try clear hk);(try clear hi);(try clear Rg);have mA:0 ≤ (Ib:Int):=Ja;have kA:(Ib:Int) < ((uc.length:Int):Int):=Ja;obtain ⟨Sg,xu,zD,OJ,JS,H_,Gu⟩:=Kd.Pw jc.out (by omega);(first|cases zD|(injection zD with ej qv tv;(first|subst ej|(injection ej with ej;subst ej));subst tv;clear qv));have Hu:=aa.mk OJ;have saa:=aa.mk Gu;clear OJ JS Gu;obtain ⟨_,xW,rB,zB,ji,ei,_,_⟩:=Kd.Bu jc.out iA (Ib:Int) mA kA;obtain ⟨AQ,rfl,P9⟩:=gu zB;have OI:Dl.cell? ⟨Sg,(Ib:Int).toNat * 5,none⟩=some (AQ):=ji 0 _ rfl;have NI:Dl.cell? ⟨Sg,(Ib:Int).toNat * 5 + 1,none⟩=some (.int .i64 ((Ea uc Ib).f1)):=ji 1 _ rfl;have MI:Dl.cell? ⟨Sg,(Ib:Int).toNat * 5 + 2,none⟩=some (.int .i64 ((Ea uc Ib).f2)):=ji 2 _ rfl;have LI:Dl.cell? ⟨Sg,(Ib:Int).toNat * 5 + 3,none⟩=some (.int .i64 ((Ea uc Ib).f3)):=ji 3 _ rfl;have KI:Dl.cell? ⟨Sg,(Ib:Int).toNat * 5 + 4,none⟩=some (.int .i64 ((Ea uc Ib).f4)):=ji 4 _ rfl;have rJ:Dl.frozen? ⟨Sg,(Ib:Int).toNat * 5,none⟩=false:=ei 0;have qJ:Dl.frozen? ⟨Sg,(Ib:Int).toNat * 5 + 1,none⟩=false:=ei 1;have pJ:Dl.frozen? ⟨Sg,(Ib:Int).toNat * 5 + 2,none⟩=false:=ei 2;have oJ:Dl.frozen? ⟨Sg,(Ib:Int).toNat * 5 + 3,none⟩=false:=ei 3;have nJ:Dl.frozen? ⟨Sg,(Ib:Int).toNat * 5 + 4,none⟩=false:=ei 4;clear rB ji ei zB;replace mA:=eq_true mA;replace kA:=eq_true kA;have n_:=aa.mk (Kd.wg (cl:=(fun k_=>some k_ ≠ (Wv:Value).ownBlock)) jc.out (fun k_ hk=>hk.2));clear jc;have jc:=n_;clear n_;have LN:=aa.mk (show Kd.S Km 83 Dl w.heap.size (fun k_=>((fun _=>True)) k_∧¬ ((fun k_=>some k_=(Wv:Value).ownBlock)) k_) (.slice (some ⟨Sg,0,none⟩) uc.length xu) uc from (by (with_reducible repeat (first|apply Kd.Rf|apply Kd.Qf|apply Kd.Cg));exact Kd.wg jc.out (fun k_ hk=>⟨trivial,fun e_=>hk e_⟩)));obtain ⟨Taa,wW,Rx,yB,Th,di,wR,dW⟩:=Kd.Bu LN.out iA (Ib:Int) (Ja) (by have h_:(Ib:Int) < ((uc.length:Int):Int):=Ja;first|exact h_|(have e_:=(Kd.Uh jc.out).1;omega)|simpa using h_);obtain ⟨V5,rfl,O9⟩:=gu yB;have Ww:=Kd.CP dW (Ja) (by have h_:(Ib:Int) < ((uc.length:Int):Int):=Ja;first|exact h_|(have e_:=(Kd.Uh jc.out).1;omega)|simpa using h_) (seg:=[Wv,.int .i64 t108,.int .i64 t109,.int .i64 t110,.int .i64 t111]) (j:=0) (show 5 ≤ 5 from by decide) (x':=(⟨t105,t108,t109,t110,t111⟩:Wd)) (Hy _ _ _ (⟨t105,t108,t109,t110,t111⟩:Wd) (Kd.Eb (Kd.Ji rfl (Kd.Eb (cl:=fun k_=>((fun _=>True)) k_∧k_ ≠ Sg) (Kd.iq (Uk.out) (Kd.Iq jc.out) (by decide)) (fun k_ hk=>⟨trivial,fun e_=>(hk.2) (by rw [e_];rfl)⟩))) (fun _ h_=>Or.inr (h_)))) (fun _ hk=>hk) (fun k_ Tn=>((Kd.Eb (cl:=fun k_=>((fun _=>True)) k_∧k_ ≠ Sg) (Kd.iq (Uk.out) (Kd.Iq jc.out) (by decide)) (fun k_ hk=>⟨trivial,fun e_=>(hk.2) (by rw [e_];rfl)⟩))).1 k_ Tn.symm);have Qy:=Th 0 _ rfl;(try simp only [show (Km).sz=5 from rfl,Nat.mul_one,Nat.add_zero] at Qy);have ez:=di 0;(try simp only [show (Km).sz=5 from rfl,Nat.mul_one,Nat.add_zero] at ez);have Py:=Th 1 _ rfl;(try simp only [show (Km).sz=5 from rfl,Nat.mul_one,Nat.add_zero] at Py);have dz:=di 1;(try simp only [show (Km).sz=5 from rfl,Nat.mul_one,Nat.add_zero] at dz);have Oy:=Th 2 _ rfl;(try simp only [show (Km).sz=5 from rfl,Nat.mul_one,Nat.add_zero] at Oy);have cz:=di 2;(try simp only [show (Km).sz=5 from rfl,Nat.mul_one,Nat.add_zero] at cz);have Ny:=Th 3 _ rfl;(try simp only [show (Km).sz=5 from rfl,Nat.mul_one,Nat.add_zero] at Ny);have bz:=di 3;(try simp only [show (Km).sz=5 from rfl,Nat.mul_one,Nat.add_zero] at bz);have My:=Th 4 _ rfl;(try simp only [show (Km).sz=5 from rfl,Nat.mul_one,Nat.add_zero] at My);have az:=di 4;(try simp only [show (Km).sz=5 from rfl,Nat.mul_one,Nat.add_zero] at az);clear Rx Th di yB wR dW)|((with_reducible refine Ce (t:=83) (p:=21) rfl ?_);refine Sd (t:=83) (p:=21) (v:=?zQ) (w1:=(((((Dl.setCell ⟨Sg,(Ib:Int).toNat * 5,none⟩ (Wv)).setCell ⟨Sg,(Ib:Int).toNat * 5 + 1,none⟩ (.int .i64 t108)).setCell ⟨Sg,(Ib:Int).toNat * 5 + 2,none⟩ (.int .i64 t109)).setCell ⟨Sg,(Ib:Int).toNat * 5 + 3,none⟩ (.int .i64 t110)).setCell ⟨Sg,(Ib:Int).toNat * 5 + 4,none⟩ (.int .i64 t111))) ?hg ?ho ?hn ?hr ?_;(case ho=>rfl);(case hg=>rfl);(case hn=>rfl);(case hr=>first|(go_simp;done)|(go_simp;rfl)|(have yaf:=fun (a_:Addr) (W_:World) (m_:Mode)=>run_store Try.prog W_ a_ Wv m_ (by first|exact rI (by assumption)|exact qI (by assumption)|exact tI (by assumption)|exact sI (by assumption));first|(go_simp;done)|(go_simp;rfl)));intro jA hw;have hg:Dl.grownBy jA (some Sg):=(by rw [hw];exact Ww.2);have Gj:Kd.S Km 83 jA w.heap.size (fun _=>True) (.slice (some ⟨Sg,0,none⟩) uc.length xu) Xf:=(by rw [hw,fo.out];exact Ww.1);clear Ww;have Pb:=aa.mk (Gj);have Rb:=aa.mk ((by rw [hw];exact ta (ta (ta (ta (ta (HB.out) Hu.out) Hu.out) Hu.out) Hu.out) Hu.out:Below w.heap.size w jA));clear jc HB Uk;have jc:=Pb;have HB:=Rb;clear Pb Rb hg hw Gj))
        go_roundg k1
        case measure=>have:=Kf.out;omega
        case rel=>exact ⟨(Xf),(wrap64 (Ib + 1)),raj,H',⟨by have:=Kf.out;omega⟩,⟨by (with_reducible repeat (first|apply Kd.Rf|apply Kd.Qf|apply Kd.Cg));exact jc.out⟩,⟨qaj⟩⟩
       ·rw [if_neg c9] at H;exact absurd H (by simp)
      ·rw [if_neg c7] at H;exact absurd H (by simp)
     ·rw [if_neg c6] at H;have Gt:decide (Ib < (l0.length:Int))=false:=decide_eq_false c6;clear c6;obtain rfl:=Option.some.inj H;go_wp2;go_ret;exact ⟨_,taj,by (with_reducible repeat (first|apply Kd.Rf|apply Kd.Qf|apply Kd.Cg));exact jc.out,qaj⟩
  ·rw [if_neg c3] at H;exact absurd H (by simp)
 ·rw [if_neg c2] at H;exact absurd H (by simp)
def cg.f (k:Nat) (Ma:List Int) (Oa:Int) (Pa:Int) (Na:Int) (oa:List (nj)):Option (List Int × Int × Int × Int × (List (Wd))):=(Td.f k Ma).bind fun t104=>((Mc.f k oa).bind fun t107=>(some (t104,Oa,Pa,Na,t107)))
theorem cg.calls (k:Nat) (zb:Option Addr) (yb:Nat) (Ma:List Int) (Oa:Int) (Pa:Int) (Na:Int) (Ob:Option Addr) (Fb:Nat) (oa:List (nj)) (r1:List Int) (r2:Int) (r3:Int) (r4:Int) (r5:List (Wd)) (w:World) (qd:Kd.C (Kd.int .i64) w zb Ma.length Ma) (Ad:Ma.length ≤ yb) (fe:Kd.C qw w Ob oa.length oa) (Fe:oa.length ≤ Fb) (h:cg.f k Ma Oa Pa Na oa=some (r1,r2,r3,r4,r5)) :
  Calls Try.prog 27 #[.agg #[.slice zb Ma.length yb,.int .i64 Oa,.int .i64 Pa,.int .i64 Na,.slice Ob oa.length Fb]] w fun e w'=>∃ Di v4_:Value,e = .returned (.agg #[Di,.int .i64 r2,.int .i64 r3,.int .i64 r4,v4_])∧Kd.R (Kd.int .i64) 3 w' w.heap.size (fun _=>True) Di r1∧Kd.S Km 83 w' w.heap.size (fun _=>True) v4_ r5∧Below w.heap.size w w':=by
 have j7:=Try.underlying40;have gD:=Try.underlying45;have Ng:=aa.mk qd;have Pg:=aa.mk Ad;clear qd Ad;have Dh:=aa.mk fe;have bk:=aa.mk Fe;clear fe Fe;have HB:=aa.mk (Below.refl w.heap.size w);have H:((Td.f k Ma).bind fun t104=>((Mc.f k oa).bind fun t107=>(some (t104,Oa,Pa,Na,t107))))=some (r1,r2,r3,r4,r5):=h;clear h;replace H:=Option.bind_eq_some_iff.mp H;obtain ⟨t104,gL,H⟩:=H
 try dsimp only at H
 have A2:=aa.mk gL;clear gL;replace H:=Option.bind_eq_some_iff.mp H;obtain ⟨t107,sG,H⟩:=H
 try dsimp only at H
 have A3:=aa.mk sG;clear sG;simp only [Option.some.injEq,Prod.mk.injEq] at H;obtain ⟨rfl,rfl,rfl,rfl,rfl⟩:=H;go_enter Try.func27,Try.ntmps27;go_wp2_with (first|((with_reducible refine Qb (N:=1) rfl ?_);refine Ic ?hg (N:=1) ?hd (cs:=#[.slice zb Ma.length yb,.int .i64 Oa,.int .i64 Pa,.int .i64 Na,.slice Ob oa.length Fb]) (t:=40) ?hr ?_;(case hd|hg=>rfl);(case hr=>exact jaj);intro Ka hg w4 Bd hb;have Pb:=aa.mk (Ga maj hb);have Rb:=aa.mk (Bd);have Yb:=aa.mk ((by rw [hg];exact (Qa maj):w.heap.size ≤ Ka));have Vc:=aa.mk ((by rw [hg];exact (Qa maj):w.heap.size ≤ Ka));clear HB;have HB:=Pb;have qa:=Rb;have Vf:=Yb;have Xa:=Vc;clear Pb Rb Yb Vc hb Bd hg)|((with_reducible refine Qb (N:=2) rfl ?_);refine Ic ?hg (N:=2) ?hd (cs:=#[.slice none 0 0,.int .i64 0,.int .i64 0,.int .i64 0,.slice none 0 0]) (t:=45) ?hr ?_;(case hd|hg=>rfl);(case hr=>exact jaj);intro Cd hg w5 Bd hb;have Pb:=aa.mk (Ta (g:=Ka) (o:=.cells #[.slice zb Ma.length yb,.int .i64 Oa,.int .i64 Pa,.int .i64 Na,.slice Ob oa.length Fb] 40 (0,0)) naj hb);have Rb:=aa.mk (Ga laj hb);have Yb:=aa.mk (Bd);have Vc:=aa.mk ((by rw [hg];exact (Qa laj):w.heap.size ≤ Cd));have Df:=aa.mk ((by rw [hg];exact (Qa laj):w.heap.size ≤ Cd));have Qg:=aa.mk ((by rw [hg];exact Nat.ne_of_lt (Te (g:=Ka) (o:=.cells #[.slice zb Ma.length yb,.int .i64 Oa,.int .i64 Pa,.int .i64 Na,.slice Ob oa.length Fb] 40 (0,0)) naj):Ka ≠ Cd));have dr:=aa.mk ((by rw [hg];exact Nat.ne_of_gt (Te (g:=Ka) (o:=.cells #[.slice zb Ma.length yb,.int .i64 Oa,.int .i64 Pa,.int .i64 Na,.slice Ob oa.length Fb] 40 (0,0)) naj):Cd ≠ Ka));clear qa HB;have qa:=Pb;have HB:=Rb;have Dd:=Yb;have rQ:=Vc;have cj:=Df;have qo:=Qg;have oo:=dr;clear Pb Rb Yb Vc Df Qg dr hb Bd hg)|((with_reducible refine Qb (N:=3) rfl ?_);refine Ic ?hg (N:=3) ?hd (cs:=#[.slice none 0 0,.int .i64 0,.int .i64 0,.int .i64 0,.slice none 0 0]) (t:=45) ?hr ?_;(case hd|hg=>rfl);(case hr=>exact jaj);intro we hg w6 Bd hb;have Pb:=aa.mk (Ta (g:=Ka) (o:=.cells #[.slice zb Ma.length yb,.int .i64 Oa,.int .i64 Pa,.int .i64 Na,.slice Ob oa.length Fb] 40 (0,0)) naj hb);have Rb:=aa.mk (Ta (g:=Cd) (o:=.cells #[.slice none 0 0,.int .i64 0,.int .i64 0,.int .i64 0,.slice none 0 0] 45 (0,0)) Jaj hb);have Yb:=aa.mk (Ga Caj hb);have Vc:=aa.mk (Bd);have Df:=aa.mk ((by rw [hg];exact (Qa Caj):w.heap.size ≤ we));have Qg:=aa.mk ((by rw [hg];exact (Qa Caj):w.heap.size ≤ we));have dr:=aa.mk ((by rw [hg];exact Nat.ne_of_lt (Te (g:=Ka) (o:=.cells #[.slice zb Ma.length yb,.int .i64 Oa,.int .i64 Pa,.int .i64 Na,.slice Ob oa.length Fb] 40 (0,0)) naj):Ka ≠ we));have yE:=aa.mk ((by rw [hg];exact Nat.ne_of_gt (Te (g:=Ka) (o:=.cells #[.slice zb Ma.length yb,.int .i64 Oa,.int .i64 Pa,.int .i64 Na,.slice Ob oa.length Fb] 40 (0,0)) naj):we ≠ Ka));have xE:=aa.mk ((by rw [hg];exact Nat.ne_of_lt (Te (g:=Cd) (o:=.cells #[.slice none 0 0,.int .i64 0,.int .i64 0,.int .i64 0,.slice none 0 0] 45 (0,0)) Jaj):Cd ≠ we));have uO:=aa.mk ((by rw [hg];exact Nat.ne_of_gt (Te (g:=Cd) (o:=.cells #[.slice none 0 0,.int .i64 0,.int .i64 0,.int .i64 0,.slice none 0 0] 45 (0,0)) Jaj):we ≠ Cd));clear qa Dd HB;have qa:=Pb;have Dd:=Rb;have HB:=Yb;have Zd:=Vc;have qQ:=Df;have gp:=Qg;have Ki:=dr;have mo:=yE;have Ge:=xE;have jo:=uO;clear Pb Rb Yb Vc Df Qg dr yE xE uO hb Bd hg;have J7:=qo.out;have G7:=oo.out;have I7:=Ki.out;have F7:=mo.out;have Bl:w6.cell? ⟨Ka,0,none⟩=some (.slice zb Ma.length yb):=(ya qa.out 0).trans rfl;have Al:w6.cell? ⟨Ka,1,none⟩=some (.int .i64 Oa):=(ya qa.out 1).trans rfl;have zl:w6.cell? ⟨Ka,2,none⟩=some (.int .i64 Pa):=(ya qa.out 2).trans rfl;have yl:w6.cell? ⟨Ka,3,none⟩=some (.int .i64 Na):=(ya qa.out 3).trans rfl;have xl:w6.cell? ⟨Ka,4,none⟩=some (.slice Ob oa.length Fb):=(ya qa.out 4).trans rfl;have vl:=za qa.out 0;have ql:=za qa.out 1;have jl:=za qa.out 2;have gl:=za qa.out 3;have fl:=za qa.out 4)|((with_reducible refine Kb (f:=56) rfl ?_);refine ie (some 6) rfl rfl Try.func56 (by kernel_rfl) rfl #[.slice zb Ma.length yb] rfl paj ?_;(with_reducible refine (Td.calls k _ _ Ma t104 _ ?Oc ?Nc A2.out).mono ?_);(case Oc=>repeat (first|exact (Kd.Za Ng.out HB.out)|(with_reducible refine Kd.Gd ?_ _)|(with_reducible refine Kd.Ed ?_ _)|(with_reducible refine Kd.He ?_)));(case Nc=>exact Pg.out);rintro e wv ⟨v105,rfl,Rg,hb⟩;refine ⟨_,rfl,?_⟩;have Pb:=aa.mk (Kd.Xc Rg (Qa Haj));have Rb:=aa.mk (Ta (g:=Ka) (o:=.cells #[.slice zb Ma.length yb,.int .i64 Oa,.int .i64 Pa,.int .i64 Na,.slice Ob oa.length Fb] 40 (0,0)) naj hb);have Yb:=aa.mk (Ta (g:=Cd) (o:=.cells #[.slice none 0 0,.int .i64 0,.int .i64 0,.int .i64 0,.slice none 0 0] 45 (0,0)) Jaj hb);have Vc:=aa.mk (Ta (g:=we) (o:=.cells #[.slice none 0 0,.int .i64 0,.int .i64 0,.int .i64 0,.slice none 0 0] 45 (0,0)) (by (with_reducible repeat (first|refine Ca ?_ _|refine Fa ?_|refine Ba ?_ _));exact Zd.out) hb);have Df:=aa.mk (Ga Haj hb);clear qa Dd Zd HB;have jr:=Pb;have qa:=Rb;have Dd:=Yb;have Zd:=Vc;have HB:=Df;clear Pb Rb Yb Vc Df;(try clear hb);(try clear Cl);(try clear hk);(try clear hi);(try clear Rg);obtain ⟨Ku,wu,r_⟩:=Kd.Vb jr.out;subst r_;have cac:=jo.out;have Wab:=Ge.out;have Bn:wv.cell? ⟨we,0,none⟩=some (.slice none 0 0):=(ya Zd.out 0).trans rfl;have zn:wv.cell? ⟨we,1,none⟩=some (.int .i64 0):=(ya Zd.out 1).trans rfl;have vn:wv.cell? ⟨we,2,none⟩=some (.int .i64 0):=(ya Zd.out 2).trans rfl;have qn:wv.cell? ⟨we,3,none⟩=some (.int .i64 0):=(ya Zd.out 3).trans rfl;have pn:wv.cell? ⟨we,4,none⟩=some (.slice none 0 0):=(ya Zd.out 4).trans rfl;have kn:=za Zd.out 0;have gn:=za Zd.out 1;have en:=za Zd.out 2;have dn:=za Zd.out 3;have bn:=za Zd.out 4;have Kv:wv.cell? ⟨Ka,0,none⟩=some (.slice zb Ma.length yb):=(ya qa.out 0).trans rfl;have Jv:wv.cell? ⟨Ka,1,none⟩=some (.int .i64 Oa):=(ya qa.out 1).trans rfl;have Iv:wv.cell? ⟨Ka,2,none⟩=some (.int .i64 Pa):=(ya qa.out 2).trans rfl;have Hv:wv.cell? ⟨Ka,3,none⟩=some (.int .i64 Na):=(ya qa.out 3).trans rfl;have Gv:wv.cell? ⟨Ka,4,none⟩=some (.slice Ob oa.length Fb):=(ya qa.out 4).trans rfl;have Fv:=za qa.out 0;have Dv:=za qa.out 1;have Cv:=za qa.out 2;have Bv:=za qa.out 3;have Av:=za qa.out 4)|((with_reducible refine Kb (f:=70) rfl ?_);refine ie (some 19) rfl rfl Try.func70 (by kernel_rfl) rfl #[.slice Ob oa.length Fb] rfl paj ?_;(with_reducible refine (Mc.calls k _ _ oa t107 _ ?Oc ?Nc A3.out).mono ?_);(case Oc=>exact Kd.Za Dh.out Haj);(case Nc=>exact bk.out);rintro e yo ⟨faf,rfl,Rg,hb⟩;refine ⟨_,rfl,?_⟩;have Pb:=aa.mk (Kd.ec (by (with_reducible repeat (first|apply Kd.Ia|apply Kd.La|apply Kd.Ra));exact (Kd.Eb (Kd.Jf (p:=⟨we,3,none⟩) (Kd.Jf (p:=⟨we,2,none⟩) (Kd.Jf (p:=⟨we,1,none⟩) (Kd.Jf (p:=⟨we,0,none⟩) (Kd.Xj jr.out Zd.out (by decide)) (fun _ hk=>hk.2) (.slice Ku t104.length wu)) (fun _ hk=>hk.2) (.int .i64 Oa)) (fun _ hk=>hk.2) (.int .i64 Pa)) (fun _ hk=>hk.2) (.int .i64 Na)) (fun _ h_=>h_.1))) hb);have Rb:=aa.mk (Kd.Ov Rg (Qa Haj));have Yb:=aa.mk (Ta (g:=Ka) (o:=.cells #[.slice zb Ma.length yb,.int .i64 Oa,.int .i64 Pa,.int .i64 Na,.slice Ob oa.length Fb] 40 (0,0)) (by (with_reducible repeat (first|refine Ca ?_ _|refine Fa ?_|refine Ba ?_ _));refine ld ?_ Ki.out _;(with_reducible repeat (first|refine Ca ?_ _|refine Fa ?_|refine Ba ?_ _));refine ld ?_ Ki.out _;(with_reducible repeat (first|refine Ca ?_ _|refine Fa ?_|refine Ba ?_ _));refine ld ?_ Ki.out _;(with_reducible repeat (first|refine Ca ?_ _|refine Fa ?_|refine Ba ?_ _));refine ld ?_ Ki.out _;(with_reducible repeat (first|refine Ca ?_ _|refine Fa ?_|refine Ba ?_ _));exact qa.out) hb);have Vc:=aa.mk (Ta (g:=Cd) (o:=.cells #[.slice none 0 0,.int .i64 0,.int .i64 0,.int .i64 0,.slice none 0 0] 45 (0,0)) (by (with_reducible repeat (first|refine Ca ?_ _|refine Fa ?_|refine Ba ?_ _));refine ld ?_ Ge.out _;(with_reducible repeat (first|refine Ca ?_ _|refine Fa ?_|refine Ba ?_ _));refine ld ?_ Ge.out _;(with_reducible repeat (first|refine Ca ?_ _|refine Fa ?_|refine Ba ?_ _));refine ld ?_ Ge.out _;(with_reducible repeat (first|refine Ca ?_ _|refine Fa ?_|refine Ba ?_ _));refine ld ?_ Ge.out _;(with_reducible repeat (first|refine Ca ?_ _|refine Fa ?_|refine Ba ?_ _));exact Dd.out) hb);have Df:=aa.mk (Ta (g:=we) (o:=.cells #[.slice Ku t104.length wu,.int .i64 Oa,.int .i64 Pa,.int .i64 Na,.slice none 0 0] 45 (0,0)) (by (with_reducible repeat (first|refine Ca ?_ _|refine Fa ?_|refine Ba ?_ _));refine ud (cs:=#[.slice Ku t104.length wu,.int .i64 Oa,.int .i64 Pa,.int .i64 0,.slice none 0 0]) ?_ 3 _ rfl;(with_reducible repeat (first|refine Ca ?_ _|refine Fa ?_|refine Ba ?_ _));refine ud (cs:=#[.slice Ku t104.length wu,.int .i64 Oa,.int .i64 0,.int .i64 0,.slice none 0 0]) ?_ 2 _ rfl;(with_reducible repeat (first|refine Ca ?_ _|refine Fa ?_|refine Ba ?_ _));refine ud (cs:=#[.slice Ku t104.length wu,.int .i64 0,.int .i64 0,.int .i64 0,.slice none 0 0]) ?_ 1 _ rfl;(with_reducible repeat (first|refine Ca ?_ _|refine Fa ?_|refine Ba ?_ _));refine ud (cs:=#[.slice none 0 0,.int .i64 0,.int .i64 0,.int .i64 0,.slice none 0 0]) ?_ 0 _ rfl;(with_reducible repeat (first|refine Ca ?_ _|refine Fa ?_|refine Ba ?_ _));exact Zd.out) hb);have Qg:=aa.mk (Ga Haj hb);clear jr qa Dd Zd HB;have jr:=Pb;have jQ:=Rb;have qa:=Yb;have Dd:=Vc;have Zd:=Df;have HB:=Qg;clear Pb Rb Yb Vc Df Qg;(try clear hb);(try clear Cl);(try clear hk);(try clear hi);(try clear Rg);obtain ⟨wC,RB,UJ⟩:=Kd.Jq jQ.out;subst UJ;have I3:yo.cell? ⟨we,0,none⟩=some (.slice Ku t104.length wu):=(ya Zd.out 0).trans rfl;have G3:yo.cell? ⟨we,1,none⟩=some (.int .i64 Oa):=(ya Zd.out 1).trans rfl;have F3:yo.cell? ⟨we,2,none⟩=some (.int .i64 Pa):=(ya Zd.out 2).trans rfl;have E3:yo.cell? ⟨we,3,none⟩=some (.int .i64 Na):=(ya Zd.out 3).trans rfl;have D3:yo.cell? ⟨we,4,none⟩=some (.slice none 0 0):=(ya Zd.out 4).trans rfl;have D1:=za Zd.out 0;have C1:=za Zd.out 1;have Z0:=za Zd.out 2;have Y0:=za Zd.out 3;have X0:=za Zd.out 4;have AF:yo.cell? ⟨Cd,0,none⟩=some (.slice none 0 0):=(ya Dd.out 0).trans rfl;have zF:yo.cell? ⟨Cd,1,none⟩=some (.int .i64 0):=(ya Dd.out 1).trans rfl;have yF:yo.cell? ⟨Cd,2,none⟩=some (.int .i64 0):=(ya Dd.out 2).trans rfl;have xF:yo.cell? ⟨Cd,3,none⟩=some (.int .i64 0):=(ya Dd.out 3).trans rfl;have wF:yo.cell? ⟨Cd,4,none⟩=some (.slice none 0 0):=(ya Dd.out 4).trans rfl;have jF:=za Dd.out 0;have iF:=za Dd.out 1;have gF:=za Dd.out 2;have fF:=za Dd.out 3;have eF:=za Dd.out 4));refine bodyPost_ret (results_cell_row rfl _ _ Cd 45 #[.slice Ku t104.length wu,.int .i64 Oa,.int .i64 Pa,.int .i64 Na,.slice wC t107.length RB] (0,0) _ rfl (by (with_reducible repeat (first|refine Ca ?_ _|refine Fa ?_|refine Ba ?_ _));refine ud (cs:=#[.slice Ku t104.length wu,.int .i64 Oa,.int .i64 Pa,.int .i64 Na,.slice none 0 0]) ?_ 4 _ rfl;(with_reducible repeat (first|refine Ca ?_ _|refine Fa ?_|refine Ba ?_ _));refine ud (cs:=#[.slice Ku t104.length wu,.int .i64 Oa,.int .i64 Pa,.int .i64 0,.slice none 0 0]) ?_ 3 _ rfl;(with_reducible repeat (first|refine Ca ?_ _|refine Fa ?_|refine Ba ?_ _));refine ud (cs:=#[.slice Ku t104.length wu,.int .i64 Oa,.int .i64 0,.int .i64 0,.slice none 0 0]) ?_ 2 _ rfl;(with_reducible repeat (first|refine Ca ?_ _|refine Fa ?_|refine Ba ?_ _));refine ud (cs:=#[.slice Ku t104.length wu,.int .i64 0,.int .i64 0,.int .i64 0,.slice none 0 0]) ?_ 1 _ rfl;(with_reducible repeat (first|refine Ca ?_ _|refine Fa ?_|refine Ba ?_ _));refine ud (cs:=#[.slice none 0 0,.int .i64 0,.int .i64 0,.int .i64 0,.slice none 0 0]) ?_ 0 _ rfl;(with_reducible repeat (first|refine Ca ?_ _|refine Fa ?_|refine Ba ?_ _));refine ld ?_ Ge.out _;(with_reducible repeat (first|refine Ca ?_ _|refine Fa ?_|refine Ba ?_ _));exact Dd.out) Try.underlying45 rfl (by kernel_rfl)) rfl ?_;exact ⟨_,_,taj,by (with_reducible repeat (first|apply Kd.Ia|apply Kd.La|apply Kd.Ra));exact Kd.Eb (Kd.Jf (p:=⟨Cd,4,none⟩) (Kd.Jf (p:=⟨Cd,3,none⟩) (Kd.Jf (p:=⟨Cd,2,none⟩) (Kd.Jf (p:=⟨Cd,1,none⟩) (Kd.Jf (p:=⟨Cd,0,none⟩) (Kd.Jf (p:=⟨we,4,none⟩) (Kd.Xj (Kd.Xj jr.out Zd.out (by decide)) Dd.out (by decide)) (fun _ hk=>hk.1.2) (.slice wC t107.length RB)) (fun _ hk=>hk.2) (.slice Ku t104.length wu)) (fun _ hk=>hk.2) (.int .i64 Oa)) (fun _ hk=>hk.2) (.int .i64 Pa)) (fun _ hk=>hk.2) (.int .i64 Na)) (fun _ hk=>hk.2) (.slice wC t107.length RB)) (fun _ hk=>trivial),by (with_reducible repeat (first|apply Kd.Rf|apply Kd.Qf|apply Kd.Cg));exact Kd.wg (Kd.jy (p:=⟨Cd,4,none⟩) (Kd.jy (p:=⟨Cd,3,none⟩) (Kd.jy (p:=⟨Cd,2,none⟩) (Kd.jy (p:=⟨Cd,1,none⟩) (Kd.jy (p:=⟨Cd,0,none⟩) (Kd.jy (p:=⟨we,4,none⟩) (Kd.ZF (Kd.ZF jQ.out Zd.out (by decide)) Dd.out (by decide)) (fun _ hk=>hk.1.2) (.slice wC t107.length RB)) (fun _ hk=>hk.2) (.slice Ku t104.length wu)) (fun _ hk=>hk.2) (.int .i64 Oa)) (fun _ hk=>hk.2) (.int .i64 Pa)) (fun _ hk=>hk.2) (.int .i64 Na)) (fun _ hk=>hk.2) (.slice wC t107.length RB)) (fun _ hk=>trivial),dak⟩
def Ud.l0:Nat→List Int→List Int→Int→Option (Bool)
 | 0,_,_,_=>none
 | k + 1,x0,x1,x5=>if x5 < (x0.length:Int) then (if 0 ≤ x5 then (if x5 < (x1.length:Int) then (if (rd x0 x5)=(rd x1 x5) then (Ud.l0 k x0 x1 (wrap64 (x5 + 1))) else (some false)) else (none)) else (none)) else (some true)
def Ud.f (k:Nat) (l0:List Int) (l1:List Int):Option (Bool):=if (l0.length:Int)=(l1.length:Int) then (Ud.l0 k l0 l1 0) else (some false)
theorem Ud.calls (k:Nat) (A0:Option Addr) (c0:Nat) (l0:List Int) (A1:Option Addr) (c1:Nat) (l1:List Int) (r:Bool) (w:World) (Hi:Kd.C (Kd.int .i64) w A0 l0.length l0) (hc0:l0.length ≤ c0) (hr1:Kd.C (Kd.int .i64) w A1 l1.length l1) (hc1:l1.length ≤ c1) (h:Ud.f k l0 l1=some r) :
  Calls Try.prog 17 #[.slice A0 l0.length c0,.slice A1 l1.length c1] w fun e w'=>e = .returned (.bool r)∧Sb w w':=by
 have ak:=aa.mk Hi;have oy:=aa.mk hc0;clear Hi hc0;have RP:=aa.mk hr1;have Z4:=aa.mk hc1;clear hr1 hc1;have H:(if (l0.length:Int)=(l1.length:Int) then (Ud.l0 k l0 l1 0) else (some false))=some r:=h;clear h
 by_cases c3:(l0.length:Int)=(l1.length:Int)
 ·rw [if_pos c3] at H;have Ah:=beq_iff_eq.mpr c3;have Kr:=bne_eq_false_iff_eq.mpr c3;have FW:(l0.length == l1.length)=true:=by first|simpa using c3|(simp at c3 ⊢;omega)
  clear c3;have H':=aa.mk H;clear H;go_enter Try.func17,Try.ntmps17;go_wp2
  repeat (go_quiet (fail);try go_wp2)
  go_loopg [5] k (fun kq v5 w'=>∃ (Da:Int),v5 = .int .i64 Da∧aa (Ud.l0 kq l0 l1 Da=some r)∧aa (kq ≤ k)∧Sb w w')
  case atStart=>exact ⟨(0),raj,H',⟨Nat.le_refl _⟩,xaj⟩
  case round =>
   clear H'
   try clear c1
   try clear p2
   try clear c3
   try clear Ah
   try clear Kr
   try clear FW
   (try clear HA);(try clear Kf);obtain ⟨Da,rfl,HA,Kf,⟨m1,rfl⟩⟩:=hrel;cases gk with
   | zero=>exact absurd HA.out (by simp [Ud.l0])
   | succ k1 =>
    have H:=HA.out;clear HA;simp only [Ud.l0] at H
    by_cases c4:Da < (l0.length:Int)
    ·rw [if_pos c4] at H;have zm:decide (Da < (l0.length:Int))=true:=decide_eq_true c4;clear c4
     by_cases c5:0 ≤ Da
     ·rw [if_pos c5] at H;have Rq:decide (0 ≤ Da)=true:=decide_eq_true c5;clear c5
      by_cases c6:Da < (l1.length:Int)
      ·rw [if_pos c6] at H;have Gt:decide (Da < (l1.length:Int))=true:=decide_eq_true c6;clear c6
       by_cases c7:(rd l0 Da)=(rd l1 Da)
       ·rw [if_pos c7] at H;have yu:=beq_iff_eq.mpr c7;have fK:=bne_eq_false_iff_eq.mpr c7;clear c7;have H':=aa.mk H;clear H;have Mf:0 ≤ (Da:Int):=Ja;have Lf:Da < (l0.length:Int):=Ja;obtain ⟨Cm,Sj,Cf⟩:=Kd.Ld ak.out Da Mf Lf;cases Sj;replace Mf:=eq_true Mf;replace Lf:=eq_true Lf;have jw:0 ≤ (Da:Int):=Ja;have ew:Da < (l1.length:Int):=Ja;obtain ⟨rK,ZJ,Rs⟩:=Kd.Ld RP.out Da jw ew;cases ZJ;replace jw:=eq_true jw;replace ew:=eq_true ew;go_wp2
        repeat (go_quiet (fail);try go_wp2)
        go_roundg k1
        case measure=>have:=Kf.out;omega
        case rel=>exact ⟨(wrap64 (Da + 1)),raj,H',⟨by have:=Kf.out;omega⟩,xaj⟩
       ·rw [if_neg c7] at H;have yu:=beq_eq_false_iff_ne.mpr c7;have fK:=bne_iff_ne.mpr c7;obtain rfl:=Option.some.inj H;have Mf:0 ≤ (Da:Int):=Ja;have Lf:Da < (l0.length:Int):=Ja;obtain ⟨Cm,Sj,Cf⟩:=Kd.Ld ak.out Da Mf Lf;cases Sj;replace Mf:=eq_true Mf;replace Lf:=eq_true Lf;have jw:0 ≤ (Da:Int):=Ja;have ew:Da < (l1.length:Int):=Ja;obtain ⟨rK,ZJ,Rs⟩:=Kd.Ld RP.out Da jw ew;cases ZJ;replace jw:=eq_true jw;replace ew:=eq_true ew;go_wp2
        repeat (go_quiet (fail);try go_wp2)
        go_ret;exact ⟨Naj,xaj⟩
      ·rw [if_neg c6] at H;exact absurd H (by simp)
     ·rw [if_neg c5] at H;exact absurd H (by simp)
    ·rw [if_neg c4] at H;have zm:decide (Da < (l0.length:Int))=false:=decide_eq_false c4;clear c4;obtain rfl:=Option.some.inj H;go_wp2
     repeat (go_quiet (fail);try go_wp2)
     go_ret;exact ⟨Naj,xaj⟩
 ·rw [if_neg c3] at H;have Ah:=beq_eq_false_iff_ne.mpr c3;have Kr:=bne_iff_ne.mpr c3;have FW:(l0.length == l1.length)=false:=by first|simpa using c3|(simp at c3 ⊢;omega)
  obtain rfl:=Option.some.inj H;go_enter Try.func17,Try.ntmps17;go_wp2
  repeat (go_quiet (fail);try go_wp2)
  go_ret;exact ⟨Naj,xaj⟩
theorem Ev.pos {α:Type} {c:Prop} [Decidable c] {f g:Nat→Option α} {r:α} (h:c) (k:Ev f r):Ev (fun n=>if c then f n else g n) r:=Ev.congr (fun n=>if_pos h) k
theorem Ev.neg {α:Type} {c:Prop} [Decidable c] {f g:Nat→Option α} {r:α} (h:¬ c) (k:Ev g r):Ev (fun n=>if c then f n else g n) r:=Ev.congr (fun n=>if_neg h) k
theorem Ev.val {α β:Type} {a:α} {f:Nat→α→Option β} {r:β} (k:Ev (fun n=>f n a) r):Ev (fun n=>(some a).bind (f n)) r:=Ev.congr (fun n=>rfl) k
theorem Ev.here {α:Type} {o:Option α} {r:α} (h:o=some r):Ev (fun _=>o) r:=Ev.congr (fun n=>h) (Ev.now r)
theorem bg {x:Int} (h:-9223372036854775808 ≤ x) (h':x ≤ 9223372036854775807):wrap64 x=x:=by
 unfold wrap64;omega
theorem Ve {i n:Nat} (h:i < n) (hn:n ≤ 9223372036854775807):wrap64 ((i:Int) + 1)=((i + 1:Nat):Int):=by
 rw [bg (by omega) (by omega)];omega
theorem oh {ρ:Type} {n:Nat} {r:ρ} (P:Nat→Prop) (hend:P n) (hstep:∀ i,i < n→P (i + 1)→P i):∀ i,i ≤ n→P i:=by
 have key:∀ d i,i + d=n→P i:=by
  intro d
  induction d with
  | zero =>
   intro i hi;have:i=n:=by omega
   exact this ▸ hend
  | succ d ih =>
   intro i hi;exact hstep i (by omega) (ih (i + 1) (by omega))
 intro i hi;exact key (n - i) i (by omega)
theorem Bt {α:Type} {m:List α} {z:α} {i:Nat} (h:i < m.length):(m.take i ++ List.replicate (m.length - i) z).set i (m.getD i z)=m.take (i + 1) ++ List.replicate (m.length - (i + 1)) z:=by
 rw [List.set_append_right _ _ (by rw [List.length_take];omega),List.length_take,Nat.min_eq_left (by omega),Nat.sub_self];rw [show m.length - i=(m.length - (i + 1)) + 1 from by omega,List.replicate_succ,List.set_cons_zero,List.take_succ_eq_append_getElem h,List.append_assoc];simp [List.getD_eq_getElem?_getD,List.getElem?_eq_getElem h]
theorem Tx {α:Type} {m:List α} {z:α}:m.take 0 ++ List.replicate (m.length - 0) z=List.replicate m.length z:=by simp
theorem Bw {α:Type} {m:List α} {z:α}:m.take m.length ++ List.replicate (m.length - m.length) z=m:=by simp
theorem xy (l:List Int) (i:Nat):rd l (i:Int)=l.getD i 0:=rfl
def iota (m:Int) (n:Nat):List Int:=(List.range n).map fun (j:Nat)=>m + (j:Int)
theorem si (m:Int) (n:Nat):(iota m n).length=n:=by simp [iota]
theorem Px {m:Int} {n i:Nat} (h:i < n):(iota m n).getD i 0=m + i:=by simp [iota,List.getD_eq_getElem?_getD,h]
theorem JA {α:Type} {m l:List α} {z:α} {i:Nat} (hl:l.length=m.length) (h:i < m.length):(m.take i ++ l.drop i).set i (m.getD i z)=m.take (i + 1) ++ l.drop (i + 1):=by
 rw [List.set_append_right _ _ (by rw [List.length_take];omega),List.length_take,Nat.min_eq_left (by omega),Nat.sub_self];rw [List.drop_eq_getElem_cons (by omega),List.set_cons_zero,List.take_succ_eq_append_getElem h,List.append_assoc];simp [List.getD_eq_getElem?_getD,List.getElem?_eq_getElem h]
theorem UA (a b c:Int):Gi.f a b c=some (uj a b c):=by
 unfold Gi.f uj
 by_cases h:a ≥ b
 ·rw [if_pos h];have h':b ≤ a:=h;simp [h']
 ·rw [if_neg h];have h':¬ b ≤ a:=h;simp [h']
theorem gH (l:List Int) (hl:l.length ≤ 35184372088832):Ev (fun k=>Td.f k l) l:=by
 refine Ev.congr (f:=fun k=>Td.l0 k l (List.replicate l.length 0) 0) (fun k=>?_) ?_
 ·unfold Td.f;rw [if_pos (by omega),if_pos (by omega)]
  rfl
 ·have key:=oh (r:=l) (n:=l.length) (fun i=>Ev (fun k=>Td.l0 k l (l.take i ++ List.replicate (l.length - i) 0) (i:Int)) l) ?_ ?_ 0 (by omega)
  ·simpa using key
  ·refine Ev.step (fun k=>by rw [Td.l0]) ?_;refine Ev.neg (by omega) ?_;rw [Bw];exact Ev.now l
  ·intro i hi h;refine Ev.step (fun k=>by rw [Td.l0]) ?_;refine Ev.pos (by omega) (Ev.pos (by omega) (Ev.pos (by simp;omega) ?_));rw [Ve hi (by omega),xy,Int.toNat_natCast,Bt hi];exact h
theorem Vx (l:List Int) (hl:l.length ≤ 9223372036854775807):Ev (fun k=>Ud.f k l l) true:=by
 refine Ev.congr (f:=fun k=>Ud.l0 k l l 0) (fun k=>?_) ?_
 ·unfold Ud.f;rw [if_pos rfl]
 ·refine oh (r:=true) (n:=l.length) (fun i=>Ev (fun k=>Ud.l0 k l l (i:Int)) true) ?_ ?_ 0 (by omega)
  ·refine Ev.step (fun k=>by rw [Ud.l0]) ?_;exact Ev.neg (by omega) (Ev.now _)
  ·intro i hi h;refine Ev.step (fun k=>by rw [Ud.l0]) ?_;refine Ev.pos (by omega) (Ev.pos (by omega) (Ev.pos (by omega) (Ev.pos rfl ?_)));rw [Ve hi hl];exact h
theorem DL (l:List Int) (a:Int) (ha:0 ≤ a) (ha':a ≤ 1048576) (hl:l.length ≤ 9223372036854775807):∃ t,gh.f l a=some t∧t ≤ a∧(0 ≤ t→t + l.length=a):=by
 unfold gh.f;rw [bg (by omega) (by omega)]
 split
 ·exact ⟨-1,rfl,by omega,by omega⟩
 ·exact ⟨_,rfl,by omega,by omega⟩
def xk (x:Rk):oc:=⟨x.f0,x.f1,x.f2,x.f3,x.f4,x.f5,x.f6⟩
theorem BB (l:List Rk) (hl:l.length ≤ 4398046511104):Ev (fun k=>Lc.f k l) (l.map xk):=by
 refine Ev.congr (f:=fun k=>Lc.l0 k l (List.replicate l.length Qi) 0) (fun k=>?_) ?_
 ·unfold Lc.f;rw [if_pos (by omega),if_pos (by omega)]
  rfl
 ·have key:=oh (r:=l.map xk) (n:=l.length) (fun i=>Ev (fun k=>Lc.l0 k l ((l.map xk).take i ++ List.replicate ((l.map xk).length - i) Qi) (i:Int)) (l.map xk)) ?_ ?_ 0 (by omega)
  ·rw [Tx,List.length_map] at key;exact key
  ·refine Ev.step (fun k=>by rw [Lc.l0]) ?_;refine Ev.neg (by omega) ?_;have e:=Bw (m:=l.map xk) (z:=Qi);rw [List.length_map] at e;rw [List.length_map,e];exact Ev.now _
  ·intro i hi h;refine Ev.step (fun k=>by rw [Lc.l0]) ?_;refine Ev.pos (by omega) (Ev.pos (by omega) ?_);unfold yj.f;refine Ev.val (Ev.pos (by simp;omega) ?_)
   have hc:xk (Ub l (i:Int))=(l.map xk).getD i Qi:=by
    simp [Ub,List.getD_eq_getElem?_getD,hi]
   have hf:=Bt (m:=l.map xk) (z:=Qi) (i:=i) (by rw [List.length_map];exact hi);rw [← hc] at hf;rw [Ve hi (by omega),Int.toNat_natCast];have e:=hf ▸ h;exact e
def Yt (l:List Rk):Nat:=(l.map fun x=>x.f6.size).sum
def vG (l:List Rk):Nat:=l.length + Yt l
def DQ (l:List nj):Nat:=l.length + (l.map fun x=>vG x.f0).sum
theorem Yq {l:List Rk} {i:Nat} (h:i < l.length):Ub l (i:Int)=l[i]:=by simp [Ub,List.getD_eq_getElem?_getD,h]
theorem Nn {l:List nj} {i:Nat} (h:i < l.length):yc l (i:Int)=l[i]:=by simp [yc,List.getD_eq_getElem?_getD,h]
theorem DB (l:List Rk) (a:Int) (ha:0 ≤ a) (ha':a ≤ 1048576) (hl:l.length ≤ 9223372036854775807) (ht:∀ x ∈ l,x.f6.size ≤ 9223372036854775807) :
  ∃ t,Ev (fun k=>Yc.f k l a) t∧t ≤ a∧(0 ≤ t→t + vG l=a):=by
 have key:=oh (ρ:=Unit) (r:=()) (n:=l.length) (fun i=>∀ a:Int,0 ≤ a→a ≤ 1048576→∃ t,Ev (fun k=>Yc.l0 k l a (i:Int)) t∧t ≤ a∧(0 ≤ t→t + Yt (l.drop i)=a)) ?_ ?_ 0 (by omega)
 ·unfold Yc.f;rw [bg (by omega) (by omega)]
  by_cases h:a - (l.length:Int) < 0
  ·exact ⟨-1,Ev.pos h (Ev.now _),by omega,by omega⟩
  ·obtain ⟨t,e1,e2,e3⟩:=key (a - l.length) (by omega) (by omega);refine ⟨t,Ev.neg h e1,by omega,fun h0=>?_⟩;have:=e3 h0;rw [List.drop_zero] at this;unfold vG;omega
 ·intro a h0 h1;refine ⟨a,?_,by omega,?_⟩
  ·refine Ev.step (fun k=>by rw [Yc.l0]) ?_;exact Ev.neg (by omega) (Ev.now _)
  ·intro _;rw [List.drop_length];simp [Yt]
 ·intro i hi ih a h0 h1;have hx:=ht l[i] (List.getElem_mem hi)
  have hd:Yt (l.drop i)=l[i].f6.size + Yt (l.drop (i + 1)):=by
   rw [List.drop_eq_getElem_cons hi];simp only [Yt,List.map_cons,List.sum_cons]
  by_cases h:a - (l[i].f6.size:Int) < 0
  ·refine ⟨-1,?_,by omega,by omega⟩;refine Ev.step (fun k=>by rw [Yc.l0]) ?_;refine Ev.pos (by omega) (Ev.pos (by omega) ?_);rw [Yq hi];unfold Kh.f;rw [bg (by omega) (by omega),if_pos h];exact Ev.val (Ev.pos (by decide) (Ev.now _))
  ·obtain ⟨t,e1,e2,e3⟩:=ih (a - l[i].f6.size) (by omega) (by omega);refine ⟨t,?_,by omega,fun hh=>by have:=e3 hh;omega⟩;refine Ev.step (fun k=>by rw [Yc.l0]) ?_;refine Ev.pos (by omega) (Ev.pos (by omega) ?_);rw [Yq hi];unfold Kh.f;rw [bg (by omega) (by omega),if_neg h];refine Ev.val (Ev.neg (by omega) ?_);rw [Ve hi hl];exact e1
theorem EB (l:List nj) (a:Int) (ha:0 ≤ a) (ha':a ≤ 1048576) (hl:l.length ≤ 9223372036854775807) (ht:∀ x ∈ l,x.f0.length ≤ 9223372036854775807∧∀ y ∈ x.f0,y.f6.size ≤ 9223372036854775807) :
  ∃ t,Ev (fun k=>Zc.f k l a) t∧t ≤ a∧(0 ≤ t→t + DQ l=a):=by
 have key:=oh (ρ:=Unit) (r:=()) (n:=l.length) (fun i=>∀ a:Int,0 ≤ a→a ≤ 1048576→∃ t,Ev (fun k=>Zc.l0 k l a (i:Int)) t∧t ≤ a∧(0 ≤ t→t + ((l.drop i).map fun x=>vG x.f0).sum=a)) ?_ ?_ 0 (by omega)
 ·unfold Zc.f;rw [bg (by omega) (by omega)]
  by_cases h:a - (l.length:Int) < 0
  ·exact ⟨-1,Ev.pos h (Ev.now _),by omega,by omega⟩
  ·obtain ⟨t,e1,e2,e3⟩:=key (a - l.length) (by omega) (by omega);refine ⟨t,Ev.neg h e1,by omega,fun h0=>?_⟩;have:=e3 h0;rw [List.drop_zero] at this;unfold DQ;omega
 ·intro a h0 h1;refine ⟨a,?_,by omega,?_⟩
  ·refine Ev.step (fun k=>by rw [Zc.l0]) ?_;exact Ev.neg (by omega) (Ev.now _)
  ·intro _;rw [List.drop_length];simp
 ·intro i hi ih a h0 h1;have hx:=ht l[i] (List.getElem_mem hi)
  have hd:((l.drop i).map fun x=>vG x.f0).sum=vG l[i].f0 + ((l.drop (i + 1)).map fun x=>vG x.f0).sum:=by
   rw [List.drop_eq_getElem_cons hi];simp only [List.map_cons,List.sum_cons]
  obtain ⟨u,f1,f2,f3⟩:=DB l[i].f0 a h0 h1 hx.1 hx.2
  by_cases h:u < 0
  ·refine ⟨-1,?_,by omega,by omega⟩;refine Ev.step (fun k=>by rw [Zc.l0]) ?_;refine Ev.pos (by omega) (Ev.pos (by omega) ?_);rw [Nn hi];unfold Lh.f;refine Ev.bind (Ev.bind f1 (Ev.pos h (Ev.now _))) ?_;exact Ev.pos (by decide) (Ev.now _)
  ·obtain ⟨t,e1,e2,e3⟩:=ih u (by omega) (by omega);have:=f3 (by omega);refine ⟨t,?_,by omega,fun hh=>by have:=e3 hh;omega⟩;refine Ev.step (fun k=>by rw [Zc.l0]) ?_;refine Ev.pos (by omega) (Ev.pos (by omega) ?_);rw [Nn hi];unfold Lh.f;refine Ev.bind (Ev.bind f1 (Ev.neg h (Ev.now _))) ?_;refine Ev.neg (by omega) ?_;rw [Ve hi hl];exact e1
theorem nw {l:List Nat} {n:Nat} (h:n ∈ l):n ≤ l.sum:=by
 induction l with
 | nil=>cases h
 | cons a l ih =>
  rw [List.sum_cons];cases h with
  | head=>omega
  | tail _ h=>have:=ih h;omega
theorem CA {l:List nj} {n:Nat} (h:DQ l ≤ n):l.length ≤ n∧∀ x ∈ l,x.f0.length ≤ n:=by
 unfold DQ at h;refine ⟨by omega,fun x hx=>?_⟩;have:vG x.f0 ≤ (l.map fun x=>vG x.f0).sum:=nw (List.mem_map.mpr ⟨x,hx,rfl⟩);unfold vG at this h;omega
theorem wD (x0:List Int) (x1 x2 x3:Int) (x4:List nj) (a:Int) (ha:0 ≤ a) (ha':a ≤ 1048576) (h0:x0.length ≤ 9223372036854775807) (hl:x4.length ≤ 9223372036854775807) (ht:∀ x ∈ x4,x.f0.length ≤ 9223372036854775807∧∀ y ∈ x.f0,y.f6.size ≤ 9223372036854775807) :
  ∃ t,Ev (fun k=>jh.f k x0 x1 x2 x3 x4 a) t∧t ≤ a∧(0 ≤ t→t + x0.length + DQ x4=a):=by
 obtain ⟨t,e1,e2,e3⟩:=DL x0 a ha ha' h0;unfold jh.f;rw [e1];simp only [Option.bind_some]
 by_cases ht':t < 0
 ·exact ⟨-1,Ev.pos ht' (Ev.now _),by omega,by omega⟩
 ·obtain ⟨u,f1,f2,f3⟩:=EB x4 t (by omega) (by omega) hl ht
  by_cases hu:u < 0
  ·exact ⟨-1,Ev.neg ht' (Ev.bind f1 (Ev.pos hu (Ev.now _))),by omega,by omega⟩
  ·exact ⟨u,Ev.neg ht' (Ev.bind f1 (Ev.neg hu (Ev.now _))),by omega,fun _=>by have:=e3 (by omega);have:=f3 (by omega);omega⟩
def Bf (x:nj):Wd:=⟨x.f0.map xk,x.f1,x.f2,x.f3,x.f4⟩
theorem CB (l:List nj) (hl:l.length ≤ 1048576) (hb:∀ x ∈ l,x.f0.length ≤ 1048576):Ev (fun k=>Mc.f k l) (l.map Bf):=by
 refine Ev.congr (f:=fun k=>Mc.l0 k l (List.replicate l.length iA) 0) (fun k=>?_) ?_
 ·unfold Mc.f;rw [if_pos (by omega),if_pos (by omega)]
  rfl
 ·have key:=oh (r:=l.map Bf) (n:=l.length) (fun i=>Ev (fun k=>Mc.l0 k l ((l.map Bf).take i ++ List.replicate ((l.map Bf).length - i) iA) (i:Int)) (l.map Bf)) ?_ ?_ 0 (by omega)
  ·rw [Tx,List.length_map] at key;exact key
  ·refine Ev.step (fun k=>by rw [Mc.l0]) ?_;refine Ev.neg (by omega) ?_;have e:=Bw (m:=l.map Bf) (z:=iA);rw [List.length_map] at e;rw [List.length_map,e];exact Ev.now _
  ·intro i hi h;refine Ev.step (fun k=>by rw [Mc.l0]) ?_;refine Ev.pos (by omega) (Ev.pos (by omega) ?_);unfold zj.f;have hx:=hb l[i] (List.getElem_mem hi);rw [Nn hi];refine Ev.bind (Ev.bind (BB l[i].f0 (by omega)) (Ev.now _)) ?_;refine Ev.pos (by simp;omega) ?_
   have hc:Bf l[i]=(l.map Bf).getD i iA:=by
    simp [List.getD_eq_getElem?_getD,hi]
   have hf:=Bt (m:=l.map Bf) (z:=iA) (i:=i) (by rw [List.length_map];exact hi);rw [← hc] at hf;rw [Ve hi (by omega),Int.toNat_natCast];have e:=hf ▸ h;exact e
theorem Zq {l:List Wd} {i:Nat} (h:i < l.length):Ea l (i:Int)=l[i]:=by simp [Ea,List.getD_eq_getElem?_getD,h]
theorem vD (x0:List Int) (x1 x2 x3:Int) (x4:List nj) (h0:x0.length ≤ 1048576) (hl:x4.length ≤ 1048576) (hb:∀ x ∈ x4,x.f0.length ≤ 1048576):Ev (fun k=>cg.f k x0 x1 x2 x3 x4) (x0,x1,x2,x3,x4.map Bf):=by
 unfold cg.f;exact Ev.bind (gH x0 (by omega)) (Ev.bind (CB x4 hl hb) (Ev.now _))
theorem TA (a b c:Int):Jh.f a b c=some (uj a b c):=by
 unfold Jh.f uj
 by_cases h:a ≥ b
 ·rw [if_pos h];have h':b ≤ a:=h;simp [h']
 ·rw [if_neg h];have h':¬ b ≤ a:=h;simp [h']
theorem LS (t:ByteArray):Ev (fun k=>Gf.f k ([(⟨#[61,61]⟩:ByteArray),(⟨#[60]⟩:ByteArray),(⟨#[38]⟩:ByteArray),(⟨#[43]⟩:ByteArray),(⟨#[45]⟩:ByteArray),(⟨#[42]⟩:ByteArray)]:List ByteArray) t) (Wo t):=by
 refine ⟨8,fun k hk=>?_⟩;obtain ⟨m,rfl⟩:∃ m,k=m + 8:=⟨k - 8,by omega⟩;unfold Gf.f Wo NC;simp only [Gf.l0,List.any_cons,List.any_nil]
 by_cases h0:t.toList=[61,61]
 ·simp [xg,h0]
 by_cases h1:t.toList=[60]
 ·simp [xg,h1,wrap64]
 by_cases h2:t.toList=[38]
 ·simp [xg,h2,wrap64]
 by_cases h3:t.toList=[43]
 ·simp [xg,h3,wrap64]
 by_cases h4:t.toList=[45]
 ·simp [xg,h4,wrap64]
 by_cases h5:t.toList=[42]
 ·simp [xg,h5,wrap64]
 simp [xg,Ne.symm h0,Ne.symm h1,Ne.symm h2,Ne.symm h3,Ne.symm h4,Ne.symm h5,h0,h1,h2,h3,h4,h5,wrap64]
theorem sw (s d:Int):uj d 0 (s - 1)=Vk s d:=by
 unfold uj Vk;rw [Bool.eq_iff_iff];simp;omega
def Iy (D A B C M:Bool) (o d a b n:Int) (t:ByteArray):Bool :=
 if o=0 then D && (a == 0 && b == 0)
 else if o=1 then D && (A && (b == 0 && n == 0))
 else if o=2 then D && (A && (B && (n == 0 && Wo t)))
 else if o=3 then D && M
 else if o=4 then d == 0 && (M && C)
 else if o=5 then D && (a == 0 && (b == 0 && n == 0))
 else if o=6 then d == 0 && (A && (b == 0 && n == 0))
 else false
def Rc (l:List Wd):Nat:=(l.map fun x=>x.f0.length).sum
def ou (l0:List Int) (p v s:Int) (n4:Nat):Bool:=vr l0 p v && uj s v 1000 && uj (n4:Int) 1 300
def cq (l0:List Int) (s:Int) (l4:List Wd) (x:Wd):Bool:=Tj l0.length s l4.length x.f0 x.f1 x.f2 x.f3 x.f4
def Ii (l0:List Int) (p v s:Int) (l4:List Wd):Bool:=ou l0 p v s l4.length && (!(l4.any fun x=>!cq l0 s l4 x) && decide (Rc l4 ≤ 1000))
theorem Tr (l:List Wd) (i:Nat) (h:i < l.length):Rc (l.take (i + 1))=Rc (l.take i) + l[i].f0.length:=by
 unfold Rc;rw [List.take_succ_eq_append_getElem h,List.map_append,List.sum_append];simp
theorem Xv (l:List Nat) (i:Nat):(l.take i).sum ≤ l.sum:=by
 conv=>rhs;rw [← List.take_append_drop i l]
 rw [List.sum_append];omega
theorem nr (l:List Wd) (i:Nat):Rc (l.take i) ≤ Rc l:=by
 unfold Rc;rw [List.map_take];exact Xv _ _
theorem fH {l0:List Int} {p v s:Int} {n4:Nat} (h:ou l0 p v s n4=true):1 ≤ l0.length∧l0.length ≤ 4∧0 ≤ p∧p ≤ v∧p ≤ 6∧v ≤ 20∧v ≤ s∧s ≤ 1000∧1 ≤ n4∧n4 ≤ 300:=by
 unfold ou vr uj at h;simp only [Bool.and_eq_true,decide_eq_true_eq] at h;obtain ⟨⟨⟨⟨⟨⟨h1,h2⟩,_⟩,h3,h4⟩,h5⟩,h6,h7⟩,h8,h9⟩:=h
 split at h4 <;> omega
section
variable {l0:List Int} {p v s:Int} {l4:List Wd}
theorem Hr (h0:l0.length ≤ 1048576) (hl4:l4.length ≤ 1048576) (ht:Rc l4 ≤ 1048576):Ev (fun k=>ic.f k l0 p v s l4) (Ii l0 p v s l4):=by
 unfold ic.f Pf.f;simp only [List.length_nil,if_true];refine Ev.val ?_
 have no:∀ {r:Bool},r=false→Ev (fun k=>ic.j0 k true l0 p v s l4) r:=by
  intro r hr;subst hr;exact Ev.step (fun k=>by rw [ic.j0]) (Ev.pos rfl (Ev.now _))
 unfold Ii ou;cases hp:vr l0 p v with
 | false=>exact Ev.neg (by simp) (no (by simp))
 | true =>
  refine Ev.pos rfl (Ev.bind (Ev.here (UA _ _ _)) ?_);cases hv:uj s v 1000 with
  | false=>exact Ev.neg (by simp) (no (by simp))
  | true =>
   refine Ev.pos rfl (Ev.bind (Ev.here (UA _ _ _)) ?_);cases hn:uj (l4.length:Int) 1 300 with
   | false=>exact no (by simp)
   | true =>
    refine Ev.step (fun k=>by rw [ic.j0]) (Ev.neg (by simp) ?_);simp only [Bool.true_and];have key:=KS (n:=l4.length) (R:=decide (Rc l4 ≤ 1000)) (e:=false) (fun i=>cq l0 s l4 (l4.getD i iA)=true) (fun i k=>ic.l0 k (Rc (l4.take i):Int) l4 (l4.length:Int) (i:Int) l0 p v s l4) ?_ ?_ ?_
    ·have e:(bif Ex l4.length (fun i=>cq l0 s l4 (l4.getD i iA)=true) then decide (Rc l4 ≤ 1000) else false)=(!(l4.any fun x=>!cq l0 s l4 x) && decide (Rc l4 ≤ 1000)):=by
      rw [vH];cases (!(l4.any fun x=>!cq l0 s l4 x)) <;> rfl
     rw [e] at key
     simpa [Rc] using key
    ·refine Ev.step (fun k=>by rw [ic.l0]) (Ev.neg (by omega) ?_);rw [List.take_length]
     have e:decide ((Rc l4:Int) ≤ 1000)=decide (Rc l4 ≤ 1000):=by
      rw [Bool.eq_iff_iff,decide_eq_true_iff,decide_eq_true_iff];omega
     rw [e];exact Ev.now _
    ·intro i hi hq r hr;refine Ev.step (fun k=>by rw [ic.l0]) (Ev.pos (by omega) (Ev.pos (by omega) (Ev.pos (by omega) ?_)));unfold Mh.f;have hq':Tj l0.length s l4.length (Ea l4 (i:Int)).f0 (Ea l4 (i:Int)).f1 (Ea l4 (i:Int)).f2 (Ea l4 (i:Int)).f3 (Ea l4 (i:Int)).f4=true:=hq;refine Ev.val (Ev.pos hq' ?_);have h1:=Tr l4 i hi;have h2:=nr l4 (i + 1);rw [Zq hi,Ve hi (by omega),bg (x:=(Rc (l4.take i):Int) + (l4[i].f0.length:Int)) (by omega) (by omega),show (Rc (l4.take i):Int) + (l4[i].f0.length:Int)=(Rc (l4.take (i + 1)):Int) from by omega];exact hr
    ·intro i hi hq;refine Ev.step (fun k=>by rw [ic.l0]) (Ev.pos (by omega) (Ev.pos (by omega) (Ev.pos (by omega) ?_)));unfold Mh.f;exact Ev.val (Ev.neg hq (Ev.now _))
end
end Go.Proofs.Ytoomcmaifgkkfaa.P
end
section
namespace Go.Proofs.Ytoomcmaifgkkfaa.P
open Go.RowKit Go.Proofs.Aa.Db Go.Proofs.Aa.Tc Go.Proofs.Aa.ke
set_option linter.unusedVariables false
set_option linter.unusedSimpArgs false
theorem Rm (a b c:Int) (w:World):Calls Try.prog 81 #[.int .i64 a,.int .i64 b,.int .i64 c] w fun e w'=>e = .returned (.bool (uj a b c))∧Sb w w':=Jh.calls a b c (uj a b c) w (TA a b c)
theorem Kp {a b c:Int} {q:Bool} (h:uj a b c=q) (w:World):Calls Try.prog 81 #[.int .i64 a,.int .i64 b,.int .i64 c] w fun e w'=>e = .returned (.bool q)∧Sb w w':=h ▸ Rm a b c w
theorem zN (e:Nat) (W:World):Kd.R Kd.string e (W.alloc (.cells #[.string ⟨#[61,61]⟩,.string ⟨#[60]⟩,.string ⟨#[38]⟩,.string ⟨#[43]⟩,.string ⟨#[45]⟩,.string ⟨#[42]⟩] e (0,0))) W.heap.size (fun _=>True) (.slice (some ⟨W.heap.size,0,none⟩) 6 6) [(⟨#[61,61]⟩:ByteArray),(⟨#[60]⟩:ByteArray),(⟨#[38]⟩:ByteArray),(⟨#[43]⟩:ByteArray),(⟨#[45]⟩:ByteArray),(⟨#[42]⟩:ByteArray)]:=by
 refine ⟨fun _ _=>trivial,[.string ⟨#[61,61]⟩,.string ⟨#[60]⟩,.string ⟨#[38]⟩,.string ⟨#[43]⟩,.string ⟨#[45]⟩,.string ⟨#[42]⟩],?_,Pc.one rfl (Pc.one rfl (Pc.one rfl (Pc.one rfl (Pc.one rfl (Pc.one rfl (Pc.none _ _))))))⟩;have h2:=World.ownsRow_lit (base:=W.heap.size) (e:=e) (size:=1) W #[.string ⟨#[61,61]⟩,.string ⟨#[60]⟩,.string ⟨#[38]⟩,.string ⟨#[43]⟩,.string ⟨#[45]⟩,.string ⟨#[42]⟩] 6 (Nat.le_refl _) (by simp [maxLen]) (by simp);exact h2
theorem XM (t:ByteArray) (W:World):Calls Try.prog 135 #[.slice (some ⟨W.heap.size,0,none⟩) 6 6,.string t] (W.alloc (.cells #[.string ⟨#[61,61]⟩,.string ⟨#[60]⟩,.string ⟨#[38]⟩,.string ⟨#[43]⟩,.string ⟨#[45]⟩,.string ⟨#[42]⟩] 9 (0,0))) fun e w'=>e = .returned (.bool (Wo t))∧Sb (W.alloc (.cells #[.string ⟨#[61,61]⟩,.string ⟨#[60]⟩,.string ⟨#[38]⟩,.string ⟨#[43]⟩,.string ⟨#[45]⟩,.string ⟨#[42]⟩] 9 (0,0))) w':=by
 obtain ⟨k,hk⟩:=Ev.rounds (LS t);have h:=Kd.Ua (zN 9 W);exact Gf.calls k (some ⟨W.heap.size,0,none⟩) 6 [(⟨#[61,61]⟩:ByteArray),(⟨#[60]⟩:ByteArray),(⟨#[38]⟩:ByteArray),(⟨#[43]⟩:ByteArray),(⟨#[45]⟩:ByteArray),(⟨#[42]⟩:ByteArray)] t (Wo t) _ h.2.2 h.2.1 hk
theorem eD (n0:Nat) (s o d a b c n:Int) (t:ByteArray):zk n0 s o d a b c n t=(!((o != 2 && t.toList != []) || (o != 4 && c != 0)) && Iy (Vk s d) (Vk s a) (Vk s b) (Vk s c) ((Vk s a || a == -1) && (Vk s b && uj n 0 ((n0:Int) - 1))) o d a b n t):=by
 unfold zk Iy;have ht:(t.toList != []) = !t.toList.isEmpty:=by cases t.toList <;> rfl
 rw [ht];generalize t.toList.isEmpty=T;generalize Wo t=G;generalize Vk s a=A;generalize Vk s b=B;generalize Vk s c=C;generalize Vk s d=D;generalize uj n 0 ((n0:Int) - 1)=N
 by_cases h0:o=0
 ·subst h0;cases T <;> cases D <;> cases hc:(c == 0) <;> simp_all [bne]
 by_cases h1:o=1
 ·subst h1;cases T <;> cases D <;> cases A <;> cases hc:(c == 0) <;> simp_all [bne]
 by_cases h2:o=2
 ·subst h2;cases D <;> cases A <;> cases B <;> cases G <;> cases hc:(c == 0) <;> simp_all [bne]
 by_cases h3:o=3
 ·subst h3;cases T <;> cases D <;> cases A <;> cases B <;> cases N <;> cases hc:(c == 0) <;> simp_all [bne]
 by_cases h4:o=4
 ·subst h4;cases T <;> cases C <;> cases A <;> cases B <;> cases N <;> cases hd:(d == 0) <;> simp_all [bne]
 by_cases h5:o=5
 ·subst h5;cases T <;> cases D <;> cases hc:(c == 0) <;> simp_all [bne]
 by_cases h6:o=6
 ·subst h6;cases T <;> cases A <;> cases hc:(c == 0) <;> simp_all [bne]
 simp [h0,h1,h2,h3,h4,h5,h6]
theorem EA (A0 A4:Option Addr) (c0 c4 n0 n4:Nat) (p1 p2 s:Int) (w:World) (hn0:n0 ≤ 1048576) (hs:0 ≤ s∧s ≤ 1000) (o d a b c n:Int) (t:ByteArray) :
  Calls Try.prog 121 #[.agg #[.slice A0 n0 c0,.int .i64 p1,.int .i64 p2,.int .i64 s,.slice A4 n4 c4],.agg #[.int .i64 o,.int .i64 d,.int .i64 a,.int .i64 b,.int .i64 c,.int .i64 n,.string t]] w fun e w'=>e = .returned (.bool (zk n0 s o d a b c n t))∧Below w.heap.size w w':=by
 obtain ⟨R,hR⟩:∃ R,zk n0 s o d a b c n t=R:=⟨_,rfl⟩;rw [hR];rw [eD] at hR;have HR:=aa.mk hR;clear hR;obtain ⟨W1,hW,hb,hx,hy⟩:=oq w (.cells #[.slice A0 n0 c0,.int .i64 p1,.int .i64 p2,.int .i64 s,.slice A4 n4 c4] 45 (0,0)) (.cells #[.int .i64 o,.int .i64 d,.int .i64 a,.int .i64 b,.int .i64 c,.int .i64 n,.string t] 122 (0,0));have HW:=aa.mk hW;have HB:=aa.mk hb;obtain ⟨g0,-,-,g3,-⟩:=ig hx;obtain ⟨x0,x1,x2,x3,x4,x5,x6⟩:=KD hy;have HS:=aa.mk (show wrap64 (s - 1)=s - 1 from bg (by omega) (by omega));have HN:=aa.mk (show wrap64 ((n0:Int) - 1)=(n0:Int) - 1 from bg (by omega) (by omega));clear hW hb hx hy;go_enter Try.func121,Try.ntmps121
 go_upto_region 1 with (fail)
 rw [← HW.out];clear HW
 go_upto_region 2 with (first|(go_at_call 81;(with_reducible refine (Rm _ _ _ _).mono ?_);rintro e w' ⟨rfl,⟨Rb,rfl⟩⟩))
 go_upto_region 3 with (first|(go_at_call 81;(with_reducible refine (Rm _ _ _ _).mono ?_);rintro e w' ⟨rfl,⟨Yb,rfl⟩⟩))
 go_upto_region 4 with (first|(go_at_call 81;(with_reducible refine (Rm _ _ _ _).mono ?_);rintro e w' ⟨rfl,⟨Vc,rfl⟩⟩))
 rw [sw s d,sw s a,sw s b];generalize Vk s a=A' at HR ⊢;generalize Vk s b=B' at HR ⊢;generalize Vk s d=D' at HR ⊢
 go_cut [8] (fun v8 wc=>v8 = .bool ((A' || a == -1) && (B' && uj n 0 ((n0:Int) - 1)))∧aa (Sb W1 wc))
 case first =>
  clear HB HS HN HR;generalize hm:(a == -1)=m;cases A' <;> cases B' <;> cases m
  all_goals
   go_wp2_with (first|(go_at_call 81;(with_reducible refine (Rm _ _ _ _).mono ?_);rintro e w' ⟨rfl,⟨Df,rfl⟩⟩))
   go_meet
   case rel=>exact ⟨by rw [hm];simp,⟨⟨_,rfl⟩⟩⟩
 case rest =>
  obtain ⟨rfl,⟨⟨nd,rfl⟩⟩⟩:=hcut;generalize ((A' || a == -1) && (B' && uj n 0 ((n0:Int) - 1)))=M at HR ⊢
  go_upto_region 5 with (fail)
  go_cut [62] (fun v62 wc=>v62 = .bool ((o != 2 && t.toList != []) || (o != 4 && c != 0))∧aa (Sb W1 wc))
  case first =>
   clear HB HS HN HR
   by_cases ht:t.toList=[] <;> cases h2:(o != 2) <;> cases h4:(o != 4) <;> cases hc:(c != 0)
   all_goals
    go_wp2
    go_meet
    case rel=>exact ⟨by rw [h2,h4,hc];simp [ht],⟨⟨_,rfl⟩⟩⟩
  case rest =>
   obtain ⟨rfl,⟨⟨nd,rfl⟩⟩⟩:=hcut;generalize ((o != 2 && t.toList != []) || (o != 4 && c != 0))=X at HR ⊢;cases X with
   | true =>
    go_wp2;go_ret;exact ⟨by rw [← HR.out];rfl,ga HB.out _⟩
   | false =>
    by_cases h2:o=2
    ·subst h2
     go_upto_region 13 with (fail)
     have MP:((W1.drewN nd).alloc (.cells #[.string ⟨#[61,61]⟩,.string ⟨#[60]⟩,.string ⟨#[38]⟩,.string ⟨#[43]⟩,.string ⟨#[45]⟩,.string ⟨#[42]⟩] 9 (0,0))).cell? ⟨w.heap.size + 1,6,none⟩=some (.string t):=zf (ia (Below.refl _ (W1.drewN nd)) _) x6;cases D' <;> cases A' <;> cases B' <;> cases hn:(n == 0)
     all_goals
      go_wp2_with (first|(go_at_call 135;(refine (XM t (W1.drewN nd)).mono ?_);rintro e w' ⟨rfl,⟨Qg,rfl⟩⟩));go_ret;refine ⟨?_,by repeat (first|exact HB.out|apply ga|apply ia)⟩;rw [← HR.out];unfold Iy;simp [hn]
    ·have h2b:(o == 2)=false:=beq_eq_false_iff_ne.mpr h2;go_wp2_with (first|(go_at_call 81;(with_reducible refine (Rm _ _ _ _).mono ?_);rintro e w' ⟨rfl,⟨Qg,rfl⟩⟩))
     all_goals go_ret
     all_goals refine ⟨?_,ga HB.out _⟩
     all_goals
      have h:=HR.out;rw [← h];clear HR HB HS HN x0 x1 x2 x3 x4 x5 x6 g0 g3 h
      simp_all [Iy,sw]
theorem FA (A0 A4 A5:Option Addr) (c0 c4 c5 n0 n4:Nat) (p1 p2 s:Int) (l5:List oc) (j a tg els:Int) (w:World) (hn0:n0 ≤ 1048576) (xw:n4 ≤ 1048576) (hs:0 ≤ s∧s ≤ 1000) (vR:Kd.C Je w A5 l5.length l5) (hc5:l5.length ≤ c5) :
  Calls Try.prog 101 #[.agg #[.slice A0 n0 c0,.int .i64 p1,.int .i64 p2,.int .i64 s,.slice A4 n4 c4],.agg #[.slice A5 l5.length c5,.int .i64 j,.int .i64 a,.int .i64 tg,.int .i64 els]] w fun e w'=>e = .returned (.bool (Tj n0 s n4 l5 j a tg els))∧Below w.heap.size w w':=by
 have hm5:=vR.2.1;obtain ⟨R,hR⟩:∃ R,Tj n0 s n4 l5 j a tg els=R:=⟨_,rfl⟩;rw [hR];unfold Tj at hR;have HR:=aa.mk hR;clear hR;obtain ⟨W1,hW,hb,hx,hy⟩:=oq w (.cells #[.slice A0 n0 c0,.int .i64 p1,.int .i64 p2,.int .i64 s,.slice A4 n4 c4] 45 (0,0)) (.cells #[.slice A5 l5.length c5,.int .i64 j,.int .i64 a,.int .i64 tg,.int .i64 els] 83 (0,0));have HW:=aa.mk hW;have HB:=aa.mk hb;have HX:=aa.mk hx;have HY:=aa.mk hy;have HC:=aa.mk (Kd.Za vR hb);have HK:=aa.mk (Below.refl W1.heap.size W1);clear hW hb hx hy vR;go_enter Try.func101,Try.ntmps101
 go_upto_region 1 with (fail)
 rw [← HW.out];clear HW;go_wp2
 go_loopg [5] l5.length (fun gg v5 wr=>∃ x:Int,v5 = .int .i64 x∧0 ≤ x∧x ≤ (l5.length:Int)∧l5.length - x.toNat ≤ gg∧aa ((l5.take x.toNat).any (fun y=>!Hl n0 s y)=false)∧aa (Below W1.heap.size W1 wr))
 case atStart=>exact ⟨0,rfl,by omega,by omega,by omega,⟨by simp⟩,HK⟩
 case round =>
  clear HK;(try clear HT);(try clear HK);obtain ⟨x,rfl,hx0,hx1,lD,HT,HK⟩:=hrel;obtain ⟨b0,b1,b2,b3,b4⟩:=ig (Ta HY.out HK.out);obtain ⟨g0,g1,g2,g3,g4⟩:=ig (Ta HX.out HK.out)
  by_cases hlt:x < (l5.length:Int)
  ·have ek:decide (x < (l5.length:Int))=true:=decide_eq_true hlt;have XN:=aa.mk (And.intro hx0 hlt);obtain ⟨ad,e1,i0,i1,i2,i3,i4,i5,i6⟩:=Nv (Kd.Za HC.out HK.out) x hx0 hlt;subst e1;have yY:=aa.mk (ja HK.out)
   have jG:=aa.mk (show (l5.take (x + 1).toNat).any (fun y=>!Hl n0 s y) = !Hl n0 s (ua l5 x) by
    rw [show (x + 1).toNat=x.toNat + 1 by omega,List.take_succ_eq_append_getElem (show x.toNat < l5.length by omega),List.any_append,HT.out,List.any_cons,List.any_nil]
    simp [ua,List.getD_eq_getElem?_getD,show x.toNat < l5.length by omega])
   clear HT
   go_upto_region 4 with (fail)
   refine Yk (n:=8) (S:=fun w'=>w'.cell? ⟨w.heap.size,0,none⟩=some (.slice A0 n0 c0)∧w'.cell? ⟨w.heap.size,1,none⟩=some (.int .i64 p1)∧w'.cell? ⟨w.heap.size,2,none⟩=some (.int .i64 p2)∧w'.cell? ⟨w.heap.size,3,none⟩=some (.int .i64 s)∧w'.cell? ⟨w.heap.size,4,none⟩=some (.slice A4 n4 c4)∧w'.cell? ⟨w.heap.size + 1,0,none⟩=some (.slice (some ad) l5.length c5)∧w'.cell? (ad.add (x.toNat * 7))=some (.int .i64 (ua l5 x).f0)∧w'.cell? ⟨(ad.add (x.toNat * 7)).block,(ad.add (x.toNat * 7)).off + 1,none⟩=some (.int .i64 (ua l5 x).f1)∧w'.cell? ⟨(ad.add (x.toNat * 7)).block,(ad.add (x.toNat * 7)).off + 2,none⟩=some (.int .i64 (ua l5 x).f2)∧w'.cell? ⟨(ad.add (x.toNat * 7)).block,(ad.add (x.toNat * 7)).off + 3,none⟩=some (.int .i64 (ua l5 x).f3)∧w'.cell? ⟨(ad.add (x.toNat * 7)).block,(ad.add (x.toNat * 7)).off + 4,none⟩=some (.int .i64 (ua l5 x).f4)∧w'.cell? ⟨(ad.add (x.toNat * 7)).block,(ad.add (x.toNat * 7)).off + 5,none⟩=some (.int .i64 (ua l5 x).f5)∧w'.cell? ⟨(ad.add (x.toNat * 7)).block,(ad.add (x.toNat * 7)).off + 6,none⟩=some (.string (ua l5 x).f6)) (ds:=[6]) #[false,false,false,false,false,false,false,false] (by kernel_rfl) rfl rfl ⟨g0,g1,g2,g3,g4,b0,i0,i1,i2,i3,i4,i5,i6⟩ (fun hHeld=>?_);generalize wr.drew=wd at yY hHeld ⊢;refine od (i:=1) (N:=some 16) (v:=?_) (a':=?_) #[false,true,false,false,false,false,false,false] rfl rfl (by kernel_rfl) (fun _ _ _ h=>h) (Or.inl ⟨by rfl,?_⟩) ?_ ?_;rotate_left
   ·exact eaj
   rotate_left
   ·exact daj
   refine od (i:=3) (N:=some 18) (v:=?_) (a':=?_) #[false,true,false,true,false,false,false,false] rfl rfl (by kernel_rfl) (fun _ _ _ h=>h) (Or.inl ⟨by rfl,?_⟩) ?_ ?_;rotate_left
   ·exact eaj
   rotate_left
   ·exact daj
   refine Ph (i:=0) (N:=some 15) (v:=?_) (a':=?_) #[true,true,false,true,false,false,false,false] rfl rfl (by kernel_rfl) (fun _ _ _ h=>h) (Or.inl ⟨by rfl,?_⟩) hHeld ?_ ?_;rotate_left
   ·exact faj
   rotate_left
   ·exact daj
   refine Ph (i:=2) (N:=some 17) (v:=?_) (a':=?_) #[true,true,true,true,false,false,false,false] rfl rfl (by kernel_rfl) (fun _ _ _ h=>h) (Or.inl ⟨by rfl,?_⟩) hHeld ?_ ?_;rotate_left
   ·exact faj
   rotate_left
   ·exact daj
   refine od (i:=4) (N:=some 19) (v:=?_) (a':=?_) #[true,true,true,true,true,false,false,false] rfl rfl (by kernel_rfl) (fun _ _ _ h=>h) (Or.inl ⟨by rfl,?_⟩) ?_ ?_;rotate_left
   ·exact eaj
   rotate_left
   ·exact daj
   refine Ph (i:=5) (N:=some 20) (v:=?_) (a':=?_) #[true,true,true,true,true,true,false,false] rfl rfl (by kernel_rfl) (fun _ _ _ h=>h) (Or.inl ⟨by rfl,?_⟩) hHeld ?_ ?_;rotate_left
   ·exact faj
   rotate_left
   ·exact daj
   refine Qu (i:=6) (N:=some 21) #[true,true,true,true,true,true,true,false] rfl rfl (by kernel_rfl) (by decide) (fun K hK=>?_);refine qt Try.func121 (by kernel_rfl) rfl #[.agg #[.slice A0 n0 c0,.int .i64 p1,.int .i64 p2,.int .i64 s,.slice A4 n4 c4],.agg #[.int .i64 (ua l5 x).f0,.int .i64 (ua l5 x).f1,.int .i64 (ua l5 x).f2,.int .i64 (ua l5 x).f3,.int .i64 (ua l5 x).f4,.int .i64 (ua l5 x).f5,.string (ua l5 x).f6]] (by rfl) rfl rfl aak ?_;with_reducible refine (EA A0 A4 c0 c4 n0 n4 p1 p2 s wd hn0 hs _ _ _ _ _ _ _).mono ?_
   rintro e w2 ⟨rfl,hb⟩;refine ⟨_,rfl,?_⟩;have aj:=aa.mk (Ga yY.out hb);clear hb;refine hK.out _ _ ?_;clear hK K;refine Nf (a':=?_) ?_ ?_;rotate_left
   ·show Act.put _ (some 21) _=_
    exact daj
   refine od (i:=7) (N:=some 22) (v:=?_) (a':=?_) #[true,true,true,true,true,true,true,true] rfl rfl (by kernel_rfl) (fun _ _ _ h=>h) (Or.inl ⟨by rfl,?_⟩) ?_ ?_;rotate_left
   ·exact eaj
   rotate_left
   ·exact daj
   refine Yo (by kernel_rfl) ?_;clear hHeld b0 b1 b2 b3 b4 g0 g1 g2 g3 g4 i0 i1 i2 i3 i4 i5 i6
   change aa (_ = !zk n0 s _ _ _ _ _ _ _) at jG
   generalize zk n0 s (ua l5 x).f0 (ua l5 x).f1 (ua l5 x).f2 (ua l5 x).f3 (ua l5 x).f4 (ua l5 x).f5 (ua l5 x).f6=q at jG ⊢;cases q with
   | true =>
    go_wp2
    go_roundg (l5.length - (x + 1).toNat)
    case measure=>have:=XN.out;omega
    case rel=>exact ⟨x + 1,rfl,by omega,by omega,by omega,jG,aj⟩
   | false =>
    have cZ:=aa.mk (show l5.any (fun y=>!Hl n0 s y)=true by
     have h:_=true:=jG.out;rw [List.any_eq_true] at h ⊢;obtain ⟨y,hy,hy2⟩:=h
     exact ⟨y,List.mem_of_mem_take hy,hy2⟩)
    go_wp2;go_ret;exact ⟨by rw [← HR.out,cZ.out];rfl,Ga HB.out aj.out⟩
  ·have ek:decide (x < (l5.length:Int))=false:=decide_eq_false hlt;have HS:=aa.mk (sw s a);have ht:=HT.out;rw [List.take_of_length_le (by omega)] at ht;have NK:=HR.out;rw [ht,decide_eq_true hs.1] at NK;have IU:=aa.mk NK;clear NK HR ht HT
   go_upto_region 8 with (first|(go_at_call 81;(with_reducible refine (Rm _ _ _ _).mono ?_);rintro e w' ⟨rfl,⟨Qg,rfl⟩⟩))
   rw [HS.out];generalize Vk s a=A' at IU ⊢;generalize uj tg 0 ((n4:Int) - 1)=T' at IU ⊢;go_wp2_with (first|(go_at_call 81;(with_reducible refine (Rm _ _ _ _).mono ?_);rintro e w' ⟨rfl,⟨Qg,rfl⟩⟩))
   all_goals go_ret
   all_goals refine ⟨?_,by repeat (first|exact Ga HB.out HK.out|apply ga)⟩
   all_goals
    have h:=IU.out;rw [← h];clear IU HB HS HK b0 b1 b2 b3 b4 g0 g1 g2 g3 g4 h HX HY HC
    simp_all
theorem wG {q1 q2 q3 q4 q5 q6:Bool} (h:¬ (q1=true∧q2=true∧q3=true∧q4=false∧q5=true∧q6=true)):(∀ b,((q1 && !false && (q2 && (q3 && (!q4 && (q5 && q6))))) && b)=false)∧(q1=false ∨ (q1=true∧q2=false) ∨ (q1=true∧q2=true∧q3=false) ∨ (q1=true∧q2=true∧q3=true∧q4=true) ∨ (q1=true∧q2=true∧q3=true∧q4=false∧q5=false) ∨ (q1=true∧q2=true∧q3=true∧q4=false∧q5=true∧q6=false)):=by
 cases q1 <;> cases q2 <;> cases q3 <;> cases q4 <;> cases q5 <;> cases q6 <;> simp_all
theorem fz (l0:List Int) (p v s:Int) (n4:Nat):ou l0 p v s n4=(uj (l0.length:Int) 1 4 && !(l0.any fun n=>!uj n 1 16) && (uj v 0 20 && (uj p 0 6 && (!decide (p > v) && (uj s v 1000 && uj (n4:Int) 1 300))))):=by
 unfold ou vr;cases h1:uj (l0.length:Int) 1 4
 ·rfl
 cases h2:(l0.any fun n=>!uj n 1 16)
 ·simp only [Bool.not_false,Bool.true_and,Bool.and_assoc];unfold uj;rw [Bool.eq_iff_iff];simp only [Bool.and_eq_true,decide_eq_true_eq,Bool.not_eq_true',decide_eq_false_iff_not]
  by_cases hv:v < 6
  ·rw [if_pos hv];omega
  ·rw [if_neg hv];omega
 ·rfl
noncomputable def Qd.f (_:Nat) (Ma:List Int) (Oa:Int) (Pa:Int) (Na:Int) (oa:List Wd):Option Bool:=if Ma.length ≤ 1048576∧oa.length ≤ 1048576∧Rc oa ≤ 1048576 then some (Ii Ma Oa Pa Na oa) else none
theorem Lo {l0:List Int} {p v s:Int} {l4:List Wd} (h0:l0.length ≤ 1048576) (hl4:l4.length ≤ 1048576) (ht:Rc l4 ≤ 1048576):Ev (fun k=>Qd.f k l0 p v s l4) (Ii l0 p v s l4):=by
 refine ⟨0,fun k _=>?_⟩;unfold Qd.f;rw [if_pos ⟨h0,hl4,ht⟩]
theorem Qd.calls (k:Nat) (zb:Option Addr) (yb:Nat) (Ma:List Int) (Oa:Int) (Pa:Int) (Na:Int) (Ob:Option Addr) (Fb:Nat) (oa:List Wd) (r:Bool) (w:World) (qd:Kd.C (Kd.int .i64) w zb Ma.length Ma) (Ad:Ma.length ≤ yb) (fe:Kd.C Km w Ob oa.length oa) (Fe:oa.length ≤ Fb) (h:Qd.f k Ma Oa Pa Na oa=some r) :
  Calls Try.prog 66 #[.agg #[.slice zb Ma.length yb,.int .i64 Oa,.int .i64 Pa,.int .i64 Na,.slice Ob oa.length Fb]] w fun e w'=>e = .returned (.bool r)∧Below w.heap.size w w':=by
 unfold Qd.f at h
 by_cases hq:Ma.length ≤ 1048576∧oa.length ≤ 1048576∧Rc oa ≤ 1048576
 case neg=>rw [if_neg hq] at h;cases h
 rw [if_pos hq] at h;have hR:=Option.some.inj h;obtain ⟨hn0,xw,hst⟩:=hq;unfold Ii at hR;rw [fz] at hR;have HR:=aa.mk hR;have HST:=aa.mk hst;clear h hR hst;obtain ⟨W1,hW,hb,hx⟩:=Io w (.cells #[.slice zb Ma.length yb,.int .i64 Oa,.int .i64 Pa,.int .i64 Na,.slice Ob oa.length Fb] 45 (0,0));have HW:=aa.mk hW;have HB:=aa.mk hb;have HX:=aa.mk hx;have oy:=aa.mk (Kd.Za qd hb);have Y4:=aa.mk (Kd.Za fe hb);have HK:=aa.mk (Below.refl W1.heap.size W1);clear hW hb hx qd fe;go_enter Try.func66,Try.ntmps66
 go_upto_region 1 with (fail)
 rw [← HW.out];clear HW;go_wp2
 go_loopg [3] Ma.length (fun gg v3 wr=>∃ x:Int,v3 = .int .i64 x∧0 ≤ x∧x ≤ (Ma.length:Int)∧Ma.length - x.toNat ≤ gg∧aa ((Ma.take x.toNat).any (fun y=>!uj y 1 16)=false)∧aa (Below W1.heap.size W1 wr))
 case atStart=>exact ⟨0,rfl,by omega,by omega,by omega,⟨by simp⟩,HK⟩
 case round =>
  clear HK;(try clear HT);(try clear HK);obtain ⟨x,rfl,hx0,hx1,lD,HT,HK⟩:=hrel;obtain ⟨g0,g1,g2,g3,g4⟩:=ig (Ta HX.out HK.out)
  by_cases hlt:x < (Ma.length:Int)
  ·have ek:decide (x < (Ma.length:Int))=true:=decide_eq_true hlt;have XN:=aa.mk (And.intro hx0 hlt);obtain ⟨ad,e1,i0⟩:=Kd.Ld (Kd.Za oy.out HK.out) x hx0 hlt;subst e1
   have jG:=aa.mk (show (Ma.take (x + 1).toNat).any (fun y=>!uj y 1 16) = !uj (rd Ma x) 1 16 by
    rw [show (x + 1).toNat=x.toNat + 1 by omega,List.take_succ_eq_append_getElem (show x.toNat < Ma.length by omega),List.any_append,HT.out,List.any_cons,List.any_nil]
    simp [rd,List.getD_eq_getElem?_getD,show x.toNat < Ma.length by omega])
   clear HT;cases hq:uj (rd Ma x) 1 16 with
   | true =>
    rw [hq] at jG;go_wp2_with (first|(go_at_call 81;(first|(with_reducible refine (Kp (q:=true) (by assumption) _).mono ?_)|(with_reducible refine (Kp (q:=false) (by assumption) _).mono ?_));rintro e w' ⟨rfl,⟨Qg,rfl⟩⟩))
    go_roundg (Ma.length - (x + 1).toNat)
    case measure=>have:=XN.out;omega
    case rel=>exact ⟨x + 1,rfl,by omega,by omega,by omega,jG,⟨ga HK.out _⟩⟩
   | false =>
    rw [hq] at jG
    have cZ:=aa.mk (show Ma.any (fun y=>!uj y 1 16)=true by
     have h:_=true:=jG.out;rw [List.any_eq_true] at h ⊢;obtain ⟨y,hy,hy2⟩:=h
     exact ⟨y,List.mem_of_mem_take hy,hy2⟩)
    go_wp2_with (first|(go_at_call 81;(first|(with_reducible refine (Kp (q:=true) (by assumption) _).mono ?_)|(with_reducible refine (Kp (q:=false) (by assumption) _).mono ?_));rintro e w' ⟨rfl,⟨Qg,rfl⟩⟩));go_ret;exact ⟨by rw [← HR.out,cZ.out];simp,ga (Ga HB.out HK.out) _⟩
  ·have ek:decide (x < (Ma.length:Int))=false:=decide_eq_false hlt;have ht:=HT.out;rw [List.take_of_length_le (by omega)] at ht;have NK:=HR.out;rw [ht] at NK;clear ht HT HR hx0 hx1 lD;obtain ⟨q1,h1⟩:∃ q,uj (Ma.length:Int) 1 4=q:=⟨_,rfl⟩;obtain ⟨q2,h2⟩:∃ q,uj Pa 0 20=q:=⟨_,rfl⟩;obtain ⟨q3,h3⟩:∃ q,uj Oa 0 6=q:=⟨_,rfl⟩;obtain ⟨q4,h4⟩:∃ q,decide (Oa > Pa)=q:=⟨_,rfl⟩;obtain ⟨q5,h5⟩:∃ q,uj Na Pa 1000=q:=⟨_,rfl⟩;obtain ⟨q6,h6⟩:∃ q,uj (oa.length:Int) 1 300=q:=⟨_,rfl⟩;rw [h1,h2,h3,h4,h5,h6] at NK
   by_cases hX:q1=true∧q2=true∧q3=true∧q4=false∧q5=true∧q6=true
   case neg =>
    obtain ⟨hA,hY⟩:=wG hX;have HR:=aa.mk (show r=false from NK.symm.trans (hA _));clear hA NK hX
    rcases hY with rfl|⟨rfl,rfl⟩|⟨rfl,rfl,rfl⟩|⟨rfl,rfl,rfl,rfl⟩|⟨rfl,rfl,rfl,rfl,rfl⟩|⟨rfl,rfl,rfl,rfl,rfl,rfl⟩
    all_goals
     go_upto_region 7 with (first|(go_at_call 81;(first|(with_reducible refine (Kp (q:=true) (by assumption) _).mono ?_)|(with_reducible refine (Kp (q:=false) (by assumption) _).mono ?_));rintro e w' ⟨rfl,⟨Qg,rfl⟩⟩))
     go_wp2;go_ret;exact ⟨by rw [HR.out];rfl,by repeat (first|exact Ga HB.out HK.out|apply ga)⟩
   case pos =>
   obtain ⟨rfl,rfl,rfl,rfl,rfl,rfl⟩:=hX;simp only [Bool.not_false,Bool.true_and] at NK;have HR:=aa.mk NK;clear NK
   have HS:=aa.mk (show 0 ≤ Na∧Na ≤ 1000 by
    unfold uj at h2 h5;simp only [Bool.and_eq_true,decide_eq_true_eq] at h2 h5
    omega)
   go_upto_region 8 with (first|(go_at_call 81;(first|(with_reducible refine (Kp (q:=true) (by assumption) _).mono ?_)|(with_reducible refine (Kp (q:=false) (by assumption) _).mono ?_));rintro e w' ⟨rfl,⟨Qg,rfl⟩⟩))
   have HZ:=aa.mk HK.out;clear g0 g1 g2 g3 g4 h1 h2 h3 h4 h5 h6 hlt ek oy;obtain ⟨wq,hwq⟩:∃ wq,wq=wr:=⟨_,rfl⟩;go_wp2
   go_loopg [4,5] oa.length (fun gg v4 v5 wz=>∃ x:Int,v4 = .int .i64 (Rc (oa.take x.toNat):Int)∧v5 = .int .i64 x∧0 ≤ x∧x ≤ (oa.length:Int)∧oa.length - x.toNat ≤ gg∧aa (Rc (oa.take x.toNat) ≤ 1000∧(oa.take x.toNat).any (fun y=>!cq Ma Na oa y)=false)∧aa (Below W1.heap.size W1 wz))
   case atStart=>exact ⟨0,by simp [Rc],rfl,by omega,by omega,by omega,⟨by simp [Rc]⟩,⟨by repeat (first|exact HK.out|apply ga)⟩⟩
   case round =>
   clear HK HZ hwq wq;(try clear HT);(try clear HK);obtain ⟨x,rfl,rfl,hx0,hx1,lD,HT,HK⟩:=hrel;have HE:=HT.out;have hs1:=HE.1;obtain ⟨g0,g1,g2,g3,g4⟩:=ig (Ta HX.out HK.out)
   by_cases hlt:x < (oa.length:Int)
   case neg =>
    have ek:decide (x < (oa.length:Int))=false:=decide_eq_false hlt;rw [List.take_of_length_le (show oa.length ≤ x.toNat by omega)] at HE;have HE:=aa.mk HE;clear hs1 HT;go_wp2;go_ret;exact ⟨by rw [← HR.out,HE.out.2,decide_eq_true HE.out.1];rfl,Ga HB.out HK.out⟩
   have ek:decide (x < (oa.length:Int))=true:=decide_eq_true hlt;have XN:=aa.mk (And.intro hx0 hlt);obtain ⟨ad,Ac,cc,e1,k0,k1,k2,k3,k4,kcl,kcC⟩:=Vj (Kd.Za Y4.out HK.out) x hx0 hlt;subst e1;have fR:x.toNat < oa.length:=by omega
   have e9:Ea oa x=oa[x.toNat]:=by simp [Ea,List.getD_eq_getElem?_getD,fR]
   have tR:Rc (oa.take (x + 1).toNat)=Rc (oa.take x.toNat) + (Ea oa x).f0.length:=by
    rw [show (x + 1).toNat=x.toNat + 1 by omega,Tr oa _ fR,e9]
   have jG:=aa.mk (show (oa.take (x + 1).toNat).any (fun y=>!cq Ma Na oa y) = !cq Ma Na oa (Ea oa x) by
    rw [show (x + 1).toNat=x.toNat + 1 by omega,List.take_succ_eq_append_getElem fR,List.any_append,HE.2,List.any_cons,List.any_nil,e9]
    simp)
   have CV:Rc (oa.take (x + 1).toNat) ≤ 1048576:=Nat.le_trans (nr _ _) HST.out;have T_:=aa.mk tR;have lQ:=aa.mk kcl;have HKC:=aa.mk kcC;have hkn:(Ea oa x).f0.length ≤ 1048576:=by omega
   clear HT HE e9 fR kcl kcC
   go_upto_region 13 with (fail)
   by_cases D9:Rc (oa.take (x + 1).toNat) ≤ 1000
   case neg =>
    have hkb:decide ((Rc (oa.take x.toNat):Int) + ((Ea oa x).f0.length:Int) > 1000)=true:=decide_eq_true (by omega)
    have HRF:=aa.mk (show r=false by
     rw [← HR.out,decide_eq_false (show ¬ Rc oa ≤ 1000 by have:=nr oa (x + 1).toNat;omega)]
     simp)
    clear tR CV D9
    go_quiet (fail)
    go_wp2;go_ret;exact ⟨by rw [HRF.out];rfl,by repeat (first|exact Ga HB.out HK.out|apply ga|apply ja)⟩
   have hkb:decide ((Rc (oa.take x.toNat):Int) + ((Ea oa x).f0.length:Int) > 1000)=false:=decide_eq_false (by omega);have H1K:=aa.mk D9;have yY:=aa.mk (ja HK.out);have zY:=aa.mk (show Kd.C Je wr.drew Ac _ _ from HKC.out);clear tR CV D9 HKC;refine Yk (n:=12) (S:=fun w'=>w'.cell? ⟨w.heap.size,0,none⟩=some (.slice zb Ma.length yb)∧w'.cell? ⟨w.heap.size,1,none⟩=some (.int .i64 Oa)∧w'.cell? ⟨w.heap.size,2,none⟩=some (.int .i64 Pa)∧w'.cell? ⟨w.heap.size,3,none⟩=some (.int .i64 Na)∧w'.cell? ⟨w.heap.size,4,none⟩=some (.slice (some ad) oa.length Fb)∧w'.cell? (ad.add (x.toNat * 5))=some (.slice Ac (Ea oa x).f0.length cc)∧w'.cell? ⟨(ad.add (x.toNat * 5)).block,(ad.add (x.toNat * 5)).off + 1,none⟩=some (.int .i64 (Ea oa x).f1)∧w'.cell? ⟨(ad.add (x.toNat * 5)).block,(ad.add (x.toNat * 5)).off + 2,none⟩=some (.int .i64 (Ea oa x).f2)∧w'.cell? ⟨(ad.add (x.toNat * 5)).block,(ad.add (x.toNat * 5)).off + 3,none⟩=some (.int .i64 (Ea oa x).f3)∧w'.cell? ⟨(ad.add (x.toNat * 5)).block,(ad.add (x.toNat * 5)).off + 4,none⟩=some (.int .i64 (Ea oa x).f4)) (ds:=[9]) #[false,false,false,false,false,false,false,false,false,false,false,false] (by kernel_rfl) rfl rfl ⟨g0,g1,g2,g3,g4,k0,k1,k2,k3,k4⟩ (fun hHeld=>?_);generalize wr.drew=wd at yY zY hHeld ⊢;refine od (i:=0) (N:=some 75) (v:=?_) (a':=?_) #[true,false,false,false,false,false,false,false,false,false,false,false] rfl rfl (by kernel_rfl) (fun _ _ _ h=>h) (Or.inl ⟨by rfl,?_⟩) ?_ ?_;rotate_left
   ·exact eaj
   rotate_left
   ·exact daj
   refine od (i:=1) (N:=some 76) (v:=?_) (a':=?_) #[true,true,false,false,false,false,false,false,false,false,false,false] rfl rfl (by kernel_rfl) (fun _ _ _ h=>h) (Or.inl ⟨by rfl,?_⟩) ?_ ?_;rotate_left
   ·exact eaj
   rotate_left
   ·exact daj
   refine od (i:=2) (N:=some 77) (v:=?_) (a':=?_) #[true,true,true,false,false,false,false,false,false,false,false,false] rfl rfl (by kernel_rfl) (fun _ _ _ h=>h) (Or.inl ⟨by rfl,?_⟩) ?_ ?_;rotate_left
   ·exact eaj
   rotate_left
   ·exact daj
   refine od (i:=4) (N:=some 79) (v:=?_) (a':=?_) #[true,true,true,false,true,false,false,false,false,false,false,false] rfl rfl (by kernel_rfl) (fun _ _ _ h=>h) (Or.inl ⟨by rfl,?_⟩) ?_ ?_;rotate_left
   ·exact eaj
   rotate_left
   ·exact daj
   refine od (i:=6) (N:=some 81) (v:=?_) (a':=?_) #[true,true,true,false,true,false,true,false,false,false,false,false] rfl rfl (by kernel_rfl) (fun _ _ _ h=>h) (Or.inl ⟨by rfl,?_⟩) ?_ ?_;rotate_left
   ·exact eaj
   rotate_left
   ·exact daj
   refine Ph (i:=3) (N:=some 78) (v:=?_) (a':=?_) #[true,true,true,true,true,false,true,false,false,false,false,false] rfl rfl (by kernel_rfl) (fun _ _ _ h=>h) (Or.inl ⟨by rfl,?_⟩) hHeld ?_ ?_;rotate_left
   ·exact iaj
   rotate_left
   ·exact daj
   refine Ph (i:=5) (N:=some 80) (v:=?_) (a':=?_) #[true,true,true,true,true,true,true,false,false,false,false,false] rfl rfl (by kernel_rfl) (fun _ _ _ h=>h) (Or.inl ⟨by rfl,?_⟩) hHeld ?_ ?_;rotate_left
   ·exact iaj
   rotate_left
   ·exact daj
   refine od (i:=7) (N:=some 82) (v:=?_) (a':=?_) #[true,true,true,true,true,true,true,true,false,false,false,false] rfl rfl (by kernel_rfl) (fun _ _ _ h=>h) (Or.inl ⟨by rfl,?_⟩) ?_ ?_;rotate_left
   ·exact eaj
   rotate_left
   ·exact daj
   refine Ph (i:=8) (N:=some 83) (v:=?_) (a':=?_) #[true,true,true,true,true,true,true,true,true,false,false,false] rfl rfl (by kernel_rfl) (fun _ _ _ h=>h) (Or.inl ⟨by rfl,?_⟩) hHeld ?_ ?_;rotate_left
   ·exact iaj
   rotate_left
   ·exact daj
   refine Qu (i:=9) (N:=some 84) #[true,true,true,true,true,true,true,true,true,true,false,false] rfl rfl (by kernel_rfl) (by decide) (fun K hK=>?_);refine qt Try.func101 (by kernel_rfl) rfl #[.agg #[.slice zb Ma.length yb,.int .i64 Oa,.int .i64 Pa,.int .i64 Na,.slice (some ad) oa.length Fb],.agg #[.slice Ac (Ea oa x).f0.length cc,.int .i64 (Ea oa x).f1,.int .i64 (Ea oa x).f2,.int .i64 (Ea oa x).f3,.int .i64 (Ea oa x).f4]] (by rfl) rfl rfl aak ?_;with_reducible refine (FA zb (some ad) Ac yb Fb cc Ma.length oa.length Oa Pa Na _ _ _ _ _ wd hn0 xw HS.out zY.out lQ.out).mono ?_
   rintro e w2 ⟨rfl,hb⟩;refine ⟨_,rfl,?_⟩;have aj:=aa.mk (Ga yY.out hb);clear hb;refine hK.out _ _ ?_;clear hK K;refine Nf (a':=?_) ?_ ?_;rotate_left
   ·show Act.put _ (some 84) _=_
    exact daj
   refine od (i:=10) (N:=some 85) (v:=?_) (a':=?_) #[true,true,true,true,true,true,true,true,true,true,true,false] rfl rfl (by kernel_rfl) (fun _ _ _ h=>h) (Or.inl ⟨by rfl,?_⟩) ?_ ?_;rotate_left
   ·exact eaj
   rotate_left
   ·exact daj
   refine od (i:=11) (N:=some 86) (v:=?_) (a':=?_) #[true,true,true,true,true,true,true,true,true,true,true,true] rfl rfl (by kernel_rfl) (fun _ _ _ h=>h) (Or.inl ⟨by rfl,?_⟩) ?_ ?_;rotate_left
   ·exact eaj
   rotate_left
   ·exact daj
   refine Yo (by kernel_rfl) ?_;clear hHeld g0 g1 g2 g3 g4 k0 k1 k2 k3 k4
   change aa (_ = !Tj _ _ _ _ _ _ _ _) at jG
   generalize Tj Ma.length Na oa.length (Ea oa x).f0 (Ea oa x).f1 (Ea oa x).f2 (Ea oa x).f3 (Ea oa x).f4=q at jG ⊢;cases q with
   | true =>
    go_wp2
    go_roundg (oa.length - (x + 1).toNat)
    case measure=>have:=XN.out;omega
    case rel=>exact ⟨x + 1,by rw [T_.out];rfl,rfl,by omega,by omega,by omega,⟨H1K.out,jG.out⟩,aj⟩
   | false =>
    have cZ:=aa.mk (show oa.any (fun y=>!cq Ma Na oa y)=true by
     have h:_=true:=jG.out;rw [List.any_eq_true] at h ⊢;obtain ⟨y,hy,hy2⟩:=h
     exact ⟨y,List.mem_of_mem_take hy,hy2⟩)
    go_wp2;go_ret;exact ⟨by rw [← HR.out,cZ.out];rfl,Ga HB.out aj.out⟩
attribute [local go_sem] fh bh Zh Yh mg lg dh ah
mutual
noncomputable def fc.j0:Nat→Int→List Int→Bool→List Int→Int→Int→Int→List (Wd)→Option (List Int)
 | 0,_,_,_,_,_,_,_,_=>none
 | k + 1,x1,x5,x21,Fc,Ec,Dc,Cc,Lb=>if x21=true then (some x5) else (fc.l0 k x1 x5 0 Fc Ec Dc Cc Lb)
noncomputable def fc.l0:Nat→Int→List Int→Int→List Int→Int→Int→Int→List (Wd)→Option (List Int)
 | 0,_,_,_,_,_,_,_,_=>none
 | k + 1,x1,x5,x6,Fc,Ec,Dc,Cc,Lb=>if x6 < (Lb.length:Int) then (if 0 ≤ x6 then ((bf.f ((Ea Lb x6).f0) ((Ea Lb x6).f1) ((Ea Lb x6).f2) ((Ea Lb x6).f3) ((Ea Lb x6).f4)).bind fun t108=>(fc.l1 k x1 x5 x6 t108 0 Fc Ec Dc Cc Lb)) else (none)) else (some x5)
noncomputable def fc.l1:Nat→Int→List Int→Int→List Int→Int→List Int→Int→Int→Int→List (Wd)→Option (List Int)
 | 0,_,_,_,_,_,_,_,_,_,_=>none
 | k + 1,x1,x5,x6,x7,x8,Fc,Ec,Dc,Cc,Lb=>if x8 < (x7.length:Int) then (if 0 ≤ x8 then (if (rd x7 x8)=x1 then ((Ff.f x5 x6).bind fun t112=>(fc.l1 k x1 t112 x6 x7 (wrap64 (x8 + 1)) Fc Ec Dc Cc Lb)) else (fc.l1 k x1 x5 x6 x7 (wrap64 (x8 + 1)) Fc Ec Dc Cc Lb)) else (none)) else (fc.l0 k x1 x5 (wrap64 (x6 + 1)) Fc Ec Dc Cc Lb)
end
noncomputable def fc.f (k:Nat) (Ma:List Int) (Oa:Int) (Pa:Int) (Na:Int) (oa:List (Wd)) (a1:Int):Option (List Int):=(some (([]:List Int):List Int)).bind fun yd=>((Qd.f k Ma Oa Pa Na oa).bind fun t105=>(if t105=true then ((Jh.f a1 0 (wrap64 ((oa.length:Int) - 1))).bind fun t106=>(fc.j0 k a1 yd (!t106) Ma Oa Pa Na oa)) else (fc.j0 k a1 yd true Ma Oa Pa Na oa)))
theorem fc.calls (k:Nat) (zb:Option Addr) (yb:Nat) (Ma:List Int) (Oa:Int) (Pa:Int) (Na:Int) (Ob:Option Addr) (Fb:Nat) (oa:List (Wd)) (a1:Int) (r:List Int) (w:World) (qd:Kd.C (Kd.int .i64) w zb Ma.length Ma) (Ad:Ma.length ≤ yb) (fe:Kd.C Km w Ob oa.length oa) (Fe:oa.length ≤ Fb) (h:fc.f k Ma Oa Pa Na oa a1=some r) :
  Calls Try.prog 114 #[.agg #[.slice zb Ma.length yb,.int .i64 Oa,.int .i64 Pa,.int .i64 Na,.slice Ob oa.length Fb],.int .i64 a1] w fun e w'=>∃ Di:Value,e = .returned (Di)∧Kd.R (Kd.int .i64) 3 w' w.heap.size (fun _=>True) Di r∧Below w.heap.size w w':=by
 have gD:=Try.underlying45;have Sy:=Try.underlying83;have Ng:=aa.mk qd;have Pg:=aa.mk Ad;clear qd Ad;have Dh:=aa.mk fe;have bk:=aa.mk Fe;clear fe Fe;have HB:=aa.mk (Below.refl w.heap.size w);have H:((some (([]:List Int):List Int)).bind fun yd=>((Qd.f k Ma Oa Pa Na oa).bind fun t105=>(if t105=true then ((Jh.f a1 0 (wrap64 ((oa.length:Int) - 1))).bind fun t106=>(fc.j0 k a1 yd (!t106) Ma Oa Pa Na oa)) else (fc.j0 k a1 yd true Ma Oa Pa Na oa))))=some r:=h;clear h;obtain ⟨yd,Ee⟩:∃ y_:List Int,y_=(([]:List Int)):=⟨_,rfl⟩;replace H:((Qd.f k Ma Oa Pa Na oa).bind fun t105=>(if t105=true then ((Jh.f a1 0 (wrap64 ((oa.length:Int) - 1))).bind fun t106=>(fc.j0 k a1 yd (!t106) Ma Oa Pa Na oa)) else (fc.j0 k a1 yd true Ma Oa Pa Na oa)))=some r:=by first|(rw [Ee];with_reducible exact H)|(have Qc:=(Option.bind_some _ _).symm.trans H;rw [Ee];with_reducible exact Qc)|(have Qc:=(Option.bind_some _ _).symm.trans H;with_reducible exact Qc)|with_reducible exact H|(rw [Ee];exact H)|exact H
 have Ch:=aa.mk Ee;clear Ee;have NH:=aa.mk H;clear H;go_enter Try.func114,Try.ntmps114
 go_upto_region 2 with (first|((with_reducible refine Qb (N:=2) rfl ?_);(try (refine xm (by rfl) ?_;dsimp only));refine Ic ?hg (N:=2) ?hd (cs:=#[.slice zb Ma.length yb,.int .i64 Oa,.int .i64 Pa,.int .i64 Na,.slice Ob oa.length Fb]) (t:=45) ?hr ?_;(case hd|hg=>rfl);(case hr=>exact jaj);intro Ka hg w4 Bd hb;have Pb:=aa.mk (Ga maj hb);have Rb:=aa.mk (Bd);have Yb:=aa.mk ((by rw [hg];exact (Qa maj):w.heap.size ≤ Ka));have Vc:=aa.mk ((by rw [hg];exact (Qa maj):w.heap.size ≤ Ka));clear HB;have HB:=Pb;have qa:=Rb;have Vf:=Yb;have Xa:=Vc;clear Pb Rb Yb Vc hb Bd hg)|((with_reducible refine Qb (N:=9) rfl ?_);(try (refine xm (by rfl) ?_;dsimp only));refine Kd.Yj (Kd.int .i64) _ 3 ?hg (N:=9) ?hd (xs:=([]:List Int)) (inner:=[]) (ok:=fun _=>True) (Yg:=fun _=>True) ?hr ?hp (fun _ hk=>hk) trivial (Below.refl _ _) (Nat.le_refl _) (by simp) ?_;(case hd|hg=>rfl);(case hr=>exact jaj);(case hp=>exact (Pc.none _ _));intro th w5 Us hb Ll Pe;clear Ll Pe;(first|rw [← Ch.out] at Us|(simp only [Int.reduceToNat] at Us;rw [← Ch.out] at Us));have Pb:=aa.mk (Kd.Xc Us (Qa laj));have Rb:=aa.mk (Ta (g:=Ka) (o:=.cells #[.slice zb Ma.length yb,.int .i64 Oa,.int .i64 Pa,.int .i64 Na,.slice Ob oa.length Fb] 45 (0,0)) naj hb);have Yb:=aa.mk (Ga laj hb);clear qa HB;have qe:=Pb;have qa:=Rb;have HB:=Yb;clear Pb Rb Yb hb Us))
 (try simp only [Act.put,List.setIfInBounds_toArray,List.set_cons_zero,List.set_cons_succ])
 go_cut [21] (fun v21 wc=>∃ (kq:Nat) (pE:Bool),v21 = .bool pE∧aa (fc.j0 kq a1 yd pE Ma Oa Pa Na oa=some r)∧aa (kq ≤ k)∧aa (Kd.R (Kd.int .i64) 3 wc w.heap.size (fun _=>True) th yd)∧aa (wc.heap[Ka]? = some (.cells #[(.slice zb Ma.length yb),.int .i64 Oa,.int .i64 Pa,.int .i64 Na,(.slice Ob oa.length Fb)] 45 (0,0)))∧aa (Below w.heap.size w wc))
 case first =>
  have H:=NH.out;clear NH;replace H:=Option.bind_eq_some_iff.mp H;obtain ⟨t105,kZ,H⟩:=H
  try dsimp only at H
  have A7:=aa.mk kZ;clear kZ
  by_cases c8:t105=true
  ·subst c8;rw [if_pos rfl] at H;replace H:=Option.bind_eq_some_iff.mp H;obtain ⟨t106,A90,H⟩:=H
   try dsimp only at H
   have A9:=aa.mk A90;clear A90;have H':=aa.mk H;clear H;obtain ⟨Wl,Vl,Ul,Tl,Sl,Rl,Ql,Ol,Nl,Ml⟩:=Gz qa.out;go_wp2_with (first|((with_reducible refine Kb (f:=66) rfl ?_);refine ie (some 11) rfl rfl Try.func66 (by kernel_rfl) rfl #[.agg #[.slice zb Ma.length yb,.int .i64 Oa,.int .i64 Pa,.int .i64 Na,.slice Ob oa.length Fb]] rfl paj ?_;(with_reducible refine (Qd.calls k _ _ Ma Oa Pa Na _ _ oa true _ ?Oc ?Nc ?Si ?Ri A7.out).mono ?_);(case Oc=>repeat (first|exact (Kd.Za Ng.out HB.out)|(with_reducible refine Kd.Gd ?_ _)|(with_reducible refine Kd.Ed ?_ _)|(with_reducible refine Kd.He ?_)));(case Nc=>exact Pg.out);(case Si=>repeat (first|exact (Kd.Za Dh.out HB.out)|(with_reducible refine Kd.Gd ?_ _)|(with_reducible refine Kd.Ed ?_ _)|(with_reducible refine Kd.He ?_)));(case Ri=>exact bk.out);rintro e Dl ⟨rfl,hb⟩;refine ⟨_,rfl,?_⟩;have Pb:=aa.mk (Kd.ec yaj hb);have Rb:=aa.mk (Ta (g:=Ka) (o:=.cells #[.slice zb Ma.length yb,.int .i64 Oa,.int .i64 Pa,.int .i64 Na,.slice Ob oa.length Fb] 45 (0,0)) naj hb);have Yb:=aa.mk (Ga laj hb);clear qe qa HB;have qe:=Pb;have qa:=Rb;have HB:=Yb;clear Pb Rb Yb;(try clear hb);(try clear Cl);(try clear hk);(try clear hi);have Rj:Dl.cell? ⟨Ka,0,none⟩=some (.slice zb Ma.length yb):=(ya qa.out 0).trans rfl;have Qj:Dl.cell? ⟨Ka,1,none⟩=some (.int .i64 Oa):=(ya qa.out 1).trans rfl;have Pj:Dl.cell? ⟨Ka,2,none⟩=some (.int .i64 Pa):=(ya qa.out 2).trans rfl;have Oj:Dl.cell? ⟨Ka,3,none⟩=some (.int .i64 Na):=(ya qa.out 3).trans rfl;have Mj:Dl.cell? ⟨Ka,4,none⟩=some (.slice Ob oa.length Fb):=(ya qa.out 4).trans rfl;have Lj:=za qa.out 0;have Kj:=za qa.out 1;have Jj:=za qa.out 2;have Ij:=za qa.out 3;have Hj:=za qa.out 4)|(go_at_call 81;(with_reducible refine (Jh.calls a1 0 (wrap64 ((oa.length:Int) - 1)) t106 _ A9.out).mono ?_);rintro e w' ⟨rfl,⟨nd,rfl⟩⟩))
   go_meet
   case rel=>exact ⟨_,(!t106),raj,H',⟨by first|omega|exact Nat.le_refl _⟩,⟨Taj⟩,⟨saj⟩,⟨oaj⟩⟩
  ·replace c8:=Bool.eq_false_iff.mpr c8;subst c8;rw [if_neg (show ¬ (false=true) by decide)] at H;have H':=aa.mk H;clear H;obtain ⟨Bn,zn,vn,qn,pn,kn,gn,en,dn,bn⟩:=Gz qa.out;go_wp2_with (first|((with_reducible refine Kb (f:=66) rfl ?_);refine ie (some 11) rfl rfl Try.func66 (by kernel_rfl) rfl #[.agg #[.slice zb Ma.length yb,.int .i64 Oa,.int .i64 Pa,.int .i64 Na,.slice Ob oa.length Fb]] rfl paj ?_;(with_reducible refine (Qd.calls k _ _ Ma Oa Pa Na _ _ oa false _ ?Oc ?Nc ?Si ?Ri A7.out).mono ?_);(case Oc=>repeat (first|exact (Kd.Za Ng.out HB.out)|(with_reducible refine Kd.Gd ?_ _)|(with_reducible refine Kd.Ed ?_ _)|(with_reducible refine Kd.He ?_)));(case Nc=>exact Pg.out);(case Si=>repeat (first|exact (Kd.Za Dh.out HB.out)|(with_reducible refine Kd.Gd ?_ _)|(with_reducible refine Kd.Ed ?_ _)|(with_reducible refine Kd.He ?_)));(case Ri=>exact bk.out);rintro e xU ⟨rfl,hb⟩;refine ⟨_,rfl,?_⟩;have Pb:=aa.mk (Kd.ec yaj hb);have Rb:=aa.mk (Ta (g:=Ka) (o:=.cells #[.slice zb Ma.length yb,.int .i64 Oa,.int .i64 Pa,.int .i64 Na,.slice Ob oa.length Fb] 45 (0,0)) naj hb);have Yb:=aa.mk (Ga laj hb);clear qe qa HB;have qe:=Pb;have qa:=Rb;have HB:=Yb;clear Pb Rb Yb;(try clear hb);(try clear Cl);(try clear hk);(try clear hi)))
   go_meet
   case rel=>exact ⟨_,(true),raj,H',⟨by first|omega|exact Nat.le_refl _⟩,⟨Taj⟩,⟨saj⟩,⟨oaj⟩⟩
 case rest =>
  clear NH
  try clear c1
  try clear p2
  try clear c6
  try clear p6
  try clear c8
  try clear Dx
  try clear Wl
  try clear Vl
  try clear Ul
  try clear Tl
  try clear Sl
  try clear Rj
  try clear Qj
  try clear Pj
  try clear Oj
  try clear Mj
  try clear Bn
  try clear zn
  try clear vn
  try clear qn
  try clear pn
  try clear Rl
  try clear Ql
  try clear Ol
  try clear Nl
  try clear Ml
  try clear Lj
  try clear Kj
  try clear Jj
  try clear Ij
  try clear Hj
  try clear kn
  try clear gn
  try clear en
  try clear dn
  try clear bn
  obtain ⟨kq,pE,rfl,HA,NU,Ue,qa,HB⟩:=hcut;cases kq with
  | zero=>exact absurd HA.out (by simp [fc.j0])
  | succ kj2 =>
   have H:=HA.out;clear HA;simp only [fc.j0] at H
   by_cases Zw:pE=true
   ·subst Zw;rw [if_pos rfl] at H;obtain rfl:=Option.some.inj H;go_wp2;go_ret;exact ⟨_,taj,cak,oaj⟩
   ·replace Zw:=Bool.eq_false_iff.mpr Zw;subst Zw;rw [if_neg (show ¬ (false=true) by decide)] at H;have H':=aa.mk H;clear H;go_wp2
    go_loopg [5,6] kj2 (fun kq v5 v6 w'=>∃ (kr:List Int) (Wk:Int),v6 = .int .i64 Wk∧aa (fc.l0 kq a1 kr Wk Ma Oa Pa Na oa=some r)∧aa (kq ≤ kj2)∧aa (Kd.R (Kd.int .i64) 3 w' w.heap.size (fun _=>True) v5 kr)∧aa (w'.heap[Ka]? = some (.cells #[(.slice zb Ma.length yb),.int .i64 Oa,.int .i64 Pa,.int .i64 Na,(.slice Ob oa.length Fb)] 45 (0,0)))∧aa (Below w.heap.size w w'))
    case atStart=>exact ⟨(yd),(0),raj,H',⟨Nat.le_refl _⟩,⟨cak⟩,⟨saj⟩,⟨oaj⟩⟩
    case round =>
     clear H'
     try clear c1
     try clear p2
     try clear c6
     try clear p6
     try clear c8
     try clear Dx
     try clear Zw
     try clear Wl
     try clear Vl
     try clear Ul
     try clear Tl
     try clear Sl
     try clear Rj
     try clear Qj
     try clear Pj
     try clear Oj
     try clear Mj
     try clear Bn
     try clear zn
     try clear vn
     try clear qn
     try clear pn
     try clear Rl
     try clear Ql
     try clear Ol
     try clear Nl
     try clear Ml
     try clear Lj
     try clear Kj
     try clear Jj
     try clear Ij
     try clear Hj
     try clear kn
     try clear gn
     try clear en
     try clear dn
     try clear bn
     try clear p2
     try clear p6
     (try clear HA);(try clear aj);(try clear Ue);(try clear qa);(try clear HB);obtain ⟨kr,Wk,rfl,HA,aj,Ue,qa,HB⟩:=hrel;cases gk with
     | zero=>exact absurd HA.out (by simp [fc.l0])
     | succ k2 =>
      have H:=HA.out;clear HA;simp only [fc.l0] at H
      by_cases Iz:Wk < (oa.length:Int)
      ·rw [if_pos Iz] at H;have XB:decide (Wk < (oa.length:Int))=true:=decide_eq_true Iz;clear Iz
       by_cases Yw:0 ≤ Wk
       ·rw [if_pos Yw] at H;have wP:decide (0 ≤ Wk)=true:=decide_eq_true Yw;clear Yw;replace H:=Option.bind_eq_some_iff.mp H;obtain ⟨t108,qZ,H⟩:=H
        try dsimp only at H
        have A18:=aa.mk qZ;clear qZ;have H':=aa.mk H;clear H;obtain ⟨SM,RM,QM,PM,OM,zM,yM,xM,wM,vM⟩:=Gz qa.out;have Ay:0 ≤ (Wk:Int):=Ja;have yy:Wk < (oa.length:Int):=Ja;obtain ⟨Qk,gA,Jz,ZS,Ym,Xm,Wm,Vm,Um,Ws,bt⟩:=Vj Dh.out Wk Ay yy;cases ZS;replace Ym:=Jb HB.out Ym;replace Xm:=Jb HB.out Xm;replace Wm:=Jb HB.out Wm;replace Vm:=Jb HB.out Vm;replace Um:=Jb HB.out Um;have Zl:=aa.mk bt;have dA:=aa.mk Ws;clear bt Ws;replace Ay:=eq_true Ay;replace yy:=eq_true yy;go_wp2_with (first|((with_reducible refine Kb (f:=85) rfl ?_);refine ie (some 35) rfl rfl Try.func85 (by kernel_rfl) rfl #[.agg #[.slice gA ((Ea oa Wk).f0).length Jz,.int .i64 ((Ea oa Wk).f1),.int .i64 ((Ea oa Wk).f2),.int .i64 ((Ea oa Wk).f3),.int .i64 ((Ea oa Wk).f4)]] rfl paj ?_;(with_reducible refine (bf.calls _ _ ((Ea oa Wk).f0) ((Ea oa Wk).f1) ((Ea oa Wk).f2) ((Ea oa Wk).f3) ((Ea oa Wk).f4) t108 _ ?Oc ?Nc A18.out).mono ?_);(case Oc=>repeat (first|exact (Kd.Za Zl.out HB.out)|(with_reducible refine Kd.Gd ?_ _)|(with_reducible refine Kd.Ed ?_ _)|(with_reducible refine Kd.He ?_)));(case Nc=>exact dA.out);rintro e D5 ⟨v109,rfl,Rg,hb⟩;refine ⟨_,rfl,?_⟩;have Pb:=aa.mk (Kd.Ag gak (Kd.Wf Rg) hb);have Rb:=aa.mk (Kd.Xc (Kd.Bh Rg (Kd.Yi gak)) (Qa laj));have Yb:=aa.mk (Ta (g:=Ka) (o:=.cells #[.slice zb Ma.length yb,.int .i64 Oa,.int .i64 Pa,.int .i64 Na,.slice (some Qk) oa.length Fb] 45 (0,0)) naj hb);have Vc:=aa.mk (Ga laj hb);clear Ue qa HB;have Ue:=Pb;have bp:=Rb;have qa:=Yb;have HB:=Vc;clear Pb Rb Yb Vc;(try clear hb);(try clear Cl);(try clear hk);(try clear hi);(try clear Rg)))
        go_loopg [5,8] k2 (fun kq v5 v8 w'=>∃ (ry:List Int) (Cp:Int),v8 = .int .i64 Cp∧aa (fc.l1 kq a1 ry Wk t108 Cp Ma Oa Pa Na oa=some r)∧aa (kq ≤ k2)∧aa (Kd.R (Kd.int .i64) 3 w' w.heap.size (fun k_=>some k_ ≠ (v109:Value).ownBlock) v5 ry)∧aa (Kd.R (Kd.int .i64) 3 w' w.heap.size (fun k_=>some k_ ≠ (v5:Value).ownBlock) v109 t108)∧aa (w'.heap[Ka]? = some (.cells #[(.slice zb Ma.length yb),.int .i64 Oa,.int .i64 Pa,.int .i64 Na,(.slice (some Qk) oa.length Fb)] 45 (0,0)))∧aa (Below w.heap.size w w'))
        case atStart=>exact ⟨(kr),(0),raj,H',⟨Nat.le_refl _⟩,⟨by (with_reducible repeat (first|apply Kd.Ia|apply Kd.La|apply Kd.Ra));exact Kd.Eb Ue.out (fun _ hk=>hk.2)⟩,⟨by (with_reducible repeat (first|apply Kd.Ia|apply Kd.La|apply Kd.Ra));exact Kd.Eb bp.out (fun _ hk=>hk.2)⟩,⟨saj⟩,⟨oaj⟩⟩
        case round =>
         clear H'
         try clear c1
         try clear p1
         try clear q1
         try clear hx1
         try clear p2
         try clear c6
         try clear p6
         try clear c8
         try clear mK
         try clear mA
         try clear kA
         try clear dM
         try clear Dx
         try clear Zw
         try clear Iz
         try clear XB
         try clear Yw
         try clear wP
         try clear Wl
         try clear Vl
         try clear Ul
         try clear Tl
         try clear Sl
         try clear Rj
         try clear Qj
         try clear Pj
         try clear Oj
         try clear Mj
         try clear Bn
         try clear zn
         try clear vn
         try clear qn
         try clear pn
         try clear SM
         try clear RM
         try clear QM
         try clear PM
         try clear OM
         try clear Rl
         try clear Ql
         try clear Ol
         try clear Nl
         try clear Ml
         try clear Lj
         try clear Kj
         try clear Jj
         try clear Ij
         try clear Hj
         try clear kn
         try clear gn
         try clear en
         try clear dn
         try clear bn
         try clear zM
         try clear yM
         try clear xM
         try clear wM
         try clear vM
         try clear Ym
         try clear Xm
         try clear Wm
         try clear Vm
         try clear Um
         try clear Ay
         try clear p2
         try clear p6
         try clear yy
         (try clear HA);(try clear BH);(try clear Ue);(try clear Od);(try clear qa);(try clear HB);obtain ⟨ry,Cp,rfl,HA,BH,Ue,Od,qa,HB⟩:=hrel;cases gk with
         | zero=>exact absurd HA.out (by simp [fc.l1])
         | succ k3 =>
          have H:=HA.out;clear HA;simp only [fc.l1] at H
          by_cases qA:Cp < (t108.length:Int)
          ·rw [if_pos qA] at H;have UB:decide (Cp < (t108.length:Int))=true:=decide_eq_true qA;clear qA
           by_cases oA:0 ≤ Cp
           ·rw [if_pos oA] at H;have UF:decide (0 ≤ Cp)=true:=decide_eq_true oA;clear oA
            by_cases Qn:(rd t108 Cp)=a1
            ·rw [if_pos Qn] at H;have bq:=beq_iff_eq.mpr Qn;have Kw:=bne_eq_false_iff_eq.mpr Qn;clear Qn;replace H:=Option.bind_eq_some_iff.mp H;obtain ⟨t112,pZ,H⟩:=H
             try dsimp only at H
             have A24:=aa.mk pZ;clear pZ;have H':=aa.mk H;clear H;obtain ⟨Iah,F_,f_⟩:=Kd.Vb Od.out;subst f_;have Gl:0 ≤ (Cp:Int):=Ja;have Fl:Cp < (t108.length:Int):=Ja;obtain ⟨Xi,Hw,Ck⟩:=Kd.Ld (Kd.Ua Od.out).2.2 Cp Gl Fl;cases Hw;replace Gl:=eq_true Gl;replace Fl:=eq_true Fl;obtain ⟨qO,lN,VS⟩:=Kd.Vb Ue.out;subst VS;go_wp2_with (first|((with_reducible refine Kb (f:=55) rfl ?_);refine ie (some 50) rfl rfl Try.func55 (by kernel_rfl) rfl #[.slice qO ry.length lN,.int .i64 Wk] rfl paj ?_;(with_reducible refine (Ff.calls (fun k_=>some k_=(.slice qO ry.length lN:Value).ownBlock) (.slice qO ry.length lN) ry Wk t112 w _ ?Oc ?Nc A24.out).mono ?_);(case Oc=>repeat (first|(with_reducible first|exact HB.out|apply ia|apply ga|apply ja|refine ta ?_ Xa.out)|exact HB.out));(case Nc=>exact Kd.Ji rfl Ue.out);rintro e w27 ⟨X5,rfl,Rg,hb,hkp⟩;refine ⟨_,rfl,?_⟩;have Pb:=aa.mk (Kd.Eb (cl:=fun k_=>some k_ ≠ (X5:Value).ownBlock) (Kd.Ot (Od.out) hkp (fun k_ Tn hs_=>(Tn) hs_)) (fun k_ Tn=>fun e_=>Or.elim (Rg.1 k_ e_.symm) (fun hs_=>Tn.2.1 hs_) (fun zR=>Nat.not_le.2 Tn.2.2 zR)));have Rb:=aa.mk (jg naj hkp (fun hs_=>(fun e_=>(Kd.xp Ue.out qa.out (by decide)) e_) hs_));have Yb:=aa.mk (Kd.Eb (cl:=fun k_=>some k_ ≠ (.slice (some Xi) t108.length F_:Value).ownBlock) Rg (fun k_ Tn=>Or.elim Tn (fun hs_=>fun e_=>(((Od.out).1 k_ e_.symm)) hs_) (fun zR=>(Kd.fresh' (Kd.Yi bak) k_ zR))));have Vc:=aa.mk (hb);clear Od qa HB Ue;have Od:=Pb;have qa:=Rb;have Og:=Yb;have HB:=Vc;clear Pb Rb Yb Vc;(try clear hb);(try clear hkp);(try clear Rg)))
             go_roundg k3
             case measure=>have:=NU.out;have:=aj.out;have:=BH.out;omega
             case rel=>exact ⟨(t112),(wrap64 (Cp + 1)),raj,H',⟨by have:=NU.out;have:=aj.out;have:=BH.out;omega⟩,⟨by (with_reducible repeat (first|apply Kd.Ia|apply Kd.La|apply Kd.Ra));exact Og.out⟩,⟨iak⟩,⟨saj⟩,⟨oaj⟩⟩
            ·rw [if_neg Qn] at H;have bq:=beq_eq_false_iff_ne.mpr Qn;have Kw:=bne_iff_ne.mpr Qn;have H':=aa.mk H;clear H;obtain ⟨Hah,nag,d_⟩:=Kd.Vb Od.out;subst d_;have Gl:0 ≤ (Cp:Int):=Ja;have Fl:Cp < (t108.length:Int):=Ja;obtain ⟨Xi,Hw,Ck⟩:=Kd.Ld (Kd.Ua Od.out).2.2 Cp Gl Fl;cases Hw;replace Gl:=eq_true Gl;replace Fl:=eq_true Fl;go_wp2
             go_roundg k3
             case measure=>have:=NU.out;have:=aj.out;have:=BH.out;omega
             case rel=>exact ⟨(ry),(wrap64 (Cp + 1)),raj,H',⟨by have:=NU.out;have:=aj.out;have:=BH.out;omega⟩,⟨cak⟩,⟨iak⟩,⟨saj⟩,⟨oaj⟩⟩
           ·rw [if_neg oA] at H;exact absurd H (by simp)
          ·rw [if_neg qA] at H;have UB:decide (Cp < (t108.length:Int))=false:=decide_eq_false qA;clear qA;have H':=aa.mk H;clear H;obtain ⟨Baa,E_,US⟩:=Kd.Vb Od.out;subst US;go_wp2
           go_roundg k3
           case measure=>have:=NU.out;have:=aj.out;have:=BH.out;omega
           case rel=>exact ⟨(ry),(wrap64 (Wk + 1)),raj,H',⟨by have:=NU.out;have:=aj.out;have:=BH.out;omega⟩,⟨by (with_reducible repeat (first|apply Kd.Ia|apply Kd.La|apply Kd.Ra));exact Kd.Eb Ue.out (fun _ hk=>trivial)⟩,⟨saj⟩,⟨oaj⟩⟩
       ·rw [if_neg Yw] at H;exact absurd H (by simp)
      ·rw [if_neg Iz] at H;have XB:decide (Wk < (oa.length:Int))=false:=decide_eq_false Iz;clear Iz;obtain rfl:=Option.some.inj H;obtain ⟨mz,kz,jz,iz,gz,Zy,Yy,Xy,Wy,Vy⟩:=Gz qa.out;go_wp2;go_ret;exact ⟨_,taj,cak,oaj⟩
def ue.f (Ma:List (oc)) (Oa:Int) (Pa:Int) (Na:Int) (Xd:Int):Option (List Int):=if Oa=0 then (some (([Na]:List Int))) else (if Oa=1 then (some (([Na,Xd]:List Int))) else (some ([]:List Int)))
theorem ue.calls (zb:Option Addr) (yb:Nat) (Ma:List (oc)) (Oa:Int) (Pa:Int) (Na:Int) (Xd:Int) (r:List Int) (w:World) (qd:Kd.C Je w zb Ma.length Ma) (Ad:Ma.length ≤ yb) (h:ue.f Ma Oa Pa Na Xd=some r) :
  Calls Try.prog 75 #[.agg #[.slice zb Ma.length yb,.int .i64 Oa,.int .i64 Pa,.int .i64 Na,.int .i64 Xd]] w fun e w'=>∃ Di:Value,e = .returned (Di)∧Kd.R (Kd.int .i64) 3 w' w.heap.size (fun _=>True) Di r∧Below w.heap.size w w':=by
 have Sy:=Try.underlying83;have Ng:=aa.mk qd;have Pg:=aa.mk Ad;clear qd Ad;have HB:=aa.mk (Below.refl w.heap.size w);have H:(if Oa=0 then (some (([Na]:List Int))) else (if Oa=1 then (some (([Na,Xd]:List Int))) else (some ([]:List Int))))=some r:=h;clear h
 by_cases c2:Oa=0
 ·rw [if_pos c2] at H;have Mo:=beq_iff_eq.mpr c2;have Sq:=bne_eq_false_iff_eq.mpr c2;clear c2;obtain ⟨yd,Ee⟩:∃ y_:List Int,y_=(([Na]:List Int)):=⟨_,rfl⟩;replace H:(some yd)=some r:=by first|(rw [Ee];with_reducible exact H)|(have Qc:=(Option.bind_some _ _).symm.trans H;rw [Ee];with_reducible exact Qc)|(have Qc:=(Option.bind_some _ _).symm.trans H;with_reducible exact Qc)|with_reducible exact H|(rw [Ee];exact H)|exact H
  have Ch:=aa.mk Ee;clear Ee;obtain rfl:=Option.some.inj H;go_enter Try.func75,Try.ntmps75;go_wp2_with (first|((with_reducible refine Qb (N:=1) rfl ?_);refine Ic ?hg (N:=1) ?hd (cs:=#[.slice zb Ma.length yb,.int .i64 Oa,.int .i64 Pa,.int .i64 Na,.int .i64 Xd]) (t:=83) ?hr ?_;(case hd|hg=>rfl);(case hr=>exact jaj);intro Ka hg w3 Bd hb;have Pb:=aa.mk (Ga maj hb);have Rb:=aa.mk (Bd);have Yb:=aa.mk ((by rw [hg];exact (Qa maj):w.heap.size ≤ Ka));have Vc:=aa.mk ((by rw [hg];exact (Qa maj):w.heap.size ≤ Ka));clear HB;have HB:=Pb;have qa:=Rb;have Vf:=Yb;have Xa:=Vc;clear Pb Rb Yb Vc hb Bd hg;have sS:w3.cell? ⟨Ka,0,none⟩=some (.slice zb Ma.length yb):=(ya qa.out 0).trans rfl;have rS:w3.cell? ⟨Ka,1,none⟩=some (.int .i64 Oa):=(ya qa.out 1).trans rfl;have pS:w3.cell? ⟨Ka,2,none⟩=some (.int .i64 Pa):=(ya qa.out 2).trans rfl;have nS:w3.cell? ⟨Ka,3,none⟩=some (.int .i64 Na):=(ya qa.out 3).trans rfl;have mS:w3.cell? ⟨Ka,4,none⟩=some (.int .i64 Xd):=(ya qa.out 4).trans rfl;have RR:=za qa.out 0;have PR:=za qa.out 1;have NR:=za qa.out 2;have MR:=za qa.out 3;have LR:=za qa.out 4)|((with_reducible refine Qb (N:=9) rfl ?_);refine Kd.Yj (Kd.int .i64) _ 3 ?hg (N:=9) ?hd (xs:=([Na]:List Int)) (inner:=[.int .i64 Na]) (ok:=fun _=>True) (Yg:=fun _=>True) ?hr ?hp (fun _ hk=>hk) trivial (Below.refl _ _) (Nat.le_refl _) (by simp) ?_;(case hd|hg=>rfl);(case hr=>exact jaj);(case hp=>exact (Pc.one (show Kd.M (Kd.int .i64) _ _ _ Na [.int .i64 Na] from rfl) (Pc.none _ _)));intro th w5 Us hb Ll Pe;clear Ll Pe;(first|rw [← Ch.out] at Us|(simp only [Int.reduceToNat] at Us;rw [← Ch.out] at Us));have Pb:=aa.mk (Kd.Xc Us (Qa laj));have Rb:=aa.mk (Ta (g:=Ka) (o:=.cells #[.slice zb Ma.length yb,.int .i64 Oa,.int .i64 Pa,.int .i64 Na,.int .i64 Xd] 83 (0,0)) naj hb);have Yb:=aa.mk (Ga laj hb);clear qa HB;have qe:=Pb;have qa:=Rb;have HB:=Yb;clear Pb Rb Yb hb Us));go_ret;exact ⟨_,taj,Taj,oaj⟩
 ·rw [if_neg c2] at H;have Mo:=beq_eq_false_iff_ne.mpr c2;have Sq:=bne_iff_ne.mpr c2
  by_cases c7:Oa=1
  ·rw [if_pos c7] at H;have yu:=beq_iff_eq.mpr c7;have fK:=bne_eq_false_iff_eq.mpr c7;clear c7;obtain ⟨Pd,Hf⟩:∃ y_:List Int,y_=(([Na,Xd]:List Int)):=⟨_,rfl⟩;replace H:(some Pd)=some r:=by first|(rw [Hf];with_reducible exact H)|(have Qc:=(Option.bind_some _ _).symm.trans H;rw [Hf];with_reducible exact Qc)|(have Qc:=(Option.bind_some _ _).symm.trans H;with_reducible exact Qc)|with_reducible exact H|(rw [Hf];exact H)|exact H
   have Tk:=aa.mk Hf;clear Hf;obtain rfl:=Option.some.inj H;go_enter Try.func75,Try.ntmps75;go_wp2_with (first|((with_reducible refine Qb (N:=1) rfl ?_);refine Ic ?hg (N:=1) ?hd (cs:=#[.slice zb Ma.length yb,.int .i64 Oa,.int .i64 Pa,.int .i64 Na,.int .i64 Xd]) (t:=83) ?hr ?_;(case hd|hg=>rfl);(case hr=>exact jaj);intro Ka hg w8 Bd hb;have Pb:=aa.mk (Ga maj hb);have Rb:=aa.mk (Bd);have Yb:=aa.mk ((by rw [hg];exact (Qa maj):w.heap.size ≤ Ka));have Vc:=aa.mk ((by rw [hg];exact (Qa maj):w.heap.size ≤ Ka));clear HB;have HB:=Pb;have qa:=Rb;have Vf:=Yb;have Xa:=Vc;clear Pb Rb Yb Vc hb Bd hg;have Bl:w8.cell? ⟨Ka,0,none⟩=some (.slice zb Ma.length yb):=(ya qa.out 0).trans rfl;have Al:w8.cell? ⟨Ka,1,none⟩=some (.int .i64 Oa):=(ya qa.out 1).trans rfl;have zl:w8.cell? ⟨Ka,2,none⟩=some (.int .i64 Pa):=(ya qa.out 2).trans rfl;have yl:w8.cell? ⟨Ka,3,none⟩=some (.int .i64 Na):=(ya qa.out 3).trans rfl;have xl:w8.cell? ⟨Ka,4,none⟩=some (.int .i64 Xd):=(ya qa.out 4).trans rfl;have vl:=za qa.out 0;have ql:=za qa.out 1;have jl:=za qa.out 2;have gl:=za qa.out 3;have fl:=za qa.out 4)|((with_reducible refine Qb (N:=16) rfl ?_);refine Kd.Yj (Kd.int .i64) _ 3 ?hg (N:=16) ?hd (xs:=([Na,Xd]:List Int)) (inner:=[.int .i64 Na,.int .i64 Xd]) (ok:=fun _=>True) (Yg:=fun _=>True) ?hr ?hp (fun _ hk=>hk) trivial (Below.refl _ _) (Nat.le_refl _) (by simp) ?_;(case hd|hg=>rfl);(case hr=>exact jaj);(case hp=>exact (Pc.one (show Kd.M (Kd.int .i64) _ _ _ Na [.int .i64 Na] from rfl) (Pc.one (show Kd.M (Kd.int .i64) _ _ _ Xd [.int .i64 Xd] from rfl) (Pc.none _ _))));intro Wv wv vp hb Ll Pe;clear Ll Pe;(first|rw [← Tk.out] at vp|(simp only [Int.reduceToNat] at vp;rw [← Tk.out] at vp));have Pb:=aa.mk (Kd.Xc vp (Qa laj));have Rb:=aa.mk (Ta (g:=Ka) (o:=.cells #[.slice zb Ma.length yb,.int .i64 Oa,.int .i64 Pa,.int .i64 Na,.int .i64 Xd] 83 (0,0)) naj hb);have Yb:=aa.mk (Ga laj hb);clear qa HB;have Uk:=Pb;have qa:=Rb;have HB:=Yb;clear Pb Rb Yb hb vp));go_ret;exact ⟨_,taj,by (with_reducible repeat (first|apply Kd.Ia|apply Kd.La|apply Kd.Ra));exact Uk.out,oaj⟩
  ·rw [if_neg c7] at H;have yu:=beq_eq_false_iff_ne.mpr c7;have fK:=bne_iff_ne.mpr c7;obtain rfl:=Option.some.inj H;go_enter Try.func75,Try.ntmps75;go_wp2_with (first|((with_reducible refine Qb (N:=1) rfl ?_);refine Ic ?hg (N:=1) ?hd (cs:=#[.slice zb Ma.length yb,.int .i64 Oa,.int .i64 Pa,.int .i64 Na,.int .i64 Xd]) (t:=83) ?hr ?_;(case hd|hg=>rfl);(case hr=>exact jaj);intro Ka hg Vv Bd hb;have Pb:=aa.mk (Ga maj hb);have Rb:=aa.mk (Bd);have Yb:=aa.mk ((by rw [hg];exact (Qa maj):w.heap.size ≤ Ka));have Vc:=aa.mk ((by rw [hg];exact (Qa maj):w.heap.size ≤ Ka));clear HB;have HB:=Pb;have qa:=Rb;have Vf:=Yb;have Xa:=Vc;clear Pb Rb Yb Vc hb Bd hg;have Bn:Vv.cell? ⟨Ka,0,none⟩=some (.slice zb Ma.length yb):=(ya qa.out 0).trans rfl;have zn:Vv.cell? ⟨Ka,1,none⟩=some (.int .i64 Oa):=(ya qa.out 1).trans rfl;have vn:Vv.cell? ⟨Ka,2,none⟩=some (.int .i64 Pa):=(ya qa.out 2).trans rfl;have qn:Vv.cell? ⟨Ka,3,none⟩=some (.int .i64 Na):=(ya qa.out 3).trans rfl;have pn:Vv.cell? ⟨Ka,4,none⟩=some (.int .i64 Xd):=(ya qa.out 4).trans rfl;have kn:=za qa.out 0;have gn:=za qa.out 1;have en:=za qa.out 2;have dn:=za qa.out 3;have bn:=za qa.out 4));go_ret;exact ⟨_,taj,by first|exact Kd.Nt _ _ _ _ _|exact Kd.yX _ _ _ _ _|exact Kd.iX _ _ _ _ _|exact Kd.rX _ _ _ _ _|exact Kd.nX _ _ _ _ _,oaj⟩
def Bb.l0:Nat→List Int→Int→Int→Int→Option (Int)
 | 0,_,_,_,_=>none
 | k + 1,x0,x1,x7,x8=>if x8 < x7 then (if 0 ≤ x8 then (if x8 < (x0.length:Int) then (if x1=(rd x0 x8) then (some x8) else (Bb.l0 k x0 x1 x7 (wrap64 (x8 + 1)))) else (none)) else (none)) else (some (-1))
def Bb.f (k:Nat) (l0:List Int) (a1:Int):Option (Int):=Bb.l0 k l0 a1 (l0.length:Int) 0
theorem Bb.Ip:∀ k,(∀ y0 y1 y2 y3,qh (Bb.l0 k y0 y1 y2 y3) (Bb.l0 (k + 1) y0 y1 y2 y3))
 | 0=>fun _ _ _ _ r h=>by simp [Bb.l0] at h
 | k + 1=>by
  have VA:=Bb.Ip k
  ·intro y0 y1 y2 y3;unfold Bb.l0
   repeat' first
   | (with_reducible exact VA _ _ _ _)
   | (with_reducible exact qh.refl _)
   | (with_reducible exact qh.none _)
   | (with_reducible refine qh.ite ?_ ?_)
   | (with_reducible refine qh.bind ?_ (fun _=>?_))
   | exact VA _ _ _ _
   | exact qh.none _
   | refine qh.ite ?_ ?_
   | refine qh.bind ?_ (fun _=>?_)
theorem Bb.mono:∀ a0 a1 k,qh (Bb.f k a0 a1) (Bb.f (k + 1) a0 a1):=by
 intro a0 a1 k;have VA:=Bb.Ip k;unfold Bb.f
 repeat' first
   | (with_reducible exact VA _ _ _ _)
   | (with_reducible exact qh.refl _)
   | (with_reducible exact qh.none _)
   | (with_reducible refine qh.ite ?_ ?_)
   | (with_reducible refine qh.bind ?_ (fun _=>?_))
   | exact VA _ _ _ _
   | exact qh.none _
   | refine qh.ite ?_ ?_
   | refine qh.bind ?_ (fun _=>?_)
theorem Bb.calls (k:Nat) (A0:Option Addr) (c0:Nat) (l0:List Int) (a1:Int) (r:Int) (w:World) (Hi:Kd.C (Kd.int .i64) w A0 l0.length l0) (hc0:l0.length ≤ c0) (h:Bb.f k l0 a1=some r) :
  Calls Try.prog 110 #[.slice A0 l0.length c0,.int .i64 a1] w fun e w'=>e = .returned (.int .i64 r)∧Sb w w':=by
 have ak:=aa.mk Hi;have oy:=aa.mk hc0;clear Hi hc0;have H:(Bb.l0 k l0 a1 (l0.length:Int) 0)=some r:=h;clear h;have H':=aa.mk H;clear H;go_enter Try.func110,Try.ntmps110;go_wp2
 go_loopg [8] k (fun kq v8 w'=>∃ (qc:Int),v8 = .int .i64 qc∧aa (Bb.l0 kq l0 a1 (l0.length:Int) qc=some r)∧aa (kq ≤ k)∧Sb w w')
 case atStart=>exact ⟨(0),raj,H',⟨Nat.le_refl _⟩,xaj⟩
 case round =>
  clear H'
  try clear c1
  try clear p2
  (try clear HA);(try clear Kf);obtain ⟨qc,rfl,HA,Kf,⟨m1,rfl⟩⟩:=hrel;cases gk with
  | zero=>exact absurd HA.out (by simp [Bb.l0])
  | succ k1 =>
   have H:=HA.out;clear HA;simp only [Bb.l0] at H
   by_cases c3:qc < (l0.length:Int)
   ·rw [if_pos c3] at H;have Ah:decide (qc < (l0.length:Int))=true:=decide_eq_true c3;clear c3
    by_cases c4:0 ≤ qc
    ·rw [if_pos c4] at H;have zm:decide (0 ≤ qc)=true:=decide_eq_true c4;clear c4
     by_cases c5:qc < (l0.length:Int)
     ·rw [if_pos c5] at H;have Rq:decide (qc < (l0.length:Int))=true:=decide_eq_true c5;clear c5
      by_cases c6:a1=(rd l0 qc)
      ·rw [if_pos c6] at H;have Gt:=beq_iff_eq.mpr c6;have oT:=bne_eq_false_iff_eq.mpr c6;clear c6;obtain rfl:=Option.some.inj H;have Mf:0 ≤ (qc:Int):=Ja;have Lf:qc < (l0.length:Int):=Ja;obtain ⟨Cm,Sj,Cf⟩:=Kd.Ld ak.out qc Mf Lf;cases Sj;replace Mf:=eq_true Mf;replace Lf:=eq_true Lf;go_wp2;go_ret;exact ⟨Naj,xaj⟩
      ·rw [if_neg c6] at H;have Gt:=beq_eq_false_iff_ne.mpr c6;have oT:=bne_iff_ne.mpr c6;have H':=aa.mk H;clear H;have Mf:0 ≤ (qc:Int):=Ja;have Lf:qc < (l0.length:Int):=Ja;obtain ⟨Cm,Sj,Cf⟩:=Kd.Ld ak.out qc Mf Lf;cases Sj;replace Mf:=eq_true Mf;replace Lf:=eq_true Lf;go_wp2
       go_roundg k1
       case measure=>have:=Kf.out;omega
       case rel=>exact ⟨(wrap64 (qc + 1)),raj,H',⟨by have:=Kf.out;omega⟩,xaj⟩
     ·rw [if_neg c5] at H;exact absurd H (by simp)
    ·rw [if_neg c4] at H;exact absurd H (by simp)
   ·rw [if_neg c3] at H;have Ah:decide (qc < (l0.length:Int))=false:=decide_eq_false c3;clear c3;obtain rfl:=Option.some.inj H;go_wp2;go_ret;exact ⟨Naj,xaj⟩
def Gb.f (k:Nat) (l0:List Int) (a1:Int):Option (Bool):=(Bb.f k l0 a1).bind fun t101=>(some (decide (t101 ≥ 0)))
theorem Gb.mono:∀ a0 a1 k,qh (Gb.f k a0 a1) (Gb.f (k + 1) a0 a1):=by
 intro a0 a1 k;unfold Gb.f
 repeat' first
   | (with_reducible exact Bb.mono _ _ _)
   | (with_reducible exact qh.refl _)
   | (with_reducible exact qh.none _)
   | (with_reducible refine qh.ite ?_ ?_)
   | (with_reducible refine qh.bind ?_ (fun _=>?_))
   | exact Bb.mono _ _ _
   | exact qh.none _
   | refine qh.ite ?_ ?_
   | refine qh.bind ?_ (fun _=>?_)
theorem Gb.calls (k:Nat) (A0:Option Addr) (c0:Nat) (l0:List Int) (a1:Int) (r:Bool) (w:World) (Hi:Kd.C (Kd.int .i64) w A0 l0.length l0) (hc0:l0.length ≤ c0) (h:Gb.f k l0 a1=some r) :
  Calls Try.prog 83 #[.slice A0 l0.length c0,.int .i64 a1] w fun e w'=>e = .returned (.bool r)∧Sb w w':=by
 have ak:=aa.mk Hi;have oy:=aa.mk hc0;clear Hi hc0;have H:((Bb.f k l0 a1).bind fun t101=>(some (decide (t101 ≥ 0))))=some r:=h;clear h;replace H:=Option.bind_eq_some_iff.mp H;obtain ⟨t101,sG,H⟩:=H
 try dsimp only at H
 have A3:=aa.mk sG;clear sG;obtain rfl:=Option.some.inj H;go_enter Try.func83,Try.ntmps83;go_wp2_with (first|((with_reducible refine Kb (f:=110) rfl ?_);refine ie (some 7) rfl rfl Try.func110 (by kernel_rfl) rfl #[.slice A0 l0.length c0,.int .i64 a1] rfl paj ?_;(with_reducible refine (Bb.calls k _ _ l0 a1 t101 _ ?Oc ?Nc A3.out).mono ?_);(case Oc=>repeat (first|exact ak.out|(with_reducible refine Kd.Gd ?_ _)|(with_reducible refine Kd.Ed ?_ _)|(with_reducible refine Kd.He ?_)));(case Nc=>exact oy.out);rintro e w' ⟨rfl,⟨nd,rfl⟩⟩;refine ⟨_,rfl,?_⟩));go_ret;exact ⟨Naj,xaj⟩
end Go.Proofs.Ytoomcmaifgkkfaa.P
end
