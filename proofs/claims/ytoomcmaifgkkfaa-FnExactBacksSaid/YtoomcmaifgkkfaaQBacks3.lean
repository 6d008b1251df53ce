import Derived.Test.YtoomcmaifgkkfaaQBacks1
import Derived.Test.YtoomcmaifgkkfaaQBacks2
set_option maxHeartbeats 8000000
set_option maxRecDepth 100000
section
namespace Go.Proofs.Ytoomcmaifgkkfaa.P
open Go.RowKit Go.Proofs.ua.zb Go.Proofs.ua.Lc Go.Proofs.ua.Pd
set_option linter.unusedVariables false
set_option linter.unusedSimpArgs false
attribute [local go_sem] Hg Fg Nh Mh cg bg Gg Eg
def tc.l0:Nat→List (Bi)→List (Yd)→Int→Option ((List (Yd)))
 | 0,_,_,_=>none
 | k + 1,x0,x3,x4=>if x4 < (x0.length:Int) then (if 0 ≤ x4 then ((Ii.f k ((mc x0 x4).f0) ((mc x0 x4).f1) ((mc x0 x4).f2) ((mc x0 x4).f3) ((mc x0 x4).f4)).bind fun Ml=>(if x4 < (x3.length:Int) then (tc.l0 k x0 (x3.set (x4:Int).toNat (⟨Ml.1,Ml.2.1,Ml.2.2.1,Ml.2.2.2.1,Ml.2.2.2.2⟩:Yd)) (wrap64 (x4 + 1))) else (none))) else (none)) else (some x3)
def tc.f (k:Nat) (l0:List (Bi)):Option ((List (Yd))):=if 0 ≤ (l0.length:Int) then (if ((l0.length:Int):Int).toNat ≤ 5026338869833 then (tc.l0 k l0 (List.replicate ((l0.length:Int):Int).toNat gy) 0) else (none)) else (none)
theorem tc.calls (k:Nat) (A0:Option Addr) (c0:Nat) (l0:List (Bi)) (r:List (Yd)) (w:World) (Jh:Kd.C Iu w A0 l0.length l0) (hc0:l0.length ≤ c0) (h:tc.f k l0=some r) :
  Calls Try.prog 70 #[.slice A0 l0.length c0] w fun e w'=>∃ zj:Value,e = .returned (zj)∧Kd.S Jl 83 w' w.heap.size (fun _=>True) zj r∧Below w.heap.size w w':=by
 have YG:=Try.underlying106;have mB:=Try.underlying83;have xk:=aa.mk Jh;have ey:=aa.mk hc0;clear Jh hc0;have HB:=aa.mk (Below.refl w.heap.size w);have H:(if 0 ≤ (l0.length:Int) then (if ((l0.length:Int):Int).toNat ≤ 5026338869833 then (tc.l0 k l0 (List.replicate ((l0.length:Int):Int).toNat gy) 0) else (none)) else (none))=some r:=h;clear h
 by_cases c2:0 ≤ (l0.length:Int)
 ·rw [if_pos c2] at H;have Jm:=eq_true c2;have Ro:decide (0 ≤ (l0.length:Int))=true:=decide_eq_true c2;clear c2
  by_cases c3:((l0.length:Int):Int).toNat ≤ 5026338869833
  ·rw [if_pos c3] at H;have Yg:=eq_true c3;have Mp:decide (((l0.length:Int):Int).toNat ≤ 5026338869833)=true:=decide_eq_true c3;clear c3;obtain ⟨ue,ye⟩:∃ y_:List (Yd),y_=(List.replicate ((l0.length:Int):Int).toNat gy):=⟨_,rfl⟩;replace H:(tc.l0 k l0 ue 0)=some r:=by first|(rw [ye];with_reducible exact H)|(have Mc:=(Option.bind_some _ _).symm.trans H;rw [ye];with_reducible exact Mc)|(have Mc:=(Option.bind_some _ _).symm.trans H;with_reducible exact Mc)|with_reducible exact H|(rw [ye];exact H)|exact H
   have ki:=aa.mk ye;clear ye;have H':=aa.mk H;clear H;go_enter Try.func70,Try.ntmps70;go_wp2_with (first|((with_reducible refine Lb (N:=7) rfl ?_);refine Kd.KI Jl _ 83 rfl (N:=7) rfl 43 _ _ rfl (l0.length:Int) rfl rfl Try.underlying43 (.agg #[(.slice none 0 0),(.int .i64 0),(.int .i64 0),(.int .i64 0),(.int .i64 0)]) 56 jO rfl (by decide) (by omega) gy (ok:=fun _=>True) (Ag:=fun _=>True) (Pw _ _ _ gy (Kd.Zs _ _ _ _ _)) (fun _ hk=>hk) trivial (Ia) (Nat.le_trans (Nat.mul_le_mul_right _ (Ia:(l0.length:Int).toNat ≤ 5026338869833)) (by omega)) (Below.refl _ _) (Nat.le_refl _) ?_;intro yy w4 fz hb Hl Je;clear Hl Je;(first|rw [← ki.out] at fz|(simp only [Int.reduceToNat] at fz;rw [← ki.out] at fz));have Kb:=aa.mk (Kd.nu fz (Ra Yae));have Ob:=aa.mk (Fa Yae hb);clear HB;have Xl:=Kb;have HB:=Ob;clear Kb Ob hb fz))
   go_loopg [4] k (fun kq v4 w'=>∃ (jc:List (Yd)) (Cb:Int),v4 = .int .i64 Cb∧aa (tc.l0 kq l0 jc Cb=some r)∧aa (kq ≤ k)∧aa (Kd.S Jl 83 w' w.heap.size (fun _=>True) yy jc)∧aa (Below w.heap.size w w'))
   case atStart=>exact ⟨(ue),(0),daf,H',⟨Nat.le_refl _⟩,⟨by (with_reducible repeat (first|apply Kd.kf|apply Kd.jf|apply Kd.Xf));exact Xl.out⟩,⟨caf⟩⟩
   case round =>
    clear H'
    try clear c2
    try clear Jm
    try clear Ro
    try clear p2
    try clear c3
    try clear Yg
    try clear Mp
    (try clear HA);(try clear Gf);(try clear Ub);(try clear HB);obtain ⟨jc,Cb,rfl,HA,Gf,Ub,HB⟩:=hrel;cases gk with
    | zero=>exact absurd HA.out (by simp [tc.l0])
    | succ k1 =>
     have H:=HA.out;clear HA;simp only [tc.l0] at H
     by_cases c6:Cb < (l0.length:Int)
     ·rw [if_pos c6] at H;have Xq:decide (Cb < (l0.length:Int))=true:=decide_eq_true c6;clear c6
      by_cases c7:0 ≤ Cb
      ·rw [if_pos c7] at H;have Zr:decide (0 ≤ Cb)=true:=decide_eq_true c7;clear c7;replace H:=Option.bind_eq_some_iff.mp H;obtain ⟨⟨t105,t108,t109,t110,t111⟩,BN,H⟩:=H;replace H:(if Cb < (jc.length:Int) then (tc.l0 k1 l0 (jc.set (Cb:Int).toNat (⟨t105,t108,t109,t110,t111⟩:Yd)) (wrap64 (Cb + 1))) else (none))=some r:=H;have A8:=aa.mk BN;clear BN
       by_cases c9:Cb < (jc.length:Int)
       ·rw [if_pos c9] at H;have X4:decide (Cb < (jc.length:Int))=true:=decide_eq_true c9;clear c9;obtain ⟨Eh,Gj⟩:∃ y_:List (Yd),y_=(jc.set (Cb:Int).toNat (⟨t105,t108,t109,t110,t111⟩:Yd)):=⟨_,rfl⟩;replace H:(tc.l0 k1 l0 Eh (wrap64 (Cb + 1)))=some r:=by first|(rw [Gj];with_reducible exact H)|(have Mc:=(Option.bind_some _ _).symm.trans H;rw [Gj];with_reducible exact Mc)|(have Mc:=(Option.bind_some _ _).symm.trans H;with_reducible exact Mc)|with_reducible exact H|(rw [Gj];exact H)|exact H
        have bt:=aa.mk Gj;clear Gj;have H':=aa.mk H;clear H;have Cu:0 ≤ (Cb:Int):=Ia;have Au:Cb < (l0.length:Int):=Ia;obtain ⟨MM,oR,nQ,gI,vl,sq,rq,qq,pq,SC,XC⟩:=Lx xk.out Cb Cu Au;cases gI;replace vl:=Jb HB.out vl;replace sq:=Jb HB.out sq;replace rq:=Jb HB.out rq;replace qq:=Jb HB.out qq;replace pq:=Jb HB.out pq;have wL:=aa.mk XC;have FL:=aa.mk SC;clear XC SC;replace Cu:=eq_true Cu;replace Au:=eq_true Au;go_wp2_with (first|((with_reducible refine Sb (f:=103) rfl ?_);refine Ke (some 20) rfl rfl Try.func103 (by kernel_rfl) rfl #[.agg #[.slice oR ((mc l0 Cb).f0).length nQ,.int .i64 ((mc l0 Cb).f1),.int .i64 ((mc l0 Cb).f2),.int .i64 ((mc l0 Cb).f3),.int .i64 ((mc l0 Cb).f4)]] rfl baf ?_;(with_reducible refine (Ii.calls k1 _ _ ((mc l0 Cb).f0) ((mc l0 Cb).f1) ((mc l0 Cb).f2) ((mc l0 Cb).f3) ((mc l0 Cb).f4) t105 t108 t109 t110 t111 _ ?Gd ?Ed A8.out).mono ?_);(case Gd=>repeat (first|exact (Kd.yb wL.out HB.out)|(with_reducible refine Kd.ee ?_ _)|(with_reducible refine Kd.Zd ?_ _)|(with_reducible refine Kd.We ?_)));(case Ed=>exact FL.out);rintro e cl ⟨Kv,rfl,uh,hb⟩;refine ⟨_,rfl,?_⟩;have Kb:=aa.mk (Kd.ov (by (with_reducible repeat (first|apply Kd.kf|apply Kd.jf|apply Kd.Xf));exact Ub.out) (Kd.ug uh) hb);have Ob:=aa.mk (Kd.Xc uh (Ra Yae));have fc:=aa.mk (Fa Yae hb);clear Ub HB;have Ub:=Kb;have Tk:=Ob;have HB:=fc;clear Kb Ob fc;(try clear hb);(try clear Vk);(try clear hk);(try clear hi);(try clear uh);have Qy:0 ≤ (Cb:Int):=Ia;have Oy:(Cb:Int) < ((jc.length:Int):Int):=Ia;obtain ⟨qg,Yr,DB,UH,GP,W4,Hs⟩:=Kd.nv Ub.out (by omega);(first|cases DB|(injection DB with qi Dt Et;(first|subst qi|(injection qi with qi;subst qi));subst Et;clear Dt));have Js:=aa.mk UH;have Y5:=aa.mk Hs;clear UH GP Hs;obtain ⟨_,uT,xz,Ez,Ah,zh,_,_⟩:=Kd.Ds Ub.out gy (Cb:Int) Qy Oy;obtain ⟨KN,rfl,L3⟩:=Gr Ez;have VG:cl.cell? ⟨qg,(Cb:Int).toNat * 5,none⟩=some (KN):=Ah 0 _ rfl;have UG:cl.cell? ⟨qg,(Cb:Int).toNat * 5 + 1,none⟩=some (.int .i64 ((Ga jc Cb).f1)):=Ah 1 _ rfl;have SG:cl.cell? ⟨qg,(Cb:Int).toNat * 5 + 2,none⟩=some (.int .i64 ((Ga jc Cb).f2)):=Ah 2 _ rfl;have RG:cl.cell? ⟨qg,(Cb:Int).toNat * 5 + 3,none⟩=some (.int .i64 ((Ga jc Cb).f3)):=Ah 3 _ rfl;have QG:cl.cell? ⟨qg,(Cb:Int).toNat * 5 + 4,none⟩=some (.int .i64 ((Ga jc Cb).f4)):=Ah 4 _ rfl;have wH:cl.frozen? ⟨qg,(Cb:Int).toNat * 5,none⟩=false:=zh 0;have vH:cl.frozen? ⟨qg,(Cb:Int).toNat * 5 + 1,none⟩=false:=zh 1;have uH:cl.frozen? ⟨qg,(Cb:Int).toNat * 5 + 2,none⟩=false:=zh 2;have tH:cl.frozen? ⟨qg,(Cb:Int).toNat * 5 + 3,none⟩=false:=zh 3;have sH:cl.frozen? ⟨qg,(Cb:Int).toNat * 5 + 4,none⟩=false:=zh 4;clear xz Ah zh Ez;replace Qy:=eq_true Qy;replace Oy:=eq_true Oy;have n_:=aa.mk (Kd.Rf (Wk:=(fun k_=>some k_ ≠ (Kv:Value).ownBlock)) Ub.out (fun k_ hk=>hk.2));clear Ub;have Ub:=n_;clear n_;have rL:=aa.mk (show Kd.S Jl 83 cl w.heap.size (fun k_=>((fun _=>True)) k_∧¬ ((fun k_=>some k_=(Kv:Value).ownBlock)) k_) (.slice (some ⟨qg,0,none⟩) jc.length Yr) jc from (by (with_reducible repeat (first|apply Kd.kf|apply Kd.jf|apply Kd.Xf));exact Kd.Rf Ub.out (fun k_ hk=>⟨trivial,fun e_=>hk e_⟩)));obtain ⟨W6,rT,qw,Dz,gh,yh,FO,XS⟩:=Kd.Ds rL.out gy (Cb:Int) (Ia) (by have h_:(Cb:Int) < ((jc.length:Int):Int):=Ia;first|exact h_|(have e_:=(Kd.jh Ub.out).1;omega)|simpa using h_);obtain ⟨eZ,rfl,K3⟩:=Gr Dz;have Av:=Kd.NM XS (Ia) (by have h_:(Cb:Int) < ((jc.length:Int):Int):=Ia;first|exact h_|(have e_:=(Kd.jh Ub.out).1;omega)|simpa using h_) (seg:=[Kv,.int .i64 t108,.int .i64 t109,.int .i64 t110,.int .i64 t111]) (j:=0) (show 5 ≤ 5 from by decide) (x':=(⟨t105,t108,t109,t110,t111⟩:Yd)) (Pw _ _ _ (⟨t105,t108,t109,t110,t111⟩:Yd) (Kd.Db (Kd.uj rfl (Kd.Db (Wk:=fun k_=>((fun _=>True)) k_∧k_ ≠ qg) (Kd.jo (Tk.out) (Kd.Ko Ub.out) (by decide)) (fun k_ hk=>⟨trivial,fun e_=>(hk.2) (by rw [e_];rfl)⟩))) (fun _ h_=>Or.inr (h_)))) (fun _ hk=>hk) (fun k_ Ir=>((Kd.Db (Wk:=fun k_=>((fun _=>True)) k_∧k_ ≠ qg) (Kd.jo (Tk.out) (Kd.Ko Ub.out) (by decide)) (fun k_ hk=>⟨trivial,fun e_=>(hk.2) (by rw [e_];rfl)⟩))).1 k_ Ir.symm);have Yw:=gh 0 _ rfl;(try simp only [show (Jl).sz=5 from rfl,Nat.mul_one,Nat.add_zero] at Yw);have ox:=yh 0;(try simp only [show (Jl).sz=5 from rfl,Nat.mul_one,Nat.add_zero] at ox);have Xw:=gh 1 _ rfl;(try simp only [show (Jl).sz=5 from rfl,Nat.mul_one,Nat.add_zero] at Xw);have jx:=yh 1;(try simp only [show (Jl).sz=5 from rfl,Nat.mul_one,Nat.add_zero] at jx);have Ww:=gh 2 _ rfl;(try simp only [show (Jl).sz=5 from rfl,Nat.mul_one,Nat.add_zero] at Ww);have gx:=yh 2;(try simp only [show (Jl).sz=5 from rfl,Nat.mul_one,Nat.add_zero] at gx);have Vw:=gh 3 _ rfl;(try simp only [show (Jl).sz=5 from rfl,Nat.mul_one,Nat.add_zero] at Vw);have dx:=yh 3;(try simp only [show (Jl).sz=5 from rfl,Nat.mul_one,Nat.add_zero] at dx);have Uw:=gh 4 _ rfl;(try simp only [show (Jl).sz=5 from rfl,Nat.mul_one,Nat.add_zero] at Uw);have cx:=yh 4;(try simp only [show (Jl).sz=5 from rfl,Nat.mul_one,Nat.add_zero] at cx);clear qw gh yh Dz FO XS)|((with_reducible refine Od (t:=83) (p:=21) rfl ?_);refine Uc (t:=83) (p:=21) (v:=?JN) (w1:=(((((cl.setCell ⟨qg,(Cb:Int).toNat * 5,none⟩ (Kv)).setCell ⟨qg,(Cb:Int).toNat * 5 + 1,none⟩ (.int .i64 t108)).setCell ⟨qg,(Cb:Int).toNat * 5 + 2,none⟩ (.int .i64 t109)).setCell ⟨qg,(Cb:Int).toNat * 5 + 3,none⟩ (.int .i64 t110)).setCell ⟨qg,(Cb:Int).toNat * 5 + 4,none⟩ (.int .i64 t111))) ?hg ?ho ?hn ?hr ?_;(case ho=>rfl);(case hg=>rfl);(case hn=>rfl);(case hr=>first|(go_simp;done)|(go_simp;rfl)|(have wab:=fun (a_:Addr) (W_:World) (m_:Mode)=>run_store Try.prog W_ a_ Kv m_ (by first|exact AG (by assumption)|exact zG (by assumption)|exact CG (by assumption)|exact BG (by assumption));first|(go_simp;done)|(go_simp;rfl)));intro iy hw;have hg:cl.grownBy iy (some qg):=(by rw [hw];exact Av.2);have Si:Kd.S Jl 83 iy w.heap.size (fun _=>True) (.slice (some ⟨qg,0,none⟩) jc.length Yr) Eh:=(by rw [hw,bt.out];exact Av.1);clear Av;have Kb:=aa.mk (Si);have Ob:=aa.mk ((by rw [hw];exact ya (ya (ya (ya (ya (HB.out) Js.out) Js.out) Js.out) Js.out) Js.out:Below w.heap.size w iy));clear Ub HB Tk;have Ub:=Kb;have HB:=Ob;clear Kb Ob hg hw Si))
        go_roundg k1
        case measure=>have:=Gf.out;omega
        case rel=>exact ⟨(Eh),(wrap64 (Cb + 1)),daf,H',⟨by have:=Gf.out;omega⟩,⟨by (with_reducible repeat (first|apply Kd.kf|apply Kd.jf|apply Kd.Xf));exact Ub.out⟩,⟨caf⟩⟩
       ·rw [if_neg c9] at H;exact absurd H (by simp)
      ·rw [if_neg c7] at H;exact absurd H (by simp)
     ·rw [if_neg c6] at H;have Xq:decide (Cb < (l0.length:Int))=false:=decide_eq_false c6;clear c6;obtain rfl:=Option.some.inj H;go_wp2;go_ret;exact ⟨_,eaf,by (with_reducible repeat (first|apply Kd.kf|apply Kd.jf|apply Kd.Xf));exact Ub.out,caf⟩
  ·rw [if_neg c3] at H;exact absurd H (by simp)
 ·rw [if_neg c2] at H;exact absurd H (by simp)
def Bf.f (k:Nat) (Ma:List Int) (Pa:Int) (Qa:Int) (Oa:Int) (za:List (Bi)):Option (List Int × Int × Int × Int × (List (Yd))):=(Vc.f k Ma).bind fun t104=>((tc.f k za).bind fun t107=>(some (t104,Pa,Qa,Oa,t107)))
theorem Bf.calls (k:Nat) (Bb:Option Addr) (Ab:Nat) (Ma:List Int) (Pa:Int) (Qa:Int) (Oa:Int) (Qb:Option Addr) (Gb:Nat) (za:List (Bi)) (r1:List Int) (r2:Int) (r3:Int) (r4:Int) (r5:List (Yd)) (w:World) (od:Kd.C (Kd.int .i64) w Bb Ma.length Ma) (Nd:Ma.length ≤ Ab) (ze:Kd.C Iu w Qb za.length za) (Ve:za.length ≤ Gb) (h:Bf.f k Ma Pa Qa Oa za=some (r1,r2,r3,r4,r5)) :
  Calls Try.prog 27 #[.agg #[.slice Bb Ma.length Ab,.int .i64 Pa,.int .i64 Qa,.int .i64 Oa,.slice Qb za.length Gb]] w fun e w'=>∃ zj O6:Value,e = .returned (.agg #[zj,.int .i64 r2,.int .i64 r3,.int .i64 r4,O6])∧Kd.R (Kd.int .i64) 3 w' w.heap.size (fun _=>True) zj r1∧Kd.S Jl 83 w' w.heap.size (fun _=>True) O6 r5∧Below w.heap.size w w':=by
 have MZ:=Try.underlying40;have WG:=Try.underlying45;have Qg:=aa.mk od;have Sg:=aa.mk Nd;clear od Nd;have Ei:=aa.mk ze;have Uk:=aa.mk Ve;clear ze Ve;have HB:=aa.mk (Below.refl w.heap.size w);have H:((Vc.f k Ma).bind fun t104=>((tc.f k za).bind fun t107=>(some (t104,Pa,Qa,Oa,t107))))=some (r1,r2,r3,r4,r5):=h;clear h;replace H:=Option.bind_eq_some_iff.mp H;obtain ⟨t104,tJ,H⟩:=H
 try dsimp only at H
 have A2:=aa.mk tJ;clear tJ;replace H:=Option.bind_eq_some_iff.mp H;obtain ⟨t107,wE,H⟩:=H
 try dsimp only at H
 have A3:=aa.mk wE;clear wE;simp only [Option.some.injEq,Prod.mk.injEq] at H;obtain ⟨rfl,rfl,rfl,rfl,rfl⟩:=H;go_enter Try.func27,Try.ntmps27;go_wp2_with (first|((with_reducible refine Lb (N:=1) rfl ?_);refine Jc ?hg (N:=1) ?hd (cs:=#[.slice Bb Ma.length Ab,.int .i64 Pa,.int .i64 Qa,.int .i64 Oa,.slice Qb za.length Gb]) (t:=40) ?hr ?_;(case hd|hg=>rfl);(case hr=>exact Vae);intro Ja hg w4 qd hb;have Kb:=aa.mk (Fa Yae hb);have Ob:=aa.mk (qd);have fc:=aa.mk ((by rw [hg];exact (Ra Yae):w.heap.size ≤ Ja));have Sc:=aa.mk ((by rw [hg];exact (Ra Yae):w.heap.size ≤ Ja));clear HB;have HB:=Kb;have ta:=Ob;have Af:=fc;have mb:=Sc;clear Kb Ob fc Sc hb qd hg)|((with_reducible refine Lb (N:=2) rfl ?_);refine Jc ?hg (N:=2) ?hd (cs:=#[.slice none 0 0,.int .i64 0,.int .i64 0,.int .i64 0,.slice none 0 0]) (t:=45) ?hr ?_;(case hd|hg=>rfl);(case hr=>exact Vae);intro Pc hg w5 qd hb;have Kb:=aa.mk (Ua (g:=Ja) (o:=.cells #[.slice Bb Ma.length Ab,.int .i64 Pa,.int .i64 Qa,.int .i64 Oa,.slice Qb za.length Gb] 40 (0,0)) Zae hb);have Ob:=aa.mk (Fa Xae hb);have fc:=aa.mk (qd);have Sc:=aa.mk ((by rw [hg];exact (Ra Xae):w.heap.size ≤ Pc));have uf:=aa.mk ((by rw [hg];exact (Ra Xae):w.heap.size ≤ Pc));have qh:=aa.mk ((by rw [hg];exact Nat.ne_of_lt (Le (g:=Ja) (o:=.cells #[.slice Bb Ma.length Ab,.int .i64 Pa,.int .i64 Qa,.int .i64 Oa,.slice Qb za.length Gb] 40 (0,0)) Zae):Ja ≠ Pc));have Rs:=aa.mk ((by rw [hg];exact Nat.ne_of_gt (Le (g:=Ja) (o:=.cells #[.slice Bb Ma.length Ab,.int .i64 Pa,.int .i64 Qa,.int .i64 Oa,.slice Qb za.length Gb] 40 (0,0)) Zae):Pc ≠ Ja));clear ta HB;have ta:=Kb;have HB:=Ob;have Qc:=fc;have zN:=Sc;have ni:=uf;have Wl:=qh;have Vl:=Rs;clear Kb Ob fc Sc uf qh Rs hb qd hg)|((with_reducible refine Lb (N:=3) rfl ?_);refine Jc ?hg (N:=3) ?hd (cs:=#[.slice none 0 0,.int .i64 0,.int .i64 0,.int .i64 0,.slice none 0 0]) (t:=45) ?hr ?_;(case hd|hg=>rfl);(case hr=>exact Vae);intro Jd hg w6 qd hb;have Kb:=aa.mk (Ua (g:=Ja) (o:=.cells #[.slice Bb Ma.length Ab,.int .i64 Pa,.int .i64 Qa,.int .i64 Oa,.slice Qb za.length Gb] 40 (0,0)) Zae hb);have Ob:=aa.mk (Ua (g:=Pc) (o:=.cells #[.slice none 0 0,.int .i64 0,.int .i64 0,.int .i64 0,.slice none 0 0] 45 (0,0)) qaf hb);have fc:=aa.mk (Fa jaf hb);have Sc:=aa.mk (qd);have uf:=aa.mk ((by rw [hg];exact (Ra jaf):w.heap.size ≤ Jd));have qh:=aa.mk ((by rw [hg];exact (Ra jaf):w.heap.size ≤ Jd));have Rs:=aa.mk ((by rw [hg];exact Nat.ne_of_lt (Le (g:=Ja) (o:=.cells #[.slice Bb Ma.length Ab,.int .i64 Pa,.int .i64 Qa,.int .i64 Oa,.slice Qb za.length Gb] 40 (0,0)) Zae):Ja ≠ Jd));have RL:=aa.mk ((by rw [hg];exact Nat.ne_of_gt (Le (g:=Ja) (o:=.cells #[.slice Bb Ma.length Ab,.int .i64 Pa,.int .i64 Qa,.int .i64 Oa,.slice Qb za.length Gb] 40 (0,0)) Zae):Jd ≠ Ja));have QL:=aa.mk ((by rw [hg];exact Nat.ne_of_lt (Le (g:=Pc) (o:=.cells #[.slice none 0 0,.int .i64 0,.int .i64 0,.int .i64 0,.slice none 0 0] 45 (0,0)) qaf):Pc ≠ Jd));have PL:=aa.mk ((by rw [hg];exact Nat.ne_of_gt (Le (g:=Pc) (o:=.cells #[.slice none 0 0,.int .i64 0,.int .i64 0,.int .i64 0,.slice none 0 0] 45 (0,0)) qaf):Jd ≠ Pc));clear ta Qc HB;have ta:=Kb;have Qc:=Ob;have HB:=fc;have td:=Sc;have yN:=uf;have Zm:=qh;have Sh:=Rs;have Ul:=RL;have Qd:=QL;have Tl:=PL;clear Kb Ob fc Sc uf qh Rs RL QL PL hb qd hg;have C0:=Wl.out;have XZ:=Vl.out;have ZZ:=Sh.out;have WZ:=Ul.out;have ak:w6.cell? ⟨Ja,0,none⟩=some (.slice Bb Ma.length Ab):=(qa ta.out 0).trans rfl;have Zj:w6.cell? ⟨Ja,1,none⟩=some (.int .i64 Pa):=(qa ta.out 1).trans rfl;have Yj:w6.cell? ⟨Ja,2,none⟩=some (.int .i64 Qa):=(qa ta.out 2).trans rfl;have Xj:w6.cell? ⟨Ja,3,none⟩=some (.int .i64 Oa):=(qa ta.out 3).trans rfl;have Wj:w6.cell? ⟨Ja,4,none⟩=some (.slice Qb za.length Gb):=(qa ta.out 4).trans rfl;have Vj:=Aa ta.out 0;have Uj:=Aa ta.out 1;have Tj:=Aa ta.out 2;have Sj:=Aa ta.out 3;have Rj:=Aa ta.out 4)|((with_reducible refine Sb (f:=56) rfl ?_);refine Ke (some 6) rfl rfl Try.func56 (by kernel_rfl) rfl #[.slice Bb Ma.length Ab] rfl baf ?_;(with_reducible refine (Vc.calls k _ _ Ma t104 _ ?Gd ?Ed A2.out).mono ?_);(case Gd=>repeat (first|exact (Kd.yb Qg.out HB.out)|(with_reducible refine Kd.ee ?_ _)|(with_reducible refine Kd.Zd ?_ _)|(with_reducible refine Kd.We ?_)));(case Ed=>exact Sg.out);rintro e Gt ⟨v105,rfl,uh,hb⟩;refine ⟨_,rfl,?_⟩;have Kb:=aa.mk (Kd.Xc uh (Ra oaf));have Ob:=aa.mk (Ua (g:=Ja) (o:=.cells #[.slice Bb Ma.length Ab,.int .i64 Pa,.int .i64 Qa,.int .i64 Oa,.slice Qb za.length Gb] 40 (0,0)) Zae hb);have fc:=aa.mk (Ua (g:=Pc) (o:=.cells #[.slice none 0 0,.int .i64 0,.int .i64 0,.int .i64 0,.slice none 0 0] 45 (0,0)) qaf hb);have Sc:=aa.mk (Ua (g:=Jd) (o:=.cells #[.slice none 0 0,.int .i64 0,.int .i64 0,.int .i64 0,.slice none 0 0] 45 (0,0)) (by (with_reducible repeat (first|refine Da ?_ _|refine Ea ?_|refine Ca ?_ _));exact td.out) hb);have uf:=aa.mk (Fa oaf hb);clear ta Qc td HB;have vp:=Kb;have ta:=Ob;have Qc:=fc;have td:=Sc;have HB:=uf;clear Kb Ob fc Sc uf;(try clear hb);(try clear Vk);(try clear hk);(try clear hi);(try clear uh);obtain ⟨Ls,Xr,G4⟩:=Kd.ic vp.out;subst G4;have M8:=Tl.out;have I8:=Qd.out;have iu:Gt.cell? ⟨Jd,0,none⟩=some (.slice none 0 0):=(qa td.out 0).trans rfl;have gu:Gt.cell? ⟨Jd,1,none⟩=some (.int .i64 0):=(qa td.out 1).trans rfl;have fu:Gt.cell? ⟨Jd,2,none⟩=some (.int .i64 0):=(qa td.out 2).trans rfl;have eu:Gt.cell? ⟨Jd,3,none⟩=some (.int .i64 0):=(qa td.out 3).trans rfl;have cu:Gt.cell? ⟨Jd,4,none⟩=some (.slice none 0 0):=(qa td.out 4).trans rfl;have Wt:=Aa td.out 0;have Vt:=Aa td.out 1;have Ut:=Aa td.out 2;have Tt:=Aa td.out 3;have St:=Aa td.out 4;have bu:Gt.cell? ⟨Ja,0,none⟩=some (.slice Bb Ma.length Ab):=(qa ta.out 0).trans rfl;have au:Gt.cell? ⟨Ja,1,none⟩=some (.int .i64 Pa):=(qa ta.out 1).trans rfl;have Zt:Gt.cell? ⟨Ja,2,none⟩=some (.int .i64 Qa):=(qa ta.out 2).trans rfl;have Yt:Gt.cell? ⟨Ja,3,none⟩=some (.int .i64 Oa):=(qa ta.out 3).trans rfl;have Xt:Gt.cell? ⟨Ja,4,none⟩=some (.slice Qb za.length Gb):=(qa ta.out 4).trans rfl;have Rt:=Aa ta.out 0;have Qt:=Aa ta.out 1;have Pt:=Aa ta.out 2;have Ot:=Aa ta.out 3;have Nt:=Aa ta.out 4)|((with_reducible refine Sb (f:=70) rfl ?_);refine Ke (some 19) rfl rfl Try.func70 (by kernel_rfl) rfl #[.slice Qb za.length Gb] rfl baf ?_;(with_reducible refine (tc.calls k _ _ za t107 _ ?Gd ?Ed A3.out).mono ?_);(case Gd=>exact Kd.yb Ei.out oaf);(case Ed=>exact Uk.out);rintro e Zl ⟨eab,rfl,uh,hb⟩;refine ⟨_,rfl,?_⟩;have Kb:=aa.mk (Kd.Xb (by (with_reducible repeat (first|apply Kd.Ka|apply Kd.La|apply Kd.Sa));exact (Kd.Db (Kd.ei (p:=⟨Jd,3,none⟩) (Kd.ei (p:=⟨Jd,2,none⟩) (Kd.ei (p:=⟨Jd,1,none⟩) (Kd.ei (p:=⟨Jd,0,none⟩) (Kd.Om vp.out td.out (by decide)) (fun _ hk=>hk.2) (.slice Ls t104.length Xr)) (fun _ hk=>hk.2) (.int .i64 Pa)) (fun _ hk=>hk.2) (.int .i64 Qa)) (fun _ hk=>hk.2) (.int .i64 Oa)) (fun _ h_=>h_.1))) hb);have Ob:=aa.mk (Kd.nu uh (Ra oaf));have fc:=aa.mk (Ua (g:=Ja) (o:=.cells #[.slice Bb Ma.length Ab,.int .i64 Pa,.int .i64 Qa,.int .i64 Oa,.slice Qb za.length Gb] 40 (0,0)) (by (with_reducible repeat (first|refine Da ?_ _|refine Ea ?_|refine Ca ?_ _));refine Ld ?_ Sh.out _;(with_reducible repeat (first|refine Da ?_ _|refine Ea ?_|refine Ca ?_ _));refine Ld ?_ Sh.out _;(with_reducible repeat (first|refine Da ?_ _|refine Ea ?_|refine Ca ?_ _));refine Ld ?_ Sh.out _;(with_reducible repeat (first|refine Da ?_ _|refine Ea ?_|refine Ca ?_ _));refine Ld ?_ Sh.out _;(with_reducible repeat (first|refine Da ?_ _|refine Ea ?_|refine Ca ?_ _));exact ta.out) hb);have Sc:=aa.mk (Ua (g:=Pc) (o:=.cells #[.slice none 0 0,.int .i64 0,.int .i64 0,.int .i64 0,.slice none 0 0] 45 (0,0)) (by (with_reducible repeat (first|refine Da ?_ _|refine Ea ?_|refine Ca ?_ _));refine Ld ?_ Qd.out _;(with_reducible repeat (first|refine Da ?_ _|refine Ea ?_|refine Ca ?_ _));refine Ld ?_ Qd.out _;(with_reducible repeat (first|refine Da ?_ _|refine Ea ?_|refine Ca ?_ _));refine Ld ?_ Qd.out _;(with_reducible repeat (first|refine Da ?_ _|refine Ea ?_|refine Ca ?_ _));refine Ld ?_ Qd.out _;(with_reducible repeat (first|refine Da ?_ _|refine Ea ?_|refine Ca ?_ _));exact Qc.out) hb);have uf:=aa.mk (Ua (g:=Jd) (o:=.cells #[.slice Ls t104.length Xr,.int .i64 Pa,.int .i64 Qa,.int .i64 Oa,.slice none 0 0] 45 (0,0)) (by (with_reducible repeat (first|refine Da ?_ _|refine Ea ?_|refine Ca ?_ _));refine Td (cs:=#[.slice Ls t104.length Xr,.int .i64 Pa,.int .i64 Qa,.int .i64 0,.slice none 0 0]) ?_ 3 _ rfl;(with_reducible repeat (first|refine Da ?_ _|refine Ea ?_|refine Ca ?_ _));refine Td (cs:=#[.slice Ls t104.length Xr,.int .i64 Pa,.int .i64 0,.int .i64 0,.slice none 0 0]) ?_ 2 _ rfl;(with_reducible repeat (first|refine Da ?_ _|refine Ea ?_|refine Ca ?_ _));refine Td (cs:=#[.slice Ls t104.length Xr,.int .i64 0,.int .i64 0,.int .i64 0,.slice none 0 0]) ?_ 1 _ rfl;(with_reducible repeat (first|refine Da ?_ _|refine Ea ?_|refine Ca ?_ _));refine Td (cs:=#[.slice none 0 0,.int .i64 0,.int .i64 0,.int .i64 0,.slice none 0 0]) ?_ 0 _ rfl;(with_reducible repeat (first|refine Da ?_ _|refine Ea ?_|refine Ca ?_ _));exact td.out) hb);have qh:=aa.mk (Fa oaf hb);clear vp ta Qc td HB;have vp:=Kb;have rN:=Ob;have ta:=fc;have Qc:=Sc;have td:=uf;have HB:=qh;clear Kb Ob fc Sc uf qh;(try clear hb);(try clear Vk);(try clear hk);(try clear hi);(try clear uh);obtain ⟨NF,wF,TP⟩:=Kd.Lo rN.out;subst TP;have SX:Zl.cell? ⟨Jd,0,none⟩=some (.slice Ls t104.length Xr):=(qa td.out 0).trans rfl;have RX:Zl.cell? ⟨Jd,1,none⟩=some (.int .i64 Pa):=(qa td.out 1).trans rfl;have QX:Zl.cell? ⟨Jd,2,none⟩=some (.int .i64 Qa):=(qa td.out 2).trans rfl;have PX:Zl.cell? ⟨Jd,3,none⟩=some (.int .i64 Oa):=(qa td.out 3).trans rfl;have OX:Zl.cell? ⟨Jd,4,none⟩=some (.slice none 0 0):=(qa td.out 4).trans rfl;have eX:=Aa td.out 0;have dX:=Aa td.out 1;have cX:=Aa td.out 2;have bX:=Aa td.out 3;have aX:=Aa td.out 4;have FD:Zl.cell? ⟨Pc,0,none⟩=some (.slice none 0 0):=(qa Qc.out 0).trans rfl;have ED:Zl.cell? ⟨Pc,1,none⟩=some (.int .i64 0):=(qa Qc.out 1).trans rfl;have DD:Zl.cell? ⟨Pc,2,none⟩=some (.int .i64 0):=(qa Qc.out 2).trans rfl;have CD:Zl.cell? ⟨Pc,3,none⟩=some (.int .i64 0):=(qa Qc.out 3).trans rfl;have BD:Zl.cell? ⟨Pc,4,none⟩=some (.slice none 0 0):=(qa Qc.out 4).trans rfl;have iD:=Aa Qc.out 0;have gD:=Aa Qc.out 1;have fD:=Aa Qc.out 2;have eD:=Aa Qc.out 3;have dD:=Aa Qc.out 4));refine bodyPost_ret (results_cell_row rfl _ _ Pc 45 #[.slice Ls t104.length Xr,.int .i64 Pa,.int .i64 Qa,.int .i64 Oa,.slice NF t107.length wF] (0,0) _ rfl (by (with_reducible repeat (first|refine Da ?_ _|refine Ea ?_|refine Ca ?_ _));refine Td (cs:=#[.slice Ls t104.length Xr,.int .i64 Pa,.int .i64 Qa,.int .i64 Oa,.slice none 0 0]) ?_ 4 _ rfl;(with_reducible repeat (first|refine Da ?_ _|refine Ea ?_|refine Ca ?_ _));refine Td (cs:=#[.slice Ls t104.length Xr,.int .i64 Pa,.int .i64 Qa,.int .i64 0,.slice none 0 0]) ?_ 3 _ rfl;(with_reducible repeat (first|refine Da ?_ _|refine Ea ?_|refine Ca ?_ _));refine Td (cs:=#[.slice Ls t104.length Xr,.int .i64 Pa,.int .i64 0,.int .i64 0,.slice none 0 0]) ?_ 2 _ rfl;(with_reducible repeat (first|refine Da ?_ _|refine Ea ?_|refine Ca ?_ _));refine Td (cs:=#[.slice Ls t104.length Xr,.int .i64 0,.int .i64 0,.int .i64 0,.slice none 0 0]) ?_ 1 _ rfl;(with_reducible repeat (first|refine Da ?_ _|refine Ea ?_|refine Ca ?_ _));refine Td (cs:=#[.slice none 0 0,.int .i64 0,.int .i64 0,.int .i64 0,.slice none 0 0]) ?_ 0 _ rfl;(with_reducible repeat (first|refine Da ?_ _|refine Ea ?_|refine Ca ?_ _));refine Ld ?_ Qd.out _;(with_reducible repeat (first|refine Da ?_ _|refine Ea ?_|refine Ca ?_ _));exact Qc.out) Try.underlying45 rfl (by kernel_rfl)) rfl ?_;exact ⟨_,_,eaf,by (with_reducible repeat (first|apply Kd.Ka|apply Kd.La|apply Kd.Sa));exact Kd.Db (Kd.ei (p:=⟨Pc,4,none⟩) (Kd.ei (p:=⟨Pc,3,none⟩) (Kd.ei (p:=⟨Pc,2,none⟩) (Kd.ei (p:=⟨Pc,1,none⟩) (Kd.ei (p:=⟨Pc,0,none⟩) (Kd.ei (p:=⟨Jd,4,none⟩) (Kd.Om (Kd.Om vp.out td.out (by decide)) Qc.out (by decide)) (fun _ hk=>hk.1.2) (.slice NF t107.length wF)) (fun _ hk=>hk.2) (.slice Ls t104.length Xr)) (fun _ hk=>hk.2) (.int .i64 Pa)) (fun _ hk=>hk.2) (.int .i64 Qa)) (fun _ hk=>hk.2) (.int .i64 Oa)) (fun _ hk=>hk.2) (.slice NF t107.length wF)) (fun _ hk=>trivial),by (with_reducible repeat (first|apply Kd.kf|apply Kd.jf|apply Kd.Xf));exact Kd.Rf (Kd.Ew (p:=⟨Pc,4,none⟩) (Kd.Ew (p:=⟨Pc,3,none⟩) (Kd.Ew (p:=⟨Pc,2,none⟩) (Kd.Ew (p:=⟨Pc,1,none⟩) (Kd.Ew (p:=⟨Pc,0,none⟩) (Kd.Ew (p:=⟨Jd,4,none⟩) (Kd.aE (Kd.aE rN.out td.out (by decide)) Qc.out (by decide)) (fun _ hk=>hk.1.2) (.slice NF t107.length wF)) (fun _ hk=>hk.2) (.slice Ls t104.length Xr)) (fun _ hk=>hk.2) (.int .i64 Pa)) (fun _ hk=>hk.2) (.int .i64 Qa)) (fun _ hk=>hk.2) (.int .i64 Oa)) (fun _ hk=>hk.2) (.slice NF t107.length wF)) (fun _ hk=>trivial),Iaf⟩
def ke.l0:Nat→List Int→List Int→Int→Option (Bool)
 | 0,_,_,_=>none
 | k + 1,x0,x1,x5=>if x5 < (x0.length:Int) then (if 0 ≤ x5 then (if x5 < (x1.length:Int) then (if (rd x0 x5)=(rd x1 x5) then (ke.l0 k x0 x1 (wrap64 (x5 + 1))) else (some false)) else (none)) else (none)) else (some true)
def ke.f (k:Nat) (l0:List Int) (l1:List Int):Option (Bool):=if (l0.length:Int)=(l1.length:Int) then (ke.l0 k l0 l1 0) else (some false)
theorem ke.calls (k:Nat) (A0:Option Addr) (c0:Nat) (l0:List Int) (A1:Option Addr) (c1:Nat) (l1:List Int) (r:Bool) (w:World) (Jh:Kd.C (Kd.int .i64) w A0 l0.length l0) (hc0:l0.length ≤ c0) (hr1:Kd.C (Kd.int .i64) w A1 l1.length l1) (hc1:l1.length ≤ c1) (h:ke.f k l0 l1=some r) :
  Calls Try.prog 17 #[.slice A0 l0.length c0,.slice A1 l1.length c1] w fun e w'=>e = .returned (.bool r)∧Nb w w':=by
 have xk:=aa.mk Jh;have ey:=aa.mk hc0;clear Jh hc0;have cN:=aa.mk hr1;have DY:=aa.mk hc1;clear hr1 hc1;have H:(if (l0.length:Int)=(l1.length:Int) then (ke.l0 k l0 l1 0) else (some false))=some r:=h;clear h
 by_cases c3:(l0.length:Int)=(l1.length:Int)
 ·rw [if_pos c3] at H;have Yg:=beq_iff_eq.mpr c3;have Mp:=bne_eq_false_iff_eq.mpr c3;have zT:(l0.length == l1.length)=true:=by first|simpa using c3|(simp at c3 ⊢;omega)
  clear c3;have H':=aa.mk H;clear H;go_enter Try.func17,Try.ntmps17;go_wp2
  repeat (go_quiet (fail);try go_wp2)
  go_loopg [5] k (fun kq v5 w'=>∃ (Ba:Int),v5 = .int .i64 Ba∧aa (ke.l0 kq l0 l1 Ba=some r)∧aa (kq ≤ k)∧Nb w w')
  case atStart=>exact ⟨(0),daf,H',⟨Nat.le_refl _⟩,kaf⟩
  case round =>
   clear H'
   try clear c1
   try clear p2
   try clear c3
   try clear Yg
   try clear Mp
   try clear zT
   (try clear HA);(try clear Gf);obtain ⟨Ba,rfl,HA,Gf,⟨m1,rfl⟩⟩:=hrel;cases gk with
   | zero=>exact absurd HA.out (by simp [ke.l0])
   | succ k1 =>
    have H:=HA.out;clear HA;simp only [ke.l0] at H
    by_cases c4:Ba < (l0.length:Int)
    ·rw [if_pos c4] at H;have Yk:decide (Ba < (l0.length:Int))=true:=decide_eq_true c4;clear c4
     by_cases c5:0 ≤ Ba
     ·rw [if_pos c5] at H;have Yq:decide (0 ≤ Ba)=true:=decide_eq_true c5;clear c5
      by_cases c6:Ba < (l1.length:Int)
      ·rw [if_pos c6] at H;have Xq:decide (Ba < (l1.length:Int))=true:=decide_eq_true c6;clear c6
       by_cases c7:(rd l0 Ba)=(rd l1 Ba)
       ·rw [if_pos c7] at H;have Zr:=beq_iff_eq.mpr c7;have nI:=bne_eq_false_iff_eq.mpr c7;clear c7;have H':=aa.mk H;clear H;have Pf:0 ≤ (Ba:Int):=Ia;have Nf:Ba < (l0.length:Int):=Ia;obtain ⟨Rl,bk,gf⟩:=Kd.Ud xk.out Ba Pf Nf;cases bk;replace Pf:=eq_true Pf;replace Nf:=eq_true Nf;have Du:0 ≤ (Ba:Int):=Ia;have Bu:Ba < (l1.length:Int):=Ia;obtain ⟨GI,iI,uq⟩:=Kd.Ud cN.out Ba Du Bu;cases iI;replace Du:=eq_true Du;replace Bu:=eq_true Bu;go_wp2
        repeat (go_quiet (fail);try go_wp2)
        go_roundg k1
        case measure=>have:=Gf.out;omega
        case rel=>exact ⟨(wrap64 (Ba + 1)),daf,H',⟨by have:=Gf.out;omega⟩,kaf⟩
       ·rw [if_neg c7] at H;have Zr:=beq_eq_false_iff_ne.mpr c7;have nI:=bne_iff_ne.mpr c7;obtain rfl:=Option.some.inj H;have Pf:0 ≤ (Ba:Int):=Ia;have Nf:Ba < (l0.length:Int):=Ia;obtain ⟨Rl,bk,gf⟩:=Kd.Ud xk.out Ba Pf Nf;cases bk;replace Pf:=eq_true Pf;replace Nf:=eq_true Nf;have Du:0 ≤ (Ba:Int):=Ia;have Bu:Ba < (l1.length:Int):=Ia;obtain ⟨GI,iI,uq⟩:=Kd.Ud cN.out Ba Du Bu;cases iI;replace Du:=eq_true Du;replace Bu:=eq_true Bu;go_wp2
        repeat (go_quiet (fail);try go_wp2)
        go_ret;exact ⟨waf,kaf⟩
      ·rw [if_neg c6] at H;exact absurd H (by simp)
     ·rw [if_neg c5] at H;exact absurd H (by simp)
    ·rw [if_neg c4] at H;have Yk:decide (Ba < (l0.length:Int))=false:=decide_eq_false c4;clear c4;obtain rfl:=Option.some.inj H;go_wp2
     repeat (go_quiet (fail);try go_wp2)
     go_ret;exact ⟨waf,kaf⟩
 ·rw [if_neg c3] at H;have Yg:=beq_eq_false_iff_ne.mpr c3;have Mp:=bne_iff_ne.mpr c3;have zT:(l0.length == l1.length)=false:=by first|simpa using c3|(simp at c3 ⊢;omega)
  obtain rfl:=Option.some.inj H;go_enter Try.func17,Try.ntmps17;go_wp2
  repeat (go_quiet (fail);try go_wp2)
  go_ret;exact ⟨waf,kaf⟩
theorem Ev.pos {α:Type} {c:Prop} [Decidable c] {f g:Nat→Option α} {r:α} (h:c) (k:Ev f r):Ev (fun n=>if c then f n else g n) r:=Ev.congr (fun n=>if_pos h) k
theorem Ev.neg {α:Type} {c:Prop} [Decidable c] {f g:Nat→Option α} {r:α} (h:¬ c) (k:Ev g r):Ev (fun n=>if c then f n else g n) r:=Ev.congr (fun n=>if_neg h) k
theorem Ev.val {α β:Type} {a:α} {f:Nat→α→Option β} {r:β} (k:Ev (fun n=>f n a) r):Ev (fun n=>(some a).bind (f n)) r:=Ev.congr (fun n=>rfl) k
theorem Ev.here {α:Type} {o:Option α} {r:α} (h:o=some r):Ev (fun _=>o) r:=Ev.congr (fun n=>h) (Ev.now r)
theorem Wf {x:Int} (h:-9223372036854775808 ≤ x) (h':x ≤ 9223372036854775807):wrap64 x=x:=by
 unfold wrap64;omega
theorem lf {i n:Nat} (h:i < n) (hn:n ≤ 9223372036854775807):wrap64 ((i:Int) + 1)=((i + 1:Nat):Int):=by
 rw [Wf (by omega) (by omega)];omega
theorem Rh {ρ:Type} {n:Nat} {r:ρ} (P:Nat→Prop) (hend:P n) (hstep:∀ i,i < n→P (i + 1)→P i):∀ i,i ≤ n→P i:=by
 have key:∀ d i,i + d=n→P i:=by
  intro d
  induction d with
  | zero =>
   intro i hi;have:i=n:=by omega
   exact this ▸ hend
  | succ d ih =>
   intro i hi;exact hstep i (by omega) (ih (i + 1) (by omega))
 intro i hi;exact key (n - i) i (by omega)
theorem Rq {α:Type} {m:List α} {z:α} {i:Nat} (h:i < m.length):(m.take i ++ List.replicate (m.length - i) z).set i (m.getD i z)=m.take (i + 1) ++ List.replicate (m.length - (i + 1)) z:=by
 rw [List.set_append_right _ _ (by rw [List.length_take];omega),List.length_take,Nat.min_eq_left (by omega),Nat.sub_self];rw [show m.length - i=(m.length - (i + 1)) + 1 from by omega,List.replicate_succ,List.set_cons_zero,List.take_succ_eq_append_getElem h,List.append_assoc];simp [List.getD_eq_getElem?_getD,List.getElem?_eq_getElem h]
theorem sw {α:Type} {m:List α} {z:α}:m.take 0 ++ List.replicate (m.length - 0) z=List.replicate m.length z:=by simp
theorem Ru {α:Type} {m:List α} {z:α}:m.take m.length ++ List.replicate (m.length - m.length) z=m:=by simp
theorem UA (l:List Int) (i:Nat):rd l (i:Int)=l.getD i 0:=rfl
def iota (m:Int) (n:Nat):List Int:=(List.range n).map fun (j:Nat)=>m + (j:Int)
theorem Ej (m:Int) (n:Nat):(iota m n).length=n:=by simp [iota]
theorem jF {m:Int} {n i:Nat} (h:i < n):(iota m n).getD i 0=m + i:=by simp [iota,List.getD_eq_getElem?_getD,h]
theorem Jy {α:Type} {m l:List α} {z:α} {i:Nat} (hl:l.length=m.length) (h:i < m.length):(m.take i ++ l.drop i).set i (m.getD i z)=m.take (i + 1) ++ l.drop (i + 1):=by
 rw [List.set_append_right _ _ (by rw [List.length_take];omega),List.length_take,Nat.min_eq_left (by omega),Nat.sub_self];rw [List.drop_eq_getElem_cons (by omega),List.set_cons_zero,List.take_succ_eq_append_getElem h,List.append_assoc];simp [List.getD_eq_getElem?_getD,List.getElem?_eq_getElem h]
theorem Uy (a b c:Int):Ph.f a b c=some (Ki a b c):=by
 unfold Ph.f Ki
 by_cases h:a ≥ b
 ·rw [if_pos h];have h':b ≤ a:=h;simp [h']
 ·rw [if_neg h];have h':¬ b ≤ a:=h;simp [h']
theorem pF (l:List Int) (hl:l.length ≤ 35184372088832):Ev (fun k=>Vc.f k l) l:=by
 refine Ev.congr (f:=fun k=>Vc.l0 k l (List.replicate l.length 0) 0) (fun k=>?_) ?_
 ·unfold Vc.f;rw [if_pos (by omega),if_pos (by omega)]
  rfl
 ·have key:=Rh (r:=l) (n:=l.length) (fun i=>Ev (fun k=>Vc.l0 k l (l.take i ++ List.replicate (l.length - i) 0) (i:Int)) l) ?_ ?_ 0 (by omega)
  ·simpa using key
  ·refine Ev.step (fun k=>by rw [Vc.l0]) ?_;refine Ev.neg (by omega) ?_;rw [Ru];exact Ev.now l
  ·intro i hi h;refine Ev.step (fun k=>by rw [Vc.l0]) ?_;refine Ev.pos (by omega) (Ev.pos (by omega) (Ev.pos (by simp;omega) ?_));rw [lf hi (by omega),UA,Int.toNat_natCast,Rq hi];exact h
theorem qF (l:List Int) (hl:l.length ≤ 9223372036854775807):Ev (fun k=>ke.f k l l) true:=by
 refine Ev.congr (f:=fun k=>ke.l0 k l l 0) (fun k=>?_) ?_
 ·unfold ke.f;rw [if_pos rfl]
 ·refine Rh (r:=true) (n:=l.length) (fun i=>Ev (fun k=>ke.l0 k l l (i:Int)) true) ?_ ?_ 0 (by omega)
  ·refine Ev.step (fun k=>by rw [ke.l0]) ?_;exact Ev.neg (by omega) (Ev.now _)
  ·intro i hi h;refine Ev.step (fun k=>by rw [ke.l0]) ?_;refine Ev.pos (by omega) (Ev.pos (by omega) (Ev.pos (by omega) (Ev.pos rfl ?_)));rw [lf hi hl];exact h
theorem TJ (l:List Int) (a:Int) (ha:0 ≤ a) (ha':a ≤ 1048576) (hl:l.length ≤ 9223372036854775807):∃ t,xg.f l a=some t∧t ≤ a∧(0 ≤ t→t + l.length=a):=by
 unfold xg.f;rw [Wf (by omega) (by omega)]
 split
 ·exact ⟨-1,rfl,by omega,by omega⟩
 ·exact ⟨_,rfl,by omega,by omega⟩
def nj (x:Kj):Zb:=⟨x.f0,x.f1,x.f2,x.f3,x.f4,x.f5,x.f6⟩
theorem Gz (l:List Kj) (hl:l.length ≤ 4398046511104):Ev (fun k=>qc.f k l) (l.map nj):=by
 refine Ev.congr (f:=fun k=>qc.l0 k l (List.replicate l.length Vh) 0) (fun k=>?_) ?_
 ·unfold qc.f;rw [if_pos (by omega),if_pos (by omega)]
  rfl
 ·have key:=Rh (r:=l.map nj) (n:=l.length) (fun i=>Ev (fun k=>qc.l0 k l ((l.map nj).take i ++ List.replicate ((l.map nj).length - i) Vh) (i:Int)) (l.map nj)) ?_ ?_ 0 (by omega)
  ·rw [sw,List.length_map] at key;exact key
  ·refine Ev.step (fun k=>by rw [qc.l0]) ?_;refine Ev.neg (by omega) ?_;have e:=Ru (m:=l.map nj) (z:=Vh);rw [List.length_map] at e;rw [List.length_map,e];exact Ev.now _
  ·intro i hi h;refine Ev.step (fun k=>by rw [qc.l0]) ?_;refine Ev.pos (by omega) (Ev.pos (by omega) ?_);unfold Hi.f;refine Ev.val (Ev.pos (by simp;omega) ?_)
   have hc:nj (Ib l (i:Int))=(l.map nj).getD i Vh:=by
    simp [Ib,List.getD_eq_getElem?_getD,hi]
   have hf:=Rq (m:=l.map nj) (z:=Vh) (i:=i) (by rw [List.length_map];exact hi);rw [← hc] at hf;rw [lf hi (by omega),Int.toNat_natCast];have e:=hf ▸ h;exact e
def nr (l:List Kj):Nat:=(l.map fun x=>x.f6.size).sum
def zE (l:List Kj):Nat:=l.length + nr l
def NN (l:List Bi):Nat:=l.length + (l.map fun x=>zE x.f0).sum
theorem Yo {l:List Kj} {i:Nat} (h:i < l.length):Ib l (i:Int)=l[i]:=by simp [Ib,List.getD_eq_getElem?_getD,h]
theorem Gl {l:List Bi} {i:Nat} (h:i < l.length):mc l (i:Int)=l[i]:=by simp [mc,List.getD_eq_getElem?_getD,h]
theorem Iz (l:List Kj) (a:Int) (ha:0 ≤ a) (ha':a ≤ 1048576) (hl:l.length ≤ 9223372036854775807) (ht:∀ x ∈ l,x.f6.size ≤ 9223372036854775807) :
  ∃ t,Ev (fun k=>Gc.f k l a) t∧t ≤ a∧(0 ≤ t→t + zE l=a):=by
 have key:=Rh (ρ:=Unit) (r:=()) (n:=l.length) (fun i=>∀ a:Int,0 ≤ a→a ≤ 1048576→∃ t,Ev (fun k=>Gc.l0 k l a (i:Int)) t∧t ≤ a∧(0 ≤ t→t + nr (l.drop i)=a)) ?_ ?_ 0 (by omega)
 ·unfold Gc.f;rw [Wf (by omega) (by omega)]
  by_cases h:a - (l.length:Int) < 0
  ·exact ⟨-1,Ev.pos h (Ev.now _),by omega,by omega⟩
  ·obtain ⟨t,e1,e2,e3⟩:=key (a - l.length) (by omega) (by omega);refine ⟨t,Ev.neg h e1,by omega,fun h0=>?_⟩;have:=e3 h0;rw [List.drop_zero] at this;unfold zE;omega
 ·intro a h0 h1;refine ⟨a,?_,by omega,?_⟩
  ·refine Ev.step (fun k=>by rw [Gc.l0]) ?_;exact Ev.neg (by omega) (Ev.now _)
  ·intro _;rw [List.drop_length];simp [nr]
 ·intro i hi ih a h0 h1;have hx:=ht l[i] (List.getElem_mem hi)
  have hd:nr (l.drop i)=l[i].f6.size + nr (l.drop (i + 1)):=by
   rw [List.drop_eq_getElem_cons hi];simp only [nr,List.map_cons,List.sum_cons]
  by_cases h:a - (l[i].f6.size:Int) < 0
  ·refine ⟨-1,?_,by omega,by omega⟩;refine Ev.step (fun k=>by rw [Gc.l0]) ?_;refine Ev.pos (by omega) (Ev.pos (by omega) ?_);rw [Yo hi];unfold Tg.f;rw [Wf (by omega) (by omega),if_pos h];exact Ev.val (Ev.pos (by decide) (Ev.now _))
  ·obtain ⟨t,e1,e2,e3⟩:=ih (a - l[i].f6.size) (by omega) (by omega);refine ⟨t,?_,by omega,fun hh=>by have:=e3 hh;omega⟩;refine Ev.step (fun k=>by rw [Gc.l0]) ?_;refine Ev.pos (by omega) (Ev.pos (by omega) ?_);rw [Yo hi];unfold Tg.f;rw [Wf (by omega) (by omega),if_neg h];refine Ev.val (Ev.neg (by omega) ?_);rw [lf hi hl];exact e1
theorem Jz (l:List Bi) (a:Int) (ha:0 ≤ a) (ha':a ≤ 1048576) (hl:l.length ≤ 9223372036854775807) (ht:∀ x ∈ l,x.f0.length ≤ 9223372036854775807∧∀ y ∈ x.f0,y.f6.size ≤ 9223372036854775807) :
  ∃ t,Ev (fun k=>Ic.f k l a) t∧t ≤ a∧(0 ≤ t→t + NN l=a):=by
 have key:=Rh (ρ:=Unit) (r:=()) (n:=l.length) (fun i=>∀ a:Int,0 ≤ a→a ≤ 1048576→∃ t,Ev (fun k=>Ic.l0 k l a (i:Int)) t∧t ≤ a∧(0 ≤ t→t + ((l.drop i).map fun x=>zE x.f0).sum=a)) ?_ ?_ 0 (by omega)
 ·unfold Ic.f;rw [Wf (by omega) (by omega)]
  by_cases h:a - (l.length:Int) < 0
  ·exact ⟨-1,Ev.pos h (Ev.now _),by omega,by omega⟩
  ·obtain ⟨t,e1,e2,e3⟩:=key (a - l.length) (by omega) (by omega);refine ⟨t,Ev.neg h e1,by omega,fun h0=>?_⟩;have:=e3 h0;rw [List.drop_zero] at this;unfold NN;omega
 ·intro a h0 h1;refine ⟨a,?_,by omega,?_⟩
  ·refine Ev.step (fun k=>by rw [Ic.l0]) ?_;exact Ev.neg (by omega) (Ev.now _)
  ·intro _;rw [List.drop_length];simp
 ·intro i hi ih a h0 h1;have hx:=ht l[i] (List.getElem_mem hi)
  have hd:((l.drop i).map fun x=>zE x.f0).sum=zE l[i].f0 + ((l.drop (i + 1)).map fun x=>zE x.f0).sum:=by
   rw [List.drop_eq_getElem_cons hi];simp only [List.map_cons,List.sum_cons]
  obtain ⟨u,f1,f2,f3⟩:=Iz l[i].f0 a h0 h1 hx.1 hx.2
  by_cases h:u < 0
  ·refine ⟨-1,?_,by omega,by omega⟩;refine Ev.step (fun k=>by rw [Ic.l0]) ?_;refine Ev.pos (by omega) (Ev.pos (by omega) ?_);rw [Gl hi];unfold Ug.f;refine Ev.bind (Ev.bind f1 (Ev.pos h (Ev.now _))) ?_;exact Ev.pos (by decide) (Ev.now _)
  ·obtain ⟨t,e1,e2,e3⟩:=ih u (by omega) (by omega);have:=f3 (by omega);refine ⟨t,?_,by omega,fun hh=>by have:=e3 hh;omega⟩;refine Ev.step (fun k=>by rw [Ic.l0]) ?_;refine Ev.pos (by omega) (Ev.pos (by omega) ?_);rw [Gl hi];unfold Ug.f;refine Ev.bind (Ev.bind f1 (Ev.neg h (Ev.now _))) ?_;refine Ev.neg (by omega) ?_;rw [lf hi hl];exact e1
theorem Gu {l:List Nat} {n:Nat} (h:n ∈ l):n ≤ l.sum:=by
 induction l with
 | nil=>cases h
 | cons a l ih =>
  rw [List.sum_cons];cases h with
  | head=>omega
  | tail _ h=>have:=ih h;omega
theorem Dy {l:List Bi} {n:Nat} (h:NN l ≤ n):l.length ≤ n∧∀ x ∈ l,x.f0.length ≤ n:=by
 unfold NN at h;refine ⟨by omega,fun x hx=>?_⟩;have:zE x.f0 ≤ (l.map fun x=>zE x.f0).sum:=Gu (List.mem_map.mpr ⟨x,hx,rfl⟩);unfold zE at this h;omega
theorem AB (x0:List Int) (x1 x2 x3:Int) (x4:List Bi) (a:Int) (ha:0 ≤ a) (ha':a ≤ 1048576) (h0:x0.length ≤ 9223372036854775807) (hl:x4.length ≤ 9223372036854775807) (ht:∀ x ∈ x4,x.f0.length ≤ 9223372036854775807∧∀ y ∈ x.f0,y.f6.size ≤ 9223372036854775807) :
  ∃ t,Ev (fun k=>yg.f k x0 x1 x2 x3 x4 a) t∧t ≤ a∧(0 ≤ t→t + x0.length + NN x4=a):=by
 obtain ⟨t,e1,e2,e3⟩:=TJ x0 a ha ha' h0;unfold yg.f;rw [e1];simp only [Option.bind_some]
 by_cases ht':t < 0
 ·exact ⟨-1,Ev.pos ht' (Ev.now _),by omega,by omega⟩
 ·obtain ⟨u,f1,f2,f3⟩:=Jz x4 t (by omega) (by omega) hl ht
  by_cases hu:u < 0
  ·exact ⟨-1,Ev.neg ht' (Ev.bind f1 (Ev.pos hu (Ev.now _))),by omega,by omega⟩
  ·exact ⟨u,Ev.neg ht' (Ev.bind f1 (Ev.neg hu (Ev.now _))),by omega,fun _=>by have:=e3 (by omega);have:=f3 (by omega);omega⟩
def Me (x:Bi):Yd:=⟨x.f0.map nj,x.f1,x.f2,x.f3,x.f4⟩
theorem Hz (l:List Bi) (hl:l.length ≤ 1048576) (hb:∀ x ∈ l,x.f0.length ≤ 1048576):Ev (fun k=>tc.f k l) (l.map Me):=by
 refine Ev.congr (f:=fun k=>tc.l0 k l (List.replicate l.length gy) 0) (fun k=>?_) ?_
 ·unfold tc.f;rw [if_pos (by omega),if_pos (by omega)]
  rfl
 ·have key:=Rh (r:=l.map Me) (n:=l.length) (fun i=>Ev (fun k=>tc.l0 k l ((l.map Me).take i ++ List.replicate ((l.map Me).length - i) gy) (i:Int)) (l.map Me)) ?_ ?_ 0 (by omega)
  ·rw [sw,List.length_map] at key;exact key
  ·refine Ev.step (fun k=>by rw [tc.l0]) ?_;refine Ev.neg (by omega) ?_;have e:=Ru (m:=l.map Me) (z:=gy);rw [List.length_map] at e;rw [List.length_map,e];exact Ev.now _
  ·intro i hi h;refine Ev.step (fun k=>by rw [tc.l0]) ?_;refine Ev.pos (by omega) (Ev.pos (by omega) ?_);unfold Ii.f;have hx:=hb l[i] (List.getElem_mem hi);rw [Gl hi];refine Ev.bind (Ev.bind (Gz l[i].f0 (by omega)) (Ev.now _)) ?_;refine Ev.pos (by simp;omega) ?_
   have hc:Me l[i]=(l.map Me).getD i gy:=by
    simp [List.getD_eq_getElem?_getD,hi]
   have hf:=Rq (m:=l.map Me) (z:=gy) (i:=i) (by rw [List.length_map];exact hi);rw [← hc] at hf;rw [lf hi (by omega),Int.toNat_natCast];have e:=hf ▸ h;exact e
theorem Zo {l:List Yd} {i:Nat} (h:i < l.length):Ga l (i:Int)=l[i]:=by simp [Ga,List.getD_eq_getElem?_getD,h]
theorem zB (x0:List Int) (x1 x2 x3:Int) (x4:List Bi) (h0:x0.length ≤ 1048576) (hl:x4.length ≤ 1048576) (hb:∀ x ∈ x4,x.f0.length ≤ 1048576):Ev (fun k=>Bf.f k x0 x1 x2 x3 x4) (x0,x1,x2,x3,x4.map Me):=by
 unfold Bf.f;exact Ev.bind (pF x0 (by omega)) (Ev.bind (Hz x4 hl hb) (Ev.now _))
def Re.l0:Nat→List ByteArray→ByteArray→Int→Option (Bool)
 | 0,_,_,_=>none
 | k + 1,x0,x1,x5=>if x5 < (x0.length:Int) then (if 0 ≤ x5 then (if (Tf ByteArray.empty x0 x5).toList=x1.toList then (some true) else (Re.l0 k x0 x1 (wrap64 (x5 + 1)))) else (none)) else (some false)
def Re.f (k:Nat) (l0:List ByteArray) (a1:ByteArray):Option (Bool):=Re.l0 k l0 a1 0
theorem Re.calls (k:Nat) (A0:Option Addr) (c0:Nat) (l0:List ByteArray) (a1:ByteArray) (r:Bool) (w:World) (Jh:Kd.C Kd.string w A0 l0.length l0) (hc0:l0.length ≤ c0) (h:Re.f k l0 a1=some r) :
  Calls Try.prog 135 #[.slice A0 l0.length c0,.string a1] w fun e w'=>e = .returned (.bool r)∧Nb w w':=by
 have xk:=aa.mk Jh;have ey:=aa.mk hc0;clear Jh hc0;have H:(Re.l0 k l0 a1 0)=some r:=h;clear h;have H':=aa.mk H;clear H;go_enter Try.func135,Try.ntmps135;go_wp2
 go_loopg [5] k (fun kq v5 w'=>∃ (Ba:Int),v5 = .int .i64 Ba∧aa (Re.l0 kq l0 a1 Ba=some r)∧aa (kq ≤ k)∧Nb w w')
 case atStart=>exact ⟨(0),daf,H',⟨Nat.le_refl _⟩,kaf⟩
 case round =>
  clear H'
  try clear c1
  try clear p2
  (try clear HA);(try clear Gf);obtain ⟨Ba,rfl,HA,Gf,⟨m1,rfl⟩⟩:=hrel;cases gk with
  | zero=>exact absurd HA.out (by simp [Re.l0])
  | succ k1 =>
   have H:=HA.out;clear HA;simp only [Re.l0] at H
   by_cases c3:Ba < (l0.length:Int)
   ·rw [if_pos c3] at H;have Yg:decide (Ba < (l0.length:Int))=true:=decide_eq_true c3;clear c3
    by_cases c4:0 ≤ Ba
    ·rw [if_pos c4] at H;have Yk:decide (0 ≤ Ba)=true:=decide_eq_true c4;clear c4
     by_cases c5:(Tf ByteArray.empty l0 Ba).toList=a1.toList
     ·rw [if_pos c5] at H;have Yq:=beq_iff_eq.mpr c5;have oI:=bne_eq_false_iff_eq.mpr c5;clear c5;obtain rfl:=Option.some.inj H;have Pf:0 ≤ (Ba:Int):=Ia;have Nf:Ba < (l0.length:Int):=Ia;obtain ⟨Rl,bk,gf⟩:=Kd.Jo xk.out Ba Pf Nf;cases bk;replace Pf:=eq_true Pf;replace Nf:=eq_true Nf;go_wp2;go_ret;exact ⟨waf,kaf⟩
     ·rw [if_neg c5] at H;have Yq:=beq_eq_false_iff_ne.mpr c5;have oI:=bne_iff_ne.mpr c5;have H':=aa.mk H;clear H;have Pf:0 ≤ (Ba:Int):=Ia;have Nf:Ba < (l0.length:Int):=Ia;obtain ⟨Rl,bk,gf⟩:=Kd.Jo xk.out Ba Pf Nf;cases bk;replace Pf:=eq_true Pf;replace Nf:=eq_true Nf;go_wp2
      go_roundg k1
      case measure=>have:=Gf.out;omega
      case rel=>exact ⟨(wrap64 (Ba + 1)),daf,H',⟨by have:=Gf.out;omega⟩,kaf⟩
    ·rw [if_neg c4] at H;exact absurd H (by simp)
   ·rw [if_neg c3] at H;have Yg:decide (Ba < (l0.length:Int))=false:=decide_eq_false c3;clear c3;obtain rfl:=Option.some.inj H;go_wp2;go_ret;exact ⟨waf,kaf⟩
mutual
def Rb.j0:Nat→Bool→List Int→Int→Int→Int→List (Yd)→Option (Bool)
 | 0,_,_,_,_,_,_=>none
 | k + 1,x29,Cd,Bd,Ad,yd,Yb=>if x29=true then (some false) else (Rb.l0 k 0 Yb (Yb.length:Int) 0 Cd Bd Ad yd Yb)
def Rb.l0:Nat→Int→List (Yd)→Int→Int→List Int→Int→Int→Int→List (Yd)→Option (Bool)
 | 0,_,_,_,_,_,_,_,_,_=>none
 | k + 1,x3,NL,L6,wJ,Cd,Bd,Ad,yd,Yb=>if wJ < L6 then (if 0 ≤ wJ then (if wJ < (NL.length:Int) then ((Vg.f Cd Bd Ad yd Yb ((Ga NL wJ).f0) ((Ga NL wJ).f1) ((Ga NL wJ).f2) ((Ga NL wJ).f3) ((Ga NL wJ).f4)).bind fun t107=>(if t107=true then (Rb.l0 k (wrap64 (x3 + (((Ga NL wJ).f0).length:Int))) NL L6 (wrap64 (wJ + 1)) Cd Bd Ad yd Yb) else (some false))) else (none)) else (none)) else (some (decide (x3 ≤ 1000)))
end
def Rb.f (k:Nat) (Ma:List Int) (Pa:Int) (Qa:Int) (Oa:Int) (za:List (Yd)):Option (Bool):=(bf.f Ma Pa Qa ([]:List (Es))).bind fun t102=>(if t102=true then ((Ph.f Oa Qa 1000).bind fun t103=>(if t103=true then ((Ph.f (za.length:Int) 1 300).bind fun t104=>(Rb.j0 k (!t104) Ma Pa Qa Oa za)) else (Rb.j0 k true Ma Pa Qa Oa za))) else (Rb.j0 k true Ma Pa Qa Oa za))
theorem Rb.calls (k:Nat) (Bb:Option Addr) (Ab:Nat) (Ma:List Int) (Pa:Int) (Qa:Int) (Oa:Int) (Qb:Option Addr) (Gb:Nat) (za:List (Yd)) (r:Bool) (w:World) (od:Kd.C (Kd.int .i64) w Bb Ma.length Ma) (Nd:Ma.length ≤ Ab) (ze:Kd.C Jl w Qb za.length za) (Ve:za.length ≤ Gb) (h:Rb.f k Ma Pa Qa Oa za=some r) :
  Calls Try.prog 71 #[.agg #[.slice Bb Ma.length Ab,.int .i64 Pa,.int .i64 Qa,.int .i64 Oa,.slice Qb za.length Gb]] w fun e w'=>e = .returned (.bool r)∧Below w.heap.size w w':=by
 have WG:=Try.underlying45;have o8:=Try.underlying100;have mB:=Try.underlying83;have Qg:=aa.mk od;have Sg:=aa.mk Nd;clear od Nd;have Ei:=aa.mk ze;have Uk:=aa.mk Ve;clear ze Ve;have HB:=aa.mk (Below.refl w.heap.size w);have H:((bf.f Ma Pa Qa ([]:List (Es))).bind fun t102=>(if t102=true then ((Ph.f Oa Qa 1000).bind fun t103=>(if t103=true then ((Ph.f (za.length:Int) 1 300).bind fun t104=>(Rb.j0 k (!t104) Ma Pa Qa Oa za)) else (Rb.j0 k true Ma Pa Qa Oa za))) else (Rb.j0 k true Ma Pa Qa Oa za)))=some r:=h;clear h;have DR:=aa.mk H;clear H;go_enter Try.func71,Try.ntmps71
 go_upto_region 1 with (first|((with_reducible refine Lb (N:=1) rfl ?_);(try (refine Ip (by rfl) ?_;dsimp only));refine Jc ?hg (N:=1) ?hd (cs:=#[.slice Bb Ma.length Ab,.int .i64 Pa,.int .i64 Qa,.int .i64 Oa,.slice Qb za.length Gb]) (t:=45) ?hr ?_;(case hd|hg=>rfl);(case hr=>exact Vae);intro Ja hg w3 qd hb;have Kb:=aa.mk (Fa Yae hb);have Ob:=aa.mk (qd);have fc:=aa.mk ((by rw [hg];exact (Ra Yae):w.heap.size ≤ Ja));have Sc:=aa.mk ((by rw [hg];exact (Ra Yae):w.heap.size ≤ Ja));clear HB;have HB:=Kb;have ta:=Ob;have Af:=fc;have mb:=Sc;clear Kb Ob fc Sc hb qd hg))
 (try simp only [Act.put,List.setIfInBounds_toArray,List.set_cons_zero,List.set_cons_succ])
 go_cut [29] (fun v29 wc=>∃ (kq:Nat) (oC:Bool),v29 = .bool oC∧aa (Rb.j0 kq oC Ma Pa Qa Oa za=some r)∧aa (kq ≤ k)∧aa (wc.heap[Ja]? = some (.cells #[(.slice Bb Ma.length Ab),.int .i64 Pa,.int .i64 Qa,.int .i64 Oa,(.slice Qb za.length Gb)] 45 (0,0)))∧aa (Below w.heap.size w wc))
 case first =>
  have H:=DR.out;clear DR;replace H:=Option.bind_eq_some_iff.mp H;obtain ⟨t102,DN,H⟩:=H
  try dsimp only at H
  have A4:=aa.mk DN;clear DN
  by_cases c5:t102=true
  ·subst c5;rw [if_pos rfl] at H;replace H:=Option.bind_eq_some_iff.mp H;obtain ⟨t103,CN,H⟩:=H
   try dsimp only at H
   have A6:=aa.mk CN;clear CN
   by_cases c7:t103=true
   ·subst c7;rw [if_pos rfl] at H;replace H:=Option.bind_eq_some_iff.mp H;obtain ⟨t104,BN,H⟩:=H
    try dsimp only at H
    have A8:=aa.mk BN;clear BN;have H':=aa.mk H;clear H;obtain ⟨ak,Zj,Yj,Xj,Wj,Vj,Uj,Tj,Sj,Rj⟩:=mI ta.out;go_wp2_with (first|((with_reducible refine Sb (f:=93) rfl ?_);refine Ke (some 13) rfl rfl Try.func93 (by kernel_rfl) rfl #[.agg #[.slice Bb Ma.length Ab,.int .i64 Pa,.int .i64 Qa,.slice none 0 0]] rfl baf ?_;(refine (bf.calls _ _ Ma Pa Qa _ _ ([]:List (Es)) true _ ?Gd ?Ed ?Cj ?Bj A4.out).mono ?_);(case Gd=>repeat (first|exact (Kd.yb Qg.out HB.out)|(with_reducible refine Kd.ee ?_ _)|(with_reducible refine Kd.Zd ?_ _)|(with_reducible refine Kd.We ?_)));(case Ed=>exact Sg.out);(case Cj=>exact Kd.vE _ _);(case Bj=>exact Nat.le_refl _);rintro e Gt ⟨rfl,hb⟩;refine ⟨_,rfl,?_⟩;have Kb:=aa.mk (Ua (g:=Ja) (o:=.cells #[.slice Bb Ma.length Ab,.int .i64 Pa,.int .i64 Qa,.int .i64 Oa,.slice Qb za.length Gb] 45 (0,0)) Zae hb);have Ob:=aa.mk (Fa Xae hb);clear ta HB;have ta:=Kb;have HB:=Ob;clear Kb Ob;(try clear hb);(try clear Vk);(try clear hk);(try clear hi);have QD:Gt.cell? ⟨Ja,0,none⟩=some (.slice Bb Ma.length Ab):=(qa ta.out 0).trans rfl;have PD:Gt.cell? ⟨Ja,1,none⟩=some (.int .i64 Pa):=(qa ta.out 1).trans rfl;have OD:Gt.cell? ⟨Ja,2,none⟩=some (.int .i64 Qa):=(qa ta.out 2).trans rfl;have ND:Gt.cell? ⟨Ja,3,none⟩=some (.int .i64 Oa):=(qa ta.out 3).trans rfl;have MD:Gt.cell? ⟨Ja,4,none⟩=some (.slice Qb za.length Gb):=(qa ta.out 4).trans rfl;have tD:=Aa ta.out 0;have sD:=Aa ta.out 1;have rD:=Aa ta.out 2;have qD:=Aa ta.out 3;have oD:=Aa ta.out 4)|(go_at_call 94;(with_reducible refine (Ph.calls Oa Qa 1000 true _ A6.out).mono ?_);rintro e w' ⟨rfl,⟨nd,rfl⟩⟩)|(go_at_call 94;(with_reducible refine (Ph.calls (za.length:Int) 1 300 t104 _ A8.out).mono ?_);rintro e w' ⟨rfl,⟨nd,rfl⟩⟩))
    go_meet
    case rel=>exact ⟨_,(!t104),daf,H',⟨by first|omega|exact Nat.le_refl _⟩,⟨faf⟩,⟨aaf⟩⟩
   ·replace c7:=Bool.eq_false_iff.mpr c7;subst c7;rw [if_neg (show ¬ (false=true) by decide)] at H;have H':=aa.mk H;clear H;obtain ⟨Fm,Em,Dm,Cm,Bm,Am,zm,ym,xm,wm⟩:=mI ta.out;go_wp2_with (first|((with_reducible refine Sb (f:=93) rfl ?_);refine Ke (some 13) rfl rfl Try.func93 (by kernel_rfl) rfl #[.agg #[.slice Bb Ma.length Ab,.int .i64 Pa,.int .i64 Qa,.slice none 0 0]] rfl baf ?_;(refine (bf.calls _ _ Ma Pa Qa _ _ ([]:List (Es)) true _ ?Gd ?Ed ?Cj ?Bj A4.out).mono ?_);(case Gd=>repeat (first|exact (Kd.yb Qg.out HB.out)|(with_reducible refine Kd.ee ?_ _)|(with_reducible refine Kd.Zd ?_ _)|(with_reducible refine Kd.We ?_)));(case Ed=>exact Sg.out);(case Cj=>exact Kd.vE _ _);(case Bj=>exact Nat.le_refl _);rintro e iy ⟨rfl,hb⟩;refine ⟨_,rfl,?_⟩;have Kb:=aa.mk (Ua (g:=Ja) (o:=.cells #[.slice Bb Ma.length Ab,.int .i64 Pa,.int .i64 Qa,.int .i64 Oa,.slice Qb za.length Gb] 45 (0,0)) Zae hb);have Ob:=aa.mk (Fa Xae hb);clear ta HB;have ta:=Kb;have HB:=Ob;clear Kb Ob;(try clear hb);(try clear Vk);(try clear hk);(try clear hi);have bu:iy.cell? ⟨Ja,0,none⟩=some (.slice Bb Ma.length Ab):=(qa ta.out 0).trans rfl;have au:iy.cell? ⟨Ja,1,none⟩=some (.int .i64 Pa):=(qa ta.out 1).trans rfl;have Zt:iy.cell? ⟨Ja,2,none⟩=some (.int .i64 Qa):=(qa ta.out 2).trans rfl;have Yt:iy.cell? ⟨Ja,3,none⟩=some (.int .i64 Oa):=(qa ta.out 3).trans rfl;have Xt:iy.cell? ⟨Ja,4,none⟩=some (.slice Qb za.length Gb):=(qa ta.out 4).trans rfl;have Rt:=Aa ta.out 0;have Qt:=Aa ta.out 1;have Pt:=Aa ta.out 2;have Ot:=Aa ta.out 3;have Nt:=Aa ta.out 4)|(go_at_call 94;(with_reducible refine (Ph.calls Oa Qa 1000 false _ A6.out).mono ?_);rintro e w' ⟨rfl,⟨nd,rfl⟩⟩))
    go_meet
    case rel=>exact ⟨_,(true),daf,H',⟨by first|omega|exact Nat.le_refl _⟩,⟨faf⟩,⟨aaf⟩⟩
  ·replace c5:=Bool.eq_false_iff.mpr c5;subst c5;rw [if_neg (show ¬ (false=true) by decide)] at H;have H':=aa.mk H;clear H;obtain ⟨LD,KD,JD,ID,GD,nD,mD,lD,kD,jD⟩:=mI ta.out;go_wp2_with (first|((with_reducible refine Sb (f:=93) rfl ?_);refine Ke (some 13) rfl rfl Try.func93 (by kernel_rfl) rfl #[.agg #[.slice Bb Ma.length Ab,.int .i64 Pa,.int .i64 Qa,.slice none 0 0]] rfl baf ?_;(refine (bf.calls _ _ Ma Pa Qa _ _ ([]:List (Es)) false _ ?Gd ?Ed ?Cj ?Bj A4.out).mono ?_);(case Gd=>repeat (first|exact (Kd.yb Qg.out HB.out)|(with_reducible refine Kd.ee ?_ _)|(with_reducible refine Kd.Zd ?_ _)|(with_reducible refine Kd.We ?_)));(case Ed=>exact Sg.out);(case Cj=>exact Kd.vE _ _);(case Bj=>exact Nat.le_refl _);rintro e NY ⟨rfl,hb⟩;refine ⟨_,rfl,?_⟩;have Kb:=aa.mk (Ua (g:=Ja) (o:=.cells #[.slice Bb Ma.length Ab,.int .i64 Pa,.int .i64 Qa,.int .i64 Oa,.slice Qb za.length Gb] 45 (0,0)) Zae hb);have Ob:=aa.mk (Fa Xae hb);clear ta HB;have ta:=Kb;have HB:=Ob;clear Kb Ob;(try clear hb);(try clear Vk);(try clear hk);(try clear hi)))
   go_meet
   case rel=>exact ⟨_,(true),daf,H',⟨by first|omega|exact Nat.le_refl _⟩,⟨faf⟩,⟨aaf⟩⟩
 case rest =>
  clear DR
  try clear p2
  try clear c5
  try clear c7
  try clear c9
  try clear QD
  try clear PD
  try clear OD
  try clear ND
  try clear MD
  try clear Fm
  try clear Em
  try clear Dm
  try clear Cm
  try clear Bm
  try clear bu
  try clear au
  try clear Zt
  try clear Yt
  try clear Xt
  try clear LD
  try clear KD
  try clear JD
  try clear ID
  try clear GD
  try clear ak
  try clear Zj
  try clear Yj
  try clear Xj
  try clear Wj
  try clear tD
  try clear sD
  try clear rD
  try clear qD
  try clear oD
  try clear Am
  try clear zm
  try clear ym
  try clear xm
  try clear wm
  try clear Rt
  try clear Qt
  try clear Pt
  try clear Ot
  try clear Nt
  try clear nD
  try clear mD
  try clear lD
  try clear kD
  try clear jD
  try clear Vj
  try clear Uj
  try clear Tj
  try clear Sj
  try clear Rj
  obtain ⟨kq,oC,rfl,HA,HJ1,ta,HB⟩:=hcut;cases kq with
  | zero=>exact absurd HA.out (by simp [Rb.j0])
  | succ X6 =>
   have H:=HA.out;clear HA;simp only [Rb.j0] at H
   by_cases GJ:oC=true
   ·subst GJ;rw [if_pos rfl] at H;obtain rfl:=Option.some.inj H;go_wp2;go_ret;exact ⟨eaf,aaf⟩
   ·replace GJ:=Bool.eq_false_iff.mpr GJ;subst GJ;rw [if_neg (show ¬ (false=true) by decide)] at H;have H':=aa.mk H;clear H;obtain ⟨FD,ED,DD,CD,BD,iD,gD,fD,eD,dD⟩:=mI ta.out;go_wp2
    go_loopg [3,33] X6 (fun kq v3 v33 w'=>∃ (zi:Int) (Oc:Int),v3 = .int .i64 zi∧v33 = .int .i64 Oc∧aa (Rb.l0 kq zi za (za.length:Int) Oc Ma Pa Qa Oa za=some r)∧aa (kq ≤ X6)∧aa (w'.heap[Ja]? = some (.cells #[(.slice Bb Ma.length Ab),.int .i64 Pa,.int .i64 Qa,.int .i64 Oa,(.slice Qb za.length Gb)] 45 (0,0)))∧aa (Below w.heap.size w w'))
    case atStart=>exact ⟨(0),(0),daf,daf,H',⟨Nat.le_refl _⟩,⟨faf⟩,⟨aaf⟩⟩
    case round =>
     clear H'
     try clear c1
     try clear p2
     try clear c5
     try clear c7
     try clear c9
     try clear GJ
     try clear QD
     try clear PD
     try clear OD
     try clear ND
     try clear MD
     try clear Fm
     try clear Em
     try clear Dm
     try clear Cm
     try clear Bm
     try clear bu
     try clear au
     try clear Zt
     try clear Yt
     try clear Xt
     try clear LD
     try clear KD
     try clear JD
     try clear ID
     try clear GD
     try clear FD
     try clear ED
     try clear DD
     try clear CD
     try clear BD
     try clear ak
     try clear Zj
     try clear Yj
     try clear Xj
     try clear Wj
     try clear tD
     try clear sD
     try clear rD
     try clear qD
     try clear oD
     try clear Am
     try clear zm
     try clear ym
     try clear xm
     try clear wm
     try clear Rt
     try clear Qt
     try clear Pt
     try clear Ot
     try clear Nt
     try clear nD
     try clear mD
     try clear lD
     try clear kD
     try clear jD
     try clear iD
     try clear gD
     try clear fD
     try clear eD
     try clear dD
     try clear Vj
     try clear Uj
     try clear Tj
     try clear Sj
     try clear Rj
     try clear p2
     (try clear HA);(try clear zk);(try clear ta);(try clear HB);obtain ⟨zi,Oc,rfl,rfl,HA,zk,ta,HB⟩:=hrel;cases gk with
     | zero=>exact absurd HA.out (by simp [Rb.l0])
     | succ k2 =>
      have H:=HA.out;clear HA;simp only [Rb.l0] at H
      by_cases BF:Oc < (za.length:Int)
      ·rw [if_pos BF] at H;have VD:decide (Oc < (za.length:Int))=true:=decide_eq_true BF;clear BF
       by_cases EA:0 ≤ Oc
       ·rw [if_pos EA] at H;have wI:decide (0 ≤ Oc)=true:=decide_eq_true EA;clear EA
        by_cases vI:Oc < (za.length:Int)
        ·rw [if_pos vI] at H;have uI:decide (Oc < (za.length:Int))=true:=decide_eq_true vI;clear vI;replace H:=Option.bind_eq_some_iff.mp H;obtain ⟨t107,sJ,H⟩:=H
         try dsimp only at H
         have EN:=aa.mk sJ;clear sJ
         by_cases js:t107=true
         ·subst js;rw [if_pos rfl] at H;have H':=aa.mk H;clear H;have dB:0 ≤ (Oc:Int):=Ia;have YA:Oc < (za.length:Int):=Ia;obtain ⟨Ql,mj,ij,ZP,oq,mq,lq,jq,iq,yq,Aq⟩:=Nk Ei.out Oc dB YA;cases ZP;replace oq:=Jb HB.out oq;replace mq:=Jb HB.out mq;replace lq:=Jb HB.out lq;replace jq:=Jb HB.out jq;replace iq:=Jb HB.out iq;have Yx:=aa.mk Aq;have cy:=aa.mk yq;clear Aq yq;replace dB:=eq_true dB;replace YA:=eq_true YA;go_wp2_with (first|((with_reducible refine Lb (N:=5) rfl ?_);(try (refine Ip (by rfl) ?_;dsimp only));refine Jc ?hg (N:=5) ?hd (cs:=#[.slice none 0 0,.int .i64 0,.int .i64 0,.int .i64 0,.int .i64 0]) (t:=83) ?hr ?_;(case hd|hg=>rfl);(case hr=>exact Vae);intro Yh hg yJ qd hb;have Kb:=aa.mk (Ua (g:=Ja) (o:=.cells #[.slice Bb Ma.length Ab,.int .i64 Pa,.int .i64 Qa,.int .i64 Oa,.slice (some Ql) za.length Gb] 45 (0,0)) Zae hb);have Ob:=aa.mk (Fa Xae hb);have fc:=aa.mk (qd);have Sc:=aa.mk ((by rw [hg];exact (Ra Xae):w.heap.size ≤ Yh));have uf:=aa.mk ((by rw [hg];exact (Ra Xae):w.heap.size ≤ Yh));have qh:=aa.mk ((by rw [hg];exact Nat.ne_of_lt (Le (g:=Ja) (o:=.cells #[.slice Bb Ma.length Ab,.int .i64 Pa,.int .i64 Qa,.int .i64 Oa,.slice (some Ql) za.length Gb] 45 (0,0)) Zae):Ja ≠ Yh));have Rs:=aa.mk ((by rw [hg];exact Nat.ne_of_gt (Le (g:=Ja) (o:=.cells #[.slice Bb Ma.length Ab,.int .i64 Pa,.int .i64 Qa,.int .i64 Oa,.slice (some Ql) za.length Gb] 45 (0,0)) Zae):Yh ≠ Ja));clear ta HB;have ta:=Kb;have HB:=Ob;have Mg:=fc;have RV:=Sc;have mo:=uf;have dg:=qh;have Gs:=Rs;clear Kb Ob fc Sc uf qh Rs hb qd hg;have L8:=Gs.out;have H8:=dg.out;have NX:yJ.cell? ⟨Yh,0,none⟩=some (.slice none 0 0):=(qa Mg.out 0).trans rfl;have MX:yJ.cell? ⟨Yh,1,none⟩=some (.int .i64 0):=(qa Mg.out 1).trans rfl;have LX:yJ.cell? ⟨Yh,2,none⟩=some (.int .i64 0):=(qa Mg.out 2).trans rfl;have KX:yJ.cell? ⟨Yh,3,none⟩=some (.int .i64 0):=(qa Mg.out 3).trans rfl;have JX:yJ.cell? ⟨Yh,4,none⟩=some (.int .i64 0):=(qa Mg.out 4).trans rfl;have ZW:=Aa Mg.out 0;have YW:=Aa Mg.out 1;have XW:=Aa Mg.out 2;have WW:=Aa Mg.out 3;have VW:=Aa Mg.out 4;have IX:yJ.cell? ⟨Ja,0,none⟩=some (.slice Bb Ma.length Ab):=(qa ta.out 0).trans rfl;have GX:yJ.cell? ⟨Ja,1,none⟩=some (.int .i64 Pa):=(qa ta.out 1).trans rfl;have FX:yJ.cell? ⟨Ja,2,none⟩=some (.int .i64 Qa):=(qa ta.out 2).trans rfl;have EX:yJ.cell? ⟨Ja,3,none⟩=some (.int .i64 Oa):=(qa ta.out 3).trans rfl;have DX:yJ.cell? ⟨Ja,4,none⟩=some (.slice (some Ql) za.length Gb):=(qa ta.out 4).trans rfl;have UW:=Aa ta.out 0;have TW:=Aa ta.out 1;have SW:=Aa ta.out 2;have RW:=Aa ta.out 3;have QW:=Aa ta.out 4)|((with_reducible refine Sb (f:=104) rfl ?_);refine Ke (some 44) rfl rfl Try.func104 (by kernel_rfl) rfl #[.agg #[.slice Bb Ma.length Ab,.int .i64 Pa,.int .i64 Qa,.int .i64 Oa,.slice (some Ql) za.length Gb],.agg #[.slice mj ((Ga za Oc).f0).length ij,.int .i64 ((Ga za Oc).f1),.int .i64 ((Ga za Oc).f2),.int .i64 ((Ga za Oc).f3),.int .i64 ((Ga za Oc).f4)]] rfl baf ?_;(with_reducible refine (Vg.calls _ _ Ma Pa Qa Oa _ _ za _ _ ((Ga za Oc).f0) ((Ga za Oc).f1) ((Ga za Oc).f2) ((Ga za Oc).f3) ((Ga za Oc).f4) true _ ?Gd ?Ed ?Cj ?Bj ?Iy ?Hy EN.out).mono ?_);(case Gd=>exact Kd.yb Qg.out maf);(case Ed=>exact Sg.out);(case Cj=>exact Kd.yb Ei.out maf);(case Bj=>exact Uk.out);(case Iy=>exact Kd.yb Yx.out maf);(case Hy=>exact cy.out);rintro e aW ⟨rfl,hb⟩;refine ⟨_,rfl,?_⟩;have Kb:=aa.mk (Ua (g:=Ja) (o:=.cells #[.slice Bb Ma.length Ab,.int .i64 Pa,.int .i64 Qa,.int .i64 Oa,.slice (some Ql) za.length Gb] 45 (0,0)) xaf hb);have Ob:=aa.mk (Ua (g:=Yh) (o:=.cells #[.slice mj ((Ga za Oc).f0).length ij,.int .i64 ((Ga za Oc).f1),.int .i64 ((Ga za Oc).f2),.int .i64 ((Ga za Oc).f3),.int .i64 ((Ga za Oc).f4)] 83 (0,0)) haf hb);have fc:=aa.mk (Fa maf hb);clear ta Mg HB;have ta:=Kb;have Mg:=Ob;have HB:=fc;clear Kb Ob fc;(try clear hb);(try clear Vk);(try clear hk);(try clear hi)))
          go_roundg k2
          case measure=>have:=HJ1.out;have:=zk.out;omega
          case rel=>exact ⟨(wrap64 (zi + (((Ga za Oc).f0).length:Int))),(wrap64 (Oc + 1)),daf,daf,H',⟨by have:=HJ1.out;have:=zk.out;omega⟩,⟨faf⟩,⟨by repeat (first|(with_reducible first|exact HB.out|apply ia|apply ga|apply ja|refine ya ?_ mb.out|refine ya ?_ mo.out)|exact HB.out)⟩⟩
         ·replace js:=Bool.eq_false_iff.mpr js;subst js;rw [if_neg (show ¬ (false=true) by decide)] at H;obtain rfl:=Option.some.inj H;have dB:0 ≤ (Oc:Int):=Ia;have YA:Oc < (za.length:Int):=Ia;obtain ⟨Ql,mj,ij,ZP,oq,mq,lq,jq,iq,yq,Aq⟩:=Nk Ei.out Oc dB YA;cases ZP;replace oq:=Jb HB.out oq;replace mq:=Jb HB.out mq;replace lq:=Jb HB.out lq;replace jq:=Jb HB.out jq;replace iq:=Jb HB.out iq;have Yx:=aa.mk Aq;have cy:=aa.mk yq;clear Aq yq;replace dB:=eq_true dB;replace YA:=eq_true YA;go_wp2_with (first|((with_reducible refine Lb (N:=5) rfl ?_);(try (refine Ip (by rfl) ?_;dsimp only));refine Jc ?hg (N:=5) ?hd (cs:=#[.slice none 0 0,.int .i64 0,.int .i64 0,.int .i64 0,.int .i64 0]) (t:=83) ?hr ?_;(case hd|hg=>rfl);(case hr=>exact Vae);intro Yh hg xJ qd hb;have Kb:=aa.mk (Ua (g:=Ja) (o:=.cells #[.slice Bb Ma.length Ab,.int .i64 Pa,.int .i64 Qa,.int .i64 Oa,.slice (some Ql) za.length Gb] 45 (0,0)) Zae hb);have Ob:=aa.mk (Fa Xae hb);have fc:=aa.mk (qd);have Sc:=aa.mk ((by rw [hg];exact (Ra Xae):w.heap.size ≤ Yh));have uf:=aa.mk ((by rw [hg];exact (Ra Xae):w.heap.size ≤ Yh));have qh:=aa.mk ((by rw [hg];exact Nat.ne_of_lt (Le (g:=Ja) (o:=.cells #[.slice Bb Ma.length Ab,.int .i64 Pa,.int .i64 Qa,.int .i64 Oa,.slice (some Ql) za.length Gb] 45 (0,0)) Zae):Ja ≠ Yh));have Rs:=aa.mk ((by rw [hg];exact Nat.ne_of_gt (Le (g:=Ja) (o:=.cells #[.slice Bb Ma.length Ab,.int .i64 Pa,.int .i64 Qa,.int .i64 Oa,.slice (some Ql) za.length Gb] 45 (0,0)) Zae):Yh ≠ Ja));clear ta HB;have ta:=Kb;have HB:=Ob;have Mg:=fc;have RV:=Sc;have mo:=uf;have dg:=qh;have Gs:=Rs;clear Kb Ob fc Sc uf qh Rs hb qd hg;have K8:=Gs.out;have G8:=dg.out;have CX:xJ.cell? ⟨Yh,0,none⟩=some (.slice none 0 0):=(qa Mg.out 0).trans rfl;have BX:xJ.cell? ⟨Yh,1,none⟩=some (.int .i64 0):=(qa Mg.out 1).trans rfl;have AX:xJ.cell? ⟨Yh,2,none⟩=some (.int .i64 0):=(qa Mg.out 2).trans rfl;have zX:xJ.cell? ⟨Yh,3,none⟩=some (.int .i64 0):=(qa Mg.out 3).trans rfl;have yX:xJ.cell? ⟨Yh,4,none⟩=some (.int .i64 0):=(qa Mg.out 4).trans rfl;have PW:=Aa Mg.out 0;have OW:=Aa Mg.out 1;have NW:=Aa Mg.out 2;have MW:=Aa Mg.out 3;have LW:=Aa Mg.out 4;have xX:xJ.cell? ⟨Ja,0,none⟩=some (.slice Bb Ma.length Ab):=(qa ta.out 0).trans rfl;have wX:xJ.cell? ⟨Ja,1,none⟩=some (.int .i64 Pa):=(qa ta.out 1).trans rfl;have vX:xJ.cell? ⟨Ja,2,none⟩=some (.int .i64 Qa):=(qa ta.out 2).trans rfl;have uX:xJ.cell? ⟨Ja,3,none⟩=some (.int .i64 Oa):=(qa ta.out 3).trans rfl;have sX:xJ.cell? ⟨Ja,4,none⟩=some (.slice (some Ql) za.length Gb):=(qa ta.out 4).trans rfl;have KW:=Aa ta.out 0;have JW:=Aa ta.out 1;have IW:=Aa ta.out 2;have GW:=Aa ta.out 3;have FW:=Aa ta.out 4)|((with_reducible refine Sb (f:=104) rfl ?_);refine Ke (some 44) rfl rfl Try.func104 (by kernel_rfl) rfl #[.agg #[.slice Bb Ma.length Ab,.int .i64 Pa,.int .i64 Qa,.int .i64 Oa,.slice (some Ql) za.length Gb],.agg #[.slice mj ((Ga za Oc).f0).length ij,.int .i64 ((Ga za Oc).f1),.int .i64 ((Ga za Oc).f2),.int .i64 ((Ga za Oc).f3),.int .i64 ((Ga za Oc).f4)]] rfl baf ?_;(with_reducible refine (Vg.calls _ _ Ma Pa Qa Oa _ _ za _ _ ((Ga za Oc).f0) ((Ga za Oc).f1) ((Ga za Oc).f2) ((Ga za Oc).f3) ((Ga za Oc).f4) false _ ?Gd ?Ed ?Cj ?Bj ?Iy ?Hy EN.out).mono ?_);(case Gd=>exact Kd.yb Qg.out maf);(case Ed=>exact Sg.out);(case Cj=>exact Kd.yb Ei.out maf);(case Bj=>exact Uk.out);(case Iy=>exact Kd.yb Yx.out maf);(case Hy=>exact cy.out);rintro e w33 ⟨rfl,hb⟩;refine ⟨_,rfl,?_⟩;have Kb:=aa.mk (Ua (g:=Ja) (o:=.cells #[.slice Bb Ma.length Ab,.int .i64 Pa,.int .i64 Qa,.int .i64 Oa,.slice (some Ql) za.length Gb] 45 (0,0)) xaf hb);have Ob:=aa.mk (Ua (g:=Yh) (o:=.cells #[.slice mj ((Ga za Oc).f0).length ij,.int .i64 ((Ga za Oc).f1),.int .i64 ((Ga za Oc).f2),.int .i64 ((Ga za Oc).f3),.int .i64 ((Ga za Oc).f4)] 83 (0,0)) haf hb);have fc:=aa.mk (Fa maf hb);clear ta Mg HB;have ta:=Kb;have Mg:=Ob;have HB:=fc;clear Kb Ob fc;(try clear hb);(try clear Vk);(try clear hk);(try clear hi)));go_ret;exact ⟨eaf,by repeat (first|(with_reducible first|exact HB.out|apply ia|apply ga|apply ja|refine ya ?_ mb.out|refine ya ?_ mo.out)|exact HB.out)⟩
        ·rw [if_neg vI] at H;exact absurd H (by simp)
       ·rw [if_neg EA] at H;exact absurd H (by simp)
      ·rw [if_neg BF] at H;have VD:decide (Oc < (za.length:Int))=false:=decide_eq_false BF;clear BF;obtain rfl:=Option.some.inj H;go_wp2;go_ret;exact ⟨eaf,aaf⟩
def Ek.f (a0:Int) (a1:Int) (a2:Int):Option (Bool):=if a0 ≥ a1 then (some (decide (a0 ≤ a2))) else (some false)
theorem Ek.calls (a0:Int) (a1:Int) (a2:Int) (r:Bool) (w:World) (h:Ek.f a0 a1 a2=some r) :
  Calls Try.prog 81 #[.int .i64 a0,.int .i64 a1,.int .i64 a2] w fun e w'=>e = .returned (.bool r)∧Nb w w':=by
 have H:(if a0 ≥ a1 then (some (decide (a0 ≤ a2))) else (some false))=some r:=h;clear h
 by_cases c4:a0 ≥ a1
 ·rw [if_pos c4] at H;have Yk:decide (a1 ≤ a0)=true:=decide_eq_true c4;clear c4;obtain rfl:=Option.some.inj H;go_enter Try.func81,Try.ntmps81;go_wp2;go_ret;exact ⟨waf,kaf⟩
 ·rw [if_neg c4] at H;have Yk:decide (a1 ≤ a0)=false:=decide_eq_false c4;clear c4;obtain rfl:=Option.some.inj H;go_enter Try.func81,Try.ntmps81;go_wp2;go_ret;exact ⟨waf,kaf⟩
end Go.Proofs.Ytoomcmaifgkkfaa.P
end
section
namespace Go.Proofs.Ytoomcmaifgkkfaa.P
open Go.RowKit Go.Proofs.ua.zb Go.Proofs.ua.Lc Go.Proofs.ua.Pd
set_option linter.unusedVariables false
set_option linter.unusedSimpArgs false
open Classical in
noncomputable def bw (n:Nat) (p:Nat→Prop):Bool:=decide (∀ j,j < n→p j)
open Classical in
theorem GF {n:Nat} {p:Nat→Prop} (h:∀ j,j < n→p j):bw n p=true:=by
 unfold bw;exact decide_eq_true h
open Classical in
theorem aA {n:Nat} {p:Nat→Prop}:bw n p=true ↔ ∀ j,j < n→p j:=by
 unfold bw;exact decide_eq_true_iff
theorem VB {n i:Nat} {p:Nat→Prop} (hi:i < n) (h:¬ p i):bw n p=false:=by
 cases e:bw n p with
 | false=>rfl
 | true=>exact absurd (aA.mp e i hi) h
theorem IP {ρ:Type} {n:Nat} {R e:ρ} (p:Nat→Prop) (f:Nat→Nat→Option ρ) (hend:Ev (f n) R) (hyes:∀ i,i < n→p i→∀ r,Ev (f (i + 1)) r→Ev (f i) r) (hno:∀ i,i < n→¬ p i→Ev (f i) e):Ev (f 0) (bif bw n p then R else e):=by
 have key:∀ d i,i + d=n→(∀ j,j < i→p j)→Ev (f i) (bif bw n p then R else e):=by
  intro d
  induction d with
  | zero =>
   intro i hi h;have:i=n:=by omega
   subst this;rw [GF h];exact hend
  | succ d ih =>
   intro i hi h
   by_cases hp:p i
   ·refine hyes i (by omega) hp _ (ih (i + 1) (by omega) ?_);intro j hj
    by_cases hji:j=i
    ·rw [hji];exact hp
    ·exact h j (by omega)
   ·rw [VB (by omega) hp];exact hno i (by omega) hp
 exact key n 0 (by omega) (fun j hj=>absurd hj (by omega))
theorem JF {α:Type} (l:List α) (z:α) (q:α→Bool):bw l.length (fun j=>q (l.getD j z)=true) = !(l.any fun x=>!q x):=by
 rw [Bool.eq_iff_iff,aA];simp only [Bool.not_eq_true',List.any_eq_false,Bool.not_eq_true',Bool.not_eq_false]
 constructor
 ·intro h x hx;obtain ⟨j,hj,rfl⟩:=List.mem_iff_getElem.mp hx;have:=h j hj;rw [List.getD_eq_getElem?_getD,List.getElem?_eq_getElem hj] at this
  simpa using this
 ·intro h j hj;have:=h l[j] (List.getElem_mem hj);rw [List.getD_eq_getElem?_getD,List.getElem?_eq_getElem hj]
  simpa using this
end Go.Proofs.Ytoomcmaifgkkfaa.P
end
section
namespace Go.Proofs.Ytoomcmaifgkkfaa.P
open Go.RowKit Go.Proofs.ua.zb Go.Proofs.ua.Lc Go.Proofs.ua.Pd
set_option linter.unusedVariables false
set_option linter.unusedSimpArgs false
theorem KG (a b c:Int):Ek.f a b c=some (Ki a b c):=by
 unfold Ek.f Ki
 by_cases h:a ≥ b
 ·rw [if_pos h];have h':b ≤ a:=h;simp [h']
 ·rw [if_neg h];have h':¬ b ≤ a:=h;simp [h']
theorem JP (t:ByteArray):Ev (fun k=>Re.f k ([(⟨#[61,61]⟩:ByteArray),(⟨#[60]⟩:ByteArray),(⟨#[38]⟩:ByteArray),(⟨#[43]⟩:ByteArray),(⟨#[45]⟩:ByteArray),(⟨#[42]⟩:ByteArray)]:List ByteArray) t) (Vm t):=by
 refine ⟨8,fun k hk=>?_⟩;obtain ⟨m,rfl⟩:∃ m,k=m + 8:=⟨k - 8,by omega⟩;unfold Re.f Vm OA;simp only [Re.l0,List.any_cons,List.any_nil]
 by_cases h0:t.toList=[61,61]
 ·simp [Tf,h0]
 by_cases h1:t.toList=[60]
 ·simp [Tf,h1,wrap64]
 by_cases h2:t.toList=[38]
 ·simp [Tf,h2,wrap64]
 by_cases h3:t.toList=[43]
 ·simp [Tf,h3,wrap64]
 by_cases h4:t.toList=[45]
 ·simp [Tf,h4,wrap64]
 by_cases h5:t.toList=[42]
 ·simp [Tf,h5,wrap64]
 simp [Tf,Ne.symm h0,Ne.symm h1,Ne.symm h2,Ne.symm h3,Ne.symm h4,Ne.symm h5,h0,h1,h2,h3,h4,h5,wrap64]
theorem Ju (s d:Int):Ki d 0 (s - 1)=Mj s d:=by
 unfold Ki Mj;rw [Bool.eq_iff_iff];simp;omega
def Rw (D A B C M:Bool) (o d a b n:Int) (t:ByteArray):Bool :=
 if o=0 then D && (a == 0 && b == 0)
 else if o=1 then D && (A && (b == 0 && n == 0))
 else if o=2 then D && (A && (B && (n == 0 && Vm t)))
 else if o=3 then D && M
 else if o=4 then d == 0 && (M && C)
 else if o=5 then D && (a == 0 && (b == 0 && n == 0))
 else if o=6 then d == 0 && (A && (b == 0 && n == 0))
 else false
def yc (l:List Yd):Nat:=(l.map fun x=>x.f0.length).sum
def Pr (l0:List Int) (p v s:Int) (n4:Nat):Bool:=Dp l0 p v && Ki s v 1000 && Ki (n4:Int) 1 300
def eo (l0:List Int) (s:Int) (l4:List Yd) (x:Yd):Bool:=Ti l0.length s l4.length x.f0 x.f1 x.f2 x.f3 x.f4
def Qh (l0:List Int) (p v s:Int) (l4:List Yd):Bool:=Pr l0 p v s l4.length && (!(l4.any fun x=>!eo l0 s l4 x) && decide (yc l4 ≤ 1000))
theorem Wp (l:List Yd) (i:Nat) (h:i < l.length):yc (l.take (i + 1))=yc (l.take i) + l[i].f0.length:=by
 unfold yc;rw [List.take_succ_eq_append_getElem h,List.map_append,List.sum_append];simp
theorem wu (l:List Nat) (i:Nat):(l.take i).sum ≤ l.sum:=by
 conv=>rhs;rw [← List.take_append_drop i l]
 rw [List.sum_append];omega
theorem yp (l:List Yd) (i:Nat):yc (l.take i) ≤ yc l:=by
 unfold yc;rw [List.map_take];exact wu _ _
theorem oF {l0:List Int} {p v s:Int} {n4:Nat} (h:Pr l0 p v s n4=true):1 ≤ l0.length∧l0.length ≤ 4∧0 ≤ p∧p ≤ v∧p ≤ 6∧v ≤ 20∧v ≤ s∧s ≤ 1000∧1 ≤ n4∧n4 ≤ 300:=by
 unfold Pr Dp Ki at h;simp only [Bool.and_eq_true,decide_eq_true_eq] at h;obtain ⟨⟨⟨⟨⟨⟨h1,h2⟩,_⟩,h3,h4⟩,h5⟩,h6,h7⟩,h8,h9⟩:=h
 split at h4 <;> omega
section
variable {l0:List Int} {p v s:Int} {l4:List Yd}
theorem Uu (h0:l0.length ≤ 1048576) (Q8:l4.length ≤ 1048576) (ht:yc l4 ≤ 1048576):Ev (fun k=>Rb.f k l0 p v s l4) (Qh l0 p v s l4):=by
 unfold Rb.f bf.f;simp only [List.length_nil,if_true];refine Ev.val ?_
 have no:∀ {r:Bool},r=false→Ev (fun k=>Rb.j0 k true l0 p v s l4) r:=by
  intro r hr;subst hr;exact Ev.step (fun k=>by rw [Rb.j0]) (Ev.pos rfl (Ev.now _))
 unfold Qh Pr;cases hp:Dp l0 p v with
 | false=>exact Ev.neg (by simp) (no (by simp))
 | true =>
  refine Ev.pos rfl (Ev.bind (Ev.here (Uy _ _ _)) ?_);cases hv:Ki s v 1000 with
  | false=>exact Ev.neg (by simp) (no (by simp))
  | true =>
   refine Ev.pos rfl (Ev.bind (Ev.here (Uy _ _ _)) ?_);cases hn:Ki (l4.length:Int) 1 300 with
   | false=>exact no (by simp)
   | true =>
    refine Ev.step (fun k=>by rw [Rb.j0]) (Ev.neg (by simp) ?_);simp only [Bool.true_and];have key:=IP (n:=l4.length) (R:=decide (yc l4 ≤ 1000)) (e:=false) (fun i=>eo l0 s l4 (l4.getD i gy)=true) (fun i k=>Rb.l0 k (yc (l4.take i):Int) l4 (l4.length:Int) (i:Int) l0 p v s l4) ?_ ?_ ?_
    ·have e:(bif bw l4.length (fun i=>eo l0 s l4 (l4.getD i gy)=true) then decide (yc l4 ≤ 1000) else false)=(!(l4.any fun x=>!eo l0 s l4 x) && decide (yc l4 ≤ 1000)):=by
      rw [JF];cases (!(l4.any fun x=>!eo l0 s l4 x)) <;> rfl
     rw [e] at key
     simpa [yc] using key
    ·refine Ev.step (fun k=>by rw [Rb.l0]) (Ev.neg (by omega) ?_);rw [List.take_length]
     have e:decide ((yc l4:Int) ≤ 1000)=decide (yc l4 ≤ 1000):=by
      rw [Bool.eq_iff_iff,decide_eq_true_iff,decide_eq_true_iff];omega
     rw [e];exact Ev.now _
    ·intro i hi hq r hr;refine Ev.step (fun k=>by rw [Rb.l0]) (Ev.pos (by omega) (Ev.pos (by omega) (Ev.pos (by omega) ?_)));unfold Vg.f;have hq':Ti l0.length s l4.length (Ga l4 (i:Int)).f0 (Ga l4 (i:Int)).f1 (Ga l4 (i:Int)).f2 (Ga l4 (i:Int)).f3 (Ga l4 (i:Int)).f4=true:=hq;refine Ev.val (Ev.pos hq' ?_);have h1:=Wp l4 i hi;have h2:=yp l4 (i + 1);rw [Zo hi,lf hi (by omega),Wf (x:=(yc (l4.take i):Int) + (l4[i].f0.length:Int)) (by omega) (by omega),show (yc (l4.take i):Int) + (l4[i].f0.length:Int)=(yc (l4.take (i + 1)):Int) from by omega];exact hr
    ·intro i hi hq;refine Ev.step (fun k=>by rw [Rb.l0]) (Ev.pos (by omega) (Ev.pos (by omega) (Ev.pos (by omega) ?_)));unfold Vg.f;exact Ev.val (Ev.neg hq (Ev.now _))
end
end Go.Proofs.Ytoomcmaifgkkfaa.P
end
section
namespace Go.Proofs.Ytoomcmaifgkkfaa.P
open Go.RowKit Go.Proofs.ua.zb Go.Proofs.ua.Lc Go.Proofs.ua.Pd
set_option linter.unusedVariables false
set_option linter.unusedSimpArgs false
theorem Gh {l:List Int} {j:Nat} (hj:j < l.length):rd l (j:Int)=l[j]:=by simp [rd,List.getD_eq_getElem?_getD,hj]
def Rv (b:Yd):List Int:=if b.f1=0 then [b.f3] else if b.f1=1 then [b.f3,b.f4] else []
theorem Dr (b:Yd):xe.f b.f0 b.f1 b.f2 b.f3 b.f4=some (Rv b):=by
 unfold xe.f Rv
 by_cases h0:b.f1=0
 ·rw [if_pos h0,if_pos h0]
 ·rw [if_neg h0,if_neg h0]
  by_cases h1:b.f1=1
  ·rw [if_pos h1,if_pos h1]
  ·rw [if_neg h1,if_neg h1]
theorem Cr (b:Yd):Ye.f b.f0 b.f1 b.f2 b.f3 b.f4=some (Rv b):=by
 unfold Ye.f Rv
 by_cases h0:b.f1=0
 ·rw [if_pos h0,if_pos h0]
 ·rw [if_neg h0,if_neg h0]
  by_cases h1:b.f1=1
  ·rw [if_pos h1,if_pos h1]
  ·rw [if_neg h1,if_neg h1]
theorem Jj (b:Yd):(Rv b).length ≤ 2:=by
 unfold Rv
 by_cases h0:b.f1=0
 ·rw [if_pos h0];simp
 ·rw [if_neg h0]
  by_cases h1:b.f1=1
  ·rw [if_pos h1];simp
  ·rw [if_neg h1];simp
def Oe (bs:List Yd) (i:Nat):List Int:=Rv (Ga bs (i:Int))
def Vd (bs:List Yd):Prop:=0 < bs.length∧bs.length ≤ 1048576∧∀ i,i < bs.length→∀ j ∈ Oe bs i,0 ≤ j∧j < (bs.length:Int)
theorem Gm {l0:List Int} {p v s:Int} {bs:List Yd} (h:Qh l0 p v s bs=true):Vd bs:=by
 unfold Qh at h;simp only [Bool.and_eq_true] at h;obtain ⟨h1,h2,-⟩:=h;have hh:=oF h1;refine ⟨by omega,by omega,fun i hi j hj=>?_⟩
 have hb:eo l0 s bs bs[i]=true:=by
  simp only [Bool.not_eq_true',List.any_eq_false] at h2;have:=h2 _ (List.getElem_mem hi)
  simpa using this
 unfold eo Ti at hb;simp only [Bool.and_eq_true] at hb;obtain ⟨-,hb⟩:=hb;unfold Oe at hj;rw [Zo hi] at hj;unfold Rv at hj
 by_cases h0:bs[i].f1=0
 ·rw [if_pos h0] at hj hb;simp only [Bool.and_eq_true,Ki,decide_eq_true_eq] at hb;rw [List.mem_singleton] at hj;subst hj;omega
 ·rw [if_neg h0] at hj hb
  by_cases h1:bs[i].f1=1
  ·rw [if_pos h1] at hj hb;simp only [Bool.and_eq_true,Ki,decide_eq_true_eq] at hb;simp only [List.mem_cons,List.not_mem_nil,or_false] at hj
   rcases hj with hj|hj <;> subst hj <;> omega
  ·rw [if_neg h1] at hj;cases hj
attribute [local go_sem] Hg Fg Nh Mh cg bg Gg Eg
def Na.l0:Nat→List Int→Int→Int→Option (List Int)
 | 0,_,_,_=>none
 | k + 1,x0,x2,x3=>if x2 < x3 then (if 0 ≤ x3 then (if x3 < (x0.length:Int) then (if 0 ≤ x2 then (if x2 < (x0.length:Int) then (Na.l0 k ((x0.set (x2:Int).toNat (rd x0 x3)).set (x3:Int).toNat (rd x0 x2)) (wrap64 (x2 + 1)) (wrap64 (x3 - 1))) else (none)) else (none)) else (none)) else (none)) else (some x0)
def Na.f (k:Nat) (l0:List Int):Option (List Int):=Na.l0 k l0 0 (wrap64 ((l0.length:Int) - 1))
theorem Na.En:∀ k,(∀ y0 y1 y2,Bg (Na.l0 k y0 y1 y2) (Na.l0 (k + 1) y0 y1 y2))
 | 0=>fun _ _ _ r h=>by simp [Na.l0] at h
 | k + 1=>by
  have Vy:=Na.En k
  ·intro y0 y1 y2;unfold Na.l0
   repeat' first
   | (with_reducible exact Vy _ _ _)
   | (with_reducible exact Bg.refl _)
   | (with_reducible exact Bg.none _)
   | (with_reducible refine Bg.ite ?_ ?_)
   | (with_reducible refine Bg.bind ?_ (fun _=>?_))
   | exact Vy _ _ _
   | exact Bg.none _
   | refine Bg.ite ?_ ?_
   | refine Bg.bind ?_ (fun _=>?_)
theorem Na.mono:∀ a0 k,Bg (Na.f k a0) (Na.f (k + 1) a0):=by
 intro a0 k;have Vy:=Na.En k;unfold Na.f
 repeat' first
   | (with_reducible exact Vy _ _ _)
   | (with_reducible exact Bg.refl _)
   | (with_reducible exact Bg.none _)
   | (with_reducible refine Bg.ite ?_ ?_)
   | (with_reducible refine Bg.bind ?_ (fun _=>?_))
   | exact Vy _ _ _
   | exact Bg.none _
   | refine Bg.ite ?_ ?_
   | refine Bg.bind ?_ (fun _=>?_)
def Na.T3:Bool × List (List Nat × List Nat):=(true,[([],[]),([],[]),([],[]),([],[]),([],[]),([],[]),([4,5],[4,5]),([6],[6]),([],[]),([],[]),([8,9],[8,9]),([10],[10]),([0,1,0,1,4,5,6,7,11],[0,1]),([12,7,0,1,4,5,6,7,11],[7,12]),([2,3,0,1,2,3,4,5,6,7,8,9,10,11,12,13],[2,3]),([14,11,13,0,1,2,3,4,5,6,7,8,9,10,11,12,13],[11,14])])
def Na.B3:List Nat:=[0,0,0,0,0,0,48,112,0,0,768,1792,4083,8179,16383,32767]
theorem Na.jZ:Ik .any (opsOf Try.f107 3)=Na.T3:=by kernel_rfl
theorem Na.bU:Yl Na.T3.2 Na.B3=true:=by kernel_rfl
theorem Na.calls (k:Nat) (nh:Nat→Prop) (Sd:Value) (l0:List Int) (r:List Int) (w0 w:World) (hB:Below w0.heap.size w0 w) (uh:Kd.R (Kd.int .i64) 3 w w0.heap.size nh Sd l0) (h:Na.f k l0=some r) :
  Calls Try.prog 107 #[Sd] w fun e w'=>e = .returned (.tuple #[])∧Kd.R (Kd.int .i64) 3 w' w0.heap.size (fun k_=>(nh k_ ∨ w.heap.size ≤ k_)) Sd r∧Below w0.heap.size w0 w'∧Kept w w' (fun k_=>nh k_):=by
 have BR:=aa.mk (show Kd.R (Kd.int .i64) 3 w w0.heap.size (fun k_=>(nh k_ ∨ w.heap.size ≤ k_)) Sd l0 from Kd.Db uh (fun k_ hk=>(.inl hk)));have HK:=aa.mk (Kept.refl w (fun k_=>nh k_));have D5:=aa.mk hB.size;have HB:=aa.mk hB;clear hB;have H:(Na.l0 k l0 0 (wrap64 ((l0.length:Int) - 1)))=some r:=h;clear h;have H':=aa.mk H;clear H;obtain ⟨Ao2,co2,eo2⟩:=Kd.ic BR.out;subst eo2;go_enter Try.func107,Try.ntmps107;go_wp2
 go_loopg [2,3] k (fun kq v2 v3 w'=>∃ (Ec:List Int) (yj:Int) (jc:Int),v2 = .int .i64 yj∧v3 = .int .i64 jc∧aa (Na.l0 kq Ec yj jc=some r)∧aa (kq ≤ k)∧aa (Kd.R (Kd.int .i64) 3 w' w0.heap.size (fun k_=>(nh k_ ∨ w.heap.size ≤ k_)) (.slice Ao2 l0.length co2) Ec)∧aa (Kept w w' (fun k_=>nh k_))∧aa (Below w0.heap.size w0 w'))
 case atStart=>exact ⟨(l0),(0),(wrap64 ((l0.length:Int) - 1)),daf,daf,H',⟨Nat.le_refl _⟩,⟨by (with_reducible repeat (first|apply Kd.Ka|apply Kd.La|apply Kd.Sa));exact BR.out⟩,⟨saf⟩,⟨caf⟩⟩
 case round =>
  clear H'
  try clear c1
  try clear p2
  (try clear HA);(try clear Gf);(try clear ud);(try clear HK);(try clear HB);obtain ⟨Ec,yj,jc,rfl,rfl,HA,Gf,ud,HK,HB⟩:=hrel;have iz:=(Kd.Wa ud.out).1;rw [iz] at ud;(try simp only [iz]);cases gk with
  | zero=>exact absurd HA.out (by simp [Na.l0])
  | succ k1 =>
   have H:=HA.out;clear HA;simp only [Na.l0] at H
   by_cases c3:yj < jc
   ·rw [if_pos c3] at H;have Yg:decide (yj < jc)=true:=decide_eq_true c3;clear c3
    by_cases c4:0 ≤ jc
    ·rw [if_pos c4] at H;have Yk:decide (0 ≤ jc)=true:=decide_eq_true c4;clear c4
     by_cases c5:jc < (Ec.length:Int)
     ·rw [if_pos c5] at H;have Yq:decide (jc < (Ec.length:Int))=true:=decide_eq_true c5;clear c5
      by_cases c6:0 ≤ yj
      ·rw [if_pos c6] at H;have Xq:decide (0 ≤ yj)=true:=decide_eq_true c6;clear c6
       by_cases c7:yj < (Ec.length:Int)
       ·rw [if_pos c7] at H;have Zr:decide (yj < (Ec.length:Int))=true:=decide_eq_true c7;clear c7;obtain ⟨Qe,Tn⟩:∃ y_:List Int,y_=(Ec.set (yj:Int).toNat (rd Ec jc)):=⟨_,rfl⟩;replace H:(Na.l0 k1 (Qe.set (jc:Int).toNat (rd Ec yj)) (wrap64 (yj + 1)) (wrap64 (jc - 1)))=some r:=by first|(rw [Tn];with_reducible exact H)|(have Mc:=(Option.bind_some _ _).symm.trans H;rw [Tn];with_reducible exact Mc)|(have Mc:=(Option.bind_some _ _).symm.trans H;with_reducible exact Mc)|with_reducible exact H|(rw [Tn];exact H)|exact H
        have WI:=aa.mk Tn;clear Tn;obtain ⟨qe,Ij⟩:∃ y_:List Int,y_=(Qe.set (jc:Int).toNat (rd Ec yj)):=⟨_,rfl⟩;replace H:(Na.l0 k1 qe (wrap64 (yj + 1)) (wrap64 (jc - 1)))=some r:=by first|(rw [Ij];with_reducible exact H)|(have Mc:=(Option.bind_some _ _).symm.trans H;rw [Ij];with_reducible exact Mc)|(have Mc:=(Option.bind_some _ _).symm.trans H;with_reducible exact Mc)|with_reducible exact H|(rw [Ij];exact H)|exact H
        have oA:=aa.mk Ij;clear Ij;have H':=aa.mk H;clear H
        try go_wp2
        have Kb:=aa.mk (Kd.Sa ud.out);have Ob:=aa.mk (Kept.drew HK.out);have fc:=aa.mk (ja HB.out);clear ud HK HB;have ud:=Kb;have HK:=Ob;have HB:=fc;clear Kb Ob fc;have Pf:0 ≤ (jc:Int):=Ia;have Nf:jc < (Ec.length:Int):=Ia;obtain ⟨Rl,bk,gf⟩:=Kd.Ud (Kd.Wa ud.out).2.2 jc Pf Nf;cases bk;replace Pf:=eq_true Pf;replace Nf:=eq_true Nf;have Du:0 ≤ (yj:Int):=Ia;have Bu:yj < (Ec.length:Int):=Ia;obtain ⟨GI,iI,uq⟩:=Kd.Ud (Kd.Wa ud.out).2.2 yj Du Bu;obtain rfl:Rl=GI:=(by injection iI);replace Du:=eq_true Du;replace Bu:=eq_true Bu;have p8:0 ≤ (yj:Int):=Ia;have q8:(yj:Int) < ((Ec.length:Int):Int):=Ia;obtain ⟨ZX,co8,x_,u_,gl8,cl8,LJ⟩:=Kd.Uh ud.out (by omega);(first|cases x_|(injection x_ with qi Dt Et;(first|subst qi|(injection qi with qi;subst qi));subst Et;clear Dt));have GB8:=aa.mk u_;have GG8:=aa.mk LJ;clear u_ gl8 LJ;have sN:=aa.mk (show (nh ZX ∨ w.heap.size ≤ ZX) from (ud.out.1 _ rfl));(first|simp only [add_plain] at gf|skip);(first|simp only [add_plain] at uq|skip);obtain ⟨WL,oM⟩:=Kd.Yf 0 ud.out (yj:Int) p8 q8;replace p8:=eq_true p8;replace q8:=eq_true q8;have iC:=Kd.PI ud.out (yj:Int) (rd Ec jc);rw [← WI.out] at iC;have ay:=aa.mk iC;clear iC;have p9:0 ≤ (jc:Int):=Ia;have q9:(jc:Int) < ((Ec.length:Int):Int):=Ia;obtain ⟨MG,oH⟩:=Kd.Yf 0 ay.out (jc:Int) p9 q9;replace p9:=eq_true p9;replace q9:=eq_true q9;have Av:=Kd.PI ay.out (jc:Int) (rd Ec yj);rw [← oA.out] at Av;have bV:=aa.mk Av;clear Av;refine Pj (n:=16) (S:=fun w'=>w'.cell? ⟨ZX,(jc).toNat,none⟩=some (.int .i64 (rd Ec jc))∧w'.cell? ⟨ZX,(yj).toNat,none⟩=some (.int .i64 (rd Ec yj))) (ds:=[13,15]) #[false,false,false,false,false,false,false,false,false,false,false,false,false,false,false,false] (by kernel_rfl) rfl rfl ⟨gf,uq⟩ (fun hHeld=>?_);refine ir Na.jZ Na.bU (fun Qm KJ=>?_);generalize wr.drew=Gt at ud HK HB GG8 ay bV oM oH gf uq WL MG hHeld ⊢;refine Dc (i:=0) (N:=some 14) (v:=?_) (a':=?_) #[true,false,false,false,false,false,false,false,false,false,false,false,false,false,false,false] rfl rfl (sg Qm.out (by kernel_rfl)) (fun _ _ _ h=>h) (Or.inl ⟨by rfl,?_⟩) ?_ ?_;rotate_left
        ·exact Rae
        rotate_left
        ·exact Qae
        refine Dc (i:=1) (N:=some 15) (v:=?_) (a':=?_) #[true,true,false,false,false,false,false,false,false,false,false,false,false,false,false,false] rfl rfl (sg Qm.out (by kernel_rfl)) (fun _ _ _ h=>h) (Or.inl ⟨by rfl,?_⟩) ?_ ?_;rotate_left
        ·exact Rae
        rotate_left
        ·exact Qae
        refine Dc (i:=2) (N:=some 16) (v:=?_) (a':=?_) #[true,true,true,false,false,false,false,false,false,false,false,false,false,false,false,false] rfl rfl (sg Qm.out (by kernel_rfl)) (fun _ _ _ h=>h) (Or.inl ⟨by rfl,?_⟩) ?_ ?_;rotate_left
        ·exact Rae
        rotate_left
        ·exact Qae
        refine Dc (i:=3) (N:=some 17) (v:=?_) (a':=?_) #[true,true,true,true,false,false,false,false,false,false,false,false,false,false,false,false] rfl rfl (sg Qm.out (by kernel_rfl)) (fun _ _ _ h=>h) (Or.inl ⟨by rfl,?_⟩) ?_ ?_;rotate_left
        ·exact Rae
        rotate_left
        ·exact Qae
        refine Dc (i:=4) (N:=some 18) (v:=?_) (a':=?_) #[true,true,true,true,true,false,false,false,false,false,false,false,false,false,false,false] rfl rfl (sg Qm.out (by kernel_rfl)) (fun _ _ _ h=>h) (Or.inl ⟨by rfl,?_⟩) ?_ ?_;rotate_left
        ·exact Rae
        rotate_left
        ·exact Qae
        refine Dc (i:=5) (N:=some 19) (v:=?_) (a':=?_) #[true,true,true,true,true,true,false,false,false,false,false,false,false,false,false,false] rfl rfl (sg Qm.out (by kernel_rfl)) (fun _ _ _ h=>h) (Or.inl ⟨by rfl,?_⟩) ?_ ?_;rotate_left
        ·exact Rae
        rotate_left
        ·exact Qae
        refine Dc (i:=6) (N:=some 20) (v:=?_) (a':=?_) #[true,true,true,true,true,true,true,false,false,false,false,false,false,false,false,false] rfl rfl (sg Qm.out (by kernel_rfl)) (fun _ _ _ h=>h) (Or.inl ⟨by rfl,?_⟩) ?_ ?_;rotate_left
        ·exact Rae
        rotate_left
        ·exact Qae
        refine Dc (i:=8) (N:=some 22) (v:=?_) (a':=?_) #[true,true,true,true,true,true,true,false,true,false,false,false,false,false,false,false] rfl rfl (sg Qm.out (by kernel_rfl)) (fun _ _ _ h=>h) (Or.inl ⟨by rfl,?_⟩) ?_ ?_;rotate_left
        ·exact Rae
        rotate_left
        ·exact Qae
        refine Dc (i:=9) (N:=some 23) (v:=?_) (a':=?_) #[true,true,true,true,true,true,true,false,true,true,false,false,false,false,false,false] rfl rfl (sg Qm.out (by kernel_rfl)) (fun _ _ _ h=>h) (Or.inl ⟨by rfl,?_⟩) ?_ ?_;rotate_left
        ·exact Rae
        rotate_left
        ·exact Qae
        refine Dc (i:=10) (N:=some 24) (v:=?_) (a':=?_) #[true,true,true,true,true,true,true,false,true,true,true,false,false,false,false,false] rfl rfl (sg Qm.out (by kernel_rfl)) (fun _ _ _ h=>h) (Or.inl ⟨by rfl,?_⟩) ?_ ?_;rotate_left
        ·exact Rae
        rotate_left
        ·exact Qae
        refine ah (i:=7) (N:=some 21) (v:=?_) (a':=?_) #[true,true,true,true,true,true,true,true,true,true,true,false,false,false,false,false] rfl rfl (Aj Qm.out KJ.out (by kernel_rfl)) (fun _ _ _ h=>h) (Or.inl ⟨by rfl,?_⟩) hHeld ?_ ?_;rotate_left
        ·rintro w' ⟨s0,s1⟩;go_simp;with_reducible rfl
        rotate_left
        ·exact Qae
        refine ah (i:=11) (N:=some 25) (v:=?_) (a':=?_) #[true,true,true,true,true,true,true,true,true,true,true,true,false,false,false,false] rfl rfl (Aj Qm.out KJ.out (by kernel_rfl)) (fun _ _ _ h=>h) (Or.inl ⟨by rfl,?_⟩) hHeld ?_ ?_;rotate_left
        ·rintro w' ⟨s0,s1⟩;go_simp;with_reducible rfl
        rotate_left
        ·exact Qae
        refine Dc (i:=12) (N:=some 26) (v:=?_) (a':=?_) #[true,true,true,true,true,true,true,true,true,true,true,true,true,false,false,false] rfl rfl (sg Qm.out (by kernel_rfl)) (fun _ _ _ h=>h) (Or.inl ⟨by rfl,?_⟩) ?_ ?_;rotate_left
        ·exact Rae
        rotate_left
        ·exact Qae
        refine Ts (i:=13) (N:=none) #[true,true,true,true,true,true,true,true,true,true,true,true,true,true,false,false] rfl rfl (Lw Qm.out (by kernel_rfl)) (by decide) (fun K hK=>?_);refine eG (w1:=?_) (by rfl) rfl ?_ ?_;rotate_left
        ·go_simp
         rfl
        refine hK.out _ _ ?_;clear hK K;refine Dc (i:=14) (N:=some 27) (v:=?_) (a':=?_) #[true,true,true,true,true,true,true,true,true,true,true,true,true,true,true,false] rfl rfl (sg Qm.out (by kernel_rfl)) (fun _ _ _ h=>h) (Or.inl ⟨by rfl,?_⟩) ?_ ?_;rotate_left
        ·exact Rae
        rotate_left
        ·exact Qae
        refine Ts (i:=15) (N:=none) #[true,true,true,true,true,true,true,true,true,true,true,true,true,true,true,true] rfl rfl (Lw Qm.out (by kernel_rfl)) (by decide) (fun K hK=>?_);refine eG (w1:=?_) (by rfl) rfl ?_ ?_;rotate_left
        ·go_simp
         rfl
        refine hK.out _ _ ?_;clear hK K;refine Ym (Fx Qm.out (by kernel_rfl)) ?_
        try go_wp2
        (try simp only [← iz])
        go_roundg k1
        case measure=>have:=Gf.out;omega
        case rel=>exact ⟨(qe),(wrap64 (yj + 1)),(wrap64 (jc - 1)),daf,daf,H',⟨by have:=Gf.out;omega⟩,⟨by (try simp only [iz]);(with_reducible repeat (first|apply Kd.Ka|apply Kd.La|apply Kd.Sa));exact bV.out⟩,⟨by repeat (first|(with_reducible first|exact HK.out|apply Kept.alloc|apply Kept.drewN|apply Kept.drew|refine Kept.setCell ?_ sN.out _|refine Kept.setCell ?_ sN.out _)|exact HK.out)⟩,⟨by repeat (first|(with_reducible first|exact HB.out|apply ia|apply ga|apply ja|refine ya ?_ GB8.out|refine ya ?_ GB8.out)|exact HB.out)⟩⟩
       ·rw [if_neg c7] at H;exact absurd H (by simp)
      ·rw [if_neg c6] at H;exact absurd H (by simp)
     ·rw [if_neg c5] at H;exact absurd H (by simp)
    ·rw [if_neg c4] at H;exact absurd H (by simp)
   ·rw [if_neg c3] at H;have Yg:decide (yj < jc)=false:=decide_eq_false c3;clear c3;obtain rfl:=Option.some.inj H;go_wp2
    first|go_end0|((try simp only [Exit.inBlock,Exit.then]);refine bodyPost_ret (results_none rfl _ _ _) rfl ?_)
    exact ⟨eaf,(by first|exact taf|(simp only [iz];exact taf)),caf,saf⟩
end Go.Proofs.Ytoomcmaifgkkfaa.P
end
