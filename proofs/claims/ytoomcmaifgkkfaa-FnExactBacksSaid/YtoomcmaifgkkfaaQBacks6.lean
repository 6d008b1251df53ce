import Derived.Test.YtoomcmaifgkkfaaQBacks1
import Derived.Test.YtoomcmaifgkkfaaQBacks5
set_option maxHeartbeats 8000000
set_option maxRecDepth 100000
namespace Go.Proofs.Ytoomcmaifgkkfaa.P
open Go.RowKit Go.Proofs.ua.zb Go.Proofs.ua.Lc Go.Proofs.ua.Pd
attribute [local go_sem] Hg Fg Nh Mh cg bg Gg Eg
set_option linter.unusedVariables false
set_option linter.unusedSimpArgs false
mutual
noncomputable def xb.l0:Nat→List Int→List Int→List Int→List Int→Int→Int→Int→List (Yd)→Option (List Int)
 | 0,_,_,_,_,_,_,_,_=>none
 | k + 1,x3,x4,x5,Cd,Bd,Ad,yd,Yb=>if (x5.length:Int) > 0 then (if 0 < (x5.length:Int) then (if 0 ≤ (rd x5 0) then (if (rd x5 0) < (Yb.length:Int) then ((Ye.f ((Ga Yb (rd x5 0)).f0) ((Ga Yb (rd x5 0)).f1) ((Ga Yb (rd x5 0)).f2) ((Ga Yb (rd x5 0)).f3) ((Ga Yb (rd x5 0)).f4)).bind fun t115=>(if 1 ≤ (x5.length:Int) then (xb.l1 k x3 x4 (x5.drop (1:Int).toNat) t115 0 Cd Bd Ad yd Yb) else (none))) else (none)) else (none)) else (none)) else (xb.l2 k x3 x4 0)
noncomputable def xb.l1:Nat→List Int→List Int→List Int→List Int→Int→List Int→Int→Int→Int→List (Yd)→Option (List Int)
 | 0,_,_,_,_,_,_,_,_,_,_=>none
 | k + 1,x3,x4,x5,x6,x7,Cd,Bd,Ad,yd,Yb=>if x7 < (x6.length:Int) then (if 0 ≤ x7 then (if 0 ≤ (rd x6 x7) then (if (rd x6 x7) < (x4.length:Int) then (if (rd x4 (rd x6 x7))=0 then (if x5.length < 17592186044416 then (xb.l1 k x3 (x4.set ((rd x6 x7):Int).toNat 1) (x5 ++ [rd x6 x7]) x6 (wrap64 (x7 + 1)) Cd Bd Ad yd Yb) else (none)) else (xb.l1 k x3 x4 x5 x6 (wrap64 (x7 + 1)) Cd Bd Ad yd Yb)) else (none)) else (none)) else (none)) else (xb.l0 k x3 x4 x5 Cd Bd Ad yd Yb)
noncomputable def xb.l2:Nat→List Int→List Int→Int→Option (List Int)
 | 0,_,_,_=>none
 | k + 1,x3,x4,x8=>if x8 < (x4.length:Int) then (if 0 ≤ x8 then (if (rd x4 x8)=1 then (if x3.length < 17592186044416 then (xb.l2 k (x3 ++ [x8]) x4 (wrap64 (x8 + 1))) else (none)) else (xb.l2 k x3 x4 (wrap64 (x8 + 1)))) else (none)) else (some x3)
end
noncomputable def xb.f (k:Nat) (Ma:List Int) (Pa:Int) (Qa:Int) (Oa:Int) (za:List (Yd)):Option (List Int):=(some (([]:List Int):List Int)).bind fun Dd=>((Ae.f k Ma Pa Qa Oa za).bind fun t105=>(if t105=true then ((uc.f k (za.length:Int)).bind fun t106=>(if 0 < (t106.length:Int) then (xb.l0 k Dd (t106.set (0:Int).toNat 1) (([0]:List Int)) Ma Pa Qa Oa za) else (none))) else (some Dd)))
def xb.T8:Bool × List (List Nat × List Nat):=(true,[([],[]),([0],[0]),([],[]),([2],[2]),([3],[3]),([1,4],[1,4]),([5],[5]),([6],[6]),([7,7,0,1,2,3,4,5,6,7],[7])])
def xb.B8:List Nat:=[0,1,0,4,12,31,63,127,255]
theorem xb.gZ:Ik .any (opsOf Try.f68 8)=xb.T8:=by kernel_rfl
theorem xb.ZT:Yl xb.T8.2 xb.B8=true:=by kernel_rfl
theorem xb.calls (k:Nat) (Bb:Option Addr) (Ab:Nat) (Ma:List Int) (Pa:Int) (Qa:Int) (Oa:Int) (Qb:Option Addr) (Gb:Nat) (za:List (Yd)) (r:List Int) (w:World) (od:Kd.C (Kd.int .i64) w Bb Ma.length Ma) (Nd:Ma.length ≤ Ab) (ze:Kd.C Jl w Qb za.length za) (Ve:za.length ≤ Gb) (h:xb.f k Ma Pa Qa Oa za=some r) :
  Calls Try.prog 68 #[.agg #[.slice Bb Ma.length Ab,.int .i64 Pa,.int .i64 Qa,.int .i64 Oa,.slice Qb za.length Gb]] w fun e w'=>∃ zj:Value,e = .returned (zj)∧Kd.R (Kd.int .i64) 3 w' w.heap.size (fun _=>True) zj r∧Below w.heap.size w w':=by
 have WG:=Try.underlying45;have mB:=Try.underlying83;have Qg:=aa.mk od;have Sg:=aa.mk Nd;clear od Nd;have Ei:=aa.mk ze;have Uk:=aa.mk Ve;clear ze Ve;have HB:=aa.mk (Below.refl w.heap.size w);have H:((some (([]:List Int):List Int)).bind fun Dd=>((Ae.f k Ma Pa Qa Oa za).bind fun t105=>(if t105=true then ((uc.f k (za.length:Int)).bind fun t106=>(if 0 < (t106.length:Int) then (xb.l0 k Dd (t106.set (0:Int).toNat 1) (([0]:List Int)) Ma Pa Qa Oa za) else (none))) else (some Dd))))=some r:=h;clear h;obtain ⟨Dd,Ue⟩:∃ y_:List Int,y_=(([]:List Int)):=⟨_,rfl⟩;replace H:((Ae.f k Ma Pa Qa Oa za).bind fun t105=>(if t105=true then ((uc.f k (za.length:Int)).bind fun t106=>(if 0 < (t106.length:Int) then (xb.l0 k Dd (t106.set (0:Int).toNat 1) (([0]:List Int)) Ma Pa Qa Oa za) else (none))) else (some Dd)))=some r:=by first|(rw [Ue];with_reducible exact H)|(have Mc:=(Option.bind_some _ _).symm.trans H;rw [Ue];with_reducible exact Mc)|(have Mc:=(Option.bind_some _ _).symm.trans H;with_reducible exact Mc)|with_reducible exact H|(rw [Ue];exact H)|exact H
 have ji:=aa.mk Ue;clear Ue;replace H:=Option.bind_eq_some_iff.mp H;obtain ⟨t105,tJ,H⟩:=H
 try dsimp only at H
 have A2:=aa.mk tJ;clear tJ
 by_cases c3:t105=true
 ·subst c3;rw [if_pos rfl] at H;replace H:=Option.bind_eq_some_iff.mp H;obtain ⟨t106,DN,H⟩:=H
  try dsimp only at H
  have A4:=aa.mk DN;clear DN
  by_cases c5:0 < (t106.length:Int)
  ·rw [if_pos c5] at H;have Yq:decide (0 < (t106.length:Int))=true:=decide_eq_true c5;have oI:decide (0 < t106.length)=true:=decide_eq_true (by omega);clear c5;obtain ⟨ry,Sn⟩:∃ y_:List Int,y_=(t106.set (0:Int).toNat 1):=⟨_,rfl⟩;replace H:(xb.l0 k Dd ry (([0]:List Int)) Ma Pa Qa Oa za)=some r:=by first|(rw [Sn];with_reducible exact H)|(have Mc:=(Option.bind_some _ _).symm.trans H;rw [Sn];with_reducible exact Mc)|(have Mc:=(Option.bind_some _ _).symm.trans H;with_reducible exact Mc)|with_reducible exact H|(rw [Sn];exact H)|exact H
   have VI:=aa.mk Sn;clear Sn;obtain ⟨aG,Rn⟩:∃ y_:List Int,y_=(([0]:List Int)):=⟨_,rfl⟩;replace H:(xb.l0 k Dd ry aG Ma Pa Qa Oa za)=some r:=by first|(rw [Rn];with_reducible exact H)|(have Mc:=(Option.bind_some _ _).symm.trans H;rw [Rn];with_reducible exact Mc)|(have Mc:=(Option.bind_some _ _).symm.trans H;with_reducible exact Mc)|with_reducible exact H|(rw [Rn];exact H)|exact H
   have nA:=aa.mk Rn;clear Rn;have H':=aa.mk H;clear H;go_enter Try.func68,Try.ntmps68;go_wp2_with (first|((with_reducible refine Lb (N:=1) rfl ?_);refine Jc ?hg (N:=1) ?hd (cs:=#[.slice Bb Ma.length Ab,.int .i64 Pa,.int .i64 Qa,.int .i64 Oa,.slice Qb za.length Gb]) (t:=45) ?hr ?_;(case hd|hg=>rfl);(case hr=>exact Vae);intro Ja hg w7 qd hb;have Kb:=aa.mk (Fa Yae hb);have Ob:=aa.mk (qd);have fc:=aa.mk ((by rw [hg];exact (Ra Yae):w.heap.size ≤ Ja));have Sc:=aa.mk ((by rw [hg];exact (Ra Yae):w.heap.size ≤ Ja));clear HB;have HB:=Kb;have ta:=Ob;have Af:=fc;have mb:=Sc;clear Kb Ob fc Sc hb qd hg)|((with_reducible refine Lb (N:=9) rfl ?_);refine Kd.jk (Kd.int .i64) _ 3 ?hg (N:=9) ?hd (xs:=([]:List Int)) (inner:=[]) (ok:=fun _=>True) (Ag:=fun _=>True) ?hr ?hp (fun _ hk=>hk) trivial (Below.refl _ _) (Nat.le_refl _) (by simp) ?_;(case hd|hg=>rfl);(case hr=>exact Vae);(case hp=>exact (Fc.none _ _));intro Ng w8 aH hb Hl Je;clear Hl Je;(first|rw [← ji.out] at aH|(simp only [Int.reduceToNat] at aH;rw [← ji.out] at aH));have Kb:=aa.mk (Kd.Xc aH (Ra Xae));have Ob:=aa.mk (Ua (g:=Ja) (o:=.cells #[.slice Bb Ma.length Ab,.int .i64 Pa,.int .i64 Qa,.int .i64 Oa,.slice Qb za.length Gb] 45 (0,0)) Zae hb);have fc:=aa.mk (Fa Xae hb);clear ta HB;have Pe:=Kb;have ta:=Ob;have HB:=fc;clear Kb Ob fc hb aH;have Nq:w8.cell? ⟨Ja,0,none⟩=some (.slice Bb Ma.length Ab):=(qa ta.out 0).trans rfl;have Mq:w8.cell? ⟨Ja,1,none⟩=some (.int .i64 Pa):=(qa ta.out 1).trans rfl;have Kq:w8.cell? ⟨Ja,2,none⟩=some (.int .i64 Qa):=(qa ta.out 2).trans rfl;have Jq:w8.cell? ⟨Ja,3,none⟩=some (.int .i64 Oa):=(qa ta.out 3).trans rfl;have Iq:w8.cell? ⟨Ja,4,none⟩=some (.slice Qb za.length Gb):=(qa ta.out 4).trans rfl;have Hq:=Aa ta.out 0;have Gq:=Aa ta.out 1;have Fq:=Aa ta.out 2;have Dq:=Aa ta.out 3;have Cq:=Aa ta.out 4)|((with_reducible refine Sb (f:=66) rfl ?_);refine Ke (some 11) rfl rfl Try.func66 (by kernel_rfl) rfl #[.agg #[.slice Bb Ma.length Ab,.int .i64 Pa,.int .i64 Qa,.int .i64 Oa,.slice Qb za.length Gb]] rfl baf ?_;(with_reducible refine (Ae.calls k _ _ Ma Pa Qa Oa _ _ za true _ ?Gd ?Ed ?Cj ?Bj A2.out).mono ?_);(case Gd=>repeat (first|exact (Kd.yb Qg.out HB.out)|(with_reducible refine Kd.ee ?_ _)|(with_reducible refine Kd.Zd ?_ _)|(with_reducible refine Kd.We ?_)));(case Ed=>exact Sg.out);(case Cj=>repeat (first|exact (Kd.yb Ei.out HB.out)|(with_reducible refine Kd.ee ?_ _)|(with_reducible refine Kd.Zd ?_ _)|(with_reducible refine Kd.We ?_)));(case Bj=>exact Uk.out);rintro e cl ⟨rfl,hb⟩;refine ⟨_,rfl,?_⟩;have Kb:=aa.mk (Kd.Xb raf hb);have Ob:=aa.mk (Ua (g:=Ja) (o:=.cells #[.slice Bb Ma.length Ab,.int .i64 Pa,.int .i64 Qa,.int .i64 Oa,.slice Qb za.length Gb] 45 (0,0)) Zae hb);have fc:=aa.mk (Fa Xae hb);clear Pe ta HB;have Pe:=Kb;have ta:=Ob;have HB:=fc;clear Kb Ob fc;(try clear hb);(try clear Vk);(try clear hk);(try clear hi);have Fm:cl.cell? ⟨Ja,0,none⟩=some (.slice Bb Ma.length Ab):=(qa ta.out 0).trans rfl;have Em:cl.cell? ⟨Ja,1,none⟩=some (.int .i64 Pa):=(qa ta.out 1).trans rfl;have Dm:cl.cell? ⟨Ja,2,none⟩=some (.int .i64 Qa):=(qa ta.out 2).trans rfl;have Cm:cl.cell? ⟨Ja,3,none⟩=some (.int .i64 Oa):=(qa ta.out 3).trans rfl;have Bm:cl.cell? ⟨Ja,4,none⟩=some (.slice Qb za.length Gb):=(qa ta.out 4).trans rfl;have Am:=Aa ta.out 0;have zm:=Aa ta.out 1;have ym:=Aa ta.out 2;have xm:=Aa ta.out 3;have wm:=Aa ta.out 4)|((with_reducible refine Sb (f:=90) rfl ?_);refine Ke (some 17) rfl rfl Try.func90 (by kernel_rfl) rfl #[.int .i64 (za.length:Int)] rfl baf ?_;(with_reducible refine (uc.calls k (za.length:Int) t106 _ A4.out).mono ?_);rintro e iy ⟨v107,rfl,uh,hb⟩;refine ⟨_,rfl,?_⟩;have Kb:=aa.mk (Kd.mh raf (Kd.ug uh) hb);have Ob:=aa.mk (Kd.Xc (Kd.Wi uh (Kd.ek raf)) (Ra Xae));have fc:=aa.mk (Ua (g:=Ja) (o:=.cells #[.slice Bb Ma.length Ab,.int .i64 Pa,.int .i64 Qa,.int .i64 Oa,.slice Qb za.length Gb] 45 (0,0)) Zae hb);have Sc:=aa.mk (Fa Xae hb);clear Pe ta HB;have Pe:=Kb;have Sk:=Ob;have ta:=fc;have HB:=Sc;clear Kb Ob fc Sc;(try clear hb);(try clear Vk);(try clear hk);(try clear hi);(try clear uh);have p6:0 ≤ (0:Int):=(by omega);have q6:(0:Int) < ((t106.length:Int):Int):=Ia;have lZ:(0 < t106.length)=True:=eq_true (by omega);obtain ⟨Wn,Uq,dY,w_,gl6,cl6,yV⟩:=Kd.Uh Sk.out (by omega);(first|cases dY|(injection dY with qi Dt Et;(first|subst qi|(injection qi with qi;subst qi));subst Et;clear Dt));have GB6:=aa.mk w_;have GG6:=aa.mk yV;clear w_ gl6 yV;obtain ⟨ow,pH⟩:=Kd.Yf 0 Sk.out (0:Int) p6 q6;(try rw [show ((0:Int)).toNat=0 from rfl] at ow);(try simp only [Nat.reduceMul,Nat.zero_mul,Nat.zero_add,Nat.reduceAdd] at ow);(try rw [show ((0:Int)).toNat=0 from rfl] at pH);(try simp only [Nat.reduceMul,Nat.zero_mul,Nat.zero_add,Nat.reduceAdd] at pH);replace p6:=eq_true p6;replace q6:=eq_true q6;have n_:=aa.mk (Kd.Db (Wk:=(fun k_=>some k_ ≠ (Ng:Value).ownBlock)) Sk.out (fun k_ hk=>hk.2));clear Sk;have Sk:=n_;clear n_;obtain ⟨VL,UL⟩:=Kd.Yf 0 Sk.out (0:Int) (by omega) (Ia);(try simp only [Int.reduceToNat,Int.toNat_zero,Int.toNat_ofNat,Nat.reduceMul,Nat.zero_mul,Nat.zero_add] at VL UL);(try rw [show ((0:Int)).toNat=0 from rfl] at VL);(try rw [show ((0:Int)).toNat=0 from rfl] at UL);have fC:=Kd.kj Sk.out (0:Int) 1)|((with_reducible refine Od (t:=3) (p:=19) rfl ?_);refine Uc (t:=3) (p:=19) (v:=?GN) (w1:=(iy.setCell ⟨Wn,(0:Int).toNat,none⟩ (.int .i64 1))) ?hg ?ho ?hn ?hr ?_;(case ho=>rfl);(case hg=>rfl);(case hn=>rfl);(case hr=>exact Vae);intro Zl hw;have hg:iy.grownBy Zl (some Wn):=(by rw [hw];exact fC.2);have Si:Kd.R (Kd.int .i64) 3 Zl w.heap.size (fun k_=>some k_ ≠ (Ng:Value).ownBlock) (.slice (some ⟨Wn,0,none⟩) t106.length Uq) ry:=(by rw [hw,VI.out];exact fC.1);clear fC;have Kb:=aa.mk (yf (g:=Ja) (o:=.cells #[.slice Bb Ma.length Ab,.int .i64 Pa,.int .i64 Qa,.int .i64 Oa,.slice Qb za.length Gb] 45 (0,0)) Zae hg (Kd.Pp Sk.out ta.out (by decide)));have Ob:=aa.mk (Kd.kg (v:=(.slice (some ⟨Wn,0,none⟩) t106.length Uq)) (v1:=(.slice (some ⟨Wn,0,none⟩) t106.length Uq)) (ok:=(fun _=>True)) raf hg (.inl rfl));have fc:=aa.mk (Si);have Sc:=aa.mk ((by rw [hw];exact ya (HB.out) GB6.out:Below w.heap.size w Zl));clear ta Pe Sk HB;have ta:=Kb;have Pe:=Ob;have Sk:=fc;have HB:=Sc;clear Kb Ob fc Sc hg hw Si)|((with_reducible refine Lb (N:=20) rfl ?_);refine Kd.jk (Kd.int .i64) _ 3 ?hg (N:=20) ?hd (xs:=([0]:List Int)) (inner:=[.int .i64 0]) (ok:=fun _=>True) (Ag:=fun _=>True) ?hr ?hp (fun _ hk=>hk) trivial (Below.refl _ _) (Nat.le_refl _) (by simp) ?_;(case hd|hg=>rfl);(case hr=>exact Vae);(case hp=>exact (Fc.one (show Kd.M (Kd.int .i64) _ _ _ 0 [.int .i64 0] from rfl) (Fc.none _ _)));intro fZ NY oB hb Hl Je;clear Hl Je;(first|rw [← nA.out] at oB|(simp only [Int.reduceToNat] at oB;rw [← nA.out] at oB));have Kb:=aa.mk (Kd.mh raf (Kd.ug oB) hb);have Ob:=aa.mk (Kd.mh (by (with_reducible repeat (first|apply Kd.Ka|apply Kd.La|apply Kd.Sa));exact Sk.out) (Kd.ug oB) hb);have fc:=aa.mk (Kd.Xc (Kd.Wi (Kd.Wi oB (Kd.ek raf)) (Kd.ek (by (with_reducible repeat (first|apply Kd.Ka|apply Kd.La|apply Kd.Sa));exact Sk.out))) (Ra Xae));have Sc:=aa.mk (Ua (g:=Ja) (o:=.cells #[.slice Bb Ma.length Ab,.int .i64 Pa,.int .i64 Qa,.int .i64 Oa,.slice Qb za.length Gb] 45 (0,0)) Zae hb);have uf:=aa.mk (Fa Xae hb);clear Pe Sk ta HB;have Pe:=Kb;have Sk:=Ob;have iJ:=fc;have ta:=Sc;have HB:=uf;clear Kb Ob fc Sc uf hb oB))
   go_loopg [5] k (fun kq v5 w'=>∃ (Cb:List Int) (Ba:List Int),aa (xb.l0 kq Dd Cb Ba Ma Pa Qa Oa za=some r)∧aa (kq ≤ k)∧aa (Kd.R (Kd.int .i64) 3 w' w.heap.size (fun k_=>some k_ ≠ ((.slice (some ⟨Wn,0,none⟩) t106.length Uq):Value).ownBlock∧some k_ ≠ (v5:Value).ownBlock) Ng Dd)∧aa (Kd.R (Kd.int .i64) 3 w' w.heap.size (fun k_=>some k_ ≠ (Ng:Value).ownBlock∧some k_ ≠ (v5:Value).ownBlock) (.slice (some ⟨Wn,0,none⟩) t106.length Uq) Cb)∧aa (Kd.Q (Kd.int .i64) 3 w' w.heap.size (fun k_=>some k_ ≠ (Ng:Value).ownBlock∧some k_ ≠ ((.slice (some ⟨Wn,0,none⟩) t106.length Uq):Value).ownBlock) v5 Ba)∧aa (w'.heap[Ja]? = some (.cells #[(.slice Bb Ma.length Ab),.int .i64 Pa,.int .i64 Qa,.int .i64 Oa,(.slice Qb za.length Gb)] 45 (0,0)))∧aa (Below w.heap.size w w'))
   case atStart=>exact ⟨(ry),(aG),H',⟨Nat.le_refl _⟩,⟨by (with_reducible repeat (first|apply Kd.Ka|apply Kd.La|apply Kd.Sa));exact Kd.Db Pe.out (fun _ hk=>⟨hk.1.2,hk.2⟩)⟩,⟨by (with_reducible repeat (first|apply Kd.Ka|apply Kd.La|apply Kd.Sa));exact Sk.out⟩,⟨Kd.YB (by (with_reducible repeat (first|apply Kd.Ka|apply Kd.La|apply Kd.Sa));exact Kd.Db iJ.out (fun _ hk=>⟨hk.1.2,hk.2⟩))⟩,⟨faf⟩,⟨aaf⟩⟩
   case round =>
    clear H'
    try clear p2
    try clear c3
    try clear c5
    try clear Yq
    try clear oI
    try clear c6
    try clear p6
    try clear q6
    try clear Tw
    try clear lZ
    try clear M9
    try clear c9
    try clear Nq
    try clear Mq
    try clear Kq
    try clear Jq
    try clear Iq
    try clear Fm
    try clear Em
    try clear Dm
    try clear Cm
    try clear Bm
    try clear Hq
    try clear Gq
    try clear Fq
    try clear Dq
    try clear Cq
    try clear Am
    try clear zm
    try clear ym
    try clear xm
    try clear wm
    try clear ow
    try clear p6
    try clear q6
    (try clear HA);(try clear Gf);(try clear Ub);(try clear Cc);(try clear Df);(try clear ta);(try clear HB);obtain ⟨Cb,Ba,HA,Gf,Ub,Cc,Df,ta,HB⟩:=hrel;have Jf:=(Kd.Wa Cc.out).1;rw [Jf] at Cc;(try simp only [Jf]);(try simp only [Jf] at ta);(try simp only [Jf] at Ub);(try simp only [Jf] at Df);cases gk with
    | zero=>exact absurd HA.out (by simp [xb.l0])
    | succ k1 =>
     have H:=HA.out;clear HA;simp only [xb.l0] at H
     by_cases vw:(Ba.length:Int) > 0
     ·rw [if_pos vw] at H;have uw:decide (0 < (Ba.length:Int))=true:=decide_eq_true vw;have Yz:decide (0 < Ba.length)=true:=decide_eq_true (by omega);clear vw
      by_cases BF:0 < (Ba.length:Int)
      ·rw [if_pos BF] at H;have VD:decide (0 < (Ba.length:Int))=true:=decide_eq_true BF;have GM:decide (0 < Ba.length)=true:=decide_eq_true (by omega);clear BF
       by_cases EA:0 ≤ (rd Ba 0)
       ·rw [if_pos EA] at H;have wI:decide (0 ≤ (rd Ba 0))=true:=decide_eq_true EA;clear EA
        by_cases vI:(rd Ba 0) < (za.length:Int)
        ·rw [if_pos vI] at H;have uI:decide ((rd Ba 0) < (za.length:Int))=true:=decide_eq_true vI;clear vI;replace H:=Option.bind_eq_some_iff.mp H;obtain ⟨t115,sJ,H⟩:=H
         try dsimp only at H
         have EN:=aa.mk sJ;clear sJ
         by_cases js:1 ≤ (Ba.length:Int)
         ·rw [if_pos js] at H;have av:=eq_true js;have Wz:decide (1 ≤ (Ba.length:Int))=true:=decide_eq_true js;clear js;obtain ⟨Tp,Pn⟩:∃ y_:List Int,y_=(Ba.drop (1:Int).toNat):=⟨_,rfl⟩;replace H:(xb.l1 k1 Dd Cb Tp t115 0 Ma Pa Qa Oa za)=some r:=by first|(rw [Pn];with_reducible exact H)|(have Mc:=(Option.bind_some _ _).symm.trans H;rw [Pn];with_reducible exact Mc)|(have Mc:=(Option.bind_some _ _).symm.trans H;with_reducible exact Mc)|with_reducible exact H|(rw [Pn];exact H)|exact H
          have cE:=aa.mk Pn;clear Pn;have H':=aa.mk H;clear H;obtain ⟨Had,kI,PK,_⟩:=Kd.br Df.out;subst PK
          try go_wp2
          have Kb:=aa.mk (Kd.Sa Ub.out);have Ob:=aa.mk (Kd.Sa Cc.out);have fc:=aa.mk (Kd.Lg Df.out);have Sc:=aa.mk (Ea ta.out);have uf:=aa.mk (ja HB.out);clear Ub Cc Df ta HB;have Ub:=Kb;have Cc:=Ob;have Df:=fc;have ta:=Sc;have HB:=uf;clear Kb Ob fc Sc uf;have pG:0 ≤ (0:Int):=(by omega);have lG:0 < (Ba.length:Int):=Ia;obtain ⟨Bw,M4,Ho⟩:=Kd.Ud (Kd.uv Df.out).2.2 0 pG lG;cases M4;have R6:(0 < Ba.length)=True:=eq_true (by omega);(try rw [show ((0:Int)).toNat=0 from rfl] at Ho);(try rw [Addr.add_zero'] at Ho);replace pG:=eq_true pG;replace lG:=eq_true lG;have Bn:0 ≤ ((rd Ba 0):Int):=Ia;have vn:(rd Ba 0) < (za.length:Int):=Ia;obtain ⟨Th,uJ,yI,JB,sk,Fo,Eo,Co,Bo,QC,VC⟩:=Nk Ei.out (rd Ba 0) Bn vn;have IC:=Bo;have JC:=Co;have KC:=Eo;have LC:=Fo;have MC:=sk;cases JB;replace sk:=Jb HB.out sk;replace Fo:=Jb HB.out Fo;replace Eo:=Jb HB.out Eo;replace Co:=Jb HB.out Co;replace Bo:=Jb HB.out Bo;have kE:=aa.mk VC;have DL:=aa.mk QC;clear VC QC;replace Bn:=eq_true Bn;replace vn:=eq_true vn;refine Pj (n:=9) (S:=fun w'=>w'.cell? ⟨Ja,0,none⟩=some (.slice Bb Ma.length Ab)∧w'.cell? ⟨Ja,1,none⟩=some (.int .i64 Pa)∧w'.cell? ⟨Ja,2,none⟩=some (.int .i64 Qa)∧w'.cell? ⟨Ja,3,none⟩=some (.int .i64 Oa)∧w'.cell? ⟨Ja,4,none⟩=some (.slice (some Th) za.length Gb)∧w'.cell? Bw=some (.int .i64 (rd Ba 0))∧w'.cell? (Th.add (((rd Ba 0)).toNat * 5))=some (.slice uJ ((Ga za (rd Ba 0)).f0).length yI)∧w'.cell? ⟨(Th.add (((rd Ba 0)).toNat * 5)).block,(Th.add (((rd Ba 0)).toNat * 5)).off + 1,none⟩=some (.int .i64 ((Ga za (rd Ba 0)).f1))∧w'.cell? ⟨(Th.add (((rd Ba 0)).toNat * 5)).block,(Th.add (((rd Ba 0)).toNat * 5)).off + 2,none⟩=some (.int .i64 ((Ga za (rd Ba 0)).f2))∧w'.cell? ⟨(Th.add (((rd Ba 0)).toNat * 5)).block,(Th.add (((rd Ba 0)).toNat * 5)).off + 3,none⟩=some (.int .i64 ((Ga za (rd Ba 0)).f3))∧w'.cell? ⟨(Th.add (((rd Ba 0)).toNat * 5)).block,(Th.add (((rd Ba 0)).toNat * 5)).off + 4,none⟩=some (.int .i64 ((Ga za (rd Ba 0)).f4))) (ds:=[]) #[false,false,false,false,false,false,false,false,false] (by kernel_rfl) rfl rfl ⟨(qa ta.out 0).trans rfl,(qa ta.out 1).trans rfl,(qa ta.out 2).trans rfl,(qa ta.out 3).trans rfl,(qa ta.out 4).trans rfl,Ho,(Jb HB.out MC),(Jb HB.out LC),(Jb HB.out KC),(Jb HB.out JC),(Jb HB.out IC)⟩ (fun hHeld=>?_);refine ir xb.gZ xb.ZT (fun Qm KJ=>?_);generalize wr.drew=bW at Ub Cc Df ta HB kE Ho sk Fo Eo Co Bo hHeld ⊢;refine Dc (i:=0) (N:=some 24) (v:=?_) (a':=?_) #[true,false,false,false,false,false,false,false,false] rfl rfl (sg Qm.out (by kernel_rfl)) (fun _ _ _ h=>h) (Or.inl ⟨by rfl,?_⟩) ?_ ?_;rotate_left
          ·exact Rae
          rotate_left
          ·exact Qae
          refine Dc (i:=2) (N:=some 26) (v:=?_) (a':=?_) #[true,false,true,false,false,false,false,false,false] rfl rfl (sg Qm.out (by kernel_rfl)) (fun _ _ _ h=>h) (Or.inl ⟨by rfl,?_⟩) ?_ ?_;rotate_left
          ·exact Rae
          rotate_left
          ·exact Qae
          refine Dc (i:=3) (N:=some 27) (v:=?_) (a':=?_) #[true,false,true,true,false,false,false,false,false] rfl rfl (sg Qm.out (by kernel_rfl)) (fun _ _ _ h=>h) (Or.inl ⟨by rfl,?_⟩) ?_ ?_;rotate_left
          ·exact Rae
          rotate_left
          ·exact Qae
          refine ah (i:=1) (N:=some 25) (v:=?_) (a':=?_) #[true,true,true,true,false,false,false,false,false] rfl rfl (Aj Qm.out KJ.out (by kernel_rfl)) (fun _ _ _ h=>h) (Or.inl ⟨by rfl,?_⟩) hHeld ?_ ?_;rotate_left
          ·exact Tae
          rotate_left
          ·exact Qae
          refine ah (i:=4) (N:=some 28) (v:=?_) (a':=?_) #[true,true,true,true,true,false,false,false,false] rfl rfl (Aj Qm.out KJ.out (by kernel_rfl)) (fun _ _ _ h=>h) (Or.inl ⟨by rfl,?_⟩) hHeld ?_ ?_;rotate_left
          ·exact Tae
          rotate_left
          ·exact Qae
          refine Dc (i:=5) (N:=some 29) (v:=?_) (a':=?_) #[true,true,true,true,true,true,false,false,false] rfl rfl (sg Qm.out (by kernel_rfl)) (fun _ _ _ h=>h) (Or.inl ⟨by rfl,?_⟩) ?_ ?_;rotate_left
          ·exact Rae
          rotate_left
          ·exact Qae
          refine ah (i:=6) (N:=some 30) (v:=?_) (a':=?_) #[true,true,true,true,true,true,true,false,false] rfl rfl (Aj Qm.out KJ.out (by kernel_rfl)) (fun _ _ _ h=>h) (Or.inl ⟨by rfl,?_⟩) hHeld ?_ ?_;rotate_left
          ·exact Tae
          rotate_left
          ·exact Qae
          refine dn (i:=7) (N:=some 31) #[true,true,true,true,true,true,true,true,false] rfl rfl (Lw Qm.out (by kernel_rfl)) (by decide) (fun K hK=>?_);refine Oq Try.func85 (by kernel_rfl) rfl #[.agg #[.slice uJ ((Ga za (rd Ba 0)).f0).length yI,.int .i64 ((Ga za (rd Ba 0)).f1),.int .i64 ((Ga za (rd Ba 0)).f2),.int .i64 ((Ga za (rd Ba 0)).f3),.int .i64 ((Ga za (rd Ba 0)).f4)]] (by rfl) rfl rfl baf ?_;with_reducible refine (Ye.calls _ _ ((Ga za (rd Ba 0)).f0) ((Ga za (rd Ba 0)).f1) ((Ga za (rd Ba 0)).f2) ((Ga za (rd Ba 0)).f3) ((Ga za (rd Ba 0)).f4) t115 _ ?Gd ?Ed EN.out).mono ?_
          (case Gd=>repeat (first|exact (Kd.yb kE.out HB.out)|(with_reducible refine Kd.ee ?_ _)|(with_reducible refine Kd.Zd ?_ _)|(with_reducible refine Kd.We ?_)))
          (case Ed=>exact DL.out)
          rintro e ew ⟨xy,rfl,uh,hb⟩;have DQ:=(hb.cell (World.block_lt_of_cell? _ _ (hHeld.2.2.2.2.2.1))).trans (hHeld.2.2.2.2.2.1);refine ⟨_,rfl,?_⟩;have Kb:=aa.mk (Kd.mh iaf (Kd.ug uh) hb);have Ob:=aa.mk (Kd.mh gaf (Kd.ug uh) hb);have fc:=aa.mk (Kd.iA (by (with_reducible repeat (first|apply Kd.mg|apply Kd.lg|apply Kd.Lg));exact Df.out) (Kd.ug uh) hb);have Sc:=aa.mk (Kd.Xc (Kd.Wi (Kd.Wi (Kd.Wi uh (Kd.ek iaf)) (Kd.ek gaf)) (Kd.tU (by (with_reducible repeat (first|apply Kd.mg|apply Kd.lg|apply Kd.Lg));exact Df.out))) (Ra Xae));have uf:=aa.mk (Ua (g:=Ja) (o:=.cells #[.slice Bb Ma.length Ab,.int .i64 Pa,.int .i64 Qa,.int .i64 Oa,.slice (some Th) za.length Gb] 45 (0,0)) Zae hb);have qh:=aa.mk (Fa Xae hb);clear Ub Cc Df ta HB;have Ub:=Kb;have Cc:=Ob;have Df:=fc;have pE:=Sc;have ta:=uf;have HB:=qh;clear Kb Ob fc Sc uf qh;(try clear hb);(try clear Vk);(try clear hk);(try clear hi);(try clear uh);refine hK.out _ _ ⟨(qa ta.out 0).trans rfl,(qa ta.out 1).trans rfl,(qa ta.out 2).trans rfl,(qa ta.out 3).trans rfl,(qa ta.out 4).trans rfl,DQ,(Jb HB.out MC),(Jb HB.out LC),(Jb HB.out KC),(Jb HB.out JC),(Jb HB.out IC)⟩ (fun hHeld=>?_);clear hK K;refine Ze (a':=?_) ?_ ?_;rotate_left
          ·show Act.put _ (some 31) _=_
           exact Qae
          refine Dc (i:=8) (N:=some 6) (v:=?_) (a':=?_) #[true,true,true,true,true,true,true,true,true] rfl rfl (sg Qm.out (by kernel_rfl)) (fun _ _ _ h=>h) (Or.inl ⟨by rfl,?_⟩) ?_ ?_;rotate_left
          ·exact Rae
          rotate_left
          ·exact Qae
          refine Ym (Fx Qm.out (by kernel_rfl)) ?_;have n_:=aa.mk (Kd.Pm (Wk:=(fun k_=>some k_ ≠ (Ng:Value).ownBlock∧some k_ ≠ (.slice (some ⟨Wn,0,none⟩) Cb.length Uq:Value).ownBlock∧some k_ ≠ (xy:Value).ownBlock)) Df.out (fun k_ hk=>⟨hk.1.1,⟨hk.1.2,hk.2⟩⟩));clear Df;have Df:=n_;clear n_;have WN:(1:Int) ≤ ((Ba.length:Int):Int):=Ia;obtain ⟨lab,fM,_,YL,_⟩:=info_parts info3;have AP:=Xu (P:=Try.prog) 22 3 .i64 Try.underlying22 fM 1 YL (some Bw) Ba.length kI 1 (by omega) WN;have ZG:=Kd.RI (k:=(1:Int).toNat) Df.out (by omega);obtain ⟨mR,LK⟩:∃ A1,A1=(if kI=(1:Int).toNat then (some Bw) else ((some Bw):Option Addr).map (·.add ((1:Int).toNat * 1))):=⟨_,rfl⟩;obtain ⟨SF,CP⟩:∃ c1,c1=kI - (1:Int).toNat:=⟨_,rfl⟩;have nO:Tp.length=Ba.length - (1:Int).toNat:=(by rw [cE.out,List.length_drop]);rw [← cE.out] at ZG;rw [← nO,← LK,← CP] at AP;replace ZG:Kd.Q (Kd.int .i64) 3 ew w.heap.size (fun k_=>some k_ ≠ (Ng:Value).ownBlock∧some k_ ≠ (.slice (some ⟨Wn,0,none⟩) Cb.length Uq:Value).ownBlock∧some k_ ≠ (xy:Value).ownBlock) (.slice mR Tp.length SF) Tp:=(by rw [LK,CP,nO];exact ZG);have iR:aa ((Value.slice mR Tp.length SF).ownBlock=(.slice (some Bw) Ba.length kI:Value).ownBlock):=⟨by rw [LK];split <;> (cases ((some Bw):Option Addr) <;> rfl)⟩;clear nO fM YL Df LK CP;have mV:=aa.mk ZG;clear ZG;replace WN:=eq_true WN;have n_:=aa.mk (Kd.Db (Wk:=fun k_=>((some k_ ≠ (.slice (some ⟨Wn,0,none⟩) Cb.length Uq:Value).ownBlock∧some k_ ≠ (.slice mR Tp.length SF:Value).ownBlock)∧some k_ ≠ (xy:Value).ownBlock)) Ub.out (fun k_ hk=>⟨⟨hk.1.1,(by rw [iR.out];exact hk.1.2)⟩,hk.2⟩));clear Ub;have Ub:=n_;clear n_;have n_:=aa.mk (Kd.Db (Wk:=fun k_=>((some k_ ≠ (Ng:Value).ownBlock∧some k_ ≠ (.slice mR Tp.length SF:Value).ownBlock)∧some k_ ≠ (xy:Value).ownBlock)) Cc.out (fun k_ hk=>⟨⟨hk.1.1,(by rw [iR.out];exact hk.1.2)⟩,hk.2⟩));clear Cc;have Cc:=n_;clear n_;have n_:=aa.mk (Kd.Db (Wk:=fun k_=>(((True∧some k_ ≠ (Ng:Value).ownBlock)∧some k_ ≠ (.slice (some ⟨Wn,0,none⟩) Cb.length Uq:Value).ownBlock)∧some k_ ≠ (.slice mR Tp.length SF:Value).ownBlock)) pE.out (fun k_ hk=>⟨⟨⟨trivial,hk.1.1.2⟩,hk.1.2⟩,(by rw [iR.out];exact hk.2)⟩));clear pE;have pE:=n_;clear n_
          try go_wp2
          go_loopg [5,7] k1 (fun kq v5 v7 w'=>∃ (Ie:List Int) (Hv:List Int) (Be:Int),v7 = .int .i64 Be∧aa (xb.l1 kq Dd Ie Hv t115 Be Ma Pa Qa Oa za=some r)∧aa (kq ≤ k1)∧aa (Kd.R (Kd.int .i64) 3 w' w.heap.size (fun k_=>some k_ ≠ ((.slice (some ⟨Wn,0,none⟩) Cb.length Uq):Value).ownBlock∧some k_ ≠ (v5:Value).ownBlock∧some k_ ≠ (xy:Value).ownBlock) Ng Dd)∧aa (Kd.R (Kd.int .i64) 3 w' w.heap.size (fun k_=>some k_ ≠ (Ng:Value).ownBlock∧some k_ ≠ (v5:Value).ownBlock∧some k_ ≠ (xy:Value).ownBlock) (.slice (some ⟨Wn,0,none⟩) Cb.length Uq) Ie)∧aa (Kd.Q (Kd.int .i64) 3 w' w.heap.size (fun k_=>some k_ ≠ (Ng:Value).ownBlock∧some k_ ≠ ((.slice (some ⟨Wn,0,none⟩) Cb.length Uq):Value).ownBlock∧some k_ ≠ (xy:Value).ownBlock) v5 Hv)∧aa (Kd.R (Kd.int .i64) 3 w' w.heap.size (fun k_=>some k_ ≠ (Ng:Value).ownBlock∧some k_ ≠ ((.slice (some ⟨Wn,0,none⟩) Cb.length Uq):Value).ownBlock∧some k_ ≠ (v5:Value).ownBlock) xy t115)∧aa (w'.heap[Ja]? = some (.cells #[(.slice Bb Ma.length Ab),.int .i64 Pa,.int .i64 Qa,.int .i64 Oa,(.slice (some Th) za.length Gb)] 45 (0,0)))∧aa (Below w.heap.size w w'))
          case atStart=>exact ⟨(Cb),(Tp),(0),daf,H',⟨Nat.le_refl _⟩,⟨by (try simp only [Jf]);(with_reducible repeat (first|apply Kd.Ka|apply Kd.La|apply Kd.Sa));exact Kd.Db Ub.out (fun _ hk=>⟨hk.1.1,⟨hk.1.2,hk.2⟩⟩)⟩,⟨by (try simp only [Jf]);(with_reducible repeat (first|apply Kd.Ka|apply Kd.La|apply Kd.Sa));exact Kd.Db Cc.out (fun _ hk=>⟨hk.1.1,⟨hk.1.2,hk.2⟩⟩)⟩,⟨by (try simp only [Jf]);(with_reducible repeat (first|apply Kd.mg|apply Kd.lg|apply Kd.Lg));exact mV.out⟩,⟨by (try simp only [Jf]);(with_reducible repeat (first|apply Kd.Ka|apply Kd.La|apply Kd.Sa));exact Kd.Db pE.out (fun _ hk=>⟨hk.1.1.2,⟨hk.1.2,hk.2⟩⟩)⟩,⟨by (try simp only [Jf]);(with_reducible repeat (first|refine Da ?_ _|refine Ea ?_|refine Ca ?_ _));exact ta.out⟩,⟨aaf⟩⟩
          case round =>
           clear H'
           try clear c1
           try clear p1
           try clear q1
           try clear hx1
           try clear T6
           try clear c2
           try clear p2
           try clear q2
           try clear c3
           try clear c5
           try clear Yq
           try clear oI
           try clear c6
           try clear p6
           try clear q6
           try clear Tw
           try clear lZ
           try clear M9
           try clear c8
           try clear c9
           try clear zI
           try clear U6
           try clear mG
           try clear IZ
           try clear mZ
           try clear vw
           try clear uw
           try clear Yz
           try clear BF
           try clear VD
           try clear GM
           try clear EA
           try clear wI
           try clear vI
           try clear uI
           try clear js
           try clear av
           try clear Wz
           try clear SF
           try clear WN
           try clear Nq
           try clear Mq
           try clear Kq
           try clear Jq
           try clear Iq
           try clear Fm
           try clear Em
           try clear Dm
           try clear Cm
           try clear Bm
           try clear Hq
           try clear Gq
           try clear Fq
           try clear Dq
           try clear Cq
           try clear Am
           try clear zm
           try clear ym
           try clear xm
           try clear wm
           try clear Ho
           try clear sk
           try clear Fo
           try clear Eo
           try clear Co
           try clear Bo
           try clear ow
           try clear pG
           try clear Bn
           try clear p2
           try clear p6
           try clear lG
           try clear vn
           try clear WN
           try clear q6
           (try clear HA);(try clear zk);(try clear Ub);(try clear Cc);(try clear Df);(try clear pn);(try clear ta);(try clear HB);obtain ⟨Ie,Hv,Be,rfl,HA,zk,Ub,Cc,Df,pn,ta,HB⟩:=hrel;have Kh:=(Kd.Wa Cc.out).1;rw [Kh] at Cc;(try simp only [Kh]);(try simp only [Kh] at ta);(try simp only [Kh] at Ub);(try simp only [Kh] at Df);(try simp only [Kh] at pn);cases gk with
           | zero=>exact absurd HA.out (by simp [xb.l1])
           | succ k2 =>
            have H:=HA.out;clear HA;simp only [xb.l1] at H
            by_cases Fv:Be < (t115.length:Int)
            ·rw [if_pos Fv] at H;have Zn:decide (Be < (t115.length:Int))=true:=decide_eq_true Fv;clear Fv
             by_cases FJ:0 ≤ Be
             ·rw [if_pos FJ] at H;have OT:decide (0 ≤ Be)=true:=decide_eq_true FJ;clear FJ
              by_cases EJ:0 ≤ (rd t115 Be)
              ·rw [if_pos EJ] at H;have NT:decide (0 ≤ (rd t115 Be))=true:=decide_eq_true EJ;clear EJ
               by_cases MT:(rd t115 Be) < (Ie.length:Int)
               ·rw [if_pos MT] at H;have KT:decide ((rd t115 Be) < (Ie.length:Int))=true:=decide_eq_true MT;clear MT
                by_cases EM:(rd Ie (rd t115 Be))=0
                ·rw [if_pos EM] at H;have DM:=beq_iff_eq.mpr EM;have CM:=bne_eq_false_iff_eq.mpr EM;clear EM;obtain ⟨qy,Nn⟩:∃ y_:List Int,y_=(Ie.set ((rd t115 Be):Int).toNat 1):=⟨_,rfl⟩;replace H:(if Hv.length < 17592186044416 then (xb.l1 k2 Dd qy (Hv ++ [rd t115 Be]) t115 (wrap64 (Be + 1)) Ma Pa Qa Oa za) else (none))=some r:=by first|(rw [Nn];with_reducible exact H)|(have Mc:=(Option.bind_some _ _).symm.trans H;rw [Nn];with_reducible exact Mc)|(have Mc:=(Option.bind_some _ _).symm.trans H;with_reducible exact Mc)|with_reducible exact H|(rw [Nn];exact H)|exact H
                 have UI:=aa.mk Nn;clear Nn
                 by_cases RF:Hv.length < 17592186044416
                 ·rw [if_pos RF] at H;have EU:=aa.mk RF;clear RF;obtain ⟨YF,Ln⟩:∃ y_:List Int,y_=(Hv ++ [rd t115 Be]):=⟨_,rfl⟩;replace H:(xb.l1 k2 Dd qy YF t115 (wrap64 (Be + 1)) Ma Pa Qa Oa za)=some r:=by first|(rw [Ln];with_reducible exact H)|(have Mc:=(Option.bind_some _ _).symm.trans H;rw [Ln];with_reducible exact Mc)|(have Mc:=(Option.bind_some _ _).symm.trans H;with_reducible exact Mc)|with_reducible exact H|(rw [Ln];exact H)|exact H
                  have SI:=aa.mk Ln;clear Ln;have H':=aa.mk H;clear H;obtain ⟨Bad,uF,V3⟩:=Kd.ic pn.out;subst V3;have Qo:0 ≤ (Be:Int):=Ia;have Po:Be < (t115.length:Int):=Ia;obtain ⟨Ol,EB,ql⟩:=Kd.Ud (Kd.Wa pn.out).2.2 Be Qo Po;cases EB;replace Qo:=eq_true Qo;replace Po:=eq_true Po;have Bt:0 ≤ ((rd t115 Be):Int):=Ia;have yt:(rd t115 Be) < (Ie.length:Int):=Ia;obtain ⟨jv,fI,Li⟩:=Kd.Ud (Kd.Wa Cc.out).2.2 (rd t115 Be) Bt yt;obtain rfl:(⟨Wn,0,none⟩:Addr)=jv:=(by injection fI);(first|simp only [add_plain] at Li|simp only [Lm] at Li|simp only [Addr.add,Nat.zero_add] at Li|skip);replace Bt:=eq_true Bt;replace yt:=eq_true yt;have jK:0 ≤ (Be:Int):=Ia;have cK:Be < (t115.length:Int):=Ia;obtain ⟨eU,J4,vK⟩:=Kd.Ud (Kd.Wa pn.out).2.2 Be jK cK;obtain rfl:Ol=eU:=(by injection J4);replace jK:=eq_true jK;replace cK:=eq_true cK;have XR:0 ≤ ((rd t115 Be):Int):=Ia;have WR:((rd t115 Be):Int) < ((Ie.length:Int):Int):=Ia;obtain ⟨pO,G1⟩:=Kd.Yf 0 Cc.out ((rd t115 Be):Int) XR WR;replace XR:=eq_true XR;replace WR:=eq_true WR;have MQ:=Kd.kj Cc.out ((rd t115 Be):Int) 1;go_wp2_with (first|((with_reducible refine Od (t:=3) (p:=53) rfl ?_);refine Uc (t:=3) (p:=53) (v:=?RY) (w1:=(wr.setCell ⟨Wn,((rd t115 Be):Int).toNat,none⟩ (.int .i64 1))) ?hg ?ho ?hn ?hr ?_;(case ho=>rfl);(case hg=>rfl);(case hn=>rfl);(case hr=>exact Vae);intro NR hw;have hg:wr.grownBy NR (some Wn):=(by rw [hw];exact MQ.2);have Si:Kd.R (Kd.int .i64) 3 NR w.heap.size (fun k_=>some k_ ≠ (Ng:Value).ownBlock∧some k_ ≠ (u5:Value).ownBlock∧some k_ ≠ (.slice (some Ol) t115.length uF:Value).ownBlock) (.slice (some ⟨Wn,0,none⟩) Ie.length Uq) qy:=(by rw [hw,UI.out];exact MQ.1);clear MQ;have Kb:=aa.mk (Kd.kg (v:=(.slice (some ⟨Wn,0,none⟩) Ie.length Uq)) (v1:=(.slice (some ⟨Wn,0,none⟩) Ie.length Uq)) (ok:=(fun k_=>some k_ ≠ (u5:Value).ownBlock∧some k_ ≠ (.slice (some Ol) t115.length uF:Value).ownBlock)) (by (with_reducible repeat (first|apply Kd.Ka|apply Kd.La|apply Kd.Sa));exact Kd.Db Ub.out (fun _ hk=>⟨⟨hk.2.1,hk.2.2⟩,hk.1⟩)) hg (.inl rfl));have Ob:=aa.mk (Si);have fc:=aa.mk (Kd.mL (v:=(.slice (some ⟨Wn,0,none⟩) Ie.length Uq)) (v1:=(.slice (some ⟨Wn,0,none⟩) Ie.length Uq)) (ok:=(fun k_=>some k_ ≠ (Ng:Value).ownBlock∧some k_ ≠ (.slice (some Ol) t115.length uF:Value).ownBlock)) (by (with_reducible repeat (first|apply Kd.mg|apply Kd.lg|apply Kd.Lg));exact Kd.Pm Df.out (fun _ hk=>⟨⟨hk.1,hk.2.2⟩,hk.2.1⟩)) hg (.inl rfl));have Sc:=aa.mk (Kd.kg (v:=(.slice (some ⟨Wn,0,none⟩) Ie.length Uq)) (v1:=(.slice (some ⟨Wn,0,none⟩) Ie.length Uq)) (ok:=(fun k_=>some k_ ≠ (Ng:Value).ownBlock∧some k_ ≠ (u5:Value).ownBlock)) (by (with_reducible repeat (first|apply Kd.Ka|apply Kd.La|apply Kd.Sa));exact Kd.Db pn.out (fun _ hk=>⟨⟨hk.1,hk.2.2⟩,hk.2.1⟩)) hg (.inl rfl));have uf:=aa.mk (yf (g:=Ja) (o:=.cells #[.slice Bb Ma.length Ab,.int .i64 Pa,.int .i64 Qa,.int .i64 Oa,.slice (some Th) za.length Gb] 45 (0,0)) Zae hg (Kd.Pp Cc.out ta.out (by decide)));have qh:=aa.mk ((by rw [hw];exact ya (HB.out) GB6.out:Below w.heap.size w NR));clear Ub Cc Df pn ta HB;have Ub:=Kb;have Cc:=Ob;have Df:=fc;have pn:=Sc;have ta:=uf;have HB:=qh;clear Kb Ob fc Sc uf qh hg hw Si;have iK:0 ≤ (Be:Int):=Ia;have bK:Be < (t115.length:Int):=Ia;obtain ⟨dU,I4,uK⟩:=Kd.Ud (Kd.Wa pn.out).2.2 Be iK bK;obtain rfl:Ol=dU:=(by injection I4);replace iK:=eq_true iK;replace bK:=eq_true bK)|((with_reducible refine Xg (b:=.append) (xs:=#[.tmp 54,.tmp 59]) rfl ?_);at_builtin;refine Kd.jA (Kd.int .i64) (w0:=w) w.heap.size rfl (.tmp 54) (.tmp 59) 22 3 (.int .i64 0) 8 rfl Try.underlying22 info3 rfl (by decide) (by omega) u5 Hv (rd t115 Be) [.int .i64 (rd t115 Be)] (fun k_=>some k_ ≠ (Ng:Value).ownBlock∧some k_ ≠ (.slice (some ⟨Wn,0,none⟩) Ie.length Uq:Value).ownBlock∧some k_ ≠ (.slice (some Ol) t115.length uF:Value).ownBlock) (fun _=>False) rfl rfl ?aP (fun _ hk=>hk.elim) ?aF ?aO ?aB ?aS ?aL ?_;(case aP=>exact rfl);(case aB=>exact Xae);(case aF=>exact (fun k_ hk=>⟨Kd.fresh' (Kd.ek iaf) k_ hk,Kd.fresh' (Kd.ek gaf) k_ hk,Kd.fresh' (Kd.ek (by (with_reducible repeat (first|apply Kd.Ka|apply Kd.La|apply Kd.Sa));exact pn.out)) k_ hk⟩));(case aO=>exact (by (with_reducible repeat (first|apply Kd.mg|apply Kd.lg|apply Kd.Lg));exact Kd.Pm Df.out (fun _ hk=>⟨hk.1.1,⟨hk.2,hk.1.2⟩⟩)));(case aS=>exact (Ra Xae));(case aL=>have:=EU.out;omega);intro v127 w38 ho hb hg hat;rw [← SI.out] at ho;have Kb:=aa.mk (Kd.kg (ok:=(fun k_=>some k_ ≠ (.slice (some ⟨Wn,0,none⟩) Ie.length Uq:Value).ownBlock∧some k_ ≠ (.slice (some Ol) t115.length uF:Value).ownBlock)) (by (with_reducible repeat (first|apply Kd.Ka|apply Kd.La|apply Kd.Sa));exact Kd.Db Ub.out (fun _ hk=>⟨⟨hk.2,hk.1.2⟩,hk.1.1⟩)) hg hat);have Ob:=aa.mk (Kd.kg (ok:=(fun k_=>some k_ ≠ (Ng:Value).ownBlock∧some k_ ≠ (.slice (some Ol) t115.length uF:Value).ownBlock)) (by (with_reducible repeat (first|apply Kd.Ka|apply Kd.La|apply Kd.Sa));exact Kd.Db Cc.out (fun _ hk=>⟨⟨hk.1,hk.2.2⟩,hk.2.1⟩)) hg hat);have fc:=aa.mk (Kd.kg (ok:=(fun k_=>some k_ ≠ (Ng:Value).ownBlock∧some k_ ≠ (.slice (some ⟨Wn,0,none⟩) Ie.length Uq:Value).ownBlock)) (by (with_reducible repeat (first|apply Kd.Ka|apply Kd.La|apply Kd.Sa));exact Kd.Db pn.out (fun _ hk=>⟨⟨hk.1.1,hk.2⟩,hk.1.2⟩)) hg hat);have Sc:=aa.mk (yf (g:=Ja) (o:=.cells #[.slice Bb Ma.length Ab,.int .i64 Pa,.int .i64 Qa,.int .i64 Oa,.slice (some Th) za.length Gb] 45 (0,0)) Zae hg (Kd.sU Df.out ta.out (by decide)));have uf:=aa.mk (hb);have qh:=aa.mk (ho);clear Ub Cc pn ta HB Df;have Ub:=Kb;have Cc:=Ob;have pn:=fc;have ta:=Sc;have HB:=uf;have gJ:=qh;clear Kb Ob fc Sc uf qh ho hb hg hat));(try simp only [← Kh])
                  go_roundg k2
                  case measure=>have:=Gf.out;have:=zk.out;omega
                  case rel=>exact ⟨(qy),(YF),(wrap64 (Be + 1)),daf,H',⟨by have:=Gf.out;have:=zk.out;omega⟩,⟨by (try simp only [Jf]);(try simp only [Kh]);(with_reducible repeat (first|apply Kd.Ka|apply Kd.La|apply Kd.Sa));exact Kd.Db Ub.out (fun _ hk=>⟨hk.1.1,⟨hk.2,hk.1.2⟩⟩)⟩,⟨by (try simp only [Jf]);(try simp only [Kh]);(with_reducible repeat (first|apply Kd.Ka|apply Kd.La|apply Kd.Sa));exact Kd.Db Cc.out (fun _ hk=>⟨hk.1.1,⟨hk.2,hk.1.2⟩⟩)⟩,⟨by (try simp only [Jf]);(try simp only [Kh]);(with_reducible repeat (first|apply Kd.mg|apply Kd.lg|apply Kd.Lg));exact gJ.out⟩,⟨by (try simp only [Jf]);(try simp only [Kh]);(with_reducible repeat (first|apply Kd.Ka|apply Kd.La|apply Kd.Sa));exact Kd.Db pn.out (fun _ hk=>⟨hk.1.1,⟨hk.1.2,hk.2⟩⟩)⟩,⟨by (try simp only [Jf]);(try simp only [Kh]);(with_reducible repeat (first|refine Da ?_ _|refine Ea ?_|refine Ca ?_ _));exact ta.out⟩,⟨aaf⟩⟩
                 ·rw [if_neg RF] at H;exact absurd H (by simp)
                ·rw [if_neg EM] at H;have DM:=beq_eq_false_iff_ne.mpr EM;have CM:=bne_iff_ne.mpr EM;have H':=aa.mk H;clear H;obtain ⟨B6,S4,NP⟩:=Kd.ic pn.out;subst NP;have Qo:0 ≤ (Be:Int):=Ia;have Po:Be < (t115.length:Int):=Ia;obtain ⟨Ol,EB,ql⟩:=Kd.Ud (Kd.Wa pn.out).2.2 Be Qo Po;cases EB;replace Qo:=eq_true Qo;replace Po:=eq_true Po;have Bt:0 ≤ ((rd t115 Be):Int):=Ia;have yt:(rd t115 Be) < (Ie.length:Int):=Ia;obtain ⟨jv,fI,Li⟩:=Kd.Ud (Kd.Wa Cc.out).2.2 (rd t115 Be) Bt yt;obtain rfl:(⟨Wn,0,none⟩:Addr)=jv:=(by injection fI);(first|simp only [add_plain] at Li|simp only [Lm] at Li|simp only [Addr.add,Nat.zero_add] at Li|skip);replace Bt:=eq_true Bt;replace yt:=eq_true yt;go_wp2;(try simp only [← Kh])
                 go_roundg k2
                 case measure=>have:=Gf.out;have:=zk.out;omega
                 case rel=>exact ⟨(Ie),(Hv),(wrap64 (Be + 1)),daf,H',⟨by have:=Gf.out;have:=zk.out;omega⟩,⟨by (try simp only [Jf]);(try simp only [Kh]);(with_reducible repeat (first|apply Kd.Ka|apply Kd.La|apply Kd.Sa));exact Ub.out⟩,⟨by (try simp only [Jf]);(try simp only [Kh]);(with_reducible repeat (first|apply Kd.Ka|apply Kd.La|apply Kd.Sa));exact Cc.out⟩,⟨by (try simp only [Jf]);(try simp only [Kh]);(with_reducible repeat (first|apply Kd.mg|apply Kd.lg|apply Kd.Lg));exact Df.out⟩,⟨by (try simp only [Jf]);(try simp only [Kh]);(with_reducible repeat (first|apply Kd.Ka|apply Kd.La|apply Kd.Sa));exact pn.out⟩,⟨by (try simp only [Jf]);(try simp only [Kh]);(with_reducible repeat (first|refine Da ?_ _|refine Ea ?_|refine Ca ?_ _));exact ta.out⟩,⟨aaf⟩⟩
               ·rw [if_neg MT] at H;exact absurd H (by simp)
              ·rw [if_neg EJ] at H;exact absurd H (by simp)
             ·rw [if_neg FJ] at H;exact absurd H (by simp)
            ·rw [if_neg Fv] at H;have Zn:decide (Be < (t115.length:Int))=false:=decide_eq_false Fv;clear Fv;have H':=aa.mk H;clear H;obtain ⟨Aad,kac,U3⟩:=Kd.ic pn.out;subst U3;go_wp2;(try simp only [← Jf,← Kh])
             go_roundg k2
             case measure=>have:=Gf.out;have:=zk.out;omega
             case rel=>exact ⟨(Ie),(Hv),H',⟨by have:=Gf.out;have:=zk.out;omega⟩,⟨by (try simp only [Jf]);(try simp only [Kh]);(with_reducible repeat (first|apply Kd.Ka|apply Kd.La|apply Kd.Sa));exact Kd.Db Ub.out (fun _ hk=>⟨hk.1,hk.2.1⟩)⟩,⟨by (try simp only [Jf]);(try simp only [Kh]);(with_reducible repeat (first|apply Kd.Ka|apply Kd.La|apply Kd.Sa));exact Kd.Db Cc.out (fun _ hk=>⟨hk.1,hk.2.1⟩)⟩,⟨by (try simp only [Jf]);(try simp only [Kh]);(with_reducible repeat (first|apply Kd.mg|apply Kd.lg|apply Kd.Lg));exact Kd.Pm Df.out (fun _ hk=>⟨hk.1,hk.2.1⟩)⟩,⟨by (try simp only [Jf]);(try simp only [Kh]);(with_reducible repeat (first|refine Da ?_ _|refine Ea ?_|refine Ca ?_ _));exact ta.out⟩,⟨aaf⟩⟩
         ·rw [if_neg js] at H;exact absurd H (by simp)
        ·rw [if_neg vI] at H;exact absurd H (by simp)
       ·rw [if_neg EA] at H;exact absurd H (by simp)
      ·rw [if_neg BF] at H;exact absurd H (by simp)
     ·rw [if_neg vw] at H;have uw:decide (0 < (Ba.length:Int))=false:=decide_eq_false vw;have Yz:decide (0 < Ba.length)=false:=decide_eq_false (by omega);clear vw;have H':=aa.mk H;clear H;obtain ⟨o6,R4,MP,_⟩:=Kd.br Df.out;subst MP;go_wp2
      go_loopg [3,8] k1 (fun kq v3 v8 w'=>∃ (zi:List Int) (Wd:Int),v8 = .int .i64 Wd∧aa (xb.l2 kq zi Cb Wd=some r)∧aa (kq ≤ k1)∧aa (Kd.R (Kd.int .i64) 3 w' w.heap.size (fun k_=>some k_ ≠ ((.slice (some ⟨Wn,0,none⟩) Cb.length Uq):Value).ownBlock) v3 zi)∧aa (Kd.R (Kd.int .i64) 3 w' w.heap.size (fun k_=>some k_ ≠ (v3:Value).ownBlock) (.slice (some ⟨Wn,0,none⟩) Cb.length Uq) Cb)∧aa (w'.heap[Ja]? = some (.cells #[(.slice Bb Ma.length Ab),.int .i64 Pa,.int .i64 Qa,.int .i64 Oa,(.slice Qb za.length Gb)] 45 (0,0)))∧aa (Below w.heap.size w w'))
      case atStart=>exact ⟨(Dd),(0),daf,H',⟨Nat.le_refl _⟩,⟨by (try simp only [Jf]);(with_reducible repeat (first|apply Kd.Ka|apply Kd.La|apply Kd.Sa));exact Kd.Db Ub.out (fun _ hk=>hk.1)⟩,⟨by (try simp only [Jf]);(with_reducible repeat (first|apply Kd.Ka|apply Kd.La|apply Kd.Sa));exact Kd.Db Cc.out (fun _ hk=>hk.1)⟩,⟨by (try simp only [Jf]);(with_reducible repeat (first|refine Da ?_ _|refine Ea ?_|refine Ca ?_ _));exact ta.out⟩,⟨aaf⟩⟩
      case round =>
       clear H'
       try clear c1
       try clear p1
       try clear q1
       try clear hx1
       try clear T6
       try clear c2
       try clear p2
       try clear q2
       try clear c3
       try clear p3
       try clear q3
       try clear Ct
       try clear hf3
       try clear c5
       try clear Yq
       try clear oI
       try clear c6
       try clear p6
       try clear q6
       try clear Tw
       try clear lZ
       try clear M9
       try clear c8
       try clear c9
       try clear zI
       try clear U6
       try clear mG
       try clear IZ
       try clear mZ
       try clear fW
       try clear eW
       try clear qab
       try clear vw
       try clear uw
       try clear Yz
       try clear BF
       try clear VD
       try clear GM
       try clear EA
       try clear wI
       try clear vI
       try clear uI
       try clear js
       try clear av
       try clear Wz
       try clear SF
       try clear WN
       try clear Fv
       try clear Zn
       try clear FJ
       try clear OT
       try clear EJ
       try clear NT
       try clear MT
       try clear KT
       try clear EM
       try clear DM
       try clear CM
       try clear XR
       try clear WR
       try clear pab
       try clear Pab
       try clear RF
       try clear Nq
       try clear Mq
       try clear Kq
       try clear Jq
       try clear Iq
       try clear Fm
       try clear Em
       try clear Dm
       try clear Cm
       try clear Bm
       try clear Hq
       try clear Gq
       try clear Fq
       try clear Dq
       try clear Cq
       try clear Am
       try clear zm
       try clear ym
       try clear xm
       try clear wm
       try clear Ho
       try clear sk
       try clear Fo
       try clear Eo
       try clear Co
       try clear Bo
       try clear ql
       try clear Li
       try clear vK
       try clear uK
       try clear pO
       try clear ow
       try clear p1
       try clear U6
       try clear pG
       try clear Bn
       try clear Qo
       try clear Bt
       try clear jK
       try clear iK
       try clear p2
       try clear XR
       try clear p6
       try clear q1
       try clear mG
       try clear lG
       try clear vn
       try clear Po
       try clear yt
       try clear cK
       try clear bK
       try clear q2
       try clear WN
       try clear WR
       try clear q6
       (try clear HA);(try clear zk);(try clear Ub);(try clear Cc);(try clear ta);(try clear HB);obtain ⟨zi,Wd,rfl,HA,zk,Ub,Cc,ta,HB⟩:=hrel;cases gk with
       | zero=>exact absurd HA.out (by simp [xb.l2])
       | succ k2 =>
        have H:=HA.out;clear HA;simp only [xb.l2] at H
        by_cases pI:Wd < (Cb.length:Int)
        ·rw [if_pos pI] at H;have BM:decide (Wd < (Cb.length:Int))=true:=decide_eq_true pI;clear pI
         by_cases WK:0 ≤ Wd
         ·rw [if_pos WK] at H;have yT:decide (0 ≤ Wd)=true:=decide_eq_true WK;clear WK
          by_cases lQ:(rd Cb Wd)=1
          ·rw [if_pos lQ] at H;have xT:=beq_iff_eq.mpr lQ;have wT:=bne_eq_false_iff_eq.mpr lQ;clear lQ
           by_cases VK:zi.length < 17592186044416
           ·rw [if_pos VK] at H;have DU:=aa.mk VK;clear VK;obtain ⟨GR,Xy⟩:∃ y_:List Int,y_=(zi ++ [Wd]):=⟨_,rfl⟩;replace H:(xb.l2 k2 GR Cb (wrap64 (Wd + 1)))=some r:=by first|(rw [Xy];with_reducible exact H)|(have Mc:=(Option.bind_some _ _).symm.trans H;rw [Xy];with_reducible exact Mc)|(have Mc:=(Option.bind_some _ _).symm.trans H;with_reducible exact Mc)|with_reducible exact H|(rw [Xy];exact H)|exact H
            have vU:=aa.mk Xy;clear Xy;have H':=aa.mk H;clear H;have ZA:0 ≤ (Wd:Int):=Ia;have VA:Wd < (Cb.length:Int):=Ia;obtain ⟨EI,VP,vm⟩:=Kd.Ud (Kd.Wa Cc.out).2.2 Wd ZA VA;obtain rfl:(⟨Wn,0,none⟩:Addr)=EI:=(by injection VP);(first|simp only [add_plain] at vm|simp only [Lm] at vm|simp only [Addr.add,Nat.zero_add] at vm|skip);replace ZA:=eq_true ZA;replace VA:=eq_true VA;go_wp2_with (first|((with_reducible refine Xg (b:=.append) (xs:=#[.tmp 72,.tmp 74]) rfl ?_);at_builtin;refine Kd.Sl (Kd.int .i64) (w0:=w) w.heap.size rfl (.tmp 72) (.tmp 74) 22 3 (.int .i64 0) 8 rfl Try.underlying22 info3 rfl (by decide) (by omega) u3 zi Wd [.int .i64 Wd] (fun k_=>some k_ ≠ (.slice (some ⟨Wn,0,none⟩) Cb.length Uq:Value).ownBlock) (fun _=>False) rfl rfl ?aP (fun _ hk=>hk.elim) ?aF ?aO ?aB ?aS ?aL ?_;(case aP=>exact rfl);(case aB=>exact Xae);(case aF=>exact (fun k_ hk=>Kd.fresh' (Kd.ek gaf) k_ hk));(case aO=>exact iaf);(case aS=>exact (Ra Xae));(case aL=>have:=DU.out;omega);intro v131 w46 ho hb hg hat;rw [← vU.out] at ho;have Kb:=aa.mk (Kd.kg (ok:=(fun _=>True)) (by (with_reducible repeat (first|apply Kd.Ka|apply Kd.La|apply Kd.Sa));exact Kd.Db Cc.out (fun _ hk=>⟨trivial,hk⟩)) hg hat);have Ob:=aa.mk (yf (g:=Ja) (o:=.cells #[.slice Bb Ma.length Ab,.int .i64 Pa,.int .i64 Qa,.int .i64 Oa,.slice Qb za.length Gb] 45 (0,0)) Zae hg (Kd.Pp Ub.out ta.out (by decide)));have fc:=aa.mk (hb);have Sc:=aa.mk (ho);clear Cc ta HB Ub;have Cc:=Kb;have ta:=Ob;have HB:=fc;have jV:=Sc;clear Kb Ob fc Sc ho hb hg hat))
            go_roundg k2
            case measure=>have:=Gf.out;have:=zk.out;omega
            case rel=>exact ⟨(GR),(wrap64 (Wd + 1)),daf,H',⟨by have:=Gf.out;have:=zk.out;omega⟩,⟨by (try simp only [Jf]);(with_reducible repeat (first|apply Kd.Ka|apply Kd.La|apply Kd.Sa));exact jV.out⟩,⟨by (try simp only [Jf]);(with_reducible repeat (first|apply Kd.Ka|apply Kd.La|apply Kd.Sa));exact Kd.Db Cc.out (fun _ hk=>hk.2)⟩,⟨by (try simp only [Jf]);(with_reducible repeat (first|refine Da ?_ _|refine Ea ?_|refine Ca ?_ _));exact ta.out⟩,⟨aaf⟩⟩
           ·rw [if_neg VK] at H;exact absurd H (by simp)
          ·rw [if_neg lQ] at H;have xT:=beq_eq_false_iff_ne.mpr lQ;have wT:=bne_iff_ne.mpr lQ;have H':=aa.mk H;clear H;have ZA:0 ≤ (Wd:Int):=Ia;have VA:Wd < (Cb.length:Int):=Ia;obtain ⟨EI,VP,vm⟩:=Kd.Ud (Kd.Wa Cc.out).2.2 Wd ZA VA;obtain rfl:(⟨Wn,0,none⟩:Addr)=EI:=(by injection VP);(first|simp only [add_plain] at vm|simp only [Lm] at vm|simp only [Addr.add,Nat.zero_add] at vm|skip);replace ZA:=eq_true ZA;replace VA:=eq_true VA;go_wp2
           go_roundg k2
           case measure=>have:=Gf.out;have:=zk.out;omega
           case rel=>exact ⟨(zi),(wrap64 (Wd + 1)),daf,H',⟨by have:=Gf.out;have:=zk.out;omega⟩,⟨by (try simp only [Jf]);(with_reducible repeat (first|apply Kd.Ka|apply Kd.La|apply Kd.Sa));exact Ub.out⟩,⟨by (try simp only [Jf]);(with_reducible repeat (first|apply Kd.Ka|apply Kd.La|apply Kd.Sa));exact Cc.out⟩,⟨by (try simp only [Jf]);(with_reducible repeat (first|refine Da ?_ _|refine Ea ?_|refine Ca ?_ _));exact ta.out⟩,⟨aaf⟩⟩
         ·rw [if_neg WK] at H;exact absurd H (by simp)
        ·rw [if_neg pI] at H;have BM:decide (Wd < (Cb.length:Int))=false:=decide_eq_false pI;clear pI;obtain rfl:=Option.some.inj H;go_wp2;go_ret;exact ⟨_,eaf,by (with_reducible repeat (first|apply Kd.Ka|apply Kd.La|apply Kd.Sa));exact Kd.Db Ub.out (fun _ hk=>trivial),aaf⟩
  ·rw [if_neg c5] at H;exact absurd H (by simp)
 ·replace c3:=Bool.eq_false_iff.mpr c3;subst c3;rw [if_neg (show ¬ (false=true) by decide)] at H;obtain rfl:=Option.some.inj H;go_enter Try.func68,Try.ntmps68;go_wp2_with (first|((with_reducible refine Lb (N:=1) rfl ?_);refine Jc ?hg (N:=1) ?hd (cs:=#[.slice Bb Ma.length Ab,.int .i64 Pa,.int .i64 Qa,.int .i64 Oa,.slice Qb za.length Gb]) (t:=45) ?hr ?_;(case hd|hg=>rfl);(case hr=>exact Vae);intro Ja hg w47 qd hb;have Kb:=aa.mk (Fa Yae hb);have Ob:=aa.mk (qd);have fc:=aa.mk ((by rw [hg];exact (Ra Yae):w.heap.size ≤ Ja));have Sc:=aa.mk ((by rw [hg];exact (Ra Yae):w.heap.size ≤ Ja));clear HB;have HB:=Kb;have ta:=Ob;have Af:=fc;have mb:=Sc;clear Kb Ob fc Sc hb qd hg)|((with_reducible refine Lb (N:=9) rfl ?_);refine Kd.jk (Kd.int .i64) _ 3 ?hg (N:=9) ?hd (xs:=([]:List Int)) (inner:=[]) (ok:=fun _=>True) (Ag:=fun _=>True) ?hr ?hp (fun _ hk=>hk) trivial (Below.refl _ _) (Nat.le_refl _) (by simp) ?_;(case hd|hg=>rfl);(case hr=>exact Vae);(case hp=>exact (Fc.none _ _));intro Ng MR bH hb Hl Je;clear Hl Je;(first|rw [← ji.out] at bH|(simp only [Int.reduceToNat] at bH;rw [← ji.out] at bH));have Kb:=aa.mk (Kd.Xc bH (Ra Xae));have Ob:=aa.mk (Ua (g:=Ja) (o:=.cells #[.slice Bb Ma.length Ab,.int .i64 Pa,.int .i64 Qa,.int .i64 Oa,.slice Qb za.length Gb] 45 (0,0)) Zae hb);have fc:=aa.mk (Fa Xae hb);clear ta HB;have Pe:=Kb;have ta:=Ob;have HB:=fc;clear Kb Ob fc hb bH;have mX:MR.cell? ⟨Ja,0,none⟩=some (.slice Bb Ma.length Ab):=(qa ta.out 0).trans rfl;have lX:MR.cell? ⟨Ja,1,none⟩=some (.int .i64 Pa):=(qa ta.out 1).trans rfl;have kX:MR.cell? ⟨Ja,2,none⟩=some (.int .i64 Qa):=(qa ta.out 2).trans rfl;have jX:MR.cell? ⟨Ja,3,none⟩=some (.int .i64 Oa):=(qa ta.out 3).trans rfl;have iX:MR.cell? ⟨Ja,4,none⟩=some (.slice Qb za.length Gb):=(qa ta.out 4).trans rfl;have xW:=Aa ta.out 0;have wW:=Aa ta.out 1;have vW:=Aa ta.out 2;have uW:=Aa ta.out 3;have tW:=Aa ta.out 4)|((with_reducible refine Sb (f:=66) rfl ?_);refine Ke (some 11) rfl rfl Try.func66 (by kernel_rfl) rfl #[.agg #[.slice Bb Ma.length Ab,.int .i64 Pa,.int .i64 Qa,.int .i64 Oa,.slice Qb za.length Gb]] rfl baf ?_;(with_reducible refine (Ae.calls k _ _ Ma Pa Qa Oa _ _ za false _ ?Gd ?Ed ?Cj ?Bj A2.out).mono ?_);(case Gd=>repeat (first|exact (Kd.yb Qg.out HB.out)|(with_reducible refine Kd.ee ?_ _)|(with_reducible refine Kd.Zd ?_ _)|(with_reducible refine Kd.We ?_)));(case Ed=>exact Sg.out);(case Cj=>repeat (first|exact (Kd.yb Ei.out HB.out)|(with_reducible refine Kd.ee ?_ _)|(with_reducible refine Kd.Zd ?_ _)|(with_reducible refine Kd.We ?_)));(case Bj=>exact Uk.out);rintro e w51 ⟨rfl,hb⟩;refine ⟨_,rfl,?_⟩;have Kb:=aa.mk (Kd.Xb raf hb);have Ob:=aa.mk (Ua (g:=Ja) (o:=.cells #[.slice Bb Ma.length Ab,.int .i64 Pa,.int .i64 Qa,.int .i64 Oa,.slice Qb za.length Gb] 45 (0,0)) Zae hb);have fc:=aa.mk (Fa Xae hb);clear Pe ta HB;have Pe:=Kb;have ta:=Ob;have HB:=fc;clear Kb Ob fc;(try clear hb);(try clear Vk);(try clear hk);(try clear hi)));go_ret;exact ⟨_,eaf,Haf,aaf⟩
end Go.Proofs.Ytoomcmaifgkkfaa.P
