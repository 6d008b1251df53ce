import Derived.Test.YtoomcmaifgkkfaaQBacks1
import Derived.Test.YtoomcmaifgkkfaaQBacks5
import Derived.Test.YtoomcmaifgkkfaaQBacks6
import Derived.Shelf.Abstract
import Derived.Outline
import Derived.RegionTactic
import Derived.Test.YtoomcmaifgkkfaaQBacks3
import Derived.Test.YtoomcmaifgkkfaaQBacks2
import Derived.Test.YtoomcmaifgkkfaaQBacks4
import Derived.Deep.QuietTactic
import Derived.BigQuiet
set_option maxHeartbeats 8000000
set_option maxRecDepth 100000
section
namespace Go.Proofs.Ytoomcmaifgkkfaa.P
open Go.RowKit Go.Proofs.ua.zb Go.Proofs.ua.Lc Go.Proofs.ua.Pd
set_option linter.unusedVariables false
set_option linter.unusedSimpArgs false
attribute [local go_sem] Hg Fg Nh Mh cg bg Gg Eg
mutual
noncomputable def Ta.l0:Nat→Int→List Bool→List Int→Int→List Int→Int→Int→Int→List (Yd)→Option ((List (List Bool)))
 | 0,_,_,_,_,_,_,_,_,_=>none
 | k + 1,x3,x4,x5,x6,Cd,Bd,Ad,yd,Yb=>if x6 < (x5.length:Int) then (if 0 ≤ x6 then (if 0 ≤ (rd x5 x6) then (if (rd x5 x6) < (x4.length:Int) then (Ta.l0 k x3 (x4.set ((rd x5 x6):Int).toNat true) x5 (wrap64 (x6 + 1)) Cd Bd Ad yd Yb) else (none)) else (none)) else (none)) else (Ta.l1 k x3 x4 (([]:List (List Bool))) 0 Cd Bd Ad yd Yb)
noncomputable def Ta.l1:Nat→Int→List Bool→List (List Bool)→Int→List Int→Int→Int→Int→List (Yd)→Option ((List (List Bool)))
 | 0,_,_,_,_,_,_,_,_,_=>none
 | k + 1,x3,x4,x7,x8,Cd,Bd,Ad,yd,Yb=>if x8 < x3 then (if 0 ≤ x3 then (if (x3:Int).toNat ≤ 281474976710656 then ((some (List.replicate (x3:Int).toNat false:List Bool)).bind fun nt=>(if x8=0 then (Ta.j2 k x3 x4 x7 x8 nt Cd Bd Ad yd Yb) else ((Za.f k Cd Bd Ad yd Yb 0 x8 nt).bind fun t116=>(Ta.j2 k x3 x4 x7 x8 t116 Cd Bd Ad yd Yb)))) else (none)) else (none)) else (some x7)
noncomputable def Ta.j2:Nat→Int→List Bool→List (List Bool)→Int→List Bool→List Int→Int→Int→Int→List (Yd)→Option ((List (List Bool)))
 | 0,_,_,_,_,_,_,_,_,_,_=>none
 | k + 1,x3,x4,x7,x8,x9,Cd,Bd,Ad,yd,Yb=>if 0 ≤ x3 then (if (x3:Int).toNat ≤ 281474976710656 then (Ta.l2 k x3 x4 x7 x8 x9 (List.replicate (x3:Int).toNat false) 0 Cd Bd Ad yd Yb) else (none)) else (none)
noncomputable def Ta.l2:Nat→Int→List Bool→List (List Bool)→Int→List Bool→List Bool→Int→List Int→Int→Int→Int→List (Yd)→Option ((List (List Bool)))
 | 0,_,_,_,_,_,_,_,_,_,_,_,_=>none
 | k + 1,x3,x4,x7,x8,x9,Gw,zA,Cd,Bd,Ad,yd,Yb=>if zA < x3 then (if 0 ≤ x8 then (if x8 < (x4.length:Int) then (if Tf false x4 x8=true then (if 0 ≤ zA then (if zA < (x4.length:Int) then (if Tf false x4 zA=true then (if zA < (x9.length:Int) then (if zA < (Gw.length:Int) then (Ta.l2 k x3 x4 x7 x8 x9 (Gw.set (zA:Int).toNat (!(Tf false x9 zA))) (wrap64 (zA + 1)) Cd Bd Ad yd Yb) else (none)) else (none)) else (if zA < (Gw.length:Int) then (Ta.l2 k x3 x4 x7 x8 x9 (Gw.set (zA:Int).toNat false) (wrap64 (zA + 1)) Cd Bd Ad yd Yb) else (none))) else (none)) else (none)) else (if 0 ≤ zA then (if zA < (Gw.length:Int) then (Ta.l2 k x3 x4 x7 x8 x9 (Gw.set (zA:Int).toNat false) (wrap64 (zA + 1)) Cd Bd Ad yd Yb) else (none)) else (none))) else (none)) else (none)) else (if x7.length < 5864062014805 then (Ta.l1 k x3 x4 (x7 ++ [Gw]) (wrap64 (x8 + 1)) Cd Bd Ad yd Yb) else (none))
end
noncomputable def Ta.f (k:Nat) (Ma:List Int) (Pa:Int) (Qa:Int) (Oa:Int) (za:List (Yd)):Option ((List (List Bool))):=if 0 ≤ (za.length:Int) then (if ((za.length:Int):Int).toNat ≤ 281474976710656 then ((xb.f k Ma Pa Qa Oa za).bind fun t105=>(Ta.l0 k (za.length:Int) (List.replicate ((za.length:Int):Int).toNat false) t105 0 Ma Pa Qa Oa za)) else (none)) else (none)
theorem Ta.calls (k:Nat) (Bb:Option Addr) (Ab:Nat) (Ma:List Int) (Pa:Int) (Qa:Int) (Oa:Int) (Qb:Option Addr) (Gb:Nat) (za:List (Yd)) (r:List (List Bool)) (w:World) (od:Kd.C (Kd.int .i64) w Bb Ma.length Ma) (Nd:Ma.length ≤ Ab) (ze:Kd.C Jl w Qb za.length za) (Ve:za.length ≤ Gb) (h:Ta.f k Ma Pa Qa Oa za=some r) :
  Calls Try.prog 67 #[.agg #[.slice Bb Ma.length Ab,.int .i64 Pa,.int .i64 Qa,.int .i64 Oa,.slice Qb za.length Gb]] w fun e w'=>∃ zj:Value,e = .returned (zj)∧Kd.S (Kd.slice 4 Kd.bool) 73 w' w.heap.size (fun _=>True) zj r∧Below w.heap.size w w':=by
 have WG:=Try.underlying45;have Qg:=aa.mk od;have Sg:=aa.mk Nd;clear od Nd;have Ei:=aa.mk ze;have Uk:=aa.mk Ve;clear ze Ve;have HB:=aa.mk (Below.refl w.heap.size w);have H:(if 0 ≤ (za.length:Int) then (if ((za.length:Int):Int).toNat ≤ 281474976710656 then ((xb.f k Ma Pa Qa Oa za).bind fun t105=>(Ta.l0 k (za.length:Int) (List.replicate ((za.length:Int):Int).toNat false) t105 0 Ma Pa Qa Oa za)) else (none)) else (none))=some r:=h;clear h
 by_cases c2:0 ≤ (za.length:Int)
 ·rw [if_pos c2] at H;have Jm:=eq_true c2;have Ro:decide (0 ≤ (za.length:Int))=true:=decide_eq_true c2;clear c2
  by_cases c3:((za.length:Int):Int).toNat ≤ 281474976710656
  ·rw [if_pos c3] at H;have Yg:=eq_true c3;have Mp:decide (((za.length:Int):Int).toNat ≤ 281474976710656)=true:=decide_eq_true c3;clear c3;obtain ⟨Dd,Ue⟩:∃ y_:List Bool,y_=(List.replicate ((za.length:Int):Int).toNat false):=⟨_,rfl⟩;replace H:((xb.f k Ma Pa Qa Oa za).bind fun t105=>(Ta.l0 k (za.length:Int) Dd t105 0 Ma Pa Qa Oa za))=some r:=by first|(rw [Ue];with_reducible exact H)|(have Mc:=(Option.bind_some _ _).symm.trans H;rw [Ue];with_reducible exact Mc)|(have Mc:=(Option.bind_some _ _).symm.trans H;with_reducible exact Mc)|with_reducible exact H|(rw [Ue];exact H)|exact H
   have ji:=aa.mk Ue;clear Ue;replace H:=Option.bind_eq_some_iff.mp H;obtain ⟨t105,DN,H⟩:=H
   try dsimp only at H
   have A4:=aa.mk DN;clear DN;have H':=aa.mk H;clear H;go_enter Try.func67,Try.ntmps67;go_wp2_with (first|((with_reducible refine Lb (N:=1) rfl ?_);refine Jc ?hg (N:=1) ?hd (cs:=#[.slice Bb Ma.length Ab,.int .i64 Pa,.int .i64 Qa,.int .i64 Oa,.slice Qb za.length Gb]) (t:=45) ?hr ?_;(case hd|hg=>rfl);(case hr=>exact Vae);intro Ja hg w5 qd hb;have Kb:=aa.mk (Fa Yae hb);have Ob:=aa.mk (qd);have fc:=aa.mk ((by rw [hg];exact (Ra Yae):w.heap.size ≤ Ja));have Sc:=aa.mk ((by rw [hg];exact (Ra Yae):w.heap.size ≤ Ja));clear HB;have HB:=Kb;have ta:=Ob;have Af:=fc;have mb:=Sc;clear Kb Ob fc Sc hb qd hg;have Vr:w5.cell? ⟨Ja,0,none⟩=some (.slice Bb Ma.length Ab):=(qa ta.out 0).trans rfl;have Ur:w5.cell? ⟨Ja,1,none⟩=some (.int .i64 Pa):=(qa ta.out 1).trans rfl;have Tr:w5.cell? ⟨Ja,2,none⟩=some (.int .i64 Qa):=(qa ta.out 2).trans rfl;have Sr:w5.cell? ⟨Ja,3,none⟩=some (.int .i64 Oa):=(qa ta.out 3).trans rfl;have Qr:w5.cell? ⟨Ja,4,none⟩=some (.slice Qb za.length Gb):=(qa ta.out 4).trans rfl;have Nr:=Aa ta.out 0;have Mr:=Aa ta.out 1;have Lr:=Aa ta.out 2;have Kr:=Aa ta.out 3;have Jr:=Aa ta.out 4)|((with_reducible refine Lb (N:=16) rfl ?_);refine Kd.Qp Kd.bool _ 4 rfl (N:=16) rfl 73 _ _ rfl (za.length:Int) rfl rfl Try.underlying73 (.bool false) 1 zC rfl (by decide) (by omega) false (ok:=fun _=>True) (Ag:=fun _=>True) rfl (fun _ hk=>hk) trivial (Ia) (Nat.le_trans (Nat.mul_le_mul_right _ (Ia:(za.length:Int).toNat ≤ 281474976710656)) (by omega)) (Below.refl _ _) (Nat.le_refl _) ?_;intro Ng w7 nS hb Hl Je;clear Hl Je;(first|rw [← ji.out] at nS|(simp only [Int.reduceToNat] at nS;rw [← ji.out] at nS));have Kb:=aa.mk (Kd.Xc nS (Ra Xae));have Ob:=aa.mk (Ua (g:=Ja) (o:=.cells #[.slice Bb Ma.length Ab,.int .i64 Pa,.int .i64 Qa,.int .i64 Oa,.slice Qb za.length Gb] 45 (0,0)) Zae hb);have fc:=aa.mk (Fa Xae hb);clear ta HB;have Pe:=Kb;have ta:=Ob;have HB:=fc;clear Kb Ob fc hb nS;have ak:w7.cell? ⟨Ja,0,none⟩=some (.slice Bb Ma.length Ab):=(qa ta.out 0).trans rfl;have Zj:w7.cell? ⟨Ja,1,none⟩=some (.int .i64 Pa):=(qa ta.out 1).trans rfl;have Yj:w7.cell? ⟨Ja,2,none⟩=some (.int .i64 Qa):=(qa ta.out 2).trans rfl;have Xj:w7.cell? ⟨Ja,3,none⟩=some (.int .i64 Oa):=(qa ta.out 3).trans rfl;have Wj:w7.cell? ⟨Ja,4,none⟩=some (.slice Qb za.length Gb):=(qa ta.out 4).trans rfl;have Vj:=Aa ta.out 0;have Uj:=Aa ta.out 1;have Tj:=Aa ta.out 2;have Sj:=Aa ta.out 3;have Rj:=Aa ta.out 4)|((with_reducible refine Sb (f:=68) rfl ?_);refine Ke (some 18) rfl rfl Try.func68 (by kernel_rfl) rfl #[.agg #[.slice Bb Ma.length Ab,.int .i64 Pa,.int .i64 Qa,.int .i64 Oa,.slice Qb za.length Gb]] rfl baf ?_;(with_reducible refine (xb.calls k _ _ Ma Pa Qa Oa _ _ za t105 _ ?Gd ?Ed ?Cj ?Bj A4.out).mono ?_);(case Gd=>repeat (first|exact (Kd.yb Qg.out HB.out)|(with_reducible refine Kd.ee ?_ _)|(with_reducible refine Kd.Zd ?_ _)|(with_reducible refine Kd.We ?_)));(case Ed=>exact Sg.out);(case Cj=>repeat (first|exact (Kd.yb Ei.out HB.out)|(with_reducible refine Kd.ee ?_ _)|(with_reducible refine Kd.Zd ?_ _)|(with_reducible refine Kd.We ?_)));(case Bj=>exact Uk.out);rintro e Gt ⟨Kv,rfl,uh,hb⟩;refine ⟨_,rfl,?_⟩;have Kb:=aa.mk (Kd.Xb raf hb);have Ob:=aa.mk (Kd.Xc uh (Ra Xae));have fc:=aa.mk (Ua (g:=Ja) (o:=.cells #[.slice Bb Ma.length Ab,.int .i64 Pa,.int .i64 Qa,.int .i64 Oa,.slice Qb za.length Gb] 45 (0,0)) Zae hb);have Sc:=aa.mk (Fa Xae hb);clear Pe ta HB;have Pe:=Kb;have Tk:=Ob;have ta:=fc;have HB:=Sc;clear Kb Ob fc Sc;(try clear hb);(try clear Vk);(try clear hk);(try clear hi);(try clear uh)))
   go_loopg [6] k (fun kq v6 w'=>∃ (Cb:List Bool) (Ck:Int),v6 = .int .i64 Ck∧aa (Ta.l0 kq (za.length:Int) Cb t105 Ck Ma Pa Qa Oa za=some r)∧aa (kq ≤ k)∧aa (Kd.R Kd.bool 4 w' w.heap.size (fun _=>True) Ng Cb)∧aa (Kd.R (Kd.int .i64) 3 w' w.heap.size (fun _=>True) Kv t105)∧aa (w'.heap[Ja]? = some (.cells #[(.slice Bb Ma.length Ab),.int .i64 Pa,.int .i64 Qa,.int .i64 Oa,(.slice Qb za.length Gb)] 45 (0,0)))∧aa (Below w.heap.size w w'))
   case atStart=>exact ⟨(Dd),(0),daf,H',⟨Nat.le_refl _⟩,⟨Haf⟩,⟨by (with_reducible repeat (first|apply Kd.Ka|apply Kd.La|apply Kd.Sa));exact Tk.out⟩,⟨faf⟩,⟨aaf⟩⟩
   case round =>
    clear H'
    try clear c2
    try clear Jm
    try clear Ro
    try clear p2
    try clear c3
    try clear Yg
    try clear Mp
    try clear c6
    try clear Vr
    try clear Ur
    try clear Tr
    try clear Sr
    try clear Qr
    try clear ak
    try clear Zj
    try clear Yj
    try clear Xj
    try clear Wj
    try clear Nr
    try clear Mr
    try clear Lr
    try clear Kr
    try clear Jr
    try clear Vj
    try clear Uj
    try clear Tj
    try clear Sj
    try clear Rj
    (try clear HA);(try clear Gf);(try clear Cc);(try clear Df);(try clear ta);(try clear HB);obtain ⟨Cb,Ck,rfl,HA,Gf,Cc,Df,ta,HB⟩:=hrel;cases gk with
    | zero=>exact absurd HA.out (by simp [Ta.l0])
    | succ k1 =>
     have H:=HA.out;clear HA;simp only [Ta.l0] at H
     by_cases zI:Ck < (t105.length:Int)
     ·rw [if_pos zI] at H;have XD:decide (Ck < (t105.length:Int))=true:=decide_eq_true zI;clear zI
      by_cases WD:0 ≤ Ck
      ·rw [if_pos WD] at H;have Zz:decide (0 ≤ Ck)=true:=decide_eq_true WD;clear WD
       by_cases PB:0 ≤ (rd t105 Ck)
       ·rw [if_pos PB] at H;have yw:decide (0 ≤ (rd t105 Ck))=true:=decide_eq_true PB;clear PB
        by_cases ny:(rd t105 Ck) < (Cb.length:Int)
        ·rw [if_pos ny] at H;have xw:decide ((rd t105 Ck) < (Cb.length:Int))=true:=decide_eq_true ny;clear ny;obtain ⟨ry,Sn⟩:∃ y_:List Bool,y_=(Cb.set ((rd t105 Ck):Int).toNat true):=⟨_,rfl⟩;replace H:(Ta.l0 k1 (za.length:Int) ry t105 (wrap64 (Ck + 1)) Ma Pa Qa Oa za)=some r:=by first|(rw [Sn];with_reducible exact H)|(have Mc:=(Option.bind_some _ _).symm.trans H;rw [Sn];with_reducible exact Mc)|(have Mc:=(Option.bind_some _ _).symm.trans H;with_reducible exact Mc)|with_reducible exact H|(rw [Sn];exact H)|exact H
         have VI:=aa.mk Sn;clear Sn;have H':=aa.mk H;clear H;obtain ⟨NF,wF,TP⟩:=Kd.ic Df.out;subst TP;have KE:0 ≤ (Ck:Int):=Ia;have IE:Ck < (t105.length:Int):=Ia;obtain ⟨Q_,N4,Zw⟩:=Kd.Ud (Kd.Wa Df.out).2.2 Ck KE IE;cases N4;replace KE:=eq_true KE;replace IE:=eq_true IE;have gK:0 ≤ ((rd t105 Ck):Int):=Ia;have aK:((rd t105 Ck):Int) < ((Cb.length:Int):Int):=Ia;obtain ⟨NK,qT,oT,fT,I3,vac,dw⟩:=Kd.Uh Cc.out (by omega);(first|cases oT|(injection oT with qi Dt Et;(first|subst qi|(injection qi with qi;subst qi));subst Et;clear Dt));have n6:=aa.mk fT;have tad:=aa.mk dw;clear fT I3 dw;obtain ⟨lB,K1⟩:=Kd.Yf false Cc.out ((rd t105 Ck):Int) gK aK;replace gK:=eq_true gK;replace aK:=eq_true aK;have WQ:=Kd.kj Cc.out ((rd t105 Ck):Int) true;go_wp2_with (first|((with_reducible refine Od (t:=4) (p:=30) rfl ?_);refine Uc (t:=4) (p:=30) (v:=?aZ) (w1:=(wr.setCell ⟨NK,((rd t105 Ck):Int).toNat,none⟩ (.bool true))) ?hg ?ho ?hn ?hr ?_;(case ho=>rfl);(case hg=>rfl);(case hn=>rfl);(case hr=>exact Vae);intro PR hw;have hg:wr.grownBy PR (some NK):=(by rw [hw];exact WQ.2);have Si:Kd.R Kd.bool 4 PR w.heap.size (fun _=>True) (.slice (some ⟨NK,0,none⟩) Cb.length qT) ry:=(by rw [hw,VI.out];exact WQ.1);clear WQ;have Kb:=aa.mk (Si);have Ob:=aa.mk (Kd.wj (v:=(.slice (some ⟨NK,0,none⟩) Cb.length qT)) (by (with_reducible repeat (first|apply Kd.Ka|apply Kd.La|apply Kd.Sa));exact Df.out) (Kd.tj Cc.out) (by decide) hg);have fc:=aa.mk (yf (g:=Ja) (o:=.cells #[.slice Bb Ma.length Ab,.int .i64 Pa,.int .i64 Qa,.int .i64 Oa,.slice Qb za.length Gb] 45 (0,0)) Zae hg (Kd.Pp Cc.out ta.out (by decide)));have Sc:=aa.mk ((by rw [hw];exact ya (HB.out) n6.out:Below w.heap.size w PR));clear Cc Df ta HB;have Cc:=Kb;have Df:=Ob;have ta:=fc;have HB:=Sc;clear Kb Ob fc Sc hg hw Si))
         go_roundg k1
         case measure=>have:=Gf.out;omega
         case rel=>exact ⟨(ry),(wrap64 (Ck + 1)),daf,H',⟨by have:=Gf.out;omega⟩,⟨yaf⟩,⟨by (with_reducible repeat (first|apply Kd.Ka|apply Kd.La|apply Kd.Sa));exact Df.out⟩,⟨faf⟩,⟨aaf⟩⟩
        ·rw [if_neg ny] at H;exact absurd H (by simp)
       ·rw [if_neg PB] at H;exact absurd H (by simp)
      ·rw [if_neg WD] at H;exact absurd H (by simp)
     ·rw [if_neg zI] at H;have XD:decide (Ck < (t105.length:Int))=false:=decide_eq_false zI;clear zI;obtain ⟨aG,Rn⟩:∃ y_:List (List Bool),y_=(([]:List (List Bool))):=⟨_,rfl⟩;replace H:(Ta.l1 k1 (za.length:Int) Cb aG 0 Ma Pa Qa Oa za)=some r:=by first|(rw [Rn];with_reducible exact H)|(have Mc:=(Option.bind_some _ _).symm.trans H;rw [Rn];with_reducible exact Mc)|(have Mc:=(Option.bind_some _ _).symm.trans H;with_reducible exact Mc)|with_reducible exact H|(rw [Rn];exact H)|exact H
      have nA:=aa.mk Rn;clear Rn;have H':=aa.mk H;clear H;obtain ⟨C6,lI,SP⟩:=Kd.ic Df.out;subst SP;go_wp2_with (first|((with_reducible refine Lb (N:=31) rfl ?_);refine Kd.oU (Kd.slice 4 Kd.bool) _ 73 ?hg (N:=31) ?hd (xs:=([]:List (List Bool))) (inner:=[]) (ok:=fun _=>True) (Ag:=fun _=>True) ?hr ?hp (fun _ hk=>hk) trivial (Below.refl _ _) (Nat.le_refl _) (by simp) ?_;(case hd|hg=>rfl);(case hr=>exact Vae);(case hp=>exact (Fc.none _ _));intro fZ M6 cH hb Hl Je;clear Hl Je;(first|rw [← nA.out] at cH|(simp only [Int.reduceToNat] at cH;rw [← nA.out] at cH));have Kb:=aa.mk (Kd.Xb gaf hb);have Ob:=aa.mk (Kd.Xb (by (with_reducible repeat (first|apply Kd.Ka|apply Kd.La|apply Kd.Sa));exact Df.out) hb);have fc:=aa.mk (Kd.nu (Kd.qQ cH (Kd.ek gaf)) (Ra Xae));have Sc:=aa.mk (Ua (g:=Ja) (o:=.cells #[.slice Bb Ma.length Ab,.int .i64 Pa,.int .i64 Qa,.int .i64 Oa,.slice Qb za.length Gb] 45 (0,0)) Zae hb);have uf:=aa.mk (Fa Xae hb);clear Cc Df ta HB;have Cc:=Kb;have Df:=Ob;have iJ:=fc;have ta:=Sc;have HB:=uf;clear Kb Ob fc Sc uf hb cH))
      go_loopg [7,8] k1 (fun kq v7 v8 w'=>∃ (Ie:List Bool) (Be:List (List Bool)) (Wd:Int),v8 = .int .i64 Wd∧aa (Ta.l1 kq (za.length:Int) Ie Be Wd Ma Pa Qa Oa za=some r)∧aa (kq ≤ k1)∧aa (Kd.R Kd.bool 4 w' w.heap.size (fun _=>True) Ng Ie)∧aa (Kd.S (Kd.slice 4 Kd.bool) 73 w' w.heap.size (fun k_=>some k_ ≠ (Ng:Value).ownBlock) v7 Be)∧aa (w'.heap[Ja]? = some (.cells #[(.slice Bb Ma.length Ab),.int .i64 Pa,.int .i64 Qa,.int .i64 Oa,(.slice Qb za.length Gb)] 45 (0,0)))∧aa (Below w.heap.size w w'))
      case atStart=>exact ⟨(Cb),(aG),(0),daf,H',⟨Nat.le_refl _⟩,⟨yaf⟩,⟨by (with_reducible repeat (first|apply Kd.kf|apply Kd.jf|apply Kd.Xf));exact Kd.Rf iJ.out (fun _ hk=>hk.2)⟩,⟨faf⟩,⟨aaf⟩⟩
      case round =>
       clear H'
       try clear c1
       try clear p1
       try clear q1
       try clear hx1
       try clear T9
       try clear c2
       try clear Jm
       try clear Ro
       try clear p2
       try clear c3
       try clear Yg
       try clear Mp
       try clear c6
       try clear p6
       try clear Qy
       try clear Oy
       try clear zO
       try clear zI
       try clear XD
       try clear WD
       try clear Zz
       try clear PB
       try clear yw
       try clear ny
       try clear xw
       try clear gK
       try clear aK
       try clear dS
       try clear CS
       try clear Vr
       try clear Ur
       try clear Tr
       try clear Sr
       try clear Qr
       try clear ak
       try clear Zj
       try clear Yj
       try clear Xj
       try clear Wj
       try clear Nr
       try clear Mr
       try clear Lr
       try clear Kr
       try clear Jr
       try clear Vj
       try clear Uj
       try clear Tj
       try clear Sj
       try clear Rj
       try clear Zw
       try clear lB
       try clear KE
       try clear gK
       try clear p2
       try clear IE
       try clear aK
       (try clear HA);(try clear zk);(try clear Cc);(try clear Dh);(try clear ta);(try clear HB);obtain ⟨Ie,Be,Wd,rfl,HA,zk,Cc,Dh,ta,HB⟩:=hrel;cases gk with
       | zero=>exact absurd HA.out (by simp [Ta.l1])
       | succ k2 =>
        have H:=HA.out;clear HA;simp only [Ta.l1] at H
        by_cases AF:Wd < (za.length:Int)
        ·rw [if_pos AF] at H;have tI:decide (Wd < (za.length:Int))=true:=decide_eq_true AF;clear AF
         by_cases js:0 ≤ (za.length:Int)
         ·rw [if_pos js] at H;have av:=eq_true js;have Wz:decide (0 ≤ (za.length:Int))=true:=decide_eq_true js;clear js
          by_cases VF:((za.length:Int):Int).toNat ≤ 281474976710656
          ·rw [if_pos VF] at H;have sI:=eq_true VF;have FM:decide (((za.length:Int):Int).toNat ≤ 281474976710656)=true:=decide_eq_true VF;clear VF;obtain ⟨nt,bz⟩:∃ y_:List Bool,y_=(List.replicate ((za.length:Int):Int).toNat false):=⟨_,rfl⟩;replace H:(if Wd=0 then (Ta.j2 k2 (za.length:Int) Ie Be Wd nt Ma Pa Qa Oa za) else ((Za.f k2 Ma Pa Qa Oa za 0 Wd nt).bind fun t116=>(Ta.j2 k2 (za.length:Int) Ie Be Wd t116 Ma Pa Qa Oa za)))=some r:=by first|(rw [bz];with_reducible exact H)|(have Mc:=(Option.bind_some _ _).symm.trans H;rw [bz];with_reducible exact Mc)|(have Mc:=(Option.bind_some _ _).symm.trans H;with_reducible exact Mc)|with_reducible exact H|(rw [bz];exact H)|exact H
           have QM:=aa.mk bz;clear bz;have jR:=aa.mk H;clear H
           go_upto_if 40 with (first|((with_reducible refine Lb (N:=38) rfl ?_);refine Kd.Qp Kd.bool _ 4 rfl (N:=38) rfl 73 _ _ rfl (za.length:Int) rfl rfl Try.underlying73 (.bool false) 1 zC rfl (by decide) (by omega) false (ok:=fun _=>True) (Ag:=fun _=>True) rfl (fun _ hk=>hk) trivial (Ia) (Nat.le_trans (Nat.mul_le_mul_right _ (Ia:(za.length:Int).toNat ≤ 281474976710656)) (by omega)) (Below.refl _ _) (Nat.le_refl _) ?_;intro Mo ew nB hb Hl Je;clear Hl Je;(first|rw [← QM.out] at nB|(simp only [Int.reduceToNat] at nB;rw [← QM.out] at nB));have Kb:=aa.mk (Kd.mh gaf (Kd.ug nB) hb);have Ob:=aa.mk (Kd.ov Kaf (Kd.ug nB) hb);have fc:=aa.mk (Kd.Xc (Kd.Wi nB (Kd.ek gaf)) (Ra Xae));have Sc:=aa.mk (Ua (g:=Ja) (o:=.cells #[.slice Bb Ma.length Ab,.int .i64 Pa,.int .i64 Qa,.int .i64 Oa,.slice Qb za.length Gb] 45 (0,0)) Zae hb);have uf:=aa.mk (Fa Xae hb);clear Cc Dh ta HB;have Cc:=Kb;have Dh:=Ob;have qp:=fc;have ta:=Sc;have HB:=uf;clear Kb Ob fc Sc uf hb nB))
           (try simp only [Act.put,List.setIfInBounds_toArray,List.set_cons_zero,List.set_cons_succ])
           go_cut [] (fun wc=>∃ (kq:Nat) (Dg:List Bool),aa (Ta.j2 kq (za.length:Int) Ie Be Wd Dg Ma Pa Qa Oa za=some r)∧aa (kq ≤ k2)∧aa (Kd.R Kd.bool 4 wc w.heap.size (fun k_=>some k_ ≠ (Mo:Value).ownBlock) Ng Ie)∧aa (Kd.S (Kd.slice 4 Kd.bool) 73 wc w.heap.size (fun k_=>some k_ ≠ (Ng:Value).ownBlock∧some k_ ≠ (Mo:Value).ownBlock) u7 Be)∧aa (Kd.R Kd.bool 4 wc w.heap.size (fun k_=>some k_ ≠ (Ng:Value).ownBlock) Mo Dg)∧aa (wc.heap[Ja]? = some (.cells #[(.slice Bb Ma.length Ab),.int .i64 Pa,.int .i64 Qa,.int .i64 Oa,(.slice Qb za.length Gb)] 45 (0,0)))∧aa (Below w.heap.size w wc))
           case first =>
            have H:=jR.out;clear jR
            by_cases Fv:Wd=0
            ·rw [if_pos Fv] at H;have Zn:=beq_iff_eq.mpr Fv;have rI:=bne_eq_false_iff_eq.mpr Fv;clear Fv;(first|rw [Zn]|(simp only [Eb,Fb];rw [Zn])|skip);have H':=aa.mk H;clear H;go_wp2
             go_meet
             case rel=>exact ⟨_,(nt),H',⟨by have:=Gf.out;have:=zk.out;first|omega|exact Nat.le_refl _⟩,⟨by (with_reducible repeat (first|apply Kd.Ka|apply Kd.La|apply Kd.Sa));exact Kd.Db Cc.out (fun _ hk=>hk.2)⟩,⟨by (with_reducible repeat (first|apply Kd.kf|apply Kd.jf|apply Kd.Xf));exact Dh.out⟩,⟨by (with_reducible repeat (first|apply Kd.Ka|apply Kd.La|apply Kd.Sa));exact Kd.Db qp.out (fun _ hk=>hk.2)⟩,⟨faf⟩,⟨aaf⟩⟩
            ·rw [if_neg Fv] at H;have Zn:=beq_eq_false_iff_ne.mpr Fv;have rI:=bne_iff_ne.mpr Fv;(first|rw [Zn]|(simp only [Eb,Fb];rw [Zn])|skip);replace H:=Option.bind_eq_some_iff.mp H;obtain ⟨t116,VV,H⟩:=H
             try dsimp only at H
             have A29:=aa.mk VV;clear VV;have H':=aa.mk H;clear H;obtain ⟨zD,yD,xD,wD,vD,cD,bD,aD,ZC,YC⟩:=mI ta.out;obtain ⟨MF,vF,RP⟩:=Kd.ic qp.out;subst RP;go_wp2_with (first|((with_reducible refine Sb (f:=102) rfl ?_);refine Ke (some 44) rfl rfl Try.func102 (by kernel_rfl) rfl #[.agg #[.slice Bb Ma.length Ab,.int .i64 Pa,.int .i64 Qa,.int .i64 Oa,.slice Qb za.length Gb],.int .i64 0,.int .i64 Wd,.slice MF nt.length vF] rfl baf ?_;(with_reducible refine (Za.calls k2 _ _ Ma Pa Qa Oa _ _ za 0 Wd (fun k_=>some k_=(.slice MF nt.length vF:Value).ownBlock) (.slice MF nt.length vF) nt t116 w _ ?Gd ?Ed ?Cj ?Bj ?Iy ?Hy A29.out).mono ?_);(case Gd=>repeat (first|(with_reducible first|exact HB.out|apply ia|apply ga|apply ja|refine ya ?_ mb.out)|exact HB.out));(case Ed=>exact Kd.oo (Kd.fh .i64) Qg.out Xae (fun k_ hs_=>(fun e_=>Kd.ug qp.out k_ e_.symm) hs_));(case Cj=>exact Sg.out);(case Bj=>exact Kd.oo GG Ei.out Xae (fun k_ hs_=>(fun e_=>Kd.ug qp.out k_ e_.symm) hs_));(case Iy=>exact Uk.out);(case Hy=>exact Kd.uj rfl qp.out);rintro e w32 ⟨rfl,hy0,hb,hkp⟩;refine ⟨_,rfl,?_⟩;have Kb:=aa.mk (Kd.Db (Wk:=fun k_=>some k_ ≠ (.slice MF nt.length vF:Value).ownBlock) (Kd.qu (Cc.out) hkp (fun k_ Ir hs_=>(Ir.2) hs_)) (fun k_ Ir=>Ir.1.2));have Ob:=aa.mk (Kd.Rf (Wk:=fun k_=>some k_ ≠ (Ng:Value).ownBlock∧some k_ ≠ (.slice MF nt.length vF:Value).ownBlock) (Kd.dL (Dh.out) hkp (fun k_ Ir hs_=>(Ir.2) hs_)) (fun k_ Ir=>⟨Ir.1.1,Ir.1.2⟩));have fc:=aa.mk (jg Zae hkp (fun hs_=>(fun e_=>(Kd.Pp qp.out ta.out (by decide)) e_) hs_));have Sc:=aa.mk (Kd.OI rfl hy0 (fun k_ e_=>qp.out.1 k_ e_));have uf:=aa.mk (hb);clear Cc Dh ta qp HB;have Cc:=Kb;have Dh:=Ob;have ta:=fc;have qp:=Sc;have HB:=uf;clear Kb Ob fc Sc uf;(try clear hb);(try clear hkp);(try clear hy0)))
             go_meet
             case rel=>exact ⟨_,(t116),H',⟨by have:=Gf.out;have:=zk.out;first|omega|exact Nat.le_refl _⟩,⟨yaf⟩,⟨by (with_reducible repeat (first|apply Kd.kf|apply Kd.jf|apply Kd.Xf));exact Dh.out⟩,⟨by (with_reducible repeat (first|apply Kd.Ka|apply Kd.La|apply Kd.Sa));exact Kd.Db qp.out (fun _ hk=>hk.2)⟩,⟨faf⟩,⟨aaf⟩⟩
           case rest =>
            clear jR
            try clear c1
            try clear p1
            try clear q1
            try clear hx1
            try clear T9
            try clear c2
            try clear Jm
            try clear Ro
            try clear p2
            try clear c3
            try clear Yg
            try clear Mp
            try clear c6
            try clear p6
            try clear pY
            try clear Qy
            try clear Oy
            try clear zO
            try clear zI
            try clear XD
            try clear WD
            try clear Zz
            try clear PB
            try clear yw
            try clear ny
            try clear xw
            try clear gK
            try clear aK
            try clear dS
            try clear CS
            try clear AF
            try clear tI
            try clear js
            try clear av
            try clear Wz
            try clear VF
            try clear sI
            try clear FM
            try clear Fv
            try clear Zn
            try clear rI
            try clear zD
            try clear yD
            try clear xD
            try clear wD
            try clear vD
            try clear Vr
            try clear Ur
            try clear Tr
            try clear Sr
            try clear Qr
            try clear ak
            try clear Zj
            try clear Yj
            try clear Xj
            try clear Wj
            try clear cD
            try clear bD
            try clear aD
            try clear ZC
            try clear YC
            try clear Nr
            try clear Mr
            try clear Lr
            try clear Kr
            try clear Jr
            try clear Vj
            try clear Uj
            try clear Tj
            try clear Sj
            try clear Rj
            try clear Zw
            try clear lB
            try clear p1
            try clear Qy
            try clear KE
            try clear gK
            try clear p2
            try clear p6
            try clear q1
            try clear Oy
            try clear IE
            try clear aK
            obtain ⟨kq,Dg,HA,sA,Cc,Dh,Zf,ta,HB⟩:=hcut;cases kq with
            | zero=>exact absurd HA.out (by simp [Ta.j2])
            | succ iO =>
             have H:=HA.out;clear HA;simp only [Ta.j2] at H
             by_cases qI:0 ≤ (za.length:Int)
             ·rw [if_pos qI] at H;have JT:=eq_true qI;have FT:decide (0 ≤ (za.length:Int))=true:=decide_eq_true qI;clear qI
              by_cases RF:((za.length:Int):Int).toNat ≤ 281474976710656
              ·rw [if_pos RF] at H;have ET:=eq_true RF;have DT:decide (((za.length:Int):Int).toNat ≤ 281474976710656)=true:=decide_eq_true RF;clear RF;obtain ⟨yE,Qn⟩:∃ y_:List Bool,y_=(List.replicate ((za.length:Int):Int).toNat false):=⟨_,rfl⟩;replace H:(Ta.l2 iO (za.length:Int) Ie Be Wd Dg yE 0 Ma Pa Qa Oa za)=some r:=by first|(rw [Qn];with_reducible exact H)|(have Mc:=(Option.bind_some _ _).symm.trans H;rw [Qn];with_reducible exact Mc)|(have Mc:=(Option.bind_some _ _).symm.trans H;with_reducible exact Mc)|with_reducible exact H|(rw [Qn];exact H)|exact H
               have eE:=aa.mk Qn;clear Qn;have H':=aa.mk H;clear H;go_wp2_with (first|((with_reducible refine Lb (N:=46) rfl ?_);refine Kd.Qp Kd.bool _ 4 rfl (N:=46) rfl 73 _ _ rfl (za.length:Int) rfl rfl Try.underlying73 (.bool false) 1 zC rfl (by decide) (by omega) false (ok:=fun _=>True) (Ag:=fun _=>True) rfl (fun _ hk=>hk) trivial (Ia) (Nat.le_trans (Nat.mul_le_mul_right _ (Ia:(za.length:Int).toNat ≤ 281474976710656)) (by omega)) (Below.refl _ _) (Nat.le_refl _) ?_;intro uy qR gz hb Hl Je;clear Hl Je;(first|rw [← eE.out] at gz|(simp only [Int.reduceToNat] at gz;rw [← eE.out] at gz));have Kb:=aa.mk (Kd.mh gaf (Kd.ug gz) hb);have Ob:=aa.mk (Kd.ov Kaf (Kd.ug gz) hb);have fc:=aa.mk (Kd.mh uaf (Kd.ug gz) hb);have Sc:=aa.mk (Kd.Xc (Kd.Wi (Kd.Wi gz (Kd.ek gaf)) (Kd.ek uaf)) (Ra Xae));have uf:=aa.mk (Ua (g:=Ja) (o:=.cells #[.slice Bb Ma.length Ab,.int .i64 Pa,.int .i64 Qa,.int .i64 Oa,.slice Qb za.length Gb] 45 (0,0)) Zae hb);have qh:=aa.mk (Fa Xae hb);clear Cc Dh Zf ta HB;have Cc:=Kb;have Dh:=Ob;have Zf:=fc;have Bl:=Sc;have ta:=uf;have HB:=qh;clear Kb Ob fc Sc uf qh hb gz))
               go_loopg [11] iO (fun kq v11 w'=>∃ (je:List Bool) (oc:Int),v11 = .int .i64 oc∧aa (Ta.l2 kq (za.length:Int) Ie Be Wd Dg je oc Ma Pa Qa Oa za=some r)∧aa (kq ≤ iO)∧aa (Kd.R Kd.bool 4 w' w.heap.size (fun k_=>some k_ ≠ (Mo:Value).ownBlock∧some k_ ≠ (uy:Value).ownBlock) Ng Ie)∧aa (Kd.S (Kd.slice 4 Kd.bool) 73 w' w.heap.size (fun k_=>some k_ ≠ (Ng:Value).ownBlock∧some k_ ≠ (Mo:Value).ownBlock∧some k_ ≠ (uy:Value).ownBlock) u7 Be)∧aa (Kd.R Kd.bool 4 w' w.heap.size (fun k_=>some k_ ≠ (Ng:Value).ownBlock∧some k_ ≠ (uy:Value).ownBlock) Mo Dg)∧aa (Kd.R Kd.bool 4 w' w.heap.size (fun k_=>some k_ ≠ (Ng:Value).ownBlock∧some k_ ≠ (Mo:Value).ownBlock) uy je)∧aa (w'.heap[Ja]? = some (.cells #[(.slice Bb Ma.length Ab),.int .i64 Pa,.int .i64 Qa,.int .i64 Oa,(.slice Qb za.length Gb)] 45 (0,0)))∧aa (Below w.heap.size w w'))
               case atStart=>exact ⟨(yE),(0),daf,H',⟨Nat.le_refl _⟩,⟨yaf⟩,⟨Eaf⟩,⟨Maf⟩,⟨by (with_reducible repeat (first|apply Kd.Ka|apply Kd.La|apply Kd.Sa));exact Kd.Db Bl.out (fun _ hk=>⟨hk.1.2,hk.2⟩)⟩,⟨faf⟩,⟨aaf⟩⟩
               case round =>
                clear H'
                try clear c1
                try clear p1
                try clear q1
                try clear hx1
                try clear T9
                try clear c2
                try clear Jm
                try clear Ro
                try clear p2
                try clear c3
                try clear Yg
                try clear Mp
                try clear c6
                try clear p6
                try clear pY
                try clear Qy
                try clear Oy
                try clear zO
                try clear zI
                try clear XD
                try clear WD
                try clear Zz
                try clear PB
                try clear yw
                try clear ny
                try clear xw
                try clear gK
                try clear aK
                try clear dS
                try clear CS
                try clear AF
                try clear tI
                try clear js
                try clear av
                try clear Wz
                try clear VF
                try clear sI
                try clear FM
                try clear Fv
                try clear Zn
                try clear rI
                try clear qI
                try clear JT
                try clear FT
                try clear RF
                try clear ET
                try clear DT
                try clear zD
                try clear yD
                try clear xD
                try clear wD
                try clear vD
                try clear Vr
                try clear Ur
                try clear Tr
                try clear Sr
                try clear Qr
                try clear ak
                try clear Zj
                try clear Yj
                try clear Xj
                try clear Wj
                try clear cD
                try clear bD
                try clear aD
                try clear ZC
                try clear YC
                try clear Nr
                try clear Mr
                try clear Lr
                try clear Kr
                try clear Jr
                try clear Vj
                try clear Uj
                try clear Tj
                try clear Sj
                try clear Rj
                try clear Zw
                try clear lB
                try clear p1
                try clear Qy
                try clear KE
                try clear gK
                try clear p2
                try clear p6
                try clear q1
                try clear Oy
                try clear IE
                try clear aK
                (try clear HA);(try clear AL);(try clear Cc);(try clear Dh);(try clear Zf);(try clear Rg);(try clear ta);(try clear HB);obtain ⟨je,oc,rfl,HA,AL,Cc,Dh,Zf,Rg,ta,HB⟩:=hrel;cases gk with
                | zero=>exact absurd HA.out (by simp [Ta.l2])
                | succ k4 =>
                 have H:=HA.out;clear HA;simp only [Ta.l2] at H
                 by_cases vR:oc < (za.length:Int)
                 ·rw [if_pos vR] at H;have CT:decide (oc < (za.length:Int))=true:=decide_eq_true vR;clear vR
                  by_cases nY:0 ≤ Wd
                  ·rw [if_pos nY] at H;have H_:decide (0 ≤ Wd)=true:=decide_eq_true nY;clear nY
                   by_cases mY:Wd < (Ie.length:Int)
                   ·rw [if_pos mY] at H;have G_:decide (Wd < (Ie.length:Int))=true:=decide_eq_true mY;clear mY;obtain ⟨WT,NH⟩:∃ b_:Bool,b_=(Tf false Ie Wd):=⟨_,rfl⟩;replace H:(if WT=true then (if 0 ≤ oc then (if oc < (Ie.length:Int) then (if Tf false Ie oc=true then (if oc < (Dg.length:Int) then (if oc < (je.length:Int) then (Ta.l2 k4 (za.length:Int) Ie Be Wd Dg (je.set (oc:Int).toNat (!(Tf false Dg oc))) (wrap64 (oc + 1)) Ma Pa Qa Oa za) else (none)) else (none)) else (if oc < (je.length:Int) then (Ta.l2 k4 (za.length:Int) Ie Be Wd Dg (je.set (oc:Int).toNat false) (wrap64 (oc + 1)) Ma Pa Qa Oa za) else (none))) else (none)) else (none)) else (if 0 ≤ oc then (if oc < (je.length:Int) then (Ta.l2 k4 (za.length:Int) Ie Be Wd Dg (je.set (oc:Int).toNat false) (wrap64 (oc + 1)) Ma Pa Qa Oa za) else (none)) else (none)))=some r:=by rw [← NH] at H;exact H
                    have Fw:=aa.mk NH;clear NH
                    by_cases lY:WT=true
                    ·subst lY;rw [if_pos rfl] at H
                     by_cases pI:0 ≤ oc
                     ·rw [if_pos pI] at H;have BM:decide (0 ≤ oc)=true:=decide_eq_true pI;clear pI
                      by_cases WK:oc < (Ie.length:Int)
                      ·rw [if_pos WK] at H;have yT:decide (oc < (Ie.length:Int))=true:=decide_eq_true WK;clear WK;obtain ⟨VT,MH⟩:∃ b_:Bool,b_=(Tf false Ie oc):=⟨_,rfl⟩;replace H:(if VT=true then (if oc < (Dg.length:Int) then (if oc < (je.length:Int) then (Ta.l2 k4 (za.length:Int) Ie Be Wd Dg (je.set (oc:Int).toNat (!(Tf false Dg oc))) (wrap64 (oc + 1)) Ma Pa Qa Oa za) else (none)) else (none)) else (if oc < (je.length:Int) then (Ta.l2 k4 (za.length:Int) Ie Be Wd Dg (je.set (oc:Int).toNat false) (wrap64 (oc + 1)) Ma Pa Qa Oa za) else (none)))=some r:=by rw [← MH] at H;exact H
                       have qA:=aa.mk MH;clear MH
                       by_cases VK:VT=true
                       ·subst VK;rw [if_pos rfl] at H
                        by_cases kY:oc < (Dg.length:Int)
                        ·rw [if_pos kY] at H;have F_:decide (oc < (Dg.length:Int))=true:=decide_eq_true kY;clear kY
                         by_cases jY:oc < (je.length:Int)
                         ·rw [if_pos jY] at H;have E_:decide (oc < (je.length:Int))=true:=decide_eq_true jY;clear jY;obtain ⟨FN,Yy⟩:∃ y_:List Bool,y_=(je.set (oc:Int).toNat (!(Tf false Dg oc))):=⟨_,rfl⟩;replace H:(Ta.l2 k4 (za.length:Int) Ie Be Wd Dg FN (wrap64 (oc + 1)) Ma Pa Qa Oa za)=some r:=by first|(rw [Yy];with_reducible exact H)|(have Mc:=(Option.bind_some _ _).symm.trans H;rw [Yy];with_reducible exact Mc)|(have Mc:=(Option.bind_some _ _).symm.trans H;with_reducible exact Mc)|with_reducible exact H|(rw [Yy];exact H)|exact H
                          have wU:=aa.mk Yy;clear Yy;have H':=aa.mk H;clear H;obtain ⟨zad,fQ,S3⟩:=Kd.ic Cc.out;subst S3;have Ep:0 ≤ (Wd:Int):=Ia;have Bp:Wd < (Ie.length:Int):=Ia;obtain ⟨fk,FB,sj⟩:=Kd.Ui (Kd.Wa Cc.out).2.2 Wd Ep Bp;(try rw [← Fw.out] at sj);(try rw [← qA.out] at sj);cases FB;replace Ep:=eq_true Ep;replace Bp:=eq_true Bp;have Qo:0 ≤ (oc:Int):=Ia;have Po:oc < (Ie.length:Int):=Ia;obtain ⟨Ol,EB,ql⟩:=Kd.Ui (Kd.Wa Cc.out).2.2 oc Qo Po;(try rw [← Fw.out] at ql);(try rw [← qA.out] at ql);obtain rfl:fk=Ol:=(by injection EB);replace Qo:=eq_true Qo;replace Po:=eq_true Po;obtain ⟨xad,dQ,R3⟩:=Kd.ic Zf.out;subst R3;have Bt:0 ≤ (oc:Int):=Ia;have yt:oc < (Dg.length:Int):=Ia;obtain ⟨jv,fI,Li⟩:=Kd.Ui (Kd.Wa Zf.out).2.2 oc Bt yt;(try rw [← Fw.out] at Li);(try rw [← qA.out] at Li);cases fI;replace Bt:=eq_true Bt;replace yt:=eq_true yt;have vZ:0 ≤ (oc:Int):=Ia;have pZ:(oc:Int) < ((je.length:Int):Int):=Ia;obtain ⟨xx,NB,nT,bT,F3,sac,AV⟩:=Kd.Uh Rg.out (by omega);(first|cases nT|(injection nT with qi Dt Et;(first|subst qi|(injection qi with qi;subst qi));subst Et;clear Dt));have k6:=aa.mk bT;have rad:=aa.mk AV;clear bT F3 AV;obtain ⟨EZ,E1⟩:=Kd.Yf false Rg.out (oc:Int) vZ pZ;replace vZ:=eq_true vZ;replace pZ:=eq_true pZ;have LQ:=Kd.kj Rg.out (oc:Int) (!(Tf false Dg oc));go_wp2_with (first|((with_reducible refine Od (t:=4) (p:=71) rfl ?_);refine Uc (t:=4) (p:=71) (v:=?QY) (w1:=(wr.setCell ⟨xx,(oc:Int).toNat,none⟩ (.bool (!(Tf false Dg oc))))) ?hg ?ho ?hn ?hr ?_;(case ho=>rfl);(case hg=>rfl);(case hn=>rfl);(case hr=>exact Vae);intro KY hw;have hg:wr.grownBy KY (some xx):=(by rw [hw];exact LQ.2);have Si:Kd.R Kd.bool 4 KY w.heap.size (fun k_=>some k_ ≠ (.slice (some fk) Ie.length fQ:Value).ownBlock∧some k_ ≠ (.slice (some jv) Dg.length dQ:Value).ownBlock) (.slice (some ⟨xx,0,none⟩) je.length NB) FN:=(by rw [hw,wU.out];exact LQ.1);clear LQ;have Kb:=aa.mk (Kd.kg (v:=(.slice (some ⟨xx,0,none⟩) je.length NB)) (v1:=(.slice (some ⟨xx,0,none⟩) je.length NB)) (ok:=(fun k_=>some k_ ≠ (.slice (some jv) Dg.length dQ:Value).ownBlock)) gaf hg (.inl rfl));have Ob:=aa.mk (Kd.Rx (v:=(.slice (some ⟨xx,0,none⟩) je.length NB)) (v1:=(.slice (some ⟨xx,0,none⟩) je.length NB)) (ok:=(fun k_=>some k_ ≠ (.slice (some fk) Ie.length fQ:Value).ownBlock∧some k_ ≠ (.slice (some jv) Dg.length dQ:Value).ownBlock)) Jaf hg (.inl rfl));have fc:=aa.mk (Kd.kg (v:=(.slice (some ⟨xx,0,none⟩) je.length NB)) (v1:=(.slice (some ⟨xx,0,none⟩) je.length NB)) (ok:=(fun k_=>some k_ ≠ (.slice (some fk) Ie.length fQ:Value).ownBlock)) uaf hg (.inl rfl));have Sc:=aa.mk (Si);have uf:=aa.mk (yf (g:=Ja) (o:=.cells #[.slice Bb Ma.length Ab,.int .i64 Pa,.int .i64 Qa,.int .i64 Oa,.slice Qb za.length Gb] 45 (0,0)) Zae hg (Kd.Pp Rg.out ta.out (by decide)));have qh:=aa.mk ((by rw [hw];exact ya (HB.out) k6.out:Below w.heap.size w KY));clear Cc Dh Zf Rg ta HB;have Cc:=Kb;have Dh:=Ob;have Zf:=fc;have Rg:=Sc;have ta:=uf;have HB:=qh;clear Kb Ob fc Sc uf qh hg hw Si))
                          go_roundg k4
                          case measure=>have:=Gf.out;have:=zk.out;have:=sA.out;have:=AL.out;omega
                          case rel=>exact ⟨(FN),(wrap64 (oc + 1)),daf,H',⟨by have:=Gf.out;have:=zk.out;have:=sA.out;have:=AL.out;omega⟩,⟨yaf⟩,⟨Eaf⟩,⟨Maf⟩,⟨by (with_reducible repeat (first|apply Kd.Ka|apply Kd.La|apply Kd.Sa));exact Rg.out⟩,⟨faf⟩,⟨aaf⟩⟩
                         ·rw [if_neg jY] at H;exact absurd H (by simp)
                        ·rw [if_neg kY] at H;exact absurd H (by simp)
                       ·replace VK:=Bool.eq_false_iff.mpr VK;subst VK;rw [if_neg (show ¬ (false=true) by decide)] at H
                        by_cases iY:oc < (je.length:Int)
                        ·rw [if_pos iY] at H;have D_:decide (oc < (je.length:Int))=true:=decide_eq_true iY;clear iY;obtain ⟨qy,Nn⟩:∃ y_:List Bool,y_=(je.set (oc:Int).toNat false):=⟨_,rfl⟩;replace H:(Ta.l2 k4 (za.length:Int) Ie Be Wd Dg qy (wrap64 (oc + 1)) Ma Pa Qa Oa za)=some r:=by first|(rw [Nn];with_reducible exact H)|(have Mc:=(Option.bind_some _ _).symm.trans H;rw [Nn];with_reducible exact Mc)|(have Mc:=(Option.bind_some _ _).symm.trans H;with_reducible exact Mc)|with_reducible exact H|(rw [Nn];exact H)|exact H
                         have UI:=aa.mk Nn;clear Nn;have H':=aa.mk H;clear H;obtain ⟨wad,cQ,Q3⟩:=Kd.ic Cc.out;subst Q3;have Ep:0 ≤ (Wd:Int):=Ia;have Bp:Wd < (Ie.length:Int):=Ia;obtain ⟨fk,FB,sj⟩:=Kd.Ui (Kd.Wa Cc.out).2.2 Wd Ep Bp;(try rw [← Fw.out] at sj);(try rw [← qA.out] at sj);cases FB;replace Ep:=eq_true Ep;replace Bp:=eq_true Bp;have Qo:0 ≤ (oc:Int):=Ia;have Po:oc < (Ie.length:Int):=Ia;obtain ⟨Ol,EB,ql⟩:=Kd.Ui (Kd.Wa Cc.out).2.2 oc Qo Po;(try rw [← Fw.out] at ql);(try rw [← qA.out] at ql);obtain rfl:fk=Ol:=(by injection EB);replace Qo:=eq_true Qo;replace Po:=eq_true Po;have uZ:0 ≤ (oc:Int):=Ia;have oZ:(oc:Int) < ((je.length:Int):Int):=Ia;obtain ⟨ux,MB,mT,ZS,D3,qac,zV⟩:=Kd.Uh Rg.out (by omega);(first|cases mT|(injection mT with qi Dt Et;(first|subst qi|(injection qi with qi;subst qi));subst Et;clear Dt));have j6:=aa.mk ZS;have oad:=aa.mk zV;clear ZS D3 zV;obtain ⟨DZ,D1⟩:=Kd.Yf false Rg.out (oc:Int) uZ oZ;replace uZ:=eq_true uZ;replace oZ:=eq_true oZ;have KQ:=Kd.kj Rg.out (oc:Int) false;go_wp2_with (first|((with_reducible refine Od (t:=4) (p:=71) rfl ?_);refine Uc (t:=4) (p:=71) (v:=?PY) (w1:=(wr.setCell ⟨ux,(oc:Int).toNat,none⟩ (.bool false))) ?hg ?ho ?hn ?hr ?_;(case ho=>rfl);(case hg=>rfl);(case hn=>rfl);(case hr=>exact Vae);intro JY hw;have hg:wr.grownBy JY (some ux):=(by rw [hw];exact KQ.2);have Si:Kd.R Kd.bool 4 JY w.heap.size (fun k_=>some k_ ≠ (.slice (some fk) Ie.length cQ:Value).ownBlock∧some k_ ≠ (Mo:Value).ownBlock) (.slice (some ⟨ux,0,none⟩) je.length MB) qy:=(by rw [hw,UI.out];exact KQ.1);clear KQ;have Kb:=aa.mk (Kd.kg (v:=(.slice (some ⟨ux,0,none⟩) je.length MB)) (v1:=(.slice (some ⟨ux,0,none⟩) je.length MB)) (ok:=(fun k_=>some k_ ≠ (Mo:Value).ownBlock)) gaf hg (.inl rfl));have Ob:=aa.mk (Kd.Rx (v:=(.slice (some ⟨ux,0,none⟩) je.length MB)) (v1:=(.slice (some ⟨ux,0,none⟩) je.length MB)) (ok:=(fun k_=>some k_ ≠ (.slice (some fk) Ie.length cQ:Value).ownBlock∧some k_ ≠ (Mo:Value).ownBlock)) Jaf hg (.inl rfl));have fc:=aa.mk (Kd.kg (v:=(.slice (some ⟨ux,0,none⟩) je.length MB)) (v1:=(.slice (some ⟨ux,0,none⟩) je.length MB)) (ok:=(fun k_=>some k_ ≠ (.slice (some fk) Ie.length cQ:Value).ownBlock)) uaf hg (.inl rfl));have Sc:=aa.mk (Si);have uf:=aa.mk (yf (g:=Ja) (o:=.cells #[.slice Bb Ma.length Ab,.int .i64 Pa,.int .i64 Qa,.int .i64 Oa,.slice Qb za.length Gb] 45 (0,0)) Zae hg (Kd.Pp Rg.out ta.out (by decide)));have qh:=aa.mk ((by rw [hw];exact ya (HB.out) j6.out:Below w.heap.size w JY));clear Cc Dh Zf Rg ta HB;have Cc:=Kb;have Dh:=Ob;have Zf:=fc;have Rg:=Sc;have ta:=uf;have HB:=qh;clear Kb Ob fc Sc uf qh hg hw Si))
                         go_roundg k4
                         case measure=>have:=Gf.out;have:=zk.out;have:=sA.out;have:=AL.out;omega
                         case rel=>exact ⟨(qy),(wrap64 (oc + 1)),daf,H',⟨by have:=Gf.out;have:=zk.out;have:=sA.out;have:=AL.out;omega⟩,⟨yaf⟩,⟨Eaf⟩,⟨Maf⟩,⟨by (with_reducible repeat (first|apply Kd.Ka|apply Kd.La|apply Kd.Sa));exact Rg.out⟩,⟨faf⟩,⟨aaf⟩⟩
                        ·rw [if_neg iY] at H;exact absurd H (by simp)
                      ·rw [if_neg WK] at H;exact absurd H (by simp)
                     ·rw [if_neg pI] at H;exact absurd H (by simp)
                    ·replace lY:=Bool.eq_false_iff.mpr lY;subst lY;rw [if_neg (show ¬ (false=true) by decide)] at H
                     by_cases gY:0 ≤ oc
                     ·rw [if_pos gY] at H;have C_:decide (0 ≤ oc)=true:=decide_eq_true gY;clear gY
                      by_cases fY:oc < (je.length:Int)
                      ·rw [if_pos fY] at H;have B_:decide (oc < (je.length:Int))=true:=decide_eq_true fY;clear fY;obtain ⟨xE,Mn⟩:∃ y_:List Bool,y_=(je.set (oc:Int).toNat false):=⟨_,rfl⟩;replace H:(Ta.l2 k4 (za.length:Int) Ie Be Wd Dg xE (wrap64 (oc + 1)) Ma Pa Qa Oa za)=some r:=by first|(rw [Mn];with_reducible exact H)|(have Mc:=(Option.bind_some _ _).symm.trans H;rw [Mn];with_reducible exact Mc)|(have Mc:=(Option.bind_some _ _).symm.trans H;with_reducible exact Mc)|with_reducible exact H|(rw [Mn];exact H)|exact H
                       have TI:=aa.mk Mn;clear Mn;have H':=aa.mk H;clear H;obtain ⟨vad,bQ,O3⟩:=Kd.ic Cc.out;subst O3;have Ep:0 ≤ (Wd:Int):=Ia;have Bp:Wd < (Ie.length:Int):=Ia;obtain ⟨fk,FB,sj⟩:=Kd.Ui (Kd.Wa Cc.out).2.2 Wd Ep Bp;(try rw [← Fw.out] at sj);cases FB;replace Ep:=eq_true Ep;replace Bp:=eq_true Bp;have tZ:0 ≤ (oc:Int):=Ia;have nZ:(oc:Int) < ((je.length:Int):Int):=Ia;obtain ⟨sx,LB,lT,YS,C3,pac,xV⟩:=Kd.Uh Rg.out (by omega);(first|cases lT|(injection lT with qi Dt Et;(first|subst qi|(injection qi with qi;subst qi));subst Et;clear Dt));have Z5:=aa.mk YS;have nad:=aa.mk xV;clear YS C3 xV;obtain ⟨CZ,C1⟩:=Kd.Yf false Rg.out (oc:Int) tZ nZ;replace tZ:=eq_true tZ;replace nZ:=eq_true nZ;have JQ:=Kd.kj Rg.out (oc:Int) false;go_wp2_with (first|((with_reducible refine Od (t:=4) (p:=71) rfl ?_);refine Uc (t:=4) (p:=71) (v:=?OY) (w1:=(wr.setCell ⟨sx,(oc:Int).toNat,none⟩ (.bool false))) ?hg ?ho ?hn ?hr ?_;(case ho=>rfl);(case hg=>rfl);(case hn=>rfl);(case hr=>exact Vae);intro IY hw;have hg:wr.grownBy IY (some sx):=(by rw [hw];exact JQ.2);have Si:Kd.R Kd.bool 4 IY w.heap.size (fun k_=>some k_ ≠ (.slice (some fk) Ie.length bQ:Value).ownBlock∧some k_ ≠ (Mo:Value).ownBlock) (.slice (some ⟨sx,0,none⟩) je.length LB) xE:=(by rw [hw,TI.out];exact JQ.1);clear JQ;have Kb:=aa.mk (Kd.kg (v:=(.slice (some ⟨sx,0,none⟩) je.length LB)) (v1:=(.slice (some ⟨sx,0,none⟩) je.length LB)) (ok:=(fun k_=>some k_ ≠ (Mo:Value).ownBlock)) gaf hg (.inl rfl));have Ob:=aa.mk (Kd.Rx (v:=(.slice (some ⟨sx,0,none⟩) je.length LB)) (v1:=(.slice (some ⟨sx,0,none⟩) je.length LB)) (ok:=(fun k_=>some k_ ≠ (.slice (some fk) Ie.length bQ:Value).ownBlock∧some k_ ≠ (Mo:Value).ownBlock)) Jaf hg (.inl rfl));have fc:=aa.mk (Kd.kg (v:=(.slice (some ⟨sx,0,none⟩) je.length LB)) (v1:=(.slice (some ⟨sx,0,none⟩) je.length LB)) (ok:=(fun k_=>some k_ ≠ (.slice (some fk) Ie.length bQ:Value).ownBlock)) uaf hg (.inl rfl));have Sc:=aa.mk (Si);have uf:=aa.mk (yf (g:=Ja) (o:=.cells #[.slice Bb Ma.length Ab,.int .i64 Pa,.int .i64 Qa,.int .i64 Oa,.slice Qb za.length Gb] 45 (0,0)) Zae hg (Kd.Pp Rg.out ta.out (by decide)));have qh:=aa.mk ((by rw [hw];exact ya (HB.out) Z5.out:Below w.heap.size w IY));clear Cc Dh Zf Rg ta HB;have Cc:=Kb;have Dh:=Ob;have Zf:=fc;have Rg:=Sc;have ta:=uf;have HB:=qh;clear Kb Ob fc Sc uf qh hg hw Si))
                       go_roundg k4
                       case measure=>have:=Gf.out;have:=zk.out;have:=sA.out;have:=AL.out;omega
                       case rel=>exact ⟨(xE),(wrap64 (oc + 1)),daf,H',⟨by have:=Gf.out;have:=zk.out;have:=sA.out;have:=AL.out;omega⟩,⟨yaf⟩,⟨Eaf⟩,⟨Maf⟩,⟨by (with_reducible repeat (first|apply Kd.Ka|apply Kd.La|apply Kd.Sa));exact Rg.out⟩,⟨faf⟩,⟨aaf⟩⟩
                      ·rw [if_neg fY] at H;exact absurd H (by simp)
                     ·rw [if_neg gY] at H;exact absurd H (by simp)
                   ·rw [if_neg mY] at H;exact absurd H (by simp)
                  ·rw [if_neg nY] at H;exact absurd H (by simp)
                 ·rw [if_neg vR] at H;have CT:decide (oc < (za.length:Int))=false:=decide_eq_false vR;clear vR
                  by_cases eY:Be.length < 5864062014805
                  ·rw [if_pos eY] at H;have CU:=aa.mk eY;clear eY;obtain ⟨YF,Ln⟩:∃ y_:List (List Bool),y_=(Be ++ [je]):=⟨_,rfl⟩;replace H:(Ta.l1 k4 (za.length:Int) Ie YF (wrap64 (Wd + 1)) Ma Pa Qa Oa za)=some r:=by first|(rw [Ln];with_reducible exact H)|(have Mc:=(Option.bind_some _ _).symm.trans H;rw [Ln];with_reducible exact Mc)|(have Mc:=(Option.bind_some _ _).symm.trans H;with_reducible exact Mc)|with_reducible exact H|(rw [Ln];exact H)|exact H
                   have SI:=aa.mk Ln;clear Ln;have H':=aa.mk H;clear H;obtain ⟨TV,pT,N3⟩:=Kd.ic Rg.out;subst N3;go_wp2_with (first|((with_reducible refine Xg (b:=.append) (xs:=#[.tmp 72,.tmp 74]) rfl ?_);at_builtin;refine Kd.NI (Kd.slice 4 Kd.bool) (w0:=w) w.heap.size rfl (.tmp 72) (.tmp 74) 75 73 (.slice none 0 0) 24 rfl Try.underlying75 kO rfl (by decide) (by omega) u7 Be je [.slice TV je.length pT] (fun k_=>some k_ ≠ (Ng:Value).ownBlock∧some k_ ≠ (Mo:Value).ownBlock) (fun k_=>some k_=(.slice TV je.length pT:Value).ownBlock) rfl rfl ?aP (fun k_ Ir=>((Kd.Db (Wk:=fun k_=>((fun k_=>some k_ ≠ (Ng:Value).ownBlock∧some k_ ≠ (Mo:Value).ownBlock)) k_∧some k_ ≠ (u7:Value).ownBlock) (Kd.jo (Rg.out) (Kd.Ko Dh.out) (by decide)) (fun k_ hk=>⟨⟨hk.1.1,hk.1.2⟩,hk.2⟩))).1 k_ Ir.symm) ?aF ?aO ?aB ?aS ?aL ?_;(case aP=>exact Kd.BU (Kd.Db (Kd.uj rfl (Kd.Db (Wk:=fun k_=>((fun k_=>some k_ ≠ (Ng:Value).ownBlock∧some k_ ≠ (Mo:Value).ownBlock)) k_∧some k_ ≠ (u7:Value).ownBlock) (Kd.jo (Rg.out) (Kd.Ko Dh.out) (by decide)) (fun k_ hk=>⟨⟨hk.1.1,hk.1.2⟩,hk.2⟩))) (fun _ h_=>h_)));(case aB=>exact Xae);(case aF=>exact (fun k_ hk=>⟨Kd.fresh' (Kd.ek gaf) k_ hk,Kd.fresh' (Kd.ek uaf) k_ hk⟩));(case aO=>exact (by (with_reducible repeat (first|apply Kd.kf|apply Kd.jf|apply Kd.Xf));exact Kd.Rf Dh.out (fun k_ hk=>⟨⟨hk.1,hk.2.1⟩,fun e_=>hk.2.2 e_⟩)));(case aS=>exact (Ra Xae));(case aL=>have:=CU.out;omega);intro v127 w65 ho hb hg hat;rw [← SI.out] at ho;have Kb:=aa.mk (Kd.wj gaf (Kd.Ko Kaf) (by decide) hg);have Ob:=aa.mk (Kd.wj uaf (Kd.Ko Kaf) (by decide) hg);have fc:=aa.mk (yf (g:=Ja) (o:=.cells #[.slice Bb Ma.length Ab,.int .i64 Pa,.int .i64 Qa,.int .i64 Oa,.slice Qb za.length Gb] 45 (0,0)) Zae hg (Kd.j5 Dh.out ta.out (by decide)));have Sc:=aa.mk (hb);have uf:=aa.mk (ho);clear Cc Zf ta HB Dh Rg;have Cc:=Kb;have Zf:=Ob;have ta:=fc;have HB:=Sc;have gJ:=uf;clear Kb Ob fc Sc uf ho hb hg hat))
                   go_roundg k4
                   case measure=>have:=Gf.out;have:=zk.out;have:=sA.out;have:=AL.out;omega
                   case rel=>exact ⟨(Ie),(YF),(wrap64 (Wd + 1)),daf,H',⟨by have:=Gf.out;have:=zk.out;have:=sA.out;have:=AL.out;omega⟩,⟨by (with_reducible repeat (first|apply Kd.Ka|apply Kd.La|apply Kd.Sa));exact Kd.Db Cc.out (fun _ hk=>trivial)⟩,⟨by (with_reducible repeat (first|apply Kd.kf|apply Kd.jf|apply Kd.Xf));exact Kd.Rf gJ.out (fun _ hk=>hk.1)⟩,⟨faf⟩,⟨aaf⟩⟩
                  ·rw [if_neg eY] at H;exact absurd H (by simp)
              ·rw [if_neg RF] at H;exact absurd H (by simp)
             ·rw [if_neg qI] at H;exact absurd H (by simp)
          ·rw [if_neg VF] at H;exact absurd H (by simp)
         ·rw [if_neg js] at H;exact absurd H (by simp)
        ·rw [if_neg AF] at H;have tI:decide (Wd < (za.length:Int))=false:=decide_eq_false AF;clear AF;obtain rfl:=Option.some.inj H;go_wp2;go_ret;exact ⟨_,eaf,by (with_reducible repeat (first|apply Kd.kf|apply Kd.jf|apply Kd.Xf));exact Kd.Rf Dh.out (fun _ hk=>trivial),aaf⟩
  ·rw [if_neg c3] at H;exact absurd H (by simp)
 ·rw [if_neg c2] at H;exact absurd H (by simp)
def Og:List Bool→Nat→List Int
 | [],_=>[]
 | b :: s,i=>if b=true then (i:Int) :: Og s (i + 1) else Og s (i + 1)
theorem Vp:∀ (s:List Bool) (i:Nat),(Og s i).length ≤ s.length
 | [],_=>Nat.le_refl _
 | b :: s,i=>by
  have:=Vp s (i + 1);unfold Og
  by_cases h:b=true
  ·rw [if_pos h];simp;omega
  ·rw [if_neg h];simp;omega
theorem iw:∀ (s t:List Bool) (i:Nat),Og (s ++ t) i=Og s i ++ Og t (i + s.length)
 | [],t,i=>by simp [Og]
 | b :: s,t,i=>by
  have:=iw s t (i + 1);simp only [List.cons_append,Og,this,List.length_cons];rw [show i + 1 + s.length=i + (s.length + 1) from by omega]
  by_cases h:b=true
  ·rw [if_pos h,if_pos h];rfl
  ·rw [if_neg h,if_neg h]
theorem KA (s:List Bool) (i:Nat) (hi:i < s.length):Og (s.take (i + 1)) 0=if s[i]=true then Og (s.take i) 0 ++ [(i:Int)] else Og (s.take i) 0:=by
 rw [List.take_succ_eq_append_getElem hi,iw,List.length_take,Nat.min_eq_left (by omega),Nat.zero_add];unfold Og Og
 by_cases h:s[i]=true
 ·rw [if_pos h,if_pos h]
 ·rw [if_neg h,if_neg h,List.append_nil]
theorem JI {α:Type} {d:Kd α} {et e base g n cap i:Nat} {W:World} {P:Nat→Prop} {D:List (List α)} (h:Kd.S (Kd.slice et d) e W base P (.slice (some ⟨g,0,none⟩) n cap) D) (hi:i < n) :
  ∃ (A:Option Addr) (c:Nat),W.cell? ⟨g,i,none⟩=some (.slice A (D.getD i []).length c)∧W.frozen? ⟨g,i,none⟩=false∧Kd.R d et W base (fun k=>P k∧k ≠ g∧base ≤ k∧k < W.heap.size) (.slice A (D.getD i []).length c) (D.getD i []):=by
 obtain ⟨Bk,c,Us,hM,Ou,xM,bx,hH⟩:=Kd.Ds h ([]:List α) (i:Int) (by omega) (by omega);rw [Int.toNat_natCast] at hM Ou xM;obtain ⟨v,hc,hR⟩:=hM;obtain ⟨A,cc,rfl⟩:=Kd.ic hR;have h1:=Ou 0 _ (by rw [hc];rfl);have h2:=xM 0;rw [show i * (Kd.slice et d).sz + 0=i from by show i * 1 + 0=i;omega] at h1 h2;exact ⟨A,cc,h1,h2,Kd.Db (Kd.Fe hR) (fun k hk=>⟨(bx k hk.1).1,(bx k hk.1).2,hk.2.1,hk.2.2.1⟩)⟩
def Kp (s:List Bool):List Int:=s.map fun b=>if b=true then 1 else 0
theorem Yn (s:List Bool):(Kp s).length=s.length:=by simp [Kp]
theorem TD (s:List Bool) {j:Int} (h0:0 ≤ j) (h1:j < (s.length:Int)):rd (Kp s) j=if seen s j.toNat=true then 1 else 0:=by
 have hl:j.toNat < s.length:=by omega
 simp [rd,Kp,seen,List.getD_eq_getElem?_getD,hl]
theorem Rz (s:List Bool) (i:Nat):(Kp s).set i 1=Kp (s.set i true):=by
 unfold Kp;rw [List.map_set]
 rfl
theorem ZH (n:Nat) (hn:n ≤ 1048576):Ev (fun k=>uc.f k (n:Int)) (List.replicate n 0):=by
 unfold uc.f;have key:=Rh (r:=List.replicate n (0:Int)) (n:=n) (fun i=>Ev (fun k=>uc.l0 k (n:Int) (List.replicate i 0) (i:Int)) (List.replicate n 0)) ?_ ?_ 0 (by omega)
 ·exact key
 ·refine Ev.step (fun k=>by rw [uc.l0]) ?_;exact Ev.neg (by omega) (Ev.now _)
 ·intro i hi h;refine Ev.step (fun k=>by rw [uc.l0]) ?_;refine Ev.pos (by omega) (Ev.pos (by rw [List.length_replicate];omega) ?_);rw [lf hi (by omega),← List.replicate_succ'];exact h
section
variable {l0:List Int} {p v s:Int} {bs:List Yd}
theorem Bx {ys acc:List Int} {r:List Int} {n:Nat} (hn:n ≤ 1048576) (hy:ys.length ≤ 2) :
  ∀ (d i:Nat) (sn:List Bool) (q:List Int),i + d=ys.length→sn.length=n→q.length + d ≤ 4 * n + 8→(∀ j ∈ ys,0 ≤ j∧j < n) →
  Ev (fun k=>xb.l0 k acc (Kp ((ys.drop i).foldl me (sn,q)).1) ((ys.drop i).foldl me (sn,q)).2 l0 p v s bs) r→Ev (fun k=>xb.l1 k acc (Kp sn) q ys (i:Int) l0 p v s bs) r:=by
 intro d
 induction d with
 | zero =>
  intro i sn q hi hs hq hr he;have e:i=ys.length:=by omega
  subst e;rw [List.drop_length] at he;refine Ev.step (fun k=>by rw [xb.l1]) ?_;exact Ev.neg (by omega) he
 | succ d ih =>
  intro i sn q hi hs hq hr he;have hi':i < ys.length:=by omega
  obtain ⟨j0,j1⟩:=hr ys[i] (List.getElem_mem hi');have hrd:rd ys (i:Int)=ys[i]:=by rw [UA,List.getD_eq_getElem?_getD,List.getElem?_eq_getElem hi'];rfl
  rw [List.drop_eq_getElem_cons hi',List.foldl_cons] at he;refine Ev.step (fun k=>by rw [xb.l1]) ?_;refine Ev.pos (by omega) (Ev.pos (by omega) ?_);rw [hrd];refine Ev.pos j0 (Ev.pos (by rw [Yn];omega) ?_);rw [lf hi' (by omega),TD sn j0 (by omega)]
  by_cases hc:seen sn ys[i].toNat=true
  ·rw [if_pos hc];refine Ev.neg (by decide) ?_;have e:me (sn,q) ys[i]=(sn,q):=by unfold me;rw [if_pos hc]
   rw [e] at he;exact ih (i + 1) sn q (by omega) hs (by omega) hr he
  ·rw [if_neg hc];refine Ev.pos rfl (Ev.pos (by omega) ?_);have e:me (sn,q) ys[i]=(sn.set ys[i].toNat true,q ++ [ys[i]]):=by unfold me;rw [if_neg hc]
   rw [e] at he;rw [Rz];exact ih (i + 1) _ _ (by omega) (by rw [List.length_set];exact hs) Caf hr he
theorem Wu {r:List Int} (hE:Vd bs) (hend:∀ sn:List Bool,sn.length=bs.length→(∀ j,seen sn j=true ↔ Rk (Oe bs) j)→Ev (fun k=>xb.l2 k [] (Kp sn) 0) r) :
  ∀ (m:Nat) (sn:List Bool) (q:List Int),2 * news sn + q.length ≤ m→cw bs.length (Oe bs) sn q→(∀ j,seen sn j=true→(j:Int) ∉ q→∀ m ∈ Oe bs j,seen sn m.toNat=true)→Ev (fun k=>xb.l0 k [] (Kp sn) q l0 p v s bs) r:=by
 have hn:=hE.2.1;intro m
 induction m with
 | zero =>
  intro sn q hm h hs;cases q with
  | cons i q=>rw [List.length_cons] at hm;omega
  | nil =>
   refine Ev.step (fun k=>by rw [xb.l0]) ?_;exact Ev.neg (by simp) (hend sn h.len (QK h (fun j hj=>hs j hj (by simp))))
 | succ m ih =>
  intro sn q hm h hs;cases q with
  | nil =>
   refine Ev.step (fun k=>by rw [xb.l0]) ?_;exact Ev.neg (by simp) (hend sn h.len (QK h (fun j hj=>hs j hj (by simp))))
  | cons i q =>
   obtain ⟨h0,h1,h2⟩:=h.fG i (by simp);have hi:i.toNat < bs.length:=by omega
   have hR:=h.AA _ h2;have hc:=h.cap;rw [List.length_cons] at hc hm;have g:cw bs.length (Oe bs) sn q:=⟨h.len,fun j hj=>h.fG j (by simp [hj]),h.AA,by omega,h.PJ⟩
   have gs:Shut (Oe bs) sn q i.toNat:=by
    intro j hj hq hji;refine hs j hj ?_;intro hmem
    rcases List.mem_cons.mp hmem with e|e
    ·exact hji (by omega)
    ·exact hq e
   obtain ⟨a1,a2,a3,a4,a5⟩:=Py hR (Oe bs i.toNat) sn q g gs (fun j hj=>⟨(hE.2.2 _ hi j hj).1,(hE.2.2 _ hi j hj).2,hj⟩);have hit:((i.toNat:Nat):Int)=i:=Int.toNat_of_nonneg h0;have BK:(Oe bs i.toNat).length ≤ 2:=Jj _;have tR:Ye.f (Ga bs i).f0 (Ga bs i).f1 (Ga bs i).f2 (Ga bs i).f3 (Ga bs i).f4=some (Oe bs i.toNat):=by unfold Oe;rw [hit];exact Cr _
   have hrd:rd (i :: q) 0=i:=rfl;refine Ev.step (fun k=>by rw [xb.l0]) ?_;refine Ev.pos (by rw [List.length_cons];omega) (Ev.pos (by rw [List.length_cons];omega) ?_);rw [hrd];refine Ev.pos h0 (Ev.pos h1 ?_);rw [tR];refine Ev.val (Ev.pos (by rw [List.length_cons];omega) ?_);have hl:=h.len;refine Bx (n:=bs.length) hn BK (Oe bs i.toNat).length 0 sn q (by omega) hl (by omega) (hE.2.2 _ hi) ?_;refine ih _ _ (by rw [List.drop_zero];omega) (by rw [List.drop_zero];exact a1) ?_;rw [List.drop_zero];intro j hj hq
   by_cases e:j=i.toNat
   ·intro m hm';rw [e] at hm';exact a3 m hm'
   ·exact a2 j hj hq e
theorem Ax (sn:List Bool) (hs:sn.length ≤ 1048576):Ev (fun k=>xb.l2 k [] (Kp sn) 0) (Og sn 0):=by
 have key:=Rh (r:=Og sn 0) (n:=sn.length) (fun i=>Ev (fun k=>xb.l2 k (Og (sn.take i) 0) (Kp sn) (i:Int)) (Og sn 0)) ?_ ?_ 0 (by omega)
 ·exact key
 ·refine Ev.step (fun k=>by rw [xb.l2]) ?_;refine Ev.neg (by rw [Yn];omega) ?_;rw [List.take_length];exact Ev.now _
 ·intro i hi h;have ht:=Vp (sn.take i) 0;rw [List.length_take] at ht;refine Ev.step (fun k=>by rw [xb.l2]) ?_;refine Ev.pos (by rw [Yn];omega) (Ev.pos (by omega) ?_);rw [lf hi (by omega),TD sn (by omega) (by omega),Int.toNat_natCast];have QZ:seen sn i=sn[i]:=by simp [seen,List.getD_eq_getElem?_getD,hi]
  rw [QZ];rw [KA sn i hi] at h
  by_cases hc:sn[i]=true
  ·rw [if_pos hc] at h ⊢;exact Ev.pos rfl (Ev.pos (by omega) h)
  ·rw [if_neg hc] at h ⊢;exact Ev.neg (by decide) h
theorem kr:∀ (sn:List Bool) (i:Nat) (x:Int),x ∈ Og sn i ↔ ∃ j:Nat,j < sn.length∧seen sn j=true∧x=((i + j:Nat):Int)
 | [],i,x=>by simp [Og]
 | b :: sn,i,x=>by
  have ih:=kr sn (i + 1) x;have hs0:seen (b :: sn) 0=b:=rfl;have hs1:∀ j,seen (b :: sn) (j + 1)=seen sn j:=fun j=>rfl
  unfold Og
  constructor
  ·intro h
   by_cases hb:b=true
   ·rw [if_pos hb] at h
    rcases List.mem_cons.1 h with h|h
    ·exact ⟨0,by simp,by rw [hs0];exact hb,by rw [h];rfl⟩
    ·obtain ⟨j,h1,h2,h3⟩:=ih.1 h;exact ⟨j + 1,by simpa using h1,by rw [hs1];exact h2,by omega⟩
   ·rw [if_neg hb] at h;obtain ⟨j,h1,h2,h3⟩:=ih.1 h;exact ⟨j + 1,by simpa using h1,by rw [hs1];exact h2,by omega⟩
  ·rintro ⟨j,h1,h2,h3⟩
   have hrest:(∃ j',j=j' + 1)→x ∈ Og sn (i + 1):=by
    rintro ⟨j',rfl⟩;exact ih.2 ⟨j',by simpa using h1,by rw [← hs1];exact h2,by omega⟩
   by_cases hb:b=true
   ·rw [if_pos hb]
    rcases j with _|j
    ·exact List.mem_cons.2 (Or.inl (by omega))
    ·exact List.mem_cons.2 (Or.inr (hrest ⟨j,rfl⟩))
   ·rw [if_neg hb]
    rcases j with _|j
    ·rw [hs0] at h2;exact absurd h2 hb
    ·exact hrest ⟨j,rfl⟩
theorem Ay:∀ (sn:List Bool) (i:Nat),(Og sn i).Pairwise (· < ·)
 | [],i=>by simp [Og]
 | b :: sn,i=>by
  have ih:=Ay sn (i + 1);unfold Og
  by_cases hb:b=true
  ·rw [if_pos hb,List.pairwise_cons];refine ⟨fun x hx=>?_,ih⟩;obtain ⟨j,_,_,h3⟩:=(kr sn (i + 1) x).1 hx;omega
  ·rw [if_neg hb];exact ih
theorem zy (hE:Vd bs) (sn:List Bool) (hs:sn.length=bs.length) (h:∀ j,seen sn j=true ↔ Rk (Oe bs) j):Og sn 0=Vb bs:=by
 refine Fu _ _ (Ay sn 0) (vr bs) (fun x=>?_);rw [kr,Mf hE]
 constructor
 ·rintro ⟨j,h1,h2,h3⟩;rw [Nat.zero_add] at h3;subst h3;exact ⟨by omega,(h _).1 (by rw [Int.toNat_natCast];exact h2)⟩
 ·rintro ⟨h0,hr⟩;exact ⟨x.toNat,by rw [hs];exact qm hE hr,(h _).2 hr,by omega⟩
theorem Dj (n:Nat) (hn:0 < n) (j:Nat):seen ((List.replicate n false).set 0 true) j=decide (j=0):=by
 rw [bh (by simpa using hn),Kl,Bool.or_false]
 by_cases h:j=0
 ·subst h;rfl
 ·rw [decide_eq_false h,decide_eq_false (fun e=>h e.symm)]
theorem Lu {n:Nat} {nx:Nat→List Int} (hn:0 < n):cw n nx ((List.replicate n false).set 0 true) [0]:=by
 refine ⟨by simp,fun j hj=>?_,fun j hj=>?_,?_,?_⟩
 ·rw [List.mem_singleton] at hj;subst hj;exact ⟨by omega,by omega,by rw [Dj n hn];rfl⟩
 ·rw [Dj n hn,decide_eq_true_eq] at hj;subst hj;exact Rk.zero
 ·have:=fq (s:=List.replicate n false) (i:=0) (by simpa using hn) (Kl _ _);rw [Er] at this;rw [List.length_singleton];omega
 ·rw [Dj n hn];rfl
theorem zx (h0:l0.length ≤ 1048576) (hl:bs.length ≤ 1048576) (ht:yc bs ≤ 1048576) (hok:Qh l0 p v s bs=true):Ev (fun k=>xb.f k l0 p v s bs) (Vb bs):=by
 have hE:=Gm hok;unfold xb.f;refine Ev.val (Ev.bind (Jp h0 hl ht) ?_);refine Ev.pos hok (Ev.bind (ZH bs.length hl) (Ev.pos (by rw [List.length_replicate];have:=hE.1;omega) ?_))
 have e:(List.replicate bs.length (0:Int)).set (0:Int).toNat 1=Kp ((List.replicate bs.length false).set 0 true):=by
  rw [← Rz];unfold Kp;rw [List.map_replicate]
  rfl
 rw [e];refine Wu hE (fun sn hs hr=>?_) _ _ _ (Nat.le_refl _) (Lu hE.1) (fun j hj hq=>?_)
 ·rw [← zy hE sn hs hr];exact Ax sn (by omega)
 ·rw [Dj _ hE.1,decide_eq_true_eq] at hj;subst hj;exact absurd (by simp) hq
end
end Go.Proofs.Ytoomcmaifgkkfaa.P
end
section
namespace Go.Proofs.Ytoomcmaifgkkfaa.P
open Go.RowKit Go.Proofs.ua.zb Go.Proofs.ua.Lc Go.Proofs.ua.Pd
set_option linter.unusedVariables false
set_option linter.unusedSimpArgs false
def dO (bs:List Yd) (a:Int) (i:Nat):List Int:=(Oe bs i).filter fun j=>decide (j ≠ a)
section
variable {l0:List Int} {p v s:Int} {bs:List Yd}
theorem WJ (hE:Vd bs) {a:Nat} (ha:0 ≠ a) (k:Nat):Rk (dO bs (a:Int)) k ↔ RA (Oe bs) a k:=by
 constructor
 ·intro h
  induction h with
  | zero=>exact RA.zero ha
  | @step i j hr hj ih =>
   obtain ⟨h1,h2⟩:=List.mem_filter.1 hj;have:=hE.2.2 i (qm hE ih.AA) j h1;rw [decide_eq_true_eq] at h2;exact RA.step ih h1 (by omega)
 ·intro h
  induction h with
  | zero _=>exact Rk.zero
  | @step i j hr hj hne ih =>
   have:=hE.2.2 i (qm hE hr.AA) j hj;exact Rk.step ih (List.mem_filter.2 ⟨hj,by rw [decide_eq_true_eq];omega⟩)
theorem yx {ys:List Int} {a:Int} {r:List Bool} {n:Nat} (hn:n ≤ 1048576) (hy:ys.length ≤ 2) :
  ∀ (d i:Nat) (sn:List Bool) (q:List Int),i + d=ys.length→sn.length=n→q.length + d ≤ 4 * n + 8→(∀ j ∈ ys,0 ≤ j∧j < n) →
  Ev (fun k=>Za.l0 k a (((ys.drop i).filter fun j=>decide (j ≠ a)).foldl me (sn,q)).1 (((ys.drop i).filter fun j=>decide (j ≠ a)).foldl me (sn,q)).2 l0 p v s bs) r→Ev (fun k=>Za.l1 k a sn q ys (i:Int) l0 p v s bs) r:=by
 intro d
 induction d with
 | zero =>
  intro i sn q hi hs hq hr he;have e:i=ys.length:=by omega
  subst e;rw [List.drop_length,List.filter_nil] at he;refine Ev.step (fun k=>by rw [Za.l1]) ?_;exact Ev.neg (by omega) he
 | succ d ih =>
  intro i sn q hi hs hq hr he;have hi':i < ys.length:=by omega
  obtain ⟨j0,j1⟩:=hr ys[i] (List.getElem_mem hi');have hrd:rd ys (i:Int)=ys[i]:=by rw [UA,List.getD_eq_getElem?_getD,List.getElem?_eq_getElem hi'];rfl
  rw [List.drop_eq_getElem_cons hi',List.filter_cons] at he;refine Ev.step (fun k=>by rw [Za.l1]) ?_;refine Ev.pos (by omega) (Ev.pos (by omega) ?_);rw [hrd];rw [lf hi' (by omega)];have QZ:Tf false sn ys[i]=seen sn ys[i].toNat:=rfl;rw [QZ]
  by_cases ha:ys[i]=a
  ·refine Ev.pos ha ?_;rw [if_neg (by simp [ha])] at he;exact ih (i + 1) sn q (by omega) hs (by omega) hr he
  ·rw [if_pos (by simp [ha]),List.foldl_cons] at he;refine Ev.neg ha (Ev.pos j0 (Ev.pos (by omega) ?_))
   by_cases hc:seen sn ys[i].toNat=true
   ·refine Ev.pos hc ?_;have e:me (sn,q) ys[i]=(sn,q):=by unfold me;rw [if_pos hc]
    rw [e] at he;exact ih (i + 1) sn q (by omega) hs (by omega) hr he
   ·refine Ev.neg hc (Ev.pos (by omega) ?_);have e:me (sn,q) ys[i]=(sn.set ys[i].toNat true,q ++ [ys[i]]):=by unfold me;rw [if_neg hc]
    rw [e] at he;exact ih (i + 1) _ _ (by omega) (by rw [List.length_set];exact hs) Caf hr he
theorem Vu {a:Int} (hE:Vd bs) :
  ∀ (m:Nat) (sn:List Bool) (q:List Int),2 * news sn + q.length ≤ m→cw bs.length (dO bs a) sn q→(∀ j,seen sn j=true→(j:Int) ∉ q→∀ m ∈ dO bs a j,seen sn m.toNat=true)→∃ t:List Bool,t.length=bs.length∧(∀ j,seen t j=true ↔ Rk (dO bs a) j)∧Ev (fun k=>Za.l0 k a sn q l0 p v s bs) t:=by
 have hn:=hE.2.1;intro m
 induction m with
 | zero =>
  intro sn q hm h hs;cases q with
  | cons i q=>rw [List.length_cons] at hm;omega
  | nil=>exact ⟨sn,h.len,QK h (fun j hj=>hs j hj (by simp)),Ev.step (fun k=>by rw [Za.l0]) (Ev.neg (by simp) (Ev.now _))⟩
 | succ m ih =>
  intro sn q hm h hs;cases q with
  | nil=>exact ⟨sn,h.len,QK h (fun j hj=>hs j hj (by simp)),Ev.step (fun k=>by rw [Za.l0]) (Ev.neg (by simp) (Ev.now _))⟩
  | cons i q =>
   obtain ⟨h0,h1,h2⟩:=h.fG i (by simp);have hi:i.toNat < bs.length:=by omega
   have hR:=h.AA _ h2;have hc:=h.cap;rw [List.length_cons] at hc hm;have g:cw bs.length (dO bs a) sn q:=⟨h.len,fun j hj=>h.fG j (by simp [hj]),h.AA,by omega,h.PJ⟩
   have gs:Shut (dO bs a) sn q i.toNat:=by
    intro j hj hq hji;refine hs j hj ?_;intro hmem
    rcases List.mem_cons.mp hmem with e|e
    ·exact hji (by omega)
    ·exact hq e
   obtain ⟨a1,a2,a3,a4,a5⟩:=Py hR (dO bs a i.toNat) sn q g gs (fun j hj=>⟨(hE.2.2 _ hi j (List.mem_filter.1 hj).1).1,(hE.2.2 _ hi j (List.mem_filter.1 hj).1).2,hj⟩);have hit:((i.toNat:Nat):Int)=i:=Int.toNat_of_nonneg h0;have BK:(Oe bs i.toNat).length ≤ 2:=Jj _;have tR:Ye.f (Ga bs i).f0 (Ga bs i).f1 (Ga bs i).f2 (Ga bs i).f3 (Ga bs i).f4=some (Oe bs i.toNat):=by unfold Oe;rw [hit];exact Cr _
   have hrd:rd (i :: q) 0=i:=rfl;have hl:=h.len
   obtain ⟨t,t1,t2,t3⟩:=ih _ _ (by omega) a1 (by
    intro j hj hq
    by_cases e:j=i.toNat
    ·intro m hm';rw [e] at hm';exact a3 m hm'
    ·exact a2 j hj hq e)
   refine ⟨t,t1,t2,?_⟩;refine Ev.step (fun k=>by rw [Za.l0]) ?_;refine Ev.pos (by rw [List.length_cons];omega) (Ev.pos (by rw [List.length_cons];omega) ?_);rw [hrd];refine Ev.pos h0 (Ev.pos h1 ?_);rw [tR];refine Ev.val (Ev.pos (by rw [List.length_cons];omega) ?_);refine yx (n:=bs.length) hn BK (Oe bs i.toNat).length 0 sn q (by omega) hl (by omega) (hE.2.2 _ hi) ?_;rw [List.drop_zero];exact t3
theorem rF (hE:Vd bs) (a:Nat) (ha:0 ≠ a):∃ t:List Bool,t.length=bs.length∧(∀ j,seen t j=true ↔ RA (Oe bs) a j)∧Ev (fun k=>Za.f k l0 p v s bs 0 (a:Int) (List.replicate bs.length false)) t:=by
 obtain ⟨t,t1,t2,t3⟩:=Vu (a:=(a:Int)) (l0:=l0) (p:=p) (v:=v) (s:=s) hE _ ((List.replicate bs.length false).set 0 true) [0] (Nat.le_refl _) (Lu hE.1) (fun j hj hq=>by
  rw [Dj _ hE.1,decide_eq_true_eq] at hj;subst hj
  exact absurd (by simp) hq)
 refine ⟨t,t1,fun j=>(t2 j).trans (WJ hE ha j),?_⟩;unfold Za.f;exact Ev.pos (by omega) (Ev.pos (by rw [List.length_replicate];have:=hE.1;omega) t3)
noncomputable def vk (bs:List Yd) (i:Nat):List Bool:=open Classical in (List.range bs.length).map fun k=>decide (Dom (Oe bs) i k)
noncomputable def gm (bs:List Yd):List (List Bool):=(List.range bs.length).map (vk bs)
theorem Di (bs:List Yd) (i:Nat):(vk bs i).length=bs.length:=by simp [vk]
theorem Pg (bs:List Yd):(gm bs).length=bs.length:=by simp [gm]
theorem SJ {bs:List Yd} {i:Nat} (hi:i < bs.length):(gm bs).getD i []=vk bs i:=by simp [gm,List.getD_eq_getElem?_getD,hi]
theorem UD {bs:List Yd} {i k:Nat} (hk:k < bs.length):(vk bs i).getD k false=true ↔ Dom (Oe bs) i k:=by simp [vk,List.getD_eq_getElem?_getD,hk]
theorem Tu {r:List (List Bool)} (hE:Vd bs) (he:∀ cm:List Bool,cm.length=bs.length→(∀ j,seen cm j=true ↔ Rk (Oe bs) j)→Ev (fun k=>Ta.l1 k (bs.length:Int) cm [] 0 l0 p v s bs) r) :
  Ev (fun k=>Ta.l0 k (bs.length:Int) (List.replicate bs.length false) (Vb bs) 0 l0 p v s bs) r:=by
 have hrl:=Fl bs;have hn:=hE.2.1;have key:=Rh (r:=r) (n:=(Vb bs).length) (fun i=>∀ cm:List Bool,cm.length=bs.length→(∀ j:Nat,seen cm j=true ↔ (j:Int) ∈ (Vb bs).take i)→Ev (fun k=>Ta.l0 k (bs.length:Int) cm (Vb bs) (i:Int) l0 p v s bs) r) ?_ ?_ 0 (by omega)
 ·exact key _ (by simp) (fun j=>by rw [Kl];simp)
 ·intro cm hc hs;refine Ev.step (fun k=>by rw [Ta.l0]) ?_;refine Ev.neg (by omega) (he cm hc (fun j=>?_));rw [hs,List.take_length,Mf hE,Int.toNat_natCast];exact ⟨fun h=>h.2,fun h=>⟨by omega,h⟩⟩
 ·intro i hi h cm hc hs;obtain ⟨x0,xr⟩:=(Mf hE _).1 (List.getElem_mem hi);have hx:=qm hE xr;refine Ev.step (fun k=>by rw [Ta.l0]) ?_;refine Ev.pos (by omega) (Ev.pos (by omega) ?_);rw [Gh hi,lf hi (by omega)];refine Ev.pos x0 (Ev.pos (by rw [hc];omega) (h _ (by rw [List.length_set];exact hc) (fun j=>?_)));rw [bh (by rw [hc];exact hx),Bool.or_eq_true,decide_eq_true_eq,hs,List.take_succ_eq_append_getElem hi,List.mem_append,List.mem_singleton]
  constructor
  ·rintro (h|h)
   ·right;omega
   ·left;exact h
  ·rintro (h|h)
   ·right;exact h
   ·left;omega
theorem Xn {r:List (List Bool)} {cm wo:List Bool} {acc:List (List Bool)} {i:Nat} (hE:Vd bs) (hi:i < bs.length) (hc:cm.length=bs.length) (BP:∀ j,seen cm j=true ↔ Rk (Oe bs) j) (hw:wo.length=bs.length) (hwr:Rk (Oe bs) i→∀ j,Rk (Oe bs) j→(seen wo j=true ↔ RA (Oe bs) i j)) (ha:acc.length ≤ bs.length)
  (he:Ev (fun k=>Ta.l1 k (bs.length:Int) cm (acc ++ [vk bs i]) ((i + 1:Nat):Int) l0 p v s bs) r) :
  Ev (fun k=>Ta.l2 k (bs.length:Int) cm acc (i:Int) wo (List.replicate bs.length false) 0 l0 p v s bs) r:=by
 have hn:=hE.2.1;have key:=Rh (r:=r) (n:=bs.length) (fun j=>Ev (fun k=>Ta.l2 k (bs.length:Int) cm acc (i:Int) wo ((vk bs i).take j ++ List.replicate (bs.length - j) false) (j:Int) l0 p v s bs) r) ?_ ?_ 0 (by omega)
 ·simpa using key
 ·have e:(vk bs i).take bs.length ++ List.replicate (bs.length - bs.length) false=vk bs i:=by rw [List.take_of_length_le (by rw [Di];omega),Nat.sub_self,List.replicate_zero,List.append_nil]
  rw [e];refine Ev.step (fun k=>by rw [Ta.l2]) ?_;refine Ev.neg (by omega) (Ev.pos (by omega) ?_);rw [lf hi (by omega)];exact he
 ·intro j hj h
  have ax:∀ b:Bool,b=(vk bs i).getD j false→((vk bs i).take j ++ List.replicate (bs.length - j) false).set j b=(vk bs i).take (j + 1) ++ List.replicate (bs.length - (j + 1)) false:=by
   intro b hb;subst hb;have:=Rq (m:=vk bs i) (z:=false) (i:=j) (by rw [Di];exact hj);rw [Di] at this;exact this
  have J0:((vk bs i).take j ++ List.replicate (bs.length - j) false).length=bs.length:=by rw [List.length_append,List.length_take,List.length_replicate,Di];omega
  have s1:Tf false cm (i:Int)=seen cm i:=rfl;have s2:Tf false cm (j:Int)=seen cm j:=rfl;have s3:Tf false wo (j:Int)=seen wo j:=rfl;refine Ev.step (fun k=>by rw [Ta.l2]) ?_;refine Ev.pos (by omega) (Ev.pos (by omega) (Ev.pos (by omega) ?_));rw [s1,s2,s3,Int.toNat_natCast,lf hj (by omega)];have hdom:=UD (bs:=bs) (i:=i) hj
  by_cases CJ:seen cm i=true
  ·refine Ev.pos CJ (Ev.pos (by omega) (Ev.pos (by omega) ?_))
   by_cases WX:seen cm j=true
   ·refine Ev.pos WX (Ev.pos (by omega) (Ev.pos (by rw [J0];omega) ?_));rw [ax]
    ·exact h
    ·have y8:=(BP i).1 CJ;have r8:=(BP j).1 WX;have k8:=hwr y8 j r8;cases JZ:seen wo j with
     | true =>
      cases hd:(vk bs i).getD j false with
      | false=>rfl
      | true=>exact absurd (k8.1 JZ) (hdom.1 hd).2.2
     | false=>exact (hdom.2 ⟨y8,r8,fun hra=>by rw [k8.2 hra] at JZ;cases JZ⟩).symm
   ·refine Ev.neg WX (Ev.pos (by rw [J0];omega) ?_);rw [ax]
    ·exact h
    ·cases hd:(vk bs i).getD j false with
     | false=>rfl
     | true=>exact absurd ((BP j).2 (hdom.1 hd).2.1) WX
  ·refine Ev.neg CJ (Ev.pos (by omega) (Ev.pos (by rw [J0];omega) ?_));rw [ax]
   ·exact h
   ·cases hd:(vk bs i).getD j false with
    | false=>rfl
    | true=>exact absurd ((BP i).2 (hdom.1 hd).1) CJ
theorem Su {cm:List Bool} (hE:Vd bs) (hc:cm.length=bs.length) (BP:∀ j,seen cm j=true ↔ Rk (Oe bs) j):Ev (fun k=>Ta.l1 k (bs.length:Int) cm [] 0 l0 p v s bs) (gm bs):=by
 have hn:=hE.2.1;have key:=Rh (r:=gm bs) (n:=bs.length) (fun i=>Ev (fun k=>Ta.l1 k (bs.length:Int) cm ((gm bs).take i) (i:Int) l0 p v s bs) (gm bs)) ?_ ?_ 0 (by omega)
 ·exact key
 ·refine Ev.step (fun k=>by rw [Ta.l1]) ?_;refine Ev.neg (by omega) ?_;rw [List.take_of_length_le (by rw [Pg];omega)];exact Ev.now _
 ·intro i hi h
  have hti:(gm bs).take (i + 1)=(gm bs).take i ++ [vk bs i]:=by
   rw [List.take_succ_eq_append_getElem (by rw [Pg];exact hi)];simp [gm]
  rw [hti] at h;have hlt:((gm bs).take i).length ≤ bs.length:=by rw [List.length_take,Pg];omega
  refine Ev.step (fun k=>by rw [Ta.l1]) ?_;refine Ev.pos (by omega) (Ev.pos (by omega) (Ev.pos (by omega) (Ev.val ?_)));rw [Int.toNat_natCast]
  by_cases h0:i=0
  ·subst h0;refine Ev.pos rfl ?_;refine Ev.step (fun k=>by rw [Ta.j2]) ?_;refine Ev.pos (by omega) (Ev.pos (by omega) ?_);rw [Int.toNat_natCast];refine Xn hE hi hc BP (by simp) (fun _ j hj=>?_) hlt h;rw [Kl];exact ⟨(fun h=>by cases h),fun h=>absurd h (Dom.zero hj).2.2⟩
  ·obtain ⟨t,t1,t2,t3⟩:=rF (l0:=l0) (p:=p) (v:=v) (s:=s) hE i (fun e=>h0 e.symm);refine Ev.neg (by omega) (Ev.bind t3 ?_);refine Ev.step (fun k=>by rw [Ta.j2]) ?_;refine Ev.pos (by omega) (Ev.pos (by omega) ?_);rw [Int.toNat_natCast];exact Xn hE hi hc BP t1 (fun _ j _=>t2 j) hlt h
theorem Mz (h0:l0.length ≤ 1048576) (hl:bs.length ≤ 1048576) (ht:yc bs ≤ 1048576) (hok:Qh l0 p v s bs=true):Ev (fun k=>Ta.f k l0 p v s bs) (gm bs):=by
 have hE:=Gm hok;unfold Ta.f;refine Ev.pos (by omega) (Ev.pos (by omega) (Ev.bind (zx h0 hl ht hok) ?_));rw [Int.toNat_natCast];exact Tu hE (fun cm h1 h2=>Su hE h1 h2)
end
end Go.Proofs.Ytoomcmaifgkkfaa.P
end
section
namespace Go.Proofs.Ytoomcmaifgkkfaa.P
open Go.RowKit Go.Proofs.ua.zb Go.Proofs.ua.Lc Go.Proofs.ua.Pd
set_option linter.unusedVariables false
set_option linter.unusedSimpArgs false
theorem Pz (l:List Int) (a:Int) (hl:l.length ≤ 9223372036854775807):Ev (fun k=>Tb.f k l a) (decide (a ∈ l)):=by
 obtain ⟨k,r,h1,h2⟩:=Mu l a hl;refine Ev.of (fun k=>Tb.mono _ _ _) (k:=k) ?_;unfold Tb.f;rw [h1];exact congrArg some (decide_eq_decide.2 h2)
section
variable {l0:List Int} {p v s:Int} {bs:List Yd}
theorem CE {k:Nat} (hk:k < bs.length):cj (Gk bs) k=Im bs k:=by simp [cj,Gk,List.getD_eq_getElem?_getD,hk]
theorem Sz (hE:Vd bs) {i:Int} {k:Nat}:i ∈ Im bs k ↔ 0 ≤ i∧Dom (Oe bs) i.toNat k:=by
 unfold Im;rw [List.mem_filter,Mf hE]
 constructor
 ·rintro ⟨⟨h0,_⟩,h⟩;exact ⟨h0,by simpa using h⟩
 ·rintro ⟨h0,h⟩;exact ⟨⟨h0,h.1⟩,by simpa using h⟩
theorem QA (hE:Vd bs):Oh.f l0 p v s bs=some (Gk bs):=by
 unfold Oh.f;rw [if_pos hE]
end
end Go.Proofs.Ytoomcmaifgkkfaa.P
end
section
namespace Go.Proofs.Ytoomcmaifgkkfaa.P
open Go.RowKit Go.Proofs.ua.zb Go.Proofs.ua.Lc Go.Proofs.ua.Pd
set_option linter.unusedVariables false
set_option linter.unusedSimpArgs false
noncomputable def Wg.f (Ma:List Int) (Pa:Int) (Qa:Int) (Oa:Int) (za:List (Yd)):Option (List (Int × Int)):=open Classical in if Vd za then some (Bs za) else none
noncomputable def Nl (bs:List Yd) (b j:Nat):List (Int × Int):=(((Lh (Oe bs b)).take j).filter (fun t=>decide (t ∈ Im bs b))).map (fun t=>((b:Int),t))
theorem CF (bs:List Yd) (b j:Nat):(Nl bs b j).length ≤ j:=by
 unfold Nl;rw [List.length_map];exact Nat.le_trans (List.length_filter_le _ _) (by rw [List.length_take];omega)
theorem TB {bs:List Yd} {b j:Nat} (h:j < (Lh (Oe bs b)).length):Nl bs b (j + 1)=if (Lh (Oe bs b))[j] ∈ Im bs b then Nl bs b j ++ [((b:Int),(Lh (Oe bs b))[j])] else Nl bs b j:=by
 unfold Nl;rw [Ll _ _ h,List.map_append]
 by_cases hm:(Lh (Oe bs b))[j] ∈ Im bs b
 ·rw [if_pos (decide_eq_true hm),if_pos hm];rfl
 ·rw [if_neg (by simp [hm]),if_neg hm,List.map_nil,List.append_nil]
theorem DF {bs:List Yd} {b:Nat}:Kg bs b ++ Nl bs b (Lh (Oe bs b)).length=Kg bs (b + 1):=by
 unfold Nl;rw [List.take_length]
 rfl
theorem Wg.calls (Bb:Option Addr) (Ab:Nat) (Ma:List Int) (Pa:Int) (Qa:Int) (Oa:Int) (Qb:Option Addr) (Gb:Nat) (za:List (Yd)) (r:List (Int × Int)) (w:World) (od:Kd.C (Kd.int .i64) w Bb Ma.length Ma) (Nd:Ma.length ≤ Ab) (ze:Kd.C Jl w Qb za.length za) (Ve:za.length ≤ Gb) (h:Wg.f Ma Pa Qa Oa za=some r) :
  Calls Try.prog 72 #[.agg #[.slice Bb Ma.length Ab,.int .i64 Pa,.int .i64 Qa,.int .i64 Oa,.slice Qb za.length Gb]] w fun e w'=>∃ zj:Value,e = .returned (zj)∧Kd.R k2 85 w' w.heap.size (fun _=>True) zj r∧Below w.heap.size w w':=by
 unfold Wg.f at h
 by_cases hE:Vd za
 case neg=>rw [if_neg hE] at h;cases h
 rw [if_pos hE] at h;obtain rfl:=Option.some.inj h;clear h;have HE:=aa.mk hE;have hn0:0 < za.length:=hE.1;have rW:za.length ≤ 1048576:=hE.2.1;obtain ⟨W1,hW,hb,hx⟩:=Mw w (.cells #[.slice Bb Ma.length Ab,.int .i64 Pa,.int .i64 Qa,.int .i64 Oa,.slice Qb za.length Gb] 45 (0,0));have HW:=aa.mk hW;have HB:=aa.mk hb;have HX:=aa.mk hx;have oy:=aa.mk ze;have ZI:=aa.mk (Oh.calls Bb Ab Ma Pa Qa Oa Qb Gb za (Gk za) W1 (Kd.yb od hb) Nd (Kd.yb ze hb) Ve (QA hE));obtain ⟨x0,x1,x2,x3,x4⟩:=Cg hx;clear hW hb hx od ze hE;go_enter Try.func72,Try.ntmps72
 go_upto_region 1 with (fail)
 rw [← HW.out];clear HW
 go_upto_region 2 with (first|(go_at_call 82;(with_reducible refine ZI.out.mono ?_);rintro e w2 ⟨v2,rfl,ho,hb⟩;obtain ⟨gR,cR,hv2,-,-,-⟩:=Kd.nv ho (by rw [El];exact hn0);subst hv2;have zL:=aa.mk ho;have Yi:=aa.mk (Fa HB.out hb);have bC:=aa.mk (Ua HX.out hb);clear ho hb x0 x1 x2 x3 x4))
 clear HX ZI HB
 go_upto_region 3 with (fail)
 have HZ:=aa.mk (xj k2 85 w2 w2.heap.size (Nat.le_refl _));have xp:=aa.mk (ia (Below.refl w2.heap.size w2) (.cells #[] 85 (0,0)));generalize w2.alloc (.cells #[] 85 (0,0))=W3 at HZ xp ⊢;obtain ⟨-,-,-,-,x4⟩:=Cg (Ua bC.out xp.out);go_wp2
 go_loopg [4,15] za.length (fun gg v4 P6 wr=>∃ i:Nat,P6 = .int .i64 i∧i ≤ za.length∧za.length - i ≤ gg∧aa (Kd.R k2 85 wr w2.heap.size (fun _=>True) v4 (Kg za i))∧aa (Below w2.heap.size w2 wr))
 case atStart=>exact ⟨0,rfl,Nat.zero_le _,by omega,HZ,xp⟩
 case round =>
  clear HZ xp x4;(try clear HR);(try clear HB);obtain ⟨i,rfl,hi,BA,HR,HB⟩:=hrel
  by_cases hlt:i < za.length
  ·have Xh:decide ((i:Int) < (za.length:Int))=true:=decide_eq_true (by omega);have i1:0 ≤ (i:Int):=by omega
   have i2:(i:Int) < (za.length:Int):=by omega
   obtain ⟨ag,Ac,cc,e1,hc0,hc1,ju,jy,DJ,Us,yM⟩:=Nk (Kd.yb (Kd.yb oy.out Yi.out) HB.out) (i:Int) i1 i2;subst e1;simp only [Int.toNat_natCast] at hc0 hc1 ju jy DJ;have nJ:=aa.mk yM;have MJ:=aa.mk Us;have HTS:=aa.mk (HE.out.2.2 i hlt);clear yM Us
   go_upto_region 6 with (fail)
   have sY:=aa.mk (Kd.Ka HR.out (.cells #[.slice Ac (Ga za (i:Int)).f0.length cc,.int .i64 (Ga za (i:Int)).f1,.int .i64 (Ga za (i:Int)).f2,.int .i64 (Ga za (i:Int)).f3,.int .i64 (Ga za (i:Int)).f4] 83 (0,0)));have ER:=aa.mk (HB.out.alloc HB.out.size (.cells #[.slice Ac (Ga za (i:Int)).f0.length cc,.int .i64 (Ga za (i:Int)).f1,.int .i64 (Ga za (i:Int)).f2,.int .i64 (Ga za (i:Int)).f3,.int .i64 (Ga za (i:Int)).f4] 83 (0,0)));have U5:=aa.mk (Kd.yb nJ.out (ia (Below.refl wr.heap.size wr) (.cells #[.slice Ac (Ga za (i:Int)).f0.length cc,.int .i64 (Ga za (i:Int)).f1,.int .i64 (Ga za (i:Int)).f2,.int .i64 (Ga za (i:Int)).f3,.int .i64 (Ga za (i:Int)).f4] 83 (0,0))));have rY:=aa.mk (si wr (.cells #[.slice Ac (Ga za (i:Int)).f0.length cc,.int .i64 (Ga za (i:Int)).f1,.int .i64 (Ga za (i:Int)).f2,.int .i64 (Ga za (i:Int)).f3,.int .i64 (Ga za (i:Int)).f4] 83 (0,0)));generalize wr.alloc (.cells #[.slice Ac (Ga za (i:Int)).f0.length cc,.int .i64 (Ga za (i:Int)).f1,.int .i64 (Ga za (i:Int)).f2,.int .i64 (Ga za (i:Int)).f3,.int .i64 (Ga za (i:Int)).f4] 83 (0,0))=wb at sY ER U5 rY ⊢;obtain ⟨y0,y1,y2,y3,y4⟩:=Cg rY.out;clear HR HB nJ hc0 hc1 ju jy DJ;generalize wr.heap.size=qb at rY y0 y1 y2 y3 y4 ⊢;have xY:=aa.mk (show xe.f ((Ga za (i:Int)).f0) ((Ga za (i:Int)).f1) ((Ga za (i:Int)).f2) ((Ga za (i:Int)).f3) ((Ga za (i:Int)).f4)=some (Oe za i) from Dr _);have htl:(Oe za i).length ≤ 2:=Jj _
   have HAS:=aa.mk (show ef.f (Oe za i)=some (Lh (Oe za i)) from by
    unfold ef.f
    rw [if_pos (by omega)])
   go_wp2_with (first|(go_at_call 75;(with_reducible refine (xe.calls Ac cc ((Ga za (i:Int)).f0) ((Ga za (i:Int)).f1) ((Ga za (i:Int)).f2) ((Ga za (i:Int)).f3) ((Ga za (i:Int)).f4) (Oe za i) wb U5.out MJ.out xY.out).mono ?_);rintro e w6 ⟨v6,rfl,ho,hb⟩;have HN6:=aa.mk ho;have FY:=aa.mk hb;have HR6:=aa.mk (Kd.Xb sY.out hb);have JV:=aa.mk (ER.out.trans (hb.mono ER.out.size));clear ho hb y0 y1 y2 y3 y4)|(go_at_call 86;(with_reducible refine (ef.calls (fun _=>True) v6 (Oe za i) (Lh (Oe za i)) wb w6 FY.out HN6.out HAS.out).mono ?_);rintro e w7 ⟨v7,rfl,ho,hb,hk⟩;obtain ⟨AS,cS,rfl⟩:=Kd.ic ho;have HA7:=aa.mk ho;have JL:=aa.mk (ER.out.trans (hb.mono ER.out.size));have HR7:=aa.mk (Kd.Xb (Kd.Db (Kd.Fe sY.out) (fun k hk=>(Or.inl hk.2.2.1:k < wb.heap.size ∨ w7.heap.size ≤ k))) hb);have HZ7:=aa.mk hb.size;clear ho hb hk));have hal:(Lh (Oe za i)).length ≤ 2:=Nat.le_trans (Ys _) htl;have HZB:=aa.mk ER.out.size;have HK0:=aa.mk (Kept.refl w7 (fun k=>k < wb.heap.size));have HAC:=aa.mk (fun W' hk=>Kd.Um (S:=fun k=>k < wb.heap.size) (Kd.Db (Kd.Fe HA7.out) (fun k hk=>hk.2.1)) (fun k hk e=>by omega) W' hk)
   have HRI:=aa.mk (show Kd.R k2 85 w7 w2.heap.size (fun k=>k < wb.heap.size ∨ w7.heap.size ≤ k) u4 (Kg za i ++ Nl za i 0) from by
    rw [show Nl za i 0=[] from rfl,List.append_nil]
    exact HR7.out)
   clear HN6 FY HR6 JV HA7 HR7 sY U5 rY xY HAS htl
   go_loopg [4,24] (Lh (Oe za i)).length (fun gj v4 v24 wz=>∃ j:Nat,v24 = .int .i64 j∧j ≤ (Lh (Oe za i)).length∧(Lh (Oe za i)).length - j ≤ gj∧aa (Kd.R k2 85 wz w2.heap.size (fun k=>k < wb.heap.size ∨ w7.heap.size ≤ k) v4 (Kg za i ++ Nl za i j))∧aa (Kept w7 wz (fun k=>k < wb.heap.size))∧aa (Below w2.heap.size w2 wz))
   case atStart=>exact ⟨0,rfl,Nat.zero_le _,by omega,HRI,HK0,JL⟩
   case round =>
    clear HRI HK0 JL;(try clear HR);(try clear HK);(try clear HB);obtain ⟨j,rfl,hj,hgj,HR,HK,HB⟩:=hrel
    by_cases hjt:j < (Lh (Oe za i)).length
    ·have iH:decide ((j:Int) < ((Lh (Oe za i)).length:Int))=true:=decide_eq_true (by omega);have j1:0 ≤ (j:Int):=by omega
     have j2:(j:Int) < ((Lh (Oe za i)).length:Int):=by omega
     obtain ⟨ad,e1,hx⟩:=Kd.Ud (HAC.out wr HK.out) (j:Int) j1 j2;subst e1;rw [Int.toNat_natCast,Gh hjt] at hx;obtain ⟨A3,c3,Jh,-,KK⟩:=JI (Kd.Bh zL.out HB.out) (i:=i) (by rw [El];exact hlt);rw [show (Gk za).getD i []=Im za i from by rw [← CE hlt];rfl] at Jh KK;obtain ⟨kc,hkc⟩:=Ev.rounds (Pz (Im za i) (Lh (Oe za i))[j] (Kd.Wa KK).2.2.2.1);have HV:=aa.mk (Tb.calls kc A3 c3 (Im za i) (Lh (Oe za i))[j] _ wr (Kd.Wa KK).2.2 (Kd.Wa KK).2.1 hkc);have bJ:=aa.mk (TB (bs:=za) hjt);have i1:0 ≤ (i:Int):=by omega
     have i2:(i:Int) < ((Gk za).length:Int):=by rw [El];omega
     have Q5:=aa.mk (show ((Kg za i ++ Nl za i j).length + 1) * 16 ≤ 140737488355328 from by
      have h1:=Km za i;have h2:=CF za i j;rw [List.length_append]
      omega)
     clear KK hkc;generalize (Lh (Oe za i))[j]=t at hx HV bJ
     by_cases hm:t ∈ Im za i
     ·rw [decide_eq_true hm] at HV;have IQ:=aa.mk (bJ.out.trans (if_pos hm));have S5:=aa.mk (fun k (hk:wr.heap.size ≤ k)=>(Or.inr (Nat.le_trans HK.out.1 hk):k < wb.heap.size ∨ w7.heap.size ≤ k));clear bJ;go_wp2_with (first|(go_at_call 83;(with_reducible refine HV.out.mono ?_);rintro e w8 ⟨rfl,⟨n8,rfl⟩⟩)|(at_builtin;refine Kd.Sl k2 (w0:=w2) w2.heap.size rfl (.tmp 34) (.tmp 38) 57 85 (.agg #[.int .i64 0,.int .i64 0]) 16 rfl Try.underlying57 yC rfl (by decide) (by omega) _ (Kg za i ++ Nl za i j) ((i:Int),t) [.int .i64 (i:Int),.int .i64 t] (fun k=>k < wb.heap.size ∨ w7.heap.size ≤ k) (fun _=>False) rfl rfl ?aP (fun _ hk=>hk.elim) S5.out ?aR ?aB ?aS Q5.out ?_;(case aP=>exact Qw _ _ _ ((i:Int),t));(case aR=>exact Kd.La HR.out _);(case aB=>exact ga HB.out _);(case aS=>exact HB.out.size);intro v1 w1 ho hb hgr hat;have cN:=aa.mk ho;have Sm:=aa.mk hb;have Gf:=aa.mk (Kept.Te hgr (Kept.drewN HK.out _) (fun k e=>HR.out.1 k e));clear ho hb hgr hat))
      go_roundg ((Lh (Oe za i)).length - (j + 1))
      case measure=>omega
      case rel=>exact ⟨j + 1,by go_num,by omega,by omega,⟨by rw [IQ.out,← List.append_assoc];exact cN.out⟩,Gf,Sm⟩
     ·rw [decide_eq_false hm] at HV;have IQ:=aa.mk (bJ.out.trans (if_neg hm));clear bJ;go_wp2_with (first|(go_at_call 83;(with_reducible refine HV.out.mono ?_);rintro e w8 ⟨rfl,⟨n8,rfl⟩⟩))
      go_roundg ((Lh (Oe za i)).length - (j + 1))
      case measure=>omega
      case rel=>exact ⟨j + 1,by go_num,by omega,by omega,⟨by rw [IQ.out];exact Kd.La HR.out _⟩,⟨Kept.drewN HK.out _⟩,⟨ga HB.out _⟩⟩
    ·have iH:decide ((j:Int) < ((Lh (Oe za i)).length:Int))=false:=decide_eq_false (by omega);obtain rfl:j=(Lh (Oe za i)).length:=by omega
     have K5:=aa.mk (show Kd.R k2 85 wr w2.heap.size (fun _=>True) u4 (Kg za (i + 1)) from by
      rw [← DF]
      exact Kd.Db HR.out (fun _ _=>trivial))
     go_wp2
     go_roundg (za.length - (i + 1))
     case measure=>omega
     case rel=>exact ⟨i + 1,by go_num,by omega,by omega,K5,HB⟩
  ·have Xh:decide ((i:Int) < (za.length:Int))=false:=decide_eq_false (by omega);obtain rfl:i=za.length:=by omega
   go_wp2;go_ret;exact ⟨_,rfl,Kd.Db (Kd.Xc HR.out Yi.out.size) (fun _ _=>trivial),Np Yi.out Yi.out.size HB.out⟩
noncomputable def Ih.f (k:Nat) (Ma:List Int) (Pa:Int) (Qa:Int) (Oa:Int) (za:List (Yd)):Option (List (Int × Int)):=(Rb.f k Ma Pa Qa Oa za).bind fun t=>if t=true then Wg.f Ma Pa Qa Oa za else some []
theorem Ih.calls (k:Nat) (Bb:Option Addr) (Ab:Nat) (Ma:List Int) (Pa:Int) (Qa:Int) (Oa:Int) (Qb:Option Addr) (Gb:Nat) (za:List (Yd)) (r:List (Int × Int)) (w:World) (od:Kd.C (Kd.int .i64) w Bb Ma.length Ma) (Nd:Ma.length ≤ Ab) (ze:Kd.C Jl w Qb za.length za) (Ve:za.length ≤ Gb) (h:Ih.f k Ma Pa Qa Oa za=some r) :
  Calls Try.prog 43 #[.agg #[.slice Bb Ma.length Ab,.int .i64 Pa,.int .i64 Qa,.int .i64 Oa,.slice Qb za.length Gb]] w fun e w'=>∃ zj:Value,e = .returned (zj)∧Kd.R k2 85 w' w.heap.size (fun _=>True) zj r∧Below w.heap.size w w':=by
 unfold Ih.f at h;obtain ⟨t,tT,h⟩:=Option.bind_eq_some_iff.mp h;obtain ⟨W1,hW,hb,hx⟩:=Mw w (.cells #[.slice Bb Ma.length Ab,.int .i64 Pa,.int .i64 Qa,.int .i64 Oa,.slice Qb za.length Gb] 45 (0,0));have HW:=aa.mk hW;have HB:=aa.mk hb;have HX:=aa.mk hx;have HIG:=aa.mk (Rb.calls k Bb Ab Ma Pa Qa Oa Qb Gb za t W1 (Kd.yb od hb) Nd (Kd.yb ze hb) Ve tT);have HH:=aa.mk h;have xk:=aa.mk (Kd.yb od hb);have oy:=aa.mk (Kd.yb ze hb);have sE:=aa.mk Nd;have rE:=aa.mk Ve;obtain ⟨x0,x1,x2,x3,x4⟩:=Cg hx;clear hW hb hx od ze Nd Ve h tT;go_enter Try.func43,Try.ntmps43
 go_upto_region 1 with (fail)
 rw [← HW.out];clear HW;cases t with
 | false =>
  have h:=HH.out;rw [if_neg (by simp)] at h;cases h;go_wp2_with (first|(go_at_call 71;(with_reducible refine HIG.out.mono ?_);rintro e w2 ⟨rfl,hb⟩;have Yi:=aa.mk (Fa HB.out hb);clear hb));go_ret;exact ⟨_,rfl,Kd.Zs _ _ _ _ _,Yi.out⟩
 | true =>
  have h:=HH.out;rw [if_pos rfl] at h;have HF:=aa.mk h;clear h HH
  go_upto_region 3 with (first|(go_at_call 71;(with_reducible refine HIG.out.mono ?_);rintro e w2 ⟨rfl,hb⟩;have Yi:=aa.mk hb;have bC:=aa.mk (Ua HX.out hb);clear hb x0 x1 x2 x3 x4))
  obtain ⟨x0,x1,x2,x3,x4⟩:=Cg bC.out;go_wp2_with (first|(go_at_call 72;(with_reducible refine (Wg.calls Bb Ab Ma Pa Qa Oa Qb Gb za r w2 (Kd.yb xk.out Yi.out) sE.out (Kd.yb oy.out Yi.out) rE.out HF.out).mono ?_);rintro e w3 ⟨v3,rfl,ho,hb⟩;have Rp:=aa.mk ho;have xp:=aa.mk (Fa (Fa HB.out Yi.out) hb);clear ho hb));go_ret;exact ⟨_,rfl,Kd.Xc Rp.out (Fa HB.out Yi.out).size,xp.out⟩
theorem jI {bs:List Yd} (hE:Vd bs) {b q:Nat} (hq:q < bs.length):decide ((b:Int) ∈ Im bs q)=Tf false (vk bs b) (q:Int):=by
 have h1:=UD (bs:=bs) (i:=b) hq;have h2:Tf false (vk bs b) (q:Int)=(vk bs b).getD q false:=rfl;rw [h2]
 by_cases hd:Dom (Oe bs) b q
 ·rw [h1.2 hd];exact decide_eq_true ((Sz hE).2 ⟨by omega,by rw [Int.toNat_natCast];exact hd⟩)
 ·rw [decide_eq_false (fun h=>hd (by have:=((Sz hE).1 h).2;rwa [Int.toNat_natCast] at this))];cases hb:(vk bs b).getD q false with
  | false=>rfl
  | true=>exact absurd (h1.1 hb) hd
noncomputable def Fh.f (k:Nat) (Ma:List Int) (Pa:Int) (Qa:Int) (Oa:Int) (za:List (Yd)):Option (List (Int × Int)) :=
 (Ae.f k Ma Pa Qa Oa za).bind fun t=>if t=true then ((Ta.f k Ma Pa Qa Oa za).bind fun M=>open Classical in if M=gm za∧Vd za then some (Bs za) else none) else some []
noncomputable def xl (bs:List Yd) (b j:Nat):List Int:=((Oe bs b).take j).filter (fun t=>decide (t ∈ Im bs b))
theorem UB {bs:List Yd} {b j:Nat} (h:j < (Oe bs b).length):xl bs b (j + 1)=if (Oe bs b)[j] ∈ Im bs b then xl bs b j ++ [(Oe bs b)[j]] else xl bs b j:=by
 unfold xl;rw [Ll _ _ h]
 by_cases hm:(Oe bs b)[j] ∈ Im bs b
 ·rw [if_pos (decide_eq_true hm),if_pos hm]
 ·rw [if_neg (by simp [hm]),if_neg hm,List.append_nil]
theorem EF (bs:List Yd) (b:Nat):(xl bs b (Oe bs b).length).foldl jj []=di bs b:=by
 rw [DI];unfold xl di;rw [List.take_length];refine Fu _ _ (Pk _).1 ((Pk _).1.filter _) (fun x=>?_);rw [(Pk _).2,List.mem_filter,List.mem_filter,(Pk _).2]
theorem Fh.calls (k:Nat) (Bb:Option Addr) (Ab:Nat) (Ma:List Int) (Pa:Int) (Qa:Int) (Oa:Int) (Qb:Option Addr) (Gb:Nat) (za:List (Yd)) (r:List (Int × Int)) (w:World) (od:Kd.C (Kd.int .i64) w Bb Ma.length Ma) (Nd:Ma.length ≤ Ab) (ze:Kd.C Jl w Qb za.length za) (Ve:za.length ≤ Gb) (h:Fh.f k Ma Pa Qa Oa za=some r) :
  Calls Try.prog 42 #[.agg #[.slice Bb Ma.length Ab,.int .i64 Pa,.int .i64 Qa,.int .i64 Oa,.slice Qb za.length Gb]] w fun e w'=>∃ zj:Value,e = .returned (zj)∧Kd.R k2 85 w' w.heap.size (fun _=>True) zj r∧Below w.heap.size w w':=by
 unfold Fh.f at h;obtain ⟨t,tT,h⟩:=Option.bind_eq_some_iff.mp h;have TT:=aa.mk tT;have HH:=aa.mk h;obtain ⟨W1,hW,hb,hx,hy⟩:=dm w (.cells #[.slice Bb Ma.length Ab,.int .i64 Pa,.int .i64 Qa,.int .i64 Oa,.slice Qb za.length Gb] 45 (0,0)) (.cells #[] 85 (0,0));have hzz:(w.alloc (.cells #[.slice Bb Ma.length Ab,.int .i64 Pa,.int .i64 Qa,.int .i64 Oa,.slice Qb za.length Gb] 45 (0,0))).heap.size=w.heap.size + 1:=by simp
 have HO:=aa.mk (show Kd.R k2 85 W1 w.heap.size (fun k=>k=w.heap.size + 1) (.slice (some ⟨w.heap.size + 1,0,none⟩) 0 0) [] by
  have h:=xj k2 85 (w.alloc (.cells #[.slice Bb Ma.length Ab,.int .i64 Pa,.int .i64 Qa,.int .i64 Oa,.slice Qb za.length Gb] 45 (0,0))) w.heap.size (by simp);rw [hzz,← hW] at h
  exact ⟨fun k hk=>by simpa [Value.ownBlock] using hk.symm,h.2.Lk (fun p c hp=>hp.elim (fun _ h=>h.elim (fun _ h=>⟨_,_,h⟩)))⟩)
 have HW:=aa.mk hW;have HB:=aa.mk hb;have HX:=aa.mk hx;have xk:=aa.mk od;have oy:=aa.mk ze;have sE:=aa.mk Nd;have rE:=aa.mk Ve;have hm4:=ze.2.1;obtain ⟨x0,x1,x2,x3,x4⟩:=Cg hx;clear hW hb hx hy od ze Nd Ve h tT hzz;go_enter Try.func42,Try.ntmps42
 go_upto_region 2 with (fail)
 rw [← HW.out];clear HW;cases t with
 | false =>
  have h:=HH.out;rw [if_neg (by simp)] at h;cases h;go_wp2_with (first|(go_at_call 66;(with_reducible refine (Ae.calls k Bb Ab Ma Pa Qa Oa Qb Gb za false W1 (Kd.yb xk.out HB.out) sE.out (Kd.yb oy.out HB.out) rE.out TT.out).mono ?_);rintro e w2 ⟨rfl,hb⟩;have zL:=aa.mk (Kd.Xb HO.out hb);have Yi:=aa.mk (Fa HB.out hb);clear hb));go_ret;exact ⟨_,rfl,Kd.Db zL.out (fun _ _=>trivial),Yi.out⟩
 | true =>
  have h:=HH.out;rw [if_pos rfl] at h;obtain ⟨M,tM,h⟩:=Option.bind_eq_some_iff.mp h
  by_cases hm:M=gm za∧Vd za
  case neg=>rw [if_neg hm] at h;cases h
  rw [if_pos hm] at h;cases h;obtain ⟨rfl,hE⟩:=hm;have HE:=aa.mk hE;have hn0:0 < za.length:=hE.1;have rW:za.length ≤ 1048576:=hE.2.1;have TM:=aa.mk tM;clear tM HH hE
  go_upto_region 4 with (first|(go_at_call 66;(with_reducible refine (Ae.calls k Bb Ab Ma Pa Qa Oa Qb Gb za true W1 (Kd.yb xk.out HB.out) sE.out (Kd.yb oy.out HB.out) rE.out TT.out).mono ?_);rintro e w2 ⟨rfl,hb⟩;have zL:=aa.mk (Kd.Xb HO.out hb);have Yi:=aa.mk (Fa HB.out hb);have bC:=aa.mk (Ua HX.out hb);have Y_:=aa.mk (Nat.lt_of_lt_of_le (Kd.ek HO.out _ rfl) hb.size);clear hb x0 x1 x2 x3 x4))
  clear HO HB HX;obtain ⟨x0,x1,x2,x3,x4⟩:=Cg bC.out
  go_upto_region 5 with (first|(go_at_call 67;(with_reducible refine (Ta.calls k Bb Ab Ma Pa Qa Oa Qb Gb za (gm za) w2 (Kd.yb xk.out Yi.out) sE.out (Kd.yb oy.out Yi.out) rE.out TM.out).mono ?_);rintro e w3 ⟨v3,rfl,ho,hb⟩;obtain ⟨gT,cT,hv3,-,-,-⟩:=Kd.nv ho (by rw [Pg];exact hn0);subst hv3;have HM3:=aa.mk (Kd.Rf (Kd.Mm ho) (fun k hk=>hk.2.1));have Rp:=aa.mk (Kd.Xb zL.out hb);have xp:=aa.mk (Fa Yi.out hb);have xR:=aa.mk (Ua bC.out hb);have HZ3:=aa.mk hb.size;clear ho hb x0 x1 x2 x3 x4))
  clear zL Yi bC;have HQ:=aa.mk (show w.heap.size + 1 < w2.heap.size from Y_.out);have YU:=aa.mk (show Kd.R k2 85 w3 w.heap.size (fun k=>k=w.heap.size + 1 ∨ w3.heap.size ≤ k) (.slice (some ⟨w.heap.size + 1,0,none⟩) 0 0) (Kg za 0) from Kd.Db Rp.out (fun k hk=>.inl hk));have HKA:=aa.mk (Kept.refl w3 (fun k=>k=w.heap.size + 1));clear Rp Y_ TT TM h;go_wp2
  go_loopg [3,5] za.length (fun gg v3 v5 wr=>∃ i:Nat,v5 = .int .i64 i∧i ≤ za.length∧za.length - i ≤ gg∧aa (Kd.R k2 85 wr w.heap.size (fun k=>k=w.heap.size + 1 ∨ w3.heap.size ≤ k) v3 (Kg za i))∧aa (Kept w3 wr (fun k=>k=w.heap.size + 1))∧aa (Below w.heap.size w wr))
  case atStart=>exact ⟨0,rfl,Nat.zero_le _,by omega,YU,HKA,xp⟩
  case round =>
   clear YU HKA xp;(try clear HR);(try clear HK);(try clear HB);obtain ⟨i,rfl,hi,BA,HR,HK,HB⟩:=hrel
   by_cases hlt:i < za.length
   ·have Xh:i < (gm za).length:=by rw [Pg];exact hlt
    have i1:0 ≤ (i:Int):=by omega
    have i2:(i:Int) < (za.length:Int):=by omega
    obtain ⟨x0,x1,x2,x3,x4⟩:=Cg (jg xR.out HK.out (by omega));obtain ⟨ag,Ac,cc,e1,hc0,hc1,ju,jy,DJ,Us,yM⟩:=Nk (Kd.yb oy.out HB.out) (i:Int) i1 i2;subst e1;simp only [Int.toNat_natCast] at hc0 hc1 ju jy DJ;have HTS:=aa.mk (HE.out.2.2 i hlt);have htl:(Oe za i).length ≤ 2:=Jj _
    go_upto_region 9 with (fail)
    have GL:=aa.mk (ia (Below.refl wr.heap.size wr) (.cells #[] 3 (0,0)));have HL:=aa.mk (xj (Kd.int .i64) 3 wr wr.heap.size (Nat.le_refl _));have hla:(wr.alloc (.cells #[] 3 (0,0))).heap.size=wr.heap.size + 1:=by simp
    generalize wr.alloc (.cells #[] 3 (0,0))=wa at GL HL hla ⊢;replace x4:=Xe GL.out x4;replace hc0:=Xe GL.out hc0;replace hc1:=Xe GL.out hc1;replace ju:=Xe GL.out ju;replace jy:=Xe GL.out jy;replace DJ:=Xe GL.out DJ;have nJ:=aa.mk (Kd.yb yM GL.out);have MJ:=aa.mk Us;have HLA:=aa.mk hla;clear x0 x1 x2 x3 yM Us hla;obtain ⟨wo,rfl⟩:∃ wo,wo=wr:=⟨_,rfl⟩;go_wp2_with (first|(go_at_call 85;(with_reducible refine (Ye.calls Ac cc (Ga za (i:Int)).f0 (Ga za (i:Int)).f1 (Ga za (i:Int)).f2 (Ga za (i:Int)).f3 (Ga za (i:Int)).f4 (Oe za i) wa nJ.out MJ.out (Cr _)).mono ?_);rintro e w5 ⟨v7,rfl,ho,hb⟩;obtain ⟨A7,c7,rfl⟩:=Kd.ic ho;have HN5:=aa.mk ho;have oJ:=aa.mk (Fa GL.out hb);have HL5:=aa.mk (Kd.Xb HL.out hb);have Q5:=aa.mk (Kd.ek HL.out);have HZ5:=aa.mk hb.size;have uL:=aa.mk (show Kd.R (Kd.int .i64) 3 w5 wo.heap.size (fun k=>(k < wa.heap.size∧wo.heap.size ≤ k) ∨ w5.heap.size ≤ k) (.slice (some ⟨wo.heap.size,0,none⟩) 0 0) ((xl za i 0).foldl jj []) from Kd.Xb (Kd.Db (Kd.Fe HL.out) (fun k hk=>.inl ⟨hk.2.2.1,hk.2.1⟩)) hb);clear ho hb x4 hc0 hc1 ju jy DJ));have yY:=aa.mk (fun W' hk=>Kd.Um (S:=fun k=>k < wa.heap.size∧wo.heap.size ≤ k) (Kd.Db (Kd.Fe HN5.out) (fun k hk=>hk.2.1)) (fun k hk e=>by omega) W' hk);have HK5:=aa.mk (Kept.refl w5 (fun k=>k < wa.heap.size∧wo.heap.size ≤ k));clear HN5 HL5 Q5 HL nJ MJ HLA
    go_loopg [6,8] (Oe za i).length (fun g2 v6 v8 wz=>∃ j:Nat,v8 = .int .i64 j∧j ≤ (Oe za i).length∧(Oe za i).length - j ≤ g2∧aa (Kd.R (Kd.int .i64) 3 wz wo.heap.size (fun k=>(k < wa.heap.size∧wo.heap.size ≤ k) ∨ w5.heap.size ≤ k) v6 ((xl za i j).foldl jj []))∧aa (Kept w5 wz (fun k=>k < wa.heap.size∧wo.heap.size ≤ k))∧aa (Below wo.heap.size wo wz))
    case atStart=>exact ⟨0,rfl,Nat.zero_le _,by omega,uL,HK5,oJ⟩
    case round =>
     clear uL HK5 oJ;(try clear uL);(try clear tN);(try clear IL);obtain ⟨j,rfl,hj,hgj,uL,tN,IL⟩:=hrel
     have uB:((xl za i j).foldl jj []).length ≤ 2:=by
      have h1:=Pq (xl za i j) [];have h2:(xl za i j).length ≤ (Oe za i).length:=Nat.le_trans (List.length_filter_le _ _) (by rw [List.length_take];omega);simp only [List.length_nil] at h1;omega
     have HBN:=aa.mk uB;clear uB
     by_cases hjt:j < (Oe za i).length
     ·have iH:decide ((j:Int) < ((Oe za i).length:Int))=true:=decide_eq_true (by omega);have j1:0 ≤ (j:Int):=by omega
      have j2:(j:Int) < ((Oe za i).length:Int):=by omega
      obtain ⟨ad,tn,e1,ht,htn,hx⟩:=uC HE.out hlt hjt (yY.out wr tN.out);subst e1;have HMr:=aa.mk (Kd.Bh (Kd.Qx HM3.out HK.out (fun k hk e=>by have:=HQ.out;have hk:w2.heap.size ≤ k:=hk;omega)) IL.out);obtain ⟨A3,c3,Jh,-,KK⟩:=JI HMr.out (i:=tn) (by rw [Pg];exact htn);rw [SJ htn] at Jh KK;obtain ⟨bd,e3,L2⟩:=Kd.Ui (Kd.Wa KK).2.2 (i:Int) i1 (by rw [Di];exact i2);subst e3;rw [Int.toNat_natCast,← jI HE.out hlt] at L2;have bJ:=aa.mk (UB (bs:=za) hjt);rw [ht] at bJ;have t1:0 ≤ (tn:Int):=by omega
      have t2:(tn:Int) < ((gm za).length:Int):=by rw [Pg];omega
      have t3:(i:Int) < ((vk za tn).length:Int):=by rw [Di];omega
      have HAD:=aa.mk (show Ci.f ((xl za i j).foldl jj []) (tn:Int)=some (jj ((xl za i j).foldl jj []) (tn:Int)) from by
       unfold Ci.f
       rw [if_pos (by have:=HBN.out;omega)])
      clear KK ht HMr
      by_cases hm:(tn:Int) ∈ Im za i
      ·rw [decide_eq_true hm] at L2;have IQ:=aa.mk (bJ.out.trans (if_pos hm));clear bJ;go_wp2_with (first|(go_at_call 55;(with_reducible refine (Ci.calls (fun k=>(k < wa.heap.size∧wo.heap.size ≤ k) ∨ w5.heap.size ≤ k) _ ((xl za i j).foldl jj []) (tn:Int) _ wo wr IL.out uL.out HAD.out).mono ?_);rintro e w8 ⟨v8,rfl,ho,hb,hk⟩;have HR8:=aa.mk (Kd.Db ho (fun k hk=>(hk.elim id (fun h=>.inr (Nat.le_trans tN.out.1 h)):(k < wa.heap.size∧wo.heap.size ≤ k) ∨ w5.heap.size ≤ k)));have GY:=aa.mk hb;have HK8:=aa.mk (tN.out.Ms hk (fun k hk=>hk));clear ho hb hk))
       go_roundg ((Oe za i).length - (j + 1))
       case measure=>omega
       case rel=>exact ⟨j + 1,by go_num,by omega,by omega,⟨by rw [IQ.out,List.foldl_append];exact HR8.out⟩,HK8,GY⟩
      ·rw [decide_eq_false hm] at L2;have IQ:=aa.mk (bJ.out.trans (if_neg hm));clear bJ;go_wp2
       go_roundg ((Oe za i).length - (j + 1))
       case measure=>omega
       case rel=>exact ⟨j + 1,by go_num,by omega,by omega,⟨by rw [IQ.out];exact uL.out⟩,tN,IL⟩
     ·have iH:decide ((j:Int) < ((Oe za i).length:Int))=false:=decide_eq_false (by omega);obtain rfl:j=(Oe za i).length:=by omega
      rw [EF] at uL;have GQ:=uL.out;obtain ⟨A6,c6,rfl⟩:=Kd.ic GQ;have HLC:=aa.mk (fun W' hk=>Kd.Um (S:=fun k=>k < wo.heap.size∧(k=w.heap.size + 1 ∨ w3.heap.size ≤ k)) (Kd.Db (Kd.Fe GQ) (fun k hk=>hk.2.1)) (fun k hk e=>by have hk:wo.heap.size ≤ k:=hk;omega) W' hk);have qW:=zw za i;obtain ⟨wp,rfl⟩:∃ wp,wp=wr:=⟨_,rfl⟩
      have vY:=aa.mk (show Kd.R k2 85 wp w.heap.size (fun k=>(k=w.heap.size + 1 ∨ w3.heap.size ≤ k)∧(k < wo.heap.size ∨ wp.heap.size ≤ k)) u3 (Kg za i ++ ((di za i).take 0).map (fun t=>((i:Int),t))) from by
       rw [List.take_zero,List.map_nil,List.append_nil]
       exact Kd.Xb (Kd.Db (Kd.Fe HR.out) (fun k hk=>⟨hk.1,.inl hk.2.2.1⟩)) IL.out)
      have tV:=aa.mk (Kept.refl wp (fun k=>k < wo.heap.size∧(k=w.heap.size + 1 ∨ w3.heap.size ≤ k)));have fy:=aa.mk (Fa HB.out IL.out);have HKo:=aa.mk (HK.out.below IL.out);clear uL GQ tN yY HR HBN HK HB;go_wp2
      go_loopg [3,9] (di za i).length (fun g3 v3 v9 wz=>∃ j:Nat,v9 = .int .i64 j∧j ≤ (di za i).length∧(di za i).length - j ≤ g3∧aa (Kd.R k2 85 wz w.heap.size (fun k=>(k=w.heap.size + 1 ∨ w3.heap.size ≤ k)∧(k < wo.heap.size ∨ wp.heap.size ≤ k)) v3 (Kg za i ++ ((di za i).take j).map (fun t=>((i:Int),t))))∧aa (Kept wp wz (fun k=>k < wo.heap.size∧(k=w.heap.size + 1 ∨ w3.heap.size ≤ k)))∧aa (Below w.heap.size w wz))
      case atStart=>exact ⟨0,rfl,Nat.zero_le _,by omega,vY,tV,fy⟩
      case round =>
       clear vY tV fy;(try clear HR);(try clear HK);(try clear HB);obtain ⟨q,rfl,hq,hgq,HR,HK,HB⟩:=hrel
       by_cases D8:q < (di za i).length
       ·have SZ:decide ((q:Int) < ((di za i).length:Int))=true:=decide_eq_true (by omega);have q1:0 ≤ (q:Int):=by omega
        have q2:(q:Int) < ((di za i).length:Int):=by omega
        obtain ⟨ad,e1,hx⟩:=Kd.Ud (HLC.out wr HK.out) (q:Int) q1 q2;subst e1;rw [Int.toNat_natCast,Gh D8] at hx;have HTK:=aa.mk (show (di za i).take (q + 1)=(di za i).take q ++ [(di za i)[q]] from List.take_succ_eq_append_getElem D8)
        have HLB:=aa.mk (show ((Kg za i ++ ((di za i).take q).map (fun t=>((i:Int),t))).length + 1) * 16 ≤ 140737488355328 from by
         have h1:=Km za i;rw [List.length_append,List.length_map,List.length_take]
         omega)
        have S5:=aa.mk (fun k (hk:wr.heap.size ≤ k)=>(And.intro (Or.inr (Nat.le_trans HKo.out.1 (Nat.le_trans HK.out.1 hk))) (Or.inr (Nat.le_trans HK.out.1 hk)):(k=w.heap.size + 1 ∨ w3.heap.size ≤ k)∧(k < wo.heap.size ∨ wp.heap.size ≤ k)));generalize (di za i)[q]=t at hx HTK;go_wp2_with (first|(at_builtin;refine Kd.Sl k2 (w0:=w) w.heap.size rfl (.tmp 58) (.tmp 65) 57 85 (.agg #[.int .i64 0,.int .i64 0]) 16 rfl Try.underlying57 yC rfl (by decide) (by omega) _ (Kg za i ++ ((di za i).take q).map (fun t=>((i:Int),t))) ((i:Int),t) [.int .i64 (i:Int),.int .i64 t] (fun k=>(k=w.heap.size + 1 ∨ w3.heap.size ≤ k)∧(k < wo.heap.size ∨ wp.heap.size ≤ k)) (fun _=>False) rfl rfl ?aP (fun _ hk=>hk.elim) S5.out HR.out HB.out HB.out.size HLB.out ?_;(case aP=>exact Qw _ _ _ ((i:Int),t));intro v1 w1 ho hb hgr hat;have cN:=aa.mk ho;have Sm:=aa.mk hb;have Gf:=aa.mk (Kept.Te hgr HK.out (fun k e=>(HR.out.1 k e).2.elim (fun h=>.inl ⟨h,(HR.out.1 k e).1⟩) .inr));clear ho hb hgr hat))
        go_roundg ((di za i).length - (q + 1))
        case measure=>omega
        case rel=>exact ⟨q + 1,by go_num,by omega,by omega,⟨by rw [HTK.out,List.map_append,← List.append_assoc];exact cN.out⟩,Gf,Sm⟩
       ·have SZ:decide ((q:Int) < ((di za i).length:Int))=false:=decide_eq_false (by omega);obtain rfl:q=(di za i).length:=by omega
        have K5:=aa.mk (show Kd.R k2 85 wr w.heap.size (fun k=>k=w.heap.size + 1 ∨ w3.heap.size ≤ k) u3 (Kg za (i + 1)) from by
         have h:=HR.out;rw [List.take_length] at h
         exact Kd.Db h (fun _ hk=>hk.1))
        have HKN:=aa.mk (HKo.out.Ms HK.out (fun k hk=>hk.2));go_wp2
        go_roundg (za.length - (i + 1))
        case measure=>omega
        case rel=>exact ⟨i + 1,by go_num,by omega,by omega,K5,HKN,HB⟩
   ·have Xh:¬ i < (gm za).length:=by rw [Pg];exact hlt
    have R8:i=za.length:=by omega
    have HRE:=aa.mk (show Kd.R k2 85 wr w.heap.size (fun _=>True) u3 (Bs za) from by rw [R8] at HR;exact Kd.Db HR.out (fun _ _=>trivial));clear R8;go_wp2;go_ret;exact ⟨_,rfl,HRE.out,HB.out⟩
theorem RB {l0:List Int} {p v s:Int} {bs:List Yd} (hE:Vd bs):Wg.f l0 p v s bs=some (Bs bs):=by
 unfold Wg.f;rw [if_pos hE]
open Classical in
theorem BB (l0:List Int) (p v s:Int) (bs:List Yd) (h0:l0.length ≤ 1048576) (hl:bs.length ≤ 1048576) (ht:yc bs ≤ 1048576):Ev (fun k=>Fh.f k l0 p v s bs) (if Qh l0 p v s bs=true then Bs bs else []):=by
 unfold Fh.f
 by_cases hok:Qh l0 p v s bs=true
 ·rw [if_pos hok];exact Ev.bind (Jp h0 hl ht) (Ev.pos hok (Ev.bind (Mz h0 hl ht hok) (Ev.pos ⟨rfl,Gm hok⟩ (Ev.now _))))
 ·rw [if_neg hok];exact Ev.bind (Jp h0 hl ht) (Ev.neg hok (Ev.now _))
theorem aI (l0:List Int) (p v s:Int) (bs:List Yd) (h0:l0.length ≤ 1048576) (hl:bs.length ≤ 1048576) (ht:yc bs ≤ 1048576) :
  ∃ r:List (Int × Int),Ev (fun k=>Fh.f k l0 p v s bs) r∧Ev (fun k=>Ih.f k l0 p v s bs) r∧r.length ≤ 2097152:=by
 refine ⟨_,BB l0 p v s bs h0 hl ht,?_,?_⟩
 ·unfold Ih.f
  by_cases hok:Qh l0 p v s bs=true
  ·rw [if_pos hok];exact Ev.bind (Uu h0 hl ht) (Ev.pos hok (Ev.here (RB (Gm hok))))
  ·rw [if_neg hok];exact Ev.bind (Uu h0 hl ht) (Ev.neg hok (Ev.now _))
 ·by_cases hok:Qh l0 p v s bs=true
  ·rw [if_pos hok];have:=SB bs;omega
  ·rw [if_neg hok];simp
end Go.Proofs.Ytoomcmaifgkkfaa.P
end
