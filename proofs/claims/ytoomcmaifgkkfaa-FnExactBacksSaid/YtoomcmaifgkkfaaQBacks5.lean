import Derived.Test.YtoomcmaifgkkfaaQBacks1
import Derived.Shelf.Abstract
import Derived.Outline
import Derived.RegionTactic
import Derived.Deep.QuietTactic
import Derived.BigQuiet
import Derived.Test.YtoomcmaifgkkfaaQBacks3
import Derived.Test.YtoomcmaifgkkfaaQBacks2
set_option maxHeartbeats 8000000
set_option maxRecDepth 100000
section
namespace Go.Proofs.Ytoomcmaifgkkfaa.P
open Go.RowKit Go.Proofs.ua.zb Go.Proofs.ua.Lc Go.Proofs.ua.Pd
set_option linter.unusedVariables false
set_option linter.unusedSimpArgs false
attribute [local go_sem] Hg Fg Nh Mh cg bg Gg Eg
mutual
def Za.l0:Nat→Int→List Bool→List Int→List Int→Int→Int→Int→List (Yd)→Option (List Bool)
 | 0,_,_,_,_,_,_,_,_=>none
 | k + 1,x2,x3,x8,Cd,Bd,Ad,yd,Yb=>if (x8.length:Int) > 0 then (if 0 < (x8.length:Int) then (if 0 ≤ (rd x8 0) then (if (rd x8 0) < (Yb.length:Int) then ((Ye.f ((Ga Yb (rd x8 0)).f0) ((Ga Yb (rd x8 0)).f1) ((Ga Yb (rd x8 0)).f2) ((Ga Yb (rd x8 0)).f3) ((Ga Yb (rd x8 0)).f4)).bind fun t108=>(if 1 ≤ (x8.length:Int) then (Za.l1 k x2 x3 (x8.drop (1:Int).toNat) t108 0 Cd Bd Ad yd Yb) else (none))) else (none)) else (none)) else (none)) else (some x3)
def Za.l1:Nat→Int→List Bool→List Int→List Int→Int→List Int→Int→Int→Int→List (Yd)→Option (List Bool)
 | 0,_,_,_,_,_,_,_,_,_,_=>none
 | k + 1,x2,x3,x8,x9,Gw,Cd,Bd,Ad,yd,Yb=>if Gw < (x9.length:Int) then (if 0 ≤ Gw then (if (rd x9 Gw)=x2 then (Za.l1 k x2 x3 x8 x9 (wrap64 (Gw + 1)) Cd Bd Ad yd Yb) else (if 0 ≤ (rd x9 Gw) then (if (rd x9 Gw) < (x3.length:Int) then (if (Tf false x3 (rd x9 Gw)=true) then (Za.l1 k x2 x3 x8 x9 (wrap64 (Gw + 1)) Cd Bd Ad yd Yb) else (if x8.length < 17592186044416 then (Za.l1 k x2 (x3.set ((rd x9 Gw):Int).toNat true) (x8 ++ [rd x9 Gw]) x9 (wrap64 (Gw + 1)) Cd Bd Ad yd Yb) else (none))) else (none)) else (none))) else (none)) else (Za.l0 k x2 x3 x8 Cd Bd Ad yd Yb)
end
def Za.f (k:Nat) (Ma:List Int) (Pa:Int) (Qa:Int) (Oa:Int) (za:List (Yd)) (a1:Int) (a2:Int) (l3:List Bool):Option (List Bool):=if 0 ≤ a1 then (if a1 < (l3.length:Int) then (Za.l0 k a2 (l3.set (a1:Int).toNat true) (([a1]:List Int)) Ma Pa Qa Oa za) else (none)) else (none)
def Za.T4:Bool × List (List Nat × List Nat):=(true,[([],[]),([0],[0]),([],[]),([2],[2]),([3],[3]),([1,4],[1,4]),([5],[5]),([6],[6]),([7,7,0,1,2,3,4,5,6,7],[7])])
def Za.B4:List Nat:=[0,1,0,4,12,31,63,127,255]
theorem Za.iZ:Ik .any (opsOf Try.f102 4)=Za.T4:=by kernel_rfl
theorem Za.aU:Yl Za.T4.2 Za.B4=true:=by kernel_rfl
theorem Za.calls (k:Nat) (Bb:Option Addr) (Ab:Nat) (Ma:List Int) (Pa:Int) (Qa:Int) (Oa:Int) (Qb:Option Addr) (Gb:Nat) (za:List (Yd)) (a1:Int) (a2:Int) (Uo:Nat→Prop) (Sd:Value) (l3:List Bool) (r:List Bool) (w0 w:World) (hB:Below w0.heap.size w0 w) (od:∀ W_,Kept w W_ (fun k_=>Uo k_)→Kd.C (Kd.int .i64) W_ Bb Ma.length Ma) (Nd:Ma.length ≤ Ab) (ze:∀ W_,Kept w W_ (fun k_=>Uo k_)→Kd.C Jl W_ Qb za.length za) (Ve:za.length ≤ Gb) (lF:Kd.R Kd.bool 4 w w0.heap.size Uo Sd l3) (h:Za.f k Ma Pa Qa Oa za a1 a2 l3=some r) :
  Calls Try.prog 102 #[.agg #[.slice Bb Ma.length Ab,.int .i64 Pa,.int .i64 Qa,.int .i64 Oa,.slice Qb za.length Gb],.int .i64 a1,.int .i64 a2,Sd] w fun e w'=>e = .returned (.tuple #[])∧Kd.R Kd.bool 4 w' w0.heap.size (fun k_=>(Uo k_ ∨ w.heap.size ≤ k_)) Sd r∧Below w0.heap.size w0 w'∧Kept w w' (fun k_=>Uo k_):=by
 have WG:=Try.underlying45;have mB:=Try.underlying83;have Qg:=aa.mk od;have Sg:=aa.mk Nd;clear od Nd;have Ei:=aa.mk ze;have Uk:=aa.mk Ve;clear ze Ve;have Rp:=aa.mk (show Kd.R Kd.bool 4 w w0.heap.size (fun k_=>(Uo k_ ∨ w.heap.size ≤ k_)) Sd l3 from Kd.Db lF (fun k_ hk=>(.inl hk)));have HK:=aa.mk (Kept.refl w (fun k_=>Uo k_));have D5:=aa.mk hB.size;have HB:=aa.mk hB;clear hB;have H:(if 0 ≤ a1 then (if a1 < (l3.length:Int) then (Za.l0 k a2 (l3.set (a1:Int).toNat true) (([a1]:List Int)) Ma Pa Qa Oa za) else (none)) else (none))=some r:=h;clear h;obtain ⟨Dd,Ue⟩:∃ y_:List Int,y_=(([a1]:List Int)):=⟨_,rfl⟩;replace H:(if 0 ≤ a1 then (if a1 < (l3.length:Int) then (Za.l0 k a2 (l3.set (a1:Int).toNat true) Dd Ma Pa Qa Oa za) else (none)) else (none))=some r:=by first|(rw [Ue];with_reducible exact H)|(have Mc:=(Option.bind_some _ _).symm.trans H;rw [Ue];with_reducible exact Mc)|(have Mc:=(Option.bind_some _ _).symm.trans H;with_reducible exact Mc)|with_reducible exact H|(rw [Ue];exact H)|exact H
 have ji:=aa.mk Ue;clear Ue
 by_cases c5:0 ≤ a1
 ·rw [if_pos c5] at H;have Yq:decide (0 ≤ a1)=true:=decide_eq_true c5;clear c5
  by_cases c6:a1 < (l3.length:Int)
  ·rw [if_pos c6] at H;have Xq:decide (a1 < (l3.length:Int))=true:=decide_eq_true c6;clear c6;obtain ⟨Yc,Ff⟩:∃ y_:List Bool,y_=(l3.set (a1:Int).toNat true):=⟨_,rfl⟩;replace H:(Za.l0 k a2 Yc Dd Ma Pa Qa Oa za)=some r:=by first|(rw [Ff];with_reducible exact H)|(have Mc:=(Option.bind_some _ _).symm.trans H;rw [Ff];with_reducible exact Mc)|(have Mc:=(Option.bind_some _ _).symm.trans H;with_reducible exact Mc)|with_reducible exact H|(rw [Ff];exact H)|exact H
   have zl:=aa.mk Ff;clear Ff;have H':=aa.mk H;clear H;go_enter Try.func102,Try.ntmps102;go_wp2_with (first|((with_reducible refine Lb (N:=4) rfl ?_);refine Jc ?hg (N:=4) ?hd (cs:=#[.slice Bb Ma.length Ab,.int .i64 Pa,.int .i64 Qa,.int .i64 Oa,.slice Qb za.length Gb]) (t:=45) ?hr ?_;(case hd|hg=>rfl);(case hr=>exact Vae);intro Ja hg w8 qd hb;have Kb:=aa.mk (Kd.Xb (by (with_reducible repeat (first|apply Kd.Ka|apply Kd.La|apply Kd.Sa));exact Rp.out) hb);have Ob:=aa.mk (Kept.below (S:=(fun k_=>Uo k_)) laf hb);have fc:=aa.mk (Fa Yae hb);have Sc:=aa.mk (qd);have uf:=aa.mk ((by rw [hg];exact (by first|exact HK.out.1|exact (show Kept w _ (fun k_=>Uo k_) from by repeat (first|(with_reducible first|exact HK.out|apply Kept.alloc|apply Kept.drewN|apply Kept.drew)|exact HK.out)).1):w.heap.size ≤ Ja));have qh:=aa.mk ((by rw [hg];exact (Ra Yae):w0.heap.size ≤ Ja));clear Rp HK HB;have Rp:=Kb;have HK:=Ob;have HB:=fc;have ta:=Sc;have Af:=uf;have mb:=qh;clear Kb Ob fc Sc uf qh hb qd hg)|((with_reducible refine Lb (N:=12) rfl ?_);refine Kd.jk (Kd.int .i64) _ 3 ?hg (N:=12) ?hd (xs:=([a1]:List Int)) (inner:=[.int .i64 a1]) (ok:=fun _=>True) (Ag:=fun _=>True) ?hr ?hp (fun _ hk=>hk) trivial (Below.refl _ _) (Nat.le_refl _) (by simp) ?_;(case hd|hg=>rfl);(case hr=>exact Vae);(case hp=>exact (Fc.one (show Kd.M (Kd.int .i64) _ _ _ a1 [.int .i64 a1] from rfl) (Fc.none _ _)));intro Ng w9 eH hb Hl Je;clear Hl Je;(first|rw [← ji.out] at eH|(simp only [Int.reduceToNat] at eH;rw [← ji.out] at eH));have Kb:=aa.mk (Kd.Xb (by (with_reducible repeat (first|apply Kd.Ka|apply Kd.La|apply Kd.Sa));exact Rp.out) hb);have Ob:=aa.mk (Kd.Xc (Kd.QI (M:=fun k_=>(Uo k_ ∨ w.heap.size ≤ k_)) eH Aaf (fun k_ h_=>.inr h_)) (Ra Xae));have fc:=aa.mk (Ua (g:=Ja) (o:=.cells #[.slice Bb Ma.length Ab,.int .i64 Pa,.int .i64 Qa,.int .i64 Oa,.slice Qb za.length Gb] 45 (0,0)) Zae hb);have Sc:=aa.mk (Kept.below (S:=(fun k_=>Uo k_)) vaf hb);have uf:=aa.mk (Fa Xae hb);clear Rp ta HK HB;have Rp:=Kb;have Pe:=Ob;have ta:=fc;have HK:=Sc;have HB:=uf;clear Kb Ob fc Sc uf hb eH;have p7:0 ≤ (a1:Int):=Ia;have q7:(a1:Int) < ((l3.length:Int):Int):=Ia;obtain ⟨wB,aQ,z_,v_,gl7,cl7,wV⟩:=Kd.Uh Rp.out (by omega);(first|cases z_|(injection z_ with qi Dt Et;(first|subst qi|(injection qi with qi;subst qi));subst Et;clear Dt));have GB7:=aa.mk v_;have GG7:=aa.mk wV;clear v_ gl7 wV;have qaa:=aa.mk (show (Uo wB ∨ w.heap.size ≤ wB) from (Rp.out.1 _ rfl));obtain ⟨NG,zS⟩:=Kd.Yf false Rp.out (a1:Int) p7 q7;replace p7:=eq_true p7;replace q7:=eq_true q7;obtain ⟨k7,j7⟩:=Kd.Yf false Rp.out (a1:Int) (Ia) (Ia);have iC:=Kd.kj Rp.out (a1:Int) true)|((with_reducible refine Od (t:=4) (p:=15) rfl ?_);refine Uc (t:=4) (p:=15) (v:=?cZ) (w1:=(w9.setCell ⟨wB,(a1:Int).toNat,none⟩ (.bool true))) ?hg ?ho ?hn ?hr ?_;(case ho=>rfl);(case hg=>rfl);(case hn=>rfl);(case hr=>exact Vae);intro vu hw;have hg:w9.grownBy vu (some wB):=(by rw [hw];exact iC.2);have Si:Kd.R Kd.bool 4 vu w0.heap.size (fun k_=>(Uo k_ ∨ w.heap.size ≤ k_)) (.slice (some ⟨wB,0,none⟩) l3.length aQ) Yc:=(by rw [hw,zl.out];exact iC.1);clear iC;have Kb:=aa.mk (Si);have Ob:=aa.mk (yf (g:=Ja) (o:=.cells #[.slice Bb Ma.length Ab,.int .i64 Pa,.int .i64 Qa,.int .i64 Oa,.slice Qb za.length Gb] 45 (0,0)) Zae hg (Kd.Pp Rp.out ta.out (by decide)));have fc:=aa.mk (Kd.wj (v:=(.slice (some ⟨wB,0,none⟩) l3.length aQ)) raf (Kd.tj Rp.out) (by decide) hg);have Sc:=aa.mk ((by rw [hw];exact ya (HB.out) GB7.out:Below w0.heap.size w0 vu));have uf:=aa.mk (Kept.Te (S:=(fun k_=>Uo k_)) hg vaf (fun k_ e_=>(Rp.out.1 k_ e_)));clear Rp ta Pe HB HK;have Rp:=Kb;have ta:=Ob;have Pe:=fc;have HB:=Sc;have HK:=uf;clear Kb Ob fc Sc uf hg hw Si))
   go_loopg [8] k (fun kq v8 w'=>∃ (jc:List Bool) (jd:List Int),aa (Za.l0 kq a2 jc jd Ma Pa Qa Oa za=some r)∧aa (kq ≤ k)∧aa (Kd.R Kd.bool 4 w' w0.heap.size (fun k_=>(Uo k_ ∨ w.heap.size ≤ k_)) (.slice (some ⟨wB,0,none⟩) l3.length aQ) jc)∧aa (Kd.Q (Kd.int .i64) 3 w' w0.heap.size (fun k_=>(Uo k_ ∨ w.heap.size ≤ k_)) v8 jd)∧aa (w'.heap[Ja]? = some (.cells #[(.slice Bb Ma.length Ab),.int .i64 Pa,.int .i64 Qa,.int .i64 Oa,(.slice Qb za.length Gb)] 45 (0,0)))∧aa (Kept w w' (fun k_=>Uo k_))∧aa (Below w0.heap.size w0 w'))
   case atStart=>exact ⟨(Yc),(Dd),H',⟨Nat.le_refl _⟩,⟨by (with_reducible repeat (first|apply Kd.Ka|apply Kd.La|apply Kd.Sa));exact Rp.out⟩,⟨Kd.YB (by (with_reducible repeat (first|apply Kd.Ka|apply Kd.La|apply Kd.Sa));exact Kd.Db Pe.out (fun _ hk=>hk.1))⟩,⟨faf⟩,⟨paf⟩,⟨aaf⟩⟩
   case round =>
    clear H'
    try clear c1
    try clear p2
    try clear c5
    try clear Yq
    try clear c6
    try clear Xq
    try clear p7
    try clear q7
    try clear hx7
    try clear hf7
    try clear pY
    try clear NG
    try clear p7
    try clear q7
    (try clear HA);(try clear Gf);(try clear Ub);(try clear Xi);(try clear ta);(try clear HK);(try clear HB);obtain ⟨jc,jd,HA,Gf,Ub,Xi,ta,HK,HB⟩:=hrel;have dh:=(Kd.Wa Ub.out).1;rw [dh] at Ub;(try simp only [dh]);(try simp only [dh] at ta);(try simp only [dh] at Xi);cases gk with
    | zero=>exact absurd HA.out (by simp [Za.l0])
    | succ k1 =>
     have H:=HA.out;clear HA;simp only [Za.l0] at H
     by_cases PB:(jd.length:Int) > 0
     ·rw [if_pos PB] at H;have yw:decide (0 < (jd.length:Int))=true:=decide_eq_true PB;have KM:decide (0 < jd.length)=true:=decide_eq_true (by omega);clear PB
      by_cases ny:0 < (jd.length:Int)
      ·rw [if_pos ny] at H;have xw:decide (0 < (jd.length:Int))=true:=decide_eq_true ny;have RT:decide (0 < jd.length)=true:=decide_eq_true (by omega);clear ny
       by_cases IJ:0 ≤ (rd jd 0)
       ·rw [if_pos IJ] at H;have JM:decide (0 ≤ (rd jd 0))=true:=decide_eq_true IJ;clear IJ
        by_cases xI:(rd jd 0) < (za.length:Int)
        ·rw [if_pos xI] at H;have IM:decide ((rd jd 0) < (za.length:Int))=true:=decide_eq_true xI;clear xI;replace H:=Option.bind_eq_some_iff.mp H;obtain ⟨t108,YV,H⟩:=H
         try dsimp only at H
         have A17:=aa.mk YV;clear YV
         by_cases vw:1 ≤ (jd.length:Int)
         ·rw [if_pos vw] at H;have uw:=eq_true vw;have Yz:decide (1 ≤ (jd.length:Int))=true:=decide_eq_true vw;clear vw;obtain ⟨GA,cz⟩:∃ y_:List Int,y_=(jd.drop (1:Int).toNat):=⟨_,rfl⟩;replace H:(Za.l1 k1 a2 jc GA t108 0 Ma Pa Qa Oa za)=some r:=by first|(rw [cz];with_reducible exact H)|(have Mc:=(Option.bind_some _ _).symm.trans H;rw [cz];with_reducible exact Mc)|(have Mc:=(Option.bind_some _ _).symm.trans H;with_reducible exact Mc)|with_reducible exact H|(rw [cz];exact H)|exact H
          have RM:=aa.mk cz;clear cz;have H':=aa.mk H;clear H;obtain ⟨C6,lI,SP,_⟩:=Kd.br Xi.out;subst SP
          try go_wp2
          have Kb:=aa.mk (Kd.Sa Ub.out);have Ob:=aa.mk (Kd.Lg Xi.out);have fc:=aa.mk (Ea ta.out);have Sc:=aa.mk (Kept.drew HK.out);have uf:=aa.mk (ja HB.out);clear Ub Xi ta HK HB;have Ub:=Kb;have Xi:=Ob;have ta:=fc;have HK:=Sc;have HB:=uf;clear Kb Ob fc Sc uf;have lK:0 ≤ (0:Int):=(by omega);have fK:0 < (jd.length:Int):=Ia;obtain ⟨Dw,P4,gq⟩:=Kd.Ud (Kd.uv Xi.out).2.2 0 lK fK;cases P4;have S6:(0 < jd.length)=True:=eq_true (by omega);(try rw [show ((0:Int)).toNat=0 from rfl] at gq);(try rw [Addr.add_zero'] at gq);replace lK:=eq_true lK;replace fK:=eq_true fK;have kK:0 ≤ ((rd jd 0):Int):=Ia;have dK:(rd jd 0) < (za.length:Int):=Ia;obtain ⟨yl,vJ,BI,O4,Mt,Lt,Kt,Jt,Ht,RC,WC⟩:=Nk (Kd.lC Ei.out HK.out) (rd jd 0) kK dK;have jW:=Ht;have kW:=Jt;have lW:=Kt;have mW:=Lt;have nW:=Mt;cases O4;have Rm:=aa.mk WC;have EL:=aa.mk RC;clear WC RC;replace kK:=eq_true kK;replace dK:=eq_true dK;refine Pj (n:=9) (S:=fun w'=>w'.cell? ⟨Ja,0,none⟩=some (.slice Bb Ma.length Ab)∧w'.cell? ⟨Ja,1,none⟩=some (.int .i64 Pa)∧w'.cell? ⟨Ja,2,none⟩=some (.int .i64 Qa)∧w'.cell? ⟨Ja,3,none⟩=some (.int .i64 Oa)∧w'.cell? ⟨Ja,4,none⟩=some (.slice (some yl) za.length Gb)∧w'.cell? Dw=some (.int .i64 (rd jd 0))∧w'.cell? (yl.add (((rd jd 0)).toNat * 5))=some (.slice vJ ((Ga za (rd jd 0)).f0).length BI)∧w'.cell? ⟨(yl.add (((rd jd 0)).toNat * 5)).block,(yl.add (((rd jd 0)).toNat * 5)).off + 1,none⟩=some (.int .i64 ((Ga za (rd jd 0)).f1))∧w'.cell? ⟨(yl.add (((rd jd 0)).toNat * 5)).block,(yl.add (((rd jd 0)).toNat * 5)).off + 2,none⟩=some (.int .i64 ((Ga za (rd jd 0)).f2))∧w'.cell? ⟨(yl.add (((rd jd 0)).toNat * 5)).block,(yl.add (((rd jd 0)).toNat * 5)).off + 3,none⟩=some (.int .i64 ((Ga za (rd jd 0)).f3))∧w'.cell? ⟨(yl.add (((rd jd 0)).toNat * 5)).block,(yl.add (((rd jd 0)).toNat * 5)).off + 4,none⟩=some (.int .i64 ((Ga za (rd jd 0)).f4))) (ds:=[]) #[false,false,false,false,false,false,false,false,false] (by kernel_rfl) rfl rfl ⟨(qa ta.out 0).trans rfl,(qa ta.out 1).trans rfl,(qa ta.out 2).trans rfl,(qa ta.out 3).trans rfl,(qa ta.out 4).trans rfl,gq,Mt,Lt,Kt,Jt,Ht⟩ (fun hHeld=>?_);refine ir Za.iZ Za.aU (fun Qm KJ=>?_);generalize wr.drew=M6 at Ub Xi ta HK HB Rm gq Mt Lt Kt Jt Ht hHeld ⊢;refine Dc (i:=0) (N:=some 19) (v:=?_) (a':=?_) #[true,false,false,false,false,false,false,false,false] rfl rfl (sg Qm.out (by kernel_rfl)) (fun _ _ _ h=>h) (Or.inl ⟨by rfl,?_⟩) ?_ ?_;rotate_left
          ·exact Rae
          rotate_left
          ·exact Qae
          refine Dc (i:=2) (N:=some 21) (v:=?_) (a':=?_) #[true,false,true,false,false,false,false,false,false] rfl rfl (sg Qm.out (by kernel_rfl)) (fun _ _ _ h=>h) (Or.inl ⟨by rfl,?_⟩) ?_ ?_;rotate_left
          ·exact Rae
          rotate_left
          ·exact Qae
          refine Dc (i:=3) (N:=some 22) (v:=?_) (a':=?_) #[true,false,true,true,false,false,false,false,false] rfl rfl (sg Qm.out (by kernel_rfl)) (fun _ _ _ h=>h) (Or.inl ⟨by rfl,?_⟩) ?_ ?_;rotate_left
          ·exact Rae
          rotate_left
          ·exact Qae
          refine ah (i:=1) (N:=some 20) (v:=?_) (a':=?_) #[true,true,true,true,false,false,false,false,false] rfl rfl (Aj Qm.out KJ.out (by kernel_rfl)) (fun _ _ _ h=>h) (Or.inl ⟨by rfl,?_⟩) hHeld ?_ ?_;rotate_left
          ·exact Tae
          rotate_left
          ·exact Qae
          refine ah (i:=4) (N:=some 23) (v:=?_) (a':=?_) #[true,true,true,true,true,false,false,false,false] rfl rfl (Aj Qm.out KJ.out (by kernel_rfl)) (fun _ _ _ h=>h) (Or.inl ⟨by rfl,?_⟩) hHeld ?_ ?_;rotate_left
          ·exact Tae
          rotate_left
          ·exact Qae
          refine Dc (i:=5) (N:=some 24) (v:=?_) (a':=?_) #[true,true,true,true,true,true,false,false,false] rfl rfl (sg Qm.out (by kernel_rfl)) (fun _ _ _ h=>h) (Or.inl ⟨by rfl,?_⟩) ?_ ?_;rotate_left
          ·exact Rae
          rotate_left
          ·exact Qae
          refine ah (i:=6) (N:=some 25) (v:=?_) (a':=?_) #[true,true,true,true,true,true,true,false,false] rfl rfl (Aj Qm.out KJ.out (by kernel_rfl)) (fun _ _ _ h=>h) (Or.inl ⟨by rfl,?_⟩) hHeld ?_ ?_;rotate_left
          ·exact Tae
          rotate_left
          ·exact Qae
          refine dn (i:=7) (N:=some 26) #[true,true,true,true,true,true,true,true,false] rfl rfl (Lw Qm.out (by kernel_rfl)) (by decide) (fun K hK=>?_);refine Oq Try.func85 (by kernel_rfl) rfl #[.agg #[.slice vJ ((Ga za (rd jd 0)).f0).length BI,.int .i64 ((Ga za (rd jd 0)).f1),.int .i64 ((Ga za (rd jd 0)).f2),.int .i64 ((Ga za (rd jd 0)).f3),.int .i64 ((Ga za (rd jd 0)).f4)]] (by rfl) rfl rfl baf ?_;with_reducible refine (Ye.calls _ _ ((Ga za (rd jd 0)).f0) ((Ga za (rd jd 0)).f1) ((Ga za (rd jd 0)).f2) ((Ga za (rd jd 0)).f3) ((Ga za (rd jd 0)).f4) t108 _ ?Gd ?Ed A17.out).mono ?_
          (case Gd=>repeat (first|exact (by repeat (first|(with_reducible exact Rm.out)|(with_reducible refine Kd.ee ?_ _)|(with_reducible refine Kd.Zd ?_ _)|(with_reducible refine Kd.We ?_)|exact Rm.out))|(with_reducible refine Kd.ee ?_ _)|(with_reducible refine Kd.Zd ?_ _)|(with_reducible refine Kd.We ?_)))
          (case Ed=>exact EL.out)
          rintro e Cv ⟨v109,rfl,uh,hb⟩;have DQ:=(hb.cell (World.block_lt_of_cell? _ _ (hHeld.2.2.2.2.2.1))).trans (hHeld.2.2.2.2.2.1);have J5:=(hb.cell (World.block_lt_of_cell? _ _ (hHeld.2.2.2.2.2.2.1))).trans (hHeld.2.2.2.2.2.2.1);have I5:=(hb.cell (World.block_lt_of_cell? _ _ (hHeld.2.2.2.2.2.2.2.1))).trans (hHeld.2.2.2.2.2.2.2.1);have G5:=(hb.cell (World.block_lt_of_cell? _ _ (hHeld.2.2.2.2.2.2.2.2.1))).trans (hHeld.2.2.2.2.2.2.2.2.1);have F5:=(hb.cell (World.block_lt_of_cell? _ _ (hHeld.2.2.2.2.2.2.2.2.2.1))).trans (hHeld.2.2.2.2.2.2.2.2.2.1);have XU:=(hb.cell (World.block_lt_of_cell? _ _ (hHeld.2.2.2.2.2.2.2.2.2.2))).trans (hHeld.2.2.2.2.2.2.2.2.2.2);refine ⟨_,rfl,?_⟩;have Kb:=aa.mk (Kd.Xb iaf hb);have Ob:=aa.mk (Kd.iA Gaf (Kd.ug uh) hb);have fc:=aa.mk (Kd.Xc (Kd.Wi (Kd.QI (M:=fun k_=>(Uo k_ ∨ w.heap.size ≤ k_)) uh Aaf (fun k_ h_=>.inr h_)) (Kd.tU Gaf)) (Ra Xae));have Sc:=aa.mk (Ua (g:=Ja) (o:=.cells #[.slice Bb Ma.length Ab,.int .i64 Pa,.int .i64 Qa,.int .i64 Oa,.slice (some yl) za.length Gb] 45 (0,0)) Zae hb);have uf:=aa.mk (Kd.yb (by repeat (first|(with_reducible exact Rm.out)|(with_reducible refine Kd.ee ?_ _)|(with_reducible refine Kd.Zd ?_ _)|(with_reducible refine Kd.We ?_)|exact Rm.out)) hb);have qh:=aa.mk (Kept.below (S:=(fun k_=>Uo k_)) vaf hb);have Rs:=aa.mk (Fa Xae hb);clear Ub Xi ta Rm HK HB;have Ub:=Kb;have Xi:=Ob;have jt:=fc;have ta:=Sc;have Rm:=uf;have HK:=qh;have HB:=Rs;clear Kb Ob fc Sc uf qh Rs;(try clear hb);(try clear Vk);(try clear hk);(try clear hi);(try clear uh);refine hK.out _ _ ⟨(qa ta.out 0).trans rfl,(qa ta.out 1).trans rfl,(qa ta.out 2).trans rfl,(qa ta.out 3).trans rfl,(qa ta.out 4).trans rfl,DQ,J5,I5,G5,F5,XU⟩ (fun hHeld=>?_);clear hK K;refine Ze (a':=?_) ?_ ?_;rotate_left
          ·show Act.put _ (some 26) _=_
           exact Qae
          refine Dc (i:=8) (N:=some 9) (v:=?_) (a':=?_) #[true,true,true,true,true,true,true,true,true] rfl rfl (sg Qm.out (by kernel_rfl)) (fun _ _ _ h=>h) (Or.inl ⟨by rfl,?_⟩) ?_ ?_;rotate_left
          ·exact Rae
          rotate_left
          ·exact Qae
          refine Ym (Fx Qm.out (by kernel_rfl)) ?_;have ZJ:(1:Int) ≤ ((jd.length:Int):Int):=Ia;obtain ⟨AZ,jz,_,NC,_⟩:=info_parts info3;have tB:=Xu (P:=Try.prog) 22 3 .i64 Try.underlying22 jz 1 NC (some Dw) jd.length lI 1 (by omega) ZJ;have Pv:=Kd.RI (k:=(1:Int).toNat) Xi.out (by omega);obtain ⟨EN,MK⟩:∃ A1,A1=(if lI=(1:Int).toNat then (some Dw) else ((some Dw):Option Addr).map (·.add ((1:Int).toNat * 1))):=⟨_,rfl⟩;obtain ⟨AF,DP⟩:∃ c1,c1=lI - (1:Int).toNat:=⟨_,rfl⟩;have kF:GA.length=jd.length - (1:Int).toNat:=(by rw [RM.out,List.length_drop]);rw [← RM.out] at Pv;rw [← kF,← MK,← DP] at tB;replace Pv:Kd.Q (Kd.int .i64) 3 Cv w0.heap.size (fun k_=>(Uo k_ ∨ w.heap.size ≤ k_)∧some k_ ≠ (v109:Value).ownBlock) (.slice EN GA.length AF) GA:=(by rw [MK,DP,kF];exact Pv);have T5:aa ((Value.slice EN GA.length AF).ownBlock=(.slice (some Dw) jd.length lI:Value).ownBlock):=⟨by rw [MK];split <;> (cases ((some Dw):Option Addr) <;> rfl)⟩;clear kF jz NC Xi MK DP;have nV:=aa.mk Pv;clear Pv;replace ZJ:=eq_true ZJ;have n_:=aa.mk (Kd.Db (Wk:=fun k_=>((((Uo k_ ∨ w.heap.size ≤ k_))∧True)∧some k_ ≠ (.slice EN GA.length AF:Value).ownBlock)) jt.out (fun k_ hk=>⟨⟨hk.1.1,trivial⟩,(by rw [T5.out];exact hk.2)⟩));clear jt;have jt:=n_;clear n_
          try go_wp2
          go_loopg [8,10] k1 (fun kq v8 v10 w'=>∃ (zi:List Bool) (Wd:List Int) (Zc:Int),v10 = .int .i64 Zc∧aa (Za.l1 kq a2 zi Wd t108 Zc Ma Pa Qa Oa za=some r)∧aa (kq ≤ k1)∧aa (Kd.R Kd.bool 4 w' w0.heap.size (fun k_=>(Uo k_ ∨ w.heap.size ≤ k_)) (.slice (some ⟨wB,0,none⟩) jc.length aQ) zi)∧aa (Kd.Q (Kd.int .i64) 3 w' w0.heap.size (fun k_=>(Uo k_ ∨ w.heap.size ≤ k_)∧some k_ ≠ (v109:Value).ownBlock) v8 Wd)∧aa (Kd.R (Kd.int .i64) 3 w' w0.heap.size (fun k_=>(Uo k_ ∨ w.heap.size ≤ k_)∧some k_ ≠ (v8:Value).ownBlock) v109 t108)∧aa (w'.heap[Ja]? = some (.cells #[(.slice Bb Ma.length Ab),.int .i64 Pa,.int .i64 Qa,.int .i64 Oa,(.slice (some yl) za.length Gb)] 45 (0,0)))∧aa (Kept w w' (fun k_=>Uo k_))∧aa (Below w0.heap.size w0 w'))
          case atStart=>exact ⟨(jc),(GA),(0),daf,H',⟨Nat.le_refl _⟩,⟨by (try simp only [dh]);(with_reducible repeat (first|apply Kd.Ka|apply Kd.La|apply Kd.Sa));exact Ub.out⟩,⟨by (try simp only [dh]);(with_reducible repeat (first|apply Kd.mg|apply Kd.lg|apply Kd.Lg));exact nV.out⟩,⟨by (try simp only [dh]);(with_reducible repeat (first|apply Kd.Ka|apply Kd.La|apply Kd.Sa));exact Kd.Db jt.out (fun _ hk=>⟨hk.1.1,hk.2⟩)⟩,⟨by (try simp only [dh]);(with_reducible repeat (first|refine Da ?_ _|refine Ea ?_|refine Ca ?_ _));exact ta.out⟩,⟨paf⟩,⟨aaf⟩⟩
          case round =>
           clear H'
           try clear c1
           try clear p1
           try clear q1
           try clear hx1
           try clear T6
           try clear c2
           try clear p2
           try clear q2
           try clear c5
           try clear Yq
           try clear c6
           try clear Xq
           try clear p7
           try clear q7
           try clear hx7
           try clear hf7
           try clear c8
           try clear pY
           try clear Qy
           try clear Oy
           try clear zO
           try clear iab
           try clear PB
           try clear yw
           try clear KM
           try clear ny
           try clear xw
           try clear RT
           try clear IJ
           try clear JM
           try clear xI
           try clear IM
           try clear vw
           try clear uw
           try clear Yz
           try clear AF
           try clear ZJ
           try clear gq
           try clear Mt
           try clear Lt
           try clear Kt
           try clear Jt
           try clear Ht
           try clear NG
           try clear lK
           try clear kK
           try clear p2
           try clear p7
           try clear fK
           try clear dK
           try clear ZJ
           try clear q7
           (try clear HA);(try clear zk);(try clear Ub);(try clear Xi);(try clear Zf);(try clear ta);(try clear HK);(try clear HB);obtain ⟨zi,Wd,Zc,rfl,HA,zk,Ub,Xi,Zf,ta,HK,HB⟩:=hrel;have xh:=(Kd.Wa Ub.out).1;rw [xh] at Ub;(try simp only [xh]);(try simp only [xh] at ta);(try simp only [xh] at Xi);(try simp only [xh] at Zf);cases gk with
           | zero=>exact absurd HA.out (by simp [Za.l1])
           | succ k2 =>
            have H:=HA.out;clear HA;simp only [Za.l1] at H
            by_cases js:Zc < (t108.length:Int)
            ·rw [if_pos js] at H;have av:decide (Zc < (t108.length:Int))=true:=decide_eq_true js;clear js
             by_cases VF:0 ≤ Zc
             ·rw [if_pos VF] at H;have sI:decide (0 ≤ Zc)=true:=decide_eq_true VF;clear VF
              by_cases UF:(rd t108 Zc)=a2
              ·rw [if_pos UF] at H;have QT:=beq_iff_eq.mpr UF;have PT:=bne_eq_false_iff_eq.mpr UF;clear UF;have H':=aa.mk H;clear H;obtain ⟨Gad,mac,o4⟩:=Kd.ic Zf.out;subst o4;have Bn:0 ≤ (Zc:Int):=Ia;have vn:Zc < (t108.length:Int):=Ia;obtain ⟨Th,JB,sk⟩:=Kd.Ud (Kd.Wa Zf.out).2.2 Zc Bn vn;cases JB;replace Bn:=eq_true Bn;replace vn:=eq_true vn;go_wp2;(try simp only [← xh])
               go_roundg k2
               case measure=>have:=Gf.out;have:=zk.out;omega
               case rel=>exact ⟨(zi),(Wd),(wrap64 (Zc + 1)),daf,H',⟨by have:=Gf.out;have:=zk.out;omega⟩,⟨by (try simp only [dh]);(try simp only [xh]);(with_reducible repeat (first|apply Kd.Ka|apply Kd.La|apply Kd.Sa));exact Ub.out⟩,⟨by (try simp only [dh]);(try simp only [xh]);(with_reducible repeat (first|apply Kd.mg|apply Kd.lg|apply Kd.Lg));exact Xi.out⟩,⟨by (try simp only [dh]);(try simp only [xh]);(with_reducible repeat (first|apply Kd.Ka|apply Kd.La|apply Kd.Sa));exact Zf.out⟩,⟨by (try simp only [dh]);(try simp only [xh]);(with_reducible repeat (first|refine Da ?_ _|refine Ea ?_|refine Ca ?_ _));exact ta.out⟩,⟨paf⟩,⟨aaf⟩⟩
              ·rw [if_neg UF] at H;have QT:=beq_eq_false_iff_ne.mpr UF;have PT:=bne_iff_ne.mpr UF
               by_cases SF:0 ≤ (rd t108 Zc)
               ·rw [if_pos SF] at H;have I_:decide (0 ≤ (rd t108 Zc))=true:=decide_eq_true SF;clear SF
                by_cases Fv:(rd t108 Zc) < (zi.length:Int)
                ·rw [if_pos Fv] at H;have Zn:decide ((rd t108 Zc) < (zi.length:Int))=true:=decide_eq_true Fv;clear Fv;obtain ⟨XT,OH⟩:∃ b_:Bool,b_=(Tf false zi (rd t108 Zc)):=⟨_,rfl⟩;replace H:(if (XT=true) then (Za.l1 k2 a2 zi Wd t108 (wrap64 (Zc + 1)) Ma Pa Qa Oa za) else (if Wd.length < 17592186044416 then (Za.l1 k2 a2 (zi.set ((rd t108 Zc):Int).toNat true) (Wd ++ [rd t108 Zc]) t108 (wrap64 (Zc + 1)) Ma Pa Qa Oa za) else (none)))=some r:=by rw [← OH] at H;exact H
                 have SM:=aa.mk OH;clear OH
                 by_cases EJ:(XT=true)
                 ·subst EJ;rw [if_pos rfl] at H;have H':=aa.mk H;clear H;obtain ⟨MF,vF,RP⟩:=Kd.ic Zf.out;subst RP;have Bn:0 ≤ (Zc:Int):=Ia;have vn:Zc < (t108.length:Int):=Ia;obtain ⟨Th,JB,sk⟩:=Kd.Ud (Kd.Wa Zf.out).2.2 Zc Bn vn;cases JB;replace Bn:=eq_true Bn;replace vn:=eq_true vn;have Fp:0 ≤ (Zc:Int):=Ia;have Cp:Zc < (t108.length:Int):=Ia;obtain ⟨dA,IB,zo⟩:=Kd.Ud (Kd.Wa Zf.out).2.2 Zc Fp Cp;obtain rfl:Th=dA:=(by injection IB);replace Fp:=eq_true Fp;replace Cp:=eq_true Cp;have bB:0 ≤ ((rd t108 Zc):Int):=Ia;have WA:(rd t108 Zc) < (zi.length:Int):=Ia;obtain ⟨FI,XP,qk⟩:=Kd.Ui (Kd.Wa Ub.out).2.2 (rd t108 Zc) bB WA;(try rw [← SM.out] at qk);obtain rfl:(⟨wB,0,none⟩:Addr)=FI:=(by injection XP);(first|simp only [add_plain] at qk|simp only [Lm] at qk|simp only [Addr.add,Nat.zero_add] at qk|skip);replace bB:=eq_true bB;replace WA:=eq_true WA;go_wp2;(try simp only [← xh])
                  go_roundg k2
                  case measure=>have:=Gf.out;have:=zk.out;omega
                  case rel=>exact ⟨(zi),(Wd),(wrap64 (Zc + 1)),daf,H',⟨by have:=Gf.out;have:=zk.out;omega⟩,⟨by (try simp only [dh]);(try simp only [xh]);(with_reducible repeat (first|apply Kd.Ka|apply Kd.La|apply Kd.Sa));exact Ub.out⟩,⟨by (try simp only [dh]);(try simp only [xh]);(with_reducible repeat (first|apply Kd.mg|apply Kd.lg|apply Kd.Lg));exact Xi.out⟩,⟨by (try simp only [dh]);(try simp only [xh]);(with_reducible repeat (first|apply Kd.Ka|apply Kd.La|apply Kd.Sa));exact Zf.out⟩,⟨by (try simp only [dh]);(try simp only [xh]);(with_reducible repeat (first|refine Da ?_ _|refine Ea ?_|refine Ca ?_ _));exact ta.out⟩,⟨paf⟩,⟨aaf⟩⟩
                 ·replace EJ:=Bool.eq_false_iff.mpr EJ;subst EJ;rw [if_neg (show ¬ (false=true) by decide)] at H;obtain ⟨Tp,Pn⟩:∃ y_:List Bool,y_=(zi.set ((rd t108 Zc):Int).toNat true):=⟨_,rfl⟩;replace H:(if Wd.length < 17592186044416 then (Za.l1 k2 a2 Tp (Wd ++ [rd t108 Zc]) t108 (wrap64 (Zc + 1)) Ma Pa Qa Oa za) else (none))=some r:=by first|(rw [Pn];with_reducible exact H)|(have Mc:=(Option.bind_some _ _).symm.trans H;rw [Pn];with_reducible exact Mc)|(have Mc:=(Option.bind_some _ _).symm.trans H;with_reducible exact Mc)|with_reducible exact H|(rw [Pn];exact H)|exact H
                  have cE:=aa.mk Pn;clear Pn
                  by_cases qI:Wd.length < 17592186044416
                  ·rw [if_pos qI] at H;have FU:=aa.mk qI;clear qI;obtain ⟨JR,Zy⟩:∃ y_:List Int,y_=(Wd ++ [rd t108 Zc]):=⟨_,rfl⟩;replace H:(Za.l1 k2 a2 Tp JR t108 (wrap64 (Zc + 1)) Ma Pa Qa Oa za)=some r:=by first|(rw [Zy];with_reducible exact H)|(have Mc:=(Option.bind_some _ _).symm.trans H;rw [Zy];with_reducible exact Mc)|(have Mc:=(Option.bind_some _ _).symm.trans H;with_reducible exact Mc)|with_reducible exact H|(rw [Zy];exact H)|exact H
                   have xU:=aa.mk Zy;clear Zy;have H':=aa.mk H;clear H;obtain ⟨Cad,U4,X3⟩:=Kd.ic Zf.out;subst X3;have Bn:0 ≤ (Zc:Int):=Ia;have vn:Zc < (t108.length:Int):=Ia;obtain ⟨Th,JB,sk⟩:=Kd.Ud (Kd.Wa Zf.out).2.2 Zc Bn vn;cases JB;replace Bn:=eq_true Bn;replace vn:=eq_true vn;have Fp:0 ≤ (Zc:Int):=Ia;have Cp:Zc < (t108.length:Int):=Ia;obtain ⟨dA,IB,zo⟩:=Kd.Ud (Kd.Wa Zf.out).2.2 Zc Fp Cp;obtain rfl:Th=dA:=(by injection IB);replace Fp:=eq_true Fp;replace Cp:=eq_true Cp;have bB:0 ≤ ((rd t108 Zc):Int):=Ia;have WA:(rd t108 Zc) < (zi.length:Int):=Ia;obtain ⟨FI,XP,qk⟩:=Kd.Ui (Kd.Wa Ub.out).2.2 (rd t108 Zc) bB WA;(try rw [← SM.out] at qk);obtain rfl:(⟨wB,0,none⟩:Addr)=FI:=(by injection XP);(first|simp only [add_plain] at qk|simp only [Lm] at qk|simp only [Addr.add,Nat.zero_add] at qk|skip);replace bB:=eq_true bB;replace WA:=eq_true WA;have bO:0 ≤ (Zc:Int):=Ia;have YN:Zc < (t108.length:Int):=Ia;obtain ⟨gU,L4,iW⟩:=Kd.Ud (Kd.Wa Zf.out).2.2 Zc bO YN;obtain rfl:Th=gU:=(by injection L4);replace bO:=eq_true bO;replace YN:=eq_true YN;have wZ:0 ≤ ((rd t108 Zc):Int):=Ia;have qZ:((rd t108 Zc):Int) < ((zi.length:Int):Int):=Ia;obtain ⟨FZ,I1⟩:=Kd.Yf false Ub.out ((rd t108 Zc):Int) wZ qZ;replace wZ:=eq_true wZ;replace qZ:=eq_true qZ;have NQ:=Kd.kj Ub.out ((rd t108 Zc):Int) true;go_wp2_with (first|((with_reducible refine Od (t:=4) (p:=56) rfl ?_);refine Uc (t:=4) (p:=56) (v:=?SY) (w1:=(wr.setCell ⟨wB,((rd t108 Zc):Int).toNat,none⟩ (.bool true))) ?hg ?ho ?hn ?hr ?_;(case ho=>rfl);(case hg=>rfl);(case hn=>rfl);(case hr=>exact Vae);intro LY hw;have hg:wr.grownBy LY (some wB):=(by rw [hw];exact NQ.2);have Si:Kd.R Kd.bool 4 LY w0.heap.size (fun k_=>(Uo k_ ∨ w.heap.size ≤ k_)) (.slice (some ⟨wB,0,none⟩) zi.length aQ) Tp:=(by rw [hw,cE.out];exact NQ.1);clear NQ;have Kb:=aa.mk (Si);have Ob:=aa.mk (Kd.kL (v:=(.slice (some ⟨wB,0,none⟩) zi.length aQ)) Gaf (Kd.tj Ub.out) (by decide) hg);have fc:=aa.mk (Kd.wj (v:=(.slice (some ⟨wB,0,none⟩) zi.length aQ)) uaf (Kd.tj Ub.out) (by decide) hg);have Sc:=aa.mk (yf (g:=Ja) (o:=.cells #[.slice Bb Ma.length Ab,.int .i64 Pa,.int .i64 Qa,.int .i64 Oa,.slice (some yl) za.length Gb] 45 (0,0)) Zae hg (Kd.Pp Ub.out ta.out (by decide)));have uf:=aa.mk ((by rw [hw];exact ya (HB.out) GB7.out:Below w0.heap.size w0 LY));have qh:=aa.mk (Kept.Te (S:=(fun k_=>Uo k_)) hg vaf (fun k_ e_=>(Ub.out.1 k_ e_)));clear Ub Xi Zf ta HB HK;have Ub:=Kb;have Xi:=Ob;have Zf:=fc;have ta:=Sc;have HB:=uf;have HK:=qh;clear Kb Ob fc Sc uf qh hg hw Si;have ZN:0 ≤ (Zc:Int):=Ia;have XN:Zc < (t108.length:Int):=Ia;obtain ⟨fU,K4,gW⟩:=Kd.Ud (Kd.Wa Zf.out).2.2 Zc ZN XN;obtain rfl:Th=fU:=(by injection K4);replace ZN:=eq_true ZN;replace XN:=eq_true XN)|((with_reducible refine Xg (b:=.append) (xs:=#[.tmp 57,.tmp 62]) rfl ?_);at_builtin;refine Kd.jA (Kd.int .i64) (w0:=w0) w0.heap.size rfl (.tmp 57) (.tmp 62) 22 3 (.int .i64 0) 8 rfl Try.underlying22 info3 rfl (by decide) (by omega) u8 Wd (rd t108 Zc) [.int .i64 (rd t108 Zc)] (fun k_=>(Uo k_ ∨ w.heap.size ≤ k_)∧some k_ ≠ (.slice (some Th) t108.length U4:Value).ownBlock) (fun _=>False) rfl rfl ?aP (fun _ hk=>hk.elim) ?aF ?aO ?aB ?aS ?aL ?_;(case aP=>exact rfl);(case aB=>exact Xae);(case aF=>exact (fun k_ hk=>⟨(.inr (Nat.le_trans Aaf hk)),Kd.fresh' (Kd.ek uaf) k_ hk⟩));(case aO=>exact Gaf);(case aS=>exact (Ra Xae));(case aL=>have:=FU.out;omega);intro dab NR ho hb hg hat;rw [← xU.out] at ho;have Kb:=aa.mk (Kd.wj iaf (Kd.jL Gaf) (by decide) hg);have Ob:=aa.mk (Kd.kg (ok:=(fun k_=>(Uo k_ ∨ w.heap.size ≤ k_))) uaf hg hat);have fc:=aa.mk (yf (g:=Ja) (o:=.cells #[.slice Bb Ma.length Ab,.int .i64 Pa,.int .i64 Qa,.int .i64 Oa,.slice (some yl) za.length Gb] 45 (0,0)) Zae hg (Kd.sU Xi.out ta.out (by decide)));have Sc:=aa.mk (hb);have uf:=aa.mk (Kept.Te (S:=(fun k_=>Uo k_)) hg vaf (fun k_ e_=>(Xi.out.1 k_ e_).1));have qh:=aa.mk (ho);clear Ub Zf ta HB HK Xi;have Ub:=Kb;have Zf:=Ob;have ta:=fc;have HB:=Sc;have HK:=uf;have lV:=qh;clear Kb Ob fc Sc uf qh ho hb hg hat));(try simp only [← xh])
                   go_roundg k2
                   case measure=>have:=Gf.out;have:=zk.out;omega
                   case rel=>exact ⟨(Tp),(JR),(wrap64 (Zc + 1)),daf,H',⟨by have:=Gf.out;have:=zk.out;omega⟩,⟨by (try simp only [dh]);(try simp only [xh]);(with_reducible repeat (first|apply Kd.Ka|apply Kd.La|apply Kd.Sa));exact Ub.out⟩,⟨by (try simp only [dh]);(try simp only [xh]);(with_reducible repeat (first|apply Kd.mg|apply Kd.lg|apply Kd.Lg));exact lV.out⟩,⟨by (try simp only [dh]);(try simp only [xh]);(with_reducible repeat (first|apply Kd.Ka|apply Kd.La|apply Kd.Sa));exact Zf.out⟩,⟨by (try simp only [dh]);(try simp only [xh]);(with_reducible repeat (first|refine Da ?_ _|refine Ea ?_|refine Ca ?_ _));exact ta.out⟩,⟨paf⟩,⟨aaf⟩⟩
                  ·rw [if_neg qI] at H;exact absurd H (by simp)
                ·rw [if_neg Fv] at H;exact absurd H (by simp)
               ·rw [if_neg SF] at H;exact absurd H (by simp)
             ·rw [if_neg VF] at H;exact absurd H (by simp)
            ·rw [if_neg js] at H;have av:decide (Zc < (t108.length:Int))=false:=decide_eq_false js;clear js;have H':=aa.mk H;clear H;obtain ⟨xA,Vz,OP⟩:=Kd.ic Zf.out;subst OP;go_wp2;(try simp only [← dh,← xh])
             go_roundg k2
             case measure=>have:=Gf.out;have:=zk.out;omega
             case rel=>exact ⟨(zi),(Wd),H',⟨by have:=Gf.out;have:=zk.out;omega⟩,⟨by (try simp only [dh]);(try simp only [xh]);(with_reducible repeat (first|apply Kd.Ka|apply Kd.La|apply Kd.Sa));exact Ub.out⟩,⟨by (try simp only [dh]);(try simp only [xh]);(with_reducible repeat (first|apply Kd.mg|apply Kd.lg|apply Kd.Lg));exact Kd.Pm Xi.out (fun _ hk=>hk.1)⟩,⟨by (try simp only [dh]);(try simp only [xh]);(with_reducible repeat (first|refine Da ?_ _|refine Ea ?_|refine Ca ?_ _));exact ta.out⟩,⟨paf⟩,⟨aaf⟩⟩
         ·rw [if_neg vw] at H;exact absurd H (by simp)
        ·rw [if_neg xI] at H;exact absurd H (by simp)
       ·rw [if_neg IJ] at H;exact absurd H (by simp)
      ·rw [if_neg ny] at H;exact absurd H (by simp)
     ·rw [if_neg PB] at H;have yw:decide (0 < (jd.length:Int))=false:=decide_eq_false PB;have KM:decide (0 < jd.length)=false:=decide_eq_false (by omega);clear PB;obtain rfl:=Option.some.inj H;obtain ⟨B6,S4,NP,_⟩:=Kd.br Xi.out;subst NP;go_wp2
      first|go_end0|((try simp only [Exit.inBlock,Exit.then]);refine bodyPost_ret (results_none rfl _ _ _) rfl ?_)
      exact ⟨eaf,(by first|exact iaf|(simp only [dh];exact iaf)),aaf,paf⟩
  ·rw [if_neg c6] at H;exact absurd H (by simp)
 ·rw [if_neg c5] at H;exact absurd H (by simp)
def uc.l0:Nat→Int→List Int→Int→Option (List Int)
 | 0,_,_,_=>none
 | k + 1,x0,x3,x4=>if x4 < x0 then (if x3.length < 17592186044416 then (uc.l0 k x0 (x3 ++ [0]) (wrap64 (x4 + 1))) else (none)) else (some x3)
def uc.f (k:Nat) (a0:Int):Option (List Int):=uc.l0 k a0 (([]:List Int)) 0
theorem uc.calls (k:Nat) (a0:Int) (r:List Int) (w:World) (h:uc.f k a0=some r) :
  Calls Try.prog 90 #[.int .i64 a0] w fun e w'=>∃ zj:Value,e = .returned (zj)∧Kd.R (Kd.int .i64) 3 w' w.heap.size (fun _=>True) zj r∧Below w.heap.size w w':=by
 have HB:=aa.mk (Below.refl w.heap.size w);have H:(uc.l0 k a0 (([]:List Int)) 0)=some r:=h;clear h;obtain ⟨ue,ye⟩:∃ y_:List Int,y_=(([]:List Int)):=⟨_,rfl⟩;replace H:(uc.l0 k a0 ue 0)=some r:=by first|(rw [ye];with_reducible exact H)|(have Mc:=(Option.bind_some _ _).symm.trans H;rw [ye];with_reducible exact Mc)|(have Mc:=(Option.bind_some _ _).symm.trans H;with_reducible exact Mc)|with_reducible exact H|(rw [ye];exact H)|exact H
 have ki:=aa.mk ye;clear ye;have H':=aa.mk H;clear H;go_enter Try.func90,Try.ntmps90;go_wp2_with (first|((with_reducible refine Lb (N:=5) rfl ?_);refine Kd.jk (Kd.int .i64) _ 3 ?hg (N:=5) ?hd (xs:=([]:List Int)) (inner:=[]) (ok:=fun _=>True) (Ag:=fun _=>True) ?hr ?hp (fun _ hk=>hk) trivial (Below.refl _ _) (Nat.le_refl _) (by simp) ?_;(case hd|hg=>rfl);(case hr=>exact Vae);(case hp=>exact (Fc.none _ _));intro yy w2 lF hb Hl Je;clear Hl Je;(first|rw [← ki.out] at lF|(simp only [Int.reduceToNat] at lF;rw [← ki.out] at lF));have Kb:=aa.mk (Kd.Xc lF (Ra Yae));have Ob:=aa.mk (Fa Yae hb);clear HB;have Xl:=Kb;have HB:=Ob;clear Kb Ob hb lF))
 go_loopg [3,4] k (fun kq v3 v4 w'=>∃ (jc:List Int) (Cb:Int),v4 = .int .i64 Cb∧aa (uc.l0 kq a0 jc Cb=some r)∧aa (kq ≤ k)∧aa (Kd.R (Kd.int .i64) 3 w' w.heap.size (fun _=>True) v3 jc)∧aa (Below w.heap.size w w'))
 case atStart=>exact ⟨(ue),(0),daf,H',⟨Nat.le_refl _⟩,⟨by (with_reducible repeat (first|apply Kd.Ka|apply Kd.La|apply Kd.Sa));exact Xl.out⟩,⟨caf⟩⟩
 case round =>
  clear H'
  try clear p2
  (try clear HA);(try clear Gf);(try clear Ub);(try clear HB);obtain ⟨jc,Cb,rfl,HA,Gf,Ub,HB⟩:=hrel;cases gk with
  | zero=>exact absurd HA.out (by simp [uc.l0])
  | succ k1 =>
   have H:=HA.out;clear HA;simp only [uc.l0] at H
   by_cases c4:Cb < a0
   ·rw [if_pos c4] at H;have Yk:decide (Cb < a0)=true:=decide_eq_true c4;clear c4
    by_cases c5:jc.length < 17592186044416
    ·rw [if_pos c5] at H;have n5:=aa.mk c5;clear c5;obtain ⟨qe,Ij⟩:∃ y_:List Int,y_=(jc ++ [0]):=⟨_,rfl⟩;replace H:(uc.l0 k1 a0 qe (wrap64 (Cb + 1)))=some r:=by first|(rw [Ij];with_reducible exact H)|(have Mc:=(Option.bind_some _ _).symm.trans H;rw [Ij];with_reducible exact Mc)|(have Mc:=(Option.bind_some _ _).symm.trans H;with_reducible exact Mc)|with_reducible exact H|(rw [Ij];exact H)|exact H
     have oA:=aa.mk Ij;clear Ij;have H':=aa.mk H;clear H;go_wp2_with (first|((with_reducible refine Xg (b:=.append) (xs:=#[.tmp 11,.tmp 12]) rfl ?_);at_builtin;refine Kd.Sl (Kd.int .i64) (w0:=w) w.heap.size rfl (.tmp 11) (.tmp 12) 22 3 (.int .i64 0) 8 rfl Try.underlying22 info3 rfl (by decide) (by omega) u3 jc 0 [.int .i64 0] (fun _=>True) (fun _=>False) rfl rfl ?aP (fun _ hk=>hk.elim) ?aF ?aO ?aB ?aS ?aL ?_;(case aP=>exact rfl);(case aB=>exact Yae);(case aF=>exact (fun _ _=>trivial));(case aO=>exact iaf);(case aS=>exact (Ra Yae));(case aL=>have:=n5.out;omega);intro v105 w6 ho hb hg hat;rw [← oA.out] at ho;have Kb:=aa.mk (hb);have Ob:=aa.mk (ho);clear HB Ub;have HB:=Kb;have vp:=Ob;clear Kb Ob ho hb hg hat))
     go_roundg k1
     case measure=>have:=Gf.out;omega
     case rel=>exact ⟨(qe),(wrap64 (Cb + 1)),daf,H',⟨by have:=Gf.out;omega⟩,⟨by (with_reducible repeat (first|apply Kd.Ka|apply Kd.La|apply Kd.Sa));exact vp.out⟩,⟨caf⟩⟩
    ·rw [if_neg c5] at H;exact absurd H (by simp)
   ·rw [if_neg c4] at H;have Yk:decide (Cb < a0)=false:=decide_eq_false c4;clear c4;obtain rfl:=Option.some.inj H;go_wp2;go_ret;exact ⟨_,eaf,zaf,caf⟩
theorem jl (a b c:Int) (w:World):Calls Try.prog 81 #[.int .i64 a,.int .i64 b,.int .i64 c] w fun e w'=>e = .returned (.bool (Ki a b c))∧Nb w w':=Ek.calls a b c (Ki a b c) w (KG a b c)
theorem Kn {a b c:Int} {q:Bool} (h:Ki a b c=q) (w:World):Calls Try.prog 81 #[.int .i64 a,.int .i64 b,.int .i64 c] w fun e w'=>e = .returned (.bool q)∧Nb w w':=h ▸ jl a b c w
theorem iL (e:Nat) (W:World):Kd.R Kd.string e (W.alloc (.cells #[.string ⟨#[61,61]⟩,.string ⟨#[60]⟩,.string ⟨#[38]⟩,.string ⟨#[43]⟩,.string ⟨#[45]⟩,.string ⟨#[42]⟩] e (0,0))) W.heap.size (fun _=>True) (.slice (some ⟨W.heap.size,0,none⟩) 6 6) [(⟨#[61,61]⟩:ByteArray),(⟨#[60]⟩:ByteArray),(⟨#[38]⟩:ByteArray),(⟨#[43]⟩:ByteArray),(⟨#[45]⟩:ByteArray),(⟨#[42]⟩:ByteArray)]:=by
 refine ⟨fun _ _=>trivial,[.string ⟨#[61,61]⟩,.string ⟨#[60]⟩,.string ⟨#[38]⟩,.string ⟨#[43]⟩,.string ⟨#[45]⟩,.string ⟨#[42]⟩],?_,Fc.one rfl (Fc.one rfl (Fc.one rfl (Fc.one rfl (Fc.one rfl (Fc.one rfl (Fc.none _ _))))))⟩;have h2:=World.ownsRow_lit (base:=W.heap.size) (e:=e) (size:=1) W #[.string ⟨#[61,61]⟩,.string ⟨#[60]⟩,.string ⟨#[38]⟩,.string ⟨#[43]⟩,.string ⟨#[45]⟩,.string ⟨#[42]⟩] 6 (Nat.le_refl _) (by simp [maxLen]) (by simp);exact h2
theorem JK (t:ByteArray) (W:World):Calls Try.prog 135 #[.slice (some ⟨W.heap.size,0,none⟩) 6 6,.string t] (W.alloc (.cells #[.string ⟨#[61,61]⟩,.string ⟨#[60]⟩,.string ⟨#[38]⟩,.string ⟨#[43]⟩,.string ⟨#[45]⟩,.string ⟨#[42]⟩] 9 (0,0))) fun e w'=>e = .returned (.bool (Vm t))∧Nb (W.alloc (.cells #[.string ⟨#[61,61]⟩,.string ⟨#[60]⟩,.string ⟨#[38]⟩,.string ⟨#[43]⟩,.string ⟨#[45]⟩,.string ⟨#[42]⟩] 9 (0,0))) w':=by
 obtain ⟨k,hk⟩:=Ev.rounds (JP t);have h:=Kd.Wa (iL 9 W);exact Re.calls k (some ⟨W.heap.size,0,none⟩) 6 [(⟨#[61,61]⟩:ByteArray),(⟨#[60]⟩:ByteArray),(⟨#[38]⟩:ByteArray),(⟨#[43]⟩:ByteArray),(⟨#[45]⟩:ByteArray),(⟨#[42]⟩:ByteArray)] t (Vm t) _ h.2.2 h.2.1 hk
theorem kB (n0:Nat) (s o d a b c n:Int) (t:ByteArray):qj n0 s o d a b c n t=(!((o != 2 && t.toList != []) || (o != 4 && c != 0)) && Rw (Mj s d) (Mj s a) (Mj s b) (Mj s c) ((Mj s a || a == -1) && (Mj s b && Ki n 0 ((n0:Int) - 1))) o d a b n t):=by
 unfold qj Rw;have ht:(t.toList != []) = !t.toList.isEmpty:=by cases t.toList <;> rfl
 rw [ht];generalize t.toList.isEmpty=T;generalize Vm t=G;generalize Mj s a=A;generalize Mj s b=B;generalize Mj s c=C;generalize Mj s d=D;generalize Ki n 0 ((n0:Int) - 1)=N
 by_cases h0:o=0
 ·subst h0;cases T <;> cases D <;> cases hc:(c == 0) <;> simp_all [bne]
 by_cases h1:o=1
 ·subst h1;cases T <;> cases D <;> cases A <;> cases hc:(c == 0) <;> simp_all [bne]
 by_cases h2:o=2
 ·subst h2;cases D <;> cases A <;> cases B <;> cases G <;> cases hc:(c == 0) <;> simp_all [bne]
 by_cases h3:o=3
 ·subst h3;cases T <;> cases D <;> cases A <;> cases B <;> cases N <;> cases hc:(c == 0) <;> simp_all [bne]
 by_cases h4:o=4
 ·subst h4;cases T <;> cases C <;> cases A <;> cases B <;> cases N <;> cases hd:(d == 0) <;> simp_all [bne]
 by_cases h5:o=5
 ·subst h5;cases T <;> cases D <;> cases hc:(c == 0) <;> simp_all [bne]
 by_cases h6:o=6
 ·subst h6;cases T <;> cases A <;> cases hc:(c == 0) <;> simp_all [bne]
 simp [h0,h1,h2,h3,h4,h5,h6]
theorem Fy (A0 A4:Option Addr) (c0 c4 n0 n4:Nat) (p1 p2 s:Int) (w:World) (hn0:n0 ≤ 1048576) (hs:0 ≤ s∧s ≤ 1000) (o d a b c n:Int) (t:ByteArray) :
  Calls Try.prog 121 #[.agg #[.slice A0 n0 c0,.int .i64 p1,.int .i64 p2,.int .i64 s,.slice A4 n4 c4],.agg #[.int .i64 o,.int .i64 d,.int .i64 a,.int .i64 b,.int .i64 c,.int .i64 n,.string t]] w fun e w'=>e = .returned (.bool (qj n0 s o d a b c n t))∧Below w.heap.size w w':=by
 obtain ⟨R,hR⟩:∃ R,qj n0 s o d a b c n t=R:=⟨_,rfl⟩;rw [hR];rw [kB] at hR;have HR:=aa.mk hR;clear hR;obtain ⟨W1,hW,hb,hx,hy⟩:=dm w (.cells #[.slice A0 n0 c0,.int .i64 p1,.int .i64 p2,.int .i64 s,.slice A4 n4 c4] 45 (0,0)) (.cells #[.int .i64 o,.int .i64 d,.int .i64 a,.int .i64 b,.int .i64 c,.int .i64 n,.string t] 122 (0,0));have HW:=aa.mk hW;have HB:=aa.mk hb;obtain ⟨g0,-,-,g3,-⟩:=Cg hx;obtain ⟨x0,x1,x2,x3,x4,x5,x6⟩:=OB hy;have HS:=aa.mk (show wrap64 (s - 1)=s - 1 from Wf (by omega) (by omega));have HN:=aa.mk (show wrap64 ((n0:Int) - 1)=(n0:Int) - 1 from Wf (by omega) (by omega));clear hW hb hx hy;go_enter Try.func121,Try.ntmps121
 go_upto_region 1 with (fail)
 rw [← HW.out];clear HW
 go_upto_region 2 with (first|(go_at_call 81;(with_reducible refine (jl _ _ _ _).mono ?_);rintro e w' ⟨rfl,⟨Ob,rfl⟩⟩))
 go_upto_region 3 with (first|(go_at_call 81;(with_reducible refine (jl _ _ _ _).mono ?_);rintro e w' ⟨rfl,⟨fc,rfl⟩⟩))
 go_upto_region 4 with (first|(go_at_call 81;(with_reducible refine (jl _ _ _ _).mono ?_);rintro e w' ⟨rfl,⟨Sc,rfl⟩⟩))
 rw [Ju s d,Ju s a,Ju s b];generalize Mj s a=A' at HR ⊢;generalize Mj s b=B' at HR ⊢;generalize Mj s d=D' at HR ⊢
 go_cut [8] (fun v8 wc=>v8 = .bool ((A' || a == -1) && (B' && Ki n 0 ((n0:Int) - 1)))∧aa (Nb W1 wc))
 case first =>
  clear HB HS HN HR;generalize hm:(a == -1)=m;cases A' <;> cases B' <;> cases m
  all_goals
   go_wp2_with (first|(go_at_call 81;(with_reducible refine (jl _ _ _ _).mono ?_);rintro e w' ⟨rfl,⟨uf,rfl⟩⟩))
   go_meet
   case rel=>exact ⟨by rw [hm];simp,⟨⟨_,rfl⟩⟩⟩
 case rest =>
  obtain ⟨rfl,⟨⟨nd,rfl⟩⟩⟩:=hcut;generalize ((A' || a == -1) && (B' && Ki n 0 ((n0:Int) - 1)))=M at HR ⊢
  go_upto_region 5 with (fail)
  go_cut [62] (fun v62 wc=>v62 = .bool ((o != 2 && t.toList != []) || (o != 4 && c != 0))∧aa (Nb W1 wc))
  case first =>
   clear HB HS HN HR
   by_cases ht:t.toList=[] <;> cases h2:(o != 2) <;> cases h4:(o != 4) <;> cases hc:(c != 0)
   all_goals
    go_wp2
    go_meet
    case rel=>exact ⟨by rw [h2,h4,hc];simp [ht],⟨⟨_,rfl⟩⟩⟩
  case rest =>
   obtain ⟨rfl,⟨⟨nd,rfl⟩⟩⟩:=hcut;generalize ((o != 2 && t.toList != []) || (o != 4 && c != 0))=X at HR ⊢;cases X with
   | true =>
    go_wp2;go_ret;exact ⟨by rw [← HR.out];rfl,ga HB.out _⟩
   | false =>
    by_cases h2:o=2
    ·subst h2
     go_upto_region 13 with (fail)
     have XM:((W1.drewN nd).alloc (.cells #[.string ⟨#[61,61]⟩,.string ⟨#[60]⟩,.string ⟨#[38]⟩,.string ⟨#[43]⟩,.string ⟨#[45]⟩,.string ⟨#[42]⟩] 9 (0,0))).cell? ⟨w.heap.size + 1,6,none⟩=some (.string t):=Xe (ia (Below.refl _ (W1.drewN nd)) _) x6;cases D' <;> cases A' <;> cases B' <;> cases hn:(n == 0)
     all_goals
      go_wp2_with (first|(go_at_call 135;(refine (JK t (W1.drewN nd)).mono ?_);rintro e w' ⟨rfl,⟨qh,rfl⟩⟩));go_ret;refine ⟨?_,by repeat (first|exact HB.out|apply ga|apply ia)⟩;rw [← HR.out];unfold Rw;simp [hn]
    ·have h2b:(o == 2)=false:=beq_eq_false_iff_ne.mpr h2;go_wp2_with (first|(go_at_call 81;(with_reducible refine (jl _ _ _ _).mono ?_);rintro e w' ⟨rfl,⟨qh,rfl⟩⟩))
     all_goals go_ret
     all_goals refine ⟨?_,ga HB.out _⟩
     all_goals
      have h:=HR.out;rw [← h];clear HR HB HS HN x0 x1 x2 x3 x4 x5 x6 g0 g3 h
      simp_all [Rw,Ju]
theorem Gy (A0 A4 A5:Option Addr) (c0 c4 c5 n0 n4:Nat) (p1 p2 s:Int) (l5:List Zb) (j a tg els:Int) (w:World) (hn0:n0 ≤ 1048576) (Nu:n4 ≤ 1048576) (hs:0 ≤ s∧s ≤ 1000) (EO:Kd.C fe w A5 l5.length l5) (X9:l5.length ≤ c5) :
  Calls Try.prog 101 #[.agg #[.slice A0 n0 c0,.int .i64 p1,.int .i64 p2,.int .i64 s,.slice A4 n4 c4],.agg #[.slice A5 l5.length c5,.int .i64 j,.int .i64 a,.int .i64 tg,.int .i64 els]] w fun e w'=>e = .returned (.bool (Ti n0 s n4 l5 j a tg els))∧Below w.heap.size w w':=by
 have hm5:=EO.2.1;obtain ⟨R,hR⟩:∃ R,Ti n0 s n4 l5 j a tg els=R:=⟨_,rfl⟩;rw [hR];unfold Ti at hR;have HR:=aa.mk hR;clear hR;obtain ⟨W1,hW,hb,hx,hy⟩:=dm w (.cells #[.slice A0 n0 c0,.int .i64 p1,.int .i64 p2,.int .i64 s,.slice A4 n4 c4] 45 (0,0)) (.cells #[.slice A5 l5.length c5,.int .i64 j,.int .i64 a,.int .i64 tg,.int .i64 els] 83 (0,0));have HW:=aa.mk hW;have HB:=aa.mk hb;have HX:=aa.mk hx;have HY:=aa.mk hy;have HC:=aa.mk (Kd.yb EO hb);have HK:=aa.mk (Below.refl W1.heap.size W1);clear hW hb hx hy EO;go_enter Try.func101,Try.ntmps101
 go_upto_region 1 with (fail)
 rw [← HW.out];clear HW;go_wp2
 go_loopg [5] l5.length (fun gg v5 wr=>∃ x:Int,v5 = .int .i64 x∧0 ≤ x∧x ≤ (l5.length:Int)∧l5.length - x.toNat ≤ gg∧aa ((l5.take x.toNat).any (fun y=>!nk n0 s y)=false)∧aa (Below W1.heap.size W1 wr))
 case atStart=>exact ⟨0,rfl,by omega,by omega,by omega,⟨by simp⟩,HK⟩
 case round =>
  clear HK;(try clear HT);(try clear HK);obtain ⟨x,rfl,hx0,hx1,BA,HT,HK⟩:=hrel;obtain ⟨b0,b1,b2,b3,b4⟩:=Cg (Ua HY.out HK.out);obtain ⟨g0,g1,g2,g3,g4⟩:=Cg (Ua HX.out HK.out)
  by_cases hlt:x < (l5.length:Int)
  ·have Xh:decide (x < (l5.length:Int))=true:=decide_eq_true hlt;have jJ:=aa.mk (And.intro hx0 hlt);obtain ⟨ad,e1,i0,i1,i2,i3,i4,i5,i6⟩:=lu (Kd.yb HC.out HK.out) x hx0 hlt;subst e1;have rV:=aa.mk (ja HK.out)
   have jE:=aa.mk (show (l5.take (x + 1).toNat).any (fun y=>!nk n0 s y) = !nk n0 s (oa l5 x) by
    rw [show (x + 1).toNat=x.toNat + 1 by omega,List.take_succ_eq_append_getElem (show x.toNat < l5.length by omega),List.any_append,HT.out,List.any_cons,List.any_nil]
    simp [oa,List.getD_eq_getElem?_getD,show x.toNat < l5.length by omega])
   clear HT
   go_upto_region 4 with (fail)
   refine Pj (n:=8) (S:=fun w'=>w'.cell? ⟨w.heap.size,0,none⟩=some (.slice A0 n0 c0)∧w'.cell? ⟨w.heap.size,1,none⟩=some (.int .i64 p1)∧w'.cell? ⟨w.heap.size,2,none⟩=some (.int .i64 p2)∧w'.cell? ⟨w.heap.size,3,none⟩=some (.int .i64 s)∧w'.cell? ⟨w.heap.size,4,none⟩=some (.slice A4 n4 c4)∧w'.cell? ⟨w.heap.size + 1,0,none⟩=some (.slice (some ad) l5.length c5)∧w'.cell? (ad.add (x.toNat * 7))=some (.int .i64 (oa l5 x).f0)∧w'.cell? ⟨(ad.add (x.toNat * 7)).block,(ad.add (x.toNat * 7)).off + 1,none⟩=some (.int .i64 (oa l5 x).f1)∧w'.cell? ⟨(ad.add (x.toNat * 7)).block,(ad.add (x.toNat * 7)).off + 2,none⟩=some (.int .i64 (oa l5 x).f2)∧w'.cell? ⟨(ad.add (x.toNat * 7)).block,(ad.add (x.toNat * 7)).off + 3,none⟩=some (.int .i64 (oa l5 x).f3)∧w'.cell? ⟨(ad.add (x.toNat * 7)).block,(ad.add (x.toNat * 7)).off + 4,none⟩=some (.int .i64 (oa l5 x).f4)∧w'.cell? ⟨(ad.add (x.toNat * 7)).block,(ad.add (x.toNat * 7)).off + 5,none⟩=some (.int .i64 (oa l5 x).f5)∧w'.cell? ⟨(ad.add (x.toNat * 7)).block,(ad.add (x.toNat * 7)).off + 6,none⟩=some (.string (oa l5 x).f6)) (ds:=[6]) #[false,false,false,false,false,false,false,false] (by kernel_rfl) rfl rfl ⟨g0,g1,g2,g3,g4,b0,i0,i1,i2,i3,i4,i5,i6⟩ (fun hHeld=>?_);generalize wr.drew=wd at rV hHeld ⊢;refine Dc (i:=1) (N:=some 16) (v:=?_) (a':=?_) #[false,true,false,false,false,false,false,false] rfl rfl (by kernel_rfl) (fun _ _ _ h=>h) (Or.inl ⟨by rfl,?_⟩) ?_ ?_;rotate_left
   ·exact Rae
   rotate_left
   ·exact Qae
   refine Dc (i:=3) (N:=some 18) (v:=?_) (a':=?_) #[false,true,false,true,false,false,false,false] rfl rfl (by kernel_rfl) (fun _ _ _ h=>h) (Or.inl ⟨by rfl,?_⟩) ?_ ?_;rotate_left
   ·exact Rae
   rotate_left
   ·exact Qae
   refine ah (i:=0) (N:=some 15) (v:=?_) (a':=?_) #[true,true,false,true,false,false,false,false] rfl rfl (by kernel_rfl) (fun _ _ _ h=>h) (Or.inl ⟨by rfl,?_⟩) hHeld ?_ ?_;rotate_left
   ·exact Sae
   rotate_left
   ·exact Qae
   refine ah (i:=2) (N:=some 17) (v:=?_) (a':=?_) #[true,true,true,true,false,false,false,false] rfl rfl (by kernel_rfl) (fun _ _ _ h=>h) (Or.inl ⟨by rfl,?_⟩) hHeld ?_ ?_;rotate_left
   ·exact Sae
   rotate_left
   ·exact Qae
   refine Dc (i:=4) (N:=some 19) (v:=?_) (a':=?_) #[true,true,true,true,true,false,false,false] rfl rfl (by kernel_rfl) (fun _ _ _ h=>h) (Or.inl ⟨by rfl,?_⟩) ?_ ?_;rotate_left
   ·exact Rae
   rotate_left
   ·exact Qae
   refine ah (i:=5) (N:=some 20) (v:=?_) (a':=?_) #[true,true,true,true,true,true,false,false] rfl rfl (by kernel_rfl) (fun _ _ _ h=>h) (Or.inl ⟨by rfl,?_⟩) hHeld ?_ ?_;rotate_left
   ·exact Sae
   rotate_left
   ·exact Qae
   refine Ts (i:=6) (N:=some 21) #[true,true,true,true,true,true,true,false] rfl rfl (by kernel_rfl) (by decide) (fun K hK=>?_);refine Oq Try.func121 (by kernel_rfl) rfl #[.agg #[.slice A0 n0 c0,.int .i64 p1,.int .i64 p2,.int .i64 s,.slice A4 n4 c4],.agg #[.int .i64 (oa l5 x).f0,.int .i64 (oa l5 x).f1,.int .i64 (oa l5 x).f2,.int .i64 (oa l5 x).f3,.int .i64 (oa l5 x).f4,.int .i64 (oa l5 x).f5,.string (oa l5 x).f6]] (by rfl) rfl rfl Faf ?_;with_reducible refine (Fy A0 A4 c0 c4 n0 n4 p1 p2 s wd hn0 hs _ _ _ _ _ _ _).mono ?_
   rintro e w2 ⟨rfl,hb⟩;refine ⟨_,rfl,?_⟩;have zk:=aa.mk (Fa rV.out hb);clear hb;refine hK.out _ _ ?_;clear hK K;refine Ze (a':=?_) ?_ ?_;rotate_left
   ·show Act.put _ (some 21) _=_
    exact Qae
   refine Dc (i:=7) (N:=some 22) (v:=?_) (a':=?_) #[true,true,true,true,true,true,true,true] rfl rfl (by kernel_rfl) (fun _ _ _ h=>h) (Or.inl ⟨by rfl,?_⟩) ?_ ?_;rotate_left
   ·exact Rae
   rotate_left
   ·exact Qae
   refine Ym (by kernel_rfl) ?_;clear hHeld b0 b1 b2 b3 b4 g0 g1 g2 g3 g4 i0 i1 i2 i3 i4 i5 i6
   change aa (_ = !qj n0 s _ _ _ _ _ _ _) at jE
   generalize qj n0 s (oa l5 x).f0 (oa l5 x).f1 (oa l5 x).f2 (oa l5 x).f3 (oa l5 x).f4 (oa l5 x).f5 (oa l5 x).f6=q at jE ⊢;cases q with
   | true =>
    go_wp2
    go_roundg (l5.length - (x + 1).toNat)
    case measure=>have:=jJ.out;omega
    case rel=>exact ⟨x + 1,rfl,by omega,by omega,by omega,jE,zk⟩
   | false =>
    have QV:=aa.mk (show l5.any (fun y=>!nk n0 s y)=true by
     have h:_=true:=jE.out;rw [List.any_eq_true] at h ⊢;obtain ⟨y,hy,hy2⟩:=h
     exact ⟨y,List.mem_of_mem_take hy,hy2⟩)
    go_wp2;go_ret;exact ⟨by rw [← HR.out,QV.out];rfl,Fa HB.out zk.out⟩
  ·have Xh:decide (x < (l5.length:Int))=false:=decide_eq_false hlt;have HS:=aa.mk (Ju s a);have ht:=HT.out;rw [List.take_of_length_le (by omega)] at ht;have aJ:=HR.out;rw [ht,decide_eq_true hs.1] at aJ;have zR:=aa.mk aJ;clear aJ HR ht HT
   go_upto_region 8 with (first|(go_at_call 81;(with_reducible refine (jl _ _ _ _).mono ?_);rintro e w' ⟨rfl,⟨qh,rfl⟩⟩))
   rw [HS.out];generalize Mj s a=A' at zR ⊢;generalize Ki tg 0 ((n4:Int) - 1)=T' at zR ⊢;go_wp2_with (first|(go_at_call 81;(with_reducible refine (jl _ _ _ _).mono ?_);rintro e w' ⟨rfl,⟨qh,rfl⟩⟩))
   all_goals go_ret
   all_goals refine ⟨?_,by repeat (first|exact Fa HB.out HK.out|apply ga)⟩
   all_goals
    have h:=zR.out;rw [← h];clear zR HB HS HK b0 b1 b2 b3 b4 g0 g1 g2 g3 g4 h HX HY HC
    simp_all
theorem AE {q1 q2 q3 q4 q5 q6:Bool} (h:¬ (q1=true∧q2=true∧q3=true∧q4=false∧q5=true∧q6=true)):(∀ b,((q1 && !false && (q2 && (q3 && (!q4 && (q5 && q6))))) && b)=false)∧(q1=false ∨ (q1=true∧q2=false) ∨ (q1=true∧q2=true∧q3=false) ∨ (q1=true∧q2=true∧q3=true∧q4=true) ∨ (q1=true∧q2=true∧q3=true∧q4=false∧q5=false) ∨ (q1=true∧q2=true∧q3=true∧q4=false∧q5=true∧q6=false)):=by
 cases q1 <;> cases q2 <;> cases q3 <;> cases q4 <;> cases q5 <;> cases q6 <;> simp_all
theorem qx (l0:List Int) (p v s:Int) (n4:Nat):Pr l0 p v s n4=(Ki (l0.length:Int) 1 4 && !(l0.any fun n=>!Ki n 1 16) && (Ki v 0 20 && (Ki p 0 6 && (!decide (p > v) && (Ki s v 1000 && Ki (n4:Int) 1 300))))):=by
 unfold Pr Dp;cases h1:Ki (l0.length:Int) 1 4
 ·rfl
 cases h2:(l0.any fun n=>!Ki n 1 16)
 ·simp only [Bool.not_false,Bool.true_and,Bool.and_assoc];unfold Ki;rw [Bool.eq_iff_iff];simp only [Bool.and_eq_true,decide_eq_true_eq,Bool.not_eq_true',decide_eq_false_iff_not]
  by_cases hv:v < 6
  ·rw [if_pos hv];omega
  ·rw [if_neg hv];omega
 ·rfl
noncomputable def Ae.f (_:Nat) (Ma:List Int) (Pa:Int) (Qa:Int) (Oa:Int) (za:List Yd):Option Bool:=if Ma.length ≤ 1048576∧za.length ≤ 1048576∧yc za ≤ 1048576 then some (Qh Ma Pa Qa Oa za) else none
theorem Jp {l0:List Int} {p v s:Int} {l4:List Yd} (h0:l0.length ≤ 1048576) (Q8:l4.length ≤ 1048576) (ht:yc l4 ≤ 1048576):Ev (fun k=>Ae.f k l0 p v s l4) (Qh l0 p v s l4):=by
 refine ⟨0,fun k _=>?_⟩;unfold Ae.f;rw [if_pos ⟨h0,Q8,ht⟩]
theorem Ae.calls (k:Nat) (Bb:Option Addr) (Ab:Nat) (Ma:List Int) (Pa:Int) (Qa:Int) (Oa:Int) (Qb:Option Addr) (Gb:Nat) (za:List Yd) (r:Bool) (w:World) (od:Kd.C (Kd.int .i64) w Bb Ma.length Ma) (Nd:Ma.length ≤ Ab) (ze:Kd.C Jl w Qb za.length za) (Ve:za.length ≤ Gb) (h:Ae.f k Ma Pa Qa Oa za=some r) :
  Calls Try.prog 66 #[.agg #[.slice Bb Ma.length Ab,.int .i64 Pa,.int .i64 Qa,.int .i64 Oa,.slice Qb za.length Gb]] w fun e w'=>e = .returned (.bool r)∧Below w.heap.size w w':=by
 unfold Ae.f at h
 by_cases hq:Ma.length ≤ 1048576∧za.length ≤ 1048576∧yc za ≤ 1048576
 case neg=>rw [if_neg hq] at h;cases h
 rw [if_pos hq] at h;have hR:=Option.some.inj h;obtain ⟨hn0,Nu,hst⟩:=hq;unfold Qh at hR;rw [qx] at hR;have HR:=aa.mk hR;have HST:=aa.mk hst;clear h hR hst;obtain ⟨W1,hW,hb,hx⟩:=Mw w (.cells #[.slice Bb Ma.length Ab,.int .i64 Pa,.int .i64 Qa,.int .i64 Oa,.slice Qb za.length Gb] 45 (0,0));have HW:=aa.mk hW;have HB:=aa.mk hb;have HX:=aa.mk hx;have ey:=aa.mk (Kd.yb od hb);have CY:=aa.mk (Kd.yb ze hb);have HK:=aa.mk (Below.refl W1.heap.size W1);clear hW hb hx od ze;go_enter Try.func66,Try.ntmps66
 go_upto_region 1 with (fail)
 rw [← HW.out];clear HW;go_wp2
 go_loopg [3] Ma.length (fun gg v3 wr=>∃ x:Int,v3 = .int .i64 x∧0 ≤ x∧x ≤ (Ma.length:Int)∧Ma.length - x.toNat ≤ gg∧aa ((Ma.take x.toNat).any (fun y=>!Ki y 1 16)=false)∧aa (Below W1.heap.size W1 wr))
 case atStart=>exact ⟨0,rfl,by omega,by omega,by omega,⟨by simp⟩,HK⟩
 case round =>
  clear HK;(try clear HT);(try clear HK);obtain ⟨x,rfl,hx0,hx1,BA,HT,HK⟩:=hrel;obtain ⟨g0,g1,g2,g3,g4⟩:=Cg (Ua HX.out HK.out)
  by_cases hlt:x < (Ma.length:Int)
  ·have Xh:decide (x < (Ma.length:Int))=true:=decide_eq_true hlt;have jJ:=aa.mk (And.intro hx0 hlt);obtain ⟨ad,e1,i0⟩:=Kd.Ud (Kd.yb ey.out HK.out) x hx0 hlt;subst e1
   have jE:=aa.mk (show (Ma.take (x + 1).toNat).any (fun y=>!Ki y 1 16) = !Ki (rd Ma x) 1 16 by
    rw [show (x + 1).toNat=x.toNat + 1 by omega,List.take_succ_eq_append_getElem (show x.toNat < Ma.length by omega),List.any_append,HT.out,List.any_cons,List.any_nil]
    simp [rd,List.getD_eq_getElem?_getD,show x.toNat < Ma.length by omega])
   clear HT;cases hq:Ki (rd Ma x) 1 16 with
   | true =>
    rw [hq] at jE;go_wp2_with (first|(go_at_call 81;(first|(with_reducible refine (Kn (q:=true) (by assumption) _).mono ?_)|(with_reducible refine (Kn (q:=false) (by assumption) _).mono ?_));rintro e w' ⟨rfl,⟨qh,rfl⟩⟩))
    go_roundg (Ma.length - (x + 1).toNat)
    case measure=>have:=jJ.out;omega
    case rel=>exact ⟨x + 1,rfl,by omega,by omega,by omega,jE,⟨ga HK.out _⟩⟩
   | false =>
    rw [hq] at jE
    have QV:=aa.mk (show Ma.any (fun y=>!Ki y 1 16)=true by
     have h:_=true:=jE.out;rw [List.any_eq_true] at h ⊢;obtain ⟨y,hy,hy2⟩:=h
     exact ⟨y,List.mem_of_mem_take hy,hy2⟩)
    go_wp2_with (first|(go_at_call 81;(first|(with_reducible refine (Kn (q:=true) (by assumption) _).mono ?_)|(with_reducible refine (Kn (q:=false) (by assumption) _).mono ?_));rintro e w' ⟨rfl,⟨qh,rfl⟩⟩));go_ret;exact ⟨by rw [← HR.out,QV.out];simp,ga (Fa HB.out HK.out) _⟩
  ·have Xh:decide (x < (Ma.length:Int))=false:=decide_eq_false hlt;have ht:=HT.out;rw [List.take_of_length_le (by omega)] at ht;have aJ:=HR.out;rw [ht] at aJ;clear ht HT HR hx0 hx1 BA;obtain ⟨q1,h1⟩:∃ q,Ki (Ma.length:Int) 1 4=q:=⟨_,rfl⟩;obtain ⟨q2,h2⟩:∃ q,Ki Qa 0 20=q:=⟨_,rfl⟩;obtain ⟨q3,h3⟩:∃ q,Ki Pa 0 6=q:=⟨_,rfl⟩;obtain ⟨q4,h4⟩:∃ q,decide (Pa > Qa)=q:=⟨_,rfl⟩;obtain ⟨q5,h5⟩:∃ q,Ki Oa Qa 1000=q:=⟨_,rfl⟩;obtain ⟨q6,h6⟩:∃ q,Ki (za.length:Int) 1 300=q:=⟨_,rfl⟩;rw [h1,h2,h3,h4,h5,h6] at aJ
   by_cases hX:q1=true∧q2=true∧q3=true∧q4=false∧q5=true∧q6=true
   case neg =>
    obtain ⟨hA,hY⟩:=AE hX;have HR:=aa.mk (show r=false from aJ.symm.trans (hA _));clear hA aJ hX
    rcases hY with rfl|⟨rfl,rfl⟩|⟨rfl,rfl,rfl⟩|⟨rfl,rfl,rfl,rfl⟩|⟨rfl,rfl,rfl,rfl,rfl⟩|⟨rfl,rfl,rfl,rfl,rfl,rfl⟩
    all_goals
     go_upto_region 7 with (first|(go_at_call 81;(first|(with_reducible refine (Kn (q:=true) (by assumption) _).mono ?_)|(with_reducible refine (Kn (q:=false) (by assumption) _).mono ?_));rintro e w' ⟨rfl,⟨qh,rfl⟩⟩))
     go_wp2;go_ret;exact ⟨by rw [HR.out];rfl,by repeat (first|exact Fa HB.out HK.out|apply ga)⟩
   case pos =>
   obtain ⟨rfl,rfl,rfl,rfl,rfl,rfl⟩:=hX;simp only [Bool.not_false,Bool.true_and] at aJ;have HR:=aa.mk aJ;clear aJ
   have HS:=aa.mk (show 0 ≤ Oa∧Oa ≤ 1000 by
    unfold Ki at h2 h5;simp only [Bool.and_eq_true,decide_eq_true_eq] at h2 h5
    omega)
   go_upto_region 8 with (first|(go_at_call 81;(first|(with_reducible refine (Kn (q:=true) (by assumption) _).mono ?_)|(with_reducible refine (Kn (q:=false) (by assumption) _).mono ?_));rintro e w' ⟨rfl,⟨qh,rfl⟩⟩))
   have HZ:=aa.mk HK.out;clear g0 g1 g2 g3 g4 h1 h2 h3 h4 h5 h6 hlt Xh ey;obtain ⟨wq,hwq⟩:∃ wq,wq=wr:=⟨_,rfl⟩;go_wp2
   go_loopg [4,5] za.length (fun gg v4 v5 wz=>∃ x:Int,v4 = .int .i64 (yc (za.take x.toNat):Int)∧v5 = .int .i64 x∧0 ≤ x∧x ≤ (za.length:Int)∧za.length - x.toNat ≤ gg∧aa (yc (za.take x.toNat) ≤ 1000∧(za.take x.toNat).any (fun y=>!eo Ma Oa za y)=false)∧aa (Below W1.heap.size W1 wz))
   case atStart=>exact ⟨0,by simp [yc],rfl,by omega,by omega,by omega,⟨by simp [yc]⟩,⟨by repeat (first|exact HK.out|apply ga)⟩⟩
   case round =>
   clear HK HZ hwq wq;(try clear HT);(try clear HK);obtain ⟨x,rfl,rfl,hx0,hx1,BA,HT,HK⟩:=hrel;have HE:=HT.out;have hs1:=HE.1;obtain ⟨g0,g1,g2,g3,g4⟩:=Cg (Ua HX.out HK.out)
   by_cases hlt:x < (za.length:Int)
   case neg =>
    have Xh:decide (x < (za.length:Int))=false:=decide_eq_false hlt;rw [List.take_of_length_le (show za.length ≤ x.toNat by omega)] at HE;have HE:=aa.mk HE;clear hs1 HT;go_wp2;go_ret;exact ⟨by rw [← HR.out,HE.out.2,decide_eq_true HE.out.1];rfl,Fa HB.out HK.out⟩
   have Xh:decide (x < (za.length:Int))=true:=decide_eq_true hlt;have jJ:=aa.mk (And.intro hx0 hlt);obtain ⟨ad,Ac,cc,e1,k0,k1,k2,k3,k4,Y6,Z6⟩:=Nk (Kd.yb CY.out HK.out) x hx0 hlt;subst e1;have oO:x.toNat < za.length:=by omega
   have K2:Ga za x=za[x.toNat]:=by simp [Ga,List.getD_eq_getElem?_getD,oO]
   have BO:yc (za.take (x + 1).toNat)=yc (za.take x.toNat) + (Ga za x).f0.length:=by
    rw [show (x + 1).toNat=x.toNat + 1 by omega,Wp za _ oO,K2]
   have jE:=aa.mk (show (za.take (x + 1).toNat).any (fun y=>!eo Ma Oa za y) = !eo Ma Oa za (Ga za x) by
    rw [show (x + 1).toNat=x.toNat + 1 by omega,List.take_succ_eq_append_getElem oO,List.any_append,HE.2,List.any_cons,List.any_nil,K2]
    simp)
   have tS:yc (za.take (x + 1).toNat) ≤ 1048576:=Nat.le_trans (yp _ _) HST.out;have E5:=aa.mk BO;have tN:=aa.mk Y6;have HKC:=aa.mk Z6;have hkn:(Ga za x).f0.length ≤ 1048576:=by omega
   clear HT HE K2 oO Y6 Z6
   go_upto_region 13 with (fail)
   by_cases Y2:yc (za.take (x + 1).toNat) ≤ 1000
   case neg =>
    have hkb:decide ((yc (za.take x.toNat):Int) + ((Ga za x).f0.length:Int) > 1000)=true:=decide_eq_true (by omega)
    have HRF:=aa.mk (show r=false by
     rw [← HR.out,decide_eq_false (show ¬ yc za ≤ 1000 by have:=yp za (x + 1).toNat;omega)]
     simp)
    clear BO tS Y2
    go_quiet (fail)
    go_wp2;go_ret;exact ⟨by rw [HRF.out];rfl,by repeat (first|exact Fa HB.out HK.out|apply ga|apply ja)⟩
   have hkb:decide ((yc (za.take x.toNat):Int) + ((Ga za x).f0.length:Int) > 1000)=false:=decide_eq_false (by omega);have H1K:=aa.mk Y2;have rV:=aa.mk (ja HK.out);have sV:=aa.mk (show Kd.C fe wr.drew Ac _ _ from HKC.out);clear BO tS Y2 HKC;refine Pj (n:=12) (S:=fun w'=>w'.cell? ⟨w.heap.size,0,none⟩=some (.slice Bb Ma.length Ab)∧w'.cell? ⟨w.heap.size,1,none⟩=some (.int .i64 Pa)∧w'.cell? ⟨w.heap.size,2,none⟩=some (.int .i64 Qa)∧w'.cell? ⟨w.heap.size,3,none⟩=some (.int .i64 Oa)∧w'.cell? ⟨w.heap.size,4,none⟩=some (.slice (some ad) za.length Gb)∧w'.cell? (ad.add (x.toNat * 5))=some (.slice Ac (Ga za x).f0.length cc)∧w'.cell? ⟨(ad.add (x.toNat * 5)).block,(ad.add (x.toNat * 5)).off + 1,none⟩=some (.int .i64 (Ga za x).f1)∧w'.cell? ⟨(ad.add (x.toNat * 5)).block,(ad.add (x.toNat * 5)).off + 2,none⟩=some (.int .i64 (Ga za x).f2)∧w'.cell? ⟨(ad.add (x.toNat * 5)).block,(ad.add (x.toNat * 5)).off + 3,none⟩=some (.int .i64 (Ga za x).f3)∧w'.cell? ⟨(ad.add (x.toNat * 5)).block,(ad.add (x.toNat * 5)).off + 4,none⟩=some (.int .i64 (Ga za x).f4)) (ds:=[9]) #[false,false,false,false,false,false,false,false,false,false,false,false] (by kernel_rfl) rfl rfl ⟨g0,g1,g2,g3,g4,k0,k1,k2,k3,k4⟩ (fun hHeld=>?_);generalize wr.drew=wd at rV sV hHeld ⊢;refine Dc (i:=0) (N:=some 75) (v:=?_) (a':=?_) #[true,false,false,false,false,false,false,false,false,false,false,false] rfl rfl (by kernel_rfl) (fun _ _ _ h=>h) (Or.inl ⟨by rfl,?_⟩) ?_ ?_;rotate_left
   ·exact Rae
   rotate_left
   ·exact Qae
   refine Dc (i:=1) (N:=some 76) (v:=?_) (a':=?_) #[true,true,false,false,false,false,false,false,false,false,false,false] rfl rfl (by kernel_rfl) (fun _ _ _ h=>h) (Or.inl ⟨by rfl,?_⟩) ?_ ?_;rotate_left
   ·exact Rae
   rotate_left
   ·exact Qae
   refine Dc (i:=2) (N:=some 77) (v:=?_) (a':=?_) #[true,true,true,false,false,false,false,false,false,false,false,false] rfl rfl (by kernel_rfl) (fun _ _ _ h=>h) (Or.inl ⟨by rfl,?_⟩) ?_ ?_;rotate_left
   ·exact Rae
   rotate_left
   ·exact Qae
   refine Dc (i:=4) (N:=some 79) (v:=?_) (a':=?_) #[true,true,true,false,true,false,false,false,false,false,false,false] rfl rfl (by kernel_rfl) (fun _ _ _ h=>h) (Or.inl ⟨by rfl,?_⟩) ?_ ?_;rotate_left
   ·exact Rae
   rotate_left
   ·exact Qae
   refine Dc (i:=6) (N:=some 81) (v:=?_) (a':=?_) #[true,true,true,false,true,false,true,false,false,false,false,false] rfl rfl (by kernel_rfl) (fun _ _ _ h=>h) (Or.inl ⟨by rfl,?_⟩) ?_ ?_;rotate_left
   ·exact Rae
   rotate_left
   ·exact Qae
   refine ah (i:=3) (N:=some 78) (v:=?_) (a':=?_) #[true,true,true,true,true,false,true,false,false,false,false,false] rfl rfl (by kernel_rfl) (fun _ _ _ h=>h) (Or.inl ⟨by rfl,?_⟩) hHeld ?_ ?_;rotate_left
   ·exact Uae
   rotate_left
   ·exact Qae
   refine ah (i:=5) (N:=some 80) (v:=?_) (a':=?_) #[true,true,true,true,true,true,true,false,false,false,false,false] rfl rfl (by kernel_rfl) (fun _ _ _ h=>h) (Or.inl ⟨by rfl,?_⟩) hHeld ?_ ?_;rotate_left
   ·exact Uae
   rotate_left
   ·exact Qae
   refine Dc (i:=7) (N:=some 82) (v:=?_) (a':=?_) #[true,true,true,true,true,true,true,true,false,false,false,false] rfl rfl (by kernel_rfl) (fun _ _ _ h=>h) (Or.inl ⟨by rfl,?_⟩) ?_ ?_;rotate_left
   ·exact Rae
   rotate_left
   ·exact Qae
   refine ah (i:=8) (N:=some 83) (v:=?_) (a':=?_) #[true,true,true,true,true,true,true,true,true,false,false,false] rfl rfl (by kernel_rfl) (fun _ _ _ h=>h) (Or.inl ⟨by rfl,?_⟩) hHeld ?_ ?_;rotate_left
   ·exact Uae
   rotate_left
   ·exact Qae
   refine Ts (i:=9) (N:=some 84) #[true,true,true,true,true,true,true,true,true,true,false,false] rfl rfl (by kernel_rfl) (by decide) (fun K hK=>?_);refine Oq Try.func101 (by kernel_rfl) rfl #[.agg #[.slice Bb Ma.length Ab,.int .i64 Pa,.int .i64 Qa,.int .i64 Oa,.slice (some ad) za.length Gb],.agg #[.slice Ac (Ga za x).f0.length cc,.int .i64 (Ga za x).f1,.int .i64 (Ga za x).f2,.int .i64 (Ga za x).f3,.int .i64 (Ga za x).f4]] (by rfl) rfl rfl Faf ?_;with_reducible refine (Gy Bb (some ad) Ac Ab Gb cc Ma.length za.length Pa Qa Oa _ _ _ _ _ wd hn0 Nu HS.out sV.out tN.out).mono ?_
   rintro e w2 ⟨rfl,hb⟩;refine ⟨_,rfl,?_⟩;have zk:=aa.mk (Fa rV.out hb);clear hb;refine hK.out _ _ ?_;clear hK K;refine Ze (a':=?_) ?_ ?_;rotate_left
   ·show Act.put _ (some 84) _=_
    exact Qae
   refine Dc (i:=10) (N:=some 85) (v:=?_) (a':=?_) #[true,true,true,true,true,true,true,true,true,true,true,false] rfl rfl (by kernel_rfl) (fun _ _ _ h=>h) (Or.inl ⟨by rfl,?_⟩) ?_ ?_;rotate_left
   ·exact Rae
   rotate_left
   ·exact Qae
   refine Dc (i:=11) (N:=some 86) (v:=?_) (a':=?_) #[true,true,true,true,true,true,true,true,true,true,true,true] rfl rfl (by kernel_rfl) (fun _ _ _ h=>h) (Or.inl ⟨by rfl,?_⟩) ?_ ?_;rotate_left
   ·exact Rae
   rotate_left
   ·exact Qae
   refine Ym (by kernel_rfl) ?_;clear hHeld g0 g1 g2 g3 g4 k0 k1 k2 k3 k4
   change aa (_ = !Ti _ _ _ _ _ _ _ _) at jE
   generalize Ti Ma.length Oa za.length (Ga za x).f0 (Ga za x).f1 (Ga za x).f2 (Ga za x).f3 (Ga za x).f4=q at jE ⊢;cases q with
   | true =>
    go_wp2
    go_roundg (za.length - (x + 1).toNat)
    case measure=>have:=jJ.out;omega
    case rel=>exact ⟨x + 1,by rw [E5.out];rfl,rfl,by omega,by omega,by omega,⟨H1K.out,jE.out⟩,zk⟩
   | false =>
    have QV:=aa.mk (show za.any (fun y=>!eo Ma Oa za y)=true by
     have h:_=true:=jE.out;rw [List.any_eq_true] at h ⊢;obtain ⟨y,hy,hy2⟩:=h
     exact ⟨y,List.mem_of_mem_take hy,hy2⟩)
    go_wp2;go_ret;exact ⟨by rw [← HR.out,QV.out];rfl,Fa HB.out zk.out⟩
end Go.Proofs.Ytoomcmaifgkkfaa.P
end
