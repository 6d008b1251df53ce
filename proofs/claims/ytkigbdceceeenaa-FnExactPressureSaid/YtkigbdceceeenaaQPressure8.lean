import Derived.Test.YtkigbdceceeenaaQPressure1
import Derived.Test.YtkigbdceceeenaaQPressure7
import Derived.Shelf.Abstract
import Derived.Outline
import Derived.RegionTactic
import Derived.Deep.QuietTactic
import Derived.BigQuiet
set_option maxHeartbeats 8000000
set_option maxRecDepth 100000
section
namespace Go.Proofs.Ytkigbdceceeenaa.P
open Go.RowKit Go.Proofs.Oa.Wb Go.Proofs.Oa.Vd Go.Proofs.Oa.Xe
set_option linter.unusedVariables false
set_option linter.unusedSimpArgs false
attribute [local go_sem] bh Gh Ki Cj Mg Lg Hh Fh
def Dc.l0:Nat→List (Ce)→List (Ce)→Int→Option (Bool)
 | 0,_,_,_=>none
 | k + 1,x0,x1,x5=>if x5 < (x0.length:Int) then (if 0 ≤ x5 then (if x5 < (x1.length:Int) then ((Ej.f k ((Aa x0 x5).f0) ((Aa x0 x5).f1) ((Aa x0 x5).f2) ((Aa x0 x5).f3) ((Aa x0 x5).f4) ((Aa x1 x5).f0) ((Aa x1 x5).f1) ((Aa x1 x5).f2) ((Aa x1 x5).f3) ((Aa x1 x5).f4)).bind fun t103=>(if t103=true then (Dc.l0 k x0 x1 (wrap64 (x5 + 1))) else (some false))) else (none)) else (none)) else (some true)
def Dc.f (k:Nat) (l0:List (Ce)) (l1:List (Ce)):Option (Bool):=if (l0.length:Int)=(l1.length:Int) then (Dc.l0 k l0 l1 0) else (some false)
def Dc.T6:Bool × List (List Nat × List Nat):=(true,[([],[]),([],[]),([0,1],[0,1]),([2],[2]),([],[]),([],[]),([4,5],[4,5]),([6],[6]),([3,7],[3,7]),([8],[8])])
def Dc.B6:List Nat:=[0,0,3,7,0,0,48,112,255,511]
theorem Dc.NP:bn .any (opsOf Try.f52 6)=Dc.T6:=by kernel_rfl
theorem Dc.jI:vn Dc.T6.2 Dc.B6=true:=by kernel_rfl
theorem Dc.calls (k:Nat) (A0:Option Addr) (c0:Nat) (l0:List (Ce)) (A1:Option Addr) (c1:Nat) (l1:List (Ce)) (r:Bool) (w:World) (Rk:Kd.C Mt w A0 l0.length l0) (hc0:l0.length ≤ c0) (Ht:Kd.C Mt w A1 l1.length l1) (Tt:l1.length ≤ c1) (h:Dc.f k l0 l1=some r) :
  Calls Try.prog 52 #[.slice A0 l0.length c0,.slice A1 l1.length c1] w fun e w'=>e = .returned (.bool r)∧Below w.heap.size w w':=by
 have mz:=Try.underlying59;have sn:=ja.mk Rk;have rI:=ja.mk hc0;clear Rk hc0;have kD:=ja.mk Ht;have GS:=ja.mk Tt;clear Ht Tt;have HB:=ja.mk (Below.refl w.heap.size w);have H:(if (l0.length:Int)=(l1.length:Int) then (Dc.l0 k l0 l1 0) else (some false))=some r:=h;clear h
 by_cases c3:(l0.length:Int)=(l1.length:Int)
 ·rw [if_pos c3] at H;have Nh:((l0.length:Int) == (l1.length:Int))=true:=beq_iff_eq.mpr c3;have ct:((l0.length:Int) != (l1.length:Int))=false:=bne_eq_false_iff_eq.mpr c3;have YC:(l0.length == l1.length)=true:=by first|simpa using c3|(simp at c3 ⊢;omega)
  clear c3;have H':=ja.mk H;clear H;go_enter Try.func52,Try.ntmps52;go_wp2
  go_loopg [5] k (fun kq v5 w'=>∃ (Ra:Int),v5 = .int .i64 Ra∧ja (Dc.l0 kq l0 l1 Ra=some r)∧ja (kq ≤ k)∧ja (Below w.heap.size w w'))
  case atStart=>exact ⟨(0),(by first|rfl|(simp;done)|(simp [*];done)),H',⟨Nat.le_refl _⟩,⟨by repeat (first|(with_reducible first|exact HB.out|apply qa|apply ia|apply ta)|exact HB.out)⟩⟩
  case round =>
   clear H'
   try clear c1
   try clear p2
   try clear c3
   try clear Nh
   try clear ct
   try clear YC
   (try clear HA);(try clear lg);(try clear HB);obtain ⟨Ra,rfl,HA,lg,HB⟩:=hrel;cases gk with
   | zero=>exact absurd HA.out (by simp [Dc.l0])
   | succ k1 =>
    have H:=HA.out;clear HA;simp only [Dc.l0] at H
    by_cases c4:Ra < (l0.length:Int)
    ·rw [if_pos c4] at H;have Mk:decide (Ra < (l0.length:Int))=true:=decide_eq_true c4;clear c4
     by_cases c5:0 ≤ Ra
     ·rw [if_pos c5] at H;have sj:decide (0 ≤ Ra)=true:=decide_eq_true c5;clear c5
      by_cases c6:Ra < (l1.length:Int)
      ·rw [if_pos c6] at H;have Vm:decide (Ra < (l1.length:Int))=true:=decide_eq_true c6;clear c6;replace H:=Option.bind_eq_some_iff.mp H;obtain ⟨t103,CI,H⟩:=H;replace H:(if t103=true then (Dc.l0 k1 l0 l1 (wrap64 (Ra + 1))) else (some false))=some r:=H;have A7:=ja.mk CI;clear CI
       by_cases c8:t103=true
       ·subst c8;have H1:(Dc.l0 k1 l0 l1 (wrap64 (Ra + 1)))=some r:=by rw [if_pos rfl] at H;exact H
        clear H;have H:=H1;clear H1;have H':=ja.mk H;clear H
        try go_wp2
        have Fb:=ja.mk (ta HB.out);clear HB;have HB:=Fb;clear Fb;have lf:0 ≤ (Ra:Int):=Wa;have kf:Ra < (l0.length:Int):=Wa;obtain ⟨ie,Ft,jt,wj,Nd,Pe,Oe,Me,Le,Jl,Kl⟩:=ki sn.out Ra lf kf;have Dl:=Le;have El:=Me;have Fl:=Oe;have Gl:=Pe;have Hl:=Nd;cases wj;replace Nd:=Na HB.out Nd;replace Pe:=Na HB.out Pe;replace Oe:=Na HB.out Oe;replace Me:=Na HB.out Me;replace Le:=Na HB.out Le;have wo:=ja.mk Kl;have Dt:=ja.mk Jl;clear Kl Jl;replace lf:=eq_true lf;replace kf:=eq_true kf;have Eh:0 ≤ (Ra:Int):=Wa;have Dh:Ra < (l1.length:Int):=Wa;obtain ⟨Ie,uD,eD,Zs,Ke,Hg,Gg,Fg,Eg,xx,Bx⟩:=ki kD.out Ra Eh Dh;have vl:=Eg;have zl:=Fg;have Al:=Gg;have Bl:=Hg;have Cl:=Ke;cases Zs;replace Ke:=Na HB.out Ke;replace Hg:=Na HB.out Hg;replace Gg:=Na HB.out Gg;replace Fg:=Na HB.out Fg;replace Eg:=Na HB.out Eg;have Sy:=ja.mk Bx;have ZG:=ja.mk xx;clear Bx xx;replace Eh:=eq_true Eh;replace Dh:=eq_true Dh;refine fl (n:=10) (S:=fun w'=>w'.cell? (ie.add ((Ra).toNat * 5))=some (.slice Ft ((Aa l0 Ra).f0).length jt)∧w'.cell? ⟨(ie.add ((Ra).toNat * 5)).block,(ie.add ((Ra).toNat * 5)).off + 1,none⟩=some (.int .i64 ((Aa l0 Ra).f1))∧w'.cell? ⟨(ie.add ((Ra).toNat * 5)).block,(ie.add ((Ra).toNat * 5)).off + 2,none⟩=some (.int .i64 ((Aa l0 Ra).f2))∧w'.cell? ⟨(ie.add ((Ra).toNat * 5)).block,(ie.add ((Ra).toNat * 5)).off + 3,none⟩=some (.int .i64 ((Aa l0 Ra).f3))∧w'.cell? ⟨(ie.add ((Ra).toNat * 5)).block,(ie.add ((Ra).toNat * 5)).off + 4,none⟩=some (.int .i64 ((Aa l0 Ra).f4))∧w'.cell? (Ie.add ((Ra).toNat * 5))=some (.slice uD ((Aa l1 Ra).f0).length eD)∧w'.cell? ⟨(Ie.add ((Ra).toNat * 5)).block,(Ie.add ((Ra).toNat * 5)).off + 1,none⟩=some (.int .i64 ((Aa l1 Ra).f1))∧w'.cell? ⟨(Ie.add ((Ra).toNat * 5)).block,(Ie.add ((Ra).toNat * 5)).off + 2,none⟩=some (.int .i64 ((Aa l1 Ra).f2))∧w'.cell? ⟨(Ie.add ((Ra).toNat * 5)).block,(Ie.add ((Ra).toNat * 5)).off + 3,none⟩=some (.int .i64 ((Aa l1 Ra).f3))∧w'.cell? ⟨(Ie.add ((Ra).toNat * 5)).block,(Ie.add ((Ra).toNat * 5)).off + 4,none⟩=some (.int .i64 ((Aa l1 Ra).f4))) (ds:=[]) #[false,false,false,false,false,false,false,false,false,false] (by kernel_rfl) rfl rfl ⟨(Na HB.out Hl),(Na HB.out Gl),(Na HB.out Fl),(Na HB.out El),(Na HB.out Dl),(Na HB.out Cl),(Na HB.out Bl),(Na HB.out Al),(Na HB.out zl),(Na HB.out vl)⟩ (fun hHeld=>?_);refine Ci Dc.NP Dc.jI (fun Pf jv=>?_);generalize wr.drew=w9 at HB wo Sy Nd Pe Oe Me Le Ke Hg Gg Fg Eg hHeld ⊢;refine Wc (i:=0) (N:=some 17) (v:=?_) (a':=?_) #[true,false,false,false,false,false,false,false,false,false] rfl rfl (Sc Pf.out (by kernel_rfl)) (fun _ _ _ h=>h) (Or.inl ⟨by rfl,?_⟩) ?_ ?_;rotate_left
        ·intro w';go_simp;with_reducible rfl
        rotate_left
        ·simp only [Act.put,List.setIfInBounds_toArray,List.set_cons_zero,List.set_cons_succ,Xb,Yb]
         rfl
        refine Wc (i:=1) (N:=some 18) (v:=?_) (a':=?_) #[true,true,false,false,false,false,false,false,false,false] rfl rfl (Sc Pf.out (by kernel_rfl)) (fun _ _ _ h=>h) (Or.inl ⟨by rfl,?_⟩) ?_ ?_;rotate_left
        ·intro w';go_simp;with_reducible rfl
        rotate_left
        ·simp only [Act.put,List.setIfInBounds_toArray,List.set_cons_zero,List.set_cons_succ,Xb,Yb]
         rfl
        refine Wc (i:=2) (N:=some 19) (v:=?_) (a':=?_) #[true,true,true,false,false,false,false,false,false,false] rfl rfl (Sc Pf.out (by kernel_rfl)) (fun _ _ _ h=>h) (Or.inl ⟨by rfl,?_⟩) ?_ ?_;rotate_left
        ·intro w';go_simp;with_reducible rfl
        rotate_left
        ·simp only [Act.put,List.setIfInBounds_toArray,List.set_cons_zero,List.set_cons_succ,Xb,Yb]
         rfl
        refine Wc (i:=4) (N:=some 21) (v:=?_) (a':=?_) #[true,true,true,false,true,false,false,false,false,false] rfl rfl (Sc Pf.out (by kernel_rfl)) (fun _ _ _ h=>h) (Or.inl ⟨by rfl,?_⟩) ?_ ?_;rotate_left
        ·intro w';go_simp;with_reducible rfl
        rotate_left
        ·simp only [Act.put,List.setIfInBounds_toArray,List.set_cons_zero,List.set_cons_succ,Xb,Yb]
         rfl
        refine Wc (i:=5) (N:=some 22) (v:=?_) (a':=?_) #[true,true,true,false,true,true,false,false,false,false] rfl rfl (Sc Pf.out (by kernel_rfl)) (fun _ _ _ h=>h) (Or.inl ⟨by rfl,?_⟩) ?_ ?_;rotate_left
        ·intro w';go_simp;with_reducible rfl
        rotate_left
        ·simp only [Act.put,List.setIfInBounds_toArray,List.set_cons_zero,List.set_cons_succ,Xb,Yb]
         rfl
        refine Wc (i:=6) (N:=some 23) (v:=?_) (a':=?_) #[true,true,true,false,true,true,true,false,false,false] rfl rfl (Sc Pf.out (by kernel_rfl)) (fun _ _ _ h=>h) (Or.inl ⟨by rfl,?_⟩) ?_ ?_;rotate_left
        ·intro w';go_simp;with_reducible rfl
        rotate_left
        ·simp only [Act.put,List.setIfInBounds_toArray,List.set_cons_zero,List.set_cons_succ,Xb,Yb]
         rfl
        refine ug (i:=3) (N:=some 20) (v:=?_) (a':=?_) #[true,true,true,true,true,true,true,false,false,false] rfl rfl (Ue Pf.out jv.out (by kernel_rfl)) (fun _ _ _ h=>h) (Or.inl ⟨by rfl,?_⟩) hHeld ?_ ?_;rotate_left
        ·rintro w' ⟨s0,s1,s2,s3,s4,s5,s6,s7,s8,s9⟩;go_simp;with_reducible rfl
        rotate_left
        ·simp only [Act.put,List.setIfInBounds_toArray,List.set_cons_zero,List.set_cons_succ,Xb,Yb]
         rfl
        refine ug (i:=7) (N:=some 24) (v:=?_) (a':=?_) #[true,true,true,true,true,true,true,true,false,false] rfl rfl (Ue Pf.out jv.out (by kernel_rfl)) (fun _ _ _ h=>h) (Or.inl ⟨by rfl,?_⟩) hHeld ?_ ?_;rotate_left
        ·rintro w' ⟨s0,s1,s2,s3,s4,s5,s6,s7,s8,s9⟩;go_simp;with_reducible rfl
        rotate_left
        ·simp only [Act.put,List.setIfInBounds_toArray,List.set_cons_zero,List.set_cons_succ,Xb,Yb]
         rfl
        refine Qv (i:=8) (N:=some 25) #[true,true,true,true,true,true,true,true,true,false] rfl rfl (br Pf.out (by kernel_rfl)) (by decide) (fun K hK=>?_);refine Ko Try.func82 (by kernel_rfl) rfl #[.agg #[.slice Ft ((Aa l0 Ra).f0).length jt,.int .i64 ((Aa l0 Ra).f1),.int .i64 ((Aa l0 Ra).f2),.int .i64 ((Aa l0 Ra).f3),.int .i64 ((Aa l0 Ra).f4)],.agg #[.slice uD ((Aa l1 Ra).f0).length eD,.int .i64 ((Aa l1 Ra).f1),.int .i64 ((Aa l1 Ra).f2),.int .i64 ((Aa l1 Ra).f3),.int .i64 ((Aa l1 Ra).f4)]] (by rfl) rfl rfl (by (try simp only [List.map_toArray,List.map_cons,List.map_nil]);first|done|rfl|(simp only [List.length_drop,List.length_take];rfl)) ?_;with_reducible refine (Ej.calls k1 _ _ ((Aa l0 Ra).f0) ((Aa l0 Ra).f1) ((Aa l0 Ra).f2) ((Aa l0 Ra).f3) ((Aa l0 Ra).f4) _ _ ((Aa l1 Ra).f0) ((Aa l1 Ra).f1) ((Aa l1 Ra).f2) ((Aa l1 Ra).f3) ((Aa l1 Ra).f4) true _ ?yc ?uc ?ud ?td A7.out).mono ?_
        (case yc=>repeat (first|exact (Kd.Ob wo.out HB.out)|(with_reducible refine Kd.Pb ?_ _)|(with_reducible refine Kd.Nb ?_ _)|(with_reducible refine Kd.Zb ?_)))
        (case uc=>exact Dt.out)
        (case ud=>repeat (first|exact (Kd.Ob Sy.out HB.out)|(with_reducible refine Kd.Pb ?_ _)|(with_reducible refine Kd.Nb ?_ _)|(with_reducible refine Kd.Zb ?_)))
        (case td=>exact ZG.out)
        rintro e Lt ⟨rfl,hb⟩;refine ⟨_,rfl,?_⟩;have Fb:=ja.mk (Qa (by repeat (first|(with_reducible first|exact HB.out|apply qa|apply ia|apply ta)|exact HB.out)) hb);clear HB;have HB:=Fb;clear Fb;(try clear hb);(try clear Hi);(try clear hk);(try clear hi);refine hK.out _ _ ⟨(Na HB.out Hl),(Na HB.out Gl),(Na HB.out Fl),(Na HB.out El),(Na HB.out Dl),(Na HB.out Cl),(Na HB.out Bl),(Na HB.out Al),(Na HB.out zl),(Na HB.out vl)⟩ (fun hHeld=>?_);clear hK K;refine Eo (a':=?_) ?_ ?_;rotate_left
        ·show Act.put _ (some 25) _=_
         simp only [Act.put,List.setIfInBounds_toArray,List.set_cons_zero,List.set_cons_succ,Xb,Yb]
         rfl
        refine Wc (i:=9) (N:=some 26) (v:=?_) (a':=?_) #[true,true,true,true,true,true,true,true,true,true] rfl rfl (Sc Pf.out (by kernel_rfl)) (fun _ _ _ h=>h) (Or.inl ⟨by rfl,?_⟩) ?_ ?_;rotate_left
        ·intro w';go_simp;with_reducible rfl
        rotate_left
        ·simp only [Act.put,List.setIfInBounds_toArray,List.set_cons_zero,List.set_cons_succ,Xb,Yb]
         rfl
        refine Tp (Mm Pf.out (by kernel_rfl)) ?_
        try go_wp2
        go_roundg k1
        case measure=>have:=lg.out;omega
        case rel=>exact ⟨(wrap64 (Ra + 1)),(by first|rfl|(simp;done)|(simp [*];done)),H',⟨by have:=lg.out;omega⟩,⟨by repeat (first|(with_reducible first|exact HB.out|apply qa|apply ia|apply ta)|exact HB.out)⟩⟩
       ·replace c8:=Bool.eq_false_iff.mpr c8;subst c8;have H1:(some false)=some r:=by rw [if_neg (show ¬ (false=true) by decide)] at H;exact H
        clear H;have H:=H1;clear H1;obtain rfl:=Option.some.inj H
        try go_wp2
        have Fb:=ja.mk (ta HB.out);clear HB;have HB:=Fb;clear Fb;have lf:0 ≤ (Ra:Int):=Wa;have kf:Ra < (l0.length:Int):=Wa;obtain ⟨ie,Ft,jt,wj,Nd,Pe,Oe,Me,Le,Jl,Kl⟩:=ki sn.out Ra lf kf;have Dl:=Le;have El:=Me;have Fl:=Oe;have Gl:=Pe;have Hl:=Nd;cases wj;replace Nd:=Na HB.out Nd;replace Pe:=Na HB.out Pe;replace Oe:=Na HB.out Oe;replace Me:=Na HB.out Me;replace Le:=Na HB.out Le;have wo:=ja.mk Kl;have Dt:=ja.mk Jl;clear Kl Jl;replace lf:=eq_true lf;replace kf:=eq_true kf;have Eh:0 ≤ (Ra:Int):=Wa;have Dh:Ra < (l1.length:Int):=Wa;obtain ⟨Ie,uD,eD,Zs,Ke,Hg,Gg,Fg,Eg,xx,Bx⟩:=ki kD.out Ra Eh Dh;have vl:=Eg;have zl:=Fg;have Al:=Gg;have Bl:=Hg;have Cl:=Ke;cases Zs;replace Ke:=Na HB.out Ke;replace Hg:=Na HB.out Hg;replace Gg:=Na HB.out Gg;replace Fg:=Na HB.out Fg;replace Eg:=Na HB.out Eg;have Sy:=ja.mk Bx;have ZG:=ja.mk xx;clear Bx xx;replace Eh:=eq_true Eh;replace Dh:=eq_true Dh;refine fl (n:=10) (S:=fun w'=>w'.cell? (ie.add ((Ra).toNat * 5))=some (.slice Ft ((Aa l0 Ra).f0).length jt)∧w'.cell? ⟨(ie.add ((Ra).toNat * 5)).block,(ie.add ((Ra).toNat * 5)).off + 1,none⟩=some (.int .i64 ((Aa l0 Ra).f1))∧w'.cell? ⟨(ie.add ((Ra).toNat * 5)).block,(ie.add ((Ra).toNat * 5)).off + 2,none⟩=some (.int .i64 ((Aa l0 Ra).f2))∧w'.cell? ⟨(ie.add ((Ra).toNat * 5)).block,(ie.add ((Ra).toNat * 5)).off + 3,none⟩=some (.int .i64 ((Aa l0 Ra).f3))∧w'.cell? ⟨(ie.add ((Ra).toNat * 5)).block,(ie.add ((Ra).toNat * 5)).off + 4,none⟩=some (.int .i64 ((Aa l0 Ra).f4))∧w'.cell? (Ie.add ((Ra).toNat * 5))=some (.slice uD ((Aa l1 Ra).f0).length eD)∧w'.cell? ⟨(Ie.add ((Ra).toNat * 5)).block,(Ie.add ((Ra).toNat * 5)).off + 1,none⟩=some (.int .i64 ((Aa l1 Ra).f1))∧w'.cell? ⟨(Ie.add ((Ra).toNat * 5)).block,(Ie.add ((Ra).toNat * 5)).off + 2,none⟩=some (.int .i64 ((Aa l1 Ra).f2))∧w'.cell? ⟨(Ie.add ((Ra).toNat * 5)).block,(Ie.add ((Ra).toNat * 5)).off + 3,none⟩=some (.int .i64 ((Aa l1 Ra).f3))∧w'.cell? ⟨(Ie.add ((Ra).toNat * 5)).block,(Ie.add ((Ra).toNat * 5)).off + 4,none⟩=some (.int .i64 ((Aa l1 Ra).f4))) (ds:=[]) #[false,false,false,false,false,false,false,false,false,false] (by kernel_rfl) rfl rfl ⟨(Na HB.out Hl),(Na HB.out Gl),(Na HB.out Fl),(Na HB.out El),(Na HB.out Dl),(Na HB.out Cl),(Na HB.out Bl),(Na HB.out Al),(Na HB.out zl),(Na HB.out vl)⟩ (fun hHeld=>?_);refine Ci Dc.NP Dc.jI (fun Pf jv=>?_);generalize wr.drew=Xj at HB wo Sy Nd Pe Oe Me Le Ke Hg Gg Fg Eg hHeld ⊢;refine Wc (i:=0) (N:=some 17) (v:=?_) (a':=?_) #[true,false,false,false,false,false,false,false,false,false] rfl rfl (Sc Pf.out (by kernel_rfl)) (fun _ _ _ h=>h) (Or.inl ⟨by rfl,?_⟩) ?_ ?_;rotate_left
        ·intro w';go_simp;with_reducible rfl
        rotate_left
        ·simp only [Act.put,List.setIfInBounds_toArray,List.set_cons_zero,List.set_cons_succ,Xb,Yb]
         rfl
        refine Wc (i:=1) (N:=some 18) (v:=?_) (a':=?_) #[true,true,false,false,false,false,false,false,false,false] rfl rfl (Sc Pf.out (by kernel_rfl)) (fun _ _ _ h=>h) (Or.inl ⟨by rfl,?_⟩) ?_ ?_;rotate_left
        ·intro w';go_simp;with_reducible rfl
        rotate_left
        ·simp only [Act.put,List.setIfInBounds_toArray,List.set_cons_zero,List.set_cons_succ,Xb,Yb]
         rfl
        refine Wc (i:=2) (N:=some 19) (v:=?_) (a':=?_) #[true,true,true,false,false,false,false,false,false,false] rfl rfl (Sc Pf.out (by kernel_rfl)) (fun _ _ _ h=>h) (Or.inl ⟨by rfl,?_⟩) ?_ ?_;rotate_left
        ·intro w';go_simp;with_reducible rfl
        rotate_left
        ·simp only [Act.put,List.setIfInBounds_toArray,List.set_cons_zero,List.set_cons_succ,Xb,Yb]
         rfl
        refine Wc (i:=4) (N:=some 21) (v:=?_) (a':=?_) #[true,true,true,false,true,false,false,false,false,false] rfl rfl (Sc Pf.out (by kernel_rfl)) (fun _ _ _ h=>h) (Or.inl ⟨by rfl,?_⟩) ?_ ?_;rotate_left
        ·intro w';go_simp;with_reducible rfl
        rotate_left
        ·simp only [Act.put,List.setIfInBounds_toArray,List.set_cons_zero,List.set_cons_succ,Xb,Yb]
         rfl
        refine Wc (i:=5) (N:=some 22) (v:=?_) (a':=?_) #[true,true,true,false,true,true,false,false,false,false] rfl rfl (Sc Pf.out (by kernel_rfl)) (fun _ _ _ h=>h) (Or.inl ⟨by rfl,?_⟩) ?_ ?_;rotate_left
        ·intro w';go_simp;with_reducible rfl
        rotate_left
        ·simp only [Act.put,List.setIfInBounds_toArray,List.set_cons_zero,List.set_cons_succ,Xb,Yb]
         rfl
        refine Wc (i:=6) (N:=some 23) (v:=?_) (a':=?_) #[true,true,true,false,true,true,true,false,false,false] rfl rfl (Sc Pf.out (by kernel_rfl)) (fun _ _ _ h=>h) (Or.inl ⟨by rfl,?_⟩) ?_ ?_;rotate_left
        ·intro w';go_simp;with_reducible rfl
        rotate_left
        ·simp only [Act.put,List.setIfInBounds_toArray,List.set_cons_zero,List.set_cons_succ,Xb,Yb]
         rfl
        refine ug (i:=3) (N:=some 20) (v:=?_) (a':=?_) #[true,true,true,true,true,true,true,false,false,false] rfl rfl (Ue Pf.out jv.out (by kernel_rfl)) (fun _ _ _ h=>h) (Or.inl ⟨by rfl,?_⟩) hHeld ?_ ?_;rotate_left
        ·rintro w' ⟨s0,s1,s2,s3,s4,s5,s6,s7,s8,s9⟩;go_simp;with_reducible rfl
        rotate_left
        ·simp only [Act.put,List.setIfInBounds_toArray,List.set_cons_zero,List.set_cons_succ,Xb,Yb]
         rfl
        refine ug (i:=7) (N:=some 24) (v:=?_) (a':=?_) #[true,true,true,true,true,true,true,true,false,false] rfl rfl (Ue Pf.out jv.out (by kernel_rfl)) (fun _ _ _ h=>h) (Or.inl ⟨by rfl,?_⟩) hHeld ?_ ?_;rotate_left
        ·rintro w' ⟨s0,s1,s2,s3,s4,s5,s6,s7,s8,s9⟩;go_simp;with_reducible rfl
        rotate_left
        ·simp only [Act.put,List.setIfInBounds_toArray,List.set_cons_zero,List.set_cons_succ,Xb,Yb]
         rfl
        refine Qv (i:=8) (N:=some 25) #[true,true,true,true,true,true,true,true,true,false] rfl rfl (br Pf.out (by kernel_rfl)) (by decide) (fun K hK=>?_);refine Ko Try.func82 (by kernel_rfl) rfl #[.agg #[.slice Ft ((Aa l0 Ra).f0).length jt,.int .i64 ((Aa l0 Ra).f1),.int .i64 ((Aa l0 Ra).f2),.int .i64 ((Aa l0 Ra).f3),.int .i64 ((Aa l0 Ra).f4)],.agg #[.slice uD ((Aa l1 Ra).f0).length eD,.int .i64 ((Aa l1 Ra).f1),.int .i64 ((Aa l1 Ra).f2),.int .i64 ((Aa l1 Ra).f3),.int .i64 ((Aa l1 Ra).f4)]] (by rfl) rfl rfl (by (try simp only [List.map_toArray,List.map_cons,List.map_nil]);first|done|rfl|(simp only [List.length_drop,List.length_take];rfl)) ?_;with_reducible refine (Ej.calls k1 _ _ ((Aa l0 Ra).f0) ((Aa l0 Ra).f1) ((Aa l0 Ra).f2) ((Aa l0 Ra).f3) ((Aa l0 Ra).f4) _ _ ((Aa l1 Ra).f0) ((Aa l1 Ra).f1) ((Aa l1 Ra).f2) ((Aa l1 Ra).f3) ((Aa l1 Ra).f4) false _ ?yc ?uc ?ud ?td A7.out).mono ?_
        (case yc=>repeat (first|exact (Kd.Ob wo.out HB.out)|(with_reducible refine Kd.Pb ?_ _)|(with_reducible refine Kd.Nb ?_ _)|(with_reducible refine Kd.Zb ?_)))
        (case uc=>exact Dt.out)
        (case ud=>repeat (first|exact (Kd.Ob Sy.out HB.out)|(with_reducible refine Kd.Pb ?_ _)|(with_reducible refine Kd.Nb ?_ _)|(with_reducible refine Kd.Zb ?_)))
        (case td=>exact ZG.out)
        rintro e Vt ⟨rfl,hb⟩;refine ⟨_,rfl,?_⟩;have Fb:=ja.mk (Qa (by repeat (first|(with_reducible first|exact HB.out|apply qa|apply ia|apply ta)|exact HB.out)) hb);clear HB;have HB:=Fb;clear Fb;(try clear hb);(try clear Hi);(try clear hk);(try clear hi);refine hK.out _ _ ⟨(Na HB.out Hl),(Na HB.out Gl),(Na HB.out Fl),(Na HB.out El),(Na HB.out Dl),(Na HB.out Cl),(Na HB.out Bl),(Na HB.out Al),(Na HB.out zl),(Na HB.out vl)⟩ (fun hHeld=>?_);clear hK K;refine Eo (a':=?_) ?_ ?_;rotate_left
        ·show Act.put _ (some 25) _=_
         simp only [Act.put,List.setIfInBounds_toArray,List.set_cons_zero,List.set_cons_succ,Xb,Yb]
         rfl
        refine Wc (i:=9) (N:=some 26) (v:=?_) (a':=?_) #[true,true,true,true,true,true,true,true,true,true] rfl rfl (Sc Pf.out (by kernel_rfl)) (fun _ _ _ h=>h) (Or.inl ⟨by rfl,?_⟩) ?_ ?_;rotate_left
        ·intro w';go_simp;with_reducible rfl
        rotate_left
        ·simp only [Act.put,List.setIfInBounds_toArray,List.set_cons_zero,List.set_cons_succ,Xb,Yb]
         rfl
        refine Tp (Mm Pf.out (by kernel_rfl)) ?_
        try go_wp2
        go_ret;exact ⟨by first|rfl|(simp [Ma,La] <;> rfl)|(simp [*,Ma,La] <;> rfl),by repeat (first|(with_reducible first|exact HB.out|apply qa|apply ia|apply ta)|exact HB.out)⟩
      ·rw [if_neg c6] at H;exact absurd H (by simp)
     ·rw [if_neg c5] at H;exact absurd H (by simp)
    ·rw [if_neg c4] at H;have Mk:decide (Ra < (l0.length:Int))=false:=decide_eq_false c4;clear c4;obtain rfl:=Option.some.inj H;go_wp2;go_ret;exact ⟨by first|rfl|(simp [Ma,La] <;> rfl)|(simp [*,Ma,La] <;> rfl),by repeat (first|(with_reducible first|exact HB.out|apply qa|apply ia|apply ta)|exact HB.out)⟩
 ·rw [if_neg c3] at H;have Nh:((l0.length:Int) == (l1.length:Int))=false:=beq_eq_false_iff_ne.mpr c3;have ct:((l0.length:Int) != (l1.length:Int))=true:=bne_iff_ne.mpr c3;have YC:(l0.length == l1.length)=false:=by first|simpa using c3|(simp at c3 ⊢;omega)
  obtain rfl:=Option.some.inj H;go_enter Try.func52,Try.ntmps52;go_wp2;go_ret;exact ⟨by first|rfl|(simp [Ma,La] <;> rfl)|(simp [*,Ma,La] <;> rfl),by repeat (first|(with_reducible first|exact HB.out|apply qa|apply ia|apply ta)|exact HB.out)⟩
def bf.f (k:Nat) (Pa:List Int) (Ka:Int) (Ga:Int) (Ia:Int) (Da:List (Ce)) (Pc:List Int) (Ub:Int) (Lb:Int) (Mb:Int) (jm:List (Ce)):Option (Bool):=(Qd.f k Pa Pc).bind fun t103=>(if t103=true then (if Ka=Ub then (if Ga=Lb then (if Ia=Mb then ((Dc.f k Da jm).bind fun t104=>(if t104=true then (some true) else (some false))) else (some false)) else (some false)) else (some false)) else (some false))
theorem bf.calls (k:Nat) (Ya:Option Addr) (Za:Nat) (Pa:List Int) (Ka:Int) (Ga:Int) (Ia:Int) (Vb:Option Addr) (Jb:Nat) (Da:List (Ce)) (af:Option Addr) (Qe:Nat) (Pc:List Int) (Ub:Int) (Lb:Int) (Mb:Int) (Rt:Option Addr) (Qt:Nat) (jm:List (Ce)) (r:Bool) (w:World) (Wd:Kd.C (Kd.int .i64) w Ya Pa.length Pa) (Sd:Pa.length ≤ Za) (zf:Kd.C Mt w Vb Da.length Da) (uf:Da.length ≤ Jb) (Dv:Kd.C (Kd.int .i64) w af Pc.length Pc) (Fv:Pc.length ≤ Qe) (xW:Kd.C Mt w Rt jm.length jm) (QW:jm.length ≤ Qt) (h:bf.f k Pa Ka Ga Ia Da Pc Ub Lb Mb jm=some r) :
  Calls Try.prog 14 #[.agg #[.slice Ya Pa.length Za,.int .i64 Ka,.int .i64 Ga,.int .i64 Ia,.slice Vb Da.length Jb],.agg #[.slice af Pc.length Qe,.int .i64 Ub,.int .i64 Lb,.int .i64 Mb,.slice Rt jm.length Qt]] w fun e w'=>e = .returned (.bool r)∧Below w.heap.size w w':=by
 have LD:=Try.underlying30;have qe:=ja.mk Wd;have Be:=ja.mk Sd;clear Wd Sd;have Hf:=ja.mk zf;have Tg:=ja.mk uf;clear zf uf;have qn:=ja.mk Dv;have aq:=ja.mk Fv;clear Dv Fv;have rX:=ja.mk xW;have wX:=ja.mk QW;clear xW QW;have HB:=ja.mk (Below.refl w.heap.size w);have H:((Qd.f k Pa Pc).bind fun t103=>(if t103=true then (if Ka=Ub then (if Ga=Lb then (if Ia=Mb then ((Dc.f k Da jm).bind fun t104=>(if t104=true then (some true) else (some false))) else (some false)) else (some false)) else (some false)) else (some false)))=some r:=h;clear h;replace H:=Option.bind_eq_some_iff.mp H;obtain ⟨t103,dw,H⟩:=H;replace H:(if t103=true then (if Ka=Ub then (if Ga=Lb then (if Ia=Mb then ((Dc.f k Da jm).bind fun t104=>(if t104=true then (some true) else (some false))) else (some false)) else (some false)) else (some false)) else (some false))=some r:=H;have A3:=ja.mk dw;clear dw
 by_cases c4:t103=true
 ·subst c4;have H1:(if Ka=Ub then (if Ga=Lb then (if Ia=Mb then ((Dc.f k Da jm).bind fun t104=>(if t104=true then (some true) else (some false))) else (some false)) else (some false)) else (some false))=some r:=by rw [if_pos rfl] at H;exact H
  clear H;have H:=H1;clear H1
  by_cases c5:Ka=Ub
  ·rw [if_pos c5] at H;have sj:(Ka == Ub)=true:=beq_iff_eq.mpr c5;have Fz:(Ka != Ub)=false:=bne_eq_false_iff_eq.mpr c5;clear c5
   by_cases c6:Ga=Lb
   ·rw [if_pos c6] at H;have Vm:(Ga == Lb)=true:=beq_iff_eq.mpr c6;have nA:(Ga != Lb)=false:=bne_eq_false_iff_eq.mpr c6;clear c6
    by_cases c7:Ia=Mb
    ·rw [if_pos c7] at H;have Tj:(Ia == Mb)=true:=beq_iff_eq.mpr c7;have Hq:(Ia != Mb)=false:=bne_eq_false_iff_eq.mpr c7;clear c7;replace H:=Option.bind_eq_some_iff.mp H;obtain ⟨t104,oO,H⟩:=H;replace H:(if t104=true then (some true) else (some false))=some r:=H;have A8:=ja.mk oO;clear oO
     by_cases c9:t104=true
     ·subst c9;have H1:(some true)=some r:=by rw [if_pos rfl] at H;exact H
      clear H;have H:=H1;clear H1;obtain rfl:=Option.some.inj H;go_enter Try.func14,Try.ntmps14;go_wp2_with (first|((with_reducible refine yb (N:=2) rfl ?_);refine Gb ?hg (N:=2) ?hd (cs:=#[.slice Ya Pa.length Za,.int .i64 Ka,.int .i64 Ga,.int .i64 Ia,.slice Vb Da.length Jb]) (t:=30) ?hr ?_;(case hd=>rfl);(case hg=>rfl);(case hr=>first|(go_simp;done)|(go_simp;rfl));intro ya hg Lt Qb hb;have Fb:=ja.mk (Qa (by repeat (first|(with_reducible first|exact HB.out|apply qa|apply ia|apply ta)|exact HB.out)) hb);have Ib:=ja.mk (Qb);have Sb:=ja.mk ((by rw [hg];exact (Fa (by repeat (first|(with_reducible first|exact HB.out|apply qa|apply ia|apply ta)|exact HB.out))):w.heap.size ≤ ya));have Ec:=ja.mk ((by rw [hg];exact (Fa (by repeat (first|(with_reducible first|exact HB.out|apply qa|apply ia|apply ta)|exact HB.out))):w.heap.size ≤ ya));clear HB;have HB:=Fb;have oa:=Ib;have yd:=Sb;have Sa:=Ec;clear Fb Ib Sb Ec hb Qb hg)|((with_reducible refine yb (N:=3) rfl ?_);refine Gb ?hg (N:=3) ?hd (cs:=#[.slice af Pc.length Qe,.int .i64 Ub,.int .i64 Lb,.int .i64 Mb,.slice Rt jm.length Qt]) (t:=30) ?hr ?_;(case hd=>rfl);(case hg=>rfl);(case hr=>first|(go_simp;done)|(go_simp;rfl));intro Ja hg Xj Qb hb;have Fb:=ja.mk (Ua (g:=ya) (o:=.cells #[.slice Ya Pa.length Za,.int .i64 Ka,.int .i64 Ga,.int .i64 Ia,.slice Vb Da.length Jb] 30 (0,0)) (by (with_reducible repeat (first|refine Ba ?_ _|refine Ea ?_|refine Ca ?_ _));exact oa.out) hb);have Ib:=ja.mk (Qa (by repeat (first|(with_reducible first|exact HB.out|apply qa|apply ia|apply ta|refine ua ?_ Sa.out)|exact HB.out)) hb);have Sb:=ja.mk (Qb);have Ec:=ja.mk ((by rw [hg];exact (Fa (by repeat (first|(with_reducible first|exact HB.out|apply qa|apply ia|apply ta|refine ua ?_ Sa.out)|exact HB.out))):w.heap.size ≤ Ja));have Re:=ja.mk ((by rw [hg];exact (Fa (by repeat (first|(with_reducible first|exact HB.out|apply qa|apply ia|apply ta|refine ua ?_ Sa.out)|exact HB.out))):w.heap.size ≤ Ja));have Gf:=ja.mk ((by rw [hg];exact Nat.ne_of_lt (Jc (g:=ya) (o:=.cells #[.slice Ya Pa.length Za,.int .i64 Ka,.int .i64 Ga,.int .i64 Ia,.slice Vb Da.length Jb] 30 (0,0)) (by (with_reducible repeat (first|refine Ba ?_ _|refine Ea ?_|refine Ca ?_ _));exact oa.out)):ya ≠ Ja));have Yf:=ja.mk ((by rw [hg];exact Nat.ne_of_gt (Jc (g:=ya) (o:=.cells #[.slice Ya Pa.length Za,.int .i64 Ka,.int .i64 Ga,.int .i64 Ia,.slice Vb Da.length Jb] 30 (0,0)) (by (with_reducible repeat (first|refine Ba ?_ _|refine Ea ?_|refine Ca ?_ _));exact oa.out)):Ja ≠ ya));clear oa HB;have oa:=Fb;have HB:=Ib;have za:=Sb;have rj:=Ec;have Bc:=Re;have Db:=Gf;have Cb:=Yf;clear Fb Ib Sb Ec Re Gf Yf hb Qb hg;have LW:=Db.out;have FW:=Cb.out;have Mp:Xj.cell? ⟨ya,0,none⟩=some (.slice Ya Pa.length Za):=(ga oa.out 0).trans rfl;have Lp:Xj.cell? ⟨ya,1,none⟩=some (.int .i64 Ka):=(ga oa.out 1).trans rfl;have Kp:Xj.cell? ⟨ya,2,none⟩=some (.int .i64 Ga):=(ga oa.out 2).trans rfl;have Jp:Xj.cell? ⟨ya,3,none⟩=some (.int .i64 Ia):=(ga oa.out 3).trans rfl;have Ip:Xj.cell? ⟨ya,4,none⟩=some (.slice Vb Da.length Jb):=(ga oa.out 4).trans rfl;have Cp:=aa oa.out 0;have Bp:=aa oa.out 1;have Ap:=aa oa.out 2;have zp:=aa oa.out 3;have yp:=aa oa.out 4;have ij:Xj.cell? ⟨Ja,0,none⟩=some (.slice af Pc.length Qe):=(ga za.out 0).trans rfl;have gj:Xj.cell? ⟨Ja,1,none⟩=some (.int .i64 Ub):=(ga za.out 1).trans rfl;have fj:Xj.cell? ⟨Ja,2,none⟩=some (.int .i64 Lb):=(ga za.out 2).trans rfl;have ej:Xj.cell? ⟨Ja,3,none⟩=some (.int .i64 Mb):=(ga za.out 3).trans rfl;have cj:Xj.cell? ⟨Ja,4,none⟩=some (.slice Rt jm.length Qt):=(ga za.out 4).trans rfl;have aj:=aa za.out 0;have Zi:=aa za.out 1;have Yi:=aa za.out 2;have Xi:=aa za.out 3;have Wi:=aa za.out 4)|((with_reducible refine jb (f:=17) rfl ?_);refine Fc (some 9) rfl rfl Try.func17 (by kernel_rfl) rfl #[.slice Ya Pa.length Za,.slice af Pc.length Qe] rfl (by (try simp only [List.map_toArray,List.map_cons,List.map_nil]);first|done|rfl|(simp only [List.length_drop,List.length_take];rfl)) ?_;(with_reducible refine (Qd.calls k _ _ Pa _ _ Pc true _ ?yc ?uc ?ud ?td A3.out).mono ?_);(case yc=>repeat (first|exact (Kd.Ob qe.out HB.out)|(with_reducible refine Kd.Pb ?_ _)|(with_reducible refine Kd.Nb ?_ _)|(with_reducible refine Kd.Zb ?_)));(case uc=>exact Be.out);(case ud=>repeat (first|exact (Kd.Ob qn.out HB.out)|(with_reducible refine Kd.Pb ?_ _)|(with_reducible refine Kd.Nb ?_ _)|(with_reducible refine Kd.Zb ?_)));(case td=>exact aq.out);rintro e w' ⟨rfl,⟨nd,rfl⟩⟩;refine ⟨_,rfl,?_⟩)|((with_reducible refine jb (f:=52) rfl ?_);refine Fc (some 30) rfl rfl Try.func52 (by kernel_rfl) rfl #[.slice Vb Da.length Jb,.slice Rt jm.length Qt] rfl (by (try simp only [List.map_toArray,List.map_cons,List.map_nil]);first|done|rfl|(simp only [List.length_drop,List.length_take];rfl)) ?_;(with_reducible refine (Dc.calls k _ _ Da _ _ jm true _ ?yc ?uc ?ud ?td A8.out).mono ?_);(case yc=>repeat (first|exact (Kd.Ob Hf.out (by repeat (first|(with_reducible first|exact HB.out|apply qa|apply ia|apply ta|refine ua ?_ Sa.out|refine ua ?_ Bc.out)|exact HB.out)))|(with_reducible refine Kd.Pb ?_ _)|(with_reducible refine Kd.Nb ?_ _)|(with_reducible refine Kd.Zb ?_)));(case uc=>exact Tg.out);(case ud=>repeat (first|exact (Kd.Ob rX.out (by repeat (first|(with_reducible first|exact HB.out|apply qa|apply ia|apply ta|refine ua ?_ Sa.out|refine ua ?_ Bc.out)|exact HB.out)))|(with_reducible refine Kd.Pb ?_ _)|(with_reducible refine Kd.Nb ?_ _)|(with_reducible refine Kd.Zb ?_)));(case td=>exact wX.out);rintro e gC ⟨rfl,hb⟩;refine ⟨_,rfl,?_⟩;have Fb:=ja.mk (Ua (g:=ya) (o:=.cells #[.slice Ya Pa.length Za,.int .i64 Ka,.int .i64 Ga,.int .i64 Ia,.slice Vb Da.length Jb] 30 (0,0)) (by (with_reducible repeat (first|refine Ba ?_ _|refine Ea ?_|refine Ca ?_ _));exact oa.out) hb);have Ib:=ja.mk (Ua (g:=Ja) (o:=.cells #[.slice af Pc.length Qe,.int .i64 Ub,.int .i64 Lb,.int .i64 Mb,.slice Rt jm.length Qt] 30 (0,0)) (by (with_reducible repeat (first|refine Ba ?_ _|refine Ea ?_|refine Ca ?_ _));exact za.out) hb);have Sb:=ja.mk (Qa (by repeat (first|(with_reducible first|exact HB.out|apply qa|apply ia|apply ta|refine ua ?_ Sa.out|refine ua ?_ Bc.out)|exact HB.out)) hb);clear oa za HB;have oa:=Fb;have za:=Ib;have HB:=Sb;clear Fb Ib Sb;(try clear hb);(try clear Hi);(try clear hk);(try clear hi)));go_ret;exact ⟨by first|rfl|(simp [Ma,La] <;> rfl)|(simp [*,Ma,La] <;> rfl),by repeat (first|(with_reducible first|exact HB.out|apply qa|apply ia|apply ta|refine ua ?_ Sa.out|refine ua ?_ Bc.out)|exact HB.out)⟩
     ·replace c9:=Bool.eq_false_iff.mpr c9;subst c9;have H1:(some false)=some r:=by rw [if_neg (show ¬ (false=true) by decide)] at H;exact H
      clear H;have H:=H1;clear H1;obtain rfl:=Option.some.inj H;go_enter Try.func14,Try.ntmps14;go_wp2_with (first|((with_reducible refine yb (N:=2) rfl ?_);refine Gb ?hg (N:=2) ?hd (cs:=#[.slice Ya Pa.length Za,.int .i64 Ka,.int .i64 Ga,.int .i64 Ia,.slice Vb Da.length Jb]) (t:=30) ?hr ?_;(case hd=>rfl);(case hg=>rfl);(case hr=>first|(go_simp;done)|(go_simp;rfl));intro ya hg Yy Qb hb;have Fb:=ja.mk (Qa (by repeat (first|(with_reducible first|exact HB.out|apply qa|apply ia|apply ta)|exact HB.out)) hb);have Ib:=ja.mk (Qb);have Sb:=ja.mk ((by rw [hg];exact (Fa (by repeat (first|(with_reducible first|exact HB.out|apply qa|apply ia|apply ta)|exact HB.out))):w.heap.size ≤ ya));have Ec:=ja.mk ((by rw [hg];exact (Fa (by repeat (first|(with_reducible first|exact HB.out|apply qa|apply ia|apply ta)|exact HB.out))):w.heap.size ≤ ya));clear HB;have HB:=Fb;have oa:=Ib;have yd:=Sb;have Sa:=Ec;clear Fb Ib Sb Ec hb Qb hg)|((with_reducible refine yb (N:=3) rfl ?_);refine Gb ?hg (N:=3) ?hd (cs:=#[.slice af Pc.length Qe,.int .i64 Ub,.int .i64 Lb,.int .i64 Mb,.slice Rt jm.length Qt]) (t:=30) ?hr ?_;(case hd=>rfl);(case hg=>rfl);(case hr=>first|(go_simp;done)|(go_simp;rfl));intro Ja hg bw Qb hb;have Fb:=ja.mk (Ua (g:=ya) (o:=.cells #[.slice Ya Pa.length Za,.int .i64 Ka,.int .i64 Ga,.int .i64 Ia,.slice Vb Da.length Jb] 30 (0,0)) (by (with_reducible repeat (first|refine Ba ?_ _|refine Ea ?_|refine Ca ?_ _));exact oa.out) hb);have Ib:=ja.mk (Qa (by repeat (first|(with_reducible first|exact HB.out|apply qa|apply ia|apply ta|refine ua ?_ Sa.out)|exact HB.out)) hb);have Sb:=ja.mk (Qb);have Ec:=ja.mk ((by rw [hg];exact (Fa (by repeat (first|(with_reducible first|exact HB.out|apply qa|apply ia|apply ta|refine ua ?_ Sa.out)|exact HB.out))):w.heap.size ≤ Ja));have Re:=ja.mk ((by rw [hg];exact (Fa (by repeat (first|(with_reducible first|exact HB.out|apply qa|apply ia|apply ta|refine ua ?_ Sa.out)|exact HB.out))):w.heap.size ≤ Ja));have Gf:=ja.mk ((by rw [hg];exact Nat.ne_of_lt (Jc (g:=ya) (o:=.cells #[.slice Ya Pa.length Za,.int .i64 Ka,.int .i64 Ga,.int .i64 Ia,.slice Vb Da.length Jb] 30 (0,0)) (by (with_reducible repeat (first|refine Ba ?_ _|refine Ea ?_|refine Ca ?_ _));exact oa.out)):ya ≠ Ja));have Yf:=ja.mk ((by rw [hg];exact Nat.ne_of_gt (Jc (g:=ya) (o:=.cells #[.slice Ya Pa.length Za,.int .i64 Ka,.int .i64 Ga,.int .i64 Ia,.slice Vb Da.length Jb] 30 (0,0)) (by (with_reducible repeat (first|refine Ba ?_ _|refine Ea ?_|refine Ca ?_ _));exact oa.out)):Ja ≠ ya));clear oa HB;have oa:=Fb;have HB:=Ib;have za:=Sb;have rj:=Ec;have Bc:=Re;have Db:=Gf;have Cb:=Yf;clear Fb Ib Sb Ec Re Gf Yf hb Qb hg;have G4:=Db.out;have Y3:=Cb.out;have xy:bw.cell? ⟨ya,0,none⟩=some (.slice Ya Pa.length Za):=(ga oa.out 0).trans rfl;have uy:bw.cell? ⟨ya,1,none⟩=some (.int .i64 Ka):=(ga oa.out 1).trans rfl;have sy:bw.cell? ⟨ya,2,none⟩=some (.int .i64 Ga):=(ga oa.out 2).trans rfl;have ry:bw.cell? ⟨ya,3,none⟩=some (.int .i64 Ia):=(ga oa.out 3).trans rfl;have qy:bw.cell? ⟨ya,4,none⟩=some (.slice Vb Da.length Jb):=(ga oa.out 4).trans rfl;have Qx:=aa oa.out 0;have Px:=aa oa.out 1;have Ox:=aa oa.out 2;have Nx:=aa oa.out 3;have Mx:=aa oa.out 4;have oV:bw.cell? ⟨Ja,0,none⟩=some (.slice af Pc.length Qe):=(ga za.out 0).trans rfl;have nV:bw.cell? ⟨Ja,1,none⟩=some (.int .i64 Ub):=(ga za.out 1).trans rfl;have mV:bw.cell? ⟨Ja,2,none⟩=some (.int .i64 Lb):=(ga za.out 2).trans rfl;have lV:bw.cell? ⟨Ja,3,none⟩=some (.int .i64 Mb):=(ga za.out 3).trans rfl;have kV:bw.cell? ⟨Ja,4,none⟩=some (.slice Rt jm.length Qt):=(ga za.out 4).trans rfl;have tU:=aa za.out 0;have sU:=aa za.out 1;have rU:=aa za.out 2;have qU:=aa za.out 3;have pU:=aa za.out 4)|((with_reducible refine jb (f:=17) rfl ?_);refine Fc (some 9) rfl rfl Try.func17 (by kernel_rfl) rfl #[.slice Ya Pa.length Za,.slice af Pc.length Qe] rfl (by (try simp only [List.map_toArray,List.map_cons,List.map_nil]);first|done|rfl|(simp only [List.length_drop,List.length_take];rfl)) ?_;(with_reducible refine (Qd.calls k _ _ Pa _ _ Pc true _ ?yc ?uc ?ud ?td A3.out).mono ?_);(case yc=>repeat (first|exact (Kd.Ob qe.out HB.out)|(with_reducible refine Kd.Pb ?_ _)|(with_reducible refine Kd.Nb ?_ _)|(with_reducible refine Kd.Zb ?_)));(case uc=>exact Be.out);(case ud=>repeat (first|exact (Kd.Ob qn.out HB.out)|(with_reducible refine Kd.Pb ?_ _)|(with_reducible refine Kd.Nb ?_ _)|(with_reducible refine Kd.Zb ?_)));(case td=>exact aq.out);rintro e w' ⟨rfl,⟨nd,rfl⟩⟩;refine ⟨_,rfl,?_⟩)|((with_reducible refine jb (f:=52) rfl ?_);refine Fc (some 30) rfl rfl Try.func52 (by kernel_rfl) rfl #[.slice Vb Da.length Jb,.slice Rt jm.length Qt] rfl (by (try simp only [List.map_toArray,List.map_cons,List.map_nil]);first|done|rfl|(simp only [List.length_drop,List.length_take];rfl)) ?_;(with_reducible refine (Dc.calls k _ _ Da _ _ jm false _ ?yc ?uc ?ud ?td A8.out).mono ?_);(case yc=>repeat (first|exact (Kd.Ob Hf.out (by repeat (first|(with_reducible first|exact HB.out|apply qa|apply ia|apply ta|refine ua ?_ Sa.out|refine ua ?_ Bc.out)|exact HB.out)))|(with_reducible refine Kd.Pb ?_ _)|(with_reducible refine Kd.Nb ?_ _)|(with_reducible refine Kd.Zb ?_)));(case uc=>exact Tg.out);(case ud=>repeat (first|exact (Kd.Ob rX.out (by repeat (first|(with_reducible first|exact HB.out|apply qa|apply ia|apply ta|refine ua ?_ Sa.out|refine ua ?_ Bc.out)|exact HB.out)))|(with_reducible refine Kd.Pb ?_ _)|(with_reducible refine Kd.Nb ?_ _)|(with_reducible refine Kd.Zb ?_)));(case td=>exact wX.out);rintro e kH ⟨rfl,hb⟩;refine ⟨_,rfl,?_⟩;have Fb:=ja.mk (Ua (g:=ya) (o:=.cells #[.slice Ya Pa.length Za,.int .i64 Ka,.int .i64 Ga,.int .i64 Ia,.slice Vb Da.length Jb] 30 (0,0)) (by (with_reducible repeat (first|refine Ba ?_ _|refine Ea ?_|refine Ca ?_ _));exact oa.out) hb);have Ib:=ja.mk (Ua (g:=Ja) (o:=.cells #[.slice af Pc.length Qe,.int .i64 Ub,.int .i64 Lb,.int .i64 Mb,.slice Rt jm.length Qt] 30 (0,0)) (by (with_reducible repeat (first|refine Ba ?_ _|refine Ea ?_|refine Ca ?_ _));exact za.out) hb);have Sb:=ja.mk (Qa (by repeat (first|(with_reducible first|exact HB.out|apply qa|apply ia|apply ta|refine ua ?_ Sa.out|refine ua ?_ Bc.out)|exact HB.out)) hb);clear oa za HB;have oa:=Fb;have za:=Ib;have HB:=Sb;clear Fb Ib Sb;(try clear hb);(try clear Hi);(try clear hk);(try clear hi)));go_ret;exact ⟨by first|rfl|(simp [Ma,La] <;> rfl)|(simp [*,Ma,La] <;> rfl),by repeat (first|(with_reducible first|exact HB.out|apply qa|apply ia|apply ta|refine ua ?_ Sa.out|refine ua ?_ Bc.out)|exact HB.out)⟩
    ·rw [if_neg c7] at H;have Tj:(Ia == Mb)=false:=beq_eq_false_iff_ne.mpr c7;have Hq:(Ia != Mb)=true:=bne_iff_ne.mpr c7;obtain rfl:=Option.some.inj H;go_enter Try.func14,Try.ntmps14;go_wp2_with (first|((with_reducible refine yb (N:=2) rfl ?_);refine Gb ?hg (N:=2) ?hd (cs:=#[.slice Ya Pa.length Za,.int .i64 Ka,.int .i64 Ga,.int .i64 Ia,.slice Vb Da.length Jb]) (t:=30) ?hr ?_;(case hd=>rfl);(case hg=>rfl);(case hr=>first|(go_simp;done)|(go_simp;rfl));intro ya hg Tz Qb hb;have Fb:=ja.mk (Qa (by repeat (first|(with_reducible first|exact HB.out|apply qa|apply ia|apply ta)|exact HB.out)) hb);have Ib:=ja.mk (Qb);have Sb:=ja.mk ((by rw [hg];exact (Fa (by repeat (first|(with_reducible first|exact HB.out|apply qa|apply ia|apply ta)|exact HB.out))):w.heap.size ≤ ya));have Ec:=ja.mk ((by rw [hg];exact (Fa (by repeat (first|(with_reducible first|exact HB.out|apply qa|apply ia|apply ta)|exact HB.out))):w.heap.size ≤ ya));clear HB;have HB:=Fb;have oa:=Ib;have yd:=Sb;have Sa:=Ec;clear Fb Ib Sb Ec hb Qb hg)|((with_reducible refine yb (N:=3) rfl ?_);refine Gb ?hg (N:=3) ?hd (cs:=#[.slice af Pc.length Qe,.int .i64 Ub,.int .i64 Lb,.int .i64 Mb,.slice Rt jm.length Qt]) (t:=30) ?hr ?_;(case hd=>rfl);(case hg=>rfl);(case hr=>first|(go_simp;done)|(go_simp;rfl));intro Ja hg vD Qb hb;have Fb:=ja.mk (Ua (g:=ya) (o:=.cells #[.slice Ya Pa.length Za,.int .i64 Ka,.int .i64 Ga,.int .i64 Ia,.slice Vb Da.length Jb] 30 (0,0)) (by (with_reducible repeat (first|refine Ba ?_ _|refine Ea ?_|refine Ca ?_ _));exact oa.out) hb);have Ib:=ja.mk (Qa (by repeat (first|(with_reducible first|exact HB.out|apply qa|apply ia|apply ta|refine ua ?_ Sa.out)|exact HB.out)) hb);have Sb:=ja.mk (Qb);have Ec:=ja.mk ((by rw [hg];exact (Fa (by repeat (first|(with_reducible first|exact HB.out|apply qa|apply ia|apply ta|refine ua ?_ Sa.out)|exact HB.out))):w.heap.size ≤ Ja));have Re:=ja.mk ((by rw [hg];exact (Fa (by repeat (first|(with_reducible first|exact HB.out|apply qa|apply ia|apply ta|refine ua ?_ Sa.out)|exact HB.out))):w.heap.size ≤ Ja));have Gf:=ja.mk ((by rw [hg];exact Nat.ne_of_lt (Jc (g:=ya) (o:=.cells #[.slice Ya Pa.length Za,.int .i64 Ka,.int .i64 Ga,.int .i64 Ia,.slice Vb Da.length Jb] 30 (0,0)) (by (with_reducible repeat (first|refine Ba ?_ _|refine Ea ?_|refine Ca ?_ _));exact oa.out)):ya ≠ Ja));have Yf:=ja.mk ((by rw [hg];exact Nat.ne_of_gt (Jc (g:=ya) (o:=.cells #[.slice Ya Pa.length Za,.int .i64 Ka,.int .i64 Ga,.int .i64 Ia,.slice Vb Da.length Jb] 30 (0,0)) (by (with_reducible repeat (first|refine Ba ?_ _|refine Ea ?_|refine Ca ?_ _));exact oa.out)):Ja ≠ ya));clear oa HB;have oa:=Fb;have HB:=Ib;have za:=Sb;have rj:=Ec;have Bc:=Re;have Db:=Gf;have Cb:=Yf;clear Fb Ib Sb Ec Re Gf Yf hb Qb hg;have E4:=Db.out;have W3:=Cb.out;have av:vD.cell? ⟨ya,0,none⟩=some (.slice Ya Pa.length Za):=(ga oa.out 0).trans rfl;have Zu:vD.cell? ⟨ya,1,none⟩=some (.int .i64 Ka):=(ga oa.out 1).trans rfl;have Yu:vD.cell? ⟨ya,2,none⟩=some (.int .i64 Ga):=(ga oa.out 2).trans rfl;have Xu:vD.cell? ⟨ya,3,none⟩=some (.int .i64 Ia):=(ga oa.out 3).trans rfl;have Wu:vD.cell? ⟨ya,4,none⟩=some (.slice Vb Da.length Jb):=(ga oa.out 4).trans rfl;have Qu:=aa oa.out 0;have Pu:=aa oa.out 1;have Ou:=aa oa.out 2;have Nu:=aa oa.out 3;have Mu:=aa oa.out 4;have Vu:vD.cell? ⟨Ja,0,none⟩=some (.slice af Pc.length Qe):=(ga za.out 0).trans rfl;have Uu:vD.cell? ⟨Ja,1,none⟩=some (.int .i64 Ub):=(ga za.out 1).trans rfl;have Tu:vD.cell? ⟨Ja,2,none⟩=some (.int .i64 Lb):=(ga za.out 2).trans rfl;have Su:vD.cell? ⟨Ja,3,none⟩=some (.int .i64 Mb):=(ga za.out 3).trans rfl;have Ru:vD.cell? ⟨Ja,4,none⟩=some (.slice Rt jm.length Qt):=(ga za.out 4).trans rfl;have Lu:=aa za.out 0;have Ku:=aa za.out 1;have Ju:=aa za.out 2;have Iu:=aa za.out 3;have Hu:=aa za.out 4)|((with_reducible refine jb (f:=17) rfl ?_);refine Fc (some 9) rfl rfl Try.func17 (by kernel_rfl) rfl #[.slice Ya Pa.length Za,.slice af Pc.length Qe] rfl (by (try simp only [List.map_toArray,List.map_cons,List.map_nil]);first|done|rfl|(simp only [List.length_drop,List.length_take];rfl)) ?_;(with_reducible refine (Qd.calls k _ _ Pa _ _ Pc true _ ?yc ?uc ?ud ?td A3.out).mono ?_);(case yc=>repeat (first|exact (Kd.Ob qe.out HB.out)|(with_reducible refine Kd.Pb ?_ _)|(with_reducible refine Kd.Nb ?_ _)|(with_reducible refine Kd.Zb ?_)));(case uc=>exact Be.out);(case ud=>repeat (first|exact (Kd.Ob qn.out HB.out)|(with_reducible refine Kd.Pb ?_ _)|(with_reducible refine Kd.Nb ?_ _)|(with_reducible refine Kd.Zb ?_)));(case td=>exact aq.out);rintro e w' ⟨rfl,⟨nd,rfl⟩⟩;refine ⟨_,rfl,?_⟩));go_ret;exact ⟨by first|rfl|(simp [Ma,La] <;> rfl)|(simp [*,Ma,La] <;> rfl),by repeat (first|(with_reducible first|exact HB.out|apply qa|apply ia|apply ta|refine ua ?_ Sa.out|refine ua ?_ Bc.out)|exact HB.out)⟩
   ·rw [if_neg c6] at H;have Vm:(Ga == Lb)=false:=beq_eq_false_iff_ne.mpr c6;have nA:(Ga != Lb)=true:=bne_iff_ne.mpr c6;obtain rfl:=Option.some.inj H;go_enter Try.func14,Try.ntmps14;go_wp2_with (first|((with_reducible refine yb (N:=2) rfl ?_);refine Gb ?hg (N:=2) ?hd (cs:=#[.slice Ya Pa.length Za,.int .i64 Ka,.int .i64 Ga,.int .i64 Ia,.slice Vb Da.length Jb]) (t:=30) ?hr ?_;(case hd=>rfl);(case hg=>rfl);(case hr=>first|(go_simp;done)|(go_simp;rfl));intro ya hg w27 Qb hb;have Fb:=ja.mk (Qa (by repeat (first|(with_reducible first|exact HB.out|apply qa|apply ia|apply ta)|exact HB.out)) hb);have Ib:=ja.mk (Qb);have Sb:=ja.mk ((by rw [hg];exact (Fa (by repeat (first|(with_reducible first|exact HB.out|apply qa|apply ia|apply ta)|exact HB.out))):w.heap.size ≤ ya));have Ec:=ja.mk ((by rw [hg];exact (Fa (by repeat (first|(with_reducible first|exact HB.out|apply qa|apply ia|apply ta)|exact HB.out))):w.heap.size ≤ ya));clear HB;have HB:=Fb;have oa:=Ib;have yd:=Sb;have Sa:=Ec;clear Fb Ib Sb Ec hb Qb hg)|((with_reducible refine yb (N:=3) rfl ?_);refine Gb ?hg (N:=3) ?hd (cs:=#[.slice af Pc.length Qe,.int .i64 Ub,.int .i64 Lb,.int .i64 Mb,.slice Rt jm.length Qt]) (t:=30) ?hr ?_;(case hd=>rfl);(case hg=>rfl);(case hr=>first|(go_simp;done)|(go_simp;rfl));intro Ja hg Mv Qb hb;have Fb:=ja.mk (Ua (g:=ya) (o:=.cells #[.slice Ya Pa.length Za,.int .i64 Ka,.int .i64 Ga,.int .i64 Ia,.slice Vb Da.length Jb] 30 (0,0)) (by (with_reducible repeat (first|refine Ba ?_ _|refine Ea ?_|refine Ca ?_ _));exact oa.out) hb);have Ib:=ja.mk (Qa (by repeat (first|(with_reducible first|exact HB.out|apply qa|apply ia|apply ta|refine ua ?_ Sa.out)|exact HB.out)) hb);have Sb:=ja.mk (Qb);have Ec:=ja.mk ((by rw [hg];exact (Fa (by repeat (first|(with_reducible first|exact HB.out|apply qa|apply ia|apply ta|refine ua ?_ Sa.out)|exact HB.out))):w.heap.size ≤ Ja));have Re:=ja.mk ((by rw [hg];exact (Fa (by repeat (first|(with_reducible first|exact HB.out|apply qa|apply ia|apply ta|refine ua ?_ Sa.out)|exact HB.out))):w.heap.size ≤ Ja));have Gf:=ja.mk ((by rw [hg];exact Nat.ne_of_lt (Jc (g:=ya) (o:=.cells #[.slice Ya Pa.length Za,.int .i64 Ka,.int .i64 Ga,.int .i64 Ia,.slice Vb Da.length Jb] 30 (0,0)) (by (with_reducible repeat (first|refine Ba ?_ _|refine Ea ?_|refine Ca ?_ _));exact oa.out)):ya ≠ Ja));have Yf:=ja.mk ((by rw [hg];exact Nat.ne_of_gt (Jc (g:=ya) (o:=.cells #[.slice Ya Pa.length Za,.int .i64 Ka,.int .i64 Ga,.int .i64 Ia,.slice Vb Da.length Jb] 30 (0,0)) (by (with_reducible repeat (first|refine Ba ?_ _|refine Ea ?_|refine Ca ?_ _));exact oa.out)):Ja ≠ ya));clear oa HB;have oa:=Fb;have HB:=Ib;have za:=Sb;have rj:=Ec;have Bc:=Re;have Db:=Gf;have Cb:=Yf;clear Fb Ib Sb Ec Re Gf Yf hb Qb hg;have qan:=Db.out;have Lam:=Cb.out;have cV:Mv.cell? ⟨ya,0,none⟩=some (.slice Ya Pa.length Za):=(ga oa.out 0).trans rfl;have bV:Mv.cell? ⟨ya,1,none⟩=some (.int .i64 Ka):=(ga oa.out 1).trans rfl;have aV:Mv.cell? ⟨ya,2,none⟩=some (.int .i64 Ga):=(ga oa.out 2).trans rfl;have ZU:Mv.cell? ⟨ya,3,none⟩=some (.int .i64 Ia):=(ga oa.out 3).trans rfl;have YU:Mv.cell? ⟨ya,4,none⟩=some (.slice Vb Da.length Jb):=(ga oa.out 4).trans rfl;have iU:=aa oa.out 0;have hU:=aa oa.out 1;have gU:=aa oa.out 2;have fU:=aa oa.out 3;have eU:=aa oa.out 4;have Fs:Mv.cell? ⟨Ja,0,none⟩=some (.slice af Pc.length Qe):=(ga za.out 0).trans rfl;have Es:Mv.cell? ⟨Ja,1,none⟩=some (.int .i64 Ub):=(ga za.out 1).trans rfl;have Ds:Mv.cell? ⟨Ja,2,none⟩=some (.int .i64 Lb):=(ga za.out 2).trans rfl;have Cs:Mv.cell? ⟨Ja,3,none⟩=some (.int .i64 Mb):=(ga za.out 3).trans rfl;have Bs:Mv.cell? ⟨Ja,4,none⟩=some (.slice Rt jm.length Qt):=(ga za.out 4).trans rfl;have Br:=aa za.out 0;have Ar:=aa za.out 1;have vr:=aa za.out 2;have ur:=aa za.out 3;have tr:=aa za.out 4)|((with_reducible refine jb (f:=17) rfl ?_);refine Fc (some 9) rfl rfl Try.func17 (by kernel_rfl) rfl #[.slice Ya Pa.length Za,.slice af Pc.length Qe] rfl (by (try simp only [List.map_toArray,List.map_cons,List.map_nil]);first|done|rfl|(simp only [List.length_drop,List.length_take];rfl)) ?_;(with_reducible refine (Qd.calls k _ _ Pa _ _ Pc true _ ?yc ?uc ?ud ?td A3.out).mono ?_);(case yc=>repeat (first|exact (Kd.Ob qe.out HB.out)|(with_reducible refine Kd.Pb ?_ _)|(with_reducible refine Kd.Nb ?_ _)|(with_reducible refine Kd.Zb ?_)));(case uc=>exact Be.out);(case ud=>repeat (first|exact (Kd.Ob qn.out HB.out)|(with_reducible refine Kd.Pb ?_ _)|(with_reducible refine Kd.Nb ?_ _)|(with_reducible refine Kd.Zb ?_)));(case td=>exact aq.out);rintro e w' ⟨rfl,⟨nd,rfl⟩⟩;refine ⟨_,rfl,?_⟩));go_ret;exact ⟨by first|rfl|(simp [Ma,La] <;> rfl)|(simp [*,Ma,La] <;> rfl),by repeat (first|(with_reducible first|exact HB.out|apply qa|apply ia|apply ta|refine ua ?_ Sa.out|refine ua ?_ Bc.out)|exact HB.out)⟩
  ·rw [if_neg c5] at H;have sj:(Ka == Ub)=false:=beq_eq_false_iff_ne.mpr c5;have Fz:(Ka != Ub)=true:=bne_iff_ne.mpr c5;obtain rfl:=Option.some.inj H;go_enter Try.func14,Try.ntmps14;go_wp2_with (first|((with_reducible refine yb (N:=2) rfl ?_);refine Gb ?hg (N:=2) ?hd (cs:=#[.slice Ya Pa.length Za,.int .i64 Ka,.int .i64 Ga,.int .i64 Ia,.slice Vb Da.length Jb]) (t:=30) ?hr ?_;(case hd=>rfl);(case hg=>rfl);(case hr=>first|(go_simp;done)|(go_simp;rfl));intro ya hg sO Qb hb;have Fb:=ja.mk (Qa (by repeat (first|(with_reducible first|exact HB.out|apply qa|apply ia|apply ta)|exact HB.out)) hb);have Ib:=ja.mk (Qb);have Sb:=ja.mk ((by rw [hg];exact (Fa (by repeat (first|(with_reducible first|exact HB.out|apply qa|apply ia|apply ta)|exact HB.out))):w.heap.size ≤ ya));have Ec:=ja.mk ((by rw [hg];exact (Fa (by repeat (first|(with_reducible first|exact HB.out|apply qa|apply ia|apply ta)|exact HB.out))):w.heap.size ≤ ya));clear HB;have HB:=Fb;have oa:=Ib;have yd:=Sb;have Sa:=Ec;clear Fb Ib Sb Ec hb Qb hg)|((with_reducible refine yb (N:=3) rfl ?_);refine Gb ?hg (N:=3) ?hd (cs:=#[.slice af Pc.length Qe,.int .i64 Ub,.int .i64 Lb,.int .i64 Mb,.slice Rt jm.length Qt]) (t:=30) ?hr ?_;(case hd=>rfl);(case hg=>rfl);(case hr=>first|(go_simp;done)|(go_simp;rfl));intro Ja hg rO Qb hb;have Fb:=ja.mk (Ua (g:=ya) (o:=.cells #[.slice Ya Pa.length Za,.int .i64 Ka,.int .i64 Ga,.int .i64 Ia,.slice Vb Da.length Jb] 30 (0,0)) (by (with_reducible repeat (first|refine Ba ?_ _|refine Ea ?_|refine Ca ?_ _));exact oa.out) hb);have Ib:=ja.mk (Qa (by repeat (first|(with_reducible first|exact HB.out|apply qa|apply ia|apply ta|refine ua ?_ Sa.out)|exact HB.out)) hb);have Sb:=ja.mk (Qb);have Ec:=ja.mk ((by rw [hg];exact (Fa (by repeat (first|(with_reducible first|exact HB.out|apply qa|apply ia|apply ta|refine ua ?_ Sa.out)|exact HB.out))):w.heap.size ≤ Ja));have Re:=ja.mk ((by rw [hg];exact (Fa (by repeat (first|(with_reducible first|exact HB.out|apply qa|apply ia|apply ta|refine ua ?_ Sa.out)|exact HB.out))):w.heap.size ≤ Ja));have Gf:=ja.mk ((by rw [hg];exact Nat.ne_of_lt (Jc (g:=ya) (o:=.cells #[.slice Ya Pa.length Za,.int .i64 Ka,.int .i64 Ga,.int .i64 Ia,.slice Vb Da.length Jb] 30 (0,0)) (by (with_reducible repeat (first|refine Ba ?_ _|refine Ea ?_|refine Ca ?_ _));exact oa.out)):ya ≠ Ja));have Yf:=ja.mk ((by rw [hg];exact Nat.ne_of_gt (Jc (g:=ya) (o:=.cells #[.slice Ya Pa.length Za,.int .i64 Ka,.int .i64 Ga,.int .i64 Ia,.slice Vb Da.length Jb] 30 (0,0)) (by (with_reducible repeat (first|refine Ba ?_ _|refine Ea ?_|refine Ca ?_ _));exact oa.out)):Ja ≠ ya));clear oa HB;have oa:=Fb;have HB:=Ib;have za:=Sb;have rj:=Ec;have Bc:=Re;have Db:=Gf;have Cb:=Yf;clear Fb Ib Sb Ec Re Gf Yf hb Qb hg;have lan:=Db.out;have Ham:=Cb.out;have lN:rO.cell? ⟨ya,0,none⟩=some (.slice Ya Pa.length Za):=(ga oa.out 0).trans rfl;have kN:rO.cell? ⟨ya,1,none⟩=some (.int .i64 Ka):=(ga oa.out 1).trans rfl;have jN:rO.cell? ⟨ya,2,none⟩=some (.int .i64 Ga):=(ga oa.out 2).trans rfl;have iN:rO.cell? ⟨ya,3,none⟩=some (.int .i64 Ia):=(ga oa.out 3).trans rfl;have gN:rO.cell? ⟨ya,4,none⟩=some (.slice Vb Da.length Jb):=(ga oa.out 4).trans rfl;have eM:=aa oa.out 0;have dM:=aa oa.out 1;have cM:=aa oa.out 2;have bM:=aa oa.out 3;have aM:=aa oa.out 4;have nG:rO.cell? ⟨Ja,0,none⟩=some (.slice af Pc.length Qe):=(ga za.out 0).trans rfl;have mG:rO.cell? ⟨Ja,1,none⟩=some (.int .i64 Ub):=(ga za.out 1).trans rfl;have lG:rO.cell? ⟨Ja,2,none⟩=some (.int .i64 Lb):=(ga za.out 2).trans rfl;have kG:rO.cell? ⟨Ja,3,none⟩=some (.int .i64 Mb):=(ga za.out 3).trans rfl;have jG:rO.cell? ⟨Ja,4,none⟩=some (.slice Rt jm.length Qt):=(ga za.out 4).trans rfl;have xF:=aa za.out 0;have wF:=aa za.out 1;have vF:=aa za.out 2;have uF:=aa za.out 3;have tF:=aa za.out 4)|((with_reducible refine jb (f:=17) rfl ?_);refine Fc (some 9) rfl rfl Try.func17 (by kernel_rfl) rfl #[.slice Ya Pa.length Za,.slice af Pc.length Qe] rfl (by (try simp only [List.map_toArray,List.map_cons,List.map_nil]);first|done|rfl|(simp only [List.length_drop,List.length_take];rfl)) ?_;(with_reducible refine (Qd.calls k _ _ Pa _ _ Pc true _ ?yc ?uc ?ud ?td A3.out).mono ?_);(case yc=>repeat (first|exact (Kd.Ob qe.out HB.out)|(with_reducible refine Kd.Pb ?_ _)|(with_reducible refine Kd.Nb ?_ _)|(with_reducible refine Kd.Zb ?_)));(case uc=>exact Be.out);(case ud=>repeat (first|exact (Kd.Ob qn.out HB.out)|(with_reducible refine Kd.Pb ?_ _)|(with_reducible refine Kd.Nb ?_ _)|(with_reducible refine Kd.Zb ?_)));(case td=>exact aq.out);rintro e w' ⟨rfl,⟨nd,rfl⟩⟩;refine ⟨_,rfl,?_⟩));go_ret;exact ⟨by first|rfl|(simp [Ma,La] <;> rfl)|(simp [*,Ma,La] <;> rfl),by repeat (first|(with_reducible first|exact HB.out|apply qa|apply ia|apply ta|refine ua ?_ Sa.out|refine ua ?_ Bc.out)|exact HB.out)⟩
 ·replace c4:=Bool.eq_false_iff.mpr c4;subst c4;have H1:(some false)=some r:=by rw [if_neg (show ¬ (false=true) by decide)] at H;exact H
  clear H;have H:=H1;clear H1;obtain rfl:=Option.some.inj H;go_enter Try.func14,Try.ntmps14;go_wp2_with (first|((with_reducible refine yb (N:=2) rfl ?_);refine Gb ?hg (N:=2) ?hd (cs:=#[.slice Ya Pa.length Za,.int .i64 Ka,.int .i64 Ga,.int .i64 Ia,.slice Vb Da.length Jb]) (t:=30) ?hr ?_;(case hd=>rfl);(case hg=>rfl);(case hr=>first|(go_simp;done)|(go_simp;rfl));intro ya hg NS Qb hb;have Fb:=ja.mk (Qa (by repeat (first|(with_reducible first|exact HB.out|apply qa|apply ia|apply ta)|exact HB.out)) hb);have Ib:=ja.mk (Qb);have Sb:=ja.mk ((by rw [hg];exact (Fa (by repeat (first|(with_reducible first|exact HB.out|apply qa|apply ia|apply ta)|exact HB.out))):w.heap.size ≤ ya));have Ec:=ja.mk ((by rw [hg];exact (Fa (by repeat (first|(with_reducible first|exact HB.out|apply qa|apply ia|apply ta)|exact HB.out))):w.heap.size ≤ ya));clear HB;have HB:=Fb;have oa:=Ib;have yd:=Sb;have Sa:=Ec;clear Fb Ib Sb Ec hb Qb hg)|((with_reducible refine yb (N:=3) rfl ?_);refine Gb ?hg (N:=3) ?hd (cs:=#[.slice af Pc.length Qe,.int .i64 Ub,.int .i64 Lb,.int .i64 Mb,.slice Rt jm.length Qt]) (t:=30) ?hr ?_;(case hd=>rfl);(case hg=>rfl);(case hr=>first|(go_simp;done)|(go_simp;rfl));intro Ja hg DD Qb hb;have Fb:=ja.mk (Ua (g:=ya) (o:=.cells #[.slice Ya Pa.length Za,.int .i64 Ka,.int .i64 Ga,.int .i64 Ia,.slice Vb Da.length Jb] 30 (0,0)) (by (with_reducible repeat (first|refine Ba ?_ _|refine Ea ?_|refine Ca ?_ _));exact oa.out) hb);have Ib:=ja.mk (Qa (by repeat (first|(with_reducible first|exact HB.out|apply qa|apply ia|apply ta|refine ua ?_ Sa.out)|exact HB.out)) hb);have Sb:=ja.mk (Qb);have Ec:=ja.mk ((by rw [hg];exact (Fa (by repeat (first|(with_reducible first|exact HB.out|apply qa|apply ia|apply ta|refine ua ?_ Sa.out)|exact HB.out))):w.heap.size ≤ Ja));have Re:=ja.mk ((by rw [hg];exact (Fa (by repeat (first|(with_reducible first|exact HB.out|apply qa|apply ia|apply ta|refine ua ?_ Sa.out)|exact HB.out))):w.heap.size ≤ Ja));have Gf:=ja.mk ((by rw [hg];exact Nat.ne_of_lt (Jc (g:=ya) (o:=.cells #[.slice Ya Pa.length Za,.int .i64 Ka,.int .i64 Ga,.int .i64 Ia,.slice Vb Da.length Jb] 30 (0,0)) (by (with_reducible repeat (first|refine Ba ?_ _|refine Ea ?_|refine Ca ?_ _));exact oa.out)):ya ≠ Ja));have Yf:=ja.mk ((by rw [hg];exact Nat.ne_of_gt (Jc (g:=ya) (o:=.cells #[.slice Ya Pa.length Za,.int .i64 Ka,.int .i64 Ga,.int .i64 Ia,.slice Vb Da.length Jb] 30 (0,0)) (by (with_reducible repeat (first|refine Ba ?_ _|refine Ea ?_|refine Ca ?_ _));exact oa.out)):Ja ≠ ya));clear oa HB;have oa:=Fb;have HB:=Ib;have za:=Sb;have rj:=Ec;have Bc:=Re;have Db:=Gf;have Cb:=Yf;clear Fb Ib Sb Ec Re Gf Yf hb Qb hg;have m4:=Db.out;have Q3:=Cb.out;have fy:DD.cell? ⟨ya,0,none⟩=some (.slice Ya Pa.length Za):=(ga oa.out 0).trans rfl;have ey:DD.cell? ⟨ya,1,none⟩=some (.int .i64 Ka):=(ga oa.out 1).trans rfl;have dy:DD.cell? ⟨ya,2,none⟩=some (.int .i64 Ga):=(ga oa.out 2).trans rfl;have Zx:DD.cell? ⟨ya,3,none⟩=some (.int .i64 Ia):=(ga oa.out 3).trans rfl;have Yx:DD.cell? ⟨ya,4,none⟩=some (.slice Vb Da.length Jb):=(ga oa.out 4).trans rfl;have Gx:=aa oa.out 0;have Fx:=aa oa.out 1;have Ex:=aa oa.out 2;have Dx:=aa oa.out 3;have Cx:=aa oa.out 4;have WM:DD.cell? ⟨Ja,0,none⟩=some (.slice af Pc.length Qe):=(ga za.out 0).trans rfl;have VM:DD.cell? ⟨Ja,1,none⟩=some (.int .i64 Ub):=(ga za.out 1).trans rfl;have UM:DD.cell? ⟨Ja,2,none⟩=some (.int .i64 Lb):=(ga za.out 2).trans rfl;have TM:DD.cell? ⟨Ja,3,none⟩=some (.int .i64 Mb):=(ga za.out 3).trans rfl;have SM:DD.cell? ⟨Ja,4,none⟩=some (.slice Rt jm.length Qt):=(ga za.out 4).trans rfl;have QL:=aa za.out 0;have PL:=aa za.out 1;have OL:=aa za.out 2;have NL:=aa za.out 3;have ML:=aa za.out 4)|((with_reducible refine jb (f:=17) rfl ?_);refine Fc (some 9) rfl rfl Try.func17 (by kernel_rfl) rfl #[.slice Ya Pa.length Za,.slice af Pc.length Qe] rfl (by (try simp only [List.map_toArray,List.map_cons,List.map_nil]);first|done|rfl|(simp only [List.length_drop,List.length_take];rfl)) ?_;(with_reducible refine (Qd.calls k _ _ Pa _ _ Pc false _ ?yc ?uc ?ud ?td A3.out).mono ?_);(case yc=>repeat (first|exact (Kd.Ob qe.out HB.out)|(with_reducible refine Kd.Pb ?_ _)|(with_reducible refine Kd.Nb ?_ _)|(with_reducible refine Kd.Zb ?_)));(case uc=>exact Be.out);(case ud=>repeat (first|exact (Kd.Ob qn.out HB.out)|(with_reducible refine Kd.Pb ?_ _)|(with_reducible refine Kd.Nb ?_ _)|(with_reducible refine Kd.Zb ?_)));(case td=>exact aq.out);rintro e w' ⟨rfl,⟨nd,rfl⟩⟩;refine ⟨_,rfl,?_⟩));go_ret;exact ⟨by first|rfl|(simp [Ma,La] <;> rfl)|(simp [*,Ma,La] <;> rfl),by repeat (first|(with_reducible first|exact HB.out|apply qa|apply ia|apply ta|refine ua ?_ Sa.out|refine ua ?_ Bc.out)|exact HB.out)⟩
def Dg.f (a0:Int) (a1:Int) (a2:Int):Option (Bool):=if a0 ≥ a1 then (some (decide (a0 ≤ a2))) else (some false)
theorem Dg.calls (a0:Int) (a1:Int) (a2:Int) (r:Bool) (w:World) (h:Dg.f a0 a1 a2=some r) :
  Calls Try.prog 55 #[.int .i64 a0,.int .i64 a1,.int .i64 a2] w fun e w'=>e = .returned (.bool r)∧Oc w w':=by
 have H:(if a0 ≥ a1 then (some (decide (a0 ≤ a2))) else (some false))=some r:=h;clear h
 by_cases c4:a0 ≥ a1
 ·rw [if_pos c4] at H;have Mk:decide (a1 ≤ a0)=true:=decide_eq_true c4;clear c4;obtain rfl:=Option.some.inj H;go_enter Try.func55,Try.ntmps55;go_wp2;go_ret;exact ⟨by first|rfl|(simp;done)|(simp [*];done),by repeat (first|exact Oc.refl _|apply Oc.step)⟩
 ·rw [if_neg c4] at H;have Mk:decide (a1 ≤ a0)=false:=decide_eq_false c4;clear c4;obtain rfl:=Option.some.inj H;go_enter Try.func55,Try.ntmps55;go_wp2;go_ret;exact ⟨by first|rfl|(simp;done)|(simp [*];done),by repeat (first|exact Oc.refl _|apply Oc.step)⟩
theorem kX {W w1:World} (hb:Below W.heap.size W w1):(∀ b o,b < W.heap.size→w1.cell? ⟨b,o,none⟩=W.cell? ⟨b,o,none⟩)∧(∀ b o,b < W.heap.size→w1.frozen? ⟨b,o,none⟩=W.frozen? ⟨b,o,none⟩) :=
 ⟨fun b o h=>hb.cell (p:=⟨b,o,none⟩) h,fun b o h=>hb.frozen (p:=⟨b,o,none⟩) h⟩
theorem Iv {α:Type} {l:List α} {p:α→Bool} {k:Nat} {d:α} (hk:k < l.length) (h:(l.take k).any p=false) (hx:p (l.getD k d)=false):(l.take (k + 1)).any p=false:=by
 rw [List.take_succ_eq_append_getElem hk,List.any_append,h]
 simpa [List.getD_eq_getElem?_getD,List.getElem?_eq_getElem hk] using hx
theorem UN {α:Type} {l:List α} {p:α→Bool} {k:Nat} {d:α} (hk:k < l.length) (hx:p (l.getD k d)=true):l.any p=true:=by
 rw [List.any_eq_true];exact ⟨l[k],List.getElem_mem hk,by simpa [List.getD_eq_getElem?_getD,List.getElem?_eq_getElem hk] using hx⟩
theorem KD (g:Nat) (lb:Array Value) (p:Rf→Bool) (eg:∀ args w,(callFunc g args).run Try.prog w = .ok (.enter g args) w) (A0:Option Addr) (c0:Nat) (l0:List Rf) (w:World) (Rk:Kd.C jq w A0 l0.length l0) (hc0:l0.length ≤ c0)
  (hp:∀ (W:World) (x:Rf),Below w.heap.size w W→Calls Try.prog g (#[(.agg #[.int .i64 x.f0,.int .i64 x.f1,.int .i64 x.f2,.int .i64 x.f3,.int .i64 x.f4,.int .i64 x.f5,.string x.f6])] ++ lb) W fun e w'=>e = .returned (.bool (p x))∧Below W.heap.size W w') :
  Calls Try.prog 120 #[.slice A0 l0.length c0,.func (.func g) #[] lb] w fun e w'=>(∃ i:Int,e = .returned (.int .i64 i)∧decide (0 ≤ i)=l0.any p)∧Below w.heap.size w w':=by
 have wT:=Rk.2.1;have sn:=ja.mk Rk;have rI:=ja.mk hc0;have HP:=ja.mk hp;clear Rk hc0 hp;go_enter Try.func120,Try.ntmps120;go_wp2
 go_loopg [5,8] l0.length (fun gg _ s8 wr=>∃ kk:Nat,kk ≤ l0.length∧l0.length - kk ≤ gg∧s8 = .int .i64 kk∧ja (Below w.heap.size w wr)∧ja ((l0.take kk).any p=false))
 case atStart=>exact ⟨0,Nat.zero_le _,by omega,rfl,⟨Below.refl _ w⟩,⟨by simp⟩⟩
 case round =>
  (try clear BW);(try clear HA);obtain ⟨kk,hkk,hg,rfl,BW,HA⟩:=hrel
  by_cases hlt:kk < l0.length
  ·have p1:0 ≤ (kk:Int):=by omega
   have q1:(kk:Int) < (l0.length:Int):=by omega
   obtain ⟨ad,e1,hx0,hx1,kz,Sv,Nt,AP,zP⟩:=um sn.out (kk:Int) p1 q1;cases e1;simp only [Int.toNat_natCast] at hx0 hx1 kz Sv Nt AP zP;replace hx0:=(BW.out.cell (World.block_lt_of_cell? w _ hx0)).trans hx0;replace hx1:=(BW.out.cell (World.block_lt_of_cell? w _ hx1)).trans hx1;replace kz:=(BW.out.cell (World.block_lt_of_cell? w _ kz)).trans kz;replace Sv:=(BW.out.cell (World.block_lt_of_cell? w _ Sv)).trans Sv;replace Nt:=(BW.out.cell (World.block_lt_of_cell? w _ Nt)).trans Nt;replace AP:=(BW.out.cell (World.block_lt_of_cell? w _ AP)).trans AP;replace zP:=(BW.out.cell (World.block_lt_of_cell? w _ zP)).trans zP;have Bq:=HP.out wr (Ta l0 (kk:Int)) BW.out;cases hq:p (Ta l0 (kk:Int)) with
   | true =>
    rw [hq] at Bq;go_wp2_with (go_at_fn g;refine Bq.mono ?_;rintro e w1 ⟨rfl,lA⟩);go_ret;exact ⟨⟨_,rfl,by rw [UN (d:=XD) hlt hq];simp⟩,BW.out.trans (lA.mono BW.out.size)⟩
   | false =>
    rw [hq] at Bq;go_wp2_with (go_at_fn g;refine Bq.mono ?_;rintro e w1 ⟨rfl,lA⟩)
    go_roundg (l0.length - (kk + 1))
    case measure=>omega
    case rel=>exact ⟨kk + 1,by omega,by omega,by go_num,⟨BW.out.trans (lA.mono BW.out.size)⟩,⟨Iv (d:=XD) hlt HA.out hq⟩⟩
  ·have Laj:¬ (kk:Int) < (l0.length:Int):=by omega
   have he:kk=l0.length:=by omega
   subst he;go_wp2;go_ret;exact ⟨⟨_,rfl,by have h_:=HA.out;rw [List.take_length] at h_;rw [h_];simp⟩,BW.out⟩
theorem Tv (g:Nat) (lb:Array Value) (p:Rf→Bool) (eg:∀ args w,(callFunc g args).run Try.prog w = .ok (.enter g args) w) (A0:Option Addr) (c0:Nat) (l0:List Rf) (w:World) (Rk:Kd.C jq w A0 l0.length l0) (hc0:l0.length ≤ c0)
  (hp:∀ (W:World) (x:Rf),Below w.heap.size w W→Calls Try.prog g (#[(.agg #[.int .i64 x.f0,.int .i64 x.f1,.int .i64 x.f2,.int .i64 x.f3,.int .i64 x.f4,.int .i64 x.f5,.string x.f6])] ++ lb) W fun e w'=>e = .returned (.bool (p x))∧Below W.heap.size W w') :
  Calls Try.prog 102 #[.slice A0 l0.length c0,.func (.func g) #[] lb] w fun e w'=>e = .returned (.bool (l0.any p))∧Below w.heap.size w w':=by
 have HI:=ja.mk (KD g lb p eg A0 c0 l0 w Rk hc0 hp);clear Rk hc0 hp;go_enter Try.func102,Try.ntmps102;go_wp2_with (go_at_call 120;refine HI.out.mono ?_;rintro e w1 ⟨⟨i,rfl,hi⟩,lA⟩;have HD:=ja.mk hi;clear hi);go_ret;exact ⟨by rw [← HD.out];first|rfl|simp,lA⟩
def Bb.l0:Nat→List ByteArray→ByteArray→Int→Int→Option (Int)
 | 0,_,_,_,_=>none
 | k + 1,x0,x1,x7,x8=>if x8 < x7 then (if 0 ≤ x8 then (if x8 < (x0.length:Int) then (if x1.toList=(Kf ByteArray.empty x0 x8).toList then (some x8) else (Bb.l0 k x0 x1 x7 (wrap64 (x8 + 1)))) else (none)) else (none)) else (some (-1))
def Bb.f (k:Nat) (l0:List ByteArray) (a1:ByteArray):Option (Int):=Bb.l0 k l0 a1 (l0.length:Int) 0
theorem Bb.xC:∀ k,(∀ y0 y1 y2 y3,cm (Bb.l0 k y0 y1 y2 y3) (Bb.l0 (k + 1) y0 y1 y2 y3))
 | 0=>fun _ _ _ _ r h=>by simp [Bb.l0] at h
 | k + 1=>by
  have xQ:=Bb.xC k
  ·intro y0 y1 y2 y3;unfold Bb.l0
   repeat' first
   | (with_reducible exact xQ _ _ _ _)
   | (with_reducible exact cm.refl _)
   | (with_reducible exact cm.none _)
   | (with_reducible refine cm.ite ?_ ?_)
   | (with_reducible refine cm.bind ?_ (fun _=>?_))
   | exact xQ _ _ _ _
   | exact cm.none _
   | refine cm.ite ?_ ?_
   | refine cm.bind ?_ (fun _=>?_)
theorem Bb.mono:∀ a0 a1 k,cm (Bb.f k a0 a1) (Bb.f (k + 1) a0 a1):=by
 intro a0 a1 k;have xQ:=Bb.xC k;unfold Bb.f
 repeat' first
   | (with_reducible exact xQ _ _ _ _)
   | (with_reducible exact cm.refl _)
   | (with_reducible exact cm.none _)
   | (with_reducible refine cm.ite ?_ ?_)
   | (with_reducible refine cm.bind ?_ (fun _=>?_))
   | exact xQ _ _ _ _
   | exact cm.none _
   | refine cm.ite ?_ ?_
   | refine cm.bind ?_ (fun _=>?_)
theorem Bb.calls (k:Nat) (A0:Option Addr) (c0:Nat) (l0:List ByteArray) (a1:ByteArray) (r:Int) (w:World) (Rk:Kd.C Kd.string w A0 l0.length l0) (hc0:l0.length ≤ c0) (h:Bb.f k l0 a1=some r) :
  Calls Try.prog 109 #[.slice A0 l0.length c0,.string a1] w fun e w'=>e = .returned (.int .i64 r)∧Oc w w':=by
 have sn:=ja.mk Rk;have rI:=ja.mk hc0;clear Rk hc0;have H:(Bb.l0 k l0 a1 (l0.length:Int) 0)=some r:=h;clear h;have H':=ja.mk H;clear H;go_enter Try.func109,Try.ntmps109;go_wp2
 go_loopg [8] k (fun kq v8 w'=>∃ (Yo:Int),v8 = .int .i64 Yo∧ja (Bb.l0 kq l0 a1 (l0.length:Int) Yo=some r)∧ja (kq ≤ k)∧Oc w w')
 case atStart=>exact ⟨(0),(by first|rfl|(simp;done)|(simp [*];done)),H',⟨Nat.le_refl _⟩,by repeat (first|exact Oc.refl _|apply Oc.step)⟩
 case round =>
  clear H'
  try clear c1
  try clear p2
  (try clear HA);(try clear lg);obtain ⟨Yo,rfl,HA,lg,⟨m1,rfl⟩⟩:=hrel;cases gk with
  | zero=>exact absurd HA.out (by simp [Bb.l0])
  | succ k1 =>
   have H:=HA.out;clear HA;simp only [Bb.l0] at H
   by_cases c3:Yo < (l0.length:Int)
   ·rw [if_pos c3] at H;have Nh:decide (Yo < (l0.length:Int))=true:=decide_eq_true c3;clear c3
    by_cases c4:0 ≤ Yo
    ·rw [if_pos c4] at H;have Mk:decide (0 ≤ Yo)=true:=decide_eq_true c4;clear c4
     by_cases c5:Yo < (l0.length:Int)
     ·rw [if_pos c5] at H;have sj:decide (Yo < (l0.length:Int))=true:=decide_eq_true c5;clear c5
      by_cases c6:a1.toList=(Kf ByteArray.empty l0 Yo).toList
      ·rw [if_pos c6] at H;have Vm:(a1.toList == (Kf ByteArray.empty l0 Yo).toList)=true:=beq_iff_eq.mpr c6;have nA:(a1.toList != (Kf ByteArray.empty l0 Yo).toList)=false:=bne_eq_false_iff_eq.mpr c6;clear c6;obtain rfl:=Option.some.inj H;have lf:0 ≤ (Yo:Int):=Wa;have kf:Yo < (l0.length:Int):=Wa;obtain ⟨ie,wj,Nd⟩:=Kd.cv sn.out Yo lf kf;cases wj;replace lf:=eq_true lf;replace kf:=eq_true kf;go_wp2;go_ret;exact ⟨by first|rfl|(simp;done)|(simp [*];done),by repeat (first|exact Oc.refl _|apply Oc.step)⟩
      ·rw [if_neg c6] at H;have Vm:(a1.toList == (Kf ByteArray.empty l0 Yo).toList)=false:=beq_eq_false_iff_ne.mpr c6;have nA:(a1.toList != (Kf ByteArray.empty l0 Yo).toList)=true:=bne_iff_ne.mpr c6;have H':=ja.mk H;clear H;have lf:0 ≤ (Yo:Int):=Wa;have kf:Yo < (l0.length:Int):=Wa;obtain ⟨ie,wj,Nd⟩:=Kd.cv sn.out Yo lf kf;cases wj;replace lf:=eq_true lf;replace kf:=eq_true kf;go_wp2
       go_roundg k1
       case measure=>have:=lg.out;omega
       case rel=>exact ⟨(wrap64 (Yo + 1)),(by first|rfl|(simp;done)|(simp [*];done)),H',⟨by have:=lg.out;omega⟩,by repeat (first|exact Oc.refl _|apply Oc.step)⟩
     ·rw [if_neg c5] at H;exact absurd H (by simp)
    ·rw [if_neg c4] at H;exact absurd H (by simp)
   ·rw [if_neg c3] at H;have Nh:decide (Yo < (l0.length:Int))=false:=decide_eq_false c3;clear c3;obtain rfl:=Option.some.inj H;go_wp2;go_ret;exact ⟨by first|rfl|(simp;done)|(simp [*];done),by repeat (first|exact Oc.refl _|apply Oc.step)⟩
def Qc.f (k:Nat) (l0:List ByteArray) (a1:ByteArray):Option (Bool):=(Bb.f k l0 a1).bind fun t101=>(some (decide (t101 ≥ 0)))
theorem Qc.mono:∀ a0 a1 k,cm (Qc.f k a0 a1) (Qc.f (k + 1) a0 a1):=by
 intro a0 a1 k;unfold Qc.f
 repeat' first
   | (with_reducible exact Bb.mono _ _ _)
   | (with_reducible exact cm.refl _)
   | (with_reducible exact cm.none _)
   | (with_reducible refine cm.ite ?_ ?_)
   | (with_reducible refine cm.bind ?_ (fun _=>?_))
   | exact Bb.mono _ _ _
   | exact cm.none _
   | refine cm.ite ?_ ?_
   | refine cm.bind ?_ (fun _=>?_)
theorem Qc.calls (k:Nat) (A0:Option Addr) (c0:Nat) (l0:List ByteArray) (a1:ByteArray) (r:Bool) (w:World) (Rk:Kd.C Kd.string w A0 l0.length l0) (hc0:l0.length ≤ c0) (h:Qc.f k l0 a1=some r) :
  Calls Try.prog 126 #[.slice A0 l0.length c0,.string a1] w fun e w'=>e = .returned (.bool r)∧Oc w w':=by
 have sn:=ja.mk Rk;have rI:=ja.mk hc0;clear Rk hc0;have H:((Bb.f k l0 a1).bind fun t101=>(some (decide (t101 ≥ 0))))=some r:=h;clear h;replace H:=Option.bind_eq_some_iff.mp H;obtain ⟨t101,dw,H⟩:=H;replace H:(some (decide (t101 ≥ 0)))=some r:=H;have A3:=ja.mk dw;clear dw;obtain rfl:=Option.some.inj H;go_enter Try.func126,Try.ntmps126;go_wp2_with (first|((with_reducible refine jb (f:=109) rfl ?_);refine Fc (some 7) rfl rfl Try.func109 (by kernel_rfl) rfl #[.slice A0 l0.length c0,.string a1] rfl (by (try simp only [List.map_toArray,List.map_cons,List.map_nil]);first|done|rfl|(simp only [List.length_drop,List.length_take];rfl)) ?_;(with_reducible refine (Bb.calls k _ _ l0 a1 t101 _ ?yc ?uc A3.out).mono ?_);(case yc=>repeat (first|exact sn.out|(with_reducible refine Kd.Pb ?_ _)|(with_reducible refine Kd.Nb ?_ _)|(with_reducible refine Kd.Zb ?_)));(case uc=>exact rI.out);rintro e w' ⟨rfl,⟨nd,rfl⟩⟩;refine ⟨_,rfl,?_⟩));go_ret;exact ⟨by first|rfl|(simp;done)|(simp [*];done),by repeat (first|exact Oc.refl _|apply Oc.step)⟩
def Rm.f (k:Nat) (a0:ByteArray):Option (Bool):=(Qc.f k (([(⟨#[61,61]⟩:ByteArray),(⟨#[60]⟩:ByteArray),(⟨#[38]⟩:ByteArray),(⟨#[43]⟩:ByteArray),(⟨#[45]⟩:ByteArray),(⟨#[42]⟩:ByteArray)]:List ByteArray)) a0).bind fun t104=>(some t104)
theorem Rm.calls (k:Nat) (a0:ByteArray) (r:Bool) (w:World) (h:Rm.f k a0=some r) :
  Calls Try.prog 122 #[.string a0] w fun e w'=>e = .returned (.bool r)∧Below w.heap.size w w':=by
 have HB:=ja.mk (Below.refl w.heap.size w);have H:((Qc.f k (([(⟨#[61,61]⟩:ByteArray),(⟨#[60]⟩:ByteArray),(⟨#[38]⟩:ByteArray),(⟨#[43]⟩:ByteArray),(⟨#[45]⟩:ByteArray),(⟨#[42]⟩:ByteArray)]:List ByteArray)) a0).bind fun t104=>(some t104))=some r:=h;clear h;obtain ⟨Om,gh⟩:∃ y_:List ByteArray,y_=(([(⟨#[61,61]⟩:ByteArray),(⟨#[60]⟩:ByteArray),(⟨#[38]⟩:ByteArray),(⟨#[43]⟩:ByteArray),(⟨#[45]⟩:ByteArray),(⟨#[42]⟩:ByteArray)]:List ByteArray)):=⟨_,rfl⟩;replace H:((Qc.f k Om a0).bind fun t104=>(some t104))=some r:=by first|(rw [gh];with_reducible exact H)|(have ue:=(Option.bind_some _ _).symm.trans H;rw [gh];with_reducible exact ue)|(have ue:=(Option.bind_some _ _).symm.trans H;with_reducible exact ue)|with_reducible exact H|(rw [gh];exact H)|exact H
 have Zp:=ja.mk gh;clear gh;replace H:=Option.bind_eq_some_iff.mp H;obtain ⟨t104,iH,H⟩:=H;replace H:(some t104)=some r:=H;have A2:=ja.mk iH;clear iH;obtain rfl:=Option.some.inj H;go_enter Try.func122,Try.ntmps122;go_wp2_with (first|((with_reducible refine yb (N:=3) rfl ?_);refine Kd.xj Kd.string _ 9 ?hg (N:=3) ?hd (xs:=([(⟨#[61,61]⟩:ByteArray),(⟨#[60]⟩:ByteArray),(⟨#[38]⟩:ByteArray),(⟨#[43]⟩:ByteArray),(⟨#[45]⟩:ByteArray),(⟨#[42]⟩:ByteArray)]:List ByteArray)) (inner:=[.string (⟨#[61,61]⟩:ByteArray),.string (⟨#[60]⟩:ByteArray),.string (⟨#[38]⟩:ByteArray),.string (⟨#[43]⟩:ByteArray),.string (⟨#[45]⟩:ByteArray),.string (⟨#[42]⟩:ByteArray)]) (ok:=fun _=>True) (ri:=fun _=>True) ?hr ?hp (fun _ hk=>hk) trivial (Below.refl _ _) (Nat.le_refl _) (by simp) ?_;(case hd=>rfl);(case hg=>rfl);(case hr=>first|(go_simp;done)|(go_simp;rfl));(case hp=>exact (zd.one (show Kd.M Kd.string _ _ _ (⟨#[61,61]⟩:ByteArray) [.string (⟨#[61,61]⟩:ByteArray)] from rfl) (zd.one (show Kd.M Kd.string _ _ _ (⟨#[60]⟩:ByteArray) [.string (⟨#[60]⟩:ByteArray)] from rfl) (zd.one (show Kd.M Kd.string _ _ _ (⟨#[38]⟩:ByteArray) [.string (⟨#[38]⟩:ByteArray)] from rfl) (zd.one (show Kd.M Kd.string _ _ _ (⟨#[43]⟩:ByteArray) [.string (⟨#[43]⟩:ByteArray)] from rfl) (zd.one (show Kd.M Kd.string _ _ _ (⟨#[45]⟩:ByteArray) [.string (⟨#[45]⟩:ByteArray)] from rfl) (zd.one (show Kd.M Kd.string _ _ _ (⟨#[42]⟩:ByteArray) [.string (⟨#[42]⟩:ByteArray)] from rfl) (zd.none _ _))))))));intro GI w3 IQ hb en Ve;clear en Ve;(first|rw [← Zp.out] at IQ|(simp only [Int.reduceToNat] at IQ;rw [← Zp.out] at IQ));have Fb:=ja.mk (Kd.Rd IQ (Fa (by repeat (first|(with_reducible first|exact HB.out|apply qa|apply ia|apply ta)|exact HB.out))));have Ib:=ja.mk (Qa (by repeat (first|(with_reducible first|exact HB.out|apply qa|apply ia|apply ta)|exact HB.out)) hb);clear HB;have su:=Fb;have HB:=Ib;clear Fb Ib hb IQ;obtain ⟨Ao5,co5,eo5⟩:=Kd.De su.out;subst eo5)|((with_reducible refine jb (f:=126) rfl ?_);refine Fc (some 5) rfl rfl Try.func126 (by kernel_rfl) rfl #[.slice Ao5 Om.length co5,.string a0] rfl (by (try simp only [List.map_toArray,List.map_cons,List.map_nil]);first|done|rfl|(simp only [List.length_drop,List.length_take];rfl)) ?_;(with_reducible refine (Qc.calls k _ _ Om a0 t104 _ ?yc ?uc A2.out).mono ?_);(case yc=>repeat (first|exact (Kd.Lc su.out).2.2|(with_reducible refine Kd.Pb ?_ _)|(with_reducible refine Kd.Nb ?_ _)|(with_reducible refine Kd.Zb ?_)));(case uc=>exact (Kd.Lc su.out).2.1);rintro e w' ⟨rfl,⟨nd,rfl⟩⟩;refine ⟨_,rfl,?_⟩));go_ret;exact ⟨by first|rfl|(simp [Ma,La] <;> rfl)|(simp [*,Ma,La] <;> rfl),by repeat (first|(with_reducible first|exact HB.out|apply qa|apply ia|apply ta)|exact HB.out)⟩
theorem AH (g:Nat) (lb:Array Value) (p:Int→Bool) (eg:∀ args w,(callFunc g args).run Try.prog w = .ok (.enter g args) w) (A0:Option Addr) (c0:Nat) (l0:List Int) (w:World) (Rk:Kd.C (Kd.int .i64) w A0 l0.length l0) (hc0:l0.length ≤ c0)
  (hp:∀ (W:World) (x:Int),Below w.heap.size w W→Calls Try.prog g (#[(.int .i64 x)] ++ lb) W fun e w'=>e = .returned (.bool (p x))∧Below W.heap.size W w') :
  Calls Try.prog 115 #[.slice A0 l0.length c0,.func (.func g) #[] lb] w fun e w'=>(∃ i:Int,e = .returned (.int .i64 i)∧decide (0 ≤ i)=l0.any p)∧Below w.heap.size w w':=by
 have wT:=Rk.2.1;have sn:=ja.mk Rk;have rI:=ja.mk hc0;have HP:=ja.mk hp;clear Rk hc0 hp;go_enter Try.func115,Try.ntmps115;go_wp2
 go_loopg [5,8] l0.length (fun gg _ s8 wr=>∃ kk:Nat,kk ≤ l0.length∧l0.length - kk ≤ gg∧s8 = .int .i64 kk∧ja (Below w.heap.size w wr)∧ja ((l0.take kk).any p=false))
 case atStart=>exact ⟨0,Nat.zero_le _,by omega,rfl,⟨Below.refl _ w⟩,⟨by simp⟩⟩
 case round =>
  (try clear BW);(try clear HA);obtain ⟨kk,hkk,hg,rfl,BW,HA⟩:=hrel
  by_cases hlt:kk < l0.length
  ·have p1:0 ≤ (kk:Int):=by omega
   have q1:(kk:Int) < (l0.length:Int):=by omega
   obtain ⟨ad,e1,hx0⟩:=Kd.rm sn.out (kk:Int) p1 q1;cases e1;simp only [Int.toNat_natCast] at hx0;replace hx0:=(BW.out.cell (World.block_lt_of_cell? w _ hx0)).trans hx0;have Bq:=HP.out wr (rd l0 (kk:Int)) BW.out;cases hq:p (rd l0 (kk:Int)) with
   | true =>
    rw [hq] at Bq;go_wp2_with (go_at_fn g;refine Bq.mono ?_;rintro e w1 ⟨rfl,lA⟩);go_ret;exact ⟨⟨_,rfl,by rw [UN (d:=0) hlt hq];simp⟩,BW.out.trans (lA.mono BW.out.size)⟩
   | false =>
    rw [hq] at Bq;go_wp2_with (go_at_fn g;refine Bq.mono ?_;rintro e w1 ⟨rfl,lA⟩)
    go_roundg (l0.length - (kk + 1))
    case measure=>omega
    case rel=>exact ⟨kk + 1,by omega,by omega,by go_num,⟨BW.out.trans (lA.mono BW.out.size)⟩,⟨Iv (d:=0) hlt HA.out hq⟩⟩
  ·have Laj:¬ (kk:Int) < (l0.length:Int):=by omega
   have he:kk=l0.length:=by omega
   subst he;go_wp2;go_ret;exact ⟨⟨_,rfl,by have h_:=HA.out;rw [List.take_length] at h_;rw [h_];simp⟩,BW.out⟩
theorem Dz (g:Nat) (lb:Array Value) (p:Int→Bool) (eg:∀ args w,(callFunc g args).run Try.prog w = .ok (.enter g args) w) (A0:Option Addr) (c0:Nat) (l0:List Int) (w:World) (Rk:Kd.C (Kd.int .i64) w A0 l0.length l0) (hc0:l0.length ≤ c0)
  (hp:∀ (W:World) (x:Int),Below w.heap.size w W→Calls Try.prog g (#[(.int .i64 x)] ++ lb) W fun e w'=>e = .returned (.bool (p x))∧Below W.heap.size W w') :
  Calls Try.prog 99 #[.slice A0 l0.length c0,.func (.func g) #[] lb] w fun e w'=>e = .returned (.bool (l0.any p))∧Below w.heap.size w w':=by
 have HI:=ja.mk (AH g lb p eg A0 c0 l0 w Rk hc0 hp);clear Rk hc0 hp;go_enter Try.func99,Try.ntmps99;go_wp2_with (go_at_call 115;refine HI.out.mono ?_;rintro e w1 ⟨⟨i,rfl,hi⟩,lA⟩;have HD:=ja.mk hi;clear hi);go_ret;exact ⟨by rw [← HD.out];first|rfl|simp,lA⟩
def Jk (a b c:Int):Bool:=decide (b ≤ a) && decide (a ≤ c)
theorem Ik (a b c:Int) (w:World):Calls Try.prog 55 #[.int .i64 a,.int .i64 b,.int .i64 c] w fun e w'=>e = .returned (.bool (Jk a b c))∧Oc w w' :=
 Dg.calls a b c (Jk a b c) w (by
  unfold Dg.f Jk
  by_cases h:a ≥ b
  ·rw [if_pos h];have h':b ≤ a:=h;simp [h']
  ·rw [if_neg h];have h':¬ b ≤ a:=h
   simp [h'])
def Ov (l:List Int) (p v:Int):Bool:=Jk (l.length:Int) 1 4 && !(l.any fun n=>!Jk n 1 16) && Jk p 0 (if v < 6 then v else 6) && decide (v ≤ 20)
theorem wH (W:World) (x:Int):Calls Try.prog 100 #[.int .i64 x] W fun e w'=>e = .returned (.bool (!Jk x 1 16))∧Below W.heap.size W w':=by
 have HC:=ja.mk (Ik x 1 16);generalize Jk x 1 16=b at HC ⊢;go_enter Try.func100,Try.ntmps100;go_wp2_with (go_at_call 55;refine (HC.out _).mono ?_;rintro e w1 ⟨rfl,lA⟩;have HD:=ja.mk lA.below;clear lA);go_ret;exact ⟨rfl,HD.out⟩
theorem OG (p0 p1 p2 p3:Value) (A:Option Addr) (c:Nat) (w:World) :
  Calls Try.prog 101 #[.agg #[p0,p1,p2,p3],.slice A 0 c,.int .i64 0] w fun e w'=>e = .returned (.bool true)∧Below w.heap.size w w':=by
 go_enter Try.func101,Try.ntmps101;go_wp2
 go_loop [25] (fun i=>i = .int .i64 0) (fun _=>0)
 case atStart=>exact rfl
 case round =>
  obtain rfl:=hrel;go_wp2;go_ret;exact ⟨rfl,qa (qa (Below.refl _ _) _) _⟩
theorem JD (A0 A3:Option Addr) (c0 c3:Nat) (l0:List Int) (a1 a2:Int) (w:World) (Rk:Kd.C (Kd.int .i64) w A0 l0.length l0) (hc0:l0.length ≤ c0) :
  Calls Try.prog 76 #[.agg #[.slice A0 l0.length c0,.int .i64 a1,.int .i64 a2,.slice A3 0 c3]] w fun e w'=>e = .returned (.bool (Ov l0 a1 a2))∧Below w.heap.size w w':=by
 have eg:=enters_of Try.func100 (by kernel_rfl) rfl;have wT:=Rk.2.1;have GS:=ja.mk (Ik (l0.length:Int) 1 4);have HC3:=ja.mk (Ik a1 0 (if a2 < 6 then a2 else 6));have HF:=ja.mk (fun (W:World) (hb:Below w.heap.size w W)=>Dz 100 #[] (fun n=>!Jk n 1 16) eg A0 c0 l0 W (Kd.Ob Rk hb) hc0 (fun W x _=>wH W x));clear Rk hc0;unfold Ov
 by_cases h6:a2 < 6
 all_goals
  have hmin:min 6 a2=if a2 < 6 then a2 else 6:=by split <;> omega
  first|rw [if_pos h6] at HC3 hmin ⊢|rw [if_neg h6] at HC3 hmin ⊢
  cases lA:Jk (l0.length:Int) 1 4 with
  | false =>
   go_enter Try.func76,Try.ntmps76;go_wp2_with (first|(go_at_call 55;refine (Ik _ _ _ _).mono ?_;rintro e w1 ⟨rfl,⟨n,rfl⟩⟩));go_ret;exact ⟨rfl,ia (qa (Below.refl _ _) _) _⟩
  | true =>
   cases Hi:(l0.any fun n=>!Jk n 1 16) with
   | true =>
    rw [Hi] at HF;go_enter Try.func76,Try.ntmps76;go_wp2_with (first|(go_at_call 55;refine (Ik _ _ _ _).mono ?_;rintro e w1 ⟨rfl,⟨n,rfl⟩⟩)|(go_at_call 99;refine (HF.out _ (ia (qa (Below.refl _ _) _) _)).mono ?_;rintro e w1 ⟨rfl,hb⟩;have HB:=ja.mk (Qa (ia (qa (Below.refl _ _) _) _) hb);clear hb));go_ret;exact ⟨rfl,HB.out⟩
   | false =>
    rw [Hi] at HF;go_enter Try.func76,Try.ntmps76;go_wp2_with (first|(go_at_call 55;(with_reducible refine (Ik _ _ _ _).mono ?_);rintro e w1 ⟨rfl,⟨n,rfl⟩⟩)|(go_at_call 99;(with_reducible refine (HF.out _ (ia (qa (Below.refl _ _) _) _)).mono ?_);rintro e w1 ⟨rfl,hb⟩;have HB:=ja.mk (Qa (ia (qa (Below.refl _ _) _) _) hb);obtain ⟨vV,yU⟩:=kX hb;have hJ:=hb.size;simp at hJ;clear hb)|(go_at_call 101;(with_reducible refine (OG _ _ _ _ _ _ _).mono ?_);rintro e w2 ⟨rfl,hb⟩;have cw:=ja.mk (Qa (ia HB.out _) hb);clear hb))
    all_goals
     go_ret
     first
      | exact ⟨by simp [*],cw.out⟩
      | exact ⟨by simp [*],ia HB.out _⟩
def cg.f (Pa:List Int) (Ka:Int) (Ga:Int) (cJ:List (Kz)):Option Bool:=if cJ.length=0 then some (Ov Pa Ka Ga) else none
theorem cg.calls (Ya:Option Addr) (Za:Nat) (Pa:List Int) (Ka:Int) (Ga:Int) (N1:Option Addr) (LZ:Nat) (cJ:List (Kz)) (r:Bool) (w:World) (Wd:Kd.C (Kd.int .i64) w Ya Pa.length Pa) (Sd:Pa.length ≤ Za) (iam:Kd.C Rai w N1 cJ.length cJ) (Lan:cJ.length ≤ LZ) (h:cg.f Pa Ka Ga cJ=some r) :
  Calls Try.prog 76 #[.agg #[.slice Ya Pa.length Za,.int .i64 Ka,.int .i64 Ga,.slice N1 cJ.length LZ]] w fun e w'=>e = .returned (.bool r)∧Below w.heap.size w w':=by
 unfold cg.f at h
 split at h
 ·rename_i h0;injection h with h
  subst h;rw [h0];exact JD Ya N1 Za LZ Pa Ka Ga w Wd Sd
 ·cases h
theorem n9 (d:Nat) (w:World) (x0 y0:Int) (x1 y1:Int) (x2 y2:Int) (x3 y3:Int) (x4 y4:Int) (x5 y5:Int) (x6 y6:ByteArray) :
  (Op.equalIn (d + 2) 65 (.agg #[.int .i64 x0,.int .i64 x1,.int .i64 x2,.int .i64 x3,.int .i64 x4,.int .i64 x5,.string x6]) (.agg #[.int .i64 y0,.int .i64 y1,.int .i64 y2,.int .i64 y3,.int .i64 y4,.int .i64 y5,.string y6])).run Try.prog w = .ok (x0 == y0 && (x1 == y1 && (x2 == y2 && (x3 == y3 && (x4 == y4 && (x5 == y5 && (x6.toList == y6.toList))))))) w:=by
 refine bZ Try.underlying65 (by kernel_rfl) ?_;refine Cq (by rfl) (by go_simp;rfl) (by go_simp;rfl) (by go_simp) ?_;refine Cq (by rfl) (by go_simp;rfl) (by go_simp;rfl) (by go_simp) ?_;refine Cq (by rfl) (by go_simp;rfl) (by go_simp;rfl) (by go_simp) ?_;refine Cq (by rfl) (by go_simp;rfl) (by go_simp;rfl) (by go_simp) ?_;refine Cq (by rfl) (by go_simp;rfl) (by go_simp;rfl) (by go_simp) ?_;refine Cq (by rfl) (by go_simp;rfl) (by go_simp;rfl) (by go_simp) ?_;exact jR (by rfl) (by go_simp;rfl) (by go_simp;rfl) (by go_simp)
attribute [local go_sem high] n9
def LI:List ByteArray:=[⟨#[61,61]⟩,⟨#[60]⟩,⟨#[38]⟩,⟨#[43]⟩,⟨#[45]⟩,⟨#[42]⟩]
def iw (s:ByteArray):Bool:=LI.any fun y=>decide (s.toList=y.toList)
theorem EO (s:ByteArray):Rm.f 8 s=some (iw s):=by
 unfold Rm.f Qc.f Bb.f iw LI;simp only [Bb.l0,List.any_cons,List.any_nil]
 by_cases h0:s.toList=[61,61]
 ·simp [Kf,h0]
 by_cases h1:s.toList=[60]
 ·simp [Kf,h1,wrap64]
 by_cases h2:s.toList=[38]
 ·simp [Kf,h2,wrap64]
 by_cases h3:s.toList=[43]
 ·simp [Kf,h3,wrap64]
 by_cases h4:s.toList=[45]
 ·simp [Kf,h4,wrap64]
 by_cases h5:s.toList=[42]
 ·simp [Kf,h5,wrap64]
 simp [Kf,h0,h1,h2,h3,h4,h5,wrap64]
theorem dJ (s:ByteArray) (w:World):Calls Try.prog 122 #[.string s] w fun e w'=>e = .returned (.bool (iw s))∧Below w.heap.size w w':=Rm.calls 8 s (iw s) w (EO s)
def Fj (slots s:Int):Bool:=decide (0 ≤ s) && decide (s < slots)
theorem tj (B:Nat) (slots s:Int) (W:World) (SW:W.cell? ⟨B,3,none⟩=some (.int .i64 slots)):Calls Try.prog 121 #[.int .i64 s,.pointer (some ⟨B,0,none⟩)] W fun e w'=>e = .returned (.bool (Fj slots s))∧W=w':=by
 unfold Fj
 by_cases h:0 ≤ s
 all_goals
  go_enter Try.func121,Try.ntmps121;go_wp2;go_ret;exact ⟨by simp [*];try omega,rfl⟩
theorem PO (A0 A4:Option Addr) (c0 c4 n0 n4:Nat) (p1 p2 slots d a b c n:Int) (t:ByteArray) (w:World) (hn0:n0 ≤ 9223372036854775807) (kE:n4 ≤ 9223372036854775807) :
  Calls Try.prog 104 #[.agg #[.slice A0 n0 c0,.int .i64 p1,.int .i64 p2,.int .i64 slots,.slice A4 n4 c4],.agg #[.int .i64 0,.int .i64 d,.int .i64 a,.int .i64 b,.int .i64 c,.int .i64 n,.string t]] w fun e w'=>e = .returned (.bool (Fj slots d && (a == 0 && (b == 0 && (c == 0 && t.toList.isEmpty)))))∧Below w.heap.size w w':=by
 obtain ⟨W1,Qf⟩:∃ W1,W1=(w.alloc (.cells #[.slice A0 n0 c0,.int .i64 p1,.int .i64 p2,.int .i64 slots,.slice A4 n4 c4] 30 (0,0))).alloc (.cells #[.int .i64 0,.int .i64 d,.int .i64 a,.int .i64 b,.int .i64 c,.int .i64 n,.string t] 65 (0,0)):=⟨_,rfl⟩;have HW:=ja.mk Qf;have HB:=ja.mk (show Below w.heap.size w W1 from by rw [Qf];exact qa (qa (Below.refl _ _) _) _);have hz:W1.heap.size=w.heap.size + 2:=by rw [Qf];simp
 have JH:W1.cell? ⟨w.heap.size,3,none⟩=some (.int .i64 slots):=by rw [Qf];simp
 have hx0:W1.cell? ⟨w.heap.size + 1,0,none⟩=some (.int .i64 0):=by rw [Qf];simp
 have hx1:W1.cell? ⟨w.heap.size + 1,1,none⟩=some (.int .i64 d):=by rw [Qf];simp
 have kz:W1.cell? ⟨w.heap.size + 1,2,none⟩=some (.int .i64 a):=by rw [Qf];simp
 have Sv:W1.cell? ⟨w.heap.size + 1,3,none⟩=some (.int .i64 b):=by rw [Qf];simp
 have Nt:W1.cell? ⟨w.heap.size + 1,4,none⟩=some (.int .i64 c):=by rw [Qf];simp
 have AP:W1.cell? ⟨w.heap.size + 1,5,none⟩=some (.int .i64 n):=by rw [Qf];simp
 have zP:W1.cell? ⟨w.heap.size + 1,6,none⟩=some (.string t):=by rw [Qf];simp
 clear Qf;go_enter Try.func104,Try.ntmps104;go_wp2_with (first|(go_at_call 55;(with_reducible refine (Ik _ _ _ _).mono ?_);rintro e w1 ⟨rfl,⟨k1,rfl⟩⟩));rw [← HW.out];clear HW
 go_region
 all_goals go_wp2_with (first|(go_at_call 121;(refine (tj _ slots _ _ ?hc).mono ?_);(case hc=>first|(go_simp;done)|(go_simp;rfl));rintro e w1 ⟨rfl,rfl⟩))
 all_goals go_ret
 all_goals exact ⟨by (try clear vV yU hJ cw);simp [*],by repeat (first|exact HB.out|(refine Qa ?_ cw.out)|apply ia|apply ta|apply qa|refine ua ?_ (by first|omega|(simp;done)|(simp;omega)))⟩
theorem OO (A0 A4:Option Addr) (c0 c4 n0 n4:Nat) (p1 p2 slots d a b c n:Int) (t:ByteArray) (w:World) (hn0:n0 ≤ 9223372036854775807) (kE:n4 ≤ 9223372036854775807) :
  Calls Try.prog 104 #[.agg #[.slice A0 n0 c0,.int .i64 p1,.int .i64 p2,.int .i64 slots,.slice A4 n4 c4],.agg #[.int .i64 1,.int .i64 d,.int .i64 a,.int .i64 b,.int .i64 c,.int .i64 n,.string t]] w fun e w'=>e = .returned (.bool (Fj slots d && Fj slots a && (b == 0 && (c == 0 && (n == 0 && t.toList.isEmpty)))))∧Below w.heap.size w w':=by
 obtain ⟨W1,Qf⟩:∃ W1,W1=(w.alloc (.cells #[.slice A0 n0 c0,.int .i64 p1,.int .i64 p2,.int .i64 slots,.slice A4 n4 c4] 30 (0,0))).alloc (.cells #[.int .i64 1,.int .i64 d,.int .i64 a,.int .i64 b,.int .i64 c,.int .i64 n,.string t] 65 (0,0)):=⟨_,rfl⟩;have HW:=ja.mk Qf;have HB:=ja.mk (show Below w.heap.size w W1 from by rw [Qf];exact qa (qa (Below.refl _ _) _) _);have hz:W1.heap.size=w.heap.size + 2:=by rw [Qf];simp
 have JH:W1.cell? ⟨w.heap.size,3,none⟩=some (.int .i64 slots):=by rw [Qf];simp
 have hx0:W1.cell? ⟨w.heap.size + 1,0,none⟩=some (.int .i64 1):=by rw [Qf];simp
 have hx1:W1.cell? ⟨w.heap.size + 1,1,none⟩=some (.int .i64 d):=by rw [Qf];simp
 have kz:W1.cell? ⟨w.heap.size + 1,2,none⟩=some (.int .i64 a):=by rw [Qf];simp
 have Sv:W1.cell? ⟨w.heap.size + 1,3,none⟩=some (.int .i64 b):=by rw [Qf];simp
 have Nt:W1.cell? ⟨w.heap.size + 1,4,none⟩=some (.int .i64 c):=by rw [Qf];simp
 have AP:W1.cell? ⟨w.heap.size + 1,5,none⟩=some (.int .i64 n):=by rw [Qf];simp
 have zP:W1.cell? ⟨w.heap.size + 1,6,none⟩=some (.string t):=by rw [Qf];simp
 clear Qf;go_enter Try.func104,Try.ntmps104;go_wp2_with (first|(go_at_call 55;(with_reducible refine (Ik _ _ _ _).mono ?_);rintro e w1 ⟨rfl,⟨k1,rfl⟩⟩));rw [← HW.out];clear HW
 go_region
 all_goals go_wp2_with (first|(go_at_call 121;(refine (tj _ slots _ _ ?hc).mono ?_);(case hc=>first|(go_simp;done)|(go_simp;rfl));rintro e w1 ⟨rfl,rfl⟩))
 all_goals go_ret
 all_goals exact ⟨by (try clear vV yU hJ cw);simp [*],by repeat (first|exact HB.out|(refine Qa ?_ cw.out)|apply ia|apply ta|apply qa|refine ua ?_ (by first|omega|(simp;done)|(simp;omega)))⟩
theorem MO (A0 A4:Option Addr) (c0 c4 n0 n4:Nat) (p1 p2 slots d a b c n:Int) (t:ByteArray) (w:World) (hn0:n0 ≤ 9223372036854775807) (kE:n4 ≤ 9223372036854775807) :
  Calls Try.prog 104 #[.agg #[.slice A0 n0 c0,.int .i64 p1,.int .i64 p2,.int .i64 slots,.slice A4 n4 c4],.agg #[.int .i64 2,.int .i64 d,.int .i64 a,.int .i64 b,.int .i64 c,.int .i64 n,.string t]] w fun e w'=>e = .returned (.bool (Fj slots d && Fj slots a && Fj slots b && iw t && (c == 0 && n == 0)))∧Below w.heap.size w w':=by
 obtain ⟨W1,Qf⟩:∃ W1,W1=(w.alloc (.cells #[.slice A0 n0 c0,.int .i64 p1,.int .i64 p2,.int .i64 slots,.slice A4 n4 c4] 30 (0,0))).alloc (.cells #[.int .i64 2,.int .i64 d,.int .i64 a,.int .i64 b,.int .i64 c,.int .i64 n,.string t] 65 (0,0)):=⟨_,rfl⟩;have HW:=ja.mk Qf;have HB:=ja.mk (show Below w.heap.size w W1 from by rw [Qf];exact qa (qa (Below.refl _ _) _) _);have hz:W1.heap.size=w.heap.size + 2:=by rw [Qf];simp
 have JH:W1.cell? ⟨w.heap.size,3,none⟩=some (.int .i64 slots):=by rw [Qf];simp
 have hx0:W1.cell? ⟨w.heap.size + 1,0,none⟩=some (.int .i64 2):=by rw [Qf];simp
 have hx1:W1.cell? ⟨w.heap.size + 1,1,none⟩=some (.int .i64 d):=by rw [Qf];simp
 have kz:W1.cell? ⟨w.heap.size + 1,2,none⟩=some (.int .i64 a):=by rw [Qf];simp
 have Sv:W1.cell? ⟨w.heap.size + 1,3,none⟩=some (.int .i64 b):=by rw [Qf];simp
 have Nt:W1.cell? ⟨w.heap.size + 1,4,none⟩=some (.int .i64 c):=by rw [Qf];simp
 have AP:W1.cell? ⟨w.heap.size + 1,5,none⟩=some (.int .i64 n):=by rw [Qf];simp
 have zP:W1.cell? ⟨w.heap.size + 1,6,none⟩=some (.string t):=by rw [Qf];simp
 clear Qf;go_enter Try.func104,Try.ntmps104;go_wp2_with (first|(go_at_call 55;(with_reducible refine (Ik _ _ _ _).mono ?_);rintro e w1 ⟨rfl,⟨k1,rfl⟩⟩));rw [← HW.out];clear HW
 go_region
 all_goals go_wp2_with (first|(go_at_call 121;(refine (tj _ slots _ _ ?hc).mono ?_);(case hc=>first|(go_simp;done)|(go_simp;rfl));rintro e w1 ⟨rfl,rfl⟩)|(go_at_call 122;(with_reducible refine (dJ _ _).mono ?_);rintro e w2 ⟨rfl,Hi⟩;have cw:=ja.mk Hi;obtain ⟨vV,yU⟩:=kX Hi;have hJ:=Hi.size;simp at hJ;clear Hi))
 all_goals go_ret
 all_goals exact ⟨by (try clear vV yU hJ cw);simp [*],by repeat (first|exact HB.out|(refine Qa ?_ cw.out)|apply ia|apply ta|apply qa|refine ua ?_ (by first|omega|(simp;done)|(simp;omega)))⟩
theorem LO (A0 A4:Option Addr) (c0 c4 n0 n4:Nat) (p1 p2 slots d a b c n:Int) (t:ByteArray) (w:World) (hn0:n0 ≤ 9223372036854775807) (kE:n4 ≤ 9223372036854775807) :
  Calls Try.prog 104 #[.agg #[.slice A0 n0 c0,.int .i64 p1,.int .i64 p2,.int .i64 slots,.slice A4 n4 c4],.agg #[.int .i64 3,.int .i64 d,.int .i64 a,.int .i64 b,.int .i64 c,.int .i64 n,.string t]] w fun e w'=>e = .returned (.bool (Fj slots d && Fj slots b && Jk n 0 ((n0:Int) - 1) && (Fj slots a || a == -1) && (c == 0 && t.toList.isEmpty)))∧Below w.heap.size w w':=by
 obtain ⟨W1,Qf⟩:∃ W1,W1=(w.alloc (.cells #[.slice A0 n0 c0,.int .i64 p1,.int .i64 p2,.int .i64 slots,.slice A4 n4 c4] 30 (0,0))).alloc (.cells #[.int .i64 3,.int .i64 d,.int .i64 a,.int .i64 b,.int .i64 c,.int .i64 n,.string t] 65 (0,0)):=⟨_,rfl⟩;have HW:=ja.mk Qf;have HB:=ja.mk (show Below w.heap.size w W1 from by rw [Qf];exact qa (qa (Below.refl _ _) _) _);have hz:W1.heap.size=w.heap.size + 2:=by rw [Qf];simp
 have JH:W1.cell? ⟨w.heap.size,3,none⟩=some (.int .i64 slots):=by rw [Qf];simp
 have hx0:W1.cell? ⟨w.heap.size + 1,0,none⟩=some (.int .i64 3):=by rw [Qf];simp
 have hx1:W1.cell? ⟨w.heap.size + 1,1,none⟩=some (.int .i64 d):=by rw [Qf];simp
 have kz:W1.cell? ⟨w.heap.size + 1,2,none⟩=some (.int .i64 a):=by rw [Qf];simp
 have Sv:W1.cell? ⟨w.heap.size + 1,3,none⟩=some (.int .i64 b):=by rw [Qf];simp
 have Nt:W1.cell? ⟨w.heap.size + 1,4,none⟩=some (.int .i64 c):=by rw [Qf];simp
 have AP:W1.cell? ⟨w.heap.size + 1,5,none⟩=some (.int .i64 n):=by rw [Qf];simp
 have zP:W1.cell? ⟨w.heap.size + 1,6,none⟩=some (.string t):=by rw [Qf];simp
 clear Qf;go_enter Try.func104,Try.ntmps104;go_wp2_with (first|(go_at_call 55;(with_reducible refine (Ik _ _ _ _).mono ?_);rintro e w1 ⟨rfl,⟨k1,rfl⟩⟩));rw [← HW.out];clear HW
 go_region
 all_goals go_wp2_with (first|(go_at_call 121;(refine (tj _ slots _ _ ?hc).mono ?_);(case hc=>first|(go_simp;done)|(go_simp;rfl));rintro e w1 ⟨rfl,rfl⟩))
 all_goals go_ret
 all_goals exact ⟨by (try clear vV yU hJ cw);simp [*],by repeat (first|exact HB.out|(refine Qa ?_ cw.out)|apply ia|apply ta|apply qa|refine ua ?_ (by first|omega|(simp;done)|(simp;omega)))⟩
theorem KO (A0 A4:Option Addr) (c0 c4 n0 n4:Nat) (p1 p2 slots d a b c n:Int) (t:ByteArray) (w:World) (hn0:n0 ≤ 9223372036854775807) (kE:n4 ≤ 9223372036854775807) :
  Calls Try.prog 104 #[.agg #[.slice A0 n0 c0,.int .i64 p1,.int .i64 p2,.int .i64 slots,.slice A4 n4 c4],.agg #[.int .i64 4,.int .i64 d,.int .i64 a,.int .i64 b,.int .i64 c,.int .i64 n,.string t]] w fun e w'=>e = .returned (.bool (Fj slots c && Fj slots b && Jk n 0 ((n0:Int) - 1) && (Fj slots a || a == -1) && (d == 0 && t.toList.isEmpty)))∧Below w.heap.size w w':=by
 obtain ⟨W1,Qf⟩:∃ W1,W1=(w.alloc (.cells #[.slice A0 n0 c0,.int .i64 p1,.int .i64 p2,.int .i64 slots,.slice A4 n4 c4] 30 (0,0))).alloc (.cells #[.int .i64 4,.int .i64 d,.int .i64 a,.int .i64 b,.int .i64 c,.int .i64 n,.string t] 65 (0,0)):=⟨_,rfl⟩;have HW:=ja.mk Qf;have HB:=ja.mk (show Below w.heap.size w W1 from by rw [Qf];exact qa (qa (Below.refl _ _) _) _);have hz:W1.heap.size=w.heap.size + 2:=by rw [Qf];simp
 have JH:W1.cell? ⟨w.heap.size,3,none⟩=some (.int .i64 slots):=by rw [Qf];simp
 have hx0:W1.cell? ⟨w.heap.size + 1,0,none⟩=some (.int .i64 4):=by rw [Qf];simp
 have hx1:W1.cell? ⟨w.heap.size + 1,1,none⟩=some (.int .i64 d):=by rw [Qf];simp
 have kz:W1.cell? ⟨w.heap.size + 1,2,none⟩=some (.int .i64 a):=by rw [Qf];simp
 have Sv:W1.cell? ⟨w.heap.size + 1,3,none⟩=some (.int .i64 b):=by rw [Qf];simp
 have Nt:W1.cell? ⟨w.heap.size + 1,4,none⟩=some (.int .i64 c):=by rw [Qf];simp
 have AP:W1.cell? ⟨w.heap.size + 1,5,none⟩=some (.int .i64 n):=by rw [Qf];simp
 have zP:W1.cell? ⟨w.heap.size + 1,6,none⟩=some (.string t):=by rw [Qf];simp
 clear Qf;go_enter Try.func104,Try.ntmps104;go_wp2_with (first|(go_at_call 55;(with_reducible refine (Ik _ _ _ _).mono ?_);rintro e w1 ⟨rfl,⟨k1,rfl⟩⟩));rw [← HW.out];clear HW
 go_region
 all_goals go_wp2_with (first|(go_at_call 121;(refine (tj _ slots _ _ ?hc).mono ?_);(case hc=>first|(go_simp;done)|(go_simp;rfl));rintro e w1 ⟨rfl,rfl⟩))
 all_goals go_ret
 all_goals exact ⟨by (try clear vV yU hJ cw);simp [*],by repeat (first|exact HB.out|(refine Qa ?_ cw.out)|apply ia|apply ta|apply qa|refine ua ?_ (by first|omega|(simp;done)|(simp;omega)))⟩
theorem JO (A0 A4:Option Addr) (c0 c4 n0 n4:Nat) (p1 p2 slots d a b c n:Int) (t:ByteArray) (w:World) (hn0:n0 ≤ 9223372036854775807) (kE:n4 ≤ 9223372036854775807) :
  Calls Try.prog 104 #[.agg #[.slice A0 n0 c0,.int .i64 p1,.int .i64 p2,.int .i64 slots,.slice A4 n4 c4],.agg #[.int .i64 5,.int .i64 d,.int .i64 a,.int .i64 b,.int .i64 c,.int .i64 n,.string t]] w fun e w'=>e = .returned (.bool (Fj slots d && (a == 0 && (b == 0 && (c == 0 && (n == 0 && t.toList.isEmpty))))))∧Below w.heap.size w w':=by
 obtain ⟨W1,Qf⟩:∃ W1,W1=(w.alloc (.cells #[.slice A0 n0 c0,.int .i64 p1,.int .i64 p2,.int .i64 slots,.slice A4 n4 c4] 30 (0,0))).alloc (.cells #[.int .i64 5,.int .i64 d,.int .i64 a,.int .i64 b,.int .i64 c,.int .i64 n,.string t] 65 (0,0)):=⟨_,rfl⟩;have HW:=ja.mk Qf;have HB:=ja.mk (show Below w.heap.size w W1 from by rw [Qf];exact qa (qa (Below.refl _ _) _) _);have hz:W1.heap.size=w.heap.size + 2:=by rw [Qf];simp
 have JH:W1.cell? ⟨w.heap.size,3,none⟩=some (.int .i64 slots):=by rw [Qf];simp
 have hx0:W1.cell? ⟨w.heap.size + 1,0,none⟩=some (.int .i64 5):=by rw [Qf];simp
 have hx1:W1.cell? ⟨w.heap.size + 1,1,none⟩=some (.int .i64 d):=by rw [Qf];simp
 have kz:W1.cell? ⟨w.heap.size + 1,2,none⟩=some (.int .i64 a):=by rw [Qf];simp
 have Sv:W1.cell? ⟨w.heap.size + 1,3,none⟩=some (.int .i64 b):=by rw [Qf];simp
 have Nt:W1.cell? ⟨w.heap.size + 1,4,none⟩=some (.int .i64 c):=by rw [Qf];simp
 have AP:W1.cell? ⟨w.heap.size + 1,5,none⟩=some (.int .i64 n):=by rw [Qf];simp
 have zP:W1.cell? ⟨w.heap.size + 1,6,none⟩=some (.string t):=by rw [Qf];simp
 clear Qf;go_enter Try.func104,Try.ntmps104;go_wp2_with (first|(go_at_call 55;(with_reducible refine (Ik _ _ _ _).mono ?_);rintro e w1 ⟨rfl,⟨k1,rfl⟩⟩));rw [← HW.out];clear HW
 go_region
 all_goals go_wp2_with (first|(go_at_call 121;(refine (tj _ slots _ _ ?hc).mono ?_);(case hc=>first|(go_simp;done)|(go_simp;rfl));rintro e w1 ⟨rfl,rfl⟩))
 all_goals go_ret
 all_goals exact ⟨by (try clear vV yU hJ cw);simp [*],by repeat (first|exact HB.out|(refine Qa ?_ cw.out)|apply ia|apply ta|apply qa|refine ua ?_ (by first|omega|(simp;done)|(simp;omega)))⟩
theorem FO (A0 A4:Option Addr) (c0 c4 n0 n4:Nat) (p1 p2 slots d a b c n:Int) (t:ByteArray) (w:World) (hn0:n0 ≤ 9223372036854775807) (kE:n4 ≤ 9223372036854775807) :
  Calls Try.prog 104 #[.agg #[.slice A0 n0 c0,.int .i64 p1,.int .i64 p2,.int .i64 slots,.slice A4 n4 c4],.agg #[.int .i64 6,.int .i64 d,.int .i64 a,.int .i64 b,.int .i64 c,.int .i64 n,.string t]] w fun e w'=>e = .returned (.bool (Fj slots a && (d == 0 && (b == 0 && (c == 0 && (n == 0 && t.toList.isEmpty))))))∧Below w.heap.size w w':=by
 obtain ⟨W1,Qf⟩:∃ W1,W1=(w.alloc (.cells #[.slice A0 n0 c0,.int .i64 p1,.int .i64 p2,.int .i64 slots,.slice A4 n4 c4] 30 (0,0))).alloc (.cells #[.int .i64 6,.int .i64 d,.int .i64 a,.int .i64 b,.int .i64 c,.int .i64 n,.string t] 65 (0,0)):=⟨_,rfl⟩;have HW:=ja.mk Qf;have HB:=ja.mk (show Below w.heap.size w W1 from by rw [Qf];exact qa (qa (Below.refl _ _) _) _);have hz:W1.heap.size=w.heap.size + 2:=by rw [Qf];simp
 have JH:W1.cell? ⟨w.heap.size,3,none⟩=some (.int .i64 slots):=by rw [Qf];simp
 have hx0:W1.cell? ⟨w.heap.size + 1,0,none⟩=some (.int .i64 6):=by rw [Qf];simp
 have hx1:W1.cell? ⟨w.heap.size + 1,1,none⟩=some (.int .i64 d):=by rw [Qf];simp
 have kz:W1.cell? ⟨w.heap.size + 1,2,none⟩=some (.int .i64 a):=by rw [Qf];simp
 have Sv:W1.cell? ⟨w.heap.size + 1,3,none⟩=some (.int .i64 b):=by rw [Qf];simp
 have Nt:W1.cell? ⟨w.heap.size + 1,4,none⟩=some (.int .i64 c):=by rw [Qf];simp
 have AP:W1.cell? ⟨w.heap.size + 1,5,none⟩=some (.int .i64 n):=by rw [Qf];simp
 have zP:W1.cell? ⟨w.heap.size + 1,6,none⟩=some (.string t):=by rw [Qf];simp
 clear Qf;go_enter Try.func104,Try.ntmps104;go_wp2_with (first|(go_at_call 55;(with_reducible refine (Ik _ _ _ _).mono ?_);rintro e w1 ⟨rfl,⟨k1,rfl⟩⟩));rw [← HW.out];clear HW
 go_region
 all_goals go_wp2_with (first|(go_at_call 121;(refine (tj _ slots _ _ ?hc).mono ?_);(case hc=>first|(go_simp;done)|(go_simp;rfl));rintro e w1 ⟨rfl,rfl⟩))
 all_goals go_ret
 all_goals exact ⟨by (try clear vV yU hJ cw);simp [*],by repeat (first|exact HB.out|(refine Qa ?_ cw.out)|apply ia|apply ta|apply qa|refine ua ?_ (by first|omega|(simp;done)|(simp;omega)))⟩
theorem eJ (A0 A4:Option Addr) (c0 c4 n0 n4:Nat) (p1 p2 slots d a b c n:Int) (t:ByteArray) (w:World) (hn0:n0 ≤ 9223372036854775807) (kE:n4 ≤ 9223372036854775807) (o:Int) (h0:(o == 0)=false) (h1:(o == 1)=false) (h2:(o == 2)=false) (h3:(o == 3)=false) (h4:(o == 4)=false) (h5:(o == 5)=false) (h6:(o == 6)=false) :
  Calls Try.prog 104 #[.agg #[.slice A0 n0 c0,.int .i64 p1,.int .i64 p2,.int .i64 slots,.slice A4 n4 c4],.agg #[.int .i64 o,.int .i64 d,.int .i64 a,.int .i64 b,.int .i64 c,.int .i64 n,.string t]] w fun e w'=>e = .returned (.bool (false))∧Below w.heap.size w w':=by
 obtain ⟨W1,Qf⟩:∃ W1,W1=(w.alloc (.cells #[.slice A0 n0 c0,.int .i64 p1,.int .i64 p2,.int .i64 slots,.slice A4 n4 c4] 30 (0,0))).alloc (.cells #[.int .i64 o,.int .i64 d,.int .i64 a,.int .i64 b,.int .i64 c,.int .i64 n,.string t] 65 (0,0)):=⟨_,rfl⟩;have HW:=ja.mk Qf;have HB:=ja.mk (show Below w.heap.size w W1 from by rw [Qf];exact qa (qa (Below.refl _ _) _) _);have hz:W1.heap.size=w.heap.size + 2:=by rw [Qf];simp
 have JH:W1.cell? ⟨w.heap.size,3,none⟩=some (.int .i64 slots):=by rw [Qf];simp
 have hx0:W1.cell? ⟨w.heap.size + 1,0,none⟩=some (.int .i64 o):=by rw [Qf];simp
 have hx1:W1.cell? ⟨w.heap.size + 1,1,none⟩=some (.int .i64 d):=by rw [Qf];simp
 have kz:W1.cell? ⟨w.heap.size + 1,2,none⟩=some (.int .i64 a):=by rw [Qf];simp
 have Sv:W1.cell? ⟨w.heap.size + 1,3,none⟩=some (.int .i64 b):=by rw [Qf];simp
 have Nt:W1.cell? ⟨w.heap.size + 1,4,none⟩=some (.int .i64 c):=by rw [Qf];simp
 have AP:W1.cell? ⟨w.heap.size + 1,5,none⟩=some (.int .i64 n):=by rw [Qf];simp
 have zP:W1.cell? ⟨w.heap.size + 1,6,none⟩=some (.string t):=by rw [Qf];simp
 clear Qf;go_enter Try.func104,Try.ntmps104;go_wp2_with (first|(go_at_call 55;(with_reducible refine (Ik _ _ _ _).mono ?_);rintro e w1 ⟨rfl,⟨k1,rfl⟩⟩));rw [← HW.out];clear HW
 go_region
 all_goals go_wp2_with (first|(go_at_call 121;(refine (tj _ slots _ _ ?hc).mono ?_);(case hc=>first|(go_simp;done)|(go_simp;rfl));rintro e w1 ⟨rfl,rfl⟩))
 all_goals go_ret
 all_goals exact ⟨by (try clear vV yU hJ cw);simp [*],by repeat (first|exact HB.out|(refine Qa ?_ cw.out)|apply ia|apply ta|apply qa|refine ua ?_ (by first|omega|(simp;done)|(simp;omega)))⟩
def ql (n0:Nat) (slots:Int) (o d a b c n:Int) (t:ByteArray):Bool :=
 if o=0 then Fj slots d && (a == 0 && (b == 0 && (c == 0 && t.toList.isEmpty)))
 else if o=1 then Fj slots d && Fj slots a && (b == 0 && (c == 0 && (n == 0 && t.toList.isEmpty)))
 else if o=2 then Fj slots d && Fj slots a && Fj slots b && iw t && (c == 0 && n == 0)
 else if o=3 then Fj slots d && Fj slots b && Jk n 0 ((n0:Int) - 1) && (Fj slots a || a == -1) && (c == 0 && t.toList.isEmpty)
 else if o=4 then Fj slots c && Fj slots b && Jk n 0 ((n0:Int) - 1) && (Fj slots a || a == -1) && (d == 0 && t.toList.isEmpty)
 else if o=5 then Fj slots d && (a == 0 && (b == 0 && (c == 0 && (n == 0 && t.toList.isEmpty))))
 else if o=6 then Fj slots a && (d == 0 && (b == 0 && (c == 0 && (n == 0 && t.toList.isEmpty))))
 else false
theorem xH (A0 A4:Option Addr) (c0 c4 n0 n4:Nat) (p1 p2 slots:Int) (w:World) (hn0:n0 ≤ 9223372036854775807) (kE:n4 ≤ 9223372036854775807) (o d a b c n:Int) (t:ByteArray) :
  Calls Try.prog 104 #[.agg #[.slice A0 n0 c0,.int .i64 p1,.int .i64 p2,.int .i64 slots,.slice A4 n4 c4],.agg #[.int .i64 o,.int .i64 d,.int .i64 a,.int .i64 b,.int .i64 c,.int .i64 n,.string t]] w fun e w'=>e = .returned (.bool (ql n0 slots o d a b c n t))∧Below w.heap.size w w':=by
 unfold ql
 by_cases h0:o=0
 ·rw [if_pos h0,h0];exact PO A0 A4 c0 c4 n0 n4 p1 p2 slots d a b c n t w hn0 kE
 rw [if_neg h0]
 by_cases h1:o=1
 ·rw [if_pos h1,h1];exact OO A0 A4 c0 c4 n0 n4 p1 p2 slots d a b c n t w hn0 kE
 rw [if_neg h1]
 by_cases h2:o=2
 ·rw [if_pos h2,h2];exact MO A0 A4 c0 c4 n0 n4 p1 p2 slots d a b c n t w hn0 kE
 rw [if_neg h2]
 by_cases h3:o=3
 ·rw [if_pos h3,h3];exact LO A0 A4 c0 c4 n0 n4 p1 p2 slots d a b c n t w hn0 kE
 rw [if_neg h3]
 by_cases h4:o=4
 ·rw [if_pos h4,h4];exact KO A0 A4 c0 c4 n0 n4 p1 p2 slots d a b c n t w hn0 kE
 rw [if_neg h4]
 by_cases h5:o=5
 ·rw [if_pos h5,h5];exact JO A0 A4 c0 c4 n0 n4 p1 p2 slots d a b c n t w hn0 kE
 rw [if_neg h5]
 by_cases h6:o=6
 ·rw [if_pos h6,h6];exact FO A0 A4 c0 c4 n0 n4 p1 p2 slots d a b c n t w hn0 kE
 rw [if_neg h6];exact eJ A0 A4 c0 c4 n0 n4 p1 p2 slots d a b c n t w hn0 kE o (beq_eq_false_iff_ne.mpr h0) (beq_eq_false_iff_ne.mpr h1) (beq_eq_false_iff_ne.mpr h2) (beq_eq_false_iff_ne.mpr h3) (beq_eq_false_iff_ne.mpr h4) (beq_eq_false_iff_ne.mpr h5) (beq_eq_false_iff_ne.mpr h6)
def ym (n0:Nat) (slots:Int) (x:Rf):Bool:=ql n0 slots x.f0 x.f1 x.f2 x.f3 x.f4 x.f5 x.f6
def jj (n0:Nat) (slots:Int) (n4:Nat) (code:List Rf) (j a tg els:Int):Bool :=
 !(code.any fun x=>!ym n0 slots x) && decide (0 ≤ slots) &&
  (if j=0 then Jk tg 0 ((n4:Int) - 1) && a == 0 && els == 0
   else if j=1 then Jk tg 0 ((n4:Int) - 1) && Jk els 0 ((n4:Int) - 1) && Fj slots a
   else if j=2 then Fj slots a && tg == 0 && els == 0
   else false)
theorem QO (B:Nat) (A0 A4:Option Addr) (c0 c4 n0 n4:Nat) (p1 p2 slots:Int) (hn0:n0 ≤ 9223372036854775807) (kE:n4 ≤ 9223372036854775807) (W:World) (x:Rf)
  (hb0:W.cell? ⟨B,0,none⟩=some (.slice A0 n0 c0)) (lA:W.cell? ⟨B,1,none⟩=some (.int .i64 p1)) (Hi:W.cell? ⟨B,2,none⟩=some (.int .i64 p2)) (SW:W.cell? ⟨B,3,none⟩=some (.int .i64 slots)) (hb4:W.cell? ⟨B,4,none⟩=some (.slice A4 n4 c4)) (hB:B < W.heap.size) :
  Calls Try.prog 103 #[.agg #[.int .i64 x.f0,.int .i64 x.f1,.int .i64 x.f2,.int .i64 x.f3,.int .i64 x.f4,.int .i64 x.f5,.string x.f6],.pointer (some ⟨B,0,none⟩)] W
   fun e w'=>e = .returned (.bool (!ym n0 slots x))∧Below W.heap.size W w':=by
 have hne:B ≠ W.heap.size:=by omega
 unfold ym;have HC:=ja.mk (fun W'=>xH A0 A4 c0 c4 n0 n4 p1 p2 slots W' hn0 kE x.f0 x.f1 x.f2 x.f3 x.f4 x.f5 x.f6);generalize ql n0 slots x.f0 x.f1 x.f2 x.f3 x.f4 x.f5 x.f6=b at HC ⊢;go_enter Try.func103,Try.ntmps103;go_wp2_with (go_at_call 104;(with_reducible refine (HC.out _).mono ?_);rintro e w1 ⟨rfl,hb⟩;have HD:=ja.mk (Qa (qa (Below.refl _ _) _) hb);clear hb);go_ret;exact ⟨rfl,HD.out⟩
theorem yH (A0 A4 A5:Option Addr) (c0 c4 c5 n0 n4:Nat) (p1 p2 slots:Int) (l5:List Rf) (j a tg els:Int) (w:World) (hn0:n0 ≤ 9223372036854775807) (kE:n4 ≤ 9223372036854775807) (hr5:Kd.C jq w A5 l5.length l5) (hc5:l5.length ≤ c5) :
  Calls Try.prog 77 #[.agg #[.slice A0 n0 c0,.int .i64 p1,.int .i64 p2,.int .i64 slots,.slice A4 n4 c4],.agg #[.slice A5 l5.length c5,.int .i64 j,.int .i64 a,.int .i64 tg,.int .i64 els]] w fun e w'=>e = .returned (.bool (jj n0 slots n4 l5 j a tg els))∧Below w.heap.size w w':=by
 have eg:=enters_of Try.func103 (by kernel_rfl) rfl;have hm5:=hr5.2.1;obtain ⟨W1,Qf⟩:∃ W1,W1=(w.alloc (.cells #[.slice A0 n0 c0,.int .i64 p1,.int .i64 p2,.int .i64 slots,.slice A4 n4 c4] 30 (0,0))).alloc (.cells #[.slice A5 l5.length c5,.int .i64 j,.int .i64 a,.int .i64 tg,.int .i64 els] 59 (0,0)):=⟨_,rfl⟩;have HW:=ja.mk Qf;have hB1:Below w.heap.size w W1:=by rw [Qf];exact qa (qa (Below.refl _ _) _) _
 have hz:W1.heap.size=w.heap.size + 2:=by rw [Qf];simp
 have hg0:W1.cell? ⟨w.heap.size,0,none⟩=some (.slice A0 n0 c0):=by rw [Qf];simp
 have zT:W1.cell? ⟨w.heap.size,1,none⟩=some (.int .i64 p1):=by rw [Qf];simp
 have hg2:W1.cell? ⟨w.heap.size,2,none⟩=some (.int .i64 p2):=by rw [Qf];simp
 have sY:W1.cell? ⟨w.heap.size,3,none⟩=some (.int .i64 slots):=by rw [Qf];simp
 have OW:W1.cell? ⟨w.heap.size,4,none⟩=some (.slice A4 n4 c4):=by rw [Qf];simp
 have hx0:W1.cell? ⟨w.heap.size + 1,0,none⟩=some (.slice A5 l5.length c5):=by rw [Qf];simp
 have hx1:W1.cell? ⟨w.heap.size + 1,1,none⟩=some (.int .i64 j):=by rw [Qf];simp
 have kz:W1.cell? ⟨w.heap.size + 1,2,none⟩=some (.int .i64 a):=by rw [Qf];simp
 have Sv:W1.cell? ⟨w.heap.size + 1,3,none⟩=some (.int .i64 tg):=by rw [Qf];simp
 have Nt:W1.cell? ⟨w.heap.size + 1,4,none⟩=some (.int .i64 els):=by rw [Qf];simp
 have Ht:=Kd.Ob hr5 hB1;clear Qf hr5
 have HF:=ja.mk (Tv 103 #[.pointer (some ⟨w.heap.size,0,none⟩)] (fun x=>!ym n0 slots x) eg A5 c5 l5 W1 Ht hc5
  (fun W2 x hb'=>QO w.heap.size A0 A4 c0 c4 n0 n4 p1 p2 slots hn0 kE W2 x ((hb'.cell (p:=⟨w.heap.size,0,none⟩) (by simp;omega)).trans hg0) ((hb'.cell (p:=⟨w.heap.size,1,none⟩) (by simp;omega)).trans zT) ((hb'.cell (p:=⟨w.heap.size,2,none⟩) (by simp;omega)).trans hg2) ((hb'.cell (p:=⟨w.heap.size,3,none⟩) (by simp;omega)).trans sY) ((hb'.cell (p:=⟨w.heap.size,4,none⟩) (by simp;omega)).trans OW) (Nat.lt_of_lt_of_le (by omega) hb'.size)))
 have HB:=ja.mk hB1;clear Ht hB1 eg;unfold jj;cases hq:l5.any (fun x=>!ym n0 slots x) with
 | true =>
  rw [hq] at HF;go_enter Try.func77,Try.ntmps77
  go_upto_region 1 with (fail)
  rw [← HW.out];clear HW;go_wp2_with (first|(go_at_call 102;(with_reducible refine HF.out.mono ?_);rintro e w2 ⟨rfl,Hi⟩;have cw:=ja.mk Hi;clear Hi))
  all_goals
   go_ret;exact ⟨by simp,Qa HB.out cw.out⟩
 | false =>
  rw [hq] at HF;cases ha0:decide (0 ≤ a)
  all_goals
   go_enter Try.func77,Try.ntmps77
   go_upto_region 1 with (fail)
   rw [← HW.out];clear HW
   go_upto_region 3 with (first|(go_at_call 102;(with_reducible refine HF.out.mono ?_);rintro e w2 ⟨rfl,Hi⟩;replace sY:=(Hi.cell (World.block_lt_of_cell? W1 _ sY)).trans sY;replace OW:=(Hi.cell (World.block_lt_of_cell? W1 _ OW)).trans OW;replace hx1:=(Hi.cell (World.block_lt_of_cell? W1 _ hx1)).trans hx1;replace kz:=(Hi.cell (World.block_lt_of_cell? W1 _ kz)).trans kz;replace Sv:=(Hi.cell (World.block_lt_of_cell? W1 _ Sv)).trans Sv;replace Nt:=(Hi.cell (World.block_lt_of_cell? W1 _ Nt)).trans Nt;have cw:=ja.mk (Qa HB.out Hi);clear Hi HB hg0 zT hg2 hx0))
   go_quiet ((go_at_call 55;exact Calls.quiet_of ((Ik _ _ _ _).mono fun _ _ ⟨he,hm⟩=>⟨he,hm.out⟩)))
   go_wp2
   all_goals go_ret
   all_goals exact ⟨by first|(simp [Fj, *];done)|(simp [Fj, *];intros;omega)|(clear HF sY OW hx1 kz Sv Nt;simp_all [Fj];done)|(clear HF sY OW hx1 kz Sv Nt;simp_all [Fj];omega),by repeat (first|exact cw.out|apply ia)⟩
def Rh.f (Pa:List Int) (Ka:Int) (Ga:Int) (Ia:Int) (Da:List (Ce)) (Pc:List (Rf)) (Ub:Int) (Lb:Int) (Mb:Int) (ec:Int):Option Bool:=some (jj Pa.length Ia Da.length Pc Ub Lb Mb ec)
theorem Rh.calls (Ya:Option Addr) (Za:Nat) (Pa:List Int) (Ka:Int) (Ga:Int) (Ia:Int) (Vb:Option Addr) (Jb:Nat) (Da:List (Ce)) (af:Option Addr) (Qe:Nat) (Pc:List (Rf)) (Ub:Int) (Lb:Int) (Mb:Int) (ec:Int) (r:Bool) (w:World) (Wd:Kd.C (Kd.int .i64) w Ya Pa.length Pa) (Sd:Pa.length ≤ Za) (zf:Kd.C Mt w Vb Da.length Da) (uf:Da.length ≤ Jb) (Dv:Kd.C jq w af Pc.length Pc) (Fv:Pc.length ≤ Qe) (h:Rh.f Pa Ka Ga Ia Da Pc Ub Lb Mb ec=some r) :
  Calls Try.prog 77 #[.agg #[.slice Ya Pa.length Za,.int .i64 Ka,.int .i64 Ga,.int .i64 Ia,.slice Vb Da.length Jb],.agg #[.slice af Pc.length Qe,.int .i64 Ub,.int .i64 Lb,.int .i64 Mb,.int .i64 ec]] w fun e w'=>e = .returned (.bool r)∧Below w.heap.size w w':=by
 injection h with h
 subst h;exact yH Ya Vb af Za Jb Qe Pa.length Da.length Ka Ga Ia Pc Ub Lb Mb ec w Wd.2.1 zf.2.1 Dv Fv
end Go.Proofs.Ytkigbdceceeenaa.P
end
