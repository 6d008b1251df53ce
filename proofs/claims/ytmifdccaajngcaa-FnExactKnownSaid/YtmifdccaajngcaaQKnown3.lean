import Derived.Test.YtmifdccaajngcaaQKnown1
import Derived.Test.YtmifdccaajngcaaQKnown2
import Derived.Shelf.Abstract
import Derived.Outline
section
namespace Go.Proofs.Ytmifdccaajngcaa.P
open Go.RowKit Go.Proofs.Na.mc Go.Proofs.Na.jf Go.Proofs.Na.xg
set_option linter.unusedVariables false
set_option linter.unusedSimpArgs false
attribute [local go_sem] Hj Fj Rk Qk Li Ki Gj Ej
def Qb.l0:Nat→List (gh)→List (gh)→Int→Option (Bool)
 | 0,_,_,_=>none
 | k + 1,x0,x1,x5=>if x5 < (x0.length:Int) then (if 0 ≤ x5 then (if x5 < (x1.length:Int) then ((Yf.f k ((Xa x0 x5).f0) ((Xa x0 x5).f1) ((Xa x0 x5).f2) ((Xa x0 x5).f3) ((Xa x0 x5).f4) ((Xa x1 x5).f0) ((Xa x1 x5).f1) ((Xa x1 x5).f2) ((Xa x1 x5).f3) ((Xa x1 x5).f4)).bind fun t103=>(if t103=true then (Qb.l0 k x0 x1 (wrap64 (x5 + 1))) else (some false))) else (none)) else (none)) else (some true)
def Qb.f (k:Nat) (l0:List (gh)) (l1:List (gh)):Option (Bool):=if (l0.length:Int)=(l1.length:Int) then (Qb.l0 k l0 l1 0) else (some false)
theorem Qb.Sd:∀ k,(∀ y0 y1 y2,Lb (Qb.l0 k y0 y1 y2) (Qb.l0 (k + 1) y0 y1 y2))
 | 0=>fun _ _ _ r h=>by simp [Qb.l0] at h
 | k + 1=>by
  have Ff:=Qb.Sd k
  ·intro y0 y1 y2
   unfold Qb.l0
   repeat' first
   | (with_reducible exact Ff _ _ _)
   | (with_reducible exact Yf.mono _ _ _ _ _ _ _ _ _ _ _)
   | (with_reducible exact Lb.refl _)
   | (with_reducible exact Lb.none _)
   | (with_reducible refine Lb.ite ?_ ?_)
   | (with_reducible refine Lb.bind ?_ (fun _=>?_))
   | exact Ff _ _ _
   | exact Yf.mono _ _ _ _ _ _ _ _ _ _ _
   | exact Lb.none _
   | refine Lb.ite ?_ ?_
   | refine Lb.bind ?_ (fun _=>?_)
theorem Qb.mono:∀ a0 a1 k,Lb (Qb.f k a0 a1) (Qb.f (k + 1) a0 a1):=by
 intro a0 a1 k
 have Ff:=Qb.Sd k
 unfold Qb.f
 repeat' first
   | (with_reducible exact Ff _ _ _)
   | (with_reducible exact Yf.mono _ _ _ _ _ _ _ _ _ _ _)
   | (with_reducible exact Lb.refl _)
   | (with_reducible exact Lb.none _)
   | (with_reducible refine Lb.ite ?_ ?_)
   | (with_reducible refine Lb.bind ?_ (fun _=>?_))
   | exact Ff _ _ _
   | exact Yf.mono _ _ _ _ _ _ _ _ _ _ _
   | exact Lb.none _
   | refine Lb.ite ?_ ?_
   | refine Lb.bind ?_ (fun _=>?_)
def Qb.T6:Bool × List (List Nat × List Nat):=(true,[([],[]),([],[]),([0,1],[0,1]),([2],[2]),([],[]),([],[]),([4,5],[4,5]),([6],[6]),([3,7],[3,7]),([8],[8])])
def Qb.B6:List Nat:=[0,0,3,7,0,0,48,112,255,511]
theorem Qb.kJ:Xl .any (opsOf Try.f61 6)=Qb.T6:=by kernel_rfl
theorem Qb.IC:Ml Qb.T6.2 Qb.B6=true:=by kernel_rfl
set_option maxHeartbeats 8000000 in
set_option maxRecDepth 100000 in
theorem Qb.calls (k:Nat) (A0:Option Addr) (c0:Nat) (l0:List (gh)) (A1:Option Addr) (c1:Nat) (l1:List (gh)) (r:Bool) (w:World) (hr0:Kd.C Wo w A0 l0.length l0) (hc0:l0.length ≤ c0) (aC:Kd.C Wo w A1 l1.length l1) (VL:l1.length ≤ c1) (h:Qb.f k l0 l1=some r) :
  Calls Try.prog 61 #[.slice A0 l0.length c0,.slice A1 l1.length c1] w fun e w'=>e = .returned (.bool r)∧Below w.heap.size w w':=by
 have JI:=Try.underlying68
 have Gh:=ja.mk hr0
 have dw:=ja.mk hc0
 clear hr0 hc0
 have bJ:=ja.mk aC
 have OV:=ja.mk VL
 clear aC VL
 have HB:=ja.mk (Below.refl w.heap.size w)
 have H:(if (l0.length:Int)=(l1.length:Int) then (Qb.l0 k l0 l1 0) else (some false))=some r:=h
 clear h
 by_cases c3:(l0.length:Int)=(l1.length:Int)
 ·rw [if_pos c3] at H
  have Zh:((l0.length:Int) == (l1.length:Int))=true:=beq_iff_eq.mpr c3
  have Sr:((l0.length:Int) != (l1.length:Int))=false:=bne_eq_false_iff_eq.mpr c3
  have DC:(l0.length == l1.length)=true:=by first|simpa using c3|(simp at c3 ⊢;omega)
  clear c3
  have H':=ja.mk H
  clear H
  go_enter Try.func61,Try.ntmps61
  go_wp2
  go_loopg [5] k (fun kq v5 w'=>∃ (Ia:Int),v5 = .int .i64 Ia∧ja (Qb.l0 kq l0 l1 Ia=some r)∧ja (kq ≤ k)∧ja (Below w.heap.size w w'))
  case atStart=>exact ⟨(0),(by first|rfl|(simp;done)|(simp [*];done)),H',⟨Nat.le_refl _⟩,⟨by repeat (first|(with_reducible first|exact HB.out|apply qa|apply ia|apply ua)|exact HB.out)⟩⟩
  case round =>
   clear H'
   try clear c1
   try clear p2
   try clear c3
   try clear Zh
   try clear Sr
   try clear DC
   (try clear HA)
   (try clear Yg)
   (try clear HB)
   obtain ⟨Ia,rfl,HA,Yg,HB⟩:=hrel
   cases gk with
   | zero=>exact absurd HA.out (by simp [Qb.l0])
   | succ k1 =>
    have H:=HA.out
    clear HA
    simp only [Qb.l0] at H
    by_cases c4:Ia < (l0.length:Int)
    ·rw [if_pos c4] at H
     have Gi:decide (Ia < (l0.length:Int))=true:=decide_eq_true c4
     clear c4
     by_cases c5:0 ≤ Ia
     ·rw [if_pos c5] at H
      have Il:decide (0 ≤ Ia)=true:=decide_eq_true c5
      clear c5
      by_cases c6:Ia < (l1.length:Int)
      ·rw [if_pos c6] at H
       have cm:decide (Ia < (l1.length:Int))=true:=decide_eq_true c6
       clear c6
       replace H:=Option.bind_eq_some_iff.mp H
       obtain ⟨t103,AB,H⟩:=H
       replace H:(if t103=true then (Qb.l0 k1 l0 l1 (wrap64 (Ia + 1))) else (some false))=some r:=H
       have A7:=ja.mk AB
       clear AB
       by_cases c8:t103=true
       ·subst c8
        have H1:(Qb.l0 k1 l0 l1 (wrap64 (Ia + 1)))=some r:=by rw [if_pos rfl] at H;exact H
        clear H
        have H:=H1
        clear H1
        have H':=ja.mk H
        clear H
        try go_wp2
        have Gb:=ja.mk (ua HB.out)
        clear HB
        have HB:=Gb
        clear Gb
        have Je:0 ≤ (Ia:Int):=of_decide_eq_true (by first|(with_reducible assumption)|assumption)
        have Ie:Ia < (l0.length:Int):=of_decide_eq_true (by first|(with_reducible assumption)|assumption)
        obtain ⟨Gc,Ci,Bi,Tg,Ub,ic,fc,dc,Zb,Zf,ag⟩:=cg Gh.out Ia Je Ie
        have Nh:=Zb
        have Oh:=dc
        have Ph:=fc
        have Qh:=ic
        have Rh:=Ub
        cases Tg
        replace Ub:=(HB.out.cell (World.block_lt_of_cell? w _ Ub)).trans Ub
        replace ic:=(HB.out.cell (World.block_lt_of_cell? w _ ic)).trans ic
        replace fc:=(HB.out.cell (World.block_lt_of_cell? w _ fc)).trans fc
        replace dc:=(HB.out.cell (World.block_lt_of_cell? w _ dc)).trans dc
        replace Zb:=(HB.out.cell (World.block_lt_of_cell? w _ Zb)).trans Zb
        have mh:=ja.mk ag
        have Sh:=ja.mk Zf
        clear ag Zf
        replace Je:=eq_true Je
        replace Ie:=eq_true Ie
        have Gg:0 ≤ (Ia:Int):=of_decide_eq_true (by first|(with_reducible assumption)|assumption)
        have Fg:Ia < (l1.length:Int):=of_decide_eq_true (by first|(with_reducible assumption)|assumption)
        obtain ⟨bf,Uy,Gy,Fl,Ed,ee,xe,we,ue,ot,Bt⟩:=cg bJ.out Ia Gg Fg
        have Ih:=ue
        have Jh:=we
        have Kh:=xe
        have Lh:=ee
        have Mh:=Ed
        cases Fl
        replace Ed:=(HB.out.cell (World.block_lt_of_cell? w _ Ed)).trans Ed
        replace ee:=(HB.out.cell (World.block_lt_of_cell? w _ ee)).trans ee
        replace xe:=(HB.out.cell (World.block_lt_of_cell? w _ xe)).trans xe
        replace we:=(HB.out.cell (World.block_lt_of_cell? w _ we)).trans we
        replace ue:=(HB.out.cell (World.block_lt_of_cell? w _ ue)).trans ue
        have Ju:=ja.mk Bt
        have yB:=ja.mk ot
        clear Bt ot
        replace Gg:=eq_true Gg
        replace Fg:=eq_true Fg
        refine Xj (n:=10) (S:=fun w'=>w'.cell? (Gc.add ((Ia).toNat * 5))=some (.slice Ci ((Xa l0 Ia).f0).length Bi)∧w'.cell? ⟨(Gc.add ((Ia).toNat * 5)).block,(Gc.add ((Ia).toNat * 5)).off + 1,none⟩=some (.int .i64 ((Xa l0 Ia).f1))∧w'.cell? ⟨(Gc.add ((Ia).toNat * 5)).block,(Gc.add ((Ia).toNat * 5)).off + 2,none⟩=some (.int .i64 ((Xa l0 Ia).f2))∧w'.cell? ⟨(Gc.add ((Ia).toNat * 5)).block,(Gc.add ((Ia).toNat * 5)).off + 3,none⟩=some (.int .i64 ((Xa l0 Ia).f3))∧w'.cell? ⟨(Gc.add ((Ia).toNat * 5)).block,(Gc.add ((Ia).toNat * 5)).off + 4,none⟩=some (.int .i64 ((Xa l0 Ia).f4))∧w'.cell? (bf.add ((Ia).toNat * 5))=some (.slice Uy ((Xa l1 Ia).f0).length Gy)∧w'.cell? ⟨(bf.add ((Ia).toNat * 5)).block,(bf.add ((Ia).toNat * 5)).off + 1,none⟩=some (.int .i64 ((Xa l1 Ia).f1))∧w'.cell? ⟨(bf.add ((Ia).toNat * 5)).block,(bf.add ((Ia).toNat * 5)).off + 2,none⟩=some (.int .i64 ((Xa l1 Ia).f2))∧w'.cell? ⟨(bf.add ((Ia).toNat * 5)).block,(bf.add ((Ia).toNat * 5)).off + 3,none⟩=some (.int .i64 ((Xa l1 Ia).f3))∧w'.cell? ⟨(bf.add ((Ia).toNat * 5)).block,(bf.add ((Ia).toNat * 5)).off + 4,none⟩=some (.int .i64 ((Xa l1 Ia).f4))) (ds:=[]) #[false,false,false,false,false,false,false,false,false,false] (by kernel_rfl) rfl rfl ⟨((HB.out.cell (World.block_lt_of_cell? w _ Rh)).trans Rh),((HB.out.cell (World.block_lt_of_cell? w _ Qh)).trans Qh),((HB.out.cell (World.block_lt_of_cell? w _ Ph)).trans Ph),((HB.out.cell (World.block_lt_of_cell? w _ Oh)).trans Oh),((HB.out.cell (World.block_lt_of_cell? w _ Nh)).trans Nh),((HB.out.cell (World.block_lt_of_cell? w _ Mh)).trans Mh),((HB.out.cell (World.block_lt_of_cell? w _ Lh)).trans Lh),((HB.out.cell (World.block_lt_of_cell? w _ Kh)).trans Kh),((HB.out.cell (World.block_lt_of_cell? w _ Jh)).trans Jh),((HB.out.cell (World.block_lt_of_cell? w _ Ih)).trans Ih)⟩ (fun hHeld=>?_);refine Uh Qb.kJ Qb.IC (fun Cf yo=>?_)
        generalize wr.drew=w9 at HB mh Ju Ub ic fc dc Zb Ed ee xe we ue hHeld ⊢
        refine qd (i:=0) (N:=some 17) (v:=?_) (a':=?_) #[true,false,false,false,false,false,false,false,false,false] rfl rfl (Oc Cf.out (by kernel_rfl)) (fun _ _ _ h=>h) (Or.inl ⟨by rfl,?_⟩) ?_ ?_
        rotate_left
        ·intro w'
         go_simp
         with_reducible rfl
        rotate_left
        ·simp only [Act.put,List.setIfInBounds_toArray,List.set_cons_zero,List.set_cons_succ,Ib,Jb]
         rfl
        refine qd (i:=1) (N:=some 18) (v:=?_) (a':=?_) #[true,true,false,false,false,false,false,false,false,false] rfl rfl (Oc Cf.out (by kernel_rfl)) (fun _ _ _ h=>h) (Or.inl ⟨by rfl,?_⟩) ?_ ?_
        rotate_left
        ·intro w'
         go_simp
         with_reducible rfl
        rotate_left
        ·simp only [Act.put,List.setIfInBounds_toArray,List.set_cons_zero,List.set_cons_succ,Ib,Jb]
         rfl
        refine qd (i:=2) (N:=some 19) (v:=?_) (a':=?_) #[true,true,true,false,false,false,false,false,false,false] rfl rfl (Oc Cf.out (by kernel_rfl)) (fun _ _ _ h=>h) (Or.inl ⟨by rfl,?_⟩) ?_ ?_
        rotate_left
        ·intro w'
         go_simp
         with_reducible rfl
        rotate_left
        ·simp only [Act.put,List.setIfInBounds_toArray,List.set_cons_zero,List.set_cons_succ,Ib,Jb]
         rfl
        refine qd (i:=4) (N:=some 21) (v:=?_) (a':=?_) #[true,true,true,false,true,false,false,false,false,false] rfl rfl (Oc Cf.out (by kernel_rfl)) (fun _ _ _ h=>h) (Or.inl ⟨by rfl,?_⟩) ?_ ?_
        rotate_left
        ·intro w'
         go_simp
         with_reducible rfl
        rotate_left
        ·simp only [Act.put,List.setIfInBounds_toArray,List.set_cons_zero,List.set_cons_succ,Ib,Jb]
         rfl
        refine qd (i:=5) (N:=some 22) (v:=?_) (a':=?_) #[true,true,true,false,true,true,false,false,false,false] rfl rfl (Oc Cf.out (by kernel_rfl)) (fun _ _ _ h=>h) (Or.inl ⟨by rfl,?_⟩) ?_ ?_
        rotate_left
        ·intro w'
         go_simp
         with_reducible rfl
        rotate_left
        ·simp only [Act.put,List.setIfInBounds_toArray,List.set_cons_zero,List.set_cons_succ,Ib,Jb]
         rfl
        refine qd (i:=6) (N:=some 23) (v:=?_) (a':=?_) #[true,true,true,false,true,true,true,false,false,false] rfl rfl (Oc Cf.out (by kernel_rfl)) (fun _ _ _ h=>h) (Or.inl ⟨by rfl,?_⟩) ?_ ?_
        rotate_left
        ·intro w'
         go_simp
         with_reducible rfl
        rotate_left
        ·simp only [Act.put,List.setIfInBounds_toArray,List.set_cons_zero,List.set_cons_succ,Ib,Jb]
         rfl
        refine sg (i:=3) (N:=some 20) (v:=?_) (a':=?_) #[true,true,true,true,true,true,true,false,false,false] rfl rfl (af Cf.out yo.out (by kernel_rfl)) (fun _ _ _ h=>h) (Or.inl ⟨by rfl,?_⟩) hHeld ?_ ?_
        rotate_left
        ·rintro w' ⟨s0,s1,s2,s3,s4,s5,s6,s7,s8,s9⟩
         go_simp
         with_reducible rfl
        rotate_left
        ·simp only [Act.put,List.setIfInBounds_toArray,List.set_cons_zero,List.set_cons_succ,Ib,Jb]
         rfl
        refine sg (i:=7) (N:=some 24) (v:=?_) (a':=?_) #[true,true,true,true,true,true,true,true,false,false] rfl rfl (af Cf.out yo.out (by kernel_rfl)) (fun _ _ _ h=>h) (Or.inl ⟨by rfl,?_⟩) hHeld ?_ ?_
        rotate_left
        ·rintro w' ⟨s0,s1,s2,s3,s4,s5,s6,s7,s8,s9⟩
         go_simp
         with_reducible rfl
        rotate_left
        ·simp only [Act.put,List.setIfInBounds_toArray,List.set_cons_zero,List.set_cons_succ,Ib,Jb]
         rfl
        refine Vo (i:=8) (N:=some 25) #[true,true,true,true,true,true,true,true,true,false] rfl rfl (Pk Cf.out (by kernel_rfl)) (by decide) (fun K hK=>?_)
        refine Kn Try.func93 (by kernel_rfl) rfl #[.agg #[.slice Ci ((Xa l0 Ia).f0).length Bi,.int .i64 ((Xa l0 Ia).f1),.int .i64 ((Xa l0 Ia).f2),.int .i64 ((Xa l0 Ia).f3),.int .i64 ((Xa l0 Ia).f4)],.agg #[.slice Uy ((Xa l1 Ia).f0).length Gy,.int .i64 ((Xa l1 Ia).f1),.int .i64 ((Xa l1 Ia).f2),.int .i64 ((Xa l1 Ia).f3),.int .i64 ((Xa l1 Ia).f4)]] (by rfl) rfl rfl (by (try simp only [List.map_toArray,List.map_cons,List.map_nil]);first|done|rfl|(simp only [List.length_drop,List.length_take];rfl)) ?_
        with_reducible refine (Yf.calls k1 _ _ ((Xa l0 Ia).f0) ((Xa l0 Ia).f1) ((Xa l0 Ia).f2) ((Xa l0 Ia).f3) ((Xa l0 Ia).f4) _ _ ((Xa l1 Ia).f0) ((Xa l1 Ia).f1) ((Xa l1 Ia).f2) ((Xa l1 Ia).f3) ((Xa l1 Ia).f4) true _ ?side1 ?side2 ?side3 ?side4 A7.out).mono ?_
        (case side1=>repeat (first|exact (Kd.Mb mh.out HB.out)|(with_reducible refine Kd.Sc ?_ _)|(with_reducible refine Kd.Rc ?_ _)|(with_reducible refine Kd.Qd ?_)))
        (case side2=>exact Sh.out)
        (case side3=>repeat (first|exact (Kd.Mb Ju.out HB.out)|(with_reducible refine Kd.Sc ?_ _)|(with_reducible refine Kd.Rc ?_ _)|(with_reducible refine Kd.Qd ?_)))
        (case side4=>exact yB.out)
        rintro e Hq ⟨rfl,hb⟩
        refine ⟨_,rfl,?_⟩
        have Gb:=ja.mk (Qa (by repeat (first|(with_reducible first|exact HB.out|apply qa|apply ia|apply ua)|exact HB.out)) hb)
        clear HB
        have HB:=Gb
        clear Gb
        (try clear hb)
        (try clear hb2)
        (try clear hk)
        (try clear hi)
        refine hK.out _ _ ⟨((HB.out.cell (World.block_lt_of_cell? w _ Rh)).trans Rh),((HB.out.cell (World.block_lt_of_cell? w _ Qh)).trans Qh),((HB.out.cell (World.block_lt_of_cell? w _ Ph)).trans Ph),((HB.out.cell (World.block_lt_of_cell? w _ Oh)).trans Oh),((HB.out.cell (World.block_lt_of_cell? w _ Nh)).trans Nh),((HB.out.cell (World.block_lt_of_cell? w _ Mh)).trans Mh),((HB.out.cell (World.block_lt_of_cell? w _ Lh)).trans Lh),((HB.out.cell (World.block_lt_of_cell? w _ Kh)).trans Kh),((HB.out.cell (World.block_lt_of_cell? w _ Jh)).trans Jh),((HB.out.cell (World.block_lt_of_cell? w _ Ih)).trans Ih)⟩ (fun hHeld=>?_)
        clear hK K
        refine Vj (a':=?_) ?_ ?_
        rotate_left
        ·show Act.put _ (some 25) _=_
         simp only [Act.put,List.setIfInBounds_toArray,List.set_cons_zero,List.set_cons_succ,Ib,Jb]
         rfl
        refine qd (i:=9) (N:=some 26) (v:=?_) (a':=?_) #[true,true,true,true,true,true,true,true,true,true] rfl rfl (Oc Cf.out (by kernel_rfl)) (fun _ _ _ h=>h) (Or.inl ⟨by rfl,?_⟩) ?_ ?_
        rotate_left
        ·intro w'
         go_simp
         with_reducible rfl
        rotate_left
        ·simp only [Act.put,List.setIfInBounds_toArray,List.set_cons_zero,List.set_cons_succ,Ib,Jb]
         rfl
        refine wm (Sj Cf.out (by kernel_rfl)) ?_
        try go_wp2
        go_roundg k1
        case measure=>have:=Yg.out;omega
        case rel=>exact ⟨(wrap64 (Ia + 1)),(by first|rfl|(simp;done)|(simp [*];done)),H',⟨by have:=Yg.out;omega⟩,⟨by repeat (first|(with_reducible first|exact HB.out|apply qa|apply ia|apply ua)|exact HB.out)⟩⟩
       ·replace c8:=Bool.eq_false_iff.mpr c8
        subst c8
        have H1:(some false)=some r:=by rw [if_neg (show ¬ (false=true) by decide)] at H;exact H
        clear H
        have H:=H1
        clear H1
        obtain rfl:=Option.some.inj H
        try go_wp2
        have Gb:=ja.mk (ua HB.out)
        clear HB
        have HB:=Gb
        clear Gb
        have Je:0 ≤ (Ia:Int):=of_decide_eq_true (by first|(with_reducible assumption)|assumption)
        have Ie:Ia < (l0.length:Int):=of_decide_eq_true (by first|(with_reducible assumption)|assumption)
        obtain ⟨Gc,Ci,Bi,Tg,Ub,ic,fc,dc,Zb,Zf,ag⟩:=cg Gh.out Ia Je Ie
        have Nh:=Zb
        have Oh:=dc
        have Ph:=fc
        have Qh:=ic
        have Rh:=Ub
        cases Tg
        replace Ub:=(HB.out.cell (World.block_lt_of_cell? w _ Ub)).trans Ub
        replace ic:=(HB.out.cell (World.block_lt_of_cell? w _ ic)).trans ic
        replace fc:=(HB.out.cell (World.block_lt_of_cell? w _ fc)).trans fc
        replace dc:=(HB.out.cell (World.block_lt_of_cell? w _ dc)).trans dc
        replace Zb:=(HB.out.cell (World.block_lt_of_cell? w _ Zb)).trans Zb
        have mh:=ja.mk ag
        have Sh:=ja.mk Zf
        clear ag Zf
        replace Je:=eq_true Je
        replace Ie:=eq_true Ie
        have Gg:0 ≤ (Ia:Int):=of_decide_eq_true (by first|(with_reducible assumption)|assumption)
        have Fg:Ia < (l1.length:Int):=of_decide_eq_true (by first|(with_reducible assumption)|assumption)
        obtain ⟨bf,Uy,Gy,Fl,Ed,ee,xe,we,ue,ot,Bt⟩:=cg bJ.out Ia Gg Fg
        have Ih:=ue
        have Jh:=we
        have Kh:=xe
        have Lh:=ee
        have Mh:=Ed
        cases Fl
        replace Ed:=(HB.out.cell (World.block_lt_of_cell? w _ Ed)).trans Ed
        replace ee:=(HB.out.cell (World.block_lt_of_cell? w _ ee)).trans ee
        replace xe:=(HB.out.cell (World.block_lt_of_cell? w _ xe)).trans xe
        replace we:=(HB.out.cell (World.block_lt_of_cell? w _ we)).trans we
        replace ue:=(HB.out.cell (World.block_lt_of_cell? w _ ue)).trans ue
        have Ju:=ja.mk Bt
        have yB:=ja.mk ot
        clear Bt ot
        replace Gg:=eq_true Gg
        replace Fg:=eq_true Fg
        refine Xj (n:=10) (S:=fun w'=>w'.cell? (Gc.add ((Ia).toNat * 5))=some (.slice Ci ((Xa l0 Ia).f0).length Bi)∧w'.cell? ⟨(Gc.add ((Ia).toNat * 5)).block,(Gc.add ((Ia).toNat * 5)).off + 1,none⟩=some (.int .i64 ((Xa l0 Ia).f1))∧w'.cell? ⟨(Gc.add ((Ia).toNat * 5)).block,(Gc.add ((Ia).toNat * 5)).off + 2,none⟩=some (.int .i64 ((Xa l0 Ia).f2))∧w'.cell? ⟨(Gc.add ((Ia).toNat * 5)).block,(Gc.add ((Ia).toNat * 5)).off + 3,none⟩=some (.int .i64 ((Xa l0 Ia).f3))∧w'.cell? ⟨(Gc.add ((Ia).toNat * 5)).block,(Gc.add ((Ia).toNat * 5)).off + 4,none⟩=some (.int .i64 ((Xa l0 Ia).f4))∧w'.cell? (bf.add ((Ia).toNat * 5))=some (.slice Uy ((Xa l1 Ia).f0).length Gy)∧w'.cell? ⟨(bf.add ((Ia).toNat * 5)).block,(bf.add ((Ia).toNat * 5)).off + 1,none⟩=some (.int .i64 ((Xa l1 Ia).f1))∧w'.cell? ⟨(bf.add ((Ia).toNat * 5)).block,(bf.add ((Ia).toNat * 5)).off + 2,none⟩=some (.int .i64 ((Xa l1 Ia).f2))∧w'.cell? ⟨(bf.add ((Ia).toNat * 5)).block,(bf.add ((Ia).toNat * 5)).off + 3,none⟩=some (.int .i64 ((Xa l1 Ia).f3))∧w'.cell? ⟨(bf.add ((Ia).toNat * 5)).block,(bf.add ((Ia).toNat * 5)).off + 4,none⟩=some (.int .i64 ((Xa l1 Ia).f4))) (ds:=[]) #[false,false,false,false,false,false,false,false,false,false] (by kernel_rfl) rfl rfl ⟨((HB.out.cell (World.block_lt_of_cell? w _ Rh)).trans Rh),((HB.out.cell (World.block_lt_of_cell? w _ Qh)).trans Qh),((HB.out.cell (World.block_lt_of_cell? w _ Ph)).trans Ph),((HB.out.cell (World.block_lt_of_cell? w _ Oh)).trans Oh),((HB.out.cell (World.block_lt_of_cell? w _ Nh)).trans Nh),((HB.out.cell (World.block_lt_of_cell? w _ Mh)).trans Mh),((HB.out.cell (World.block_lt_of_cell? w _ Lh)).trans Lh),((HB.out.cell (World.block_lt_of_cell? w _ Kh)).trans Kh),((HB.out.cell (World.block_lt_of_cell? w _ Jh)).trans Jh),((HB.out.cell (World.block_lt_of_cell? w _ Ih)).trans Ih)⟩ (fun hHeld=>?_);refine Uh Qb.kJ Qb.IC (fun Cf yo=>?_)
        generalize wr.drew=sj at HB mh Ju Ub ic fc dc Zb Ed ee xe we ue hHeld ⊢
        refine qd (i:=0) (N:=some 17) (v:=?_) (a':=?_) #[true,false,false,false,false,false,false,false,false,false] rfl rfl (Oc Cf.out (by kernel_rfl)) (fun _ _ _ h=>h) (Or.inl ⟨by rfl,?_⟩) ?_ ?_
        rotate_left
        ·intro w'
         go_simp
         with_reducible rfl
        rotate_left
        ·simp only [Act.put,List.setIfInBounds_toArray,List.set_cons_zero,List.set_cons_succ,Ib,Jb]
         rfl
        refine qd (i:=1) (N:=some 18) (v:=?_) (a':=?_) #[true,true,false,false,false,false,false,false,false,false] rfl rfl (Oc Cf.out (by kernel_rfl)) (fun _ _ _ h=>h) (Or.inl ⟨by rfl,?_⟩) ?_ ?_
        rotate_left
        ·intro w'
         go_simp
         with_reducible rfl
        rotate_left
        ·simp only [Act.put,List.setIfInBounds_toArray,List.set_cons_zero,List.set_cons_succ,Ib,Jb]
         rfl
        refine qd (i:=2) (N:=some 19) (v:=?_) (a':=?_) #[true,true,true,false,false,false,false,false,false,false] rfl rfl (Oc Cf.out (by kernel_rfl)) (fun _ _ _ h=>h) (Or.inl ⟨by rfl,?_⟩) ?_ ?_
        rotate_left
        ·intro w'
         go_simp
         with_reducible rfl
        rotate_left
        ·simp only [Act.put,List.setIfInBounds_toArray,List.set_cons_zero,List.set_cons_succ,Ib,Jb]
         rfl
        refine qd (i:=4) (N:=some 21) (v:=?_) (a':=?_) #[true,true,true,false,true,false,false,false,false,false] rfl rfl (Oc Cf.out (by kernel_rfl)) (fun _ _ _ h=>h) (Or.inl ⟨by rfl,?_⟩) ?_ ?_
        rotate_left
        ·intro w'
         go_simp
         with_reducible rfl
        rotate_left
        ·simp only [Act.put,List.setIfInBounds_toArray,List.set_cons_zero,List.set_cons_succ,Ib,Jb]
         rfl
        refine qd (i:=5) (N:=some 22) (v:=?_) (a':=?_) #[true,true,true,false,true,true,false,false,false,false] rfl rfl (Oc Cf.out (by kernel_rfl)) (fun _ _ _ h=>h) (Or.inl ⟨by rfl,?_⟩) ?_ ?_
        rotate_left
        ·intro w'
         go_simp
         with_reducible rfl
        rotate_left
        ·simp only [Act.put,List.setIfInBounds_toArray,List.set_cons_zero,List.set_cons_succ,Ib,Jb]
         rfl
        refine qd (i:=6) (N:=some 23) (v:=?_) (a':=?_) #[true,true,true,false,true,true,true,false,false,false] rfl rfl (Oc Cf.out (by kernel_rfl)) (fun _ _ _ h=>h) (Or.inl ⟨by rfl,?_⟩) ?_ ?_
        rotate_left
        ·intro w'
         go_simp
         with_reducible rfl
        rotate_left
        ·simp only [Act.put,List.setIfInBounds_toArray,List.set_cons_zero,List.set_cons_succ,Ib,Jb]
         rfl
        refine sg (i:=3) (N:=some 20) (v:=?_) (a':=?_) #[true,true,true,true,true,true,true,false,false,false] rfl rfl (af Cf.out yo.out (by kernel_rfl)) (fun _ _ _ h=>h) (Or.inl ⟨by rfl,?_⟩) hHeld ?_ ?_
        rotate_left
        ·rintro w' ⟨s0,s1,s2,s3,s4,s5,s6,s7,s8,s9⟩
         go_simp
         with_reducible rfl
        rotate_left
        ·simp only [Act.put,List.setIfInBounds_toArray,List.set_cons_zero,List.set_cons_succ,Ib,Jb]
         rfl
        refine sg (i:=7) (N:=some 24) (v:=?_) (a':=?_) #[true,true,true,true,true,true,true,true,false,false] rfl rfl (af Cf.out yo.out (by kernel_rfl)) (fun _ _ _ h=>h) (Or.inl ⟨by rfl,?_⟩) hHeld ?_ ?_
        rotate_left
        ·rintro w' ⟨s0,s1,s2,s3,s4,s5,s6,s7,s8,s9⟩
         go_simp
         with_reducible rfl
        rotate_left
        ·simp only [Act.put,List.setIfInBounds_toArray,List.set_cons_zero,List.set_cons_succ,Ib,Jb]
         rfl
        refine Vo (i:=8) (N:=some 25) #[true,true,true,true,true,true,true,true,true,false] rfl rfl (Pk Cf.out (by kernel_rfl)) (by decide) (fun K hK=>?_)
        refine Kn Try.func93 (by kernel_rfl) rfl #[.agg #[.slice Ci ((Xa l0 Ia).f0).length Bi,.int .i64 ((Xa l0 Ia).f1),.int .i64 ((Xa l0 Ia).f2),.int .i64 ((Xa l0 Ia).f3),.int .i64 ((Xa l0 Ia).f4)],.agg #[.slice Uy ((Xa l1 Ia).f0).length Gy,.int .i64 ((Xa l1 Ia).f1),.int .i64 ((Xa l1 Ia).f2),.int .i64 ((Xa l1 Ia).f3),.int .i64 ((Xa l1 Ia).f4)]] (by rfl) rfl rfl (by (try simp only [List.map_toArray,List.map_cons,List.map_nil]);first|done|rfl|(simp only [List.length_drop,List.length_take];rfl)) ?_
        with_reducible refine (Yf.calls k1 _ _ ((Xa l0 Ia).f0) ((Xa l0 Ia).f1) ((Xa l0 Ia).f2) ((Xa l0 Ia).f3) ((Xa l0 Ia).f4) _ _ ((Xa l1 Ia).f0) ((Xa l1 Ia).f1) ((Xa l1 Ia).f2) ((Xa l1 Ia).f3) ((Xa l1 Ia).f4) false _ ?side1 ?side2 ?side3 ?side4 A7.out).mono ?_
        (case side1=>repeat (first|exact (Kd.Mb mh.out HB.out)|(with_reducible refine Kd.Sc ?_ _)|(with_reducible refine Kd.Rc ?_ _)|(with_reducible refine Kd.Qd ?_)))
        (case side2=>exact Sh.out)
        (case side3=>repeat (first|exact (Kd.Mb Ju.out HB.out)|(with_reducible refine Kd.Sc ?_ _)|(with_reducible refine Kd.Rc ?_ _)|(with_reducible refine Kd.Qd ?_)))
        (case side4=>exact yB.out)
        rintro e Nr ⟨rfl,hb⟩
        refine ⟨_,rfl,?_⟩
        have Gb:=ja.mk (Qa (by repeat (first|(with_reducible first|exact HB.out|apply qa|apply ia|apply ua)|exact HB.out)) hb)
        clear HB
        have HB:=Gb
        clear Gb
        (try clear hb)
        (try clear hb2)
        (try clear hk)
        (try clear hi)
        refine hK.out _ _ ⟨((HB.out.cell (World.block_lt_of_cell? w _ Rh)).trans Rh),((HB.out.cell (World.block_lt_of_cell? w _ Qh)).trans Qh),((HB.out.cell (World.block_lt_of_cell? w _ Ph)).trans Ph),((HB.out.cell (World.block_lt_of_cell? w _ Oh)).trans Oh),((HB.out.cell (World.block_lt_of_cell? w _ Nh)).trans Nh),((HB.out.cell (World.block_lt_of_cell? w _ Mh)).trans Mh),((HB.out.cell (World.block_lt_of_cell? w _ Lh)).trans Lh),((HB.out.cell (World.block_lt_of_cell? w _ Kh)).trans Kh),((HB.out.cell (World.block_lt_of_cell? w _ Jh)).trans Jh),((HB.out.cell (World.block_lt_of_cell? w _ Ih)).trans Ih)⟩ (fun hHeld=>?_)
        clear hK K
        refine Vj (a':=?_) ?_ ?_
        rotate_left
        ·show Act.put _ (some 25) _=_
         simp only [Act.put,List.setIfInBounds_toArray,List.set_cons_zero,List.set_cons_succ,Ib,Jb]
         rfl
        refine qd (i:=9) (N:=some 26) (v:=?_) (a':=?_) #[true,true,true,true,true,true,true,true,true,true] rfl rfl (Oc Cf.out (by kernel_rfl)) (fun _ _ _ h=>h) (Or.inl ⟨by rfl,?_⟩) ?_ ?_
        rotate_left
        ·intro w'
         go_simp
         with_reducible rfl
        rotate_left
        ·simp only [Act.put,List.setIfInBounds_toArray,List.set_cons_zero,List.set_cons_succ,Ib,Jb]
         rfl
        refine wm (Sj Cf.out (by kernel_rfl)) ?_
        try go_wp2
        go_ret
        exact ⟨by first|rfl|(simp [La,Ka] <;> rfl)|(simp [*,La,Ka] <;> rfl),by repeat (first|(with_reducible first|exact HB.out|apply qa|apply ia|apply ua)|exact HB.out)⟩
      ·rw [if_neg c6] at H
       exact absurd H (by simp)
     ·rw [if_neg c5] at H
      exact absurd H (by simp)
    ·rw [if_neg c4] at H
     have Gi:decide (Ia < (l0.length:Int))=false:=decide_eq_false c4
     clear c4
     obtain rfl:=Option.some.inj H
     go_wp2
     go_ret
     exact ⟨by first|rfl|(simp [La,Ka] <;> rfl)|(simp [*,La,Ka] <;> rfl),by repeat (first|(with_reducible first|exact HB.out|apply qa|apply ia|apply ua)|exact HB.out)⟩
 ·rw [if_neg c3] at H
  have Zh:((l0.length:Int) == (l1.length:Int))=false:=beq_eq_false_iff_ne.mpr c3
  have Sr:((l0.length:Int) != (l1.length:Int))=true:=bne_iff_ne.mpr c3
  have DC:(l0.length == l1.length)=false:=by first|simpa using c3|(simp at c3 ⊢;omega)
  obtain rfl:=Option.some.inj H
  go_enter Try.func61,Try.ntmps61
  go_wp2
  go_ret
  exact ⟨by first|rfl|(simp [La,Ka] <;> rfl)|(simp [*,La,Ka] <;> rfl),by repeat (first|(with_reducible first|exact HB.out|apply qa|apply ia|apply ua)|exact HB.out)⟩
def Jg.f (k:Nat) (Ta:List Int) (Ma:Int) (Oa:Int) (Pa:Int) (Sa:List (gh)) (Dd:List Int) (Fb:Int) (Ob:Int) (Rb:Int) (Hl:List (gh)):Option (Bool):=(Yc.f k Ta Dd).bind fun t103=>(if t103=true then (if Ma=Fb then (if Oa=Ob then (if Pa=Rb then ((Qb.f k Sa Hl).bind fun t104=>(if t104=true then (some true) else (some false))) else (some false)) else (some false)) else (some false)) else (some false))
theorem Jg.mono:∀ a0 a1 a2 a3 a4 a5 a6 a7 a8 a9 k,Lb (Jg.f k a0 a1 a2 a3 a4 a5 a6 a7 a8 a9) (Jg.f (k + 1) a0 a1 a2 a3 a4 a5 a6 a7 a8 a9):=by
 intro a0 a1 a2 a3 a4 a5 a6 a7 a8 a9 k
 unfold Jg.f
 repeat' first
   | (with_reducible exact Qb.mono _ _ _)
   | (with_reducible exact Yc.mono _ _ _)
   | (with_reducible exact Lb.refl _)
   | (with_reducible exact Lb.none _)
   | (with_reducible refine Lb.ite ?_ ?_)
   | (with_reducible refine Lb.bind ?_ (fun _=>?_))
   | exact Qb.mono _ _ _
   | exact Yc.mono _ _ _
   | exact Lb.none _
   | refine Lb.ite ?_ ?_
   | refine Lb.bind ?_ (fun _=>?_)
set_option maxHeartbeats 8000000 in
set_option maxRecDepth 100000 in
theorem Jg.calls (k:Nat) (Cb:Option Addr) (Bb:Nat) (Ta:List Int) (Ma:Int) (Oa:Int) (Pa:Int) (yc:Option Addr) (Xb:Nat) (Sa:List (gh)) (Vf:Option Addr) (Nf:Nat) (Dd:List Int) (Fb:Int) (Ob:Int) (Rb:Int) (pq:Option Addr) (oq:Nat) (Hl:List (gh)) (r:Bool) (w:World) (Rf:Kd.C (Kd.int .i64) w Cb Ta.length Ta) (Pf:Ta.length ≤ Bb) (Bg:Kd.C Wo w yc Sa.length Sa) (Eg:Sa.length ≤ Xb) (js:Kd.C (Kd.int .i64) w Vf Dd.length Dd) (Bs:Dd.length ≤ Nf) (YQ:Kd.C Wo w pq Hl.length Hl) (BR:Hl.length ≤ oq) (h:Jg.f k Ta Ma Oa Pa Sa Dd Fb Ob Rb Hl=some r) :
  Calls Try.prog 17 #[.agg #[.slice Cb Ta.length Bb,.int .i64 Ma,.int .i64 Oa,.int .i64 Pa,.slice yc Sa.length Xb],.agg #[.slice Vf Dd.length Nf,.int .i64 Fb,.int .i64 Ob,.int .i64 Rb,.slice pq Hl.length oq]] w fun e w'=>e = .returned (.bool r)∧Below w.heap.size w w':=by
 have ZB:=Try.underlying30
 have ig:=ja.mk Rf
 have mg:=ja.mk Pf
 clear Rf Pf
 have oh:=ja.mk Bg
 have qj:=ja.mk Eg
 clear Bg Eg
 have xm:=ja.mk js
 have zo:=ja.mk Bs
 clear js Bs
 have ZR:=ja.mk YQ
 have tS:=ja.mk BR
 clear YQ BR
 have HB:=ja.mk (Below.refl w.heap.size w)
 have H:((Yc.f k Ta Dd).bind fun t103=>(if t103=true then (if Ma=Fb then (if Oa=Ob then (if Pa=Rb then ((Qb.f k Sa Hl).bind fun t104=>(if t104=true then (some true) else (some false))) else (some false)) else (some false)) else (some false)) else (some false)))=some r:=h
 clear h
 replace H:=Option.bind_eq_some_iff.mp H
 obtain ⟨t103,Pv,H⟩:=H
 replace H:(if t103=true then (if Ma=Fb then (if Oa=Ob then (if Pa=Rb then ((Qb.f k Sa Hl).bind fun t104=>(if t104=true then (some true) else (some false))) else (some false)) else (some false)) else (some false)) else (some false))=some r:=H
 have A3:=ja.mk Pv
 clear Pv
 by_cases c4:t103=true
 ·subst c4
  have H1:(if Ma=Fb then (if Oa=Ob then (if Pa=Rb then ((Qb.f k Sa Hl).bind fun t104=>(if t104=true then (some true) else (some false))) else (some false)) else (some false)) else (some false))=some r:=by rw [if_pos rfl] at H;exact H
  clear H
  have H:=H1
  clear H1
  by_cases c5:Ma=Fb
  ·rw [if_pos c5] at H
   have Il:(Ma == Fb)=true:=beq_iff_eq.mpr c5
   have Bq:(Ma != Fb)=false:=bne_eq_false_iff_eq.mpr c5
   clear c5
   by_cases c6:Oa=Ob
   ·rw [if_pos c6] at H
    have cm:(Oa == Ob)=true:=beq_iff_eq.mpr c6
    have av:(Oa != Ob)=false:=bne_eq_false_iff_eq.mpr c6
    clear c6
    by_cases c7:Pa=Rb
    ·rw [if_pos c7] at H
     have bp:(Pa == Rb)=true:=beq_iff_eq.mpr c7
     have Zu:(Pa != Rb)=false:=bne_eq_false_iff_eq.mpr c7
     clear c7
     replace H:=Option.bind_eq_some_iff.mp H
     obtain ⟨t104,OL,H⟩:=H
     replace H:(if t104=true then (some true) else (some false))=some r:=H
     have A8:=ja.mk OL
     clear OL
     by_cases c9:t104=true
     ·subst c9
      have H1:(some true)=some r:=by rw [if_pos rfl] at H;exact H
      clear H
      have H:=H1
      clear H1
      obtain rfl:=Option.some.inj H
      go_enter Try.func17,Try.ntmps17
      go_wp2_with (first|((with_reducible refine Kb (N:=2) rfl ?_);refine Eb ?hg (N:=2) ?hd (cs:=#[.slice Cb Ta.length Bb,.int .i64 Ma,.int .i64 Oa,.int .i64 Pa,.slice yc Sa.length Xb]) (t:=30) ?hr ?_;(case hd=>rfl);(case hg=>rfl);(case hr=>first|(go_simp;done)|(go_simp;rfl));intro Ea hg Hq Tb hb;have Gb:=ja.mk (Qa (by repeat (first|(with_reducible first|exact HB.out|apply qa|apply ia|apply ua)|exact HB.out)) hb);have Vb:=ja.mk (Tb);have Ac:=ja.mk ((by rw [hg];exact (Ra (by repeat (first|(with_reducible first|exact HB.out|apply qa|apply ia|apply ua)|exact HB.out))):w.heap.size ≤ Ea));have ud:=ja.mk ((by rw [hg];exact (Ra (by repeat (first|(with_reducible first|exact HB.out|apply qa|apply ia|apply ua)|exact HB.out))):w.heap.size ≤ Ea));clear HB;have HB:=Gb;have za:=Vb;have Be:=Ac;have Wa:=ud;clear Gb Vb Ac ud;clear hb Tb hg)|((with_reducible refine Kb (N:=3) rfl ?_);refine Eb ?hg (N:=3) ?hd (cs:=#[.slice Vf Dd.length Nf,.int .i64 Fb,.int .i64 Ob,.int .i64 Rb,.slice pq Hl.length oq]) (t:=30) ?hr ?_;(case hd=>rfl);(case hg=>rfl);(case hr=>first|(go_simp;done)|(go_simp;rfl));intro Fa hg sj Tb hb;have Gb:=ja.mk (gb (g:=Ea) (o:=.cells #[.slice Cb Ta.length Bb,.int .i64 Ma,.int .i64 Oa,.int .i64 Pa,.slice yc Sa.length Xb] 30 (0,0)) (by (with_reducible repeat (first|refine Da ?_ _|refine Ga ?_|refine Ca ?_ _));exact za.out) hb);have Vb:=ja.mk (Qa (by repeat (first|(with_reducible first|exact HB.out|apply qa|apply ia|apply ua|refine Aa ?_ Wa.out)|exact HB.out)) hb);have Ac:=ja.mk (Tb);have ud:=ja.mk ((by rw [hg];exact (Ra (by repeat (first|(with_reducible first|exact HB.out|apply qa|apply ia|apply ua|refine Aa ?_ Wa.out)|exact HB.out))):w.heap.size ≤ Fa));have ef:=ja.mk ((by rw [hg];exact (Ra (by repeat (first|(with_reducible first|exact HB.out|apply qa|apply ia|apply ua|refine Aa ?_ Wa.out)|exact HB.out))):w.heap.size ≤ Fa));have Ag:=ja.mk ((by rw [hg];exact Nat.ne_of_lt (Lc (g:=Ea) (o:=.cells #[.slice Cb Ta.length Bb,.int .i64 Ma,.int .i64 Oa,.int .i64 Pa,.slice yc Sa.length Xb] 30 (0,0)) (by (with_reducible repeat (first|refine Da ?_ _|refine Ga ?_|refine Ca ?_ _));exact za.out)):Ea ≠ Fa));have dh:=ja.mk ((by rw [hg];exact Nat.ne_of_gt (Lc (g:=Ea) (o:=.cells #[.slice Cb Ta.length Bb,.int .i64 Ma,.int .i64 Oa,.int .i64 Pa,.slice yc Sa.length Xb] 30 (0,0)) (by (with_reducible repeat (first|refine Da ?_ _|refine Ga ?_|refine Ca ?_ _));exact za.out)):Fa ≠ Ea));clear za;clear HB;have za:=Gb;have HB:=Vb;have Ba:=Ac;have Df:=ud;have Sb:=ef;have Ua:=Ag;have jb:=dh;clear Gb Vb Ac ud ef Ag dh;clear hb Tb hg;have aK:=Ua.out;have YJ:=jb.out;have aj:sj.cell? ⟨Ea,0,none⟩=some (.slice Cb Ta.length Bb):=(ga za.out 0).trans rfl;have Zi:sj.cell? ⟨Ea,1,none⟩=some (.int .i64 Ma):=(ga za.out 1).trans rfl;have Vl:sj.cell? ⟨Ea,2,none⟩=some (.int .i64 Oa):=(ga za.out 2).trans rfl;have Ul:sj.cell? ⟨Ea,3,none⟩=some (.int .i64 Pa):=(ga za.out 3).trans rfl;have Tl:sj.cell? ⟨Ea,4,none⟩=some (.slice yc Sa.length Xb):=(ga za.out 4).trans rfl;have Yi:=aa za.out 0;have Xi:=aa za.out 1;have Sl:=aa za.out 2;have Rl:=aa za.out 3;have Ql:=aa za.out 4;have uo:sj.cell? ⟨Fa,0,none⟩=some (.slice Vf Dd.length Nf):=(ga Ba.out 0).trans rfl;have qo:sj.cell? ⟨Fa,1,none⟩=some (.int .i64 Fb):=(ga Ba.out 1).trans rfl;have Zp:sj.cell? ⟨Fa,2,none⟩=some (.int .i64 Ob):=(ga Ba.out 2).trans rfl;have Yp:sj.cell? ⟨Fa,3,none⟩=some (.int .i64 Rb):=(ga Ba.out 3).trans rfl;have Xp:sj.cell? ⟨Fa,4,none⟩=some (.slice pq Hl.length oq):=(ga Ba.out 4).trans rfl;have jo:=aa Ba.out 0;have fo:=aa Ba.out 1;have Ip:=aa Ba.out 2;have Hp:=aa Ba.out 3;have Gp:=aa Ba.out 4)|((with_reducible refine mb (f:=20) rfl ?_);refine yd (some 9) rfl rfl Try.func20 (by kernel_rfl) rfl #[.slice Cb Ta.length Bb,.slice Vf Dd.length Nf] rfl (by (try simp only [List.map_toArray,List.map_cons,List.map_nil]);first|done|rfl|(simp only [List.length_drop,List.length_take];rfl)) ?_;(with_reducible refine (Yc.calls k _ _ Ta _ _ Dd true _ ?side1 ?side2 ?side3 ?side4 A3.out).mono ?_);(case side1=>repeat (first|exact (Kd.Mb ig.out HB.out)|(with_reducible refine Kd.Sc ?_ _)|(with_reducible refine Kd.Rc ?_ _)|(with_reducible refine Kd.Qd ?_)));(case side2=>exact mg.out);(case side3=>repeat (first|exact (Kd.Mb xm.out HB.out)|(with_reducible refine Kd.Sc ?_ _)|(with_reducible refine Kd.Rc ?_ _)|(with_reducible refine Kd.Qd ?_)));(case side4=>exact zo.out);rintro e w' ⟨rfl,⟨nd,rfl⟩⟩;refine ⟨_,rfl,?_⟩)|((with_reducible refine mb (f:=61) rfl ?_);refine yd (some 30) rfl rfl Try.func61 (by kernel_rfl) rfl #[.slice yc Sa.length Xb,.slice pq Hl.length oq] rfl (by (try simp only [List.map_toArray,List.map_cons,List.map_nil]);first|done|rfl|(simp only [List.length_drop,List.length_take];rfl)) ?_;(with_reducible refine (Qb.calls k _ _ Sa _ _ Hl true _ ?side1 ?side2 ?side3 ?side4 A8.out).mono ?_);(case side1=>repeat (first|exact (Kd.Mb oh.out (by repeat (first|(with_reducible first|exact HB.out|apply qa|apply ia|apply ua|refine Aa ?_ Wa.out|refine Aa ?_ Sb.out)|exact HB.out)))|(with_reducible refine Kd.Sc ?_ _)|(with_reducible refine Kd.Rc ?_ _)|(with_reducible refine Kd.Qd ?_)));(case side2=>exact qj.out);(case side3=>repeat (first|exact (Kd.Mb ZR.out (by repeat (first|(with_reducible first|exact HB.out|apply qa|apply ia|apply ua|refine Aa ?_ Wa.out|refine Aa ?_ Sb.out)|exact HB.out)))|(with_reducible refine Kd.Sc ?_ _)|(with_reducible refine Kd.Rc ?_ _)|(with_reducible refine Kd.Qd ?_)));(case side4=>exact tS.out);rintro e Nk ⟨rfl,hb⟩;refine ⟨_,rfl,?_⟩;have Gb:=ja.mk (gb (g:=Ea) (o:=.cells #[.slice Cb Ta.length Bb,.int .i64 Ma,.int .i64 Oa,.int .i64 Pa,.slice yc Sa.length Xb] 30 (0,0)) (by (with_reducible repeat (first|refine Da ?_ _|refine Ga ?_|refine Ca ?_ _));exact za.out) hb);have Vb:=ja.mk (gb (g:=Fa) (o:=.cells #[.slice Vf Dd.length Nf,.int .i64 Fb,.int .i64 Ob,.int .i64 Rb,.slice pq Hl.length oq] 30 (0,0)) (by (with_reducible repeat (first|refine Da ?_ _|refine Ga ?_|refine Ca ?_ _));exact Ba.out) hb);have Ac:=ja.mk (Qa (by repeat (first|(with_reducible first|exact HB.out|apply qa|apply ia|apply ua|refine Aa ?_ Wa.out|refine Aa ?_ Sb.out)|exact HB.out)) hb);clear za;clear Ba;clear HB;have za:=Gb;have Ba:=Vb;have HB:=Ac;clear Gb Vb Ac;(try clear hb);(try clear hb2);(try clear hk);(try clear hi)))
      go_ret
      exact ⟨by first|rfl|(simp [La,Ka] <;> rfl)|(simp [*,La,Ka] <;> rfl),by repeat (first|(with_reducible first|exact HB.out|apply qa|apply ia|apply ua|refine Aa ?_ Wa.out|refine Aa ?_ Sb.out)|exact HB.out)⟩
     ·replace c9:=Bool.eq_false_iff.mpr c9
      subst c9
      have H1:(some false)=some r:=by rw [if_neg (show ¬ (false=true) by decide)] at H;exact H
      clear H
      have H:=H1
      clear H1
      obtain rfl:=Option.some.inj H
      go_enter Try.func17,Try.ntmps17
      go_wp2_with (first|((with_reducible refine Kb (N:=2) rfl ?_);refine Eb ?hg (N:=2) ?hd (cs:=#[.slice Cb Ta.length Bb,.int .i64 Ma,.int .i64 Oa,.int .i64 Pa,.slice yc Sa.length Xb]) (t:=30) ?hr ?_;(case hd=>rfl);(case hg=>rfl);(case hr=>first|(go_simp;done)|(go_simp;rfl));intro Ea hg az Tb hb;have Gb:=ja.mk (Qa (by repeat (first|(with_reducible first|exact HB.out|apply qa|apply ia|apply ua)|exact HB.out)) hb);have Vb:=ja.mk (Tb);have Ac:=ja.mk ((by rw [hg];exact (Ra (by repeat (first|(with_reducible first|exact HB.out|apply qa|apply ia|apply ua)|exact HB.out))):w.heap.size ≤ Ea));have ud:=ja.mk ((by rw [hg];exact (Ra (by repeat (first|(with_reducible first|exact HB.out|apply qa|apply ia|apply ua)|exact HB.out))):w.heap.size ≤ Ea));clear HB;have HB:=Gb;have za:=Vb;have Be:=Ac;have Wa:=ud;clear Gb Vb Ac ud;clear hb Tb hg)|((with_reducible refine Kb (N:=3) rfl ?_);refine Eb ?hg (N:=3) ?hd (cs:=#[.slice Vf Dd.length Nf,.int .i64 Fb,.int .i64 Ob,.int .i64 Rb,.slice pq Hl.length oq]) (t:=30) ?hr ?_;(case hd=>rfl);(case hg=>rfl);(case hr=>first|(go_simp;done)|(go_simp;rfl));intro Fa hg Gq Tb hb;have Gb:=ja.mk (gb (g:=Ea) (o:=.cells #[.slice Cb Ta.length Bb,.int .i64 Ma,.int .i64 Oa,.int .i64 Pa,.slice yc Sa.length Xb] 30 (0,0)) (by (with_reducible repeat (first|refine Da ?_ _|refine Ga ?_|refine Ca ?_ _));exact za.out) hb);have Vb:=ja.mk (Qa (by repeat (first|(with_reducible first|exact HB.out|apply qa|apply ia|apply ua|refine Aa ?_ Wa.out)|exact HB.out)) hb);have Ac:=ja.mk (Tb);have ud:=ja.mk ((by rw [hg];exact (Ra (by repeat (first|(with_reducible first|exact HB.out|apply qa|apply ia|apply ua|refine Aa ?_ Wa.out)|exact HB.out))):w.heap.size ≤ Fa));have ef:=ja.mk ((by rw [hg];exact (Ra (by repeat (first|(with_reducible first|exact HB.out|apply qa|apply ia|apply ua|refine Aa ?_ Wa.out)|exact HB.out))):w.heap.size ≤ Fa));have Ag:=ja.mk ((by rw [hg];exact Nat.ne_of_lt (Lc (g:=Ea) (o:=.cells #[.slice Cb Ta.length Bb,.int .i64 Ma,.int .i64 Oa,.int .i64 Pa,.slice yc Sa.length Xb] 30 (0,0)) (by (with_reducible repeat (first|refine Da ?_ _|refine Ga ?_|refine Ca ?_ _));exact za.out)):Ea ≠ Fa));have dh:=ja.mk ((by rw [hg];exact Nat.ne_of_gt (Lc (g:=Ea) (o:=.cells #[.slice Cb Ta.length Bb,.int .i64 Ma,.int .i64 Oa,.int .i64 Pa,.slice yc Sa.length Xb] 30 (0,0)) (by (with_reducible repeat (first|refine Da ?_ _|refine Ga ?_|refine Ca ?_ _));exact za.out)):Fa ≠ Ea));clear za;clear HB;have za:=Gb;have HB:=Vb;have Ba:=Ac;have Df:=ud;have Sb:=ef;have Ua:=Ag;have jb:=dh;clear Gb Vb Ac ud ef Ag dh;clear hb Tb hg;have Iaj:=Ua.out;have Vai:=jb.out;have jQ:Gq.cell? ⟨Ea,0,none⟩=some (.slice Cb Ta.length Bb):=(ga za.out 0).trans rfl;have iQ:Gq.cell? ⟨Ea,1,none⟩=some (.int .i64 Ma):=(ga za.out 1).trans rfl;have gQ:Gq.cell? ⟨Ea,2,none⟩=some (.int .i64 Oa):=(ga za.out 2).trans rfl;have fQ:Gq.cell? ⟨Ea,3,none⟩=some (.int .i64 Pa):=(ga za.out 3).trans rfl;have dQ:Gq.cell? ⟨Ea,4,none⟩=some (.slice yc Sa.length Xb):=(ga za.out 4).trans rfl;have lO:=aa za.out 0;have kO:=aa za.out 1;have jO:=aa za.out 2;have iO:=aa za.out 3;have hO:=aa za.out 4;have cQ:Gq.cell? ⟨Fa,0,none⟩=some (.slice Vf Dd.length Nf):=(ga Ba.out 0).trans rfl;have bQ:Gq.cell? ⟨Fa,1,none⟩=some (.int .i64 Fb):=(ga Ba.out 1).trans rfl;have aQ:Gq.cell? ⟨Fa,2,none⟩=some (.int .i64 Ob):=(ga Ba.out 2).trans rfl;have ZP:Gq.cell? ⟨Fa,3,none⟩=some (.int .i64 Rb):=(ga Ba.out 3).trans rfl;have YP:Gq.cell? ⟨Fa,4,none⟩=some (.slice pq Hl.length oq):=(ga Ba.out 4).trans rfl;have gO:=aa Ba.out 0;have fO:=aa Ba.out 1;have eO:=aa Ba.out 2;have dO:=aa Ba.out 3;have cO:=aa Ba.out 4)|((with_reducible refine mb (f:=20) rfl ?_);refine yd (some 9) rfl rfl Try.func20 (by kernel_rfl) rfl #[.slice Cb Ta.length Bb,.slice Vf Dd.length Nf] rfl (by (try simp only [List.map_toArray,List.map_cons,List.map_nil]);first|done|rfl|(simp only [List.length_drop,List.length_take];rfl)) ?_;(with_reducible refine (Yc.calls k _ _ Ta _ _ Dd true _ ?side1 ?side2 ?side3 ?side4 A3.out).mono ?_);(case side1=>repeat (first|exact (Kd.Mb ig.out HB.out)|(with_reducible refine Kd.Sc ?_ _)|(with_reducible refine Kd.Rc ?_ _)|(with_reducible refine Kd.Qd ?_)));(case side2=>exact mg.out);(case side3=>repeat (first|exact (Kd.Mb xm.out HB.out)|(with_reducible refine Kd.Sc ?_ _)|(with_reducible refine Kd.Rc ?_ _)|(with_reducible refine Kd.Qd ?_)));(case side4=>exact zo.out);rintro e w' ⟨rfl,⟨nd,rfl⟩⟩;refine ⟨_,rfl,?_⟩)|((with_reducible refine mb (f:=61) rfl ?_);refine yd (some 30) rfl rfl Try.func61 (by kernel_rfl) rfl #[.slice yc Sa.length Xb,.slice pq Hl.length oq] rfl (by (try simp only [List.map_toArray,List.map_cons,List.map_nil]);first|done|rfl|(simp only [List.length_drop,List.length_take];rfl)) ?_;(with_reducible refine (Qb.calls k _ _ Sa _ _ Hl false _ ?side1 ?side2 ?side3 ?side4 A8.out).mono ?_);(case side1=>repeat (first|exact (Kd.Mb oh.out (by repeat (first|(with_reducible first|exact HB.out|apply qa|apply ia|apply ua|refine Aa ?_ Wa.out|refine Aa ?_ Sb.out)|exact HB.out)))|(with_reducible refine Kd.Sc ?_ _)|(with_reducible refine Kd.Rc ?_ _)|(with_reducible refine Kd.Qd ?_)));(case side2=>exact qj.out);(case side3=>repeat (first|exact (Kd.Mb ZR.out (by repeat (first|(with_reducible first|exact HB.out|apply qa|apply ia|apply ua|refine Aa ?_ Wa.out|refine Aa ?_ Sb.out)|exact HB.out)))|(with_reducible refine Kd.Sc ?_ _)|(with_reducible refine Kd.Rc ?_ _)|(with_reducible refine Kd.Qd ?_)));(case side4=>exact tS.out);rintro e qq ⟨rfl,hb⟩;refine ⟨_,rfl,?_⟩;have Gb:=ja.mk (gb (g:=Ea) (o:=.cells #[.slice Cb Ta.length Bb,.int .i64 Ma,.int .i64 Oa,.int .i64 Pa,.slice yc Sa.length Xb] 30 (0,0)) (by (with_reducible repeat (first|refine Da ?_ _|refine Ga ?_|refine Ca ?_ _));exact za.out) hb);have Vb:=ja.mk (gb (g:=Fa) (o:=.cells #[.slice Vf Dd.length Nf,.int .i64 Fb,.int .i64 Ob,.int .i64 Rb,.slice pq Hl.length oq] 30 (0,0)) (by (with_reducible repeat (first|refine Da ?_ _|refine Ga ?_|refine Ca ?_ _));exact Ba.out) hb);have Ac:=ja.mk (Qa (by repeat (first|(with_reducible first|exact HB.out|apply qa|apply ia|apply ua|refine Aa ?_ Wa.out|refine Aa ?_ Sb.out)|exact HB.out)) hb);clear za;clear Ba;clear HB;have za:=Gb;have Ba:=Vb;have HB:=Ac;clear Gb Vb Ac;(try clear hb);(try clear hb2);(try clear hk);(try clear hi)))
      go_ret
      exact ⟨by first|rfl|(simp [La,Ka] <;> rfl)|(simp [*,La,Ka] <;> rfl),by repeat (first|(with_reducible first|exact HB.out|apply qa|apply ia|apply ua|refine Aa ?_ Wa.out|refine Aa ?_ Sb.out)|exact HB.out)⟩
    ·rw [if_neg c7] at H
     have bp:(Pa == Rb)=false:=beq_eq_false_iff_ne.mpr c7
     have Zu:(Pa != Rb)=true:=bne_iff_ne.mpr c7
     obtain rfl:=Option.some.inj H
     go_enter Try.func17,Try.ntmps17
     go_wp2_with (first|((with_reducible refine Kb (N:=2) rfl ?_);refine Eb ?hg (N:=2) ?hd (cs:=#[.slice Cb Ta.length Bb,.int .i64 Ma,.int .i64 Oa,.int .i64 Pa,.slice yc Sa.length Xb]) (t:=30) ?hr ?_;(case hd=>rfl);(case hg=>rfl);(case hr=>first|(go_simp;done)|(go_simp;rfl));intro Ea hg fJ Tb hb;have Gb:=ja.mk (Qa (by repeat (first|(with_reducible first|exact HB.out|apply qa|apply ia|apply ua)|exact HB.out)) hb);have Vb:=ja.mk (Tb);have Ac:=ja.mk ((by rw [hg];exact (Ra (by repeat (first|(with_reducible first|exact HB.out|apply qa|apply ia|apply ua)|exact HB.out))):w.heap.size ≤ Ea));have ud:=ja.mk ((by rw [hg];exact (Ra (by repeat (first|(with_reducible first|exact HB.out|apply qa|apply ia|apply ua)|exact HB.out))):w.heap.size ≤ Ea));clear HB;have HB:=Gb;have za:=Vb;have Be:=Ac;have Wa:=ud;clear Gb Vb Ac ud;clear hb Tb hg)|((with_reducible refine Kb (N:=3) rfl ?_);refine Eb ?hg (N:=3) ?hd (cs:=#[.slice Vf Dd.length Nf,.int .i64 Fb,.int .i64 Ob,.int .i64 Rb,.slice pq Hl.length oq]) (t:=30) ?hr ?_;(case hd=>rfl);(case hg=>rfl);(case hr=>first|(go_simp;done)|(go_simp;rfl));intro Fa hg Es Tb hb;have Gb:=ja.mk (gb (g:=Ea) (o:=.cells #[.slice Cb Ta.length Bb,.int .i64 Ma,.int .i64 Oa,.int .i64 Pa,.slice yc Sa.length Xb] 30 (0,0)) (by (with_reducible repeat (first|refine Da ?_ _|refine Ga ?_|refine Ca ?_ _));exact za.out) hb);have Vb:=ja.mk (Qa (by repeat (first|(with_reducible first|exact HB.out|apply qa|apply ia|apply ua|refine Aa ?_ Wa.out)|exact HB.out)) hb);have Ac:=ja.mk (Tb);have ud:=ja.mk ((by rw [hg];exact (Ra (by repeat (first|(with_reducible first|exact HB.out|apply qa|apply ia|apply ua|refine Aa ?_ Wa.out)|exact HB.out))):w.heap.size ≤ Fa));have ef:=ja.mk ((by rw [hg];exact (Ra (by repeat (first|(with_reducible first|exact HB.out|apply qa|apply ia|apply ua|refine Aa ?_ Wa.out)|exact HB.out))):w.heap.size ≤ Fa));have Ag:=ja.mk ((by rw [hg];exact Nat.ne_of_lt (Lc (g:=Ea) (o:=.cells #[.slice Cb Ta.length Bb,.int .i64 Ma,.int .i64 Oa,.int .i64 Pa,.slice yc Sa.length Xb] 30 (0,0)) (by (with_reducible repeat (first|refine Da ?_ _|refine Ga ?_|refine Ca ?_ _));exact za.out)):Ea ≠ Fa));have dh:=ja.mk ((by rw [hg];exact Nat.ne_of_gt (Lc (g:=Ea) (o:=.cells #[.slice Cb Ta.length Bb,.int .i64 Ma,.int .i64 Oa,.int .i64 Pa,.slice yc Sa.length Xb] 30 (0,0)) (by (with_reducible repeat (first|refine Da ?_ _|refine Ga ?_|refine Ca ?_ _));exact za.out)):Fa ≠ Ea));clear za;clear HB;have za:=Gb;have HB:=Vb;have Ba:=Ac;have Df:=ud;have Sb:=ef;have Ua:=Ag;have jb:=dh;clear Gb Vb Ac ud ef Ag dh;clear hb Tb hg;have eX:=Ua.out;have MW:=jb.out;have ur:Es.cell? ⟨Ea,0,none⟩=some (.slice Cb Ta.length Bb):=(ga za.out 0).trans rfl;have tr:Es.cell? ⟨Ea,1,none⟩=some (.int .i64 Ma):=(ga za.out 1).trans rfl;have sr:Es.cell? ⟨Ea,2,none⟩=some (.int .i64 Oa):=(ga za.out 2).trans rfl;have nr:Es.cell? ⟨Ea,3,none⟩=some (.int .i64 Pa):=(ga za.out 3).trans rfl;have kr:Es.cell? ⟨Ea,4,none⟩=some (.slice yc Sa.length Xb):=(ga za.out 4).trans rfl;have Wq:=aa za.out 0;have Vq:=aa za.out 1;have Uq:=aa za.out 2;have Sq:=aa za.out 3;have Rq:=aa za.out 4;have lu:Es.cell? ⟨Fa,0,none⟩=some (.slice Vf Dd.length Nf):=(ga Ba.out 0).trans rfl;have ku:Es.cell? ⟨Fa,1,none⟩=some (.int .i64 Fb):=(ga Ba.out 1).trans rfl;have ju:Es.cell? ⟨Fa,2,none⟩=some (.int .i64 Ob):=(ga Ba.out 2).trans rfl;have iu:Es.cell? ⟨Fa,3,none⟩=some (.int .i64 Rb):=(ga Ba.out 3).trans rfl;have gu:Es.cell? ⟨Fa,4,none⟩=some (.slice pq Hl.length oq):=(ga Ba.out 4).trans rfl;have Lt:=aa Ba.out 0;have Kt:=aa Ba.out 1;have Jt:=aa Ba.out 2;have Ht:=aa Ba.out 3;have Gt:=aa Ba.out 4)|((with_reducible refine mb (f:=20) rfl ?_);refine yd (some 9) rfl rfl Try.func20 (by kernel_rfl) rfl #[.slice Cb Ta.length Bb,.slice Vf Dd.length Nf] rfl (by (try simp only [List.map_toArray,List.map_cons,List.map_nil]);first|done|rfl|(simp only [List.length_drop,List.length_take];rfl)) ?_;(with_reducible refine (Yc.calls k _ _ Ta _ _ Dd true _ ?side1 ?side2 ?side3 ?side4 A3.out).mono ?_);(case side1=>repeat (first|exact (Kd.Mb ig.out HB.out)|(with_reducible refine Kd.Sc ?_ _)|(with_reducible refine Kd.Rc ?_ _)|(with_reducible refine Kd.Qd ?_)));(case side2=>exact mg.out);(case side3=>repeat (first|exact (Kd.Mb xm.out HB.out)|(with_reducible refine Kd.Sc ?_ _)|(with_reducible refine Kd.Rc ?_ _)|(with_reducible refine Kd.Qd ?_)));(case side4=>exact zo.out);rintro e w' ⟨rfl,⟨nd,rfl⟩⟩;refine ⟨_,rfl,?_⟩))
     go_ret
     exact ⟨by first|rfl|(simp [La,Ka] <;> rfl)|(simp [*,La,Ka] <;> rfl),by repeat (first|(with_reducible first|exact HB.out|apply qa|apply ia|apply ua|refine Aa ?_ Wa.out|refine Aa ?_ Sb.out)|exact HB.out)⟩
   ·rw [if_neg c6] at H
    have cm:(Oa == Ob)=false:=beq_eq_false_iff_ne.mpr c6
    have av:(Oa != Ob)=true:=bne_iff_ne.mpr c6
    obtain rfl:=Option.some.inj H
    go_enter Try.func17,Try.ntmps17
    go_wp2_with (first|((with_reducible refine Kb (N:=2) rfl ?_);refine Eb ?hg (N:=2) ?hd (cs:=#[.slice Cb Ta.length Bb,.int .i64 Ma,.int .i64 Oa,.int .i64 Pa,.slice yc Sa.length Xb]) (t:=30) ?hr ?_;(case hd=>rfl);(case hg=>rfl);(case hr=>first|(go_simp;done)|(go_simp;rfl));intro Ea hg u7 Tb hb;have Gb:=ja.mk (Qa (by repeat (first|(with_reducible first|exact HB.out|apply qa|apply ia|apply ua)|exact HB.out)) hb);have Vb:=ja.mk (Tb);have Ac:=ja.mk ((by rw [hg];exact (Ra (by repeat (first|(with_reducible first|exact HB.out|apply qa|apply ia|apply ua)|exact HB.out))):w.heap.size ≤ Ea));have ud:=ja.mk ((by rw [hg];exact (Ra (by repeat (first|(with_reducible first|exact HB.out|apply qa|apply ia|apply ua)|exact HB.out))):w.heap.size ≤ Ea));clear HB;have HB:=Gb;have za:=Vb;have Be:=Ac;have Wa:=ud;clear Gb Vb Ac ud;clear hb Tb hg)|((with_reducible refine Kb (N:=3) rfl ?_);refine Eb ?hg (N:=3) ?hd (cs:=#[.slice Vf Dd.length Nf,.int .i64 Fb,.int .i64 Ob,.int .i64 Rb,.slice pq Hl.length oq]) (t:=30) ?hr ?_;(case hd=>rfl);(case hg=>rfl);(case hr=>first|(go_simp;done)|(go_simp;rfl));intro Fa hg bD Tb hb;have Gb:=ja.mk (gb (g:=Ea) (o:=.cells #[.slice Cb Ta.length Bb,.int .i64 Ma,.int .i64 Oa,.int .i64 Pa,.slice yc Sa.length Xb] 30 (0,0)) (by (with_reducible repeat (first|refine Da ?_ _|refine Ga ?_|refine Ca ?_ _));exact za.out) hb);have Vb:=ja.mk (Qa (by repeat (first|(with_reducible first|exact HB.out|apply qa|apply ia|apply ua|refine Aa ?_ Wa.out)|exact HB.out)) hb);have Ac:=ja.mk (Tb);have ud:=ja.mk ((by rw [hg];exact (Ra (by repeat (first|(with_reducible first|exact HB.out|apply qa|apply ia|apply ua|refine Aa ?_ Wa.out)|exact HB.out))):w.heap.size ≤ Fa));have ef:=ja.mk ((by rw [hg];exact (Ra (by repeat (first|(with_reducible first|exact HB.out|apply qa|apply ia|apply ua|refine Aa ?_ Wa.out)|exact HB.out))):w.heap.size ≤ Fa));have Ag:=ja.mk ((by rw [hg];exact Nat.ne_of_lt (Lc (g:=Ea) (o:=.cells #[.slice Cb Ta.length Bb,.int .i64 Ma,.int .i64 Oa,.int .i64 Pa,.slice yc Sa.length Xb] 30 (0,0)) (by (with_reducible repeat (first|refine Da ?_ _|refine Ga ?_|refine Ca ?_ _));exact za.out)):Ea ≠ Fa));have dh:=ja.mk ((by rw [hg];exact Nat.ne_of_gt (Lc (g:=Ea) (o:=.cells #[.slice Cb Ta.length Bb,.int .i64 Ma,.int .i64 Oa,.int .i64 Pa,.slice yc Sa.length Xb] 30 (0,0)) (by (with_reducible repeat (first|refine Da ?_ _|refine Ga ?_|refine Ca ?_ _));exact za.out)):Fa ≠ Ea));clear za;clear HB;have za:=Gb;have HB:=Vb;have Ba:=Ac;have Df:=ud;have Sb:=ef;have Ua:=Ag;have jb:=dh;clear Gb Vb Ac ud ef Ag dh;clear hb Tb hg;have Eaj:=Ua.out;have Rai:=jb.out;have OP:bD.cell? ⟨Ea,0,none⟩=some (.slice Cb Ta.length Bb):=(ga za.out 0).trans rfl;have NP:bD.cell? ⟨Ea,1,none⟩=some (.int .i64 Ma):=(ga za.out 1).trans rfl;have MP:bD.cell? ⟨Ea,2,none⟩=some (.int .i64 Oa):=(ga za.out 2).trans rfl;have LP:bD.cell? ⟨Ea,3,none⟩=some (.int .i64 Pa):=(ga za.out 3).trans rfl;have KP:bD.cell? ⟨Ea,4,none⟩=some (.slice yc Sa.length Xb):=(ga za.out 4).trans rfl;have VN:=aa za.out 0;have UN:=aa za.out 1;have TN:=aa za.out 2;have SN:=aa za.out 3;have RN:=aa za.out 4;have dx:bD.cell? ⟨Fa,0,none⟩=some (.slice Vf Dd.length Nf):=(ga Ba.out 0).trans rfl;have cx:bD.cell? ⟨Fa,1,none⟩=some (.int .i64 Fb):=(ga Ba.out 1).trans rfl;have ax:bD.cell? ⟨Fa,2,none⟩=some (.int .i64 Ob):=(ga Ba.out 2).trans rfl;have Zw:bD.cell? ⟨Fa,3,none⟩=some (.int .i64 Rb):=(ga Ba.out 3).trans rfl;have Yw:bD.cell? ⟨Fa,4,none⟩=some (.slice pq Hl.length oq):=(ga Ba.out 4).trans rfl;have zw:=aa Ba.out 0;have yw:=aa Ba.out 1;have xw:=aa Ba.out 2;have vw:=aa Ba.out 3;have uw:=aa Ba.out 4)|((with_reducible refine mb (f:=20) rfl ?_);refine yd (some 9) rfl rfl Try.func20 (by kernel_rfl) rfl #[.slice Cb Ta.length Bb,.slice Vf Dd.length Nf] rfl (by (try simp only [List.map_toArray,List.map_cons,List.map_nil]);first|done|rfl|(simp only [List.length_drop,List.length_take];rfl)) ?_;(with_reducible refine (Yc.calls k _ _ Ta _ _ Dd true _ ?side1 ?side2 ?side3 ?side4 A3.out).mono ?_);(case side1=>repeat (first|exact (Kd.Mb ig.out HB.out)|(with_reducible refine Kd.Sc ?_ _)|(with_reducible refine Kd.Rc ?_ _)|(with_reducible refine Kd.Qd ?_)));(case side2=>exact mg.out);(case side3=>repeat (first|exact (Kd.Mb xm.out HB.out)|(with_reducible refine Kd.Sc ?_ _)|(with_reducible refine Kd.Rc ?_ _)|(with_reducible refine Kd.Qd ?_)));(case side4=>exact zo.out);rintro e w' ⟨rfl,⟨nd,rfl⟩⟩;refine ⟨_,rfl,?_⟩))
    go_ret
    exact ⟨by first|rfl|(simp [La,Ka] <;> rfl)|(simp [*,La,Ka] <;> rfl),by repeat (first|(with_reducible first|exact HB.out|apply qa|apply ia|apply ua|refine Aa ?_ Wa.out|refine Aa ?_ Sb.out)|exact HB.out)⟩
  ·rw [if_neg c5] at H
   have Il:(Ma == Fb)=false:=beq_eq_false_iff_ne.mpr c5
   have Bq:(Ma != Fb)=true:=bne_iff_ne.mpr c5
   obtain rfl:=Option.some.inj H
   go_enter Try.func17,Try.ntmps17
   go_wp2_with (first|((with_reducible refine Kb (N:=2) rfl ?_);refine Eb ?hg (N:=2) ?hd (cs:=#[.slice Cb Ta.length Bb,.int .i64 Ma,.int .i64 Oa,.int .i64 Pa,.slice yc Sa.length Xb]) (t:=30) ?hr ?_;(case hd=>rfl);(case hg=>rfl);(case hr=>first|(go_simp;done)|(go_simp;rfl));intro Ea hg w32 Tb hb;have Gb:=ja.mk (Qa (by repeat (first|(with_reducible first|exact HB.out|apply qa|apply ia|apply ua)|exact HB.out)) hb);have Vb:=ja.mk (Tb);have Ac:=ja.mk ((by rw [hg];exact (Ra (by repeat (first|(with_reducible first|exact HB.out|apply qa|apply ia|apply ua)|exact HB.out))):w.heap.size ≤ Ea));have ud:=ja.mk ((by rw [hg];exact (Ra (by repeat (first|(with_reducible first|exact HB.out|apply qa|apply ia|apply ua)|exact HB.out))):w.heap.size ≤ Ea));clear HB;have HB:=Gb;have za:=Vb;have Be:=Ac;have Wa:=ud;clear Gb Vb Ac ud;clear hb Tb hg)|((with_reducible refine Kb (N:=3) rfl ?_);refine Eb ?hg (N:=3) ?hd (cs:=#[.slice Vf Dd.length Nf,.int .i64 Fb,.int .i64 Ob,.int .i64 Rb,.slice pq Hl.length oq]) (t:=30) ?hr ?_;(case hd=>rfl);(case hg=>rfl);(case hr=>first|(go_simp;done)|(go_simp;rfl));intro Fa hg ZI Tb hb;have Gb:=ja.mk (gb (g:=Ea) (o:=.cells #[.slice Cb Ta.length Bb,.int .i64 Ma,.int .i64 Oa,.int .i64 Pa,.slice yc Sa.length Xb] 30 (0,0)) (by (with_reducible repeat (first|refine Da ?_ _|refine Ga ?_|refine Ca ?_ _));exact za.out) hb);have Vb:=ja.mk (Qa (by repeat (first|(with_reducible first|exact HB.out|apply qa|apply ia|apply ua|refine Aa ?_ Wa.out)|exact HB.out)) hb);have Ac:=ja.mk (Tb);have ud:=ja.mk ((by rw [hg];exact (Ra (by repeat (first|(with_reducible first|exact HB.out|apply qa|apply ia|apply ua|refine Aa ?_ Wa.out)|exact HB.out))):w.heap.size ≤ Fa));have ef:=ja.mk ((by rw [hg];exact (Ra (by repeat (first|(with_reducible first|exact HB.out|apply qa|apply ia|apply ua|refine Aa ?_ Wa.out)|exact HB.out))):w.heap.size ≤ Fa));have Ag:=ja.mk ((by rw [hg];exact Nat.ne_of_lt (Lc (g:=Ea) (o:=.cells #[.slice Cb Ta.length Bb,.int .i64 Ma,.int .i64 Oa,.int .i64 Pa,.slice yc Sa.length Xb] 30 (0,0)) (by (with_reducible repeat (first|refine Da ?_ _|refine Ga ?_|refine Ca ?_ _));exact za.out)):Ea ≠ Fa));have dh:=ja.mk ((by rw [hg];exact Nat.ne_of_gt (Lc (g:=Ea) (o:=.cells #[.slice Cb Ta.length Bb,.int .i64 Ma,.int .i64 Oa,.int .i64 Pa,.slice yc Sa.length Xb] 30 (0,0)) (by (with_reducible repeat (first|refine Da ?_ _|refine Ga ?_|refine Ca ?_ _));exact za.out)):Fa ≠ Ea));clear za;clear HB;have za:=Gb;have HB:=Vb;have Ba:=Ac;have Df:=ud;have Sb:=ef;have Ua:=Ag;have jb:=dh;clear Gb Vb Ac ud ef Ag dh;clear hb Tb hg;have aX:=Ua.out;have IW:=jb.out;have fu:ZI.cell? ⟨Ea,0,none⟩=some (.slice Cb Ta.length Bb):=(ga za.out 0).trans rfl;have eu:ZI.cell? ⟨Ea,1,none⟩=some (.int .i64 Ma):=(ga za.out 1).trans rfl;have lH:ZI.cell? ⟨Ea,2,none⟩=some (.int .i64 Oa):=(ga za.out 2).trans rfl;have kH:ZI.cell? ⟨Ea,3,none⟩=some (.int .i64 Pa):=(ga za.out 3).trans rfl;have jH:ZI.cell? ⟨Ea,4,none⟩=some (.slice yc Sa.length Xb):=(ga za.out 4).trans rfl;have Ft:=aa za.out 0;have Et:=aa za.out 1;have SF:=aa za.out 2;have RF:=aa za.out 3;have QF:=aa za.out 4;have jr:ZI.cell? ⟨Fa,0,none⟩=some (.slice Vf Dd.length Nf):=(ga Ba.out 0).trans rfl;have gr:ZI.cell? ⟨Fa,1,none⟩=some (.int .i64 Fb):=(ga Ba.out 1).trans rfl;have iH:ZI.cell? ⟨Fa,2,none⟩=some (.int .i64 Ob):=(ga Ba.out 2).trans rfl;have gH:ZI.cell? ⟨Fa,3,none⟩=some (.int .i64 Rb):=(ga Ba.out 3).trans rfl;have fH:ZI.cell? ⟨Fa,4,none⟩=some (.slice pq Hl.length oq):=(ga Ba.out 4).trans rfl;have Qq:=aa Ba.out 0;have Pq:=aa Ba.out 1;have PF:=aa Ba.out 2;have NF:=aa Ba.out 3;have MF:=aa Ba.out 4)|((with_reducible refine mb (f:=20) rfl ?_);refine yd (some 9) rfl rfl Try.func20 (by kernel_rfl) rfl #[.slice Cb Ta.length Bb,.slice Vf Dd.length Nf] rfl (by (try simp only [List.map_toArray,List.map_cons,List.map_nil]);first|done|rfl|(simp only [List.length_drop,List.length_take];rfl)) ?_;(with_reducible refine (Yc.calls k _ _ Ta _ _ Dd true _ ?side1 ?side2 ?side3 ?side4 A3.out).mono ?_);(case side1=>repeat (first|exact (Kd.Mb ig.out HB.out)|(with_reducible refine Kd.Sc ?_ _)|(with_reducible refine Kd.Rc ?_ _)|(with_reducible refine Kd.Qd ?_)));(case side2=>exact mg.out);(case side3=>repeat (first|exact (Kd.Mb xm.out HB.out)|(with_reducible refine Kd.Sc ?_ _)|(with_reducible refine Kd.Rc ?_ _)|(with_reducible refine Kd.Qd ?_)));(case side4=>exact zo.out);rintro e w' ⟨rfl,⟨nd,rfl⟩⟩;refine ⟨_,rfl,?_⟩))
   go_ret
   exact ⟨by first|rfl|(simp [La,Ka] <;> rfl)|(simp [*,La,Ka] <;> rfl),by repeat (first|(with_reducible first|exact HB.out|apply qa|apply ia|apply ua|refine Aa ?_ Wa.out|refine Aa ?_ Sb.out)|exact HB.out)⟩
 ·replace c4:=Bool.eq_false_iff.mpr c4
  subst c4
  have H1:(some false)=some r:=by rw [if_neg (show ¬ (false=true) by decide)] at H;exact H
  clear H
  have H:=H1
  clear H1
  obtain rfl:=Option.some.inj H
  go_enter Try.func17,Try.ntmps17
  go_wp2_with (first|((with_reducible refine Kb (N:=2) rfl ?_);refine Eb ?hg (N:=2) ?hd (cs:=#[.slice Cb Ta.length Bb,.int .i64 Ma,.int .i64 Oa,.int .i64 Pa,.slice yc Sa.length Xb]) (t:=30) ?hr ?_;(case hd=>rfl);(case hg=>rfl);(case hr=>first|(go_simp;done)|(go_simp;rfl));intro Ea hg w37 Tb hb;have Gb:=ja.mk (Qa (by repeat (first|(with_reducible first|exact HB.out|apply qa|apply ia|apply ua)|exact HB.out)) hb);have Vb:=ja.mk (Tb);have Ac:=ja.mk ((by rw [hg];exact (Ra (by repeat (first|(with_reducible first|exact HB.out|apply qa|apply ia|apply ua)|exact HB.out))):w.heap.size ≤ Ea));have ud:=ja.mk ((by rw [hg];exact (Ra (by repeat (first|(with_reducible first|exact HB.out|apply qa|apply ia|apply ua)|exact HB.out))):w.heap.size ≤ Ea));clear HB;have HB:=Gb;have za:=Vb;have Be:=Ac;have Wa:=ud;clear Gb Vb Ac ud;clear hb Tb hg)|((with_reducible refine Kb (N:=3) rfl ?_);refine Eb ?hg (N:=3) ?hd (cs:=#[.slice Vf Dd.length Nf,.int .i64 Fb,.int .i64 Ob,.int .i64 Rb,.slice pq Hl.length oq]) (t:=30) ?hr ?_;(case hd=>rfl);(case hg=>rfl);(case hr=>first|(go_simp;done)|(go_simp;rfl));intro Fa hg Tv Tb hb;have Gb:=ja.mk (gb (g:=Ea) (o:=.cells #[.slice Cb Ta.length Bb,.int .i64 Ma,.int .i64 Oa,.int .i64 Pa,.slice yc Sa.length Xb] 30 (0,0)) (by (with_reducible repeat (first|refine Da ?_ _|refine Ga ?_|refine Ca ?_ _));exact za.out) hb);have Vb:=ja.mk (Qa (by repeat (first|(with_reducible first|exact HB.out|apply qa|apply ia|apply ua|refine Aa ?_ Wa.out)|exact HB.out)) hb);have Ac:=ja.mk (Tb);have ud:=ja.mk ((by rw [hg];exact (Ra (by repeat (first|(with_reducible first|exact HB.out|apply qa|apply ia|apply ua|refine Aa ?_ Wa.out)|exact HB.out))):w.heap.size ≤ Fa));have ef:=ja.mk ((by rw [hg];exact (Ra (by repeat (first|(with_reducible first|exact HB.out|apply qa|apply ia|apply ua|refine Aa ?_ Wa.out)|exact HB.out))):w.heap.size ≤ Fa));have Ag:=ja.mk ((by rw [hg];exact Nat.ne_of_lt (Lc (g:=Ea) (o:=.cells #[.slice Cb Ta.length Bb,.int .i64 Ma,.int .i64 Oa,.int .i64 Pa,.slice yc Sa.length Xb] 30 (0,0)) (by (with_reducible repeat (first|refine Da ?_ _|refine Ga ?_|refine Ca ?_ _));exact za.out)):Ea ≠ Fa));have dh:=ja.mk ((by rw [hg];exact Nat.ne_of_gt (Lc (g:=Ea) (o:=.cells #[.slice Cb Ta.length Bb,.int .i64 Ma,.int .i64 Oa,.int .i64 Pa,.slice yc Sa.length Xb] 30 (0,0)) (by (with_reducible repeat (first|refine Da ?_ _|refine Ga ?_|refine Ca ?_ _));exact za.out)):Fa ≠ Ea));clear za;clear HB;have za:=Gb;have HB:=Vb;have Ba:=Ac;have Df:=ud;have Sb:=ef;have Ua:=Ag;have jb:=dh;clear Gb Vb Ac ud ef Ag dh;clear hb Tb hg;have gR:=Ua.out;have bR:=jb.out;have Vw:Tv.cell? ⟨Ea,0,none⟩=some (.slice Cb Ta.length Bb):=(ga za.out 0).trans rfl;have Uw:Tv.cell? ⟨Ea,1,none⟩=some (.int .i64 Ma):=(ga za.out 1).trans rfl;have Tw:Tv.cell? ⟨Ea,2,none⟩=some (.int .i64 Oa):=(ga za.out 2).trans rfl;have Sw:Tv.cell? ⟨Ea,3,none⟩=some (.int .i64 Pa):=(ga za.out 3).trans rfl;have Rw:Tv.cell? ⟨Ea,4,none⟩=some (.slice yc Sa.length Xb):=(ga za.out 4).trans rfl;have qw:=aa za.out 0;have ow:=aa za.out 1;have nw:=aa za.out 2;have mw:=aa za.out 3;have jw:=aa za.out 4;have Qw:Tv.cell? ⟨Fa,0,none⟩=some (.slice Vf Dd.length Nf):=(ga Ba.out 0).trans rfl;have Pw:Tv.cell? ⟨Fa,1,none⟩=some (.int .i64 Fb):=(ga Ba.out 1).trans rfl;have zP:Tv.cell? ⟨Fa,2,none⟩=some (.int .i64 Ob):=(ga Ba.out 2).trans rfl;have yP:Tv.cell? ⟨Fa,3,none⟩=some (.int .i64 Rb):=(ga Ba.out 3).trans rfl;have xP:Tv.cell? ⟨Fa,4,none⟩=some (.slice pq Hl.length oq):=(ga Ba.out 4).trans rfl;have iw:=aa Ba.out 0;have ew:=aa Ba.out 1;have FN:=aa Ba.out 2;have EN:=aa Ba.out 3;have DN:=aa Ba.out 4)|((with_reducible refine mb (f:=20) rfl ?_);refine yd (some 9) rfl rfl Try.func20 (by kernel_rfl) rfl #[.slice Cb Ta.length Bb,.slice Vf Dd.length Nf] rfl (by (try simp only [List.map_toArray,List.map_cons,List.map_nil]);first|done|rfl|(simp only [List.length_drop,List.length_take];rfl)) ?_;(with_reducible refine (Yc.calls k _ _ Ta _ _ Dd false _ ?side1 ?side2 ?side3 ?side4 A3.out).mono ?_);(case side1=>repeat (first|exact (Kd.Mb ig.out HB.out)|(with_reducible refine Kd.Sc ?_ _)|(with_reducible refine Kd.Rc ?_ _)|(with_reducible refine Kd.Qd ?_)));(case side2=>exact mg.out);(case side3=>repeat (first|exact (Kd.Mb xm.out HB.out)|(with_reducible refine Kd.Sc ?_ _)|(with_reducible refine Kd.Rc ?_ _)|(with_reducible refine Kd.Qd ?_)));(case side4=>exact zo.out);rintro e w' ⟨rfl,⟨nd,rfl⟩⟩;refine ⟨_,rfl,?_⟩))
  go_ret
  exact ⟨by first|rfl|(simp [La,Ka] <;> rfl)|(simp [*,La,Ka] <;> rfl),by repeat (first|(with_reducible first|exact HB.out|apply qa|apply ia|apply ua|refine Aa ?_ Wa.out|refine Aa ?_ Sb.out)|exact HB.out)⟩
def ld.l0:Nat→List Int→Int→Int→Option (Int × List Int)
 | 0,_,_,_=>none
 | k + 1,x0,x1,x5=>if x5 < (x0.length:Int) then (if 0 ≤ x5 then (ld.l0 k (x0.set (x5:Int).toNat x1) (wrap64 (x1 + 1)) (wrap64 (x5 + 1))) else (none)) else (some (x1,x0))
def ld.f (k:Nat) (l0:List Int) (a1:Int):Option (Int × List Int):=ld.l0 k l0 a1 0
theorem ld.Sd:∀ k,(∀ y0 y1 y2,Lb (ld.l0 k y0 y1 y2) (ld.l0 (k + 1) y0 y1 y2))
 | 0=>fun _ _ _ r h=>by simp [ld.l0] at h
 | k + 1=>by
  have Ff:=ld.Sd k
  ·intro y0 y1 y2
   unfold ld.l0
   repeat' first
   | (with_reducible exact Ff _ _ _)
   | (with_reducible exact Lb.refl _)
   | (with_reducible exact Lb.none _)
   | (with_reducible refine Lb.ite ?_ ?_)
   | (with_reducible refine Lb.bind ?_ (fun _=>?_))
   | exact Ff _ _ _
   | exact Lb.none _
   | refine Lb.ite ?_ ?_
   | refine Lb.bind ?_ (fun _=>?_)
theorem ld.mono:∀ a0 a1 k,Lb (ld.f k a0 a1) (ld.f (k + 1) a0 a1):=by
 intro a0 a1 k
 have Ff:=ld.Sd k
 unfold ld.f
 repeat' first
   | (with_reducible exact Ff _ _ _)
   | (with_reducible exact Lb.refl _)
   | (with_reducible exact Lb.none _)
   | (with_reducible refine Lb.ite ?_ ?_)
   | (with_reducible refine Lb.bind ?_ (fun _=>?_))
   | exact Ff _ _ _
   | exact Lb.none _
   | refine Lb.ite ?_ ?_
   | refine Lb.bind ?_ (fun _=>?_)
set_option maxHeartbeats 8000000 in
set_option maxRecDepth 100000 in
theorem ld.calls (k:Nat) (zn:Nat→Prop) (Cg:Value) (l0:List Int) (a1:Int) (r1:Int) (r2:List Int) (w0 w:World) (hB:Below w0.heap.size w0 w) (Zm:Kd.R (Kd.int .i64) 3 w w0.heap.size zn Cg l0) (h:ld.f k l0 a1=some (r1,r2)) :
  Calls Try.prog 22 #[Cg,.int .i64 a1] w fun e w'=>e = .returned (.int .i64 r1)∧Kd.R (Kd.int .i64) 3 w' w0.heap.size (fun k_=>(zn k_ ∨ w.heap.size ≤ k_)) Cg r2∧Below w0.heap.size w0 w'∧Kept w w' (fun k_=>zn k_):=by
 have HO0:=ja.mk (show Kd.R (Kd.int .i64) 3 w w0.heap.size (fun k_=>(zn k_ ∨ w.heap.size ≤ k_)) Cg l0 from Kd.Oe Zm (fun k_ hk=>(.inl hk)))
 have HK:=ja.mk (Kept.refl w (fun k_=>zn k_))
 have HW0:=ja.mk hB.size
 have HB:=ja.mk hB
 clear hB
 have H:(ld.l0 k l0 a1 0)=some (r1,r2):=h
 clear h
 have H':=ja.mk H
 clear H
 go_enter Try.func22,Try.ntmps22
 go_wp2
 go_loopg [1,5] k (fun kq v1 v5 w'=>∃ (kf:List Int) (Md:Int) (Ia:Int),v1 = .int .i64 Md∧v5 = .int .i64 Ia∧ja (ld.l0 kq kf Md Ia=some (r1,r2))∧ja (kq ≤ k)∧ja (Kd.R (Kd.int .i64) 3 w' w0.heap.size (fun k_=>(zn k_ ∨ w.heap.size ≤ k_)) Cg kf)∧ja (Kept w w' (fun k_=>zn k_))∧ja (Below w0.heap.size w0 w'))
 case atStart=>exact ⟨(l0),(a1),(0),(by first|rfl|(simp;done)|(simp [*];done)),(by first|rfl|(simp;done)|(simp [*];done)),H',⟨Nat.le_refl _⟩,⟨by (with_reducible repeat (first|apply Kd.Dc|apply Kd.Ic|apply Kd.Zc));exact HO0.out⟩,⟨by repeat (first|(with_reducible first|exact HK.out|apply Kept.alloc|apply Kept.drewN|apply Kept.drew)|exact HK.out)⟩,⟨by repeat (first|(with_reducible first|exact HB.out|apply qa|apply ia|apply ua)|exact HB.out)⟩⟩
 case round =>
  clear H'
  try clear c2
  try clear p2
  (try clear HA)
  (try clear Yg)
  (try clear jg)
  (try clear HK)
  (try clear HB)
  obtain ⟨kf,Md,Ia,rfl,rfl,HA,Yg,jg,HK,HB⟩:=hrel
  cases gk with
  | zero=>exact absurd HA.out (by simp [ld.l0])
  | succ k1 =>
   have H:=HA.out
   clear HA
   simp only [ld.l0] at H
   by_cases c3:Ia < (kf.length:Int)
   ·rw [if_pos c3] at H
    have Zh:decide (Ia < (kf.length:Int))=true:=decide_eq_true c3
    clear c3
    by_cases c4:0 ≤ Ia
    ·rw [if_pos c4] at H
     have Gi:decide (0 ≤ Ia)=true:=decide_eq_true c4
     clear c4
     obtain ⟨bg,hy101⟩:∃ y_:List Int,y_=(kf.set (Ia:Int).toNat Md):=⟨_,rfl⟩
     replace H:(ld.l0 k1 bg (wrap64 (Md + 1)) (wrap64 (Ia + 1)))=some (r1,r2):=by first|(rw [hy101];with_reducible exact H)|(have Eh:=(Option.bind_some _ _).symm.trans H;rw [hy101];with_reducible exact Eh)|(have Eh:=(Option.bind_some _ _).symm.trans H;with_reducible exact Eh)|with_reducible exact H|(rw [hy101];exact H)|exact H
     have ek:=ja.mk hy101
     clear hy101
     have H':=ja.mk H
     clear H
     obtain ⟨Ao6,co6,eo6⟩:=Kd.Hf jg.out
     subst eo6
     have p5:0 ≤ (Ia:Int):=of_decide_eq_true (by first|(with_reducible assumption)|assumption)
     have q5:(Ia:Int) < ((kf.length:Int):Int):=of_decide_eq_true (by first|(with_reducible assumption)|assumption)
     obtain ⟨wg,co5,mU,R2,gl5,cl5,pS⟩:=Kd.Qo jg.out (by omega)
     (first|cases mU|(injection mU with Ei en_ ec_;(first|subst Ei|(injection Ei with Ei;subst Ei));subst ec_;clear en_))
     have NQ:=ja.mk R2
     have GG5:=ja.mk pS
     clear R2 gl5 pS
     have O5:=ja.mk (show (zn wg ∨ w.heap.size ≤ wg) from (jg.out.1 _ rfl))
     obtain ⟨rW,WY⟩:=Kd.UH 0 jg.out (Ia:Int) p5 q5
     replace p5:=eq_true p5
     replace q5:=eq_true q5
     have HP7:=Kd.wL jg.out (Ia:Int) Md
     go_wp2_with (first|((with_reducible refine qf (t:=3) (p:=15) rfl ?_);refine Xe (t:=3) (p:=15) (v:=?vo_w8) (w1:=(wr.setCell ⟨wg,(Ia:Int).toNat,none⟩ (.int .i64 Md))) ?hg ?ho ?hn ?hr ?_;(case ho=>rfl);(case hg=>rfl);(case hn=>rfl);(case hr=>first|(go_simp;done)|(go_simp;rfl));intro w8 hw;have hg:wr.grownBy w8 (some wg):=(by rw [hw];exact HP7.2);have Gn:Kd.R (Kd.int .i64) 3 w8 w0.heap.size (fun k_=>(zn k_ ∨ w.heap.size ≤ k_)) (.slice (some ⟨wg,0,none⟩) kf.length co6) bg:=(by rw [hw,ek.out];exact HP7.1);clear HP7;have Gb:=ja.mk (Gn);have Vb:=ja.mk ((by rw [hw];exact Aa (HB.out) NQ.out:Below w0.heap.size w0 w8));have Ac:=ja.mk (Kept.Fh (S:=(fun k_=>zn k_)) hg (by repeat (first|(with_reducible first|exact HK.out|apply Kept.alloc|apply Kept.drewN|apply Kept.drew)|exact HK.out)) (fun k_ e_=>(jg.out.1 k_ e_)));clear jg;clear HB;clear HK;have jg:=Gb;have HB:=Vb;have HK:=Ac;clear Gb Vb Ac;clear hg hw Gn))
     go_roundg k1
     case measure=>have:=Yg.out;omega
     case rel=>exact ⟨(bg),(wrap64 (Md + 1)),(wrap64 (Ia + 1)),(by first|rfl|(simp;done)|(simp [*];done)),(by first|rfl|(simp;done)|(simp [*];done)),H',⟨by have:=Yg.out;omega⟩,⟨by (with_reducible repeat (first|apply Kd.Dc|apply Kd.Ic|apply Kd.Zc));exact jg.out⟩,⟨by repeat (first|(with_reducible first|exact HK.out|apply Kept.alloc|apply Kept.drewN|apply Kept.drew)|exact HK.out)⟩,⟨by repeat (first|(with_reducible first|exact HB.out|apply qa|apply ia|apply ua)|exact HB.out)⟩⟩
    ·rw [if_neg c4] at H
     exact absurd H (by simp)
   ·rw [if_neg c3] at H
    have Zh:decide (Ia < (kf.length:Int))=false:=decide_eq_false c3
    clear c3
    simp only [Option.some.injEq,Prod.mk.injEq] at H
    obtain ⟨rfl,rfl⟩:=H
    obtain ⟨Ao9,co9,eo9⟩:=Kd.Hf jg.out
    subst eo9
    go_wp2
    go_ret
    exact ⟨by first|rfl|(simp [La,Ka] <;> rfl)|(simp [*,La,Ka] <;> rfl),by (with_reducible repeat (first|apply Kd.Dc|apply Kd.Ic|apply Kd.Zc));exact jg.out,by repeat (first|(with_reducible first|exact HB.out|apply qa|apply ia|apply ua)|exact HB.out),by repeat (first|(with_reducible first|exact HK.out|apply Kept.alloc|apply Kept.drewN|apply Kept.drew)|exact HK.out)⟩
def Pb.l0:Nat→Int→ByteArray→Option (ByteArray)
 | 0,_,_=>none
 | k + 1,x0,x3=>if x0 > 0 then ((some (([(wrap64 (48 + (Int.tmod x0 10))) % 256]:List Int):List Int)).bind fun bg=>(if (strOfNums bg).size + x3.size ≤ 9223372036854775807 then (Pb.l0 k (wrap64 (Int.tdiv x0 10)) ((strOfNums bg) ++ x3)) else (none))) else (if 1 + x3.size ≤ 9223372036854775807 then (some ((⟨#[109]⟩:ByteArray) ++ x3)) else (none))
def Pb.f (k:Nat) (a0:Int):Option (ByteArray):=if a0 ≤ 0 then (some (⟨#[109,48]⟩:ByteArray)) else (Pb.l0 k a0 (⟨#[]⟩:ByteArray))
theorem Pb.Sd:∀ k,(∀ y0 y1,Lb (Pb.l0 k y0 y1) (Pb.l0 (k + 1) y0 y1))
 | 0=>fun _ _ r h=>by simp [Pb.l0] at h
 | k + 1=>by
  have Ff:=Pb.Sd k
  ·intro y0 y1
   unfold Pb.l0
   repeat' first
   | (with_reducible exact Ff _ _)
   | (with_reducible exact Lb.refl _)
   | (with_reducible exact Lb.none _)
   | (with_reducible refine Lb.ite ?_ ?_)
   | (with_reducible refine Lb.bind ?_ (fun _=>?_))
   | exact Ff _ _
   | exact Lb.none _
   | refine Lb.ite ?_ ?_
   | refine Lb.bind ?_ (fun _=>?_)
theorem Pb.mono:∀ a0 k,Lb (Pb.f k a0) (Pb.f (k + 1) a0):=by
 intro a0 k
 have Ff:=Pb.Sd k
 unfold Pb.f
 repeat' first
   | (with_reducible exact Ff _ _)
   | (with_reducible exact Lb.refl _)
   | (with_reducible exact Lb.none _)
   | (with_reducible refine Lb.ite ?_ ?_)
   | (with_reducible refine Lb.bind ?_ (fun _=>?_))
   | exact Ff _ _
   | exact Lb.none _
   | refine Lb.ite ?_ ?_
   | refine Lb.bind ?_ (fun _=>?_)
set_option maxHeartbeats 8000000 in
set_option maxRecDepth 100000 in
theorem Pb.calls (k:Nat) (a0:Int) (r:ByteArray) (w:World) (h:Pb.f k a0=some r) :
  Calls Try.prog 121 #[.int .i64 a0] w fun e w'=>e = .returned (.string r)∧Below w.heap.size w w':=by
 have HB:=ja.mk (Below.refl w.heap.size w)
 have H:(if a0 ≤ 0 then (some (⟨#[109,48]⟩:ByteArray)) else (Pb.l0 k a0 (⟨#[]⟩:ByteArray)))=some r:=h
 clear h
 by_cases c2:a0 ≤ 0
 ·rw [if_pos c2] at H
  have mz:decide (a0 ≤ 0)=true:=decide_eq_true c2
  clear c2
  obtain rfl:=Option.some.inj H
  go_enter Try.func121,Try.ntmps121
  go_wp2
  go_ret
  exact ⟨by first|rfl|(simp [La,Ka] <;> rfl)|(simp [*,La,Ka] <;> rfl),by repeat (first|(with_reducible first|exact HB.out|apply qa|apply ia|apply ua)|exact HB.out)⟩
 ·rw [if_neg c2] at H
  have mz:decide (a0 ≤ 0)=false:=decide_eq_false c2
  clear c2
  have H':=ja.mk H
  clear H
  go_enter Try.func121,Try.ntmps121
  go_wp2
  go_loopg [0,3] k (fun kq v0 v3 w'=>∃ (kf:Int) (lf:ByteArray),v0 = .int .i64 kf∧v3 = .string lf∧ja (Pb.l0 kq kf lf=some r)∧ja (kq ≤ k)∧ja (Below w.heap.size w w'))
  case atStart=>exact ⟨(a0),((⟨#[]⟩:ByteArray)),(by first|rfl|(simp;done)|(simp [*];done)),(by first|rfl|(simp;done)|(simp [*];done)),H',⟨Nat.le_refl _⟩,⟨by repeat (first|(with_reducible first|exact HB.out|apply qa|apply ia|apply ua)|exact HB.out)⟩⟩
  case round =>
   clear H'
   try clear c1
   try clear c2
   try clear mz
   try clear p2
   (try clear HA)
   (try clear Yg)
   (try clear HB)
   obtain ⟨kf,lf,rfl,rfl,HA,Yg,HB⟩:=hrel
   cases gk with
   | zero=>exact absurd HA.out (by simp [Pb.l0])
   | succ k1 =>
    have H:=HA.out
    clear HA
    simp only [Pb.l0] at H
    by_cases c3:kf > 0
    ·rw [if_pos c3] at H
     have Zh:decide (0 < kf)=true:=decide_eq_true c3
     clear c3
     obtain ⟨bg,hy101⟩:∃ y_:List Int,y_=(([(wrap64 (48 + (Int.tmod kf 10))) % 256]:List Int)):=⟨_,rfl⟩
     replace H:(if (strOfNums bg).size + lf.size ≤ 9223372036854775807 then (Pb.l0 k1 (wrap64 (Int.tdiv kf 10)) ((strOfNums bg) ++ lf)) else (none))=some r:=by first|(rw [hy101];with_reducible exact H)|(have Eh:=(Option.bind_some _ _).symm.trans H;rw [hy101];with_reducible exact Eh)|(have Eh:=(Option.bind_some _ _).symm.trans H;with_reducible exact Eh)|with_reducible exact H|(rw [hy101];exact H)|exact H
     have ek:=ja.mk hy101
     clear hy101
     by_cases c4:(strOfNums bg).size + lf.size ≤ 9223372036854775807
     ·rw [if_pos c4] at H
      have Gi:=eq_true c4
      have CC:decide ((strOfNums bg).size + lf.size ≤ 9223372036854775807)=true:=decide_eq_true c4
      try have lan:(9223372036854775807 < (strOfNums bg).size + lf.size)=False:=eq_false (Nat.not_lt.2 c4)
      have H':=ja.mk H
      clear H
      go_wp2_with (first|((with_reducible refine Kb (N:=12) rfl ?_);refine Kd.Jz (Kd.int .u8) _ 5 ?hg (N:=12) ?hd (xs:=([(wrap64 (48 + (Int.tmod kf 10))) % 256]:List Int)) (inner:=[.int .u8 ((wrap64 (48 + (Int.tmod kf 10))) % 256)]) (ok:=fun _=>True) (vp:=fun _=>True) ?hr ?hp (fun _ hk=>hk) trivial (Below.refl _ _) (Nat.le_refl _) (by simp) ?_;(case hd=>rfl);(case hg=>rfl);(case hr=>first|(go_simp;done)|(go_simp;rfl));(case hp=>exact (Tf.one (show Kd.M (Kd.int .u8) _ _ _ ((wrap64 (48 + (Int.tmod kf 10))) % 256) [.int .u8 ((wrap64 (48 + (Int.tmod kf 10))) % 256)] from rfl) (Tf.none _ _)));intro IB w5 UJ hb CD Jn;clear CD Jn;(first|rw [← ek.out] at UJ|(simp only [Int.reduceToNat] at UJ;rw [← ek.out] at UJ));have Gb:=ja.mk (Kd.zi UJ (Ra (by repeat (first|(with_reducible first|exact HB.out|apply qa|apply ia|apply ua)|exact HB.out))));have Vb:=ja.mk (Qa (by repeat (first|(with_reducible first|exact HB.out|apply qa|apply ia|apply ua)|exact HB.out)) hb);clear HB;have gp:=Gb;have HB:=Vb;clear Gb Vb;clear hb UJ;have xam:=tD (P:=Try.prog) Try.underlying177 Try.underlying5 Try.underlying9 (Kd.Wx gp.out)))
      go_roundg k1
      case measure=>have:=Yg.out;omega
      case rel=>exact ⟨(wrap64 (Int.tdiv kf 10)),((strOfNums bg) ++ lf),(by first|rfl|(simp;done)|(simp [*];done)),(by first|rfl|(simp;done)|(simp [*];done)),H',⟨by have:=Yg.out;omega⟩,⟨by repeat (first|(with_reducible first|exact HB.out|apply qa|apply ia|apply ua)|exact HB.out)⟩⟩
     ·rw [if_neg c4] at H
      exact absurd H (by simp)
    ·rw [if_neg c3] at H
     have Zh:decide (0 < kf)=false:=decide_eq_false c3
     clear c3
     by_cases c8:1 + lf.size ≤ 9223372036854775807
     ·rw [if_pos c8] at H
      have Ll:=eq_true c8
      have mq:decide (1 + lf.size ≤ 9223372036854775807)=true:=decide_eq_true c8
      try have kan:(9223372036854775807 < 1 + lf.size)=False:=eq_false (Nat.not_lt.2 c8)
      obtain rfl:=Option.some.inj H
      go_wp2
      go_ret
      exact ⟨by first|rfl|(simp [La,Ka] <;> rfl)|(simp [*,La,Ka] <;> rfl),by repeat (first|(with_reducible first|exact HB.out|apply qa|apply ia|apply ua)|exact HB.out)⟩
     ·rw [if_neg c8] at H
      exact absurd H (by simp)
def Yb.l0:Nat→List (Bf)→Int→Int→Option (Int × (List (Bf)))
 | 0,_,_,_=>none
 | k + 1,x0,x1,x5=>if x5 < (x0.length:Int) then (if 0 ≤ x5 then ((some (x0.set (x5:Int).toNat (⟨x1,(Ja x0 x5).f1,(Ja x0 x5).f2,(Ja x0 x5).f3,(Ja x0 x5).f4,(Ja x0 x5).f5,(Ja x0 x5).f6⟩:Bf):List (Bf))).bind fun bg=>((some (bg.set (x5:Int).toNat (⟨(Ja bg x5).f0,wrap64 (x1 + 1),(Ja bg x5).f2,(Ja bg x5).f3,(Ja bg x5).f4,(Ja bg x5).f5,(Ja bg x5).f6⟩:Bf):List (Bf))).bind fun kg=>((some (kg.set (x5:Int).toNat (⟨(Ja kg x5).f0,(Ja kg x5).f1,wrap64 ((wrap64 (x1 + 1)) + 1),(Ja kg x5).f3,(Ja kg x5).f4,(Ja kg x5).f5,(Ja kg x5).f6⟩:Bf):List (Bf))).bind fun Dg=>((some (Dg.set (x5:Int).toNat (⟨(Ja Dg x5).f0,(Ja Dg x5).f1,(Ja Dg x5).f2,wrap64 ((wrap64 ((wrap64 (x1 + 1)) + 1)) + 1),(Ja Dg x5).f4,(Ja Dg x5).f5,(Ja Dg x5).f6⟩:Bf):List (Bf))).bind fun lg=>((some (lg.set (x5:Int).toNat (⟨(Ja lg x5).f0,(Ja lg x5).f1,(Ja lg x5).f2,(Ja lg x5).f3,wrap64 ((wrap64 ((wrap64 ((wrap64 (x1 + 1)) + 1)) + 1)) + 1),(Ja lg x5).f5,(Ja lg x5).f6⟩:Bf):List (Bf))).bind fun Ef=>((some (Ef.set (x5:Int).toNat (⟨(Ja Ef x5).f0,(Ja Ef x5).f1,(Ja Ef x5).f2,(Ja Ef x5).f3,(Ja Ef x5).f4,wrap64 ((wrap64 ((wrap64 ((wrap64 ((wrap64 (x1 + 1)) + 1)) + 1)) + 1)) + 1),(Ja Ef x5).f6⟩:Bf):List (Bf))).bind fun uf=>((Pb.f k (wrap64 ((wrap64 ((wrap64 ((wrap64 ((wrap64 ((wrap64 (x1 + 1)) + 1)) + 1)) + 1)) + 1)) + 1))).bind fun t107=>(Yb.l0 k (uf.set (x5:Int).toNat (⟨(Ja uf x5).f0,(Ja uf x5).f1,(Ja uf x5).f2,(Ja uf x5).f3,(Ja uf x5).f4,(Ja uf x5).f5,t107⟩:Bf)) (wrap64 ((wrap64 ((wrap64 ((wrap64 ((wrap64 ((wrap64 ((wrap64 (x1 + 1)) + 1)) + 1)) + 1)) + 1)) + 1)) + 1)) (wrap64 (x5 + 1)))))))))) else (none)) else (some (x1,x0))
def Yb.f (k:Nat) (l0:List (Bf)) (a1:Int):Option (Int × (List (Bf))):=Yb.l0 k l0 a1 0
theorem Yb.Sd:∀ k,(∀ y0 y1 y2,Lb (Yb.l0 k y0 y1 y2) (Yb.l0 (k + 1) y0 y1 y2))
 | 0=>fun _ _ _ r h=>by simp [Yb.l0] at h
 | k + 1=>by
  have Ff:=Yb.Sd k
  ·intro y0 y1 y2
   unfold Yb.l0
   repeat' first
   | (with_reducible exact Ff _ _ _)
   | (with_reducible exact Pb.mono _ _)
   | (with_reducible exact Lb.refl _)
   | (with_reducible exact Lb.none _)
   | (with_reducible refine Lb.ite ?_ ?_)
   | (with_reducible refine Lb.bind ?_ (fun _=>?_))
   | exact Ff _ _ _
   | exact Pb.mono _ _
   | exact Lb.none _
   | refine Lb.ite ?_ ?_
   | refine Lb.bind ?_ (fun _=>?_)
theorem Yb.mono:∀ a0 a1 k,Lb (Yb.f k a0 a1) (Yb.f (k + 1) a0 a1):=by
 intro a0 a1 k
 have Ff:=Yb.Sd k
 unfold Yb.f
 repeat' first
   | (with_reducible exact Ff _ _ _)
   | (with_reducible exact Pb.mono _ _)
   | (with_reducible exact Lb.refl _)
   | (with_reducible exact Lb.none _)
   | (with_reducible refine Lb.ite ?_ ?_)
   | (with_reducible refine Lb.bind ?_ (fun _=>?_))
   | exact Ff _ _ _
   | exact Pb.mono _ _
   | exact Lb.none _
   | refine Lb.ite ?_ ?_
   | refine Lb.bind ?_ (fun _=>?_)
set_option maxHeartbeats 8000000 in
set_option maxRecDepth 100000 in
theorem Yb.calls (k:Nat) (zn:Nat→Prop) (Cg:Value) (l0:List (Bf)) (a1:Int) (r1:Int) (r2:List (Bf)) (w0 w:World) (hB:Below w0.heap.size w0 w) (Zm:Kd.R Ij 70 w w0.heap.size zn Cg l0) (h:Yb.f k l0 a1=some (r1,r2)) :
  Calls Try.prog 94 #[Cg,.int .i64 a1] w fun e w'=>e = .returned (.int .i64 r1)∧Kd.R Ij 70 w' w0.heap.size (fun k_=>(zn k_ ∨ w.heap.size ≤ k_)) Cg r2∧Below w0.heap.size w0 w'∧Kept w w' (fun k_=>zn k_):=by
 have HO0:=ja.mk (show Kd.R Ij 70 w w0.heap.size (fun k_=>(zn k_ ∨ w.heap.size ≤ k_)) Cg l0 from Kd.Oe Zm (fun k_ hk=>(.inl hk)))
 have HK:=ja.mk (Kept.refl w (fun k_=>zn k_))
 have HW0:=ja.mk hB.size
 have HB:=ja.mk hB
 clear hB
 have H:(Yb.l0 k l0 a1 0)=some (r1,r2):=h
 clear h
 have H':=ja.mk H
 clear H
 go_enter Try.func94,Try.ntmps94
 go_wp2
 go_loopg [1,5] k (fun kq v1 v5 w'=>∃ (kf:List (Bf)) (Md:Int) (Ia:Int),v1 = .int .i64 Md∧v5 = .int .i64 Ia∧ja (Yb.l0 kq kf Md Ia=some (r1,r2))∧ja (kq ≤ k)∧ja (Kd.R Ij 70 w' w0.heap.size (fun k_=>(zn k_ ∨ w.heap.size ≤ k_)) Cg kf)∧ja (Kept w w' (fun k_=>zn k_))∧ja (Below w0.heap.size w0 w'))
 case atStart=>exact ⟨(l0),(a1),(0),(by first|rfl|(simp;done)|(simp [*];done)),(by first|rfl|(simp;done)|(simp [*];done)),H',⟨Nat.le_refl _⟩,⟨by (with_reducible repeat (first|apply Kd.Dc|apply Kd.Ic|apply Kd.Zc));exact HO0.out⟩,⟨by repeat (first|(with_reducible first|exact HK.out|apply Kept.alloc|apply Kept.drewN|apply Kept.drew)|exact HK.out)⟩,⟨by repeat (first|(with_reducible first|exact HB.out|apply qa|apply ia|apply ua)|exact HB.out)⟩⟩
 case round =>
  clear H'
  try clear p2
  (try clear HA)
  (try clear Yg)
  (try clear jg)
  (try clear HK)
  (try clear HB)
  obtain ⟨kf,Md,Ia,rfl,rfl,HA,Yg,jg,HK,HB⟩:=hrel
  cases gk with
  | zero=>exact absurd HA.out (by simp [Yb.l0])
  | succ k1 =>
   have H:=HA.out
   clear HA
   simp only [Yb.l0] at H
   by_cases c3:Ia < (kf.length:Int)
   ·rw [if_pos c3] at H
    have Zh:decide (Ia < (kf.length:Int))=true:=decide_eq_true c3
    clear c3
    by_cases c4:0 ≤ Ia
    ·rw [if_pos c4] at H
     have Gi:decide (0 ≤ Ia)=true:=decide_eq_true c4
     clear c4
     obtain ⟨bg,hy101⟩:∃ y_:List (Bf),y_=(kf.set (Ia:Int).toNat (⟨Md,(Ja kf Ia).f1,(Ja kf Ia).f2,(Ja kf Ia).f3,(Ja kf Ia).f4,(Ja kf Ia).f5,(Ja kf Ia).f6⟩:Bf)):=⟨_,rfl⟩
     replace H:((some (bg.set (Ia:Int).toNat (⟨(Ja bg Ia).f0,wrap64 (Md + 1),(Ja bg Ia).f2,(Ja bg Ia).f3,(Ja bg Ia).f4,(Ja bg Ia).f5,(Ja bg Ia).f6⟩:Bf):List (Bf))).bind fun kg=>((some (kg.set (Ia:Int).toNat (⟨(Ja kg Ia).f0,(Ja kg Ia).f1,wrap64 ((wrap64 (Md + 1)) + 1),(Ja kg Ia).f3,(Ja kg Ia).f4,(Ja kg Ia).f5,(Ja kg Ia).f6⟩:Bf):List (Bf))).bind fun Dg=>((some (Dg.set (Ia:Int).toNat (⟨(Ja Dg Ia).f0,(Ja Dg Ia).f1,(Ja Dg Ia).f2,wrap64 ((wrap64 ((wrap64 (Md + 1)) + 1)) + 1),(Ja Dg Ia).f4,(Ja Dg Ia).f5,(Ja Dg Ia).f6⟩:Bf):List (Bf))).bind fun lg=>((some (lg.set (Ia:Int).toNat (⟨(Ja lg Ia).f0,(Ja lg Ia).f1,(Ja lg Ia).f2,(Ja lg Ia).f3,wrap64 ((wrap64 ((wrap64 ((wrap64 (Md + 1)) + 1)) + 1)) + 1),(Ja lg Ia).f5,(Ja lg Ia).f6⟩:Bf):List (Bf))).bind fun Ef=>((some (Ef.set (Ia:Int).toNat (⟨(Ja Ef Ia).f0,(Ja Ef Ia).f1,(Ja Ef Ia).f2,(Ja Ef Ia).f3,(Ja Ef Ia).f4,wrap64 ((wrap64 ((wrap64 ((wrap64 ((wrap64 (Md + 1)) + 1)) + 1)) + 1)) + 1),(Ja Ef Ia).f6⟩:Bf):List (Bf))).bind fun uf=>((Pb.f k1 (wrap64 ((wrap64 ((wrap64 ((wrap64 ((wrap64 ((wrap64 (Md + 1)) + 1)) + 1)) + 1)) + 1)) + 1))).bind fun t107=>(Yb.l0 k1 (uf.set (Ia:Int).toNat (⟨(Ja uf Ia).f0,(Ja uf Ia).f1,(Ja uf Ia).f2,(Ja uf Ia).f3,(Ja uf Ia).f4,(Ja uf Ia).f5,t107⟩:Bf)) (wrap64 ((wrap64 ((wrap64 ((wrap64 ((wrap64 ((wrap64 ((wrap64 (Md + 1)) + 1)) + 1)) + 1)) + 1)) + 1)) + 1)) (wrap64 (Ia + 1)))))))))=some (r1,r2):=by first|(rw [hy101];with_reducible exact H)|(have Eh:=(Option.bind_some _ _).symm.trans H;rw [hy101];with_reducible exact Eh)|(have Eh:=(Option.bind_some _ _).symm.trans H;with_reducible exact Eh)|with_reducible exact H|(rw [hy101];exact H)|exact H
     have ek:=ja.mk hy101
     clear hy101
     obtain ⟨kg,hy102⟩:∃ y_:List (Bf),y_=(bg.set (Ia:Int).toNat (⟨(Ja bg Ia).f0,wrap64 (Md + 1),(Ja bg Ia).f2,(Ja bg Ia).f3,(Ja bg Ia).f4,(Ja bg Ia).f5,(Ja bg Ia).f6⟩:Bf)):=⟨_,rfl⟩
     replace H:((some (kg.set (Ia:Int).toNat (⟨(Ja kg Ia).f0,(Ja kg Ia).f1,wrap64 ((wrap64 (Md + 1)) + 1),(Ja kg Ia).f3,(Ja kg Ia).f4,(Ja kg Ia).f5,(Ja kg Ia).f6⟩:Bf):List (Bf))).bind fun Dg=>((some (Dg.set (Ia:Int).toNat (⟨(Ja Dg Ia).f0,(Ja Dg Ia).f1,(Ja Dg Ia).f2,wrap64 ((wrap64 ((wrap64 (Md + 1)) + 1)) + 1),(Ja Dg Ia).f4,(Ja Dg Ia).f5,(Ja Dg Ia).f6⟩:Bf):List (Bf))).bind fun lg=>((some (lg.set (Ia:Int).toNat (⟨(Ja lg Ia).f0,(Ja lg Ia).f1,(Ja lg Ia).f2,(Ja lg Ia).f3,wrap64 ((wrap64 ((wrap64 ((wrap64 (Md + 1)) + 1)) + 1)) + 1),(Ja lg Ia).f5,(Ja lg Ia).f6⟩:Bf):List (Bf))).bind fun Ef=>((some (Ef.set (Ia:Int).toNat (⟨(Ja Ef Ia).f0,(Ja Ef Ia).f1,(Ja Ef Ia).f2,(Ja Ef Ia).f3,(Ja Ef Ia).f4,wrap64 ((wrap64 ((wrap64 ((wrap64 ((wrap64 (Md + 1)) + 1)) + 1)) + 1)) + 1),(Ja Ef Ia).f6⟩:Bf):List (Bf))).bind fun uf=>((Pb.f k1 (wrap64 ((wrap64 ((wrap64 ((wrap64 ((wrap64 ((wrap64 (Md + 1)) + 1)) + 1)) + 1)) + 1)) + 1))).bind fun t107=>(Yb.l0 k1 (uf.set (Ia:Int).toNat (⟨(Ja uf Ia).f0,(Ja uf Ia).f1,(Ja uf Ia).f2,(Ja uf Ia).f3,(Ja uf Ia).f4,(Ja uf Ia).f5,t107⟩:Bf)) (wrap64 ((wrap64 ((wrap64 ((wrap64 ((wrap64 ((wrap64 ((wrap64 (Md + 1)) + 1)) + 1)) + 1)) + 1)) + 1)) + 1)) (wrap64 (Ia + 1))))))))=some (r1,r2):=by first|(rw [hy102];with_reducible exact H)|(have Eh:=(Option.bind_some _ _).symm.trans H;rw [hy102];with_reducible exact Eh)|(have Eh:=(Option.bind_some _ _).symm.trans H;with_reducible exact Eh)|with_reducible exact H|(rw [hy102];exact H)|exact H
     have WH:=ja.mk hy102
     clear hy102
     obtain ⟨Dg,hy103⟩:∃ y_:List (Bf),y_=(kg.set (Ia:Int).toNat (⟨(Ja kg Ia).f0,(Ja kg Ia).f1,wrap64 ((wrap64 (Md + 1)) + 1),(Ja kg Ia).f3,(Ja kg Ia).f4,(Ja kg Ia).f5,(Ja kg Ia).f6⟩:Bf)):=⟨_,rfl⟩
     replace H:((some (Dg.set (Ia:Int).toNat (⟨(Ja Dg Ia).f0,(Ja Dg Ia).f1,(Ja Dg Ia).f2,wrap64 ((wrap64 ((wrap64 (Md + 1)) + 1)) + 1),(Ja Dg Ia).f4,(Ja Dg Ia).f5,(Ja Dg Ia).f6⟩:Bf):List (Bf))).bind fun lg=>((some (lg.set (Ia:Int).toNat (⟨(Ja lg Ia).f0,(Ja lg Ia).f1,(Ja lg Ia).f2,(Ja lg Ia).f3,wrap64 ((wrap64 ((wrap64 ((wrap64 (Md + 1)) + 1)) + 1)) + 1),(Ja lg Ia).f5,(Ja lg Ia).f6⟩:Bf):List (Bf))).bind fun Ef=>((some (Ef.set (Ia:Int).toNat (⟨(Ja Ef Ia).f0,(Ja Ef Ia).f1,(Ja Ef Ia).f2,(Ja Ef Ia).f3,(Ja Ef Ia).f4,wrap64 ((wrap64 ((wrap64 ((wrap64 ((wrap64 (Md + 1)) + 1)) + 1)) + 1)) + 1),(Ja Ef Ia).f6⟩:Bf):List (Bf))).bind fun uf=>((Pb.f k1 (wrap64 ((wrap64 ((wrap64 ((wrap64 ((wrap64 ((wrap64 (Md + 1)) + 1)) + 1)) + 1)) + 1)) + 1))).bind fun t107=>(Yb.l0 k1 (uf.set (Ia:Int).toNat (⟨(Ja uf Ia).f0,(Ja uf Ia).f1,(Ja uf Ia).f2,(Ja uf Ia).f3,(Ja uf Ia).f4,(Ja uf Ia).f5,t107⟩:Bf)) (wrap64 ((wrap64 ((wrap64 ((wrap64 ((wrap64 ((wrap64 ((wrap64 (Md + 1)) + 1)) + 1)) + 1)) + 1)) + 1)) + 1)) (wrap64 (Ia + 1)))))))=some (r1,r2):=by first|(rw [hy103];with_reducible exact H)|(have Eh:=(Option.bind_some _ _).symm.trans H;rw [hy103];with_reducible exact Eh)|(have Eh:=(Option.bind_some _ _).symm.trans H;with_reducible exact Eh)|with_reducible exact H|(rw [hy103];exact H)|exact H
     have AL:=ja.mk hy103
     clear hy103
     obtain ⟨lg,hy104⟩:∃ y_:List (Bf),y_=(Dg.set (Ia:Int).toNat (⟨(Ja Dg Ia).f0,(Ja Dg Ia).f1,(Ja Dg Ia).f2,wrap64 ((wrap64 ((wrap64 (Md + 1)) + 1)) + 1),(Ja Dg Ia).f4,(Ja Dg Ia).f5,(Ja Dg Ia).f6⟩:Bf)):=⟨_,rfl⟩
     replace H:((some (lg.set (Ia:Int).toNat (⟨(Ja lg Ia).f0,(Ja lg Ia).f1,(Ja lg Ia).f2,(Ja lg Ia).f3,wrap64 ((wrap64 ((wrap64 ((wrap64 (Md + 1)) + 1)) + 1)) + 1),(Ja lg Ia).f5,(Ja lg Ia).f6⟩:Bf):List (Bf))).bind fun Ef=>((some (Ef.set (Ia:Int).toNat (⟨(Ja Ef Ia).f0,(Ja Ef Ia).f1,(Ja Ef Ia).f2,(Ja Ef Ia).f3,(Ja Ef Ia).f4,wrap64 ((wrap64 ((wrap64 ((wrap64 ((wrap64 (Md + 1)) + 1)) + 1)) + 1)) + 1),(Ja Ef Ia).f6⟩:Bf):List (Bf))).bind fun uf=>((Pb.f k1 (wrap64 ((wrap64 ((wrap64 ((wrap64 ((wrap64 ((wrap64 (Md + 1)) + 1)) + 1)) + 1)) + 1)) + 1))).bind fun t107=>(Yb.l0 k1 (uf.set (Ia:Int).toNat (⟨(Ja uf Ia).f0,(Ja uf Ia).f1,(Ja uf Ia).f2,(Ja uf Ia).f3,(Ja uf Ia).f4,(Ja uf Ia).f5,t107⟩:Bf)) (wrap64 ((wrap64 ((wrap64 ((wrap64 ((wrap64 ((wrap64 ((wrap64 (Md + 1)) + 1)) + 1)) + 1)) + 1)) + 1)) + 1)) (wrap64 (Ia + 1))))))=some (r1,r2):=by first|(rw [hy104];with_reducible exact H)|(have Eh:=(Option.bind_some _ _).symm.trans H;rw [hy104];with_reducible exact Eh)|(have Eh:=(Option.bind_some _ _).symm.trans H;with_reducible exact Eh)|with_reducible exact H|(rw [hy104];exact H)|exact H
     have zL:=ja.mk hy104
     clear hy104
     obtain ⟨Ef,hy105⟩:∃ y_:List (Bf),y_=(lg.set (Ia:Int).toNat (⟨(Ja lg Ia).f0,(Ja lg Ia).f1,(Ja lg Ia).f2,(Ja lg Ia).f3,wrap64 ((wrap64 ((wrap64 ((wrap64 (Md + 1)) + 1)) + 1)) + 1),(Ja lg Ia).f5,(Ja lg Ia).f6⟩:Bf)):=⟨_,rfl⟩
     replace H:((some (Ef.set (Ia:Int).toNat (⟨(Ja Ef Ia).f0,(Ja Ef Ia).f1,(Ja Ef Ia).f2,(Ja Ef Ia).f3,(Ja Ef Ia).f4,wrap64 ((wrap64 ((wrap64 ((wrap64 ((wrap64 (Md + 1)) + 1)) + 1)) + 1)) + 1),(Ja Ef Ia).f6⟩:Bf):List (Bf))).bind fun uf=>((Pb.f k1 (wrap64 ((wrap64 ((wrap64 ((wrap64 ((wrap64 ((wrap64 (Md + 1)) + 1)) + 1)) + 1)) + 1)) + 1))).bind fun t107=>(Yb.l0 k1 (uf.set (Ia:Int).toNat (⟨(Ja uf Ia).f0,(Ja uf Ia).f1,(Ja uf Ia).f2,(Ja uf Ia).f3,(Ja uf Ia).f4,(Ja uf Ia).f5,t107⟩:Bf)) (wrap64 ((wrap64 ((wrap64 ((wrap64 ((wrap64 ((wrap64 ((wrap64 (Md + 1)) + 1)) + 1)) + 1)) + 1)) + 1)) + 1)) (wrap64 (Ia + 1)))))=some (r1,r2):=by first|(rw [hy105];with_reducible exact H)|(have Eh:=(Option.bind_some _ _).symm.trans H;rw [hy105];with_reducible exact Eh)|(have Eh:=(Option.bind_some _ _).symm.trans H;with_reducible exact Eh)|with_reducible exact H|(rw [hy105];exact H)|exact H
     have OC:=ja.mk hy105
     clear hy105
     obtain ⟨uf,hy106⟩:∃ y_:List (Bf),y_=(Ef.set (Ia:Int).toNat (⟨(Ja Ef Ia).f0,(Ja Ef Ia).f1,(Ja Ef Ia).f2,(Ja Ef Ia).f3,(Ja Ef Ia).f4,wrap64 ((wrap64 ((wrap64 ((wrap64 ((wrap64 (Md + 1)) + 1)) + 1)) + 1)) + 1),(Ja Ef Ia).f6⟩:Bf)):=⟨_,rfl⟩
     replace H:((Pb.f k1 (wrap64 ((wrap64 ((wrap64 ((wrap64 ((wrap64 ((wrap64 (Md + 1)) + 1)) + 1)) + 1)) + 1)) + 1))).bind fun t107=>(Yb.l0 k1 (uf.set (Ia:Int).toNat (⟨(Ja uf Ia).f0,(Ja uf Ia).f1,(Ja uf Ia).f2,(Ja uf Ia).f3,(Ja uf Ia).f4,(Ja uf Ia).f5,t107⟩:Bf)) (wrap64 ((wrap64 ((wrap64 ((wrap64 ((wrap64 ((wrap64 ((wrap64 (Md + 1)) + 1)) + 1)) + 1)) + 1)) + 1)) + 1)) (wrap64 (Ia + 1))))=some (r1,r2):=by first|(rw [hy106];with_reducible exact H)|(have Eh:=(Option.bind_some _ _).symm.trans H;rw [hy106];with_reducible exact Eh)|(have Eh:=(Option.bind_some _ _).symm.trans H;with_reducible exact Eh)|with_reducible exact H|(rw [hy106];exact H)|exact H
     have S4:=ja.mk hy106
     clear hy106
     replace H:=Option.bind_eq_some_iff.mp H
     obtain ⟨t107,SC,H⟩:=H
     replace H:(Yb.l0 k1 (uf.set (Ia:Int).toNat (⟨(Ja uf Ia).f0,(Ja uf Ia).f1,(Ja uf Ia).f2,(Ja uf Ia).f3,(Ja uf Ia).f4,(Ja uf Ia).f5,t107⟩:Bf)) (wrap64 ((wrap64 ((wrap64 ((wrap64 ((wrap64 ((wrap64 ((wrap64 (Md + 1)) + 1)) + 1)) + 1)) + 1)) + 1)) + 1)) (wrap64 (Ia + 1)))=some (r1,r2):=H
     have QL:=ja.mk SC
     clear SC
     obtain ⟨y108,hy108⟩:∃ y_:List (Bf),y_=(uf.set (Ia:Int).toNat (⟨(Ja uf Ia).f0,(Ja uf Ia).f1,(Ja uf Ia).f2,(Ja uf Ia).f3,(Ja uf Ia).f4,(Ja uf Ia).f5,t107⟩:Bf)):=⟨_,rfl⟩
     replace H:(Yb.l0 k1 y108 (wrap64 ((wrap64 ((wrap64 ((wrap64 ((wrap64 ((wrap64 ((wrap64 (Md + 1)) + 1)) + 1)) + 1)) + 1)) + 1)) + 1)) (wrap64 (Ia + 1)))=some (r1,r2):=by first|(rw [hy108];with_reducible exact H)|(have Eh:=(Option.bind_some _ _).symm.trans H;rw [hy108];with_reducible exact Eh)|(have Eh:=(Option.bind_some _ _).symm.trans H;with_reducible exact Eh)|with_reducible exact H|(rw [hy108];exact H)|exact H
     have VH:=ja.mk hy108
     clear hy108
     have H':=ja.mk H
     clear H
     obtain ⟨AE,Oo,nU⟩:=Kd.Hf jg.out
     subst nU
     have p5:0 ≤ (Ia:Int):=of_decide_eq_true (by first|(with_reducible assumption)|assumption)
     have q5:(Ia:Int) < ((kf.length:Int):Int):=of_decide_eq_true (by first|(with_reducible assumption)|assumption)
     obtain ⟨wg,co5,mU,R2,gl5,cl5,pS⟩:=Kd.Qo jg.out (by omega)
     (first|cases mU|(injection mU with Ei en_ ec_;(first|subst Ei|(injection Ei with Ei;subst Ei));subst ec_;clear en_))
     have NQ:=ja.mk R2
     have GG5:=ja.mk pS
     clear R2 gl5 pS
     have O5:=ja.mk (show (zn wg ∨ w.heap.size ≤ wg) from (jg.out.1 _ rfl))
     obtain ⟨ce5,pag,hM5,nC,gC⟩:=Kd.ah jg.out Fq (Ia:Int) p5 q5
     obtain rfl:=Ug hM5
     have rW:wr.cell? ⟨wg,(Ia:Int).toNat * 7,none⟩=some (.int .i64 ((Ja kf Ia).f0)):=nC 0 _ rfl
     have iai:wr.cell? ⟨wg,(Ia:Int).toNat * 7 + 1,none⟩=some (.int .i64 ((Ja kf Ia).f1)):=nC 1 _ rfl
     have hai:wr.cell? ⟨wg,(Ia:Int).toNat * 7 + 2,none⟩=some (.int .i64 ((Ja kf Ia).f2)):=nC 2 _ rfl
     have gai:wr.cell? ⟨wg,(Ia:Int).toNat * 7 + 3,none⟩=some (.int .i64 ((Ja kf Ia).f3)):=nC 3 _ rfl
     have fai:wr.cell? ⟨wg,(Ia:Int).toNat * 7 + 4,none⟩=some (.int .i64 ((Ja kf Ia).f4)):=nC 4 _ rfl
     have eai:wr.cell? ⟨wg,(Ia:Int).toNat * 7 + 5,none⟩=some (.int .i64 ((Ja kf Ia).f5)):=nC 5 _ rfl
     have dai:wr.cell? ⟨wg,(Ia:Int).toNat * 7 + 6,none⟩=some (.string ((Ja kf Ia).f6)):=nC 6 _ rfl
     have WY:wr.frozen? ⟨wg,(Ia:Int).toNat * 7,none⟩=false:=gC 0
     have xak:wr.frozen? ⟨wg,(Ia:Int).toNat * 7 + 1,none⟩=false:=gC 1
     have wak:wr.frozen? ⟨wg,(Ia:Int).toNat * 7 + 2,none⟩=false:=gC 2
     have vak:wr.frozen? ⟨wg,(Ia:Int).toNat * 7 + 3,none⟩=false:=gC 3
     have uak:wr.frozen? ⟨wg,(Ia:Int).toNat * 7 + 4,none⟩=false:=gC 4
     have tak:wr.frozen? ⟨wg,(Ia:Int).toNat * 7 + 5,none⟩=false:=gC 5
     have sak:wr.frozen? ⟨wg,(Ia:Int).toNat * 7 + 6,none⟩=false:=gC 6
     clear pag nC gC hM5
     replace p5:=eq_true p5
     replace q5:=eq_true q5
     have E5:=ja.mk (show Kd.R Ij 70 wr w0.heap.size (fun k_=>(zn k_ ∨ w.heap.size ≤ k_)) (.slice (some ⟨wg,0,none⟩) kf.length Oo) kf from (by (with_reducible repeat (first|apply Kd.Dc|apply Kd.Ic|apply Kd.Zc));exact jg.out))
     obtain ⟨jan,AR,N2,VK,rR⟩:=Kd.ah E5.out Fq (Ia:Int) (of_decide_eq_true (by first|(with_reducible assumption)|assumption)) (by have h_:(Ia:Int) < ((kf.length:Int):Int):=of_decide_eq_true (by first|(with_reducible assumption)|assumption);first|exact h_|(have e_:=(Kd.Cc jg.out).1;omega)|simpa using h_)
     obtain rfl:=Ug N2
     have iV:=Kd.Pn E5.out (Ia:Int) (of_decide_eq_true (by first|(with_reducible assumption)|assumption)) (by have h_:(Ia:Int) < ((kf.length:Int):Int):=of_decide_eq_true (by first|(with_reducible assumption)|assumption);first|exact h_|(have e_:=(Kd.Cc jg.out).1;omega)|simpa using h_) (seg:=[.int .i64 Md]) (j:=0) AR VK (show 1 ≤ 7 from by decide) (x':=(⟨Md,(Ja kf Ia).f1,(Ja kf Ia).f2,(Ja kf Ia).f3,(Ja kf Ia).f4,(Ja kf Ia).f5,(Ja kf Ia).f6⟩:Bf)) (zm _ _ _ (⟨Md,(Ja kf Ia).f1,(Ja kf Ia).f2,(Ja kf Ia).f3,(Ja kf Ia).f4,(Ja kf Ia).f5,(Ja kf Ia).f6⟩:Bf) ) (fun _ hk=>hk)
     have pT:=VK 0 _ rfl
     (try simp only [show (Ij).sz=7 from rfl,Nat.mul_one,Nat.add_zero] at pT)
     have YT:=rR 0
     (try simp only [show (Ij).sz=7 from rfl,Nat.mul_one,Nat.add_zero] at YT)
     clear AR VK rR N2
     go_wp2_with (first|((with_reducible refine qf (t:=3) (p:=16) rfl ?_);refine Xe (t:=3) (p:=16) (v:=?vo_w15) (w1:=(wr.setCell ⟨wg,(Ia:Int).toNat * 7,none⟩ (.int .i64 Md))) ?hg ?ho ?hn ?hr ?_;(case ho=>rfl);(case hg=>rfl);(case hn=>rfl);(case hr=>first|(go_simp;done)|(go_simp;rfl));intro Nk hw;have hg:wr.grownBy Nk (some wg):=(by rw [hw];exact iV.2);have Gn:Kd.R Ij 70 Nk w0.heap.size (fun k_=>(zn k_ ∨ w.heap.size ≤ k_)) (.slice (some ⟨wg,0,none⟩) kf.length Oo) bg:=(by rw [hw,ek.out];exact iV.1);clear iV;have Gb:=ja.mk (Gn);have Vb:=ja.mk ((by rw [hw];exact Aa (HB.out) NQ.out:Below w0.heap.size w0 Nk));have Ac:=ja.mk (Kept.Fh (S:=(fun k_=>zn k_)) hg (by repeat (first|(with_reducible first|exact HK.out|apply Kept.alloc|apply Kept.drewN|apply Kept.drew)|exact HK.out)) (fun k_ e_=>(jg.out.1 k_ e_)));clear jg;clear HB;clear HK;have jg:=Gb;have HB:=Vb;have HK:=Ac;clear Gb Vb Ac;clear hg hw Gn;have p6:0 ≤ (Ia:Int):=of_decide_eq_true (by first|(with_reducible assumption)|assumption);have q6:(Ia:Int) < ((kf.length:Int):Int):=of_decide_eq_true (by first|(with_reducible assumption)|assumption);obtain ⟨ce6,oag,hM6,mC,fC⟩:=Kd.ah jg.out Fq (Ia:Int) p6 q6;obtain rfl:=Ug hM6;have cai:Nk.cell? ⟨wg,(Ia:Int).toNat * 7,none⟩=some (.int .i64 ((Ja bg Ia).f0)):=mC 0 _ rfl;have bai:Nk.cell? ⟨wg,(Ia:Int).toNat * 7 + 1,none⟩=some (.int .i64 ((Ja bg Ia).f1)):=mC 1 _ rfl;have aai:Nk.cell? ⟨wg,(Ia:Int).toNat * 7 + 2,none⟩=some (.int .i64 ((Ja bg Ia).f2)):=mC 2 _ rfl;have Zah:Nk.cell? ⟨wg,(Ia:Int).toNat * 7 + 3,none⟩=some (.int .i64 ((Ja bg Ia).f3)):=mC 3 _ rfl;have Yah:Nk.cell? ⟨wg,(Ia:Int).toNat * 7 + 4,none⟩=some (.int .i64 ((Ja bg Ia).f4)):=mC 4 _ rfl;have Xah:Nk.cell? ⟨wg,(Ia:Int).toNat * 7 + 5,none⟩=some (.int .i64 ((Ja bg Ia).f5)):=mC 5 _ rfl;have Wah:Nk.cell? ⟨wg,(Ia:Int).toNat * 7 + 6,none⟩=some (.string ((Ja bg Ia).f6)):=mC 6 _ rfl;have rak:Nk.frozen? ⟨wg,(Ia:Int).toNat * 7,none⟩=false:=fC 0;have qak:Nk.frozen? ⟨wg,(Ia:Int).toNat * 7 + 1,none⟩=false:=fC 1;have pak:Nk.frozen? ⟨wg,(Ia:Int).toNat * 7 + 2,none⟩=false:=fC 2;have oak:Nk.frozen? ⟨wg,(Ia:Int).toNat * 7 + 3,none⟩=false:=fC 3;have nak:Nk.frozen? ⟨wg,(Ia:Int).toNat * 7 + 4,none⟩=false:=fC 4;have mak:Nk.frozen? ⟨wg,(Ia:Int).toNat * 7 + 5,none⟩=false:=fC 5;have lak:Nk.frozen? ⟨wg,(Ia:Int).toNat * 7 + 6,none⟩=false:=fC 6;clear oag mC fC hM6;replace p6:=eq_true p6;replace q6:=eq_true q6;have D5:=ja.mk (show Kd.R Ij 70 Nk w0.heap.size (fun k_=>(zn k_ ∨ w.heap.size ≤ k_)) (.slice (some ⟨wg,0,none⟩) kf.length Oo) bg from (by (with_reducible repeat (first|apply Kd.Dc|apply Kd.Ic|apply Kd.Zc));exact jg.out));obtain ⟨ian,zR,K2,UK,qR⟩:=Kd.ah D5.out Fq (Ia:Int) (of_decide_eq_true (by first|(with_reducible assumption)|assumption)) (by have h_:(Ia:Int) < ((kf.length:Int):Int):=of_decide_eq_true (by first|(with_reducible assumption)|assumption);first|exact h_|(have e_:=(Kd.Cc jg.out).1;omega)|simpa using h_);obtain rfl:=Ug K2;have gV:=Kd.Pn D5.out (Ia:Int) (of_decide_eq_true (by first|(with_reducible assumption)|assumption)) (by have h_:(Ia:Int) < ((kf.length:Int):Int):=of_decide_eq_true (by first|(with_reducible assumption)|assumption);first|exact h_|(have e_:=(Kd.Cc jg.out).1;omega)|simpa using h_) (seg:=[.int .i64 (wrap64 (Md + 1))]) (j:=1) zR UK (show 2 ≤ 7 from by decide) (x':=(⟨(Ja bg Ia).f0,wrap64 (Md + 1),(Ja bg Ia).f2,(Ja bg Ia).f3,(Ja bg Ia).f4,(Ja bg Ia).f5,(Ja bg Ia).f6⟩:Bf)) (zm _ _ _ (⟨(Ja bg Ia).f0,wrap64 (Md + 1),(Ja bg Ia).f2,(Ja bg Ia).f3,(Ja bg Ia).f4,(Ja bg Ia).f5,(Ja bg Ia).f6⟩:Bf) ) (fun _ hk=>hk);have oT:=UK 1 _ rfl;(try simp only [show (Ij).sz=7 from rfl,Nat.mul_one,Nat.add_zero] at oT);have XT:=qR 1;(try simp only [show (Ij).sz=7 from rfl,Nat.mul_one,Nat.add_zero] at XT);clear zR UK qR K2)|((with_reducible refine qf (t:=3) (p:=23) rfl ?_);refine Xe (t:=3) (p:=23) (v:=?vo_w17) (w1:=(Nk.setCell ⟨wg,(Ia:Int).toNat * 7 + 1,none⟩ (.int .i64 (wrap64 (Md + 1))))) ?hg ?ho ?hn ?hr ?_;(case ho=>rfl);(case hg=>rfl);(case hn=>rfl);(case hr=>first|(go_simp;done)|(go_simp;rfl));intro Gq hw;have hg:Nk.grownBy Gq (some wg):=(by rw [hw];exact gV.2);have Gn:Kd.R Ij 70 Gq w0.heap.size (fun k_=>(zn k_ ∨ w.heap.size ≤ k_)) (.slice (some ⟨wg,0,none⟩) kf.length Oo) kg:=(by rw [hw,WH.out];exact gV.1);clear gV;have Gb:=ja.mk (Gn);have Vb:=ja.mk ((by rw [hw];exact Aa (HB.out) NQ.out:Below w0.heap.size w0 Gq));have Ac:=ja.mk (Kept.Fh (S:=(fun k_=>zn k_)) hg (by repeat (first|(with_reducible first|exact HK.out|apply Kept.alloc|apply Kept.drewN|apply Kept.drew)|exact HK.out)) (fun k_ e_=>(jg.out.1 k_ e_)));clear jg;clear HB;clear HK;have jg:=Gb;have HB:=Vb;have HK:=Ac;clear Gb Vb Ac;clear hg hw Gn;have p7:0 ≤ (Ia:Int):=of_decide_eq_true (by first|(with_reducible assumption)|assumption);have q7:(Ia:Int) < ((kf.length:Int):Int):=of_decide_eq_true (by first|(with_reducible assumption)|assumption);obtain ⟨ce7,dU,X1,bw,Zv⟩:=Kd.ah jg.out Fq (Ia:Int) p7 q7;obtain rfl:=Ug X1;have qW:Gq.cell? ⟨wg,(Ia:Int).toNat * 7,none⟩=some (.int .i64 ((Ja kg Ia).f0)):=bw 0 _ rfl;have pW:Gq.cell? ⟨wg,(Ia:Int).toNat * 7 + 1,none⟩=some (.int .i64 ((Ja kg Ia).f1)):=bw 1 _ rfl;have Vah:Gq.cell? ⟨wg,(Ia:Int).toNat * 7 + 2,none⟩=some (.int .i64 ((Ja kg Ia).f2)):=bw 2 _ rfl;have Uah:Gq.cell? ⟨wg,(Ia:Int).toNat * 7 + 3,none⟩=some (.int .i64 ((Ja kg Ia).f3)):=bw 3 _ rfl;have Tah:Gq.cell? ⟨wg,(Ia:Int).toNat * 7 + 4,none⟩=some (.int .i64 ((Ja kg Ia).f4)):=bw 4 _ rfl;have Sah:Gq.cell? ⟨wg,(Ia:Int).toNat * 7 + 5,none⟩=some (.int .i64 ((Ja kg Ia).f5)):=bw 5 _ rfl;have Rah:Gq.cell? ⟨wg,(Ia:Int).toNat * 7 + 6,none⟩=some (.string ((Ja kg Ia).f6)):=bw 6 _ rfl;have VY:Gq.frozen? ⟨wg,(Ia:Int).toNat * 7,none⟩=false:=Zv 0;have UY:Gq.frozen? ⟨wg,(Ia:Int).toNat * 7 + 1,none⟩=false:=Zv 1;have kak:Gq.frozen? ⟨wg,(Ia:Int).toNat * 7 + 2,none⟩=false:=Zv 2;have jak:Gq.frozen? ⟨wg,(Ia:Int).toNat * 7 + 3,none⟩=false:=Zv 3;have iak:Gq.frozen? ⟨wg,(Ia:Int).toNat * 7 + 4,none⟩=false:=Zv 4;have hak:Gq.frozen? ⟨wg,(Ia:Int).toNat * 7 + 5,none⟩=false:=Zv 5;have gak:Gq.frozen? ⟨wg,(Ia:Int).toNat * 7 + 6,none⟩=false:=Zv 6;clear dU bw Zv X1;replace p7:=eq_true p7;replace q7:=eq_true q7;have DL:=ja.mk (show Kd.R Ij 70 Gq w0.heap.size (fun k_=>(zn k_ ∨ w.heap.size ≤ k_)) (.slice (some ⟨wg,0,none⟩) kf.length Oo) kg from (by (with_reducible repeat (first|apply Kd.Dc|apply Kd.Ic|apply Kd.Zc));exact jg.out));obtain ⟨Uag,iC,XK,Iv,Az⟩:=Kd.ah DL.out Fq (Ia:Int) (of_decide_eq_true (by first|(with_reducible assumption)|assumption)) (by have h_:(Ia:Int) < ((kf.length:Int):Int):=of_decide_eq_true (by first|(with_reducible assumption)|assumption);first|exact h_|(have e_:=(Kd.Cc jg.out).1;omega)|simpa using h_);obtain rfl:=Ug XK;have wE:=Kd.Pn DL.out (Ia:Int) (of_decide_eq_true (by first|(with_reducible assumption)|assumption)) (by have h_:(Ia:Int) < ((kf.length:Int):Int):=of_decide_eq_true (by first|(with_reducible assumption)|assumption);first|exact h_|(have e_:=(Kd.Cc jg.out).1;omega)|simpa using h_) (seg:=[.int .i64 (wrap64 ((wrap64 (Md + 1)) + 1))]) (j:=2) iC Iv (show 3 ≤ 7 from by decide) (x':=(⟨(Ja kg Ia).f0,(Ja kg Ia).f1,wrap64 ((wrap64 (Md + 1)) + 1),(Ja kg Ia).f3,(Ja kg Ia).f4,(Ja kg Ia).f5,(Ja kg Ia).f6⟩:Bf)) (zm _ _ _ (⟨(Ja kg Ia).f0,(Ja kg Ia).f1,wrap64 ((wrap64 (Md + 1)) + 1),(Ja kg Ia).f3,(Ja kg Ia).f4,(Ja kg Ia).f5,(Ja kg Ia).f6⟩:Bf) ) (fun _ hk=>hk);have lT:=Iv 2 _ rfl;(try simp only [show (Ij).sz=7 from rfl,Nat.mul_one,Nat.add_zero] at lT);have UT:=Az 2;(try simp only [show (Ij).sz=7 from rfl,Nat.mul_one,Nat.add_zero] at UT);clear iC Iv Az XK)|((with_reducible refine qf (t:=3) (p:=30) rfl ?_);refine Xe (t:=3) (p:=30) (v:=?vo_w19) (w1:=(Gq.setCell ⟨wg,(Ia:Int).toNat * 7 + 2,none⟩ (.int .i64 (wrap64 ((wrap64 (Md + 1)) + 1))))) ?hg ?ho ?hn ?hr ?_;(case ho=>rfl);(case hg=>rfl);(case hn=>rfl);(case hr=>first|(go_simp;done)|(go_simp;rfl));intro Uv hw;have hg:Gq.grownBy Uv (some wg):=(by rw [hw];exact wE.2);have Gn:Kd.R Ij 70 Uv w0.heap.size (fun k_=>(zn k_ ∨ w.heap.size ≤ k_)) (.slice (some ⟨wg,0,none⟩) kf.length Oo) Dg:=(by rw [hw,AL.out];exact wE.1);clear wE;have Gb:=ja.mk (Gn);have Vb:=ja.mk ((by rw [hw];exact Aa (HB.out) NQ.out:Below w0.heap.size w0 Uv));have Ac:=ja.mk (Kept.Fh (S:=(fun k_=>zn k_)) hg (by repeat (first|(with_reducible first|exact HK.out|apply Kept.alloc|apply Kept.drewN|apply Kept.drew)|exact HK.out)) (fun k_ e_=>(jg.out.1 k_ e_)));clear jg;clear HB;clear HK;have jg:=Gb;have HB:=Vb;have HK:=Ac;clear Gb Vb Ac;clear hg hw Gn;have p8:0 ≤ (Ia:Int):=of_decide_eq_true (by first|(with_reducible assumption)|assumption);have q8:(Ia:Int) < ((kf.length:Int):Int):=of_decide_eq_true (by first|(with_reducible assumption)|assumption);obtain ⟨ce8,nag,hM8,lC,eC⟩:=Kd.ah jg.out Fq (Ia:Int) p8 q8;obtain rfl:=Ug hM8;have Qah:Uv.cell? ⟨wg,(Ia:Int).toNat * 7,none⟩=some (.int .i64 ((Ja Dg Ia).f0)):=lC 0 _ rfl;have Pah:Uv.cell? ⟨wg,(Ia:Int).toNat * 7 + 1,none⟩=some (.int .i64 ((Ja Dg Ia).f1)):=lC 1 _ rfl;have Oah:Uv.cell? ⟨wg,(Ia:Int).toNat * 7 + 2,none⟩=some (.int .i64 ((Ja Dg Ia).f2)):=lC 2 _ rfl;have Nah:Uv.cell? ⟨wg,(Ia:Int).toNat * 7 + 3,none⟩=some (.int .i64 ((Ja Dg Ia).f3)):=lC 3 _ rfl;have Mah:Uv.cell? ⟨wg,(Ia:Int).toNat * 7 + 4,none⟩=some (.int .i64 ((Ja Dg Ia).f4)):=lC 4 _ rfl;have Lah:Uv.cell? ⟨wg,(Ia:Int).toNat * 7 + 5,none⟩=some (.int .i64 ((Ja Dg Ia).f5)):=lC 5 _ rfl;have Kah:Uv.cell? ⟨wg,(Ia:Int).toNat * 7 + 6,none⟩=some (.string ((Ja Dg Ia).f6)):=lC 6 _ rfl;have fak:Uv.frozen? ⟨wg,(Ia:Int).toNat * 7,none⟩=false:=eC 0;have eak:Uv.frozen? ⟨wg,(Ia:Int).toNat * 7 + 1,none⟩=false:=eC 1;have dak:Uv.frozen? ⟨wg,(Ia:Int).toNat * 7 + 2,none⟩=false:=eC 2;have cak:Uv.frozen? ⟨wg,(Ia:Int).toNat * 7 + 3,none⟩=false:=eC 3;have bak:Uv.frozen? ⟨wg,(Ia:Int).toNat * 7 + 4,none⟩=false:=eC 4;have aak:Uv.frozen? ⟨wg,(Ia:Int).toNat * 7 + 5,none⟩=false:=eC 5;have Zaj:Uv.frozen? ⟨wg,(Ia:Int).toNat * 7 + 6,none⟩=false:=eC 6;clear nag lC eC hM8;replace p8:=eq_true p8;replace q8:=eq_true q8;have C5:=ja.mk (show Kd.R Ij 70 Uv w0.heap.size (fun k_=>(zn k_ ∨ w.heap.size ≤ k_)) (.slice (some ⟨wg,0,none⟩) kf.length Oo) Dg from (by (with_reducible repeat (first|apply Kd.Dc|apply Kd.Ic|apply Kd.Zc));exact jg.out));obtain ⟨han,yR,J2,TK,pR⟩:=Kd.ah C5.out Fq (Ia:Int) (of_decide_eq_true (by first|(with_reducible assumption)|assumption)) (by have h_:(Ia:Int) < ((kf.length:Int):Int):=of_decide_eq_true (by first|(with_reducible assumption)|assumption);first|exact h_|(have e_:=(Kd.Cc jg.out).1;omega)|simpa using h_);obtain rfl:=Ug J2;have fV:=Kd.Pn C5.out (Ia:Int) (of_decide_eq_true (by first|(with_reducible assumption)|assumption)) (by have h_:(Ia:Int) < ((kf.length:Int):Int):=of_decide_eq_true (by first|(with_reducible assumption)|assumption);first|exact h_|(have e_:=(Kd.Cc jg.out).1;omega)|simpa using h_) (seg:=[.int .i64 (wrap64 ((wrap64 ((wrap64 (Md + 1)) + 1)) + 1))]) (j:=3) yR TK (show 4 ≤ 7 from by decide) (x':=(⟨(Ja Dg Ia).f0,(Ja Dg Ia).f1,(Ja Dg Ia).f2,wrap64 ((wrap64 ((wrap64 (Md + 1)) + 1)) + 1),(Ja Dg Ia).f4,(Ja Dg Ia).f5,(Ja Dg Ia).f6⟩:Bf)) (zm _ _ _ (⟨(Ja Dg Ia).f0,(Ja Dg Ia).f1,(Ja Dg Ia).f2,wrap64 ((wrap64 ((wrap64 (Md + 1)) + 1)) + 1),(Ja Dg Ia).f4,(Ja Dg Ia).f5,(Ja Dg Ia).f6⟩:Bf) ) (fun _ hk=>hk);have kT:=TK 3 _ rfl;(try simp only [show (Ij).sz=7 from rfl,Nat.mul_one,Nat.add_zero] at kT);have TT:=pR 3;(try simp only [show (Ij).sz=7 from rfl,Nat.mul_one,Nat.add_zero] at TT);clear yR TK pR J2)|((with_reducible refine qf (t:=3) (p:=37) rfl ?_);refine Xe (t:=3) (p:=37) (v:=?vo_w21) (w1:=(Uv.setCell ⟨wg,(Ia:Int).toNat * 7 + 3,none⟩ (.int .i64 (wrap64 ((wrap64 ((wrap64 (Md + 1)) + 1)) + 1))))) ?hg ?ho ?hn ?hr ?_;(case ho=>rfl);(case hg=>rfl);(case hn=>rfl);(case hr=>first|(go_simp;done)|(go_simp;rfl));intro qq hw;have hg:Uv.grownBy qq (some wg):=(by rw [hw];exact fV.2);have Gn:Kd.R Ij 70 qq w0.heap.size (fun k_=>(zn k_ ∨ w.heap.size ≤ k_)) (.slice (some ⟨wg,0,none⟩) kf.length Oo) lg:=(by rw [hw,zL.out];exact fV.1);clear fV;have Gb:=ja.mk (Gn);have Vb:=ja.mk ((by rw [hw];exact Aa (HB.out) NQ.out:Below w0.heap.size w0 qq));have Ac:=ja.mk (Kept.Fh (S:=(fun k_=>zn k_)) hg (by repeat (first|(with_reducible first|exact HK.out|apply Kept.alloc|apply Kept.drewN|apply Kept.drew)|exact HK.out)) (fun k_ e_=>(jg.out.1 k_ e_)));clear jg;clear HB;clear HK;have jg:=Gb;have HB:=Vb;have HK:=Ac;clear Gb Vb Ac;clear hg hw Gn;have p9:0 ≤ (Ia:Int):=of_decide_eq_true (by first|(with_reducible assumption)|assumption);have q9:(Ia:Int) < ((kf.length:Int):Int):=of_decide_eq_true (by first|(with_reducible assumption)|assumption);obtain ⟨ce9,kag,hM9,kC,cC⟩:=Kd.ah jg.out Fq (Ia:Int) p9 q9;obtain rfl:=Ug hM9;have oW:qq.cell? ⟨wg,(Ia:Int).toNat * 7,none⟩=some (.int .i64 ((Ja lg Ia).f0)):=kC 0 _ rfl;have Jah:qq.cell? ⟨wg,(Ia:Int).toNat * 7 + 1,none⟩=some (.int .i64 ((Ja lg Ia).f1)):=kC 1 _ rfl;have Iah:qq.cell? ⟨wg,(Ia:Int).toNat * 7 + 2,none⟩=some (.int .i64 ((Ja lg Ia).f2)):=kC 2 _ rfl;have Hah:qq.cell? ⟨wg,(Ia:Int).toNat * 7 + 3,none⟩=some (.int .i64 ((Ja lg Ia).f3)):=kC 3 _ rfl;have Gah:qq.cell? ⟨wg,(Ia:Int).toNat * 7 + 4,none⟩=some (.int .i64 ((Ja lg Ia).f4)):=kC 4 _ rfl;have Fah:qq.cell? ⟨wg,(Ia:Int).toNat * 7 + 5,none⟩=some (.int .i64 ((Ja lg Ia).f5)):=kC 5 _ rfl;have Eah:qq.cell? ⟨wg,(Ia:Int).toNat * 7 + 6,none⟩=some (.string ((Ja lg Ia).f6)):=kC 6 _ rfl;have SY:qq.frozen? ⟨wg,(Ia:Int).toNat * 7,none⟩=false:=cC 0;have Yaj:qq.frozen? ⟨wg,(Ia:Int).toNat * 7 + 1,none⟩=false:=cC 1;have Xaj:qq.frozen? ⟨wg,(Ia:Int).toNat * 7 + 2,none⟩=false:=cC 2;have Waj:qq.frozen? ⟨wg,(Ia:Int).toNat * 7 + 3,none⟩=false:=cC 3;have Vaj:qq.frozen? ⟨wg,(Ia:Int).toNat * 7 + 4,none⟩=false:=cC 4;have Uaj:qq.frozen? ⟨wg,(Ia:Int).toNat * 7 + 5,none⟩=false:=cC 5;have Taj:qq.frozen? ⟨wg,(Ia:Int).toNat * 7 + 6,none⟩=false:=cC 6;clear kag kC cC hM9;replace p9:=eq_true p9;replace q9:=eq_true q9;have B5:=ja.mk (show Kd.R Ij 70 qq w0.heap.size (fun k_=>(zn k_ ∨ w.heap.size ≤ k_)) (.slice (some ⟨wg,0,none⟩) kf.length Oo) lg from (by (with_reducible repeat (first|apply Kd.Dc|apply Kd.Ic|apply Kd.Zc));exact jg.out));obtain ⟨gan,xR,I2,SK,oR⟩:=Kd.ah B5.out Fq (Ia:Int) (of_decide_eq_true (by first|(with_reducible assumption)|assumption)) (by have h_:(Ia:Int) < ((kf.length:Int):Int):=of_decide_eq_true (by first|(with_reducible assumption)|assumption);first|exact h_|(have e_:=(Kd.Cc jg.out).1;omega)|simpa using h_);obtain rfl:=Ug I2;have eV:=Kd.Pn B5.out (Ia:Int) (of_decide_eq_true (by first|(with_reducible assumption)|assumption)) (by have h_:(Ia:Int) < ((kf.length:Int):Int):=of_decide_eq_true (by first|(with_reducible assumption)|assumption);first|exact h_|(have e_:=(Kd.Cc jg.out).1;omega)|simpa using h_) (seg:=[.int .i64 (wrap64 ((wrap64 ((wrap64 ((wrap64 (Md + 1)) + 1)) + 1)) + 1))]) (j:=4) xR SK (show 5 ≤ 7 from by decide) (x':=(⟨(Ja lg Ia).f0,(Ja lg Ia).f1,(Ja lg Ia).f2,(Ja lg Ia).f3,wrap64 ((wrap64 ((wrap64 ((wrap64 (Md + 1)) + 1)) + 1)) + 1),(Ja lg Ia).f5,(Ja lg Ia).f6⟩:Bf)) (zm _ _ _ (⟨(Ja lg Ia).f0,(Ja lg Ia).f1,(Ja lg Ia).f2,(Ja lg Ia).f3,wrap64 ((wrap64 ((wrap64 ((wrap64 (Md + 1)) + 1)) + 1)) + 1),(Ja lg Ia).f5,(Ja lg Ia).f6⟩:Bf) ) (fun _ hk=>hk);have jT:=SK 4 _ rfl;(try simp only [show (Ij).sz=7 from rfl,Nat.mul_one,Nat.add_zero] at jT);have RT:=oR 4;(try simp only [show (Ij).sz=7 from rfl,Nat.mul_one,Nat.add_zero] at RT);clear xR SK oR I2)|((with_reducible refine qf (t:=3) (p:=44) rfl ?_);refine Xe (t:=3) (p:=44) (v:=?vo_w23) (w1:=(qq.setCell ⟨wg,(Ia:Int).toNat * 7 + 4,none⟩ (.int .i64 (wrap64 ((wrap64 ((wrap64 ((wrap64 (Md + 1)) + 1)) + 1)) + 1))))) ?hg ?ho ?hn ?hr ?_;(case ho=>rfl);(case hg=>rfl);(case hn=>rfl);(case hr=>first|(go_simp;done)|(go_simp;rfl));intro Es hw;have hg:qq.grownBy Es (some wg):=(by rw [hw];exact eV.2);have Gn:Kd.R Ij 70 Es w0.heap.size (fun k_=>(zn k_ ∨ w.heap.size ≤ k_)) (.slice (some ⟨wg,0,none⟩) kf.length Oo) Ef:=(by rw [hw,OC.out];exact eV.1);clear eV;have Gb:=ja.mk (Gn);have Vb:=ja.mk ((by rw [hw];exact Aa (HB.out) NQ.out:Below w0.heap.size w0 Es));have Ac:=ja.mk (Kept.Fh (S:=(fun k_=>zn k_)) hg (by repeat (first|(with_reducible first|exact HK.out|apply Kept.alloc|apply Kept.drewN|apply Kept.drew)|exact HK.out)) (fun k_ e_=>(jg.out.1 k_ e_)));clear jg;clear HB;clear HK;have jg:=Gb;have HB:=Vb;have HK:=Ac;clear Gb Vb Ac;clear hg hw Gn;have rD:0 ≤ (Ia:Int):=of_decide_eq_true (by first|(with_reducible assumption)|assumption);have nD:(Ia:Int) < ((kf.length:Int):Int):=of_decide_eq_true (by first|(with_reducible assumption)|assumption);obtain ⟨I3,jC,qC,Cj,Bj⟩:=Kd.ah jg.out Fq (Ia:Int) rD nD;obtain rfl:=Ug qC;have OJ:Es.cell? ⟨wg,(Ia:Int).toNat * 7,none⟩=some (.int .i64 ((Ja Ef Ia).f0)):=Cj 0 _ rfl;have NJ:Es.cell? ⟨wg,(Ia:Int).toNat * 7 + 1,none⟩=some (.int .i64 ((Ja Ef Ia).f1)):=Cj 1 _ rfl;have MJ:Es.cell? ⟨wg,(Ia:Int).toNat * 7 + 2,none⟩=some (.int .i64 ((Ja Ef Ia).f2)):=Cj 2 _ rfl;have LJ:Es.cell? ⟨wg,(Ia:Int).toNat * 7 + 3,none⟩=some (.int .i64 ((Ja Ef Ia).f3)):=Cj 3 _ rfl;have KJ:Es.cell? ⟨wg,(Ia:Int).toNat * 7 + 4,none⟩=some (.int .i64 ((Ja Ef Ia).f4)):=Cj 4 _ rfl;have rT:Es.cell? ⟨wg,(Ia:Int).toNat * 7 + 5,none⟩=some (.int .i64 ((Ja Ef Ia).f5)):=Cj 5 _ rfl;have qT:Es.cell? ⟨wg,(Ia:Int).toNat * 7 + 6,none⟩=some (.string ((Ja Ef Ia).f6)):=Cj 6 _ rfl;have zK:Es.frozen? ⟨wg,(Ia:Int).toNat * 7,none⟩=false:=Bj 0;have yK:Es.frozen? ⟨wg,(Ia:Int).toNat * 7 + 1,none⟩=false:=Bj 1;have xK:Es.frozen? ⟨wg,(Ia:Int).toNat * 7 + 2,none⟩=false:=Bj 2;have wK:Es.frozen? ⟨wg,(Ia:Int).toNat * 7 + 3,none⟩=false:=Bj 3;have vK:Es.frozen? ⟨wg,(Ia:Int).toNat * 7 + 4,none⟩=false:=Bj 4;have aU:Es.frozen? ⟨wg,(Ia:Int).toNat * 7 + 5,none⟩=false:=Bj 5;have ZT:Es.frozen? ⟨wg,(Ia:Int).toNat * 7 + 6,none⟩=false:=Bj 6;clear jC Cj Bj qC;replace rD:=eq_true rD;replace nD:=eq_true nD;have m5:=ja.mk (show Kd.R Ij 70 Es w0.heap.size (fun k_=>(zn k_ ∨ w.heap.size ≤ k_)) (.slice (some ⟨wg,0,none⟩) kf.length Oo) Ef from (by (with_reducible repeat (first|apply Kd.Dc|apply Kd.Ic|apply Kd.Zc));exact jg.out));obtain ⟨fan,wR,G2,RK,nR⟩:=Kd.ah m5.out Fq (Ia:Int) (of_decide_eq_true (by first|(with_reducible assumption)|assumption)) (by have h_:(Ia:Int) < ((kf.length:Int):Int):=of_decide_eq_true (by first|(with_reducible assumption)|assumption);first|exact h_|(have e_:=(Kd.Cc jg.out).1;omega)|simpa using h_);obtain rfl:=Ug G2;have dV:=Kd.Pn m5.out (Ia:Int) (of_decide_eq_true (by first|(with_reducible assumption)|assumption)) (by have h_:(Ia:Int) < ((kf.length:Int):Int):=of_decide_eq_true (by first|(with_reducible assumption)|assumption);first|exact h_|(have e_:=(Kd.Cc jg.out).1;omega)|simpa using h_) (seg:=[.int .i64 (wrap64 ((wrap64 ((wrap64 ((wrap64 ((wrap64 (Md + 1)) + 1)) + 1)) + 1)) + 1))]) (j:=5) wR RK (show 6 ≤ 7 from by decide) (x':=(⟨(Ja Ef Ia).f0,(Ja Ef Ia).f1,(Ja Ef Ia).f2,(Ja Ef Ia).f3,(Ja Ef Ia).f4,wrap64 ((wrap64 ((wrap64 ((wrap64 ((wrap64 (Md + 1)) + 1)) + 1)) + 1)) + 1),(Ja Ef Ia).f6⟩:Bf)) (zm _ _ _ (⟨(Ja Ef Ia).f0,(Ja Ef Ia).f1,(Ja Ef Ia).f2,(Ja Ef Ia).f3,(Ja Ef Ia).f4,wrap64 ((wrap64 ((wrap64 ((wrap64 ((wrap64 (Md + 1)) + 1)) + 1)) + 1)) + 1),(Ja Ef Ia).f6⟩:Bf) ) (fun _ hk=>hk);have iT:=RK 5 _ rfl;(try simp only [show (Ij).sz=7 from rfl,Nat.mul_one,Nat.add_zero] at iT);have QT:=nR 5;(try simp only [show (Ij).sz=7 from rfl,Nat.mul_one,Nat.add_zero] at QT);clear wR RK nR G2)|((with_reducible refine qf (t:=3) (p:=51) rfl ?_);refine Xe (t:=3) (p:=51) (v:=?vo_w25) (w1:=(Es.setCell ⟨wg,(Ia:Int).toNat * 7 + 5,none⟩ (.int .i64 (wrap64 ((wrap64 ((wrap64 ((wrap64 ((wrap64 (Md + 1)) + 1)) + 1)) + 1)) + 1))))) ?hg ?ho ?hn ?hr ?_;(case ho=>rfl);(case hg=>rfl);(case hn=>rfl);(case hr=>first|(go_simp;done)|(go_simp;rfl));intro SV hw;have hg:Es.grownBy SV (some wg):=(by rw [hw];exact dV.2);have Gn:Kd.R Ij 70 SV w0.heap.size (fun k_=>(zn k_ ∨ w.heap.size ≤ k_)) (.slice (some ⟨wg,0,none⟩) kf.length Oo) uf:=(by rw [hw,S4.out];exact dV.1);clear dV;have Gb:=ja.mk (Gn);have Vb:=ja.mk ((by rw [hw];exact Aa (HB.out) NQ.out:Below w0.heap.size w0 SV));have Ac:=ja.mk (Kept.Fh (S:=(fun k_=>zn k_)) hg (by repeat (first|(with_reducible first|exact HK.out|apply Kept.alloc|apply Kept.drewN|apply Kept.drew)|exact HK.out)) (fun k_ e_=>(jg.out.1 k_ e_)));clear jg;clear HB;clear HK;have jg:=Gb;have HB:=Vb;have HK:=Ac;clear Gb Vb Ac;clear hg hw Gn)|((with_reducible refine mb (f:=121) rfl ?_);refine yd (some 57) rfl rfl Try.func121 (by kernel_rfl) rfl #[.int .i64 (wrap64 ((wrap64 ((wrap64 ((wrap64 ((wrap64 ((wrap64 (Md + 1)) + 1)) + 1)) + 1)) + 1)) + 1))] rfl (by (try simp only [List.map_toArray,List.map_cons,List.map_nil]);first|done|rfl|(simp only [List.length_drop,List.length_take];rfl)) ?_;(with_reducible refine (Pb.calls k1 (wrap64 ((wrap64 ((wrap64 ((wrap64 ((wrap64 ((wrap64 (Md + 1)) + 1)) + 1)) + 1)) + 1)) + 1)) t107 _ QL.out).mono ?_);rintro e Rn ⟨rfl,hb⟩;refine ⟨_,rfl,?_⟩;have Gb:=ja.mk (Kd.Ce (by (with_reducible repeat (first|apply Kd.Dc|apply Kd.Ic|apply Kd.Zc));exact jg.out) hb);have Vb:=ja.mk (Kept.below (S:=(fun k_=>zn k_)) (by repeat (first|(with_reducible first|exact HK.out|apply Kept.alloc|apply Kept.drewN|apply Kept.drew)|exact HK.out)) hb);have Ac:=ja.mk (Qa (by repeat (first|(with_reducible first|exact HB.out|apply qa|apply ia|apply ua)|exact HB.out)) hb);clear jg;clear HK;clear HB;have jg:=Gb;have HK:=Vb;have HB:=Ac;clear Gb Vb Ac;(try clear hb);(try clear hb2);(try clear hk);(try clear hi);have p12:0 ≤ (Ia:Int):=of_decide_eq_true (by first|(with_reducible assumption)|assumption);have q12:(Ia:Int) < ((kf.length:Int):Int):=of_decide_eq_true (by first|(with_reducible assumption)|assumption);obtain ⟨G3,Bz,oC,jj,Aj⟩:=Kd.ah jg.out Fq (Ia:Int) p12 q12;obtain rfl:=Ug oC;have fA:Rn.cell? ⟨wg,(Ia:Int).toNat * 7,none⟩=some (.int .i64 ((Ja uf Ia).f0)):=jj 0 _ rfl;have eA:Rn.cell? ⟨wg,(Ia:Int).toNat * 7 + 1,none⟩=some (.int .i64 ((Ja uf Ia).f1)):=jj 1 _ rfl;have dA:Rn.cell? ⟨wg,(Ia:Int).toNat * 7 + 2,none⟩=some (.int .i64 ((Ja uf Ia).f2)):=jj 2 _ rfl;have cA:Rn.cell? ⟨wg,(Ia:Int).toNat * 7 + 3,none⟩=some (.int .i64 ((Ja uf Ia).f3)):=jj 3 _ rfl;have aA:Rn.cell? ⟨wg,(Ia:Int).toNat * 7 + 4,none⟩=some (.int .i64 ((Ja uf Ia).f4)):=jj 4 _ rfl;have JJ:Rn.cell? ⟨wg,(Ia:Int).toNat * 7 + 5,none⟩=some (.int .i64 ((Ja uf Ia).f5)):=jj 5 _ rfl;have IJ:Rn.cell? ⟨wg,(Ia:Int).toNat * 7 + 6,none⟩=some (.string ((Ja uf Ia).f6)):=jj 6 _ rfl;have IA:Rn.frozen? ⟨wg,(Ia:Int).toNat * 7,none⟩=false:=Aj 0;have GA:Rn.frozen? ⟨wg,(Ia:Int).toNat * 7 + 1,none⟩=false:=Aj 1;have FA:Rn.frozen? ⟨wg,(Ia:Int).toNat * 7 + 2,none⟩=false:=Aj 2;have EA:Rn.frozen? ⟨wg,(Ia:Int).toNat * 7 + 3,none⟩=false:=Aj 3;have DA:Rn.frozen? ⟨wg,(Ia:Int).toNat * 7 + 4,none⟩=false:=Aj 4;have uK:Rn.frozen? ⟨wg,(Ia:Int).toNat * 7 + 5,none⟩=false:=Aj 5;have tK:Rn.frozen? ⟨wg,(Ia:Int).toNat * 7 + 6,none⟩=false:=Aj 6;clear Bz jj Aj oC;replace p12:=eq_true p12;replace q12:=eq_true q12;have j5:=ja.mk (show Kd.R Ij 70 Rn w0.heap.size (fun k_=>(zn k_ ∨ w.heap.size ≤ k_)) (.slice (some ⟨wg,0,none⟩) kf.length Oo) uf from (by (with_reducible repeat (first|apply Kd.Dc|apply Kd.Ic|apply Kd.Zc));exact jg.out));obtain ⟨dan,vR,E2,PK,mR⟩:=Kd.ah j5.out Fq (Ia:Int) (of_decide_eq_true (by first|(with_reducible assumption)|assumption)) (by have h_:(Ia:Int) < ((kf.length:Int):Int):=of_decide_eq_true (by first|(with_reducible assumption)|assumption);first|exact h_|(have e_:=(Kd.Cc jg.out).1;omega)|simpa using h_);obtain rfl:=Ug E2;have cV:=Kd.Pn j5.out (Ia:Int) (of_decide_eq_true (by first|(with_reducible assumption)|assumption)) (by have h_:(Ia:Int) < ((kf.length:Int):Int):=of_decide_eq_true (by first|(with_reducible assumption)|assumption);first|exact h_|(have e_:=(Kd.Cc jg.out).1;omega)|simpa using h_) (seg:=[.string t107]) (j:=6) vR PK (show 7 ≤ 7 from by decide) (x':=(⟨(Ja uf Ia).f0,(Ja uf Ia).f1,(Ja uf Ia).f2,(Ja uf Ia).f3,(Ja uf Ia).f4,(Ja uf Ia).f5,t107⟩:Bf)) (zm _ _ _ (⟨(Ja uf Ia).f0,(Ja uf Ia).f1,(Ja uf Ia).f2,(Ja uf Ia).f3,(Ja uf Ia).f4,(Ja uf Ia).f5,t107⟩:Bf) ) (fun _ hk=>hk);have gT:=PK 6 _ rfl;(try simp only [show (Ij).sz=7 from rfl,Nat.mul_one,Nat.add_zero] at gT);have PT:=mR 6;(try simp only [show (Ij).sz=7 from rfl,Nat.mul_one,Nat.add_zero] at PT);clear vR PK mR E2)|((with_reducible refine qf (t:=9) (p:=59) rfl ?_);refine Xe (t:=9) (p:=59) (v:=?vo_w28) (w1:=(Rn.setCell ⟨wg,(Ia:Int).toNat * 7 + 6,none⟩ (.string t107))) ?hg ?ho ?hn ?hr ?_;(case ho=>rfl);(case hg=>rfl);(case hn=>rfl);(case hr=>first|(go_simp;done)|(go_simp;rfl));intro bD hw;have hg:Rn.grownBy bD (some wg):=(by rw [hw];exact cV.2);have Gn:Kd.R Ij 70 bD w0.heap.size (fun k_=>(zn k_ ∨ w.heap.size ≤ k_)) (.slice (some ⟨wg,0,none⟩) kf.length Oo) y108:=(by rw [hw,VH.out];exact cV.1);clear cV;have Gb:=ja.mk (Gn);have Vb:=ja.mk ((by rw [hw];exact Aa (HB.out) NQ.out:Below w0.heap.size w0 bD));have Ac:=ja.mk (Kept.Fh (S:=(fun k_=>zn k_)) hg (by repeat (first|(with_reducible first|exact HK.out|apply Kept.alloc|apply Kept.drewN|apply Kept.drew)|exact HK.out)) (fun k_ e_=>(jg.out.1 k_ e_)));clear jg;clear HB;clear HK;have jg:=Gb;have HB:=Vb;have HK:=Ac;clear Gb Vb Ac;clear hg hw Gn))
     go_roundg k1
     case measure=>have:=Yg.out;omega
     case rel=>exact ⟨(y108),(wrap64 ((wrap64 ((wrap64 ((wrap64 ((wrap64 ((wrap64 ((wrap64 (Md + 1)) + 1)) + 1)) + 1)) + 1)) + 1)) + 1)),(wrap64 (Ia + 1)),(by first|rfl|(simp;done)|(simp [*];done)),(by first|rfl|(simp;done)|(simp [*];done)),H',⟨by have:=Yg.out;omega⟩,⟨by (with_reducible repeat (first|apply Kd.Dc|apply Kd.Ic|apply Kd.Zc));exact jg.out⟩,⟨by repeat (first|(with_reducible first|exact HK.out|apply Kept.alloc|apply Kept.drewN|apply Kept.drew)|exact HK.out)⟩,⟨by repeat (first|(with_reducible first|exact HB.out|apply qa|apply ia|apply ua)|exact HB.out)⟩⟩
    ·rw [if_neg c4] at H
     exact absurd H (by simp)
   ·rw [if_neg c3] at H
    have Zh:decide (Ia < (kf.length:Int))=false:=decide_eq_false c3
    clear c3
    simp only [Option.some.injEq,Prod.mk.injEq] at H
    obtain ⟨rfl,rfl⟩:=H
    obtain ⟨Xan,Nam,Lag⟩:=Kd.Hf jg.out
    subst Lag
    go_wp2
    go_ret
    exact ⟨by first|rfl|(simp [La,Ka] <;> rfl)|(simp [*,La,Ka] <;> rfl),by (with_reducible repeat (first|apply Kd.Dc|apply Kd.Ic|apply Kd.Zc));exact jg.out,by repeat (first|(with_reducible first|exact HB.out|apply qa|apply ia|apply ua)|exact HB.out),by repeat (first|(with_reducible first|exact HK.out|apply Kept.alloc|apply Kept.drewN|apply Kept.drew)|exact HK.out)⟩
def Qe.f (k:Nat):List gh→Int→Option (Int × List gh)
 | [],a=>some (a,[])
 | x :: l,a=>(Yb.f k x.f0 a).bind fun t=>(Qe.f k l (wrap64 (wrap64 (wrap64 (wrap64 (t.1 + 1) + 1) + 1) + 1))).bind fun u=>some (u.1,⟨t.2,t.1,wrap64 (t.1 + 1),wrap64 (wrap64 (t.1 + 1) + 1),wrap64 (wrap64 (wrap64 (t.1 + 1) + 1) + 1)⟩ :: u.2)
theorem Qe.mono:∀ a0 a1 k,Lb (Qe.f k a0 a1) (Qe.f (k + 1) a0 a1):=by
 intro a0
 induction a0 with
 | nil=>intro a1 k;exact Lb.refl _
 | cons x l ih =>
  intro a1 k
  unfold Qe.f
  exact Lb.bind (Yb.mono _ _ _) (fun _=>Lb.bind (ih _ _) (fun _=>Lb.refl _))
theorem lM {α:Type} {done l:List α} {j:Nat} (x y:α) (h:done.length=j):(done ++ x :: l).set j y=(done ++ [y]) ++ l:=by
 subst h
 rw [List.set_append_right _ _ (Nat.le_refl _),Nat.sub_self,List.set_cons_zero,List.append_assoc]
 rfl
set_option maxHeartbeats 2000000 in
set_option maxRecDepth 100000 in
theorem Qe.calls (k:Nat) (zn:Nat→Prop) (Cg:Value) (l0:List gh) (a1:Int) (r1:Int) (r2:List gh) (w0 w:World) (hB:Below w0.heap.size w0 w) (Zm:Kd.S Wo 68 w w0.heap.size zn Cg l0) (h:Qe.f k l0 a1=some (r1,r2)) :
  Calls Try.prog 62 #[Cg,.int .i64 a1] w fun e w'=>e = .returned (.int .i64 r1)∧Kd.S Wo 68 w' w0.heap.size (fun k_=>(zn k_ ∨ w.heap.size ≤ k_)) Cg r2∧Below w0.heap.size w0 w'∧Kept w w' (fun k_=>zn k_):=by
 obtain ⟨A,c,rfl,CH,hC⟩:=Kd.sQ Zm
 have hm:=hC.2.1
 have HS:=ja.mk (Kd.Ms Zm (ok':=fun k_=>zn k_ ∨ w.heap.size ≤ k_) (fun k_ hk=>.inl hk))
 have HB:=ja.mk hB
 have HK:=ja.mk (Kept.refl w (fun k_=>zn k_))
 have HH:=ja.mk h
 clear Zm hC hB h
 go_enter Try.func62,Try.ntmps62
 go_wp2
 go_loopg [1,5] l0.length (fun gg v1 v5 wr=>∃ (j:Nat) (a:Int) (done rest:List gh),j ≤ l0.length∧l0.length - j ≤ gg∧v1 = .int .i64 a∧v5 = .int .i64 j∧ja (done.length=j∧Qe.f k (l0.drop j) a=some (r1,rest)∧r2=done ++ rest)∧ja (Kd.S Wo 68 wr w0.heap.size (fun k_=>zn k_ ∨ w.heap.size ≤ k_) (.slice A l0.length c) (done ++ l0.drop j))∧ja (Below w0.heap.size w0 wr)∧ja (Kept w wr (fun k_=>zn k_)))
 case atStart=>exact ⟨0,a1,[],r2,Nat.zero_le _,by omega,rfl,rfl,⟨rfl,by simpa using HH.out,rfl⟩,⟨by simpa using HS.out⟩,HB,HK⟩
 case round =>
  clear HS HB HK HH
  (try clear HD)
  (try clear HS)
  (try clear HB)
  (try clear HK)
  obtain ⟨j,a,done,rest,hj,hg,rfl,rfl,HD,HS,HB,HK⟩:=hrel
  by_cases hlt:j < l0.length
  ·have BD:decide ((j:Int) < (l0.length:Int))=true:=decide_eq_true (by omega)
   obtain ⟨d1,d2,d3⟩:=HD.out
   have mG:l0.drop j=l0[j] :: l0.drop (j + 1):=List.drop_eq_getElem_cons hlt
   rw [mG] at d2
   unfold Qe.f at d2
   obtain ⟨⟨a2,BC⟩,t1,d2⟩:=Option.bind_eq_some_iff.mp d2
   obtain ⟨⟨r1',rest'⟩,u1,d2⟩:=Option.bind_eq_some_iff.mp d2
   obtain ⟨rfl,rfl⟩:r1' = r1∧(⟨BC,a2,wrap64 (a2 + 1),wrap64 (wrap64 (a2 + 1) + 1),wrap64 (wrap64 (wrap64 (a2 + 1) + 1) + 1)⟩:gh) :: rest' = rest:=by
    have:=Option.some.inj d2
    exact ⟨congrArg Prod.fst this,congrArg Prod.snd this⟩
   have hlen:(done ++ l0.drop j).length=l0.length:=by rw [List.length_append,List.length_drop,d1];omega
   obtain ⟨g,cap,e1,hbg,pX,cells,hcells⟩:=Kd.uL HS.out (by rw [hlen];omega)
   obtain rfl:A=some ⟨g,0,none⟩:=by injection e1
   clear e1
   have uW:=(Kd.UR HS.out).1 g rfl
   obtain ⟨xp,cs,hcs,hM,QD,hcf,EM,hH⟩:=Kd.pE HS.out CB (j:Int) (by omega) (by omega)
   have hx:(done ++ l0.drop j).getD (Int.toNat (j:Int)) CB=l0[j]:=by
    rw [mG,Int.toNat_natCast,List.getD_eq_getElem?_getD,List.getElem?_append_right (by omega),d1]
    simp [List.getElem?_eq_getElem hlt]
   rw [hx] at hM
   obtain ⟨v0,rfl,hR⟩:=Tu hM
   obtain ⟨A5,c5,rfl⟩:=Kd.Hf hR
   have y0:=QD 0 _ rfl
   have OV:=ja.mk (QD 1 _ rfl)
   have NV:=ja.mk (QD 2 _ rfl)
   have KQ:=ja.mk (QD 3 _ rfl)
   have WC:=ja.mk (QD 4 _ rfl)
   have HH:=ja.mk hH
   have HR:=ja.mk hR
   have HT:=ja.mk t1
   have HU:=ja.mk u1
   have HOK:=ja.mk EM
   have HG:=ja.mk uW
   have HX:=ja.mk hcells
   have HD:=ja.mk (And.intro d1 d3)
   have HDR:=ja.mk mG
   simp only [Int.toNat_natCast,show Wo.sz=5 from rfl,Nat.add_zero] at y0 OV NV KQ WC
   clear hH hR QD hcf hM hx EM uW hcells t1 u1 d1 d2 d3 mG hcs
   go_wp2_with (first|(go_at_call 94;(with_reducible refine (Yb.calls k xp _ l0[j].f0 a a2 BC w0 wr HB.out HR.out HT.out).mono ?_);rintro e w1 ⟨rfl,hr,hb,hk⟩;have bJ:=ja.mk hr;have Qy:=ja.mk hb;have Yg:=ja.mk hk;have ZQ:¬ xp g:=fun h=>(HOK.out g h).2 rfl;have WK:=bk HX.out hk ZQ;have z1:=Ir OV.out hk ZQ;have z2:=Ir NV.out hk ZQ;have z3:=Ir KQ.out hk ZQ;have z4:=Ir WC.out hk ZQ;have z5:=aa WK (j * 5 + 1);have z6:=aa WK (j * 5 + 2);have z7:=aa WK (j * 5 + 3);have z8:=aa WK (j * 5 + 4);clear hr hb hk ZQ WK))
   have HH1:=ja.mk (Kd.RU (Kd.zQ HH.out) Yg.out (fun k_ _ hn hs=>hn (.inl hs)))
   obtain ⟨HS1,hgr⟩:=Kd.VR HH1.out (by omega) (by omega) (seg:=[.int .i64 a2,.int .i64 (wrap64 (a2 + 1)),.int .i64 (wrap64 (wrap64 (a2 + 1) + 1)),.int .i64 (wrap64 (wrap64 (wrap64 (a2 + 1) + 1) + 1))]) (j:=1) (show 1 + 4 ≤ 5 from by decide) (by intro q hq;simp at hq;rcases hq with rfl|rfl|rfl|rfl <;> rfl)
   go_roundg (l0.length - (j + 1))
   case measure=>omega
   case rel =>
    have hle:w.heap.size ≤ wr.heap.size:=HK.out.1
    have ZQ:∀ k_,(xp k_ ∨ wr.heap.size ≤ k_)→k_ ≠ g:=fun k_ hk=>hk.elim (fun h=>(HOK.out k_ h).2) (fun h=>by omega)
    have hin:=Kd.uQ bJ.out hgr (fun k_ hk e=>ZQ k_ hk (by injection e))
    have hfin:=Kd.CL HS1 (x':=⟨BC,a2,wrap64 (a2 + 1),wrap64 (wrap64 (a2 + 1) + 1),wrap64 (wrap64 (wrap64 (a2 + 1) + 1) + 1)⟩) (Xz _ _ _ _ hin) (fun k_ hk=>hk.elim .inl (fun h=>.inr ⟨.inr (by omega),h⟩))
    have hset:(done ++ l0.drop j).set (Int.toNat (j:Int)) (⟨BC,a2,wrap64 (a2 + 1),wrap64 (wrap64 (a2 + 1) + 1),wrap64 (wrap64 (wrap64 (a2 + 1) + 1) + 1)⟩:gh)=(done ++ [⟨BC,a2,wrap64 (a2 + 1),wrap64 (wrap64 (a2 + 1) + 1),wrap64 (wrap64 (wrap64 (a2 + 1) + 1) + 1)⟩]) ++ l0.drop (j + 1):=by
     rw [HDR.out,Int.toNat_natCast]
     exact lM _ _ HD.out.1
    rw [hset] at hfin
    have BV:=Qy.out.grown hgr Qy.out.size (fun k_ e=>by injection e with e;omega)
    have hk4:=Kept.Fh hgr (HK.out.Ox Yg.out (fun k_ hk=>(HOK.out k_ hk).1)) (fun k_ e=>by injection e with e;subst e;exact HG.out)
    exact ⟨j + 1,_,_,rest',by omega,by omega,rfl,by go_num,⟨by simp [HD.out.1],HU.out,by rw [HD.out.2];simp⟩,⟨hfin⟩,⟨BV⟩,⟨hk4⟩⟩
  ·have BD:decide ((j:Int) < (l0.length:Int))=false:=decide_eq_false (by omega)
   obtain rfl:j=l0.length:=by omega
   obtain ⟨d1,d2,d3⟩:=HD.out
   rw [List.drop_length] at d2
   unfold Qe.f at d2
   obtain ⟨rfl,rfl⟩:a=r1∧[]=rest:=by
    have:=Option.some.inj d2
    exact ⟨congrArg Prod.fst this,congrArg Prod.snd this⟩
   have HD:=ja.mk d3
   clear d1 d2 d3
   go_wp2
   go_ret
   refine ⟨rfl,?_,HB.out,HK.out⟩
   have:=HS.out
   rw [List.drop_length] at this
   rw [HD.out]
   exact this
def Qf.f (k:Nat) (Ta:List Int) (Ma:Int) (Oa:Int) (Pa:Int) (Sa:List gh) (a1:Int):Option (Int × List Int × List gh):=(ld.f k Ta a1).bind fun t=>(Qe.f k Sa t.1).bind fun u=>some (u.1,t.2,u.2)
theorem Qf.mono:∀ a0 a1 a2 a3 a4 a5 k,Lb (Qf.f k a0 a1 a2 a3 a4 a5) (Qf.f (k + 1) a0 a1 a2 a3 a4 a5):=by
 intro a0 a1 a2 a3 a4 a5 k
 unfold Qf.f
 exact Lb.bind (ld.mono _ _ _) (fun _=>Lb.bind (Qe.mono _ _ _) (fun _=>Lb.refl _))
set_option maxHeartbeats 2000000 in
set_option maxRecDepth 100000 in
theorem Qf.calls (k:Nat) (NC:Nat→Prop) (Cg:Value) (Ta:List Int) (Ma:Int) (Oa:Int) (Pa:Int) (MC:Nat→Prop) (dD:Value) (Sa:List gh) (a1:Int) (r1:Int) (r2:List Int) (r3:List gh) (w0 w:World) (hB:Below w0.heap.size w0 w) (WJ:Kd.R (Kd.int .i64) 3 w w0.heap.size NC Cg Ta) (VJ:Kd.S Wo 68 w w0.heap.size MC dD Sa) (h:Qf.f k Ta Ma Oa Pa Sa a1=some (r1,r2,r3)) :
  Calls Try.prog 21 #[.agg #[Cg,.int .i64 Ma,.int .i64 Oa,.int .i64 Pa,dD],.int .i64 a1] w fun e w'=>e = .returned (.int .i64 r1)∧Kd.R (Kd.int .i64) 3 w' w0.heap.size (fun k_=>((NC k_ ∨ MC k_) ∨ w.heap.size ≤ k_)) Cg r2∧Kd.S Wo 68 w' w0.heap.size (fun k_=>((NC k_ ∨ MC k_) ∨ w.heap.size ≤ k_)) dD r3∧Below w0.heap.size w0 w'∧Kept w w' (fun k_=>NC k_ ∨ MC k_):=by
 obtain ⟨A0,c0,rfl⟩:=Kd.Hf WJ
 obtain ⟨A4,c4,rfl⟩:=Kd.Kr VJ
 unfold Qf.f at h
 obtain ⟨⟨b1,b2⟩,t1,h⟩:=Option.bind_eq_some_iff.mp h
 obtain ⟨⟨b3,b4⟩,t2,h⟩:=Option.bind_eq_some_iff.mp h
 obtain ⟨rfl,rfl,rfl⟩:b3=r1∧b2=r2∧b4=r3:=by
  have:=Option.some.inj h
  exact ⟨congrArg Prod.fst this,congrArg (fun x=>x.2.1) this,congrArg (fun x=>x.2.2) this⟩
 obtain ⟨W1,hW1⟩:∃ W1,W1=w.alloc (.cells #[.slice A0 Ta.length c0,.int .i64 Ma,.int .i64 Oa,.int .i64 Pa,.slice A4 Sa.length c4] 30 (0,0)):=⟨_,rfl⟩
 have HW:=ja.mk hW1
 have Hr:Below w.heap.size w W1:=by rw [hW1];exact qa (Below.refl _ _) _
 have Rj:W1.heap[w.heap.size]? = some (.cells #[.slice A0 Ta.length c0,.int .i64 Ma,.int .i64 Oa,.int .i64 Pa,.slice A4 Sa.length c4] 30 (0,0)):=by rw [hW1];exact wh _ _
 have H0:=ja.mk (Kd.Tj (Kd.Ce WJ Hr))
 have H4:=ja.mk (Kd.vB (Kd.vn VJ Hr))
 have HB:=ja.mk (hB.trans (Hr.mono hB.size))
 have HK:=ja.mk (Kept.Ji Hr (fun k_=>NC k_ ∨ MC k_))
 have HT1:=ja.mk t1
 have HT2:=ja.mk t2
 have HX:=ja.mk Rj
 have hx0:=(ga Rj 0).trans rfl
 clear hW1 Hr WJ VJ hB t1 t2 h Rj
 go_enter Try.func21,Try.ntmps21
 go_upto_region 1 with (fail)
 rw [← HW.out]
 clear HW
 go_wp2_with (first|(go_at_call 22;(with_reducible refine (ld.calls k _ _ Ta a1 b1 b2 w0 W1 HB.out H0.out HT1.out).mono ?_);rintro e w2 ⟨rfl,hr,hb,hk⟩;have HR2:=ja.mk hr;have Ro:=ja.mk hb;have VI:=ja.mk hk;have QC:=ja.mk (bk HX.out hk (by rintro ⟨_,_,_,q,hq,cells,hc⟩;rw [HX.out] at hc;injection hc with hc;injection hc with _ hc;rw [← hc] at hq;simp [Kd.int,Kd.scalar] at hq));have D7:=(ga QC.out 4).trans rfl;have HS2:=ja.mk (Kd.LU H4.out VI.out (by rintro k_ ⟨_,_,_,q,hq,cells,hc⟩ ⟨_,_,_,q2,UL,sU,MI⟩;rw [hc] at MI;injection MI with MI;injection MI with _ MI;rw [← MI] at UL;simp [Kd.int,Kd.scalar] at UL;rw [UL] at hq;revert hq;decide));clear hr hb hk)|(go_at_call 62;(with_reducible refine (Qe.calls k _ _ Sa b1 b3 b4 w0 w2 Ro.out HS2.out HT2.out).mono ?_);rintro e w3 ⟨rfl,hr,hb,hk⟩;have WL:=ja.mk hr;have vS:=ja.mk hb;have IV:=ja.mk hk;clear hr hb hk))
 go_ret
 refine ⟨rfl,?_,?_,vS.out,?_⟩
 ·refine Kd.Oe (Kd.Qs HR2.out IV.out ?_) (fun k_ hk=>hk.elim (fun h=>.inl (.inl h.1)) (fun h=>.inr (Nat.le_trans HK.out.1 h)))
  rintro k_ hk ⟨_,_,hlt,q2,UL,sU,MI⟩
  rcases hk with ⟨_,_,_,q,hq,cells,hc⟩|hk
  ·rw [hc] at MI
   injection MI with MI
   injection MI with _ MI
   rw [← MI] at UL
   simp [Kd.int,Kd.scalar] at hq
   rw [hq] at UL
   revert UL
   decide
  ·omega
 ·exact Kd.Ms WL.out (fun k_ hk=>hk.elim (fun h=>.inl (.inr h.1)) (fun h=>.inr (Nat.le_trans HK.out.1 (Nat.le_trans VI.out.1 h))))
 ·exact (HK.out.Ox VI.out (fun k_ hk=>.inl (.inl hk.1))).Ox IV.out (fun k_ hk=>.inl (.inr hk.1))
end Go.Proofs.Ytmifdccaajngcaa.P
end
