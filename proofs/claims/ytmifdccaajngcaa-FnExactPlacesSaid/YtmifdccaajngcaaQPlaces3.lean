import Derived.Test.YtmifdccaajngcaaQPlaces1
import Derived.Test.YtmifdccaajngcaaQPlaces2
import Derived.Shelf.Abstract
import Derived.Outline
set_option maxHeartbeats 8000000
set_option maxRecDepth 100000
section
namespace Go.Proofs.Ytmifdccaajngcaa.P
open Go.RowKit Go.Proofs.Sa.Ec Go.Proofs.Sa.Bf Go.Proofs.Sa.Yg
set_option linter.unusedVariables false
set_option linter.unusedSimpArgs false
attribute [local go_sem] Jk Gk ym xm Gj Fj Ik Fk
def fc.l0:Nat→List (Dh)→List (Dh)→Int→Option (Bool)
 | 0,_,_,_=>none
 | k + 1,x0,x1,x5=>if x5 < (x0.length:Int) then (if 0 ≤ x5 then (if x5 < (x1.length:Int) then ((pg.f k ((Ua x0 x5).f0) ((Ua x0 x5).f1) ((Ua x0 x5).f2) ((Ua x0 x5).f3) ((Ua x0 x5).f4) ((Ua x1 x5).f0) ((Ua x1 x5).f1) ((Ua x1 x5).f2) ((Ua x1 x5).f3) ((Ua x1 x5).f4)).bind fun t103=>(if t103=true then (fc.l0 k x0 x1 (wrap64 (x5 + 1))) else (some false))) else (none)) else (none)) else (some true)
def fc.f (k:Nat) (l0:List (Dh)) (l1:List (Dh)):Option (Bool):=if (l0.length:Int)=(l1.length:Int) then (fc.l0 k l0 l1 0) else (some false)
theorem fc.Qd:∀ k,(∀ y0 y1 y2,Nb (fc.l0 k y0 y1 y2) (fc.l0 (k + 1) y0 y1 y2))
 | 0=>fun _ _ _ r h=>by simp [fc.l0] at h
 | k + 1=>by
  have Ff:=fc.Qd k
  ·intro y0 y1 y2
   unfold fc.l0
   repeat' first
   | (with_reducible exact Ff _ _ _)
   | (with_reducible exact pg.mono _ _ _ _ _ _ _ _ _ _ _)
   | (with_reducible exact Nb.refl _)
   | (with_reducible exact Nb.none _)
   | (with_reducible refine Nb.ite ?_ ?_)
   | (with_reducible refine Nb.bind ?_ (fun _=>?_))
   | exact Ff _ _ _
   | exact pg.mono _ _ _ _ _ _ _ _ _ _ _
   | exact Nb.none _
   | refine Nb.ite ?_ ?_
   | refine Nb.bind ?_ (fun _=>?_)
theorem fc.mono:∀ a0 a1 k,Nb (fc.f k a0 a1) (fc.f (k + 1) a0 a1):=by
 intro a0 a1 k
 have Ff:=fc.Qd k
 unfold fc.f
 repeat' first
   | (with_reducible exact Ff _ _ _)
   | (with_reducible exact pg.mono _ _ _ _ _ _ _ _ _ _ _)
   | (with_reducible exact Nb.refl _)
   | (with_reducible exact Nb.none _)
   | (with_reducible refine Nb.ite ?_ ?_)
   | (with_reducible refine Nb.bind ?_ (fun _=>?_))
   | exact Ff _ _ _
   | exact pg.mono _ _ _ _ _ _ _ _ _ _ _
   | exact Nb.none _
   | refine Nb.ite ?_ ?_
   | refine Nb.bind ?_ (fun _=>?_)
def fc.T6:Bool × List (List Nat × List Nat):=(true,[([],[]),([],[]),([0,1],[0,1]),([2],[2]),([],[]),([],[]),([4,5],[4,5]),([6],[6]),([3,7],[3,7]),([8],[8])])
def fc.B6:List Nat:=[0,0,3,7,0,0,48,112,255,511]
theorem fc.xD:Gm .any (opsOf Try.f61 6)=fc.T6:=by kernel_rfl
theorem fc.gx:um fc.T6.2 fc.B6=true:=by kernel_rfl
theorem fc.calls (k:Nat) (A0:Option Addr) (c0:Nat) (l0:List (Dh)) (A1:Option Addr) (c1:Nat) (l1:List (Dh)) (r:Bool) (w:World) (hr0:Kd.C Tp w A0 l0.length l0) (hc0:l0.length ≤ c0) (Mn:Kd.C Tp w A1 l1.length l1) (XI:l1.length ≤ c1) (h:fc.f k l0 l1=some r) :
  Calls Try.prog 61 #[.slice A0 l0.length c0,.slice A1 l1.length c1] w fun e w'=>e = .returned (.bool r)∧Below w.heap.size w w':=by
 have XJ:=Try.underlying68
 have Bh:=ja.mk hr0
 have Rw:=ja.mk hc0
 clear hr0 hc0
 have lG:=ja.mk Mn
 have WU:=ja.mk XI
 clear Mn XI
 have HB:=ja.mk (Below.refl w.heap.size w)
 have H:(if (l0.length:Int)=(l1.length:Int) then (fc.l0 k l0 l1 0) else (some false))=some r:=h
 clear h
 by_cases c3:(l0.length:Int)=(l1.length:Int)
 ·rw [if_pos c3] at H
  have Jh:((l0.length:Int) == (l1.length:Int))=true:=beq_iff_eq.mpr c3
  have Zp:((l0.length:Int) != (l1.length:Int))=false:=bne_eq_false_iff_eq.mpr c3
  have Bz:(l0.length == l1.length)=true:=by first|simpa using c3|(simp at c3 ⊢;omega)
  clear c3
  have H':=ja.mk H
  clear H
  go_enter Try.func61,Try.ntmps61
  go_wp2
  go_loopg [5] k (fun kq v5 w'=>∃ (Ca:Int),v5 = .int .i64 Ca∧ja (fc.l0 kq l0 l1 Ca=some r)∧ja (kq ≤ k)∧ja (Below w.heap.size w w'))
  case atStart=>exact ⟨(0),(by first|rfl|(simp;done)|(simp [*];done)),H',⟨Nat.le_refl _⟩,⟨by repeat (first|(with_reducible first|exact HB.out|apply qa|apply ia|apply ua)|exact HB.out)⟩⟩
  case round =>
   clear H'
   try clear c1
   try clear p2
   try clear c3
   try clear Jh
   try clear Zp
   try clear Bz
   (try clear HA)
   (try clear Ig)
   (try clear HB)
   obtain ⟨Ca,rfl,HA,Ig,HB⟩:=hrel
   cases gk with
   | zero=>exact absurd HA.out (by simp [fc.l0])
   | succ k1 =>
    have H:=HA.out
    clear HA
    simp only [fc.l0] at H
    by_cases c4:Ca < (l0.length:Int)
    ·rw [if_pos c4] at H
     have si:decide (Ca < (l0.length:Int))=true:=decide_eq_true c4
     clear c4
     by_cases c5:0 ≤ Ca
     ·rw [if_pos c5] at H
      have Ok:decide (0 ≤ Ca)=true:=decide_eq_true c5
      clear c5
      by_cases c6:Ca < (l1.length:Int)
      ·rw [if_pos c6] at H
       have El:decide (Ca < (l1.length:Int))=true:=decide_eq_true c6
       clear c6
       replace H:=Option.bind_eq_some_iff.mp H
       obtain ⟨t103,Gx,H⟩:=H
       replace H:(if t103=true then (fc.l0 k1 l0 l1 (wrap64 (Ca + 1))) else (some false))=some r:=H
       have A7:=ja.mk Gx
       clear Gx
       by_cases c8:t103=true
       ·subst c8
        have H1:(fc.l0 k1 l0 l1 (wrap64 (Ca + 1)))=some r:=by rw [if_pos rfl] at H;exact H
        clear H
        have H:=H1
        clear H1
        have H':=ja.mk H
        clear H
        try go_wp2
        have Qb:=ja.mk (ua HB.out)
        clear HB
        have HB:=Qb
        clear Qb
        have Vd:0 ≤ (Ca:Int):=of_decide_eq_true (by first|(with_reducible assumption)|assumption)
        have Ud:Ca < (l0.length:Int):=of_decide_eq_true (by first|(with_reducible assumption)|assumption)
        obtain ⟨ic,Ri,Qi,Eg,Ob,Vb,Ub,Tb,Cc,Cg,Dg⟩:=Zf Bh.out Ca Vd Ud
        have Th:=Cc
        have xg:=Tb
        have yg:=Ub
        have zg:=Vb
        have Ag:=Ob
        cases Eg
        replace Ob:=(HB.out.cell (World.block_lt_of_cell? w _ Ob)).trans Ob
        replace Vb:=(HB.out.cell (World.block_lt_of_cell? w _ Vb)).trans Vb
        replace Ub:=(HB.out.cell (World.block_lt_of_cell? w _ Ub)).trans Ub
        replace Tb:=(HB.out.cell (World.block_lt_of_cell? w _ Tb)).trans Tb
        replace Cc:=(HB.out.cell (World.block_lt_of_cell? w _ Cc)).trans Cc
        have Mh:=ja.mk Dg
        have Uh:=ja.mk Cg
        clear Dg Cg
        replace Vd:=eq_true Vd
        replace Ud:=eq_true Ud
        have Jf:0 ≤ (Ca:Int):=of_decide_eq_true (by first|(with_reducible assumption)|assumption)
        have Hf:Ca < (l1.length:Int):=of_decide_eq_true (by first|(with_reducible assumption)|assumption)
        obtain ⟨xe,Qz,Gz,gj,Rc,Dd,Cd,Bd,Ae,Iu,Ku⟩:=Zf lG.out Ca Jf Hf
        have Sh:=Ae
        have qg:=Bd
        have sg:=Cd
        have ug:=Dd
        have wg:=Rc
        cases gj
        replace Rc:=(HB.out.cell (World.block_lt_of_cell? w _ Rc)).trans Rc
        replace Dd:=(HB.out.cell (World.block_lt_of_cell? w _ Dd)).trans Dd
        replace Cd:=(HB.out.cell (World.block_lt_of_cell? w _ Cd)).trans Cd
        replace Bd:=(HB.out.cell (World.block_lt_of_cell? w _ Bd)).trans Bd
        replace Ae:=(HB.out.cell (World.block_lt_of_cell? w _ Ae)).trans Ae
        have qw:=ja.mk Ku
        have iD:=ja.mk Iu
        clear Ku Iu
        replace Jf:=eq_true Jf
        replace Hf:=eq_true Hf
        refine Oi (n:=10) (S:=fun w'=>w'.cell? (ic.add ((Ca).toNat * 5))=some (.slice Ri ((Ua l0 Ca).f0).length Qi)∧w'.cell? ⟨(ic.add ((Ca).toNat * 5)).block,(ic.add ((Ca).toNat * 5)).off + 1,none⟩=some (.int .i64 ((Ua l0 Ca).f1))∧w'.cell? ⟨(ic.add ((Ca).toNat * 5)).block,(ic.add ((Ca).toNat * 5)).off + 2,none⟩=some (.int .i64 ((Ua l0 Ca).f2))∧w'.cell? ⟨(ic.add ((Ca).toNat * 5)).block,(ic.add ((Ca).toNat * 5)).off + 3,none⟩=some (.int .i64 ((Ua l0 Ca).f3))∧w'.cell? ⟨(ic.add ((Ca).toNat * 5)).block,(ic.add ((Ca).toNat * 5)).off + 4,none⟩=some (.int .i64 ((Ua l0 Ca).f4))∧w'.cell? (xe.add ((Ca).toNat * 5))=some (.slice Qz ((Ua l1 Ca).f0).length Gz)∧w'.cell? ⟨(xe.add ((Ca).toNat * 5)).block,(xe.add ((Ca).toNat * 5)).off + 1,none⟩=some (.int .i64 ((Ua l1 Ca).f1))∧w'.cell? ⟨(xe.add ((Ca).toNat * 5)).block,(xe.add ((Ca).toNat * 5)).off + 2,none⟩=some (.int .i64 ((Ua l1 Ca).f2))∧w'.cell? ⟨(xe.add ((Ca).toNat * 5)).block,(xe.add ((Ca).toNat * 5)).off + 3,none⟩=some (.int .i64 ((Ua l1 Ca).f3))∧w'.cell? ⟨(xe.add ((Ca).toNat * 5)).block,(xe.add ((Ca).toNat * 5)).off + 4,none⟩=some (.int .i64 ((Ua l1 Ca).f4))) (ds:=[]) #[false,false,false,false,false,false,false,false,false,false] (by kernel_rfl) rfl rfl ⟨((HB.out.cell (World.block_lt_of_cell? w _ Ag)).trans Ag),((HB.out.cell (World.block_lt_of_cell? w _ zg)).trans zg),((HB.out.cell (World.block_lt_of_cell? w _ yg)).trans yg),((HB.out.cell (World.block_lt_of_cell? w _ xg)).trans xg),((HB.out.cell (World.block_lt_of_cell? w _ Th)).trans Th),((HB.out.cell (World.block_lt_of_cell? w _ wg)).trans wg),((HB.out.cell (World.block_lt_of_cell? w _ ug)).trans ug),((HB.out.cell (World.block_lt_of_cell? w _ sg)).trans sg),((HB.out.cell (World.block_lt_of_cell? w _ qg)).trans qg),((HB.out.cell (World.block_lt_of_cell? w _ Sh)).trans Sh)⟩ (fun hHeld=>?_);refine Xh fc.xD fc.gx (fun cg Vr=>?_)
        generalize wr.drew=w9 at HB Mh qw Ob Vb Ub Tb Cc Rc Dd Cd Bd Ae hHeld ⊢
        refine Nc (i:=0) (N:=some 17) (v:=?_) (a':=?_) #[true,false,false,false,false,false,false,false,false,false] rfl rfl (ud cg.out (by kernel_rfl)) (fun _ _ _ h=>h) (Or.inl ⟨by rfl,?_⟩) ?_ ?_
        rotate_left
        ·intro w'
         go_simp
         with_reducible rfl
        rotate_left
        ·simp only [Act.put,List.setIfInBounds_toArray,List.set_cons_zero,List.set_cons_succ,Bb,Cb]
         rfl
        refine Nc (i:=1) (N:=some 18) (v:=?_) (a':=?_) #[true,true,false,false,false,false,false,false,false,false] rfl rfl (ud cg.out (by kernel_rfl)) (fun _ _ _ h=>h) (Or.inl ⟨by rfl,?_⟩) ?_ ?_
        rotate_left
        ·intro w'
         go_simp
         with_reducible rfl
        rotate_left
        ·simp only [Act.put,List.setIfInBounds_toArray,List.set_cons_zero,List.set_cons_succ,Bb,Cb]
         rfl
        refine Nc (i:=2) (N:=some 19) (v:=?_) (a':=?_) #[true,true,true,false,false,false,false,false,false,false] rfl rfl (ud cg.out (by kernel_rfl)) (fun _ _ _ h=>h) (Or.inl ⟨by rfl,?_⟩) ?_ ?_
        rotate_left
        ·intro w'
         go_simp
         with_reducible rfl
        rotate_left
        ·simp only [Act.put,List.setIfInBounds_toArray,List.set_cons_zero,List.set_cons_succ,Bb,Cb]
         rfl
        refine Nc (i:=4) (N:=some 21) (v:=?_) (a':=?_) #[true,true,true,false,true,false,false,false,false,false] rfl rfl (ud cg.out (by kernel_rfl)) (fun _ _ _ h=>h) (Or.inl ⟨by rfl,?_⟩) ?_ ?_
        rotate_left
        ·intro w'
         go_simp
         with_reducible rfl
        rotate_left
        ·simp only [Act.put,List.setIfInBounds_toArray,List.set_cons_zero,List.set_cons_succ,Bb,Cb]
         rfl
        refine Nc (i:=5) (N:=some 22) (v:=?_) (a':=?_) #[true,true,true,false,true,true,false,false,false,false] rfl rfl (ud cg.out (by kernel_rfl)) (fun _ _ _ h=>h) (Or.inl ⟨by rfl,?_⟩) ?_ ?_
        rotate_left
        ·intro w'
         go_simp
         with_reducible rfl
        rotate_left
        ·simp only [Act.put,List.setIfInBounds_toArray,List.set_cons_zero,List.set_cons_succ,Bb,Cb]
         rfl
        refine Nc (i:=6) (N:=some 23) (v:=?_) (a':=?_) #[true,true,true,false,true,true,true,false,false,false] rfl rfl (ud cg.out (by kernel_rfl)) (fun _ _ _ h=>h) (Or.inl ⟨by rfl,?_⟩) ?_ ?_
        rotate_left
        ·intro w'
         go_simp
         with_reducible rfl
        rotate_left
        ·simp only [Act.put,List.setIfInBounds_toArray,List.set_cons_zero,List.set_cons_succ,Bb,Cb]
         rfl
        refine Lf (i:=3) (N:=some 20) (v:=?_) (a':=?_) #[true,true,true,true,true,true,true,false,false,false] rfl rfl (Pf cg.out Vr.out (by kernel_rfl)) (fun _ _ _ h=>h) (Or.inl ⟨by rfl,?_⟩) hHeld ?_ ?_
        rotate_left
        ·rintro w' ⟨s0,s1,s2,s3,s4,s5,s6,s7,s8,s9⟩
         go_simp
         with_reducible rfl
        rotate_left
        ·simp only [Act.put,List.setIfInBounds_toArray,List.set_cons_zero,List.set_cons_succ,Bb,Cb]
         rfl
        refine Lf (i:=7) (N:=some 24) (v:=?_) (a':=?_) #[true,true,true,true,true,true,true,true,false,false] rfl rfl (Pf cg.out Vr.out (by kernel_rfl)) (fun _ _ _ h=>h) (Or.inl ⟨by rfl,?_⟩) hHeld ?_ ?_
        rotate_left
        ·rintro w' ⟨s0,s1,s2,s3,s4,s5,s6,s7,s8,s9⟩
         go_simp
         with_reducible rfl
        rotate_left
        ·simp only [Act.put,List.setIfInBounds_toArray,List.set_cons_zero,List.set_cons_succ,Bb,Cb]
         rfl
        refine gm (i:=8) (N:=some 25) #[true,true,true,true,true,true,true,true,true,false] rfl rfl (Pm cg.out (by kernel_rfl)) (by decide) (fun K hK=>?_)
        refine Qm Try.func93 (by kernel_rfl) rfl #[.agg #[.slice Ri ((Ua l0 Ca).f0).length Qi,.int .i64 ((Ua l0 Ca).f1),.int .i64 ((Ua l0 Ca).f2),.int .i64 ((Ua l0 Ca).f3),.int .i64 ((Ua l0 Ca).f4)],.agg #[.slice Qz ((Ua l1 Ca).f0).length Gz,.int .i64 ((Ua l1 Ca).f1),.int .i64 ((Ua l1 Ca).f2),.int .i64 ((Ua l1 Ca).f3),.int .i64 ((Ua l1 Ca).f4)]] (by rfl) rfl rfl (by (try simp only [List.map_toArray,List.map_cons,List.map_nil]);first|done|rfl|(simp only [List.length_drop,List.length_take];rfl)) ?_
        with_reducible refine (pg.calls k1 _ _ ((Ua l0 Ca).f0) ((Ua l0 Ca).f1) ((Ua l0 Ca).f2) ((Ua l0 Ca).f3) ((Ua l0 Ca).f4) _ _ ((Ua l1 Ca).f0) ((Ua l1 Ca).f1) ((Ua l1 Ca).f2) ((Ua l1 Ca).f3) ((Ua l1 Ca).f4) true _ ?side1 ?side2 ?side3 ?side4 A7.out).mono ?_
        (case side1=>repeat (first|exact (Kd.Mb Mh.out HB.out)|(with_reducible refine Kd.Lc ?_ _)|(with_reducible refine Kd.Jc ?_ _)|(with_reducible refine Kd.Ed ?_)))
        (case side2=>exact Uh.out)
        (case side3=>repeat (first|exact (Kd.Mb qw.out HB.out)|(with_reducible refine Kd.Lc ?_ _)|(with_reducible refine Kd.Jc ?_ _)|(with_reducible refine Kd.Ed ?_)))
        (case side4=>exact iD.out)
        rintro e jq ⟨rfl,hb⟩
        refine ⟨_,rfl,?_⟩
        have Qb:=ja.mk (Na (by repeat (first|(with_reducible first|exact HB.out|apply qa|apply ia|apply ua)|exact HB.out)) hb)
        clear HB
        have HB:=Qb
        clear Qb
        (try clear hb)
        (try clear hb2)
        (try clear hk)
        (try clear hi)
        refine hK.out _ _ ⟨((HB.out.cell (World.block_lt_of_cell? w _ Ag)).trans Ag),((HB.out.cell (World.block_lt_of_cell? w _ zg)).trans zg),((HB.out.cell (World.block_lt_of_cell? w _ yg)).trans yg),((HB.out.cell (World.block_lt_of_cell? w _ xg)).trans xg),((HB.out.cell (World.block_lt_of_cell? w _ Th)).trans Th),((HB.out.cell (World.block_lt_of_cell? w _ wg)).trans wg),((HB.out.cell (World.block_lt_of_cell? w _ ug)).trans ug),((HB.out.cell (World.block_lt_of_cell? w _ sg)).trans sg),((HB.out.cell (World.block_lt_of_cell? w _ qg)).trans qg),((HB.out.cell (World.block_lt_of_cell? w _ Sh)).trans Sh)⟩ (fun hHeld=>?_)
        clear hK K
        refine Mg (a':=?_) ?_ ?_
        rotate_left
        ·show Act.put _ (some 25) _=_
         simp only [Act.put,List.setIfInBounds_toArray,List.set_cons_zero,List.set_cons_succ,Bb,Cb]
         rfl
        refine Nc (i:=9) (N:=some 26) (v:=?_) (a':=?_) #[true,true,true,true,true,true,true,true,true,true] rfl rfl (ud cg.out (by kernel_rfl)) (fun _ _ _ h=>h) (Or.inl ⟨by rfl,?_⟩) ?_ ?_
        rotate_left
        ·intro w'
         go_simp
         with_reducible rfl
        rotate_left
        ·simp only [Act.put,List.setIfInBounds_toArray,List.set_cons_zero,List.set_cons_succ,Bb,Cb]
         rfl
        refine Mk (Bk cg.out (by kernel_rfl)) ?_
        try go_wp2
        go_roundg k1
        case measure=>have:=Ig.out;omega
        case rel=>exact ⟨(wrap64 (Ca + 1)),(by first|rfl|(simp;done)|(simp [*];done)),H',⟨by have:=Ig.out;omega⟩,⟨by repeat (first|(with_reducible first|exact HB.out|apply qa|apply ia|apply ua)|exact HB.out)⟩⟩
       ·replace c8:=Bool.eq_false_iff.mpr c8
        subst c8
        have H1:(some false)=some r:=by rw [if_neg (show ¬ (false=true) by decide)] at H;exact H
        clear H
        have H:=H1
        clear H1
        obtain rfl:=Option.some.inj H
        try go_wp2
        have Qb:=ja.mk (ua HB.out)
        clear HB
        have HB:=Qb
        clear Qb
        have Vd:0 ≤ (Ca:Int):=of_decide_eq_true (by first|(with_reducible assumption)|assumption)
        have Ud:Ca < (l0.length:Int):=of_decide_eq_true (by first|(with_reducible assumption)|assumption)
        obtain ⟨ic,Ri,Qi,Eg,Ob,Vb,Ub,Tb,Cc,Cg,Dg⟩:=Zf Bh.out Ca Vd Ud
        have Th:=Cc
        have xg:=Tb
        have yg:=Ub
        have zg:=Vb
        have Ag:=Ob
        cases Eg
        replace Ob:=(HB.out.cell (World.block_lt_of_cell? w _ Ob)).trans Ob
        replace Vb:=(HB.out.cell (World.block_lt_of_cell? w _ Vb)).trans Vb
        replace Ub:=(HB.out.cell (World.block_lt_of_cell? w _ Ub)).trans Ub
        replace Tb:=(HB.out.cell (World.block_lt_of_cell? w _ Tb)).trans Tb
        replace Cc:=(HB.out.cell (World.block_lt_of_cell? w _ Cc)).trans Cc
        have Mh:=ja.mk Dg
        have Uh:=ja.mk Cg
        clear Dg Cg
        replace Vd:=eq_true Vd
        replace Ud:=eq_true Ud
        have Jf:0 ≤ (Ca:Int):=of_decide_eq_true (by first|(with_reducible assumption)|assumption)
        have Hf:Ca < (l1.length:Int):=of_decide_eq_true (by first|(with_reducible assumption)|assumption)
        obtain ⟨xe,Qz,Gz,gj,Rc,Dd,Cd,Bd,Ae,Iu,Ku⟩:=Zf lG.out Ca Jf Hf
        have Sh:=Ae
        have qg:=Bd
        have sg:=Cd
        have ug:=Dd
        have wg:=Rc
        cases gj
        replace Rc:=(HB.out.cell (World.block_lt_of_cell? w _ Rc)).trans Rc
        replace Dd:=(HB.out.cell (World.block_lt_of_cell? w _ Dd)).trans Dd
        replace Cd:=(HB.out.cell (World.block_lt_of_cell? w _ Cd)).trans Cd
        replace Bd:=(HB.out.cell (World.block_lt_of_cell? w _ Bd)).trans Bd
        replace Ae:=(HB.out.cell (World.block_lt_of_cell? w _ Ae)).trans Ae
        have qw:=ja.mk Ku
        have iD:=ja.mk Iu
        clear Ku Iu
        replace Jf:=eq_true Jf
        replace Hf:=eq_true Hf
        refine Oi (n:=10) (S:=fun w'=>w'.cell? (ic.add ((Ca).toNat * 5))=some (.slice Ri ((Ua l0 Ca).f0).length Qi)∧w'.cell? ⟨(ic.add ((Ca).toNat * 5)).block,(ic.add ((Ca).toNat * 5)).off + 1,none⟩=some (.int .i64 ((Ua l0 Ca).f1))∧w'.cell? ⟨(ic.add ((Ca).toNat * 5)).block,(ic.add ((Ca).toNat * 5)).off + 2,none⟩=some (.int .i64 ((Ua l0 Ca).f2))∧w'.cell? ⟨(ic.add ((Ca).toNat * 5)).block,(ic.add ((Ca).toNat * 5)).off + 3,none⟩=some (.int .i64 ((Ua l0 Ca).f3))∧w'.cell? ⟨(ic.add ((Ca).toNat * 5)).block,(ic.add ((Ca).toNat * 5)).off + 4,none⟩=some (.int .i64 ((Ua l0 Ca).f4))∧w'.cell? (xe.add ((Ca).toNat * 5))=some (.slice Qz ((Ua l1 Ca).f0).length Gz)∧w'.cell? ⟨(xe.add ((Ca).toNat * 5)).block,(xe.add ((Ca).toNat * 5)).off + 1,none⟩=some (.int .i64 ((Ua l1 Ca).f1))∧w'.cell? ⟨(xe.add ((Ca).toNat * 5)).block,(xe.add ((Ca).toNat * 5)).off + 2,none⟩=some (.int .i64 ((Ua l1 Ca).f2))∧w'.cell? ⟨(xe.add ((Ca).toNat * 5)).block,(xe.add ((Ca).toNat * 5)).off + 3,none⟩=some (.int .i64 ((Ua l1 Ca).f3))∧w'.cell? ⟨(xe.add ((Ca).toNat * 5)).block,(xe.add ((Ca).toNat * 5)).off + 4,none⟩=some (.int .i64 ((Ua l1 Ca).f4))) (ds:=[]) #[false,false,false,false,false,false,false,false,false,false] (by kernel_rfl) rfl rfl ⟨((HB.out.cell (World.block_lt_of_cell? w _ Ag)).trans Ag),((HB.out.cell (World.block_lt_of_cell? w _ zg)).trans zg),((HB.out.cell (World.block_lt_of_cell? w _ yg)).trans yg),((HB.out.cell (World.block_lt_of_cell? w _ xg)).trans xg),((HB.out.cell (World.block_lt_of_cell? w _ Th)).trans Th),((HB.out.cell (World.block_lt_of_cell? w _ wg)).trans wg),((HB.out.cell (World.block_lt_of_cell? w _ ug)).trans ug),((HB.out.cell (World.block_lt_of_cell? w _ sg)).trans sg),((HB.out.cell (World.block_lt_of_cell? w _ qg)).trans qg),((HB.out.cell (World.block_lt_of_cell? w _ Sh)).trans Sh)⟩ (fun hHeld=>?_);refine Xh fc.xD fc.gx (fun cg Vr=>?_)
        generalize wr.drew=Ei at HB Mh qw Ob Vb Ub Tb Cc Rc Dd Cd Bd Ae hHeld ⊢
        refine Nc (i:=0) (N:=some 17) (v:=?_) (a':=?_) #[true,false,false,false,false,false,false,false,false,false] rfl rfl (ud cg.out (by kernel_rfl)) (fun _ _ _ h=>h) (Or.inl ⟨by rfl,?_⟩) ?_ ?_
        rotate_left
        ·intro w'
         go_simp
         with_reducible rfl
        rotate_left
        ·simp only [Act.put,List.setIfInBounds_toArray,List.set_cons_zero,List.set_cons_succ,Bb,Cb]
         rfl
        refine Nc (i:=1) (N:=some 18) (v:=?_) (a':=?_) #[true,true,false,false,false,false,false,false,false,false] rfl rfl (ud cg.out (by kernel_rfl)) (fun _ _ _ h=>h) (Or.inl ⟨by rfl,?_⟩) ?_ ?_
        rotate_left
        ·intro w'
         go_simp
         with_reducible rfl
        rotate_left
        ·simp only [Act.put,List.setIfInBounds_toArray,List.set_cons_zero,List.set_cons_succ,Bb,Cb]
         rfl
        refine Nc (i:=2) (N:=some 19) (v:=?_) (a':=?_) #[true,true,true,false,false,false,false,false,false,false] rfl rfl (ud cg.out (by kernel_rfl)) (fun _ _ _ h=>h) (Or.inl ⟨by rfl,?_⟩) ?_ ?_
        rotate_left
        ·intro w'
         go_simp
         with_reducible rfl
        rotate_left
        ·simp only [Act.put,List.setIfInBounds_toArray,List.set_cons_zero,List.set_cons_succ,Bb,Cb]
         rfl
        refine Nc (i:=4) (N:=some 21) (v:=?_) (a':=?_) #[true,true,true,false,true,false,false,false,false,false] rfl rfl (ud cg.out (by kernel_rfl)) (fun _ _ _ h=>h) (Or.inl ⟨by rfl,?_⟩) ?_ ?_
        rotate_left
        ·intro w'
         go_simp
         with_reducible rfl
        rotate_left
        ·simp only [Act.put,List.setIfInBounds_toArray,List.set_cons_zero,List.set_cons_succ,Bb,Cb]
         rfl
        refine Nc (i:=5) (N:=some 22) (v:=?_) (a':=?_) #[true,true,true,false,true,true,false,false,false,false] rfl rfl (ud cg.out (by kernel_rfl)) (fun _ _ _ h=>h) (Or.inl ⟨by rfl,?_⟩) ?_ ?_
        rotate_left
        ·intro w'
         go_simp
         with_reducible rfl
        rotate_left
        ·simp only [Act.put,List.setIfInBounds_toArray,List.set_cons_zero,List.set_cons_succ,Bb,Cb]
         rfl
        refine Nc (i:=6) (N:=some 23) (v:=?_) (a':=?_) #[true,true,true,false,true,true,true,false,false,false] rfl rfl (ud cg.out (by kernel_rfl)) (fun _ _ _ h=>h) (Or.inl ⟨by rfl,?_⟩) ?_ ?_
        rotate_left
        ·intro w'
         go_simp
         with_reducible rfl
        rotate_left
        ·simp only [Act.put,List.setIfInBounds_toArray,List.set_cons_zero,List.set_cons_succ,Bb,Cb]
         rfl
        refine Lf (i:=3) (N:=some 20) (v:=?_) (a':=?_) #[true,true,true,true,true,true,true,false,false,false] rfl rfl (Pf cg.out Vr.out (by kernel_rfl)) (fun _ _ _ h=>h) (Or.inl ⟨by rfl,?_⟩) hHeld ?_ ?_
        rotate_left
        ·rintro w' ⟨s0,s1,s2,s3,s4,s5,s6,s7,s8,s9⟩
         go_simp
         with_reducible rfl
        rotate_left
        ·simp only [Act.put,List.setIfInBounds_toArray,List.set_cons_zero,List.set_cons_succ,Bb,Cb]
         rfl
        refine Lf (i:=7) (N:=some 24) (v:=?_) (a':=?_) #[true,true,true,true,true,true,true,true,false,false] rfl rfl (Pf cg.out Vr.out (by kernel_rfl)) (fun _ _ _ h=>h) (Or.inl ⟨by rfl,?_⟩) hHeld ?_ ?_
        rotate_left
        ·rintro w' ⟨s0,s1,s2,s3,s4,s5,s6,s7,s8,s9⟩
         go_simp
         with_reducible rfl
        rotate_left
        ·simp only [Act.put,List.setIfInBounds_toArray,List.set_cons_zero,List.set_cons_succ,Bb,Cb]
         rfl
        refine gm (i:=8) (N:=some 25) #[true,true,true,true,true,true,true,true,true,false] rfl rfl (Pm cg.out (by kernel_rfl)) (by decide) (fun K hK=>?_)
        refine Qm Try.func93 (by kernel_rfl) rfl #[.agg #[.slice Ri ((Ua l0 Ca).f0).length Qi,.int .i64 ((Ua l0 Ca).f1),.int .i64 ((Ua l0 Ca).f2),.int .i64 ((Ua l0 Ca).f3),.int .i64 ((Ua l0 Ca).f4)],.agg #[.slice Qz ((Ua l1 Ca).f0).length Gz,.int .i64 ((Ua l1 Ca).f1),.int .i64 ((Ua l1 Ca).f2),.int .i64 ((Ua l1 Ca).f3),.int .i64 ((Ua l1 Ca).f4)]] (by rfl) rfl rfl (by (try simp only [List.map_toArray,List.map_cons,List.map_nil]);first|done|rfl|(simp only [List.length_drop,List.length_take];rfl)) ?_
        with_reducible refine (pg.calls k1 _ _ ((Ua l0 Ca).f0) ((Ua l0 Ca).f1) ((Ua l0 Ca).f2) ((Ua l0 Ca).f3) ((Ua l0 Ca).f4) _ _ ((Ua l1 Ca).f0) ((Ua l1 Ca).f1) ((Ua l1 Ca).f2) ((Ua l1 Ca).f3) ((Ua l1 Ca).f4) false _ ?side1 ?side2 ?side3 ?side4 A7.out).mono ?_
        (case side1=>repeat (first|exact (Kd.Mb Mh.out HB.out)|(with_reducible refine Kd.Lc ?_ _)|(with_reducible refine Kd.Jc ?_ _)|(with_reducible refine Kd.Ed ?_)))
        (case side2=>exact Uh.out)
        (case side3=>repeat (first|exact (Kd.Mb qw.out HB.out)|(with_reducible refine Kd.Lc ?_ _)|(with_reducible refine Kd.Jc ?_ _)|(with_reducible refine Kd.Ed ?_)))
        (case side4=>exact iD.out)
        rintro e sA ⟨rfl,hb⟩
        refine ⟨_,rfl,?_⟩
        have Qb:=ja.mk (Na (by repeat (first|(with_reducible first|exact HB.out|apply qa|apply ia|apply ua)|exact HB.out)) hb)
        clear HB
        have HB:=Qb
        clear Qb
        (try clear hb)
        (try clear hb2)
        (try clear hk)
        (try clear hi)
        refine hK.out _ _ ⟨((HB.out.cell (World.block_lt_of_cell? w _ Ag)).trans Ag),((HB.out.cell (World.block_lt_of_cell? w _ zg)).trans zg),((HB.out.cell (World.block_lt_of_cell? w _ yg)).trans yg),((HB.out.cell (World.block_lt_of_cell? w _ xg)).trans xg),((HB.out.cell (World.block_lt_of_cell? w _ Th)).trans Th),((HB.out.cell (World.block_lt_of_cell? w _ wg)).trans wg),((HB.out.cell (World.block_lt_of_cell? w _ ug)).trans ug),((HB.out.cell (World.block_lt_of_cell? w _ sg)).trans sg),((HB.out.cell (World.block_lt_of_cell? w _ qg)).trans qg),((HB.out.cell (World.block_lt_of_cell? w _ Sh)).trans Sh)⟩ (fun hHeld=>?_)
        clear hK K
        refine Mg (a':=?_) ?_ ?_
        rotate_left
        ·show Act.put _ (some 25) _=_
         simp only [Act.put,List.setIfInBounds_toArray,List.set_cons_zero,List.set_cons_succ,Bb,Cb]
         rfl
        refine Nc (i:=9) (N:=some 26) (v:=?_) (a':=?_) #[true,true,true,true,true,true,true,true,true,true] rfl rfl (ud cg.out (by kernel_rfl)) (fun _ _ _ h=>h) (Or.inl ⟨by rfl,?_⟩) ?_ ?_
        rotate_left
        ·intro w'
         go_simp
         with_reducible rfl
        rotate_left
        ·simp only [Act.put,List.setIfInBounds_toArray,List.set_cons_zero,List.set_cons_succ,Bb,Cb]
         rfl
        refine Mk (Bk cg.out (by kernel_rfl)) ?_
        try go_wp2
        go_ret
        exact ⟨by first|rfl|(simp [La,Ka] <;> rfl)|(simp [*,La,Ka] <;> rfl),by repeat (first|(with_reducible first|exact HB.out|apply qa|apply ia|apply ua)|exact HB.out)⟩
      ·rw [if_neg c6] at H
       exact absurd H (by simp)
     ·rw [if_neg c5] at H
      exact absurd H (by simp)
    ·rw [if_neg c4] at H
     have si:decide (Ca < (l0.length:Int))=false:=decide_eq_false c4
     clear c4
     obtain rfl:=Option.some.inj H
     go_wp2
     go_ret
     exact ⟨by first|rfl|(simp [La,Ka] <;> rfl)|(simp [*,La,Ka] <;> rfl),by repeat (first|(with_reducible first|exact HB.out|apply qa|apply ia|apply ua)|exact HB.out)⟩
 ·rw [if_neg c3] at H
  have Jh:((l0.length:Int) == (l1.length:Int))=false:=beq_eq_false_iff_ne.mpr c3
  have Zp:((l0.length:Int) != (l1.length:Int))=true:=bne_iff_ne.mpr c3
  have Bz:(l0.length == l1.length)=false:=by first|simpa using c3|(simp at c3 ⊢;omega)
  obtain rfl:=Option.some.inj H
  go_enter Try.func61,Try.ntmps61
  go_wp2
  go_ret
  exact ⟨by first|rfl|(simp [La,Ka] <;> rfl)|(simp [*,La,Ka] <;> rfl),by repeat (first|(with_reducible first|exact HB.out|apply qa|apply ia|apply ua)|exact HB.out)⟩
def gh.f (k:Nat) (Ta:List Int) (Pa:Int) (Oa:Int) (Ma:Int) (Ra:List (Dh)) (Nd:List Int) (Lb:Int) (Rb:Int) (Sb:Int) (jm:List (Dh)):Option (Bool):=(Jd.f k Ta Nd).bind fun t103=>(if t103=true then (if Pa=Lb then (if Oa=Rb then (if Ma=Sb then ((fc.f k Ra jm).bind fun t104=>(if t104=true then (some true) else (some false))) else (some false)) else (some false)) else (some false)) else (some false))
theorem gh.mono:∀ a0 a1 a2 a3 a4 a5 a6 a7 a8 a9 k,Nb (gh.f k a0 a1 a2 a3 a4 a5 a6 a7 a8 a9) (gh.f (k + 1) a0 a1 a2 a3 a4 a5 a6 a7 a8 a9):=by
 intro a0 a1 a2 a3 a4 a5 a6 a7 a8 a9 k
 unfold gh.f
 repeat' first
   | (with_reducible exact fc.mono _ _ _)
   | (with_reducible exact Jd.mono _ _ _)
   | (with_reducible exact Nb.refl _)
   | (with_reducible exact Nb.none _)
   | (with_reducible refine Nb.ite ?_ ?_)
   | (with_reducible refine Nb.bind ?_ (fun _=>?_))
   | exact fc.mono _ _ _
   | exact Jd.mono _ _ _
   | exact Nb.none _
   | refine Nb.ite ?_ ?_
   | refine Nb.bind ?_ (fun _=>?_)
theorem gh.calls (k:Nat) (Eb:Option Addr) (Db:Nat) (Ta:List Int) (Pa:Int) (Oa:Int) (Ma:Int) (yc:Option Addr) (Zb:Nat) (Ra:List (Dh)) (kg:Option Addr) (Tf:Nat) (Nd:List Int) (Lb:Int) (Rb:Int) (Sb:Int) (Bs:Option Addr) (js:Nat) (jm:List (Dh)) (r:Bool) (w:World) (Kf:Kd.C (Kd.int .i64) w Eb Ta.length Ta) (Gf:Ta.length ≤ Db) (Bg:Kd.C Tp w yc Ra.length Ra) (Jg:Ra.length ≤ Zb) (eu:Kd.C (Kd.int .i64) w kg Nd.length Nd) (fu:Nd.length ≤ Tf) (KQ:Kd.C Tp w Bs jm.length jm) (pR:jm.length ≤ js) (h:gh.f k Ta Pa Oa Ma Ra Nd Lb Rb Sb jm=some r) :
  Calls Try.prog 17 #[.agg #[.slice Eb Ta.length Db,.int .i64 Pa,.int .i64 Oa,.int .i64 Ma,.slice yc Ra.length Zb],.agg #[.slice kg Nd.length Tf,.int .i64 Lb,.int .i64 Rb,.int .i64 Sb,.slice Bs jm.length js]] w fun e w'=>e = .returned (.bool r)∧Below w.heap.size w w':=by
 have vB:=Try.underlying30
 have Uf:=ja.mk Kf
 have ig:=ja.mk Gf
 clear Kf Gf
 have Zg:=ja.mk Bg
 have Li:=ja.mk Jg
 clear Bg Jg
 have Rm:=ja.mk eu
 have Qp:=ja.mk fu
 clear eu fu
 have NR:=ja.mk KQ
 have iS:=ja.mk pR
 clear KQ pR
 have HB:=ja.mk (Below.refl w.heap.size w)
 have H:((Jd.f k Ta Nd).bind fun t103=>(if t103=true then (if Pa=Lb then (if Oa=Rb then (if Ma=Sb then ((fc.f k Ra jm).bind fun t104=>(if t104=true then (some true) else (some false))) else (some false)) else (some false)) else (some false)) else (some false)))=some r:=h
 clear h
 replace H:=Option.bind_eq_some_iff.mp H
 obtain ⟨t103,tw,H⟩:=H
 replace H:(if t103=true then (if Pa=Lb then (if Oa=Rb then (if Ma=Sb then ((fc.f k Ra jm).bind fun t104=>(if t104=true then (some true) else (some false))) else (some false)) else (some false)) else (some false)) else (some false))=some r:=H
 have A3:=ja.mk tw
 clear tw
 by_cases c4:t103=true
 ·subst c4
  have H1:(if Pa=Lb then (if Oa=Rb then (if Ma=Sb then ((fc.f k Ra jm).bind fun t104=>(if t104=true then (some true) else (some false))) else (some false)) else (some false)) else (some false))=some r:=by rw [if_pos rfl] at H;exact H
  clear H
  have H:=H1
  clear H1
  by_cases c5:Pa=Lb
  ·rw [if_pos c5] at H
   have Ok:(Pa == Lb)=true:=beq_iff_eq.mpr c5
   have Yp:(Pa != Lb)=false:=bne_eq_false_iff_eq.mpr c5
   clear c5
   by_cases c6:Oa=Rb
   ·rw [if_pos c6] at H
    have El:(Oa == Rb)=true:=beq_iff_eq.mpr c6
    have Ts:(Oa != Rb)=false:=bne_eq_false_iff_eq.mpr c6
    clear c6
    by_cases c7:Ma=Sb
    ·rw [if_pos c7] at H
     have Uo:(Ma == Sb)=true:=beq_iff_eq.mpr c7
     have qu:(Ma != Sb)=false:=bne_eq_false_iff_eq.mpr c7
     clear c7
     replace H:=Option.bind_eq_some_iff.mp H
     obtain ⟨t104,NM,H⟩:=H
     replace H:(if t104=true then (some true) else (some false))=some r:=H
     have A8:=ja.mk NM
     clear NM
     by_cases c9:t104=true
     ·subst c9
      have H1:(some true)=some r:=by rw [if_pos rfl] at H;exact H
      clear H
      have H:=H1
      clear H1
      obtain rfl:=Option.some.inj H
      go_enter Try.func17,Try.ntmps17
      go_wp2_with (first|((with_reducible refine Pb (N:=2) rfl ?_);refine Kb ?hg (N:=2) ?hd (cs:=#[.slice Eb Ta.length Db,.int .i64 Pa,.int .i64 Oa,.int .i64 Ma,.slice yc Ra.length Zb]) (t:=30) ?hr ?_;(case hd=>rfl);(case hg=>rfl);(case hr=>first|(go_simp;done)|(go_simp;rfl));intro Da hg jq Yb hb;have Qb:=ja.mk (Na (by repeat (first|(with_reducible first|exact HB.out|apply qa|apply ia|apply ua)|exact HB.out)) hb);have uc:=ja.mk (Yb);have Qc:=ja.mk ((by rw [hg];exact (Qa (by repeat (first|(with_reducible first|exact HB.out|apply qa|apply ia|apply ua)|exact HB.out))):w.heap.size ≤ Da));have Td:=ja.mk ((by rw [hg];exact (Qa (by repeat (first|(with_reducible first|exact HB.out|apply qa|apply ia|apply ua)|exact HB.out))):w.heap.size ≤ Da));clear HB;have HB:=Qb;have za:=uc;have Vf:=Qc;have Wa:=Td;clear Qb uc Qc Td hb Yb hg)|((with_reducible refine Pb (N:=3) rfl ?_);refine Kb ?hg (N:=3) ?hd (cs:=#[.slice kg Nd.length Tf,.int .i64 Lb,.int .i64 Rb,.int .i64 Sb,.slice Bs jm.length js]) (t:=30) ?hr ?_;(case hd=>rfl);(case hg=>rfl);(case hr=>first|(go_simp;done)|(go_simp;rfl));intro Ja hg Ei Yb hb;have Qb:=ja.mk (Ya (g:=Da) (o:=.cells #[.slice Eb Ta.length Db,.int .i64 Pa,.int .i64 Oa,.int .i64 Ma,.slice yc Ra.length Zb] 30 (0,0)) (by (with_reducible repeat (first|refine Ga ?_ _|refine Ia ?_|refine Fa ?_ _));exact za.out) hb);have uc:=ja.mk (Na (by repeat (first|(with_reducible first|exact HB.out|apply qa|apply ia|apply ua|refine Aa ?_ Wa.out)|exact HB.out)) hb);have Qc:=ja.mk (Yb);have Td:=ja.mk ((by rw [hg];exact (Qa (by repeat (first|(with_reducible first|exact HB.out|apply qa|apply ia|apply ua|refine Aa ?_ Wa.out)|exact HB.out))):w.heap.size ≤ Ja));have dh:=ja.mk ((by rw [hg];exact (Qa (by repeat (first|(with_reducible first|exact HB.out|apply qa|apply ia|apply ua|refine Aa ?_ Wa.out)|exact HB.out))):w.heap.size ≤ Ja));have Eh:=ja.mk ((by rw [hg];exact Nat.ne_of_lt (Pc (g:=Da) (o:=.cells #[.slice Eb Ta.length Db,.int .i64 Pa,.int .i64 Oa,.int .i64 Ma,.slice yc Ra.length Zb] 30 (0,0)) (by (with_reducible repeat (first|refine Ga ?_ _|refine Ia ?_|refine Fa ?_ _));exact za.out)):Da ≠ Ja));have Kh:=ja.mk ((by rw [hg];exact Nat.ne_of_gt (Pc (g:=Da) (o:=.cells #[.slice Eb Ta.length Db,.int .i64 Pa,.int .i64 Oa,.int .i64 Ma,.slice yc Ra.length Zb] 30 (0,0)) (by (with_reducible repeat (first|refine Ga ?_ _|refine Ia ?_|refine Fa ?_ _));exact za.out)):Ja ≠ Da));clear za HB;have za:=Qb;have HB:=uc;have Ba:=Qc;have Ci:=Td;have Dc:=dh;have qb:=Eh;have mb:=Kh;clear Qb uc Qc Td dh Eh Kh hb Yb hg;have mL:=qb.out;have kL:=mb.out;have Qj:Ei.cell? ⟨Da,0,none⟩=some (.slice Eb Ta.length Db):=(ga za.out 0).trans rfl;have Pj:Ei.cell? ⟨Da,1,none⟩=some (.int .i64 Pa):=(ga za.out 1).trans rfl;have Xn:Ei.cell? ⟨Da,2,none⟩=some (.int .i64 Oa):=(ga za.out 2).trans rfl;have Wn:Ei.cell? ⟨Da,3,none⟩=some (.int .i64 Ma):=(ga za.out 3).trans rfl;have Vn:Ei.cell? ⟨Da,4,none⟩=some (.slice yc Ra.length Zb):=(ga za.out 4).trans rfl;have Oj:=aa za.out 0;have Mj:=aa za.out 1;have Sn:=aa za.out 2;have Rn:=aa za.out 3;have Qn:=aa za.out 4;have Lp:Ei.cell? ⟨Ja,0,none⟩=some (.slice kg Nd.length Tf):=(ga Ba.out 0).trans rfl;have Kp:Ei.cell? ⟨Ja,1,none⟩=some (.int .i64 Lb):=(ga Ba.out 1).trans rfl;have Jp:Ei.cell? ⟨Ja,2,none⟩=some (.int .i64 Rb):=(ga Ba.out 2).trans rfl;have Ip:Ei.cell? ⟨Ja,3,none⟩=some (.int .i64 Sb):=(ga Ba.out 3).trans rfl;have Hp:Ei.cell? ⟨Ja,4,none⟩=some (.slice Bs jm.length js):=(ga Ba.out 4).trans rfl;have Dp:=aa Ba.out 0;have Cp:=aa Ba.out 1;have Bp:=aa Ba.out 2;have Ap:=aa Ba.out 3;have zp:=aa Ba.out 4)|((with_reducible refine xb (f:=20) rfl ?_);refine qd (some 9) rfl rfl Try.func20 (by kernel_rfl) rfl #[.slice Eb Ta.length Db,.slice kg Nd.length Tf] rfl (by (try simp only [List.map_toArray,List.map_cons,List.map_nil]);first|done|rfl|(simp only [List.length_drop,List.length_take];rfl)) ?_;(with_reducible refine (Jd.calls k _ _ Ta _ _ Nd true _ ?side1 ?side2 ?side3 ?side4 A3.out).mono ?_);(case side1=>repeat (first|exact (Kd.Mb Uf.out HB.out)|(with_reducible refine Kd.Lc ?_ _)|(with_reducible refine Kd.Jc ?_ _)|(with_reducible refine Kd.Ed ?_)));(case side2=>exact ig.out);(case side3=>repeat (first|exact (Kd.Mb Rm.out HB.out)|(with_reducible refine Kd.Lc ?_ _)|(with_reducible refine Kd.Jc ?_ _)|(with_reducible refine Kd.Ed ?_)));(case side4=>exact Qp.out);rintro e w' ⟨rfl,⟨nd,rfl⟩⟩;refine ⟨_,rfl,?_⟩)|((with_reducible refine xb (f:=61) rfl ?_);refine qd (some 30) rfl rfl Try.func61 (by kernel_rfl) rfl #[.slice yc Ra.length Zb,.slice Bs jm.length js] rfl (by (try simp only [List.map_toArray,List.map_cons,List.map_nil]);first|done|rfl|(simp only [List.length_drop,List.length_take];rfl)) ?_;(with_reducible refine (fc.calls k _ _ Ra _ _ jm true _ ?side1 ?side2 ?side3 ?side4 A8.out).mono ?_);(case side1=>repeat (first|exact (Kd.Mb Zg.out (by repeat (first|(with_reducible first|exact HB.out|apply qa|apply ia|apply ua|refine Aa ?_ Wa.out|refine Aa ?_ Dc.out)|exact HB.out)))|(with_reducible refine Kd.Lc ?_ _)|(with_reducible refine Kd.Jc ?_ _)|(with_reducible refine Kd.Ed ?_)));(case side2=>exact Li.out);(case side3=>repeat (first|exact (Kd.Mb NR.out (by repeat (first|(with_reducible first|exact HB.out|apply qa|apply ia|apply ua|refine Aa ?_ Wa.out|refine Aa ?_ Dc.out)|exact HB.out)))|(with_reducible refine Kd.Lc ?_ _)|(with_reducible refine Kd.Jc ?_ _)|(with_reducible refine Kd.Ed ?_)));(case side4=>exact iS.out);rintro e Fl ⟨rfl,hb⟩;refine ⟨_,rfl,?_⟩;have Qb:=ja.mk (Ya (g:=Da) (o:=.cells #[.slice Eb Ta.length Db,.int .i64 Pa,.int .i64 Oa,.int .i64 Ma,.slice yc Ra.length Zb] 30 (0,0)) (by (with_reducible repeat (first|refine Ga ?_ _|refine Ia ?_|refine Fa ?_ _));exact za.out) hb);have uc:=ja.mk (Ya (g:=Ja) (o:=.cells #[.slice kg Nd.length Tf,.int .i64 Lb,.int .i64 Rb,.int .i64 Sb,.slice Bs jm.length js] 30 (0,0)) (by (with_reducible repeat (first|refine Ga ?_ _|refine Ia ?_|refine Fa ?_ _));exact Ba.out) hb);have Qc:=ja.mk (Na (by repeat (first|(with_reducible first|exact HB.out|apply qa|apply ia|apply ua|refine Aa ?_ Wa.out|refine Aa ?_ Dc.out)|exact HB.out)) hb);clear za Ba HB;have za:=Qb;have Ba:=uc;have HB:=Qc;clear Qb uc Qc;(try clear hb);(try clear hb2);(try clear hk);(try clear hi)))
      go_ret
      exact ⟨by first|rfl|(simp [La,Ka] <;> rfl)|(simp [*,La,Ka] <;> rfl),by repeat (first|(with_reducible first|exact HB.out|apply qa|apply ia|apply ua|refine Aa ?_ Wa.out|refine Aa ?_ Dc.out)|exact HB.out)⟩
     ·replace c9:=Bool.eq_false_iff.mpr c9
      subst c9
      have H1:(some false)=some r:=by rw [if_neg (show ¬ (false=true) by decide)] at H;exact H
      clear H
      have H:=H1
      clear H1
      obtain rfl:=Option.some.inj H
      go_enter Try.func17,Try.ntmps17
      go_wp2_with (first|((with_reducible refine Pb (N:=2) rfl ?_);refine Kb ?hg (N:=2) ?hd (cs:=#[.slice Eb Ta.length Db,.int .i64 Pa,.int .i64 Oa,.int .i64 Ma,.slice yc Ra.length Zb]) (t:=30) ?hr ?_;(case hd=>rfl);(case hg=>rfl);(case hr=>first|(go_simp;done)|(go_simp;rfl));intro Da hg Xz Yb hb;have Qb:=ja.mk (Na (by repeat (first|(with_reducible first|exact HB.out|apply qa|apply ia|apply ua)|exact HB.out)) hb);have uc:=ja.mk (Yb);have Qc:=ja.mk ((by rw [hg];exact (Qa (by repeat (first|(with_reducible first|exact HB.out|apply qa|apply ia|apply ua)|exact HB.out))):w.heap.size ≤ Da));have Td:=ja.mk ((by rw [hg];exact (Qa (by repeat (first|(with_reducible first|exact HB.out|apply qa|apply ia|apply ua)|exact HB.out))):w.heap.size ≤ Da));clear HB;have HB:=Qb;have za:=uc;have Vf:=Qc;have Wa:=Td;clear Qb uc Qc Td hb Yb hg)|((with_reducible refine Pb (N:=3) rfl ?_);refine Kb ?hg (N:=3) ?hd (cs:=#[.slice kg Nd.length Tf,.int .i64 Lb,.int .i64 Rb,.int .i64 Sb,.slice Bs jm.length js]) (t:=30) ?hr ?_;(case hd=>rfl);(case hg=>rfl);(case hr=>first|(go_simp;done)|(go_simp;rfl));intro Ja hg Ro Yb hb;have Qb:=ja.mk (Ya (g:=Da) (o:=.cells #[.slice Eb Ta.length Db,.int .i64 Pa,.int .i64 Oa,.int .i64 Ma,.slice yc Ra.length Zb] 30 (0,0)) (by (with_reducible repeat (first|refine Ga ?_ _|refine Ia ?_|refine Fa ?_ _));exact za.out) hb);have uc:=ja.mk (Na (by repeat (first|(with_reducible first|exact HB.out|apply qa|apply ia|apply ua|refine Aa ?_ Wa.out)|exact HB.out)) hb);have Qc:=ja.mk (Yb);have Td:=ja.mk ((by rw [hg];exact (Qa (by repeat (first|(with_reducible first|exact HB.out|apply qa|apply ia|apply ua|refine Aa ?_ Wa.out)|exact HB.out))):w.heap.size ≤ Ja));have dh:=ja.mk ((by rw [hg];exact (Qa (by repeat (first|(with_reducible first|exact HB.out|apply qa|apply ia|apply ua|refine Aa ?_ Wa.out)|exact HB.out))):w.heap.size ≤ Ja));have Eh:=ja.mk ((by rw [hg];exact Nat.ne_of_lt (Pc (g:=Da) (o:=.cells #[.slice Eb Ta.length Db,.int .i64 Pa,.int .i64 Oa,.int .i64 Ma,.slice yc Ra.length Zb] 30 (0,0)) (by (with_reducible repeat (first|refine Ga ?_ _|refine Ia ?_|refine Fa ?_ _));exact za.out)):Da ≠ Ja));have Kh:=ja.mk ((by rw [hg];exact Nat.ne_of_gt (Pc (g:=Da) (o:=.cells #[.slice Eb Ta.length Db,.int .i64 Pa,.int .i64 Oa,.int .i64 Ma,.slice yc Ra.length Zb] 30 (0,0)) (by (with_reducible repeat (first|refine Ga ?_ _|refine Ia ?_|refine Fa ?_ _));exact za.out)):Ja ≠ Da));clear za HB;have za:=Qb;have HB:=uc;have Ba:=Qc;have Ci:=Td;have Dc:=dh;have qb:=Eh;have mb:=Kh;clear Qb uc Qc Td dh Eh Kh hb Yb hg;have cai:=qb.out;have pah:=mb.out;have LC:Ro.cell? ⟨Da,0,none⟩=some (.slice Eb Ta.length Db):=(ga za.out 0).trans rfl;have KC:Ro.cell? ⟨Da,1,none⟩=some (.int .i64 Pa):=(ga za.out 1).trans rfl;have JC:Ro.cell? ⟨Da,2,none⟩=some (.int .i64 Oa):=(ga za.out 2).trans rfl;have IC:Ro.cell? ⟨Da,3,none⟩=some (.int .i64 Ma):=(ga za.out 3).trans rfl;have FC:Ro.cell? ⟨Da,4,none⟩=some (.slice yc Ra.length Zb):=(ga za.out 4).trans rfl;have WB:=aa za.out 0;have VB:=aa za.out 1;have UB:=aa za.out 2;have TB:=aa za.out 3;have SB:=aa za.out 4;have UI:Ro.cell? ⟨Ja,0,none⟩=some (.slice kg Nd.length Tf):=(ga Ba.out 0).trans rfl;have TI:Ro.cell? ⟨Ja,1,none⟩=some (.int .i64 Lb):=(ga Ba.out 1).trans rfl;have SI:Ro.cell? ⟨Ja,2,none⟩=some (.int .i64 Rb):=(ga Ba.out 2).trans rfl;have RI:Ro.cell? ⟨Ja,3,none⟩=some (.int .i64 Sb):=(ga Ba.out 3).trans rfl;have XP:Ro.cell? ⟨Ja,4,none⟩=some (.slice Bs jm.length js):=(ga Ba.out 4).trans rfl;have OH:=aa Ba.out 0;have NH:=aa Ba.out 1;have MH:=aa Ba.out 2;have LH:=aa Ba.out 3;have MO:=aa Ba.out 4)|((with_reducible refine xb (f:=20) rfl ?_);refine qd (some 9) rfl rfl Try.func20 (by kernel_rfl) rfl #[.slice Eb Ta.length Db,.slice kg Nd.length Tf] rfl (by (try simp only [List.map_toArray,List.map_cons,List.map_nil]);first|done|rfl|(simp only [List.length_drop,List.length_take];rfl)) ?_;(with_reducible refine (Jd.calls k _ _ Ta _ _ Nd true _ ?side1 ?side2 ?side3 ?side4 A3.out).mono ?_);(case side1=>repeat (first|exact (Kd.Mb Uf.out HB.out)|(with_reducible refine Kd.Lc ?_ _)|(with_reducible refine Kd.Jc ?_ _)|(with_reducible refine Kd.Ed ?_)));(case side2=>exact ig.out);(case side3=>repeat (first|exact (Kd.Mb Rm.out HB.out)|(with_reducible refine Kd.Lc ?_ _)|(with_reducible refine Kd.Jc ?_ _)|(with_reducible refine Kd.Ed ?_)));(case side4=>exact Qp.out);rintro e w' ⟨rfl,⟨nd,rfl⟩⟩;refine ⟨_,rfl,?_⟩)|((with_reducible refine xb (f:=61) rfl ?_);refine qd (some 30) rfl rfl Try.func61 (by kernel_rfl) rfl #[.slice yc Ra.length Zb,.slice Bs jm.length js] rfl (by (try simp only [List.map_toArray,List.map_cons,List.map_nil]);first|done|rfl|(simp only [List.length_drop,List.length_take];rfl)) ?_;(with_reducible refine (fc.calls k _ _ Ra _ _ jm false _ ?side1 ?side2 ?side3 ?side4 A8.out).mono ?_);(case side1=>repeat (first|exact (Kd.Mb Zg.out (by repeat (first|(with_reducible first|exact HB.out|apply qa|apply ia|apply ua|refine Aa ?_ Wa.out|refine Aa ?_ Dc.out)|exact HB.out)))|(with_reducible refine Kd.Lc ?_ _)|(with_reducible refine Kd.Jc ?_ _)|(with_reducible refine Kd.Ed ?_)));(case side2=>exact Li.out);(case side3=>repeat (first|exact (Kd.Mb NR.out (by repeat (first|(with_reducible first|exact HB.out|apply qa|apply ia|apply ua|refine Aa ?_ Wa.out|refine Aa ?_ Dc.out)|exact HB.out)))|(with_reducible refine Kd.Lc ?_ _)|(with_reducible refine Kd.Jc ?_ _)|(with_reducible refine Kd.Ed ?_)));(case side4=>exact iS.out);rintro e Cs ⟨rfl,hb⟩;refine ⟨_,rfl,?_⟩;have Qb:=ja.mk (Ya (g:=Da) (o:=.cells #[.slice Eb Ta.length Db,.int .i64 Pa,.int .i64 Oa,.int .i64 Ma,.slice yc Ra.length Zb] 30 (0,0)) (by (with_reducible repeat (first|refine Ga ?_ _|refine Ia ?_|refine Fa ?_ _));exact za.out) hb);have uc:=ja.mk (Ya (g:=Ja) (o:=.cells #[.slice kg Nd.length Tf,.int .i64 Lb,.int .i64 Rb,.int .i64 Sb,.slice Bs jm.length js] 30 (0,0)) (by (with_reducible repeat (first|refine Ga ?_ _|refine Ia ?_|refine Fa ?_ _));exact Ba.out) hb);have Qc:=ja.mk (Na (by repeat (first|(with_reducible first|exact HB.out|apply qa|apply ia|apply ua|refine Aa ?_ Wa.out|refine Aa ?_ Dc.out)|exact HB.out)) hb);clear za Ba HB;have za:=Qb;have Ba:=uc;have HB:=Qc;clear Qb uc Qc;(try clear hb);(try clear hb2);(try clear hk);(try clear hi)))
      go_ret
      exact ⟨by first|rfl|(simp [La,Ka] <;> rfl)|(simp [*,La,Ka] <;> rfl),by repeat (first|(with_reducible first|exact HB.out|apply qa|apply ia|apply ua|refine Aa ?_ Wa.out|refine Aa ?_ Dc.out)|exact HB.out)⟩
    ·rw [if_neg c7] at H
     have Uo:(Ma == Sb)=false:=beq_eq_false_iff_ne.mpr c7
     have qu:(Ma != Sb)=true:=bne_iff_ne.mpr c7
     obtain rfl:=Option.some.inj H
     go_enter Try.func17,Try.ntmps17
     go_wp2_with (first|((with_reducible refine Pb (N:=2) rfl ?_);refine Kb ?hg (N:=2) ?hd (cs:=#[.slice Eb Ta.length Db,.int .i64 Pa,.int .i64 Oa,.int .i64 Ma,.slice yc Ra.length Zb]) (t:=30) ?hr ?_;(case hd=>rfl);(case hg=>rfl);(case hr=>first|(go_simp;done)|(go_simp;rfl));intro Da hg pK Yb hb;have Qb:=ja.mk (Na (by repeat (first|(with_reducible first|exact HB.out|apply qa|apply ia|apply ua)|exact HB.out)) hb);have uc:=ja.mk (Yb);have Qc:=ja.mk ((by rw [hg];exact (Qa (by repeat (first|(with_reducible first|exact HB.out|apply qa|apply ia|apply ua)|exact HB.out))):w.heap.size ≤ Da));have Td:=ja.mk ((by rw [hg];exact (Qa (by repeat (first|(with_reducible first|exact HB.out|apply qa|apply ia|apply ua)|exact HB.out))):w.heap.size ≤ Da));clear HB;have HB:=Qb;have za:=uc;have Vf:=Qc;have Wa:=Td;clear Qb uc Qc Td hb Yb hg)|((with_reducible refine Pb (N:=3) rfl ?_);refine Kb ?hg (N:=3) ?hd (cs:=#[.slice kg Nd.length Tf,.int .i64 Lb,.int .i64 Rb,.int .i64 Sb,.slice Bs jm.length js]) (t:=30) ?hr ?_;(case hd=>rfl);(case hg=>rfl);(case hr=>first|(go_simp;done)|(go_simp;rfl));intro Ja hg xq Yb hb;have Qb:=ja.mk (Ya (g:=Da) (o:=.cells #[.slice Eb Ta.length Db,.int .i64 Pa,.int .i64 Oa,.int .i64 Ma,.slice yc Ra.length Zb] 30 (0,0)) (by (with_reducible repeat (first|refine Ga ?_ _|refine Ia ?_|refine Fa ?_ _));exact za.out) hb);have uc:=ja.mk (Na (by repeat (first|(with_reducible first|exact HB.out|apply qa|apply ia|apply ua|refine Aa ?_ Wa.out)|exact HB.out)) hb);have Qc:=ja.mk (Yb);have Td:=ja.mk ((by rw [hg];exact (Qa (by repeat (first|(with_reducible first|exact HB.out|apply qa|apply ia|apply ua|refine Aa ?_ Wa.out)|exact HB.out))):w.heap.size ≤ Ja));have dh:=ja.mk ((by rw [hg];exact (Qa (by repeat (first|(with_reducible first|exact HB.out|apply qa|apply ia|apply ua|refine Aa ?_ Wa.out)|exact HB.out))):w.heap.size ≤ Ja));have Eh:=ja.mk ((by rw [hg];exact Nat.ne_of_lt (Pc (g:=Da) (o:=.cells #[.slice Eb Ta.length Db,.int .i64 Pa,.int .i64 Oa,.int .i64 Ma,.slice yc Ra.length Zb] 30 (0,0)) (by (with_reducible repeat (first|refine Ga ?_ _|refine Ia ?_|refine Fa ?_ _));exact za.out)):Da ≠ Ja));have Kh:=ja.mk ((by rw [hg];exact Nat.ne_of_gt (Pc (g:=Da) (o:=.cells #[.slice Eb Ta.length Db,.int .i64 Pa,.int .i64 Oa,.int .i64 Ma,.slice yc Ra.length Zb] 30 (0,0)) (by (with_reducible repeat (first|refine Ga ?_ _|refine Ia ?_|refine Fa ?_ _));exact za.out)):Ja ≠ Da));clear za HB;have za:=Qb;have HB:=uc;have Ba:=Qc;have Ci:=Td;have Dc:=dh;have qb:=Eh;have mb:=Kh;clear Qb uc Qc Td dh Eh Kh hb Yb hg;have ZQ:=qb.out;have SQ:=mb.out;have Br:xq.cell? ⟨Da,0,none⟩=some (.slice Eb Ta.length Db):=(ga za.out 0).trans rfl;have Ar:xq.cell? ⟨Da,1,none⟩=some (.int .i64 Pa):=(ga za.out 1).trans rfl;have vr:xq.cell? ⟨Da,2,none⟩=some (.int .i64 Oa):=(ga za.out 2).trans rfl;have ur:xq.cell? ⟨Da,3,none⟩=some (.int .i64 Ma):=(ga za.out 3).trans rfl;have Mt:xq.cell? ⟨Da,4,none⟩=some (.slice yc Ra.length Zb):=(ga za.out 4).trans rfl;have Oq:=aa za.out 0;have Nq:=aa za.out 1;have Mq:=aa za.out 2;have Lq:=aa za.out 3;have Dt:=aa za.out 4;have Lt:xq.cell? ⟨Ja,0,none⟩=some (.slice kg Nd.length Tf):=(ga Ba.out 0).trans rfl;have Kt:xq.cell? ⟨Ja,1,none⟩=some (.int .i64 Lb):=(ga Ba.out 1).trans rfl;have Jt:xq.cell? ⟨Ja,2,none⟩=some (.int .i64 Rb):=(ga Ba.out 2).trans rfl;have Ht:xq.cell? ⟨Ja,3,none⟩=some (.int .i64 Sb):=(ga Ba.out 3).trans rfl;have Gv:xq.cell? ⟨Ja,4,none⟩=some (.slice Bs jm.length js):=(ga Ba.out 4).trans rfl;have Ct:=aa Ba.out 0;have Bt:=aa Ba.out 1;have yt:=aa Ba.out 2;have qt:=aa Ba.out 3;have Pu:=aa Ba.out 4)|((with_reducible refine xb (f:=20) rfl ?_);refine qd (some 9) rfl rfl Try.func20 (by kernel_rfl) rfl #[.slice Eb Ta.length Db,.slice kg Nd.length Tf] rfl (by (try simp only [List.map_toArray,List.map_cons,List.map_nil]);first|done|rfl|(simp only [List.length_drop,List.length_take];rfl)) ?_;(with_reducible refine (Jd.calls k _ _ Ta _ _ Nd true _ ?side1 ?side2 ?side3 ?side4 A3.out).mono ?_);(case side1=>repeat (first|exact (Kd.Mb Uf.out HB.out)|(with_reducible refine Kd.Lc ?_ _)|(with_reducible refine Kd.Jc ?_ _)|(with_reducible refine Kd.Ed ?_)));(case side2=>exact ig.out);(case side3=>repeat (first|exact (Kd.Mb Rm.out HB.out)|(with_reducible refine Kd.Lc ?_ _)|(with_reducible refine Kd.Jc ?_ _)|(with_reducible refine Kd.Ed ?_)));(case side4=>exact Qp.out);rintro e w' ⟨rfl,⟨nd,rfl⟩⟩;refine ⟨_,rfl,?_⟩))
     go_ret
     exact ⟨by first|rfl|(simp [La,Ka] <;> rfl)|(simp [*,La,Ka] <;> rfl),by repeat (first|(with_reducible first|exact HB.out|apply qa|apply ia|apply ua|refine Aa ?_ Wa.out|refine Aa ?_ Dc.out)|exact HB.out)⟩
   ·rw [if_neg c6] at H
    have El:(Oa == Rb)=false:=beq_eq_false_iff_ne.mpr c6
    have Ts:(Oa != Rb)=true:=bne_iff_ne.mpr c6
    obtain rfl:=Option.some.inj H
    go_enter Try.func17,Try.ntmps17
    go_wp2_with (first|((with_reducible refine Pb (N:=2) rfl ?_);refine Kb ?hg (N:=2) ?hd (cs:=#[.slice Eb Ta.length Db,.int .i64 Pa,.int .i64 Oa,.int .i64 Ma,.slice yc Ra.length Zb]) (t:=30) ?hr ?_;(case hd=>rfl);(case hg=>rfl);(case hr=>first|(go_simp;done)|(go_simp;rfl));intro Da hg w27 Yb hb;have Qb:=ja.mk (Na (by repeat (first|(with_reducible first|exact HB.out|apply qa|apply ia|apply ua)|exact HB.out)) hb);have uc:=ja.mk (Yb);have Qc:=ja.mk ((by rw [hg];exact (Qa (by repeat (first|(with_reducible first|exact HB.out|apply qa|apply ia|apply ua)|exact HB.out))):w.heap.size ≤ Da));have Td:=ja.mk ((by rw [hg];exact (Qa (by repeat (first|(with_reducible first|exact HB.out|apply qa|apply ia|apply ua)|exact HB.out))):w.heap.size ≤ Da));clear HB;have HB:=Qb;have za:=uc;have Vf:=Qc;have Wa:=Td;clear Qb uc Qc Td hb Yb hg)|((with_reducible refine Pb (N:=3) rfl ?_);refine Kb ?hg (N:=3) ?hd (cs:=#[.slice kg Nd.length Tf,.int .i64 Lb,.int .i64 Rb,.int .i64 Sb,.slice Bs jm.length js]) (t:=30) ?hr ?_;(case hd=>rfl);(case hg=>rfl);(case hr=>first|(go_simp;done)|(go_simp;rfl));intro Ja hg xx Yb hb;have Qb:=ja.mk (Ya (g:=Da) (o:=.cells #[.slice Eb Ta.length Db,.int .i64 Pa,.int .i64 Oa,.int .i64 Ma,.slice yc Ra.length Zb] 30 (0,0)) (by (with_reducible repeat (first|refine Ga ?_ _|refine Ia ?_|refine Fa ?_ _));exact za.out) hb);have uc:=ja.mk (Na (by repeat (first|(with_reducible first|exact HB.out|apply qa|apply ia|apply ua|refine Aa ?_ Wa.out)|exact HB.out)) hb);have Qc:=ja.mk (Yb);have Td:=ja.mk ((by rw [hg];exact (Qa (by repeat (first|(with_reducible first|exact HB.out|apply qa|apply ia|apply ua|refine Aa ?_ Wa.out)|exact HB.out))):w.heap.size ≤ Ja));have dh:=ja.mk ((by rw [hg];exact (Qa (by repeat (first|(with_reducible first|exact HB.out|apply qa|apply ia|apply ua|refine Aa ?_ Wa.out)|exact HB.out))):w.heap.size ≤ Ja));have Eh:=ja.mk ((by rw [hg];exact Nat.ne_of_lt (Pc (g:=Da) (o:=.cells #[.slice Eb Ta.length Db,.int .i64 Pa,.int .i64 Oa,.int .i64 Ma,.slice yc Ra.length Zb] 30 (0,0)) (by (with_reducible repeat (first|refine Ga ?_ _|refine Ia ?_|refine Fa ?_ _));exact za.out)):Da ≠ Ja));have Kh:=ja.mk ((by rw [hg];exact Nat.ne_of_gt (Pc (g:=Da) (o:=.cells #[.slice Eb Ta.length Db,.int .i64 Pa,.int .i64 Oa,.int .i64 Ma,.slice yc Ra.length Zb] 30 (0,0)) (by (with_reducible repeat (first|refine Ga ?_ _|refine Ia ?_|refine Fa ?_ _));exact za.out)):Ja ≠ Da));clear za HB;have za:=Qb;have HB:=uc;have Ba:=Qc;have Ci:=Td;have Dc:=dh;have qb:=Eh;have mb:=Kh;clear Qb uc Qc Td dh Eh Kh hb Yb hg;have MW:=qb.out;have uW:=mb.out;have FI:xx.cell? ⟨Da,0,none⟩=some (.slice Eb Ta.length Db):=(ga za.out 0).trans rfl;have EI:xx.cell? ⟨Da,1,none⟩=some (.int .i64 Pa):=(ga za.out 1).trans rfl;have DI:xx.cell? ⟨Da,2,none⟩=some (.int .i64 Oa):=(ga za.out 2).trans rfl;have CI:xx.cell? ⟨Da,3,none⟩=some (.int .i64 Ma):=(ga za.out 3).trans rfl;have NP:xx.cell? ⟨Da,4,none⟩=some (.slice yc Ra.length Zb):=(ga za.out 4).trans rfl;have yH:=aa za.out 0;have xH:=aa za.out 1;have wH:=aa za.out 2;have vH:=aa za.out 3;have CO:=aa za.out 4;have zy:xx.cell? ⟨Ja,0,none⟩=some (.slice kg Nd.length Tf):=(ga Ba.out 0).trans rfl;have yy:xx.cell? ⟨Ja,1,none⟩=some (.int .i64 Lb):=(ga Ba.out 1).trans rfl;have xy:xx.cell? ⟨Ja,2,none⟩=some (.int .i64 Rb):=(ga Ba.out 2).trans rfl;have uy:xx.cell? ⟨Ja,3,none⟩=some (.int .i64 Sb):=(ga Ba.out 3).trans rfl;have CC:xx.cell? ⟨Ja,4,none⟩=some (.slice Bs jm.length js):=(ga Ba.out 4).trans rfl;have Tx:=aa Ba.out 0;have Sx:=aa Ba.out 1;have Rx:=aa Ba.out 2;have Qx:=aa Ba.out 3;have PB:=aa Ba.out 4)|((with_reducible refine xb (f:=20) rfl ?_);refine qd (some 9) rfl rfl Try.func20 (by kernel_rfl) rfl #[.slice Eb Ta.length Db,.slice kg Nd.length Tf] rfl (by (try simp only [List.map_toArray,List.map_cons,List.map_nil]);first|done|rfl|(simp only [List.length_drop,List.length_take];rfl)) ?_;(with_reducible refine (Jd.calls k _ _ Ta _ _ Nd true _ ?side1 ?side2 ?side3 ?side4 A3.out).mono ?_);(case side1=>repeat (first|exact (Kd.Mb Uf.out HB.out)|(with_reducible refine Kd.Lc ?_ _)|(with_reducible refine Kd.Jc ?_ _)|(with_reducible refine Kd.Ed ?_)));(case side2=>exact ig.out);(case side3=>repeat (first|exact (Kd.Mb Rm.out HB.out)|(with_reducible refine Kd.Lc ?_ _)|(with_reducible refine Kd.Jc ?_ _)|(with_reducible refine Kd.Ed ?_)));(case side4=>exact Qp.out);rintro e w' ⟨rfl,⟨nd,rfl⟩⟩;refine ⟨_,rfl,?_⟩))
    go_ret
    exact ⟨by first|rfl|(simp [La,Ka] <;> rfl)|(simp [*,La,Ka] <;> rfl),by repeat (first|(with_reducible first|exact HB.out|apply qa|apply ia|apply ua|refine Aa ?_ Wa.out|refine Aa ?_ Dc.out)|exact HB.out)⟩
  ·rw [if_neg c5] at H
   have Ok:(Pa == Lb)=false:=beq_eq_false_iff_ne.mpr c5
   have Yp:(Pa != Lb)=true:=bne_iff_ne.mpr c5
   obtain rfl:=Option.some.inj H
   go_enter Try.func17,Try.ntmps17
   go_wp2_with (first|((with_reducible refine Pb (N:=2) rfl ?_);refine Kb ?hg (N:=2) ?hd (cs:=#[.slice Eb Ta.length Db,.int .i64 Pa,.int .i64 Oa,.int .i64 Ma,.slice yc Ra.length Zb]) (t:=30) ?hr ?_;(case hd=>rfl);(case hg=>rfl);(case hr=>first|(go_simp;done)|(go_simp;rfl));intro Da hg w32 Yb hb;have Qb:=ja.mk (Na (by repeat (first|(with_reducible first|exact HB.out|apply qa|apply ia|apply ua)|exact HB.out)) hb);have uc:=ja.mk (Yb);have Qc:=ja.mk ((by rw [hg];exact (Qa (by repeat (first|(with_reducible first|exact HB.out|apply qa|apply ia|apply ua)|exact HB.out))):w.heap.size ≤ Da));have Td:=ja.mk ((by rw [hg];exact (Qa (by repeat (first|(with_reducible first|exact HB.out|apply qa|apply ia|apply ua)|exact HB.out))):w.heap.size ≤ Da));clear HB;have HB:=Qb;have za:=uc;have Vf:=Qc;have Wa:=Td;clear Qb uc Qc Td hb Yb hg)|((with_reducible refine Pb (N:=3) rfl ?_);refine Kb ?hg (N:=3) ?hd (cs:=#[.slice kg Nd.length Tf,.int .i64 Lb,.int .i64 Rb,.int .i64 Sb,.slice Bs jm.length js]) (t:=30) ?hr ?_;(case hd=>rfl);(case hg=>rfl);(case hr=>first|(go_simp;done)|(go_simp;rfl));intro Ja hg nK Yb hb;have Qb:=ja.mk (Ya (g:=Da) (o:=.cells #[.slice Eb Ta.length Db,.int .i64 Pa,.int .i64 Oa,.int .i64 Ma,.slice yc Ra.length Zb] 30 (0,0)) (by (with_reducible repeat (first|refine Ga ?_ _|refine Ia ?_|refine Fa ?_ _));exact za.out) hb);have uc:=ja.mk (Na (by repeat (first|(with_reducible first|exact HB.out|apply qa|apply ia|apply ua|refine Aa ?_ Wa.out)|exact HB.out)) hb);have Qc:=ja.mk (Yb);have Td:=ja.mk ((by rw [hg];exact (Qa (by repeat (first|(with_reducible first|exact HB.out|apply qa|apply ia|apply ua|refine Aa ?_ Wa.out)|exact HB.out))):w.heap.size ≤ Ja));have dh:=ja.mk ((by rw [hg];exact (Qa (by repeat (first|(with_reducible first|exact HB.out|apply qa|apply ia|apply ua|refine Aa ?_ Wa.out)|exact HB.out))):w.heap.size ≤ Ja));have Eh:=ja.mk ((by rw [hg];exact Nat.ne_of_lt (Pc (g:=Da) (o:=.cells #[.slice Eb Ta.length Db,.int .i64 Pa,.int .i64 Oa,.int .i64 Ma,.slice yc Ra.length Zb] 30 (0,0)) (by (with_reducible repeat (first|refine Ga ?_ _|refine Ia ?_|refine Fa ?_ _));exact za.out)):Da ≠ Ja));have Kh:=ja.mk ((by rw [hg];exact Nat.ne_of_gt (Pc (g:=Da) (o:=.cells #[.slice Eb Ta.length Db,.int .i64 Pa,.int .i64 Oa,.int .i64 Ma,.slice yc Ra.length Zb] 30 (0,0)) (by (with_reducible repeat (first|refine Ga ?_ _|refine Ia ?_|refine Fa ?_ _));exact za.out)):Ja ≠ Da));clear za HB;have za:=Qb;have HB:=uc;have Ba:=Qc;have Ci:=Td;have Dc:=dh;have qb:=Eh;have mb:=Kh;clear Qb uc Qc Td dh Eh Kh hb Yb hg;have JW:=qb.out;have rW:=mb.out;have sy:nK.cell? ⟨Da,0,none⟩=some (.slice Eb Ta.length Db):=(ga za.out 0).trans rfl;have ry:nK.cell? ⟨Da,1,none⟩=some (.int .i64 Pa):=(ga za.out 1).trans rfl;have KP:nK.cell? ⟨Da,2,none⟩=some (.int .i64 Oa):=(ga za.out 2).trans rfl;have JP:nK.cell? ⟨Da,3,none⟩=some (.int .i64 Ma):=(ga za.out 3).trans rfl;have IP:nK.cell? ⟨Da,4,none⟩=some (.slice yc Ra.length Zb):=(ga za.out 4).trans rfl;have Px:=aa za.out 0;have Ox:=aa za.out 1;have zO:=aa za.out 2;have yO:=aa za.out 3;have xO:=aa za.out 4;have Fv:nK.cell? ⟨Ja,0,none⟩=some (.slice kg Nd.length Tf):=(ga Ba.out 0).trans rfl;have Dv:nK.cell? ⟨Ja,1,none⟩=some (.int .i64 Lb):=(ga Ba.out 1).trans rfl;have tI:nK.cell? ⟨Ja,2,none⟩=some (.int .i64 Rb):=(ga Ba.out 2).trans rfl;have sI:nK.cell? ⟨Ja,3,none⟩=some (.int .i64 Sb):=(ga Ba.out 3).trans rfl;have rI:nK.cell? ⟨Ja,4,none⟩=some (.slice Bs jm.length js):=(ga Ba.out 4).trans rfl;have Ou:=aa Ba.out 0;have Nu:=aa Ba.out 1;have nH:=aa Ba.out 2;have mH:=aa Ba.out 3;have lH:=aa Ba.out 4)|((with_reducible refine xb (f:=20) rfl ?_);refine qd (some 9) rfl rfl Try.func20 (by kernel_rfl) rfl #[.slice Eb Ta.length Db,.slice kg Nd.length Tf] rfl (by (try simp only [List.map_toArray,List.map_cons,List.map_nil]);first|done|rfl|(simp only [List.length_drop,List.length_take];rfl)) ?_;(with_reducible refine (Jd.calls k _ _ Ta _ _ Nd true _ ?side1 ?side2 ?side3 ?side4 A3.out).mono ?_);(case side1=>repeat (first|exact (Kd.Mb Uf.out HB.out)|(with_reducible refine Kd.Lc ?_ _)|(with_reducible refine Kd.Jc ?_ _)|(with_reducible refine Kd.Ed ?_)));(case side2=>exact ig.out);(case side3=>repeat (first|exact (Kd.Mb Rm.out HB.out)|(with_reducible refine Kd.Lc ?_ _)|(with_reducible refine Kd.Jc ?_ _)|(with_reducible refine Kd.Ed ?_)));(case side4=>exact Qp.out);rintro e w' ⟨rfl,⟨nd,rfl⟩⟩;refine ⟨_,rfl,?_⟩))
   go_ret
   exact ⟨by first|rfl|(simp [La,Ka] <;> rfl)|(simp [*,La,Ka] <;> rfl),by repeat (first|(with_reducible first|exact HB.out|apply qa|apply ia|apply ua|refine Aa ?_ Wa.out|refine Aa ?_ Dc.out)|exact HB.out)⟩
 ·replace c4:=Bool.eq_false_iff.mpr c4
  subst c4
  have H1:(some false)=some r:=by rw [if_neg (show ¬ (false=true) by decide)] at H;exact H
  clear H
  have H:=H1
  clear H1
  obtain rfl:=Option.some.inj H
  go_enter Try.func17,Try.ntmps17
  go_wp2_with (first|((with_reducible refine Pb (N:=2) rfl ?_);refine Kb ?hg (N:=2) ?hd (cs:=#[.slice Eb Ta.length Db,.int .i64 Pa,.int .i64 Oa,.int .i64 Ma,.slice yc Ra.length Zb]) (t:=30) ?hr ?_;(case hd=>rfl);(case hg=>rfl);(case hr=>first|(go_simp;done)|(go_simp;rfl));intro Da hg w37 Yb hb;have Qb:=ja.mk (Na (by repeat (first|(with_reducible first|exact HB.out|apply qa|apply ia|apply ua)|exact HB.out)) hb);have uc:=ja.mk (Yb);have Qc:=ja.mk ((by rw [hg];exact (Qa (by repeat (first|(with_reducible first|exact HB.out|apply qa|apply ia|apply ua)|exact HB.out))):w.heap.size ≤ Da));have Td:=ja.mk ((by rw [hg];exact (Qa (by repeat (first|(with_reducible first|exact HB.out|apply qa|apply ia|apply ua)|exact HB.out))):w.heap.size ≤ Da));clear HB;have HB:=Qb;have za:=uc;have Vf:=Qc;have Wa:=Td;clear Qb uc Qc Td hb Yb hg)|((with_reducible refine Pb (N:=3) rfl ?_);refine Kb ?hg (N:=3) ?hd (cs:=#[.slice kg Nd.length Tf,.int .i64 Lb,.int .i64 Rb,.int .i64 Sb,.slice Bs jm.length js]) (t:=30) ?hr ?_;(case hd=>rfl);(case hg=>rfl);(case hr=>first|(go_simp;done)|(go_simp;rfl));intro Ja hg Vz Yb hb;have Qb:=ja.mk (Ya (g:=Da) (o:=.cells #[.slice Eb Ta.length Db,.int .i64 Pa,.int .i64 Oa,.int .i64 Ma,.slice yc Ra.length Zb] 30 (0,0)) (by (with_reducible repeat (first|refine Ga ?_ _|refine Ia ?_|refine Fa ?_ _));exact za.out) hb);have uc:=ja.mk (Na (by repeat (first|(with_reducible first|exact HB.out|apply qa|apply ia|apply ua|refine Aa ?_ Wa.out)|exact HB.out)) hb);have Qc:=ja.mk (Yb);have Td:=ja.mk ((by rw [hg];exact (Qa (by repeat (first|(with_reducible first|exact HB.out|apply qa|apply ia|apply ua|refine Aa ?_ Wa.out)|exact HB.out))):w.heap.size ≤ Ja));have dh:=ja.mk ((by rw [hg];exact (Qa (by repeat (first|(with_reducible first|exact HB.out|apply qa|apply ia|apply ua|refine Aa ?_ Wa.out)|exact HB.out))):w.heap.size ≤ Ja));have Eh:=ja.mk ((by rw [hg];exact Nat.ne_of_lt (Pc (g:=Da) (o:=.cells #[.slice Eb Ta.length Db,.int .i64 Pa,.int .i64 Oa,.int .i64 Ma,.slice yc Ra.length Zb] 30 (0,0)) (by (with_reducible repeat (first|refine Ga ?_ _|refine Ia ?_|refine Fa ?_ _));exact za.out)):Da ≠ Ja));have Kh:=ja.mk ((by rw [hg];exact Nat.ne_of_gt (Pc (g:=Da) (o:=.cells #[.slice Eb Ta.length Db,.int .i64 Pa,.int .i64 Oa,.int .i64 Ma,.slice yc Ra.length Zb] 30 (0,0)) (by (with_reducible repeat (first|refine Ga ?_ _|refine Ia ?_|refine Fa ?_ _));exact za.out)):Ja ≠ Da));clear za HB;have za:=Qb;have HB:=uc;have Ba:=Qc;have Ci:=Td;have Dc:=dh;have qb:=Eh;have mb:=Kh;clear Qb uc Qc Td dh Eh Kh hb Yb hg;have XQ:=qb.out;have OQ:=mb.out;have qy:Vz.cell? ⟨Da,0,none⟩=some (.slice Eb Ta.length Db):=(ga za.out 0).trans rfl;have oy:Vz.cell? ⟨Da,1,none⟩=some (.int .i64 Pa):=(ga za.out 1).trans rfl;have ny:Vz.cell? ⟨Da,2,none⟩=some (.int .i64 Oa):=(ga za.out 2).trans rfl;have jy:Vz.cell? ⟨Da,3,none⟩=some (.int .i64 Ma):=(ga za.out 3).trans rfl;have iy:Vz.cell? ⟨Da,4,none⟩=some (.slice yc Ra.length Zb):=(ga za.out 4).trans rfl;have Nx:=aa za.out 0;have Mx:=aa za.out 1;have Lx:=aa za.out 2;have Kx:=aa za.out 3;have Jx:=aa za.out 4;have gy:Vz.cell? ⟨Ja,0,none⟩=some (.slice kg Nd.length Tf):=(ga Ba.out 0).trans rfl;have cy:Vz.cell? ⟨Ja,1,none⟩=some (.int .i64 Lb):=(ga Ba.out 1).trans rfl;have zP:Vz.cell? ⟨Ja,2,none⟩=some (.int .i64 Rb):=(ga Ba.out 2).trans rfl;have yP:Vz.cell? ⟨Ja,3,none⟩=some (.int .i64 Sb):=(ga Ba.out 3).trans rfl;have xP:Vz.cell? ⟨Ja,4,none⟩=some (.slice Bs jm.length js):=(ga Ba.out 4).trans rfl;have Ix:=aa Ba.out 0;have Hx:=aa Ba.out 1;have pO:=aa Ba.out 2;have oO:=aa Ba.out 3;have nO:=aa Ba.out 4)|((with_reducible refine xb (f:=20) rfl ?_);refine qd (some 9) rfl rfl Try.func20 (by kernel_rfl) rfl #[.slice Eb Ta.length Db,.slice kg Nd.length Tf] rfl (by (try simp only [List.map_toArray,List.map_cons,List.map_nil]);first|done|rfl|(simp only [List.length_drop,List.length_take];rfl)) ?_;(with_reducible refine (Jd.calls k _ _ Ta _ _ Nd false _ ?side1 ?side2 ?side3 ?side4 A3.out).mono ?_);(case side1=>repeat (first|exact (Kd.Mb Uf.out HB.out)|(with_reducible refine Kd.Lc ?_ _)|(with_reducible refine Kd.Jc ?_ _)|(with_reducible refine Kd.Ed ?_)));(case side2=>exact ig.out);(case side3=>repeat (first|exact (Kd.Mb Rm.out HB.out)|(with_reducible refine Kd.Lc ?_ _)|(with_reducible refine Kd.Jc ?_ _)|(with_reducible refine Kd.Ed ?_)));(case side4=>exact Qp.out);rintro e w' ⟨rfl,⟨nd,rfl⟩⟩;refine ⟨_,rfl,?_⟩))
  go_ret
  exact ⟨by first|rfl|(simp [La,Ka] <;> rfl)|(simp [*,La,Ka] <;> rfl),by repeat (first|(with_reducible first|exact HB.out|apply qa|apply ia|apply ua|refine Aa ?_ Wa.out|refine Aa ?_ Dc.out)|exact HB.out)⟩
def Md.l0:Nat→List Int→Int→Int→Option (Int × List Int)
 | 0,_,_,_=>none
 | k + 1,x0,x1,x5=>if x5 < (x0.length:Int) then (if 0 ≤ x5 then (Md.l0 k (x0.set (x5:Int).toNat x1) (wrap64 (x1 + 1)) (wrap64 (x5 + 1))) else (none)) else (some (x1,x0))
def Md.f (k:Nat) (l0:List Int) (a1:Int):Option (Int × List Int):=Md.l0 k l0 a1 0
theorem Md.Qd:∀ k,(∀ y0 y1 y2,Nb (Md.l0 k y0 y1 y2) (Md.l0 (k + 1) y0 y1 y2))
 | 0=>fun _ _ _ r h=>by simp [Md.l0] at h
 | k + 1=>by
  have Ff:=Md.Qd k
  ·intro y0 y1 y2
   unfold Md.l0
   repeat' first
   | (with_reducible exact Ff _ _ _)
   | (with_reducible exact Nb.refl _)
   | (with_reducible exact Nb.none _)
   | (with_reducible refine Nb.ite ?_ ?_)
   | (with_reducible refine Nb.bind ?_ (fun _=>?_))
   | exact Ff _ _ _
   | exact Nb.none _
   | refine Nb.ite ?_ ?_
   | refine Nb.bind ?_ (fun _=>?_)
theorem Md.mono:∀ a0 a1 k,Nb (Md.f k a0 a1) (Md.f (k + 1) a0 a1):=by
 intro a0 a1 k
 have Ff:=Md.Qd k
 unfold Md.f
 repeat' first
   | (with_reducible exact Ff _ _ _)
   | (with_reducible exact Nb.refl _)
   | (with_reducible exact Nb.none _)
   | (with_reducible refine Nb.ite ?_ ?_)
   | (with_reducible refine Nb.bind ?_ (fun _=>?_))
   | exact Ff _ _ _
   | exact Nb.none _
   | refine Nb.ite ?_ ?_
   | refine Nb.bind ?_ (fun _=>?_)
theorem Md.calls (k:Nat) (Zj:Nat→Prop) (bh:Value) (l0:List Int) (a1:Int) (r1:Int) (r2:List Int) (w0 w:World) (hB:Below w0.heap.size w0 w) (Am:Kd.R (Kd.int .i64) 3 w w0.heap.size Zj bh l0) (h:Md.f k l0 a1=some (r1,r2)) :
  Calls Try.prog 22 #[bh,.int .i64 a1] w fun e w'=>e = .returned (.int .i64 r1)∧Kd.R (Kd.int .i64) 3 w' w0.heap.size (fun k_=>(Zj k_ ∨ w.heap.size ≤ k_)) bh r2∧Below w0.heap.size w0 w'∧Kept w w' (fun k_=>Zj k_):=by
 have S3:=ja.mk (show Kd.R (Kd.int .i64) 3 w w0.heap.size (fun k_=>(Zj k_ ∨ w.heap.size ≤ k_)) bh l0 from Kd.Hg Am (fun k_ hk=>(.inl hk)))
 have HK:=ja.mk (Kept.refl w (fun k_=>Zj k_))
 have HW0:=ja.mk hB.size
 have HB:=ja.mk hB
 clear hB
 have H:(Md.l0 k l0 a1 0)=some (r1,r2):=h
 clear h
 have H':=ja.mk H
 clear H
 go_enter Try.func22,Try.ntmps22
 go_wp2
 go_loopg [1,5] k (fun kq v1 v5 w'=>∃ (qe:List Int) (Gc:Int) (Ca:Int),v1 = .int .i64 Gc∧v5 = .int .i64 Ca∧ja (Md.l0 kq qe Gc Ca=some (r1,r2))∧ja (kq ≤ k)∧ja (Kd.R (Kd.int .i64) 3 w' w0.heap.size (fun k_=>(Zj k_ ∨ w.heap.size ≤ k_)) bh qe)∧ja (Kept w w' (fun k_=>Zj k_))∧ja (Below w0.heap.size w0 w'))
 case atStart=>exact ⟨(l0),(a1),(0),(by first|rfl|(simp;done)|(simp [*];done)),(by first|rfl|(simp;done)|(simp [*];done)),H',⟨Nat.le_refl _⟩,⟨by (with_reducible repeat (first|apply Kd.Sd|apply Kd.ee|apply Kd.Ie));exact S3.out⟩,⟨by repeat (first|(with_reducible first|exact HK.out|apply Kept.alloc|apply Kept.drewN|apply Kept.drew)|exact HK.out)⟩,⟨by repeat (first|(with_reducible first|exact HB.out|apply qa|apply ia|apply ua)|exact HB.out)⟩⟩
 case round =>
  clear H'
  try clear c2
  try clear p2
  (try clear HA)
  (try clear Ig)
  (try clear Ye)
  (try clear HK)
  (try clear HB)
  obtain ⟨qe,Gc,Ca,rfl,rfl,HA,Ig,Ye,HK,HB⟩:=hrel
  cases gk with
  | zero=>exact absurd HA.out (by simp [Md.l0])
  | succ k1 =>
   have H:=HA.out
   clear HA
   simp only [Md.l0] at H
   by_cases c3:Ca < (qe.length:Int)
   ·rw [if_pos c3] at H
    have Jh:decide (Ca < (qe.length:Int))=true:=decide_eq_true c3
    clear c3
    by_cases c4:0 ≤ Ca
    ·rw [if_pos c4] at H
     have si:decide (0 ≤ Ca)=true:=decide_eq_true c4
     clear c4
     obtain ⟨ef,hy101⟩:∃ y_:List Int,y_=(qe.set (Ca:Int).toNat Gc):=⟨_,rfl⟩
     replace H:(Md.l0 k1 ef (wrap64 (Gc + 1)) (wrap64 (Ca + 1)))=some (r1,r2):=by first|(rw [hy101];with_reducible exact H)|(have Vh:=(Option.bind_some _ _).symm.trans H;rw [hy101];with_reducible exact Vh)|(have Vh:=(Option.bind_some _ _).symm.trans H;with_reducible exact Vh)|with_reducible exact H|(rw [hy101];exact H)|exact H
     have Yj:=ja.mk hy101
     clear hy101
     have H':=ja.mk H
     clear H
     obtain ⟨Ao6,co6,eo6⟩:=Kd.Mf Ye.out
     subst eo6
     have p5:0 ≤ (Ca:Int):=of_decide_eq_true (by first|(with_reducible assumption)|assumption)
     have q5:(Ca:Int) < ((qe.length:Int):Int):=of_decide_eq_true (by first|(with_reducible assumption)|assumption)
     obtain ⟨tf,co5,YM,qR,Y0,cl5,JM⟩:=Kd.Mw Ye.out (by omega)
     (first|cases YM|(injection YM with Lk en_ ec_;(first|subst Lk|(injection Lk with Lk;subst Lk));subst ec_;clear en_))
     have yJ:=ja.mk qR
     have GG5:=ja.mk JM
     clear qR Y0 JM
     have eS:=ja.mk (show (Zj tf ∨ w.heap.size ≤ tf) from (Ye.out.1 _ rfl))
     obtain ⟨JQ,jR⟩:=Kd.jJ 0 Ye.out (Ca:Int) p5 q5
     replace p5:=eq_true p5
     replace q5:=eq_true q5
     have HP7:=Kd.qM Ye.out (Ca:Int) Gc
     go_wp2_with (first|((with_reducible refine Vg (t:=3) (p:=15) rfl ?_);refine Gg (t:=3) (p:=15) (v:=?vo_w8) (w1:=(wr.setCell ⟨tf,(Ca:Int).toNat,none⟩ (.int .i64 Gc))) ?hg ?ho ?hn ?hr ?_;(case ho=>rfl);(case hg=>rfl);(case hn=>rfl);(case hr=>first|(go_simp;done)|(go_simp;rfl));intro w8 hw;have hg:wr.grownBy w8 (some tf):=(by rw [hw];exact HP7.2);have bp:Kd.R (Kd.int .i64) 3 w8 w0.heap.size (fun k_=>(Zj k_ ∨ w.heap.size ≤ k_)) (.slice (some ⟨tf,0,none⟩) qe.length co6) ef:=(by rw [hw,Yj.out];exact HP7.1);clear HP7;have Qb:=ja.mk (bp);have uc:=ja.mk ((by rw [hw];exact Aa (HB.out) yJ.out:Below w0.heap.size w0 w8));have Qc:=ja.mk (Kept.ji (S:=(fun k_=>Zj k_)) hg (by repeat (first|(with_reducible first|exact HK.out|apply Kept.alloc|apply Kept.drewN|apply Kept.drew)|exact HK.out)) (fun k_ e_=>(Ye.out.1 k_ e_)));clear Ye HB HK;have Ye:=Qb;have HB:=uc;have HK:=Qc;clear Qb uc Qc hg hw bp))
     go_roundg k1
     case measure=>have:=Ig.out;omega
     case rel=>exact ⟨(ef),(wrap64 (Gc + 1)),(wrap64 (Ca + 1)),(by first|rfl|(simp;done)|(simp [*];done)),(by first|rfl|(simp;done)|(simp [*];done)),H',⟨by have:=Ig.out;omega⟩,⟨by (with_reducible repeat (first|apply Kd.Sd|apply Kd.ee|apply Kd.Ie));exact Ye.out⟩,⟨by repeat (first|(with_reducible first|exact HK.out|apply Kept.alloc|apply Kept.drewN|apply Kept.drew)|exact HK.out)⟩,⟨by repeat (first|(with_reducible first|exact HB.out|apply qa|apply ia|apply ua)|exact HB.out)⟩⟩
    ·rw [if_neg c4] at H
     exact absurd H (by simp)
   ·rw [if_neg c3] at H
    have Jh:decide (Ca < (qe.length:Int))=false:=decide_eq_false c3
    clear c3
    simp only [Option.some.injEq,Prod.mk.injEq] at H
    obtain ⟨rfl,rfl⟩:=H
    obtain ⟨Ao9,ZL,nV⟩:=Kd.Mf Ye.out
    subst nV
    go_wp2
    go_ret
    exact ⟨by first|rfl|(simp [La,Ka] <;> rfl)|(simp [*,La,Ka] <;> rfl),by (with_reducible repeat (first|apply Kd.Sd|apply Kd.ee|apply Kd.Ie));exact Ye.out,by repeat (first|(with_reducible first|exact HB.out|apply qa|apply ia|apply ua)|exact HB.out),by repeat (first|(with_reducible first|exact HK.out|apply Kept.alloc|apply Kept.drewN|apply Kept.drew)|exact HK.out)⟩
def dc.l0:Nat→Int→ByteArray→Option (ByteArray)
 | 0,_,_=>none
 | k + 1,x0,x3=>if x0 > 0 then ((some (([(wrap64 (48 + (Int.tmod x0 10))) % 256]:List Int):List Int)).bind fun ef=>(if (strOfNums ef).size + x3.size ≤ 9223372036854775807 then (dc.l0 k (wrap64 (Int.tdiv x0 10)) ((strOfNums ef) ++ x3)) else (none))) else (if 1 + x3.size ≤ 9223372036854775807 then (some ((⟨#[109]⟩:ByteArray) ++ x3)) else (none))
def dc.f (k:Nat) (a0:Int):Option (ByteArray):=if a0 ≤ 0 then (some (⟨#[109,48]⟩:ByteArray)) else (dc.l0 k a0 (⟨#[]⟩:ByteArray))
theorem dc.Qd:∀ k,(∀ y0 y1,Nb (dc.l0 k y0 y1) (dc.l0 (k + 1) y0 y1))
 | 0=>fun _ _ r h=>by simp [dc.l0] at h
 | k + 1=>by
  have Ff:=dc.Qd k
  ·intro y0 y1
   unfold dc.l0
   repeat' first
   | (with_reducible exact Ff _ _)
   | (with_reducible exact Nb.refl _)
   | (with_reducible exact Nb.none _)
   | (with_reducible refine Nb.ite ?_ ?_)
   | (with_reducible refine Nb.bind ?_ (fun _=>?_))
   | exact Ff _ _
   | exact Nb.none _
   | refine Nb.ite ?_ ?_
   | refine Nb.bind ?_ (fun _=>?_)
theorem dc.mono:∀ a0 k,Nb (dc.f k a0) (dc.f (k + 1) a0):=by
 intro a0 k
 have Ff:=dc.Qd k
 unfold dc.f
 repeat' first
   | (with_reducible exact Ff _ _)
   | (with_reducible exact Nb.refl _)
   | (with_reducible exact Nb.none _)
   | (with_reducible refine Nb.ite ?_ ?_)
   | (with_reducible refine Nb.bind ?_ (fun _=>?_))
   | exact Ff _ _
   | exact Nb.none _
   | refine Nb.ite ?_ ?_
   | refine Nb.bind ?_ (fun _=>?_)
theorem dc.calls (k:Nat) (a0:Int) (r:ByteArray) (w:World) (h:dc.f k a0=some r) :
  Calls Try.prog 121 #[.int .i64 a0] w fun e w'=>e = .returned (.string r)∧Below w.heap.size w w':=by
 have HB:=ja.mk (Below.refl w.heap.size w)
 have H:(if a0 ≤ 0 then (some (⟨#[109,48]⟩:ByteArray)) else (dc.l0 k a0 (⟨#[]⟩:ByteArray)))=some r:=h
 clear h
 by_cases c2:a0 ≤ 0
 ·rw [if_pos c2] at H
  have nA:decide (a0 ≤ 0)=true:=decide_eq_true c2
  clear c2
  obtain rfl:=Option.some.inj H
  go_enter Try.func121,Try.ntmps121
  go_wp2
  go_ret
  exact ⟨by first|rfl|(simp [La,Ka] <;> rfl)|(simp [*,La,Ka] <;> rfl),by repeat (first|(with_reducible first|exact HB.out|apply qa|apply ia|apply ua)|exact HB.out)⟩
 ·rw [if_neg c2] at H
  have nA:decide (a0 ≤ 0)=false:=decide_eq_false c2
  clear c2
  have H':=ja.mk H
  clear H
  go_enter Try.func121,Try.ntmps121
  go_wp2
  go_loopg [0,3] k (fun kq v0 v3 w'=>∃ (qe:Int) (uf:ByteArray),v0 = .int .i64 qe∧v3 = .string uf∧ja (dc.l0 kq qe uf=some r)∧ja (kq ≤ k)∧ja (Below w.heap.size w w'))
  case atStart=>exact ⟨(a0),((⟨#[]⟩:ByteArray)),(by first|rfl|(simp;done)|(simp [*];done)),(by first|rfl|(simp;done)|(simp [*];done)),H',⟨Nat.le_refl _⟩,⟨by repeat (first|(with_reducible first|exact HB.out|apply qa|apply ia|apply ua)|exact HB.out)⟩⟩
  case round =>
   clear H'
   try clear c1
   try clear c2
   try clear nA
   try clear p2
   (try clear HA)
   (try clear Ig)
   (try clear HB)
   obtain ⟨qe,uf,rfl,rfl,HA,Ig,HB⟩:=hrel
   cases gk with
   | zero=>exact absurd HA.out (by simp [dc.l0])
   | succ k1 =>
    have H:=HA.out
    clear HA
    simp only [dc.l0] at H
    by_cases c3:qe > 0
    ·rw [if_pos c3] at H
     have Jh:decide (0 < qe)=true:=decide_eq_true c3
     clear c3
     obtain ⟨ef,hy101⟩:∃ y_:List Int,y_=(([(wrap64 (48 + (Int.tmod qe 10))) % 256]:List Int)):=⟨_,rfl⟩
     replace H:(if (strOfNums ef).size + uf.size ≤ 9223372036854775807 then (dc.l0 k1 (wrap64 (Int.tdiv qe 10)) ((strOfNums ef) ++ uf)) else (none))=some r:=by first|(rw [hy101];with_reducible exact H)|(have Vh:=(Option.bind_some _ _).symm.trans H;rw [hy101];with_reducible exact Vh)|(have Vh:=(Option.bind_some _ _).symm.trans H;with_reducible exact Vh)|with_reducible exact H|(rw [hy101];exact H)|exact H
     have Yj:=ja.mk hy101
     clear hy101
     by_cases c4:(strOfNums ef).size + uf.size ≤ 9223372036854775807
     ·rw [if_pos c4] at H
      have si:=eq_true c4
      have lE:decide ((strOfNums ef).size + uf.size ≤ 9223372036854775807)=true:=decide_eq_true c4
      try have Fak:(9223372036854775807 < (strOfNums ef).size + uf.size)=False:=eq_false (Nat.not_lt.2 c4)
      have H':=ja.mk H
      clear H
      go_wp2_with (first|((with_reducible refine Pb (N:=12) rfl ?_);refine Kd.JA (Kd.int .u8) _ 5 ?hg (N:=12) ?hd (xs:=([(wrap64 (48 + (Int.tmod qe 10))) % 256]:List Int)) (inner:=[.int .u8 ((wrap64 (48 + (Int.tmod qe 10))) % 256)]) (ok:=fun _=>True) (Xo:=fun _=>True) ?hr ?hp (fun _ hk=>hk) trivial (Below.refl _ _) (Nat.le_refl _) (by simp) ?_;(case hd=>rfl);(case hg=>rfl);(case hr=>first|(go_simp;done)|(go_simp;rfl));(case hp=>exact (Wf.one (show Kd.M (Kd.int .u8) _ _ _ ((wrap64 (48 + (Int.tmod qe 10))) % 256) [.int .u8 ((wrap64 (48 + (Int.tmod qe 10))) % 256)] from rfl) (Wf.none _ _)));intro vD w5 gL hb fF yo;clear fF yo;(first|rw [← Yj.out] at gL|(simp only [Int.reduceToNat] at gL;rw [← Yj.out] at gL));have Qb:=ja.mk (Kd.ri gL (Qa (by repeat (first|(with_reducible first|exact HB.out|apply qa|apply ia|apply ua)|exact HB.out))));have uc:=ja.mk (Na (by repeat (first|(with_reducible first|exact HB.out|apply qa|apply ia|apply ua)|exact HB.out)) hb);clear HB;have vq:=Qb;have HB:=uc;clear Qb uc hb gL;have lak:=WE (P:=Try.prog) Try.underlying177 Try.underlying5 Try.underlying9 (Kd.Zy vq.out)))
      go_roundg k1
      case measure=>have:=Ig.out;omega
      case rel=>exact ⟨(wrap64 (Int.tdiv qe 10)),((strOfNums ef) ++ uf),(by first|rfl|(simp;done)|(simp [*];done)),(by first|rfl|(simp;done)|(simp [*];done)),H',⟨by have:=Ig.out;omega⟩,⟨by repeat (first|(with_reducible first|exact HB.out|apply qa|apply ia|apply ua)|exact HB.out)⟩⟩
     ·rw [if_neg c4] at H
      exact absurd H (by simp)
    ·rw [if_neg c3] at H
     have Jh:decide (0 < qe)=false:=decide_eq_false c3
     clear c3
     by_cases c8:1 + uf.size ≤ 9223372036854775807
     ·rw [if_pos c8] at H
      have Yl:=eq_true c8
      have sq:decide (1 + uf.size ≤ 9223372036854775807)=true:=decide_eq_true c8
      try have Eak:(9223372036854775807 < 1 + uf.size)=False:=eq_false (Nat.not_lt.2 c8)
      obtain rfl:=Option.some.inj H
      go_wp2
      go_ret
      exact ⟨by first|rfl|(simp [La,Ka] <;> rfl)|(simp [*,La,Ka] <;> rfl),by repeat (first|(with_reducible first|exact HB.out|apply qa|apply ia|apply ua)|exact HB.out)⟩
     ·rw [if_neg c8] at H
      exact absurd H (by simp)
def Bc.l0:Nat→List (yf)→Int→Int→Option (Int × (List (yf)))
 | 0,_,_,_=>none
 | k + 1,x0,x1,x5=>if x5 < (x0.length:Int) then (if 0 ≤ x5 then ((some (x0.set (x5:Int).toNat (⟨x1,(Ea x0 x5).f1,(Ea x0 x5).f2,(Ea x0 x5).f3,(Ea x0 x5).f4,(Ea x0 x5).f5,(Ea x0 x5).f6⟩:yf):List (yf))).bind fun ef=>((some (ef.set (x5:Int).toNat (⟨(Ea ef x5).f0,wrap64 (x1 + 1),(Ea ef x5).f2,(Ea ef x5).f3,(Ea ef x5).f4,(Ea ef x5).f5,(Ea ef x5).f6⟩:yf):List (yf))).bind fun bf=>((some (bf.set (x5:Int).toNat (⟨(Ea bf x5).f0,(Ea bf x5).f1,wrap64 ((wrap64 (x1 + 1)) + 1),(Ea bf x5).f3,(Ea bf x5).f4,(Ea bf x5).f5,(Ea bf x5).f6⟩:yf):List (yf))).bind fun lf=>((some (lf.set (x5:Int).toNat (⟨(Ea lf x5).f0,(Ea lf x5).f1,(Ea lf x5).f2,wrap64 ((wrap64 ((wrap64 (x1 + 1)) + 1)) + 1),(Ea lf x5).f4,(Ea lf x5).f5,(Ea lf x5).f6⟩:yf):List (yf))).bind fun lg=>((some (lg.set (x5:Int).toNat (⟨(Ea lg x5).f0,(Ea lg x5).f1,(Ea lg x5).f2,(Ea lg x5).f3,wrap64 ((wrap64 ((wrap64 ((wrap64 (x1 + 1)) + 1)) + 1)) + 1),(Ea lg x5).f5,(Ea lg x5).f6⟩:yf):List (yf))).bind fun Qf=>((some (Qf.set (x5:Int).toNat (⟨(Ea Qf x5).f0,(Ea Qf x5).f1,(Ea Qf x5).f2,(Ea Qf x5).f3,(Ea Qf x5).f4,wrap64 ((wrap64 ((wrap64 ((wrap64 ((wrap64 (x1 + 1)) + 1)) + 1)) + 1)) + 1),(Ea Qf x5).f6⟩:yf):List (yf))).bind fun zf=>((dc.f k (wrap64 ((wrap64 ((wrap64 ((wrap64 ((wrap64 ((wrap64 (x1 + 1)) + 1)) + 1)) + 1)) + 1)) + 1))).bind fun t107=>(Bc.l0 k (zf.set (x5:Int).toNat (⟨(Ea zf x5).f0,(Ea zf x5).f1,(Ea zf x5).f2,(Ea zf x5).f3,(Ea zf x5).f4,(Ea zf x5).f5,t107⟩:yf)) (wrap64 ((wrap64 ((wrap64 ((wrap64 ((wrap64 ((wrap64 ((wrap64 (x1 + 1)) + 1)) + 1)) + 1)) + 1)) + 1)) + 1)) (wrap64 (x5 + 1)))))))))) else (none)) else (some (x1,x0))
def Bc.f (k:Nat) (l0:List (yf)) (a1:Int):Option (Int × (List (yf))):=Bc.l0 k l0 a1 0
theorem Bc.Qd:∀ k,(∀ y0 y1 y2,Nb (Bc.l0 k y0 y1 y2) (Bc.l0 (k + 1) y0 y1 y2))
 | 0=>fun _ _ _ r h=>by simp [Bc.l0] at h
 | k + 1=>by
  have Ff:=Bc.Qd k
  ·intro y0 y1 y2
   unfold Bc.l0
   repeat' first
   | (with_reducible exact Ff _ _ _)
   | (with_reducible exact dc.mono _ _)
   | (with_reducible exact Nb.refl _)
   | (with_reducible exact Nb.none _)
   | (with_reducible refine Nb.ite ?_ ?_)
   | (with_reducible refine Nb.bind ?_ (fun _=>?_))
   | exact Ff _ _ _
   | exact dc.mono _ _
   | exact Nb.none _
   | refine Nb.ite ?_ ?_
   | refine Nb.bind ?_ (fun _=>?_)
theorem Bc.mono:∀ a0 a1 k,Nb (Bc.f k a0 a1) (Bc.f (k + 1) a0 a1):=by
 intro a0 a1 k
 have Ff:=Bc.Qd k
 unfold Bc.f
 repeat' first
   | (with_reducible exact Ff _ _ _)
   | (with_reducible exact dc.mono _ _)
   | (with_reducible exact Nb.refl _)
   | (with_reducible exact Nb.none _)
   | (with_reducible refine Nb.ite ?_ ?_)
   | (with_reducible refine Nb.bind ?_ (fun _=>?_))
   | exact Ff _ _ _
   | exact dc.mono _ _
   | exact Nb.none _
   | refine Nb.ite ?_ ?_
   | refine Nb.bind ?_ (fun _=>?_)
theorem Bc.calls (k:Nat) (Zj:Nat→Prop) (bh:Value) (l0:List (yf)) (a1:Int) (r1:Int) (r2:List (yf)) (w0 w:World) (hB:Below w0.heap.size w0 w) (Am:Kd.R Uj 70 w w0.heap.size Zj bh l0) (h:Bc.f k l0 a1=some (r1,r2)) :
  Calls Try.prog 94 #[bh,.int .i64 a1] w fun e w'=>e = .returned (.int .i64 r1)∧Kd.R Uj 70 w' w0.heap.size (fun k_=>(Zj k_ ∨ w.heap.size ≤ k_)) bh r2∧Below w0.heap.size w0 w'∧Kept w w' (fun k_=>Zj k_):=by
 have S3:=ja.mk (show Kd.R Uj 70 w w0.heap.size (fun k_=>(Zj k_ ∨ w.heap.size ≤ k_)) bh l0 from Kd.Hg Am (fun k_ hk=>(.inl hk)))
 have HK:=ja.mk (Kept.refl w (fun k_=>Zj k_))
 have HW0:=ja.mk hB.size
 have HB:=ja.mk hB
 clear hB
 have H:(Bc.l0 k l0 a1 0)=some (r1,r2):=h
 clear h
 have H':=ja.mk H
 clear H
 go_enter Try.func94,Try.ntmps94
 go_wp2
 go_loopg [1,5] k (fun kq v1 v5 w'=>∃ (qe:List (yf)) (Gc:Int) (Ca:Int),v1 = .int .i64 Gc∧v5 = .int .i64 Ca∧ja (Bc.l0 kq qe Gc Ca=some (r1,r2))∧ja (kq ≤ k)∧ja (Kd.R Uj 70 w' w0.heap.size (fun k_=>(Zj k_ ∨ w.heap.size ≤ k_)) bh qe)∧ja (Kept w w' (fun k_=>Zj k_))∧ja (Below w0.heap.size w0 w'))
 case atStart=>exact ⟨(l0),(a1),(0),(by first|rfl|(simp;done)|(simp [*];done)),(by first|rfl|(simp;done)|(simp [*];done)),H',⟨Nat.le_refl _⟩,⟨by (with_reducible repeat (first|apply Kd.Sd|apply Kd.ee|apply Kd.Ie));exact S3.out⟩,⟨by repeat (first|(with_reducible first|exact HK.out|apply Kept.alloc|apply Kept.drewN|apply Kept.drew)|exact HK.out)⟩,⟨by repeat (first|(with_reducible first|exact HB.out|apply qa|apply ia|apply ua)|exact HB.out)⟩⟩
 case round =>
  clear H'
  try clear p2
  (try clear HA)
  (try clear Ig)
  (try clear Ye)
  (try clear HK)
  (try clear HB)
  obtain ⟨qe,Gc,Ca,rfl,rfl,HA,Ig,Ye,HK,HB⟩:=hrel
  cases gk with
  | zero=>exact absurd HA.out (by simp [Bc.l0])
  | succ k1 =>
   have H:=HA.out
   clear HA
   simp only [Bc.l0] at H
   by_cases c3:Ca < (qe.length:Int)
   ·rw [if_pos c3] at H
    have Jh:decide (Ca < (qe.length:Int))=true:=decide_eq_true c3
    clear c3
    by_cases c4:0 ≤ Ca
    ·rw [if_pos c4] at H
     have si:decide (0 ≤ Ca)=true:=decide_eq_true c4
     clear c4
     obtain ⟨ef,hy101⟩:∃ y_:List (yf),y_=(qe.set (Ca:Int).toNat (⟨Gc,(Ea qe Ca).f1,(Ea qe Ca).f2,(Ea qe Ca).f3,(Ea qe Ca).f4,(Ea qe Ca).f5,(Ea qe Ca).f6⟩:yf)):=⟨_,rfl⟩
     replace H:((some (ef.set (Ca:Int).toNat (⟨(Ea ef Ca).f0,wrap64 (Gc + 1),(Ea ef Ca).f2,(Ea ef Ca).f3,(Ea ef Ca).f4,(Ea ef Ca).f5,(Ea ef Ca).f6⟩:yf):List (yf))).bind fun bf=>((some (bf.set (Ca:Int).toNat (⟨(Ea bf Ca).f0,(Ea bf Ca).f1,wrap64 ((wrap64 (Gc + 1)) + 1),(Ea bf Ca).f3,(Ea bf Ca).f4,(Ea bf Ca).f5,(Ea bf Ca).f6⟩:yf):List (yf))).bind fun lf=>((some (lf.set (Ca:Int).toNat (⟨(Ea lf Ca).f0,(Ea lf Ca).f1,(Ea lf Ca).f2,wrap64 ((wrap64 ((wrap64 (Gc + 1)) + 1)) + 1),(Ea lf Ca).f4,(Ea lf Ca).f5,(Ea lf Ca).f6⟩:yf):List (yf))).bind fun lg=>((some (lg.set (Ca:Int).toNat (⟨(Ea lg Ca).f0,(Ea lg Ca).f1,(Ea lg Ca).f2,(Ea lg Ca).f3,wrap64 ((wrap64 ((wrap64 ((wrap64 (Gc + 1)) + 1)) + 1)) + 1),(Ea lg Ca).f5,(Ea lg Ca).f6⟩:yf):List (yf))).bind fun Qf=>((some (Qf.set (Ca:Int).toNat (⟨(Ea Qf Ca).f0,(Ea Qf Ca).f1,(Ea Qf Ca).f2,(Ea Qf Ca).f3,(Ea Qf Ca).f4,wrap64 ((wrap64 ((wrap64 ((wrap64 ((wrap64 (Gc + 1)) + 1)) + 1)) + 1)) + 1),(Ea Qf Ca).f6⟩:yf):List (yf))).bind fun zf=>((dc.f k1 (wrap64 ((wrap64 ((wrap64 ((wrap64 ((wrap64 ((wrap64 (Gc + 1)) + 1)) + 1)) + 1)) + 1)) + 1))).bind fun t107=>(Bc.l0 k1 (zf.set (Ca:Int).toNat (⟨(Ea zf Ca).f0,(Ea zf Ca).f1,(Ea zf Ca).f2,(Ea zf Ca).f3,(Ea zf Ca).f4,(Ea zf Ca).f5,t107⟩:yf)) (wrap64 ((wrap64 ((wrap64 ((wrap64 ((wrap64 ((wrap64 ((wrap64 (Gc + 1)) + 1)) + 1)) + 1)) + 1)) + 1)) + 1)) (wrap64 (Ca + 1)))))))))=some (r1,r2):=by first|(rw [hy101];with_reducible exact H)|(have Vh:=(Option.bind_some _ _).symm.trans H;rw [hy101];with_reducible exact Vh)|(have Vh:=(Option.bind_some _ _).symm.trans H;with_reducible exact Vh)|with_reducible exact H|(rw [hy101];exact H)|exact H
     have Yj:=ja.mk hy101
     clear hy101
     obtain ⟨bf,hy102⟩:∃ y_:List (yf),y_=(ef.set (Ca:Int).toNat (⟨(Ea ef Ca).f0,wrap64 (Gc + 1),(Ea ef Ca).f2,(Ea ef Ca).f3,(Ea ef Ca).f4,(Ea ef Ca).f5,(Ea ef Ca).f6⟩:yf)):=⟨_,rfl⟩
     replace H:((some (bf.set (Ca:Int).toNat (⟨(Ea bf Ca).f0,(Ea bf Ca).f1,wrap64 ((wrap64 (Gc + 1)) + 1),(Ea bf Ca).f3,(Ea bf Ca).f4,(Ea bf Ca).f5,(Ea bf Ca).f6⟩:yf):List (yf))).bind fun lf=>((some (lf.set (Ca:Int).toNat (⟨(Ea lf Ca).f0,(Ea lf Ca).f1,(Ea lf Ca).f2,wrap64 ((wrap64 ((wrap64 (Gc + 1)) + 1)) + 1),(Ea lf Ca).f4,(Ea lf Ca).f5,(Ea lf Ca).f6⟩:yf):List (yf))).bind fun lg=>((some (lg.set (Ca:Int).toNat (⟨(Ea lg Ca).f0,(Ea lg Ca).f1,(Ea lg Ca).f2,(Ea lg Ca).f3,wrap64 ((wrap64 ((wrap64 ((wrap64 (Gc + 1)) + 1)) + 1)) + 1),(Ea lg Ca).f5,(Ea lg Ca).f6⟩:yf):List (yf))).bind fun Qf=>((some (Qf.set (Ca:Int).toNat (⟨(Ea Qf Ca).f0,(Ea Qf Ca).f1,(Ea Qf Ca).f2,(Ea Qf Ca).f3,(Ea Qf Ca).f4,wrap64 ((wrap64 ((wrap64 ((wrap64 ((wrap64 (Gc + 1)) + 1)) + 1)) + 1)) + 1),(Ea Qf Ca).f6⟩:yf):List (yf))).bind fun zf=>((dc.f k1 (wrap64 ((wrap64 ((wrap64 ((wrap64 ((wrap64 ((wrap64 (Gc + 1)) + 1)) + 1)) + 1)) + 1)) + 1))).bind fun t107=>(Bc.l0 k1 (zf.set (Ca:Int).toNat (⟨(Ea zf Ca).f0,(Ea zf Ca).f1,(Ea zf Ca).f2,(Ea zf Ca).f3,(Ea zf Ca).f4,(Ea zf Ca).f5,t107⟩:yf)) (wrap64 ((wrap64 ((wrap64 ((wrap64 ((wrap64 ((wrap64 ((wrap64 (Gc + 1)) + 1)) + 1)) + 1)) + 1)) + 1)) + 1)) (wrap64 (Ca + 1))))))))=some (r1,r2):=by first|(rw [hy102];with_reducible exact H)|(have Vh:=(Option.bind_some _ _).symm.trans H;rw [hy102];with_reducible exact Vh)|(have Vh:=(Option.bind_some _ _).symm.trans H;with_reducible exact Vh)|with_reducible exact H|(rw [hy102];exact H)|exact H
     have KA:=ja.mk hy102
     clear hy102
     obtain ⟨lf,hy103⟩:∃ y_:List (yf),y_=(bf.set (Ca:Int).toNat (⟨(Ea bf Ca).f0,(Ea bf Ca).f1,wrap64 ((wrap64 (Gc + 1)) + 1),(Ea bf Ca).f3,(Ea bf Ca).f4,(Ea bf Ca).f5,(Ea bf Ca).f6⟩:yf)):=⟨_,rfl⟩
     replace H:((some (lf.set (Ca:Int).toNat (⟨(Ea lf Ca).f0,(Ea lf Ca).f1,(Ea lf Ca).f2,wrap64 ((wrap64 ((wrap64 (Gc + 1)) + 1)) + 1),(Ea lf Ca).f4,(Ea lf Ca).f5,(Ea lf Ca).f6⟩:yf):List (yf))).bind fun lg=>((some (lg.set (Ca:Int).toNat (⟨(Ea lg Ca).f0,(Ea lg Ca).f1,(Ea lg Ca).f2,(Ea lg Ca).f3,wrap64 ((wrap64 ((wrap64 ((wrap64 (Gc + 1)) + 1)) + 1)) + 1),(Ea lg Ca).f5,(Ea lg Ca).f6⟩:yf):List (yf))).bind fun Qf=>((some (Qf.set (Ca:Int).toNat (⟨(Ea Qf Ca).f0,(Ea Qf Ca).f1,(Ea Qf Ca).f2,(Ea Qf Ca).f3,(Ea Qf Ca).f4,wrap64 ((wrap64 ((wrap64 ((wrap64 ((wrap64 (Gc + 1)) + 1)) + 1)) + 1)) + 1),(Ea Qf Ca).f6⟩:yf):List (yf))).bind fun zf=>((dc.f k1 (wrap64 ((wrap64 ((wrap64 ((wrap64 ((wrap64 ((wrap64 (Gc + 1)) + 1)) + 1)) + 1)) + 1)) + 1))).bind fun t107=>(Bc.l0 k1 (zf.set (Ca:Int).toNat (⟨(Ea zf Ca).f0,(Ea zf Ca).f1,(Ea zf Ca).f2,(Ea zf Ca).f3,(Ea zf Ca).f4,(Ea zf Ca).f5,t107⟩:yf)) (wrap64 ((wrap64 ((wrap64 ((wrap64 ((wrap64 ((wrap64 ((wrap64 (Gc + 1)) + 1)) + 1)) + 1)) + 1)) + 1)) + 1)) (wrap64 (Ca + 1)))))))=some (r1,r2):=by first|(rw [hy103];with_reducible exact H)|(have Vh:=(Option.bind_some _ _).symm.trans H;rw [hy103];with_reducible exact Vh)|(have Vh:=(Option.bind_some _ _).symm.trans H;with_reducible exact Vh)|with_reducible exact H|(rw [hy103];exact H)|exact H
     have wM:=ja.mk hy103
     clear hy103
     obtain ⟨lg,hy104⟩:∃ y_:List (yf),y_=(lf.set (Ca:Int).toNat (⟨(Ea lf Ca).f0,(Ea lf Ca).f1,(Ea lf Ca).f2,wrap64 ((wrap64 ((wrap64 (Gc + 1)) + 1)) + 1),(Ea lf Ca).f4,(Ea lf Ca).f5,(Ea lf Ca).f6⟩:yf)):=⟨_,rfl⟩
     replace H:((some (lg.set (Ca:Int).toNat (⟨(Ea lg Ca).f0,(Ea lg Ca).f1,(Ea lg Ca).f2,(Ea lg Ca).f3,wrap64 ((wrap64 ((wrap64 ((wrap64 (Gc + 1)) + 1)) + 1)) + 1),(Ea lg Ca).f5,(Ea lg Ca).f6⟩:yf):List (yf))).bind fun Qf=>((some (Qf.set (Ca:Int).toNat (⟨(Ea Qf Ca).f0,(Ea Qf Ca).f1,(Ea Qf Ca).f2,(Ea Qf Ca).f3,(Ea Qf Ca).f4,wrap64 ((wrap64 ((wrap64 ((wrap64 ((wrap64 (Gc + 1)) + 1)) + 1)) + 1)) + 1),(Ea Qf Ca).f6⟩:yf):List (yf))).bind fun zf=>((dc.f k1 (wrap64 ((wrap64 ((wrap64 ((wrap64 ((wrap64 ((wrap64 (Gc + 1)) + 1)) + 1)) + 1)) + 1)) + 1))).bind fun t107=>(Bc.l0 k1 (zf.set (Ca:Int).toNat (⟨(Ea zf Ca).f0,(Ea zf Ca).f1,(Ea zf Ca).f2,(Ea zf Ca).f3,(Ea zf Ca).f4,(Ea zf Ca).f5,t107⟩:yf)) (wrap64 ((wrap64 ((wrap64 ((wrap64 ((wrap64 ((wrap64 ((wrap64 (Gc + 1)) + 1)) + 1)) + 1)) + 1)) + 1)) + 1)) (wrap64 (Ca + 1))))))=some (r1,r2):=by first|(rw [hy104];with_reducible exact H)|(have Vh:=(Option.bind_some _ _).symm.trans H;rw [hy104];with_reducible exact Vh)|(have Vh:=(Option.bind_some _ _).symm.trans H;with_reducible exact Vh)|with_reducible exact H|(rw [hy104];exact H)|exact H
     have rE:=ja.mk hy104
     clear hy104
     obtain ⟨Qf,hy105⟩:∃ y_:List (yf),y_=(lg.set (Ca:Int).toNat (⟨(Ea lg Ca).f0,(Ea lg Ca).f1,(Ea lg Ca).f2,(Ea lg Ca).f3,wrap64 ((wrap64 ((wrap64 ((wrap64 (Gc + 1)) + 1)) + 1)) + 1),(Ea lg Ca).f5,(Ea lg Ca).f6⟩:yf)):=⟨_,rfl⟩
     replace H:((some (Qf.set (Ca:Int).toNat (⟨(Ea Qf Ca).f0,(Ea Qf Ca).f1,(Ea Qf Ca).f2,(Ea Qf Ca).f3,(Ea Qf Ca).f4,wrap64 ((wrap64 ((wrap64 ((wrap64 ((wrap64 (Gc + 1)) + 1)) + 1)) + 1)) + 1),(Ea Qf Ca).f6⟩:yf):List (yf))).bind fun zf=>((dc.f k1 (wrap64 ((wrap64 ((wrap64 ((wrap64 ((wrap64 ((wrap64 (Gc + 1)) + 1)) + 1)) + 1)) + 1)) + 1))).bind fun t107=>(Bc.l0 k1 (zf.set (Ca:Int).toNat (⟨(Ea zf Ca).f0,(Ea zf Ca).f1,(Ea zf Ca).f2,(Ea zf Ca).f3,(Ea zf Ca).f4,(Ea zf Ca).f5,t107⟩:yf)) (wrap64 ((wrap64 ((wrap64 ((wrap64 ((wrap64 ((wrap64 ((wrap64 (Gc + 1)) + 1)) + 1)) + 1)) + 1)) + 1)) + 1)) (wrap64 (Ca + 1)))))=some (r1,r2):=by first|(rw [hy105];with_reducible exact H)|(have Vh:=(Option.bind_some _ _).symm.trans H;rw [hy105];with_reducible exact Vh)|(have Vh:=(Option.bind_some _ _).symm.trans H;with_reducible exact Vh)|with_reducible exact H|(rw [hy105];exact H)|exact H
     have vM:=ja.mk hy105
     clear hy105
     obtain ⟨zf,hy106⟩:∃ y_:List (yf),y_=(Qf.set (Ca:Int).toNat (⟨(Ea Qf Ca).f0,(Ea Qf Ca).f1,(Ea Qf Ca).f2,(Ea Qf Ca).f3,(Ea Qf Ca).f4,wrap64 ((wrap64 ((wrap64 ((wrap64 ((wrap64 (Gc + 1)) + 1)) + 1)) + 1)) + 1),(Ea Qf Ca).f6⟩:yf)):=⟨_,rfl⟩
     replace H:((dc.f k1 (wrap64 ((wrap64 ((wrap64 ((wrap64 ((wrap64 ((wrap64 (Gc + 1)) + 1)) + 1)) + 1)) + 1)) + 1))).bind fun t107=>(Bc.l0 k1 (zf.set (Ca:Int).toNat (⟨(Ea zf Ca).f0,(Ea zf Ca).f1,(Ea zf Ca).f2,(Ea zf Ca).f3,(Ea zf Ca).f4,(Ea zf Ca).f5,t107⟩:yf)) (wrap64 ((wrap64 ((wrap64 ((wrap64 ((wrap64 ((wrap64 ((wrap64 (Gc + 1)) + 1)) + 1)) + 1)) + 1)) + 1)) + 1)) (wrap64 (Ca + 1))))=some (r1,r2):=by first|(rw [hy106];with_reducible exact H)|(have Vh:=(Option.bind_some _ _).symm.trans H;rw [hy106];with_reducible exact Vh)|(have Vh:=(Option.bind_some _ _).symm.trans H;with_reducible exact Vh)|with_reducible exact H|(rw [hy106];exact H)|exact H
     have Y2:=ja.mk hy106
     clear hy106
     replace H:=Option.bind_eq_some_iff.mp H
     obtain ⟨t107,wE,H⟩:=H
     replace H:(Bc.l0 k1 (zf.set (Ca:Int).toNat (⟨(Ea zf Ca).f0,(Ea zf Ca).f1,(Ea zf Ca).f2,(Ea zf Ca).f3,(Ea zf Ca).f4,(Ea zf Ca).f5,t107⟩:yf)) (wrap64 ((wrap64 ((wrap64 ((wrap64 ((wrap64 ((wrap64 ((wrap64 (Gc + 1)) + 1)) + 1)) + 1)) + 1)) + 1)) + 1)) (wrap64 (Ca + 1)))=some (r1,r2):=H
     have QM:=ja.mk wE
     clear wE
     obtain ⟨y108,hy108⟩:∃ y_:List (yf),y_=(zf.set (Ca:Int).toNat (⟨(Ea zf Ca).f0,(Ea zf Ca).f1,(Ea zf Ca).f2,(Ea zf Ca).f3,(Ea zf Ca).f4,(Ea zf Ca).f5,t107⟩:yf)):=⟨_,rfl⟩
     replace H:(Bc.l0 k1 y108 (wrap64 ((wrap64 ((wrap64 ((wrap64 ((wrap64 ((wrap64 ((wrap64 (Gc + 1)) + 1)) + 1)) + 1)) + 1)) + 1)) + 1)) (wrap64 (Ca + 1)))=some (r1,r2):=by first|(rw [hy108];with_reducible exact H)|(have Vh:=(Option.bind_some _ _).symm.trans H;rw [hy108];with_reducible exact Vh)|(have Vh:=(Option.bind_some _ _).symm.trans H;with_reducible exact Vh)|with_reducible exact H|(rw [hy108];exact H)|exact H
     have kJ:=ja.mk hy108
     clear hy108
     have H':=ja.mk H
     clear H
     obtain ⟨rG,Xp,WT⟩:=Kd.Mf Ye.out
     subst WT
     have p5:0 ≤ (Ca:Int):=of_decide_eq_true (by first|(with_reducible assumption)|assumption)
     have q5:(Ca:Int) < ((qe.length:Int):Int):=of_decide_eq_true (by first|(with_reducible assumption)|assumption)
     obtain ⟨tf,co5,YM,qR,Y0,cl5,JM⟩:=Kd.Mw Ye.out (by omega)
     (first|cases YM|(injection YM with Lk en_ ec_;(first|subst Lk|(injection Lk with Lk;subst Lk));subst ec_;clear en_))
     have yJ:=ja.mk qR
     have GG5:=ja.mk JM
     clear qR Y0 JM
     have eS:=ja.mk (show (Zj tf ∨ w.heap.size ≤ tf) from (Ye.out.1 _ rfl))
     obtain ⟨ce5,MT,Q0,Zv,Av⟩:=Kd.Xg Ye.out Ws (Ca:Int) p5 q5
     obtain rfl:=yh Q0
     have JQ:wr.cell? ⟨tf,(Ca:Int).toNat * 7,none⟩=some (.int .i64 ((Ea qe Ca).f0)):=Zv 0 _ rfl
     have eW:wr.cell? ⟨tf,(Ca:Int).toNat * 7 + 1,none⟩=some (.int .i64 ((Ea qe Ca).f1)):=Zv 1 _ rfl
     have dW:wr.cell? ⟨tf,(Ca:Int).toNat * 7 + 2,none⟩=some (.int .i64 ((Ea qe Ca).f2)):=Zv 2 _ rfl
     have cW:wr.cell? ⟨tf,(Ca:Int).toNat * 7 + 3,none⟩=some (.int .i64 ((Ea qe Ca).f3)):=Zv 3 _ rfl
     have Bag:wr.cell? ⟨tf,(Ca:Int).toNat * 7 + 4,none⟩=some (.int .i64 ((Ea qe Ca).f4)):=Zv 4 _ rfl
     have Aag:wr.cell? ⟨tf,(Ca:Int).toNat * 7 + 5,none⟩=some (.int .i64 ((Ea qe Ca).f5)):=Zv 5 _ rfl
     have zag:wr.cell? ⟨tf,(Ca:Int).toNat * 7 + 6,none⟩=some (.string ((Ea qe Ca).f6)):=Zv 6 _ rfl
     have jR:wr.frozen? ⟨tf,(Ca:Int).toNat * 7,none⟩=false:=Av 0
     have HY:wr.frozen? ⟨tf,(Ca:Int).toNat * 7 + 1,none⟩=false:=Av 1
     have GY:wr.frozen? ⟨tf,(Ca:Int).toNat * 7 + 2,none⟩=false:=Av 2
     have FY:wr.frozen? ⟨tf,(Ca:Int).toNat * 7 + 3,none⟩=false:=Av 3
     have Aai:wr.frozen? ⟨tf,(Ca:Int).toNat * 7 + 4,none⟩=false:=Av 4
     have zai:wr.frozen? ⟨tf,(Ca:Int).toNat * 7 + 5,none⟩=false:=Av 5
     have yai:wr.frozen? ⟨tf,(Ca:Int).toNat * 7 + 6,none⟩=false:=Av 6
     clear MT Zv Av Q0
     replace p5:=eq_true p5
     replace q5:=eq_true q5
     have zM:=ja.mk (show Kd.R Uj 70 wr w0.heap.size (fun k_=>(Zj k_ ∨ w.heap.size ≤ k_)) (.slice (some ⟨tf,0,none⟩) qe.length Xp) qe from (by (with_reducible repeat (first|apply Kd.Sd|apply Kd.ee|apply Kd.Ie));exact Ye.out))
     obtain ⟨Baf,SD,RL,oz,QD⟩:=Kd.Xg zM.out Ws (Ca:Int) (of_decide_eq_true (by first|(with_reducible assumption)|assumption)) (by have h_:(Ca:Int) < ((qe.length:Int):Int):=of_decide_eq_true (by first|(with_reducible assumption)|assumption);first|exact h_|(have e_:=(Kd.Fc Ye.out).1;omega)|simpa using h_)
     obtain rfl:=yh RL
     have nG:=Kd.cm zM.out (Ca:Int) (of_decide_eq_true (by first|(with_reducible assumption)|assumption)) (by have h_:(Ca:Int) < ((qe.length:Int):Int):=of_decide_eq_true (by first|(with_reducible assumption)|assumption);first|exact h_|(have e_:=(Kd.Fc Ye.out).1;omega)|simpa using h_) (seg:=[.int .i64 Gc]) (j:=0) SD oz (show 1 ≤ 7 from by decide) (x':=(⟨Gc,(Ea qe Ca).f1,(Ea qe Ca).f2,(Ea qe Ca).f3,(Ea qe Ca).f4,(Ea qe Ca).f5,(Ea qe Ca).f6⟩:yf)) (Sm _ _ _ (⟨Gc,(Ea qe Ca).f1,(Ea qe Ca).f2,(Ea qe Ca).f3,(Ea qe Ca).f4,(Ea qe Ca).f5,(Ea qe Ca).f6⟩:yf) ) (fun _ hk=>hk)
     have aT:=oz 0 _ rfl
     (try simp only [show (Uj).sz=7 from rfl,Nat.mul_one,Nat.add_zero] at aT)
     have xT:=QD 0
     (try simp only [show (Uj).sz=7 from rfl,Nat.mul_one,Nat.add_zero] at xT)
     clear SD oz QD RL
     go_wp2_with (first|((with_reducible refine Vg (t:=3) (p:=16) rfl ?_);refine Gg (t:=3) (p:=16) (v:=?vo_w15) (w1:=(wr.setCell ⟨tf,(Ca:Int).toNat * 7,none⟩ (.int .i64 Gc))) ?hg ?ho ?hn ?hr ?_;(case ho=>rfl);(case hg=>rfl);(case hn=>rfl);(case hr=>first|(go_simp;done)|(go_simp;rfl));intro Fl hw;have hg:wr.grownBy Fl (some tf):=(by rw [hw];exact nG.2);have bp:Kd.R Uj 70 Fl w0.heap.size (fun k_=>(Zj k_ ∨ w.heap.size ≤ k_)) (.slice (some ⟨tf,0,none⟩) qe.length Xp) ef:=(by rw [hw,Yj.out];exact nG.1);clear nG;have Qb:=ja.mk (bp);have uc:=ja.mk ((by rw [hw];exact Aa (HB.out) yJ.out:Below w0.heap.size w0 Fl));have Qc:=ja.mk (Kept.ji (S:=(fun k_=>Zj k_)) hg (by repeat (first|(with_reducible first|exact HK.out|apply Kept.alloc|apply Kept.drewN|apply Kept.drew)|exact HK.out)) (fun k_ e_=>(Ye.out.1 k_ e_)));clear Ye HB HK;have Ye:=Qb;have HB:=uc;have HK:=Qc;clear Qb uc Qc hg hw bp;have p6:0 ≤ (Ca:Int):=of_decide_eq_true (by first|(with_reducible assumption)|assumption);have q6:(Ca:Int) < ((qe.length:Int):Int):=of_decide_eq_true (by first|(with_reducible assumption)|assumption);obtain ⟨ce6,JT,P0,Yv,wv⟩:=Kd.Xg Ye.out Ws (Ca:Int) p6 q6;obtain rfl:=yh P0;have bW:Fl.cell? ⟨tf,(Ca:Int).toNat * 7,none⟩=some (.int .i64 ((Ea ef Ca).f0)):=Yv 0 _ rfl;have aW:Fl.cell? ⟨tf,(Ca:Int).toNat * 7 + 1,none⟩=some (.int .i64 ((Ea ef Ca).f1)):=Yv 1 _ rfl;have ZV:Fl.cell? ⟨tf,(Ca:Int).toNat * 7 + 2,none⟩=some (.int .i64 ((Ea ef Ca).f2)):=Yv 2 _ rfl;have YV:Fl.cell? ⟨tf,(Ca:Int).toNat * 7 + 3,none⟩=some (.int .i64 ((Ea ef Ca).f3)):=Yv 3 _ rfl;have yag:Fl.cell? ⟨tf,(Ca:Int).toNat * 7 + 4,none⟩=some (.int .i64 ((Ea ef Ca).f4)):=Yv 4 _ rfl;have xag:Fl.cell? ⟨tf,(Ca:Int).toNat * 7 + 5,none⟩=some (.int .i64 ((Ea ef Ca).f5)):=Yv 5 _ rfl;have wag:Fl.cell? ⟨tf,(Ca:Int).toNat * 7 + 6,none⟩=some (.string ((Ea ef Ca).f6)):=Yv 6 _ rfl;have EY:Fl.frozen? ⟨tf,(Ca:Int).toNat * 7,none⟩=false:=wv 0;have DY:Fl.frozen? ⟨tf,(Ca:Int).toNat * 7 + 1,none⟩=false:=wv 1;have CY:Fl.frozen? ⟨tf,(Ca:Int).toNat * 7 + 2,none⟩=false:=wv 2;have AY:Fl.frozen? ⟨tf,(Ca:Int).toNat * 7 + 3,none⟩=false:=wv 3;have xai:Fl.frozen? ⟨tf,(Ca:Int).toNat * 7 + 4,none⟩=false:=wv 4;have wai:Fl.frozen? ⟨tf,(Ca:Int).toNat * 7 + 5,none⟩=false:=wv 5;have vai:Fl.frozen? ⟨tf,(Ca:Int).toNat * 7 + 6,none⟩=false:=wv 6;clear JT Yv wv P0;replace p6:=eq_true p6;replace q6:=eq_true q6;have yM:=ja.mk (show Kd.R Uj 70 Fl w0.heap.size (fun k_=>(Zj k_ ∨ w.heap.size ≤ k_)) (.slice (some ⟨tf,0,none⟩) qe.length Xp) ef from (by (with_reducible repeat (first|apply Kd.Sd|apply Kd.ee|apply Kd.Ie));exact Ye.out));obtain ⟨Aaf,RD,QL,mz,PD⟩:=Kd.Xg yM.out Ws (Ca:Int) (of_decide_eq_true (by first|(with_reducible assumption)|assumption)) (by have h_:(Ca:Int) < ((qe.length:Int):Int):=of_decide_eq_true (by first|(with_reducible assumption)|assumption);first|exact h_|(have e_:=(Kd.Fc Ye.out).1;omega)|simpa using h_);obtain rfl:=yh QL;have mG:=Kd.cm yM.out (Ca:Int) (of_decide_eq_true (by first|(with_reducible assumption)|assumption)) (by have h_:(Ca:Int) < ((qe.length:Int):Int):=of_decide_eq_true (by first|(with_reducible assumption)|assumption);first|exact h_|(have e_:=(Kd.Fc Ye.out).1;omega)|simpa using h_) (seg:=[.int .i64 (wrap64 (Gc + 1))]) (j:=1) RD mz (show 2 ≤ 7 from by decide) (x':=(⟨(Ea ef Ca).f0,wrap64 (Gc + 1),(Ea ef Ca).f2,(Ea ef Ca).f3,(Ea ef Ca).f4,(Ea ef Ca).f5,(Ea ef Ca).f6⟩:yf)) (Sm _ _ _ (⟨(Ea ef Ca).f0,wrap64 (Gc + 1),(Ea ef Ca).f2,(Ea ef Ca).f3,(Ea ef Ca).f4,(Ea ef Ca).f5,(Ea ef Ca).f6⟩:yf) ) (fun _ hk=>hk);have YS:=mz 1 _ rfl;(try simp only [show (Uj).sz=7 from rfl,Nat.mul_one,Nat.add_zero] at YS);have vT:=PD 1;(try simp only [show (Uj).sz=7 from rfl,Nat.mul_one,Nat.add_zero] at vT);clear RD mz PD QL)|((with_reducible refine Vg (t:=3) (p:=23) rfl ?_);refine Gg (t:=3) (p:=23) (v:=?vo_w17) (w1:=(Fl.setCell ⟨tf,(Ca:Int).toNat * 7 + 1,none⟩ (.int .i64 (wrap64 (Gc + 1))))) ?hg ?ho ?hn ?hr ?_;(case ho=>rfl);(case hg=>rfl);(case hn=>rfl);(case hr=>first|(go_simp;done)|(go_simp;rfl));intro Ro hw;have hg:Fl.grownBy Ro (some tf):=(by rw [hw];exact mG.2);have bp:Kd.R Uj 70 Ro w0.heap.size (fun k_=>(Zj k_ ∨ w.heap.size ≤ k_)) (.slice (some ⟨tf,0,none⟩) qe.length Xp) bf:=(by rw [hw,KA.out];exact mG.1);clear mG;have Qb:=ja.mk (bp);have uc:=ja.mk ((by rw [hw];exact Aa (HB.out) yJ.out:Below w0.heap.size w0 Ro));have Qc:=ja.mk (Kept.ji (S:=(fun k_=>Zj k_)) hg (by repeat (first|(with_reducible first|exact HK.out|apply Kept.alloc|apply Kept.drewN|apply Kept.drew)|exact HK.out)) (fun k_ e_=>(Ye.out.1 k_ e_)));clear Ye HB HK;have Ye:=Qb;have HB:=uc;have HK:=Qc;clear Qb uc Qc hg hw bp;have p7:0 ≤ (Ca:Int):=of_decide_eq_true (by first|(with_reducible assumption)|assumption);have q7:(Ca:Int) < ((qe.length:Int):Int):=of_decide_eq_true (by first|(with_reducible assumption)|assumption);obtain ⟨ce7,FT,O0,Xv,vv⟩:=Kd.Xg Ye.out Ws (Ca:Int) p7 q7;obtain rfl:=yh O0;have XV:Ro.cell? ⟨tf,(Ca:Int).toNat * 7,none⟩=some (.int .i64 ((Ea bf Ca).f0)):=Xv 0 _ rfl;have WV:Ro.cell? ⟨tf,(Ca:Int).toNat * 7 + 1,none⟩=some (.int .i64 ((Ea bf Ca).f1)):=Xv 1 _ rfl;have VV:Ro.cell? ⟨tf,(Ca:Int).toNat * 7 + 2,none⟩=some (.int .i64 ((Ea bf Ca).f2)):=Xv 2 _ rfl;have TV:Ro.cell? ⟨tf,(Ca:Int).toNat * 7 + 3,none⟩=some (.int .i64 ((Ea bf Ca).f3)):=Xv 3 _ rfl;have vag:Ro.cell? ⟨tf,(Ca:Int).toNat * 7 + 4,none⟩=some (.int .i64 ((Ea bf Ca).f4)):=Xv 4 _ rfl;have uag:Ro.cell? ⟨tf,(Ca:Int).toNat * 7 + 5,none⟩=some (.int .i64 ((Ea bf Ca).f5)):=Xv 5 _ rfl;have sag:Ro.cell? ⟨tf,(Ca:Int).toNat * 7 + 6,none⟩=some (.string ((Ea bf Ca).f6)):=Xv 6 _ rfl;have zY:Ro.frozen? ⟨tf,(Ca:Int).toNat * 7,none⟩=false:=vv 0;have yY:Ro.frozen? ⟨tf,(Ca:Int).toNat * 7 + 1,none⟩=false:=vv 1;have xY:Ro.frozen? ⟨tf,(Ca:Int).toNat * 7 + 2,none⟩=false:=vv 2;have wY:Ro.frozen? ⟨tf,(Ca:Int).toNat * 7 + 3,none⟩=false:=vv 3;have uai:Ro.frozen? ⟨tf,(Ca:Int).toNat * 7 + 4,none⟩=false:=vv 4;have tai:Ro.frozen? ⟨tf,(Ca:Int).toNat * 7 + 5,none⟩=false:=vv 5;have sai:Ro.frozen? ⟨tf,(Ca:Int).toNat * 7 + 6,none⟩=false:=vv 6;clear FT Xv vv O0;replace p7:=eq_true p7;replace q7:=eq_true q7;have J3:=ja.mk (show Kd.R Uj 70 Ro w0.heap.size (fun k_=>(Zj k_ ∨ w.heap.size ≤ k_)) (.slice (some ⟨tf,0,none⟩) qe.length Xp) bf from (by (with_reducible repeat (first|apply Kd.Sd|apply Kd.ee|apply Kd.Ie));exact Ye.out));obtain ⟨Dak,oR,W0,OL,iR⟩:=Kd.Xg J3.out Ws (Ca:Int) (of_decide_eq_true (by first|(with_reducible assumption)|assumption)) (by have h_:(Ca:Int) < ((qe.length:Int):Int):=of_decide_eq_true (by first|(with_reducible assumption)|assumption);first|exact h_|(have e_:=(Kd.Fc Ye.out).1;omega)|simpa using h_);obtain rfl:=yh W0;have MU:=Kd.cm J3.out (Ca:Int) (of_decide_eq_true (by first|(with_reducible assumption)|assumption)) (by have h_:(Ca:Int) < ((qe.length:Int):Int):=of_decide_eq_true (by first|(with_reducible assumption)|assumption);first|exact h_|(have e_:=(Kd.Fc Ye.out).1;omega)|simpa using h_) (seg:=[.int .i64 (wrap64 ((wrap64 (Gc + 1)) + 1))]) (j:=2) oR OL (show 3 ≤ 7 from by decide) (x':=(⟨(Ea bf Ca).f0,(Ea bf Ca).f1,wrap64 ((wrap64 (Gc + 1)) + 1),(Ea bf Ca).f3,(Ea bf Ca).f4,(Ea bf Ca).f5,(Ea bf Ca).f6⟩:yf)) (Sm _ _ _ (⟨(Ea bf Ca).f0,(Ea bf Ca).f1,wrap64 ((wrap64 (Gc + 1)) + 1),(Ea bf Ca).f3,(Ea bf Ca).f4,(Ea bf Ca).f5,(Ea bf Ca).f6⟩:yf) ) (fun _ hk=>hk);have WS:=OL 2 _ rfl;(try simp only [show (Uj).sz=7 from rfl,Nat.mul_one,Nat.add_zero] at WS);have tT:=iR 2;(try simp only [show (Uj).sz=7 from rfl,Nat.mul_one,Nat.add_zero] at tT);clear oR OL iR W0)|((with_reducible refine Vg (t:=3) (p:=30) rfl ?_);refine Gg (t:=3) (p:=30) (v:=?vo_w19) (w1:=(Ro.setCell ⟨tf,(Ca:Int).toNat * 7 + 2,none⟩ (.int .i64 (wrap64 ((wrap64 (Gc + 1)) + 1))))) ?hg ?ho ?hn ?hr ?_;(case ho=>rfl);(case hg=>rfl);(case hn=>rfl);(case hr=>first|(go_simp;done)|(go_simp;rfl));intro Rz hw;have hg:Ro.grownBy Rz (some tf):=(by rw [hw];exact MU.2);have bp:Kd.R Uj 70 Rz w0.heap.size (fun k_=>(Zj k_ ∨ w.heap.size ≤ k_)) (.slice (some ⟨tf,0,none⟩) qe.length Xp) lf:=(by rw [hw,wM.out];exact MU.1);clear MU;have Qb:=ja.mk (bp);have uc:=ja.mk ((by rw [hw];exact Aa (HB.out) yJ.out:Below w0.heap.size w0 Rz));have Qc:=ja.mk (Kept.ji (S:=(fun k_=>Zj k_)) hg (by repeat (first|(with_reducible first|exact HK.out|apply Kept.alloc|apply Kept.drewN|apply Kept.drew)|exact HK.out)) (fun k_ e_=>(Ye.out.1 k_ e_)));clear Ye HB HK;have Ye:=Qb;have HB:=uc;have HK:=Qc;clear Qb uc Qc hg hw bp;have p8:0 ≤ (Ca:Int):=of_decide_eq_true (by first|(with_reducible assumption)|assumption);have q8:(Ca:Int) < ((qe.length:Int):Int):=of_decide_eq_true (by first|(with_reducible assumption)|assumption);obtain ⟨ce8,ET,N0,Wv,tv⟩:=Kd.Xg Ye.out Ws (Ca:Int) p8 q8;obtain rfl:=yh N0;have SV:Rz.cell? ⟨tf,(Ca:Int).toNat * 7,none⟩=some (.int .i64 ((Ea lf Ca).f0)):=Wv 0 _ rfl;have RV:Rz.cell? ⟨tf,(Ca:Int).toNat * 7 + 1,none⟩=some (.int .i64 ((Ea lf Ca).f1)):=Wv 1 _ rfl;have QV:Rz.cell? ⟨tf,(Ca:Int).toNat * 7 + 2,none⟩=some (.int .i64 ((Ea lf Ca).f2)):=Wv 2 _ rfl;have PV:Rz.cell? ⟨tf,(Ca:Int).toNat * 7 + 3,none⟩=some (.int .i64 ((Ea lf Ca).f3)):=Wv 3 _ rfl;have rag:Rz.cell? ⟨tf,(Ca:Int).toNat * 7 + 4,none⟩=some (.int .i64 ((Ea lf Ca).f4)):=Wv 4 _ rfl;have qag:Rz.cell? ⟨tf,(Ca:Int).toNat * 7 + 5,none⟩=some (.int .i64 ((Ea lf Ca).f5)):=Wv 5 _ rfl;have pag:Rz.cell? ⟨tf,(Ca:Int).toNat * 7 + 6,none⟩=some (.string ((Ea lf Ca).f6)):=Wv 6 _ rfl;have vY:Rz.frozen? ⟨tf,(Ca:Int).toNat * 7,none⟩=false:=tv 0;have uY:Rz.frozen? ⟨tf,(Ca:Int).toNat * 7 + 1,none⟩=false:=tv 1;have sY:Rz.frozen? ⟨tf,(Ca:Int).toNat * 7 + 2,none⟩=false:=tv 2;have rY:Rz.frozen? ⟨tf,(Ca:Int).toNat * 7 + 3,none⟩=false:=tv 3;have rai:Rz.frozen? ⟨tf,(Ca:Int).toNat * 7 + 4,none⟩=false:=tv 4;have qai:Rz.frozen? ⟨tf,(Ca:Int).toNat * 7 + 5,none⟩=false:=tv 5;have pai:Rz.frozen? ⟨tf,(Ca:Int).toNat * 7 + 6,none⟩=false:=tv 6;clear ET Wv tv N0;replace p8:=eq_true p8;replace q8:=eq_true q8;have I3:=ja.mk (show Kd.R Uj 70 Rz w0.heap.size (fun k_=>(Zj k_ ∨ w.heap.size ≤ k_)) (.slice (some ⟨tf,0,none⟩) qe.length Xp) lf from (by (with_reducible repeat (first|apply Kd.Sd|apply Kd.ee|apply Kd.Ie));exact Ye.out));obtain ⟨Cak,nR,V0,NL,gR⟩:=Kd.Xg I3.out Ws (Ca:Int) (of_decide_eq_true (by first|(with_reducible assumption)|assumption)) (by have h_:(Ca:Int) < ((qe.length:Int):Int):=of_decide_eq_true (by first|(with_reducible assumption)|assumption);first|exact h_|(have e_:=(Kd.Fc Ye.out).1;omega)|simpa using h_);obtain rfl:=yh V0;have LU:=Kd.cm I3.out (Ca:Int) (of_decide_eq_true (by first|(with_reducible assumption)|assumption)) (by have h_:(Ca:Int) < ((qe.length:Int):Int):=of_decide_eq_true (by first|(with_reducible assumption)|assumption);first|exact h_|(have e_:=(Kd.Fc Ye.out).1;omega)|simpa using h_) (seg:=[.int .i64 (wrap64 ((wrap64 ((wrap64 (Gc + 1)) + 1)) + 1))]) (j:=3) nR NL (show 4 ≤ 7 from by decide) (x':=(⟨(Ea lf Ca).f0,(Ea lf Ca).f1,(Ea lf Ca).f2,wrap64 ((wrap64 ((wrap64 (Gc + 1)) + 1)) + 1),(Ea lf Ca).f4,(Ea lf Ca).f5,(Ea lf Ca).f6⟩:yf)) (Sm _ _ _ (⟨(Ea lf Ca).f0,(Ea lf Ca).f1,(Ea lf Ca).f2,wrap64 ((wrap64 ((wrap64 (Gc + 1)) + 1)) + 1),(Ea lf Ca).f4,(Ea lf Ca).f5,(Ea lf Ca).f6⟩:yf) ) (fun _ hk=>hk);have VS:=NL 3 _ rfl;(try simp only [show (Uj).sz=7 from rfl,Nat.mul_one,Nat.add_zero] at VS);have rT:=gR 3;(try simp only [show (Uj).sz=7 from rfl,Nat.mul_one,Nat.add_zero] at rT);clear nR NL gR V0)|((with_reducible refine Vg (t:=3) (p:=37) rfl ?_);refine Gg (t:=3) (p:=37) (v:=?vo_w21) (w1:=(Rz.setCell ⟨tf,(Ca:Int).toNat * 7 + 3,none⟩ (.int .i64 (wrap64 ((wrap64 ((wrap64 (Gc + 1)) + 1)) + 1))))) ?hg ?ho ?hn ?hr ?_;(case ho=>rfl);(case hg=>rfl);(case hn=>rfl);(case hr=>first|(go_simp;done)|(go_simp;rfl));intro Cs hw;have hg:Rz.grownBy Cs (some tf):=(by rw [hw];exact LU.2);have bp:Kd.R Uj 70 Cs w0.heap.size (fun k_=>(Zj k_ ∨ w.heap.size ≤ k_)) (.slice (some ⟨tf,0,none⟩) qe.length Xp) lg:=(by rw [hw,rE.out];exact LU.1);clear LU;have Qb:=ja.mk (bp);have uc:=ja.mk ((by rw [hw];exact Aa (HB.out) yJ.out:Below w0.heap.size w0 Cs));have Qc:=ja.mk (Kept.ji (S:=(fun k_=>Zj k_)) hg (by repeat (first|(with_reducible first|exact HK.out|apply Kept.alloc|apply Kept.drewN|apply Kept.drew)|exact HK.out)) (fun k_ e_=>(Ye.out.1 k_ e_)));clear Ye HB HK;have Ye:=Qb;have HB:=uc;have HK:=Qc;clear Qb uc Qc hg hw bp;have p9:0 ≤ (Ca:Int):=of_decide_eq_true (by first|(with_reducible assumption)|assumption);have q9:(Ca:Int) < ((qe.length:Int):Int):=of_decide_eq_true (by first|(with_reducible assumption)|assumption);obtain ⟨ce9,kaf,hM9,TD,OD⟩:=Kd.Xg Ye.out Ws (Ca:Int) p9 q9;obtain rfl:=yh hM9;have OV:Cs.cell? ⟨tf,(Ca:Int).toNat * 7,none⟩=some (.int .i64 ((Ea lg Ca).f0)):=TD 0 _ rfl;have oag:Cs.cell? ⟨tf,(Ca:Int).toNat * 7 + 1,none⟩=some (.int .i64 ((Ea lg Ca).f1)):=TD 1 _ rfl;have nag:Cs.cell? ⟨tf,(Ca:Int).toNat * 7 + 2,none⟩=some (.int .i64 ((Ea lg Ca).f2)):=TD 2 _ rfl;have kag:Cs.cell? ⟨tf,(Ca:Int).toNat * 7 + 3,none⟩=some (.int .i64 ((Ea lg Ca).f3)):=TD 3 _ rfl;have jag:Cs.cell? ⟨tf,(Ca:Int).toNat * 7 + 4,none⟩=some (.int .i64 ((Ea lg Ca).f4)):=TD 4 _ rfl;have iag:Cs.cell? ⟨tf,(Ca:Int).toNat * 7 + 5,none⟩=some (.int .i64 ((Ea lg Ca).f5)):=TD 5 _ rfl;have hag:Cs.cell? ⟨tf,(Ca:Int).toNat * 7 + 6,none⟩=some (.string ((Ea lg Ca).f6)):=TD 6 _ rfl;have qY:Cs.frozen? ⟨tf,(Ca:Int).toNat * 7,none⟩=false:=OD 0;have oai:Cs.frozen? ⟨tf,(Ca:Int).toNat * 7 + 1,none⟩=false:=OD 1;have nai:Cs.frozen? ⟨tf,(Ca:Int).toNat * 7 + 2,none⟩=false:=OD 2;have mai:Cs.frozen? ⟨tf,(Ca:Int).toNat * 7 + 3,none⟩=false:=OD 3;have lai:Cs.frozen? ⟨tf,(Ca:Int).toNat * 7 + 4,none⟩=false:=OD 4;have kai:Cs.frozen? ⟨tf,(Ca:Int).toNat * 7 + 5,none⟩=false:=OD 5;have jai:Cs.frozen? ⟨tf,(Ca:Int).toNat * 7 + 6,none⟩=false:=OD 6;clear kaf TD OD hM9;replace p9:=eq_true p9;replace q9:=eq_true q9;have G3:=ja.mk (show Kd.R Uj 70 Cs w0.heap.size (fun k_=>(Zj k_ ∨ w.heap.size ≤ k_)) (.slice (some ⟨tf,0,none⟩) qe.length Xp) lg from (by (with_reducible repeat (first|apply Kd.Sd|apply Kd.ee|apply Kd.Ie));exact Ye.out));obtain ⟨Bak,mR,U0,ML,fR⟩:=Kd.Xg G3.out Ws (Ca:Int) (of_decide_eq_true (by first|(with_reducible assumption)|assumption)) (by have h_:(Ca:Int) < ((qe.length:Int):Int):=of_decide_eq_true (by first|(with_reducible assumption)|assumption);first|exact h_|(have e_:=(Kd.Fc Ye.out).1;omega)|simpa using h_);obtain rfl:=yh U0;have KU:=Kd.cm G3.out (Ca:Int) (of_decide_eq_true (by first|(with_reducible assumption)|assumption)) (by have h_:(Ca:Int) < ((qe.length:Int):Int):=of_decide_eq_true (by first|(with_reducible assumption)|assumption);first|exact h_|(have e_:=(Kd.Fc Ye.out).1;omega)|simpa using h_) (seg:=[.int .i64 (wrap64 ((wrap64 ((wrap64 ((wrap64 (Gc + 1)) + 1)) + 1)) + 1))]) (j:=4) mR ML (show 5 ≤ 7 from by decide) (x':=(⟨(Ea lg Ca).f0,(Ea lg Ca).f1,(Ea lg Ca).f2,(Ea lg Ca).f3,wrap64 ((wrap64 ((wrap64 ((wrap64 (Gc + 1)) + 1)) + 1)) + 1),(Ea lg Ca).f5,(Ea lg Ca).f6⟩:yf)) (Sm _ _ _ (⟨(Ea lg Ca).f0,(Ea lg Ca).f1,(Ea lg Ca).f2,(Ea lg Ca).f3,wrap64 ((wrap64 ((wrap64 ((wrap64 (Gc + 1)) + 1)) + 1)) + 1),(Ea lg Ca).f5,(Ea lg Ca).f6⟩:yf) ) (fun _ hk=>hk);have US:=ML 4 _ rfl;(try simp only [show (Uj).sz=7 from rfl,Nat.mul_one,Nat.add_zero] at US);have qT:=fR 4;(try simp only [show (Uj).sz=7 from rfl,Nat.mul_one,Nat.add_zero] at qT);clear mR ML fR U0)|((with_reducible refine Vg (t:=3) (p:=44) rfl ?_);refine Gg (t:=3) (p:=44) (v:=?vo_w23) (w1:=(Cs.setCell ⟨tf,(Ca:Int).toNat * 7 + 4,none⟩ (.int .i64 (wrap64 ((wrap64 ((wrap64 ((wrap64 (Gc + 1)) + 1)) + 1)) + 1))))) ?hg ?ho ?hn ?hr ?_;(case ho=>rfl);(case hg=>rfl);(case hn=>rfl);(case hr=>first|(go_simp;done)|(go_simp;rfl));intro xq hw;have hg:Cs.grownBy xq (some tf):=(by rw [hw];exact KU.2);have bp:Kd.R Uj 70 xq w0.heap.size (fun k_=>(Zj k_ ∨ w.heap.size ≤ k_)) (.slice (some ⟨tf,0,none⟩) qe.length Xp) Qf:=(by rw [hw,vM.out];exact KU.1);clear KU;have Qb:=ja.mk (bp);have uc:=ja.mk ((by rw [hw];exact Aa (HB.out) yJ.out:Below w0.heap.size w0 xq));have Qc:=ja.mk (Kept.ji (S:=(fun k_=>Zj k_)) hg (by repeat (first|(with_reducible first|exact HK.out|apply Kept.alloc|apply Kept.drewN|apply Kept.drew)|exact HK.out)) (fun k_ e_=>(Ye.out.1 k_ e_)));clear Ye HB HK;have Ye:=Qb;have HB:=uc;have HK:=Qc;clear Qb uc Qc hg hw bp;have CG:0 ≤ (Ca:Int):=of_decide_eq_true (by first|(with_reducible assumption)|assumption);have BG:(Ca:Int) < ((qe.length:Int):Int):=of_decide_eq_true (by first|(with_reducible assumption)|assumption);obtain ⟨ZT,Yw,qz,Si,fj⟩:=Kd.Xg Ye.out Ws (Ca:Int) CG BG;obtain rfl:=yh qz;have uB:xq.cell? ⟨tf,(Ca:Int).toNat * 7,none⟩=some (.int .i64 ((Ea Qf Ca).f0)):=Si 0 _ rfl;have cL:xq.cell? ⟨tf,(Ca:Int).toNat * 7 + 1,none⟩=some (.int .i64 ((Ea Qf Ca).f1)):=Si 1 _ rfl;have bL:xq.cell? ⟨tf,(Ca:Int).toNat * 7 + 2,none⟩=some (.int .i64 ((Ea Qf Ca).f2)):=Si 2 _ rfl;have ZK:xq.cell? ⟨tf,(Ca:Int).toNat * 7 + 3,none⟩=some (.int .i64 ((Ea Qf Ca).f3)):=Si 3 _ rfl;have YK:xq.cell? ⟨tf,(Ca:Int).toNat * 7 + 4,none⟩=some (.int .i64 ((Ea Qf Ca).f4)):=Si 4 _ rfl;have cT:xq.cell? ⟨tf,(Ca:Int).toNat * 7 + 5,none⟩=some (.int .i64 ((Ea Qf Ca).f5)):=Si 5 _ rfl;have bT:xq.cell? ⟨tf,(Ca:Int).toNat * 7 + 6,none⟩=some (.string ((Ea Qf Ca).f6)):=Si 6 _ rfl;have kC:xq.frozen? ⟨tf,(Ca:Int).toNat * 7,none⟩=false:=fj 0;have CL:xq.frozen? ⟨tf,(Ca:Int).toNat * 7 + 1,none⟩=false:=fj 1;have BL:xq.frozen? ⟨tf,(Ca:Int).toNat * 7 + 2,none⟩=false:=fj 2;have AL:xq.frozen? ⟨tf,(Ca:Int).toNat * 7 + 3,none⟩=false:=fj 3;have zL:xq.frozen? ⟨tf,(Ca:Int).toNat * 7 + 4,none⟩=false:=fj 4;have zT:xq.frozen? ⟨tf,(Ca:Int).toNat * 7 + 5,none⟩=false:=fj 5;have yT:xq.frozen? ⟨tf,(Ca:Int).toNat * 7 + 6,none⟩=false:=fj 6;clear Yw Si fj qz;replace CG:=eq_true CG;replace BG:=eq_true BG;have F3:=ja.mk (show Kd.R Uj 70 xq w0.heap.size (fun k_=>(Zj k_ ∨ w.heap.size ≤ k_)) (.slice (some ⟨tf,0,none⟩) qe.length Xp) Qf from (by (with_reducible repeat (first|apply Kd.Sd|apply Kd.ee|apply Kd.Ie));exact Ye.out));obtain ⟨Aak,lR,S0,LL,eR⟩:=Kd.Xg F3.out Ws (Ca:Int) (of_decide_eq_true (by first|(with_reducible assumption)|assumption)) (by have h_:(Ca:Int) < ((qe.length:Int):Int):=of_decide_eq_true (by first|(with_reducible assumption)|assumption);first|exact h_|(have e_:=(Kd.Fc Ye.out).1;omega)|simpa using h_);obtain rfl:=yh S0;have JU:=Kd.cm F3.out (Ca:Int) (of_decide_eq_true (by first|(with_reducible assumption)|assumption)) (by have h_:(Ca:Int) < ((qe.length:Int):Int):=of_decide_eq_true (by first|(with_reducible assumption)|assumption);first|exact h_|(have e_:=(Kd.Fc Ye.out).1;omega)|simpa using h_) (seg:=[.int .i64 (wrap64 ((wrap64 ((wrap64 ((wrap64 ((wrap64 (Gc + 1)) + 1)) + 1)) + 1)) + 1))]) (j:=5) lR LL (show 6 ≤ 7 from by decide) (x':=(⟨(Ea Qf Ca).f0,(Ea Qf Ca).f1,(Ea Qf Ca).f2,(Ea Qf Ca).f3,(Ea Qf Ca).f4,wrap64 ((wrap64 ((wrap64 ((wrap64 ((wrap64 (Gc + 1)) + 1)) + 1)) + 1)) + 1),(Ea Qf Ca).f6⟩:yf)) (Sm _ _ _ (⟨(Ea Qf Ca).f0,(Ea Qf Ca).f1,(Ea Qf Ca).f2,(Ea Qf Ca).f3,(Ea Qf Ca).f4,wrap64 ((wrap64 ((wrap64 ((wrap64 ((wrap64 (Gc + 1)) + 1)) + 1)) + 1)) + 1),(Ea Qf Ca).f6⟩:yf) ) (fun _ hk=>hk);have TS:=LL 5 _ rfl;(try simp only [show (Uj).sz=7 from rfl,Nat.mul_one,Nat.add_zero] at TS);have pT:=eR 5;(try simp only [show (Uj).sz=7 from rfl,Nat.mul_one,Nat.add_zero] at pT);clear lR LL eR S0)|((with_reducible refine Vg (t:=3) (p:=51) rfl ?_);refine Gg (t:=3) (p:=51) (v:=?vo_w25) (w1:=(xq.setCell ⟨tf,(Ca:Int).toNat * 7 + 5,none⟩ (.int .i64 (wrap64 ((wrap64 ((wrap64 ((wrap64 ((wrap64 (Gc + 1)) + 1)) + 1)) + 1)) + 1))))) ?hg ?ho ?hn ?hr ?_;(case ho=>rfl);(case hg=>rfl);(case hn=>rfl);(case hr=>first|(go_simp;done)|(go_simp;rfl));intro yV hw;have hg:xq.grownBy yV (some tf):=(by rw [hw];exact JU.2);have bp:Kd.R Uj 70 yV w0.heap.size (fun k_=>(Zj k_ ∨ w.heap.size ≤ k_)) (.slice (some ⟨tf,0,none⟩) qe.length Xp) zf:=(by rw [hw,Y2.out];exact JU.1);clear JU;have Qb:=ja.mk (bp);have uc:=ja.mk ((by rw [hw];exact Aa (HB.out) yJ.out:Below w0.heap.size w0 yV));have Qc:=ja.mk (Kept.ji (S:=(fun k_=>Zj k_)) hg (by repeat (first|(with_reducible first|exact HK.out|apply Kept.alloc|apply Kept.drewN|apply Kept.drew)|exact HK.out)) (fun k_ e_=>(Ye.out.1 k_ e_)));clear Ye HB HK;have Ye:=Qb;have HB:=uc;have HK:=Qc;clear Qb uc Qc hg hw bp)|((with_reducible refine xb (f:=121) rfl ?_);refine qd (some 57) rfl rfl Try.func121 (by kernel_rfl) rfl #[.int .i64 (wrap64 ((wrap64 ((wrap64 ((wrap64 ((wrap64 ((wrap64 (Gc + 1)) + 1)) + 1)) + 1)) + 1)) + 1))] rfl (by (try simp only [List.map_toArray,List.map_cons,List.map_nil]);first|done|rfl|(simp only [List.length_drop,List.length_take];rfl)) ?_;(with_reducible refine (dc.calls k1 (wrap64 ((wrap64 ((wrap64 ((wrap64 ((wrap64 ((wrap64 (Gc + 1)) + 1)) + 1)) + 1)) + 1)) + 1)) t107 _ QM.out).mono ?_);rintro e Rp ⟨rfl,hb⟩;refine ⟨_,rfl,?_⟩;have Qb:=ja.mk (Kd.Ue (by (with_reducible repeat (first|apply Kd.Sd|apply Kd.ee|apply Kd.Ie));exact Ye.out) hb);have uc:=ja.mk (Kept.below (S:=(fun k_=>Zj k_)) (by repeat (first|(with_reducible first|exact HK.out|apply Kept.alloc|apply Kept.drewN|apply Kept.drew)|exact HK.out)) hb);have Qc:=ja.mk (Na (by repeat (first|(with_reducible first|exact HB.out|apply qa|apply ia|apply ua)|exact HB.out)) hb);clear Ye HK HB;have Ye:=Qb;have HK:=uc;have HB:=Qc;clear Qb uc Qc;(try clear hb);(try clear hb2);(try clear hk);(try clear hi);have p12:0 ≤ (Ca:Int):=of_decide_eq_true (by first|(with_reducible assumption)|assumption);have q12:(Ca:Int) < ((qe.length:Int):Int):=of_decide_eq_true (by first|(with_reducible assumption)|assumption);obtain ⟨YT,Vv,pz,Ki,ej⟩:=Kd.Xg Ye.out Ws (Ca:Int) p12 q12;obtain rfl:=yh pz;have dB:Rp.cell? ⟨tf,(Ca:Int).toNat * 7,none⟩=some (.int .i64 ((Ea zf Ca).f0)):=Ki 0 _ rfl;have Cw:Rp.cell? ⟨tf,(Ca:Int).toNat * 7 + 1,none⟩=some (.int .i64 ((Ea zf Ca).f1)):=Ki 1 _ rfl;have cB:Rp.cell? ⟨tf,(Ca:Int).toNat * 7 + 2,none⟩=some (.int .i64 ((Ea zf Ca).f2)):=Ki 2 _ rfl;have ZA:Rp.cell? ⟨tf,(Ca:Int).toNat * 7 + 3,none⟩=some (.int .i64 ((Ea zf Ca).f3)):=Ki 3 _ rfl;have YA:Rp.cell? ⟨tf,(Ca:Int).toNat * 7 + 4,none⟩=some (.int .i64 ((Ea zf Ca).f4)):=Ki 4 _ rfl;have XK:Rp.cell? ⟨tf,(Ca:Int).toNat * 7 + 5,none⟩=some (.int .i64 ((Ea zf Ca).f5)):=Ki 5 _ rfl;have WK:Rp.cell? ⟨tf,(Ca:Int).toNat * 7 + 6,none⟩=some (.string ((Ea zf Ca).f6)):=Ki 6 _ rfl;have jC:Rp.frozen? ⟨tf,(Ca:Int).toNat * 7,none⟩=false:=ej 0;have Dw:Rp.frozen? ⟨tf,(Ca:Int).toNat * 7 + 1,none⟩=false:=ej 1;have iC:Rp.frozen? ⟨tf,(Ca:Int).toNat * 7 + 2,none⟩=false:=ej 2;have gC:Rp.frozen? ⟨tf,(Ca:Int).toNat * 7 + 3,none⟩=false:=ej 3;have fC:Rp.frozen? ⟨tf,(Ca:Int).toNat * 7 + 4,none⟩=false:=ej 4;have yL:Rp.frozen? ⟨tf,(Ca:Int).toNat * 7 + 5,none⟩=false:=ej 5;have xL:Rp.frozen? ⟨tf,(Ca:Int).toNat * 7 + 6,none⟩=false:=ej 6;clear Vv Ki ej pz;replace p12:=eq_true p12;replace q12:=eq_true q12;have E3:=ja.mk (show Kd.R Uj 70 Rp w0.heap.size (fun k_=>(Zj k_ ∨ w.heap.size ≤ k_)) (.slice (some ⟨tf,0,none⟩) qe.length Xp) zf from (by (with_reducible repeat (first|apply Kd.Sd|apply Kd.ee|apply Kd.Ie));exact Ye.out));obtain ⟨zak,kR,R0,KL,dR⟩:=Kd.Xg E3.out Ws (Ca:Int) (of_decide_eq_true (by first|(with_reducible assumption)|assumption)) (by have h_:(Ca:Int) < ((qe.length:Int):Int):=of_decide_eq_true (by first|(with_reducible assumption)|assumption);first|exact h_|(have e_:=(Kd.Fc Ye.out).1;omega)|simpa using h_);obtain rfl:=yh R0;have IU:=Kd.cm E3.out (Ca:Int) (of_decide_eq_true (by first|(with_reducible assumption)|assumption)) (by have h_:(Ca:Int) < ((qe.length:Int):Int):=of_decide_eq_true (by first|(with_reducible assumption)|assumption);first|exact h_|(have e_:=(Kd.Fc Ye.out).1;omega)|simpa using h_) (seg:=[.string t107]) (j:=6) kR KL (show 7 ≤ 7 from by decide) (x':=(⟨(Ea zf Ca).f0,(Ea zf Ca).f1,(Ea zf Ca).f2,(Ea zf Ca).f3,(Ea zf Ca).f4,(Ea zf Ca).f5,t107⟩:yf)) (Sm _ _ _ (⟨(Ea zf Ca).f0,(Ea zf Ca).f1,(Ea zf Ca).f2,(Ea zf Ca).f3,(Ea zf Ca).f4,(Ea zf Ca).f5,t107⟩:yf) ) (fun _ hk=>hk);have SS:=KL 6 _ rfl;(try simp only [show (Uj).sz=7 from rfl,Nat.mul_one,Nat.add_zero] at SS);have oT:=dR 6;(try simp only [show (Uj).sz=7 from rfl,Nat.mul_one,Nat.add_zero] at oT);clear kR KL dR R0)|((with_reducible refine Vg (t:=9) (p:=59) rfl ?_);refine Gg (t:=9) (p:=59) (v:=?vo_w28) (w1:=(Rp.setCell ⟨tf,(Ca:Int).toNat * 7 + 6,none⟩ (.string t107))) ?hg ?ho ?hn ?hr ?_;(case ho=>rfl);(case hg=>rfl);(case hn=>rfl);(case hr=>first|(go_simp;done)|(go_simp;rfl));intro xx hw;have hg:Rp.grownBy xx (some tf):=(by rw [hw];exact IU.2);have bp:Kd.R Uj 70 xx w0.heap.size (fun k_=>(Zj k_ ∨ w.heap.size ≤ k_)) (.slice (some ⟨tf,0,none⟩) qe.length Xp) y108:=(by rw [hw,kJ.out];exact IU.1);clear IU;have Qb:=ja.mk (bp);have uc:=ja.mk ((by rw [hw];exact Aa (HB.out) yJ.out:Below w0.heap.size w0 xx));have Qc:=ja.mk (Kept.ji (S:=(fun k_=>Zj k_)) hg (by repeat (first|(with_reducible first|exact HK.out|apply Kept.alloc|apply Kept.drewN|apply Kept.drew)|exact HK.out)) (fun k_ e_=>(Ye.out.1 k_ e_)));clear Ye HB HK;have Ye:=Qb;have HB:=uc;have HK:=Qc;clear Qb uc Qc hg hw bp))
     go_roundg k1
     case measure=>have:=Ig.out;omega
     case rel=>exact ⟨(y108),(wrap64 ((wrap64 ((wrap64 ((wrap64 ((wrap64 ((wrap64 ((wrap64 (Gc + 1)) + 1)) + 1)) + 1)) + 1)) + 1)) + 1)),(wrap64 (Ca + 1)),(by first|rfl|(simp;done)|(simp [*];done)),(by first|rfl|(simp;done)|(simp [*];done)),H',⟨by have:=Ig.out;omega⟩,⟨by (with_reducible repeat (first|apply Kd.Sd|apply Kd.ee|apply Kd.Ie));exact Ye.out⟩,⟨by repeat (first|(with_reducible first|exact HK.out|apply Kept.alloc|apply Kept.drewN|apply Kept.drew)|exact HK.out)⟩,⟨by repeat (first|(with_reducible first|exact HB.out|apply qa|apply ia|apply ua)|exact HB.out)⟩⟩
    ·rw [if_neg c4] at H
     exact absurd H (by simp)
   ·rw [if_neg c3] at H
    have Jh:decide (Ca < (qe.length:Int))=false:=decide_eq_false c3
    clear c3
    simp only [Option.some.injEq,Prod.mk.injEq] at H
    obtain ⟨rfl,rfl⟩:=H
    obtain ⟨lal,tak,saf⟩:=Kd.Mf Ye.out
    subst saf
    go_wp2
    go_ret
    exact ⟨by first|rfl|(simp [La,Ka] <;> rfl)|(simp [*,La,Ka] <;> rfl),by (with_reducible repeat (first|apply Kd.Sd|apply Kd.ee|apply Kd.Ie));exact Ye.out,by repeat (first|(with_reducible first|exact HB.out|apply qa|apply ia|apply ua)|exact HB.out),by repeat (first|(with_reducible first|exact HK.out|apply Kept.alloc|apply Kept.drewN|apply Kept.drew)|exact HK.out)⟩
def Ve.f (k:Nat):List Dh→Int→Option (Int × List Dh)
 | [],a=>some (a,[])
 | x :: l,a=>(Bc.f k x.f0 a).bind fun t=>(Ve.f k l (wrap64 (wrap64 (wrap64 (wrap64 (t.1 + 1) + 1) + 1) + 1))).bind fun u=>some (u.1,⟨t.2,t.1,wrap64 (t.1 + 1),wrap64 (wrap64 (t.1 + 1) + 1),wrap64 (wrap64 (wrap64 (t.1 + 1) + 1) + 1)⟩ :: u.2)
theorem Ve.mono:∀ a0 a1 k,Nb (Ve.f k a0 a1) (Ve.f (k + 1) a0 a1):=by
 intro a0
 induction a0 with
 | nil=>intro a1 k;exact Nb.refl _
 | cons x l ih =>
  intro a1 k
  unfold Ve.f
  exact Nb.bind (Bc.mono _ _ _) (fun _=>Nb.bind (ih _ _) (fun _=>Nb.refl _))
theorem nN {α:Type} {done l:List α} {j:Nat} (x y:α) (h:done.length=j):(done ++ x :: l).set j y=(done ++ [y]) ++ l:=by
 subst h
 rw [List.set_append_right _ _ (Nat.le_refl _),Nat.sub_self,List.set_cons_zero,List.append_assoc]
 rfl
theorem Ve.calls (k:Nat) (Zj:Nat→Prop) (bh:Value) (l0:List Dh) (a1:Int) (r1:Int) (r2:List Dh) (w0 w:World) (hB:Below w0.heap.size w0 w) (Am:Kd.S Tp 68 w w0.heap.size Zj bh l0) (h:Ve.f k l0 a1=some (r1,r2)) :
  Calls Try.prog 62 #[bh,.int .i64 a1] w fun e w'=>e = .returned (.int .i64 r1)∧Kd.S Tp 68 w' w0.heap.size (fun k_=>(Zj k_ ∨ w.heap.size ≤ k_)) bh r2∧Below w0.heap.size w0 w'∧Kept w w' (fun k_=>Zj k_):=by
 obtain ⟨A,c,rfl,nu,hC⟩:=Kd.dQ Am
 have hm:=hC.2.1
 have HS:=ja.mk (Kd.su Am (ok':=fun k_=>Zj k_ ∨ w.heap.size ≤ k_) (fun k_ hk=>.inl hk))
 have HB:=ja.mk hB
 have HK:=ja.mk (Kept.refl w (fun k_=>Zj k_))
 have HH:=ja.mk h
 clear Am hC hB h
 go_enter Try.func62,Try.ntmps62
 go_wp2
 go_loopg [1,5] l0.length (fun gg v1 v5 wr=>∃ (j:Nat) (a:Int) (done rest:List Dh),j ≤ l0.length∧l0.length - j ≤ gg∧v1 = .int .i64 a∧v5 = .int .i64 j∧ja (done.length=j∧Ve.f k (l0.drop j) a=some (r1,rest)∧r2=done ++ rest)∧ja (Kd.S Tp 68 wr w0.heap.size (fun k_=>Zj k_ ∨ w.heap.size ≤ k_) (.slice A l0.length c) (done ++ l0.drop j))∧ja (Below w0.heap.size w0 wr)∧ja (Kept w wr (fun k_=>Zj k_)))
 case atStart=>exact ⟨0,a1,[],r2,Nat.zero_le _,by omega,rfl,rfl,⟨rfl,by simpa using HH.out,rfl⟩,⟨by simpa using HS.out⟩,HB,HK⟩
 case round =>
  clear HS HB HK HH
  (try clear HD)
  (try clear HS)
  (try clear HB)
  (try clear HK)
  obtain ⟨j,a,done,rest,hj,hg,rfl,rfl,HD,HS,HB,HK⟩:=hrel
  by_cases hlt:j < l0.length
  ·have wB:decide ((j:Int) < (l0.length:Int))=true:=decide_eq_true (by omega)
   obtain ⟨d1,d2,d3⟩:=HD.out
   have SH:l0.drop j=l0[j] :: l0.drop (j + 1):=List.drop_eq_getElem_cons hlt
   rw [SH] at d2
   unfold Ve.f at d2
   obtain ⟨⟨a2,kE⟩,t1,d2⟩:=Option.bind_eq_some_iff.mp d2
   obtain ⟨⟨r1',rest'⟩,u1,d2⟩:=Option.bind_eq_some_iff.mp d2
   obtain ⟨rfl,rfl⟩:r1' = r1∧(⟨kE,a2,wrap64 (a2 + 1),wrap64 (wrap64 (a2 + 1) + 1),wrap64 (wrap64 (wrap64 (a2 + 1) + 1) + 1)⟩:Dh) :: rest' = rest:=by
    have:=Option.some.inj d2
    exact ⟨congrArg Prod.fst this,congrArg Prod.snd this⟩
   have hlen:(done ++ l0.drop j).length=l0.length:=by rw [List.length_append,List.length_drop,d1];omega
   obtain ⟨g,cap,e1,hbg,HN,cells,hcells⟩:=Kd.oM HS.out (by rw [hlen];omega)
   obtain rfl:A=some ⟨g,0,none⟩:=by injection e1
   clear e1
   have jW:=(Kd.ER HS.out).1 g rfl
   obtain ⟨Aq,cs,hcs,hM,yq,fA,EN,hH⟩:=Kd.eG HS.out lD (j:Int) (by omega) (by omega)
   have hx:(done ++ l0.drop j).getD (Int.toNat (j:Int)) lD=l0[j]:=by
    rw [SH,Int.toNat_natCast,List.getD_eq_getElem?_getD,List.getElem?_append_right (by omega),d1]
    simp [List.getElem?_eq_getElem hlt]
   rw [hx] at hM
   obtain ⟨v0,rfl,hR⟩:=Bw hM
   obtain ⟨A5,c5,rfl⟩:=Kd.Mf hR
   have y0:=yq 0 _ rfl
   have WU:=ja.mk (yq 1 _ rfl)
   have uV:=ja.mk (yq 2 _ rfl)
   have yQ:=ja.mk (yq 3 _ rfl)
   have rD:=ja.mk (yq 4 _ rfl)
   have HH:=ja.mk hH
   have HR:=ja.mk hR
   have HT:=ja.mk t1
   have HU:=ja.mk u1
   have rQ:=ja.mk EN
   have HG:=ja.mk jW
   have HX:=ja.mk hcells
   have HD:=ja.mk (And.intro d1 d3)
   have HDR:=ja.mk SH
   simp only [Int.toNat_natCast,show Tp.sz=5 from rfl,Nat.add_zero] at y0 WU uV yQ rD
   clear hH hR yq fA hM hx EN jW hcells t1 u1 d1 d2 d3 SH hcs
   go_wp2_with (first|(go_at_call 94;(with_reducible refine (Bc.calls k Aq _ l0[j].f0 a a2 kE w0 wr HB.out HR.out HT.out).mono ?_);rintro e w1 ⟨rfl,hr,hb,hk⟩;have lG:=ja.mk hr;have Oz:=ja.mk hb;have Ig:=ja.mk hk;have LQ:¬ Aq g:=fun h=>(rQ.out g h).2 rfl;have PL:=Yf HX.out hk LQ;have z1:=Ot WU.out hk LQ;have z2:=Ot uV.out hk LQ;have z3:=Ot yQ.out hk LQ;have z4:=Ot rD.out hk LQ;have z5:=aa PL (j * 5 + 1);have z6:=aa PL (j * 5 + 2);have z7:=aa PL (j * 5 + 3);have z8:=aa PL (j * 5 + 4);clear hr hb hk LQ PL))
   have HH1:=ja.mk (Kd.AU (Kd.mQ HH.out) Ig.out (fun k_ _ hn hs=>hn (.inl hs)))
   obtain ⟨HS1,hgr⟩:=Kd.JR HH1.out (by omega) (by omega) (seg:=[.int .i64 a2,.int .i64 (wrap64 (a2 + 1)),.int .i64 (wrap64 (wrap64 (a2 + 1) + 1)),.int .i64 (wrap64 (wrap64 (wrap64 (a2 + 1) + 1) + 1))]) (j:=1) (show 1 + 4 ≤ 5 from by decide) (by intro q hq;simp at hq;rcases hq with rfl|rfl|rfl|rfl <;> rfl)
   go_roundg (l0.length - (j + 1))
   case measure=>omega
   case rel =>
    have hle:w.heap.size ≤ wr.heap.size:=HK.out.1
    have LQ:∀ k_,(Aq k_ ∨ wr.heap.size ≤ k_)→k_ ≠ g:=fun k_ hk=>hk.elim (fun h=>(rQ.out k_ h).2) (fun h=>by omega)
    have hin:=Kd.iQ lG.out hgr (fun k_ hk e=>LQ k_ hk (by injection e))
    have hfin:=Kd.xM HS1 (x':=⟨kE,a2,wrap64 (a2 + 1),wrap64 (wrap64 (a2 + 1) + 1),wrap64 (wrap64 (wrap64 (a2 + 1) + 1) + 1)⟩) (WA _ _ _ _ hin) (fun k_ hk=>hk.elim .inl (fun h=>.inr ⟨.inr (by omega),h⟩))
    have hset:(done ++ l0.drop j).set (Int.toNat (j:Int)) (⟨kE,a2,wrap64 (a2 + 1),wrap64 (wrap64 (a2 + 1) + 1),wrap64 (wrap64 (wrap64 (a2 + 1) + 1) + 1)⟩:Dh)=(done ++ [⟨kE,a2,wrap64 (a2 + 1),wrap64 (wrap64 (a2 + 1) + 1),wrap64 (wrap64 (wrap64 (a2 + 1) + 1) + 1)⟩]) ++ l0.drop (j + 1):=by
     rw [HDR.out,Int.toNat_natCast]
     exact nN _ _ HD.out.1
    rw [hset] at hfin
    have mV:=Oz.out.grown hgr Oz.out.size (fun k_ e=>by injection e with e;omega)
    have hk4:=Kept.ji hgr (HK.out.Ur Ig.out (fun k_ hk=>(rQ.out k_ hk).1)) (fun k_ e=>by injection e with e;subst e;exact HG.out)
    exact ⟨j + 1,_,_,rest',by omega,by omega,rfl,by go_num,⟨by simp [HD.out.1],HU.out,by rw [HD.out.2];simp⟩,⟨hfin⟩,⟨mV⟩,⟨hk4⟩⟩
  ·have wB:decide ((j:Int) < (l0.length:Int))=false:=decide_eq_false (by omega)
   obtain rfl:j=l0.length:=by omega
   obtain ⟨d1,d2,d3⟩:=HD.out
   rw [List.drop_length] at d2
   unfold Ve.f at d2
   obtain ⟨rfl,rfl⟩:a=r1∧[]=rest:=by
    have:=Option.some.inj d2
    exact ⟨congrArg Prod.fst this,congrArg Prod.snd this⟩
   have HD:=ja.mk d3
   clear d1 d2 d3
   go_wp2
   go_ret
   refine ⟨rfl,?_,HB.out,HK.out⟩
   have:=HS.out
   rw [List.drop_length] at this
   rw [HD.out]
   exact this
def Xf.f (k:Nat) (Ta:List Int) (Pa:Int) (Oa:Int) (Ma:Int) (Ra:List Dh) (a1:Int):Option (Int × List Int × List Dh):=(Md.f k Ta a1).bind fun t=>(Ve.f k Ra t.1).bind fun u=>some (u.1,t.2,u.2)
theorem Xf.mono:∀ a0 a1 a2 a3 a4 a5 k,Nb (Xf.f k a0 a1 a2 a3 a4 a5) (Xf.f (k + 1) a0 a1 a2 a3 a4 a5):=by
 intro a0 a1 a2 a3 a4 a5 k
 unfold Xf.f
 exact Nb.bind (Md.mono _ _ _) (fun _=>Nb.bind (Ve.mono _ _ _) (fun _=>Nb.refl _))
theorem Xf.calls (k:Nat) (qE:Nat→Prop) (bh:Value) (Ta:List Int) (Pa:Int) (Oa:Int) (Ma:Int) (pE:Nat→Prop) (HE:Value) (Ra:List Dh) (a1:Int) (r1:Int) (r2:List Int) (r3:List Dh) (w0 w:World) (hB:Below w0.heap.size w0 w) (jL:Kd.R (Kd.int .i64) 3 w w0.heap.size qE bh Ta) (iL:Kd.S Tp 68 w w0.heap.size pE HE Ra) (h:Xf.f k Ta Pa Oa Ma Ra a1=some (r1,r2,r3)) :
  Calls Try.prog 21 #[.agg #[bh,.int .i64 Pa,.int .i64 Oa,.int .i64 Ma,HE],.int .i64 a1] w fun e w'=>e = .returned (.int .i64 r1)∧Kd.R (Kd.int .i64) 3 w' w0.heap.size (fun k_=>((qE k_ ∨ pE k_) ∨ w.heap.size ≤ k_)) bh r2∧Kd.S Tp 68 w' w0.heap.size (fun k_=>((qE k_ ∨ pE k_) ∨ w.heap.size ≤ k_)) HE r3∧Below w0.heap.size w0 w'∧Kept w w' (fun k_=>qE k_ ∨ pE k_):=by
 obtain ⟨A0,c0,rfl⟩:=Kd.Mf jL
 obtain ⟨A4,c4,rfl⟩:=Kd.Qt iL
 unfold Xf.f at h
 obtain ⟨⟨b1,b2⟩,t1,h⟩:=Option.bind_eq_some_iff.mp h
 obtain ⟨⟨b3,b4⟩,t2,h⟩:=Option.bind_eq_some_iff.mp h
 obtain ⟨rfl,rfl,rfl⟩:b3=r1∧b2=r2∧b4=r3:=by
  have:=Option.some.inj h
  exact ⟨congrArg Prod.fst this,congrArg (fun x=>x.2.1) this,congrArg (fun x=>x.2.2) this⟩
 obtain ⟨W1,hW1⟩:∃ W1,W1=w.alloc (.cells #[.slice A0 Ta.length c0,.int .i64 Pa,.int .i64 Oa,.int .i64 Ma,.slice A4 Ra.length c4] 30 (0,0)):=⟨_,rfl⟩
 have HW:=ja.mk hW1
 have Bl:Below w.heap.size w W1:=by rw [hW1];exact qa (Below.refl _ _) _
 have Bi:W1.heap[w.heap.size]? = some (.cells #[.slice A0 Ta.length c0,.int .i64 Pa,.int .i64 Oa,.int .i64 Ma,.slice A4 Ra.length c4] 30 (0,0)):=by rw [hW1];exact Me _ _
 have H0:=ja.mk (Kd.zj (Kd.Ue jL Bl))
 have H4:=ja.mk (Kd.fD (Kd.Yn iL Bl))
 have HB:=ja.mk (hB.trans (Bl.mono hB.size))
 have HK:=ja.mk (Kept.Hi Bl (fun k_=>qE k_ ∨ pE k_))
 have HT1:=ja.mk t1
 have HT2:=ja.mk t2
 have HX:=ja.mk Bi
 have hx0:=(ga Bi 0).trans rfl
 clear hW1 Bl jL iL hB t1 t2 h Bi
 go_enter Try.func21,Try.ntmps21
 go_upto_region 1 with (fail)
 rw [← HW.out]
 clear HW
 go_wp2_with (first|(go_at_call 22;(with_reducible refine (Md.calls k _ _ Ta a1 b1 b2 w0 W1 HB.out H0.out HT1.out).mono ?_);rintro e w2 ⟨rfl,hr,hb,hk⟩;have HR2:=ja.mk hr;have gq:=ja.mk hb;have IM:=ja.mk hk;have sE:=ja.mk (Yf HX.out hk (by rintro ⟨_,_,_,q,hq,cells,hc⟩;rw [HX.out] at hc;injection hc with hc;injection hc with _ hc;rw [← hc] at hq;simp [Kd.int,Kd.scalar] at hq));have D5:=(ga sE.out 4).trans rfl;have HS2:=ja.mk (Kd.rU H4.out IM.out (by rintro k_ ⟨_,_,_,q,hq,cells,hc⟩ ⟨_,_,_,q2,LG,cM,CA⟩;rw [hc] at CA;injection CA with CA;injection CA with _ CA;rw [← CA] at LG;simp [Kd.int,Kd.scalar] at LG;rw [LG] at hq;revert hq;decide));clear hr hb hk)|(go_at_call 62;(with_reducible refine (Ve.calls k _ _ Ra b1 b3 b4 w0 w2 gq.out HS2.out HT2.out).mono ?_);rintro e w3 ⟨rfl,hr,hb,hk⟩;have ZM:=ja.mk hr;have vE:=ja.mk hb;have rV:=ja.mk hk;clear hr hb hk))
 go_ret
 refine ⟨rfl,?_,?_,vE.out,?_⟩
 ·refine Kd.Hg (Kd.dm HR2.out rV.out ?_) (fun k_ hk=>hk.elim (fun h=>.inl (.inl h.1)) (fun h=>.inr (Nat.le_trans HK.out.1 h)))
  rintro k_ hk ⟨_,_,hlt,q2,LG,cM,CA⟩
  rcases hk with ⟨_,_,_,q,hq,cells,hc⟩|hk
  ·rw [hc] at CA
   injection CA with CA
   injection CA with _ CA
   rw [← CA] at LG
   simp [Kd.int,Kd.scalar] at hq
   rw [hq] at LG
   revert LG
   decide
  ·omega
 ·exact Kd.su ZM.out (fun k_ hk=>hk.elim (fun h=>.inl (.inr h.1)) (fun h=>.inr (Nat.le_trans HK.out.1 (Nat.le_trans IM.out.1 h))))
 ·exact (HK.out.Ur IM.out (fun k_ hk=>.inl (.inl hk.1))).Ur rV.out (fun k_ hk=>.inl (.inr hk.1))
end Go.Proofs.Ytmifdccaajngcaa.P
end
