import Derived.Test.YtoomcmaifgkkfaaQEdge1
import Derived.Test.YtoomcmaifgkkfaaQEdge8
import Derived.Test.YtoomcmaifgkkfaaQEdge5
import Derived.Test.YtoomcmaifgkkfaaQEdge7
import Derived.Test.YtoomcmaifgkkfaaQEdge2
import Derived.Test.YtoomcmaifgkkfaaQEdge6
import Derived.Test.YtoomcmaifgkkfaaQEdge3
import Derived.Shelf.Abstract
import Derived.Lib.SliceRun
import Derived.Test.YtoomcmaifgkkfaaQEdge4
set_option maxHeartbeats 8000000
set_option maxRecDepth 100000
section
namespace Go.Proofs.Ytoomcmaifgkkfaa.P
open Go.RowKit Go.Proofs.Ia.Zb Go.Proofs.Ia.Qd Go.Proofs.Ia.Me
set_option linter.unusedVariables false
set_option linter.unusedSimpArgs false
attribute [local go_sem] Wi Ui jk fk Ch Bh Vi Ti
def Sc.l0:Nat→List (Df)→List (Df)→Int→Option (Bool)
 | 0,_,_,_=>none
 | k + 1,x0,x1,x5=>if x5 < (x0.length:Int) then (if 0 ≤ x5 then (if x5 < (x1.length:Int) then ((Uk.f k ((Ta x0 x5).f0) ((Ta x0 x5).f1) ((Ta x0 x5).f2) ((Ta x0 x5).f3) ((Ta x0 x5).f4) ((Ta x1 x5).f0) ((Ta x1 x5).f1) ((Ta x1 x5).f2) ((Ta x1 x5).f3) ((Ta x1 x5).f4)).bind fun t103=>(if t103=true then (Sc.l0 k x0 x1 (wrap64 (x5 + 1))) else (some false))) else (none)) else (none)) else (some true)
def Sc.f (k:Nat) (l0:List (Df)) (l1:List (Df)):Option (Bool):=if (l0.length:Int)=(l1.length:Int) then (Sc.l0 k l0 l1 0) else (some false)
def Sc.T6:Bool × List (List Nat × List Nat):=(true,[([],[]),([],[]),([0,1],[0,1]),([2],[2]),([],[]),([],[]),([4,5],[4,5]),([6],[6]),([3,7],[3,7]),([8],[8])])
def Sc.B6:List Nat:=[0,0,3,7,0,0,48,112,255,511]
theorem Sc.WR:Bn .any (opsOf Try.f80 6)=Sc.T6:=by kernel_rfl
theorem Sc.xK:um Sc.T6.2 Sc.B6=true:=by kernel_rfl
theorem Sc.calls (k:Nat) (A0:Option Addr) (c0:Nat) (l0:List (Df)) (A1:Option Addr) (c1:Nat) (l1:List (Df)) (r:Bool) (w:World) (Qj:Kd.C Pr w A0 l0.length l0) (hc0:l0.length ≤ c0) (hr1:Kd.C Pr w A1 l1.length l1) (hc1:l1.length ≤ c1) (h:Sc.f k l0 l1=some r) :
  Calls Try.prog 80 #[.slice A0 l0.length c0,.slice A1 l1.length c1] w fun e w'=>e = .returned (.bool r)∧Below w.heap.size w w':=by
 have dA:=Try.underlying83;have en:=aa.mk Qj;have kE:=aa.mk hc0;clear Qj hc0;have OM:=aa.mk hr1;have F_:=aa.mk hc1;clear hr1 hc1;have HB:=aa.mk (Below.refl w.heap.size w);have H:(if (l0.length:Int)=(l1.length:Int) then (Sc.l0 k l0 l1 0) else (some false))=some r:=h;clear h
 by_cases c3:(l0.length:Int)=(l1.length:Int)
 ·rw [if_pos c3] at H;have bh:((l0.length:Int) == (l1.length:Int))=true:=beq_iff_eq.mpr c3;have Uo:((l0.length:Int) != (l1.length:Int))=false:=bne_eq_false_iff_eq.mpr c3;have qD:(l0.length == l1.length)=true:=by first|simpa using c3|(simp at c3 ⊢;omega)
  clear c3;have H':=aa.mk H;clear H;go_enter Try.func80,Try.ntmps80;go_wp2
  go_loopg [5] k (fun kq v5 w'=>∃ (Ca:Int),v5 = .int .i64 Ca∧aa (Sc.l0 kq l0 l1 Ca=some r)∧aa (kq ≤ k)∧aa (Below w.heap.size w w'))
  case atStart=>exact ⟨(0),(by first|rfl|(simp;done)|(simp [*];done)),H',⟨Nat.le_refl _⟩,⟨by repeat (first|(with_reducible first|exact HB.out|apply oa|apply ia|apply qa)|exact HB.out)⟩⟩
  case round =>
   clear H'
   try clear c1
   try clear p2
   try clear c3
   try clear bh
   try clear Uo
   try clear qD
   (try clear HA);(try clear Cf);(try clear HB);obtain ⟨Ca,rfl,HA,Cf,HB⟩:=hrel;cases gk with
   | zero=>exact absurd HA.out (by simp [Sc.l0])
   | succ k1 =>
    have H:=HA.out;clear HA;simp only [Sc.l0] at H
    by_cases c4:Ca < (l0.length:Int)
    ·rw [if_pos c4] at H;have Mk:decide (Ca < (l0.length:Int))=true:=decide_eq_true c4;clear c4
     by_cases c5:0 ≤ Ca
     ·rw [if_pos c5] at H;have Sn:decide (0 ≤ Ca)=true:=decide_eq_true c5;clear c5
      by_cases c6:Ca < (l1.length:Int)
      ·rw [if_pos c6] at H;have Ro:decide (Ca < (l1.length:Int))=true:=decide_eq_true c6;clear c6;replace H:=Option.bind_eq_some_iff.mp H;obtain ⟨t103,jL,H⟩:=H;replace H:(if t103=true then (Sc.l0 k1 l0 l1 (wrap64 (Ca + 1))) else (some false))=some r:=H;have A7:=aa.mk jL;clear jL
       by_cases c8:t103=true
       ·subst c8;have H1:(Sc.l0 k1 l0 l1 (wrap64 (Ca + 1)))=some r:=by rw [if_pos rfl] at H;exact H
        clear H;have H:=H1;clear H1;have H':=aa.mk H;clear H
        try go_wp2
        have Cb:=aa.mk (qa HB.out);clear HB;have HB:=Cb;clear Cb;have jf:0 ≤ (Ca:Int):=Pa;have gf:Ca < (l0.length:Int):=Pa;obtain ⟨Fe,jm,Zl,Qi,Sd,Qf,Pf,Nf,Mf,Wg,Xg⟩:=Nk en.out Ca jf gf;have Fm:=Mf;have Gm:=Nf;have Im:=Pf;have Jm:=Qf;have Km:=Sd;cases Qi;replace Sd:=Sa HB.out Sd;replace Qf:=Sa HB.out Qf;replace Pf:=Sa HB.out Pf;replace Nf:=Sa HB.out Nf;replace Mf:=Sa HB.out Mf;have uh:=aa.mk Xg;have Yh:=aa.mk Wg;clear Xg Wg;replace jf:=eq_true jf;replace gf:=eq_true gf;have Mi:0 ≤ (Ca:Int):=Pa;have Li:Ca < (l1.length:Int):=Pa;obtain ⟨Gf,sx,cx,Cs,qf,Th,Sh,Rh,Qh,Qm,Um⟩:=Nk OM.out Ca Mi Li;have Am:=Qh;have Bm:=Rh;have Cm:=Sh;have Dm:=Th;have Em:=qf;cases Cs;replace qf:=Sa HB.out qf;replace Th:=Sa HB.out Th;replace Sh:=Sa HB.out Sh;replace Rh:=Sa HB.out Rh;replace Qh:=Sa HB.out Qh;have Zk:=aa.mk Um;have bn:=aa.mk Qm;clear Um Qm;replace Mi:=eq_true Mi;replace Li:=eq_true Li;refine fl (n:=10) (S:=fun w'=>w'.cell? (Fe.add ((Ca).toNat * 5))=some (.slice jm ((Ta l0 Ca).f0).length Zl)∧w'.cell? ⟨(Fe.add ((Ca).toNat * 5)).block,(Fe.add ((Ca).toNat * 5)).off + 1,none⟩=some (.int .i64 ((Ta l0 Ca).f1))∧w'.cell? ⟨(Fe.add ((Ca).toNat * 5)).block,(Fe.add ((Ca).toNat * 5)).off + 2,none⟩=some (.int .i64 ((Ta l0 Ca).f2))∧w'.cell? ⟨(Fe.add ((Ca).toNat * 5)).block,(Fe.add ((Ca).toNat * 5)).off + 3,none⟩=some (.int .i64 ((Ta l0 Ca).f3))∧w'.cell? ⟨(Fe.add ((Ca).toNat * 5)).block,(Fe.add ((Ca).toNat * 5)).off + 4,none⟩=some (.int .i64 ((Ta l0 Ca).f4))∧w'.cell? (Gf.add ((Ca).toNat * 5))=some (.slice sx ((Ta l1 Ca).f0).length cx)∧w'.cell? ⟨(Gf.add ((Ca).toNat * 5)).block,(Gf.add ((Ca).toNat * 5)).off + 1,none⟩=some (.int .i64 ((Ta l1 Ca).f1))∧w'.cell? ⟨(Gf.add ((Ca).toNat * 5)).block,(Gf.add ((Ca).toNat * 5)).off + 2,none⟩=some (.int .i64 ((Ta l1 Ca).f2))∧w'.cell? ⟨(Gf.add ((Ca).toNat * 5)).block,(Gf.add ((Ca).toNat * 5)).off + 3,none⟩=some (.int .i64 ((Ta l1 Ca).f3))∧w'.cell? ⟨(Gf.add ((Ca).toNat * 5)).block,(Gf.add ((Ca).toNat * 5)).off + 4,none⟩=some (.int .i64 ((Ta l1 Ca).f4))) (ds:=[]) #[false,false,false,false,false,false,false,false,false,false] (by kernel_rfl) rfl rfl ⟨(Sa HB.out Km),(Sa HB.out Jm),(Sa HB.out Im),(Sa HB.out Gm),(Sa HB.out Fm),(Sa HB.out Em),(Sa HB.out Dm),(Sa HB.out Cm),(Sa HB.out Bm),(Sa HB.out Am)⟩ (fun hHeld=>?_);refine Si Sc.WR Sc.xK (fun mg eu=>?_);generalize wr.drew=w9 at HB uh Zk Sd Qf Pf Nf Mf qf Th Sh Rh Qh hHeld ⊢;refine od (i:=0) (N:=some 17) (v:=?_) (a':=?_) #[true,false,false,false,false,false,false,false,false,false] rfl rfl (Vc mg.out (by kernel_rfl)) (fun _ _ _ h=>h) (Or.inl ⟨by rfl,?_⟩) ?_ ?_;rotate_left
        ·intro w';go_simp;with_reducible rfl
        rotate_left
        ·simp only [Act.put,List.setIfInBounds_toArray,List.set_cons_zero,List.set_cons_succ,Vb,Wb]
         rfl
        refine od (i:=1) (N:=some 18) (v:=?_) (a':=?_) #[true,true,false,false,false,false,false,false,false,false] rfl rfl (Vc mg.out (by kernel_rfl)) (fun _ _ _ h=>h) (Or.inl ⟨by rfl,?_⟩) ?_ ?_;rotate_left
        ·intro w';go_simp;with_reducible rfl
        rotate_left
        ·simp only [Act.put,List.setIfInBounds_toArray,List.set_cons_zero,List.set_cons_succ,Vb,Wb]
         rfl
        refine od (i:=2) (N:=some 19) (v:=?_) (a':=?_) #[true,true,true,false,false,false,false,false,false,false] rfl rfl (Vc mg.out (by kernel_rfl)) (fun _ _ _ h=>h) (Or.inl ⟨by rfl,?_⟩) ?_ ?_;rotate_left
        ·intro w';go_simp;with_reducible rfl
        rotate_left
        ·simp only [Act.put,List.setIfInBounds_toArray,List.set_cons_zero,List.set_cons_succ,Vb,Wb]
         rfl
        refine od (i:=4) (N:=some 21) (v:=?_) (a':=?_) #[true,true,true,false,true,false,false,false,false,false] rfl rfl (Vc mg.out (by kernel_rfl)) (fun _ _ _ h=>h) (Or.inl ⟨by rfl,?_⟩) ?_ ?_;rotate_left
        ·intro w';go_simp;with_reducible rfl
        rotate_left
        ·simp only [Act.put,List.setIfInBounds_toArray,List.set_cons_zero,List.set_cons_succ,Vb,Wb]
         rfl
        refine od (i:=5) (N:=some 22) (v:=?_) (a':=?_) #[true,true,true,false,true,true,false,false,false,false] rfl rfl (Vc mg.out (by kernel_rfl)) (fun _ _ _ h=>h) (Or.inl ⟨by rfl,?_⟩) ?_ ?_;rotate_left
        ·intro w';go_simp;with_reducible rfl
        rotate_left
        ·simp only [Act.put,List.setIfInBounds_toArray,List.set_cons_zero,List.set_cons_succ,Vb,Wb]
         rfl
        refine od (i:=6) (N:=some 23) (v:=?_) (a':=?_) #[true,true,true,false,true,true,true,false,false,false] rfl rfl (Vc mg.out (by kernel_rfl)) (fun _ _ _ h=>h) (Or.inl ⟨by rfl,?_⟩) ?_ ?_;rotate_left
        ·intro w';go_simp;with_reducible rfl
        rotate_left
        ·simp only [Act.put,List.setIfInBounds_toArray,List.set_cons_zero,List.set_cons_succ,Vb,Wb]
         rfl
        refine Ih (i:=3) (N:=some 20) (v:=?_) (a':=?_) #[true,true,true,true,true,true,true,false,false,false] rfl rfl (zf mg.out eu.out (by kernel_rfl)) (fun _ _ _ h=>h) (Or.inl ⟨by rfl,?_⟩) hHeld ?_ ?_;rotate_left
        ·rintro w' ⟨s0,s1,s2,s3,s4,s5,s6,s7,s8,s9⟩;go_simp;with_reducible rfl
        rotate_left
        ·simp only [Act.put,List.setIfInBounds_toArray,List.set_cons_zero,List.set_cons_succ,Vb,Wb]
         rfl
        refine Ih (i:=7) (N:=some 24) (v:=?_) (a':=?_) #[true,true,true,true,true,true,true,true,false,false] rfl rfl (zf mg.out eu.out (by kernel_rfl)) (fun _ _ _ h=>h) (Or.inl ⟨by rfl,?_⟩) hHeld ?_ ?_;rotate_left
        ·rintro w' ⟨s0,s1,s2,s3,s4,s5,s6,s7,s8,s9⟩;go_simp;with_reducible rfl
        rotate_left
        ·simp only [Act.put,List.setIfInBounds_toArray,List.set_cons_zero,List.set_cons_succ,Vb,Wb]
         rfl
        refine Ko (i:=8) (N:=some 25) #[true,true,true,true,true,true,true,true,true,false] rfl rfl (vp mg.out (by kernel_rfl)) (by decide) (fun K hK=>?_);refine ju Try.func108 (by kernel_rfl) rfl #[.agg #[.slice jm ((Ta l0 Ca).f0).length Zl,.int .i64 ((Ta l0 Ca).f1),.int .i64 ((Ta l0 Ca).f2),.int .i64 ((Ta l0 Ca).f3),.int .i64 ((Ta l0 Ca).f4)],.agg #[.slice sx ((Ta l1 Ca).f0).length cx,.int .i64 ((Ta l1 Ca).f1),.int .i64 ((Ta l1 Ca).f2),.int .i64 ((Ta l1 Ca).f3),.int .i64 ((Ta l1 Ca).f4)]] (by rfl) rfl rfl (by (try simp only [List.map_toArray,List.map_cons,List.map_nil]);first|done|rfl|(simp only [List.length_drop,List.length_take];rfl)) ?_;with_reducible refine (Uk.calls k1 _ _ ((Ta l0 Ca).f0) ((Ta l0 Ca).f1) ((Ta l0 Ca).f2) ((Ta l0 Ca).f3) ((Ta l0 Ca).f4) _ _ ((Ta l1 Ca).f0) ((Ta l1 Ca).f1) ((Ta l1 Ca).f2) ((Ta l1 Ca).f3) ((Ta l1 Ca).f4) true _ ?jc ?ic ?Ed ?Dd A7.out).mono ?_
        (case jc=>repeat (first|exact (Kd.Ib uh.out HB.out)|(with_reducible refine Kd.Jb ?_ _)|(with_reducible refine Kd.Gb ?_ _)|(with_reducible refine Kd.dc ?_)))
        (case ic=>exact Yh.out)
        (case Ed=>repeat (first|exact (Kd.Ib Zk.out HB.out)|(with_reducible refine Kd.Jb ?_ _)|(with_reducible refine Kd.Gb ?_ _)|(with_reducible refine Kd.dc ?_)))
        (case Dd=>exact bn.out)
        rintro e Nq ⟨rfl,hb⟩;refine ⟨_,rfl,?_⟩;have Cb:=aa.mk (Oa (by repeat (first|(with_reducible first|exact HB.out|apply oa|apply ia|apply qa)|exact HB.out)) hb);clear HB;have HB:=Cb;clear Cb;(try clear hb);(try clear Gj);(try clear hk);(try clear hi);refine hK.out _ _ ⟨(Sa HB.out Km),(Sa HB.out Jm),(Sa HB.out Im),(Sa HB.out Gm),(Sa HB.out Fm),(Sa HB.out Em),(Sa HB.out Dm),(Sa HB.out Cm),(Sa HB.out Bm),(Sa HB.out Am)⟩ (fun hHeld=>?_);clear hK K;refine Rg (a':=?_) ?_ ?_;rotate_left
        ·show Act.put _ (some 25) _=_
         simp only [Act.put,List.setIfInBounds_toArray,List.set_cons_zero,List.set_cons_succ,Vb,Wb]
         rfl
        refine od (i:=9) (N:=some 26) (v:=?_) (a':=?_) #[true,true,true,true,true,true,true,true,true,true] rfl rfl (Vc mg.out (by kernel_rfl)) (fun _ _ _ h=>h) (Or.inl ⟨by rfl,?_⟩) ?_ ?_;rotate_left
        ·intro w';go_simp;with_reducible rfl
        rotate_left
        ·simp only [Act.put,List.setIfInBounds_toArray,List.set_cons_zero,List.set_cons_succ,Vb,Wb]
         rfl
        refine Mp (Sl mg.out (by kernel_rfl)) ?_
        try go_wp2
        go_roundg k1
        case measure=>have:=Cf.out;omega
        case rel=>exact ⟨(wrap64 (Ca + 1)),(by first|rfl|(simp;done)|(simp [*];done)),H',⟨by have:=Cf.out;omega⟩,⟨by repeat (first|(with_reducible first|exact HB.out|apply oa|apply ia|apply qa)|exact HB.out)⟩⟩
       ·replace c8:=Bool.eq_false_iff.mpr c8;subst c8;have H1:(some false)=some r:=by rw [if_neg (show ¬ (false=true) by decide)] at H;exact H
        clear H;have H:=H1;clear H1;obtain rfl:=Option.some.inj H
        try go_wp2
        have Cb:=aa.mk (qa HB.out);clear HB;have HB:=Cb;clear Cb;have jf:0 ≤ (Ca:Int):=Pa;have gf:Ca < (l0.length:Int):=Pa;obtain ⟨Fe,jm,Zl,Qi,Sd,Qf,Pf,Nf,Mf,Wg,Xg⟩:=Nk en.out Ca jf gf;have Fm:=Mf;have Gm:=Nf;have Im:=Pf;have Jm:=Qf;have Km:=Sd;cases Qi;replace Sd:=Sa HB.out Sd;replace Qf:=Sa HB.out Qf;replace Pf:=Sa HB.out Pf;replace Nf:=Sa HB.out Nf;replace Mf:=Sa HB.out Mf;have uh:=aa.mk Xg;have Yh:=aa.mk Wg;clear Xg Wg;replace jf:=eq_true jf;replace gf:=eq_true gf;have Mi:0 ≤ (Ca:Int):=Pa;have Li:Ca < (l1.length:Int):=Pa;obtain ⟨Gf,sx,cx,Cs,qf,Th,Sh,Rh,Qh,Qm,Um⟩:=Nk OM.out Ca Mi Li;have Am:=Qh;have Bm:=Rh;have Cm:=Sh;have Dm:=Th;have Em:=qf;cases Cs;replace qf:=Sa HB.out qf;replace Th:=Sa HB.out Th;replace Sh:=Sa HB.out Sh;replace Rh:=Sa HB.out Rh;replace Qh:=Sa HB.out Qh;have Zk:=aa.mk Um;have bn:=aa.mk Qm;clear Um Qm;replace Mi:=eq_true Mi;replace Li:=eq_true Li;refine fl (n:=10) (S:=fun w'=>w'.cell? (Fe.add ((Ca).toNat * 5))=some (.slice jm ((Ta l0 Ca).f0).length Zl)∧w'.cell? ⟨(Fe.add ((Ca).toNat * 5)).block,(Fe.add ((Ca).toNat * 5)).off + 1,none⟩=some (.int .i64 ((Ta l0 Ca).f1))∧w'.cell? ⟨(Fe.add ((Ca).toNat * 5)).block,(Fe.add ((Ca).toNat * 5)).off + 2,none⟩=some (.int .i64 ((Ta l0 Ca).f2))∧w'.cell? ⟨(Fe.add ((Ca).toNat * 5)).block,(Fe.add ((Ca).toNat * 5)).off + 3,none⟩=some (.int .i64 ((Ta l0 Ca).f3))∧w'.cell? ⟨(Fe.add ((Ca).toNat * 5)).block,(Fe.add ((Ca).toNat * 5)).off + 4,none⟩=some (.int .i64 ((Ta l0 Ca).f4))∧w'.cell? (Gf.add ((Ca).toNat * 5))=some (.slice sx ((Ta l1 Ca).f0).length cx)∧w'.cell? ⟨(Gf.add ((Ca).toNat * 5)).block,(Gf.add ((Ca).toNat * 5)).off + 1,none⟩=some (.int .i64 ((Ta l1 Ca).f1))∧w'.cell? ⟨(Gf.add ((Ca).toNat * 5)).block,(Gf.add ((Ca).toNat * 5)).off + 2,none⟩=some (.int .i64 ((Ta l1 Ca).f2))∧w'.cell? ⟨(Gf.add ((Ca).toNat * 5)).block,(Gf.add ((Ca).toNat * 5)).off + 3,none⟩=some (.int .i64 ((Ta l1 Ca).f3))∧w'.cell? ⟨(Gf.add ((Ca).toNat * 5)).block,(Gf.add ((Ca).toNat * 5)).off + 4,none⟩=some (.int .i64 ((Ta l1 Ca).f4))) (ds:=[]) #[false,false,false,false,false,false,false,false,false,false] (by kernel_rfl) rfl rfl ⟨(Sa HB.out Km),(Sa HB.out Jm),(Sa HB.out Im),(Sa HB.out Gm),(Sa HB.out Fm),(Sa HB.out Em),(Sa HB.out Dm),(Sa HB.out Cm),(Sa HB.out Bm),(Sa HB.out Am)⟩ (fun hHeld=>?_);refine Si Sc.WR Sc.xK (fun mg eu=>?_);generalize wr.drew=Vj at HB uh Zk Sd Qf Pf Nf Mf qf Th Sh Rh Qh hHeld ⊢;refine od (i:=0) (N:=some 17) (v:=?_) (a':=?_) #[true,false,false,false,false,false,false,false,false,false] rfl rfl (Vc mg.out (by kernel_rfl)) (fun _ _ _ h=>h) (Or.inl ⟨by rfl,?_⟩) ?_ ?_;rotate_left
        ·intro w';go_simp;with_reducible rfl
        rotate_left
        ·simp only [Act.put,List.setIfInBounds_toArray,List.set_cons_zero,List.set_cons_succ,Vb,Wb]
         rfl
        refine od (i:=1) (N:=some 18) (v:=?_) (a':=?_) #[true,true,false,false,false,false,false,false,false,false] rfl rfl (Vc mg.out (by kernel_rfl)) (fun _ _ _ h=>h) (Or.inl ⟨by rfl,?_⟩) ?_ ?_;rotate_left
        ·intro w';go_simp;with_reducible rfl
        rotate_left
        ·simp only [Act.put,List.setIfInBounds_toArray,List.set_cons_zero,List.set_cons_succ,Vb,Wb]
         rfl
        refine od (i:=2) (N:=some 19) (v:=?_) (a':=?_) #[true,true,true,false,false,false,false,false,false,false] rfl rfl (Vc mg.out (by kernel_rfl)) (fun _ _ _ h=>h) (Or.inl ⟨by rfl,?_⟩) ?_ ?_;rotate_left
        ·intro w';go_simp;with_reducible rfl
        rotate_left
        ·simp only [Act.put,List.setIfInBounds_toArray,List.set_cons_zero,List.set_cons_succ,Vb,Wb]
         rfl
        refine od (i:=4) (N:=some 21) (v:=?_) (a':=?_) #[true,true,true,false,true,false,false,false,false,false] rfl rfl (Vc mg.out (by kernel_rfl)) (fun _ _ _ h=>h) (Or.inl ⟨by rfl,?_⟩) ?_ ?_;rotate_left
        ·intro w';go_simp;with_reducible rfl
        rotate_left
        ·simp only [Act.put,List.setIfInBounds_toArray,List.set_cons_zero,List.set_cons_succ,Vb,Wb]
         rfl
        refine od (i:=5) (N:=some 22) (v:=?_) (a':=?_) #[true,true,true,false,true,true,false,false,false,false] rfl rfl (Vc mg.out (by kernel_rfl)) (fun _ _ _ h=>h) (Or.inl ⟨by rfl,?_⟩) ?_ ?_;rotate_left
        ·intro w';go_simp;with_reducible rfl
        rotate_left
        ·simp only [Act.put,List.setIfInBounds_toArray,List.set_cons_zero,List.set_cons_succ,Vb,Wb]
         rfl
        refine od (i:=6) (N:=some 23) (v:=?_) (a':=?_) #[true,true,true,false,true,true,true,false,false,false] rfl rfl (Vc mg.out (by kernel_rfl)) (fun _ _ _ h=>h) (Or.inl ⟨by rfl,?_⟩) ?_ ?_;rotate_left
        ·intro w';go_simp;with_reducible rfl
        rotate_left
        ·simp only [Act.put,List.setIfInBounds_toArray,List.set_cons_zero,List.set_cons_succ,Vb,Wb]
         rfl
        refine Ih (i:=3) (N:=some 20) (v:=?_) (a':=?_) #[true,true,true,true,true,true,true,false,false,false] rfl rfl (zf mg.out eu.out (by kernel_rfl)) (fun _ _ _ h=>h) (Or.inl ⟨by rfl,?_⟩) hHeld ?_ ?_;rotate_left
        ·rintro w' ⟨s0,s1,s2,s3,s4,s5,s6,s7,s8,s9⟩;go_simp;with_reducible rfl
        rotate_left
        ·simp only [Act.put,List.setIfInBounds_toArray,List.set_cons_zero,List.set_cons_succ,Vb,Wb]
         rfl
        refine Ih (i:=7) (N:=some 24) (v:=?_) (a':=?_) #[true,true,true,true,true,true,true,true,false,false] rfl rfl (zf mg.out eu.out (by kernel_rfl)) (fun _ _ _ h=>h) (Or.inl ⟨by rfl,?_⟩) hHeld ?_ ?_;rotate_left
        ·rintro w' ⟨s0,s1,s2,s3,s4,s5,s6,s7,s8,s9⟩;go_simp;with_reducible rfl
        rotate_left
        ·simp only [Act.put,List.setIfInBounds_toArray,List.set_cons_zero,List.set_cons_succ,Vb,Wb]
         rfl
        refine Ko (i:=8) (N:=some 25) #[true,true,true,true,true,true,true,true,true,false] rfl rfl (vp mg.out (by kernel_rfl)) (by decide) (fun K hK=>?_);refine ju Try.func108 (by kernel_rfl) rfl #[.agg #[.slice jm ((Ta l0 Ca).f0).length Zl,.int .i64 ((Ta l0 Ca).f1),.int .i64 ((Ta l0 Ca).f2),.int .i64 ((Ta l0 Ca).f3),.int .i64 ((Ta l0 Ca).f4)],.agg #[.slice sx ((Ta l1 Ca).f0).length cx,.int .i64 ((Ta l1 Ca).f1),.int .i64 ((Ta l1 Ca).f2),.int .i64 ((Ta l1 Ca).f3),.int .i64 ((Ta l1 Ca).f4)]] (by rfl) rfl rfl (by (try simp only [List.map_toArray,List.map_cons,List.map_nil]);first|done|rfl|(simp only [List.length_drop,List.length_take];rfl)) ?_;with_reducible refine (Uk.calls k1 _ _ ((Ta l0 Ca).f0) ((Ta l0 Ca).f1) ((Ta l0 Ca).f2) ((Ta l0 Ca).f3) ((Ta l0 Ca).f4) _ _ ((Ta l1 Ca).f0) ((Ta l1 Ca).f1) ((Ta l1 Ca).f2) ((Ta l1 Ca).f3) ((Ta l1 Ca).f4) false _ ?jc ?ic ?Ed ?Dd A7.out).mono ?_
        (case jc=>repeat (first|exact (Kd.Ib uh.out HB.out)|(with_reducible refine Kd.Jb ?_ _)|(with_reducible refine Kd.Gb ?_ _)|(with_reducible refine Kd.dc ?_)))
        (case ic=>exact Yh.out)
        (case Ed=>repeat (first|exact (Kd.Ib Zk.out HB.out)|(with_reducible refine Kd.Jb ?_ _)|(with_reducible refine Kd.Gb ?_ _)|(with_reducible refine Kd.dc ?_)))
        (case Dd=>exact bn.out)
        rintro e DA ⟨rfl,hb⟩;refine ⟨_,rfl,?_⟩;have Cb:=aa.mk (Oa (by repeat (first|(with_reducible first|exact HB.out|apply oa|apply ia|apply qa)|exact HB.out)) hb);clear HB;have HB:=Cb;clear Cb;(try clear hb);(try clear Gj);(try clear hk);(try clear hi);refine hK.out _ _ ⟨(Sa HB.out Km),(Sa HB.out Jm),(Sa HB.out Im),(Sa HB.out Gm),(Sa HB.out Fm),(Sa HB.out Em),(Sa HB.out Dm),(Sa HB.out Cm),(Sa HB.out Bm),(Sa HB.out Am)⟩ (fun hHeld=>?_);clear hK K;refine Rg (a':=?_) ?_ ?_;rotate_left
        ·show Act.put _ (some 25) _=_
         simp only [Act.put,List.setIfInBounds_toArray,List.set_cons_zero,List.set_cons_succ,Vb,Wb]
         rfl
        refine od (i:=9) (N:=some 26) (v:=?_) (a':=?_) #[true,true,true,true,true,true,true,true,true,true] rfl rfl (Vc mg.out (by kernel_rfl)) (fun _ _ _ h=>h) (Or.inl ⟨by rfl,?_⟩) ?_ ?_;rotate_left
        ·intro w';go_simp;with_reducible rfl
        rotate_left
        ·simp only [Act.put,List.setIfInBounds_toArray,List.set_cons_zero,List.set_cons_succ,Vb,Wb]
         rfl
        refine Mp (Sl mg.out (by kernel_rfl)) ?_
        try go_wp2
        go_ret;exact ⟨by first|rfl|(simp [Ra,Qa] <;> rfl)|(simp [*,Ra,Qa] <;> rfl),by repeat (first|(with_reducible first|exact HB.out|apply oa|apply ia|apply qa)|exact HB.out)⟩
      ·rw [if_neg c6] at H;exact absurd H (by simp)
     ·rw [if_neg c5] at H;exact absurd H (by simp)
    ·rw [if_neg c4] at H;have Mk:decide (Ca < (l0.length:Int))=false:=decide_eq_false c4;clear c4;obtain rfl:=Option.some.inj H;go_wp2;go_ret;exact ⟨by first|rfl|(simp [Ra,Qa] <;> rfl)|(simp [*,Ra,Qa] <;> rfl),by repeat (first|(with_reducible first|exact HB.out|apply oa|apply ia|apply qa)|exact HB.out)⟩
 ·rw [if_neg c3] at H;have bh:((l0.length:Int) == (l1.length:Int))=false:=beq_eq_false_iff_ne.mpr c3;have Uo:((l0.length:Int) != (l1.length:Int))=true:=bne_iff_ne.mpr c3;have qD:(l0.length == l1.length)=false:=by first|simpa using c3|(simp at c3 ⊢;omega)
  obtain rfl:=Option.some.inj H;go_enter Try.func80,Try.ntmps80;go_wp2;go_ret;exact ⟨by first|rfl|(simp [Ra,Qa] <;> rfl)|(simp [*,Ra,Qa] <;> rfl),by repeat (first|(with_reducible first|exact HB.out|apply oa|apply ia|apply qa)|exact HB.out)⟩
def Cj.f (k:Nat) (Ma:List Int) (La:Int) (Na:Int) (Ka:Int) (Ea:List (Df)) (Zc:List Int) (qc:Int) (ec:Int) (fc:Int) (gn:List (Df)):Option (Bool):=(Jd.f k Ma Zc).bind fun t103=>(if t103=true then (if La=qc then (if Na=ec then (if Ka=fc then ((Sc.f k Ea gn).bind fun t104=>(if t104=true then (some true) else (some false))) else (some false)) else (some false)) else (some false)) else (some false))
theorem Cj.calls (k:Nat) (xb:Option Addr) (qb:Nat) (Ma:List Int) (La:Int) (Na:Int) (Ka:Int) (Qb:Option Addr) (Kb:Nat) (Ea:List (Df)) (dg:Option Addr) (Rf:Nat) (Zc:List Int) (qc:Int) (ec:Int) (fc:Int) (xu:Option Addr) (tu:Nat) (gn:List (Df)) (r:Bool) (w:World) (Re:Kd.C (Kd.int .i64) w xb Ma.length Ma) (Pe:Ma.length ≤ qb) (Cg:Kd.C Pr w Qb Ea.length Ea) (zg:Ea.length ≤ Kb) (Aw:Kd.C (Kd.int .i64) w dg Zc.length Zc) (Cw:Zc.length ≤ Rf) (C0:Kd.C Pr w xu gn.length gn) (X1:gn.length ≤ tu) (h:Cj.f k Ma La Na Ka Ea Zc qc ec fc gn=some r) :
  Calls Try.prog 29 #[.agg #[.slice xb Ma.length qb,.int .i64 La,.int .i64 Na,.int .i64 Ka,.slice Qb Ea.length Kb],.agg #[.slice dg Zc.length Rf,.int .i64 qc,.int .i64 ec,.int .i64 fc,.slice xu gn.length tu]] w fun e w'=>e = .returned (.bool r)∧Below w.heap.size w w':=by
 have RC:=Try.underlying45;have Ue:=aa.mk Re;have af:=aa.mk Pe;clear Re Pe;have Xf:=aa.mk Cg;have Zg:=aa.mk zg;clear Cg zg;have Pp:=aa.mk Aw;have Hr:=aa.mk Cw;clear Aw Cw;have Z3:=aa.mk C0;have Y4:=aa.mk X1;clear C0 X1;have HB:=aa.mk (Below.refl w.heap.size w);have H:((Jd.f k Ma Zc).bind fun t103=>(if t103=true then (if La=qc then (if Na=ec then (if Ka=fc then ((Sc.f k Ea gn).bind fun t104=>(if t104=true then (some true) else (some false))) else (some false)) else (some false)) else (some false)) else (some false)))=some r:=h;clear h;replace H:=Option.bind_eq_some_iff.mp H;obtain ⟨t103,GD,H⟩:=H;replace H:(if t103=true then (if La=qc then (if Na=ec then (if Ka=fc then ((Sc.f k Ea gn).bind fun t104=>(if t104=true then (some true) else (some false))) else (some false)) else (some false)) else (some false)) else (some false))=some r:=H;have A3:=aa.mk GD;clear GD
 by_cases c4:t103=true
 ·subst c4;have H1:(if La=qc then (if Na=ec then (if Ka=fc then ((Sc.f k Ea gn).bind fun t104=>(if t104=true then (some true) else (some false))) else (some false)) else (some false)) else (some false))=some r:=by rw [if_pos rfl] at H;exact H
  clear H;have H:=H1;clear H1
  by_cases c5:La=qc
  ·rw [if_pos c5] at H;have Sn:(La == qc)=true:=beq_iff_eq.mpr c5;have nA:(La != qc)=false:=bne_eq_false_iff_eq.mpr c5;clear c5
   by_cases c6:Na=ec
   ·rw [if_pos c6] at H;have Ro:(Na == ec)=true:=beq_iff_eq.mpr c6;have iI:(Na != ec)=false:=bne_eq_false_iff_eq.mpr c6;clear c6
    by_cases c7:Ka=fc
    ·rw [if_pos c7] at H;have Xt:(Ka == fc)=true:=beq_iff_eq.mpr c7;have nD:(Ka != fc)=false:=bne_eq_false_iff_eq.mpr c7;clear c7;replace H:=Option.bind_eq_some_iff.mp H;obtain ⟨t104,gV,H⟩:=H;replace H:(if t104=true then (some true) else (some false))=some r:=H;have A8:=aa.mk gV;clear gV
     by_cases c9:t104=true
     ·subst c9;have H1:(some true)=some r:=by rw [if_pos rfl] at H;exact H
      clear H;have H:=H1;clear H1;obtain rfl:=Option.some.inj H;go_enter Try.func29,Try.ntmps29;go_wp2_with (first|((with_reducible refine Bb (N:=2) rfl ?_);refine Ob ?hg (N:=2) ?hd (cs:=#[.slice xb Ma.length qb,.int .i64 La,.int .i64 Na,.int .i64 Ka,.slice Qb Ea.length Kb]) (t:=45) ?hr ?_;(case hd=>rfl);(case hg=>rfl);(case hr=>first|(go_simp;done)|(go_simp;rfl));intro za hg Nq oc hb;have Cb:=aa.mk (Oa (by repeat (first|(with_reducible first|exact HB.out|apply oa|apply ia|apply qa)|exact HB.out)) hb);have Lb:=aa.mk (oc);have Pb:=aa.mk ((by rw [hg];exact (Ja (by repeat (first|(with_reducible first|exact HB.out|apply oa|apply ia|apply qa)|exact HB.out))):w.heap.size ≤ za));have Ec:=aa.mk ((by rw [hg];exact (Ja (by repeat (first|(with_reducible first|exact HB.out|apply oa|apply ia|apply qa)|exact HB.out))):w.heap.size ≤ za));clear HB;have HB:=Cb;have ta:=Lb;have He:=Pb;have Ua:=Ec;clear Cb Lb Pb Ec hb oc hg)|((with_reducible refine Bb (N:=3) rfl ?_);refine Ob ?hg (N:=3) ?hd (cs:=#[.slice dg Zc.length Rf,.int .i64 qc,.int .i64 ec,.int .i64 fc,.slice xu gn.length tu]) (t:=45) ?hr ?_;(case hd=>rfl);(case hg=>rfl);(case hr=>first|(go_simp;done)|(go_simp;rfl));intro Ga hg Vj oc hb;have Cb:=aa.mk (Xa (g:=za) (o:=.cells #[.slice xb Ma.length qb,.int .i64 La,.int .i64 Na,.int .i64 Ka,.slice Qb Ea.length Kb] 45 (0,0)) (by (with_reducible repeat (first|refine Aa ?_ _|refine Fa ?_|refine Ba ?_ _));exact ta.out) hb);have Lb:=aa.mk (Oa (by repeat (first|(with_reducible first|exact HB.out|apply oa|apply ia|apply qa|refine ua ?_ Ua.out)|exact HB.out)) hb);have Pb:=aa.mk (oc);have Ec:=aa.mk ((by rw [hg];exact (Ja (by repeat (first|(with_reducible first|exact HB.out|apply oa|apply ia|apply qa|refine ua ?_ Ua.out)|exact HB.out))):w.heap.size ≤ Ga));have fe:=aa.mk ((by rw [hg];exact (Ja (by repeat (first|(with_reducible first|exact HB.out|apply oa|apply ia|apply qa|refine ua ?_ Ua.out)|exact HB.out))):w.heap.size ≤ Ga));have Af:=aa.mk ((by rw [hg];exact Nat.ne_of_lt (qd (g:=za) (o:=.cells #[.slice xb Ma.length qb,.int .i64 La,.int .i64 Na,.int .i64 Ka,.slice Qb Ea.length Kb] 45 (0,0)) (by (with_reducible repeat (first|refine Aa ?_ _|refine Fa ?_|refine Ba ?_ _));exact ta.out)):za ≠ Ga));have Ah:=aa.mk ((by rw [hg];exact Nat.ne_of_gt (qd (g:=za) (o:=.cells #[.slice xb Ma.length qb,.int .i64 La,.int .i64 Na,.int .i64 Ka,.slice Qb Ea.length Kb] 45 (0,0)) (by (with_reducible repeat (first|refine Aa ?_ _|refine Fa ?_|refine Ba ?_ _));exact ta.out)):Ga ≠ za));clear ta HB;have ta:=Cb;have HB:=Lb;have ya:=Pb;have zk:=Ec;have Rc:=fe;have Fb:=Af;have Eb:=Ah;clear Cb Lb Pb Ec fe Af Ah hb oc hg;have P0:=Fb.out;have L0:=Eb.out;have Vt:Vj.cell? ⟨za,0,none⟩=some (.slice xb Ma.length qb):=(ja ta.out 0).trans rfl;have Ut:Vj.cell? ⟨za,1,none⟩=some (.int .i64 La):=(ja ta.out 1).trans rfl;have Tt:Vj.cell? ⟨za,2,none⟩=some (.int .i64 Na):=(ja ta.out 2).trans rfl;have St:Vj.cell? ⟨za,3,none⟩=some (.int .i64 Ka):=(ja ta.out 3).trans rfl;have Rt:Vj.cell? ⟨za,4,none⟩=some (.slice Qb Ea.length Kb):=(ja ta.out 4).trans rfl;have Lt:=ga ta.out 0;have Kt:=ga ta.out 1;have Jt:=ga ta.out 2;have Ht:=ga ta.out 3;have Gt:=ga ta.out 4;have Qt:Vj.cell? ⟨Ga,0,none⟩=some (.slice dg Zc.length Rf):=(ja ya.out 0).trans rfl;have Pt:Vj.cell? ⟨Ga,1,none⟩=some (.int .i64 qc):=(ja ya.out 1).trans rfl;have Ot:Vj.cell? ⟨Ga,2,none⟩=some (.int .i64 ec):=(ja ya.out 2).trans rfl;have Nt:Vj.cell? ⟨Ga,3,none⟩=some (.int .i64 fc):=(ja ya.out 3).trans rfl;have Mt:Vj.cell? ⟨Ga,4,none⟩=some (.slice xu gn.length tu):=(ja ya.out 4).trans rfl;have Ft:=ga ya.out 0;have Et:=ga ya.out 1;have Dt:=ga ya.out 2;have Ct:=ga ya.out 3;have Bt:=ga ya.out 4)|((with_reducible refine Ab (f:=17) rfl ?_);refine Uc (some 9) rfl rfl Try.func17 (by kernel_rfl) rfl #[.slice xb Ma.length qb,.slice dg Zc.length Rf] rfl (by (try simp only [List.map_toArray,List.map_cons,List.map_nil]);first|done|rfl|(simp only [List.length_drop,List.length_take];rfl)) ?_;(with_reducible refine (Jd.calls k _ _ Ma _ _ Zc true _ ?jc ?ic ?Ed ?Dd A3.out).mono ?_);(case jc=>repeat (first|exact (Kd.Ib Ue.out HB.out)|(with_reducible refine Kd.Jb ?_ _)|(with_reducible refine Kd.Gb ?_ _)|(with_reducible refine Kd.dc ?_)));(case ic=>exact af.out);(case Ed=>repeat (first|exact (Kd.Ib Pp.out HB.out)|(with_reducible refine Kd.Jb ?_ _)|(with_reducible refine Kd.Gb ?_ _)|(with_reducible refine Kd.dc ?_)));(case Dd=>exact Hr.out);rintro e w' ⟨rfl,⟨nd,rfl⟩⟩;refine ⟨_,rfl,?_⟩)|((with_reducible refine Ab (f:=80) rfl ?_);refine Uc (some 30) rfl rfl Try.func80 (by kernel_rfl) rfl #[.slice Qb Ea.length Kb,.slice xu gn.length tu] rfl (by (try simp only [List.map_toArray,List.map_cons,List.map_nil]);first|done|rfl|(simp only [List.length_drop,List.length_take];rfl)) ?_;(with_reducible refine (Sc.calls k _ _ Ea _ _ gn true _ ?jc ?ic ?Ed ?Dd A8.out).mono ?_);(case jc=>repeat (first|exact (Kd.Ib Xf.out (by repeat (first|(with_reducible first|exact HB.out|apply oa|apply ia|apply qa|refine ua ?_ Ua.out|refine ua ?_ Rc.out)|exact HB.out)))|(with_reducible refine Kd.Jb ?_ _)|(with_reducible refine Kd.Gb ?_ _)|(with_reducible refine Kd.dc ?_)));(case ic=>exact Zg.out);(case Ed=>repeat (first|exact (Kd.Ib Z3.out (by repeat (first|(with_reducible first|exact HB.out|apply oa|apply ia|apply qa|refine ua ?_ Ua.out|refine ua ?_ Rc.out)|exact HB.out)))|(with_reducible refine Kd.Jb ?_ _)|(with_reducible refine Kd.Gb ?_ _)|(with_reducible refine Kd.dc ?_)));(case Dd=>exact Y4.out);rintro e Fs ⟨rfl,hb⟩;refine ⟨_,rfl,?_⟩;have Cb:=aa.mk (Xa (g:=za) (o:=.cells #[.slice xb Ma.length qb,.int .i64 La,.int .i64 Na,.int .i64 Ka,.slice Qb Ea.length Kb] 45 (0,0)) (by (with_reducible repeat (first|refine Aa ?_ _|refine Fa ?_|refine Ba ?_ _));exact ta.out) hb);have Lb:=aa.mk (Xa (g:=Ga) (o:=.cells #[.slice dg Zc.length Rf,.int .i64 qc,.int .i64 ec,.int .i64 fc,.slice xu gn.length tu] 45 (0,0)) (by (with_reducible repeat (first|refine Aa ?_ _|refine Fa ?_|refine Ba ?_ _));exact ya.out) hb);have Pb:=aa.mk (Oa (by repeat (first|(with_reducible first|exact HB.out|apply oa|apply ia|apply qa|refine ua ?_ Ua.out|refine ua ?_ Rc.out)|exact HB.out)) hb);clear ta ya HB;have ta:=Cb;have ya:=Lb;have HB:=Pb;clear Cb Lb Pb;(try clear hb);(try clear Gj);(try clear hk);(try clear hi)));go_ret;exact ⟨by first|rfl|(simp [Ra,Qa] <;> rfl)|(simp [*,Ra,Qa] <;> rfl),by repeat (first|(with_reducible first|exact HB.out|apply oa|apply ia|apply qa|refine ua ?_ Ua.out|refine ua ?_ Rc.out)|exact HB.out)⟩
     ·replace c9:=Bool.eq_false_iff.mpr c9;subst c9;have H1:(some false)=some r:=by rw [if_neg (show ¬ (false=true) by decide)] at H;exact H
      clear H;have H:=H1;clear H1;obtain rfl:=Option.some.inj H;go_enter Try.func29,Try.ntmps29;go_wp2_with (first|((with_reducible refine Bb (N:=2) rfl ?_);refine Ob ?hg (N:=2) ?hd (cs:=#[.slice xb Ma.length qb,.int .i64 La,.int .i64 Na,.int .i64 Ka,.slice Qb Ea.length Kb]) (t:=45) ?hr ?_;(case hd=>rfl);(case hg=>rfl);(case hr=>first|(go_simp;done)|(go_simp;rfl));intro za hg qE oc hb;have Cb:=aa.mk (Oa (by repeat (first|(with_reducible first|exact HB.out|apply oa|apply ia|apply qa)|exact HB.out)) hb);have Lb:=aa.mk (oc);have Pb:=aa.mk ((by rw [hg];exact (Ja (by repeat (first|(with_reducible first|exact HB.out|apply oa|apply ia|apply qa)|exact HB.out))):w.heap.size ≤ za));have Ec:=aa.mk ((by rw [hg];exact (Ja (by repeat (first|(with_reducible first|exact HB.out|apply oa|apply ia|apply qa)|exact HB.out))):w.heap.size ≤ za));clear HB;have HB:=Cb;have ta:=Lb;have He:=Pb;have Ua:=Ec;clear Cb Lb Pb Ec hb oc hg)|((with_reducible refine Bb (N:=3) rfl ?_);refine Ob ?hg (N:=3) ?hd (cs:=#[.slice dg Zc.length Rf,.int .i64 qc,.int .i64 ec,.int .i64 fc,.slice xu gn.length tu]) (t:=45) ?hr ?_;(case hd=>rfl);(case hg=>rfl);(case hr=>first|(go_simp;done)|(go_simp;rfl));intro Ga hg kn oc hb;have Cb:=aa.mk (Xa (g:=za) (o:=.cells #[.slice xb Ma.length qb,.int .i64 La,.int .i64 Na,.int .i64 Ka,.slice Qb Ea.length Kb] 45 (0,0)) (by (with_reducible repeat (first|refine Aa ?_ _|refine Fa ?_|refine Ba ?_ _));exact ta.out) hb);have Lb:=aa.mk (Oa (by repeat (first|(with_reducible first|exact HB.out|apply oa|apply ia|apply qa|refine ua ?_ Ua.out)|exact HB.out)) hb);have Pb:=aa.mk (oc);have Ec:=aa.mk ((by rw [hg];exact (Ja (by repeat (first|(with_reducible first|exact HB.out|apply oa|apply ia|apply qa|refine ua ?_ Ua.out)|exact HB.out))):w.heap.size ≤ Ga));have fe:=aa.mk ((by rw [hg];exact (Ja (by repeat (first|(with_reducible first|exact HB.out|apply oa|apply ia|apply qa|refine ua ?_ Ua.out)|exact HB.out))):w.heap.size ≤ Ga));have Af:=aa.mk ((by rw [hg];exact Nat.ne_of_lt (qd (g:=za) (o:=.cells #[.slice xb Ma.length qb,.int .i64 La,.int .i64 Na,.int .i64 Ka,.slice Qb Ea.length Kb] 45 (0,0)) (by (with_reducible repeat (first|refine Aa ?_ _|refine Fa ?_|refine Ba ?_ _));exact ta.out)):za ≠ Ga));have Ah:=aa.mk ((by rw [hg];exact Nat.ne_of_gt (qd (g:=za) (o:=.cells #[.slice xb Ma.length qb,.int .i64 La,.int .i64 Na,.int .i64 Ka,.slice Qb Ea.length Kb] 45 (0,0)) (by (with_reducible repeat (first|refine Aa ?_ _|refine Fa ?_|refine Ba ?_ _));exact ta.out)):Ga ≠ za));clear ta HB;have ta:=Cb;have HB:=Lb;have ya:=Pb;have zk:=Ec;have Rc:=fe;have Fb:=Af;have Eb:=Ah;clear Cb Lb Pb Ec fe Af Ah hb oc hg;have Qav:=Fb.out;have iav:=Eb.out;have NY:kn.cell? ⟨za,0,none⟩=some (.slice xb Ma.length qb):=(ja ta.out 0).trans rfl;have MY:kn.cell? ⟨za,1,none⟩=some (.int .i64 La):=(ja ta.out 1).trans rfl;have LY:kn.cell? ⟨za,2,none⟩=some (.int .i64 Na):=(ja ta.out 2).trans rfl;have KY:kn.cell? ⟨za,3,none⟩=some (.int .i64 Ka):=(ja ta.out 3).trans rfl;have JY:kn.cell? ⟨za,4,none⟩=some (.slice Qb Ea.length Kb):=(ja ta.out 4).trans rfl;have BX:=ga ta.out 0;have AX:=ga ta.out 1;have zX:=ga ta.out 2;have yX:=ga ta.out 3;have xX:=ga ta.out 4;have zH:kn.cell? ⟨Ga,0,none⟩=some (.slice dg Zc.length Rf):=(ja ya.out 0).trans rfl;have yH:kn.cell? ⟨Ga,1,none⟩=some (.int .i64 qc):=(ja ya.out 1).trans rfl;have xH:kn.cell? ⟨Ga,2,none⟩=some (.int .i64 ec):=(ja ya.out 2).trans rfl;have wH:kn.cell? ⟨Ga,3,none⟩=some (.int .i64 fc):=(ja ya.out 3).trans rfl;have vH:kn.cell? ⟨Ga,4,none⟩=some (.slice xu gn.length tu):=(ja ya.out 4).trans rfl;have wG:=ga ya.out 0;have vG:=ga ya.out 1;have uG:=ga ya.out 2;have sG:=ga ya.out 3;have rG:=ga ya.out 4)|((with_reducible refine Ab (f:=17) rfl ?_);refine Uc (some 9) rfl rfl Try.func17 (by kernel_rfl) rfl #[.slice xb Ma.length qb,.slice dg Zc.length Rf] rfl (by (try simp only [List.map_toArray,List.map_cons,List.map_nil]);first|done|rfl|(simp only [List.length_drop,List.length_take];rfl)) ?_;(with_reducible refine (Jd.calls k _ _ Ma _ _ Zc true _ ?jc ?ic ?Ed ?Dd A3.out).mono ?_);(case jc=>repeat (first|exact (Kd.Ib Ue.out HB.out)|(with_reducible refine Kd.Jb ?_ _)|(with_reducible refine Kd.Gb ?_ _)|(with_reducible refine Kd.dc ?_)));(case ic=>exact af.out);(case Ed=>repeat (first|exact (Kd.Ib Pp.out HB.out)|(with_reducible refine Kd.Jb ?_ _)|(with_reducible refine Kd.Gb ?_ _)|(with_reducible refine Kd.dc ?_)));(case Dd=>exact Hr.out);rintro e w' ⟨rfl,⟨nd,rfl⟩⟩;refine ⟨_,rfl,?_⟩)|((with_reducible refine Ab (f:=80) rfl ?_);refine Uc (some 30) rfl rfl Try.func80 (by kernel_rfl) rfl #[.slice Qb Ea.length Kb,.slice xu gn.length tu] rfl (by (try simp only [List.map_toArray,List.map_cons,List.map_nil]);first|done|rfl|(simp only [List.length_drop,List.length_take];rfl)) ?_;(with_reducible refine (Sc.calls k _ _ Ea _ _ gn false _ ?jc ?ic ?Ed ?Dd A8.out).mono ?_);(case jc=>repeat (first|exact (Kd.Ib Xf.out (by repeat (first|(with_reducible first|exact HB.out|apply oa|apply ia|apply qa|refine ua ?_ Ua.out|refine ua ?_ Rc.out)|exact HB.out)))|(with_reducible refine Kd.Jb ?_ _)|(with_reducible refine Kd.Gb ?_ _)|(with_reducible refine Kd.dc ?_)));(case ic=>exact Zg.out);(case Ed=>repeat (first|exact (Kd.Ib Z3.out (by repeat (first|(with_reducible first|exact HB.out|apply oa|apply ia|apply qa|refine ua ?_ Ua.out|refine ua ?_ Rc.out)|exact HB.out)))|(with_reducible refine Kd.Jb ?_ _)|(with_reducible refine Kd.Gb ?_ _)|(with_reducible refine Kd.dc ?_)));(case Dd=>exact Y4.out);rintro e xq ⟨rfl,hb⟩;refine ⟨_,rfl,?_⟩;have Cb:=aa.mk (Xa (g:=za) (o:=.cells #[.slice xb Ma.length qb,.int .i64 La,.int .i64 Na,.int .i64 Ka,.slice Qb Ea.length Kb] 45 (0,0)) (by (with_reducible repeat (first|refine Aa ?_ _|refine Fa ?_|refine Ba ?_ _));exact ta.out) hb);have Lb:=aa.mk (Xa (g:=Ga) (o:=.cells #[.slice dg Zc.length Rf,.int .i64 qc,.int .i64 ec,.int .i64 fc,.slice xu gn.length tu] 45 (0,0)) (by (with_reducible repeat (first|refine Aa ?_ _|refine Fa ?_|refine Ba ?_ _));exact ya.out) hb);have Pb:=aa.mk (Oa (by repeat (first|(with_reducible first|exact HB.out|apply oa|apply ia|apply qa|refine ua ?_ Ua.out|refine ua ?_ Rc.out)|exact HB.out)) hb);clear ta ya HB;have ta:=Cb;have ya:=Lb;have HB:=Pb;clear Cb Lb Pb;(try clear hb);(try clear Gj);(try clear hk);(try clear hi)));go_ret;exact ⟨by first|rfl|(simp [Ra,Qa] <;> rfl)|(simp [*,Ra,Qa] <;> rfl),by repeat (first|(with_reducible first|exact HB.out|apply oa|apply ia|apply qa|refine ua ?_ Ua.out|refine ua ?_ Rc.out)|exact HB.out)⟩
    ·rw [if_neg c7] at H;have Xt:(Ka == fc)=false:=beq_eq_false_iff_ne.mpr c7;have nD:(Ka != fc)=true:=bne_iff_ne.mpr c7;obtain rfl:=Option.some.inj H;go_enter Try.func29,Try.ntmps29;go_wp2_with (first|((with_reducible refine Bb (N:=2) rfl ?_);refine Ob ?hg (N:=2) ?hd (cs:=#[.slice xb Ma.length qb,.int .i64 La,.int .i64 Na,.int .i64 Ka,.slice Qb Ea.length Kb]) (t:=45) ?hr ?_;(case hd=>rfl);(case hg=>rfl);(case hr=>first|(go_simp;done)|(go_simp;rfl));intro za hg SR oc hb;have Cb:=aa.mk (Oa (by repeat (first|(with_reducible first|exact HB.out|apply oa|apply ia|apply qa)|exact HB.out)) hb);have Lb:=aa.mk (oc);have Pb:=aa.mk ((by rw [hg];exact (Ja (by repeat (first|(with_reducible first|exact HB.out|apply oa|apply ia|apply qa)|exact HB.out))):w.heap.size ≤ za));have Ec:=aa.mk ((by rw [hg];exact (Ja (by repeat (first|(with_reducible first|exact HB.out|apply oa|apply ia|apply qa)|exact HB.out))):w.heap.size ≤ za));clear HB;have HB:=Cb;have ta:=Lb;have He:=Pb;have Ua:=Ec;clear Cb Lb Pb Ec hb oc hg)|((with_reducible refine Bb (N:=3) rfl ?_);refine Ob ?hg (N:=3) ?hd (cs:=#[.slice dg Zc.length Rf,.int .i64 qc,.int .i64 ec,.int .i64 fc,.slice xu gn.length tu]) (t:=45) ?hr ?_;(case hd=>rfl);(case hg=>rfl);(case hr=>first|(go_simp;done)|(go_simp;rfl));intro Ga hg Kw oc hb;have Cb:=aa.mk (Xa (g:=za) (o:=.cells #[.slice xb Ma.length qb,.int .i64 La,.int .i64 Na,.int .i64 Ka,.slice Qb Ea.length Kb] 45 (0,0)) (by (with_reducible repeat (first|refine Aa ?_ _|refine Fa ?_|refine Ba ?_ _));exact ta.out) hb);have Lb:=aa.mk (Oa (by repeat (first|(with_reducible first|exact HB.out|apply oa|apply ia|apply qa|refine ua ?_ Ua.out)|exact HB.out)) hb);have Pb:=aa.mk (oc);have Ec:=aa.mk ((by rw [hg];exact (Ja (by repeat (first|(with_reducible first|exact HB.out|apply oa|apply ia|apply qa|refine ua ?_ Ua.out)|exact HB.out))):w.heap.size ≤ Ga));have fe:=aa.mk ((by rw [hg];exact (Ja (by repeat (first|(with_reducible first|exact HB.out|apply oa|apply ia|apply qa|refine ua ?_ Ua.out)|exact HB.out))):w.heap.size ≤ Ga));have Af:=aa.mk ((by rw [hg];exact Nat.ne_of_lt (qd (g:=za) (o:=.cells #[.slice xb Ma.length qb,.int .i64 La,.int .i64 Na,.int .i64 Ka,.slice Qb Ea.length Kb] 45 (0,0)) (by (with_reducible repeat (first|refine Aa ?_ _|refine Fa ?_|refine Ba ?_ _));exact ta.out)):za ≠ Ga));have Ah:=aa.mk ((by rw [hg];exact Nat.ne_of_gt (qd (g:=za) (o:=.cells #[.slice xb Ma.length qb,.int .i64 La,.int .i64 Na,.int .i64 Ka,.slice Qb Ea.length Kb] 45 (0,0)) (by (with_reducible repeat (first|refine Aa ?_ _|refine Fa ?_|refine Ba ?_ _));exact ta.out)):Ga ≠ za));clear ta HB;have ta:=Cb;have HB:=Lb;have ya:=Pb;have zk:=Ec;have Rc:=fe;have Fb:=Af;have Eb:=Ah;clear Cb Lb Pb Ec fe Af Ah hb oc hg;have Xaa:=Fb.out;have Oaa:=Eb.out;have Rv:Kw.cell? ⟨za,0,none⟩=some (.slice xb Ma.length qb):=(ja ta.out 0).trans rfl;have Qv:Kw.cell? ⟨za,1,none⟩=some (.int .i64 La):=(ja ta.out 1).trans rfl;have Pv:Kw.cell? ⟨za,2,none⟩=some (.int .i64 Na):=(ja ta.out 2).trans rfl;have Ov:Kw.cell? ⟨za,3,none⟩=some (.int .i64 Ka):=(ja ta.out 3).trans rfl;have Nv:Kw.cell? ⟨za,4,none⟩=some (.slice Qb Ea.length Kb):=(ja ta.out 4).trans rfl;have Bv:=ga ta.out 0;have Av:=ga ta.out 1;have wv:=ga ta.out 2;have vv:=ga ta.out 3;have uv:=ga ta.out 4;have dz:Kw.cell? ⟨Ga,0,none⟩=some (.slice dg Zc.length Rf):=(ja ya.out 0).trans rfl;have cz:Kw.cell? ⟨Ga,1,none⟩=some (.int .i64 qc):=(ja ya.out 1).trans rfl;have bz:Kw.cell? ⟨Ga,2,none⟩=some (.int .i64 ec):=(ja ya.out 2).trans rfl;have az:Kw.cell? ⟨Ga,3,none⟩=some (.int .i64 fc):=(ja ya.out 3).trans rfl;have Zy:Kw.cell? ⟨Ga,4,none⟩=some (.slice xu gn.length tu):=(ja ya.out 4).trans rfl;have Hy:=ga ya.out 0;have Gy:=ga ya.out 1;have Fy:=ga ya.out 2;have Ey:=ga ya.out 3;have Dy:=ga ya.out 4)|((with_reducible refine Ab (f:=17) rfl ?_);refine Uc (some 9) rfl rfl Try.func17 (by kernel_rfl) rfl #[.slice xb Ma.length qb,.slice dg Zc.length Rf] rfl (by (try simp only [List.map_toArray,List.map_cons,List.map_nil]);first|done|rfl|(simp only [List.length_drop,List.length_take];rfl)) ?_;(with_reducible refine (Jd.calls k _ _ Ma _ _ Zc true _ ?jc ?ic ?Ed ?Dd A3.out).mono ?_);(case jc=>repeat (first|exact (Kd.Ib Ue.out HB.out)|(with_reducible refine Kd.Jb ?_ _)|(with_reducible refine Kd.Gb ?_ _)|(with_reducible refine Kd.dc ?_)));(case ic=>exact af.out);(case Ed=>repeat (first|exact (Kd.Ib Pp.out HB.out)|(with_reducible refine Kd.Jb ?_ _)|(with_reducible refine Kd.Gb ?_ _)|(with_reducible refine Kd.dc ?_)));(case Dd=>exact Hr.out);rintro e w' ⟨rfl,⟨nd,rfl⟩⟩;refine ⟨_,rfl,?_⟩));go_ret;exact ⟨by first|rfl|(simp [Ra,Qa] <;> rfl)|(simp [*,Ra,Qa] <;> rfl),by repeat (first|(with_reducible first|exact HB.out|apply oa|apply ia|apply qa|refine ua ?_ Ua.out|refine ua ?_ Rc.out)|exact HB.out)⟩
   ·rw [if_neg c6] at H;have Ro:(Na == ec)=false:=beq_eq_false_iff_ne.mpr c6;have iI:(Na != ec)=true:=bne_iff_ne.mpr c6;obtain rfl:=Option.some.inj H;go_enter Try.func29,Try.ntmps29;go_wp2_with (first|((with_reducible refine Bb (N:=2) rfl ?_);refine Ob ?hg (N:=2) ?hd (cs:=#[.slice xb Ma.length qb,.int .i64 La,.int .i64 Na,.int .i64 Ka,.slice Qb Ea.length Kb]) (t:=45) ?hr ?_;(case hd=>rfl);(case hg=>rfl);(case hr=>first|(go_simp;done)|(go_simp;rfl));intro za hg w27 oc hb;have Cb:=aa.mk (Oa (by repeat (first|(with_reducible first|exact HB.out|apply oa|apply ia|apply qa)|exact HB.out)) hb);have Lb:=aa.mk (oc);have Pb:=aa.mk ((by rw [hg];exact (Ja (by repeat (first|(with_reducible first|exact HB.out|apply oa|apply ia|apply qa)|exact HB.out))):w.heap.size ≤ za));have Ec:=aa.mk ((by rw [hg];exact (Ja (by repeat (first|(with_reducible first|exact HB.out|apply oa|apply ia|apply qa)|exact HB.out))):w.heap.size ≤ za));clear HB;have HB:=Cb;have ta:=Lb;have He:=Pb;have Ua:=Ec;clear Cb Lb Pb Ec hb oc hg)|((with_reducible refine Bb (N:=3) rfl ?_);refine Ob ?hg (N:=3) ?hd (cs:=#[.slice dg Zc.length Rf,.int .i64 qc,.int .i64 ec,.int .i64 fc,.slice xu gn.length tu]) (t:=45) ?hr ?_;(case hd=>rfl);(case hg=>rfl);(case hr=>first|(go_simp;done)|(go_simp;rfl));intro Ga hg pL oc hb;have Cb:=aa.mk (Xa (g:=za) (o:=.cells #[.slice xb Ma.length qb,.int .i64 La,.int .i64 Na,.int .i64 Ka,.slice Qb Ea.length Kb] 45 (0,0)) (by (with_reducible repeat (first|refine Aa ?_ _|refine Fa ?_|refine Ba ?_ _));exact ta.out) hb);have Lb:=aa.mk (Oa (by repeat (first|(with_reducible first|exact HB.out|apply oa|apply ia|apply qa|refine ua ?_ Ua.out)|exact HB.out)) hb);have Pb:=aa.mk (oc);have Ec:=aa.mk ((by rw [hg];exact (Ja (by repeat (first|(with_reducible first|exact HB.out|apply oa|apply ia|apply qa|refine ua ?_ Ua.out)|exact HB.out))):w.heap.size ≤ Ga));have fe:=aa.mk ((by rw [hg];exact (Ja (by repeat (first|(with_reducible first|exact HB.out|apply oa|apply ia|apply qa|refine ua ?_ Ua.out)|exact HB.out))):w.heap.size ≤ Ga));have Af:=aa.mk ((by rw [hg];exact Nat.ne_of_lt (qd (g:=za) (o:=.cells #[.slice xb Ma.length qb,.int .i64 La,.int .i64 Na,.int .i64 Ka,.slice Qb Ea.length Kb] 45 (0,0)) (by (with_reducible repeat (first|refine Aa ?_ _|refine Fa ?_|refine Ba ?_ _));exact ta.out)):za ≠ Ga));have Ah:=aa.mk ((by rw [hg];exact Nat.ne_of_gt (qd (g:=za) (o:=.cells #[.slice xb Ma.length qb,.int .i64 La,.int .i64 Na,.int .i64 Ka,.slice Qb Ea.length Kb] 45 (0,0)) (by (with_reducible repeat (first|refine Aa ?_ _|refine Fa ?_|refine Ba ?_ _));exact ta.out)):Ga ≠ za));clear ta HB;have ta:=Cb;have HB:=Lb;have ya:=Pb;have zk:=Ec;have Rc:=fe;have Fb:=Af;have Eb:=Ah;clear Cb Lb Pb Ec fe Af Ah hb oc hg;have Lav:=Fb.out;have dav:=Eb.out;have eC:pL.cell? ⟨za,0,none⟩=some (.slice xb Ma.length qb):=(ja ta.out 0).trans rfl;have cC:pL.cell? ⟨za,1,none⟩=some (.int .i64 La):=(ja ta.out 1).trans rfl;have bC:pL.cell? ⟨za,2,none⟩=some (.int .i64 Na):=(ja ta.out 2).trans rfl;have aC:pL.cell? ⟨za,3,none⟩=some (.int .i64 Ka):=(ja ta.out 3).trans rfl;have ZB:pL.cell? ⟨za,4,none⟩=some (.slice Qb Ea.length Kb):=(ja ta.out 4).trans rfl;have JB:=ga ta.out 0;have IB:=ga ta.out 1;have FB:=ga ta.out 2;have EB:=ga ta.out 3;have DB:=ga ta.out 4;have uH:pL.cell? ⟨Ga,0,none⟩=some (.slice dg Zc.length Rf):=(ja ya.out 0).trans rfl;have tH:pL.cell? ⟨Ga,1,none⟩=some (.int .i64 qc):=(ja ya.out 1).trans rfl;have sH:pL.cell? ⟨Ga,2,none⟩=some (.int .i64 ec):=(ja ya.out 2).trans rfl;have rH:pL.cell? ⟨Ga,3,none⟩=some (.int .i64 fc):=(ja ya.out 3).trans rfl;have qH:pL.cell? ⟨Ga,4,none⟩=some (.slice xu gn.length tu):=(ja ya.out 4).trans rfl;have qG:=ga ya.out 0;have pG:=ga ya.out 1;have oG:=ga ya.out 2;have nG:=ga ya.out 3;have mG:=ga ya.out 4)|((with_reducible refine Ab (f:=17) rfl ?_);refine Uc (some 9) rfl rfl Try.func17 (by kernel_rfl) rfl #[.slice xb Ma.length qb,.slice dg Zc.length Rf] rfl (by (try simp only [List.map_toArray,List.map_cons,List.map_nil]);first|done|rfl|(simp only [List.length_drop,List.length_take];rfl)) ?_;(with_reducible refine (Jd.calls k _ _ Ma _ _ Zc true _ ?jc ?ic ?Ed ?Dd A3.out).mono ?_);(case jc=>repeat (first|exact (Kd.Ib Ue.out HB.out)|(with_reducible refine Kd.Jb ?_ _)|(with_reducible refine Kd.Gb ?_ _)|(with_reducible refine Kd.dc ?_)));(case ic=>exact af.out);(case Ed=>repeat (first|exact (Kd.Ib Pp.out HB.out)|(with_reducible refine Kd.Jb ?_ _)|(with_reducible refine Kd.Gb ?_ _)|(with_reducible refine Kd.dc ?_)));(case Dd=>exact Hr.out);rintro e w' ⟨rfl,⟨nd,rfl⟩⟩;refine ⟨_,rfl,?_⟩));go_ret;exact ⟨by first|rfl|(simp [Ra,Qa] <;> rfl)|(simp [*,Ra,Qa] <;> rfl),by repeat (first|(with_reducible first|exact HB.out|apply oa|apply ia|apply qa|refine ua ?_ Ua.out|refine ua ?_ Rc.out)|exact HB.out)⟩
  ·rw [if_neg c5] at H;have Sn:(La == qc)=false:=beq_eq_false_iff_ne.mpr c5;have nA:(La != qc)=true:=bne_iff_ne.mpr c5;obtain rfl:=Option.some.inj H;go_enter Try.func29,Try.ntmps29;go_wp2_with (first|((with_reducible refine Bb (N:=2) rfl ?_);refine Ob ?hg (N:=2) ?hd (cs:=#[.slice xb Ma.length qb,.int .i64 La,.int .i64 Na,.int .i64 Ka,.slice Qb Ea.length Kb]) (t:=45) ?hr ?_;(case hd=>rfl);(case hg=>rfl);(case hr=>first|(go_simp;done)|(go_simp;rfl));intro za hg w32 oc hb;have Cb:=aa.mk (Oa (by repeat (first|(with_reducible first|exact HB.out|apply oa|apply ia|apply qa)|exact HB.out)) hb);have Lb:=aa.mk (oc);have Pb:=aa.mk ((by rw [hg];exact (Ja (by repeat (first|(with_reducible first|exact HB.out|apply oa|apply ia|apply qa)|exact HB.out))):w.heap.size ≤ za));have Ec:=aa.mk ((by rw [hg];exact (Ja (by repeat (first|(with_reducible first|exact HB.out|apply oa|apply ia|apply qa)|exact HB.out))):w.heap.size ≤ za));clear HB;have HB:=Cb;have ta:=Lb;have He:=Pb;have Ua:=Ec;clear Cb Lb Pb Ec hb oc hg)|((with_reducible refine Bb (N:=3) rfl ?_);refine Ob ?hg (N:=3) ?hd (cs:=#[.slice dg Zc.length Rf,.int .i64 qc,.int .i64 ec,.int .i64 fc,.slice xu gn.length tu]) (t:=45) ?hr ?_;(case hd=>rfl);(case hg=>rfl);(case hr=>first|(go_simp;done)|(go_simp;rfl));intro Ga hg AR oc hb;have Cb:=aa.mk (Xa (g:=za) (o:=.cells #[.slice xb Ma.length qb,.int .i64 La,.int .i64 Na,.int .i64 Ka,.slice Qb Ea.length Kb] 45 (0,0)) (by (with_reducible repeat (first|refine Aa ?_ _|refine Fa ?_|refine Ba ?_ _));exact ta.out) hb);have Lb:=aa.mk (Oa (by repeat (first|(with_reducible first|exact HB.out|apply oa|apply ia|apply qa|refine ua ?_ Ua.out)|exact HB.out)) hb);have Pb:=aa.mk (oc);have Ec:=aa.mk ((by rw [hg];exact (Ja (by repeat (first|(with_reducible first|exact HB.out|apply oa|apply ia|apply qa|refine ua ?_ Ua.out)|exact HB.out))):w.heap.size ≤ Ga));have fe:=aa.mk ((by rw [hg];exact (Ja (by repeat (first|(with_reducible first|exact HB.out|apply oa|apply ia|apply qa|refine ua ?_ Ua.out)|exact HB.out))):w.heap.size ≤ Ga));have Af:=aa.mk ((by rw [hg];exact Nat.ne_of_lt (qd (g:=za) (o:=.cells #[.slice xb Ma.length qb,.int .i64 La,.int .i64 Na,.int .i64 Ka,.slice Qb Ea.length Kb] 45 (0,0)) (by (with_reducible repeat (first|refine Aa ?_ _|refine Fa ?_|refine Ba ?_ _));exact ta.out)):za ≠ Ga));have Ah:=aa.mk ((by rw [hg];exact Nat.ne_of_gt (qd (g:=za) (o:=.cells #[.slice xb Ma.length qb,.int .i64 La,.int .i64 Na,.int .i64 Ka,.slice Qb Ea.length Kb] 45 (0,0)) (by (with_reducible repeat (first|refine Aa ?_ _|refine Fa ?_|refine Ba ?_ _));exact ta.out)):Ga ≠ za));clear ta HB;have ta:=Cb;have HB:=Lb;have ya:=Pb;have zk:=Ec;have Rc:=fe;have Fb:=Af;have Eb:=Ah;clear Cb Lb Pb Ec fe Af Ah hb oc hg;have Gav:=Fb.out;have Yau:=Eb.out;have AY:AR.cell? ⟨za,0,none⟩=some (.slice xb Ma.length qb):=(ja ta.out 0).trans rfl;have zY:AR.cell? ⟨za,1,none⟩=some (.int .i64 La):=(ja ta.out 1).trans rfl;have yY:AR.cell? ⟨za,2,none⟩=some (.int .i64 Na):=(ja ta.out 2).trans rfl;have xY:AR.cell? ⟨za,3,none⟩=some (.int .i64 Ka):=(ja ta.out 3).trans rfl;have wY:AR.cell? ⟨za,4,none⟩=some (.slice Qb Ea.length Kb):=(ja ta.out 4).trans rfl;have oX:=ga ta.out 0;have nX:=ga ta.out 1;have mX:=ga ta.out 2;have lX:=ga ta.out 3;have kX:=ga ta.out 4;have kH:AR.cell? ⟨Ga,0,none⟩=some (.slice dg Zc.length Rf):=(ja ya.out 0).trans rfl;have jH:AR.cell? ⟨Ga,1,none⟩=some (.int .i64 qc):=(ja ya.out 1).trans rfl;have iH:AR.cell? ⟨Ga,2,none⟩=some (.int .i64 ec):=(ja ya.out 2).trans rfl;have gH:AR.cell? ⟨Ga,3,none⟩=some (.int .i64 fc):=(ja ya.out 3).trans rfl;have fH:AR.cell? ⟨Ga,4,none⟩=some (.slice xu gn.length tu):=(ja ya.out 4).trans rfl;have fG:=ga ya.out 0;have eG:=ga ya.out 1;have dG:=ga ya.out 2;have cG:=ga ya.out 3;have bG:=ga ya.out 4)|((with_reducible refine Ab (f:=17) rfl ?_);refine Uc (some 9) rfl rfl Try.func17 (by kernel_rfl) rfl #[.slice xb Ma.length qb,.slice dg Zc.length Rf] rfl (by (try simp only [List.map_toArray,List.map_cons,List.map_nil]);first|done|rfl|(simp only [List.length_drop,List.length_take];rfl)) ?_;(with_reducible refine (Jd.calls k _ _ Ma _ _ Zc true _ ?jc ?ic ?Ed ?Dd A3.out).mono ?_);(case jc=>repeat (first|exact (Kd.Ib Ue.out HB.out)|(with_reducible refine Kd.Jb ?_ _)|(with_reducible refine Kd.Gb ?_ _)|(with_reducible refine Kd.dc ?_)));(case ic=>exact af.out);(case Ed=>repeat (first|exact (Kd.Ib Pp.out HB.out)|(with_reducible refine Kd.Jb ?_ _)|(with_reducible refine Kd.Gb ?_ _)|(with_reducible refine Kd.dc ?_)));(case Dd=>exact Hr.out);rintro e w' ⟨rfl,⟨nd,rfl⟩⟩;refine ⟨_,rfl,?_⟩));go_ret;exact ⟨by first|rfl|(simp [Ra,Qa] <;> rfl)|(simp [*,Ra,Qa] <;> rfl),by repeat (first|(with_reducible first|exact HB.out|apply oa|apply ia|apply qa|refine ua ?_ Ua.out|refine ua ?_ Rc.out)|exact HB.out)⟩
 ·replace c4:=Bool.eq_false_iff.mpr c4;subst c4;have H1:(some false)=some r:=by rw [if_neg (show ¬ (false=true) by decide)] at H;exact H
  clear H;have H:=H1;clear H1;obtain rfl:=Option.some.inj H;go_enter Try.func29,Try.ntmps29;go_wp2_with (first|((with_reducible refine Bb (N:=2) rfl ?_);refine Ob ?hg (N:=2) ?hd (cs:=#[.slice xb Ma.length qb,.int .i64 La,.int .i64 Na,.int .i64 Ka,.slice Qb Ea.length Kb]) (t:=45) ?hr ?_;(case hd=>rfl);(case hg=>rfl);(case hr=>first|(go_simp;done)|(go_simp;rfl));intro za hg E5 oc hb;have Cb:=aa.mk (Oa (by repeat (first|(with_reducible first|exact HB.out|apply oa|apply ia|apply qa)|exact HB.out)) hb);have Lb:=aa.mk (oc);have Pb:=aa.mk ((by rw [hg];exact (Ja (by repeat (first|(with_reducible first|exact HB.out|apply oa|apply ia|apply qa)|exact HB.out))):w.heap.size ≤ za));have Ec:=aa.mk ((by rw [hg];exact (Ja (by repeat (first|(with_reducible first|exact HB.out|apply oa|apply ia|apply qa)|exact HB.out))):w.heap.size ≤ za));clear HB;have HB:=Cb;have ta:=Lb;have He:=Pb;have Ua:=Ec;clear Cb Lb Pb Ec hb oc hg)|((with_reducible refine Bb (N:=3) rfl ?_);refine Ob ?hg (N:=3) ?hd (cs:=#[.slice dg Zc.length Rf,.int .i64 qc,.int .i64 ec,.int .i64 fc,.slice xu gn.length tu]) (t:=45) ?hr ?_;(case hd=>rfl);(case hg=>rfl);(case hr=>first|(go_simp;done)|(go_simp;rfl));intro Ga hg bB oc hb;have Cb:=aa.mk (Xa (g:=za) (o:=.cells #[.slice xb Ma.length qb,.int .i64 La,.int .i64 Na,.int .i64 Ka,.slice Qb Ea.length Kb] 45 (0,0)) (by (with_reducible repeat (first|refine Aa ?_ _|refine Fa ?_|refine Ba ?_ _));exact ta.out) hb);have Lb:=aa.mk (Oa (by repeat (first|(with_reducible first|exact HB.out|apply oa|apply ia|apply qa|refine ua ?_ Ua.out)|exact HB.out)) hb);have Pb:=aa.mk (oc);have Ec:=aa.mk ((by rw [hg];exact (Ja (by repeat (first|(with_reducible first|exact HB.out|apply oa|apply ia|apply qa|refine ua ?_ Ua.out)|exact HB.out))):w.heap.size ≤ Ga));have fe:=aa.mk ((by rw [hg];exact (Ja (by repeat (first|(with_reducible first|exact HB.out|apply oa|apply ia|apply qa|refine ua ?_ Ua.out)|exact HB.out))):w.heap.size ≤ Ga));have Af:=aa.mk ((by rw [hg];exact Nat.ne_of_lt (qd (g:=za) (o:=.cells #[.slice xb Ma.length qb,.int .i64 La,.int .i64 Na,.int .i64 Ka,.slice Qb Ea.length Kb] 45 (0,0)) (by (with_reducible repeat (first|refine Aa ?_ _|refine Fa ?_|refine Ba ?_ _));exact ta.out)):za ≠ Ga));have Ah:=aa.mk ((by rw [hg];exact Nat.ne_of_gt (qd (g:=za) (o:=.cells #[.slice xb Ma.length qb,.int .i64 La,.int .i64 Na,.int .i64 Ka,.slice Qb Ea.length Kb] 45 (0,0)) (by (with_reducible repeat (first|refine Aa ?_ _|refine Fa ?_|refine Ba ?_ _));exact ta.out)):Ga ≠ za));clear ta HB;have ta:=Cb;have HB:=Lb;have ya:=Pb;have zk:=Ec;have Rc:=fe;have Fb:=Af;have Eb:=Ah;clear Cb Lb Pb Ec fe Af Ah hb oc hg;have Saa:=Fb.out;have Jaa:=Eb.out;have YB:bB.cell? ⟨za,0,none⟩=some (.slice xb Ma.length qb):=(ja ta.out 0).trans rfl;have XB:bB.cell? ⟨za,1,none⟩=some (.int .i64 La):=(ja ta.out 1).trans rfl;have WB:bB.cell? ⟨za,2,none⟩=some (.int .i64 Na):=(ja ta.out 2).trans rfl;have VB:bB.cell? ⟨za,3,none⟩=some (.int .i64 Ka):=(ja ta.out 3).trans rfl;have UB:bB.cell? ⟨za,4,none⟩=some (.slice Qb Ea.length Kb):=(ja ta.out 4).trans rfl;have CB:=ga ta.out 0;have BB:=ga ta.out 1;have AB:=ga ta.out 2;have zB:=ga ta.out 3;have yB:=ga ta.out 4;have nY:bB.cell? ⟨Ga,0,none⟩=some (.slice dg Zc.length Rf):=(ja ya.out 0).trans rfl;have mY:bB.cell? ⟨Ga,1,none⟩=some (.int .i64 qc):=(ja ya.out 1).trans rfl;have lY:bB.cell? ⟨Ga,2,none⟩=some (.int .i64 ec):=(ja ya.out 2).trans rfl;have kY:bB.cell? ⟨Ga,3,none⟩=some (.int .i64 fc):=(ja ya.out 3).trans rfl;have jY:bB.cell? ⟨Ga,4,none⟩=some (.slice xu gn.length tu):=(ja ya.out 4).trans rfl;have bX:=ga ya.out 0;have aX:=ga ya.out 1;have ZW:=ga ya.out 2;have YW:=ga ya.out 3;have XW:=ga ya.out 4)|((with_reducible refine Ab (f:=17) rfl ?_);refine Uc (some 9) rfl rfl Try.func17 (by kernel_rfl) rfl #[.slice xb Ma.length qb,.slice dg Zc.length Rf] rfl (by (try simp only [List.map_toArray,List.map_cons,List.map_nil]);first|done|rfl|(simp only [List.length_drop,List.length_take];rfl)) ?_;(with_reducible refine (Jd.calls k _ _ Ma _ _ Zc false _ ?jc ?ic ?Ed ?Dd A3.out).mono ?_);(case jc=>repeat (first|exact (Kd.Ib Ue.out HB.out)|(with_reducible refine Kd.Jb ?_ _)|(with_reducible refine Kd.Gb ?_ _)|(with_reducible refine Kd.dc ?_)));(case ic=>exact af.out);(case Ed=>repeat (first|exact (Kd.Ib Pp.out HB.out)|(with_reducible refine Kd.Jb ?_ _)|(with_reducible refine Kd.Gb ?_ _)|(with_reducible refine Kd.dc ?_)));(case Dd=>exact Hr.out);rintro e w' ⟨rfl,⟨nd,rfl⟩⟩;refine ⟨_,rfl,?_⟩));go_ret;exact ⟨by first|rfl|(simp [Ra,Qa] <;> rfl)|(simp [*,Ra,Qa] <;> rfl),by repeat (first|(with_reducible first|exact HB.out|apply oa|apply ia|apply qa|refine ua ?_ Ua.out|refine ua ?_ Rc.out)|exact HB.out)⟩
theorem Ev.pos {α:Type} {c:Prop} [Decidable c] {f g:Nat→Option α} {r:α} (h:c) (k:Ev f r):Ev (fun n=>if c then f n else g n) r:=Ev.congr (fun n=>if_pos h) k
theorem Ev.neg {α:Type} {c:Prop} [Decidable c] {f g:Nat→Option α} {r:α} (h:¬ c) (k:Ev g r):Ev (fun n=>if c then f n else g n) r:=Ev.congr (fun n=>if_neg h) k
theorem Ev.val {α β:Type} {a:α} {f:Nat→α→Option β} {r:β} (k:Ev (fun n=>f n a) r):Ev (fun n=>(some a).bind (f n)) r:=Ev.congr (fun n=>rfl) k
theorem Ev.here {α:Type} {o:Option α} {r:α} (h:o=some r):Ev (fun _=>o) r:=Ev.congr (fun n=>h) (Ev.now r)
theorem Pg {x:Int} (h:-9223372036854775808 ≤ x) (h':x ≤ 9223372036854775807):wrap64 x=x:=by
 unfold wrap64;omega
theorem Be {i n:Nat} (h:i < n) (hn:n ≤ 9223372036854775807):wrap64 ((i:Int) + 1)=((i + 1:Nat):Int):=by
 rw [Pg (by omega) (by omega)];omega
theorem dh {ρ:Type} {n:Nat} {r:ρ} (P:Nat→Prop) (hend:P n) (hstep:∀ i,i < n→P (i + 1)→P i):∀ i,i ≤ n→P i:=by
 have key:∀ d i,i + d=n→P i:=by
  intro d
  induction d with
  | zero =>
   intro i hi;have:i=n:=by omega
   exact this ▸ hend
  | succ d ih =>
   intro i hi;exact hstep i (by omega) (ih (i + 1) (by omega))
 intro i hi;exact key (n - i) i (by omega)
theorem Bz {α:Type} {m:List α} {z:α} {i:Nat} (h:i < m.length):(m.take i ++ List.replicate (m.length - i) z).set i (m.getD i z)=m.take (i + 1) ++ List.replicate (m.length - (i + 1)) z:=by
 rw [List.set_append_right _ _ (by rw [List.length_take];omega),List.length_take,Nat.min_eq_left (by omega),Nat.sub_self];rw [show m.length - i=(m.length - (i + 1)) + 1 from by omega,List.replicate_succ,List.set_cons_zero,List.take_succ_eq_append_getElem h,List.append_assoc];simp [List.getD_eq_getElem?_getD,List.getElem?_eq_getElem h]
theorem EE {α:Type} {m:List α} {z:α}:m.take 0 ++ List.replicate (m.length - 0) z=List.replicate m.length z:=by simp
theorem ZC {α:Type} {m:List α} {z:α}:m.take m.length ++ List.replicate (m.length - m.length) z=m:=by simp
theorem eF (l:List Int) (i:Nat):rd l (i:Int)=l.getD i 0:=rfl
def iota (m:Int) (n:Nat):List Int:=(List.range n).map fun (j:Nat)=>m + (j:Int)
theorem Gk (m:Int) (n:Nat):(iota m n).length=n:=by simp [iota]
theorem yE {m:Int} {n i:Nat} (h:i < n):(iota m n).getD i 0=m + i:=by simp [iota,List.getD_eq_getElem?_getD,h]
theorem YI {α:Type} {m l:List α} {z:α} {i:Nat} (hl:l.length=m.length) (h:i < m.length):(m.take i ++ l.drop i).set i (m.getD i z)=m.take (i + 1) ++ l.drop (i + 1):=by
 rw [List.set_append_right _ _ (by rw [List.length_take];omega),List.length_take,Nat.min_eq_left (by omega),Nat.sub_self];rw [List.drop_eq_getElem_cons (by omega),List.set_cons_zero,List.take_succ_eq_append_getElem h,List.append_assoc];simp [List.getD_eq_getElem?_getD,List.getElem?_eq_getElem h]
theorem mJ (a b c:Int):Ph.f a b c=some (Vk a b c):=by
 unfold Ph.f Vk
 by_cases h:a ≥ b
 ·rw [if_pos h];have h':b ≤ a:=h;simp [h']
 ·rw [if_neg h];have h':¬ b ≤ a:=h;simp [h']
theorem XQ (l:List Int) (hl:l.length ≤ 35184372088832):Ev (fun k=>Ye.f k l) l:=by
 refine Ev.congr (f:=fun k=>Ye.l0 k l (List.replicate l.length 0) 0) (fun k=>?_) ?_
 ·unfold Ye.f;rw [if_pos (by omega),if_pos (by omega)]
  rfl
 ·have key:=dh (r:=l) (n:=l.length) (fun i=>Ev (fun k=>Ye.l0 k l (l.take i ++ List.replicate (l.length - i) 0) (i:Int)) l) ?_ ?_ 0 (by omega)
  ·simpa using key
  ·refine Ev.step (fun k=>by rw [Ye.l0]) ?_;refine Ev.neg (by omega) ?_;rw [ZC];exact Ev.now l
  ·intro i hi h;refine Ev.step (fun k=>by rw [Ye.l0]) ?_;refine Ev.pos (by omega) (Ev.pos (by omega) (Ev.pos (by simp;omega) ?_));rw [Be hi (by omega),eF,Int.toNat_natCast,Bz hi];exact h
theorem IE (l:List Int) (hl:l.length ≤ 9223372036854775807):Ev (fun k=>Jd.f k l l) true:=by
 refine Ev.congr (f:=fun k=>Jd.l0 k l l 0) (fun k=>?_) ?_
 ·unfold Jd.f;rw [if_pos rfl]
 ·refine dh (r:=true) (n:=l.length) (fun i=>Ev (fun k=>Jd.l0 k l l (i:Int)) true) ?_ ?_ 0 (by omega)
  ·refine Ev.step (fun k=>by rw [Jd.l0]) ?_;exact Ev.neg (by omega) (Ev.now _)
  ·intro i hi h;refine Ev.step (fun k=>by rw [Jd.l0]) ?_;refine Ev.pos (by omega) (Ev.pos (by omega) (Ev.pos (by omega) (Ev.pos rfl ?_)));rw [Be hi hl];exact h
theorem IV (l:List Int) (a:Int) (ha:0 ≤ a) (ha':a ≤ 1048576) (hl:l.length ≤ 9223372036854775807):∃ t,Xi.f l a=some t∧t ≤ a∧(0 ≤ t→t + l.length=a):=by
 unfold Xi.f;rw [Pg (by omega) (by omega)]
 split
 ·exact ⟨-1,rfl,by omega,by omega⟩
 ·exact ⟨_,rfl,by omega,by omega⟩
def Zn (x:Wo):ud:=⟨x.f0,x.f1,x.f2,x.f3,x.f4,x.f5,x.f6⟩
theorem UJ (l:List Wo) (hl:l.length ≤ 4398046511104):Ev (fun k=>Xd.f k l) (l.map Zn):=by
 refine Ev.congr (f:=fun k=>Xd.l0 k l (List.replicate l.length Rk) 0) (fun k=>?_) ?_
 ·unfold Xd.f;rw [if_pos (by omega),if_pos (by omega)]
  rfl
 ·have key:=dh (r:=l.map Zn) (n:=l.length) (fun i=>Ev (fun k=>Xd.l0 k l ((l.map Zn).take i ++ List.replicate ((l.map Zn).length - i) Rk) (i:Int)) (l.map Zn)) ?_ ?_ 0 (by omega)
  ·rw [EE,List.length_map] at key;exact key
  ·refine Ev.step (fun k=>by rw [Xd.l0]) ?_;refine Ev.neg (by omega) ?_;have e:=ZC (m:=l.map Zn) (z:=Rk);rw [List.length_map] at e;rw [List.length_map,e];exact Ev.now _
  ·intro i hi h;refine Ev.step (fun k=>by rw [Xd.l0]) ?_;refine Ev.pos (by omega) (Ev.pos (by omega) ?_);unfold wm.f;refine Ev.val (Ev.pos (by simp;omega) ?_)
   have hc:Zn (Wc l (i:Int))=(l.map Zn).getD i Rk:=by
    simp [Wc,List.getD_eq_getElem?_getD,hi]
   have hf:=Bz (m:=l.map Zn) (z:=Rk) (i:=i) (by rw [List.length_map];exact hi);rw [← hc] at hf;rw [Be hi (by omega),Int.toNat_natCast];have e:=hf ▸ h;exact e
theorem dK (l:List ud) (hl:l.length ≤ 9223372036854775807):Ev (fun k=>Oc.f k l l) true:=by
 refine Ev.congr (f:=fun k=>Oc.l0 k l l 0) (fun k=>?_) ?_
 ·unfold Oc.f;rw [if_pos rfl]
 ·refine dh (r:=true) (n:=l.length) (fun i=>Ev (fun k=>Oc.l0 k l l (i:Int)) true) ?_ ?_ 0 (by omega)
  ·refine Ev.step (fun k=>by rw [Oc.l0]) ?_;exact Ev.neg (by omega) (Ev.now _)
  ·intro i hi h;refine Ev.step (fun k=>by rw [Oc.l0]) ?_;refine Ev.pos (by omega) (Ev.pos (by omega) (Ev.pos (by omega) ?_));unfold Tk.f;simp only [if_true];refine Ev.val (Ev.pos rfl ?_);rw [Be hi hl];exact h
def Tz (l:List Wo):Nat:=(l.map fun x=>x.f6.size).sum
def oQ (l:List Wo):Nat:=l.length + Tz l
def N5 (l:List dm):Nat:=l.length + (l.map fun x=>oQ x.f0).sum
theorem yw {l:List Wo} {i:Nat} (h:i < l.length):Wc l (i:Int)=l[i]:=by simp [Wc,List.getD_eq_getElem?_getD,h]
theorem Kr {l:List dm} {i:Nat} (h:i < l.length):Nd l (i:Int)=l[i]:=by simp [Nd,List.getD_eq_getElem?_getD,h]
theorem WJ (l:List Wo) (a:Int) (ha:0 ≤ a) (ha':a ≤ 1048576) (hl:l.length ≤ 9223372036854775807) (ht:∀ x ∈ l,x.f6.size ≤ 9223372036854775807) :
  ∃ t,Ev (fun k=>ie.f k l a) t∧t ≤ a∧(0 ≤ t→t + oQ l=a):=by
 have key:=dh (ρ:=Unit) (r:=()) (n:=l.length) (fun i=>∀ a:Int,0 ≤ a→a ≤ 1048576→∃ t,Ev (fun k=>ie.l0 k l a (i:Int)) t∧t ≤ a∧(0 ≤ t→t + Tz (l.drop i)=a)) ?_ ?_ 0 (by omega)
 ·unfold ie.f;rw [Pg (by omega) (by omega)]
  by_cases h:a - (l.length:Int) < 0
  ·exact ⟨-1,Ev.pos h (Ev.now _),by omega,by omega⟩
  ·obtain ⟨t,e1,e2,e3⟩:=key (a - l.length) (by omega) (by omega);refine ⟨t,Ev.neg h e1,by omega,fun h0=>?_⟩;have:=e3 h0;rw [List.drop_zero] at this;unfold oQ;omega
 ·intro a h0 h1;refine ⟨a,?_,by omega,?_⟩
  ·refine Ev.step (fun k=>by rw [ie.l0]) ?_;exact Ev.neg (by omega) (Ev.now _)
  ·intro _;rw [List.drop_length];simp [Tz]
 ·intro i hi ih a h0 h1;have hx:=ht l[i] (List.getElem_mem hi)
  have hd:Tz (l.drop i)=l[i].f6.size + Tz (l.drop (i + 1)):=by
   rw [List.drop_eq_getElem_cons hi];simp only [Tz,List.map_cons,List.sum_cons]
  by_cases h:a - (l[i].f6.size:Int) < 0
  ·refine ⟨-1,?_,by omega,by omega⟩;refine Ev.step (fun k=>by rw [ie.l0]) ?_;refine Ev.pos (by omega) (Ev.pos (by omega) ?_);rw [yw hi];unfold Aj.f;rw [Pg (by omega) (by omega),if_pos h];exact Ev.val (Ev.pos (by decide) (Ev.now _))
  ·obtain ⟨t,e1,e2,e3⟩:=ih (a - l[i].f6.size) (by omega) (by omega);refine ⟨t,?_,by omega,fun hh=>by have:=e3 hh;omega⟩;refine Ev.step (fun k=>by rw [ie.l0]) ?_;refine Ev.pos (by omega) (Ev.pos (by omega) ?_);rw [yw hi];unfold Aj.f;rw [Pg (by omega) (by omega),if_neg h];refine Ev.val (Ev.neg (by omega) ?_);rw [Be hi hl];exact e1
theorem XJ (l:List dm) (a:Int) (ha:0 ≤ a) (ha':a ≤ 1048576) (hl:l.length ≤ 9223372036854775807) (ht:∀ x ∈ l,x.f0.length ≤ 9223372036854775807∧∀ y ∈ x.f0,y.f6.size ≤ 9223372036854775807) :
  ∃ t,Ev (fun k=>Yd.f k l a) t∧t ≤ a∧(0 ≤ t→t + N5 l=a):=by
 have key:=dh (ρ:=Unit) (r:=()) (n:=l.length) (fun i=>∀ a:Int,0 ≤ a→a ≤ 1048576→∃ t,Ev (fun k=>Yd.l0 k l a (i:Int)) t∧t ≤ a∧(0 ≤ t→t + ((l.drop i).map fun x=>oQ x.f0).sum=a)) ?_ ?_ 0 (by omega)
 ·unfold Yd.f;rw [Pg (by omega) (by omega)]
  by_cases h:a - (l.length:Int) < 0
  ·exact ⟨-1,Ev.pos h (Ev.now _),by omega,by omega⟩
  ·obtain ⟨t,e1,e2,e3⟩:=key (a - l.length) (by omega) (by omega);refine ⟨t,Ev.neg h e1,by omega,fun h0=>?_⟩;have:=e3 h0;rw [List.drop_zero] at this;unfold N5;omega
 ·intro a h0 h1;refine ⟨a,?_,by omega,?_⟩
  ·refine Ev.step (fun k=>by rw [Yd.l0]) ?_;exact Ev.neg (by omega) (Ev.now _)
  ·intro _;rw [List.drop_length];simp
 ·intro i hi ih a h0 h1;have hx:=ht l[i] (List.getElem_mem hi)
  have hd:((l.drop i).map fun x=>oQ x.f0).sum=oQ l[i].f0 + ((l.drop (i + 1)).map fun x=>oQ x.f0).sum:=by
   rw [List.drop_eq_getElem_cons hi];simp only [List.map_cons,List.sum_cons]
  obtain ⟨u,f1,f2,f3⟩:=WJ l[i].f0 a h0 h1 hx.1 hx.2
  by_cases h:u < 0
  ·refine ⟨-1,?_,by omega,by omega⟩;refine Ev.step (fun k=>by rw [Yd.l0]) ?_;refine Ev.pos (by omega) (Ev.pos (by omega) ?_);rw [Kr hi];unfold Bj.f;refine Ev.bind (Ev.bind f1 (Ev.pos h (Ev.now _))) ?_;exact Ev.pos (by decide) (Ev.now _)
  ·obtain ⟨t,e1,e2,e3⟩:=ih u (by omega) (by omega);have:=f3 (by omega);refine ⟨t,?_,by omega,fun hh=>by have:=e3 hh;omega⟩;refine Ev.step (fun k=>by rw [Yd.l0]) ?_;refine Ev.pos (by omega) (Ev.pos (by omega) ?_);rw [Kr hi];unfold Bj.f;refine Ev.bind (Ev.bind f1 (Ev.neg h (Ev.now _))) ?_;refine Ev.neg (by omega) ?_;rw [Be hi hl];exact e1
theorem KC {l:List Nat} {n:Nat} (h:n ∈ l):n ≤ l.sum:=by
 induction l with
 | nil=>cases h
 | cons a l ih =>
  rw [List.sum_cons];cases h with
  | head=>omega
  | tail _ h=>have:=ih h;omega
theorem WI {l:List dm} {n:Nat} (h:N5 l ≤ n):l.length ≤ n∧∀ x ∈ l,x.f0.length ≤ n:=by
 unfold N5 at h;refine ⟨by omega,fun x hx=>?_⟩;have:oQ x.f0 ≤ (l.map fun x=>oQ x.f0).sum:=KC (List.mem_map.mpr ⟨x,hx,rfl⟩);unfold oQ at this h;omega
theorem iM (x0:List Int) (x1 x2 x3:Int) (x4:List dm) (a:Int) (ha:0 ≤ a) (ha':a ≤ 1048576) (h0:x0.length ≤ 9223372036854775807) (hl:x4.length ≤ 9223372036854775807) (ht:∀ x ∈ x4,x.f0.length ≤ 9223372036854775807∧∀ y ∈ x.f0,y.f6.size ≤ 9223372036854775807) :
  ∃ t,Ev (fun k=>Yi.f k x0 x1 x2 x3 x4 a) t∧t ≤ a∧(0 ≤ t→t + x0.length + N5 x4=a):=by
 obtain ⟨t,e1,e2,e3⟩:=IV x0 a ha ha' h0;unfold Yi.f;rw [e1];simp only [Option.bind_some]
 by_cases ht':t < 0
 ·exact ⟨-1,Ev.pos ht' (Ev.now _),by omega,by omega⟩
 ·obtain ⟨u,f1,f2,f3⟩:=XJ x4 t (by omega) (by omega) hl ht
  by_cases hu:u < 0
  ·exact ⟨-1,Ev.neg ht' (Ev.bind f1 (Ev.pos hu (Ev.now _))),by omega,by omega⟩
  ·exact ⟨u,Ev.neg ht' (Ev.bind f1 (Ev.neg hu (Ev.now _))),by omega,fun _=>by have:=e3 (by omega);have:=f3 (by omega);omega⟩
def Qg (x:dm):Df:=⟨x.f0.map Zn,x.f1,x.f2,x.f3,x.f4⟩
theorem VJ (l:List dm) (hl:l.length ≤ 1048576) (hb:∀ x ∈ l,x.f0.length ≤ 1048576):Ev (fun k=>Pd.f k l) (l.map Qg):=by
 refine Ev.congr (f:=fun k=>Pd.l0 k l (List.replicate l.length II) 0) (fun k=>?_) ?_
 ·unfold Pd.f;rw [if_pos (by omega),if_pos (by omega)]
  rfl
 ·have key:=dh (r:=l.map Qg) (n:=l.length) (fun i=>Ev (fun k=>Pd.l0 k l ((l.map Qg).take i ++ List.replicate ((l.map Qg).length - i) II) (i:Int)) (l.map Qg)) ?_ ?_ 0 (by omega)
  ·rw [EE,List.length_map] at key;exact key
  ·refine Ev.step (fun k=>by rw [Pd.l0]) ?_;refine Ev.neg (by omega) ?_;have e:=ZC (m:=l.map Qg) (z:=II);rw [List.length_map] at e;rw [List.length_map,e];exact Ev.now _
  ·intro i hi h;refine Ev.step (fun k=>by rw [Pd.l0]) ?_;refine Ev.pos (by omega) (Ev.pos (by omega) ?_);unfold xm.f;have hx:=hb l[i] (List.getElem_mem hi);rw [Kr hi];refine Ev.bind (Ev.bind (UJ l[i].f0 (by omega)) (Ev.now _)) ?_;refine Ev.pos (by simp;omega) ?_
   have hc:Qg l[i]=(l.map Qg).getD i II:=by
    simp [List.getD_eq_getElem?_getD,hi]
   have hf:=Bz (m:=l.map Qg) (z:=II) (i:=i) (by rw [List.length_map];exact hi);rw [← hc] at hf;rw [Be hi (by omega),Int.toNat_natCast];have e:=hf ▸ h;exact e
theorem fo {l:List Df} {i:Nat} (h:i < l.length):Ta l (i:Int)=l[i]:=by simp [Ta,List.getD_eq_getElem?_getD,h]
theorem fK (l:List Df) (hl:l.length ≤ 9223372036854775807) (hb:∀ x ∈ l,x.f0.length ≤ 9223372036854775807):Ev (fun k=>Sc.f k l l) true:=by
 refine Ev.congr (f:=fun k=>Sc.l0 k l l 0) (fun k=>?_) ?_
 ·unfold Sc.f;rw [if_pos rfl]
 ·refine dh (r:=true) (n:=l.length) (fun i=>Ev (fun k=>Sc.l0 k l l (i:Int)) true) ?_ ?_ 0 (by omega)
  ·refine Ev.step (fun k=>by rw [Sc.l0]) ?_;exact Ev.neg (by omega) (Ev.now _)
  ·intro i hi h;refine Ev.step (fun k=>by rw [Sc.l0]) ?_;refine Ev.pos (by omega) (Ev.pos (by omega) (Ev.pos (by omega) ?_));unfold Uk.f;rw [fo hi];refine Ev.bind (Ev.bind (dK l[i].f0 (hb _ (List.getElem_mem hi))) (Ev.pos rfl (Ev.pos rfl (Ev.pos rfl (Ev.pos rfl (Ev.pos rfl (Ev.now _))))))) (Ev.pos rfl ?_);rw [Be hi hl];exact h
theorem gM (x0:List Int) (x1 x2 x3:Int) (x4:List dm) (h0:x0.length ≤ 1048576) (hl:x4.length ≤ 1048576) (hb:∀ x ∈ x4,x.f0.length ≤ 1048576):Ev (fun k=>nh.f k x0 x1 x2 x3 x4) (x0,x1,x2,x3,x4.map Qg):=by
 unfold nh.f;exact Ev.bind (XQ x0 (by omega)) (Ev.bind (VJ x4 hl hb) (Ev.now _))
theorem kM (x0:List Int) (x1 x2 x3:Int) (x4:List Df) (h0:x0.length ≤ 9223372036854775807) (hl:x4.length ≤ 9223372036854775807) (hb:∀ x ∈ x4,x.f0.length ≤ 9223372036854775807):Ev (fun k=>Cj.f k x0 x1 x2 x3 x4 x0 x1 x2 x3 x4) true:=by
 unfold Cj.f;refine Ev.bind (IE x0 h0) ?_;refine Ev.pos rfl (Ev.pos rfl (Ev.pos rfl (Ev.pos rfl ?_)));exact Ev.bind (fK x4 hl hb) (Ev.pos rfl (Ev.now _))
end Go.Proofs.Ytoomcmaifgkkfaa.P
end
section
namespace Go.Proofs.Ytoomcmaifgkkfaa.P
open Go.RowKit Go.Proofs.Ia.Zb Go.Proofs.Ia.Qd Go.Proofs.Ia.Me
set_option linter.unusedVariables false
set_option linter.unusedSimpArgs false
open Classical in
noncomputable def lB (n:Nat) (p:Nat→Prop):Bool:=decide (∀ j,j < n→p j)
open Classical in
theorem qR {n:Nat} {p:Nat→Prop} (h:∀ j,j < n→p j):lB n p=true:=by
 unfold lB;exact decide_eq_true h
open Classical in
theorem zK {n:Nat} {p:Nat→Prop}:lB n p=true ↔ ∀ j,j < n→p j:=by
 unfold lB;exact decide_eq_true_iff
theorem EM {n i:Nat} {p:Nat→Prop} (hi:i < n) (h:¬ p i):lB n p=false:=by
 cases e:lB n p with
 | false=>rfl
 | true=>exact absurd (zK.mp e i hi) h
theorem mM {ρ:Type} {n:Nat} {R e:ρ} (p:Nat→Prop) (f:Nat→Nat→Option ρ) (hend:Ev (f n) R) (hyes:∀ i,i < n→p i→∀ r,Ev (f (i + 1)) r→Ev (f i) r) (hno:∀ i,i < n→¬ p i→Ev (f i) e):Ev (f 0) (bif lB n p then R else e):=by
 have key:∀ d i,i + d=n→(∀ j,j < i→p j)→Ev (f i) (bif lB n p then R else e):=by
  intro d
  induction d with
  | zero =>
   intro i hi h;have:i=n:=by omega
   subst this;rw [qR h];exact hend
  | succ d ih =>
   intro i hi h
   by_cases hp:p i
   ·refine hyes i (by omega) hp _ (ih (i + 1) (by omega) ?_);intro j hj
    by_cases hji:j=i
    ·rw [hji];exact hp
    ·exact h j (by omega)
   ·rw [EM (by omega) hp];exact hno i (by omega) hp
 exact key n 0 (by omega) (fun j hj=>absurd hj (by omega))
theorem oA {α:Type} (l:List α) (z:α) (q:α→Bool):lB l.length (fun j=>q (l.getD j z)=true) = !(l.any fun x=>!q x):=by
 rw [Bool.eq_iff_iff,zK];simp only [Bool.not_eq_true',List.any_eq_false,Bool.not_eq_true',Bool.not_eq_false]
 constructor
 ·intro h x hx;obtain ⟨j,hj,rfl⟩:=List.mem_iff_getElem.mp hx;have:=h j hj;rw [List.getD_eq_getElem?_getD,List.getElem?_eq_getElem hj] at this
  simpa using this
 ·intro h j hj;have:=h l[j] (List.getElem_mem hj);rw [List.getD_eq_getElem?_getD,List.getElem?_eq_getElem hj]
  simpa using this
end Go.Proofs.Ytoomcmaifgkkfaa.P
end
section
namespace Go.Proofs.Ytoomcmaifgkkfaa.P
open Go.RowKit Go.Proofs.Ia.Zb Go.Proofs.Ia.Qd Go.Proofs.Ia.Me
set_option linter.unusedVariables false
set_option linter.unusedSimpArgs false
theorem KS (a b c:Int):mb.f a b c=some (Vk a b c):=by
 unfold mb.f Vk
 by_cases h:a ≥ b
 ·rw [if_pos h];have h':b ≤ a:=h;simp [h']
 ·rw [if_neg h];have h':¬ b ≤ a:=h;simp [h']
theorem Hg (a b c:Int):Ev (fun _=>mb.f a b c) (Vk a b c):=Ev.here (KS a b c)
theorem W7 (t:ByteArray):Ev (fun k=>lf.f k ([(⟨#[61,61]⟩:ByteArray),(⟨#[60]⟩:ByteArray),(⟨#[38]⟩:ByteArray),(⟨#[43]⟩:ByteArray),(⟨#[45]⟩:ByteArray),(⟨#[42]⟩:ByteArray)]:List ByteArray) t) (Dx t):=by
 refine ⟨8,fun k hk=>?_⟩;obtain ⟨m,rfl⟩:∃ m,k=m + 8:=⟨k - 8,by omega⟩;unfold lf.f Dx wL;simp only [lf.l0,List.any_cons,List.any_nil]
 by_cases h0:t.toList=[61,61]
 ·simp [qg,h0]
 by_cases h1:t.toList=[60]
 ·simp [qg,h1,wrap64]
 by_cases h2:t.toList=[38]
 ·simp [qg,h2,wrap64]
 by_cases h3:t.toList=[43]
 ·simp [qg,h3,wrap64]
 by_cases h4:t.toList=[45]
 ·simp [qg,h4,wrap64]
 by_cases h5:t.toList=[42]
 ·simp [qg,h5,wrap64]
 simp [qg,Ne.symm h0,Ne.symm h1,Ne.symm h2,Ne.symm h3,Ne.symm h4,Ne.symm h5,h0,h1,h2,h3,h4,h5,wrap64]
theorem SL (s d:Int):Vk d 0 (s - 1)=dn s d:=by
 unfold Vk dn;rw [Bool.eq_iff_iff];simp;omega
def nF (D A B C M:Bool) (o d a b n:Int) (t:ByteArray):Bool :=
 if o=0 then D && (a == 0 && b == 0)
 else if o=1 then D && (A && (b == 0 && n == 0))
 else if o=2 then D && (A && (B && (n == 0 && Dx t)))
 else if o=3 then D && M
 else if o=4 then d == 0 && (M && C)
 else if o=5 then D && (a == 0 && (b == 0 && n == 0))
 else if o=6 then d == 0 && (A && (b == 0 && n == 0))
 else false
theorem Ev.Hz {b:Bool} {f:Nat→Option Bool} {r:Bool} (hf:b=true→Ev f r):Ev (fun n=>if b=true then f n else some false) (b && r):=by
 cases b with
 | true=>exact Ev.pos rfl (hf rfl)
 | false=>exact Ev.neg (by simp) (Ev.now _)
theorem Ev.gE {c:Prop} [Decidable c] {f:Nat→Option Bool} {r:Bool} (hf:c→Ev f r):Ev (fun n=>if c then f n else some false) (decide c && r):=by
 by_cases h:c
 ·rw [decide_eq_true h];exact Ev.pos h (hf h)
 ·rw [decide_eq_false h];exact Ev.neg h (Ev.now _)
section
variable {l0:List Int} {p v s:Int} {l4:List Df} {o d a b c n:Int} {t:ByteArray}
theorem bK (D A B M:Bool) (x:Bool) (hs:0 ≤ s) (hs':s ≤ 1000):Ev (fun k=>zb.j1 k D A B M x l0 p v s l4 o d a b c n t) (!x && nF D A B (dn s c) M o d a b n t):=by
 refine Ev.step (fun k=>by rw [zb.j1]) ?_;cases x with
 | true=>exact Ev.pos rfl (Ev.now _)
 | false =>
  refine Ev.neg (by simp) ?_;rw [Bool.not_false,Bool.true_and];unfold nF
  by_cases h0:o=0
  ·rw [if_pos h0];exact Ev.pos h0 (Ev.Hz fun _=>Ev.gE fun _=>Ev.now _)
  rw [if_neg h0];refine Ev.neg h0 ?_
  by_cases h1:o=1
  ·rw [if_pos h1];exact Ev.pos h1 (Ev.Hz fun _=>Ev.Hz fun _=>Ev.gE fun _=>Ev.now _)
  rw [if_neg h1];refine Ev.neg h1 ?_
  by_cases h2:o=2
  ·rw [if_pos h2];exact Ev.pos h2 (Ev.Hz fun _=>Ev.Hz fun _=>Ev.Hz fun _=>Ev.gE fun _=>Ev.bind (W7 t) (Ev.now _))
  rw [if_neg h2];refine Ev.neg h2 ?_
  by_cases h3:o=3
  ·rw [if_pos h3,if_pos h3];exact (Ev.Hz fun _=>Ev.now _)
  rw [if_neg h3,if_neg h3]
  by_cases h4:o=4
  ·rw [if_pos h4,if_pos h4];refine (Ev.gE fun _=>Ev.Hz fun _=>?_);rw [Pg (x:=s - 1) (by omega) (by omega),← SL];exact Ev.bind (Hg _ _ _) (Ev.now _)
  rw [if_neg h4,if_neg h4]
  by_cases h5:o=5
  ·rw [if_pos h5,if_pos h5];exact (Ev.Hz fun _=>Ev.gE fun _=>Ev.gE fun _=>Ev.now _)
  rw [if_neg h5,if_neg h5]
  by_cases h6:o=6
  ·rw [if_pos h6,if_pos h6];exact (Ev.gE fun _=>Ev.Hz fun _=>Ev.gE fun _=>Ev.now _)
  rw [if_neg h6,if_neg h6];exact Ev.now _
theorem Po (M:Bool) (hM:M=((dn s a || a == -1) && (dn s b && Vk n 0 ((l0.length:Int) - 1)))) (hs:0 ≤ s) (hs':s ≤ 1000):Ev (fun k=>zb.j0 k (dn s d) (dn s a) (dn s b) M l0 p v s l4 o d a b c n t) (jo l0.length s o d a b c n t):=by
 refine Ev.step (fun k=>by rw [zb.j0]) ?_
 have key:∀ x:Bool,(x=if o=2 then (c != 0) else if t.toList=[] then (if o=4 then false else (c != 0)) else true)→Ev (fun k=>zb.j1 k (dn s d) (dn s a) (dn s b) M x l0 p v s l4 o d a b c n t) (jo l0.length s o d a b c n t):=by
  intro x hx
  have e:jo l0.length s o d a b c n t=(!x && nF (dn s d) (dn s a) (dn s b) (dn s c) M o d a b n t):=by
   subst hM;subst hx;unfold jo nF
   by_cases h0:o=0
   ·subst h0;rw [Bool.eq_iff_iff]
    by_cases ht:t.toList=[] <;> simp [ht]
    all_goals (constructor <;> intro h <;> simp_all)
   by_cases h1:o=1
   ·subst h1;rw [Bool.eq_iff_iff]
    by_cases ht:t.toList=[] <;> simp [ht]
    all_goals (constructor <;> intro h <;> simp_all)
   by_cases h2:o=2
   ·subst h2;rw [Bool.eq_iff_iff];simp
    constructor <;> intro h <;> simp_all
   by_cases h3:o=3
   ·subst h3;rw [Bool.eq_iff_iff]
    by_cases ht:t.toList=[] <;> simp [ht]
    all_goals (constructor <;> intro h <;> simp_all)
   by_cases h4:o=4
   ·subst h4;rw [Bool.eq_iff_iff]
    by_cases ht:t.toList=[] <;> simp [ht]
    all_goals (constructor <;> intro h <;> simp_all)
   by_cases h5:o=5
   ·subst h5;rw [Bool.eq_iff_iff]
    by_cases ht:t.toList=[] <;> simp [ht]
    all_goals (constructor <;> intro h <;> simp_all)
   by_cases h6:o=6
   ·subst h6;rw [Bool.eq_iff_iff]
    by_cases ht:t.toList=[] <;> simp [ht]
    all_goals (constructor <;> intro h <;> simp_all)
   simp [h0,h1,h2,h3,h4,h5,h6]
  rw [e];exact bK _ _ _ _ _ hs hs'
 by_cases h2:o=2
 ·exact Ev.pos h2 (Ev.neg (by omega) (key _ (by rw [if_pos h2])))
 ·refine Ev.neg h2 ?_
  by_cases ht:t.toList=([]:List UInt8)
  ·refine Ev.pos ht ?_
   by_cases h4:o=4
   ·exact Ev.pos h4 (key _ (by rw [if_neg h2,if_pos ht,if_pos h4]))
   ·exact Ev.neg h4 (key _ (by rw [if_neg h2,if_pos ht,if_neg h4]))
  ·exact Ev.neg ht (key _ (by rw [if_neg h2,if_neg ht]))
theorem dD (hs:0 ≤ s) (hs':s ≤ 1000) (hl:l0.length ≤ 1048576):Ev (fun k=>zb.f k l0 p v s l4 o d a b c n t) (jo l0.length s o d a b c n t):=by
 unfold zb.f;rw [Pg (x:=s - 1) (by omega) (by omega),Pg (x:=(l0.length:Int) - 1) (by omega) (by omega)];refine Ev.bind (Hg _ _ _) (Ev.bind (Hg _ _ _) (Ev.bind (Hg _ _ _) ?_));simp only [SL];cases ha:dn s a with
 | true =>
  refine Ev.pos rfl ?_;cases hb:dn s b with
  | true=>exact Ev.pos rfl (Ev.bind (Hg _ _ _) (by have:=Po (l0:=l0) (p:=p) (v:=v) (s:=s) (l4:=l4) (o:=o) (d:=d) (a:=a) (b:=b) (c:=c) (n:=n) (t:=t) (Vk n 0 ((l0.length:Int) - 1)) (by simp [ha,hb]) hs hs';rw [ha,hb] at this;exact this))
  | false=>exact Ev.neg (by simp) (by have:=Po (l0:=l0) (p:=p) (v:=v) (s:=s) (l4:=l4) (o:=o) (d:=d) (a:=a) (b:=b) (c:=c) (n:=n) (t:=t) false (by simp [hb]) hs hs';rw [ha,hb] at this;exact this)
 | false =>
  refine Ev.neg (by simp) ?_
  by_cases h1:a = -1
  ·refine Ev.pos h1 ?_;cases hb:dn s b with
   | true=>exact Ev.pos rfl (Ev.bind (Hg _ _ _) (by have:=Po (l0:=l0) (p:=p) (v:=v) (s:=s) (l4:=l4) (o:=o) (d:=d) (a:=a) (b:=b) (c:=c) (n:=n) (t:=t) (Vk n 0 ((l0.length:Int) - 1)) (by simp [h1,hb]) hs hs';rw [ha,hb] at this;exact this))
   | false=>exact Ev.neg (by simp) (by have:=Po (l0:=l0) (p:=p) (v:=v) (s:=s) (l4:=l4) (o:=o) (d:=d) (a:=a) (b:=b) (c:=c) (n:=n) (t:=t) false (by simp [hb]) hs hs';rw [ha,hb] at this;exact this)
  ·exact Ev.neg h1 (by have:=Po (l0:=l0) (p:=p) (v:=v) (s:=s) (l4:=l4) (o:=o) (d:=d) (a:=a) (b:=b) (c:=c) (n:=n) (t:=t) false (by simp [ha,h1]) hs hs';rw [ha] at this;exact this)
theorem lM (code:List ud) (j ba tg els:Int) (hs:0 ≤ s) (hs':s ≤ 1000) (hl:l0.length ≤ 1048576) (hl4:l4.length ≤ 1048576) (hc:code.length ≤ 1048576):Ev (fun k=>Ic.f k l0 p v s l4 code j ba tg els) (Tl l0.length s l4.length code j ba tg els):=by
 unfold Ic.f;have key:=mM (n:=code.length) (R:=(if j=0 then Vk tg 0 ((l4.length:Int) - 1) && ba == 0 && els == 0 else if j=1 then Vk tg 0 ((l4.length:Int) - 1) && Vk els 0 ((l4.length:Int) - 1) && dn s ba else if j=2 then dn s ba && tg == 0 && els == 0 else false)) (e:=false) (fun i=>Vq l0.length s (code.getD i Rk)=true) (fun i k=>Ic.l0 k (i:Int) l0 p v s l4 code j ba tg els) ?_ ?_ ?_
 ·have e:(bif lB code.length (fun i=>Vq l0.length s (code.getD i Rk)=true) then (if j=0 then Vk tg 0 ((l4.length:Int) - 1) && ba == 0 && els == 0 else if j=1 then Vk tg 0 ((l4.length:Int) - 1) && Vk els 0 ((l4.length:Int) - 1) && dn s ba else if j=2 then dn s ba && tg == 0 && els == 0 else false) else false)=Tl l0.length s l4.length code j ba tg els:=by
   rw [oA];unfold Tl;rw [decide_eq_true hs,Bool.and_true];cases (!(code.any fun x=>!Vq l0.length s x)) <;> rfl
  rw [e] at key;exact key
 ·refine Ev.step (fun k=>by rw [Ic.l0]) (Ev.neg (by omega) ?_);rw [Pg (x:=s - 1) (by omega) (by omega),Pg (x:=(l4.length:Int) - 1) (by omega) (by omega)];refine Ev.bind (Hg _ _ _) (Ev.bind (Hg _ _ _) ?_);rw [SL s ba]
  by_cases h0:j=0
  ·rw [if_pos h0,if_pos h0,Bool.and_assoc];exact Ev.Hz fun _=>Ev.gE fun _=>Ev.now _
  rw [if_neg h0,if_neg h0]
  by_cases h1:j=1
  ·rw [if_pos h1,if_pos h1,Bool.and_assoc,Bool.and_comm (Vk els 0 ((l4.length:Int) - 1))];exact Ev.Hz fun _=>Ev.Hz fun _=>Ev.bind (Hg _ _ _) (Ev.now _)
  rw [if_neg h1,if_neg h1]
  by_cases h2:j=2
  ·rw [if_pos h2,if_pos h2,Bool.and_assoc];exact Ev.Hz fun _=>Ev.gE fun _=>Ev.now _
  rw [if_neg h2,if_neg h2];exact Ev.now _
 ·intro i hi hp r hr;refine Ev.step (fun k=>by rw [Ic.l0]) (Ev.pos (by omega) (Ev.pos (by omega) ?_));refine Ev.bind (dD hs hs' hl) ?_;have hq:jo l0.length s (Da code (i:Int)).f0 (Da code (i:Int)).f1 (Da code (i:Int)).f2 (Da code (i:Int)).f3 (Da code (i:Int)).f4 (Da code (i:Int)).f5 (Da code (i:Int)).f6=true:=hp;refine Ev.pos hq ?_;rw [Be hi (by omega)];exact hr
 ·intro i hi hp;refine Ev.step (fun k=>by rw [Ic.l0]) (Ev.pos (by omega) (Ev.pos (by omega) ?_));refine Ev.bind (dD hs hs' hl) ?_;exact Ev.neg hp (Ev.now _)
end
def qe (l:List Df):Nat:=(l.map fun x=>x.f0.length).sum
def fA (l0:List Int) (p v s:Int) (n4:Nat):Bool:=Mw l0 p v && Vk s v 1000 && Vk (n4:Int) 1 300
def Iq (l0:List Int) (s:Int) (l4:List Df) (x:Df):Bool:=Tl l0.length s l4.length x.f0 x.f1 x.f2 x.f3 x.f4
def Rl (l0:List Int) (p v s:Int) (l4:List Df):Bool:=fA l0 p v s l4.length && (!(l4.any fun x=>!Iq l0 s l4 x) && decide (qe l4 ≤ 1000))
theorem Cx (l:List Df) (i:Nat) (h:i < l.length):qe (l.take (i + 1))=qe (l.take i) + l[i].f0.length:=by
 unfold qe;rw [List.take_succ_eq_append_getElem h,List.map_append,List.sum_append];simp
theorem xC (l:List Nat) (i:Nat):(l.take i).sum ≤ l.sum:=by
 conv=>rhs;rw [← List.take_append_drop i l]
 rw [List.sum_append];omega
theorem zC (l:List Df) (i:Nat):qe (l.take i) ≤ qe l:=by
 unfold qe;rw [List.map_take];exact xC _ _
theorem CE {l0:List Int} {p v s:Int} {n4:Nat} (h:fA l0 p v s n4=true):1 ≤ l0.length∧l0.length ≤ 4∧0 ≤ p∧p ≤ v∧p ≤ 6∧v ≤ 20∧v ≤ s∧s ≤ 1000∧1 ≤ n4∧n4 ≤ 300:=by
 unfold fA Mw Vk at h;simp only [Bool.and_eq_true,decide_eq_true_eq] at h;obtain ⟨⟨⟨⟨⟨⟨h1,h2⟩,_⟩,h3,h4⟩,h5⟩,h6,h7⟩,h8,h9⟩:=h
 split at h4 <;> omega
section
variable {l0:List Int} {p v s:Int} {l4:List Df}
theorem cD (h0:l0.length ≤ 1048576) (hl4:l4.length ≤ 1048576) (ht:qe l4 ≤ 1048576):Ev (fun k=>Bc.f k l0 p v s l4) (Rl l0 p v s l4):=by
 unfold Bc.f Tg.f;simp only [List.length_nil,if_true];refine Ev.val ?_
 have no:∀ {r:Bool},r=false→Ev (fun k=>Bc.j0 k true l0 p v s l4) r:=by
  intro r hr;subst hr;exact Ev.step (fun k=>by rw [Bc.j0]) (Ev.pos rfl (Ev.now _))
 unfold Rl fA;cases hp:Mw l0 p v with
 | false=>exact Ev.neg (by simp) (no (by simp))
 | true =>
  refine Ev.pos rfl (Ev.bind (Ev.here (mJ _ _ _)) ?_);cases hv:Vk s v 1000 with
  | false=>exact Ev.neg (by simp) (no (by simp))
  | true =>
   refine Ev.pos rfl (Ev.bind (Ev.here (mJ _ _ _)) ?_);cases hn:Vk (l4.length:Int) 1 300 with
   | false=>exact no (by simp)
   | true =>
    refine Ev.step (fun k=>by rw [Bc.j0]) (Ev.neg (by simp) ?_);simp only [Bool.true_and];have key:=mM (n:=l4.length) (R:=decide (qe l4 ≤ 1000)) (e:=false) (fun i=>Iq l0 s l4 (l4.getD i II)=true) (fun i k=>Bc.l0 k (qe (l4.take i):Int) l4 (l4.length:Int) (i:Int) l0 p v s l4) ?_ ?_ ?_
    ·have e:(bif lB l4.length (fun i=>Iq l0 s l4 (l4.getD i II)=true) then decide (qe l4 ≤ 1000) else false)=(!(l4.any fun x=>!Iq l0 s l4 x) && decide (qe l4 ≤ 1000)):=by
      rw [oA];cases (!(l4.any fun x=>!Iq l0 s l4 x)) <;> rfl
     rw [e] at key
     simpa [qe] using key
    ·refine Ev.step (fun k=>by rw [Bc.l0]) (Ev.neg (by omega) ?_);rw [List.take_length]
     have e:decide ((qe l4:Int) ≤ 1000)=decide (qe l4 ≤ 1000):=by
      rw [Bool.eq_iff_iff,decide_eq_true_iff,decide_eq_true_iff];omega
     rw [e];exact Ev.now _
    ·intro i hi hq r hr;refine Ev.step (fun k=>by rw [Bc.l0]) (Ev.pos (by omega) (Ev.pos (by omega) (Ev.pos (by omega) ?_)));unfold Dj.f;have hq':Tl l0.length s l4.length (Ta l4 (i:Int)).f0 (Ta l4 (i:Int)).f1 (Ta l4 (i:Int)).f2 (Ta l4 (i:Int)).f3 (Ta l4 (i:Int)).f4=true:=hq;refine Ev.val (Ev.pos hq' ?_);have h1:=Cx l4 i hi;have h2:=zC l4 (i + 1);rw [fo hi,Be hi (by omega),Pg (x:=(qe (l4.take i):Int) + (l4[i].f0.length:Int)) (by omega) (by omega),show (qe (l4.take i):Int) + (l4[i].f0.length:Int)=(qe (l4.take (i + 1)):Int) from by omega];exact hr
    ·intro i hi hq;refine Ev.step (fun k=>by rw [Bc.l0]) (Ev.pos (by omega) (Ev.pos (by omega) (Ev.pos (by omega) ?_)));unfold Dj.f;exact Ev.val (Ev.neg hq (Ev.now _))
theorem Sw (h0:l0.length ≤ 1048576) (hl4:l4.length ≤ 1048576) (ht:qe l4 ≤ 1048576):Ev (fun k=>Ya.f k l0 p v s l4) (Rl l0 p v s l4):=by
 unfold Ya.f
 have no:∀ {r:Bool},r=false→Ev (fun k=>Ya.j1 k true l0 p v s l4) r:=by
  intro r hr;subst hr;exact Ev.step (fun k=>by rw [Ya.j1]) (Ev.pos rfl (Ev.now _))
 have key:=mM (n:=l0.length) (R:=Vk (l0.length:Int) 1 4 && (Vk v 0 20 && (Vk p 0 6 && (decide (p ≤ v) && (Vk s v 1000 && (Vk (l4.length:Int) 1 300 && (!(l4.any fun x=>!Iq l0 s l4 x) && decide (qe l4 ≤ 1000)))))))) (e:=false) (fun i=>Vk (l0.getD i 0) 1 16=true) (fun i k=>Ya.l0 k (i:Int) l0 p v s l4) ?_ ?_ ?_
 ·have e:(bif lB l0.length (fun i=>Vk (l0.getD i 0) 1 16=true) then (Vk (l0.length:Int) 1 4 && (Vk v 0 20 && (Vk p 0 6 && (decide (p ≤ v) && (Vk s v 1000 && (Vk (l4.length:Int) 1 300 && (!(l4.any fun x=>!Iq l0 s l4 x) && decide (qe l4 ≤ 1000)))))))) else false)=Rl l0 p v s l4:=by
   rw [oA l0 0 (fun x=>Vk x 1 16)];unfold Rl fA Mw;rw [Bool.eq_iff_iff];cases (!(l0.any fun x=>!Vk x 1 16))
   ·simp
   ·simp only [cond_true,Bool.and_eq_true,Vk,decide_eq_true_eq,and_assoc,true_and]
    constructor
    ·rintro ⟨h1,h2,h3,h4,h5,h6,h7,h8⟩;refine ⟨h1,h2,h5,?_,h4,h8⟩
     split <;> omega
    ·rintro ⟨h1,h2,h5,h6,h4,h7,h8,h9⟩;refine ⟨h1,h2,?_⟩
     split at h6 <;> exact ⟨by omega,by omega,by omega,by omega,by omega,h7,h8,h9⟩
  rw [e] at key;exact key
 ·refine Ev.step (fun k=>by rw [Ya.l0]) (Ev.neg (by omega) ?_);refine Ev.bind (Hg _ _ _) ?_;cases hb0:Vk (l0.length:Int) 1 4 with
  | false=>exact Ev.neg (by simp) (no (by simp))
  | true =>
   refine Ev.pos rfl (Ev.bind (Hg _ _ _) ?_);cases Ys:Vk v 0 20 with
   | false=>exact Ev.neg (by simp) (no (by simp))
   | true =>
    refine Ev.pos rfl (Ev.bind (Hg _ _ _) ?_);cases Gj:Vk p 0 6 with
    | false=>exact Ev.neg (by simp) (no (by simp))
    | true =>
     refine Ev.pos rfl ?_
     by_cases hpv:p > v
     ·refine Ev.pos hpv (no ?_);rw [decide_eq_false (show ¬ p ≤ v from by omega)];simp
     ·refine Ev.neg hpv (Ev.bind (Hg _ _ _) ?_);rw [decide_eq_true (show p ≤ v from by omega)];cases QY:Vk s v 1000 with
      | false=>exact Ev.neg (by simp) (no (by simp))
      | true =>
       refine Ev.pos rfl (Ev.bind (Hg _ _ _) ?_);cases hb4:Vk (l4.length:Int) 1 300 with
       | false=>exact no (by simp)
       | true =>
        refine Ev.step (fun k=>by rw [Ya.j1]) (Ev.neg (by simp) ?_);simp only [Bool.true_and];have hs0:0 ≤ s∧s ≤ 1000:=by simp [Vk] at Ys QY;omega
        have key:=dh (r:=true) (n:=l4.length) (fun i=>qe (l4.take i) ≤ 1000→Ev (fun k=>Ya.l1 k (qe (l4.take i):Int) (i:Int) l0 p v s l4) (!((l4.drop i).any fun x=>!Iq l0 s l4 x) && decide (qe l4 ≤ 1000))) ?_ ?_ 0 (by omega) (by simp [qe])
        ·rw [List.drop_zero] at key
         simpa [qe] using key
        ·intro h;rw [List.take_length] at h;refine Ev.step (fun k=>by rw [Ya.l1]) (Ev.neg (by omega) ?_);rw [List.drop_length,decide_eq_true h];exact Ev.now _
        ·intro i hi ih h;have h1:=Cx l4 i hi;have h2:=zC l4 (i + 1);refine Ev.step (fun k=>by rw [Ya.l1]) (Ev.pos (by omega) (Ev.pos (by omega) ?_));rw [fo hi,Pg (x:=(qe (l4.take i):Int) + (l4[i].f0.length:Int)) (by omega) (by omega),show (qe (l4.take i):Int) + (l4[i].f0.length:Int)=(qe (l4.take (i + 1)):Int) from by omega]
         have hd:((l4.drop i).any fun x=>!Iq l0 s l4 x)=(!Iq l0 s l4 l4[i] || (l4.drop (i + 1)).any fun x=>!Iq l0 s l4 x):=by
          rw [List.drop_eq_getElem_cons hi,List.any_cons]
         rw [hd]
         by_cases hgt:(qe (l4.take (i + 1)):Int) > 1000
         ·rw [decide_eq_false (show ¬ qe l4 ≤ 1000 from by omega),Bool.and_false];exact Ev.pos hgt (Ev.now _)
         ·refine Ev.neg hgt (Ev.bind (lM _ _ _ _ _ hs0.1 hs0.2 h0 hl4 (by omega)) ?_);cases hq:Iq l0 s l4 l4[i] with
          | false =>
           have hq':¬ Tl l0.length s l4.length l4[i].f0 l4[i].f1 l4[i].f2 l4[i].f3 l4[i].f4=true:=by
            have e:Tl l0.length s l4.length l4[i].f0 l4[i].f1 l4[i].f2 l4[i].f3 l4[i].f4=false:=hq;rw [e];simp
           exact Ev.neg hq' (Ev.now _)
          | true =>
           have hq':Tl l0.length s l4.length l4[i].f0 l4[i].f1 l4[i].f2 l4[i].f3 l4[i].f4=true:=hq;refine Ev.pos hq' ?_;rw [Be hi (by omega),Bool.not_true,Bool.false_or];exact ih (by omega)
 ·intro i hi hq r hr;refine Ev.step (fun k=>by rw [Ya.l0]) (Ev.pos (by omega) (Ev.pos (by omega) ?_));refine Ev.bind (Hg _ _ _) (Ev.pos hq ?_);rw [Be hi (by omega)];exact hr
 ·intro i hi hq;refine Ev.step (fun k=>by rw [Ya.l0]) (Ev.pos (by omega) (Ev.pos (by omega) ?_));exact Ev.bind (Hg _ _ _) (Ev.neg hq (Ev.now _))
end
end Go.Proofs.Ytoomcmaifgkkfaa.P
end
section
namespace Go.Proofs.Ytoomcmaifgkkfaa.P
open Go.RowKit Go.Proofs.Ia.Zb Go.Proofs.Ia.Qd Go.Proofs.Ia.Me
set_option linter.unusedVariables false
set_option linter.unusedSimpArgs false
theorem Ek {l:List Int} {j:Nat} (hj:j < l.length):rd l (j:Int)=l[j]:=by simp [rd,List.getD_eq_getElem?_getD,hj]
def YD (b:Df):List Int:=if b.f1=0 then [b.f3] else if b.f1=1 then [b.f3,b.f4] else []
theorem aA (b:Df):bg.f b.f0 b.f1 b.f2 b.f3 b.f4=some (YD b):=by
 unfold bg.f YD
 by_cases h0:b.f1=0
 ·rw [if_pos h0,if_pos h0]
 ·rw [if_neg h0,if_neg h0]
  by_cases h1:b.f1=1
  ·rw [if_pos h1,if_pos h1]
  ·rw [if_neg h1,if_neg h1]
theorem Zz (b:Df):ig.f b.f0 b.f1 b.f2 b.f3 b.f4=some (YD b):=by
 unfold ig.f YD
 by_cases h0:b.f1=0
 ·rw [if_pos h0,if_pos h0]
 ·rw [if_neg h0,if_neg h0]
  by_cases h1:b.f1=1
  ·rw [if_pos h1,if_pos h1]
  ·rw [if_neg h1,if_neg h1]
theorem xl (b:Df):(YD b).length ≤ 2:=by
 unfold YD
 by_cases h0:b.f1=0
 ·rw [if_pos h0];simp
 ·rw [if_neg h0]
  by_cases h1:b.f1=1
  ·rw [if_pos h1];simp
  ·rw [if_neg h1];simp
def ij (bs:List Df) (i:Nat):List Int:=YD (Ta bs (i:Int))
def Zf (bs:List Df):Prop:=0 < bs.length∧bs.length ≤ 1048576∧∀ i,i < bs.length→∀ j ∈ ij bs i,0 ≤ j∧j < (bs.length:Int)
theorem Vw {l0:List Int} {p v s:Int} {bs:List Df} (h:Rl l0 p v s bs=true):Zf bs:=by
 unfold Rl at h;simp only [Bool.and_eq_true] at h;obtain ⟨h1,h2,-⟩:=h;have hh:=CE h1;refine ⟨by omega,by omega,fun i hi j hj=>?_⟩
 have hb:Iq l0 s bs bs[i]=true:=by
  simp only [Bool.not_eq_true',List.any_eq_false] at h2;have:=h2 _ (List.getElem_mem hi)
  simpa using this
 unfold Iq Tl at hb;simp only [Bool.and_eq_true] at hb;obtain ⟨-,hb⟩:=hb;unfold ij at hj;rw [fo hi] at hj;unfold YD at hj
 by_cases h0:bs[i].f1=0
 ·rw [if_pos h0] at hj hb;simp only [Bool.and_eq_true,Vk,decide_eq_true_eq] at hb;rw [List.mem_singleton] at hj;subst hj;omega
 ·rw [if_neg h0] at hj hb
  by_cases h1:bs[i].f1=1
  ·rw [if_pos h1] at hj hb;simp only [Bool.and_eq_true,Vk,decide_eq_true_eq] at hb;simp only [List.mem_cons,List.not_mem_nil,or_false] at hj
   rcases hj with hj|hj <;> subst hj <;> omega
  ·rw [if_neg h1] at hj;cases hj
theorem oZ {base g n cap:Nat} {ok:Nat→Prop} (m:Nat):∀ (W:World) (xs:List Int) (i:Nat),i + m=xs.length→Kd.R (Kd.int .i64) 3 W base ok (.slice (some ⟨g,0,none⟩) n cap) xs →
  Kd.R (Kd.int .i64) 3 (W.setCells g i (List.replicate m (.int .i64 0))) base ok (.slice (some ⟨g,0,none⟩) n cap) (xs.take i ++ List.replicate m 0)∧W.grownBy (W.setCells g i (List.replicate m (.int .i64 0))) (some g):=by
 induction m with
 | zero =>
  intro W xs i hi h;rw [List.take_of_length_le (by omega)];simp only [List.replicate_zero,List.append_nil];exact ⟨h,World.grownBy.refl _ _⟩
 | succ m ih =>
  intro W xs i hi h;obtain ⟨h2,h3⟩:=Kd.Vn (enc:=Value.int .i64) (h1:=fun _=>rfl) h (i:Int) 0;rw [Int.toNat_natCast] at h2 h3;obtain ⟨h4,h5⟩:=ih _ _ (i + 1) (by rw [List.length_set];omega) h2;have e:W.setCells g i (List.replicate (m + 1) (.int .i64 0))=(W.setCell ⟨g,i,none⟩ (.int .i64 0)).setCells g (i + 1) (List.replicate m (.int .i64 0)):=rfl;rw [e];refine ⟨?_,h3.trans h5⟩
  have e2:(xs.set i 0).take (i + 1) ++ List.replicate m 0=xs.take i ++ List.replicate (m + 1) 0:=by
   rw [List.take_set,List.replicate_succ,List.take_succ_eq_append_getElem (by omega),List.set_append_right _ _ (by rw [List.length_take];omega),List.length_take,Nat.min_eq_left (by omega),Nat.sub_self,List.set_cons_zero,List.append_assoc]
   rfl
  rw [← e2];exact h4
theorem oF (g:Nat) (lb:Array Value) (p:Int→Bool) (eg:∀ args w,(callFunc g args).run Try.prog w = .ok (.enter g args) w) (A0:Option Addr) (c0:Nat) (l0:List Int) (w:World) (Qj:Kd.C (Kd.int .i64) w A0 l0.length l0) (hc0:l0.length ≤ c0)
  (hp:∀ (W:World) (x:Int),Below w.heap.size w W→Calls Try.prog g (#[(.int .i64 x)] ++ lb) W fun e w'=>e = .returned (.bool (p x))∧Below W.heap.size W w') :
  Calls Try.prog 105 #[.slice A0 l0.length c0,.func (.func g) #[] lb] w fun e w'=>(e = .returned (.int .i64 (-1))∧l0.any p=false ∨ ∃ i:Nat,i < l0.length∧e = .returned (.int .i64 i)∧p (rd l0 (i:Int))=true∧(l0.take i).any p=false)∧Below w.heap.size w w':=by
 have hmx:=Qj.2.1;have en:=aa.mk Qj;have kE:=aa.mk hc0;have HP:=aa.mk hp;clear Qj hc0 hp;go_enter Try.func105,Try.ntmps105;go_wp2
 go_loopg [5,8] l0.length (fun gg _ s8 wr=>∃ kk:Nat,kk ≤ l0.length∧l0.length - kk ≤ gg∧s8 = .int .i64 kk∧aa (Below w.heap.size w wr)∧aa ((l0.take kk).any p=false))
 case atStart=>exact ⟨0,Nat.zero_le _,by omega,rfl,⟨Below.refl _ w⟩,⟨by simp⟩⟩
 case round =>
  (try clear BW);(try clear HA);obtain ⟨kk,hkk,hg,rfl,BW,HA⟩:=hrel
  by_cases hlt:kk < l0.length
  ·have p1:0 ≤ (kk:Int):=by omega
   have q1:(kk:Int) < (l0.length:Int):=by omega
   obtain ⟨ad,e1,hx0⟩:=Kd.Ce en.out (kk:Int) p1 q1;cases e1;simp only [Int.toNat_natCast] at hx0;replace hx0:=(BW.out.cell (World.block_lt_of_cell? w _ hx0)).trans hx0;have hcall:=HP.out wr (rd l0 (kk:Int)) BW.out;cases hq:p (rd l0 (kk:Int)) with
   | true =>
    rw [hq] at hcall;have HQ:=aa.mk hq;clear hq;go_wp2_with (go_at_fn g;refine hcall.mono ?_;rintro e w1 ⟨rfl,Ys⟩);go_ret;exact ⟨Or.inr ⟨kk,hlt,rfl,HQ.out,HA.out⟩,BW.out.trans (Ys.mono BW.out.size)⟩
   | false =>
    rw [hq] at hcall;go_wp2_with (go_at_fn g;refine hcall.mono ?_;rintro e w1 ⟨rfl,Ys⟩)
    go_roundg (l0.length - (kk + 1))
    case measure=>omega
    case rel=>exact ⟨kk + 1,by omega,by omega,by go_num,⟨BW.out.trans (Ys.mono BW.out.size)⟩,⟨Ds (d:=0) hlt HA.out hq⟩⟩
  ·have U6:¬ (kk:Int) < (l0.length:Int):=by omega
   have he:kk=l0.length:=by omega
   subst he;go_wp2;go_ret;exact ⟨Or.inl ⟨rfl,by have h_:=HA.out;rw [List.take_length] at h_;simpa using h_⟩,BW.out⟩
def zV (l xs:List Int) (p:Int→Bool) (i j:Nat):Prop:=i < j∧j ≤ l.length∧xs.length=l.length∧xs.take i=(l.take j).filter (fun x=>!p x)∧xs.drop j=l.drop j
theorem zV.keep {l xs:List Int} {p:Int→Bool} {i j:Nat} (h:zV l xs p i j) (hj:j < l.length) (hp:p (rd l (j:Int))=false):zV l (xs.set i (rd l (j:Int))) p (i + 1) (j + 1):=by
 obtain ⟨h1,h2,h3,h4,h5⟩:=h;rw [Ek hj] at hp ⊢;refine ⟨by omega,by omega,by rw [List.length_set];exact h3,?_,?_⟩
 ·rw [List.take_succ_eq_append_getElem (show j < l.length from hj),List.filter_append,← h4];rw [List.take_set,List.take_succ_eq_append_getElem (by omega),List.set_append_right _ _ (by rw [List.length_take];omega),List.length_take,Nat.min_eq_left (by omega),Nat.sub_self,List.set_cons_zero];simp [hp]
 ·rw [List.drop_set_of_lt (by omega)];have e1:xs.drop (j + 1)=(xs.drop j).drop 1:=by rw [List.drop_drop]
  have e2:l.drop (j + 1)=(l.drop j).drop 1:=by rw [List.drop_drop]
  rw [e1,e2,h5]
theorem zV.skip {l xs:List Int} {p:Int→Bool} {i j:Nat} (h:zV l xs p i j) (hj:j < l.length) (hp:p (rd l (j:Int))=true):zV l xs p i (j + 1):=by
 obtain ⟨h1,h2,h3,h4,h5⟩:=h;rw [Ek hj] at hp;refine ⟨by omega,by omega,h3,?_,?_⟩
 ·rw [List.take_succ_eq_append_getElem (show j < l.length from hj),List.filter_append,← h4];simp [hp]
 ·have e1:xs.drop (j + 1)=(xs.drop j).drop 1:=by rw [List.drop_drop]
  have e2:l.drop (j + 1)=(l.drop j).drop 1:=by rw [List.drop_drop]
  rw [e1,e2,h5]
theorem zV.at_ {l xs:List Int} {p:Int→Bool} {i j:Nat} (h:zV l xs p i j) (hj:j < l.length):qg 0 xs (j:Int)=rd l (j:Int):=by
 obtain ⟨h1,h2,h3,h4,h5⟩:=h;have:=congrArg List.head? h5;rw [List.head?_drop,List.head?_drop] at this;simp [rd,qg,List.getD_eq_getElem?_getD,this]
theorem Az {l:List Int} {p:Int→Bool} (h:l.any p=false):l.filter (fun x=>!p x)=l:=by
 rw [List.filter_eq_self];intro x hx;have:=List.any_eq_false.1 h x hx
 simpa using this
theorem oK (g:Nat) (lb:Array Value) (p:Int→Bool) (eg:∀ args w,(callFunc g args).run Try.prog w = .ok (.enter g args) w) (P_:Nat→Prop) (A:Option Addr) (c:Nat) (l:List Int) (base:Nat) (w0 w:World) (hB:Below base w0 w) (hbs:base ≤ w.heap.size) (ho:Kd.R (Kd.int .i64) 3 w base P_ (.slice A l.length c) l)
  (hp:∀ (W:World) (x:Int),Kept w W P_→Calls Try.prog g (#[(.int .i64 x)] ++ lb) W fun e w'=>e = .returned (.bool (p x))∧Below W.heap.size W w') :
  Calls Try.prog 74 #[.slice A l.length c,.func (.func g) #[] lb] w fun e w'=>e = .returned (.slice A (l.filter (fun x=>!p x)).length c)∧Kd.R (Kd.int .i64) 3 w' base P_ (.slice A (l.filter (fun x=>!p x)).length c) (l.filter (fun x=>!p x))∧Below base w0 w'∧Kept w w' P_:=by
 obtain ⟨hn,hnc,hC⟩:=Kd.Rb ho;have hmx:=hC.2.1;have HP:=aa.mk hp;have HI:=aa.mk (oF g lb p eg A c l w hC hnc (fun W x hb=>hp W x (Kept.vl hb P_)));have HO:=aa.mk ho;have HB:=aa.mk hB;have HBS:=aa.mk hbs;clear hp hC ho hB hn;go_enter Try.func74,Try.ntmps74
 go_upto_region 2 with (go_at_call 105;refine HI.out.mono ?_;rintro e w1 ⟨hi,Ys⟩;have wu:=aa.mk Ys;clear Ys;(rcases hi with ⟨rfl,XT⟩|⟨i0,hi0,rfl,hpi,XT⟩))
 ·have HN:=aa.mk (Az XT);clear XT;go_wp2;go_ret;rw [HN.out];exact ⟨rfl,Kd.lg HO.out wu.out,HB.out.trans (wu.out.mono hbs),Kept.vl wu.out P_⟩
 ·have iaq:((i0:Int) == -1)=false:=beq_eq_false_iff_ne.2 (by omega)
  have HD0:=aa.mk (show zV l l p i0 (i0 + 1) from ⟨by omega,by omega,rfl,by
   rw [Ek hi0] at hpi;rw [List.take_succ_eq_append_getElem hi0,List.filter_append,Az XT]
   simp [hpi],rfl⟩)
  have gQ:=aa.mk (Kd.lg HO.out wu.out);have zu:=aa.mk (HB.out.trans (wu.out.mono hbs));have Cf:=aa.mk (Kept.vl wu.out P_);clear hpi XT HI HO HB wu;go_wp2
  go_loopg [5,6] l.length (fun gg v5 v6 wr=>∃ (i j:Nat) (xs:List Int),v5 = .int .i64 i∧v6 = .int .i64 j∧l.length - j ≤ gg∧aa (zV l xs p i j)∧aa (Kd.R (Kd.int .i64) 3 wr base P_ (.slice A l.length c) xs)∧aa (Below base w0 wr)∧aa (Kept w wr P_))
  case atStart=>exact ⟨i0,i0 + 1,l,rfl,by go_num,by omega,HD0,gQ,zu,Cf⟩
  case round =>
   clear HD0 gQ zu Cf iaq hi0;(try clear HD);(try clear HO);(try clear HB);(try clear HK);obtain ⟨i,j,xs,rfl,rfl,hg,HD,HO,HB,HK⟩:=hrel;obtain ⟨d1,d2,d3,_,_⟩:=HD.out;have HXL:=aa.mk d3;clear d3
   by_cases hlt:j < l.length
   ·have p1:0 ≤ (j:Int):=by omega
    have p2:(j:Int) < (l.length:Int):=by omega
    have eA:decide ((j:Int) < (l.length:Int))=true:=decide_eq_true p2;obtain ⟨gb,cb,he,-⟩:=Kd.gm (by exact HO.out) (by have:=HXL.out;omega);have he2:A=some ⟨gb,0,none⟩:=by injection he
    subst he2;clear he;obtain ⟨hx0,-⟩:=Kd.Vh (enc:=Value.int .i64) (h1:=fun _=>rfl) 0 HO.out (j:Int) p1 (by omega);rw [HD.out.at_ hlt,Int.toNat_natCast] at hx0;have hcall:=HP.out wr (rd l (j:Int)) HK.out;cases hq:p (rd l (j:Int)) with
    | true =>
     rw [hq] at hcall;have HD1:=aa.mk (HD.out.skip hlt hq);clear hq;go_wp2_with (go_at_fn g;refine hcall.mono ?_;rintro e w7 ⟨rfl,PY⟩;have Z_:=aa.mk (Kd.lg HO.out PY);have HB7:=aa.mk (HB.out.trans (PY.mono (Nat.le_trans HBS.out HK.out.1)));have HK7:=aa.mk (HK.out.below PY);clear PY)
     go_roundg (l.length - (j + 1))
     case measure=>omega
     case rel=>exact ⟨i,j + 1,xs,rfl,by go_num,by omega,HD1,Z_,HB7,HK7⟩
    | false =>
     rw [hq] at hcall;have HD1:=aa.mk (HD.out.keep hlt hq);clear hq
     go_upto_region 9 with (go_at_fn g;refine hcall.mono ?_;rintro e w7 ⟨rfl,PY⟩;have Z_:=aa.mk (Kd.lg HO.out PY);have HB7:=aa.mk (HB.out.trans (PY.mono (Nat.le_trans HBS.out HK.out.1)));have HK7:=aa.mk (HK.out.below PY);clear PY hx0)
     obtain ⟨Qj,hf0⟩:=Kd.Vh (enc:=Value.int .i64) (h1:=fun _=>rfl) 0 Z_.out (i:Int) (by omega) (by omega);have hbg:=(Kd.cg Z_.out) gb rfl;have hpg:=Z_.out.1 gb rfl;have HZ:=aa.mk (And.intro hbg hpg);have yZ:=aa.mk (Kd.Vn (enc:=Value.int .i64) (h1:=fun _=>rfl) Z_.out (i:Int) (rd l (j:Int)));simp only [Int.toNat_natCast] at Qj hf0;rw [Int.toNat_natCast] at yZ;clear hbg hpg;go_wp2
     go_roundg (l.length - (j + 1))
     case measure=>omega
     case rel =>
      exact ⟨i + 1,j + 1,_,by go_num,by go_num,by omega,HD1,⟨yZ.out.1⟩,⟨HB7.out.grown yZ.out.2 (Nat.le_trans HBS.out HK7.out.1) (fun k_ e=>by injection e with e;rw [← e];exact HZ.out.1)⟩,⟨Kept.fh yZ.out.2 HK7.out (fun k_ e=>Or.inl (by injection e with e;rw [← e];exact HZ.out.2))⟩⟩
   ·obtain rfl:j=l.length:=by omega
    have U6:decide ((l.length:Int) < (l.length:Int))=false:=decide_eq_false (by omega);obtain ⟨A',c',he,_⟩:=Kd.gm (by exact HO.out) (by have:=HXL.out;omega);have he2:A=some ⟨A',0,none⟩:=by injection he
    subst he2;clear he;have hic:¬ c=i:=by omega
    have vV:¬ i=c:=by omega
    have LD:∀ ty,(Builtin.clear_ #[22] ty #[.slice (some ⟨A',i,none⟩) (l.length - i) (c - i)]).run Try.prog wr = .ok (.tuple #[]) (wr.setCells A' i (List.replicate (l.length - i) (.int .i64 0))) :=
     fun ty=>Go.Lib.run_clear_slice wr 22 3 ty (.int .i64 0) Try.underlying22 (fun w=>by go_simp) rfl rfl A' i _ _ (by omega) (fun t ht=>by
      have:=(Kd.Vh (enc:=Value.int .i64) (h1:=fun _=>rfl) 0 HO.out ((i + t:Nat):Int) (by omega) (by omega)).1;rw [Int.toNat_natCast] at this;rw [this]
      rfl) (fun t ht=>by
      have:=(Kd.Vh (enc:=Value.int .i64) (h1:=fun _=>rfl) 0 HO.out ((i + t:Nat):Int) (by omega) (by omega)).2
      rwa [Int.toNat_natCast] at this)
    have HZR:=aa.mk (oZ (l.length - i) wr xs i (by have:=HXL.out;omega) HO.out);have HZ:=aa.mk (And.intro ((Kd.cg HO.out) A' rfl) (HO.out.1 A' rfl));go_wp2;go_ret;obtain ⟨e1,e2,e3,e4,e5⟩:=HD.out;rw [List.take_length] at e4;have e6:(l.filter (fun x=>!p x)).length=i:=by rw [← e4,List.length_take];omega
    rw [e6];refine ⟨rfl,?_,HB.out.grown HZR.out.2 (Nat.le_trans HBS.out HK.out.1) (fun k_ e=>by injection e with e;rw [← e];exact HZ.out.1),Kept.fh HZR.out.2 HK.out (fun k_ e=>Or.inl (by injection e with e;rw [← e];exact HZ.out.2))⟩;have h:=Kd.sI HZR.out.1 (m:=i) (by rw [List.length_append,List.length_take];omega)
    rwa [List.take_append_of_le_length (by rw [List.length_take];omega),List.take_take,Nat.min_self,e4] at h
theorem kF:∀ (l1 l2:List Int),l1.Pairwise (· < ·)→l2.Pairwise (· < ·)→(∀ x,x ∈ l1 ↔ x ∈ l2)→l1=l2:=by
 intro l1
 induction l1 with
 | nil =>
  intro l2 _ _ h;cases l2 with
  | nil=>rfl
  | cons y l2=>exact absurd ((h y).2 (by simp)) (by simp)
 | cons x l1 ih =>
  intro l2 h1 h2 h;cases l2 with
  | nil=>exact absurd ((h x).1 (by simp)) (by simp)
  | cons y l2 =>
   obtain ⟨a1,a2⟩:=List.pairwise_cons.1 h1;obtain ⟨b1,b2⟩:=List.pairwise_cons.1 h2
   have e:x=y:=by
    rcases List.mem_cons.1 ((h x).1 (by simp)) with e|e
    ·exact e
    ·rcases List.mem_cons.1 ((h y).2 (by simp)) with e2|e2
     ·exact e2.symm
     ·have:=a1 y e2;have:=b1 x e;omega
   subst e
   congr 1
   refine ih l2 a2 b2 (fun z=>?_)
   constructor
   ·intro hz
    rcases List.mem_cons.1 ((h z).1 (List.mem_cons_of_mem _ hz)) with e|e
    ·have:=a1 z hz;omega
    ·exact e
   ·intro hz
    rcases List.mem_cons.1 ((h z).2 (List.mem_cons_of_mem _ hz)) with e|e
    ·have:=b1 z hz;omega
    ·exact e
theorem vD (n:Int):Qq [] n=[n]:=by simp [Qq,Hu]
theorem qA (x:Int) (l:List Int) (n:Int):Qq (x :: l) n=if x < n then x :: Qq l n else if x=n then x :: l else n :: x :: l:=by
 unfold Qq
 by_cases h:x < n
 ·have e:Hu (x :: l) n=Hu l n + 1:=by unfold Hu;simp [List.takeWhile_cons,h]
  rw [e,if_pos h,ot]
  by_cases h2:Hu l n < l.length∧rd l (Hu l n:Int)=n
  ·rw [if_pos h2,if_pos ⟨by simp;omega,h2.2⟩]
  ·rw [if_neg h2,if_neg (fun hc=>h2 ⟨by have:=hc.1;simp at this;omega,hc.2⟩)];simp
 ·have e:Hu (x :: l) n=0:=by unfold Hu;simp [List.takeWhile_cons,h]
  rw [e,if_neg h];have er:rd (x :: l) ((0:Nat):Int)=x:=rfl;rw [er]
  by_cases h2:x=n
  ·rw [if_pos h2,if_pos ⟨by simp,h2⟩]
  ·rw [if_neg h2,if_neg (fun hc=>h2 hc.2)];simp
theorem AK (l:List Int) (n x:Int):x ∈ Qq l n ↔ x=n ∨ x ∈ l:=by
 induction l with
 | nil=>simp [vD]
 | cons y l ih =>
  rw [qA]
  split
  ·rw [List.mem_cons,ih,List.mem_cons]
   constructor
   ·rintro (h|h|h)
    ·exact Or.inr (Or.inl h)
    ·exact Or.inl h
    ·exact Or.inr (Or.inr h)
   ·rintro (h|h|h)
    ·exact Or.inr (Or.inl h)
    ·exact Or.inl h
    ·exact Or.inr (Or.inr h)
  ·split
   ·rename_i h;subst h;simp
   ·simp
theorem mZ (l:List Int) (n:Int) (h:l.Pairwise (· < ·)):(Qq l n).Pairwise (· < ·):=by
 induction l with
 | nil=>simp [vD]
 | cons y l ih =>
  obtain ⟨h1,h2⟩:=List.pairwise_cons.1 h;rw [qA]
  split
  ·rename_i hy;refine List.pairwise_cons.2 ⟨fun z hz=>?_,ih h2⟩
   rcases (AK _ _ _).1 hz with e|e
   ·omega
   ·exact h1 z e
  ·split
   ·exact h
   ·refine List.pairwise_cons.2 ⟨fun z hz=>?_,h⟩
    rcases List.mem_cons.1 hz with e|e
    ·omega
    ·have:=h1 z e;omega
theorem TA (l:List Int) (n:Int):(Qq l n).length ≤ l.length + 1:=by
 induction l with
 | nil=>simp [vD]
 | cons y l ih =>
  rw [qA]
  split
  ·simp;exact ih
  ·split <;> simp
theorem lD (d:Array Int) (hd:∀ i j:Nat,i ≤ j→j < d.size→d[i]! ≤ d[j]!):∀ m:Nat,m ≤ d.size→(Go.Lib.compactUpTo d m).Pairwise (· < ·)∧∀ x,x ∈ Go.Lib.compactUpTo d m ↔ ∃ j,j < m∧d[j]! = x:=by
 intro m
 induction m with
 | zero =>
  intro _;simp [Go.Lib.compactUpTo]
 | succ m ih =>
  intro hm;obtain ⟨h1,h2⟩:=ih (by omega);rw [Go.Lib.compactUpTo_succ]
  by_cases hk:Go.Lib.keeps d m=true
  ·rw [if_pos hk];have hk2:m=0 ∨ d[m]! ≠ d[m - 1]!:=by simpa [Go.Lib.keeps] using hk
   refine ⟨List.pairwise_append.2 ⟨h1,by simp,fun a ha b hb=>?_⟩,fun x=>?_⟩
   ·rw [List.mem_singleton] at hb;subst hb;obtain ⟨j,hj,rfl⟩:=(h2 a).1 ha;have e1:=hd j (m - 1) (by omega) (by omega);have e2:=hd (m - 1) m (by omega) (by omega)
    rcases hk2 with e|e
    ·omega
    ·omega
   ·rw [List.mem_append,h2,List.mem_singleton]
    constructor
    ·rintro (⟨j,hj,e⟩|e)
     ·exact ⟨j,by omega,e⟩
     ·exact ⟨m,by omega,e.symm⟩
    ·rintro ⟨j,hj,e⟩
     by_cases hjm:j=m
     ·subst hjm;exact Or.inr e.symm
     ·exact Or.inl ⟨j,by omega,e⟩
  ·rw [if_neg hk,List.append_nil];refine ⟨h1,fun x=>?_⟩;rw [h2]
   have hk2:m ≠ 0∧d[m]! = d[m - 1]!:=by
    have:¬ (m=0 ∨ d[m]! ≠ d[m - 1]!):=by simpa [Go.Lib.keeps] using hk
    exact ⟨fun e=>this (Or.inl e),Decidable.byContradiction fun e=>this (Or.inr e)⟩
   constructor
   ·rintro ⟨j,hj,e⟩;exact ⟨j,by omega,e⟩
   ·rintro ⟨j,hj,e⟩
    by_cases hjm:j=m
    ·subst hjm;exact ⟨j - 1,by omega,by rw [← hk2.2];exact e⟩
    ·exact ⟨j,by omega,e⟩
theorem uD (l:List Int):(gx l).Pairwise (· < ·)∧∀ x,x ∈ gx l ↔ x ∈ l:=by
 have hp:(l.mergeSort fun x y=>decide (x ≤ y)).Pairwise (fun a b=>decide (a ≤ b)=true):=List.pairwise_mergeSort (le:=fun x y:Int=>decide (x ≤ y)) (fun a b c h1 h2=>by simp at h1 h2 ⊢;omega) (fun a b=>by simp;omega) l;have hm:∀ x,x ∈ (l.mergeSort fun x y=>decide (x ≤ y)) ↔ x ∈ l:=fun x=>List.mem_mergeSort
 unfold gx;generalize (l.mergeSort fun x y=>decide (x ≤ y))=s at hp hm
 have hd:∀ i j:Nat,i ≤ j→j < s.toArray.size→s.toArray[i]! ≤ s.toArray[j]!:=by
  intro i j hij hj;have hj':j < s.length:=by simpa using hj
  rcases Nat.lt_or_ge i j with h|h
  ·have:=List.pairwise_iff_getElem.1 hp i j (by omega) hj' h
   simpa [show i < s.length by omega,hj'] using this
  ·obtain rfl:i=j:=by omega
   exact Int.le_refl _
 obtain ⟨h1,h2⟩:=lD s.toArray hd s.length (by simp);refine ⟨h1,fun x=>?_⟩;rw [← hm];refine (h2 x).trans ?_;rw [List.mem_iff_getElem]
 constructor
 ·rintro ⟨j,hj,e⟩;exact ⟨j,hj,by simpa [hj] using e⟩
 ·rintro ⟨j,hj,e⟩;exact ⟨j,hj,by simpa [hj] using e⟩
theorem yK (l:List Int):(gx l).length ≤ l.length:=by
 unfold gx;have:=NA (l.mergeSort fun x y=>decide (x ≤ y))
 rwa [List.length_mergeSort] at this
theorem BU (l:List Int):l.foldl Qq []=gx l:=by
 obtain ⟨h1,h2⟩:=uD l
 have key:∀ (l a:List Int),a.Pairwise (· < ·)→(l.foldl Qq a).Pairwise (· < ·)∧∀ x,x ∈ l.foldl Qq a ↔ x ∈ a ∨ x ∈ l:=by
  intro l
  induction l with
  | nil=>intro a ha;exact ⟨ha,fun x=>by simp⟩
  | cons y l ih =>
   intro a ha;obtain ⟨k1,k2⟩:=ih (Qq a y) (mZ a y ha);refine ⟨k1,fun x=>?_⟩;rw [List.foldl_cons,k2,AK,List.mem_cons]
   constructor
   ·rintro ((h|h)|h)
    ·exact Or.inr (Or.inl h)
    ·exact Or.inl h
    ·exact Or.inr (Or.inr h)
   ·rintro (h|h|h)
    ·exact Or.inl (Or.inr h)
    ·exact Or.inl (Or.inl h)
    ·exact Or.inr h
 obtain ⟨k1,k2⟩:=key l [] List.Pairwise.nil;exact kF _ _ k1 h1 (fun x=>by rw [k2,h2];simp)
theorem zz (l a:List Int):(l.foldl Qq a).length ≤ a.length + l.length:=by
 induction l generalizing a with
 | nil=>simp
 | cons y l ih =>
  have h1:=ih (Qq a y);have h2:=TA a y;simp only [List.foldl_cons,List.length_cons];omega
inductive Kq (nx:Nat→List Int):Nat→Prop
 | zero:Kq nx 0
 | step {i:Nat} {j:Int}:Kq nx i→j ∈ nx i→Kq nx j.toNat
def seen (s:List Bool) (j:Nat):Bool:=s.getD j false
theorem Pj {s:List Bool} {i j:Nat} (hi:i < s.length):seen (s.set i true) j=(decide (i=j) || seen s j):=by
 unfold seen;rw [List.getD_eq_getElem?_getD,List.getD_eq_getElem?_getD,List.getElem?_set]
 by_cases h:i=j
 ·simp [h];subst h;simp [hi]
 ·simp [h]
def news (s:List Bool):Nat:=s.count false
theorem Lx {s:List Bool} {i:Nat} (hi:i < s.length) (h:seen s i=false):news (s.set i true) + 1=news s:=by
 unfold news;rw [List.count_set hi];unfold seen at h;rw [List.getD_eq_getElem?_getD,List.getElem?_eq_getElem hi] at h;have h':s[i]=false:=by simpa using h
 have hp:0 < s.count false:=List.count_pos_iff.mpr (h' ▸ List.getElem_mem hi);simp [h'];omega
def jg (p:List Bool × List Int) (j:Int):List Bool × List Int:=if seen p.1 j.toNat=true then p else (p.1.set j.toNat true,p.2 ++ [j])
structure iE (n:Nat) (nx:Nat→List Int) (s:List Bool) (q:List Int):Prop where
 len:s.length=n
 bS:∀ j ∈ q,0 ≤ j∧j < n∧seen s j.toNat=true
 bL:∀ j,seen s j=true→Kq nx j
 cap:q.length + news s ≤ n
 BV:seen s 0=true
def Shut (nx:Nat→List Int) (s:List Bool) (q:List Int) (i:Nat):Prop:=∀ j,seen s j=true→(j:Int) ∉ q→j ≠ i→∀ m ∈ nx j,seen s m.toNat=true
theorem iS {n:Nat} {nx:Nat→List Int} {s:List Bool} {q:List Int} {i:Nat} (h:iE n nx s q) (hs:Shut nx s q i) {j:Int} (h0:0 ≤ j) (h1:j < n) (hr:Kq nx j.toNat) :
  iE n nx (jg (s,q) j).1 (jg (s,q) j).2∧Shut nx (jg (s,q) j).1 (jg (s,q) j).2 i∧seen (jg (s,q) j).1 j.toNat=true∧(∀ m,seen s m=true→seen (jg (s,q) j).1 m=true)∧2 * news (jg (s,q) j).1 + (jg (s,q) j).2.length ≤ 2 * news s + q.length:=by
 have hl:j.toNat < s.length:=by rw [h.len];omega
 unfold jg
 by_cases hc:seen s j.toNat=true
 ·simp only [if_pos hc];exact ⟨h,hs,hc,fun m hm=>hm,Nat.le_refl _⟩
 ·simp only [if_neg hc];have hf:seen s j.toNat=false:=by simpa using hc
  have hn:=Lx hl hf;have hk:∀ m,seen s m=true→seen (s.set j.toNat true) m=true:=fun m hm=>by rw [Pj hl,hm,Bool.or_true]
  refine ⟨⟨?_,?_,?_,?_,?_⟩,?_,?_,hk,?_⟩
  ·rw [List.length_set];exact h.len
  ·intro m hm
   rcases List.mem_append.mp hm with hm|hm
   ·obtain ⟨a,b,c⟩:=h.bS m hm;exact ⟨a,b,hk _ c⟩
   ·rw [List.mem_singleton] at hm;subst hm;refine ⟨h0,h1,?_⟩;rw [Pj hl];simp
  ·intro m hm;rw [Pj hl] at hm
   by_cases e:j.toNat=m
   ·rw [← e];exact hr
   ·simp [e] at hm;exact h.bL m hm
  ·have:=h.cap;rw [List.length_append,List.length_singleton];omega
  ·exact hk _ h.BV
  ·intro a ha hq hi m hm;rw [Pj hl] at ha
   have hq':(a:Int) ∉ q∧(a:Int) ≠ j:=by
    rw [List.mem_append,List.mem_singleton] at hq;exact ⟨fun x=>hq (Or.inl x),fun x=>hq (Or.inr x)⟩
   have e:j.toNat ≠ a:=fun e=>hq'.2 (by omega)
   simp [e] at ha;exact hk _ (hs a ha hq'.1 hi m hm)
  ·rw [Pj hl];simp
  ·rw [List.length_append,List.length_singleton];omega
theorem fJ {n:Nat} {nx:Nat→List Int} {i:Nat} (hi:Kq nx i):∀ (l:List Int) (s:List Bool) (q:List Int),iE n nx s q→Shut nx s q i→(∀ j ∈ l,0 ≤ j∧j < n∧j ∈ nx i) →
  iE n nx (l.foldl jg (s,q)).1 (l.foldl jg (s,q)).2∧Shut nx (l.foldl jg (s,q)).1 (l.foldl jg (s,q)).2 i∧(∀ j ∈ l,seen (l.foldl jg (s,q)).1 j.toNat=true)∧(∀ m,seen s m=true→seen (l.foldl jg (s,q)).1 m=true)∧2 * news (l.foldl jg (s,q)).1 + (l.foldl jg (s,q)).2.length ≤ 2 * news s + q.length:=by
 intro l
 induction l with
 | nil=>intro s q h hs _;exact ⟨h,hs,fun j hj=>absurd hj (by simp),fun m hm=>hm,Nat.le_refl _⟩
 | cons j l ih =>
  intro s q h hs hl;obtain ⟨a,b,c⟩:=hl j (by simp);obtain ⟨p1,p2,p3,p4,p5⟩:=iS h hs a b (Kq.step hi c);obtain ⟨q1,q2,q3,q4,q5⟩:=ih _ _ p1 p2 (fun m hm=>hl m (by simp [hm]));refine ⟨q1,q2,?_,fun m hm=>q4 m (p4 m hm),Nat.le_trans q5 p5⟩;intro m hm
  rcases List.mem_cons.mp hm with e|hm
  ·subst e;exact q4 _ p3
  ·exact q3 m hm
structure mB (n:Nat) (nx:Nat→List Int) (s:List Bool) (q:List Int):Prop where
 len:s.length=n
 bS:∀ j ∈ q,0 ≤ j∧j < n∧Kq nx j.toNat
 bL:∀ j,seen s j=true→Kq nx j
 cap:q.length + 2 * news s ≤ 1 + 2 * n
 BV:seen s 0=true ∨ (0:Int) ∈ q
 shut:∀ j,seen s j=true→∀ m ∈ nx j,seen s m.toNat=true ∨ m ∈ q
theorem UR {n:Nat} {nx:Nat→List Int} {s:List Bool} {i:Int} {q:List Int} (hn:∀ a,a < n→(nx a).length ≤ 2∧∀ j ∈ nx a,0 ≤ j∧j < n) (h:mB n nx s (i :: q)) (hf:seen s i.toNat=false):mB n nx (s.set i.toNat true) (q ++ nx i.toNat):=by
 obtain ⟨h0,h1,hr⟩:=h.bS i (by simp);have hl:i.toNat < s.length:=by rw [h.len];omega
 obtain ⟨n1,n2⟩:=hn i.toNat (by omega);have hw:=Lx hl hf;refine ⟨by rw [List.length_set];exact h.len,?_,?_,?_,?_,?_⟩
 ·intro j hj
  rcases List.mem_append.mp hj with hj|hj
  ·exact h.bS j (by simp [hj])
  ·exact ⟨(n2 j hj).1,(n2 j hj).2,Kq.step hr hj⟩
 ·intro m hm;rw [Pj hl] at hm
  by_cases e:i.toNat=m
  ·rw [← e];exact hr
  ·simp [e] at hm;exact h.bL m hm
 ·have:=h.cap;rw [List.length_cons] at this;rw [List.length_append];omega
 ·rw [Pj hl]
  rcases h.BV with z|z
  ·left;rw [z,Bool.or_true]
  ·rcases List.mem_cons.mp z with z|z
   ·left
    rw [← z];simp
   ·right
    exact List.mem_append.mpr (Or.inl z)
 ·intro j hj m hm;rw [Pj hl] at hj
  by_cases e:i.toNat=j
  ·right
   rw [← e] at hm;exact List.mem_append.mpr (Or.inr hm)
  ·simp [e] at hj;rw [Pj hl]
   rcases h.shut j hj m hm with z|z
   ·left;rw [z,Bool.or_true]
   ·rcases List.mem_cons.mp z with z|z
    ·left
     rw [z];simp
    ·right
     exact List.mem_append.mpr (Or.inl z)
theorem YR {n:Nat} {nx:Nat→List Int} {s:List Bool} {i:Int} {q:List Int} (h:mB n nx s (i :: q)) (hf:seen s i.toNat=true):mB n nx s q:=by
 refine ⟨h.len,fun j hj=>h.bS j (by simp [hj]),h.bL,?_,?_,?_⟩
 ·have:=h.cap;rw [List.length_cons] at this;omega
 ·rcases h.BV with z|z
  ·left;exact z
  ·rcases List.mem_cons.mp z with z|z
   ·left
    rw [← z] at hf;exact hf
   ·right;exact z
 ·intro j hj m hm
  rcases h.shut j hj m hm with z|z
  ·left;exact z
  ·rcases List.mem_cons.mp z with z|z
   ·left;rw [z];exact hf
   ·right;exact z
theorem YY {n:Nat} {nx:Nat→List Int} {s:List Bool} (h:iE n nx s []) (hs:∀ j,seen s j=true→∀ m ∈ nx j,seen s m.toNat=true):∀ j,seen s j=true ↔ Kq nx j:=by
 intro j;refine ⟨h.bL j,fun r=>?_⟩
 induction r with
 | zero=>exact h.BV
 | step _ hm ih=>exact hs _ ih _ hm
theorem ZY {n:Nat} {nx:Nat→List Int} {s:List Bool} (h:mB n nx s []):∀ j,seen s j=true ↔ Kq nx j:=by
 intro j;refine ⟨h.bL j,fun r=>?_⟩
 induction r with
 | zero=>exact h.BV.resolve_right (by simp)
 | step _ hm ih=>exact (h.shut _ ih _ hm).resolve_right (by simp)
theorem bA (n:Nat):news (List.replicate n false)=n:=by simp [news]
theorem Hs (n j:Nat):seen (List.replicate n false) j=false:=by
 unfold seen;rw [List.getD_eq_getElem?_getD,List.getElem?_replicate]
 by_cases h:j < n
 ·rw [if_pos h];rfl
 ·rw [if_neg h];rfl
theorem mB.perm {n:Nat} {nx:Nat→List Int} {s:List Bool} {q q':List Int} (h:mB n nx s q) (hp:∀ x,x ∈ q ↔ x ∈ q') (hl:q.length=q'.length):mB n nx s q' :=
 ⟨h.len,fun j hj=>h.bS j ((hp j).2 hj),h.bL,by rw [← hl];exact h.cap,h.BV.imp id (hp 0).1,fun j hj m hm=>(h.shut j hj m hm).imp id (hp m).1⟩
theorem gK (ys:List Int) (hy:ys.length ≤ 2):Ev (fun k=>Za.f k ys) ys.reverse:=by
 unfold Za.f
 rcases ys with _|⟨a,_|⟨b,_|⟨c,l⟩⟩⟩
 ·rw [show wrap64 ((([]:List Int).length:Int) - 1) = -1 from by rw [Pg (by simp) (by simp)];rfl];refine Ev.step (fun k=>by rw [Za.l0]) ?_;exact Ev.neg (by omega) (Ev.now _)
 ·rw [show wrap64 (([a].length:Int) - 1)=0 from by rw [Pg (by simp) (by simp)];rfl];refine Ev.step (fun k=>by rw [Za.l0]) ?_;exact Ev.neg (by omega) (Ev.now _)
 ·rw [show wrap64 (([a,b].length:Int) - 1)=1 from by rw [Pg (by simp) (by simp)];rfl];refine Ev.step (fun k=>by rw [Za.l0]) ?_;refine Ev.pos (by omega) (Ev.pos (by omega) (Ev.pos (by simp) (Ev.pos (by omega) (Ev.pos (by simp) ?_))));rw [Pg (x:=0 + 1) (by omega) (by omega),Pg (x:=1 - 1) (by omega) (by omega)];refine Ev.step (fun k=>by rw [Za.l0]) ?_;exact Ev.neg (by omega) (Ev.now _)
 ·simp at hy
noncomputable def yd (bs:List Df):List Int:=open Classical in ((List.range bs.length).filter fun i=>decide (Kq (ij bs) i)).map fun (i:Nat)=>(i:Int)
theorem Hh {bs:List Df} (hE:Zf bs) (j:Int):j ∈ yd bs ↔ 0 ≤ j∧Kq (ij bs) j.toNat:=by
 unfold yd;rw [List.mem_map]
 constructor
 ·rintro ⟨i,hi,rfl⟩;rw [List.mem_filter] at hi;exact ⟨by omega,by simpa using hi.2⟩
 ·rintro ⟨h0,h⟩
  have hlt:j.toNat < bs.length:=by
   have:∀ i,Kq (ij bs) i→i < bs.length:=by
    intro i hi
    induction hi with
    | zero=>exact hE.1
    | step hr hj ih=>have:=hE.2.2 _ ih _ hj;omega
   exact this _ h
  exact ⟨j.toNat,List.mem_filter.2 ⟨List.mem_range.2 hlt,by simpa using h⟩,by omega⟩
theorem qt {bs:List Df} (hE:Zf bs) {i:Nat} (h:Kq (ij bs) i):i < bs.length:=by
 induction h with
 | zero=>exact hE.1
 | step hr hj ih=>have:=hE.2.2 _ ih _ hj;omega
theorem dS (n:Nat):(List.range n).Pairwise (· < ·):=by
 exact List.pairwise_lt_range
theorem dZ {l:List Nat} (h:l.Pairwise (· < ·)):(l.map fun (i:Nat)=>(i:Int)).Pairwise (· < ·):=by
 rw [List.pairwise_map];exact h.imp (fun h=>by omega)
theorem Xz (bs:List Df):(yd bs).Pairwise (· < ·):=by
 unfold yd;exact dZ ((dS _).filter _)
theorem eo (bs:List Df):(yd bs).length ≤ bs.length:=by
 unfold yd;rw [List.length_map];exact Nat.le_trans (List.length_filter_le _ _) (by rw [List.length_range];exact Nat.le_refl _)
section
variable {l0:List Int} {p v s:Int} {bs:List Df}
theorem ZJ (hE:Zf bs):∀ (m:Nat) (sn:List Bool) (out SD:List Int),2 * news sn + SD.length ≤ m→mB bs.length (ij bs) sn SD→(∀ j:Nat,seen sn j=true ↔ (j:Int) ∈ out)→(∀ j ∈ out,0 ≤ j)→out.Nodup→out.length + news sn=bs.length →
  ∃ R,Ev (fun k=>Gd.l0 k sn out SD l0 p v s bs) R∧R.Nodup∧R.length ≤ bs.length∧∀ j:Int,j ∈ R ↔ 0 ≤ j∧Kq (ij bs) j.toNat:=by
 intro m
 induction m with
 | zero =>
  intro sn out SD hm hI u0 h0 V_ hlen;have hp:SD=[]:=List.eq_nil_of_length_eq_zero (by omega);subst hp;refine ⟨out,Ev.step (fun k=>by rw [Gd.l0]) (Ev.neg (by decide) (Ev.now _)),V_,by omega,fun j=>?_⟩
  constructor
  ·intro hj;have h:=h0 j hj;refine ⟨h,(ZY hI _).1 ((u0 _).2 ?_)⟩
   rwa [Int.toNat_of_nonneg h]
  ·rintro ⟨h,hr⟩;have:=(u0 _).1 ((ZY hI _).2 hr)
   rwa [Int.toNat_of_nonneg h] at this
 | succ m ih =>
  intro sn out SD hm hI u0 h0 V_ hlen
  by_cases hpe:SD=[]
  ·subst hpe;refine ⟨out,Ev.step (fun k=>by rw [Gd.l0]) (Ev.neg (by decide) (Ev.now _)),V_,by omega,fun j=>?_⟩
   constructor
   ·intro hj;have h:=h0 j hj;refine ⟨h,(ZY hI _).1 ((u0 _).2 ?_)⟩
    rwa [Int.toNat_of_nonneg h]
   ·rintro ⟨h,hr⟩;have:=(u0 _).1 ((ZY hI _).2 hr)
    rwa [Int.toNat_of_nonneg h] at this
  ·obtain ⟨q,b,rfl⟩:∃ q b,SD=q ++ [b]:=⟨SD.dropLast,SD.getLast hpe,(List.dropLast_concat_getLast hpe).symm⟩;have hcap:=hI.cap;have hnn:news sn ≤ bs.length:=by omega
   have hE2:=hE.2.1;rw [List.length_append,List.length_singleton] at hm hcap;have hI2:mB bs.length (ij bs) sn (b :: q):=hI.perm (fun x=>by simp [or_comm]) (by simp);obtain ⟨hb0,Ys,hbr⟩:=hI2.bS b (by simp);have S0:rd (q ++ [b]) (q.length:Int)=b:=by simp [rd]
   have htake:(q ++ [b]).take q.length=q:=by simp
   have hw:wrap64 (((q ++ [b]).length:Int) - 1)=(q.length:Int):=by
    rw [List.length_append,List.length_singleton,Pg (by omega) (by omega)];omega
   have DR:((b.toNat:Nat):Int)=b:=Int.toNat_of_nonneg hb0;have T_:=hI.len;have hrd:qg false sn b=seen sn b.toNat:=rfl
   by_cases hsb:seen sn b.toNat=true
   ·obtain ⟨R,hR,hrest⟩:=ih sn out q (by omega) (YR hI2 hsb) u0 h0 V_ hlen;refine ⟨R,?_,hrest⟩;refine Ev.step (fun k=>by rw [Gd.l0]) (Ev.pos (by rw [List.length_append,List.length_singleton];omega) ?_);rw [hw,S0,hrd];refine Ev.pos (by omega) (Ev.pos (by rw [List.length_append,List.length_singleton];omega) (Ev.pos (by rw [List.length_append,List.length_singleton];omega) ?_));rw [Int.toNat_natCast,htake];exact Ev.val (Ev.pos hb0 (Ev.pos (by rw [T_];exact Ys) (Ev.pos hsb hR)))
   ·have hsf:seen sn b.toNat=false:=by simpa using hsb
    have hlt:b.toNat < sn.length:=by rw [T_];omega
    have hn:=Lx hlt hsf;have hT:mB bs.length (ij bs) (sn.set b.toNat true) (q ++ ij bs b.toNat):=UR (fun a ha=>⟨xl _,hE.2.2 a ha⟩) hI2 hsf;have U_:ij bs b.toNat=YD (Ta bs b):=by unfold ij;rw [DR]
    have W0:=xl (Ta bs b)
    obtain ⟨R,hR,hrest⟩:=ih (sn.set b.toNat true) (out ++ [b]) (q ++ (YD (Ta bs b)).reverse) (by rw [List.length_append,List.length_reverse];omega)
     (hT.perm (fun x=>by rw [U_];simp) (by rw [U_];simp)) (fun j=>by
      rw [Pj hlt,List.mem_append,List.mem_singleton,← u0 j,Bool.or_eq_true,decide_eq_true_eq]
      constructor
      ·rintro (h|h)
       ·right;omega
       ·left;exact h
      ·rintro (h|h)
       ·right;exact h
       ·left;omega) (fun j hj=>by
      rcases List.mem_append.1 hj with hj|hj
      ·exact h0 j hj
      ·rw [List.mem_singleton] at hj;omega) (by
      rw [List.nodup_append];refine ⟨V_,by simp,fun a ha c hc he=>?_⟩;rw [List.mem_singleton] at hc;subst hc;subst he;have:=(u0 a.toNat).2 (by rw [DR];exact ha);rw [hsf] at this
      cases this) (by rw [List.length_append,List.length_singleton];omega)
    refine ⟨R,?_,hrest⟩;refine Ev.step (fun k=>by rw [Gd.l0]) (Ev.pos (by rw [List.length_append,List.length_singleton];omega) ?_);rw [hw,S0,hrd];refine Ev.pos (by omega) (Ev.pos (by rw [List.length_append,List.length_singleton];omega) (Ev.pos (by rw [List.length_append,List.length_singleton];omega) ?_));rw [Int.toNat_natCast,htake];refine Ev.val (Ev.pos hb0 (Ev.pos (by rw [T_];exact Ys) (Ev.neg hsb (Ev.pos (by omega) (Ev.pos Ys ?_)))));rw [aA];refine Ev.val (Ev.bind (gK _ W0) (Ev.pos (by rw [List.length_reverse];omega) hR))
theorem bU (hE:Zf bs):∃ R,Ev (fun k=>Gd.f k l0 p v s bs) R∧R.length ≤ bs.length∧gx R=yd bs:=by
 have hE1:=hE.1;have hE2:=hE.2.1;have hsn:∀ j,seen (List.replicate bs.length false) j=false:=fun j=>Hs _ _
 have hI:mB bs.length (ij bs) (List.replicate bs.length false) [0]:=by
  refine ⟨by simp,fun j hj=>?_,fun j hj=>?_,?_,Or.inr (by simp),fun j hj=>?_⟩
  ·rw [List.mem_singleton] at hj;subst hj;exact ⟨by omega,by omega,Kq.zero⟩
  ·rw [hsn] at hj;cases hj
  ·rw [bA];simp
  ·rw [hsn] at hj;cases hj
 obtain ⟨R,h1,h2,h3,h4⟩:=ZJ (l0:=l0) (p:=p) (v:=v) (s:=s) hE (2 * news (List.replicate bs.length false) + 1) (List.replicate bs.length false) [] [0] (by simp) hI
  (fun j=>by rw [hsn];simp) (by simp) (by simp) (by rw [bA];simp)
 refine ⟨R,?_,h3,?_⟩
 ·unfold Gd.f;refine Ev.pos (by omega) (Ev.pos (by omega) ?_);rw [Int.toNat_natCast];exact h1
 ·refine kF _ _ (uD R).1 (Xz bs) (fun x=>?_);rw [(uD R).2,h4,Hh hE]
end
end Go.Proofs.Ytoomcmaifgkkfaa.P
end
