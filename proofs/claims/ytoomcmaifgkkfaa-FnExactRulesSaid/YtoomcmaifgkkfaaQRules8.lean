import Derived.Test.YtoomcmaifgkkfaaQRules1
import Derived.Test.YtoomcmaifgkkfaaQRules7
import Derived.Test.YtoomcmaifgkkfaaQRules4
import Derived.Test.YtoomcmaifgkkfaaQRules6
import Derived.Test.YtoomcmaifgkkfaaQRules2
import Derived.Test.YtoomcmaifgkkfaaQRules5
import Derived.Test.YtoomcmaifgkkfaaQRules3
import Derived.Shelf.Abstract
import Derived.Outline
import Derived.BigQuiet
import Derived.RegionTactic
import Derived.StillTailTactics
set_option maxHeartbeats 8000000
set_option maxRecDepth 100000
section
namespace Go.Proofs.Ytoomcmaifgkkfaa.P
open Go.RowKit Go.Proofs.Ia.Qb Go.Proofs.Ia.Od Go.Proofs.Ia.Re
set_option linter.unusedVariables false
set_option linter.unusedSimpArgs false
attribute [local go_sem] Wh Uh Fj Ej oh nh Vh Th
def tc.l0:Nat→List (zf)→List (zf)→Int→Option (Bool)
 | 0,_,_,_=>none
 | k + 1,x0,x1,x5=>if x5 < (x0.length:Int) then (if 0 ≤ x5 then (if x5 < (x1.length:Int) then ((Hj.f k ((Ta x0 x5).f0) ((Ta x0 x5).f1) ((Ta x0 x5).f2) ((Ta x0 x5).f3) ((Ta x0 x5).f4) ((Ta x1 x5).f0) ((Ta x1 x5).f1) ((Ta x1 x5).f2) ((Ta x1 x5).f3) ((Ta x1 x5).f4)).bind fun t103=>(if t103=true then (tc.l0 k x0 x1 (wrap64 (x5 + 1))) else (some false))) else (none)) else (none)) else (some true)
def tc.f (k:Nat) (l0:List (zf)) (l1:List (zf)):Option (Bool):=if (l0.length:Int)=(l1.length:Int) then (tc.l0 k l0 l1 0) else (some false)
def tc.T6:Bool × List (List Nat × List Nat):=(true,[([],[]),([],[]),([0,1],[0,1]),([2],[2]),([],[]),([],[]),([4,5],[4,5]),([6],[6]),([3,7],[3,7]),([8],[8])])
def tc.B6:List Nat:=[0,0,3,7,0,0,48,112,255,511]
theorem tc.JN:yl .any (opsOf Try.f80 6)=tc.T6:=by kernel_rfl
theorem tc.gH:vk tc.T6.2 tc.B6=true:=by kernel_rfl
theorem tc.calls (k:Nat) (A0:Option Addr) (c0:Nat) (l0:List (zf)) (A1:Option Addr) (c1:Nat) (l1:List (zf)) (r:Bool) (w:World) (Si:Kd.C Bp w A0 l0.length l0) (hc0:l0.length ≤ c0) (hr1:Kd.C Bp w A1 l1.length l1) (hc1:l1.length ≤ c1) (h:tc.f k l0 l1=some r) :
  Calls Try.prog 80 #[.slice A0 l0.length c0,.slice A1 l1.length c1] w fun e w'=>e = .returned (.bool r)∧Below w.heap.size w w':=by
 have kA:=Try.underlying83;have fl:=ga.mk Si;have vB:=ga.mk hc0;clear Si hc0;have tJ:=ga.mk hr1;have L4:=ga.mk hc1;clear hr1 hc1;have HB:=ga.mk (Below.refl w.heap.size w);have H:(if (l0.length:Int)=(l1.length:Int) then (tc.l0 k l0 l1 0) else (some false))=some r:=h;clear h
 by_cases c3:(l0.length:Int)=(l1.length:Int)
 ·rw [if_pos c3] at H;have Cg:((l0.length:Int) == (l1.length:Int))=true:=beq_iff_eq.mpr c3;have Zl:((l0.length:Int) != (l1.length:Int))=false:=bne_eq_false_iff_eq.mpr c3;have DA:(l0.length == l1.length)=true:=by first|simpa using c3|(simp at c3 ⊢;omega)
  clear c3;have H':=ga.mk H;clear H;go_enter Try.func80,Try.ntmps80;go_wp2
  go_loopg [5] k (fun kq v5 w'=>∃ (Aa:Int),v5 = .int .i64 Aa∧ga (tc.l0 kq l0 l1 Aa=some r)∧ga (kq ≤ k)∧ga (Below w.heap.size w w'))
  case atStart=>exact ⟨(0),(by first|rfl|(simp;done)|(simp [*];done)),H',⟨Nat.le_refl _⟩,⟨by repeat (first|(with_reducible first|exact HB.out|apply oa|apply ia|apply qa)|exact HB.out)⟩⟩
  case round =>
   clear H'
   try clear c1
   try clear p2
   try clear c3
   try clear Cg
   try clear Zl
   try clear DA
   (try clear HA);(try clear Gf);(try clear HB);obtain ⟨Aa,rfl,HA,Gf,HB⟩:=hrel;cases gk with
   | zero=>exact absurd HA.out (by simp [tc.l0])
   | succ k1 =>
    have H:=HA.out;clear HA;simp only [tc.l0] at H
    by_cases c4:Aa < (l0.length:Int)
    ·rw [if_pos c4] at H;have Aj:decide (Aa < (l0.length:Int))=true:=decide_eq_true c4;clear c4
     by_cases c5:0 ≤ Aa
     ·rw [if_pos c5] at H;have Al:decide (0 ≤ Aa)=true:=decide_eq_true c5;clear c5
      by_cases c6:Aa < (l1.length:Int)
      ·rw [if_pos c6] at H;have Yl:decide (Aa < (l1.length:Int))=true:=decide_eq_true c6;clear c6;replace H:=Option.bind_eq_some_iff.mp H;obtain ⟨t103,LH,H⟩:=H;replace H:(if t103=true then (tc.l0 k1 l0 l1 (wrap64 (Aa + 1))) else (some false))=some r:=H;have A7:=ga.mk LH;clear LH
       by_cases c8:t103=true
       ·subst c8;have H1:(tc.l0 k1 l0 l1 (wrap64 (Aa + 1)))=some r:=by rw [if_pos rfl] at H;exact H
        clear H;have H:=H1;clear H1;have H':=ga.mk H;clear H
        try go_wp2
        have Fb:=ga.mk (qa HB.out);clear HB;have HB:=Fb;clear Fb;have Ee:0 ≤ (Aa:Int):=of_decide_eq_true (by first|(with_reducible assumption)|assumption);have De:Aa < (l0.length:Int):=of_decide_eq_true (by first|(with_reducible assumption)|assumption);obtain ⟨je,nk,bk,Ih,xd,qf,lf,kf,jf,zg,Ag⟩:=ek fl.out Aa Ee De;have Mk:=jf;have Nk:=kf;have Pk:=lf;have Qk:=qf;have Rk:=xd;cases Ih;replace xd:=Ra HB.out xd;replace qf:=Ra HB.out qf;replace lf:=Ra HB.out lf;replace kf:=Ra HB.out kf;replace jf:=Ra HB.out jf;have Kg:=ga.mk Ag;have mh:=ga.mk zg;clear Ag zg;replace Ee:=eq_true Ee;replace De:=eq_true De;have Fh:0 ≤ (Aa:Int):=of_decide_eq_true (by first|(with_reducible assumption)|assumption);have Eh:Aa < (l1.length:Int):=of_decide_eq_true (by first|(with_reducible assumption)|assumption);obtain ⟨Ye,Nu,Ku,Dp,Ke,dh,bh,ah,Zg,Uk,Vk⟩:=ek tJ.out Aa Fh Eh;have Gk:=Zg;have Ik:=ah;have Jk:=bh;have Kk:=dh;have Lk:=Ke;cases Dp;replace Ke:=Ra HB.out Ke;replace dh:=Ra HB.out dh;replace bh:=Ra HB.out bh;replace ah:=Ra HB.out ah;replace Zg:=Ra HB.out Zg;have Mj:=ga.mk Vk;have Zk:=ga.mk Uk;clear Vk Uk;replace Fh:=eq_true Fh;replace Eh:=eq_true Eh;refine xk (n:=10) (S:=fun w'=>w'.cell? (je.add ((Aa).toNat * 5))=some (.slice nk ((Ta l0 Aa).f0).length bk)∧w'.cell? ⟨(je.add ((Aa).toNat * 5)).block,(je.add ((Aa).toNat * 5)).off + 1,none⟩=some (.int .i64 ((Ta l0 Aa).f1))∧w'.cell? ⟨(je.add ((Aa).toNat * 5)).block,(je.add ((Aa).toNat * 5)).off + 2,none⟩=some (.int .i64 ((Ta l0 Aa).f2))∧w'.cell? ⟨(je.add ((Aa).toNat * 5)).block,(je.add ((Aa).toNat * 5)).off + 3,none⟩=some (.int .i64 ((Ta l0 Aa).f3))∧w'.cell? ⟨(je.add ((Aa).toNat * 5)).block,(je.add ((Aa).toNat * 5)).off + 4,none⟩=some (.int .i64 ((Ta l0 Aa).f4))∧w'.cell? (Ye.add ((Aa).toNat * 5))=some (.slice Nu ((Ta l1 Aa).f0).length Ku)∧w'.cell? ⟨(Ye.add ((Aa).toNat * 5)).block,(Ye.add ((Aa).toNat * 5)).off + 1,none⟩=some (.int .i64 ((Ta l1 Aa).f1))∧w'.cell? ⟨(Ye.add ((Aa).toNat * 5)).block,(Ye.add ((Aa).toNat * 5)).off + 2,none⟩=some (.int .i64 ((Ta l1 Aa).f2))∧w'.cell? ⟨(Ye.add ((Aa).toNat * 5)).block,(Ye.add ((Aa).toNat * 5)).off + 3,none⟩=some (.int .i64 ((Ta l1 Aa).f3))∧w'.cell? ⟨(Ye.add ((Aa).toNat * 5)).block,(Ye.add ((Aa).toNat * 5)).off + 4,none⟩=some (.int .i64 ((Ta l1 Aa).f4))) (ds:=[]) #[false,false,false,false,false,false,false,false,false,false] (by kernel_rfl) rfl rfl ⟨(Ra HB.out Rk),(Ra HB.out Qk),(Ra HB.out Pk),(Ra HB.out Nk),(Ra HB.out Mk),(Ra HB.out Lk),(Ra HB.out Kk),(Ra HB.out Jk),(Ra HB.out Ik),(Ra HB.out Gk)⟩ (fun hHeld=>?_);refine Kh tc.JN tc.gH (fun Kf Hq=>?_);generalize wr.drew=w9 at HB Kg Mj xd qf lf kf jf Ke dh bh ah Zg hHeld ⊢;refine od (i:=0) (N:=some 17) (v:=?_) (a':=?_) #[true,false,false,false,false,false,false,false,false,false] rfl rfl (Cc Kf.out (by kernel_rfl)) (fun _ _ _ h=>h) (Or.inl ⟨by rfl,?_⟩) ?_ ?_;rotate_left
        ·intro w';go_simp;with_reducible rfl
        rotate_left
        ·simp only [Act.put,List.setIfInBounds_toArray,List.set_cons_zero,List.set_cons_succ,dc,ec]
         rfl
        refine od (i:=1) (N:=some 18) (v:=?_) (a':=?_) #[true,true,false,false,false,false,false,false,false,false] rfl rfl (Cc Kf.out (by kernel_rfl)) (fun _ _ _ h=>h) (Or.inl ⟨by rfl,?_⟩) ?_ ?_;rotate_left
        ·intro w';go_simp;with_reducible rfl
        rotate_left
        ·simp only [Act.put,List.setIfInBounds_toArray,List.set_cons_zero,List.set_cons_succ,dc,ec]
         rfl
        refine od (i:=2) (N:=some 19) (v:=?_) (a':=?_) #[true,true,true,false,false,false,false,false,false,false] rfl rfl (Cc Kf.out (by kernel_rfl)) (fun _ _ _ h=>h) (Or.inl ⟨by rfl,?_⟩) ?_ ?_;rotate_left
        ·intro w';go_simp;with_reducible rfl
        rotate_left
        ·simp only [Act.put,List.setIfInBounds_toArray,List.set_cons_zero,List.set_cons_succ,dc,ec]
         rfl
        refine od (i:=4) (N:=some 21) (v:=?_) (a':=?_) #[true,true,true,false,true,false,false,false,false,false] rfl rfl (Cc Kf.out (by kernel_rfl)) (fun _ _ _ h=>h) (Or.inl ⟨by rfl,?_⟩) ?_ ?_;rotate_left
        ·intro w';go_simp;with_reducible rfl
        rotate_left
        ·simp only [Act.put,List.setIfInBounds_toArray,List.set_cons_zero,List.set_cons_succ,dc,ec]
         rfl
        refine od (i:=5) (N:=some 22) (v:=?_) (a':=?_) #[true,true,true,false,true,true,false,false,false,false] rfl rfl (Cc Kf.out (by kernel_rfl)) (fun _ _ _ h=>h) (Or.inl ⟨by rfl,?_⟩) ?_ ?_;rotate_left
        ·intro w';go_simp;with_reducible rfl
        rotate_left
        ·simp only [Act.put,List.setIfInBounds_toArray,List.set_cons_zero,List.set_cons_succ,dc,ec]
         rfl
        refine od (i:=6) (N:=some 23) (v:=?_) (a':=?_) #[true,true,true,false,true,true,true,false,false,false] rfl rfl (Cc Kf.out (by kernel_rfl)) (fun _ _ _ h=>h) (Or.inl ⟨by rfl,?_⟩) ?_ ?_;rotate_left
        ·intro w';go_simp;with_reducible rfl
        rotate_left
        ·simp only [Act.put,List.setIfInBounds_toArray,List.set_cons_zero,List.set_cons_succ,dc,ec]
         rfl
        refine Ug (i:=3) (N:=some 20) (v:=?_) (a':=?_) #[true,true,true,true,true,true,true,false,false,false] rfl rfl (Te Kf.out Hq.out (by kernel_rfl)) (fun _ _ _ h=>h) (Or.inl ⟨by rfl,?_⟩) hHeld ?_ ?_;rotate_left
        ·rintro w' ⟨s0,s1,s2,s3,s4,s5,s6,s7,s8,s9⟩;go_simp;with_reducible rfl
        rotate_left
        ·simp only [Act.put,List.setIfInBounds_toArray,List.set_cons_zero,List.set_cons_succ,dc,ec]
         rfl
        refine Ug (i:=7) (N:=some 24) (v:=?_) (a':=?_) #[true,true,true,true,true,true,true,true,false,false] rfl rfl (Te Kf.out Hq.out (by kernel_rfl)) (fun _ _ _ h=>h) (Or.inl ⟨by rfl,?_⟩) hHeld ?_ ?_;rotate_left
        ·rintro w' ⟨s0,s1,s2,s3,s4,s5,s6,s7,s8,s9⟩;go_simp;with_reducible rfl
        rotate_left
        ·simp only [Act.put,List.setIfInBounds_toArray,List.set_cons_zero,List.set_cons_succ,dc,ec]
         rfl
        refine Yu (i:=8) (N:=some 25) #[true,true,true,true,true,true,true,true,true,false] rfl rfl (qm Kf.out (by kernel_rfl)) (by decide) (fun K hK=>?_);refine Nq Try.func108 (by kernel_rfl) rfl #[.agg #[.slice nk ((Ta l0 Aa).f0).length bk,.int .i64 ((Ta l0 Aa).f1),.int .i64 ((Ta l0 Aa).f2),.int .i64 ((Ta l0 Aa).f3),.int .i64 ((Ta l0 Aa).f4)],.agg #[.slice Nu ((Ta l1 Aa).f0).length Ku,.int .i64 ((Ta l1 Aa).f1),.int .i64 ((Ta l1 Aa).f2),.int .i64 ((Ta l1 Aa).f3),.int .i64 ((Ta l1 Aa).f4)]] (by rfl) rfl rfl (by (try simp only [List.map_toArray,List.map_cons,List.map_nil]);first|done|rfl|(simp only [List.length_drop,List.length_take];rfl)) ?_;with_reducible refine (Hj.calls k1 _ _ ((Ta l0 Aa).f0) ((Ta l0 Aa).f1) ((Ta l0 Aa).f2) ((Ta l0 Aa).f3) ((Ta l0 Aa).f4) _ _ ((Ta l1 Aa).f0) ((Ta l1 Aa).f1) ((Ta l1 Aa).f2) ((Ta l1 Aa).f3) ((Ta l1 Aa).f4) true _ ?yc ?uc ?Ad ?yd A7.out).mono ?_
        (case yc=>repeat (first|exact (Kd.Mb Kg.out HB.out)|(with_reducible refine Kd.Sb ?_ _)|(with_reducible refine Kd.Rb ?_ _)|(with_reducible refine Kd.jc ?_)))
        (case uc=>exact mh.out)
        (case Ad=>repeat (first|exact (Kd.Mb Mj.out HB.out)|(with_reducible refine Kd.Sb ?_ _)|(with_reducible refine Kd.Rb ?_ _)|(with_reducible refine Kd.jc ?_)))
        (case yd=>exact Zk.out)
        rintro e Qn ⟨rfl,hb⟩;refine ⟨_,rfl,?_⟩;have Fb:=ga.mk (Qa (by repeat (first|(with_reducible first|exact HB.out|apply oa|apply ia|apply qa)|exact HB.out)) hb);clear HB;have HB:=Fb;clear Fb;(try clear hb);(try clear Jj);(try clear hk);(try clear hi);refine hK.out _ _ ⟨(Ra HB.out Rk),(Ra HB.out Qk),(Ra HB.out Pk),(Ra HB.out Nk),(Ra HB.out Mk),(Ra HB.out Lk),(Ra HB.out Kk),(Ra HB.out Jk),(Ra HB.out Ik),(Ra HB.out Gk)⟩ (fun hHeld=>?_);clear hK K;refine Wn (a':=?_) ?_ ?_;rotate_left
        ·show Act.put _ (some 25) _=_
         simp only [Act.put,List.setIfInBounds_toArray,List.set_cons_zero,List.set_cons_succ,dc,ec]
         rfl
        refine od (i:=9) (N:=some 26) (v:=?_) (a':=?_) #[true,true,true,true,true,true,true,true,true,true] rfl rfl (Cc Kf.out (by kernel_rfl)) (fun _ _ _ h=>h) (Or.inl ⟨by rfl,?_⟩) ?_ ?_;rotate_left
        ·intro w';go_simp;with_reducible rfl
        rotate_left
        ·simp only [Act.put,List.setIfInBounds_toArray,List.set_cons_zero,List.set_cons_succ,dc,ec]
         rfl
        refine Wo (Vj Kf.out (by kernel_rfl)) ?_
        try go_wp2
        go_roundg k1
        case measure=>have:=Gf.out;omega
        case rel=>exact ⟨(wrap64 (Aa + 1)),(by first|rfl|(simp;done)|(simp [*];done)),H',⟨by have:=Gf.out;omega⟩,⟨by repeat (first|(with_reducible first|exact HB.out|apply oa|apply ia|apply qa)|exact HB.out)⟩⟩
       ·replace c8:=Bool.eq_false_iff.mpr c8;subst c8;have H1:(some false)=some r:=by rw [if_neg (show ¬ (false=true) by decide)] at H;exact H
        clear H;have H:=H1;clear H1;obtain rfl:=Option.some.inj H
        try go_wp2
        have Fb:=ga.mk (qa HB.out);clear HB;have HB:=Fb;clear Fb;have Ee:0 ≤ (Aa:Int):=of_decide_eq_true (by first|(with_reducible assumption)|assumption);have De:Aa < (l0.length:Int):=of_decide_eq_true (by first|(with_reducible assumption)|assumption);obtain ⟨je,nk,bk,Ih,xd,qf,lf,kf,jf,zg,Ag⟩:=ek fl.out Aa Ee De;have Mk:=jf;have Nk:=kf;have Pk:=lf;have Qk:=qf;have Rk:=xd;cases Ih;replace xd:=Ra HB.out xd;replace qf:=Ra HB.out qf;replace lf:=Ra HB.out lf;replace kf:=Ra HB.out kf;replace jf:=Ra HB.out jf;have Kg:=ga.mk Ag;have mh:=ga.mk zg;clear Ag zg;replace Ee:=eq_true Ee;replace De:=eq_true De;have Fh:0 ≤ (Aa:Int):=of_decide_eq_true (by first|(with_reducible assumption)|assumption);have Eh:Aa < (l1.length:Int):=of_decide_eq_true (by first|(with_reducible assumption)|assumption);obtain ⟨Ye,Nu,Ku,Dp,Ke,dh,bh,ah,Zg,Uk,Vk⟩:=ek tJ.out Aa Fh Eh;have Gk:=Zg;have Ik:=ah;have Jk:=bh;have Kk:=dh;have Lk:=Ke;cases Dp;replace Ke:=Ra HB.out Ke;replace dh:=Ra HB.out dh;replace bh:=Ra HB.out bh;replace ah:=Ra HB.out ah;replace Zg:=Ra HB.out Zg;have Mj:=ga.mk Vk;have Zk:=ga.mk Uk;clear Vk Uk;replace Fh:=eq_true Fh;replace Eh:=eq_true Eh;refine xk (n:=10) (S:=fun w'=>w'.cell? (je.add ((Aa).toNat * 5))=some (.slice nk ((Ta l0 Aa).f0).length bk)∧w'.cell? ⟨(je.add ((Aa).toNat * 5)).block,(je.add ((Aa).toNat * 5)).off + 1,none⟩=some (.int .i64 ((Ta l0 Aa).f1))∧w'.cell? ⟨(je.add ((Aa).toNat * 5)).block,(je.add ((Aa).toNat * 5)).off + 2,none⟩=some (.int .i64 ((Ta l0 Aa).f2))∧w'.cell? ⟨(je.add ((Aa).toNat * 5)).block,(je.add ((Aa).toNat * 5)).off + 3,none⟩=some (.int .i64 ((Ta l0 Aa).f3))∧w'.cell? ⟨(je.add ((Aa).toNat * 5)).block,(je.add ((Aa).toNat * 5)).off + 4,none⟩=some (.int .i64 ((Ta l0 Aa).f4))∧w'.cell? (Ye.add ((Aa).toNat * 5))=some (.slice Nu ((Ta l1 Aa).f0).length Ku)∧w'.cell? ⟨(Ye.add ((Aa).toNat * 5)).block,(Ye.add ((Aa).toNat * 5)).off + 1,none⟩=some (.int .i64 ((Ta l1 Aa).f1))∧w'.cell? ⟨(Ye.add ((Aa).toNat * 5)).block,(Ye.add ((Aa).toNat * 5)).off + 2,none⟩=some (.int .i64 ((Ta l1 Aa).f2))∧w'.cell? ⟨(Ye.add ((Aa).toNat * 5)).block,(Ye.add ((Aa).toNat * 5)).off + 3,none⟩=some (.int .i64 ((Ta l1 Aa).f3))∧w'.cell? ⟨(Ye.add ((Aa).toNat * 5)).block,(Ye.add ((Aa).toNat * 5)).off + 4,none⟩=some (.int .i64 ((Ta l1 Aa).f4))) (ds:=[]) #[false,false,false,false,false,false,false,false,false,false] (by kernel_rfl) rfl rfl ⟨(Ra HB.out Rk),(Ra HB.out Qk),(Ra HB.out Pk),(Ra HB.out Nk),(Ra HB.out Mk),(Ra HB.out Lk),(Ra HB.out Kk),(Ra HB.out Jk),(Ra HB.out Ik),(Ra HB.out Gk)⟩ (fun hHeld=>?_);refine Kh tc.JN tc.gH (fun Kf Hq=>?_);generalize wr.drew=gj at HB Kg Mj xd qf lf kf jf Ke dh bh ah Zg hHeld ⊢;refine od (i:=0) (N:=some 17) (v:=?_) (a':=?_) #[true,false,false,false,false,false,false,false,false,false] rfl rfl (Cc Kf.out (by kernel_rfl)) (fun _ _ _ h=>h) (Or.inl ⟨by rfl,?_⟩) ?_ ?_;rotate_left
        ·intro w';go_simp;with_reducible rfl
        rotate_left
        ·simp only [Act.put,List.setIfInBounds_toArray,List.set_cons_zero,List.set_cons_succ,dc,ec]
         rfl
        refine od (i:=1) (N:=some 18) (v:=?_) (a':=?_) #[true,true,false,false,false,false,false,false,false,false] rfl rfl (Cc Kf.out (by kernel_rfl)) (fun _ _ _ h=>h) (Or.inl ⟨by rfl,?_⟩) ?_ ?_;rotate_left
        ·intro w';go_simp;with_reducible rfl
        rotate_left
        ·simp only [Act.put,List.setIfInBounds_toArray,List.set_cons_zero,List.set_cons_succ,dc,ec]
         rfl
        refine od (i:=2) (N:=some 19) (v:=?_) (a':=?_) #[true,true,true,false,false,false,false,false,false,false] rfl rfl (Cc Kf.out (by kernel_rfl)) (fun _ _ _ h=>h) (Or.inl ⟨by rfl,?_⟩) ?_ ?_;rotate_left
        ·intro w';go_simp;with_reducible rfl
        rotate_left
        ·simp only [Act.put,List.setIfInBounds_toArray,List.set_cons_zero,List.set_cons_succ,dc,ec]
         rfl
        refine od (i:=4) (N:=some 21) (v:=?_) (a':=?_) #[true,true,true,false,true,false,false,false,false,false] rfl rfl (Cc Kf.out (by kernel_rfl)) (fun _ _ _ h=>h) (Or.inl ⟨by rfl,?_⟩) ?_ ?_;rotate_left
        ·intro w';go_simp;with_reducible rfl
        rotate_left
        ·simp only [Act.put,List.setIfInBounds_toArray,List.set_cons_zero,List.set_cons_succ,dc,ec]
         rfl
        refine od (i:=5) (N:=some 22) (v:=?_) (a':=?_) #[true,true,true,false,true,true,false,false,false,false] rfl rfl (Cc Kf.out (by kernel_rfl)) (fun _ _ _ h=>h) (Or.inl ⟨by rfl,?_⟩) ?_ ?_;rotate_left
        ·intro w';go_simp;with_reducible rfl
        rotate_left
        ·simp only [Act.put,List.setIfInBounds_toArray,List.set_cons_zero,List.set_cons_succ,dc,ec]
         rfl
        refine od (i:=6) (N:=some 23) (v:=?_) (a':=?_) #[true,true,true,false,true,true,true,false,false,false] rfl rfl (Cc Kf.out (by kernel_rfl)) (fun _ _ _ h=>h) (Or.inl ⟨by rfl,?_⟩) ?_ ?_;rotate_left
        ·intro w';go_simp;with_reducible rfl
        rotate_left
        ·simp only [Act.put,List.setIfInBounds_toArray,List.set_cons_zero,List.set_cons_succ,dc,ec]
         rfl
        refine Ug (i:=3) (N:=some 20) (v:=?_) (a':=?_) #[true,true,true,true,true,true,true,false,false,false] rfl rfl (Te Kf.out Hq.out (by kernel_rfl)) (fun _ _ _ h=>h) (Or.inl ⟨by rfl,?_⟩) hHeld ?_ ?_;rotate_left
        ·rintro w' ⟨s0,s1,s2,s3,s4,s5,s6,s7,s8,s9⟩;go_simp;with_reducible rfl
        rotate_left
        ·simp only [Act.put,List.setIfInBounds_toArray,List.set_cons_zero,List.set_cons_succ,dc,ec]
         rfl
        refine Ug (i:=7) (N:=some 24) (v:=?_) (a':=?_) #[true,true,true,true,true,true,true,true,false,false] rfl rfl (Te Kf.out Hq.out (by kernel_rfl)) (fun _ _ _ h=>h) (Or.inl ⟨by rfl,?_⟩) hHeld ?_ ?_;rotate_left
        ·rintro w' ⟨s0,s1,s2,s3,s4,s5,s6,s7,s8,s9⟩;go_simp;with_reducible rfl
        rotate_left
        ·simp only [Act.put,List.setIfInBounds_toArray,List.set_cons_zero,List.set_cons_succ,dc,ec]
         rfl
        refine Yu (i:=8) (N:=some 25) #[true,true,true,true,true,true,true,true,true,false] rfl rfl (qm Kf.out (by kernel_rfl)) (by decide) (fun K hK=>?_);refine Nq Try.func108 (by kernel_rfl) rfl #[.agg #[.slice nk ((Ta l0 Aa).f0).length bk,.int .i64 ((Ta l0 Aa).f1),.int .i64 ((Ta l0 Aa).f2),.int .i64 ((Ta l0 Aa).f3),.int .i64 ((Ta l0 Aa).f4)],.agg #[.slice Nu ((Ta l1 Aa).f0).length Ku,.int .i64 ((Ta l1 Aa).f1),.int .i64 ((Ta l1 Aa).f2),.int .i64 ((Ta l1 Aa).f3),.int .i64 ((Ta l1 Aa).f4)]] (by rfl) rfl rfl (by (try simp only [List.map_toArray,List.map_cons,List.map_nil]);first|done|rfl|(simp only [List.length_drop,List.length_take];rfl)) ?_;with_reducible refine (Hj.calls k1 _ _ ((Ta l0 Aa).f0) ((Ta l0 Aa).f1) ((Ta l0 Aa).f2) ((Ta l0 Aa).f3) ((Ta l0 Aa).f4) _ _ ((Ta l1 Aa).f0) ((Ta l1 Aa).f1) ((Ta l1 Aa).f2) ((Ta l1 Aa).f3) ((Ta l1 Aa).f4) false _ ?yc ?uc ?Ad ?yd A7.out).mono ?_
        (case yc=>repeat (first|exact (Kd.Mb Kg.out HB.out)|(with_reducible refine Kd.Sb ?_ _)|(with_reducible refine Kd.Rb ?_ _)|(with_reducible refine Kd.jc ?_)))
        (case uc=>exact mh.out)
        (case Ad=>repeat (first|exact (Kd.Mb Mj.out HB.out)|(with_reducible refine Kd.Sb ?_ _)|(with_reducible refine Kd.Rb ?_ _)|(with_reducible refine Kd.jc ?_)))
        (case yd=>exact Zk.out)
        rintro e dx ⟨rfl,hb⟩;refine ⟨_,rfl,?_⟩;have Fb:=ga.mk (Qa (by repeat (first|(with_reducible first|exact HB.out|apply oa|apply ia|apply qa)|exact HB.out)) hb);clear HB;have HB:=Fb;clear Fb;(try clear hb);(try clear Jj);(try clear hk);(try clear hi);refine hK.out _ _ ⟨(Ra HB.out Rk),(Ra HB.out Qk),(Ra HB.out Pk),(Ra HB.out Nk),(Ra HB.out Mk),(Ra HB.out Lk),(Ra HB.out Kk),(Ra HB.out Jk),(Ra HB.out Ik),(Ra HB.out Gk)⟩ (fun hHeld=>?_);clear hK K;refine Wn (a':=?_) ?_ ?_;rotate_left
        ·show Act.put _ (some 25) _=_
         simp only [Act.put,List.setIfInBounds_toArray,List.set_cons_zero,List.set_cons_succ,dc,ec]
         rfl
        refine od (i:=9) (N:=some 26) (v:=?_) (a':=?_) #[true,true,true,true,true,true,true,true,true,true] rfl rfl (Cc Kf.out (by kernel_rfl)) (fun _ _ _ h=>h) (Or.inl ⟨by rfl,?_⟩) ?_ ?_;rotate_left
        ·intro w';go_simp;with_reducible rfl
        rotate_left
        ·simp only [Act.put,List.setIfInBounds_toArray,List.set_cons_zero,List.set_cons_succ,dc,ec]
         rfl
        refine Wo (Vj Kf.out (by kernel_rfl)) ?_
        try go_wp2
        go_ret;exact ⟨by first|rfl|(simp [Na,Ma] <;> rfl)|(simp [*,Na,Ma] <;> rfl),by repeat (first|(with_reducible first|exact HB.out|apply oa|apply ia|apply qa)|exact HB.out)⟩
      ·rw [if_neg c6] at H;exact absurd H (by simp)
     ·rw [if_neg c5] at H;exact absurd H (by simp)
    ·rw [if_neg c4] at H;have Aj:decide (Aa < (l0.length:Int))=false:=decide_eq_false c4;clear c4;obtain rfl:=Option.some.inj H;go_wp2;go_ret;exact ⟨by first|rfl|(simp [Na,Ma] <;> rfl)|(simp [*,Na,Ma] <;> rfl),by repeat (first|(with_reducible first|exact HB.out|apply oa|apply ia|apply qa)|exact HB.out)⟩
 ·rw [if_neg c3] at H;have Cg:((l0.length:Int) == (l1.length:Int))=false:=beq_eq_false_iff_ne.mpr c3;have Zl:((l0.length:Int) != (l1.length:Int))=true:=bne_iff_ne.mpr c3;have DA:(l0.length == l1.length)=false:=by first|simpa using c3|(simp at c3 ⊢;omega)
  obtain rfl:=Option.some.inj H;go_enter Try.func80,Try.ntmps80;go_wp2;go_ret;exact ⟨by first|rfl|(simp [Na,Ma] <;> rfl)|(simp [*,Na,Ma] <;> rfl),by repeat (first|(with_reducible first|exact HB.out|apply oa|apply ia|apply qa)|exact HB.out)⟩
def Ai.f (k:Nat) (Oa:List Int) (La:Int) (Pa:Int) (Ja:Int) (Fa:List (zf)) (Mc:List Int) (Ub:Int) (Nb:Int) (Ob:Int) (gl:List (zf)):Option (Bool):=(ld.f k Oa Mc).bind fun t103=>(if t103=true then (if La=Ub then (if Pa=Nb then (if Ja=Ob then ((tc.f k Fa gl).bind fun t104=>(if t104=true then (some true) else (some false))) else (some false)) else (some false)) else (some false)) else (some false))
theorem Ai.calls (k:Nat) (xb:Option Addr) (qb:Nat) (Oa:List Int) (La:Int) (Pa:Int) (Ja:Int) (Pb:Option Addr) (Gb:Nat) (Fa:List (zf)) (Ff:Option Addr) (tf:Nat) (Mc:List Int) (Ub:Int) (Nb:Int) (Ob:Int) (Yq:Option Addr) (Wq:Nat) (gl:List (zf)) (r:Bool) (w:World) (xe:Kd.C (Kd.int .i64) w xb Oa.length Oa) (we:Oa.length ≤ qb) (Wf:Kd.C Bp w Pb Fa.length Fa) (Uf:Fa.length ≤ Gb) (Vt:Kd.C (Kd.int .i64) w Ff Mc.length Mc) (Xt:Mc.length ≤ tf) (lW:Kd.C Bp w Yq gl.length gl) (OW:gl.length ≤ Wq) (h:Ai.f k Oa La Pa Ja Fa Mc Ub Nb Ob gl=some r) :
  Calls Try.prog 29 #[.agg #[.slice xb Oa.length qb,.int .i64 La,.int .i64 Pa,.int .i64 Ja,.slice Pb Fa.length Gb],.agg #[.slice Ff Mc.length tf,.int .i64 Ub,.int .i64 Nb,.int .i64 Ob,.slice Yq gl.length Wq]] w fun e w'=>e = .returned (.bool r)∧Below w.heap.size w w':=by
 have mA:=Try.underlying45;have Ue:=ga.mk xe;have af:=ga.mk we;clear xe we;have ng:=ga.mk Wf;have Xg:=ga.mk Uf;clear Wf Uf;have Jm:=ga.mk Vt;have lp:=ga.mk Xt;clear Vt Xt;have AX:=ga.mk lW;have YX:=ga.mk OW;clear lW OW;have HB:=ga.mk (Below.refl w.heap.size w);have H:((ld.f k Oa Mc).bind fun t103=>(if t103=true then (if La=Ub then (if Pa=Nb then (if Ja=Ob then ((tc.f k Fa gl).bind fun t104=>(if t104=true then (some true) else (some false))) else (some false)) else (some false)) else (some false)) else (some false)))=some r:=h;clear h;replace H:=Option.bind_eq_some_iff.mp H;obtain ⟨t103,SA,H⟩:=H;replace H:(if t103=true then (if La=Ub then (if Pa=Nb then (if Ja=Ob then ((tc.f k Fa gl).bind fun t104=>(if t104=true then (some true) else (some false))) else (some false)) else (some false)) else (some false)) else (some false))=some r:=H;have A3:=ga.mk SA;clear SA
 by_cases c4:t103=true
 ·subst c4;have H1:(if La=Ub then (if Pa=Nb then (if Ja=Ob then ((tc.f k Fa gl).bind fun t104=>(if t104=true then (some true) else (some false))) else (some false)) else (some false)) else (some false))=some r:=by rw [if_pos rfl] at H;exact H
  clear H;have H:=H1;clear H1
  by_cases c5:La=Ub
  ·rw [if_pos c5] at H;have Al:(La == Ub)=true:=beq_iff_eq.mpr c5;have Ex:(La != Ub)=false:=bne_eq_false_iff_eq.mpr c5;clear c5
   by_cases c6:Pa=Nb
   ·rw [if_pos c6] at H;have Yl:(Pa == Nb)=true:=beq_iff_eq.mpr c6;have XE:(Pa != Nb)=false:=bne_eq_false_iff_eq.mpr c6;clear c6
    by_cases c7:Ja=Ob
    ·rw [if_pos c7] at H;have Aq:(Ja == Ob)=true:=beq_iff_eq.mpr c7;have BA:(Ja != Ob)=false:=bne_eq_false_iff_eq.mpr c7;clear c7;replace H:=Option.bind_eq_some_iff.mp H;obtain ⟨t104,UQ,H⟩:=H;replace H:(if t104=true then (some true) else (some false))=some r:=H;have A8:=ga.mk UQ;clear UQ
     by_cases c9:t104=true
     ·subst c9;have H1:(some true)=some r:=by rw [if_pos rfl] at H;exact H
      clear H;have H:=H1;clear H1;obtain rfl:=Option.some.inj H;go_enter Try.func29,Try.ntmps29;go_wp2_with (first|((with_reducible refine Db (N:=2) rfl ?_);refine Jb ?hg (N:=2) ?hd (cs:=#[.slice xb Oa.length qb,.int .i64 La,.int .i64 Pa,.int .i64 Ja,.slice Pb Fa.length Gb]) (t:=45) ?hr ?_;(case hd=>rfl);(case hg=>rfl);(case hr=>first|(go_simp;done)|(go_simp;rfl));intro za hg Qn Wb hb;have Fb:=ga.mk (Qa (by repeat (first|(with_reducible first|exact HB.out|apply oa|apply ia|apply qa)|exact HB.out)) hb);have Lb:=ga.mk (Wb);have Vb:=ga.mk ((by rw [hg];exact (Ka (by repeat (first|(with_reducible first|exact HB.out|apply oa|apply ia|apply qa)|exact HB.out))):w.heap.size ≤ za));have Bc:=ga.mk ((by rw [hg];exact (Ka (by repeat (first|(with_reducible first|exact HB.out|apply oa|apply ia|apply qa)|exact HB.out))):w.heap.size ≤ za));clear HB;have HB:=Fb;have ta:=Lb;have ye:=Vb;have Sa:=Bc;clear Fb Lb Vb Bc hb Wb hg)|((with_reducible refine Db (N:=3) rfl ?_);refine Jb ?hg (N:=3) ?hd (cs:=#[.slice Ff Mc.length tf,.int .i64 Ub,.int .i64 Nb,.int .i64 Ob,.slice Yq gl.length Wq]) (t:=45) ?hr ?_;(case hd=>rfl);(case hg=>rfl);(case hr=>first|(go_simp;done)|(go_simp;rfl));intro Ga hg gj Wb hb;have Fb:=ga.mk (Va (g:=za) (o:=.cells #[.slice xb Oa.length qb,.int .i64 La,.int .i64 Pa,.int .i64 Ja,.slice Pb Fa.length Gb] 45 (0,0)) (by (with_reducible repeat (first|refine Ca ?_ _|refine Ea ?_|refine Da ?_ _));exact ta.out) hb);have Lb:=ga.mk (Qa (by repeat (first|(with_reducible first|exact HB.out|apply oa|apply ia|apply qa|refine ua ?_ Sa.out)|exact HB.out)) hb);have Vb:=ga.mk (Wb);have Bc:=ga.mk ((by rw [hg];exact (Ka (by repeat (first|(with_reducible first|exact HB.out|apply oa|apply ia|apply qa|refine ua ?_ Sa.out)|exact HB.out))):w.heap.size ≤ Ga));have Ge:=ga.mk ((by rw [hg];exact (Ka (by repeat (first|(with_reducible first|exact HB.out|apply oa|apply ia|apply qa|refine ua ?_ Sa.out)|exact HB.out))):w.heap.size ≤ Ga));have Zf:=ga.mk ((by rw [hg];exact Nat.ne_of_lt (Qc (g:=za) (o:=.cells #[.slice xb Oa.length qb,.int .i64 La,.int .i64 Pa,.int .i64 Ja,.slice Pb Fa.length Gb] 45 (0,0)) (by (with_reducible repeat (first|refine Ca ?_ _|refine Ea ?_|refine Da ?_ _));exact ta.out)):za ≠ Ga));have Dh:=ga.mk ((by rw [hg];exact Nat.ne_of_gt (Qc (g:=za) (o:=.cells #[.slice xb Oa.length qb,.int .i64 La,.int .i64 Pa,.int .i64 Ja,.slice Pb Fa.length Gb] 45 (0,0)) (by (with_reducible repeat (first|refine Ca ?_ _|refine Ea ?_|refine Da ?_ _));exact ta.out)):Ga ≠ za));clear ta HB;have ta:=Fb;have HB:=Lb;have ya:=Vb;have qj:=Bc;have qc:=Ge;have Cb:=Zf;have Bb:=Dh;clear Fb Lb Vb Bc Ge Zf Dh hb Wb hg;have qW:=Cb.out;have oW:=Bb.out;have xq:gj.cell? ⟨za,0,none⟩=some (.slice xb Oa.length qb):=(ja ta.out 0).trans rfl;have wq:gj.cell? ⟨za,1,none⟩=some (.int .i64 La):=(ja ta.out 1).trans rfl;have vq:gj.cell? ⟨za,2,none⟩=some (.int .i64 Pa):=(ja ta.out 2).trans rfl;have uq:gj.cell? ⟨za,3,none⟩=some (.int .i64 Ja):=(ja ta.out 3).trans rfl;have sq:gj.cell? ⟨za,4,none⟩=some (.slice Pb Fa.length Gb):=(ja ta.out 4).trans rfl;have lq:=aa ta.out 0;have jq:=aa ta.out 1;have iq:=aa ta.out 2;have gq:=aa ta.out 3;have fq:=aa ta.out 4;have rq:gj.cell? ⟨Ga,0,none⟩=some (.slice Ff Mc.length tf):=(ja ya.out 0).trans rfl;have qq:gj.cell? ⟨Ga,1,none⟩=some (.int .i64 Ub):=(ja ya.out 1).trans rfl;have pq:gj.cell? ⟨Ga,2,none⟩=some (.int .i64 Nb):=(ja ya.out 2).trans rfl;have oq:gj.cell? ⟨Ga,3,none⟩=some (.int .i64 Ob):=(ja ya.out 3).trans rfl;have mq:gj.cell? ⟨Ga,4,none⟩=some (.slice Yq gl.length Wq):=(ja ya.out 4).trans rfl;have cq:=aa ya.out 0;have bq:=aa ya.out 1;have aq:=aa ya.out 2;have Zp:=aa ya.out 3;have Yp:=aa ya.out 4)|((with_reducible refine zb (f:=17) rfl ?_);refine Dc (some 9) rfl rfl Try.func17 (by kernel_rfl) rfl #[.slice xb Oa.length qb,.slice Ff Mc.length tf] rfl (by (try simp only [List.map_toArray,List.map_cons,List.map_nil]);first|done|rfl|(simp only [List.length_drop,List.length_take];rfl)) ?_;(with_reducible refine (ld.calls k _ _ Oa _ _ Mc true _ ?yc ?uc ?Ad ?yd A3.out).mono ?_);(case yc=>repeat (first|exact (Kd.Mb Ue.out HB.out)|(with_reducible refine Kd.Sb ?_ _)|(with_reducible refine Kd.Rb ?_ _)|(with_reducible refine Kd.jc ?_)));(case uc=>exact af.out);(case Ad=>repeat (first|exact (Kd.Mb Jm.out HB.out)|(with_reducible refine Kd.Sb ?_ _)|(with_reducible refine Kd.Rb ?_ _)|(with_reducible refine Kd.jc ?_)));(case yd=>exact lp.out);rintro e w' ⟨rfl,⟨nd,rfl⟩⟩;refine ⟨_,rfl,?_⟩)|((with_reducible refine zb (f:=80) rfl ?_);refine Dc (some 30) rfl rfl Try.func80 (by kernel_rfl) rfl #[.slice Pb Fa.length Gb,.slice Yq gl.length Wq] rfl (by (try simp only [List.map_toArray,List.map_cons,List.map_nil]);first|done|rfl|(simp only [List.length_drop,List.length_take];rfl)) ?_;(with_reducible refine (tc.calls k _ _ Fa _ _ gl true _ ?yc ?uc ?Ad ?yd A8.out).mono ?_);(case yc=>repeat (first|exact (Kd.Mb ng.out (by repeat (first|(with_reducible first|exact HB.out|apply oa|apply ia|apply qa|refine ua ?_ Sa.out|refine ua ?_ qc.out)|exact HB.out)))|(with_reducible refine Kd.Sb ?_ _)|(with_reducible refine Kd.Rb ?_ _)|(with_reducible refine Kd.jc ?_)));(case uc=>exact Xg.out);(case Ad=>repeat (first|exact (Kd.Mb AX.out (by repeat (first|(with_reducible first|exact HB.out|apply oa|apply ia|apply qa|refine ua ?_ Sa.out|refine ua ?_ qc.out)|exact HB.out)))|(with_reducible refine Kd.Sb ?_ _)|(with_reducible refine Kd.Rb ?_ _)|(with_reducible refine Kd.jc ?_)));(case yd=>exact YX.out);rintro e Gp ⟨rfl,hb⟩;refine ⟨_,rfl,?_⟩;have Fb:=ga.mk (Va (g:=za) (o:=.cells #[.slice xb Oa.length qb,.int .i64 La,.int .i64 Pa,.int .i64 Ja,.slice Pb Fa.length Gb] 45 (0,0)) (by (with_reducible repeat (first|refine Ca ?_ _|refine Ea ?_|refine Da ?_ _));exact ta.out) hb);have Lb:=ga.mk (Va (g:=Ga) (o:=.cells #[.slice Ff Mc.length tf,.int .i64 Ub,.int .i64 Nb,.int .i64 Ob,.slice Yq gl.length Wq] 45 (0,0)) (by (with_reducible repeat (first|refine Ca ?_ _|refine Ea ?_|refine Da ?_ _));exact ya.out) hb);have Vb:=ga.mk (Qa (by repeat (first|(with_reducible first|exact HB.out|apply oa|apply ia|apply qa|refine ua ?_ Sa.out|refine ua ?_ qc.out)|exact HB.out)) hb);clear ta ya HB;have ta:=Fb;have ya:=Lb;have HB:=Vb;clear Fb Lb Vb;(try clear hb);(try clear Jj);(try clear hk);(try clear hi)));go_ret;exact ⟨by first|rfl|(simp [Na,Ma] <;> rfl)|(simp [*,Na,Ma] <;> rfl),by repeat (first|(with_reducible first|exact HB.out|apply oa|apply ia|apply qa|refine ua ?_ Sa.out|refine ua ?_ qc.out)|exact HB.out)⟩
     ·replace c9:=Bool.eq_false_iff.mpr c9;subst c9;have H1:(some false)=some r:=by rw [if_neg (show ¬ (false=true) by decide)] at H;exact H
      clear H;have H:=H1;clear H1;obtain rfl:=Option.some.inj H;go_enter Try.func29,Try.ntmps29;go_wp2_with (first|((with_reducible refine Db (N:=2) rfl ?_);refine Jb ?hg (N:=2) ?hd (cs:=#[.slice xb Oa.length qb,.int .i64 La,.int .i64 Pa,.int .i64 Ja,.slice Pb Fa.length Gb]) (t:=45) ?hr ?_;(case hd=>rfl);(case hg=>rfl);(case hr=>first|(go_simp;done)|(go_simp;rfl));intro za hg wB Wb hb;have Fb:=ga.mk (Qa (by repeat (first|(with_reducible first|exact HB.out|apply oa|apply ia|apply qa)|exact HB.out)) hb);have Lb:=ga.mk (Wb);have Vb:=ga.mk ((by rw [hg];exact (Ka (by repeat (first|(with_reducible first|exact HB.out|apply oa|apply ia|apply qa)|exact HB.out))):w.heap.size ≤ za));have Bc:=ga.mk ((by rw [hg];exact (Ka (by repeat (first|(with_reducible first|exact HB.out|apply oa|apply ia|apply qa)|exact HB.out))):w.heap.size ≤ za));clear HB;have HB:=Fb;have ta:=Lb;have ye:=Vb;have Sa:=Bc;clear Fb Lb Vb Bc hb Wb hg)|((with_reducible refine Db (N:=3) rfl ?_);refine Jb ?hg (N:=3) ?hd (cs:=#[.slice Ff Mc.length tf,.int .i64 Ub,.int .i64 Nb,.int .i64 Ob,.slice Yq gl.length Wq]) (t:=45) ?hr ?_;(case hd=>rfl);(case hg=>rfl);(case hr=>first|(go_simp;done)|(go_simp;rfl));intro Ga hg jl Wb hb;have Fb:=ga.mk (Va (g:=za) (o:=.cells #[.slice xb Oa.length qb,.int .i64 La,.int .i64 Pa,.int .i64 Ja,.slice Pb Fa.length Gb] 45 (0,0)) (by (with_reducible repeat (first|refine Ca ?_ _|refine Ea ?_|refine Da ?_ _));exact ta.out) hb);have Lb:=ga.mk (Qa (by repeat (first|(with_reducible first|exact HB.out|apply oa|apply ia|apply qa|refine ua ?_ Sa.out)|exact HB.out)) hb);have Vb:=ga.mk (Wb);have Bc:=ga.mk ((by rw [hg];exact (Ka (by repeat (first|(with_reducible first|exact HB.out|apply oa|apply ia|apply qa|refine ua ?_ Sa.out)|exact HB.out))):w.heap.size ≤ Ga));have Ge:=ga.mk ((by rw [hg];exact (Ka (by repeat (first|(with_reducible first|exact HB.out|apply oa|apply ia|apply qa|refine ua ?_ Sa.out)|exact HB.out))):w.heap.size ≤ Ga));have Zf:=ga.mk ((by rw [hg];exact Nat.ne_of_lt (Qc (g:=za) (o:=.cells #[.slice xb Oa.length qb,.int .i64 La,.int .i64 Pa,.int .i64 Ja,.slice Pb Fa.length Gb] 45 (0,0)) (by (with_reducible repeat (first|refine Ca ?_ _|refine Ea ?_|refine Da ?_ _));exact ta.out)):za ≠ Ga));have Dh:=ga.mk ((by rw [hg];exact Nat.ne_of_gt (Qc (g:=za) (o:=.cells #[.slice xb Oa.length qb,.int .i64 La,.int .i64 Pa,.int .i64 Ja,.slice Pb Fa.length Gb] 45 (0,0)) (by (with_reducible repeat (first|refine Ca ?_ _|refine Ea ?_|refine Da ?_ _));exact ta.out)):Ga ≠ za));clear ta HB;have ta:=Fb;have HB:=Lb;have ya:=Vb;have qj:=Bc;have qc:=Ge;have Cb:=Zf;have Bb:=Dh;clear Fb Lb Vb Bc Ge Zf Dh hb Wb hg;have Xar:=Cb.out;have mar:=Bb.out;have ZU:jl.cell? ⟨za,0,none⟩=some (.slice xb Oa.length qb):=(ja ta.out 0).trans rfl;have YU:jl.cell? ⟨za,1,none⟩=some (.int .i64 La):=(ja ta.out 1).trans rfl;have XU:jl.cell? ⟨za,2,none⟩=some (.int .i64 Pa):=(ja ta.out 2).trans rfl;have WU:jl.cell? ⟨za,3,none⟩=some (.int .i64 Ja):=(ja ta.out 3).trans rfl;have VU:jl.cell? ⟨za,4,none⟩=some (.slice Pb Fa.length Gb):=(ja ta.out 4).trans rfl;have FT:=aa ta.out 0;have ET:=aa ta.out 1;have DT:=aa ta.out 2;have CT:=aa ta.out 3;have zT:=aa ta.out 4;have UU:jl.cell? ⟨Ga,0,none⟩=some (.slice Ff Mc.length tf):=(ja ya.out 0).trans rfl;have TU:jl.cell? ⟨Ga,1,none⟩=some (.int .i64 Ub):=(ja ya.out 1).trans rfl;have SU:jl.cell? ⟨Ga,2,none⟩=some (.int .i64 Nb):=(ja ya.out 2).trans rfl;have RU:jl.cell? ⟨Ga,3,none⟩=some (.int .i64 Ob):=(ja ya.out 3).trans rfl;have QU:jl.cell? ⟨Ga,4,none⟩=some (.slice Yq gl.length Wq):=(ja ya.out 4).trans rfl;have yT:=aa ya.out 0;have xT:=aa ya.out 1;have wT:=aa ya.out 2;have vT:=aa ya.out 3;have uT:=aa ya.out 4)|((with_reducible refine zb (f:=17) rfl ?_);refine Dc (some 9) rfl rfl Try.func17 (by kernel_rfl) rfl #[.slice xb Oa.length qb,.slice Ff Mc.length tf] rfl (by (try simp only [List.map_toArray,List.map_cons,List.map_nil]);first|done|rfl|(simp only [List.length_drop,List.length_take];rfl)) ?_;(with_reducible refine (ld.calls k _ _ Oa _ _ Mc true _ ?yc ?uc ?Ad ?yd A3.out).mono ?_);(case yc=>repeat (first|exact (Kd.Mb Ue.out HB.out)|(with_reducible refine Kd.Sb ?_ _)|(with_reducible refine Kd.Rb ?_ _)|(with_reducible refine Kd.jc ?_)));(case uc=>exact af.out);(case Ad=>repeat (first|exact (Kd.Mb Jm.out HB.out)|(with_reducible refine Kd.Sb ?_ _)|(with_reducible refine Kd.Rb ?_ _)|(with_reducible refine Kd.jc ?_)));(case yd=>exact lp.out);rintro e w' ⟨rfl,⟨nd,rfl⟩⟩;refine ⟨_,rfl,?_⟩)|((with_reducible refine zb (f:=80) rfl ?_);refine Dc (some 30) rfl rfl Try.func80 (by kernel_rfl) rfl #[.slice Pb Fa.length Gb,.slice Yq gl.length Wq] rfl (by (try simp only [List.map_toArray,List.map_cons,List.map_nil]);first|done|rfl|(simp only [List.length_drop,List.length_take];rfl)) ?_;(with_reducible refine (tc.calls k _ _ Fa _ _ gl false _ ?yc ?uc ?Ad ?yd A8.out).mono ?_);(case yc=>repeat (first|exact (Kd.Mb ng.out (by repeat (first|(with_reducible first|exact HB.out|apply oa|apply ia|apply qa|refine ua ?_ Sa.out|refine ua ?_ qc.out)|exact HB.out)))|(with_reducible refine Kd.Sb ?_ _)|(with_reducible refine Kd.Rb ?_ _)|(with_reducible refine Kd.jc ?_)));(case uc=>exact Xg.out);(case Ad=>repeat (first|exact (Kd.Mb AX.out (by repeat (first|(with_reducible first|exact HB.out|apply oa|apply ia|apply qa|refine ua ?_ Sa.out|refine ua ?_ qc.out)|exact HB.out)))|(with_reducible refine Kd.Sb ?_ _)|(with_reducible refine Kd.Rb ?_ _)|(with_reducible refine Kd.jc ?_)));(case yd=>exact YX.out);rintro e Kq ⟨rfl,hb⟩;refine ⟨_,rfl,?_⟩;have Fb:=ga.mk (Va (g:=za) (o:=.cells #[.slice xb Oa.length qb,.int .i64 La,.int .i64 Pa,.int .i64 Ja,.slice Pb Fa.length Gb] 45 (0,0)) (by (with_reducible repeat (first|refine Ca ?_ _|refine Ea ?_|refine Da ?_ _));exact ta.out) hb);have Lb:=ga.mk (Va (g:=Ga) (o:=.cells #[.slice Ff Mc.length tf,.int .i64 Ub,.int .i64 Nb,.int .i64 Ob,.slice Yq gl.length Wq] 45 (0,0)) (by (with_reducible repeat (first|refine Ca ?_ _|refine Ea ?_|refine Da ?_ _));exact ya.out) hb);have Vb:=ga.mk (Qa (by repeat (first|(with_reducible first|exact HB.out|apply oa|apply ia|apply qa|refine ua ?_ Sa.out|refine ua ?_ qc.out)|exact HB.out)) hb);clear ta ya HB;have ta:=Fb;have ya:=Lb;have HB:=Vb;clear Fb Lb Vb;(try clear hb);(try clear Jj);(try clear hk);(try clear hi)));go_ret;exact ⟨by first|rfl|(simp [Na,Ma] <;> rfl)|(simp [*,Na,Ma] <;> rfl),by repeat (first|(with_reducible first|exact HB.out|apply oa|apply ia|apply qa|refine ua ?_ Sa.out|refine ua ?_ qc.out)|exact HB.out)⟩
    ·rw [if_neg c7] at H;have Aq:(Ja == Ob)=false:=beq_eq_false_iff_ne.mpr c7;have BA:(Ja != Ob)=true:=bne_iff_ne.mpr c7;obtain rfl:=Option.some.inj H;go_enter Try.func29,Try.ntmps29;go_wp2_with (first|((with_reducible refine Db (N:=2) rfl ?_);refine Jb ?hg (N:=2) ?hd (cs:=#[.slice xb Oa.length qb,.int .i64 La,.int .i64 Pa,.int .i64 Ja,.slice Pb Fa.length Gb]) (t:=45) ?hr ?_;(case hd=>rfl);(case hg=>rfl);(case hr=>first|(go_simp;done)|(go_simp;rfl));intro za hg EN Wb hb;have Fb:=ga.mk (Qa (by repeat (first|(with_reducible first|exact HB.out|apply oa|apply ia|apply qa)|exact HB.out)) hb);have Lb:=ga.mk (Wb);have Vb:=ga.mk ((by rw [hg];exact (Ka (by repeat (first|(with_reducible first|exact HB.out|apply oa|apply ia|apply qa)|exact HB.out))):w.heap.size ≤ za));have Bc:=ga.mk ((by rw [hg];exact (Ka (by repeat (first|(with_reducible first|exact HB.out|apply oa|apply ia|apply qa)|exact HB.out))):w.heap.size ≤ za));clear HB;have HB:=Fb;have ta:=Lb;have ye:=Vb;have Sa:=Bc;clear Fb Lb Vb Bc hb Wb hg)|((with_reducible refine Db (N:=3) rfl ?_);refine Jb ?hg (N:=3) ?hd (cs:=#[.slice Ff Mc.length tf,.int .i64 Ub,.int .i64 Nb,.int .i64 Ob,.slice Yq gl.length Wq]) (t:=45) ?hr ?_;(case hd=>rfl);(case hg=>rfl);(case hr=>first|(go_simp;done)|(go_simp;rfl));intro Ga hg Qt Wb hb;have Fb:=ga.mk (Va (g:=za) (o:=.cells #[.slice xb Oa.length qb,.int .i64 La,.int .i64 Pa,.int .i64 Ja,.slice Pb Fa.length Gb] 45 (0,0)) (by (with_reducible repeat (first|refine Ca ?_ _|refine Ea ?_|refine Da ?_ _));exact ta.out) hb);have Lb:=ga.mk (Qa (by repeat (first|(with_reducible first|exact HB.out|apply oa|apply ia|apply qa|refine ua ?_ Sa.out)|exact HB.out)) hb);have Vb:=ga.mk (Wb);have Bc:=ga.mk ((by rw [hg];exact (Ka (by repeat (first|(with_reducible first|exact HB.out|apply oa|apply ia|apply qa|refine ua ?_ Sa.out)|exact HB.out))):w.heap.size ≤ Ga));have Ge:=ga.mk ((by rw [hg];exact (Ka (by repeat (first|(with_reducible first|exact HB.out|apply oa|apply ia|apply qa|refine ua ?_ Sa.out)|exact HB.out))):w.heap.size ≤ Ga));have Zf:=ga.mk ((by rw [hg];exact Nat.ne_of_lt (Qc (g:=za) (o:=.cells #[.slice xb Oa.length qb,.int .i64 La,.int .i64 Pa,.int .i64 Ja,.slice Pb Fa.length Gb] 45 (0,0)) (by (with_reducible repeat (first|refine Ca ?_ _|refine Ea ?_|refine Da ?_ _));exact ta.out)):za ≠ Ga));have Dh:=ga.mk ((by rw [hg];exact Nat.ne_of_gt (Qc (g:=za) (o:=.cells #[.slice xb Oa.length qb,.int .i64 La,.int .i64 Pa,.int .i64 Ja,.slice Pb Fa.length Gb] 45 (0,0)) (by (with_reducible repeat (first|refine Ca ?_ _|refine Ea ?_|refine Da ?_ _));exact ta.out)):Ga ≠ za));clear ta HB;have ta:=Fb;have HB:=Lb;have ya:=Vb;have qj:=Bc;have qc:=Ge;have Cb:=Zf;have Bb:=Dh;clear Fb Lb Vb Bc Ge Zf Dh hb Wb hg;have S6:=Cb.out;have I6:=Bb.out;have Xs:Qt.cell? ⟨za,0,none⟩=some (.slice xb Oa.length qb):=(ja ta.out 0).trans rfl;have Ws:Qt.cell? ⟨za,1,none⟩=some (.int .i64 La):=(ja ta.out 1).trans rfl;have Vs:Qt.cell? ⟨za,2,none⟩=some (.int .i64 Pa):=(ja ta.out 2).trans rfl;have Us:Qt.cell? ⟨za,3,none⟩=some (.int .i64 Ja):=(ja ta.out 3).trans rfl;have Ts:Qt.cell? ⟨za,4,none⟩=some (.slice Pb Fa.length Gb):=(ja ta.out 4).trans rfl;have Fs:=aa ta.out 0;have Es:=aa ta.out 1;have Ds:=aa ta.out 2;have Cs:=aa ta.out 3;have Bs:=aa ta.out 4;have zw:Qt.cell? ⟨Ga,0,none⟩=some (.slice Ff Mc.length tf):=(ja ya.out 0).trans rfl;have yw:Qt.cell? ⟨Ga,1,none⟩=some (.int .i64 Ub):=(ja ya.out 1).trans rfl;have xw:Qt.cell? ⟨Ga,2,none⟩=some (.int .i64 Nb):=(ja ya.out 2).trans rfl;have vw:Qt.cell? ⟨Ga,3,none⟩=some (.int .i64 Ob):=(ja ya.out 3).trans rfl;have uw:Qt.cell? ⟨Ga,4,none⟩=some (.slice Yq gl.length Wq):=(ja ya.out 4).trans rfl;have cw:=aa ya.out 0;have bw:=aa ya.out 1;have Zv:=aa ya.out 2;have Yv:=aa ya.out 3;have Xv:=aa ya.out 4)|((with_reducible refine zb (f:=17) rfl ?_);refine Dc (some 9) rfl rfl Try.func17 (by kernel_rfl) rfl #[.slice xb Oa.length qb,.slice Ff Mc.length tf] rfl (by (try simp only [List.map_toArray,List.map_cons,List.map_nil]);first|done|rfl|(simp only [List.length_drop,List.length_take];rfl)) ?_;(with_reducible refine (ld.calls k _ _ Oa _ _ Mc true _ ?yc ?uc ?Ad ?yd A3.out).mono ?_);(case yc=>repeat (first|exact (Kd.Mb Ue.out HB.out)|(with_reducible refine Kd.Sb ?_ _)|(with_reducible refine Kd.Rb ?_ _)|(with_reducible refine Kd.jc ?_)));(case uc=>exact af.out);(case Ad=>repeat (first|exact (Kd.Mb Jm.out HB.out)|(with_reducible refine Kd.Sb ?_ _)|(with_reducible refine Kd.Rb ?_ _)|(with_reducible refine Kd.jc ?_)));(case yd=>exact lp.out);rintro e w' ⟨rfl,⟨nd,rfl⟩⟩;refine ⟨_,rfl,?_⟩));go_ret;exact ⟨by first|rfl|(simp [Na,Ma] <;> rfl)|(simp [*,Na,Ma] <;> rfl),by repeat (first|(with_reducible first|exact HB.out|apply oa|apply ia|apply qa|refine ua ?_ Sa.out|refine ua ?_ qc.out)|exact HB.out)⟩
   ·rw [if_neg c6] at H;have Yl:(Pa == Nb)=false:=beq_eq_false_iff_ne.mpr c6;have XE:(Pa != Nb)=true:=bne_iff_ne.mpr c6;obtain rfl:=Option.some.inj H;go_enter Try.func29,Try.ntmps29;go_wp2_with (first|((with_reducible refine Db (N:=2) rfl ?_);refine Jb ?hg (N:=2) ?hd (cs:=#[.slice xb Oa.length qb,.int .i64 La,.int .i64 Pa,.int .i64 Ja,.slice Pb Fa.length Gb]) (t:=45) ?hr ?_;(case hd=>rfl);(case hg=>rfl);(case hr=>first|(go_simp;done)|(go_simp;rfl));intro za hg w27 Wb hb;have Fb:=ga.mk (Qa (by repeat (first|(with_reducible first|exact HB.out|apply oa|apply ia|apply qa)|exact HB.out)) hb);have Lb:=ga.mk (Wb);have Vb:=ga.mk ((by rw [hg];exact (Ka (by repeat (first|(with_reducible first|exact HB.out|apply oa|apply ia|apply qa)|exact HB.out))):w.heap.size ≤ za));have Bc:=ga.mk ((by rw [hg];exact (Ka (by repeat (first|(with_reducible first|exact HB.out|apply oa|apply ia|apply qa)|exact HB.out))):w.heap.size ≤ za));clear HB;have HB:=Fb;have ta:=Lb;have ye:=Vb;have Sa:=Bc;clear Fb Lb Vb Bc hb Wb hg)|((with_reducible refine Db (N:=3) rfl ?_);refine Jb ?hg (N:=3) ?hd (cs:=#[.slice Ff Mc.length tf,.int .i64 Ub,.int .i64 Nb,.int .i64 Ob,.slice Yq gl.length Wq]) (t:=45) ?hr ?_;(case hd=>rfl);(case hg=>rfl);(case hr=>first|(go_simp;done)|(go_simp;rfl));intro Ga hg DH Wb hb;have Fb:=ga.mk (Va (g:=za) (o:=.cells #[.slice xb Oa.length qb,.int .i64 La,.int .i64 Pa,.int .i64 Ja,.slice Pb Fa.length Gb] 45 (0,0)) (by (with_reducible repeat (first|refine Ca ?_ _|refine Ea ?_|refine Da ?_ _));exact ta.out) hb);have Lb:=ga.mk (Qa (by repeat (first|(with_reducible first|exact HB.out|apply oa|apply ia|apply qa|refine ua ?_ Sa.out)|exact HB.out)) hb);have Vb:=ga.mk (Wb);have Bc:=ga.mk ((by rw [hg];exact (Ka (by repeat (first|(with_reducible first|exact HB.out|apply oa|apply ia|apply qa|refine ua ?_ Sa.out)|exact HB.out))):w.heap.size ≤ Ga));have Ge:=ga.mk ((by rw [hg];exact (Ka (by repeat (first|(with_reducible first|exact HB.out|apply oa|apply ia|apply qa|refine ua ?_ Sa.out)|exact HB.out))):w.heap.size ≤ Ga));have Zf:=ga.mk ((by rw [hg];exact Nat.ne_of_lt (Qc (g:=za) (o:=.cells #[.slice xb Oa.length qb,.int .i64 La,.int .i64 Pa,.int .i64 Ja,.slice Pb Fa.length Gb] 45 (0,0)) (by (with_reducible repeat (first|refine Ca ?_ _|refine Ea ?_|refine Da ?_ _));exact ta.out)):za ≠ Ga));have Dh:=ga.mk ((by rw [hg];exact Nat.ne_of_gt (Qc (g:=za) (o:=.cells #[.slice xb Oa.length qb,.int .i64 La,.int .i64 Pa,.int .i64 Ja,.slice Pb Fa.length Gb] 45 (0,0)) (by (with_reducible repeat (first|refine Ca ?_ _|refine Ea ?_|refine Da ?_ _));exact ta.out)):Ga ≠ za));clear ta HB;have ta:=Fb;have HB:=Lb;have ya:=Vb;have qj:=Bc;have qc:=Ge;have Cb:=Zf;have Bb:=Dh;clear Fb Lb Vb Bc Ge Zf Dh hb Wb hg;have Rar:=Cb.out;have har:=Bb.out;have wz:DH.cell? ⟨za,0,none⟩=some (.slice xb Oa.length qb):=(ja ta.out 0).trans rfl;have uz:DH.cell? ⟨za,1,none⟩=some (.int .i64 La):=(ja ta.out 1).trans rfl;have rz:DH.cell? ⟨za,2,none⟩=some (.int .i64 Pa):=(ja ta.out 2).trans rfl;have qz:DH.cell? ⟨za,3,none⟩=some (.int .i64 Ja):=(ja ta.out 3).trans rfl;have pz:DH.cell? ⟨za,4,none⟩=some (.slice Pb Fa.length Gb):=(ja ta.out 4).trans rfl;have Wy:=aa ta.out 0;have Vy:=aa ta.out 1;have Uy:=aa ta.out 2;have Ty:=aa ta.out 3;have Sy:=aa ta.out 4;have oz:DH.cell? ⟨Ga,0,none⟩=some (.slice Ff Mc.length tf):=(ja ya.out 0).trans rfl;have mz:DH.cell? ⟨Ga,1,none⟩=some (.int .i64 Ub):=(ja ya.out 1).trans rfl;have kz:DH.cell? ⟨Ga,2,none⟩=some (.int .i64 Nb):=(ja ya.out 2).trans rfl;have jz:DH.cell? ⟨Ga,3,none⟩=some (.int .i64 Ob):=(ja ya.out 3).trans rfl;have iz:DH.cell? ⟨Ga,4,none⟩=some (.slice Yq gl.length Wq):=(ja ya.out 4).trans rfl;have Ry:=aa ya.out 0;have Qy:=aa ya.out 1;have Py:=aa ya.out 2;have Oy:=aa ya.out 3;have Ny:=aa ya.out 4)|((with_reducible refine zb (f:=17) rfl ?_);refine Dc (some 9) rfl rfl Try.func17 (by kernel_rfl) rfl #[.slice xb Oa.length qb,.slice Ff Mc.length tf] rfl (by (try simp only [List.map_toArray,List.map_cons,List.map_nil]);first|done|rfl|(simp only [List.length_drop,List.length_take];rfl)) ?_;(with_reducible refine (ld.calls k _ _ Oa _ _ Mc true _ ?yc ?uc ?Ad ?yd A3.out).mono ?_);(case yc=>repeat (first|exact (Kd.Mb Ue.out HB.out)|(with_reducible refine Kd.Sb ?_ _)|(with_reducible refine Kd.Rb ?_ _)|(with_reducible refine Kd.jc ?_)));(case uc=>exact af.out);(case Ad=>repeat (first|exact (Kd.Mb Jm.out HB.out)|(with_reducible refine Kd.Sb ?_ _)|(with_reducible refine Kd.Rb ?_ _)|(with_reducible refine Kd.jc ?_)));(case yd=>exact lp.out);rintro e w' ⟨rfl,⟨nd,rfl⟩⟩;refine ⟨_,rfl,?_⟩));go_ret;exact ⟨by first|rfl|(simp [Na,Ma] <;> rfl)|(simp [*,Na,Ma] <;> rfl),by repeat (first|(with_reducible first|exact HB.out|apply oa|apply ia|apply qa|refine ua ?_ Sa.out|refine ua ?_ qc.out)|exact HB.out)⟩
  ·rw [if_neg c5] at H;have Al:(La == Ub)=false:=beq_eq_false_iff_ne.mpr c5;have Ex:(La != Ub)=true:=bne_iff_ne.mpr c5;obtain rfl:=Option.some.inj H;go_enter Try.func29,Try.ntmps29;go_wp2_with (first|((with_reducible refine Db (N:=2) rfl ?_);refine Jb ?hg (N:=2) ?hd (cs:=#[.slice xb Oa.length qb,.int .i64 La,.int .i64 Pa,.int .i64 Ja,.slice Pb Fa.length Gb]) (t:=45) ?hr ?_;(case hd=>rfl);(case hg=>rfl);(case hr=>first|(go_simp;done)|(go_simp;rfl));intro za hg w32 Wb hb;have Fb:=ga.mk (Qa (by repeat (first|(with_reducible first|exact HB.out|apply oa|apply ia|apply qa)|exact HB.out)) hb);have Lb:=ga.mk (Wb);have Vb:=ga.mk ((by rw [hg];exact (Ka (by repeat (first|(with_reducible first|exact HB.out|apply oa|apply ia|apply qa)|exact HB.out))):w.heap.size ≤ za));have Bc:=ga.mk ((by rw [hg];exact (Ka (by repeat (first|(with_reducible first|exact HB.out|apply oa|apply ia|apply qa)|exact HB.out))):w.heap.size ≤ za));clear HB;have HB:=Fb;have ta:=Lb;have ye:=Vb;have Sa:=Bc;clear Fb Lb Vb Bc hb Wb hg)|((with_reducible refine Db (N:=3) rfl ?_);refine Jb ?hg (N:=3) ?hd (cs:=#[.slice Ff Mc.length tf,.int .i64 Ub,.int .i64 Nb,.int .i64 Ob,.slice Yq gl.length Wq]) (t:=45) ?hr ?_;(case hd=>rfl);(case hg=>rfl);(case hr=>first|(go_simp;done)|(go_simp;rfl));intro Ga hg pN Wb hb;have Fb:=ga.mk (Va (g:=za) (o:=.cells #[.slice xb Oa.length qb,.int .i64 La,.int .i64 Pa,.int .i64 Ja,.slice Pb Fa.length Gb] 45 (0,0)) (by (with_reducible repeat (first|refine Ca ?_ _|refine Ea ?_|refine Da ?_ _));exact ta.out) hb);have Lb:=ga.mk (Qa (by repeat (first|(with_reducible first|exact HB.out|apply oa|apply ia|apply qa|refine ua ?_ Sa.out)|exact HB.out)) hb);have Vb:=ga.mk (Wb);have Bc:=ga.mk ((by rw [hg];exact (Ka (by repeat (first|(with_reducible first|exact HB.out|apply oa|apply ia|apply qa|refine ua ?_ Sa.out)|exact HB.out))):w.heap.size ≤ Ga));have Ge:=ga.mk ((by rw [hg];exact (Ka (by repeat (first|(with_reducible first|exact HB.out|apply oa|apply ia|apply qa|refine ua ?_ Sa.out)|exact HB.out))):w.heap.size ≤ Ga));have Zf:=ga.mk ((by rw [hg];exact Nat.ne_of_lt (Qc (g:=za) (o:=.cells #[.slice xb Oa.length qb,.int .i64 La,.int .i64 Pa,.int .i64 Ja,.slice Pb Fa.length Gb] 45 (0,0)) (by (with_reducible repeat (first|refine Ca ?_ _|refine Ea ?_|refine Da ?_ _));exact ta.out)):za ≠ Ga));have Dh:=ga.mk ((by rw [hg];exact Nat.ne_of_gt (Qc (g:=za) (o:=.cells #[.slice xb Oa.length qb,.int .i64 La,.int .i64 Pa,.int .i64 Ja,.slice Pb Fa.length Gb] 45 (0,0)) (by (with_reducible repeat (first|refine Ca ?_ _|refine Ea ?_|refine Da ?_ _));exact ta.out)):Ga ≠ za));clear ta HB;have ta:=Fb;have HB:=Lb;have ya:=Vb;have qj:=Bc;have qc:=Ge;have Cb:=Zf;have Bb:=Dh;clear Fb Lb Vb Bc Ge Zf Dh hb Wb hg;have Mar:=Cb.out;have bar:=Bb.out;have IU:pN.cell? ⟨za,0,none⟩=some (.slice xb Oa.length qb):=(ja ta.out 0).trans rfl;have GU:pN.cell? ⟨za,1,none⟩=some (.int .i64 La):=(ja ta.out 1).trans rfl;have FU:pN.cell? ⟨za,2,none⟩=some (.int .i64 Pa):=(ja ta.out 2).trans rfl;have EU:pN.cell? ⟨za,3,none⟩=some (.int .i64 Ja):=(ja ta.out 3).trans rfl;have DU:pN.cell? ⟨za,4,none⟩=some (.slice Pb Fa.length Gb):=(ja ta.out 4).trans rfl;have lT:=aa ta.out 0;have kT:=aa ta.out 1;have jT:=aa ta.out 2;have iT:=aa ta.out 3;have gT:=aa ta.out 4;have fE:pN.cell? ⟨Ga,0,none⟩=some (.slice Ff Mc.length tf):=(ja ya.out 0).trans rfl;have eE:pN.cell? ⟨Ga,1,none⟩=some (.int .i64 Ub):=(ja ya.out 1).trans rfl;have cE:pN.cell? ⟨Ga,2,none⟩=some (.int .i64 Nb):=(ja ya.out 2).trans rfl;have bE:pN.cell? ⟨Ga,3,none⟩=some (.int .i64 Ob):=(ja ya.out 3).trans rfl;have aE:pN.cell? ⟨Ga,4,none⟩=some (.slice Yq gl.length Wq):=(ja ya.out 4).trans rfl;have eD:=aa ya.out 0;have dD:=aa ya.out 1;have cD:=aa ya.out 2;have bD:=aa ya.out 3;have aD:=aa ya.out 4)|((with_reducible refine zb (f:=17) rfl ?_);refine Dc (some 9) rfl rfl Try.func17 (by kernel_rfl) rfl #[.slice xb Oa.length qb,.slice Ff Mc.length tf] rfl (by (try simp only [List.map_toArray,List.map_cons,List.map_nil]);first|done|rfl|(simp only [List.length_drop,List.length_take];rfl)) ?_;(with_reducible refine (ld.calls k _ _ Oa _ _ Mc true _ ?yc ?uc ?Ad ?yd A3.out).mono ?_);(case yc=>repeat (first|exact (Kd.Mb Ue.out HB.out)|(with_reducible refine Kd.Sb ?_ _)|(with_reducible refine Kd.Rb ?_ _)|(with_reducible refine Kd.jc ?_)));(case uc=>exact af.out);(case Ad=>repeat (first|exact (Kd.Mb Jm.out HB.out)|(with_reducible refine Kd.Sb ?_ _)|(with_reducible refine Kd.Rb ?_ _)|(with_reducible refine Kd.jc ?_)));(case yd=>exact lp.out);rintro e w' ⟨rfl,⟨nd,rfl⟩⟩;refine ⟨_,rfl,?_⟩));go_ret;exact ⟨by first|rfl|(simp [Na,Ma] <;> rfl)|(simp [*,Na,Ma] <;> rfl),by repeat (first|(with_reducible first|exact HB.out|apply oa|apply ia|apply qa|refine ua ?_ Sa.out|refine ua ?_ qc.out)|exact HB.out)⟩
 ·replace c4:=Bool.eq_false_iff.mpr c4;subst c4;have H1:(some false)=some r:=by rw [if_neg (show ¬ (false=true) by decide)] at H;exact H
  clear H;have H:=H1;clear H1;obtain rfl:=Option.some.inj H;go_enter Try.func29,Try.ntmps29;go_wp2_with (first|((with_reducible refine Db (N:=2) rfl ?_);refine Jb ?hg (N:=2) ?hd (cs:=#[.slice xb Oa.length qb,.int .i64 La,.int .i64 Pa,.int .i64 Ja,.slice Pb Fa.length Gb]) (t:=45) ?hr ?_;(case hd=>rfl);(case hg=>rfl);(case hr=>first|(go_simp;done)|(go_simp;rfl));intro za hg hY Wb hb;have Fb:=ga.mk (Qa (by repeat (first|(with_reducible first|exact HB.out|apply oa|apply ia|apply qa)|exact HB.out)) hb);have Lb:=ga.mk (Wb);have Vb:=ga.mk ((by rw [hg];exact (Ka (by repeat (first|(with_reducible first|exact HB.out|apply oa|apply ia|apply qa)|exact HB.out))):w.heap.size ≤ za));have Bc:=ga.mk ((by rw [hg];exact (Ka (by repeat (first|(with_reducible first|exact HB.out|apply oa|apply ia|apply qa)|exact HB.out))):w.heap.size ≤ za));clear HB;have HB:=Fb;have ta:=Lb;have ye:=Vb;have Sa:=Bc;clear Fb Lb Vb Bc hb Wb hg)|((with_reducible refine Db (N:=3) rfl ?_);refine Jb ?hg (N:=3) ?hd (cs:=#[.slice Ff Mc.length tf,.int .i64 Ub,.int .i64 Nb,.int .i64 Ob,.slice Yq gl.length Wq]) (t:=45) ?hr ?_;(case hd=>rfl);(case hg=>rfl);(case hr=>first|(go_simp;done)|(go_simp;rfl));intro Ga hg UA Wb hb;have Fb:=ga.mk (Va (g:=za) (o:=.cells #[.slice xb Oa.length qb,.int .i64 La,.int .i64 Pa,.int .i64 Ja,.slice Pb Fa.length Gb] 45 (0,0)) (by (with_reducible repeat (first|refine Ca ?_ _|refine Ea ?_|refine Da ?_ _));exact ta.out) hb);have Lb:=ga.mk (Qa (by repeat (first|(with_reducible first|exact HB.out|apply oa|apply ia|apply qa|refine ua ?_ Sa.out)|exact HB.out)) hb);have Vb:=ga.mk (Wb);have Bc:=ga.mk ((by rw [hg];exact (Ka (by repeat (first|(with_reducible first|exact HB.out|apply oa|apply ia|apply qa|refine ua ?_ Sa.out)|exact HB.out))):w.heap.size ≤ Ga));have Ge:=ga.mk ((by rw [hg];exact (Ka (by repeat (first|(with_reducible first|exact HB.out|apply oa|apply ia|apply qa|refine ua ?_ Sa.out)|exact HB.out))):w.heap.size ≤ Ga));have Zf:=ga.mk ((by rw [hg];exact Nat.ne_of_lt (Qc (g:=za) (o:=.cells #[.slice xb Oa.length qb,.int .i64 La,.int .i64 Pa,.int .i64 Ja,.slice Pb Fa.length Gb] 45 (0,0)) (by (with_reducible repeat (first|refine Ca ?_ _|refine Ea ?_|refine Da ?_ _));exact ta.out)):za ≠ Ga));have Dh:=ga.mk ((by rw [hg];exact Nat.ne_of_gt (Qc (g:=za) (o:=.cells #[.slice xb Oa.length qb,.int .i64 La,.int .i64 Pa,.int .i64 Ja,.slice Pb Fa.length Gb] 45 (0,0)) (by (with_reducible repeat (first|refine Ca ?_ _|refine Ea ?_|refine Da ?_ _));exact ta.out)):Ga ≠ za));clear ta HB;have ta:=Fb;have HB:=Lb;have ya:=Vb;have qj:=Bc;have qc:=Ge;have Cb:=Zf;have Bb:=Dh;clear Fb Lb Vb Bc Ge Zf Dh hb Wb hg;have N6:=Cb.out;have D6:=Bb.out;have gz:UA.cell? ⟨za,0,none⟩=some (.slice xb Oa.length qb):=(ja ta.out 0).trans rfl;have fz:UA.cell? ⟨za,1,none⟩=some (.int .i64 La):=(ja ta.out 1).trans rfl;have ez:UA.cell? ⟨za,2,none⟩=some (.int .i64 Pa):=(ja ta.out 2).trans rfl;have dz:UA.cell? ⟨za,3,none⟩=some (.int .i64 Ja):=(ja ta.out 3).trans rfl;have cz:UA.cell? ⟨za,4,none⟩=some (.slice Pb Fa.length Gb):=(ja ta.out 4).trans rfl;have My:=aa ta.out 0;have Ky:=aa ta.out 1;have Jy:=aa ta.out 2;have Iy:=aa ta.out 3;have Hy:=aa ta.out 4;have vU:UA.cell? ⟨Ga,0,none⟩=some (.slice Ff Mc.length tf):=(ja ya.out 0).trans rfl;have uU:UA.cell? ⟨Ga,1,none⟩=some (.int .i64 Ub):=(ja ya.out 1).trans rfl;have tU:UA.cell? ⟨Ga,2,none⟩=some (.int .i64 Nb):=(ja ya.out 2).trans rfl;have sU:UA.cell? ⟨Ga,3,none⟩=some (.int .i64 Ob):=(ja ya.out 3).trans rfl;have rU:UA.cell? ⟨Ga,4,none⟩=some (.slice Yq gl.length Wq):=(ja ya.out 4).trans rfl;have XS:=aa ya.out 0;have WS:=aa ya.out 1;have VS:=aa ya.out 2;have US:=aa ya.out 3;have TS:=aa ya.out 4)|((with_reducible refine zb (f:=17) rfl ?_);refine Dc (some 9) rfl rfl Try.func17 (by kernel_rfl) rfl #[.slice xb Oa.length qb,.slice Ff Mc.length tf] rfl (by (try simp only [List.map_toArray,List.map_cons,List.map_nil]);first|done|rfl|(simp only [List.length_drop,List.length_take];rfl)) ?_;(with_reducible refine (ld.calls k _ _ Oa _ _ Mc false _ ?yc ?uc ?Ad ?yd A3.out).mono ?_);(case yc=>repeat (first|exact (Kd.Mb Ue.out HB.out)|(with_reducible refine Kd.Sb ?_ _)|(with_reducible refine Kd.Rb ?_ _)|(with_reducible refine Kd.jc ?_)));(case uc=>exact af.out);(case Ad=>repeat (first|exact (Kd.Mb Jm.out HB.out)|(with_reducible refine Kd.Sb ?_ _)|(with_reducible refine Kd.Rb ?_ _)|(with_reducible refine Kd.jc ?_)));(case yd=>exact lp.out);rintro e w' ⟨rfl,⟨nd,rfl⟩⟩;refine ⟨_,rfl,?_⟩));go_ret;exact ⟨by first|rfl|(simp [Na,Ma] <;> rfl)|(simp [*,Na,Ma] <;> rfl),by repeat (first|(with_reducible first|exact HB.out|apply oa|apply ia|apply qa|refine ua ?_ Sa.out|refine ua ?_ qc.out)|exact HB.out)⟩
theorem Ev.pos {α:Type} {c:Prop} [Decidable c] {f g:Nat→Option α} {r:α} (h:c) (k:Ev f r):Ev (fun n=>if c then f n else g n) r:=Ev.congr (fun n=>if_pos h) k
theorem Ev.neg {α:Type} {c:Prop} [Decidable c] {f g:Nat→Option α} {r:α} (h:¬ c) (k:Ev g r):Ev (fun n=>if c then f n else g n) r:=Ev.congr (fun n=>if_neg h) k
theorem Ev.val {α β:Type} {a:α} {f:Nat→α→Option β} {r:β} (k:Ev (fun n=>f n a) r):Ev (fun n=>(some a).bind (f n)) r:=Ev.congr (fun n=>rfl) k
theorem Ev.here {α:Type} {o:Option α} {r:α} (h:o=some r):Ev (fun _=>o) r:=Ev.congr (fun n=>h) (Ev.now r)
theorem pg {x:Int} (h:-9223372036854775808 ≤ x) (h':x ≤ 9223372036854775807):wrap64 x=x:=by
 unfold wrap64;omega
theorem Ie {i n:Nat} (h:i < n) (hn:n ≤ 9223372036854775807):wrap64 ((i:Int) + 1)=((i + 1:Nat):Int):=by
 rw [pg (by omega) (by omega)];omega
theorem Qg {ρ:Type} {n:Nat} {r:ρ} (P:Nat→Prop) (hend:P n) (hstep:∀ i,i < n→P (i + 1)→P i):∀ i,i ≤ n→P i:=by
 have key:∀ d i,i + d=n→P i:=by
  intro d
  induction d with
  | zero =>
   intro i hi;have:i=n:=by omega
   exact this ▸ hend
  | succ d ih =>
   intro i hi;exact hstep i (by omega) (ih (i + 1) (by omega))
 intro i hi;exact key (n - i) i (by omega)
theorem Lw {α:Type} {m:List α} {z:α} {i:Nat} (h:i < m.length):(m.take i ++ List.replicate (m.length - i) z).set i (m.getD i z)=m.take (i + 1) ++ List.replicate (m.length - (i + 1)) z:=by
 rw [List.set_append_right _ _ (by rw [List.length_take];omega),List.length_take,Nat.min_eq_left (by omega),Nat.sub_self];rw [show m.length - i=(m.length - (i + 1)) + 1 from by omega,List.replicate_succ,List.set_cons_zero,List.take_succ_eq_append_getElem h,List.append_assoc];simp [List.getD_eq_getElem?_getD,List.getElem?_eq_getElem h]
theorem MB {α:Type} {m:List α} {z:α}:m.take 0 ++ List.replicate (m.length - 0) z=List.replicate m.length z:=by simp
theorem rA {α:Type} {m:List α} {z:α}:m.take m.length ++ List.replicate (m.length - m.length) z=m:=by simp
theorem mC (l:List Int) (i:Nat):rd l (i:Int)=l.getD i 0:=rfl
def iota (m:Int) (n:Nat):List Int:=(List.range n).map fun (j:Nat)=>m + (j:Int)
theorem wj (m:Int) (n:Nat):(iota m n).length=n:=by simp [iota]
theorem FB {m:Int} {n i:Nat} (h:i < n):(iota m n).getD i 0=m + i:=by simp [iota,List.getD_eq_getElem?_getD,h]
theorem JF {α:Type} {m l:List α} {z:α} {i:Nat} (hl:l.length=m.length) (h:i < m.length):(m.take i ++ l.drop i).set i (m.getD i z)=m.take (i + 1) ++ l.drop (i + 1):=by
 rw [List.set_append_right _ _ (by rw [List.length_take];omega),List.length_take,Nat.min_eq_left (by omega),Nat.sub_self];rw [List.drop_eq_getElem_cons (by omega),List.set_cons_zero,List.take_succ_eq_append_getElem h,List.append_assoc];simp [List.getD_eq_getElem?_getD,List.getElem?_eq_getElem h]
theorem UF (a b c:Int):Yg.f a b c=some (Ij a b c):=by
 unfold Yg.f Ij
 by_cases h:a ≥ b
 ·rw [if_pos h];have h':b ≤ a:=h;simp [h']
 ·rw [if_neg h];have h':¬ b ≤ a:=h;simp [h']
theorem XM (l:List Int) (hl:l.length ≤ 35184372088832):Ev (fun k=>Be.f k l) l:=by
 refine Ev.congr (f:=fun k=>Be.l0 k l (List.replicate l.length 0) 0) (fun k=>?_) ?_
 ·unfold Be.f;rw [if_pos (by omega),if_pos (by omega)]
  rfl
 ·have key:=Qg (r:=l) (n:=l.length) (fun i=>Ev (fun k=>Be.l0 k l (l.take i ++ List.replicate (l.length - i) 0) (i:Int)) l) ?_ ?_ 0 (by omega)
  ·simpa using key
  ·refine Ev.step (fun k=>by rw [Be.l0]) ?_;refine Ev.neg (by omega) ?_;rw [rA];exact Ev.now l
  ·intro i hi h;refine Ev.step (fun k=>by rw [Be.l0]) ?_;refine Ev.pos (by omega) (Ev.pos (by omega) (Ev.pos (by simp;omega) ?_));rw [Ie hi (by omega),mC,Int.toNat_natCast,Lw hi];exact h
theorem OB (l:List Int) (hl:l.length ≤ 9223372036854775807):Ev (fun k=>ld.f k l l) true:=by
 refine Ev.congr (f:=fun k=>ld.l0 k l l 0) (fun k=>?_) ?_
 ·unfold ld.f;rw [if_pos rfl]
 ·refine Qg (r:=true) (n:=l.length) (fun i=>Ev (fun k=>ld.l0 k l l (i:Int)) true) ?_ ?_ 0 (by omega)
  ·refine Ev.step (fun k=>by rw [ld.l0]) ?_;exact Ev.neg (by omega) (Ev.now _)
  ·intro i hi h;refine Ev.step (fun k=>by rw [ld.l0]) ?_;refine Ev.pos (by omega) (Ev.pos (by omega) (Ev.pos (by omega) (Ev.pos rfl ?_)));rw [Ie hi hl];exact h
theorem vR (l:List Int) (a:Int) (ha:0 ≤ a) (ha':a ≤ 1048576) (hl:l.length ≤ 9223372036854775807):∃ t,Lh.f l a=some t∧t ≤ a∧(0 ≤ t→t + l.length=a):=by
 unfold Lh.f;rw [pg (by omega) (by omega)]
 split
 ·exact ⟨-1,rfl,by omega,by omega⟩
 ·exact ⟨_,rfl,by omega,by omega⟩
def Fl (x:dm):Vc:=⟨x.f0,x.f1,x.f2,x.f3,x.f4,x.f5,x.f6⟩
theorem EG (l:List dm) (hl:l.length ≤ 4398046511104):Ev (fun k=>Bd.f k l) (l.map Fl):=by
 refine Ev.congr (f:=fun k=>Bd.l0 k l (List.replicate l.length Cj) 0) (fun k=>?_) ?_
 ·unfold Bd.f;rw [if_pos (by omega),if_pos (by omega)]
  rfl
 ·have key:=Qg (r:=l.map Fl) (n:=l.length) (fun i=>Ev (fun k=>Bd.l0 k l ((l.map Fl).take i ++ List.replicate ((l.map Fl).length - i) Cj) (i:Int)) (l.map Fl)) ?_ ?_ 0 (by omega)
  ·rw [MB,List.length_map] at key;exact key
  ·refine Ev.step (fun k=>by rw [Bd.l0]) ?_;refine Ev.neg (by omega) ?_;have e:=rA (m:=l.map Fl) (z:=Cj);rw [List.length_map] at e;rw [List.length_map,e];exact Ev.now _
  ·intro i hi h;refine Ev.step (fun k=>by rw [Bd.l0]) ?_;refine Ev.pos (by omega) (Ev.pos (by omega) ?_);unfold Ck.f;refine Ev.val (Ev.pos (by simp;omega) ?_)
   have hc:Fl (Ec l (i:Int))=(l.map Fl).getD i Cj:=by
    simp [Ec,List.getD_eq_getElem?_getD,hi]
   have hf:=Lw (m:=l.map Fl) (z:=Cj) (i:=i) (by rw [List.length_map];exact hi);rw [← hc] at hf;rw [Ie hi (by omega),Int.toNat_natCast];have e:=hf ▸ h;exact e
theorem OG (l:List Vc) (hl:l.length ≤ 9223372036854775807):Ev (fun k=>mc.f k l l) true:=by
 refine Ev.congr (f:=fun k=>mc.l0 k l l 0) (fun k=>?_) ?_
 ·unfold mc.f;rw [if_pos rfl]
 ·refine Qg (r:=true) (n:=l.length) (fun i=>Ev (fun k=>mc.l0 k l l (i:Int)) true) ?_ ?_ 0 (by omega)
  ·refine Ev.step (fun k=>by rw [mc.l0]) ?_;exact Ev.neg (by omega) (Ev.now _)
  ·intro i hi h;refine Ev.step (fun k=>by rw [mc.l0]) ?_;refine Ev.pos (by omega) (Ev.pos (by omega) (Ev.pos (by omega) ?_));unfold Gj.f;simp only [if_true];refine Ev.val (Ev.pos rfl ?_);rw [Ie hi hl];exact h
def gx (l:List dm):Nat:=(l.map fun x=>x.f6.size).sum
def rM (l:List dm):Nat:=l.length + gx l
def qY (l:List fk):Nat:=l.length + (l.map fun x=>rM x.f0).sum
theorem Tt {l:List dm} {i:Nat} (h:i < l.length):Ec l (i:Int)=l[i]:=by simp [Ec,List.getD_eq_getElem?_getD,h]
theorem xp {l:List fk} {i:Nat} (h:i < l.length):qd l (i:Int)=l[i]:=by simp [qd,List.getD_eq_getElem?_getD,h]
theorem GG (l:List dm) (a:Int) (ha:0 ≤ a) (ha':a ≤ 1048576) (hl:l.length ≤ 9223372036854775807) (ht:∀ x ∈ l,x.f6.size ≤ 9223372036854775807) :
  ∃ t,Ev (fun k=>Nd.f k l a) t∧t ≤ a∧(0 ≤ t→t + rM l=a):=by
 have key:=Qg (ρ:=Unit) (r:=()) (n:=l.length) (fun i=>∀ a:Int,0 ≤ a→a ≤ 1048576→∃ t,Ev (fun k=>Nd.l0 k l a (i:Int)) t∧t ≤ a∧(0 ≤ t→t + gx (l.drop i)=a)) ?_ ?_ 0 (by omega)
 ·unfold Nd.f;rw [pg (by omega) (by omega)]
  by_cases h:a - (l.length:Int) < 0
  ·exact ⟨-1,Ev.pos h (Ev.now _),by omega,by omega⟩
  ·obtain ⟨t,e1,e2,e3⟩:=key (a - l.length) (by omega) (by omega);refine ⟨t,Ev.neg h e1,by omega,fun h0=>?_⟩;have:=e3 h0;rw [List.drop_zero] at this;unfold rM;omega
 ·intro a h0 h1;refine ⟨a,?_,by omega,?_⟩
  ·refine Ev.step (fun k=>by rw [Nd.l0]) ?_;exact Ev.neg (by omega) (Ev.now _)
  ·intro _;rw [List.drop_length];simp [gx]
 ·intro i hi ih a h0 h1;have hx:=ht l[i] (List.getElem_mem hi)
  have hd:gx (l.drop i)=l[i].f6.size + gx (l.drop (i + 1)):=by
   rw [List.drop_eq_getElem_cons hi];simp only [gx,List.map_cons,List.sum_cons]
  by_cases h:a - (l[i].f6.size:Int) < 0
  ·refine ⟨-1,?_,by omega,by omega⟩;refine Ev.step (fun k=>by rw [Nd.l0]) ?_;refine Ev.pos (by omega) (Ev.pos (by omega) ?_);rw [Tt hi];unfold si.f;rw [pg (by omega) (by omega),if_pos h];exact Ev.val (Ev.pos (by decide) (Ev.now _))
  ·obtain ⟨t,e1,e2,e3⟩:=ih (a - l[i].f6.size) (by omega) (by omega);refine ⟨t,?_,by omega,fun hh=>by have:=e3 hh;omega⟩;refine Ev.step (fun k=>by rw [Nd.l0]) ?_;refine Ev.pos (by omega) (Ev.pos (by omega) ?_);rw [Tt hi];unfold si.f;rw [pg (by omega) (by omega),if_neg h];refine Ev.val (Ev.neg (by omega) ?_);rw [Ie hi hl];exact e1
theorem IG (l:List fk) (a:Int) (ha:0 ≤ a) (ha':a ≤ 1048576) (hl:l.length ≤ 9223372036854775807) (ht:∀ x ∈ l,x.f0.length ≤ 9223372036854775807∧∀ y ∈ x.f0,y.f6.size ≤ 9223372036854775807) :
  ∃ t,Ev (fun k=>Cd.f k l a) t∧t ≤ a∧(0 ≤ t→t + qY l=a):=by
 have key:=Qg (ρ:=Unit) (r:=()) (n:=l.length) (fun i=>∀ a:Int,0 ≤ a→a ≤ 1048576→∃ t,Ev (fun k=>Cd.l0 k l a (i:Int)) t∧t ≤ a∧(0 ≤ t→t + ((l.drop i).map fun x=>rM x.f0).sum=a)) ?_ ?_ 0 (by omega)
 ·unfold Cd.f;rw [pg (by omega) (by omega)]
  by_cases h:a - (l.length:Int) < 0
  ·exact ⟨-1,Ev.pos h (Ev.now _),by omega,by omega⟩
  ·obtain ⟨t,e1,e2,e3⟩:=key (a - l.length) (by omega) (by omega);refine ⟨t,Ev.neg h e1,by omega,fun h0=>?_⟩;have:=e3 h0;rw [List.drop_zero] at this;unfold qY;omega
 ·intro a h0 h1;refine ⟨a,?_,by omega,?_⟩
  ·refine Ev.step (fun k=>by rw [Cd.l0]) ?_;exact Ev.neg (by omega) (Ev.now _)
  ·intro _;rw [List.drop_length];simp
 ·intro i hi ih a h0 h1;have hx:=ht l[i] (List.getElem_mem hi)
  have hd:((l.drop i).map fun x=>rM x.f0).sum=rM l[i].f0 + ((l.drop (i + 1)).map fun x=>rM x.f0).sum:=by
   rw [List.drop_eq_getElem_cons hi];simp only [List.map_cons,List.sum_cons]
  obtain ⟨u,f1,f2,f3⟩:=GG l[i].f0 a h0 h1 hx.1 hx.2
  by_cases h:u < 0
  ·refine ⟨-1,?_,by omega,by omega⟩;refine Ev.step (fun k=>by rw [Cd.l0]) ?_;refine Ev.pos (by omega) (Ev.pos (by omega) ?_);rw [xp hi];unfold zi.f;refine Ev.bind (Ev.bind f1 (Ev.pos h (Ev.now _))) ?_;exact Ev.pos (by decide) (Ev.now _)
  ·obtain ⟨t,e1,e2,e3⟩:=ih u (by omega) (by omega);have:=f3 (by omega);refine ⟨t,?_,by omega,fun hh=>by have:=e3 hh;omega⟩;refine Ev.step (fun k=>by rw [Cd.l0]) ?_;refine Ev.pos (by omega) (Ev.pos (by omega) ?_);rw [xp hi];unfold zi.f;refine Ev.bind (Ev.bind f1 (Ev.neg h (Ev.now _))) ?_;refine Ev.neg (by omega) ?_;rw [Ie hi hl];exact e1
theorem eA {l:List Nat} {n:Nat} (h:n ∈ l):n ≤ l.sum:=by
 induction l with
 | nil=>cases h
 | cons a l ih =>
  rw [List.sum_cons];cases h with
  | head=>omega
  | tail _ h=>have:=ih h;omega
theorem FF {l:List fk} {n:Nat} (h:qY l ≤ n):l.length ≤ n∧∀ x ∈ l,x.f0.length ≤ n:=by
 unfold qY at h;refine ⟨by omega,fun x hx=>?_⟩;have:rM x.f0 ≤ (l.map fun x=>rM x.f0).sum:=eA (List.mem_map.mpr ⟨x,hx,rfl⟩);unfold rM at this h;omega
theorem NI (x0:List Int) (x1 x2 x3:Int) (x4:List fk) (a:Int) (ha:0 ≤ a) (ha':a ≤ 1048576) (h0:x0.length ≤ 9223372036854775807) (hl:x4.length ≤ 9223372036854775807) (ht:∀ x ∈ x4,x.f0.length ≤ 9223372036854775807∧∀ y ∈ x.f0,y.f6.size ≤ 9223372036854775807) :
  ∃ t,Ev (fun k=>Mh.f k x0 x1 x2 x3 x4 a) t∧t ≤ a∧(0 ≤ t→t + x0.length + qY x4=a):=by
 obtain ⟨t,e1,e2,e3⟩:=vR x0 a ha ha' h0;unfold Mh.f;rw [e1];simp only [Option.bind_some]
 by_cases ht':t < 0
 ·exact ⟨-1,Ev.pos ht' (Ev.now _),by omega,by omega⟩
 ·obtain ⟨u,f1,f2,f3⟩:=IG x4 t (by omega) (by omega) hl ht
  by_cases hu:u < 0
  ·exact ⟨-1,Ev.neg ht' (Ev.bind f1 (Ev.pos hu (Ev.now _))),by omega,by omega⟩
  ·exact ⟨u,Ev.neg ht' (Ev.bind f1 (Ev.neg hu (Ev.now _))),by omega,fun _=>by have:=e3 (by omega);have:=f3 (by omega);omega⟩
def qg (x:fk):zf:=⟨x.f0.map Fl,x.f1,x.f2,x.f3,x.f4⟩
theorem FG (l:List fk) (hl:l.length ≤ 1048576) (hb:∀ x ∈ l,x.f0.length ≤ 1048576):Ev (fun k=>ud.f k l) (l.map qg):=by
 refine Ev.congr (f:=fun k=>ud.l0 k l (List.replicate l.length uF) 0) (fun k=>?_) ?_
 ·unfold ud.f;rw [if_pos (by omega),if_pos (by omega)]
  rfl
 ·have key:=Qg (r:=l.map qg) (n:=l.length) (fun i=>Ev (fun k=>ud.l0 k l ((l.map qg).take i ++ List.replicate ((l.map qg).length - i) uF) (i:Int)) (l.map qg)) ?_ ?_ 0 (by omega)
  ·rw [MB,List.length_map] at key;exact key
  ·refine Ev.step (fun k=>by rw [ud.l0]) ?_;refine Ev.neg (by omega) ?_;have e:=rA (m:=l.map qg) (z:=uF);rw [List.length_map] at e;rw [List.length_map,e];exact Ev.now _
  ·intro i hi h;refine Ev.step (fun k=>by rw [ud.l0]) ?_;refine Ev.pos (by omega) (Ev.pos (by omega) ?_);unfold Dk.f;have hx:=hb l[i] (List.getElem_mem hi);rw [xp hi];refine Ev.bind (Ev.bind (EG l[i].f0 (by omega)) (Ev.now _)) ?_;refine Ev.pos (by simp;omega) ?_
   have hc:qg l[i]=(l.map qg).getD i uF:=by
    simp [List.getD_eq_getElem?_getD,hi]
   have hf:=Lw (m:=l.map qg) (z:=uF) (i:=i) (by rw [List.length_map];exact hi);rw [← hc] at hf;rw [Ie hi (by omega),Int.toNat_natCast];have e:=hf ▸ h;exact e
theorem Il {l:List zf} {i:Nat} (h:i < l.length):Ta l (i:Int)=l[i]:=by simp [Ta,List.getD_eq_getElem?_getD,h]
theorem PG (l:List zf) (hl:l.length ≤ 9223372036854775807) (hb:∀ x ∈ l,x.f0.length ≤ 9223372036854775807):Ev (fun k=>tc.f k l l) true:=by
 refine Ev.congr (f:=fun k=>tc.l0 k l l 0) (fun k=>?_) ?_
 ·unfold tc.f;rw [if_pos rfl]
 ·refine Qg (r:=true) (n:=l.length) (fun i=>Ev (fun k=>tc.l0 k l l (i:Int)) true) ?_ ?_ 0 (by omega)
  ·refine Ev.step (fun k=>by rw [tc.l0]) ?_;exact Ev.neg (by omega) (Ev.now _)
  ·intro i hi h;refine Ev.step (fun k=>by rw [tc.l0]) ?_;refine Ev.pos (by omega) (Ev.pos (by omega) (Ev.pos (by omega) ?_));unfold Hj.f;rw [Il hi];refine Ev.bind (Ev.bind (OG l[i].f0 (hb _ (List.getElem_mem hi))) (Ev.pos rfl (Ev.pos rfl (Ev.pos rfl (Ev.pos rfl (Ev.pos rfl (Ev.now _))))))) (Ev.pos rfl ?_);rw [Ie hi hl];exact h
theorem MI (x0:List Int) (x1 x2 x3:Int) (x4:List fk) (h0:x0.length ≤ 1048576) (hl:x4.length ≤ 1048576) (hb:∀ x ∈ x4,x.f0.length ≤ 1048576):Ev (fun k=>Ig.f k x0 x1 x2 x3 x4) (x0,x1,x2,x3,x4.map qg):=by
 unfold Ig.f;exact Ev.bind (XM x0 (by omega)) (Ev.bind (FG x4 hl hb) (Ev.now _))
theorem PI (x0:List Int) (x1 x2 x3:Int) (x4:List zf) (h0:x0.length ≤ 9223372036854775807) (hl:x4.length ≤ 9223372036854775807) (hb:∀ x ∈ x4,x.f0.length ≤ 9223372036854775807):Ev (fun k=>Ai.f k x0 x1 x2 x3 x4 x0 x1 x2 x3 x4) true:=by
 unfold Ai.f;refine Ev.bind (OB x0 h0) ?_;refine Ev.pos rfl (Ev.pos rfl (Ev.pos rfl (Ev.pos rfl ?_)));exact Ev.bind (PG x4 hl hb) (Ev.pos rfl (Ev.now _))
end Go.Proofs.Ytoomcmaifgkkfaa.P
end
section
namespace Go.Proofs.Ytoomcmaifgkkfaa.P
open Go.RowKit Go.Proofs.Ia.Qb Go.Proofs.Ia.Od Go.Proofs.Ia.Re
set_option linter.unusedVariables false
set_option linter.unusedSimpArgs false
open Classical in
noncomputable def zy (n:Nat) (p:Nat→Prop):Bool:=decide (∀ j,j < n→p j)
open Classical in
theorem kN {n:Nat} {p:Nat→Prop} (h:∀ j,j < n→p j):zy n p=true:=by
 unfold zy;exact decide_eq_true h
open Classical in
theorem jH {n:Nat} {p:Nat→Prop}:zy n p=true ↔ ∀ j,j < n→p j:=by
 unfold zy;exact decide_eq_true_iff
theorem kJ {n i:Nat} {p:Nat→Prop} (hi:i < n) (h:¬ p i):zy n p=false:=by
 cases e:zy n p with
 | false=>rfl
 | true=>exact absurd (jH.mp e i hi) h
theorem RI {ρ:Type} {n:Nat} {R e:ρ} (p:Nat→Prop) (f:Nat→Nat→Option ρ) (hend:Ev (f n) R) (hyes:∀ i,i < n→p i→∀ r,Ev (f (i + 1)) r→Ev (f i) r) (hno:∀ i,i < n→¬ p i→Ev (f i) e):Ev (f 0) (bif zy n p then R else e):=by
 have key:∀ d i,i + d=n→(∀ j,j < i→p j)→Ev (f i) (bif zy n p then R else e):=by
  intro d
  induction d with
  | zero =>
   intro i hi h;have:i=n:=by omega
   subst this;rw [kN h];exact hend
  | succ d ih =>
   intro i hi h
   by_cases hp:p i
   ·refine hyes i (by omega) hp _ (ih (i + 1) (by omega) ?_);intro j hj
    by_cases hji:j=i
    ·rw [hji];exact hp
    ·exact h j (by omega)
   ·rw [kJ (by omega) hp];exact hno i (by omega) hp
 exact key n 0 (by omega) (fun j hj=>absurd hj (by omega))
theorem Hx {α:Type} (l:List α) (z:α) (q:α→Bool):zy l.length (fun j=>q (l.getD j z)=true) = !(l.any fun x=>!q x):=by
 rw [Bool.eq_iff_iff,jH];simp only [Bool.not_eq_true',List.any_eq_false,Bool.not_eq_true',Bool.not_eq_false]
 constructor
 ·intro h x hx;obtain ⟨j,hj,rfl⟩:=List.mem_iff_getElem.mp hx;have:=h j hj;rw [List.getD_eq_getElem?_getD,List.getElem?_eq_getElem hj] at this
  simpa using this
 ·intro h j hj;have:=h l[j] (List.getElem_mem hj);rw [List.getD_eq_getElem?_getD,List.getElem?_eq_getElem hj]
  simpa using this
end Go.Proofs.Ytoomcmaifgkkfaa.P
end
section
namespace Go.Proofs.Ytoomcmaifgkkfaa.P
open Go.RowKit Go.Proofs.Ia.Qb Go.Proofs.Ia.Od Go.Proofs.Ia.Re
set_option linter.unusedVariables false
set_option linter.unusedSimpArgs false
theorem tO (a b c:Int):Za.f a b c=some (Ij a b c):=by
 unfold Za.f Ij
 by_cases h:a ≥ b
 ·rw [if_pos h];have h':b ≤ a:=h;simp [h']
 ·rw [if_neg h];have h':¬ b ≤ a:=h;simp [h']
theorem cg (a b c:Int):Ev (fun _=>Za.f a b c) (Ij a b c):=Ev.here (tO a b c)
theorem NZ (t:ByteArray):Ev (fun k=>Je.f k ([(⟨#[61,61]⟩:ByteArray),(⟨#[60]⟩:ByteArray),(⟨#[38]⟩:ByteArray),(⟨#[43]⟩:ByteArray),(⟨#[45]⟩:ByteArray),(⟨#[42]⟩:ByteArray)]:List ByteArray) t) (Qu t):=by
 refine ⟨8,fun k hk=>?_⟩;obtain ⟨m,rfl⟩:∃ m,k=m + 8:=⟨k - 8,by omega⟩;unfold Je.f Qu WH;simp only [Je.l0,List.any_cons,List.any_nil]
 by_cases h0:t.toList=[61,61]
 ·simp [sg,h0]
 by_cases h1:t.toList=[60]
 ·simp [sg,h1,wrap64]
 by_cases h2:t.toList=[38]
 ·simp [sg,h2,wrap64]
 by_cases h3:t.toList=[43]
 ·simp [sg,h3,wrap64]
 by_cases h4:t.toList=[45]
 ·simp [sg,h4,wrap64]
 by_cases h5:t.toList=[42]
 ·simp [sg,h5,wrap64]
 simp [sg,Ne.symm h0,Ne.symm h1,Ne.symm h2,Ne.symm h3,Ne.symm h4,Ne.symm h5,h0,h1,h2,h3,h4,h5,wrap64]
theorem vI (s d:Int):Ij d 0 (s - 1)=cl s d:=by
 unfold Ij cl;rw [Bool.eq_iff_iff];simp;omega
def xC (D A B C M:Bool) (o d a b n:Int) (t:ByteArray):Bool :=
 if o=0 then D && (a == 0 && b == 0)
 else if o=1 then D && (A && (b == 0 && n == 0))
 else if o=2 then D && (A && (B && (n == 0 && Qu t)))
 else if o=3 then D && M
 else if o=4 then d == 0 && (M && C)
 else if o=5 then D && (a == 0 && (b == 0 && n == 0))
 else if o=6 then d == 0 && (A && (b == 0 && n == 0))
 else false
theorem Ev.Tw {b:Bool} {f:Nat→Option Bool} {r:Bool} (hf:b=true→Ev f r):Ev (fun n=>if b=true then f n else some false) (b && r):=by
 cases b with
 | true=>exact Ev.pos rfl (hf rfl)
 | false=>exact Ev.neg (by simp) (Ev.now _)
theorem Ev.sB {c:Prop} [Decidable c] {f:Nat→Option Bool} {r:Bool} (hf:c→Ev f r):Ev (fun n=>if c then f n else some false) (decide c && r):=by
 by_cases h:c
 ·rw [decide_eq_true h];exact Ev.pos h (hf h)
 ·rw [decide_eq_false h];exact Ev.neg h (Ev.now _)
section
variable {l0:List Int} {p v s:Int} {l4:List zf} {o d a b c n:Int} {t:ByteArray}
theorem MG (D A B M:Bool) (x:Bool) (hs:0 ≤ s) (hs':s ≤ 1000):Ev (fun k=>mb.j1 k D A B M x l0 p v s l4 o d a b c n t) (!x && xC D A B (cl s c) M o d a b n t):=by
 refine Ev.step (fun k=>by rw [mb.j1]) ?_;cases x with
 | true=>exact Ev.pos rfl (Ev.now _)
 | false =>
  refine Ev.neg (by simp) ?_;rw [Bool.not_false,Bool.true_and];unfold xC
  by_cases h0:o=0
  ·rw [if_pos h0];exact Ev.pos h0 (Ev.Tw fun _=>Ev.sB fun _=>Ev.now _)
  rw [if_neg h0];refine Ev.neg h0 ?_
  by_cases h1:o=1
  ·rw [if_pos h1];exact Ev.pos h1 (Ev.Tw fun _=>Ev.Tw fun _=>Ev.sB fun _=>Ev.now _)
  rw [if_neg h1];refine Ev.neg h1 ?_
  by_cases h2:o=2
  ·rw [if_pos h2];exact Ev.pos h2 (Ev.Tw fun _=>Ev.Tw fun _=>Ev.Tw fun _=>Ev.sB fun _=>Ev.bind (NZ t) (Ev.now _))
  rw [if_neg h2];refine Ev.neg h2 ?_
  by_cases h3:o=3
  ·rw [if_pos h3,if_pos h3];exact (Ev.Tw fun _=>Ev.now _)
  rw [if_neg h3,if_neg h3]
  by_cases h4:o=4
  ·rw [if_pos h4,if_pos h4];refine (Ev.sB fun _=>Ev.Tw fun _=>?_);rw [pg (x:=s - 1) (by omega) (by omega),← vI];exact Ev.bind (cg _ _ _) (Ev.now _)
  rw [if_neg h4,if_neg h4]
  by_cases h5:o=5
  ·rw [if_pos h5,if_pos h5];exact (Ev.Tw fun _=>Ev.sB fun _=>Ev.sB fun _=>Ev.now _)
  rw [if_neg h5,if_neg h5]
  by_cases h6:o=6
  ·rw [if_pos h6,if_pos h6];exact (Ev.sB fun _=>Ev.Tw fun _=>Ev.sB fun _=>Ev.now _)
  rw [if_neg h6,if_neg h6];exact Ev.now _
theorem Wl (M:Bool) (hM:M=((cl s a || a == -1) && (cl s b && Ij n 0 ((l0.length:Int) - 1)))) (hs:0 ≤ s) (hs':s ≤ 1000):Ev (fun k=>mb.j0 k (cl s d) (cl s a) (cl s b) M l0 p v s l4 o d a b c n t) (Jl l0.length s o d a b c n t):=by
 refine Ev.step (fun k=>by rw [mb.j0]) ?_
 have key:∀ x:Bool,(x=if o=2 then (c != 0) else if t.toList=[] then (if o=4 then false else (c != 0)) else true)→Ev (fun k=>mb.j1 k (cl s d) (cl s a) (cl s b) M x l0 p v s l4 o d a b c n t) (Jl l0.length s o d a b c n t):=by
  intro x hx
  have e:Jl l0.length s o d a b c n t=(!x && xC (cl s d) (cl s a) (cl s b) (cl s c) M o d a b n t):=by
   subst hM;subst hx;unfold Jl xC
   by_cases h0:o=0
   ·subst h0;rw [Bool.eq_iff_iff]
    by_cases ht:t.toList=[] <;> simp [ht]
    all_goals (constructor <;> intro h <;> simp_all)
   by_cases h1:o=1
   ·subst h1;rw [Bool.eq_iff_iff]
    by_cases ht:t.toList=[] <;> simp [ht]
    all_goals (constructor <;> intro h <;> simp_all)
   by_cases h2:o=2
   ·subst h2;rw [Bool.eq_iff_iff];simp
    constructor <;> intro h <;> simp_all
   by_cases h3:o=3
   ·subst h3;rw [Bool.eq_iff_iff]
    by_cases ht:t.toList=[] <;> simp [ht]
    all_goals (constructor <;> intro h <;> simp_all)
   by_cases h4:o=4
   ·subst h4;rw [Bool.eq_iff_iff]
    by_cases ht:t.toList=[] <;> simp [ht]
    all_goals (constructor <;> intro h <;> simp_all)
   by_cases h5:o=5
   ·subst h5;rw [Bool.eq_iff_iff]
    by_cases ht:t.toList=[] <;> simp [ht]
    all_goals (constructor <;> intro h <;> simp_all)
   by_cases h6:o=6
   ·subst h6;rw [Bool.eq_iff_iff]
    by_cases ht:t.toList=[] <;> simp [ht]
    all_goals (constructor <;> intro h <;> simp_all)
   simp [h0,h1,h2,h3,h4,h5,h6]
  rw [e];exact MG _ _ _ _ _ hs hs'
 by_cases h2:o=2
 ·exact Ev.pos h2 (Ev.neg (by omega) (key _ (by rw [if_pos h2])))
 ·refine Ev.neg h2 ?_
  by_cases ht:t.toList=([]:List UInt8)
  ·refine Ev.pos ht ?_
   by_cases h4:o=4
   ·exact Ev.pos h4 (key _ (by rw [if_neg h2,if_pos ht,if_pos h4]))
   ·exact Ev.neg h4 (key _ (by rw [if_neg h2,if_pos ht,if_neg h4]))
  ·exact Ev.neg ht (key _ (by rw [if_neg h2,if_neg ht]))
theorem vA (hs:0 ≤ s) (hs':s ≤ 1000) (hl:l0.length ≤ 1048576):Ev (fun k=>mb.f k l0 p v s l4 o d a b c n t) (Jl l0.length s o d a b c n t):=by
 unfold mb.f;rw [pg (x:=s - 1) (by omega) (by omega),pg (x:=(l0.length:Int) - 1) (by omega) (by omega)];refine Ev.bind (cg _ _ _) (Ev.bind (cg _ _ _) (Ev.bind (cg _ _ _) ?_));simp only [vI];cases ha:cl s a with
 | true =>
  refine Ev.pos rfl ?_;cases hb:cl s b with
  | true=>exact Ev.pos rfl (Ev.bind (cg _ _ _) (by have:=Wl (l0:=l0) (p:=p) (v:=v) (s:=s) (l4:=l4) (o:=o) (d:=d) (a:=a) (b:=b) (c:=c) (n:=n) (t:=t) (Ij n 0 ((l0.length:Int) - 1)) (by simp [ha,hb]) hs hs';rw [ha,hb] at this;exact this))
  | false=>exact Ev.neg (by simp) (by have:=Wl (l0:=l0) (p:=p) (v:=v) (s:=s) (l4:=l4) (o:=o) (d:=d) (a:=a) (b:=b) (c:=c) (n:=n) (t:=t) false (by simp [hb]) hs hs';rw [ha,hb] at this;exact this)
 | false =>
  refine Ev.neg (by simp) ?_
  by_cases h1:a = -1
  ·refine Ev.pos h1 ?_;cases hb:cl s b with
   | true=>exact Ev.pos rfl (Ev.bind (cg _ _ _) (by have:=Wl (l0:=l0) (p:=p) (v:=v) (s:=s) (l4:=l4) (o:=o) (d:=d) (a:=a) (b:=b) (c:=c) (n:=n) (t:=t) (Ij n 0 ((l0.length:Int) - 1)) (by simp [h1,hb]) hs hs';rw [ha,hb] at this;exact this))
   | false=>exact Ev.neg (by simp) (by have:=Wl (l0:=l0) (p:=p) (v:=v) (s:=s) (l4:=l4) (o:=o) (d:=d) (a:=a) (b:=b) (c:=c) (n:=n) (t:=t) false (by simp [hb]) hs hs';rw [ha,hb] at this;exact this)
  ·exact Ev.neg h1 (by have:=Wl (l0:=l0) (p:=p) (v:=v) (s:=s) (l4:=l4) (o:=o) (d:=d) (a:=a) (b:=b) (c:=c) (n:=n) (t:=t) false (by simp [ha,h1]) hs hs';rw [ha] at this;exact this)
theorem QI (code:List Vc) (j ba tg els:Int) (hs:0 ≤ s) (hs':s ≤ 1000) (hl:l0.length ≤ 1048576) (hl4:l4.length ≤ 1048576) (hc:code.length ≤ 1048576):Ev (fun k=>ic.f k l0 p v s l4 code j ba tg els) (Wj l0.length s l4.length code j ba tg els):=by
 unfold ic.f;have key:=RI (n:=code.length) (R:=(if j=0 then Ij tg 0 ((l4.length:Int) - 1) && ba == 0 && els == 0 else if j=1 then Ij tg 0 ((l4.length:Int) - 1) && Ij els 0 ((l4.length:Int) - 1) && cl s ba else if j=2 then cl s ba && tg == 0 && els == 0 else false)) (e:=false) (fun i=>Xn l0.length s (code.getD i Cj)=true) (fun i k=>ic.l0 k (i:Int) l0 p v s l4 code j ba tg els) ?_ ?_ ?_
 ·have e:(bif zy code.length (fun i=>Xn l0.length s (code.getD i Cj)=true) then (if j=0 then Ij tg 0 ((l4.length:Int) - 1) && ba == 0 && els == 0 else if j=1 then Ij tg 0 ((l4.length:Int) - 1) && Ij els 0 ((l4.length:Int) - 1) && cl s ba else if j=2 then cl s ba && tg == 0 && els == 0 else false) else false)=Wj l0.length s l4.length code j ba tg els:=by
   rw [Hx];unfold Wj;rw [decide_eq_true hs,Bool.and_true];cases (!(code.any fun x=>!Xn l0.length s x)) <;> rfl
  rw [e] at key;exact key
 ·refine Ev.step (fun k=>by rw [ic.l0]) (Ev.neg (by omega) ?_);rw [pg (x:=s - 1) (by omega) (by omega),pg (x:=(l4.length:Int) - 1) (by omega) (by omega)];refine Ev.bind (cg _ _ _) (Ev.bind (cg _ _ _) ?_);rw [vI s ba]
  by_cases h0:j=0
  ·rw [if_pos h0,if_pos h0,Bool.and_assoc];exact Ev.Tw fun _=>Ev.sB fun _=>Ev.now _
  rw [if_neg h0,if_neg h0]
  by_cases h1:j=1
  ·rw [if_pos h1,if_pos h1,Bool.and_assoc,Bool.and_comm (Ij els 0 ((l4.length:Int) - 1))];exact Ev.Tw fun _=>Ev.Tw fun _=>Ev.bind (cg _ _ _) (Ev.now _)
  rw [if_neg h1,if_neg h1]
  by_cases h2:j=2
  ·rw [if_pos h2,if_pos h2,Bool.and_assoc];exact Ev.Tw fun _=>Ev.sB fun _=>Ev.now _
  rw [if_neg h2,if_neg h2];exact Ev.now _
 ·intro i hi hp r hr;refine Ev.step (fun k=>by rw [ic.l0]) (Ev.pos (by omega) (Ev.pos (by omega) ?_));refine Ev.bind (vA hs hs' hl) ?_;have hq:Jl l0.length s (Ba code (i:Int)).f0 (Ba code (i:Int)).f1 (Ba code (i:Int)).f2 (Ba code (i:Int)).f3 (Ba code (i:Int)).f4 (Ba code (i:Int)).f5 (Ba code (i:Int)).f6=true:=hp;refine Ev.pos hq ?_;rw [Ie hi (by omega)];exact hr
 ·intro i hi hp;refine Ev.step (fun k=>by rw [ic.l0]) (Ev.pos (by omega) (Ev.pos (by omega) ?_));refine Ev.bind (vA hs hs' hl) ?_;exact Ev.neg hp (Ev.now _)
end
def Pd (l:List zf):Nat:=(l.map fun x=>x.f0.length).sum
def Ax (l0:List Int) (p v s:Int) (n4:Nat):Bool:=gu l0 p v && Ij s v 1000 && Ij (n4:Int) 1 300
def Jn (l0:List Int) (s:Int) (l4:List zf) (x:zf):Bool:=Wj l0.length s l4.length x.f0 x.f1 x.f2 x.f3 x.f4
def Kj (l0:List Int) (p v s:Int) (l4:List zf):Bool:=Ax l0 p v s l4.length && (!(l4.any fun x=>!Jn l0 s l4 x) && decide (Pd l4 ≤ 1000))
theorem Pu (l:List zf) (i:Nat) (h:i < l.length):Pd (l.take (i + 1))=Pd (l.take i) + l[i].f0.length:=by
 unfold Pd;rw [List.take_succ_eq_append_getElem h,List.map_append,List.sum_append];simp
theorem Tz (l:List Nat) (i:Nat):(l.take i).sum ≤ l.sum:=by
 conv=>rhs;rw [← List.take_append_drop i l]
 rw [List.sum_append];omega
theorem Vz (l:List zf) (i:Nat):Pd (l.take i) ≤ Pd l:=by
 unfold Pd;rw [List.map_take];exact Tz _ _
theorem KB {l0:List Int} {p v s:Int} {n4:Nat} (h:Ax l0 p v s n4=true):1 ≤ l0.length∧l0.length ≤ 4∧0 ≤ p∧p ≤ v∧p ≤ 6∧v ≤ 20∧v ≤ s∧s ≤ 1000∧1 ≤ n4∧n4 ≤ 300:=by
 unfold Ax gu Ij at h;simp only [Bool.and_eq_true,decide_eq_true_eq] at h;obtain ⟨⟨⟨⟨⟨⟨h1,h2⟩,_⟩,h3,h4⟩,h5⟩,h6,h7⟩,h8,h9⟩:=h
 split at h4 <;> omega
section
variable {l0:List Int} {p v s:Int} {l4:List zf}
theorem uA (h0:l0.length ≤ 1048576) (hl4:l4.length ≤ 1048576) (ht:Pd l4 ≤ 1048576):Ev (fun k=>Xb.f k l0 p v s l4) (Kj l0 p v s l4):=by
 unfold Xb.f yg.f;simp only [List.length_nil,if_true];refine Ev.val ?_
 have no:∀ {r:Bool},r=false→Ev (fun k=>Xb.j0 k true l0 p v s l4) r:=by
  intro r hr;subst hr;exact Ev.step (fun k=>by rw [Xb.j0]) (Ev.pos rfl (Ev.now _))
 unfold Kj Ax;cases hp:gu l0 p v with
 | false=>exact Ev.neg (by simp) (no (by simp))
 | true =>
  refine Ev.pos rfl (Ev.bind (Ev.here (UF _ _ _)) ?_);cases hv:Ij s v 1000 with
  | false=>exact Ev.neg (by simp) (no (by simp))
  | true =>
   refine Ev.pos rfl (Ev.bind (Ev.here (UF _ _ _)) ?_);cases hn:Ij (l4.length:Int) 1 300 with
   | false=>exact no (by simp)
   | true =>
    refine Ev.step (fun k=>by rw [Xb.j0]) (Ev.neg (by simp) ?_);simp only [Bool.true_and];have key:=RI (n:=l4.length) (R:=decide (Pd l4 ≤ 1000)) (e:=false) (fun i=>Jn l0 s l4 (l4.getD i uF)=true) (fun i k=>Xb.l0 k (Pd (l4.take i):Int) l4 (l4.length:Int) (i:Int) l0 p v s l4) ?_ ?_ ?_
    ·have e:(bif zy l4.length (fun i=>Jn l0 s l4 (l4.getD i uF)=true) then decide (Pd l4 ≤ 1000) else false)=(!(l4.any fun x=>!Jn l0 s l4 x) && decide (Pd l4 ≤ 1000)):=by
      rw [Hx];cases (!(l4.any fun x=>!Jn l0 s l4 x)) <;> rfl
     rw [e] at key
     simpa [Pd] using key
    ·refine Ev.step (fun k=>by rw [Xb.l0]) (Ev.neg (by omega) ?_);rw [List.take_length]
     have e:decide ((Pd l4:Int) ≤ 1000)=decide (Pd l4 ≤ 1000):=by
      rw [Bool.eq_iff_iff,decide_eq_true_iff,decide_eq_true_iff];omega
     rw [e];exact Ev.now _
    ·intro i hi hq r hr;refine Ev.step (fun k=>by rw [Xb.l0]) (Ev.pos (by omega) (Ev.pos (by omega) (Ev.pos (by omega) ?_)));unfold Bi.f;have hq':Wj l0.length s l4.length (Ta l4 (i:Int)).f0 (Ta l4 (i:Int)).f1 (Ta l4 (i:Int)).f2 (Ta l4 (i:Int)).f3 (Ta l4 (i:Int)).f4=true:=hq;refine Ev.val (Ev.pos hq' ?_);have h1:=Pu l4 i hi;have h2:=Vz l4 (i + 1);rw [Il hi,Ie hi (by omega),pg (x:=(Pd (l4.take i):Int) + (l4[i].f0.length:Int)) (by omega) (by omega),show (Pd (l4.take i):Int) + (l4[i].f0.length:Int)=(Pd (l4.take (i + 1)):Int) from by omega];exact hr
    ·intro i hi hq;refine Ev.step (fun k=>by rw [Xb.l0]) (Ev.pos (by omega) (Ev.pos (by omega) (Ev.pos (by omega) ?_)));unfold Bi.f;exact Ev.val (Ev.neg hq (Ev.now _))
theorem Hu (h0:l0.length ≤ 1048576) (hl4:l4.length ≤ 1048576) (ht:Pd l4 ≤ 1048576):Ev (fun k=>Ua.f k l0 p v s l4) (Kj l0 p v s l4):=by
 unfold Ua.f
 have no:∀ {r:Bool},r=false→Ev (fun k=>Ua.j1 k true l0 p v s l4) r:=by
  intro r hr;subst hr;exact Ev.step (fun k=>by rw [Ua.j1]) (Ev.pos rfl (Ev.now _))
 have key:=RI (n:=l0.length) (R:=Ij (l0.length:Int) 1 4 && (Ij v 0 20 && (Ij p 0 6 && (decide (p ≤ v) && (Ij s v 1000 && (Ij (l4.length:Int) 1 300 && (!(l4.any fun x=>!Jn l0 s l4 x) && decide (Pd l4 ≤ 1000)))))))) (e:=false) (fun i=>Ij (l0.getD i 0) 1 16=true) (fun i k=>Ua.l0 k (i:Int) l0 p v s l4) ?_ ?_ ?_
 ·have e:(bif zy l0.length (fun i=>Ij (l0.getD i 0) 1 16=true) then (Ij (l0.length:Int) 1 4 && (Ij v 0 20 && (Ij p 0 6 && (decide (p ≤ v) && (Ij s v 1000 && (Ij (l4.length:Int) 1 300 && (!(l4.any fun x=>!Jn l0 s l4 x) && decide (Pd l4 ≤ 1000)))))))) else false)=Kj l0 p v s l4:=by
   rw [Hx l0 0 (fun x=>Ij x 1 16)];unfold Kj Ax gu;rw [Bool.eq_iff_iff];cases (!(l0.any fun x=>!Ij x 1 16))
   ·simp
   ·simp only [cond_true,Bool.and_eq_true,Ij,decide_eq_true_eq,and_assoc,true_and]
    constructor
    ·rintro ⟨h1,h2,h3,h4,h5,h6,h7,h8⟩;refine ⟨h1,h2,h5,?_,h4,h8⟩
     split <;> omega
    ·rintro ⟨h1,h2,h5,h6,h4,h7,h8,h9⟩;refine ⟨h1,h2,?_⟩
     split at h6 <;> exact ⟨by omega,by omega,by omega,by omega,by omega,h7,h8,h9⟩
  rw [e] at key;exact key
 ·refine Ev.step (fun k=>by rw [Ua.l0]) (Ev.neg (by omega) ?_);refine Ev.bind (cg _ _ _) ?_;cases hb0:Ij (l0.length:Int) 1 4 with
  | false=>exact Ev.neg (by simp) (no (by simp))
  | true =>
   refine Ev.pos rfl (Ev.bind (cg _ _ _) ?_);cases Qp:Ij v 0 20 with
   | false=>exact Ev.neg (by simp) (no (by simp))
   | true =>
    refine Ev.pos rfl (Ev.bind (cg _ _ _) ?_);cases Jj:Ij p 0 6 with
    | false=>exact Ev.neg (by simp) (no (by simp))
    | true =>
     refine Ev.pos rfl ?_
     by_cases hpv:p > v
     ·refine Ev.pos hpv (no ?_);rw [decide_eq_false (show ¬ p ≤ v from by omega)];simp
     ·refine Ev.neg hpv (Ev.bind (cg _ _ _) ?_);rw [decide_eq_true (show p ≤ v from by omega)];cases hb3:Ij s v 1000 with
      | false=>exact Ev.neg (by simp) (no (by simp))
      | true =>
       refine Ev.pos rfl (Ev.bind (cg _ _ _) ?_);cases hb4:Ij (l4.length:Int) 1 300 with
       | false=>exact no (by simp)
       | true =>
        refine Ev.step (fun k=>by rw [Ua.j1]) (Ev.neg (by simp) ?_);simp only [Bool.true_and];have hs0:0 ≤ s∧s ≤ 1000:=by simp [Ij] at Qp hb3;omega
        have key:=Qg (r:=true) (n:=l4.length) (fun i=>Pd (l4.take i) ≤ 1000→Ev (fun k=>Ua.l1 k (Pd (l4.take i):Int) (i:Int) l0 p v s l4) (!((l4.drop i).any fun x=>!Jn l0 s l4 x) && decide (Pd l4 ≤ 1000))) ?_ ?_ 0 (by omega) (by simp [Pd])
        ·rw [List.drop_zero] at key
         simpa [Pd] using key
        ·intro h;rw [List.take_length] at h;refine Ev.step (fun k=>by rw [Ua.l1]) (Ev.neg (by omega) ?_);rw [List.drop_length,decide_eq_true h];exact Ev.now _
        ·intro i hi ih h;have h1:=Pu l4 i hi;have h2:=Vz l4 (i + 1);refine Ev.step (fun k=>by rw [Ua.l1]) (Ev.pos (by omega) (Ev.pos (by omega) ?_));rw [Il hi,pg (x:=(Pd (l4.take i):Int) + (l4[i].f0.length:Int)) (by omega) (by omega),show (Pd (l4.take i):Int) + (l4[i].f0.length:Int)=(Pd (l4.take (i + 1)):Int) from by omega]
         have hd:((l4.drop i).any fun x=>!Jn l0 s l4 x)=(!Jn l0 s l4 l4[i] || (l4.drop (i + 1)).any fun x=>!Jn l0 s l4 x):=by
          rw [List.drop_eq_getElem_cons hi,List.any_cons]
         rw [hd]
         by_cases hgt:(Pd (l4.take (i + 1)):Int) > 1000
         ·rw [decide_eq_false (show ¬ Pd l4 ≤ 1000 from by omega),Bool.and_false];exact Ev.pos hgt (Ev.now _)
         ·refine Ev.neg hgt (Ev.bind (QI _ _ _ _ _ hs0.1 hs0.2 h0 hl4 (by omega)) ?_);cases hq:Jn l0 s l4 l4[i] with
          | false =>
           have hq':¬ Wj l0.length s l4.length l4[i].f0 l4[i].f1 l4[i].f2 l4[i].f3 l4[i].f4=true:=by
            have e:Wj l0.length s l4.length l4[i].f0 l4[i].f1 l4[i].f2 l4[i].f3 l4[i].f4=false:=hq;rw [e];simp
           exact Ev.neg hq' (Ev.now _)
          | true =>
           have hq':Wj l0.length s l4.length l4[i].f0 l4[i].f1 l4[i].f2 l4[i].f3 l4[i].f4=true:=hq;refine Ev.pos hq' ?_;rw [Ie hi (by omega),Bool.not_true,Bool.false_or];exact ih (by omega)
 ·intro i hi hq r hr;refine Ev.step (fun k=>by rw [Ua.l0]) (Ev.pos (by omega) (Ev.pos (by omega) ?_));refine Ev.bind (cg _ _ _) (Ev.pos hq ?_);rw [Ie hi (by omega)];exact hr
 ·intro i hi hq;refine Ev.step (fun k=>by rw [Ua.l0]) (Ev.pos (by omega) (Ev.pos (by omega) ?_));exact Ev.bind (cg _ _ _) (Ev.neg hq (Ev.now _))
end
end Go.Proofs.Ytoomcmaifgkkfaa.P
end
section
namespace Go.Proofs.Ytoomcmaifgkkfaa.P
open Go.RowKit Go.Proofs.Ia.Qb Go.Proofs.Ia.Od Go.Proofs.Ia.Re
set_option linter.unusedVariables false
set_option linter.unusedSimpArgs false
def lB (b:zf):List Int:=if b.f1=0 then [b.f3] else if b.f1=1 then [b.f3,b.f4] else []
theorem CB (b:zf):jg.f b.f0 b.f1 b.f2 b.f3 b.f4=some (lB b):=by
 unfold jg.f lB
 by_cases h0:b.f1=0
 ·rw [if_pos h0,if_pos h0]
 ·rw [if_neg h0,if_neg h0]
  by_cases h1:b.f1=1
  ·rw [if_pos h1,if_pos h1]
  ·rw [if_neg h1,if_neg h1]
theorem BB (b:zf):Hg.f b.f0 b.f1 b.f2 b.f3 b.f4=some (lB b):=by
 unfold Hg.f lB
 by_cases h0:b.f1=0
 ·rw [if_pos h0,if_pos h0]
 ·rw [if_neg h0,if_neg h0]
  by_cases h1:b.f1=1
  ·rw [if_pos h1,if_pos h1]
  ·rw [if_neg h1,if_neg h1]
theorem Gr (b:zf):(lB b).length ≤ 2:=by
 unfold lB
 by_cases h0:b.f1=0
 ·rw [if_pos h0];simp
 ·rw [if_neg h0]
  by_cases h1:b.f1=1
  ·rw [if_pos h1];simp
  ·rw [if_neg h1];simp
def ji (bs:List zf) (i:Nat):List Int:=lB (Ta bs (i:Int))
def Yf (bs:List zf):Prop:=0 < bs.length∧bs.length ≤ 1048576∧∀ i,i < bs.length→∀ j ∈ ji bs i,0 ≤ j∧j < (bs.length:Int)
theorem zq {l0:List Int} {p v s:Int} {bs:List zf} (h:Kj l0 p v s bs=true):Yf bs:=by
 unfold Kj at h;simp only [Bool.and_eq_true] at h;obtain ⟨h1,h2,-⟩:=h;have hh:=KB h1;refine ⟨by omega,by omega,fun i hi j hj=>?_⟩
 have hb:Jn l0 s bs bs[i]=true:=by
  simp only [Bool.not_eq_true',List.any_eq_false] at h2;have:=h2 _ (List.getElem_mem hi)
  simpa using this
 unfold Jn Wj at hb;simp only [Bool.and_eq_true] at hb;obtain ⟨-,hb⟩:=hb;unfold ji at hj;rw [Il hi] at hj;unfold lB at hj
 by_cases h0:bs[i].f1=0
 ·rw [if_pos h0] at hj hb;simp only [Bool.and_eq_true,Ij,decide_eq_true_eq] at hb;rw [List.mem_singleton] at hj;subst hj;omega
 ·rw [if_neg h0] at hj hb
  by_cases h1:bs[i].f1=1
  ·rw [if_pos h1] at hj hb;simp only [Bool.and_eq_true,Ij,decide_eq_true_eq] at hb;simp only [List.mem_cons,List.not_mem_nil,or_false] at hj
   rcases hj with hj|hj <;> subst hj <;> omega
  ·rw [if_neg h1] at hj;cases hj
theorem yx (n:Nat):news (List.replicate n false)=n:=by simp [news]
theorem Hp (n j:Nat):seen (List.replicate n false) j=false:=by
 unfold seen;rw [List.getD_eq_getElem?_getD,List.getElem?_replicate]
 by_cases h:j < n
 ·rw [if_pos h];rfl
 ·rw [if_neg h];rfl
theorem Ay.perm {n:Nat} {nx:Nat→List Int} {s:List Bool} {q q':List Int} (h:Ay n nx s q) (hp:∀ x,x ∈ q ↔ x ∈ q') (hl:q.length=q'.length):Ay n nx s q' :=
 ⟨h.len,fun j hj=>h.NN j ((hp j).2 hj),h.FH,by rw [← hl];exact h.cap,h.qR.imp id (hp 0).1,fun j hj m hm=>(h.shut j hj m hm).imp id (hp m).1⟩
theorem RG (ys:List Int) (hy:ys.length ≤ 2):Ev (fun k=>Ya.f k ys) ys.reverse:=by
 unfold Ya.f
 rcases ys with _|⟨a,_|⟨b,_|⟨c,l⟩⟩⟩
 ·rw [show wrap64 ((([]:List Int).length:Int) - 1) = -1 from by rw [pg (by simp) (by simp)];rfl];refine Ev.step (fun k=>by rw [Ya.l0]) ?_;exact Ev.neg (by omega) (Ev.now _)
 ·rw [show wrap64 (([a].length:Int) - 1)=0 from by rw [pg (by simp) (by simp)];rfl];refine Ev.step (fun k=>by rw [Ya.l0]) ?_;exact Ev.neg (by omega) (Ev.now _)
 ·rw [show wrap64 (([a,b].length:Int) - 1)=1 from by rw [pg (by simp) (by simp)];rfl];refine Ev.step (fun k=>by rw [Ya.l0]) ?_;refine Ev.pos (by omega) (Ev.pos (by omega) (Ev.pos (by simp) (Ev.pos (by omega) (Ev.pos (by simp) ?_))));rw [pg (x:=0 + 1) (by omega) (by omega),pg (x:=1 - 1) (by omega) (by omega)];refine Ev.step (fun k=>by rw [Ya.l0]) ?_;exact Ev.neg (by omega) (Ev.now _)
 ·simp at hy
noncomputable def Wc (bs:List zf):List Int:=open Classical in ((List.range bs.length).filter fun i=>decide (Ln (ji bs) i)).map fun (i:Nat)=>(i:Int)
theorem Tg {bs:List zf} (hE:Yf bs) (j:Int):j ∈ Wc bs ↔ 0 ≤ j∧Ln (ji bs) j.toNat:=by
 unfold Wc;rw [List.mem_map]
 constructor
 ·rintro ⟨i,hi,rfl⟩;rw [List.mem_filter] at hi;exact ⟨by omega,by simpa using hi.2⟩
 ·rintro ⟨h0,h⟩
  have hlt:j.toNat < bs.length:=by
   have:∀ i,Ln (ji bs) i→i < bs.length:=by
    intro i hi
    induction hi with
    | zero=>exact hE.1
    | step hr hj ih=>have:=hE.2.2 _ ih _ hj;omega
   exact this _ h
  exact ⟨j.toNat,List.mem_filter.2 ⟨List.mem_range.2 hlt,by simpa using h⟩,by omega⟩
theorem yp {bs:List zf} (hE:Yf bs) {i:Nat} (h:Ln (ji bs) i):i < bs.length:=by
 induction h with
 | zero=>exact hE.1
 | step hr hj ih=>have:=hE.2.2 _ ih _ hj;omega
theorem QN (n:Nat):(List.range n).Pairwise (· < ·):=by
 exact List.pairwise_lt_range
theorem oV {l:List Nat} (h:l.Pairwise (· < ·)):(l.map fun (i:Nat)=>(i:Int)).Pairwise (· < ·):=by
 rw [List.pairwise_map];exact h.imp (fun h=>by omega)
theorem Tr (bs:List zf):(Wc bs).Pairwise (· < ·):=by
 unfold Wc;exact oV ((QN _).filter _)
theorem Hl (bs:List zf):(Wc bs).length ≤ bs.length:=by
 unfold Wc;rw [List.length_map];exact Nat.le_trans (List.length_filter_le _ _) (by rw [List.length_range];exact Nat.le_refl _)
section
variable {l0:List Int} {p v s:Int} {bs:List zf}
theorem KG (hE:Yf bs):∀ (m:Nat) (sn:List Bool) (out eB:List Int),2 * news sn + eB.length ≤ m→Ay bs.length (ji bs) sn eB→(∀ j:Nat,seen sn j=true ↔ (j:Int) ∈ out)→(∀ j ∈ out,0 ≤ j)→out.Nodup→out.length + news sn=bs.length →
  ∃ R,Ev (fun k=>Zc.l0 k sn out eB l0 p v s bs) R∧R.Nodup∧R.length ≤ bs.length∧∀ j:Int,j ∈ R ↔ 0 ≤ j∧Ln (ji bs) j.toNat:=by
 intro m
 induction m with
 | zero =>
  intro sn out eB hm hI kW h0 Y4 hlen;have hp:eB=[]:=List.eq_nil_of_length_eq_zero (by omega);subst hp;refine ⟨out,Ev.step (fun k=>by rw [Zc.l0]) (Ev.neg (by decide) (Ev.now _)),Y4,by omega,fun j=>?_⟩
  constructor
  ·intro hj;have h:=h0 j hj;refine ⟨h,(jV hI _).1 ((kW _).2 ?_)⟩
   rwa [Int.toNat_of_nonneg h]
  ·rintro ⟨h,hr⟩;have:=(kW _).1 ((jV hI _).2 hr)
   rwa [Int.toNat_of_nonneg h] at this
 | succ m ih =>
  intro sn out eB hm hI kW h0 Y4 hlen
  by_cases hpe:eB=[]
  ·subst hpe;refine ⟨out,Ev.step (fun k=>by rw [Zc.l0]) (Ev.neg (by decide) (Ev.now _)),Y4,by omega,fun j=>?_⟩
   constructor
   ·intro hj;have h:=h0 j hj;refine ⟨h,(jV hI _).1 ((kW _).2 ?_)⟩
    rwa [Int.toNat_of_nonneg h]
   ·rintro ⟨h,hr⟩;have:=(kW _).1 ((jV hI _).2 hr)
    rwa [Int.toNat_of_nonneg h] at this
  ·obtain ⟨q,b,rfl⟩:∃ q b,eB=q ++ [b]:=⟨eB.dropLast,eB.getLast hpe,(List.dropLast_concat_getLast hpe).symm⟩;have hcap:=hI.cap;have hnn:news sn ≤ bs.length:=by omega
   have hE2:=hE.2.1;rw [List.length_append,List.length_singleton] at hm hcap;have hI2:Ay bs.length (ji bs) sn (b :: q):=hI.perm (fun x=>by simp [or_comm]) (by simp);obtain ⟨hb0,Qp,hbr⟩:=hI2.NN b (by simp);have sW:rd (q ++ [b]) (q.length:Int)=b:=by simp [rd]
   have htake:(q ++ [b]).take q.length=q:=by simp
   have hw:wrap64 (((q ++ [b]).length:Int) - 1)=(q.length:Int):=by
    rw [List.length_append,List.length_singleton,pg (by omega) (by omega)];omega
   have sN:((b.toNat:Nat):Int)=b:=Int.toNat_of_nonneg hb0;have W4:=hI.len;have hrd:sg false sn b=seen sn b.toNat:=rfl
   by_cases hsb:seen sn b.toNat=true
   ·obtain ⟨R,hR,hrest⟩:=ih sn out q (by omega) (LN hI2 hsb) kW h0 Y4 hlen;refine ⟨R,?_,hrest⟩;refine Ev.step (fun k=>by rw [Zc.l0]) (Ev.pos (by rw [List.length_append,List.length_singleton];omega) ?_);rw [hw,sW,hrd];refine Ev.pos (by omega) (Ev.pos (by rw [List.length_append,List.length_singleton];omega) (Ev.pos (by rw [List.length_append,List.length_singleton];omega) ?_));rw [Int.toNat_natCast,htake];exact Ev.val (Ev.pos hb0 (Ev.pos (by rw [W4];exact Qp) (Ev.pos hsb hR)))
   ·have hsf:seen sn b.toNat=false:=by simpa using hsb
    have hlt:b.toNat < sn.length:=by rw [W4];omega
    have hn:=Zu hlt hsf;have hT:Ay bs.length (ji bs) (sn.set b.toNat true) (q ++ ji bs b.toNat):=FN (fun a ha=>⟨Gr _,hE.2.2 a ha⟩) hI2 hsf;have X4:ji bs b.toNat=lB (Ta bs b):=by unfold ji;rw [sN]
    have vW:=Gr (Ta bs b)
    obtain ⟨R,hR,hrest⟩:=ih (sn.set b.toNat true) (out ++ [b]) (q ++ (lB (Ta bs b)).reverse) (by rw [List.length_append,List.length_reverse];omega)
     (hT.perm (fun x=>by rw [X4];simp) (by rw [X4];simp)) (fun j=>by
      rw [Ri hlt,List.mem_append,List.mem_singleton,← kW j,Bool.or_eq_true,decide_eq_true_eq]
      constructor
      ·rintro (h|h)
       ·right;omega
       ·left;exact h
      ·rintro (h|h)
       ·right;exact h
       ·left;omega) (fun j hj=>by
      rcases List.mem_append.1 hj with hj|hj
      ·exact h0 j hj
      ·rw [List.mem_singleton] at hj;omega) (by
      rw [List.nodup_append];refine ⟨Y4,by simp,fun a ha c hc he=>?_⟩;rw [List.mem_singleton] at hc;subst hc;subst he;have:=(kW a.toNat).2 (by rw [sN];exact ha);rw [hsf] at this
      cases this) (by rw [List.length_append,List.length_singleton];omega)
    refine ⟨R,?_,hrest⟩;refine Ev.step (fun k=>by rw [Zc.l0]) (Ev.pos (by rw [List.length_append,List.length_singleton];omega) ?_);rw [hw,sW,hrd];refine Ev.pos (by omega) (Ev.pos (by rw [List.length_append,List.length_singleton];omega) (Ev.pos (by rw [List.length_append,List.length_singleton];omega) ?_));rw [Int.toNat_natCast,htake];refine Ev.val (Ev.pos hb0 (Ev.pos (by rw [W4];exact Qp) (Ev.neg hsb (Ev.pos (by omega) (Ev.pos Qp ?_)))));rw [CB];refine Ev.val (Ev.bind (RG _ vW) (Ev.pos (by rw [List.length_reverse];omega) hR))
theorem LP (hE:Yf bs):∃ R,Ev (fun k=>Zc.f k l0 p v s bs) R∧R.length ≤ bs.length∧eF R=Wc bs:=by
 have hE1:=hE.1;have hE2:=hE.2.1;have hsn:∀ j,seen (List.replicate bs.length false) j=false:=fun j=>Hp _ _
 have hI:Ay bs.length (ji bs) (List.replicate bs.length false) [0]:=by
  refine ⟨by simp,fun j hj=>?_,fun j hj=>?_,?_,Or.inr (by simp),fun j hj=>?_⟩
  ·rw [List.mem_singleton] at hj;subst hj;exact ⟨by omega,by omega,Ln.zero⟩
  ·rw [hsn] at hj;cases hj
  ·rw [yx];simp
  ·rw [hsn] at hj;cases hj
 obtain ⟨R,h1,h2,h3,h4⟩:=KG (l0:=l0) (p:=p) (v:=v) (s:=s) hE (2 * news (List.replicate bs.length false) + 1) (List.replicate bs.length false) [] [0] (by simp) hI
  (fun j=>by rw [hsn];simp) (by simp) (by simp) (by rw [yx];simp)
 refine ⟨R,?_,h3,?_⟩
 ·unfold Zc.f;refine Ev.pos (by omega) (Ev.pos (by omega) ?_);rw [Int.toNat_natCast];exact h1
 ·refine uC _ _ (iH R).1 (Tr bs) (fun x=>?_);rw [(iH R).2,h4,Tg hE]
end
end Go.Proofs.Ytoomcmaifgkkfaa.P
end
section
namespace Go.Proofs.Ytoomcmaifgkkfaa.P
open Go.RowKit Go.Proofs.Ia.Qb Go.Proofs.Ia.Od Go.Proofs.Ia.Re
set_option linter.unusedVariables false
set_option linter.unusedSimpArgs false
inductive RA (nx:Nat→List Int) (a:Nat):Nat→Prop
 | zero:0 ≠ a→RA nx a 0
 | step {i:Nat} {j:Int}:RA nx a i→j ∈ nx i→j.toNat ≠ a→RA nx a j.toNat
def Dom (nx:Nat→List Int) (i k:Nat):Prop:=Ln nx i∧Ln nx k∧¬ RA nx i k
theorem RA.FH {nx:Nat→List Int} {a k:Nat} (h:RA nx a k):Ln nx k:=by
 induction h with
 | zero _=>exact Ln.zero
 | step _ hj _ ih=>exact Ln.step ih hj
theorem RA.ne {nx:Nat→List Int} {a k:Nat} (h:RA nx a k):k ≠ a:=by
 cases h with
 | zero h=>exact h
 | step _ _ h=>exact h
theorem Dom.zero {nx:Nat→List Int} {k:Nat} (h:Ln nx k):Dom nx 0 k:=by
 have key:∀ j,RA nx 0 j→False:=fun j h=>by
  induction h with
  | zero h=>exact h rfl
  | step _ _ _ ih=>exact ih
 exact ⟨Ln.zero,h,key k⟩
theorem Dom.at0 {nx:Nat→List Int} {i:Nat} (h:Dom nx i 0):i=0:=Decidable.byContradiction fun hc=>h.2.2 (RA.zero (fun e=>hc e.symm))
theorem Dom.back {nx:Nat→List Int} {i b:Nat} {t:Int} (h:Dom nx i t.toNat) (hb:Ln nx b) (ht:t ∈ nx b) (hne:t.toNat ≠ i):Dom nx i b:=⟨h.1,hb,fun hr=>h.2.2 (RA.step hr ht hne)⟩
noncomputable def qB (bs:List zf) (k:Nat):List Int:=open Classical in (Wc bs).filter fun i=>decide (Dom (ji bs) i.toNat k)
noncomputable def zk (bs:List zf):List (List Int):=(List.range bs.length).map (qB bs)
def Ml (D:List (List Int)) (k:Nat):List Int:=D.getD k []
theorem kn {D:List (List Int)} {i k:Nat} {x:List Int} (hi:i < D.length):Ml (D.set i x) k=if i=k then x else Ml D k:=by
 unfold Ml;rw [List.getD_eq_getElem?_getD,List.getD_eq_getElem?_getD,List.getElem?_set]
 by_cases h:i=k
 ·rw [if_pos h,if_pos h,if_pos hi];rfl
 ·rw [if_neg h,if_neg h]
def gy (D:List (List Int)):Nat:=(D.map List.length).sum
theorem GF:∀ (D:List (List Int)) (i:Nat) (x:List Int),i < D.length→gy (D.set i x) + (Ml D i).length=gy D + x.length
 | [],i,x,h=>by simp at h
 | y :: D,0,x,_=>by
  simp only [gy,List.set_cons_zero,List.map_cons,List.sum_cons,Ml,List.getD_cons_zero];omega
 | y :: D,i + 1,x,h=>by
  have ih:=GF D i x (by simpa using h);simp only [gy,List.set_cons_succ,List.map_cons,List.sum_cons,Ml,List.getD_cons_succ] at ih ⊢;omega
def Mw (D:List (List Int)) (b t:Nat) (r:Int):Bool:=if r=(t:Int) then false else !decide (r ∈ Ml D b)
def ql (D:List (List Int)) (b t:Nat):List Int:=(Ml D t).filter fun r=>!Mw D b t r
def OkE (D:List (List Int)) (b t:Nat):Prop:=∀ r ∈ Ml D t,r=(t:Int) ∨ r ∈ Ml D b
theorem vC (D:List (List Int)) (b t:Nat):(ql D b t).length ≤ (Ml D t).length:=List.length_filter_le _ _
theorem nO {D:List (List Int)} {b t:Nat} (h:¬ (ql D b t).length < (Ml D t).length):ql D b t=Ml D t∧OkE D b t:=by
 have he:(ql D b t).length=(Ml D t).length:=by have:=vC D b t;omega
 unfold ql at he ⊢;have h2:=List.length_filter_eq_length_iff.1 he;refine ⟨List.filter_eq_self.2 h2,fun r hr=>?_⟩;have:=h2 r hr;unfold Mw at this
 by_cases j6:r=(t:Int)
 ·exact Or.inl j6
 ·rw [if_neg j6] at this
  right
  simpa using this
structure vV (bs:List zf) (D:List (List Int)):Prop where
 len:D.length=bs.length
 fil:∀ k,∃ q:Int→Bool,Ml D k=(Wc bs).filter q
 unr:∀ k,¬ Ln (ji bs) k→Ml D k=[]
 dom:∀ i k,Dom (ji bs) i k→(i:Int) ∈ Ml D k
 zero:Ml D 0=[0]
section
variable {bs:List zf} {D:List (List Int)}
theorem vV.step (h:vV bs D) (hE:Yf bs) {b:Nat} {t:Int} (hb:Ln (ji bs) b) (ht:t ∈ ji bs b):vV bs (D.set t.toNat (ql D b t.toNat)):=by
 have hbl:=yp hE hb;obtain ⟨t0,t1⟩:=hE.2.2 b hbl t ht;have htl:t.toNat < D.length:=by rw [h.len];omega
 refine ⟨by rw [List.length_set];exact h.len,fun k=>?_,fun k hk=>?_,fun i k hik=>?_,?_⟩
 ·rw [kn htl]
  by_cases e:t.toNat=k
  ·rw [if_pos e];obtain ⟨q,hq⟩:=h.fil t.toNat;refine ⟨fun x=>q x && !Mw D b t.toNat x,?_⟩;unfold ql;rw [hq,List.filter_filter]
   congr 1
   funext x
   exact Bool.and_comm _ _
  ·rw [if_neg e];exact h.fil k
 ·rw [kn htl]
  by_cases e:t.toNat=k
  ·exact absurd (e ▸ Ln.step hb ht) hk
  ·rw [if_neg e];exact h.unr k hk
 ·rw [kn htl]
  by_cases e:t.toNat=k
  ·rw [if_pos e];subst e;unfold ql;refine List.mem_filter.2 ⟨h.dom i _ hik,?_⟩;unfold Mw
   by_cases hi:(i:Int)=((t.toNat:Nat):Int)
   ·rw [if_pos hi];rfl
   ·rw [if_neg hi];have:=h.dom i b (hik.back hb ht (by omega));simp [this]
  ·rw [if_neg e];exact h.dom i k hik
 ·rw [kn htl]
  by_cases e:t.toNat=0
  ·rw [if_pos e,e];unfold ql;rw [h.zero];simp [Mw]
  ·rw [if_neg e];exact h.zero
theorem vV.done (h:vV bs D) (hE:Yf bs) (hOk:∀ b,Ln (ji bs) b→∀ t ∈ ji bs b,OkE D b t.toNat):D=zk bs:=by
 have key:∀ (i k:Nat),RA (ji bs) i k→(i:Int) ∉ Ml D k:=by
  intro i k hr
  induction hr with
  | zero h0 =>
   rw [h.zero,List.mem_singleton];omega
  | @step u t hu ht hne ih =>
   intro hm;obtain ⟨t0,t1⟩:=hE.2.2 u (yp hE hu.FH) t ht
   rcases hOk u hu.FH t ht _ hm with e|e
   ·omega
   ·exact ih e
 have hrow:∀ k,k < bs.length→Ml D k=qB bs k:=by
  intro k hk;obtain ⟨q,hq⟩:=h.fil k;unfold qB;rw [hq];apply List.filter_congr;intro x hx;obtain ⟨x0,xr⟩:=(Tg hE x).1 hx;have hxn:((x.toNat:Nat):Int)=x:=Int.toNat_of_nonneg x0
  have hiff:q x=true ↔ Dom (ji bs) x.toNat k:=by
   constructor
   ·intro hqx;have hm:x ∈ Ml D k:=by rw [hq];exact List.mem_filter.2 ⟨hx,hqx⟩
    have hk2:Ln (ji bs) k:=Classical.byContradiction fun hn=>by rw [h.unr k hn] at hm;cases hm
    refine ⟨xr,hk2,fun hr=>key _ _ hr ?_⟩;rw [hxn];exact hm
   ·intro hd;have:=h.dom _ _ hd;rw [hxn,hq] at this;exact (List.mem_filter.1 this).2
  by_cases hd:Dom (ji bs) x.toNat k
  ·rw [hiff.2 hd];exact (@decide_eq_true _ (Classical.propDecidable _) hd).symm
  ·refine Eq.trans ?_ (@decide_eq_false _ (Classical.propDecidable _) hd).symm;cases hqx:q x with
   | false=>rfl
   | true=>exact absurd (hiff.1 hqx) hd
 unfold zk;apply List.ext_getElem
 ·rw [List.length_map,List.length_range];exact h.len
 ·intro k h1 h2;rw [List.getElem_map,List.getElem_range,← hrow k (by rw [← h.len];exact h1)];simp [Ml,List.getD_eq_getElem?_getD,h1]
noncomputable def mF (bs:List zf) (i:Nat) (D:List (List Int)):Prop:=D.length=bs.length∧∀ k,Ml D k=if (k:Int) ∈ (Wc bs).take i then Wc bs else []
theorem mF.start (bs:List zf):mF bs 0 (List.replicate bs.length []):=by
 refine ⟨by simp,fun k=>?_⟩;unfold Ml;rw [List.getD_eq_getElem?_getD,List.getElem?_replicate]
 by_cases h:k < bs.length
 ·rw [if_pos h];simp
 ·rw [if_neg h];simp
theorem mF.next {i:Nat} (h:mF bs i D) (hE:Yf bs) (hi:i < (Wc bs).length):mF bs (i + 1) (D.set ((Wc bs)[i]).toNat (Wc bs)):=by
 obtain ⟨x0,xr⟩:=(Tg hE _).1 (List.getElem_mem hi);have hl:=yp hE xr;refine ⟨by rw [List.length_set];exact h.1,fun k=>?_⟩;rw [kn (by rw [h.1];exact hl),h.2 k,List.take_succ_eq_append_getElem hi]
 by_cases e:((Wc bs)[i]).toNat=k
 ·rw [if_pos e,if_pos (by rw [List.mem_append,List.mem_singleton];right;omega)]
 ·rw [if_neg e]
  have:(k:Int) ∈ (Wc bs).take i ++ [(Wc bs)[i]] ↔ (k:Int) ∈ (Wc bs).take i:=by
   rw [List.mem_append,List.mem_singleton]
   constructor
   ·rintro (h|h)
    ·exact h
    ·omega
   ·exact Or.inl
  by_cases hm:(k:Int) ∈ (Wc bs).take i
  ·rw [if_pos hm,if_pos (this.2 hm)]
  ·rw [if_neg hm,if_neg (fun h=>hm (this.1 h))]
theorem MH (hE:Yf bs):(0:Int) ∈ Wc bs:=(Tg hE 0).2 ⟨by omega,Ln.zero⟩
theorem mF.go (h:mF bs (Wc bs).length D) (hE:Yf bs):vV bs (D.set 0 [0]):=by
 have hD:∀ k,Ml D k=if (k:Int) ∈ Wc bs then Wc bs else []:=fun k=>by rw [h.2 k,List.take_length]
 have h0:0 < D.length:=by rw [h.1];exact hE.1
 have hz:[0]=(Wc bs).filter fun x=>decide (x=0):=by
  refine uC _ _ (by simp) ((Tr bs).filter _) (fun x=>?_);rw [List.mem_singleton,List.mem_filter,decide_eq_true_eq]
  constructor
  ·rintro rfl;exact ⟨MH hE,rfl⟩
  ·exact fun h=>h.2
 have hmem:∀ k:Nat,(k:Int) ∈ Wc bs ↔ Ln (ji bs) k:=fun k=>by
  rw [Tg hE,Int.toNat_natCast];exact ⟨fun h=>h.2,fun h=>⟨by omega,h⟩⟩
 refine ⟨by rw [List.length_set];exact h.1,fun k=>?_,fun k hk=>?_,fun i k hik=>?_,?_⟩
 ·rw [kn h0]
  by_cases e:0=k
  ·rw [if_pos e];exact ⟨_,hz⟩
  ·rw [if_neg e,hD]
   by_cases hm:(k:Int) ∈ Wc bs
   ·rw [if_pos hm];exact ⟨fun _=>true,(List.filter_eq_self.2 (fun _ _=>rfl)).symm⟩
   ·rw [if_neg hm];exact ⟨fun _=>false,(List.filter_eq_nil_iff.2 (fun _ _=>by simp)).symm⟩
 ·rw [kn h0]
  by_cases e:0=k
  ·subst e;exact absurd Ln.zero hk
  ·rw [if_neg e,hD,if_neg (fun hm=>hk ((hmem k).1 hm))]
 ·rw [kn h0]
  by_cases e:0=k
  ·rw [if_pos e];subst e;rw [hik.at0];simp
  ·rw [if_neg e,hD,if_pos ((hmem k).2 hik.2.1)];exact (hmem i).2 hik.1
 ·rw [kn h0,if_pos rfl]
theorem Gl (bs:List zf):(zk bs).length=bs.length:=by simp [zk]
theorem VG (bs:List zf) (k:Nat):(qB bs k).length ≤ bs.length:=Nat.le_trans (List.length_filter_le _ _) (Hl bs)
end
end Go.Proofs.Ytoomcmaifgkkfaa.P
end
section
namespace Go.Proofs.Ytoomcmaifgkkfaa.P
open Go.RowKit Go.Proofs.Ia.Qb Go.Proofs.Ia.Od Go.Proofs.Ia.Re
set_option linter.unusedVariables false
set_option linter.unusedSimpArgs false
attribute [local go_sem] Wh Uh Fj Ej oh nh Vh Th
theorem Faa (d:Nat) (w:World) (x0 y0:Int) (x1 y1:Int) (x2 y2:Int) (x3 y3:Int) (x4 y4:Int) :
  (Op.equalIn (d + 2) 67 (.agg #[.int .i64 x0,.int .i64 x1,.int .i64 x2,.int .i64 x3,.int .i64 x4]) (.agg #[.int .i64 y0,.int .i64 y1,.int .i64 y2,.int .i64 y3,.int .i64 y4])).run Try.prog w = .ok (x0 == y0 && (x1 == y1 && (x2 == y2 && (x3 == y3 && (x4 == y4))))) w:=by
 refine OP Try.underlying67 (by kernel_rfl) ?_;refine Pj (by rfl) (by go_simp;rfl) (by go_simp;rfl) (by go_simp) ?_;refine Pj (by rfl) (by go_simp;rfl) (by go_simp;rfl) (by go_simp) ?_;refine Pj (by rfl) (by go_simp;rfl) (by go_simp;rfl) (by go_simp) ?_;refine Pj (by rfl) (by go_simp;rfl) (by go_simp;rfl) (by go_simp) ?_;exact SG (by rfl) (by go_simp;rfl) (by go_simp;rfl) (by go_simp)
def Kb.l0:Nat→List Int→Int→Int→Int→Option (Int)
 | 0,_,_,_,_=>none
 | k + 1,x0,x1,x7,x8=>if x8 < x7 then (if 0 ≤ x8 then (if x8 < (x0.length:Int) then (if x1=(rd x0 x8) then (some x8) else (Kb.l0 k x0 x1 x7 (wrap64 (x8 + 1)))) else (none)) else (none)) else (some (-1))
def Kb.f (k:Nat) (l0:List Int) (a1:Int):Option (Int):=Kb.l0 k l0 a1 (l0.length:Int) 0
theorem Kb.tr:∀ k,(∀ y0 y1 y2 y3,di (Kb.l0 k y0 y1 y2 y3) (Kb.l0 (k + 1) y0 y1 y2 y3))
 | 0=>fun _ _ _ _ r h=>by simp [Kb.l0] at h
 | k + 1=>by
  have VF:=Kb.tr k
  ·intro y0 y1 y2 y3;unfold Kb.l0
   repeat' first
   | (with_reducible exact VF _ _ _ _)
   | (with_reducible exact di.refl _)
   | (with_reducible exact di.none _)
   | (with_reducible refine di.ite ?_ ?_)
   | (with_reducible refine di.bind ?_ (fun _=>?_))
   | exact VF _ _ _ _
   | exact di.none _
   | refine di.ite ?_ ?_
   | refine di.bind ?_ (fun _=>?_)
theorem Kb.mono:∀ a0 a1 k,di (Kb.f k a0 a1) (Kb.f (k + 1) a0 a1):=by
 intro a0 a1 k;have VF:=Kb.tr k;unfold Kb.f
 repeat' first
   | (with_reducible exact VF _ _ _ _)
   | (with_reducible exact di.refl _)
   | (with_reducible exact di.none _)
   | (with_reducible refine di.ite ?_ ?_)
   | (with_reducible refine di.bind ?_ (fun _=>?_))
   | exact VF _ _ _ _
   | exact di.none _
   | refine di.ite ?_ ?_
   | refine di.bind ?_ (fun _=>?_)
theorem Kb.calls (k:Nat) (A0:Option Addr) (c0:Nat) (l0:List Int) (a1:Int) (r:Int) (w:World) (Si:Kd.C (Kd.int .i64) w A0 l0.length l0) (hc0:l0.length ≤ c0) (h:Kb.f k l0 a1=some r) :
  Calls Try.prog 110 #[.slice A0 l0.length c0,.int .i64 a1] w fun e w'=>e = .returned (.int .i64 r)∧fc w w':=by
 have fl:=ga.mk Si;have vB:=ga.mk hc0;clear Si hc0;have H:(Kb.l0 k l0 a1 (l0.length:Int) 0)=some r:=h;clear h;have H':=ga.mk H;clear H;go_enter Try.func110,Try.ntmps110;go_wp2
 go_loopg [8] k (fun kq v8 w'=>∃ (me:Int),v8 = .int .i64 me∧ga (Kb.l0 kq l0 a1 (l0.length:Int) me=some r)∧ga (kq ≤ k)∧fc w w')
 case atStart=>exact ⟨(0),(by first|rfl|(simp;done)|(simp [*];done)),H',⟨Nat.le_refl _⟩,by repeat (first|exact fc.refl _|apply fc.step)⟩
 case round =>
  clear H'
  try clear c1
  try clear p2
  (try clear HA);(try clear Gf);obtain ⟨me,rfl,HA,Gf,⟨m1,rfl⟩⟩:=hrel;cases gk with
  | zero=>exact absurd HA.out (by simp [Kb.l0])
  | succ k1 =>
   have H:=HA.out;clear HA;simp only [Kb.l0] at H
   by_cases c3:me < (l0.length:Int)
   ·rw [if_pos c3] at H;have Cg:decide (me < (l0.length:Int))=true:=decide_eq_true c3;clear c3
    by_cases c4:0 ≤ me
    ·rw [if_pos c4] at H;have Aj:decide (0 ≤ me)=true:=decide_eq_true c4;clear c4
     by_cases c5:me < (l0.length:Int)
     ·rw [if_pos c5] at H;have Al:decide (me < (l0.length:Int))=true:=decide_eq_true c5;clear c5
      by_cases c6:a1=(rd l0 me)
      ·rw [if_pos c6] at H;have Yl:(a1 == (rd l0 me))=true:=beq_iff_eq.mpr c6;have XE:(a1 != (rd l0 me))=false:=bne_eq_false_iff_eq.mpr c6;clear c6;obtain rfl:=Option.some.inj H;have Ee:0 ≤ (me:Int):=of_decide_eq_true (by first|(with_reducible assumption)|assumption);have De:me < (l0.length:Int):=of_decide_eq_true (by first|(with_reducible assumption)|assumption);obtain ⟨je,Ih,xd⟩:=Kd.Ef fl.out me Ee De;cases Ih;replace Ee:=eq_true Ee;replace De:=eq_true De;go_wp2;go_ret;exact ⟨by first|rfl|(simp;done)|(simp [*];done),by repeat (first|exact fc.refl _|apply fc.step)⟩
      ·rw [if_neg c6] at H;have Yl:(a1 == (rd l0 me))=false:=beq_eq_false_iff_ne.mpr c6;have XE:(a1 != (rd l0 me))=true:=bne_iff_ne.mpr c6;have H':=ga.mk H;clear H;have Ee:0 ≤ (me:Int):=of_decide_eq_true (by first|(with_reducible assumption)|assumption);have De:me < (l0.length:Int):=of_decide_eq_true (by first|(with_reducible assumption)|assumption);obtain ⟨je,Ih,xd⟩:=Kd.Ef fl.out me Ee De;cases Ih;replace Ee:=eq_true Ee;replace De:=eq_true De;go_wp2
       go_roundg k1
       case measure=>have:=Gf.out;omega
       case rel=>exact ⟨(wrap64 (me + 1)),(by first|rfl|(simp;done)|(simp [*];done)),H',⟨by have:=Gf.out;omega⟩,by repeat (first|exact fc.refl _|apply fc.step)⟩
     ·rw [if_neg c5] at H;exact absurd H (by simp)
    ·rw [if_neg c4] at H;exact absurd H (by simp)
   ·rw [if_neg c3] at H;have Cg:decide (me < (l0.length:Int))=false:=decide_eq_false c3;clear c3;obtain rfl:=Option.some.inj H;go_wp2;go_ret;exact ⟨by first|rfl|(simp;done)|(simp [*];done),by repeat (first|exact fc.refl _|apply fc.step)⟩
def fe.f (k:Nat) (l0:List Int) (a1:Int):Option (Bool):=(Kb.f k l0 a1).bind fun t101=>(some (decide (t101 ≥ 0)))
theorem fe.mono:∀ a0 a1 k,di (fe.f k a0 a1) (fe.f (k + 1) a0 a1):=by
 intro a0 a1 k;unfold fe.f
 repeat' first
   | (with_reducible exact Kb.mono _ _ _)
   | (with_reducible exact di.refl _)
   | (with_reducible exact di.none _)
   | (with_reducible refine di.ite ?_ ?_)
   | (with_reducible refine di.bind ?_ (fun _=>?_))
   | exact Kb.mono _ _ _
   | exact di.none _
   | refine di.ite ?_ ?_
   | refine di.bind ?_ (fun _=>?_)
theorem fe.calls (k:Nat) (A0:Option Addr) (c0:Nat) (l0:List Int) (a1:Int) (r:Bool) (w:World) (Si:Kd.C (Kd.int .i64) w A0 l0.length l0) (hc0:l0.length ≤ c0) (h:fe.f k l0 a1=some r) :
  Calls Try.prog 83 #[.slice A0 l0.length c0,.int .i64 a1] w fun e w'=>e = .returned (.bool r)∧fc w w':=by
 have fl:=ga.mk Si;have vB:=ga.mk hc0;clear Si hc0;have H:((Kb.f k l0 a1).bind fun t101=>(some (decide (t101 ≥ 0))))=some r:=h;clear h;replace H:=Option.bind_eq_some_iff.mp H;obtain ⟨t101,SA,H⟩:=H;replace H:(some (decide (t101 ≥ 0)))=some r:=H;have A3:=ga.mk SA;clear SA;obtain rfl:=Option.some.inj H;go_enter Try.func83,Try.ntmps83;go_wp2_with (first|((with_reducible refine zb (f:=110) rfl ?_);refine Dc (some 7) rfl rfl Try.func110 (by kernel_rfl) rfl #[.slice A0 l0.length c0,.int .i64 a1] rfl (by (try simp only [List.map_toArray,List.map_cons,List.map_nil]);first|done|rfl|(simp only [List.length_drop,List.length_take];rfl)) ?_;(with_reducible refine (Kb.calls k _ _ l0 a1 t101 _ ?yc ?uc A3.out).mono ?_);(case yc=>repeat (first|exact fl.out|(with_reducible refine Kd.Sb ?_ _)|(with_reducible refine Kd.Rb ?_ _)|(with_reducible refine Kd.jc ?_)));(case uc=>exact vB.out);rintro e w' ⟨rfl,⟨nd,rfl⟩⟩;refine ⟨_,rfl,?_⟩));go_ret;exact ⟨by first|rfl|(simp;done)|(simp [*];done),by repeat (first|exact fc.refl _|apply fc.step)⟩
theorem wI (l:List Int) (a:Int) (hl:l.length ≤ 9223372036854775807):∃ k r,Kb.f k l a=some r∧(r ≥ 0 ↔ a ∈ l):=by
 have key:∀ d i:Nat,i + d=l.length→∃ k r,Kb.l0 k l a (l.length:Int) (i:Int)=some r∧(r ≥ 0 ↔ a ∈ l.drop i):=by
  intro d
  induction d with
  | zero =>
   intro i hi;refine ⟨1,-1,?_,?_⟩
   ·rw [Kb.l0,if_neg (by omega)]
   ·rw [List.drop_of_length_le (by omega)];simp
  | succ d ih =>
   intro i hi;obtain ⟨k,r,h1,h2⟩:=ih (i + 1) (by omega);have hlt:i < l.length:=by omega
   have hr:rd l (i:Int)=l[i]:=by simp [rd,List.getD_eq_getElem?_getD,hlt]
   by_cases e:a=l[i]
   ·refine ⟨k + 1,i,?_,?_⟩
    ·rw [Kb.l0,if_pos (by omega),if_pos (by omega),if_pos (by omega),hr,if_pos e]
    ·rw [List.drop_eq_getElem_cons hlt,e];exact ⟨fun _=>List.mem_cons_self,fun _=>by omega⟩
   ·refine ⟨k + 1,r,?_,?_⟩
    ·rw [Kb.l0,if_pos (by omega),if_pos (by omega),if_pos (by omega),hr,if_neg e,show wrap64 ((i:Int) + 1)=((i + 1:Nat):Int) from by unfold wrap64;omega,h1]
    ·rw [List.drop_eq_getElem_cons hlt,h2,List.mem_cons];exact ⟨Or.inr,fun h=>h.resolve_left e⟩
 obtain ⟨k,r,h1,h2⟩:=key l.length 0 (by omega);exact ⟨k,r,h1,by simpa using h2⟩
theorem UE (A0:Option Addr) (c0:Nat) (l0:List Int) (a1:Int) (w:World) (Si:Kd.C (Kd.int .i64) w A0 l0.length l0) (hc0:l0.length ≤ c0) :
  Calls Try.prog 83 #[.slice A0 l0.length c0,.int .i64 a1] w fun e w'=>e = .returned (.bool (decide (a1 ∈ l0)))∧fc w w':=by
 obtain ⟨k,r,h1,h2⟩:=wI l0 a1 Si.2.1
 have h:fe.f k l0 a1=some (decide (a1 ∈ l0)):=by
  unfold fe.f;rw [h1];exact congrArg some (decide_eq_decide.2 h2)
 exact fe.calls k A0 c0 l0 a1 _ w Si hc0 h
def PP (w:World) (N p r q:Nat) (im m:Array Value) (v0:Value) (s0:List Int) (v4:Value) (gs:List Int) (W:World):Prop :=
 Below w.heap.size w W∧W.heap[p]? = some (.cells im 30 (0,0))∧W.heap[r]? = some (.cells #[.slice none 0 0,.int .i64 0,.int .i64 0,.slice none 0 0] 30 (0,0))∧W.heap[q]? = some (.cells m 30 (0,0)) ∧
 Kd.R (Kd.int .i64) 3 W w.heap.size (fun k=>k < N) v0 s0∧Kd.R (Kd.int .i64) 3 W w.heap.size (fun k=>k < N) v4 gs∧(w.heap.size ≤ q∧w.heap.size ≤ r∧p < N∧q < N∧r < N∧p ≠ q∧r ≠ q∧w.heap.size ≤ N∧N ≤ W.heap.size)
section
variable {w W W':World} {N p r q:Nat} {im m:Array Value} {v0 v4:Value} {s0 gs:List Int}
theorem PP.up (h:PP w N p r q im m v0 s0 v4 gs W) (hb:Below w.heap.size w W') (hk:Kept W W' (fun k=>N ≤ k)):PP w N p r q im m v0 s0 v4 gs W':=by
 obtain ⟨h1,h2,h3,h4,h5,h6,b1,b2,b3,b4,b5,b6,b7,b8,b9⟩:=h;exact ⟨hb,Nh h2 hk (by omega),Nh h3 hk (by omega),Nh h4 hk (by omega),Kd.LA h5 hk (fun k a b=>by omega),Kd.LA h6 hk (fun k a b=>by omega),b1,b2,b3,b4,b5,b6,b7,b8,Nat.le_trans b9 hk.1⟩
theorem PP.below (h:PP w N p r q im m v0 s0 v4 gs W) (hb:Below W.heap.size W W'):PP w N p r q im m v0 s0 v4 gs W':=h.up (Qa h.1 hb) (Kept.Dn hb _)
theorem PP.alloc (h:PP w N p r q im m v0 s0 v4 gs W) (o:Obj):PP w N p r q im m v0 s0 v4 gs (W.alloc o):=h.below (oa (Below.refl _ _) o)
theorem PP.grown {row:Option Nat} (h:PP w N p r q im m v0 s0 v4 gs W) (hg:W.grownBy W' row) (hr:∀ k,row=some k→N ≤ k):PP w N p r q im m v0 s0 v4 gs W' :=
 h.up (jr h.1 row h.1.size hg (fun k e=>Nat.le_trans h.2.2.2.2.2.2.2.2.2.2.2.2.2.1 (hr k e))) (Kept.Dg hg (Kept.refl _ _) (fun k e=>Or.inl (hr k e)))
theorem PP.set (h:PP w N p r q im m v0 s0 v4 gs W) (j:Nat) (u:Value):PP w N p r q im (m.setIfInBounds j u) v0 s0 v4 gs (W.setCell ⟨q,j,none⟩ u):=by
 obtain ⟨h1,h2,h3,h4,h5,h6,b1,b2,b3,b4,b5,b6,b7,b8,b9⟩:=h;exact ⟨h1.setCell b1 _,We h2 b6 u,We h3 b7 u,bF h4 j u,Kd.lX h5 h4 (by decide) j u,Kd.lX h6 h4 (by decide) j u,b1,b2,b3,b4,b5,b6,b7,b8,by simpa using b9⟩
end
attribute [local go_sem high] Faa
end Go.Proofs.Ytoomcmaifgkkfaa.P
end
section
namespace Go.Proofs.Ytoomcmaifgkkfaa.P
open Go.RowKit Go.Proofs.Ia.Qb Go.Proofs.Ia.Od Go.Proofs.Ia.Re
set_option linter.unusedVariables false
set_option linter.unusedSimpArgs false
theorem lN {W1 W:World} {base g n cap i:Nat} {P:Nat→Prop} {D:List (List Int)} {v:Value} {xs:List Int}
  (h:Kd.S (Kd.slice 3 (Kd.int .i64)) 22 W1 base P (.slice (some ⟨g,0,none⟩) n cap) D) (hb:Below W1.heap.size W1 W) (hi:i < n)
  (hx:Kd.R (Kd.int .i64) 3 W base (fun k=>P k∧W1.heap.size ≤ k) v xs) :
  Kd.S (Kd.slice 3 (Kd.int .i64)) 22 (W.setCell ⟨g,i,none⟩ v) base P (.slice (some ⟨g,0,none⟩) n cap) (D.set i xs)∧W.grownBy (W.setCell ⟨g,i,none⟩ v) (some g):=by
 obtain ⟨Gm,c,WA,hM,ry,IZ,JC,hH⟩:=Kd.Jx h ([]:List Int) (i:Int) (by omega) (by omega);have hH2:=Kd.DV (Kd.nF hH) hb;have kaa:c.length=1:=WA
 obtain ⟨u,rfl⟩:∃ u,c=[u]:=by
  rcases c with _|⟨u,_|⟨u2,c⟩⟩
  ·simp at kaa
  ·exact ⟨u,rfl⟩
  ·simp at kaa
 have hs:=Kd.I2 (d:=Kd.slice 3 (Kd.int .i64)) hH2 (by omega) (by omega) (seg:=[v]) (j:=0) (show 0 + 1 ≤ 1 from by decide) (x':=xs) (Gh:=fun k=>P k∧W1.heap.size ≤ k) (show (Kd.slice 3 (Kd.int .i64)).M W base (fun k=>P k∧W1.heap.size ≤ k) xs [v] from ⟨v,rfl,hx⟩) (fun k hk=>Or.inr hk);rw [Int.toNat_natCast,show i * (Kd.slice 3 (Kd.int .i64)).sz + 0=i from by show i * 1 + 0=i;omega] at hs;exact hs
theorem lH {W:World} {base g n cap i:Nat} {P:Nat→Prop} {D:List (List Int)} (h:Kd.S (Kd.slice 3 (Kd.int .i64)) 22 W base P (.slice (some ⟨g,0,none⟩) n cap) D) (hi:i < n) :
  ∃ (A:Option Addr) (c:Nat),W.cell? ⟨g,i,none⟩=some (.slice A (Ml D i).length c)∧W.frozen? ⟨g,i,none⟩=false∧(Ml D i).length ≤ c∧Kd.C (Kd.int .i64) W A (Ml D i).length (Ml D i):=by
 obtain ⟨Gm,c,WA,hM,ry,IZ,JC,hH⟩:=Kd.Jx h ([]:List Int) (i:Int) (by omega) (by omega);rw [Int.toNat_natCast] at hM ry IZ;obtain ⟨A,cc,hc,hl,hC⟩:=Kd.Vf _ hM;have h1:=ry 0 _ (by rw [hc];rfl);have h2:=IZ 0;rw [show i * (Kd.slice 3 (Kd.int .i64)).sz + 0=i from by show i * 1 + 0=i;omega] at h1 h2;exact ⟨A,cc,h1,h2,hl,hC⟩
structure YA (w wA:World) (b4 g cap n:Nat) (D:List (List Int)) (wr:World):Prop where
 bl:Below w.heap.size w wr
 k:Kept wA wr (fun k=>k=g)
 v:wr.heap[b4]? = some (.cells #[.slice (some ⟨g,0,none⟩) n cap] 53 (0,0))
 row:Kd.S (Kd.slice 3 (Kd.int .i64)) 22 wr w.heap.size (fun k=>k ≠ b4) (.slice (some ⟨g,0,none⟩) n cap) D
 ne:b4 ≠ g
 gb:w.heap.size ≤ g
section
variable {w wA wr W:World} {b4 g cap n:Nat} {D:List (List Int)}
theorem YA.below (h:YA w wA b4 g cap n D wr) (hb:Below wr.heap.size wr W):YA w wA b4 g cap n D W :=
 ⟨Qa h.bl hb,h.k.below hb,Va h.v hb,Kd.Le h.row hb,h.ne,h.gb⟩
theorem YA.put (h:YA w wA b4 g cap n D wr) (hb:Below wr.heap.size wr W) {i:Nat} (hi:i < n) {v:Value} {xs:List Int} (hx:Kd.R (Kd.int .i64) 3 W w.heap.size (fun k=>k ≠ b4∧wr.heap.size ≤ k) v xs):YA w wA b4 g cap n (D.set i xs) (W.setCell ⟨g,i,none⟩ v):=by
 obtain ⟨h1,h2⟩:=lN h.row hb hi hx;have hw:=h.below hb
 exact ⟨hw.bl.grown h2 hw.bl.size (fun k e=>by injection e with e;rw [← e];exact h.gb),Kept.Dg h2 hw.k (fun k e=>Or.inl (by injection e with e;exact e.symm)),
  (Below.heap_setCell W ⟨g,i,none⟩ v b4 hw.ne).trans hw.v,h1,hw.ne,hw.gb⟩
theorem YA.cell (h:YA w wA b4 g cap n D wr):wr.cell? ⟨b4,0,none⟩=some (.slice (some ⟨g,0,none⟩) n cap):=(ja h.v 0).trans rfl
theorem YA.at (h:YA w wA b4 g cap n D wr) {i:Nat} (hi:i < n):∃ (A:Option Addr) (c:Nat),wr.cell? ⟨g,i,none⟩=some (.slice A (Ml D i).length c)∧wr.frozen? ⟨g,i,none⟩=false∧(Ml D i).length ≤ c∧Kd.C (Kd.int .i64) wr A (Ml D i).length (Ml D i):=lH h.row hi
theorem YA.glt (h:YA w wA b4 g cap n D wr):g < wr.heap.size:=Kd.Lao h.row g rfl
theorem YA.blt (h:YA w wA b4 g cap n D wr):b4 < wr.heap.size:=Qc h.v
end
theorem aI (TN b4 q9 g n cap b t:Nat) (D:List (List Int)) (A:Option Addr) (c:Nat) (r:Int) (W:World) (sN:b < n)
  (h11:W.cell? ⟨TN,0,none⟩=some (.int .i64 t)) (h4:W.cell? ⟨b4,0,none⟩=some (.slice (some ⟨g,0,none⟩) n cap)) (h9:W.cell? ⟨q9,0,none⟩=some (.int .i64 b))
  (hr:W.cell? ⟨g,b,none⟩=some (.slice A (Ml D b).length c)) (hl:(Ml D b).length ≤ c) (hC:Kd.C (Kd.int .i64) W A (Ml D b).length (Ml D b)) :
  Calls Try.prog 109 (#[.int .i64 r] ++ #[.pointer (some ⟨TN,0,none⟩),.pointer (some ⟨b4,0,none⟩),.pointer (some ⟨q9,0,none⟩)]) W fun e w'=>e = .returned (.bool (Mw D b t r))∧Below W.heap.size W w':=by
 have HC:=ga.mk (UE A c (Ml D b) r W hC hl);have p0:0 ≤ (b:Int):=by omega
 have p1:(b:Int) < (n:Int):=by omega
 clear hC hl
 by_cases h:r=(t:Int)
 ·have hb:(r != (t:Int))=false:=by rw [h];exact bne_self_eq_false' (t:Int)
  have HD:=ga.mk (show Mw D b t r=false from if_pos h);clear h;go_enter Try.func109,Try.ntmps109;go_wp2_with (first|(go_at_call 83;(refine HC.out.mono ?_);rintro e AF ⟨rfl,⟨⟨nd,rfl⟩⟩⟩));go_ret;exact ⟨by rw [HD.out];rfl,Below.refl _ _⟩
 ·have hb:(r != (t:Int))=true:=bne_iff_ne.2 h;have HD:=ga.mk (show Mw D b t r = !decide (r ∈ Ml D b) from if_neg h);clear h;go_enter Try.func109,Try.ntmps109;go_wp2_with (first|(go_at_call 83;(refine HC.out.mono ?_);rintro e AF ⟨rfl,⟨⟨nd,rfl⟩⟩⟩));go_ret;exact ⟨by rw [HD.out];rfl,ia (Below.refl _ _) _⟩
end Go.Proofs.Ytoomcmaifgkkfaa.P
end
