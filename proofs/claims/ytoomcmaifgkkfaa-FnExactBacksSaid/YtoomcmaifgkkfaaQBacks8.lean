import Derived.Shelf.Abstract
import Derived.Outline
import Derived.RegionTactic
import Derived.Deep.QuietTactic
import Derived.BigQuiet
import Derived.Test.YtoomcmaifgkkfaaQBacks1
import Derived.Test.YtoomcmaifgkkfaaQBacks3
import Derived.Test.YtoomcmaifgkkfaaQBacks2
import Derived.Test.YtoomcmaifgkkfaaQBacks7
set_option maxHeartbeats 8000000
set_option maxRecDepth 100000
section
namespace Go.Proofs.Ytoomcmaifgkkfaa.P
open Go.RowKit Go.Proofs.ua.zb Go.Proofs.ua.Lc Go.Proofs.ua.Pd
set_option linter.unusedVariables false
set_option linter.unusedSimpArgs false
theorem Dx (x0 x1 x2 x3 x4 x5:Int) (x6:ByteArray) (w:World) :
  Calls Try.prog 140 #[.agg #[.int .i64 x0,.int .i64 x1,.int .i64 x2,.int .i64 x3,.int .i64 x4,.int .i64 x5,.string x6],.agg #[.int .i64 x0,.int .i64 x1,.int .i64 x2,.int .i64 x3,.int .i64 x4,.int .i64 x5,.string x6]] w fun e w'=>e = .returned (.bool true)∧Below w.heap.size w w':=by
 obtain ⟨W1,hW,hB,hx,hy⟩:=dm w (.cells #[.int .i64 x0,.int .i64 x1,.int .i64 x2,.int .i64 x3,.int .i64 x4,.int .i64 x5,.string x6] 122 (0,0)) (.cells #[.int .i64 x0,.int .i64 x1,.int .i64 x2,.int .i64 x3,.int .i64 x4,.int .i64 x5,.string x6] 122 (0,0));have HW:=aa.mk hW;have HB:=aa.mk hB;obtain ⟨a0,a1,a2,a3,a4,a5,a6⟩:=OB hx;obtain ⟨b0,b1,b2,b3,b4,b5,b6⟩:=OB hy;clear hW hB hx hy;go_enter Try.func140,Try.ntmps140
 go_upto_region 1 with (fail)
 rw [← HW.out];clear HW;go_wp2;go_ret;exact ⟨by simp,HB.out⟩
theorem Yv (A B:Option Addr) (c d:Nat) (l:List Zb) (w:World) (hA:Kd.C fe w A l.length l) (hc:l.length ≤ c) (hB:Kd.C fe w B l.length l) (hd:l.length ≤ d) :
  Calls Try.prog 126 #[.slice A l.length c,.slice B l.length d] w fun e w'=>e = .returned (.bool true)∧Below w.heap.size w w':=by
 have hm:=hA.2.1;have HA:=aa.mk hA;have HB:=aa.mk hB;have uE:=aa.mk (Below.refl w.heap.size w);clear hA hB;go_enter Try.func126,Try.ntmps126;go_wp2
 go_loopg [5] l.length (fun gg v5 wr=>∃ x:Int,v5 = .int .i64 x∧0 ≤ x∧x ≤ (l.length:Int)∧l.length - x.toNat ≤ gg∧aa (Below w.heap.size w wr))
 case atStart=>exact ⟨0,rfl,by omega,by omega,by omega,uE⟩
 case round =>
  clear uE;(try clear HW);obtain ⟨x,rfl,hx0,hx1,BA,HW⟩:=hrel
  by_cases hlt:x < (l.length:Int)
  ·have Xh:decide (x < (l.length:Int))=true:=decide_eq_true hlt;obtain ⟨ad,e1,a0,a1,a2,a3,a4,a5,a6⟩:=lu (Kd.yb HA.out HW.out) x hx0 hlt;obtain ⟨bd,e2,b0,b1,b2,b3,b4,b5,b6⟩:=lu (Kd.yb HB.out HW.out) x hx0 hlt;subst e1;subst e2;have aN:=aa.mk (ja HW.out);have jJ:=aa.mk (And.intro hx0 hlt)
   go_upto_region 6 with (fail)
   refine Pj (n:=10) (S:=fun w'=>w'.cell? (ad.add (x.toNat * 7))=some (.int .i64 ((oa l x).f0))∧w'.cell? ⟨(ad.add (x.toNat * 7)).block,(ad.add (x.toNat * 7)).off + 1,none⟩=some (.int .i64 ((oa l x).f1))∧w'.cell? ⟨(ad.add (x.toNat * 7)).block,(ad.add (x.toNat * 7)).off + 2,none⟩=some (.int .i64 ((oa l x).f2))∧w'.cell? ⟨(ad.add (x.toNat * 7)).block,(ad.add (x.toNat * 7)).off + 3,none⟩=some (.int .i64 ((oa l x).f3))∧w'.cell? ⟨(ad.add (x.toNat * 7)).block,(ad.add (x.toNat * 7)).off + 4,none⟩=some (.int .i64 ((oa l x).f4))∧w'.cell? ⟨(ad.add (x.toNat * 7)).block,(ad.add (x.toNat * 7)).off + 5,none⟩=some (.int .i64 ((oa l x).f5))∧w'.cell? ⟨(ad.add (x.toNat * 7)).block,(ad.add (x.toNat * 7)).off + 6,none⟩=some (.string ((oa l x).f6))∧w'.cell? (bd.add (x.toNat * 7))=some (.int .i64 ((oa l x).f0))∧w'.cell? ⟨(bd.add (x.toNat * 7)).block,(bd.add (x.toNat * 7)).off + 1,none⟩=some (.int .i64 ((oa l x).f1))∧w'.cell? ⟨(bd.add (x.toNat * 7)).block,(bd.add (x.toNat * 7)).off + 2,none⟩=some (.int .i64 ((oa l x).f2))∧w'.cell? ⟨(bd.add (x.toNat * 7)).block,(bd.add (x.toNat * 7)).off + 3,none⟩=some (.int .i64 ((oa l x).f3))∧w'.cell? ⟨(bd.add (x.toNat * 7)).block,(bd.add (x.toNat * 7)).off + 4,none⟩=some (.int .i64 ((oa l x).f4))∧w'.cell? ⟨(bd.add (x.toNat * 7)).block,(bd.add (x.toNat * 7)).off + 5,none⟩=some (.int .i64 ((oa l x).f5))∧w'.cell? ⟨(bd.add (x.toNat * 7)).block,(bd.add (x.toNat * 7)).off + 6,none⟩=some (.string ((oa l x).f6))) (ds:=[8]) #[false,false,false,false,false,false,false,false,false,false] (by kernel_rfl) rfl rfl ⟨a0,a1,a2,a3,a4,a5,a6,b0,b1,b2,b3,b4,b5,b6⟩ (fun hHeld=>?_);generalize wr.drew=wd at aN hHeld ⊢;refine Dc (i:=0) (N:=some 17) (v:=?_) (a':=?_) #[true,false,false,false,false,false,false,false,false,false] rfl rfl (by kernel_rfl) (fun _ _ _ h=>h) (Or.inl ⟨by rfl,?_⟩) ?_ ?_;rotate_left
   ·exact Rae
   rotate_left
   ·exact Qae
   refine Dc (i:=1) (N:=some 18) (v:=?_) (a':=?_) #[true,true,false,false,false,false,false,false,false,false] rfl rfl (by kernel_rfl) (fun _ _ _ h=>h) (Or.inl ⟨by rfl,?_⟩) ?_ ?_;rotate_left
   ·exact Rae
   rotate_left
   ·exact Qae
   refine Dc (i:=2) (N:=some 19) (v:=?_) (a':=?_) #[true,true,true,false,false,false,false,false,false,false] rfl rfl (by kernel_rfl) (fun _ _ _ h=>h) (Or.inl ⟨by rfl,?_⟩) ?_ ?_;rotate_left
   ·exact Rae
   rotate_left
   ·exact Qae
   refine Dc (i:=4) (N:=some 21) (v:=?_) (a':=?_) #[true,true,true,false,true,false,false,false,false,false] rfl rfl (by kernel_rfl) (fun _ _ _ h=>h) (Or.inl ⟨by rfl,?_⟩) ?_ ?_;rotate_left
   ·exact Rae
   rotate_left
   ·exact Qae
   refine Dc (i:=5) (N:=some 22) (v:=?_) (a':=?_) #[true,true,true,false,true,true,false,false,false,false] rfl rfl (by kernel_rfl) (fun _ _ _ h=>h) (Or.inl ⟨by rfl,?_⟩) ?_ ?_;rotate_left
   ·exact Rae
   rotate_left
   ·exact Qae
   refine Dc (i:=6) (N:=some 23) (v:=?_) (a':=?_) #[true,true,true,false,true,true,true,false,false,false] rfl rfl (by kernel_rfl) (fun _ _ _ h=>h) (Or.inl ⟨by rfl,?_⟩) ?_ ?_;rotate_left
   ·exact Rae
   rotate_left
   ·exact Qae
   refine ah (i:=3) (N:=some 20) (v:=?_) (a':=?_) #[true,true,true,true,true,true,true,false,false,false] rfl rfl (by kernel_rfl) (fun _ _ _ h=>h) (Or.inl ⟨by rfl,?_⟩) hHeld ?_ ?_;rotate_left
   ·rintro w' ⟨s0,s1,s2,s3,s4,s5,s6,s7,s8,s9,zJ,dW,cW,s13⟩;go_simp;with_reducible rfl
   rotate_left
   ·exact Qae
   refine ah (i:=7) (N:=some 24) (v:=?_) (a':=?_) #[true,true,true,true,true,true,true,true,false,false] rfl rfl (by kernel_rfl) (fun _ _ _ h=>h) (Or.inl ⟨by rfl,?_⟩) hHeld ?_ ?_;rotate_left
   ·rintro w' ⟨s0,s1,s2,s3,s4,s5,s6,s7,s8,s9,zJ,dW,cW,s13⟩;go_simp;with_reducible rfl
   rotate_left
   ·exact Qae
   refine Ts (i:=8) (N:=some 25) #[true,true,true,true,true,true,true,true,true,false] rfl rfl (by kernel_rfl) (by decide) (fun K hK=>?_);refine Oq Try.func140 (by kernel_rfl) rfl #[.agg #[.int .i64 (oa l x).f0,.int .i64 (oa l x).f1,.int .i64 (oa l x).f2,.int .i64 (oa l x).f3,.int .i64 (oa l x).f4,.int .i64 (oa l x).f5,.string (oa l x).f6],.agg #[.int .i64 (oa l x).f0,.int .i64 (oa l x).f1,.int .i64 (oa l x).f2,.int .i64 (oa l x).f3,.int .i64 (oa l x).f4,.int .i64 (oa l x).f5,.string (oa l x).f6]] (by rfl) rfl rfl Faf ?_;with_reducible refine (Dx _ _ _ _ _ _ _ wd).mono ?_
   rintro e w2 ⟨rfl,hb⟩;refine ⟨_,rfl,?_⟩;have bN:=aa.mk (Fa aN.out hb);clear hb;refine hK.out _ _ ?_;clear hK K;refine Ze (a':=?_) ?_ ?_;rotate_left
   ·show Act.put _ (some 25) _=_
    exact Qae
   refine Dc (i:=9) (N:=some 26) (v:=?_) (a':=?_) #[true,true,true,true,true,true,true,true,true,true] rfl rfl (by kernel_rfl) (fun _ _ _ h=>h) (Or.inl ⟨by rfl,?_⟩) ?_ ?_;rotate_left
   ·exact Rae
   rotate_left
   ·exact Qae
   refine Ym (by kernel_rfl) ?_;clear hHeld a0 a1 a2 a3 a4 b0 b1 b2 b3 b4 a5 a6 b5 b6;go_wp2
   go_roundg (l.length - (x + 1).toNat)
   case measure=>have:=jJ.out;omega
   case rel=>exact ⟨x + 1,rfl,by omega,by omega,by omega,bN⟩
  ·have Xh:decide (x < (l.length:Int))=false:=decide_eq_false hlt;go_wp2;go_ret;exact ⟨rfl,HW.out⟩
theorem Ex (A B:Option Addr) (c d:Nat) (l:List Zb) (x1 x2 x3 x4:Int) (w:World) (hA:Kd.C fe w A l.length l) (hc:l.length ≤ c) (hB:Kd.C fe w B l.length l) (hd:l.length ≤ d) :
  Calls Try.prog 108 #[.agg #[.slice A l.length c,.int .i64 x1,.int .i64 x2,.int .i64 x3,.int .i64 x4],.agg #[.slice B l.length d,.int .i64 x1,.int .i64 x2,.int .i64 x3,.int .i64 x4]] w fun e w'=>e = .returned (.bool true)∧Below w.heap.size w w':=by
 obtain ⟨W1,hW,hb,hx,hy⟩:=dm w (.cells #[.slice A l.length c,.int .i64 x1,.int .i64 x2,.int .i64 x3,.int .i64 x4] 83 (0,0)) (.cells #[.slice B l.length d,.int .i64 x1,.int .i64 x2,.int .i64 x3,.int .i64 x4] 83 (0,0));have HW:=aa.mk hW;have HB:=aa.mk hb;have HC:=aa.mk (Yv A B c d l W1 (Kd.yb hA hb) hc (Kd.yb hB hb) hd);have HX:=aa.mk hx;have HY:=aa.mk hy;obtain ⟨a0,-,-,-,-⟩:=Cg hx;obtain ⟨b0,-,-,-,-⟩:=Cg hy;clear hW hb hx hy hA hB;go_enter Try.func108,Try.ntmps108
 go_upto_region 1 with (fail)
 rw [← HW.out];clear HW
 go_upto_region 3 with (first|(go_at_call 126;(with_reducible refine HC.out.mono ?_);rintro e w2 ⟨rfl,hb⟩;have Yi:=aa.mk (Fa HB.out hb);have bC:=aa.mk (Ua HX.out hb);have B5:=aa.mk (Ua HY.out hb);clear hb a0 b0))
 obtain ⟨-,a1,a2,a3,a4⟩:=Cg bC.out;obtain ⟨-,b1,b2,b3,b4⟩:=Cg B5.out;go_wp2;go_ret;exact ⟨by simp,Yi.out⟩
theorem Zv (A B:Option Addr) (c d:Nat) (l:List Yd) (w:World) (hA:Kd.C Jl w A l.length l) (hc:l.length ≤ c) (hB:Kd.C Jl w B l.length l) (hd:l.length ≤ d) :
  Calls Try.prog 80 #[.slice A l.length c,.slice B l.length d] w fun e w'=>e = .returned (.bool true)∧Below w.heap.size w w':=by
 have hm:=hA.2.1;have HA:=aa.mk hA;have HB:=aa.mk hB;have uE:=aa.mk (Below.refl w.heap.size w);clear hA hB;go_enter Try.func80,Try.ntmps80;go_wp2
 go_loopg [5] l.length (fun gg v5 wr=>∃ x:Int,v5 = .int .i64 x∧0 ≤ x∧x ≤ (l.length:Int)∧l.length - x.toNat ≤ gg∧aa (Below w.heap.size w wr))
 case atStart=>exact ⟨0,rfl,by omega,by omega,by omega,uE⟩
 case round =>
  clear uE;(try clear HW);obtain ⟨x,rfl,hx0,hx1,BA,HW⟩:=hrel
  by_cases hlt:x < (l.length:Int)
  ·have Xh:decide (x < (l.length:Int))=true:=decide_eq_true hlt;obtain ⟨ad,Ac,cc,e1,a0,a1,a2,a3,a4,acl,R_⟩:=Nk (Kd.yb HA.out HW.out) x hx0 hlt;obtain ⟨bd,Bc,dc,e2,b0,b1,b2,b3,b4,N_,O_⟩:=Nk (Kd.yb HB.out HW.out) x hx0 hlt;subst e1;subst e2;have aN:=aa.mk (ja HW.out);have jJ:=aa.mk (And.intro hx0 hlt);have MJ:=aa.mk (And.intro acl N_);have HCA:=aa.mk (show Kd.C fe wr.drew Ac _ _ from R_);have HCB:=aa.mk (show Kd.C fe wr.drew Bc _ _ from O_);clear acl N_ R_ O_
   go_upto_region 6 with (fail)
   refine Pj (n:=10) (S:=fun w'=>w'.cell? (ad.add (x.toNat * 5))=some (.slice Ac ((Ga l x).f0).length cc)∧w'.cell? ⟨(ad.add (x.toNat * 5)).block,(ad.add (x.toNat * 5)).off + 1,none⟩=some (.int .i64 ((Ga l x).f1))∧w'.cell? ⟨(ad.add (x.toNat * 5)).block,(ad.add (x.toNat * 5)).off + 2,none⟩=some (.int .i64 ((Ga l x).f2))∧w'.cell? ⟨(ad.add (x.toNat * 5)).block,(ad.add (x.toNat * 5)).off + 3,none⟩=some (.int .i64 ((Ga l x).f3))∧w'.cell? ⟨(ad.add (x.toNat * 5)).block,(ad.add (x.toNat * 5)).off + 4,none⟩=some (.int .i64 ((Ga l x).f4))∧w'.cell? (bd.add (x.toNat * 5))=some (.slice Bc ((Ga l x).f0).length dc)∧w'.cell? ⟨(bd.add (x.toNat * 5)).block,(bd.add (x.toNat * 5)).off + 1,none⟩=some (.int .i64 ((Ga l x).f1))∧w'.cell? ⟨(bd.add (x.toNat * 5)).block,(bd.add (x.toNat * 5)).off + 2,none⟩=some (.int .i64 ((Ga l x).f2))∧w'.cell? ⟨(bd.add (x.toNat * 5)).block,(bd.add (x.toNat * 5)).off + 3,none⟩=some (.int .i64 ((Ga l x).f3))∧w'.cell? ⟨(bd.add (x.toNat * 5)).block,(bd.add (x.toNat * 5)).off + 4,none⟩=some (.int .i64 ((Ga l x).f4))) (ds:=[8]) #[false,false,false,false,false,false,false,false,false,false] (by kernel_rfl) rfl rfl ⟨a0,a1,a2,a3,a4,b0,b1,b2,b3,b4⟩ (fun hHeld=>?_);generalize wr.drew=wd at aN HCA HCB hHeld ⊢;refine Dc (i:=0) (N:=some 17) (v:=?_) (a':=?_) #[true,false,false,false,false,false,false,false,false,false] rfl rfl (by kernel_rfl) (fun _ _ _ h=>h) (Or.inl ⟨by rfl,?_⟩) ?_ ?_;rotate_left
   ·exact Rae
   rotate_left
   ·exact Qae
   refine Dc (i:=1) (N:=some 18) (v:=?_) (a':=?_) #[true,true,false,false,false,false,false,false,false,false] rfl rfl (by kernel_rfl) (fun _ _ _ h=>h) (Or.inl ⟨by rfl,?_⟩) ?_ ?_;rotate_left
   ·exact Rae
   rotate_left
   ·exact Qae
   refine Dc (i:=2) (N:=some 19) (v:=?_) (a':=?_) #[true,true,true,false,false,false,false,false,false,false] rfl rfl (by kernel_rfl) (fun _ _ _ h=>h) (Or.inl ⟨by rfl,?_⟩) ?_ ?_;rotate_left
   ·exact Rae
   rotate_left
   ·exact Qae
   refine Dc (i:=4) (N:=some 21) (v:=?_) (a':=?_) #[true,true,true,false,true,false,false,false,false,false] rfl rfl (by kernel_rfl) (fun _ _ _ h=>h) (Or.inl ⟨by rfl,?_⟩) ?_ ?_;rotate_left
   ·exact Rae
   rotate_left
   ·exact Qae
   refine Dc (i:=5) (N:=some 22) (v:=?_) (a':=?_) #[true,true,true,false,true,true,false,false,false,false] rfl rfl (by kernel_rfl) (fun _ _ _ h=>h) (Or.inl ⟨by rfl,?_⟩) ?_ ?_;rotate_left
   ·exact Rae
   rotate_left
   ·exact Qae
   refine Dc (i:=6) (N:=some 23) (v:=?_) (a':=?_) #[true,true,true,false,true,true,true,false,false,false] rfl rfl (by kernel_rfl) (fun _ _ _ h=>h) (Or.inl ⟨by rfl,?_⟩) ?_ ?_;rotate_left
   ·exact Rae
   rotate_left
   ·exact Qae
   refine ah (i:=3) (N:=some 20) (v:=?_) (a':=?_) #[true,true,true,true,true,true,true,false,false,false] rfl rfl (by kernel_rfl) (fun _ _ _ h=>h) (Or.inl ⟨by rfl,?_⟩) hHeld ?_ ?_;rotate_left
   ·exact Uae
   rotate_left
   ·exact Qae
   refine ah (i:=7) (N:=some 24) (v:=?_) (a':=?_) #[true,true,true,true,true,true,true,true,false,false] rfl rfl (by kernel_rfl) (fun _ _ _ h=>h) (Or.inl ⟨by rfl,?_⟩) hHeld ?_ ?_;rotate_left
   ·exact Uae
   rotate_left
   ·exact Qae
   refine Ts (i:=8) (N:=some 25) #[true,true,true,true,true,true,true,true,true,false] rfl rfl (by kernel_rfl) (by decide) (fun K hK=>?_);refine Oq Try.func108 (by kernel_rfl) rfl #[.agg #[.slice Ac (Ga l x).f0.length cc,.int .i64 (Ga l x).f1,.int .i64 (Ga l x).f2,.int .i64 (Ga l x).f3,.int .i64 (Ga l x).f4],.agg #[.slice Bc (Ga l x).f0.length dc,.int .i64 (Ga l x).f1,.int .i64 (Ga l x).f2,.int .i64 (Ga l x).f3,.int .i64 (Ga l x).f4]] (by rfl) rfl rfl Faf ?_;with_reducible refine (Ex Ac Bc cc dc _ _ _ _ _ wd HCA.out MJ.out.1 HCB.out MJ.out.2).mono ?_
   rintro e w2 ⟨rfl,hb⟩;refine ⟨_,rfl,?_⟩;have bN:=aa.mk (Fa aN.out hb);clear hb;refine hK.out _ _ ?_;clear hK K;refine Ze (a':=?_) ?_ ?_;rotate_left
   ·show Act.put _ (some 25) _=_
    exact Qae
   refine Dc (i:=9) (N:=some 26) (v:=?_) (a':=?_) #[true,true,true,true,true,true,true,true,true,true] rfl rfl (by kernel_rfl) (fun _ _ _ h=>h) (Or.inl ⟨by rfl,?_⟩) ?_ ?_;rotate_left
   ·exact Rae
   rotate_left
   ·exact Qae
   refine Ym (by kernel_rfl) ?_;clear hHeld a0 a1 a2 a3 a4 b0 b1 b2 b3 b4;go_wp2
   go_roundg (l.length - (x + 1).toNat)
   case measure=>have:=jJ.out;omega
   case rel=>exact ⟨x + 1,rfl,by omega,by omega,by omega,bN⟩
  ·have Xh:decide (x < (l.length:Int))=false:=decide_eq_false hlt;go_wp2;go_ret;exact ⟨rfl,HW.out⟩
noncomputable def zg.f (_:Nat) (l0:List Int) (p v s:Int) (l4:List Yd) (m0:List Int) (q u t:Int) (m4:List Yd):Option Bool:=open Classical in if l0=m0∧p=q∧v=u∧s=t∧l4=m4 then some true else none
theorem zg.calls (k:Nat) (Bb:Option Addr) (Ab:Nat) (Ma:List Int) (Pa:Int) (Qa:Int) (Oa:Int) (Qb:Option Addr) (Gb:Nat) (za:List Yd) (yA:Option Addr) (Xz:Nat) (Hp:List Int) (Px:Int) (Ox:Int) (Nx:Int) (ML:Option Addr) (XK:Nat) (SE:List Yd) (r:Bool) (w:World) (od:Kd.C (Kd.int .i64) w Bb Ma.length Ma) (Nd:Ma.length ≤ Ab) (ze:Kd.C Jl w Qb za.length za) (Ve:za.length ≤ Gb) (OC:Kd.C (Kd.int .i64) w yA Hp.length Hp) (LH:Hp.length ≤ Xz) (aM:Kd.C Jl w ML SE.length SE) (LS:SE.length ≤ XK) (h:zg.f k Ma Pa Qa Oa za Hp Px Ox Nx SE=some r) :
  Calls Try.prog 29 #[.agg #[.slice Bb Ma.length Ab,.int .i64 Pa,.int .i64 Qa,.int .i64 Oa,.slice Qb za.length Gb],.agg #[.slice yA Hp.length Xz,.int .i64 Px,.int .i64 Ox,.int .i64 Nx,.slice ML SE.length XK]] w fun e w'=>e = .returned (.bool r)∧Below w.heap.size w w':=by
 unfold zg.f at h
 by_cases hq:Ma=Hp∧Pa=Px∧Qa=Ox∧Oa=Nx∧za=SE
 case neg=>rw [if_neg hq] at h;cases h
 rw [if_pos hq] at h;cases h;obtain ⟨rfl,rfl,rfl,rfl,rfl⟩:=hq;obtain ⟨W1,hW,hb,hx,hy⟩:=dm w (.cells #[.slice Bb Ma.length Ab,.int .i64 Pa,.int .i64 Qa,.int .i64 Oa,.slice Qb za.length Gb] 45 (0,0)) (.cells #[.slice yA Ma.length Xz,.int .i64 Pa,.int .i64 Qa,.int .i64 Oa,.slice ML za.length XK] 45 (0,0));obtain ⟨ko,wS⟩:=Ev.rounds (qF Ma od.2.1);have HC:=aa.mk (ke.calls ko Bb Ab Ma yA Xz Ma true W1 (Kd.yb od hb) Nd (Kd.yb OC hb) LH wS);have HD:=aa.mk (fun (w2:World) (h2:Below W1.heap.size W1 w2)=>Zv Qb ML Gb XK za w2 (Kd.yb ze (Fa hb h2)) Ve (Kd.yb aM (Fa hb h2)) LS);have HW:=aa.mk hW;have HB:=aa.mk hb;have HX:=aa.mk hx;have HY:=aa.mk hy;obtain ⟨a0,-,-,-,-⟩:=Cg hx;obtain ⟨b0,-,-,-,-⟩:=Cg hy;clear hW hb hx hy od ze OC aM wS;go_enter Try.func29,Try.ntmps29
 go_upto_region 1 with (fail)
 rw [← HW.out];clear HW
 go_upto_region 3 with (first|(go_at_call 17;(with_reducible refine HC.out.mono ?_);rintro e w2 ⟨rfl,hd⟩;have hb:=hd.below;have Yi:=aa.mk (Fa HB.out hb);have bC:=aa.mk (Ua HX.out hb);have B5:=aa.mk (Ua HY.out hb);have HD2:=aa.mk (HD.out w2 hb);clear hb hd a0 b0))
 obtain ⟨-,a1,a2,a3,a4⟩:=Cg bC.out;obtain ⟨-,b1,b2,b3,b4⟩:=Cg B5.out;go_wp2_with (first|(go_at_call 80;(with_reducible refine HD2.out.mono ?_);rintro e w3 ⟨rfl,hb⟩;have xp:=aa.mk (Fa Yi.out hb);clear hb));go_ret;exact ⟨rfl,xp.out⟩
theorem CB (x0:List Int) (x1 x2 x3:Int) (x4:List Yd) (h0:x0.length ≤ 9223372036854775807) (hl:x4.length ≤ 9223372036854775807) (hb:∀ x ∈ x4,x.f0.length ≤ 9223372036854775807):Ev (fun k=>zg.f k x0 x1 x2 x3 x4 x0 x1 x2 x3 x4) true:=by
 refine ⟨0,fun k _=>?_⟩;unfold zg.f;rw [if_pos ⟨rfl,rfl,rfl,rfl,rfl⟩]
attribute [local go_sem] Hg Fg Nh Mh cg bg Gg Eg
def Wb.l0:Nat→Int→ByteArray→Option (ByteArray)
 | 0,_,_=>none
 | k + 1,x0,x3=>if x0 > 0 then ((some (([(wrap64 (48 + (Int.tmod x0 10))) % 256]:List Int):List Int)).bind fun ue=>(if (strOfNums ue).size + x3.size ≤ 9223372036854775807 then (Wb.l0 k (wrap64 (Int.tdiv x0 10)) ((strOfNums ue) ++ x3)) else (none))) else (if 1 + x3.size ≤ 9223372036854775807 then (some ((⟨#[109]⟩:ByteArray) ++ x3)) else (none))
def Wb.f (k:Nat) (a0:Int):Option (ByteArray):=if a0 ≤ 0 then (some (⟨#[109,48]⟩:ByteArray)) else (Wb.l0 k a0 (⟨#[]⟩:ByteArray))
theorem Wb.calls (k:Nat) (a0:Int) (r:ByteArray) (w:World) (h:Wb.f k a0=some r) :
  Calls Try.prog 127 #[.int .i64 a0] w fun e w'=>e = .returned (.string r)∧Below w.heap.size w w':=by
 have HB:=aa.mk (Below.refl w.heap.size w);have H:(if a0 ≤ 0 then (some (⟨#[109,48]⟩:ByteArray)) else (Wb.l0 k a0 (⟨#[]⟩:ByteArray)))=some r:=h;clear h
 by_cases c2:a0 ≤ 0
 ·rw [if_pos c2] at H;have Jm:decide (a0 ≤ 0)=true:=decide_eq_true c2;clear c2;obtain rfl:=Option.some.inj H;go_enter Try.func127,Try.ntmps127;go_wp2;go_ret;exact ⟨eaf,caf⟩
 ·rw [if_neg c2] at H;have Jm:decide (a0 ≤ 0)=false:=decide_eq_false c2;clear c2;have H':=aa.mk H;clear H;go_enter Try.func127,Try.ntmps127;go_wp2
  go_loopg [0,3] k (fun kq v0 v3 w'=>∃ (Ec:Int) (jc:ByteArray),v0 = .int .i64 Ec∧v3 = .string jc∧aa (Wb.l0 kq Ec jc=some r)∧aa (kq ≤ k)∧aa (Below w.heap.size w w'))
  case atStart=>exact ⟨(a0),((⟨#[]⟩:ByteArray)),daf,daf,H',⟨Nat.le_refl _⟩,⟨caf⟩⟩
  case round =>
   clear H'
   try clear c1
   try clear c2
   try clear Jm
   try clear p2
   (try clear HA);(try clear Gf);(try clear HB);obtain ⟨Ec,jc,rfl,rfl,HA,Gf,HB⟩:=hrel;cases gk with
   | zero=>exact absurd HA.out (by simp [Wb.l0])
   | succ k1 =>
    have H:=HA.out;clear HA;simp only [Wb.l0] at H
    by_cases c3:Ec > 0
    ·rw [if_pos c3] at H;have Yg:decide (0 < Ec)=true:=decide_eq_true c3;clear c3;obtain ⟨ue,ye⟩:∃ y_:List Int,y_=(([(wrap64 (48 + (Int.tmod Ec 10))) % 256]:List Int)):=⟨_,rfl⟩;replace H:(if (strOfNums ue).size + jc.size ≤ 9223372036854775807 then (Wb.l0 k1 (wrap64 (Int.tdiv Ec 10)) ((strOfNums ue) ++ jc)) else (none))=some r:=by first|(rw [ye];with_reducible exact H)|(have Mc:=(Option.bind_some _ _).symm.trans H;rw [ye];with_reducible exact Mc)|(have Mc:=(Option.bind_some _ _).symm.trans H;with_reducible exact Mc)|with_reducible exact H|(rw [ye];exact H)|exact H
     have ki:=aa.mk ye;clear ye
     by_cases c4:(strOfNums ue).size + jc.size ≤ 9223372036854775807
     ·rw [if_pos c4] at H;have Yk:=eq_true c4;have Gac:decide ((strOfNums ue).size + jc.size ≤ 9223372036854775807)=true:=decide_eq_true c4
      try have Fac:(9223372036854775807 < (strOfNums ue).size + jc.size)=False:=eq_false (Nat.not_lt.2 c4)
      have H':=aa.mk H;clear H;go_wp2_with (first|((with_reducible refine Lb (N:=12) rfl ?_);refine Kd.jk (Kd.int .u8) _ 5 ?hg (N:=12) ?hd (xs:=([(wrap64 (48 + (Int.tmod Ec 10))) % 256]:List Int)) (inner:=[.int .u8 ((wrap64 (48 + (Int.tmod Ec 10))) % 256)]) (ok:=fun _=>True) (Ag:=fun _=>True) ?hr ?hp (fun _ hk=>hk) trivial (Below.refl _ _) (Nat.le_refl _) (by simp) ?_;(case hd|hg=>rfl);(case hr=>exact Vae);(case hp=>exact (Fc.one (show Kd.M (Kd.int .u8) _ _ _ ((wrap64 (48 + (Int.tmod Ec 10))) % 256) [.int .u8 ((wrap64 (48 + (Int.tmod Ec 10))) % 256)] from rfl) (Fc.none _ _)));intro yy w5 ez hb Hl Je;clear Hl Je;(first|rw [← ki.out] at ez|(simp only [Int.reduceToNat] at ez;rw [← ki.out] at ez));have Kb:=aa.mk (Kd.Xc ez (Ra Yae));have Ob:=aa.mk (Fa Yae hb);clear HB;have Xl:=Kb;have HB:=Ob;clear Kb Ob hb ez;have Tab:=fB (P:=Try.prog) Try.underlying148 Try.underlying5 Try.underlying9 (Kd.cq Xl.out)))
      go_roundg k1
      case measure=>have:=Gf.out;omega
      case rel=>exact ⟨(wrap64 (Int.tdiv Ec 10)),((strOfNums ue) ++ jc),daf,daf,H',⟨by have:=Gf.out;omega⟩,⟨caf⟩⟩
     ·rw [if_neg c4] at H;exact absurd H (by simp)
    ·rw [if_neg c3] at H;have Yg:decide (0 < Ec)=false:=decide_eq_false c3;clear c3
     by_cases c8:1 + jc.size ≤ 9223372036854775807
     ·rw [if_pos c8] at H;have jQ:=eq_true c8;have Eac:decide (1 + jc.size ≤ 9223372036854775807)=true:=decide_eq_true c8
      try have Dac:(9223372036854775807 < 1 + jc.size)=False:=eq_false (Nat.not_lt.2 c8)
      obtain rfl:=Option.some.inj H;go_wp2;go_ret;exact ⟨eaf,caf⟩
     ·rw [if_neg c8] at H;exact absurd H (by simp)
def Pb.l0:Nat→List (Zb)→Int→Int→Option (Int × (List (Zb)))
 | 0,_,_,_=>none
 | k + 1,x0,x1,x5=>if x5 < (x0.length:Int) then (if 0 ≤ x5 then ((some (x0.set (x5:Int).toNat (⟨x1,(oa x0 x5).f1,(oa x0 x5).f2,(oa x0 x5).f3,(oa x0 x5).f4,(oa x0 x5).f5,(oa x0 x5).f6⟩:Zb):List (Zb))).bind fun ue=>((some (ue.set (x5:Int).toNat (⟨(oa ue x5).f0,wrap64 (x1 + 1),(oa ue x5).f2,(oa ue x5).f3,(oa ue x5).f4,(oa ue x5).f5,(oa ue x5).f6⟩:Zb):List (Zb))).bind fun Dd=>((some (Dd.set (x5:Int).toNat (⟨(oa Dd x5).f0,(oa Dd x5).f1,wrap64 ((wrap64 (x1 + 1)) + 1),(oa Dd x5).f3,(oa Dd x5).f4,(oa Dd x5).f5,(oa Dd x5).f6⟩:Zb):List (Zb))).bind fun Qe=>((some (Qe.set (x5:Int).toNat (⟨(oa Qe x5).f0,(oa Qe x5).f1,(oa Qe x5).f2,wrap64 ((wrap64 ((wrap64 (x1 + 1)) + 1)) + 1),(oa Qe x5).f4,(oa Qe x5).f5,(oa Qe x5).f6⟩:Zb):List (Zb))).bind fun qe=>((some (qe.set (x5:Int).toNat (⟨(oa qe x5).f0,(oa qe x5).f1,(oa qe x5).f2,(oa qe x5).f3,wrap64 ((wrap64 ((wrap64 ((wrap64 (x1 + 1)) + 1)) + 1)) + 1),(oa qe x5).f5,(oa qe x5).f6⟩:Zb):List (Zb))).bind fun Yc=>((some (Yc.set (x5:Int).toNat (⟨(oa Yc x5).f0,(oa Yc x5).f1,(oa Yc x5).f2,(oa Yc x5).f3,(oa Yc x5).f4,wrap64 ((wrap64 ((wrap64 ((wrap64 ((wrap64 (x1 + 1)) + 1)) + 1)) + 1)) + 1),(oa Yc x5).f6⟩:Zb):List (Zb))).bind fun Md=>((Wb.f k (wrap64 ((wrap64 ((wrap64 ((wrap64 ((wrap64 ((wrap64 (x1 + 1)) + 1)) + 1)) + 1)) + 1)) + 1))).bind fun t107=>(Pb.l0 k (Md.set (x5:Int).toNat (⟨(oa Md x5).f0,(oa Md x5).f1,(oa Md x5).f2,(oa Md x5).f3,(oa Md x5).f4,(oa Md x5).f5,t107⟩:Zb)) (wrap64 ((wrap64 ((wrap64 ((wrap64 ((wrap64 ((wrap64 ((wrap64 (x1 + 1)) + 1)) + 1)) + 1)) + 1)) + 1)) + 1)) (wrap64 (x5 + 1)))))))))) else (none)) else (some (x1,x0))
def Pb.f (k:Nat) (l0:List (Zb)) (a1:Int):Option (Int × (List (Zb))):=Pb.l0 k l0 a1 0
theorem Pb.calls (k:Nat) (nh:Nat→Prop) (Sd:Value) (l0:List (Zb)) (a1:Int) (r1:Int) (r2:List (Zb)) (w0 w:World) (hB:Below w0.heap.size w0 w) (uh:Kd.R fe 122 w w0.heap.size nh Sd l0) (h:Pb.f k l0 a1=some (r1,r2)) :
  Calls Try.prog 111 #[Sd,.int .i64 a1] w fun e w'=>e = .returned (.int .i64 r1)∧Kd.R fe 122 w' w0.heap.size (fun k_=>(nh k_ ∨ w.heap.size ≤ k_)) Sd r2∧Below w0.heap.size w0 w'∧Kept w w' (fun k_=>nh k_):=by
 have BR:=aa.mk (show Kd.R fe 122 w w0.heap.size (fun k_=>(nh k_ ∨ w.heap.size ≤ k_)) Sd l0 from Kd.Db uh (fun k_ hk=>(.inl hk)));have HK:=aa.mk (Kept.refl w (fun k_=>nh k_));have D5:=aa.mk hB.size;have HB:=aa.mk hB;clear hB;have H:(Pb.l0 k l0 a1 0)=some (r1,r2):=h;clear h;have H':=aa.mk H;clear H;go_enter Try.func111,Try.ntmps111;go_wp2
 go_loopg [1,5] k (fun kq v1 v5 w'=>∃ (Ec:List (Zb)) (ld:Int) (Ba:Int),v1 = .int .i64 ld∧v5 = .int .i64 Ba∧aa (Pb.l0 kq Ec ld Ba=some (r1,r2))∧aa (kq ≤ k)∧aa (Kd.R fe 122 w' w0.heap.size (fun k_=>(nh k_ ∨ w.heap.size ≤ k_)) Sd Ec)∧aa (Kept w w' (fun k_=>nh k_))∧aa (Below w0.heap.size w0 w'))
 case atStart=>exact ⟨(l0),(a1),(0),daf,daf,H',⟨Nat.le_refl _⟩,⟨by (with_reducible repeat (first|apply Kd.Ka|apply Kd.La|apply Kd.Sa));exact BR.out⟩,⟨saf⟩,⟨caf⟩⟩
 case round =>
  clear H'
  try clear c1
  try clear p2
  (try clear HA);(try clear Gf);(try clear ud);(try clear HK);(try clear HB);obtain ⟨Ec,ld,Ba,rfl,rfl,HA,Gf,ud,HK,HB⟩:=hrel;cases gk with
  | zero=>exact absurd HA.out (by simp [Pb.l0])
  | succ k1 =>
   have H:=HA.out;clear HA;simp only [Pb.l0] at H
   by_cases c3:Ba < (Ec.length:Int)
   ·rw [if_pos c3] at H;have Yg:decide (Ba < (Ec.length:Int))=true:=decide_eq_true c3;clear c3
    by_cases c4:0 ≤ Ba
    ·rw [if_pos c4] at H;have Yk:decide (0 ≤ Ba)=true:=decide_eq_true c4;clear c4;obtain ⟨ue,ye⟩:∃ y_:List (Zb),y_=(Ec.set (Ba:Int).toNat (⟨ld,(oa Ec Ba).f1,(oa Ec Ba).f2,(oa Ec Ba).f3,(oa Ec Ba).f4,(oa Ec Ba).f5,(oa Ec Ba).f6⟩:Zb)):=⟨_,rfl⟩;replace H:((some (ue.set (Ba:Int).toNat (⟨(oa ue Ba).f0,wrap64 (ld + 1),(oa ue Ba).f2,(oa ue Ba).f3,(oa ue Ba).f4,(oa ue Ba).f5,(oa ue Ba).f6⟩:Zb):List (Zb))).bind fun Dd=>((some (Dd.set (Ba:Int).toNat (⟨(oa Dd Ba).f0,(oa Dd Ba).f1,wrap64 ((wrap64 (ld + 1)) + 1),(oa Dd Ba).f3,(oa Dd Ba).f4,(oa Dd Ba).f5,(oa Dd Ba).f6⟩:Zb):List (Zb))).bind fun Qe=>((some (Qe.set (Ba:Int).toNat (⟨(oa Qe Ba).f0,(oa Qe Ba).f1,(oa Qe Ba).f2,wrap64 ((wrap64 ((wrap64 (ld + 1)) + 1)) + 1),(oa Qe Ba).f4,(oa Qe Ba).f5,(oa Qe Ba).f6⟩:Zb):List (Zb))).bind fun qe=>((some (qe.set (Ba:Int).toNat (⟨(oa qe Ba).f0,(oa qe Ba).f1,(oa qe Ba).f2,(oa qe Ba).f3,wrap64 ((wrap64 ((wrap64 ((wrap64 (ld + 1)) + 1)) + 1)) + 1),(oa qe Ba).f5,(oa qe Ba).f6⟩:Zb):List (Zb))).bind fun Yc=>((some (Yc.set (Ba:Int).toNat (⟨(oa Yc Ba).f0,(oa Yc Ba).f1,(oa Yc Ba).f2,(oa Yc Ba).f3,(oa Yc Ba).f4,wrap64 ((wrap64 ((wrap64 ((wrap64 ((wrap64 (ld + 1)) + 1)) + 1)) + 1)) + 1),(oa Yc Ba).f6⟩:Zb):List (Zb))).bind fun Md=>((Wb.f k1 (wrap64 ((wrap64 ((wrap64 ((wrap64 ((wrap64 ((wrap64 (ld + 1)) + 1)) + 1)) + 1)) + 1)) + 1))).bind fun t107=>(Pb.l0 k1 (Md.set (Ba:Int).toNat (⟨(oa Md Ba).f0,(oa Md Ba).f1,(oa Md Ba).f2,(oa Md Ba).f3,(oa Md Ba).f4,(oa Md Ba).f5,t107⟩:Zb)) (wrap64 ((wrap64 ((wrap64 ((wrap64 ((wrap64 ((wrap64 ((wrap64 (ld + 1)) + 1)) + 1)) + 1)) + 1)) + 1)) + 1)) (wrap64 (Ba + 1)))))))))=some (r1,r2):=by first|(rw [ye];with_reducible exact H)|(have Mc:=(Option.bind_some _ _).symm.trans H;rw [ye];with_reducible exact Mc)|(have Mc:=(Option.bind_some _ _).symm.trans H;with_reducible exact Mc)|with_reducible exact H|(rw [ye];exact H)|exact H
     have ki:=aa.mk ye;clear ye;obtain ⟨Dd,Ue⟩:∃ y_:List (Zb),y_=(ue.set (Ba:Int).toNat (⟨(oa ue Ba).f0,wrap64 (ld + 1),(oa ue Ba).f2,(oa ue Ba).f3,(oa ue Ba).f4,(oa ue Ba).f5,(oa ue Ba).f6⟩:Zb)):=⟨_,rfl⟩;replace H:((some (Dd.set (Ba:Int).toNat (⟨(oa Dd Ba).f0,(oa Dd Ba).f1,wrap64 ((wrap64 (ld + 1)) + 1),(oa Dd Ba).f3,(oa Dd Ba).f4,(oa Dd Ba).f5,(oa Dd Ba).f6⟩:Zb):List (Zb))).bind fun Qe=>((some (Qe.set (Ba:Int).toNat (⟨(oa Qe Ba).f0,(oa Qe Ba).f1,(oa Qe Ba).f2,wrap64 ((wrap64 ((wrap64 (ld + 1)) + 1)) + 1),(oa Qe Ba).f4,(oa Qe Ba).f5,(oa Qe Ba).f6⟩:Zb):List (Zb))).bind fun qe=>((some (qe.set (Ba:Int).toNat (⟨(oa qe Ba).f0,(oa qe Ba).f1,(oa qe Ba).f2,(oa qe Ba).f3,wrap64 ((wrap64 ((wrap64 ((wrap64 (ld + 1)) + 1)) + 1)) + 1),(oa qe Ba).f5,(oa qe Ba).f6⟩:Zb):List (Zb))).bind fun Yc=>((some (Yc.set (Ba:Int).toNat (⟨(oa Yc Ba).f0,(oa Yc Ba).f1,(oa Yc Ba).f2,(oa Yc Ba).f3,(oa Yc Ba).f4,wrap64 ((wrap64 ((wrap64 ((wrap64 ((wrap64 (ld + 1)) + 1)) + 1)) + 1)) + 1),(oa Yc Ba).f6⟩:Zb):List (Zb))).bind fun Md=>((Wb.f k1 (wrap64 ((wrap64 ((wrap64 ((wrap64 ((wrap64 ((wrap64 (ld + 1)) + 1)) + 1)) + 1)) + 1)) + 1))).bind fun t107=>(Pb.l0 k1 (Md.set (Ba:Int).toNat (⟨(oa Md Ba).f0,(oa Md Ba).f1,(oa Md Ba).f2,(oa Md Ba).f3,(oa Md Ba).f4,(oa Md Ba).f5,t107⟩:Zb)) (wrap64 ((wrap64 ((wrap64 ((wrap64 ((wrap64 ((wrap64 ((wrap64 (ld + 1)) + 1)) + 1)) + 1)) + 1)) + 1)) + 1)) (wrap64 (Ba + 1))))))))=some (r1,r2):=by first|(rw [Ue];with_reducible exact H)|(have Mc:=(Option.bind_some _ _).symm.trans H;rw [Ue];with_reducible exact Mc)|(have Mc:=(Option.bind_some _ _).symm.trans H;with_reducible exact Mc)|with_reducible exact H|(rw [Ue];exact H)|exact H
     have ji:=aa.mk Ue;clear Ue;obtain ⟨Qe,Tn⟩:∃ y_:List (Zb),y_=(Dd.set (Ba:Int).toNat (⟨(oa Dd Ba).f0,(oa Dd Ba).f1,wrap64 ((wrap64 (ld + 1)) + 1),(oa Dd Ba).f3,(oa Dd Ba).f4,(oa Dd Ba).f5,(oa Dd Ba).f6⟩:Zb)):=⟨_,rfl⟩;replace H:((some (Qe.set (Ba:Int).toNat (⟨(oa Qe Ba).f0,(oa Qe Ba).f1,(oa Qe Ba).f2,wrap64 ((wrap64 ((wrap64 (ld + 1)) + 1)) + 1),(oa Qe Ba).f4,(oa Qe Ba).f5,(oa Qe Ba).f6⟩:Zb):List (Zb))).bind fun qe=>((some (qe.set (Ba:Int).toNat (⟨(oa qe Ba).f0,(oa qe Ba).f1,(oa qe Ba).f2,(oa qe Ba).f3,wrap64 ((wrap64 ((wrap64 ((wrap64 (ld + 1)) + 1)) + 1)) + 1),(oa qe Ba).f5,(oa qe Ba).f6⟩:Zb):List (Zb))).bind fun Yc=>((some (Yc.set (Ba:Int).toNat (⟨(oa Yc Ba).f0,(oa Yc Ba).f1,(oa Yc Ba).f2,(oa Yc Ba).f3,(oa Yc Ba).f4,wrap64 ((wrap64 ((wrap64 ((wrap64 ((wrap64 (ld + 1)) + 1)) + 1)) + 1)) + 1),(oa Yc Ba).f6⟩:Zb):List (Zb))).bind fun Md=>((Wb.f k1 (wrap64 ((wrap64 ((wrap64 ((wrap64 ((wrap64 ((wrap64 (ld + 1)) + 1)) + 1)) + 1)) + 1)) + 1))).bind fun t107=>(Pb.l0 k1 (Md.set (Ba:Int).toNat (⟨(oa Md Ba).f0,(oa Md Ba).f1,(oa Md Ba).f2,(oa Md Ba).f3,(oa Md Ba).f4,(oa Md Ba).f5,t107⟩:Zb)) (wrap64 ((wrap64 ((wrap64 ((wrap64 ((wrap64 ((wrap64 ((wrap64 (ld + 1)) + 1)) + 1)) + 1)) + 1)) + 1)) + 1)) (wrap64 (Ba + 1)))))))=some (r1,r2):=by first|(rw [Tn];with_reducible exact H)|(have Mc:=(Option.bind_some _ _).symm.trans H;rw [Tn];with_reducible exact Mc)|(have Mc:=(Option.bind_some _ _).symm.trans H;with_reducible exact Mc)|with_reducible exact H|(rw [Tn];exact H)|exact H
     have WI:=aa.mk Tn;clear Tn;obtain ⟨qe,Ij⟩:∃ y_:List (Zb),y_=(Qe.set (Ba:Int).toNat (⟨(oa Qe Ba).f0,(oa Qe Ba).f1,(oa Qe Ba).f2,wrap64 ((wrap64 ((wrap64 (ld + 1)) + 1)) + 1),(oa Qe Ba).f4,(oa Qe Ba).f5,(oa Qe Ba).f6⟩:Zb)):=⟨_,rfl⟩;replace H:((some (qe.set (Ba:Int).toNat (⟨(oa qe Ba).f0,(oa qe Ba).f1,(oa qe Ba).f2,(oa qe Ba).f3,wrap64 ((wrap64 ((wrap64 ((wrap64 (ld + 1)) + 1)) + 1)) + 1),(oa qe Ba).f5,(oa qe Ba).f6⟩:Zb):List (Zb))).bind fun Yc=>((some (Yc.set (Ba:Int).toNat (⟨(oa Yc Ba).f0,(oa Yc Ba).f1,(oa Yc Ba).f2,(oa Yc Ba).f3,(oa Yc Ba).f4,wrap64 ((wrap64 ((wrap64 ((wrap64 ((wrap64 (ld + 1)) + 1)) + 1)) + 1)) + 1),(oa Yc Ba).f6⟩:Zb):List (Zb))).bind fun Md=>((Wb.f k1 (wrap64 ((wrap64 ((wrap64 ((wrap64 ((wrap64 ((wrap64 (ld + 1)) + 1)) + 1)) + 1)) + 1)) + 1))).bind fun t107=>(Pb.l0 k1 (Md.set (Ba:Int).toNat (⟨(oa Md Ba).f0,(oa Md Ba).f1,(oa Md Ba).f2,(oa Md Ba).f3,(oa Md Ba).f4,(oa Md Ba).f5,t107⟩:Zb)) (wrap64 ((wrap64 ((wrap64 ((wrap64 ((wrap64 ((wrap64 ((wrap64 (ld + 1)) + 1)) + 1)) + 1)) + 1)) + 1)) + 1)) (wrap64 (Ba + 1))))))=some (r1,r2):=by first|(rw [Ij];with_reducible exact H)|(have Mc:=(Option.bind_some _ _).symm.trans H;rw [Ij];with_reducible exact Mc)|(have Mc:=(Option.bind_some _ _).symm.trans H;with_reducible exact Mc)|with_reducible exact H|(rw [Ij];exact H)|exact H
     have oA:=aa.mk Ij;clear Ij;obtain ⟨Yc,Ff⟩:∃ y_:List (Zb),y_=(qe.set (Ba:Int).toNat (⟨(oa qe Ba).f0,(oa qe Ba).f1,(oa qe Ba).f2,(oa qe Ba).f3,wrap64 ((wrap64 ((wrap64 ((wrap64 (ld + 1)) + 1)) + 1)) + 1),(oa qe Ba).f5,(oa qe Ba).f6⟩:Zb)):=⟨_,rfl⟩;replace H:((some (Yc.set (Ba:Int).toNat (⟨(oa Yc Ba).f0,(oa Yc Ba).f1,(oa Yc Ba).f2,(oa Yc Ba).f3,(oa Yc Ba).f4,wrap64 ((wrap64 ((wrap64 ((wrap64 ((wrap64 (ld + 1)) + 1)) + 1)) + 1)) + 1),(oa Yc Ba).f6⟩:Zb):List (Zb))).bind fun Md=>((Wb.f k1 (wrap64 ((wrap64 ((wrap64 ((wrap64 ((wrap64 ((wrap64 (ld + 1)) + 1)) + 1)) + 1)) + 1)) + 1))).bind fun t107=>(Pb.l0 k1 (Md.set (Ba:Int).toNat (⟨(oa Md Ba).f0,(oa Md Ba).f1,(oa Md Ba).f2,(oa Md Ba).f3,(oa Md Ba).f4,(oa Md Ba).f5,t107⟩:Zb)) (wrap64 ((wrap64 ((wrap64 ((wrap64 ((wrap64 ((wrap64 ((wrap64 (ld + 1)) + 1)) + 1)) + 1)) + 1)) + 1)) + 1)) (wrap64 (Ba + 1)))))=some (r1,r2):=by first|(rw [Ff];with_reducible exact H)|(have Mc:=(Option.bind_some _ _).symm.trans H;rw [Ff];with_reducible exact Mc)|(have Mc:=(Option.bind_some _ _).symm.trans H;with_reducible exact Mc)|with_reducible exact H|(rw [Ff];exact H)|exact H
     have zl:=aa.mk Ff;clear Ff;obtain ⟨Md,dz⟩:∃ y_:List (Zb),y_=(Yc.set (Ba:Int).toNat (⟨(oa Yc Ba).f0,(oa Yc Ba).f1,(oa Yc Ba).f2,(oa Yc Ba).f3,(oa Yc Ba).f4,wrap64 ((wrap64 ((wrap64 ((wrap64 ((wrap64 (ld + 1)) + 1)) + 1)) + 1)) + 1),(oa Yc Ba).f6⟩:Zb)):=⟨_,rfl⟩;replace H:((Wb.f k1 (wrap64 ((wrap64 ((wrap64 ((wrap64 ((wrap64 ((wrap64 (ld + 1)) + 1)) + 1)) + 1)) + 1)) + 1))).bind fun t107=>(Pb.l0 k1 (Md.set (Ba:Int).toNat (⟨(oa Md Ba).f0,(oa Md Ba).f1,(oa Md Ba).f2,(oa Md Ba).f3,(oa Md Ba).f4,(oa Md Ba).f5,t107⟩:Zb)) (wrap64 ((wrap64 ((wrap64 ((wrap64 ((wrap64 ((wrap64 ((wrap64 (ld + 1)) + 1)) + 1)) + 1)) + 1)) + 1)) + 1)) (wrap64 (Ba + 1))))=some (r1,r2):=by first|(rw [dz];with_reducible exact H)|(have Mc:=(Option.bind_some _ _).symm.trans H;rw [dz];with_reducible exact Mc)|(have Mc:=(Option.bind_some _ _).symm.trans H;with_reducible exact Mc)|with_reducible exact H|(rw [dz];exact H)|exact H
     have zU:=aa.mk dz;clear dz;replace H:=Option.bind_eq_some_iff.mp H;obtain ⟨t107,ZV,H⟩:=H
     try dsimp only at H
     have A11:=aa.mk ZV;clear ZV;obtain ⟨sy,Hj⟩:∃ y_:List (Zb),y_=(Md.set (Ba:Int).toNat (⟨(oa Md Ba).f0,(oa Md Ba).f1,(oa Md Ba).f2,(oa Md Ba).f3,(oa Md Ba).f4,(oa Md Ba).f5,t107⟩:Zb)):=⟨_,rfl⟩;replace H:(Pb.l0 k1 sy (wrap64 ((wrap64 ((wrap64 ((wrap64 ((wrap64 ((wrap64 ((wrap64 (ld + 1)) + 1)) + 1)) + 1)) + 1)) + 1)) + 1)) (wrap64 (Ba + 1)))=some (r1,r2):=by first|(rw [Hj];with_reducible exact H)|(have Mc:=(Option.bind_some _ _).symm.trans H;rw [Hj];with_reducible exact Mc)|(have Mc:=(Option.bind_some _ _).symm.trans H;with_reducible exact Mc)|with_reducible exact H|(rw [Hj];exact H)|exact H
     have vv:=aa.mk Hj;clear Hj;have H':=aa.mk H;clear H;obtain ⟨Lad,Vq,E4⟩:=Kd.ic ud.out;subst E4;have p5:0 ≤ (Ba:Int):=Ia;have q5:(Ba:Int) < ((Ec.length:Int):Int):=Ia;obtain ⟨Ee,Q4,LP,aT,E3,cl5,vN⟩:=Kd.Uh ud.out (by omega);(first|cases LP|(injection LP with qi Dt Et;(first|subst qi|(injection qi with qi;subst qi));subst Et;clear Dt));have KL:=aa.mk aT;have GG5:=aa.mk vN;clear aT E3 vN;have pV:=aa.mk (show (nh Ee ∨ w.heap.size ≤ Ee) from (ud.out.1 _ rfl));obtain ⟨ce5,J2,o_,Cz,qz⟩:=Kd.wh ud.out Vh (Ba:Int) p5 q5;obtain rfl:=Ce o_;have bS:wr.cell? ⟨Ee,(Ba:Int).toNat * 7,none⟩=some (.int .i64 ((oa Ec Ba).f0)):=Cz 0 _ rfl;have j8:wr.cell? ⟨Ee,(Ba:Int).toNat * 7 + 1,none⟩=some (.int .i64 ((oa Ec Ba).f1)):=Cz 1 _ rfl;have e8:wr.cell? ⟨Ee,(Ba:Int).toNat * 7 + 2,none⟩=some (.int .i64 ((oa Ec Ba).f2)):=Cz 2 _ rfl;have Z7:wr.cell? ⟨Ee,(Ba:Int).toNat * 7 + 3,none⟩=some (.int .i64 ((oa Ec Ba).f3)):=Cz 3 _ rfl;have Y7:wr.cell? ⟨Ee,(Ba:Int).toNat * 7 + 4,none⟩=some (.int .i64 ((oa Ec Ba).f4)):=Cz 4 _ rfl;have X7:wr.cell? ⟨Ee,(Ba:Int).toNat * 7 + 5,none⟩=some (.int .i64 ((oa Ec Ba).f5)):=Cz 5 _ rfl;have W7:wr.cell? ⟨Ee,(Ba:Int).toNat * 7 + 6,none⟩=some (.string ((oa Ec Ba).f6)):=Cz 6 _ rfl;have BS:wr.frozen? ⟨Ee,(Ba:Int).toNat * 7,none⟩=false:=qz 0;have S9:wr.frozen? ⟨Ee,(Ba:Int).toNat * 7 + 1,none⟩=false:=qz 1;have R9:wr.frozen? ⟨Ee,(Ba:Int).toNat * 7 + 2,none⟩=false:=qz 2;have Q9:wr.frozen? ⟨Ee,(Ba:Int).toNat * 7 + 3,none⟩=false:=qz 3;have P9:wr.frozen? ⟨Ee,(Ba:Int).toNat * 7 + 4,none⟩=false:=qz 4;have O9:wr.frozen? ⟨Ee,(Ba:Int).toNat * 7 + 5,none⟩=false:=qz 5;have N9:wr.frozen? ⟨Ee,(Ba:Int).toNat * 7 + 6,none⟩=false:=qz 6;clear J2 Cz qz o_;replace p5:=eq_true p5;replace q5:=eq_true q5;have SU:=aa.mk (show Kd.R fe 122 wr w0.heap.size (fun k_=>(nh k_ ∨ w.heap.size ≤ k_)) (.slice (some ⟨Ee,0,none⟩) Ec.length Vq) Ec from taf);obtain ⟨Cac,wM,WS,KH,nM⟩:=Kd.wh SU.out Vh (Ba:Int) (Ia) (by have h_:(Ba:Int) < ((Ec.length:Int):Int):=Ia;first|exact h_|(have e_:=(Kd.Wa ud.out).1;omega)|simpa using h_);obtain rfl:=Ce WS;have fC:=Kd.gp SU.out (Ba:Int) (Ia) (by have h_:(Ba:Int) < ((Ec.length:Int):Int):=Ia;first|exact h_|(have e_:=(Kd.Wa ud.out).1;omega)|simpa using h_) (seg:=[.int .i64 ld]) (j:=0) wM KH (show 1 ≤ 7 from by decide) (x':=(⟨ld,(oa Ec Ba).f1,(oa Ec Ba).f2,(oa Ec Ba).f3,(oa Ec Ba).f4,(oa Ec Ba).f5,(oa Ec Ba).f6⟩:Zb)) (Ji _ _ _ (⟨ld,(oa Ec Ba).f1,(oa Ec Ba).f2,(oa Ec Ba).f3,(oa Ec Ba).f4,(oa Ec Ba).f5,(oa Ec Ba).f6⟩:Zb) ) (fun _ hk=>hk);have wO:=KH 0 _ rfl;(try simp only [show (fe).sz=7 from rfl,Nat.mul_one,Nat.add_zero] at wO);have kP:=nM 0;(try simp only [show (fe).sz=7 from rfl,Nat.mul_one,Nat.add_zero] at kP);clear wM KH nM WS;go_wp2_with (first|((with_reducible refine Od (t:=3) (p:=16) rfl ?_);refine Uc (t:=3) (p:=16) (v:=?GN) (w1:=(wr.setCell ⟨Ee,(Ba:Int).toNat * 7,none⟩ (.int .i64 ld))) ?hg ?ho ?hn ?hr ?_;(case ho=>rfl);(case hg=>rfl);(case hn=>rfl);(case hr=>exact Vae);intro Zl hw;have hg:wr.grownBy Zl (some Ee):=(by rw [hw];exact fC.2);have Si:Kd.R fe 122 Zl w0.heap.size (fun k_=>(nh k_ ∨ w.heap.size ≤ k_)) (.slice (some ⟨Ee,0,none⟩) Ec.length Vq) ue:=(by rw [hw,ki.out];exact fC.1);clear fC;have Kb:=aa.mk (Si);have Ob:=aa.mk ((by rw [hw];exact ya (HB.out) KL.out:Below w0.heap.size w0 Zl));have fc:=aa.mk (Kept.Te (S:=(fun k_=>nh k_)) hg laf (fun k_ e_=>(ud.out.1 k_ e_)));clear ud HB HK;have ud:=Kb;have HB:=Ob;have HK:=fc;clear Kb Ob fc hg hw Si;have p6:0 ≤ (Ba:Int):=Ia;have q6:(Ba:Int) < ((Ec.length:Int):Int):=Ia;obtain ⟨ce6,I2,l_,Bz,pz⟩:=Kd.wh ud.out Vh (Ba:Int) p6 q6;obtain rfl:=Ce l_;have ow:Zl.cell? ⟨Ee,(Ba:Int).toNat * 7,none⟩=some (.int .i64 ((oa ue Ba).f0)):=Bz 0 _ rfl;have V7:Zl.cell? ⟨Ee,(Ba:Int).toNat * 7 + 1,none⟩=some (.int .i64 ((oa ue Ba).f1)):=Bz 1 _ rfl;have U7:Zl.cell? ⟨Ee,(Ba:Int).toNat * 7 + 2,none⟩=some (.int .i64 ((oa ue Ba).f2)):=Bz 2 _ rfl;have T7:Zl.cell? ⟨Ee,(Ba:Int).toNat * 7 + 3,none⟩=some (.int .i64 ((oa ue Ba).f3)):=Bz 3 _ rfl;have R7:Zl.cell? ⟨Ee,(Ba:Int).toNat * 7 + 4,none⟩=some (.int .i64 ((oa ue Ba).f4)):=Bz 4 _ rfl;have Q7:Zl.cell? ⟨Ee,(Ba:Int).toNat * 7 + 5,none⟩=some (.int .i64 ((oa ue Ba).f5)):=Bz 5 _ rfl;have P7:Zl.cell? ⟨Ee,(Ba:Int).toNat * 7 + 6,none⟩=some (.string ((oa ue Ba).f6)):=Bz 6 _ rfl;have pH:Zl.frozen? ⟨Ee,(Ba:Int).toNat * 7,none⟩=false:=pz 0;have L9:Zl.frozen? ⟨Ee,(Ba:Int).toNat * 7 + 1,none⟩=false:=pz 1;have K9:Zl.frozen? ⟨Ee,(Ba:Int).toNat * 7 + 2,none⟩=false:=pz 2;have J9:Zl.frozen? ⟨Ee,(Ba:Int).toNat * 7 + 3,none⟩=false:=pz 3;have I9:Zl.frozen? ⟨Ee,(Ba:Int).toNat * 7 + 4,none⟩=false:=pz 4;have H9:Zl.frozen? ⟨Ee,(Ba:Int).toNat * 7 + 5,none⟩=false:=pz 5;have G9:Zl.frozen? ⟨Ee,(Ba:Int).toNat * 7 + 6,none⟩=false:=pz 6;clear I2 Bz pz l_;replace p6:=eq_true p6;replace q6:=eq_true q6;have RU:=aa.mk (show Kd.R fe 122 Zl w0.heap.size (fun k_=>(nh k_ ∨ w.heap.size ≤ k_)) (.slice (some ⟨Ee,0,none⟩) Ec.length Vq) ue from taf);obtain ⟨Bac,vM,VS,JH,mM⟩:=Kd.wh RU.out Vh (Ba:Int) (Ia) (by have h_:(Ba:Int) < ((Ec.length:Int):Int):=Ia;first|exact h_|(have e_:=(Kd.Wa ud.out).1;omega)|simpa using h_);obtain rfl:=Ce VS;have XQ:=Kd.gp RU.out (Ba:Int) (Ia) (by have h_:(Ba:Int) < ((Ec.length:Int):Int):=Ia;first|exact h_|(have e_:=(Kd.Wa ud.out).1;omega)|simpa using h_) (seg:=[.int .i64 (wrap64 (ld + 1))]) (j:=1) vM JH (show 2 ≤ 7 from by decide) (x':=(⟨(oa ue Ba).f0,wrap64 (ld + 1),(oa ue Ba).f2,(oa ue Ba).f3,(oa ue Ba).f4,(oa ue Ba).f5,(oa ue Ba).f6⟩:Zb)) (Ji _ _ _ (⟨(oa ue Ba).f0,wrap64 (ld + 1),(oa ue Ba).f2,(oa ue Ba).f3,(oa ue Ba).f4,(oa ue Ba).f5,(oa ue Ba).f6⟩:Zb) ) (fun _ hk=>hk);have vO:=JH 1 _ rfl;(try simp only [show (fe).sz=7 from rfl,Nat.mul_one,Nat.add_zero] at vO);have jP:=mM 1;(try simp only [show (fe).sz=7 from rfl,Nat.mul_one,Nat.add_zero] at jP);clear vM JH mM VS)|((with_reducible refine Od (t:=3) (p:=23) rfl ?_);refine Uc (t:=3) (p:=23) (v:=?bZ) (w1:=(Zl.setCell ⟨Ee,(Ba:Int).toNat * 7 + 1,none⟩ (.int .i64 (wrap64 (ld + 1))))) ?hg ?ho ?hn ?hr ?_;(case ho=>rfl);(case hg=>rfl);(case hn=>rfl);(case hr=>exact Vae);intro Zk hw;have hg:Zl.grownBy Zk (some Ee):=(by rw [hw];exact XQ.2);have Si:Kd.R fe 122 Zk w0.heap.size (fun k_=>(nh k_ ∨ w.heap.size ≤ k_)) (.slice (some ⟨Ee,0,none⟩) Ec.length Vq) Dd:=(by rw [hw,ji.out];exact XQ.1);clear XQ;have Kb:=aa.mk (Si);have Ob:=aa.mk ((by rw [hw];exact ya (HB.out) KL.out:Below w0.heap.size w0 Zk));have fc:=aa.mk (Kept.Te (S:=(fun k_=>nh k_)) hg laf (fun k_ e_=>(ud.out.1 k_ e_)));clear ud HB HK;have ud:=Kb;have HB:=Ob;have HK:=fc;clear Kb Ob fc hg hw Si;have p7:0 ≤ (Ba:Int):=Ia;have q7:(Ba:Int) < ((Ec.length:Int):Int):=Ia;obtain ⟨ce7,G2,i_,Az,oz⟩:=Kd.wh ud.out Vh (Ba:Int) p7 q7;obtain rfl:=Ce i_;have NG:Zk.cell? ⟨Ee,(Ba:Int).toNat * 7,none⟩=some (.int .i64 ((oa Dd Ba).f0)):=Az 0 _ rfl;have O7:Zk.cell? ⟨Ee,(Ba:Int).toNat * 7 + 1,none⟩=some (.int .i64 ((oa Dd Ba).f1)):=Az 1 _ rfl;have N7:Zk.cell? ⟨Ee,(Ba:Int).toNat * 7 + 2,none⟩=some (.int .i64 ((oa Dd Ba).f2)):=Az 2 _ rfl;have M7:Zk.cell? ⟨Ee,(Ba:Int).toNat * 7 + 3,none⟩=some (.int .i64 ((oa Dd Ba).f3)):=Az 3 _ rfl;have L7:Zk.cell? ⟨Ee,(Ba:Int).toNat * 7 + 4,none⟩=some (.int .i64 ((oa Dd Ba).f4)):=Az 4 _ rfl;have K7:Zk.cell? ⟨Ee,(Ba:Int).toNat * 7 + 5,none⟩=some (.int .i64 ((oa Dd Ba).f5)):=Az 5 _ rfl;have J7:Zk.cell? ⟨Ee,(Ba:Int).toNat * 7 + 6,none⟩=some (.string ((oa Dd Ba).f6)):=Az 6 _ rfl;have zS:Zk.frozen? ⟨Ee,(Ba:Int).toNat * 7,none⟩=false:=oz 0;have F9:Zk.frozen? ⟨Ee,(Ba:Int).toNat * 7 + 1,none⟩=false:=oz 1;have E9:Zk.frozen? ⟨Ee,(Ba:Int).toNat * 7 + 2,none⟩=false:=oz 2;have D9:Zk.frozen? ⟨Ee,(Ba:Int).toNat * 7 + 3,none⟩=false:=oz 3;have C9:Zk.frozen? ⟨Ee,(Ba:Int).toNat * 7 + 4,none⟩=false:=oz 4;have B9:Zk.frozen? ⟨Ee,(Ba:Int).toNat * 7 + 5,none⟩=false:=oz 5;have A9:Zk.frozen? ⟨Ee,(Ba:Int).toNat * 7 + 6,none⟩=false:=oz 6;clear G2 Az oz i_;replace p7:=eq_true p7;replace q7:=eq_true q7;have QU:=aa.mk (show Kd.R fe 122 Zk w0.heap.size (fun k_=>(nh k_ ∨ w.heap.size ≤ k_)) (.slice (some ⟨Ee,0,none⟩) Ec.length Vq) Dd from taf);obtain ⟨Aac,uM,US,GH,lM⟩:=Kd.wh QU.out Vh (Ba:Int) (Ia) (by have h_:(Ba:Int) < ((Ec.length:Int):Int):=Ia;first|exact h_|(have e_:=(Kd.Wa ud.out).1;omega)|simpa using h_);obtain rfl:=Ce US;have VQ:=Kd.gp QU.out (Ba:Int) (Ia) (by have h_:(Ba:Int) < ((Ec.length:Int):Int):=Ia;first|exact h_|(have e_:=(Kd.Wa ud.out).1;omega)|simpa using h_) (seg:=[.int .i64 (wrap64 ((wrap64 (ld + 1)) + 1))]) (j:=2) uM GH (show 3 ≤ 7 from by decide) (x':=(⟨(oa Dd Ba).f0,(oa Dd Ba).f1,wrap64 ((wrap64 (ld + 1)) + 1),(oa Dd Ba).f3,(oa Dd Ba).f4,(oa Dd Ba).f5,(oa Dd Ba).f6⟩:Zb)) (Ji _ _ _ (⟨(oa Dd Ba).f0,(oa Dd Ba).f1,wrap64 ((wrap64 (ld + 1)) + 1),(oa Dd Ba).f3,(oa Dd Ba).f4,(oa Dd Ba).f5,(oa Dd Ba).f6⟩:Zb) ) (fun _ hk=>hk);have uO:=GH 2 _ rfl;(try simp only [show (fe).sz=7 from rfl,Nat.mul_one,Nat.add_zero] at uO);have iP:=lM 2;(try simp only [show (fe).sz=7 from rfl,Nat.mul_one,Nat.add_zero] at iP);clear uM GH lM US)|((with_reducible refine Od (t:=3) (p:=30) rfl ?_);refine Uc (t:=3) (p:=30) (v:=?ZY) (w1:=(Zk.setCell ⟨Ee,(Ba:Int).toNat * 7 + 2,none⟩ (.int .i64 (wrap64 ((wrap64 (ld + 1)) + 1))))) ?hg ?ho ?hn ?hr ?_;(case ho=>rfl);(case hg=>rfl);(case hn=>rfl);(case hr=>exact Vae);intro jr hw;have hg:Zk.grownBy jr (some Ee):=(by rw [hw];exact VQ.2);have Si:Kd.R fe 122 jr w0.heap.size (fun k_=>(nh k_ ∨ w.heap.size ≤ k_)) (.slice (some ⟨Ee,0,none⟩) Ec.length Vq) Qe:=(by rw [hw,WI.out];exact VQ.1);clear VQ;have Kb:=aa.mk (Si);have Ob:=aa.mk ((by rw [hw];exact ya (HB.out) KL.out:Below w0.heap.size w0 jr));have fc:=aa.mk (Kept.Te (S:=(fun k_=>nh k_)) hg laf (fun k_ e_=>(ud.out.1 k_ e_)));clear ud HB HK;have ud:=Kb;have HB:=Ob;have HK:=fc;clear Kb Ob fc hg hw Si;have p8:0 ≤ (Ba:Int):=Ia;have q8:(Ba:Int) < ((Ec.length:Int):Int):=Ia;obtain ⟨ce8,F2,g_,zz,mz⟩:=Kd.wh ud.out Vh (Ba:Int) p8 q8;obtain rfl:=Ce g_;have WL:jr.cell? ⟨Ee,(Ba:Int).toNat * 7,none⟩=some (.int .i64 ((oa Qe Ba).f0)):=zz 0 _ rfl;have I7:jr.cell? ⟨Ee,(Ba:Int).toNat * 7 + 1,none⟩=some (.int .i64 ((oa Qe Ba).f1)):=zz 1 _ rfl;have H7:jr.cell? ⟨Ee,(Ba:Int).toNat * 7 + 2,none⟩=some (.int .i64 ((oa Qe Ba).f2)):=zz 2 _ rfl;have G7:jr.cell? ⟨Ee,(Ba:Int).toNat * 7 + 3,none⟩=some (.int .i64 ((oa Qe Ba).f3)):=zz 3 _ rfl;have F7:jr.cell? ⟨Ee,(Ba:Int).toNat * 7 + 4,none⟩=some (.int .i64 ((oa Qe Ba).f4)):=zz 4 _ rfl;have E7:jr.cell? ⟨Ee,(Ba:Int).toNat * 7 + 5,none⟩=some (.int .i64 ((oa Qe Ba).f5)):=zz 5 _ rfl;have D7:jr.cell? ⟨Ee,(Ba:Int).toNat * 7 + 6,none⟩=some (.string ((oa Qe Ba).f6)):=zz 6 _ rfl;have oM:jr.frozen? ⟨Ee,(Ba:Int).toNat * 7,none⟩=false:=mz 0;have y9:jr.frozen? ⟨Ee,(Ba:Int).toNat * 7 + 1,none⟩=false:=mz 1;have r9:jr.frozen? ⟨Ee,(Ba:Int).toNat * 7 + 2,none⟩=false:=mz 2;have o9:jr.frozen? ⟨Ee,(Ba:Int).toNat * 7 + 3,none⟩=false:=mz 3;have n9:jr.frozen? ⟨Ee,(Ba:Int).toNat * 7 + 4,none⟩=false:=mz 4;have l9:jr.frozen? ⟨Ee,(Ba:Int).toNat * 7 + 5,none⟩=false:=mz 5;have k9:jr.frozen? ⟨Ee,(Ba:Int).toNat * 7 + 6,none⟩=false:=mz 6;clear F2 zz mz g_;replace p8:=eq_true p8;replace q8:=eq_true q8;have PU:=aa.mk (show Kd.R fe 122 jr w0.heap.size (fun k_=>(nh k_ ∨ w.heap.size ≤ k_)) (.slice (some ⟨Ee,0,none⟩) Ec.length Vq) Qe from taf);obtain ⟨zac,sM,TS,FH,kM⟩:=Kd.wh PU.out Vh (Ba:Int) (Ia) (by have h_:(Ba:Int) < ((Ec.length:Int):Int):=Ia;first|exact h_|(have e_:=(Kd.Wa ud.out).1;omega)|simpa using h_);obtain rfl:=Ce TS;have UQ:=Kd.gp PU.out (Ba:Int) (Ia) (by have h_:(Ba:Int) < ((Ec.length:Int):Int):=Ia;first|exact h_|(have e_:=(Kd.Wa ud.out).1;omega)|simpa using h_) (seg:=[.int .i64 (wrap64 ((wrap64 ((wrap64 (ld + 1)) + 1)) + 1))]) (j:=3) sM FH (show 4 ≤ 7 from by decide) (x':=(⟨(oa Qe Ba).f0,(oa Qe Ba).f1,(oa Qe Ba).f2,wrap64 ((wrap64 ((wrap64 (ld + 1)) + 1)) + 1),(oa Qe Ba).f4,(oa Qe Ba).f5,(oa Qe Ba).f6⟩:Zb)) (Ji _ _ _ (⟨(oa Qe Ba).f0,(oa Qe Ba).f1,(oa Qe Ba).f2,wrap64 ((wrap64 ((wrap64 (ld + 1)) + 1)) + 1),(oa Qe Ba).f4,(oa Qe Ba).f5,(oa Qe Ba).f6⟩:Zb) ) (fun _ hk=>hk);have tO:=FH 3 _ rfl;(try simp only [show (fe).sz=7 from rfl,Nat.mul_one,Nat.add_zero] at tO);have gP:=kM 3;(try simp only [show (fe).sz=7 from rfl,Nat.mul_one,Nat.add_zero] at gP);clear sM FH kM TS)|((with_reducible refine Od (t:=3) (p:=37) rfl ?_);refine Uc (t:=3) (p:=37) (v:=?YY) (w1:=(jr.setCell ⟨Ee,(Ba:Int).toNat * 7 + 3,none⟩ (.int .i64 (wrap64 ((wrap64 ((wrap64 (ld + 1)) + 1)) + 1))))) ?hg ?ho ?hn ?hr ?_;(case ho=>rfl);(case hg=>rfl);(case hn=>rfl);(case hr=>exact Vae);intro Cv hw;have hg:jr.grownBy Cv (some Ee):=(by rw [hw];exact UQ.2);have Si:Kd.R fe 122 Cv w0.heap.size (fun k_=>(nh k_ ∨ w.heap.size ≤ k_)) (.slice (some ⟨Ee,0,none⟩) Ec.length Vq) qe:=(by rw [hw,oA.out];exact UQ.1);clear UQ;have Kb:=aa.mk (Si);have Ob:=aa.mk ((by rw [hw];exact ya (HB.out) KL.out:Below w0.heap.size w0 Cv));have fc:=aa.mk (Kept.Te (S:=(fun k_=>nh k_)) hg laf (fun k_ e_=>(ud.out.1 k_ e_)));clear ud HB HK;have ud:=Kb;have HB:=Ob;have HK:=fc;clear Kb Ob fc hg hw Si;have p9:0 ≤ (Ba:Int):=Ia;have q9:(Ba:Int) < ((Ec.length:Int):Int):=Ia;obtain ⟨ce9,E2,f_,yz,kz⟩:=Kd.wh ud.out Vh (Ba:Int) p9 q9;obtain rfl:=Ce f_;have MG:Cv.cell? ⟨Ee,(Ba:Int).toNat * 7,none⟩=some (.int .i64 ((oa qe Ba).f0)):=yz 0 _ rfl;have C7:Cv.cell? ⟨Ee,(Ba:Int).toNat * 7 + 1,none⟩=some (.int .i64 ((oa qe Ba).f1)):=yz 1 _ rfl;have B7:Cv.cell? ⟨Ee,(Ba:Int).toNat * 7 + 2,none⟩=some (.int .i64 ((oa qe Ba).f2)):=yz 2 _ rfl;have y7:Cv.cell? ⟨Ee,(Ba:Int).toNat * 7 + 3,none⟩=some (.int .i64 ((oa qe Ba).f3)):=yz 3 _ rfl;have o7:Cv.cell? ⟨Ee,(Ba:Int).toNat * 7 + 4,none⟩=some (.int .i64 ((oa qe Ba).f4)):=yz 4 _ rfl;have n7:Cv.cell? ⟨Ee,(Ba:Int).toNat * 7 + 5,none⟩=some (.int .i64 ((oa qe Ba).f5)):=yz 5 _ rfl;have l7:Cv.cell? ⟨Ee,(Ba:Int).toNat * 7 + 6,none⟩=some (.string ((oa qe Ba).f6)):=yz 6 _ rfl;have oH:Cv.frozen? ⟨Ee,(Ba:Int).toNat * 7,none⟩=false:=kz 0;have j9:Cv.frozen? ⟨Ee,(Ba:Int).toNat * 7 + 1,none⟩=false:=kz 1;have e9:Cv.frozen? ⟨Ee,(Ba:Int).toNat * 7 + 2,none⟩=false:=kz 2;have Z8:Cv.frozen? ⟨Ee,(Ba:Int).toNat * 7 + 3,none⟩=false:=kz 3;have Y8:Cv.frozen? ⟨Ee,(Ba:Int).toNat * 7 + 4,none⟩=false:=kz 4;have X8:Cv.frozen? ⟨Ee,(Ba:Int).toNat * 7 + 5,none⟩=false:=kz 5;have W8:Cv.frozen? ⟨Ee,(Ba:Int).toNat * 7 + 6,none⟩=false:=kz 6;clear E2 yz kz f_;replace p9:=eq_true p9;replace q9:=eq_true q9;have OU:=aa.mk (show Kd.R fe 122 Cv w0.heap.size (fun k_=>(nh k_ ∨ w.heap.size ≤ k_)) (.slice (some ⟨Ee,0,none⟩) Ec.length Vq) qe from taf);obtain ⟨yac,rM,SS,EH,jM⟩:=Kd.wh OU.out Vh (Ba:Int) (Ia) (by have h_:(Ba:Int) < ((Ec.length:Int):Int):=Ia;first|exact h_|(have e_:=(Kd.Wa ud.out).1;omega)|simpa using h_);obtain rfl:=Ce SS;have TQ:=Kd.gp OU.out (Ba:Int) (Ia) (by have h_:(Ba:Int) < ((Ec.length:Int):Int):=Ia;first|exact h_|(have e_:=(Kd.Wa ud.out).1;omega)|simpa using h_) (seg:=[.int .i64 (wrap64 ((wrap64 ((wrap64 ((wrap64 (ld + 1)) + 1)) + 1)) + 1))]) (j:=4) rM EH (show 5 ≤ 7 from by decide) (x':=(⟨(oa qe Ba).f0,(oa qe Ba).f1,(oa qe Ba).f2,(oa qe Ba).f3,wrap64 ((wrap64 ((wrap64 ((wrap64 (ld + 1)) + 1)) + 1)) + 1),(oa qe Ba).f5,(oa qe Ba).f6⟩:Zb)) (Ji _ _ _ (⟨(oa qe Ba).f0,(oa qe Ba).f1,(oa qe Ba).f2,(oa qe Ba).f3,wrap64 ((wrap64 ((wrap64 ((wrap64 (ld + 1)) + 1)) + 1)) + 1),(oa qe Ba).f5,(oa qe Ba).f6⟩:Zb) ) (fun _ hk=>hk);have sO:=EH 4 _ rfl;(try simp only [show (fe).sz=7 from rfl,Nat.mul_one,Nat.add_zero] at sO);have fP:=jM 4;(try simp only [show (fe).sz=7 from rfl,Nat.mul_one,Nat.add_zero] at fP);clear rM EH jM SS)|((with_reducible refine Od (t:=3) (p:=44) rfl ?_);refine Uc (t:=3) (p:=44) (v:=?XY) (w1:=(Cv.setCell ⟨Ee,(Ba:Int).toNat * 7 + 4,none⟩ (.int .i64 (wrap64 ((wrap64 ((wrap64 ((wrap64 (ld + 1)) + 1)) + 1)) + 1))))) ?hg ?ho ?hn ?hr ?_;(case ho=>rfl);(case hg=>rfl);(case hn=>rfl);(case hr=>exact Vae);intro gw hw;have hg:Cv.grownBy gw (some Ee):=(by rw [hw];exact TQ.2);have Si:Kd.R fe 122 gw w0.heap.size (fun k_=>(nh k_ ∨ w.heap.size ≤ k_)) (.slice (some ⟨Ee,0,none⟩) Ec.length Vq) Yc:=(by rw [hw,zl.out];exact TQ.1);clear TQ;have Kb:=aa.mk (Si);have Ob:=aa.mk ((by rw [hw];exact ya (HB.out) KL.out:Below w0.heap.size w0 gw));have fc:=aa.mk (Kept.Te (S:=(fun k_=>nh k_)) hg laf (fun k_ e_=>(ud.out.1 k_ e_)));clear ud HB HK;have ud:=Kb;have HB:=Ob;have HK:=fc;clear Kb Ob fc hg hw Si;have Qy:0 ≤ (Ba:Int):=Ia;have Oy:(Ba:Int) < ((Ec.length:Int):Int):=Ia;obtain ⟨uT,xz,Ez,Ah,zh⟩:=Kd.wh ud.out Vh (Ba:Int) Qy Oy;obtain rfl:=Ce Ez;have VG:gw.cell? ⟨Ee,(Ba:Int).toNat * 7,none⟩=some (.int .i64 ((oa Yc Ba).f0)):=Ah 0 _ rfl;have UG:gw.cell? ⟨Ee,(Ba:Int).toNat * 7 + 1,none⟩=some (.int .i64 ((oa Yc Ba).f1)):=Ah 1 _ rfl;have SG:gw.cell? ⟨Ee,(Ba:Int).toNat * 7 + 2,none⟩=some (.int .i64 ((oa Yc Ba).f2)):=Ah 2 _ rfl;have RG:gw.cell? ⟨Ee,(Ba:Int).toNat * 7 + 3,none⟩=some (.int .i64 ((oa Yc Ba).f3)):=Ah 3 _ rfl;have QG:gw.cell? ⟨Ee,(Ba:Int).toNat * 7 + 4,none⟩=some (.int .i64 ((oa Yc Ba).f4)):=Ah 4 _ rfl;have yO:gw.cell? ⟨Ee,(Ba:Int).toNat * 7 + 5,none⟩=some (.int .i64 ((oa Yc Ba).f5)):=Ah 5 _ rfl;have xO:gw.cell? ⟨Ee,(Ba:Int).toNat * 7 + 6,none⟩=some (.string ((oa Yc Ba).f6)):=Ah 6 _ rfl;have wH:gw.frozen? ⟨Ee,(Ba:Int).toNat * 7,none⟩=false:=zh 0;have vH:gw.frozen? ⟨Ee,(Ba:Int).toNat * 7 + 1,none⟩=false:=zh 1;have uH:gw.frozen? ⟨Ee,(Ba:Int).toNat * 7 + 2,none⟩=false:=zh 2;have tH:gw.frozen? ⟨Ee,(Ba:Int).toNat * 7 + 3,none⟩=false:=zh 3;have sH:gw.frozen? ⟨Ee,(Ba:Int).toNat * 7 + 4,none⟩=false:=zh 4;have mP:gw.frozen? ⟨Ee,(Ba:Int).toNat * 7 + 5,none⟩=false:=zh 5;have lP:gw.frozen? ⟨Ee,(Ba:Int).toNat * 7 + 6,none⟩=false:=zh 6;clear xz Ah zh Ez;replace Qy:=eq_true Qy;replace Oy:=eq_true Oy;have NU:=aa.mk (show Kd.R fe 122 gw w0.heap.size (fun k_=>(nh k_ ∨ w.heap.size ≤ k_)) (.slice (some ⟨Ee,0,none⟩) Ec.length Vq) Yc from taf);obtain ⟨xac,qM,RS,DH,iM⟩:=Kd.wh NU.out Vh (Ba:Int) (Ia) (by have h_:(Ba:Int) < ((Ec.length:Int):Int):=Ia;first|exact h_|(have e_:=(Kd.Wa ud.out).1;omega)|simpa using h_);obtain rfl:=Ce RS;have SQ:=Kd.gp NU.out (Ba:Int) (Ia) (by have h_:(Ba:Int) < ((Ec.length:Int):Int):=Ia;first|exact h_|(have e_:=(Kd.Wa ud.out).1;omega)|simpa using h_) (seg:=[.int .i64 (wrap64 ((wrap64 ((wrap64 ((wrap64 ((wrap64 (ld + 1)) + 1)) + 1)) + 1)) + 1))]) (j:=5) qM DH (show 6 ≤ 7 from by decide) (x':=(⟨(oa Yc Ba).f0,(oa Yc Ba).f1,(oa Yc Ba).f2,(oa Yc Ba).f3,(oa Yc Ba).f4,wrap64 ((wrap64 ((wrap64 ((wrap64 ((wrap64 (ld + 1)) + 1)) + 1)) + 1)) + 1),(oa Yc Ba).f6⟩:Zb)) (Ji _ _ _ (⟨(oa Yc Ba).f0,(oa Yc Ba).f1,(oa Yc Ba).f2,(oa Yc Ba).f3,(oa Yc Ba).f4,wrap64 ((wrap64 ((wrap64 ((wrap64 ((wrap64 (ld + 1)) + 1)) + 1)) + 1)) + 1),(oa Yc Ba).f6⟩:Zb) ) (fun _ hk=>hk);have rO:=DH 5 _ rfl;(try simp only [show (fe).sz=7 from rfl,Nat.mul_one,Nat.add_zero] at rO);have eP:=iM 5;(try simp only [show (fe).sz=7 from rfl,Nat.mul_one,Nat.add_zero] at eP);clear qM DH iM RS)|((with_reducible refine Od (t:=3) (p:=51) rfl ?_);refine Uc (t:=3) (p:=51) (v:=?WY) (w1:=(gw.setCell ⟨Ee,(Ba:Int).toNat * 7 + 5,none⟩ (.int .i64 (wrap64 ((wrap64 ((wrap64 ((wrap64 ((wrap64 (ld + 1)) + 1)) + 1)) + 1)) + 1))))) ?hg ?ho ?hn ?hr ?_;(case ho=>rfl);(case hg=>rfl);(case hn=>rfl);(case hr=>exact Vae);intro bW hw;have hg:gw.grownBy bW (some Ee):=(by rw [hw];exact SQ.2);have Si:Kd.R fe 122 bW w0.heap.size (fun k_=>(nh k_ ∨ w.heap.size ≤ k_)) (.slice (some ⟨Ee,0,none⟩) Ec.length Vq) Md:=(by rw [hw,zU.out];exact SQ.1);clear SQ;have Kb:=aa.mk (Si);have Ob:=aa.mk ((by rw [hw];exact ya (HB.out) KL.out:Below w0.heap.size w0 bW));have fc:=aa.mk (Kept.Te (S:=(fun k_=>nh k_)) hg laf (fun k_ e_=>(ud.out.1 k_ e_)));clear ud HB HK;have ud:=Kb;have HB:=Ob;have HK:=fc;clear Kb Ob fc hg hw Si)|((with_reducible refine Sb (f:=127) rfl ?_);refine Ke (some 57) rfl rfl Try.func127 (by kernel_rfl) rfl #[.int .i64 (wrap64 ((wrap64 ((wrap64 ((wrap64 ((wrap64 ((wrap64 (ld + 1)) + 1)) + 1)) + 1)) + 1)) + 1))] rfl baf ?_;(with_reducible refine (Wb.calls k1 (wrap64 ((wrap64 ((wrap64 ((wrap64 ((wrap64 ((wrap64 (ld + 1)) + 1)) + 1)) + 1)) + 1)) + 1)) t107 _ A11.out).mono ?_);rintro e ew ⟨rfl,hb⟩;refine ⟨_,rfl,?_⟩;have Kb:=aa.mk (Kd.Xb taf hb);have Ob:=aa.mk (Kept.below (S:=(fun k_=>nh k_)) laf hb);have fc:=aa.mk (Fa Yae hb);clear ud HK HB;have ud:=Kb;have HK:=Ob;have HB:=fc;clear Kb Ob fc;(try clear hb);(try clear Vk);(try clear hk);(try clear hi);have fW:0 ≤ (Ba:Int):=Ia;have eW:(Ba:Int) < ((Ec.length:Int):Int):=Ia;obtain ⟨rT,qw,Dz,gh,yh⟩:=Kd.wh ud.out Vh (Ba:Int) fW eW;obtain rfl:=Ce Dz;have Yw:ew.cell? ⟨Ee,(Ba:Int).toNat * 7,none⟩=some (.int .i64 ((oa Md Ba).f0)):=gh 0 _ rfl;have Xw:ew.cell? ⟨Ee,(Ba:Int).toNat * 7 + 1,none⟩=some (.int .i64 ((oa Md Ba).f1)):=gh 1 _ rfl;have Ww:ew.cell? ⟨Ee,(Ba:Int).toNat * 7 + 2,none⟩=some (.int .i64 ((oa Md Ba).f2)):=gh 2 _ rfl;have Vw:ew.cell? ⟨Ee,(Ba:Int).toNat * 7 + 3,none⟩=some (.int .i64 ((oa Md Ba).f3)):=gh 3 _ rfl;have Uw:ew.cell? ⟨Ee,(Ba:Int).toNat * 7 + 4,none⟩=some (.int .i64 ((oa Md Ba).f4)):=gh 4 _ rfl;have PG:ew.cell? ⟨Ee,(Ba:Int).toNat * 7 + 5,none⟩=some (.int .i64 ((oa Md Ba).f5)):=gh 5 _ rfl;have OG:ew.cell? ⟨Ee,(Ba:Int).toNat * 7 + 6,none⟩=some (.string ((oa Md Ba).f6)):=gh 6 _ rfl;have ox:ew.frozen? ⟨Ee,(Ba:Int).toNat * 7,none⟩=false:=yh 0;have jx:ew.frozen? ⟨Ee,(Ba:Int).toNat * 7 + 1,none⟩=false:=yh 1;have gx:ew.frozen? ⟨Ee,(Ba:Int).toNat * 7 + 2,none⟩=false:=yh 2;have dx:ew.frozen? ⟨Ee,(Ba:Int).toNat * 7 + 3,none⟩=false:=yh 3;have cx:ew.frozen? ⟨Ee,(Ba:Int).toNat * 7 + 4,none⟩=false:=yh 4;have rH:ew.frozen? ⟨Ee,(Ba:Int).toNat * 7 + 5,none⟩=false:=yh 5;have qH:ew.frozen? ⟨Ee,(Ba:Int).toNat * 7 + 6,none⟩=false:=yh 6;clear qw gh yh Dz;replace fW:=eq_true fW;replace eW:=eq_true eW;have MU:=aa.mk (show Kd.R fe 122 ew w0.heap.size (fun k_=>(nh k_ ∨ w.heap.size ≤ k_)) (.slice (some ⟨Ee,0,none⟩) Ec.length Vq) Md from taf);obtain ⟨wac,pM,QS,CH,gM⟩:=Kd.wh MU.out Vh (Ba:Int) (Ia) (by have h_:(Ba:Int) < ((Ec.length:Int):Int):=Ia;first|exact h_|(have e_:=(Kd.Wa ud.out).1;omega)|simpa using h_);obtain rfl:=Ce QS;have RQ:=Kd.gp MU.out (Ba:Int) (Ia) (by have h_:(Ba:Int) < ((Ec.length:Int):Int):=Ia;first|exact h_|(have e_:=(Kd.Wa ud.out).1;omega)|simpa using h_) (seg:=[.string t107]) (j:=6) pM CH (show 7 ≤ 7 from by decide) (x':=(⟨(oa Md Ba).f0,(oa Md Ba).f1,(oa Md Ba).f2,(oa Md Ba).f3,(oa Md Ba).f4,(oa Md Ba).f5,t107⟩:Zb)) (Ji _ _ _ (⟨(oa Md Ba).f0,(oa Md Ba).f1,(oa Md Ba).f2,(oa Md Ba).f3,(oa Md Ba).f4,(oa Md Ba).f5,t107⟩:Zb) ) (fun _ hk=>hk);have qO:=CH 6 _ rfl;(try simp only [show (fe).sz=7 from rfl,Nat.mul_one,Nat.add_zero] at qO);have dP:=gM 6;(try simp only [show (fe).sz=7 from rfl,Nat.mul_one,Nat.add_zero] at dP);clear pM CH gM QS)|((with_reducible refine Od (t:=9) (p:=59) rfl ?_);refine Uc (t:=9) (p:=59) (v:=?VY) (w1:=(ew.setCell ⟨Ee,(Ba:Int).toNat * 7 + 6,none⟩ (.string t107))) ?hg ?ho ?hn ?hr ?_;(case ho=>rfl);(case hg=>rfl);(case hn=>rfl);(case hr=>exact Vae);intro aW hw;have hg:ew.grownBy aW (some Ee):=(by rw [hw];exact RQ.2);have Si:Kd.R fe 122 aW w0.heap.size (fun k_=>(nh k_ ∨ w.heap.size ≤ k_)) (.slice (some ⟨Ee,0,none⟩) Ec.length Vq) sy:=(by rw [hw,vv.out];exact RQ.1);clear RQ;have Kb:=aa.mk (Si);have Ob:=aa.mk ((by rw [hw];exact ya (HB.out) KL.out:Below w0.heap.size w0 aW));have fc:=aa.mk (Kept.Te (S:=(fun k_=>nh k_)) hg laf (fun k_ e_=>(ud.out.1 k_ e_)));clear ud HB HK;have ud:=Kb;have HB:=Ob;have HK:=fc;clear Kb Ob fc hg hw Si))
     go_roundg k1
     case measure=>have:=Gf.out;omega
     case rel=>exact ⟨(sy),(wrap64 ((wrap64 ((wrap64 ((wrap64 ((wrap64 ((wrap64 ((wrap64 (ld + 1)) + 1)) + 1)) + 1)) + 1)) + 1)) + 1)),(wrap64 (Ba + 1)),daf,daf,H',⟨by have:=Gf.out;omega⟩,⟨Laf⟩,⟨saf⟩,⟨caf⟩⟩
    ·rw [if_neg c4] at H;exact absurd H (by simp)
   ·rw [if_neg c3] at H;have Yg:decide (Ba < (Ec.length:Int))=false:=decide_eq_false c3;clear c3;simp only [Option.some.injEq,Prod.mk.injEq] at H;obtain ⟨rfl,rfl⟩:=H;obtain ⟨Fad,lac,j4⟩:=Kd.ic ud.out;subst j4;go_wp2;go_ret;exact ⟨eaf,Laf,caf,saf⟩
def Rc.l0:Nat→List Int→Int→Int→Option (Int × List Int)
 | 0,_,_,_=>none
 | k + 1,x0,x1,x5=>if x5 < (x0.length:Int) then (if 0 ≤ x5 then (Rc.l0 k (x0.set (x5:Int).toNat x1) (wrap64 (x1 + 1)) (wrap64 (x5 + 1))) else (none)) else (some (x1,x0))
def Rc.f (k:Nat) (l0:List Int) (a1:Int):Option (Int × List Int):=Rc.l0 k l0 a1 0
theorem Rc.calls (k:Nat) (nh:Nat→Prop) (Sd:Value) (l0:List Int) (a1:Int) (r1:Int) (r2:List Int) (w0 w:World) (hB:Below w0.heap.size w0 w) (uh:Kd.R (Kd.int .i64) 3 w w0.heap.size nh Sd l0) (h:Rc.f k l0 a1=some (r1,r2)) :
  Calls Try.prog 20 #[Sd,.int .i64 a1] w fun e w'=>e = .returned (.int .i64 r1)∧Kd.R (Kd.int .i64) 3 w' w0.heap.size (fun k_=>(nh k_ ∨ w.heap.size ≤ k_)) Sd r2∧Below w0.heap.size w0 w'∧Kept w w' (fun k_=>nh k_):=by
 have BR:=aa.mk (show Kd.R (Kd.int .i64) 3 w w0.heap.size (fun k_=>(nh k_ ∨ w.heap.size ≤ k_)) Sd l0 from Kd.Db uh (fun k_ hk=>(.inl hk)));have HK:=aa.mk (Kept.refl w (fun k_=>nh k_));have D5:=aa.mk hB.size;have HB:=aa.mk hB;clear hB;have H:(Rc.l0 k l0 a1 0)=some (r1,r2):=h;clear h;have H':=aa.mk H;clear H;go_enter Try.func20,Try.ntmps20;go_wp2
 go_loopg [1,5] k (fun kq v1 v5 w'=>∃ (Ec:List Int) (ld:Int) (Ba:Int),v1 = .int .i64 ld∧v5 = .int .i64 Ba∧aa (Rc.l0 kq Ec ld Ba=some (r1,r2))∧aa (kq ≤ k)∧aa (Kd.R (Kd.int .i64) 3 w' w0.heap.size (fun k_=>(nh k_ ∨ w.heap.size ≤ k_)) Sd Ec)∧aa (Kept w w' (fun k_=>nh k_))∧aa (Below w0.heap.size w0 w'))
 case atStart=>exact ⟨(l0),(a1),(0),daf,daf,H',⟨Nat.le_refl _⟩,⟨by (with_reducible repeat (first|apply Kd.Ka|apply Kd.La|apply Kd.Sa));exact BR.out⟩,⟨saf⟩,⟨caf⟩⟩
 case round =>
  clear H'
  try clear c2
  try clear p2
  (try clear HA);(try clear Gf);(try clear ud);(try clear HK);(try clear HB);obtain ⟨Ec,ld,Ba,rfl,rfl,HA,Gf,ud,HK,HB⟩:=hrel;cases gk with
  | zero=>exact absurd HA.out (by simp [Rc.l0])
  | succ k1 =>
   have H:=HA.out;clear HA;simp only [Rc.l0] at H
   by_cases c3:Ba < (Ec.length:Int)
   ·rw [if_pos c3] at H;have Yg:decide (Ba < (Ec.length:Int))=true:=decide_eq_true c3;clear c3
    by_cases c4:0 ≤ Ba
    ·rw [if_pos c4] at H;have Yk:decide (0 ≤ Ba)=true:=decide_eq_true c4;clear c4;obtain ⟨ue,ye⟩:∃ y_:List Int,y_=(Ec.set (Ba:Int).toNat ld):=⟨_,rfl⟩;replace H:(Rc.l0 k1 ue (wrap64 (ld + 1)) (wrap64 (Ba + 1)))=some (r1,r2):=by first|(rw [ye];with_reducible exact H)|(have Mc:=(Option.bind_some _ _).symm.trans H;rw [ye];with_reducible exact Mc)|(have Mc:=(Option.bind_some _ _).symm.trans H;with_reducible exact Mc)|with_reducible exact H|(rw [ye];exact H)|exact H
     have ki:=aa.mk ye;clear ye;have H':=aa.mk H;clear H;obtain ⟨Ao6,Uq,dY⟩:=Kd.ic ud.out;subst dY;have p5:0 ≤ (Ba:Int):=Ia;have q5:(Ba:Int) < ((Ec.length:Int):Int):=Ia;obtain ⟨Ee,Q4,LP,aT,E3,cl5,vN⟩:=Kd.Uh ud.out (by omega);(first|cases LP|(injection LP with qi Dt Et;(first|subst qi|(injection qi with qi;subst qi));subst Et;clear Dt));have KL:=aa.mk aT;have GG5:=aa.mk vN;clear aT E3 vN;have pV:=aa.mk (show (nh Ee ∨ w.heap.size ≤ Ee) from (ud.out.1 _ rfl));obtain ⟨bS,BS⟩:=Kd.Yf 0 ud.out (Ba:Int) p5 q5;replace p5:=eq_true p5;replace q5:=eq_true q5;have M5:=Kd.kj ud.out (Ba:Int) ld;go_wp2_with (first|((with_reducible refine Od (t:=3) (p:=15) rfl ?_);refine Uc (t:=3) (p:=15) (v:=?N6) (w1:=(wr.setCell ⟨Ee,(Ba:Int).toNat,none⟩ (.int .i64 ld))) ?hg ?ho ?hn ?hr ?_;(case ho=>rfl);(case hg=>rfl);(case hn=>rfl);(case hr=>exact Vae);intro w8 hw;have hg:wr.grownBy w8 (some Ee):=(by rw [hw];exact M5.2);have Si:Kd.R (Kd.int .i64) 3 w8 w0.heap.size (fun k_=>(nh k_ ∨ w.heap.size ≤ k_)) (.slice (some ⟨Ee,0,none⟩) Ec.length Uq) ue:=(by rw [hw,ki.out];exact M5.1);clear M5;have Kb:=aa.mk (Si);have Ob:=aa.mk ((by rw [hw];exact ya (HB.out) KL.out:Below w0.heap.size w0 w8));have fc:=aa.mk (Kept.Te (S:=(fun k_=>nh k_)) hg laf (fun k_ e_=>(ud.out.1 k_ e_)));clear ud HB HK;have ud:=Kb;have HB:=Ob;have HK:=fc;clear Kb Ob fc hg hw Si))
     go_roundg k1
     case measure=>have:=Gf.out;omega
     case rel=>exact ⟨(ue),(wrap64 (ld + 1)),(wrap64 (Ba + 1)),daf,daf,H',⟨by have:=Gf.out;omega⟩,⟨Laf⟩,⟨saf⟩,⟨caf⟩⟩
    ·rw [if_neg c4] at H;exact absurd H (by simp)
   ·rw [if_neg c3] at H;have Yg:decide (Ba < (Ec.length:Int))=false:=decide_eq_false c3;clear c3;simp only [Option.some.injEq,Prod.mk.injEq] at H;obtain ⟨rfl,rfl⟩:=H;obtain ⟨Ao9,A_,cY⟩:=Kd.ic ud.out;subst cY;go_wp2;go_ret;exact ⟨eaf,Laf,caf,saf⟩
def Xd.f (k:Nat):List Yd→Int→Option (Int × List Yd)
 | [],a=>some (a,[])
 | x :: l,a=>(Pb.f k x.f0 a).bind fun t=>(Xd.f k l (wrap64 (wrap64 (wrap64 (wrap64 (t.1 + 1) + 1) + 1) + 1))).bind fun u=>some (u.1,⟨t.2,t.1,wrap64 (t.1 + 1),wrap64 (wrap64 (t.1 + 1) + 1),wrap64 (wrap64 (wrap64 (t.1 + 1) + 1) + 1)⟩ :: u.2)
theorem UJ {α:Type} {done l:List α} {j:Nat} (x y:α) (h:done.length=j):(done ++ x :: l).set j y=(done ++ [y]) ++ l:=by
 subst h;rw [List.set_append_right _ _ (Nat.le_refl _),Nat.sub_self,List.set_cons_zero,List.append_assoc]
 rfl
theorem Xd.calls (k:Nat) (nh:Nat→Prop) (Sd:Value) (l0:List Yd) (a1:Int) (r1:Int) (r2:List Yd) (w0 w:World) (hB:Below w0.heap.size w0 w) (uh:Kd.S Jl 83 w w0.heap.size nh Sd l0) (h:Xd.f k l0 a1=some (r1,r2)) :
  Calls Try.prog 84 #[Sd,.int .i64 a1] w fun e w'=>e = .returned (.int .i64 r1)∧Kd.S Jl 83 w' w0.heap.size (fun k_=>(nh k_ ∨ w.heap.size ≤ k_)) Sd r2∧Below w0.heap.size w0 w'∧Kept w w' (fun k_=>nh k_):=by
 obtain ⟨A,c,rfl,Us,hC⟩:=Kd.cL uh;have hm:=hC.2.1;have HS:=aa.mk (Kd.Rf uh (Wk:=fun k_=>nh k_ ∨ w.heap.size ≤ k_) (fun k_ hk=>.inl hk));have HB:=aa.mk hB;have HK:=aa.mk (Kept.refl w (fun k_=>nh k_));have HH:=aa.mk h;clear uh hC hB h;go_enter Try.func84,Try.ntmps84;go_wp2
 go_loopg [1,5] l0.length (fun gg v1 v5 wr=>∃ (j:Nat) (a:Int) (done rest:List Yd),j ≤ l0.length∧l0.length - j ≤ gg∧v1 = .int .i64 a∧v5 = .int .i64 j∧aa (done.length=j∧Xd.f k (l0.drop j) a=some (r1,rest)∧r2=done ++ rest)∧aa (Kd.S Jl 83 wr w0.heap.size (fun k_=>nh k_ ∨ w.heap.size ≤ k_) (.slice A l0.length c) (done ++ l0.drop j))∧aa (Below w0.heap.size w0 wr)∧aa (Kept w wr (fun k_=>nh k_)))
 case atStart=>exact ⟨0,a1,[],r2,Nat.zero_le _,by omega,rfl,rfl,⟨rfl,by simpa using HH.out,rfl⟩,⟨by simpa using HS.out⟩,HB,HK⟩
 case round =>
  clear HS HB HK HH;(try clear HD);(try clear HS);(try clear HB);(try clear HK);obtain ⟨j,a,done,rest,hj,hg,rfl,rfl,HD,HS,HB,HK⟩:=hrel
  by_cases hlt:j < l0.length
  ·have Xh:decide ((j:Int) < (l0.length:Int))=true:=decide_eq_true (by omega);obtain ⟨d1,d2,d3⟩:=HD.out;have uD:l0.drop j=l0[j] :: l0.drop (j + 1):=List.drop_eq_getElem_cons hlt;rw [uD] at d2;unfold Xd.f at d2;obtain ⟨⟨a2,Uz⟩,t1,d2⟩:=Option.bind_eq_some_iff.mp d2;obtain ⟨⟨r1',rest'⟩,u1,d2⟩:=Option.bind_eq_some_iff.mp d2
   obtain ⟨rfl,rfl⟩:r1' = r1∧(⟨Uz,a2,wrap64 (a2 + 1),wrap64 (wrap64 (a2 + 1) + 1),wrap64 (wrap64 (wrap64 (a2 + 1) + 1) + 1)⟩:Yd) :: rest' = rest:=by
    have:=Option.some.inj d2;exact ⟨congrArg Prod.fst this,congrArg Prod.snd this⟩
   have hlen:(done ++ l0.drop j).length=l0.length:=by rw [List.length_append,List.length_drop,d1];omega
   obtain ⟨g,cap,e1,hbg,Iab,cells,Vn⟩:=Kd.nv HS.out (by rw [hlen];omega);obtain rfl:A=some ⟨g,0,none⟩:=by injection e1
   clear e1;have mS:=(Kd.JJ HS.out).1 g rfl;obtain ⟨Bk,cs,hcs,hM,Ou,xM,bx,hH⟩:=Kd.Ds HS.out gy (j:Int) (by omega) (by omega)
   have hx:(done ++ l0.drop j).getD (Int.toNat (j:Int)) gy=l0[j]:=by
    rw [uD,Int.toNat_natCast,List.getD_eq_getElem?_getD,List.getElem?_append_right (by omega),d1];simp [List.getElem?_eq_getElem hlt]
   rw [hx] at hM;obtain ⟨v0,rfl,hR⟩:=Gr hM;obtain ⟨A5,c5,rfl⟩:=Kd.ic hR;have y0:=Ou 0 _ rfl;have DY:=aa.mk (Ou 1 _ rfl);have DR:=aa.mk (Ou 2 _ rfl);have xN:=aa.mk (Ou 3 _ rfl);have CY:=aa.mk (Ou 4 _ rfl);have HH:=aa.mk hH;have HR:=aa.mk hR;have HT:=aa.mk t1;have HU:=aa.mk u1;have fV:=aa.mk bx;have HG:=aa.mk mS;have HX:=aa.mk Vn;have HD:=aa.mk (And.intro d1 d3);have HDR:=aa.mk uD;simp only [Int.toNat_natCast,show Jl.sz=5 from rfl,Nat.add_zero] at y0 DY DR xN CY;clear hH hR Ou xM hM hx bx mS Vn t1 u1 d1 d2 d3 uD hcs;go_wp2_with (first|(go_at_call 111;(with_reducible refine (Pb.calls k Bk _ l0[j].f0 a a2 Uz w0 wr HB.out HR.out HT.out).mono ?_);rintro e w1 ⟨rfl,hr,hb,hk⟩;have cN:=aa.mk hr;have Sm:=aa.mk hb;have Gf:=aa.mk hk;have bM:¬ Bk g:=fun h=>(fV.out g h).2 rfl;have hblk:=jg HX.out hk bM;have z1:=Io DY.out hk bM;have z2:=Io DR.out hk bM;have z3:=Io xN.out hk bM;have z4:=Io CY.out hk bM;have z5:=Aa hblk (j * 5 + 1);have z6:=Aa hblk (j * 5 + 2);have z7:=Aa hblk (j * 5 + 3);have z8:=Aa hblk (j * 5 + 4);clear hr hb hk bM hblk));have R5:=aa.mk (Kd.yQ (Kd.fE HH.out) Gf.out (fun k_ _ hn hs=>hn (.inl hs)));obtain ⟨HS1,hgr⟩:=Kd.VM R5.out (by omega) (by omega) (seg:=[.int .i64 a2,.int .i64 (wrap64 (a2 + 1)),.int .i64 (wrap64 (wrap64 (a2 + 1) + 1)),.int .i64 (wrap64 (wrap64 (wrap64 (a2 + 1) + 1) + 1))]) (j:=1) (show 1 + 4 ≤ 5 from by decide) (by intro q hq;simp at hq;rcases hq with rfl|rfl|rfl|rfl <;> rfl)
   go_roundg (l0.length - (j + 1))
   case measure=>omega
   case rel =>
    have hle:w.heap.size ≤ wr.heap.size:=HK.out.1;have bM:∀ k_,(Bk k_ ∨ wr.heap.size ≤ k_)→k_ ≠ g:=fun k_ hk=>hk.elim (fun h=>(fV.out k_ h).2) (fun h=>by omega)
    have hin:=Kd.Zq cN.out hgr (fun k_ hk e=>bM k_ hk (by injection e));have hfin:=Kd.YI HS1 (x':=⟨Uz,a2,wrap64 (a2 + 1),wrap64 (wrap64 (a2 + 1) + 1),wrap64 (wrap64 (wrap64 (a2 + 1) + 1) + 1)⟩) (Pw _ _ _ _ hin) (fun k_ hk=>hk.elim .inl (fun h=>.inr ⟨.inr (by omega),h⟩))
    have ax:(done ++ l0.drop j).set (Int.toNat (j:Int)) (⟨Uz,a2,wrap64 (a2 + 1),wrap64 (wrap64 (a2 + 1) + 1),wrap64 (wrap64 (wrap64 (a2 + 1) + 1) + 1)⟩:Yd)=(done ++ [⟨Uz,a2,wrap64 (a2 + 1),wrap64 (wrap64 (a2 + 1) + 1),wrap64 (wrap64 (wrap64 (a2 + 1) + 1) + 1)⟩]) ++ l0.drop (j + 1):=by
     rw [HDR.out,Int.toNat_natCast];exact UJ _ _ HD.out.1
    rw [ax] at hfin;have hb4:=Sm.out.grown hgr Sm.out.size (fun k_ e=>by injection e with e;omega);have hk4:=Kept.Te hgr (HK.out.Ms Gf.out (fun k_ hk=>(fV.out k_ hk).1)) (fun k_ e=>by injection e with e;subst e;exact HG.out);exact ⟨j + 1,_,_,rest',by omega,by omega,rfl,by go_num,⟨by simp [HD.out.1],HU.out,by rw [HD.out.2];simp⟩,⟨hfin⟩,⟨hb4⟩,⟨hk4⟩⟩
  ·have Xh:decide ((j:Int) < (l0.length:Int))=false:=decide_eq_false (by omega);obtain rfl:j=l0.length:=by omega
   obtain ⟨d1,d2,d3⟩:=HD.out;rw [List.drop_length] at d2;unfold Xd.f at d2
   obtain ⟨rfl,rfl⟩:a=r1∧[]=rest:=by
    have:=Option.some.inj d2;exact ⟨congrArg Prod.fst this,congrArg Prod.snd this⟩
   have HD:=aa.mk d3;clear d1 d2 d3;go_wp2;go_ret;refine ⟨rfl,?_,HB.out,HK.out⟩;have:=HS.out;rw [List.drop_length] at this;rw [HD.out];exact this
def Ef.f (k:Nat) (Ma:List Int) (Pa:Int) (Qa:Int) (Oa:Int) (za:List Yd) (a1:Int):Option (Int × List Int × List Yd):=(Rc.f k Ma a1).bind fun t=>(Xd.f k za t.1).bind fun u=>some (u.1,t.2,u.2)
theorem Ef.calls (k:Nat) (mA:Nat→Prop) (Sd:Value) (Ma:List Int) (Pa:Int) (Qa:Int) (Oa:Int) (kA:Nat→Prop) (JA:Value) (za:List Yd) (a1:Int) (r1:Int) (r2:List Int) (r3:List Yd) (w0 w:World) (hB:Below w0.heap.size w0 w) (gH:Kd.R (Kd.int .i64) 3 w w0.heap.size mA Sd Ma) (fH:Kd.S Jl 83 w w0.heap.size kA JA za) (h:Ef.f k Ma Pa Qa Oa za a1=some (r1,r2,r3)) :
  Calls Try.prog 32 #[.agg #[Sd,.int .i64 Pa,.int .i64 Qa,.int .i64 Oa,JA],.int .i64 a1] w fun e w'=>e = .returned (.int .i64 r1)∧Kd.R (Kd.int .i64) 3 w' w0.heap.size (fun k_=>((mA k_ ∨ kA k_) ∨ w.heap.size ≤ k_)) Sd r2∧Kd.S Jl 83 w' w0.heap.size (fun k_=>((mA k_ ∨ kA k_) ∨ w.heap.size ≤ k_)) JA r3∧Below w0.heap.size w0 w'∧Kept w w' (fun k_=>mA k_ ∨ kA k_):=by
 obtain ⟨A0,c0,rfl⟩:=Kd.ic gH;obtain ⟨A4,c4,rfl⟩:=Kd.Lo fH;unfold Ef.f at h;obtain ⟨⟨b1,b2⟩,t1,h⟩:=Option.bind_eq_some_iff.mp h;obtain ⟨⟨b3,b4⟩,t2,h⟩:=Option.bind_eq_some_iff.mp h
 obtain ⟨rfl,rfl,rfl⟩:b3=r1∧b2=r2∧b4=r3:=by
  have:=Option.some.inj h;exact ⟨congrArg Prod.fst this,congrArg (fun x=>x.2.1) this,congrArg (fun x=>x.2.2) this⟩
 obtain ⟨W1,He⟩:∃ W1,W1=w.alloc (.cells #[.slice A0 Ma.length c0,.int .i64 Pa,.int .i64 Qa,.int .i64 Oa,.slice A4 za.length c4] 45 (0,0)):=⟨_,rfl⟩;have HW:=aa.mk He;have NS:Below w.heap.size w W1:=by rw [He];exact ia (Below.refl _ _) _
 have T2:W1.heap[w.heap.size]? = some (.cells #[.slice A0 Ma.length c0,.int .i64 Pa,.int .i64 Qa,.int .i64 Oa,.slice A4 za.length c4] 45 (0,0)):=by rw [He];exact si _ _
 have H0:=aa.mk (Kd.Fe (Kd.Xb gH NS));have H4:=aa.mk (Kd.Mm (Kd.Bh fH NS));have HB:=aa.mk (hB.trans (NS.mono hB.size));have HK:=aa.mk (Kept.Wh NS (fun k_=>mA k_ ∨ kA k_));have HT1:=aa.mk t1;have HT2:=aa.mk t2;have HX:=aa.mk T2;have hx0:=(qa T2 0).trans rfl;clear He NS gH fH hB t1 t2 h T2;go_enter Try.func32,Try.ntmps32
 go_upto_region 1 with (fail)
 rw [← HW.out];clear HW;go_wp2_with (first|(go_at_call 20;(with_reducible refine (Rc.calls k _ _ Ma a1 b1 b2 w0 W1 HB.out H0.out HT1.out).mono ?_);rintro e w2 ⟨rfl,hr,hb,hk⟩;have zR:=aa.mk hr;have Yi:=aa.mk hb;have zk:=aa.mk hk;have bC:=aa.mk (jg HX.out hk (by rintro ⟨_,_,_,q,hq,cells,hc⟩;rw [HX.out] at hc;injection hc with hc;injection hc with _ hc;rw [← hc] at hq;simp [Kd.int,Kd.scalar] at hq));have hy4:=(qa bC.out 4).trans rfl;have HS2:=aa.mk (Kd.Qx H4.out zk.out (by rintro k_ ⟨_,_,_,q,hq,cells,hc⟩ ⟨_,_,_,q2,BJ,iQ,ju⟩;rw [hc] at ju;injection ju with ju;injection ju with _ ju;rw [← ju] at BJ;simp [Kd.int,Kd.scalar] at BJ;rw [BJ] at hq;revert hq;decide));clear hr hb hk)|(go_at_call 84;(with_reducible refine (Xd.calls k _ _ za b1 b3 b4 w0 w2 Yi.out HS2.out HT2.out).mono ?_);rintro e w3 ⟨rfl,hr,hb,hk⟩;have vY:=aa.mk hr;have xp:=aa.mk hb;have tV:=aa.mk hk;clear hr hb hk));go_ret;refine ⟨rfl,?_,?_,xp.out,?_⟩
 ·refine Kd.Db (Kd.fo zR.out tV.out ?_) (fun k_ hk=>hk.elim (fun h=>.inl (.inl h.1)) (fun h=>.inr (Nat.le_trans HK.out.1 h)));rintro k_ hk ⟨_,_,hlt,q2,BJ,iQ,ju⟩
  rcases hk with ⟨_,_,_,q,hq,cells,hc⟩|hk
  ·rw [hc] at ju;injection ju with ju
   injection ju with _ ju
   rw [← ju] at BJ;simp [Kd.int,Kd.scalar] at hq;rw [hq] at BJ;revert BJ
   decide
  ·omega
 ·exact Kd.Rf vY.out (fun k_ hk=>hk.elim (fun h=>.inl (.inr h.1)) (fun h=>.inr (Nat.le_trans HK.out.1 (Nat.le_trans zk.out.1 h))))
 ·exact (HK.out.Ms zk.out (fun k_ hk=>.inl (.inl hk.1))).Ms tV.out (fun k_ hk=>.inl (.inr hk.1))
section
variable {l0:List Int} {p v s:Int} {l4:List Yd}
theorem SK (l:List Yd) (b:Yd) (hb:b ∈ l):b.f0.length ≤ yc l:=by
 unfold yc;exact Gu (List.mem_map.mpr ⟨b,hb,rfl⟩)
end
end Go.Proofs.Ytoomcmaifgkkfaa.P
end
section
namespace Go.Proofs.Ytoomcmaifgkkfaa.P
open Go.RowKit Go.Proofs.ua.zb Go.Proofs.ua.Lc Go.Proofs.ua.Pd
set_option linter.unusedVariables false
set_option linter.unusedSimpArgs false
attribute [local go_sem] Hg Fg Nh Mh cg bg Gg Eg
theorem Lz (l:List Int) (m:Int) (hm:0 ≤ m) (hl:m + l.length ≤ 4611686018427387904):Ev (fun k=>Rc.f k l m) (m + l.length,iota m l.length):=by
 have key:=Rh (r:=(m + (l.length:Int),iota m l.length)) (n:=l.length) (fun i=>Ev (fun k=>Rc.l0 k ((iota m l.length).take i ++ l.drop i) (m + i) (i:Int)) (m + (l.length:Int),iota m l.length)) ?_ ?_ 0 (by omega)
 ·refine Ev.congr (fun k=>?_) key;unfold Rc.f;simp
 ·refine Ev.step (fun k=>by rw [Rc.l0]) ?_;refine Ev.neg (by simp [Ej]) ?_;rw [List.drop_length,List.append_nil,List.take_of_length_le (by rw [Ej];omega)];exact Ev.now _
 ·intro i hi h;refine Ev.step (fun k=>by rw [Rc.l0]) ?_;refine Ev.pos (by simp [Ej];omega) (Ev.pos (by omega) ?_);have h1:m + (i:Int)=(iota m l.length).getD i 0:=(jF hi).symm;rw [lf hi (by omega),Wf (by omega) (by omega),Int.toNat_natCast];rw [show ((iota m l.length).take i ++ l.drop i).set i (m + (i:Int))=(iota m l.length).take (i + 1) ++ l.drop (i + 1) from by rw [h1];exact Jy (by rw [Ej]) (by rw [Ej];exact hi)];rw [show m + (i:Int) + 1=m + ((i + 1:Nat):Int) from by omega];exact h
theorem Wo (a:Int):(strOfNums [a]).size=1:=by
 simp [strOfNums]
 rfl
theorem Nw (n:Int) (hn:n ≤ 4611686018427387904):∃ t,Ev (fun k=>Wb.f k n) t:=by
 have key:∀ (d:Nat) (x:Int) (s:ByteArray),0 ≤ x→x < (10 ^ d:Nat)→x ≤ 4611686018427387904→s.size + d ≤ 1000000→∃ t,Ev (fun k=>Wb.l0 k x s) t:=by
  intro d
  induction d with
  | zero =>
   intro x s h0 h1 _ hs;have h1':x < 1:=h1;refine ⟨_,Ev.step (fun k=>by rw [Wb.l0]) (Ev.neg (by omega) (Ev.pos (by omega) (Ev.now _)))⟩
  | succ d ih =>
   intro x s h0 h1 h2 hs
   by_cases hx:x > 0
   ·have e1:Int.tdiv x 10=x / 10:=Int.tdiv_eq_ediv_of_nonneg h0;have e2:wrap64 (x / 10)=x / 10:=Wf (by omega) (by omega)
    have h1':x / 10 < (10 ^ d:Nat):=by
     have:((10 ^ (d + 1):Nat):Int)=(10 ^ d:Nat) * 10:=by rw [Nat.pow_succ];simp
     rw [this] at h1;omega
    obtain ⟨t,ht⟩:=ih (x / 10) (strOfNums [(wrap64 (48 + (Int.tmod x 10))) % 256] ++ s) (by omega) h1' (by omega) (by rw [ByteArray.size_append,Wo];omega);refine ⟨t,Ev.step (fun k=>by rw [Wb.l0]) (Ev.pos hx ?_)⟩;simp only [Option.bind_some];refine Ev.pos (by rw [Wo];omega) ?_;rw [e1,e2];exact ht
   ·exact ⟨_,Ev.step (fun k=>by rw [Wb.l0]) (Ev.neg hx (Ev.pos (by omega) (Ev.now _)))⟩
 unfold Wb.f
 by_cases h:n ≤ 0
 ·exact ⟨_,Ev.pos h (Ev.now _)⟩
 ·obtain ⟨t,ht⟩:=key 19 n ⟨#[]⟩ (by omega) (by omega) hn (by decide);exact ⟨t,Ev.neg h ht⟩
def Jg (T:Nat→ByteArray) (m:Int) (n:Nat):List Zb:=(List.range n).map fun (j:Nat)=>(⟨m + 7 * (j:Int),m + 7 * (j:Int) + 1,m + 7 * (j:Int) + 2,m + 7 * (j:Int) + 3,m + 7 * (j:Int) + 4,m + 7 * (j:Int) + 5,T j⟩:Zb)
theorem Ig (T:Nat→ByteArray) (m:Int) (n:Nat):(Jg T m n).length=n:=by simp [Jg]
theorem Ku {T:Nat→ByteArray} {m:Int} {n j:Nat} (h:j < n):(Jg T m n).getD j Vh=(⟨m + 7 * (j:Int),m + 7 * (j:Int) + 1,m + 7 * (j:Int) + 2,m + 7 * (j:Int) + 3,m + 7 * (j:Int) + 4,m + 7 * (j:Int) + 5,T j⟩:Zb):=by simp [Jg,List.getD_eq_getElem?_getD,h]
theorem Hw {x:List Zb} {i:Nat} (h:i < x.length) (a:Zb):oa (x.set i a) (i:Int)=a:=by
 simp [oa,List.getD_eq_getElem?_getD,h]
theorem KR {a:Int} (h0:0 ≤ a) (h1:a + 7 ≤ 4611686018427387904):wrap64 (a + 1)=a + 1∧wrap64 (a + 1 + 1)=a + 2∧wrap64 (a + 2 + 1)=a + 3∧wrap64 (a + 3 + 1)=a + 4∧wrap64 (a + 4 + 1)=a + 5∧wrap64 (a + 5 + 1)=a + 6∧wrap64 (a + 6 + 1)=a + 7:=by
 refine ⟨?_,?_,?_,?_,?_,?_,?_⟩
 all_goals
  rw [Wf (by omega) (by omega)]
  try omega
def PF (l:List Yd):Nat:=(l.map fun x=>7 * x.f0.length + 4).sum
theorem Eu (x:Yd) (l:List Yd):PF (x :: l)=7 * x.f0.length + 4 + PF l:=by simp [PF]
theorem LR {a:Int} (h0:0 ≤ a) (h1:a + 4 ≤ 4611686018427387904):wrap64 (a + 1)=a + 1∧wrap64 (a + 1 + 1)=a + 2∧wrap64 (a + 2 + 1)=a + 3∧wrap64 (a + 3 + 1)=a + 4:=by
 refine ⟨?_,?_,?_,?_⟩
 all_goals
  rw [Wf (by omega) (by omega)]
  try omega
theorem Tv (l:List Zb) (m:Int) (hm:0 ≤ m) (hl:m + 7 * l.length ≤ 4611686018427387904):∃ ms:List Zb,Ev (fun k=>Pb.f k l m) (m + 7 * l.length,ms):=by
 have hT:∀ j:Nat,∃ t,j < l.length→Ev (fun k=>Wb.f k (m + 7 * (j:Int) + 6)) t:=by
  intro j
  by_cases hj:j < l.length
  ·obtain ⟨t,ht⟩:=Nw (m + 7 * (j:Int) + 6) (by omega);exact ⟨t,fun _=>ht⟩
  ·exact ⟨⟨#[]⟩,fun h=>absurd h hj⟩
 obtain ⟨T,hT⟩:=Classical.axiomOfChoice hT;refine ⟨Jg T m l.length,?_⟩
 ·have key:=Rh (r:=(m + 7 * (l.length:Int),Jg T m l.length)) (n:=l.length) (fun i=>Ev (fun k=>Pb.l0 k ((Jg T m l.length).take i ++ l.drop i) (m + 7 * i) (i:Int)) (m + 7 * (l.length:Int),Jg T m l.length)) ?_ ?_ 0 (by omega)
  ·refine Ev.congr (fun k=>?_) key;unfold Pb.f;simp
  ·refine Ev.step (fun k=>by rw [Pb.l0]) ?_;refine Ev.neg (by simp [Ig]) ?_;rw [List.drop_length,List.append_nil,List.take_of_length_le (by rw [Ig];omega)];exact Ev.now _
  ·intro i hi h;have hlen:((Jg T m l.length).take i ++ l.drop i).length=l.length:=by simp [Ig];omega
   have ax:=Jy (m:=Jg T m l.length) (l:=l) (z:=Vh) (i:=i) (by rw [Ig]) (by rw [Ig];exact hi);rw [Ku hi] at ax;generalize hx:(Jg T m l.length).take i ++ l.drop i=x at hlen ax ⊢;refine Ev.step (fun k=>by rw [Pb.l0]) ?_;refine Ev.pos (by omega) (Ev.pos (by omega) ?_);simp only [Int.toNat_natCast,Option.bind_some];have hi1:i < x.length:=by omega
   simp only [Hw hi1,List.set_set];obtain ⟨w1,w2,w3,w4,w5,w6,w7⟩:=KR (a:=m + 7 * (i:Int)) (by omega) (by omega);simp only [w1,w2,w3,w4,w5,w6,w7];refine Ev.bind (hT i hi) ?_;rw [lf hi (by omega),show m + 7 * (i:Int) + 7=m + 7 * ((i + 1:Nat):Int) from by omega,ax];exact h
theorem Vv (l:List Yd):∀ (m:Int),0 ≤ m→m + PF l ≤ 4611686018427387904→∃ ms:List Yd,Ev (fun k=>Xd.f k l m) (m + PF l,ms):=by
 induction l with
 | nil =>
  intro m hm hl;refine ⟨[],?_⟩;unfold Xd.f;simp only [PF,List.map_nil,List.sum_nil,Int.natCast_zero,Int.add_zero];exact Ev.now _
 | cons x l ih =>
  intro m hm hl;rw [Eu] at hl;obtain ⟨c,c1⟩:=Tv x.f0 m hm (by omega);obtain ⟨ms,m1⟩:=ih (m + 7 * x.f0.length + 4) (by omega) (by omega);obtain ⟨w1,w2,w3,w4⟩:=LR (a:=m + 7 * (x.f0.length:Int)) (by omega) (by omega);have hv:m + ((7 * x.f0.length + 4 + PF l:Nat):Int)=m + 7 * (x.f0.length:Int) + 4 + PF l:=by omega
  rw [Eu,hv];refine ⟨⟨c,m + 7 * x.f0.length,m + 7 * x.f0.length + 1,m + 7 * x.f0.length + 2,m + 7 * x.f0.length + 3⟩ :: ms,?_⟩;unfold Xd.f;refine Ev.bind c1 ?_;simp only [w1,w2,w3,w4];exact Ev.bind m1 (Ev.now _)
theorem Uv (l0:List Int) (p v s:Int) (l4:List Yd) (m:Int) (hm:0 ≤ m) (hl:m + l0.length + PF l4 ≤ 4611686018427387904):∃ ms:List Yd,Ev (fun k=>Ef.f k l0 p v s l4 m) (m + l0.length + PF l4,iota m l0.length,ms):=by
 obtain ⟨ms,m1⟩:=Vv l4 (m + l0.length) (by omega) (by omega);refine ⟨ms,?_⟩;unfold Ef.f;exact Ev.bind (Lz l0 m hm (by omega)) (Ev.bind m1 (Ev.now _))
theorem fO (l:List Yd):PF l ≤ 7 * yc l + 4 * l.length:=by
 induction l with
 | nil=>simp [PF]
 | cons x l ih =>
  have:yc (x :: l)=x.f0.length + yc l:=by simp [yc]
  rw [Eu,this,List.length_cons];omega
theorem NA (l:List Bi):yc (l.map Me) ≤ NN l:=by
 unfold yc NN;rw [List.map_map]
 have:∀ l:List Bi,(l.map ((fun (x:Yd)=>x.f0.length) ∘ Me)).sum ≤ (l.map fun x=>zE x.f0).sum:=by
  intro l
  induction l with
  | nil=>simp
  | cons a l ih =>
   rw [List.map_cons,List.map_cons,List.sum_cons,List.sum_cons]
   have:((fun (x:Yd)=>x.f0.length) ∘ Me) a ≤ zE a.f0:=by
    simp [Me,zE]
   omega
 have:=this l;omega
theorem vB (x:wR) (hf:XH x):∃ t:Int,Ev (fun k=>yg.f k x.f0 x.f1 x.f2 x.f3 x.f4 1048576) t∧(¬ t < 0→x.f0.length ≤ 1048576∧(x.f4.map Me).length ≤ 1048576∧yc (x.f4.map Me) ≤ 1048576 ∧
  Ev (fun k=>Bf.f k x.f0 x.f1 x.f2 x.f3 x.f4) (x.f0,x.f1,x.f2,x.f3,x.f4.map Me)∧Ev (fun k=>zg.f k x.f0 x.f1 x.f2 x.f3 (x.f4.map Me) x.f0 x.f1 x.f2 x.f3 (x.f4.map Me)) true ∧
  ∃ M:Int × List Int × List Yd,Ev (fun k=>Ef.f k x.f0 x.f1 x.f2 x.f3 (x.f4.map Me) 1) M∧0 ≤ M.1∧M.1 ≤ 4398046511104):=by
 obtain ⟨h0,_,_,_,h4⟩:=hf;obtain ⟨t,e1,e2,e3⟩:=AB x.f0 x.f1 x.f2 x.f3 x.f4 1048576 (by omega) (by omega) h0.1 h4.1 (fun y hy=>⟨(h4.2 y hy).1.1,fun z hz=>((h4.2 y hy).1.2 z hz).2.2.2.2.2.2⟩);refine ⟨t,e1,fun ht=>?_⟩;have e:=e3 (by omega);obtain ⟨hb4,hbc⟩:=Dy (l:=x.f4) (n:=1048576) (by omega);have hl:(x.f4.map Me).length ≤ 1048576:=by rw [List.length_map];exact hb4
 have hst:=NA x.f4;have hm:=fO (x.f4.map Me);obtain ⟨ms,m1⟩:=Uv x.f0 x.f1 x.f2 x.f3 (x.f4.map Me) 1 (by omega) (by omega)
 exact ⟨by omega,hl,by omega,zB x.f0 x.f1 x.f2 x.f3 x.f4 (by omega) hb4 hbc,CB x.f0 x.f1 x.f2 x.f3 (x.f4.map Me) (by omega) (by omega) (fun y hy=>by
  have:=SK _ _ hy
  omega),_,m1,by simp only;omega,by simp only;omega⟩
theorem Un (k:Nat) (A:Option Addr) (c n:Nat) (l:List (Int × Int)) (a r:Int) (w:World) (hn:l.length=n) (hr:Kd.C k2 w A l.length l) (hc:n ≤ c) (h:tf.f k l a=some r):Calls Try.prog 46 #[.slice A n c,.int .i64 a] w fun e w'=>e = .returned (.int .i64 r)∧Below w.heap.size w w':=by
 subst hn;exact tf.calls k A c l a r w hr hc h
noncomputable def af.f (k:Nat) (Ma:List Int) (Pa:Int) (Qa:Int) (Oa:Int) (za:List Bi):Option Bool :=
 (yg.f k Ma Pa Qa Oa za 1048576).bind fun s=>if s < 0 then some true else
 (Bf.f k Ma Pa Qa Oa za).bind fun G =>
 (Fh.f k G.1 G.2.1 G.2.2.1 G.2.2.2.1 G.2.2.2.2).bind fun x =>
 (Ih.f k G.1 G.2.1 G.2.2.1 G.2.2.2.1 G.2.2.2.2).bind fun y =>
 (Cf.f k y x).bind fun e1=>if e1=true then
 (zg.f k G.1 G.2.1 G.2.2.1 G.2.2.2.1 G.2.2.2.2 G.1 G.2.1 G.2.2.1 G.2.2.2.1 G.2.2.2.2).bind fun e2=>if e2=true then
 (Ef.f k G.1 G.2.1 G.2.2.1 G.2.2.2.1 G.2.2.2.2 1).bind fun M=>if M.1 < 0 then none else
 (Qf.f k y 1).bind fun m=>(tf.f k m.2 1).bind fun q=>if q < 0 then none else if q=m.1 then some true else none
 else none else none
theorem af.calls (k:Nat) (Bb:Option Addr) (Ab:Nat) (Ma:List Int) (Pa:Int) (Qa:Int) (Oa:Int) (Qb:Option Addr) (Gb:Nat) (za:List Bi) (r:Bool) (w:World) (od:Kd.C (Kd.int .i64) w Bb Ma.length Ma) (Nd:Ma.length ≤ Ab) (ze:Kd.C Iu w Qb za.length za) (Ve:za.length ≤ Gb) (h:af.f k Ma Pa Qa Oa za=some r) :
  Calls Try.prog 10 #[.agg #[.slice Bb Ma.length Ab,.int .i64 Pa,.int .i64 Qa,.int .i64 Oa,.slice Qb za.length Gb]] w fun e w'=>e = .returned (.bool r)∧Below w.heap.size w w':=by
 unfold af.f at h;obtain ⟨s,hs,h⟩:=Option.bind_eq_some_iff.mp h;have HSZ:=aa.mk hs;have xk:=aa.mk od;have oy:=aa.mk ze;have sE:=aa.mk Nd;have rE:=aa.mk Ve;obtain ⟨W1,He⟩:∃ W1,W1=w.alloc (.cells #[.slice Bb Ma.length Ab,.int .i64 Pa,.int .i64 Qa,.int .i64 Oa,.slice Qb za.length Gb] 40 (0,0)):=⟨_,rfl⟩;have HW:=aa.mk He;have Sm:=aa.mk (show Below w.heap.size w W1 by rw [He];exact ia (Below.refl _ _) _);have kC:=aa.mk (show W1.heap[w.heap.size]? = some (.cells #[.slice Bb Ma.length Ab,.int .i64 Pa,.int .i64 Qa,.int .i64 Oa,.slice Qb za.length Gb] 40 (0,0)) by rw [He];exact si _ _);clear hs od ze Nd Ve He
 by_cases hneg:s < 0
 ·rw [if_pos hneg] at h;obtain rfl:=Option.some.inj h;have hnb:decide (s < 0)=true:=decide_eq_true hneg;clear h hneg;have nF:=(qa kC.out 0).trans rfl;have Dv:=(qa kC.out 1).trans rfl;have hg2:=(qa kC.out 2).trans rfl;have DA:=(qa kC.out 3).trans rfl;have CA:=(qa kC.out 4).trans rfl;go_enter Try.func10,Try.ntmps10
  go_upto_region 1 with (fail)
  rw [← HW.out];clear HW;go_wp2_with (first|(go_at_call 25;(with_reducible refine (yg.calls k Bb Ab Ma Pa Qa Oa Qb Gb za 1048576 s W1 (Kd.yb xk.out Sm.out) sE.out (Kd.yb oy.out Sm.out) rE.out HSZ.out).mono ?_);rintro e w2 ⟨rfl,hb⟩;have Yi:=aa.mk (Fa Sm.out hb);have wN:=aa.mk (Ua kC.out hb);clear hb));go_ret;exact ⟨rfl,Yi.out⟩
 ·rw [if_neg hneg] at h;have hnb:decide (s < 0)=false:=decide_eq_false hneg;obtain ⟨⟨g1,g2,g3,g4,g5⟩,tG,h⟩:=Option.bind_eq_some_iff.mp h;obtain ⟨x,tX,h⟩:=Option.bind_eq_some_iff.mp h;obtain ⟨y,tY,h⟩:=Option.bind_eq_some_iff.mp h;obtain ⟨e1,tE,h⟩:=Option.bind_eq_some_iff.mp h;obtain rfl:e1=true:=by cases e1 with|false=>simp at h|true=>rfl
  rw [if_pos rfl] at h;obtain ⟨e2,tF,h⟩:=Option.bind_eq_some_iff.mp h;obtain rfl:e2=true:=by cases e2 with|false=>simp at h|true=>rfl
  rw [if_pos rfl] at h;obtain ⟨⟨M1,M2,M3⟩,tM,h⟩:=Option.bind_eq_some_iff.mp h;have hM:¬ M1 < 0:=fun hm=>by rw [if_pos hm] at h;cases h
  rw [if_neg hM] at h;obtain ⟨⟨m1,m2⟩,tm,h⟩:=Option.bind_eq_some_iff.mp h;obtain ⟨q,tq,h⟩:=Option.bind_eq_some_iff.mp h;have hq:¬ q < 0:=fun hm=>by rw [if_pos hm] at h;cases h
  rw [if_neg hq] at h;have E8:q=m1:=Decidable.byContradiction fun hm=>by rw [if_neg hm] at h;cases h
  rw [if_pos E8] at h;obtain rfl:=Option.some.inj h;subst E8;have hMb:decide (M1 < 0)=false:=decide_eq_false hM;have hqb:decide (q < 0)=false:=decide_eq_false hq;have TG:=aa.mk tG;have TX:=aa.mk tX;have TY:=aa.mk tY;have TE:=aa.mk tE;have TF:=aa.mk tF;have TM:=aa.mk tM;have Tm:=aa.mk tm;have Tq:=aa.mk tq;clear tG tX tY tE tF tM tm tq hM hq hneg h;have nF:=(qa kC.out 0).trans rfl;have Dv:=(qa kC.out 1).trans rfl;have hg2:=(qa kC.out 2).trans rfl;have DA:=(qa kC.out 3).trans rfl;have CA:=(qa kC.out 4).trans rfl;go_enter Try.func10,Try.ntmps10
  go_upto_region 1 with (fail)
  rw [← HW.out];clear HW
  go_upto_region 5 with (first|(go_at_call 25;(with_reducible refine (yg.calls k Bb Ab Ma Pa Qa Oa Qb Gb za 1048576 s W1 (Kd.yb xk.out Sm.out) sE.out (Kd.yb oy.out Sm.out) rE.out HSZ.out).mono ?_);rintro e w2 ⟨rfl,hb⟩;have Yi:=aa.mk (Fa Sm.out hb);have wN:=aa.mk (Ua kC.out hb);clear hb Sm kC nF Dv hg2 DA CA))
  have nF:=(qa wN.out 0).trans rfl;have Dv:=(qa wN.out 1).trans rfl;have hg2:=(qa wN.out 2).trans rfl;have DA:=(qa wN.out 3).trans rfl;have CA:=(qa wN.out 4).trans rfl
  go_upto_region 6 with (first|(go_at_call 27;(with_reducible refine (Bf.calls k Bb Ab Ma Pa Qa Oa Qb Gb za g1 g2 g3 g4 g5 w2 (Kd.yb xk.out Yi.out) sE.out (Kd.yb oy.out Yi.out) rE.out TG.out).mono ?_);rintro e w3 ⟨v0,v4,rfl,uh,Qv,hb⟩;obtain ⟨B0,d0,rfl⟩:=Kd.ic uh;obtain ⟨B4,d4,rfl⟩:=Kd.Lo Qv;have dJ:=aa.mk uh;have cJ:=aa.mk Qv;have xp:=aa.mk (Fa Yi.out hb);have HG3:=aa.mk (Ua wN.out hb);have z23:=hb.size;clear uh Qv hb Yi wN nF Dv hg2 DA CA)|(go_at_call 42;(with_reducible refine (Fh.calls k B0 d0 g1 g2 g3 g4 B4 d4 g5 x w3 (Kd.Wa dJ.out).2.2 (Kd.Wa dJ.out).2.1 (Kd.jh cJ.out).2.2 (Kd.jh cJ.out).2.1 TX.out).mono ?_);rintro e w4 ⟨vx,rfl,ho,hb⟩;have HOW:=aa.mk (LA ho xp.out.size);have fy:=aa.mk (Fa xp.out hb);have lJ:=aa.mk (Ua HG3.out hb);have z34:=hb.size;obtain ⟨D0,f0,rfl⟩:=Kd.ic ho;clear ho hb dJ cJ xp HG3))
  have hzw:=Le lJ.out;have nF:=(qa lJ.out 0).trans rfl;have Dv:=(qa lJ.out 1).trans rfl;have hg2:=(qa lJ.out 2).trans rfl;have DA:=(qa lJ.out 3).trans rfl;have CA:=(qa lJ.out 4).trans rfl
  go_upto_region 7 with (first|(go_at_call 27;(with_reducible refine (Bf.calls k Bb Ab Ma Pa Qa Oa Qb Gb za g1 g2 g3 g4 g5 w4 (Kd.yb xk.out fy.out) sE.out (Kd.yb oy.out fy.out) rE.out TG.out).mono ?_);rintro e w5 ⟨v0,v4,rfl,uh,Qv,hb⟩;obtain ⟨B0,d0,rfl⟩:=Kd.ic uh;obtain ⟨B4,d4,rfl⟩:=Kd.Lo Qv;have HX0:=aa.mk (LA uh fy.out.size);have HX4:=aa.mk (MN Qv fy.out.size);have oJ:=aa.mk (Fa fy.out hb);have vN:=aa.mk (Ua lJ.out hb);have eV:=aa.mk (Kd.Xb HOW.out hb);have z45:=hb.size;clear uh Qv hb fy lJ HOW nF Dv hg2 DA CA))
  have BZ:(w5.alloc (.cells #[.slice B0 g1.length d0,.int .i64 g2,.int .i64 g3,.int .i64 g4,.slice B4 g5.length d4] 45 (0,0))).heap.size=w5.heap.size + 1:=by simp
  have EP:=ia (Below.refl w5.heap.size w5) (.cells #[.slice B0 g1.length d0,.int .i64 g2,.int .i64 g3,.int .i64 g4,.slice B4 g5.length d4] 45 (0,0));have Tw:=si w5 (.cells #[.slice B0 g1.length d0,.int .i64 g2,.int .i64 g3,.int .i64 g4,.slice B4 g5.length d4] 45 (0,0));generalize w5.alloc (.cells #[.slice B0 g1.length d0,.int .i64 g2,.int .i64 g3,.int .i64 g4,.slice B4 g5.length d4] 45 (0,0))=w6 at BZ EP Tw ⊢;have JV:=aa.mk (Fa oJ.out EP);have yV:=aa.mk (Ua vN.out EP);have dV:=aa.mk (Kd.Xb eV.out EP);have sL:=aa.mk (Kd.Xb HX0.out EP);have qL:=aa.mk (Kd.Bh HX4.out EP);have XM:=aa.mk Tw;have Z4:=aa.mk BZ;clear BZ EP Tw oJ vN eV HX0 HX4;have hx0:=(qa XM.out 0).trans rfl;have hx1:=(qa XM.out 1).trans rfl;have hx2:=(qa XM.out 2).trans rfl;have Ct:=(qa XM.out 3).trans rfl;have gr:=(qa XM.out 4).trans rfl
  go_upto_region 8 with (first|(go_at_call 43;(with_reducible refine (Ih.calls k B0 d0 g1 g2 g3 g4 B4 d4 g5 y w6 (Kd.Wa sL.out).2.2 (Kd.Wa sL.out).2.1 (Kd.jh qL.out).2.2 (Kd.jh qL.out).2.1 TY.out).mono ?_);rintro e w7 ⟨vy,rfl,ho,hb⟩;have HOG:=aa.mk (LA ho JV.out.size);have JL:=aa.mk (Fa JV.out hb);have wV:=aa.mk (Ua yV.out hb);have Z_:=aa.mk (Ua XM.out hb);have xL:=aa.mk (Kd.Xb dV.out hb);have UU:=aa.mk (Kd.Xb sL.out hb);have LU:=aa.mk (Kd.Bh qL.out hb);have z67:=hb.size;obtain ⟨E0,q0,rfl⟩:=Kd.ic ho;clear ho hb JV yV XM dV sL qL hx0 hx1 hx2 Ct gr))
  have yL:=HOG;clear HOG
  go_upto_region 10 with (first|(go_at_call 44;(with_reducible refine (Cf.calls k E0 q0 y D0 f0 x true w7 (Kd.Wa yL.out).2.2 (Kd.Wa yL.out).2.1 (Kd.Wa xL.out).2.2 (Kd.Wa xL.out).2.1 TE.out).mono ?_);rintro e w8 ⟨rfl,hb0⟩;have hb:Below _ _ _:=hb0;have GY:=aa.mk (Fa JL.out hb);have LJ:=aa.mk (Ua wV.out hb);have zQ:=aa.mk (Ua Z_.out hb);have cV:=aa.mk (Kd.Xb xL.out hb);have TU:=aa.mk (Kd.Xb UU.out hb);have KU:=aa.mk (Kd.Bh LU.out hb);have gV:=aa.mk (Kd.Xb yL.out hb);have z78:=hb.size;clear hb hb0 JL wV Z_ xL UU LU yL))
  have IV:=aa.mk (ja GY.out);have uN:=aa.mk (Ea LJ.out);have C5:=aa.mk (Ea zQ.out);have ZQ:=aa.mk (Kd.Sa cV.out);have BQ:=aa.mk (Kd.Sa TU.out);have AQ:=aa.mk (Kd.Xf KU.out);have bR:=aa.mk (Kd.Sa gV.out);have z89:w8.heap.size ≤ w8.drew.heap.size:=Nat.le_refl _;refine Pj (n:=5) (S:=fun w'=>w'.cell? ⟨w5.heap.size,0,none⟩=some (.slice B0 g1.length d0)∧w'.cell? ⟨w5.heap.size,1,none⟩=some (.int .i64 g2)∧w'.cell? ⟨w5.heap.size,2,none⟩=some (.int .i64 g3)∧w'.cell? ⟨w5.heap.size,3,none⟩=some (.int .i64 g4)∧w'.cell? ⟨w5.heap.size,4,none⟩=some (.slice B4 g5.length d4)∧w'.cell? ⟨w.heap.size,0,none⟩=some (.slice Bb Ma.length Ab)∧w'.cell? ⟨w.heap.size,1,none⟩=some (.int .i64 Pa)∧w'.cell? ⟨w.heap.size,2,none⟩=some (.int .i64 Qa)∧w'.cell? ⟨w.heap.size,3,none⟩=some (.int .i64 Oa)∧w'.cell? ⟨w.heap.size,4,none⟩=some (.slice Qb za.length Gb)) (ds:=[]) #[false,false,false,false,false] (by kernel_rfl) rfl rfl ⟨(qa zQ.out 0).trans rfl,(qa zQ.out 1).trans rfl,(qa zQ.out 2).trans rfl,(qa zQ.out 3).trans rfl,(qa zQ.out 4).trans rfl,(qa LJ.out 0).trans rfl,(qa LJ.out 1).trans rfl,(qa LJ.out 2).trans rfl,(qa LJ.out 3).trans rfl,(qa LJ.out 4).trans rfl⟩ (fun hHeld=>?_);generalize w8.drew=w9 at IV uN C5 ZQ BQ AQ bR z89 hHeld ⊢;refine ah (i:=0) (N:=some 27) (v:=?_) (a':=?_) #[true,false,false,false,false] rfl rfl (by kernel_rfl) (fun _ _ _ h=>h) (Or.inl ⟨by rfl,?_⟩) hHeld ?_ ?_;rotate_left
  ·exact Uae
  rotate_left
  ·exact Qae
  refine ah (i:=1) (N:=some 28) (v:=?_) (a':=?_) #[true,true,false,false,false] rfl rfl (by kernel_rfl) (fun _ _ _ h=>h) (Or.inl ⟨by rfl,?_⟩) hHeld ?_ ?_;rotate_left
  ·exact Uae
  rotate_left
  ·exact Qae
  refine dn (i:=2) (N:=some 29) #[true,true,true,false,false] rfl rfl (by kernel_rfl) (by decide) (fun K hK=>?_);refine Oq Try.func27 (by kernel_rfl) rfl #[.agg #[.slice Bb Ma.length Ab,.int .i64 Pa,.int .i64 Qa,.int .i64 Oa,.slice Qb za.length Gb]] (by rfl) rfl rfl Faf ?_;with_reducible refine (Bf.calls k Bb Ab Ma Pa Qa Oa Qb Gb za g1 g2 g3 g4 g5 w9 (Kd.yb xk.out IV.out) sE.out (Kd.yb oy.out IV.out) rE.out TG.out).mono ?_
  rintro e Gt ⟨v0,v4,rfl,uh,Qv,hb⟩;refine ⟨_,rfl,?_⟩;have PV:=aa.mk (Fa IV.out hb);have Hs:=aa.mk (Ua uN.out hb);have cC:=aa.mk (Ua C5.out hb);have jN:=aa.mk (Kd.Xb ZQ.out hb);have iE:=aa.mk (Kd.Xb BQ.out hb);have gE:=aa.mk (Kd.Bh AQ.out hb);have qN:=aa.mk (Kd.Xb bR.out hb);have Raa:=hb.size;obtain ⟨F0,i0,rfl⟩:=Kd.ic uh;obtain ⟨F4,i4,rfl⟩:=Kd.Lo Qv;have dJ:=aa.mk uh;have cJ:=aa.mk Qv;clear uh Qv hb IV uN C5 ZQ BQ AQ bR;refine hK.out _ _ ⟨(qa cC.out 0).trans rfl,(qa cC.out 1).trans rfl,(qa cC.out 2).trans rfl,(qa cC.out 3).trans rfl,(qa cC.out 4).trans rfl,(qa Hs.out 0).trans rfl,(qa Hs.out 1).trans rfl,(qa Hs.out 2).trans rfl,(qa Hs.out 3).trans rfl,(qa Hs.out 4).trans rfl⟩ (fun hHeld=>?_);clear hK K;refine Ze (a':=?_) ?_ ?_;rotate_left
  ·show Act.put _ (some 29) _=_
   exact Qae
  refine dn (i:=3) (N:=some 30) #[true,true,true,true,false] rfl rfl (by kernel_rfl) (by decide) (fun K hK=>?_);refine Oq Try.func29 (by kernel_rfl) rfl #[.agg #[.slice B0 g1.length d0,.int .i64 g2,.int .i64 g3,.int .i64 g4,.slice B4 g5.length d4],.agg #[.slice F0 g1.length i0,.int .i64 g2,.int .i64 g3,.int .i64 g4,.slice F4 g5.length i4]] (by rfl) rfl rfl Faf ?_;with_reducible refine (zg.calls k B0 d0 g1 g2 g3 g4 B4 d4 g5 F0 i0 g1 g2 g3 g4 F4 i4 g5 true Gt (Kd.Wa iE.out).2.2 (Kd.Wa iE.out).2.1 (Kd.jh gE.out).2.2 (Kd.jh gE.out).2.1 (Kd.Wa dJ.out).2.2 (Kd.Wa dJ.out).2.1 (Kd.jh cJ.out).2.2 (Kd.jh cJ.out).2.1 TF.out).mono ?_
  rintro e cl ⟨rfl,hb⟩;refine ⟨_,rfl,?_⟩;have OV:=aa.mk (Fa PV.out hb);have jC:=aa.mk (Ua Hs.out hb);have wv:=aa.mk (Ua cC.out hb);have iN:=aa.mk (Kd.Xb jN.out hb);have ZM:=aa.mk (Kd.Xb iE.out hb);have YM:=aa.mk (Kd.Bh gE.out hb);have pN:=aa.mk (Kd.Xb qN.out hb);have K6:=hb.size;clear hb dJ cJ PV Hs cC jN iE gE qN;refine hK.out _ _ ⟨(qa wv.out 0).trans rfl,(qa wv.out 1).trans rfl,(qa wv.out 2).trans rfl,(qa wv.out 3).trans rfl,(qa wv.out 4).trans rfl,(qa jC.out 0).trans rfl,(qa jC.out 1).trans rfl,(qa jC.out 2).trans rfl,(qa jC.out 3).trans rfl,(qa jC.out 4).trans rfl⟩ (fun hHeld=>?_);clear hK K;refine Ze (a':=?_) ?_ ?_;rotate_left
  ·show Act.put _ (some 30) _=_
   exact Qae
  refine Dc (i:=4) (N:=some 31) (v:=?_) (a':=?_) #[true,true,true,true,true] rfl rfl (by kernel_rfl) (fun _ _ _ h=>h) (Or.inl ⟨by rfl,?_⟩) ?_ ?_;rotate_left
  ·exact Rae
  rotate_left
  ·exact Qae
  refine Ym (by kernel_rfl) ?_;clear GY LJ zQ cV TU KU gV;have hx0:=(qa wv.out 0).trans rfl;have hx1:=(qa wv.out 1).trans rfl;have hx2:=(qa wv.out 2).trans rfl;have Ct:=(qa wv.out 3).trans rfl;have gr:=(qa wv.out 4).trans rfl
  go_upto_region 14 with (first|(go_at_call 32;(with_reducible refine (Ef.calls k _ _ g1 g2 g3 g4 _ _ g5 1 M1 M2 M3 w cl OV.out ZM.out YM.out TM.out).mono ?_);rintro e vu ⟨rfl,_,_,hb,hk⟩;have qJ:=aa.mk hb;have BL:=aa.mk (Kept.mono hk (fun k_ Ir=>(Or.elim Ir id id:w4.heap.size ≤ k_∧k_ < w5.heap.size)));have J6:=hk.1;clear hb hk hx0 hx1 hx2 Ct gr))
  have GV:=aa.mk (jg jC.out BL.out (by omega));have mE:=aa.mk (Kd.fo iN.out BL.out (by intro k_ h1 h2;omega));have nE:=aa.mk (Kd.fo pN.out BL.out (by have:=Z4.out;intro k_ h1 h2;omega));clear jC iN pN wv ZM YM OV BL
  go_upto_region 17 with (first|(go_at_call 44;(with_reducible refine (Cf.calls k E0 q0 y D0 f0 x true vu (Kd.Wa nE.out).2.2 (Kd.Wa nE.out).2.1 (Kd.Wa mE.out).2.2 (Kd.Wa mE.out).2.1 TE.out).mono ?_);rintro e iy ⟨rfl,hb0⟩;have hb:Below _ _ _:=hb0;have NV:=aa.mk (Fa qJ.out hb);have FV:=aa.mk (Ua GV.out hb);have gN:=aa.mk (Kd.Xb mE.out hb);have oN:=aa.mk (Kd.Xb nE.out hb);have I6:=hb.size;clear hb hb0 qJ GV mE nE))
  go_upto_region 19 with (first|(go_at_call 45;(with_reducible refine (Qf.calls k _ _ y 1 q m2 w iy NV.out oN.out Tm.out).mono ?_);rintro e RR ⟨rfl,ho,hb,hk⟩;have MV:=aa.mk hb;have fR:=aa.mk hk;have rA:=aa.mk ho;have H6:=hk.1;clear hb hk ho))
  have EV:=aa.mk (jg FV.out fR.out (by have:=Z4.out;omega));have fN:=aa.mk (Kd.fo gN.out fR.out (by have:=Z4.out;intro k_ h1 h2;omega));have P8:m2.length=y.length:=(Kd.Wa rA.out).1.symm;have HLM:=aa.mk P8;clear FV gN oN NV fR P8
  go_upto_region 24 with (first|(go_at_call 46;(with_reducible refine (Un k E0 q0 y.length m2 1 q RR HLM.out (Kd.Wa rA.out).2.2 (Kd.Wa rA.out).2.1 Tq.out).mono ?_);rintro e Zl ⟨rfl,hb0⟩;have hb:Below _ _ _:=hb0;have uA:=aa.mk (Fa MV.out hb);have dw:=aa.mk (Ua EV.out hb);have eN:=aa.mk (Kd.Xb fN.out hb);have nN:=aa.mk (Kd.Xb rA.out hb);have G6:=hb.size;clear hb hb0 MV EV fN rA))
  have nF:=(qa dw.out 0).trans rfl;have Dv:=(qa dw.out 1).trans rfl;have hg2:=(qa dw.out 2).trans rfl;have DA:=(qa dw.out 3).trans rfl;have CA:=(qa dw.out 4).trans rfl
  go_upto_region 25 with (first|(go_at_call 27;(with_reducible refine (Bf.calls k Bb Ab Ma Pa Qa Oa Qb Gb za g1 g2 g3 g4 g5 Zl (Kd.yb xk.out uA.out) sE.out (Kd.yb oy.out uA.out) rE.out TG.out).mono ?_);rintro e NY ⟨v0,v4,rfl,uh,Qv,hb⟩;obtain ⟨F0,i0,rfl⟩:=Kd.ic uh;obtain ⟨F4,i4,rfl⟩:=Kd.Lo Qv;have dJ:=aa.mk uh;have cJ:=aa.mk Qv;have LV:=aa.mk (Fa uA.out hb);have DV:=aa.mk (Ua dw.out hb);have dN:=aa.mk (Kd.Xb eN.out hb);have mN:=aa.mk (Kd.Xb nN.out hb);have F6:=hb.size;clear uh Qv hb uA dw eN nN nF Dv hg2 DA CA)|(go_at_call 43;(with_reducible refine (Ih.calls k F0 i0 g1 g2 g3 g4 F4 i4 g5 y NY (Kd.Wa dJ.out).2.2 (Kd.Wa dJ.out).2.1 (Kd.jh cJ.out).2.2 (Kd.jh cJ.out).2.1 TY.out).mono ?_);rintro e Zk ⟨vz,rfl,ho,hb⟩;have fJ:=aa.mk ho;have KV:=aa.mk (Fa LV.out hb);have CV:=aa.mk (Ua DV.out hb);have lE:=aa.mk (Kd.Xb dN.out hb);have lN:=aa.mk (Kd.Xb mN.out hb);have E6:=hb.size;obtain ⟨JR0,j0,rfl⟩:=Kd.ic ho;clear ho hb dJ cJ LV DV dN mN))
  go_upto_region 28 with (first|(go_at_call 44;(with_reducible refine (Cf.calls k JR0 j0 y D0 f0 x true Zk (Kd.Wa fJ.out).2.2 (Kd.Wa fJ.out).2.1 (Kd.Wa lE.out).2.2 (Kd.Wa lE.out).2.1 TE.out).mono ?_);rintro e PR ⟨rfl,hb0⟩;have hb:Below _ _ _:=hb0;have tA:=aa.mk (Fa KV.out hb);have fad:=aa.mk (Ua CV.out hb);have jaa:=aa.mk (Kd.Xb lE.out hb);have kN:=aa.mk (Kd.Xb lN.out hb);have D6:=hb.size;clear hb hb0 KV CV lE lN fJ))
  go_wp2_with (first|(go_at_call 46;(with_reducible refine (Un k E0 q0 y.length m2 1 q PR HLM.out (Kd.Wa kN.out).2.2 (Kd.Wa kN.out).2.1 Tq.out).mono ?_);rintro e jr ⟨rfl,hb0⟩;have hb:Below _ _ _:=hb0;have X5:=aa.mk (Fa tA.out hb);clear hb hb0));go_ret;exact ⟨rfl,X5.out⟩
theorem dr (x:wR) (hf:XH x):∃ k,af.f k x.f0 x.f1 x.f2 x.f3 x.f4=some true:=by
 obtain ⟨t,e1,e2⟩:=vB x hf;refine Ev.rounds (g:=fun k=>af.f k x.f0 x.f1 x.f2 x.f3 x.f4) ?_;unfold af.f;refine Ev.bind e1 ?_
 by_cases ht:t < 0
 ·exact Ev.pos ht (Ev.now _)
 refine Ev.neg ht ?_;obtain ⟨h0,hl,hst,hT,hq,⟨M1,M2,M3⟩,hM,hM0,hMu⟩:=e2 ht;obtain ⟨r,r1,r2,r3⟩:=aI x.f0 x.f1 x.f2 x.f3 (x.f4.map Me) h0 hl hst;have hm:=Sv r 1 (by omega) (by omega);have hh:=Wv 1 r.length (by omega) (by omega);simp only at hM0 hMu;exact Ev.bind hT (Ev.bind r1 (Ev.bind r2 (Ev.bind (Nz r) (Ev.pos rfl (Ev.bind hq (Ev.pos rfl (Ev.bind hM (Ev.neg (by simp only;omega) (Ev.bind hm (Ev.bind hh (Ev.neg (by omega) (Ev.pos rfl (Ev.now _)))))))))))))
end Go.Proofs.Ytoomcmaifgkkfaa.P
end
