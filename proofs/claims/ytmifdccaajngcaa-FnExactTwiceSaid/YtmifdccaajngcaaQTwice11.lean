import Derived.Shelf.Abstract
import Derived.Outline
import Derived.RegionTactic
import Derived.Test.YtmifdccaajngcaaQTwice1
import Derived.Test.YtmifdccaajngcaaQTwice10
import Derived.Test.YtmifdccaajngcaaQTwice4
import Derived.Test.YtmifdccaajngcaaQTwice3
import Derived.Deep.QuietTactic
import Derived.BigQuiet
import Derived.Test.YtmifdccaajngcaaQTwice2
import Derived.Test.YtmifdccaajngcaaQTwice7
import Derived.Test.YtmifdccaajngcaaQTwice8
import Derived.Test.YtmifdccaajngcaaQTwice9
set_option maxHeartbeats 8000000
set_option maxRecDepth 100000
section
namespace Go.Proofs.Ytmifdccaajngcaa.P
open Go.RowKit Go.Proofs.Na.Ec Go.Proofs.Na.gf Go.Proofs.Na.Eg
set_option linter.unusedVariables false
set_option linter.unusedSimpArgs false
def mI (y x:Nd):Bool:=y.f6.toList == x.f6.toList && (y.f2 == x.f2 && y.f3 == x.f3)
def B7 (x y:Nd):Nd:=⟨1,x.f1,y.f1,0,0,0,ByteArray.empty⟩
def Ak (x acc y:Nd):Nd:=if mI y x=true then B7 x y else acc
def BP (th:List Nd) (x:Nd):Nd:=if x.f0=2 then th.foldl (Ak x) x else x
def Wo (d:Int) (y:Nd):Bool:=y.f2 == d || (y.f3 == d || y.f1 == d)
def PN (th:List Nd) (x:Nd):List Nd:=if Zd x < 0 then th else if x.f0=2∧¬ x.f2=Zd x∧¬ x.f3=Zd x then th.filter (fun y=>!Wo (Zd x) y) ++ [x] else th.filter (fun y=>!Wo (Zd x) y)
def Pg (code:List Nd) (j:Nat):List Nd:=(code.take j).foldl PN []
def Un (code:List Nd):List Nd:=(List.range code.length).map fun (j:Nat)=>BP (Pg code j) (oa code (j:Int))
theorem Sh (code:List Nd):(Un code).length=code.length:=by simp [Un]
theorem bD (code:List Nd) (j:Nat) (h:j < code.length):Pg code (j + 1)=PN (Pg code j) (oa code (j:Int)):=by
 have hr:oa code (j:Int)=code[j]:=by simp [oa,List.getD_eq_getElem?_getD,h]
 unfold Pg;rw [List.take_succ_eq_append_getElem h,List.foldl_append,hr]
 rfl
theorem oK (code:List Nd) (j:Nat):(Pg code j).length ≤ j:=by
 have key:∀ (l:List Nd) (t:List Nd),(l.foldl PN t).length ≤ t.length + l.length:=by
  intro l
  induction l with
  | nil=>intro t;simp
  | cons x l ih =>
   intro t;have h1:=ih (PN t x)
   have h2:(PN t x).length ≤ t.length + 1:=by
    unfold PN;have:=List.length_filter_le (fun y=>!Wo (Zd x) y) t
    split
    ·omega
    ·split
     ·rw [List.length_append];simp;omega
     ·omega
   rw [List.foldl_cons,List.length_cons];omega
 have:=key (code.take j) [];rw [List.length_take] at this;unfold Pg;simp at this;omega
def rm (code:List Nd) (j:Nat) (z:Nd):List Nd:=(Un code).take j ++ z :: code.drop (j + 1)
theorem DD (code:List Nd) (j:Nat) (z:Nd) (h:j < code.length):(rm code j z).length=code.length:=by
 unfold rm;rw [List.length_append,List.length_take,Sh,List.length_cons,List.length_drop];omega
theorem QN (code:List Nd) (j:Nat) (z z':Nd) (h:j < code.length):(rm code j z).set j z' = rm code j z':=by
 unfold rm;rw [List.set_append_right _ _ (by rw [List.length_take,Sh];omega),List.length_take,Sh,Nat.min_eq_left (by omega),Nat.sub_self,List.set_cons_zero]
theorem nG (code:List Nd) (j:Nat) (h:j < code.length):(Un code).take j ++ code.drop j=rm code j (oa code (j:Int)):=by
 have hr:oa code (j:Int)=code[j]:=by simp [oa,List.getD_eq_getElem?_getD,h]
 unfold rm;rw [hr,List.drop_eq_getElem_cons h]
theorem RN (code:List Nd) (j:Nat) (h:j < code.length):rm code j (BP (Pg code j) (oa code (j:Int)))=(Un code).take (j + 1) ++ code.drop (j + 1):=by
 unfold rm;rw [List.take_succ_eq_append_getElem (by rw [Sh];exact h),List.append_assoc];simp [Un]
theorem CP (code:List Nd) (j:Nat) (z:Nd) (h:j < code.length):oa (rm code j z) (j:Int)=z:=by
 unfold rm;simp [oa,List.getD_eq_getElem?_getD,List.getElem?_append_right,List.length_take,Sh,Nat.min_eq_left (Nat.le_of_lt h)]
theorem DH (th:List Nd) (x:Nd) (m:Nat) (h:m < th.length):(th.take (m + 1)).foldl (Ak x) x=Ak x ((th.take m).foldl (Ak x) x) (oa th (m:Int)):=by
 have hr:oa th (m:Int)=th[m]:=by simp [oa,List.getD_eq_getElem?_getD,h]
 rw [List.take_succ_eq_append_getElem h,List.foldl_append,hr]
 rfl
theorem aD (q:Nat) (d:Int) (y:Nd) (W:World) (hq:W.cell? ⟨q,0,none⟩=some (.int .i64 d)) :
  Calls Try.prog 102 #[.agg #[.int .i64 y.f0,.int .i64 y.f1,.int .i64 y.f2,.int .i64 y.f3,.int .i64 y.f4,.int .i64 y.f5,.string y.f6],.pointer (some ⟨q,0,none⟩)] W fun e w'=>e = .returned (.bool (Wo d y))∧Below W.heap.size W w':=by
 have hlt:=World.block_lt_of_cell? W _ hq;have HB:=ia.mk (qa (Below.refl W.heap.size W) (.cells #[.int .i64 y.f0,.int .i64 y.f1,.int .i64 y.f2,.int .i64 y.f3,.int .i64 y.f4,.int .i64 y.f5,.string y.f6] 70 (0,0)));unfold Wo
 by_cases h1:y.f2=d
 ·have b1:(y.f2 == d)=true:=beq_iff_eq.2 h1;rw [b1];clear h1;go_enter Try.func102,Try.ntmps102;go_wp2;go_ret;exact ⟨rfl,HB.out⟩
 ·have b1:(y.f2 == d)=false:=beq_eq_false_iff_ne.2 h1
  by_cases h2:y.f3=d
  ·have b2:(y.f3 == d)=true:=beq_iff_eq.2 h2;rw [b1,b2];clear h1 h2;go_enter Try.func102,Try.ntmps102;go_wp2;go_ret;exact ⟨rfl,HB.out⟩
  ·have b2:(y.f3 == d)=false:=beq_eq_false_iff_ne.2 h2;rw [b1,b2,Bool.false_or,Bool.false_or];clear h1 h2;go_enter Try.func102,Try.ntmps102;go_wp2;go_ret;exact ⟨rfl,HB.out⟩
theorem mG (P_:Nat→Prop) (A:Option Addr) (c:Nat) (code:List Nd) (w0 w:World) (hB:Below w0.heap.size w0 w) (Gy:code.length ≤ 1048576) (ho:Kd.R uh 70 w w0.heap.size P_ (.slice A code.length c) code) :
  Calls Try.prog 68 #[.slice A code.length c] w fun e w'=>e = .returned (.tuple #[])∧Kd.R uh 70 w' w0.heap.size P_ (.slice A code.length c) (Un code)∧Below w0.heap.size w0 w'∧Kept w w' P_:=by
 obtain ⟨hn,hnc,hC⟩:=Kd.Dc ho;have C7:=hC.2.1;have HL:=ia.mk (show (Un code).length=code.length from Sh code);have HO:=ia.mk (Kd.Gc (Kd.Yh ho) (fun k_ hk=>(⟨hk.1,hk.2.2.1⟩:P_ k_∧k_ < w.heap.size)));have HB:=ia.mk hB;have J7:=ia.mk hB.size;have gU:=ia.mk (Kd.Bb HO.out (.cells #[] 70 (0,0)));have iP:=ia.mk (qa HB.out (.cells #[] 70 (0,0)));have EN:=ia.mk ((Kept.refl w P_).alloc (.cells #[] 70 (0,0)));have cG:=ia.mk (WX uh 70 w w.heap.size (Nat.le_refl _));have eg:=enters_of Try.func102 (by kernel_rfl) rfl;clear hC ho hB hn HO HB;go_enter Try.func68,Try.ntmps68;go_wp2
 go_loopg [2,11] code.length (fun gg v2 v11 wr=>∃ j:Nat,j ≤ code.length∧code.length - j ≤ gg∧v11 = .int .i64 j∧ia (Kd.R uh 70 wr w.heap.size (fun _=>True) v2 (Pg code j))∧ia (Kd.R uh 70 wr w0.heap.size (fun k_=>P_ k_∧k_ < w.heap.size) (.slice A code.length c) ((Un code).take j ++ code.drop j))∧ia (Below w0.heap.size w0 wr)∧ia (Kept w wr P_))
 case atStart=>exact ⟨0,Nat.zero_le _,by omega,rfl,⟨by simpa [Pg] using cG.out⟩,⟨by simpa using gU.out⟩,iP,EN⟩
 case round =>
  clear gU iP EN cG;(try clear HT);(try clear HO);(try clear HB);(try clear HK);obtain ⟨j,hj,hg,rfl,HT,HO,HB,HK⟩:=hrel;obtain ⟨B2,d2,rfl⟩:=Kd.Ze HT.out
  by_cases hlt:j < code.length
  ·have p1:0 ≤ (j:Int):=by omega
   have p2:(j:Int) < (code.length:Int):=by omega
   have zO:decide ((j:Int) < (code.length:Int))=true:=decide_eq_true p2;have qav:=oK code j;have hst:=HO.out;rw [nG code j hlt] at hst;have HO:=ia.mk hst;have hC:Kd.C uh wr A code.length (rm code j (oa code (j:Int))):=by have:=Kd.Dc HO.out;rw [← this.1] at this;exact this.2.2
   obtain ⟨ad,e1,hx0,hx1,Lo,Ko,Jo,Hv,Gv⟩:=Yd hC (j:Int) p1 p2;cases e1;obtain ⟨gb,rfl⟩:=Kd.UR HO.out;have iY:=ia.mk (And.intro ((Kd.Jl HO.out) gb rfl) (HO.out.1 gb rfl));have hat:=CP code j (oa code (j:Int)) hlt;rw [hat] at hx0 hx1 Lo Ko Jo Hv Gv;simp only [Int.toNat_natCast,add_plain] at hx0 hx1 Lo Ko Jo Hv Gv;have caq:=ia.mk (fun z z'=>QN code j z z' hlt);have Yaw:=ia.mk (fun z=>DD code j z hlt);have HE:=ia.mk (RN code j hlt);have HTS:=ia.mk (bD code j hlt);clear hst hat hC;generalize hX:(oa code (j:Int))=x at hx0 hx1 Lo Ko Jo Hv Gv HO HE HTS;clear hX
   go_upto_region 4 with (fail)
   have CO:=qa (Below.refl wr.heap.size wr) (.cells #[.int .i64 x.f0,.int .i64 x.f1,.int .i64 x.f2,.int .i64 x.f3,.int .i64 x.f4,.int .i64 x.f5,.string x.f6] 70 (0,0));have DY:=ak wr (.cells #[.int .i64 x.f0,.int .i64 x.f1,.int .i64 x.f2,.int .i64 x.f3,.int .i64 x.f4,.int .i64 x.f5,.string x.f6] 70 (0,0));generalize wr.alloc (.cells #[.int .i64 x.f0,.int .i64 x.f1,.int .i64 x.f2,.int .i64 x.f3,.int .i64 x.f4,.int .i64 x.f5,.string x.f6] 70 (0,0))=w4 at CO DY ⊢;have HT4:=ia.mk (Kd.Ic HT.out CO);have fY:=ia.mk (Kd.Ic HO.out CO);have sP:=ia.mk (Oa HB.out CO);have iB:=ia.mk (HK.out.below CO);have qP:=ia.mk DY;have hws:w.heap.size ≤ wr.heap.size:=HK.out.1;have HWS:=ia.mk hws;have HNB:=ia.mk (show some wr.heap.size ≠ (Value.slice B2 (Pg code j).length d2).ownBlock from fun e=>by have:=Kd.Yr HT.out wr.heap.size e.symm;omega);have hy0:=(ga qP.out 0).trans rfl;have hy1:=(ga qP.out 1).trans rfl;have wO:=(ga qP.out 2).trans rfl;have vO:=(ga qP.out 3).trans rfl;have sK:=(ga qP.out 4).trans rfl;have hy5:=(ga qP.out 5).trans rfl;have hy6:=(ga qP.out 6).trans rfl;clear CO DY hx0 hx1 Lo Ko Jo Hv Gv HT HO HB HK hws;generalize wr.heap.size=bx at qP HWS HNB hy0 hy1 wO vO sK hy5 hy6 ⊢
   by_cases o2:x.f0=2
   ·have b2:(x.f0 == 2)=true:=beq_iff_eq.2 o2;have HY:=ia.mk (show BP (Pg code j) x=(Pg code j).foldl (Ak x) x from by unfold BP;rw [if_pos o2]);have L7:=ia.mk o2;clear o2;have hm2:=(Kd.Dc HT4.out).2.2.2.1;go_wp2
    go_loopg [21] (Pg code j).length (fun gg v21 wq=>∃ m:Nat,m ≤ (Pg code j).length∧(Pg code j).length - m ≤ gg∧v21 = .int .i64 m∧ia (Kd.R uh 70 wq w.heap.size (fun _=>True) (.slice B2 (Pg code j).length d2) (Pg code j))∧ia (Kd.R uh 70 wq w0.heap.size (fun k_=>P_ k_∧k_ < w.heap.size) (.slice (some ⟨gb,0,none⟩) code.length c) (rm code j (((Pg code j).take m).foldl (Ak x) x)))∧ia (wq.heap[bx]? = some (.cells #[.int .i64 x.f0,.int .i64 x.f1,.int .i64 x.f2,.int .i64 x.f3,.int .i64 x.f4,.int .i64 x.f5,.string x.f6] 70 (0,0)))∧ia (Below w0.heap.size w0 wq)∧ia (Kept w wq P_))
    case atStart=>exact ⟨0,Nat.zero_le _,by omega,rfl,HT4,fY,qP,sP,iB⟩
    case round =>
     clear HT4 fY qP sP iB hy0 hy1 wO vO sK hy5 hy6;(try clear HT);(try clear HO);(try clear HX);(try clear HB);(try clear HK);obtain ⟨m,hm,nP,rfl,HT,HO,HX,HB,HK⟩:=hrel
     by_cases bao:m < (Pg code j).length
     ·have r1:0 ≤ (m:Int):=by omega
      have r2:(m:Int) < ((Pg code j).length:Int):=by omega
      have H9:decide ((m:Int) < ((Pg code j).length:Int))=true:=decide_eq_true r2;obtain ⟨ad2,e1,hz0,hz1,hz2,D8,C8,F2,hz6⟩:=Yd (Kd.Dc HT.out).2.2 (m:Int) r1 r2;cases e1;have HAS:=ia.mk (DH (Pg code j) x m bao);generalize hY:oa (Pg code j) (m:Int)=y at hz0 hz1 hz2 D8 C8 F2 hz6 HAS;clear hY;simp only [Int.toNat_natCast] at hz0 hz1 hz2 D8 C8 F2 hz6
      go_upto_region 8 with (fail)
      have dN:=qa (Below.refl wr.heap.size wr) (.cells #[.int .i64 y.f0,.int .i64 y.f1,.int .i64 y.f2,.int .i64 y.f3,.int .i64 y.f4,.int .i64 y.f5,.string y.f6] 70 (0,0));have R2:=ak wr (.cells #[.int .i64 y.f0,.int .i64 y.f1,.int .i64 y.f2,.int .i64 y.f3,.int .i64 y.f4,.int .i64 y.f5,.string y.f6] 70 (0,0));generalize wr.alloc (.cells #[.int .i64 y.f0,.int .i64 y.f1,.int .i64 y.f2,.int .i64 y.f3,.int .i64 y.f4,.int .i64 y.f5,.string y.f6] 70 (0,0))=w6 at dN R2 ⊢;have HT6:=ia.mk (Kd.Ic HT.out dN);have I0:=ia.mk (Kd.Ic HO.out dN);have NT:=ia.mk (Oa HB.out dN);have rP:=ia.mk (HK.out.below dN);have aY:=ia.mk (Sa HX.out dN);have CZ:=ia.mk R2;have hy0:=(ga aY.out 0).trans rfl;have hy1:=(ga aY.out 1).trans rfl;have wO:=(ga aY.out 2).trans rfl;have vO:=(ga aY.out 3).trans rfl;have sK:=(ga aY.out 4).trans rfl;have hy5:=(ga aY.out 5).trans rfl;have hy6:=(ga aY.out 6).trans rfl;have hk0:=(ga CZ.out 0).trans rfl;have hk1:=(ga CZ.out 1).trans rfl;have hk2:=(ga CZ.out 2).trans rfl;have hk3:=(ga CZ.out 3).trans rfl;have hk4:=(ga CZ.out 4).trans rfl;have hk5:=(ga CZ.out 5).trans rfl;have hk6:=(ga CZ.out 6).trans rfl;clear dN R2 hz0 hz1 hz2 D8 C8 F2 hz6 HT HO HB HK HX;generalize wr.heap.size=by_ at CZ hk0 hk1 hk2 hk3 hk4 hk5 hk6 ⊢
      by_cases SG:mI y x=true
      ·have hms:=SG;unfold mI at hms;simp only [Bool.and_eq_true] at hms;obtain ⟨c1,c2,c3⟩:=hms;have W6:=ia.mk (show Ak x (((Pg code j).take m).foldl (Ak x) x) y=B7 x y from by unfold Ak;rw [if_pos SG]);clear SG;obtain ⟨cs,Gy,hM,Pn,Yz⟩:=Kd.Ki I0.out vm (j:Int) (by omega) (by omega);obtain rfl:=Gw (Kd.dh _ hM);have he0:w6.cell? ⟨gb,Int.toNat (j:Int) * 7,none⟩=some (.int .i64 ((rm code j (((Pg code j).take m).foldl (Ak x) x)).getD (Int.toNat (j:Int)) vm).f0):=Pn 0 _ rfl;have hf0:w6.frozen? ⟨gb,Int.toNat (j:Int) * 7,none⟩=false:=Yz 0;have he1:w6.cell? ⟨gb,Int.toNat (j:Int) * 7 + 1,none⟩=some (.int .i64 ((rm code j (((Pg code j).take m).foldl (Ak x) x)).getD (Int.toNat (j:Int)) vm).f1):=Pn 1 _ rfl;have hf1:w6.frozen? ⟨gb,Int.toNat (j:Int) * 7 + 1,none⟩=false:=Yz 1;have he2:w6.cell? ⟨gb,Int.toNat (j:Int) * 7 + 2,none⟩=some (.int .i64 ((rm code j (((Pg code j).take m).foldl (Ak x) x)).getD (Int.toNat (j:Int)) vm).f2):=Pn 2 _ rfl;have hf2:w6.frozen? ⟨gb,Int.toNat (j:Int) * 7 + 2,none⟩=false:=Yz 2;have he3:w6.cell? ⟨gb,Int.toNat (j:Int) * 7 + 3,none⟩=some (.int .i64 ((rm code j (((Pg code j).take m).foldl (Ak x) x)).getD (Int.toNat (j:Int)) vm).f3):=Pn 3 _ rfl;have hf3:w6.frozen? ⟨gb,Int.toNat (j:Int) * 7 + 3,none⟩=false:=Yz 3;have he4:w6.cell? ⟨gb,Int.toNat (j:Int) * 7 + 4,none⟩=some (.int .i64 ((rm code j (((Pg code j).take m).foldl (Ak x) x)).getD (Int.toNat (j:Int)) vm).f4):=Pn 4 _ rfl;have hf4:w6.frozen? ⟨gb,Int.toNat (j:Int) * 7 + 4,none⟩=false:=Yz 4;have he5:w6.cell? ⟨gb,Int.toNat (j:Int) * 7 + 5,none⟩=some (.int .i64 ((rm code j (((Pg code j).take m).foldl (Ak x) x)).getD (Int.toNat (j:Int)) vm).f5):=Pn 5 _ rfl;have hf5:w6.frozen? ⟨gb,Int.toNat (j:Int) * 7 + 5,none⟩=false:=Yz 5;have he6:w6.cell? ⟨gb,Int.toNat (j:Int) * 7 + 6,none⟩=some (.string ((rm code j (((Pg code j).take m).foldl (Ak x) x)).getD (Int.toNat (j:Int)) vm).f6):=Pn 6 _ rfl;have hf6:w6.frozen? ⟨gb,Int.toNat (j:Int) * 7 + 6,none⟩=false:=Yz 6;have MF:=ia.mk (Kd.Fq I0.out (j:Int) (by omega) (by omega) Gy Pn (seg:=[.int .i64 1,.int .i64 x.f1,.int .i64 y.f1,.int .i64 0,.int .i64 0,.int .i64 0,.string ByteArray.empty]) (j:=0) (show 0 + 7 ≤ 7 from by decide) (x':=B7 x y) (Bl:=fun _=>False) (Xh _ _ _ (B7 x y)) (fun _ hk=>hk.elim));simp only [Int.toNat_natCast] at he0 he1 he2 he3 he4 he5 he6 hf0 hf1 hf2 hf3 hf4 hf5 hf6;clear Gy hM Pn Yz;go_wp2
       go_roundg ((Pg code j).length - (m + 1))
       case measure=>omega
       case rel =>
        have hgb:gb < w.heap.size:=iY.out.2.2;have hws:=HWS.out;refine ⟨m + 1,by omega,by omega,by go_num,⟨Kd.Gc (Kd.zF (Kd.Yh HT6.out) MF.out.2 (fun k_ hk e=>by injection e with e;have:=hk.2.1;omega)) (fun _ _=>trivial)⟩,⟨?_⟩,⟨ee aY.out MF.out.2 (fun e=>by injection e with e;omega)⟩,⟨NT.out.grown MF.out.2 NT.out.size (fun k_ e=>by injection e with e;rw [← e];exact iY.out.1)⟩,⟨Kept.gj MF.out.2 rP.out (fun k_ e=>Or.inl (by injection e with e;rw [← e];exact iY.out.2.1))⟩⟩;rw [HAS.out,W6.out,← caq.out (((Pg code j).take m).foldl (Ak x) x) (B7 x y)];exact MF.out.1
      ·have W6:=ia.mk (show Ak x (((Pg code j).take m).foldl (Ak x) x) y=((Pg code j).take m).foldl (Ak x) x from by unfold Ak;rw [if_neg SG])
       have G8:(y.f6.toList == x.f6.toList)=false ∨ ((y.f6.toList == x.f6.toList)=true∧(y.f2 == x.f2)=false) ∨ ((y.f6.toList == x.f6.toList)=true∧(y.f2 == x.f2)=true∧(y.f3 == x.f3)=false):=by
        unfold mI at SG;cases h1:(y.f6.toList == x.f6.toList) with
        | false=>exact Or.inl rfl
        | true =>
         cases h2:(y.f2 == x.f2) with
         | false=>exact Or.inr (Or.inl ⟨rfl,rfl⟩)
         | true =>
          cases h3:(y.f3 == x.f3) with
          | false=>exact Or.inr (Or.inr ⟨rfl,rfl,rfl⟩)
          | true=>rw [h1,h2,h3] at SG;exact absurd rfl SG
       clear SG
       rcases G8 with c1|⟨c1,c2⟩|⟨c1,c2,c3⟩
       all_goals
        go_wp2
        go_roundg ((Pg code j).length - (m + 1))
        case measure=>omega
        case rel=>exact ⟨m + 1,by omega,by omega,by go_num,HT6,⟨by rw [HAS.out,W6.out];exact I0.out⟩,aY,NT,rP⟩
     ·have H9:decide ((m:Int) < ((Pg code j).length:Int))=false:=decide_eq_false (by omega);obtain rfl:m=(Pg code j).length:=by omega
      have ho:=HO.out;rw [List.take_length,← HY.out,HE.out] at ho;have HO:=ia.mk ho;clear ho;have hx0:=(ga HX.out 0).trans rfl;have hx1:=(ga HX.out 1).trans rfl;have Lo:=(ga HX.out 2).trans rfl;have Ko:=(ga HX.out 3).trans rfl;have Jo:=(ga HX.out 4).trans rfl;have Hv:=(ga HX.out 5).trans rfl;have Gv:=(ga HX.out 6).trans rfl
      go_upto_region 12 with (first|(go_at_call 91;(with_reducible refine (eD x _).mono ?_);rintro e w8 ⟨rfl,BO⟩;have HT8:=ia.mk (Kd.Ic HT.out BO);have HO8:=ia.mk (Kd.Ic HO.out BO);have U0:=ia.mk (Oa HB.out BO);have HK8:=ia.mk (HK.out.below BO);have HX8:=ia.mk (Sa HX.out BO);clear BO HT HO HB HK HX hx0 hx1 Lo Ko Jo Hv Gv))
      have ZI:=qa (Below.refl w8.heap.size w8) (.cells #[.int .i64 (Zd x)] 3 (0,0));have vU:=ak w8 (.cells #[.int .i64 (Zd x)] 3 (0,0));generalize w8.alloc (.cells #[.int .i64 (Zd x)] 3 (0,0))=w9 at ZI vU ⊢;have cG:=ia.mk (Kd.Ic HT8.out ZI);have gU:=ia.mk (Kd.Ic HO8.out ZI);have iP:=ia.mk (Oa U0.out ZI);have EN:=ia.mk (HK8.out.below ZI);have HX9:=ia.mk (Sa HX8.out ZI);have xT:=ia.mk vU;have yU:=(ga vU 0).trans rfl;clear ZI vU HT8 HO8 U0 HK8 HX8;generalize w8.heap.size=q at xT yU ⊢
      by_cases hd:Zd x < 0
      ·have hdb:decide (Zd x < 0)=true:=decide_eq_true hd;have nT:=ia.mk (show Pg code (j + 1)=Pg code j from by rw [HTS.out];unfold PN;rw [if_pos hd]);clear hd;go_wp2
       go_roundg (code.length - (j + 1))
       case measure=>omega
       case rel=>exact ⟨j + 1,by omega,by omega,by go_num,⟨by rw [nT.out];exact cG.out⟩,gU,iP,EN⟩
      ·have hdb:decide (Zd x < 0)=false:=decide_eq_false hd;have nT:=ia.mk (show Pg code (j + 1)=if x.f0=2∧¬ x.f2=Zd x∧¬ x.f3=Zd x then ((Pg code j).filter (fun y=>!Wo (Zd x) y)) ++ [x] else ((Pg code j).filter (fun y=>!Wo (Zd x) y)) from by rw [HTS.out];unfold PN;rw [if_neg hd]);have HDC:=ia.mk (Mv 102 #[.pointer (some ⟨q,0,none⟩)] (Wo (Zd x)) eg (fun k_=>some k_=(Value.slice B2 (Pg code j).length d2).ownBlock) B2 d2 (Pg code j) w.heap.size w9 w9 (Below.mono (Below.refl _ _) EN.out.1) EN.out.1 (Kd.gv rfl cG.out) (fun W y hk=>aD q (Zd x) y W (Fo yU hk (fun e=>Kd.Xr cG.out xT.out (by decide) e))));clear hd;have hfl:=List.length_filter_le (fun y=>!Wo (Zd x) y) (Pg code j)
       go_upto_region 14 with (first|(go_at_call 101;(with_reducible refine HDC.out.mono ?_);rintro e Lq ⟨rfl,ht,hb,hk⟩;have UJ:=ia.mk (Kd.Gc ht (fun _ _=>(trivial:True)));have ET:=ia.mk (Kd.Zr gU.out hk (fun k_ h1 h2=>by have:=Kd.Jl cG.out k_ h2.symm;have:=h1.2;omega));have YH:=ia.mk (iP.out.trans (hb.mono J7.out));have aK:=ia.mk (EN.out.Mz hk (fun k_ e=>Or.inr (Kd.Jl cG.out k_ e.symm)));have gw:=ia.mk (Ii HX9.out hk HNB.out);have J6:=ia.mk (Ii xT.out hk (fun e=>Kd.Xr cG.out xT.out (by decide) e));clear ht hb hk cG gU iP EN HX9 xT yU))
       have yU:=(ga J6.out 0).trans rfl;have hx0:=(ga gw.out 0).trans rfl;have hx1:=(ga gw.out 1).trans rfl;have Lo:=(ga gw.out 2).trans rfl;have Ko:=(ga gw.out 3).trans rfl;have Jo:=(ga gw.out 4).trans rfl;have Hv:=(ga gw.out 5).trans rfl;have Gv:=(ga gw.out 6).trans rfl
       by_cases ha:x.f2=Zd x
       ·have b3:(x.f2 != Zd x)=false:=by rw [bne_eq_false_iff_eq];exact ha
        have HHA:=ia.mk ha;clear ha;go_wp2
        go_roundg (code.length - (j + 1))
        case measure=>omega
        case rel=>exact ⟨j + 1,by omega,by omega,by go_num,⟨by rw [nT.out,if_neg (fun h=>h.2.1 HHA.out)];exact UJ.out⟩,ET,YH,aK⟩
       ·have b3:(x.f2 != Zd x)=true:=by rw [bne_iff_ne];exact ha
        have HHA:=ia.mk ha;clear ha
        by_cases D7:x.f3=Zd x
        ·have b4:(x.f3 != Zd x)=false:=by rw [bne_eq_false_iff_eq];exact D7
         have HHB:=ia.mk D7;clear D7;go_wp2
         go_roundg (code.length - (j + 1))
         case measure=>omega
         case rel=>exact ⟨j + 1,by omega,by omega,by go_num,⟨by rw [nT.out,if_neg (fun h=>h.2.2 HHB.out)];exact UJ.out⟩,ET,YH,aK⟩
        ·have b4:(x.f3 != Zd x)=true:=by rw [bne_iff_ne];exact D7
         have nT:=ia.mk (show Pg code (j + 1)=((Pg code j).filter (fun y=>!Wo (Zd x) y)) ++ [x] from by rw [nT.out,if_pos ⟨L7.out,HHA.out,D7⟩]);clear D7;go_wp2_with (first|(at_builtin;(refine Kd.pn uh (w0:=Lq) w.heap.size rfl (.tmp 75) (.tmp 77) 66 70 (.agg #[(.int .i64 0),(.int .i64 0),(.int .i64 0),(.int .i64 0),(.int .i64 0),(.int .i64 0),(.string ByteArray.empty)]) 64 rfl ?a1 ?a2 rfl ?a3 ?a4 ?v ((Pg code j).filter (fun y=>!Wo (Zd x) y)) x [.int .i64 x.f0,.int .i64 x.f1,.int .i64 x.f2,.int .i64 x.f3,.int .i64 x.f4,.int .i64 x.f5,.string x.f6] (fun _=>True) (fun _=>False) ?a5 ?a6 ?aP (fun _ hk=>hk.elim) ?a7 ?a8 ?a9 ?b1 ?b2 ?_);(case a1=>exact Try.underlying66);(case a2=>exact Io);(case a3=>decide);(case a4=>omega);(case a5=>rfl);(case a6=>rfl);(case aP=>exact Xh _ _ _ x);(case a7=>exact fun _ _=>trivial);(case a8=>exact UJ.out);(case a9=>exact (Below.mono (Below.refl _ _) aK.out.1));(case b1=>exact aK.out.1);(case b2=>omega);intro v1 Aj ht hb hgr hat;rw [← nT.out] at ht;have baq:=ia.mk ht;have gaq:=ia.mk (Kd.zF ET.out hgr (fun k_ h1 h2=>by have:=Kd.Jl UJ.out k_ h2.symm;have:=h1.2;omega));have eK:=ia.mk (YH.out.trans (hb.mono J7.out));have jaq:=ia.mk (Kept.gj hgr aK.out (fun k_ e=>Or.inr (Kd.Jl UJ.out k_ e)));obtain ⟨B11,d11,rfl⟩:=Kd.Ze ht;clear ht hb hgr hat))
         go_roundg (code.length - (j + 1))
         case measure=>omega
         case rel=>exact ⟨j + 1,by omega,by omega,by go_num,baq,gaq,eK,jaq⟩
   ·have b2:(x.f0 == 2)=false:=beq_eq_false_iff_ne.2 o2;have HY:=ia.mk (show BP (Pg code j) x=x from by unfold BP;rw [if_neg o2]);have L7:=ia.mk o2;clear o2;have ho:=fY.out;rw [← HY.out] at ho;rw [HE.out] at ho;have HO:=ia.mk ho;have HT:=HT4;have HX:=qP;have HB:=sP;have HK:=iB;clear ho fY HT4 qP sP iB hy0 hy1 wO vO sK hy5 hy6;have hx0:=(ga HX.out 0).trans rfl;have hx1:=(ga HX.out 1).trans rfl;have Lo:=(ga HX.out 2).trans rfl;have Ko:=(ga HX.out 3).trans rfl;have Jo:=(ga HX.out 4).trans rfl;have Hv:=(ga HX.out 5).trans rfl;have Gv:=(ga HX.out 6).trans rfl
    go_upto_region 12 with (first|(go_at_call 91;(with_reducible refine (eD x _).mono ?_);rintro e w8 ⟨rfl,BO⟩;have HT8:=ia.mk (Kd.Ic HT.out BO);have HO8:=ia.mk (Kd.Ic HO.out BO);have U0:=ia.mk (Oa HB.out BO);have HK8:=ia.mk (HK.out.below BO);have HX8:=ia.mk (Sa HX.out BO);clear BO HT HO HB HK HX hx0 hx1 Lo Ko Jo Hv Gv))
    have ZI:=qa (Below.refl w8.heap.size w8) (.cells #[.int .i64 (Zd x)] 3 (0,0));have vU:=ak w8 (.cells #[.int .i64 (Zd x)] 3 (0,0));generalize w8.alloc (.cells #[.int .i64 (Zd x)] 3 (0,0))=w9 at ZI vU ⊢;have cG:=ia.mk (Kd.Ic HT8.out ZI);have gU:=ia.mk (Kd.Ic HO8.out ZI);have iP:=ia.mk (Oa U0.out ZI);have EN:=ia.mk (HK8.out.below ZI);have HX9:=ia.mk (Sa HX8.out ZI);have xT:=ia.mk vU;have yU:=(ga vU 0).trans rfl;clear ZI vU HT8 HO8 U0 HK8 HX8;generalize w8.heap.size=q at xT yU ⊢
    by_cases hd:Zd x < 0
    ·have hdb:decide (Zd x < 0)=true:=decide_eq_true hd;have nT:=ia.mk (show Pg code (j + 1)=Pg code j from by rw [HTS.out];unfold PN;rw [if_pos hd]);clear hd;go_wp2
     go_roundg (code.length - (j + 1))
     case measure=>omega
     case rel=>exact ⟨j + 1,by omega,by omega,by go_num,⟨by rw [nT.out];exact cG.out⟩,gU,iP,EN⟩
    ·have hdb:decide (Zd x < 0)=false:=decide_eq_false hd;have nT:=ia.mk (show Pg code (j + 1)=if x.f0=2∧¬ x.f2=Zd x∧¬ x.f3=Zd x then ((Pg code j).filter (fun y=>!Wo (Zd x) y)) ++ [x] else ((Pg code j).filter (fun y=>!Wo (Zd x) y)) from by rw [HTS.out];unfold PN;rw [if_neg hd]);have HDC:=ia.mk (Mv 102 #[.pointer (some ⟨q,0,none⟩)] (Wo (Zd x)) eg (fun k_=>some k_=(Value.slice B2 (Pg code j).length d2).ownBlock) B2 d2 (Pg code j) w.heap.size w9 w9 (Below.mono (Below.refl _ _) EN.out.1) EN.out.1 (Kd.gv rfl cG.out) (fun W y hk=>aD q (Zd x) y W (Fo yU hk (fun e=>Kd.Xr cG.out xT.out (by decide) e))));clear hd;have hfl:=List.length_filter_le (fun y=>!Wo (Zd x) y) (Pg code j)
     go_upto_region 14 with (first|(go_at_call 101;(with_reducible refine HDC.out.mono ?_);rintro e Lq ⟨rfl,ht,hb,hk⟩;have UJ:=ia.mk (Kd.Gc ht (fun _ _=>(trivial:True)));have ET:=ia.mk (Kd.Zr gU.out hk (fun k_ h1 h2=>by have:=Kd.Jl cG.out k_ h2.symm;have:=h1.2;omega));have YH:=ia.mk (iP.out.trans (hb.mono J7.out));have aK:=ia.mk (EN.out.Mz hk (fun k_ e=>Or.inr (Kd.Jl cG.out k_ e.symm)));have gw:=ia.mk (Ii HX9.out hk HNB.out);have J6:=ia.mk (Ii xT.out hk (fun e=>Kd.Xr cG.out xT.out (by decide) e));clear ht hb hk cG gU iP EN HX9 xT yU))
     have yU:=(ga J6.out 0).trans rfl;have hx0:=(ga gw.out 0).trans rfl;have hx1:=(ga gw.out 1).trans rfl;have Lo:=(ga gw.out 2).trans rfl;have Ko:=(ga gw.out 3).trans rfl;have Jo:=(ga gw.out 4).trans rfl;have Hv:=(ga gw.out 5).trans rfl;have Gv:=(ga gw.out 6).trans rfl;go_wp2
     go_roundg (code.length - (j + 1))
     case measure=>omega
     case rel=>exact ⟨j + 1,by omega,by omega,by go_num,⟨by rw [nT.out,if_neg (fun h=>L7.out h.1)];exact UJ.out⟩,ET,YH,aK⟩
  ·have zO:decide ((j:Int) < (code.length:Int))=false:=decide_eq_false (by omega);obtain rfl:j=code.length:=by omega
   go_wp2;refine bodyPost_end (v:=.tuple #[]) ?_ rfl ?_
   ·kernel_rfl
   have h:=HO.out;rw [List.drop_length,List.append_nil,List.take_of_length_le (by rw [HL.out];omega)] at h;exact ⟨rfl,Kd.Gc h (fun _ hk=>hk.1),HB.out,HK.out⟩
def XF (b:Vf):Vf:=⟨Un b.f0,b.f1,b.f2,b.f3,b.f4⟩
def Hj.f (k:Nat) (Ta:List Int) (Ra:Int) (Qa:Int) (Pa:Int) (La:List (Vf)):Option (List Int × Int × Int × Int × List (Vf)) :=
 (ue.f k Ta Ra Qa Pa La).bind fun G=>(Jc.f k Ta Ra Qa Pa La).bind fun t =>
  if t=true then
   if (G.2.2.2.2.all fun b=>decide (b.f0.length ≤ 1048576))=true then some (G.1,G.2.1,G.2.2.1,G.2.2.2.1,G.2.2.2.2.map XF) else none
  else some G
theorem Hj.calls (k:Nat) (Jb:Option Addr) (Ib:Nat) (Ta:List Int) (Ra:Int) (Qa:Int) (Pa:Int) (nc:Option Addr) (dc:Nat) (La:List (Vf)) (r1:List Int) (r2:Int) (r3:Int) (r4:Int) (r5:List (Vf)) (w:World) (pg:Kd.C (Kd.int .i64) w Jb Ta.length Ta) (kg:Ta.length ≤ Ib) (wh:Kd.C dm w nc La.length La) (qh:La.length ≤ dc) (h:Hj.f k Ta Ra Qa Pa La=some (r1,r2,r3,r4,r5)) :
  Calls Try.prog 28 #[.agg #[.slice Jb Ta.length Ib,.int .i64 Ra,.int .i64 Qa,.int .i64 Pa,.slice nc La.length dc]] w fun e w'=>∃ qw lK:Value,e = .returned (.agg #[qw,.int .i64 r2,.int .i64 r3,.int .i64 r4,lK])∧Kd.R (Kd.int .i64) 3 w' w.heap.size (fun _=>True) qw r1∧Kd.S dm 68 w' w.heap.size (fun _=>True) lK r5∧Below w.heap.size w w':=by
 unfold Hj.f at h;obtain ⟨⟨g1,g2,g3,g4,g5⟩,tG,h⟩:=Option.bind_eq_some_iff.mp h;obtain ⟨t,tT,h⟩:=Option.bind_eq_some_iff.mp h;have TG:=ia.mk tG;have TT_:=ia.mk tT;obtain ⟨W1,Xg⟩:∃ W1,W1=(w.alloc (.cells #[.slice Jb Ta.length Ib,.int .i64 Ra,.int .i64 Qa,.int .i64 Pa,.slice nc La.length dc] 30 (0,0))).alloc (.cells #[.slice none 0 0,.int .i64 0,.int .i64 0,.int .i64 0,.slice none 0 0] 30 (0,0)):=⟨_,rfl⟩;have HW:=ia.mk Xg;have nZ:Below w.heap.size w W1:=by rw [Xg];exact qa (qa (Below.refl _ _) _) _
 have HX:=ia.mk (show W1.heap[w.heap.size]? = some (.cells #[.slice Jb Ta.length Ib,.int .i64 Ra,.int .i64 Qa,.int .i64 Pa,.slice nc La.length dc] 30 (0,0)) by rw [Xg];exact Aa (ak _ _) _);have HZ:=ia.mk (show W1.heap[w.heap.size + 1]? = some (.cells #[.slice none 0 0,.int .i64 0,.int .i64 0,.int .i64 0,.slice none 0 0] 30 (0,0)) by rw [Xg];have:=ak (w.alloc (.cells #[.slice Jb Ta.length Ib,.int .i64 Ra,.int .i64 Qa,.int .i64 Pa,.slice nc La.length dc] 30 (0,0))) (.cells #[.slice none 0 0,.int .i64 0,.int .i64 0,.int .i64 0,.slice none 0 0] 30 (0,0));simpa using this);have HB:=ia.mk nZ;have Jh:=ia.mk pg;have eU:=ia.mk wh;have iU:=ia.mk kg;have hU:=ia.mk qh;have HH:=ia.mk h;have hx0:=(ga HX.out 0).trans rfl;have hx1:=(ga HX.out 1).trans rfl;have Lo:=(ga HX.out 2).trans rfl;have Ko:=(ga HX.out 3).trans rfl;have Jo:=(ga HX.out 4).trans rfl;clear Xg nZ pg wh kg qh h tG tT;go_enter Try.func28,Try.ntmps28
 go_upto_region 1 with (fail)
 rw [← HW.out];clear HW
 go_upto_region 2 with (first|(go_at_call 67;(with_reducible refine (ue.calls k Jb Ib Ta Ra Qa Pa nc dc La g1 g2 g3 g4 g5 W1 (Kd.ec Jh.out HB.out) iU.out (Kd.ec eU.out HB.out) hU.out TG.out).mono ?_);rintro e w2 ⟨v0,v4,rfl,Yl,Hq,hb⟩;obtain ⟨B0,d0,rfl⟩:=Kd.Ze Yl;obtain ⟨B4,d4,rfl⟩:=Kd.Qk Hq;have L7:=ia.mk (Kd.Kh Yl HB.out.size);have HS2:=ia.mk (Kd.Oy Hq HB.out.size);have Ns:=ia.mk (Oa HB.out hb);have HX2:=ia.mk (Sa HX.out hb);have HZ2:=ia.mk (Sa HZ.out hb);clear Yl Hq hb HB HX HZ hx0 hx1 Lo Ko Jo))
 have gR:=qa (Below.refl w2.heap.size w2) (.cells #[.slice B0 g1.length d0,.int .i64 g2,.int .i64 g3,.int .i64 g4,.slice B4 g5.length d4] 30 (0,0));have K8:=ak w2 (.cells #[.slice B0 g1.length d0,.int .i64 g2,.int .i64 g3,.int .i64 g4,.slice B4 g5.length d4] 30 (0,0));generalize w2.alloc (.cells #[.slice B0 g1.length d0,.int .i64 g2,.int .i64 g3,.int .i64 g4,.slice B4 g5.length d4] 30 (0,0))=w3 at gR K8 ⊢;have HO3:=ia.mk (Kd.Ic L7.out gR);have HS3:=ia.mk (Kd.Ng HS2.out gR);have dK:=ia.mk (Oa Ns.out gR);have H6:=ia.mk (Sa HX2.out gR);have HZ3:=ia.mk (Sa HZ2.out gR);have HV3:=ia.mk K8;have HQ3:=ia.mk (show w.heap.size + 1 < w2.heap.size from Mc HZ2.out);have hx0:=(ga H6.out 0).trans rfl;have hx1:=(ga H6.out 1).trans rfl;have Lo:=(ga H6.out 2).trans rfl;have Ko:=(ga H6.out 3).trans rfl;have Jo:=(ga H6.out 4).trans rfl;clear gR K8 L7 HS2 Ns HX2 HZ2;generalize w2.heap.size=b3 at HV3 HQ3 ⊢;cases t with
 | false =>
  have h:=HH.out;rw [if_neg (by simp)] at h;cases h
  go_upto_region 3 with (first|(go_at_call 57;(with_reducible refine (Jc.calls k Jb Ib Ta Ra Qa Pa nc dc La false w3 (Kd.ec Jh.out dK.out) iU.out (Kd.ec eU.out dK.out) hU.out TT_.out).mono ?_);rintro e w4 ⟨rfl,hb⟩;have fY:=ia.mk (Kd.Ic HO3.out hb);have HS4:=ia.mk (Kd.Ng HS3.out hb);have sP:=ia.mk (Oa dK.out hb);have uN:=ia.mk (Sa HZ3.out hb);have cY:=ia.mk (Sa HV3.out hb);clear hb HO3 HS3 dK H6 HZ3 HV3 hx0 hx1 Lo Ko Jo))
  have hv0:=(ga cY.out 0).trans rfl;have hv1:=(ga cY.out 1).trans rfl;have hv2:=(ga cY.out 2).trans rfl;have K8:=(ga cY.out 3).trans rfl;have DY:=(ga cY.out 4).trans rfl;have hz0:=(ga uN.out 0).trans rfl;have han:=aa uN.out 0;have hz1:=(ga uN.out 1).trans rfl;have gan:=aa uN.out 1;have hz2:=(ga uN.out 2).trans rfl;have fan:=aa uN.out 2;have D8:=(ga uN.out 3).trans rfl;have ean:=aa uN.out 3;have C8:=(ga uN.out 4).trans rfl;have dan:=aa uN.out 4;go_wp2;have gY:=nD (z:=w.heap.size + 1) (g2:=r2) (g3:=r3) (g4:=r4) uN.out fY.out HS4.out sP.out (Nat.le_succ _);refine bodyPost_ret (results_cell_row rfl _ _ (w.heap.size + 1) 30 #[.slice B0 r1.length d0,.int .i64 r2,.int .i64 r3,.int .i64 r4,.slice B4 r5.length d4] (0,0) _ rfl gY.1 Try.underlying30 rfl (by kernel_rfl)) rfl ?_;exact ⟨_,_,rfl,gY.2.1,gY.2.2.1,gY.2.2.2⟩
 | true =>
  have h:=HH.out;rw [if_pos rfl] at h
  by_cases hok:(g5.all fun b=>decide (b.f0.length ≤ 1048576))=true
  case neg=>rw [if_neg hok] at h;cases h
  rw [if_pos hok] at h;cases h;simp only [List.all_eq_true,decide_eq_true_eq] at hok;have HOK:=ia.mk hok;clear hok
  go_upto_region 4 with (first|(go_at_call 57;(with_reducible refine (Jc.calls k Jb Ib Ta Ra Qa Pa nc dc La true w3 (Kd.ec Jh.out dK.out) iU.out (Kd.ec eU.out dK.out) hU.out TT_.out).mono ?_);rintro e w4 ⟨rfl,hb⟩;have fY:=ia.mk (Kd.Ic HO3.out hb);have HS4:=ia.mk (Kd.Ng HS3.out hb);have sP:=ia.mk (Oa dK.out hb);have uN:=ia.mk (Sa HZ3.out hb);have cY:=ia.mk (Sa HV3.out hb);clear hb HO3 HS3 dK H6 HZ3 HV3 hx0 hx1 Lo Ko Jo))
  have DY:=(ga cY.out 4).trans rfl;have hm5:=(Kd.Cg HS4.out).2.2.2.1;go_wp2;clear DY
  go_loopg [14] g5.length (fun gg v14 wr=>∃ j:Nat,j ≤ g5.length∧g5.length - j ≤ gg∧v14 = .int .i64 j∧ia (Kd.S dm 68 wr w.heap.size (fun _=>True) (.slice B4 g5.length d4) ((g5.map XF).take j ++ g5.drop j))∧ia (Kd.R (Kd.int .i64) 3 wr w.heap.size (fun _=>True) (.slice B0 r1.length d0) r1)∧ia (wr.heap[b3]? = some (.cells #[.slice B0 r1.length d0,.int .i64 r2,.int .i64 r3,.int .i64 r4,.slice B4 g5.length d4] 30 (0,0)))∧ia (wr.heap[w.heap.size + 1]? = some (.cells #[.slice none 0 0,.int .i64 0,.int .i64 0,.int .i64 0,.slice none 0 0] 30 (0,0)))∧ia (Below w.heap.size w wr))
  case atStart=>exact ⟨0,Nat.zero_le _,by omega,rfl,⟨by simpa using HS4.out⟩,fY,cY,uN,sP⟩
  case round =>
   clear HS4 fY cY uN sP;(try clear HS);(try clear HO);(try clear HV);(try clear HZ);(try clear HB);obtain ⟨j,hj,hg,rfl,HS,HO,HV,HZ,HB⟩:=hrel
   by_cases hlt:j < g5.length
   ·have p2:(j:Int) < (g5.length:Int):=by omega
    have zO:decide ((j:Int) < (g5.length:Int))=true:=decide_eq_true p2;have ot:g5.drop j=g5[j] :: g5.drop (j + 1):=List.drop_eq_getElem_cons hlt;have hlen:((g5.map XF).take j ++ g5.drop j).length=g5.length:=by rw [List.length_append,List.length_take,List.length_map,List.length_drop];omega
    obtain ⟨g,cap,e1,hbg,lao,cells,qt⟩:=Kd.CJ HS.out (by rw [hlen];omega);obtain rfl:B4=some ⟨g,0,none⟩:=by injection e1
    clear e1;obtain ⟨xq,cs,hcs,hM,Pn,Yz,II,hH⟩:=Kd.yF (Kd.cv HS.out) IC (j:Int) (by omega) (by omega)
    have hx:((g5.map XF).take j ++ g5.drop j).getD (Int.toNat (j:Int)) IC=g5[j]:=by
     rw [ot,Int.toNat_natCast,List.getD_eq_getElem?_getD,List.getElem?_append_right (by rw [List.length_take];omega),List.length_take,List.length_map,Nat.min_eq_left (by omega),Nat.sub_self];simp [List.getElem?_eq_getElem hlt]
    rw [hx] at hM;obtain ⟨v0,rfl,hR⟩:=Lt hM;obtain ⟨A5,c5,rfl⟩:=Kd.Ze hR;have y0:=Pn 0 _ rfl;simp only [Int.toNat_natCast,show dm.sz=5 from rfl,Nat.add_zero] at y0;have HCC:=ia.mk (And.intro (Pn 1 _ rfl) (And.intro (Pn 2 _ rfl) (And.intro (Pn 3 _ rfl) (Pn 4 _ rfl))));have HH2:=ia.mk hH;have HR5:=ia.mk hR;have HOI:=ia.mk II;have HCL:=ia.mk (HOK.out g5[j] (List.getElem_mem hlt));have HDR:=ia.mk ot;have HLN:=ia.mk (show ((g5.map XF).take j).length=j by rw [List.length_take,List.length_map];omega);have DY:=(ga HV.out 4).trans rfl;clear hH hR Pn Yz hM hx II ot hcs qt;go_wp2_with (first|(go_at_call 68;(with_reducible refine (mG xq _ _ g5[j].f0 w wr HB.out HCL.out HR5.out).mono ?_);rintro e w5 ⟨rfl,hr,hb,hk⟩;have HR6:=ia.mk hr;have NT:=ia.mk hb;have rP:=ia.mk hk;clear hr hb hk));have dU:=ia.mk (Ii HV.out rP.out (fun h=>jz HV.out (by decide) (HOI.out _ h).1.2.2.2));have HZ6:=ia.mk (Ii HZ.out rP.out (fun h=>jz HZ.out (by decide) (HOI.out _ h).1.2.2.2))
    have I0:=ia.mk (Kd.Gc (Kd.Zr (Kd.Yh HO.out) rP.out (fun k_ hk h=>by
     obtain ⟨_,_,_,q,hq,cells,hc⟩:=hk;rw [List.mem_singleton.1 (show q ∈ [3] from hq)] at hc
     exact jz hc (by decide) (HOI.out _ h).1.2.2.2)) (fun _ _=>(trivial:True)))
    have HH6:=Kd.cS HH2.out rP.out (fun k_ _ hn hs=>hn hs);have cW:=Kd.JJ HH6 (x':=XF g5[j]) (Mt _ _ _ (XF g5[j]) HR6.out) (fun _ h=>h)
    go_roundg (g5.length - (j + 1))
    case measure=>omega
    case rel =>
     refine ⟨j + 1,by omega,by omega,by go_num,⟨?_⟩,I0,dU,HZ6,NT⟩
     have FI:((g5.map XF).take j ++ g5.drop j).set (Int.toNat (j:Int)) (XF g5[j])=(g5.map XF).take (j + 1) ++ g5.drop (j + 1):=by
      rw [HDR.out,Int.toNat_natCast,ED _ _ HLN.out,List.take_succ_eq_append_getElem (by rw [List.length_map];exact hlt),List.getElem_map]
     rw [← FI];exact Kd.Ph cW (fun _ _=>trivial)
   ·have zO:decide ((j:Int) < (g5.length:Int))=false:=decide_eq_false (by omega);obtain rfl:j=g5.length:=by omega
    have hs:=HS.out;rw [List.drop_length,List.append_nil,List.take_of_length_le (by rw [List.length_map];omega)] at hs;have HS:=ia.mk hs;clear hs;have hv0:=(ga HV.out 0).trans rfl;have hv1:=(ga HV.out 1).trans rfl;have hv2:=(ga HV.out 2).trans rfl;have K8:=(ga HV.out 3).trans rfl;have DY:=(ga HV.out 4).trans rfl;have hz0:=(ga HZ.out 0).trans rfl;have han:=aa HZ.out 0;have hz1:=(ga HZ.out 1).trans rfl;have gan:=aa HZ.out 1;have hz2:=(ga HZ.out 2).trans rfl;have fan:=aa HZ.out 2;have D8:=(ga HZ.out 3).trans rfl;have ean:=aa HZ.out 3;have C8:=(ga HZ.out 4).trans rfl;have dan:=aa HZ.out 4;go_wp2;have gY:=nD (z:=w.heap.size + 1) (g2:=r2) (g3:=r3) (g4:=r4) HZ.out HO.out HS.out HB.out (Nat.le_succ _);refine bodyPost_ret (results_cell_row rfl _ _ (w.heap.size + 1) 30 #[.slice B0 r1.length d0,.int .i64 r2,.int .i64 r3,.int .i64 r4,.slice B4 g5.length d4] (0,0) _ rfl gY.1 Try.underlying30 rfl (by kernel_rfl)) rfl ?_;exact ⟨_,_,rfl,gY.2.1,gY.2.2.1,gY.2.2.2⟩
def Ah.f (k:Nat) (Ta:List Int) (Ra:Int) (Qa:Int) (Pa:Int) (La:List qm):Option Bool :=
 (jj.f k Ta Ra Qa Pa La 1048576).bind fun s=>if s < 0 then some true else
 (Th.f k Ta Ra Qa Pa La).bind fun G =>
 (qe.f k G.1 G.2.1 G.2.2.1 G.2.2.2.1 G.2.2.2.2).bind fun x =>
 (Hj.f k G.1 G.2.1 G.2.2.1 G.2.2.2.1 G.2.2.2.2).bind fun y =>
 (zh.f k y.1 y.2.1 y.2.2.1 y.2.2.2.1 y.2.2.2.2 x.1 x.2.1 x.2.2.1 x.2.2.2.1 x.2.2.2.2).bind fun e1=>if e1=true then
 (zh.f k G.1 G.2.1 G.2.2.1 G.2.2.2.1 G.2.2.2.2 G.1 G.2.1 G.2.2.1 G.2.2.2.1 G.2.2.2.2).bind fun e2=>if e2=true then
 (bh.f k G.1 G.2.1 G.2.2.1 G.2.2.2.1 G.2.2.2.2 1).bind fun M=>if M.1 < 0 then none else
 (bh.f k y.1 y.2.1 y.2.2.1 y.2.2.2.1 y.2.2.2.2 1).bind fun m=>(Hi.f k m.2.1 y.2.1 y.2.2.1 y.2.2.2.1 m.2.2 1).bind fun q=>if q < 0 then none else if q=m.1 then some true else none
 else none else none
theorem Ah.calls (k:Nat) (Jb:Option Addr) (Ib:Nat) (Ta:List Int) (Ra:Int) (Qa:Int) (Pa:Int) (nc:Option Addr) (dc:Nat) (La:List qm) (r:Bool) (w:World) (pg:Kd.C (Kd.int .i64) w Jb Ta.length Ta) (kg:Ta.length ≤ Ib) (wh:Kd.C LB w nc La.length La) (qh:La.length ≤ dc) (h:Ah.f k Ta Ra Qa Pa La=some r) :
  Calls Try.prog 6 #[.agg #[.slice Jb Ta.length Ib,.int .i64 Ra,.int .i64 Qa,.int .i64 Pa,.slice nc La.length dc]] w fun e w'=>e = .returned (.bool r)∧Below w.heap.size w w':=by
 unfold Ah.f at h;obtain ⟨s,hs,h⟩:=Option.bind_eq_some_iff.mp h;have J7:=ia.mk hs;have Jh:=ia.mk pg;have eU:=ia.mk wh;have iU:=ia.mk kg;have hU:=ia.mk qh;obtain ⟨W1,Xg⟩:∃ W1,W1=w.alloc (.cells #[.slice Jb Ta.length Ib,.int .i64 Ra,.int .i64 Qa,.int .i64 Pa,.slice nc La.length dc] 25 (0,0)):=⟨_,rfl⟩;have HW:=ia.mk Xg;have dG:=ia.mk (show Below w.heap.size w W1 by rw [Xg];exact qa (Below.refl _ _) _);have gP:=ia.mk (show W1.heap[w.heap.size]? = some (.cells #[.slice Jb Ta.length Ib,.int .i64 Ra,.int .i64 Qa,.int .i64 Pa,.slice nc La.length dc] 25 (0,0)) by rw [Xg];exact ak _ _);clear hs pg wh kg qh Xg
 by_cases hneg:s < 0
 ·rw [if_pos hneg] at h;obtain rfl:=Option.some.inj h;have hnb:decide (s < 0)=true:=decide_eq_true hneg;clear h hneg;have JQ:=(ga gP.out 0).trans rfl;have bI:=(ga gP.out 1).trans rfl;have nP:=(ga gP.out 2).trans rfl;have MI:=(ga gP.out 3).trans rfl;have LI:=(ga gP.out 4).trans rfl;go_enter Try.func6,Try.ntmps6
  go_upto_region 1 with (fail)
  rw [← HW.out];clear HW;go_wp2_with (first|(go_at_call 13;(with_reducible refine (jj.calls k Jb Ib Ta Ra Qa Pa nc dc La 1048576 s W1 (Kd.ec Jh.out dG.out) iU.out (Kd.ec eU.out dG.out) hU.out J7.out).mono ?_);rintro e w2 ⟨rfl,hb⟩;have Ns:=ia.mk (Oa dG.out hb);have HG2:=ia.mk (Sa gP.out hb);clear hb));go_ret;exact ⟨rfl,Ns.out⟩
 ·rw [if_neg hneg] at h;have hnb:decide (s < 0)=false:=decide_eq_false hneg;obtain ⟨⟨g1,g2,g3,g4,g5⟩,tG,h⟩:=Option.bind_eq_some_iff.mp h;obtain ⟨⟨x1,x2,x3,x4,x5⟩,tX,h⟩:=Option.bind_eq_some_iff.mp h;obtain ⟨⟨y1,y2,y3,y4,y5⟩,tY,h⟩:=Option.bind_eq_some_iff.mp h;obtain ⟨e1,tE,h⟩:=Option.bind_eq_some_iff.mp h;obtain rfl:e1=true:=by cases e1 with|false=>simp at h|true=>rfl
  rw [if_pos rfl] at h;obtain ⟨e2,tF,h⟩:=Option.bind_eq_some_iff.mp h;obtain rfl:e2=true:=by cases e2 with|false=>simp at h|true=>rfl
  rw [if_pos rfl] at h;obtain ⟨⟨M1,M2,M3⟩,tM,h⟩:=Option.bind_eq_some_iff.mp h;have hM:¬ M1 < 0:=fun hm=>by rw [if_pos hm] at h;cases h
  rw [if_neg hM] at h;obtain ⟨⟨m1,m2,m3⟩,tm,h⟩:=Option.bind_eq_some_iff.mp h;obtain ⟨q,tq,h⟩:=Option.bind_eq_some_iff.mp h;have hq:¬ q < 0:=fun hm=>by rw [if_pos hm] at h;cases h
  rw [if_neg hq] at h;have hqm:q=m1:=Decidable.byContradiction fun hm=>by rw [if_neg hm] at h;cases h
  rw [if_pos hqm] at h;obtain rfl:=Option.some.inj h;subst hqm;have hMb:decide (M1 < 0)=false:=decide_eq_false hM;have hqb:decide (q < 0)=false:=decide_eq_false hq;have TG:=ia.mk tG;have TX:=ia.mk tX;have TY:=ia.mk tY;have TE:=ia.mk tE;have TF:=ia.mk tF;have TM:=ia.mk tM;have Tm:=ia.mk tm;have Tq:=ia.mk tq;clear tG tX tY tE tF tM tm tq hM hq hneg h;have JQ:=(ga gP.out 0).trans rfl;have bI:=(ga gP.out 1).trans rfl;have nP:=(ga gP.out 2).trans rfl;have MI:=(ga gP.out 3).trans rfl;have LI:=(ga gP.out 4).trans rfl;go_enter Try.func6,Try.ntmps6
  go_upto_region 1 with (fail)
  rw [← HW.out];clear HW
  go_upto_region 5 with (first|(go_at_call 13;(with_reducible refine (jj.calls k Jb Ib Ta Ra Qa Pa nc dc La 1048576 s W1 (Kd.ec Jh.out dG.out) iU.out (Kd.ec eU.out dG.out) hU.out J7.out).mono ?_);rintro e w2 ⟨rfl,hb⟩;have Ns:=ia.mk (Oa dG.out hb);have HG2:=ia.mk (Sa gP.out hb);clear hb dG gP JQ bI nP MI LI))
  have cK:=HG2;clear HG2;have JQ:=(ga cK.out 0).trans rfl;have bI:=(ga cK.out 1).trans rfl;have nP:=(ga cK.out 2).trans rfl;have MI:=(ga cK.out 3).trans rfl;have LI:=(ga cK.out 4).trans rfl
  go_upto_region 6 with (first|(go_at_call 15;(with_reducible refine (Th.calls k Jb Ib Ta Ra Qa Pa nc dc La g1 g2 g3 g4 g5 w2 (Kd.ec Jh.out Ns.out) iU.out (Kd.ec eU.out Ns.out) hU.out TG.out).mono ?_);rintro e w3 ⟨v0,v4,rfl,Yl,Hq,hb⟩;obtain ⟨B0,d0,rfl⟩:=Kd.Ze Yl;obtain ⟨B4,d4,rfl⟩:=Kd.Qk Hq;have dK:=ia.mk (Oa Ns.out hb);have zT:=ia.mk Yl;have yT:=ia.mk Hq;have oae:=ia.mk (Sa cK.out hb);have z23:=hb.size;clear Yl Hq JQ bI nP MI LI hb Ns cK)|(go_at_call 27;(with_reducible refine (qe.calls k B0 d0 g1 g2 g3 g4 B4 d4 g5 x1 x2 x3 x4 x5 w3 (Kd.Dc zT.out).2.2 (Kd.Dc zT.out).2.1 (Kd.Cg yT.out).2.2 (Kd.Cg yT.out).2.1 TX.out).mono ?_);rintro e w4 ⟨v0,v4,rfl,Yl,Hq,hb⟩;obtain ⟨D0,f0,rfl⟩:=Kd.Ze Yl;obtain ⟨D4,f4,rfl⟩:=Kd.Sy Hq;have sP:=ia.mk (Oa dK.out hb);have S6:=ia.mk (Sa oae.out hb);have C0:=ia.mk (lI Yl dK.out.size);have WZ:=ia.mk (J1 Hq dK.out.size);have z34:=hb.size;clear Yl Hq zT yT hb dK oae))
  have hzw:=Mc S6.out;have F2:(w4.alloc (.cells #[.slice D0 x1.length f0,.int .i64 x2,.int .i64 x3,.int .i64 x4,.slice D4 x5.length f4] 30 (0,0))).heap.size=w4.heap.size + 1:=by simp
  have hb:=qa (Below.refl w4.heap.size w4) (.cells #[.slice D0 x1.length f0,.int .i64 x2,.int .i64 x3,.int .i64 x4,.slice D4 x5.length f4] 30 (0,0));have hx:=ak w4 (.cells #[.slice D0 x1.length f0,.int .i64 x2,.int .i64 x3,.int .i64 x4,.slice D4 x5.length f4] 30 (0,0));generalize w4.alloc (.cells #[.slice D0 x1.length f0,.int .i64 x2,.int .i64 x3,.int .i64 x4,.slice D4 x5.length f4] 30 (0,0))=w5 at F2 hb hx ⊢;have P7:=ia.mk (Oa sP.out hb);have bK:=ia.mk (Sa S6.out hb);have m0:=ia.mk (Kd.Ic C0.out hb);have VZ:=ia.mk (Kd.Uh WZ.out hb);have RZ:=ia.mk hx;have Z5:=ia.mk F2;clear hx F2 hb sP S6 C0 WZ;have JQ:=(ga bK.out 0).trans rfl;have bI:=(ga bK.out 1).trans rfl;have nP:=(ga bK.out 2).trans rfl;have MI:=(ga bK.out 3).trans rfl;have LI:=(ga bK.out 4).trans rfl
  go_upto_region 7 with (first|(go_at_call 15;(with_reducible refine (Th.calls k Jb Ib Ta Ra Qa Pa nc dc La g1 g2 g3 g4 g5 w5 (Kd.ec Jh.out P7.out) iU.out (Kd.ec eU.out P7.out) hU.out TG.out).mono ?_);rintro e w6 ⟨v0,v4,rfl,Yl,Hq,hb⟩;obtain ⟨B0,d0,rfl⟩:=Kd.Ze Yl;obtain ⟨B4,d4,rfl⟩:=Kd.Qk Hq;have NT:=ia.mk (Oa P7.out hb);have nae:=ia.mk (Sa bK.out hb);have ZZ:=ia.mk (Kd.Ic m0.out hb);have UZ:=ia.mk (Kd.Uh VZ.out hb);have QZ:=ia.mk (Sa RZ.out hb);have NZ:=ia.mk (lI Yl P7.out.size);have KZ:=ia.mk (DP Hq P7.out.size);have z56:=hb.size;clear Yl Hq JQ bI nP MI LI hb P7 bK m0 VZ RZ))
  have hz7:(w6.alloc (.cells #[.slice B0 g1.length d0,.int .i64 g2,.int .i64 g3,.int .i64 g4,.slice B4 g5.length d4] 30 (0,0))).heap.size=w6.heap.size + 1:=by simp
  have hb:=qa (Below.refl w6.heap.size w6) (.cells #[.slice B0 g1.length d0,.int .i64 g2,.int .i64 g3,.int .i64 g4,.slice B4 g5.length d4] 30 (0,0));have hx:=ak w6 (.cells #[.slice B0 g1.length d0,.int .i64 g2,.int .i64 g3,.int .i64 g4,.slice B4 g5.length d4] 30 (0,0));generalize w6.alloc (.cells #[.slice B0 g1.length d0,.int .i64 g2,.int .i64 g3,.int .i64 g4,.slice B4 g5.length d4] 30 (0,0))=w7 at hz7 hb hx ⊢;have V0:=ia.mk (Oa NT.out hb);have mae:=ia.mk (Sa nae.out hb);have YZ:=ia.mk (Kd.Ic ZZ.out hb);have TZ:=ia.mk (Kd.Uh UZ.out hb);have PZ:=ia.mk (Sa QZ.out hb);have yN:=ia.mk (Kd.Ic NZ.out hb);have xN:=ia.mk (Kd.Ng KZ.out hb);have tC:=ia.mk hx;have Z7:=ia.mk hz7;clear hx hz7 hb NT nae ZZ UZ QZ NZ KZ;have hx0:=(ga tC.out 0).trans rfl;have hx1:=(ga tC.out 1).trans rfl;have Lo:=(ga tC.out 2).trans rfl;have Ko:=(ga tC.out 3).trans rfl;have Jo:=(ga tC.out 4).trans rfl
  go_upto_region 8 with (first|(go_at_call 28;(with_reducible refine (Hj.calls k B0 d0 g1 g2 g3 g4 B4 d4 g5 y1 y2 y3 y4 y5 w7 (Kd.Dc yN.out).2.2 (Kd.Dc yN.out).2.1 (Kd.Cg xN.out).2.2 (Kd.Cg xN.out).2.1 TY.out).mono ?_);rintro e w8 ⟨v0,v4,rfl,Yl,Hq,hb⟩;obtain ⟨E0,q0,rfl⟩:=Kd.Ze Yl;obtain ⟨E4,q4,rfl⟩:=Kd.Qk Hq;have U0:=ia.mk (Oa V0.out hb);have lae:=ia.mk (Sa mae.out hb);have XZ:=ia.mk (Kd.Ic YZ.out hb);have SZ:=ia.mk (Kd.Uh TZ.out hb);have OZ:=ia.mk (Sa PZ.out hb);have MZ:=ia.mk (Kd.Ic yN.out hb);have JZ:=ia.mk (Kd.Ng xN.out hb);have GZ:=ia.mk (Sa tC.out hb);have EZ:=ia.mk (lI Yl V0.out.size);have DZ:=ia.mk (DP Hq V0.out.size);have z78:=hb.size;clear Yl Hq hx0 hx1 Lo Ko Jo hb V0 mae YZ TZ PZ yN xN tC))
  have hz9:(w8.alloc (.cells #[.slice E0 y1.length q0,.int .i64 y2,.int .i64 y3,.int .i64 y4,.slice E4 y5.length q4] 30 (0,0))).heap.size=w8.heap.size + 1:=by simp
  have hb:=qa (Below.refl w8.heap.size w8) (.cells #[.slice E0 y1.length q0,.int .i64 y2,.int .i64 y3,.int .i64 y4,.slice E4 y5.length q4] 30 (0,0));have hx:=ak w8 (.cells #[.slice E0 y1.length q0,.int .i64 y2,.int .i64 y3,.int .i64 y4,.slice E4 y5.length q4] 30 (0,0));generalize w8.alloc (.cells #[.slice E0 y1.length q0,.int .i64 y2,.int .i64 y3,.int .i64 y4,.slice E4 y5.length q4] 30 (0,0))=w9 at hz9 hb hx ⊢;have iP:=ia.mk (Oa U0.out hb);have kae:=ia.mk (Sa lae.out hb);have BN:=ia.mk (Kd.Ic XZ.out hb);have zN:=ia.mk (Kd.Uh SZ.out hb);have uC:=ia.mk (Sa OZ.out hb);have LZ:=ia.mk (Kd.Ic MZ.out hb);have IZ:=ia.mk (Kd.Ng JZ.out hb);have FZ:=ia.mk (Sa GZ.out hb);have wN:=ia.mk (Kd.Ic EZ.out hb);have vN:=ia.mk (Kd.Ng DZ.out hb);have oC:=ia.mk hx;have Z9:=ia.mk hz9;clear hx hz9 hb U0 lae XZ SZ OZ MZ JZ GZ EZ DZ;have hy0:=(ga oC.out 0).trans rfl;have hy1:=(ga oC.out 1).trans rfl;have wO:=(ga oC.out 2).trans rfl;have vO:=(ga oC.out 3).trans rfl;have sK:=(ga oC.out 4).trans rfl;have hw0:=(ga uC.out 0).trans rfl;have hw1:=(ga uC.out 1).trans rfl;have J8:=(ga uC.out 2).trans rfl;have I8:=(ga uC.out 3).trans rfl;have H8:=(ga uC.out 4).trans rfl
  go_upto_region 10 with (first|(go_at_call 17;(with_reducible refine (zh.calls k E0 q0 y1 y2 y3 y4 E4 q4 y5 D0 f0 x1 x2 x3 x4 D4 f4 x5 true w9 (Kd.Dc wN.out).2.2 (Kd.Dc wN.out).2.1 (Kd.Cg vN.out).2.2 (Kd.Cg vN.out).2.1 (Kd.Dc BN.out).2.2 (Kd.Dc BN.out).2.1 (Kd.eo zN.out).2.2 (Kd.eo zN.out).2.1 TE.out).mono ?_);rintro e Lq ⟨rfl,hb⟩;have YH:=ia.mk (Oa iP.out hb);have DC:=ia.mk (Sa kae.out hb);have mT:=ia.mk (Kd.Ic BN.out hb);have cT:=ia.mk (Kd.Uh zN.out hb);have US:=ia.mk (Sa uC.out hb);have MS:=ia.mk (Kd.Ic LZ.out hb);have JS:=ia.mk (Kd.Ng IZ.out hb);have ew:=ia.mk (Sa FZ.out hb);have ES:=ia.mk (Kd.Ic wN.out hb);have uS:=ia.mk (Kd.Ng vN.out hb);have kS:=ia.mk (Sa oC.out hb);have Jau:=hb.size;clear hy0 hy1 wO vO sK hw0 hw1 J8 I8 H8 hb iP kae BN zN uC LZ IZ FZ wN vN oC))
  have eK:=ia.mk (ta YH.out);have KT:=ia.mk (Ca DC.out);have TJ:=ia.mk (Kd.Lb mT.out);have SJ:=ia.mk (Kd.uq cT.out);have RJ:=ia.mk (Ca US.out);have QJ:=ia.mk (Kd.Lb MS.out);have OJ:=ia.mk (Kd.ei JS.out);have NJ:=ia.mk (Ca ew.out);have MJ:=ia.mk (Kd.Lb ES.out);have LJ:=ia.mk (Kd.ei uS.out);have KJ:=ia.mk (Ca kS.out);have T7:Lq.heap.size ≤ Lq.drew.heap.size:=Nat.le_refl _;refine Dj (n:=5) (S:=fun w'=>w'.cell? ⟨w6.heap.size,0,none⟩=some (.slice B0 g1.length d0)∧w'.cell? ⟨w6.heap.size,1,none⟩=some (.int .i64 g2)∧w'.cell? ⟨w6.heap.size,2,none⟩=some (.int .i64 g3)∧w'.cell? ⟨w6.heap.size,3,none⟩=some (.int .i64 g4)∧w'.cell? ⟨w6.heap.size,4,none⟩=some (.slice B4 g5.length d4)∧w'.cell? ⟨w.heap.size,0,none⟩=some (.slice Jb Ta.length Ib)∧w'.cell? ⟨w.heap.size,1,none⟩=some (.int .i64 Ra)∧w'.cell? ⟨w.heap.size,2,none⟩=some (.int .i64 Qa)∧w'.cell? ⟨w.heap.size,3,none⟩=some (.int .i64 Pa)∧w'.cell? ⟨w.heap.size,4,none⟩=some (.slice nc La.length dc)) (ds:=[]) #[false,false,false,false,false] (by kernel_rfl) rfl rfl ⟨(ga ew.out 0).trans rfl,(ga ew.out 1).trans rfl,(ga ew.out 2).trans rfl,(ga ew.out 3).trans rfl,(ga ew.out 4).trans rfl,(ga DC.out 0).trans rfl,(ga DC.out 1).trans rfl,(ga DC.out 2).trans rfl,(ga DC.out 3).trans rfl,(ga DC.out 4).trans rfl⟩ (fun hHeld=>?_);generalize Lq.drew=Aj at eK T7 KT TJ SJ RJ QJ OJ NJ MJ LJ KJ hHeld ⊢;refine bg (i:=0) (N:=some 27) (v:=?_) (a':=?_) #[true,false,false,false,false] rfl rfl (by kernel_rfl) (fun _ _ _ h=>h) (Or.inl ⟨by rfl,?_⟩) hHeld ?_ ?_;rotate_left
  ·rintro w' ⟨s0,s1,s2,s3,s4,s5,s6,s7,s8,s9⟩;go_simp;with_reducible rfl
  rotate_left
  ·simp only [Act.put,List.setIfInBounds_toArray,List.set_cons_zero,List.set_cons_succ,jb,mb]
   rfl
  refine bg (i:=1) (N:=some 28) (v:=?_) (a':=?_) #[true,true,false,false,false] rfl rfl (by kernel_rfl) (fun _ _ _ h=>h) (Or.inl ⟨by rfl,?_⟩) hHeld ?_ ?_;rotate_left
  ·rintro w' ⟨s0,s1,s2,s3,s4,s5,s6,s7,s8,s9⟩;go_simp;with_reducible rfl
  rotate_left
  ·simp only [Act.put,List.setIfInBounds_toArray,List.set_cons_zero,List.set_cons_succ,jb,mb]
   rfl
  refine Pq (i:=2) (N:=some 29) #[true,true,true,false,false] rfl rfl (by kernel_rfl) (by decide) (fun K hK=>?_);refine vn Try.func15 (by kernel_rfl) rfl #[.agg #[.slice Jb Ta.length Ib,.int .i64 Ra,.int .i64 Qa,.int .i64 Pa,.slice nc La.length dc]] (by rfl) rfl rfl (by simp only [List.map_toArray,List.map_cons,List.map_nil];rfl) ?_;with_reducible refine (Th.calls k Jb Ib Ta Ra Qa Pa nc dc La g1 g2 g3 g4 g5 Aj (Kd.ec Jh.out eK.out) iU.out (Kd.ec eU.out eK.out) hU.out TG.out).mono ?_;rintro e kG ⟨v0,v4,rfl,Yl,Hq,hb⟩;refine ⟨_,rfl,?_⟩;have Aae:=ia.mk (Oa eK.out hb);have CC:=ia.mk (Sa KT.out hb);have lT:=ia.mk (Kd.Ic TJ.out hb);have bT:=ia.mk (Kd.Uh SJ.out hb);have TS:=ia.mk (Sa RJ.out hb);have FF:=ia.mk (Kd.Ic QJ.out hb);have EF:=ia.mk (Kd.Ng OJ.out hb);have dw:=ia.mk (Sa NJ.out hb);have DS:=ia.mk (Kd.Ic MJ.out hb);have tS:=ia.mk (Kd.Ng LJ.out hb);have jS:=ia.mk (Sa KJ.out hb);have Jaq:=hb.size;obtain ⟨F0,i0,rfl⟩:=Kd.Ze Yl;obtain ⟨F4,i4,rfl⟩:=Kd.Qk Hq;have zT:=ia.mk Yl;have yT:=ia.mk Hq;clear Yl Hq hb eK KT TJ SJ RJ QJ OJ NJ MJ LJ KJ;refine hK.out _ _ ⟨(ga dw.out 0).trans rfl,(ga dw.out 1).trans rfl,(ga dw.out 2).trans rfl,(ga dw.out 3).trans rfl,(ga dw.out 4).trans rfl,(ga CC.out 0).trans rfl,(ga CC.out 1).trans rfl,(ga CC.out 2).trans rfl,(ga CC.out 3).trans rfl,(ga CC.out 4).trans rfl⟩ (fun hHeld=>?_);clear hK K;refine tn (a':=?_) ?_ ?_;rotate_left
  ·show Act.put _ (some 29) _=_
   simp only [Act.put,List.setIfInBounds_toArray,List.set_cons_zero,List.set_cons_succ,jb,mb]
   rfl
  refine Pq (i:=3) (N:=some 30) #[true,true,true,true,false] rfl rfl (by kernel_rfl) (by decide) (fun K hK=>?_);refine vn Try.func17 (by kernel_rfl) rfl #[.agg #[.slice B0 g1.length d0,.int .i64 g2,.int .i64 g3,.int .i64 g4,.slice B4 g5.length d4],.agg #[.slice F0 g1.length i0,.int .i64 g2,.int .i64 g3,.int .i64 g4,.slice F4 g5.length i4]] (by rfl) rfl rfl (by simp only [List.map_toArray,List.map_cons,List.map_nil];rfl) ?_;with_reducible refine (zh.calls k B0 d0 g1 g2 g3 g4 B4 d4 g5 F0 i0 g1 g2 g3 g4 F4 i4 g5 true kG (Kd.Dc FF.out).2.2 (Kd.Dc FF.out).2.1 (Kd.Cg EF.out).2.2 (Kd.Cg EF.out).2.1 (Kd.Dc zT.out).2.2 (Kd.Dc zT.out).2.1 (Kd.Cg yT.out).2.2 (Kd.Cg yT.out).2.1 TF.out).mono ?_;rintro e jG ⟨rfl,hb⟩;refine ⟨_,rfl,?_⟩;have zae:=ia.mk (Oa Aae.out hb);have BC:=ia.mk (Sa CC.out hb);have kT:=ia.mk (Kd.Ic lT.out hb);have aT:=ia.mk (Kd.Uh bT.out hb);have SS:=ia.mk (Sa TS.out hb);have LS:=ia.mk (Kd.Ic FF.out hb);have GS:=ia.mk (Kd.Ng EF.out hb);have Ro:=ia.mk (Sa dw.out hb);have CS:=ia.mk (Kd.Ic DS.out hb);have sS:=ia.mk (Kd.Ng tS.out hb);have iS:=ia.mk (Sa jS.out hb);have Iaq:=hb.size;clear zT yT hb Aae CC lT bT TS FF EF dw DS tS jS;refine hK.out _ _ ⟨(ga Ro.out 0).trans rfl,(ga Ro.out 1).trans rfl,(ga Ro.out 2).trans rfl,(ga Ro.out 3).trans rfl,(ga Ro.out 4).trans rfl,(ga BC.out 0).trans rfl,(ga BC.out 1).trans rfl,(ga BC.out 2).trans rfl,(ga BC.out 3).trans rfl,(ga BC.out 4).trans rfl⟩ (fun hHeld=>?_);clear hK K;refine tn (a':=?_) ?_ ?_;rotate_left
  ·show Act.put _ (some 30) _=_
   simp only [Act.put,List.setIfInBounds_toArray,List.set_cons_zero,List.set_cons_succ,jb,mb]
   rfl
  refine Nb (i:=4) (N:=some 31) (v:=?_) (a':=?_) #[true,true,true,true,true] rfl rfl (by kernel_rfl) (fun _ _ _ h=>h) (Or.inl ⟨by rfl,?_⟩) ?_ ?_;rotate_left
  ·intro w';go_simp;with_reducible rfl
  rotate_left
  ·simp only [Act.put,List.setIfInBounds_toArray,List.set_cons_zero,List.set_cons_succ,jb,mb]
   rfl
  refine kn (by kernel_rfl) ?_;clear YH DC mT cT US MS JS ew ES uS kS;have hx0:=(ga Ro.out 0).trans rfl;have hx1:=(ga Ro.out 1).trans rfl;have Lo:=(ga Ro.out 2).trans rfl;have Ko:=(ga Ro.out 3).trans rfl;have Jo:=(ga Ro.out 4).trans rfl;have hzz:w4.heap.size + 1=w5.heap.size∧w6.heap.size + 1=w7.heap.size∧w8.heap.size + 1=w9.heap.size:=⟨Z5.out.symm,Z7.out.symm,Z9.out.symm⟩;have pP:=ia.mk hzz;clear hzz
  go_upto_region 14 with (first|(go_at_call 21;(with_reducible refine (bh.calls k _ _ g1 g2 g3 g4 _ _ g5 1 M1 M2 M3 w jG zae.out LS.out GS.out TM.out).mono ?_);rintro e tv ⟨rfl,_,_,hb,hk⟩;have yae:=ia.mk hb;have XH:=ia.mk (Kept.mono hk (fun k_ IK=>(Or.elim IK id id:w5.heap.size ≤ k_∧k_ < w6.heap.size)));have Haq:=hk.1;clear hb hk hx0 hx1 Lo Ko Jo))
  have R0:=ia.mk (Ii BC.out XH.out (by have:=pP.out;omega));have jw:=ia.mk (Ii SS.out XH.out (by have:=pP.out;omega));have cw:=ia.mk (Ii iS.out XH.out (by have:=pP.out;omega));have LF:=ia.mk (Kd.Zr kT.out XH.out (by have:=pP.out;intro k_ h1 h2;omega));have JF:=ia.mk (Kd.XR aT.out XH.out (by have:=pP.out;intro k_ h1 h2;omega));have DF:=ia.mk (Kd.Zr CS.out XH.out (by have:=pP.out;intro k_ h1 h2;omega));have CF:=ia.mk (Kd.BJ sS.out XH.out (by have:=pP.out;intro k_ h1 h2;omega));clear zae XH BC kT aT SS LS GS Ro CS sS iS;have hy0:=(ga cw.out 0).trans rfl;have hy1:=(ga cw.out 1).trans rfl;have wO:=(ga cw.out 2).trans rfl;have vO:=(ga cw.out 3).trans rfl;have sK:=(ga cw.out 4).trans rfl;have hw0:=(ga jw.out 0).trans rfl;have hw1:=(ga jw.out 1).trans rfl;have J8:=(ga jw.out 2).trans rfl;have I8:=(ga jw.out 3).trans rfl;have H8:=(ga jw.out 4).trans rfl
  go_upto_region 17 with (first|(go_at_call 17;(with_reducible refine (zh.calls k E0 q0 y1 y2 y3 y4 E4 q4 y5 D0 f0 x1 x2 x3 x4 D4 f4 x5 true tv (Kd.Dc DF.out).2.2 (Kd.Dc DF.out).2.1 (Kd.Cg CF.out).2.2 (Kd.Cg CF.out).2.1 (Kd.Dc LF.out).2.2 (Kd.Dc LF.out).2.1 (Kd.eo JF.out).2.2 (Kd.eo JF.out).2.1 TE.out).mono ?_);rintro e Kq ⟨rfl,hb⟩;have xae:=ia.mk (Oa yae.out hb);have Q0:=ia.mk (Sa R0.out hb);have RS:=ia.mk (Sa jw.out hb);have bw:=ia.mk (Sa cw.out hb);have jT:=ia.mk (Kd.Ic LF.out hb);have ZS:=ia.mk (Kd.Uh JF.out hb);have BS:=ia.mk (Kd.Ic DF.out hb);have rS:=ia.mk (Kd.Ng CF.out hb);have Gaq:=hb.size;clear hy0 hy1 wO vO sK hw0 hw1 J8 I8 H8 hb yae R0 jw cw LF JF DF CF))
  have hy0:=(ga bw.out 0).trans rfl;have hy1:=(ga bw.out 1).trans rfl;have wO:=(ga bw.out 2).trans rfl;have vO:=(ga bw.out 3).trans rfl;have sK:=(ga bw.out 4).trans rfl
  go_upto_region 19 with (first|(go_at_call 21;(with_reducible refine (bh.calls k _ _ y1 y2 y3 y4 _ _ y5 1 q m2 m3 w Kq xae.out BS.out rS.out Tm.out).mono ?_);rintro e NC ⟨rfl,Yl,Hq,hb,hk⟩;have wae:=ia.mk hb;have fP:=ia.mk (Kept.mono hk (fun k_ IK=>(Or.elim IK id id:w7.heap.size ≤ k_∧k_ < w8.heap.size)));have sC:=ia.mk Yl;have rC:=ia.mk Hq;have Faq:=hk.1;clear hb hk Yl Hq hy0 hy1 wO vO sK))
  have P0:=ia.mk (Ii Q0.out fP.out (by have:=pP.out;omega));have QS:=ia.mk (Ii RS.out fP.out (by have:=pP.out;omega));have Zv:=ia.mk (Ii bw.out fP.out (by have:=pP.out;omega));have iT:=ia.mk (Kd.Zr jT.out fP.out (by have:=pP.out;intro k_ h1 h2;omega));have YS:=ia.mk (Kd.XR ZS.out fP.out (by have:=pP.out;intro k_ h1 h2;omega));clear xae fP Q0 RS bw jT ZS BS rS;have HLM:=ia.mk (And.intro (Kd.Dc sC.out).1 (Kd.Cg rC.out).1);have hy0:=(ga Zv.out 0).trans rfl;have hy1:=(ga Zv.out 1).trans rfl;have wO:=(ga Zv.out 2).trans rfl;have vO:=(ga Zv.out 3).trans rfl;have sK:=(ga Zv.out 4).trans rfl
  go_upto_region 24 with (first|(go_at_call 29;(with_reducible refine (kD k E0 q0 y1.length m2 y2 y3 y4 E4 q4 y5.length m3 1 q NC HLM.out.1 HLM.out.2 (Kd.Dc sC.out).2.2 (Kd.Dc sC.out).2.1 (Kd.Cg rC.out).2.2 (Kd.Cg rC.out).2.1 Tq.out).mono ?_);rintro e Gq ⟨rfl,hb⟩;have lY:=ia.mk (Oa wae.out hb);have zC:=ia.mk (Sa P0.out hb);have PS:=ia.mk (Sa QS.out hb);have gS:=ia.mk (Sa Zv.out hb);have gT:=ia.mk (Kd.Ic iT.out hb);have XS:=ia.mk (Kd.Uh YS.out hb);have zS:=ia.mk (Kd.Ic sC.out hb);have pS:=ia.mk (Kd.Ng rC.out hb);have Eaq:=hb.size;clear hy0 hy1 wO vO sK hb wae P0 QS Zv iT YS sC rC))
  have JQ:=(ga zC.out 0).trans rfl;have bI:=(ga zC.out 1).trans rfl;have nP:=(ga zC.out 2).trans rfl;have MI:=(ga zC.out 3).trans rfl;have LI:=(ga zC.out 4).trans rfl
  go_upto_region 25 with (first|(go_at_call 15;(with_reducible refine (Th.calls k Jb Ib Ta Ra Qa Pa nc dc La g1 g2 g3 g4 g5 Gq (Kd.ec Jh.out lY.out) iU.out (Kd.ec eU.out lY.out) hU.out TG.out).mono ?_);rintro e Lz ⟨v0,v4,rfl,Yl,Hq,hb⟩;obtain ⟨F0,i0,rfl⟩:=Kd.Ze Yl;obtain ⟨F4,i4,rfl⟩:=Kd.Qk Hq;have vae:=ia.mk (Oa lY.out hb);have zT:=ia.mk Yl;have yT:=ia.mk Hq;have O0:=ia.mk (Sa zC.out hb);have OS:=ia.mk (Sa PS.out hb);have fS:=ia.mk (Sa gS.out hb);have fT:=ia.mk (Kd.Ic gT.out hb);have WS:=ia.mk (Kd.Uh XS.out hb);have yS:=ia.mk (Kd.Ic zS.out hb);have oS:=ia.mk (Kd.Ng pS.out hb);have Daq:=hb.size;clear Yl Hq JQ bI nP MI LI hb lY zC PS gS gT XS zS pS)|(go_at_call 28;(with_reducible refine (Hj.calls k F0 i0 g1 g2 g3 g4 F4 i4 g5 y1 y2 y3 y4 y5 Lz (Kd.Dc zT.out).2.2 (Kd.Dc zT.out).2.1 (Kd.Cg yT.out).2.2 (Kd.Cg yT.out).2.1 TY.out).mono ?_);rintro e az ⟨v0,v4,rfl,Yl,Hq,hb⟩;obtain ⟨J0,j0,rfl⟩:=Kd.Ze Yl;obtain ⟨J4,j4,rfl⟩:=Kd.Qk Hq;have uae:=ia.mk (Oa vae.out hb);have N0:=ia.mk (Sa O0.out hb);have NS:=ia.mk (Sa OS.out hb);have eS:=ia.mk (Sa fS.out hb);have eT:=ia.mk (Kd.Ic fT.out hb);have VS:=ia.mk (Kd.Uh WS.out hb);have xS:=ia.mk (Kd.Ic yS.out hb);have nS:=ia.mk (Kd.Ng oS.out hb);have JT:=ia.mk Yl;have FT:=ia.mk Hq;have Caq:=hb.size;clear Yl Hq zT yT hb vae O0 OS fS fT WS yS oS))
  have G2:(az.alloc (.cells #[.slice J0 y1.length j0,.int .i64 y2,.int .i64 y3,.int .i64 y4,.slice J4 y5.length j4] 30 (0,0))).heap.size=az.heap.size + 1:=by simp
  have hb:=qa (Below.refl az.heap.size az) (.cells #[.slice J0 y1.length j0,.int .i64 y2,.int .i64 y3,.int .i64 y4,.slice J4 y5.length j4] 30 (0,0));have hx:=ak az (.cells #[.slice J0 y1.length j0,.int .i64 y2,.int .i64 y3,.int .i64 y4,.slice J4 y5.length j4] 30 (0,0));generalize az.alloc (.cells #[.slice J0 y1.length j0,.int .i64 y2,.int .i64 y3,.int .i64 y4,.slice J4 y5.length j4] 30 (0,0))=w20 at G2 hb hx ⊢;have tae:=ia.mk (Oa uae.out hb);have M0:=ia.mk (Sa N0.out hb);have iw:=ia.mk (Sa NS.out hb);have dS:=ia.mk (Sa eS.out hb);have KF:=ia.mk (Kd.Ic eT.out hb);have GF:=ia.mk (Kd.Uh VS.out hb);have wS:=ia.mk (Kd.Ic xS.out hb);have mS:=ia.mk (Kd.Ng nS.out hb);have PF:=ia.mk (Kd.Ic JT.out hb);have NF:=ia.mk (Kd.Ng FT.out hb);have mw:=ia.mk hx;have Z20:=ia.mk G2;clear hx G2 hb uae N0 NS eS eT VS xS nS JT FT;have hh0:=(ga mw.out 0).trans rfl;have hh1:=(ga mw.out 1).trans rfl;have hh2:=(ga mw.out 2).trans rfl;have hh3:=(ga mw.out 3).trans rfl;have hh4:=(ga mw.out 4).trans rfl;have hw0:=(ga iw.out 0).trans rfl;have hw1:=(ga iw.out 1).trans rfl;have J8:=(ga iw.out 2).trans rfl;have I8:=(ga iw.out 3).trans rfl;have H8:=(ga iw.out 4).trans rfl
  go_upto_region 28 with (first|(go_at_call 17;(with_reducible refine (zh.calls k J0 j0 y1 y2 y3 y4 J4 j4 y5 D0 f0 x1 x2 x3 x4 D4 f4 x5 true w20 (Kd.Dc PF.out).2.2 (Kd.Dc PF.out).2.1 (Kd.Cg NF.out).2.2 (Kd.Cg NF.out).2.1 (Kd.Dc KF.out).2.2 (Kd.Dc KF.out).2.1 (Kd.eo GF.out).2.2 (Kd.eo GF.out).2.1 TE.out).mono ?_);rintro e Cs ⟨rfl,hb⟩;have waq:=ia.mk (Oa tae.out hb);have xau:=ia.mk (Sa M0.out hb);have Yap:=ia.mk (Sa iw.out hb);have qC:=ia.mk (Sa dS.out hb);have aaq:=ia.mk (Kd.Ic KF.out hb);have Zap:=ia.mk (Kd.Uh GF.out hb);have vS:=ia.mk (Kd.Ic wS.out hb);have lS:=ia.mk (Kd.Ng mS.out hb);have naq:=ia.mk (Kd.Ic PF.out hb);have maq:=ia.mk (Kd.Ng NF.out hb);have kaq:=ia.mk (Sa mw.out hb);have Baq:=hb.size;clear hh0 hh1 hh2 hh3 hh4 hw0 hw1 J8 I8 H8 hb tae M0 iw dS KF GF wS mS PF NF mw))
  have hy0:=(ga qC.out 0).trans rfl;have hy1:=(ga qC.out 1).trans rfl;have wO:=(ga qC.out 2).trans rfl;have vO:=(ga qC.out 3).trans rfl;have sK:=(ga qC.out 4).trans rfl;go_wp2_with (first|(go_at_call 29;(with_reducible refine (kD k E0 q0 y1.length m2 y2 y3 y4 E4 q4 y5.length m3 1 q Cs HLM.out.1 HLM.out.2 (Kd.Dc vS.out).2.2 (Kd.Dc vS.out).2.1 (Kd.Cg lS.out).2.2 (Kd.Cg lS.out).2.1 Tq.out).mono ?_);rintro e kP ⟨rfl,hb⟩;have vaq:=ia.mk (Oa waq.out hb);clear hb));go_ret;exact ⟨rfl,vaq.out⟩
theorem zY {n0:Nat} {s:Int} {x:Nd} (h:El n0 s x=true) (h4:¬ x.f0=4) (h6:¬ x.f0=6):0 ≤ x.f1:=by
 unfold El Km at h
 by_cases o0:x.f0=0
 ·simp [o0,gm] at h;omega
 by_cases o1:x.f0=1
 ·simp [o1,gm] at h;omega
 by_cases o2:x.f0=2
 ·simp [o2,gm] at h;omega
 by_cases o3:x.f0=3
 ·simp [o3,gm] at h;omega
 by_cases o5:x.f0=5
 ·simp [o5,gm] at h;omega
 simp [o0,o1,o2,o3,h4,o5,h6] at h
def FO (th:List Nd) (x:Nd):Nat→Int
 | 0=>-1
 | m + 1=>if mI (oa th (m:Int)) x=true then (m:Int) else FO th x m
theorem nR (th:List Nd) (x:Nd):∀ m,-1 ≤ FO th x m∧FO th x m < m
 | 0=>by simp [FO]
 | m + 1=>by
  have:=nR th x m;unfold FO
  split <;> omega
theorem fN (th:List Nd) (x:Nd):∀ m,m ≤ th.length→(th.take m).foldl (Ak x) x=if FO th x m ≥ 0 then B7 x (oa th (FO th x m)) else x
 | 0,_=>by simp [FO]
 | m + 1,h=>by
  rw [DH th x m h,fN th x m (by omega)];rw [FO]
  conv=>lhs;unfold Ak
  by_cases hm:mI (oa th (m:Int)) x=true
  ·rw [if_pos hm,if_pos hm,if_pos (by omega)]
  ·rw [if_neg hm,if_neg hm]
theorem rD (th:List Nd) (x:Nd) (hl:th.length ≤ 1048576):∀ m,m ≤ th.length→Ev (fun k=>Ff.l0 k th ((m:Int) - 1) x.f0 x.f1 x.f2 x.f3 x.f4 x.f5 x.f6) (FO th x m)
 | 0,_=>by
  refine Ev.step (fun k=>by rw [Ff.l0]) ?_;exact Ev.neg (by omega) (Ev.now _)
 | m + 1,h=>by
  have ih:=rD th x hl m (by omega);have hw:wrap64 ((m:Int) - 1)=(m:Int) - 1:=Rh (by omega) (by omega);have hm:((m + 1:Nat):Int) - 1=(m:Int):=by omega
  rw [hm];refine Ev.step (fun k=>by rw [Ff.l0]) (Ev.pos (by omega) (Ev.pos (by omega) (Ev.pos (by omega) ?_)));rw [hw,FO]
  by_cases h6:(oa th (m:Int)).f6.toList=x.f6.toList
  case neg=>exact Ev.neg h6 (by rw [if_neg (by simp [mI,h6])];exact ih)
  refine Ev.pos h6 ?_
  by_cases h2:(oa th (m:Int)).f2=x.f2
  case neg=>exact Ev.neg h2 (by rw [if_neg (by simp [mI,h2])];exact ih)
  refine Ev.pos h2 ?_
  by_cases h3:(oa th (m:Int)).f3=x.f3
  case neg=>exact Ev.neg h3 (by rw [if_neg (by simp [mI,h3])];exact ih)
  refine Ev.pos h3 ?_;rw [if_pos (by simp [mI,h6,h2,h3])];exact Ev.now _
theorem MX (th:List Nd) (x:Nd) (hl:th.length ≤ 1048576):Ev (fun k=>Ff.f k th x.f0 x.f1 x.f2 x.f3 x.f4 x.f5 x.f6) (FO th x th.length):=by
 have h:=rD th x hl th.length (Nat.le_refl _);refine Ev.congr (fun k=>?_) h;unfold Ff.f;rw [Rh (by omega) (by omega)]
def lP (x y:Nd):Bool:=if Zd x < 0 then true else !Wo (Zd x) y
theorem I1 (th:List Nd) (x:Nd) (h:x.f0=2→0 ≤ Zd x):PN th x=if x.f0=2∧¬ x.f2=Zd x∧¬ x.f3=Zd x then th.filter (lP x) ++ [x] else th.filter (lP x):=by
 unfold PN
 by_cases hm:Zd x < 0
 ·have e:th.filter (lP x)=th:=List.filter_eq_self.2 (fun y _=>by unfold lP;rw [if_pos hm]);rw [if_pos hm,e,if_neg (by intro hh;have:=h hh.1;omega)]
 ·have e:th.filter (lP x)=th.filter (fun y=>!Wo (Zd x) y):=by
   congr 1
   funext y
   unfold lP;rw [if_neg hm]
  rw [if_neg hm,e]
theorem EO (th:List Nd) (f:Nd→Bool) (m:Nat) (h:m < th.length):(th.take (m + 1)).filter f=(th.take m).filter f ++ (if f (oa th (m:Int))=true then [oa th (m:Int)] else []):=by
 have hr:oa th (m:Int)=th[m]:=by simp [oa,List.getD_eq_getElem?_getD,h]
 rw [List.take_succ_eq_append_getElem h,List.filter_append,hr];simp [List.filter_cons]
theorem N4 (x:Nd):Ev (fun _=>Bi.f x.f0 x.f1 x.f2 x.f3 x.f4 x.f5 x.f6) (decide (¬ x.f0=4∧¬ x.f0=6)):=by
 refine Ev.here ?_;unfold Bi.f
 by_cases h4:x.f0=4
 ·simp [h4]
 ·by_cases h6:x.f0=6 <;> simp [h4,h6]
theorem oR {n0:Nat} {s:Int} {code out th:List Nd} {i:Int} {x y:Nd} {r:List Nd} (hok:El n0 s x=true) (hth:th.length ≤ 1048576) (hout:out.length ≤ 1048576)
  (hk:Ev (fun k=>Va.l0 k code (out ++ [y]) (PN th x) (wrap64 (i + 1))) r) :
  Ev (fun k=>Va.l1 k code out th i [] 0 x.f0 x.f1 x.f2 x.f3 x.f4 x.f5 x.f6 y.f0 y.f1 y.f2 y.f3 y.f4 y.f5 y.f6) r:=by
 have hD:∀ {z:Nd},(¬ x.f0=4∧¬ x.f0=6)→lP x z = !Wo x.f1 z:=by
  intro z hd;have:=zY hok hd.1 hd.2;unfold lP Zd;rw [if_neg hd.1,if_neg hd.2,if_neg (by omega)]
 have key:=Wi (n:=th.length) (r:=r) (fun m=>Ev (fun k=>Va.l1 k code out th i ((th.take m).filter (lP x)) (m:Int) x.f0 x.f1 x.f2 x.f3 x.f4 x.f5 x.f6 y.f0 y.f1 y.f2 y.f3 y.f4 y.f5 y.f6) r) ?_ ?_ 0 (Nat.zero_le _)
 ·exact key
 ·refine Ev.step (fun k=>by rw [Va.l1]) (Ev.neg (by omega) ?_);rw [List.take_length];have hfl:(th.filter (lP x)).length ≤ th.length:=List.length_filter_le _ _;have hM:x.f0=2→Zd x=x.f1:=fun h2=>by unfold Zd;rw [if_neg (by omega),if_neg (by omega)]
  have hT:=I1 th x (fun h2=>by rw [hM h2];exact zY hok (by omega) (by omega))
  by_cases h2:x.f0=2
  ·refine Ev.pos h2 ?_;rw [hM h2] at hT
   by_cases ha:x.f1=x.f2
   ·rw [if_neg (by intro hh;exact hh.2.1 ha.symm)] at hT;rw [hT] at hk;exact Ev.pos ha (Ev.pos (by omega) hk)
   refine Ev.neg ha ?_
   by_cases hb:x.f1=x.f3
   ·rw [if_neg (by intro hh;exact hh.2.2 hb.symm)] at hT;rw [hT] at hk;exact Ev.pos hb (Ev.pos (by omega) hk)
   refine Ev.neg hb ?_;rw [if_pos ⟨h2,fun e=>ha e.symm,fun e=>hb e.symm⟩] at hT;rw [hT] at hk;exact Ev.pos (by omega) (Ev.pos (by omega) hk)
  ·rw [if_neg (by intro hh;exact h2 hh.1)] at hT;rw [hT] at hk;exact Ev.neg h2 (Ev.pos (by omega) hk)
 ·intro m hm ih;have hfl:((th.take m).filter (lP x)).length ≤ th.length:=Nat.le_trans (List.length_filter_le _ _) (by rw [List.length_take];omega);rw [EO th _ m hm] at ih;rw [← ug hm (by omega)] at ih;refine Ev.step (fun k=>by rw [Va.l1]) (Ev.pos (by omega) (Ev.bind (N4 x) ?_))
  by_cases hd:¬ x.f0=4∧¬ x.f0=6
  ·rw [decide_eq_true hd];rw [hD hd] at ih;refine Ev.pos rfl (Ev.pos (by omega) ?_)
   by_cases h2:(oa th (m:Int)).f2=x.f1
   ·rw [if_neg (by simp [Wo,h2]),List.append_nil] at ih;exact Ev.pos h2 ih
   refine Ev.neg h2 ?_
   by_cases h3:(oa th (m:Int)).f3=x.f1
   ·rw [if_neg (by simp [Wo,h3]),List.append_nil] at ih;exact Ev.pos h3 ih
   refine Ev.neg h3 ?_
   by_cases h1:(oa th (m:Int)).f1=x.f1
   ·rw [if_neg (by simp [Wo,h1]),List.append_nil] at ih;exact Ev.pos h1 ih
   refine Ev.neg h1 (Ev.pos (by omega) ?_);rw [if_pos (by simp [Wo,h1,h2,h3])] at ih;exact ih
  ·have hM:Zd x < 0:=by
    unfold Zd
    by_cases h4:x.f0=4
    ·rw [if_pos h4];omega
    ·rw [if_neg h4,if_pos (by omega)];omega
   rw [decide_eq_false hd];rw [if_pos (by unfold lP;rw [if_pos hM])] at ih;exact Ev.neg (by simp) (Ev.pos (by omega) (Ev.pos (by omega) ih))
theorem pH {n0:Nat} {s:Int} (code:List Nd) (hc:code.length ≤ 1048576) (hok:∀ x ∈ code,El n0 s x=true):Ev (fun k=>Va.f k code) (Un code):=by
 unfold Va.f;have key:=Wi (n:=code.length) (r:=Un code) (fun i=>Ev (fun k=>Va.l0 k code ((Un code).take i) (Pg code i) (i:Int)) (Un code)) ?_ ?_ 0 (Nat.zero_le _)
 ·exact key
 ·refine Ev.step (fun k=>by rw [Va.l0]) (Ev.neg (by omega) ?_);rw [List.take_of_length_le (by rw [Sh];omega)];exact Ev.now _
 ·intro i hi ih;have hr:oa code (i:Int)=code[i]:=by simp [oa,List.getD_eq_getElem?_getD,hi]
  have hth:=oK code i;have hx:=hok _ (List.getElem_mem hi);rw [← hr] at hx;have htk:((Un code).take i).length ≤ 1048576:=by rw [List.length_take];omega
  rw [List.take_succ_eq_append_getElem (by rw [Sh];exact hi),bD code i hi,← ug hi (by omega)] at ih;have hy:(Un code)[i]'(by rw [Sh];exact hi)=BP (Pg code i) (oa code (i:Int)):=by simp [Un]
  rw [hy] at ih;have h1:=oR (code:=code) hx (by omega) htk ih;refine Ev.step (fun k=>by rw [Va.l0]) (Ev.pos (by omega) (Ev.pos (by omega) ?_));have hYe:=fN (Pg code i) (oa code (i:Int)) _ (Nat.le_refl _);rw [List.take_length] at hYe;have hb:=nR (Pg code i) (oa code (i:Int)) (Pg code i).length
  by_cases h2:(oa code (i:Int)).f0=2
  ·refine Ev.pos h2 (Ev.bind (MX _ _ (by omega)) ?_)
   have hY:BP (Pg code i) (oa code (i:Int))=(Pg code i).foldl (Ak (oa code (i:Int))) (oa code (i:Int)):=by
    unfold BP;rw [if_pos h2]
   rw [hYe] at hY;refine Ev.step (fun k=>by rw [Va.j1]) ?_
   by_cases hg:FO (Pg code i) (oa code (i:Int)) (Pg code i).length ≥ 0
   ·rw [if_pos hg] at hY;rw [hY] at h1;exact Ev.pos hg (Ev.pos hg (Ev.pos hb.2 (Ev.step (fun k=>by rw [Va.j2];rfl) h1)))
   ·rw [if_neg hg] at hY;rw [hY] at h1;exact Ev.neg hg (Ev.step (fun k=>by rw [Va.j2]) h1)
  ·have hY:BP (Pg code i) (oa code (i:Int))=oa code (i:Int):=by
    unfold BP;rw [if_neg h2]
   rw [hY] at h1;exact Ev.neg h2 (Ev.step (fun k=>by rw [Va.j1]) (Ev.neg (by omega) (Ev.step (fun k=>by rw [Va.j2]) h1)))
section
variable {l0:List Int} {p v s:Int} {l4:List Vf}
theorem tI {i:Nat} (h:i < l4.length):Ia l4 (i:Int)=l4[i]:=by simp [Ia,List.getD_eq_getElem?_getD,h]
theorem fJ (h0:l0.length ≤ 1048576) (hl:l4.length ≤ 1048576) (ht:we l4 ≤ 1048576):Ev (fun k=>Je.f k l0 p v s l4) (l0,p,v,s,l4):=by
 unfold Je.f;refine Ev.val (Ev.pos (by simp;omega) ?_);have key:=Wi (n:=l4.length) (r:=(l0,p,v,s,l4)) (fun i=>Ev (fun k=>Je.l0 k (i:Int) l0 p v s l4 ([] ++ l0) p v s (l4.take i)) (l0,p,v,s,l4)) ?_ ?_ 0 (Nat.zero_le _)
 ·exact key
 ·refine Ev.step (fun k=>by rw [Je.l0]) (Ev.neg (by omega) ?_);rw [List.take_length];exact Ev.now _
 ·intro i hi ih;rw [List.take_succ_eq_append_getElem hi,← ug hi (by omega)] at ih;have hc:=Zu l4 l4[i] (List.getElem_mem hi);have hrd:=tI hi;have hl1:(l4.take i).length ≤ l4.length:=by rw [List.length_take];omega
  refine Ev.step (fun k=>by rw [Je.l0]) (Ev.pos (by omega) (Ev.pos (by omega) ?_));rw [hrd];exact Ev.val (Ev.pos (by simp;omega) (Ev.pos (by omega) ih))
theorem lF (h0:l0.length ≤ 1048576) (hl:l4.length ≤ 1048576) (ht:we l4 ≤ 1048576):Ev (fun k=>ue.f k l0 p v s l4) (l0,p,v,s,l4):=by
 unfold ue.f;refine Ev.val (Ev.pos (by simp;omega) ?_);have key:=Wi (n:=l4.length) (r:=(l0,p,v,s,l4)) (fun i=>Ev (fun k=>ue.l0 k l4 (l4.length:Int) (i:Int) ([] ++ l0) p v s (l4.take i)) (l0,p,v,s,l4)) ?_ ?_ 0 (Nat.zero_le _)
 ·exact key
 ·refine Ev.step (fun k=>by rw [ue.l0]) (Ev.neg (by omega) ?_);rw [List.take_length];exact Ev.now _
 ·intro i hi ih;rw [List.take_succ_eq_append_getElem hi,← ug hi (by omega)] at ih;have hc:=Zu l4 l4[i] (List.getElem_mem hi);have hrd:=tI hi;have hl1:(l4.take i).length ≤ l4.length:=by rw [List.length_take];omega
  refine Ev.step (fun k=>by rw [ue.l0]) (Ev.pos (by omega) (Ev.pos (by omega) (Ev.pos (by omega) ?_)));rw [hrd];exact Ev.val (Ev.pos (by simp;omega) (Ev.pos (by omega) ih))
theorem oI (l:List Vf):we (l.map XF)=we l:=by
 unfold we;rw [List.map_map]
 congr 1
 refine List.map_congr_left (fun b _=>?_);simp [XF,Sh]
end
def uY (l0:List Int) (p v s:Int) (l4:List Vf):List Vf:=if Qn l0 p v s l4=true then l4.map XF else l4
theorem RC (l0:List Int) (p v s:Int) (l4:List Vf) (h0:l0.length ≤ 1048576) (hl:l4.length ≤ 1048576) (ht:we l4 ≤ 1048576):Ev (fun k=>qe.f k l0 p v s l4) (l0,p,v,s,uY l0 p v s l4):=by
 unfold qe.f;refine Ev.bind (fJ h0 hl ht) ?_;have hG:=jJ (p:=p) (v:=v) (s:=s) h0 hl ht;unfold uY
 by_cases hg:Qn l0 p v s l4=true
 ·rw [if_pos hg];rw [hg] at hG;obtain ⟨_,hb,_⟩:=kF hg;have key:=Wi (n:=l4.length) (r:=(l0,p,v,s,l4.map XF)) (fun i=>Ev (fun k=>qe.l0 k (i:Int) l0 p v s l4 l0 p v s ((l4.map XF).take i ++ l4.drop i)) (l0,p,v,s,l4.map XF)) ?_ ?_ 0 (Nat.zero_le _)
  ·exact key
  ·refine Ev.step (fun k=>by rw [qe.l0]) (Ev.neg (by omega) ?_);rw [List.drop_length,List.append_nil,List.take_of_length_le (by rw [List.length_map];omega)];exact Ev.now _
  ·intro i hi ih;have hc:=Zu l4 l4[i] (List.getElem_mem hi);have hlt:((l4.map XF).take i).length=i:=by rw [List.length_take,List.length_map];omega
   have ot:l4.drop i=l4[i] :: l4.drop (i + 1):=List.drop_eq_getElem_cons hi;refine Ev.step (fun k=>by rw [qe.l0]) (Ev.pos (by omega) ?_);refine Ev.bind hG ?_;refine Ev.pos rfl ?_;refine Ev.pos (show (0:Int) ≤ (i:Int) by omega) ?_;rw [tI hi];refine Ev.bind (pH l4[i].f0 (by omega) (wJ (hb _ (List.getElem_mem hi)))) (Ev.pos ?_ ?_)
   ·rw [List.length_append,hlt,List.length_drop];omega
   ·have hx:Ia ((l4.map XF).take i ++ l4.drop i) (i:Int)=l4[i]:=by
     unfold Ia;rw [ot,Int.toNat_natCast,List.getD_eq_getElem?_getD,List.getElem?_append_right (by omega),hlt,Nat.sub_self]
     rfl
    rw [hx,ot,Int.toNat_natCast,ED _ _ hlt];rw [List.take_succ_eq_append_getElem (by rw [List.length_map];exact hi),List.getElem_map,← ug hi (by omega)] at ih;exact ih
 ·rw [if_neg hg];rw [Bool.eq_false_iff.2 hg] at hG;refine Ev.step (fun k=>by rw [qe.l0]) ?_
  by_cases hn:(0:Int) < (l4.length:Int)
  ·exact Ev.pos hn (Ev.bind hG (Ev.neg (by simp) (Ev.now _)))
  ·exact Ev.neg hn (Ev.now _)
theorem UC (l0:List Int) (p v s:Int) (l4:List Vf) (h0:l0.length ≤ 1048576) (hl:l4.length ≤ 1048576) (ht:we l4 ≤ 1048576):Ev (fun k=>Hj.f k l0 p v s l4) (l0,p,v,s,uY l0 p v s l4):=by
 unfold Hj.f;refine Ev.bind (lF h0 hl ht) (Ev.bind (gJ h0 hl ht) ?_);unfold uY
 by_cases hg:Qn l0 p v s l4=true
 ·rw [if_pos hg,if_pos hg];refine Ev.pos ?_ (Ev.now _);rw [List.all_eq_true];intro b hb;have:=Zu l4 b hb;exact decide_eq_true (by omega)
 ·rw [if_neg hg,if_neg hg];exact Ev.now _
theorem pR (l0:List Int) (p v s:Int) (l4:List Vf) (h0:l0.length ≤ 1048576) (hl:l4.length ≤ 1048576) (ht:we l4 ≤ 1048576) :
  ∃ r,Ev (fun k=>qe.f k l0 p v s l4) r∧Ev (fun k=>Hj.f k l0 p v s l4) r∧r.1.length ≤ 1048576∧r.2.2.2.2.length ≤ 1048576∧we r.2.2.2.2 ≤ 1048576:=by
 refine ⟨_,RC l0 p v s l4 h0 hl ht,UC l0 p v s l4 h0 hl ht,h0,?_,?_⟩
 ·show (uY l0 p v s l4).length ≤ _
  unfold uY
  split
  ·rw [List.length_map];exact hl
  ·exact hl
 ·show we (uY l0 p v s l4) ≤ _
  unfold uY
  split
  ·rw [oI];exact ht
  ·exact ht
end Go.Proofs.Ytmifdccaajngcaa.P
end
section
namespace Go.Proofs.Ytmifdccaajngcaa.P
open Go.RowKit Go.Proofs.Na.Ec Go.Proofs.Na.gf Go.Proofs.Na.Eg
set_option linter.unusedVariables false
set_option linter.unusedSimpArgs false
theorem Yy (x:I7) (hf:mR x):∃ k,Ah.f k x.f0 x.f1 x.f2 x.f3 x.f4=some true:=by
 obtain ⟨t,e1,e2⟩:=aJ x hf;refine Ev.rounds (g:=fun k=>Ah.f k x.f0 x.f1 x.f2 x.f3 x.f4) ?_;unfold Ah.f;refine Ev.bind e1 ?_
 by_cases ht:t < 0
 ·exact Ev.pos ht (Ev.now _)
 refine Ev.neg ht ?_;obtain ⟨h0,hl,hst,hT,hq,⟨M1,M2,M3⟩,hM,hM0,_⟩:=e2 ht;obtain ⟨⟨r0,r1,r2,r3,r4⟩,s1,s2,b0,b4,bt⟩:=pR x.f0 x.f1 x.f2 x.f3 (x.f4.map gh) h0 hl hst;have hE:=cC r0 r1 r2 r3 r4 (by simp only at b0;omega) (by simp only at b4;omega) (fun y hy=>by have:=Zu _ _ hy;simp only at bt;omega);have hmk:=kQ r4;obtain ⟨ms,m1,m2⟩:=Iy r0 r1 r2 r3 r4 1 (by omega) (by simp only at b0 b4 bt;omega) (by simp only at b4;omega);exact Ev.bind hT (Ev.bind s1 (Ev.bind s2 (Ev.bind hE (Ev.pos rfl (Ev.bind hq (Ev.pos rfl (Ev.bind hM (Ev.neg (by simp only at hM0 ⊢;omega) (Ev.bind m1 (Ev.bind m2 (Ev.neg (by omega) (Ev.pos rfl (Ev.now _)))))))))))))
end Go.Proofs.Ytmifdccaajngcaa.P
end
