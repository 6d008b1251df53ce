import Derived.Test.YtmifdccaajngcaaQCopies1
import Derived.Test.YtmifdccaajngcaaQCopies2
import Derived.Test.YtmifdccaajngcaaQCopies5
import Derived.Shelf.Abstract
import Derived.Outline
import Derived.RegionTactic
import Derived.Deep.QuietTactic
import Derived.BigQuiet
import Derived.Test.YtmifdccaajngcaaQCopies8
import Derived.Test.YtmifdccaajngcaaQCopies7
import Derived.Test.YtmifdccaajngcaaQCopies3
set_option maxHeartbeats 8000000
set_option maxRecDepth 100000
section
namespace Go.Proofs.Ytmifdccaajngcaa.P
open Go.RowKit Go.Proofs.Oa.Rb Go.Proofs.Oa.Ee Go.Proofs.Oa.Wf
set_option linter.unusedVariables false
set_option linter.unusedSimpArgs false
attribute [local go_sem] xj uj Zk Yk ai Zh wj tj
mutual
def Pd.j0:Nat→List Int→Int→Bool→Int→Int→Int→Int→Int→Int→ByteArray→Option (Int × Int × Int × Int × Int × Int × ByteArray)
 | 0,_,_,_,_,_,_,_,_,_,_=>none
 | k + 1,x1,x6,x7,Sd,ie,yd,Ld,Fc,Yl,Xl=>if x7=true then (if 0 ≤ yd then (if yd < (x1.length:Int) then (some (Sd,ie,rd x1 yd,Ld,Fc,Yl,Xl)) else (none)) else (none)) else (if x6=2 then (if 0 ≤ yd then (if yd < (x1.length:Int) then (if 0 ≤ Ld then (if Ld < (x1.length:Int) then (some (Sd,ie,rd x1 yd,rd x1 Ld,Fc,Yl,Xl)) else (none)) else (none)) else (none)) else (none)) else (if x6=3 then (Pd.j1 k x1 (x6 == 3) Sd ie yd Ld Fc Yl Xl) else (Pd.j1 k x1 (x6 == 4) Sd ie yd Ld Fc Yl Xl)))
def Pd.j1:Nat→List Int→Bool→Int→Int→Int→Int→Int→Int→ByteArray→Option (Int × Int × Int × Int × Int × Int × ByteArray)
 | 0,_,_,_,_,_,_,_,_,_=>none
 | k + 1,x1,x30,Sd,ie,yd,Ld,Fc,Yl,Xl=>if x30=true then (if 0 ≤ Ld then (if Ld < (x1.length:Int) then (if yd ≥ 0 then (if 0 ≤ yd then (if yd < (x1.length:Int) then (if Sd=4 then (if 0 ≤ Fc then (if Fc < (x1.length:Int) then (some (Sd,ie,rd x1 yd,rd x1 Ld,rd x1 Fc,Yl,Xl)) else (none)) else (none)) else (some (Sd,ie,rd x1 yd,rd x1 Ld,Fc,Yl,Xl))) else (none)) else (none)) else (if Sd=4 then (if 0 ≤ Fc then (if Fc < (x1.length:Int) then (some (Sd,ie,yd,rd x1 Ld,rd x1 Fc,Yl,Xl)) else (none)) else (none)) else (some (Sd,ie,yd,rd x1 Ld,Fc,Yl,Xl)))) else (none)) else (none)) else (some (Sd,ie,yd,Ld,Fc,Yl,Xl))
end
def Pd.f (k:Nat) (Mb:Int) (Pa:Int) (Na:Int) (Ma:Int) (Lb:Int) (Zc:Int) (jd:ByteArray) (l1:List Int):Option (Int × Int × Int × Int × Int × Int × ByteArray):=if Mb=1 then (Pd.j0 k l1 Mb (Mb == 1) Mb Pa Na Ma Lb Zc jd) else (Pd.j0 k l1 Mb (Mb == 6) Mb Pa Na Ma Lb Zc jd)
theorem Pd.calls (k:Nat) (Mb:Int) (Pa:Int) (Na:Int) (Ma:Int) (Lb:Int) (Zc:Int) (jd:ByteArray) (A1:Option Addr) (c1:Nat) (l1:List Int) (r1:Int) (r2:Int) (r3:Int) (r4:Int) (r5:Int) (r6:Int) (r7:ByteArray) (w:World) (iE:Kd.C (Kd.int .i64) w A1 l1.length l1) (NF:l1.length ≤ c1) (h:Pd.f k Mb Pa Na Ma Lb Zc jd l1=some (r1,r2,r3,r4,r5,r6,r7)) :
  Calls Try.prog 70 #[.agg #[.int .i64 Mb,.int .i64 Pa,.int .i64 Na,.int .i64 Ma,.int .i64 Lb,.int .i64 Zc,.string jd],.slice A1 l1.length c1] w fun e w'=>e = .returned (.agg #[.int .i64 r1,.int .i64 r2,.int .i64 r3,.int .i64 r4,.int .i64 r5,.int .i64 r6,.string r7])∧Below w.heap.size w w':=by
 have JE:=Try.underlying70;have My:=ia.mk iE;have mM:=ia.mk NF;clear iE NF;have HB:=ia.mk (Below.refl w.heap.size w);have H:(if Mb=1 then (Pd.j0 k l1 Mb (Mb == 1) Mb Pa Na Ma Lb Zc jd) else (Pd.j0 k l1 Mb (Mb == 6) Mb Pa Na Ma Lb Zc jd))=some (r1,r2,r3,r4,r5,r6,r7):=h;clear h;have aU:=ia.mk H;clear H;go_enter Try.func70,Try.ntmps70
 go_upto_if 7 with (first|((with_reducible refine Bb (N:=2) rfl ?_);refine Ab ?hg (N:=2) ?hd (cs:=#[.int .i64 Mb,.int .i64 Pa,.int .i64 Na,.int .i64 Ma,.int .i64 Lb,.int .i64 Zc,.string jd]) (t:=70) ?hr ?_;(case hd=>rfl);(case hg=>rfl);(case hr=>first|(go_simp;done)|(go_simp;rfl));intro Da hg w4 Nb hb;have Kb:=ia.mk (Ra (by repeat (first|(with_reducible first|exact HB.out|apply oa|apply ja|apply qa)|exact HB.out)) hb);have Ub:=ia.mk (Nb);have yc:=ia.mk ((by rw [hg];exact (Qa (by repeat (first|(with_reducible first|exact HB.out|apply oa|apply ja|apply qa)|exact HB.out))):w.heap.size ≤ Da));have Tc:=ia.mk ((by rw [hg];exact (Qa (by repeat (first|(with_reducible first|exact HB.out|apply oa|apply ja|apply qa)|exact HB.out))):w.heap.size ≤ Da));clear HB;have HB:=Kb;have ta:=Ub;have Df:=yc;have Ua:=Tc;clear Kb Ub yc Tc hb Nb hg)|((with_reducible refine Bb (N:=4) rfl ?_);refine Ab ?hg (N:=4) ?hd (cs:=#[.int .i64 0,.int .i64 0,.int .i64 0,.int .i64 0,.int .i64 0,.int .i64 0,.string (⟨#[]⟩:ByteArray)]) (t:=70) ?hr ?_;(case hd=>rfl);(case hg=>rfl);(case hr=>first|(go_simp;done)|(go_simp;rfl));intro Ga hg w5 Nb hb;have Kb:=ia.mk (Ta (g:=Da) (o:=.cells #[.int .i64 Mb,.int .i64 Pa,.int .i64 Na,.int .i64 Ma,.int .i64 Lb,.int .i64 Zc,.string jd] 70 (0,0)) (by (with_reducible repeat (first|refine Aa ?_ _|refine Ca ?_|refine za ?_ _));exact ta.out) hb);have Ub:=ia.mk (Ra (by repeat (first|(with_reducible first|exact HB.out|apply oa|apply ja|apply qa|refine ua ?_ Ua.out)|exact HB.out)) hb);have yc:=ia.mk (Nb);have Tc:=ia.mk ((by rw [hg];exact (Qa (by repeat (first|(with_reducible first|exact HB.out|apply oa|apply ja|apply qa|refine ua ?_ Ua.out)|exact HB.out))):w.heap.size ≤ Ga));have tf:=ia.mk ((by rw [hg];exact (Qa (by repeat (first|(with_reducible first|exact HB.out|apply oa|apply ja|apply qa|refine ua ?_ Ua.out)|exact HB.out))):w.heap.size ≤ Ga));have Tf:=ia.mk ((by rw [hg];exact Nat.ne_of_lt (Wb (g:=Da) (o:=.cells #[.int .i64 Mb,.int .i64 Pa,.int .i64 Na,.int .i64 Ma,.int .i64 Lb,.int .i64 Zc,.string jd] 70 (0,0)) (by (with_reducible repeat (first|refine Aa ?_ _|refine Ca ?_|refine za ?_ _));exact ta.out)):Da ≠ Ga));have cg:=ia.mk ((by rw [hg];exact Nat.ne_of_gt (Wb (g:=Da) (o:=.cells #[.int .i64 Mb,.int .i64 Pa,.int .i64 Na,.int .i64 Ma,.int .i64 Lb,.int .i64 Zc,.string jd] 70 (0,0)) (by (with_reducible repeat (first|refine Aa ?_ _|refine Ca ?_|refine za ?_ _));exact ta.out)):Ga ≠ Da));clear ta HB;have ta:=Kb;have HB:=Ub;have ya:=yc;have ni:=Tc;have Cb:=tf;have Za:=Tf;have Xa:=cg;clear Kb Ub yc Tc tf Tf cg hb Nb hg;have P0:=Za.out;have VZ:=Xa.out;have xq:w5.cell? ⟨Da,0,none⟩=some (.int .i64 Mb):=(ga ta.out 0).trans rfl;have vq:w5.cell? ⟨Da,1,none⟩=some (.int .i64 Pa):=(ga ta.out 1).trans rfl;have uq:w5.cell? ⟨Da,2,none⟩=some (.int .i64 Na):=(ga ta.out 2).trans rfl;have sq:w5.cell? ⟨Da,3,none⟩=some (.int .i64 Ma):=(ga ta.out 3).trans rfl;have rq:w5.cell? ⟨Da,4,none⟩=some (.int .i64 Lb):=(ga ta.out 4).trans rfl;have vz:w5.cell? ⟨Da,5,none⟩=some (.int .i64 Zc):=(ga ta.out 5).trans rfl;have uz:w5.cell? ⟨Da,6,none⟩=some (.string jd):=(ga ta.out 6).trans rfl;have qq:=aa ta.out 0;have pq:=aa ta.out 1;have oq:=aa ta.out 2;have mq:=aa ta.out 3;have lq:=aa ta.out 4;have rz:=aa ta.out 5;have qz:=aa ta.out 6))
 (try simp only [Act.put,List.setIfInBounds_toArray,List.set_cons_zero,List.set_cons_succ])
 go_cut [7] (fun v7 wc=>∃ (kq:Nat) (FQ:Bool),v7 = .bool FQ∧ia (Pd.j0 kq l1 Mb FQ Mb Pa Na Ma Lb Zc jd=some (r1,r2,r3,r4,r5,r6,r7))∧ia (kq ≤ k)∧ia (wc.heap[Da]? = some (.cells #[.int .i64 Mb,.int .i64 Pa,.int .i64 Na,.int .i64 Ma,.int .i64 Lb,.int .i64 Zc,.string jd] 70 (0,0)))∧ia (wc.heap[Ga]? = some (.cells #[.int .i64 0,.int .i64 0,.int .i64 0,.int .i64 0,.int .i64 0,.int .i64 0,.string (⟨#[]⟩:ByteArray)] 70 (0,0)))∧ia (Below w.heap.size w wc))
 case first =>
  have H:=aU.out;clear aU
  by_cases c8:Mb=1
  ·rw [if_pos c8] at H;have wo:(Mb == 1)=true:=beq_iff_eq.mpr c8;have Gx:(Mb != 1)=false:=bne_eq_false_iff_eq.mpr c8;clear c8;(first|rw [wo]|(simp only [dc,ec];rw [wo])|skip);have H':=ia.mk H;clear H;go_wp2
   go_meet
   case rel=>exact ⟨_,((Mb == 1)),(by first|rfl|(simp;done)|(simp [*];done)),H',⟨by first|omega|exact Nat.le_refl _⟩,⟨by (with_reducible repeat (first|refine Aa ?_ _|refine Ca ?_|refine za ?_ _));exact ta.out⟩,⟨by (with_reducible repeat (first|refine Aa ?_ _|refine Ca ?_|refine za ?_ _));exact ya.out⟩,⟨by repeat (first|(with_reducible first|exact HB.out|apply oa|apply ja|apply qa|refine ua ?_ Ua.out|refine ua ?_ Cb.out)|exact HB.out)⟩⟩
  ·rw [if_neg c8] at H;have wo:(Mb == 1)=false:=beq_eq_false_iff_ne.mpr c8;have Gx:(Mb != 1)=true:=bne_iff_ne.mpr c8;(first|rw [wo]|(simp only [dc,ec];rw [wo])|skip);have H':=ia.mk H;clear H;go_wp2
   go_meet
   case rel=>exact ⟨_,((Mb == 6)),(by first|rfl|(simp;done)|(simp [*];done)),H',⟨by first|omega|exact Nat.le_refl _⟩,⟨by (with_reducible repeat (first|refine Aa ?_ _|refine Ca ?_|refine za ?_ _));exact ta.out⟩,⟨by (with_reducible repeat (first|refine Aa ?_ _|refine Ca ?_|refine za ?_ _));exact ya.out⟩,⟨by repeat (first|(with_reducible first|exact HB.out|apply oa|apply ja|apply qa|refine ua ?_ Ua.out|refine ua ?_ Cb.out)|exact HB.out)⟩⟩
 case rest =>
  clear aU
  try clear c1
  try clear p2
  try clear c6
  try clear c7
  try clear c8
  try clear wo
  try clear Gx
  try clear xq
  try clear vq
  try clear uq
  try clear sq
  try clear rq
  try clear vz
  try clear uz
  try clear qq
  try clear pq
  try clear oq
  try clear mq
  try clear lq
  try clear rz
  try clear qz
  obtain ⟨kq,FQ,rfl,HA,HJ2,ta,ya,HB⟩:=hcut;cases kq with
  | zero=>exact absurd HA.out (by simp [Pd.j0])
  | succ kj2 =>
   have H:=HA.out;clear HA;simp only [Pd.j0] at H
   by_cases c9:FQ=true
   ·subst c9;have H1:(if 0 ≤ Na then (if Na < (l1.length:Int) then (some (Mb,Pa,rd l1 Na,Ma,Lb,Zc,jd)) else (none)) else (none))=some (r1,r2,r3,r4,r5,r6,r7):=by rw [if_pos rfl] at H;exact H
    clear H;have H:=H1;clear H1
    by_cases jA:0 ≤ Na
    ·rw [if_pos jA] at H;have sF:decide (0 ≤ Na)=true:=decide_eq_true jA;clear jA
     by_cases fH:Na < (l1.length:Int)
     ·rw [if_pos fH] at H;have oO:decide (Na < (l1.length:Int))=true:=decide_eq_true fH;clear fH;simp only [Option.some.injEq,Prod.mk.injEq] at H;obtain ⟨rfl,rfl,rfl,rfl,rfl,rfl,rfl⟩:=H;have zN:=Za.out;have wN:=Xa.out;have Kk:wc.cell? ⟨Da,0,none⟩=some (.int .i64 Mb):=(ga ta.out 0).trans rfl;have Jk:wc.cell? ⟨Da,1,none⟩=some (.int .i64 Pa):=(ga ta.out 1).trans rfl;have Ik:wc.cell? ⟨Da,2,none⟩=some (.int .i64 Na):=(ga ta.out 2).trans rfl;have Gk:wc.cell? ⟨Da,3,none⟩=some (.int .i64 Ma):=(ga ta.out 3).trans rfl;have Fk:wc.cell? ⟨Da,4,none⟩=some (.int .i64 Lb):=(ga ta.out 4).trans rfl;have rK:wc.cell? ⟨Da,5,none⟩=some (.int .i64 Zc):=(ga ta.out 5).trans rfl;have qK:wc.cell? ⟨Da,6,none⟩=some (.string jd):=(ga ta.out 6).trans rfl;have Ek:=aa ta.out 0;have Dk:=aa ta.out 1;have Ck:=aa ta.out 2;have Bk:=aa ta.out 3;have Ak:=aa ta.out 4;have jJ:=aa ta.out 5;have iJ:=aa ta.out 6;have Sg:0 ≤ (Na:Int):=of_decide_eq_true (by first|(with_reducible assumption)|assumption);have Rg:Na < (l1.length:Int):=of_decide_eq_true (by first|(with_reducible assumption)|assumption);obtain ⟨bf,Ol,Yc⟩:=Kd.Bh My.out Na Sg Rg;cases Ol;replace Yc:=Ba HB.out Yc;replace Sg:=eq_true Sg;replace Rg:=eq_true Rg;have Xm:wc.cell? ⟨Ga,0,none⟩=some (.int .i64 0):=(ga ya.out 0).trans rfl;have Wm:wc.cell? ⟨Ga,1,none⟩=some (.int .i64 0):=(ga ya.out 1).trans rfl;have Vm:wc.cell? ⟨Ga,2,none⟩=some (.int .i64 0):=(ga ya.out 2).trans rfl;have Um:wc.cell? ⟨Ga,3,none⟩=some (.int .i64 0):=(ga ya.out 3).trans rfl;have Sm:wc.cell? ⟨Ga,4,none⟩=some (.int .i64 0):=(ga ya.out 4).trans rfl;have pK:wc.cell? ⟨Ga,5,none⟩=some (.int .i64 0):=(ga ya.out 5).trans rfl;have oK:wc.cell? ⟨Ga,6,none⟩=some (.string (⟨#[]⟩:ByteArray)):=(ga ya.out 6).trans rfl;have Rm:=aa ya.out 0;have Qm:=aa ya.out 1;have Pm:=aa ya.out 2;have Om:=aa ya.out 3;have Nm:=aa ya.out 4;have hJ:=aa ya.out 5;have gJ:=aa ya.out 6;go_wp2;refine bodyPost_ret (results_cell_row rfl _ _ Ga 70 #[.int .i64 Mb,.int .i64 Pa,.int .i64 (rd l1 Na),.int .i64 Ma,.int .i64 Lb,.int .i64 Zc,.string jd] (0,0) _ rfl (by (with_reducible repeat (first|refine Aa ?_ _|refine Ca ?_|refine za ?_ _));refine zb (cs:=#[.int .i64 Mb,.int .i64 Pa,.int .i64 (rd l1 Na),.int .i64 Ma,.int .i64 Lb,.int .i64 Zc,.string (⟨#[]⟩:ByteArray)]) ?_ 6 _ rfl;(with_reducible repeat (first|refine Aa ?_ _|refine Ca ?_|refine za ?_ _));refine zb (cs:=#[.int .i64 Mb,.int .i64 Pa,.int .i64 (rd l1 Na),.int .i64 Ma,.int .i64 Lb,.int .i64 0,.string (⟨#[]⟩:ByteArray)]) ?_ 5 _ rfl;(with_reducible repeat (first|refine Aa ?_ _|refine Ca ?_|refine za ?_ _));refine zb (cs:=#[.int .i64 Mb,.int .i64 Pa,.int .i64 (rd l1 Na),.int .i64 Ma,.int .i64 0,.int .i64 0,.string (⟨#[]⟩:ByteArray)]) ?_ 4 _ rfl;(with_reducible repeat (first|refine Aa ?_ _|refine Ca ?_|refine za ?_ _));refine zb (cs:=#[.int .i64 Mb,.int .i64 Pa,.int .i64 (rd l1 Na),.int .i64 0,.int .i64 0,.int .i64 0,.string (⟨#[]⟩:ByteArray)]) ?_ 3 _ rfl;(with_reducible repeat (first|refine Aa ?_ _|refine Ca ?_|refine za ?_ _));refine zb (cs:=#[.int .i64 Mb,.int .i64 Pa,.int .i64 0,.int .i64 0,.int .i64 0,.int .i64 0,.string (⟨#[]⟩:ByteArray)]) ?_ 2 _ rfl;(with_reducible repeat (first|refine Aa ?_ _|refine Ca ?_|refine za ?_ _));refine zb (cs:=#[.int .i64 Mb,.int .i64 0,.int .i64 0,.int .i64 0,.int .i64 0,.int .i64 0,.string (⟨#[]⟩:ByteArray)]) ?_ 1 _ rfl;(with_reducible repeat (first|refine Aa ?_ _|refine Ca ?_|refine za ?_ _));refine zb (cs:=#[.int .i64 0,.int .i64 0,.int .i64 0,.int .i64 0,.int .i64 0,.int .i64 0,.string (⟨#[]⟩:ByteArray)]) ?_ 0 _ rfl;(with_reducible repeat (first|refine Aa ?_ _|refine Ca ?_|refine za ?_ _));refine Db ?_ Xa.out _;(with_reducible repeat (first|refine Aa ?_ _|refine Ca ?_|refine za ?_ _));exact ya.out) Try.underlying70 rfl (by kernel_rfl)) rfl ?_;exact ⟨by first|rfl|(simp [Ja,Ia] <;> rfl)|(simp [*,Ja,Ia] <;> rfl),by repeat (first|(with_reducible first|exact HB.out|apply oa|apply ja|apply qa|refine ua ?_ Ua.out|refine ua ?_ Cb.out)|exact HB.out)⟩
     ·rw [if_neg fH] at H;exact absurd H (by simp)
    ·rw [if_neg jA] at H;exact absurd H (by simp)
   ·replace c9:=Bool.eq_false_iff.mpr c9;subst c9;have H1:(if Mb=2 then (if 0 ≤ Na then (if Na < (l1.length:Int) then (if 0 ≤ Ma then (if Ma < (l1.length:Int) then (some (Mb,Pa,rd l1 Na,rd l1 Ma,Lb,Zc,jd)) else (none)) else (none)) else (none)) else (none)) else (if Mb=3 then (Pd.j1 kj2 l1 (Mb == 3) Mb Pa Na Ma Lb Zc jd) else (Pd.j1 kj2 l1 (Mb == 4) Mb Pa Na Ma Lb Zc jd)))=some (r1,r2,r3,r4,r5,r6,r7):=by rw [if_neg (show ¬ (false=true) by decide)] at H;exact H
    clear H;have H:=H1;clear H1
    by_cases xQ:Mb=2
    ·rw [if_pos xQ] at H;have kV:(Mb == 2)=true:=beq_iff_eq.mpr xQ;have jV:(Mb != 2)=false:=bne_eq_false_iff_eq.mpr xQ;clear xQ
     by_cases gM:0 ≤ Na
     ·rw [if_pos gM] at H;have C8:decide (0 ≤ Na)=true:=decide_eq_true gM;clear gM
      by_cases UA:Na < (l1.length:Int)
      ·rw [if_pos UA] at H;have iw:decide (Na < (l1.length:Int))=true:=decide_eq_true UA;clear UA
       by_cases gA:0 ≤ Ma
       ·rw [if_pos gA] at H;have zq:decide (0 ≤ Ma)=true:=decide_eq_true gA;clear gA
        by_cases Rs:Ma < (l1.length:Int)
        ·rw [if_pos Rs] at H;have TA:decide (Ma < (l1.length:Int))=true:=decide_eq_true Rs;clear Rs;simp only [Option.some.injEq,Prod.mk.injEq] at H;obtain ⟨rfl,rfl,rfl,rfl,rfl,rfl,rfl⟩:=H;have aal:=Za.out;have wak:=Xa.out;have lK:wc.cell? ⟨Da,0,none⟩=some (.int .i64 Mb):=(ga ta.out 0).trans rfl;have kK:wc.cell? ⟨Da,1,none⟩=some (.int .i64 Pa):=(ga ta.out 1).trans rfl;have jK:wc.cell? ⟨Da,2,none⟩=some (.int .i64 Na):=(ga ta.out 2).trans rfl;have iK:wc.cell? ⟨Da,3,none⟩=some (.int .i64 Ma):=(ga ta.out 3).trans rfl;have gK:wc.cell? ⟨Da,4,none⟩=some (.int .i64 Lb):=(ga ta.out 4).trans rfl;have mT:wc.cell? ⟨Da,5,none⟩=some (.int .i64 Zc):=(ga ta.out 5).trans rfl;have lT:wc.cell? ⟨Da,6,none⟩=some (.string jd):=(ga ta.out 6).trans rfl;have dJ:=aa ta.out 0;have cJ:=aa ta.out 1;have bJ:=aa ta.out 2;have aJ:=aa ta.out 3;have ZI:=aa ta.out 4;have eS:=aa ta.out 5;have dS:=aa ta.out 6;have dh:0 ≤ (Na:Int):=of_decide_eq_true (by first|(with_reducible assumption)|assumption);have bh:Na < (l1.length:Int):=of_decide_eq_true (by first|(with_reducible assumption)|assumption);obtain ⟨Dj,Bm,Xd⟩:=Kd.Bh My.out Na dh bh;cases Bm;replace Xd:=Ba HB.out Xd;replace dh:=eq_true dh;replace bh:=eq_true bh;have si:0 ≤ (Ma:Int):=of_decide_eq_true (by first|(with_reducible assumption)|assumption);have ri:Ma < (l1.length:Int):=of_decide_eq_true (by first|(with_reducible assumption)|assumption);obtain ⟨Rh,Hp,Je⟩:=Kd.Bh My.out Ma si ri;obtain rfl:Dj=Rh:=(by injection Hp);have Ox:Dj.block ≠ Da:=Nat.ne_of_lt (Nat.lt_of_lt_of_le (by have:=World.block_lt_of_cell? _ _ Je;first|rwa [ng] at this|exact this) Df.out);replace Je:=Ba HB.out Je;replace Je:=(cell_far (p:=⟨Da,2,none⟩) (by first|(rw [ng];exact Ox)|(show (Addr.add _ _).block ≠ _;rw [ng];exact Ox)|exact Ox) (.int .i64 (rd l1 Na))).trans Je;clear Ox;replace si:=eq_true si;replace ri:=eq_true ri;have Bp:wc.cell? ⟨Ga,0,none⟩=some (.int .i64 0):=(ga ya.out 0).trans rfl;have Ap:wc.cell? ⟨Ga,1,none⟩=some (.int .i64 0):=(ga ya.out 1).trans rfl;have zp:wc.cell? ⟨Ga,2,none⟩=some (.int .i64 0):=(ga ya.out 2).trans rfl;have yp:wc.cell? ⟨Ga,3,none⟩=some (.int .i64 0):=(ga ya.out 3).trans rfl;have xp:wc.cell? ⟨Ga,4,none⟩=some (.int .i64 0):=(ga ya.out 4).trans rfl;have Ay:wc.cell? ⟨Ga,5,none⟩=some (.int .i64 0):=(ga ya.out 5).trans rfl;have zy:wc.cell? ⟨Ga,6,none⟩=some (.string (⟨#[]⟩:ByteArray)):=(ga ya.out 6).trans rfl;have Zo:=aa ya.out 0;have Yo:=aa ya.out 1;have Xo:=aa ya.out 2;have Wo:=aa ya.out 3;have Vo:=aa ya.out 4;have ay:=aa ya.out 5;have Zx:=aa ya.out 6;go_wp2;refine bodyPost_ret (results_cell_row rfl _ _ Ga 70 #[.int .i64 Mb,.int .i64 Pa,.int .i64 (rd l1 Na),.int .i64 (rd l1 Ma),.int .i64 Lb,.int .i64 Zc,.string jd] (0,0) _ rfl (by (with_reducible repeat (first|refine Aa ?_ _|refine Ca ?_|refine za ?_ _));refine zb (cs:=#[.int .i64 Mb,.int .i64 Pa,.int .i64 (rd l1 Na),.int .i64 (rd l1 Ma),.int .i64 Lb,.int .i64 Zc,.string (⟨#[]⟩:ByteArray)]) ?_ 6 _ rfl;(with_reducible repeat (first|refine Aa ?_ _|refine Ca ?_|refine za ?_ _));refine zb (cs:=#[.int .i64 Mb,.int .i64 Pa,.int .i64 (rd l1 Na),.int .i64 (rd l1 Ma),.int .i64 Lb,.int .i64 0,.string (⟨#[]⟩:ByteArray)]) ?_ 5 _ rfl;(with_reducible repeat (first|refine Aa ?_ _|refine Ca ?_|refine za ?_ _));refine zb (cs:=#[.int .i64 Mb,.int .i64 Pa,.int .i64 (rd l1 Na),.int .i64 (rd l1 Ma),.int .i64 0,.int .i64 0,.string (⟨#[]⟩:ByteArray)]) ?_ 4 _ rfl;(with_reducible repeat (first|refine Aa ?_ _|refine Ca ?_|refine za ?_ _));refine zb (cs:=#[.int .i64 Mb,.int .i64 Pa,.int .i64 (rd l1 Na),.int .i64 0,.int .i64 0,.int .i64 0,.string (⟨#[]⟩:ByteArray)]) ?_ 3 _ rfl;(with_reducible repeat (first|refine Aa ?_ _|refine Ca ?_|refine za ?_ _));refine zb (cs:=#[.int .i64 Mb,.int .i64 Pa,.int .i64 0,.int .i64 0,.int .i64 0,.int .i64 0,.string (⟨#[]⟩:ByteArray)]) ?_ 2 _ rfl;(with_reducible repeat (first|refine Aa ?_ _|refine Ca ?_|refine za ?_ _));refine zb (cs:=#[.int .i64 Mb,.int .i64 0,.int .i64 0,.int .i64 0,.int .i64 0,.int .i64 0,.string (⟨#[]⟩:ByteArray)]) ?_ 1 _ rfl;(with_reducible repeat (first|refine Aa ?_ _|refine Ca ?_|refine za ?_ _));refine zb (cs:=#[.int .i64 0,.int .i64 0,.int .i64 0,.int .i64 0,.int .i64 0,.int .i64 0,.string (⟨#[]⟩:ByteArray)]) ?_ 0 _ rfl;(with_reducible repeat (first|refine Aa ?_ _|refine Ca ?_|refine za ?_ _));refine Db ?_ Xa.out _;(with_reducible repeat (first|refine Aa ?_ _|refine Ca ?_|refine za ?_ _));refine Db ?_ Xa.out _;(with_reducible repeat (first|refine Aa ?_ _|refine Ca ?_|refine za ?_ _));exact ya.out) Try.underlying70 rfl (by kernel_rfl)) rfl ?_;exact ⟨by first|rfl|(simp [Ja,Ia] <;> rfl)|(simp [*,Ja,Ia] <;> rfl),by repeat (first|(with_reducible first|exact HB.out|apply oa|apply ja|apply qa|refine ua ?_ Ua.out|refine ua ?_ Cb.out)|exact HB.out)⟩
        ·rw [if_neg Rs] at H;exact absurd H (by simp)
       ·rw [if_neg gA] at H;exact absurd H (by simp)
      ·rw [if_neg UA] at H;exact absurd H (by simp)
     ·rw [if_neg gM] at H;exact absurd H (by simp)
    ·rw [if_neg xQ] at H;have kV:(Mb == 2)=false:=beq_eq_false_iff_ne.mpr xQ;have jV:(Mb != 2)=true:=bne_iff_ne.mpr xQ;have WY:=ia.mk H;clear H
     go_upto_if 30 with (fail)
     go_cut [30] (fun v30 wc=>∃ (kq:Nat) (bB:Bool),v30 = .bool bB∧ia (Pd.j1 kq l1 bB Mb Pa Na Ma Lb Zc jd=some (r1,r2,r3,r4,r5,r6,r7))∧ia (kq ≤ kj2)∧ia (wc.heap[Da]? = some (.cells #[.int .i64 Mb,.int .i64 Pa,.int .i64 Na,.int .i64 Ma,.int .i64 Lb,.int .i64 Zc,.string jd] 70 (0,0)))∧ia (wc.heap[Ga]? = some (.cells #[.int .i64 0,.int .i64 0,.int .i64 0,.int .i64 0,.int .i64 0,.int .i64 0,.string (⟨#[]⟩:ByteArray)] 70 (0,0)))∧ia (Below w.heap.size w wc))
     case first =>
      have H:=WY.out;clear WY
      by_cases bH:Mb=3
      ·rw [if_pos bH] at H;have SA:(Mb == 3)=true:=beq_iff_eq.mpr bH;have iV:(Mb != 3)=false:=bne_eq_false_iff_eq.mpr bH;clear bH;(first|rw [SA]|(simp only [dc,ec];rw [SA])|skip);have H':=ia.mk H;clear H;go_wp2
       go_meet
       case rel=>exact ⟨_,((Mb == 3)),(by first|rfl|(simp;done)|(simp [*];done)),H',⟨by have:=HJ2.out;first|omega|exact Nat.le_refl _⟩,⟨by (with_reducible repeat (first|refine Aa ?_ _|refine Ca ?_|refine za ?_ _));exact ta.out⟩,⟨by (with_reducible repeat (first|refine Aa ?_ _|refine Ca ?_|refine za ?_ _));exact ya.out⟩,⟨by repeat (first|(with_reducible first|exact HB.out|apply oa|apply ja|apply qa|refine ua ?_ Ua.out|refine ua ?_ Cb.out)|exact HB.out)⟩⟩
      ·rw [if_neg bH] at H;have SA:(Mb == 3)=false:=beq_eq_false_iff_ne.mpr bH;have iV:(Mb != 3)=true:=bne_iff_ne.mpr bH;(first|rw [SA]|(simp only [dc,ec];rw [SA])|skip);have H':=ia.mk H;clear H;go_wp2
       go_meet
       case rel=>exact ⟨_,((Mb == 4)),(by first|rfl|(simp;done)|(simp [*];done)),H',⟨by have:=HJ2.out;first|omega|exact Nat.le_refl _⟩,⟨by (with_reducible repeat (first|refine Aa ?_ _|refine Ca ?_|refine za ?_ _));exact ta.out⟩,⟨by (with_reducible repeat (first|refine Aa ?_ _|refine Ca ?_|refine za ?_ _));exact ya.out⟩,⟨by repeat (first|(with_reducible first|exact HB.out|apply oa|apply ja|apply qa|refine ua ?_ Ua.out|refine ua ?_ Cb.out)|exact HB.out)⟩⟩
     case rest =>
      clear WY
      try clear c1
      try clear p1
      try clear q1
      try clear hx1
      try clear c2
      try clear p2
      try clear c6
      try clear c7
      try clear c8
      try clear wo
      try clear Gx
      try clear c9
      try clear jA
      try clear sF
      try clear gG
      try clear fG
      try clear QZ
      try clear fH
      try clear oO
      try clear iA
      try clear xQ
      try clear kV
      try clear jV
      try clear gM
      try clear C8
      try clear UA
      try clear iw
      try clear gA
      try clear zq
      try clear Rs
      try clear TA
      try clear fA
      try clear bH
      try clear SA
      try clear iV
      try clear Kk
      try clear Jk
      try clear Ik
      try clear Gk
      try clear Fk
      try clear rK
      try clear qK
      try clear Xm
      try clear Wm
      try clear Vm
      try clear Um
      try clear Sm
      try clear pK
      try clear oK
      try clear lK
      try clear kK
      try clear jK
      try clear iK
      try clear gK
      try clear mT
      try clear lT
      try clear Bp
      try clear Ap
      try clear zp
      try clear yp
      try clear xp
      try clear Ay
      try clear zy
      try clear xq
      try clear vq
      try clear uq
      try clear sq
      try clear rq
      try clear vz
      try clear uz
      try clear Ek
      try clear Dk
      try clear Ck
      try clear Bk
      try clear Ak
      try clear jJ
      try clear iJ
      try clear Rm
      try clear Qm
      try clear Pm
      try clear Om
      try clear Nm
      try clear hJ
      try clear gJ
      try clear dJ
      try clear cJ
      try clear bJ
      try clear aJ
      try clear ZI
      try clear eS
      try clear dS
      try clear Zo
      try clear Yo
      try clear Xo
      try clear Wo
      try clear Vo
      try clear ay
      try clear Zx
      try clear qq
      try clear pq
      try clear oq
      try clear mq
      try clear lq
      try clear rz
      try clear qz
      try clear Yc
      try clear Xd
      try clear Je
      try clear Sg
      try clear dh
      try clear si
      try clear p2
      try clear Rg
      try clear bh
      try clear ri
      obtain ⟨kq,bB,rfl,HA,Bao,ta,ya,HB⟩:=hcut;cases kq with
      | zero=>exact absurd HA.out (by simp [Pd.j1])
      | succ ian =>
       have H:=HA.out;clear HA;simp only [Pd.j1] at H
       by_cases c25:bB=true
       ·subst c25;have H1:(if 0 ≤ Ma then (if Ma < (l1.length:Int) then (if Na ≥ 0 then (if 0 ≤ Na then (if Na < (l1.length:Int) then (if Mb=4 then (if 0 ≤ Lb then (if Lb < (l1.length:Int) then (some (Mb,Pa,rd l1 Na,rd l1 Ma,rd l1 Lb,Zc,jd)) else (none)) else (none)) else (some (Mb,Pa,rd l1 Na,rd l1 Ma,Lb,Zc,jd))) else (none)) else (none)) else (if Mb=4 then (if 0 ≤ Lb then (if Lb < (l1.length:Int) then (some (Mb,Pa,Na,rd l1 Ma,rd l1 Lb,Zc,jd)) else (none)) else (none)) else (some (Mb,Pa,Na,rd l1 Ma,Lb,Zc,jd)))) else (none)) else (none))=some (r1,r2,r3,r4,r5,r6,r7):=by rw [if_pos rfl] at H;exact H
        clear H;have H:=H1;clear H1
        by_cases jZ:0 ≤ Ma
        ·rw [if_pos jZ] at H;have pam:decide (0 ≤ Ma)=true:=decide_eq_true jZ;clear jZ
         by_cases wQ:Ma < (l1.length:Int)
         ·rw [if_pos wQ] at H;have oam:decide (Ma < (l1.length:Int))=true:=decide_eq_true wQ;clear wQ
          by_cases ML:Na ≥ 0
          ·rw [if_pos ML] at H;have mO:decide (0 ≤ Na)=true:=decide_eq_true ML;clear ML
           by_cases jE:0 ≤ Na
           ·rw [if_pos jE] at H;have qx:decide (0 ≤ Na)=true:=decide_eq_true jE;clear jE
            by_cases RA:Na < (l1.length:Int)
            ·rw [if_pos RA] at H;have rF:decide (Na < (l1.length:Int))=true:=decide_eq_true RA;clear RA
             by_cases PF:Mb=4
             ·rw [if_pos PF] at H;have lO:(Mb == 4)=true:=beq_iff_eq.mpr PF;have kO:(Mb != 4)=false:=bne_eq_false_iff_eq.mpr PF;clear PF
              by_cases yT:0 ≤ Lb
              ·rw [if_pos yT] at H;have nam:decide (0 ≤ Lb)=true:=decide_eq_true yT;clear yT
               by_cases vQ:Lb < (l1.length:Int)
               ·rw [if_pos vQ] at H;have mam:decide (Lb < (l1.length:Int))=true:=decide_eq_true vQ;clear vQ;simp only [Option.some.injEq,Prod.mk.injEq] at H;obtain ⟨rfl,rfl,rfl,rfl,rfl,rfl,rfl⟩:=H;have Y0:=Za.out;have G0:=Xa.out;have eD:wc.cell? ⟨Da,0,none⟩=some (.int .i64 Mb):=(ga ta.out 0).trans rfl;have dD:wc.cell? ⟨Da,1,none⟩=some (.int .i64 Pa):=(ga ta.out 1).trans rfl;have cD:wc.cell? ⟨Da,2,none⟩=some (.int .i64 Na):=(ga ta.out 2).trans rfl;have bD:wc.cell? ⟨Da,3,none⟩=some (.int .i64 Ma):=(ga ta.out 3).trans rfl;have aD:wc.cell? ⟨Da,4,none⟩=some (.int .i64 Lb):=(ga ta.out 4).trans rfl;have jaf:wc.cell? ⟨Da,5,none⟩=some (.int .i64 Zc):=(ga ta.out 5).trans rfl;have iaf:wc.cell? ⟨Da,6,none⟩=some (.string jd):=(ga ta.out 6).trans rfl;have XB:=aa ta.out 0;have WB:=aa ta.out 1;have VB:=aa ta.out 2;have UB:=aa ta.out 3;have TB:=aa ta.out 4;have gac:=aa ta.out 5;have fac:=aa ta.out 6;have sj:0 ≤ (Ma:Int):=of_decide_eq_true (by first|(with_reducible assumption)|assumption);have rj:Ma < (l1.length:Int):=of_decide_eq_true (by first|(with_reducible assumption)|assumption);obtain ⟨Vj,yq,Nf⟩:=Kd.Bh My.out Ma sj rj;cases yq;replace Nf:=Ba HB.out Nf;replace sj:=eq_true sj;replace rj:=eq_true rj;have jt:0 ≤ (Na:Int):=of_decide_eq_true (by first|(with_reducible assumption)|assumption);have Ys:Na < (l1.length:Int):=of_decide_eq_true (by first|(with_reducible assumption)|assumption);obtain ⟨Gz,XG,Xg⟩:=Kd.Bh My.out Na jt Ys;obtain rfl:Vj=Gz:=(by injection XG);have Mm:Vj.block ≠ Da:=Nat.ne_of_lt (Nat.lt_of_lt_of_le (by have:=World.block_lt_of_cell? _ _ Xg;first|rwa [ng] at this|exact this) Df.out);replace Xg:=Ba HB.out Xg;replace Xg:=(cell_far (p:=⟨Da,3,none⟩) (by first|(rw [ng];exact Mm)|(show (Addr.add _ _).block ≠ _;rw [ng];exact Mm)|exact Mm) (.int .i64 (rd l1 Ma))).trans Xg;clear Mm;replace jt:=eq_true jt;replace Ys:=eq_true Ys;have uW:0 ≤ (Lb:Int):=of_decide_eq_true (by first|(with_reducible assumption)|assumption);have sW:Lb < (l1.length:Int):=of_decide_eq_true (by first|(with_reducible assumption)|assumption);obtain ⟨H8,lai,Gn⟩:=Kd.Bh My.out Lb uW sW;obtain rfl:Vj=H8:=(by injection lai);have Nx:Vj.block ≠ Da:=Nat.ne_of_lt (Nat.lt_of_lt_of_le (by have:=World.block_lt_of_cell? _ _ Gn;first|rwa [ng] at this|exact this) Df.out);have Mx:Vj.block ≠ Da:=Nat.ne_of_lt (Nat.lt_of_lt_of_le (by have:=World.block_lt_of_cell? _ _ Gn;first|rwa [ng] at this|exact this) Df.out);replace Gn:=Ba HB.out Gn;replace Gn:=(cell_far (p:=⟨Da,3,none⟩) (by first|(rw [ng];exact Nx)|(show (Addr.add _ _).block ≠ _;rw [ng];exact Nx)|exact Nx) (.int .i64 (rd l1 Ma))).trans Gn;replace Gn:=(cell_far (p:=⟨Da,2,none⟩) (by first|(rw [ng];exact Mx)|(show (Addr.add _ _).block ≠ _;rw [ng];exact Mx)|exact Mx) (.int .i64 (rd l1 Na))).trans Gn;clear Nx Mx;replace uW:=eq_true uW;replace sW:=eq_true sW;have ZC:wc.cell? ⟨Ga,0,none⟩=some (.int .i64 0):=(ga ya.out 0).trans rfl;have YC:wc.cell? ⟨Ga,1,none⟩=some (.int .i64 0):=(ga ya.out 1).trans rfl;have XC:wc.cell? ⟨Ga,2,none⟩=some (.int .i64 0):=(ga ya.out 2).trans rfl;have WC:wc.cell? ⟨Ga,3,none⟩=some (.int .i64 0):=(ga ya.out 3).trans rfl;have VC:wc.cell? ⟨Ga,4,none⟩=some (.int .i64 0):=(ga ya.out 4).trans rfl;have haf:wc.cell? ⟨Ga,5,none⟩=some (.int .i64 0):=(ga ya.out 5).trans rfl;have gaf:wc.cell? ⟨Ga,6,none⟩=some (.string (⟨#[]⟩:ByteArray)):=(ga ya.out 6).trans rfl;have SB:=aa ya.out 0;have RB:=aa ya.out 1;have QB:=aa ya.out 2;have PB:=aa ya.out 3;have OB:=aa ya.out 4;have eac:=aa ya.out 5;have dac:=aa ya.out 6;go_wp2;refine bodyPost_ret (results_cell_row rfl _ _ Ga 70 #[.int .i64 Mb,.int .i64 Pa,.int .i64 (rd l1 Na),.int .i64 (rd l1 Ma),.int .i64 (rd l1 Lb),.int .i64 Zc,.string jd] (0,0) _ rfl (by (with_reducible repeat (first|refine Aa ?_ _|refine Ca ?_|refine za ?_ _));refine zb (cs:=#[.int .i64 Mb,.int .i64 Pa,.int .i64 (rd l1 Na),.int .i64 (rd l1 Ma),.int .i64 (rd l1 Lb),.int .i64 Zc,.string (⟨#[]⟩:ByteArray)]) ?_ 6 _ rfl;(with_reducible repeat (first|refine Aa ?_ _|refine Ca ?_|refine za ?_ _));refine zb (cs:=#[.int .i64 Mb,.int .i64 Pa,.int .i64 (rd l1 Na),.int .i64 (rd l1 Ma),.int .i64 (rd l1 Lb),.int .i64 0,.string (⟨#[]⟩:ByteArray)]) ?_ 5 _ rfl;(with_reducible repeat (first|refine Aa ?_ _|refine Ca ?_|refine za ?_ _));refine zb (cs:=#[.int .i64 Mb,.int .i64 Pa,.int .i64 (rd l1 Na),.int .i64 (rd l1 Ma),.int .i64 0,.int .i64 0,.string (⟨#[]⟩:ByteArray)]) ?_ 4 _ rfl;(with_reducible repeat (first|refine Aa ?_ _|refine Ca ?_|refine za ?_ _));refine zb (cs:=#[.int .i64 Mb,.int .i64 Pa,.int .i64 (rd l1 Na),.int .i64 0,.int .i64 0,.int .i64 0,.string (⟨#[]⟩:ByteArray)]) ?_ 3 _ rfl;(with_reducible repeat (first|refine Aa ?_ _|refine Ca ?_|refine za ?_ _));refine zb (cs:=#[.int .i64 Mb,.int .i64 Pa,.int .i64 0,.int .i64 0,.int .i64 0,.int .i64 0,.string (⟨#[]⟩:ByteArray)]) ?_ 2 _ rfl;(with_reducible repeat (first|refine Aa ?_ _|refine Ca ?_|refine za ?_ _));refine zb (cs:=#[.int .i64 Mb,.int .i64 0,.int .i64 0,.int .i64 0,.int .i64 0,.int .i64 0,.string (⟨#[]⟩:ByteArray)]) ?_ 1 _ rfl;(with_reducible repeat (first|refine Aa ?_ _|refine Ca ?_|refine za ?_ _));refine zb (cs:=#[.int .i64 0,.int .i64 0,.int .i64 0,.int .i64 0,.int .i64 0,.int .i64 0,.string (⟨#[]⟩:ByteArray)]) ?_ 0 _ rfl;(with_reducible repeat (first|refine Aa ?_ _|refine Ca ?_|refine za ?_ _));refine Db ?_ Xa.out _;(with_reducible repeat (first|refine Aa ?_ _|refine Ca ?_|refine za ?_ _));refine Db ?_ Xa.out _;(with_reducible repeat (first|refine Aa ?_ _|refine Ca ?_|refine za ?_ _));refine Db ?_ Xa.out _;(with_reducible repeat (first|refine Aa ?_ _|refine Ca ?_|refine za ?_ _));exact ya.out) Try.underlying70 rfl (by kernel_rfl)) rfl ?_;exact ⟨by first|rfl|(simp [Ja,Ia] <;> rfl)|(simp [*,Ja,Ia] <;> rfl),by repeat (first|(with_reducible first|exact HB.out|apply oa|apply ja|apply qa|refine ua ?_ Ua.out|refine ua ?_ Cb.out)|exact HB.out)⟩
               ·rw [if_neg vQ] at H;exact absurd H (by simp)
              ·rw [if_neg yT] at H;exact absurd H (by simp)
             ·rw [if_neg PF] at H;have lO:(Mb == 4)=false:=beq_eq_false_iff_ne.mpr PF;have kO:(Mb != 4)=true:=bne_iff_ne.mpr PF;simp only [Option.some.injEq,Prod.mk.injEq] at H;obtain ⟨rfl,rfl,rfl,rfl,rfl,rfl,rfl⟩:=H;have BU:=Za.out;have vU:=Xa.out;have tr:wc.cell? ⟨Da,0,none⟩=some (.int .i64 Mb):=(ga ta.out 0).trans rfl;have sr:wc.cell? ⟨Da,1,none⟩=some (.int .i64 Pa):=(ga ta.out 1).trans rfl;have nr:wc.cell? ⟨Da,2,none⟩=some (.int .i64 Na):=(ga ta.out 2).trans rfl;have kr:wc.cell? ⟨Da,3,none⟩=some (.int .i64 Ma):=(ga ta.out 3).trans rfl;have jr:wc.cell? ⟨Da,4,none⟩=some (.int .i64 Lb):=(ga ta.out 4).trans rfl;have UC:wc.cell? ⟨Da,5,none⟩=some (.int .i64 Zc):=(ga ta.out 5).trans rfl;have TC:wc.cell? ⟨Da,6,none⟩=some (.string jd):=(ga ta.out 6).trans rfl;have Pq:=aa ta.out 0;have Oq:=aa ta.out 1;have Nq:=aa ta.out 2;have Mq:=aa ta.out 3;have Kq:=aa ta.out 4;have NB:=aa ta.out 5;have MB:=aa ta.out 6;have sj:0 ≤ (Ma:Int):=of_decide_eq_true (by first|(with_reducible assumption)|assumption);have rj:Ma < (l1.length:Int):=of_decide_eq_true (by first|(with_reducible assumption)|assumption);obtain ⟨Vj,yq,Nf⟩:=Kd.Bh My.out Ma sj rj;cases yq;replace Nf:=Ba HB.out Nf;replace sj:=eq_true sj;replace rj:=eq_true rj;have jt:0 ≤ (Na:Int):=of_decide_eq_true (by first|(with_reducible assumption)|assumption);have Ys:Na < (l1.length:Int):=of_decide_eq_true (by first|(with_reducible assumption)|assumption);obtain ⟨Gz,XG,Xg⟩:=Kd.Bh My.out Na jt Ys;obtain rfl:Vj=Gz:=(by injection XG);have Mm:Vj.block ≠ Da:=Nat.ne_of_lt (Nat.lt_of_lt_of_le (by have:=World.block_lt_of_cell? _ _ Xg;first|rwa [ng] at this|exact this) Df.out);replace Xg:=Ba HB.out Xg;replace Xg:=(cell_far (p:=⟨Da,3,none⟩) (by first|(rw [ng];exact Mm)|(show (Addr.add _ _).block ≠ _;rw [ng];exact Mm)|exact Mm) (.int .i64 (rd l1 Ma))).trans Xg;clear Mm;replace jt:=eq_true jt;replace Ys:=eq_true Ys;have SC:wc.cell? ⟨Ga,0,none⟩=some (.int .i64 0):=(ga ya.out 0).trans rfl;have RC:wc.cell? ⟨Ga,1,none⟩=some (.int .i64 0):=(ga ya.out 1).trans rfl;have QC:wc.cell? ⟨Ga,2,none⟩=some (.int .i64 0):=(ga ya.out 2).trans rfl;have PC:wc.cell? ⟨Ga,3,none⟩=some (.int .i64 0):=(ga ya.out 3).trans rfl;have OC:wc.cell? ⟨Ga,4,none⟩=some (.int .i64 0):=(ga ya.out 4).trans rfl;have WS:wc.cell? ⟨Ga,5,none⟩=some (.int .i64 0):=(ga ya.out 5).trans rfl;have VS:wc.cell? ⟨Ga,6,none⟩=some (.string (⟨#[]⟩:ByteArray)):=(ga ya.out 6).trans rfl;have LB:=aa ya.out 0;have KB:=aa ya.out 1;have JB:=aa ya.out 2;have IB:=aa ya.out 3;have FB:=aa ya.out 4;have NR:=aa ya.out 5;have MR:=aa ya.out 6;go_wp2;refine bodyPost_ret (results_cell_row rfl _ _ Ga 70 #[.int .i64 Mb,.int .i64 Pa,.int .i64 (rd l1 Na),.int .i64 (rd l1 Ma),.int .i64 Lb,.int .i64 Zc,.string jd] (0,0) _ rfl (by (with_reducible repeat (first|refine Aa ?_ _|refine Ca ?_|refine za ?_ _));refine zb (cs:=#[.int .i64 Mb,.int .i64 Pa,.int .i64 (rd l1 Na),.int .i64 (rd l1 Ma),.int .i64 Lb,.int .i64 Zc,.string (⟨#[]⟩:ByteArray)]) ?_ 6 _ rfl;(with_reducible repeat (first|refine Aa ?_ _|refine Ca ?_|refine za ?_ _));refine zb (cs:=#[.int .i64 Mb,.int .i64 Pa,.int .i64 (rd l1 Na),.int .i64 (rd l1 Ma),.int .i64 Lb,.int .i64 0,.string (⟨#[]⟩:ByteArray)]) ?_ 5 _ rfl;(with_reducible repeat (first|refine Aa ?_ _|refine Ca ?_|refine za ?_ _));refine zb (cs:=#[.int .i64 Mb,.int .i64 Pa,.int .i64 (rd l1 Na),.int .i64 (rd l1 Ma),.int .i64 0,.int .i64 0,.string (⟨#[]⟩:ByteArray)]) ?_ 4 _ rfl;(with_reducible repeat (first|refine Aa ?_ _|refine Ca ?_|refine za ?_ _));refine zb (cs:=#[.int .i64 Mb,.int .i64 Pa,.int .i64 (rd l1 Na),.int .i64 0,.int .i64 0,.int .i64 0,.string (⟨#[]⟩:ByteArray)]) ?_ 3 _ rfl;(with_reducible repeat (first|refine Aa ?_ _|refine Ca ?_|refine za ?_ _));refine zb (cs:=#[.int .i64 Mb,.int .i64 Pa,.int .i64 0,.int .i64 0,.int .i64 0,.int .i64 0,.string (⟨#[]⟩:ByteArray)]) ?_ 2 _ rfl;(with_reducible repeat (first|refine Aa ?_ _|refine Ca ?_|refine za ?_ _));refine zb (cs:=#[.int .i64 Mb,.int .i64 0,.int .i64 0,.int .i64 0,.int .i64 0,.int .i64 0,.string (⟨#[]⟩:ByteArray)]) ?_ 1 _ rfl;(with_reducible repeat (first|refine Aa ?_ _|refine Ca ?_|refine za ?_ _));refine zb (cs:=#[.int .i64 0,.int .i64 0,.int .i64 0,.int .i64 0,.int .i64 0,.int .i64 0,.string (⟨#[]⟩:ByteArray)]) ?_ 0 _ rfl;(with_reducible repeat (first|refine Aa ?_ _|refine Ca ?_|refine za ?_ _));refine Db ?_ Xa.out _;(with_reducible repeat (first|refine Aa ?_ _|refine Ca ?_|refine za ?_ _));refine Db ?_ Xa.out _;(with_reducible repeat (first|refine Aa ?_ _|refine Ca ?_|refine za ?_ _));exact ya.out) Try.underlying70 rfl (by kernel_rfl)) rfl ?_;exact ⟨by first|rfl|(simp [Ja,Ia] <;> rfl)|(simp [*,Ja,Ia] <;> rfl),by repeat (first|(with_reducible first|exact HB.out|apply oa|apply ja|apply qa|refine ua ?_ Ua.out|refine ua ?_ Cb.out)|exact HB.out)⟩
            ·rw [if_neg RA] at H;exact absurd H (by simp)
           ·rw [if_neg jE] at H;exact absurd H (by simp)
          ·rw [if_neg ML] at H;have mO:decide (0 ≤ Na)=false:=decide_eq_false ML;clear ML
           by_cases eY:Mb=4
           ·rw [if_pos eY] at H;have o8:(Mb == 4)=true:=beq_iff_eq.mpr eY;have n8:(Mb != 4)=false:=bne_eq_false_iff_eq.mpr eY;clear eY
            by_cases m8:0 ≤ Lb
            ·rw [if_pos m8] at H;have kam:decide (0 ≤ Lb)=true:=decide_eq_true m8;clear m8
             by_cases c42:Lb < (l1.length:Int)
             ·rw [if_pos c42] at H;have jam:decide (Lb < (l1.length:Int))=true:=decide_eq_true c42;clear c42;simp only [Option.some.injEq,Prod.mk.injEq] at H;obtain ⟨rfl,rfl,rfl,rfl,rfl,rfl,rfl⟩:=H;have AU:=Za.out;have uU:=Xa.out;have CC:wc.cell? ⟨Da,0,none⟩=some (.int .i64 Mb):=(ga ta.out 0).trans rfl;have BC:wc.cell? ⟨Da,1,none⟩=some (.int .i64 Pa):=(ga ta.out 1).trans rfl;have zC:wc.cell? ⟨Da,2,none⟩=some (.int .i64 Na):=(ga ta.out 2).trans rfl;have yC:wc.cell? ⟨Da,3,none⟩=some (.int .i64 Ma):=(ga ta.out 3).trans rfl;have xC:wc.cell? ⟨Da,4,none⟩=some (.int .i64 Lb):=(ga ta.out 4).trans rfl;have LS:wc.cell? ⟨Da,5,none⟩=some (.int .i64 Zc):=(ga ta.out 5).trans rfl;have JS:wc.cell? ⟨Da,6,none⟩=some (.string jd):=(ga ta.out 6).trans rfl;have uB:=aa ta.out 0;have tB:=aa ta.out 1;have sB:=aa ta.out 2;have rB:=aa ta.out 3;have qB:=aa ta.out 4;have AR:=aa ta.out 5;have zR:=aa ta.out 6;have sj:0 ≤ (Ma:Int):=of_decide_eq_true (by first|(with_reducible assumption)|assumption);have rj:Ma < (l1.length:Int):=of_decide_eq_true (by first|(with_reducible assumption)|assumption);obtain ⟨Vj,yq,Nf⟩:=Kd.Bh My.out Ma sj rj;cases yq;replace Nf:=Ba HB.out Nf;replace sj:=eq_true sj;replace rj:=eq_true rj;have ct:0 ≤ (Lb:Int):=of_decide_eq_true (by first|(with_reducible assumption)|assumption);have Xs:Lb < (l1.length:Int):=of_decide_eq_true (by first|(with_reducible assumption)|assumption);obtain ⟨Ih,WG,Ri⟩:=Kd.Bh My.out Lb ct Xs;obtain rfl:Vj=Ih:=(by injection WG);have Lx:Vj.block ≠ Da:=Nat.ne_of_lt (Nat.lt_of_lt_of_le (by have:=World.block_lt_of_cell? _ _ Ri;first|rwa [ng] at this|exact this) Df.out);replace Ri:=Ba HB.out Ri;replace Ri:=(cell_far (p:=⟨Da,3,none⟩) (by first|(rw [ng];exact Lx)|(show (Addr.add _ _).block ≠ _;rw [ng];exact Lx)|exact Lx) (.int .i64 (rd l1 Ma))).trans Ri;clear Lx;replace ct:=eq_true ct;replace Xs:=eq_true Xs;have FJ:wc.cell? ⟨Ga,0,none⟩=some (.int .i64 0):=(ga ya.out 0).trans rfl;have EJ:wc.cell? ⟨Ga,1,none⟩=some (.int .i64 0):=(ga ya.out 1).trans rfl;have DJ:wc.cell? ⟨Ga,2,none⟩=some (.int .i64 0):=(ga ya.out 2).trans rfl;have CJ:wc.cell? ⟨Ga,3,none⟩=some (.int .i64 0):=(ga ya.out 3).trans rfl;have BJ:wc.cell? ⟨Ga,4,none⟩=some (.int .i64 0):=(ga ya.out 4).trans rfl;have daf:wc.cell? ⟨Ga,5,none⟩=some (.int .i64 0):=(ga ya.out 5).trans rfl;have caf:wc.cell? ⟨Ga,6,none⟩=some (.string (⟨#[]⟩:ByteArray)):=(ga ya.out 6).trans rfl;have wI:=aa ya.out 0;have vI:=aa ya.out 1;have uI:=aa ya.out 2;have tI:=aa ya.out 3;have sI:=aa ya.out 4;have aac:=aa ya.out 5;have Zab:=aa ya.out 6;go_wp2;refine bodyPost_ret (results_cell_row rfl _ _ Ga 70 #[.int .i64 Mb,.int .i64 Pa,.int .i64 Na,.int .i64 (rd l1 Ma),.int .i64 (rd l1 Lb),.int .i64 Zc,.string jd] (0,0) _ rfl (by (with_reducible repeat (first|refine Aa ?_ _|refine Ca ?_|refine za ?_ _));refine zb (cs:=#[.int .i64 Mb,.int .i64 Pa,.int .i64 Na,.int .i64 (rd l1 Ma),.int .i64 (rd l1 Lb),.int .i64 Zc,.string (⟨#[]⟩:ByteArray)]) ?_ 6 _ rfl;(with_reducible repeat (first|refine Aa ?_ _|refine Ca ?_|refine za ?_ _));refine zb (cs:=#[.int .i64 Mb,.int .i64 Pa,.int .i64 Na,.int .i64 (rd l1 Ma),.int .i64 (rd l1 Lb),.int .i64 0,.string (⟨#[]⟩:ByteArray)]) ?_ 5 _ rfl;(with_reducible repeat (first|refine Aa ?_ _|refine Ca ?_|refine za ?_ _));refine zb (cs:=#[.int .i64 Mb,.int .i64 Pa,.int .i64 Na,.int .i64 (rd l1 Ma),.int .i64 0,.int .i64 0,.string (⟨#[]⟩:ByteArray)]) ?_ 4 _ rfl;(with_reducible repeat (first|refine Aa ?_ _|refine Ca ?_|refine za ?_ _));refine zb (cs:=#[.int .i64 Mb,.int .i64 Pa,.int .i64 Na,.int .i64 0,.int .i64 0,.int .i64 0,.string (⟨#[]⟩:ByteArray)]) ?_ 3 _ rfl;(with_reducible repeat (first|refine Aa ?_ _|refine Ca ?_|refine za ?_ _));refine zb (cs:=#[.int .i64 Mb,.int .i64 Pa,.int .i64 0,.int .i64 0,.int .i64 0,.int .i64 0,.string (⟨#[]⟩:ByteArray)]) ?_ 2 _ rfl;(with_reducible repeat (first|refine Aa ?_ _|refine Ca ?_|refine za ?_ _));refine zb (cs:=#[.int .i64 Mb,.int .i64 0,.int .i64 0,.int .i64 0,.int .i64 0,.int .i64 0,.string (⟨#[]⟩:ByteArray)]) ?_ 1 _ rfl;(with_reducible repeat (first|refine Aa ?_ _|refine Ca ?_|refine za ?_ _));refine zb (cs:=#[.int .i64 0,.int .i64 0,.int .i64 0,.int .i64 0,.int .i64 0,.int .i64 0,.string (⟨#[]⟩:ByteArray)]) ?_ 0 _ rfl;(with_reducible repeat (first|refine Aa ?_ _|refine Ca ?_|refine za ?_ _));refine Db ?_ Xa.out _;(with_reducible repeat (first|refine Aa ?_ _|refine Ca ?_|refine za ?_ _));refine Db ?_ Xa.out _;(with_reducible repeat (first|refine Aa ?_ _|refine Ca ?_|refine za ?_ _));exact ya.out) Try.underlying70 rfl (by kernel_rfl)) rfl ?_;exact ⟨by first|rfl|(simp [Ja,Ia] <;> rfl)|(simp [*,Ja,Ia] <;> rfl),by repeat (first|(with_reducible first|exact HB.out|apply oa|apply ja|apply qa|refine ua ?_ Ua.out|refine ua ?_ Cb.out)|exact HB.out)⟩
             ·rw [if_neg c42] at H;exact absurd H (by simp)
            ·rw [if_neg m8] at H;exact absurd H (by simp)
           ·rw [if_neg eY] at H;have o8:(Mb == 4)=false:=beq_eq_false_iff_ne.mpr eY;have n8:(Mb != 4)=true:=bne_iff_ne.mpr eY;simp only [Option.some.injEq,Prod.mk.injEq] at H;obtain ⟨rfl,rfl,rfl,rfl,rfl,rfl,rfl⟩:=H;have S0:=Za.out;have YZ:=Xa.out;have GS:wc.cell? ⟨Da,0,none⟩=some (.int .i64 Mb):=(ga ta.out 0).trans rfl;have ES:wc.cell? ⟨Da,1,none⟩=some (.int .i64 Pa):=(ga ta.out 1).trans rfl;have DS:wc.cell? ⟨Da,2,none⟩=some (.int .i64 Na):=(ga ta.out 2).trans rfl;have CS:wc.cell? ⟨Da,3,none⟩=some (.int .i64 Ma):=(ga ta.out 3).trans rfl;have BS:wc.cell? ⟨Da,4,none⟩=some (.int .i64 Lb):=(ga ta.out 4).trans rfl;have Wae:wc.cell? ⟨Da,5,none⟩=some (.int .i64 Zc):=(ga ta.out 5).trans rfl;have Vae:wc.cell? ⟨Da,6,none⟩=some (.string jd):=(ga ta.out 6).trans rfl;have yR:=aa ta.out 0;have xR:=aa ta.out 1;have wR:=aa ta.out 2;have vR:=aa ta.out 3;have uR:=aa ta.out 4;have Tab:=aa ta.out 5;have Sab:=aa ta.out 6;have sj:0 ≤ (Ma:Int):=of_decide_eq_true (by first|(with_reducible assumption)|assumption);have rj:Ma < (l1.length:Int):=of_decide_eq_true (by first|(with_reducible assumption)|assumption);obtain ⟨Vj,yq,Nf⟩:=Kd.Bh My.out Ma sj rj;cases yq;replace Nf:=Ba HB.out Nf;replace sj:=eq_true sj;replace rj:=eq_true rj;have Dv:wc.cell? ⟨Ga,0,none⟩=some (.int .i64 0):=(ga ya.out 0).trans rfl;have Cv:wc.cell? ⟨Ga,1,none⟩=some (.int .i64 0):=(ga ya.out 1).trans rfl;have Bv:wc.cell? ⟨Ga,2,none⟩=some (.int .i64 0):=(ga ya.out 2).trans rfl;have Av:wc.cell? ⟨Ga,3,none⟩=some (.int .i64 0):=(ga ya.out 3).trans rfl;have zv:wc.cell? ⟨Ga,4,none⟩=some (.int .i64 0):=(ga ya.out 4).trans rfl;have AJ:wc.cell? ⟨Ga,5,none⟩=some (.int .i64 0):=(ga ya.out 5).trans rfl;have zJ:wc.cell? ⟨Ga,6,none⟩=some (.string (⟨#[]⟩:ByteArray)):=(ga ya.out 6).trans rfl;have Qu:=aa ya.out 0;have Pu:=aa ya.out 1;have Ou:=aa ya.out 2;have Nu:=aa ya.out 3;have Mu:=aa ya.out 4;have rI:=aa ya.out 5;have qI:=aa ya.out 6;go_wp2;refine bodyPost_ret (results_cell_row rfl _ _ Ga 70 #[.int .i64 Mb,.int .i64 Pa,.int .i64 Na,.int .i64 (rd l1 Ma),.int .i64 Lb,.int .i64 Zc,.string jd] (0,0) _ rfl (by (with_reducible repeat (first|refine Aa ?_ _|refine Ca ?_|refine za ?_ _));refine zb (cs:=#[.int .i64 Mb,.int .i64 Pa,.int .i64 Na,.int .i64 (rd l1 Ma),.int .i64 Lb,.int .i64 Zc,.string (⟨#[]⟩:ByteArray)]) ?_ 6 _ rfl;(with_reducible repeat (first|refine Aa ?_ _|refine Ca ?_|refine za ?_ _));refine zb (cs:=#[.int .i64 Mb,.int .i64 Pa,.int .i64 Na,.int .i64 (rd l1 Ma),.int .i64 Lb,.int .i64 0,.string (⟨#[]⟩:ByteArray)]) ?_ 5 _ rfl;(with_reducible repeat (first|refine Aa ?_ _|refine Ca ?_|refine za ?_ _));refine zb (cs:=#[.int .i64 Mb,.int .i64 Pa,.int .i64 Na,.int .i64 (rd l1 Ma),.int .i64 0,.int .i64 0,.string (⟨#[]⟩:ByteArray)]) ?_ 4 _ rfl;(with_reducible repeat (first|refine Aa ?_ _|refine Ca ?_|refine za ?_ _));refine zb (cs:=#[.int .i64 Mb,.int .i64 Pa,.int .i64 Na,.int .i64 0,.int .i64 0,.int .i64 0,.string (⟨#[]⟩:ByteArray)]) ?_ 3 _ rfl;(with_reducible repeat (first|refine Aa ?_ _|refine Ca ?_|refine za ?_ _));refine zb (cs:=#[.int .i64 Mb,.int .i64 Pa,.int .i64 0,.int .i64 0,.int .i64 0,.int .i64 0,.string (⟨#[]⟩:ByteArray)]) ?_ 2 _ rfl;(with_reducible repeat (first|refine Aa ?_ _|refine Ca ?_|refine za ?_ _));refine zb (cs:=#[.int .i64 Mb,.int .i64 0,.int .i64 0,.int .i64 0,.int .i64 0,.int .i64 0,.string (⟨#[]⟩:ByteArray)]) ?_ 1 _ rfl;(with_reducible repeat (first|refine Aa ?_ _|refine Ca ?_|refine za ?_ _));refine zb (cs:=#[.int .i64 0,.int .i64 0,.int .i64 0,.int .i64 0,.int .i64 0,.int .i64 0,.string (⟨#[]⟩:ByteArray)]) ?_ 0 _ rfl;(with_reducible repeat (first|refine Aa ?_ _|refine Ca ?_|refine za ?_ _));refine Db ?_ Xa.out _;(with_reducible repeat (first|refine Aa ?_ _|refine Ca ?_|refine za ?_ _));exact ya.out) Try.underlying70 rfl (by kernel_rfl)) rfl ?_;exact ⟨by first|rfl|(simp [Ja,Ia] <;> rfl)|(simp [*,Ja,Ia] <;> rfl),by repeat (first|(with_reducible first|exact HB.out|apply oa|apply ja|apply qa|refine ua ?_ Ua.out|refine ua ?_ Cb.out)|exact HB.out)⟩
         ·rw [if_neg wQ] at H;exact absurd H (by simp)
        ·rw [if_neg jZ] at H;exact absurd H (by simp)
       ·replace c25:=Bool.eq_false_iff.mpr c25;subst c25;have H1:(some (Mb,Pa,Na,Ma,Lb,Zc,jd))=some (r1,r2,r3,r4,r5,r6,r7):=by rw [if_neg (show ¬ (false=true) by decide)] at H;exact H
        clear H;have H:=H1;clear H1;simp only [Option.some.injEq,Prod.mk.injEq] at H;obtain ⟨rfl,rfl,rfl,rfl,rfl,rfl,rfl⟩:=H;have zU:=Za.out;have tU:=Xa.out;have yJ:wc.cell? ⟨Da,0,none⟩=some (.int .i64 Mb):=(ga ta.out 0).trans rfl;have xJ:wc.cell? ⟨Da,1,none⟩=some (.int .i64 Pa):=(ga ta.out 1).trans rfl;have wJ:wc.cell? ⟨Da,2,none⟩=some (.int .i64 Na):=(ga ta.out 2).trans rfl;have vJ:wc.cell? ⟨Da,3,none⟩=some (.int .i64 Ma):=(ga ta.out 3).trans rfl;have uJ:wc.cell? ⟨Da,4,none⟩=some (.int .i64 Lb):=(ga ta.out 4).trans rfl;have uS:wc.cell? ⟨Da,5,none⟩=some (.int .i64 Zc):=(ga ta.out 5).trans rfl;have tS:wc.cell? ⟨Da,6,none⟩=some (.string jd):=(ga ta.out 6).trans rfl;have pI:=aa ta.out 0;have oI:=aa ta.out 1;have nI:=aa ta.out 2;have mI:=aa ta.out 3;have lI:=aa ta.out 4;have nR:=aa ta.out 5;have mR:=aa ta.out 6;have tJ:wc.cell? ⟨Ga,0,none⟩=some (.int .i64 0):=(ga ya.out 0).trans rfl;have sJ:wc.cell? ⟨Ga,1,none⟩=some (.int .i64 0):=(ga ya.out 1).trans rfl;have rJ:wc.cell? ⟨Ga,2,none⟩=some (.int .i64 0):=(ga ya.out 2).trans rfl;have qJ:wc.cell? ⟨Ga,3,none⟩=some (.int .i64 0):=(ga ya.out 3).trans rfl;have pJ:wc.cell? ⟨Ga,4,none⟩=some (.int .i64 0):=(ga ya.out 4).trans rfl;have Sae:wc.cell? ⟨Ga,5,none⟩=some (.int .i64 0):=(ga ya.out 5).trans rfl;have Rae:wc.cell? ⟨Ga,6,none⟩=some (.string (⟨#[]⟩:ByteArray)):=(ga ya.out 6).trans rfl;have kI:=aa ya.out 0;have jI:=aa ya.out 1;have iI:=aa ya.out 2;have gI:=aa ya.out 3;have fI:=aa ya.out 4;have Pab:=aa ya.out 5;have Oab:=aa ya.out 6;go_wp2;refine bodyPost_ret (results_cell_row rfl _ _ Ga 70 #[.int .i64 Mb,.int .i64 Pa,.int .i64 Na,.int .i64 Ma,.int .i64 Lb,.int .i64 Zc,.string jd] (0,0) _ rfl (by (with_reducible repeat (first|refine Aa ?_ _|refine Ca ?_|refine za ?_ _));refine zb (cs:=#[.int .i64 Mb,.int .i64 Pa,.int .i64 Na,.int .i64 Ma,.int .i64 Lb,.int .i64 Zc,.string (⟨#[]⟩:ByteArray)]) ?_ 6 _ rfl;(with_reducible repeat (first|refine Aa ?_ _|refine Ca ?_|refine za ?_ _));refine zb (cs:=#[.int .i64 Mb,.int .i64 Pa,.int .i64 Na,.int .i64 Ma,.int .i64 Lb,.int .i64 0,.string (⟨#[]⟩:ByteArray)]) ?_ 5 _ rfl;(with_reducible repeat (first|refine Aa ?_ _|refine Ca ?_|refine za ?_ _));refine zb (cs:=#[.int .i64 Mb,.int .i64 Pa,.int .i64 Na,.int .i64 Ma,.int .i64 0,.int .i64 0,.string (⟨#[]⟩:ByteArray)]) ?_ 4 _ rfl;(with_reducible repeat (first|refine Aa ?_ _|refine Ca ?_|refine za ?_ _));refine zb (cs:=#[.int .i64 Mb,.int .i64 Pa,.int .i64 Na,.int .i64 0,.int .i64 0,.int .i64 0,.string (⟨#[]⟩:ByteArray)]) ?_ 3 _ rfl;(with_reducible repeat (first|refine Aa ?_ _|refine Ca ?_|refine za ?_ _));refine zb (cs:=#[.int .i64 Mb,.int .i64 Pa,.int .i64 0,.int .i64 0,.int .i64 0,.int .i64 0,.string (⟨#[]⟩:ByteArray)]) ?_ 2 _ rfl;(with_reducible repeat (first|refine Aa ?_ _|refine Ca ?_|refine za ?_ _));refine zb (cs:=#[.int .i64 Mb,.int .i64 0,.int .i64 0,.int .i64 0,.int .i64 0,.int .i64 0,.string (⟨#[]⟩:ByteArray)]) ?_ 1 _ rfl;(with_reducible repeat (first|refine Aa ?_ _|refine Ca ?_|refine za ?_ _));refine zb (cs:=#[.int .i64 0,.int .i64 0,.int .i64 0,.int .i64 0,.int .i64 0,.int .i64 0,.string (⟨#[]⟩:ByteArray)]) ?_ 0 _ rfl;(with_reducible repeat (first|refine Aa ?_ _|refine Ca ?_|refine za ?_ _));exact ya.out) Try.underlying70 rfl (by kernel_rfl)) rfl ?_;exact ⟨by first|rfl|(simp [Ja,Ia] <;> rfl)|(simp [*,Ja,Ia] <;> rfl),by repeat (first|(with_reducible first|exact HB.out|apply oa|apply ja|apply qa|refine ua ?_ Ua.out|refine ua ?_ Cb.out)|exact HB.out)⟩
def t7 (x:ee):Int × Int × Int × Int × Int × Int × ByteArray:=(x.f0,x.f1,x.f2,x.f3,x.f4,x.f5,x.f6)
theorem DL (of:List Int) (x:ee) (hx:cw (of.length:Int) x):Ev (fun k=>Pd.f k x.f0 x.f1 x.f2 x.f3 x.f4 x.f5 x.f6 of) (t7 (pg of x)):=by
 obtain ⟨h1,h2,h3,h4,_⟩:=hx;unfold Pd.f;unfold pg t7
 have j1:∀ b:Bool,b=decide (x.f0=3 ∨ x.f0=4)→¬ (x.f0=1 ∨ x.f0=6)→¬ x.f0=2→Ev (fun k=>Pd.j1 k of b x.f0 x.f1 x.f2 x.f3 x.f4 x.f5 x.f6) (t7 (pg of x)):=by
  intro b hb n16 n2;unfold pg t7;rw [if_neg n16,if_neg n2];refine Ev.step (fun k=>by rw [Pd.j1]) ?_
  by_cases h34:x.f0=3 ∨ x.f0=4
  ·obtain ⟨a1,a2⟩:=h2 (Or.inr h34);refine Ev.pos (by rw [hb];exact decide_eq_true h34) (Ev.pos a1 (Ev.pos a2 ?_))
   by_cases hA:x.f2 ≥ 0
   ·refine Ev.pos hA (Ev.pos (by omega) (Ev.pos (h3 h34) ?_))
    by_cases o4:x.f0=4
    ·obtain ⟨b1,b2⟩:=h4 o4;refine Ev.pos o4 (Ev.pos b1 (Ev.pos b2 ?_));rw [if_neg (by omega),if_pos o4];simp only [if_pos (show 0 ≤ x.f2 from hA)];exact Ev.now _
    ·refine Ev.neg o4 ?_;rw [if_pos (by omega)];simp only [if_pos (show 0 ≤ x.f2 from hA)];exact Ev.now _
   ·refine Ev.neg hA ?_
    by_cases o4:x.f0=4
    ·obtain ⟨b1,b2⟩:=h4 o4;refine Ev.pos o4 (Ev.pos b1 (Ev.pos b2 ?_));rw [if_neg (by omega),if_pos o4];simp only [if_neg (show ¬ 0 ≤ x.f2 from hA)];exact Ev.now _
    ·refine Ev.neg o4 ?_;rw [if_pos (by omega)];simp only [if_neg (show ¬ 0 ≤ x.f2 from hA)];exact Ev.now _
  ·refine Ev.neg (by rw [hb];simpa using h34) ?_;rw [if_neg (by omega),if_neg (by omega)];exact Ev.now _
 have j0:∀ b:Bool,b=decide (x.f0=1 ∨ x.f0=6)→Ev (fun k=>Pd.j0 k of x.f0 b x.f0 x.f1 x.f2 x.f3 x.f4 x.f5 x.f6) (t7 (pg of x)):=by
  intro b hb;refine Ev.step (fun k=>by rw [Pd.j0]) ?_
  by_cases iZ:x.f0=1 ∨ x.f0=6
  ·obtain ⟨a1,a2⟩:=h1 (by omega);refine Ev.pos (by rw [hb];exact decide_eq_true iZ) (Ev.pos a1 (Ev.pos a2 ?_));unfold pg t7;rw [if_pos iZ];exact Ev.now _
  refine Ev.neg (by rw [hb];simpa using iZ) ?_
  by_cases o2:x.f0=2
  ·obtain ⟨a1,a2⟩:=h1 (by omega);obtain ⟨b1,b2⟩:=h2 (by omega);refine Ev.pos o2 (Ev.pos a1 (Ev.pos a2 (Ev.pos b1 (Ev.pos b2 ?_))));unfold pg t7;rw [if_neg iZ,if_pos o2];exact Ev.now _
  refine Ev.neg o2 ?_
  by_cases o3:x.f0=3
  ·exact Ev.pos o3 (j1 _ (by rw [decide_eq_true (Or.inl o3)];simpa using o3) iZ o2)
  ·exact Ev.neg o3 (j1 _ (by rw [Bool.eq_iff_iff];simp [o3]) iZ o2)
 by_cases o1:x.f0=1
 ·exact Ev.pos o1 (j0 _ (by rw [decide_eq_true (Or.inl o1)];simpa using o1))
 ·exact Ev.neg o1 (j0 _ (by rw [Bool.eq_iff_iff];simp [o1]))
theorem GQ (of:List Int) (x:ee) (A1:Option Addr) (n c1:Nat) (w:World) (hn:n=of.length) (hx:cw (n:Int) x) (iE:Kd.C (Kd.int .i64) w A1 of.length of) (NF:n ≤ c1) :
  Calls Try.prog 70 #[.agg #[.int .i64 x.f0,.int .i64 x.f1,.int .i64 x.f2,.int .i64 x.f3,.int .i64 x.f4,.int .i64 x.f5,.string x.f6],.slice A1 n c1] w fun e w'=>e = .returned (.agg #[.int .i64 (pg of x).f0,.int .i64 (pg of x).f1,.int .i64 (pg of x).f2,.int .i64 (pg of x).f3,.int .i64 (pg of x).f4,.int .i64 (pg of x).f5,.string (pg of x).f6])∧Below w.heap.size w w':=by
 subst hn;obtain ⟨k,hk⟩:=Ev.rounds (DL of x hx);exact Pd.calls k _ _ _ _ _ _ _ A1 c1 of _ _ _ _ _ _ _ w iE NF hk
theorem JQ (of:List Int) (x:ee):(pg of x).f0=x.f0:=by
 unfold pg
 repeat' split
 all_goals rfl
theorem IQ (of:List Int) (x:ee):(pg of x).f1=x.f1:=by
 unfold pg
 repeat' split
 all_goals rfl
theorem Hy (x:ee) (w:World) (b:Bool) (hb:b=decide (¬ x.f0=4∧¬ x.f0=6)) :
  Calls Try.prog 100 #[.agg #[.int .i64 x.f0,.int .i64 x.f1,.int .i64 x.f2,.int .i64 x.f3,.int .i64 x.f4,.int .i64 x.f5,.string x.f6]] w fun e w'=>e = .returned (.bool b)∧Below w.heap.size w w':=by
 obtain ⟨k,hk⟩:=Ev.rounds (JX x);subst hb;exact gm.calls _ _ _ _ _ _ _ _ w hk
structure EK (w0 w:World) (P_:Nat→Prop) (q:Nat) (x:ee) (A:Option Addr) (n c:Nat) (of:List Int) (W:World):Prop where
 o:Kd.R (Kd.int .i64) 3 W w0.heap.size (fun k=>P_ k∧k < w.heap.size) (.slice A n c) of
 b:Below w0.heap.size w0 W
 k:Kept w W P_
 q:W.heap[q]? = some (.cells #[.int .i64 x.f0,.int .i64 x.f1,.int .i64 x.f2,.int .i64 x.f3,.int .i64 x.f4,.int .i64 x.f5,.string x.f6] 70 (0,0))
theorem EK.below {w0 w W W2:World} {P_:Nat→Prop} {q n c:Nat} {x:ee} {A:Option Addr} {of:List Int} (h:EK w0 w P_ q x A n c of W) (hb:Below W.heap.size W W2):EK w0 w P_ q x A n c of W2 :=
 ⟨Kd.Sc h.o hb,Ra h.b hb,h.k.below hb,Ta h.q hb⟩
theorem EK.cells {w0 w W:World} {P_:Nat→Prop} {q n c:Nat} {x:ee} {A:Option Addr} {of:List Int} (h:EK w0 w P_ q x A n c of W) :
  W.cell? ⟨q,0,none⟩=some (.int .i64 x.f0)∧W.cell? ⟨q,1,none⟩=some (.int .i64 x.f1)∧W.cell? ⟨q,2,none⟩=some (.int .i64 x.f2)∧W.cell? ⟨q,3,none⟩=some (.int .i64 x.f3)∧W.cell? ⟨q,4,none⟩=some (.int .i64 x.f4)∧W.cell? ⟨q,5,none⟩=some (.int .i64 x.f5)∧W.cell? ⟨q,6,none⟩=some (.string x.f6) :=
 ⟨(ga h.q 0).trans rfl,(ga h.q 1).trans rfl,(ga h.q 2).trans rfl,(ga h.q 3).trans rfl,(ga h.q 4).trans rfl,(ga h.q 5).trans rfl,(ga h.q 6).trans rfl⟩
theorem EK.at_ {w0 w W:World} {P_:Nat→Prop} {q n c:Nat} {x:ee} {A:Option Addr} {of:List Int} (h:EK w0 w P_ q x A n c of W) (s:Int) (h0:0 ≤ s) (h1:s < (n:Int)):∃ go,A=some ⟨go,0,none⟩∧W.cell? ⟨go,s.toNat,none⟩=some (.int .i64 (rd of s))∧W.frozen? ⟨go,s.toNat,none⟩=false:=by
 have ho:=h.o;obtain ⟨e1,_,hC⟩:=Kd.jc ho;obtain ⟨ad,e2,hx⟩:=Kd.Bh hC s h0 (by omega);subst e2;obtain ⟨go,rfl⟩:=Kd.qH ho;obtain ⟨cs,_,_,_,fM⟩:=Kd.ji ho 0 s h0 h1;have hf:=fM 0;simp only [show (Kd.int .i64).sz=1 from rfl,Nat.mul_one,Nat.add_zero] at hf;exact ⟨go,rfl,by simpa [add_plain] using hx,hf⟩
theorem EK.put {w0 w W:World} {P_:Nat→Prop} {q n c go:Nat} {x:ee} {of:List Int} (h:EK w0 w P_ q x (some ⟨go,0,none⟩) n c of W) (i:Nat) (v:Int):EK w0 w P_ q x (some ⟨go,0,none⟩) n c (of.set i v) (W.setCell ⟨go,i,none⟩ (.int .i64 v)):=by
 have ho:=h.o;have hne:=Kd.Fs ho h.q (by decide);have hP:=ho.1 go rfl;obtain ⟨e1,_,_⟩:=Kd.jc ho;rw [e1] at ho;have hp:=Kd.wO (enc:=Value.int .i64) ho (i:Int) v;simp only [Int.toNat_natCast] at hp;have BN:=Kd.Kt ho go rfl;refine ⟨by rw [e1];exact hp.1,h.b.grown hp.2 h.b.size (fun k_ e=>by injection e with e;omega),Kept.Mh hp.2 h.k (fun k_ e=>Or.inl (by injection e with e;exact e ▸ hP.1)),Rd h.q hp.2 (by simpa [Value.ownBlock] using hne)⟩
theorem ZM (P_:Nat→Prop) (A:Option Addr) (n c:Nat) (of:List Int) (x:ee) (w0 w:World) (hB:Below w0.heap.size w0 w) (ho:Kd.R (Kd.int .i64) 3 w w0.heap.size P_ (.slice A n c) of) (hx:¬ x.f0=4∧¬ x.f0=6→0 ≤ x.f1∧x.f1 < (n:Int)) (hl:n ≤ 1048576) :
  Calls Try.prog 71 #[.agg #[.int .i64 x.f0,.int .i64 x.f1,.int .i64 x.f2,.int .i64 x.f3,.int .i64 x.f4,.int .i64 x.f5,.string x.f6],.slice A n c] w fun e w'=>e = .returned (.tuple #[])∧Kd.R (Kd.int .i64) 3 w' w0.heap.size P_ (.slice A n c) (Ll of x)∧Below w0.heap.size w0 w'∧Kept w w' P_:=by
 obtain ⟨hn,hnc,hC⟩:=Kd.jc ho;have G1:=hC.2.1;obtain ⟨W1,Pf⟩:∃ W1,W1=w.alloc (.cells #[.int .i64 x.f0,.int .i64 x.f1,.int .i64 x.f2,.int .i64 x.f3,.int .i64 x.f4,.int .i64 x.f5,.string x.f6] 70 (0,0)):=⟨_,rfl⟩;have HW:=ia.mk Pf
 have HS:=ia.mk (show EK w0 w P_ w.heap.size x A n c of W1 from by
  have hb:=oa (Below.refl w.heap.size w) (.cells #[.int .i64 x.f0,.int .i64 x.f1,.int .i64 x.f2,.int .i64 x.f3,.int .i64 x.f4,.int .i64 x.f5,.string x.f6] 70 (0,0));subst Pf
  exact ⟨Kd.Sc (Kd.xd (Kd.Eg ho) (fun k_ hk=>⟨hk.1,hk.2.2.1⟩)) hb,Ra hB hb,(Kept.refl w P_).below hb,Ji _ _⟩)
 have WA:=ia.mk hn.symm;have HX:=ia.mk hx;clear hC ho hB hn hx Pf;obtain ⟨hx0,hx1,mj,Ni,kj,rm,qm⟩:=HS.out.cells;go_enter Try.func71,Try.ntmps71
 go_upto_region 1 with (fail)
 rw [← HW.out];clear HW
 by_cases hd:¬ x.f0=4∧¬ x.f0=6
 case neg =>
  have HM:=ia.mk (show Ll of x=of from by unfold Ll;rw [if_pos (Or.inl (by unfold Uc;by_cases h4:x.f0=4;(rw [if_pos h4];omega);(rw [if_neg h4,if_pos (by omega)];omega)))]);have HD:=ia.mk (show false=decide (¬ x.f0=4∧¬ x.f0=6) from (decide_eq_false hd).symm);clear hd;go_wp2_with (first|(go_at_call 100;(with_reducible refine (Hy x _ false HD.out).mono ?_);rintro e w8 ⟨rfl,sK⟩;have kA:=ia.mk (HS.out.below sK);clear sK HS hx0 hx1 mj Ni kj rm qm));refine bodyPost_ret (v:=.tuple #[]) ?_ rfl ?_
  ·kernel_rfl
  exact ⟨rfl,by rw [HM.out];exact Kd.xd kA.out.o (fun _ hk=>hk.1),kA.out.b,kA.out.k⟩
 obtain ⟨d0,d1⟩:=HX.out hd;have HM:=ia.mk (show Uc x=x.f1 from by unfold Uc;rw [if_neg hd.1,if_neg hd.2]);have HD:=ia.mk (show true=decide (¬ x.f0=4∧¬ x.f0=6) from (decide_eq_true hd).symm);clear hd
 by_cases hm:x.f0=1∧x.f2=x.f1
 case pos =>
  have b1:(x.f0 == 1)=true:=beq_iff_eq.2 hm.1;have b2:(x.f2 == x.f1)=true:=beq_iff_eq.2 hm.2;have HE:=ia.mk (show Ll of x=of from by unfold Ll;rw [if_pos (Or.inr ⟨hm.1,by rw [HM.out];exact hm.2⟩)]);clear hm;go_wp2_with (first|(go_at_call 100;(with_reducible refine (Hy x _ true HD.out).mono ?_);rintro e w8 ⟨rfl,sK⟩;have kA:=ia.mk (HS.out.below sK);clear sK HS hx0 hx1 mj Ni kj rm qm;obtain ⟨hx0,hx1,mj,Ni,kj,rm,qm⟩:=kA.out.cells));refine bodyPost_ret (v:=.tuple #[]) ?_ rfl ?_
  ·kernel_rfl
  exact ⟨rfl,by rw [HE.out];exact Kd.xd kA.out.o (fun _ hk=>hk.1),kA.out.b,kA.out.k⟩
 have HE:=ia.mk (show Ll of x=(GF x.f1 of).set x.f1.toNat (if x.f0=1 then x.f2 else x.f1) from by unfold Ll;rw [HM.out,if_neg (by omega)]);have q_:n ≤ 9223372036854775807:=by omega
 have hrun:∃ W2,ia (EK w0 w P_ w.heap.size x A n c of W2):=⟨_,HS⟩
 by_cases o1:x.f0=1
 all_goals
  first
   | (have b1:(x.f0 == 1)=true:=beq_iff_eq.2 o1;have b2:(x.f2 == x.f1)=false:=beq_eq_false_iff_ne.2 (fun e=>hm ⟨o1,e⟩);have HE2:=ia.mk (show Ll of x=(GF x.f1 of).set x.f1.toNat x.f2 from by rw [HE.out,if_pos o1]);clear HE hm o1;go_upto_region 2 with (first|(go_at_call 100;(with_reducible refine (Hy x _ true HD.out).mono ?_);rintro e w8 ⟨rfl,sK⟩;have kA:=ia.mk (HS.out.below sK);clear sK HS hx0 hx1 mj Ni kj rm qm;obtain ⟨hx0,hx1,mj,Ni,kj,rm,qm⟩:=kA.out.cells)))
   | (have b1:(x.f0 == 1)=false:=beq_eq_false_iff_ne.2 o1;have HE2:=ia.mk (show Ll of x=(GF x.f1 of).set x.f1.toNat x.f1 from by rw [HE.out,if_neg o1]);clear HE hm o1;go_upto_region 2 with (first|(go_at_call 100;(with_reducible refine (Hy x _ true HD.out).mono ?_);rintro e w8 ⟨rfl,sK⟩;have kA:=ia.mk (HS.out.below sK);clear sK HS hx0 hx1 mj Ni kj rm qm;obtain ⟨hx0,hx1,mj,Ni,kj,rm,qm⟩:=kA.out.cells)))
  clear hx0 hx1 mj Ni kj rm qm;go_wp2
  go_loopg [4] n (fun gg v4 wr=>∃ i:Nat,i ≤ n∧n - i ≤ gg∧v4 = .int .i64 i∧ia (EK w0 w P_ w.heap.size x A n c (bk x.f1 of i) wr))
  case atStart=>exact ⟨0,Nat.zero_le _,by omega,rfl,⟨by rw [show bk x.f1 of 0=of from rfl];exact kA.out⟩⟩
  case round =>
   clear kA;(try clear HS);obtain ⟨i,hi,hg,rfl,HS⟩:=hrel;obtain ⟨hx0,hx1,mj,Ni,kj,rm,qm⟩:=HS.out.cells
   by_cases hlt:i < n
   ·have Dx:decide ((i:Int) < (n:Int))=true:=decide_eq_true (by omega);have p1:0 ≤ (i:Int):=by omega
    have p2:(i:Int) < (n:Int):=by omega
    obtain ⟨go,rfl,hq,KF⟩:=HS.out.at_ (i:Int) p1 p2;rw [Ty x.f1 of i (by rw [WA.out];exact hlt)] at hq;simp only [Int.toNat_natCast] at hq KF
    by_cases he:rd of (i:Int)=x.f1
    ·have be:(rd of (i:Int) == x.f1)=true:=beq_iff_eq.2 he;have VV:=ia.mk (Po x.f1 of i (by rw [WA.out];exact hlt));have HE3:=ia.mk he;clear he;go_wp2
     go_quiet (fail)
     obtain ⟨wd,hwd⟩:∃ wd,wd=wr.drewN nq:=⟨_,rfl⟩;have jM:=ia.mk (show EK w0 w P_ w.heap.size x (some ⟨go,0,none⟩) n c (bk x.f1 of i) wd from by rw [hwd];exact HS.out.below (ja (Below.refl _ _) _));rw [← hwd];have HNW:=ia.mk (jM.out.put i (i:Int));clear hq KF hx0 hx1 mj Ni kj rm qm hwd HS;obtain ⟨go',e_,hq,KF⟩:=jM.out.at_ (i:Int) p1 p2;injection e_ with e_
     injection e_ with e_
     subst e_;simp only [Int.toNat_natCast] at hq KF;go_wp2
     go_roundg (n - (i + 1))
     case measure=>omega
     case rel=>exact ⟨i + 1,by omega,by omega,by go_num,⟨by have h:=VV.out;rw [if_pos HE3.out] at h;rw [← h];exact HNW.out⟩⟩
    ·have be:(rd of (i:Int) == x.f1)=false:=beq_eq_false_iff_ne.2 he;have VV:=ia.mk (Ws x.f1 of i (by rw [WA.out];exact hlt) he);clear he;go_wp2
     go_quiet (fail)
     have jM:=ia.mk (HS.out.below (ja (Below.refl wr.heap.size wr) nq));go_wp2
     go_roundg (n - (i + 1))
     case measure=>omega
     case rel=>exact ⟨i + 1,by omega,by omega,by go_num,⟨by rw [VV.out];exact jM.out⟩⟩
   ·have Dx:decide ((i:Int) < (n:Int))=false:=decide_eq_false (by omega);obtain rfl:n=i:=by omega
    have hs:=HS.out;rw [show bk x.f1 of n=GF x.f1 of from by unfold bk;rw [List.take_of_length_le (by rw [nj,WA.out];omega),List.drop_eq_nil_of_le (by rw [WA.out];omega),List.append_nil]] at hs;obtain ⟨go,rfl,hq,KF⟩:=hs.at_ x.f1 d0 d1;have HN:=ia.mk (hs.put x.f1.toNat x.f1);clear hs HS
    go_upto_region 8 with (fail)
    clear hq KF hx0 hx1 mj Ni kj rm qm;generalize World.setCell _ _ _=W9 at HN ⊢;obtain ⟨hx0,hx1,mj,Ni,kj,rm,qm⟩:=HN.out.cells;obtain ⟨go2,e_,hq,KF⟩:=HN.out.at_ x.f1 d0 d1;injection e_ with e_
    injection e_ with e_
    subst e_;have ZT:=ia.mk (HN.out.put x.f1.toNat x.f2);replace ZT:=ia.mk (List.set_set .. ▸ ZT.out);go_wp2;refine bodyPost_end (v:=.tuple #[]) ?_ rfl ?_
    ·kernel_rfl
    first
     | exact ⟨rfl,by rw [HE2.out];exact Kd.xd ZT.out.o (fun _ hk=>hk.1),ZT.out.b,ZT.out.k⟩
     | exact ⟨rfl,by rw [HE2.out];exact Kd.xd HN.out.o (fun _ hk=>hk.1),HN.out.b,HN.out.k⟩
def BA (s:Int) (b:Te):Bool:=GL s b && b.f0.all (fun x=>decide (¬ x.f0=4∧¬ x.f0=6→0 ≤ x.f1))
theorem AA {s:Int} {b:Te}:BA s b=true ↔ ((b.f0.length ≤ 1048576∧(∀ x ∈ b.f0,cw s x))∧(b.f1=0 ∨ (0 ≤ b.f2∧b.f2 < s)))∧∀ x ∈ b.f0,¬ x.f0=4∧¬ x.f0=6→0 ≤ x.f1:=by
 unfold BA GL;simp only [Bool.and_eq_true,decide_eq_true_eq,List.all_eq_true]
def qj.f (k:Nat) (Sa:List Int) (Pa:Int) (Na:Int) (Ma:Int) (La:List (Te)):Option (List Int × Int × Int × Int × List (Te)) :=
 (Td.f k Sa Pa Na Ma La).bind fun G=>(Va.f k Sa Pa Na Ma La).bind fun t =>
  if t=true then
   if 0 ≤ Ma∧Ma ≤ 1000∧La.length=G.2.2.2.2.length∧(G.2.2.2.2.all fun b=>BA Ma b)=true then some (G.1,G.2.1,G.2.2.1,G.2.2.2.1,G.2.2.2.2.map (Qr Ma.toNat)) else none
  else some G
theorem qj.calls (k:Nat) (xb:Option Addr) (qb:Nat) (Sa:List Int) (Pa:Int) (Na:Int) (Ma:Int) (Qb:Option Addr) (Fb:Nat) (La:List (Te)) (r1:List Int) (r2:Int) (r3:Int) (r4:Int) (r5:List (Te)) (w:World) (zf:Kd.C (Kd.int .i64) w xb Sa.length Sa) (uf:Sa.length ≤ qb) (Ig:Kd.C Tk w Qb La.length La) (Cg:La.length ≤ Fb) (h:qj.f k Sa Pa Na Ma La=some (r1,r2,r3,r4,r5)) :
  Calls Try.prog 30 #[.agg #[.slice xb Sa.length qb,.int .i64 Pa,.int .i64 Na,.int .i64 Ma,.slice Qb La.length Fb]] w fun e w'=>∃ Yw LH:Value,e = .returned (.agg #[Yw,.int .i64 r2,.int .i64 r3,.int .i64 r4,LH])∧Kd.R (Kd.int .i64) 3 w' w.heap.size (fun _=>True) Yw r1∧Kd.S Tk 68 w' w.heap.size (fun _=>True) LH r5∧Below w.heap.size w w':=by
 unfold qj.f at h;obtain ⟨⟨g1,g2,g3,g4,g5⟩,tG,h⟩:=Option.bind_eq_some_iff.mp h;obtain ⟨t,tT,h⟩:=Option.bind_eq_some_iff.mp h;have TG:=ia.mk tG;have J8:=ia.mk tT;obtain ⟨W1,Pf⟩:∃ W1,W1=(w.alloc (.cells #[.slice xb Sa.length qb,.int .i64 Pa,.int .i64 Na,.int .i64 Ma,.slice Qb La.length Fb] 30 (0,0))).alloc (.cells #[.slice none 0 0,.int .i64 0,.int .i64 0,.int .i64 0,.slice none 0 0] 30 (0,0)):=⟨_,rfl⟩;have HW:=ia.mk Pf;have VN:Below w.heap.size w W1:=by rw [Pf];exact oa (oa (Below.refl _ _) _) _
 have HX:=ia.mk (show W1.heap[w.heap.size]? = some (.cells #[.slice xb Sa.length qb,.int .i64 Pa,.int .i64 Na,.int .i64 Ma,.slice Qb La.length Fb] 30 (0,0)) by rw [Pf];exact za (Ji _ _) _);have HZ:=ia.mk (show W1.heap[w.heap.size + 1]? = some (.cells #[.slice none 0 0,.int .i64 0,.int .i64 0,.int .i64 0,.slice none 0 0] 30 (0,0)) by rw [Pf];have:=Ji (w.alloc (.cells #[.slice xb Sa.length qb,.int .i64 Pa,.int .i64 Na,.int .i64 Ma,.slice Qb La.length Fb] 30 (0,0))) (.cells #[.slice none 0 0,.int .i64 0,.int .i64 0,.int .i64 0,.slice none 0 0] 30 (0,0));simpa using this);have HB:=ia.mk VN;have Zg:=ia.mk zf;have OK:=ia.mk Ig;have SK:=ia.mk uf;have RK:=ia.mk Cg;have HH:=ia.mk h;have hx0:=(ga HX.out 0).trans rfl;have hx1:=(ga HX.out 1).trans rfl;have mj:=(ga HX.out 2).trans rfl;have Ni:=(ga HX.out 3).trans rfl;have kj:=(ga HX.out 4).trans rfl;clear Pf VN zf Ig uf Cg h tG tT;go_enter Try.func30,Try.ntmps30
 go_upto_region 1 with (fail)
 rw [← HW.out];clear HW
 go_upto_region 2 with (first|(go_at_call 65;(with_reducible refine (Td.calls k xb qb Sa Pa Na Ma Qb Fb La g1 g2 g3 g4 g5 W1 (Kd.Eb Zg.out HB.out) SK.out (Kd.Eb OK.out HB.out) RK.out TG.out).mono ?_);rintro e w2 ⟨v0,v4,rfl,Hl,Ln,hb⟩;obtain ⟨B0,d0,rfl⟩:=Kd.lf Hl;obtain ⟨B4,d4,rfl⟩:=Kd.Wh Ln;have XL:=ia.mk (Kd.Eh Hl HB.out.size);have jM:=ia.mk (Kd.Ur Ln HB.out.size);have Vp:=ia.mk (Ra HB.out hb);have GY:=ia.mk (Ta HX.out hb);have FY:=ia.mk (Ta HZ.out hb);clear Hl Ln hb HB HX HZ hx0 hx1 mj Ni kj))
 have eA:=oa (Below.refl w2.heap.size w2) (.cells #[.slice B0 g1.length d0,.int .i64 g2,.int .i64 g3,.int .i64 g4,.slice B4 g5.length d4] 30 (0,0));have nN:=Ji w2 (.cells #[.slice B0 g1.length d0,.int .i64 g2,.int .i64 g3,.int .i64 g4,.slice B4 g5.length d4] 30 (0,0));generalize w2.alloc (.cells #[.slice B0 g1.length d0,.int .i64 g2,.int .i64 g3,.int .i64 g4,.slice B4 g5.length d4] 30 (0,0))=w3 at eA nN ⊢;have YT:=ia.mk (Kd.Sc XL.out eA);have UT:=ia.mk (Kd.Vd jM.out eA);have Py:=ia.mk (Ra Vp.out eA);have CF:=ia.mk (Ta GY.out eA);have RT:=ia.mk (Ta FY.out eA);have RP:=ia.mk nN;have HQ3:=ia.mk (show w.heap.size + 1 < w2.heap.size from Wb FY.out);have hx0:=(ga CF.out 0).trans rfl;have hx1:=(ga CF.out 1).trans rfl;have mj:=(ga CF.out 2).trans rfl;have Ni:=(ga CF.out 3).trans rfl;have kj:=(ga CF.out 4).trans rfl;clear eA nN XL jM Vp GY FY;generalize w2.heap.size=b3 at RP HQ3 ⊢;cases t with
 | false =>
  have h:=HH.out;rw [if_neg (by simp)] at h;cases h
  go_upto_region 3 with (first|(go_at_call 53;(with_reducible refine (Va.calls k xb qb Sa Pa Na Ma Qb Fb La false w3 (Kd.Eb Zg.out Py.out) SK.out (Kd.Eb OK.out Py.out) RK.out J8.out).mono ?_);rintro e w4 ⟨rfl,hb⟩;have XT:=ia.mk (Kd.Sc YT.out hb);have VP:=ia.mk (Kd.Vd UT.out hb);have nM:=ia.mk (Ra Py.out hb);have jw:=ia.mk (Ta RT.out hb);have kE:=ia.mk (Ta RP.out hb);clear hb YT UT Py CF RT RP hx0 hx1 mj Ni kj))
  have hv0:=(ga kE.out 0).trans rfl;have hv1:=(ga kE.out 1).trans rfl;have hv2:=(ga kE.out 2).trans rfl;have nN:=(ga kE.out 3).trans rfl;have sQ:=(ga kE.out 4).trans rfl;have hz0:=(ga jw.out 0).trans rfl;have GW:=aa jw.out 0;have hz1:=(ga jw.out 1).trans rfl;have FW:=aa jw.out 1;have hz2:=(ga jw.out 2).trans rfl;have EW:=aa jw.out 2;have hz3:=(ga jw.out 3).trans rfl;have DW:=aa jw.out 3;have hz4:=(ga jw.out 4).trans rfl;have CW:=aa jw.out 4;go_wp2;have aE:=Pr (z:=w.heap.size + 1) (g2:=r2) (g3:=r3) (g4:=r4) jw.out XT.out VP.out nM.out (Nat.le_succ _);refine bodyPost_ret (results_cell_row rfl _ _ (w.heap.size + 1) 30 #[.slice B0 r1.length d0,.int .i64 r2,.int .i64 r3,.int .i64 r4,.slice B4 r5.length d4] (0,0) _ rfl aE.1 Try.underlying30 rfl (by kernel_rfl)) rfl ?_;exact ⟨_,_,rfl,aE.2.1,aE.2.2.1,aE.2.2.2⟩
 | true =>
  have h:=HH.out;rw [if_pos rfl] at h
  by_cases hok:0 ≤ Ma∧Ma ≤ 1000∧La.length=g5.length∧(g5.all fun b=>BA Ma b)=true
  case neg=>rw [if_neg hok] at h;cases h
  rw [if_pos hok] at h;cases h;obtain ⟨s0,s1,hll,hok⟩:=hok;obtain ⟨ns,rfl⟩:=Int.eq_ofNat_of_zero_le s0;simp only [Int.toNat_natCast] at *;have HNS:=ia.mk (show ns ≤ 1000 by omega);have HLL:=ia.mk hll;have QY:=ia.mk (List.all_eq_true.1 hok);clear hok s0 s1 hll
  go_upto_region 4 with (first|(go_at_call 53;(with_reducible refine (Va.calls k xb qb Sa Pa Na (ns:Int) Qb Fb La true w3 (Kd.Eb Zg.out Py.out) SK.out (Kd.Eb OK.out Py.out) RK.out J8.out).mono ?_);rintro e w4 ⟨rfl,hb⟩;have g9:=ia.mk (Ta CF.out hb);have XT:=ia.mk (Kd.Sc YT.out hb);have VP:=ia.mk (Kd.Vd UT.out hb);have nM:=ia.mk (Ra Py.out hb);have jw:=ia.mk (Ta RT.out hb);have kE:=ia.mk (Ta RP.out hb);clear hb YT UT Py CF RT RP hx0 hx1 mj Ni kj))
  have hm5:=(Kd.Fe VP.out).2.2.2.1;go_wp2
  go_loopg [4] g5.length (fun gg v4 wr=>∃ j:Nat,j ≤ g5.length∧g5.length - j ≤ gg∧v4 = .int .i64 j∧ia (Kd.S Tk 68 wr w.heap.size (fun _=>True) (.slice B4 g5.length d4) ((g5.map (Qr ns)).take j ++ g5.drop j))∧ia (Kd.R (Kd.int .i64) 3 wr w.heap.size (fun _=>True) (.slice B0 r1.length d0) r1)∧ia (wr.heap[b3]? = some (.cells #[.slice B0 r1.length d0,.int .i64 r2,.int .i64 r3,.int .i64 r4,.slice B4 g5.length d4] 30 (0,0)))∧ia (wr.heap[w.heap.size + 1]? = some (.cells #[.slice none 0 0,.int .i64 0,.int .i64 0,.int .i64 0,.slice none 0 0] 30 (0,0)))∧ia (Below w.heap.size w wr)∧ia (wr.heap[w.heap.size]? = some (.cells #[.slice xb Sa.length qb,.int .i64 Pa,.int .i64 Na,.int .i64 (ns:Int),.slice Qb La.length Fb] 30 (0,0))))
  case atStart=>exact ⟨0,Nat.zero_le _,by omega,rfl,⟨by simpa using VP.out⟩,XT,kE,jw,nM,g9⟩
  case round =>
   clear VP XT kE jw nM g9;(try clear HS);(try clear HO);(try clear HV);(try clear HZ);(try clear HB);(try clear HX);obtain ⟨j,hj,hg,rfl,HS,HO,HV,HZ,HB,HX⟩:=hrel;have hxl:=(ga HX.out 4).trans rfl
   by_cases hlt:j < g5.length
   ·have p1:0 ≤ (j:Int):=by omega
    have p2:(j:Int) < (g5.length:Int):=by omega
    have Dx:decide ((j:Int) < (La.length:Int))=true:=by rw [HLL.out];exact decide_eq_true p2
    have jah:j < La.length:=by rw [HLL.out];exact hlt
    have Pp:g5.drop j=g5[j] :: g5.drop (j + 1):=List.drop_eq_getElem_cons hlt;have hlen:((g5.map (Qr ns)).take j ++ g5.drop j).length=g5.length:=by rw [List.length_append,List.length_take,List.length_map,List.length_drop];omega
    obtain ⟨g,cap,e1,hbg,fR,cells,di⟩:=Kd.LD HS.out (by rw [hlen];omega);obtain rfl:B4=some ⟨g,0,none⟩:=by injection e1
    clear e1;obtain ⟨Qk,cs,hcs,hM,Ht,fM,uA,hH⟩:=Kd.Iz (Kd.Vr HS.out) cA (j:Int) (by omega) (by omega)
    have hx:((g5.map (Qr ns)).take j ++ g5.drop j).getD (Int.toNat (j:Int)) cA=g5[j]:=by
     rw [Pp,Int.toNat_natCast,List.getD_eq_getElem?_getD,List.getElem?_append_right (by rw [List.length_take];omega),List.length_take,List.length_map,Nat.min_eq_left (by omega),Nat.sub_self];simp [List.getElem?_eq_getElem hlt]
    rw [hx] at hM;obtain ⟨v0,rfl,hR⟩:=Co hM;obtain ⟨A5,c5,rfl⟩:=Kd.lf hR;have y0:=Ht 0 _ rfl;have y1:=Ht 1 _ rfl;have y2:=Ht 2 _ rfl;have y3:=Ht 3 _ rfl;have y4:=Ht 4 _ rfl;simp only [Int.toNat_natCast,show Tk.sz=5 from rfl,Nat.add_zero] at y0 y1 y2 y3 y4;have UY:=ia.mk di;have AQ:=ia.mk (And.intro ((ga di (j * 5)).symm.trans y0) (And.intro ((ga di (j * 5 + 1)).symm.trans y1) (And.intro ((ga di (j * 5 + 2)).symm.trans y2) (And.intro ((ga di (j * 5 + 3)).symm.trans y3) ((ga di (j * 5 + 4)).symm.trans y4)))));have rZ:=ia.mk hH;have nZ:=ia.mk hR;have QK:=ia.mk uA;have hok:=QY.out g5[j] (List.getElem_mem hlt);have WV:=ia.mk (AA.1 hok);have sZ:=ia.mk Pp;have HLN:=ia.mk (show ((g5.map (Qr ns)).take j).length=j by rw [List.length_take,List.length_map];omega);have sQ:=(ga HV.out 4).trans rfl;have HGB:=ia.mk (And.intro hbg fR);have oZ:=ia.mk (show ¬ (Qk g ∨ g=wr.heap.size) from fun h=>h.elim (fun h=>(QK.out _ h).2 rfl) (fun h=>by omega));clear hH hR Ht fM hM hx uA Pp hcs di hok hbg fR
    go_upto_region 8 with (fail)
    have Xp:=oa (Below.refl wr.heap.size wr) (.cells #[.slice A5 g5[j].f0.length c5,.int .i64 g5[j].f1,.int .i64 g5[j].f2,.int .i64 g5[j].f3,.int .i64 g5[j].f4] 68 (0,0));have q_:=Ji wr (.cells #[.slice A5 g5[j].f0.length c5,.int .i64 g5[j].f1,.int .i64 g5[j].f2,.int .i64 g5[j].f3,.int .i64 g5[j].f4] 68 (0,0));have hz1:(wr.alloc (.cells #[.slice A5 g5[j].f0.length c5,.int .i64 g5[j].f1,.int .i64 g5[j].f2,.int .i64 g5[j].f3,.int .i64 g5[j].f4] 68 (0,0))).heap.size=wr.heap.size + 1:=by simp
    generalize wr.alloc (.cells #[.slice A5 g5[j].f0.length c5,.int .i64 g5[j].f1,.int .i64 g5[j].f2,.int .i64 g5[j].f3,.int .i64 g5[j].f4] 68 (0,0))=W1 at Xp q_ hz1 ⊢;have z9:=ia.mk (Kd.QT rZ.out Xp);have My:=ia.mk (Kd.xd (Kd.Eg (Kd.Sc nZ.out Xp)) (fun k_ hk=>(⟨hk.1,hk.2.2.1⟩:Qk k_∧k_ < W1.heap.size)))
    have HO1:=ia.mk (Kd.Sc (Kd.xd (Kd.Eg HO.out) (fun k_ hk=>(show ¬ (Qk k_ ∨ k_=wr.heap.size) from fun h=>h.elim (fun h=>by
     obtain ⟨_,_,_,q,hq,cells,hc⟩:=hk;rw [List.mem_singleton.1 (show q ∈ [3] from hq)] at hc
     exact Rk hc (by decide) (QK.out _ h).1.2.2.2) (fun h=>by have:=hk.2.2.1;omega)))) Xp)
    have HNV:=ia.mk (show ¬ (Qk b3 ∨ b3=wr.heap.size) from fun h=>h.elim (fun h=>Rk HV.out (by decide) (QK.out _ h).1.2.2.2) (fun h=>by have:=Wb HV.out;omega));have HNZ:=ia.mk (show ¬ (Qk (w.heap.size + 1) ∨ w.heap.size + 1=wr.heap.size) from fun h=>h.elim (fun h=>Rk HZ.out (by decide) (QK.out _ h).1.2.2.2) (fun h=>by have:=Wb HZ.out;omega));have HNA:=ia.mk (show ¬ (Qk w.heap.size ∨ w.heap.size=wr.heap.size) from fun h=>h.elim (fun h=>Rk HX.out (by decide) (QK.out _ h).1.2.2.2) (fun h=>by have:=Wb HX.out;omega));have HV1:=ia.mk (Ta HV.out Xp);have HZ1:=ia.mk (Ta HZ.out Xp);have HX1:=ia.mk (Ta HX.out Xp);have mM:=ia.mk (Ta UY.out Xp);have oM:=ia.mk (Ra HB.out Xp);have HBX:=ia.mk q_;have VV:=ia.mk (show ¬ Qk wr.heap.size from fun h=>by have:=(QK.out _ h).1.2.2.1;omega);have HGX:=ia.mk (show w.heap.size ≤ wr.heap.size∧wr.heap.size < W1.heap.size from ⟨HB.out.size,by omega⟩);clear y0 y1 y2 y3 y4 sQ hxl Xp q_ hz1 rZ nZ HO HV HZ HX UY HB HS;generalize wr.heap.size=gx at HBX VV HGX HO1 HNV HNZ HNA oZ z9 ⊢;go_wp2_with (first|((with_reducible refine Bb (N:=27) rfl ?_);refine Kd.Ts (Kd.int .i64) _ 3 ?hg (N:=27) ?hd (xs:=([]:List Int)) (inner:=[]) (ok:=fun _=>True) (qk:=fun _=>True) ?hr ?hp (fun _ hk=>hk) trivial (Below.refl _ _) (Nat.le_refl _) (by simp) ?_;(case hd=>rfl);(case hg=>rfl);(case hr=>first|(go_simp;done)|(go_simp;rfl));(case hp=>exact (Me.none _ _));intro v6 W2 qU hb6 pz Bj;clear pz Bj;have zQ:=ia.mk qU;have XA:=ia.mk hb6;clear qU hb6))
    go_loopg [6,7] ns (fun gg v6 v7 wq=>∃ i:Nat,i ≤ ns∧ns - i ≤ gg∧v7 = .int .i64 i∧ia (Kd.R (Kd.int .i64) 3 wq W1.heap.size (fun _=>True) v6 ((Jj ns).take i))∧ia (Below W1.heap.size W1 wq))
    case atStart=>exact ⟨0,Nat.zero_le _,by omega,rfl,zQ,XA⟩
    case round =>
     clear zQ XA;(try clear zQ);(try clear XA);obtain ⟨i,hi,hgi,rfl,zQ,XA⟩:=hrel;have Ni:=(ga (Ta HX1.out XA.out) 3).trans rfl
     by_cases uQ:i < ns
     ·have yL:decide ((i:Int) < (ns:Int))=true:=decide_eq_true (by omega);have HLI:=ia.mk uQ;have hm6:ns ≤ 1000:=HNS.out;go_wp2_with (first|((with_reducible refine Gi (b:=.append) (xs:=#[.tmp 34,.tmp 36]) rfl ?_);at_builtin;refine Kd.zF (Kd.int .i64) (w0:=W1) W1.heap.size rfl (.tmp 34) (.tmp 36) 22 3 (.int .i64 0) 8 rfl Try.underlying22 info3 rfl (by decide) (by omega) u6 ((Jj ns).take i) (i:Int) [.int .i64 (i:Int)] (fun _=>True) (fun _=>False) rfl rfl ?aP (fun _ hk=>hk.elim) ?aF ?aO ?aB ?aS ?aL ?_;(case aP=>exact rfl);(case aB=>exact (by repeat (first|(with_reducible first|exact XA.out|apply oa|apply ja|apply qa)|exact XA.out)));(case aF=>exact (fun _ _=>trivial));(case aO=>exact (by (with_reducible repeat (first|apply Kd.ud|apply Kd.td|apply Kd.Ud));exact zQ.out));(case aS=>exact (Qa (by repeat (first|(with_reducible first|exact XA.out|apply oa|apply ja|apply qa)|exact XA.out))));(case aL=>rw [List.length_take];omega);intro v9 W6 ho hb hg hat;have HO7:=ia.mk ho;have tZ:=ia.mk hb;clear ho hb hg hat))
      go_roundg (ns - (i + 1))
      case measure=>omega
      case rel=>exact ⟨i + 1,by omega,by omega,by go_num,⟨by rw [List.take_succ_eq_append_getElem (by rw [Aj];exact HLI.out)];have h:=HO7.out;simpa [Jj] using h⟩,tZ⟩
     ·have yL:decide ((i:Int) < (ns:Int))=false:=decide_eq_false (by omega);obtain rfl:ns=i:=by omega
      have ho:=zQ.out;rw [List.take_of_length_le (by rw [Aj];omega)] at ho;obtain ⟨Ao,co,e6⟩:=Kd.lf ho;rw [Aj] at e6;subst e6;have HQ:=ia.mk (show pn w W1 Qk A5 g5[j].f0.length c5 Ao ns co (Vk (Jj ns) g5[j].f0 0) ((ek (Jj ns) g5[j].f0).take 0 ++ g5[j].f0.drop 0) wr from ⟨by have:=HGX.out;omega,ho,by simpa using Kd.Sc My.out XA.out,Ra oM.out XA.out,(Kept.refl W1 Qk).below XA.out⟩);have lM:=ia.mk (And.intro HO1.out (And.intro HV1.out (And.intro HZ1.out (And.intro HX1.out (And.intro mM.out HBX.out)))));have HL:=ia.mk (Ii (Jj ns) g5[j].f0);clear ho zQ XA HO1 HV1 HZ1 HX1 mM HBX;go_wp2;clear Ni yL uQ hgi hi
      go_loopg [8] g5[j].f0.length (fun gg v8 wq=>∃ m:Nat,m ≤ g5[j].f0.length∧g5[j].f0.length - m ≤ gg∧v8 = .int .i64 m∧ia (pn w W1 Qk A5 g5[j].f0.length c5 Ao ns co (Vk (Jj ns) g5[j].f0 m) ((ek (Jj ns) g5[j].f0).take m ++ g5[j].f0.drop m) wq))
      case atStart=>exact ⟨0,Nat.zero_le _,by omega,rfl,HQ⟩
      case round =>
       clear HQ;(try clear HQ);obtain ⟨m,hm,hgm,rfl,HQ⟩:=hrel;have cU:=ia.mk (gf lM.out.2.2.2.2.2 HQ.out.k VV.out);have hb0:=(ga cU.out 0).trans rfl
       by_cases hml:m < g5[j].f0.length
       ·have q1:0 ≤ (m:Int):=by omega
        have n7:g5[j].f0.length ≤ 1048576:=WV.out.1.1.1;have q2:(m:Int) < (g5[j].f0.length:Int):=by omega
        have gah:decide ((m:Int) < (g5[j].f0.length:Int))=true:=decide_eq_true q2;have hst:=HQ.out;rw [ox (Jj ns) g5[j].f0 m hml] at hst;obtain ⟨gb,e1,_,_⟩:=hst.cells m hml;subst e1;have HS:=ia.mk hst;have zA:=ia.mk (And.intro (WV.out.1.1.2 (Fa g5[j].f0 (m:Int)) (by simp only [Fa,Int.toNat_natCast,List.getD_eq_getElem?_getD,List.getElem?_eq_getElem hml,Option.getD_some];exact List.getElem_mem hml)) (WV.out.2 (Fa g5[j].f0 (m:Int)) (by simp only [Fa,Int.toNat_natCast,List.getD_eq_getElem?_getD,List.getElem?_eq_getElem hml,Option.getD_some];exact List.getElem_mem hml)));have St:=ia.mk (fun z z'=>PA (Jj ns) g5[j].f0 m z z' hml);have HE:=ia.mk (QA (Jj ns) g5[j].f0 m hml);have kM:=ia.mk (OA (Jj ns) g5[j].f0 m hml);have WA:=ia.mk ((jx (Jj ns) g5[j].f0 m).trans (Aj ns));have Mo:=ia.mk (fun z=>Bz (Jj ns) g5[j].f0 m z hml);clear hst HQ;generalize Fa g5[j].f0 (m:Int)=x at HS HE kM zA;generalize Vk (Jj ns) g5[j].f0 m=of at HS HE kM WA;have HBE:=ia.mk hb0;obtain ⟨hx0,hx1,mj,Ni,kj,rm,qm⟩:=HS.out.vm m hml x (Mo.out x)
        go_upto_region 16 with (fail)
        have SP:=ia.mk (HS.out.below (gn (Below.refl _ _)));have HBd:=ia.mk (Ca cU.out);clear hb0 hx0 hx1 mj Ni kj rm qm;refine Nl (n:=12) (S:=fun w'=>w'.cell? ⟨gx,0,none⟩=some (.slice (some ⟨gb,0,none⟩) g5[j].f0.length c5)∧w'.cell? ⟨gb,m * 7,none⟩=some (.int .i64 x.f0)∧w'.cell? ⟨gb,m * 7 + 1,none⟩=some (.int .i64 x.f1)∧w'.cell? ⟨gb,m * 7 + 2,none⟩=some (.int .i64 x.f2)∧w'.cell? ⟨gb,m * 7 + 3,none⟩=some (.int .i64 x.f3)∧w'.cell? ⟨gb,m * 7 + 4,none⟩=some (.int .i64 x.f4)∧w'.cell? ⟨gb,m * 7 + 5,none⟩=some (.int .i64 x.f5)∧w'.cell? ⟨gb,m * 7 + 6,none⟩=some (.string x.f6)) (ds:=[11]) #[false,false,false,false,false,false,false,false,false,false,false,false] (by kernel_rfl) rfl rfl ⟨(ga HBd.out 0).trans rfl,(SP.out.vm m hml x (Mo.out x)).1,(SP.out.vm m hml x (Mo.out x)).2.1,(SP.out.vm m hml x (Mo.out x)).2.2.1,(SP.out.vm m hml x (Mo.out x)).2.2.2.1,(SP.out.vm m hml x (Mo.out x)).2.2.2.2.1,(SP.out.vm m hml x (Mo.out x)).2.2.2.2.2.1,(SP.out.vm m hml x (Mo.out x)).2.2.2.2.2.2⟩ (fun hHeld=>?_);generalize wr.drew=wd at SP HBd hHeld ⊢;refine Ad (i:=0) (N:=some 45) (v:=?_) (a':=?_) #[true,false,false,false,false,false,false,false,false,false,false,false] rfl rfl (by kernel_rfl) (fun _ _ _ h=>h) (Or.inl ⟨by rfl,?_⟩) ?_ ?_;rotate_left
        ·intro w';go_simp;with_reducible rfl
        rotate_left
        ·simp only [Act.put,List.setIfInBounds_toArray,List.set_cons_zero,List.set_cons_succ,dc,ec]
         rfl
        refine Ad (i:=2) (N:=some 47) (v:=?_) (a':=?_) #[true,false,true,false,false,false,false,false,false,false,false,false] rfl rfl (by kernel_rfl) (fun _ _ _ h=>h) (Or.inl ⟨by rfl,?_⟩) ?_ ?_;rotate_left
        ·intro w';go_simp;with_reducible rfl
        rotate_left
        ·simp only [Act.put,List.setIfInBounds_toArray,List.set_cons_zero,List.set_cons_succ,dc,ec]
         rfl
        refine Ad (i:=3) (N:=some 48) (v:=?_) (a':=?_) #[true,false,true,true,false,false,false,false,false,false,false,false] rfl rfl (by kernel_rfl) (fun _ _ _ h=>h) (Or.inl ⟨by rfl,?_⟩) ?_ ?_;rotate_left
        ·intro w';go_simp;with_reducible rfl
        rotate_left
        ·simp only [Act.put,List.setIfInBounds_toArray,List.set_cons_zero,List.set_cons_succ,dc,ec]
         rfl
        refine Ad (i:=5) (N:=some 50) (v:=?_) (a':=?_) #[true,false,true,true,false,true,false,false,false,false,false,false] rfl rfl (by kernel_rfl) (fun _ _ _ h=>h) (Or.inl ⟨by rfl,?_⟩) ?_ ?_;rotate_left
        ·intro w';go_simp;with_reducible rfl
        rotate_left
        ·simp only [Act.put,List.setIfInBounds_toArray,List.set_cons_zero,List.set_cons_succ,dc,ec]
         rfl
        refine Ad (i:=8) (N:=some 53) (v:=?_) (a':=?_) #[true,false,true,true,false,true,false,false,true,false,false,false] rfl rfl (by kernel_rfl) (fun _ _ _ h=>h) (Or.inl ⟨by rfl,?_⟩) ?_ ?_;rotate_left
        ·intro w';go_simp;with_reducible rfl
        rotate_left
        ·simp only [Act.put,List.setIfInBounds_toArray,List.set_cons_zero,List.set_cons_succ,dc,ec]
         rfl
        refine Lh (i:=1) (N:=some 46) (v:=?_) (a':=?_) #[true,true,true,true,false,true,false,false,true,false,false,false] rfl rfl (by kernel_rfl) (fun _ _ _ h=>h) (Or.inl ⟨by rfl,?_⟩) hHeld ?_ ?_;rotate_left
        ·rintro w' ⟨s0,s1,s2,s3,s4,s5,s6,s7⟩;go_simp;with_reducible rfl
        rotate_left
        ·simp only [Act.put,List.setIfInBounds_toArray,List.set_cons_zero,List.set_cons_succ,dc,ec]
         rfl
        refine Lh (i:=4) (N:=some 49) (v:=?_) (a':=?_) #[true,true,true,true,true,true,false,false,true,false,false,false] rfl rfl (by kernel_rfl) (fun _ _ _ h=>h) (Or.inl ⟨by rfl,?_⟩) hHeld ?_ ?_;rotate_left
        ·rintro w' ⟨s0,s1,s2,s3,s4,s5,s6,s7⟩;go_simp;with_reducible rfl
        rotate_left
        ·simp only [Act.put,List.setIfInBounds_toArray,List.set_cons_zero,List.set_cons_succ,dc,ec]
         rfl
        refine Ad (i:=6) (N:=some 51) (v:=?_) (a':=?_) #[true,true,true,true,true,true,true,false,true,false,false,false] rfl rfl (by kernel_rfl) (fun _ _ _ h=>h) (Or.inl ⟨by rfl,?_⟩) ?_ ?_;rotate_left
        ·intro w';go_simp;with_reducible rfl
        rotate_left
        ·simp only [Act.put,List.setIfInBounds_toArray,List.set_cons_zero,List.set_cons_succ,dc,ec]
         rfl
        refine Lh (i:=7) (N:=some 52) (v:=?_) (a':=?_) #[true,true,true,true,true,true,true,true,true,false,false,false] rfl rfl (by kernel_rfl) (fun _ _ _ h=>h) (Or.inl ⟨by rfl,?_⟩) hHeld ?_ ?_;rotate_left
        ·rintro w' ⟨s0,s1,s2,s3,s4,s5,s6,s7⟩;go_simp;with_reducible rfl
        rotate_left
        ·simp only [Act.put,List.setIfInBounds_toArray,List.set_cons_zero,List.set_cons_succ,dc,ec]
         rfl
        refine zw (i:=9) (N:=some 54) #[true,true,true,true,true,true,true,true,true,true,false,false] rfl rfl (by kernel_rfl) (by decide) (fun K hK=>?_);refine Eo Try.func70 (by kernel_rfl) rfl #[.agg #[.int .i64 x.f0,.int .i64 x.f1,.int .i64 x.f2,.int .i64 x.f3,.int .i64 x.f4,.int .i64 x.f5,.string x.f6],.slice Ao ns co] (by rfl) rfl rfl (by simp only [List.map_toArray,List.map_cons,List.map_nil];rfl) ?_;with_reducible refine (GQ of x Ao ns co wd WA.out.symm zA.out.1 (Kd.jc SP.out.o).2.2 (Kd.jc SP.out.o).2.1).mono ?_;rintro e wc ⟨rfl,hbc⟩;refine ⟨_,rfl,?_⟩;have TP:=ia.mk (SP.out.below hbc);have HBc:=ia.mk (Ta HBd.out hbc);clear hbc;refine hK.out _ _ ⟨(ga HBc.out 0).trans rfl,(TP.out.vm m hml x (Mo.out x)).1,(TP.out.vm m hml x (Mo.out x)).2.1,(TP.out.vm m hml x (Mo.out x)).2.2.1,(TP.out.vm m hml x (Mo.out x)).2.2.2.1,(TP.out.vm m hml x (Mo.out x)).2.2.2.2.1,(TP.out.vm m hml x (Mo.out x)).2.2.2.2.2.1,(TP.out.vm m hml x (Mo.out x)).2.2.2.2.2.2⟩ (fun hHeld=>?_);clear hK K;refine Bo (a':=?_) ?_ ?_;rotate_left
        ·show Act.put _ (some 54) _=_
         simp only [Act.put,List.setIfInBounds_toArray,List.set_cons_zero,List.set_cons_succ,dc,ec]
         rfl
        refine Ad (i:=10) (N:=some 55) (v:=?_) (a':=?_) #[true,true,true,true,true,true,true,true,true,true,true,false] rfl rfl (by kernel_rfl) (fun _ _ _ h=>h) (Or.inl ⟨by rfl,?_⟩) ?_ ?_;rotate_left
        ·intro w';go_simp;with_reducible rfl
        rotate_left
        ·simp only [Act.put,List.setIfInBounds_toArray,List.set_cons_zero,List.set_cons_succ,dc,ec]
         rfl
        refine MZ (i:=11) (N:=none) #[true,true,true,true,true,true,true,true,true,true,true,true] rfl rfl (by kernel_rfl) (by decide) (fun K hK=>?_);obtain ⟨hx0,hx1,mj,Ni,kj,rm,qm⟩:=TP.out.vm m hml x (Mo.out x);obtain ⟨U4,hf1,CG,BG,AG,hf5,hf6⟩:=TP.out.frozen m hml;have HN:=ia.mk (show pn w W1 Qk (some ⟨gb,0,none⟩) g5[j].f0.length c5 Ao ns co of ((dn (Jj ns) g5[j].f0 m x).set m (pg of x)) (((((((wc.setCell ⟨gb,m * 7,none⟩ (.int .i64 (pg of x).f0)).setCell ⟨gb,m * 7 + 1,none⟩ (.int .i64 (pg of x).f1)).setCell ⟨gb,m * 7 + 2,none⟩ (.int .i64 (pg of x).f2)).setCell ⟨gb,m * 7 + 3,none⟩ (.int .i64 (pg of x).f3)).setCell ⟨gb,m * 7 + 4,none⟩ (.int .i64 (pg of x).f4)).setCell ⟨gb,m * 7 + 5,none⟩ (.int .i64 (pg of x).f5)).setCell ⟨gb,m * 7 + 6,none⟩ (.string (pg of x).f6)) from TP.out.oag m hml (pg of x));refine GZ (w1:=?_) (by rfl) rfl ?_ ?_;rotate_left
        ·go_simp
         rfl
        refine hK.out _ _ ?_;clear hK K;refine Io (by kernel_rfl) ?_;clear hx0 hx1 mj Ni kj rm qm U4 hf1 CG BG AG hf5 hf6 TP HBc hHeld;generalize (((((((wc.setCell ⟨gb,m * 7,none⟩ (.int .i64 (pg of x).f0)).setCell ⟨gb,m * 7 + 1,none⟩ (.int .i64 (pg of x).f1)).setCell ⟨gb,m * 7 + 2,none⟩ (.int .i64 (pg of x).f2)).setCell ⟨gb,m * 7 + 3,none⟩ (.int .i64 (pg of x).f3)).setCell ⟨gb,m * 7 + 4,none⟩ (.int .i64 (pg of x).f4)).setCell ⟨gb,m * 7 + 5,none⟩ (.int .i64 (pg of x).f5)).setCell ⟨gb,m * 7 + 6,none⟩ (.string (pg of x).f6))=W9 at HN ⊢;replace HN:=ia.mk (St.out _ _ ▸ HN.out)
        have HXC:=ia.mk (show ¬ (pg of x).f0=4∧¬ (pg of x).f0=6→0 ≤ (pg of x).f1∧(pg of x).f1 < (ns:Int) from by
         rw [JQ,IQ];intro h;have h2:=zA.out.1.2.2.2.2;rw [show Uc x=x.f1 from by unfold Uc;rw [if_neg h.1,if_neg h.2]] at h2
         exact ⟨zA.out.2 h,h2⟩)
        clear zA HS St;generalize pg of x=y at HN HE kM HXC ⊢;have EF:=ia.mk (gf lM.out.2.2.2.2.2 HN.out.k VV.out);have hb0:=(ga EF.out 0).trans rfl;obtain ⟨hx0,hx1,mj,Ni,kj,rm,qm⟩:=HN.out.vm m hml y (Mo.out y);have hns:ns ≤ 1048576:=by have:=HNS.out;omega
        go_wp2_with (first|(go_at_call 71;(with_reducible refine (ZM (fun k_=>W1.heap.size ≤ k_) Ao ns co of y w W9 HN.out.b HN.out.oR HXC.out hns).mono ?_);rintro e Rp ⟨rfl,ho,hb,hk⟩;have HP:=ia.mk (HN.out.made ho hb hk);clear ho hb hk hb0 hx0 hx1 mj Ni kj rm qm))
        go_roundg (g5[j].f0.length - (m + 1))
        case measure=>omega
        case rel=>exact ⟨m + 1,by omega,by omega,by go_num,⟨by rw [kM.out,← HE.out];exact HP.out⟩⟩
       ·have gah:decide ((m:Int) < (g5[j].f0.length:Int))=false:=decide_eq_false (by omega);obtain rfl:m=g5[j].f0.length:=by omega
        have hs:=HQ.out;rw [List.drop_length,List.append_nil,List.take_of_length_le (by rw [HL.out];omega)] at hs;have HS:=ia.mk hs;clear hs HQ;have Xp:=(ga cU.out 1).trans rfl;have ij:=(ga cU.out 2).trans rfl;have eA:=(ga cU.out 3).trans rfl;have vT:=(ga cU.out 4).trans rfl;have hbf:=aa cU.out 2
        by_cases hj0:g5[j].f1=0
        ·have bj0:(g5[j].f1 != 0)=false:=by rw [bne_eq_false_iff_eq];exact hj0
         have HBV:=ia.mk (show Qr ns g5[j]=(⟨ek (Jj ns) g5[j].f0,g5[j].f1,g5[j].f2,g5[j].f3,g5[j].f4⟩:Te) from by unfold Qr;rw [if_pos hj0]);have TK:=ia.mk (HS.out.k.mono (fun k_ h=>(Or.inl h:Qk k_ ∨ k_=gx)));have HR9:=ia.mk (Kd.xd HS.out.x (fun _ hk=>hk.1));have dU:=ia.mk HS.out.b;clear hj0 HS;have Vw:=ia.mk (gf lM.out.2.2.2.2.1 TK.out oZ.out);have HY:=ia.mk (gf lM.out.2.1 TK.out HNV.out);have b9:=ia.mk (gf lM.out.2.2.1 TK.out HNZ.out);have e9:=ia.mk (gf lM.out.2.2.2.1 TK.out HNA.out);have HO9:=ia.mk (Kd.zo lM.out.1 TK.out (fun _ h=>h));have sQ:=(ga HY.out 4).trans rfl;have he0:=(ga Vw.out (j * 5)).trans AQ.out.1;have he1:=(ga Vw.out (j * 5 + 1)).trans AQ.out.2.1;have he2:=(ga Vw.out (j * 5 + 2)).trans AQ.out.2.2.1;have he3:=(ga Vw.out (j * 5 + 3)).trans AQ.out.2.2.2.1;have he4:=(ga Vw.out (j * 5 + 4)).trans AQ.out.2.2.2.2;have U4:=aa Vw.out (j * 5);have hf1:=aa Vw.out (j * 5 + 1);have CG:=aa Vw.out (j * 5 + 2);have BG:=aa Vw.out (j * 5 + 3);have AG:=aa Vw.out (j * 5 + 4);have u9:=ia.mk (Kd.pH (Kd.Nz z9.out TK.out (fun k_ h1 h2 h3=>h3.elim h2 (fun e=>by have:=h1.2.2.1;omega))) (by omega) p2 (seg:=[.slice A5 g5[j].f0.length c5,.int .i64 g5[j].f1,.int .i64 g5[j].f2,.int .i64 g5[j].f3,.int .i64 g5[j].f4]) (j:=0) (show 0 + 5 ≤ 5 by decide) (x':=(⟨ek (Jj ns) g5[j].f0,g5[j].f1,g5[j].f2,g5[j].f3,g5[j].f4⟩:Te)) (Em _ _ _ (⟨ek (Jj ns) g5[j].f0,g5[j].f1,g5[j].f2,g5[j].f3,g5[j].f4⟩:Te) HR9.out) (fun _ h=>h));go_wp2
         go_roundg (g5.length - (j + 1))
         case measure=>omega
         case rel =>
          have vA:=u9.out.1;have hgr:=u9.out.2;rw [← HBV.out] at vA
          have hne:∀ {b:Nat} {cs:Array Value} {t:Nat},wr.heap[b]? = some (.cells cs t (0,0))→t ≠ 68→some b ≠ some g:=fun hb ht e=>by
           injection e with e
           subst e;rw [Vw.out] at hb;injection hb with hb
           injection hb with _ hb
           exact ht hb.symm
          refine ⟨j + 1,by omega,by omega,by go_num,⟨?_⟩,⟨Kd.xd (Kd.Ip (Kd.Eg HO9.out) hgr (fun k_ hk=>by
           obtain ⟨_,_,_,q,hq,cells,hc⟩:=hk;rw [List.mem_singleton.1 (show q ∈ [3] from hq)] at hc
           exact hne hc (by decide))) (fun _ _=>trivial)⟩,⟨Rd HY.out hgr (hne HY.out (by decide))⟩,⟨Rd b9.out hgr (hne b9.out (by decide))⟩,⟨dU.out.grown hgr dU.out.size (fun k_ e=>by injection e with e;rw [← e];exact HGB.out.1)⟩,⟨Rd e9.out hgr (hne e9.out (by decide))⟩⟩
          have mz:((g5.map (Qr ns)).take j ++ g5.drop j).set (Int.toNat (j:Int)) (Qr ns g5[j])=(g5.map (Qr ns)).take (j + 1) ++ g5.drop (j + 1):=by
           rw [sZ.out,Int.toNat_natCast,Qo _ _ HLN.out,List.take_succ_eq_append_getElem (by rw [List.length_map];exact hlt),List.getElem_map]
          rw [← mz];exact Kd.zg vA (fun _ _=>trivial)
        ·have bj0:(g5[j].f1 != 0)=true:=by rw [bne_iff_ne];exact hj0
         obtain ⟨q0,q1⟩:=WV.out.1.2.resolve_left hj0;have HBV:=ia.mk (show Qr ns g5[j]=(⟨ek (Jj ns) g5[j].f0,g5[j].f1,rd (Vk (Jj ns) g5[j].f0 g5[j].f0.length) g5[j].f2,g5[j].f3,g5[j].f4⟩:Te) from by unfold Qr;rw [if_neg hj0]);obtain ⟨go,rfl,hq,_⟩:=HS.out.at_ g5[j].f2 q0 q1;have TK:=ia.mk (Kept.setCell (p:=⟨gx,2,none⟩) (HS.out.k.mono (fun k_ h=>(Or.inl h:Qk k_ ∨ k_=gx))) (Or.inl (Or.inr rfl)) (.int .i64 (rd (Vk (Jj ns) g5[j].f0 g5[j].f0.length) g5[j].f2)));have HR9:=ia.mk (Kd.Af (Kd.xd HS.out.x (fun _ hk=>hk.1)) (p:=⟨gx,2,none⟩) (fun k_ h e=>VV.out ((show k_=gx from e) ▸ h)) (.int .i64 (rd (Vk (Jj ns) g5[j].f0 g5[j].f0.length) g5[j].f2)));have dU:=ia.mk (HS.out.b.setCell (p:=⟨gx,2,none⟩) HGX.out.1 (.int .i64 (rd (Vk (Jj ns) g5[j].f0 g5[j].f0.length) g5[j].f2)));have EF:=ia.mk (zb cU.out 2 (.int .i64 (rd (Vk (Jj ns) g5[j].f0 g5[j].f0.length) g5[j].f2)) rfl)
         go_upto_region 20 with (fail)
         clear hb0 Xp ij eA vT hbf hq hj0 HS cU;generalize World.setCell _ _ _=W9 at TK HR9 dU EF ⊢;have hb0:=(ga EF.out 0).trans rfl;have Xp:=(ga EF.out 1).trans rfl;have ij:=(ga EF.out 2).trans rfl;have eA:=(ga EF.out 3).trans rfl;have vT:=(ga EF.out 4).trans rfl;have Vw:=ia.mk (gf lM.out.2.2.2.2.1 TK.out oZ.out);have HY:=ia.mk (gf lM.out.2.1 TK.out HNV.out);have b9:=ia.mk (gf lM.out.2.2.1 TK.out HNZ.out);have e9:=ia.mk (gf lM.out.2.2.2.1 TK.out HNA.out);have HO9:=ia.mk (Kd.zo lM.out.1 TK.out (fun _ h=>h));have sQ:=(ga HY.out 4).trans rfl;have he0:=(ga Vw.out (j * 5)).trans AQ.out.1;have he1:=(ga Vw.out (j * 5 + 1)).trans AQ.out.2.1;have he2:=(ga Vw.out (j * 5 + 2)).trans AQ.out.2.2.1;have he3:=(ga Vw.out (j * 5 + 3)).trans AQ.out.2.2.2.1;have he4:=(ga Vw.out (j * 5 + 4)).trans AQ.out.2.2.2.2;have U4:=aa Vw.out (j * 5);have hf1:=aa Vw.out (j * 5 + 1);have CG:=aa Vw.out (j * 5 + 2);have BG:=aa Vw.out (j * 5 + 3);have AG:=aa Vw.out (j * 5 + 4);have u9:=ia.mk (Kd.pH (Kd.Nz z9.out TK.out (fun k_ h1 h2 h3=>h3.elim h2 (fun e=>by have:=h1.2.2.1;omega))) (by omega) p2 (seg:=[.slice A5 g5[j].f0.length c5,.int .i64 g5[j].f1,.int .i64 (rd (Vk (Jj ns) g5[j].f0 g5[j].f0.length) g5[j].f2),.int .i64 g5[j].f3,.int .i64 g5[j].f4]) (j:=0) (show 0 + 5 ≤ 5 by decide) (x':=(⟨ek (Jj ns) g5[j].f0,g5[j].f1,rd (Vk (Jj ns) g5[j].f0 g5[j].f0.length) g5[j].f2,g5[j].f3,g5[j].f4⟩:Te)) (Em _ _ _ (⟨ek (Jj ns) g5[j].f0,g5[j].f1,rd (Vk (Jj ns) g5[j].f0 g5[j].f0.length) g5[j].f2,g5[j].f3,g5[j].f4⟩:Te) HR9.out) (fun _ h=>h));go_wp2
         go_roundg (g5.length - (j + 1))
         case measure=>omega
         case rel =>
          have vA:=u9.out.1;have hgr:=u9.out.2;rw [← HBV.out] at vA
          have hne:∀ {b:Nat} {cs:Array Value} {t:Nat},W9.heap[b]? = some (.cells cs t (0,0))→t ≠ 68→some b ≠ some g:=fun hb ht e=>by
           injection e with e
           subst e;rw [Vw.out] at hb;injection hb with hb
           injection hb with _ hb
           exact ht hb.symm
          refine ⟨j + 1,by omega,by omega,by go_num,⟨?_⟩,⟨Kd.xd (Kd.Ip (Kd.Eg HO9.out) hgr (fun k_ hk=>by
           obtain ⟨_,_,_,q,hq,cells,hc⟩:=hk;rw [List.mem_singleton.1 (show q ∈ [3] from hq)] at hc
           exact hne hc (by decide))) (fun _ _=>trivial)⟩,⟨Rd HY.out hgr (hne HY.out (by decide))⟩,⟨Rd b9.out hgr (hne b9.out (by decide))⟩,⟨dU.out.grown hgr dU.out.size (fun k_ e=>by injection e with e;rw [← e];exact HGB.out.1)⟩,⟨Rd e9.out hgr (hne e9.out (by decide))⟩⟩
          have mz:((g5.map (Qr ns)).take j ++ g5.drop j).set (Int.toNat (j:Int)) (Qr ns g5[j])=(g5.map (Qr ns)).take (j + 1) ++ g5.drop (j + 1):=by
           rw [sZ.out,Int.toNat_natCast,Qo _ _ HLN.out,List.take_succ_eq_append_getElem (by rw [List.length_map];exact hlt),List.getElem_map]
          rw [← mz];exact Kd.zg vA (fun _ _=>trivial)
   ·have Dx:decide ((j:Int) < (La.length:Int))=false:=by rw [HLL.out];exact decide_eq_false (by omega)
    have jah:¬ j < La.length:=by rw [HLL.out];omega
    obtain rfl:j=g5.length:=by omega
    have hs:=HS.out;rw [List.drop_length,List.append_nil,List.take_of_length_le (by rw [List.length_map];omega)] at hs;have HS:=ia.mk hs;clear hs;have hv0:=(ga HV.out 0).trans rfl;have hv1:=(ga HV.out 1).trans rfl;have hv2:=(ga HV.out 2).trans rfl;have nN:=(ga HV.out 3).trans rfl;have sQ:=(ga HV.out 4).trans rfl;have hz0:=(ga HZ.out 0).trans rfl;have GW:=aa HZ.out 0;have hz1:=(ga HZ.out 1).trans rfl;have FW:=aa HZ.out 1;have hz2:=(ga HZ.out 2).trans rfl;have EW:=aa HZ.out 2;have hz3:=(ga HZ.out 3).trans rfl;have DW:=aa HZ.out 3;have hz4:=(ga HZ.out 4).trans rfl;have CW:=aa HZ.out 4;go_wp2;have aE:=Pr (z:=w.heap.size + 1) (g2:=r2) (g3:=r3) (g4:=r4) HZ.out HO.out HS.out HB.out (Nat.le_succ _);refine bodyPost_ret (results_cell_row rfl _ _ (w.heap.size + 1) 30 #[.slice B0 r1.length d0,.int .i64 r2,.int .i64 r3,.int .i64 r4,.slice B4 g5.length d4] (0,0) _ rfl aE.1 Try.underlying30 rfl (by kernel_rfl)) rfl ?_;exact ⟨_,_,rfl,aE.2.1,aE.2.2.1,aE.2.2.2⟩
theorem YU {n0:Nat} {s:Int} {x:ee} (h:gl n0 s x=true) (hs:0 ≤ s):cw s x∧(¬ x.f0=4∧¬ x.f0=6→0 ≤ x.f1):=by
 unfold gl jl at h;unfold cw Uc
 by_cases o0:x.f0=0
 ·simp [o0,Yj] at h ⊢;omega
 by_cases o1:x.f0=1
 ·simp [o1,Yj] at h ⊢;omega
 by_cases o2:x.f0=2
 ·simp [o2,Yj] at h ⊢;omega
 by_cases o3:x.f0=3
 ·simp [o3,Yj] at h ⊢;omega
 by_cases o4:x.f0=4
 ·simp [o4,Yj] at h ⊢;omega
 by_cases o5:x.f0=5
 ·simp [o5,Yj] at h ⊢;omega
 by_cases o6:x.f0=6
 ·simp [o6,Yj] at h ⊢;omega
 simp [o0,o1,o2,o3,o4,o5,o6] at h
theorem rO {l0:List Int} {s:Int} {l4:List Te} {b:Te} (h:wm l0 s l4 b=true):b.f1=0 ∨ (0 ≤ b.f2∧b.f2 < s):=by
 unfold wm Uj at h
 by_cases h0:b.f1=0
 ·exact Or.inl h0
 ·right
  simp only [Bool.and_eq_true] at h;have h2:=h.2;rw [if_neg h0] at h2
  by_cases h1:b.f1=1
  ·rw [if_pos h1] at h2;simp [Yj] at h2;omega
  ·rw [if_neg h1] at h2
   by_cases h3:b.f1=2
   ·rw [if_pos h3] at h2;simp [Yj] at h2;omega
   ·rw [if_neg h3] at h2;simp at h2
theorem QH {l0:List Int} {p v s:Int} {l4:List Te} (h:Lk l0 p v s l4=true):0 ≤ s∧s ≤ 1000∧(l4.all fun b=>BA s b)=true:=by
 obtain ⟨hh,hb,ht⟩:=xD h;have hd:=BL hh;refine ⟨by omega,by omega,?_⟩;rw [List.all_eq_true];intro b hm;have hk:=hb b hm;have hc:=dw l4 b hm;have hi:=kH hk;exact AA.2 ⟨⟨⟨by omega,fun x hx=>(YU (hi x hx) (by omega)).1⟩,rO hk⟩,fun x hx=>(YU (hi x hx) (by omega)).2⟩
theorem OX {l0:List Int} {p v s:Int} {l4:List Te} (h:Lk l0 p v s l4=true):0 ≤ s∧s ≤ 1000∧(l4.all fun b=>GL s b)=true:=by
 obtain ⟨h1,h2,h3⟩:=QH h;refine ⟨h1,h2,?_⟩;rw [List.all_eq_true] at h3 ⊢;intro b hb;have:=h3 b hb;unfold BA at this;rw [Bool.and_eq_true] at this;exact this.1
def PX (l0:List Int) (p v s:Int) (l4:List Te):List Te:=if Lk l0 p v s l4=true then l4.map (Qr s.toNat) else l4
theorem FL (l0:List Int) (p v s:Int) (l4:List Te) (h0:l0.length ≤ 1048576) (hl:l4.length ≤ 1048576) (ht:Dd l4 ≤ 1048576) :
  ∃ r,Ev (fun k=>qj.f k l0 p v s l4) r∧Ev (fun k=>Ai.f k l0 p v s l4) r∧r.1.length ≤ 1048576∧r.2.2.2.2.length ≤ 1048576∧Dd r.2.2.2.2 ≤ 1048576:=by
 refine ⟨(l0,p,v,s,PX l0 p v s l4),?_,?_,h0,?_,?_⟩
 ·unfold qj.f;refine Ev.bind (PG h0 hl ht) (Ev.bind (UG h0 hl ht) ?_);unfold PX
  by_cases hg:Lk l0 p v s l4=true
  ·rw [if_pos hg,if_pos hg];obtain ⟨a,b,c⟩:=QH hg;exact Ev.pos ⟨a,b,rfl,c⟩ (Ev.now _)
  ·rw [if_neg hg,if_neg hg];exact Ev.now _
 ·unfold Ai.f;refine Ev.bind (yD h0 hl ht) (Ev.bind (QG h0 hl ht) ?_);unfold PX
  by_cases hg:Lk l0 p v s l4=true
  ·rw [if_pos hg,if_pos hg];obtain ⟨a,b,c⟩:=OX hg;exact Ev.pos ⟨a,b,c⟩ (Ev.now _)
  ·rw [if_neg hg,if_neg hg];exact Ev.now _
 ·show (PX l0 p v s l4).length ≤ _
  unfold PX
  split
  ·rw [List.length_map];exact hl
  ·exact hl
 ·show Dd (PX l0 p v s l4) ≤ _
  unfold PX
  split
  ·have e:Dd (l4.map (Qr s.toNat))=Dd l4:=by
    unfold Dd;rw [List.map_map]
    congr 1
    refine List.map_congr_left (fun b _=>?_);simp [Qr,Ii]
   rw [e];exact ht
  ·exact ht
end Go.Proofs.Ytmifdccaajngcaa.P
end
