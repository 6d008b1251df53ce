import Derived.Test.YtoomcmaifgkkfaaQRuler1
import Derived.Test.YtoomcmaifgkkfaaQRuler4
import Derived.Shelf.Abstract
import Derived.Outline
import Derived.RegionTactic
import Derived.Deep.QuietTactic
import Derived.BigQuiet
set_option maxHeartbeats 8000000
set_option maxRecDepth 100000
section
namespace Go.Proofs.Ytoomcmaifgkkfaa.P
open Go.RowKit Go.Proofs.Ia.Pb Go.Proofs.Ia.Ld Go.Proofs.Ia.De
set_option linter.unusedVariables false
set_option linter.unusedSimpArgs false
attribute [local go_sem] Bi zi Fj Ej mh jh Ai si
mutual
def qd.l0:Nat→List Int→List (List Int)→Int→Option (List Int)
 | 0,_,_,_=>none
 | k + 1,x3,x4,x5=>if x5 < (x4.length:Int) then (qd.l1 k x3 x4 x5 (-1) 0) else (some x3)
def qd.l1:Nat→List Int→List (List Int)→Int→Int→Int→Option (List Int)
 | 0,_,_,_,_,_=>none
 | k + 1,x3,x4,x5,x6,x7=>if 0 ≤ x5 then (if x5 < (x4.length:Int) then (if x7 < ((Vb x4 x5).length:Int) then (if 0 ≤ x7 then (if (rd (Vb x4 x5) x7)=x5 then (qd.l1 k x3 x4 x5 x6 (wrap64 (x7 + 1))) else (if x6 < 0 then (qd.l1 k x3 x4 x5 (rd (Vb x4 x5) x7) (wrap64 (x7 + 1))) else (if 0 ≤ (rd (Vb x4 x5) x7) then (if (rd (Vb x4 x5) x7) < (x4.length:Int) then (if 0 ≤ x6 then (if x6 < (x4.length:Int) then (if ((Vb x4 (rd (Vb x4 x5) x7)).length:Int) > ((Vb x4 x6).length:Int) then (qd.l1 k x3 x4 x5 (rd (Vb x4 x5) x7) (wrap64 (x7 + 1))) else (qd.l1 k x3 x4 x5 x6 (wrap64 (x7 + 1)))) else (none)) else (none)) else (none)) else (none)))) else (none)) else (if x3.length < 17592186044416 then (qd.l0 k (x3 ++ [x6]) x4 (wrap64 (x5 + 1))) else (none))) else (none)) else (none)
end
def qd.f (k:Nat) (Ma:List Int) (La:Int) (Na:Int) (Ka:Int) (Fa:List (jf)):Option (List Int):=(Dc.f k Ma La Na Ka Fa).bind fun t105=>(qd.l0 k (([]:List Int)) t105 0)
theorem qd.calls (k:Nat) (qb:Option Addr) (mb:Nat) (Ma:List Int) (La:Int) (Na:Int) (Ka:Int) (Lb:Option Addr) (Fb:Nat) (Fa:List (jf)) (r:List Int) (w:World) (Ae:Kd.C (Kd.int .i64) w qb Ma.length Ma) (we:Ma.length ≤ mb) (Uf:Kd.C Gp w Lb Fa.length Fa) (Lf:Fa.length ≤ Fb) (h:qd.f k Ma La Na Ka Fa=some r) :
  Calls Try.prog 33 #[.agg #[.slice qb Ma.length mb,.int .i64 La,.int .i64 Na,.int .i64 Ka,.slice Lb Fa.length Fb]] w fun e w'=>∃ Xn:Value,e = .returned (Xn)∧Kd.R (Kd.int .i64) 3 w' w.heap.size (fun _=>True) Xn r∧Below w.heap.size w w':=by
 have Oz:=Try.underlying45;have Ke:=ga.mk Ae;have Ve:=ga.mk we;clear Ae we;have kg:=ga.mk Uf;have Tg:=ga.mk Lf;clear Uf Lf;have HB:=ga.mk (Below.refl w.heap.size w);have H:((Dc.f k Ma La Na Ka Fa).bind fun t105=>(qd.l0 k (([]:List Int)) t105 0))=some r:=h;clear h;obtain ⟨Xd,lf⟩:∃ y_:List Int,y_=(([]:List Int)):=⟨_,rfl⟩;replace H:((Dc.f k Ma La Na Ka Fa).bind fun t105=>(qd.l0 k Xd t105 0))=some r:=by first|(rw [lf];with_reducible exact H)|(have Md:=(Option.bind_some _ _).symm.trans H;rw [lf];with_reducible exact Md)|(have Md:=(Option.bind_some _ _).symm.trans H;with_reducible exact Md)|with_reducible exact H|(rw [lf];exact H)|exact H
 have xh:=ga.mk lf;clear lf;replace H:=Option.bind_eq_some_iff.mp H;obtain ⟨t105,zC,H⟩:=H;replace H:(qd.l0 k Xd t105 0)=some r:=H;have A2:=ga.mk zC;clear zC;have H':=ga.mk H;clear H;go_enter Try.func33,Try.ntmps33;go_wp2_with (first|((with_reducible refine Ab (N:=1) rfl ?_);(try (refine Me (by rfl) ?_;dsimp only));refine Kb ?hg (N:=1) ?hd (cs:=#[.slice qb Ma.length mb,.int .i64 La,.int .i64 Na,.int .i64 Ka,.slice Lb Fa.length Fb]) (t:=45) ?hr ?_;(case hd=>rfl);(case hg=>rfl);(case hr=>first|(go_simp;done)|(go_simp;rfl));intro za hg w3 Wb hb;have Eb:=ga.mk (Qa (by repeat (first|(with_reducible first|exact HB.out|apply oa|apply ia|apply qa)|exact HB.out)) hb);have Ib:=ga.mk (Wb);have Sb:=ga.mk ((by rw [hg];exact (Ja (by repeat (first|(with_reducible first|exact HB.out|apply oa|apply ia|apply qa)|exact HB.out))):w.heap.size ≤ za));have yc:=ga.mk ((by rw [hg];exact (Ja (by repeat (first|(with_reducible first|exact HB.out|apply oa|apply ia|apply qa)|exact HB.out))):w.heap.size ≤ za));clear HB;have HB:=Eb;have ta:=Ib;have Be:=Sb;have Sa:=yc;clear Eb Ib Sb yc hb Wb hg)|((with_reducible refine Ab (N:=9) rfl ?_);(try (refine Me (by rfl) ?_;dsimp only));refine Kd.vk (Kd.int .i64) _ 3 ?hg (N:=9) ?hd (xs:=([]:List Int)) (inner:=[]) (ok:=fun _=>True) (Jh:=fun _=>True) ?hr ?hp (fun _ hk=>hk) trivial (Below.refl _ _) (Nat.le_refl _) (by simp) ?_;(case hd=>rfl);(case hg=>rfl);(case hr=>first|(go_simp;done)|(go_simp;rfl));(case hp=>exact (Sd.none _ _));intro ji w4 Pt hb Ol Re;clear Ol Re;(first|rw [← xh.out] at Pt|(simp only [Int.reduceToNat] at Pt;rw [← xh.out] at Pt));have Eb:=ga.mk (Kd.Fe Pt (Ja (by repeat (first|(with_reducible first|exact HB.out|apply oa|apply ia|apply qa|refine ua ?_ Sa.out)|exact HB.out))));have Ib:=ga.mk (Wa (g:=za) (o:=.cells #[.slice qb Ma.length mb,.int .i64 La,.int .i64 Na,.int .i64 Ka,.slice Lb Fa.length Fb] 45 (0,0)) (by (with_reducible repeat (first|refine Ca ?_ _|refine Ea ?_|refine Da ?_ _));exact ta.out) hb);have Sb:=ga.mk (Qa (by repeat (first|(with_reducible first|exact HB.out|apply oa|apply ia|apply qa|refine ua ?_ Sa.out)|exact HB.out)) hb);clear ta HB;have ke:=Eb;have ta:=Ib;have HB:=Sb;clear Eb Ib Sb hb Pt;have Zl:w4.cell? ⟨za,0,none⟩=some (.slice qb Ma.length mb):=(ja ta.out 0).trans rfl;have Yl:w4.cell? ⟨za,1,none⟩=some (.int .i64 La):=(ja ta.out 1).trans rfl;have Xl:w4.cell? ⟨za,2,none⟩=some (.int .i64 Na):=(ja ta.out 2).trans rfl;have Wl:w4.cell? ⟨za,3,none⟩=some (.int .i64 Ka):=(ja ta.out 3).trans rfl;have Vl:w4.cell? ⟨za,4,none⟩=some (.slice Lb Fa.length Fb):=(ja ta.out 4).trans rfl;have Ul:=aa ta.out 0;have Tl:=aa ta.out 1;have Sl:=aa ta.out 2;have Rl:=aa ta.out 3;have Ql:=aa ta.out 4)|(go_at_call 35;(with_reducible refine (Dc.calls k _ _ Ma La Na Ka _ _ Fa t105 _ ?Fc ?Ec ?Wd ?Vd A2.out).mono ?_);(case Fc=>repeat (first|exact (Kd.Nb Ke.out HB.out)|(with_reducible refine Kd.Ub ?_ _)|(with_reducible refine Kd.Tb ?_ _)|(with_reducible refine Kd.mc ?_)));(case Ec=>exact Ve.out);(case Wd=>repeat (first|exact (Kd.Nb kg.out HB.out)|(with_reducible refine Kd.Ub ?_ _)|(with_reducible refine Kd.Tb ?_ _)|(with_reducible refine Kd.mc ?_)));(case Vd=>exact Tg.out);rintro e w7 ⟨sw,rfl,Ri,hb⟩;have Eb:=ga.mk (Kd.Dd (by (with_reducible repeat (first|apply Kd.Va|apply Kd.Ua|apply Kd.jb));exact ke.out) hb);have Ib:=ga.mk (Kd.om (Kd.kC Ri (Kd.Km (by (with_reducible repeat (first|apply Kd.Va|apply Kd.Ua|apply Kd.jb));exact ke.out))) (Ja (by repeat (first|(with_reducible first|exact HB.out|apply oa|apply ia|apply qa|refine ua ?_ Sa.out)|exact HB.out))));have Sb:=ga.mk (Wa (g:=za) (o:=.cells #[.slice qb Ma.length mb,.int .i64 La,.int .i64 Na,.int .i64 Ka,.slice Lb Fa.length Fb] 45 (0,0)) (by (with_reducible repeat (first|refine Ca ?_ _|refine Ea ?_|refine Da ?_ _));exact ta.out) hb);have yc:=ga.mk (Qa (by repeat (first|(with_reducible first|exact HB.out|apply oa|apply ia|apply qa|refine ua ?_ Sa.out)|exact HB.out)) hb);clear ke ta HB;have ke:=Eb;have wm:=Ib;have ta:=Sb;have HB:=yc;clear Eb Ib Sb yc;(try clear hb);(try clear Qj);(try clear hk);(try clear hi);(try clear Ri)))
 repeat (go_quiet (first|((with_reducible refine Ab (N:=1) rfl ?_);(try (refine Me (by rfl) ?_;dsimp only));refine Kb ?hg (N:=1) ?hd (cs:=#[.slice qb Ma.length mb,.int .i64 La,.int .i64 Na,.int .i64 Ka,.slice Lb Fa.length Fb]) (t:=45) ?hr ?_;(case hd=>rfl);(case hg=>rfl);(case hr=>first|(go_simp;done)|(go_simp;rfl));intro za hg w3 Wb hb;have Eb:=ga.mk (Qa (by repeat (first|(with_reducible first|exact HB.out|apply oa|apply ia|apply qa)|exact HB.out)) hb);have Ib:=ga.mk (Wb);have Sb:=ga.mk ((by rw [hg];exact (Ja (by repeat (first|(with_reducible first|exact HB.out|apply oa|apply ia|apply qa)|exact HB.out))):w.heap.size ≤ za));have yc:=ga.mk ((by rw [hg];exact (Ja (by repeat (first|(with_reducible first|exact HB.out|apply oa|apply ia|apply qa)|exact HB.out))):w.heap.size ≤ za));clear HB;have HB:=Eb;have ta:=Ib;have Be:=Sb;have Sa:=yc;clear Eb Ib Sb yc hb Wb hg)|((with_reducible refine Ab (N:=9) rfl ?_);(try (refine Me (by rfl) ?_;dsimp only));refine Kd.vk (Kd.int .i64) _ 3 ?hg (N:=9) ?hd (xs:=([]:List Int)) (inner:=[]) (ok:=fun _=>True) (Jh:=fun _=>True) ?hr ?hp (fun _ hk=>hk) trivial (Below.refl _ _) (Nat.le_refl _) (by simp) ?_;(case hd=>rfl);(case hg=>rfl);(case hr=>first|(go_simp;done)|(go_simp;rfl));(case hp=>exact (Sd.none _ _));intro ji w4 Pt hb Ol Re;clear Ol Re;(first|rw [← xh.out] at Pt|(simp only [Int.reduceToNat] at Pt;rw [← xh.out] at Pt));have Eb:=ga.mk (Kd.Fe Pt (Ja (by repeat (first|(with_reducible first|exact HB.out|apply oa|apply ia|apply qa|refine ua ?_ Sa.out)|exact HB.out))));have Ib:=ga.mk (Wa (g:=za) (o:=.cells #[.slice qb Ma.length mb,.int .i64 La,.int .i64 Na,.int .i64 Ka,.slice Lb Fa.length Fb] 45 (0,0)) (by (with_reducible repeat (first|refine Ca ?_ _|refine Ea ?_|refine Da ?_ _));exact ta.out) hb);have Sb:=ga.mk (Qa (by repeat (first|(with_reducible first|exact HB.out|apply oa|apply ia|apply qa|refine ua ?_ Sa.out)|exact HB.out)) hb);clear ta HB;have ke:=Eb;have ta:=Ib;have HB:=Sb;clear Eb Ib Sb hb Pt;have Zl:w4.cell? ⟨za,0,none⟩=some (.slice qb Ma.length mb):=(ja ta.out 0).trans rfl;have Yl:w4.cell? ⟨za,1,none⟩=some (.int .i64 La):=(ja ta.out 1).trans rfl;have Xl:w4.cell? ⟨za,2,none⟩=some (.int .i64 Na):=(ja ta.out 2).trans rfl;have Wl:w4.cell? ⟨za,3,none⟩=some (.int .i64 Ka):=(ja ta.out 3).trans rfl;have Vl:w4.cell? ⟨za,4,none⟩=some (.slice Lb Fa.length Fb):=(ja ta.out 4).trans rfl;have Ul:=aa ta.out 0;have Tl:=aa ta.out 1;have Sl:=aa ta.out 2;have Rl:=aa ta.out 3;have Ql:=aa ta.out 4)|(go_at_call 35;(with_reducible refine (Dc.calls k _ _ Ma La Na Ka _ _ Fa t105 _ ?Fc ?Ec ?Wd ?Vd A2.out).mono ?_);(case Fc=>repeat (first|exact (Kd.Nb Ke.out HB.out)|(with_reducible refine Kd.Ub ?_ _)|(with_reducible refine Kd.Tb ?_ _)|(with_reducible refine Kd.mc ?_)));(case Ec=>exact Ve.out);(case Wd=>repeat (first|exact (Kd.Nb kg.out HB.out)|(with_reducible refine Kd.Ub ?_ _)|(with_reducible refine Kd.Tb ?_ _)|(with_reducible refine Kd.mc ?_)));(case Vd=>exact Tg.out);rintro e w7 ⟨sw,rfl,Ri,hb⟩;have Eb:=ga.mk (Kd.Dd (by (with_reducible repeat (first|apply Kd.Va|apply Kd.Ua|apply Kd.jb));exact ke.out) hb);have Ib:=ga.mk (Kd.om (Kd.kC Ri (Kd.Km (by (with_reducible repeat (first|apply Kd.Va|apply Kd.Ua|apply Kd.jb));exact ke.out))) (Ja (by repeat (first|(with_reducible first|exact HB.out|apply oa|apply ia|apply qa|refine ua ?_ Sa.out)|exact HB.out))));have Sb:=ga.mk (Wa (g:=za) (o:=.cells #[.slice qb Ma.length mb,.int .i64 La,.int .i64 Na,.int .i64 Ka,.slice Lb Fa.length Fb] 45 (0,0)) (by (with_reducible repeat (first|refine Ca ?_ _|refine Ea ?_|refine Da ?_ _));exact ta.out) hb);have yc:=ga.mk (Qa (by repeat (first|(with_reducible first|exact HB.out|apply oa|apply ia|apply qa|refine ua ?_ Sa.out)|exact HB.out)) hb);clear ke ta HB;have ke:=Eb;have wm:=Ib;have ta:=Sb;have HB:=yc;clear Eb Ib Sb yc;(try clear hb);(try clear Qj);(try clear hk);(try clear hi);(try clear Ri)));try go_wp2_with (first|((with_reducible refine Ab (N:=1) rfl ?_);(try (refine Me (by rfl) ?_;dsimp only));refine Kb ?hg (N:=1) ?hd (cs:=#[.slice qb Ma.length mb,.int .i64 La,.int .i64 Na,.int .i64 Ka,.slice Lb Fa.length Fb]) (t:=45) ?hr ?_;(case hd=>rfl);(case hg=>rfl);(case hr=>first|(go_simp;done)|(go_simp;rfl));intro za hg w3 Wb hb;have Eb:=ga.mk (Qa (by repeat (first|(with_reducible first|exact HB.out|apply oa|apply ia|apply qa)|exact HB.out)) hb);have Ib:=ga.mk (Wb);have Sb:=ga.mk ((by rw [hg];exact (Ja (by repeat (first|(with_reducible first|exact HB.out|apply oa|apply ia|apply qa)|exact HB.out))):w.heap.size ≤ za));have yc:=ga.mk ((by rw [hg];exact (Ja (by repeat (first|(with_reducible first|exact HB.out|apply oa|apply ia|apply qa)|exact HB.out))):w.heap.size ≤ za));clear HB;have HB:=Eb;have ta:=Ib;have Be:=Sb;have Sa:=yc;clear Eb Ib Sb yc hb Wb hg)|((with_reducible refine Ab (N:=9) rfl ?_);(try (refine Me (by rfl) ?_;dsimp only));refine Kd.vk (Kd.int .i64) _ 3 ?hg (N:=9) ?hd (xs:=([]:List Int)) (inner:=[]) (ok:=fun _=>True) (Jh:=fun _=>True) ?hr ?hp (fun _ hk=>hk) trivial (Below.refl _ _) (Nat.le_refl _) (by simp) ?_;(case hd=>rfl);(case hg=>rfl);(case hr=>first|(go_simp;done)|(go_simp;rfl));(case hp=>exact (Sd.none _ _));intro ji w4 Pt hb Ol Re;clear Ol Re;(first|rw [← xh.out] at Pt|(simp only [Int.reduceToNat] at Pt;rw [← xh.out] at Pt));have Eb:=ga.mk (Kd.Fe Pt (Ja (by repeat (first|(with_reducible first|exact HB.out|apply oa|apply ia|apply qa|refine ua ?_ Sa.out)|exact HB.out))));have Ib:=ga.mk (Wa (g:=za) (o:=.cells #[.slice qb Ma.length mb,.int .i64 La,.int .i64 Na,.int .i64 Ka,.slice Lb Fa.length Fb] 45 (0,0)) (by (with_reducible repeat (first|refine Ca ?_ _|refine Ea ?_|refine Da ?_ _));exact ta.out) hb);have Sb:=ga.mk (Qa (by repeat (first|(with_reducible first|exact HB.out|apply oa|apply ia|apply qa|refine ua ?_ Sa.out)|exact HB.out)) hb);clear ta HB;have ke:=Eb;have ta:=Ib;have HB:=Sb;clear Eb Ib Sb hb Pt;have Zl:w4.cell? ⟨za,0,none⟩=some (.slice qb Ma.length mb):=(ja ta.out 0).trans rfl;have Yl:w4.cell? ⟨za,1,none⟩=some (.int .i64 La):=(ja ta.out 1).trans rfl;have Xl:w4.cell? ⟨za,2,none⟩=some (.int .i64 Na):=(ja ta.out 2).trans rfl;have Wl:w4.cell? ⟨za,3,none⟩=some (.int .i64 Ka):=(ja ta.out 3).trans rfl;have Vl:w4.cell? ⟨za,4,none⟩=some (.slice Lb Fa.length Fb):=(ja ta.out 4).trans rfl;have Ul:=aa ta.out 0;have Tl:=aa ta.out 1;have Sl:=aa ta.out 2;have Rl:=aa ta.out 3;have Ql:=aa ta.out 4)|(go_at_call 35;(with_reducible refine (Dc.calls k _ _ Ma La Na Ka _ _ Fa t105 _ ?Fc ?Ec ?Wd ?Vd A2.out).mono ?_);(case Fc=>repeat (first|exact (Kd.Nb Ke.out HB.out)|(with_reducible refine Kd.Ub ?_ _)|(with_reducible refine Kd.Tb ?_ _)|(with_reducible refine Kd.mc ?_)));(case Ec=>exact Ve.out);(case Wd=>repeat (first|exact (Kd.Nb kg.out HB.out)|(with_reducible refine Kd.Ub ?_ _)|(with_reducible refine Kd.Tb ?_ _)|(with_reducible refine Kd.mc ?_)));(case Vd=>exact Tg.out);rintro e w7 ⟨sw,rfl,Ri,hb⟩;have Eb:=ga.mk (Kd.Dd (by (with_reducible repeat (first|apply Kd.Va|apply Kd.Ua|apply Kd.jb));exact ke.out) hb);have Ib:=ga.mk (Kd.om (Kd.kC Ri (Kd.Km (by (with_reducible repeat (first|apply Kd.Va|apply Kd.Ua|apply Kd.jb));exact ke.out))) (Ja (by repeat (first|(with_reducible first|exact HB.out|apply oa|apply ia|apply qa|refine ua ?_ Sa.out)|exact HB.out))));have Sb:=ga.mk (Wa (g:=za) (o:=.cells #[.slice qb Ma.length mb,.int .i64 La,.int .i64 Na,.int .i64 Ka,.slice Lb Fa.length Fb] 45 (0,0)) (by (with_reducible repeat (first|refine Ca ?_ _|refine Ea ?_|refine Da ?_ _));exact ta.out) hb);have yc:=ga.mk (Qa (by repeat (first|(with_reducible first|exact HB.out|apply oa|apply ia|apply qa|refine ua ?_ Sa.out)|exact HB.out)) hb);clear ke ta HB;have ke:=Eb;have wm:=Ib;have ta:=Sb;have HB:=yc;clear Eb Ib Sb yc;(try clear hb);(try clear Qj);(try clear hk);(try clear hi);(try clear Ri))))
 go_loopg [3,5] k (fun kq v3 v5 w'=>∃ (Cc:List Int) (Aa:Int),v5 = .int .i64 Aa∧ga (qd.l0 kq Cc t105 Aa=some r)∧ga (kq ≤ k)∧ga (Kd.R (Kd.int .i64) 3 w' w.heap.size (fun _=>True) v3 Cc)∧ga (Kd.S (Kd.slice 3 (Kd.int .i64)) 22 w' w.heap.size (fun k_=>some k_ ≠ (v3:Value).ownBlock) sw t105)∧ga (w'.heap[za]? = some (.cells #[(.slice qb Ma.length mb),.int .i64 La,.int .i64 Na,.int .i64 Ka,(.slice Lb Fa.length Fb)] 45 (0,0)))∧ga (Below w.heap.size w w'))
 case atStart=>exact ⟨(Xd),(0),(by first|rfl|(simp;done)|(simp [*];done)),H',⟨Nat.le_refl _⟩,⟨by (with_reducible repeat (first|apply Kd.Va|apply Kd.Ua|apply Kd.jb));exact ke.out⟩,⟨by (with_reducible repeat (first|apply Kd.Ic|apply Kd.Gc|apply Kd.yd));exact Kd.Gf wm.out (fun _ hk=>hk.2)⟩,⟨by (with_reducible repeat (first|refine Ca ?_ _|refine Ea ?_|refine Da ?_ _));exact ta.out⟩,⟨by repeat (first|(with_reducible first|exact HB.out|apply oa|apply ia|apply qa|refine ua ?_ Sa.out)|exact HB.out)⟩⟩
 case round =>
  clear H'
  try clear p2
  try clear c3
  try clear Zl
  try clear Yl
  try clear Xl
  try clear Wl
  try clear Vl
  try clear Ul
  try clear Tl
  try clear Sl
  try clear Rl
  try clear Ql
  (try clear HA);(try clear uf);(try clear qc);(try clear ec);(try clear ta);(try clear HB);obtain ⟨Cc,Aa,rfl,HA,uf,qc,ec,ta,HB⟩:=hrel;cases gk with
  | zero=>exact absurd HA.out (by simp [qd.l0])
  | succ k1 =>
   have H:=HA.out;clear HA;simp only [qd.l0] at H
   by_cases c8:Aa < (t105.length:Int)
   ·rw [if_pos c8] at H;have VC:decide (Aa < (t105.length:Int))=true:=decide_eq_true c8;clear c8;have H':=ga.mk H;clear H;obtain ⟨Ao9,S4,M7⟩:=Kd.mm ec.out;subst M7;go_wp2
    repeat (go_quiet (fail);try go_wp2)
    go_loopg [6,7] k1 (fun kq v6 v7 w'=>∃ (fh:Int) (Jc:Int),v6 = .int .i64 fh∧v7 = .int .i64 Jc∧ga (qd.l1 kq Cc t105 Aa fh Jc=some r)∧ga (kq ≤ k1)∧ga (Kd.R (Kd.int .i64) 3 w' w.heap.size (fun _=>True) u3 Cc)∧ga (Kd.S (Kd.slice 3 (Kd.int .i64)) 22 w' w.heap.size (fun k_=>some k_ ≠ (u3:Value).ownBlock) (.slice Ao9 t105.length S4) t105)∧ga (w'.heap[za]? = some (.cells #[(.slice qb Ma.length mb),.int .i64 La,.int .i64 Na,.int .i64 Ka,(.slice Lb Fa.length Fb)] 45 (0,0)))∧ga (Below w.heap.size w w'))
    case atStart=>exact ⟨((-1)),(0),(by first|rfl|(simp;done)|(simp [*];done)),(by first|rfl|(simp;done)|(simp [*];done)),H',⟨Nat.le_refl _⟩,⟨by (with_reducible repeat (first|apply Kd.Va|apply Kd.Ua|apply Kd.jb));exact qc.out⟩,⟨by (with_reducible repeat (first|apply Kd.Ic|apply Kd.Gc|apply Kd.yd));exact ec.out⟩,⟨by (with_reducible repeat (first|refine Ca ?_ _|refine Ea ?_|refine Da ?_ _));exact ta.out⟩,⟨by repeat (first|(with_reducible first|exact HB.out|apply oa|apply ia|apply qa|refine ua ?_ Sa.out)|exact HB.out)⟩⟩
    case round =>
     clear H'
     try clear p2
     try clear c3
     try clear c8
     try clear VC
     try clear Zl
     try clear Yl
     try clear Xl
     try clear Wl
     try clear Vl
     try clear Ul
     try clear Tl
     try clear Sl
     try clear Rl
     try clear Ql
     try clear p2
     (try clear HA);(try clear Pj);(try clear qc);(try clear ec);(try clear ta);(try clear HB);obtain ⟨fh,Jc,rfl,rfl,HA,Pj,qc,ec,ta,HB⟩:=hrel;cases gk with
     | zero=>exact absurd HA.out (by simp [qd.l1])
     | succ k2 =>
      have H:=HA.out;clear HA;simp only [qd.l1] at H
      by_cases cT:0 ≤ Aa
      ·rw [if_pos cT] at H;have hav:decide (0 ≤ Aa)=true:=decide_eq_true cT;clear cT
       by_cases uJ:Aa < (t105.length:Int)
       ·rw [if_pos uJ] at H;have NI:decide (Aa < (t105.length:Int))=true:=decide_eq_true uJ;clear uJ
        by_cases Fq:Jc < ((Vb t105 Aa).length:Int)
        ·rw [if_pos Fq] at H;have Lv:decide (Jc < ((Vb t105 Aa).length:Int))=true:=decide_eq_true Fq;clear Fq
         by_cases Yt:0 ≤ Jc
         ·rw [if_pos Yt] at H;have Kv:decide (0 ≤ Jc)=true:=decide_eq_true Yt;clear Yt
          by_cases Bs:(rd (Vb t105 Aa) Jc)=Aa
          ·rw [if_pos Bs] at H;have Jv:((rd (Vb t105 Aa) Jc) == Aa)=true:=beq_iff_eq.mpr Bs;have dS:((rd (Vb t105 Aa) Jc) != Aa)=false:=bne_eq_false_iff_eq.mpr Bs;clear Bs;have H':=ga.mk H;clear H;have Qk:0 ≤ (Aa:Int):=of_decide_eq_true (by first|(with_reducible assumption)|assumption);have Pk:Aa < (t105.length:Int):=of_decide_eq_true (by first|(with_reducible assumption)|assumption);obtain ⟨Zn,cH,FG,WB,Ei,Hj,Ij⟩:=xk (Kd.od ec.out).2.2 Aa Qk Pk;cases WB;obtain ⟨CN,Vr,Xr,gm⟩:=Kd.Cm ec.out [] Aa Qk (by first|exact Pk|exact of_decide_eq_true (by first|(with_reducible assumption)|assumption)|(have e_:=(Kd.od ec.out).1;omega));obtain ⟨Uz,rfl,Eh⟩:=Xr;have Tf:=gm 0 _ rfl;rw [Nat.add_zero,show ((Kd.slice 3 (Kd.int .i64))).sz=1 from rfl,Nat.mul_one] at Tf;replace Tf:=Option.some.inj (Tf.symm.trans Ei);rw [Tf] at Eh;have sk:=ga.mk (show Kd.R (Kd.int .i64) 3 _ _ _ _ (Vb t105 Aa) from Eh);clear Tf Eh gm Vr;have ZA:=ga.mk Ij;have cB:=ga.mk Hj;clear Ij Hj;replace Qk:=eq_true Qk;replace Pk:=eq_true Pk;have yj:0 ≤ (Aa:Int):=of_decide_eq_true (by first|(with_reducible assumption)|assumption);have wj:Aa < (t105.length:Int):=of_decide_eq_true (by first|(with_reducible assumption)|assumption);obtain ⟨Gg,cu,mw,iw,Lg,Og,Pg⟩:=xk (Kd.od ec.out).2.2 Aa yj wj;obtain rfl:Zn=Gg:=(by injection iw);obtain ⟨BN,Ur,Wr,dm⟩:=Kd.Cm ec.out [] Aa yj (by first|exact wj|exact of_decide_eq_true (by first|(with_reducible assumption)|assumption)|(have e_:=(Kd.od ec.out).1;omega));obtain ⟨Tz,rfl,Dh⟩:=Wr;have Rf:=dm 0 _ rfl;rw [Nat.add_zero,show ((Kd.slice 3 (Kd.int .i64))).sz=1 from rfl,Nat.mul_one] at Rf;replace Rf:=Option.some.inj (Rf.symm.trans Lg);rw [Rf] at Dh;have bB:=ga.mk (show Kd.R (Kd.int .i64) 3 _ _ _ _ (Vb t105 Aa) from Dh);clear Rf Dh dm Ur;have cg:=ga.mk Pg;have Ls:=ga.mk Og;clear Pg Og;replace yj:=eq_true yj;replace wj:=eq_true wj;have Si:=Option.some.inj (Ei.symm.trans Lg);injection Si with Si nv ov
           subst Si;subst ov;clear nv;have Uj:0 ≤ (Jc:Int):=of_decide_eq_true (by first|(with_reducible assumption)|assumption);have Tj:Jc < ((Vb t105 Aa).length:Int):=of_decide_eq_true (by first|(with_reducible assumption)|assumption);obtain ⟨Mv,Vt,Rg⟩:=Kd.Te (by repeat (first|(with_reducible exact cg.out)|(with_reducible refine Kd.Ub ?_ _)|(with_reducible refine Kd.Tb ?_ _)|(with_reducible refine Kd.mc ?_)|exact cg.out)) Jc Uj Tj;cases Vt;replace Uj:=eq_true Uj;replace Tj:=eq_true Tj;go_wp2
           repeat (go_quiet (fail);try go_wp2)
           go_roundg k2
           case measure=>have:=uf.out;have:=Pj.out;omega
           case rel=>exact ⟨(fh),(wrap64 (Jc + 1)),(by first|rfl|(simp;done)|(simp [*];done)),(by first|rfl|(simp;done)|(simp [*];done)),H',⟨by have:=uf.out;have:=Pj.out;omega⟩,⟨by (with_reducible repeat (first|apply Kd.Va|apply Kd.Ua|apply Kd.jb));exact qc.out⟩,⟨by (with_reducible repeat (first|apply Kd.Ic|apply Kd.Gc|apply Kd.yd));exact ec.out⟩,⟨by (with_reducible repeat (first|refine Ca ?_ _|refine Ea ?_|refine Da ?_ _));exact ta.out⟩,⟨by repeat (first|(with_reducible first|exact HB.out|apply oa|apply ia|apply qa|refine ua ?_ Sa.out)|exact HB.out)⟩⟩
          ·rw [if_neg Bs] at H;have Jv:((rd (Vb t105 Aa) Jc) == Aa)=false:=beq_eq_false_iff_ne.mpr Bs;have dS:((rd (Vb t105 Aa) Jc) != Aa)=true:=bne_iff_ne.mpr Bs
           by_cases Qz:fh < 0
           ·rw [if_pos Qz] at H;have yD:decide (fh < 0)=true:=decide_eq_true Qz;clear Qz;have H':=ga.mk H;clear H;have Qk:0 ≤ (Aa:Int):=of_decide_eq_true (by first|(with_reducible assumption)|assumption);have Pk:Aa < (t105.length:Int):=of_decide_eq_true (by first|(with_reducible assumption)|assumption);obtain ⟨Zn,cH,FG,WB,Ei,Hj,Ij⟩:=xk (Kd.od ec.out).2.2 Aa Qk Pk;cases WB;obtain ⟨CN,Vr,Xr,gm⟩:=Kd.Cm ec.out [] Aa Qk (by first|exact Pk|exact of_decide_eq_true (by first|(with_reducible assumption)|assumption)|(have e_:=(Kd.od ec.out).1;omega));obtain ⟨Uz,rfl,Eh⟩:=Xr;have Tf:=gm 0 _ rfl;rw [Nat.add_zero,show ((Kd.slice 3 (Kd.int .i64))).sz=1 from rfl,Nat.mul_one] at Tf;replace Tf:=Option.some.inj (Tf.symm.trans Ei);rw [Tf] at Eh;have sk:=ga.mk (show Kd.R (Kd.int .i64) 3 _ _ _ _ (Vb t105 Aa) from Eh);clear Tf Eh gm Vr;have ZA:=ga.mk Ij;have cB:=ga.mk Hj;clear Ij Hj;replace Qk:=eq_true Qk;replace Pk:=eq_true Pk;have yj:0 ≤ (Aa:Int):=of_decide_eq_true (by first|(with_reducible assumption)|assumption);have wj:Aa < (t105.length:Int):=of_decide_eq_true (by first|(with_reducible assumption)|assumption);obtain ⟨Gg,cu,mw,iw,Lg,Og,Pg⟩:=xk (Kd.od ec.out).2.2 Aa yj wj;obtain rfl:Zn=Gg:=(by injection iw);obtain ⟨BN,Ur,Wr,dm⟩:=Kd.Cm ec.out [] Aa yj (by first|exact wj|exact of_decide_eq_true (by first|(with_reducible assumption)|assumption)|(have e_:=(Kd.od ec.out).1;omega));obtain ⟨Tz,rfl,Dh⟩:=Wr;have Rf:=dm 0 _ rfl;rw [Nat.add_zero,show ((Kd.slice 3 (Kd.int .i64))).sz=1 from rfl,Nat.mul_one] at Rf;replace Rf:=Option.some.inj (Rf.symm.trans Lg);rw [Rf] at Dh;have bB:=ga.mk (show Kd.R (Kd.int .i64) 3 _ _ _ _ (Vb t105 Aa) from Dh);clear Rf Dh dm Ur;have cg:=ga.mk Pg;have Ls:=ga.mk Og;clear Pg Og;replace yj:=eq_true yj;replace wj:=eq_true wj;have Si:=Option.some.inj (Ei.symm.trans Lg);injection Si with Si nv ov
            subst Si;subst ov;clear nv;have Uj:0 ≤ (Jc:Int):=of_decide_eq_true (by first|(with_reducible assumption)|assumption);have Tj:Jc < ((Vb t105 Aa).length:Int):=of_decide_eq_true (by first|(with_reducible assumption)|assumption);obtain ⟨Mv,Vt,Rg⟩:=Kd.Te (by repeat (first|(with_reducible exact cg.out)|(with_reducible refine Kd.Ub ?_ _)|(with_reducible refine Kd.Tb ?_ _)|(with_reducible refine Kd.mc ?_)|exact cg.out)) Jc Uj Tj;cases Vt;replace Uj:=eq_true Uj;replace Tj:=eq_true Tj;go_wp2
            repeat (go_quiet (fail);try go_wp2)
            go_roundg k2
            case measure=>have:=uf.out;have:=Pj.out;omega
            case rel=>exact ⟨(rd (Vb t105 Aa) Jc),(wrap64 (Jc + 1)),(by first|rfl|(simp;done)|(simp [*];done)),(by first|rfl|(simp;done)|(simp [*];done)),H',⟨by have:=uf.out;have:=Pj.out;omega⟩,⟨by (with_reducible repeat (first|apply Kd.Va|apply Kd.Ua|apply Kd.jb));exact qc.out⟩,⟨by (with_reducible repeat (first|apply Kd.Ic|apply Kd.Gc|apply Kd.yd));exact ec.out⟩,⟨by (with_reducible repeat (first|refine Ca ?_ _|refine Ea ?_|refine Da ?_ _));exact ta.out⟩,⟨by repeat (first|(with_reducible first|exact HB.out|apply oa|apply ia|apply qa|refine ua ?_ Sa.out)|exact HB.out)⟩⟩
           ·rw [if_neg Qz] at H;have yD:decide (fh < 0)=false:=decide_eq_false Qz;clear Qz
            by_cases jt:0 ≤ (rd (Vb t105 Aa) Jc)
            ·rw [if_pos jt] at H;have cC:decide (0 ≤ (rd (Vb t105 Aa) Jc))=true:=decide_eq_true jt;clear jt
             by_cases Xu:(rd (Vb t105 Aa) Jc) < (t105.length:Int)
             ·rw [if_pos Xu] at H;have Xt:decide ((rd (Vb t105 Aa) Jc) < (t105.length:Int))=true:=decide_eq_true Xu;clear Xu
              by_cases Bp:0 ≤ fh
              ·rw [if_pos Bp] at H;have vn:decide (0 ≤ fh)=true:=decide_eq_true Bp;clear Bp
               by_cases xp:fh < (t105.length:Int)
               ·rw [if_pos xp] at H;have Iv:decide (fh < (t105.length:Int))=true:=decide_eq_true xp;clear xp
                by_cases Jq:((Vb t105 (rd (Vb t105 Aa) Jc)).length:Int) > ((Vb t105 fh).length:Int)
                ·rw [if_pos Jq] at H;have wD:decide (((Vb t105 fh).length:Int) < ((Vb t105 (rd (Vb t105 Aa) Jc)).length:Int))=true:=decide_eq_true Jq;have Xac:decide ((Vb t105 fh).length < (Vb t105 (rd (Vb t105 Aa) Jc)).length)=true:=decide_eq_true (Int.ofNat_lt.mp Jq);clear Jq;have H':=ga.mk H;clear H;have Qk:0 ≤ (Aa:Int):=of_decide_eq_true (by first|(with_reducible assumption)|assumption);have Pk:Aa < (t105.length:Int):=of_decide_eq_true (by first|(with_reducible assumption)|assumption);obtain ⟨Zn,cH,FG,WB,Ei,Hj,Ij⟩:=xk (Kd.od ec.out).2.2 Aa Qk Pk;cases WB;obtain ⟨CN,Vr,Xr,gm⟩:=Kd.Cm ec.out [] Aa Qk (by first|exact Pk|exact of_decide_eq_true (by first|(with_reducible assumption)|assumption)|(have e_:=(Kd.od ec.out).1;omega));obtain ⟨Uz,rfl,Eh⟩:=Xr;have Tf:=gm 0 _ rfl;rw [Nat.add_zero,show ((Kd.slice 3 (Kd.int .i64))).sz=1 from rfl,Nat.mul_one] at Tf;replace Tf:=Option.some.inj (Tf.symm.trans Ei);rw [Tf] at Eh;have sk:=ga.mk (show Kd.R (Kd.int .i64) 3 _ _ _ _ (Vb t105 Aa) from Eh);clear Tf Eh gm Vr;have ZA:=ga.mk Ij;have cB:=ga.mk Hj;clear Ij Hj;replace Qk:=eq_true Qk;replace Pk:=eq_true Pk;have yj:0 ≤ (Aa:Int):=of_decide_eq_true (by first|(with_reducible assumption)|assumption);have wj:Aa < (t105.length:Int):=of_decide_eq_true (by first|(with_reducible assumption)|assumption);obtain ⟨Gg,cu,mw,iw,Lg,Og,Pg⟩:=xk (Kd.od ec.out).2.2 Aa yj wj;obtain rfl:Zn=Gg:=(by injection iw);obtain ⟨BN,Ur,Wr,dm⟩:=Kd.Cm ec.out [] Aa yj (by first|exact wj|exact of_decide_eq_true (by first|(with_reducible assumption)|assumption)|(have e_:=(Kd.od ec.out).1;omega));obtain ⟨Tz,rfl,Dh⟩:=Wr;have Rf:=dm 0 _ rfl;rw [Nat.add_zero,show ((Kd.slice 3 (Kd.int .i64))).sz=1 from rfl,Nat.mul_one] at Rf;replace Rf:=Option.some.inj (Rf.symm.trans Lg);rw [Rf] at Dh;have bB:=ga.mk (show Kd.R (Kd.int .i64) 3 _ _ _ _ (Vb t105 Aa) from Dh);clear Rf Dh dm Ur;have cg:=ga.mk Pg;have Ls:=ga.mk Og;clear Pg Og;replace yj:=eq_true yj;replace wj:=eq_true wj;have Si:=Option.some.inj (Ei.symm.trans Lg);injection Si with Si nv ov
                 subst Si;subst ov;clear nv;have Uj:0 ≤ (Jc:Int):=of_decide_eq_true (by first|(with_reducible assumption)|assumption);have Tj:Jc < ((Vb t105 Aa).length:Int):=of_decide_eq_true (by first|(with_reducible assumption)|assumption);obtain ⟨Mv,Vt,Rg⟩:=Kd.Te (by repeat (first|(with_reducible exact cg.out)|(with_reducible refine Kd.Ub ?_ _)|(with_reducible refine Kd.Tb ?_ _)|(with_reducible refine Kd.mc ?_)|exact cg.out)) Jc Uj Tj;cases Vt;replace Uj:=eq_true Uj;replace Tj:=eq_true Tj;have Gm:0 ≤ ((rd (Vb t105 Aa) Jc):Int):=of_decide_eq_true (by first|(with_reducible assumption)|assumption);have Fm:(rd (Vb t105 Aa) Jc) < (t105.length:Int):=of_decide_eq_true (by first|(with_reducible assumption)|assumption);obtain ⟨sq,iL,IK,VB,oo,Jl,Ml⟩:=xk (Kd.od ec.out).2.2 (rd (Vb t105 Aa) Jc) Gm Fm;obtain rfl:Zn=sq:=(by injection VB);obtain ⟨WR,bw,dw,Yo⟩:=Kd.Cm ec.out [] (rd (Vb t105 Aa) Jc) Gm (by first|exact Fm|exact of_decide_eq_true (by first|(with_reducible assumption)|assumption)|(have e_:=(Kd.od ec.out).1;omega));obtain ⟨QD,rfl,cj⟩:=dw;have Ng:=Yo 0 _ rfl;rw [Nat.add_zero,show ((Kd.slice 3 (Kd.int .i64))).sz=1 from rfl,Nat.mul_one] at Ng;replace Ng:=Option.some.inj (Ng.symm.trans oo);rw [Ng] at cj;have VG:=ga.mk (show Kd.R (Kd.int .i64) 3 _ _ _ _ (Vb t105 (rd (Vb t105 Aa) Jc)) from cj);clear Ng cj Yo bw;have RG:=ga.mk Ml;have XG:=ga.mk Jl;clear Ml Jl;replace Gm:=eq_true Gm;replace Fm:=eq_true Fm;have ir:0 ≤ (fh:Int):=of_decide_eq_true (by first|(with_reducible assumption)|assumption);have gr:fh < (t105.length:Int):=of_decide_eq_true (by first|(with_reducible assumption)|assumption);obtain ⟨SI,gL,GK,yK,nr,Il,Ll⟩:=xk (Kd.od ec.out).2.2 fh ir gr;obtain rfl:Zn=SI:=(by injection yK);obtain ⟨VR,Zv,cw,Xo⟩:=Kd.Cm ec.out [] fh ir (by first|exact gr|exact of_decide_eq_true (by first|(with_reducible assumption)|assumption)|(have e_:=(Kd.od ec.out).1;omega));obtain ⟨PD,rfl,aj⟩:=cw;have Mg:=Xo 0 _ rfl;rw [Nat.add_zero,show ((Kd.slice 3 (Kd.int .i64))).sz=1 from rfl,Nat.mul_one] at Mg;replace Mg:=Option.some.inj (Mg.symm.trans nr);rw [Mg] at aj;have av:=ga.mk (show Kd.R (Kd.int .i64) 3 _ _ _ _ (Vb t105 fh) from aj);clear Mg aj Xo Zv;have Js:=ga.mk Ll;have WG:=ga.mk Il;clear Ll Il;replace ir:=eq_true ir;replace gr:=eq_true gr;go_wp2
                 repeat (go_quiet (fail);try go_wp2)
                 go_roundg k2
                 case measure=>have:=uf.out;have:=Pj.out;omega
                 case rel=>exact ⟨(rd (Vb t105 Aa) Jc),(wrap64 (Jc + 1)),(by first|rfl|(simp;done)|(simp [*];done)),(by first|rfl|(simp;done)|(simp [*];done)),H',⟨by have:=uf.out;have:=Pj.out;omega⟩,⟨by (with_reducible repeat (first|apply Kd.Va|apply Kd.Ua|apply Kd.jb));exact qc.out⟩,⟨by (with_reducible repeat (first|apply Kd.Ic|apply Kd.Gc|apply Kd.yd));exact ec.out⟩,⟨by (with_reducible repeat (first|refine Ca ?_ _|refine Ea ?_|refine Da ?_ _));exact ta.out⟩,⟨by repeat (first|(with_reducible first|exact HB.out|apply oa|apply ia|apply qa|refine ua ?_ Sa.out)|exact HB.out)⟩⟩
                ·rw [if_neg Jq] at H;have wD:decide (((Vb t105 fh).length:Int) < ((Vb t105 (rd (Vb t105 Aa) Jc)).length:Int))=false:=decide_eq_false Jq;have Xac:decide ((Vb t105 fh).length < (Vb t105 (rd (Vb t105 Aa) Jc)).length)=false:=decide_eq_false (fun h=>Jq (Int.ofNat_lt.mpr h));clear Jq;have H':=ga.mk H;clear H;have Qk:0 ≤ (Aa:Int):=of_decide_eq_true (by first|(with_reducible assumption)|assumption);have Pk:Aa < (t105.length:Int):=of_decide_eq_true (by first|(with_reducible assumption)|assumption);obtain ⟨Zn,cH,FG,WB,Ei,Hj,Ij⟩:=xk (Kd.od ec.out).2.2 Aa Qk Pk;cases WB;obtain ⟨CN,Vr,Xr,gm⟩:=Kd.Cm ec.out [] Aa Qk (by first|exact Pk|exact of_decide_eq_true (by first|(with_reducible assumption)|assumption)|(have e_:=(Kd.od ec.out).1;omega));obtain ⟨Uz,rfl,Eh⟩:=Xr;have Tf:=gm 0 _ rfl;rw [Nat.add_zero,show ((Kd.slice 3 (Kd.int .i64))).sz=1 from rfl,Nat.mul_one] at Tf;replace Tf:=Option.some.inj (Tf.symm.trans Ei);rw [Tf] at Eh;have sk:=ga.mk (show Kd.R (Kd.int .i64) 3 _ _ _ _ (Vb t105 Aa) from Eh);clear Tf Eh gm Vr;have ZA:=ga.mk Ij;have cB:=ga.mk Hj;clear Ij Hj;replace Qk:=eq_true Qk;replace Pk:=eq_true Pk;have yj:0 ≤ (Aa:Int):=of_decide_eq_true (by first|(with_reducible assumption)|assumption);have wj:Aa < (t105.length:Int):=of_decide_eq_true (by first|(with_reducible assumption)|assumption);obtain ⟨Gg,cu,mw,iw,Lg,Og,Pg⟩:=xk (Kd.od ec.out).2.2 Aa yj wj;obtain rfl:Zn=Gg:=(by injection iw);obtain ⟨BN,Ur,Wr,dm⟩:=Kd.Cm ec.out [] Aa yj (by first|exact wj|exact of_decide_eq_true (by first|(with_reducible assumption)|assumption)|(have e_:=(Kd.od ec.out).1;omega));obtain ⟨Tz,rfl,Dh⟩:=Wr;have Rf:=dm 0 _ rfl;rw [Nat.add_zero,show ((Kd.slice 3 (Kd.int .i64))).sz=1 from rfl,Nat.mul_one] at Rf;replace Rf:=Option.some.inj (Rf.symm.trans Lg);rw [Rf] at Dh;have bB:=ga.mk (show Kd.R (Kd.int .i64) 3 _ _ _ _ (Vb t105 Aa) from Dh);clear Rf Dh dm Ur;have cg:=ga.mk Pg;have Ls:=ga.mk Og;clear Pg Og;replace yj:=eq_true yj;replace wj:=eq_true wj;have Si:=Option.some.inj (Ei.symm.trans Lg);injection Si with Si nv ov
                 subst Si;subst ov;clear nv;have Uj:0 ≤ (Jc:Int):=of_decide_eq_true (by first|(with_reducible assumption)|assumption);have Tj:Jc < ((Vb t105 Aa).length:Int):=of_decide_eq_true (by first|(with_reducible assumption)|assumption);obtain ⟨Mv,Vt,Rg⟩:=Kd.Te (by repeat (first|(with_reducible exact cg.out)|(with_reducible refine Kd.Ub ?_ _)|(with_reducible refine Kd.Tb ?_ _)|(with_reducible refine Kd.mc ?_)|exact cg.out)) Jc Uj Tj;cases Vt;replace Uj:=eq_true Uj;replace Tj:=eq_true Tj;have Gm:0 ≤ ((rd (Vb t105 Aa) Jc):Int):=of_decide_eq_true (by first|(with_reducible assumption)|assumption);have Fm:(rd (Vb t105 Aa) Jc) < (t105.length:Int):=of_decide_eq_true (by first|(with_reducible assumption)|assumption);obtain ⟨sq,iL,IK,VB,oo,Jl,Ml⟩:=xk (Kd.od ec.out).2.2 (rd (Vb t105 Aa) Jc) Gm Fm;obtain rfl:Zn=sq:=(by injection VB);obtain ⟨WR,bw,dw,Yo⟩:=Kd.Cm ec.out [] (rd (Vb t105 Aa) Jc) Gm (by first|exact Fm|exact of_decide_eq_true (by first|(with_reducible assumption)|assumption)|(have e_:=(Kd.od ec.out).1;omega));obtain ⟨QD,rfl,cj⟩:=dw;have Ng:=Yo 0 _ rfl;rw [Nat.add_zero,show ((Kd.slice 3 (Kd.int .i64))).sz=1 from rfl,Nat.mul_one] at Ng;replace Ng:=Option.some.inj (Ng.symm.trans oo);rw [Ng] at cj;have VG:=ga.mk (show Kd.R (Kd.int .i64) 3 _ _ _ _ (Vb t105 (rd (Vb t105 Aa) Jc)) from cj);clear Ng cj Yo bw;have RG:=ga.mk Ml;have XG:=ga.mk Jl;clear Ml Jl;replace Gm:=eq_true Gm;replace Fm:=eq_true Fm;have ir:0 ≤ (fh:Int):=of_decide_eq_true (by first|(with_reducible assumption)|assumption);have gr:fh < (t105.length:Int):=of_decide_eq_true (by first|(with_reducible assumption)|assumption);obtain ⟨SI,gL,GK,yK,nr,Il,Ll⟩:=xk (Kd.od ec.out).2.2 fh ir gr;obtain rfl:Zn=SI:=(by injection yK);obtain ⟨VR,Zv,cw,Xo⟩:=Kd.Cm ec.out [] fh ir (by first|exact gr|exact of_decide_eq_true (by first|(with_reducible assumption)|assumption)|(have e_:=(Kd.od ec.out).1;omega));obtain ⟨PD,rfl,aj⟩:=cw;have Mg:=Xo 0 _ rfl;rw [Nat.add_zero,show ((Kd.slice 3 (Kd.int .i64))).sz=1 from rfl,Nat.mul_one] at Mg;replace Mg:=Option.some.inj (Mg.symm.trans nr);rw [Mg] at aj;have av:=ga.mk (show Kd.R (Kd.int .i64) 3 _ _ _ _ (Vb t105 fh) from aj);clear Mg aj Xo Zv;have Js:=ga.mk Ll;have WG:=ga.mk Il;clear Ll Il;replace ir:=eq_true ir;replace gr:=eq_true gr;go_wp2
                 repeat (go_quiet (fail);try go_wp2)
                 go_roundg k2
                 case measure=>have:=uf.out;have:=Pj.out;omega
                 case rel=>exact ⟨(fh),(wrap64 (Jc + 1)),(by first|rfl|(simp;done)|(simp [*];done)),(by first|rfl|(simp;done)|(simp [*];done)),H',⟨by have:=uf.out;have:=Pj.out;omega⟩,⟨by (with_reducible repeat (first|apply Kd.Va|apply Kd.Ua|apply Kd.jb));exact qc.out⟩,⟨by (with_reducible repeat (first|apply Kd.Ic|apply Kd.Gc|apply Kd.yd));exact ec.out⟩,⟨by (with_reducible repeat (first|refine Ca ?_ _|refine Ea ?_|refine Da ?_ _));exact ta.out⟩,⟨by repeat (first|(with_reducible first|exact HB.out|apply oa|apply ia|apply qa|refine ua ?_ Sa.out)|exact HB.out)⟩⟩
               ·rw [if_neg xp] at H;exact absurd H (by simp)
              ·rw [if_neg Bp] at H;exact absurd H (by simp)
             ·rw [if_neg Xu] at H;exact absurd H (by simp)
            ·rw [if_neg jt] at H;exact absurd H (by simp)
         ·rw [if_neg Yt] at H;exact absurd H (by simp)
        ·rw [if_neg Fq] at H;have Lv:decide (Jc < ((Vb t105 Aa).length:Int))=false:=decide_eq_false Fq;clear Fq
         by_cases qt:Cc.length < 17592186044416
         ·rw [if_pos qt] at H;have yS:=ga.mk qt;clear qt;obtain ⟨Rv,Nt⟩:∃ y_:List Int,y_=(Cc ++ [fh]):=⟨_,rfl⟩;replace H:(qd.l0 k2 Rv t105 (wrap64 (Aa + 1)))=some r:=by first|(rw [Nt];with_reducible exact H)|(have Md:=(Option.bind_some _ _).symm.trans H;rw [Nt];with_reducible exact Md)|(have Md:=(Option.bind_some _ _).symm.trans H;with_reducible exact Md)|with_reducible exact H|(rw [Nt];exact H)|exact H
          have ED:=ga.mk Nt;clear Nt;have H':=ga.mk H;clear H;have Qk:0 ≤ (Aa:Int):=of_decide_eq_true (by first|(with_reducible assumption)|assumption);have Pk:Aa < (t105.length:Int):=of_decide_eq_true (by first|(with_reducible assumption)|assumption);obtain ⟨Zn,cH,FG,WB,Ei,Hj,Ij⟩:=xk (Kd.od ec.out).2.2 Aa Qk Pk;cases WB;obtain ⟨CN,Vr,Xr,gm⟩:=Kd.Cm ec.out [] Aa Qk (by first|exact Pk|exact of_decide_eq_true (by first|(with_reducible assumption)|assumption)|(have e_:=(Kd.od ec.out).1;omega));obtain ⟨Uz,rfl,Eh⟩:=Xr;have Tf:=gm 0 _ rfl;rw [Nat.add_zero,show ((Kd.slice 3 (Kd.int .i64))).sz=1 from rfl,Nat.mul_one] at Tf;replace Tf:=Option.some.inj (Tf.symm.trans Ei);rw [Tf] at Eh;have sk:=ga.mk (show Kd.R (Kd.int .i64) 3 _ _ _ _ (Vb t105 Aa) from Eh);clear Tf Eh gm Vr;have ZA:=ga.mk Ij;have cB:=ga.mk Hj;clear Ij Hj;replace Qk:=eq_true Qk;replace Pk:=eq_true Pk;go_wp2_with (first|((with_reducible refine lg (b:=.append) (xs:=#[.tmp 55,.tmp 57]) rfl ?_);(try (refine Me (by rfl) ?_;dsimp only));at_builtin;refine Kd.um (Kd.int .i64) (w0:=w) w.heap.size rfl (.tmp 55) (.tmp 57) 22 3 (.int .i64 0) 8 rfl Try.underlying22 info3 rfl (by decide) (by omega) u3 Cc fh [.int .i64 fh] (fun _=>True) (fun _=>False) rfl rfl ?aP (fun _ hk=>hk.elim) ?aF ?aO ?aB ?aS ?aL ?_;(case aP=>exact rfl);(case aB=>exact (by repeat (first|(with_reducible first|exact HB.out|apply oa|apply ia|apply qa|refine ua ?_ Sa.out)|exact HB.out)));(case aF=>exact (fun _ _=>trivial));(case aO=>exact (by (with_reducible repeat (first|apply Kd.Va|apply Kd.Ua|apply Kd.jb));exact qc.out));(case aS=>exact (Ja (by repeat (first|(with_reducible first|exact HB.out|apply oa|apply ia|apply qa|refine ua ?_ Sa.out)|exact HB.out))));(case aL=>have:=yS.out;omega);intro Yq oL ho hb hg hat;rw [← ED.out] at ho;have Eb:=ga.mk (Kd.Oo (ok:=(fun _=>True)) (by (with_reducible repeat (first|apply Kd.Ic|apply Kd.Gc|apply Kd.yd));exact Kd.Gf ec.out (fun _ hk=>⟨trivial,hk⟩)) hg hat);have Ib:=ga.mk (Kf (g:=za) (o:=.cells #[.slice qb Ma.length mb,.int .i64 La,.int .i64 Na,.int .i64 Ka,.slice Lb Fa.length Fb] 45 (0,0)) (by (with_reducible repeat (first|refine Ca ?_ _|refine Ea ?_|refine Da ?_ _));exact ta.out) hg (Kd.Rq qc.out ta.out (by decide)));have Sb:=ga.mk (Kd.Yg (ok:=(fun k_=>some k_ ≠ (.slice (some Zn) t105.length S4:Value).ownBlock)) (by (with_reducible repeat (first|apply Kd.Va|apply Kd.Ua|apply Kd.jb));exact Kd.Mc sk.out (fun _ hk=>⟨hk.2,hk.1⟩)) hg hat);have yc:=ga.mk (hb);have Ee:=ga.mk (ho);clear ec ta sk HB qc;have ec:=Eb;have ta:=Ib;have sk:=Sb;have HB:=yc;have yq:=Ee;clear Eb Ib Sb yc Ee ho hb hg hat))
          repeat (go_quiet (first|((with_reducible refine lg (b:=.append) (xs:=#[.tmp 55,.tmp 57]) rfl ?_);(try (refine Me (by rfl) ?_;dsimp only));at_builtin;refine Kd.um (Kd.int .i64) (w0:=w) w.heap.size rfl (.tmp 55) (.tmp 57) 22 3 (.int .i64 0) 8 rfl Try.underlying22 info3 rfl (by decide) (by omega) u3 Cc fh [.int .i64 fh] (fun _=>True) (fun _=>False) rfl rfl ?aP (fun _ hk=>hk.elim) ?aF ?aO ?aB ?aS ?aL ?_;(case aP=>exact rfl);(case aB=>exact (by repeat (first|(with_reducible first|exact HB.out|apply oa|apply ia|apply qa|refine ua ?_ Sa.out)|exact HB.out)));(case aF=>exact (fun _ _=>trivial));(case aO=>exact (by (with_reducible repeat (first|apply Kd.Va|apply Kd.Ua|apply Kd.jb));exact qc.out));(case aS=>exact (Ja (by repeat (first|(with_reducible first|exact HB.out|apply oa|apply ia|apply qa|refine ua ?_ Sa.out)|exact HB.out))));(case aL=>have:=yS.out;omega);intro Yq oL ho hb hg hat;rw [← ED.out] at ho;have Eb:=ga.mk (Kd.Oo (ok:=(fun _=>True)) (by (with_reducible repeat (first|apply Kd.Ic|apply Kd.Gc|apply Kd.yd));exact Kd.Gf ec.out (fun _ hk=>⟨trivial,hk⟩)) hg hat);have Ib:=ga.mk (Kf (g:=za) (o:=.cells #[.slice qb Ma.length mb,.int .i64 La,.int .i64 Na,.int .i64 Ka,.slice Lb Fa.length Fb] 45 (0,0)) (by (with_reducible repeat (first|refine Ca ?_ _|refine Ea ?_|refine Da ?_ _));exact ta.out) hg (Kd.Rq qc.out ta.out (by decide)));have Sb:=ga.mk (Kd.Yg (ok:=(fun k_=>some k_ ≠ (.slice (some Zn) t105.length S4:Value).ownBlock)) (by (with_reducible repeat (first|apply Kd.Va|apply Kd.Ua|apply Kd.jb));exact Kd.Mc sk.out (fun _ hk=>⟨hk.2,hk.1⟩)) hg hat);have yc:=ga.mk (hb);have Ee:=ga.mk (ho);clear ec ta sk HB qc;have ec:=Eb;have ta:=Ib;have sk:=Sb;have HB:=yc;have yq:=Ee;clear Eb Ib Sb yc Ee ho hb hg hat));try go_wp2_with (first|((with_reducible refine lg (b:=.append) (xs:=#[.tmp 55,.tmp 57]) rfl ?_);(try (refine Me (by rfl) ?_;dsimp only));at_builtin;refine Kd.um (Kd.int .i64) (w0:=w) w.heap.size rfl (.tmp 55) (.tmp 57) 22 3 (.int .i64 0) 8 rfl Try.underlying22 info3 rfl (by decide) (by omega) u3 Cc fh [.int .i64 fh] (fun _=>True) (fun _=>False) rfl rfl ?aP (fun _ hk=>hk.elim) ?aF ?aO ?aB ?aS ?aL ?_;(case aP=>exact rfl);(case aB=>exact (by repeat (first|(with_reducible first|exact HB.out|apply oa|apply ia|apply qa|refine ua ?_ Sa.out)|exact HB.out)));(case aF=>exact (fun _ _=>trivial));(case aO=>exact (by (with_reducible repeat (first|apply Kd.Va|apply Kd.Ua|apply Kd.jb));exact qc.out));(case aS=>exact (Ja (by repeat (first|(with_reducible first|exact HB.out|apply oa|apply ia|apply qa|refine ua ?_ Sa.out)|exact HB.out))));(case aL=>have:=yS.out;omega);intro Yq oL ho hb hg hat;rw [← ED.out] at ho;have Eb:=ga.mk (Kd.Oo (ok:=(fun _=>True)) (by (with_reducible repeat (first|apply Kd.Ic|apply Kd.Gc|apply Kd.yd));exact Kd.Gf ec.out (fun _ hk=>⟨trivial,hk⟩)) hg hat);have Ib:=ga.mk (Kf (g:=za) (o:=.cells #[.slice qb Ma.length mb,.int .i64 La,.int .i64 Na,.int .i64 Ka,.slice Lb Fa.length Fb] 45 (0,0)) (by (with_reducible repeat (first|refine Ca ?_ _|refine Ea ?_|refine Da ?_ _));exact ta.out) hg (Kd.Rq qc.out ta.out (by decide)));have Sb:=ga.mk (Kd.Yg (ok:=(fun k_=>some k_ ≠ (.slice (some Zn) t105.length S4:Value).ownBlock)) (by (with_reducible repeat (first|apply Kd.Va|apply Kd.Ua|apply Kd.jb));exact Kd.Mc sk.out (fun _ hk=>⟨hk.2,hk.1⟩)) hg hat);have yc:=ga.mk (hb);have Ee:=ga.mk (ho);clear ec ta sk HB qc;have ec:=Eb;have ta:=Ib;have sk:=Sb;have HB:=yc;have yq:=Ee;clear Eb Ib Sb yc Ee ho hb hg hat)))
          go_roundg k2
          case measure=>have:=uf.out;have:=Pj.out;omega
          case rel=>exact ⟨(Rv),(wrap64 (Aa + 1)),(by first|rfl|(simp;done)|(simp [*];done)),H',⟨by have:=uf.out;have:=Pj.out;omega⟩,⟨by (with_reducible repeat (first|apply Kd.Va|apply Kd.Ua|apply Kd.jb));exact yq.out⟩,⟨by (with_reducible repeat (first|apply Kd.Ic|apply Kd.Gc|apply Kd.yd));exact Kd.Gf ec.out (fun _ hk=>hk.2)⟩,⟨by (with_reducible repeat (first|refine Ca ?_ _|refine Ea ?_|refine Da ?_ _));exact ta.out⟩,⟨by repeat (first|(with_reducible first|exact HB.out|apply oa|apply ia|apply qa|refine ua ?_ Sa.out)|exact HB.out)⟩⟩
         ·rw [if_neg qt] at H;exact absurd H (by simp)
       ·rw [if_neg uJ] at H;exact absurd H (by simp)
      ·rw [if_neg cT] at H;exact absurd H (by simp)
   ·rw [if_neg c8] at H;have VC:decide (Aa < (t105.length:Int))=false:=decide_eq_false c8;clear c8;obtain rfl:=Option.some.inj H;obtain ⟨Waq,naq,K4⟩:=Kd.mm ec.out;subst K4;go_wp2
    repeat (go_quiet (fail);try go_wp2)
    go_ret;exact ⟨_,by first|rfl|(simp [Pa,Oa] <;> rfl)|(simp [*,Pa,Oa] <;> rfl),by (with_reducible repeat (first|apply Kd.Va|apply Kd.Ua|apply Kd.jb));exact qc.out,by repeat (first|(with_reducible first|exact HB.out|apply oa|apply ia|apply qa|refine ua ?_ Sa.out)|exact HB.out)⟩
def yh.f (a0:Int) (a1:Int) (a2:Int):Option (Bool):=if a0 ≥ a1 then (some (decide (a0 ≤ a2))) else (some false)
theorem yh.calls (a0:Int) (a1:Int) (a2:Int) (r:Bool) (w:World) (h:yh.f a0 a1 a2=some r) :
  Calls Try.prog 94 #[.int .i64 a0,.int .i64 a1,.int .i64 a2] w fun e w'=>e = .returned (.bool r)∧Nc w w':=by
 have H:(if a0 ≥ a1 then (some (decide (a0 ≤ a2))) else (some false))=some r:=h;clear h
 by_cases c4:a0 ≥ a1
 ·rw [if_pos c4] at H;have Dk:decide (a1 ≤ a0)=true:=decide_eq_true c4;clear c4;obtain rfl:=Option.some.inj H;go_enter Try.func94,Try.ntmps94;go_wp2;go_ret;exact ⟨by first|rfl|(simp;done)|(simp [*];done),by repeat (first|exact Nc.refl _|apply Nc.step)⟩
 ·rw [if_neg c4] at H;have Dk:decide (a1 ≤ a0)=false:=decide_eq_false c4;clear c4;obtain rfl:=Option.some.inj H;go_enter Try.func94,Try.ntmps94;go_wp2;go_ret;exact ⟨by first|rfl|(simp;done)|(simp [*];done),by repeat (first|exact Nc.refl _|apply Nc.step)⟩
theorem PY {W w1:World} (hb:Below W.heap.size W w1):(∀ b o,b < W.heap.size→w1.cell? ⟨b,o,none⟩=W.cell? ⟨b,o,none⟩)∧(∀ b o,b < W.heap.size→w1.frozen? ⟨b,o,none⟩=W.frozen? ⟨b,o,none⟩) :=
 ⟨fun b o h=>hb.cell (p:=⟨b,o,none⟩) h,fun b o h=>hb.frozen (p:=⟨b,o,none⟩) h⟩
theorem Gq {α:Type} {l:List α} {p:α→Bool} {k:Nat} {d:α} (hk:k < l.length) (h:(l.take k).any p=false) (hx:p (l.getD k d)=false):(l.take (k + 1)).any p=false:=by
 rw [List.take_succ_eq_append_getElem hk,List.any_append,h]
 simpa [List.getD_eq_getElem?_getD,List.getElem?_eq_getElem hk] using hx
theorem JN {α:Type} {l:List α} {p:α→Bool} {k:Nat} {d:α} (hk:k < l.length) (hx:p (l.getD k d)=true):l.any p=true:=by
 rw [List.any_eq_true];exact ⟨l[k],List.getElem_mem hk,by simpa [List.getD_eq_getElem?_getD,List.getElem?_eq_getElem hk] using hx⟩
theorem KC (g:Nat) (lb:Array Value) (p:jd→Bool) (eg:∀ args w,(callFunc g args).run Try.prog w = .ok (.enter g args) w) (A0:Option Addr) (c0:Nat) (l0:List jd) (w:World) (Zj:Kd.C Zf w A0 l0.length l0) (hc0:l0.length ≤ c0)
  (hp:∀ (W:World) (x:jd),Below w.heap.size w W→Calls Try.prog g (#[(.agg #[.int .i64 x.f0,.int .i64 x.f1,.int .i64 x.f2,.int .i64 x.f3,.int .i64 x.f4,.int .i64 x.f5,.string x.f6])] ++ lb) W fun e w'=>e = .returned (.bool (p x))∧Below W.heap.size W w') :
  Calls Try.prog 137 #[.slice A0 l0.length c0,.func (.func g) #[] lb] w fun e w'=>(∃ i:Int,e = .returned (.int .i64 i)∧decide (0 ≤ i)=l0.any p)∧Below w.heap.size w w':=by
 have F9:=Zj.2.1;have Dn:=ga.mk Zj;have bH:=ga.mk hc0;have HP:=ga.mk hp;clear Zj hc0 hp;go_enter Try.func137,Try.ntmps137;go_wp2
 go_loopg [5,8] l0.length (fun gg _ s8 wr=>∃ kk:Nat,kk ≤ l0.length∧l0.length - kk ≤ gg∧s8 = .int .i64 kk∧ga (Below w.heap.size w wr)∧ga ((l0.take kk).any p=false))
 case atStart=>exact ⟨0,Nat.zero_le _,by omega,rfl,⟨Below.refl _ w⟩,⟨by simp⟩⟩
 case round =>
  (try clear BW);(try clear HA);obtain ⟨kk,hkk,hg,rfl,BW,HA⟩:=hrel
  by_cases hlt:kk < l0.length
  ·have p1:0 ≤ (kk:Int):=by omega
   have q1:(kk:Int) < (l0.length:Int):=by omega
   obtain ⟨ad,e1,hx0,hx1,hx2,Nz,Hy,pP,fE⟩:=Ds Dn.out (kk:Int) p1 q1;cases e1;simp only [Int.toNat_natCast] at hx0 hx1 hx2 Nz Hy pP fE;replace hx0:=(BW.out.cell (World.block_lt_of_cell? w _ hx0)).trans hx0;replace hx1:=(BW.out.cell (World.block_lt_of_cell? w _ hx1)).trans hx1;replace hx2:=(BW.out.cell (World.block_lt_of_cell? w _ hx2)).trans hx2;replace Nz:=(BW.out.cell (World.block_lt_of_cell? w _ Nz)).trans Nz;replace Hy:=(BW.out.cell (World.block_lt_of_cell? w _ Hy)).trans Hy;replace pP:=(BW.out.cell (World.block_lt_of_cell? w _ pP)).trans pP;replace fE:=(BW.out.cell (World.block_lt_of_cell? w _ fE)).trans fE;have hcall:=HP.out wr (Ba l0 (kk:Int)) BW.out;cases hq:p (Ba l0 (kk:Int)) with
   | true =>
    rw [hq] at hcall;go_wp2_with (go_at_fn g;refine hcall.mono ?_;rintro e w1 ⟨rfl,Wq⟩);go_ret;exact ⟨⟨_,rfl,by rw [JN (d:=bk) hlt hq];simp⟩,BW.out.trans (Wq.mono BW.out.size)⟩
   | false =>
    rw [hq] at hcall;go_wp2_with (go_at_fn g;refine hcall.mono ?_;rintro e w1 ⟨rfl,Wq⟩)
    go_roundg (l0.length - (kk + 1))
    case measure=>omega
    case rel=>exact ⟨kk + 1,by omega,by omega,by go_num,⟨BW.out.trans (Wq.mono BW.out.size)⟩,⟨Gq (d:=bk) hlt HA.out hq⟩⟩
  ·have E2:¬ (kk:Int) < (l0.length:Int):=by omega
   have he:kk=l0.length:=by omega
   subst he;go_wp2;go_ret;exact ⟨⟨_,rfl,by have h_:=HA.out;rw [List.take_length] at h_;rw [h_];simp⟩,BW.out⟩
theorem jw (g:Nat) (lb:Array Value) (p:jd→Bool) (eg:∀ args w,(callFunc g args).run Try.prog w = .ok (.enter g args) w) (A0:Option Addr) (c0:Nat) (l0:List jd) (w:World) (Zj:Kd.C Zf w A0 l0.length l0) (hc0:l0.length ≤ c0)
  (hp:∀ (W:World) (x:jd),Below w.heap.size w W→Calls Try.prog g (#[(.agg #[.int .i64 x.f0,.int .i64 x.f1,.int .i64 x.f2,.int .i64 x.f3,.int .i64 x.f4,.int .i64 x.f5,.string x.f6])] ++ lb) W fun e w'=>e = .returned (.bool (p x))∧Below W.heap.size W w') :
  Calls Try.prog 123 #[.slice A0 l0.length c0,.func (.func g) #[] lb] w fun e w'=>e = .returned (.bool (l0.any p))∧Below w.heap.size w w':=by
 have HI:=ga.mk (KC g lb p eg A0 c0 l0 w Zj hc0 hp);clear Zj hc0 hp;go_enter Try.func123,Try.ntmps123;go_wp2_with (go_at_call 137;refine HI.out.mono ?_;rintro e w1 ⟨⟨i,rfl,hi⟩,Wq⟩;have HD:=ga.mk hi;clear hi);go_ret;exact ⟨by rw [← HD.out];first|rfl|simp,Wq⟩
def Bb.l0:Nat→List ByteArray→ByteArray→Int→Int→Option (Int)
 | 0,_,_,_,_=>none
 | k + 1,x0,x1,x7,x8=>if x8 < x7 then (if 0 ≤ x8 then (if x8 < (x0.length:Int) then (if x1.toList=(Eg ByteArray.empty x0 x8).toList then (some x8) else (Bb.l0 k x0 x1 x7 (wrap64 (x8 + 1)))) else (none)) else (none)) else (some (-1))
def Bb.f (k:Nat) (l0:List ByteArray) (a1:ByteArray):Option (Int):=Bb.l0 k l0 a1 (l0.length:Int) 0
theorem Bb.Ht:∀ k,(∀ y0 y1 y2 y3,Oi (Bb.l0 k y0 y1 y2 y3) (Bb.l0 (k + 1) y0 y1 y2 y3))
 | 0=>fun _ _ _ _ r h=>by simp [Bb.l0] at h
 | k + 1=>by
  have BH:=Bb.Ht k
  ·intro y0 y1 y2 y3;unfold Bb.l0
   repeat' first
   | (with_reducible exact BH _ _ _ _)
   | (with_reducible exact Oi.refl _)
   | (with_reducible exact Oi.none _)
   | (with_reducible refine Oi.ite ?_ ?_)
   | (with_reducible refine Oi.bind ?_ (fun _=>?_))
   | exact BH _ _ _ _
   | exact Oi.none _
   | refine Oi.ite ?_ ?_
   | refine Oi.bind ?_ (fun _=>?_)
theorem Bb.mono:∀ a0 a1 k,Oi (Bb.f k a0 a1) (Bb.f (k + 1) a0 a1):=by
 intro a0 a1 k;have BH:=Bb.Ht k;unfold Bb.f
 repeat' first
   | (with_reducible exact BH _ _ _ _)
   | (with_reducible exact Oi.refl _)
   | (with_reducible exact Oi.none _)
   | (with_reducible refine Oi.ite ?_ ?_)
   | (with_reducible refine Oi.bind ?_ (fun _=>?_))
   | exact BH _ _ _ _
   | exact Oi.none _
   | refine Oi.ite ?_ ?_
   | refine Oi.bind ?_ (fun _=>?_)
theorem Bb.calls (k:Nat) (A0:Option Addr) (c0:Nat) (l0:List ByteArray) (a1:ByteArray) (r:Int) (w:World) (Zj:Kd.C Kd.string w A0 l0.length l0) (hc0:l0.length ≤ c0) (h:Bb.f k l0 a1=some r) :
  Calls Try.prog 161 #[.slice A0 l0.length c0,.string a1] w fun e w'=>e = .returned (.int .i64 r)∧Nc w w':=by
 have Dn:=ga.mk Zj;have bH:=ga.mk hc0;clear Zj hc0;have H:(Bb.l0 k l0 a1 (l0.length:Int) 0)=some r:=h;clear h;have H':=ga.mk H;clear H;go_enter Try.func161,Try.ntmps161;go_wp2
 go_loopg [8] k (fun kq v8 w'=>∃ (ye:Int),v8 = .int .i64 ye∧ga (Bb.l0 kq l0 a1 (l0.length:Int) ye=some r)∧ga (kq ≤ k)∧Nc w w')
 case atStart=>exact ⟨(0),(by first|rfl|(simp;done)|(simp [*];done)),H',⟨Nat.le_refl _⟩,by repeat (first|exact Nc.refl _|apply Nc.step)⟩
 case round =>
  clear H'
  try clear c1
  try clear p2
  (try clear HA);(try clear uf);obtain ⟨ye,rfl,HA,uf,⟨m1,rfl⟩⟩:=hrel;cases gk with
  | zero=>exact absurd HA.out (by simp [Bb.l0])
  | succ k1 =>
   have H:=HA.out;clear HA;simp only [Bb.l0] at H
   by_cases c3:ye < (l0.length:Int)
   ·rw [if_pos c3] at H;have dh:decide (ye < (l0.length:Int))=true:=decide_eq_true c3;clear c3
    by_cases c4:0 ≤ ye
    ·rw [if_pos c4] at H;have Dk:decide (0 ≤ ye)=true:=decide_eq_true c4;clear c4
     by_cases c5:ye < (l0.length:Int)
     ·rw [if_pos c5] at H;have qn:decide (ye < (l0.length:Int))=true:=decide_eq_true c5;clear c5
      by_cases c6:a1.toList=(Eg ByteArray.empty l0 ye).toList
      ·rw [if_pos c6] at H;have bp:(a1.toList == (Eg ByteArray.empty l0 ye).toList)=true:=beq_iff_eq.mpr c6;have CG:(a1.toList != (Eg ByteArray.empty l0 ye).toList)=false:=bne_eq_false_iff_eq.mpr c6;clear c6;obtain rfl:=Option.some.inj H;have Nf:0 ≤ (ye:Int):=of_decide_eq_true (by first|(with_reducible assumption)|assumption);have Mf:ye < (l0.length:Int):=of_decide_eq_true (by first|(with_reducible assumption)|assumption);obtain ⟨Ge,Aj,Ud⟩:=Kd.Yu Dn.out ye Nf Mf;cases Aj;replace Nf:=eq_true Nf;replace Mf:=eq_true Mf;go_wp2;go_ret;exact ⟨by first|rfl|(simp;done)|(simp [*];done),by repeat (first|exact Nc.refl _|apply Nc.step)⟩
      ·rw [if_neg c6] at H;have bp:(a1.toList == (Eg ByteArray.empty l0 ye).toList)=false:=beq_eq_false_iff_ne.mpr c6;have CG:(a1.toList != (Eg ByteArray.empty l0 ye).toList)=true:=bne_iff_ne.mpr c6;have H':=ga.mk H;clear H;have Nf:0 ≤ (ye:Int):=of_decide_eq_true (by first|(with_reducible assumption)|assumption);have Mf:ye < (l0.length:Int):=of_decide_eq_true (by first|(with_reducible assumption)|assumption);obtain ⟨Ge,Aj,Ud⟩:=Kd.Yu Dn.out ye Nf Mf;cases Aj;replace Nf:=eq_true Nf;replace Mf:=eq_true Mf;go_wp2
       go_roundg k1
       case measure=>have:=uf.out;omega
       case rel=>exact ⟨(wrap64 (ye + 1)),(by first|rfl|(simp;done)|(simp [*];done)),H',⟨by have:=uf.out;omega⟩,by repeat (first|exact Nc.refl _|apply Nc.step)⟩
     ·rw [if_neg c5] at H;exact absurd H (by simp)
    ·rw [if_neg c4] at H;exact absurd H (by simp)
   ·rw [if_neg c3] at H;have dh:decide (ye < (l0.length:Int))=false:=decide_eq_false c3;clear c3;obtain rfl:=Option.some.inj H;go_wp2;go_ret;exact ⟨by first|rfl|(simp;done)|(simp [*];done),by repeat (first|exact Nc.refl _|apply Nc.step)⟩
def Tc.f (k:Nat) (l0:List ByteArray) (a1:ByteArray):Option (Bool):=(Bb.f k l0 a1).bind fun t101=>(some (decide (t101 ≥ 0)))
theorem Tc.mono:∀ a0 a1 k,Oi (Tc.f k a0 a1) (Tc.f (k + 1) a0 a1):=by
 intro a0 a1 k;unfold Tc.f
 repeat' first
   | (with_reducible exact Bb.mono _ _ _)
   | (with_reducible exact Oi.refl _)
   | (with_reducible exact Oi.none _)
   | (with_reducible refine Oi.ite ?_ ?_)
   | (with_reducible refine Oi.bind ?_ (fun _=>?_))
   | exact Bb.mono _ _ _
   | exact Oi.none _
   | refine Oi.ite ?_ ?_
   | refine Oi.bind ?_ (fun _=>?_)
theorem Tc.calls (k:Nat) (A0:Option Addr) (c0:Nat) (l0:List ByteArray) (a1:ByteArray) (r:Bool) (w:World) (Zj:Kd.C Kd.string w A0 l0.length l0) (hc0:l0.length ≤ c0) (h:Tc.f k l0 a1=some r) :
  Calls Try.prog 154 #[.slice A0 l0.length c0,.string a1] w fun e w'=>e = .returned (.bool r)∧Nc w w':=by
 have Dn:=ga.mk Zj;have bH:=ga.mk hc0;clear Zj hc0;have H:((Bb.f k l0 a1).bind fun t101=>(some (decide (t101 ≥ 0))))=some r:=h;clear h;replace H:=Option.bind_eq_some_iff.mp H;obtain ⟨t101,sC,H⟩:=H;replace H:(some (decide (t101 ≥ 0)))=some r:=H;have A3:=ga.mk sC;clear sC;obtain rfl:=Option.some.inj H;go_enter Try.func154,Try.ntmps154;go_wp2_with (first|((with_reducible refine zb (f:=161) rfl ?_);refine Pc (some 7) rfl rfl Try.func161 (by kernel_rfl) rfl #[.slice A0 l0.length c0,.string a1] rfl (by (try simp only [List.map_toArray,List.map_cons,List.map_nil]);first|done|rfl|(simp only [List.length_drop,List.length_take];rfl)) ?_;(with_reducible refine (Bb.calls k _ _ l0 a1 t101 _ ?Fc ?Ec A3.out).mono ?_);(case Fc=>repeat (first|exact Dn.out|(with_reducible refine Kd.Ub ?_ _)|(with_reducible refine Kd.Tb ?_ _)|(with_reducible refine Kd.mc ?_)));(case Ec=>exact bH.out);rintro e w' ⟨rfl,⟨nd,rfl⟩⟩;refine ⟨_,rfl,?_⟩));go_ret;exact ⟨by first|rfl|(simp;done)|(simp [*];done),by repeat (first|exact Nc.refl _|apply Nc.step)⟩
def Ym.f (k:Nat) (a0:ByteArray):Option (Bool):=(Tc.f k (([(⟨#[61,61]⟩:ByteArray),(⟨#[60]⟩:ByteArray),(⟨#[38]⟩:ByteArray),(⟨#[43]⟩:ByteArray),(⟨#[45]⟩:ByteArray),(⟨#[42]⟩:ByteArray)]:List ByteArray)) a0).bind fun t104=>(some t104)
theorem Ym.calls (k:Nat) (a0:ByteArray) (r:Bool) (w:World) (h:Ym.f k a0=some r) :
  Calls Try.prog 139 #[.string a0] w fun e w'=>e = .returned (.bool r)∧Below w.heap.size w w':=by
 have HB:=ga.mk (Below.refl w.heap.size w);have H:((Tc.f k (([(⟨#[61,61]⟩:ByteArray),(⟨#[60]⟩:ByteArray),(⟨#[38]⟩:ByteArray),(⟨#[43]⟩:ByteArray),(⟨#[45]⟩:ByteArray),(⟨#[42]⟩:ByteArray)]:List ByteArray)) a0).bind fun t104=>(some t104))=some r:=h;clear h;obtain ⟨Yf,ig⟩:∃ y_:List ByteArray,y_=(([(⟨#[61,61]⟩:ByteArray),(⟨#[60]⟩:ByteArray),(⟨#[38]⟩:ByteArray),(⟨#[43]⟩:ByteArray),(⟨#[45]⟩:ByteArray),(⟨#[42]⟩:ByteArray)]:List ByteArray)):=⟨_,rfl⟩;replace H:((Tc.f k Yf a0).bind fun t104=>(some t104))=some r:=by first|(rw [ig];with_reducible exact H)|(have Md:=(Option.bind_some _ _).symm.trans H;rw [ig];with_reducible exact Md)|(have Md:=(Option.bind_some _ _).symm.trans H;with_reducible exact Md)|with_reducible exact H|(rw [ig];exact H)|exact H
 have Fk:=ga.mk ig;clear ig;replace H:=Option.bind_eq_some_iff.mp H;obtain ⟨t104,zC,H⟩:=H;replace H:(some t104)=some r:=H;have A2:=ga.mk zC;clear zC;obtain rfl:=Option.some.inj H;go_enter Try.func139,Try.ntmps139;go_wp2_with (first|((with_reducible refine Ab (N:=3) rfl ?_);refine Kd.vk Kd.string _ 9 ?hg (N:=3) ?hd (xs:=([(⟨#[61,61]⟩:ByteArray),(⟨#[60]⟩:ByteArray),(⟨#[38]⟩:ByteArray),(⟨#[43]⟩:ByteArray),(⟨#[45]⟩:ByteArray),(⟨#[42]⟩:ByteArray)]:List ByteArray)) (inner:=[.string (⟨#[61,61]⟩:ByteArray),.string (⟨#[60]⟩:ByteArray),.string (⟨#[38]⟩:ByteArray),.string (⟨#[43]⟩:ByteArray),.string (⟨#[45]⟩:ByteArray),.string (⟨#[42]⟩:ByteArray)]) (ok:=fun _=>True) (Jh:=fun _=>True) ?hr ?hp (fun _ hk=>hk) trivial (Below.refl _ _) (Nat.le_refl _) (by simp) ?_;(case hd=>rfl);(case hg=>rfl);(case hr=>first|(go_simp;done)|(go_simp;rfl));(case hp=>exact (Sd.one (show Kd.M Kd.string _ _ _ (⟨#[61,61]⟩:ByteArray) [.string (⟨#[61,61]⟩:ByteArray)] from rfl) (Sd.one (show Kd.M Kd.string _ _ _ (⟨#[60]⟩:ByteArray) [.string (⟨#[60]⟩:ByteArray)] from rfl) (Sd.one (show Kd.M Kd.string _ _ _ (⟨#[38]⟩:ByteArray) [.string (⟨#[38]⟩:ByteArray)] from rfl) (Sd.one (show Kd.M Kd.string _ _ _ (⟨#[43]⟩:ByteArray) [.string (⟨#[43]⟩:ByteArray)] from rfl) (Sd.one (show Kd.M Kd.string _ _ _ (⟨#[45]⟩:ByteArray) [.string (⟨#[45]⟩:ByteArray)] from rfl) (Sd.one (show Kd.M Kd.string _ _ _ (⟨#[42]⟩:ByteArray) [.string (⟨#[42]⟩:ByteArray)] from rfl) (Sd.none _ _))))))));intro lH w3 MC hb Ol Re;clear Ol Re;(first|rw [← Fk.out] at MC|(simp only [Int.reduceToNat] at MC;rw [← Fk.out] at MC));have Eb:=ga.mk (Kd.Fe MC (Ja (by repeat (first|(with_reducible first|exact HB.out|apply oa|apply ia|apply qa)|exact HB.out))));have Ib:=ga.mk (Qa (by repeat (first|(with_reducible first|exact HB.out|apply oa|apply ia|apply qa)|exact HB.out)) hb);clear HB;have Vq:=Eb;have HB:=Ib;clear Eb Ib hb MC;obtain ⟨Ao5,co5,C4⟩:=Kd.Nd Vq.out;subst C4)|((with_reducible refine zb (f:=154) rfl ?_);refine Pc (some 5) rfl rfl Try.func154 (by kernel_rfl) rfl #[.slice Ao5 Yf.length co5,.string a0] rfl (by (try simp only [List.map_toArray,List.map_cons,List.map_nil]);first|done|rfl|(simp only [List.length_drop,List.length_take];rfl)) ?_;(with_reducible refine (Tc.calls k _ _ Yf a0 t104 _ ?Fc ?Ec A2.out).mono ?_);(case Fc=>repeat (first|exact (Kd.Jb Vq.out).2.2|(with_reducible refine Kd.Ub ?_ _)|(with_reducible refine Kd.Tb ?_ _)|(with_reducible refine Kd.mc ?_)));(case Ec=>exact (Kd.Jb Vq.out).2.1);rintro e w' ⟨rfl,⟨nd,rfl⟩⟩;refine ⟨_,rfl,?_⟩));go_ret;exact ⟨by first|rfl|(simp [Pa,Oa] <;> rfl)|(simp [*,Pa,Oa] <;> rfl),by repeat (first|(with_reducible first|exact HB.out|apply oa|apply ia|apply qa)|exact HB.out)⟩
theorem CH (g:Nat) (lb:Array Value) (p:Int→Bool) (eg:∀ args w,(callFunc g args).run Try.prog w = .ok (.enter g args) w) (A0:Option Addr) (c0:Nat) (l0:List Int) (w:World) (Zj:Kd.C (Kd.int .i64) w A0 l0.length l0) (hc0:l0.length ≤ c0)
  (hp:∀ (W:World) (x:Int),Below w.heap.size w W→Calls Try.prog g (#[(.int .i64 x)] ++ lb) W fun e w'=>e = .returned (.bool (p x))∧Below W.heap.size W w') :
  Calls Try.prog 105 #[.slice A0 l0.length c0,.func (.func g) #[] lb] w fun e w'=>(∃ i:Int,e = .returned (.int .i64 i)∧decide (0 ≤ i)=l0.any p)∧Below w.heap.size w w':=by
 have F9:=Zj.2.1;have Dn:=ga.mk Zj;have bH:=ga.mk hc0;have HP:=ga.mk hp;clear Zj hc0 hp;go_enter Try.func105,Try.ntmps105;go_wp2
 go_loopg [5,8] l0.length (fun gg _ s8 wr=>∃ kk:Nat,kk ≤ l0.length∧l0.length - kk ≤ gg∧s8 = .int .i64 kk∧ga (Below w.heap.size w wr)∧ga ((l0.take kk).any p=false))
 case atStart=>exact ⟨0,Nat.zero_le _,by omega,rfl,⟨Below.refl _ w⟩,⟨by simp⟩⟩
 case round =>
  (try clear BW);(try clear HA);obtain ⟨kk,hkk,hg,rfl,BW,HA⟩:=hrel
  by_cases hlt:kk < l0.length
  ·have p1:0 ≤ (kk:Int):=by omega
   have q1:(kk:Int) < (l0.length:Int):=by omega
   obtain ⟨ad,e1,hx0⟩:=Kd.Te Dn.out (kk:Int) p1 q1;cases e1;simp only [Int.toNat_natCast] at hx0;replace hx0:=(BW.out.cell (World.block_lt_of_cell? w _ hx0)).trans hx0;have hcall:=HP.out wr (rd l0 (kk:Int)) BW.out;cases hq:p (rd l0 (kk:Int)) with
   | true =>
    rw [hq] at hcall;go_wp2_with (go_at_fn g;refine hcall.mono ?_;rintro e w1 ⟨rfl,Wq⟩);go_ret;exact ⟨⟨_,rfl,by rw [JN (d:=0) hlt hq];simp⟩,BW.out.trans (Wq.mono BW.out.size)⟩
   | false =>
    rw [hq] at hcall;go_wp2_with (go_at_fn g;refine hcall.mono ?_;rintro e w1 ⟨rfl,Wq⟩)
    go_roundg (l0.length - (kk + 1))
    case measure=>omega
    case rel=>exact ⟨kk + 1,by omega,by omega,by go_num,⟨BW.out.trans (Wq.mono BW.out.size)⟩,⟨Gq (d:=0) hlt HA.out hq⟩⟩
  ·have E2:¬ (kk:Int) < (l0.length:Int):=by omega
   have he:kk=l0.length:=by omega
   subst he;go_wp2;go_ret;exact ⟨⟨_,rfl,by have h_:=HA.out;rw [List.take_length] at h_;rw [h_];simp⟩,BW.out⟩
theorem dz (g:Nat) (lb:Array Value) (p:Int→Bool) (eg:∀ args w,(callFunc g args).run Try.prog w = .ok (.enter g args) w) (A0:Option Addr) (c0:Nat) (l0:List Int) (w:World) (Zj:Kd.C (Kd.int .i64) w A0 l0.length l0) (hc0:l0.length ≤ c0)
  (hp:∀ (W:World) (x:Int),Below w.heap.size w W→Calls Try.prog g (#[(.int .i64 x)] ++ lb) W fun e w'=>e = .returned (.bool (p x))∧Below W.heap.size W w') :
  Calls Try.prog 115 #[.slice A0 l0.length c0,.func (.func g) #[] lb] w fun e w'=>e = .returned (.bool (l0.any p))∧Below w.heap.size w w':=by
 have HI:=ga.mk (CH g lb p eg A0 c0 l0 w Zj hc0 hp);clear Zj hc0 hp;go_enter Try.func115,Try.ntmps115;go_wp2_with (go_at_call 105;refine HI.out.mono ?_;rintro e w1 ⟨⟨i,rfl,hi⟩,Wq⟩;have HD:=ga.mk hi;clear hi);go_ret;exact ⟨by rw [← HD.out];first|rfl|simp,Wq⟩
def nk (a b c:Int):Bool:=decide (b ≤ a) && decide (a ≤ c)
theorem Rk (a b c:Int) (w:World):Calls Try.prog 94 #[.int .i64 a,.int .i64 b,.int .i64 c] w fun e w'=>e = .returned (.bool (nk a b c))∧Nc w w' :=
 yh.calls a b c (nk a b c) w (by
  unfold yh.f nk
  by_cases h:a ≥ b
  ·rw [if_pos h];have h':b ≤ a:=h;simp [h']
  ·rw [if_neg h];have h':¬ b ≤ a:=h
   simp [h'])
def Vv (l:List Int) (p v:Int):Bool:=nk (l.length:Int) 1 4 && !(l.any fun n=>!nk n 1 16) && nk p 0 (if v < 6 then v else 6) && decide (v ≤ 20)
theorem xH (W:World) (x:Int):Calls Try.prog 116 #[.int .i64 x] W fun e w'=>e = .returned (.bool (!nk x 1 16))∧Below W.heap.size W w':=by
 have HC:=ga.mk (Rk x 1 16);generalize nk x 1 16=b at HC ⊢;go_enter Try.func116,Try.ntmps116;go_wp2_with (go_at_call 94;refine (HC.out _).mono ?_;rintro e w1 ⟨rfl,Wq⟩;have HD:=ga.mk Wq.below;clear Wq);go_ret;exact ⟨rfl,HD.out⟩
theorem LG (p0 p1 p2 p3:Value) (A:Option Addr) (c:Nat) (w:World) :
  Calls Try.prog 117 #[.agg #[p0,p1,p2,p3],.slice A 0 c,.int .i64 0] w fun e w'=>e = .returned (.bool true)∧Below w.heap.size w w':=by
 go_enter Try.func117,Try.ntmps117;go_wp2
 go_loop [25] (fun i=>i = .int .i64 0) (fun _=>0)
 case atStart=>exact rfl
 case round =>
  obtain rfl:=hrel;go_wp2;go_ret;exact ⟨rfl,oa (oa (Below.refl _ _) _) _⟩
theorem JC (A0 A3:Option Addr) (c0 c3:Nat) (l0:List Int) (a1 a2:Int) (w:World) (Zj:Kd.C (Kd.int .i64) w A0 l0.length l0) (hc0:l0.length ≤ c0) :
  Calls Try.prog 93 #[.agg #[.slice A0 l0.length c0,.int .i64 a1,.int .i64 a2,.slice A3 0 c3]] w fun e w'=>e = .returned (.bool (Vv l0 a1 a2))∧Below w.heap.size w w':=by
 have eg:=enters_of Try.func116 (by kernel_rfl) rfl;have F9:=Zj.2.1;have W7:=ga.mk (Rk (l0.length:Int) 1 4);have EZ:=ga.mk (Rk a1 0 (if a2 < 6 then a2 else 6));have HF:=ga.mk (fun (W:World) (hb:Below w.heap.size w W)=>dz 116 #[] (fun n=>!nk n 1 16) eg A0 c0 l0 W (Kd.Nb Zj hb) hc0 (fun W x _=>xH W x));clear Zj hc0;unfold Vv
 by_cases h6:a2 < 6
 all_goals
  have hmin:min 6 a2=if a2 < 6 then a2 else 6:=by split <;> omega
  first|rw [if_pos h6] at EZ hmin ⊢|rw [if_neg h6] at EZ hmin ⊢
  cases Wq:nk (l0.length:Int) 1 4 with
  | false =>
   go_enter Try.func93,Try.ntmps93;go_wp2_with (first|(go_at_call 94;refine (Rk _ _ _ _).mono ?_;rintro e w1 ⟨rfl,⟨n,rfl⟩⟩));go_ret;exact ⟨rfl,ia (oa (Below.refl _ _) _) _⟩
  | true =>
   cases Qj:(l0.any fun n=>!nk n 1 16) with
   | true =>
    rw [Qj] at HF;go_enter Try.func93,Try.ntmps93;go_wp2_with (first|(go_at_call 94;refine (Rk _ _ _ _).mono ?_;rintro e w1 ⟨rfl,⟨n,rfl⟩⟩)|(go_at_call 115;refine (HF.out _ (ia (oa (Below.refl _ _) _) _)).mono ?_;rintro e w1 ⟨rfl,hb⟩;have HB:=ga.mk (Qa (ia (oa (Below.refl _ _) _) _) hb);clear hb));go_ret;exact ⟨rfl,HB.out⟩
   | false =>
    rw [Qj] at HF;go_enter Try.func93,Try.ntmps93;go_wp2_with (first|(go_at_call 94;(with_reducible refine (Rk _ _ _ _).mono ?_);rintro e w1 ⟨rfl,⟨n,rfl⟩⟩)|(go_at_call 115;(with_reducible refine (HF.out _ (ia (oa (Below.refl _ _) _) _)).mono ?_);rintro e w1 ⟨rfl,hb⟩;have HB:=ga.mk (Qa (ia (oa (Below.refl _ _) _) _) hb);obtain ⟨LW,tV⟩:=PY hb;have sQ:=hb.size;simp at sQ;clear hb)|(go_at_call 117;(with_reducible refine (LG _ _ _ _ _ _ _).mono ?_);rintro e w2 ⟨rfl,hb⟩;have vt:=ga.mk (Qa (ia HB.out _) hb);clear hb))
    all_goals
     go_ret
     first
      | exact ⟨by simp [*],vt.out⟩
      | exact ⟨by simp [*],ia HB.out _⟩
def Kg.f (Ma:List Int) (La:Int) (Na:Int) (VJ:List (jz)):Option Bool:=if VJ.length=0 then some (Vv Ma La Na) else none
theorem Kg.calls (qb:Option Addr) (mb:Nat) (Ma:List Int) (La:Int) (Na:Int) (H7:Option Addr) (W5:Nat) (VJ:List (jz)) (r:Bool) (w:World) (Ae:Kd.C (Kd.int .i64) w qb Ma.length Ma) (we:Ma.length ≤ mb) (kas:Kd.C Han w H7 VJ.length VJ) (Hau:VJ.length ≤ W5) (h:Kg.f Ma La Na VJ=some r) :
  Calls Try.prog 93 #[.agg #[.slice qb Ma.length mb,.int .i64 La,.int .i64 Na,.slice H7 VJ.length W5]] w fun e w'=>e = .returned (.bool r)∧Below w.heap.size w w':=by
 unfold Kg.f at h
 split at h
 ·rename_i h0;injection h with h
  subst h;rw [h0];exact JC qb H7 mb W5 Ma La Na w Ae we
 ·cases h
theorem o4 (d:Nat) (w:World) (x0 y0:Int) (x1 y1:Int) (x2 y2:Int) (x3 y3:Int) (x4 y4:Int) (x5 y5:Int) (x6 y6:ByteArray) :
  (Op.equalIn (d + 2) 122 (.agg #[.int .i64 x0,.int .i64 x1,.int .i64 x2,.int .i64 x3,.int .i64 x4,.int .i64 x5,.string x6]) (.agg #[.int .i64 y0,.int .i64 y1,.int .i64 y2,.int .i64 y3,.int .i64 y4,.int .i64 y5,.string y6])).run Try.prog w = .ok (x0 == y0 && (x1 == y1 && (x2 == y2 && (x3 == y3 && (x4 == y4 && (x5 == y5 && (x6.toList == y6.toList))))))) w:=by
 refine KR Try.underlying122 (by kernel_rfl) ?_;refine Bk (by rfl) (by go_simp;rfl) (by go_simp;rfl) (by go_simp) ?_;refine Bk (by rfl) (by go_simp;rfl) (by go_simp;rfl) (by go_simp) ?_;refine Bk (by rfl) (by go_simp;rfl) (by go_simp;rfl) (by go_simp) ?_;refine Bk (by rfl) (by go_simp;rfl) (by go_simp;rfl) (by go_simp) ?_;refine Bk (by rfl) (by go_simp;rfl) (by go_simp;rfl) (by go_simp) ?_;refine Bk (by rfl) (by go_simp;rfl) (by go_simp;rfl) (by go_simp) ?_;exact xI (by rfl) (by go_simp;rfl) (by go_simp;rfl) (by go_simp)
attribute [local go_sem high] o4
def EJ:List ByteArray:=[⟨#[61,61]⟩,⟨#[60]⟩,⟨#[38]⟩,⟨#[43]⟩,⟨#[45]⟩,⟨#[42]⟩]
def uw (s:ByteArray):Bool:=EJ.any fun y=>decide (s.toList=y.toList)
theorem xO (s:ByteArray):Ym.f 8 s=some (uw s):=by
 unfold Ym.f Tc.f Bb.f uw EJ;simp only [Bb.l0,List.any_cons,List.any_nil]
 by_cases h0:s.toList=[61,61]
 ·simp [Eg,h0]
 by_cases h1:s.toList=[60]
 ·simp [Eg,h1,wrap64]
 by_cases h2:s.toList=[38]
 ·simp [Eg,h2,wrap64]
 by_cases h3:s.toList=[43]
 ·simp [Eg,h3,wrap64]
 by_cases h4:s.toList=[45]
 ·simp [Eg,h4,wrap64]
 by_cases h5:s.toList=[42]
 ·simp [Eg,h5,wrap64]
 simp [Eg,h0,h1,h2,h3,h4,h5,wrap64]
theorem WJ (s:ByteArray) (w:World):Calls Try.prog 139 #[.string s] w fun e w'=>e = .returned (.bool (uw s))∧Below w.heap.size w w':=Ym.calls 8 s (uw s) w (xO s)
def xm (slots s:Int):Bool:=decide (0 ≤ s) && decide (s < slots)
theorem Vj (B:Nat) (slots s:Int) (W:World) (hb3:W.cell? ⟨B,3,none⟩=some (.int .i64 slots)):Calls Try.prog 138 #[.int .i64 s,.pointer (some ⟨B,0,none⟩)] W fun e w'=>e = .returned (.bool (xm slots s))∧W=w':=by
 unfold xm
 by_cases h:0 ≤ s
 all_goals
  go_enter Try.func138,Try.ntmps138;go_wp2;go_ret;exact ⟨by simp [*];try omega,rfl⟩
theorem FO (A0 A4:Option Addr) (c0 c4 n0 n4:Nat) (p1 p2 slots d a b c n:Int) (t:ByteArray) (w:World) (hn0:n0 ≤ 9223372036854775807) (lD:n4 ≤ 9223372036854775807) :
  Calls Try.prog 125 #[.agg #[.slice A0 n0 c0,.int .i64 p1,.int .i64 p2,.int .i64 slots,.slice A4 n4 c4],.agg #[.int .i64 0,.int .i64 d,.int .i64 a,.int .i64 b,.int .i64 c,.int .i64 n,.string t]] w fun e w'=>e = .returned (.bool (xm slots d && (a == 0 && (b == 0 && (c == 0 && t.toList.isEmpty)))))∧Below w.heap.size w w':=by
 obtain ⟨W1,Ag⟩:∃ W1,W1=(w.alloc (.cells #[.slice A0 n0 c0,.int .i64 p1,.int .i64 p2,.int .i64 slots,.slice A4 n4 c4] 45 (0,0))).alloc (.cells #[.int .i64 0,.int .i64 d,.int .i64 a,.int .i64 b,.int .i64 c,.int .i64 n,.string t] 122 (0,0)):=⟨_,rfl⟩;have HW:=ga.mk Ag;have HB:=ga.mk (show Below w.heap.size w W1 from by rw [Ag];exact oa (oa (Below.refl _ _) _) _);have hz:W1.heap.size=w.heap.size + 2:=by rw [Ag];simp
 have bT:W1.cell? ⟨w.heap.size,3,none⟩=some (.int .i64 slots):=by rw [Ag];simp
 have hx0:W1.cell? ⟨w.heap.size + 1,0,none⟩=some (.int .i64 0):=by rw [Ag];simp
 have hx1:W1.cell? ⟨w.heap.size + 1,1,none⟩=some (.int .i64 d):=by rw [Ag];simp
 have hx2:W1.cell? ⟨w.heap.size + 1,2,none⟩=some (.int .i64 a):=by rw [Ag];simp
 have Nz:W1.cell? ⟨w.heap.size + 1,3,none⟩=some (.int .i64 b):=by rw [Ag];simp
 have Hy:W1.cell? ⟨w.heap.size + 1,4,none⟩=some (.int .i64 c):=by rw [Ag];simp
 have pP:W1.cell? ⟨w.heap.size + 1,5,none⟩=some (.int .i64 n):=by rw [Ag];simp
 have fE:W1.cell? ⟨w.heap.size + 1,6,none⟩=some (.string t):=by rw [Ag];simp
 clear Ag;go_enter Try.func125,Try.ntmps125;go_wp2_with (first|(go_at_call 94;(with_reducible refine (Rk _ _ _ _).mono ?_);rintro e w1 ⟨rfl,⟨k1,rfl⟩⟩));rw [← HW.out];clear HW
 go_region
 all_goals go_wp2_with (first|(go_at_call 138;(refine (Vj _ slots _ _ ?hc).mono ?_);(case hc=>first|(go_simp;done)|(go_simp;rfl));rintro e w1 ⟨rfl,rfl⟩))
 all_goals go_ret
 all_goals exact ⟨by (try clear LW tV sQ vt);simp [*],by repeat (first|exact HB.out|(refine Qa ?_ vt.out)|apply ia|apply qa|apply oa|refine ua ?_ (by first|omega|(simp;done)|(simp;omega)))⟩
theorem EO (A0 A4:Option Addr) (c0 c4 n0 n4:Nat) (p1 p2 slots d a b c n:Int) (t:ByteArray) (w:World) (hn0:n0 ≤ 9223372036854775807) (lD:n4 ≤ 9223372036854775807) :
  Calls Try.prog 125 #[.agg #[.slice A0 n0 c0,.int .i64 p1,.int .i64 p2,.int .i64 slots,.slice A4 n4 c4],.agg #[.int .i64 1,.int .i64 d,.int .i64 a,.int .i64 b,.int .i64 c,.int .i64 n,.string t]] w fun e w'=>e = .returned (.bool (xm slots d && xm slots a && (b == 0 && (c == 0 && (n == 0 && t.toList.isEmpty)))))∧Below w.heap.size w w':=by
 obtain ⟨W1,Ag⟩:∃ W1,W1=(w.alloc (.cells #[.slice A0 n0 c0,.int .i64 p1,.int .i64 p2,.int .i64 slots,.slice A4 n4 c4] 45 (0,0))).alloc (.cells #[.int .i64 1,.int .i64 d,.int .i64 a,.int .i64 b,.int .i64 c,.int .i64 n,.string t] 122 (0,0)):=⟨_,rfl⟩;have HW:=ga.mk Ag;have HB:=ga.mk (show Below w.heap.size w W1 from by rw [Ag];exact oa (oa (Below.refl _ _) _) _);have hz:W1.heap.size=w.heap.size + 2:=by rw [Ag];simp
 have bT:W1.cell? ⟨w.heap.size,3,none⟩=some (.int .i64 slots):=by rw [Ag];simp
 have hx0:W1.cell? ⟨w.heap.size + 1,0,none⟩=some (.int .i64 1):=by rw [Ag];simp
 have hx1:W1.cell? ⟨w.heap.size + 1,1,none⟩=some (.int .i64 d):=by rw [Ag];simp
 have hx2:W1.cell? ⟨w.heap.size + 1,2,none⟩=some (.int .i64 a):=by rw [Ag];simp
 have Nz:W1.cell? ⟨w.heap.size + 1,3,none⟩=some (.int .i64 b):=by rw [Ag];simp
 have Hy:W1.cell? ⟨w.heap.size + 1,4,none⟩=some (.int .i64 c):=by rw [Ag];simp
 have pP:W1.cell? ⟨w.heap.size + 1,5,none⟩=some (.int .i64 n):=by rw [Ag];simp
 have fE:W1.cell? ⟨w.heap.size + 1,6,none⟩=some (.string t):=by rw [Ag];simp
 clear Ag;go_enter Try.func125,Try.ntmps125;go_wp2_with (first|(go_at_call 94;(with_reducible refine (Rk _ _ _ _).mono ?_);rintro e w1 ⟨rfl,⟨k1,rfl⟩⟩));rw [← HW.out];clear HW
 go_region
 all_goals go_wp2_with (first|(go_at_call 138;(refine (Vj _ slots _ _ ?hc).mono ?_);(case hc=>first|(go_simp;done)|(go_simp;rfl));rintro e w1 ⟨rfl,rfl⟩))
 all_goals go_ret
 all_goals exact ⟨by (try clear LW tV sQ vt);simp [*],by repeat (first|exact HB.out|(refine Qa ?_ vt.out)|apply ia|apply qa|apply oa|refine ua ?_ (by first|omega|(simp;done)|(simp;omega)))⟩
theorem CO (A0 A4:Option Addr) (c0 c4 n0 n4:Nat) (p1 p2 slots d a b c n:Int) (t:ByteArray) (w:World) (hn0:n0 ≤ 9223372036854775807) (lD:n4 ≤ 9223372036854775807) :
  Calls Try.prog 125 #[.agg #[.slice A0 n0 c0,.int .i64 p1,.int .i64 p2,.int .i64 slots,.slice A4 n4 c4],.agg #[.int .i64 2,.int .i64 d,.int .i64 a,.int .i64 b,.int .i64 c,.int .i64 n,.string t]] w fun e w'=>e = .returned (.bool (xm slots d && xm slots a && xm slots b && uw t && (c == 0 && n == 0)))∧Below w.heap.size w w':=by
 obtain ⟨W1,Ag⟩:∃ W1,W1=(w.alloc (.cells #[.slice A0 n0 c0,.int .i64 p1,.int .i64 p2,.int .i64 slots,.slice A4 n4 c4] 45 (0,0))).alloc (.cells #[.int .i64 2,.int .i64 d,.int .i64 a,.int .i64 b,.int .i64 c,.int .i64 n,.string t] 122 (0,0)):=⟨_,rfl⟩;have HW:=ga.mk Ag;have HB:=ga.mk (show Below w.heap.size w W1 from by rw [Ag];exact oa (oa (Below.refl _ _) _) _);have hz:W1.heap.size=w.heap.size + 2:=by rw [Ag];simp
 have bT:W1.cell? ⟨w.heap.size,3,none⟩=some (.int .i64 slots):=by rw [Ag];simp
 have hx0:W1.cell? ⟨w.heap.size + 1,0,none⟩=some (.int .i64 2):=by rw [Ag];simp
 have hx1:W1.cell? ⟨w.heap.size + 1,1,none⟩=some (.int .i64 d):=by rw [Ag];simp
 have hx2:W1.cell? ⟨w.heap.size + 1,2,none⟩=some (.int .i64 a):=by rw [Ag];simp
 have Nz:W1.cell? ⟨w.heap.size + 1,3,none⟩=some (.int .i64 b):=by rw [Ag];simp
 have Hy:W1.cell? ⟨w.heap.size + 1,4,none⟩=some (.int .i64 c):=by rw [Ag];simp
 have pP:W1.cell? ⟨w.heap.size + 1,5,none⟩=some (.int .i64 n):=by rw [Ag];simp
 have fE:W1.cell? ⟨w.heap.size + 1,6,none⟩=some (.string t):=by rw [Ag];simp
 clear Ag;go_enter Try.func125,Try.ntmps125;go_wp2_with (first|(go_at_call 94;(with_reducible refine (Rk _ _ _ _).mono ?_);rintro e w1 ⟨rfl,⟨k1,rfl⟩⟩));rw [← HW.out];clear HW
 go_region
 all_goals go_wp2_with (first|(go_at_call 138;(refine (Vj _ slots _ _ ?hc).mono ?_);(case hc=>first|(go_simp;done)|(go_simp;rfl));rintro e w1 ⟨rfl,rfl⟩)|(go_at_call 139;(with_reducible refine (WJ _ _).mono ?_);rintro e w2 ⟨rfl,Qj⟩;have vt:=ga.mk Qj;obtain ⟨LW,tV⟩:=PY Qj;have sQ:=Qj.size;simp at sQ;clear Qj))
 all_goals go_ret
 all_goals exact ⟨by (try clear LW tV sQ vt);simp [*],by repeat (first|exact HB.out|(refine Qa ?_ vt.out)|apply ia|apply qa|apply oa|refine ua ?_ (by first|omega|(simp;done)|(simp;omega)))⟩
theorem BO (A0 A4:Option Addr) (c0 c4 n0 n4:Nat) (p1 p2 slots d a b c n:Int) (t:ByteArray) (w:World) (hn0:n0 ≤ 9223372036854775807) (lD:n4 ≤ 9223372036854775807) :
  Calls Try.prog 125 #[.agg #[.slice A0 n0 c0,.int .i64 p1,.int .i64 p2,.int .i64 slots,.slice A4 n4 c4],.agg #[.int .i64 3,.int .i64 d,.int .i64 a,.int .i64 b,.int .i64 c,.int .i64 n,.string t]] w fun e w'=>e = .returned (.bool (xm slots d && xm slots b && nk n 0 ((n0:Int) - 1) && (xm slots a || a == -1) && (c == 0 && t.toList.isEmpty)))∧Below w.heap.size w w':=by
 obtain ⟨W1,Ag⟩:∃ W1,W1=(w.alloc (.cells #[.slice A0 n0 c0,.int .i64 p1,.int .i64 p2,.int .i64 slots,.slice A4 n4 c4] 45 (0,0))).alloc (.cells #[.int .i64 3,.int .i64 d,.int .i64 a,.int .i64 b,.int .i64 c,.int .i64 n,.string t] 122 (0,0)):=⟨_,rfl⟩;have HW:=ga.mk Ag;have HB:=ga.mk (show Below w.heap.size w W1 from by rw [Ag];exact oa (oa (Below.refl _ _) _) _);have hz:W1.heap.size=w.heap.size + 2:=by rw [Ag];simp
 have bT:W1.cell? ⟨w.heap.size,3,none⟩=some (.int .i64 slots):=by rw [Ag];simp
 have hx0:W1.cell? ⟨w.heap.size + 1,0,none⟩=some (.int .i64 3):=by rw [Ag];simp
 have hx1:W1.cell? ⟨w.heap.size + 1,1,none⟩=some (.int .i64 d):=by rw [Ag];simp
 have hx2:W1.cell? ⟨w.heap.size + 1,2,none⟩=some (.int .i64 a):=by rw [Ag];simp
 have Nz:W1.cell? ⟨w.heap.size + 1,3,none⟩=some (.int .i64 b):=by rw [Ag];simp
 have Hy:W1.cell? ⟨w.heap.size + 1,4,none⟩=some (.int .i64 c):=by rw [Ag];simp
 have pP:W1.cell? ⟨w.heap.size + 1,5,none⟩=some (.int .i64 n):=by rw [Ag];simp
 have fE:W1.cell? ⟨w.heap.size + 1,6,none⟩=some (.string t):=by rw [Ag];simp
 clear Ag;go_enter Try.func125,Try.ntmps125;go_wp2_with (first|(go_at_call 94;(with_reducible refine (Rk _ _ _ _).mono ?_);rintro e w1 ⟨rfl,⟨k1,rfl⟩⟩));rw [← HW.out];clear HW
 go_region
 all_goals go_wp2_with (first|(go_at_call 138;(refine (Vj _ slots _ _ ?hc).mono ?_);(case hc=>first|(go_simp;done)|(go_simp;rfl));rintro e w1 ⟨rfl,rfl⟩))
 all_goals go_ret
 all_goals exact ⟨by (try clear LW tV sQ vt);simp [*],by repeat (first|exact HB.out|(refine Qa ?_ vt.out)|apply ia|apply qa|apply oa|refine ua ?_ (by first|omega|(simp;done)|(simp;omega)))⟩
theorem AO (A0 A4:Option Addr) (c0 c4 n0 n4:Nat) (p1 p2 slots d a b c n:Int) (t:ByteArray) (w:World) (hn0:n0 ≤ 9223372036854775807) (lD:n4 ≤ 9223372036854775807) :
  Calls Try.prog 125 #[.agg #[.slice A0 n0 c0,.int .i64 p1,.int .i64 p2,.int .i64 slots,.slice A4 n4 c4],.agg #[.int .i64 4,.int .i64 d,.int .i64 a,.int .i64 b,.int .i64 c,.int .i64 n,.string t]] w fun e w'=>e = .returned (.bool (xm slots c && xm slots b && nk n 0 ((n0:Int) - 1) && (xm slots a || a == -1) && (d == 0 && t.toList.isEmpty)))∧Below w.heap.size w w':=by
 obtain ⟨W1,Ag⟩:∃ W1,W1=(w.alloc (.cells #[.slice A0 n0 c0,.int .i64 p1,.int .i64 p2,.int .i64 slots,.slice A4 n4 c4] 45 (0,0))).alloc (.cells #[.int .i64 4,.int .i64 d,.int .i64 a,.int .i64 b,.int .i64 c,.int .i64 n,.string t] 122 (0,0)):=⟨_,rfl⟩;have HW:=ga.mk Ag;have HB:=ga.mk (show Below w.heap.size w W1 from by rw [Ag];exact oa (oa (Below.refl _ _) _) _);have hz:W1.heap.size=w.heap.size + 2:=by rw [Ag];simp
 have bT:W1.cell? ⟨w.heap.size,3,none⟩=some (.int .i64 slots):=by rw [Ag];simp
 have hx0:W1.cell? ⟨w.heap.size + 1,0,none⟩=some (.int .i64 4):=by rw [Ag];simp
 have hx1:W1.cell? ⟨w.heap.size + 1,1,none⟩=some (.int .i64 d):=by rw [Ag];simp
 have hx2:W1.cell? ⟨w.heap.size + 1,2,none⟩=some (.int .i64 a):=by rw [Ag];simp
 have Nz:W1.cell? ⟨w.heap.size + 1,3,none⟩=some (.int .i64 b):=by rw [Ag];simp
 have Hy:W1.cell? ⟨w.heap.size + 1,4,none⟩=some (.int .i64 c):=by rw [Ag];simp
 have pP:W1.cell? ⟨w.heap.size + 1,5,none⟩=some (.int .i64 n):=by rw [Ag];simp
 have fE:W1.cell? ⟨w.heap.size + 1,6,none⟩=some (.string t):=by rw [Ag];simp
 clear Ag;go_enter Try.func125,Try.ntmps125;go_wp2_with (first|(go_at_call 94;(with_reducible refine (Rk _ _ _ _).mono ?_);rintro e w1 ⟨rfl,⟨k1,rfl⟩⟩));rw [← HW.out];clear HW
 go_region
 all_goals go_wp2_with (first|(go_at_call 138;(refine (Vj _ slots _ _ ?hc).mono ?_);(case hc=>first|(go_simp;done)|(go_simp;rfl));rintro e w1 ⟨rfl,rfl⟩))
 all_goals go_ret
 all_goals exact ⟨by (try clear LW tV sQ vt);simp [*],by repeat (first|exact HB.out|(refine Qa ?_ vt.out)|apply ia|apply qa|apply oa|refine ua ?_ (by first|omega|(simp;done)|(simp;omega)))⟩
theorem zO (A0 A4:Option Addr) (c0 c4 n0 n4:Nat) (p1 p2 slots d a b c n:Int) (t:ByteArray) (w:World) (hn0:n0 ≤ 9223372036854775807) (lD:n4 ≤ 9223372036854775807) :
  Calls Try.prog 125 #[.agg #[.slice A0 n0 c0,.int .i64 p1,.int .i64 p2,.int .i64 slots,.slice A4 n4 c4],.agg #[.int .i64 5,.int .i64 d,.int .i64 a,.int .i64 b,.int .i64 c,.int .i64 n,.string t]] w fun e w'=>e = .returned (.bool (xm slots d && (a == 0 && (b == 0 && (c == 0 && (n == 0 && t.toList.isEmpty))))))∧Below w.heap.size w w':=by
 obtain ⟨W1,Ag⟩:∃ W1,W1=(w.alloc (.cells #[.slice A0 n0 c0,.int .i64 p1,.int .i64 p2,.int .i64 slots,.slice A4 n4 c4] 45 (0,0))).alloc (.cells #[.int .i64 5,.int .i64 d,.int .i64 a,.int .i64 b,.int .i64 c,.int .i64 n,.string t] 122 (0,0)):=⟨_,rfl⟩;have HW:=ga.mk Ag;have HB:=ga.mk (show Below w.heap.size w W1 from by rw [Ag];exact oa (oa (Below.refl _ _) _) _);have hz:W1.heap.size=w.heap.size + 2:=by rw [Ag];simp
 have bT:W1.cell? ⟨w.heap.size,3,none⟩=some (.int .i64 slots):=by rw [Ag];simp
 have hx0:W1.cell? ⟨w.heap.size + 1,0,none⟩=some (.int .i64 5):=by rw [Ag];simp
 have hx1:W1.cell? ⟨w.heap.size + 1,1,none⟩=some (.int .i64 d):=by rw [Ag];simp
 have hx2:W1.cell? ⟨w.heap.size + 1,2,none⟩=some (.int .i64 a):=by rw [Ag];simp
 have Nz:W1.cell? ⟨w.heap.size + 1,3,none⟩=some (.int .i64 b):=by rw [Ag];simp
 have Hy:W1.cell? ⟨w.heap.size + 1,4,none⟩=some (.int .i64 c):=by rw [Ag];simp
 have pP:W1.cell? ⟨w.heap.size + 1,5,none⟩=some (.int .i64 n):=by rw [Ag];simp
 have fE:W1.cell? ⟨w.heap.size + 1,6,none⟩=some (.string t):=by rw [Ag];simp
 clear Ag;go_enter Try.func125,Try.ntmps125;go_wp2_with (first|(go_at_call 94;(with_reducible refine (Rk _ _ _ _).mono ?_);rintro e w1 ⟨rfl,⟨k1,rfl⟩⟩));rw [← HW.out];clear HW
 go_region
 all_goals go_wp2_with (first|(go_at_call 138;(refine (Vj _ slots _ _ ?hc).mono ?_);(case hc=>first|(go_simp;done)|(go_simp;rfl));rintro e w1 ⟨rfl,rfl⟩))
 all_goals go_ret
 all_goals exact ⟨by (try clear LW tV sQ vt);simp [*],by repeat (first|exact HB.out|(refine Qa ?_ vt.out)|apply ia|apply qa|apply oa|refine ua ?_ (by first|omega|(simp;done)|(simp;omega)))⟩
theorem yO (A0 A4:Option Addr) (c0 c4 n0 n4:Nat) (p1 p2 slots d a b c n:Int) (t:ByteArray) (w:World) (hn0:n0 ≤ 9223372036854775807) (lD:n4 ≤ 9223372036854775807) :
  Calls Try.prog 125 #[.agg #[.slice A0 n0 c0,.int .i64 p1,.int .i64 p2,.int .i64 slots,.slice A4 n4 c4],.agg #[.int .i64 6,.int .i64 d,.int .i64 a,.int .i64 b,.int .i64 c,.int .i64 n,.string t]] w fun e w'=>e = .returned (.bool (xm slots a && (d == 0 && (b == 0 && (c == 0 && (n == 0 && t.toList.isEmpty))))))∧Below w.heap.size w w':=by
 obtain ⟨W1,Ag⟩:∃ W1,W1=(w.alloc (.cells #[.slice A0 n0 c0,.int .i64 p1,.int .i64 p2,.int .i64 slots,.slice A4 n4 c4] 45 (0,0))).alloc (.cells #[.int .i64 6,.int .i64 d,.int .i64 a,.int .i64 b,.int .i64 c,.int .i64 n,.string t] 122 (0,0)):=⟨_,rfl⟩;have HW:=ga.mk Ag;have HB:=ga.mk (show Below w.heap.size w W1 from by rw [Ag];exact oa (oa (Below.refl _ _) _) _);have hz:W1.heap.size=w.heap.size + 2:=by rw [Ag];simp
 have bT:W1.cell? ⟨w.heap.size,3,none⟩=some (.int .i64 slots):=by rw [Ag];simp
 have hx0:W1.cell? ⟨w.heap.size + 1,0,none⟩=some (.int .i64 6):=by rw [Ag];simp
 have hx1:W1.cell? ⟨w.heap.size + 1,1,none⟩=some (.int .i64 d):=by rw [Ag];simp
 have hx2:W1.cell? ⟨w.heap.size + 1,2,none⟩=some (.int .i64 a):=by rw [Ag];simp
 have Nz:W1.cell? ⟨w.heap.size + 1,3,none⟩=some (.int .i64 b):=by rw [Ag];simp
 have Hy:W1.cell? ⟨w.heap.size + 1,4,none⟩=some (.int .i64 c):=by rw [Ag];simp
 have pP:W1.cell? ⟨w.heap.size + 1,5,none⟩=some (.int .i64 n):=by rw [Ag];simp
 have fE:W1.cell? ⟨w.heap.size + 1,6,none⟩=some (.string t):=by rw [Ag];simp
 clear Ag;go_enter Try.func125,Try.ntmps125;go_wp2_with (first|(go_at_call 94;(with_reducible refine (Rk _ _ _ _).mono ?_);rintro e w1 ⟨rfl,⟨k1,rfl⟩⟩));rw [← HW.out];clear HW
 go_region
 all_goals go_wp2_with (first|(go_at_call 138;(refine (Vj _ slots _ _ ?hc).mono ?_);(case hc=>first|(go_simp;done)|(go_simp;rfl));rintro e w1 ⟨rfl,rfl⟩))
 all_goals go_ret
 all_goals exact ⟨by (try clear LW tV sQ vt);simp [*],by repeat (first|exact HB.out|(refine Qa ?_ vt.out)|apply ia|apply qa|apply oa|refine ua ?_ (by first|omega|(simp;done)|(simp;omega)))⟩
theorem XJ (A0 A4:Option Addr) (c0 c4 n0 n4:Nat) (p1 p2 slots d a b c n:Int) (t:ByteArray) (w:World) (hn0:n0 ≤ 9223372036854775807) (lD:n4 ≤ 9223372036854775807) (o:Int) (h0:(o == 0)=false) (h1:(o == 1)=false) (h2:(o == 2)=false) (h3:(o == 3)=false) (h4:(o == 4)=false) (h5:(o == 5)=false) (h6:(o == 6)=false) :
  Calls Try.prog 125 #[.agg #[.slice A0 n0 c0,.int .i64 p1,.int .i64 p2,.int .i64 slots,.slice A4 n4 c4],.agg #[.int .i64 o,.int .i64 d,.int .i64 a,.int .i64 b,.int .i64 c,.int .i64 n,.string t]] w fun e w'=>e = .returned (.bool (false))∧Below w.heap.size w w':=by
 obtain ⟨W1,Ag⟩:∃ W1,W1=(w.alloc (.cells #[.slice A0 n0 c0,.int .i64 p1,.int .i64 p2,.int .i64 slots,.slice A4 n4 c4] 45 (0,0))).alloc (.cells #[.int .i64 o,.int .i64 d,.int .i64 a,.int .i64 b,.int .i64 c,.int .i64 n,.string t] 122 (0,0)):=⟨_,rfl⟩;have HW:=ga.mk Ag;have HB:=ga.mk (show Below w.heap.size w W1 from by rw [Ag];exact oa (oa (Below.refl _ _) _) _);have hz:W1.heap.size=w.heap.size + 2:=by rw [Ag];simp
 have bT:W1.cell? ⟨w.heap.size,3,none⟩=some (.int .i64 slots):=by rw [Ag];simp
 have hx0:W1.cell? ⟨w.heap.size + 1,0,none⟩=some (.int .i64 o):=by rw [Ag];simp
 have hx1:W1.cell? ⟨w.heap.size + 1,1,none⟩=some (.int .i64 d):=by rw [Ag];simp
 have hx2:W1.cell? ⟨w.heap.size + 1,2,none⟩=some (.int .i64 a):=by rw [Ag];simp
 have Nz:W1.cell? ⟨w.heap.size + 1,3,none⟩=some (.int .i64 b):=by rw [Ag];simp
 have Hy:W1.cell? ⟨w.heap.size + 1,4,none⟩=some (.int .i64 c):=by rw [Ag];simp
 have pP:W1.cell? ⟨w.heap.size + 1,5,none⟩=some (.int .i64 n):=by rw [Ag];simp
 have fE:W1.cell? ⟨w.heap.size + 1,6,none⟩=some (.string t):=by rw [Ag];simp
 clear Ag;go_enter Try.func125,Try.ntmps125;go_wp2_with (first|(go_at_call 94;(with_reducible refine (Rk _ _ _ _).mono ?_);rintro e w1 ⟨rfl,⟨k1,rfl⟩⟩));rw [← HW.out];clear HW
 go_region
 all_goals go_wp2_with (first|(go_at_call 138;(refine (Vj _ slots _ _ ?hc).mono ?_);(case hc=>first|(go_simp;done)|(go_simp;rfl));rintro e w1 ⟨rfl,rfl⟩))
 all_goals go_ret
 all_goals exact ⟨by (try clear LW tV sQ vt);simp [*],by repeat (first|exact HB.out|(refine Qa ?_ vt.out)|apply ia|apply qa|apply oa|refine ua ?_ (by first|omega|(simp;done)|(simp;omega)))⟩
def Rm (n0:Nat) (slots:Int) (o d a b c n:Int) (t:ByteArray):Bool :=
 if o=0 then xm slots d && (a == 0 && (b == 0 && (c == 0 && t.toList.isEmpty)))
 else if o=1 then xm slots d && xm slots a && (b == 0 && (c == 0 && (n == 0 && t.toList.isEmpty)))
 else if o=2 then xm slots d && xm slots a && xm slots b && uw t && (c == 0 && n == 0)
 else if o=3 then xm slots d && xm slots b && nk n 0 ((n0:Int) - 1) && (xm slots a || a == -1) && (c == 0 && t.toList.isEmpty)
 else if o=4 then xm slots c && xm slots b && nk n 0 ((n0:Int) - 1) && (xm slots a || a == -1) && (d == 0 && t.toList.isEmpty)
 else if o=5 then xm slots d && (a == 0 && (b == 0 && (c == 0 && (n == 0 && t.toList.isEmpty))))
 else if o=6 then xm slots a && (d == 0 && (b == 0 && (c == 0 && (n == 0 && t.toList.isEmpty))))
 else false
theorem yH (A0 A4:Option Addr) (c0 c4 n0 n4:Nat) (p1 p2 slots:Int) (w:World) (hn0:n0 ≤ 9223372036854775807) (lD:n4 ≤ 9223372036854775807) (o d a b c n:Int) (t:ByteArray) :
  Calls Try.prog 125 #[.agg #[.slice A0 n0 c0,.int .i64 p1,.int .i64 p2,.int .i64 slots,.slice A4 n4 c4],.agg #[.int .i64 o,.int .i64 d,.int .i64 a,.int .i64 b,.int .i64 c,.int .i64 n,.string t]] w fun e w'=>e = .returned (.bool (Rm n0 slots o d a b c n t))∧Below w.heap.size w w':=by
 unfold Rm
 by_cases h0:o=0
 ·rw [if_pos h0,h0];exact FO A0 A4 c0 c4 n0 n4 p1 p2 slots d a b c n t w hn0 lD
 rw [if_neg h0]
 by_cases h1:o=1
 ·rw [if_pos h1,h1];exact EO A0 A4 c0 c4 n0 n4 p1 p2 slots d a b c n t w hn0 lD
 rw [if_neg h1]
 by_cases h2:o=2
 ·rw [if_pos h2,h2];exact CO A0 A4 c0 c4 n0 n4 p1 p2 slots d a b c n t w hn0 lD
 rw [if_neg h2]
 by_cases h3:o=3
 ·rw [if_pos h3,h3];exact BO A0 A4 c0 c4 n0 n4 p1 p2 slots d a b c n t w hn0 lD
 rw [if_neg h3]
 by_cases h4:o=4
 ·rw [if_pos h4,h4];exact AO A0 A4 c0 c4 n0 n4 p1 p2 slots d a b c n t w hn0 lD
 rw [if_neg h4]
 by_cases h5:o=5
 ·rw [if_pos h5,h5];exact zO A0 A4 c0 c4 n0 n4 p1 p2 slots d a b c n t w hn0 lD
 rw [if_neg h5]
 by_cases h6:o=6
 ·rw [if_pos h6,h6];exact yO A0 A4 c0 c4 n0 n4 p1 p2 slots d a b c n t w hn0 lD
 rw [if_neg h6];exact XJ A0 A4 c0 c4 n0 n4 p1 p2 slots d a b c n t w hn0 lD o (beq_eq_false_iff_ne.mpr h0) (beq_eq_false_iff_ne.mpr h1) (beq_eq_false_iff_ne.mpr h2) (beq_eq_false_iff_ne.mpr h3) (beq_eq_false_iff_ne.mpr h4) (beq_eq_false_iff_ne.mpr h5) (beq_eq_false_iff_ne.mpr h6)
def Hp (n0:Nat) (slots:Int) (x:jd):Bool:=Rm n0 slots x.f0 x.f1 x.f2 x.f3 x.f4 x.f5 x.f6
def Kk (n0:Nat) (slots:Int) (n4:Nat) (code:List jd) (j a tg els:Int):Bool :=
 !(code.any fun x=>!Hp n0 slots x) && decide (0 ≤ slots) &&
  (if j=0 then nk tg 0 ((n4:Int) - 1) && a == 0 && els == 0
   else if j=1 then nk tg 0 ((n4:Int) - 1) && nk els 0 ((n4:Int) - 1) && xm slots a
   else if j=2 then xm slots a && tg == 0 && els == 0
   else false)
theorem JO (B:Nat) (A0 A4:Option Addr) (c0 c4 n0 n4:Nat) (p1 p2 slots:Int) (hn0:n0 ≤ 9223372036854775807) (lD:n4 ≤ 9223372036854775807) (W:World) (x:jd)
  (hb0:W.cell? ⟨B,0,none⟩=some (.slice A0 n0 c0)) (Wq:W.cell? ⟨B,1,none⟩=some (.int .i64 p1)) (Qj:W.cell? ⟨B,2,none⟩=some (.int .i64 p2)) (hb3:W.cell? ⟨B,3,none⟩=some (.int .i64 slots)) (hb4:W.cell? ⟨B,4,none⟩=some (.slice A4 n4 c4)) (hB:B < W.heap.size) :
  Calls Try.prog 124 #[.agg #[.int .i64 x.f0,.int .i64 x.f1,.int .i64 x.f2,.int .i64 x.f3,.int .i64 x.f4,.int .i64 x.f5,.string x.f6],.pointer (some ⟨B,0,none⟩)] W
   fun e w'=>e = .returned (.bool (!Hp n0 slots x))∧Below W.heap.size W w':=by
 have hne:B ≠ W.heap.size:=by omega
 unfold Hp;have HC:=ga.mk (fun W'=>yH A0 A4 c0 c4 n0 n4 p1 p2 slots W' hn0 lD x.f0 x.f1 x.f2 x.f3 x.f4 x.f5 x.f6);generalize Rm n0 slots x.f0 x.f1 x.f2 x.f3 x.f4 x.f5 x.f6=b at HC ⊢;go_enter Try.func124,Try.ntmps124;go_wp2_with (go_at_call 125;(with_reducible refine (HC.out _).mono ?_);rintro e w1 ⟨rfl,hb⟩;have HD:=ga.mk (Qa (oa (Below.refl _ _) _) hb);clear hb);go_ret;exact ⟨rfl,HD.out⟩
theorem zH (A0 A4 A5:Option Addr) (c0 c4 c5 n0 n4:Nat) (p1 p2 slots:Int) (l5:List jd) (j a tg els:Int) (w:World) (hn0:n0 ≤ 9223372036854775807) (lD:n4 ≤ 9223372036854775807) (hr5:Kd.C Zf w A5 l5.length l5) (hc5:l5.length ≤ c5) :
  Calls Try.prog 104 #[.agg #[.slice A0 n0 c0,.int .i64 p1,.int .i64 p2,.int .i64 slots,.slice A4 n4 c4],.agg #[.slice A5 l5.length c5,.int .i64 j,.int .i64 a,.int .i64 tg,.int .i64 els]] w fun e w'=>e = .returned (.bool (Kk n0 slots n4 l5 j a tg els))∧Below w.heap.size w w':=by
 have eg:=enters_of Try.func124 (by kernel_rfl) rfl;have hm5:=hr5.2.1;obtain ⟨W1,Ag⟩:∃ W1,W1=(w.alloc (.cells #[.slice A0 n0 c0,.int .i64 p1,.int .i64 p2,.int .i64 slots,.slice A4 n4 c4] 45 (0,0))).alloc (.cells #[.slice A5 l5.length c5,.int .i64 j,.int .i64 a,.int .i64 tg,.int .i64 els] 83 (0,0)):=⟨_,rfl⟩;have HW:=ga.mk Ag;have hB1:Below w.heap.size w W1:=by rw [Ag];exact oa (oa (Below.refl _ _) _) _
 have hz:W1.heap.size=w.heap.size + 2:=by rw [Ag];simp
 have PO:W1.cell? ⟨w.heap.size,0,none⟩=some (.slice A0 n0 c0):=by rw [Ag];simp
 have wC:W1.cell? ⟨w.heap.size,1,none⟩=some (.int .i64 p1):=by rw [Ag];simp
 have hg2:W1.cell? ⟨w.heap.size,2,none⟩=some (.int .i64 p2):=by rw [Ag];simp
 have sJ:W1.cell? ⟨w.heap.size,3,none⟩=some (.int .i64 slots):=by rw [Ag];simp
 have rJ:W1.cell? ⟨w.heap.size,4,none⟩=some (.slice A4 n4 c4):=by rw [Ag];simp
 have hx0:W1.cell? ⟨w.heap.size + 1,0,none⟩=some (.slice A5 l5.length c5):=by rw [Ag];simp
 have hx1:W1.cell? ⟨w.heap.size + 1,1,none⟩=some (.int .i64 j):=by rw [Ag];simp
 have hx2:W1.cell? ⟨w.heap.size + 1,2,none⟩=some (.int .i64 a):=by rw [Ag];simp
 have Nz:W1.cell? ⟨w.heap.size + 1,3,none⟩=some (.int .i64 tg):=by rw [Ag];simp
 have Hy:W1.cell? ⟨w.heap.size + 1,4,none⟩=some (.int .i64 els):=by rw [Ag];simp
 have hr1:=Kd.Nb hr5 hB1;clear Ag hr5
 have HF:=ga.mk (jw 124 #[.pointer (some ⟨w.heap.size,0,none⟩)] (fun x=>!Hp n0 slots x) eg A5 c5 l5 W1 hr1 hc5
  (fun W2 x hb'=>JO w.heap.size A0 A4 c0 c4 n0 n4 p1 p2 slots hn0 lD W2 x ((hb'.cell (p:=⟨w.heap.size,0,none⟩) (by simp;omega)).trans PO) ((hb'.cell (p:=⟨w.heap.size,1,none⟩) (by simp;omega)).trans wC) ((hb'.cell (p:=⟨w.heap.size,2,none⟩) (by simp;omega)).trans hg2) ((hb'.cell (p:=⟨w.heap.size,3,none⟩) (by simp;omega)).trans sJ) ((hb'.cell (p:=⟨w.heap.size,4,none⟩) (by simp;omega)).trans rJ) (Nat.lt_of_lt_of_le (by omega) hb'.size)))
 have HB:=ga.mk hB1;clear hr1 hB1 eg;unfold Kk;cases hq:l5.any (fun x=>!Hp n0 slots x) with
 | true =>
  rw [hq] at HF;go_enter Try.func104,Try.ntmps104
  go_upto_region 1 with (fail)
  rw [← HW.out];clear HW;go_wp2_with (first|(go_at_call 123;(with_reducible refine HF.out.mono ?_);rintro e w2 ⟨rfl,Qj⟩;have vt:=ga.mk Qj;clear Qj))
  all_goals
   go_ret;exact ⟨by simp,Qa HB.out vt.out⟩
 | false =>
  rw [hq] at HF;cases ha0:decide (0 ≤ a)
  all_goals
   go_enter Try.func104,Try.ntmps104
   go_upto_region 1 with (fail)
   rw [← HW.out];clear HW
   go_upto_region 3 with (first|(go_at_call 123;(with_reducible refine HF.out.mono ?_);rintro e w2 ⟨rfl,Qj⟩;replace sJ:=(Qj.cell (World.block_lt_of_cell? W1 _ sJ)).trans sJ;replace rJ:=(Qj.cell (World.block_lt_of_cell? W1 _ rJ)).trans rJ;replace hx1:=(Qj.cell (World.block_lt_of_cell? W1 _ hx1)).trans hx1;replace hx2:=(Qj.cell (World.block_lt_of_cell? W1 _ hx2)).trans hx2;replace Nz:=(Qj.cell (World.block_lt_of_cell? W1 _ Nz)).trans Nz;replace Hy:=(Qj.cell (World.block_lt_of_cell? W1 _ Hy)).trans Hy;have vt:=ga.mk (Qa HB.out Qj);clear Qj HB PO wC hg2 hx0))
   go_quiet ((go_at_call 94;exact Calls.quiet_of ((Rk _ _ _ _).mono fun _ _ ⟨he,hm⟩=>⟨he,hm.out⟩)))
   go_wp2
   all_goals go_ret
   all_goals exact ⟨by first|(simp [xm, *];done)|(simp [xm, *];intros;omega)|(clear HF sJ rJ hx1 hx2 Nz Hy;simp_all [xm];done)|(clear HF sJ rJ hx1 hx2 Nz Hy;simp_all [xm];omega),by repeat (first|exact vt.out|apply ia)⟩
def Xi.f (Ma:List Int) (La:Int) (Na:Int) (Ka:Int) (Fa:List (jf)) (Rc:List (jd)) (Xb:Int) (Qb:Int) (Rb:Int) (tc:Int):Option Bool:=some (Kk Ma.length Ka Fa.length Rc Xb Qb Rb tc)
theorem Xi.calls (qb:Option Addr) (mb:Nat) (Ma:List Int) (La:Int) (Na:Int) (Ka:Int) (Lb:Option Addr) (Fb:Nat) (Fa:List (jf)) (Pf:Option Addr) (Df:Nat) (Rc:List (jd)) (Xb:Int) (Qb:Int) (Rb:Int) (tc:Int) (r:Bool) (w:World) (Ae:Kd.C (Kd.int .i64) w qb Ma.length Ma) (we:Ma.length ≤ mb) (Uf:Kd.C Gp w Lb Fa.length Fa) (Lf:Fa.length ≤ Fb) (Fv:Kd.C Zf w Pf Rc.length Rc) (Gv:Rc.length ≤ Df) (h:Xi.f Ma La Na Ka Fa Rc Xb Qb Rb tc=some r) :
  Calls Try.prog 104 #[.agg #[.slice qb Ma.length mb,.int .i64 La,.int .i64 Na,.int .i64 Ka,.slice Lb Fa.length Fb],.agg #[.slice Pf Rc.length Df,.int .i64 Xb,.int .i64 Qb,.int .i64 Rb,.int .i64 tc]] w fun e w'=>e = .returned (.bool r)∧Below w.heap.size w w':=by
 injection h with h
 subst h;exact zH qb Lb Pf mb Fb Df Ma.length Fa.length La Na Ka Rc Xb Qb Rb tc w Ae.2.1 Uf.2.1 Fv Gv
end Go.Proofs.Ytoomcmaifgkkfaa.P
end
