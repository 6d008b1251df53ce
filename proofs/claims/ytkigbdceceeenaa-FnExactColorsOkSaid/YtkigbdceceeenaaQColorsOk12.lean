import Derived.Test.YtkigbdceceeenaaQColorsOk1
import Derived.Test.YtkigbdceceeenaaQColorsOk7
import Derived.Test.YtkigbdceceeenaaQColorsOk5
import Derived.Test.YtkigbdceceeenaaQColorsOk11
import Derived.Test.YtkigbdceceeenaaQColorsOk3
import Derived.Test.YtkigbdceceeenaaQColorsOk10
import Derived.Test.YtkigbdceceeenaaQColorsOk9
import Derived.Test.YtkigbdceceeenaaQColorsOk8
import Derived.Shelf.Abstract
import Derived.Outline
set_option maxHeartbeats 8000000
set_option maxRecDepth 100000
section
namespace Go.Proofs.Ytkigbdceceeenaa.P
open Go.RowKit Go.Proofs.Pa.Xb Go.Proofs.Pa.Pd Go.Proofs.Pa.Oe
set_option linter.unusedVariables false
set_option linter.unusedSimpArgs false
attribute [local go_sem] Bi Xi Jj Ik Uh Th Yi Wi
mutual
noncomputable def Ib.j0:Nat→List Int→Bool→List Int→Int→Int→Int→List (Ke)→Option (Bool)
 | 0,_,_,_,_,_,_,_=>none
 | k + 1,x1,FU,Cc,Uc,Ic,Gc,ec=>if FU=true then (some false) else ((Ag.f Cc Uc Ic Gc ec).bind fun t103=>(Ib.l0 k x1 t103 0))
noncomputable def Ib.l0:Nat→List Int→List (List Bool)→Int→Option (Bool)
 | 0,_,_,_=>none
 | k + 1,x1,x5,x6=>if x6 < (x1.length:Int) then (if 0 ≤ x6 then ((Za.f (rd x1 x6) (-1) 11).bind fun t107=>(if t107=true then (Ib.l1 k x1 x5 x6 0) else (some false))) else (none)) else (some true)
noncomputable def Ib.l1:Nat→List Int→List (List Bool)→Int→Int→Option (Bool)
 | 0,_,_,_,_=>none
 | k + 1,x1,x5,x6,x7=>if x7 < x6 then (if 0 ≤ x6 then (if x6 < (x5.length:Int) then (if 0 ≤ x7 then (if x7 < ((Fc x5 x6).length:Int) then (if Pf false (Fc x5 x6) x7=true then (if x6 < (x1.length:Int) then (if (rd x1 x6) ≥ 0 then (if x7 < (x1.length:Int) then (if (rd x1 x6)=(rd x1 x7) then (some false) else (Ib.l1 k x1 x5 x6 (wrap64 (x7 + 1)))) else (none)) else (Ib.l1 k x1 x5 x6 (wrap64 (x7 + 1)))) else (none)) else (Ib.l1 k x1 x5 x6 (wrap64 (x7 + 1)))) else (none)) else (none)) else (none)) else (none)) else (Ib.l0 k x1 x5 (wrap64 (x6 + 1)))
end
noncomputable def Ib.f (k:Nat) (Oa:List Int) (Ja:Int) (Fa:Int) (Ia:Int) (Ca:List (Ke)) (l1:List Int):Option (Bool):=(Xa.f k Oa Ja Fa Ia Ca).bind fun t102=>(if t102=true then (Ib.j0 k l1 ((l1.length:Int) != Ia) Oa Ja Fa Ia Ca) else (Ib.j0 k l1 true Oa Ja Fa Ia Ca))
theorem Ib.calls (k:Nat) (Wa:Option Addr) (Ya:Nat) (Oa:List Int) (Ja:Int) (Fa:Int) (Ia:Int) (Ob:Option Addr) (Cb:Nat) (Ca:List (Ke)) (A1:Option Addr) (c1:Nat) (l1:List Int) (r:Bool) (w:World) (Ld:Kd.C (Kd.int .i64) w Wa Oa.length Oa) (Gd:Oa.length ≤ Ya) (Ue:Kd.C Gs w Ob Ca.length Ca) (Qe:Ca.length ≤ Cb) (eo:Kd.C (Kd.int .i64) w A1 l1.length l1) (Dl:l1.length ≤ c1) (h:Ib.f k Oa Ja Fa Ia Ca l1=some r) :
  Calls Try.prog 21 #[.agg #[.slice Wa Oa.length Ya,.int .i64 Ja,.int .i64 Fa,.int .i64 Ia,.slice Ob Ca.length Cb],.slice A1 l1.length c1] w fun e w'=>e = .returned (.bool r)∧Below w.heap.size w w':=by
 have gB:=Try.underlying30;have Md:=ja.mk Ld;have Rd:=ja.mk Gd;clear Ld Gd;have Ce:=ja.mk Ue;have Ff:=ja.mk Qe;clear Ue Qe;have Vo:=ja.mk eo;have FI:=ja.mk Dl;clear eo Dl;have HB:=ja.mk (Below.refl w.heap.size w);have H:((Xa.f k Oa Ja Fa Ia Ca).bind fun t102=>(if t102=true then (Ib.j0 k l1 ((l1.length:Int) != Ia) Oa Ja Fa Ia Ca) else (Ib.j0 k l1 true Oa Ja Fa Ia Ca)))=some r:=h;clear h;have AU:=ja.mk H;clear H;go_enter Try.func21,Try.ntmps21
 go_upto_region 1 with (first|((with_reducible refine qb (N:=2) rfl ?_);(try (refine kg (by rfl) ?_;dsimp only));refine Gb ?hg (N:=2) ?hd (cs:=#[.slice Wa Oa.length Ya,.int .i64 Ja,.int .i64 Fa,.int .i64 Ia,.slice Ob Ca.length Cb]) (t:=30) ?hr ?_;(case hd=>rfl);(case hg=>rfl);(case hr=>first|(go_simp;done)|(go_simp;rfl));intro ya hg w4 Rb hb;have Eb:=ja.mk (Na (by repeat (first|(with_reducible first|exact HB.out|apply qa|apply ia|apply ta)|exact HB.out)) hb);have Jb:=ja.mk (Rb);have Ub:=ja.mk ((by rw [hg];exact (Ga (by repeat (first|(with_reducible first|exact HB.out|apply qa|apply ia|apply ta)|exact HB.out))):w.heap.size ≤ ya));have uc:=ja.mk ((by rw [hg];exact (Ga (by repeat (first|(with_reducible first|exact HB.out|apply qa|apply ia|apply ta)|exact HB.out))):w.heap.size ≤ ya));clear HB;have HB:=Eb;have oa:=Jb;have xd:=Ub;have Ra:=uc;clear Eb Jb Ub uc hb Rb hg))
 repeat (go_quiet (first|((with_reducible refine qb (N:=2) rfl ?_);(try (refine kg (by rfl) ?_;dsimp only));refine Gb ?hg (N:=2) ?hd (cs:=#[.slice Wa Oa.length Ya,.int .i64 Ja,.int .i64 Fa,.int .i64 Ia,.slice Ob Ca.length Cb]) (t:=30) ?hr ?_;(case hd=>rfl);(case hg=>rfl);(case hr=>first|(go_simp;done)|(go_simp;rfl));intro ya hg w4 Rb hb;have Eb:=ja.mk (Na (by repeat (first|(with_reducible first|exact HB.out|apply qa|apply ia|apply ta)|exact HB.out)) hb);have Jb:=ja.mk (Rb);have Ub:=ja.mk ((by rw [hg];exact (Ga (by repeat (first|(with_reducible first|exact HB.out|apply qa|apply ia|apply ta)|exact HB.out))):w.heap.size ≤ ya));have uc:=ja.mk ((by rw [hg];exact (Ga (by repeat (first|(with_reducible first|exact HB.out|apply qa|apply ia|apply ta)|exact HB.out))):w.heap.size ≤ ya));clear HB;have HB:=Eb;have oa:=Jb;have xd:=Ub;have Ra:=uc;clear Eb Jb Ub uc hb Rb hg));go_upto_region 1 with (first|((with_reducible refine qb (N:=2) rfl ?_);(try (refine kg (by rfl) ?_;dsimp only));refine Gb ?hg (N:=2) ?hd (cs:=#[.slice Wa Oa.length Ya,.int .i64 Ja,.int .i64 Fa,.int .i64 Ia,.slice Ob Ca.length Cb]) (t:=30) ?hr ?_;(case hd=>rfl);(case hg=>rfl);(case hr=>first|(go_simp;done)|(go_simp;rfl));intro ya hg w4 Rb hb;have Eb:=ja.mk (Na (by repeat (first|(with_reducible first|exact HB.out|apply qa|apply ia|apply ta)|exact HB.out)) hb);have Jb:=ja.mk (Rb);have Ub:=ja.mk ((by rw [hg];exact (Ga (by repeat (first|(with_reducible first|exact HB.out|apply qa|apply ia|apply ta)|exact HB.out))):w.heap.size ≤ ya));have uc:=ja.mk ((by rw [hg];exact (Ga (by repeat (first|(with_reducible first|exact HB.out|apply qa|apply ia|apply ta)|exact HB.out))):w.heap.size ≤ ya));clear HB;have HB:=Eb;have oa:=Jb;have xd:=Ub;have Ra:=uc;clear Eb Jb Ub uc hb Rb hg)))
 (try simp only [Act.put,List.setIfInBounds_toArray,List.set_cons_zero,List.set_cons_succ])
 go_cut [17] (fun v17 wc=>∃ (kq:Nat) (qi:Bool),v17 = .bool qi∧ja (Ib.j0 kq l1 qi Oa Ja Fa Ia Ca=some r)∧ja (kq ≤ k)∧ja (wc.heap[ya]? = some (.cells #[(.slice Wa Oa.length Ya),.int .i64 Ja,.int .i64 Fa,.int .i64 Ia,(.slice Ob Ca.length Cb)] 30 (0,0)))∧ja (Below w.heap.size w wc))
 case first =>
  have H:=AU.out;clear AU;replace H:=Option.bind_eq_some_iff.mp H;obtain ⟨t102,NP,H⟩:=H;replace H:(if t102=true then (Ib.j0 k l1 ((l1.length:Int) != Ia) Oa Ja Fa Ia Ca) else (Ib.j0 k l1 true Oa Ja Fa Ia Ca))=some r:=H;have A5:=ja.mk NP;clear NP
  by_cases c6:t102=true
  ·subst c6;have H1:(Ib.j0 k l1 ((l1.length:Int) != Ia) Oa Ja Fa Ia Ca)=some r:=by rw [if_pos rfl] at H;exact H
   clear H;have H:=H1;clear H1;have H':=ja.mk H;clear H;have Ak:w4.cell? ⟨ya,0,none⟩=some (.slice Wa Oa.length Ya):=(ga oa.out 0).trans rfl;have zk:w4.cell? ⟨ya,1,none⟩=some (.int .i64 Ja):=(ga oa.out 1).trans rfl;have xk:w4.cell? ⟨ya,2,none⟩=some (.int .i64 Fa):=(ga oa.out 2).trans rfl;have vk:w4.cell? ⟨ya,3,none⟩=some (.int .i64 Ia):=(ga oa.out 3).trans rfl;have uk:w4.cell? ⟨ya,4,none⟩=some (.slice Ob Ca.length Cb):=(ga oa.out 4).trans rfl;have qk:=aa oa.out 0;have nk:=aa oa.out 1;have jk:=aa oa.out 2;have fk:=aa oa.out 3;have ek:=aa oa.out 4;go_wp2_with (first|(go_at_call 40;(with_reducible refine (Xa.calls k _ _ Oa Ja Fa Ia _ _ Ca true _ ?dc ?Zb ?Rc ?Qc A5.out).mono ?_);(case dc=>repeat (first|exact (Kd.Db Md.out HB.out)|(with_reducible refine Kd.Bb ?_ _)|(with_reducible refine Kd.Ab ?_ _)|(with_reducible refine Kd.Qb ?_)));(case Zb=>exact Rd.out);(case Rc=>repeat (first|exact (Kd.Db Ce.out HB.out)|(with_reducible refine Kd.Bb ?_ _)|(with_reducible refine Kd.Ab ?_ _)|(with_reducible refine Kd.Qb ?_)));(case Qc=>exact Ff.out);rintro e w8 ⟨rfl,hb⟩;have Eb:=ja.mk (Ta (g:=ya) (o:=.cells #[.slice Wa Oa.length Ya,.int .i64 Ja,.int .i64 Fa,.int .i64 Ia,.slice Ob Ca.length Cb] 30 (0,0)) (by (with_reducible repeat (first|refine Aa ?_ _|refine Da ?_|refine Ba ?_ _));exact oa.out) hb);have Jb:=ja.mk (Na (by repeat (first|(with_reducible first|exact HB.out|apply qa|apply ia|apply ta|refine ua ?_ Ra.out)|exact HB.out)) hb);clear oa HB;have oa:=Eb;have HB:=Jb;clear Eb Jb;(try clear hb);(try clear ni);(try clear hk);(try clear hi);have Vg:w8.cell? ⟨ya,0,none⟩=some (.slice Wa Oa.length Ya):=(ga oa.out 0).trans rfl;have Ug:w8.cell? ⟨ya,1,none⟩=some (.int .i64 Ja):=(ga oa.out 1).trans rfl;have Tg:w8.cell? ⟨ya,2,none⟩=some (.int .i64 Fa):=(ga oa.out 2).trans rfl;have Sg:w8.cell? ⟨ya,3,none⟩=some (.int .i64 Ia):=(ga oa.out 3).trans rfl;have Rg:w8.cell? ⟨ya,4,none⟩=some (.slice Ob Ca.length Cb):=(ga oa.out 4).trans rfl;have Qg:=aa oa.out 0;have Pg:=aa oa.out 1;have Og:=aa oa.out 2;have Ng:=aa oa.out 3;have Mg:=aa oa.out 4))
   repeat (go_quiet (first|(go_at_call 40;(with_reducible refine (Xa.calls k _ _ Oa Ja Fa Ia _ _ Ca true _ ?dc ?Zb ?Rc ?Qc A5.out).mono ?_);(case dc=>repeat (first|exact (Kd.Db Md.out HB.out)|(with_reducible refine Kd.Bb ?_ _)|(with_reducible refine Kd.Ab ?_ _)|(with_reducible refine Kd.Qb ?_)));(case Zb=>exact Rd.out);(case Rc=>repeat (first|exact (Kd.Db Ce.out HB.out)|(with_reducible refine Kd.Bb ?_ _)|(with_reducible refine Kd.Ab ?_ _)|(with_reducible refine Kd.Qb ?_)));(case Qc=>exact Ff.out);rintro e w8 ⟨rfl,hb⟩;have Eb:=ja.mk (Ta (g:=ya) (o:=.cells #[.slice Wa Oa.length Ya,.int .i64 Ja,.int .i64 Fa,.int .i64 Ia,.slice Ob Ca.length Cb] 30 (0,0)) (by (with_reducible repeat (first|refine Aa ?_ _|refine Da ?_|refine Ba ?_ _));exact oa.out) hb);have Jb:=ja.mk (Na (by repeat (first|(with_reducible first|exact HB.out|apply qa|apply ia|apply ta|refine ua ?_ Ra.out)|exact HB.out)) hb);clear oa HB;have oa:=Eb;have HB:=Jb;clear Eb Jb;(try clear hb);(try clear ni);(try clear hk);(try clear hi);have Vg:w8.cell? ⟨ya,0,none⟩=some (.slice Wa Oa.length Ya):=(ga oa.out 0).trans rfl;have Ug:w8.cell? ⟨ya,1,none⟩=some (.int .i64 Ja):=(ga oa.out 1).trans rfl;have Tg:w8.cell? ⟨ya,2,none⟩=some (.int .i64 Fa):=(ga oa.out 2).trans rfl;have Sg:w8.cell? ⟨ya,3,none⟩=some (.int .i64 Ia):=(ga oa.out 3).trans rfl;have Rg:w8.cell? ⟨ya,4,none⟩=some (.slice Ob Ca.length Cb):=(ga oa.out 4).trans rfl;have Qg:=aa oa.out 0;have Pg:=aa oa.out 1;have Og:=aa oa.out 2;have Ng:=aa oa.out 3;have Mg:=aa oa.out 4));try go_wp2_with (first|(go_at_call 40;(with_reducible refine (Xa.calls k _ _ Oa Ja Fa Ia _ _ Ca true _ ?dc ?Zb ?Rc ?Qc A5.out).mono ?_);(case dc=>repeat (first|exact (Kd.Db Md.out HB.out)|(with_reducible refine Kd.Bb ?_ _)|(with_reducible refine Kd.Ab ?_ _)|(with_reducible refine Kd.Qb ?_)));(case Zb=>exact Rd.out);(case Rc=>repeat (first|exact (Kd.Db Ce.out HB.out)|(with_reducible refine Kd.Bb ?_ _)|(with_reducible refine Kd.Ab ?_ _)|(with_reducible refine Kd.Qb ?_)));(case Qc=>exact Ff.out);rintro e w8 ⟨rfl,hb⟩;have Eb:=ja.mk (Ta (g:=ya) (o:=.cells #[.slice Wa Oa.length Ya,.int .i64 Ja,.int .i64 Fa,.int .i64 Ia,.slice Ob Ca.length Cb] 30 (0,0)) (by (with_reducible repeat (first|refine Aa ?_ _|refine Da ?_|refine Ba ?_ _));exact oa.out) hb);have Jb:=ja.mk (Na (by repeat (first|(with_reducible first|exact HB.out|apply qa|apply ia|apply ta|refine ua ?_ Ra.out)|exact HB.out)) hb);clear oa HB;have oa:=Eb;have HB:=Jb;clear Eb Jb;(try clear hb);(try clear ni);(try clear hk);(try clear hi);have Vg:w8.cell? ⟨ya,0,none⟩=some (.slice Wa Oa.length Ya):=(ga oa.out 0).trans rfl;have Ug:w8.cell? ⟨ya,1,none⟩=some (.int .i64 Ja):=(ga oa.out 1).trans rfl;have Tg:w8.cell? ⟨ya,2,none⟩=some (.int .i64 Fa):=(ga oa.out 2).trans rfl;have Sg:w8.cell? ⟨ya,3,none⟩=some (.int .i64 Ia):=(ga oa.out 3).trans rfl;have Rg:w8.cell? ⟨ya,4,none⟩=some (.slice Ob Ca.length Cb):=(ga oa.out 4).trans rfl;have Qg:=aa oa.out 0;have Pg:=aa oa.out 1;have Og:=aa oa.out 2;have Ng:=aa oa.out 3;have Mg:=aa oa.out 4)))
   go_meet
   case rel=>exact ⟨_,(((l1.length:Int) != Ia)),(by first|rfl|(simp;done)|(simp [*];done)),H',⟨by first|omega|exact Nat.le_refl _⟩,⟨by (with_reducible repeat (first|refine Aa ?_ _|refine Da ?_|refine Ba ?_ _));exact oa.out⟩,⟨by repeat (first|(with_reducible first|exact HB.out|apply qa|apply ia|apply ta|refine ua ?_ Ra.out)|exact HB.out)⟩⟩
  ·replace c6:=Bool.eq_false_iff.mpr c6;subst c6;have H1:(Ib.j0 k l1 true Oa Ja Fa Ia Ca)=some r:=by rw [if_neg (show ¬ (false=true) by decide)] at H;exact H
   clear H;have H:=H1;clear H1;have H':=ja.mk H;clear H;have Ah:w4.cell? ⟨ya,0,none⟩=some (.slice Wa Oa.length Ya):=(ga oa.out 0).trans rfl;have zh:w4.cell? ⟨ya,1,none⟩=some (.int .i64 Ja):=(ga oa.out 1).trans rfl;have yh:w4.cell? ⟨ya,2,none⟩=some (.int .i64 Fa):=(ga oa.out 2).trans rfl;have xh:w4.cell? ⟨ya,3,none⟩=some (.int .i64 Ia):=(ga oa.out 3).trans rfl;have wh:w4.cell? ⟨ya,4,none⟩=some (.slice Ob Ca.length Cb):=(ga oa.out 4).trans rfl;have mh:=aa oa.out 0;have jh:=aa oa.out 1;have gh:=aa oa.out 2;have fh:=aa oa.out 3;have dh:=aa oa.out 4;go_wp2_with (first|(go_at_call 40;(with_reducible refine (Xa.calls k _ _ Oa Ja Fa Ia _ _ Ca false _ ?dc ?Zb ?Rc ?Qc A5.out).mono ?_);(case dc=>repeat (first|exact (Kd.Db Md.out HB.out)|(with_reducible refine Kd.Bb ?_ _)|(with_reducible refine Kd.Ab ?_ _)|(with_reducible refine Kd.Qb ?_)));(case Zb=>exact Rd.out);(case Rc=>repeat (first|exact (Kd.Db Ce.out HB.out)|(with_reducible refine Kd.Bb ?_ _)|(with_reducible refine Kd.Ab ?_ _)|(with_reducible refine Kd.Qb ?_)));(case Qc=>exact Ff.out);rintro e kj ⟨rfl,hb⟩;have Eb:=ja.mk (Ta (g:=ya) (o:=.cells #[.slice Wa Oa.length Ya,.int .i64 Ja,.int .i64 Fa,.int .i64 Ia,.slice Ob Ca.length Cb] 30 (0,0)) (by (with_reducible repeat (first|refine Aa ?_ _|refine Da ?_|refine Ba ?_ _));exact oa.out) hb);have Jb:=ja.mk (Na (by repeat (first|(with_reducible first|exact HB.out|apply qa|apply ia|apply ta|refine ua ?_ Ra.out)|exact HB.out)) hb);clear oa HB;have oa:=Eb;have HB:=Jb;clear Eb Jb;(try clear hb);(try clear ni);(try clear hk);(try clear hi)))
   repeat (go_quiet (first|(go_at_call 40;(with_reducible refine (Xa.calls k _ _ Oa Ja Fa Ia _ _ Ca false _ ?dc ?Zb ?Rc ?Qc A5.out).mono ?_);(case dc=>repeat (first|exact (Kd.Db Md.out HB.out)|(with_reducible refine Kd.Bb ?_ _)|(with_reducible refine Kd.Ab ?_ _)|(with_reducible refine Kd.Qb ?_)));(case Zb=>exact Rd.out);(case Rc=>repeat (first|exact (Kd.Db Ce.out HB.out)|(with_reducible refine Kd.Bb ?_ _)|(with_reducible refine Kd.Ab ?_ _)|(with_reducible refine Kd.Qb ?_)));(case Qc=>exact Ff.out);rintro e kj ⟨rfl,hb⟩;have Eb:=ja.mk (Ta (g:=ya) (o:=.cells #[.slice Wa Oa.length Ya,.int .i64 Ja,.int .i64 Fa,.int .i64 Ia,.slice Ob Ca.length Cb] 30 (0,0)) (by (with_reducible repeat (first|refine Aa ?_ _|refine Da ?_|refine Ba ?_ _));exact oa.out) hb);have Jb:=ja.mk (Na (by repeat (first|(with_reducible first|exact HB.out|apply qa|apply ia|apply ta|refine ua ?_ Ra.out)|exact HB.out)) hb);clear oa HB;have oa:=Eb;have HB:=Jb;clear Eb Jb;(try clear hb);(try clear ni);(try clear hk);(try clear hi)));try go_wp2_with (first|(go_at_call 40;(with_reducible refine (Xa.calls k _ _ Oa Ja Fa Ia _ _ Ca false _ ?dc ?Zb ?Rc ?Qc A5.out).mono ?_);(case dc=>repeat (first|exact (Kd.Db Md.out HB.out)|(with_reducible refine Kd.Bb ?_ _)|(with_reducible refine Kd.Ab ?_ _)|(with_reducible refine Kd.Qb ?_)));(case Zb=>exact Rd.out);(case Rc=>repeat (first|exact (Kd.Db Ce.out HB.out)|(with_reducible refine Kd.Bb ?_ _)|(with_reducible refine Kd.Ab ?_ _)|(with_reducible refine Kd.Qb ?_)));(case Qc=>exact Ff.out);rintro e kj ⟨rfl,hb⟩;have Eb:=ja.mk (Ta (g:=ya) (o:=.cells #[.slice Wa Oa.length Ya,.int .i64 Ja,.int .i64 Fa,.int .i64 Ia,.slice Ob Ca.length Cb] 30 (0,0)) (by (with_reducible repeat (first|refine Aa ?_ _|refine Da ?_|refine Ba ?_ _));exact oa.out) hb);have Jb:=ja.mk (Na (by repeat (first|(with_reducible first|exact HB.out|apply qa|apply ia|apply ta|refine ua ?_ Ra.out)|exact HB.out)) hb);clear oa HB;have oa:=Eb;have HB:=Jb;clear Eb Jb;(try clear hb);(try clear ni);(try clear hk);(try clear hi))))
   go_meet
   case rel=>exact ⟨_,(true),(by first|rfl|(simp;done)|(simp [*];done)),H',⟨by first|omega|exact Nat.le_refl _⟩,⟨by (with_reducible repeat (first|refine Aa ?_ _|refine Da ?_|refine Ba ?_ _));exact oa.out⟩,⟨by repeat (first|(with_reducible first|exact HB.out|apply qa|apply ia|apply ta|refine ua ?_ Ra.out)|exact HB.out)⟩⟩
 case rest =>
  clear AU
  try clear c1
  try clear c2
  try clear p2
  try clear c6
  try clear Ah
  try clear zh
  try clear yh
  try clear xh
  try clear wh
  try clear Ak
  try clear zk
  try clear xk
  try clear vk
  try clear uk
  try clear Vg
  try clear Ug
  try clear Tg
  try clear Sg
  try clear Rg
  try clear mh
  try clear jh
  try clear gh
  try clear fh
  try clear dh
  try clear qk
  try clear nk
  try clear jk
  try clear fk
  try clear ek
  try clear Qg
  try clear Pg
  try clear Og
  try clear Ng
  try clear Mg
  obtain ⟨kq,qi,rfl,HA,MJ,oa,HB⟩:=hcut;cases kq with
  | zero=>exact absurd HA.out (by simp [Ib.j0])
  | succ iV =>
   have H:=HA.out;clear HA;simp only [Ib.j0] at H
   by_cases Xr:qi=true
   ·subst Xr;have H1:(some false)=some r:=by rw [if_pos rfl] at H;exact H
    clear H;have H:=H1;clear H1;obtain rfl:=Option.some.inj H;go_wp2
    repeat (go_quiet (fail);try go_wp2)
    go_ret;exact ⟨by first|rfl|(simp [Ma,La] <;> rfl)|(simp [*,Ma,La] <;> rfl),by repeat (first|(with_reducible first|exact HB.out|apply qa|apply ia|apply ta|refine ua ?_ Ra.out)|exact HB.out)⟩
   ·replace Xr:=Bool.eq_false_iff.mpr Xr;subst Xr;have H1:((Ag.f Oa Ja Fa Ia Ca).bind fun t103=>(Ib.l0 iV l1 t103 0))=some r:=by rw [if_neg (show ¬ (false=true) by decide)] at H;exact H
    clear H;have H:=H1;clear H1;replace H:=Option.bind_eq_some_iff.mp H;obtain ⟨t103,TD,H⟩:=H;replace H:(Ib.l0 iV l1 t103 0)=some r:=H;have gM:=ja.mk TD;clear TD;have H':=ja.mk H;clear H;have uh:wc.cell? ⟨ya,0,none⟩=some (.slice Wa Oa.length Ya):=(ga oa.out 0).trans rfl;have th:wc.cell? ⟨ya,1,none⟩=some (.int .i64 Ja):=(ga oa.out 1).trans rfl;have qh:wc.cell? ⟨ya,2,none⟩=some (.int .i64 Fa):=(ga oa.out 2).trans rfl;have oh:wc.cell? ⟨ya,3,none⟩=some (.int .i64 Ia):=(ga oa.out 3).trans rfl;have nh:wc.cell? ⟨ya,4,none⟩=some (.slice Ob Ca.length Cb):=(ga oa.out 4).trans rfl;have bh:=aa oa.out 0;have ah:=aa oa.out 1;have Zg:=aa oa.out 2;have Yg:=aa oa.out 3;have Xg:=aa oa.out 4;go_wp2_with (first|(go_at_call 57;(with_reducible refine (Ag.calls _ _ Oa Ja Fa Ia _ _ Ca t103 _ ?dc ?Zb ?Rc ?Qc gM.out).mono ?_);(case dc=>repeat (first|exact (Kd.Db Md.out HB.out)|(with_reducible refine Kd.Bb ?_ _)|(with_reducible refine Kd.Ab ?_ _)|(with_reducible refine Kd.Qb ?_)));(case Zb=>exact Rd.out);(case Rc=>repeat (first|exact (Kd.Db Ce.out HB.out)|(with_reducible refine Kd.Bb ?_ _)|(with_reducible refine Kd.Ab ?_ _)|(with_reducible refine Kd.Qb ?_)));(case Qc=>exact Ff.out);rintro e ou ⟨JI,rfl,Qi,hb⟩;have Eb:=ja.mk (Kd.vl Qi (Ga (by repeat (first|(with_reducible first|exact HB.out|apply qa|apply ia|apply ta|refine ua ?_ Ra.out)|exact HB.out))));have Jb:=ja.mk (Ta (g:=ya) (o:=.cells #[.slice Wa Oa.length Ya,.int .i64 Ja,.int .i64 Fa,.int .i64 Ia,.slice Ob Ca.length Cb] 30 (0,0)) (by (with_reducible repeat (first|refine Aa ?_ _|refine Da ?_|refine Ba ?_ _));exact oa.out) hb);have Ub:=ja.mk (Na (by repeat (first|(with_reducible first|exact HB.out|apply qa|apply ia|apply ta|refine ua ?_ Ra.out)|exact HB.out)) hb);clear oa HB;have Af:=Eb;have oa:=Jb;have HB:=Ub;clear Eb Jb Ub;(try clear hb);(try clear ni);(try clear hk);(try clear hi);(try clear Qi)))
    repeat (go_quiet (first|(go_at_call 57;(with_reducible refine (Ag.calls _ _ Oa Ja Fa Ia _ _ Ca t103 _ ?dc ?Zb ?Rc ?Qc gM.out).mono ?_);(case dc=>repeat (first|exact (Kd.Db Md.out HB.out)|(with_reducible refine Kd.Bb ?_ _)|(with_reducible refine Kd.Ab ?_ _)|(with_reducible refine Kd.Qb ?_)));(case Zb=>exact Rd.out);(case Rc=>repeat (first|exact (Kd.Db Ce.out HB.out)|(with_reducible refine Kd.Bb ?_ _)|(with_reducible refine Kd.Ab ?_ _)|(with_reducible refine Kd.Qb ?_)));(case Qc=>exact Ff.out);rintro e ou ⟨JI,rfl,Qi,hb⟩;have Eb:=ja.mk (Kd.vl Qi (Ga (by repeat (first|(with_reducible first|exact HB.out|apply qa|apply ia|apply ta|refine ua ?_ Ra.out)|exact HB.out))));have Jb:=ja.mk (Ta (g:=ya) (o:=.cells #[.slice Wa Oa.length Ya,.int .i64 Ja,.int .i64 Fa,.int .i64 Ia,.slice Ob Ca.length Cb] 30 (0,0)) (by (with_reducible repeat (first|refine Aa ?_ _|refine Da ?_|refine Ba ?_ _));exact oa.out) hb);have Ub:=ja.mk (Na (by repeat (first|(with_reducible first|exact HB.out|apply qa|apply ia|apply ta|refine ua ?_ Ra.out)|exact HB.out)) hb);clear oa HB;have Af:=Eb;have oa:=Jb;have HB:=Ub;clear Eb Jb Ub;(try clear hb);(try clear ni);(try clear hk);(try clear hi);(try clear Qi)));try go_wp2_with (first|(go_at_call 57;(with_reducible refine (Ag.calls _ _ Oa Ja Fa Ia _ _ Ca t103 _ ?dc ?Zb ?Rc ?Qc gM.out).mono ?_);(case dc=>repeat (first|exact (Kd.Db Md.out HB.out)|(with_reducible refine Kd.Bb ?_ _)|(with_reducible refine Kd.Ab ?_ _)|(with_reducible refine Kd.Qb ?_)));(case Zb=>exact Rd.out);(case Rc=>repeat (first|exact (Kd.Db Ce.out HB.out)|(with_reducible refine Kd.Bb ?_ _)|(with_reducible refine Kd.Ab ?_ _)|(with_reducible refine Kd.Qb ?_)));(case Qc=>exact Ff.out);rintro e ou ⟨JI,rfl,Qi,hb⟩;have Eb:=ja.mk (Kd.vl Qi (Ga (by repeat (first|(with_reducible first|exact HB.out|apply qa|apply ia|apply ta|refine ua ?_ Ra.out)|exact HB.out))));have Jb:=ja.mk (Ta (g:=ya) (o:=.cells #[.slice Wa Oa.length Ya,.int .i64 Ja,.int .i64 Fa,.int .i64 Ia,.slice Ob Ca.length Cb] 30 (0,0)) (by (with_reducible repeat (first|refine Aa ?_ _|refine Da ?_|refine Ba ?_ _));exact oa.out) hb);have Ub:=ja.mk (Na (by repeat (first|(with_reducible first|exact HB.out|apply qa|apply ia|apply ta|refine ua ?_ Ra.out)|exact HB.out)) hb);clear oa HB;have Af:=Eb;have oa:=Jb;have HB:=Ub;clear Eb Jb Ub;(try clear hb);(try clear ni);(try clear hk);(try clear hi);(try clear Qi))))
    go_loopg [6] iV (fun kq v6 w'=>∃ (xe:Int),v6 = .int .i64 xe∧ja (Ib.l0 kq l1 t103 xe=some r)∧ja (kq ≤ iV)∧ja (Kd.S (Kd.slice 4 Kd.bool) 60 w' w.heap.size (fun _=>True) JI t103)∧ja (w'.heap[ya]? = some (.cells #[(.slice Wa Oa.length Ya),.int .i64 Ja,.int .i64 Fa,.int .i64 Ia,(.slice Ob Ca.length Cb)] 30 (0,0)))∧ja (Below w.heap.size w w'))
    case atStart=>exact ⟨(0),(by first|rfl|(simp;done)|(simp [*];done)),H',⟨Nat.le_refl _⟩,⟨by (with_reducible repeat (first|apply Kd.ld|apply Kd.jd|apply Kd.Jd));exact Af.out⟩,⟨by (with_reducible repeat (first|refine Aa ?_ _|refine Da ?_|refine Ba ?_ _));exact oa.out⟩,⟨by repeat (first|(with_reducible first|exact HB.out|apply qa|apply ia|apply ta|refine ua ?_ Ra.out)|exact HB.out)⟩⟩
    case round =>
     clear H'
     try clear c1
     try clear c2
     try clear p2
     try clear c6
     try clear Xr
     try clear Ah
     try clear zh
     try clear yh
     try clear xh
     try clear wh
     try clear uh
     try clear th
     try clear qh
     try clear oh
     try clear nh
     try clear Ak
     try clear zk
     try clear xk
     try clear vk
     try clear uk
     try clear Vg
     try clear Ug
     try clear Tg
     try clear Sg
     try clear Rg
     try clear mh
     try clear jh
     try clear gh
     try clear fh
     try clear dh
     try clear bh
     try clear ah
     try clear Zg
     try clear Yg
     try clear Xg
     try clear qk
     try clear nk
     try clear jk
     try clear fk
     try clear ek
     try clear Qg
     try clear Pg
     try clear Og
     try clear Ng
     try clear Mg
     try clear p2
     (try clear HA);(try clear Xo);(try clear Ok);(try clear oa);(try clear HB);obtain ⟨xe,rfl,HA,Xo,Ok,oa,HB⟩:=hrel;cases gk with
     | zero=>exact absurd HA.out (by simp [Ib.l0])
     | succ k2 =>
      have H:=HA.out;clear HA;simp only [Ib.l0] at H
      by_cases VA:xe < (l1.length:Int)
      ·rw [if_pos VA] at H;have kT:decide (xe < (l1.length:Int))=true:=decide_eq_true VA;clear VA
       by_cases Qo:0 ≤ xe
       ·rw [if_pos Qo] at H;have Bm:decide (0 ≤ xe)=true:=decide_eq_true Qo;clear Qo;replace H:=Option.bind_eq_some_iff.mp H;obtain ⟨t107,TJ,H⟩:=H;replace H:(if t107=true then (Ib.l1 k2 l1 t103 xe 0) else (some false))=some r:=H;have rI:=ja.mk TJ;clear TJ
        by_cases Xk:t107=true
        ·subst Xk;have H1:(Ib.l1 k2 l1 t103 xe 0)=some r:=by rw [if_pos rfl] at H;exact H
         clear H;have H:=H1;clear H1;have H':=ja.mk H;clear H;have xp:0 ≤ (xe:Int):=Sa;have qp:xe < (l1.length:Int):=Sa;obtain ⟨gu,WH,Oj⟩:=Kd.Zf Vo.out xe xp qp;cases WH
         try replace Oj:=Qa HB.out Oj
         replace xp:=eq_true xp;replace qp:=eq_true qp;go_wp2_with (first|(go_at_call 53;(with_reducible refine (Za.calls (rd l1 xe) (-1) 11 true _ rI.out).mono ?_);rintro e w' ⟨rfl,⟨nd,rfl⟩⟩;(try first|exact ⟨rfl,_,World.drewN_drewN _ _ _⟩|exact ⟨rfl,_,Eq.trans (World.drewN_drewN _ _ _) (congrArg (World.drewN _) (Nat.add_assoc _ _ _))⟩)))
         repeat (go_quiet (first|(go_at_call 53;(with_reducible refine (Za.calls (rd l1 xe) (-1) 11 true _ rI.out).mono ?_);rintro e w' ⟨rfl,⟨nd,rfl⟩⟩;(try first|exact ⟨rfl,_,World.drewN_drewN _ _ _⟩|exact ⟨rfl,_,Eq.trans (World.drewN_drewN _ _ _) (congrArg (World.drewN _) (Nat.add_assoc _ _ _))⟩)));try go_wp2_with (first|(go_at_call 53;(with_reducible refine (Za.calls (rd l1 xe) (-1) 11 true _ rI.out).mono ?_);rintro e w' ⟨rfl,⟨nd,rfl⟩⟩;(try first|exact ⟨rfl,_,World.drewN_drewN _ _ _⟩|exact ⟨rfl,_,Eq.trans (World.drewN_drewN _ _ _) (congrArg (World.drewN _) (Nat.add_assoc _ _ _))⟩))))
         go_loopg [7] k2 (fun kq v7 w'=>∃ (Hh:Int),v7 = .int .i64 Hh∧ja (Ib.l1 kq l1 t103 xe Hh=some r)∧ja (kq ≤ k2)∧ja (Kd.S (Kd.slice 4 Kd.bool) 60 w' w.heap.size (fun _=>True) JI t103)∧ja (w'.heap[ya]? = some (.cells #[(.slice Wa Oa.length Ya),.int .i64 Ja,.int .i64 Fa,.int .i64 Ia,(.slice Ob Ca.length Cb)] 30 (0,0)))∧ja (Below w.heap.size w w'))
         case atStart=>exact ⟨(0),(by first|rfl|(simp;done)|(simp [*];done)),H',⟨Nat.le_refl _⟩,⟨by (with_reducible repeat (first|apply Kd.ld|apply Kd.jd|apply Kd.Jd));exact Ok.out⟩,⟨by (with_reducible repeat (first|refine Aa ?_ _|refine Da ?_|refine Ba ?_ _));exact oa.out⟩,⟨by repeat (first|(with_reducible first|exact HB.out|apply qa|apply ia|apply ta|refine ua ?_ Ra.out)|exact HB.out)⟩⟩
         case round =>
          clear H'
          try clear c1
          try clear p1
          try clear q1
          try clear hx1
          try clear c2
          try clear p2
          try clear c6
          try clear YP
          try clear XP
          try clear jV
          try clear Xr
          try clear VA
          try clear kT
          try clear Qo
          try clear Bm
          try clear Xk
          try clear Ah
          try clear zh
          try clear yh
          try clear xh
          try clear wh
          try clear uh
          try clear th
          try clear qh
          try clear oh
          try clear nh
          try clear Ak
          try clear zk
          try clear xk
          try clear vk
          try clear uk
          try clear Vg
          try clear Ug
          try clear Tg
          try clear Sg
          try clear Rg
          try clear mh
          try clear jh
          try clear gh
          try clear fh
          try clear dh
          try clear bh
          try clear ah
          try clear Zg
          try clear Yg
          try clear Xg
          try clear qk
          try clear nk
          try clear jk
          try clear fk
          try clear ek
          try clear Qg
          try clear Pg
          try clear Og
          try clear Ng
          try clear Mg
          try clear Oj
          try clear xp
          try clear p2
          try clear qp
          (try clear HA);(try clear Es);(try clear Ok);(try clear oa);(try clear HB);obtain ⟨Hh,rfl,HA,Es,Ok,oa,HB⟩:=hrel;cases gk with
          | zero=>exact absurd HA.out (by simp [Ib.l1])
          | succ k3 =>
           have H:=HA.out;clear HA;simp only [Ib.l1] at H
           by_cases Mn:Hh < xe
           ·rw [if_pos Mn] at H;have Wr:decide (Hh < xe)=true:=decide_eq_true Mn;clear Mn
            by_cases Vr:0 ≤ xe
            ·rw [if_pos Vr] at H;have yJ:decide (0 ≤ xe)=true:=decide_eq_true Vr;clear Vr
             by_cases kB:xe < (t103.length:Int)
             ·rw [if_pos kB] at H;have eac:decide (xe < (t103.length:Int))=true:=decide_eq_true kB;clear kB
              by_cases uw:0 ≤ Hh
              ·rw [if_pos uw] at H;have BD:decide (0 ≤ Hh)=true:=decide_eq_true uw;clear uw
               by_cases zD:Hh < ((Fc t103 xe).length:Int)
               ·rw [if_pos zD] at H;have gT:decide (Hh < ((Fc t103 xe).length:Int))=true:=decide_eq_true zD;clear zD;obtain ⟨kac,MS⟩:∃ b_:Bool,b_=(Pf false (Fc t103 xe) Hh):=⟨_,rfl⟩;replace H:(if kac=true then (if xe < (l1.length:Int) then (if (rd l1 xe) ≥ 0 then (if Hh < (l1.length:Int) then (if (rd l1 xe)=(rd l1 Hh) then (some false) else (Ib.l1 k3 l1 t103 xe (wrap64 (Hh + 1)))) else (none)) else (Ib.l1 k3 l1 t103 xe (wrap64 (Hh + 1)))) else (none)) else (Ib.l1 k3 l1 t103 xe (wrap64 (Hh + 1))))=some r:=by rw [← MS] at H;exact H
                have BP:=ja.mk MS;clear MS
                by_cases xJ:kac=true
                ·subst xJ;have H1:(if xe < (l1.length:Int) then (if (rd l1 xe) ≥ 0 then (if Hh < (l1.length:Int) then (if (rd l1 xe)=(rd l1 Hh) then (some false) else (Ib.l1 k3 l1 t103 xe (wrap64 (Hh + 1)))) else (none)) else (Ib.l1 k3 l1 t103 xe (wrap64 (Hh + 1)))) else (none))=some r:=by rw [if_pos rfl] at H;exact H
                 clear H;have H:=H1;clear H1
                 by_cases vE:xe < (l1.length:Int)
                 ·rw [if_pos vE] at H;have nZ:decide (xe < (l1.length:Int))=true:=decide_eq_true vE;clear vE
                  by_cases BI:(rd l1 xe) ≥ 0
                  ·rw [if_pos BI] at H;have oP:decide (0 ≤ (rd l1 xe))=true:=decide_eq_true BI;clear BI
                   by_cases yD:Hh < (l1.length:Int)
                   ·rw [if_pos yD] at H;have xz:decide (Hh < (l1.length:Int))=true:=decide_eq_true yD;clear yD
                    by_cases Sw:(rd l1 xe)=(rd l1 Hh)
                    ·rw [if_pos Sw] at H;have UA:((rd l1 xe) == (rd l1 Hh))=true:=beq_iff_eq.mpr Sw;have nP:((rd l1 xe) != (rd l1 Hh))=false:=bne_eq_false_iff_eq.mpr Sw;clear Sw;obtain rfl:=Option.some.inj H;obtain ⟨j6,XS,KQ⟩:=Kd.ei Ok.out;subst KQ;have Qs:0 ≤ (xe:Int):=Sa;have Ms:xe < (t103.length:Int):=Sa;obtain ⟨uT,iM,NL,DL,Vs,wm,ym⟩:=Sm (Kd.Ud Ok.out).2.2 xe Qs Ms;cases DL;obtain ⟨YS,Lw,Mw,Mp⟩:=Kd.zw Ok.out [] xe Qs (by first|exact Ms|exact Sa|(have e_:=(Kd.Ud Ok.out).1;omega));obtain ⟨pF,rfl,tj⟩:=Mw;have Dg:=Mp 0 _ rfl;rw [Nat.add_zero,show ((Kd.slice 4 Kd.bool)).sz=1 from rfl,Nat.mul_one] at Dg;replace Dg:=Option.some.inj (Dg.symm.trans Vs);rw [Dg] at tj;have lI:=ja.mk (show Kd.R Kd.bool 4 _ _ _ _ (Fc t103 xe) from tj);clear Dg tj Mp Lw;have Im:=ja.mk ym;have oI:=ja.mk wm;clear ym wm;replace Qs:=eq_true Qs;replace Ms:=eq_true Ms;have Dh:0 ≤ (Hh:Int):=Sa;have Ch:Hh < ((Fc t103 xe).length:Int):=Sa;obtain ⟨Kf,Wn,ue⟩:=Kd.Bh (by repeat (first|(with_reducible exact Im.out)|(with_reducible refine Kd.Bb ?_ _)|(with_reducible refine Kd.Ab ?_ _)|(with_reducible refine Kd.Qb ?_)|exact Im.out)) Hh Dh Ch;(try rw [← BP.out] at ue);cases Wn;replace Dh:=eq_true Dh;replace Ch:=eq_true Ch;have Bl:0 ≤ (xe:Int):=Sa;have Al:xe < (l1.length:Int):=Sa;obtain ⟨Wp,Pw,Lf⟩:=Kd.Zf Vo.out xe Bl Al;obtain rfl:gu=Wp:=(by injection Pw)
                     try replace Lf:=Qa HB.out Lf
                     replace Bl:=eq_true Bl;replace Al:=eq_true Al;have Cr:0 ≤ (xe:Int):=Sa;have Br:xe < (l1.length:Int):=Sa;obtain ⟨Mi,VH,Ri⟩:=Kd.Zf Vo.out xe Cr Br;obtain rfl:gu=Mi:=(by injection VH)
                     try replace Ri:=Qa HB.out Ri
                     replace Cr:=eq_true Cr;replace Br:=eq_true Br;have Hw:0 ≤ (Hh:Int):=Sa;have Fw:Hh < (l1.length:Int):=Sa;obtain ⟨FD,CL,Wl⟩:=Kd.Zf Vo.out Hh Hw Fw;obtain rfl:gu=FD:=(by injection CL)
                     try replace Wl:=Qa HB.out Wl
                     replace Hw:=eq_true Hw;replace Fw:=eq_true Fw;go_wp2
                     repeat (go_quiet (fail);try go_wp2)
                     go_ret;exact ⟨by first|rfl|(simp [Ma,La] <;> rfl)|(simp [*,Ma,La] <;> rfl),by repeat (first|(with_reducible first|exact HB.out|apply qa|apply ia|apply ta|refine ua ?_ Ra.out)|exact HB.out)⟩
                    ·rw [if_neg Sw] at H;have UA:((rd l1 xe) == (rd l1 Hh))=false:=beq_eq_false_iff_ne.mpr Sw;have nP:((rd l1 xe) != (rd l1 Hh))=true:=bne_iff_ne.mpr Sw;have H':=ja.mk H;clear H;obtain ⟨fav,Zat,Fan⟩:=Kd.ei Ok.out;subst Fan;have Qs:0 ≤ (xe:Int):=Sa;have Ms:xe < (t103.length:Int):=Sa;obtain ⟨uT,iM,NL,DL,Vs,wm,ym⟩:=Sm (Kd.Ud Ok.out).2.2 xe Qs Ms;cases DL;obtain ⟨YS,Lw,Mw,Mp⟩:=Kd.zw Ok.out [] xe Qs (by first|exact Ms|exact Sa|(have e_:=(Kd.Ud Ok.out).1;omega));obtain ⟨pF,rfl,tj⟩:=Mw;have Dg:=Mp 0 _ rfl;rw [Nat.add_zero,show ((Kd.slice 4 Kd.bool)).sz=1 from rfl,Nat.mul_one] at Dg;replace Dg:=Option.some.inj (Dg.symm.trans Vs);rw [Dg] at tj;have lI:=ja.mk (show Kd.R Kd.bool 4 _ _ _ _ (Fc t103 xe) from tj);clear Dg tj Mp Lw;have Im:=ja.mk ym;have oI:=ja.mk wm;clear ym wm;replace Qs:=eq_true Qs;replace Ms:=eq_true Ms;have Dh:0 ≤ (Hh:Int):=Sa;have Ch:Hh < ((Fc t103 xe).length:Int):=Sa;obtain ⟨Kf,Wn,ue⟩:=Kd.Bh (by repeat (first|(with_reducible exact Im.out)|(with_reducible refine Kd.Bb ?_ _)|(with_reducible refine Kd.Ab ?_ _)|(with_reducible refine Kd.Qb ?_)|exact Im.out)) Hh Dh Ch;(try rw [← BP.out] at ue);cases Wn;replace Dh:=eq_true Dh;replace Ch:=eq_true Ch;have Bl:0 ≤ (xe:Int):=Sa;have Al:xe < (l1.length:Int):=Sa;obtain ⟨Wp,Pw,Lf⟩:=Kd.Zf Vo.out xe Bl Al;obtain rfl:gu=Wp:=(by injection Pw)
                     try replace Lf:=Qa HB.out Lf
                     replace Bl:=eq_true Bl;replace Al:=eq_true Al;have Cr:0 ≤ (xe:Int):=Sa;have Br:xe < (l1.length:Int):=Sa;obtain ⟨Mi,VH,Ri⟩:=Kd.Zf Vo.out xe Cr Br;obtain rfl:gu=Mi:=(by injection VH)
                     try replace Ri:=Qa HB.out Ri
                     replace Cr:=eq_true Cr;replace Br:=eq_true Br;have Hw:0 ≤ (Hh:Int):=Sa;have Fw:Hh < (l1.length:Int):=Sa;obtain ⟨FD,CL,Wl⟩:=Kd.Zf Vo.out Hh Hw Fw;obtain rfl:gu=FD:=(by injection CL)
                     try replace Wl:=Qa HB.out Wl
                     replace Hw:=eq_true Hw;replace Fw:=eq_true Fw;go_wp2
                     repeat (go_quiet (fail);try go_wp2)
                     go_roundg k3
                     case measure=>have:=MJ.out;have:=Xo.out;have:=Es.out;omega
                     case rel=>exact ⟨(wrap64 (Hh + 1)),(by first|rfl|(simp;done)|(simp [*];done)),H',⟨by have:=MJ.out;have:=Xo.out;have:=Es.out;omega⟩,⟨by (with_reducible repeat (first|apply Kd.ld|apply Kd.jd|apply Kd.Jd));exact Ok.out⟩,⟨by (with_reducible repeat (first|refine Aa ?_ _|refine Da ?_|refine Ba ?_ _));exact oa.out⟩,⟨by repeat (first|(with_reducible first|exact HB.out|apply qa|apply ia|apply ta|refine ua ?_ Ra.out)|exact HB.out)⟩⟩
                   ·rw [if_neg yD] at H;exact absurd H (by simp)
                  ·rw [if_neg BI] at H;have oP:decide (0 ≤ (rd l1 xe))=false:=decide_eq_false BI;clear BI;have H':=ja.mk H;clear H;obtain ⟨eav,Yat,Ean⟩:=Kd.ei Ok.out;subst Ean;have Qs:0 ≤ (xe:Int):=Sa;have Ms:xe < (t103.length:Int):=Sa;obtain ⟨uT,iM,NL,DL,Vs,wm,ym⟩:=Sm (Kd.Ud Ok.out).2.2 xe Qs Ms;cases DL;obtain ⟨YS,Lw,Mw,Mp⟩:=Kd.zw Ok.out [] xe Qs (by first|exact Ms|exact Sa|(have e_:=(Kd.Ud Ok.out).1;omega));obtain ⟨pF,rfl,tj⟩:=Mw;have Dg:=Mp 0 _ rfl;rw [Nat.add_zero,show ((Kd.slice 4 Kd.bool)).sz=1 from rfl,Nat.mul_one] at Dg;replace Dg:=Option.some.inj (Dg.symm.trans Vs);rw [Dg] at tj;have lI:=ja.mk (show Kd.R Kd.bool 4 _ _ _ _ (Fc t103 xe) from tj);clear Dg tj Mp Lw;have Im:=ja.mk ym;have oI:=ja.mk wm;clear ym wm;replace Qs:=eq_true Qs;replace Ms:=eq_true Ms;have Dh:0 ≤ (Hh:Int):=Sa;have Ch:Hh < ((Fc t103 xe).length:Int):=Sa;obtain ⟨Kf,Wn,ue⟩:=Kd.Bh (by repeat (first|(with_reducible exact Im.out)|(with_reducible refine Kd.Bb ?_ _)|(with_reducible refine Kd.Ab ?_ _)|(with_reducible refine Kd.Qb ?_)|exact Im.out)) Hh Dh Ch;(try rw [← BP.out] at ue);cases Wn;replace Dh:=eq_true Dh;replace Ch:=eq_true Ch;have Bl:0 ≤ (xe:Int):=Sa;have Al:xe < (l1.length:Int):=Sa;obtain ⟨Wp,Pw,Lf⟩:=Kd.Zf Vo.out xe Bl Al;obtain rfl:gu=Wp:=(by injection Pw)
                   try replace Lf:=Qa HB.out Lf
                   replace Bl:=eq_true Bl;replace Al:=eq_true Al;go_wp2
                   repeat (go_quiet (fail);try go_wp2)
                   go_roundg k3
                   case measure=>have:=MJ.out;have:=Xo.out;have:=Es.out;omega
                   case rel=>exact ⟨(wrap64 (Hh + 1)),(by first|rfl|(simp;done)|(simp [*];done)),H',⟨by have:=MJ.out;have:=Xo.out;have:=Es.out;omega⟩,⟨by (with_reducible repeat (first|apply Kd.ld|apply Kd.jd|apply Kd.Jd));exact Ok.out⟩,⟨by (with_reducible repeat (first|refine Aa ?_ _|refine Da ?_|refine Ba ?_ _));exact oa.out⟩,⟨by repeat (first|(with_reducible first|exact HB.out|apply qa|apply ia|apply ta|refine ua ?_ Ra.out)|exact HB.out)⟩⟩
                 ·rw [if_neg vE] at H;exact absurd H (by simp)
                ·replace xJ:=Bool.eq_false_iff.mpr xJ;subst xJ;have H1:(Ib.l1 k3 l1 t103 xe (wrap64 (Hh + 1)))=some r:=by rw [if_neg (show ¬ (false=true) by decide)] at H;exact H
                 clear H;have H:=H1;clear H1;have H':=ja.mk H;clear H;obtain ⟨dav,Xat,Dan⟩:=Kd.ei Ok.out;subst Dan;have Qs:0 ≤ (xe:Int):=Sa;have Ms:xe < (t103.length:Int):=Sa;obtain ⟨uT,iM,NL,DL,Vs,wm,ym⟩:=Sm (Kd.Ud Ok.out).2.2 xe Qs Ms;cases DL;obtain ⟨YS,Lw,Mw,Mp⟩:=Kd.zw Ok.out [] xe Qs (by first|exact Ms|exact Sa|(have e_:=(Kd.Ud Ok.out).1;omega));obtain ⟨pF,rfl,tj⟩:=Mw;have Dg:=Mp 0 _ rfl;rw [Nat.add_zero,show ((Kd.slice 4 Kd.bool)).sz=1 from rfl,Nat.mul_one] at Dg;replace Dg:=Option.some.inj (Dg.symm.trans Vs);rw [Dg] at tj;have lI:=ja.mk (show Kd.R Kd.bool 4 _ _ _ _ (Fc t103 xe) from tj);clear Dg tj Mp Lw;have Im:=ja.mk ym;have oI:=ja.mk wm;clear ym wm;replace Qs:=eq_true Qs;replace Ms:=eq_true Ms;have Dh:0 ≤ (Hh:Int):=Sa;have Ch:Hh < ((Fc t103 xe).length:Int):=Sa;obtain ⟨Kf,Wn,ue⟩:=Kd.Bh (by repeat (first|(with_reducible exact Im.out)|(with_reducible refine Kd.Bb ?_ _)|(with_reducible refine Kd.Ab ?_ _)|(with_reducible refine Kd.Qb ?_)|exact Im.out)) Hh Dh Ch;(try rw [← BP.out] at ue);cases Wn;replace Dh:=eq_true Dh;replace Ch:=eq_true Ch;go_wp2
                 repeat (go_quiet (fail);try go_wp2)
                 go_roundg k3
                 case measure=>have:=MJ.out;have:=Xo.out;have:=Es.out;omega
                 case rel=>exact ⟨(wrap64 (Hh + 1)),(by first|rfl|(simp;done)|(simp [*];done)),H',⟨by have:=MJ.out;have:=Xo.out;have:=Es.out;omega⟩,⟨by (with_reducible repeat (first|apply Kd.ld|apply Kd.jd|apply Kd.Jd));exact Ok.out⟩,⟨by (with_reducible repeat (first|refine Aa ?_ _|refine Da ?_|refine Ba ?_ _));exact oa.out⟩,⟨by repeat (first|(with_reducible first|exact HB.out|apply qa|apply ia|apply ta|refine ua ?_ Ra.out)|exact HB.out)⟩⟩
               ·rw [if_neg zD] at H;exact absurd H (by simp)
              ·rw [if_neg uw] at H;exact absurd H (by simp)
             ·rw [if_neg kB] at H;exact absurd H (by simp)
            ·rw [if_neg Vr] at H;exact absurd H (by simp)
           ·rw [if_neg Mn] at H;have Wr:decide (Hh < xe)=false:=decide_eq_false Mn;clear Mn;have H':=ja.mk H;clear H;go_wp2
            repeat (go_quiet (fail);try go_wp2)
            go_roundg k3
            case measure=>have:=MJ.out;have:=Xo.out;have:=Es.out;omega
            case rel=>exact ⟨(wrap64 (xe + 1)),(by first|rfl|(simp;done)|(simp [*];done)),H',⟨by have:=MJ.out;have:=Xo.out;have:=Es.out;omega⟩,⟨by (with_reducible repeat (first|apply Kd.ld|apply Kd.jd|apply Kd.Jd));exact Ok.out⟩,⟨by (with_reducible repeat (first|refine Aa ?_ _|refine Da ?_|refine Ba ?_ _));exact oa.out⟩,⟨by repeat (first|(with_reducible first|exact HB.out|apply qa|apply ia|apply ta|refine ua ?_ Ra.out)|exact HB.out)⟩⟩
        ·replace Xk:=Bool.eq_false_iff.mpr Xk;subst Xk;have H1:(some false)=some r:=by rw [if_neg (show ¬ (false=true) by decide)] at H;exact H
         clear H;have H:=H1;clear H1;obtain rfl:=Option.some.inj H;have xp:0 ≤ (xe:Int):=Sa;have qp:xe < (l1.length:Int):=Sa;obtain ⟨gu,WH,Oj⟩:=Kd.Zf Vo.out xe xp qp;cases WH
         try replace Oj:=Qa HB.out Oj
         replace xp:=eq_true xp;replace qp:=eq_true qp;go_wp2_with (first|(go_at_call 53;(with_reducible refine (Za.calls (rd l1 xe) (-1) 11 false _ rI.out).mono ?_);rintro e w' ⟨rfl,⟨nd,rfl⟩⟩;(try first|exact ⟨rfl,_,World.drewN_drewN _ _ _⟩|exact ⟨rfl,_,Eq.trans (World.drewN_drewN _ _ _) (congrArg (World.drewN _) (Nat.add_assoc _ _ _))⟩)))
         repeat (go_quiet (first|(go_at_call 53;(with_reducible refine (Za.calls (rd l1 xe) (-1) 11 false _ rI.out).mono ?_);rintro e w' ⟨rfl,⟨nd,rfl⟩⟩;(try first|exact ⟨rfl,_,World.drewN_drewN _ _ _⟩|exact ⟨rfl,_,Eq.trans (World.drewN_drewN _ _ _) (congrArg (World.drewN _) (Nat.add_assoc _ _ _))⟩)));try go_wp2_with (first|(go_at_call 53;(with_reducible refine (Za.calls (rd l1 xe) (-1) 11 false _ rI.out).mono ?_);rintro e w' ⟨rfl,⟨nd,rfl⟩⟩;(try first|exact ⟨rfl,_,World.drewN_drewN _ _ _⟩|exact ⟨rfl,_,Eq.trans (World.drewN_drewN _ _ _) (congrArg (World.drewN _) (Nat.add_assoc _ _ _))⟩))))
         go_ret;exact ⟨by first|rfl|(simp [Ma,La] <;> rfl)|(simp [*,Ma,La] <;> rfl),by repeat (first|(with_reducible first|exact HB.out|apply qa|apply ia|apply ta|refine ua ?_ Ra.out)|exact HB.out)⟩
       ·rw [if_neg Qo] at H;exact absurd H (by simp)
      ·rw [if_neg VA] at H;have kT:decide (xe < (l1.length:Int))=false:=decide_eq_false VA;clear VA;obtain rfl:=Option.some.inj H;go_wp2
       repeat (go_quiet (fail);try go_wp2)
       go_ret;exact ⟨by first|rfl|(simp [Ma,La] <;> rfl)|(simp [*,Ma,La] <;> rfl),by repeat (first|(with_reducible first|exact HB.out|apply qa|apply ia|apply ta|refine ua ?_ Ra.out)|exact HB.out)⟩
noncomputable def qg.f (k:Nat) (Oa:List Int) (Ja:Int) (Fa:Int) (Ia:Int) (Ca:List (Tw)) (l1:List Int):Option (Bool):=if (l1.length:Int) > 1048576 then (some true) else ((Jh.f k Oa Ja Fa Ia Ca 1048576).bind fun t102=>(if t102 < 0 then (some true) else ((od.f k Oa Ja Fa Ia Ca).bind fun Pn=>((mc.f k l1).bind fun t112=>((Ib.f k Pn.1 Pn.2.1 Pn.2.2.1 Pn.2.2.2.1 Pn.2.2.2.2 t112).bind fun t115=>((od.f k Oa Ja Fa Ia Ca).bind fun qe=>((mc.f k l1).bind fun t126=>((zf.f k qe.1 qe.2.1 qe.2.2.1 qe.2.2.2.1 qe.2.2.2.2 t126).bind fun t129=>(if (t129 != t115)=true then (none) else ((od.f k Oa Ja Fa Ia Ca).bind fun We=>((Te.f k qe.1 qe.2.1 qe.2.2.1 qe.2.2.2.1 qe.2.2.2.2 We.1 We.2.1 We.2.2.1 We.2.2.2.1 We.2.2.2.2).bind fun t139=>(if t139=true then ((mc.f k l1).bind fun t140=>((Nc.f k t126 t140).bind fun t143=>(if t143=true then (some true) else (none)))) else (none)))))))))))))
theorem qg.calls (k:Nat) (Wa:Option Addr) (Ya:Nat) (Oa:List Int) (Ja:Int) (Fa:Int) (Ia:Int) (Ob:Option Addr) (Cb:Nat) (Ca:List (Tw)) (A1:Option Addr) (c1:Nat) (l1:List Int) (r:Bool) (w:World) (Ld:Kd.C (Kd.int .i64) w Wa Oa.length Oa) (Gd:Oa.length ≤ Ya) (Ue:Kd.C ZR w Ob Ca.length Ca) (Qe:Ca.length ≤ Cb) (eo:Kd.C (Kd.int .i64) w A1 l1.length l1) (Dl:l1.length ≤ c1) (h:qg.f k Oa Ja Fa Ia Ca l1=some r) :
  Calls Try.prog 5 #[.agg #[.slice Wa Oa.length Ya,.int .i64 Ja,.int .i64 Fa,.int .i64 Ia,.slice Ob Ca.length Cb],.slice A1 l1.length c1] w fun e w'=>e = .returned (.bool r)∧Below w.heap.size w w':=by
 have T7:=Try.underlying25;have gB:=Try.underlying30;have Md:=ja.mk Ld;have Rd:=ja.mk Gd;clear Ld Gd;have Ce:=ja.mk Ue;have Ff:=ja.mk Qe;clear Ue Qe;have Vo:=ja.mk eo;have FI:=ja.mk Dl;clear eo Dl;have HB:=ja.mk (Below.refl w.heap.size w);have H:(if (l1.length:Int) > 1048576 then (some true) else ((Jh.f k Oa Ja Fa Ia Ca 1048576).bind fun t102=>(if t102 < 0 then (some true) else ((od.f k Oa Ja Fa Ia Ca).bind fun Pn=>((mc.f k l1).bind fun t112=>((Ib.f k Pn.1 Pn.2.1 Pn.2.2.1 Pn.2.2.2.1 Pn.2.2.2.2 t112).bind fun t115=>((od.f k Oa Ja Fa Ia Ca).bind fun qe=>((mc.f k l1).bind fun t126=>((zf.f k qe.1 qe.2.1 qe.2.2.1 qe.2.2.2.1 qe.2.2.2.2 t126).bind fun t129=>(if (t129 != t115)=true then (none) else ((od.f k Oa Ja Fa Ia Ca).bind fun We=>((Te.f k qe.1 qe.2.1 qe.2.2.1 qe.2.2.2.1 qe.2.2.2.2 We.1 We.2.1 We.2.2.1 We.2.2.2.1 We.2.2.2.2).bind fun t139=>(if t139=true then ((mc.f k l1).bind fun t140=>((Nc.f k t126 t140).bind fun t143=>(if t143=true then (some true) else (none)))) else (none))))))))))))))=some r:=h;clear h
 by_cases c3:(l1.length:Int) > 1048576
 ·rw [if_pos c3] at H;have uj:decide (1048576 < (l1.length:Int))=true:=decide_eq_true c3;have Gr:decide (1048576 < l1.length)=true:=decide_eq_true (by omega);clear c3;obtain rfl:=Option.some.inj H;go_enter Try.func5,Try.ntmps5;go_wp2_with (first|((with_reducible refine qb (N:=2) rfl ?_);refine Gb ?hg (N:=2) ?hd (cs:=#[.slice Wa Oa.length Ya,.int .i64 Ja,.int .i64 Fa,.int .i64 Ia,.slice Ob Ca.length Cb]) (t:=25) ?hr ?_;(case hd=>rfl);(case hg=>rfl);(case hr=>first|(go_simp;done)|(go_simp;rfl));intro ya hg w4 Rb hb;have Eb:=ja.mk (Na (by repeat (first|(with_reducible first|exact HB.out|apply qa|apply ia|apply ta)|exact HB.out)) hb);have Jb:=ja.mk (Rb);have Ub:=ja.mk ((by rw [hg];exact (Ga (by repeat (first|(with_reducible first|exact HB.out|apply qa|apply ia|apply ta)|exact HB.out))):w.heap.size ≤ ya));have uc:=ja.mk ((by rw [hg];exact (Ga (by repeat (first|(with_reducible first|exact HB.out|apply qa|apply ia|apply ta)|exact HB.out))):w.heap.size ≤ ya));clear HB;have HB:=Eb;have oa:=Jb;have xd:=Ub;have Ra:=uc;clear Eb Jb Ub uc hb Rb hg));go_ret;exact ⟨by first|rfl|(simp [Ma,La] <;> rfl)|(simp [*,Ma,La] <;> rfl),by repeat (first|(with_reducible first|exact HB.out|apply qa|apply ia|apply ta|refine ua ?_ Ra.out)|exact HB.out)⟩
 ·rw [if_neg c3] at H;have uj:decide (1048576 < (l1.length:Int))=false:=decide_eq_false c3;have Gr:decide (1048576 < l1.length)=false:=decide_eq_false (by omega);clear c3;replace H:=Option.bind_eq_some_iff.mp H;obtain ⟨t102,NP,H⟩:=H;replace H:(if t102 < 0 then (some true) else ((od.f k Oa Ja Fa Ia Ca).bind fun Pn=>((mc.f k l1).bind fun t112=>((Ib.f k Pn.1 Pn.2.1 Pn.2.2.1 Pn.2.2.2.1 Pn.2.2.2.2 t112).bind fun t115=>((od.f k Oa Ja Fa Ia Ca).bind fun qe=>((mc.f k l1).bind fun t126=>((zf.f k qe.1 qe.2.1 qe.2.2.1 qe.2.2.2.1 qe.2.2.2.2 t126).bind fun t129=>(if (t129 != t115)=true then (none) else ((od.f k Oa Ja Fa Ia Ca).bind fun We=>((Te.f k qe.1 qe.2.1 qe.2.2.1 qe.2.2.2.1 qe.2.2.2.2 We.1 We.2.1 We.2.2.1 We.2.2.2.1 We.2.2.2.2).bind fun t139=>(if t139=true then ((mc.f k l1).bind fun t140=>((Nc.f k t126 t140).bind fun t143=>(if t143=true then (some true) else (none)))) else (none))))))))))))=some r:=H;have A5:=ja.mk NP;clear NP
  by_cases c6:t102 < 0
  ·rw [if_pos c6] at H;have Mm:decide (t102 < 0)=true:=decide_eq_true c6;clear c6;obtain rfl:=Option.some.inj H;go_enter Try.func5,Try.ntmps5;go_wp2_with (first|((with_reducible refine qb (N:=2) rfl ?_);refine Gb ?hg (N:=2) ?hd (cs:=#[.slice Wa Oa.length Ya,.int .i64 Ja,.int .i64 Fa,.int .i64 Ia,.slice Ob Ca.length Cb]) (t:=25) ?hr ?_;(case hd=>rfl);(case hg=>rfl);(case hr=>first|(go_simp;done)|(go_simp;rfl));intro ya hg w7 Rb hb;have Eb:=ja.mk (Na (by repeat (first|(with_reducible first|exact HB.out|apply qa|apply ia|apply ta)|exact HB.out)) hb);have Jb:=ja.mk (Rb);have Ub:=ja.mk ((by rw [hg];exact (Ga (by repeat (first|(with_reducible first|exact HB.out|apply qa|apply ia|apply ta)|exact HB.out))):w.heap.size ≤ ya));have uc:=ja.mk ((by rw [hg];exact (Ga (by repeat (first|(with_reducible first|exact HB.out|apply qa|apply ia|apply ta)|exact HB.out))):w.heap.size ≤ ya));clear HB;have HB:=Eb;have oa:=Jb;have xd:=Ub;have Ra:=uc;clear Eb Jb Ub uc hb Rb hg;have rA:w7.cell? ⟨ya,0,none⟩=some (.slice Wa Oa.length Ya):=(ga oa.out 0).trans rfl;have qA:w7.cell? ⟨ya,1,none⟩=some (.int .i64 Ja):=(ga oa.out 1).trans rfl;have oA:w7.cell? ⟨ya,2,none⟩=some (.int .i64 Fa):=(ga oa.out 2).trans rfl;have nA:w7.cell? ⟨ya,3,none⟩=some (.int .i64 Ia):=(ga oa.out 3).trans rfl;have mA:w7.cell? ⟨ya,4,none⟩=some (.slice Ob Ca.length Cb):=(ga oa.out 4).trans rfl;have dA:=aa oa.out 0;have cA:=aa oa.out 1;have bA:=aa oa.out 2;have aA:=aa oa.out 3;have Zz:=aa oa.out 4)|((with_reducible refine mb (f:=10) rfl ?_);refine Mc (some 15) rfl rfl Try.func10 (by kernel_rfl) rfl #[.agg #[.slice Wa Oa.length Ya,.int .i64 Ja,.int .i64 Fa,.int .i64 Ia,.slice Ob Ca.length Cb],.int .i64 1048576] rfl (by (try simp only [List.map_toArray,List.map_cons,List.map_nil]);first|done|rfl|(simp only [List.length_drop,List.length_take];rfl)) ?_;(with_reducible refine (Jh.calls k _ _ Oa Ja Fa Ia _ _ Ca 1048576 t102 _ ?dc ?Zb ?Rc ?Qc A5.out).mono ?_);(case dc=>repeat (first|exact (Kd.Db Md.out HB.out)|(with_reducible refine Kd.Bb ?_ _)|(with_reducible refine Kd.Ab ?_ _)|(with_reducible refine Kd.Qb ?_)));(case Zb=>exact Rd.out);(case Rc=>repeat (first|exact (Kd.Db Ce.out HB.out)|(with_reducible refine Kd.Bb ?_ _)|(with_reducible refine Kd.Ab ?_ _)|(with_reducible refine Kd.Qb ?_)));(case Qc=>exact Ff.out);rintro e w9 ⟨rfl,hb⟩;refine ⟨_,rfl,?_⟩;have Eb:=ja.mk (Ta (g:=ya) (o:=.cells #[.slice Wa Oa.length Ya,.int .i64 Ja,.int .i64 Fa,.int .i64 Ia,.slice Ob Ca.length Cb] 25 (0,0)) (by (with_reducible repeat (first|refine Aa ?_ _|refine Da ?_|refine Ba ?_ _));exact oa.out) hb);have Jb:=ja.mk (Na (by repeat (first|(with_reducible first|exact HB.out|apply qa|apply ia|apply ta|refine ua ?_ Ra.out)|exact HB.out)) hb);clear oa HB;have oa:=Eb;have HB:=Jb;clear Eb Jb;(try clear hb);(try clear ni);(try clear hk);(try clear hi)));go_ret;exact ⟨by first|rfl|(simp [Ma,La] <;> rfl)|(simp [*,Ma,La] <;> rfl),by repeat (first|(with_reducible first|exact HB.out|apply qa|apply ia|apply ta|refine ua ?_ Ra.out)|exact HB.out)⟩
  ·rw [if_neg c6] at H;have Mm:decide (t102 < 0)=false:=decide_eq_false c6;clear c6;replace H:=Option.bind_eq_some_iff.mp H;obtain ⟨⟨t103,t106,t107,t108,t109⟩,Pad,H⟩:=H;replace H:((mc.f k l1).bind fun t112=>((Ib.f k t103 t106 t107 t108 t109 t112).bind fun t115=>((od.f k Oa Ja Fa Ia Ca).bind fun qe=>((mc.f k l1).bind fun t126=>((zf.f k qe.1 qe.2.1 qe.2.2.1 qe.2.2.2.1 qe.2.2.2.2 t126).bind fun t129=>(if (t129 != t115)=true then (none) else ((od.f k Oa Ja Fa Ia Ca).bind fun We=>((Te.f k qe.1 qe.2.1 qe.2.2.1 qe.2.2.2.1 qe.2.2.2.2 We.1 We.2.1 We.2.2.1 We.2.2.2.1 We.2.2.2.2).bind fun t139=>(if t139=true then ((mc.f k l1).bind fun t140=>((Nc.f k t126 t140).bind fun t143=>(if t143=true then (some true) else (none)))) else (none))))))))))=some r:=H;have A10:=ja.mk Pad;clear Pad;replace H:=Option.bind_eq_some_iff.mp H;obtain ⟨t112,VJ,H⟩:=H;replace H:((Ib.f k t103 t106 t107 t108 t109 t112).bind fun t115=>((od.f k Oa Ja Fa Ia Ca).bind fun qe=>((mc.f k l1).bind fun t126=>((zf.f k qe.1 qe.2.1 qe.2.2.1 qe.2.2.2.1 qe.2.2.2.2 t126).bind fun t129=>(if (t129 != t115)=true then (none) else ((od.f k Oa Ja Fa Ia Ca).bind fun We=>((Te.f k qe.1 qe.2.1 qe.2.2.1 qe.2.2.2.1 qe.2.2.2.2 We.1 We.2.1 We.2.2.1 We.2.2.2.1 We.2.2.2.2).bind fun t139=>(if t139=true then ((mc.f k l1).bind fun t140=>((Nc.f k t126 t140).bind fun t143=>(if t143=true then (some true) else (none)))) else (none)))))))))=some r:=H;have qR:=ja.mk VJ;clear VJ;replace H:=Option.bind_eq_some_iff.mp H;obtain ⟨t115,Oad,H⟩:=H;replace H:((od.f k Oa Ja Fa Ia Ca).bind fun qe=>((mc.f k l1).bind fun t126=>((zf.f k qe.1 qe.2.1 qe.2.2.1 qe.2.2.2.1 qe.2.2.2.2 t126).bind fun t129=>(if (t129 != t115)=true then (none) else ((od.f k Oa Ja Fa Ia Ca).bind fun We=>((Te.f k qe.1 qe.2.1 qe.2.2.1 qe.2.2.2.1 qe.2.2.2.2 We.1 We.2.1 We.2.2.1 We.2.2.2.1 We.2.2.2.2).bind fun t139=>(if t139=true then ((mc.f k l1).bind fun t140=>((Nc.f k t126 t140).bind fun t143=>(if t143=true then (some true) else (none)))) else (none))))))))=some r:=H;have A12:=ja.mk Oad;clear Oad;replace H:=Option.bind_eq_some_iff.mp H;obtain ⟨⟨t116,t119,t120,t121,t122⟩,TD,H⟩:=H;replace H:((mc.f k l1).bind fun t126=>((zf.f k t116 t119 t120 t121 t122 t126).bind fun t129=>(if (t129 != t115)=true then (none) else ((od.f k Oa Ja Fa Ia Ca).bind fun We=>((Te.f k t116 t119 t120 t121 t122 We.1 We.2.1 We.2.2.1 We.2.2.2.1 We.2.2.2.2).bind fun t139=>(if t139=true then ((mc.f k l1).bind fun t140=>((Nc.f k t126 t140).bind fun t143=>(if t143=true then (some true) else (none)))) else (none)))))))=some r:=H;have gM:=ja.mk TD;clear TD;replace H:=Option.bind_eq_some_iff.mp H;obtain ⟨t126,SD,H⟩:=H;replace H:((zf.f k t116 t119 t120 t121 t122 t126).bind fun t129=>(if (t129 != t115)=true then (none) else ((od.f k Oa Ja Fa Ia Ca).bind fun We=>((Te.f k t116 t119 t120 t121 t122 We.1 We.2.1 We.2.2.1 We.2.2.2.1 We.2.2.2.2).bind fun t139=>(if t139=true then ((mc.f k l1).bind fun t140=>((Nc.f k t126 t140).bind fun t143=>(if t143=true then (some true) else (none)))) else (none))))))=some r:=H;have m6:=ja.mk SD;clear SD;replace H:=Option.bind_eq_some_iff.mp H;obtain ⟨t129,UJ,H⟩:=H;replace H:(if (t129 != t115)=true then (none) else ((od.f k Oa Ja Fa Ia Ca).bind fun We=>((Te.f k t116 t119 t120 t121 t122 We.1 We.2.1 We.2.2.1 We.2.2.2.1 We.2.2.2.2).bind fun t139=>(if t139=true then ((mc.f k l1).bind fun t140=>((Nc.f k t126 t140).bind fun t143=>(if t143=true then (some true) else (none)))) else (none)))))=some r:=H;have QZ:=ja.mk UJ;clear UJ
   by_cases VA:(t129 != t115)=true
   ·rw [if_pos VA] at H;exact absurd H (by simp)
   ·rw [if_neg VA] at H;have kT:(t129 != t115)=false:=by simpa using VA
    (try (have Nar:decide (t129=t115)=true:=by simpa using VA));(try (have Mar:(t129 == t115)=true:=by simpa using VA));clear VA;replace H:=Option.bind_eq_some_iff.mp H;obtain ⟨⟨t130,t133,t134,t135,t136⟩,gU,H⟩:=H;replace H:((Te.f k t116 t119 t120 t121 t122 t130 t133 t134 t135 t136).bind fun t139=>(if t139=true then ((mc.f k l1).bind fun t140=>((Nc.f k t126 t140).bind fun t143=>(if t143=true then (some true) else (none)))) else (none)))=some r:=H;have pR:=ja.mk gU;clear gU;replace H:=Option.bind_eq_some_iff.mp H;obtain ⟨t139,TJ,H⟩:=H;replace H:(if t139=true then ((mc.f k l1).bind fun t140=>((Nc.f k t126 t140).bind fun t143=>(if t143=true then (some true) else (none)))) else (none))=some r:=H;have rI:=ja.mk TJ;clear TJ
    by_cases Xk:t139=true
    ·subst Xk;have H1:((mc.f k l1).bind fun t140=>((Nc.f k t126 t140).bind fun t143=>(if t143=true then (some true) else (none))))=some r:=by rw [if_pos rfl] at H;exact H
     clear H;have H:=H1;clear H1;replace H:=Option.bind_eq_some_iff.mp H;obtain ⟨t140,SJ,H⟩:=H;replace H:((Nc.f k t126 t140).bind fun t143=>(if t143=true then (some true) else (none)))=some r:=H;have OP:=ja.mk SJ;clear SJ;replace H:=Option.bind_eq_some_iff.mp H;obtain ⟨t143,QJ,H⟩:=H;replace H:(if t143=true then (some true) else (none))=some r:=H;have RJ:=ja.mk QJ;clear QJ
     by_cases kB:t143=true
     ·subst kB;have H1:(some true)=some r:=by rw [if_pos rfl] at H;exact H
      clear H;have H:=H1;clear H1;obtain rfl:=Option.some.inj H;go_enter Try.func5,Try.ntmps5
      try go_wp2_with (first|((with_reducible refine qb (N:=2) rfl ?_);refine Gb ?hg (N:=2) ?hd (cs:=#[.slice Wa Oa.length Ya,.int .i64 Ja,.int .i64 Fa,.int .i64 Ia,.slice Ob Ca.length Cb]) (t:=25) ?hr ?_;(case hd=>rfl);(case hg=>rfl);(case hr=>first|(go_simp;done)|(go_simp;rfl));intro ya hg GC Rb hb;have Eb:=ja.mk (Na (by repeat (first|(with_reducible first|exact HB.out|apply qa|apply ia|apply ta)|exact HB.out)) hb);have Jb:=ja.mk (Rb);have Ub:=ja.mk ((by rw [hg];exact (Ga (by repeat (first|(with_reducible first|exact HB.out|apply qa|apply ia|apply ta)|exact HB.out))):w.heap.size ≤ ya));have uc:=ja.mk ((by rw [hg];exact (Ga (by repeat (first|(with_reducible first|exact HB.out|apply qa|apply ia|apply ta)|exact HB.out))):w.heap.size ≤ ya));clear HB;have HB:=Eb;have oa:=Jb;have xd:=Ub;have Ra:=uc;clear Eb Jb Ub uc hb Rb hg;have Qq:GC.cell? ⟨ya,0,none⟩=some (.slice Wa Oa.length Ya):=(ga oa.out 0).trans rfl;have Pq:GC.cell? ⟨ya,1,none⟩=some (.int .i64 Ja):=(ga oa.out 1).trans rfl;have Oq:GC.cell? ⟨ya,2,none⟩=some (.int .i64 Fa):=(ga oa.out 2).trans rfl;have Nq:GC.cell? ⟨ya,3,none⟩=some (.int .i64 Ia):=(ga oa.out 3).trans rfl;have Mq:GC.cell? ⟨ya,4,none⟩=some (.slice Ob Ca.length Cb):=(ga oa.out 4).trans rfl;have uq:=aa oa.out 0;have tq:=aa oa.out 1;have rq:=aa oa.out 2;have qq:=aa oa.out 3;have oq:=aa oa.out 4)|((with_reducible refine mb (f:=10) rfl ?_);refine Mc (some 15) rfl rfl Try.func10 (by kernel_rfl) rfl #[.agg #[.slice Wa Oa.length Ya,.int .i64 Ja,.int .i64 Fa,.int .i64 Ia,.slice Ob Ca.length Cb],.int .i64 1048576] rfl (by (try simp only [List.map_toArray,List.map_cons,List.map_nil]);first|done|rfl|(simp only [List.length_drop,List.length_take];rfl)) ?_;(with_reducible refine (Jh.calls k _ _ Oa Ja Fa Ia _ _ Ca 1048576 t102 _ ?dc ?Zb ?Rc ?Qc A5.out).mono ?_);(case dc=>repeat (first|exact (Kd.Db Md.out HB.out)|(with_reducible refine Kd.Bb ?_ _)|(with_reducible refine Kd.Ab ?_ _)|(with_reducible refine Kd.Qb ?_)));(case Zb=>exact Rd.out);(case Rc=>repeat (first|exact (Kd.Db Ce.out HB.out)|(with_reducible refine Kd.Bb ?_ _)|(with_reducible refine Kd.Ab ?_ _)|(with_reducible refine Kd.Qb ?_)));(case Qc=>exact Ff.out);rintro e Dw ⟨rfl,hb⟩;refine ⟨_,rfl,?_⟩;have Eb:=ja.mk (Ta (g:=ya) (o:=.cells #[.slice Wa Oa.length Ya,.int .i64 Ja,.int .i64 Fa,.int .i64 Ia,.slice Ob Ca.length Cb] 25 (0,0)) (by (with_reducible repeat (first|refine Aa ?_ _|refine Da ?_|refine Ba ?_ _));exact oa.out) hb);have Jb:=ja.mk (Na (by repeat (first|(with_reducible first|exact HB.out|apply qa|apply ia|apply ta|refine ua ?_ Ra.out)|exact HB.out)) hb);clear oa HB;have oa:=Eb;have HB:=Jb;clear Eb Jb;(try clear hb);(try clear ni);(try clear hk);(try clear hi);have Ht:Dw.cell? ⟨ya,0,none⟩=some (.slice Wa Oa.length Ya):=(ga oa.out 0).trans rfl;have Gt:Dw.cell? ⟨ya,1,none⟩=some (.int .i64 Ja):=(ga oa.out 1).trans rfl;have Ft:Dw.cell? ⟨ya,2,none⟩=some (.int .i64 Fa):=(ga oa.out 2).trans rfl;have Et:Dw.cell? ⟨ya,3,none⟩=some (.int .i64 Ia):=(ga oa.out 3).trans rfl;have Dt:Dw.cell? ⟨ya,4,none⟩=some (.slice Ob Ca.length Cb):=(ga oa.out 4).trans rfl;have jt:=aa oa.out 0;have ct:=aa oa.out 1;have bt:=aa oa.out 2;have Zs:=aa oa.out 3;have Ys:=aa oa.out 4)|((with_reducible refine mb (f:=12) rfl ?_);refine Mc (some 19) rfl rfl Try.func12 (by kernel_rfl) rfl #[.agg #[.slice Wa Oa.length Ya,.int .i64 Ja,.int .i64 Fa,.int .i64 Ia,.slice Ob Ca.length Cb]] rfl (by (try simp only [List.map_toArray,List.map_cons,List.map_nil]);first|done|rfl|(simp only [List.length_drop,List.length_take];rfl)) ?_;(with_reducible refine (od.calls k _ _ Oa Ja Fa Ia _ _ Ca t103 t106 t107 t108 t109 _ ?dc ?Zb ?Rc ?Qc A10.out).mono ?_);(case dc=>repeat (first|exact (Kd.Db Md.out HB.out)|(with_reducible refine Kd.Bb ?_ _)|(with_reducible refine Kd.Ab ?_ _)|(with_reducible refine Kd.Qb ?_)));(case Zb=>exact Rd.out);(case Rc=>repeat (first|exact (Kd.Db Ce.out HB.out)|(with_reducible refine Kd.Bb ?_ _)|(with_reducible refine Kd.Ab ?_ _)|(with_reducible refine Kd.Qb ?_)));(case Qc=>exact Ff.out);rintro e w27 ⟨JI,Sas,rfl,Qi,UM,hb⟩;refine ⟨_,rfl,?_⟩;have Eb:=ja.mk (Kd.Qd Qi (Ga (by repeat (first|(with_reducible first|exact HB.out|apply qa|apply ia|apply ta|refine ua ?_ Ra.out)|exact HB.out))));have Jb:=ja.mk (Kd.vl UM (Ga (by repeat (first|(with_reducible first|exact HB.out|apply qa|apply ia|apply ta|refine ua ?_ Ra.out)|exact HB.out))));have Ub:=ja.mk (Ta (g:=ya) (o:=.cells #[.slice Wa Oa.length Ya,.int .i64 Ja,.int .i64 Fa,.int .i64 Ia,.slice Ob Ca.length Cb] 25 (0,0)) (by (with_reducible repeat (first|refine Aa ?_ _|refine Da ?_|refine Ba ?_ _));exact oa.out) hb);have uc:=ja.mk (Na (by repeat (first|(with_reducible first|exact HB.out|apply qa|apply ia|apply ta|refine ua ?_ Ra.out)|exact HB.out)) hb);clear oa HB;have Af:=Eb;have Ig:=Jb;have oa:=Ub;have HB:=uc;clear Eb Jb Ub uc;(try clear hb);(try clear ni);(try clear hk);(try clear hi);(try clear Qi);(try clear UM))|((with_reducible refine mb (f:=22) rfl ?_);refine Mc (some 21) rfl rfl Try.func22 (by kernel_rfl) rfl #[.slice A1 l1.length c1] rfl (by (try simp only [List.map_toArray,List.map_cons,List.map_nil]);first|done|rfl|(simp only [List.length_drop,List.length_take];rfl)) ?_;(with_reducible refine (mc.calls k _ _ l1 t112 _ ?dc ?Zb qR.out).mono ?_);(case dc=>repeat (first|exact (Kd.Db Vo.out HB.out)|(with_reducible refine Kd.Bb ?_ _)|(with_reducible refine Kd.Ab ?_ _)|(with_reducible refine Kd.Qb ?_)));(case Zb=>exact FI.out);rintro e ew ⟨y7,rfl,Qi,hb⟩;refine ⟨_,rfl,?_⟩;have Eb:=ja.mk (Kd.Gg (by (with_reducible repeat (first|apply Kd.yb|apply Kd.xb|apply Kd.Pb));exact Af.out) (Kd.Ki Qi) hb);have Jb:=ja.mk (Kd.Nf (by (with_reducible repeat (first|apply Kd.ld|apply Kd.jd|apply Kd.Jd));exact Ig.out) hb);have Ub:=ja.mk (Kd.Qd (Kd.Gj Qi (Kd.Wt (by (with_reducible repeat (first|apply Kd.yb|apply Kd.xb|apply Kd.Pb));exact Af.out))) (Ga (by repeat (first|(with_reducible first|exact HB.out|apply qa|apply ia|apply ta|refine ua ?_ Ra.out)|exact HB.out))));have uc:=ja.mk (Ta (g:=ya) (o:=.cells #[.slice Wa Oa.length Ya,.int .i64 Ja,.int .i64 Fa,.int .i64 Ia,.slice Ob Ca.length Cb] 25 (0,0)) (by (with_reducible repeat (first|refine Aa ?_ _|refine Da ?_|refine Ba ?_ _));exact oa.out) hb);have lf:=ja.mk (Na (by repeat (first|(with_reducible first|exact HB.out|apply qa|apply ia|apply ta|refine ua ?_ Ra.out)|exact HB.out)) hb);clear Af Ig oa HB;have Af:=Eb;have Ig:=Jb;have Hg:=Ub;have oa:=uc;have HB:=lf;clear Eb Jb Ub uc lf;(try clear hb);(try clear ni);(try clear hk);(try clear hi);(try clear Qi);obtain ⟨Gad,n3,U2⟩:=Kd.ze Af.out;subst U2;obtain ⟨aap,San,Gan⟩:=Kd.ei Ig.out;subst Gan;obtain ⟨j6,XS,KQ⟩:=Kd.ze Hg.out;subst KQ)|((with_reducible refine mb (f:=21) rfl ?_);refine Mc (some 22) rfl rfl Try.func21 (by kernel_rfl) rfl #[.agg #[.slice Gad t103.length n3,.int .i64 t106,.int .i64 t107,.int .i64 t108,.slice aap t109.length San],.slice j6 t112.length XS] rfl (by (try simp only [List.map_toArray,List.map_cons,List.map_nil]);first|done|rfl|(simp only [List.length_drop,List.length_take];rfl)) ?_;(with_reducible refine (Ib.calls k _ _ t103 t106 t107 t108 _ _ t109 _ _ t112 t115 _ ?dc ?Zb ?Rc ?Qc ?Dn ?Cn A12.out).mono ?_);(case dc=>repeat (first|exact (Kd.Wc Af.out).2.2|(with_reducible refine Kd.Bb ?_ _)|(with_reducible refine Kd.Ab ?_ _)|(with_reducible refine Kd.Qb ?_)));(case Zb=>exact (Kd.Wc Af.out).2.1);(case Rc=>repeat (first|exact (Kd.Ud Ig.out).2.2|(with_reducible refine Kd.Bb ?_ _)|(with_reducible refine Kd.Ab ?_ _)|(with_reducible refine Kd.Qb ?_)));(case Qc=>exact (Kd.Ud Ig.out).2.1);(case Dn=>repeat (first|exact (Kd.Wc Hg.out).2.2|(with_reducible refine Kd.Bb ?_ _)|(with_reducible refine Kd.Ab ?_ _)|(with_reducible refine Kd.Qb ?_)));(case Cn=>exact (Kd.Wc Hg.out).2.1);rintro e tI ⟨rfl,hb⟩;refine ⟨_,rfl,?_⟩;have Eb:=ja.mk (Kd.kf (by (with_reducible repeat (first|apply Kd.yb|apply Kd.xb|apply Kd.Pb));exact Af.out) hb);have Jb:=ja.mk (Kd.Nf (by (with_reducible repeat (first|apply Kd.ld|apply Kd.jd|apply Kd.Jd));exact Ig.out) hb);have Ub:=ja.mk (Kd.kf (by (with_reducible repeat (first|apply Kd.yb|apply Kd.xb|apply Kd.Pb));exact Hg.out) hb);have uc:=ja.mk (Ta (g:=ya) (o:=.cells #[.slice Wa Oa.length Ya,.int .i64 Ja,.int .i64 Fa,.int .i64 Ia,.slice Ob Ca.length Cb] 25 (0,0)) (by (with_reducible repeat (first|refine Aa ?_ _|refine Da ?_|refine Ba ?_ _));exact oa.out) hb);have lf:=ja.mk (Na (by repeat (first|(with_reducible first|exact HB.out|apply qa|apply ia|apply ta|refine ua ?_ Ra.out)|exact HB.out)) hb);clear Af Ig Hg oa HB;have Af:=Eb;have Ig:=Jb;have Hg:=Ub;have oa:=uc;have HB:=lf;clear Eb Jb Ub uc lf;(try clear hb);(try clear ni);(try clear hk);(try clear hi);have DH:tI.cell? ⟨ya,0,none⟩=some (.slice Wa Oa.length Ya):=(ga oa.out 0).trans rfl;have CH:tI.cell? ⟨ya,1,none⟩=some (.int .i64 Ja):=(ga oa.out 1).trans rfl;have BH:tI.cell? ⟨ya,2,none⟩=some (.int .i64 Fa):=(ga oa.out 2).trans rfl;have AH:tI.cell? ⟨ya,3,none⟩=some (.int .i64 Ia):=(ga oa.out 3).trans rfl;have zH:tI.cell? ⟨ya,4,none⟩=some (.slice Ob Ca.length Cb):=(ga oa.out 4).trans rfl;have CG:=aa oa.out 0;have BG:=aa oa.out 1;have AG:=aa oa.out 2;have zG:=aa oa.out 3;have yG:=aa oa.out 4)|((with_reducible refine mb (f:=12) rfl ?_);refine Mc (some 24) rfl rfl Try.func12 (by kernel_rfl) rfl #[.agg #[.slice Wa Oa.length Ya,.int .i64 Ja,.int .i64 Fa,.int .i64 Ia,.slice Ob Ca.length Cb]] rfl (by (try simp only [List.map_toArray,List.map_cons,List.map_nil]);first|done|rfl|(simp only [List.length_drop,List.length_take];rfl)) ?_;(with_reducible refine (od.calls k _ _ Oa Ja Fa Ia _ _ Ca t116 t119 t120 t121 t122 _ ?dc ?Zb ?Rc ?Qc gM.out).mono ?_);(case dc=>repeat (first|exact (Kd.Db Md.out HB.out)|(with_reducible refine Kd.Bb ?_ _)|(with_reducible refine Kd.Ab ?_ _)|(with_reducible refine Kd.Qb ?_)));(case Zb=>exact Rd.out);(case Rc=>repeat (first|exact (Kd.Db Ce.out HB.out)|(with_reducible refine Kd.Bb ?_ _)|(with_reducible refine Kd.Ab ?_ _)|(with_reducible refine Kd.Qb ?_)));(case Qc=>exact Ff.out);rintro e EE ⟨Ras,Qas,rfl,Qi,UM,hb⟩;refine ⟨_,rfl,?_⟩;have Eb:=ja.mk (Kd.Gg (by (with_reducible repeat (first|apply Kd.yb|apply Kd.xb|apply Kd.Pb));exact Af.out) (Kd.Ki Qi) hb);have Jb:=ja.mk (Kd.js (by (with_reducible repeat (first|apply Kd.ld|apply Kd.jd|apply Kd.Jd));exact Ig.out) (Kd.XL UM) hb);have Ub:=ja.mk (Kd.Gg (by (with_reducible repeat (first|apply Kd.yb|apply Kd.xb|apply Kd.Pb));exact Hg.out) (Kd.Ki Qi) hb);have uc:=ja.mk (Kd.Qd (Kd.Gj (Kd.Gj Qi (Kd.Wt (by (with_reducible repeat (first|apply Kd.yb|apply Kd.xb|apply Kd.Pb));exact Af.out))) (Kd.Wt (by (with_reducible repeat (first|apply Kd.yb|apply Kd.xb|apply Kd.Pb));exact Hg.out))) (Ga (by repeat (first|(with_reducible first|exact HB.out|apply qa|apply ia|apply ta|refine ua ?_ Ra.out)|exact HB.out))));have lf:=ja.mk (Kd.vl (Kd.WL UM (Kd.TX (by (with_reducible repeat (first|apply Kd.ld|apply Kd.jd|apply Kd.Jd));exact Ig.out))) (Ga (by repeat (first|(with_reducible first|exact HB.out|apply qa|apply ia|apply ta|refine ua ?_ Ra.out)|exact HB.out))));have Vf:=ja.mk (Ta (g:=ya) (o:=.cells #[.slice Wa Oa.length Ya,.int .i64 Ja,.int .i64 Fa,.int .i64 Ia,.slice Ob Ca.length Cb] 25 (0,0)) (by (with_reducible repeat (first|refine Aa ?_ _|refine Da ?_|refine Ba ?_ _));exact oa.out) hb);have pg:=ja.mk (Na (by repeat (first|(with_reducible first|exact HB.out|apply qa|apply ia|apply ta|refine ua ?_ Ra.out)|exact HB.out)) hb);clear Af Ig Hg oa HB;have Af:=Eb;have Ig:=Jb;have Hg:=Ub;have ri:=uc;have Ni:=lf;have oa:=Vf;have HB:=pg;clear Eb Jb Ub uc lf Vf pg;(try clear hb);(try clear ni);(try clear hk);(try clear hi);(try clear Qi);(try clear UM))|((with_reducible refine qb (N:=7) rfl ?_);refine Gb ?hg (N:=7) ?hd (cs:=#[.slice none 0 0,.int .i64 0,.int .i64 0,.int .i64 0,.slice none 0 0]) (t:=30) ?hr ?_;(case hd=>rfl);(case hg=>rfl);(case hr=>first|(go_simp;done)|(go_simp;rfl));intro we hg E6 Rb hb;have Eb:=ja.mk (Kd.kf (by (with_reducible repeat (first|apply Kd.yb|apply Kd.xb|apply Kd.Pb));exact Af.out) hb);have Jb:=ja.mk (Kd.Nf (by (with_reducible repeat (first|apply Kd.ld|apply Kd.jd|apply Kd.Jd));exact Ig.out) hb);have Ub:=ja.mk (Kd.kf (by (with_reducible repeat (first|apply Kd.yb|apply Kd.xb|apply Kd.Pb));exact Hg.out) hb);have uc:=ja.mk (Kd.kf (by (with_reducible repeat (first|apply Kd.yb|apply Kd.xb|apply Kd.Pb));exact ri.out) hb);have lf:=ja.mk (Kd.Nf (by (with_reducible repeat (first|apply Kd.ld|apply Kd.jd|apply Kd.Jd));exact Ni.out) hb);have Vf:=ja.mk (Ta (g:=ya) (o:=.cells #[.slice Wa Oa.length Ya,.int .i64 Ja,.int .i64 Fa,.int .i64 Ia,.slice Ob Ca.length Cb] 25 (0,0)) (by (with_reducible repeat (first|refine Aa ?_ _|refine Da ?_|refine Ba ?_ _));exact oa.out) hb);have pg:=ja.mk (Na (by repeat (first|(with_reducible first|exact HB.out|apply qa|apply ia|apply ta|refine ua ?_ Ra.out)|exact HB.out)) hb);have cu:=ja.mk (Rb);have ux:=ja.mk ((by rw [hg];exact (Ga (by repeat (first|(with_reducible first|exact HB.out|apply qa|apply ia|apply ta|refine ua ?_ Ra.out)|exact HB.out))):w.heap.size ≤ we));have QE:=ja.mk ((by rw [hg];exact (Ga (by repeat (first|(with_reducible first|exact HB.out|apply qa|apply ia|apply ta|refine ua ?_ Ra.out)|exact HB.out))):w.heap.size ≤ we));have UC:=ja.mk ((by rw [hg];exact Nat.ne_of_lt (Jc (g:=ya) (o:=.cells #[.slice Wa Oa.length Ya,.int .i64 Ja,.int .i64 Fa,.int .i64 Ia,.slice Ob Ca.length Cb] 25 (0,0)) (by (with_reducible repeat (first|refine Aa ?_ _|refine Da ?_|refine Ba ?_ _));exact oa.out)):ya ≠ we));have SR:=ja.mk ((by rw [hg];exact Nat.ne_of_gt (Jc (g:=ya) (o:=.cells #[.slice Wa Oa.length Ya,.int .i64 Ja,.int .i64 Fa,.int .i64 Ia,.slice Ob Ca.length Cb] 25 (0,0)) (by (with_reducible repeat (first|refine Aa ?_ _|refine Da ?_|refine Ba ?_ _));exact oa.out)):we ≠ ya));clear Af Ig Hg ri Ni oa HB;have Af:=Eb;have Ig:=Jb;have Hg:=Ub;have ri:=uc;have Ni:=lf;have oa:=Vf;have HB:=pg;have Be:=cu;have oas:=ux;have Lu:=QE;have ep:=UC;have XQ:=SR;clear Eb Jb Ub uc lf Vf pg cu ux QE UC SR hb Rb hg;obtain ⟨Ir,Er,Ban⟩:=Kd.ze ri.out;subst Ban;have QY:=XQ.out;have NY:=ep.out;have XB:E6.cell? ⟨we,0,none⟩=some (.slice none 0 0):=(ga Be.out 0).trans rfl;have WB:E6.cell? ⟨we,1,none⟩=some (.int .i64 0):=(ga Be.out 1).trans rfl;have VB:E6.cell? ⟨we,2,none⟩=some (.int .i64 0):=(ga Be.out 2).trans rfl;have UB:E6.cell? ⟨we,3,none⟩=some (.int .i64 0):=(ga Be.out 3).trans rfl;have TB:E6.cell? ⟨we,4,none⟩=some (.slice none 0 0):=(ga Be.out 4).trans rfl;have xB:=aa Be.out 0;have wB:=aa Be.out 1;have vB:=aa Be.out 2;have uB:=aa Be.out 3;have tB:=aa Be.out 4;obtain ⟨Ou,Eu,Aan⟩:=Kd.ei Ni.out;subst Aan)|((with_reducible refine mb (f:=22) rfl ?_);refine Mc (some 26) rfl rfl Try.func22 (by kernel_rfl) rfl #[.slice A1 l1.length c1] rfl (by (try simp only [List.map_toArray,List.map_cons,List.map_nil]);first|done|rfl|(simp only [List.length_drop,List.length_take];rfl)) ?_;(with_reducible refine (mc.calls k _ _ l1 t126 _ ?dc ?Zb m6.out).mono ?_);(case dc=>exact Kd.Db Vo.out (by repeat (first|(with_reducible first|exact HB.out|apply qa|apply ia|apply ta|refine ua ?_ Ra.out|refine ua ?_ Lu.out)|exact HB.out)));(case Zb=>exact FI.out);rintro e EY ⟨Oas,rfl,Qi,hb⟩;refine ⟨_,rfl,?_⟩;have Eb:=ja.mk (Kd.Gg (by (with_reducible repeat (first|apply Kd.yb|apply Kd.xb|apply Kd.Pb));exact (Kd.Td (Kd.Ee (p:=⟨we,4,none⟩) (Kd.Ee (p:=⟨we,3,none⟩) (Kd.Ee (p:=⟨we,2,none⟩) (Kd.Ee (p:=⟨we,1,none⟩) (Kd.Ee (p:=⟨we,0,none⟩) (Kd.Vj Af.out Be.out (by decide)) (fun _ hk=>hk.2) (.slice Ir t116.length Er)) (fun _ hk=>hk.2) (.int .i64 t119)) (fun _ hk=>hk.2) (.int .i64 t120)) (fun _ hk=>hk.2) (.int .i64 t121)) (fun _ hk=>hk.2) (.slice Ou t122.length Eu)) (fun _ h_=>h_.1))) (Kd.Ki Qi) hb);have Jb:=ja.mk (Kd.Nf (by (with_reducible repeat (first|apply Kd.ld|apply Kd.jd|apply Kd.Jd));exact (Kd.ej (Kd.jo (p:=⟨we,4,none⟩) (Kd.jo (p:=⟨we,3,none⟩) (Kd.jo (p:=⟨we,2,none⟩) (Kd.jo (p:=⟨we,1,none⟩) (Kd.jo (p:=⟨we,0,none⟩) (Kd.tC Ig.out Be.out (by decide)) (fun _ hk=>hk.2) (.slice Ir t116.length Er)) (fun _ hk=>hk.2) (.int .i64 t119)) (fun _ hk=>hk.2) (.int .i64 t120)) (fun _ hk=>hk.2) (.int .i64 t121)) (fun _ hk=>hk.2) (.slice Ou t122.length Eu)) (fun _ h_=>h_.1))) hb);have Ub:=ja.mk (Kd.Gg (by (with_reducible repeat (first|apply Kd.yb|apply Kd.xb|apply Kd.Pb));exact (Kd.Td (Kd.Ee (p:=⟨we,4,none⟩) (Kd.Ee (p:=⟨we,3,none⟩) (Kd.Ee (p:=⟨we,2,none⟩) (Kd.Ee (p:=⟨we,1,none⟩) (Kd.Ee (p:=⟨we,0,none⟩) (Kd.Vj Hg.out Be.out (by decide)) (fun _ hk=>hk.2) (.slice Ir t116.length Er)) (fun _ hk=>hk.2) (.int .i64 t119)) (fun _ hk=>hk.2) (.int .i64 t120)) (fun _ hk=>hk.2) (.int .i64 t121)) (fun _ hk=>hk.2) (.slice Ou t122.length Eu)) (fun _ h_=>h_.1))) (Kd.Ki Qi) hb);have uc:=ja.mk (Kd.Gg (by (with_reducible repeat (first|apply Kd.yb|apply Kd.xb|apply Kd.Pb));exact (Kd.Td (Kd.Ee (p:=⟨we,4,none⟩) (Kd.Ee (p:=⟨we,3,none⟩) (Kd.Ee (p:=⟨we,2,none⟩) (Kd.Ee (p:=⟨we,1,none⟩) (Kd.Ee (p:=⟨we,0,none⟩) (Kd.Vj ri.out Be.out (by decide)) (fun _ hk=>hk.2) (.slice Ir t116.length Er)) (fun _ hk=>hk.2) (.int .i64 t119)) (fun _ hk=>hk.2) (.int .i64 t120)) (fun _ hk=>hk.2) (.int .i64 t121)) (fun _ hk=>hk.2) (.slice Ou t122.length Eu)) (fun _ h_=>h_.1))) (Kd.Ki Qi) hb);have lf:=ja.mk (Kd.Nf (by (with_reducible repeat (first|apply Kd.ld|apply Kd.jd|apply Kd.Jd));exact (Kd.ej (Kd.jo (p:=⟨we,4,none⟩) (Kd.jo (p:=⟨we,3,none⟩) (Kd.jo (p:=⟨we,2,none⟩) (Kd.jo (p:=⟨we,1,none⟩) (Kd.jo (p:=⟨we,0,none⟩) (Kd.tC Ni.out Be.out (by decide)) (fun _ hk=>hk.2) (.slice Ir t116.length Er)) (fun _ hk=>hk.2) (.int .i64 t119)) (fun _ hk=>hk.2) (.int .i64 t120)) (fun _ hk=>hk.2) (.int .i64 t121)) (fun _ hk=>hk.2) (.slice Ou t122.length Eu)) (fun _ h_=>h_.1))) hb);have Vf:=ja.mk (Kd.Qd (Kd.Gj (Kd.Gj (Kd.Gj Qi (Kd.Wt (by (with_reducible repeat (first|apply Kd.yb|apply Kd.xb|apply Kd.Pb));exact (Kd.Td (Kd.Ee (p:=⟨we,4,none⟩) (Kd.Ee (p:=⟨we,3,none⟩) (Kd.Ee (p:=⟨we,2,none⟩) (Kd.Ee (p:=⟨we,1,none⟩) (Kd.Ee (p:=⟨we,0,none⟩) (Kd.Vj Af.out Be.out (by decide)) (fun _ hk=>hk.2) (.slice Ir t116.length Er)) (fun _ hk=>hk.2) (.int .i64 t119)) (fun _ hk=>hk.2) (.int .i64 t120)) (fun _ hk=>hk.2) (.int .i64 t121)) (fun _ hk=>hk.2) (.slice Ou t122.length Eu)) (fun _ h_=>h_.1))))) (Kd.Wt (by (with_reducible repeat (first|apply Kd.yb|apply Kd.xb|apply Kd.Pb));exact (Kd.Td (Kd.Ee (p:=⟨we,4,none⟩) (Kd.Ee (p:=⟨we,3,none⟩) (Kd.Ee (p:=⟨we,2,none⟩) (Kd.Ee (p:=⟨we,1,none⟩) (Kd.Ee (p:=⟨we,0,none⟩) (Kd.Vj Hg.out Be.out (by decide)) (fun _ hk=>hk.2) (.slice Ir t116.length Er)) (fun _ hk=>hk.2) (.int .i64 t119)) (fun _ hk=>hk.2) (.int .i64 t120)) (fun _ hk=>hk.2) (.int .i64 t121)) (fun _ hk=>hk.2) (.slice Ou t122.length Eu)) (fun _ h_=>h_.1))))) (Kd.Wt (by (with_reducible repeat (first|apply Kd.yb|apply Kd.xb|apply Kd.Pb));exact (Kd.Td (Kd.Ee (p:=⟨we,4,none⟩) (Kd.Ee (p:=⟨we,3,none⟩) (Kd.Ee (p:=⟨we,2,none⟩) (Kd.Ee (p:=⟨we,1,none⟩) (Kd.Ee (p:=⟨we,0,none⟩) (Kd.Vj ri.out Be.out (by decide)) (fun _ hk=>hk.2) (.slice Ir t116.length Er)) (fun _ hk=>hk.2) (.int .i64 t119)) (fun _ hk=>hk.2) (.int .i64 t120)) (fun _ hk=>hk.2) (.int .i64 t121)) (fun _ hk=>hk.2) (.slice Ou t122.length Eu)) (fun _ h_=>h_.1))))) (Ga (by repeat (first|(with_reducible first|exact HB.out|apply qa|apply ia|apply ta|refine ua ?_ Ra.out|refine ua ?_ Lu.out)|exact HB.out))));have pg:=ja.mk (Ta (g:=ya) (o:=.cells #[.slice Wa Oa.length Ya,.int .i64 Ja,.int .i64 Fa,.int .i64 Ia,.slice Ob Ca.length Cb] 25 (0,0)) (by (with_reducible repeat (first|refine Aa ?_ _|refine Da ?_|refine Ba ?_ _));refine ie ?_ ep.out _;(with_reducible repeat (first|refine Aa ?_ _|refine Da ?_|refine Ba ?_ _));refine ie ?_ ep.out _;(with_reducible repeat (first|refine Aa ?_ _|refine Da ?_|refine Ba ?_ _));refine ie ?_ ep.out _;(with_reducible repeat (first|refine Aa ?_ _|refine Da ?_|refine Ba ?_ _));refine ie ?_ ep.out _;(with_reducible repeat (first|refine Aa ?_ _|refine Da ?_|refine Ba ?_ _));refine ie ?_ ep.out _;(with_reducible repeat (first|refine Aa ?_ _|refine Da ?_|refine Ba ?_ _));exact oa.out) hb);have cu:=ja.mk (Ta (g:=we) (o:=.cells #[.slice Ir t116.length Er,.int .i64 t119,.int .i64 t120,.int .i64 t121,.slice Ou t122.length Eu] 30 (0,0)) (by (with_reducible repeat (first|refine Aa ?_ _|refine Da ?_|refine Ba ?_ _));refine fe (cs:=#[.slice Ir t116.length Er,.int .i64 t119,.int .i64 t120,.int .i64 t121,.slice none 0 0]) ?_ 4 _ rfl;(with_reducible repeat (first|refine Aa ?_ _|refine Da ?_|refine Ba ?_ _));refine fe (cs:=#[.slice Ir t116.length Er,.int .i64 t119,.int .i64 t120,.int .i64 0,.slice none 0 0]) ?_ 3 _ rfl;(with_reducible repeat (first|refine Aa ?_ _|refine Da ?_|refine Ba ?_ _));refine fe (cs:=#[.slice Ir t116.length Er,.int .i64 t119,.int .i64 0,.int .i64 0,.slice none 0 0]) ?_ 2 _ rfl;(with_reducible repeat (first|refine Aa ?_ _|refine Da ?_|refine Ba ?_ _));refine fe (cs:=#[.slice Ir t116.length Er,.int .i64 0,.int .i64 0,.int .i64 0,.slice none 0 0]) ?_ 1 _ rfl;(with_reducible repeat (first|refine Aa ?_ _|refine Da ?_|refine Ba ?_ _));refine fe (cs:=#[.slice none 0 0,.int .i64 0,.int .i64 0,.int .i64 0,.slice none 0 0]) ?_ 0 _ rfl;(with_reducible repeat (first|refine Aa ?_ _|refine Da ?_|refine Ba ?_ _));exact Be.out) hb);have ux:=ja.mk (Na (by repeat (first|(with_reducible first|exact HB.out|apply qa|apply ia|apply ta|refine ua ?_ Ra.out|refine ua ?_ Lu.out)|exact HB.out)) hb);clear Af Ig Hg ri Ni oa Be HB;have Af:=Eb;have Ig:=Jb;have Hg:=Ub;have ri:=uc;have Ni:=lf;have Dk:=Vf;have oa:=pg;have Be:=cu;have HB:=ux;clear Eb Jb Ub uc lf Vf pg cu ux;(try clear hb);(try clear ni);(try clear hk);(try clear hi);(try clear Qi);have oH:EY.cell? ⟨we,0,none⟩=some (.slice Ir t116.length Er):=(ga Be.out 0).trans rfl;have nH:EY.cell? ⟨we,1,none⟩=some (.int .i64 t119):=(ga Be.out 1).trans rfl;have mH:EY.cell? ⟨we,2,none⟩=some (.int .i64 t120):=(ga Be.out 2).trans rfl;have lH:EY.cell? ⟨we,3,none⟩=some (.int .i64 t121):=(ga Be.out 3).trans rfl;have kH:EY.cell? ⟨we,4,none⟩=some (.slice Ou t122.length Eu):=(ga Be.out 4).trans rfl;have nG:=aa Be.out 0;have mG:=aa Be.out 1;have lG:=aa Be.out 2;have kG:=aa Be.out 3;have jG:=aa Be.out 4;obtain ⟨Fad,Cab,zan⟩:=Kd.ze Dk.out;subst zan)|((with_reducible refine mb (f:=23) rfl ?_);refine Mc (some 29) rfl rfl Try.func23 (by kernel_rfl) rfl #[.agg #[.slice Ir t116.length Er,.int .i64 t119,.int .i64 t120,.int .i64 t121,.slice Ou t122.length Eu],.slice Fad t126.length Cab] rfl (by (try simp only [List.map_toArray,List.map_cons,List.map_nil]);first|done|rfl|(simp only [List.length_drop,List.length_take];rfl)) ?_;(with_reducible refine (zf.calls k _ _ t116 t119 t120 t121 _ _ t122 _ _ t126 t129 _ ?dc ?Zb ?Rc ?Qc ?Dn ?Cn QZ.out).mono ?_);(case dc=>repeat (first|exact (Kd.Wc ri.out).2.2|(with_reducible refine Kd.Bb ?_ _)|(with_reducible refine Kd.Ab ?_ _)|(with_reducible refine Kd.Qb ?_)));(case Zb=>exact (Kd.Wc ri.out).2.1);(case Rc=>repeat (first|exact (Kd.Ud Ni.out).2.2|(with_reducible refine Kd.Bb ?_ _)|(with_reducible refine Kd.Ab ?_ _)|(with_reducible refine Kd.Qb ?_)));(case Qc=>exact (Kd.Ud Ni.out).2.1);(case Dn=>repeat (first|exact (Kd.Wc Dk.out).2.2|(with_reducible refine Kd.Bb ?_ _)|(with_reducible refine Kd.Ab ?_ _)|(with_reducible refine Kd.Qb ?_)));(case Cn=>exact (Kd.Wc Dk.out).2.1);rintro e w43 ⟨rfl,hb⟩;refine ⟨_,rfl,?_⟩;have Eb:=ja.mk (Kd.kf (by (with_reducible repeat (first|apply Kd.yb|apply Kd.xb|apply Kd.Pb));exact Af.out) hb);have Jb:=ja.mk (Kd.Nf (by (with_reducible repeat (first|apply Kd.ld|apply Kd.jd|apply Kd.Jd));exact Ig.out) hb);have Ub:=ja.mk (Kd.kf (by (with_reducible repeat (first|apply Kd.yb|apply Kd.xb|apply Kd.Pb));exact Hg.out) hb);have uc:=ja.mk (Kd.kf (by (with_reducible repeat (first|apply Kd.yb|apply Kd.xb|apply Kd.Pb));exact ri.out) hb);have lf:=ja.mk (Kd.Nf (by (with_reducible repeat (first|apply Kd.ld|apply Kd.jd|apply Kd.Jd));exact Ni.out) hb);have Vf:=ja.mk (Kd.kf (by (with_reducible repeat (first|apply Kd.yb|apply Kd.xb|apply Kd.Pb));exact Dk.out) hb);have pg:=ja.mk (Ta (g:=ya) (o:=.cells #[.slice Wa Oa.length Ya,.int .i64 Ja,.int .i64 Fa,.int .i64 Ia,.slice Ob Ca.length Cb] 25 (0,0)) (by (with_reducible repeat (first|refine Aa ?_ _|refine Da ?_|refine Ba ?_ _));exact oa.out) hb);have cu:=ja.mk (Ta (g:=we) (o:=.cells #[.slice Ir t116.length Er,.int .i64 t119,.int .i64 t120,.int .i64 t121,.slice Ou t122.length Eu] 30 (0,0)) (by (with_reducible repeat (first|refine Aa ?_ _|refine Da ?_|refine Ba ?_ _));exact Be.out) hb);have ux:=ja.mk (Na (by repeat (first|(with_reducible first|exact HB.out|apply qa|apply ia|apply ta|refine ua ?_ Ra.out|refine ua ?_ Lu.out)|exact HB.out)) hb);clear Af Ig Hg ri Ni Dk oa Be HB;have Af:=Eb;have Ig:=Jb;have Hg:=Ub;have ri:=uc;have Ni:=lf;have Dk:=Vf;have oa:=pg;have Be:=cu;have HB:=ux;clear Eb Jb Ub uc lf Vf pg cu ux;(try clear hb);(try clear ni);(try clear hk);(try clear hi)))
      have Eb:=ja.mk (Kd.Pb Af.out);have Jb:=ja.mk (Kd.Jd Ig.out);have Ub:=ja.mk (Kd.Pb Hg.out);have uc:=ja.mk (Kd.Pb ri.out);have lf:=ja.mk (Kd.Jd Ni.out);have Vf:=ja.mk (Kd.Pb Dk.out);have pg:=ja.mk (Da oa.out);have cu:=ja.mk (Da Be.out);have ux:=ja.mk (ta HB.out);clear Af Ig Hg ri Ni Dk oa Be HB;have Af:=Eb;have Ig:=Jb;have Hg:=Ub;have ri:=uc;have Ni:=lf;have Dk:=Vf;have oa:=pg;have Be:=cu;have HB:=ux;clear Eb Jb Ub uc lf Vf pg cu ux;refine Qm (n:=5) (S:=fun w'=>w'.cell? ⟨we,0,none⟩=some (.slice Ir t116.length Er)∧w'.cell? ⟨we,1,none⟩=some (.int .i64 t119)∧w'.cell? ⟨we,2,none⟩=some (.int .i64 t120)∧w'.cell? ⟨we,3,none⟩=some (.int .i64 t121)∧w'.cell? ⟨we,4,none⟩=some (.slice Ou t122.length Eu)∧w'.cell? ⟨ya,0,none⟩=some (.slice Wa Oa.length Ya)∧w'.cell? ⟨ya,1,none⟩=some (.int .i64 Ja)∧w'.cell? ⟨ya,2,none⟩=some (.int .i64 Fa)∧w'.cell? ⟨ya,3,none⟩=some (.int .i64 Ia)∧w'.cell? ⟨ya,4,none⟩=some (.slice Ob Ca.length Cb)) (ds:=[]) #[false,false,false,false,false] (by kernel_rfl) rfl rfl ⟨(ga Be.out 0).trans rfl,(ga Be.out 1).trans rfl,(ga Be.out 2).trans rfl,(ga Be.out 3).trans rfl,(ga Be.out 4).trans rfl,(ga oa.out 0).trans rfl,(ga oa.out 1).trans rfl,(ga oa.out 2).trans rfl,(ga oa.out 3).trans rfl,(ga oa.out 4).trans rfl⟩ (fun hHeld=>?_);generalize w43.drew=w44 at Af Ig Hg ri Ni Dk oa Be HB hHeld ⊢;refine Fh (i:=0) (N:=some 33) (v:=?_) (a':=?_) #[true,false,false,false,false] rfl rfl (by kernel_rfl) (fun _ _ _ h=>h) (Or.inl ⟨by rfl,?_⟩) hHeld ?_ ?_;rotate_left
      ·rintro w' ⟨s0,s1,s2,s3,s4,s5,s6,s7,s8,s9⟩;go_simp;with_reducible rfl
      rotate_left
      ·simp only [Act.put,List.setIfInBounds_toArray,List.set_cons_zero,List.set_cons_succ,ic,jc]
       rfl
      refine Fh (i:=1) (N:=some 34) (v:=?_) (a':=?_) #[true,true,false,false,false] rfl rfl (by kernel_rfl) (fun _ _ _ h=>h) (Or.inl ⟨by rfl,?_⟩) hHeld ?_ ?_;rotate_left
      ·rintro w' ⟨s0,s1,s2,s3,s4,s5,s6,s7,s8,s9⟩;go_simp;with_reducible rfl
      rotate_left
      ·simp only [Act.put,List.setIfInBounds_toArray,List.set_cons_zero,List.set_cons_succ,ic,jc]
       rfl
      refine Jw (i:=2) (N:=some 35) #[true,true,true,false,false] rfl rfl (by kernel_rfl) (by decide) (fun K hK=>?_);refine eu Try.func12 (by kernel_rfl) rfl #[.agg #[.slice Wa Oa.length Ya,.int .i64 Ja,.int .i64 Fa,.int .i64 Ia,.slice Ob Ca.length Cb]] (by rfl) rfl rfl (by (try simp only [List.map_toArray,List.map_cons,List.map_nil]);first|done|rfl|(simp only [List.length_drop,List.length_take];rfl)) ?_;with_reducible refine (od.calls k _ _ Oa Ja Fa Ia _ _ Ca t130 t133 t134 t135 t136 _ ?dc ?Zb ?Rc ?Qc pR.out).mono ?_
      (case dc=>repeat (first|exact (Kd.Db Md.out HB.out)|(with_reducible refine Kd.Bb ?_ _)|(with_reducible refine Kd.Ab ?_ _)|(with_reducible refine Kd.Qb ?_)))
      (case Zb=>exact Rd.out)
      (case Rc=>repeat (first|exact (Kd.Db Ce.out HB.out)|(with_reducible refine Kd.Bb ?_ _)|(with_reducible refine Kd.Ab ?_ _)|(with_reducible refine Kd.Qb ?_)))
      (case Qc=>exact Ff.out)
      rintro e mU ⟨Nas,Mas,rfl,Qi,UM,hb⟩;refine ⟨_,rfl,?_⟩;have Eb:=ja.mk (Kd.Gg (by (with_reducible repeat (first|apply Kd.yb|apply Kd.xb|apply Kd.Pb));exact Af.out) (Kd.Ki Qi) hb);have Jb:=ja.mk (Kd.js (by (with_reducible repeat (first|apply Kd.ld|apply Kd.jd|apply Kd.Jd));exact Ig.out) (Kd.XL UM) hb);have Ub:=ja.mk (Kd.Gg (by (with_reducible repeat (first|apply Kd.yb|apply Kd.xb|apply Kd.Pb));exact Hg.out) (Kd.Ki Qi) hb);have uc:=ja.mk (Kd.Gg (by (with_reducible repeat (first|apply Kd.yb|apply Kd.xb|apply Kd.Pb));exact ri.out) (Kd.Ki Qi) hb);have lf:=ja.mk (Kd.js (by (with_reducible repeat (first|apply Kd.ld|apply Kd.jd|apply Kd.Jd));exact Ni.out) (Kd.XL UM) hb);have Vf:=ja.mk (Kd.Gg (by (with_reducible repeat (first|apply Kd.yb|apply Kd.xb|apply Kd.Pb));exact Dk.out) (Kd.Ki Qi) hb);have pg:=ja.mk (Kd.Qd (Kd.Gj (Kd.Gj (Kd.Gj (Kd.Gj Qi (Kd.Wt (by (with_reducible repeat (first|apply Kd.yb|apply Kd.xb|apply Kd.Pb));exact Af.out))) (Kd.Wt (by (with_reducible repeat (first|apply Kd.yb|apply Kd.xb|apply Kd.Pb));exact Hg.out))) (Kd.Wt (by (with_reducible repeat (first|apply Kd.yb|apply Kd.xb|apply Kd.Pb));exact ri.out))) (Kd.Wt (by (with_reducible repeat (first|apply Kd.yb|apply Kd.xb|apply Kd.Pb));exact Dk.out))) (Ga (by repeat (first|(with_reducible first|exact HB.out|apply qa|apply ia|apply ta|refine ua ?_ Ra.out|refine ua ?_ Lu.out)|exact HB.out))));have cu:=ja.mk (Kd.vl (Kd.WL (Kd.WL UM (Kd.TX (by (with_reducible repeat (first|apply Kd.ld|apply Kd.jd|apply Kd.Jd));exact Ig.out))) (Kd.TX (by (with_reducible repeat (first|apply Kd.ld|apply Kd.jd|apply Kd.Jd));exact Ni.out))) (Ga (by repeat (first|(with_reducible first|exact HB.out|apply qa|apply ia|apply ta|refine ua ?_ Ra.out|refine ua ?_ Lu.out)|exact HB.out))));have ux:=ja.mk (Ta (g:=ya) (o:=.cells #[.slice Wa Oa.length Ya,.int .i64 Ja,.int .i64 Fa,.int .i64 Ia,.slice Ob Ca.length Cb] 25 (0,0)) (by (with_reducible repeat (first|refine Aa ?_ _|refine Da ?_|refine Ba ?_ _));exact oa.out) hb);have QE:=ja.mk (Ta (g:=we) (o:=.cells #[.slice Ir t116.length Er,.int .i64 t119,.int .i64 t120,.int .i64 t121,.slice Ou t122.length Eu] 30 (0,0)) (by (with_reducible repeat (first|refine Aa ?_ _|refine Da ?_|refine Ba ?_ _));exact Be.out) hb);have UC:=ja.mk (Na (by repeat (first|(with_reducible first|exact HB.out|apply qa|apply ia|apply ta|refine ua ?_ Ra.out|refine ua ?_ Lu.out)|exact HB.out)) hb);clear Af Ig Hg ri Ni Dk oa Be HB;have Af:=Eb;have Ig:=Jb;have Hg:=Ub;have ri:=uc;have Ni:=lf;have Dk:=Vf;have Aw:=pg;have Iz:=cu;have oa:=ux;have Be:=QE;have HB:=UC;clear Eb Jb Ub uc lf Vf pg cu ux QE UC;(try clear hb);(try clear ni);(try clear hk);(try clear hi);(try clear Qi);(try clear UM);obtain ⟨Zao,Ran,xab⟩:=Kd.ze Aw.out;(first|subst xab|(injection xab with dZ f2_ cZ;have f4_:=dZ.symm;have f5_:=cZ.symm;clear dZ f2_ cZ;subst f4_;subst f5_));obtain ⟨Ead,m3,LX⟩:=Kd.ei Iz.out;(first|subst LX|(injection LX with dZ f2_ cZ;have f4_:=dZ.symm;have f5_:=cZ.symm;clear dZ f2_ cZ;subst f4_;subst f5_));refine hK.out _ _ ⟨(ga Be.out 0).trans rfl,(ga Be.out 1).trans rfl,(ga Be.out 2).trans rfl,(ga Be.out 3).trans rfl,(ga Be.out 4).trans rfl,(ga oa.out 0).trans rfl,(ga oa.out 1).trans rfl,(ga oa.out 2).trans rfl,(ga oa.out 3).trans rfl,(ga oa.out 4).trans rfl⟩ (fun hHeld=>?_);clear hK K;refine yp (a':=?_) ?_ ?_;rotate_left
      ·show Act.put _ (some 35) _=_
       simp only [Act.put,List.setIfInBounds_toArray,List.set_cons_zero,List.set_cons_succ,ic,jc]
       rfl
      refine Jw (i:=3) (N:=some 36) #[true,true,true,true,false] rfl rfl (by kernel_rfl) (by decide) (fun K hK=>?_);refine eu Try.func14 (by kernel_rfl) rfl #[.agg #[.slice Ir t116.length Er,.int .i64 t119,.int .i64 t120,.int .i64 t121,.slice Ou t122.length Eu],.agg #[.slice Zao t130.length Ran,.int .i64 t133,.int .i64 t134,.int .i64 t135,.slice Ead t136.length m3]] (by rfl) rfl rfl (by (try simp only [List.map_toArray,List.map_cons,List.map_nil]);first|done|rfl|(simp only [List.length_drop,List.length_take];rfl)) ?_;with_reducible refine (Te.calls k _ _ t116 t119 t120 t121 _ _ t122 _ _ t130 t133 t134 t135 _ _ t136 true _ ?dc ?Zb ?Rc ?Qc ?Dn ?Cn ?I7 ?G7 rI.out).mono ?_
      (case dc=>repeat (first|exact (Kd.Wc ri.out).2.2|(with_reducible refine Kd.Bb ?_ _)|(with_reducible refine Kd.Ab ?_ _)|(with_reducible refine Kd.Qb ?_)))
      (case Zb=>exact (Kd.Wc ri.out).2.1)
      (case Rc=>repeat (first|exact (Kd.Ud Ni.out).2.2|(with_reducible refine Kd.Bb ?_ _)|(with_reducible refine Kd.Ab ?_ _)|(with_reducible refine Kd.Qb ?_)))
      (case Qc=>exact (Kd.Ud Ni.out).2.1)
      (case Dn=>repeat (first|exact (Kd.Wc Aw.out).2.2|(with_reducible refine Kd.Bb ?_ _)|(with_reducible refine Kd.Ab ?_ _)|(with_reducible refine Kd.Qb ?_)))
      (case Cn=>exact (Kd.Wc Aw.out).2.1)
      (case I7=>repeat (first|exact (Kd.Ud Iz.out).2.2|(with_reducible refine Kd.Bb ?_ _)|(with_reducible refine Kd.Ab ?_ _)|(with_reducible refine Kd.Qb ?_)))
      (case G7=>exact (Kd.Ud Iz.out).2.1)
      rintro e w48 ⟨rfl,hb⟩;refine ⟨_,rfl,?_⟩;have Eb:=ja.mk (Kd.kf (by (with_reducible repeat (first|apply Kd.yb|apply Kd.xb|apply Kd.Pb));exact Af.out) hb);have Jb:=ja.mk (Kd.Nf (by (with_reducible repeat (first|apply Kd.ld|apply Kd.jd|apply Kd.Jd));exact Ig.out) hb);have Ub:=ja.mk (Kd.kf (by (with_reducible repeat (first|apply Kd.yb|apply Kd.xb|apply Kd.Pb));exact Hg.out) hb);have uc:=ja.mk (Kd.kf (by (with_reducible repeat (first|apply Kd.yb|apply Kd.xb|apply Kd.Pb));exact ri.out) hb);have lf:=ja.mk (Kd.Nf (by (with_reducible repeat (first|apply Kd.ld|apply Kd.jd|apply Kd.Jd));exact Ni.out) hb);have Vf:=ja.mk (Kd.kf (by (with_reducible repeat (first|apply Kd.yb|apply Kd.xb|apply Kd.Pb));exact Dk.out) hb);have pg:=ja.mk (Kd.kf (by (with_reducible repeat (first|apply Kd.yb|apply Kd.xb|apply Kd.Pb));exact Aw.out) hb);have cu:=ja.mk (Kd.Nf (by (with_reducible repeat (first|apply Kd.ld|apply Kd.jd|apply Kd.Jd));exact Iz.out) hb);have ux:=ja.mk (Ta (g:=ya) (o:=.cells #[.slice Wa Oa.length Ya,.int .i64 Ja,.int .i64 Fa,.int .i64 Ia,.slice Ob Ca.length Cb] 25 (0,0)) (by (with_reducible repeat (first|refine Aa ?_ _|refine Da ?_|refine Ba ?_ _));exact oa.out) hb);have QE:=ja.mk (Ta (g:=we) (o:=.cells #[.slice Ir t116.length Er,.int .i64 t119,.int .i64 t120,.int .i64 t121,.slice Ou t122.length Eu] 30 (0,0)) (by (with_reducible repeat (first|refine Aa ?_ _|refine Da ?_|refine Ba ?_ _));exact Be.out) hb);have UC:=ja.mk (Na (by repeat (first|(with_reducible first|exact HB.out|apply qa|apply ia|apply ta|refine ua ?_ Ra.out|refine ua ?_ Lu.out)|exact HB.out)) hb);clear Af Ig Hg ri Ni Dk Aw Iz oa Be HB;have Af:=Eb;have Ig:=Jb;have Hg:=Ub;have ri:=uc;have Ni:=lf;have Dk:=Vf;have Aw:=pg;have Iz:=cu;have oa:=ux;have Be:=QE;have HB:=UC;clear Eb Jb Ub uc lf Vf pg cu ux QE UC;(try clear hb);(try clear ni);(try clear hk);(try clear hi);refine hK.out _ _ ⟨(ga Be.out 0).trans rfl,(ga Be.out 1).trans rfl,(ga Be.out 2).trans rfl,(ga Be.out 3).trans rfl,(ga Be.out 4).trans rfl,(ga oa.out 0).trans rfl,(ga oa.out 1).trans rfl,(ga oa.out 2).trans rfl,(ga oa.out 3).trans rfl,(ga oa.out 4).trans rfl⟩ (fun hHeld=>?_);clear hK K;refine yp (a':=?_) ?_ ?_;rotate_left
      ·show Act.put _ (some 36) _=_
       simp only [Act.put,List.setIfInBounds_toArray,List.set_cons_zero,List.set_cons_succ,ic,jc]
       rfl
      refine zd (i:=4) (N:=some 37) (v:=?_) (a':=?_) #[true,true,true,true,true] rfl rfl (by kernel_rfl) (fun _ _ _ h=>h) (Or.inl ⟨by rfl,?_⟩) ?_ ?_;rotate_left
      ·intro w';go_simp;with_reducible rfl
      rotate_left
      ·simp only [Act.put,List.setIfInBounds_toArray,List.set_cons_zero,List.set_cons_succ,ic,jc]
       rfl
      refine Sr (by kernel_rfl) ?_
      try go_wp2_with (first|((with_reducible refine mb (f:=22) rfl ?_);refine Mc (some 40) rfl rfl Try.func22 (by kernel_rfl) rfl #[.slice A1 l1.length c1] rfl (by (try simp only [List.map_toArray,List.map_cons,List.map_nil]);first|done|rfl|(simp only [List.length_drop,List.length_take];rfl)) ?_;(with_reducible refine (mc.calls k _ _ l1 t140 _ ?dc ?Zb OP.out).mono ?_);(case dc=>repeat (first|exact (Kd.Db Vo.out HB.out)|(with_reducible refine Kd.Bb ?_ _)|(with_reducible refine Kd.Ab ?_ _)|(with_reducible refine Kd.Qb ?_)));(case Zb=>exact FI.out);rintro e D6 ⟨Las,rfl,Qi,hb⟩;refine ⟨_,rfl,?_⟩;have Eb:=ja.mk (Kd.Gg (by (with_reducible repeat (first|apply Kd.yb|apply Kd.xb|apply Kd.Pb));exact Af.out) (Kd.Ki Qi) hb);have Jb:=ja.mk (Kd.Nf (by (with_reducible repeat (first|apply Kd.ld|apply Kd.jd|apply Kd.Jd));exact Ig.out) hb);have Ub:=ja.mk (Kd.Gg (by (with_reducible repeat (first|apply Kd.yb|apply Kd.xb|apply Kd.Pb));exact Hg.out) (Kd.Ki Qi) hb);have uc:=ja.mk (Kd.Gg (by (with_reducible repeat (first|apply Kd.yb|apply Kd.xb|apply Kd.Pb));exact ri.out) (Kd.Ki Qi) hb);have lf:=ja.mk (Kd.Nf (by (with_reducible repeat (first|apply Kd.ld|apply Kd.jd|apply Kd.Jd));exact Ni.out) hb);have Vf:=ja.mk (Kd.Gg (by (with_reducible repeat (first|apply Kd.yb|apply Kd.xb|apply Kd.Pb));exact Dk.out) (Kd.Ki Qi) hb);have pg:=ja.mk (Kd.Gg (by (with_reducible repeat (first|apply Kd.yb|apply Kd.xb|apply Kd.Pb));exact Aw.out) (Kd.Ki Qi) hb);have cu:=ja.mk (Kd.Nf (by (with_reducible repeat (first|apply Kd.ld|apply Kd.jd|apply Kd.Jd));exact Iz.out) hb);have ux:=ja.mk (Kd.Qd (Kd.Gj (Kd.Gj (Kd.Gj (Kd.Gj (Kd.Gj Qi (Kd.Wt (by (with_reducible repeat (first|apply Kd.yb|apply Kd.xb|apply Kd.Pb));exact Af.out))) (Kd.Wt (by (with_reducible repeat (first|apply Kd.yb|apply Kd.xb|apply Kd.Pb));exact Hg.out))) (Kd.Wt (by (with_reducible repeat (first|apply Kd.yb|apply Kd.xb|apply Kd.Pb));exact ri.out))) (Kd.Wt (by (with_reducible repeat (first|apply Kd.yb|apply Kd.xb|apply Kd.Pb));exact Dk.out))) (Kd.Wt (by (with_reducible repeat (first|apply Kd.yb|apply Kd.xb|apply Kd.Pb));exact Aw.out))) (Ga (by repeat (first|(with_reducible first|exact HB.out|apply qa|apply ia|apply ta|refine ua ?_ Ra.out|refine ua ?_ Lu.out)|exact HB.out))));have QE:=ja.mk (Ta (g:=ya) (o:=.cells #[.slice Wa Oa.length Ya,.int .i64 Ja,.int .i64 Fa,.int .i64 Ia,.slice Ob Ca.length Cb] 25 (0,0)) (by (with_reducible repeat (first|refine Aa ?_ _|refine Da ?_|refine Ba ?_ _));exact oa.out) hb);have UC:=ja.mk (Ta (g:=we) (o:=.cells #[.slice Ir t116.length Er,.int .i64 t119,.int .i64 t120,.int .i64 t121,.slice Ou t122.length Eu] 30 (0,0)) (by (with_reducible repeat (first|refine Aa ?_ _|refine Da ?_|refine Ba ?_ _));exact Be.out) hb);have SR:=ja.mk (Na (by repeat (first|(with_reducible first|exact HB.out|apply qa|apply ia|apply ta|refine ua ?_ Ra.out|refine ua ?_ Lu.out)|exact HB.out)) hb);clear Af Ig Hg ri Ni Dk Aw Iz oa Be HB;have Af:=Eb;have Ig:=Jb;have Hg:=Ub;have ri:=uc;have Ni:=lf;have Dk:=Vf;have Aw:=pg;have Iz:=cu;have VT:=ux;have oa:=QE;have Be:=UC;have HB:=SR;clear Eb Jb Ub uc lf Vf pg cu ux QE UC SR;(try clear hb);(try clear ni);(try clear hk);(try clear hi);(try clear Qi);obtain ⟨Yao,Qan,xan⟩:=Kd.ze VT.out;subst xan)|((with_reducible refine mb (f:=17) rfl ?_);refine Mc (some 41) rfl rfl Try.func17 (by kernel_rfl) rfl #[.slice Fad t126.length Cab,.slice Yao t140.length Qan] rfl (by (try simp only [List.map_toArray,List.map_cons,List.map_nil]);first|done|rfl|(simp only [List.length_drop,List.length_take];rfl)) ?_;(with_reducible refine (Nc.calls k _ _ t126 _ _ t140 true _ ?dc ?Zb ?Rc ?Qc RJ.out).mono ?_);(case dc=>repeat (first|exact (Kd.Wc Dk.out).2.2|(with_reducible refine Kd.Bb ?_ _)|(with_reducible refine Kd.Ab ?_ _)|(with_reducible refine Kd.Qb ?_)));(case Zb=>exact (Kd.Wc Dk.out).2.1);(case Rc=>repeat (first|exact (Kd.Wc VT.out).2.2|(with_reducible refine Kd.Bb ?_ _)|(with_reducible refine Kd.Ab ?_ _)|(with_reducible refine Kd.Qb ?_)));(case Qc=>exact (Kd.Wc VT.out).2.1);rintro e w' ⟨rfl,⟨nd,rfl⟩⟩;refine ⟨_,rfl,?_⟩))
      go_ret;exact ⟨by first|rfl|(simp [Ma,La] <;> rfl)|(simp [*,Ma,La] <;> rfl),by repeat (first|(with_reducible first|exact HB.out|apply qa|apply ia|apply ta|refine ua ?_ Ra.out|refine ua ?_ Lu.out)|exact HB.out)⟩
     ·replace kB:=Bool.eq_false_iff.mpr kB;subst kB;have H1:(none)=some r:=by rw [if_neg (show ¬ (false=true) by decide)] at H;exact H
      clear H;have H:=H1;clear H1;exact absurd H (by simp)
    ·replace Xk:=Bool.eq_false_iff.mpr Xk;subst Xk;have H1:(none)=some r:=by rw [if_neg (show ¬ (false=true) by decide)] at H;exact H
     clear H;have H:=H1;clear H1;exact absurd H (by simp)
section
variable {n:Nat} {T:List (List Bool)} {R:List (List Int)}
end
theorem TR {l0:List Int} {p v:Int} {n:Nat} {bs:List Ke} (hO:Zn bs n):Ii.f l0 p v (n:Int) bs=some (Rl bs n):=by
 unfold Ii.f;rw [if_pos ⟨by omega,by rw [Int.toNat_natCast];exact hO⟩,Int.toNat_natCast]
theorem wR {l0:List Int} {p v:Int} {n:Nat} {bs:List Ke} (hO:Zn bs n):Ag.f l0 p v (n:Int) bs=some (Rl bs n):=by
 unfold Ag.f;rw [if_pos ⟨by omega,by rw [Int.toNat_natCast];exact hO⟩,Int.toNat_natCast]
end Go.Proofs.Ytkigbdceceeenaa.P
end
section
namespace Go.Proofs.Ytkigbdceceeenaa.P
open Go.RowKit Go.Proofs.Pa.Xb Go.Proofs.Pa.Pd Go.Proofs.Pa.Oe
set_option linter.unusedVariables false
set_option linter.unusedSimpArgs false
def GY (T:List (List Bool)) (cs:List Int) (a b:Nat):Prop:=seen (Sd T a) b=true→rd cs (a:Int) ≥ 0→¬ rd cs (a:Int)=rd cs (b:Int)
section
variable {n:Nat} {T:List (List Bool)} {cs:List Int}
theorem pJ {a:Nat} {Q:Prop} (hc:cs.length=n) (hT:T.length=n) (hr:(Sd T a).length=n) (ha:a < n) (hn:n ≤ 1048576) (m:Int)
  (hK:∃ r,Ev (fun k=>Fb.l0 k cs T m ((a + 1:Nat):Int)) r∧(r=true ↔ Q)) :
  ∀ (d b:Nat),b + d=n→∃ r,Ev (fun k=>Fb.l1 k cs (a:Int) T m (a:Int) (Sd T a) (n:Int) (b:Int)) r∧(r=true ↔ (∀ j,b ≤ j→j < n→GY T cs a j)∧Q):=by
 intro d
 induction d with
 | zero =>
  intro b hb;obtain rfl:b=n:=by omega
  obtain ⟨r,r1,r2⟩:=hK;refine ⟨r,Ev.step (fun k=>by rw [Fb.l1]) ?_,r2.trans ⟨fun h=>⟨fun j h1 h2=>by omega,h⟩,fun h=>h.2⟩⟩;rw [Zd ha (by omega)];exact Ev.neg (by omega) r1
 | succ d ih =>
  intro b hb;have aZ:b < n:=by omega
  obtain ⟨r,r1,r2⟩:=ih (b + 1) (by omega)
  have more:GY T cs a b→(r=true ↔ (∀ j,b ≤ j→j < n→GY T cs a j)∧Q):=fun h=>r2.trans ⟨fun h2=>⟨fun j h3 h4=>by
   by_cases e:j=b
   ·subst e;exact h
   ·exact h2.1 j (by omega) h4,h2.2⟩,fun h2=>⟨fun j h3 h4=>h2.1 j (by omega) h4,h2.2⟩⟩
  by_cases hs:seen (Sd T a) b=true
  ·by_cases h0:rd cs (a:Int) ≥ 0
   ·by_cases he:rd cs (a:Int)=rd cs (b:Int)
    ·refine ⟨false,Ev.step (fun k=>by rw [Fb.l1]) ?_,⟨fun h=>(by cases h),fun h=>absurd he (h.1 b (Nat.le_refl _) aZ hs h0)⟩⟩;refine Ev.pos (by omega) (Ev.pos (by omega) (Ev.pos (by omega) ?_));rw [bk];exact Ev.pos hs (Ev.pos (by omega) (Ev.pos (by omega) (Ev.pos h0 (Ev.pos (by omega) (Ev.pos he (Ev.now _))))))
    ·refine ⟨r,Ev.step (fun k=>by rw [Fb.l1]) ?_,more (fun _ _=>he)⟩;refine Ev.pos (by omega) (Ev.pos (by omega) (Ev.pos (by omega) ?_));rw [bk,Zd aZ (by omega)];exact Ev.pos hs (Ev.pos (by omega) (Ev.pos (by omega) (Ev.pos h0 (Ev.pos (by omega) (Ev.neg he r1)))))
   ·refine ⟨r,Ev.step (fun k=>by rw [Fb.l1]) ?_,more (fun _ h=>absurd h h0)⟩;refine Ev.pos (by omega) (Ev.pos (by omega) (Ev.pos (by omega) ?_));rw [bk,Zd aZ (by omega)];exact Ev.pos hs (Ev.pos (by omega) (Ev.pos (by omega) (Ev.neg h0 r1)))
  ·refine ⟨r,Ev.step (fun k=>by rw [Fb.l1]) ?_,more (fun h=>absurd h hs)⟩;refine Ev.pos (by omega) (Ev.pos (by omega) (Ev.pos (by omega) ?_));rw [bk,Zd aZ (by omega)];exact Ev.neg hs r1
theorem qJ (hc:cs.length=n) (hT:T.length=n) (hr:∀ a,a < n→(Sd T a).length=n) (hn:n ≤ 1048576) :
  ∀ (d a:Nat),a + d=n→∃ r,Ev (fun k=>Fb.l0 k cs T (n:Int) (a:Int)) r∧(r=true ↔ ∀ i,a ≤ i→i < n→Pk (rd cs (i:Int)) (-1) 11=true∧∀ j,j < n→GY T cs i j):=by
 intro d
 induction d with
 | zero =>
  intro a ha;obtain rfl:a=n:=by omega
  refine ⟨true,Ev.step (fun k=>by rw [Fb.l0]) ?_,⟨fun _ i h1 h2=>by omega,fun _=>rfl⟩⟩;exact Ev.neg (by omega) (Ev.now _)
 | succ d ih =>
  intro a ha;have uU:a < n:=by omega
  have hl:=pJ hc hT (hr a uU) uU hn (n:Int) (ih (a + 1) (by omega)) n 0 (by omega);have hin:=eD (rd cs (a:Int)) (-1) 11
  by_cases hb:Pk (rd cs (a:Int)) (-1) 11=true
  ·obtain ⟨r,r1,r2⟩:=hl;refine ⟨r,Ev.step (fun k=>by rw [Fb.l0]) ?_,r2.trans ⟨fun h i h1 h2=>?_,fun h=>⟨fun j _ hj=>(h a (Nat.le_refl _) uU).2 j hj,fun i h1 h2=>h i (by omega) h2⟩⟩⟩
   ·refine Ev.pos (by omega) (Ev.pos (by omega) (Ev.pos (by omega) (Ev.pos (by omega) (Ev.bind (Ev.here hin) (Ev.pos hb ?_)))));rw [Ls,hr a uU];exact r1
   ·by_cases e:i=a
    ·subst e;exact ⟨hb,fun j hj=>h.1 j (Nat.zero_le _) hj⟩
    ·exact h.2 i (by omega) h2
  ·refine ⟨false,Ev.step (fun k=>by rw [Fb.l0]) ?_,⟨fun h=>(by cases h),fun h=>absurd (h a (Nat.le_refl _) uU).1 hb⟩⟩;exact Ev.pos (by omega) (Ev.pos (by omega) (Ev.pos (by omega) (Ev.pos (by omega) (Ev.bind (Ev.here hin) (Ev.neg hb (Ev.now _))))))
theorem kJ {a:Nat} {Q:Prop} (hc:cs.length=n) (hT:T.length=n) (hr:(Sd T a).length=n) (ha:a < n) (hn:n ≤ 1048576)
  (hK:∃ r,Ev (fun k=>Ib.l0 k cs T ((a + 1:Nat):Int)) r∧(r=true ↔ Q)) :
  ∀ (d b:Nat),b + d=a→∃ r,Ev (fun k=>Ib.l1 k cs T (a:Int) (b:Int)) r∧(r=true ↔ (∀ j,b ≤ j→j < a→GY T cs a j)∧Q):=by
 intro d
 induction d with
 | zero =>
  intro b hb;obtain rfl:b=a:=by omega
  obtain ⟨r,r1,r2⟩:=hK;refine ⟨r,Ev.step (fun k=>by rw [Ib.l1]) ?_,r2.trans ⟨fun h=>⟨fun j h1 h2=>by omega,h⟩,fun h=>h.2⟩⟩;rw [Zd ha (by omega)];exact Ev.neg (by omega) r1
 | succ d ih =>
  intro b hb;have aZ:b < n:=by omega
  obtain ⟨r,r1,r2⟩:=ih (b + 1) (by omega)
  have more:GY T cs a b→(r=true ↔ (∀ j,b ≤ j→j < a→GY T cs a j)∧Q):=fun h=>r2.trans ⟨fun h2=>⟨fun j h3 h4=>by
   by_cases e:j=b
   ·subst e;exact h
   ·exact h2.1 j (by omega) h4,h2.2⟩,fun h2=>⟨fun j h3 h4=>h2.1 j (by omega) h4,h2.2⟩⟩
  by_cases hs:seen (Sd T a) b=true
  ·by_cases h0:rd cs (a:Int) ≥ 0
   ·by_cases he:rd cs (a:Int)=rd cs (b:Int)
    ·refine ⟨false,Ev.step (fun k=>by rw [Ib.l1]) ?_,⟨fun h=>(by cases h),fun h=>absurd he (h.1 b (Nat.le_refl _) (by omega) hs h0)⟩⟩;rw [Ls];refine Ev.pos (by omega) (Ev.pos (by omega) (Ev.pos (by omega) (Ev.pos (by omega) (Ev.pos (by omega) ?_))));rw [bk];exact Ev.pos hs (Ev.pos (by omega) (Ev.pos h0 (Ev.pos (by omega) (Ev.pos he (Ev.now _)))))
    ·refine ⟨r,Ev.step (fun k=>by rw [Ib.l1]) ?_,more (fun _ _=>he)⟩;rw [Ls];refine Ev.pos (by omega) (Ev.pos (by omega) (Ev.pos (by omega) (Ev.pos (by omega) (Ev.pos (by omega) ?_))));rw [bk,Zd aZ (by omega)];exact Ev.pos hs (Ev.pos (by omega) (Ev.pos h0 (Ev.pos (by omega) (Ev.neg he r1))))
   ·refine ⟨r,Ev.step (fun k=>by rw [Ib.l1]) ?_,more (fun _ h=>absurd h h0)⟩;rw [Ls];refine Ev.pos (by omega) (Ev.pos (by omega) (Ev.pos (by omega) (Ev.pos (by omega) (Ev.pos (by omega) ?_))));rw [bk,Zd aZ (by omega)];exact Ev.pos hs (Ev.pos (by omega) (Ev.neg h0 r1))
  ·refine ⟨r,Ev.step (fun k=>by rw [Ib.l1]) ?_,more (fun h=>absurd h hs)⟩;rw [Ls];refine Ev.pos (by omega) (Ev.pos (by omega) (Ev.pos (by omega) (Ev.pos (by omega) (Ev.pos (by omega) ?_))));rw [bk,Zd aZ (by omega)];exact Ev.neg hs r1
theorem lJ (hc:cs.length=n) (hT:T.length=n) (hr:∀ a,a < n→(Sd T a).length=n) (hn:n ≤ 1048576) :
  ∀ (d a:Nat),a + d=n→∃ r,Ev (fun k=>Ib.l0 k cs T (a:Int)) r∧(r=true ↔ ∀ i,a ≤ i→i < n→Pk (rd cs (i:Int)) (-1) 11=true∧∀ j,j < i→GY T cs i j):=by
 intro d
 induction d with
 | zero =>
  intro a ha;obtain rfl:a=n:=by omega
  refine ⟨true,Ev.step (fun k=>by rw [Ib.l0]) ?_,⟨fun _ i h1 h2=>by omega,fun _=>rfl⟩⟩;exact Ev.neg (by omega) (Ev.now _)
 | succ d ih =>
  intro a ha;have uU:a < n:=by omega
  have hl:=kJ hc hT (hr a uU) uU hn (ih (a + 1) (by omega)) a 0 (by omega);have hin:=VI (rd cs (a:Int)) (-1) 11
  by_cases hb:Pk (rd cs (a:Int)) (-1) 11=true
  ·obtain ⟨r,r1,r2⟩:=hl;refine ⟨r,Ev.step (fun k=>by rw [Ib.l0]) ?_,r2.trans ⟨fun h i h1 h2=>?_,fun h=>⟨fun j _ hj=>(h a (Nat.le_refl _) uU).2 j hj,fun i h1 h2=>h i (by omega) h2⟩⟩⟩
   ·exact Ev.pos (by omega) (Ev.pos (by omega) (Ev.bind (Ev.here hin) (Ev.pos hb r1)))
   ·by_cases e:i=a
    ·subst e;exact ⟨hb,fun j hj=>h.1 j (Nat.zero_le _) hj⟩
    ·exact h.2 i (by omega) h2
  ·refine ⟨false,Ev.step (fun k=>by rw [Ib.l0]) ?_,⟨fun h=>(by cases h),fun h=>absurd (h a (Nat.le_refl _) uU).1 hb⟩⟩;exact Ev.pos (by omega) (Ev.pos (by omega) (Ev.bind (Ev.here hin) (Ev.neg hb (Ev.now _))))
end
theorem tJ (l0:List Int) (p v s:Int) (bs:List Ke) (cs:List Int) (h0:l0.length ≤ 1048576) (hl:bs.length ≤ 1048576) (ht:Vd bs ≤ 1048576) :
  ∃ r:Bool,Ev (fun k=>Ib.f k l0 p v s bs cs) r∧Ev (fun k=>Fb.f k l0 p v s bs cs) r∧(r=true→ql l0 p v s bs=true∧(cs.length:Int)=s∧∀ i:Nat,i < cs.length→-1 ≤ rd cs (i:Int)∧rd cs (i:Int) ≤ 11):=by
 by_cases hok:ql l0 p v s bs=true
 ·have hh:=kA (vz hok).1;obtain ⟨n,rfl⟩:∃ n:Nat,s=(n:Int):=⟨s.toNat,by omega⟩
  by_cases hlen:(cs.length:Int)=(n:Int)
  ·have hO:=eV hok ht;have hn:=hO.2.1;have hc:cs.length=n:=by omega
   have hT:=SE bs n;have hr:∀ i,i < n→(Sd (Rl bs n) i).length=n:=fun i hi=>kQ hi
   obtain ⟨r1,e1,q1⟩:=lJ hc hT hr hn n 0 (by omega);obtain ⟨r2,e2,q2⟩:=qJ hc hT hr hn n 0 (by omega)
   have hrr:r1=r2:=by
    rw [Bool.eq_iff_iff,q1,q2]
    constructor
    ·intro h i VY hi;refine ⟨(h i VY hi).1,fun j hj=>?_⟩
     rcases Nat.lt_or_ge j i with e|e
     ·exact (h i VY hi).2 j e
     ·by_cases e2:j=i
      ·subst e2;intro hs;rw [lQ hi] at hs;cases hs
      ·intro hs hc0 hce;refine (h j (Nat.zero_le _) hj).2 i (by omega) ?_ ?_ hce.symm
       ·rw [jQ hj hi];exact hs
       ·rw [← hce];exact hc0
    ·intro h i VY hi;exact ⟨(h i VY hi).1,fun j hj=>(h i VY hi).2 j (by omega)⟩
   subst hrr;refine ⟨r1,?_,?_,fun h=>⟨hok,hlen,fun i hi=>?_⟩⟩
   ·unfold Ib.f;refine Ev.bind (Ow h0 hl ht) (Ev.pos hok ?_);refine Ev.step (fun k=>by rw [Ib.j0]) ?_;exact Ev.neg (by simp [hlen]) (Ev.bind (Ev.here (wR hO)) e1)
   ·unfold Fb.f;refine Ev.bind (Nw h0 hl ht) (Ev.pos hok ?_);refine Ev.step (fun k=>by rw [Fb.j0]) ?_;refine Ev.neg (by simp [hlen]) (Ev.bind (Ev.here (TR hO)) ?_);rw [hT];exact e2
   ·have h2:=(q1.1 h i (Nat.zero_le _) (by omega)).1;unfold Pk at h2;simp only [Bool.and_eq_true,decide_eq_true_eq] at h2;exact h2
  ·refine ⟨false,?_,?_,fun h=>by cases h⟩
   ·unfold Ib.f;refine Ev.bind (Ow h0 hl ht) (Ev.pos hok ?_);refine Ev.step (fun k=>by rw [Ib.j0]) ?_;exact Ev.pos (by simpa using hlen) (Ev.now _)
   ·unfold Fb.f;refine Ev.bind (Nw h0 hl ht) (Ev.pos hok ?_);refine Ev.step (fun k=>by rw [Fb.j0]) ?_;exact Ev.pos (by simpa using hlen) (Ev.now _)
 ·refine ⟨false,?_,?_,fun h=>by cases h⟩
  ·unfold Ib.f;refine Ev.bind (Ow h0 hl ht) (Ev.neg hok ?_);refine Ev.step (fun k=>by rw [Ib.j0]) ?_;exact Ev.pos rfl (Ev.now _)
  ·unfold Fb.f;refine Ev.bind (Nw h0 hl ht) (Ev.neg hok ?_);refine Ev.step (fun k=>by rw [Fb.j0]) ?_;exact Ev.pos rfl (Ev.now _)
end Go.Proofs.Ytkigbdceceeenaa.P
end
section
namespace Go.Proofs.Ytkigbdceceeenaa.P
open Go.RowKit Go.Proofs.Pa.Xb Go.Proofs.Pa.Pd Go.Proofs.Pa.Oe
set_option linter.unusedVariables false
set_option linter.unusedSimpArgs false
attribute [local go_sem] Bi Xi Jj Ik Uh Th Yi Wi
def Jg.l0:Nat→List Int→Int→Int→Option (Int × List Int)
 | 0,_,_,_=>none
 | k + 1,x0,x1,x5=>if x5 < (x0.length:Int) then (if 0 ≤ x5 then (Jg.l0 k (x0.set (x5:Int).toNat x1) (wrap64 (x1 + 1)) (wrap64 (x5 + 1))) else (none)) else (some (x1,x0))
def Jg.f (k:Nat) (l0:List Int) (a1:Int):Option (Int × List Int):=Jg.l0 k l0 a1 0
def Yf.l0:Nat→Int→ByteArray→Option (ByteArray)
 | 0,_,_=>none
 | k + 1,x0,x3=>if x0 > 0 then ((some (([(wrap64 (48 + (Int.tmod x0 10))) % 256]:List Int):List Int)).bind fun zn=>(if (strOfNums zn).size + x3.size ≤ 9223372036854775807 then (Yf.l0 k (wrap64 (Int.tdiv x0 10)) ((strOfNums zn) ++ x3)) else (none))) else (if 1 + x3.size ≤ 9223372036854775807 then (some ((⟨#[109]⟩:ByteArray) ++ x3)) else (none))
def Yf.f (k:Nat) (a0:Int):Option (ByteArray):=if a0 ≤ 0 then (some (⟨#[109,48]⟩:ByteArray)) else (Yf.l0 k a0 (⟨#[]⟩:ByteArray))
def cg.l0:Nat→List (lg)→Int→Int→Option (Int × (List (lg)))
 | 0,_,_,_=>none
 | k + 1,x0,x1,x5=>if x5 < (x0.length:Int) then (if 0 ≤ x5 then ((some (x0.set (x5:Int).toNat (⟨x1,(Ua x0 x5).f1,(Ua x0 x5).f2,(Ua x0 x5).f3,(Ua x0 x5).f4,(Ua x0 x5).f5,(Ua x0 x5).f6⟩:lg):List (lg))).bind fun zn=>((some (zn.set (x5:Int).toNat (⟨(Ua zn x5).f0,wrap64 (x1 + 1),(Ua zn x5).f2,(Ua zn x5).f3,(Ua zn x5).f4,(Ua zn x5).f5,(Ua zn x5).f6⟩:lg):List (lg))).bind fun tf=>((some (tf.set (x5:Int).toNat (⟨(Ua tf x5).f0,(Ua tf x5).f1,wrap64 ((wrap64 (x1 + 1)) + 1),(Ua tf x5).f3,(Ua tf x5).f4,(Ua tf x5).f5,(Ua tf x5).f6⟩:lg):List (lg))).bind fun Bw=>((some (Bw.set (x5:Int).toNat (⟨(Ua Bw x5).f0,(Ua Bw x5).f1,(Ua Bw x5).f2,wrap64 ((wrap64 ((wrap64 (x1 + 1)) + 1)) + 1),(Ua Bw x5).f4,(Ua Bw x5).f5,(Ua Bw x5).f6⟩:lg):List (lg))).bind fun fK=>((some (fK.set (x5:Int).toNat (⟨(Ua fK x5).f0,(Ua fK x5).f1,(Ua fK x5).f2,(Ua fK x5).f3,wrap64 ((wrap64 ((wrap64 ((wrap64 (x1 + 1)) + 1)) + 1)) + 1),(Ua fK x5).f5,(Ua fK x5).f6⟩:lg):List (lg))).bind fun Gh=>((some (Gh.set (x5:Int).toNat (⟨(Ua Gh x5).f0,(Ua Gh x5).f1,(Ua Gh x5).f2,(Ua Gh x5).f3,(Ua Gh x5).f4,wrap64 ((wrap64 ((wrap64 ((wrap64 ((wrap64 (x1 + 1)) + 1)) + 1)) + 1)) + 1),(Ua Gh x5).f6⟩:lg):List (lg))).bind fun Ll=>((Yf.f k (wrap64 ((wrap64 ((wrap64 ((wrap64 ((wrap64 ((wrap64 (x1 + 1)) + 1)) + 1)) + 1)) + 1)) + 1))).bind fun t107=>(cg.l0 k (Ll.set (x5:Int).toNat (⟨(Ua Ll x5).f0,(Ua Ll x5).f1,(Ua Ll x5).f2,(Ua Ll x5).f3,(Ua Ll x5).f4,(Ua Ll x5).f5,t107⟩:lg)) (wrap64 ((wrap64 ((wrap64 ((wrap64 ((wrap64 ((wrap64 ((wrap64 (x1 + 1)) + 1)) + 1)) + 1)) + 1)) + 1)) + 1)) (wrap64 (x5 + 1)))))))))) else (none)) else (some (x1,x0))
def cg.f (k:Nat) (l0:List (lg)) (a1:Int):Option (Int × (List (lg))):=cg.l0 k l0 a1 0
def Aj.f (k:Nat):List Ke→Int→Option (Int × List Ke)
 | [],a=>some (a,[])
 | x :: l,a=>(cg.f k x.f0 a).bind fun t=>(Aj.f k l (wrap64 (wrap64 (wrap64 (wrap64 (t.1 + 1) + 1) + 1) + 1))).bind fun u=>some (u.1,⟨t.2,t.1,wrap64 (t.1 + 1),wrap64 (wrap64 (t.1 + 1) + 1),wrap64 (wrap64 (wrap64 (t.1 + 1) + 1) + 1)⟩ :: u.2)
def zp.f (k:Nat) (Oa:List Int) (Ja:Int) (Fa:Int) (Ia:Int) (Ca:List Ke) (a1:Int):Option (Int × List Int × List Ke):=(Jg.f k Oa a1).bind fun t=>(Aj.f k Ca t.1).bind fun u=>some (u.1,t.2,u.2)
theorem mJ (l:List Int) (m:Int) (hm:0 ≤ m) (hl:m + l.length ≤ 4611686018427387904):Ev (fun k=>Jg.f k l m) (m + l.length,iota m l.length):=by
 have key:=Am (r:=(m + (l.length:Int),iota m l.length)) (n:=l.length) (fun i=>Ev (fun k=>Jg.l0 k ((iota m l.length).take i ++ l.drop i) (m + i) (i:Int)) (m + (l.length:Int),iota m l.length)) ?_ ?_ 0 (by omega)
 ·refine Ev.congr (fun k=>?_) key;unfold Jg.f;simp
 ·refine Ev.step (fun k=>by rw [Jg.l0]) ?_;refine Ev.neg (by simp [En]) ?_;rw [List.drop_length,List.append_nil,List.take_of_length_le (by rw [En];omega)];exact Ev.now _
 ·intro i hi h;refine Ev.step (fun k=>by rw [Jg.l0]) ?_;refine Ev.pos (by simp [En];omega) (Ev.pos (by omega) ?_);have h1:m + (i:Int)=(iota m l.length).getD i 0:=(zQ hi).symm;rw [Zd hi (by omega),Ai (by omega) (by omega),Int.toNat_natCast];rw [show ((iota m l.length).take i ++ l.drop i).set i (m + (i:Int))=(iota m l.length).take (i + 1) ++ l.drop (i + 1) from by rw [h1];exact MI (by rw [En]) (by rw [En];exact hi)];rw [show m + (i:Int) + 1=m + ((i + 1:Nat):Int) from by omega];exact h
theorem gw (a:Int):(strOfNums [a]).size=1:=by
 simp [strOfNums]
 rfl
theorem zF (n:Int) (hn:n ≤ 4611686018427387904):∃ t,Ev (fun k=>Yf.f k n) t:=by
 have key:∀ (d:Nat) (x:Int) (s:ByteArray),0 ≤ x→x < (10 ^ d:Nat)→x ≤ 4611686018427387904→s.size + d ≤ 1000000→∃ t,Ev (fun k=>Yf.l0 k x s) t:=by
  intro d
  induction d with
  | zero =>
   intro x s h0 h1 _ hs;have h1':x < 1:=h1;refine ⟨_,Ev.step (fun k=>by rw [Yf.l0]) (Ev.neg (by omega) (Ev.pos (by omega) (Ev.now _)))⟩
  | succ d ih =>
   intro x s h0 h1 h2 hs
   by_cases hx:x > 0
   ·have e1:Int.tdiv x 10=x / 10:=Int.tdiv_eq_ediv_of_nonneg h0;have e2:wrap64 (x / 10)=x / 10:=Ai (by omega) (by omega)
    have h1':x / 10 < (10 ^ d:Nat):=by
     have:((10 ^ (d + 1):Nat):Int)=(10 ^ d:Nat) * 10:=by rw [Nat.pow_succ];simp
     rw [this] at h1;omega
    obtain ⟨t,ht⟩:=ih (x / 10) (strOfNums [(wrap64 (48 + (Int.tmod x 10))) % 256] ++ s) (by omega) h1' (by omega) (by rw [ByteArray.size_append,gw];omega);refine ⟨t,Ev.step (fun k=>by rw [Yf.l0]) (Ev.pos hx ?_)⟩;simp only [Option.bind_some];refine Ev.pos (by rw [gw];omega) ?_;rw [e1,e2];exact ht
   ·exact ⟨_,Ev.step (fun k=>by rw [Yf.l0]) (Ev.neg hx (Ev.pos (by omega) (Ev.now _)))⟩
 unfold Yf.f
 by_cases h:n ≤ 0
 ·exact ⟨_,Ev.pos h (Ev.now _)⟩
 ·obtain ⟨t,ht⟩:=key 19 n ⟨#[]⟩ (by omega) (by omega) hn (by decide);exact ⟨t,Ev.neg h ht⟩
def cj (T:Nat→ByteArray) (m:Int) (n:Nat):List lg:=(List.range n).map fun (j:Nat)=>(⟨m + 7 * (j:Int),m + 7 * (j:Int) + 1,m + 7 * (j:Int) + 2,m + 7 * (j:Int) + 3,m + 7 * (j:Int) + 4,m + 7 * (j:Int) + 5,T j⟩:lg)
theorem aj (T:Nat→ByteArray) (m:Int) (n:Nat):(cj T m n).length=n:=by simp [cj]
theorem cD {T:Nat→ByteArray} {m:Int} {n j:Nat} (h:j < n):(cj T m n).getD j DE=(⟨m + 7 * (j:Int),m + 7 * (j:Int) + 1,m + 7 * (j:Int) + 2,m + 7 * (j:Int) + 3,m + 7 * (j:Int) + 4,m + 7 * (j:Int) + 5,T j⟩:lg):=by simp [cj,List.getD_eq_getElem?_getD,h]
theorem sF {x:List lg} {i:Nat} (h:i < x.length) (a:lg):Ua (x.set i a) (i:Int)=a:=by
 simp [Ua,List.getD_eq_getElem?_getD,h]
theorem m7 {a:Int} (h0:0 ≤ a) (h1:a + 7 ≤ 4611686018427387904):wrap64 (a + 1)=a + 1∧wrap64 (a + 1 + 1)=a + 2∧wrap64 (a + 2 + 1)=a + 3∧wrap64 (a + 3 + 1)=a + 4∧wrap64 (a + 4 + 1)=a + 5∧wrap64 (a + 5 + 1)=a + 6∧wrap64 (a + 6 + 1)=a + 7:=by
 refine ⟨?_,?_,?_,?_,?_,?_,?_⟩
 all_goals
  rw [Ai (by omega) (by omega)]
  try omega
def gR (l:List Ke):Nat:=(l.map fun x=>7 * x.f0.length + 4).sum
theorem WC (x:Ke) (l:List Ke):gR (x :: l)=7 * x.f0.length + 4 + gR l:=by simp [gR]
theorem n7 {a:Int} (h0:0 ≤ a) (h1:a + 4 ≤ 4611686018427387904):wrap64 (a + 1)=a + 1∧wrap64 (a + 1 + 1)=a + 2∧wrap64 (a + 2 + 1)=a + 3∧wrap64 (a + 3 + 1)=a + 4:=by
 refine ⟨?_,?_,?_,?_⟩
 all_goals
  rw [Ai (by omega) (by omega)]
  try omega
theorem oE (l:List lg) (m:Int) (hm:0 ≤ m) (hl:m + 7 * l.length ≤ 4611686018427387904):∃ ms:List lg,Ev (fun k=>cg.f k l m) (m + 7 * l.length,ms):=by
 have hT:∀ j:Nat,∃ t,j < l.length→Ev (fun k=>Yf.f k (m + 7 * (j:Int) + 6)) t:=by
  intro j
  by_cases hj:j < l.length
  ·obtain ⟨t,ht⟩:=zF (m + 7 * (j:Int) + 6) (by omega);exact ⟨t,fun _=>ht⟩
  ·exact ⟨⟨#[]⟩,fun h=>absurd h hj⟩
 obtain ⟨T,hT⟩:=Classical.axiomOfChoice hT;refine ⟨cj T m l.length,?_⟩
 ·have key:=Am (r:=(m + 7 * (l.length:Int),cj T m l.length)) (n:=l.length) (fun i=>Ev (fun k=>cg.l0 k ((cj T m l.length).take i ++ l.drop i) (m + 7 * i) (i:Int)) (m + 7 * (l.length:Int),cj T m l.length)) ?_ ?_ 0 (by omega)
  ·refine Ev.congr (fun k=>?_) key;unfold cg.f;simp
  ·refine Ev.step (fun k=>by rw [cg.l0]) ?_;refine Ev.neg (by simp [aj]) ?_;rw [List.drop_length,List.append_nil,List.take_of_length_le (by rw [aj];omega)];exact Ev.now _
  ·intro i hi h;have hlen:((cj T m l.length).take i ++ l.drop i).length=l.length:=by simp [aj];omega
   have C1:=MI (m:=cj T m l.length) (l:=l) (z:=DE) (i:=i) (by rw [aj]) (by rw [aj];exact hi);rw [cD hi] at C1;generalize hx:(cj T m l.length).take i ++ l.drop i=x at hlen C1 ⊢;refine Ev.step (fun k=>by rw [cg.l0]) ?_;refine Ev.pos (by omega) (Ev.pos (by omega) ?_);simp only [Int.toNat_natCast,Option.bind_some];have hi1:i < x.length:=by omega
   simp only [sF hi1,List.set_set];obtain ⟨w1,w2,w3,w4,w5,w6,w7⟩:=m7 (a:=m + 7 * (i:Int)) (by omega) (by omega);simp only [w1,w2,w3,w4,w5,w6,w7];refine Ev.bind (hT i hi) ?_;rw [Zd hi (by omega),show m + 7 * (i:Int) + 7=m + 7 * ((i + 1:Nat):Int) from by omega,C1];exact h
theorem qE (l:List Ke):∀ (m:Int),0 ≤ m→m + gR l ≤ 4611686018427387904→∃ ms:List Ke,Ev (fun k=>Aj.f k l m) (m + gR l,ms):=by
 induction l with
 | nil =>
  intro m hm hl;refine ⟨[],?_⟩;unfold Aj.f;simp only [gR,List.map_nil,List.sum_nil,Int.natCast_zero,Int.add_zero];exact Ev.now _
 | cons x l ih =>
  intro m hm hl;rw [WC] at hl;obtain ⟨c,c1⟩:=oE x.f0 m hm (by omega);obtain ⟨ms,m1⟩:=ih (m + 7 * x.f0.length + 4) (by omega) (by omega);obtain ⟨w1,w2,w3,w4⟩:=n7 (a:=m + 7 * (x.f0.length:Int)) (by omega) (by omega);have hv:m + ((7 * x.f0.length + 4 + gR l:Nat):Int)=m + 7 * (x.f0.length:Int) + 4 + gR l:=by omega
  rw [WC,hv];refine ⟨⟨c,m + 7 * x.f0.length,m + 7 * x.f0.length + 1,m + 7 * x.f0.length + 2,m + 7 * x.f0.length + 3⟩ :: ms,?_⟩;unfold Aj.f;refine Ev.bind c1 ?_;simp only [w1,w2,w3,w4];exact Ev.bind m1 (Ev.now _)
theorem pE (l0:List Int) (p v s:Int) (l4:List Ke) (m:Int) (hm:0 ≤ m) (hl:m + l0.length + gR l4 ≤ 4611686018427387904):∃ ms:List Ke,Ev (fun k=>zp.f k l0 p v s l4 m) (m + l0.length + gR l4,iota m l0.length,ms):=by
 obtain ⟨ms,m1⟩:=qE l4 (m + l0.length) (by omega) (by omega);refine ⟨ms,?_⟩;unfold zp.f;exact Ev.bind (mJ l0 m hm (by omega)) (Ev.bind m1 (Ev.now _))
theorem M0 (l:List Ke):gR l ≤ 7 * Vd l + 4 * l.length:=by
 induction l with
 | nil=>simp [gR]
 | cons x l ih =>
  have:Vd (x :: l)=x.f0.length + Vd l:=by simp [Vd]
  rw [WC,this,List.length_cons];omega
theorem mK (l:List Tw):Vd (l.map Tf) ≤ D0 l:=by
 unfold Vd D0;rw [List.map_map]
 have:∀ l:List Tw,(l.map ((fun (x:Ke)=>x.f0.length) ∘ Tf)).sum ≤ (l.map fun x=>VP x.f0).sum:=by
  intro l
  induction l with
  | nil=>simp
  | cons a l ih =>
   rw [List.map_cons,List.map_cons,List.sum_cons,List.sum_cons]
   have:((fun (x:Ke)=>x.f0.length) ∘ Tf) a ≤ VP a.f0:=by
    simp [Tf,VP]
   omega
 have:=this l;omega
theorem gL (x:P6) (hf:SS x):∃ t:Int,Ev (fun k=>Jh.f k x.f0 x.f1 x.f2 x.f3 x.f4 1048576) t∧(¬ t < 0→x.f0.length ≤ 1048576∧(x.f4.map Tf).length ≤ 1048576∧Vd (x.f4.map Tf) ≤ 1048576 ∧
  Ev (fun k=>od.f k x.f0 x.f1 x.f2 x.f3 x.f4) (x.f0,x.f1,x.f2,x.f3,x.f4.map Tf)∧Ev (fun k=>Te.f k x.f0 x.f1 x.f2 x.f3 (x.f4.map Tf) x.f0 x.f1 x.f2 x.f3 (x.f4.map Tf)) true ∧
  ∃ M:Int × List Int × List Ke,Ev (fun k=>zp.f k x.f0 x.f1 x.f2 x.f3 (x.f4.map Tf) 1) M∧0 ≤ M.1∧M.1 ≤ 4398046511104):=by
 obtain ⟨h0,_,_,_,h4⟩:=hf;obtain ⟨t,e1,e2,e3⟩:=mL x.f0 x.f1 x.f2 x.f3 x.f4 1048576 (by omega) (by omega) h0.1 h4.1 (fun y hy=>⟨(h4.2 y hy).1.1,fun z hz=>((h4.2 y hy).1.2 z hz).2.2.2.2.2.2⟩);refine ⟨t,e1,fun ht=>?_⟩;have e:=e3 (by omega);obtain ⟨hb4,hbc⟩:=LI (l:=x.f4) (n:=1048576) (by omega);have hl:(x.f4.map Tf).length ≤ 1048576:=by rw [List.length_map];exact hb4
 have hst:=mK x.f4;have hm:=M0 (x.f4.map Tf);obtain ⟨ms,m1⟩:=pE x.f0 x.f1 x.f2 x.f3 (x.f4.map Tf) 1 (by omega) (by omega)
 exact ⟨by omega,hl,by omega,kL x.f0 x.f1 x.f2 x.f3 x.f4 (by omega) hb4 hbc,pL x.f0 x.f1 x.f2 x.f3 (x.f4.map Tf) (by omega) (by omega) (fun y hy=>by
  have:=mP _ _ hy
  omega),_,m1,by simp only;omega,by simp only;omega⟩
theorem Nu (x:P6) (y:List Int) (hf:SS x) (hy:y.length ≤ 9223372036854775807∧∀ a ∈ y,Qt a):∃ k,qg.f k x.f0 x.f1 x.f2 x.f3 x.f4 y=some true:=by
 obtain ⟨t,e1,e2⟩:=gL x hf;refine Ev.rounds (g:=fun k=>qg.f k x.f0 x.f1 x.f2 x.f3 x.f4 y) ?_;unfold qg.f
 by_cases hl2:(y.length:Int) > 1048576
 ·exact Ev.pos hl2 (Ev.now _)
 refine Ev.neg hl2 (Ev.bind e1 ?_)
 by_cases ht:t < 0
 ·exact Ev.pos ht (Ev.now _)
 refine Ev.neg ht ?_;obtain ⟨h0,hl,hst,hT,hq,_⟩:=e2 ht;have hI:=ZE y (by omega);have hE:=bF y (by omega);obtain ⟨r,r1,r2,_⟩:=tJ x.f0 x.f1 x.f2 x.f3 (x.f4.map Tf) y h0 hl hst
 have r3:Ev (fun k=>zf.f k x.f0 x.f1 x.f2 x.f3 (x.f4.map Tf) y) r:=by
  unfold zf.f;exact Ev.bind r2 (Ev.now _)
 exact Ev.bind hT (Ev.bind hI (Ev.bind r1 (Ev.bind hT (Ev.bind hI (Ev.bind r3 (Ev.neg (by simp) (Ev.bind hT (Ev.bind hq (Ev.pos rfl (Ev.bind hI (Ev.bind hE (Ev.pos rfl (Ev.now _)))))))))))))
end Go.Proofs.Ytkigbdceceeenaa.P
end
