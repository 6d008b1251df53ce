import Derived.Test.YtkigbdceceeenaaQColorsOk1
import Derived.Test.YtkigbdceceeenaaQColorsOk10
import Derived.Test.YtkigbdceceeenaaQColorsOk7
import Derived.Test.YtkigbdceceeenaaQColorsOk9
import Derived.Test.YtkigbdceceeenaaQColorsOk8
import Derived.Test.YtkigbdceceeenaaQColorsOk2
import Derived.Test.YtkigbdceceeenaaQColorsOk5
import Derived.Shelf.Abstract
import Derived.Outline
import Derived.RegionTactic
import Derived.StillTailTactics
set_option maxHeartbeats 16000000
set_option maxRecDepth 100000
section
namespace Go.Proofs.Ytkigbdceceeenaa.P
open Go.RowKit Go.Proofs.Pa.Xb Go.Proofs.Pa.Pd Go.Proofs.Pa.Oe
set_option linter.unusedVariables false
set_option linter.unusedSimpArgs false
attribute [local go_sem] Bi Xi Jj Ik Uh Th Yi Wi
mutual
noncomputable def Fb.j0:Nat→List Int→Bool→List Int→Int→Int→Int→List (Ke)→Option (Bool)
 | 0,_,_,_,_,_,_,_=>none
 | k + 1,x1,x18,Cc,Uc,Ic,Gc,ec=>if x18=true then (some false) else ((Ii.f Cc Uc Ic Gc ec).bind fun t103=>(Fb.l0 k x1 t103 (t103.length:Int) 0))
noncomputable def Fb.l0:Nat→List Int→List (List Bool)→Int→Int→Option (Bool)
 | 0,_,_,_,_=>none
 | k + 1,x1,EU,UZ,lM=>if lM < UZ then (if 0 ≤ lM then (if lM < (EU.length:Int) then (if lM < (x1.length:Int) then ((Wf.f (rd x1 lM) (-1) 11).bind fun t108=>(if t108=true then (Fb.l1 k x1 lM EU UZ lM (Fc EU lM) ((Fc EU lM).length:Int) 0) else (some false))) else (none)) else (none)) else (none)) else (some true)
noncomputable def Fb.l1:Nat→List Int→Int→List (List Bool)→Int→Int→List Bool→Int→Int→Option (Bool)
 | 0,_,_,_,_,_,_,_,_=>none
 | k + 1,x1,x5,EU,UZ,lM,XJ,x34,DU=>if DU < x34 then (if 0 ≤ DU then (if DU < (XJ.length:Int) then (if Pf false XJ DU=true then (if 0 ≤ x5 then (if x5 < (x1.length:Int) then (if (rd x1 x5) ≥ 0 then (if DU < (x1.length:Int) then (if (rd x1 x5)=(rd x1 DU) then (some false) else (Fb.l1 k x1 x5 EU UZ lM XJ x34 (wrap64 (DU + 1)))) else (none)) else (Fb.l1 k x1 x5 EU UZ lM XJ x34 (wrap64 (DU + 1)))) else (none)) else (none)) else (Fb.l1 k x1 x5 EU UZ lM XJ x34 (wrap64 (DU + 1)))) else (none)) else (none)) else (Fb.l0 k x1 EU UZ (wrap64 (lM + 1)))
end
noncomputable def Fb.f (k:Nat) (Oa:List Int) (Ja:Int) (Fa:Int) (Ia:Int) (Ca:List (Ke)) (l1:List Int):Option (Bool):=(Yb.f k Oa Ja Fa Ia Ca).bind fun t102=>(if t102=true then (Fb.j0 k l1 ((l1.length:Int) != Ia) Oa Ja Fa Ia Ca) else (Fb.j0 k l1 true Oa Ja Fa Ia Ca))
theorem Fb.calls (k:Nat) (Wa:Option Addr) (Ya:Nat) (Oa:List Int) (Ja:Int) (Fa:Int) (Ia:Int) (Ob:Option Addr) (Cb:Nat) (Ca:List (Ke)) (A1:Option Addr) (c1:Nat) (l1:List Int) (r:Bool) (w:World) (Ld:Kd.C (Kd.int .i64) w Wa Oa.length Oa) (Gd:Oa.length ≤ Ya) (Ue:Kd.C Gs w Ob Ca.length Ca) (Qe:Ca.length ≤ Cb) (eo:Kd.C (Kd.int .i64) w A1 l1.length l1) (Dl:l1.length ≤ c1) (h:Fb.f k Oa Ja Fa Ia Ca l1=some r) :
  Calls Try.prog 58 #[.agg #[.slice Wa Oa.length Ya,.int .i64 Ja,.int .i64 Fa,.int .i64 Ia,.slice Ob Ca.length Cb],.slice A1 l1.length c1] w fun e w'=>e = .returned (.bool r)∧Below w.heap.size w w':=by
 have gB:=Try.underlying30;have Md:=ja.mk Ld;have Rd:=ja.mk Gd;clear Ld Gd;have Ce:=ja.mk Ue;have Ff:=ja.mk Qe;clear Ue Qe;have Vo:=ja.mk eo;have FI:=ja.mk Dl;clear eo Dl;have HB:=ja.mk (Below.refl w.heap.size w);have H:((Yb.f k Oa Ja Fa Ia Ca).bind fun t102=>(if t102=true then (Fb.j0 k l1 ((l1.length:Int) != Ia) Oa Ja Fa Ia Ca) else (Fb.j0 k l1 true Oa Ja Fa Ia Ca)))=some r:=h;clear h;have AU:=ja.mk H;clear H;go_enter Try.func58,Try.ntmps58
 go_upto_region 1 with (first|((with_reducible refine qb (N:=2) rfl ?_);(try (refine kg (by rfl) ?_;dsimp only));refine Gb ?hg (N:=2) ?hd (cs:=#[.slice Wa Oa.length Ya,.int .i64 Ja,.int .i64 Fa,.int .i64 Ia,.slice Ob Ca.length Cb]) (t:=30) ?hr ?_;(case hd=>rfl);(case hg=>rfl);(case hr=>first|(go_simp;done)|(go_simp;rfl));intro ya hg w4 Rb hb;have Eb:=ja.mk (Na (by repeat (first|(with_reducible first|exact HB.out|apply qa|apply ia|apply ta)|exact HB.out)) hb);have Jb:=ja.mk (Rb);have Ub:=ja.mk ((by rw [hg];exact (Ga (by repeat (first|(with_reducible first|exact HB.out|apply qa|apply ia|apply ta)|exact HB.out))):w.heap.size ≤ ya));have uc:=ja.mk ((by rw [hg];exact (Ga (by repeat (first|(with_reducible first|exact HB.out|apply qa|apply ia|apply ta)|exact HB.out))):w.heap.size ≤ ya));clear HB;have HB:=Eb;have oa:=Jb;have xd:=Ub;have Ra:=uc;clear Eb Jb Ub uc hb Rb hg))
 repeat (go_quiet (first|((with_reducible refine qb (N:=2) rfl ?_);(try (refine kg (by rfl) ?_;dsimp only));refine Gb ?hg (N:=2) ?hd (cs:=#[.slice Wa Oa.length Ya,.int .i64 Ja,.int .i64 Fa,.int .i64 Ia,.slice Ob Ca.length Cb]) (t:=30) ?hr ?_;(case hd=>rfl);(case hg=>rfl);(case hr=>first|(go_simp;done)|(go_simp;rfl));intro ya hg w4 Rb hb;have Eb:=ja.mk (Na (by repeat (first|(with_reducible first|exact HB.out|apply qa|apply ia|apply ta)|exact HB.out)) hb);have Jb:=ja.mk (Rb);have Ub:=ja.mk ((by rw [hg];exact (Ga (by repeat (first|(with_reducible first|exact HB.out|apply qa|apply ia|apply ta)|exact HB.out))):w.heap.size ≤ ya));have uc:=ja.mk ((by rw [hg];exact (Ga (by repeat (first|(with_reducible first|exact HB.out|apply qa|apply ia|apply ta)|exact HB.out))):w.heap.size ≤ ya));clear HB;have HB:=Eb;have oa:=Jb;have xd:=Ub;have Ra:=uc;clear Eb Jb Ub uc hb Rb hg));go_upto_region 1 with (first|((with_reducible refine qb (N:=2) rfl ?_);(try (refine kg (by rfl) ?_;dsimp only));refine Gb ?hg (N:=2) ?hd (cs:=#[.slice Wa Oa.length Ya,.int .i64 Ja,.int .i64 Fa,.int .i64 Ia,.slice Ob Ca.length Cb]) (t:=30) ?hr ?_;(case hd=>rfl);(case hg=>rfl);(case hr=>first|(go_simp;done)|(go_simp;rfl));intro ya hg w4 Rb hb;have Eb:=ja.mk (Na (by repeat (first|(with_reducible first|exact HB.out|apply qa|apply ia|apply ta)|exact HB.out)) hb);have Jb:=ja.mk (Rb);have Ub:=ja.mk ((by rw [hg];exact (Ga (by repeat (first|(with_reducible first|exact HB.out|apply qa|apply ia|apply ta)|exact HB.out))):w.heap.size ≤ ya));have uc:=ja.mk ((by rw [hg];exact (Ga (by repeat (first|(with_reducible first|exact HB.out|apply qa|apply ia|apply ta)|exact HB.out))):w.heap.size ≤ ya));clear HB;have HB:=Eb;have oa:=Jb;have xd:=Ub;have Ra:=uc;clear Eb Jb Ub uc hb Rb hg)))
 (try simp only [Act.put,List.setIfInBounds_toArray,List.set_cons_zero,List.set_cons_succ])
 go_cut [18] (fun v18 wc=>∃ (kq:Nat) (mM:Bool),v18 = .bool mM∧ja (Fb.j0 kq l1 mM Oa Ja Fa Ia Ca=some r)∧ja (kq ≤ k)∧ja (wc.heap[ya]? = some (.cells #[(.slice Wa Oa.length Ya),.int .i64 Ja,.int .i64 Fa,.int .i64 Ia,(.slice Ob Ca.length Cb)] 30 (0,0)))∧ja (Below w.heap.size w wc))
 case first =>
  have H:=AU.out;clear AU;replace H:=Option.bind_eq_some_iff.mp H;obtain ⟨t102,NP,H⟩:=H;replace H:(if t102=true then (Fb.j0 k l1 ((l1.length:Int) != Ia) Oa Ja Fa Ia Ca) else (Fb.j0 k l1 true Oa Ja Fa Ia Ca))=some r:=H;have A5:=ja.mk NP;clear NP
  by_cases c6:t102=true
  ·subst c6;have H1:(Fb.j0 k l1 ((l1.length:Int) != Ia) Oa Ja Fa Ia Ca)=some r:=by rw [if_pos rfl] at H;exact H
   clear H;have H:=H1;clear H1;have H':=ja.mk H;clear H;have Ak:w4.cell? ⟨ya,0,none⟩=some (.slice Wa Oa.length Ya):=(ga oa.out 0).trans rfl;have zk:w4.cell? ⟨ya,1,none⟩=some (.int .i64 Ja):=(ga oa.out 1).trans rfl;have xk:w4.cell? ⟨ya,2,none⟩=some (.int .i64 Fa):=(ga oa.out 2).trans rfl;have vk:w4.cell? ⟨ya,3,none⟩=some (.int .i64 Ia):=(ga oa.out 3).trans rfl;have uk:w4.cell? ⟨ya,4,none⟩=some (.slice Ob Ca.length Cb):=(ga oa.out 4).trans rfl;have qk:=aa oa.out 0;have nk:=aa oa.out 1;have jk:=aa oa.out 2;have fk:=aa oa.out 3;have ek:=aa oa.out 4;go_wp2_with (first|(go_at_call 46;(with_reducible refine (Yb.calls k _ _ Oa Ja Fa Ia _ _ Ca true _ ?dc ?Zb ?Rc ?Qc A5.out).mono ?_);(case dc=>repeat (first|exact (Kd.Db Md.out HB.out)|(with_reducible refine Kd.Bb ?_ _)|(with_reducible refine Kd.Ab ?_ _)|(with_reducible refine Kd.Qb ?_)));(case Zb=>exact Rd.out);(case Rc=>repeat (first|exact (Kd.Db Ce.out HB.out)|(with_reducible refine Kd.Bb ?_ _)|(with_reducible refine Kd.Ab ?_ _)|(with_reducible refine Kd.Qb ?_)));(case Qc=>exact Ff.out);rintro e w8 ⟨rfl,hb⟩;have Eb:=ja.mk (Ta (g:=ya) (o:=.cells #[.slice Wa Oa.length Ya,.int .i64 Ja,.int .i64 Fa,.int .i64 Ia,.slice Ob Ca.length Cb] 30 (0,0)) (by (with_reducible repeat (first|refine Aa ?_ _|refine Da ?_|refine Ba ?_ _));exact oa.out) hb);have Jb:=ja.mk (Na (by repeat (first|(with_reducible first|exact HB.out|apply qa|apply ia|apply ta|refine ua ?_ Ra.out)|exact HB.out)) hb);clear oa HB;have oa:=Eb;have HB:=Jb;clear Eb Jb;(try clear hb);(try clear ni);(try clear hk);(try clear hi);have Vg:w8.cell? ⟨ya,0,none⟩=some (.slice Wa Oa.length Ya):=(ga oa.out 0).trans rfl;have Ug:w8.cell? ⟨ya,1,none⟩=some (.int .i64 Ja):=(ga oa.out 1).trans rfl;have Tg:w8.cell? ⟨ya,2,none⟩=some (.int .i64 Fa):=(ga oa.out 2).trans rfl;have Sg:w8.cell? ⟨ya,3,none⟩=some (.int .i64 Ia):=(ga oa.out 3).trans rfl;have Rg:w8.cell? ⟨ya,4,none⟩=some (.slice Ob Ca.length Cb):=(ga oa.out 4).trans rfl;have Qg:=aa oa.out 0;have Pg:=aa oa.out 1;have Og:=aa oa.out 2;have Ng:=aa oa.out 3;have Mg:=aa oa.out 4))
   repeat (go_quiet (first|(go_at_call 46;(with_reducible refine (Yb.calls k _ _ Oa Ja Fa Ia _ _ Ca true _ ?dc ?Zb ?Rc ?Qc A5.out).mono ?_);(case dc=>repeat (first|exact (Kd.Db Md.out HB.out)|(with_reducible refine Kd.Bb ?_ _)|(with_reducible refine Kd.Ab ?_ _)|(with_reducible refine Kd.Qb ?_)));(case Zb=>exact Rd.out);(case Rc=>repeat (first|exact (Kd.Db Ce.out HB.out)|(with_reducible refine Kd.Bb ?_ _)|(with_reducible refine Kd.Ab ?_ _)|(with_reducible refine Kd.Qb ?_)));(case Qc=>exact Ff.out);rintro e w8 ⟨rfl,hb⟩;have Eb:=ja.mk (Ta (g:=ya) (o:=.cells #[.slice Wa Oa.length Ya,.int .i64 Ja,.int .i64 Fa,.int .i64 Ia,.slice Ob Ca.length Cb] 30 (0,0)) (by (with_reducible repeat (first|refine Aa ?_ _|refine Da ?_|refine Ba ?_ _));exact oa.out) hb);have Jb:=ja.mk (Na (by repeat (first|(with_reducible first|exact HB.out|apply qa|apply ia|apply ta|refine ua ?_ Ra.out)|exact HB.out)) hb);clear oa HB;have oa:=Eb;have HB:=Jb;clear Eb Jb;(try clear hb);(try clear ni);(try clear hk);(try clear hi);have Vg:w8.cell? ⟨ya,0,none⟩=some (.slice Wa Oa.length Ya):=(ga oa.out 0).trans rfl;have Ug:w8.cell? ⟨ya,1,none⟩=some (.int .i64 Ja):=(ga oa.out 1).trans rfl;have Tg:w8.cell? ⟨ya,2,none⟩=some (.int .i64 Fa):=(ga oa.out 2).trans rfl;have Sg:w8.cell? ⟨ya,3,none⟩=some (.int .i64 Ia):=(ga oa.out 3).trans rfl;have Rg:w8.cell? ⟨ya,4,none⟩=some (.slice Ob Ca.length Cb):=(ga oa.out 4).trans rfl;have Qg:=aa oa.out 0;have Pg:=aa oa.out 1;have Og:=aa oa.out 2;have Ng:=aa oa.out 3;have Mg:=aa oa.out 4));try go_wp2_with (first|(go_at_call 46;(with_reducible refine (Yb.calls k _ _ Oa Ja Fa Ia _ _ Ca true _ ?dc ?Zb ?Rc ?Qc A5.out).mono ?_);(case dc=>repeat (first|exact (Kd.Db Md.out HB.out)|(with_reducible refine Kd.Bb ?_ _)|(with_reducible refine Kd.Ab ?_ _)|(with_reducible refine Kd.Qb ?_)));(case Zb=>exact Rd.out);(case Rc=>repeat (first|exact (Kd.Db Ce.out HB.out)|(with_reducible refine Kd.Bb ?_ _)|(with_reducible refine Kd.Ab ?_ _)|(with_reducible refine Kd.Qb ?_)));(case Qc=>exact Ff.out);rintro e w8 ⟨rfl,hb⟩;have Eb:=ja.mk (Ta (g:=ya) (o:=.cells #[.slice Wa Oa.length Ya,.int .i64 Ja,.int .i64 Fa,.int .i64 Ia,.slice Ob Ca.length Cb] 30 (0,0)) (by (with_reducible repeat (first|refine Aa ?_ _|refine Da ?_|refine Ba ?_ _));exact oa.out) hb);have Jb:=ja.mk (Na (by repeat (first|(with_reducible first|exact HB.out|apply qa|apply ia|apply ta|refine ua ?_ Ra.out)|exact HB.out)) hb);clear oa HB;have oa:=Eb;have HB:=Jb;clear Eb Jb;(try clear hb);(try clear ni);(try clear hk);(try clear hi);have Vg:w8.cell? ⟨ya,0,none⟩=some (.slice Wa Oa.length Ya):=(ga oa.out 0).trans rfl;have Ug:w8.cell? ⟨ya,1,none⟩=some (.int .i64 Ja):=(ga oa.out 1).trans rfl;have Tg:w8.cell? ⟨ya,2,none⟩=some (.int .i64 Fa):=(ga oa.out 2).trans rfl;have Sg:w8.cell? ⟨ya,3,none⟩=some (.int .i64 Ia):=(ga oa.out 3).trans rfl;have Rg:w8.cell? ⟨ya,4,none⟩=some (.slice Ob Ca.length Cb):=(ga oa.out 4).trans rfl;have Qg:=aa oa.out 0;have Pg:=aa oa.out 1;have Og:=aa oa.out 2;have Ng:=aa oa.out 3;have Mg:=aa oa.out 4)))
   go_meet
   case rel=>exact ⟨_,(((l1.length:Int) != Ia)),(by first|rfl|(simp;done)|(simp [*];done)),H',⟨by first|omega|exact Nat.le_refl _⟩,⟨by (with_reducible repeat (first|refine Aa ?_ _|refine Da ?_|refine Ba ?_ _));exact oa.out⟩,⟨by repeat (first|(with_reducible first|exact HB.out|apply qa|apply ia|apply ta|refine ua ?_ Ra.out)|exact HB.out)⟩⟩
  ·replace c6:=Bool.eq_false_iff.mpr c6;subst c6;have H1:(Fb.j0 k l1 true Oa Ja Fa Ia Ca)=some r:=by rw [if_neg (show ¬ (false=true) by decide)] at H;exact H
   clear H;have H:=H1;clear H1;have H':=ja.mk H;clear H;have Ah:w4.cell? ⟨ya,0,none⟩=some (.slice Wa Oa.length Ya):=(ga oa.out 0).trans rfl;have zh:w4.cell? ⟨ya,1,none⟩=some (.int .i64 Ja):=(ga oa.out 1).trans rfl;have yh:w4.cell? ⟨ya,2,none⟩=some (.int .i64 Fa):=(ga oa.out 2).trans rfl;have xh:w4.cell? ⟨ya,3,none⟩=some (.int .i64 Ia):=(ga oa.out 3).trans rfl;have wh:w4.cell? ⟨ya,4,none⟩=some (.slice Ob Ca.length Cb):=(ga oa.out 4).trans rfl;have mh:=aa oa.out 0;have jh:=aa oa.out 1;have gh:=aa oa.out 2;have fh:=aa oa.out 3;have dh:=aa oa.out 4;go_wp2_with (first|(go_at_call 46;(with_reducible refine (Yb.calls k _ _ Oa Ja Fa Ia _ _ Ca false _ ?dc ?Zb ?Rc ?Qc A5.out).mono ?_);(case dc=>repeat (first|exact (Kd.Db Md.out HB.out)|(with_reducible refine Kd.Bb ?_ _)|(with_reducible refine Kd.Ab ?_ _)|(with_reducible refine Kd.Qb ?_)));(case Zb=>exact Rd.out);(case Rc=>repeat (first|exact (Kd.Db Ce.out HB.out)|(with_reducible refine Kd.Bb ?_ _)|(with_reducible refine Kd.Ab ?_ _)|(with_reducible refine Kd.Qb ?_)));(case Qc=>exact Ff.out);rintro e kj ⟨rfl,hb⟩;have Eb:=ja.mk (Ta (g:=ya) (o:=.cells #[.slice Wa Oa.length Ya,.int .i64 Ja,.int .i64 Fa,.int .i64 Ia,.slice Ob Ca.length Cb] 30 (0,0)) (by (with_reducible repeat (first|refine Aa ?_ _|refine Da ?_|refine Ba ?_ _));exact oa.out) hb);have Jb:=ja.mk (Na (by repeat (first|(with_reducible first|exact HB.out|apply qa|apply ia|apply ta|refine ua ?_ Ra.out)|exact HB.out)) hb);clear oa HB;have oa:=Eb;have HB:=Jb;clear Eb Jb;(try clear hb);(try clear ni);(try clear hk);(try clear hi)))
   repeat (go_quiet (first|(go_at_call 46;(with_reducible refine (Yb.calls k _ _ Oa Ja Fa Ia _ _ Ca false _ ?dc ?Zb ?Rc ?Qc A5.out).mono ?_);(case dc=>repeat (first|exact (Kd.Db Md.out HB.out)|(with_reducible refine Kd.Bb ?_ _)|(with_reducible refine Kd.Ab ?_ _)|(with_reducible refine Kd.Qb ?_)));(case Zb=>exact Rd.out);(case Rc=>repeat (first|exact (Kd.Db Ce.out HB.out)|(with_reducible refine Kd.Bb ?_ _)|(with_reducible refine Kd.Ab ?_ _)|(with_reducible refine Kd.Qb ?_)));(case Qc=>exact Ff.out);rintro e kj ⟨rfl,hb⟩;have Eb:=ja.mk (Ta (g:=ya) (o:=.cells #[.slice Wa Oa.length Ya,.int .i64 Ja,.int .i64 Fa,.int .i64 Ia,.slice Ob Ca.length Cb] 30 (0,0)) (by (with_reducible repeat (first|refine Aa ?_ _|refine Da ?_|refine Ba ?_ _));exact oa.out) hb);have Jb:=ja.mk (Na (by repeat (first|(with_reducible first|exact HB.out|apply qa|apply ia|apply ta|refine ua ?_ Ra.out)|exact HB.out)) hb);clear oa HB;have oa:=Eb;have HB:=Jb;clear Eb Jb;(try clear hb);(try clear ni);(try clear hk);(try clear hi)));try go_wp2_with (first|(go_at_call 46;(with_reducible refine (Yb.calls k _ _ Oa Ja Fa Ia _ _ Ca false _ ?dc ?Zb ?Rc ?Qc A5.out).mono ?_);(case dc=>repeat (first|exact (Kd.Db Md.out HB.out)|(with_reducible refine Kd.Bb ?_ _)|(with_reducible refine Kd.Ab ?_ _)|(with_reducible refine Kd.Qb ?_)));(case Zb=>exact Rd.out);(case Rc=>repeat (first|exact (Kd.Db Ce.out HB.out)|(with_reducible refine Kd.Bb ?_ _)|(with_reducible refine Kd.Ab ?_ _)|(with_reducible refine Kd.Qb ?_)));(case Qc=>exact Ff.out);rintro e kj ⟨rfl,hb⟩;have Eb:=ja.mk (Ta (g:=ya) (o:=.cells #[.slice Wa Oa.length Ya,.int .i64 Ja,.int .i64 Fa,.int .i64 Ia,.slice Ob Ca.length Cb] 30 (0,0)) (by (with_reducible repeat (first|refine Aa ?_ _|refine Da ?_|refine Ba ?_ _));exact oa.out) hb);have Jb:=ja.mk (Na (by repeat (first|(with_reducible first|exact HB.out|apply qa|apply ia|apply ta|refine ua ?_ Ra.out)|exact HB.out)) hb);clear oa HB;have oa:=Eb;have HB:=Jb;clear Eb Jb;(try clear hb);(try clear ni);(try clear hk);(try clear hi))))
   go_meet
   case rel=>exact ⟨_,(true),(by first|rfl|(simp;done)|(simp [*];done)),H',⟨by first|omega|exact Nat.le_refl _⟩,⟨by (with_reducible repeat (first|refine Aa ?_ _|refine Da ?_|refine Ba ?_ _));exact oa.out⟩,⟨by repeat (first|(with_reducible first|exact HB.out|apply qa|apply ia|apply ta|refine ua ?_ Ra.out)|exact HB.out)⟩⟩
 case rest =>
  clear AU
  try clear c1
  try clear p2
  try clear c5
  try clear c6
  try clear Ah
  try clear zh
  try clear yh
  try clear xh
  try clear wh
  try clear Ak
  try clear zk
  try clear xk
  try clear vk
  try clear uk
  try clear Vg
  try clear Ug
  try clear Tg
  try clear Sg
  try clear Rg
  try clear mh
  try clear jh
  try clear gh
  try clear fh
  try clear dh
  try clear qk
  try clear nk
  try clear jk
  try clear fk
  try clear ek
  try clear Qg
  try clear Pg
  try clear Og
  try clear Ng
  try clear Mg
  obtain ⟨kq,mM,rfl,HA,MJ,oa,HB⟩:=hcut;cases kq with
  | zero=>exact absurd HA.out (by simp [Fb.j0])
  | succ iV =>
   have H:=HA.out;clear HA;simp only [Fb.j0] at H
   by_cases Xr:mM=true
   ·subst Xr;have H1:(some false)=some r:=by rw [if_pos rfl] at H;exact H
    clear H;have H:=H1;clear H1;obtain rfl:=Option.some.inj H;go_wp2
    repeat (go_quiet (fail);try go_wp2)
    go_ret;exact ⟨by first|rfl|(simp [Ma,La] <;> rfl)|(simp [*,Ma,La] <;> rfl),by repeat (first|(with_reducible first|exact HB.out|apply qa|apply ia|apply ta|refine ua ?_ Ra.out)|exact HB.out)⟩
   ·replace Xr:=Bool.eq_false_iff.mpr Xr;subst Xr;have H1:((Ii.f Oa Ja Fa Ia Ca).bind fun t103=>(Fb.l0 iV l1 t103 (t103.length:Int) 0))=some r:=by rw [if_neg (show ¬ (false=true) by decide)] at H;exact H
    clear H;have H:=H1;clear H1;replace H:=Option.bind_eq_some_iff.mp H;obtain ⟨t103,TD,H⟩:=H;replace H:(Fb.l0 iV l1 t103 (t103.length:Int) 0)=some r:=H;have gM:=ja.mk TD;clear TD;have H':=ja.mk H;clear H;have uh:wc.cell? ⟨ya,0,none⟩=some (.slice Wa Oa.length Ya):=(ga oa.out 0).trans rfl;have th:wc.cell? ⟨ya,1,none⟩=some (.int .i64 Ja):=(ga oa.out 1).trans rfl;have qh:wc.cell? ⟨ya,2,none⟩=some (.int .i64 Fa):=(ga oa.out 2).trans rfl;have oh:wc.cell? ⟨ya,3,none⟩=some (.int .i64 Ia):=(ga oa.out 3).trans rfl;have nh:wc.cell? ⟨ya,4,none⟩=some (.slice Ob Ca.length Cb):=(ga oa.out 4).trans rfl;have bh:=aa oa.out 0;have ah:=aa oa.out 1;have Zg:=aa oa.out 2;have Yg:=aa oa.out 3;have Xg:=aa oa.out 4;go_wp2_with (first|(go_at_call 59;(with_reducible refine (Ii.calls _ _ Oa Ja Fa Ia _ _ Ca t103 _ ?dc ?Zb ?Rc ?Qc gM.out).mono ?_);(case dc=>repeat (first|exact (Kd.Db Md.out HB.out)|(with_reducible refine Kd.Bb ?_ _)|(with_reducible refine Kd.Ab ?_ _)|(with_reducible refine Kd.Qb ?_)));(case Zb=>exact Rd.out);(case Rc=>repeat (first|exact (Kd.Db Ce.out HB.out)|(with_reducible refine Kd.Bb ?_ _)|(with_reducible refine Kd.Ab ?_ _)|(with_reducible refine Kd.Qb ?_)));(case Qc=>exact Ff.out);rintro e ou ⟨JI,rfl,Qi,hb⟩;have Eb:=ja.mk (Kd.vl Qi (Ga (by repeat (first|(with_reducible first|exact HB.out|apply qa|apply ia|apply ta|refine ua ?_ Ra.out)|exact HB.out))));have Jb:=ja.mk (Ta (g:=ya) (o:=.cells #[.slice Wa Oa.length Ya,.int .i64 Ja,.int .i64 Fa,.int .i64 Ia,.slice Ob Ca.length Cb] 30 (0,0)) (by (with_reducible repeat (first|refine Aa ?_ _|refine Da ?_|refine Ba ?_ _));exact oa.out) hb);have Ub:=ja.mk (Na (by repeat (first|(with_reducible first|exact HB.out|apply qa|apply ia|apply ta|refine ua ?_ Ra.out)|exact HB.out)) hb);clear oa HB;have Af:=Eb;have oa:=Jb;have HB:=Ub;clear Eb Jb Ub;(try clear hb);(try clear ni);(try clear hk);(try clear hi);(try clear Qi);obtain ⟨qI,uE,yL⟩:=Kd.ei Af.out;subst yL))
    repeat (go_quiet (first|(go_at_call 59;(with_reducible refine (Ii.calls _ _ Oa Ja Fa Ia _ _ Ca t103 _ ?dc ?Zb ?Rc ?Qc gM.out).mono ?_);(case dc=>repeat (first|exact (Kd.Db Md.out HB.out)|(with_reducible refine Kd.Bb ?_ _)|(with_reducible refine Kd.Ab ?_ _)|(with_reducible refine Kd.Qb ?_)));(case Zb=>exact Rd.out);(case Rc=>repeat (first|exact (Kd.Db Ce.out HB.out)|(with_reducible refine Kd.Bb ?_ _)|(with_reducible refine Kd.Ab ?_ _)|(with_reducible refine Kd.Qb ?_)));(case Qc=>exact Ff.out);rintro e ou ⟨JI,rfl,Qi,hb⟩;have Eb:=ja.mk (Kd.vl Qi (Ga (by repeat (first|(with_reducible first|exact HB.out|apply qa|apply ia|apply ta|refine ua ?_ Ra.out)|exact HB.out))));have Jb:=ja.mk (Ta (g:=ya) (o:=.cells #[.slice Wa Oa.length Ya,.int .i64 Ja,.int .i64 Fa,.int .i64 Ia,.slice Ob Ca.length Cb] 30 (0,0)) (by (with_reducible repeat (first|refine Aa ?_ _|refine Da ?_|refine Ba ?_ _));exact oa.out) hb);have Ub:=ja.mk (Na (by repeat (first|(with_reducible first|exact HB.out|apply qa|apply ia|apply ta|refine ua ?_ Ra.out)|exact HB.out)) hb);clear oa HB;have Af:=Eb;have oa:=Jb;have HB:=Ub;clear Eb Jb Ub;(try clear hb);(try clear ni);(try clear hk);(try clear hi);(try clear Qi);obtain ⟨qI,uE,yL⟩:=Kd.ei Af.out;subst yL));try go_wp2_with (first|(go_at_call 59;(with_reducible refine (Ii.calls _ _ Oa Ja Fa Ia _ _ Ca t103 _ ?dc ?Zb ?Rc ?Qc gM.out).mono ?_);(case dc=>repeat (first|exact (Kd.Db Md.out HB.out)|(with_reducible refine Kd.Bb ?_ _)|(with_reducible refine Kd.Ab ?_ _)|(with_reducible refine Kd.Qb ?_)));(case Zb=>exact Rd.out);(case Rc=>repeat (first|exact (Kd.Db Ce.out HB.out)|(with_reducible refine Kd.Bb ?_ _)|(with_reducible refine Kd.Ab ?_ _)|(with_reducible refine Kd.Qb ?_)));(case Qc=>exact Ff.out);rintro e ou ⟨JI,rfl,Qi,hb⟩;have Eb:=ja.mk (Kd.vl Qi (Ga (by repeat (first|(with_reducible first|exact HB.out|apply qa|apply ia|apply ta|refine ua ?_ Ra.out)|exact HB.out))));have Jb:=ja.mk (Ta (g:=ya) (o:=.cells #[.slice Wa Oa.length Ya,.int .i64 Ja,.int .i64 Fa,.int .i64 Ia,.slice Ob Ca.length Cb] 30 (0,0)) (by (with_reducible repeat (first|refine Aa ?_ _|refine Da ?_|refine Ba ?_ _));exact oa.out) hb);have Ub:=ja.mk (Na (by repeat (first|(with_reducible first|exact HB.out|apply qa|apply ia|apply ta|refine ua ?_ Ra.out)|exact HB.out)) hb);clear oa HB;have Af:=Eb;have oa:=Jb;have HB:=Ub;clear Eb Jb Ub;(try clear hb);(try clear ni);(try clear hk);(try clear hi);(try clear Qi);obtain ⟨qI,uE,yL⟩:=Kd.ei Af.out;subst yL)))
    go_loopg [22] iV (fun kq v22 w'=>∃ (Lc:Int),v22 = .int .i64 Lc∧ja (Fb.l0 kq l1 t103 (t103.length:Int) Lc=some r)∧ja (kq ≤ iV)∧ja (Kd.S (Kd.slice 4 Kd.bool) 60 w' w.heap.size (fun _=>True) (.slice qI t103.length uE) t103)∧ja (w'.heap[ya]? = some (.cells #[(.slice Wa Oa.length Ya),.int .i64 Ja,.int .i64 Fa,.int .i64 Ia,(.slice Ob Ca.length Cb)] 30 (0,0)))∧ja (Below w.heap.size w w'))
    case atStart=>exact ⟨(0),(by first|rfl|(simp;done)|(simp [*];done)),H',⟨Nat.le_refl _⟩,⟨by (with_reducible repeat (first|apply Kd.ld|apply Kd.jd|apply Kd.Jd));exact Af.out⟩,⟨by (with_reducible repeat (first|refine Aa ?_ _|refine Da ?_|refine Ba ?_ _));exact oa.out⟩,⟨by repeat (first|(with_reducible first|exact HB.out|apply qa|apply ia|apply ta|refine ua ?_ Ra.out)|exact HB.out)⟩⟩
    case round =>
     clear H'
     try clear c1
     try clear p2
     try clear c5
     try clear c6
     try clear Xr
     try clear Ah
     try clear zh
     try clear yh
     try clear xh
     try clear wh
     try clear uh
     try clear th
     try clear qh
     try clear oh
     try clear nh
     try clear Ak
     try clear zk
     try clear xk
     try clear vk
     try clear uk
     try clear Vg
     try clear Ug
     try clear Tg
     try clear Sg
     try clear Rg
     try clear mh
     try clear jh
     try clear gh
     try clear fh
     try clear dh
     try clear bh
     try clear ah
     try clear Zg
     try clear Yg
     try clear Xg
     try clear qk
     try clear nk
     try clear jk
     try clear fk
     try clear ek
     try clear Qg
     try clear Pg
     try clear Og
     try clear Ng
     try clear Mg
     try clear p2
     (try clear HA);(try clear Xo);(try clear sr);(try clear oa);(try clear HB);obtain ⟨Lc,rfl,HA,Xo,sr,oa,HB⟩:=hrel;cases gk with
     | zero=>exact absurd HA.out (by simp [Fb.l0])
     | succ k2 =>
      have H:=HA.out;clear HA;simp only [Fb.l0] at H
      by_cases Qo:Lc < (t103.length:Int)
      ·rw [if_pos Qo] at H;have Bm:decide (Lc < (t103.length:Int))=true:=decide_eq_true Qo;clear Qo
       by_cases Zp:0 ≤ Lc
       ·rw [if_pos Zp] at H;have Nn:decide (0 ≤ Lc)=true:=decide_eq_true Zp;clear Zp
        by_cases Xk:Lc < (t103.length:Int)
        ·rw [if_pos Xk] at H;have fu:decide (Lc < (t103.length:Int))=true:=decide_eq_true Xk;clear Xk
         by_cases Mn:Lc < (l1.length:Int)
         ·rw [if_pos Mn] at H;have Wr:decide (Lc < (l1.length:Int))=true:=decide_eq_true Mn;clear Mn;replace H:=Option.bind_eq_some_iff.mp H;obtain ⟨t108,QJ,H⟩:=H;replace H:(if t108=true then (Fb.l1 k2 l1 Lc t103 (t103.length:Int) Lc (Fc t103 Lc) ((Fc t103 Lc).length:Int) 0) else (some false))=some r:=H;have RJ:=ja.mk QJ;clear QJ
          by_cases kB:t108=true
          ·subst kB;have H1:(Fb.l1 k2 l1 Lc t103 (t103.length:Int) Lc (Fc t103 Lc) ((Fc t103 Lc).length:Int) 0)=some r:=by rw [if_pos rfl] at H;exact H
           clear H;have H:=H1;clear H1;have H':=ja.mk H;clear H;have xp:0 ≤ (Lc:Int):=Sa;have qp:Lc < (t103.length:Int):=Sa;obtain ⟨gu,jU,T3,WH,Oj,iy,qy⟩:=Sm (Kd.Ud sr.out).2.2 Lc xp qp;cases WH;obtain ⟨Fab,cL,fL,mD⟩:=Kd.zw sr.out [] Lc xp (by first|exact qp|exact Sa|(have e_:=(Kd.Ud sr.out).1;omega));obtain ⟨IU,rfl,Pt⟩:=fL;have um:=mD 0 _ rfl;rw [Nat.add_zero,show ((Kd.slice 4 Kd.bool)).sz=1 from rfl,Nat.mul_one] at um;replace um:=Option.some.inj (um.symm.trans Oj);rw [um] at Pt;have jY:=ja.mk (show Kd.R Kd.bool 4 _ _ _ _ (Fc t103 Lc) from Pt);clear um Pt mD cL;have zj:=ja.mk qy;have tY:=ja.mk iy;clear qy iy;replace xp:=eq_true xp;replace qp:=eq_true qp;have Xv:0 ≤ (Lc:Int):=Sa;have Wv:Lc < (l1.length:Int):=Sa;obtain ⟨yw,EL,mq⟩:=Kd.Zf Vo.out Lc Xv Wv;cases EL
           try replace mq:=Qa HB.out mq
           replace Xv:=eq_true Xv;replace Wv:=eq_true Wv;go_wp2_with (first|(go_at_call 55;(with_reducible refine (Wf.calls (rd l1 Lc) (-1) 11 true _ RJ.out).mono ?_);rintro e w' ⟨rfl,⟨nd,rfl⟩⟩;(try first|exact ⟨rfl,_,World.drewN_drewN _ _ _⟩|exact ⟨rfl,_,Eq.trans (World.drewN_drewN _ _ _) (congrArg (World.drewN _) (Nat.add_assoc _ _ _))⟩)))
           repeat (go_quiet (first|(go_at_call 55;(with_reducible refine (Wf.calls (rd l1 Lc) (-1) 11 true _ RJ.out).mono ?_);rintro e w' ⟨rfl,⟨nd,rfl⟩⟩;(try first|exact ⟨rfl,_,World.drewN_drewN _ _ _⟩|exact ⟨rfl,_,Eq.trans (World.drewN_drewN _ _ _) (congrArg (World.drewN _) (Nat.add_assoc _ _ _))⟩)));try go_wp2_with (first|(go_at_call 55;(with_reducible refine (Wf.calls (rd l1 Lc) (-1) 11 true _ RJ.out).mono ?_);rintro e w' ⟨rfl,⟨nd,rfl⟩⟩;(try first|exact ⟨rfl,_,World.drewN_drewN _ _ _⟩|exact ⟨rfl,_,Eq.trans (World.drewN_drewN _ _ _) (congrArg (World.drewN _) (Nat.add_assoc _ _ _))⟩))))
           go_loopg [35] k2 (fun kq v35 w'=>∃ (Ef:Int),v35 = .int .i64 Ef∧ja (Fb.l1 kq l1 Lc t103 (t103.length:Int) Lc (Fc t103 Lc) ((Fc t103 Lc).length:Int) Ef=some r)∧ja (kq ≤ k2)∧ja (Kd.S (Kd.slice 4 Kd.bool) 60 w' w.heap.size (fun _=>True) (.slice (some gu) t103.length uE) t103)∧ja (w'.heap[ya]? = some (.cells #[(.slice Wa Oa.length Ya),.int .i64 Ja,.int .i64 Fa,.int .i64 Ia,(.slice Ob Ca.length Cb)] 30 (0,0)))∧ja (Kd.C Kd.bool w' jU (Fc t103 Lc).length (Fc t103 Lc))∧ja (Below w.heap.size w w'))
           case atStart=>exact ⟨(0),(by first|rfl|(simp;done)|(simp [*];done)),H',⟨Nat.le_refl _⟩,⟨by (with_reducible repeat (first|apply Kd.ld|apply Kd.jd|apply Kd.Jd));exact sr.out⟩,⟨by (with_reducible repeat (first|refine Aa ?_ _|refine Da ?_|refine Ba ?_ _));exact oa.out⟩,⟨by repeat (first|(with_reducible exact zj.out)|(with_reducible refine Kd.Bb ?_ _)|(with_reducible refine Kd.Ab ?_ _)|(with_reducible refine Kd.Qb ?_)|exact zj.out)⟩,⟨by repeat (first|(with_reducible first|exact HB.out|apply qa|apply ia|apply ta|refine ua ?_ Ra.out)|exact HB.out)⟩⟩
           case round =>
            clear H'
            try clear c1
            try clear p1
            try clear q1
            try clear hx1
            try clear c2
            try clear p2
            try clear c5
            try clear c6
            try clear ku
            try clear YP
            try clear XP
            try clear jV
            try clear Xr
            try clear Qo
            try clear Bm
            try clear Zp
            try clear Nn
            try clear Xk
            try clear fu
            try clear Mn
            try clear Wr
            try clear kB
            try clear Ah
            try clear zh
            try clear yh
            try clear xh
            try clear wh
            try clear uh
            try clear th
            try clear qh
            try clear oh
            try clear nh
            try clear Ak
            try clear zk
            try clear xk
            try clear vk
            try clear uk
            try clear Vg
            try clear Ug
            try clear Tg
            try clear Sg
            try clear Rg
            try clear mh
            try clear jh
            try clear gh
            try clear fh
            try clear dh
            try clear bh
            try clear ah
            try clear Zg
            try clear Yg
            try clear Xg
            try clear qk
            try clear nk
            try clear jk
            try clear fk
            try clear ek
            try clear Qg
            try clear Pg
            try clear Og
            try clear Ng
            try clear Mg
            try clear Oj
            try clear mq
            try clear xp
            try clear Xv
            try clear p2
            try clear qp
            try clear Wv
            (try clear HA);(try clear Es);(try clear sr);(try clear oa);(try clear zj);(try clear HB);obtain ⟨Ef,rfl,HA,Es,sr,oa,zj,HB⟩:=hrel;cases gk with
            | zero=>exact absurd HA.out (by simp [Fb.l1])
            | succ k3 =>
             have H:=HA.out;clear HA;simp only [Fb.l1] at H
             by_cases uw:Ef < ((Fc t103 Lc).length:Int)
             ·rw [if_pos uw] at H;have BD:decide (Ef < ((Fc t103 Lc).length:Int))=true:=decide_eq_true uw;clear uw
              by_cases zD:0 ≤ Ef
              ·rw [if_pos zD] at H;have gT:decide (0 ≤ Ef)=true:=decide_eq_true zD;clear zD
               by_cases CI:Ef < ((Fc t103 Lc).length:Int)
               ·rw [if_pos CI] at H;have pP:decide (Ef < ((Fc t103 Lc).length:Int))=true:=decide_eq_true CI;clear CI;obtain ⟨jac,LS⟩:∃ b_:Bool,b_=(Pf false (Fc t103 Lc) Ef):=⟨_,rfl⟩;replace H:(if jac=true then (if 0 ≤ Lc then (if Lc < (l1.length:Int) then (if (rd l1 Lc) ≥ 0 then (if Ef < (l1.length:Int) then (if (rd l1 Lc)=(rd l1 Ef) then (some false) else (Fb.l1 k3 l1 Lc t103 (t103.length:Int) Lc (Fc t103 Lc) ((Fc t103 Lc).length:Int) (wrap64 (Ef + 1)))) else (none)) else (Fb.l1 k3 l1 Lc t103 (t103.length:Int) Lc (Fc t103 Lc) ((Fc t103 Lc).length:Int) (wrap64 (Ef + 1)))) else (none)) else (none)) else (Fb.l1 k3 l1 Lc t103 (t103.length:Int) Lc (Fc t103 Lc) ((Fc t103 Lc).length:Int) (wrap64 (Ef + 1))))=some r:=by rw [← LS] at H;exact H
                have AP:=ja.mk LS;clear LS
                by_cases vE:jac=true
                ·subst vE;have H1:(if 0 ≤ Lc then (if Lc < (l1.length:Int) then (if (rd l1 Lc) ≥ 0 then (if Ef < (l1.length:Int) then (if (rd l1 Lc)=(rd l1 Ef) then (some false) else (Fb.l1 k3 l1 Lc t103 (t103.length:Int) Lc (Fc t103 Lc) ((Fc t103 Lc).length:Int) (wrap64 (Ef + 1)))) else (none)) else (Fb.l1 k3 l1 Lc t103 (t103.length:Int) Lc (Fc t103 Lc) ((Fc t103 Lc).length:Int) (wrap64 (Ef + 1)))) else (none)) else (none))=some r:=by rw [if_pos rfl] at H;exact H
                 clear H;have H:=H1;clear H1
                 by_cases BI:0 ≤ Lc
                 ·rw [if_pos BI] at H;have oP:decide (0 ≤ Lc)=true:=decide_eq_true BI;clear BI
                  by_cases yD:Lc < (l1.length:Int)
                  ·rw [if_pos yD] at H;have xz:decide (Lc < (l1.length:Int))=true:=decide_eq_true yD;clear yD
                   by_cases Sw:(rd l1 Lc) ≥ 0
                   ·rw [if_pos Sw] at H;have UA:decide (0 ≤ (rd l1 Lc))=true:=decide_eq_true Sw;clear Sw
                    by_cases SQ:Ef < (l1.length:Int)
                    ·rw [if_pos SQ] at H;have lZ:decide (Ef < (l1.length:Int))=true:=decide_eq_true SQ;clear SQ
                     by_cases lR:(rd l1 Lc)=(rd l1 Ef)
                     ·rw [if_pos lR] at H;have aac:((rd l1 Lc) == (rd l1 Ef))=true:=beq_iff_eq.mpr lR;have Zab:((rd l1 Lc) != (rd l1 Ef))=false:=bne_eq_false_iff_eq.mpr lR;clear lR;obtain rfl:=Option.some.inj H;have Dh:0 ≤ (Ef:Int):=Sa;have Ch:Ef < ((Fc t103 Lc).length:Int):=Sa;obtain ⟨Kf,Wn,ue⟩:=Kd.Bh zj.out Ef Dh Ch;(try rw [← AP.out] at ue);cases Wn
                      try replace ue:=Qa HB.out ue
                      replace Dh:=eq_true Dh;replace Ch:=eq_true Ch;have Bl:0 ≤ (Lc:Int):=Sa;have Al:Lc < (l1.length:Int):=Sa;obtain ⟨Wp,Pw,Lf⟩:=Kd.Zf Vo.out Lc Bl Al;obtain rfl:yw=Wp:=(by injection Pw)
                      try replace Lf:=Qa HB.out Lf
                      replace Bl:=eq_true Bl;replace Al:=eq_true Al;have Cr:0 ≤ (Lc:Int):=Sa;have Br:Lc < (l1.length:Int):=Sa;obtain ⟨Mi,VH,Ri⟩:=Kd.Zf Vo.out Lc Cr Br;obtain rfl:yw=Mi:=(by injection VH)
                      try replace Ri:=Qa HB.out Ri
                      replace Cr:=eq_true Cr;replace Br:=eq_true Br;have Hw:0 ≤ (Ef:Int):=Sa;have Fw:Ef < (l1.length:Int):=Sa;obtain ⟨FD,CL,Wl⟩:=Kd.Zf Vo.out Ef Hw Fw;obtain rfl:yw=FD:=(by injection CL)
                      try replace Wl:=Qa HB.out Wl
                      replace Hw:=eq_true Hw;replace Fw:=eq_true Fw;go_wp2
                      repeat (go_quiet (fail);try go_wp2)
                      go_ret;exact ⟨by first|rfl|(simp [Ma,La] <;> rfl)|(simp [*,Ma,La] <;> rfl),by repeat (first|(with_reducible first|exact HB.out|apply qa|apply ia|apply ta|refine ua ?_ Ra.out)|exact HB.out)⟩
                     ·rw [if_neg lR] at H;have aac:((rd l1 Lc) == (rd l1 Ef))=false:=beq_eq_false_iff_ne.mpr lR;have Zab:((rd l1 Lc) != (rd l1 Ef))=true:=bne_iff_ne.mpr lR;have H':=ja.mk H;clear H;have Dh:0 ≤ (Ef:Int):=Sa;have Ch:Ef < ((Fc t103 Lc).length:Int):=Sa;obtain ⟨Kf,Wn,ue⟩:=Kd.Bh zj.out Ef Dh Ch;(try rw [← AP.out] at ue);cases Wn
                      try replace ue:=Qa HB.out ue
                      replace Dh:=eq_true Dh;replace Ch:=eq_true Ch;have Bl:0 ≤ (Lc:Int):=Sa;have Al:Lc < (l1.length:Int):=Sa;obtain ⟨Wp,Pw,Lf⟩:=Kd.Zf Vo.out Lc Bl Al;obtain rfl:yw=Wp:=(by injection Pw)
                      try replace Lf:=Qa HB.out Lf
                      replace Bl:=eq_true Bl;replace Al:=eq_true Al;have Cr:0 ≤ (Lc:Int):=Sa;have Br:Lc < (l1.length:Int):=Sa;obtain ⟨Mi,VH,Ri⟩:=Kd.Zf Vo.out Lc Cr Br;obtain rfl:yw=Mi:=(by injection VH)
                      try replace Ri:=Qa HB.out Ri
                      replace Cr:=eq_true Cr;replace Br:=eq_true Br;have Hw:0 ≤ (Ef:Int):=Sa;have Fw:Ef < (l1.length:Int):=Sa;obtain ⟨FD,CL,Wl⟩:=Kd.Zf Vo.out Ef Hw Fw;obtain rfl:yw=FD:=(by injection CL)
                      try replace Wl:=Qa HB.out Wl
                      replace Hw:=eq_true Hw;replace Fw:=eq_true Fw;go_wp2
                      repeat (go_quiet (fail);try go_wp2)
                      go_roundg k3
                      case measure=>have:=MJ.out;have:=Xo.out;have:=Es.out;omega
                      case rel=>exact ⟨(wrap64 (Ef + 1)),(by first|rfl|(simp;done)|(simp [*];done)),H',⟨by have:=MJ.out;have:=Xo.out;have:=Es.out;omega⟩,⟨by (with_reducible repeat (first|apply Kd.ld|apply Kd.jd|apply Kd.Jd));exact sr.out⟩,⟨by (with_reducible repeat (first|refine Aa ?_ _|refine Da ?_|refine Ba ?_ _));exact oa.out⟩,⟨by repeat (first|(with_reducible exact zj.out)|(with_reducible refine Kd.Bb ?_ _)|(with_reducible refine Kd.Ab ?_ _)|(with_reducible refine Kd.Qb ?_)|exact zj.out)⟩,⟨by repeat (first|(with_reducible first|exact HB.out|apply qa|apply ia|apply ta|refine ua ?_ Ra.out)|exact HB.out)⟩⟩
                    ·rw [if_neg SQ] at H;exact absurd H (by simp)
                   ·rw [if_neg Sw] at H;have UA:decide (0 ≤ (rd l1 Lc))=false:=decide_eq_false Sw;clear Sw;have H':=ja.mk H;clear H;have Dh:0 ≤ (Ef:Int):=Sa;have Ch:Ef < ((Fc t103 Lc).length:Int):=Sa;obtain ⟨Kf,Wn,ue⟩:=Kd.Bh zj.out Ef Dh Ch;(try rw [← AP.out] at ue);cases Wn
                    try replace ue:=Qa HB.out ue
                    replace Dh:=eq_true Dh;replace Ch:=eq_true Ch;have Bl:0 ≤ (Lc:Int):=Sa;have Al:Lc < (l1.length:Int):=Sa;obtain ⟨Wp,Pw,Lf⟩:=Kd.Zf Vo.out Lc Bl Al;obtain rfl:yw=Wp:=(by injection Pw)
                    try replace Lf:=Qa HB.out Lf
                    replace Bl:=eq_true Bl;replace Al:=eq_true Al;go_wp2
                    repeat (go_quiet (fail);try go_wp2)
                    go_roundg k3
                    case measure=>have:=MJ.out;have:=Xo.out;have:=Es.out;omega
                    case rel=>exact ⟨(wrap64 (Ef + 1)),(by first|rfl|(simp;done)|(simp [*];done)),H',⟨by have:=MJ.out;have:=Xo.out;have:=Es.out;omega⟩,⟨by (with_reducible repeat (first|apply Kd.ld|apply Kd.jd|apply Kd.Jd));exact sr.out⟩,⟨by (with_reducible repeat (first|refine Aa ?_ _|refine Da ?_|refine Ba ?_ _));exact oa.out⟩,⟨by repeat (first|(with_reducible exact zj.out)|(with_reducible refine Kd.Bb ?_ _)|(with_reducible refine Kd.Ab ?_ _)|(with_reducible refine Kd.Qb ?_)|exact zj.out)⟩,⟨by repeat (first|(with_reducible first|exact HB.out|apply qa|apply ia|apply ta|refine ua ?_ Ra.out)|exact HB.out)⟩⟩
                  ·rw [if_neg yD] at H;exact absurd H (by simp)
                 ·rw [if_neg BI] at H;exact absurd H (by simp)
                ·replace vE:=Bool.eq_false_iff.mpr vE;subst vE;have H1:(Fb.l1 k3 l1 Lc t103 (t103.length:Int) Lc (Fc t103 Lc) ((Fc t103 Lc).length:Int) (wrap64 (Ef + 1)))=some r:=by rw [if_neg (show ¬ (false=true) by decide)] at H;exact H
                 clear H;have H:=H1;clear H1;have H':=ja.mk H;clear H;have Dh:0 ≤ (Ef:Int):=Sa;have Ch:Ef < ((Fc t103 Lc).length:Int):=Sa;obtain ⟨Kf,Wn,ue⟩:=Kd.Bh zj.out Ef Dh Ch;(try rw [← AP.out] at ue);cases Wn
                 try replace ue:=Qa HB.out ue
                 replace Dh:=eq_true Dh;replace Ch:=eq_true Ch;go_wp2
                 repeat (go_quiet (fail);try go_wp2)
                 go_roundg k3
                 case measure=>have:=MJ.out;have:=Xo.out;have:=Es.out;omega
                 case rel=>exact ⟨(wrap64 (Ef + 1)),(by first|rfl|(simp;done)|(simp [*];done)),H',⟨by have:=MJ.out;have:=Xo.out;have:=Es.out;omega⟩,⟨by (with_reducible repeat (first|apply Kd.ld|apply Kd.jd|apply Kd.Jd));exact sr.out⟩,⟨by (with_reducible repeat (first|refine Aa ?_ _|refine Da ?_|refine Ba ?_ _));exact oa.out⟩,⟨by repeat (first|(with_reducible exact zj.out)|(with_reducible refine Kd.Bb ?_ _)|(with_reducible refine Kd.Ab ?_ _)|(with_reducible refine Kd.Qb ?_)|exact zj.out)⟩,⟨by repeat (first|(with_reducible first|exact HB.out|apply qa|apply ia|apply ta|refine ua ?_ Ra.out)|exact HB.out)⟩⟩
               ·rw [if_neg CI] at H;exact absurd H (by simp)
              ·rw [if_neg zD] at H;exact absurd H (by simp)
             ·rw [if_neg uw] at H;have BD:decide (Ef < ((Fc t103 Lc).length:Int))=false:=decide_eq_false uw;clear uw;have H':=ja.mk H;clear H;go_wp2
              repeat (go_quiet (fail);try go_wp2)
              go_roundg k3
              case measure=>have:=MJ.out;have:=Xo.out;have:=Es.out;omega
              case rel=>exact ⟨(wrap64 (Lc + 1)),(by first|rfl|(simp;done)|(simp [*];done)),H',⟨by have:=MJ.out;have:=Xo.out;have:=Es.out;omega⟩,⟨by (with_reducible repeat (first|apply Kd.ld|apply Kd.jd|apply Kd.Jd));exact sr.out⟩,⟨by (with_reducible repeat (first|refine Aa ?_ _|refine Da ?_|refine Ba ?_ _));exact oa.out⟩,⟨by repeat (first|(with_reducible first|exact HB.out|apply qa|apply ia|apply ta|refine ua ?_ Ra.out)|exact HB.out)⟩⟩
          ·replace kB:=Bool.eq_false_iff.mpr kB;subst kB;have H1:(some false)=some r:=by rw [if_neg (show ¬ (false=true) by decide)] at H;exact H
           clear H;have H:=H1;clear H1;obtain rfl:=Option.some.inj H;have xp:0 ≤ (Lc:Int):=Sa;have qp:Lc < (t103.length:Int):=Sa;obtain ⟨gu,jU,T3,WH,Oj,iy,qy⟩:=Sm (Kd.Ud sr.out).2.2 Lc xp qp;cases WH;obtain ⟨Fab,cL,fL,mD⟩:=Kd.zw sr.out [] Lc xp (by first|exact qp|exact Sa|(have e_:=(Kd.Ud sr.out).1;omega));obtain ⟨IU,rfl,Pt⟩:=fL;have um:=mD 0 _ rfl;rw [Nat.add_zero,show ((Kd.slice 4 Kd.bool)).sz=1 from rfl,Nat.mul_one] at um;replace um:=Option.some.inj (um.symm.trans Oj);rw [um] at Pt;have jY:=ja.mk (show Kd.R Kd.bool 4 _ _ _ _ (Fc t103 Lc) from Pt);clear um Pt mD cL;have zj:=ja.mk qy;have tY:=ja.mk iy;clear qy iy;replace xp:=eq_true xp;replace qp:=eq_true qp;have Xv:0 ≤ (Lc:Int):=Sa;have Wv:Lc < (l1.length:Int):=Sa;obtain ⟨yw,EL,mq⟩:=Kd.Zf Vo.out Lc Xv Wv;cases EL
           try replace mq:=Qa HB.out mq
           replace Xv:=eq_true Xv;replace Wv:=eq_true Wv;go_wp2_with (first|(go_at_call 55;(with_reducible refine (Wf.calls (rd l1 Lc) (-1) 11 false _ RJ.out).mono ?_);rintro e w' ⟨rfl,⟨nd,rfl⟩⟩;(try first|exact ⟨rfl,_,World.drewN_drewN _ _ _⟩|exact ⟨rfl,_,Eq.trans (World.drewN_drewN _ _ _) (congrArg (World.drewN _) (Nat.add_assoc _ _ _))⟩)))
           repeat (go_quiet (first|(go_at_call 55;(with_reducible refine (Wf.calls (rd l1 Lc) (-1) 11 false _ RJ.out).mono ?_);rintro e w' ⟨rfl,⟨nd,rfl⟩⟩;(try first|exact ⟨rfl,_,World.drewN_drewN _ _ _⟩|exact ⟨rfl,_,Eq.trans (World.drewN_drewN _ _ _) (congrArg (World.drewN _) (Nat.add_assoc _ _ _))⟩)));try go_wp2_with (first|(go_at_call 55;(with_reducible refine (Wf.calls (rd l1 Lc) (-1) 11 false _ RJ.out).mono ?_);rintro e w' ⟨rfl,⟨nd,rfl⟩⟩;(try first|exact ⟨rfl,_,World.drewN_drewN _ _ _⟩|exact ⟨rfl,_,Eq.trans (World.drewN_drewN _ _ _) (congrArg (World.drewN _) (Nat.add_assoc _ _ _))⟩))))
           go_ret;exact ⟨by first|rfl|(simp [Ma,La] <;> rfl)|(simp [*,Ma,La] <;> rfl),by repeat (first|(with_reducible first|exact HB.out|apply qa|apply ia|apply ta|refine ua ?_ Ra.out)|exact HB.out)⟩
         ·rw [if_neg Mn] at H;exact absurd H (by simp)
        ·rw [if_neg Xk] at H;exact absurd H (by simp)
       ·rw [if_neg Zp] at H;exact absurd H (by simp)
      ·rw [if_neg Qo] at H;have Bm:decide (Lc < (t103.length:Int))=false:=decide_eq_false Qo;clear Qo;obtain rfl:=Option.some.inj H;go_wp2
       repeat (go_quiet (fail);try go_wp2)
       go_ret;exact ⟨by first|rfl|(simp [Ma,La] <;> rfl)|(simp [*,Ma,La] <;> rfl),by repeat (first|(with_reducible first|exact HB.out|apply qa|apply ia|apply ta|refine ua ?_ Ra.out)|exact HB.out)⟩
noncomputable def zf.f (k:Nat) (Oa:List Int) (Ja:Int) (Fa:Int) (Ia:Int) (Ca:List (Ke)) (l1:List Int):Option (Bool):=(Fb.f k Oa Ja Fa Ia Ca l1).bind fun t102=>(some t102)
theorem zf.calls (k:Nat) (Wa:Option Addr) (Ya:Nat) (Oa:List Int) (Ja:Int) (Fa:Int) (Ia:Int) (Ob:Option Addr) (Cb:Nat) (Ca:List (Ke)) (A1:Option Addr) (c1:Nat) (l1:List Int) (r:Bool) (w:World) (Ld:Kd.C (Kd.int .i64) w Wa Oa.length Oa) (Gd:Oa.length ≤ Ya) (Ue:Kd.C Gs w Ob Ca.length Ca) (Qe:Ca.length ≤ Cb) (eo:Kd.C (Kd.int .i64) w A1 l1.length l1) (Dl:l1.length ≤ c1) (h:zf.f k Oa Ja Fa Ia Ca l1=some r) :
  Calls Try.prog 23 #[.agg #[.slice Wa Oa.length Ya,.int .i64 Ja,.int .i64 Fa,.int .i64 Ia,.slice Ob Ca.length Cb],.slice A1 l1.length c1] w fun e w'=>e = .returned (.bool r)∧Below w.heap.size w w':=by
 have gB:=Try.underlying30;have Md:=ja.mk Ld;have Rd:=ja.mk Gd;clear Ld Gd;have Ce:=ja.mk Ue;have Ff:=ja.mk Qe;clear Ue Qe;have Vo:=ja.mk eo;have FI:=ja.mk Dl;clear eo Dl;have HB:=ja.mk (Below.refl w.heap.size w);have H:((Fb.f k Oa Ja Fa Ia Ca l1).bind fun t102=>(some t102))=some r:=h;clear h;replace H:=Option.bind_eq_some_iff.mp H;obtain ⟨t102,cw,H⟩:=H;replace H:(some t102)=some r:=H;have A3:=ja.mk cw;clear cw;obtain rfl:=Option.some.inj H;go_enter Try.func23,Try.ntmps23;go_wp2_with (first|((with_reducible refine qb (N:=2) rfl ?_);refine Gb ?hg (N:=2) ?hd (cs:=#[.slice Wa Oa.length Ya,.int .i64 Ja,.int .i64 Fa,.int .i64 Ia,.slice Ob Ca.length Cb]) (t:=30) ?hr ?_;(case hd=>rfl);(case hg=>rfl);(case hr=>first|(go_simp;done)|(go_simp;rfl));intro ya hg w4 Rb hb;have Eb:=ja.mk (Na (by repeat (first|(with_reducible first|exact HB.out|apply qa|apply ia|apply ta)|exact HB.out)) hb);have Jb:=ja.mk (Rb);have Ub:=ja.mk ((by rw [hg];exact (Ga (by repeat (first|(with_reducible first|exact HB.out|apply qa|apply ia|apply ta)|exact HB.out))):w.heap.size ≤ ya));have uc:=ja.mk ((by rw [hg];exact (Ga (by repeat (first|(with_reducible first|exact HB.out|apply qa|apply ia|apply ta)|exact HB.out))):w.heap.size ≤ ya));clear HB;have HB:=Eb;have oa:=Jb;have xd:=Ub;have Ra:=uc;clear Eb Jb Ub uc hb Rb hg;have YK:w4.cell? ⟨ya,0,none⟩=some (.slice Wa Oa.length Ya):=(ga oa.out 0).trans rfl;have XK:w4.cell? ⟨ya,1,none⟩=some (.int .i64 Ja):=(ga oa.out 1).trans rfl;have WK:w4.cell? ⟨ya,2,none⟩=some (.int .i64 Fa):=(ga oa.out 2).trans rfl;have VK:w4.cell? ⟨ya,3,none⟩=some (.int .i64 Ia):=(ga oa.out 3).trans rfl;have UK:w4.cell? ⟨ya,4,none⟩=some (.slice Ob Ca.length Cb):=(ga oa.out 4).trans rfl;have NK:=aa oa.out 0;have MK:=aa oa.out 1;have LK:=aa oa.out 2;have KK:=aa oa.out 3;have JK:=aa oa.out 4)|((with_reducible refine mb (f:=58) rfl ?_);refine Mc (some 7) rfl rfl Try.func58 (by kernel_rfl) rfl #[.agg #[.slice Wa Oa.length Ya,.int .i64 Ja,.int .i64 Fa,.int .i64 Ia,.slice Ob Ca.length Cb],.slice A1 l1.length c1] rfl (by (try simp only [List.map_toArray,List.map_cons,List.map_nil]);first|done|rfl|(simp only [List.length_drop,List.length_take];rfl)) ?_;(with_reducible refine (Fb.calls k _ _ Oa Ja Fa Ia _ _ Ca _ _ l1 t102 _ ?dc ?Zb ?Rc ?Qc ?Dn ?Cn A3.out).mono ?_);(case dc=>repeat (first|exact (Kd.Db Md.out HB.out)|(with_reducible refine Kd.Bb ?_ _)|(with_reducible refine Kd.Ab ?_ _)|(with_reducible refine Kd.Qb ?_)));(case Zb=>exact Rd.out);(case Rc=>repeat (first|exact (Kd.Db Ce.out HB.out)|(with_reducible refine Kd.Bb ?_ _)|(with_reducible refine Kd.Ab ?_ _)|(with_reducible refine Kd.Qb ?_)));(case Qc=>exact Ff.out);(case Dn=>repeat (first|exact (Kd.Db Vo.out HB.out)|(with_reducible refine Kd.Bb ?_ _)|(with_reducible refine Kd.Ab ?_ _)|(with_reducible refine Kd.Qb ?_)));(case Cn=>exact FI.out);rintro e w6 ⟨rfl,hb⟩;refine ⟨_,rfl,?_⟩;have Eb:=ja.mk (Ta (g:=ya) (o:=.cells #[.slice Wa Oa.length Ya,.int .i64 Ja,.int .i64 Fa,.int .i64 Ia,.slice Ob Ca.length Cb] 30 (0,0)) (by (with_reducible repeat (first|refine Aa ?_ _|refine Da ?_|refine Ba ?_ _));exact oa.out) hb);have Jb:=ja.mk (Na (by repeat (first|(with_reducible first|exact HB.out|apply qa|apply ia|apply ta|refine ua ?_ Ra.out)|exact HB.out)) hb);clear oa HB;have oa:=Eb;have HB:=Jb;clear Eb Jb;(try clear hb);(try clear ni);(try clear hk);(try clear hi)));go_ret;exact ⟨by first|rfl|(simp [Ma,La] <;> rfl)|(simp [*,Ma,La] <;> rfl),by repeat (first|(with_reducible first|exact HB.out|apply qa|apply ia|apply ta|refine ua ?_ Ra.out)|exact HB.out)⟩
section
variable {l0:List Int} {p v s:Int} {l4:List Ke}
theorem vz (h:ql l0 p v s l4=true):lA l0 p v s l4.length=true∧(∀ b ∈ l4,Sp l0 s l4 b=true)∧Vd l4 ≤ 1000:=by
 unfold ql at h;simp only [Bool.and_eq_true,Bool.not_eq_true',List.any_eq_false,decide_eq_true_eq] at h;exact ⟨h.1,fun b hb=>by have:=h.2.1 b hb;simpa using this,h.2.2⟩
theorem mP (l:List Ke) (b:Ke) (hb:b ∈ l):b.f0.length ≤ Vd l:=by
 unfold Vd;exact aD (List.mem_map.mpr ⟨b,hb,rfl⟩)
end
end Go.Proofs.Ytkigbdceceeenaa.P
end
section
namespace Go.Proofs.Ytkigbdceceeenaa.P
open Go.RowKit Go.Proofs.Pa.Xb Go.Proofs.Pa.Pd Go.Proofs.Pa.Oe
set_option linter.unusedVariables false
set_option linter.unusedSimpArgs false
theorem Q0 {n0 n:Nat} {x:lg} (h:Wm n0 (n:Int) x=true):yu n x:=by
 unfold Wm Vl at h;unfold yu
 by_cases o0:x.f0=0
 ·rw [Zw (by omega) (by omega) (by omega)];simp [o0,Lk] at h ⊢;omega
 by_cases o1:x.f0=1
 ·rw [Yo (Or.inl o1)];simp [o1,Lk] at h ⊢;omega
 by_cases o2:x.f0=2
 ·rw [Rz o2];simp [o2,Lk] at h ⊢;omega
 by_cases o3:x.f0=3
 ·by_cases ha:0 ≤ x.f2
  ·rw [KC ha (Or.inl o3) (by omega)];simp [o3,Lk] at h ⊢;omega
  ·rw [IC ha (Or.inl o3) (by omega)];simp [o3,Lk] at h ⊢;omega
 by_cases o4:x.f0=4
 ·by_cases ha:0 ≤ x.f2
  ·rw [LC ha o4];simp [o4,Lk] at h ⊢;omega
  ·rw [JC ha o4];simp [o4,Lk] at h ⊢;omega
 by_cases o5:x.f0=5
 ·rw [Zw (by omega) (by omega) (by omega)];simp [o5,Lk] at h ⊢;omega
 by_cases o6:x.f0=6
 ·rw [Yo (Or.inr o6)];simp [o6,Lk] at h ⊢;omega
 simp [o0,o1,o2,o3,o4,o5,o6] at h
theorem oT {n0 n n4:Nat} {b:Ke} (h:Uj n0 (n:Int) n4 b.f0 b.f1 b.f2 b.f3 b.f4=true) (hl:b.f0.length ≤ 1048576):Gu n b:=by
 unfold Uj at h;simp only [Bool.and_eq_true,Bool.not_eq_true',List.any_eq_false] at h;obtain ⟨⟨h1,_⟩,h2⟩:=h;refine ⟨hl,fun hf=>?_,fun x hx=>Q0 (n0:=n0) (by have:=h1 x hx;simpa using this)⟩;rw [if_neg hf] at h2
 by_cases h3:b.f1=1
 ·rw [if_pos h3] at h2;simp [Lk] at h2;omega
 ·rw [if_neg h3] at h2
  by_cases h4:b.f1=2
  ·rw [if_pos h4] at h2;simp [Lk] at h2;omega
  ·rw [if_neg h4] at h2;cases h2
theorem eV {l0:List Int} {p v:Int} {n:Nat} {bs:List Ke} (h:ql l0 p v (n:Int) bs=true) (ht:Vd bs ≤ 1048576):Zn bs n:=by
 obtain ⟨h1,h2,_⟩:=vz h;have hh:=kA h1;exact ⟨BL h,by omega,fun b hb=>oT (h2 b hb) (Nat.le_trans (mP bs b hb) ht)⟩
section
variable {bs:List Ke} {n:Nat} (l0:List Int) (p v:Int)
end
theorem TQ {b:Ke} {s:List Bool} (hb:Gu s.length b) (hs:s.length ≤ 1048576):Xf.f b.f0 b.f1 b.f2 b.f3 b.f4 s=some (Eh b s):=by
 unfold Xf.f Eh;rw [Option.bind_some,if_pos (by simp;omega),Option.bind_some,List.nil_append]
 by_cases hf:b.f1=0
 ·rw [if_pos hf,if_pos hf]
 ·have:=hb.2.1 hf;rw [if_neg hf,if_neg hf,if_pos (by omega),if_pos (by omega)]
section
variable {bs:List Ke} {n:Nat} (l0:List Int) (p v:Int)
end
end Go.Proofs.Ytkigbdceceeenaa.P
end
section
namespace Go.Proofs.Ytkigbdceceeenaa.P
open Go.RowKit Go.Proofs.Pa.Xb Go.Proofs.Pa.Pd Go.Proofs.Pa.Oe
set_option linter.unusedVariables false
set_option linter.unusedSimpArgs false
noncomputable def Ag.f (Oa:List Int) (Ja:Int) (Fa:Int) (Ia:Int) (Ca:List (Ke)):Option (List (List Bool)):=open Classical in if 0 ≤ Ia∧Zn Ca Ia.toNat then some (Rl Ca Ia.toNat) else none
theorem j3 {n:Nat} {x:lg} (hx:yu n x):Ph.f x.f0 x.f1 x.f2 x.f3 x.f4 x.f5 x.f6=some (decide (iq x ≥ 0))∧(iq x ≥ 0→x.f1=iq x):=by
 have h2:=hx.2;unfold Ph.f iq
 by_cases h4:x.f0=4
 ·rw [if_pos h4,if_pos h4,decide_eq_false (by omega)];exact ⟨rfl,fun h=>by omega⟩
 ·rw [if_neg h4,if_neg h4]
  by_cases h6:x.f0=6
  ·rw [if_pos h6,decide_eq_false (by omega),h6];exact ⟨rfl,fun h=>by omega⟩
  ·rw [if_neg h6,decide_eq_true (h2 h4 h6).1];exact ⟨by simp [h6],fun _=>rfl⟩
structure EI (w w6:World) (o:Obj) (n:Nat) (PB:Nat→Prop) (v:Value) (P:Nat→Nat→Prop) (wr:World):Prop where
 bw:Below w.heap.size w wr
 k:Kept w6 wr (CY PB w6)
 hx:wr.heap[w.heap.size]? = some o
 t:∃ T,Kd.S (Kd.slice 4 Kd.bool) 60 wr w.heap.size PB v T∧CJ n T P
section
variable {w w6 wr W:World} {o:Obj} {n:Nat} {PB:Nat→Prop} {v:Value} {P Q:Nat→Nat→Prop}
theorem EI.below (h:EI w w6 o n PB v P wr) (hb:Below wr.heap.size wr W):EI w w6 o n PB v P W:=by
 obtain ⟨T,h1,h2⟩:=h.t;exact ⟨Na h.bw hb,h.k.below hb,Ta h.hx hb,T,Kd.Nf h1 hb,h2⟩
theorem EI.Qp (h:EI w w6 o n PB v P wr) (hp:∀ i j,P i j ↔ Q i j):EI w w6 o n PB v Q wr:=by
 obtain ⟨T,h1,h2⟩:=h.t;exact ⟨h.bw,h.k,h.hx,T,h1,h2.Qp hp⟩
theorem EI.far {N:Nat} (h:EI w w6 o n PB v P wr) (HP:∀ k,PB k→w.heap.size < k∧k < w6.heap.size) (h6:w.heap.size < w6.heap.size) (hN:w6.heap.size ≤ N) (hk:Kept wr W (fun k=>N ≤ k)) (hz:Below 0 wr W):EI w w6 o n PB v P W:=by
 obtain ⟨T,h1,h2⟩:=h.t;exact ⟨Vt h.bw h.bw.size hk (fun k e=>by omega) hz,h.k.bu hk (fun k e=>Or.inl (Or.inr (by omega))),wg h.hx hk (fun e=>by omega),T,Kd.GD h1 hk (fun k e1 e2=>by have:=(HP k e1).2;omega),h2⟩
theorem EI.call {a b:Nat} (h:EI w w6 o n PB v P wr) (HP:∀ k,PB k→w.heap.size < k∧k < w6.heap.size) (ha:a < n) (hb:b < n) (hn:n ≤ 1048576) :
  Calls Try.prog 84 #[v,.int .i64 (a:Int),.int .i64 (b:Int)] wr fun e w'=>e = .returned (.tuple #[])∧EI w w6 o n PB v (fun i j=>P i j ∨ (i=a∧j=b)) w'∧Kept wr w' PB∧Below 0 wr w':=by
 obtain ⟨T,h1,h2⟩:=h.t;refine (rF w.heap.size n a b PB v T wr h1 h2.sq ha hb hn).mono ?_;rintro e w' ⟨e1,e2,e3,e4⟩;exact ⟨e1,⟨Vt h.bw h.bw.size e3 (fun k e=>Nat.le_of_lt (HP k e).1) e4,h.k.bu e3 (fun k e=>Or.inl (Or.inl e)),wg h.hx e3 (fun e=>by have:=(HP _ e).1;omega),_,e2,h2.meet ha hb⟩,e3,e4⟩
end
theorem Ag.calls (Wa:Option Addr) (Ya:Nat) (Oa:List Int) (Ja:Int) (Fa:Int) (Ia:Int) (Ob:Option Addr) (Cb:Nat) (Ca:List (Ke)) (r:List (List Bool)) (w:World) (Ld:Kd.C (Kd.int .i64) w Wa Oa.length Oa) (Gd:Oa.length ≤ Ya) (Ue:Kd.C Gs w Ob Ca.length Ca) (Qe:Ca.length ≤ Cb) (h:Ag.f Oa Ja Fa Ia Ca=some r) :
  Calls Try.prog 57 #[.agg #[.slice Wa Oa.length Ya,.int .i64 Ja,.int .i64 Fa,.int .i64 Ia,.slice Ob Ca.length Cb]] w fun e w'=>∃ Bn:Value,e = .returned (Bn)∧Kd.S (Kd.slice 4 Kd.bool) 60 w' w.heap.size (fun _=>True) Bn r∧Below w.heap.size w w':=by
 unfold Ag.f at h
 by_cases hf:0 ≤ Ia∧Zn Ca Ia.toNat
 case neg=>rw [if_neg hf] at h;cases h
 rw [if_pos hf] at h;obtain rfl:=Option.some.inj h;obtain ⟨hn0,hO⟩:=hf;obtain ⟨n,rfl⟩:∃ n:Nat,Ia=(n:Int):=⟨Ia.toNat,(Int.toNat_of_nonneg hn0).symm⟩;rw [Int.toNat_natCast] at hO ⊢;clear h hn0;have HO:=ja.mk hO;have hn:n ≤ 1048576:=hO.2.1;have hm0:0 < Ca.length:=hO.1.1;have hm1:Ca.length ≤ 1048576:=hO.1.2.1;clear hO;have Xp:=ja.mk Ld;have RT:=ja.mk Ue;have G5:=ja.mk Gd;have IZ:=ja.mk Qe;obtain ⟨W1,bg⟩:∃ W1,W1=((w.alloc (.cells #[.slice Wa Oa.length Ya,.int .i64 Ja,.int .i64 Fa,.int .i64 (n:Int),.slice Ob Ca.length Cb] 30 (0,0))).alloc (.cells #[] 60 (0,0))):=⟨_,rfl⟩;have HW:=ja.mk bg
 have HA:=ja.mk (show aq w (WD Wa Oa.length Ya Ja Fa n Ob Ca.length Cb) (fun k=>k=w.heap.size + 1) (.slice (some ⟨w.heap.size + 1,0,none⟩) 0 0) (.slice none 0 0) [] [] W1 from by
  have z1:(w.alloc (.cells #[.slice Wa Oa.length Ya,.int .i64 Ja,.int .i64 Fa,.int .i64 (n:Int),.slice Ob Ca.length Cb] 30 (0,0))).heap.size=w.heap.size + 1:=by simp
  have b1:=Dm w (.cells #[.slice Wa Oa.length Ya,.int .i64 Ja,.int .i64 Fa,.int .i64 (n:Int),.slice Ob Ca.length Cb] 30 (0,0));have e1:=qa (Below.refl w.heap.size w) (.cells #[.slice Wa Oa.length Ya,.int .i64 Ja,.int .i64 Fa,.int .i64 (n:Int),.slice Ob Ca.length Cb] 30 (0,0));rw [bg];generalize w.alloc (.cells #[.slice Wa Oa.length Ya,.int .i64 Ja,.int .i64 Fa,.int .i64 (n:Int),.slice Ob Ca.length Cb] 30 (0,0))=u1 at z1 b1 e1 ⊢;have z2:(u1.alloc (.cells #[] 60 (0,0))).heap.size=w.heap.size + 2:=by simp [z1]
  have s1:=zz (Kd.slice 4 Kd.bool) 60 u1 w.heap.size (by omega);have e2:=qa (Below.refl u1.heap.size u1) (.cells #[] 60 (0,0));rw [z1] at s1
  exact ⟨Na e1 e2,Ta b1 e2,s1,Kd.uP _ _ _ _ _,fun k hk=>⟨by omega,by omega⟩⟩)
 clear bg Ld Ue Gd Qe;go_enter Try.func57,Try.ntmps57
 go_upto_region 2 with (fail)
 rw [← HW.out];clear HW;go_wp2
 go_loopg [3,4] n (fun gg v3 v4 wr=>∃ (j:Nat) (PB:Nat→Prop),v4 = .int .i64 j∧j ≤ n∧n - j ≤ gg∧ja (aq w (WD Wa Oa.length Ya Ja Fa n Ob Ca.length Cb) PB v3 (.slice none 0 0) (List.replicate j (List.replicate n false)) [] wr))
 case atStart=>exact ⟨0,_,rfl,Nat.zero_le _,by omega,HA⟩
 case round =>
  clear HA;(try clear PB);(try clear HA);obtain ⟨j,PB,rfl,hj,zS,HA⟩:=hrel;have Lr:=QA HA.out
  by_cases hlt:j < n
  ·have Zv:decide ((j:Int) < (n:Int))=true:=decide_eq_true (by omega);have M6:(0:Int) ≤ (n:Int):=by omega
   have W6:=ja.mk (show ((n:Int)).toNat * 1 ≤ 281474976710656 from by omega);have Y6:=ja.mk (show ((List.replicate j (List.replicate n false)).length + 1) * 24 ≤ 140737488355328 from by rw [List.length_replicate];omega)
   go_upto_region 4 with (first|((with_reducible refine qb (N:=23) rfl ?_);refine Kd.Uw Kd.bool (w0:=wr) wr.heap.size 4 rfl (N:=23) rfl 60 _ _ rfl (n:Int) rfl rfl Try.underlying60 (.bool false) 1 ow rfl (by decide) (by omega) false (ok:=fun k=>wr.heap.size ≤ k) (Sh:=fun k=>wr.heap.size ≤ k) rfl (fun _ hk=>hk) (Nat.le_refl _) M6 W6.out (Below.refl _ _) (Nat.le_refl _) ?_;intro v23 GC ho hb hg hat;rw [Int.toNat_natCast] at ho;obtain ⟨A23,uw,rfl⟩:=Kd.ze ho;have fad:=ja.mk (tM ho HA.out.bl.size);simp only [List.length_replicate] at fad;have W5:=ja.mk hb;have Vac:=ja.mk (Na HA.out.bl hb);clear ho hb hg hat Lr)|((with_reducible refine qb (N:=25) rfl ?_);refine Kd.Cz (Kd.slice 4 Kd.bool) (w0:=w) w.heap.size rfl (.tmp 20) (.tmp 24) 55 60 (.slice none 0 0) 24 rfl Try.underlying55 dD rfl (by decide) (by omega) _ (List.replicate j (List.replicate n false)) (List.replicate n false) _ (fun k=>PB k ∨ wr.heap.size ≤ k) (fun k=>wr.heap.size ≤ k) rfl rfl fad.out HA.out.neX (HA.out.frX W5.out) (HA.out.okX W5.out) Vac.out Vac.out.size Y6.out ?_;intro v25 Dw hs hb hg hat;have zY:=ja.mk (HA.out.z4 W5.out hs hb hg);clear hs hb hg hat))
   go_wp2
   go_roundg (n - (j + 1))
   case measure=>omega
   case rel =>
    have h2:=zY.out;rw [← List.replicate_succ'] at h2;exact ⟨j + 1,_,by go_num,by omega,by omega,⟨h2⟩⟩
  ·have Zv:decide ((j:Int) < (n:Int))=false:=decide_eq_false (by omega);obtain rfl:n=j:=by omega
   obtain ⟨wb,rfl⟩:∃ wb,wb=wr:=⟨_,rfl⟩;have hx0:wb.cell? ⟨w.heap.size,0,none⟩=some (.slice Wa Oa.length Ya):=(ga HA.out.hx 0).trans rfl;have hx1:wb.cell? ⟨w.heap.size,1,none⟩=some (.int .i64 Ja):=(ga HA.out.hx 1).trans rfl;have Xw:wb.cell? ⟨w.heap.size,2,none⟩=some (.int .i64 Fa):=(ga HA.out.hx 2).trans rfl;have Hs:wb.cell? ⟨w.heap.size,4,none⟩=some (.slice Ob Ca.length Cb):=(ga HA.out.hx 4).trans rfl;obtain ⟨klv,L8⟩:=Ev.rounds (oL Oa Ja Fa HO.out);have HLV:=ja.mk L8;clear L8 zS hj;obtain ⟨AT,cT,hvT⟩:=Kd.ei HA.out.x;rw [List.length_replicate] at hvT;subst hvT
   go_upto_region 7 with (first|(go_at_call 41;(with_reducible refine (gb.calls klv Wa Ya Oa Ja Fa (n:Int) Ob Cb Ca (De Ca n) wb (Kd.Db Xp.out HA.out.bl) G5.out (Kd.Db RT.out HA.out.bl) IZ.out HLV.out).mono ?_);rintro e w6 ⟨v6,rfl,ho,hb⟩;obtain ⟨A5,c5,rfl⟩:=Kd.ei ho;have bM:=ja.mk ho;have mB:=ja.mk hb;clear ho hb hx0 hx1 Xw Lr Hs))
   rw [Zi] at bM ⊢;have UT:=ja.mk (show ∀ k,PB k→w.heap.size < k∧k < wb.heap.size from HA.out.pb);have IJ:=ja.mk (show ∀ k,PB k→w.heap.size < k∧k < w6.heap.size from fun k hk=>⟨(UT.out k hk).1,Nat.lt_of_lt_of_le (UT.out k hk).2 mB.out.size⟩);have KZ:=ja.mk (show Ca.length ≤ c5 from (Kd.Ud bM.out).2.1);have HLC:=ja.mk (show ∀ W,Kept w6 W (CY PB w6)→Kd.C (Kd.slice 4 Kd.bool) W A5 (De Ca n).length (De Ca n) from fun W hk=>(Kd.Ud (Kd.GD (Kd.ej (Kd.Bz bM.out) (fun k hk=>⟨hk.2.1,hk.2.2.1⟩):Kd.S (Kd.slice 4 Kd.bool) _ w6 _ (fun k=>wb.heap.size ≤ k∧k < w6.heap.size) _ _) hk (fun k hk e=>e.elim (fun e=>by have:=(UT.out k e).2;omega) (fun e=>by omega)))).2.2);have HW6:=ja.mk (show w.heap.size < w6.heap.size from by have:=Jc HA.out.hx;have:=mB.out.size;omega);have yU:=ja.mk (show EI w w6 (WD Wa Oa.length Ya Ja Fa n Ob Ca.length Cb) n PB (.slice AT n cT) vM w6 from ⟨Na HA.out.bl mB.out,Kept.refl _ _,Ta HA.out.hx mB.out,_,Kd.Nf HA.out.x mB.out,CJ.start n⟩);clear HA mB bM UT HLV;generalize Value.slice AT n cT=v at yU ⊢;obtain ⟨j7,K2⟩:∃ j7:Nat→Nat→Prop,j7=fun a b=>Eg yg Ca (De Ca n) 0 vM a b ∨ (b < a∧seen (fD Ca n) a=true∧seen (fD Ca n) b=true):=⟨_,rfl⟩
   have Jao:=ja.mk K2;have HFO:=ja.mk (show ∀ a b,(Eg yg Ca (De Ca n) 0 vM a b ∨ (b < a∧seen (fD Ca n) a=true∧seen (fD Ca n) b=true)) ↔ j7 a b from fun a b=>by rw [K2]);clear K2;go_wp2
   go_loopg [6] Ca.length (fun gg v6 wr=>∃ (i:Nat) (P:Nat→Nat→Prop),v6 = .int .i64 i∧i ≤ Ca.length∧Ca.length - i ≤ gg∧ja (∀ a b,(Eg yg Ca (De Ca n) i P a b ∨ (i=0∧b < a∧seen (fD Ca n) a=true∧seen (fD Ca n) b=true)) ↔ j7 a b)∧ja (EI w w6 (WD Wa Oa.length Ya Ja Fa n Ob Ca.length Cb) n PB v P wr))
   case atStart=>exact ⟨0,vM,rfl,Nat.zero_le _,by omega,⟨fun a b=>⟨fun h=>(HFO.out a b).1 (h.imp id (fun h=>h.2)),fun h=>((HFO.out a b).2 h).imp id (fun h=>⟨rfl,h⟩)⟩⟩,yU⟩
   case round =>
    clear yU HFO hlt Zv;(try clear P);(try clear nY);(try clear HI);obtain ⟨i,P,rfl,hi,zS,nY,HI⟩:=hrel;have Hs:wr.cell? ⟨w.heap.size,4,none⟩=some (.slice Ob Ca.length Cb):=(ga HI.out.hx 4).trans rfl
    by_cases hlt:i < Ca.length
    ·have Zv:decide ((i:Int) < (Ca.length:Int))=true:=decide_eq_true (by omega);have i1:0 ≤ (i:Int):=by omega
     have i2:(i:Int) < (Ca.length:Int):=by omega
     obtain ⟨ag,Ac,cc,e1,hc0,Dl,iP,XD,gP,Kw,YY⟩:=wj RT.out (i:Int) (by omega) (by omega);subst e1;simp only [Int.toNat_natCast] at hc0 Dl iP XD gP;have LZ:=ja.mk YY;have P5:=ja.mk Kw;replace hc0:=ud hc0 (Kept.Cd HI.out.bw (fun _=>False)) id;replace Dl:=ud Dl (Kept.Cd HI.out.bw (fun _=>False)) id;replace iP:=ud iP (Kept.Cd HI.out.bw (fun _=>False)) id;replace XD:=ud XD (Kept.Cd HI.out.bw (fun _=>False)) id;replace gP:=ud gP (Kept.Cd HI.out.bw (fun _=>False)) id;clear YY Kw
     go_upto_region 11 with (fail)
     have xA:=qa (Below.refl wr.heap.size wr) (.cells #[.slice Ac (Ea Ca (i:Int)).f0.length cc,.int .i64 (Ea Ca (i:Int)).f1,.int .i64 (Ea Ca (i:Int)).f2,.int .i64 (Ea Ca (i:Int)).f3,.int .i64 (Ea Ca (i:Int)).f4] 59 (0,0));have iD:=Dm wr (.cells #[.slice Ac (Ea Ca (i:Int)).f0.length cc,.int .i64 (Ea Ca (i:Int)).f1,.int .i64 (Ea Ca (i:Int)).f2,.int .i64 (Ea Ca (i:Int)).f3,.int .i64 (Ea Ca (i:Int)).f4] 59 (0,0));generalize wr.alloc (.cells #[.slice Ac (Ea Ca (i:Int)).f0.length cc,.int .i64 (Ea Ca (i:Int)).f1,.int .i64 (Ea Ca (i:Int)).f2,.int .i64 (Ea Ca (i:Int)).f3,.int .i64 (Ea Ca (i:Int)).f4] 59 (0,0))=Ks at xA iD ⊢;have NJ:=ja.mk ((HI.out.below xA).below (Rm (Below.refl Ks.heap.size Ks)));have Wo:=ja.mk (show Ks.drew.heap[wr.heap.size]? = _ from iD);have EZ:=ja.mk (show w6.heap.size ≤ wr.heap.size from HI.out.k.1);clear xA iD HI Hs hc0 Dl iP XD gP i1 i2 Zv;generalize wr.heap.size=q7 at Wo EZ ⊢;have BU:=ja.mk (vu HO.out hlt);have xU:=ja.mk (show (Sd (De Ca n) i).length=n from by rw [qx hlt];exact jj _ _ _);have wY:=ja.mk (TQ (b:=(Ea Ca (i:Int))) (s:=(Sd (De Ca n) i)) (by rw [xU.out];exact BU.out) (by rw [xU.out];exact hn));obtain ⟨a5,Ar,cr,e5,hrc,hrl,hrC⟩:=Sm (HLC.out Ks.drew NJ.out.k) (i:Int) (by omega) (by rw [Zi];omega);subst e5;rw [Int.toNat_natCast] at hrc;rw [Ls] at hrc hrl hrC;have V6:=ja.mk (And.intro hrc (And.intro hrl hrC));have i1:0 ≤ (i:Int):=by omega
     have i2:(i:Int) < (Ca.length:Int):=by omega
     clear hrc hrl hrC;refine Qm (n:=7) (S:=fun w'=>w'.cell? ⟨q7,0,none⟩=some (.slice Ac (Ea Ca (i:Int)).f0.length cc)∧w'.cell? ⟨q7,1,none⟩=some (.int .i64 (Ea Ca (i:Int)).f1)∧w'.cell? ⟨q7,2,none⟩=some (.int .i64 (Ea Ca (i:Int)).f2)∧w'.cell? ⟨q7,3,none⟩=some (.int .i64 (Ea Ca (i:Int)).f3)∧w'.cell? ⟨q7,4,none⟩=some (.int .i64 (Ea Ca (i:Int)).f4)∧w'.cell? (a5.add i)=some (.slice Ar (Sd (De Ca n) i).length cr)) (ds:=[]) #[false,false,false,false,false,false,false] (by kernel_rfl) rfl rfl ⟨(ga Wo.out 0).trans rfl,(ga Wo.out 1).trans rfl,(ga Wo.out 2).trans rfl,(ga Wo.out 3).trans rfl,(ga Wo.out 4).trans rfl,V6.out.1⟩ (fun hHeld=>?_);generalize Ks.drew=wd at NJ Wo V6 hHeld ⊢;refine zd (i:=1) (N:=some 41) (v:=?_) (a':=?_) #[false,true,false,false,false,false,false] rfl rfl (by kernel_rfl) (fun _ _ _ h=>h) (Or.inl ⟨by rfl,?_⟩) ?_ ?_;rotate_left
     ·intro w';go_simp;with_reducible rfl
     rotate_left
     ·simp only [Act.put,List.setIfInBounds_toArray,List.set_cons_zero,List.set_cons_succ,ic,jc]
      rfl
     refine zd (i:=2) (N:=some 42) (v:=?_) (a':=?_) #[false,true,true,false,false,false,false] rfl rfl (by kernel_rfl) (fun _ _ _ h=>h) (Or.inl ⟨by rfl,?_⟩) ?_ ?_;rotate_left
     ·intro w';go_simp;with_reducible rfl
     rotate_left
     ·simp only [Act.put,List.setIfInBounds_toArray,List.set_cons_zero,List.set_cons_succ,ic,jc]
      rfl
     refine zd (i:=3) (N:=some 43) (v:=?_) (a':=?_) #[false,true,true,true,false,false,false] rfl rfl (by kernel_rfl) (fun _ _ _ h=>h) (Or.inl ⟨by rfl,?_⟩) ?_ ?_;rotate_left
     ·intro w';go_simp;with_reducible rfl
     rotate_left
     ·simp only [Act.put,List.setIfInBounds_toArray,List.set_cons_zero,List.set_cons_succ,ic,jc]
      rfl
     refine Fh (i:=0) (N:=some 40) (v:=?_) (a':=?_) #[true,true,true,true,false,false,false] rfl rfl (by kernel_rfl) (fun _ _ _ h=>h) (Or.inl ⟨by rfl,?_⟩) hHeld ?_ ?_;rotate_left
     ·rintro w' ⟨s0,s1,s2,s3,s4,s5⟩;go_simp;with_reducible rfl
     rotate_left
     ·simp only [Act.put,List.setIfInBounds_toArray,List.set_cons_zero,List.set_cons_succ,ic,jc]
      rfl
     refine Fh (i:=4) (N:=some 44) (v:=?_) (a':=?_) #[true,true,true,true,true,false,false] rfl rfl (by kernel_rfl) (fun _ _ _ h=>h) (Or.inl ⟨by rfl,?_⟩) hHeld ?_ ?_;rotate_left
     ·rintro w' ⟨s0,s1,s2,s3,s4,s5⟩;go_simp;with_reducible rfl
     rotate_left
     ·simp only [Act.put,List.setIfInBounds_toArray,List.set_cons_zero,List.set_cons_succ,ic,jc]
      rfl
     refine Jw (i:=5) (N:=some 45) #[true,true,true,true,true,true,false] rfl rfl (by kernel_rfl) (by decide) (fun K hK=>?_);refine eu Try.func42 (by kernel_rfl) rfl #[.agg #[.slice Ac (Ea Ca (i:Int)).f0.length cc,.int .i64 (Ea Ca (i:Int)).f1,.int .i64 (Ea Ca (i:Int)).f2,.int .i64 (Ea Ca (i:Int)).f3,.int .i64 (Ea Ca (i:Int)).f4],.slice Ar (Sd (De Ca n) i).length cr] (by rfl) rfl rfl (by simp only [List.map_toArray,List.map_cons,List.map_nil];rfl) ?_;with_reducible refine (Xf.calls Ac cc (Ea Ca (i:Int)).f0 (Ea Ca (i:Int)).f1 (Ea Ca (i:Int)).f2 (Ea Ca (i:Int)).f3 (Ea Ca (i:Int)).f4 Ar cr (Sd (De Ca n) i) (Eh (Ea Ca (i:Int)) (Sd (De Ca n) i)) wd (Kd.Db LZ.out NJ.out.bw) P5.out V6.out.2.2 V6.out.2.1 wY.out).mono ?_
     rintro e Mz ⟨v14,rfl,ho,hb⟩;refine ⟨_,rfl,?_⟩;obtain ⟨As,cs,hvs⟩:=Kd.ze ho;rw [Uk,xU.out] at hvs;subst hvs;have W4:=ja.mk ho;have L5:=ja.mk (NJ.out.below hb);have HJ:=ja.mk (Ta Wo.out hb);have Sac:=ja.mk ((Kept.Cd hb (fun _=>False)).2);have YX:=ja.mk (And.intro (Jc Wo.out) hb.size);have WY:=ud V6.out.1 (Kept.Cd hb (fun _=>False)) id;clear ho hb;refine hK.out _ _ ⟨(ga HJ.out 0).trans rfl,(ga HJ.out 1).trans rfl,(ga HJ.out 2).trans rfl,(ga HJ.out 3).trans rfl,(ga HJ.out 4).trans rfl,WY⟩ (fun hHeld=>?_);clear hK K;refine yp (a':=?_) ?_ ?_;rotate_left
     ·show Act.put _ (some 45) _=_
      simp only [Act.put,List.setIfInBounds_toArray,List.set_cons_zero,List.set_cons_succ,ic,jc]
      rfl
     refine zd (i:=6) (N:=some 8) (v:=?_) (a':=?_) #[true,true,true,true,true,true,true] rfl rfl (by kernel_rfl) (fun _ _ _ h=>h) (Or.inl ⟨by rfl,?_⟩) ?_ ?_;rotate_left
     ·intro w';go_simp;with_reducible rfl
     rotate_left
     ·simp only [Act.put,List.setIfInBounds_toArray,List.set_cons_zero,List.set_cons_succ,ic,jc]
      rfl
     refine Sr (by kernel_rfl) ?_;clear hHeld WY Sac V6 NJ Wo;have HLW:=ja.mk L5.out.k.1;have LJ:=ja.mk (show w6.heap.size ≤ wd.heap.size∧q7 < wd.heap.size∧wd.heap.size ≤ Mz.heap.size from ⟨by have:=YX.out;have:=EZ.out;omega,YX.out.1,YX.out.2⟩);clear YX HLW;generalize wd.heap.size=N5 at W4 LJ;have YD:Mz.cell? ⟨q7,0,none⟩=some (.slice Ac (Ea Ca (i:Int)).f0.length cc):=(ga HJ.out 0).trans rfl;have Kw:(Ea Ca (i:Int)).f0.length ≤ 1048576:=BU.out.1;have lS:wrap64 (((Ea Ca (i:Int)).f0.length:Int) - 1)=((Ea Ca (i:Int)).f0.length:Int) - 1:=Cj Kw;have R4:=ja.mk lS;clear lS i1 i2;have JP:=ja.mk (show Pp yg ((Ea Ca (i:Int)).f0.take (Ea Ca (i:Int)).f0.length).reverse (Zr (Ea Ca (i:Int)).f0 (Ea Ca (i:Int)).f0.length (Eh (Ea Ca (i:Int)) (Sd (De Ca n) i))) P=tw yg Ca (De Ca n) P i from by rw [List.take_length,Ut];rfl);have Js:=ja.mk (show Kd.R Kd.bool 4 Mz N5 (fun _=>True) (.slice As n cs) (Zr (Ea Ca (i:Int)).f0 (Ea Ca (i:Int)).f0.length (Eh (Ea Ca (i:Int)) (Sd (De Ca n) i))) from by rw [Ut];exact W4.out);clear W4;go_wp2;clear YD
     go_loopg [9] (Ea Ca (i:Int)).f0.length (fun g6 v9 wr=>∃ (z:Int) (q:Nat) (P':Nat→Nat→Prop),v9 = .int .i64 z∧z + 1=(q:Int)∧q ≤ (Ea Ca (i:Int)).f0.length∧q ≤ g6∧ja (Pp yg ((Ea Ca (i:Int)).f0.take q).reverse (Zr (Ea Ca (i:Int)).f0 q (Eh (Ea Ca (i:Int)) (Sd (De Ca n) i))) P' = tw yg Ca (De Ca n) P i)∧ja (EI w w6 (WD Wa Oa.length Ya Ja Fa n (some ag) Ca.length Cb) n PB v P' wr)∧ja (Kd.R Kd.bool 4 wr N5 (fun _=>True) (.slice As n cs) (Zr (Ea Ca (i:Int)).f0 q (Eh (Ea Ca (i:Int)) (Sd (De Ca n) i))))∧ja (N5 ≤ wr.heap.size)∧ja (wr.heap[q7]? = some (.cells #[.slice Ac (Ea Ca (i:Int)).f0.length cc,.int .i64 (Ea Ca (i:Int)).f1,.int .i64 (Ea Ca (i:Int)).f2,.int .i64 (Ea Ca (i:Int)).f3,.int .i64 (Ea Ca (i:Int)).f4] 59 (0,0))))
     case atStart=>exact ⟨((Ea Ca (i:Int)).f0.length:Int) - 1,(Ea Ca (i:Int)).f0.length,P,by first|rfl|(go_simp;done)|exact congrArg _ R4.out|go_num,by omega,Nat.le_refl _,Nat.le_refl _,JP,L5,Js,⟨LJ.out.2.2⟩,HJ⟩
     case round =>
      clear JP L5 Js HJ;(try clear P);(try clear JP);(try clear HI);(try clear Js);(try clear WA);(try clear HQ);obtain ⟨z,q,P',rfl,hz,hq,hg6,JP,HI,Js,WA,HQ⟩:=hrel
      by_cases hz0:0 ≤ z
      ·obtain ⟨p,rfl⟩:∃ p:Nat,z=(p:Int):=⟨z.toNat,(Int.toNat_of_nonneg hz0).symm⟩;obtain rfl:q=p + 1:=by omega
       have mV:p < (Ea Ca (i:Int)).f0.length:=by omega
       have iS:decide ((p:Int) ≥ 0)=true:=decide_eq_true (by omega);have p1:0 ≤ (p:Int):=by omega
       have p2:(p:Int) < ((Ea Ca (i:Int)).f0.length:Int):=by omega
       have YD:wr.cell? ⟨q7,0,none⟩=some (.slice Ac (Ea Ca (i:Int)).f0.length cc):=(ga HQ.out 0).trans rfl;obtain ⟨aI,e6,k0,k1,k2,k3,k4,k5,k6⟩:=Xn LZ.out (p:Int) (by omega) (by omega);subst e6;simp only [Int.toNat_natCast] at k0 k1 k2 k3 k4 k5 k6;have mY:=ja.mk (YC BU.out mV)
       have HXT:=ja.mk (show Pp yg ((Ea Ca (i:Int)).f0.take p).reverse (Zr (Ea Ca (i:Int)).f0 p (Eh (Ea Ca (i:Int)) (Sd (De Ca n) i))) (yg P' (Ua (Ea Ca (i:Int)).f0 (p:Int)) (Zr (Ea Ca (i:Int)).f0 (p + 1) (Eh (Ea Ca (i:Int)) (Sd (De Ca n) i))))=tw yg Ca (De Ca n) P i from by
        have h:=JP.out;rw [tD yg mV,← Tp mV] at h
        exact h)
       have HXB:=ja.mk (show (Zr (Ea Ca (i:Int)).f0 p (Eh (Ea Ca (i:Int)) (Sd (De Ca n) i)))=Em (Zr (Ea Ca (i:Int)).f0 (p + 1) (Eh (Ea Ca (i:Int)) (Sd (De Ca n) i))) (Ua (Ea Ca (i:Int)).f0 (p:Int)) from Tp mV _);have FP:=ja.mk (show (Zr (Ea Ca (i:Int)).f0 (p + 1) (Eh (Ea Ca (i:Int)) (Sd (De Ca n) i))).length=n by rw [Qv,Uk];exact xU.out);generalize Ua (Ea Ca (i:Int)).f0 (p:Int)=x at k0 k1 k2 k3 k4 k5 k6 mY HXT HXB;generalize (Zr (Ea Ca (i:Int)).f0 (p + 1) (Eh (Ea Ca (i:Int)) (Sd (De Ca n) i)))=s at Js FP HXT HXB;have HKC:=ja.mk (And.intro k0 (And.intro k1 (And.intro k2 (And.intro k3 (And.intro k4 (And.intro k5 k6))))));replace k0:=ud k0 (Kept.Cd HI.out.bw (fun _=>False)) id;replace k1:=ud k1 (Kept.Cd HI.out.bw (fun _=>False)) id;replace k2:=ud k2 (Kept.Cd HI.out.bw (fun _=>False)) id;replace k3:=ud k3 (Kept.Cd HI.out.bw (fun _=>False)) id;replace k4:=ud k4 (Kept.Cd HI.out.bw (fun _=>False)) id;replace k5:=ud k5 (Kept.Cd HI.out.bw (fun _=>False)) id;replace k6:=ud k6 (Kept.Cd HI.out.bw (fun _=>False)) id;obtain ⟨tU,hdx⟩:=j3 mY.out;have HDE:=ja.mk tU;have HDX:=ja.mk hdx;have R6:=ja.mk (show wrap64 ((p:Int) - 1)=(p:Int) - 1 from Cj (by omega));obtain ⟨kb,TY⟩:=Ev.rounds (vJ s x (by rw [FP.out];exact mY.out));have Z6:=ja.mk TY;clear tU hdx TY hz0;obtain ⟨wk,rfl⟩:∃ wk,wk=wr:=⟨_,rfl⟩
       by_cases hm:iq x ≥ 0
       ·obtain ⟨D,hD⟩:∃ D:Nat,iq x=(D:Int):=⟨(iq x).toNat,(Int.toNat_of_nonneg hm).symm⟩;have hDn:D < n:=by have:=HY mY.out hm;omega
        have HMD:=ja.mk hD;have HF1:=ja.mk (show x.f1=(D:Int) from (HDX.out hm).trans hD);have tU:=HDE.out;rw [decide_eq_true hm] at tU;have O5:=ja.mk tU;clear tU hm hD HDE
        go_upto_region 16 with (first|(go_at_call 73;(with_reducible refine (Ph.calls x.f0 x.f1 x.f2 x.f3 x.f4 x.f5 x.f6 true wk O5.out).mono ?_);rintro e ou ⟨rfl,hb⟩;have Vw:=ja.mk hb;clear hb YD k0 k1 k2 k3 k4 k5 k6))
        have qad:=ja.mk ((HI.out.below Vw.out).Qp (Q:=jq P' x s 0) (fun a b=>Iff.intro Or.inl (fun h=>h.elim id (fun h=>absurd h.2.2.1 (Nat.not_lt_zero _)))));have QT:=ja.mk (Kd.Td (Kd.Kg (Kd.kf Js.out Vw.out)) (fun k hk=>hk.2.1):Kd.R Kd.bool _ ou N5 (fun k=>N5 ≤ k) _ s);have GJ:=ja.mk (Ta HQ.out Vw.out);have KJ:=ja.mk (show N5 ≤ ou.heap.size from Nat.le_trans WA.out Vw.out.size);clear HI Js HQ Vw iS p1 p2 WA;go_wp2
        go_loopg [10] n (fun g7 v10 wr=>∃ (u:Nat),v10 = .int .i64 u∧u ≤ n∧n - u ≤ g7∧ja (EI w w6 (WD Wa Oa.length Ya Ja Fa n (some ag) Ca.length Cb) n PB v (jq P' x s u) wr)∧ja (Kd.R Kd.bool 4 wr N5 (fun k=>N5 ≤ k) (.slice As n cs) s)∧ja (wr.heap[q7]? = some (.cells #[.slice (some aI) (Ea Ca (i:Int)).f0.length cc,.int .i64 (Ea Ca (i:Int)).f1,.int .i64 (Ea Ca (i:Int)).f2,.int .i64 (Ea Ca (i:Int)).f3,.int .i64 (Ea Ca (i:Int)).f4] 59 (0,0)))∧ja (N5 ≤ wr.heap.size))
        case atStart=>exact ⟨0,rfl,Nat.zero_le _,by omega,qad,QT,GJ,KJ⟩
        case round =>
         clear qad QT GJ KJ;(try clear HI);(try clear Js);(try clear HQ);(try clear WA);obtain ⟨u,rfl,hu,hg7,HI,Js,HQ,WA⟩:=hrel;have Lr:wr.cell? ⟨w.heap.size,3,none⟩=some (.int .i64 (n:Int)):=(ga HI.out.hx 3).trans rfl
         by_cases hun:u < n
         ·have S7:decide ((u:Int) < (n:Int))=true:=decide_eq_true (by omega);have u1:0 ≤ (u:Int):=by omega
          have u2:(u:Int) < (n:Int):=by omega
          have sU:=(Kd.Wc Js.out).2.2;obtain ⟨aS,e7,hsc⟩:=xx sU (show u < s.length by rw [FP.out];exact hun);subst e7;clear sU;cases TM:seen s u with
          | true =>
           rw [TM] at hsc;have YD:wr.cell? ⟨q7,0,none⟩=some (.slice (some aI) (Ea Ca (i:Int)).f0.length cc):=(ga HQ.out 0).trans rfl;obtain ⟨-,k1,-⟩:=HKC.out;replace k1:=ud k1 (Kept.Cd HI.out.bw (fun _=>False)) id;rw [HF1.out] at k1;have p1:0 ≤ (p:Int):=by omega
           have p2:(p:Int) < ((Ea Ca (i:Int)).f0.length:Int):=by omega
           have HCM:=ja.mk (HI.out.call IJ.out hDn hun hn);have U6:=ja.mk TM;clear TM;go_wp2_with (first|(go_at_call 84;refine HCM.out.mono ?_;rintro e gK ⟨rfl,h1,h2,h3⟩;have K5:=ja.mk h1;have V4:=ja.mk (Kd.JA Js.out h2 (fun k hk e=>by have:=(IJ.out k e).2;have:=LJ.out;omega));have xao:=ja.mk (wg HQ.out h2 (fun e=>by have:=(IJ.out _ e).2;have:=EZ.out;omega));have cad:=ja.mk (Nat.le_trans WA.out h2.1);clear h1 h2 h3 hsc YD k1 Lr))
           have CE:=ja.mk (K5.out.Qp (Q:=jq P' x s (u + 1)) (fun a b=>by
            unfold jq;have h1:=HMD.out
            constructor
            ·rintro ((h|⟨h2,h3,h4,h5⟩)|⟨rfl,rfl⟩)
             ·exact Or.inl h
             ·exact Or.inr ⟨h2,h3,by omega,h5⟩
             ·exact Or.inr ⟨by omega,by omega,by omega,U6.out⟩
            ·rintro (h|⟨h2,h3,h4,h5⟩)
             ·exact Or.inl (Or.inl h)
             ·by_cases e:b=u
              ·exact Or.inr ⟨by omega,e⟩
              ·exact Or.inl (Or.inr ⟨h2,h3,by omega,h5⟩)))
           go_roundg (n - (u + 1))
           case measure=>omega
           case rel=>exact ⟨u + 1,by go_num,by omega,by omega,CE,V4,xao,cad⟩
          | false =>
           rw [TM] at hsc
           have CE:=ja.mk (HI.out.Qp (Q:=jq P' x s (u + 1)) (fun a b=>by
            unfold jq
            constructor
            ·rintro (h|⟨h2,h3,h4,h5⟩)
             ·exact Or.inl h
             ·exact Or.inr ⟨h2,h3,by omega,h5⟩
            ·rintro (h|⟨h2,h3,h4,h5⟩)
             ·exact Or.inl h
             ·by_cases e:b=u
              ·subst e;rw [TM] at h5;cases h5
              ·exact Or.inr ⟨h2,h3,by omega,h5⟩))
           clear TM;go_wp2
           go_roundg (n - (u + 1))
           case measure=>omega
           case rel=>exact ⟨u + 1,by go_num,by omega,by omega,CE,Js,HQ,WA⟩
         ·have S7:decide ((u:Int) < (n:Int))=false:=decide_eq_false (by omega)
          have AE:=ja.mk (HI.out.Qp (Q:=yg P' x s) (fun a b=>by
           unfold jq yg
           constructor
           ·rintro (h|⟨h2,h3,h4,h5⟩)
            ·exact Or.inl h
            ·exact Or.inr ⟨h2,h3,h5⟩
           ·rintro (h|⟨h2,h3,h5⟩)
            ·exact Or.inl h
            ·exact Or.inr ⟨h2,h3,by have:=Zk h5;have:=FP.out;omega,h5⟩))
          clear HI;have YD:wr.cell? ⟨q7,0,none⟩=some (.slice (some aI) (Ea Ca (i:Int)).f0.length cc):=(ga HQ.out 0).trans rfl;obtain ⟨k0,k1,k2,k3,k4,k5,k6⟩:=HKC.out;replace k0:=ud k0 (Kept.Cd AE.out.bw (fun _=>False)) id;replace k1:=ud k1 (Kept.Cd AE.out.bw (fun _=>False)) id;replace k2:=ud k2 (Kept.Cd AE.out.bw (fun _=>False)) id;replace k3:=ud k3 (Kept.Cd AE.out.bw (fun _=>False)) id;replace k4:=ud k4 (Kept.Cd AE.out.bw (fun _=>False)) id;replace k5:=ud k5 (Kept.Cd AE.out.bw (fun _=>False)) id;replace k6:=ud k6 (Kept.Cd AE.out.bw (fun _=>False)) id;have p1:0 ≤ (p:Int):=by omega
          have p2:(p:Int) < ((Ea Ca (i:Int)).f0.length:Int):=by omega
          have HCB:=ja.mk (Qw WA.out);have HSB:=ja.mk (show Kd.R Kd.bool 4 wr (tE wr N5).heap.size (fun k=>N5 ≤ k) (.slice As n cs) s by rw [Mk WA.out];exact Js.out);go_wp2_with (first|(go_at_call 44;(with_reducible refine (Dc.calls kb x.f0 x.f1 x.f2 x.f3 x.f4 x.f5 x.f6 (fun k=>N5 ≤ k) (.slice As n cs) s (Em s x) (tE wr N5) wr HCB.out HSB.out Z6.out).mono ?_);rintro e nU ⟨rfl,ho,hb,hk⟩;have U4:=ja.mk ho;have Kz:=ja.mk hb;have mI:=ja.mk hk;clear ho hb hk YD k0 k1 k2 k3 k4 k5 k6));have jS:Below 0 wr nU:=⟨Kz.out.os,Kz.out.tape,Kz.out.output,mI.out.1,fun k hk=>absurd hk (Nat.not_lt_zero _)⟩;have J5:=ja.mk (AE.out.far IJ.out HW6.out LJ.out.1 mI.out jS);have EK:=U4.out;rw [Mk WA.out] at EK;have S4:=ja.mk (show Kd.R Kd.bool 4 nU N5 (fun _=>True) (.slice As n cs) (Zr (Ea Ca (i:Int)).f0 p (Eh (Ea Ca (i:Int)) (Sd (De Ca n) i))) from by rw [HXB.out];exact Kd.Td EK (fun _ _=>trivial));have ZQ:=ja.mk (wg HQ.out mI.out (by have:=LJ.out;omega));clear jS EK
          go_roundg p
          case measure=>omega
          case rel=>exact ⟨(p:Int) - 1,p,_,by first|rfl|(go_simp;done)|exact congrArg _ R6.out|go_num,by omega,by omega,Nat.le_refl _,HXT,J5,S4,⟨Nat.le_trans WA.out mI.out.1⟩,ZQ⟩
       ·have tU:=HDE.out;rw [decide_eq_false hm] at tU;have O5:=ja.mk tU
        have HI8:=ja.mk (HI.out.Qp (Q:=yg P' x s) (fun a b=>by
         unfold yg
         exact ⟨Or.inl,fun h=>h.elim id (fun h=>absurd h.1 hm)⟩))
        clear tU hm HDE HI
        go_upto_region 21 with (first|(go_at_call 73;(with_reducible refine (Ph.calls x.f0 x.f1 x.f2 x.f3 x.f4 x.f5 x.f6 false wk O5.out).mono ?_);rintro e ou ⟨rfl,hb⟩;have Vw:=ja.mk hb;clear hb YD k0 k1 k2 k3 k4 k5 k6))
        have AE:=ja.mk (HI8.out.below Vw.out);have QT:=ja.mk (Kd.Td (Kd.Kg (Kd.kf Js.out Vw.out)) (fun k hk=>hk.2.1):Kd.R Kd.bool _ ou N5 (fun k=>N5 ≤ k) _ s);have GJ:=ja.mk (Ta HQ.out Vw.out);have KJ:=ja.mk (show N5 ≤ ou.heap.size from Nat.le_trans WA.out Vw.out.size);clear HI8 Js HQ Vw iS p1 p2 WA;have Js:=QT;have HQ:=GJ;have WA:=KJ;clear QT GJ KJ;have YD:ou.cell? ⟨q7,0,none⟩=some (.slice (some aI) (Ea Ca (i:Int)).f0.length cc):=(ga HQ.out 0).trans rfl;obtain ⟨k0,k1,k2,k3,k4,k5,k6⟩:=HKC.out;replace k0:=ud k0 (Kept.Cd AE.out.bw (fun _=>False)) id;replace k1:=ud k1 (Kept.Cd AE.out.bw (fun _=>False)) id;replace k2:=ud k2 (Kept.Cd AE.out.bw (fun _=>False)) id;replace k3:=ud k3 (Kept.Cd AE.out.bw (fun _=>False)) id;replace k4:=ud k4 (Kept.Cd AE.out.bw (fun _=>False)) id;replace k5:=ud k5 (Kept.Cd AE.out.bw (fun _=>False)) id;replace k6:=ud k6 (Kept.Cd AE.out.bw (fun _=>False)) id;have p1:0 ≤ (p:Int):=by omega
        have p2:(p:Int) < ((Ea Ca (i:Int)).f0.length:Int):=by omega
        have HCB:=ja.mk (Qw WA.out);have HSB:=ja.mk (show Kd.R Kd.bool 4 ou (tE ou N5).heap.size (fun k=>N5 ≤ k) (.slice As n cs) s by rw [Mk WA.out];exact Js.out);go_wp2_with (first|(go_at_call 44;(with_reducible refine (Dc.calls kb x.f0 x.f1 x.f2 x.f3 x.f4 x.f5 x.f6 (fun k=>N5 ≤ k) (.slice As n cs) s (Em s x) (tE ou N5) ou HCB.out HSB.out Z6.out).mono ?_);rintro e nU ⟨rfl,ho,hb,hk⟩;have U4:=ja.mk ho;have Kz:=ja.mk hb;have mI:=ja.mk hk;clear ho hb hk YD k0 k1 k2 k3 k4 k5 k6));have jS:Below 0 ou nU:=⟨Kz.out.os,Kz.out.tape,Kz.out.output,mI.out.1,fun k hk=>absurd hk (Nat.not_lt_zero _)⟩;have J5:=ja.mk (AE.out.far IJ.out HW6.out LJ.out.1 mI.out jS);have EK:=U4.out;rw [Mk WA.out] at EK;have S4:=ja.mk (show Kd.R Kd.bool 4 nU N5 (fun _=>True) (.slice As n cs) (Zr (Ea Ca (i:Int)).f0 p (Eh (Ea Ca (i:Int)) (Sd (De Ca n) i))) from by rw [HXB.out];exact Kd.Td EK (fun _ _=>trivial));have ZQ:=ja.mk (wg HQ.out mI.out (by have:=LJ.out;omega));clear jS EK
        go_roundg p
        case measure=>omega
        case rel=>exact ⟨(p:Int) - 1,p,_,by first|rfl|(go_simp;done)|exact congrArg _ R6.out|go_num,by omega,by omega,Nat.le_refl _,HXT,J5,S4,⟨Nat.le_trans WA.out mI.out.1⟩,ZQ⟩
      ·have iS:decide (z ≥ 0)=false:=decide_eq_false (by omega);obtain rfl:q=0:=by omega
       have BS:=JP.out;rw [List.take_zero,List.reverse_nil,show Pp yg [] (Zr (Ea Ca (i:Int)).f0 0 (Eh (Ea Ca (i:Int)) (Sd (De Ca n) i))) P' = P' from rfl] at BS;have HFZ:=ja.mk BS;have HSZ:=ja.mk (Kd.Td (Kd.Kg Js.out) (fun k hk=>hk.2.1):Kd.R Kd.bool _ wr N5 (fun k=>N5 ≤ k) _ _);have FP:=ja.mk (show (Zr (Ea Ca (i:Int)).f0 0 (Eh (Ea Ca (i:Int)) (Sd (De Ca n) i))).length=n by rw [Qv,Uk];exact xU.out);have X4:=ja.mk (show i=0→(Zr (Ea Ca (i:Int)).f0 0 (Eh (Ea Ca (i:Int)) (Sd (De Ca n) i)))=fD Ca n from fun e=>by subst e;rw [ED,qx hlt];rfl);clear BS JP Js;generalize (Zr (Ea Ca (i:Int)).f0 0 (Eh (Ea Ca (i:Int)) (Sd (De Ca n) i)))=s at HSZ FP X4;obtain ⟨wk,rfl⟩:∃ wk,wk=wr:=⟨_,rfl⟩;have oad:=ja.mk (HI.out.Qp (Q:=fun a b=>P' a b ∨ (i=0∧a < 0∧b < a∧seen s a=true∧seen s b=true)) (fun a b=>Iff.intro Or.inl (fun h=>h.elim id (fun h=>absurd h.2.1 (Nat.not_lt_zero _)))));clear HI HQ WA xU;go_wp2
       go_loopg [11] n (fun g8 v11 wr=>∃ (u:Nat),v11 = .int .i64 u∧u ≤ n∧n - u ≤ g8∧ja (EI w w6 (WD Wa Oa.length Ya Ja Fa n (some ag) Ca.length Cb) n PB v (fun a b=>P' a b ∨ (i=0∧a < u∧b < a∧seen s a=true∧seen s b=true)) wr)∧ja (Kd.R Kd.bool 4 wr N5 (fun k=>N5 ≤ k) (.slice As n cs) s))
       case atStart=>exact ⟨0,rfl,Nat.zero_le _,by omega,oad,HSZ⟩
       case round =>
        clear oad HSZ iS;(try clear HI);(try clear Js);obtain ⟨u,rfl,hu,hg8,HI,Js⟩:=hrel;have Lr:wr.cell? ⟨w.heap.size,3,none⟩=some (.int .i64 (n:Int)):=(ga HI.out.hx 3).trans rfl
        by_cases yI:u < n∧i=0
        ·obtain ⟨hun,VY⟩:=yI;have S7:decide ((u:Int) < (n:Int))=true:=decide_eq_true (by omega);have M8:((i:Int) == 0)=true:=by rw [beq_iff_eq];omega
         have HI0:=ja.mk VY;clear VY;have u1:0 ≤ (u:Int):=by omega
         have u2:(u:Int) < (n:Int):=by omega
         obtain ⟨wo,rfl⟩:∃ wo,wo=wr:=⟨_,rfl⟩;have nad:=ja.mk (HI.out.Qp (Q:=fun a b=>(P' a b ∨ (i=0∧a < u∧b < a∧seen s a=true∧seen s b=true)) ∨ (a=u∧b < 0∧seen s a=true∧seen s b=true)) (fun a b=>Iff.intro Or.inl (fun h=>h.elim id (fun h=>absurd h.2.1 (Nat.not_lt_zero _)))))
         go_upto_region 26 with (fail)
         clear Lr
         go_loopg [12] u (fun g9 v12 wr=>∃ (t:Nat),v12 = .int .i64 t∧t ≤ u∧u - t ≤ g9∧ja (EI w w6 (WD Wa Oa.length Ya Ja Fa n (some ag) Ca.length Cb) n PB v (fun a b=>(P' a b ∨ (i=0∧a < u∧b < a∧seen s a=true∧seen s b=true)) ∨ (a=u∧b < t∧seen s a=true∧seen s b=true)) wr)∧ja (Kd.R Kd.bool 4 wr N5 (fun k=>N5 ≤ k) (.slice As n cs) s))
         case atStart=>exact ⟨0,rfl,Nat.zero_le _,by omega,nad,Js⟩
         case round =>
          clear nad Js HI S7 M8;(try clear HI);(try clear Js);obtain ⟨t,rfl,ht,hg9,HI,Js⟩:=hrel
          by_cases htu:t < u
          ·have htb:decide ((t:Int) < (u:Int))=true:=decide_eq_true (by omega);have t1:0 ≤ (t:Int):=by omega
           have t2:(t:Int) < (n:Int):=by omega
           have sU:=(Kd.Wc Js.out).2.2;obtain ⟨aS,e7,hsc⟩:=xx sU (show u < s.length by rw [FP.out];exact hun);obtain ⟨aS2,e8,hsd⟩:=xx sU (show t < s.length by rw [FP.out];omega);subst e7;obtain rfl:aS=aS2:=Option.some.inj e8;clear sU e8
           by_cases hbo:seen s u=true∧seen s t=true
           ·obtain ⟨hs1,rU⟩:=hbo;rw [hs1] at hsc;rw [rU] at hsd;have HCM:=ja.mk (HI.out.call IJ.out hun (show t < n by omega) hn);have U6:=ja.mk (And.intro hs1 rU);clear hs1 rU;go_wp2_with (first|(go_at_call 84;refine HCM.out.mono ?_;rintro e gK ⟨rfl,h1,h2,h3⟩;have K5:=ja.mk h1;have V4:=ja.mk (Kd.JA Js.out h2 (fun k hk e=>by have:=(IJ.out k e).2;have:=LJ.out;omega));clear h1 h2 h3 hsc hsd))
            have CE:=ja.mk (K5.out.Qp (Q:=fun a b=>(P' a b ∨ (i=0∧a < u∧b < a∧seen s a=true∧seen s b=true)) ∨ (a=u∧b < t + 1∧seen s a=true∧seen s b=true)) (fun a b=>by
             constructor
             ·rintro ((h|⟨h2,h3,h4,h5⟩)|⟨rfl,rfl⟩)
              ·exact Or.inl h
              ·exact Or.inr ⟨h2,by omega,h4,h5⟩
              ·exact Or.inr ⟨rfl,by omega,U6.out.1,U6.out.2⟩
             ·rintro (h|⟨h2,h3,h4,h5⟩)
              ·exact Or.inl (Or.inl h)
              ·by_cases e:b=t
               ·exact Or.inr ⟨h2,e⟩
               ·exact Or.inl (Or.inr ⟨h2,by omega,h4,h5⟩)))
            go_roundg (u - (t + 1))
            case measure=>omega
            case rel=>exact ⟨t + 1,by go_num,by omega,by omega,CE,V4⟩
           ·have CE:=ja.mk (HI.out.Qp (Q:=fun a b=>(P' a b ∨ (i=0∧a < u∧b < a∧seen s a=true∧seen s b=true)) ∨ (a=u∧b < t + 1∧seen s a=true∧seen s b=true)) (fun a b=>by
             constructor
             ·rintro (h|⟨h2,h3,h4,h5⟩)
              ·exact Or.inl h
              ·exact Or.inr ⟨h2,by omega,h4,h5⟩
             ·rintro (h|⟨h2,h3,h4,h5⟩)
              ·exact Or.inl h
              ·by_cases e:b=t
               ·subst e;subst h2;exact absurd ⟨h4,h5⟩ hbo
               ·exact Or.inr ⟨h2,by omega,h4,h5⟩))
            have HBO:=ja.mk hbo;clear hbo HI;cases hs1:seen s u with
            | false =>
             rw [hs1] at hsc;clear hs1;go_wp2
             go_roundg (u - (t + 1))
             case measure=>omega
             case rel=>exact ⟨t + 1,by go_num,by omega,by omega,CE,Js⟩
            | true =>
             have rU:seen s t=false:=by
              cases h:seen s t with
              | false=>rfl
              | true=>exact absurd ⟨hs1,h⟩ HBO.out
             rw [hs1] at hsc;rw [rU] at hsd;clear hs1 rU;go_wp2
             go_roundg (u - (t + 1))
             case measure=>omega
             case rel=>exact ⟨t + 1,by go_num,by omega,by omega,CE,Js⟩
          ·have htb:decide ((t:Int) < (u:Int))=false:=decide_eq_false (by omega);obtain rfl:u=t:=by omega
           have CE:=ja.mk (HI.out.Qp (Q:=fun a b=>P' a b ∨ (i=0∧a < u + 1∧b < a∧seen s a=true∧seen s b=true)) (fun a b=>by
            constructor
            ·rintro ((h|⟨h2,h3,h4⟩)|⟨h2,h3,h4⟩)
             ·exact Or.inl h
             ·exact Or.inr ⟨h2,by omega,h4⟩
             ·exact Or.inr ⟨HI0.out,by omega,by omega,h4⟩
            ·rintro (h|⟨h2,h3,h4,h5⟩)
             ·exact Or.inl (Or.inl h)
             ·by_cases e:a=u
              ·exact Or.inr ⟨e,by omega,h5⟩
              ·exact Or.inl (Or.inr ⟨h2,by omega,h4,h5⟩)))
           clear HI;go_wp2
           go_roundg (n - (u + 1))
           case measure=>omega
           case rel=>exact ⟨u + 1,by go_num,by omega,by omega,CE,Js⟩
        ·have OJ:=ja.mk (show ∀ a b,(Eg yg Ca (De Ca n) (i + 1) (fun a b=>P' a b ∨ (i=0∧a < u∧b < a∧seen s a=true∧seen s b=true)) a b ∨ (i + 1=0∧b < a∧seen (fD Ca n) a=true∧seen (fD Ca n) b=true)) ↔ j7 a b from fun a b=>by
          rw [← nY.out a b,UH Ca (De Ca n) (Ca.length - (i + 1)) (i + 1) P' (fun a b=>i=0∧a < u∧b < a∧seen s a=true∧seen s b=true) a b (by omega),HFZ.out,← qn yg hlt]
          constructor
          ·rintro ((h|⟨h1,h2,h3⟩)|h)
           ·exact Or.inl h
           ·exact Or.inr ⟨h1,by rw [← X4.out h1];exact h3⟩
           ·exact absurd h.1 (Nat.succ_ne_zero _)
          ·rintro (h|⟨h1,h3⟩)
           ·exact Or.inl (Or.inl h)
           ·rw [← X4.out h1] at h3;have hl:=Zk h3.2.1;rw [FP.out] at hl
            exact Or.inl (Or.inr ⟨h1,by omega,h3⟩))
         have HGO:=ja.mk yI;clear yI
         by_cases hun:u < n
         ·have S7:decide ((u:Int) < (n:Int))=true:=decide_eq_true (by omega);have M8:((i:Int) == 0)=false:=by rw [beq_eq_false_iff_ne];intro e;exact HGO.out ⟨hun,by omega⟩
          go_wp2
          go_roundg (Ca.length - (i + 1))
          case measure=>omega
          case rel=>exact ⟨i + 1,_,by go_num,by omega,by omega,OJ,HI⟩
         ·have S7:decide ((u:Int) < (n:Int))=false:=decide_eq_false (by omega);go_wp2
          go_roundg (Ca.length - (i + 1))
          case measure=>omega
          case rel=>exact ⟨i + 1,_,by go_num,by omega,by omega,OJ,HI⟩
    ·have Zv:decide ((i:Int) < (Ca.length:Int))=false:=decide_eq_false (by omega);obtain rfl:i=Ca.length:=by omega
     have OJ:=ja.mk (show Kd.S (Kd.slice 4 Kd.bool) 60 wr w.heap.size (fun _=>True) v (Rl Ca n) from by
      obtain ⟨T,t1,t2⟩:=HI.out.t
      have he:T=Rl Ca n:=t2.ext (bp Ca n) (fun a b hab=>by
       have hP:∀ a b,P a b ↔ j7 a b:=fun a b=>by
        have h:=nY.out a b;rw [Po] at h;exact ⟨fun hp=>h.1 (Or.inl hp),fun hf=>(h.2 hf).elim id (fun e=>by have:=e.1;omega)⟩
       rw [hP,hP,Jao.out];unfold XC
       constructor
       ·rintro ((h|h)|(h|h))
        ·exact Or.inl (Or.inl h)
        ·exact Or.inl (Or.inr h.2)
        ·exact Or.inr (Or.inl h)
        ·exact Or.inr (Or.inr h.2)
       ·rintro ((h|h)|(h|h))
        ·exact Or.inl (Or.inl h)
        ·rcases Nat.lt_or_ge b a with e|e
         ·exact Or.inl (Or.inr ⟨e,h⟩)
         ·exact Or.inr (Or.inr ⟨by omega,h.2,h.1⟩)
        ·exact Or.inr (Or.inl h)
        ·rcases Nat.lt_or_ge b a with e|e
         ·exact Or.inl (Or.inr ⟨e,h.2,h.1⟩)
         ·exact Or.inr (Or.inr ⟨by omega,h⟩))
      rw [← he]
      exact Kd.ej t1 (fun _ _=>trivial))
     have hone:v.oneCell' = true:=by obtain ⟨A,c,rfl⟩:=Kd.ei OJ.out;rfl
     go_wp2;go_ret;exact ⟨_,rfl,OJ.out,HI.out.bw⟩
end Go.Proofs.Ytkigbdceceeenaa.P
end
