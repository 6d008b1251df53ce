import Derived.Test.YtmifdccaajngcaaQKnown1
import Derived.Test.YtmifdccaajngcaaQKnown4
import Derived.Test.YtmifdccaajngcaaQKnown5
import Derived.Shelf.Abstract
import Derived.Outline
import Derived.RegionTactic
import Derived.Deep.QuietTactic
import Derived.BigQuiet
section
namespace Go.Proofs.Ytmifdccaajngcaa.P
open Go.RowKit Go.Proofs.Na.mc Go.Proofs.Na.jf Go.Proofs.Na.xg
set_option linter.unusedVariables false
set_option linter.unusedSimpArgs false
attribute [local go_sem] Hj Fj Rk Qk Li Ki Gj Ej
def Xc.l0:Nat→List (Lj)→Int→List (Bf)→Int→List Int→Int→Int→Int→List (gh)→Option ((List (Lj)) × Int)
 | 0,_,_,_,_,_,_,_,_,_=>none
 | k + 1,x6,x7,x8,x9,x102000,ke,x102002,x102003,x102004=>if x9 < (x8.length:Int) then (if 0 ≤ x9 then ((jc.f k ((Ja x8 x9).f0) ((Ja x8 x9).f1) ((Ja x8 x9).f2) ((Ja x8 x9).f3) ((Ja x8 x9).f4) ((Ja x8 x9).f5) ((Ja x8 x9).f6) x6 x7).bind fun Hz=>(Xc.l0 k Hz.2 Hz.1 x8 (wrap64 (x9 + 1)) x102000 ke x102002 x102003 x102004)) else (none)) else (some (x6,wrap64 (x7 - x102003)))
def Xc.f (k:Nat) (Ta:List Int) (Ma:Int) (Oa:Int) (Pa:Int) (Sa:List (gh)) (a1:Int):Option ((List (Lj)) × Int):=(Jc.f k Pa).bind fun t102=>(if 0 ≤ a1 then (if a1 < (Sa.length:Int) then (Xc.l0 k t102 Pa ((Xa Sa a1).f0) 0 Ta Ma Oa Pa Sa) else (none)) else (none))
theorem Xc.Sd:∀ k,(∀ y0 y1 y2 y3 y4 y5 y6 y7 y8,Lb (Xc.l0 k y0 y1 y2 y3 y4 y5 y6 y7 y8) (Xc.l0 (k + 1) y0 y1 y2 y3 y4 y5 y6 y7 y8))
 | 0=>fun _ _ _ _ _ _ _ _ _ r h=>by simp [Xc.l0] at h
 | k + 1=>by
  have Ff:=Xc.Sd k
  ·intro y0 y1 y2 y3 y4 y5 y6 y7 y8
   unfold Xc.l0
   repeat' first
   | (with_reducible exact Ff _ _ _ _ _ _ _ _ _)
   | (with_reducible exact Jc.mono _ _)
   | (with_reducible exact jc.mono _ _ _ _ _ _ _ _ _ _)
   | (with_reducible exact Lb.refl _)
   | (with_reducible exact Lb.none _)
   | (with_reducible refine Lb.ite ?_ ?_)
   | (with_reducible refine Lb.bind ?_ (fun _=>?_))
   | exact Ff _ _ _ _ _ _ _ _ _
   | exact Jc.mono _ _
   | exact jc.mono _ _ _ _ _ _ _ _ _ _
   | exact Lb.none _
   | refine Lb.ite ?_ ?_
   | refine Lb.bind ?_ (fun _=>?_)
theorem Xc.mono:∀ a0 a1 a2 a3 a4 a5 k,Lb (Xc.f k a0 a1 a2 a3 a4 a5) (Xc.f (k + 1) a0 a1 a2 a3 a4 a5):=by
 intro a0 a1 a2 a3 a4 a5 k
 have Ff:=Xc.Sd k
 unfold Xc.f
 repeat' first
   | (with_reducible exact Ff _ _ _ _ _ _ _ _ _)
   | (with_reducible exact Jc.mono _ _)
   | (with_reducible exact jc.mono _ _ _ _ _ _ _ _ _ _)
   | (with_reducible exact Lb.refl _)
   | (with_reducible exact Lb.none _)
   | (with_reducible refine Lb.ite ?_ ?_)
   | (with_reducible refine Lb.bind ?_ (fun _=>?_))
   | exact Ff _ _ _ _ _ _ _ _ _
   | exact Jc.mono _ _
   | exact jc.mono _ _ _ _ _ _ _ _ _ _
   | exact Lb.none _
   | refine Lb.ite ?_ ?_
   | refine Lb.bind ?_ (fun _=>?_)
set_option maxHeartbeats 8000000 in
set_option maxRecDepth 100000 in
theorem Xc.calls (k:Nat) (Cb:Option Addr) (Bb:Nat) (Ta:List Int) (Ma:Int) (Oa:Int) (Pa:Int) (yc:Option Addr) (Xb:Nat) (Sa:List (gh)) (a1:Int) (r1:List (Lj)) (r2:Int) (w:World) (Rf:Kd.C (Kd.int .i64) w Cb Ta.length Ta) (Pf:Ta.length ≤ Bb) (Bg:Kd.C Wo w yc Sa.length Sa) (Eg:Sa.length ≤ Xb) (h:Xc.f k Ta Ma Oa Pa Sa a1=some (r1,r2)) :
  Calls Try.prog 55 #[.agg #[.slice Cb Ta.length Bb,.int .i64 Ma,.int .i64 Oa,.int .i64 Pa,.slice yc Sa.length Xb],.int .i64 a1] w fun e w'=>∃ v0_:Value,e = .returned (.tuple #[v0_,.int .i64 r2])∧Kd.R Jl 77 w' w.heap.size (fun _=>True) v0_ r1∧Below w.heap.size w w':=by
 have ZB:=Try.underlying30
 have YB:=Try.underlying70
 have ig:=ja.mk Rf
 have mg:=ja.mk Pf
 clear Rf Pf
 have oh:=ja.mk Bg
 have qj:=ja.mk Eg
 clear Bg Eg
 have HB:=ja.mk (Below.refl w.heap.size w)
 have H:((Jc.f k Pa).bind fun t102=>(if 0 ≤ a1 then (if a1 < (Sa.length:Int) then (Xc.l0 k t102 Pa ((Xa Sa a1).f0) 0 Ta Ma Oa Pa Sa) else (none)) else (none)))=some (r1,r2):=h
 clear h
 replace H:=Option.bind_eq_some_iff.mp H
 obtain ⟨t102,Pv,H⟩:=H
 replace H:(if 0 ≤ a1 then (if a1 < (Sa.length:Int) then (Xc.l0 k t102 Pa ((Xa Sa a1).f0) 0 Ta Ma Oa Pa Sa) else (none)) else (none))=some (r1,r2):=H
 have A3:=ja.mk Pv
 clear Pv
 by_cases c4:0 ≤ a1
 ·rw [if_pos c4] at H
  have Gi:decide (0 ≤ a1)=true:=decide_eq_true c4
  clear c4
  by_cases c5:a1 < (Sa.length:Int)
  ·rw [if_pos c5] at H
   have Il:decide (a1 < (Sa.length:Int))=true:=decide_eq_true c5
   clear c5
   have H':=ja.mk H
   clear H
   go_enter Try.func55,Try.ntmps55
   go_wp2_with (first|((with_reducible refine Kb (N:=2) rfl ?_);refine Eb ?hg (N:=2) ?hd (cs:=#[.slice Cb Ta.length Bb,.int .i64 Ma,.int .i64 Oa,.int .i64 Pa,.slice yc Sa.length Xb]) (t:=30) ?hr ?_;(case hd=>rfl);(case hg=>rfl);(case hr=>first|(go_simp;done)|(go_simp;rfl));intro Ea hg w6 Tb hb;have Gb:=ja.mk (Qa (by repeat (first|(with_reducible first|exact HB.out|apply qa|apply ia|apply ua)|exact HB.out)) hb);have Vb:=ja.mk (Tb);have Ac:=ja.mk ((by rw [hg];exact (Ra (by repeat (first|(with_reducible first|exact HB.out|apply qa|apply ia|apply ua)|exact HB.out))):w.heap.size ≤ Ea));have ud:=ja.mk ((by rw [hg];exact (Ra (by repeat (first|(with_reducible first|exact HB.out|apply qa|apply ia|apply ua)|exact HB.out))):w.heap.size ≤ Ea));clear HB;have HB:=Gb;have za:=Vb;have Be:=Ac;have Wa:=ud;clear Gb Vb Ac ud;clear hb Tb hg;have Tp:w6.cell? ⟨Ea,0,none⟩=some (.slice Cb Ta.length Bb):=(ga za.out 0).trans rfl;have Sp:w6.cell? ⟨Ea,1,none⟩=some (.int .i64 Ma):=(ga za.out 1).trans rfl;have Rp:w6.cell? ⟨Ea,2,none⟩=some (.int .i64 Oa):=(ga za.out 2).trans rfl;have Qp:w6.cell? ⟨Ea,3,none⟩=some (.int .i64 Pa):=(ga za.out 3).trans rfl;have Pp:w6.cell? ⟨Ea,4,none⟩=some (.slice yc Sa.length Xb):=(ga za.out 4).trans rfl;have Dp:=aa za.out 0;have Cp:=aa za.out 1;have Bp:=aa za.out 2;have Ap:=aa za.out 3;have zp:=aa za.out 4)|(go_at_call 76;(with_reducible refine (Jc.calls k Pa t102 _ A3.out).mono ?_);rintro e w8 ⟨iJ,rfl,Zm,hb⟩;have Gb:=ja.mk (Kd.zi Zm (Ra (by repeat (first|(with_reducible first|exact HB.out|apply qa|apply ia|apply ua|refine Aa ?_ Wa.out)|exact HB.out))));have Vb:=ja.mk (gb (g:=Ea) (o:=.cells #[.slice Cb Ta.length Bb,.int .i64 Ma,.int .i64 Oa,.int .i64 Pa,.slice yc Sa.length Xb] 30 (0,0)) (by (with_reducible repeat (first|refine Da ?_ _|refine Ga ?_|refine Ca ?_ _));exact za.out) hb);have Ac:=ja.mk (Qa (by repeat (first|(with_reducible first|exact HB.out|apply qa|apply ia|apply ua|refine Aa ?_ Wa.out)|exact HB.out)) hb);clear za;clear HB;have lq:=Gb;have za:=Vb;have HB:=Ac;clear Gb Vb Ac;(try clear hb);(try clear hb2);(try clear hk);(try clear hi);(try clear Zm);have Mo:w8.cell? ⟨Ea,0,none⟩=some (.slice Cb Ta.length Bb):=(ga za.out 0).trans rfl;have Lo:w8.cell? ⟨Ea,1,none⟩=some (.int .i64 Ma):=(ga za.out 1).trans rfl;have Ko:w8.cell? ⟨Ea,2,none⟩=some (.int .i64 Oa):=(ga za.out 2).trans rfl;have Jo:w8.cell? ⟨Ea,3,none⟩=some (.int .i64 Pa):=(ga za.out 3).trans rfl;have Io:w8.cell? ⟨Ea,4,none⟩=some (.slice yc Sa.length Xb):=(ga za.out 4).trans rfl;have Ho:=aa za.out 0;have Fo:=aa za.out 1;have Eo:=aa za.out 2;have Co:=aa za.out 3;have Bo:=aa za.out 4;have Wh:0 ≤ (a1:Int):=of_decide_eq_true (by first|(with_reducible assumption)|assumption);have Vh:a1 < (Sa.length:Int):=of_decide_eq_true (by first|(with_reducible assumption)|assumption);obtain ⟨Th,gj,cj,Ln,qe,Ge,Fe,Ee,De,Rg,Sg⟩:=cg oh.out a1 Wh Vh;cases Ln;replace qe:=(HB.out.cell (World.block_lt_of_cell? w _ qe)).trans qe;replace Ge:=(HB.out.cell (World.block_lt_of_cell? w _ Ge)).trans Ge;replace Fe:=(HB.out.cell (World.block_lt_of_cell? w _ Fe)).trans Fe;replace Ee:=(HB.out.cell (World.block_lt_of_cell? w _ Ee)).trans Ee;replace De:=(HB.out.cell (World.block_lt_of_cell? w _ De)).trans De;have Wl:=ja.mk Sg;have Bn:=ja.mk Rg;clear Sg Rg;replace Wh:=eq_true Wh;replace Vh:=eq_true Vh))
   repeat (go_quiet (first|((with_reducible refine Kb (N:=2) rfl ?_);refine Eb ?hg (N:=2) ?hd (cs:=#[.slice Cb Ta.length Bb,.int .i64 Ma,.int .i64 Oa,.int .i64 Pa,.slice yc Sa.length Xb]) (t:=30) ?hr ?_;(case hd=>rfl);(case hg=>rfl);(case hr=>first|(go_simp;done)|(go_simp;rfl));intro Ea hg w6 Tb hb;have Gb:=ja.mk (Qa (by repeat (first|(with_reducible first|exact HB.out|apply qa|apply ia|apply ua)|exact HB.out)) hb);have Vb:=ja.mk (Tb);have Ac:=ja.mk ((by rw [hg];exact (Ra (by repeat (first|(with_reducible first|exact HB.out|apply qa|apply ia|apply ua)|exact HB.out))):w.heap.size ≤ Ea));have ud:=ja.mk ((by rw [hg];exact (Ra (by repeat (first|(with_reducible first|exact HB.out|apply qa|apply ia|apply ua)|exact HB.out))):w.heap.size ≤ Ea));clear HB;have HB:=Gb;have za:=Vb;have Be:=Ac;have Wa:=ud;clear Gb Vb Ac ud;clear hb Tb hg;have Tp:w6.cell? ⟨Ea,0,none⟩=some (.slice Cb Ta.length Bb):=(ga za.out 0).trans rfl;have Sp:w6.cell? ⟨Ea,1,none⟩=some (.int .i64 Ma):=(ga za.out 1).trans rfl;have Rp:w6.cell? ⟨Ea,2,none⟩=some (.int .i64 Oa):=(ga za.out 2).trans rfl;have Qp:w6.cell? ⟨Ea,3,none⟩=some (.int .i64 Pa):=(ga za.out 3).trans rfl;have Pp:w6.cell? ⟨Ea,4,none⟩=some (.slice yc Sa.length Xb):=(ga za.out 4).trans rfl;have Dp:=aa za.out 0;have Cp:=aa za.out 1;have Bp:=aa za.out 2;have Ap:=aa za.out 3;have zp:=aa za.out 4)|(go_at_call 76;(with_reducible refine (Jc.calls k Pa t102 _ A3.out).mono ?_);rintro e w8 ⟨iJ,rfl,Zm,hb⟩;have Gb:=ja.mk (Kd.zi Zm (Ra (by repeat (first|(with_reducible first|exact HB.out|apply qa|apply ia|apply ua|refine Aa ?_ Wa.out)|exact HB.out))));have Vb:=ja.mk (gb (g:=Ea) (o:=.cells #[.slice Cb Ta.length Bb,.int .i64 Ma,.int .i64 Oa,.int .i64 Pa,.slice yc Sa.length Xb] 30 (0,0)) (by (with_reducible repeat (first|refine Da ?_ _|refine Ga ?_|refine Ca ?_ _));exact za.out) hb);have Ac:=ja.mk (Qa (by repeat (first|(with_reducible first|exact HB.out|apply qa|apply ia|apply ua|refine Aa ?_ Wa.out)|exact HB.out)) hb);clear za;clear HB;have lq:=Gb;have za:=Vb;have HB:=Ac;clear Gb Vb Ac;(try clear hb);(try clear hb2);(try clear hk);(try clear hi);(try clear Zm);have Mo:w8.cell? ⟨Ea,0,none⟩=some (.slice Cb Ta.length Bb):=(ga za.out 0).trans rfl;have Lo:w8.cell? ⟨Ea,1,none⟩=some (.int .i64 Ma):=(ga za.out 1).trans rfl;have Ko:w8.cell? ⟨Ea,2,none⟩=some (.int .i64 Oa):=(ga za.out 2).trans rfl;have Jo:w8.cell? ⟨Ea,3,none⟩=some (.int .i64 Pa):=(ga za.out 3).trans rfl;have Io:w8.cell? ⟨Ea,4,none⟩=some (.slice yc Sa.length Xb):=(ga za.out 4).trans rfl;have Ho:=aa za.out 0;have Fo:=aa za.out 1;have Eo:=aa za.out 2;have Co:=aa za.out 3;have Bo:=aa za.out 4;have Wh:0 ≤ (a1:Int):=of_decide_eq_true (by first|(with_reducible assumption)|assumption);have Vh:a1 < (Sa.length:Int):=of_decide_eq_true (by first|(with_reducible assumption)|assumption);obtain ⟨Th,gj,cj,Ln,qe,Ge,Fe,Ee,De,Rg,Sg⟩:=cg oh.out a1 Wh Vh;cases Ln;replace qe:=(HB.out.cell (World.block_lt_of_cell? w _ qe)).trans qe;replace Ge:=(HB.out.cell (World.block_lt_of_cell? w _ Ge)).trans Ge;replace Fe:=(HB.out.cell (World.block_lt_of_cell? w _ Fe)).trans Fe;replace Ee:=(HB.out.cell (World.block_lt_of_cell? w _ Ee)).trans Ee;replace De:=(HB.out.cell (World.block_lt_of_cell? w _ De)).trans De;have Wl:=ja.mk Sg;have Bn:=ja.mk Rg;clear Sg Rg;replace Wh:=eq_true Wh;replace Vh:=eq_true Vh));try go_wp2_with (first|((with_reducible refine Kb (N:=2) rfl ?_);refine Eb ?hg (N:=2) ?hd (cs:=#[.slice Cb Ta.length Bb,.int .i64 Ma,.int .i64 Oa,.int .i64 Pa,.slice yc Sa.length Xb]) (t:=30) ?hr ?_;(case hd=>rfl);(case hg=>rfl);(case hr=>first|(go_simp;done)|(go_simp;rfl));intro Ea hg w6 Tb hb;have Gb:=ja.mk (Qa (by repeat (first|(with_reducible first|exact HB.out|apply qa|apply ia|apply ua)|exact HB.out)) hb);have Vb:=ja.mk (Tb);have Ac:=ja.mk ((by rw [hg];exact (Ra (by repeat (first|(with_reducible first|exact HB.out|apply qa|apply ia|apply ua)|exact HB.out))):w.heap.size ≤ Ea));have ud:=ja.mk ((by rw [hg];exact (Ra (by repeat (first|(with_reducible first|exact HB.out|apply qa|apply ia|apply ua)|exact HB.out))):w.heap.size ≤ Ea));clear HB;have HB:=Gb;have za:=Vb;have Be:=Ac;have Wa:=ud;clear Gb Vb Ac ud;clear hb Tb hg;have Tp:w6.cell? ⟨Ea,0,none⟩=some (.slice Cb Ta.length Bb):=(ga za.out 0).trans rfl;have Sp:w6.cell? ⟨Ea,1,none⟩=some (.int .i64 Ma):=(ga za.out 1).trans rfl;have Rp:w6.cell? ⟨Ea,2,none⟩=some (.int .i64 Oa):=(ga za.out 2).trans rfl;have Qp:w6.cell? ⟨Ea,3,none⟩=some (.int .i64 Pa):=(ga za.out 3).trans rfl;have Pp:w6.cell? ⟨Ea,4,none⟩=some (.slice yc Sa.length Xb):=(ga za.out 4).trans rfl;have Dp:=aa za.out 0;have Cp:=aa za.out 1;have Bp:=aa za.out 2;have Ap:=aa za.out 3;have zp:=aa za.out 4)|(go_at_call 76;(with_reducible refine (Jc.calls k Pa t102 _ A3.out).mono ?_);rintro e w8 ⟨iJ,rfl,Zm,hb⟩;have Gb:=ja.mk (Kd.zi Zm (Ra (by repeat (first|(with_reducible first|exact HB.out|apply qa|apply ia|apply ua|refine Aa ?_ Wa.out)|exact HB.out))));have Vb:=ja.mk (gb (g:=Ea) (o:=.cells #[.slice Cb Ta.length Bb,.int .i64 Ma,.int .i64 Oa,.int .i64 Pa,.slice yc Sa.length Xb] 30 (0,0)) (by (with_reducible repeat (first|refine Da ?_ _|refine Ga ?_|refine Ca ?_ _));exact za.out) hb);have Ac:=ja.mk (Qa (by repeat (first|(with_reducible first|exact HB.out|apply qa|apply ia|apply ua|refine Aa ?_ Wa.out)|exact HB.out)) hb);clear za;clear HB;have lq:=Gb;have za:=Vb;have HB:=Ac;clear Gb Vb Ac;(try clear hb);(try clear hb2);(try clear hk);(try clear hi);(try clear Zm);have Mo:w8.cell? ⟨Ea,0,none⟩=some (.slice Cb Ta.length Bb):=(ga za.out 0).trans rfl;have Lo:w8.cell? ⟨Ea,1,none⟩=some (.int .i64 Ma):=(ga za.out 1).trans rfl;have Ko:w8.cell? ⟨Ea,2,none⟩=some (.int .i64 Oa):=(ga za.out 2).trans rfl;have Jo:w8.cell? ⟨Ea,3,none⟩=some (.int .i64 Pa):=(ga za.out 3).trans rfl;have Io:w8.cell? ⟨Ea,4,none⟩=some (.slice yc Sa.length Xb):=(ga za.out 4).trans rfl;have Ho:=aa za.out 0;have Fo:=aa za.out 1;have Eo:=aa za.out 2;have Co:=aa za.out 3;have Bo:=aa za.out 4;have Wh:0 ≤ (a1:Int):=of_decide_eq_true (by first|(with_reducible assumption)|assumption);have Vh:a1 < (Sa.length:Int):=of_decide_eq_true (by first|(with_reducible assumption)|assumption);obtain ⟨Th,gj,cj,Ln,qe,Ge,Fe,Ee,De,Rg,Sg⟩:=cg oh.out a1 Wh Vh;cases Ln;replace qe:=(HB.out.cell (World.block_lt_of_cell? w _ qe)).trans qe;replace Ge:=(HB.out.cell (World.block_lt_of_cell? w _ Ge)).trans Ge;replace Fe:=(HB.out.cell (World.block_lt_of_cell? w _ Fe)).trans Fe;replace Ee:=(HB.out.cell (World.block_lt_of_cell? w _ Ee)).trans Ee;replace De:=(HB.out.cell (World.block_lt_of_cell? w _ De)).trans De;have Wl:=ja.mk Sg;have Bn:=ja.mk Rg;clear Sg Rg;replace Wh:=eq_true Wh;replace Vh:=eq_true Vh)))
   go_loopg [7,9] k (fun kq v7 v9 w'=>∃ (Qv:List (Lj)) (iI:Int) (Mj:Int),v7 = .int .i64 iI∧v9 = .int .i64 Mj∧ja (Xc.l0 kq Qv iI ((Xa Sa a1).f0) Mj Ta Ma Oa Pa Sa=some (r1,r2))∧ja (kq ≤ k)∧ja (Kd.R Jl 77 w' w.heap.size (fun _=>True) iJ Qv)∧ja (w'.heap[Ea]? = some (.cells #[(.slice Cb Ta.length Bb),.int .i64 Ma,.int .i64 Oa,.int .i64 Pa,(.slice (some Th) Sa.length Xb)] 30 (0,0)))∧ja (Below w.heap.size w w'))
   case atStart=>exact ⟨(t102),(Pa),(0),(by first|rfl|(simp;done)|(simp [*];done)),(by first|rfl|(simp;done)|(simp [*];done)),H',⟨Nat.le_refl _⟩,⟨by (with_reducible repeat (first|apply Kd.Dc|apply Kd.Ic|apply Kd.Zc));exact lq.out⟩,⟨by (with_reducible repeat (first|refine Da ?_ _|refine Ga ?_|refine Ca ?_ _));exact za.out⟩,⟨by repeat (first|(with_reducible first|exact HB.out|apply qa|apply ia|apply ua|refine Aa ?_ Wa.out)|exact HB.out)⟩⟩
   case round =>
    clear H'
    try clear c1
    try clear p1
    try clear q1
    try clear hx1
    try clear p2
    try clear c4
    try clear Gi
    try clear c5
    try clear Il
    try clear Tp
    try clear Sp
    try clear Rp
    try clear Qp
    try clear Pp
    try clear Mo
    try clear Lo
    try clear Ko
    try clear Jo
    try clear Io
    try clear Dp
    try clear Cp
    try clear Bp
    try clear Ap
    try clear zp
    try clear Ho
    try clear Fo
    try clear Eo
    try clear Co
    try clear Bo
    try clear qe
    try clear Ge
    try clear Fe
    try clear Ee
    try clear De
    try clear Wh
    try clear Vh
    (try clear HA)
    (try clear Yg)
    (try clear Mk)
    (try clear za)
    (try clear HB)
    obtain ⟨Qv,iI,Mj,rfl,rfl,HA,Yg,Mk,za,HB⟩:=hrel
    cases gk with
    | zero=>exact absurd HA.out (by simp [Xc.l0])
    | succ k1 =>
     have H:=HA.out
     clear HA
     simp only [Xc.l0] at H
     by_cases wo:Mj < (((Xa Sa a1).f0).length:Int)
     ·rw [if_pos wo] at H
      have Eu:decide (Mj < (((Xa Sa a1).f0).length:Int))=true:=decide_eq_true wo
      clear wo
      by_cases c11:0 ≤ Mj
      ·rw [if_pos c11] at H
       have Gz:decide (0 ≤ Mj)=true:=decide_eq_true c11
       clear c11
       replace H:=Option.bind_eq_some_iff.mp H
       obtain ⟨⟨t107,t108⟩,o7,H⟩:=H
       replace H:(Xc.l0 k1 t108 t107 ((Xa Sa a1).f0) (wrap64 (Mj + 1)) Ta Ma Oa Pa Sa)=some (r1,r2):=H
       have A12:=ja.mk o7
       clear o7
       have H':=ja.mk H
       clear H
       have Zj:0 ≤ (Mj:Int):=of_decide_eq_true (by first|(with_reducible assumption)|assumption)
       have Yj:Mj < (((Xa Sa a1).f0).length:Int):=of_decide_eq_true (by first|(with_reducible assumption)|assumption)
       obtain ⟨si,Js,Af,Gf,Og,Ng,Mg,Ui,Ti⟩:=tf Wl.out Mj Zj Yj
       cases Js
       replace Af:=(HB.out.cell (World.block_lt_of_cell? w _ Af)).trans Af
       replace Gf:=(HB.out.cell (World.block_lt_of_cell? w _ Gf)).trans Gf
       replace Og:=(HB.out.cell (World.block_lt_of_cell? w _ Og)).trans Og
       replace Ng:=(HB.out.cell (World.block_lt_of_cell? w _ Ng)).trans Ng
       replace Mg:=(HB.out.cell (World.block_lt_of_cell? w _ Mg)).trans Mg
       replace Ui:=(HB.out.cell (World.block_lt_of_cell? w _ Ui)).trans Ui
       replace Ti:=(HB.out.cell (World.block_lt_of_cell? w _ Ti)).trans Ti
       replace Zj:=eq_true Zj
       replace Yj:=eq_true Yj
       obtain ⟨AE,Oo,nU⟩:=Kd.Hf Mk.out
       subst nU
       go_wp2_with (first|(go_at_call 78;(with_reducible refine (jc.calls k1 ((Ja ((Xa Sa a1).f0) Mj).f0) ((Ja ((Xa Sa a1).f0) Mj).f1) ((Ja ((Xa Sa a1).f0) Mj).f2) ((Ja ((Xa Sa a1).f0) Mj).f3) ((Ja ((Xa Sa a1).f0) Mj).f4) ((Ja ((Xa Sa a1).f0) Mj).f5) ((Ja ((Xa Sa a1).f0) Mj).f6) (fun k_=>some k_=(.slice AE Qv.length Oo:Value).ownBlock) (.slice AE Qv.length Oo) Qv iI t107 t108 w _ ?side1 ?side2 A12.out).mono ?_);(case side1=>repeat (first|(with_reducible first|exact HB.out|apply qa|apply ia|apply ua|refine Aa ?_ Wa.out)|exact HB.out));(case side2=>exact Kd.Fu rfl Mk.out);rintro e pz ⟨rfl,hy0,hb,hkp⟩;have Gb:=ja.mk (Kd.qE rfl hy0 (fun k_ e_=>Mk.out.1 k_ e_));have Vb:=ja.mk (bk (by (with_reducible repeat (first|refine Da ?_ _|refine Ga ?_|refine Ca ?_ _));exact za.out) hkp (fun hs_=>(fun e_=>(Kd.Ly Mk.out za.out (by decide)) e_) hs_));have Ac:=ja.mk (hb);clear Mk;clear za;clear HB;have Mk:=Gb;have za:=Vb;have HB:=Ac;clear Gb Vb Ac;(try clear hb);(try clear hkp);(try clear hy0)))
       repeat (go_quiet (first|(go_at_call 78;(with_reducible refine (jc.calls k1 ((Ja ((Xa Sa a1).f0) Mj).f0) ((Ja ((Xa Sa a1).f0) Mj).f1) ((Ja ((Xa Sa a1).f0) Mj).f2) ((Ja ((Xa Sa a1).f0) Mj).f3) ((Ja ((Xa Sa a1).f0) Mj).f4) ((Ja ((Xa Sa a1).f0) Mj).f5) ((Ja ((Xa Sa a1).f0) Mj).f6) (fun k_=>some k_=(.slice AE Qv.length Oo:Value).ownBlock) (.slice AE Qv.length Oo) Qv iI t107 t108 w _ ?side1 ?side2 A12.out).mono ?_);(case side1=>repeat (first|(with_reducible first|exact HB.out|apply qa|apply ia|apply ua|refine Aa ?_ Wa.out)|exact HB.out));(case side2=>exact Kd.Fu rfl Mk.out);rintro e pz ⟨rfl,hy0,hb,hkp⟩;have Gb:=ja.mk (Kd.qE rfl hy0 (fun k_ e_=>Mk.out.1 k_ e_));have Vb:=ja.mk (bk (by (with_reducible repeat (first|refine Da ?_ _|refine Ga ?_|refine Ca ?_ _));exact za.out) hkp (fun hs_=>(fun e_=>(Kd.Ly Mk.out za.out (by decide)) e_) hs_));have Ac:=ja.mk (hb);clear Mk;clear za;clear HB;have Mk:=Gb;have za:=Vb;have HB:=Ac;clear Gb Vb Ac;(try clear hb);(try clear hkp);(try clear hy0)));try go_wp2_with (first|(go_at_call 78;(with_reducible refine (jc.calls k1 ((Ja ((Xa Sa a1).f0) Mj).f0) ((Ja ((Xa Sa a1).f0) Mj).f1) ((Ja ((Xa Sa a1).f0) Mj).f2) ((Ja ((Xa Sa a1).f0) Mj).f3) ((Ja ((Xa Sa a1).f0) Mj).f4) ((Ja ((Xa Sa a1).f0) Mj).f5) ((Ja ((Xa Sa a1).f0) Mj).f6) (fun k_=>some k_=(.slice AE Qv.length Oo:Value).ownBlock) (.slice AE Qv.length Oo) Qv iI t107 t108 w _ ?side1 ?side2 A12.out).mono ?_);(case side1=>repeat (first|(with_reducible first|exact HB.out|apply qa|apply ia|apply ua|refine Aa ?_ Wa.out)|exact HB.out));(case side2=>exact Kd.Fu rfl Mk.out);rintro e pz ⟨rfl,hy0,hb,hkp⟩;have Gb:=ja.mk (Kd.qE rfl hy0 (fun k_ e_=>Mk.out.1 k_ e_));have Vb:=ja.mk (bk (by (with_reducible repeat (first|refine Da ?_ _|refine Ga ?_|refine Ca ?_ _));exact za.out) hkp (fun hs_=>(fun e_=>(Kd.Ly Mk.out za.out (by decide)) e_) hs_));have Ac:=ja.mk (hb);clear Mk;clear za;clear HB;have Mk:=Gb;have za:=Vb;have HB:=Ac;clear Gb Vb Ac;(try clear hb);(try clear hkp);(try clear hy0))))
       go_roundg k1
       case measure=>have:=Yg.out;omega
       case rel=>exact ⟨(t108),(t107),(wrap64 (Mj + 1)),(by first|rfl|(simp;done)|(simp [*];done)),(by first|rfl|(simp;done)|(simp [*];done)),H',⟨by have:=Yg.out;omega⟩,⟨by (with_reducible repeat (first|apply Kd.Dc|apply Kd.Ic|apply Kd.Zc));exact Mk.out⟩,⟨by (with_reducible repeat (first|refine Da ?_ _|refine Ga ?_|refine Ca ?_ _));exact za.out⟩,⟨by repeat (first|(with_reducible first|exact HB.out|apply qa|apply ia|apply ua|refine Aa ?_ Wa.out)|exact HB.out)⟩⟩
      ·rw [if_neg c11] at H
       exact absurd H (by simp)
     ·rw [if_neg wo] at H
      have Eu:decide (Mj < (((Xa Sa a1).f0).length:Int))=false:=decide_eq_false wo
      clear wo
      simp only [Option.some.injEq,Prod.mk.injEq] at H
      obtain ⟨rfl,rfl⟩:=H
      have Fx:wr.cell? ⟨Ea,0,none⟩=some (.slice Cb Ta.length Bb):=(ga za.out 0).trans rfl
      have Ex:wr.cell? ⟨Ea,1,none⟩=some (.int .i64 Ma):=(ga za.out 1).trans rfl
      have Dx:wr.cell? ⟨Ea,2,none⟩=some (.int .i64 Oa):=(ga za.out 2).trans rfl
      have Cx:wr.cell? ⟨Ea,3,none⟩=some (.int .i64 Pa):=(ga za.out 3).trans rfl
      have Bx:wr.cell? ⟨Ea,4,none⟩=some (.slice (some Th) Sa.length Xb):=(ga za.out 4).trans rfl
      have Ow:=aa za.out 0
      have Nw:=aa za.out 1
      have Mw:=aa za.out 2
      have Lw:=aa za.out 3
      have Kw:=aa za.out 4
      go_wp2
      repeat (go_quiet (fail);try go_wp2)
      go_ret2
      exact ⟨_,by first|rfl|(simp [La,Ka] <;> rfl)|(simp [*,La,Ka] <;> rfl),by (with_reducible repeat (first|apply Kd.Dc|apply Kd.Ic|apply Kd.Zc));exact Mk.out,by repeat (first|(with_reducible first|exact HB.out|apply qa|apply ia|apply ua|refine Aa ?_ Wa.out)|exact HB.out)⟩
  ·rw [if_neg c5] at H
   exact absurd H (by simp)
 ·rw [if_neg c4] at H
  exact absurd H (by simp)
theorem TR {W w1:World} (hb:Below W.heap.size W w1):(∀ b o,b < W.heap.size→w1.cell? ⟨b,o,none⟩=W.cell? ⟨b,o,none⟩)∧(∀ b o,b < W.heap.size→w1.frozen? ⟨b,o,none⟩=W.frozen? ⟨b,o,none⟩) :=
 ⟨fun b o h=>hb.cell (p:=⟨b,o,none⟩) h,fun b o h=>hb.frozen (p:=⟨b,o,none⟩) h⟩
theorem Cs {α:Type} {l:List α} {p:α→Bool} {k:Nat} {d:α} (hk:k < l.length) (h:(l.take k).any p=false) (hx:p (l.getD k d)=false):(l.take (k + 1)).any p=false:=by
 rw [List.take_succ_eq_append_getElem hk,List.any_append,h]
 simpa [List.getD_eq_getElem?_getD,List.getElem?_eq_getElem hk] using hx
theorem QH {α:Type} {l:List α} {p:α→Bool} {k:Nat} {d:α} (hk:k < l.length) (hx:p (l.getD k d)=true):l.any p=true:=by
 rw [List.any_eq_true]
 exact ⟨l[k],List.getElem_mem hk,by simpa [List.getD_eq_getElem?_getD,List.getElem?_eq_getElem hk] using hx⟩
set_option maxHeartbeats 4000000 in
set_option maxRecDepth 100000 in
theorem ez (g:Nat) (lb:Array Value) (p:Bf→Bool) (eg:∀ args w,(callFunc g args).run Try.prog w = .ok (.enter g args) w) (A0:Option Addr) (c0:Nat) (l0:List Bf) (w:World) (hr0:Kd.C Ij w A0 l0.length l0) (hc0:l0.length ≤ c0)
  (hp:∀ (W:World) (x:Bf),Below w.heap.size w W→Calls Try.prog g (#[(.agg #[.int .i64 x.f0,.int .i64 x.f1,.int .i64 x.f2,.int .i64 x.f3,.int .i64 x.f4,.int .i64 x.f5,.string x.f6])] ++ lb) W fun e w'=>e = .returned (.bool (p x))∧Below W.heap.size W w') :
  Calls Try.prog 124 #[.slice A0 l0.length c0,.func (.func g) #[] lb] w fun e w'=>(∃ i:Int,e = .returned (.int .i64 i)∧decide (0 ≤ i)=l0.any p)∧Below w.heap.size w w':=by
 have zV:=hr0.2.1
 have Gh:=ja.mk hr0
 have dw:=ja.mk hc0
 have HP:=ja.mk hp
 clear hr0 hc0 hp
 go_enter Try.func124,Try.ntmps124
 go_wp2
 go_loopg [5,8] l0.length (fun gg _ s8 wr=>∃ kk:Nat,kk ≤ l0.length∧l0.length - kk ≤ gg∧s8 = .int .i64 kk∧ja (Below w.heap.size w wr)∧ja ((l0.take kk).any p=false))
 case atStart=>exact ⟨0,Nat.zero_le _,by omega,rfl,⟨Below.refl _ w⟩,⟨by simp⟩⟩
 case round =>
  (try clear BW)
  (try clear HA)
  obtain ⟨kk,hkk,hg,rfl,BW,HA⟩:=hrel
  by_cases hlt:kk < l0.length
  ·have p1:0 ≤ (kk:Int):=by omega
   have q1:(kk:Int) < (l0.length:Int):=by omega
   obtain ⟨ad,e1,hx0,hx1,Oq,Nq,rq,Zz,Yv⟩:=tf Gh.out (kk:Int) p1 q1
   cases e1
   simp only [Int.toNat_natCast] at hx0 hx1 Oq Nq rq Zz Yv
   replace hx0:=(BW.out.cell (World.block_lt_of_cell? w _ hx0)).trans hx0
   replace hx1:=(BW.out.cell (World.block_lt_of_cell? w _ hx1)).trans hx1
   replace Oq:=(BW.out.cell (World.block_lt_of_cell? w _ Oq)).trans Oq
   replace Nq:=(BW.out.cell (World.block_lt_of_cell? w _ Nq)).trans Nq
   replace rq:=(BW.out.cell (World.block_lt_of_cell? w _ rq)).trans rq
   replace Zz:=(BW.out.cell (World.block_lt_of_cell? w _ Zz)).trans Zz
   replace Yv:=(BW.out.cell (World.block_lt_of_cell? w _ Yv)).trans Yv
   have hcall:=HP.out wr (Ja l0 (kk:Int)) BW.out
   cases hq:p (Ja l0 (kk:Int)) with
   | true =>
    rw [hq] at hcall
    go_wp2_with (go_at_fn g;refine hcall.mono ?_;rintro e w1 ⟨rfl,hb1⟩)
    go_ret
    exact ⟨⟨_,rfl,by rw [QH (d:=Fq) hlt hq];simp⟩,BW.out.trans (hb1.mono BW.out.size)⟩
   | false =>
    rw [hq] at hcall
    go_wp2_with (go_at_fn g;refine hcall.mono ?_;rintro e w1 ⟨rfl,hb1⟩)
    go_roundg (l0.length - (kk + 1))
    case measure=>omega
    case rel=>exact ⟨kk + 1,by omega,by omega,by go_num,⟨BW.out.trans (hb1.mono BW.out.size)⟩,⟨Cs (d:=Fq) hlt HA.out hq⟩⟩
  ·have qaf:¬ (kk:Int) < (l0.length:Int):=by omega
   have he:kk=l0.length:=by omega
   subst he
   go_wp2
   go_ret
   exact ⟨⟨_,rfl,by have h_:=HA.out;rw [List.take_length] at h_;rw [h_];simp⟩,BW.out⟩
set_option maxHeartbeats 4000000 in
theorem Ks (g:Nat) (lb:Array Value) (p:Bf→Bool) (eg:∀ args w,(callFunc g args).run Try.prog w = .ok (.enter g args) w) (A0:Option Addr) (c0:Nat) (l0:List Bf) (w:World) (hr0:Kd.C Ij w A0 l0.length l0) (hc0:l0.length ≤ c0)
  (hp:∀ (W:World) (x:Bf),Below w.heap.size w W→Calls Try.prog g (#[(.agg #[.int .i64 x.f0,.int .i64 x.f1,.int .i64 x.f2,.int .i64 x.f3,.int .i64 x.f4,.int .i64 x.f5,.string x.f6])] ++ lb) W fun e w'=>e = .returned (.bool (p x))∧Below W.heap.size W w') :
  Calls Try.prog 116 #[.slice A0 l0.length c0,.func (.func g) #[] lb] w fun e w'=>e = .returned (.bool (l0.any p))∧Below w.heap.size w w':=by
 have HI:=ja.mk (ez g lb p eg A0 c0 l0 w hr0 hc0 hp)
 clear hr0 hc0 hp
 go_enter Try.func116,Try.ntmps116
 go_wp2_with (go_at_call 124;refine HI.out.mono ?_;rintro e w1 ⟨⟨i,rfl,hi⟩,hb1⟩;have HD:=ja.mk hi;clear hi)
 go_ret
 exact ⟨by rw [← HD.out];first|rfl|simp,hb1⟩
def xb.l0:Nat→List ByteArray→ByteArray→Int→Int→Option (Int)
 | 0,_,_,_,_=>none
 | k + 1,x0,x1,x7,x8=>if x8 < x7 then (if 0 ≤ x8 then (if x8 < (x0.length:Int) then (if x1.toList=(Jk ByteArray.empty x0 x8).toList then (some x8) else (xb.l0 k x0 x1 x7 (wrap64 (x8 + 1)))) else (none)) else (none)) else (some (-1))
def xb.f (k:Nat) (l0:List ByteArray) (a1:ByteArray):Option (Int):=xb.l0 k l0 a1 (l0.length:Int) 0
theorem xb.Sd:∀ k,(∀ y0 y1 y2 y3,Lb (xb.l0 k y0 y1 y2 y3) (xb.l0 (k + 1) y0 y1 y2 y3))
 | 0=>fun _ _ _ _ r h=>by simp [xb.l0] at h
 | k + 1=>by
  have Ff:=xb.Sd k
  ·intro y0 y1 y2 y3
   unfold xb.l0
   repeat' first
   | (with_reducible exact Ff _ _ _ _)
   | (with_reducible exact Lb.refl _)
   | (with_reducible exact Lb.none _)
   | (with_reducible refine Lb.ite ?_ ?_)
   | (with_reducible refine Lb.bind ?_ (fun _=>?_))
   | exact Ff _ _ _ _
   | exact Lb.none _
   | refine Lb.ite ?_ ?_
   | refine Lb.bind ?_ (fun _=>?_)
theorem xb.mono:∀ a0 a1 k,Lb (xb.f k a0 a1) (xb.f (k + 1) a0 a1):=by
 intro a0 a1 k
 have Ff:=xb.Sd k
 unfold xb.f
 repeat' first
   | (with_reducible exact Ff _ _ _ _)
   | (with_reducible exact Lb.refl _)
   | (with_reducible exact Lb.none _)
   | (with_reducible refine Lb.ite ?_ ?_)
   | (with_reducible refine Lb.bind ?_ (fun _=>?_))
   | exact Ff _ _ _ _
   | exact Lb.none _
   | refine Lb.ite ?_ ?_
   | refine Lb.bind ?_ (fun _=>?_)
set_option maxHeartbeats 8000000 in
set_option maxRecDepth 100000 in
theorem xb.calls (k:Nat) (A0:Option Addr) (c0:Nat) (l0:List ByteArray) (a1:ByteArray) (r:Int) (w:World) (hr0:Kd.C Kd.string w A0 l0.length l0) (hc0:l0.length ≤ c0) (h:xb.f k l0 a1=some r) :
  Calls Try.prog 141 #[.slice A0 l0.length c0,.string a1] w fun e w'=>e = .returned (.int .i64 r)∧uc w w':=by
 have Gh:=ja.mk hr0
 have dw:=ja.mk hc0
 clear hr0 hc0
 have H:(xb.l0 k l0 a1 (l0.length:Int) 0)=some r:=h
 clear h
 have H':=ja.mk H
 clear H
 go_enter Try.func141,Try.ntmps141
 go_wp2
 go_loopg [8] k (fun kq v8 w'=>∃ (Qn:Int),v8 = .int .i64 Qn∧ja (xb.l0 kq l0 a1 (l0.length:Int) Qn=some r)∧ja (kq ≤ k)∧uc w w')
 case atStart=>exact ⟨(0),(by first|rfl|(simp;done)|(simp [*];done)),H',⟨Nat.le_refl _⟩,by repeat (first|exact uc.refl _|apply uc.step)⟩
 case round =>
  clear H'
  try clear c1
  try clear p2
  (try clear HA)
  (try clear Yg)
  obtain ⟨Qn,rfl,HA,Yg,⟨m1,rfl⟩⟩:=hrel
  cases gk with
  | zero=>exact absurd HA.out (by simp [xb.l0])
  | succ k1 =>
   have H:=HA.out
   clear HA
   simp only [xb.l0] at H
   by_cases c3:Qn < (l0.length:Int)
   ·rw [if_pos c3] at H
    have Zh:decide (Qn < (l0.length:Int))=true:=decide_eq_true c3
    clear c3
    by_cases c4:0 ≤ Qn
    ·rw [if_pos c4] at H
     have Gi:decide (0 ≤ Qn)=true:=decide_eq_true c4
     clear c4
     by_cases c5:Qn < (l0.length:Int)
     ·rw [if_pos c5] at H
      have Il:decide (Qn < (l0.length:Int))=true:=decide_eq_true c5
      clear c5
      by_cases c6:a1.toList=(Jk ByteArray.empty l0 Qn).toList
      ·rw [if_pos c6] at H
       have cm:(a1.toList == (Jk ByteArray.empty l0 Qn).toList)=true:=beq_iff_eq.mpr c6
       have av:(a1.toList != (Jk ByteArray.empty l0 Qn).toList)=false:=bne_eq_false_iff_eq.mpr c6
       clear c6
       obtain rfl:=Option.some.inj H
       have Je:0 ≤ (Qn:Int):=of_decide_eq_true (by first|(with_reducible assumption)|assumption)
       have Ie:Qn < (l0.length:Int):=of_decide_eq_true (by first|(with_reducible assumption)|assumption)
       obtain ⟨Gc,Tg,Ub⟩:=Kd.Jr Gh.out Qn Je Ie
       cases Tg
       replace Je:=eq_true Je
       replace Ie:=eq_true Ie
       go_wp2
       go_ret
       exact ⟨by first|rfl|(simp;done)|(simp [*];done),by repeat (first|exact uc.refl _|apply uc.step)⟩
      ·rw [if_neg c6] at H
       have cm:(a1.toList == (Jk ByteArray.empty l0 Qn).toList)=false:=beq_eq_false_iff_ne.mpr c6
       have av:(a1.toList != (Jk ByteArray.empty l0 Qn).toList)=true:=bne_iff_ne.mpr c6
       have H':=ja.mk H
       clear H
       have Je:0 ≤ (Qn:Int):=of_decide_eq_true (by first|(with_reducible assumption)|assumption)
       have Ie:Qn < (l0.length:Int):=of_decide_eq_true (by first|(with_reducible assumption)|assumption)
       obtain ⟨Gc,Tg,Ub⟩:=Kd.Jr Gh.out Qn Je Ie
       cases Tg
       replace Je:=eq_true Je
       replace Ie:=eq_true Ie
       go_wp2
       go_roundg k1
       case measure=>have:=Yg.out;omega
       case rel=>exact ⟨(wrap64 (Qn + 1)),(by first|rfl|(simp;done)|(simp [*];done)),H',⟨by have:=Yg.out;omega⟩,by repeat (first|exact uc.refl _|apply uc.step)⟩
     ·rw [if_neg c5] at H
      exact absurd H (by simp)
    ·rw [if_neg c4] at H
     exact absurd H (by simp)
   ·rw [if_neg c3] at H
    have Zh:decide (Qn < (l0.length:Int))=false:=decide_eq_false c3
    clear c3
    obtain rfl:=Option.some.inj H
    go_wp2
    go_ret
    exact ⟨by first|rfl|(simp;done)|(simp [*];done),by repeat (first|exact uc.refl _|apply uc.step)⟩
def Vc.f (k:Nat) (l0:List ByteArray) (a1:ByteArray):Option (Bool):=(xb.f k l0 a1).bind fun t101=>(some (decide (t101 ≥ 0)))
theorem Vc.mono:∀ a0 a1 k,Lb (Vc.f k a0 a1) (Vc.f (k + 1) a0 a1):=by
 intro a0 a1 k
 unfold Vc.f
 repeat' first
   | (with_reducible exact xb.mono _ _ _)
   | (with_reducible exact Lb.refl _)
   | (with_reducible exact Lb.none _)
   | (with_reducible refine Lb.ite ?_ ?_)
   | (with_reducible refine Lb.bind ?_ (fun _=>?_))
   | exact xb.mono _ _ _
   | exact Lb.none _
   | refine Lb.ite ?_ ?_
   | refine Lb.bind ?_ (fun _=>?_)
set_option maxHeartbeats 8000000 in
set_option maxRecDepth 100000 in
theorem Vc.calls (k:Nat) (A0:Option Addr) (c0:Nat) (l0:List ByteArray) (a1:ByteArray) (r:Bool) (w:World) (hr0:Kd.C Kd.string w A0 l0.length l0) (hc0:l0.length ≤ c0) (h:Vc.f k l0 a1=some r) :
  Calls Try.prog 140 #[.slice A0 l0.length c0,.string a1] w fun e w'=>e = .returned (.bool r)∧uc w w':=by
 have Gh:=ja.mk hr0
 have dw:=ja.mk hc0
 clear hr0 hc0
 have H:((xb.f k l0 a1).bind fun t101=>(some (decide (t101 ≥ 0))))=some r:=h
 clear h
 replace H:=Option.bind_eq_some_iff.mp H
 obtain ⟨t101,Pv,H⟩:=H
 replace H:(some (decide (t101 ≥ 0)))=some r:=H
 have A3:=ja.mk Pv
 clear Pv
 obtain rfl:=Option.some.inj H
 go_enter Try.func140,Try.ntmps140
 go_wp2_with (first|((with_reducible refine mb (f:=141) rfl ?_);refine yd (some 7) rfl rfl Try.func141 (by kernel_rfl) rfl #[.slice A0 l0.length c0,.string a1] rfl (by (try simp only [List.map_toArray,List.map_cons,List.map_nil]);first|done|rfl|(simp only [List.length_drop,List.length_take];rfl)) ?_;(with_reducible refine (xb.calls k _ _ l0 a1 t101 _ ?side1 ?side2 A3.out).mono ?_);(case side1=>repeat (first|exact Gh.out|(with_reducible refine Kd.Sc ?_ _)|(with_reducible refine Kd.Rc ?_ _)|(with_reducible refine Kd.Qd ?_)));(case side2=>exact dw.out);rintro e w' ⟨rfl,⟨nd,rfl⟩⟩;refine ⟨_,rfl,?_⟩))
 go_ret
 exact ⟨by first|rfl|(simp;done)|(simp [*];done),by repeat (first|exact uc.refl _|apply uc.step)⟩
def ri.f (k:Nat) (a0:ByteArray):Option (Bool):=(Vc.f k (([(⟨#[61,61]⟩:ByteArray),(⟨#[60]⟩:ByteArray),(⟨#[38]⟩:ByteArray),(⟨#[43]⟩:ByteArray),(⟨#[45]⟩:ByteArray),(⟨#[42]⟩:ByteArray)]:List ByteArray)) a0).bind fun t104=>(some t104)
theorem ri.mono:∀ a0 k,Lb (ri.f k a0) (ri.f (k + 1) a0):=by
 intro a0 k
 unfold ri.f
 repeat' first
   | (with_reducible exact Vc.mono _ _ _)
   | (with_reducible exact Lb.refl _)
   | (with_reducible exact Lb.none _)
   | (with_reducible refine Lb.ite ?_ ?_)
   | (with_reducible refine Lb.bind ?_ (fun _=>?_))
   | exact Vc.mono _ _ _
   | exact Lb.none _
   | refine Lb.ite ?_ ?_
   | refine Lb.bind ?_ (fun _=>?_)
set_option maxHeartbeats 8000000 in
set_option maxRecDepth 100000 in
theorem ri.calls (k:Nat) (a0:ByteArray) (r:Bool) (w:World) (h:ri.f k a0=some r) :
  Calls Try.prog 136 #[.string a0] w fun e w'=>e = .returned (.bool r)∧Below w.heap.size w w':=by
 have HB:=ja.mk (Below.refl w.heap.size w)
 have H:((Vc.f k (([(⟨#[61,61]⟩:ByteArray),(⟨#[60]⟩:ByteArray),(⟨#[38]⟩:ByteArray),(⟨#[43]⟩:ByteArray),(⟨#[45]⟩:ByteArray),(⟨#[42]⟩:ByteArray)]:List ByteArray)) a0).bind fun t104=>(some t104))=some r:=h
 clear h
 obtain ⟨bg,hy101⟩:∃ y_:List ByteArray,y_=(([(⟨#[61,61]⟩:ByteArray),(⟨#[60]⟩:ByteArray),(⟨#[38]⟩:ByteArray),(⟨#[43]⟩:ByteArray),(⟨#[45]⟩:ByteArray),(⟨#[42]⟩:ByteArray)]:List ByteArray)):=⟨_,rfl⟩
 replace H:((Vc.f k bg a0).bind fun t104=>(some t104))=some r:=by first|(rw [hy101];with_reducible exact H)|(have Eh:=(Option.bind_some _ _).symm.trans H;rw [hy101];with_reducible exact Eh)|(have Eh:=(Option.bind_some _ _).symm.trans H;with_reducible exact Eh)|with_reducible exact H|(rw [hy101];exact H)|exact H
 have ek:=ja.mk hy101
 clear hy101
 replace H:=Option.bind_eq_some_iff.mp H
 obtain ⟨t104,YL,H⟩:=H
 replace H:(some t104)=some r:=H
 have A2:=ja.mk YL
 clear YL
 obtain rfl:=Option.some.inj H
 go_enter Try.func136,Try.ntmps136
 go_wp2_with (first|((with_reducible refine Kb (N:=3) rfl ?_);refine Kd.Jz Kd.string _ 9 ?hg (N:=3) ?hd (xs:=([(⟨#[61,61]⟩:ByteArray),(⟨#[60]⟩:ByteArray),(⟨#[38]⟩:ByteArray),(⟨#[43]⟩:ByteArray),(⟨#[45]⟩:ByteArray),(⟨#[42]⟩:ByteArray)]:List ByteArray)) (inner:=[.string (⟨#[61,61]⟩:ByteArray),.string (⟨#[60]⟩:ByteArray),.string (⟨#[38]⟩:ByteArray),.string (⟨#[43]⟩:ByteArray),.string (⟨#[45]⟩:ByteArray),.string (⟨#[42]⟩:ByteArray)]) (ok:=fun _=>True) (vp:=fun _=>True) ?hr ?hp (fun _ hk=>hk) trivial (Below.refl _ _) (Nat.le_refl _) (by simp) ?_;(case hd=>rfl);(case hg=>rfl);(case hr=>first|(go_simp;done)|(go_simp;rfl));(case hp=>exact (Tf.one (show Kd.M Kd.string _ _ _ (⟨#[61,61]⟩:ByteArray) [.string (⟨#[61,61]⟩:ByteArray)] from rfl) (Tf.one (show Kd.M Kd.string _ _ _ (⟨#[60]⟩:ByteArray) [.string (⟨#[60]⟩:ByteArray)] from rfl) (Tf.one (show Kd.M Kd.string _ _ _ (⟨#[38]⟩:ByteArray) [.string (⟨#[38]⟩:ByteArray)] from rfl) (Tf.one (show Kd.M Kd.string _ _ _ (⟨#[43]⟩:ByteArray) [.string (⟨#[43]⟩:ByteArray)] from rfl) (Tf.one (show Kd.M Kd.string _ _ _ (⟨#[45]⟩:ByteArray) [.string (⟨#[45]⟩:ByteArray)] from rfl) (Tf.one (show Kd.M Kd.string _ _ _ (⟨#[42]⟩:ByteArray) [.string (⟨#[42]⟩:ByteArray)] from rfl) (Tf.none _ _))))))));intro IB w3 gz hb CD Jn;clear CD Jn;(first|rw [← ek.out] at gz|(simp only [Int.reduceToNat] at gz;rw [← ek.out] at gz));have Gb:=ja.mk (Kd.zi gz (Ra (by repeat (first|(with_reducible first|exact HB.out|apply qa|apply ia|apply ua)|exact HB.out))));have Vb:=ja.mk (Qa (by repeat (first|(with_reducible first|exact HB.out|apply qa|apply ia|apply ua)|exact HB.out)) hb);clear HB;have gp:=Gb;have HB:=Vb;clear Gb Vb;clear hb gz;obtain ⟨Ao5,co5,mU⟩:=Kd.Hf gp.out;subst mU)|((with_reducible refine mb (f:=140) rfl ?_);refine yd (some 5) rfl rfl Try.func140 (by kernel_rfl) rfl #[.slice Ao5 bg.length co5,.string a0] rfl (by (try simp only [List.map_toArray,List.map_cons,List.map_nil]);first|done|rfl|(simp only [List.length_drop,List.length_take];rfl)) ?_;(with_reducible refine (Vc.calls k _ _ bg a0 t104 _ ?side1 ?side2 A2.out).mono ?_);(case side1=>repeat (first|exact (Kd.Cc gp.out).2.2|(with_reducible refine Kd.Sc ?_ _)|(with_reducible refine Kd.Rc ?_ _)|(with_reducible refine Kd.Qd ?_)));(case side2=>exact (Kd.Cc gp.out).2.1);rintro e w' ⟨rfl,⟨nd,rfl⟩⟩;refine ⟨_,rfl,?_⟩))
 go_ret
 exact ⟨by first|rfl|(simp [La,Ka] <;> rfl)|(simp [*,La,Ka] <;> rfl),by repeat (first|(with_reducible first|exact HB.out|apply qa|apply ia|apply ua)|exact HB.out)⟩
def Hh.f (a0:Int) (a1:Int) (a2:Int):Option (Bool):=if a0 ≥ a1 then (some (decide (a0 ≤ a2))) else (some false)
set_option maxHeartbeats 8000000 in
set_option maxRecDepth 100000 in
theorem Hh.calls (a0:Int) (a1:Int) (a2:Int) (r:Bool) (w:World) (h:Hh.f a0 a1 a2=some r) :
  Calls Try.prog 58 #[.int .i64 a0,.int .i64 a1,.int .i64 a2] w fun e w'=>e = .returned (.bool r)∧uc w w':=by
 have H:(if a0 ≥ a1 then (some (decide (a0 ≤ a2))) else (some false))=some r:=h
 clear h
 by_cases c4:a0 ≥ a1
 ·rw [if_pos c4] at H
  have Gi:decide (a1 ≤ a0)=true:=decide_eq_true c4
  clear c4
  obtain rfl:=Option.some.inj H
  go_enter Try.func58,Try.ntmps58
  go_wp2
  go_ret
  exact ⟨by first|rfl|(simp;done)|(simp [*];done),by repeat (first|exact uc.refl _|apply uc.step)⟩
 ·rw [if_neg c4] at H
  have Gi:decide (a1 ≤ a0)=false:=decide_eq_false c4
  clear c4
  obtain rfl:=Option.some.inj H
  go_enter Try.func58,Try.ntmps58
  go_wp2
  go_ret
  exact ⟨by first|rfl|(simp;done)|(simp [*];done),by repeat (first|exact uc.refl _|apply uc.step)⟩
set_option maxHeartbeats 4000000 in
set_option maxRecDepth 100000 in
theorem XB (g:Nat) (lb:Array Value) (p:Int→Bool) (eg:∀ args w,(callFunc g args).run Try.prog w = .ok (.enter g args) w) (A0:Option Addr) (c0:Nat) (l0:List Int) (w:World) (hr0:Kd.C (Kd.int .i64) w A0 l0.length l0) (hc0:l0.length ≤ c0)
  (hp:∀ (W:World) (x:Int),Below w.heap.size w W→Calls Try.prog g (#[(.int .i64 x)] ++ lb) W fun e w'=>e = .returned (.bool (p x))∧Below W.heap.size W w') :
  Calls Try.prog 130 #[.slice A0 l0.length c0,.func (.func g) #[] lb] w fun e w'=>(∃ i:Int,e = .returned (.int .i64 i)∧decide (0 ≤ i)=l0.any p)∧Below w.heap.size w w':=by
 have zV:=hr0.2.1
 have Gh:=ja.mk hr0
 have dw:=ja.mk hc0
 have HP:=ja.mk hp
 clear hr0 hc0 hp
 go_enter Try.func130,Try.ntmps130
 go_wp2
 go_loopg [5,8] l0.length (fun gg _ s8 wr=>∃ kk:Nat,kk ≤ l0.length∧l0.length - kk ≤ gg∧s8 = .int .i64 kk∧ja (Below w.heap.size w wr)∧ja ((l0.take kk).any p=false))
 case atStart=>exact ⟨0,Nat.zero_le _,by omega,rfl,⟨Below.refl _ w⟩,⟨by simp⟩⟩
 case round =>
  (try clear BW)
  (try clear HA)
  obtain ⟨kk,hkk,hg,rfl,BW,HA⟩:=hrel
  by_cases hlt:kk < l0.length
  ·have p1:0 ≤ (kk:Int):=by omega
   have q1:(kk:Int) < (l0.length:Int):=by omega
   obtain ⟨ad,e1,hx0⟩:=Kd.Po Gh.out (kk:Int) p1 q1
   cases e1
   simp only [Int.toNat_natCast] at hx0
   replace hx0:=(BW.out.cell (World.block_lt_of_cell? w _ hx0)).trans hx0
   have hcall:=HP.out wr (rd l0 (kk:Int)) BW.out
   cases hq:p (rd l0 (kk:Int)) with
   | true =>
    rw [hq] at hcall
    go_wp2_with (go_at_fn g;refine hcall.mono ?_;rintro e w1 ⟨rfl,hb1⟩)
    go_ret
    exact ⟨⟨_,rfl,by rw [QH (d:=0) hlt hq];simp⟩,BW.out.trans (hb1.mono BW.out.size)⟩
   | false =>
    rw [hq] at hcall
    go_wp2_with (go_at_fn g;refine hcall.mono ?_;rintro e w1 ⟨rfl,hb1⟩)
    go_roundg (l0.length - (kk + 1))
    case measure=>omega
    case rel=>exact ⟨kk + 1,by omega,by omega,by go_num,⟨BW.out.trans (hb1.mono BW.out.size)⟩,⟨Cs (d:=0) hlt HA.out hq⟩⟩
  ·have qaf:¬ (kk:Int) < (l0.length:Int):=by omega
   have he:kk=l0.length:=by omega
   subst he
   go_wp2
   go_ret
   exact ⟨⟨_,rfl,by have h_:=HA.out;rw [List.take_length] at h_;rw [h_];simp⟩,BW.out⟩
set_option maxHeartbeats 4000000 in
theorem Wu (g:Nat) (lb:Array Value) (p:Int→Bool) (eg:∀ args w,(callFunc g args).run Try.prog w = .ok (.enter g args) w) (A0:Option Addr) (c0:Nat) (l0:List Int) (w:World) (hr0:Kd.C (Kd.int .i64) w A0 l0.length l0) (hc0:l0.length ≤ c0)
  (hp:∀ (W:World) (x:Int),Below w.heap.size w W→Calls Try.prog g (#[(.int .i64 x)] ++ lb) W fun e w'=>e = .returned (.bool (p x))∧Below W.heap.size W w') :
  Calls Try.prog 113 #[.slice A0 l0.length c0,.func (.func g) #[] lb] w fun e w'=>e = .returned (.bool (l0.any p))∧Below w.heap.size w w':=by
 have HI:=ja.mk (XB g lb p eg A0 c0 l0 w hr0 hc0 hp)
 clear hr0 hc0 hp
 go_enter Try.func113,Try.ntmps113
 go_wp2_with (go_at_call 130;refine HI.out.mono ?_;rintro e w1 ⟨⟨i,rfl,hi⟩,hb1⟩;have HD:=ja.mk hi;clear hi)
 go_ret
 exact ⟨by rw [← HD.out];first|rfl|simp,hb1⟩
def Qj (a b c:Int):Bool:=decide (b ≤ a) && decide (a ≤ c)
theorem Ri (a b c:Int) (w:World):Calls Try.prog 58 #[.int .i64 a,.int .i64 b,.int .i64 c] w fun e w'=>e = .returned (.bool (Qj a b c))∧uc w w' :=
 Hh.calls a b c (Qj a b c) w (by
  unfold Hh.f Qj
  by_cases h:a ≥ b
  ·rw [if_pos h]
   have h':b ≤ a:=h
   simp [h']
  ·rw [if_neg h]
   have h':¬ b ≤ a:=h
   simp [h'])
def Fs (l:List Int) (p v:Int):Bool:=Qj (l.length:Int) 1 4 && !(l.any fun n=>!Qj n 1 16) && Qj p 0 (if v < 6 then v else 6) && decide (v ≤ 20)
set_option maxHeartbeats 1000000 in
theorem SB (W:World) (x:Int):Calls Try.prog 114 #[.int .i64 x] W fun e w'=>e = .returned (.bool (!Qj x 1 16))∧Below W.heap.size W w':=by
 have HC:=ja.mk (Ri x 1 16)
 generalize Qj x 1 16=b at HC ⊢
 go_enter Try.func114,Try.ntmps114
 go_wp2_with (go_at_call 58;refine (HC.out _).mono ?_;rintro e w1 ⟨rfl,hb1⟩;have HD:=ja.mk hb1.below;clear hb1)
 go_ret
 exact ⟨rfl,HD.out⟩
set_option maxHeartbeats 2000000 in
set_option maxRecDepth 100000 in
theorem tB (p0 p1 p2 p3:Value) (A:Option Addr) (c:Nat) (w:World) :
  Calls Try.prog 115 #[.agg #[p0,p1,p2,p3],.slice A 0 c,.int .i64 0] w fun e w'=>e = .returned (.bool true)∧Below w.heap.size w w':=by
 go_enter Try.func115,Try.ntmps115
 go_wp2
 go_loop [25] (fun i=>i = .int .i64 0) (fun _=>0)
 case atStart=>exact rfl
 case round =>
  obtain rfl:=hrel
  go_wp2
  go_ret
  exact ⟨rfl,qa (qa (Below.refl _ _) _) _⟩
set_option maxHeartbeats 400000 in
set_option maxRecDepth 100000 in
theorem dz (A0 A3:Option Addr) (c0 c3:Nat) (l0:List Int) (a1 a2:Int) (w:World) (hr0:Kd.C (Kd.int .i64) w A0 l0.length l0) (hc0:l0.length ≤ c0) :
  Calls Try.prog 89 #[.agg #[.slice A0 l0.length c0,.int .i64 a1,.int .i64 a2,.slice A3 0 c3]] w fun e w'=>e = .returned (.bool (Fs l0 a1 a2))∧Below w.heap.size w w':=by
 have eg:=enters_of Try.func114 (by kernel_rfl) rfl
 have zV:=hr0.2.1
 have OV:=ja.mk (Ri (l0.length:Int) 1 4)
 have KQ:=ja.mk (Ri a1 0 (if a2 < 6 then a2 else 6))
 have HF:=ja.mk (fun (W:World) (hb:Below w.heap.size w W)=>Wu 114 #[] (fun n=>!Qj n 1 16) eg A0 c0 l0 W (Kd.Mb hr0 hb) hc0 (fun W x _=>SB W x))
 clear hr0 hc0
 unfold Fs
 by_cases h6:a2 < 6
 all_goals
  have hmin:min 6 a2=if a2 < 6 then a2 else 6:=by split <;> omega
  first|rw [if_pos h6] at KQ hmin ⊢|rw [if_neg h6] at KQ hmin ⊢
  cases hb1:Qj (l0.length:Int) 1 4 with
  | false =>
   go_enter Try.func89,Try.ntmps89
   go_wp2_with (first|(go_at_call 58;refine (Ri _ _ _ _).mono ?_;rintro e w1 ⟨rfl,⟨n,rfl⟩⟩))
   go_ret
   exact ⟨rfl,ia (qa (Below.refl _ _) _) _⟩
  | true =>
   cases hb2:(l0.any fun n=>!Qj n 1 16) with
   | true =>
    rw [hb2] at HF
    go_enter Try.func89,Try.ntmps89
    go_wp2_with (first|(go_at_call 58;refine (Ri _ _ _ _).mono ?_;rintro e w1 ⟨rfl,⟨n,rfl⟩⟩)|(go_at_call 113;refine (HF.out _ (ia (qa (Below.refl _ _) _) _)).mono ?_;rintro e w1 ⟨rfl,hb⟩;have HB:=ja.mk (Qa (ia (qa (Below.refl _ _) _) _) hb);clear hb))
    go_ret
    exact ⟨rfl,HB.out⟩
   | false =>
    rw [hb2] at HF
    go_enter Try.func89,Try.ntmps89
    go_wp2_with (first|(go_at_call 58;(with_reducible refine (Ri _ _ _ _).mono ?_);rintro e w1 ⟨rfl,⟨n,rfl⟩⟩)|(go_at_call 113;(with_reducible refine (HF.out _ (ia (qa (Below.refl _ _) _) _)).mono ?_);rintro e w1 ⟨rfl,hb⟩;have HB:=ja.mk (Qa (ia (qa (Below.refl _ _) _) _) hb);obtain ⟨nQ,oO⟩:=TR hb;have DJ:=hb.size;simp at DJ;clear hb)|(go_at_call 115;(with_reducible refine (tB _ _ _ _ _ _ _).mono ?_);rintro e w2 ⟨rfl,hb⟩;have Ro:=ja.mk (Qa (ia HB.out _) hb);clear hb))
    all_goals
     go_ret
     first
      | exact ⟨by simp [*],Ro.out⟩
      | exact ⟨by simp [*],ia HB.out _⟩
def Lg.f (Ta:List Int) (Ma:Int) (Oa:Int) (vD:List (jv)):Option Bool:=if vD.length=0 then some (Fs Ta Ma Oa) else none
theorem Lg.calls (Cb:Option Addr) (Bb:Nat) (Ta:List Int) (Ma:Int) (Oa:Int) (xV:Option Addr) (GU:Nat) (vD:List (jv)) (r:Bool) (w:World) (Rf:Kd.C (Kd.int .i64) w Cb Ta.length Ta) (Pf:Ta.length ≤ Bb) (kai:Kd.C Aae w xV vD.length vD) (zak:vD.length ≤ GU) (h:Lg.f Ta Ma Oa vD=some r) :
  Calls Try.prog 89 #[.agg #[.slice Cb Ta.length Bb,.int .i64 Ma,.int .i64 Oa,.slice xV vD.length GU]] w fun e w'=>e = .returned (.bool r)∧Below w.heap.size w w':=by
 unfold Lg.f at h
 split at h
 ·rename_i h0
  injection h with h
  subst h
  rw [h0]
  exact dz Cb xV Bb GU Ta Ma Oa w Rf Pf
 ·cases h
theorem Y2 (d:Nat) (w:World) (x0 y0:Int) (x1 y1:Int) (x2 y2:Int) (x3 y3:Int) (x4 y4:Int) (x5 y5:Int) (x6 y6:ByteArray) :
  (Op.equalIn (d + 2) 70 (.agg #[.int .i64 x0,.int .i64 x1,.int .i64 x2,.int .i64 x3,.int .i64 x4,.int .i64 x5,.string x6]) (.agg #[.int .i64 y0,.int .i64 y1,.int .i64 y2,.int .i64 y3,.int .i64 y4,.int .i64 y5,.string y6])).run Try.prog w = .ok (x0 == y0 && (x1 == y1 && (x2 == y2 && (x3 == y3 && (x4 == y4 && (x5 == y5 && (x6.toList == y6.toList))))))) w:=by
 refine lU Try.underlying70 (by kernel_rfl) ?_
 refine Yo (by rfl) (by go_simp;rfl) (by go_simp;rfl) (by go_simp) ?_
 refine Yo (by rfl) (by go_simp;rfl) (by go_simp;rfl) (by go_simp) ?_
 refine Yo (by rfl) (by go_simp;rfl) (by go_simp;rfl) (by go_simp) ?_
 refine Yo (by rfl) (by go_simp;rfl) (by go_simp;rfl) (by go_simp) ?_
 refine Yo (by rfl) (by go_simp;rfl) (by go_simp;rfl) (by go_simp) ?_
 refine Yo (by rfl) (by go_simp;rfl) (by go_simp;rfl) (by go_simp) ?_
 exact dL (by rfl) (by go_simp;rfl) (by go_simp;rfl) (by go_simp)
attribute [local go_sem high] Y2
def iD:List ByteArray:=[⟨#[61,61]⟩,⟨#[60]⟩,⟨#[38]⟩,⟨#[43]⟩,⟨#[45]⟩,⟨#[42]⟩]
def Us (s:ByteArray):Bool:=iD.any fun y=>decide (s.toList=y.toList)
theorem wI (s:ByteArray):ri.f 8 s=some (Us s):=by
 unfold ri.f Vc.f xb.f Us iD
 simp only [xb.l0,List.any_cons,List.any_nil]
 by_cases h0:s.toList=[61,61]
 ·simp [Jk,h0]
 by_cases h1:s.toList=[60]
 ·simp [Jk,h1,wrap64]
 by_cases h2:s.toList=[38]
 ·simp [Jk,h2,wrap64]
 by_cases h3:s.toList=[43]
 ·simp [Jk,h3,wrap64]
 by_cases h4:s.toList=[45]
 ·simp [Jk,h4,wrap64]
 by_cases h5:s.toList=[42]
 ·simp [Jk,h5,wrap64]
 simp [Jk,h0,h1,h2,h3,h4,h5,wrap64]
theorem xD (s:ByteArray) (w:World):Calls Try.prog 136 #[.string s] w fun e w'=>e = .returned (.bool (Us s))∧Below w.heap.size w w':=ri.calls 8 s (Us s) w (wI s)
def Pj (slots s:Int):Bool:=decide (0 ≤ s) && decide (s < slots)
set_option maxHeartbeats 400000 in
theorem Jj (B:Nat) (slots s:Int) (W:World) (hb3:W.cell? ⟨B,3,none⟩=some (.int .i64 slots)):Calls Try.prog 135 #[.int .i64 s,.pointer (some ⟨B,0,none⟩)] W fun e w'=>e = .returned (.bool (Pj slots s))∧W=w':=by
 unfold Pj
 by_cases h:0 ≤ s
 all_goals
  go_enter Try.func135,Try.ntmps135
  go_wp2
  go_ret
  exact ⟨by simp [*];try omega,rfl⟩
set_option maxHeartbeats 2000000 in
set_option maxRecDepth 100000 in
theorem EI (A0 A4:Option Addr) (c0 c4 n0 n4:Nat) (p1 p2 slots d a b c n:Int) (t:ByteArray) (w:World) (hn0:n0 ≤ 9223372036854775807) (zz:n4 ≤ 9223372036854775807) :
  Calls Try.prog 118 #[.agg #[.slice A0 n0 c0,.int .i64 p1,.int .i64 p2,.int .i64 slots,.slice A4 n4 c4],.agg #[.int .i64 0,.int .i64 d,.int .i64 a,.int .i64 b,.int .i64 c,.int .i64 n,.string t]] w fun e w'=>e = .returned (.bool (Pj slots d && (a == 0 && (b == 0 && (c == 0 && t.toList.isEmpty)))))∧Below w.heap.size w w':=by
 obtain ⟨W1,hW1⟩:∃ W1,W1=(w.alloc (.cells #[.slice A0 n0 c0,.int .i64 p1,.int .i64 p2,.int .i64 slots,.slice A4 n4 c4] 30 (0,0))).alloc (.cells #[.int .i64 0,.int .i64 d,.int .i64 a,.int .i64 b,.int .i64 c,.int .i64 n,.string t] 70 (0,0)):=⟨_,rfl⟩
 have HW:=ja.mk hW1
 have HB:=ja.mk (show Below w.heap.size w W1 from by rw [hW1];exact qa (qa (Below.refl _ _) _) _)
 have hz:W1.heap.size=w.heap.size + 2:=by rw [hW1];simp
 have fU:W1.cell? ⟨w.heap.size,3,none⟩=some (.int .i64 slots):=by rw [hW1];simp
 have hx0:W1.cell? ⟨w.heap.size + 1,0,none⟩=some (.int .i64 0):=by rw [hW1];simp
 have hx1:W1.cell? ⟨w.heap.size + 1,1,none⟩=some (.int .i64 d):=by rw [hW1];simp
 have Oq:W1.cell? ⟨w.heap.size + 1,2,none⟩=some (.int .i64 a):=by rw [hW1];simp
 have Nq:W1.cell? ⟨w.heap.size + 1,3,none⟩=some (.int .i64 b):=by rw [hW1];simp
 have rq:W1.cell? ⟨w.heap.size + 1,4,none⟩=some (.int .i64 c):=by rw [hW1];simp
 have Zz:W1.cell? ⟨w.heap.size + 1,5,none⟩=some (.int .i64 n):=by rw [hW1];simp
 have Yv:W1.cell? ⟨w.heap.size + 1,6,none⟩=some (.string t):=by rw [hW1];simp
 clear hW1
 go_enter Try.func118,Try.ntmps118
 go_wp2_with (first|(go_at_call 58;(with_reducible refine (Ri _ _ _ _).mono ?_);rintro e w1 ⟨rfl,⟨k1,rfl⟩⟩))
 rw [← HW.out]
 clear HW
 go_region
 all_goals go_wp2_with (first|(go_at_call 135;(refine (Jj _ slots _ _ ?hc).mono ?_);(case hc=>first|(go_simp;done)|(go_simp;rfl));rintro e w1 ⟨rfl,rfl⟩))
 all_goals go_ret
 all_goals exact ⟨by (try clear nQ oO DJ Ro);simp [*],by repeat (first|exact HB.out|(refine Qa ?_ Ro.out)|apply ia|apply ua|apply qa|refine Aa ?_ (by first|omega|(simp;done)|(simp;omega)))⟩
set_option maxHeartbeats 2000000 in
set_option maxRecDepth 100000 in
theorem DI (A0 A4:Option Addr) (c0 c4 n0 n4:Nat) (p1 p2 slots d a b c n:Int) (t:ByteArray) (w:World) (hn0:n0 ≤ 9223372036854775807) (zz:n4 ≤ 9223372036854775807) :
  Calls Try.prog 118 #[.agg #[.slice A0 n0 c0,.int .i64 p1,.int .i64 p2,.int .i64 slots,.slice A4 n4 c4],.agg #[.int .i64 1,.int .i64 d,.int .i64 a,.int .i64 b,.int .i64 c,.int .i64 n,.string t]] w fun e w'=>e = .returned (.bool (Pj slots d && Pj slots a && (b == 0 && (c == 0 && (n == 0 && t.toList.isEmpty)))))∧Below w.heap.size w w':=by
 obtain ⟨W1,hW1⟩:∃ W1,W1=(w.alloc (.cells #[.slice A0 n0 c0,.int .i64 p1,.int .i64 p2,.int .i64 slots,.slice A4 n4 c4] 30 (0,0))).alloc (.cells #[.int .i64 1,.int .i64 d,.int .i64 a,.int .i64 b,.int .i64 c,.int .i64 n,.string t] 70 (0,0)):=⟨_,rfl⟩
 have HW:=ja.mk hW1
 have HB:=ja.mk (show Below w.heap.size w W1 from by rw [hW1];exact qa (qa (Below.refl _ _) _) _)
 have hz:W1.heap.size=w.heap.size + 2:=by rw [hW1];simp
 have fU:W1.cell? ⟨w.heap.size,3,none⟩=some (.int .i64 slots):=by rw [hW1];simp
 have hx0:W1.cell? ⟨w.heap.size + 1,0,none⟩=some (.int .i64 1):=by rw [hW1];simp
 have hx1:W1.cell? ⟨w.heap.size + 1,1,none⟩=some (.int .i64 d):=by rw [hW1];simp
 have Oq:W1.cell? ⟨w.heap.size + 1,2,none⟩=some (.int .i64 a):=by rw [hW1];simp
 have Nq:W1.cell? ⟨w.heap.size + 1,3,none⟩=some (.int .i64 b):=by rw [hW1];simp
 have rq:W1.cell? ⟨w.heap.size + 1,4,none⟩=some (.int .i64 c):=by rw [hW1];simp
 have Zz:W1.cell? ⟨w.heap.size + 1,5,none⟩=some (.int .i64 n):=by rw [hW1];simp
 have Yv:W1.cell? ⟨w.heap.size + 1,6,none⟩=some (.string t):=by rw [hW1];simp
 clear hW1
 go_enter Try.func118,Try.ntmps118
 go_wp2_with (first|(go_at_call 58;(with_reducible refine (Ri _ _ _ _).mono ?_);rintro e w1 ⟨rfl,⟨k1,rfl⟩⟩))
 rw [← HW.out]
 clear HW
 go_region
 all_goals go_wp2_with (first|(go_at_call 135;(refine (Jj _ slots _ _ ?hc).mono ?_);(case hc=>first|(go_simp;done)|(go_simp;rfl));rintro e w1 ⟨rfl,rfl⟩))
 all_goals go_ret
 all_goals exact ⟨by (try clear nQ oO DJ Ro);simp [*],by repeat (first|exact HB.out|(refine Qa ?_ Ro.out)|apply ia|apply ua|apply qa|refine Aa ?_ (by first|omega|(simp;done)|(simp;omega)))⟩
set_option maxHeartbeats 2000000 in
set_option maxRecDepth 100000 in
theorem CI (A0 A4:Option Addr) (c0 c4 n0 n4:Nat) (p1 p2 slots d a b c n:Int) (t:ByteArray) (w:World) (hn0:n0 ≤ 9223372036854775807) (zz:n4 ≤ 9223372036854775807) :
  Calls Try.prog 118 #[.agg #[.slice A0 n0 c0,.int .i64 p1,.int .i64 p2,.int .i64 slots,.slice A4 n4 c4],.agg #[.int .i64 2,.int .i64 d,.int .i64 a,.int .i64 b,.int .i64 c,.int .i64 n,.string t]] w fun e w'=>e = .returned (.bool (Pj slots d && Pj slots a && Pj slots b && Us t && (c == 0 && n == 0)))∧Below w.heap.size w w':=by
 obtain ⟨W1,hW1⟩:∃ W1,W1=(w.alloc (.cells #[.slice A0 n0 c0,.int .i64 p1,.int .i64 p2,.int .i64 slots,.slice A4 n4 c4] 30 (0,0))).alloc (.cells #[.int .i64 2,.int .i64 d,.int .i64 a,.int .i64 b,.int .i64 c,.int .i64 n,.string t] 70 (0,0)):=⟨_,rfl⟩
 have HW:=ja.mk hW1
 have HB:=ja.mk (show Below w.heap.size w W1 from by rw [hW1];exact qa (qa (Below.refl _ _) _) _)
 have hz:W1.heap.size=w.heap.size + 2:=by rw [hW1];simp
 have fU:W1.cell? ⟨w.heap.size,3,none⟩=some (.int .i64 slots):=by rw [hW1];simp
 have hx0:W1.cell? ⟨w.heap.size + 1,0,none⟩=some (.int .i64 2):=by rw [hW1];simp
 have hx1:W1.cell? ⟨w.heap.size + 1,1,none⟩=some (.int .i64 d):=by rw [hW1];simp
 have Oq:W1.cell? ⟨w.heap.size + 1,2,none⟩=some (.int .i64 a):=by rw [hW1];simp
 have Nq:W1.cell? ⟨w.heap.size + 1,3,none⟩=some (.int .i64 b):=by rw [hW1];simp
 have rq:W1.cell? ⟨w.heap.size + 1,4,none⟩=some (.int .i64 c):=by rw [hW1];simp
 have Zz:W1.cell? ⟨w.heap.size + 1,5,none⟩=some (.int .i64 n):=by rw [hW1];simp
 have Yv:W1.cell? ⟨w.heap.size + 1,6,none⟩=some (.string t):=by rw [hW1];simp
 clear hW1
 go_enter Try.func118,Try.ntmps118
 go_wp2_with (first|(go_at_call 58;(with_reducible refine (Ri _ _ _ _).mono ?_);rintro e w1 ⟨rfl,⟨k1,rfl⟩⟩))
 rw [← HW.out]
 clear HW
 go_region
 all_goals go_wp2_with (first|(go_at_call 135;(refine (Jj _ slots _ _ ?hc).mono ?_);(case hc=>first|(go_simp;done)|(go_simp;rfl));rintro e w1 ⟨rfl,rfl⟩)|(go_at_call 136;(with_reducible refine (xD _ _).mono ?_);rintro e w2 ⟨rfl,hb2⟩;have Ro:=ja.mk hb2;obtain ⟨nQ,oO⟩:=TR hb2;have DJ:=hb2.size;simp at DJ;clear hb2))
 all_goals go_ret
 all_goals exact ⟨by (try clear nQ oO DJ Ro);simp [*],by repeat (first|exact HB.out|(refine Qa ?_ Ro.out)|apply ia|apply ua|apply qa|refine Aa ?_ (by first|omega|(simp;done)|(simp;omega)))⟩
set_option maxHeartbeats 2000000 in
set_option maxRecDepth 100000 in
theorem BI (A0 A4:Option Addr) (c0 c4 n0 n4:Nat) (p1 p2 slots d a b c n:Int) (t:ByteArray) (w:World) (hn0:n0 ≤ 9223372036854775807) (zz:n4 ≤ 9223372036854775807) :
  Calls Try.prog 118 #[.agg #[.slice A0 n0 c0,.int .i64 p1,.int .i64 p2,.int .i64 slots,.slice A4 n4 c4],.agg #[.int .i64 3,.int .i64 d,.int .i64 a,.int .i64 b,.int .i64 c,.int .i64 n,.string t]] w fun e w'=>e = .returned (.bool (Pj slots d && Pj slots b && Qj n 0 ((n0:Int) - 1) && (Pj slots a || a == -1) && (c == 0 && t.toList.isEmpty)))∧Below w.heap.size w w':=by
 obtain ⟨W1,hW1⟩:∃ W1,W1=(w.alloc (.cells #[.slice A0 n0 c0,.int .i64 p1,.int .i64 p2,.int .i64 slots,.slice A4 n4 c4] 30 (0,0))).alloc (.cells #[.int .i64 3,.int .i64 d,.int .i64 a,.int .i64 b,.int .i64 c,.int .i64 n,.string t] 70 (0,0)):=⟨_,rfl⟩
 have HW:=ja.mk hW1
 have HB:=ja.mk (show Below w.heap.size w W1 from by rw [hW1];exact qa (qa (Below.refl _ _) _) _)
 have hz:W1.heap.size=w.heap.size + 2:=by rw [hW1];simp
 have fU:W1.cell? ⟨w.heap.size,3,none⟩=some (.int .i64 slots):=by rw [hW1];simp
 have hx0:W1.cell? ⟨w.heap.size + 1,0,none⟩=some (.int .i64 3):=by rw [hW1];simp
 have hx1:W1.cell? ⟨w.heap.size + 1,1,none⟩=some (.int .i64 d):=by rw [hW1];simp
 have Oq:W1.cell? ⟨w.heap.size + 1,2,none⟩=some (.int .i64 a):=by rw [hW1];simp
 have Nq:W1.cell? ⟨w.heap.size + 1,3,none⟩=some (.int .i64 b):=by rw [hW1];simp
 have rq:W1.cell? ⟨w.heap.size + 1,4,none⟩=some (.int .i64 c):=by rw [hW1];simp
 have Zz:W1.cell? ⟨w.heap.size + 1,5,none⟩=some (.int .i64 n):=by rw [hW1];simp
 have Yv:W1.cell? ⟨w.heap.size + 1,6,none⟩=some (.string t):=by rw [hW1];simp
 clear hW1
 go_enter Try.func118,Try.ntmps118
 go_wp2_with (first|(go_at_call 58;(with_reducible refine (Ri _ _ _ _).mono ?_);rintro e w1 ⟨rfl,⟨k1,rfl⟩⟩))
 rw [← HW.out]
 clear HW
 go_region
 all_goals go_wp2_with (first|(go_at_call 135;(refine (Jj _ slots _ _ ?hc).mono ?_);(case hc=>first|(go_simp;done)|(go_simp;rfl));rintro e w1 ⟨rfl,rfl⟩))
 all_goals go_ret
 all_goals exact ⟨by (try clear nQ oO DJ Ro);simp [*],by repeat (first|exact HB.out|(refine Qa ?_ Ro.out)|apply ia|apply ua|apply qa|refine Aa ?_ (by first|omega|(simp;done)|(simp;omega)))⟩
set_option maxHeartbeats 2000000 in
set_option maxRecDepth 100000 in
theorem zI (A0 A4:Option Addr) (c0 c4 n0 n4:Nat) (p1 p2 slots d a b c n:Int) (t:ByteArray) (w:World) (hn0:n0 ≤ 9223372036854775807) (zz:n4 ≤ 9223372036854775807) :
  Calls Try.prog 118 #[.agg #[.slice A0 n0 c0,.int .i64 p1,.int .i64 p2,.int .i64 slots,.slice A4 n4 c4],.agg #[.int .i64 4,.int .i64 d,.int .i64 a,.int .i64 b,.int .i64 c,.int .i64 n,.string t]] w fun e w'=>e = .returned (.bool (Pj slots c && Pj slots b && Qj n 0 ((n0:Int) - 1) && (Pj slots a || a == -1) && (d == 0 && t.toList.isEmpty)))∧Below w.heap.size w w':=by
 obtain ⟨W1,hW1⟩:∃ W1,W1=(w.alloc (.cells #[.slice A0 n0 c0,.int .i64 p1,.int .i64 p2,.int .i64 slots,.slice A4 n4 c4] 30 (0,0))).alloc (.cells #[.int .i64 4,.int .i64 d,.int .i64 a,.int .i64 b,.int .i64 c,.int .i64 n,.string t] 70 (0,0)):=⟨_,rfl⟩
 have HW:=ja.mk hW1
 have HB:=ja.mk (show Below w.heap.size w W1 from by rw [hW1];exact qa (qa (Below.refl _ _) _) _)
 have hz:W1.heap.size=w.heap.size + 2:=by rw [hW1];simp
 have fU:W1.cell? ⟨w.heap.size,3,none⟩=some (.int .i64 slots):=by rw [hW1];simp
 have hx0:W1.cell? ⟨w.heap.size + 1,0,none⟩=some (.int .i64 4):=by rw [hW1];simp
 have hx1:W1.cell? ⟨w.heap.size + 1,1,none⟩=some (.int .i64 d):=by rw [hW1];simp
 have Oq:W1.cell? ⟨w.heap.size + 1,2,none⟩=some (.int .i64 a):=by rw [hW1];simp
 have Nq:W1.cell? ⟨w.heap.size + 1,3,none⟩=some (.int .i64 b):=by rw [hW1];simp
 have rq:W1.cell? ⟨w.heap.size + 1,4,none⟩=some (.int .i64 c):=by rw [hW1];simp
 have Zz:W1.cell? ⟨w.heap.size + 1,5,none⟩=some (.int .i64 n):=by rw [hW1];simp
 have Yv:W1.cell? ⟨w.heap.size + 1,6,none⟩=some (.string t):=by rw [hW1];simp
 clear hW1
 go_enter Try.func118,Try.ntmps118
 go_wp2_with (first|(go_at_call 58;(with_reducible refine (Ri _ _ _ _).mono ?_);rintro e w1 ⟨rfl,⟨k1,rfl⟩⟩))
 rw [← HW.out]
 clear HW
 go_region
 all_goals go_wp2_with (first|(go_at_call 135;(refine (Jj _ slots _ _ ?hc).mono ?_);(case hc=>first|(go_simp;done)|(go_simp;rfl));rintro e w1 ⟨rfl,rfl⟩))
 all_goals go_ret
 all_goals exact ⟨by (try clear nQ oO DJ Ro);simp [*],by repeat (first|exact HB.out|(refine Qa ?_ Ro.out)|apply ia|apply ua|apply qa|refine Aa ?_ (by first|omega|(simp;done)|(simp;omega)))⟩
set_option maxHeartbeats 2000000 in
set_option maxRecDepth 100000 in
theorem yI (A0 A4:Option Addr) (c0 c4 n0 n4:Nat) (p1 p2 slots d a b c n:Int) (t:ByteArray) (w:World) (hn0:n0 ≤ 9223372036854775807) (zz:n4 ≤ 9223372036854775807) :
  Calls Try.prog 118 #[.agg #[.slice A0 n0 c0,.int .i64 p1,.int .i64 p2,.int .i64 slots,.slice A4 n4 c4],.agg #[.int .i64 5,.int .i64 d,.int .i64 a,.int .i64 b,.int .i64 c,.int .i64 n,.string t]] w fun e w'=>e = .returned (.bool (Pj slots d && (a == 0 && (b == 0 && (c == 0 && (n == 0 && t.toList.isEmpty))))))∧Below w.heap.size w w':=by
 obtain ⟨W1,hW1⟩:∃ W1,W1=(w.alloc (.cells #[.slice A0 n0 c0,.int .i64 p1,.int .i64 p2,.int .i64 slots,.slice A4 n4 c4] 30 (0,0))).alloc (.cells #[.int .i64 5,.int .i64 d,.int .i64 a,.int .i64 b,.int .i64 c,.int .i64 n,.string t] 70 (0,0)):=⟨_,rfl⟩
 have HW:=ja.mk hW1
 have HB:=ja.mk (show Below w.heap.size w W1 from by rw [hW1];exact qa (qa (Below.refl _ _) _) _)
 have hz:W1.heap.size=w.heap.size + 2:=by rw [hW1];simp
 have fU:W1.cell? ⟨w.heap.size,3,none⟩=some (.int .i64 slots):=by rw [hW1];simp
 have hx0:W1.cell? ⟨w.heap.size + 1,0,none⟩=some (.int .i64 5):=by rw [hW1];simp
 have hx1:W1.cell? ⟨w.heap.size + 1,1,none⟩=some (.int .i64 d):=by rw [hW1];simp
 have Oq:W1.cell? ⟨w.heap.size + 1,2,none⟩=some (.int .i64 a):=by rw [hW1];simp
 have Nq:W1.cell? ⟨w.heap.size + 1,3,none⟩=some (.int .i64 b):=by rw [hW1];simp
 have rq:W1.cell? ⟨w.heap.size + 1,4,none⟩=some (.int .i64 c):=by rw [hW1];simp
 have Zz:W1.cell? ⟨w.heap.size + 1,5,none⟩=some (.int .i64 n):=by rw [hW1];simp
 have Yv:W1.cell? ⟨w.heap.size + 1,6,none⟩=some (.string t):=by rw [hW1];simp
 clear hW1
 go_enter Try.func118,Try.ntmps118
 go_wp2_with (first|(go_at_call 58;(with_reducible refine (Ri _ _ _ _).mono ?_);rintro e w1 ⟨rfl,⟨k1,rfl⟩⟩))
 rw [← HW.out]
 clear HW
 go_region
 all_goals go_wp2_with (first|(go_at_call 135;(refine (Jj _ slots _ _ ?hc).mono ?_);(case hc=>first|(go_simp;done)|(go_simp;rfl));rintro e w1 ⟨rfl,rfl⟩))
 all_goals go_ret
 all_goals exact ⟨by (try clear nQ oO DJ Ro);simp [*],by repeat (first|exact HB.out|(refine Qa ?_ Ro.out)|apply ia|apply ua|apply qa|refine Aa ?_ (by first|omega|(simp;done)|(simp;omega)))⟩
set_option maxHeartbeats 2000000 in
set_option maxRecDepth 100000 in
theorem xI (A0 A4:Option Addr) (c0 c4 n0 n4:Nat) (p1 p2 slots d a b c n:Int) (t:ByteArray) (w:World) (hn0:n0 ≤ 9223372036854775807) (zz:n4 ≤ 9223372036854775807) :
  Calls Try.prog 118 #[.agg #[.slice A0 n0 c0,.int .i64 p1,.int .i64 p2,.int .i64 slots,.slice A4 n4 c4],.agg #[.int .i64 6,.int .i64 d,.int .i64 a,.int .i64 b,.int .i64 c,.int .i64 n,.string t]] w fun e w'=>e = .returned (.bool (Pj slots a && (d == 0 && (b == 0 && (c == 0 && (n == 0 && t.toList.isEmpty))))))∧Below w.heap.size w w':=by
 obtain ⟨W1,hW1⟩:∃ W1,W1=(w.alloc (.cells #[.slice A0 n0 c0,.int .i64 p1,.int .i64 p2,.int .i64 slots,.slice A4 n4 c4] 30 (0,0))).alloc (.cells #[.int .i64 6,.int .i64 d,.int .i64 a,.int .i64 b,.int .i64 c,.int .i64 n,.string t] 70 (0,0)):=⟨_,rfl⟩
 have HW:=ja.mk hW1
 have HB:=ja.mk (show Below w.heap.size w W1 from by rw [hW1];exact qa (qa (Below.refl _ _) _) _)
 have hz:W1.heap.size=w.heap.size + 2:=by rw [hW1];simp
 have fU:W1.cell? ⟨w.heap.size,3,none⟩=some (.int .i64 slots):=by rw [hW1];simp
 have hx0:W1.cell? ⟨w.heap.size + 1,0,none⟩=some (.int .i64 6):=by rw [hW1];simp
 have hx1:W1.cell? ⟨w.heap.size + 1,1,none⟩=some (.int .i64 d):=by rw [hW1];simp
 have Oq:W1.cell? ⟨w.heap.size + 1,2,none⟩=some (.int .i64 a):=by rw [hW1];simp
 have Nq:W1.cell? ⟨w.heap.size + 1,3,none⟩=some (.int .i64 b):=by rw [hW1];simp
 have rq:W1.cell? ⟨w.heap.size + 1,4,none⟩=some (.int .i64 c):=by rw [hW1];simp
 have Zz:W1.cell? ⟨w.heap.size + 1,5,none⟩=some (.int .i64 n):=by rw [hW1];simp
 have Yv:W1.cell? ⟨w.heap.size + 1,6,none⟩=some (.string t):=by rw [hW1];simp
 clear hW1
 go_enter Try.func118,Try.ntmps118
 go_wp2_with (first|(go_at_call 58;(with_reducible refine (Ri _ _ _ _).mono ?_);rintro e w1 ⟨rfl,⟨k1,rfl⟩⟩))
 rw [← HW.out]
 clear HW
 go_region
 all_goals go_wp2_with (first|(go_at_call 135;(refine (Jj _ slots _ _ ?hc).mono ?_);(case hc=>first|(go_simp;done)|(go_simp;rfl));rintro e w1 ⟨rfl,rfl⟩))
 all_goals go_ret
 all_goals exact ⟨by (try clear nQ oO DJ Ro);simp [*],by repeat (first|exact HB.out|(refine Qa ?_ Ro.out)|apply ia|apply ua|apply qa|refine Aa ?_ (by first|omega|(simp;done)|(simp;omega)))⟩
set_option maxHeartbeats 2000000 in
set_option maxRecDepth 100000 in
theorem yD (A0 A4:Option Addr) (c0 c4 n0 n4:Nat) (p1 p2 slots d a b c n:Int) (t:ByteArray) (w:World) (hn0:n0 ≤ 9223372036854775807) (zz:n4 ≤ 9223372036854775807) (o:Int) (h0:(o == 0)=false) (h1:(o == 1)=false) (h2:(o == 2)=false) (h3:(o == 3)=false) (h4:(o == 4)=false) (h5:(o == 5)=false) (h6:(o == 6)=false) :
  Calls Try.prog 118 #[.agg #[.slice A0 n0 c0,.int .i64 p1,.int .i64 p2,.int .i64 slots,.slice A4 n4 c4],.agg #[.int .i64 o,.int .i64 d,.int .i64 a,.int .i64 b,.int .i64 c,.int .i64 n,.string t]] w fun e w'=>e = .returned (.bool (false))∧Below w.heap.size w w':=by
 obtain ⟨W1,hW1⟩:∃ W1,W1=(w.alloc (.cells #[.slice A0 n0 c0,.int .i64 p1,.int .i64 p2,.int .i64 slots,.slice A4 n4 c4] 30 (0,0))).alloc (.cells #[.int .i64 o,.int .i64 d,.int .i64 a,.int .i64 b,.int .i64 c,.int .i64 n,.string t] 70 (0,0)):=⟨_,rfl⟩
 have HW:=ja.mk hW1
 have HB:=ja.mk (show Below w.heap.size w W1 from by rw [hW1];exact qa (qa (Below.refl _ _) _) _)
 have hz:W1.heap.size=w.heap.size + 2:=by rw [hW1];simp
 have fU:W1.cell? ⟨w.heap.size,3,none⟩=some (.int .i64 slots):=by rw [hW1];simp
 have hx0:W1.cell? ⟨w.heap.size + 1,0,none⟩=some (.int .i64 o):=by rw [hW1];simp
 have hx1:W1.cell? ⟨w.heap.size + 1,1,none⟩=some (.int .i64 d):=by rw [hW1];simp
 have Oq:W1.cell? ⟨w.heap.size + 1,2,none⟩=some (.int .i64 a):=by rw [hW1];simp
 have Nq:W1.cell? ⟨w.heap.size + 1,3,none⟩=some (.int .i64 b):=by rw [hW1];simp
 have rq:W1.cell? ⟨w.heap.size + 1,4,none⟩=some (.int .i64 c):=by rw [hW1];simp
 have Zz:W1.cell? ⟨w.heap.size + 1,5,none⟩=some (.int .i64 n):=by rw [hW1];simp
 have Yv:W1.cell? ⟨w.heap.size + 1,6,none⟩=some (.string t):=by rw [hW1];simp
 clear hW1
 go_enter Try.func118,Try.ntmps118
 go_wp2_with (first|(go_at_call 58;(with_reducible refine (Ri _ _ _ _).mono ?_);rintro e w1 ⟨rfl,⟨k1,rfl⟩⟩))
 rw [← HW.out]
 clear HW
 go_region
 all_goals go_wp2_with (first|(go_at_call 135;(refine (Jj _ slots _ _ ?hc).mono ?_);(case hc=>first|(go_simp;done)|(go_simp;rfl));rintro e w1 ⟨rfl,rfl⟩))
 all_goals go_ret
 all_goals exact ⟨by (try clear nQ oO DJ Ro);simp [*],by repeat (first|exact HB.out|(refine Qa ?_ Ro.out)|apply ia|apply ua|apply qa|refine Aa ?_ (by first|omega|(simp;done)|(simp;omega)))⟩
def fk (n0:Nat) (slots:Int) (o d a b c n:Int) (t:ByteArray):Bool :=
 if o=0 then Pj slots d && (a == 0 && (b == 0 && (c == 0 && t.toList.isEmpty)))
 else if o=1 then Pj slots d && Pj slots a && (b == 0 && (c == 0 && (n == 0 && t.toList.isEmpty)))
 else if o=2 then Pj slots d && Pj slots a && Pj slots b && Us t && (c == 0 && n == 0)
 else if o=3 then Pj slots d && Pj slots b && Qj n 0 ((n0:Int) - 1) && (Pj slots a || a == -1) && (c == 0 && t.toList.isEmpty)
 else if o=4 then Pj slots c && Pj slots b && Qj n 0 ((n0:Int) - 1) && (Pj slots a || a == -1) && (d == 0 && t.toList.isEmpty)
 else if o=5 then Pj slots d && (a == 0 && (b == 0 && (c == 0 && (n == 0 && t.toList.isEmpty))))
 else if o=6 then Pj slots a && (d == 0 && (b == 0 && (c == 0 && (n == 0 && t.toList.isEmpty))))
 else false
theorem TB (A0 A4:Option Addr) (c0 c4 n0 n4:Nat) (p1 p2 slots:Int) (w:World) (hn0:n0 ≤ 9223372036854775807) (zz:n4 ≤ 9223372036854775807) (o d a b c n:Int) (t:ByteArray) :
  Calls Try.prog 118 #[.agg #[.slice A0 n0 c0,.int .i64 p1,.int .i64 p2,.int .i64 slots,.slice A4 n4 c4],.agg #[.int .i64 o,.int .i64 d,.int .i64 a,.int .i64 b,.int .i64 c,.int .i64 n,.string t]] w fun e w'=>e = .returned (.bool (fk n0 slots o d a b c n t))∧Below w.heap.size w w':=by
 unfold fk
 by_cases h0:o=0
 ·rw [if_pos h0,h0]
  exact EI A0 A4 c0 c4 n0 n4 p1 p2 slots d a b c n t w hn0 zz
 rw [if_neg h0]
 by_cases h1:o=1
 ·rw [if_pos h1,h1]
  exact DI A0 A4 c0 c4 n0 n4 p1 p2 slots d a b c n t w hn0 zz
 rw [if_neg h1]
 by_cases h2:o=2
 ·rw [if_pos h2,h2]
  exact CI A0 A4 c0 c4 n0 n4 p1 p2 slots d a b c n t w hn0 zz
 rw [if_neg h2]
 by_cases h3:o=3
 ·rw [if_pos h3,h3]
  exact BI A0 A4 c0 c4 n0 n4 p1 p2 slots d a b c n t w hn0 zz
 rw [if_neg h3]
 by_cases h4:o=4
 ·rw [if_pos h4,h4]
  exact zI A0 A4 c0 c4 n0 n4 p1 p2 slots d a b c n t w hn0 zz
 rw [if_neg h4]
 by_cases h5:o=5
 ·rw [if_pos h5,h5]
  exact yI A0 A4 c0 c4 n0 n4 p1 p2 slots d a b c n t w hn0 zz
 rw [if_neg h5]
 by_cases h6:o=6
 ·rw [if_pos h6,h6]
  exact xI A0 A4 c0 c4 n0 n4 p1 p2 slots d a b c n t w hn0 zz
 rw [if_neg h6]
 exact yD A0 A4 c0 c4 n0 n4 p1 p2 slots d a b c n t w hn0 zz o (beq_eq_false_iff_ne.mpr h0) (beq_eq_false_iff_ne.mpr h1) (beq_eq_false_iff_ne.mpr h2) (beq_eq_false_iff_ne.mpr h3) (beq_eq_false_iff_ne.mpr h4) (beq_eq_false_iff_ne.mpr h5) (beq_eq_false_iff_ne.mpr h6)
def uj (n0:Nat) (slots:Int) (x:Bf):Bool:=fk n0 slots x.f0 x.f1 x.f2 x.f3 x.f4 x.f5 x.f6
def Gk (n0:Nat) (slots:Int) (n4:Nat) (code:List Bf) (j a tg els:Int):Bool :=
 !(code.any fun x=>!uj n0 slots x) && decide (0 ≤ slots) &&
  (if j=0 then Qj tg 0 ((n4:Int) - 1) && a == 0 && els == 0
   else if j=1 then Qj tg 0 ((n4:Int) - 1) && Qj els 0 ((n4:Int) - 1) && Pj slots a
   else if j=2 then Pj slots a && tg == 0 && els == 0
   else false)
set_option maxHeartbeats 400000 in
theorem FI (B:Nat) (A0 A4:Option Addr) (c0 c4 n0 n4:Nat) (p1 p2 slots:Int) (hn0:n0 ≤ 9223372036854775807) (zz:n4 ≤ 9223372036854775807) (W:World) (x:Bf)
  (hb0:W.cell? ⟨B,0,none⟩=some (.slice A0 n0 c0)) (hb1:W.cell? ⟨B,1,none⟩=some (.int .i64 p1)) (hb2:W.cell? ⟨B,2,none⟩=some (.int .i64 p2)) (hb3:W.cell? ⟨B,3,none⟩=some (.int .i64 slots)) (BV:W.cell? ⟨B,4,none⟩=some (.slice A4 n4 c4)) (hB:B < W.heap.size) :
  Calls Try.prog 117 #[.agg #[.int .i64 x.f0,.int .i64 x.f1,.int .i64 x.f2,.int .i64 x.f3,.int .i64 x.f4,.int .i64 x.f5,.string x.f6],.pointer (some ⟨B,0,none⟩)] W
   fun e w'=>e = .returned (.bool (!uj n0 slots x))∧Below W.heap.size W w':=by
 have hne:B ≠ W.heap.size:=by omega
 unfold uj
 have HC:=ja.mk (fun W'=>TB A0 A4 c0 c4 n0 n4 p1 p2 slots W' hn0 zz x.f0 x.f1 x.f2 x.f3 x.f4 x.f5 x.f6)
 generalize fk n0 slots x.f0 x.f1 x.f2 x.f3 x.f4 x.f5 x.f6=b at HC ⊢
 go_enter Try.func117,Try.ntmps117
 go_wp2_with (go_at_call 118;(with_reducible refine (HC.out _).mono ?_);rintro e w1 ⟨rfl,hb⟩;have HD:=ja.mk (Qa (qa (Below.refl _ _) _) hb);clear hb)
 go_ret
 exact ⟨rfl,HD.out⟩
set_option maxHeartbeats 2000000 in
set_option maxRecDepth 100000 in
theorem UB (A0 A4 A5:Option Addr) (c0 c4 c5 n0 n4:Nat) (p1 p2 slots:Int) (l5:List Bf) (j a tg els:Int) (w:World) (hn0:n0 ≤ 9223372036854775807) (zz:n4 ≤ 9223372036854775807) (hr5:Kd.C Ij w A5 l5.length l5) (S1:l5.length ≤ c5) :
  Calls Try.prog 90 #[.agg #[.slice A0 n0 c0,.int .i64 p1,.int .i64 p2,.int .i64 slots,.slice A4 n4 c4],.agg #[.slice A5 l5.length c5,.int .i64 j,.int .i64 a,.int .i64 tg,.int .i64 els]] w fun e w'=>e = .returned (.bool (Gk n0 slots n4 l5 j a tg els))∧Below w.heap.size w w':=by
 have eg:=enters_of Try.func117 (by kernel_rfl) rfl
 have N7:=hr5.2.1
 obtain ⟨W1,hW1⟩:∃ W1,W1=(w.alloc (.cells #[.slice A0 n0 c0,.int .i64 p1,.int .i64 p2,.int .i64 slots,.slice A4 n4 c4] 30 (0,0))).alloc (.cells #[.slice A5 l5.length c5,.int .i64 j,.int .i64 a,.int .i64 tg,.int .i64 els] 68 (0,0)):=⟨_,rfl⟩
 have HW:=ja.mk hW1
 have hB1:Below w.heap.size w W1:=by rw [hW1];exact qa (qa (Below.refl _ _) _) _
 have hz:W1.heap.size=w.heap.size + 2:=by rw [hW1];simp
 have bK:W1.cell? ⟨w.heap.size,0,none⟩=some (.slice A0 n0 c0):=by rw [hW1];simp
 have DB:W1.cell? ⟨w.heap.size,1,none⟩=some (.int .i64 p1):=by rw [hW1];simp
 have QE:W1.cell? ⟨w.heap.size,2,none⟩=some (.int .i64 p2):=by rw [hW1];simp
 have VC:W1.cell? ⟨w.heap.size,3,none⟩=some (.int .i64 slots):=by rw [hW1];simp
 have DD:W1.cell? ⟨w.heap.size,4,none⟩=some (.slice A4 n4 c4):=by rw [hW1];simp
 have hx0:W1.cell? ⟨w.heap.size + 1,0,none⟩=some (.slice A5 l5.length c5):=by rw [hW1];simp
 have hx1:W1.cell? ⟨w.heap.size + 1,1,none⟩=some (.int .i64 j):=by rw [hW1];simp
 have Oq:W1.cell? ⟨w.heap.size + 1,2,none⟩=some (.int .i64 a):=by rw [hW1];simp
 have Nq:W1.cell? ⟨w.heap.size + 1,3,none⟩=some (.int .i64 tg):=by rw [hW1];simp
 have rq:W1.cell? ⟨w.heap.size + 1,4,none⟩=some (.int .i64 els):=by rw [hW1];simp
 have aC:=Kd.Mb hr5 hB1
 clear hW1 hr5
 have HF:=ja.mk (Ks 117 #[.pointer (some ⟨w.heap.size,0,none⟩)] (fun x=>!uj n0 slots x) eg A5 c5 l5 W1 aC S1
  (fun W2 x hb'=>FI w.heap.size A0 A4 c0 c4 n0 n4 p1 p2 slots hn0 zz W2 x ((hb'.cell (p:=⟨w.heap.size,0,none⟩) (by simp;omega)).trans bK) ((hb'.cell (p:=⟨w.heap.size,1,none⟩) (by simp;omega)).trans DB) ((hb'.cell (p:=⟨w.heap.size,2,none⟩) (by simp;omega)).trans QE) ((hb'.cell (p:=⟨w.heap.size,3,none⟩) (by simp;omega)).trans VC) ((hb'.cell (p:=⟨w.heap.size,4,none⟩) (by simp;omega)).trans DD) (Nat.lt_of_lt_of_le (by omega) hb'.size)))
 have HB:=ja.mk hB1
 clear aC hB1 eg
 unfold Gk
 cases hq:l5.any (fun x=>!uj n0 slots x) with
 | true =>
  rw [hq] at HF
  go_enter Try.func90,Try.ntmps90
  go_upto_region 1 with (fail)
  rw [← HW.out]
  clear HW
  go_wp2_with (first|(go_at_call 116;(with_reducible refine HF.out.mono ?_);rintro e w2 ⟨rfl,hb2⟩;have Ro:=ja.mk hb2;clear hb2))
  all_goals
   go_ret
   exact ⟨by simp,Qa HB.out Ro.out⟩
 | false =>
  rw [hq] at HF
  cases ha0:decide (0 ≤ a)
  all_goals
   go_enter Try.func90,Try.ntmps90
   go_upto_region 1 with (fail)
   rw [← HW.out]
   clear HW
   go_upto_region 3 with (first|(go_at_call 116;(with_reducible refine HF.out.mono ?_);rintro e w2 ⟨rfl,hb2⟩;replace VC:=(hb2.cell (World.block_lt_of_cell? W1 _ VC)).trans VC;replace DD:=(hb2.cell (World.block_lt_of_cell? W1 _ DD)).trans DD;replace hx1:=(hb2.cell (World.block_lt_of_cell? W1 _ hx1)).trans hx1;replace Oq:=(hb2.cell (World.block_lt_of_cell? W1 _ Oq)).trans Oq;replace Nq:=(hb2.cell (World.block_lt_of_cell? W1 _ Nq)).trans Nq;replace rq:=(hb2.cell (World.block_lt_of_cell? W1 _ rq)).trans rq;have Ro:=ja.mk (Qa HB.out hb2);clear hb2 HB bK DB QE hx0))
   go_quiet ((go_at_call 58;exact Calls.quiet_of ((Ri _ _ _ _).mono fun _ _ ⟨he,hm⟩=>⟨he,hm.out⟩)))
   go_wp2
   all_goals go_ret
   all_goals exact ⟨by first|(simp [Pj, *];done)|(simp [Pj, *];intros;omega)|(clear HF VC DD hx1 Oq Nq rq;simp_all [Pj];done)|(clear HF VC DD hx1 Oq Nq rq;simp_all [Pj];omega),by repeat (first|exact Ro.out|apply ia)⟩
def Si.f (Ta:List Int) (Ma:Int) (Oa:Int) (Pa:Int) (Sa:List (gh)) (Dd:List (Bf)) (Fb:Int) (Ob:Int) (Rb:Int) (Qc:Int):Option Bool:=some (Gk Ta.length Pa Sa.length Dd Fb Ob Rb Qc)
theorem Si.calls (Cb:Option Addr) (Bb:Nat) (Ta:List Int) (Ma:Int) (Oa:Int) (Pa:Int) (yc:Option Addr) (Xb:Nat) (Sa:List (gh)) (Vf:Option Addr) (Nf:Nat) (Dd:List (Bf)) (Fb:Int) (Ob:Int) (Rb:Int) (Qc:Int) (r:Bool) (w:World) (Rf:Kd.C (Kd.int .i64) w Cb Ta.length Ta) (Pf:Ta.length ≤ Bb) (Bg:Kd.C Wo w yc Sa.length Sa) (Eg:Sa.length ≤ Xb) (js:Kd.C Ij w Vf Dd.length Dd) (Bs:Dd.length ≤ Nf) (h:Si.f Ta Ma Oa Pa Sa Dd Fb Ob Rb Qc=some r) :
  Calls Try.prog 90 #[.agg #[.slice Cb Ta.length Bb,.int .i64 Ma,.int .i64 Oa,.int .i64 Pa,.slice yc Sa.length Xb],.agg #[.slice Vf Dd.length Nf,.int .i64 Fb,.int .i64 Ob,.int .i64 Rb,.int .i64 Qc]] w fun e w'=>e = .returned (.bool r)∧Below w.heap.size w w':=by
 injection h with h
 subst h
 exact UB Cb yc Vf Bb Xb Nf Ta.length Sa.length Ma Oa Pa Dd Fb Ob Rb Qc w Rf.2.1 Bg.2.1 js Bs
mutual
def zb.j0:Nat→Bool→List Int→Int→Int→Int→List (gh)→Option (Bool)
 | 0,_,_,_,_,_,_=>none
 | k + 1,x29,x102000,ke,x102002,x102003,x102004=>if x29=true then (some false) else (zb.l0 k 0 x102004 (x102004.length:Int) 0 x102000 ke x102002 x102003 x102004)
def zb.l0:Nat→Int→List (gh)→Int→Int→List Int→Int→Int→Int→List (gh)→Option (Bool)
 | 0,_,_,_,_,_,_,_,_,_=>none
 | k + 1,x3,x31,x32,x33,x102000,ke,x102002,x102003,x102004=>if x33 < x32 then (if 0 ≤ x33 then (if x33 < (x31.length:Int) then ((Si.f x102000 ke x102002 x102003 x102004 ((Xa x31 x33).f0) ((Xa x31 x33).f1) ((Xa x31 x33).f2) ((Xa x31 x33).f3) ((Xa x31 x33).f4)).bind fun t107=>(if t107=true then (zb.l0 k (wrap64 (x3 + (((Xa x31 x33).f0).length:Int))) x31 x32 (wrap64 (x33 + 1)) x102000 ke x102002 x102003 x102004) else (some false))) else (none)) else (none)) else (some (decide (x3 ≤ 1000)))
end
def zb.f (k:Nat) (Ta:List Int) (Ma:Int) (Oa:Int) (Pa:Int) (Sa:List (gh)):Option (Bool):=(Lg.f Ta Ma Oa ([]:List (jv))).bind fun t102=>(if t102=true then ((Hh.f Pa Oa 1000).bind fun t103=>(if t103=true then ((Hh.f (Sa.length:Int) 1 300).bind fun t104=>(zb.j0 k (!t104) Ta Ma Oa Pa Sa)) else (zb.j0 k true Ta Ma Oa Pa Sa))) else (zb.j0 k true Ta Ma Oa Pa Sa))
theorem zb.Sd:∀ k,(∀ y0 y1 y2 y3 y4 y5,Lb (zb.j0 k y0 y1 y2 y3 y4 y5) (zb.j0 (k + 1) y0 y1 y2 y3 y4 y5))∧(∀ y0 y1 y2 y3 y4 y5 y6 y7 y8,Lb (zb.l0 k y0 y1 y2 y3 y4 y5 y6 y7 y8) (zb.l0 (k + 1) y0 y1 y2 y3 y4 y5 y6 y7 y8))
 | 0=>⟨fun _ _ _ _ _ _ r h=>by simp [zb.j0] at h,fun _ _ _ _ _ _ _ _ _ r h=>by simp [zb.l0] at h⟩
 | k + 1=>by
  obtain ⟨Ff,ih1⟩:=zb.Sd k
  refine ⟨?_,?_⟩
  ·intro y0 y1 y2 y3 y4 y5
   unfold zb.j0
   repeat' first
   | (with_reducible exact Ff _ _ _ _ _ _)
   | (with_reducible exact ih1 _ _ _ _ _ _ _ _ _)
   | (with_reducible exact Lb.refl _)
   | (with_reducible exact Lb.none _)
   | (with_reducible refine Lb.ite ?_ ?_)
   | (with_reducible refine Lb.bind ?_ (fun _=>?_))
   | exact Ff _ _ _ _ _ _
   | exact ih1 _ _ _ _ _ _ _ _ _
   | exact Lb.none _
   | refine Lb.ite ?_ ?_
   | refine Lb.bind ?_ (fun _=>?_)
  ·intro y0 y1 y2 y3 y4 y5 y6 y7 y8
   unfold zb.l0
   repeat' first
   | (with_reducible exact Ff _ _ _ _ _ _)
   | (with_reducible exact ih1 _ _ _ _ _ _ _ _ _)
   | (with_reducible exact Lb.refl _)
   | (with_reducible exact Lb.none _)
   | (with_reducible refine Lb.ite ?_ ?_)
   | (with_reducible refine Lb.bind ?_ (fun _=>?_))
   | exact Ff _ _ _ _ _ _
   | exact ih1 _ _ _ _ _ _ _ _ _
   | exact Lb.none _
   | refine Lb.ite ?_ ?_
   | refine Lb.bind ?_ (fun _=>?_)
theorem zb.mono:∀ a0 a1 a2 a3 a4 k,Lb (zb.f k a0 a1 a2 a3 a4) (zb.f (k + 1) a0 a1 a2 a3 a4):=by
 intro a0 a1 a2 a3 a4 k
 obtain ⟨Ff,ih1⟩:=zb.Sd k
 unfold zb.f
 repeat' first
   | (with_reducible exact Ff _ _ _ _ _ _)
   | (with_reducible exact ih1 _ _ _ _ _ _ _ _ _)
   | (with_reducible exact Lb.refl _)
   | (with_reducible exact Lb.none _)
   | (with_reducible refine Lb.ite ?_ ?_)
   | (with_reducible refine Lb.bind ?_ (fun _=>?_))
   | exact Ff _ _ _ _ _ _
   | exact ih1 _ _ _ _ _ _ _ _ _
   | exact Lb.none _
   | refine Lb.ite ?_ ?_
   | refine Lb.bind ?_ (fun _=>?_)
set_option maxHeartbeats 8000000 in
set_option maxRecDepth 100000 in
theorem zb.calls (k:Nat) (Cb:Option Addr) (Bb:Nat) (Ta:List Int) (Ma:Int) (Oa:Int) (Pa:Int) (yc:Option Addr) (Xb:Nat) (Sa:List (gh)) (r:Bool) (w:World) (Rf:Kd.C (Kd.int .i64) w Cb Ta.length Ta) (Pf:Ta.length ≤ Bb) (Bg:Kd.C Wo w yc Sa.length Sa) (Eg:Sa.length ≤ Xb) (h:zb.f k Ta Ma Oa Pa Sa=some r) :
  Calls Try.prog 57 #[.agg #[.slice Cb Ta.length Bb,.int .i64 Ma,.int .i64 Oa,.int .i64 Pa,.slice yc Sa.length Xb]] w fun e w'=>e = .returned (.bool r)∧Below w.heap.size w w':=by
 have ZB:=Try.underlying30
 have jai:=Try.underlying124
 have JI:=Try.underlying68
 have ig:=ja.mk Rf
 have mg:=ja.mk Pf
 clear Rf Pf
 have oh:=ja.mk Bg
 have qj:=ja.mk Eg
 clear Bg Eg
 have HB:=ja.mk (Below.refl w.heap.size w)
 have H:((Lg.f Ta Ma Oa ([]:List (jv))).bind fun t102=>(if t102=true then ((Hh.f Pa Oa 1000).bind fun t103=>(if t103=true then ((Hh.f (Sa.length:Int) 1 300).bind fun t104=>(zb.j0 k (!t104) Ta Ma Oa Pa Sa)) else (zb.j0 k true Ta Ma Oa Pa Sa))) else (zb.j0 k true Ta Ma Oa Pa Sa)))=some r:=h
 clear h
 have NV:=ja.mk H
 clear H
 go_enter Try.func57,Try.ntmps57
 go_upto_region 1 with (first|((with_reducible refine Kb (N:=1) rfl ?_);(try (refine Ch (by rfl) ?_;dsimp only));refine Eb ?hg (N:=1) ?hd (cs:=#[.slice Cb Ta.length Bb,.int .i64 Ma,.int .i64 Oa,.int .i64 Pa,.slice yc Sa.length Xb]) (t:=30) ?hr ?_;(case hd=>rfl);(case hg=>rfl);(case hr=>first|(go_simp;done)|(go_simp;rfl));intro Ea hg w3 Tb hb;have Gb:=ja.mk (Qa (by repeat (first|(with_reducible first|exact HB.out|apply qa|apply ia|apply ua)|exact HB.out)) hb);have Vb:=ja.mk (Tb);have Ac:=ja.mk ((by rw [hg];exact (Ra (by repeat (first|(with_reducible first|exact HB.out|apply qa|apply ia|apply ua)|exact HB.out))):w.heap.size ≤ Ea));have ud:=ja.mk ((by rw [hg];exact (Ra (by repeat (first|(with_reducible first|exact HB.out|apply qa|apply ia|apply ua)|exact HB.out))):w.heap.size ≤ Ea));clear HB;have HB:=Gb;have za:=Vb;have Be:=Ac;have Wa:=ud;clear Gb Vb Ac ud;clear hb Tb hg))
 (try simp only [Act.put,List.setIfInBounds_toArray,List.set_cons_zero,List.set_cons_succ])
 go_cut [29] (fun v29 wc=>∃ (kq:Nat) (EE:Bool),v29 = .bool EE∧ja (zb.j0 kq EE Ta Ma Oa Pa Sa=some r)∧ja (kq ≤ k)∧ja (wc.heap[Ea]? = some (.cells #[(.slice Cb Ta.length Bb),.int .i64 Ma,.int .i64 Oa,.int .i64 Pa,(.slice yc Sa.length Xb)] 30 (0,0)))∧ja (Below w.heap.size w wc))
 case first =>
  have H:=NV.out
  clear NV
  replace H:=Option.bind_eq_some_iff.mp H
  obtain ⟨t102,Q6,H⟩:=H
  replace H:(if t102=true then ((Hh.f Pa Oa 1000).bind fun t103=>(if t103=true then ((Hh.f (Sa.length:Int) 1 300).bind fun t104=>(zb.j0 k (!t104) Ta Ma Oa Pa Sa)) else (zb.j0 k true Ta Ma Oa Pa Sa))) else (zb.j0 k true Ta Ma Oa Pa Sa))=some r:=H
  have A4:=ja.mk Q6
  clear Q6
  by_cases c5:t102=true
  ·subst c5
   have H1:((Hh.f Pa Oa 1000).bind fun t103=>(if t103=true then ((Hh.f (Sa.length:Int) 1 300).bind fun t104=>(zb.j0 k (!t104) Ta Ma Oa Pa Sa)) else (zb.j0 k true Ta Ma Oa Pa Sa)))=some r:=by rw [if_pos rfl] at H;exact H
   clear H
   have H:=H1
   clear H1
   replace H:=Option.bind_eq_some_iff.mp H
   obtain ⟨t103,wS,H⟩:=H
   replace H:(if t103=true then ((Hh.f (Sa.length:Int) 1 300).bind fun t104=>(zb.j0 k (!t104) Ta Ma Oa Pa Sa)) else (zb.j0 k true Ta Ma Oa Pa Sa))=some r:=H
   have A6:=ja.mk wS
   clear wS
   by_cases c7:t103=true
   ·subst c7
    have H1:((Hh.f (Sa.length:Int) 1 300).bind fun t104=>(zb.j0 k (!t104) Ta Ma Oa Pa Sa))=some r:=by rw [if_pos rfl] at H;exact H
    clear H
    have H:=H1
    clear H1
    replace H:=Option.bind_eq_some_iff.mp H
    obtain ⟨t104,OL,H⟩:=H
    replace H:(zb.j0 k (!t104) Ta Ma Oa Pa Sa)=some r:=H
    have A8:=ja.mk OL
    clear OL
    have H':=ja.mk H
    clear H
    have Mo:w3.cell? ⟨Ea,0,none⟩=some (.slice Cb Ta.length Bb):=(ga za.out 0).trans rfl
    have Lo:w3.cell? ⟨Ea,1,none⟩=some (.int .i64 Ma):=(ga za.out 1).trans rfl
    have Ko:w3.cell? ⟨Ea,2,none⟩=some (.int .i64 Oa):=(ga za.out 2).trans rfl
    have Jo:w3.cell? ⟨Ea,3,none⟩=some (.int .i64 Pa):=(ga za.out 3).trans rfl
    have Io:w3.cell? ⟨Ea,4,none⟩=some (.slice yc Sa.length Xb):=(ga za.out 4).trans rfl
    have Ho:=aa za.out 0
    have Fo:=aa za.out 1
    have Eo:=aa za.out 2
    have Co:=aa za.out 3
    have Bo:=aa za.out 4
    go_wp2_with (first|((with_reducible refine mb (f:=89) rfl ?_);refine yd (some 13) rfl rfl Try.func89 (by kernel_rfl) rfl #[.agg #[.slice Cb Ta.length Bb,.int .i64 Ma,.int .i64 Oa,.slice none 0 0]] rfl (by (try simp only [List.map_toArray,List.map_cons,List.map_nil]);first|done|rfl|(simp only [List.length_drop,List.length_take];rfl)) ?_;(refine (Lg.calls _ _ Ta Ma Oa _ _ ([]:List (jv)) true _ ?side1 ?side2 ?side3 ?side4 A4.out).mono ?_);(case side1=>repeat (first|exact (Kd.Mb ig.out HB.out)|(with_reducible refine Kd.Sc ?_ _)|(with_reducible refine Kd.Rc ?_ _)|(with_reducible refine Kd.Qd ?_)));(case side2=>exact mg.out);(case side3=>exact Kd.ML _ _);(case side4=>exact Nat.le_refl _);rintro e Hq ⟨rfl,hb⟩;refine ⟨_,rfl,?_⟩;have Gb:=ja.mk (gb (g:=Ea) (o:=.cells #[.slice Cb Ta.length Bb,.int .i64 Ma,.int .i64 Oa,.int .i64 Pa,.slice yc Sa.length Xb] 30 (0,0)) (by (with_reducible repeat (first|refine Da ?_ _|refine Ga ?_|refine Ca ?_ _));exact za.out) hb);have Vb:=ja.mk (Qa (by repeat (first|(with_reducible first|exact HB.out|apply qa|apply ia|apply ua|refine Aa ?_ Wa.out)|exact HB.out)) hb);clear za;clear HB;have za:=Gb;have HB:=Vb;clear Gb Vb;(try clear hb);(try clear hb2);(try clear hk);(try clear hi);have El:Hq.cell? ⟨Ea,0,none⟩=some (.slice Cb Ta.length Bb):=(ga za.out 0).trans rfl;have Dl:Hq.cell? ⟨Ea,1,none⟩=some (.int .i64 Ma):=(ga za.out 1).trans rfl;have Bu:Hq.cell? ⟨Ea,2,none⟩=some (.int .i64 Oa):=(ga za.out 2).trans rfl;have Au:Hq.cell? ⟨Ea,3,none⟩=some (.int .i64 Pa):=(ga za.out 3).trans rfl;have zu:Hq.cell? ⟨Ea,4,none⟩=some (.slice yc Sa.length Xb):=(ga za.out 4).trans rfl;have Cl:=aa za.out 0;have Bl:=aa za.out 1;have Zt:=aa za.out 2;have Yt:=aa za.out 3;have Xt:=aa za.out 4)|(go_at_call 58;(with_reducible refine (Hh.calls Pa Oa 1000 true _ A6.out).mono ?_);rintro e w' ⟨rfl,⟨nd,rfl⟩⟩)|(go_at_call 58;(with_reducible refine (Hh.calls (Sa.length:Int) 1 300 t104 _ A8.out).mono ?_);rintro e w' ⟨rfl,⟨nd,rfl⟩⟩))
    go_meet
    case rel=>exact ⟨_,(!t104),(by first|rfl|(simp;done)|(simp [*];done)),H',⟨by first|omega|exact Nat.le_refl _⟩,⟨by (with_reducible repeat (first|refine Da ?_ _|refine Ga ?_|refine Ca ?_ _));exact za.out⟩,⟨by repeat (first|(with_reducible first|exact HB.out|apply qa|apply ia|apply ua|refine Aa ?_ Wa.out)|exact HB.out)⟩⟩
   ·replace c7:=Bool.eq_false_iff.mpr c7
    subst c7
    have H1:(zb.j0 k true Ta Ma Oa Pa Sa)=some r:=by rw [if_neg (show ¬ (false=true) by decide)] at H;exact H
    clear H
    have H:=H1
    clear H1
    have H':=ja.mk H
    clear H
    have gq:w3.cell? ⟨Ea,0,none⟩=some (.slice Cb Ta.length Bb):=(ga za.out 0).trans rfl
    have fq:w3.cell? ⟨Ea,1,none⟩=some (.int .i64 Ma):=(ga za.out 1).trans rfl
    have cq:w3.cell? ⟨Ea,2,none⟩=some (.int .i64 Oa):=(ga za.out 2).trans rfl
    have bq:w3.cell? ⟨Ea,3,none⟩=some (.int .i64 Pa):=(ga za.out 3).trans rfl
    have aq:w3.cell? ⟨Ea,4,none⟩=some (.slice yc Sa.length Xb):=(ga za.out 4).trans rfl
    have Np:=aa za.out 0
    have Mp:=aa za.out 1
    have Lp:=aa za.out 2
    have Kp:=aa za.out 3
    have Jp:=aa za.out 4
    go_wp2_with (first|((with_reducible refine mb (f:=89) rfl ?_);refine yd (some 13) rfl rfl Try.func89 (by kernel_rfl) rfl #[.agg #[.slice Cb Ta.length Bb,.int .i64 Ma,.int .i64 Oa,.slice none 0 0]] rfl (by (try simp only [List.map_toArray,List.map_cons,List.map_nil]);first|done|rfl|(simp only [List.length_drop,List.length_take];rfl)) ?_;(refine (Lg.calls _ _ Ta Ma Oa _ _ ([]:List (jv)) true _ ?side1 ?side2 ?side3 ?side4 A4.out).mono ?_);(case side1=>repeat (first|exact (Kd.Mb ig.out HB.out)|(with_reducible refine Kd.Sc ?_ _)|(with_reducible refine Kd.Rc ?_ _)|(with_reducible refine Kd.Qd ?_)));(case side2=>exact mg.out);(case side3=>exact Kd.ML _ _);(case side4=>exact Nat.le_refl _);rintro e FB ⟨rfl,hb⟩;refine ⟨_,rfl,?_⟩;have Gb:=ja.mk (gb (g:=Ea) (o:=.cells #[.slice Cb Ta.length Bb,.int .i64 Ma,.int .i64 Oa,.int .i64 Pa,.slice yc Sa.length Xb] 30 (0,0)) (by (with_reducible repeat (first|refine Da ?_ _|refine Ga ?_|refine Ca ?_ _));exact za.out) hb);have Vb:=ja.mk (Qa (by repeat (first|(with_reducible first|exact HB.out|apply qa|apply ia|apply ua|refine Aa ?_ Wa.out)|exact HB.out)) hb);clear za;clear HB;have za:=Gb;have HB:=Vb;clear Gb Vb;(try clear hb);(try clear hb2);(try clear hk);(try clear hi);have uo:FB.cell? ⟨Ea,0,none⟩=some (.slice Cb Ta.length Bb):=(ga za.out 0).trans rfl;have qo:FB.cell? ⟨Ea,1,none⟩=some (.int .i64 Ma):=(ga za.out 1).trans rfl;have Zp:FB.cell? ⟨Ea,2,none⟩=some (.int .i64 Oa):=(ga za.out 2).trans rfl;have Yp:FB.cell? ⟨Ea,3,none⟩=some (.int .i64 Pa):=(ga za.out 3).trans rfl;have Xp:FB.cell? ⟨Ea,4,none⟩=some (.slice yc Sa.length Xb):=(ga za.out 4).trans rfl;have jo:=aa za.out 0;have fo:=aa za.out 1;have Ip:=aa za.out 2;have Hp:=aa za.out 3;have Gp:=aa za.out 4)|(go_at_call 58;(with_reducible refine (Hh.calls Pa Oa 1000 false _ A6.out).mono ?_);rintro e w' ⟨rfl,⟨nd,rfl⟩⟩))
    go_meet
    case rel=>exact ⟨_,(true),(by first|rfl|(simp;done)|(simp [*];done)),H',⟨by first|omega|exact Nat.le_refl _⟩,⟨by (with_reducible repeat (first|refine Da ?_ _|refine Ga ?_|refine Ca ?_ _));exact za.out⟩,⟨by repeat (first|(with_reducible first|exact HB.out|apply qa|apply ia|apply ua|refine Aa ?_ Wa.out)|exact HB.out)⟩⟩
  ·replace c5:=Bool.eq_false_iff.mpr c5
   subst c5
   have H1:(zb.j0 k true Ta Ma Oa Pa Sa)=some r:=by rw [if_neg (show ¬ (false=true) by decide)] at H;exact H
   clear H
   have H:=H1
   clear H1
   have H':=ja.mk H
   clear H
   have Fx:w3.cell? ⟨Ea,0,none⟩=some (.slice Cb Ta.length Bb):=(ga za.out 0).trans rfl
   have Ex:w3.cell? ⟨Ea,1,none⟩=some (.int .i64 Ma):=(ga za.out 1).trans rfl
   have Dx:w3.cell? ⟨Ea,2,none⟩=some (.int .i64 Oa):=(ga za.out 2).trans rfl
   have Cx:w3.cell? ⟨Ea,3,none⟩=some (.int .i64 Pa):=(ga za.out 3).trans rfl
   have Bx:w3.cell? ⟨Ea,4,none⟩=some (.slice yc Sa.length Xb):=(ga za.out 4).trans rfl
   have Ow:=aa za.out 0
   have Nw:=aa za.out 1
   have Mw:=aa za.out 2
   have Lw:=aa za.out 3
   have Kw:=aa za.out 4
   go_wp2_with (first|((with_reducible refine mb (f:=89) rfl ?_);refine yd (some 13) rfl rfl Try.func89 (by kernel_rfl) rfl #[.agg #[.slice Cb Ta.length Bb,.int .i64 Ma,.int .i64 Oa,.slice none 0 0]] rfl (by (try simp only [List.map_toArray,List.map_cons,List.map_nil]);first|done|rfl|(simp only [List.length_drop,List.length_take];rfl)) ?_;(refine (Lg.calls _ _ Ta Ma Oa _ _ ([]:List (jv)) false _ ?side1 ?side2 ?side3 ?side4 A4.out).mono ?_);(case side1=>repeat (first|exact (Kd.Mb ig.out HB.out)|(with_reducible refine Kd.Sc ?_ _)|(with_reducible refine Kd.Rc ?_ _)|(with_reducible refine Kd.Qd ?_)));(case side2=>exact mg.out);(case side3=>exact Kd.ML _ _);(case side4=>exact Nat.le_refl _);rintro e az ⟨rfl,hb⟩;refine ⟨_,rfl,?_⟩;have Gb:=ja.mk (gb (g:=Ea) (o:=.cells #[.slice Cb Ta.length Bb,.int .i64 Ma,.int .i64 Oa,.int .i64 Pa,.slice yc Sa.length Xb] 30 (0,0)) (by (with_reducible repeat (first|refine Da ?_ _|refine Ga ?_|refine Ca ?_ _));exact za.out) hb);have Vb:=ja.mk (Qa (by repeat (first|(with_reducible first|exact HB.out|apply qa|apply ia|apply ua|refine Aa ?_ Wa.out)|exact HB.out)) hb);clear za;clear HB;have za:=Gb;have HB:=Vb;clear Gb Vb;(try clear hb);(try clear hb2);(try clear hk);(try clear hi)))
   go_meet
   case rel=>exact ⟨_,(true),(by first|rfl|(simp;done)|(simp [*];done)),H',⟨by first|omega|exact Nat.le_refl _⟩,⟨by (with_reducible repeat (first|refine Da ?_ _|refine Ga ?_|refine Ca ?_ _));exact za.out⟩,⟨by repeat (first|(with_reducible first|exact HB.out|apply qa|apply ia|apply ua|refine Aa ?_ Wa.out)|exact HB.out)⟩⟩
 case rest =>
  clear NV
  try clear p2
  try clear c5
  try clear c7
  try clear c8
  try clear El
  try clear Dl
  try clear Bu
  try clear Au
  try clear zu
  try clear gq
  try clear fq
  try clear cq
  try clear bq
  try clear aq
  try clear uo
  try clear qo
  try clear Zp
  try clear Yp
  try clear Xp
  try clear Fx
  try clear Ex
  try clear Dx
  try clear Cx
  try clear Bx
  try clear Mo
  try clear Lo
  try clear Ko
  try clear Jo
  try clear Io
  try clear Cl
  try clear Bl
  try clear Zt
  try clear Yt
  try clear Xt
  try clear Np
  try clear Mp
  try clear Lp
  try clear Kp
  try clear Jp
  try clear jo
  try clear fo
  try clear Ip
  try clear Hp
  try clear Gp
  try clear Ow
  try clear Nw
  try clear Mw
  try clear Lw
  try clear Kw
  try clear Ho
  try clear Fo
  try clear Eo
  try clear Co
  try clear Bo
  obtain ⟨kq,EE,rfl,HA,HJ1,za,HB⟩:=hcut
  cases kq with
  | zero=>exact absurd HA.out (by simp [zb.j0])
  | succ kj1 =>
   have H:=HA.out
   clear HA
   simp only [zb.j0] at H
   by_cases c17:EE=true
   ·subst c17
    have H1:(some false)=some r:=by rw [if_pos rfl] at H;exact H
    clear H
    have H:=H1
    clear H1
    obtain rfl:=Option.some.inj H
    go_wp2
    go_ret
    exact ⟨by first|rfl|(simp [La,Ka] <;> rfl)|(simp [*,La,Ka] <;> rfl),by repeat (first|(with_reducible first|exact HB.out|apply qa|apply ia|apply ua|refine Aa ?_ Wa.out)|exact HB.out)⟩
   ·replace c17:=Bool.eq_false_iff.mpr c17
    subst c17
    have H1:(zb.l0 kj1 0 Sa (Sa.length:Int) 0 Ta Ma Oa Pa Sa)=some r:=by rw [if_neg (show ¬ (false=true) by decide)] at H;exact H
    clear H
    have H:=H1
    clear H1
    have H':=ja.mk H
    clear H
    have Dr:wc.cell? ⟨Ea,0,none⟩=some (.slice Cb Ta.length Bb):=(ga za.out 0).trans rfl
    have Cr:wc.cell? ⟨Ea,1,none⟩=some (.int .i64 Ma):=(ga za.out 1).trans rfl
    have Br:wc.cell? ⟨Ea,2,none⟩=some (.int .i64 Oa):=(ga za.out 2).trans rfl
    have Ar:wc.cell? ⟨Ea,3,none⟩=some (.int .i64 Pa):=(ga za.out 3).trans rfl
    have vr:wc.cell? ⟨Ea,4,none⟩=some (.slice yc Sa.length Xb):=(ga za.out 4).trans rfl
    have cr:=aa za.out 0
    have br:=aa za.out 1
    have Zq:=aa za.out 2
    have Yq:=aa za.out 3
    have Xq:=aa za.out 4
    go_wp2
    go_loopg [3,33] kj1 (fun kq v3 v33 w'=>∃ (jI:Int) (Ve:Int),v3 = .int .i64 jI∧v33 = .int .i64 Ve∧ja (zb.l0 kq jI Sa (Sa.length:Int) Ve Ta Ma Oa Pa Sa=some r)∧ja (kq ≤ kj1)∧ja (w'.heap[Ea]? = some (.cells #[(.slice Cb Ta.length Bb),.int .i64 Ma,.int .i64 Oa,.int .i64 Pa,(.slice yc Sa.length Xb)] 30 (0,0)))∧ja (Below w.heap.size w w'))
    case atStart=>exact ⟨(0),(0),(by first|rfl|(simp;done)|(simp [*];done)),(by first|rfl|(simp;done)|(simp [*];done)),H',⟨Nat.le_refl _⟩,⟨by (with_reducible repeat (first|refine Da ?_ _|refine Ga ?_|refine Ca ?_ _));exact za.out⟩,⟨by repeat (first|(with_reducible first|exact HB.out|apply qa|apply ia|apply ua|refine Aa ?_ Wa.out)|exact HB.out)⟩⟩
    case round =>
     clear H'
     try clear c1
     try clear p2
     try clear c5
     try clear c7
     try clear c8
     try clear c17
     try clear El
     try clear Dl
     try clear Bu
     try clear Au
     try clear zu
     try clear gq
     try clear fq
     try clear cq
     try clear bq
     try clear aq
     try clear uo
     try clear qo
     try clear Zp
     try clear Yp
     try clear Xp
     try clear Fx
     try clear Ex
     try clear Dx
     try clear Cx
     try clear Bx
     try clear Dr
     try clear Cr
     try clear Br
     try clear Ar
     try clear vr
     try clear Mo
     try clear Lo
     try clear Ko
     try clear Jo
     try clear Io
     try clear Cl
     try clear Bl
     try clear Zt
     try clear Yt
     try clear Xt
     try clear Np
     try clear Mp
     try clear Lp
     try clear Kp
     try clear Jp
     try clear jo
     try clear fo
     try clear Ip
     try clear Hp
     try clear Gp
     try clear Ow
     try clear Nw
     try clear Mw
     try clear Lw
     try clear Kw
     try clear cr
     try clear br
     try clear Zq
     try clear Yq
     try clear Xq
     try clear Ho
     try clear Fo
     try clear Eo
     try clear Co
     try clear Bo
     try clear p2
     (try clear HA)
     (try clear VI)
     (try clear za)
     (try clear HB)
     obtain ⟨jI,Ve,rfl,rfl,HA,VI,za,HB⟩:=hrel
     cases gk with
     | zero=>exact absurd HA.out (by simp [zb.l0])
     | succ k2 =>
      have H:=HA.out
      clear HA
      simp only [zb.l0] at H
      by_cases c19:Ve < (Sa.length:Int)
      ·rw [if_pos c19] at H
       have FC:decide (Ve < (Sa.length:Int))=true:=decide_eq_true c19
       clear c19
       by_cases c20:0 ≤ Ve
       ·rw [if_pos c20] at H
        have pL:decide (0 ≤ Ve)=true:=decide_eq_true c20
        clear c20
        by_cases c21:Ve < (Sa.length:Int)
        ·rw [if_pos c21] at H
         have EC:decide (Ve < (Sa.length:Int))=true:=decide_eq_true c21
         clear c21
         replace H:=Option.bind_eq_some_iff.mp H
         obtain ⟨t107,U6,H⟩:=H
         replace H:(if t107=true then (zb.l0 k2 (wrap64 (jI + (((Xa Sa Ve).f0).length:Int))) Sa (Sa.length:Int) (wrap64 (Ve + 1)) Ta Ma Oa Pa Sa) else (some false))=some r:=H
         have A22:=ja.mk U6
         clear U6
         by_cases c23:t107=true
         ·subst c23
          have H1:(zb.l0 k2 (wrap64 (jI + (((Xa Sa Ve).f0).length:Int))) Sa (Sa.length:Int) (wrap64 (Ve + 1)) Ta Ma Oa Pa Sa)=some r:=by rw [if_pos rfl] at H;exact H
          clear H
          have H:=H1
          clear H1
          have H':=ja.mk H
          clear H
          have Wh:0 ≤ (Ve:Int):=of_decide_eq_true (by first|(with_reducible assumption)|assumption)
          have Vh:Ve < (Sa.length:Int):=of_decide_eq_true (by first|(with_reducible assumption)|assumption)
          obtain ⟨Th,gj,cj,Ln,qe,Ge,Fe,Ee,De,Rg,Sg⟩:=cg oh.out Ve Wh Vh
          cases Ln
          replace qe:=(HB.out.cell (World.block_lt_of_cell? w _ qe)).trans qe
          replace Ge:=(HB.out.cell (World.block_lt_of_cell? w _ Ge)).trans Ge
          replace Fe:=(HB.out.cell (World.block_lt_of_cell? w _ Fe)).trans Fe
          replace Ee:=(HB.out.cell (World.block_lt_of_cell? w _ Ee)).trans Ee
          replace De:=(HB.out.cell (World.block_lt_of_cell? w _ De)).trans De
          have Wl:=ja.mk Sg
          have Bn:=ja.mk Rg
          clear Sg Rg
          replace Wh:=eq_true Wh
          replace Vh:=eq_true Vh
          go_wp2_with (first|((with_reducible refine Kb (N:=5) rfl ?_);(try (refine Ch (by rfl) ?_;dsimp only));refine Eb ?hg (N:=5) ?hd (cs:=#[.slice none 0 0,.int .i64 0,.int .i64 0,.int .i64 0,.int .i64 0]) (t:=68) ?hr ?_;(case hd=>rfl);(case hg=>rfl);(case hr=>first|(go_simp;done)|(go_simp;rfl));intro ak hg eJ Tb hb;have Gb:=ja.mk (gb (g:=Ea) (o:=.cells #[.slice Cb Ta.length Bb,.int .i64 Ma,.int .i64 Oa,.int .i64 Pa,.slice (some Th) Sa.length Xb] 30 (0,0)) (by (with_reducible repeat (first|refine Da ?_ _|refine Ga ?_|refine Ca ?_ _));exact za.out) hb);have Vb:=ja.mk (Qa (by repeat (first|(with_reducible first|exact HB.out|apply qa|apply ia|apply ua|refine Aa ?_ Wa.out)|exact HB.out)) hb);have Ac:=ja.mk (Tb);have ud:=ja.mk ((by rw [hg];exact (Ra (by repeat (first|(with_reducible first|exact HB.out|apply qa|apply ia|apply ua|refine Aa ?_ Wa.out)|exact HB.out))):w.heap.size ≤ ak));have ef:=ja.mk ((by rw [hg];exact (Ra (by repeat (first|(with_reducible first|exact HB.out|apply qa|apply ia|apply ua|refine Aa ?_ Wa.out)|exact HB.out))):w.heap.size ≤ ak));have Ag:=ja.mk ((by rw [hg];exact Nat.ne_of_lt (Lc (g:=Ea) (o:=.cells #[.slice Cb Ta.length Bb,.int .i64 Ma,.int .i64 Oa,.int .i64 Pa,.slice (some Th) Sa.length Xb] 30 (0,0)) (by (with_reducible repeat (first|refine Da ?_ _|refine Ga ?_|refine Ca ?_ _));exact za.out)):Ea ≠ ak));have dh:=ja.mk ((by rw [hg];exact Nat.ne_of_gt (Lc (g:=Ea) (o:=.cells #[.slice Cb Ta.length Bb,.int .i64 Ma,.int .i64 Oa,.int .i64 Pa,.slice (some Th) Sa.length Xb] 30 (0,0)) (by (with_reducible repeat (first|refine Da ?_ _|refine Ga ?_|refine Ca ?_ _));exact za.out)):ak ≠ Ea));clear za;clear HB;have za:=Gb;have HB:=Vb;have Oi:=Ac;have I6:=ud;have Dq:=ef;have Yh:=Ag;have qv:=dh;clear Gb Vb Ac ud ef Ag dh;clear hb Tb hg;have dX:=qv.out;have LW:=Yh.out;have lu:eJ.cell? ⟨ak,0,none⟩=some (.slice none 0 0):=(ga Oi.out 0).trans rfl;have ku:eJ.cell? ⟨ak,1,none⟩=some (.int .i64 0):=(ga Oi.out 1).trans rfl;have ju:eJ.cell? ⟨ak,2,none⟩=some (.int .i64 0):=(ga Oi.out 2).trans rfl;have iu:eJ.cell? ⟨ak,3,none⟩=some (.int .i64 0):=(ga Oi.out 3).trans rfl;have gu:eJ.cell? ⟨ak,4,none⟩=some (.int .i64 0):=(ga Oi.out 4).trans rfl;have Lt:=aa Oi.out 0;have Kt:=aa Oi.out 1;have Jt:=aa Oi.out 2;have Ht:=aa Oi.out 3;have Gt:=aa Oi.out 4;have sx:eJ.cell? ⟨Ea,0,none⟩=some (.slice Cb Ta.length Bb):=(ga za.out 0).trans rfl;have qx:eJ.cell? ⟨Ea,1,none⟩=some (.int .i64 Ma):=(ga za.out 1).trans rfl;have ox:eJ.cell? ⟨Ea,2,none⟩=some (.int .i64 Oa):=(ga za.out 2).trans rfl;have jx:eJ.cell? ⟨Ea,3,none⟩=some (.int .i64 Pa):=(ga za.out 3).trans rfl;have gx:eJ.cell? ⟨Ea,4,none⟩=some (.slice (some Th) Sa.length Xb):=(ga za.out 4).trans rfl;have Ew:=aa za.out 0;have Dw:=aa za.out 1;have Cw:=aa za.out 2;have Bw:=aa za.out 3;have Aw:=aa za.out 4)|((with_reducible refine mb (f:=90) rfl ?_);refine yd (some 44) rfl rfl Try.func90 (by kernel_rfl) rfl #[.agg #[.slice Cb Ta.length Bb,.int .i64 Ma,.int .i64 Oa,.int .i64 Pa,.slice (some Th) Sa.length Xb],.agg #[.slice gj ((Xa Sa Ve).f0).length cj,.int .i64 ((Xa Sa Ve).f1),.int .i64 ((Xa Sa Ve).f2),.int .i64 ((Xa Sa Ve).f3),.int .i64 ((Xa Sa Ve).f4)]] rfl (by (try simp only [List.map_toArray,List.map_cons,List.map_nil]);first|done|rfl|(simp only [List.length_drop,List.length_take];rfl)) ?_;(with_reducible refine (Si.calls _ _ Ta Ma Oa Pa _ _ Sa _ _ ((Xa Sa Ve).f0) ((Xa Sa Ve).f1) ((Xa Sa Ve).f2) ((Xa Sa Ve).f3) ((Xa Sa Ve).f4) true _ ?side1 ?side2 ?side3 ?side4 ?side5 ?side6 A22.out).mono ?_);(case side1=>exact Kd.Mb ig.out (by repeat (first|(with_reducible first|exact HB.out|apply qa|apply ia|apply ua|refine Aa ?_ Wa.out|refine Aa ?_ Dq.out)|exact HB.out)));(case side2=>exact mg.out);(case side3=>exact Kd.Mb oh.out (by repeat (first|(with_reducible first|exact HB.out|apply qa|apply ia|apply ua|refine Aa ?_ Wa.out|refine Aa ?_ Dq.out)|exact HB.out)));(case side4=>exact qj.out);(case side5=>exact Kd.Mb Wl.out (by repeat (first|(with_reducible first|exact HB.out|apply qa|apply ia|apply ua|refine Aa ?_ Wa.out|refine Aa ?_ Dq.out)|exact HB.out)));(case side6=>exact Bn.out);rintro e bD ⟨rfl,hb⟩;refine ⟨_,rfl,?_⟩;have Gb:=ja.mk (gb (g:=Ea) (o:=.cells #[.slice Cb Ta.length Bb,.int .i64 Ma,.int .i64 Oa,.int .i64 Pa,.slice (some Th) Sa.length Xb] 30 (0,0)) (by (with_reducible repeat (first|refine Da ?_ _|refine Ga ?_|refine Ca ?_ _));refine jd ?_ Yh.out _;(with_reducible repeat (first|refine Da ?_ _|refine Ga ?_|refine Ca ?_ _));refine jd ?_ Yh.out _;(with_reducible repeat (first|refine Da ?_ _|refine Ga ?_|refine Ca ?_ _));refine jd ?_ Yh.out _;(with_reducible repeat (first|refine Da ?_ _|refine Ga ?_|refine Ca ?_ _));refine jd ?_ Yh.out _;(with_reducible repeat (first|refine Da ?_ _|refine Ga ?_|refine Ca ?_ _));refine jd ?_ Yh.out _;(with_reducible repeat (first|refine Da ?_ _|refine Ga ?_|refine Ca ?_ _));exact za.out) hb);have Vb:=ja.mk (gb (g:=ak) (o:=.cells #[.slice gj ((Xa Sa Ve).f0).length cj,.int .i64 ((Xa Sa Ve).f1),.int .i64 ((Xa Sa Ve).f2),.int .i64 ((Xa Sa Ve).f3),.int .i64 ((Xa Sa Ve).f4)] 68 (0,0)) (by (with_reducible repeat (first|refine Da ?_ _|refine Ga ?_|refine Ca ?_ _));refine Wb (cs:=#[.slice gj ((Xa Sa Ve).f0).length cj,.int .i64 ((Xa Sa Ve).f1),.int .i64 ((Xa Sa Ve).f2),.int .i64 ((Xa Sa Ve).f3),.int .i64 0]) ?_ 4 _ rfl;(with_reducible repeat (first|refine Da ?_ _|refine Ga ?_|refine Ca ?_ _));refine Wb (cs:=#[.slice gj ((Xa Sa Ve).f0).length cj,.int .i64 ((Xa Sa Ve).f1),.int .i64 ((Xa Sa Ve).f2),.int .i64 0,.int .i64 0]) ?_ 3 _ rfl;(with_reducible repeat (first|refine Da ?_ _|refine Ga ?_|refine Ca ?_ _));refine Wb (cs:=#[.slice gj ((Xa Sa Ve).f0).length cj,.int .i64 ((Xa Sa Ve).f1),.int .i64 0,.int .i64 0,.int .i64 0]) ?_ 2 _ rfl;(with_reducible repeat (first|refine Da ?_ _|refine Ga ?_|refine Ca ?_ _));refine Wb (cs:=#[.slice gj ((Xa Sa Ve).f0).length cj,.int .i64 0,.int .i64 0,.int .i64 0,.int .i64 0]) ?_ 1 _ rfl;(with_reducible repeat (first|refine Da ?_ _|refine Ga ?_|refine Ca ?_ _));refine Wb (cs:=#[.slice none 0 0,.int .i64 0,.int .i64 0,.int .i64 0,.int .i64 0]) ?_ 0 _ rfl;(with_reducible repeat (first|refine Da ?_ _|refine Ga ?_|refine Ca ?_ _));exact Oi.out) hb);have Ac:=ja.mk (Qa (by repeat (first|(with_reducible first|exact HB.out|apply qa|apply ia|apply ua|refine Aa ?_ Wa.out|refine Aa ?_ Dq.out)|exact HB.out)) hb);clear za;clear Oi;clear HB;have za:=Gb;have Oi:=Vb;have HB:=Ac;clear Gb Vb Ac;(try clear hb);(try clear hb2);(try clear hk);(try clear hi)))
          go_roundg k2
          case measure=>have:=HJ1.out;have:=VI.out;omega
          case rel=>exact ⟨(wrap64 (jI + (((Xa Sa Ve).f0).length:Int))),(wrap64 (Ve + 1)),(by first|rfl|(simp;done)|(simp [*];done)),(by first|rfl|(simp;done)|(simp [*];done)),H',⟨by have:=HJ1.out;have:=VI.out;omega⟩,⟨by (with_reducible repeat (first|refine Da ?_ _|refine Ga ?_|refine Ca ?_ _));exact za.out⟩,⟨by repeat (first|(with_reducible first|exact HB.out|apply qa|apply ia|apply ua|refine Aa ?_ Wa.out|refine Aa ?_ Dq.out)|exact HB.out)⟩⟩
         ·replace c23:=Bool.eq_false_iff.mpr c23
          subst c23
          have H1:(some false)=some r:=by rw [if_neg (show ¬ (false=true) by decide)] at H;exact H
          clear H
          have H:=H1
          clear H1
          obtain rfl:=Option.some.inj H
          have Wh:0 ≤ (Ve:Int):=of_decide_eq_true (by first|(with_reducible assumption)|assumption)
          have Vh:Ve < (Sa.length:Int):=of_decide_eq_true (by first|(with_reducible assumption)|assumption)
          obtain ⟨Th,gj,cj,Ln,qe,Ge,Fe,Ee,De,Rg,Sg⟩:=cg oh.out Ve Wh Vh
          cases Ln
          replace qe:=(HB.out.cell (World.block_lt_of_cell? w _ qe)).trans qe
          replace Ge:=(HB.out.cell (World.block_lt_of_cell? w _ Ge)).trans Ge
          replace Fe:=(HB.out.cell (World.block_lt_of_cell? w _ Fe)).trans Fe
          replace Ee:=(HB.out.cell (World.block_lt_of_cell? w _ Ee)).trans Ee
          replace De:=(HB.out.cell (World.block_lt_of_cell? w _ De)).trans De
          have Wl:=ja.mk Sg
          have Bn:=ja.mk Rg
          clear Sg Rg
          replace Wh:=eq_true Wh
          replace Vh:=eq_true Vh
          go_wp2_with (first|((with_reducible refine Kb (N:=5) rfl ?_);(try (refine Ch (by rfl) ?_;dsimp only));refine Eb ?hg (N:=5) ?hd (cs:=#[.slice none 0 0,.int .i64 0,.int .i64 0,.int .i64 0,.int .i64 0]) (t:=68) ?hr ?_;(case hd=>rfl);(case hg=>rfl);(case hr=>first|(go_simp;done)|(go_simp;rfl));intro ak hg TL Tb hb;have Gb:=ja.mk (gb (g:=Ea) (o:=.cells #[.slice Cb Ta.length Bb,.int .i64 Ma,.int .i64 Oa,.int .i64 Pa,.slice (some Th) Sa.length Xb] 30 (0,0)) (by (with_reducible repeat (first|refine Da ?_ _|refine Ga ?_|refine Ca ?_ _));exact za.out) hb);have Vb:=ja.mk (Qa (by repeat (first|(with_reducible first|exact HB.out|apply qa|apply ia|apply ua|refine Aa ?_ Wa.out)|exact HB.out)) hb);have Ac:=ja.mk (Tb);have ud:=ja.mk ((by rw [hg];exact (Ra (by repeat (first|(with_reducible first|exact HB.out|apply qa|apply ia|apply ua|refine Aa ?_ Wa.out)|exact HB.out))):w.heap.size ≤ ak));have ef:=ja.mk ((by rw [hg];exact (Ra (by repeat (first|(with_reducible first|exact HB.out|apply qa|apply ia|apply ua|refine Aa ?_ Wa.out)|exact HB.out))):w.heap.size ≤ ak));have Ag:=ja.mk ((by rw [hg];exact Nat.ne_of_lt (Lc (g:=Ea) (o:=.cells #[.slice Cb Ta.length Bb,.int .i64 Ma,.int .i64 Oa,.int .i64 Pa,.slice (some Th) Sa.length Xb] 30 (0,0)) (by (with_reducible repeat (first|refine Da ?_ _|refine Ga ?_|refine Ca ?_ _));exact za.out)):Ea ≠ ak));have dh:=ja.mk ((by rw [hg];exact Nat.ne_of_gt (Lc (g:=Ea) (o:=.cells #[.slice Cb Ta.length Bb,.int .i64 Ma,.int .i64 Oa,.int .i64 Pa,.slice (some Th) Sa.length Xb] 30 (0,0)) (by (with_reducible repeat (first|refine Da ?_ _|refine Ga ?_|refine Ca ?_ _));exact za.out)):ak ≠ Ea));clear za;clear HB;have za:=Gb;have HB:=Vb;have Oi:=Ac;have I6:=ud;have Dq:=ef;have Yh:=Ag;have qv:=dh;clear Gb Vb Ac ud ef Ag dh;clear hb Tb hg;have Daj:=qv.out;have Qai:=Yh.out;have dx:TL.cell? ⟨ak,0,none⟩=some (.slice none 0 0):=(ga Oi.out 0).trans rfl;have cx:TL.cell? ⟨ak,1,none⟩=some (.int .i64 0):=(ga Oi.out 1).trans rfl;have ax:TL.cell? ⟨ak,2,none⟩=some (.int .i64 0):=(ga Oi.out 2).trans rfl;have Zw:TL.cell? ⟨ak,3,none⟩=some (.int .i64 0):=(ga Oi.out 3).trans rfl;have Yw:TL.cell? ⟨ak,4,none⟩=some (.int .i64 0):=(ga Oi.out 4).trans rfl;have zw:=aa Oi.out 0;have yw:=aa Oi.out 1;have xw:=aa Oi.out 2;have vw:=aa Oi.out 3;have uw:=aa Oi.out 4;have ZA:TL.cell? ⟨Ea,0,none⟩=some (.slice Cb Ta.length Bb):=(ga za.out 0).trans rfl;have YA:TL.cell? ⟨Ea,1,none⟩=some (.int .i64 Ma):=(ga za.out 1).trans rfl;have XA:TL.cell? ⟨Ea,2,none⟩=some (.int .i64 Oa):=(ga za.out 2).trans rfl;have WA:TL.cell? ⟨Ea,3,none⟩=some (.int .i64 Pa):=(ga za.out 3).trans rfl;have VA:TL.cell? ⟨Ea,4,none⟩=some (.slice (some Th) Sa.length Xb):=(ga za.out 4).trans rfl;have yA:=aa za.out 0;have xA:=aa za.out 1;have wA:=aa za.out 2;have vA:=aa za.out 3;have uA:=aa za.out 4)|((with_reducible refine mb (f:=90) rfl ?_);refine yd (some 44) rfl rfl Try.func90 (by kernel_rfl) rfl #[.agg #[.slice Cb Ta.length Bb,.int .i64 Ma,.int .i64 Oa,.int .i64 Pa,.slice (some Th) Sa.length Xb],.agg #[.slice gj ((Xa Sa Ve).f0).length cj,.int .i64 ((Xa Sa Ve).f1),.int .i64 ((Xa Sa Ve).f2),.int .i64 ((Xa Sa Ve).f3),.int .i64 ((Xa Sa Ve).f4)]] rfl (by (try simp only [List.map_toArray,List.map_cons,List.map_nil]);first|done|rfl|(simp only [List.length_drop,List.length_take];rfl)) ?_;(with_reducible refine (Si.calls _ _ Ta Ma Oa Pa _ _ Sa _ _ ((Xa Sa Ve).f0) ((Xa Sa Ve).f1) ((Xa Sa Ve).f2) ((Xa Sa Ve).f3) ((Xa Sa Ve).f4) false _ ?side1 ?side2 ?side3 ?side4 ?side5 ?side6 A22.out).mono ?_);(case side1=>exact Kd.Mb ig.out (by repeat (first|(with_reducible first|exact HB.out|apply qa|apply ia|apply ua|refine Aa ?_ Wa.out|refine Aa ?_ Dq.out)|exact HB.out)));(case side2=>exact mg.out);(case side3=>exact Kd.Mb oh.out (by repeat (first|(with_reducible first|exact HB.out|apply qa|apply ia|apply ua|refine Aa ?_ Wa.out|refine Aa ?_ Dq.out)|exact HB.out)));(case side4=>exact qj.out);(case side5=>exact Kd.Mb Wl.out (by repeat (first|(with_reducible first|exact HB.out|apply qa|apply ia|apply ua|refine Aa ?_ Wa.out|refine Aa ?_ Dq.out)|exact HB.out)));(case side6=>exact Bn.out);rintro e ZI ⟨rfl,hb⟩;refine ⟨_,rfl,?_⟩;have Gb:=ja.mk (gb (g:=Ea) (o:=.cells #[.slice Cb Ta.length Bb,.int .i64 Ma,.int .i64 Oa,.int .i64 Pa,.slice (some Th) Sa.length Xb] 30 (0,0)) (by (with_reducible repeat (first|refine Da ?_ _|refine Ga ?_|refine Ca ?_ _));refine jd ?_ Yh.out _;(with_reducible repeat (first|refine Da ?_ _|refine Ga ?_|refine Ca ?_ _));refine jd ?_ Yh.out _;(with_reducible repeat (first|refine Da ?_ _|refine Ga ?_|refine Ca ?_ _));refine jd ?_ Yh.out _;(with_reducible repeat (first|refine Da ?_ _|refine Ga ?_|refine Ca ?_ _));refine jd ?_ Yh.out _;(with_reducible repeat (first|refine Da ?_ _|refine Ga ?_|refine Ca ?_ _));refine jd ?_ Yh.out _;(with_reducible repeat (first|refine Da ?_ _|refine Ga ?_|refine Ca ?_ _));exact za.out) hb);have Vb:=ja.mk (gb (g:=ak) (o:=.cells #[.slice gj ((Xa Sa Ve).f0).length cj,.int .i64 ((Xa Sa Ve).f1),.int .i64 ((Xa Sa Ve).f2),.int .i64 ((Xa Sa Ve).f3),.int .i64 ((Xa Sa Ve).f4)] 68 (0,0)) (by (with_reducible repeat (first|refine Da ?_ _|refine Ga ?_|refine Ca ?_ _));refine Wb (cs:=#[.slice gj ((Xa Sa Ve).f0).length cj,.int .i64 ((Xa Sa Ve).f1),.int .i64 ((Xa Sa Ve).f2),.int .i64 ((Xa Sa Ve).f3),.int .i64 0]) ?_ 4 _ rfl;(with_reducible repeat (first|refine Da ?_ _|refine Ga ?_|refine Ca ?_ _));refine Wb (cs:=#[.slice gj ((Xa Sa Ve).f0).length cj,.int .i64 ((Xa Sa Ve).f1),.int .i64 ((Xa Sa Ve).f2),.int .i64 0,.int .i64 0]) ?_ 3 _ rfl;(with_reducible repeat (first|refine Da ?_ _|refine Ga ?_|refine Ca ?_ _));refine Wb (cs:=#[.slice gj ((Xa Sa Ve).f0).length cj,.int .i64 ((Xa Sa Ve).f1),.int .i64 0,.int .i64 0,.int .i64 0]) ?_ 2 _ rfl;(with_reducible repeat (first|refine Da ?_ _|refine Ga ?_|refine Ca ?_ _));refine Wb (cs:=#[.slice gj ((Xa Sa Ve).f0).length cj,.int .i64 0,.int .i64 0,.int .i64 0,.int .i64 0]) ?_ 1 _ rfl;(with_reducible repeat (first|refine Da ?_ _|refine Ga ?_|refine Ca ?_ _));refine Wb (cs:=#[.slice none 0 0,.int .i64 0,.int .i64 0,.int .i64 0,.int .i64 0]) ?_ 0 _ rfl;(with_reducible repeat (first|refine Da ?_ _|refine Ga ?_|refine Ca ?_ _));exact Oi.out) hb);have Ac:=ja.mk (Qa (by repeat (first|(with_reducible first|exact HB.out|apply qa|apply ia|apply ua|refine Aa ?_ Wa.out|refine Aa ?_ Dq.out)|exact HB.out)) hb);clear za;clear Oi;clear HB;have za:=Gb;have Oi:=Vb;have HB:=Ac;clear Gb Vb Ac;(try clear hb);(try clear hb2);(try clear hk);(try clear hi)))
          go_ret
          exact ⟨by first|rfl|(simp [La,Ka] <;> rfl)|(simp [*,La,Ka] <;> rfl),by repeat (first|(with_reducible first|exact HB.out|apply qa|apply ia|apply ua|refine Aa ?_ Wa.out|refine Aa ?_ Dq.out)|exact HB.out)⟩
        ·rw [if_neg c21] at H
         exact absurd H (by simp)
       ·rw [if_neg c20] at H
        exact absurd H (by simp)
      ·rw [if_neg c19] at H
       have FC:decide (Ve < (Sa.length:Int))=false:=decide_eq_false c19
       clear c19
       obtain rfl:=Option.some.inj H
       go_wp2
       go_ret
       exact ⟨by first|rfl|(simp [La,Ka] <;> rfl)|(simp [*,La,Ka] <;> rfl),by repeat (first|(with_reducible first|exact HB.out|apply qa|apply ia|apply ua|refine Aa ?_ Wa.out)|exact HB.out)⟩
def yp.f (Pc:Int) (Ma:Int) (Oa:Int) (Pa:Int) (nc:Int) (Od:Int) (Nd:ByteArray):Option (Int):=if Pc=4 then (some (-1)) else (if Pc=6 then (some (-1)) else (some Ma))
set_option maxHeartbeats 8000000 in
set_option maxRecDepth 100000 in
theorem yp.calls (Pc:Int) (Ma:Int) (Oa:Int) (Pa:Int) (nc:Int) (Od:Int) (Nd:ByteArray) (r:Int) (w:World) (h:yp.f Pc Ma Oa Pa nc Od Nd=some r) :
  Calls Try.prog 91 #[.agg #[.int .i64 Pc,.int .i64 Ma,.int .i64 Oa,.int .i64 Pa,.int .i64 nc,.int .i64 Od,.string Nd]] w fun e w'=>e = .returned (.int .i64 r)∧Below w.heap.size w w':=by
 have YB:=Try.underlying70
 have HB:=ja.mk (Below.refl w.heap.size w)
 have H:(if Pc=4 then (some (-1)) else (if Pc=6 then (some (-1)) else (some Ma)))=some r:=h
 clear h
 by_cases c2:Pc=4
 ·rw [if_pos c2] at H
  have mz:(Pc == 4)=true:=beq_iff_eq.mpr c2
  have iE:(Pc != 4)=false:=bne_eq_false_iff_eq.mpr c2
  clear c2
  obtain rfl:=Option.some.inj H
  go_enter Try.func91,Try.ntmps91
  go_wp2_with (first|((with_reducible refine Kb (N:=1) rfl ?_);refine Eb ?hg (N:=1) ?hd (cs:=#[.int .i64 Pc,.int .i64 Ma,.int .i64 Oa,.int .i64 Pa,.int .i64 nc,.int .i64 Od,.string Nd]) (t:=70) ?hr ?_;(case hd=>rfl);(case hg=>rfl);(case hr=>first|(go_simp;done)|(go_simp;rfl));intro Ea hg w3 Tb hb;have Gb:=ja.mk (Qa (by repeat (first|(with_reducible first|exact HB.out|apply qa|apply ia|apply ua)|exact HB.out)) hb);have Vb:=ja.mk (Tb);have Ac:=ja.mk ((by rw [hg];exact (Ra (by repeat (first|(with_reducible first|exact HB.out|apply qa|apply ia|apply ua)|exact HB.out))):w.heap.size ≤ Ea));have ud:=ja.mk ((by rw [hg];exact (Ra (by repeat (first|(with_reducible first|exact HB.out|apply qa|apply ia|apply ua)|exact HB.out))):w.heap.size ≤ Ea));clear HB;have HB:=Gb;have za:=Vb;have Be:=Ac;have Wa:=ud;clear Gb Vb Ac ud;clear hb Tb hg;have iag:w3.cell? ⟨Ea,0,none⟩=some (.int .i64 Pc):=(ga za.out 0).trans rfl;have hag:w3.cell? ⟨Ea,1,none⟩=some (.int .i64 Ma):=(ga za.out 1).trans rfl;have gag:w3.cell? ⟨Ea,2,none⟩=some (.int .i64 Oa):=(ga za.out 2).trans rfl;have fag:w3.cell? ⟨Ea,3,none⟩=some (.int .i64 Pa):=(ga za.out 3).trans rfl;have eag:w3.cell? ⟨Ea,4,none⟩=some (.int .i64 nc):=(ga za.out 4).trans rfl;have dag:w3.cell? ⟨Ea,5,none⟩=some (.int .i64 Od):=(ga za.out 5).trans rfl;have cag:w3.cell? ⟨Ea,6,none⟩=some (.string Nd):=(ga za.out 6).trans rfl;have Gaf:=aa za.out 0;have Faf:=aa za.out 1;have Eaf:=aa za.out 2;have Daf:=aa za.out 3;have Caf:=aa za.out 4;have Baf:=aa za.out 5;have Aaf:=aa za.out 6))
  go_ret
  exact ⟨by first|rfl|(simp [La,Ka] <;> rfl)|(simp [*,La,Ka] <;> rfl),by repeat (first|(with_reducible first|exact HB.out|apply qa|apply ia|apply ua|refine Aa ?_ Wa.out)|exact HB.out)⟩
 ·rw [if_neg c2] at H
  have mz:(Pc == 4)=false:=beq_eq_false_iff_ne.mpr c2
  have iE:(Pc != 4)=true:=bne_iff_ne.mpr c2
  by_cases c5:Pc=6
  ·rw [if_pos c5] at H
   have Il:(Pc == 6)=true:=beq_iff_eq.mpr c5
   have Bq:(Pc != 6)=false:=bne_eq_false_iff_eq.mpr c5
   clear c5
   obtain rfl:=Option.some.inj H
   go_enter Try.func91,Try.ntmps91
   go_wp2_with (first|((with_reducible refine Kb (N:=1) rfl ?_);refine Eb ?hg (N:=1) ?hd (cs:=#[.int .i64 Pc,.int .i64 Ma,.int .i64 Oa,.int .i64 Pa,.int .i64 nc,.int .i64 Od,.string Nd]) (t:=70) ?hr ?_;(case hd=>rfl);(case hg=>rfl);(case hr=>first|(go_simp;done)|(go_simp;rfl));intro Ea hg w6 Tb hb;have Gb:=ja.mk (Qa (by repeat (first|(with_reducible first|exact HB.out|apply qa|apply ia|apply ua)|exact HB.out)) hb);have Vb:=ja.mk (Tb);have Ac:=ja.mk ((by rw [hg];exact (Ra (by repeat (first|(with_reducible first|exact HB.out|apply qa|apply ia|apply ua)|exact HB.out))):w.heap.size ≤ Ea));have ud:=ja.mk ((by rw [hg];exact (Ra (by repeat (first|(with_reducible first|exact HB.out|apply qa|apply ia|apply ua)|exact HB.out))):w.heap.size ≤ Ea));clear HB;have HB:=Gb;have za:=Vb;have Be:=Ac;have Wa:=ud;clear Gb Vb Ac ud;clear hb Tb hg;have Tp:w6.cell? ⟨Ea,0,none⟩=some (.int .i64 Pc):=(ga za.out 0).trans rfl;have Sp:w6.cell? ⟨Ea,1,none⟩=some (.int .i64 Ma):=(ga za.out 1).trans rfl;have Rp:w6.cell? ⟨Ea,2,none⟩=some (.int .i64 Oa):=(ga za.out 2).trans rfl;have Qp:w6.cell? ⟨Ea,3,none⟩=some (.int .i64 Pa):=(ga za.out 3).trans rfl;have Pp:w6.cell? ⟨Ea,4,none⟩=some (.int .i64 nc):=(ga za.out 4).trans rfl;have BK:w6.cell? ⟨Ea,5,none⟩=some (.int .i64 Od):=(ga za.out 5).trans rfl;have AK:w6.cell? ⟨Ea,6,none⟩=some (.string Nd):=(ga za.out 6).trans rfl;have Dp:=aa za.out 0;have Cp:=aa za.out 1;have Bp:=aa za.out 2;have Ap:=aa za.out 3;have zp:=aa za.out 4;have dK:=aa za.out 5;have cK:=aa za.out 6))
   go_ret
   exact ⟨by first|rfl|(simp [La,Ka] <;> rfl)|(simp [*,La,Ka] <;> rfl),by repeat (first|(with_reducible first|exact HB.out|apply qa|apply ia|apply ua|refine Aa ?_ Wa.out)|exact HB.out)⟩
  ·rw [if_neg c5] at H
   have Il:(Pc == 6)=false:=beq_eq_false_iff_ne.mpr c5
   have Bq:(Pc != 6)=true:=bne_iff_ne.mpr c5
   obtain rfl:=Option.some.inj H
   go_enter Try.func91,Try.ntmps91
   go_wp2_with (first|((with_reducible refine Kb (N:=1) rfl ?_);refine Eb ?hg (N:=1) ?hd (cs:=#[.int .i64 Pc,.int .i64 Ma,.int .i64 Oa,.int .i64 Pa,.int .i64 nc,.int .i64 Od,.string Nd]) (t:=70) ?hr ?_;(case hd=>rfl);(case hg=>rfl);(case hr=>first|(go_simp;done)|(go_simp;rfl));intro Ea hg w8 Tb hb;have Gb:=ja.mk (Qa (by repeat (first|(with_reducible first|exact HB.out|apply qa|apply ia|apply ua)|exact HB.out)) hb);have Vb:=ja.mk (Tb);have Ac:=ja.mk ((by rw [hg];exact (Ra (by repeat (first|(with_reducible first|exact HB.out|apply qa|apply ia|apply ua)|exact HB.out))):w.heap.size ≤ Ea));have ud:=ja.mk ((by rw [hg];exact (Ra (by repeat (first|(with_reducible first|exact HB.out|apply qa|apply ia|apply ua)|exact HB.out))):w.heap.size ≤ Ea));clear HB;have HB:=Gb;have za:=Vb;have Be:=Ac;have Wa:=ud;clear Gb Vb Ac ud;clear hb Tb hg;have Mo:w8.cell? ⟨Ea,0,none⟩=some (.int .i64 Pc):=(ga za.out 0).trans rfl;have Lo:w8.cell? ⟨Ea,1,none⟩=some (.int .i64 Ma):=(ga za.out 1).trans rfl;have Ko:w8.cell? ⟨Ea,2,none⟩=some (.int .i64 Oa):=(ga za.out 2).trans rfl;have Jo:w8.cell? ⟨Ea,3,none⟩=some (.int .i64 Pa):=(ga za.out 3).trans rfl;have Io:w8.cell? ⟨Ea,4,none⟩=some (.int .i64 nc):=(ga za.out 4).trans rfl;have cU:w8.cell? ⟨Ea,5,none⟩=some (.int .i64 Od):=(ga za.out 5).trans rfl;have bU:w8.cell? ⟨Ea,6,none⟩=some (.string Nd):=(ga za.out 6).trans rfl;have Ho:=aa za.out 0;have Fo:=aa za.out 1;have Eo:=aa za.out 2;have Co:=aa za.out 3;have Bo:=aa za.out 4;have CT:=aa za.out 5;have zT:=aa za.out 6))
   go_ret
   exact ⟨by first|rfl|(simp [La,Ka] <;> rfl)|(simp [*,La,Ka] <;> rfl),by repeat (first|(with_reducible first|exact HB.out|apply qa|apply ia|apply ua|refine Aa ?_ Wa.out)|exact HB.out)⟩
def Xo.f (a0:ByteArray) (a1:Int) (a2:Int):Option (Int):=if a0.toList=([43]:List UInt8) then (some (wrap64 (a1 + a2))) else (if a0.toList=([45]:List UInt8) then (some (wrap64 (a1 - a2))) else (if a0.toList=([42]:List UInt8) then (some (wrap64 (a1 * a2))) else (if a0.toList=([38]:List UInt8) then (some (Go.bits .and .i64 a1 a2)) else (if a0.toList=([61,61]:List UInt8) then (if a1=a2 then (some 1) else (some 0)) else (if a0.toList=([60]:List UInt8) then (if a1 < a2 then (some 1) else (some 0)) else (some 0))))))
set_option maxHeartbeats 8000000 in
set_option maxRecDepth 100000 in
theorem Xo.calls (a0:ByteArray) (a1:Int) (a2:Int) (r:Int) (w:World) (h:Xo.f a0 a1 a2=some r) :
  Calls Try.prog 119 #[.string a0,.int .i64 a1,.int .i64 a2] w fun e w'=>e = .returned (.int .i64 r)∧uc w w':=by
 have H:(if a0.toList=([43]:List UInt8) then (some (wrap64 (a1 + a2))) else (if a0.toList=([45]:List UInt8) then (some (wrap64 (a1 - a2))) else (if a0.toList=([42]:List UInt8) then (some (wrap64 (a1 * a2))) else (if a0.toList=([38]:List UInt8) then (some (Go.bits .and .i64 a1 a2)) else (if a0.toList=([61,61]:List UInt8) then (if a1=a2 then (some 1) else (some 0)) else (if a0.toList=([60]:List UInt8) then (if a1 < a2 then (some 1) else (some 0)) else (some 0)))))))=some r:=h
 clear h
 by_cases c4:a0.toList=([43]:List UInt8)
 ·rw [if_pos c4] at H
  have Gi:(a0.toList == ([43]:List UInt8))=true:=beq_iff_eq.mpr c4
  have CC:(a0.toList != ([43]:List UInt8))=false:=bne_eq_false_iff_eq.mpr c4
  clear c4
  obtain rfl:=Option.some.inj H
  go_enter Try.func119,Try.ntmps119
  go_wp2
  go_ret
  exact ⟨by first|rfl|(simp;done)|(simp [*];done),by repeat (first|exact uc.refl _|apply uc.step)⟩
 ·rw [if_neg c4] at H
  have Gi:(a0.toList == ([43]:List UInt8))=false:=beq_eq_false_iff_ne.mpr c4
  have CC:(a0.toList != ([43]:List UInt8))=true:=bne_iff_ne.mpr c4
  by_cases c5:a0.toList=([45]:List UInt8)
  ·rw [if_pos c5] at H
   have Il:(a0.toList == ([45]:List UInt8))=true:=beq_iff_eq.mpr c5
   have Bq:(a0.toList != ([45]:List UInt8))=false:=bne_eq_false_iff_eq.mpr c5
   clear c5
   obtain rfl:=Option.some.inj H
   go_enter Try.func119,Try.ntmps119
   go_wp2
   go_ret
   exact ⟨by first|rfl|(simp;done)|(simp [*];done),by repeat (first|exact uc.refl _|apply uc.step)⟩
  ·rw [if_neg c5] at H
   have Il:(a0.toList == ([45]:List UInt8))=false:=beq_eq_false_iff_ne.mpr c5
   have Bq:(a0.toList != ([45]:List UInt8))=true:=bne_iff_ne.mpr c5
   by_cases c6:a0.toList=([42]:List UInt8)
   ·rw [if_pos c6] at H
    have cm:(a0.toList == ([42]:List UInt8))=true:=beq_iff_eq.mpr c6
    have av:(a0.toList != ([42]:List UInt8))=false:=bne_eq_false_iff_eq.mpr c6
    clear c6
    obtain rfl:=Option.some.inj H
    go_enter Try.func119,Try.ntmps119
    go_wp2
    go_ret
    exact ⟨by first|rfl|(simp;done)|(simp [*];done),by repeat (first|exact uc.refl _|apply uc.step)⟩
   ·rw [if_neg c6] at H
    have cm:(a0.toList == ([42]:List UInt8))=false:=beq_eq_false_iff_ne.mpr c6
    have av:(a0.toList != ([42]:List UInt8))=true:=bne_iff_ne.mpr c6
    by_cases c7:a0.toList=([38]:List UInt8)
    ·rw [if_pos c7] at H
     have bp:(a0.toList == ([38]:List UInt8))=true:=beq_iff_eq.mpr c7
     have Zu:(a0.toList != ([38]:List UInt8))=false:=bne_eq_false_iff_eq.mpr c7
     clear c7
     obtain rfl:=Option.some.inj H
     go_enter Try.func119,Try.ntmps119
     go_wp2
     go_ret
     exact ⟨by first|rfl|(simp;done)|(simp [*];done),by repeat (first|exact uc.refl _|apply uc.step)⟩
    ·rw [if_neg c7] at H
     have bp:(a0.toList == ([38]:List UInt8))=false:=beq_eq_false_iff_ne.mpr c7
     have Zu:(a0.toList != ([38]:List UInt8))=true:=bne_iff_ne.mpr c7
     by_cases c8:a0.toList=([61,61]:List UInt8)
     ·rw [if_pos c8] at H
      have Ll:(a0.toList == ([61,61]:List UInt8))=true:=beq_iff_eq.mpr c8
      have mq:(a0.toList != ([61,61]:List UInt8))=false:=bne_eq_false_iff_eq.mpr c8
      clear c8
      by_cases c9:a1=a2
      ·rw [if_pos c9] at H
       have xy:(a1 == a2)=true:=beq_iff_eq.mpr c9
       have mB:(a1 != a2)=false:=bne_eq_false_iff_eq.mpr c9
       clear c9
       obtain rfl:=Option.some.inj H
       go_enter Try.func119,Try.ntmps119
       go_wp2
       go_ret
       exact ⟨by first|rfl|(simp;done)|(simp [*];done),by repeat (first|exact uc.refl _|apply uc.step)⟩
      ·rw [if_neg c9] at H
       have xy:(a1 == a2)=false:=beq_eq_false_iff_ne.mpr c9
       have mB:(a1 != a2)=true:=bne_iff_ne.mpr c9
       obtain rfl:=Option.some.inj H
       go_enter Try.func119,Try.ntmps119
       go_wp2
       go_ret
       exact ⟨by first|rfl|(simp;done)|(simp [*];done),by repeat (first|exact uc.refl _|apply uc.step)⟩
     ·rw [if_neg c8] at H
      have Ll:(a0.toList == ([61,61]:List UInt8))=false:=beq_eq_false_iff_ne.mpr c8
      have mq:(a0.toList != ([61,61]:List UInt8))=true:=bne_iff_ne.mpr c8
      by_cases wo:a0.toList=([60]:List UInt8)
      ·rw [if_pos wo] at H
       have Eu:(a0.toList == ([60]:List UInt8))=true:=beq_iff_eq.mpr wo
       have Ey:(a0.toList != ([60]:List UInt8))=false:=bne_eq_false_iff_eq.mpr wo
       clear wo
       by_cases c11:a1 < a2
       ·rw [if_pos c11] at H
        have Gz:decide (a1 < a2)=true:=decide_eq_true c11
        clear c11
        obtain rfl:=Option.some.inj H
        go_enter Try.func119,Try.ntmps119
        go_wp2
        go_ret
        exact ⟨by first|rfl|(simp;done)|(simp [*];done),by repeat (first|exact uc.refl _|apply uc.step)⟩
       ·rw [if_neg c11] at H
        have Gz:decide (a1 < a2)=false:=decide_eq_false c11
        clear c11
        obtain rfl:=Option.some.inj H
        go_enter Try.func119,Try.ntmps119
        go_wp2
        go_ret
        exact ⟨by first|rfl|(simp;done)|(simp [*];done),by repeat (first|exact uc.refl _|apply uc.step)⟩
      ·rw [if_neg wo] at H
       have Eu:(a0.toList == ([60]:List UInt8))=false:=beq_eq_false_iff_ne.mpr wo
       have Ey:(a0.toList != ([60]:List UInt8))=true:=bne_iff_ne.mpr wo
       obtain rfl:=Option.some.inj H
       go_enter Try.func119,Try.ntmps119
       go_wp2
       go_ret
       exact ⟨by first|rfl|(simp;done)|(simp [*];done),by repeat (first|exact uc.refl _|apply uc.step)⟩
def KV (W:World) (B kb:Nat) (v:Value) (xs:List dm) (nx:Int):Prop:=B ≤ kb∧W.heap[kb]? = some (.cells #[v,.int .i64 nx] 74 (0,0))∧Kd.R xM 79 W B (fun _=>True) v xs
def KS (W:World) (B kb:Nat) (xs:List dm) (nx:Int):Prop:=∃ v,KV W B kb v xs nx
theorem KV.below {W W':World} {B kb:Nat} {v:Value} {xs:List dm} {nx:Int} (h:KV W B kb v xs nx) (hb:Below W.heap.size W W'):KV W' B kb v xs nx:=⟨h.1,gb h.2.1 hb,Kd.Ce h.2.2 hb⟩
section
variable {W W':World} {B kb:Nat} {xs:List dm} {nx:Int}
theorem KS.below (h:KS W B kb xs nx) (hb:Below W.heap.size W W'):KS W' B kb xs nx:=by
 obtain ⟨v,h⟩:=h
 exact ⟨v,h.below hb⟩
theorem KS.alloc (h:KS W B kb xs nx) (o:Obj):KS (W.alloc o) B kb xs nx:=h.below (qa (Below.refl _ _) o)
theorem KS.drew (h:KS W B kb xs nx):KS W.drew B kb xs nx:=h.below (Nn (Below.refl _ _))
theorem KS.drewN (h:KS W B kb xs nx) (n:Nat):KS (W.drewN n) B kb xs nx:=h.below (ia (Below.refl _ _) n)
theorem KS.kept {S:Nat→Prop} (h:KS W B kb xs nx) (hk:Kept W W' S) (hS:∀ k,S k→∃ cells t,W.heap[k]? = some (.cells cells t (0,0))∧t ≠ 74∧t ≠ 79):KS W' B kb xs nx:=by
 obtain ⟨v,h0,h1,h2⟩:=h
 refine ⟨v,h0,bk h1 hk ?_,Kd.Oe (Kd.Qs (Kd.Tj h2) hk ?_) (fun _ _=>trivial)⟩
 ·intro hs
  obtain ⟨cells,t,hc,ht,_⟩:=hS kb hs
  rw [h1] at hc
  injection hc with hc
  injection hc with _ hc
  exact ht hc.symm
 ·rintro k ⟨_,_,_,q,hq,cells',hc'⟩ hs
  obtain ⟨cells,t,hc,_,ht⟩:=hS k hs
  rw [hc'] at hc
  injection hc with hc
  injection hc with _ hc
  have:q=79:=by simpa [xM,Kd.vI,Kd.pair,Kd.int,Kd.scalar] using hq
  exact ht (hc.symm.trans this)
end
def idents (n:Nat):List dm:=(List.range n).map fun (j:Nat)=>(⟨(j:Int),0⟩:dm)
theorem jh (n:Nat):(idents n).length=n:=by simp [idents]
theorem Hv (n j:Nat) (h:j < n):(idents n).take (j + 1)=(idents n).take j ++ [⟨(j:Int),0⟩]:=by
 rw [List.take_succ_eq_append_getElem (by rw [jh];exact h)]
 simp [idents]
set_option maxHeartbeats 1000000 in
set_option maxRecDepth 100000 in
theorem xq (A0 A4:Option Addr) (c0 c4 n0 n4:Nat) (p1 p2:Int) (n:Nat) (hn:n ≤ 1000) (w:World) :
  Calls Try.prog 59 #[.agg #[.slice A0 n0 c0,.int .i64 p1,.int .i64 p2,.int .i64 n,.slice A4 n4 c4]] w fun e w'=>∃ kb,e = .returned (.pointer (some ⟨kb,0,none⟩))∧KS w' w.heap.size kb (idents n) n∧Below w.heap.size w w':=by
 go_enter Try.func59,Try.ntmps59
 go_wp2
 have HS:=ja.mk (show KS ((w.alloc (.cells #[.slice A0 n0 c0,.int .i64 p1,.int .i64 p2,.int .i64 n,.slice A4 n4 c4] 30 (0,0))).alloc (.cells #[.slice none 0 0,.int .i64 n] 74 (0,0))) w.heap.size (w.heap.size + 1) ((idents n).take 0) n from ⟨_,by omega,by have:=wh (w.alloc (.cells #[.slice A0 n0 c0,.int .i64 p1,.int .i64 p2,.int .i64 n,.slice A4 n4 c4] 30 (0,0))) (.cells #[.slice none 0 0,.int .i64 n] 74 (0,0));simpa using this,Kd.TH _ _ _ _ _⟩)
 have HB:=ja.mk (qa (qa (Below.refl w.heap.size w) (.cells #[.slice A0 n0 c0,.int .i64 p1,.int .i64 p2,.int .i64 n,.slice A4 n4 c4] 30 (0,0))) (.cells #[.slice none 0 0,.int .i64 n] 74 (0,0)))
 go_loopg [11] n (fun gg v11 wr=>∃ j:Nat,j ≤ n∧n - j ≤ gg∧v11 = .int .i64 j∧ja (KS wr w.heap.size (w.heap.size + 1) ((idents n).take j) n)∧ja (Below w.heap.size w wr))
 case atStart=>exact ⟨0,Nat.zero_le _,by omega,rfl,HS,HB⟩
 case round =>
  clear HS HB
  (try clear HS)
  (try clear HB)
  obtain ⟨j,hj,hg,rfl,HS,HB⟩:=hrel
  by_cases hlt:j < n
  ·have BD:decide ((j:Int) < (n:Int))=true:=decide_eq_true (by omega)
   obtain ⟨v,h0,h1,h2⟩:=HS.out
   have HR:=ja.mk h2
   have H1:=ja.mk h1
   have hc0:=(ga h1 0).trans rfl
   have hf0:=aa h1 0
   clear h1 h2
   obtain ⟨y,hy⟩:∃ y_:List dm,y_=(idents n).take (j + 1):=⟨_,rfl⟩
   have Ny:=ja.mk hy
   clear hy
   go_wp2_with (first|(at_builtin;refine Kd.Gu xM (w0:=wr) w.heap.size rfl (.tmp 18) (.tmp 21) 72 79 (.agg #[(.int .i64 0),(.int .i64 0)]) 16 rfl Try.underlying72 VS rfl (by decide) (by omega) v ((idents n).take j) (⟨(j:Int),0⟩:dm) [.int .i64 (j:Int),.int .i64 0] (fun _=>True) (fun _=>False) rfl rfl ?aP (fun _ hk=>hk.elim) (fun _ _=>trivial) HR.out (Below.refl _ _) HB.out.size ?aL ?_;(case aP=>exact PE _ _ _ (⟨(j:Int),0⟩:dm));(case aL=>rw [List.length_take,jh];omega);intro v1 w1 ho hb hgr hat;rw [← Hv n j hlt,← Ny.out] at ho;have bJ:=ja.mk ho;have H11:=ja.mk (ji H1.out hgr (Kd.Ly HR.out H1.out (by decide)));have Qy:=ja.mk (HB.out.grown hgr HB.out.size (fun k e=>by obtain ⟨inner,hi⟩:=Kd.Ky HR.out;exact uq hi k e));obtain ⟨A1,c1,rfl⟩:=Kd.Hf ho;have VL:=(ga H11.out 0).trans rfl;have hf1:=aa H11.out 0;clear ho hb hgr hat))
   go_roundg (n - (j + 1))
   case measure=>omega
   case rel =>
    refine ⟨j + 1,by omega,by omega,by go_num,⟨?_⟩,⟨Qy.out.setCell (by simp) _⟩⟩
    rw [← Ny.out]
    exact ⟨_,by omega,oB H11.out 0 _,Kd.Oe (Kd.qg (p:=⟨w.heap.size + 1,0,none⟩) (Kd.xo bJ.out H11.out (by decide)) (fun _ hk=>hk.2) _) (fun _ _=>trivial)⟩
  ·have BD:decide ((j:Int) < (n:Int))=false:=decide_eq_false (by omega)
   obtain rfl:j=n:=by omega
   go_wp2
   go_ret
   exact ⟨_,rfl,by have:=HS.out;rw [List.take_of_length_le (by rw [jh];omega)] at this;exact this,HB.out⟩
end Go.Proofs.Ytmifdccaajngcaa.P
end
