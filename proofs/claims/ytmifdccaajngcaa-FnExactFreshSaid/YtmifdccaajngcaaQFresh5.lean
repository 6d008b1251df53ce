import Derived.Test.YtmifdccaajngcaaQFresh1
import Derived.Test.YtmifdccaajngcaaQFresh3
import Derived.Test.YtmifdccaajngcaaQFresh4
import Derived.Test.YtmifdccaajngcaaQFresh2
section
namespace Go.Proofs.Ytmifdccaajngcaa.P
open Go.RowKit Go.Proofs.Ca.xb Go.Proofs.Ca.Xb Go.Proofs.Ca.ic
attribute [local go_sem] Vd Td we ue Dd Cd Ud Sd
set_option linter.unusedVariables false
set_option linter.unusedSimpArgs false
def Mc.l0:Nat→List (Ph)→Int→List (Jh)→Int→List Int→Int→Int→Int→List (Eh)→Option ((List (Ph)) × Int)
 | 0,_,_,_,_,_,_,_,_,_=>none
 | k + 1,x6,x7,x8,x9,x102000,Od,x102002,x102003,x102004=>if x9 < (x8.length:Int) then (if 0 ≤ x9 then ((Zb.f k ((zb x8 x9).f0) ((zb x8 x9).f1) ((zb x8 x9).f2) ((zb x8 x9).f3) ((zb x8 x9).f4) ((zb x8 x9).f5) ((zb x8 x9).f6) x6 x7).bind fun xO=>(Mc.l0 k xO.2 xO.1 x8 (wrap64 (x9 + 1)) x102000 Od x102002 x102003 x102004)) else (none)) else (some (x6,wrap64 (x7 - x102003)))
def Mc.f (k:Nat) (Ra:List Int) (Ja:Int) (Ma:Int) (Oa:Int) (Qa:List (Eh)) (a1:Int):Option ((List (Ph)) × Int):=(Bc.f k Oa).bind fun t102=>(if 0 ≤ a1 then (if a1 < (Qa.length:Int) then (Mc.l0 k t102 Oa ((mb Qa a1).f0) 0 Ra Ja Ma Oa Qa) else (none)) else (none))
theorem Mc.je:∀ k,(∀ y0 y1 y2 y3 y4 y5 y6 y7 y8,mc (Mc.l0 k y0 y1 y2 y3 y4 y5 y6 y7 y8) (Mc.l0 (k + 1) y0 y1 y2 y3 y4 y5 y6 y7 y8))
 | 0=>fun _ _ _ _ _ _ _ _ _ r h=>by simp [Mc.l0] at h
 | k + 1=>by
  have Lf:=Mc.je k
  ·intro y0 y1 y2 y3 y4 y5 y6 y7 y8
   unfold Mc.l0
   repeat' first
   | (with_reducible exact Lf _ _ _ _ _ _ _ _ _)
   | (with_reducible exact Bc.mono _ _)
   | (with_reducible exact Zb.mono _ _ _ _ _ _ _ _ _ _)
   | (with_reducible exact mc.refl _)
   | (with_reducible exact mc.none _)
   | (with_reducible refine mc.ite ?_ ?_)
   | (with_reducible refine mc.bind ?_ (fun _=>?_))
   | exact Lf _ _ _ _ _ _ _ _ _
   | exact Bc.mono _ _
   | exact Zb.mono _ _ _ _ _ _ _ _ _ _
   | exact mc.none _
   | refine mc.ite ?_ ?_
   | refine mc.bind ?_ (fun _=>?_)
theorem Mc.mono:∀ a0 a1 a2 a3 a4 a5 k,mc (Mc.f k a0 a1 a2 a3 a4 a5) (Mc.f (k + 1) a0 a1 a2 a3 a4 a5):=by
 intro a0 a1 a2 a3 a4 a5 k
 have Lf:=Mc.je k
 unfold Mc.f
 repeat' first
   | (with_reducible exact Lf _ _ _ _ _ _ _ _ _)
   | (with_reducible exact Bc.mono _ _)
   | (with_reducible exact Zb.mono _ _ _ _ _ _ _ _ _ _)
   | (with_reducible exact mc.refl _)
   | (with_reducible exact mc.none _)
   | (with_reducible refine mc.ite ?_ ?_)
   | (with_reducible refine mc.bind ?_ (fun _=>?_))
   | exact Lf _ _ _ _ _ _ _ _ _
   | exact Bc.mono _ _
   | exact Zb.mono _ _ _ _ _ _ _ _ _ _
   | exact mc.none _
   | refine mc.ite ?_ ?_
   | refine mc.bind ?_ (fun _=>?_)
set_option maxHeartbeats 8000000 in
set_option maxRecDepth 100000 in
theorem Mc.calls (k:Nat) (Ib:Option Addr) (Gb:Nat) (Ra:List Int) (Ja:Int) (Ma:Int) (Oa:Int) (qc:Option Addr) (dc:Nat) (Qa:List (Eh)) (a1:Int) (r1:List (Ph)) (r2:Int) (w:World) (zf:Kd.C (Kd.int .i64) w Ib Ra.length Ra) (uf:Ra.length ≤ Gb) (bg:Kd.C Xq w qc Qa.length Qa) (cg:Qa.length ≤ dc) (h:Mc.f k Ra Ja Ma Oa Qa a1=some (r1,r2)) :
  Calls Try.prog 55 #[.agg #[.slice Ib Ra.length Gb,.int .i64 Ja,.int .i64 Ma,.int .i64 Oa,.slice qc Qa.length dc],.int .i64 a1] w fun e w'=>∃ v0_:Value,e = .returned (.tuple #[v0_,.int .i64 r2])∧Kd.R ak 77 w' w.heap.size (fun _=>True) v0_ r1∧Below w.heap.size w w':=by
 have CA:=Try.underlying30
 have BA:=Try.underlying70
 have Ve:=qa.mk zf
 have gf:=qa.mk uf
 clear zf uf
 have Tf:=qa.mk bg
 have Yg:=qa.mk cg
 clear bg cg
 have HB:=qa.mk (Below.refl w.heap.size w)
 have H:((Bc.f k Oa).bind fun t102=>(if 0 ≤ a1 then (if a1 < (Qa.length:Int) then (Mc.l0 k t102 Oa ((mb Qa a1).f0) 0 Ra Ja Ma Oa Qa) else (none)) else (none)))=some (r1,r2):=h
 clear h
 replace H:=Option.bind_eq_some_iff.mp H
 obtain ⟨t102,Ht,H⟩:=H
 replace H:(if 0 ≤ a1 then (if a1 < (Qa.length:Int) then (Mc.l0 k t102 Oa ((mb Qa a1).f0) 0 Ra Ja Ma Oa Qa) else (none)) else (none))=some (r1,r2):=H
 have A3:=qa.mk Ht
 clear Ht
 by_cases c4:0 ≤ a1
 ·rw [if_pos c4] at H
  have Mh:decide (0 ≤ a1)=true:=decide_eq_true c4
  clear c4
  by_cases c5:a1 < (Qa.length:Int)
  ·rw [if_pos c5] at H
   have Hl:decide (a1 < (Qa.length:Int))=true:=decide_eq_true c5
   clear c5
   have H':=qa.mk H
   clear H
   go_enter Try.func55,Try.ntmps55
   go_wp2_with (first|((with_reducible refine Mb (N:=2) rfl ?_);refine Jb ?hg (N:=2) ?hd (cs:=#[.slice Ib Ra.length Gb,.int .i64 Ja,.int .i64 Ma,.int .i64 Oa,.slice qc Qa.length dc]) (t:=30) ?hr ?_;(case hd=>rfl);(case hg=>rfl);(case hr=>first|(go_simp;done)|(go_simp;rfl));intro Fa hg w6 Qb hb;have Pb:=qa.mk (Pa (by repeat (first|(with_reducible first|exact HB.out|apply ia|apply ja|apply za)|exact HB.out)) hb);have Wb:=qa.mk (Qb);have nc:=qa.mk ((by rw [hg];exact (Na (by repeat (first|(with_reducible first|exact HB.out|apply ia|apply ja|apply za)|exact HB.out))):w.heap.size ≤ Fa));have Nc:=qa.mk ((by rw [hg];exact (Na (by repeat (first|(with_reducible first|exact HB.out|apply ia|apply ja|apply za)|exact HB.out))):w.heap.size ≤ Fa));clear HB;have HB:=Pb;have ua:=Wb;have Nd:=nc;have Va:=Nc;clear Pb Wb nc Nc;clear hb Qb hg;have yo:w6.cell? ⟨Fa,0,none⟩=some (.slice Ib Ra.length Gb):=(ga ua.out 0).trans rfl;have xo:w6.cell? ⟨Fa,1,none⟩=some (.int .i64 Ja):=(ga ua.out 1).trans rfl;have wo:w6.cell? ⟨Fa,2,none⟩=some (.int .i64 Ma):=(ga ua.out 2).trans rfl;have vo:w6.cell? ⟨Fa,3,none⟩=some (.int .i64 Oa):=(ga ua.out 3).trans rfl;have uo:w6.cell? ⟨Fa,4,none⟩=some (.slice qc Qa.length dc):=(ga ua.out 4).trans rfl;have fo:=aa ua.out 0;have Zn:=aa ua.out 1;have Yn:=aa ua.out 2;have Xn:=aa ua.out 3;have Wn:=aa ua.out 4)|(go_at_call 76;(with_reducible refine (Bc.calls k Oa t102 _ A3.out).mono ?_);rintro e w8 ⟨eP,rfl,Vo,hb⟩;have Pb:=qa.mk (Kd.Xg Vo (Na (by repeat (first|(with_reducible first|exact HB.out|apply ia|apply ja|apply za|refine Aa ?_ Va.out)|exact HB.out))));have Wb:=qa.mk (Wa (g:=Fa) (o:=.cells #[.slice Ib Ra.length Gb,.int .i64 Ja,.int .i64 Ma,.int .i64 Oa,.slice qc Qa.length dc] 30 (0,0)) (by (with_reducible repeat (first|refine Ea ?_ _|refine Ga ?_|refine Da ?_ _));exact ua.out) hb);have nc:=qa.mk (Pa (by repeat (first|(with_reducible first|exact HB.out|apply ia|apply ja|apply za|refine Aa ?_ Va.out)|exact HB.out)) hb);clear ua;clear HB;have BJ:=Pb;have ua:=Wb;have HB:=nc;clear Pb Wb nc;(try clear hb);(try clear hb2);(try clear hk);(try clear hi);(try clear Vo);have cm:w8.cell? ⟨Fa,0,none⟩=some (.slice Ib Ra.length Gb):=(ga ua.out 0).trans rfl;have Zl:w8.cell? ⟨Fa,1,none⟩=some (.int .i64 Ja):=(ga ua.out 1).trans rfl;have Yl:w8.cell? ⟨Fa,2,none⟩=some (.int .i64 Ma):=(ga ua.out 2).trans rfl;have Xl:w8.cell? ⟨Fa,3,none⟩=some (.int .i64 Oa):=(ga ua.out 3).trans rfl;have Wl:w8.cell? ⟨Fa,4,none⟩=some (.slice qc Qa.length dc):=(ga ua.out 4).trans rfl;have Tl:=aa ua.out 0;have Sl:=aa ua.out 1;have Rl:=aa ua.out 2;have Ql:=aa ua.out 3;have Ol:=aa ua.out 4;have Bn:0 ≤ (a1:Int):=of_decide_eq_true (by first|(with_reducible assumption)|assumption);have zn:a1 < (Qa.length:Int):=of_decide_eq_true (by first|(with_reducible assumption)|assumption);obtain ⟨Vj,ni,ji,Rz,ng,mg,lg,kg,jg,Hh,Ih⟩:=Wi Tf.out a1 Bn zn;cases Rz;replace ng:=(HB.out.cell (World.block_lt_of_cell? w _ ng)).trans ng;replace mg:=(HB.out.cell (World.block_lt_of_cell? w _ mg)).trans mg;replace lg:=(HB.out.cell (World.block_lt_of_cell? w _ lg)).trans lg;replace kg:=(HB.out.cell (World.block_lt_of_cell? w _ kg)).trans kg;replace jg:=(HB.out.cell (World.block_lt_of_cell? w _ jg)).trans jg;have Lo:=qa.mk Ih;have Lq:=qa.mk Hh;clear Ih Hh;replace Bn:=eq_true Bn;replace zn:=eq_true zn))
   repeat (go_quiet (first|((with_reducible refine Mb (N:=2) rfl ?_);refine Jb ?hg (N:=2) ?hd (cs:=#[.slice Ib Ra.length Gb,.int .i64 Ja,.int .i64 Ma,.int .i64 Oa,.slice qc Qa.length dc]) (t:=30) ?hr ?_;(case hd=>rfl);(case hg=>rfl);(case hr=>first|(go_simp;done)|(go_simp;rfl));intro Fa hg w6 Qb hb;have Pb:=qa.mk (Pa (by repeat (first|(with_reducible first|exact HB.out|apply ia|apply ja|apply za)|exact HB.out)) hb);have Wb:=qa.mk (Qb);have nc:=qa.mk ((by rw [hg];exact (Na (by repeat (first|(with_reducible first|exact HB.out|apply ia|apply ja|apply za)|exact HB.out))):w.heap.size ≤ Fa));have Nc:=qa.mk ((by rw [hg];exact (Na (by repeat (first|(with_reducible first|exact HB.out|apply ia|apply ja|apply za)|exact HB.out))):w.heap.size ≤ Fa));clear HB;have HB:=Pb;have ua:=Wb;have Nd:=nc;have Va:=Nc;clear Pb Wb nc Nc;clear hb Qb hg;have yo:w6.cell? ⟨Fa,0,none⟩=some (.slice Ib Ra.length Gb):=(ga ua.out 0).trans rfl;have xo:w6.cell? ⟨Fa,1,none⟩=some (.int .i64 Ja):=(ga ua.out 1).trans rfl;have wo:w6.cell? ⟨Fa,2,none⟩=some (.int .i64 Ma):=(ga ua.out 2).trans rfl;have vo:w6.cell? ⟨Fa,3,none⟩=some (.int .i64 Oa):=(ga ua.out 3).trans rfl;have uo:w6.cell? ⟨Fa,4,none⟩=some (.slice qc Qa.length dc):=(ga ua.out 4).trans rfl;have fo:=aa ua.out 0;have Zn:=aa ua.out 1;have Yn:=aa ua.out 2;have Xn:=aa ua.out 3;have Wn:=aa ua.out 4)|(go_at_call 76;(with_reducible refine (Bc.calls k Oa t102 _ A3.out).mono ?_);rintro e w8 ⟨eP,rfl,Vo,hb⟩;have Pb:=qa.mk (Kd.Xg Vo (Na (by repeat (first|(with_reducible first|exact HB.out|apply ia|apply ja|apply za|refine Aa ?_ Va.out)|exact HB.out))));have Wb:=qa.mk (Wa (g:=Fa) (o:=.cells #[.slice Ib Ra.length Gb,.int .i64 Ja,.int .i64 Ma,.int .i64 Oa,.slice qc Qa.length dc] 30 (0,0)) (by (with_reducible repeat (first|refine Ea ?_ _|refine Ga ?_|refine Da ?_ _));exact ua.out) hb);have nc:=qa.mk (Pa (by repeat (first|(with_reducible first|exact HB.out|apply ia|apply ja|apply za|refine Aa ?_ Va.out)|exact HB.out)) hb);clear ua;clear HB;have BJ:=Pb;have ua:=Wb;have HB:=nc;clear Pb Wb nc;(try clear hb);(try clear hb2);(try clear hk);(try clear hi);(try clear Vo);have cm:w8.cell? ⟨Fa,0,none⟩=some (.slice Ib Ra.length Gb):=(ga ua.out 0).trans rfl;have Zl:w8.cell? ⟨Fa,1,none⟩=some (.int .i64 Ja):=(ga ua.out 1).trans rfl;have Yl:w8.cell? ⟨Fa,2,none⟩=some (.int .i64 Ma):=(ga ua.out 2).trans rfl;have Xl:w8.cell? ⟨Fa,3,none⟩=some (.int .i64 Oa):=(ga ua.out 3).trans rfl;have Wl:w8.cell? ⟨Fa,4,none⟩=some (.slice qc Qa.length dc):=(ga ua.out 4).trans rfl;have Tl:=aa ua.out 0;have Sl:=aa ua.out 1;have Rl:=aa ua.out 2;have Ql:=aa ua.out 3;have Ol:=aa ua.out 4;have Bn:0 ≤ (a1:Int):=of_decide_eq_true (by first|(with_reducible assumption)|assumption);have zn:a1 < (Qa.length:Int):=of_decide_eq_true (by first|(with_reducible assumption)|assumption);obtain ⟨Vj,ni,ji,Rz,ng,mg,lg,kg,jg,Hh,Ih⟩:=Wi Tf.out a1 Bn zn;cases Rz;replace ng:=(HB.out.cell (World.block_lt_of_cell? w _ ng)).trans ng;replace mg:=(HB.out.cell (World.block_lt_of_cell? w _ mg)).trans mg;replace lg:=(HB.out.cell (World.block_lt_of_cell? w _ lg)).trans lg;replace kg:=(HB.out.cell (World.block_lt_of_cell? w _ kg)).trans kg;replace jg:=(HB.out.cell (World.block_lt_of_cell? w _ jg)).trans jg;have Lo:=qa.mk Ih;have Lq:=qa.mk Hh;clear Ih Hh;replace Bn:=eq_true Bn;replace zn:=eq_true zn));try go_wp2_with (first|((with_reducible refine Mb (N:=2) rfl ?_);refine Jb ?hg (N:=2) ?hd (cs:=#[.slice Ib Ra.length Gb,.int .i64 Ja,.int .i64 Ma,.int .i64 Oa,.slice qc Qa.length dc]) (t:=30) ?hr ?_;(case hd=>rfl);(case hg=>rfl);(case hr=>first|(go_simp;done)|(go_simp;rfl));intro Fa hg w6 Qb hb;have Pb:=qa.mk (Pa (by repeat (first|(with_reducible first|exact HB.out|apply ia|apply ja|apply za)|exact HB.out)) hb);have Wb:=qa.mk (Qb);have nc:=qa.mk ((by rw [hg];exact (Na (by repeat (first|(with_reducible first|exact HB.out|apply ia|apply ja|apply za)|exact HB.out))):w.heap.size ≤ Fa));have Nc:=qa.mk ((by rw [hg];exact (Na (by repeat (first|(with_reducible first|exact HB.out|apply ia|apply ja|apply za)|exact HB.out))):w.heap.size ≤ Fa));clear HB;have HB:=Pb;have ua:=Wb;have Nd:=nc;have Va:=Nc;clear Pb Wb nc Nc;clear hb Qb hg;have yo:w6.cell? ⟨Fa,0,none⟩=some (.slice Ib Ra.length Gb):=(ga ua.out 0).trans rfl;have xo:w6.cell? ⟨Fa,1,none⟩=some (.int .i64 Ja):=(ga ua.out 1).trans rfl;have wo:w6.cell? ⟨Fa,2,none⟩=some (.int .i64 Ma):=(ga ua.out 2).trans rfl;have vo:w6.cell? ⟨Fa,3,none⟩=some (.int .i64 Oa):=(ga ua.out 3).trans rfl;have uo:w6.cell? ⟨Fa,4,none⟩=some (.slice qc Qa.length dc):=(ga ua.out 4).trans rfl;have fo:=aa ua.out 0;have Zn:=aa ua.out 1;have Yn:=aa ua.out 2;have Xn:=aa ua.out 3;have Wn:=aa ua.out 4)|(go_at_call 76;(with_reducible refine (Bc.calls k Oa t102 _ A3.out).mono ?_);rintro e w8 ⟨eP,rfl,Vo,hb⟩;have Pb:=qa.mk (Kd.Xg Vo (Na (by repeat (first|(with_reducible first|exact HB.out|apply ia|apply ja|apply za|refine Aa ?_ Va.out)|exact HB.out))));have Wb:=qa.mk (Wa (g:=Fa) (o:=.cells #[.slice Ib Ra.length Gb,.int .i64 Ja,.int .i64 Ma,.int .i64 Oa,.slice qc Qa.length dc] 30 (0,0)) (by (with_reducible repeat (first|refine Ea ?_ _|refine Ga ?_|refine Da ?_ _));exact ua.out) hb);have nc:=qa.mk (Pa (by repeat (first|(with_reducible first|exact HB.out|apply ia|apply ja|apply za|refine Aa ?_ Va.out)|exact HB.out)) hb);clear ua;clear HB;have BJ:=Pb;have ua:=Wb;have HB:=nc;clear Pb Wb nc;(try clear hb);(try clear hb2);(try clear hk);(try clear hi);(try clear Vo);have cm:w8.cell? ⟨Fa,0,none⟩=some (.slice Ib Ra.length Gb):=(ga ua.out 0).trans rfl;have Zl:w8.cell? ⟨Fa,1,none⟩=some (.int .i64 Ja):=(ga ua.out 1).trans rfl;have Yl:w8.cell? ⟨Fa,2,none⟩=some (.int .i64 Ma):=(ga ua.out 2).trans rfl;have Xl:w8.cell? ⟨Fa,3,none⟩=some (.int .i64 Oa):=(ga ua.out 3).trans rfl;have Wl:w8.cell? ⟨Fa,4,none⟩=some (.slice qc Qa.length dc):=(ga ua.out 4).trans rfl;have Tl:=aa ua.out 0;have Sl:=aa ua.out 1;have Rl:=aa ua.out 2;have Ql:=aa ua.out 3;have Ol:=aa ua.out 4;have Bn:0 ≤ (a1:Int):=of_decide_eq_true (by first|(with_reducible assumption)|assumption);have zn:a1 < (Qa.length:Int):=of_decide_eq_true (by first|(with_reducible assumption)|assumption);obtain ⟨Vj,ni,ji,Rz,ng,mg,lg,kg,jg,Hh,Ih⟩:=Wi Tf.out a1 Bn zn;cases Rz;replace ng:=(HB.out.cell (World.block_lt_of_cell? w _ ng)).trans ng;replace mg:=(HB.out.cell (World.block_lt_of_cell? w _ mg)).trans mg;replace lg:=(HB.out.cell (World.block_lt_of_cell? w _ lg)).trans lg;replace kg:=(HB.out.cell (World.block_lt_of_cell? w _ kg)).trans kg;replace jg:=(HB.out.cell (World.block_lt_of_cell? w _ jg)).trans jg;have Lo:=qa.mk Ih;have Lq:=qa.mk Hh;clear Ih Hh;replace Bn:=eq_true Bn;replace zn:=eq_true zn)))
   go_loopg [7,9] k (fun kq v7 v9 w'=>∃ (uu:List (Ph)) (qG:Int) (Qh:Int),v7 = .int .i64 qG∧v9 = .int .i64 Qh∧qa (Mc.l0 kq uu qG ((mb Qa a1).f0) Qh Ra Ja Ma Oa Qa=some (r1,r2))∧qa (kq ≤ k)∧qa (Kd.R ak 77 w' w.heap.size (fun _=>True) eP uu)∧qa (w'.heap[Fa]? = some (.cells #[(.slice Ib Ra.length Gb),.int .i64 Ja,.int .i64 Ma,.int .i64 Oa,(.slice (some Vj) Qa.length dc)] 30 (0,0)))∧qa (Below w.heap.size w w'))
   case atStart=>exact ⟨(t102),(Oa),(0),(by first|rfl|(simp;done)|(simp [*];done)),(by first|rfl|(simp;done)|(simp [*];done)),H',⟨Nat.le_refl _⟩,⟨by (with_reducible repeat (first|apply Kd.Qc|apply Kd.Pc|apply Kd.xd));exact BJ.out⟩,⟨by (with_reducible repeat (first|refine Ea ?_ _|refine Ga ?_|refine Da ?_ _));exact ua.out⟩,⟨by repeat (first|(with_reducible first|exact HB.out|apply ia|apply ja|apply za|refine Aa ?_ Va.out)|exact HB.out)⟩⟩
   case round =>
    clear H'
    try clear c1
    try clear p1
    try clear q1
    try clear hx1
    try clear p2
    try clear c4
    try clear Mh
    try clear c5
    try clear Hl
    try clear yo
    try clear xo
    try clear wo
    try clear vo
    try clear uo
    try clear cm
    try clear Zl
    try clear Yl
    try clear Xl
    try clear Wl
    try clear fo
    try clear Zn
    try clear Yn
    try clear Xn
    try clear Wn
    try clear Tl
    try clear Sl
    try clear Rl
    try clear Ql
    try clear Ol
    try clear ng
    try clear mg
    try clear lg
    try clear kg
    try clear jg
    try clear Bn
    try clear zn
    (try clear HA)
    (try clear We)
    (try clear Mo)
    (try clear ua)
    (try clear HB)
    obtain ⟨uu,qG,Qh,rfl,rfl,HA,We,Mo,ua,HB⟩:=hrel
    cases gk with
    | zero=>exact absurd HA.out (by simp [Mc.l0])
    | succ k1 =>
     have H:=HA.out
     clear HA
     simp only [Mc.l0] at H
     by_cases Jt:Qh < (((mb Qa a1).f0).length:Int)
     ·rw [if_pos Jt] at H
      have VA:decide (Qh < (((mb Qa a1).f0).length:Int))=true:=decide_eq_true Jt
      clear Jt
      by_cases c11:0 ≤ Qh
      ·rw [if_pos c11] at H
       have iG:decide (0 ≤ Qh)=true:=decide_eq_true c11
       clear c11
       replace H:=Option.bind_eq_some_iff.mp H
       obtain ⟨⟨t107,t108⟩,ZX,H⟩:=H
       replace H:(Mc.l0 k1 t108 t107 ((mb Qa a1).f0) (wrap64 (Qh + 1)) Ra Ja Ma Oa Qa)=some (r1,r2):=H
       have A12:=qa.mk ZX
       clear ZX
       have H':=qa.mk H
       clear H
       have Bu:0 ≤ (Qh:Int):=of_decide_eq_true (by first|(with_reducible assumption)|assumption)
       have Au:Qh < (((mb Qa a1).f0).length:Int):=of_decide_eq_true (by first|(with_reducible assumption)|assumption)
       obtain ⟨Pj,bJ,Gi,Ei,Iy,Hy,Gy,Fy,Ey⟩:=Jo Lo.out Qh Bu Au
       cases bJ
       replace Gi:=(HB.out.cell (World.block_lt_of_cell? w _ Gi)).trans Gi
       replace Ei:=(HB.out.cell (World.block_lt_of_cell? w _ Ei)).trans Ei
       replace Iy:=(HB.out.cell (World.block_lt_of_cell? w _ Iy)).trans Iy
       replace Hy:=(HB.out.cell (World.block_lt_of_cell? w _ Hy)).trans Hy
       replace Gy:=(HB.out.cell (World.block_lt_of_cell? w _ Gy)).trans Gy
       replace Fy:=(HB.out.cell (World.block_lt_of_cell? w _ Fy)).trans Fy
       replace Ey:=(HB.out.cell (World.block_lt_of_cell? w _ Ey)).trans Ey
       replace Bu:=eq_true Bu
       replace Au:=eq_true Au
       obtain ⟨aH,UG,Kaa⟩:=Kd.mh Mo.out
       subst Kaa
       go_wp2_with (first|(go_at_call 78;(with_reducible refine (Zb.calls k1 ((zb ((mb Qa a1).f0) Qh).f0) ((zb ((mb Qa a1).f0) Qh).f1) ((zb ((mb Qa a1).f0) Qh).f2) ((zb ((mb Qa a1).f0) Qh).f3) ((zb ((mb Qa a1).f0) Qh).f4) ((zb ((mb Qa a1).f0) Qh).f5) ((zb ((mb Qa a1).f0) Qh).f6) (fun k_=>some k_=(.slice aH uu.length UG:Value).ownBlock) (.slice aH uu.length UG) uu qG t107 t108 w _ ?side1 ?side2 A12.out).mono ?_);(case side1=>repeat (first|(with_reducible first|exact HB.out|apply ia|apply ja|apply za|refine Aa ?_ Va.out)|exact HB.out));(case side2=>exact Kd.Ct rfl Mo.out);rintro e TC ⟨rfl,hy0,hb,hkp⟩;have Pb:=qa.mk (Kd.LC rfl hy0 (fun k_ e_=>Mo.out.1 k_ e_));have Wb:=qa.mk (Kp (by (with_reducible repeat (first|refine Ea ?_ _|refine Ga ?_|refine Da ?_ _));exact ua.out) hkp (fun hs_=>(fun e_=>(Kd.Qx Mo.out ua.out (by decide)) e_) hs_));have nc:=qa.mk (hb);clear Mo;clear ua;clear HB;have Mo:=Pb;have ua:=Wb;have HB:=nc;clear Pb Wb nc;(try clear hb);(try clear hkp);(try clear hy0)))
       repeat (go_quiet (first|(go_at_call 78;(with_reducible refine (Zb.calls k1 ((zb ((mb Qa a1).f0) Qh).f0) ((zb ((mb Qa a1).f0) Qh).f1) ((zb ((mb Qa a1).f0) Qh).f2) ((zb ((mb Qa a1).f0) Qh).f3) ((zb ((mb Qa a1).f0) Qh).f4) ((zb ((mb Qa a1).f0) Qh).f5) ((zb ((mb Qa a1).f0) Qh).f6) (fun k_=>some k_=(.slice aH uu.length UG:Value).ownBlock) (.slice aH uu.length UG) uu qG t107 t108 w _ ?side1 ?side2 A12.out).mono ?_);(case side1=>repeat (first|(with_reducible first|exact HB.out|apply ia|apply ja|apply za|refine Aa ?_ Va.out)|exact HB.out));(case side2=>exact Kd.Ct rfl Mo.out);rintro e TC ⟨rfl,hy0,hb,hkp⟩;have Pb:=qa.mk (Kd.LC rfl hy0 (fun k_ e_=>Mo.out.1 k_ e_));have Wb:=qa.mk (Kp (by (with_reducible repeat (first|refine Ea ?_ _|refine Ga ?_|refine Da ?_ _));exact ua.out) hkp (fun hs_=>(fun e_=>(Kd.Qx Mo.out ua.out (by decide)) e_) hs_));have nc:=qa.mk (hb);clear Mo;clear ua;clear HB;have Mo:=Pb;have ua:=Wb;have HB:=nc;clear Pb Wb nc;(try clear hb);(try clear hkp);(try clear hy0)));try go_wp2_with (first|(go_at_call 78;(with_reducible refine (Zb.calls k1 ((zb ((mb Qa a1).f0) Qh).f0) ((zb ((mb Qa a1).f0) Qh).f1) ((zb ((mb Qa a1).f0) Qh).f2) ((zb ((mb Qa a1).f0) Qh).f3) ((zb ((mb Qa a1).f0) Qh).f4) ((zb ((mb Qa a1).f0) Qh).f5) ((zb ((mb Qa a1).f0) Qh).f6) (fun k_=>some k_=(.slice aH uu.length UG:Value).ownBlock) (.slice aH uu.length UG) uu qG t107 t108 w _ ?side1 ?side2 A12.out).mono ?_);(case side1=>repeat (first|(with_reducible first|exact HB.out|apply ia|apply ja|apply za|refine Aa ?_ Va.out)|exact HB.out));(case side2=>exact Kd.Ct rfl Mo.out);rintro e TC ⟨rfl,hy0,hb,hkp⟩;have Pb:=qa.mk (Kd.LC rfl hy0 (fun k_ e_=>Mo.out.1 k_ e_));have Wb:=qa.mk (Kp (by (with_reducible repeat (first|refine Ea ?_ _|refine Ga ?_|refine Da ?_ _));exact ua.out) hkp (fun hs_=>(fun e_=>(Kd.Qx Mo.out ua.out (by decide)) e_) hs_));have nc:=qa.mk (hb);clear Mo;clear ua;clear HB;have Mo:=Pb;have ua:=Wb;have HB:=nc;clear Pb Wb nc;(try clear hb);(try clear hkp);(try clear hy0))))
       go_roundg k1
       case measure=>have:=We.out;omega
       case rel=>exact ⟨(t108),(t107),(wrap64 (Qh + 1)),(by first|rfl|(simp;done)|(simp [*];done)),(by first|rfl|(simp;done)|(simp [*];done)),H',⟨by have:=We.out;omega⟩,⟨by (with_reducible repeat (first|apply Kd.Qc|apply Kd.Pc|apply Kd.xd));exact Mo.out⟩,⟨by (with_reducible repeat (first|refine Ea ?_ _|refine Ga ?_|refine Da ?_ _));exact ua.out⟩,⟨by repeat (first|(with_reducible first|exact HB.out|apply ia|apply ja|apply za|refine Aa ?_ Va.out)|exact HB.out)⟩⟩
      ·rw [if_neg c11] at H
       exact absurd H (by simp)
     ·rw [if_neg Jt] at H
      have VA:decide (Qh < (((mb Qa a1).f0).length:Int))=false:=decide_eq_false Jt
      clear Jt
      simp only [Option.some.injEq,Prod.mk.injEq] at H
      obtain ⟨rfl,rfl⟩:=H
      have qw:wr.cell? ⟨Fa,0,none⟩=some (.slice Ib Ra.length Gb):=(ga ua.out 0).trans rfl
      have ow:wr.cell? ⟨Fa,1,none⟩=some (.int .i64 Ja):=(ga ua.out 1).trans rfl
      have nw:wr.cell? ⟨Fa,2,none⟩=some (.int .i64 Ma):=(ga ua.out 2).trans rfl
      have mw:wr.cell? ⟨Fa,3,none⟩=some (.int .i64 Oa):=(ga ua.out 3).trans rfl
      have jw:wr.cell? ⟨Fa,4,none⟩=some (.slice (some Vj) Qa.length dc):=(ga ua.out 4).trans rfl
      have Av:=aa ua.out 0
      have wv:=aa ua.out 1
      have vv:=aa ua.out 2
      have tv:=aa ua.out 3
      have qv:=aa ua.out 4
      go_wp2
      repeat (go_quiet (fail);try go_wp2)
      go_ret2
      exact ⟨_,by first|rfl|(simp [La,Ka] <;> rfl)|(simp [*,La,Ka] <;> rfl),by (with_reducible repeat (first|apply Kd.Qc|apply Kd.Pc|apply Kd.xd));exact Mo.out,by repeat (first|(with_reducible first|exact HB.out|apply ia|apply ja|apply za|refine Aa ?_ Va.out)|exact HB.out)⟩
  ·rw [if_neg c5] at H
   exact absurd H (by simp)
 ·rw [if_neg c4] at H
  exact absurd H (by simp)
end Go.Proofs.Ytmifdccaajngcaa.P
end
section
namespace Go.Proofs.Ytmifdccaajngcaa.P
open Go.RowKit Go.Proofs.Ca.xb Go.Proofs.Ca.Xb Go.Proofs.Ca.ic
attribute [local go_sem] Vd Td we ue Dd Cd Ud Sd
set_option linter.unusedVariables false
set_option linter.unusedSimpArgs false
def Gf.f (k:Nat) (Ra:List Int) (Ja:Int) (Ma:Int) (Oa:Int) (Qa:List (Eh)) (a1:Int):Option (Int):=(Ua.f k Ra Ja Ma Oa Qa).bind fun t102=>(if t102=true then ((jb.f a1 0 (wrap64 ((Qa.length:Int) - 1))).bind fun t103=>(if t103=true then ((Mc.f k Ra Ja Ma Oa Qa a1).bind fun Jp=>(some Jp.2)) else (some (-1)))) else (some (-1)))
theorem Gf.mono:∀ a0 a1 a2 a3 a4 a5 k,mc (Gf.f k a0 a1 a2 a3 a4 a5) (Gf.f (k + 1) a0 a1 a2 a3 a4 a5):=by
 intro a0 a1 a2 a3 a4 a5 k
 unfold Gf.f
 repeat' first
   | (with_reducible exact Ua.mono _ _ _ _ _ _)
   | (with_reducible exact Mc.mono _ _ _ _ _ _ _)
   | (with_reducible exact mc.refl _)
   | (with_reducible exact mc.none _)
   | (with_reducible refine mc.ite ?_ ?_)
   | (with_reducible refine mc.bind ?_ (fun _=>?_))
   | exact Ua.mono _ _ _ _ _ _
   | exact Mc.mono _ _ _ _ _ _ _
   | exact mc.none _
   | refine mc.ite ?_ ?_
   | refine mc.bind ?_ (fun _=>?_)
set_option maxHeartbeats 8000000 in
set_option maxRecDepth 100000 in
theorem Gf.calls (k:Nat) (Ib:Option Addr) (Gb:Nat) (Ra:List Int) (Ja:Int) (Ma:Int) (Oa:Int) (qc:Option Addr) (dc:Nat) (Qa:List (Eh)) (a1:Int) (r:Int) (w:World) (zf:Kd.C (Kd.int .i64) w Ib Ra.length Ra) (uf:Ra.length ≤ Gb) (bg:Kd.C Xq w qc Qa.length Qa) (cg:Qa.length ≤ dc) (h:Gf.f k Ra Ja Ma Oa Qa a1=some r) :
  Calls Try.prog 14 #[.agg #[.slice Ib Ra.length Gb,.int .i64 Ja,.int .i64 Ma,.int .i64 Oa,.slice qc Qa.length dc],.int .i64 a1] w fun e w'=>e = .returned (.int .i64 r)∧Below w.heap.size w w':=by
 have CA:=Try.underlying30
 have Ve:=qa.mk zf
 have gf:=qa.mk uf
 clear zf uf
 have Tf:=qa.mk bg
 have Yg:=qa.mk cg
 clear bg cg
 have HB:=qa.mk (Below.refl w.heap.size w)
 have H:((Ua.f k Ra Ja Ma Oa Qa).bind fun t102=>(if t102=true then ((jb.f a1 0 (wrap64 ((Qa.length:Int) - 1))).bind fun t103=>(if t103=true then ((Mc.f k Ra Ja Ma Oa Qa a1).bind fun Jp=>(some Jp.2)) else (some (-1)))) else (some (-1))))=some r:=h
 clear h
 replace H:=Option.bind_eq_some_iff.mp H
 obtain ⟨t102,Ht,H⟩:=H
 replace H:(if t102=true then ((jb.f a1 0 (wrap64 ((Qa.length:Int) - 1))).bind fun t103=>(if t103=true then ((Mc.f k Ra Ja Ma Oa Qa a1).bind fun Jp=>(some Jp.2)) else (some (-1)))) else (some (-1)))=some r:=H
 have A3:=qa.mk Ht
 clear Ht
 by_cases c4:t102=true
 ·subst c4
  have H1:((jb.f a1 0 (wrap64 ((Qa.length:Int) - 1))).bind fun t103=>(if t103=true then ((Mc.f k Ra Ja Ma Oa Qa a1).bind fun Jp=>(some Jp.2)) else (some (-1))))=some r:=by rw [if_pos rfl] at H;exact H
  clear H
  have H:=H1
  clear H1
  replace H:=Option.bind_eq_some_iff.mp H
  obtain ⟨t103,RO,H⟩:=H
  replace H:(if t103=true then ((Mc.f k Ra Ja Ma Oa Qa a1).bind fun Jp=>(some Jp.2)) else (some (-1)))=some r:=H
  have A5:=qa.mk RO
  clear RO
  by_cases c6:t103=true
  ·subst c6
   have H1:((Mc.f k Ra Ja Ma Oa Qa a1).bind fun Jp=>(some Jp.2))=some r:=by rw [if_pos rfl] at H;exact H
   clear H
   have H:=H1
   clear H1
   replace H:=Option.bind_eq_some_iff.mp H
   obtain ⟨⟨t104,t107⟩,lB,H⟩:=H
   replace H:(some t107)=some r:=H
   have A7:=qa.mk lB
   clear lB
   obtain rfl:=Option.some.inj H
   go_enter Try.func14,Try.ntmps14
   go_wp2_with (first|((with_reducible refine Mb (N:=2) rfl ?_);(try (refine pg (by rfl) ?_;dsimp only));refine Jb ?hg (N:=2) ?hd (cs:=#[.slice Ib Ra.length Gb,.int .i64 Ja,.int .i64 Ma,.int .i64 Oa,.slice qc Qa.length dc]) (t:=30) ?hr ?_;(case hd=>rfl);(case hg=>rfl);(case hr=>first|(go_simp;done)|(go_simp;rfl));intro Fa hg w8 Qb hb;have Pb:=qa.mk (Pa (by repeat (first|(with_reducible first|exact HB.out|apply ia|apply ja|apply za)|exact HB.out)) hb);have Wb:=qa.mk (Qb);have nc:=qa.mk ((by rw [hg];exact (Na (by repeat (first|(with_reducible first|exact HB.out|apply ia|apply ja|apply za)|exact HB.out))):w.heap.size ≤ Fa));have Nc:=qa.mk ((by rw [hg];exact (Na (by repeat (first|(with_reducible first|exact HB.out|apply ia|apply ja|apply za)|exact HB.out))):w.heap.size ≤ Fa));clear HB;have HB:=Pb;have ua:=Wb;have Nd:=nc;have Va:=Nc;clear Pb Wb nc Nc;clear hb Qb hg;have cm:w8.cell? ⟨Fa,0,none⟩=some (.slice Ib Ra.length Gb):=(ga ua.out 0).trans rfl;have Zl:w8.cell? ⟨Fa,1,none⟩=some (.int .i64 Ja):=(ga ua.out 1).trans rfl;have Yl:w8.cell? ⟨Fa,2,none⟩=some (.int .i64 Ma):=(ga ua.out 2).trans rfl;have Xl:w8.cell? ⟨Fa,3,none⟩=some (.int .i64 Oa):=(ga ua.out 3).trans rfl;have Wl:w8.cell? ⟨Fa,4,none⟩=some (.slice qc Qa.length dc):=(ga ua.out 4).trans rfl;have Tl:=aa ua.out 0;have Sl:=aa ua.out 1;have Rl:=aa ua.out 2;have Ql:=aa ua.out 3;have Ol:=aa ua.out 4)|((with_reducible refine Bb (f:=53) rfl ?_);refine jd (some 8) rfl rfl Try.func53 (by kernel_rfl) rfl #[.agg #[.slice Ib Ra.length Gb,.int .i64 Ja,.int .i64 Ma,.int .i64 Oa,.slice qc Qa.length dc]] rfl (by (try simp only [List.map_toArray,List.map_cons,List.map_nil]);first|done|rfl|(simp only [List.length_drop,List.length_take];rfl)) ?_;(with_reducible refine (Ua.calls k _ _ Ra Ja Ma Oa _ _ Qa true _ ?side1 ?side2 ?side3 ?side4 A3.out).mono ?_);(case side1=>repeat (first|exact (Kd.Yb Ve.out HB.out)|(with_reducible refine Kd.yc ?_ _)|(with_reducible refine Kd.uc ?_ _)|(with_reducible refine Kd.Sc ?_)));(case side2=>exact gf.out);(case side3=>repeat (first|exact (Kd.Yb Tf.out HB.out)|(with_reducible refine Kd.yc ?_ _)|(with_reducible refine Kd.uc ?_ _)|(with_reducible refine Kd.Sc ?_)));(case side4=>exact Yg.out);rintro e Qo ⟨rfl,hb⟩;refine ⟨_,rfl,?_⟩;have Pb:=qa.mk (Wa (g:=Fa) (o:=.cells #[.slice Ib Ra.length Gb,.int .i64 Ja,.int .i64 Ma,.int .i64 Oa,.slice qc Qa.length dc] 30 (0,0)) (by (with_reducible repeat (first|refine Ea ?_ _|refine Ga ?_|refine Da ?_ _));exact ua.out) hb);have Wb:=qa.mk (Pa (by repeat (first|(with_reducible first|exact HB.out|apply ia|apply ja|apply za|refine Aa ?_ Va.out)|exact HB.out)) hb);clear ua;clear HB;have ua:=Pb;have HB:=Wb;clear Pb Wb;(try clear hb);(try clear hb2);(try clear hk);(try clear hi);have Qi:Qo.cell? ⟨Fa,0,none⟩=some (.slice Ib Ra.length Gb):=(ga ua.out 0).trans rfl;have Oi:Qo.cell? ⟨Fa,1,none⟩=some (.int .i64 Ja):=(ga ua.out 1).trans rfl;have Jq:Qo.cell? ⟨Fa,2,none⟩=some (.int .i64 Ma):=(ga ua.out 2).trans rfl;have Iq:Qo.cell? ⟨Fa,3,none⟩=some (.int .i64 Oa):=(ga ua.out 3).trans rfl;have Hq:Qo.cell? ⟨Fa,4,none⟩=some (.slice qc Qa.length dc):=(ga ua.out 4).trans rfl;have Ki:=aa ua.out 0;have Ji:=aa ua.out 1;have sq:=aa ua.out 2;have rq:=aa ua.out 3;have qq:=aa ua.out 4)|(go_at_call 54;(with_reducible refine (jb.calls a1 0 (wrap64 ((Qa.length:Int) - 1)) true _ A5.out).mono ?_);rintro e w' ⟨rfl,⟨nd,rfl⟩⟩)|((with_reducible refine Bb (f:=55) rfl ?_);refine jd (some 22) rfl rfl Try.func55 (by kernel_rfl) rfl #[.agg #[.slice Ib Ra.length Gb,.int .i64 Ja,.int .i64 Ma,.int .i64 Oa,.slice qc Qa.length dc],.int .i64 a1] rfl (by (try simp only [List.map_toArray,List.map_cons,List.map_nil]);first|done|rfl|(simp only [List.length_drop,List.length_take];rfl)) ?_;(with_reducible refine (Mc.calls k _ _ Ra Ja Ma Oa _ _ Qa a1 t104 t107 _ ?side1 ?side2 ?side3 ?side4 A7.out).mono ?_);(case side1=>repeat (first|exact (Kd.Yb Ve.out (by repeat (first|(with_reducible first|exact HB.out|apply ia|apply ja|apply za|refine Aa ?_ Va.out)|exact HB.out)))|(with_reducible refine Kd.yc ?_ _)|(with_reducible refine Kd.uc ?_ _)|(with_reducible refine Kd.Sc ?_)));(case side2=>exact gf.out);(case side3=>repeat (first|exact (Kd.Yb Tf.out (by repeat (first|(with_reducible first|exact HB.out|apply ia|apply ja|apply za|refine Aa ?_ Va.out)|exact HB.out)))|(with_reducible refine Kd.yc ?_ _)|(with_reducible refine Kd.uc ?_ _)|(with_reducible refine Kd.Sc ?_)));(case side4=>exact Yg.out);rintro e yu ⟨dP,rfl,Vo,hb⟩;refine ⟨_,rfl,?_⟩;have Pb:=qa.mk (Kd.Xg Vo (Na (by repeat (first|(with_reducible first|exact HB.out|apply ia|apply ja|apply za|refine Aa ?_ Va.out)|exact HB.out))));have Wb:=qa.mk (Wa (g:=Fa) (o:=.cells #[.slice Ib Ra.length Gb,.int .i64 Ja,.int .i64 Ma,.int .i64 Oa,.slice qc Qa.length dc] 30 (0,0)) (by (with_reducible repeat (first|refine Ea ?_ _|refine Ga ?_|refine Da ?_ _));exact ua.out) hb);have nc:=qa.mk (Pa (by repeat (first|(with_reducible first|exact HB.out|apply ia|apply ja|apply za|refine Aa ?_ Va.out)|exact HB.out)) hb);clear ua;clear HB;have Pp:=Pb;have ua:=Wb;have HB:=nc;clear Pb Wb nc;(try clear hb);(try clear hb2);(try clear hk);(try clear hi);(try clear Vo)))
   go_ret
   exact ⟨by first|rfl|(simp [La,Ka] <;> rfl)|(simp [*,La,Ka] <;> rfl),by repeat (first|(with_reducible first|exact HB.out|apply ia|apply ja|apply za|refine Aa ?_ Va.out)|exact HB.out)⟩
  ·replace c6:=Bool.eq_false_iff.mpr c6
   subst c6
   have H1:(some (-1))=some r:=by rw [if_neg (show ¬ (false=true) by decide)] at H;exact H
   clear H
   have H:=H1
   clear H1
   obtain rfl:=Option.some.inj H
   go_enter Try.func14,Try.ntmps14
   go_wp2_with (first|((with_reducible refine Mb (N:=2) rfl ?_);(try (refine pg (by rfl) ?_;dsimp only));refine Jb ?hg (N:=2) ?hd (cs:=#[.slice Ib Ra.length Gb,.int .i64 Ja,.int .i64 Ma,.int .i64 Oa,.slice qc Qa.length dc]) (t:=30) ?hr ?_;(case hd=>rfl);(case hg=>rfl);(case hr=>first|(go_simp;done)|(go_simp;rfl));intro Fa hg sy Qb hb;have Pb:=qa.mk (Pa (by repeat (first|(with_reducible first|exact HB.out|apply ia|apply ja|apply za)|exact HB.out)) hb);have Wb:=qa.mk (Qb);have nc:=qa.mk ((by rw [hg];exact (Na (by repeat (first|(with_reducible first|exact HB.out|apply ia|apply ja|apply za)|exact HB.out))):w.heap.size ≤ Fa));have Nc:=qa.mk ((by rw [hg];exact (Na (by repeat (first|(with_reducible first|exact HB.out|apply ia|apply ja|apply za)|exact HB.out))):w.heap.size ≤ Fa));clear HB;have HB:=Pb;have ua:=Wb;have Nd:=nc;have Va:=Nc;clear Pb Wb nc Nc;clear hb Qb hg;have Gl:sy.cell? ⟨Fa,0,none⟩=some (.slice Ib Ra.length Gb):=(ga ua.out 0).trans rfl;have Fl:sy.cell? ⟨Fa,1,none⟩=some (.int .i64 Ja):=(ga ua.out 1).trans rfl;have Wm:sy.cell? ⟨Fa,2,none⟩=some (.int .i64 Ma):=(ga ua.out 2).trans rfl;have Vm:sy.cell? ⟨Fa,3,none⟩=some (.int .i64 Oa):=(ga ua.out 3).trans rfl;have Um:sy.cell? ⟨Fa,4,none⟩=some (.slice qc Qa.length dc):=(ga ua.out 4).trans rfl;have El:=aa ua.out 0;have Dl:=aa ua.out 1;have Jm:=aa ua.out 2;have Im:=aa ua.out 3;have Gm:=aa ua.out 4)|((with_reducible refine Bb (f:=53) rfl ?_);refine jd (some 8) rfl rfl Try.func53 (by kernel_rfl) rfl #[.agg #[.slice Ib Ra.length Gb,.int .i64 Ja,.int .i64 Ma,.int .i64 Oa,.slice qc Qa.length dc]] rfl (by (try simp only [List.map_toArray,List.map_cons,List.map_nil]);first|done|rfl|(simp only [List.length_drop,List.length_take];rfl)) ?_;(with_reducible refine (Ua.calls k _ _ Ra Ja Ma Oa _ _ Qa true _ ?side1 ?side2 ?side3 ?side4 A3.out).mono ?_);(case side1=>repeat (first|exact (Kd.Yb Ve.out HB.out)|(with_reducible refine Kd.yc ?_ _)|(with_reducible refine Kd.uc ?_ _)|(with_reducible refine Kd.Sc ?_)));(case side2=>exact gf.out);(case side3=>repeat (first|exact (Kd.Yb Tf.out HB.out)|(with_reducible refine Kd.yc ?_ _)|(with_reducible refine Kd.uc ?_ _)|(with_reducible refine Kd.Sc ?_)));(case side4=>exact Yg.out);rintro e sn ⟨rfl,hb⟩;refine ⟨_,rfl,?_⟩;have Pb:=qa.mk (Wa (g:=Fa) (o:=.cells #[.slice Ib Ra.length Gb,.int .i64 Ja,.int .i64 Ma,.int .i64 Oa,.slice qc Qa.length dc] 30 (0,0)) (by (with_reducible repeat (first|refine Ea ?_ _|refine Ga ?_|refine Da ?_ _));exact ua.out) hb);have Wb:=qa.mk (Pa (by repeat (first|(with_reducible first|exact HB.out|apply ia|apply ja|apply za|refine Aa ?_ Va.out)|exact HB.out)) hb);clear ua;clear HB;have ua:=Pb;have HB:=Wb;clear Pb Wb;(try clear hb);(try clear hb2);(try clear hk);(try clear hi);have uk:sn.cell? ⟨Fa,0,none⟩=some (.slice Ib Ra.length Gb):=(ga ua.out 0).trans rfl;have qk:sn.cell? ⟨Fa,1,none⟩=some (.int .i64 Ja):=(ga ua.out 1).trans rfl;have jt:sn.cell? ⟨Fa,2,none⟩=some (.int .i64 Ma):=(ga ua.out 2).trans rfl;have ct:sn.cell? ⟨Fa,3,none⟩=some (.int .i64 Oa):=(ga ua.out 3).trans rfl;have bt:sn.cell? ⟨Fa,4,none⟩=some (.slice qc Qa.length dc):=(ga ua.out 4).trans rfl;have fk:=aa ua.out 0;have ek:=aa ua.out 1;have Gs:=aa ua.out 2;have Fs:=aa ua.out 3;have Es:=aa ua.out 4)|(go_at_call 54;(with_reducible refine (jb.calls a1 0 (wrap64 ((Qa.length:Int) - 1)) false _ A5.out).mono ?_);rintro e w' ⟨rfl,⟨nd,rfl⟩⟩))
   go_ret
   exact ⟨by first|rfl|(simp [La,Ka] <;> rfl)|(simp [*,La,Ka] <;> rfl),by repeat (first|(with_reducible first|exact HB.out|apply ia|apply ja|apply za|refine Aa ?_ Va.out)|exact HB.out)⟩
 ·replace c4:=Bool.eq_false_iff.mpr c4
  subst c4
  have H1:(some (-1))=some r:=by rw [if_neg (show ¬ (false=true) by decide)] at H;exact H
  clear H
  have H:=H1
  clear H1
  obtain rfl:=Option.some.inj H
  go_enter Try.func14,Try.ntmps14
  go_wp2_with (first|((with_reducible refine Mb (N:=2) rfl ?_);(try (refine pg (by rfl) ?_;dsimp only));refine Jb ?hg (N:=2) ?hd (cs:=#[.slice Ib Ra.length Gb,.int .i64 Ja,.int .i64 Ma,.int .i64 Oa,.slice qc Qa.length dc]) (t:=30) ?hr ?_;(case hd=>rfl);(case hg=>rfl);(case hr=>first|(go_simp;done)|(go_simp;rfl));intro Fa hg iA Qb hb;have Pb:=qa.mk (Pa (by repeat (first|(with_reducible first|exact HB.out|apply ia|apply ja|apply za)|exact HB.out)) hb);have Wb:=qa.mk (Qb);have nc:=qa.mk ((by rw [hg];exact (Na (by repeat (first|(with_reducible first|exact HB.out|apply ia|apply ja|apply za)|exact HB.out))):w.heap.size ≤ Fa));have Nc:=qa.mk ((by rw [hg];exact (Na (by repeat (first|(with_reducible first|exact HB.out|apply ia|apply ja|apply za)|exact HB.out))):w.heap.size ≤ Fa));clear HB;have HB:=Pb;have ua:=Wb;have Nd:=nc;have Va:=Nc;clear Pb Wb nc Nc;clear hb Qb hg;have Eo:iA.cell? ⟨Fa,0,none⟩=some (.slice Ib Ra.length Gb):=(ga ua.out 0).trans rfl;have Co:iA.cell? ⟨Fa,1,none⟩=some (.int .i64 Ja):=(ga ua.out 1).trans rfl;have Bo:iA.cell? ⟨Fa,2,none⟩=some (.int .i64 Ma):=(ga ua.out 2).trans rfl;have Ao:iA.cell? ⟨Fa,3,none⟩=some (.int .i64 Oa):=(ga ua.out 3).trans rfl;have zo:iA.cell? ⟨Fa,4,none⟩=some (.slice qc Qa.length dc):=(ga ua.out 4).trans rfl;have qo:=aa ua.out 0;have oo:=aa ua.out 1;have mo:=aa ua.out 2;have ko:=aa ua.out 3;have jo:=aa ua.out 4)|((with_reducible refine Bb (f:=53) rfl ?_);refine jd (some 8) rfl rfl Try.func53 (by kernel_rfl) rfl #[.agg #[.slice Ib Ra.length Gb,.int .i64 Ja,.int .i64 Ma,.int .i64 Oa,.slice qc Qa.length dc]] rfl (by (try simp only [List.map_toArray,List.map_cons,List.map_nil]);first|done|rfl|(simp only [List.length_drop,List.length_take];rfl)) ?_;(with_reducible refine (Ua.calls k _ _ Ra Ja Ma Oa _ _ Qa false _ ?side1 ?side2 ?side3 ?side4 A3.out).mono ?_);(case side1=>repeat (first|exact (Kd.Yb Ve.out HB.out)|(with_reducible refine Kd.yc ?_ _)|(with_reducible refine Kd.uc ?_ _)|(with_reducible refine Kd.Sc ?_)));(case side2=>exact gf.out);(case side3=>repeat (first|exact (Kd.Yb Tf.out HB.out)|(with_reducible refine Kd.yc ?_ _)|(with_reducible refine Kd.uc ?_ _)|(with_reducible refine Kd.Sc ?_)));(case side4=>exact Yg.out);rintro e cY ⟨rfl,hb⟩;refine ⟨_,rfl,?_⟩;have Pb:=qa.mk (Wa (g:=Fa) (o:=.cells #[.slice Ib Ra.length Gb,.int .i64 Ja,.int .i64 Ma,.int .i64 Oa,.slice qc Qa.length dc] 30 (0,0)) (by (with_reducible repeat (first|refine Ea ?_ _|refine Ga ?_|refine Da ?_ _));exact ua.out) hb);have Wb:=qa.mk (Pa (by repeat (first|(with_reducible first|exact HB.out|apply ia|apply ja|apply za|refine Aa ?_ Va.out)|exact HB.out)) hb);clear ua;clear HB;have ua:=Pb;have HB:=Wb;clear Pb Wb;(try clear hb);(try clear hb2);(try clear hk);(try clear hi)))
  go_ret
  exact ⟨by first|rfl|(simp [La,Ka] <;> rfl)|(simp [*,La,Ka] <;> rfl),by repeat (first|(with_reducible first|exact HB.out|apply ia|apply ja|apply za|refine Aa ?_ Va.out)|exact HB.out)⟩
end Go.Proofs.Ytmifdccaajngcaa.P
end
section
namespace Go.Proofs.Ytmifdccaajngcaa.P
open Go.RowKit Go.Proofs.Ca.xb Go.Proofs.Ca.Xb Go.Proofs.Ca.ic
attribute [local go_sem] Vd Td we ue Dd Cd Ud Sd
set_option linter.unusedVariables false
set_option linter.unusedSimpArgs false
def Tg.f (l0:List Int) (a1:Int):Option (Int):=if (wrap64 (a1 - (l0.length:Int))) < 0 then (some (-1)) else (some (wrap64 (a1 - (l0.length:Int))))
set_option maxHeartbeats 8000000 in
set_option maxRecDepth 100000 in
theorem Tg.calls (A0:Option Addr) (c0:Nat) (l0:List Int) (a1:Int) (r:Int) (w:World) (hr0:Kd.C (Kd.int .i64) w A0 l0.length l0) (hc0:l0.length ≤ c0) (h:Tg.f l0 a1=some r) :
  Calls Try.prog 51 #[.slice A0 l0.length c0,.int .i64 a1] w fun e w'=>e = .returned (.int .i64 r)∧Cc w w':=by
 have Nq:=qa.mk hr0
 have fA:=qa.mk hc0
 clear hr0 hc0
 have H:(if (wrap64 (a1 - (l0.length:Int))) < 0 then (some (-1)) else (some (wrap64 (a1 - (l0.length:Int)))))=some r:=h
 clear h
 by_cases c3:(wrap64 (a1 - (l0.length:Int))) < 0
 ·rw [if_pos c3] at H
  have Uh:decide ((wrap64 (a1 - (l0.length:Int))) < 0)=true:=decide_eq_true c3
  clear c3
  obtain rfl:=Option.some.inj H
  go_enter Try.func51,Try.ntmps51
  go_wp2
  go_ret
  exact ⟨by first|rfl|(simp;done)|(simp [*];done),by repeat (first|exact Cc.refl _|apply Cc.step)⟩
 ·rw [if_neg c3] at H
  have Uh:decide ((wrap64 (a1 - (l0.length:Int))) < 0)=false:=decide_eq_false c3
  clear c3
  obtain rfl:=Option.some.inj H
  go_enter Try.func51,Try.ntmps51
  go_wp2
  go_ret
  exact ⟨by first|rfl|(simp;done)|(simp [*];done),by repeat (first|exact Cc.refl _|apply Cc.step)⟩
end Go.Proofs.Ytmifdccaajngcaa.P
end
section
namespace Go.Proofs.Ytmifdccaajngcaa.P
open Go.RowKit Go.Proofs.Ca.xb Go.Proofs.Ca.Xb Go.Proofs.Ca.ic
attribute [local go_sem] Vd Td we ue Dd Cd Ud Sd
set_option linter.unusedVariables false
set_option linter.unusedSimpArgs false
def zh.f (Ec:Int) (Ja:Int) (Ma:Int) (Oa:Int) (fc:Int) (qd:Int) (ld:ByteArray) (a1:Int):Option (Int):=if (wrap64 (a1 - (ld.size:Int))) < 0 then (some (-1)) else (some (wrap64 (a1 - (ld.size:Int))))
set_option maxHeartbeats 8000000 in
set_option maxRecDepth 100000 in
theorem zh.calls (Ec:Int) (Ja:Int) (Ma:Int) (Oa:Int) (fc:Int) (qd:Int) (ld:ByteArray) (a1:Int) (r:Int) (w:World) (h:zh.f Ec Ja Ma Oa fc qd ld a1=some r) :
  Calls Try.prog 127 #[.agg #[.int .i64 Ec,.int .i64 Ja,.int .i64 Ma,.int .i64 Oa,.int .i64 fc,.int .i64 qd,.string ld],.int .i64 a1] w fun e w'=>e = .returned (.int .i64 r)∧Below w.heap.size w w':=by
 have YH:=Try.underlying161
 have HB:=qa.mk (Below.refl w.heap.size w)
 have H:(if (wrap64 (a1 - (ld.size:Int))) < 0 then (some (-1)) else (some (wrap64 (a1 - (ld.size:Int)))))=some r:=h
 clear h
 by_cases c3:(wrap64 (a1 - (ld.size:Int))) < 0
 ·rw [if_pos c3] at H
  have Uh:decide ((wrap64 (a1 - (ld.size:Int))) < 0)=true:=decide_eq_true c3
  clear c3
  obtain rfl:=Option.some.inj H
  go_enter Try.func127,Try.ntmps127
  go_wp2_with (first|((with_reducible refine Mb (N:=2) rfl ?_);refine Jb ?hg (N:=2) ?hd (cs:=#[.int .i64 Ec,.int .i64 Ja,.int .i64 Ma,.int .i64 Oa,.int .i64 fc,.int .i64 qd,.string ld]) (t:=161) ?hr ?_;(case hd=>rfl);(case hg=>rfl);(case hr=>first|(go_simp;done)|(go_simp;rfl));intro Fa hg w4 Qb hb;have Pb:=qa.mk (Pa (by repeat (first|(with_reducible first|exact HB.out|apply ia|apply ja|apply za)|exact HB.out)) hb);have Wb:=qa.mk (Qb);have nc:=qa.mk ((by rw [hg];exact (Na (by repeat (first|(with_reducible first|exact HB.out|apply ia|apply ja|apply za)|exact HB.out))):w.heap.size ≤ Fa));have Nc:=qa.mk ((by rw [hg];exact (Na (by repeat (first|(with_reducible first|exact HB.out|apply ia|apply ja|apply za)|exact HB.out))):w.heap.size ≤ Fa));clear HB;have HB:=Pb;have ua:=Wb;have Nd:=nc;have Va:=Nc;clear Pb Wb nc Nc;clear hb Qb hg;have haa:w4.cell? ⟨Fa,0,none⟩=some (.int .i64 Ec):=(ga ua.out 0).trans rfl;have gaa:w4.cell? ⟨Fa,1,none⟩=some (.int .i64 Ja):=(ga ua.out 1).trans rfl;have faa:w4.cell? ⟨Fa,2,none⟩=some (.int .i64 Ma):=(ga ua.out 2).trans rfl;have eaa:w4.cell? ⟨Fa,3,none⟩=some (.int .i64 Oa):=(ga ua.out 3).trans rfl;have daa:w4.cell? ⟨Fa,4,none⟩=some (.int .i64 fc):=(ga ua.out 4).trans rfl;have caa:w4.cell? ⟨Fa,5,none⟩=some (.int .i64 qd):=(ga ua.out 5).trans rfl;have baa:w4.cell? ⟨Fa,6,none⟩=some (.string ld):=(ga ua.out 6).trans rfl;have H_:=aa ua.out 0;have G_:=aa ua.out 1;have F_:=aa ua.out 2;have E_:=aa ua.out 3;have D_:=aa ua.out 4;have C_:=aa ua.out 5;have B_:=aa ua.out 6))
  go_ret
  exact ⟨by first|rfl|(simp [La,Ka] <;> rfl)|(simp [*,La,Ka] <;> rfl),by repeat (first|(with_reducible first|exact HB.out|apply ia|apply ja|apply za|refine Aa ?_ Va.out)|exact HB.out)⟩
 ·rw [if_neg c3] at H
  have Uh:decide ((wrap64 (a1 - (ld.size:Int))) < 0)=false:=decide_eq_false c3
  clear c3
  obtain rfl:=Option.some.inj H
  go_enter Try.func127,Try.ntmps127
  go_wp2_with (first|((with_reducible refine Mb (N:=2) rfl ?_);refine Jb ?hg (N:=2) ?hd (cs:=#[.int .i64 Ec,.int .i64 Ja,.int .i64 Ma,.int .i64 Oa,.int .i64 fc,.int .i64 qd,.string ld]) (t:=161) ?hr ?_;(case hd=>rfl);(case hg=>rfl);(case hr=>first|(go_simp;done)|(go_simp;rfl));intro Fa hg w6 Qb hb;have Pb:=qa.mk (Pa (by repeat (first|(with_reducible first|exact HB.out|apply ia|apply ja|apply za)|exact HB.out)) hb);have Wb:=qa.mk (Qb);have nc:=qa.mk ((by rw [hg];exact (Na (by repeat (first|(with_reducible first|exact HB.out|apply ia|apply ja|apply za)|exact HB.out))):w.heap.size ≤ Fa));have Nc:=qa.mk ((by rw [hg];exact (Na (by repeat (first|(with_reducible first|exact HB.out|apply ia|apply ja|apply za)|exact HB.out))):w.heap.size ≤ Fa));clear HB;have HB:=Pb;have ua:=Wb;have Nd:=nc;have Va:=Nc;clear Pb Wb nc Nc;clear hb Qb hg;have yo:w6.cell? ⟨Fa,0,none⟩=some (.int .i64 Ec):=(ga ua.out 0).trans rfl;have xo:w6.cell? ⟨Fa,1,none⟩=some (.int .i64 Ja):=(ga ua.out 1).trans rfl;have wo:w6.cell? ⟨Fa,2,none⟩=some (.int .i64 Ma):=(ga ua.out 2).trans rfl;have vo:w6.cell? ⟨Fa,3,none⟩=some (.int .i64 Oa):=(ga ua.out 3).trans rfl;have uo:w6.cell? ⟨Fa,4,none⟩=some (.int .i64 fc):=(ga ua.out 4).trans rfl;have CI:w6.cell? ⟨Fa,5,none⟩=some (.int .i64 qd):=(ga ua.out 5).trans rfl;have BI:w6.cell? ⟨Fa,6,none⟩=some (.string ld):=(ga ua.out 6).trans rfl;have fo:=aa ua.out 0;have Zn:=aa ua.out 1;have Yn:=aa ua.out 2;have Xn:=aa ua.out 3;have Wn:=aa ua.out 4;have kI:=aa ua.out 5;have jI:=aa ua.out 6))
  go_ret
  exact ⟨by first|rfl|(simp [La,Ka] <;> rfl)|(simp [*,La,Ka] <;> rfl),by repeat (first|(with_reducible first|exact HB.out|apply ia|apply ja|apply za|refine Aa ?_ Va.out)|exact HB.out)⟩
end Go.Proofs.Ytmifdccaajngcaa.P
end
section
namespace Go.Proofs.Ytmifdccaajngcaa.P
open Go.RowKit Go.Proofs.Ca.xb Go.Proofs.Ca.Xb Go.Proofs.Ca.ic
attribute [local go_sem] Vd Td we ue Dd Cd Ud Sd
set_option linter.unusedVariables false
set_option linter.unusedSimpArgs false
def Lc.l0:Nat→List (Dk)→Int→Int→Option (Int)
 | 0,_,_,_=>none
 | k + 1,x0,x1,x5=>if x5 < (x0.length:Int) then (if 0 ≤ x5 then ((zh.f ((Rc x0 x5).f0) ((Rc x0 x5).f1) ((Rc x0 x5).f2) ((Rc x0 x5).f3) ((Rc x0 x5).f4) ((Rc x0 x5).f5) ((Rc x0 x5).f6) x1).bind fun t102=>(if t102 < 0 then (some (-1)) else (Lc.l0 k x0 t102 (wrap64 (x5 + 1))))) else (none)) else (some x1)
def Lc.f (k:Nat) (l0:List (Dk)) (a1:Int):Option (Int):=if (wrap64 (a1 - (l0.length:Int))) < 0 then (some (-1)) else (Lc.l0 k l0 (wrap64 (a1 - (l0.length:Int))) 0)
theorem Lc.je:∀ k,(∀ y0 y1 y2,mc (Lc.l0 k y0 y1 y2) (Lc.l0 (k + 1) y0 y1 y2))
 | 0=>fun _ _ _ r h=>by simp [Lc.l0] at h
 | k + 1=>by
  have Lf:=Lc.je k
  ·intro y0 y1 y2
   unfold Lc.l0
   repeat' first
   | (with_reducible exact Lf _ _ _)
   | (with_reducible exact mc.refl _)
   | (with_reducible exact mc.none _)
   | (with_reducible refine mc.ite ?_ ?_)
   | (with_reducible refine mc.bind ?_ (fun _=>?_))
   | exact Lf _ _ _
   | exact mc.none _
   | refine mc.ite ?_ ?_
   | refine mc.bind ?_ (fun _=>?_)
theorem Lc.mono:∀ a0 a1 k,mc (Lc.f k a0 a1) (Lc.f (k + 1) a0 a1):=by
 intro a0 a1 k
 have Lf:=Lc.je k
 unfold Lc.f
 repeat' first
   | (with_reducible exact Lf _ _ _)
   | (with_reducible exact mc.refl _)
   | (with_reducible exact mc.none _)
   | (with_reducible refine mc.ite ?_ ?_)
   | (with_reducible refine mc.bind ?_ (fun _=>?_))
   | exact Lf _ _ _
   | exact mc.none _
   | refine mc.ite ?_ ?_
   | refine mc.bind ?_ (fun _=>?_)
set_option maxHeartbeats 8000000 in
set_option maxRecDepth 100000 in
theorem Lc.calls (k:Nat) (A0:Option Addr) (c0:Nat) (l0:List (Dk)) (a1:Int) (r:Int) (w:World) (hr0:Kd.C Qw w A0 l0.length l0) (hc0:l0.length ≤ c0) (h:Lc.f k l0 a1=some r) :
  Calls Try.prog 110 #[.slice A0 l0.length c0,.int .i64 a1] w fun e w'=>e = .returned (.int .i64 r)∧Below w.heap.size w w':=by
 have YH:=Try.underlying161
 have Nq:=qa.mk hr0
 have fA:=qa.mk hc0
 clear hr0 hc0
 have HB:=qa.mk (Below.refl w.heap.size w)
 have H:(if (wrap64 (a1 - (l0.length:Int))) < 0 then (some (-1)) else (Lc.l0 k l0 (wrap64 (a1 - (l0.length:Int))) 0))=some r:=h
 clear h
 by_cases c3:(wrap64 (a1 - (l0.length:Int))) < 0
 ·rw [if_pos c3] at H
  have Uh:decide ((wrap64 (a1 - (l0.length:Int))) < 0)=true:=decide_eq_true c3
  clear c3
  obtain rfl:=Option.some.inj H
  go_enter Try.func110,Try.ntmps110
  go_wp2
  go_ret
  exact ⟨by first|rfl|(simp [La,Ka] <;> rfl)|(simp [*,La,Ka] <;> rfl),by repeat (first|(with_reducible first|exact HB.out|apply ia|apply ja|apply za)|exact HB.out)⟩
 ·rw [if_neg c3] at H
  have Uh:decide ((wrap64 (a1 - (l0.length:Int))) < 0)=false:=decide_eq_false c3
  clear c3
  have H':=qa.mk H
  clear H
  go_enter Try.func110,Try.ntmps110
  go_wp2
  go_loopg [1,5] k (fun kq v1 v5 w'=>∃ (cr:Int) (Ya:Int),v1 = .int .i64 cr∧v5 = .int .i64 Ya∧qa (Lc.l0 kq l0 cr Ya=some r)∧qa (kq ≤ k)∧qa (Below w.heap.size w w'))
  case atStart=>exact ⟨(wrap64 (a1 - (l0.length:Int))),(0),(by first|rfl|(simp;done)|(simp [*];done)),(by first|rfl|(simp;done)|(simp [*];done)),H',⟨Nat.le_refl _⟩,⟨by repeat (first|(with_reducible first|exact HB.out|apply ia|apply ja|apply za)|exact HB.out)⟩⟩
  case round =>
   clear H'
   try clear c1
   try clear p2
   try clear c3
   try clear Uh
   (try clear HA)
   (try clear We)
   (try clear HB)
   obtain ⟨cr,Ya,rfl,rfl,HA,We,HB⟩:=hrel
   cases gk with
   | zero=>exact absurd HA.out (by simp [Lc.l0])
   | succ k1 =>
    have H:=HA.out
    clear HA
    simp only [Lc.l0] at H
    by_cases c4:Ya < (l0.length:Int)
    ·rw [if_pos c4] at H
     have Mh:decide (Ya < (l0.length:Int))=true:=decide_eq_true c4
     clear c4
     by_cases c5:0 ≤ Ya
     ·rw [if_pos c5] at H
      have Hl:decide (0 ≤ Ya)=true:=decide_eq_true c5
      clear c5
      replace H:=Option.bind_eq_some_iff.mp H
      obtain ⟨t102,QO,H⟩:=H
      replace H:(if t102 < 0 then (some (-1)) else (Lc.l0 k1 l0 t102 (wrap64 (Ya + 1))))=some r:=H
      have A6:=qa.mk QO
      clear QO
      by_cases c7:t102 < 0
      ·rw [if_pos c7] at H
       have Wo:decide (t102 < 0)=true:=decide_eq_true c7
       clear c7
       obtain rfl:=Option.some.inj H
       have Yf:0 ≤ (Ya:Int):=of_decide_eq_true (by first|(with_reducible assumption)|assumption)
       have Xf:Ya < (l0.length:Int):=of_decide_eq_true (by first|(with_reducible assumption)|assumption)
       obtain ⟨Ie,Xj,Zd,Be,Ae,ze,ye,wg,ug⟩:=Vz Nq.out Ya Yf Xf
       cases Xj
       replace Zd:=(HB.out.cell (World.block_lt_of_cell? w _ Zd)).trans Zd
       replace Be:=(HB.out.cell (World.block_lt_of_cell? w _ Be)).trans Be
       replace Ae:=(HB.out.cell (World.block_lt_of_cell? w _ Ae)).trans Ae
       replace ze:=(HB.out.cell (World.block_lt_of_cell? w _ ze)).trans ze
       replace ye:=(HB.out.cell (World.block_lt_of_cell? w _ ye)).trans ye
       replace wg:=(HB.out.cell (World.block_lt_of_cell? w _ wg)).trans wg
       replace ug:=(HB.out.cell (World.block_lt_of_cell? w _ ug)).trans ug
       replace Yf:=eq_true Yf
       replace Xf:=eq_true Xf
       go_wp2_with (first|((with_reducible refine Bb (f:=127) rfl ?_);refine jd (some 23) rfl rfl Try.func127 (by kernel_rfl) rfl #[.agg #[.int .i64 ((Rc l0 Ya).f0),.int .i64 ((Rc l0 Ya).f1),.int .i64 ((Rc l0 Ya).f2),.int .i64 ((Rc l0 Ya).f3),.int .i64 ((Rc l0 Ya).f4),.int .i64 ((Rc l0 Ya).f5),.string ((Rc l0 Ya).f6)],.int .i64 cr] rfl (by (try simp only [List.map_toArray,List.map_cons,List.map_nil]);first|done|rfl|(simp only [List.length_drop,List.length_take];rfl)) ?_;(with_reducible refine (zh.calls ((Rc l0 Ya).f0) ((Rc l0 Ya).f1) ((Rc l0 Ya).f2) ((Rc l0 Ya).f3) ((Rc l0 Ya).f4) ((Rc l0 Ya).f5) ((Rc l0 Ya).f6) cr t102 _ A6.out).mono ?_);rintro e w8 ⟨rfl,hb⟩;refine ⟨_,rfl,?_⟩;have Pb:=qa.mk (Pa (by repeat (first|(with_reducible first|exact HB.out|apply ia|apply ja|apply za)|exact HB.out)) hb);clear HB;have HB:=Pb;clear Pb;(try clear hb);(try clear hb2);(try clear hk);(try clear hi)))
       go_ret
       exact ⟨by first|rfl|(simp [La,Ka] <;> rfl)|(simp [*,La,Ka] <;> rfl),by repeat (first|(with_reducible first|exact HB.out|apply ia|apply ja|apply za)|exact HB.out)⟩
      ·rw [if_neg c7] at H
       have Wo:decide (t102 < 0)=false:=decide_eq_false c7
       clear c7
       have H':=qa.mk H
       clear H
       have Yf:0 ≤ (Ya:Int):=of_decide_eq_true (by first|(with_reducible assumption)|assumption)
       have Xf:Ya < (l0.length:Int):=of_decide_eq_true (by first|(with_reducible assumption)|assumption)
       obtain ⟨Ie,Xj,Zd,Be,Ae,ze,ye,wg,ug⟩:=Vz Nq.out Ya Yf Xf
       cases Xj
       replace Zd:=(HB.out.cell (World.block_lt_of_cell? w _ Zd)).trans Zd
       replace Be:=(HB.out.cell (World.block_lt_of_cell? w _ Be)).trans Be
       replace Ae:=(HB.out.cell (World.block_lt_of_cell? w _ Ae)).trans Ae
       replace ze:=(HB.out.cell (World.block_lt_of_cell? w _ ze)).trans ze
       replace ye:=(HB.out.cell (World.block_lt_of_cell? w _ ye)).trans ye
       replace wg:=(HB.out.cell (World.block_lt_of_cell? w _ wg)).trans wg
       replace ug:=(HB.out.cell (World.block_lt_of_cell? w _ ug)).trans ug
       replace Yf:=eq_true Yf
       replace Xf:=eq_true Xf
       go_wp2_with (first|((with_reducible refine Bb (f:=127) rfl ?_);refine jd (some 23) rfl rfl Try.func127 (by kernel_rfl) rfl #[.agg #[.int .i64 ((Rc l0 Ya).f0),.int .i64 ((Rc l0 Ya).f1),.int .i64 ((Rc l0 Ya).f2),.int .i64 ((Rc l0 Ya).f3),.int .i64 ((Rc l0 Ya).f4),.int .i64 ((Rc l0 Ya).f5),.string ((Rc l0 Ya).f6)],.int .i64 cr] rfl (by (try simp only [List.map_toArray,List.map_cons,List.map_nil]);first|done|rfl|(simp only [List.length_drop,List.length_take];rfl)) ?_;(with_reducible refine (zh.calls ((Rc l0 Ya).f0) ((Rc l0 Ya).f1) ((Rc l0 Ya).f2) ((Rc l0 Ya).f3) ((Rc l0 Ya).f4) ((Rc l0 Ya).f5) ((Rc l0 Ya).f6) cr t102 _ A6.out).mono ?_);rintro e w9 ⟨rfl,hb⟩;refine ⟨_,rfl,?_⟩;have Pb:=qa.mk (Pa (by repeat (first|(with_reducible first|exact HB.out|apply ia|apply ja|apply za)|exact HB.out)) hb);clear HB;have HB:=Pb;clear Pb;(try clear hb);(try clear hb2);(try clear hk);(try clear hi)))
       go_roundg k1
       case measure=>have:=We.out;omega
       case rel=>exact ⟨(t102),(wrap64 (Ya + 1)),(by first|rfl|(simp;done)|(simp [*];done)),(by first|rfl|(simp;done)|(simp [*];done)),H',⟨by have:=We.out;omega⟩,⟨by repeat (first|(with_reducible first|exact HB.out|apply ia|apply ja|apply za)|exact HB.out)⟩⟩
     ·rw [if_neg c5] at H
      exact absurd H (by simp)
    ·rw [if_neg c4] at H
     have Mh:decide (Ya < (l0.length:Int))=false:=decide_eq_false c4
     clear c4
     obtain rfl:=Option.some.inj H
     go_wp2
     go_ret
     exact ⟨by first|rfl|(simp [La,Ka] <;> rfl)|(simp [*,La,Ka] <;> rfl),by repeat (first|(with_reducible first|exact HB.out|apply ia|apply ja|apply za)|exact HB.out)⟩
end Go.Proofs.Ytmifdccaajngcaa.P
end
section
namespace Go.Proofs.Ytmifdccaajngcaa.P
open Go.RowKit Go.Proofs.Ca.xb Go.Proofs.Ca.Xb Go.Proofs.Ca.ic
attribute [local go_sem] Vd Td we ue Dd Cd Ud Sd
set_option linter.unusedVariables false
set_option linter.unusedSimpArgs false
def Qe.f (k:Nat) (Ra:List (Dk)) (Ja:Int) (Ma:Int) (Oa:Int) (fc:Int) (a1:Int):Option (Int):=(Lc.f k Ra a1).bind fun t102=>(if t102 < 0 then (some (-1)) else (some t102))
theorem Qe.mono:∀ a0 a1 a2 a3 a4 a5 k,mc (Qe.f k a0 a1 a2 a3 a4 a5) (Qe.f (k + 1) a0 a1 a2 a3 a4 a5):=by
 intro a0 a1 a2 a3 a4 a5 k
 unfold Qe.f
 repeat' first
   | (with_reducible exact Lc.mono _ _ _)
   | (with_reducible exact mc.refl _)
   | (with_reducible exact mc.none _)
   | (with_reducible refine mc.ite ?_ ?_)
   | (with_reducible refine mc.bind ?_ (fun _=>?_))
   | exact Lc.mono _ _ _
   | exact mc.none _
   | refine mc.ite ?_ ?_
   | refine mc.bind ?_ (fun _=>?_)
set_option maxHeartbeats 8000000 in
set_option maxRecDepth 100000 in
theorem Qe.calls (k:Nat) (Ib:Option Addr) (Gb:Nat) (Ra:List (Dk)) (Ja:Int) (Ma:Int) (Oa:Int) (fc:Int) (a1:Int) (r:Int) (w:World) (zf:Kd.C Qw w Ib Ra.length Ra) (uf:Ra.length ≤ Gb) (h:Qe.f k Ra Ja Ma Oa fc a1=some r) :
  Calls Try.prog 86 #[.agg #[.slice Ib Ra.length Gb,.int .i64 Ja,.int .i64 Ma,.int .i64 Oa,.int .i64 fc],.int .i64 a1] w fun e w'=>e = .returned (.int .i64 r)∧Below w.heap.size w w':=by
 have ZH:=Try.underlying118
 have Ve:=qa.mk zf
 have gf:=qa.mk uf
 clear zf uf
 have HB:=qa.mk (Below.refl w.heap.size w)
 have H:((Lc.f k Ra a1).bind fun t102=>(if t102 < 0 then (some (-1)) else (some t102)))=some r:=h
 clear h
 replace H:=Option.bind_eq_some_iff.mp H
 obtain ⟨t102,Ht,H⟩:=H
 replace H:(if t102 < 0 then (some (-1)) else (some t102))=some r:=H
 have A3:=qa.mk Ht
 clear Ht
 by_cases c4:t102 < 0
 ·rw [if_pos c4] at H
  have Mh:decide (t102 < 0)=true:=decide_eq_true c4
  clear c4
  obtain rfl:=Option.some.inj H
  go_enter Try.func86,Try.ntmps86
  go_wp2_with (first|((with_reducible refine Mb (N:=2) rfl ?_);refine Jb ?hg (N:=2) ?hd (cs:=#[.slice Ib Ra.length Gb,.int .i64 Ja,.int .i64 Ma,.int .i64 Oa,.int .i64 fc]) (t:=118) ?hr ?_;(case hd=>rfl);(case hg=>rfl);(case hr=>first|(go_simp;done)|(go_simp;rfl));intro Fa hg w5 Qb hb;have Pb:=qa.mk (Pa (by repeat (first|(with_reducible first|exact HB.out|apply ia|apply ja|apply za)|exact HB.out)) hb);have Wb:=qa.mk (Qb);have nc:=qa.mk ((by rw [hg];exact (Na (by repeat (first|(with_reducible first|exact HB.out|apply ia|apply ja|apply za)|exact HB.out))):w.heap.size ≤ Fa));have Nc:=qa.mk ((by rw [hg];exact (Na (by repeat (first|(with_reducible first|exact HB.out|apply ia|apply ja|apply za)|exact HB.out))):w.heap.size ≤ Fa));clear HB;have HB:=Pb;have ua:=Wb;have Nd:=nc;have Va:=Nc;clear Pb Wb nc Nc;clear hb Qb hg;have II:w5.cell? ⟨Fa,0,none⟩=some (.slice Ib Ra.length Gb):=(ga ua.out 0).trans rfl;have GI:w5.cell? ⟨Fa,1,none⟩=some (.int .i64 Ja):=(ga ua.out 1).trans rfl;have FI:w5.cell? ⟨Fa,2,none⟩=some (.int .i64 Ma):=(ga ua.out 2).trans rfl;have EI:w5.cell? ⟨Fa,3,none⟩=some (.int .i64 Oa):=(ga ua.out 3).trans rfl;have DI:w5.cell? ⟨Fa,4,none⟩=some (.int .i64 fc):=(ga ua.out 4).trans rfl;have pI:=aa ua.out 0;have oI:=aa ua.out 1;have nI:=aa ua.out 2;have mI:=aa ua.out 3;have lI:=aa ua.out 4)|((with_reducible refine Bb (f:=110) rfl ?_);refine jd (some 8) rfl rfl Try.func110 (by kernel_rfl) rfl #[.slice Ib Ra.length Gb,.int .i64 a1] rfl (by (try simp only [List.map_toArray,List.map_cons,List.map_nil]);first|done|rfl|(simp only [List.length_drop,List.length_take];rfl)) ?_;(with_reducible refine (Lc.calls k _ _ Ra a1 t102 _ ?side1 ?side2 A3.out).mono ?_);(case side1=>repeat (first|exact (Kd.Yb Ve.out HB.out)|(with_reducible refine Kd.yc ?_ _)|(with_reducible refine Kd.uc ?_ _)|(with_reducible refine Kd.Sc ?_)));(case side2=>exact gf.out);rintro e w7 ⟨rfl,hb⟩;refine ⟨_,rfl,?_⟩;have Pb:=qa.mk (Wa (g:=Fa) (o:=.cells #[.slice Ib Ra.length Gb,.int .i64 Ja,.int .i64 Ma,.int .i64 Oa,.int .i64 fc] 118 (0,0)) (by (with_reducible repeat (first|refine Ea ?_ _|refine Ga ?_|refine Da ?_ _));exact ua.out) hb);have Wb:=qa.mk (Pa (by repeat (first|(with_reducible first|exact HB.out|apply ia|apply ja|apply za|refine Aa ?_ Va.out)|exact HB.out)) hb);clear ua;clear HB;have ua:=Pb;have HB:=Wb;clear Pb Wb;(try clear hb);(try clear hb2);(try clear hk);(try clear hi)))
  go_ret
  exact ⟨by first|rfl|(simp [La,Ka] <;> rfl)|(simp [*,La,Ka] <;> rfl),by repeat (first|(with_reducible first|exact HB.out|apply ia|apply ja|apply za|refine Aa ?_ Va.out)|exact HB.out)⟩
 ·rw [if_neg c4] at H
  have Mh:decide (t102 < 0)=false:=decide_eq_false c4
  clear c4
  obtain rfl:=Option.some.inj H
  go_enter Try.func86,Try.ntmps86
  go_wp2_with (first|((with_reducible refine Mb (N:=2) rfl ?_);refine Jb ?hg (N:=2) ?hd (cs:=#[.slice Ib Ra.length Gb,.int .i64 Ja,.int .i64 Ma,.int .i64 Oa,.int .i64 fc]) (t:=118) ?hr ?_;(case hd=>rfl);(case hg=>rfl);(case hr=>first|(go_simp;done)|(go_simp;rfl));intro Fa hg w8 Qb hb;have Pb:=qa.mk (Pa (by repeat (first|(with_reducible first|exact HB.out|apply ia|apply ja|apply za)|exact HB.out)) hb);have Wb:=qa.mk (Qb);have nc:=qa.mk ((by rw [hg];exact (Na (by repeat (first|(with_reducible first|exact HB.out|apply ia|apply ja|apply za)|exact HB.out))):w.heap.size ≤ Fa));have Nc:=qa.mk ((by rw [hg];exact (Na (by repeat (first|(with_reducible first|exact HB.out|apply ia|apply ja|apply za)|exact HB.out))):w.heap.size ≤ Fa));clear HB;have HB:=Pb;have ua:=Wb;have Nd:=nc;have Va:=Nc;clear Pb Wb nc Nc;clear hb Qb hg;have cm:w8.cell? ⟨Fa,0,none⟩=some (.slice Ib Ra.length Gb):=(ga ua.out 0).trans rfl;have Zl:w8.cell? ⟨Fa,1,none⟩=some (.int .i64 Ja):=(ga ua.out 1).trans rfl;have Yl:w8.cell? ⟨Fa,2,none⟩=some (.int .i64 Ma):=(ga ua.out 2).trans rfl;have Xl:w8.cell? ⟨Fa,3,none⟩=some (.int .i64 Oa):=(ga ua.out 3).trans rfl;have Wl:w8.cell? ⟨Fa,4,none⟩=some (.int .i64 fc):=(ga ua.out 4).trans rfl;have Tl:=aa ua.out 0;have Sl:=aa ua.out 1;have Rl:=aa ua.out 2;have Ql:=aa ua.out 3;have Ol:=aa ua.out 4)|((with_reducible refine Bb (f:=110) rfl ?_);refine jd (some 8) rfl rfl Try.func110 (by kernel_rfl) rfl #[.slice Ib Ra.length Gb,.int .i64 a1] rfl (by (try simp only [List.map_toArray,List.map_cons,List.map_nil]);first|done|rfl|(simp only [List.length_drop,List.length_take];rfl)) ?_;(with_reducible refine (Lc.calls k _ _ Ra a1 t102 _ ?side1 ?side2 A3.out).mono ?_);(case side1=>repeat (first|exact (Kd.Yb Ve.out HB.out)|(with_reducible refine Kd.yc ?_ _)|(with_reducible refine Kd.uc ?_ _)|(with_reducible refine Kd.Sc ?_)));(case side2=>exact gf.out);rintro e Qo ⟨rfl,hb⟩;refine ⟨_,rfl,?_⟩;have Pb:=qa.mk (Wa (g:=Fa) (o:=.cells #[.slice Ib Ra.length Gb,.int .i64 Ja,.int .i64 Ma,.int .i64 Oa,.int .i64 fc] 118 (0,0)) (by (with_reducible repeat (first|refine Ea ?_ _|refine Ga ?_|refine Da ?_ _));exact ua.out) hb);have Wb:=qa.mk (Pa (by repeat (first|(with_reducible first|exact HB.out|apply ia|apply ja|apply za|refine Aa ?_ Va.out)|exact HB.out)) hb);clear ua;clear HB;have ua:=Pb;have HB:=Wb;clear Pb Wb;(try clear hb);(try clear hb2);(try clear hk);(try clear hi)))
  go_ret
  exact ⟨by first|rfl|(simp [La,Ka] <;> rfl)|(simp [*,La,Ka] <;> rfl),by repeat (first|(with_reducible first|exact HB.out|apply ia|apply ja|apply za|refine Aa ?_ Va.out)|exact HB.out)⟩
end Go.Proofs.Ytmifdccaajngcaa.P
end
section
namespace Go.Proofs.Ytmifdccaajngcaa.P
open Go.RowKit Go.Proofs.Ca.xb Go.Proofs.Ca.Xb Go.Proofs.Ca.ic
attribute [local go_sem] Vd Td we ue Dd Cd Ud Sd
set_option linter.unusedVariables false
set_option linter.unusedSimpArgs false
def Ic.l0:Nat→List (Xi)→Int→Int→Option (Int)
 | 0,_,_,_=>none
 | k + 1,x0,x1,x5=>if x5 < (x0.length:Int) then (if 0 ≤ x5 then ((Qe.f k ((Qd x0 x5).f0) ((Qd x0 x5).f1) ((Qd x0 x5).f2) ((Qd x0 x5).f3) ((Qd x0 x5).f4) x1).bind fun t102=>(if t102 < 0 then (some (-1)) else (Ic.l0 k x0 t102 (wrap64 (x5 + 1))))) else (none)) else (some x1)
def Ic.f (k:Nat) (l0:List (Xi)) (a1:Int):Option (Int):=if (wrap64 (a1 - (l0.length:Int))) < 0 then (some (-1)) else (Ic.l0 k l0 (wrap64 (a1 - (l0.length:Int))) 0)
theorem Ic.je:∀ k,(∀ y0 y1 y2,mc (Ic.l0 k y0 y1 y2) (Ic.l0 (k + 1) y0 y1 y2))
 | 0=>fun _ _ _ r h=>by simp [Ic.l0] at h
 | k + 1=>by
  have Lf:=Ic.je k
  ·intro y0 y1 y2
   unfold Ic.l0
   repeat' first
   | (with_reducible exact Lf _ _ _)
   | (with_reducible exact Qe.mono _ _ _ _ _ _ _)
   | (with_reducible exact mc.refl _)
   | (with_reducible exact mc.none _)
   | (with_reducible refine mc.ite ?_ ?_)
   | (with_reducible refine mc.bind ?_ (fun _=>?_))
   | exact Lf _ _ _
   | exact Qe.mono _ _ _ _ _ _ _
   | exact mc.none _
   | refine mc.ite ?_ ?_
   | refine mc.bind ?_ (fun _=>?_)
theorem Ic.mono:∀ a0 a1 k,mc (Ic.f k a0 a1) (Ic.f (k + 1) a0 a1):=by
 intro a0 a1 k
 have Lf:=Ic.je k
 unfold Ic.f
 repeat' first
   | (with_reducible exact Lf _ _ _)
   | (with_reducible exact Qe.mono _ _ _ _ _ _ _)
   | (with_reducible exact mc.refl _)
   | (with_reducible exact mc.none _)
   | (with_reducible refine mc.ite ?_ ?_)
   | (with_reducible refine mc.bind ?_ (fun _=>?_))
   | exact Lf _ _ _
   | exact Qe.mono _ _ _ _ _ _ _
   | exact mc.none _
   | refine mc.ite ?_ ?_
   | refine mc.bind ?_ (fun _=>?_)
set_option maxHeartbeats 8000000 in
set_option maxRecDepth 100000 in
theorem Ic.calls (k:Nat) (A0:Option Addr) (c0:Nat) (l0:List (Xi)) (a1:Int) (r:Int) (w:World) (hr0:Kd.C Rw w A0 l0.length l0) (hc0:l0.length ≤ c0) (h:Ic.f k l0 a1=some r) :
  Calls Try.prog 52 #[.slice A0 l0.length c0,.int .i64 a1] w fun e w'=>e = .returned (.int .i64 r)∧Below w.heap.size w w':=by
 have ZH:=Try.underlying118
 have Nq:=qa.mk hr0
 have fA:=qa.mk hc0
 clear hr0 hc0
 have HB:=qa.mk (Below.refl w.heap.size w)
 have H:(if (wrap64 (a1 - (l0.length:Int))) < 0 then (some (-1)) else (Ic.l0 k l0 (wrap64 (a1 - (l0.length:Int))) 0))=some r:=h
 clear h
 by_cases c3:(wrap64 (a1 - (l0.length:Int))) < 0
 ·rw [if_pos c3] at H
  have Uh:decide ((wrap64 (a1 - (l0.length:Int))) < 0)=true:=decide_eq_true c3
  clear c3
  obtain rfl:=Option.some.inj H
  go_enter Try.func52,Try.ntmps52
  go_wp2
  go_ret
  exact ⟨by first|rfl|(simp [La,Ka] <;> rfl)|(simp [*,La,Ka] <;> rfl),by repeat (first|(with_reducible first|exact HB.out|apply ia|apply ja|apply za)|exact HB.out)⟩
 ·rw [if_neg c3] at H
  have Uh:decide ((wrap64 (a1 - (l0.length:Int))) < 0)=false:=decide_eq_false c3
  clear c3
  have H':=qa.mk H
  clear H
  go_enter Try.func52,Try.ntmps52
  go_wp2
  go_loopg [1,5] k (fun kq v1 v5 w'=>∃ (cr:Int) (Ya:Int),v1 = .int .i64 cr∧v5 = .int .i64 Ya∧qa (Ic.l0 kq l0 cr Ya=some r)∧qa (kq ≤ k)∧qa (Below w.heap.size w w'))
  case atStart=>exact ⟨(wrap64 (a1 - (l0.length:Int))),(0),(by first|rfl|(simp;done)|(simp [*];done)),(by first|rfl|(simp;done)|(simp [*];done)),H',⟨Nat.le_refl _⟩,⟨by repeat (first|(with_reducible first|exact HB.out|apply ia|apply ja|apply za)|exact HB.out)⟩⟩
  case round =>
   clear H'
   try clear p2
   try clear c3
   try clear Uh
   (try clear HA)
   (try clear We)
   (try clear HB)
   obtain ⟨cr,Ya,rfl,rfl,HA,We,HB⟩:=hrel
   cases gk with
   | zero=>exact absurd HA.out (by simp [Ic.l0])
   | succ k1 =>
    have H:=HA.out
    clear HA
    simp only [Ic.l0] at H
    by_cases c4:Ya < (l0.length:Int)
    ·rw [if_pos c4] at H
     have Mh:decide (Ya < (l0.length:Int))=true:=decide_eq_true c4
     clear c4
     by_cases c5:0 ≤ Ya
     ·rw [if_pos c5] at H
      have Hl:decide (0 ≤ Ya)=true:=decide_eq_true c5
      clear c5
      replace H:=Option.bind_eq_some_iff.mp H
      obtain ⟨t102,QO,H⟩:=H
      replace H:(if t102 < 0 then (some (-1)) else (Ic.l0 k1 l0 t102 (wrap64 (Ya + 1))))=some r:=H
      have A6:=qa.mk QO
      clear QO
      by_cases c7:t102 < 0
      ·rw [if_pos c7] at H
       have Wo:decide (t102 < 0)=true:=decide_eq_true c7
       clear c7
       obtain rfl:=Option.some.inj H
       have Yf:0 ≤ (Ya:Int):=of_decide_eq_true (by first|(with_reducible assumption)|assumption)
       have Xf:Ya < (l0.length:Int):=of_decide_eq_true (by first|(with_reducible assumption)|assumption)
       obtain ⟨Ie,Po,Ho,Xj,Zd,Be,Ae,ze,ye,Gj,Hj⟩:=Wz Nq.out Ya Yf Xf
       cases Xj
       replace Zd:=(HB.out.cell (World.block_lt_of_cell? w _ Zd)).trans Zd
       replace Be:=(HB.out.cell (World.block_lt_of_cell? w _ Be)).trans Be
       replace Ae:=(HB.out.cell (World.block_lt_of_cell? w _ Ae)).trans Ae
       replace ze:=(HB.out.cell (World.block_lt_of_cell? w _ ze)).trans ze
       replace ye:=(HB.out.cell (World.block_lt_of_cell? w _ ye)).trans ye
       have Kl:=qa.mk Hj
       have Oo:=qa.mk Gj
       clear Hj Gj
       replace Yf:=eq_true Yf
       replace Xf:=eq_true Xf
       go_wp2_with (first|((with_reducible refine Bb (f:=86) rfl ?_);refine jd (some 23) rfl rfl Try.func86 (by kernel_rfl) rfl #[.agg #[.slice Po ((Qd l0 Ya).f0).length Ho,.int .i64 ((Qd l0 Ya).f1),.int .i64 ((Qd l0 Ya).f2),.int .i64 ((Qd l0 Ya).f3),.int .i64 ((Qd l0 Ya).f4)],.int .i64 cr] rfl (by (try simp only [List.map_toArray,List.map_cons,List.map_nil]);first|done|rfl|(simp only [List.length_drop,List.length_take];rfl)) ?_;(with_reducible refine (Qe.calls k1 _ _ ((Qd l0 Ya).f0) ((Qd l0 Ya).f1) ((Qd l0 Ya).f2) ((Qd l0 Ya).f3) ((Qd l0 Ya).f4) cr t102 _ ?side1 ?side2 A6.out).mono ?_);(case side1=>repeat (first|exact (Kd.Yb Kl.out HB.out)|(with_reducible refine Kd.yc ?_ _)|(with_reducible refine Kd.uc ?_ _)|(with_reducible refine Kd.Sc ?_)));(case side2=>exact Oo.out);rintro e w8 ⟨rfl,hb⟩;refine ⟨_,rfl,?_⟩;have Pb:=qa.mk (Pa (by repeat (first|(with_reducible first|exact HB.out|apply ia|apply ja|apply za)|exact HB.out)) hb);clear HB;have HB:=Pb;clear Pb;(try clear hb);(try clear hb2);(try clear hk);(try clear hi)))
       go_ret
       exact ⟨by first|rfl|(simp [La,Ka] <;> rfl)|(simp [*,La,Ka] <;> rfl),by repeat (first|(with_reducible first|exact HB.out|apply ia|apply ja|apply za)|exact HB.out)⟩
      ·rw [if_neg c7] at H
       have Wo:decide (t102 < 0)=false:=decide_eq_false c7
       clear c7
       have H':=qa.mk H
       clear H
       have Yf:0 ≤ (Ya:Int):=of_decide_eq_true (by first|(with_reducible assumption)|assumption)
       have Xf:Ya < (l0.length:Int):=of_decide_eq_true (by first|(with_reducible assumption)|assumption)
       obtain ⟨Ie,Po,Ho,Xj,Zd,Be,Ae,ze,ye,Gj,Hj⟩:=Wz Nq.out Ya Yf Xf
       cases Xj
       replace Zd:=(HB.out.cell (World.block_lt_of_cell? w _ Zd)).trans Zd
       replace Be:=(HB.out.cell (World.block_lt_of_cell? w _ Be)).trans Be
       replace Ae:=(HB.out.cell (World.block_lt_of_cell? w _ Ae)).trans Ae
       replace ze:=(HB.out.cell (World.block_lt_of_cell? w _ ze)).trans ze
       replace ye:=(HB.out.cell (World.block_lt_of_cell? w _ ye)).trans ye
       have Kl:=qa.mk Hj
       have Oo:=qa.mk Gj
       clear Hj Gj
       replace Yf:=eq_true Yf
       replace Xf:=eq_true Xf
       go_wp2_with (first|((with_reducible refine Bb (f:=86) rfl ?_);refine jd (some 23) rfl rfl Try.func86 (by kernel_rfl) rfl #[.agg #[.slice Po ((Qd l0 Ya).f0).length Ho,.int .i64 ((Qd l0 Ya).f1),.int .i64 ((Qd l0 Ya).f2),.int .i64 ((Qd l0 Ya).f3),.int .i64 ((Qd l0 Ya).f4)],.int .i64 cr] rfl (by (try simp only [List.map_toArray,List.map_cons,List.map_nil]);first|done|rfl|(simp only [List.length_drop,List.length_take];rfl)) ?_;(with_reducible refine (Qe.calls k1 _ _ ((Qd l0 Ya).f0) ((Qd l0 Ya).f1) ((Qd l0 Ya).f2) ((Qd l0 Ya).f3) ((Qd l0 Ya).f4) cr t102 _ ?side1 ?side2 A6.out).mono ?_);(case side1=>repeat (first|exact (Kd.Yb Kl.out HB.out)|(with_reducible refine Kd.yc ?_ _)|(with_reducible refine Kd.uc ?_ _)|(with_reducible refine Kd.Sc ?_)));(case side2=>exact Oo.out);rintro e w9 ⟨rfl,hb⟩;refine ⟨_,rfl,?_⟩;have Pb:=qa.mk (Pa (by repeat (first|(with_reducible first|exact HB.out|apply ia|apply ja|apply za)|exact HB.out)) hb);clear HB;have HB:=Pb;clear Pb;(try clear hb);(try clear hb2);(try clear hk);(try clear hi)))
       go_roundg k1
       case measure=>have:=We.out;omega
       case rel=>exact ⟨(t102),(wrap64 (Ya + 1)),(by first|rfl|(simp;done)|(simp [*];done)),(by first|rfl|(simp;done)|(simp [*];done)),H',⟨by have:=We.out;omega⟩,⟨by repeat (first|(with_reducible first|exact HB.out|apply ia|apply ja|apply za)|exact HB.out)⟩⟩
     ·rw [if_neg c5] at H
      exact absurd H (by simp)
    ·rw [if_neg c4] at H
     have Mh:decide (Ya < (l0.length:Int))=false:=decide_eq_false c4
     clear c4
     obtain rfl:=Option.some.inj H
     go_wp2
     go_ret
     exact ⟨by first|rfl|(simp [La,Ka] <;> rfl)|(simp [*,La,Ka] <;> rfl),by repeat (first|(with_reducible first|exact HB.out|apply ia|apply ja|apply za)|exact HB.out)⟩
end Go.Proofs.Ytmifdccaajngcaa.P
end
section
namespace Go.Proofs.Ytmifdccaajngcaa.P
open Go.RowKit Go.Proofs.Ca.xb Go.Proofs.Ca.Xb Go.Proofs.Ca.ic
attribute [local go_sem] Vd Td we ue Dd Cd Ud Sd
set_option linter.unusedVariables false
set_option linter.unusedSimpArgs false
def af.f (k:Nat) (Ra:List Int) (Ja:Int) (Ma:Int) (Oa:Int) (Qa:List (Xi)) (a1:Int):Option (Int):=(Tg.f Ra a1).bind fun t102=>(if t102 < 0 then (some (-1)) else ((Ic.f k Qa t102).bind fun t103=>(if t103 < 0 then (some (-1)) else (some t103))))
theorem af.mono:∀ a0 a1 a2 a3 a4 a5 k,mc (af.f k a0 a1 a2 a3 a4 a5) (af.f (k + 1) a0 a1 a2 a3 a4 a5):=by
 intro a0 a1 a2 a3 a4 a5 k
 unfold af.f
 repeat' first
   | (with_reducible exact Ic.mono _ _ _)
   | (with_reducible exact mc.refl _)
   | (with_reducible exact mc.none _)
   | (with_reducible refine mc.ite ?_ ?_)
   | (with_reducible refine mc.bind ?_ (fun _=>?_))
   | exact Ic.mono _ _ _
   | exact mc.none _
   | refine mc.ite ?_ ?_
   | refine mc.bind ?_ (fun _=>?_)
set_option maxHeartbeats 8000000 in
set_option maxRecDepth 100000 in
theorem af.calls (k:Nat) (Ib:Option Addr) (Gb:Nat) (Ra:List Int) (Ja:Int) (Ma:Int) (Oa:Int) (qc:Option Addr) (dc:Nat) (Qa:List (Xi)) (a1:Int) (r:Int) (w:World) (zf:Kd.C (Kd.int .i64) w Ib Ra.length Ra) (uf:Ra.length ≤ Gb) (bg:Kd.C Rw w qc Qa.length Qa) (cg:Qa.length ≤ dc) (h:af.f k Ra Ja Ma Oa Qa a1=some r) :
  Calls Try.prog 13 #[.agg #[.slice Ib Ra.length Gb,.int .i64 Ja,.int .i64 Ma,.int .i64 Oa,.slice qc Qa.length dc],.int .i64 a1] w fun e w'=>e = .returned (.int .i64 r)∧Below w.heap.size w w':=by
 have WR:=Try.underlying25
 have Ve:=qa.mk zf
 have gf:=qa.mk uf
 clear zf uf
 have Tf:=qa.mk bg
 have Yg:=qa.mk cg
 clear bg cg
 have HB:=qa.mk (Below.refl w.heap.size w)
 have H:((Tg.f Ra a1).bind fun t102=>(if t102 < 0 then (some (-1)) else ((Ic.f k Qa t102).bind fun t103=>(if t103 < 0 then (some (-1)) else (some t103)))))=some r:=h
 clear h
 replace H:=Option.bind_eq_some_iff.mp H
 obtain ⟨t102,Ht,H⟩:=H
 replace H:(if t102 < 0 then (some (-1)) else ((Ic.f k Qa t102).bind fun t103=>(if t103 < 0 then (some (-1)) else (some t103))))=some r:=H
 have A3:=qa.mk Ht
 clear Ht
 by_cases c4:t102 < 0
 ·rw [if_pos c4] at H
  have Mh:decide (t102 < 0)=true:=decide_eq_true c4
  clear c4
  obtain rfl:=Option.some.inj H
  go_enter Try.func13,Try.ntmps13
  go_wp2_with (first|((with_reducible refine Mb (N:=2) rfl ?_);refine Jb ?hg (N:=2) ?hd (cs:=#[.slice Ib Ra.length Gb,.int .i64 Ja,.int .i64 Ma,.int .i64 Oa,.slice qc Qa.length dc]) (t:=25) ?hr ?_;(case hd=>rfl);(case hg=>rfl);(case hr=>first|(go_simp;done)|(go_simp;rfl));intro Fa hg w5 Qb hb;have Pb:=qa.mk (Pa (by repeat (first|(with_reducible first|exact HB.out|apply ia|apply ja|apply za)|exact HB.out)) hb);have Wb:=qa.mk (Qb);have nc:=qa.mk ((by rw [hg];exact (Na (by repeat (first|(with_reducible first|exact HB.out|apply ia|apply ja|apply za)|exact HB.out))):w.heap.size ≤ Fa));have Nc:=qa.mk ((by rw [hg];exact (Na (by repeat (first|(with_reducible first|exact HB.out|apply ia|apply ja|apply za)|exact HB.out))):w.heap.size ≤ Fa));clear HB;have HB:=Pb;have ua:=Wb;have Nd:=nc;have Va:=Nc;clear Pb Wb nc Nc;clear hb Qb hg;have II:w5.cell? ⟨Fa,0,none⟩=some (.slice Ib Ra.length Gb):=(ga ua.out 0).trans rfl;have GI:w5.cell? ⟨Fa,1,none⟩=some (.int .i64 Ja):=(ga ua.out 1).trans rfl;have FI:w5.cell? ⟨Fa,2,none⟩=some (.int .i64 Ma):=(ga ua.out 2).trans rfl;have EI:w5.cell? ⟨Fa,3,none⟩=some (.int .i64 Oa):=(ga ua.out 3).trans rfl;have DI:w5.cell? ⟨Fa,4,none⟩=some (.slice qc Qa.length dc):=(ga ua.out 4).trans rfl;have pI:=aa ua.out 0;have oI:=aa ua.out 1;have nI:=aa ua.out 2;have mI:=aa ua.out 3;have lI:=aa ua.out 4)|((with_reducible refine Bb (f:=51) rfl ?_);refine jd (some 8) rfl rfl Try.func51 (by kernel_rfl) rfl #[.slice Ib Ra.length Gb,.int .i64 a1] rfl (by (try simp only [List.map_toArray,List.map_cons,List.map_nil]);first|done|rfl|(simp only [List.length_drop,List.length_take];rfl)) ?_;(with_reducible refine (Tg.calls _ _ Ra a1 t102 _ ?side1 ?side2 A3.out).mono ?_);(case side1=>repeat (first|exact (Kd.Yb Ve.out HB.out)|(with_reducible refine Kd.yc ?_ _)|(with_reducible refine Kd.uc ?_ _)|(with_reducible refine Kd.Sc ?_)));(case side2=>exact gf.out);rintro e w' ⟨rfl,⟨nd,rfl⟩⟩;refine ⟨_,rfl,?_⟩))
  go_ret
  exact ⟨by first|rfl|(simp [La,Ka] <;> rfl)|(simp [*,La,Ka] <;> rfl),by repeat (first|(with_reducible first|exact HB.out|apply ia|apply ja|apply za|refine Aa ?_ Va.out)|exact HB.out)⟩
 ·rw [if_neg c4] at H
  have Mh:decide (t102 < 0)=false:=decide_eq_false c4
  clear c4
  replace H:=Option.bind_eq_some_iff.mp H
  obtain ⟨t103,lB,H⟩:=H
  replace H:(if t103 < 0 then (some (-1)) else (some t103))=some r:=H
  have A7:=qa.mk lB
  clear lB
  by_cases c8:t103 < 0
  ·rw [if_pos c8] at H
   have Mn:decide (t103 < 0)=true:=decide_eq_true c8
   clear c8
   obtain rfl:=Option.some.inj H
   go_enter Try.func13,Try.ntmps13
   go_wp2_with (first|((with_reducible refine Mb (N:=2) rfl ?_);refine Jb ?hg (N:=2) ?hd (cs:=#[.slice Ib Ra.length Gb,.int .i64 Ja,.int .i64 Ma,.int .i64 Oa,.slice qc Qa.length dc]) (t:=25) ?hr ?_;(case hd=>rfl);(case hg=>rfl);(case hr=>first|(go_simp;done)|(go_simp;rfl));intro Fa hg w9 Qb hb;have Pb:=qa.mk (Pa (by repeat (first|(with_reducible first|exact HB.out|apply ia|apply ja|apply za)|exact HB.out)) hb);have Wb:=qa.mk (Qb);have nc:=qa.mk ((by rw [hg];exact (Na (by repeat (first|(with_reducible first|exact HB.out|apply ia|apply ja|apply za)|exact HB.out))):w.heap.size ≤ Fa));have Nc:=qa.mk ((by rw [hg];exact (Na (by repeat (first|(with_reducible first|exact HB.out|apply ia|apply ja|apply za)|exact HB.out))):w.heap.size ≤ Fa));clear HB;have HB:=Pb;have ua:=Wb;have Nd:=nc;have Va:=Nc;clear Pb Wb nc Nc;clear hb Qb hg;have cn:w9.cell? ⟨Fa,0,none⟩=some (.slice Ib Ra.length Gb):=(ga ua.out 0).trans rfl;have bn:w9.cell? ⟨Fa,1,none⟩=some (.int .i64 Ja):=(ga ua.out 1).trans rfl;have Zm:w9.cell? ⟨Fa,2,none⟩=some (.int .i64 Ma):=(ga ua.out 2).trans rfl;have Ym:w9.cell? ⟨Fa,3,none⟩=some (.int .i64 Oa):=(ga ua.out 3).trans rfl;have Xm:w9.cell? ⟨Fa,4,none⟩=some (.slice qc Qa.length dc):=(ga ua.out 4).trans rfl;have Om:=aa ua.out 0;have Nm:=aa ua.out 1;have Mm:=aa ua.out 2;have Lm:=aa ua.out 3;have Km:=aa ua.out 4)|((with_reducible refine Bb (f:=51) rfl ?_);refine jd (some 8) rfl rfl Try.func51 (by kernel_rfl) rfl #[.slice Ib Ra.length Gb,.int .i64 a1] rfl (by (try simp only [List.map_toArray,List.map_cons,List.map_nil]);first|done|rfl|(simp only [List.length_drop,List.length_take];rfl)) ?_;(with_reducible refine (Tg.calls _ _ Ra a1 t102 _ ?side1 ?side2 A3.out).mono ?_);(case side1=>repeat (first|exact (Kd.Yb Ve.out HB.out)|(with_reducible refine Kd.yc ?_ _)|(with_reducible refine Kd.uc ?_ _)|(with_reducible refine Kd.Sc ?_)));(case side2=>exact gf.out);rintro e w' ⟨rfl,⟨nd,rfl⟩⟩;refine ⟨_,rfl,?_⟩)|((with_reducible refine Bb (f:=52) rfl ?_);refine jd (some 14) rfl rfl Try.func52 (by kernel_rfl) rfl #[.slice qc Qa.length dc,.int .i64 t102] rfl (by (try simp only [List.map_toArray,List.map_cons,List.map_nil]);first|done|rfl|(simp only [List.length_drop,List.length_take];rfl)) ?_;(with_reducible refine (Ic.calls k _ _ Qa t102 t103 _ ?side1 ?side2 A7.out).mono ?_);(case side1=>repeat (first|exact (Kd.Yb Tf.out (by repeat (first|(with_reducible first|exact HB.out|apply ia|apply ja|apply za|refine Aa ?_ Va.out)|exact HB.out)))|(with_reducible refine Kd.yc ?_ _)|(with_reducible refine Kd.uc ?_ _)|(with_reducible refine Kd.Sc ?_)));(case side2=>exact Yg.out);rintro e ri ⟨rfl,hb⟩;refine ⟨_,rfl,?_⟩;have Pb:=qa.mk (Wa (g:=Fa) (o:=.cells #[.slice Ib Ra.length Gb,.int .i64 Ja,.int .i64 Ma,.int .i64 Oa,.slice qc Qa.length dc] 25 (0,0)) (by (with_reducible repeat (first|refine Ea ?_ _|refine Ga ?_|refine Da ?_ _));exact ua.out) hb);have Wb:=qa.mk (Pa (by repeat (first|(with_reducible first|exact HB.out|apply ia|apply ja|apply za|refine Aa ?_ Va.out)|exact HB.out)) hb);clear ua;clear HB;have ua:=Pb;have HB:=Wb;clear Pb Wb;(try clear hb);(try clear hb2);(try clear hk);(try clear hi)))
   go_ret
   exact ⟨by first|rfl|(simp [La,Ka] <;> rfl)|(simp [*,La,Ka] <;> rfl),by repeat (first|(with_reducible first|exact HB.out|apply ia|apply ja|apply za|refine Aa ?_ Va.out)|exact HB.out)⟩
  ·rw [if_neg c8] at H
   have Mn:decide (t103 < 0)=false:=decide_eq_false c8
   clear c8
   obtain rfl:=Option.some.inj H
   go_enter Try.func13,Try.ntmps13
   go_wp2_with (first|((with_reducible refine Mb (N:=2) rfl ?_);refine Jb ?hg (N:=2) ?hd (cs:=#[.slice Ib Ra.length Gb,.int .i64 Ja,.int .i64 Ma,.int .i64 Oa,.slice qc Qa.length dc]) (t:=25) ?hr ?_;(case hd=>rfl);(case hg=>rfl);(case hr=>first|(go_simp;done)|(go_simp;rfl));intro Fa hg yu Qb hb;have Pb:=qa.mk (Pa (by repeat (first|(with_reducible first|exact HB.out|apply ia|apply ja|apply za)|exact HB.out)) hb);have Wb:=qa.mk (Qb);have nc:=qa.mk ((by rw [hg];exact (Na (by repeat (first|(with_reducible first|exact HB.out|apply ia|apply ja|apply za)|exact HB.out))):w.heap.size ≤ Fa));have Nc:=qa.mk ((by rw [hg];exact (Na (by repeat (first|(with_reducible first|exact HB.out|apply ia|apply ja|apply za)|exact HB.out))):w.heap.size ≤ Fa));clear HB;have HB:=Pb;have ua:=Wb;have Nd:=nc;have Va:=Nc;clear Pb Wb nc Nc;clear hb Qb hg;have Lj:yu.cell? ⟨Fa,0,none⟩=some (.slice Ib Ra.length Gb):=(ga ua.out 0).trans rfl;have Kj:yu.cell? ⟨Fa,1,none⟩=some (.int .i64 Ja):=(ga ua.out 1).trans rfl;have Gq:yu.cell? ⟨Fa,2,none⟩=some (.int .i64 Ma):=(ga ua.out 2).trans rfl;have Fq:yu.cell? ⟨Fa,3,none⟩=some (.int .i64 Oa):=(ga ua.out 3).trans rfl;have Dq:yu.cell? ⟨Fa,4,none⟩=some (.slice qc Qa.length dc):=(ga ua.out 4).trans rfl;have Jj:=aa ua.out 0;have Ij:=aa ua.out 1;have pq:=aa ua.out 2;have oq:=aa ua.out 3;have mq:=aa ua.out 4)|((with_reducible refine Bb (f:=51) rfl ?_);refine jd (some 8) rfl rfl Try.func51 (by kernel_rfl) rfl #[.slice Ib Ra.length Gb,.int .i64 a1] rfl (by (try simp only [List.map_toArray,List.map_cons,List.map_nil]);first|done|rfl|(simp only [List.length_drop,List.length_take];rfl)) ?_;(with_reducible refine (Tg.calls _ _ Ra a1 t102 _ ?side1 ?side2 A3.out).mono ?_);(case side1=>repeat (first|exact (Kd.Yb Ve.out HB.out)|(with_reducible refine Kd.yc ?_ _)|(with_reducible refine Kd.uc ?_ _)|(with_reducible refine Kd.Sc ?_)));(case side2=>exact gf.out);rintro e w' ⟨rfl,⟨nd,rfl⟩⟩;refine ⟨_,rfl,?_⟩)|((with_reducible refine Bb (f:=52) rfl ?_);refine jd (some 14) rfl rfl Try.func52 (by kernel_rfl) rfl #[.slice qc Qa.length dc,.int .i64 t102] rfl (by (try simp only [List.map_toArray,List.map_cons,List.map_nil]);first|done|rfl|(simp only [List.length_drop,List.length_take];rfl)) ?_;(with_reducible refine (Ic.calls k _ _ Qa t102 t103 _ ?side1 ?side2 A7.out).mono ?_);(case side1=>repeat (first|exact (Kd.Yb Tf.out (by repeat (first|(with_reducible first|exact HB.out|apply ia|apply ja|apply za|refine Aa ?_ Va.out)|exact HB.out)))|(with_reducible refine Kd.yc ?_ _)|(with_reducible refine Kd.uc ?_ _)|(with_reducible refine Kd.Sc ?_)));(case side2=>exact Yg.out);rintro e TC ⟨rfl,hb⟩;refine ⟨_,rfl,?_⟩;have Pb:=qa.mk (Wa (g:=Fa) (o:=.cells #[.slice Ib Ra.length Gb,.int .i64 Ja,.int .i64 Ma,.int .i64 Oa,.slice qc Qa.length dc] 25 (0,0)) (by (with_reducible repeat (first|refine Ea ?_ _|refine Ga ?_|refine Da ?_ _));exact ua.out) hb);have Wb:=qa.mk (Pa (by repeat (first|(with_reducible first|exact HB.out|apply ia|apply ja|apply za|refine Aa ?_ Va.out)|exact HB.out)) hb);clear ua;clear HB;have ua:=Pb;have HB:=Wb;clear Pb Wb;(try clear hb);(try clear hb2);(try clear hk);(try clear hi)))
   go_ret
   exact ⟨by first|rfl|(simp [La,Ka] <;> rfl)|(simp [*,La,Ka] <;> rfl),by repeat (first|(with_reducible first|exact HB.out|apply ia|apply ja|apply za|refine Aa ?_ Va.out)|exact HB.out)⟩
end Go.Proofs.Ytmifdccaajngcaa.P
end
section
namespace Go.Proofs.Ytmifdccaajngcaa.P
open Go.RowKit Go.Proofs.Ca.xb Go.Proofs.Ca.Xb Go.Proofs.Ca.ic
attribute [local go_sem] Vd Td we ue Dd Cd Ud Sd
set_option linter.unusedVariables false
set_option linter.unusedSimpArgs false
def ud.l0:Nat→List Int→List Int→Int→Option (List Int)
 | 0,_,_,_=>none
 | k + 1,x0,x3,x4=>if x4 < (x0.length:Int) then (if 0 ≤ x4 then (if x4 < (x3.length:Int) then (ud.l0 k x0 (x3.set (x4:Int).toNat (rd x0 x4)) (wrap64 (x4 + 1))) else (none)) else (none)) else (some x3)
def ud.f (k:Nat) (l0:List Int):Option (List Int):=if 0 ≤ (l0.length:Int) then (if ((l0.length:Int):Int).toNat ≤ 35184372088832 then (ud.l0 k l0 (List.replicate ((l0.length:Int):Int).toNat 0) 0) else (none)) else (none)
theorem ud.je:∀ k,(∀ y0 y1 y2,mc (ud.l0 k y0 y1 y2) (ud.l0 (k + 1) y0 y1 y2))
 | 0=>fun _ _ _ r h=>by simp [ud.l0] at h
 | k + 1=>by
  have Lf:=ud.je k
  ·intro y0 y1 y2
   unfold ud.l0
   repeat' first
   | (with_reducible exact Lf _ _ _)
   | (with_reducible exact mc.refl _)
   | (with_reducible exact mc.none _)
   | (with_reducible refine mc.ite ?_ ?_)
   | (with_reducible refine mc.bind ?_ (fun _=>?_))
   | exact Lf _ _ _
   | exact mc.none _
   | refine mc.ite ?_ ?_
   | refine mc.bind ?_ (fun _=>?_)
theorem ud.mono:∀ a0 k,mc (ud.f k a0) (ud.f (k + 1) a0):=by
 intro a0 k
 have Lf:=ud.je k
 unfold ud.f
 repeat' first
   | (with_reducible exact Lf _ _ _)
   | (with_reducible exact mc.refl _)
   | (with_reducible exact mc.none _)
   | (with_reducible refine mc.ite ?_ ?_)
   | (with_reducible refine mc.bind ?_ (fun _=>?_))
   | exact Lf _ _ _
   | exact mc.none _
   | refine mc.ite ?_ ?_
   | refine mc.bind ?_ (fun _=>?_)
set_option maxHeartbeats 8000000 in
set_option maxRecDepth 100000 in
theorem ud.calls (k:Nat) (A0:Option Addr) (c0:Nat) (l0:List Int) (r:List Int) (w:World) (hr0:Kd.C (Kd.int .i64) w A0 l0.length l0) (hc0:l0.length ≤ c0) (h:ud.f k l0=some r) :
  Calls Try.prog 25 #[.slice A0 l0.length c0] w fun e w'=>∃ v0_:Value,e = .returned (v0_)∧Kd.R (Kd.int .i64) 3 w' w.heap.size (fun _=>True) v0_ r∧Below w.heap.size w w':=by
 have Nq:=qa.mk hr0
 have fA:=qa.mk hc0
 clear hr0 hc0
 have HB:=qa.mk (Below.refl w.heap.size w)
 have H:(if 0 ≤ (l0.length:Int) then (if ((l0.length:Int):Int).toNat ≤ 35184372088832 then (ud.l0 k l0 (List.replicate ((l0.length:Int):Int).toNat 0) 0) else (none)) else (none))=some r:=h
 clear h
 by_cases c2:0 ≤ (l0.length:Int)
 ·rw [if_pos c2] at H
  have BC:=eq_true c2
  have zC:decide (0 ≤ (l0.length:Int))=true:=decide_eq_true c2
  clear c2
  by_cases c3:((l0.length:Int):Int).toNat ≤ 35184372088832
  ·rw [if_pos c3] at H
   have Uh:=eq_true c3
   have Mq:decide (((l0.length:Int):Int).toNat ≤ 35184372088832)=true:=decide_eq_true c3
   clear c3
   obtain ⟨y101,hy101⟩:∃ y_:List Int,y_=(List.replicate ((l0.length:Int):Int).toNat 0):=⟨_,rfl⟩
   replace H:(ud.l0 k l0 y101 0)=some r:=by first|(rw [hy101];with_reducible exact H)|(have Tj:=(Option.bind_some _ _).symm.trans H;rw [hy101];with_reducible exact Tj)|(have Tj:=(Option.bind_some _ _).symm.trans H;with_reducible exact Tj)|with_reducible exact H|(rw [hy101];exact H)|exact H
   have gn:=qa.mk hy101
   clear hy101
   have H':=qa.mk H
   clear H
   go_enter Try.func25,Try.ntmps25
   go_wp2_with (first|((with_reducible refine Mb (N:=7) rfl ?_);refine Kd.MC (Kd.int .i64) _ 3 rfl (N:=7) rfl 22 _ _ rfl (l0.length:Int) rfl rfl Try.underlying22 (.int .i64 0) 8 info3 rfl (by decide) (by omega) 0 (ok:=fun _=>True) (Uo:=fun _=>True) rfl (fun _ hk=>hk) trivial (of_decide_eq_true (by first|(with_reducible assumption)|assumption)) (Nat.le_trans (Nat.mul_le_mul_right _ (of_decide_eq_true (by first|(with_reducible assumption)|assumption):(l0.length:Int).toNat ≤ 35184372088832)) (by omega)) (Below.refl _ _) (Nat.le_refl _) ?_;intro qB w4 EA hb iI xp;clear iI xp;(first|rw [← gn.out] at EA|(simp only [Int.reduceToNat] at EA;rw [← gn.out] at EA));have Pb:=qa.mk (Kd.Xg EA (Na (by repeat (first|(with_reducible first|exact HB.out|apply ia|apply ja|apply za)|exact HB.out))));have Wb:=qa.mk (Pa (by repeat (first|(with_reducible first|exact HB.out|apply ia|apply ja|apply za)|exact HB.out)) hb);clear HB;have Qp:=Pb;have HB:=Wb;clear Pb Wb;clear hb EA))
   go_loopg [4] k (fun kq v4 w'=>∃ (Te:List Int) (Zc:Int),v4 = .int .i64 Zc∧qa (ud.l0 kq l0 Te Zc=some r)∧qa (kq ≤ k)∧qa (Kd.R (Kd.int .i64) 3 w' w.heap.size (fun _=>True) qB Te)∧qa (Below w.heap.size w w'))
   case atStart=>exact ⟨(y101),(0),(by first|rfl|(simp;done)|(simp [*];done)),H',⟨Nat.le_refl _⟩,⟨by (with_reducible repeat (first|apply Kd.Qc|apply Kd.Pc|apply Kd.xd));exact Qp.out⟩,⟨by repeat (first|(with_reducible first|exact HB.out|apply ia|apply ja|apply za)|exact HB.out)⟩⟩
   case round =>
    clear H'
    try clear c2
    try clear BC
    try clear zC
    try clear p2
    try clear c3
    try clear Uh
    try clear Mq
    (try clear HA)
    (try clear We)
    (try clear Ng)
    (try clear HB)
    obtain ⟨Te,Zc,rfl,HA,We,Ng,HB⟩:=hrel
    cases gk with
    | zero=>exact absurd HA.out (by simp [ud.l0])
    | succ k1 =>
     have H:=HA.out
     clear HA
     simp only [ud.l0] at H
     by_cases c6:Zc < (l0.length:Int)
     ·rw [if_pos c6] at H
      have rm:decide (Zc < (l0.length:Int))=true:=decide_eq_true c6
      clear c6
      by_cases c7:0 ≤ Zc
      ·rw [if_pos c7] at H
       have Wo:decide (0 ≤ Zc)=true:=decide_eq_true c7
       clear c7
       by_cases c8:Zc < (Te.length:Int)
       ·rw [if_pos c8] at H
        have Mn:decide (Zc < (Te.length:Int))=true:=decide_eq_true c8
        clear c8
        obtain ⟨y105,hy105⟩:∃ y_:List Int,y_=(Te.set (Zc:Int).toNat (rd l0 Zc)):=⟨_,rfl⟩
        replace H:(ud.l0 k1 l0 y105 (wrap64 (Zc + 1)))=some r:=by first|(rw [hy105];with_reducible exact H)|(have Tj:=(Option.bind_some _ _).symm.trans H;rw [hy105];with_reducible exact Tj)|(have Tj:=(Option.bind_some _ _).symm.trans H;with_reducible exact Tj)|with_reducible exact H|(rw [hy105];exact H)|exact H
        have vJ:=qa.mk hy105
        clear hy105
        have H':=qa.mk H
        clear H
        have gr:0 ≤ (Zc:Int):=of_decide_eq_true (by first|(with_reducible assumption)|assumption)
        have dr:Zc < (l0.length:Int):=of_decide_eq_true (by first|(with_reducible assumption)|assumption)
        obtain ⟨kG,vC,Th⟩:=Kd.Lp Nq.out Zc gr dr
        cases vC
        replace Th:=(HB.out.cell (World.block_lt_of_cell? w _ Th)).trans Th
        replace gr:=eq_true gr
        replace dr:=eq_true dr
        have p9:0 ≤ (Zc:Int):=of_decide_eq_true (by first|(with_reducible assumption)|assumption)
        have q9:(Zc:Int) < ((Te.length:Int):Int):=of_decide_eq_true (by first|(with_reducible assumption)|assumption)
        obtain ⟨go9,co9,eo9,gb9,gl9,cl9,HG9⟩:=Kd.Mp Ng.out (by omega)
        (first|cases eo9|(injection eo9 with ea_ en_ ec_;(first|subst ea_|(injection ea_ with ea_;subst ea_));subst ec_;clear en_))
        have GB9:=qa.mk gb9
        have GG9:=qa.mk HG9
        clear gb9 gl9 HG9
        obtain ⟨wab,mad⟩:=Kd.CN 0 Ng.out (Zc:Int) p9 q9
        replace p9:=eq_true p9
        replace q9:=eq_true q9
        have oR:=Kd.bR Ng.out (Zc:Int) (rd l0 Zc)
        go_wp2_with (first|((with_reducible refine Rf (t:=3) (p:=20) rfl ?_);refine Bf (t:=3) (p:=20) (v:=?vo_w11) (w1:=(wr.setCell ⟨go9,(Zc:Int).toNat,none⟩ (.int .i64 (rd l0 Zc)))) ?hg ?ho ?hn ?hr ?_;(case ho=>rfl);(case hg=>rfl);(case hn=>rfl);(case hr=>first|(go_simp;done)|(go_simp;rfl));intro ri hw;have hg:wr.grownBy ri (some go9):=(by rw [hw];exact oR.2);have Sw:Kd.R (Kd.int .i64) 3 ri w.heap.size (fun _=>True) (.slice (some ⟨go9,0,none⟩) Te.length co9) y105:=(by rw [hw,vJ.out];exact oR.1);clear oR;have Pb:=qa.mk (Sw);have Wb:=qa.mk ((by rw [hw];exact Aa (HB.out) GB9.out:Below w.heap.size w ri));clear Ng;clear HB;have Ng:=Pb;have HB:=Wb;clear Pb Wb;clear hg hw Sw))
        go_roundg k1
        case measure=>have:=We.out;omega
        case rel=>exact ⟨(y105),(wrap64 (Zc + 1)),(by first|rfl|(simp;done)|(simp [*];done)),H',⟨by have:=We.out;omega⟩,⟨by (with_reducible repeat (first|apply Kd.Qc|apply Kd.Pc|apply Kd.xd));exact Ng.out⟩,⟨by repeat (first|(with_reducible first|exact HB.out|apply ia|apply ja|apply za)|exact HB.out)⟩⟩
       ·rw [if_neg c8] at H
        exact absurd H (by simp)
      ·rw [if_neg c7] at H
       exact absurd H (by simp)
     ·rw [if_neg c6] at H
      have rm:decide (Zc < (l0.length:Int))=false:=decide_eq_false c6
      clear c6
      obtain rfl:=Option.some.inj H
      go_wp2
      go_ret
      exact ⟨_,by first|rfl|(simp [La,Ka] <;> rfl)|(simp [*,La,Ka] <;> rfl),by (with_reducible repeat (first|apply Kd.Qc|apply Kd.Pc|apply Kd.xd));exact Ng.out,by repeat (first|(with_reducible first|exact HB.out|apply ia|apply ja|apply za)|exact HB.out)⟩
  ·rw [if_neg c3] at H
   exact absurd H (by simp)
 ·rw [if_neg c2] at H
  exact absurd H (by simp)
end Go.Proofs.Ytmifdccaajngcaa.P
end
section
namespace Go.Proofs.Ytmifdccaajngcaa.P
open Go.RowKit Go.Proofs.Ca.xb Go.Proofs.Ca.Xb Go.Proofs.Ca.ic
attribute [local go_sem] Vd Td we ue Dd Cd Ud Sd
set_option linter.unusedVariables false
set_option linter.unusedSimpArgs false
def cj.f (Ec:Int) (Ja:Int) (Ma:Int) (Oa:Int) (fc:Int) (qd:Int) (ld:ByteArray):Option (Int × Int × Int × Int × Int × Int × ByteArray):=some (Ec,Ja,Ma,Oa,fc,qd,ld)
set_option maxHeartbeats 8000000 in
set_option maxRecDepth 100000 in
theorem cj.calls (Ec:Int) (Ja:Int) (Ma:Int) (Oa:Int) (fc:Int) (qd:Int) (ld:ByteArray) (r1:Int) (r2:Int) (r3:Int) (r4:Int) (r5:Int) (r6:Int) (r7:ByteArray) (w:World) (h:cj.f Ec Ja Ma Oa fc qd ld=some (r1,r2,r3,r4,r5,r6,r7)) :
  Calls Try.prog 129 #[.agg #[.int .i64 Ec,.int .i64 Ja,.int .i64 Ma,.int .i64 Oa,.int .i64 fc,.int .i64 qd,.string ld]] w fun e w'=>e = .returned (.agg #[.int .i64 r1,.int .i64 r2,.int .i64 r3,.int .i64 r4,.int .i64 r5,.int .i64 r6,.string r7])∧Below w.heap.size w w':=by
 have YH:=Try.underlying161
 have BA:=Try.underlying70
 have HB:=qa.mk (Below.refl w.heap.size w)
 have H:(some (Ec,Ja,Ma,Oa,fc,qd,ld))=some (r1,r2,r3,r4,r5,r6,r7):=h
 clear h
 simp only [Option.some.injEq,Prod.mk.injEq] at H
 obtain ⟨rfl,rfl,rfl,rfl,rfl,rfl,rfl⟩:=H
 go_enter Try.func129,Try.ntmps129
 go_wp2_with (first|((with_reducible refine Mb (N:=1) rfl ?_);refine Jb ?hg (N:=1) ?hd (cs:=#[.int .i64 Ec,.int .i64 Ja,.int .i64 Ma,.int .i64 Oa,.int .i64 fc,.int .i64 qd,.string ld]) (t:=161) ?hr ?_;(case hd=>rfl);(case hg=>rfl);(case hr=>first|(go_simp;done)|(go_simp;rfl));intro Fa hg w2 Qb hb;have Pb:=qa.mk (Pa (by repeat (first|(with_reducible first|exact HB.out|apply ia|apply ja|apply za)|exact HB.out)) hb);have Wb:=qa.mk (Qb);have nc:=qa.mk ((by rw [hg];exact (Na (by repeat (first|(with_reducible first|exact HB.out|apply ia|apply ja|apply za)|exact HB.out))):w.heap.size ≤ Fa));have Nc:=qa.mk ((by rw [hg];exact (Na (by repeat (first|(with_reducible first|exact HB.out|apply ia|apply ja|apply za)|exact HB.out))):w.heap.size ≤ Fa));clear HB;have HB:=Pb;have ua:=Wb;have Nd:=nc;have Va:=Nc;clear Pb Wb nc Nc;clear hb Qb hg)|((with_reducible refine Mb (N:=2) rfl ?_);refine Jb ?hg (N:=2) ?hd (cs:=#[.int .i64 0,.int .i64 0,.int .i64 0,.int .i64 0,.int .i64 0,.int .i64 0,.string (⟨#[]⟩:ByteArray)]) (t:=70) ?hr ?_;(case hd=>rfl);(case hg=>rfl);(case hr=>first|(go_simp;done)|(go_simp;rfl));intro Ia hg w3 Qb hb;have Pb:=qa.mk (Wa (g:=Fa) (o:=.cells #[.int .i64 Ec,.int .i64 Ja,.int .i64 Ma,.int .i64 Oa,.int .i64 fc,.int .i64 qd,.string ld] 161 (0,0)) (by (with_reducible repeat (first|refine Ea ?_ _|refine Ga ?_|refine Da ?_ _));exact ua.out) hb);have Wb:=qa.mk (Pa (by repeat (first|(with_reducible first|exact HB.out|apply ia|apply ja|apply za|refine Aa ?_ Va.out)|exact HB.out)) hb);have nc:=qa.mk (Qb);have Nc:=qa.mk ((by rw [hg];exact (Na (by repeat (first|(with_reducible first|exact HB.out|apply ia|apply ja|apply za|refine Aa ?_ Va.out)|exact HB.out))):w.heap.size ≤ Ia));have qe:=qa.mk ((by rw [hg];exact (Na (by repeat (first|(with_reducible first|exact HB.out|apply ia|apply ja|apply za|refine Aa ?_ Va.out)|exact HB.out))):w.heap.size ≤ Ia));have lf:=qa.mk ((by rw [hg];exact Nat.ne_of_lt (Ac (g:=Fa) (o:=.cells #[.int .i64 Ec,.int .i64 Ja,.int .i64 Ma,.int .i64 Oa,.int .i64 fc,.int .i64 qd,.string ld] 161 (0,0)) (by (with_reducible repeat (first|refine Ea ?_ _|refine Ga ?_|refine Da ?_ _));exact ua.out)):Fa ≠ Ia));have Hf:=qa.mk ((by rw [hg];exact Nat.ne_of_gt (Ac (g:=Fa) (o:=.cells #[.int .i64 Ec,.int .i64 Ja,.int .i64 Ma,.int .i64 Oa,.int .i64 fc,.int .i64 qd,.string ld] 161 (0,0)) (by (with_reducible repeat (first|refine Ea ?_ _|refine Ga ?_|refine Da ?_ _));exact ua.out)):Ia ≠ Fa));clear ua;clear HB;have ua:=Pb;have HB:=Wb;have Ba:=nc;have Je:=Nc;have Vb:=qe;have Sa:=lf;have qb:=Hf;clear Pb Wb nc Nc qe lf Hf;clear hb Qb hg)|((with_reducible refine Mb (N:=3) rfl ?_);refine Jb ?hg (N:=3) ?hd (cs:=#[.int .i64 0,.int .i64 0,.int .i64 0,.int .i64 0,.int .i64 0,.int .i64 0,.string (⟨#[]⟩:ByteArray)]) (t:=70) ?hr ?_;(case hd=>rfl);(case hg=>rfl);(case hr=>first|(go_simp;done)|(go_simp;rfl));intro Ld hg w4 Qb hb;have Pb:=qa.mk (Wa (g:=Fa) (o:=.cells #[.int .i64 Ec,.int .i64 Ja,.int .i64 Ma,.int .i64 Oa,.int .i64 fc,.int .i64 qd,.string ld] 161 (0,0)) (by (with_reducible repeat (first|refine Ea ?_ _|refine Ga ?_|refine Da ?_ _));exact ua.out) hb);have Wb:=qa.mk (Wa (g:=Ia) (o:=.cells #[.int .i64 0,.int .i64 0,.int .i64 0,.int .i64 0,.int .i64 0,.int .i64 0,.string (⟨#[]⟩:ByteArray)] 70 (0,0)) (by (with_reducible repeat (first|refine Ea ?_ _|refine Ga ?_|refine Da ?_ _));exact Ba.out) hb);have nc:=qa.mk (Pa (by repeat (first|(with_reducible first|exact HB.out|apply ia|apply ja|apply za|refine Aa ?_ Va.out|refine Aa ?_ Vb.out)|exact HB.out)) hb);have Nc:=qa.mk (Qb);have qe:=qa.mk ((by rw [hg];exact (Na (by repeat (first|(with_reducible first|exact HB.out|apply ia|apply ja|apply za|refine Aa ?_ Va.out|refine Aa ?_ Vb.out)|exact HB.out))):w.heap.size ≤ Ld));have lf:=qa.mk ((by rw [hg];exact (Na (by repeat (first|(with_reducible first|exact HB.out|apply ia|apply ja|apply za|refine Aa ?_ Va.out|refine Aa ?_ Vb.out)|exact HB.out))):w.heap.size ≤ Ld));have Hf:=qa.mk ((by rw [hg];exact Nat.ne_of_lt (Ac (g:=Fa) (o:=.cells #[.int .i64 Ec,.int .i64 Ja,.int .i64 Ma,.int .i64 Oa,.int .i64 fc,.int .i64 qd,.string ld] 161 (0,0)) (by (with_reducible repeat (first|refine Ea ?_ _|refine Ga ?_|refine Da ?_ _));exact ua.out)):Fa ≠ Ld));have lp:=qa.mk ((by rw [hg];exact Nat.ne_of_gt (Ac (g:=Fa) (o:=.cells #[.int .i64 Ec,.int .i64 Ja,.int .i64 Ma,.int .i64 Oa,.int .i64 fc,.int .i64 qd,.string ld] 161 (0,0)) (by (with_reducible repeat (first|refine Ea ?_ _|refine Ga ?_|refine Da ?_ _));exact ua.out)):Ld ≠ Fa));have gp:=qa.mk ((by rw [hg];exact Nat.ne_of_lt (Ac (g:=Ia) (o:=.cells #[.int .i64 0,.int .i64 0,.int .i64 0,.int .i64 0,.int .i64 0,.int .i64 0,.string (⟨#[]⟩:ByteArray)] 70 (0,0)) (by (with_reducible repeat (first|refine Ea ?_ _|refine Ga ?_|refine Da ?_ _));exact Ba.out)):Ia ≠ Ld));have XC:=qa.mk ((by rw [hg];exact Nat.ne_of_gt (Ac (g:=Ia) (o:=.cells #[.int .i64 0,.int .i64 0,.int .i64 0,.int .i64 0,.int .i64 0,.int .i64 0,.string (⟨#[]⟩:ByteArray)] 70 (0,0)) (by (with_reducible repeat (first|refine Ea ?_ _|refine Ga ?_|refine Da ?_ _));exact Ba.out)):Ld ≠ Ia));clear ua;clear Ba;clear HB;have ua:=Pb;have Ba:=Wb;have HB:=nc;have Vc:=Nc;have DJ:=qe;have Zg:=lf;have qf:=Hf;have Vf:=lp;have Wd:=gp;have Uf:=XC;clear Pb Wb nc Nc qe lf Hf lp gp XC;clear hb Qb hg;have Oae:=Sa.out;have Mae:=qb.out;have i_:=qf.out;have Q9:=Vf.out;have yo:w4.cell? ⟨Fa,0,none⟩=some (.int .i64 Ec):=(ga ua.out 0).trans rfl;have xo:w4.cell? ⟨Fa,1,none⟩=some (.int .i64 Ja):=(ga ua.out 1).trans rfl;have wo:w4.cell? ⟨Fa,2,none⟩=some (.int .i64 Ma):=(ga ua.out 2).trans rfl;have vo:w4.cell? ⟨Fa,3,none⟩=some (.int .i64 Oa):=(ga ua.out 3).trans rfl;have uo:w4.cell? ⟨Fa,4,none⟩=some (.int .i64 fc):=(ga ua.out 4).trans rfl;have CI:w4.cell? ⟨Fa,5,none⟩=some (.int .i64 qd):=(ga ua.out 5).trans rfl;have BI:w4.cell? ⟨Fa,6,none⟩=some (.string ld):=(ga ua.out 6).trans rfl;have fo:=aa ua.out 0;have Zn:=aa ua.out 1;have Yn:=aa ua.out 2;have Xn:=aa ua.out 3;have Wn:=aa ua.out 4;have kI:=aa ua.out 5;have jI:=aa ua.out 6;have f_:=Uf.out;have O9:=Wd.out;have cm:w4.cell? ⟨Ld,0,none⟩=some (.int .i64 0):=(ga Vc.out 0).trans rfl;have Zl:w4.cell? ⟨Ld,1,none⟩=some (.int .i64 0):=(ga Vc.out 1).trans rfl;have Yl:w4.cell? ⟨Ld,2,none⟩=some (.int .i64 0):=(ga Vc.out 2).trans rfl;have Xl:w4.cell? ⟨Ld,3,none⟩=some (.int .i64 0):=(ga Vc.out 3).trans rfl;have Wl:w4.cell? ⟨Ld,4,none⟩=some (.int .i64 0):=(ga Vc.out 4).trans rfl;have nQ:w4.cell? ⟨Ld,5,none⟩=some (.int .i64 0):=(ga Vc.out 5).trans rfl;have mQ:w4.cell? ⟨Ld,6,none⟩=some (.string (⟨#[]⟩:ByteArray)):=(ga Vc.out 6).trans rfl;have Tl:=aa Vc.out 0;have Sl:=aa Vc.out 1;have Rl:=aa Vc.out 2;have Ql:=aa Vc.out 3;have Ol:=aa Vc.out 4;have OP:=aa Vc.out 5;have NP:=aa Vc.out 6;have cn:w4.cell? ⟨Ia,0,none⟩=some (.int .i64 0):=(ga Ba.out 0).trans rfl;have bn:w4.cell? ⟨Ia,1,none⟩=some (.int .i64 0):=(ga Ba.out 1).trans rfl;have Zm:w4.cell? ⟨Ia,2,none⟩=some (.int .i64 0):=(ga Ba.out 2).trans rfl;have Ym:w4.cell? ⟨Ia,3,none⟩=some (.int .i64 0):=(ga Ba.out 3).trans rfl;have Xm:w4.cell? ⟨Ia,4,none⟩=some (.int .i64 0):=(ga Ba.out 4).trans rfl;have Nz:w4.cell? ⟨Ia,5,none⟩=some (.int .i64 0):=(ga Ba.out 5).trans rfl;have Mz:w4.cell? ⟨Ia,6,none⟩=some (.string (⟨#[]⟩:ByteArray)):=(ga Ba.out 6).trans rfl;have Om:=aa Ba.out 0;have Nm:=aa Ba.out 1;have Mm:=aa Ba.out 2;have Lm:=aa Ba.out 3;have Km:=aa Ba.out 4;have mz:=aa Ba.out 5;have kz:=aa Ba.out 6))
 refine bodyPost_ret (results_cell_row rfl _ _ Ia 70 #[.int .i64 Ec,.int .i64 Ja,.int .i64 Ma,.int .i64 Oa,.int .i64 fc,.int .i64 qd,.string ld] (0,0) _ rfl (by (with_reducible repeat (first|refine Ea ?_ _|refine Ga ?_|refine Da ?_ _));refine Db (cs:=#[.int .i64 Ec,.int .i64 Ja,.int .i64 Ma,.int .i64 Oa,.int .i64 fc,.int .i64 qd,.string (⟨#[]⟩:ByteArray)]) ?_ 6 _ rfl;(with_reducible repeat (first|refine Ea ?_ _|refine Ga ?_|refine Da ?_ _));refine Db (cs:=#[.int .i64 Ec,.int .i64 Ja,.int .i64 Ma,.int .i64 Oa,.int .i64 fc,.int .i64 0,.string (⟨#[]⟩:ByteArray)]) ?_ 5 _ rfl;(with_reducible repeat (first|refine Ea ?_ _|refine Ga ?_|refine Da ?_ _));refine Db (cs:=#[.int .i64 Ec,.int .i64 Ja,.int .i64 Ma,.int .i64 Oa,.int .i64 0,.int .i64 0,.string (⟨#[]⟩:ByteArray)]) ?_ 4 _ rfl;(with_reducible repeat (first|refine Ea ?_ _|refine Ga ?_|refine Da ?_ _));refine Db (cs:=#[.int .i64 Ec,.int .i64 Ja,.int .i64 Ma,.int .i64 0,.int .i64 0,.int .i64 0,.string (⟨#[]⟩:ByteArray)]) ?_ 3 _ rfl;(with_reducible repeat (first|refine Ea ?_ _|refine Ga ?_|refine Da ?_ _));refine Db (cs:=#[.int .i64 Ec,.int .i64 Ja,.int .i64 0,.int .i64 0,.int .i64 0,.int .i64 0,.string (⟨#[]⟩:ByteArray)]) ?_ 2 _ rfl;(with_reducible repeat (first|refine Ea ?_ _|refine Ga ?_|refine Da ?_ _));refine Db (cs:=#[.int .i64 Ec,.int .i64 0,.int .i64 0,.int .i64 0,.int .i64 0,.int .i64 0,.string (⟨#[]⟩:ByteArray)]) ?_ 1 _ rfl;(with_reducible repeat (first|refine Ea ?_ _|refine Ga ?_|refine Da ?_ _));refine Db (cs:=#[.int .i64 0,.int .i64 0,.int .i64 0,.int .i64 0,.int .i64 0,.int .i64 0,.string (⟨#[]⟩:ByteArray)]) ?_ 0 _ rfl;(with_reducible repeat (first|refine Ea ?_ _|refine Ga ?_|refine Da ?_ _));refine Rb ?_ Wd.out _;(with_reducible repeat (first|refine Ea ?_ _|refine Ga ?_|refine Da ?_ _));refine Rb ?_ Wd.out _;(with_reducible repeat (first|refine Ea ?_ _|refine Ga ?_|refine Da ?_ _));refine Rb ?_ Wd.out _;(with_reducible repeat (first|refine Ea ?_ _|refine Ga ?_|refine Da ?_ _));refine Rb ?_ Wd.out _;(with_reducible repeat (first|refine Ea ?_ _|refine Ga ?_|refine Da ?_ _));refine Rb ?_ Wd.out _;(with_reducible repeat (first|refine Ea ?_ _|refine Ga ?_|refine Da ?_ _));refine Rb ?_ Wd.out _;(with_reducible repeat (first|refine Ea ?_ _|refine Ga ?_|refine Da ?_ _));refine Rb ?_ Wd.out _;(with_reducible repeat (first|refine Ea ?_ _|refine Ga ?_|refine Da ?_ _));exact Ba.out) Try.underlying70 rfl (by kernel_rfl)) rfl ?_
 exact ⟨by first|rfl|(simp [La,Ka] <;> rfl)|(simp [*,La,Ka] <;> rfl),by repeat (first|(with_reducible first|exact HB.out|apply ia|apply ja|apply za|refine Aa ?_ Va.out|refine Aa ?_ Vb.out|refine Aa ?_ Zg.out)|exact HB.out)⟩
end Go.Proofs.Ytmifdccaajngcaa.P
end
section
namespace Go.Proofs.Ytmifdccaajngcaa.P
open Go.RowKit Go.Proofs.Ca.xb Go.Proofs.Ca.Xb Go.Proofs.Ca.ic
attribute [local go_sem] Vd Td we ue Dd Cd Ud Sd
set_option linter.unusedVariables false
set_option linter.unusedSimpArgs false
def Gc.l0:Nat→List (Dk)→List (Jh)→Int→Option ((List (Jh)))
 | 0,_,_,_=>none
 | k + 1,x0,x3,x4=>if x4 < (x0.length:Int) then (if 0 ≤ x4 then ((cj.f ((Rc x0 x4).f0) ((Rc x0 x4).f1) ((Rc x0 x4).f2) ((Rc x0 x4).f3) ((Rc x0 x4).f4) ((Rc x0 x4).f5) ((Rc x0 x4).f6)).bind fun Nn=>(if x4 < (x3.length:Int) then (Gc.l0 k x0 (x3.set (x4:Int).toNat (⟨Nn.1,Nn.2.1,Nn.2.2.1,Nn.2.2.2.1,Nn.2.2.2.2.1,Nn.2.2.2.2.2.1,Nn.2.2.2.2.2.2⟩:Jh)) (wrap64 (x4 + 1))) else (none))) else (none)) else (some x3)
def Gc.f (k:Nat) (l0:List (Dk)):Option ((List (Jh))):=if 0 ≤ (l0.length:Int) then (if ((l0.length:Int):Int).toNat ≤ 4398046511104 then (Gc.l0 k l0 (List.replicate ((l0.length:Int):Int).toNat eA) 0) else (none)) else (none)
theorem Gc.je:∀ k,(∀ y0 y1 y2,mc (Gc.l0 k y0 y1 y2) (Gc.l0 (k + 1) y0 y1 y2))
 | 0=>fun _ _ _ r h=>by simp [Gc.l0] at h
 | k + 1=>by
  have Lf:=Gc.je k
  ·intro y0 y1 y2
   unfold Gc.l0
   repeat' first
   | (with_reducible exact Lf _ _ _)
   | (with_reducible exact mc.refl _)
   | (with_reducible exact mc.none _)
   | (with_reducible refine mc.ite ?_ ?_)
   | (with_reducible refine mc.bind ?_ (fun _=>?_))
   | exact Lf _ _ _
   | exact mc.none _
   | refine mc.ite ?_ ?_
   | refine mc.bind ?_ (fun _=>?_)
theorem Gc.mono:∀ a0 k,mc (Gc.f k a0) (Gc.f (k + 1) a0):=by
 intro a0 k
 have Lf:=Gc.je k
 unfold Gc.f
 repeat' first
   | (with_reducible exact Lf _ _ _)
   | (with_reducible exact mc.refl _)
   | (with_reducible exact mc.none _)
   | (with_reducible refine mc.ite ?_ ?_)
   | (with_reducible refine mc.bind ?_ (fun _=>?_))
   | exact Lf _ _ _
   | exact mc.none _
   | refine mc.ite ?_ ?_
   | refine mc.bind ?_ (fun _=>?_)
set_option maxHeartbeats 8000000 in
set_option maxRecDepth 100000 in
theorem Gc.calls (k:Nat) (A0:Option Addr) (c0:Nat) (l0:List (Dk)) (r:List (Jh)) (w:World) (hr0:Kd.C Qw w A0 l0.length l0) (hc0:l0.length ≤ c0) (h:Gc.f k l0=some r) :
  Calls Try.prog 112 #[.slice A0 l0.length c0] w fun e w'=>∃ v0_:Value,e = .returned (v0_)∧Kd.R Ro 70 w' w.heap.size (fun _=>True) v0_ r∧Below w.heap.size w w':=by
 have YH:=Try.underlying161
 have BA:=Try.underlying70
 have Nq:=qa.mk hr0
 have fA:=qa.mk hc0
 clear hr0 hc0
 have HB:=qa.mk (Below.refl w.heap.size w)
 have H:(if 0 ≤ (l0.length:Int) then (if ((l0.length:Int):Int).toNat ≤ 4398046511104 then (Gc.l0 k l0 (List.replicate ((l0.length:Int):Int).toNat eA) 0) else (none)) else (none))=some r:=h
 clear h
 by_cases c2:0 ≤ (l0.length:Int)
 ·rw [if_pos c2] at H
  have BC:=eq_true c2
  have zC:decide (0 ≤ (l0.length:Int))=true:=decide_eq_true c2
  clear c2
  by_cases c3:((l0.length:Int):Int).toNat ≤ 4398046511104
  ·rw [if_pos c3] at H
   have Uh:=eq_true c3
   have Mq:decide (((l0.length:Int):Int).toNat ≤ 4398046511104)=true:=decide_eq_true c3
   clear c3
   obtain ⟨y101,hy101⟩:∃ y_:List (Jh),y_=(List.replicate ((l0.length:Int):Int).toNat eA):=⟨_,rfl⟩
   replace H:(Gc.l0 k l0 y101 0)=some r:=by first|(rw [hy101];with_reducible exact H)|(have Tj:=(Option.bind_some _ _).symm.trans H;rw [hy101];with_reducible exact Tj)|(have Tj:=(Option.bind_some _ _).symm.trans H;with_reducible exact Tj)|with_reducible exact H|(rw [hy101];exact H)|exact H
   have gn:=qa.mk hy101
   clear hy101
   have H':=qa.mk H
   clear H
   go_enter Try.func112,Try.ntmps112
   go_wp2_with (first|((with_reducible refine Mb (N:=7) rfl ?_);refine Kd.MC Ro _ 70 rfl (N:=7) rfl 66 _ _ rfl (l0.length:Int) rfl rfl Try.underlying66 (.agg #[(.int .i64 0),(.int .i64 0),(.int .i64 0),(.int .i64 0),(.int .i64 0),(.int .i64 0),(.string ⟨#[]⟩)]) 64 qP rfl (by decide) (by omega) eA (ok:=fun _=>True) (Uo:=fun _=>True) (bD _ _ _ eA ) (fun _ hk=>hk) trivial (of_decide_eq_true (by first|(with_reducible assumption)|assumption)) (Nat.le_trans (Nat.mul_le_mul_right _ (of_decide_eq_true (by first|(with_reducible assumption)|assumption):(l0.length:Int).toNat ≤ 4398046511104)) (by omega)) (Below.refl _ _) (Nat.le_refl _) ?_;intro qB w4 EA hb iI xp;clear iI xp;(first|rw [← gn.out] at EA|(simp only [Int.reduceToNat] at EA;rw [← gn.out] at EA));have Pb:=qa.mk (Kd.Xg EA (Na (by repeat (first|(with_reducible first|exact HB.out|apply ia|apply ja|apply za)|exact HB.out))));have Wb:=qa.mk (Pa (by repeat (first|(with_reducible first|exact HB.out|apply ia|apply ja|apply za)|exact HB.out)) hb);clear HB;have Qp:=Pb;have HB:=Wb;clear Pb Wb;clear hb EA))
   go_loopg [4] k (fun kq v4 w'=>∃ (Te:List (Jh)) (Zc:Int),v4 = .int .i64 Zc∧qa (Gc.l0 kq l0 Te Zc=some r)∧qa (kq ≤ k)∧qa (Kd.R Ro 70 w' w.heap.size (fun _=>True) qB Te)∧qa (Below w.heap.size w w'))
   case atStart=>exact ⟨(y101),(0),(by first|rfl|(simp;done)|(simp [*];done)),H',⟨Nat.le_refl _⟩,⟨by (with_reducible repeat (first|apply Kd.Qc|apply Kd.Pc|apply Kd.xd));exact Qp.out⟩,⟨by repeat (first|(with_reducible first|exact HB.out|apply ia|apply ja|apply za)|exact HB.out)⟩⟩
   case round =>
    clear H'
    try clear c1
    try clear c2
    try clear BC
    try clear zC
    try clear p2
    try clear c3
    try clear Uh
    try clear Mq
    (try clear HA)
    (try clear We)
    (try clear Ng)
    (try clear HB)
    obtain ⟨Te,Zc,rfl,HA,We,Ng,HB⟩:=hrel
    cases gk with
    | zero=>exact absurd HA.out (by simp [Gc.l0])
    | succ k1 =>
     have H:=HA.out
     clear HA
     simp only [Gc.l0] at H
     by_cases c6:Zc < (l0.length:Int)
     ·rw [if_pos c6] at H
      have rm:decide (Zc < (l0.length:Int))=true:=decide_eq_true c6
      clear c6
      by_cases c7:0 ≤ Zc
      ·rw [if_pos c7] at H
       have Wo:decide (0 ≤ Zc)=true:=decide_eq_true c7
       clear c7
       replace H:=Option.bind_eq_some_iff.mp H
       obtain ⟨⟨t105,t106,t107,t108,t109,t110,t111⟩,pG,H⟩:=H
       replace H:(if Zc < (Te.length:Int) then (Gc.l0 k1 l0 (Te.set (Zc:Int).toNat (⟨t105,t106,t107,t108,t109,t110,t111⟩:Jh)) (wrap64 (Zc + 1))) else (none))=some r:=H
       have A8:=qa.mk pG
       clear pG
       by_cases c9:Zc < (Te.length:Int)
       ·rw [if_pos c9] at H
        have xC:decide (Zc < (Te.length:Int))=true:=decide_eq_true c9
        clear c9
        obtain ⟨y112,hy112⟩:∃ y_:List (Jh),y_=(Te.set (Zc:Int).toNat (⟨t105,t106,t107,t108,t109,t110,t111⟩:Jh)):=⟨_,rfl⟩
        replace H:(Gc.l0 k1 l0 y112 (wrap64 (Zc + 1)))=some r:=by first|(rw [hy112];with_reducible exact H)|(have Tj:=(Option.bind_some _ _).symm.trans H;rw [hy112];with_reducible exact Tj)|(have Tj:=(Option.bind_some _ _).symm.trans H;with_reducible exact Tj)|with_reducible exact H|(rw [hy112];exact H)|exact H
        have dB:=qa.mk hy112
        clear hy112
        have H':=qa.mk H
        clear H
        have gr:0 ≤ (Zc:Int):=of_decide_eq_true (by first|(with_reducible assumption)|assumption)
        have dr:Zc < (l0.length:Int):=of_decide_eq_true (by first|(with_reducible assumption)|assumption)
        obtain ⟨kG,vC,Th,Tk,Vn,Un,Tn,Ky,Jy⟩:=Vz Nq.out Zc gr dr
        cases vC
        replace Th:=(HB.out.cell (World.block_lt_of_cell? w _ Th)).trans Th
        replace Tk:=(HB.out.cell (World.block_lt_of_cell? w _ Tk)).trans Tk
        replace Vn:=(HB.out.cell (World.block_lt_of_cell? w _ Vn)).trans Vn
        replace Un:=(HB.out.cell (World.block_lt_of_cell? w _ Un)).trans Un
        replace Tn:=(HB.out.cell (World.block_lt_of_cell? w _ Tn)).trans Tn
        replace Ky:=(HB.out.cell (World.block_lt_of_cell? w _ Ky)).trans Ky
        replace Jy:=(HB.out.cell (World.block_lt_of_cell? w _ Jy)).trans Jy
        replace gr:=eq_true gr
        replace dr:=eq_true dr
        go_wp2_with (first|((with_reducible refine Bb (f:=129) rfl ?_);refine jd (some 20) rfl rfl Try.func129 (by kernel_rfl) rfl #[.agg #[.int .i64 ((Rc l0 Zc).f0),.int .i64 ((Rc l0 Zc).f1),.int .i64 ((Rc l0 Zc).f2),.int .i64 ((Rc l0 Zc).f3),.int .i64 ((Rc l0 Zc).f4),.int .i64 ((Rc l0 Zc).f5),.string ((Rc l0 Zc).f6)]] rfl (by (try simp only [List.map_toArray,List.map_cons,List.map_nil]);first|done|rfl|(simp only [List.length_drop,List.length_take];rfl)) ?_;(with_reducible refine (cj.calls ((Rc l0 Zc).f0) ((Rc l0 Zc).f1) ((Rc l0 Zc).f2) ((Rc l0 Zc).f3) ((Rc l0 Zc).f4) ((Rc l0 Zc).f5) ((Rc l0 Zc).f6) t105 t106 t107 t108 t109 t110 t111 _ A8.out).mono ?_);rintro e ri ⟨rfl,hb⟩;refine ⟨_,rfl,?_⟩;have Pb:=qa.mk (Kd.Ge (by (with_reducible repeat (first|apply Kd.Qc|apply Kd.Pc|apply Kd.xd));exact Ng.out) hb);have Wb:=qa.mk (Pa (by repeat (first|(with_reducible first|exact HB.out|apply ia|apply ja|apply za)|exact HB.out)) hb);clear Ng;clear HB;have Ng:=Pb;have HB:=Wb;clear Pb Wb;(try clear hb);(try clear hb2);(try clear hk);(try clear hi);have xH:0 ≤ (Zc:Int):=of_decide_eq_true (by first|(with_reducible assumption)|assumption);have wH:(Zc:Int) < ((Te.length:Int):Int):=of_decide_eq_true (by first|(with_reducible assumption)|assumption);obtain ⟨Qg,Wt,uC,WI,uQ,Oaa,CJ⟩:=Kd.Mp Ng.out (by omega);(first|cases uC|(injection uC with ea_ en_ ec_;(first|subst ea_|(injection ea_ with ea_;subst ea_));subst ec_;clear en_));have cu:=qa.mk WI;have jab:=qa.mk CJ;clear WI uQ CJ;obtain ⟨Qaa,MI,UI,dm,Vl⟩:=Kd.Sj Ng.out eA (Zc:Int) xH wH;obtain rfl:=Ux UI;have GP:ri.cell? ⟨Qg,(Zc:Int).toNat * 7,none⟩=some (.int .i64 ((zb Te Zc).f0)):=dm 0 _ rfl;have FP:ri.cell? ⟨Qg,(Zc:Int).toNat * 7 + 1,none⟩=some (.int .i64 ((zb Te Zc).f1)):=dm 1 _ rfl;have EP:ri.cell? ⟨Qg,(Zc:Int).toNat * 7 + 2,none⟩=some (.int .i64 ((zb Te Zc).f2)):=dm 2 _ rfl;have DP:ri.cell? ⟨Qg,(Zc:Int).toNat * 7 + 3,none⟩=some (.int .i64 ((zb Te Zc).f3)):=dm 3 _ rfl;have CP:ri.cell? ⟨Qg,(Zc:Int).toNat * 7 + 4,none⟩=some (.int .i64 ((zb Te Zc).f4)):=dm 4 _ rfl;have L9:ri.cell? ⟨Qg,(Zc:Int).toNat * 7 + 5,none⟩=some (.int .i64 ((zb Te Zc).f5)):=dm 5 _ rfl;have K9:ri.cell? ⟨Qg,(Zc:Int).toNat * 7 + 6,none⟩=some (.string ((zb Te Zc).f6)):=dm 6 _ rfl;have lQ:ri.frozen? ⟨Qg,(Zc:Int).toNat * 7,none⟩=false:=Vl 0;have kQ:ri.frozen? ⟨Qg,(Zc:Int).toNat * 7 + 1,none⟩=false:=Vl 1;have jQ:ri.frozen? ⟨Qg,(Zc:Int).toNat * 7 + 2,none⟩=false:=Vl 2;have iQ:ri.frozen? ⟨Qg,(Zc:Int).toNat * 7 + 3,none⟩=false:=Vl 3;have gQ:ri.frozen? ⟨Qg,(Zc:Int).toNat * 7 + 4,none⟩=false:=Vl 4;have Z_:ri.frozen? ⟨Qg,(Zc:Int).toNat * 7 + 5,none⟩=false:=Vl 5;have Y_:ri.frozen? ⟨Qg,(Zc:Int).toNat * 7 + 6,none⟩=false:=Vl 6;clear MI dm Vl UI;replace xH:=eq_true xH;replace wH:=eq_true wH;have GN:=qa.mk (show Kd.R Ro 70 ri w.heap.size (fun _=>True) (.slice (some ⟨Qg,0,none⟩) Te.length Wt) Te from (by (with_reducible repeat (first|apply Kd.Qc|apply Kd.Pc|apply Kd.xd));exact Ng.out));obtain ⟨Paa,UF,TI,Ok,Ul⟩:=Kd.Sj GN.out eA (Zc:Int) (of_decide_eq_true (by first|(with_reducible assumption)|assumption)) (by have h_:(Zc:Int) < ((Te.length:Int):Int):=of_decide_eq_true (by first|(with_reducible assumption)|assumption);first|exact h_|(have e_:=(Kd.ee Ng.out).1;omega)|simpa using h_);obtain rfl:=Ux TI;have OC:=Kd.qu GN.out (Zc:Int) (of_decide_eq_true (by first|(with_reducible assumption)|assumption)) (by have h_:(Zc:Int) < ((Te.length:Int):Int):=of_decide_eq_true (by first|(with_reducible assumption)|assumption);first|exact h_|(have e_:=(Kd.ee Ng.out).1;omega)|simpa using h_) (seg:=[.int .i64 t105,.int .i64 t106,.int .i64 t107,.int .i64 t108,.int .i64 t109,.int .i64 t110,.string t111]) (j:=0) UF Ok (show 7 ≤ 7 from by decide) (x':=(⟨t105,t106,t107,t108,t109,t110,t111⟩:Jh)) (bD _ _ _ (⟨t105,t106,t107,t108,t109,t110,t111⟩:Jh) ) (fun _ hk=>hk);have PB:=Ok 0 _ rfl;(try simp only [show (Ro).sz=7 from rfl,Nat.mul_one,Nat.add_zero] at PB);have bC:=Ul 0;(try simp only [show (Ro).sz=7 from rfl,Nat.mul_one,Nat.add_zero] at bC);have OB:=Ok 1 _ rfl;(try simp only [show (Ro).sz=7 from rfl,Nat.mul_one,Nat.add_zero] at OB);have aC:=Ul 1;(try simp only [show (Ro).sz=7 from rfl,Nat.mul_one,Nat.add_zero] at aC);have NB:=Ok 2 _ rfl;(try simp only [show (Ro).sz=7 from rfl,Nat.mul_one,Nat.add_zero] at NB);have ZB:=Ul 2;(try simp only [show (Ro).sz=7 from rfl,Nat.mul_one,Nat.add_zero] at ZB);have MB:=Ok 3 _ rfl;(try simp only [show (Ro).sz=7 from rfl,Nat.mul_one,Nat.add_zero] at MB);have YB:=Ul 3;(try simp only [show (Ro).sz=7 from rfl,Nat.mul_one,Nat.add_zero] at YB);have LB:=Ok 4 _ rfl;(try simp only [show (Ro).sz=7 from rfl,Nat.mul_one,Nat.add_zero] at LB);have XB:=Ul 4;(try simp only [show (Ro).sz=7 from rfl,Nat.mul_one,Nat.add_zero] at XB);have BP:=Ok 5 _ rfl;(try simp only [show (Ro).sz=7 from rfl,Nat.mul_one,Nat.add_zero] at BP);have fQ:=Ul 5;(try simp only [show (Ro).sz=7 from rfl,Nat.mul_one,Nat.add_zero] at fQ);have AP:=Ok 6 _ rfl;(try simp only [show (Ro).sz=7 from rfl,Nat.mul_one,Nat.add_zero] at AP);have dQ:=Ul 6;(try simp only [show (Ro).sz=7 from rfl,Nat.mul_one,Nat.add_zero] at dQ);clear UF Ok Ul TI)|((with_reducible refine Rf (t:=70) (p:=21) rfl ?_);refine Bf (t:=70) (p:=21) (v:=?vo_w13) (w1:=(((((((ri.setCell ⟨Qg,(Zc:Int).toNat * 7,none⟩ (.int .i64 t105)).setCell ⟨Qg,(Zc:Int).toNat * 7 + 1,none⟩ (.int .i64 t106)).setCell ⟨Qg,(Zc:Int).toNat * 7 + 2,none⟩ (.int .i64 t107)).setCell ⟨Qg,(Zc:Int).toNat * 7 + 3,none⟩ (.int .i64 t108)).setCell ⟨Qg,(Zc:Int).toNat * 7 + 4,none⟩ (.int .i64 t109)).setCell ⟨Qg,(Zc:Int).toNat * 7 + 5,none⟩ (.int .i64 t110)).setCell ⟨Qg,(Zc:Int).toNat * 7 + 6,none⟩ (.string t111))) ?hg ?ho ?hn ?hr ?_;(case ho=>rfl);(case hg=>rfl);(case hn=>rfl);(case hr=>first|(go_simp;done)|(go_simp;rfl));intro sy hw;have hg:ri.grownBy sy (some Qg):=(by rw [hw];exact OC.2);have Sw:Kd.R Ro 70 sy w.heap.size (fun _=>True) (.slice (some ⟨Qg,0,none⟩) Te.length Wt) y112:=(by rw [hw,dB.out];exact OC.1);clear OC;have Pb:=qa.mk (Sw);have Wb:=qa.mk ((by rw [hw];exact Aa (Aa (Aa (Aa (Aa (Aa (Aa (HB.out) cu.out) cu.out) cu.out) cu.out) cu.out) cu.out) cu.out:Below w.heap.size w sy));clear Ng;clear HB;have Ng:=Pb;have HB:=Wb;clear Pb Wb;clear hg hw Sw))
        go_roundg k1
        case measure=>have:=We.out;omega
        case rel=>exact ⟨(y112),(wrap64 (Zc + 1)),(by first|rfl|(simp;done)|(simp [*];done)),H',⟨by have:=We.out;omega⟩,⟨by (with_reducible repeat (first|apply Kd.Qc|apply Kd.Pc|apply Kd.xd));exact Ng.out⟩,⟨by repeat (first|(with_reducible first|exact HB.out|apply ia|apply ja|apply za)|exact HB.out)⟩⟩
       ·rw [if_neg c9] at H
        exact absurd H (by simp)
      ·rw [if_neg c7] at H
       exact absurd H (by simp)
     ·rw [if_neg c6] at H
      have rm:decide (Zc < (l0.length:Int))=false:=decide_eq_false c6
      clear c6
      obtain rfl:=Option.some.inj H
      go_wp2
      go_ret
      exact ⟨_,by first|rfl|(simp [La,Ka] <;> rfl)|(simp [*,La,Ka] <;> rfl),by (with_reducible repeat (first|apply Kd.Qc|apply Kd.Pc|apply Kd.xd));exact Ng.out,by repeat (first|(with_reducible first|exact HB.out|apply ia|apply ja|apply za)|exact HB.out)⟩
  ·rw [if_neg c3] at H
   exact absurd H (by simp)
 ·rw [if_neg c2] at H
  exact absurd H (by simp)
end Go.Proofs.Ytmifdccaajngcaa.P
end
section
namespace Go.Proofs.Ytmifdccaajngcaa.P
open Go.RowKit Go.Proofs.Ca.xb Go.Proofs.Ca.Xb Go.Proofs.Ca.ic
attribute [local go_sem] Vd Td we ue Dd Cd Ud Sd
set_option linter.unusedVariables false
set_option linter.unusedSimpArgs false
def yf.f (k:Nat) (Ra:List (Dk)) (Ja:Int) (Ma:Int) (Oa:Int) (fc:Int):Option ((List (Jh)) × Int × Int × Int × Int):=(Gc.f k Ra).bind fun t104=>(some (t104,Ja,Ma,Oa,fc))
theorem yf.mono:∀ a0 a1 a2 a3 a4 k,mc (yf.f k a0 a1 a2 a3 a4) (yf.f (k + 1) a0 a1 a2 a3 a4):=by
 intro a0 a1 a2 a3 a4 k
 unfold yf.f
 repeat' first
   | (with_reducible exact Gc.mono _ _)
   | (with_reducible exact mc.refl _)
   | (with_reducible exact mc.none _)
   | (with_reducible refine mc.ite ?_ ?_)
   | (with_reducible refine mc.bind ?_ (fun _=>?_))
   | exact Gc.mono _ _
   | exact mc.none _
   | refine mc.ite ?_ ?_
   | refine mc.bind ?_ (fun _=>?_)
set_option maxHeartbeats 8000000 in
set_option maxRecDepth 100000 in
theorem yf.calls (k:Nat) (Ib:Option Addr) (Gb:Nat) (Ra:List (Dk)) (Ja:Int) (Ma:Int) (Oa:Int) (fc:Int) (r1:List (Jh)) (r2:Int) (r3:Int) (r4:Int) (r5:Int) (w:World) (zf:Kd.C Qw w Ib Ra.length Ra) (uf:Ra.length ≤ Gb) (h:yf.f k Ra Ja Ma Oa fc=some (r1,r2,r3,r4,r5)) :
  Calls Try.prog 88 #[.agg #[.slice Ib Ra.length Gb,.int .i64 Ja,.int .i64 Ma,.int .i64 Oa,.int .i64 fc]] w fun e w'=>∃ v0_:Value,e = .returned (.agg #[v0_,.int .i64 r2,.int .i64 r3,.int .i64 r4,.int .i64 r5])∧Kd.R Ro 70 w' w.heap.size (fun _=>True) v0_ r1∧Below w.heap.size w w':=by
 have ZH:=Try.underlying118
 have NG:=Try.underlying68
 have Ve:=qa.mk zf
 have gf:=qa.mk uf
 clear zf uf
 have HB:=qa.mk (Below.refl w.heap.size w)
 have H:((Gc.f k Ra).bind fun t104=>(some (t104,Ja,Ma,Oa,fc)))=some (r1,r2,r3,r4,r5):=h
 clear h
 replace H:=Option.bind_eq_some_iff.mp H
 obtain ⟨t104,QJ,H⟩:=H
 replace H:(some (t104,Ja,Ma,Oa,fc))=some (r1,r2,r3,r4,r5):=H
 have A2:=qa.mk QJ
 clear QJ
 simp only [Option.some.injEq,Prod.mk.injEq] at H
 obtain ⟨rfl,rfl,rfl,rfl,rfl⟩:=H
 go_enter Try.func88,Try.ntmps88
 go_wp2_with (first|((with_reducible refine Mb (N:=1) rfl ?_);refine Jb ?hg (N:=1) ?hd (cs:=#[.slice Ib Ra.length Gb,.int .i64 Ja,.int .i64 Ma,.int .i64 Oa,.int .i64 fc]) (t:=118) ?hr ?_;(case hd=>rfl);(case hg=>rfl);(case hr=>first|(go_simp;done)|(go_simp;rfl));intro Fa hg w3 Qb hb;have Pb:=qa.mk (Pa (by repeat (first|(with_reducible first|exact HB.out|apply ia|apply ja|apply za)|exact HB.out)) hb);have Wb:=qa.mk (Qb);have nc:=qa.mk ((by rw [hg];exact (Na (by repeat (first|(with_reducible first|exact HB.out|apply ia|apply ja|apply za)|exact HB.out))):w.heap.size ≤ Fa));have Nc:=qa.mk ((by rw [hg];exact (Na (by repeat (first|(with_reducible first|exact HB.out|apply ia|apply ja|apply za)|exact HB.out))):w.heap.size ≤ Fa));clear HB;have HB:=Pb;have ua:=Wb;have Nd:=nc;have Va:=Nc;clear Pb Wb nc Nc;clear hb Qb hg)|((with_reducible refine Mb (N:=2) rfl ?_);refine Jb ?hg (N:=2) ?hd (cs:=#[.slice none 0 0,.int .i64 0,.int .i64 0,.int .i64 0,.int .i64 0]) (t:=68) ?hr ?_;(case hd=>rfl);(case hg=>rfl);(case hr=>first|(go_simp;done)|(go_simp;rfl));intro Ia hg w4 Qb hb;have Pb:=qa.mk (Wa (g:=Fa) (o:=.cells #[.slice Ib Ra.length Gb,.int .i64 Ja,.int .i64 Ma,.int .i64 Oa,.int .i64 fc] 118 (0,0)) (by (with_reducible repeat (first|refine Ea ?_ _|refine Ga ?_|refine Da ?_ _));exact ua.out) hb);have Wb:=qa.mk (Pa (by repeat (first|(with_reducible first|exact HB.out|apply ia|apply ja|apply za|refine Aa ?_ Va.out)|exact HB.out)) hb);have nc:=qa.mk (Qb);have Nc:=qa.mk ((by rw [hg];exact (Na (by repeat (first|(with_reducible first|exact HB.out|apply ia|apply ja|apply za|refine Aa ?_ Va.out)|exact HB.out))):w.heap.size ≤ Ia));have qe:=qa.mk ((by rw [hg];exact (Na (by repeat (first|(with_reducible first|exact HB.out|apply ia|apply ja|apply za|refine Aa ?_ Va.out)|exact HB.out))):w.heap.size ≤ Ia));have lf:=qa.mk ((by rw [hg];exact Nat.ne_of_lt (Ac (g:=Fa) (o:=.cells #[.slice Ib Ra.length Gb,.int .i64 Ja,.int .i64 Ma,.int .i64 Oa,.int .i64 fc] 118 (0,0)) (by (with_reducible repeat (first|refine Ea ?_ _|refine Ga ?_|refine Da ?_ _));exact ua.out)):Fa ≠ Ia));have Hf:=qa.mk ((by rw [hg];exact Nat.ne_of_gt (Ac (g:=Fa) (o:=.cells #[.slice Ib Ra.length Gb,.int .i64 Ja,.int .i64 Ma,.int .i64 Oa,.int .i64 fc] 118 (0,0)) (by (with_reducible repeat (first|refine Ea ?_ _|refine Ga ?_|refine Da ?_ _));exact ua.out)):Ia ≠ Fa));clear ua;clear HB;have ua:=Pb;have HB:=Wb;have Ba:=nc;have Je:=Nc;have Vb:=qe;have Sa:=lf;have qb:=Hf;clear Pb Wb nc Nc qe lf Hf;clear hb Qb hg)|((with_reducible refine Mb (N:=3) rfl ?_);refine Jb ?hg (N:=3) ?hd (cs:=#[.slice none 0 0,.int .i64 0,.int .i64 0,.int .i64 0,.int .i64 0]) (t:=68) ?hr ?_;(case hd=>rfl);(case hg=>rfl);(case hr=>first|(go_simp;done)|(go_simp;rfl));intro Ld hg w5 Qb hb;have Pb:=qa.mk (Wa (g:=Fa) (o:=.cells #[.slice Ib Ra.length Gb,.int .i64 Ja,.int .i64 Ma,.int .i64 Oa,.int .i64 fc] 118 (0,0)) (by (with_reducible repeat (first|refine Ea ?_ _|refine Ga ?_|refine Da ?_ _));exact ua.out) hb);have Wb:=qa.mk (Wa (g:=Ia) (o:=.cells #[.slice none 0 0,.int .i64 0,.int .i64 0,.int .i64 0,.int .i64 0] 68 (0,0)) (by (with_reducible repeat (first|refine Ea ?_ _|refine Ga ?_|refine Da ?_ _));exact Ba.out) hb);have nc:=qa.mk (Pa (by repeat (first|(with_reducible first|exact HB.out|apply ia|apply ja|apply za|refine Aa ?_ Va.out|refine Aa ?_ Vb.out)|exact HB.out)) hb);have Nc:=qa.mk (Qb);have qe:=qa.mk ((by rw [hg];exact (Na (by repeat (first|(with_reducible first|exact HB.out|apply ia|apply ja|apply za|refine Aa ?_ Va.out|refine Aa ?_ Vb.out)|exact HB.out))):w.heap.size ≤ Ld));have lf:=qa.mk ((by rw [hg];exact (Na (by repeat (first|(with_reducible first|exact HB.out|apply ia|apply ja|apply za|refine Aa ?_ Va.out|refine Aa ?_ Vb.out)|exact HB.out))):w.heap.size ≤ Ld));have Hf:=qa.mk ((by rw [hg];exact Nat.ne_of_lt (Ac (g:=Fa) (o:=.cells #[.slice Ib Ra.length Gb,.int .i64 Ja,.int .i64 Ma,.int .i64 Oa,.int .i64 fc] 118 (0,0)) (by (with_reducible repeat (first|refine Ea ?_ _|refine Ga ?_|refine Da ?_ _));exact ua.out)):Fa ≠ Ld));have lp:=qa.mk ((by rw [hg];exact Nat.ne_of_gt (Ac (g:=Fa) (o:=.cells #[.slice Ib Ra.length Gb,.int .i64 Ja,.int .i64 Ma,.int .i64 Oa,.int .i64 fc] 118 (0,0)) (by (with_reducible repeat (first|refine Ea ?_ _|refine Ga ?_|refine Da ?_ _));exact ua.out)):Ld ≠ Fa));have gp:=qa.mk ((by rw [hg];exact Nat.ne_of_lt (Ac (g:=Ia) (o:=.cells #[.slice none 0 0,.int .i64 0,.int .i64 0,.int .i64 0,.int .i64 0] 68 (0,0)) (by (with_reducible repeat (first|refine Ea ?_ _|refine Ga ?_|refine Da ?_ _));exact Ba.out)):Ia ≠ Ld));have XC:=qa.mk ((by rw [hg];exact Nat.ne_of_gt (Ac (g:=Ia) (o:=.cells #[.slice none 0 0,.int .i64 0,.int .i64 0,.int .i64 0,.int .i64 0] 68 (0,0)) (by (with_reducible repeat (first|refine Ea ?_ _|refine Ga ?_|refine Da ?_ _));exact Ba.out)):Ld ≠ Ia));clear ua;clear Ba;clear HB;have ua:=Pb;have Ba:=Wb;have HB:=nc;have Vc:=Nc;have DJ:=qe;have Zg:=lf;have qf:=Hf;have Vf:=lp;have Wd:=gp;have Uf:=XC;clear Pb Wb nc Nc qe lf Hf lp gp XC;clear hb Qb hg;have i_:=Sa.out;have Q9:=qb.out;have g_:=qf.out;have P9:=Vf.out;have iC:w5.cell? ⟨Fa,0,none⟩=some (.slice Ib Ra.length Gb):=(ga ua.out 0).trans rfl;have gC:w5.cell? ⟨Fa,1,none⟩=some (.int .i64 Ja):=(ga ua.out 1).trans rfl;have fC:w5.cell? ⟨Fa,2,none⟩=some (.int .i64 Ma):=(ga ua.out 2).trans rfl;have eC:w5.cell? ⟨Fa,3,none⟩=some (.int .i64 Oa):=(ga ua.out 3).trans rfl;have cC:w5.cell? ⟨Fa,4,none⟩=some (.int .i64 fc):=(ga ua.out 4).trans rfl;have VB:=aa ua.out 0;have UB:=aa ua.out 1;have TB:=aa ua.out 2;have SB:=aa ua.out 3;have RB:=aa ua.out 4)|((with_reducible refine Bb (f:=112) rfl ?_);refine jd (some 6) rfl rfl Try.func112 (by kernel_rfl) rfl #[.slice Ib Ra.length Gb] rfl (by (try simp only [List.map_toArray,List.map_cons,List.map_nil]);first|done|rfl|(simp only [List.length_drop,List.length_take];rfl)) ?_;(with_reducible refine (Gc.calls k _ _ Ra t104 _ ?side1 ?side2 A2.out).mono ?_);(case side1=>repeat (first|exact (Kd.Yb Ve.out HB.out)|(with_reducible refine Kd.yc ?_ _)|(with_reducible refine Kd.uc ?_ _)|(with_reducible refine Kd.Sc ?_)));(case side2=>exact gf.out);rintro e w9 ⟨dP,rfl,Vo,hb⟩;refine ⟨_,rfl,?_⟩;have Pb:=qa.mk (Kd.Xg Vo (Na (by repeat (first|(with_reducible first|exact HB.out|apply ia|apply ja|apply za|refine Aa ?_ Va.out|refine Aa ?_ Vb.out|refine Aa ?_ Zg.out)|exact HB.out))));have Wb:=qa.mk (Wa (g:=Fa) (o:=.cells #[.slice Ib Ra.length Gb,.int .i64 Ja,.int .i64 Ma,.int .i64 Oa,.int .i64 fc] 118 (0,0)) (by (with_reducible repeat (first|refine Ea ?_ _|refine Ga ?_|refine Da ?_ _));exact ua.out) hb);have nc:=qa.mk (Wa (g:=Ia) (o:=.cells #[.slice none 0 0,.int .i64 0,.int .i64 0,.int .i64 0,.int .i64 0] 68 (0,0)) (by (with_reducible repeat (first|refine Ea ?_ _|refine Ga ?_|refine Da ?_ _));exact Ba.out) hb);have Nc:=qa.mk (Wa (g:=Ld) (o:=.cells #[.slice none 0 0,.int .i64 0,.int .i64 0,.int .i64 0,.int .i64 0] 68 (0,0)) (by (with_reducible repeat (first|refine Ea ?_ _|refine Ga ?_|refine Da ?_ _));exact Vc.out) hb);have qe:=qa.mk (Pa (by repeat (first|(with_reducible first|exact HB.out|apply ia|apply ja|apply za|refine Aa ?_ Va.out|refine Aa ?_ Vb.out|refine Aa ?_ Zg.out)|exact HB.out)) hb);clear ua;clear Ba;clear Vc;clear HB;have Pp:=Pb;have ua:=Wb;have Ba:=nc;have Vc:=Nc;have HB:=qe;clear Pb Wb nc Nc qe;(try clear hb);(try clear hb2);(try clear hk);(try clear hi);(try clear Vo);obtain ⟨QC,Wt,uC⟩:=Kd.mh Pp.out;subst uC;have RS:=Uf.out;have tS:=Wd.out;have xw:w9.cell? ⟨Ld,0,none⟩=some (.slice none 0 0):=(ga Vc.out 0).trans rfl;have vw:w9.cell? ⟨Ld,1,none⟩=some (.int .i64 0):=(ga Vc.out 1).trans rfl;have uw:w9.cell? ⟨Ld,2,none⟩=some (.int .i64 0):=(ga Vc.out 2).trans rfl;have tw:w9.cell? ⟨Ld,3,none⟩=some (.int .i64 0):=(ga Vc.out 3).trans rfl;have sw:w9.cell? ⟨Ld,4,none⟩=some (.int .i64 0):=(ga Vc.out 4).trans rfl;have Gv:=aa Vc.out 0;have Fv:=aa Vc.out 1;have Dv:=aa Vc.out 2;have Cv:=aa Vc.out 3;have Bv:=aa Vc.out 4;have Lj:w9.cell? ⟨Fa,0,none⟩=some (.slice Ib Ra.length Gb):=(ga ua.out 0).trans rfl;have Kj:w9.cell? ⟨Fa,1,none⟩=some (.int .i64 Ja):=(ga ua.out 1).trans rfl;have Gq:w9.cell? ⟨Fa,2,none⟩=some (.int .i64 Ma):=(ga ua.out 2).trans rfl;have Fq:w9.cell? ⟨Fa,3,none⟩=some (.int .i64 Oa):=(ga ua.out 3).trans rfl;have Dq:w9.cell? ⟨Fa,4,none⟩=some (.int .i64 fc):=(ga ua.out 4).trans rfl;have Jj:=aa ua.out 0;have Ij:=aa ua.out 1;have pq:=aa ua.out 2;have oq:=aa ua.out 3;have mq:=aa ua.out 4;have Gl:w9.cell? ⟨Ia,0,none⟩=some (.slice none 0 0):=(ga Ba.out 0).trans rfl;have Fl:w9.cell? ⟨Ia,1,none⟩=some (.int .i64 0):=(ga Ba.out 1).trans rfl;have Wm:w9.cell? ⟨Ia,2,none⟩=some (.int .i64 0):=(ga Ba.out 2).trans rfl;have Vm:w9.cell? ⟨Ia,3,none⟩=some (.int .i64 0):=(ga Ba.out 3).trans rfl;have Um:w9.cell? ⟨Ia,4,none⟩=some (.int .i64 0):=(ga Ba.out 4).trans rfl;have El:=aa Ba.out 0;have Dl:=aa Ba.out 1;have Jm:=aa Ba.out 2;have Im:=aa Ba.out 3;have Gm:=aa Ba.out 4))
 refine bodyPost_ret (results_cell_row rfl _ _ Ia 68 #[.slice QC t104.length Wt,.int .i64 Ja,.int .i64 Ma,.int .i64 Oa,.int .i64 fc] (0,0) _ rfl (by (with_reducible repeat (first|refine Ea ?_ _|refine Ga ?_|refine Da ?_ _));refine Db (cs:=#[.slice QC t104.length Wt,.int .i64 Ja,.int .i64 Ma,.int .i64 Oa,.int .i64 0]) ?_ 4 _ rfl;(with_reducible repeat (first|refine Ea ?_ _|refine Ga ?_|refine Da ?_ _));refine Db (cs:=#[.slice QC t104.length Wt,.int .i64 Ja,.int .i64 Ma,.int .i64 0,.int .i64 0]) ?_ 3 _ rfl;(with_reducible repeat (first|refine Ea ?_ _|refine Ga ?_|refine Da ?_ _));refine Db (cs:=#[.slice QC t104.length Wt,.int .i64 Ja,.int .i64 0,.int .i64 0,.int .i64 0]) ?_ 2 _ rfl;(with_reducible repeat (first|refine Ea ?_ _|refine Ga ?_|refine Da ?_ _));refine Db (cs:=#[.slice QC t104.length Wt,.int .i64 0,.int .i64 0,.int .i64 0,.int .i64 0]) ?_ 1 _ rfl;(with_reducible repeat (first|refine Ea ?_ _|refine Ga ?_|refine Da ?_ _));refine Db (cs:=#[.slice none 0 0,.int .i64 0,.int .i64 0,.int .i64 0,.int .i64 0]) ?_ 0 _ rfl;(with_reducible repeat (first|refine Ea ?_ _|refine Ga ?_|refine Da ?_ _));refine Rb ?_ Wd.out _;(with_reducible repeat (first|refine Ea ?_ _|refine Ga ?_|refine Da ?_ _));refine Rb ?_ Wd.out _;(with_reducible repeat (first|refine Ea ?_ _|refine Ga ?_|refine Da ?_ _));refine Rb ?_ Wd.out _;(with_reducible repeat (first|refine Ea ?_ _|refine Ga ?_|refine Da ?_ _));refine Rb ?_ Wd.out _;(with_reducible repeat (first|refine Ea ?_ _|refine Ga ?_|refine Da ?_ _));refine Rb ?_ Wd.out _;(with_reducible repeat (first|refine Ea ?_ _|refine Ga ?_|refine Da ?_ _));exact Ba.out) Try.underlying68 rfl (by kernel_rfl)) rfl ?_
 exact ⟨_,by first|rfl|(simp [La,Ka] <;> rfl)|(simp [*,La,Ka] <;> rfl),by (with_reducible repeat (first|apply Kd.Qc|apply Kd.Pc|apply Kd.xd));exact Kd.ke (Kd.He (p:=⟨Ia,4,none⟩) (Kd.He (p:=⟨Ia,3,none⟩) (Kd.He (p:=⟨Ia,2,none⟩) (Kd.He (p:=⟨Ia,1,none⟩) (Kd.He (p:=⟨Ia,0,none⟩) (Kd.He (p:=⟨Ld,4,none⟩) (Kd.He (p:=⟨Ld,3,none⟩) (Kd.He (p:=⟨Ld,2,none⟩) (Kd.He (p:=⟨Ld,1,none⟩) (Kd.He (p:=⟨Ld,0,none⟩) (Kd.Rj (Kd.Rj Pp.out Vc.out (by decide)) Ba.out (by decide)) (fun _ hk=>hk.1.2) (.slice QC t104.length Wt)) (fun _ hk=>hk.1.2) (.int .i64 Ja)) (fun _ hk=>hk.1.2) (.int .i64 Ma)) (fun _ hk=>hk.1.2) (.int .i64 Oa)) (fun _ hk=>hk.1.2) (.int .i64 fc)) (fun _ hk=>hk.2) (.slice QC t104.length Wt)) (fun _ hk=>hk.2) (.int .i64 Ja)) (fun _ hk=>hk.2) (.int .i64 Ma)) (fun _ hk=>hk.2) (.int .i64 Oa)) (fun _ hk=>hk.2) (.int .i64 fc)) (fun _ hk=>trivial),by repeat (first|(with_reducible first|exact HB.out|apply ia|apply ja|apply za|refine Aa ?_ Va.out|refine Aa ?_ Vb.out|refine Aa ?_ Zg.out)|exact HB.out)⟩
end Go.Proofs.Ytmifdccaajngcaa.P
end
