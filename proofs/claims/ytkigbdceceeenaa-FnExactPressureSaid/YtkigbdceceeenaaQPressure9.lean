import Derived.Test.YtkigbdceceeenaaQPressure1
import Derived.Test.YtkigbdceceeenaaQPressure8
set_option maxHeartbeats 8000000
set_option maxRecDepth 100000
section
namespace Go.Proofs.Ytkigbdceceeenaa.P
open Go.RowKit Go.Proofs.Oa.Wb Go.Proofs.Oa.Vd Go.Proofs.Oa.Xe
set_option linter.unusedVariables false
set_option linter.unusedSimpArgs false
attribute [local go_sem] bh Gh Ki Cj Mg Lg Hh Fh
mutual
def dc.j0:Nat→Bool→List Int→Int→Int→Int→List (Ce)→Option (Bool)
 | 0,_,_,_,_,_,_=>none
 | k + 1,x29,fc,Gc,nc,mc,Kb=>if x29=true then (some false) else (dc.l0 k 0 Kb (Kb.length:Int) 0 fc Gc nc mc Kb)
def dc.l0:Nat→Int→List (Ce)→Int→Int→List Int→Int→Int→Int→List (Ce)→Option (Bool)
 | 0,_,_,_,_,_,_,_,_,_=>none
 | k + 1,x3,oW,x32,vS,fc,Gc,nc,mc,Kb=>if vS < x32 then (if 0 ≤ vS then (if vS < (oW.length:Int) then ((Rh.f fc Gc nc mc Kb ((Aa oW vS).f0) ((Aa oW vS).f1) ((Aa oW vS).f2) ((Aa oW vS).f3) ((Aa oW vS).f4)).bind fun t107=>(if t107=true then (dc.l0 k (wrap64 (x3 + (((Aa oW vS).f0).length:Int))) oW x32 (wrap64 (vS + 1)) fc Gc nc mc Kb) else (some false))) else (none)) else (none)) else (some (decide (x3 ≤ 1000)))
end
def dc.f (k:Nat) (Pa:List Int) (Ka:Int) (Ga:Int) (Ia:Int) (Da:List (Ce)):Option (Bool):=(cg.f Pa Ka Ga ([]:List (Kz))).bind fun t102=>(if t102=true then ((Dg.f Ia Ga 1000).bind fun t103=>(if t103=true then ((Dg.f (Da.length:Int) 1 300).bind fun t104=>(dc.j0 k (!t104) Pa Ka Ga Ia Da)) else (dc.j0 k true Pa Ka Ga Ia Da))) else (dc.j0 k true Pa Ka Ga Ia Da))
theorem dc.calls (k:Nat) (Ya:Option Addr) (Za:Nat) (Pa:List Int) (Ka:Int) (Ga:Int) (Ia:Int) (Vb:Option Addr) (Jb:Nat) (Da:List (Ce)) (r:Bool) (w:World) (Wd:Kd.C (Kd.int .i64) w Ya Pa.length Pa) (Sd:Pa.length ≤ Za) (zf:Kd.C Mt w Vb Da.length Da) (uf:Da.length ≤ Jb) (h:dc.f k Pa Ka Ga Ia Da=some r) :
  Calls Try.prog 46 #[.agg #[.slice Ya Pa.length Za,.int .i64 Ka,.int .i64 Ga,.int .i64 Ia,.slice Vb Da.length Jb]] w fun e w'=>e = .returned (.bool r)∧Below w.heap.size w w':=by
 have LD:=Try.underlying30;have Fap:=Try.underlying95;have mz:=Try.underlying59;have qe:=ja.mk Wd;have Be:=ja.mk Sd;clear Wd Sd;have Hf:=ja.mk zf;have Tg:=ja.mk uf;clear zf uf;have HB:=ja.mk (Below.refl w.heap.size w);have H:((cg.f Pa Ka Ga ([]:List (Kz))).bind fun t102=>(if t102=true then ((Dg.f Ia Ga 1000).bind fun t103=>(if t103=true then ((Dg.f (Da.length:Int) 1 300).bind fun t104=>(dc.j0 k (!t104) Pa Ka Ga Ia Da)) else (dc.j0 k true Pa Ka Ga Ia Da))) else (dc.j0 k true Pa Ka Ga Ia Da)))=some r:=h;clear h;have kS:=ja.mk H;clear H;go_enter Try.func46,Try.ntmps46
 go_upto_region 1 with (first|((with_reducible refine yb (N:=1) rfl ?_);(try (refine xg (by rfl) ?_;dsimp only));refine Gb ?hg (N:=1) ?hd (cs:=#[.slice Ya Pa.length Za,.int .i64 Ka,.int .i64 Ga,.int .i64 Ia,.slice Vb Da.length Jb]) (t:=30) ?hr ?_;(case hd=>rfl);(case hg=>rfl);(case hr=>first|(go_simp;done)|(go_simp;rfl));intro ya hg w3 Qb hb;have Fb:=ja.mk (Qa (by repeat (first|(with_reducible first|exact HB.out|apply qa|apply ia|apply ta)|exact HB.out)) hb);have Ib:=ja.mk (Qb);have Sb:=ja.mk ((by rw [hg];exact (Fa (by repeat (first|(with_reducible first|exact HB.out|apply qa|apply ia|apply ta)|exact HB.out))):w.heap.size ≤ ya));have Ec:=ja.mk ((by rw [hg];exact (Fa (by repeat (first|(with_reducible first|exact HB.out|apply qa|apply ia|apply ta)|exact HB.out))):w.heap.size ≤ ya));clear HB;have HB:=Fb;have oa:=Ib;have yd:=Sb;have Sa:=Ec;clear Fb Ib Sb Ec hb Qb hg))
 (try simp only [Act.put,List.setIfInBounds_toArray,List.set_cons_zero,List.set_cons_succ])
 go_cut [29] (fun v29 wc=>∃ (kq:Nat) (IK:Bool),v29 = .bool IK∧ja (dc.j0 kq IK Pa Ka Ga Ia Da=some r)∧ja (kq ≤ k)∧ja (wc.heap[ya]? = some (.cells #[(.slice Ya Pa.length Za),.int .i64 Ka,.int .i64 Ga,.int .i64 Ia,(.slice Vb Da.length Jb)] 30 (0,0)))∧ja (Below w.heap.size w wc))
 case first =>
  have H:=kS.out;clear kS;replace H:=Option.bind_eq_some_iff.mp H;obtain ⟨t102,oS,H⟩:=H;replace H:(if t102=true then ((Dg.f Ia Ga 1000).bind fun t103=>(if t103=true then ((Dg.f (Da.length:Int) 1 300).bind fun t104=>(dc.j0 k (!t104) Pa Ka Ga Ia Da)) else (dc.j0 k true Pa Ka Ga Ia Da))) else (dc.j0 k true Pa Ka Ga Ia Da))=some r:=H;have A4:=ja.mk oS;clear oS
  by_cases c5:t102=true
  ·subst c5;have H1:((Dg.f Ia Ga 1000).bind fun t103=>(if t103=true then ((Dg.f (Da.length:Int) 1 300).bind fun t104=>(dc.j0 k (!t104) Pa Ka Ga Ia Da)) else (dc.j0 k true Pa Ka Ga Ia Da)))=some r:=by rw [if_pos rfl] at H;exact H
   clear H;have H:=H1;clear H1;replace H:=Option.bind_eq_some_iff.mp H;obtain ⟨t103,yX,H⟩:=H;replace H:(if t103=true then ((Dg.f (Da.length:Int) 1 300).bind fun t104=>(dc.j0 k (!t104) Pa Ka Ga Ia Da)) else (dc.j0 k true Pa Ka Ga Ia Da))=some r:=H;have A6:=ja.mk yX;clear yX
   by_cases c7:t103=true
   ·subst c7;have H1:((Dg.f (Da.length:Int) 1 300).bind fun t104=>(dc.j0 k (!t104) Pa Ka Ga Ia Da))=some r:=by rw [if_pos rfl] at H;exact H
    clear H;have H:=H1;clear H1;replace H:=Option.bind_eq_some_iff.mp H;obtain ⟨t104,oO,H⟩:=H;replace H:(dc.j0 k (!t104) Pa Ka Ga Ia Da)=some r:=H;have A8:=ja.mk oO;clear oO;have H':=ja.mk H;clear H;have Vl:w3.cell? ⟨ya,0,none⟩=some (.slice Ya Pa.length Za):=(ga oa.out 0).trans rfl;have Ul:w3.cell? ⟨ya,1,none⟩=some (.int .i64 Ka):=(ga oa.out 1).trans rfl;have Tl:w3.cell? ⟨ya,2,none⟩=some (.int .i64 Ga):=(ga oa.out 2).trans rfl;have Sl:w3.cell? ⟨ya,3,none⟩=some (.int .i64 Ia):=(ga oa.out 3).trans rfl;have Rl:w3.cell? ⟨ya,4,none⟩=some (.slice Vb Da.length Jb):=(ga oa.out 4).trans rfl;have Ql:=aa oa.out 0;have Ol:=aa oa.out 1;have Nl:=aa oa.out 2;have Ml:=aa oa.out 3;have Ll:=aa oa.out 4;go_wp2_with (first|((with_reducible refine jb (f:=76) rfl ?_);refine Fc (some 13) rfl rfl Try.func76 (by kernel_rfl) rfl #[.agg #[.slice Ya Pa.length Za,.int .i64 Ka,.int .i64 Ga,.slice none 0 0]] rfl (by (try simp only [List.map_toArray,List.map_cons,List.map_nil]);first|done|rfl|(simp only [List.length_drop,List.length_take];rfl)) ?_;(refine (cg.calls _ _ Pa Ka Ga _ _ ([]:List (Kz)) true _ ?yc ?uc ?ud ?td A4.out).mono ?_);(case yc=>repeat (first|exact (Kd.Ob qe.out HB.out)|(with_reducible refine Kd.Pb ?_ _)|(with_reducible refine Kd.Nb ?_ _)|(with_reducible refine Kd.Zb ?_)));(case uc=>exact Be.out);(case ud=>exact Kd.nO _ _);(case td=>exact Nat.le_refl _);rintro e Lt ⟨rfl,hb⟩;refine ⟨_,rfl,?_⟩;have Fb:=ja.mk (Ua (g:=ya) (o:=.cells #[.slice Ya Pa.length Za,.int .i64 Ka,.int .i64 Ga,.int .i64 Ia,.slice Vb Da.length Jb] 30 (0,0)) (by (with_reducible repeat (first|refine Ba ?_ _|refine Ea ?_|refine Ca ?_ _));exact oa.out) hb);have Ib:=ja.mk (Qa (by repeat (first|(with_reducible first|exact HB.out|apply qa|apply ia|apply ta|refine ua ?_ Sa.out)|exact HB.out)) hb);clear oa HB;have oa:=Fb;have HB:=Ib;clear Fb Ib;(try clear hb);(try clear Hi);(try clear hk);(try clear hi);have Xs:Lt.cell? ⟨ya,0,none⟩=some (.slice Ya Pa.length Za):=(ga oa.out 0).trans rfl;have Ws:Lt.cell? ⟨ya,1,none⟩=some (.int .i64 Ka):=(ga oa.out 1).trans rfl;have Vs:Lt.cell? ⟨ya,2,none⟩=some (.int .i64 Ga):=(ga oa.out 2).trans rfl;have Us:Lt.cell? ⟨ya,3,none⟩=some (.int .i64 Ia):=(ga oa.out 3).trans rfl;have Ts:Lt.cell? ⟨ya,4,none⟩=some (.slice Vb Da.length Jb):=(ga oa.out 4).trans rfl;have Tr:=aa oa.out 0;have Sr:=aa oa.out 1;have Qr:=aa oa.out 2;have Pr:=aa oa.out 3;have Nr:=aa oa.out 4)|(go_at_call 55;(with_reducible refine (Dg.calls Ia Ga 1000 true _ A6.out).mono ?_);rintro e w' ⟨rfl,⟨nd,rfl⟩⟩)|(go_at_call 55;(with_reducible refine (Dg.calls (Da.length:Int) 1 300 t104 _ A8.out).mono ?_);rintro e w' ⟨rfl,⟨nd,rfl⟩⟩))
    go_meet
    case rel=>exact ⟨_,(!t104),(by first|rfl|(simp;done)|(simp [*];done)),H',⟨by first|omega|exact Nat.le_refl _⟩,⟨by (with_reducible repeat (first|refine Ba ?_ _|refine Ea ?_|refine Ca ?_ _));exact oa.out⟩,⟨by repeat (first|(with_reducible first|exact HB.out|apply qa|apply ia|apply ta|refine ua ?_ Sa.out)|exact HB.out)⟩⟩
   ·replace c7:=Bool.eq_false_iff.mpr c7;subst c7;have H1:(dc.j0 k true Pa Ka Ga Ia Da)=some r:=by rw [if_neg (show ¬ (false=true) by decide)] at H;exact H
    clear H;have H:=H1;clear H1;have H':=ja.mk H;clear H;have Sp:w3.cell? ⟨ya,0,none⟩=some (.slice Ya Pa.length Za):=(ga oa.out 0).trans rfl;have Rp:w3.cell? ⟨ya,1,none⟩=some (.int .i64 Ka):=(ga oa.out 1).trans rfl;have Qp:w3.cell? ⟨ya,2,none⟩=some (.int .i64 Ga):=(ga oa.out 2).trans rfl;have Pp:w3.cell? ⟨ya,3,none⟩=some (.int .i64 Ia):=(ga oa.out 3).trans rfl;have Np:w3.cell? ⟨ya,4,none⟩=some (.slice Vb Da.length Jb):=(ga oa.out 4).trans rfl;have Hp:=aa oa.out 0;have Gp:=aa oa.out 1;have Fp:=aa oa.out 2;have Ep:=aa oa.out 3;have Dp:=aa oa.out 4;go_wp2_with (first|((with_reducible refine jb (f:=76) rfl ?_);refine Fc (some 13) rfl rfl Try.func76 (by kernel_rfl) rfl #[.agg #[.slice Ya Pa.length Za,.int .i64 Ka,.int .i64 Ga,.slice none 0 0]] rfl (by (try simp only [List.map_toArray,List.map_cons,List.map_nil]);first|done|rfl|(simp only [List.length_drop,List.length_take];rfl)) ?_;(refine (cg.calls _ _ Pa Ka Ga _ _ ([]:List (Kz)) true _ ?yc ?uc ?ud ?td A4.out).mono ?_);(case yc=>repeat (first|exact (Kd.Ob qe.out HB.out)|(with_reducible refine Kd.Pb ?_ _)|(with_reducible refine Kd.Nb ?_ _)|(with_reducible refine Kd.Zb ?_)));(case uc=>exact Be.out);(case ud=>exact Kd.nO _ _);(case td=>exact Nat.le_refl _);rintro e qv ⟨rfl,hb⟩;refine ⟨_,rfl,?_⟩;have Fb:=ja.mk (Ua (g:=ya) (o:=.cells #[.slice Ya Pa.length Za,.int .i64 Ka,.int .i64 Ga,.int .i64 Ia,.slice Vb Da.length Jb] 30 (0,0)) (by (with_reducible repeat (first|refine Ba ?_ _|refine Ea ?_|refine Ca ?_ _));exact oa.out) hb);have Ib:=ja.mk (Qa (by repeat (first|(with_reducible first|exact HB.out|apply qa|apply ia|apply ta|refine ua ?_ Sa.out)|exact HB.out)) hb);clear oa HB;have oa:=Fb;have HB:=Ib;clear Fb Ib;(try clear hb);(try clear Hi);(try clear hk);(try clear hi);have ij:qv.cell? ⟨ya,0,none⟩=some (.slice Ya Pa.length Za):=(ga oa.out 0).trans rfl;have gj:qv.cell? ⟨ya,1,none⟩=some (.int .i64 Ka):=(ga oa.out 1).trans rfl;have fj:qv.cell? ⟨ya,2,none⟩=some (.int .i64 Ga):=(ga oa.out 2).trans rfl;have ej:qv.cell? ⟨ya,3,none⟩=some (.int .i64 Ia):=(ga oa.out 3).trans rfl;have cj:qv.cell? ⟨ya,4,none⟩=some (.slice Vb Da.length Jb):=(ga oa.out 4).trans rfl;have aj:=aa oa.out 0;have Zi:=aa oa.out 1;have Yi:=aa oa.out 2;have Xi:=aa oa.out 3;have Wi:=aa oa.out 4)|(go_at_call 55;(with_reducible refine (Dg.calls Ia Ga 1000 false _ A6.out).mono ?_);rintro e w' ⟨rfl,⟨nd,rfl⟩⟩))
    go_meet
    case rel=>exact ⟨_,(true),(by first|rfl|(simp;done)|(simp [*];done)),H',⟨by first|omega|exact Nat.le_refl _⟩,⟨by (with_reducible repeat (first|refine Ba ?_ _|refine Ea ?_|refine Ca ?_ _));exact oa.out⟩,⟨by repeat (first|(with_reducible first|exact HB.out|apply qa|apply ia|apply ta|refine ua ?_ Sa.out)|exact HB.out)⟩⟩
  ·replace c5:=Bool.eq_false_iff.mpr c5;subst c5;have H1:(dc.j0 k true Pa Ka Ga Ia Da)=some r:=by rw [if_neg (show ¬ (false=true) by decide)] at H;exact H
   clear H;have H:=H1;clear H1;have H':=ja.mk H;clear H;have Ey:w3.cell? ⟨ya,0,none⟩=some (.slice Ya Pa.length Za):=(ga oa.out 0).trans rfl;have Dy:w3.cell? ⟨ya,1,none⟩=some (.int .i64 Ka):=(ga oa.out 1).trans rfl;have Cy:w3.cell? ⟨ya,2,none⟩=some (.int .i64 Ga):=(ga oa.out 2).trans rfl;have zy:w3.cell? ⟨ya,3,none⟩=some (.int .i64 Ia):=(ga oa.out 3).trans rfl;have yy:w3.cell? ⟨ya,4,none⟩=some (.slice Vb Da.length Jb):=(ga oa.out 4).trans rfl;have Vx:=aa oa.out 0;have Ux:=aa oa.out 1;have Tx:=aa oa.out 2;have Sx:=aa oa.out 3;have Rx:=aa oa.out 4;go_wp2_with (first|((with_reducible refine jb (f:=76) rfl ?_);refine Fc (some 13) rfl rfl Try.func76 (by kernel_rfl) rfl #[.agg #[.slice Ya Pa.length Za,.int .i64 Ka,.int .i64 Ga,.slice none 0 0]] rfl (by (try simp only [List.map_toArray,List.map_cons,List.map_nil]);first|done|rfl|(simp only [List.length_drop,List.length_take];rfl)) ?_;(refine (cg.calls _ _ Pa Ka Ga _ _ ([]:List (Kz)) false _ ?yc ?uc ?ud ?td A4.out).mono ?_);(case yc=>repeat (first|exact (Kd.Ob qe.out HB.out)|(with_reducible refine Kd.Pb ?_ _)|(with_reducible refine Kd.Nb ?_ _)|(with_reducible refine Kd.Zb ?_)));(case uc=>exact Be.out);(case ud=>exact Kd.nO _ _);(case td=>exact Nat.le_refl _);rintro e Yy ⟨rfl,hb⟩;refine ⟨_,rfl,?_⟩;have Fb:=ja.mk (Ua (g:=ya) (o:=.cells #[.slice Ya Pa.length Za,.int .i64 Ka,.int .i64 Ga,.int .i64 Ia,.slice Vb Da.length Jb] 30 (0,0)) (by (with_reducible repeat (first|refine Ba ?_ _|refine Ea ?_|refine Ca ?_ _));exact oa.out) hb);have Ib:=ja.mk (Qa (by repeat (first|(with_reducible first|exact HB.out|apply qa|apply ia|apply ta|refine ua ?_ Sa.out)|exact HB.out)) hb);clear oa HB;have oa:=Fb;have HB:=Ib;clear Fb Ib;(try clear hb);(try clear Hi);(try clear hk);(try clear hi)))
   go_meet
   case rel=>exact ⟨_,(true),(by first|rfl|(simp;done)|(simp [*];done)),H',⟨by first|omega|exact Nat.le_refl _⟩,⟨by (with_reducible repeat (first|refine Ba ?_ _|refine Ea ?_|refine Ca ?_ _));exact oa.out⟩,⟨by repeat (first|(with_reducible first|exact HB.out|apply qa|apply ia|apply ta|refine ua ?_ Sa.out)|exact HB.out)⟩⟩
 case rest =>
  clear kS
  try clear p2
  try clear c4
  try clear c5
  try clear c7
  try clear Xs
  try clear Ws
  try clear Vs
  try clear Us
  try clear Ts
  try clear Sp
  try clear Rp
  try clear Qp
  try clear Pp
  try clear Np
  try clear ij
  try clear gj
  try clear fj
  try clear ej
  try clear cj
  try clear Ey
  try clear Dy
  try clear Cy
  try clear zy
  try clear yy
  try clear Vl
  try clear Ul
  try clear Tl
  try clear Sl
  try clear Rl
  try clear Tr
  try clear Sr
  try clear Qr
  try clear Pr
  try clear Nr
  try clear Hp
  try clear Gp
  try clear Fp
  try clear Ep
  try clear Dp
  try clear aj
  try clear Zi
  try clear Yi
  try clear Xi
  try clear Wi
  try clear Vx
  try clear Ux
  try clear Tx
  try clear Sx
  try clear Rx
  try clear Ql
  try clear Ol
  try clear Nl
  try clear Ml
  try clear Ll
  obtain ⟨kq,IK,rfl,HA,uX,oa,HB⟩:=hcut;cases kq with
  | zero=>exact absurd HA.out (by simp [dc.j0])
  | succ oQ =>
   have H:=HA.out;clear HA;simp only [dc.j0] at H
   by_cases lu:IK=true
   ·subst lu;have H1:(some false)=some r:=by rw [if_pos rfl] at H;exact H
    clear H;have H:=H1;clear H1;obtain rfl:=Option.some.inj H;go_wp2;go_ret;exact ⟨by first|rfl|(simp [Ma,La] <;> rfl)|(simp [*,Ma,La] <;> rfl),by repeat (first|(with_reducible first|exact HB.out|apply qa|apply ia|apply ta|refine ua ?_ Sa.out)|exact HB.out)⟩
   ·replace lu:=Bool.eq_false_iff.mpr lu;subst lu;have H1:(dc.l0 oQ 0 Da (Da.length:Int) 0 Pa Ka Ga Ia Da)=some r:=by rw [if_neg (show ¬ (false=true) by decide)] at H;exact H
    clear H;have H:=H1;clear H1;have H':=ja.mk H;clear H;have Ss:wc.cell? ⟨ya,0,none⟩=some (.slice Ya Pa.length Za):=(ga oa.out 0).trans rfl;have Rs:wc.cell? ⟨ya,1,none⟩=some (.int .i64 Ka):=(ga oa.out 1).trans rfl;have Qs:wc.cell? ⟨ya,2,none⟩=some (.int .i64 Ga):=(ga oa.out 2).trans rfl;have Ns:wc.cell? ⟨ya,3,none⟩=some (.int .i64 Ia):=(ga oa.out 3).trans rfl;have Ms:wc.cell? ⟨ya,4,none⟩=some (.slice Vb Da.length Jb):=(ga oa.out 4).trans rfl;have Mr:=aa oa.out 0;have Lr:=aa oa.out 1;have Kr:=aa oa.out 2;have Jr:=aa oa.out 3;have Ir:=aa oa.out 4;go_wp2
    go_loopg [3,33] oQ (fun kq v3 v33 w'=>∃ (Xy:Int) (Od:Int),v3 = .int .i64 Xy∧v33 = .int .i64 Od∧ja (dc.l0 kq Xy Da (Da.length:Int) Od Pa Ka Ga Ia Da=some r)∧ja (kq ≤ oQ)∧ja (w'.heap[ya]? = some (.cells #[(.slice Ya Pa.length Za),.int .i64 Ka,.int .i64 Ga,.int .i64 Ia,(.slice Vb Da.length Jb)] 30 (0,0)))∧ja (Below w.heap.size w w'))
    case atStart=>exact ⟨(0),(0),(by first|rfl|(simp;done)|(simp [*];done)),(by first|rfl|(simp;done)|(simp [*];done)),H',⟨Nat.le_refl _⟩,⟨by (with_reducible repeat (first|refine Ba ?_ _|refine Ea ?_|refine Ca ?_ _));exact oa.out⟩,⟨by repeat (first|(with_reducible first|exact HB.out|apply qa|apply ia|apply ta|refine ua ?_ Sa.out)|exact HB.out)⟩⟩
    case round =>
     clear H'
     try clear c1
     try clear p2
     try clear c4
     try clear c5
     try clear c7
     try clear lu
     try clear Xs
     try clear Ws
     try clear Vs
     try clear Us
     try clear Ts
     try clear Sp
     try clear Rp
     try clear Qp
     try clear Pp
     try clear Np
     try clear ij
     try clear gj
     try clear fj
     try clear ej
     try clear cj
     try clear Ey
     try clear Dy
     try clear Cy
     try clear zy
     try clear yy
     try clear Ss
     try clear Rs
     try clear Qs
     try clear Ns
     try clear Ms
     try clear Vl
     try clear Ul
     try clear Tl
     try clear Sl
     try clear Rl
     try clear Tr
     try clear Sr
     try clear Qr
     try clear Pr
     try clear Nr
     try clear Hp
     try clear Gp
     try clear Fp
     try clear Ep
     try clear Dp
     try clear aj
     try clear Zi
     try clear Yi
     try clear Xi
     try clear Wi
     try clear Vx
     try clear Ux
     try clear Tx
     try clear Sx
     try clear Rx
     try clear Mr
     try clear Lr
     try clear Kr
     try clear Jr
     try clear Ir
     try clear Ql
     try clear Ol
     try clear Nl
     try clear Ml
     try clear Ll
     try clear p2
     (try clear HA);(try clear qA);(try clear oa);(try clear HB);obtain ⟨Xy,Od,rfl,rfl,HA,qA,oa,HB⟩:=hrel;cases gk with
     | zero=>exact absurd HA.out (by simp [dc.l0])
     | succ k2 =>
      have H:=HA.out;clear HA;simp only [dc.l0] at H
      by_cases Xo:Od < (Da.length:Int)
      ·rw [if_pos Xo] at H;have Hv:decide (Od < (Da.length:Int))=true:=decide_eq_true Xo;clear Xo
       by_cases Pq:0 ≤ Od
       ·rw [if_pos Pq] at H;have Ly:decide (0 ≤ Od)=true:=decide_eq_true Pq;clear Pq
        by_cases Ky:Od < (Da.length:Int)
        ·rw [if_pos Ky] at H;have TN:decide (Od < (Da.length:Int))=true:=decide_eq_true Ky;clear Ky;replace H:=Option.bind_eq_some_iff.mp H;obtain ⟨t107,Raa,H⟩:=H;replace H:(if t107=true then (dc.l0 k2 (wrap64 (Xy + (((Aa Da Od).f0).length:Int))) Da (Da.length:Int) (wrap64 (Od + 1)) Pa Ka Ga Ia Da) else (some false))=some r:=H;have A22:=ja.mk Raa;clear Raa
         by_cases MG:t107=true
         ·subst MG;have H1:(dc.l0 k2 (wrap64 (Xy + (((Aa Da Od).f0).length:Int))) Da (Da.length:Int) (wrap64 (Od + 1)) Pa Ka Ga Ia Da)=some r:=by rw [if_pos rfl] at H;exact H
          clear H;have H:=H1;clear H1;have H':=ja.mk H;clear H;have Cn:0 ≤ (Od:Int):=Wa;have Bn:Od < (Da.length:Int):=Wa;obtain ⟨mm,Wj,Uj,VC,Ug,sk,qk,nk,jk,Ti,Vi⟩:=ki Hf.out Od Cn Bn;cases VC;replace Ug:=Na HB.out Ug;replace sk:=Na HB.out sk;replace qk:=Na HB.out qk;replace nk:=Na HB.out nk;replace jk:=Na HB.out jk;have vo:=ja.mk Vi;have ov:=ja.mk Ti;clear Vi Ti;replace Cn:=eq_true Cn;replace Bn:=eq_true Bn;go_wp2_with (first|((with_reducible refine yb (N:=5) rfl ?_);(try (refine xg (by rfl) ?_;dsimp only));refine Gb ?hg (N:=5) ?hd (cs:=#[.slice none 0 0,.int .i64 0,.int .i64 0,.int .i64 0,.int .i64 0]) (t:=59) ?hr ?_;(case hd=>rfl);(case hg=>rfl);(case hr=>first|(go_simp;done)|(go_simp;rfl));intro bk hg xP Qb hb;have Fb:=ja.mk (Ua (g:=ya) (o:=.cells #[.slice Ya Pa.length Za,.int .i64 Ka,.int .i64 Ga,.int .i64 Ia,.slice (some mm) Da.length Jb] 30 (0,0)) (by (with_reducible repeat (first|refine Ba ?_ _|refine Ea ?_|refine Ca ?_ _));exact oa.out) hb);have Ib:=ja.mk (Qa (by repeat (first|(with_reducible first|exact HB.out|apply qa|apply ia|apply ta|refine ua ?_ Sa.out)|exact HB.out)) hb);have Sb:=ja.mk (Qb);have Ec:=ja.mk ((by rw [hg];exact (Fa (by repeat (first|(with_reducible first|exact HB.out|apply qa|apply ia|apply ta|refine ua ?_ Sa.out)|exact HB.out))):w.heap.size ≤ bk));have Re:=ja.mk ((by rw [hg];exact (Fa (by repeat (first|(with_reducible first|exact HB.out|apply qa|apply ia|apply ta|refine ua ?_ Sa.out)|exact HB.out))):w.heap.size ≤ bk));have Gf:=ja.mk ((by rw [hg];exact Nat.ne_of_lt (Jc (g:=ya) (o:=.cells #[.slice Ya Pa.length Za,.int .i64 Ka,.int .i64 Ga,.int .i64 Ia,.slice (some mm) Da.length Jb] 30 (0,0)) (by (with_reducible repeat (first|refine Ba ?_ _|refine Ea ?_|refine Ca ?_ _));exact oa.out)):ya ≠ bk));have Yf:=ja.mk ((by rw [hg];exact Nat.ne_of_gt (Jc (g:=ya) (o:=.cells #[.slice Ya Pa.length Za,.int .i64 Ka,.int .i64 Ga,.int .i64 Ia,.slice (some mm) Da.length Jb] 30 (0,0)) (by (with_reducible repeat (first|refine Ba ?_ _|refine Ea ?_|refine Ca ?_ _));exact oa.out)):bk ≠ ya));clear oa HB;have oa:=Fb;have HB:=Ib;have Mh:=Sb;have Eaa:=Ec;have uu:=Re;have Ng:=Gf;have Oz:=Yf;clear Fb Ib Sb Ec Re Gf Yf hb Qb hg;have D4:=Oz.out;have V3:=Ng.out;have Vu:xP.cell? ⟨bk,0,none⟩=some (.slice none 0 0):=(ga Mh.out 0).trans rfl;have Uu:xP.cell? ⟨bk,1,none⟩=some (.int .i64 0):=(ga Mh.out 1).trans rfl;have Tu:xP.cell? ⟨bk,2,none⟩=some (.int .i64 0):=(ga Mh.out 2).trans rfl;have Su:xP.cell? ⟨bk,3,none⟩=some (.int .i64 0):=(ga Mh.out 3).trans rfl;have Ru:xP.cell? ⟨bk,4,none⟩=some (.int .i64 0):=(ga Mh.out 4).trans rfl;have Lu:=aa Mh.out 0;have Ku:=aa Mh.out 1;have Ju:=aa Mh.out 2;have Iu:=aa Mh.out 3;have Hu:=aa Mh.out 4;have Lm:xP.cell? ⟨ya,0,none⟩=some (.slice Ya Pa.length Za):=(ga oa.out 0).trans rfl;have Km:xP.cell? ⟨ya,1,none⟩=some (.int .i64 Ka):=(ga oa.out 1).trans rfl;have Jm:xP.cell? ⟨ya,2,none⟩=some (.int .i64 Ga):=(ga oa.out 2).trans rfl;have Im:xP.cell? ⟨ya,3,none⟩=some (.int .i64 Ia):=(ga oa.out 3).trans rfl;have Gm:xP.cell? ⟨ya,4,none⟩=some (.slice (some mm) Da.length Jb):=(ga oa.out 4).trans rfl;have Fm:=aa oa.out 0;have Em:=aa oa.out 1;have Dm:=aa oa.out 2;have Cm:=aa oa.out 3;have Bm:=aa oa.out 4)|((with_reducible refine jb (f:=77) rfl ?_);refine Fc (some 44) rfl rfl Try.func77 (by kernel_rfl) rfl #[.agg #[.slice Ya Pa.length Za,.int .i64 Ka,.int .i64 Ga,.int .i64 Ia,.slice (some mm) Da.length Jb],.agg #[.slice Wj ((Aa Da Od).f0).length Uj,.int .i64 ((Aa Da Od).f1),.int .i64 ((Aa Da Od).f2),.int .i64 ((Aa Da Od).f3),.int .i64 ((Aa Da Od).f4)]] rfl (by (try simp only [List.map_toArray,List.map_cons,List.map_nil]);first|done|rfl|(simp only [List.length_drop,List.length_take];rfl)) ?_;(with_reducible refine (Rh.calls _ _ Pa Ka Ga Ia _ _ Da _ _ ((Aa Da Od).f0) ((Aa Da Od).f1) ((Aa Da Od).f2) ((Aa Da Od).f3) ((Aa Da Od).f4) true _ ?yc ?uc ?ud ?td ?Xt ?Wt A22.out).mono ?_);(case yc=>exact Kd.Ob qe.out (by repeat (first|(with_reducible first|exact HB.out|apply qa|apply ia|apply ta|refine ua ?_ Sa.out|refine ua ?_ uu.out)|exact HB.out)));(case uc=>exact Be.out);(case ud=>exact Kd.Ob Hf.out (by repeat (first|(with_reducible first|exact HB.out|apply qa|apply ia|apply ta|refine ua ?_ Sa.out|refine ua ?_ uu.out)|exact HB.out)));(case td=>exact Tg.out);(case Xt=>exact Kd.Ob vo.out (by repeat (first|(with_reducible first|exact HB.out|apply qa|apply ia|apply ta|refine ua ?_ Sa.out|refine ua ?_ uu.out)|exact HB.out)));(case Wt=>exact ov.out);rintro e Mv ⟨rfl,hb⟩;refine ⟨_,rfl,?_⟩;have Fb:=ja.mk (Ua (g:=ya) (o:=.cells #[.slice Ya Pa.length Za,.int .i64 Ka,.int .i64 Ga,.int .i64 Ia,.slice (some mm) Da.length Jb] 30 (0,0)) (by (with_reducible repeat (first|refine Ba ?_ _|refine Ea ?_|refine Ca ?_ _));refine Bd ?_ Ng.out _;(with_reducible repeat (first|refine Ba ?_ _|refine Ea ?_|refine Ca ?_ _));refine Bd ?_ Ng.out _;(with_reducible repeat (first|refine Ba ?_ _|refine Ea ?_|refine Ca ?_ _));refine Bd ?_ Ng.out _;(with_reducible repeat (first|refine Ba ?_ _|refine Ea ?_|refine Ca ?_ _));refine Bd ?_ Ng.out _;(with_reducible repeat (first|refine Ba ?_ _|refine Ea ?_|refine Ca ?_ _));refine Bd ?_ Ng.out _;(with_reducible repeat (first|refine Ba ?_ _|refine Ea ?_|refine Ca ?_ _));exact oa.out) hb);have Ib:=ja.mk (Ua (g:=bk) (o:=.cells #[.slice Wj ((Aa Da Od).f0).length Uj,.int .i64 ((Aa Da Od).f1),.int .i64 ((Aa Da Od).f2),.int .i64 ((Aa Da Od).f3),.int .i64 ((Aa Da Od).f4)] 59 (0,0)) (by (with_reducible repeat (first|refine Ba ?_ _|refine Ea ?_|refine Ca ?_ _));refine Ad (cs:=#[.slice Wj ((Aa Da Od).f0).length Uj,.int .i64 ((Aa Da Od).f1),.int .i64 ((Aa Da Od).f2),.int .i64 ((Aa Da Od).f3),.int .i64 0]) ?_ 4 _ rfl;(with_reducible repeat (first|refine Ba ?_ _|refine Ea ?_|refine Ca ?_ _));refine Ad (cs:=#[.slice Wj ((Aa Da Od).f0).length Uj,.int .i64 ((Aa Da Od).f1),.int .i64 ((Aa Da Od).f2),.int .i64 0,.int .i64 0]) ?_ 3 _ rfl;(with_reducible repeat (first|refine Ba ?_ _|refine Ea ?_|refine Ca ?_ _));refine Ad (cs:=#[.slice Wj ((Aa Da Od).f0).length Uj,.int .i64 ((Aa Da Od).f1),.int .i64 0,.int .i64 0,.int .i64 0]) ?_ 2 _ rfl;(with_reducible repeat (first|refine Ba ?_ _|refine Ea ?_|refine Ca ?_ _));refine Ad (cs:=#[.slice Wj ((Aa Da Od).f0).length Uj,.int .i64 0,.int .i64 0,.int .i64 0,.int .i64 0]) ?_ 1 _ rfl;(with_reducible repeat (first|refine Ba ?_ _|refine Ea ?_|refine Ca ?_ _));refine Ad (cs:=#[.slice none 0 0,.int .i64 0,.int .i64 0,.int .i64 0,.int .i64 0]) ?_ 0 _ rfl;(with_reducible repeat (first|refine Ba ?_ _|refine Ea ?_|refine Ca ?_ _));exact Mh.out) hb);have Sb:=ja.mk (Qa (by repeat (first|(with_reducible first|exact HB.out|apply qa|apply ia|apply ta|refine ua ?_ Sa.out|refine ua ?_ uu.out)|exact HB.out)) hb);clear oa Mh HB;have oa:=Fb;have Mh:=Ib;have HB:=Sb;clear Fb Ib Sb;(try clear hb);(try clear Hi);(try clear hk);(try clear hi)))
          go_roundg k2
          case measure=>have:=uX.out;have:=qA.out;omega
          case rel=>exact ⟨(wrap64 (Xy + (((Aa Da Od).f0).length:Int))),(wrap64 (Od + 1)),(by first|rfl|(simp;done)|(simp [*];done)),(by first|rfl|(simp;done)|(simp [*];done)),H',⟨by have:=uX.out;have:=qA.out;omega⟩,⟨by (with_reducible repeat (first|refine Ba ?_ _|refine Ea ?_|refine Ca ?_ _));exact oa.out⟩,⟨by repeat (first|(with_reducible first|exact HB.out|apply qa|apply ia|apply ta|refine ua ?_ Sa.out|refine ua ?_ uu.out)|exact HB.out)⟩⟩
         ·replace MG:=Bool.eq_false_iff.mpr MG;subst MG;have H1:(some false)=some r:=by rw [if_neg (show ¬ (false=true) by decide)] at H;exact H
          clear H;have H:=H1;clear H1;obtain rfl:=Option.some.inj H;have Cn:0 ≤ (Od:Int):=Wa;have Bn:Od < (Da.length:Int):=Wa;obtain ⟨mm,Wj,Uj,VC,Ug,sk,qk,nk,jk,Ti,Vi⟩:=ki Hf.out Od Cn Bn;cases VC;replace Ug:=Na HB.out Ug;replace sk:=Na HB.out sk;replace qk:=Na HB.out qk;replace nk:=Na HB.out nk;replace jk:=Na HB.out jk;have vo:=ja.mk Vi;have ov:=ja.mk Ti;clear Vi Ti;replace Cn:=eq_true Cn;replace Bn:=eq_true Bn;go_wp2_with (first|((with_reducible refine yb (N:=5) rfl ?_);(try (refine xg (by rfl) ?_;dsimp only));refine Gb ?hg (N:=5) ?hd (cs:=#[.slice none 0 0,.int .i64 0,.int .i64 0,.int .i64 0,.int .i64 0]) (t:=59) ?hr ?_;(case hd=>rfl);(case hg=>rfl);(case hr=>first|(go_simp;done)|(go_simp;rfl));intro bk hg cH Qb hb;have Fb:=ja.mk (Ua (g:=ya) (o:=.cells #[.slice Ya Pa.length Za,.int .i64 Ka,.int .i64 Ga,.int .i64 Ia,.slice (some mm) Da.length Jb] 30 (0,0)) (by (with_reducible repeat (first|refine Ba ?_ _|refine Ea ?_|refine Ca ?_ _));exact oa.out) hb);have Ib:=ja.mk (Qa (by repeat (first|(with_reducible first|exact HB.out|apply qa|apply ia|apply ta|refine ua ?_ Sa.out)|exact HB.out)) hb);have Sb:=ja.mk (Qb);have Ec:=ja.mk ((by rw [hg];exact (Fa (by repeat (first|(with_reducible first|exact HB.out|apply qa|apply ia|apply ta|refine ua ?_ Sa.out)|exact HB.out))):w.heap.size ≤ bk));have Re:=ja.mk ((by rw [hg];exact (Fa (by repeat (first|(with_reducible first|exact HB.out|apply qa|apply ia|apply ta|refine ua ?_ Sa.out)|exact HB.out))):w.heap.size ≤ bk));have Gf:=ja.mk ((by rw [hg];exact Nat.ne_of_lt (Jc (g:=ya) (o:=.cells #[.slice Ya Pa.length Za,.int .i64 Ka,.int .i64 Ga,.int .i64 Ia,.slice (some mm) Da.length Jb] 30 (0,0)) (by (with_reducible repeat (first|refine Ba ?_ _|refine Ea ?_|refine Ca ?_ _));exact oa.out)):ya ≠ bk));have Yf:=ja.mk ((by rw [hg];exact Nat.ne_of_gt (Jc (g:=ya) (o:=.cells #[.slice Ya Pa.length Za,.int .i64 Ka,.int .i64 Ga,.int .i64 Ia,.slice (some mm) Da.length Jb] 30 (0,0)) (by (with_reducible repeat (first|refine Ba ?_ _|refine Ea ?_|refine Ca ?_ _));exact oa.out)):bk ≠ ya));clear oa HB;have oa:=Fb;have HB:=Ib;have Mh:=Sb;have Eaa:=Ec;have uu:=Re;have Ng:=Gf;have Oz:=Yf;clear Fb Ib Sb Ec Re Gf Yf hb Qb hg;have C4:=Oz.out;have U3:=Ng.out;have Fs:cH.cell? ⟨bk,0,none⟩=some (.slice none 0 0):=(ga Mh.out 0).trans rfl;have Es:cH.cell? ⟨bk,1,none⟩=some (.int .i64 0):=(ga Mh.out 1).trans rfl;have Ds:cH.cell? ⟨bk,2,none⟩=some (.int .i64 0):=(ga Mh.out 2).trans rfl;have Cs:cH.cell? ⟨bk,3,none⟩=some (.int .i64 0):=(ga Mh.out 3).trans rfl;have Bs:cH.cell? ⟨bk,4,none⟩=some (.int .i64 0):=(ga Mh.out 4).trans rfl;have Br:=aa Mh.out 0;have Ar:=aa Mh.out 1;have vr:=aa Mh.out 2;have ur:=aa Mh.out 3;have tr:=aa Mh.out 4;have sG:cH.cell? ⟨ya,0,none⟩=some (.slice Ya Pa.length Za):=(ga oa.out 0).trans rfl;have rG:cH.cell? ⟨ya,1,none⟩=some (.int .i64 Ka):=(ga oa.out 1).trans rfl;have qG:cH.cell? ⟨ya,2,none⟩=some (.int .i64 Ga):=(ga oa.out 2).trans rfl;have pG:cH.cell? ⟨ya,3,none⟩=some (.int .i64 Ia):=(ga oa.out 3).trans rfl;have oG:cH.cell? ⟨ya,4,none⟩=some (.slice (some mm) Da.length Jb):=(ga oa.out 4).trans rfl;have CF:=aa oa.out 0;have BF:=aa oa.out 1;have AF:=aa oa.out 2;have zF:=aa oa.out 3;have yF:=aa oa.out 4)|((with_reducible refine jb (f:=77) rfl ?_);refine Fc (some 44) rfl rfl Try.func77 (by kernel_rfl) rfl #[.agg #[.slice Ya Pa.length Za,.int .i64 Ka,.int .i64 Ga,.int .i64 Ia,.slice (some mm) Da.length Jb],.agg #[.slice Wj ((Aa Da Od).f0).length Uj,.int .i64 ((Aa Da Od).f1),.int .i64 ((Aa Da Od).f2),.int .i64 ((Aa Da Od).f3),.int .i64 ((Aa Da Od).f4)]] rfl (by (try simp only [List.map_toArray,List.map_cons,List.map_nil]);first|done|rfl|(simp only [List.length_drop,List.length_take];rfl)) ?_;(with_reducible refine (Rh.calls _ _ Pa Ka Ga Ia _ _ Da _ _ ((Aa Da Od).f0) ((Aa Da Od).f1) ((Aa Da Od).f2) ((Aa Da Od).f3) ((Aa Da Od).f4) false _ ?yc ?uc ?ud ?td ?Xt ?Wt A22.out).mono ?_);(case yc=>exact Kd.Ob qe.out (by repeat (first|(with_reducible first|exact HB.out|apply qa|apply ia|apply ta|refine ua ?_ Sa.out|refine ua ?_ uu.out)|exact HB.out)));(case uc=>exact Be.out);(case ud=>exact Kd.Ob Hf.out (by repeat (first|(with_reducible first|exact HB.out|apply qa|apply ia|apply ta|refine ua ?_ Sa.out|refine ua ?_ uu.out)|exact HB.out)));(case td=>exact Tg.out);(case Xt=>exact Kd.Ob vo.out (by repeat (first|(with_reducible first|exact HB.out|apply qa|apply ia|apply ta|refine ua ?_ Sa.out|refine ua ?_ uu.out)|exact HB.out)));(case Wt=>exact ov.out);rintro e rO ⟨rfl,hb⟩;refine ⟨_,rfl,?_⟩;have Fb:=ja.mk (Ua (g:=ya) (o:=.cells #[.slice Ya Pa.length Za,.int .i64 Ka,.int .i64 Ga,.int .i64 Ia,.slice (some mm) Da.length Jb] 30 (0,0)) (by (with_reducible repeat (first|refine Ba ?_ _|refine Ea ?_|refine Ca ?_ _));refine Bd ?_ Ng.out _;(with_reducible repeat (first|refine Ba ?_ _|refine Ea ?_|refine Ca ?_ _));refine Bd ?_ Ng.out _;(with_reducible repeat (first|refine Ba ?_ _|refine Ea ?_|refine Ca ?_ _));refine Bd ?_ Ng.out _;(with_reducible repeat (first|refine Ba ?_ _|refine Ea ?_|refine Ca ?_ _));refine Bd ?_ Ng.out _;(with_reducible repeat (first|refine Ba ?_ _|refine Ea ?_|refine Ca ?_ _));refine Bd ?_ Ng.out _;(with_reducible repeat (first|refine Ba ?_ _|refine Ea ?_|refine Ca ?_ _));exact oa.out) hb);have Ib:=ja.mk (Ua (g:=bk) (o:=.cells #[.slice Wj ((Aa Da Od).f0).length Uj,.int .i64 ((Aa Da Od).f1),.int .i64 ((Aa Da Od).f2),.int .i64 ((Aa Da Od).f3),.int .i64 ((Aa Da Od).f4)] 59 (0,0)) (by (with_reducible repeat (first|refine Ba ?_ _|refine Ea ?_|refine Ca ?_ _));refine Ad (cs:=#[.slice Wj ((Aa Da Od).f0).length Uj,.int .i64 ((Aa Da Od).f1),.int .i64 ((Aa Da Od).f2),.int .i64 ((Aa Da Od).f3),.int .i64 0]) ?_ 4 _ rfl;(with_reducible repeat (first|refine Ba ?_ _|refine Ea ?_|refine Ca ?_ _));refine Ad (cs:=#[.slice Wj ((Aa Da Od).f0).length Uj,.int .i64 ((Aa Da Od).f1),.int .i64 ((Aa Da Od).f2),.int .i64 0,.int .i64 0]) ?_ 3 _ rfl;(with_reducible repeat (first|refine Ba ?_ _|refine Ea ?_|refine Ca ?_ _));refine Ad (cs:=#[.slice Wj ((Aa Da Od).f0).length Uj,.int .i64 ((Aa Da Od).f1),.int .i64 0,.int .i64 0,.int .i64 0]) ?_ 2 _ rfl;(with_reducible repeat (first|refine Ba ?_ _|refine Ea ?_|refine Ca ?_ _));refine Ad (cs:=#[.slice Wj ((Aa Da Od).f0).length Uj,.int .i64 0,.int .i64 0,.int .i64 0,.int .i64 0]) ?_ 1 _ rfl;(with_reducible repeat (first|refine Ba ?_ _|refine Ea ?_|refine Ca ?_ _));refine Ad (cs:=#[.slice none 0 0,.int .i64 0,.int .i64 0,.int .i64 0,.int .i64 0]) ?_ 0 _ rfl;(with_reducible repeat (first|refine Ba ?_ _|refine Ea ?_|refine Ca ?_ _));exact Mh.out) hb);have Sb:=ja.mk (Qa (by repeat (first|(with_reducible first|exact HB.out|apply qa|apply ia|apply ta|refine ua ?_ Sa.out|refine ua ?_ uu.out)|exact HB.out)) hb);clear oa Mh HB;have oa:=Fb;have Mh:=Ib;have HB:=Sb;clear Fb Ib Sb;(try clear hb);(try clear Hi);(try clear hk);(try clear hi)));go_ret;exact ⟨by first|rfl|(simp [Ma,La] <;> rfl)|(simp [*,Ma,La] <;> rfl),by repeat (first|(with_reducible first|exact HB.out|apply qa|apply ia|apply ta|refine ua ?_ Sa.out|refine ua ?_ uu.out)|exact HB.out)⟩
        ·rw [if_neg Ky] at H;exact absurd H (by simp)
       ·rw [if_neg Pq] at H;exact absurd H (by simp)
      ·rw [if_neg Xo] at H;have Hv:decide (Od < (Da.length:Int))=false:=decide_eq_false Xo;clear Xo;obtain rfl:=Option.some.inj H;go_wp2;go_ret;exact ⟨by first|rfl|(simp [Ma,La] <;> rfl)|(simp [*,Ma,La] <;> rfl),by repeat (first|(with_reducible first|exact HB.out|apply qa|apply ia|apply ta|refine ua ?_ Sa.out)|exact HB.out)⟩
def Gd.l0:Nat→List Int→List Bool→Int→Int→Option (List Int)
 | 0,_,_,_,_=>none
 | k + 1,x3,x7,x8,x9=>if x9 < x8 then (if 0 ≤ x9 then (if x9 < (x7.length:Int) then (if Kf false x7 x9=true then (if x3.length < 17592186044416 then (Gd.l0 k (x3 ++ [x9]) x7 x8 (wrap64 (x9 + 1))) else (none)) else (Gd.l0 k x3 x7 x8 (wrap64 (x9 + 1)))) else (none)) else (none)) else (some x3)
def Gd.f (k:Nat) (l0:List Bool):Option (List Int):=Gd.l0 k (([]:List Int)) l0 (l0.length:Int) 0
theorem Gd.calls (k:Nat) (A0:Option Addr) (c0:Nat) (l0:List Bool) (r:List Int) (w:World) (Rk:Kd.C Kd.bool w A0 l0.length l0) (hc0:l0.length ≤ c0) (h:Gd.f k l0=some r) :
  Calls Try.prog 48 #[.slice A0 l0.length c0] w fun e w'=>∃ kn:Value,e = .returned (kn)∧Kd.R (Kd.int .i64) 3 w' w.heap.size (fun _=>True) kn r∧Below w.heap.size w w':=by
 have sn:=ja.mk Rk;have rI:=ja.mk hc0;clear Rk hc0;have HB:=ja.mk (Below.refl w.heap.size w);have H:(Gd.l0 k (([]:List Int)) l0 (l0.length:Int) 0)=some r:=h;clear h;obtain ⟨Om,gh⟩:∃ y_:List Int,y_=(([]:List Int)):=⟨_,rfl⟩;replace H:(Gd.l0 k Om l0 (l0.length:Int) 0)=some r:=by first|(rw [gh];with_reducible exact H)|(have ue:=(Option.bind_some _ _).symm.trans H;rw [gh];with_reducible exact ue)|(have ue:=(Option.bind_some _ _).symm.trans H;with_reducible exact ue)|with_reducible exact H|(rw [gh];exact H)|exact H
 have Zp:=ja.mk gh;clear gh;have H':=ja.mk H;clear H;go_enter Try.func48,Try.ntmps48;go_wp2_with (first|((with_reducible refine yb (N:=6) rfl ?_);refine Kd.xj (Kd.int .i64) _ 3 ?hg (N:=6) ?hd (xs:=([]:List Int)) (inner:=[]) (ok:=fun _=>True) (ri:=fun _=>True) ?hr ?hp (fun _ hk=>hk) trivial (Below.refl _ _) (Nat.le_refl _) (by simp) ?_;(case hd=>rfl);(case hg=>rfl);(case hr=>first|(go_simp;done)|(go_simp;rfl));(case hp=>exact (zd.none _ _));intro GI w2 O3 hb en Ve;clear en Ve;(first|rw [← Zp.out] at O3|(simp only [Int.reduceToNat] at O3;rw [← Zp.out] at O3));have Fb:=ja.mk (Kd.Rd O3 (Fa (by repeat (first|(with_reducible first|exact HB.out|apply qa|apply ia|apply ta)|exact HB.out))));have Ib:=ja.mk (Qa (by repeat (first|(with_reducible first|exact HB.out|apply qa|apply ia|apply ta)|exact HB.out)) hb);clear HB;have su:=Fb;have HB:=Ib;clear Fb Ib hb O3))
 go_loopg [3,9] k (fun kq v3 v9 w'=>∃ (ld:List Int) (bg:Int),v9 = .int .i64 bg∧ja (Gd.l0 kq ld l0 (l0.length:Int) bg=some r)∧ja (kq ≤ k)∧ja (Kd.R (Kd.int .i64) 3 w' w.heap.size (fun _=>True) v3 ld)∧ja (Below w.heap.size w w'))
 case atStart=>exact ⟨(Om),(0),(by first|rfl|(simp;done)|(simp [*];done)),H',⟨Nat.le_refl _⟩,⟨by (with_reducible repeat (first|apply Kd.Ab|apply Kd.zb|apply Kd.Rb));exact su.out⟩,⟨by repeat (first|(with_reducible first|exact HB.out|apply qa|apply ia|apply ta)|exact HB.out)⟩⟩
 case round =>
  clear H'
  try clear p2
  (try clear HA);(try clear lg);(try clear Vc);(try clear HB);obtain ⟨ld,bg,rfl,HA,lg,Vc,HB⟩:=hrel;cases gk with
  | zero=>exact absurd HA.out (by simp [Gd.l0])
  | succ k1 =>
   have H:=HA.out;clear HA;simp only [Gd.l0] at H
   by_cases c4:bg < (l0.length:Int)
   ·rw [if_pos c4] at H;have Mk:decide (bg < (l0.length:Int))=true:=decide_eq_true c4;clear c4
    by_cases c5:0 ≤ bg
    ·rw [if_pos c5] at H;have sj:decide (0 ≤ bg)=true:=decide_eq_true c5;clear c5
     by_cases c6:bg < (l0.length:Int)
     ·rw [if_pos c6] at H;have Vm:decide (bg < (l0.length:Int))=true:=decide_eq_true c6;clear c6;obtain ⟨bq7,NY⟩:∃ b_:Bool,b_=(Kf false l0 bg):=⟨_,rfl⟩;replace H:(if bq7=true then (if ld.length < 17592186044416 then (Gd.l0 k1 (ld ++ [bg]) l0 (l0.length:Int) (wrap64 (bg + 1))) else (none)) else (Gd.l0 k1 ld l0 (l0.length:Int) (wrap64 (bg + 1))))=some r:=by rw [← NY] at H;exact H
      have N_:=ja.mk NY;clear NY
      by_cases c8:bq7=true
      ·subst c8;have H1:(if ld.length < 17592186044416 then (Gd.l0 k1 (ld ++ [bg]) l0 (l0.length:Int) (wrap64 (bg + 1))) else (none))=some r:=by rw [if_pos rfl] at H;exact H
       clear H;have H:=H1;clear H1
       by_cases c9:ld.length < 17592186044416
       ·rw [if_pos c9] at H;have YZ:=ja.mk c9;clear c9;obtain ⟨Ag,tf⟩:∃ y_:List Int,y_=(ld ++ [bg]):=⟨_,rfl⟩;replace H:(Gd.l0 k1 Ag l0 (l0.length:Int) (wrap64 (bg + 1)))=some r:=by first|(rw [tf];with_reducible exact H)|(have ue:=(Option.bind_some _ _).symm.trans H;rw [tf];with_reducible exact ue)|(have ue:=(Option.bind_some _ _).symm.trans H;with_reducible exact ue)|with_reducible exact H|(rw [tf];exact H)|exact H
        have Uk:=ja.mk tf;clear tf;have H':=ja.mk H;clear H;have Yq:0 ≤ (bg:Int):=Wa;have Wq:bg < (l0.length:Int):=Wa;obtain ⟨XN,IG,Ah⟩:=Kd.kj sn.out bg Yq Wq;(try rw [← N_.out] at Ah);cases IG;replace Ah:=Na HB.out Ah;replace Yq:=eq_true Yq;replace Wq:=eq_true Wq;go_wp2_with (first|((with_reducible refine Ud (b:=.append) (xs:=#[.tmp 15,.tmp 17]) rfl ?_);at_builtin;refine Kd.Rg (Kd.int .i64) (w0:=w) w.heap.size rfl (.tmp 15) (.tmp 17) 22 3 (.int .i64 0) 8 rfl Try.underlying22 info3 rfl (by decide) (by omega) u3 ld bg [.int .i64 bg] (fun _=>True) (fun _=>False) rfl rfl ?aP (fun _ hk=>hk.elim) ?aF ?aO ?aB ?aS ?aL ?_;(case aP=>exact rfl);(case aB=>exact (by repeat (first|(with_reducible first|exact HB.out|apply qa|apply ia|apply ta)|exact HB.out)));(case aF=>exact (fun _ _=>trivial));(case aO=>exact (by (with_reducible repeat (first|apply Kd.Ab|apply Kd.zb|apply Kd.Rb));exact Vc.out));(case aS=>exact (Fa (by repeat (first|(with_reducible first|exact HB.out|apply qa|apply ia|apply ta)|exact HB.out))));(case aL=>have:=YZ.out;omega);intro Zy Lt ho hb hg hat;rw [← Uk.out] at ho;have Fb:=ja.mk (hb);have Ib:=ja.mk (ho);clear HB Vc;have HB:=Fb;have qh:=Ib;clear Fb Ib ho hb hg hat))
        go_roundg k1
        case measure=>have:=lg.out;omega
        case rel=>exact ⟨(Ag),(wrap64 (bg + 1)),(by first|rfl|(simp;done)|(simp [*];done)),H',⟨by have:=lg.out;omega⟩,⟨by (with_reducible repeat (first|apply Kd.Ab|apply Kd.zb|apply Kd.Rb));exact qh.out⟩,⟨by repeat (first|(with_reducible first|exact HB.out|apply qa|apply ia|apply ta)|exact HB.out)⟩⟩
       ·rw [if_neg c9] at H;exact absurd H (by simp)
      ·replace c8:=Bool.eq_false_iff.mpr c8;subst c8;have H1:(Gd.l0 k1 ld l0 (l0.length:Int) (wrap64 (bg + 1)))=some r:=by rw [if_neg (show ¬ (false=true) by decide)] at H;exact H
       clear H;have H:=H1;clear H1;have H':=ja.mk H;clear H;have Yq:0 ≤ (bg:Int):=Wa;have Wq:bg < (l0.length:Int):=Wa;obtain ⟨XN,IG,Ah⟩:=Kd.kj sn.out bg Yq Wq;(try rw [← N_.out] at Ah);cases IG;replace Ah:=Na HB.out Ah;replace Yq:=eq_true Yq;replace Wq:=eq_true Wq;go_wp2
       go_roundg k1
       case measure=>have:=lg.out;omega
       case rel=>exact ⟨(ld),(wrap64 (bg + 1)),(by first|rfl|(simp;done)|(simp [*];done)),H',⟨by have:=lg.out;omega⟩,⟨by (with_reducible repeat (first|apply Kd.Ab|apply Kd.zb|apply Kd.Rb));exact Vc.out⟩,⟨by repeat (first|(with_reducible first|exact HB.out|apply qa|apply ia|apply ta)|exact HB.out)⟩⟩
     ·rw [if_neg c6] at H;exact absurd H (by simp)
    ·rw [if_neg c5] at H;exact absurd H (by simp)
   ·rw [if_neg c4] at H;have Mk:decide (bg < (l0.length:Int))=false:=decide_eq_false c4;clear c4;obtain rfl:=Option.some.inj H;go_wp2;go_ret;exact ⟨_,by first|rfl|(simp [Ma,La] <;> rfl)|(simp [*,Ma,La] <;> rfl),by (with_reducible repeat (first|apply Kd.Ab|apply Kd.zb|apply Kd.Rb));exact Vc.out,by repeat (first|(with_reducible first|exact HB.out|apply qa|apply ia|apply ta)|exact HB.out)⟩
def Kk.f (Eb:Int) (Ka:Int) (Ga:Int) (Ia:Int) (xb:Int) (oc:Int) (ic:ByteArray):Option (Int):=if Eb=4 then (some (-1)) else (if Eb=6 then (some (-1)) else (some Ka))
theorem Kk.calls (Eb:Int) (Ka:Int) (Ga:Int) (Ia:Int) (xb:Int) (oc:Int) (ic:ByteArray) (r:Int) (w:World) (h:Kk.f Eb Ka Ga Ia xb oc ic=some r) :
  Calls Try.prog 87 #[.agg #[.int .i64 Eb,.int .i64 Ka,.int .i64 Ga,.int .i64 Ia,.int .i64 xb,.int .i64 oc,.string ic]] w fun e w'=>e = .returned (.int .i64 r)∧Below w.heap.size w w':=by
 have ox:=Try.underlying65;have HB:=ja.mk (Below.refl w.heap.size w);have H:(if Eb=4 then (some (-1)) else (if Eb=6 then (some (-1)) else (some Ka)))=some r:=h;clear h
 by_cases c2:Eb=4
 ·rw [if_pos c2] at H;have Vv:(Eb == 4)=true:=beq_iff_eq.mpr c2;have Gz:(Eb != 4)=false:=bne_eq_false_iff_eq.mpr c2;clear c2;obtain rfl:=Option.some.inj H;go_enter Try.func87,Try.ntmps87;go_wp2_with (first|((with_reducible refine yb (N:=1) rfl ?_);refine Gb ?hg (N:=1) ?hd (cs:=#[.int .i64 Eb,.int .i64 Ka,.int .i64 Ga,.int .i64 Ia,.int .i64 xb,.int .i64 oc,.string ic]) (t:=65) ?hr ?_;(case hd=>rfl);(case hg=>rfl);(case hr=>first|(go_simp;done)|(go_simp;rfl));intro ya hg w3 Qb hb;have Fb:=ja.mk (Qa (by repeat (first|(with_reducible first|exact HB.out|apply qa|apply ia|apply ta)|exact HB.out)) hb);have Ib:=ja.mk (Qb);have Sb:=ja.mk ((by rw [hg];exact (Fa (by repeat (first|(with_reducible first|exact HB.out|apply qa|apply ia|apply ta)|exact HB.out))):w.heap.size ≤ ya));have Ec:=ja.mk ((by rw [hg];exact (Fa (by repeat (first|(with_reducible first|exact HB.out|apply qa|apply ia|apply ta)|exact HB.out))):w.heap.size ≤ ya));clear HB;have HB:=Fb;have oa:=Ib;have yd:=Sb;have Sa:=Ec;clear Fb Ib Sb Ec hb Qb hg;have Cz:w3.cell? ⟨ya,0,none⟩=some (.int .i64 Eb):=(ga oa.out 0).trans rfl;have Bz:w3.cell? ⟨ya,1,none⟩=some (.int .i64 Ka):=(ga oa.out 1).trans rfl;have zz:w3.cell? ⟨ya,2,none⟩=some (.int .i64 Ga):=(ga oa.out 2).trans rfl;have yz:w3.cell? ⟨ya,3,none⟩=some (.int .i64 Ia):=(ga oa.out 3).trans rfl;have xz:w3.cell? ⟨ya,4,none⟩=some (.int .i64 xb):=(ga oa.out 4).trans rfl;have XF:w3.cell? ⟨ya,5,none⟩=some (.int .i64 oc):=(ga oa.out 5).trans rfl;have VF:w3.cell? ⟨ya,6,none⟩=some (.string ic):=(ga oa.out 6).trans rfl;have uz:=aa oa.out 0;have rz:=aa oa.out 1;have qz:=aa oa.out 2;have pz:=aa oa.out 3;have oz:=aa oa.out 4;have iF:=aa oa.out 5;have gF:=aa oa.out 6));go_ret;exact ⟨by first|rfl|(simp [Ma,La] <;> rfl)|(simp [*,Ma,La] <;> rfl),by repeat (first|(with_reducible first|exact HB.out|apply qa|apply ia|apply ta|refine ua ?_ Sa.out)|exact HB.out)⟩
 ·rw [if_neg c2] at H;have Vv:(Eb == 4)=false:=beq_eq_false_iff_ne.mpr c2;have Gz:(Eb != 4)=true:=bne_iff_ne.mpr c2
  by_cases c5:Eb=6
  ·rw [if_pos c5] at H;have sj:(Eb == 6)=true:=beq_iff_eq.mpr c5;have Fz:(Eb != 6)=false:=bne_eq_false_iff_eq.mpr c5;clear c5;obtain rfl:=Option.some.inj H;go_enter Try.func87,Try.ntmps87;go_wp2_with (first|((with_reducible refine yb (N:=1) rfl ?_);refine Gb ?hg (N:=1) ?hd (cs:=#[.int .i64 Eb,.int .i64 Ka,.int .i64 Ga,.int .i64 Ia,.int .i64 xb,.int .i64 oc,.string ic]) (t:=65) ?hr ?_;(case hd=>rfl);(case hg=>rfl);(case hr=>first|(go_simp;done)|(go_simp;rfl));intro ya hg w6 Qb hb;have Fb:=ja.mk (Qa (by repeat (first|(with_reducible first|exact HB.out|apply qa|apply ia|apply ta)|exact HB.out)) hb);have Ib:=ja.mk (Qb);have Sb:=ja.mk ((by rw [hg];exact (Fa (by repeat (first|(with_reducible first|exact HB.out|apply qa|apply ia|apply ta)|exact HB.out))):w.heap.size ≤ ya));have Ec:=ja.mk ((by rw [hg];exact (Fa (by repeat (first|(with_reducible first|exact HB.out|apply qa|apply ia|apply ta)|exact HB.out))):w.heap.size ≤ ya));clear HB;have HB:=Fb;have oa:=Ib;have yd:=Sb;have Sa:=Ec;clear Fb Ib Sb Ec hb Qb hg;have Yr:w6.cell? ⟨ya,0,none⟩=some (.int .i64 Eb):=(ga oa.out 0).trans rfl;have Xr:w6.cell? ⟨ya,1,none⟩=some (.int .i64 Ka):=(ga oa.out 1).trans rfl;have Wr:w6.cell? ⟨ya,2,none⟩=some (.int .i64 Ga):=(ga oa.out 2).trans rfl;have Vr:w6.cell? ⟨ya,3,none⟩=some (.int .i64 Ia):=(ga oa.out 3).trans rfl;have Ur:w6.cell? ⟨ya,4,none⟩=some (.int .i64 xb):=(ga oa.out 4).trans rfl;have PF:w6.cell? ⟨ya,5,none⟩=some (.int .i64 oc):=(ga oa.out 5).trans rfl;have NF:w6.cell? ⟨ya,6,none⟩=some (.string ic):=(ga oa.out 6).trans rfl;have kr:=aa oa.out 0;have jr:=aa oa.out 1;have ir:=aa oa.out 2;have gr:=aa oa.out 3;have er:=aa oa.out 4;have ZE:=aa oa.out 5;have YE:=aa oa.out 6));go_ret;exact ⟨by first|rfl|(simp [Ma,La] <;> rfl)|(simp [*,Ma,La] <;> rfl),by repeat (first|(with_reducible first|exact HB.out|apply qa|apply ia|apply ta|refine ua ?_ Sa.out)|exact HB.out)⟩
  ·rw [if_neg c5] at H;have sj:(Eb == 6)=false:=beq_eq_false_iff_ne.mpr c5;have Fz:(Eb != 6)=true:=bne_iff_ne.mpr c5;obtain rfl:=Option.some.inj H;go_enter Try.func87,Try.ntmps87;go_wp2_with (first|((with_reducible refine yb (N:=1) rfl ?_);refine Gb ?hg (N:=1) ?hd (cs:=#[.int .i64 Eb,.int .i64 Ka,.int .i64 Ga,.int .i64 Ia,.int .i64 xb,.int .i64 oc,.string ic]) (t:=65) ?hr ?_;(case hd=>rfl);(case hg=>rfl);(case hr=>first|(go_simp;done)|(go_simp;rfl));intro ya hg w8 Qb hb;have Fb:=ja.mk (Qa (by repeat (first|(with_reducible first|exact HB.out|apply qa|apply ia|apply ta)|exact HB.out)) hb);have Ib:=ja.mk (Qb);have Sb:=ja.mk ((by rw [hg];exact (Fa (by repeat (first|(with_reducible first|exact HB.out|apply qa|apply ia|apply ta)|exact HB.out))):w.heap.size ≤ ya));have Ec:=ja.mk ((by rw [hg];exact (Fa (by repeat (first|(with_reducible first|exact HB.out|apply qa|apply ia|apply ta)|exact HB.out))):w.heap.size ≤ ya));clear HB;have HB:=Fb;have oa:=Ib;have yd:=Sb;have Sa:=Ec;clear Fb Ib Sb Ec hb Qb hg;have Vl:w8.cell? ⟨ya,0,none⟩=some (.int .i64 Eb):=(ga oa.out 0).trans rfl;have Ul:w8.cell? ⟨ya,1,none⟩=some (.int .i64 Ka):=(ga oa.out 1).trans rfl;have Tl:w8.cell? ⟨ya,2,none⟩=some (.int .i64 Ga):=(ga oa.out 2).trans rfl;have Sl:w8.cell? ⟨ya,3,none⟩=some (.int .i64 Ia):=(ga oa.out 3).trans rfl;have Rl:w8.cell? ⟨ya,4,none⟩=some (.int .i64 xb):=(ga oa.out 4).trans rfl;have JY:w8.cell? ⟨ya,5,none⟩=some (.int .i64 oc):=(ga oa.out 5).trans rfl;have IY:w8.cell? ⟨ya,6,none⟩=some (.string ic):=(ga oa.out 6).trans rfl;have Ql:=aa oa.out 0;have Ol:=aa oa.out 1;have Nl:=aa oa.out 2;have Ml:=aa oa.out 3;have Ll:=aa oa.out 4;have uY:=aa oa.out 5;have tY:=aa oa.out 6));go_ret;exact ⟨by first|rfl|(simp [Ma,La] <;> rfl)|(simp [*,Ma,La] <;> rfl),by repeat (first|(with_reducible first|exact HB.out|apply qa|apply ia|apply ta|refine ua ?_ Sa.out)|exact HB.out)⟩
mutual
def Xc.j0:Nat→List Int→Int→Bool→Int→Int→Int→Int→Int→Int→ByteArray→Option (List Int)
 | 0,_,_,_,_,_,_,_,_,_,_=>none
 | k + 1,x3,x6,x7,fc,Gc,nc,mc,Kb,Zk,Yk=>if x7=true then (if x3.length < 17592186044416 then (some (x3 ++ [nc])) else (none)) else (if x6=2 then ((some (([nc,mc]:List Int):List Int)).bind fun mg=>(if x3.length + mg.length < 17592186044416 then (some (x3 ++ mg)) else (none))) else (if x6=3 then (Xc.j1 k x3 (x6 == 3) fc Gc nc mc Kb Zk Yk) else (Xc.j1 k x3 (x6 == 4) fc Gc nc mc Kb Zk Yk)))
def Xc.j1:Nat→List Int→Bool→Int→Int→Int→Int→Int→Int→ByteArray→Option (List Int)
 | 0,_,_,_,_,_,_,_,_,_=>none
 | k + 1,x3,x24,fc,Gc,nc,mc,Kb,Zk,Yk=>if x24=true then (if x3.length < 17592186044416 then ((some (x3 ++ [mc]:List Int)).bind fun Nm=>(if nc ≥ 0 then (if Nm.length < 17592186044416 then ((some (Nm ++ [nc]:List Int)).bind fun Aq=>(if fc=4 then (if Aq.length < 17592186044416 then (some (Aq ++ [Kb])) else (none)) else (some Aq))) else (none)) else (if fc=4 then (if Nm.length < 17592186044416 then (some (Nm ++ [Kb])) else (none)) else (some Nm)))) else (none)) else (some x3)
end
def Xc.f (k:Nat) (Eb:Int) (Ka:Int) (Ga:Int) (Ia:Int) (xb:Int) (oc:Int) (ic:ByteArray):Option (List Int):=(some (([]:List Int):List Int)).bind fun Te=>(if Eb=1 then (Xc.j0 k Te Eb (Eb == 1) Eb Ka Ga Ia xb oc ic) else (Xc.j0 k Te Eb (Eb == 6) Eb Ka Ga Ia xb oc ic))
theorem Xc.calls (k:Nat) (Eb:Int) (Ka:Int) (Ga:Int) (Ia:Int) (xb:Int) (oc:Int) (ic:ByteArray) (r:List Int) (w:World) (h:Xc.f k Eb Ka Ga Ia xb oc ic=some r) :
  Calls Try.prog 88 #[.agg #[.int .i64 Eb,.int .i64 Ka,.int .i64 Ga,.int .i64 Ia,.int .i64 xb,.int .i64 oc,.string ic]] w fun e w'=>∃ kn:Value,e = .returned (kn)∧Kd.R (Kd.int .i64) 3 w' w.heap.size (fun _=>True) kn r∧Below w.heap.size w w':=by
 have ox:=Try.underlying65;have HB:=ja.mk (Below.refl w.heap.size w);have H:((some (([]:List Int):List Int)).bind fun Te=>(if Eb=1 then (Xc.j0 k Te Eb (Eb == 1) Eb Ka Ga Ia xb oc ic) else (Xc.j0 k Te Eb (Eb == 6) Eb Ka Ga Ia xb oc ic)))=some r:=h;clear h;obtain ⟨Te,Vf⟩:∃ y_:List Int,y_=(([]:List Int)):=⟨_,rfl⟩;replace H:(if Eb=1 then (Xc.j0 k Te Eb (Eb == 1) Eb Ka Ga Ia xb oc ic) else (Xc.j0 k Te Eb (Eb == 6) Eb Ka Ga Ia xb oc ic))=some r:=by first|(rw [Vf];with_reducible exact H)|(have ue:=(Option.bind_some _ _).symm.trans H;rw [Vf];with_reducible exact ue)|(have ue:=(Option.bind_some _ _).symm.trans H;with_reducible exact ue)|with_reducible exact H|(rw [Vf];exact H)|exact H
 have mj:=ja.mk Vf;clear Vf;have kS:=ja.mk H;clear H;go_enter Try.func88,Try.ntmps88
 go_upto_if 7 with (first|((with_reducible refine yb (N:=1) rfl ?_);refine Gb ?hg (N:=1) ?hd (cs:=#[.int .i64 Eb,.int .i64 Ka,.int .i64 Ga,.int .i64 Ia,.int .i64 xb,.int .i64 oc,.string ic]) (t:=65) ?hr ?_;(case hd=>rfl);(case hg=>rfl);(case hr=>first|(go_simp;done)|(go_simp;rfl));intro ya hg w3 Qb hb;have Fb:=ja.mk (Qa (by repeat (first|(with_reducible first|exact HB.out|apply qa|apply ia|apply ta)|exact HB.out)) hb);have Ib:=ja.mk (Qb);have Sb:=ja.mk ((by rw [hg];exact (Fa (by repeat (first|(with_reducible first|exact HB.out|apply qa|apply ia|apply ta)|exact HB.out))):w.heap.size ≤ ya));have Ec:=ja.mk ((by rw [hg];exact (Fa (by repeat (first|(with_reducible first|exact HB.out|apply qa|apply ia|apply ta)|exact HB.out))):w.heap.size ≤ ya));clear HB;have HB:=Fb;have oa:=Ib;have yd:=Sb;have Sa:=Ec;clear Fb Ib Sb Ec hb Qb hg)|((with_reducible refine yb (N:=4) rfl ?_);refine Kd.xj (Kd.int .i64) _ 3 ?hg (N:=4) ?hd (xs:=([]:List Int)) (inner:=[]) (ok:=fun _=>True) (ri:=fun _=>True) ?hr ?hp (fun _ hk=>hk) trivial (Below.refl _ _) (Nat.le_refl _) (by simp) ?_;(case hd=>rfl);(case hg=>rfl);(case hr=>first|(go_simp;done)|(go_simp;rfl));(case hp=>exact (zd.none _ _));intro zn w4 IC hb en Ve;clear en Ve;(first|rw [← mj.out] at IC|(simp only [Int.reduceToNat] at IC;rw [← mj.out] at IC));have Fb:=ja.mk (Kd.Rd IC (Fa (by repeat (first|(with_reducible first|exact HB.out|apply qa|apply ia|apply ta|refine ua ?_ Sa.out)|exact HB.out))));have Ib:=ja.mk (Ua (g:=ya) (o:=.cells #[.int .i64 Eb,.int .i64 Ka,.int .i64 Ga,.int .i64 Ia,.int .i64 xb,.int .i64 oc,.string ic] 65 (0,0)) (by (with_reducible repeat (first|refine Ba ?_ _|refine Ea ?_|refine Ca ?_ _));exact oa.out) hb);have Sb:=ja.mk (Qa (by repeat (first|(with_reducible first|exact HB.out|apply qa|apply ia|apply ta|refine ua ?_ Sa.out)|exact HB.out)) hb);clear oa HB;have Xg:=Fb;have oa:=Ib;have HB:=Sb;clear Fb Ib Sb hb IC;have Sj:w4.cell? ⟨ya,0,none⟩=some (.int .i64 Eb):=(ga oa.out 0).trans rfl;have Rj:w4.cell? ⟨ya,1,none⟩=some (.int .i64 Ka):=(ga oa.out 1).trans rfl;have Qj:w4.cell? ⟨ya,2,none⟩=some (.int .i64 Ga):=(ga oa.out 2).trans rfl;have Pj:w4.cell? ⟨ya,3,none⟩=some (.int .i64 Ia):=(ga oa.out 3).trans rfl;have Oj:w4.cell? ⟨ya,4,none⟩=some (.int .i64 xb):=(ga oa.out 4).trans rfl;have js:w4.cell? ⟨ya,5,none⟩=some (.int .i64 oc):=(ga oa.out 5).trans rfl;have Zr:w4.cell? ⟨ya,6,none⟩=some (.string ic):=(ga oa.out 6).trans rfl;have Nj:=aa oa.out 0;have Mj:=aa oa.out 1;have Lj:=aa oa.out 2;have Kj:=aa oa.out 3;have Jj:=aa oa.out 4;have sr:=aa oa.out 5;have nr:=aa oa.out 6))
 (try simp only [Act.put,List.setIfInBounds_toArray,List.set_cons_zero,List.set_cons_succ])
 go_cut [7] (fun v7 wc=>∃ (kq:Nat) (fA:Bool),v7 = .bool fA∧ja (Xc.j0 kq Te Eb fA Eb Ka Ga Ia xb oc ic=some r)∧ja (kq ≤ k)∧ja (Kd.R (Kd.int .i64) 3 wc w.heap.size (fun _=>True) zn Te)∧ja (wc.heap[ya]? = some (.cells #[.int .i64 Eb,.int .i64 Ka,.int .i64 Ga,.int .i64 Ia,.int .i64 xb,.int .i64 oc,.string ic] 65 (0,0)))∧ja (Below w.heap.size w wc))
 case first =>
  have H:=kS.out;clear kS
  by_cases c7:Eb=1
  ·rw [if_pos c7] at H;have Tj:(Eb == 1)=true:=beq_iff_eq.mpr c7;have Hq:(Eb != 1)=false:=bne_eq_false_iff_eq.mpr c7;clear c7;(first|rw [Tj]|(simp only [Xb,Yb];rw [Tj])|skip);have H':=ja.mk H;clear H;go_wp2
   go_meet
   case rel=>exact ⟨_,((Eb == 1)),(by first|rfl|(simp;done)|(simp [*];done)),H',⟨by first|omega|exact Nat.le_refl _⟩,⟨by (with_reducible repeat (first|apply Kd.Ab|apply Kd.zb|apply Kd.Rb));exact Xg.out⟩,⟨by (with_reducible repeat (first|refine Ba ?_ _|refine Ea ?_|refine Ca ?_ _));exact oa.out⟩,⟨by repeat (first|(with_reducible first|exact HB.out|apply qa|apply ia|apply ta|refine ua ?_ Sa.out)|exact HB.out)⟩⟩
  ·rw [if_neg c7] at H;have Tj:(Eb == 1)=false:=beq_eq_false_iff_ne.mpr c7;have Hq:(Eb != 1)=true:=bne_iff_ne.mpr c7;(first|rw [Tj]|(simp only [Xb,Yb];rw [Tj])|skip);have H':=ja.mk H;clear H;go_wp2
   go_meet
   case rel=>exact ⟨_,((Eb == 6)),(by first|rfl|(simp;done)|(simp [*];done)),H',⟨by first|omega|exact Nat.le_refl _⟩,⟨by (with_reducible repeat (first|apply Kd.Ab|apply Kd.zb|apply Kd.Rb));exact Xg.out⟩,⟨by (with_reducible repeat (first|refine Ba ?_ _|refine Ea ?_|refine Ca ?_ _));exact oa.out⟩,⟨by repeat (first|(with_reducible first|exact HB.out|apply qa|apply ia|apply ta|refine ua ?_ Sa.out)|exact HB.out)⟩⟩
 case rest =>
  clear kS
  try clear p2
  try clear c7
  try clear Tj
  try clear Hq
  try clear Sj
  try clear Rj
  try clear Qj
  try clear Pj
  try clear Oj
  try clear js
  try clear Zr
  try clear Nj
  try clear Mj
  try clear Lj
  try clear Kj
  try clear Jj
  try clear sr
  try clear nr
  obtain ⟨kq,fA,rfl,HA,uX,Vc,oa,HB⟩:=hcut;cases kq with
  | zero=>exact absurd HA.out (by simp [Xc.j0])
  | succ oQ =>
   have H:=HA.out;clear HA;simp only [Xc.j0] at H
   by_cases c8:fA=true
   ·subst c8;have H1:(if Te.length < 17592186044416 then (some (Te ++ [Ga])) else (none))=some r:=by rw [if_pos rfl] at H;exact H
    clear H;have H:=H1;clear H1
    by_cases c9:Te.length < 17592186044416
    ·rw [if_pos c9] at H;have YZ:=ja.mk c9;clear c9;obtain ⟨Ag,tf⟩:∃ y_:List Int,y_=(Te ++ [Ga]):=⟨_,rfl⟩;replace H:(some Ag)=some r:=by first|(rw [tf];with_reducible exact H)|(have ue:=(Option.bind_some _ _).symm.trans H;rw [tf];with_reducible exact ue)|(have ue:=(Option.bind_some _ _).symm.trans H;with_reducible exact ue)|with_reducible exact H|(rw [tf];exact H)|exact H
     have Uk:=ja.mk tf;clear tf;obtain rfl:=Option.some.inj H;have Fk:wc.cell? ⟨ya,0,none⟩=some (.int .i64 Eb):=(ga oa.out 0).trans rfl;have Ek:wc.cell? ⟨ya,1,none⟩=some (.int .i64 Ka):=(ga oa.out 1).trans rfl;have Dk:wc.cell? ⟨ya,2,none⟩=some (.int .i64 Ga):=(ga oa.out 2).trans rfl;have Ck:wc.cell? ⟨ya,3,none⟩=some (.int .i64 Ia):=(ga oa.out 3).trans rfl;have Bk:wc.cell? ⟨ya,4,none⟩=some (.int .i64 xb):=(ga oa.out 4).trans rfl;have Gy:wc.cell? ⟨ya,5,none⟩=some (.int .i64 oc):=(ga oa.out 5).trans rfl;have Fy:wc.cell? ⟨ya,6,none⟩=some (.string ic):=(ga oa.out 6).trans rfl;have Ak:=aa oa.out 0;have zk:=aa oa.out 1;have xk:=aa oa.out 2;have vk:=aa oa.out 3;have uk:=aa oa.out 4;have Xx:=aa oa.out 5;have Wx:=aa oa.out 6;go_wp2_with (first|((with_reducible refine Ud (b:=.append) (xs:=#[.tmp 10,.tmp 13]) rfl ?_);at_builtin;refine Kd.Rg (Kd.int .i64) (w0:=w) w.heap.size rfl (.tmp 10) (.tmp 13) 22 3 (.int .i64 0) 8 rfl Try.underlying22 info3 rfl (by decide) (by omega) zn Te Ga [.int .i64 Ga] (fun _=>True) (fun _=>False) rfl rfl ?aP (fun _ hk=>hk.elim) ?aF ?aO ?aB ?aS ?aL ?_;(case aP=>exact rfl);(case aB=>exact (by repeat (first|(with_reducible first|exact HB.out|apply qa|apply ia|apply ta|refine ua ?_ Sa.out)|exact HB.out)));(case aF=>exact (fun _ _=>trivial));(case aO=>exact (by (with_reducible repeat (first|apply Kd.Ab|apply Kd.zb|apply Kd.Rb));exact Vc.out));(case aS=>exact (Fa (by repeat (first|(with_reducible first|exact HB.out|apply qa|apply ia|apply ta|refine ua ?_ Sa.out)|exact HB.out))));(case aL=>have:=YZ.out;omega);intro Zy Xj ho hb hg hat;rw [← Uk.out] at ho;have Fb:=ja.mk (Ed (g:=ya) (o:=.cells #[.int .i64 Eb,.int .i64 Ka,.int .i64 Ga,.int .i64 Ia,.int .i64 xb,.int .i64 oc,.string ic] 65 (0,0)) (by (with_reducible repeat (first|refine Ba ?_ _|refine Ea ?_|refine Ca ?_ _));exact oa.out) hg (Kd.Vj Vc.out oa.out (by decide)));have Ib:=ja.mk (hb);have Sb:=ja.mk (ho);clear oa HB Vc;have oa:=Fb;have HB:=Ib;have qh:=Sb;clear Fb Ib Sb ho hb hg hat));go_ret;exact ⟨_,by first|rfl|(simp [Ma,La] <;> rfl)|(simp [*,Ma,La] <;> rfl),by (with_reducible repeat (first|apply Kd.Ab|apply Kd.zb|apply Kd.Rb));exact qh.out,by repeat (first|(with_reducible first|exact HB.out|apply qa|apply ia|apply ta|refine ua ?_ Sa.out)|exact HB.out)⟩
    ·rw [if_neg c9] at H;exact absurd H (by simp)
   ·replace c8:=Bool.eq_false_iff.mpr c8;subst c8;have H1:(if Eb=2 then ((some (([Ga,Ia]:List Int):List Int)).bind fun mg=>(if Te.length + mg.length < 17592186044416 then (some (Te ++ mg)) else (none))) else (if Eb=3 then (Xc.j1 oQ Te (Eb == 3) Eb Ka Ga Ia xb oc ic) else (Xc.j1 oQ Te (Eb == 4) Eb Ka Ga Ia xb oc ic)))=some r:=by rw [if_neg (show ¬ (false=true) by decide)] at H;exact H
    clear H;have H:=H1;clear H1
    by_cases nu:Eb=2
    ·rw [if_pos nu] at H;have bD:(Eb == 2)=true:=beq_iff_eq.mpr nu;have fX:(Eb != 2)=false:=bne_eq_false_iff_eq.mpr nu;clear nu;obtain ⟨mg,qf⟩:∃ y_:List Int,y_=(([Ga,Ia]:List Int)):=⟨_,rfl⟩;replace H:(if Te.length + mg.length < 17592186044416 then (some (Te ++ mg)) else (none))=some r:=by first|(rw [qf];with_reducible exact H)|(have ue:=(Option.bind_some _ _).symm.trans H;rw [qf];with_reducible exact ue)|(have ue:=(Option.bind_some _ _).symm.trans H;with_reducible exact ue)|with_reducible exact H|(rw [qf];exact H)|exact H
     have Bi:=ja.mk qf;clear qf
     by_cases iI:Te.length + mg.length < 17592186044416
     ·rw [if_pos iI] at H;have Y_:=ja.mk iI;clear iI;obtain ⟨Bo,Sm⟩:∃ y_:List Int,y_=(Te ++ mg):=⟨_,rfl⟩;replace H:(some Bo)=some r:=by first|(rw [Sm];with_reducible exact H)|(have ue:=(Option.bind_some _ _).symm.trans H;rw [Sm];with_reducible exact ue)|(have ue:=(Option.bind_some _ _).symm.trans H;with_reducible exact ue)|with_reducible exact H|(rw [Sm];exact H)|exact H
      have sE:=ja.mk Sm;clear Sm;obtain rfl:=Option.some.inj H;have ij:wc.cell? ⟨ya,0,none⟩=some (.int .i64 Eb):=(ga oa.out 0).trans rfl;have gj:wc.cell? ⟨ya,1,none⟩=some (.int .i64 Ka):=(ga oa.out 1).trans rfl;have fj:wc.cell? ⟨ya,2,none⟩=some (.int .i64 Ga):=(ga oa.out 2).trans rfl;have ej:wc.cell? ⟨ya,3,none⟩=some (.int .i64 Ia):=(ga oa.out 3).trans rfl;have cj:wc.cell? ⟨ya,4,none⟩=some (.int .i64 xb):=(ga oa.out 4).trans rfl;have GN:wc.cell? ⟨ya,5,none⟩=some (.int .i64 oc):=(ga oa.out 5).trans rfl;have FN:wc.cell? ⟨ya,6,none⟩=some (.string ic):=(ga oa.out 6).trans rfl;have aj:=aa oa.out 0;have Zi:=aa oa.out 1;have Yi:=aa oa.out 2;have Xi:=aa oa.out 3;have Wi:=aa oa.out 4;have zM:=aa oa.out 5;have yM:=aa oa.out 6;go_wp2_with (first|((with_reducible refine yb (N:=22) rfl ?_);refine Kd.xj (Kd.int .i64) _ 3 ?hg (N:=22) ?hd (xs:=([Ga,Ia]:List Int)) (inner:=[.int .i64 Ga,.int .i64 Ia]) (ok:=fun _=>True) (ri:=fun _=>True) ?hr ?hp (fun _ hk=>hk) trivial (Below.refl _ _) (Nat.le_refl _) (by simp) ?_;(case hd=>rfl);(case hg=>rfl);(case hr=>first|(go_simp;done)|(go_simp;rfl));(case hp=>exact (zd.one (show Kd.M (Kd.int .i64) _ _ _ Ga [.int .i64 Ga] from rfl) (zd.one (show Kd.M (Kd.int .i64) _ _ _ Ia [.int .i64 Ia] from rfl) (zd.none _ _))));intro ED gC UO hb en Ve;clear en Ve;(first|rw [← Bi.out] at UO|(simp only [Int.reduceToNat] at UO;rw [← Bi.out] at UO));have Fb:=ja.mk (Kd.Uo (by (with_reducible repeat (first|apply Kd.Ab|apply Kd.zb|apply Kd.Rb));exact Vc.out) (Kd.Vo UO) hb);have Ib:=ja.mk (Kd.Rd (Kd.Yv UO (Kd.oI (by (with_reducible repeat (first|apply Kd.Ab|apply Kd.zb|apply Kd.Rb));exact Vc.out))) (Fa (by repeat (first|(with_reducible first|exact HB.out|apply qa|apply ia|apply ta|refine ua ?_ Sa.out)|exact HB.out))));have Sb:=ja.mk (Ua (g:=ya) (o:=.cells #[.int .i64 Eb,.int .i64 Ka,.int .i64 Ga,.int .i64 Ia,.int .i64 xb,.int .i64 oc,.string ic] 65 (0,0)) (by (with_reducible repeat (first|refine Ba ?_ _|refine Ea ?_|refine Ca ?_ _));exact oa.out) hb);have Ec:=ja.mk (Qa (by repeat (first|(with_reducible first|exact HB.out|apply qa|apply ia|apply ta|refine ua ?_ Sa.out)|exact HB.out)) hb);clear Vc oa HB;have Vc:=Fb;have yh:=Ib;have oa:=Sb;have HB:=Ec;clear Fb Ib Sb Ec hb UO;obtain ⟨Kal,Rak,Cak⟩:=Kd.De yh.out;subst Cak)|((with_reducible refine Ud (b:=.append) (xs:=#[.tmp 17,.tmp 22]) rfl ?_);at_builtin;refine Kd.Fi (Kd.int .i64) (w0:=w) w.heap.size rfl (.tmp 17) (.tmp 22) 22 3 (.int .i64 0) 8 rfl Try.underlying22 info3 rfl (by decide) (by omega) zn Te mg _ _ _ (fun k_=>some k_ ≠ (.slice Kal mg.length Rak:Value).ownBlock) (fun _=>False) rfl rfl ?aO ?aR (fun _ _ h=>h) (fun _ h=>h.elim) ?aF ?aB ?aS ?aL ?_;(case aR=>repeat (first|exact (Kd.Lc yh.out).2.2|(with_reducible refine Kd.Pb ?_ _)|(with_reducible refine Kd.Nb ?_ _)|(with_reducible refine Kd.Zb ?_)));(case aB=>exact (by repeat (first|(with_reducible first|exact HB.out|apply qa|apply ia|apply ta|refine ua ?_ Sa.out)|exact HB.out)));(case aF=>exact (fun k_ hk=>Kd.fresh' (Kd.oI (by (with_reducible repeat (first|apply Kd.Ab|apply Kd.zb|apply Kd.Rb));exact yh.out)) k_ hk));(case aO=>exact (by (with_reducible repeat (first|apply Kd.Ab|apply Kd.zb|apply Kd.Rb));exact Kd.fe Vc.out (fun _ hk=>hk.2)));(case aS=>exact (Fa (by repeat (first|(with_reducible first|exact HB.out|apply qa|apply ia|apply ta|refine ua ?_ Sa.out)|exact HB.out))));(case aL=>have:=Y_.out;omega);intro LX bw ho hb hg hat;rw [← sE.out] at ho;have Fb:=ja.mk (Ed (g:=ya) (o:=.cells #[.int .i64 Eb,.int .i64 Ka,.int .i64 Ga,.int .i64 Ia,.int .i64 xb,.int .i64 oc,.string ic] 65 (0,0)) (by (with_reducible repeat (first|refine Ba ?_ _|refine Ea ?_|refine Ca ?_ _));exact oa.out) hg (Kd.Vj Vc.out oa.out (by decide)));have Ib:=ja.mk (Kd.NV (ok:=(fun _=>True)) (by (with_reducible repeat (first|apply Kd.Ab|apply Kd.zb|apply Kd.Rb));exact yh.out) hg hat);have Sb:=ja.mk (hb);have Ec:=ja.mk (ho);clear oa yh HB Vc;have oa:=Fb;have yh:=Ib;have HB:=Sb;have nD:=Ec;clear Fb Ib Sb Ec ho hb hg hat));go_ret;exact ⟨_,by first|rfl|(simp [Ma,La] <;> rfl)|(simp [*,Ma,La] <;> rfl),by (with_reducible repeat (first|apply Kd.Ab|apply Kd.zb|apply Kd.Rb));exact Kd.fe nD.out (fun _ hk=>trivial),by repeat (first|(with_reducible first|exact HB.out|apply qa|apply ia|apply ta|refine ua ?_ Sa.out)|exact HB.out)⟩
     ·rw [if_neg iI] at H;exact absurd H (by simp)
    ·rw [if_neg nu] at H;have bD:(Eb == 2)=false:=beq_eq_false_iff_ne.mpr nu;have fX:(Eb != 2)=true:=bne_iff_ne.mpr nu;have R0:=ja.mk H;clear H
     go_upto_if 24 with (fail)
     go_cut [24] (fun v24 wc=>∃ (kq:Nat) (AE:Bool),v24 = .bool AE∧ja (Xc.j1 kq Te AE Eb Ka Ga Ia xb oc ic=some r)∧ja (kq ≤ oQ)∧ja (Kd.R (Kd.int .i64) 3 wc w.heap.size (fun _=>True) zn Te)∧ja (wc.heap[ya]? = some (.cells #[.int .i64 Eb,.int .i64 Ka,.int .i64 Ga,.int .i64 Ia,.int .i64 xb,.int .i64 oc,.string ic] 65 (0,0)))∧ja (Below w.heap.size w wc))
     case first =>
      have H:=R0.out;clear R0
      by_cases Pq:Eb=3
      ·rw [if_pos Pq] at H;have Ly:(Eb == 3)=true:=beq_iff_eq.mpr Pq;have dX:(Eb != 3)=false:=bne_eq_false_iff_eq.mpr Pq;clear Pq;(first|rw [Ly]|(simp only [Xb,Yb];rw [Ly])|skip);have H':=ja.mk H;clear H;go_wp2
       go_meet
       case rel=>exact ⟨_,((Eb == 3)),(by first|rfl|(simp;done)|(simp [*];done)),H',⟨by have:=uX.out;first|omega|exact Nat.le_refl _⟩,⟨by (with_reducible repeat (first|apply Kd.Ab|apply Kd.zb|apply Kd.Rb));exact Vc.out⟩,⟨by (with_reducible repeat (first|refine Ba ?_ _|refine Ea ?_|refine Ca ?_ _));exact oa.out⟩,⟨by repeat (first|(with_reducible first|exact HB.out|apply qa|apply ia|apply ta|refine ua ?_ Sa.out)|exact HB.out)⟩⟩
      ·rw [if_neg Pq] at H;have Ly:(Eb == 3)=false:=beq_eq_false_iff_ne.mpr Pq;have dX:(Eb != 3)=true:=bne_iff_ne.mpr Pq;(first|rw [Ly]|(simp only [Xb,Yb];rw [Ly])|skip);have H':=ja.mk H;clear H;go_wp2
       go_meet
       case rel=>exact ⟨_,((Eb == 4)),(by first|rfl|(simp;done)|(simp [*];done)),H',⟨by have:=uX.out;first|omega|exact Nat.le_refl _⟩,⟨by (with_reducible repeat (first|apply Kd.Ab|apply Kd.zb|apply Kd.Rb));exact Vc.out⟩,⟨by (with_reducible repeat (first|refine Ba ?_ _|refine Ea ?_|refine Ca ?_ _));exact oa.out⟩,⟨by repeat (first|(with_reducible first|exact HB.out|apply qa|apply ia|apply ta|refine ua ?_ Sa.out)|exact HB.out)⟩⟩
     case rest =>
      clear R0
      try clear c1
      try clear c2
      try clear p2
      try clear c7
      try clear Tj
      try clear Hq
      try clear c8
      try clear c9
      try clear nu
      try clear bD
      try clear fX
      try clear iI
      try clear Pq
      try clear Ly
      try clear dX
      try clear Fk
      try clear Ek
      try clear Dk
      try clear Ck
      try clear Bk
      try clear Gy
      try clear Fy
      try clear ij
      try clear gj
      try clear fj
      try clear ej
      try clear cj
      try clear GN
      try clear FN
      try clear Sj
      try clear Rj
      try clear Qj
      try clear Pj
      try clear Oj
      try clear js
      try clear Zr
      try clear Ak
      try clear zk
      try clear xk
      try clear vk
      try clear uk
      try clear Xx
      try clear Wx
      try clear aj
      try clear Zi
      try clear Yi
      try clear Xi
      try clear Wi
      try clear zM
      try clear yM
      try clear Nj
      try clear Mj
      try clear Lj
      try clear Kj
      try clear Jj
      try clear sr
      try clear nr
      try clear p2
      obtain ⟨kq,AE,rfl,HA,Qaq,Vc,oa,HB⟩:=hcut;cases kq with
      | zero=>exact absurd HA.out (by simp [Xc.j1])
      | succ Dap =>
       have H:=HA.out;clear HA;simp only [Xc.j1] at H
       by_cases Ky:AE=true
       ·subst Ky;have H1:(if Te.length < 17592186044416 then ((some (Te ++ [Ia]:List Int)).bind fun Nm=>(if Ga ≥ 0 then (if Nm.length < 17592186044416 then ((some (Nm ++ [Ga]:List Int)).bind fun Aq=>(if Eb=4 then (if Aq.length < 17592186044416 then (some (Aq ++ [xb])) else (none)) else (some Aq))) else (none)) else (if Eb=4 then (if Nm.length < 17592186044416 then (some (Nm ++ [xb])) else (none)) else (some Nm)))) else (none))=some r:=by rw [if_pos rfl] at H;exact H
        clear H;have H:=H1;clear H1
        by_cases FV:Te.length < 17592186044416
        ·rw [if_pos FV] at H;have gO:=ja.mk FV;clear FV;obtain ⟨Nm,gu⟩:∃ y_:List Int,y_=(Te ++ [Ia]):=⟨_,rfl⟩;replace H:(if Ga ≥ 0 then (if Nm.length < 17592186044416 then ((some (Nm ++ [Ga]:List Int)).bind fun Aq=>(if Eb=4 then (if Aq.length < 17592186044416 then (some (Aq ++ [xb])) else (none)) else (some Aq))) else (none)) else (if Eb=4 then (if Nm.length < 17592186044416 then (some (Nm ++ [xb])) else (none)) else (some Nm)))=some r:=by first|(rw [gu];with_reducible exact H)|(have ue:=(Option.bind_some _ _).symm.trans H;rw [gu];with_reducible exact ue)|(have ue:=(Option.bind_some _ _).symm.trans H;with_reducible exact ue)|with_reducible exact H|(rw [gu];exact H)|exact H
         have rE:=ja.mk gu;clear gu
         by_cases MG:Ga ≥ 0
         ·rw [if_pos MG] at H;have SN:decide (0 ≤ Ga)=true:=decide_eq_true MG;clear MG
          by_cases nP:Nm.length < 17592186044416
          ·rw [if_pos nP] at H;have pX:=ja.mk nP;clear nP;obtain ⟨Aq,fu⟩:∃ y_:List Int,y_=(Nm ++ [Ga]):=⟨_,rfl⟩;replace H:(if Eb=4 then (if Aq.length < 17592186044416 then (some (Aq ++ [xb])) else (none)) else (some Aq))=some r:=by first|(rw [fu];with_reducible exact H)|(have ue:=(Option.bind_some _ _).symm.trans H;rw [fu];with_reducible exact ue)|(have ue:=(Option.bind_some _ _).symm.trans H;with_reducible exact ue)|with_reducible exact H|(rw [fu];exact H)|exact H
           have eO:=ja.mk fu;clear fu
           by_cases aD:Eb=4
           ·rw [if_pos aD] at H;have Jt:(Eb == 4)=true:=beq_iff_eq.mpr aD;have l_:(Eb != 4)=false:=bne_eq_false_iff_eq.mpr aD;clear aD
            by_cases gK:Aq.length < 17592186044416
            ·rw [if_pos gK] at H;have V_:=ja.mk gK;clear gK;obtain ⟨CX,eu⟩:∃ y_:List Int,y_=(Aq ++ [xb]):=⟨_,rfl⟩;replace H:(some CX)=some r:=by first|(rw [eu];with_reducible exact H)|(have ue:=(Option.bind_some _ _).symm.trans H;rw [eu];with_reducible exact ue)|(have ue:=(Option.bind_some _ _).symm.trans H;with_reducible exact ue)|with_reducible exact H|(rw [eu];exact H)|exact H
             have dO:=ja.mk eu;clear eu;obtain rfl:=Option.some.inj H;have Lm:wc.cell? ⟨ya,0,none⟩=some (.int .i64 Eb):=(ga oa.out 0).trans rfl;have Km:wc.cell? ⟨ya,1,none⟩=some (.int .i64 Ka):=(ga oa.out 1).trans rfl;have Jm:wc.cell? ⟨ya,2,none⟩=some (.int .i64 Ga):=(ga oa.out 2).trans rfl;have Im:wc.cell? ⟨ya,3,none⟩=some (.int .i64 Ia):=(ga oa.out 3).trans rfl;have Gm:wc.cell? ⟨ya,4,none⟩=some (.int .i64 xb):=(ga oa.out 4).trans rfl;have zG:wc.cell? ⟨ya,5,none⟩=some (.int .i64 oc):=(ga oa.out 5).trans rfl;have yG:wc.cell? ⟨ya,6,none⟩=some (.string ic):=(ga oa.out 6).trans rfl;have Fm:=aa oa.out 0;have Em:=aa oa.out 1;have Dm:=aa oa.out 2;have Cm:=aa oa.out 3;have Bm:=aa oa.out 4;have LF:=aa oa.out 5;have KF:=aa oa.out 6;go_wp2_with (first|((with_reducible refine Ud (b:=.append) (xs:=#[.tmp 27,.tmp 30]) rfl ?_);at_builtin;refine Kd.Rg (Kd.int .i64) (w0:=w) w.heap.size rfl (.tmp 27) (.tmp 30) 22 3 (.int .i64 0) 8 rfl Try.underlying22 info3 rfl (by decide) (by omega) zn Te Ia [.int .i64 Ia] (fun _=>True) (fun _=>False) rfl rfl ?aP (fun _ hk=>hk.elim) ?aF ?aO ?aB ?aS ?aL ?_;(case aP=>exact rfl);(case aB=>exact (by repeat (first|(with_reducible first|exact HB.out|apply qa|apply ia|apply ta|refine ua ?_ Sa.out)|exact HB.out)));(case aF=>exact (fun _ _=>trivial));(case aO=>exact (by (with_reducible repeat (first|apply Kd.Ab|apply Kd.zb|apply Kd.Rb));exact Vc.out));(case aS=>exact (Fa (by repeat (first|(with_reducible first|exact HB.out|apply qa|apply ia|apply ta|refine ua ?_ Sa.out)|exact HB.out))));(case aL=>have:=gO.out;omega);intro FI Mv ho hb hg hat;rw [← rE.out] at ho;have Fb:=ja.mk (Ed (g:=ya) (o:=.cells #[.int .i64 Eb,.int .i64 Ka,.int .i64 Ga,.int .i64 Ia,.int .i64 xb,.int .i64 oc,.string ic] 65 (0,0)) (by (with_reducible repeat (first|refine Ba ?_ _|refine Ea ?_|refine Ca ?_ _));exact oa.out) hg (Kd.Vj Vc.out oa.out (by decide)));have Ib:=ja.mk (hb);have Sb:=ja.mk (ho);clear oa HB Vc;have oa:=Fb;have HB:=Ib;have Wo:=Sb;clear Fb Ib Sb ho hb hg hat;have AB:Mv.cell? ⟨ya,0,none⟩=some (.int .i64 Eb):=(ga oa.out 0).trans rfl;have zB:Mv.cell? ⟨ya,1,none⟩=some (.int .i64 Ka):=(ga oa.out 1).trans rfl;have yB:Mv.cell? ⟨ya,2,none⟩=some (.int .i64 Ga):=(ga oa.out 2).trans rfl;have xB:Mv.cell? ⟨ya,3,none⟩=some (.int .i64 Ia):=(ga oa.out 3).trans rfl;have wB:Mv.cell? ⟨ya,4,none⟩=some (.int .i64 xb):=(ga oa.out 4).trans rfl;have eV:Mv.cell? ⟨ya,5,none⟩=some (.int .i64 oc):=(ga oa.out 5).trans rfl;have dV:Mv.cell? ⟨ya,6,none⟩=some (.string ic):=(ga oa.out 6).trans rfl;have RA:=aa oa.out 0;have QA:=aa oa.out 1;have PA:=aa oa.out 2;have OA:=aa oa.out 3;have NA:=aa oa.out 4;have kU:=aa oa.out 5;have jU:=aa oa.out 6)|((with_reducible refine Ud (b:=.append) (xs:=#[.tmp 35,.tmp 38]) rfl ?_);at_builtin;refine Kd.Rg (Kd.int .i64) (w0:=w) w.heap.size rfl (.tmp 35) (.tmp 38) 22 3 (.int .i64 0) 8 rfl Try.underlying22 info3 rfl (by decide) (by omega) FI Nm Ga [.int .i64 Ga] (fun _=>True) (fun _=>False) rfl rfl ?aP (fun _ hk=>hk.elim) ?aF ?aO ?aB ?aS ?aL ?_;(case aP=>exact rfl);(case aB=>exact (by repeat (first|(with_reducible first|exact HB.out|apply qa|apply ia|apply ta|refine ua ?_ Sa.out)|exact HB.out)));(case aF=>exact (fun _ _=>trivial));(case aO=>exact (by (with_reducible repeat (first|apply Kd.Ab|apply Kd.zb|apply Kd.Rb));exact Wo.out));(case aS=>exact (Fa (by repeat (first|(with_reducible first|exact HB.out|apply qa|apply ia|apply ta|refine ua ?_ Sa.out)|exact HB.out))));(case aL=>have:=pX.out;omega);intro KX fC ho hb hg hat;rw [← eO.out] at ho;have Fb:=ja.mk (Ed (g:=ya) (o:=.cells #[.int .i64 Eb,.int .i64 Ka,.int .i64 Ga,.int .i64 Ia,.int .i64 xb,.int .i64 oc,.string ic] 65 (0,0)) (by (with_reducible repeat (first|refine Ba ?_ _|refine Ea ?_|refine Ca ?_ _));exact oa.out) hg (Kd.Vj Wo.out oa.out (by decide)));have Ib:=ja.mk (hb);have Sb:=ja.mk (ho);clear oa HB Wo;have oa:=Fb;have HB:=Ib;have mD:=Sb;clear Fb Ib Sb ho hb hg hat;have Fs:fC.cell? ⟨ya,0,none⟩=some (.int .i64 Eb):=(ga oa.out 0).trans rfl;have Es:fC.cell? ⟨ya,1,none⟩=some (.int .i64 Ka):=(ga oa.out 1).trans rfl;have Ds:fC.cell? ⟨ya,2,none⟩=some (.int .i64 Ga):=(ga oa.out 2).trans rfl;have Cs:fC.cell? ⟨ya,3,none⟩=some (.int .i64 Ia):=(ga oa.out 3).trans rfl;have Bs:fC.cell? ⟨ya,4,none⟩=some (.int .i64 xb):=(ga oa.out 4).trans rfl;have XU:fC.cell? ⟨ya,5,none⟩=some (.int .i64 oc):=(ga oa.out 5).trans rfl;have WU:fC.cell? ⟨ya,6,none⟩=some (.string ic):=(ga oa.out 6).trans rfl;have Br:=aa oa.out 0;have Ar:=aa oa.out 1;have vr:=aa oa.out 2;have ur:=aa oa.out 3;have tr:=aa oa.out 4;have dU:=aa oa.out 5;have cU:=aa oa.out 6)|((with_reducible refine Ud (b:=.append) (xs:=#[.tmp 43,.tmp 46]) rfl ?_);at_builtin;refine Kd.Rg (Kd.int .i64) (w0:=w) w.heap.size rfl (.tmp 43) (.tmp 46) 22 3 (.int .i64 0) 8 rfl Try.underlying22 info3 rfl (by decide) (by omega) KX Aq xb [.int .i64 xb] (fun _=>True) (fun _=>False) rfl rfl ?aP (fun _ hk=>hk.elim) ?aF ?aO ?aB ?aS ?aL ?_;(case aP=>exact rfl);(case aB=>exact (by repeat (first|(with_reducible first|exact HB.out|apply qa|apply ia|apply ta|refine ua ?_ Sa.out)|exact HB.out)));(case aF=>exact (fun _ _=>trivial));(case aO=>exact (by (with_reducible repeat (first|apply Kd.Ab|apply Kd.zb|apply Kd.Rb));exact mD.out));(case aS=>exact (Fa (by repeat (first|(with_reducible first|exact HB.out|apply qa|apply ia|apply ta|refine ua ?_ Sa.out)|exact HB.out))));(case aL=>have:=V_.out;omega);intro zai sO ho hb hg hat;rw [← dO.out] at ho;have Fb:=ja.mk (Ed (g:=ya) (o:=.cells #[.int .i64 Eb,.int .i64 Ka,.int .i64 Ga,.int .i64 Ia,.int .i64 xb,.int .i64 oc,.string ic] 65 (0,0)) (by (with_reducible repeat (first|refine Ba ?_ _|refine Ea ?_|refine Ca ?_ _));exact oa.out) hg (Kd.Vj mD.out oa.out (by decide)));have Ib:=ja.mk (hb);have Sb:=ja.mk (ho);clear oa HB mD;have oa:=Fb;have HB:=Ib;have eS:=Sb;clear Fb Ib Sb ho hb hg hat));go_ret;exact ⟨_,by first|rfl|(simp [Ma,La] <;> rfl)|(simp [*,Ma,La] <;> rfl),by (with_reducible repeat (first|apply Kd.Ab|apply Kd.zb|apply Kd.Rb));exact eS.out,by repeat (first|(with_reducible first|exact HB.out|apply qa|apply ia|apply ta|refine ua ?_ Sa.out)|exact HB.out)⟩
            ·rw [if_neg gK] at H;exact absurd H (by simp)
           ·rw [if_neg aD] at H;have Jt:(Eb == 4)=false:=beq_eq_false_iff_ne.mpr aD;have l_:(Eb != 4)=true:=bne_iff_ne.mpr aD;obtain rfl:=Option.some.inj H;have zN:wc.cell? ⟨ya,0,none⟩=some (.int .i64 Eb):=(ga oa.out 0).trans rfl;have yN:wc.cell? ⟨ya,1,none⟩=some (.int .i64 Ka):=(ga oa.out 1).trans rfl;have xN:wc.cell? ⟨ya,2,none⟩=some (.int .i64 Ga):=(ga oa.out 2).trans rfl;have wN:wc.cell? ⟨ya,3,none⟩=some (.int .i64 Ia):=(ga oa.out 3).trans rfl;have vN:wc.cell? ⟨ya,4,none⟩=some (.int .i64 xb):=(ga oa.out 4).trans rfl;have uN:wc.cell? ⟨ya,5,none⟩=some (.int .i64 oc):=(ga oa.out 5).trans rfl;have tN:wc.cell? ⟨ya,6,none⟩=some (.string ic):=(ga oa.out 6).trans rfl;have tM:=aa oa.out 0;have sM:=aa oa.out 1;have rM:=aa oa.out 2;have qM:=aa oa.out 3;have pM:=aa oa.out 4;have oM:=aa oa.out 5;have nM:=aa oa.out 6;go_wp2_with (first|((with_reducible refine Ud (b:=.append) (xs:=#[.tmp 27,.tmp 30]) rfl ?_);at_builtin;refine Kd.Rg (Kd.int .i64) (w0:=w) w.heap.size rfl (.tmp 27) (.tmp 30) 22 3 (.int .i64 0) 8 rfl Try.underlying22 info3 rfl (by decide) (by omega) zn Te Ia [.int .i64 Ia] (fun _=>True) (fun _=>False) rfl rfl ?aP (fun _ hk=>hk.elim) ?aF ?aO ?aB ?aS ?aL ?_;(case aP=>exact rfl);(case aB=>exact (by repeat (first|(with_reducible first|exact HB.out|apply qa|apply ia|apply ta|refine ua ?_ Sa.out)|exact HB.out)));(case aF=>exact (fun _ _=>trivial));(case aO=>exact (by (with_reducible repeat (first|apply Kd.Ab|apply Kd.zb|apply Kd.Rb));exact Vc.out));(case aS=>exact (Fa (by repeat (first|(with_reducible first|exact HB.out|apply qa|apply ia|apply ta|refine ua ?_ Sa.out)|exact HB.out))));(case aL=>have:=gO.out;omega);intro FI FE ho hb hg hat;rw [← rE.out] at ho;have Fb:=ja.mk (Ed (g:=ya) (o:=.cells #[.int .i64 Eb,.int .i64 Ka,.int .i64 Ga,.int .i64 Ia,.int .i64 xb,.int .i64 oc,.string ic] 65 (0,0)) (by (with_reducible repeat (first|refine Ba ?_ _|refine Ea ?_|refine Ca ?_ _));exact oa.out) hg (Kd.Vj Vc.out oa.out (by decide)));have Ib:=ja.mk (hb);have Sb:=ja.mk (ho);clear oa HB Vc;have oa:=Fb;have HB:=Ib;have Wo:=Sb;clear Fb Ib Sb ho hb hg hat;have lN:FE.cell? ⟨ya,0,none⟩=some (.int .i64 Eb):=(ga oa.out 0).trans rfl;have kN:FE.cell? ⟨ya,1,none⟩=some (.int .i64 Ka):=(ga oa.out 1).trans rfl;have jN:FE.cell? ⟨ya,2,none⟩=some (.int .i64 Ga):=(ga oa.out 2).trans rfl;have iN:FE.cell? ⟨ya,3,none⟩=some (.int .i64 Ia):=(ga oa.out 3).trans rfl;have gN:FE.cell? ⟨ya,4,none⟩=some (.int .i64 xb):=(ga oa.out 4).trans rfl;have tah:FE.cell? ⟨ya,5,none⟩=some (.int .i64 oc):=(ga oa.out 5).trans rfl;have sah:FE.cell? ⟨ya,6,none⟩=some (.string ic):=(ga oa.out 6).trans rfl;have eM:=aa oa.out 0;have dM:=aa oa.out 1;have cM:=aa oa.out 2;have bM:=aa oa.out 3;have aM:=aa oa.out 4;have jae:=aa oa.out 5;have iae:=aa oa.out 6)|((with_reducible refine Ud (b:=.append) (xs:=#[.tmp 35,.tmp 38]) rfl ?_);at_builtin;refine Kd.Rg (Kd.int .i64) (w0:=w) w.heap.size rfl (.tmp 35) (.tmp 38) 22 3 (.int .i64 0) 8 rfl Try.underlying22 info3 rfl (by decide) (by omega) FI Nm Ga [.int .i64 Ga] (fun _=>True) (fun _=>False) rfl rfl ?aP (fun _ hk=>hk.elim) ?aF ?aO ?aB ?aS ?aL ?_;(case aP=>exact rfl);(case aB=>exact (by repeat (first|(with_reducible first|exact HB.out|apply qa|apply ia|apply ta|refine ua ?_ Sa.out)|exact HB.out)));(case aF=>exact (fun _ _=>trivial));(case aO=>exact (by (with_reducible repeat (first|apply Kd.Ab|apply Kd.zb|apply Kd.Rb));exact Wo.out));(case aS=>exact (Fa (by repeat (first|(with_reducible first|exact HB.out|apply qa|apply ia|apply ta|refine ua ?_ Sa.out)|exact HB.out))));(case aL=>have:=pX.out;omega);intro KX eC ho hb hg hat;rw [← eO.out] at ho;have Fb:=ja.mk (Ed (g:=ya) (o:=.cells #[.int .i64 Eb,.int .i64 Ka,.int .i64 Ga,.int .i64 Ia,.int .i64 xb,.int .i64 oc,.string ic] 65 (0,0)) (by (with_reducible repeat (first|refine Ba ?_ _|refine Ea ?_|refine Ca ?_ _));exact oa.out) hg (Kd.Vj Wo.out oa.out (by decide)));have Ib:=ja.mk (hb);have Sb:=ja.mk (ho);clear oa HB Wo;have oa:=Fb;have HB:=Ib;have mD:=Sb;clear Fb Ib Sb ho hb hg hat;have fN:eC.cell? ⟨ya,0,none⟩=some (.int .i64 Eb):=(ga oa.out 0).trans rfl;have eN:eC.cell? ⟨ya,1,none⟩=some (.int .i64 Ka):=(ga oa.out 1).trans rfl;have dN:eC.cell? ⟨ya,2,none⟩=some (.int .i64 Ga):=(ga oa.out 2).trans rfl;have cN:eC.cell? ⟨ya,3,none⟩=some (.int .i64 Ia):=(ga oa.out 3).trans rfl;have bN:eC.cell? ⟨ya,4,none⟩=some (.int .i64 xb):=(ga oa.out 4).trans rfl;have pah:eC.cell? ⟨ya,5,none⟩=some (.int .i64 oc):=(ga oa.out 5).trans rfl;have oah:eC.cell? ⟨ya,6,none⟩=some (.string ic):=(ga oa.out 6).trans rfl;have ZL:=aa oa.out 0;have YL:=aa oa.out 1;have XL:=aa oa.out 2;have WL:=aa oa.out 3;have VL:=aa oa.out 4;have fae:=aa oa.out 5;have eae:=aa oa.out 6));go_ret;exact ⟨_,by first|rfl|(simp [Ma,La] <;> rfl)|(simp [*,Ma,La] <;> rfl),by (with_reducible repeat (first|apply Kd.Ab|apply Kd.zb|apply Kd.Rb));exact mD.out,by repeat (first|(with_reducible first|exact HB.out|apply qa|apply ia|apply ta|refine ua ?_ Sa.out)|exact HB.out)⟩
          ·rw [if_neg nP] at H;exact absurd H (by simp)
         ·rw [if_neg MG] at H;have SN:decide (0 ≤ Ga)=false:=decide_eq_false MG;clear MG
          by_cases BP:Eb=4
          ·rw [if_pos BP] at H;have TW:(Eb == 4)=true:=beq_iff_eq.mpr BP;have W9:(Eb != 4)=false:=bne_eq_false_iff_eq.mpr BP;clear BP
           by_cases CS:Nm.length < 17592186044416
           ·rw [if_pos CS] at H;have S_:=ja.mk CS;clear CS;obtain ⟨nai,DH⟩:∃ y_:List Int,y_=(Nm ++ [xb]):=⟨_,rfl⟩;replace H:(some nai)=some r:=by first|(rw [DH];with_reducible exact H)|(have ue:=(Option.bind_some _ _).symm.trans H;rw [DH];with_reducible exact ue)|(have ue:=(Option.bind_some _ _).symm.trans H;with_reducible exact ue)|with_reducible exact H|(rw [DH];exact H)|exact H
            have M_:=ja.mk DH;clear DH;obtain rfl:=Option.some.inj H;have fy:wc.cell? ⟨ya,0,none⟩=some (.int .i64 Eb):=(ga oa.out 0).trans rfl;have ey:wc.cell? ⟨ya,1,none⟩=some (.int .i64 Ka):=(ga oa.out 1).trans rfl;have dy:wc.cell? ⟨ya,2,none⟩=some (.int .i64 Ga):=(ga oa.out 2).trans rfl;have Zx:wc.cell? ⟨ya,3,none⟩=some (.int .i64 Ia):=(ga oa.out 3).trans rfl;have Yx:wc.cell? ⟨ya,4,none⟩=some (.int .i64 xb):=(ga oa.out 4).trans rfl;have YM:wc.cell? ⟨ya,5,none⟩=some (.int .i64 oc):=(ga oa.out 5).trans rfl;have XM:wc.cell? ⟨ya,6,none⟩=some (.string ic):=(ga oa.out 6).trans rfl;have Gx:=aa oa.out 0;have Fx:=aa oa.out 1;have Ex:=aa oa.out 2;have Dx:=aa oa.out 3;have Cx:=aa oa.out 4;have SL:=aa oa.out 5;have RL:=aa oa.out 6;go_wp2_with (first|((with_reducible refine Ud (b:=.append) (xs:=#[.tmp 27,.tmp 30]) rfl ?_);at_builtin;refine Kd.Rg (Kd.int .i64) (w0:=w) w.heap.size rfl (.tmp 27) (.tmp 30) 22 3 (.int .i64 0) 8 rfl Try.underlying22 info3 rfl (by decide) (by omega) zn Te Ia [.int .i64 Ia] (fun _=>True) (fun _=>False) rfl rfl ?aP (fun _ hk=>hk.elim) ?aF ?aO ?aB ?aS ?aL ?_;(case aP=>exact rfl);(case aB=>exact (by repeat (first|(with_reducible first|exact HB.out|apply qa|apply ia|apply ta|refine ua ?_ Sa.out)|exact HB.out)));(case aF=>exact (fun _ _=>trivial));(case aO=>exact (by (with_reducible repeat (first|apply Kd.Ab|apply Kd.zb|apply Kd.Rb));exact Vc.out));(case aS=>exact (Fa (by repeat (first|(with_reducible first|exact HB.out|apply qa|apply ia|apply ta|refine ua ?_ Sa.out)|exact HB.out))));(case aL=>have:=gO.out;omega);intro FI cC ho hb hg hat;rw [← rE.out] at ho;have Fb:=ja.mk (Ed (g:=ya) (o:=.cells #[.int .i64 Eb,.int .i64 Ka,.int .i64 Ga,.int .i64 Ia,.int .i64 xb,.int .i64 oc,.string ic] 65 (0,0)) (by (with_reducible repeat (first|refine Ba ?_ _|refine Ea ?_|refine Ca ?_ _));exact oa.out) hg (Kd.Vj Vc.out oa.out (by decide)));have Ib:=ja.mk (hb);have Sb:=ja.mk (ho);clear oa HB Vc;have oa:=Fb;have HB:=Ib;have Wo:=Sb;clear Fb Ib Sb ho hb hg hat;have qB:cC.cell? ⟨ya,0,none⟩=some (.int .i64 Eb):=(ga oa.out 0).trans rfl;have oB:cC.cell? ⟨ya,1,none⟩=some (.int .i64 Ka):=(ga oa.out 1).trans rfl;have nB:cC.cell? ⟨ya,2,none⟩=some (.int .i64 Ga):=(ga oa.out 2).trans rfl;have mB:cC.cell? ⟨ya,3,none⟩=some (.int .i64 Ia):=(ga oa.out 3).trans rfl;have lB:cC.cell? ⟨ya,4,none⟩=some (.int .i64 xb):=(ga oa.out 4).trans rfl;have RM:cC.cell? ⟨ya,5,none⟩=some (.int .i64 oc):=(ga oa.out 5).trans rfl;have QM:cC.cell? ⟨ya,6,none⟩=some (.string ic):=(ga oa.out 6).trans rfl;have GA:=aa oa.out 0;have FA:=aa oa.out 1;have EA:=aa oa.out 2;have DA:=aa oa.out 3;have CA:=aa oa.out 4;have LL:=aa oa.out 5;have KL:=aa oa.out 6)|((with_reducible refine Ud (b:=.append) (xs:=#[.tmp 43,.tmp 46]) rfl ?_);at_builtin;refine Kd.Rg (Kd.int .i64) (w0:=w) w.heap.size rfl (.tmp 43) (.tmp 46) 22 3 (.int .i64 0) 8 rfl Try.underlying22 info3 rfl (by decide) (by omega) FI Nm xb [.int .i64 xb] (fun _=>True) (fun _=>False) rfl rfl ?aP (fun _ hk=>hk.elim) ?aF ?aO ?aB ?aS ?aL ?_;(case aP=>exact rfl);(case aB=>exact (by repeat (first|(with_reducible first|exact HB.out|apply qa|apply ia|apply ta|refine ua ?_ Sa.out)|exact HB.out)));(case aF=>exact (fun _ _=>trivial));(case aO=>exact (by (with_reducible repeat (first|apply Kd.Ab|apply Kd.zb|apply Kd.Rb));exact Wo.out));(case aS=>exact (Fa (by repeat (first|(with_reducible first|exact HB.out|apply qa|apply ia|apply ta|refine ua ?_ Sa.out)|exact HB.out))));(case aL=>have:=S_.out;omega);intro vap w43 ho hb hg hat;rw [← M_.out] at ho;have Fb:=ja.mk (Ed (g:=ya) (o:=.cells #[.int .i64 Eb,.int .i64 Ka,.int .i64 Ga,.int .i64 Ia,.int .i64 xb,.int .i64 oc,.string ic] 65 (0,0)) (by (with_reducible repeat (first|refine Ba ?_ _|refine Ea ?_|refine Ca ?_ _));exact oa.out) hg (Kd.Vj Wo.out oa.out (by decide)));have Ib:=ja.mk (hb);have Sb:=ja.mk (ho);clear oa HB Wo;have oa:=Fb;have HB:=Ib;have laa:=Sb;clear Fb Ib Sb ho hb hg hat));go_ret;exact ⟨_,by first|rfl|(simp [Ma,La] <;> rfl)|(simp [*,Ma,La] <;> rfl),by (with_reducible repeat (first|apply Kd.Ab|apply Kd.zb|apply Kd.Rb));exact laa.out,by repeat (first|(with_reducible first|exact HB.out|apply qa|apply ia|apply ta|refine ua ?_ Sa.out)|exact HB.out)⟩
           ·rw [if_neg CS] at H;exact absurd H (by simp)
          ·rw [if_neg BP] at H;have TW:(Eb == 4)=false:=beq_eq_false_iff_ne.mpr BP;have W9:(Eb != 4)=true:=bne_iff_ne.mpr BP;obtain rfl:=Option.some.inj H;have cG:wc.cell? ⟨ya,0,none⟩=some (.int .i64 Eb):=(ga oa.out 0).trans rfl;have bG:wc.cell? ⟨ya,1,none⟩=some (.int .i64 Ka):=(ga oa.out 1).trans rfl;have aG:wc.cell? ⟨ya,2,none⟩=some (.int .i64 Ga):=(ga oa.out 2).trans rfl;have ZF:wc.cell? ⟨ya,3,none⟩=some (.int .i64 Ia):=(ga oa.out 3).trans rfl;have YF:wc.cell? ⟨ya,4,none⟩=some (.int .i64 xb):=(ga oa.out 4).trans rfl;have KM:wc.cell? ⟨ya,5,none⟩=some (.int .i64 oc):=(ga oa.out 5).trans rfl;have JM:wc.cell? ⟨ya,6,none⟩=some (.string ic):=(ga oa.out 6).trans rfl;have nF:=aa oa.out 0;have mF:=aa oa.out 1;have lF:=aa oa.out 2;have kF:=aa oa.out 3;have jF:=aa oa.out 4;have DL:=aa oa.out 5;have CL:=aa oa.out 6;go_wp2_with (first|((with_reducible refine Ud (b:=.append) (xs:=#[.tmp 27,.tmp 30]) rfl ?_);at_builtin;refine Kd.Rg (Kd.int .i64) (w0:=w) w.heap.size rfl (.tmp 27) (.tmp 30) 22 3 (.int .i64 0) 8 rfl Try.underlying22 info3 rfl (by decide) (by omega) zn Te Ia [.int .i64 Ia] (fun _=>True) (fun _=>False) rfl rfl ?aP (fun _ hk=>hk.elim) ?aF ?aO ?aB ?aS ?aL ?_;(case aP=>exact rfl);(case aB=>exact (by repeat (first|(with_reducible first|exact HB.out|apply qa|apply ia|apply ta|refine ua ?_ Sa.out)|exact HB.out)));(case aF=>exact (fun _ _=>trivial));(case aO=>exact (by (with_reducible repeat (first|apply Kd.Ab|apply Kd.zb|apply Kd.Rb));exact Vc.out));(case aS=>exact (Fa (by repeat (first|(with_reducible first|exact HB.out|apply qa|apply ia|apply ta|refine ua ?_ Sa.out)|exact HB.out))));(case aL=>have:=gO.out;omega);intro FI MS ho hb hg hat;rw [← rE.out] at ho;have Fb:=ja.mk (Ed (g:=ya) (o:=.cells #[.int .i64 Eb,.int .i64 Ka,.int .i64 Ga,.int .i64 Ia,.int .i64 xb,.int .i64 oc,.string ic] 65 (0,0)) (by (with_reducible repeat (first|refine Ba ?_ _|refine Ea ?_|refine Ca ?_ _));exact oa.out) hg (Kd.Vj Vc.out oa.out (by decide)));have Ib:=ja.mk (hb);have Sb:=ja.mk (ho);clear oa HB Vc;have oa:=Fb;have HB:=Ib;have Wo:=Sb;clear Fb Ib Sb ho hb hg hat;have IM:MS.cell? ⟨ya,0,none⟩=some (.int .i64 Eb):=(ga oa.out 0).trans rfl;have GM:MS.cell? ⟨ya,1,none⟩=some (.int .i64 Ka):=(ga oa.out 1).trans rfl;have FM:MS.cell? ⟨ya,2,none⟩=some (.int .i64 Ga):=(ga oa.out 2).trans rfl;have EM:MS.cell? ⟨ya,3,none⟩=some (.int .i64 Ia):=(ga oa.out 3).trans rfl;have DM:MS.cell? ⟨ya,4,none⟩=some (.int .i64 xb):=(ga oa.out 4).trans rfl;have eah:MS.cell? ⟨ya,5,none⟩=some (.int .i64 oc):=(ga oa.out 5).trans rfl;have dah:MS.cell? ⟨ya,6,none⟩=some (.string ic):=(ga oa.out 6).trans rfl;have BL:=aa oa.out 0;have AL:=aa oa.out 1;have zL:=aa oa.out 2;have yL:=aa oa.out 3;have xL:=aa oa.out 4;have Uad:=aa oa.out 5;have Tad:=aa oa.out 6));go_ret;exact ⟨_,by first|rfl|(simp [Ma,La] <;> rfl)|(simp [*,Ma,La] <;> rfl),by (with_reducible repeat (first|apply Kd.Ab|apply Kd.zb|apply Kd.Rb));exact Wo.out,by repeat (first|(with_reducible first|exact HB.out|apply qa|apply ia|apply ta|refine ua ?_ Sa.out)|exact HB.out)⟩
        ·rw [if_neg FV] at H;exact absurd H (by simp)
       ·replace Ky:=Bool.eq_false_iff.mpr Ky;subst Ky;have H1:(some Te)=some r:=by rw [if_neg (show ¬ (false=true) by decide)] at H;exact H
        clear H;have H:=H1;clear H1;obtain rfl:=Option.some.inj H;go_wp2;go_ret;exact ⟨_,by first|rfl|(simp [Ma,La] <;> rfl)|(simp [*,Ma,La] <;> rfl),by (with_reducible repeat (first|apply Kd.Ab|apply Kd.zb|apply Kd.Rb));exact Vc.out,by repeat (first|(with_reducible first|exact HB.out|apply qa|apply ia|apply ta|refine ua ?_ Sa.out)|exact HB.out)⟩
mutual
def Dd.j0:Nat→List Bool→Int→Int→Int→Int→Int→Int→ByteArray→Option (List Bool)
 | 0,_,_,_,_,_,_,_,_=>none
 | k + 1,x0,fc,Gc,nc,mc,Kb,Zk,Yk=>(Xc.f k fc Gc nc mc Kb Zk Yk).bind fun t104=>(Dd.l0 k x0 t104 (t104.length:Int) 0)
def Dd.l0:Nat→List Bool→List Int→Int→Int→Option (List Bool)
 | 0,_,_,_,_=>none
 | k + 1,x0,Q2,x16,DX=>if DX < x16 then (if 0 ≤ DX then (if DX < (Q2.length:Int) then (if 0 ≤ (rd Q2 DX) then (if (rd Q2 DX) < (x0.length:Int) then (Dd.l0 k (x0.set ((rd Q2 DX):Int).toNat true) Q2 x16 (wrap64 (DX + 1))) else (none)) else (none)) else (none)) else (none)) else (some x0)
end
def Dd.f (k:Nat) (l0:List Bool) (Cc:Int) (Ub:Int) (Lb:Int) (Mb:Int) (ec:Int) (Nc:Int) (Tc:ByteArray):Option (List Bool):=(Kk.f Cc Ub Lb Mb ec Nc Tc).bind fun t102=>(if t102 ≥ 0 then (if 0 ≤ t102 then (if t102 < (l0.length:Int) then (Dd.j0 k (l0.set (t102:Int).toNat false) Cc Ub Lb Mb ec Nc Tc) else (none)) else (none)) else (Dd.j0 k l0 Cc Ub Lb Mb ec Nc Tc))
theorem Dd.calls (k:Nat) (yD:Nat→Prop) (om:Value) (l0:List Bool) (Cc:Int) (Ub:Int) (Lb:Int) (Mb:Int) (ec:Int) (Nc:Int) (Tc:ByteArray) (r:List Bool) (w0 w:World) (hB:Below w0.heap.size w0 w) (Am:Kd.R Kd.bool 4 w w0.heap.size yD om l0) (h:Dd.f k l0 Cc Ub Lb Mb ec Nc Tc=some r) :
  Calls Try.prog 79 #[om,.agg #[.int .i64 Cc,.int .i64 Ub,.int .i64 Lb,.int .i64 Mb,.int .i64 ec,.int .i64 Nc,.string Tc]] w fun e w'=>e = .returned (.tuple #[])∧Kd.R Kd.bool 4 w' w0.heap.size (fun k_=>(yD k_ ∨ w.heap.size ≤ k_)) om r∧Below w0.heap.size w0 w'∧Kept w w' (fun k_=>yD k_):=by
 have ox:=Try.underlying65;have BI:=ja.mk (show Kd.R Kd.bool 4 w w0.heap.size (fun k_=>(yD k_ ∨ w.heap.size ≤ k_)) om l0 from Kd.fe Am (fun k_ hk=>(.inl hk)));have HK:=ja.mk (Kept.refl w (fun k_=>yD k_));have HW0:=ja.mk hB.size;have HB:=ja.mk hB;clear hB;have H:((Kk.f Cc Ub Lb Mb ec Nc Tc).bind fun t102=>(if t102 ≥ 0 then (if 0 ≤ t102 then (if t102 < (l0.length:Int) then (Dd.j0 k (l0.set (t102:Int).toNat false) Cc Ub Lb Mb ec Nc Tc) else (none)) else (none)) else (Dd.j0 k l0 Cc Ub Lb Mb ec Nc Tc)))=some r:=h;clear h;replace H:=Option.bind_eq_some_iff.mp H;obtain ⟨t102,dw,H⟩:=H;replace H:(if t102 ≥ 0 then (if 0 ≤ t102 then (if t102 < (l0.length:Int) then (Dd.j0 k (l0.set (t102:Int).toNat false) Cc Ub Lb Mb ec Nc Tc) else (none)) else (none)) else (Dd.j0 k l0 Cc Ub Lb Mb ec Nc Tc))=some r:=H;have A3:=ja.mk dw;clear dw;have Q0:=ja.mk H;clear H;go_enter Try.func79,Try.ntmps79
 go_upto_if 10 with (first|((with_reducible refine yb (N:=3) rfl ?_);refine Gb ?hg (N:=3) ?hd (cs:=#[.int .i64 Cc,.int .i64 Ub,.int .i64 Lb,.int .i64 Mb,.int .i64 ec,.int .i64 Nc,.string Tc]) (t:=65) ?hr ?_;(case hd=>rfl);(case hg=>rfl);(case hr=>first|(go_simp;done)|(go_simp;rfl));intro ya hg w5 Qb hb;have Fb:=ja.mk (Kd.dg (by (with_reducible repeat (first|apply Kd.Ab|apply Kd.zb|apply Kd.Rb));exact BI.out) hb);have Ib:=ja.mk (Kept.below (S:=(fun k_=>yD k_)) (by repeat (first|(with_reducible first|exact HK.out|apply Kept.alloc|apply Kept.drewN|apply Kept.drew)|exact HK.out)) hb);have Sb:=ja.mk (Qa (by repeat (first|(with_reducible first|exact HB.out|apply qa|apply ia|apply ta)|exact HB.out)) hb);have Ec:=ja.mk (Qb);have Re:=ja.mk ((by rw [hg];exact (by first|exact HK.out.1|exact (show Kept w _ (fun k_=>yD k_) from by repeat (first|(with_reducible first|exact HK.out|apply Kept.alloc|apply Kept.drewN|apply Kept.drew)|exact HK.out)).1):w.heap.size ≤ ya));have Gf:=ja.mk ((by rw [hg];exact (Fa (by repeat (first|(with_reducible first|exact HB.out|apply qa|apply ia|apply ta)|exact HB.out))):w0.heap.size ≤ ya));clear BI HK HB;have BI:=Fb;have HK:=Ib;have HB:=Sb;have oa:=Ec;have yd:=Re;have Sa:=Gf;clear Fb Ib Sb Ec Re Gf hb Qb hg;have Sj:w5.cell? ⟨ya,0,none⟩=some (.int .i64 Cc):=(ga oa.out 0).trans rfl;have Rj:w5.cell? ⟨ya,1,none⟩=some (.int .i64 Ub):=(ga oa.out 1).trans rfl;have Qj:w5.cell? ⟨ya,2,none⟩=some (.int .i64 Lb):=(ga oa.out 2).trans rfl;have Pj:w5.cell? ⟨ya,3,none⟩=some (.int .i64 Mb):=(ga oa.out 3).trans rfl;have Oj:w5.cell? ⟨ya,4,none⟩=some (.int .i64 ec):=(ga oa.out 4).trans rfl;have js:w5.cell? ⟨ya,5,none⟩=some (.int .i64 Nc):=(ga oa.out 5).trans rfl;have Zr:w5.cell? ⟨ya,6,none⟩=some (.string Tc):=(ga oa.out 6).trans rfl;have Nj:=aa oa.out 0;have Mj:=aa oa.out 1;have Lj:=aa oa.out 2;have Kj:=aa oa.out 3;have Jj:=aa oa.out 4;have sr:=aa oa.out 5;have nr:=aa oa.out 6)|((with_reducible refine jb (f:=87) rfl ?_);refine Fc (some 8) rfl rfl Try.func87 (by kernel_rfl) rfl #[.agg #[.int .i64 Cc,.int .i64 Ub,.int .i64 Lb,.int .i64 Mb,.int .i64 ec,.int .i64 Nc,.string Tc]] rfl (by (try simp only [List.map_toArray,List.map_cons,List.map_nil]);first|done|rfl|(simp only [List.length_drop,List.length_take];rfl)) ?_;(with_reducible refine (Kk.calls Cc Ub Lb Mb ec Nc Tc t102 _ A3.out).mono ?_);rintro e w7 ⟨rfl,hb⟩;refine ⟨_,rfl,?_⟩;have Fb:=ja.mk (Kd.dg (by (with_reducible repeat (first|apply Kd.Ab|apply Kd.zb|apply Kd.Rb));exact BI.out) hb);have Ib:=ja.mk (Ua (g:=ya) (o:=.cells #[.int .i64 Cc,.int .i64 Ub,.int .i64 Lb,.int .i64 Mb,.int .i64 ec,.int .i64 Nc,.string Tc] 65 (0,0)) (by (with_reducible repeat (first|refine Ba ?_ _|refine Ea ?_|refine Ca ?_ _));exact oa.out) hb);have Sb:=ja.mk (Kept.below (S:=(fun k_=>yD k_)) (by repeat (first|(with_reducible first|exact HK.out|apply Kept.alloc|apply Kept.drewN|apply Kept.drew|refine Kept.setCell ?_ (.inr yd.out) _)|exact HK.out)) hb);have Ec:=ja.mk (Qa (by repeat (first|(with_reducible first|exact HB.out|apply qa|apply ia|apply ta|refine ua ?_ Sa.out)|exact HB.out)) hb);clear BI oa HK HB;have BI:=Fb;have oa:=Ib;have HK:=Sb;have HB:=Ec;clear Fb Ib Sb Ec;(try clear hb);(try clear Hi);(try clear hk);(try clear hi)))
 (try simp only [Act.put,List.setIfInBounds_toArray,List.set_cons_zero,List.set_cons_succ])
 go_cut [] (fun wc=>∃ (kq:Nat) (KP:List Bool),ja (Dd.j0 kq KP Cc Ub Lb Mb ec Nc Tc=some r)∧ja (kq ≤ k)∧ja (Kd.R Kd.bool 4 wc w0.heap.size (fun k_=>(yD k_ ∨ w.heap.size ≤ k_)) om KP)∧ja (wc.heap[ya]? = some (.cells #[.int .i64 Cc,.int .i64 Ub,.int .i64 Lb,.int .i64 Mb,.int .i64 ec,.int .i64 Nc,.string Tc] 65 (0,0)))∧ja (Kept w wc (fun k_=>yD k_))∧ja (Below w0.heap.size w0 wc))
 case first =>
  have H:=Q0.out;clear Q0
  by_cases c8:t102 ≥ 0
  ·rw [if_pos c8] at H;have Gq:decide (0 ≤ t102)=true:=decide_eq_true c8;clear c8;(first|rw [Gq]|(simp only [Xb,Yb];rw [Gq])|skip)
   by_cases c9:0 ≤ t102
   ·rw [if_pos c9] at H;have mA:decide (0 ≤ t102)=true:=decide_eq_true c9;clear c9
    by_cases Wp:t102 < (l0.length:Int)
    ·rw [if_pos Wp] at H;have Oo:decide (t102 < (l0.length:Int))=true:=decide_eq_true Wp;clear Wp;obtain ⟨Kv,ju⟩:∃ y_:List Bool,y_=(l0.set (t102:Int).toNat false):=⟨_,rfl⟩;replace H:(Dd.j0 k Kv Cc Ub Lb Mb ec Nc Tc)=some r:=by first|(rw [ju];with_reducible exact H)|(have ue:=(Option.bind_some _ _).symm.trans H;rw [ju];with_reducible exact ue)|(have ue:=(Option.bind_some _ _).symm.trans H;with_reducible exact ue)|with_reducible exact H|(rw [ju];exact H)|exact H
     have bS:=ja.mk ju;clear ju;have H':=ja.mk H;clear H;have eH:0 ≤ (t102:Int):=Wa;have dH:(t102:Int) < ((l0.length:Int):Int):=Wa;obtain ⟨MC,ku,YJ,bR,UY,Uak,iS⟩:=Kd.gn BI.out (by omega);(first|cases YJ|(injection YJ with Um RD SD;(first|subst Um|(injection Um with Um;subst Um));subst SD;clear RD));have D1:=ja.mk bR;have Bal:=ja.mk iS;clear bR UY iS;have O0:=ja.mk (show (yD MC ∨ w.heap.size ≤ MC) from (BI.out.1 _ rfl));obtain ⟨GC,AY⟩:=Kd.Gk false BI.out (t102:Int) eH dH;replace eH:=eq_true eH;replace dH:=eq_true dH;have lD:=Kd.yq BI.out (t102:Int) false;go_wp2_with (first|((with_reducible refine Pg (t:=4) (p:=13) rfl ?_);refine pg (t:=4) (p:=13) (v:=?LP) (w1:=(w7.setCell ⟨MC,(t102:Int).toNat,none⟩ (.bool false))) ?hg ?ho ?hn ?hr ?_;(case ho=>rfl);(case hg=>rfl);(case hn=>rfl);(case hr=>first|(go_simp;done)|(go_simp;rfl));intro qv hw;have hg:w7.grownBy qv (some MC):=(by rw [hw];exact lD.2);have qx:Kd.R Kd.bool 4 qv w0.heap.size (fun k_=>(yD k_ ∨ w.heap.size ≤ k_)) (.slice (some ⟨MC,0,none⟩) l0.length ku) Kv:=(by rw [hw,bS.out];exact lD.1);clear lD;have Fb:=ja.mk (qx);have Ib:=ja.mk (Ed (g:=ya) (o:=.cells #[.int .i64 Cc,.int .i64 Ub,.int .i64 Lb,.int .i64 Mb,.int .i64 ec,.int .i64 Nc,.string Tc] 65 (0,0)) (by (with_reducible repeat (first|refine Ba ?_ _|refine Ea ?_|refine Ca ?_ _));exact oa.out) hg (Kd.Vj BI.out oa.out (by decide)));have Sb:=ja.mk ((by rw [hw];exact ua (HB.out) D1.out:Below w0.heap.size w0 qv));have Ec:=ja.mk (Kept.au (S:=(fun k_=>yD k_)) hg (by repeat (first|(with_reducible first|exact HK.out|apply Kept.alloc|apply Kept.drewN|apply Kept.drew|refine Kept.setCell ?_ (.inr yd.out) _)|exact HK.out)) (fun k_ e_=>(BI.out.1 k_ e_)));clear BI oa HB HK;have BI:=Fb;have oa:=Ib;have HB:=Sb;have HK:=Ec;clear Fb Ib Sb Ec hg hw qx))
     go_meet
     case rel=>exact ⟨_,(Kv),H',⟨by first|omega|exact Nat.le_refl _⟩,⟨by (with_reducible repeat (first|apply Kd.Ab|apply Kd.zb|apply Kd.Rb));exact BI.out⟩,⟨by (with_reducible repeat (first|refine Ba ?_ _|refine Ea ?_|refine Ca ?_ _));exact oa.out⟩,⟨by repeat (first|(with_reducible first|exact HK.out|apply Kept.alloc|apply Kept.drewN|apply Kept.drew|refine Kept.setCell ?_ (.inr yd.out) _)|exact HK.out)⟩,⟨by repeat (first|(with_reducible first|exact HB.out|apply qa|apply ia|apply ta|refine ua ?_ Sa.out)|exact HB.out)⟩⟩
    ·rw [if_neg Wp] at H;exact absurd H (by simp)
   ·rw [if_neg c9] at H;exact absurd H (by simp)
  ·rw [if_neg c8] at H;have Gq:decide (0 ≤ t102)=false:=decide_eq_false c8;clear c8;(first|rw [Gq]|(simp only [Xb,Yb];rw [Gq])|skip);have H':=ja.mk H;clear H;go_wp2
   go_meet
   case rel=>exact ⟨_,(l0),H',⟨by first|omega|exact Nat.le_refl _⟩,⟨by (with_reducible repeat (first|apply Kd.Ab|apply Kd.zb|apply Kd.Rb));exact BI.out⟩,⟨by (with_reducible repeat (first|refine Ba ?_ _|refine Ea ?_|refine Ca ?_ _));exact oa.out⟩,⟨by repeat (first|(with_reducible first|exact HK.out|apply Kept.alloc|apply Kept.drewN|apply Kept.drew|refine Kept.setCell ?_ (.inr yd.out) _)|exact HK.out)⟩,⟨by repeat (first|(with_reducible first|exact HB.out|apply qa|apply ia|apply ta|refine ua ?_ Sa.out)|exact HB.out)⟩⟩
 case rest =>
  clear Q0
  try clear c1
  try clear p1
  try clear q1
  try clear hx1
  try clear p2
  try clear c7
  try clear c8
  try clear Gq
  try clear c9
  try clear mA
  try clear Wp
  try clear Oo
  try clear eH
  try clear dH
  try clear yQ
  try clear CY
  try clear Sj
  try clear Rj
  try clear Qj
  try clear Pj
  try clear Oj
  try clear js
  try clear Zr
  try clear Nj
  try clear Mj
  try clear Lj
  try clear Kj
  try clear Jj
  try clear sr
  try clear nr
  try clear GC
  try clear eH
  try clear dH
  obtain ⟨kq,KP,HA,HJ3,ru,oa,HK,HB⟩:=hcut;cases kq with
  | zero=>exact absurd HA.out (by simp [Dd.j0])
  | succ pT =>
   have H:=HA.out;clear HA;simp only [Dd.j0] at H;replace H:=Option.bind_eq_some_iff.mp H;obtain ⟨t104,sD,H⟩:=H;replace H:(Dd.l0 pT KP t104 (t104.length:Int) 0)=some r:=H;have I1:=ja.mk sD;clear sD;have H':=ja.mk H;clear H;have Ey:wc.cell? ⟨ya,0,none⟩=some (.int .i64 Cc):=(ga oa.out 0).trans rfl;have Dy:wc.cell? ⟨ya,1,none⟩=some (.int .i64 Ub):=(ga oa.out 1).trans rfl;have Cy:wc.cell? ⟨ya,2,none⟩=some (.int .i64 Lb):=(ga oa.out 2).trans rfl;have zy:wc.cell? ⟨ya,3,none⟩=some (.int .i64 Mb):=(ga oa.out 3).trans rfl;have yy:wc.cell? ⟨ya,4,none⟩=some (.int .i64 ec):=(ga oa.out 4).trans rfl;have qV:wc.cell? ⟨ya,5,none⟩=some (.int .i64 Nc):=(ga oa.out 5).trans rfl;have pV:wc.cell? ⟨ya,6,none⟩=some (.string Tc):=(ga oa.out 6).trans rfl;have Vx:=aa oa.out 0;have Ux:=aa oa.out 1;have Tx:=aa oa.out 2;have Sx:=aa oa.out 3;have Rx:=aa oa.out 4;have vU:=aa oa.out 5;have uU:=aa oa.out 6;go_wp2_with (first|((with_reducible refine jb (f:=88) rfl ?_);refine Fc (some 15) rfl rfl Try.func88 (by kernel_rfl) rfl #[.agg #[.int .i64 Cc,.int .i64 Ub,.int .i64 Lb,.int .i64 Mb,.int .i64 ec,.int .i64 Nc,.string Tc]] rfl (by (try simp only [List.map_toArray,List.map_cons,List.map_nil]);first|done|rfl|(simp only [List.length_drop,List.length_take];rfl)) ?_;(with_reducible refine (Xc.calls pT Cc Ub Lb Mb ec Nc Tc t104 _ I1.out).mono ?_);rintro e Yy ⟨PS,rfl,Am,hb⟩;refine ⟨_,rfl,?_⟩;have Fb:=ja.mk (Kd.dg (by (with_reducible repeat (first|apply Kd.Ab|apply Kd.zb|apply Kd.Rb));exact ru.out) hb);have Ib:=ja.mk (Kd.Rd (Kd.VR (M:=fun k_=>(yD k_ ∨ w.heap.size ≤ k_)) Am (by first|exact HK.out.1|exact (show Kept w _ (fun k_=>yD k_) from by repeat (first|(with_reducible first|exact HK.out|apply Kept.alloc|apply Kept.drewN|apply Kept.drew|refine Kept.setCell ?_ (.inr yd.out) _)|exact HK.out)).1) (fun k_ h_=>.inr h_)) (Fa (by repeat (first|(with_reducible first|exact HB.out|apply qa|apply ia|apply ta|refine ua ?_ Sa.out)|exact HB.out))));have Sb:=ja.mk (Ua (g:=ya) (o:=.cells #[.int .i64 Cc,.int .i64 Ub,.int .i64 Lb,.int .i64 Mb,.int .i64 ec,.int .i64 Nc,.string Tc] 65 (0,0)) (by (with_reducible repeat (first|refine Ba ?_ _|refine Ea ?_|refine Ca ?_ _));exact oa.out) hb);have Ec:=ja.mk (Kept.below (S:=(fun k_=>yD k_)) (by repeat (first|(with_reducible first|exact HK.out|apply Kept.alloc|apply Kept.drewN|apply Kept.drew|refine Kept.setCell ?_ (.inr yd.out) _)|exact HK.out)) hb);have Re:=ja.mk (Qa (by repeat (first|(with_reducible first|exact HB.out|apply qa|apply ia|apply ta|refine ua ?_ Sa.out)|exact HB.out)) hb);clear ru oa HK HB;have ru:=Fb;have Oq:=Ib;have oa:=Sb;have HK:=Ec;have HB:=Re;clear Fb Ib Sb Ec Re;(try clear hb);(try clear Hi);(try clear hk);(try clear hi);(try clear Am);obtain ⟨Lal,Sak,Dak⟩:=Kd.De Oq.out;subst Dak))
   go_loopg [17] pT (fun kq v17 w'=>∃ (EE:List Bool) (si:Int),v17 = .int .i64 si∧ja (Dd.l0 kq EE t104 (t104.length:Int) si=some r)∧ja (kq ≤ pT)∧ja (Kd.R Kd.bool 4 w' w0.heap.size (fun k_=>(yD k_ ∨ w.heap.size ≤ k_)) om EE)∧ja (Kd.R (Kd.int .i64) 3 w' w0.heap.size (fun k_=>(yD k_ ∨ w.heap.size ≤ k_)) (.slice Lal t104.length Sak) t104)∧ja (w'.heap[ya]? = some (.cells #[.int .i64 Cc,.int .i64 Ub,.int .i64 Lb,.int .i64 Mb,.int .i64 ec,.int .i64 Nc,.string Tc] 65 (0,0)))∧ja (Kept w w' (fun k_=>yD k_))∧ja (Below w0.heap.size w0 w'))
   case atStart=>exact ⟨(KP),(0),(by first|rfl|(simp;done)|(simp [*];done)),H',⟨Nat.le_refl _⟩,⟨by (with_reducible repeat (first|apply Kd.Ab|apply Kd.zb|apply Kd.Rb));exact ru.out⟩,⟨by (with_reducible repeat (first|apply Kd.Ab|apply Kd.zb|apply Kd.Rb));exact Kd.fe Oq.out (fun _ hk=>hk.1)⟩,⟨by (with_reducible repeat (first|refine Ba ?_ _|refine Ea ?_|refine Ca ?_ _));exact oa.out⟩,⟨by repeat (first|(with_reducible first|exact HK.out|apply Kept.alloc|apply Kept.drewN|apply Kept.drew|refine Kept.setCell ?_ (.inr yd.out) _)|exact HK.out)⟩,⟨by repeat (first|(with_reducible first|exact HB.out|apply qa|apply ia|apply ta|refine ua ?_ Sa.out)|exact HB.out)⟩⟩
   case round =>
    clear H'
    try clear c1
    try clear p1
    try clear q1
    try clear hx1
    try clear p2
    try clear c7
    try clear c8
    try clear Gq
    try clear c9
    try clear mA
    try clear Wp
    try clear Oo
    try clear eH
    try clear dH
    try clear yQ
    try clear CY
    try clear Ey
    try clear Dy
    try clear Cy
    try clear zy
    try clear yy
    try clear qV
    try clear pV
    try clear Sj
    try clear Rj
    try clear Qj
    try clear Pj
    try clear Oj
    try clear js
    try clear Zr
    try clear Vx
    try clear Ux
    try clear Tx
    try clear Sx
    try clear Rx
    try clear vU
    try clear uU
    try clear Nj
    try clear Mj
    try clear Lj
    try clear Kj
    try clear Jj
    try clear sr
    try clear nr
    try clear GC
    try clear p1
    try clear eH
    try clear p2
    try clear q1
    try clear dH
    (try clear HA);(try clear qA);(try clear ru);(try clear tE);(try clear oa);(try clear HK);(try clear HB);obtain ⟨EE,si,rfl,HA,qA,ru,tE,oa,HK,HB⟩:=hrel;cases gk with
    | zero=>exact absurd HA.out (by simp [Dd.l0])
    | succ k2 =>
     have H:=HA.out;clear HA;simp only [Dd.l0] at H
     by_cases xq:si < (t104.length:Int)
     ·rw [if_pos xq] at H;have Mo:decide (si < (t104.length:Int))=true:=decide_eq_true xq;clear xq
      by_cases Xo:0 ≤ si
      ·rw [if_pos Xo] at H;have Hv:decide (0 ≤ si)=true:=decide_eq_true Xo;clear Xo
       by_cases Pq:si < (t104.length:Int)
       ·rw [if_pos Pq] at H;have Ly:decide (si < (t104.length:Int))=true:=decide_eq_true Pq;clear Pq
        by_cases Ky:0 ≤ (rd t104 si)
        ·rw [if_pos Ky] at H;have TN:decide (0 ≤ (rd t104 si))=true:=decide_eq_true Ky;clear Ky
         by_cases FV:(rd t104 si) < (EE.length:Int)
         ·rw [if_pos FV] at H;have cao:decide ((rd t104 si) < (EE.length:Int))=true:=decide_eq_true FV;clear FV;obtain ⟨mg,qf⟩:∃ y_:List Bool,y_=(EE.set ((rd t104 si):Int).toNat true):=⟨_,rfl⟩;replace H:(Dd.l0 k2 mg t104 (t104.length:Int) (wrap64 (si + 1)))=some r:=by first|(rw [qf];with_reducible exact H)|(have ue:=(Option.bind_some _ _).symm.trans H;rw [qf];with_reducible exact ue)|(have ue:=(Option.bind_some _ _).symm.trans H;with_reducible exact ue)|with_reducible exact H|(rw [qf];exact H)|exact H
          have Bi:=ja.mk qf;clear qf;have H':=ja.mk H;clear H;have ZI:0 ≤ (si:Int):=Wa;have SI:si < (t104.length:Int):=Wa;obtain ⟨A_,kZ,qT⟩:=Kd.rm (Kd.Lc tE.out).2.2 si ZI SI;cases kZ;replace ZI:=eq_true ZI;replace SI:=eq_true SI;have p23:0 ≤ ((rd t104 si):Int):=Wa;have q23:((rd t104 si):Int) < ((EE.length:Int):Int):=Wa;obtain ⟨XO,nZ,DV,e9,nak,uaq,vaa⟩:=Kd.gn ru.out (by omega);(first|cases DV|(injection DV with Um RD SD;(first|subst Um|(injection Um with Um;subst Um));subst SD;clear RD));have Eal:=ja.mk e9;have gar:=ja.mk vaa;clear e9 nak vaa;have sal:=ja.mk (show (yD XO ∨ w.heap.size ≤ XO) from (ru.out.1 _ rfl));obtain ⟨Tai,Waj⟩:=Kd.Gk false ru.out ((rd t104 si):Int) p23 q23;replace p23:=eq_true p23;replace q23:=eq_true q23;have BK:=Kd.yq ru.out ((rd t104 si):Int) true;go_wp2_with (first|((with_reducible refine Pg (t:=4) (p:=23) rfl ?_);refine pg (t:=4) (p:=23) (v:=?GX) (w1:=(wr.setCell ⟨XO,((rd t104 si):Int).toNat,none⟩ (.bool true))) ?hg ?ho ?hn ?hr ?_;(case ho=>rfl);(case hg=>rfl);(case hn=>rfl);(case hr=>first|(go_simp;done)|(go_simp;rfl));intro Zv hw;have hg:wr.grownBy Zv (some XO):=(by rw [hw];exact BK.2);have qx:Kd.R Kd.bool 4 Zv w0.heap.size (fun k_=>(yD k_ ∨ w.heap.size ≤ k_)) (.slice (some ⟨XO,0,none⟩) EE.length nZ) mg:=(by rw [hw,Bi.out];exact BK.1);clear BK;have Fb:=ja.mk (qx);have Ib:=ja.mk (Kd.SG (v:=(.slice (some ⟨XO,0,none⟩) EE.length nZ)) (by (with_reducible repeat (first|apply Kd.Ab|apply Kd.zb|apply Kd.Rb));exact tE.out) (Kd.VB ru.out) (by decide) hg);have Sb:=ja.mk (Ed (g:=ya) (o:=.cells #[.int .i64 Cc,.int .i64 Ub,.int .i64 Lb,.int .i64 Mb,.int .i64 ec,.int .i64 Nc,.string Tc] 65 (0,0)) (by (with_reducible repeat (first|refine Ba ?_ _|refine Ea ?_|refine Ca ?_ _));exact oa.out) hg (Kd.Vj ru.out oa.out (by decide)));have Ec:=ja.mk ((by rw [hw];exact ua (HB.out) Eal.out:Below w0.heap.size w0 Zv));have Re:=ja.mk (Kept.au (S:=(fun k_=>yD k_)) hg (by repeat (first|(with_reducible first|exact HK.out|apply Kept.alloc|apply Kept.drewN|apply Kept.drew|refine Kept.setCell ?_ (.inr yd.out) _)|exact HK.out)) (fun k_ e_=>(ru.out.1 k_ e_)));clear ru tE oa HB HK;have ru:=Fb;have tE:=Ib;have oa:=Sb;have HB:=Ec;have HK:=Re;clear Fb Ib Sb Ec Re hg hw qx))
          go_roundg k2
          case measure=>have:=HJ3.out;have:=qA.out;omega
          case rel=>exact ⟨(mg),(wrap64 (si + 1)),(by first|rfl|(simp;done)|(simp [*];done)),H',⟨by have:=HJ3.out;have:=qA.out;omega⟩,⟨by (with_reducible repeat (first|apply Kd.Ab|apply Kd.zb|apply Kd.Rb));exact ru.out⟩,⟨by (with_reducible repeat (first|apply Kd.Ab|apply Kd.zb|apply Kd.Rb));exact tE.out⟩,⟨by (with_reducible repeat (first|refine Ba ?_ _|refine Ea ?_|refine Ca ?_ _));exact oa.out⟩,⟨by repeat (first|(with_reducible first|exact HK.out|apply Kept.alloc|apply Kept.drewN|apply Kept.drew|refine Kept.setCell ?_ (.inr yd.out) _)|exact HK.out)⟩,⟨by repeat (first|(with_reducible first|exact HB.out|apply qa|apply ia|apply ta|refine ua ?_ Sa.out)|exact HB.out)⟩⟩
         ·rw [if_neg FV] at H;exact absurd H (by simp)
        ·rw [if_neg Ky] at H;exact absurd H (by simp)
       ·rw [if_neg Pq] at H;exact absurd H (by simp)
      ·rw [if_neg Xo] at H;exact absurd H (by simp)
     ·rw [if_neg xq] at H;have Mo:decide (si < (t104.length:Int))=false:=decide_eq_false xq;clear xq;obtain rfl:=Option.some.inj H;go_wp2
      first|go_end0|((try simp only [Exit.inBlock,Exit.then]);refine bodyPost_ret (results_none rfl _ _ _) rfl ?_)
      exact ⟨by first|rfl|(simp [Ma,La] <;> rfl)|(simp [*,Ma,La] <;> rfl),by (with_reducible repeat (first|apply Kd.Ab|apply Kd.zb|apply Kd.Rb));exact ru.out,by repeat (first|(with_reducible first|exact HB.out|apply qa|apply ia|apply ta|refine ua ?_ Sa.out)|exact HB.out),by repeat (first|(with_reducible first|exact HK.out|apply Kept.alloc|apply Kept.drewN|apply Kept.drew|refine Kept.setCell ?_ (.inr yd.out) _)|exact HK.out)⟩
end Go.Proofs.Ytkigbdceceeenaa.P
end
