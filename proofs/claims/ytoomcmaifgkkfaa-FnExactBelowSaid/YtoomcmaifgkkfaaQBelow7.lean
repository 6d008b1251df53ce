import Derived.Test.YtoomcmaifgkkfaaQBelow1
import Derived.Test.YtoomcmaifgkkfaaQBelow4
import Derived.Test.YtoomcmaifgkkfaaQBelow6
import Derived.Test.YtoomcmaifgkkfaaQBelow5
import Derived.Test.YtoomcmaifgkkfaaQBelow3
import Derived.Test.YtoomcmaifgkkfaaQBelow2
set_option maxHeartbeats 8000000
set_option maxRecDepth 100000
section
namespace Go.Proofs.Ytoomcmaifgkkfaa.P
open Go.RowKit Go.Proofs.Ia.Qb Go.Proofs.Ia.Dd Go.Proofs.Ia.ze
set_option linter.unusedVariables false
set_option linter.unusedSimpArgs false
attribute [local go_sem] Eh Ch Ji Ii Jg Ig Dh Bh
mutual
def Ub.j0:Nat→Bool→List Int→Int→Int→Int→List (jf)→Option (Bool)
 | 0,_,_,_,_,_,_=>none
 | k + 1,x29,Sc,Tc,Rc,Qc,Xb=>if x29=true then (some false) else (Ub.l0 k 0 Xb (Xb.length:Int) 0 Sc Tc Rc Qc Xb)
def Ub.l0:Nat→Int→List (jf)→Int→Int→List Int→Int→Int→Int→List (jf)→Option (Bool)
 | 0,_,_,_,_,_,_,_,_,_=>none
 | k + 1,x3,IV,x32,JQ,Sc,Tc,Rc,Qc,Xb=>if JQ < x32 then (if 0 ≤ JQ then (if JQ < (IV.length:Int) then ((Yh.f Sc Tc Rc Qc Xb ((Sa IV JQ).f0) ((Sa IV JQ).f1) ((Sa IV JQ).f2) ((Sa IV JQ).f3) ((Sa IV JQ).f4)).bind fun t107=>(if t107=true then (Ub.l0 k (wrap64 (x3 + (((Sa IV JQ).f0).length:Int))) IV x32 (wrap64 (JQ + 1)) Sc Tc Rc Qc Xb) else (some false))) else (none)) else (none)) else (some (decide (x3 ≤ 1000)))
end
def Ub.f (k:Nat) (Oa:List Int) (Ka:Int) (Pa:Int) (Ja:Int) (Ga:List (jf)):Option (Bool):=(sg.f Oa Ka Pa ([]:List (Ax))).bind fun t102=>(if t102=true then ((Sg.f Ja Pa 1000).bind fun t103=>(if t103=true then ((Sg.f (Ga.length:Int) 1 300).bind fun t104=>(Ub.j0 k (!t104) Oa Ka Pa Ja Ga)) else (Ub.j0 k true Oa Ka Pa Ja Ga))) else (Ub.j0 k true Oa Ka Pa Ja Ga))
theorem Ub.calls (k:Nat) (yb:Option Addr) (xb:Nat) (Oa:List Int) (Ka:Int) (Pa:Int) (Ja:Int) (Rb:Option Addr) (Ib:Nat) (Ga:List (jf)) (r:Bool) (w:World) (fe:Kd.C (Kd.int .i64) w yb Oa.length Oa) (Yd:Oa.length ≤ xb) (Ff:Kd.C Po w Rb Ga.length Ga) (Hf:Ga.length ≤ Ib) (h:Ub.f k Oa Ka Pa Ja Ga=some r) :
  Calls Try.prog 71 #[.agg #[.slice yb Oa.length xb,.int .i64 Ka,.int .i64 Pa,.int .i64 Ja,.slice Rb Ga.length Ib]] w fun e w'=>e = .returned (.bool r)∧Below w.heap.size w w':=by
 have KA:=Try.underlying45;have eaq:=Try.underlying100;have Iz:=Try.underlying83;have Qe:=ga.mk fe;have gf:=ga.mk Yd;clear fe Yd;have ug:=ga.mk Ff;have Kh:=ga.mk Hf;clear Ff Hf;have HB:=ga.mk (Below.refl w.heap.size w);have H:((sg.f Oa Ka Pa ([]:List (Ax))).bind fun t102=>(if t102=true then ((Sg.f Ja Pa 1000).bind fun t103=>(if t103=true then ((Sg.f (Ga.length:Int) 1 300).bind fun t104=>(Ub.j0 k (!t104) Oa Ka Pa Ja Ga)) else (Ub.j0 k true Oa Ka Pa Ja Ga))) else (Ub.j0 k true Oa Ka Pa Ja Ga)))=some r:=h;clear h;have o4:=ga.mk H;clear H;go_enter Try.func71,Try.ntmps71
 go_upto_region 1 with (first|((with_reducible refine Db (N:=1) rfl ?_);(try (refine di (by rfl) ?_;dsimp only));refine Lb ?hg (N:=1) ?hd (cs:=#[.slice yb Oa.length xb,.int .i64 Ka,.int .i64 Pa,.int .i64 Ja,.slice Rb Ga.length Ib]) (t:=45) ?hr ?_;(case hd=>rfl);(case hg=>rfl);(case hr=>first|(go_simp;done)|(go_simp;rfl));intro za hg w3 Tb hb;have Jb:=ga.mk (Ra (by repeat (first|(with_reducible first|exact HB.out|apply oa|apply ia|apply qa)|exact HB.out)) hb);have Ob:=ga.mk (Tb);have Vb:=ga.mk ((by rw [hg];exact (La (by repeat (first|(with_reducible first|exact HB.out|apply oa|apply ia|apply qa)|exact HB.out))):w.heap.size ≤ za));have uc:=ga.mk ((by rw [hg];exact (La (by repeat (first|(with_reducible first|exact HB.out|apply oa|apply ia|apply qa)|exact HB.out))):w.heap.size ≤ za));clear HB;have HB:=Jb;have ta:=Ob;have ue:=Vb;have Ta:=uc;clear Jb Ob Vb uc hb Tb hg))
 (try simp only [Act.put,List.setIfInBounds_toArray,List.set_cons_zero,List.set_cons_succ])
 go_cut [29] (fun v29 wc=>∃ (kq:Nat) (kJ:Bool),v29 = .bool kJ∧ga (Ub.j0 kq kJ Oa Ka Pa Ja Ga=some r)∧ga (kq ≤ k)∧ga (wc.heap[za]? = some (.cells #[(.slice yb Oa.length xb),.int .i64 Ka,.int .i64 Pa,.int .i64 Ja,(.slice Rb Ga.length Ib)] 45 (0,0)))∧ga (Below w.heap.size w wc))
 case first =>
  have H:=o4.out;clear o4;replace H:=Option.bind_eq_some_iff.mp H;obtain ⟨t102,CQ,H⟩:=H;replace H:(if t102=true then ((Sg.f Ja Pa 1000).bind fun t103=>(if t103=true then ((Sg.f (Ga.length:Int) 1 300).bind fun t104=>(Ub.j0 k (!t104) Oa Ka Pa Ja Ga)) else (Ub.j0 k true Oa Ka Pa Ja Ga))) else (Ub.j0 k true Oa Ka Pa Ja Ga))=some r:=H;have A4:=ga.mk CQ;clear CQ
  by_cases c5:t102=true
  ·subst c5;have H1:((Sg.f Ja Pa 1000).bind fun t103=>(if t103=true then ((Sg.f (Ga.length:Int) 1 300).bind fun t104=>(Ub.j0 k (!t104) Oa Ka Pa Ja Ga)) else (Ub.j0 k true Oa Ka Pa Ja Ga)))=some r:=by rw [if_pos rfl] at H;exact H
   clear H;have H:=H1;clear H1;replace H:=Option.bind_eq_some_iff.mp H;obtain ⟨t103,EX,H⟩:=H;replace H:(if t103=true then ((Sg.f (Ga.length:Int) 1 300).bind fun t104=>(Ub.j0 k (!t104) Oa Ka Pa Ja Ga)) else (Ub.j0 k true Oa Ka Pa Ja Ga))=some r:=H;have A6:=ga.mk EX;clear EX
   by_cases c7:t103=true
   ·subst c7;have H1:((Sg.f (Ga.length:Int) 1 300).bind fun t104=>(Ub.j0 k (!t104) Oa Ka Pa Ja Ga))=some r:=by rw [if_pos rfl] at H;exact H
    clear H;have H:=H1;clear H1;replace H:=Option.bind_eq_some_iff.mp H;obtain ⟨t104,BQ,H⟩:=H;replace H:(Ub.j0 k (!t104) Oa Ka Pa Ja Ga)=some r:=H;have A8:=ga.mk BQ;clear BQ;have H':=ga.mk H;clear H;have Zl:w3.cell? ⟨za,0,none⟩=some (.slice yb Oa.length xb):=(ja ta.out 0).trans rfl;have Yl:w3.cell? ⟨za,1,none⟩=some (.int .i64 Ka):=(ja ta.out 1).trans rfl;have Xl:w3.cell? ⟨za,2,none⟩=some (.int .i64 Pa):=(ja ta.out 2).trans rfl;have Wl:w3.cell? ⟨za,3,none⟩=some (.int .i64 Ja):=(ja ta.out 3).trans rfl;have Vl:w3.cell? ⟨za,4,none⟩=some (.slice Rb Ga.length Ib):=(ja ta.out 4).trans rfl;have Ul:=aa ta.out 0;have Tl:=aa ta.out 1;have Sl:=aa ta.out 2;have Rl:=aa ta.out 3;have Ql:=aa ta.out 4;go_wp2_with (first|((with_reducible refine zb (f:=93) rfl ?_);refine Fc (some 13) rfl rfl Try.func93 (by kernel_rfl) rfl #[.agg #[.slice yb Oa.length xb,.int .i64 Ka,.int .i64 Pa,.slice none 0 0]] rfl (by (try simp only [List.map_toArray,List.map_cons,List.map_nil]);first|done|rfl|(simp only [List.length_drop,List.length_take];rfl)) ?_;(refine (sg.calls _ _ Oa Ka Pa _ _ ([]:List (Ax)) true _ ?Ic ?Gc ?ee ?Zd A4.out).mono ?_);(case Ic=>repeat (first|exact (Kd.Mb Qe.out HB.out)|(with_reducible refine Kd.ec ?_ _)|(with_reducible refine Kd.dc ?_ _)|(with_reducible refine Kd.Dc ?_)));(case Gc=>exact gf.out);(case ee=>exact Kd.WL _ _);(case Zd=>exact Nat.le_refl _);rintro e Bp ⟨rfl,hb⟩;refine ⟨_,rfl,?_⟩;have Jb:=ga.mk (Va (g:=za) (o:=.cells #[.slice yb Oa.length xb,.int .i64 Ka,.int .i64 Pa,.int .i64 Ja,.slice Rb Ga.length Ib] 45 (0,0)) (by (with_reducible repeat (first|refine Da ?_ _|refine Ea ?_|refine Ca ?_ _));exact ta.out) hb);have Ob:=ga.mk (Ra (by repeat (first|(with_reducible first|exact HB.out|apply oa|apply ia|apply qa|refine ua ?_ Ta.out)|exact HB.out)) hb);clear ta HB;have ta:=Jb;have HB:=Ob;clear Jb Ob;(try clear hb);(try clear mj);(try clear hk);(try clear hi);have qq:Bp.cell? ⟨za,0,none⟩=some (.slice yb Oa.length xb):=(ja ta.out 0).trans rfl;have pq:Bp.cell? ⟨za,1,none⟩=some (.int .i64 Ka):=(ja ta.out 1).trans rfl;have oq:Bp.cell? ⟨za,2,none⟩=some (.int .i64 Pa):=(ja ta.out 2).trans rfl;have mq:Bp.cell? ⟨za,3,none⟩=some (.int .i64 Ja):=(ja ta.out 3).trans rfl;have lq:Bp.cell? ⟨za,4,none⟩=some (.slice Rb Ga.length Ib):=(ja ta.out 4).trans rfl;have Wp:=aa ta.out 0;have Vp:=aa ta.out 1;have Tp:=aa ta.out 2;have Sp:=aa ta.out 3;have Rp:=aa ta.out 4)|(go_at_call 94;(with_reducible refine (Sg.calls Ja Pa 1000 true _ A6.out).mono ?_);rintro e w' ⟨rfl,⟨nd,rfl⟩⟩)|(go_at_call 94;(with_reducible refine (Sg.calls (Ga.length:Int) 1 300 t104 _ A8.out).mono ?_);rintro e w' ⟨rfl,⟨nd,rfl⟩⟩))
    go_meet
    case rel=>exact ⟨_,(!t104),(by first|rfl|(simp;done)|(simp [*];done)),H',⟨by first|omega|exact Nat.le_refl _⟩,⟨by (with_reducible repeat (first|refine Da ?_ _|refine Ea ?_|refine Ca ?_ _));exact ta.out⟩,⟨by repeat (first|(with_reducible first|exact HB.out|apply oa|apply ia|apply qa|refine ua ?_ Ta.out)|exact HB.out)⟩⟩
   ·replace c7:=Bool.eq_false_iff.mpr c7;subst c7;have H1:(Ub.j0 k true Oa Ka Pa Ja Ga)=some r:=by rw [if_neg (show ¬ (false=true) by decide)] at H;exact H
    clear H;have H:=H1;clear H1;have H':=ga.mk H;clear H;have qo:w3.cell? ⟨za,0,none⟩=some (.slice yb Oa.length xb):=(ja ta.out 0).trans rfl;have oo:w3.cell? ⟨za,1,none⟩=some (.int .i64 Ka):=(ja ta.out 1).trans rfl;have mo:w3.cell? ⟨za,2,none⟩=some (.int .i64 Pa):=(ja ta.out 2).trans rfl;have jo:w3.cell? ⟨za,3,none⟩=some (.int .i64 Ja):=(ja ta.out 3).trans rfl;have fo:w3.cell? ⟨za,4,none⟩=some (.slice Rb Ga.length Ib):=(ja ta.out 4).trans rfl;have Vn:=aa ta.out 0;have Un:=aa ta.out 1;have Tn:=aa ta.out 2;have Sn:=aa ta.out 3;have Rn:=aa ta.out 4;go_wp2_with (first|((with_reducible refine zb (f:=93) rfl ?_);refine Fc (some 13) rfl rfl Try.func93 (by kernel_rfl) rfl #[.agg #[.slice yb Oa.length xb,.int .i64 Ka,.int .i64 Pa,.slice none 0 0]] rfl (by (try simp only [List.map_toArray,List.map_cons,List.map_nil]);first|done|rfl|(simp only [List.length_drop,List.length_take];rfl)) ?_;(refine (sg.calls _ _ Oa Ka Pa _ _ ([]:List (Ax)) true _ ?Ic ?Gc ?ee ?Zd A4.out).mono ?_);(case Ic=>repeat (first|exact (Kd.Mb Qe.out HB.out)|(with_reducible refine Kd.ec ?_ _)|(with_reducible refine Kd.dc ?_ _)|(with_reducible refine Kd.Dc ?_)));(case Gc=>exact gf.out);(case ee=>exact Kd.WL _ _);(case Zd=>exact Nat.le_refl _);rintro e OE ⟨rfl,hb⟩;refine ⟨_,rfl,?_⟩;have Jb:=ga.mk (Va (g:=za) (o:=.cells #[.slice yb Oa.length xb,.int .i64 Ka,.int .i64 Pa,.int .i64 Ja,.slice Rb Ga.length Ib] 45 (0,0)) (by (with_reducible repeat (first|refine Da ?_ _|refine Ea ?_|refine Ca ?_ _));exact ta.out) hb);have Ob:=ga.mk (Ra (by repeat (first|(with_reducible first|exact HB.out|apply oa|apply ia|apply qa|refine ua ?_ Ta.out)|exact HB.out)) hb);clear ta HB;have ta:=Jb;have HB:=Ob;clear Jb Ob;(try clear hb);(try clear mj);(try clear hk);(try clear hi);have bq:OE.cell? ⟨za,0,none⟩=some (.slice yb Oa.length xb):=(ja ta.out 0).trans rfl;have aq:OE.cell? ⟨za,1,none⟩=some (.int .i64 Ka):=(ja ta.out 1).trans rfl;have Zp:OE.cell? ⟨za,2,none⟩=some (.int .i64 Pa):=(ja ta.out 2).trans rfl;have Yp:OE.cell? ⟨za,3,none⟩=some (.int .i64 Ja):=(ja ta.out 3).trans rfl;have Xp:OE.cell? ⟨za,4,none⟩=some (.slice Rb Ga.length Ib):=(ja ta.out 4).trans rfl;have Kp:=aa ta.out 0;have Jp:=aa ta.out 1;have Ip:=aa ta.out 2;have Hp:=aa ta.out 3;have Gp:=aa ta.out 4)|(go_at_call 94;(with_reducible refine (Sg.calls Ja Pa 1000 false _ A6.out).mono ?_);rintro e w' ⟨rfl,⟨nd,rfl⟩⟩))
    go_meet
    case rel=>exact ⟨_,(true),(by first|rfl|(simp;done)|(simp [*];done)),H',⟨by first|omega|exact Nat.le_refl _⟩,⟨by (with_reducible repeat (first|refine Da ?_ _|refine Ea ?_|refine Ca ?_ _));exact ta.out⟩,⟨by repeat (first|(with_reducible first|exact HB.out|apply oa|apply ia|apply qa|refine ua ?_ Ta.out)|exact HB.out)⟩⟩
  ·replace c5:=Bool.eq_false_iff.mpr c5;subst c5;have H1:(Ub.j0 k true Oa Ka Pa Ja Ga)=some r:=by rw [if_neg (show ¬ (false=true) by decide)] at H;exact H
   clear H;have H:=H1;clear H1;have H':=ga.mk H;clear H;have UD:w3.cell? ⟨za,0,none⟩=some (.slice yb Oa.length xb):=(ja ta.out 0).trans rfl;have TD:w3.cell? ⟨za,1,none⟩=some (.int .i64 Ka):=(ja ta.out 1).trans rfl;have SD:w3.cell? ⟨za,2,none⟩=some (.int .i64 Pa):=(ja ta.out 2).trans rfl;have RD:w3.cell? ⟨za,3,none⟩=some (.int .i64 Ja):=(ja ta.out 3).trans rfl;have QD:w3.cell? ⟨za,4,none⟩=some (.slice Rb Ga.length Ib):=(ja ta.out 4).trans rfl;have VC:=aa ta.out 0;have UC:=aa ta.out 1;have TC:=aa ta.out 2;have SC:=aa ta.out 3;have RC:=aa ta.out 4;go_wp2_with (first|((with_reducible refine zb (f:=93) rfl ?_);refine Fc (some 13) rfl rfl Try.func93 (by kernel_rfl) rfl #[.agg #[.slice yb Oa.length xb,.int .i64 Ka,.int .i64 Pa,.slice none 0 0]] rfl (by (try simp only [List.map_toArray,List.map_cons,List.map_nil]);first|done|rfl|(simp only [List.length_drop,List.length_take];rfl)) ?_;(refine (sg.calls _ _ Oa Ka Pa _ _ ([]:List (Ax)) false _ ?Ic ?Gc ?ee ?Zd A4.out).mono ?_);(case Ic=>repeat (first|exact (Kd.Mb Qe.out HB.out)|(with_reducible refine Kd.ec ?_ _)|(with_reducible refine Kd.dc ?_ _)|(with_reducible refine Kd.Dc ?_)));(case Gc=>exact gf.out);(case ee=>exact Kd.WL _ _);(case Zd=>exact Nat.le_refl _);rintro e XA ⟨rfl,hb⟩;refine ⟨_,rfl,?_⟩;have Jb:=ga.mk (Va (g:=za) (o:=.cells #[.slice yb Oa.length xb,.int .i64 Ka,.int .i64 Pa,.int .i64 Ja,.slice Rb Ga.length Ib] 45 (0,0)) (by (with_reducible repeat (first|refine Da ?_ _|refine Ea ?_|refine Ca ?_ _));exact ta.out) hb);have Ob:=ga.mk (Ra (by repeat (first|(with_reducible first|exact HB.out|apply oa|apply ia|apply qa|refine ua ?_ Ta.out)|exact HB.out)) hb);clear ta HB;have ta:=Jb;have HB:=Ob;clear Jb Ob;(try clear hb);(try clear mj);(try clear hk);(try clear hi)))
   go_meet
   case rel=>exact ⟨_,(true),(by first|rfl|(simp;done)|(simp [*];done)),H',⟨by first|omega|exact Nat.le_refl _⟩,⟨by (with_reducible repeat (first|refine Da ?_ _|refine Ea ?_|refine Ca ?_ _));exact ta.out⟩,⟨by repeat (first|(with_reducible first|exact HB.out|apply oa|apply ia|apply qa|refine ua ?_ Ta.out)|exact HB.out)⟩⟩
 case rest =>
  clear o4
  try clear p2
  try clear c5
  try clear c7
  try clear c9
  try clear qq
  try clear pq
  try clear oq
  try clear mq
  try clear lq
  try clear qo
  try clear oo
  try clear mo
  try clear jo
  try clear fo
  try clear bq
  try clear aq
  try clear Zp
  try clear Yp
  try clear Xp
  try clear UD
  try clear TD
  try clear SD
  try clear RD
  try clear QD
  try clear Zl
  try clear Yl
  try clear Xl
  try clear Wl
  try clear Vl
  try clear Wp
  try clear Vp
  try clear Tp
  try clear Sp
  try clear Rp
  try clear Vn
  try clear Un
  try clear Tn
  try clear Sn
  try clear Rn
  try clear Kp
  try clear Jp
  try clear Ip
  try clear Hp
  try clear Gp
  try clear VC
  try clear UC
  try clear TC
  try clear SC
  try clear RC
  try clear Ul
  try clear Tl
  try clear Sl
  try clear Rl
  try clear Ql
  obtain ⟨kq,kJ,rfl,HA,HJ1,ta,HB⟩:=hcut;cases kq with
  | zero=>exact absurd HA.out (by simp [Ub.j0])
  | succ kj1 =>
   have H:=HA.out;clear HA;simp only [Ub.j0] at H
   by_cases nE:kJ=true
   ·subst nE;have H1:(some false)=some r:=by rw [if_pos rfl] at H;exact H
    clear H;have H:=H1;clear H1;obtain rfl:=Option.some.inj H;go_wp2;go_ret;exact ⟨by first|rfl|(simp [Na,Ma] <;> rfl)|(simp [*,Na,Ma] <;> rfl),by repeat (first|(with_reducible first|exact HB.out|apply oa|apply ia|apply qa|refine ua ?_ Ta.out)|exact HB.out)⟩
   ·replace nE:=Bool.eq_false_iff.mpr nE;subst nE;have H1:(Ub.l0 kj1 0 Ga (Ga.length:Int) 0 Oa Ka Pa Ja Ga)=some r:=by rw [if_neg (show ¬ (false=true) by decide)] at H;exact H
    clear H;have H:=H1;clear H1;have H':=ga.mk H;clear H;have vt:wc.cell? ⟨za,0,none⟩=some (.slice yb Oa.length xb):=(ja ta.out 0).trans rfl;have qt:wc.cell? ⟨za,1,none⟩=some (.int .i64 Ka):=(ja ta.out 1).trans rfl;have ot:wc.cell? ⟨za,2,none⟩=some (.int .i64 Pa):=(ja ta.out 2).trans rfl;have nt:wc.cell? ⟨za,3,none⟩=some (.int .i64 Ja):=(ja ta.out 3).trans rfl;have jt:wc.cell? ⟨za,4,none⟩=some (.slice Rb Ga.length Ib):=(ja ta.out 4).trans rfl;have Qs:=aa ta.out 0;have Ns:=aa ta.out 1;have Ms:=aa ta.out 2;have Ls:=aa ta.out 3;have Ks:=aa ta.out 4;go_wp2
    go_loopg [3,33] kj1 (fun kq v3 v33 w'=>∃ (Vi:Int) (Sd:Int),v3 = .int .i64 Vi∧v33 = .int .i64 Sd∧ga (Ub.l0 kq Vi Ga (Ga.length:Int) Sd Oa Ka Pa Ja Ga=some r)∧ga (kq ≤ kj1)∧ga (w'.heap[za]? = some (.cells #[(.slice yb Oa.length xb),.int .i64 Ka,.int .i64 Pa,.int .i64 Ja,(.slice Rb Ga.length Ib)] 45 (0,0)))∧ga (Below w.heap.size w w'))
    case atStart=>exact ⟨(0),(0),(by first|rfl|(simp;done)|(simp [*];done)),(by first|rfl|(simp;done)|(simp [*];done)),H',⟨Nat.le_refl _⟩,⟨by (with_reducible repeat (first|refine Da ?_ _|refine Ea ?_|refine Ca ?_ _));exact ta.out⟩,⟨by repeat (first|(with_reducible first|exact HB.out|apply oa|apply ia|apply qa|refine ua ?_ Ta.out)|exact HB.out)⟩⟩
    case round =>
     clear H'
     try clear c1
     try clear p2
     try clear c5
     try clear c7
     try clear c9
     try clear nE
     try clear qq
     try clear pq
     try clear oq
     try clear mq
     try clear lq
     try clear qo
     try clear oo
     try clear mo
     try clear jo
     try clear fo
     try clear bq
     try clear aq
     try clear Zp
     try clear Yp
     try clear Xp
     try clear UD
     try clear TD
     try clear SD
     try clear RD
     try clear QD
     try clear vt
     try clear qt
     try clear ot
     try clear nt
     try clear jt
     try clear Zl
     try clear Yl
     try clear Xl
     try clear Wl
     try clear Vl
     try clear Wp
     try clear Vp
     try clear Tp
     try clear Sp
     try clear Rp
     try clear Vn
     try clear Un
     try clear Tn
     try clear Sn
     try clear Rn
     try clear Kp
     try clear Jp
     try clear Ip
     try clear Hp
     try clear Gp
     try clear VC
     try clear UC
     try clear TC
     try clear SC
     try clear RC
     try clear Qs
     try clear Ns
     try clear Ms
     try clear Ls
     try clear Ks
     try clear Ul
     try clear Tl
     try clear Sl
     try clear Rl
     try clear Ql
     try clear p2
     (try clear HA);(try clear Vo);(try clear ta);(try clear HB);obtain ⟨Vi,Sd,rfl,rfl,HA,Vo,ta,HB⟩:=hrel;cases gk with
     | zero=>exact absurd HA.out (by simp [Ub.l0])
     | succ k2 =>
      have H:=HA.out;clear HA;simp only [Ub.l0] at H
      by_cases Mt:Sd < (Ga.length:Int)
      ·rw [if_pos Mt] at H;have tB:decide (Sd < (Ga.length:Int))=true:=decide_eq_true Mt;clear Mt
       by_cases vw:0 ≤ Sd
       ·rw [if_pos vw] at H;have JP:decide (0 ≤ Sd)=true:=decide_eq_true vw;clear vw
        by_cases TA:Sd < (Ga.length:Int)
        ·rw [if_pos TA] at H;have BG:decide (Sd < (Ga.length:Int))=true:=decide_eq_true TA;clear TA;replace H:=Option.bind_eq_some_iff.mp H;obtain ⟨t107,DQ,H⟩:=H;replace H:(if t107=true then (Ub.l0 k2 (wrap64 (Vi + (((Sa Ga Sd).f0).length:Int))) Ga (Ga.length:Int) (wrap64 (Sd + 1)) Oa Ka Pa Ja Ga) else (some false))=some r:=H;have GX:=ga.mk DQ;clear DQ
         by_cases ux:t107=true
         ·subst ux;have H1:(Ub.l0 k2 (wrap64 (Vi + (((Sa Ga Sd).f0).length:Int))) Ga (Ga.length:Int) (wrap64 (Sd + 1)) Oa Ka Pa Ja Ga)=some r:=by rw [if_pos rfl] at H;exact H
          clear H;have H:=H1;clear H1;have H':=ga.mk H;clear H;have LH:0 ≤ (Sd:Int):=of_decide_eq_true (by first|(with_reducible assumption)|assumption);have DH:Sd < (Ga.length:Int):=of_decide_eq_true (by first|(with_reducible assumption)|assumption);obtain ⟨lp,cl,Yk,FZ,Nu,Mu,Lu,Ku,Ju,vv,Bv⟩:=Tj ug.out Sd LH DH;cases FZ;replace Nu:=Qa HB.out Nu;replace Mu:=Qa HB.out Mu;replace Lu:=Qa HB.out Lu;replace Ku:=Qa HB.out Ku;replace Ju:=Qa HB.out Ju;have DE:=ga.mk Bv;have IE:=ga.mk vv;clear Bv vv;replace LH:=eq_true LH;replace DH:=eq_true DH;go_wp2_with (first|((with_reducible refine Db (N:=5) rfl ?_);(try (refine di (by rfl) ?_;dsimp only));refine Lb ?hg (N:=5) ?hd (cs:=#[.slice none 0 0,.int .i64 0,.int .i64 0,.int .i64 0,.int .i64 0]) (t:=83) ?hr ?_;(case hd=>rfl);(case hg=>rfl);(case hr=>first|(go_simp;done)|(go_simp;rfl));intro uj hg NQ Tb hb;have Jb:=ga.mk (Va (g:=za) (o:=.cells #[.slice yb Oa.length xb,.int .i64 Ka,.int .i64 Pa,.int .i64 Ja,.slice (some lp) Ga.length Ib] 45 (0,0)) (by (with_reducible repeat (first|refine Da ?_ _|refine Ea ?_|refine Ca ?_ _));exact ta.out) hb);have Ob:=ga.mk (Ra (by repeat (first|(with_reducible first|exact HB.out|apply oa|apply ia|apply qa|refine ua ?_ Ta.out)|exact HB.out)) hb);have Vb:=ga.mk (Tb);have uc:=ga.mk ((by rw [hg];exact (La (by repeat (first|(with_reducible first|exact HB.out|apply oa|apply ia|apply qa|refine ua ?_ Ta.out)|exact HB.out))):w.heap.size ≤ uj));have Be:=ga.mk ((by rw [hg];exact (La (by repeat (first|(with_reducible first|exact HB.out|apply oa|apply ia|apply qa|refine ua ?_ Ta.out)|exact HB.out))):w.heap.size ≤ uj));have Vf:=ga.mk ((by rw [hg];exact Nat.ne_of_lt (Pc (g:=za) (o:=.cells #[.slice yb Oa.length xb,.int .i64 Ka,.int .i64 Pa,.int .i64 Ja,.slice (some lp) Ga.length Ib] 45 (0,0)) (by (with_reducible repeat (first|refine Da ?_ _|refine Ea ?_|refine Ca ?_ _));exact ta.out)):za ≠ uj));have uh:=ga.mk ((by rw [hg];exact Nat.ne_of_gt (Pc (g:=za) (o:=.cells #[.slice yb Oa.length xb,.int .i64 Ka,.int .i64 Pa,.int .i64 Ja,.slice (some lp) Ga.length Ib] 45 (0,0)) (by (with_reducible repeat (first|refine Da ?_ _|refine Ea ?_|refine Ca ?_ _));exact ta.out)):uj ≠ za));clear ta HB;have ta:=Jb;have HB:=Ob;have Rh:=Vb;have Hac:=uc;have Lr:=Be;have bh:=Vf;have Cx:=uh;clear Jb Ob Vb uc Be Vf uh hb Tb hg;have V5:=Cx.out;have L5:=bh.out;have Tv:NQ.cell? ⟨uj,0,none⟩=some (.slice none 0 0):=(ja Rh.out 0).trans rfl;have Sv:NQ.cell? ⟨uj,1,none⟩=some (.int .i64 0):=(ja Rh.out 1).trans rfl;have Rv:NQ.cell? ⟨uj,2,none⟩=some (.int .i64 0):=(ja Rh.out 2).trans rfl;have Qv:NQ.cell? ⟨uj,3,none⟩=some (.int .i64 0):=(ja Rh.out 3).trans rfl;have Pv:NQ.cell? ⟨uj,4,none⟩=some (.int .i64 0):=(ja Rh.out 4).trans rfl;have Iv:=aa Rh.out 0;have Hv:=aa Rh.out 1;have Gv:=aa Rh.out 2;have Fv:=aa Rh.out 3;have Dv:=aa Rh.out 4;have az:NQ.cell? ⟨za,0,none⟩=some (.slice yb Oa.length xb):=(ja ta.out 0).trans rfl;have Zy:NQ.cell? ⟨za,1,none⟩=some (.int .i64 Ka):=(ja ta.out 1).trans rfl;have Yy:NQ.cell? ⟨za,2,none⟩=some (.int .i64 Pa):=(ja ta.out 2).trans rfl;have Xy:NQ.cell? ⟨za,3,none⟩=some (.int .i64 Ja):=(ja ta.out 3).trans rfl;have Wy:NQ.cell? ⟨za,4,none⟩=some (.slice (some lp) Ga.length Ib):=(ja ta.out 4).trans rfl;have Ky:=aa ta.out 0;have Jy:=aa ta.out 1;have Iy:=aa ta.out 2;have Hy:=aa ta.out 3;have Gy:=aa ta.out 4)|((with_reducible refine zb (f:=104) rfl ?_);refine Fc (some 44) rfl rfl Try.func104 (by kernel_rfl) rfl #[.agg #[.slice yb Oa.length xb,.int .i64 Ka,.int .i64 Pa,.int .i64 Ja,.slice (some lp) Ga.length Ib],.agg #[.slice cl ((Sa Ga Sd).f0).length Yk,.int .i64 ((Sa Ga Sd).f1),.int .i64 ((Sa Ga Sd).f2),.int .i64 ((Sa Ga Sd).f3),.int .i64 ((Sa Ga Sd).f4)]] rfl (by (try simp only [List.map_toArray,List.map_cons,List.map_nil]);first|done|rfl|(simp only [List.length_drop,List.length_take];rfl)) ?_;(with_reducible refine (Yh.calls _ _ Oa Ka Pa Ja _ _ Ga _ _ ((Sa Ga Sd).f0) ((Sa Ga Sd).f1) ((Sa Ga Sd).f2) ((Sa Ga Sd).f3) ((Sa Ga Sd).f4) true _ ?Ic ?Gc ?ee ?Zd ?Au ?zu GX.out).mono ?_);(case Ic=>exact Kd.Mb Qe.out (by repeat (first|(with_reducible first|exact HB.out|apply oa|apply ia|apply qa|refine ua ?_ Ta.out|refine ua ?_ Lr.out)|exact HB.out)));(case Gc=>exact gf.out);(case ee=>exact Kd.Mb ug.out (by repeat (first|(with_reducible first|exact HB.out|apply oa|apply ia|apply qa|refine ua ?_ Ta.out|refine ua ?_ Lr.out)|exact HB.out)));(case Zd=>exact Kh.out);(case Au=>exact Kd.Mb DE.out (by repeat (first|(with_reducible first|exact HB.out|apply oa|apply ia|apply qa|refine ua ?_ Ta.out|refine ua ?_ Lr.out)|exact HB.out)));(case zu=>exact IE.out);rintro e nH ⟨rfl,hb⟩;refine ⟨_,rfl,?_⟩;have Jb:=ga.mk (Va (g:=za) (o:=.cells #[.slice yb Oa.length xb,.int .i64 Ka,.int .i64 Pa,.int .i64 Ja,.slice (some lp) Ga.length Ib] 45 (0,0)) (by (with_reducible repeat (first|refine Da ?_ _|refine Ea ?_|refine Ca ?_ _));refine Je ?_ bh.out _;(with_reducible repeat (first|refine Da ?_ _|refine Ea ?_|refine Ca ?_ _));refine Je ?_ bh.out _;(with_reducible repeat (first|refine Da ?_ _|refine Ea ?_|refine Ca ?_ _));refine Je ?_ bh.out _;(with_reducible repeat (first|refine Da ?_ _|refine Ea ?_|refine Ca ?_ _));refine Je ?_ bh.out _;(with_reducible repeat (first|refine Da ?_ _|refine Ea ?_|refine Ca ?_ _));refine Je ?_ bh.out _;(with_reducible repeat (first|refine Da ?_ _|refine Ea ?_|refine Ca ?_ _));exact ta.out) hb);have Ob:=ga.mk (Va (g:=uj) (o:=.cells #[.slice cl ((Sa Ga Sd).f0).length Yk,.int .i64 ((Sa Ga Sd).f1),.int .i64 ((Sa Ga Sd).f2),.int .i64 ((Sa Ga Sd).f3),.int .i64 ((Sa Ga Sd).f4)] 83 (0,0)) (by (with_reducible repeat (first|refine Da ?_ _|refine Ea ?_|refine Ca ?_ _));refine Ye (cs:=#[.slice cl ((Sa Ga Sd).f0).length Yk,.int .i64 ((Sa Ga Sd).f1),.int .i64 ((Sa Ga Sd).f2),.int .i64 ((Sa Ga Sd).f3),.int .i64 0]) ?_ 4 _ rfl;(with_reducible repeat (first|refine Da ?_ _|refine Ea ?_|refine Ca ?_ _));refine Ye (cs:=#[.slice cl ((Sa Ga Sd).f0).length Yk,.int .i64 ((Sa Ga Sd).f1),.int .i64 ((Sa Ga Sd).f2),.int .i64 0,.int .i64 0]) ?_ 3 _ rfl;(with_reducible repeat (first|refine Da ?_ _|refine Ea ?_|refine Ca ?_ _));refine Ye (cs:=#[.slice cl ((Sa Ga Sd).f0).length Yk,.int .i64 ((Sa Ga Sd).f1),.int .i64 0,.int .i64 0,.int .i64 0]) ?_ 2 _ rfl;(with_reducible repeat (first|refine Da ?_ _|refine Ea ?_|refine Ca ?_ _));refine Ye (cs:=#[.slice cl ((Sa Ga Sd).f0).length Yk,.int .i64 0,.int .i64 0,.int .i64 0,.int .i64 0]) ?_ 1 _ rfl;(with_reducible repeat (first|refine Da ?_ _|refine Ea ?_|refine Ca ?_ _));refine Ye (cs:=#[.slice none 0 0,.int .i64 0,.int .i64 0,.int .i64 0,.int .i64 0]) ?_ 0 _ rfl;(with_reducible repeat (first|refine Da ?_ _|refine Ea ?_|refine Ca ?_ _));exact Rh.out) hb);have Vb:=ga.mk (Ra (by repeat (first|(with_reducible first|exact HB.out|apply oa|apply ia|apply qa|refine ua ?_ Ta.out|refine ua ?_ Lr.out)|exact HB.out)) hb);clear ta Rh HB;have ta:=Jb;have Rh:=Ob;have HB:=Vb;clear Jb Ob Vb;(try clear hb);(try clear mj);(try clear hk);(try clear hi)))
          go_roundg k2
          case measure=>have:=HJ1.out;have:=Vo.out;omega
          case rel=>exact ⟨(wrap64 (Vi + (((Sa Ga Sd).f0).length:Int))),(wrap64 (Sd + 1)),(by first|rfl|(simp;done)|(simp [*];done)),(by first|rfl|(simp;done)|(simp [*];done)),H',⟨by have:=HJ1.out;have:=Vo.out;omega⟩,⟨by (with_reducible repeat (first|refine Da ?_ _|refine Ea ?_|refine Ca ?_ _));exact ta.out⟩,⟨by repeat (first|(with_reducible first|exact HB.out|apply oa|apply ia|apply qa|refine ua ?_ Ta.out|refine ua ?_ Lr.out)|exact HB.out)⟩⟩
         ·replace ux:=Bool.eq_false_iff.mpr ux;subst ux;have H1:(some false)=some r:=by rw [if_neg (show ¬ (false=true) by decide)] at H;exact H
          clear H;have H:=H1;clear H1;obtain rfl:=Option.some.inj H;have LH:0 ≤ (Sd:Int):=of_decide_eq_true (by first|(with_reducible assumption)|assumption);have DH:Sd < (Ga.length:Int):=of_decide_eq_true (by first|(with_reducible assumption)|assumption);obtain ⟨lp,cl,Yk,FZ,Nu,Mu,Lu,Ku,Ju,vv,Bv⟩:=Tj ug.out Sd LH DH;cases FZ;replace Nu:=Qa HB.out Nu;replace Mu:=Qa HB.out Mu;replace Lu:=Qa HB.out Lu;replace Ku:=Qa HB.out Ku;replace Ju:=Qa HB.out Ju;have DE:=ga.mk Bv;have IE:=ga.mk vv;clear Bv vv;replace LH:=eq_true LH;replace DH:=eq_true DH;go_wp2_with (first|((with_reducible refine Db (N:=5) rfl ?_);(try (refine di (by rfl) ?_;dsimp only));refine Lb ?hg (N:=5) ?hd (cs:=#[.slice none 0 0,.int .i64 0,.int .i64 0,.int .i64 0,.int .i64 0]) (t:=83) ?hr ?_;(case hd=>rfl);(case hg=>rfl);(case hr=>first|(go_simp;done)|(go_simp;rfl));intro uj hg MQ Tb hb;have Jb:=ga.mk (Va (g:=za) (o:=.cells #[.slice yb Oa.length xb,.int .i64 Ka,.int .i64 Pa,.int .i64 Ja,.slice (some lp) Ga.length Ib] 45 (0,0)) (by (with_reducible repeat (first|refine Da ?_ _|refine Ea ?_|refine Ca ?_ _));exact ta.out) hb);have Ob:=ga.mk (Ra (by repeat (first|(with_reducible first|exact HB.out|apply oa|apply ia|apply qa|refine ua ?_ Ta.out)|exact HB.out)) hb);have Vb:=ga.mk (Tb);have uc:=ga.mk ((by rw [hg];exact (La (by repeat (first|(with_reducible first|exact HB.out|apply oa|apply ia|apply qa|refine ua ?_ Ta.out)|exact HB.out))):w.heap.size ≤ uj));have Be:=ga.mk ((by rw [hg];exact (La (by repeat (first|(with_reducible first|exact HB.out|apply oa|apply ia|apply qa|refine ua ?_ Ta.out)|exact HB.out))):w.heap.size ≤ uj));have Vf:=ga.mk ((by rw [hg];exact Nat.ne_of_lt (Pc (g:=za) (o:=.cells #[.slice yb Oa.length xb,.int .i64 Ka,.int .i64 Pa,.int .i64 Ja,.slice (some lp) Ga.length Ib] 45 (0,0)) (by (with_reducible repeat (first|refine Da ?_ _|refine Ea ?_|refine Ca ?_ _));exact ta.out)):za ≠ uj));have uh:=ga.mk ((by rw [hg];exact Nat.ne_of_gt (Pc (g:=za) (o:=.cells #[.slice yb Oa.length xb,.int .i64 Ka,.int .i64 Pa,.int .i64 Ja,.slice (some lp) Ga.length Ib] 45 (0,0)) (by (with_reducible repeat (first|refine Da ?_ _|refine Ea ?_|refine Ca ?_ _));exact ta.out)):uj ≠ za));clear ta HB;have ta:=Jb;have HB:=Ob;have Rh:=Vb;have Hac:=uc;have Lr:=Be;have bh:=Vf;have Cx:=uh;clear Jb Ob Vb uc Be Vf uh hb Tb hg;have sar:=Cx.out;have Iaq:=bh.out;have ED:MQ.cell? ⟨uj,0,none⟩=some (.slice none 0 0):=(ja Rh.out 0).trans rfl;have DD:MQ.cell? ⟨uj,1,none⟩=some (.int .i64 0):=(ja Rh.out 1).trans rfl;have CD:MQ.cell? ⟨uj,2,none⟩=some (.int .i64 0):=(ja Rh.out 2).trans rfl;have BD:MQ.cell? ⟨uj,3,none⟩=some (.int .i64 0):=(ja Rh.out 3).trans rfl;have zD:MQ.cell? ⟨uj,4,none⟩=some (.int .i64 0):=(ja Rh.out 4).trans rfl;have FC:=aa Rh.out 0;have EC:=aa Rh.out 1;have DC:=aa Rh.out 2;have CC:=aa Rh.out 3;have BC:=aa Rh.out 4;have yD:MQ.cell? ⟨za,0,none⟩=some (.slice yb Oa.length xb):=(ja ta.out 0).trans rfl;have xD:MQ.cell? ⟨za,1,none⟩=some (.int .i64 Ka):=(ja ta.out 1).trans rfl;have wD:MQ.cell? ⟨za,2,none⟩=some (.int .i64 Pa):=(ja ta.out 2).trans rfl;have vD:MQ.cell? ⟨za,3,none⟩=some (.int .i64 Ja):=(ja ta.out 3).trans rfl;have uD:MQ.cell? ⟨za,4,none⟩=some (.slice (some lp) Ga.length Ib):=(ja ta.out 4).trans rfl;have zC:=aa ta.out 0;have yC:=aa ta.out 1;have xC:=aa ta.out 2;have wC:=aa ta.out 3;have vC:=aa ta.out 4)|((with_reducible refine zb (f:=104) rfl ?_);refine Fc (some 44) rfl rfl Try.func104 (by kernel_rfl) rfl #[.agg #[.slice yb Oa.length xb,.int .i64 Ka,.int .i64 Pa,.int .i64 Ja,.slice (some lp) Ga.length Ib],.agg #[.slice cl ((Sa Ga Sd).f0).length Yk,.int .i64 ((Sa Ga Sd).f1),.int .i64 ((Sa Ga Sd).f2),.int .i64 ((Sa Ga Sd).f3),.int .i64 ((Sa Ga Sd).f4)]] rfl (by (try simp only [List.map_toArray,List.map_cons,List.map_nil]);first|done|rfl|(simp only [List.length_drop,List.length_take];rfl)) ?_;(with_reducible refine (Yh.calls _ _ Oa Ka Pa Ja _ _ Ga _ _ ((Sa Ga Sd).f0) ((Sa Ga Sd).f1) ((Sa Ga Sd).f2) ((Sa Ga Sd).f3) ((Sa Ga Sd).f4) false _ ?Ic ?Gc ?ee ?Zd ?Au ?zu GX.out).mono ?_);(case Ic=>exact Kd.Mb Qe.out (by repeat (first|(with_reducible first|exact HB.out|apply oa|apply ia|apply qa|refine ua ?_ Ta.out|refine ua ?_ Lr.out)|exact HB.out)));(case Gc=>exact gf.out);(case ee=>exact Kd.Mb ug.out (by repeat (first|(with_reducible first|exact HB.out|apply oa|apply ia|apply qa|refine ua ?_ Ta.out|refine ua ?_ Lr.out)|exact HB.out)));(case Zd=>exact Kh.out);(case Au=>exact Kd.Mb DE.out (by repeat (first|(with_reducible first|exact HB.out|apply oa|apply ia|apply qa|refine ua ?_ Ta.out|refine ua ?_ Lr.out)|exact HB.out)));(case zu=>exact IE.out);rintro e cN ⟨rfl,hb⟩;refine ⟨_,rfl,?_⟩;have Jb:=ga.mk (Va (g:=za) (o:=.cells #[.slice yb Oa.length xb,.int .i64 Ka,.int .i64 Pa,.int .i64 Ja,.slice (some lp) Ga.length Ib] 45 (0,0)) (by (with_reducible repeat (first|refine Da ?_ _|refine Ea ?_|refine Ca ?_ _));refine Je ?_ bh.out _;(with_reducible repeat (first|refine Da ?_ _|refine Ea ?_|refine Ca ?_ _));refine Je ?_ bh.out _;(with_reducible repeat (first|refine Da ?_ _|refine Ea ?_|refine Ca ?_ _));refine Je ?_ bh.out _;(with_reducible repeat (first|refine Da ?_ _|refine Ea ?_|refine Ca ?_ _));refine Je ?_ bh.out _;(with_reducible repeat (first|refine Da ?_ _|refine Ea ?_|refine Ca ?_ _));refine Je ?_ bh.out _;(with_reducible repeat (first|refine Da ?_ _|refine Ea ?_|refine Ca ?_ _));exact ta.out) hb);have Ob:=ga.mk (Va (g:=uj) (o:=.cells #[.slice cl ((Sa Ga Sd).f0).length Yk,.int .i64 ((Sa Ga Sd).f1),.int .i64 ((Sa Ga Sd).f2),.int .i64 ((Sa Ga Sd).f3),.int .i64 ((Sa Ga Sd).f4)] 83 (0,0)) (by (with_reducible repeat (first|refine Da ?_ _|refine Ea ?_|refine Ca ?_ _));refine Ye (cs:=#[.slice cl ((Sa Ga Sd).f0).length Yk,.int .i64 ((Sa Ga Sd).f1),.int .i64 ((Sa Ga Sd).f2),.int .i64 ((Sa Ga Sd).f3),.int .i64 0]) ?_ 4 _ rfl;(with_reducible repeat (first|refine Da ?_ _|refine Ea ?_|refine Ca ?_ _));refine Ye (cs:=#[.slice cl ((Sa Ga Sd).f0).length Yk,.int .i64 ((Sa Ga Sd).f1),.int .i64 ((Sa Ga Sd).f2),.int .i64 0,.int .i64 0]) ?_ 3 _ rfl;(with_reducible repeat (first|refine Da ?_ _|refine Ea ?_|refine Ca ?_ _));refine Ye (cs:=#[.slice cl ((Sa Ga Sd).f0).length Yk,.int .i64 ((Sa Ga Sd).f1),.int .i64 0,.int .i64 0,.int .i64 0]) ?_ 2 _ rfl;(with_reducible repeat (first|refine Da ?_ _|refine Ea ?_|refine Ca ?_ _));refine Ye (cs:=#[.slice cl ((Sa Ga Sd).f0).length Yk,.int .i64 0,.int .i64 0,.int .i64 0,.int .i64 0]) ?_ 1 _ rfl;(with_reducible repeat (first|refine Da ?_ _|refine Ea ?_|refine Ca ?_ _));refine Ye (cs:=#[.slice none 0 0,.int .i64 0,.int .i64 0,.int .i64 0,.int .i64 0]) ?_ 0 _ rfl;(with_reducible repeat (first|refine Da ?_ _|refine Ea ?_|refine Ca ?_ _));exact Rh.out) hb);have Vb:=ga.mk (Ra (by repeat (first|(with_reducible first|exact HB.out|apply oa|apply ia|apply qa|refine ua ?_ Ta.out|refine ua ?_ Lr.out)|exact HB.out)) hb);clear ta Rh HB;have ta:=Jb;have Rh:=Ob;have HB:=Vb;clear Jb Ob Vb;(try clear hb);(try clear mj);(try clear hk);(try clear hi)));go_ret;exact ⟨by first|rfl|(simp [Na,Ma] <;> rfl)|(simp [*,Na,Ma] <;> rfl),by repeat (first|(with_reducible first|exact HB.out|apply oa|apply ia|apply qa|refine ua ?_ Ta.out|refine ua ?_ Lr.out)|exact HB.out)⟩
        ·rw [if_neg TA] at H;exact absurd H (by simp)
       ·rw [if_neg vw] at H;exact absurd H (by simp)
      ·rw [if_neg Mt] at H;have tB:decide (Sd < (Ga.length:Int))=false:=decide_eq_false Mt;clear Mt;obtain rfl:=Option.some.inj H;go_wp2;go_ret;exact ⟨by first|rfl|(simp [Na,Ma] <;> rfl)|(simp [*,Na,Ma] <;> rfl),by repeat (first|(with_reducible first|exact HB.out|apply oa|apply ia|apply qa|refine ua ?_ Ta.out)|exact HB.out)⟩
end Go.Proofs.Ytoomcmaifgkkfaa.P
end
section
namespace Go.Proofs.Ytoomcmaifgkkfaa.P
open Go.RowKit Go.Proofs.Ia.Qb Go.Proofs.Ia.Dd Go.Proofs.Ia.ze
set_option linter.unusedVariables false
set_option linter.unusedSimpArgs false
open Classical in
noncomputable def gy (n:Nat) (p:Nat→Prop):Bool:=decide (∀ j,j < n→p j)
open Classical in
theorem SM {n:Nat} {p:Nat→Prop} (h:∀ j,j < n→p j):gy n p=true:=by
 unfold gy;exact decide_eq_true h
open Classical in
theorem GG {n:Nat} {p:Nat→Prop}:gy n p=true ↔ ∀ j,j < n→p j:=by
 unfold gy;exact decide_eq_true_iff
theorem RI {n i:Nat} {p:Nat→Prop} (hi:i < n) (h:¬ p i):gy n p=false:=by
 cases e:gy n p with
 | false=>rfl
 | true=>exact absurd (GG.mp e i hi) h
theorem yI {ρ:Type} {n:Nat} {R e:ρ} (p:Nat→Prop) (f:Nat→Nat→Option ρ) (hend:Ev (f n) R) (hyes:∀ i,i < n→p i→∀ r,Ev (f (i + 1)) r→Ev (f i) r) (hno:∀ i,i < n→¬ p i→Ev (f i) e):Ev (f 0) (bif gy n p then R else e):=by
 have key:∀ d i,i + d=n→(∀ j,j < i→p j)→Ev (f i) (bif gy n p then R else e):=by
  intro d
  induction d with
  | zero =>
   intro i hi h;have:i=n:=by omega
   subst this;rw [SM h];exact hend
  | succ d ih =>
   intro i hi h
   by_cases hp:p i
   ·refine hyes i (by omega) hp _ (ih (i + 1) (by omega) ?_);intro j hj
    by_cases hji:j=i
    ·rw [hji];exact hp
    ·exact h j (by omega)
   ·rw [RI (by omega) hp];exact hno i (by omega) hp
 exact key n 0 (by omega) (fun j hj=>absurd hj (by omega))
theorem yx {α:Type} (l:List α) (z:α) (q:α→Bool):gy l.length (fun j=>q (l.getD j z)=true) = !(l.any fun x=>!q x):=by
 rw [Bool.eq_iff_iff,GG];simp only [Bool.not_eq_true',List.any_eq_false,Bool.not_eq_true',Bool.not_eq_false]
 constructor
 ·intro h x hx;obtain ⟨j,hj,rfl⟩:=List.mem_iff_getElem.mp hx;have:=h j hj;rw [List.getD_eq_getElem?_getD,List.getElem?_eq_getElem hj] at this
  simpa using this
 ·intro h j hj;have:=h l[j] (List.getElem_mem hj);rw [List.getD_eq_getElem?_getD,List.getElem?_eq_getElem hj]
  simpa using this
end Go.Proofs.Ytoomcmaifgkkfaa.P
end
section
namespace Go.Proofs.Ytoomcmaifgkkfaa.P
open Go.RowKit Go.Proofs.Ia.Qb Go.Proofs.Ia.Dd Go.Proofs.Ia.ze
set_option linter.unusedVariables false
set_option linter.unusedSimpArgs false
theorem Hz (a b c:Int):Za.f a b c=some (Di a b c):=by
 unfold Za.f Di
 by_cases h:a ≥ b
 ·rw [if_pos h];have h':b ≤ a:=h;simp [h']
 ·rw [if_neg h];have h':¬ b ≤ a:=h;simp [h']
theorem Rf (a b c:Int):Ev (fun _=>Za.f a b c) (Di a b c):=Ev.here (Hz a b c)
theorem rZ (t:ByteArray):Ev (fun k=>Ae.f k ([(⟨#[61,61]⟩:ByteArray),(⟨#[60]⟩:ByteArray),(⟨#[38]⟩:ByteArray),(⟨#[43]⟩:ByteArray),(⟨#[45]⟩:ByteArray),(⟨#[42]⟩:ByteArray)]:List ByteArray) t) (yu t):=by
 refine ⟨8,fun k hk=>?_⟩;obtain ⟨m,rfl⟩:∃ m,k=m + 8:=⟨k - 8,by omega⟩;unfold Ae.f yu tH;simp only [Ae.l0,List.any_cons,List.any_nil]
 by_cases h0:t.toList=[61,61]
 ·simp [lg,h0]
 by_cases h1:t.toList=[60]
 ·simp [lg,h1,wrap64]
 by_cases h2:t.toList=[38]
 ·simp [lg,h2,wrap64]
 by_cases h3:t.toList=[43]
 ·simp [lg,h3,wrap64]
 by_cases h4:t.toList=[45]
 ·simp [lg,h4,wrap64]
 by_cases h5:t.toList=[42]
 ·simp [lg,h5,wrap64]
 simp [lg,Ne.symm h0,Ne.symm h1,Ne.symm h2,Ne.symm h3,Ne.symm h4,Ne.symm h5,h0,h1,h2,h3,h4,h5,wrap64]
theorem UH (s d:Int):Di d 0 (s - 1)=Mk s d:=by
 unfold Di Mk;rw [Bool.eq_iff_iff];simp;omega
def QB (D A B C M:Bool) (o d a b n:Int) (t:ByteArray):Bool :=
 if o=0 then D && (a == 0 && b == 0)
 else if o=1 then D && (A && (b == 0 && n == 0))
 else if o=2 then D && (A && (B && (n == 0 && yu t)))
 else if o=3 then D && M
 else if o=4 then d == 0 && (M && C)
 else if o=5 then D && (a == 0 && (b == 0 && n == 0))
 else if o=6 then d == 0 && (A && (b == 0 && n == 0))
 else false
theorem Ev.mw {b:Bool} {f:Nat→Option Bool} {r:Bool} (hf:b=true→Ev f r):Ev (fun n=>if b=true then f n else some false) (b && r):=by
 cases b with
 | true=>exact Ev.pos rfl (hf rfl)
 | false=>exact Ev.neg (by simp) (Ev.now _)
theorem Ev.UA {c:Prop} [Decidable c] {f:Nat→Option Bool} {r:Bool} (hf:c→Ev f r):Ev (fun n=>if c then f n else some false) (decide c && r):=by
 by_cases h:c
 ·rw [decide_eq_true h];exact Ev.pos h (hf h)
 ·rw [decide_eq_false h];exact Ev.neg h (Ev.now _)
section
variable {l0:List Int} {p v s:Int} {l4:List jf} {o d a b c n:Int} {t:ByteArray}
theorem fG (D A B M:Bool) (x:Bool) (hs:0 ≤ s) (hs':s ≤ 1000):Ev (fun k=>jb.j1 k D A B M x l0 p v s l4 o d a b c n t) (!x && QB D A B (Mk s c) M o d a b n t):=by
 refine Ev.step (fun k=>by rw [jb.j1]) ?_;cases x with
 | true=>exact Ev.pos rfl (Ev.now _)
 | false =>
  refine Ev.neg (by simp) ?_;rw [Bool.not_false,Bool.true_and];unfold QB
  by_cases h0:o=0
  ·rw [if_pos h0];exact Ev.pos h0 (Ev.mw fun _=>Ev.UA fun _=>Ev.now _)
  rw [if_neg h0];refine Ev.neg h0 ?_
  by_cases h1:o=1
  ·rw [if_pos h1];exact Ev.pos h1 (Ev.mw fun _=>Ev.mw fun _=>Ev.UA fun _=>Ev.now _)
  rw [if_neg h1];refine Ev.neg h1 ?_
  by_cases h2:o=2
  ·rw [if_pos h2];exact Ev.pos h2 (Ev.mw fun _=>Ev.mw fun _=>Ev.mw fun _=>Ev.UA fun _=>Ev.bind (rZ t) (Ev.now _))
  rw [if_neg h2];refine Ev.neg h2 ?_
  by_cases h3:o=3
  ·rw [if_pos h3,if_pos h3];exact (Ev.mw fun _=>Ev.now _)
  rw [if_neg h3,if_neg h3]
  by_cases h4:o=4
  ·rw [if_pos h4,if_pos h4];refine (Ev.UA fun _=>Ev.mw fun _=>?_);rw [kg (x:=s - 1) (by omega) (by omega),← UH];exact Ev.bind (Rf _ _ _) (Ev.now _)
  rw [if_neg h4,if_neg h4]
  by_cases h5:o=5
  ·rw [if_pos h5,if_pos h5];exact (Ev.mw fun _=>Ev.UA fun _=>Ev.UA fun _=>Ev.now _)
  rw [if_neg h5,if_neg h5]
  by_cases h6:o=6
  ·rw [if_pos h6,if_pos h6];exact (Ev.UA fun _=>Ev.mw fun _=>Ev.UA fun _=>Ev.now _)
  rw [if_neg h6,if_neg h6];exact Ev.now _
theorem Hl (M:Bool) (hM:M=((Mk s a || a == -1) && (Mk s b && Di n 0 ((l0.length:Int) - 1)))) (hs:0 ≤ s) (hs':s ≤ 1000):Ev (fun k=>jb.j0 k (Mk s d) (Mk s a) (Mk s b) M l0 p v s l4 o d a b c n t) (vl l0.length s o d a b c n t):=by
 refine Ev.step (fun k=>by rw [jb.j0]) ?_
 have key:∀ x:Bool,(x=if o=2 then (c != 0) else if t.toList=[] then (if o=4 then false else (c != 0)) else true)→Ev (fun k=>jb.j1 k (Mk s d) (Mk s a) (Mk s b) M x l0 p v s l4 o d a b c n t) (vl l0.length s o d a b c n t):=by
  intro x hx
  have e:vl l0.length s o d a b c n t=(!x && QB (Mk s d) (Mk s a) (Mk s b) (Mk s c) M o d a b n t):=by
   subst hM;subst hx;unfold vl QB
   by_cases h0:o=0
   ·subst h0;rw [Bool.eq_iff_iff]
    by_cases ht:t.toList=[] <;> simp [ht]
    all_goals (constructor <;> intro h <;> simp_all)
   by_cases h1:o=1
   ·subst h1;rw [Bool.eq_iff_iff]
    by_cases ht:t.toList=[] <;> simp [ht]
    all_goals (constructor <;> intro h <;> simp_all)
   by_cases h2:o=2
   ·subst h2;rw [Bool.eq_iff_iff];simp
    constructor <;> intro h <;> simp_all
   by_cases h3:o=3
   ·subst h3;rw [Bool.eq_iff_iff]
    by_cases ht:t.toList=[] <;> simp [ht]
    all_goals (constructor <;> intro h <;> simp_all)
   by_cases h4:o=4
   ·subst h4;rw [Bool.eq_iff_iff]
    by_cases ht:t.toList=[] <;> simp [ht]
    all_goals (constructor <;> intro h <;> simp_all)
   by_cases h5:o=5
   ·subst h5;rw [Bool.eq_iff_iff]
    by_cases ht:t.toList=[] <;> simp [ht]
    all_goals (constructor <;> intro h <;> simp_all)
   by_cases h6:o=6
   ·subst h6;rw [Bool.eq_iff_iff]
    by_cases ht:t.toList=[] <;> simp [ht]
    all_goals (constructor <;> intro h <;> simp_all)
   simp [h0,h1,h2,h3,h4,h5,h6]
  rw [e];exact fG _ _ _ _ _ hs hs'
 by_cases h2:o=2
 ·exact Ev.pos h2 (Ev.neg (by omega) (key _ (by rw [if_pos h2])))
 ·refine Ev.neg h2 ?_
  by_cases ht:t.toList=([]:List UInt8)
  ·refine Ev.pos ht ?_
   by_cases h4:o=4
   ·exact Ev.pos h4 (key _ (by rw [if_neg h2,if_pos ht,if_pos h4]))
   ·exact Ev.neg h4 (key _ (by rw [if_neg h2,if_pos ht,if_neg h4]))
  ·exact Ev.neg ht (key _ (by rw [if_neg h2,if_neg ht]))
theorem Rz (hs:0 ≤ s) (hs':s ≤ 1000) (hl:l0.length ≤ 1048576):Ev (fun k=>jb.f k l0 p v s l4 o d a b c n t) (vl l0.length s o d a b c n t):=by
 unfold jb.f;rw [kg (x:=s - 1) (by omega) (by omega),kg (x:=(l0.length:Int) - 1) (by omega) (by omega)];refine Ev.bind (Rf _ _ _) (Ev.bind (Rf _ _ _) (Ev.bind (Rf _ _ _) ?_));simp only [UH];cases ha:Mk s a with
 | true =>
  refine Ev.pos rfl ?_;cases hb:Mk s b with
  | true=>exact Ev.pos rfl (Ev.bind (Rf _ _ _) (by have:=Hl (l0:=l0) (p:=p) (v:=v) (s:=s) (l4:=l4) (o:=o) (d:=d) (a:=a) (b:=b) (c:=c) (n:=n) (t:=t) (Di n 0 ((l0.length:Int) - 1)) (by simp [ha,hb]) hs hs';rw [ha,hb] at this;exact this))
  | false=>exact Ev.neg (by simp) (by have:=Hl (l0:=l0) (p:=p) (v:=v) (s:=s) (l4:=l4) (o:=o) (d:=d) (a:=a) (b:=b) (c:=c) (n:=n) (t:=t) false (by simp [hb]) hs hs';rw [ha,hb] at this;exact this)
 | false =>
  refine Ev.neg (by simp) ?_
  by_cases h1:a = -1
  ·refine Ev.pos h1 ?_;cases hb:Mk s b with
   | true=>exact Ev.pos rfl (Ev.bind (Rf _ _ _) (by have:=Hl (l0:=l0) (p:=p) (v:=v) (s:=s) (l4:=l4) (o:=o) (d:=d) (a:=a) (b:=b) (c:=c) (n:=n) (t:=t) (Di n 0 ((l0.length:Int) - 1)) (by simp [h1,hb]) hs hs';rw [ha,hb] at this;exact this))
   | false=>exact Ev.neg (by simp) (by have:=Hl (l0:=l0) (p:=p) (v:=v) (s:=s) (l4:=l4) (o:=o) (d:=d) (a:=a) (b:=b) (c:=c) (n:=n) (t:=t) false (by simp [hb]) hs hs';rw [ha,hb] at this;exact this)
  ·exact Ev.neg h1 (by have:=Hl (l0:=l0) (p:=p) (v:=v) (s:=s) (l4:=l4) (o:=o) (d:=d) (a:=a) (b:=b) (c:=c) (n:=n) (t:=t) false (by simp [ha,h1]) hs hs';rw [ha] at this;exact this)
theorem xI (code:List Uc) (j ba tg els:Int) (hs:0 ≤ s) (hs':s ≤ 1000) (hl:l0.length ≤ 1048576) (hl4:l4.length ≤ 1048576) (hc:code.length ≤ 1048576):Ev (fun k=>fc.f k l0 p v s l4 code j ba tg els) (Qj l0.length s l4.length code j ba tg els):=by
 unfold fc.f;have key:=yI (n:=code.length) (R:=(if j=0 then Di tg 0 ((l4.length:Int) - 1) && ba == 0 && els == 0 else if j=1 then Di tg 0 ((l4.length:Int) - 1) && Di els 0 ((l4.length:Int) - 1) && Mk s ba else if j=2 then Mk s ba && tg == 0 && els == 0 else false)) (e:=false) (fun i=>Bn l0.length s (code.getD i gj)=true) (fun i k=>fc.l0 k (i:Int) l0 p v s l4 code j ba tg els) ?_ ?_ ?_
 ·have e:(bif gy code.length (fun i=>Bn l0.length s (code.getD i gj)=true) then (if j=0 then Di tg 0 ((l4.length:Int) - 1) && ba == 0 && els == 0 else if j=1 then Di tg 0 ((l4.length:Int) - 1) && Di els 0 ((l4.length:Int) - 1) && Mk s ba else if j=2 then Mk s ba && tg == 0 && els == 0 else false) else false)=Qj l0.length s l4.length code j ba tg els:=by
   rw [yx];unfold Qj;rw [decide_eq_true hs,Bool.and_true];cases (!(code.any fun x=>!Bn l0.length s x)) <;> rfl
  rw [e] at key;exact key
 ·refine Ev.step (fun k=>by rw [fc.l0]) (Ev.neg (by omega) ?_);rw [kg (x:=s - 1) (by omega) (by omega),kg (x:=(l4.length:Int) - 1) (by omega) (by omega)];refine Ev.bind (Rf _ _ _) (Ev.bind (Rf _ _ _) ?_);rw [UH s ba]
  by_cases h0:j=0
  ·rw [if_pos h0,if_pos h0,Bool.and_assoc];exact Ev.mw fun _=>Ev.UA fun _=>Ev.now _
  rw [if_neg h0,if_neg h0]
  by_cases h1:j=1
  ·rw [if_pos h1,if_pos h1,Bool.and_assoc,Bool.and_comm (Di els 0 ((l4.length:Int) - 1))];exact Ev.mw fun _=>Ev.mw fun _=>Ev.bind (Rf _ _ _) (Ev.now _)
  rw [if_neg h1,if_neg h1]
  by_cases h2:j=2
  ·rw [if_pos h2,if_pos h2,Bool.and_assoc];exact Ev.mw fun _=>Ev.UA fun _=>Ev.now _
  rw [if_neg h2,if_neg h2];exact Ev.now _
 ·intro i hi hp r hr;refine Ev.step (fun k=>by rw [fc.l0]) (Ev.pos (by omega) (Ev.pos (by omega) ?_));refine Ev.bind (Rz hs hs' hl) ?_;have hq:vl l0.length s (Aa code (i:Int)).f0 (Aa code (i:Int)).f1 (Aa code (i:Int)).f2 (Aa code (i:Int)).f3 (Aa code (i:Int)).f4 (Aa code (i:Int)).f5 (Aa code (i:Int)).f6=true:=hp;refine Ev.pos hq ?_;rw [Ke hi (by omega)];exact hr
 ·intro i hi hp;refine Ev.step (fun k=>by rw [fc.l0]) (Ev.pos (by omega) (Ev.pos (by omega) ?_));refine Ev.bind (Rz hs hs' hl) ?_;exact Ev.neg hp (Ev.now _)
end
def Pd (l:List jf):Nat:=(l.map fun x=>x.f0.length).sum
def Kz (l0:List Int) (p v s:Int) (n4:Nat):Bool:=iu l0 p v && Di s v 1000 && Di (n4:Int) 1 300
def xo (l0:List Int) (s:Int) (l4:List jf) (x:jf):Bool:=Qj l0.length s l4.length x.f0 x.f1 x.f2 x.f3 x.f4
def yl (l0:List Int) (p v s:Int) (l4:List jf):Bool:=Kz l0 p v s l4.length && (!(l4.any fun x=>!xo l0 s l4 x) && decide (Pd l4 ≤ 1000))
theorem xu (l:List jf) (i:Nat) (h:i < l.length):Pd (l.take (i + 1))=Pd (l.take i) + l[i].f0.length:=by
 unfold Pd;rw [List.take_succ_eq_append_getElem h,List.map_append,List.sum_append];simp
theorem qz (l:List Nat) (i:Nat):(l.take i).sum ≤ l.sum:=by
 conv=>rhs;rw [← List.take_append_drop i l]
 rw [List.sum_append];omega
theorem rz (l:List jf) (i:Nat):Pd (l.take i) ≤ Pd l:=by
 unfold Pd;rw [List.map_take];exact qz _ _
theorem EM {l0:List Int} {p v s:Int} {n4:Nat} (h:Kz l0 p v s n4=true):1 ≤ l0.length∧l0.length ≤ 4∧0 ≤ p∧p ≤ v∧p ≤ 6∧v ≤ 20∧v ≤ s∧s ≤ 1000∧1 ≤ n4∧n4 ≤ 300:=by
 unfold Kz iu Di at h;simp only [Bool.and_eq_true,decide_eq_true_eq] at h;obtain ⟨⟨⟨⟨⟨⟨h1,h2⟩,_⟩,h3,h4⟩,h5⟩,h6,h7⟩,h8,h9⟩:=h
 split at h4 <;> omega
section
variable {l0:List Int} {p v s:Int} {l4:List jf}
theorem Qz (h0:l0.length ≤ 1048576) (hl4:l4.length ≤ 1048576) (ht:Pd l4 ≤ 1048576):Ev (fun k=>Ub.f k l0 p v s l4) (yl l0 p v s l4):=by
 unfold Ub.f sg.f;simp only [List.length_nil,if_true];refine Ev.val ?_
 have no:∀ {r:Bool},r=false→Ev (fun k=>Ub.j0 k true l0 p v s l4) r:=by
  intro r hr;subst hr;exact Ev.step (fun k=>by rw [Ub.j0]) (Ev.pos rfl (Ev.now _))
 unfold yl Kz;cases hp:iu l0 p v with
 | false=>exact Ev.neg (by simp) (no (by simp))
 | true =>
  refine Ev.pos rfl (Ev.bind (Ev.here (oF _ _ _)) ?_);cases hv:Di s v 1000 with
  | false=>exact Ev.neg (by simp) (no (by simp))
  | true =>
   refine Ev.pos rfl (Ev.bind (Ev.here (oF _ _ _)) ?_);cases hn:Di (l4.length:Int) 1 300 with
   | false=>exact no (by simp)
   | true =>
    refine Ev.step (fun k=>by rw [Ub.j0]) (Ev.neg (by simp) ?_);simp only [Bool.true_and];have key:=yI (n:=l4.length) (R:=decide (Pd l4 ≤ 1000)) (e:=false) (fun i=>xo l0 s l4 (l4.getD i ME)=true) (fun i k=>Ub.l0 k (Pd (l4.take i):Int) l4 (l4.length:Int) (i:Int) l0 p v s l4) ?_ ?_ ?_
    ·have e:(bif gy l4.length (fun i=>xo l0 s l4 (l4.getD i ME)=true) then decide (Pd l4 ≤ 1000) else false)=(!(l4.any fun x=>!xo l0 s l4 x) && decide (Pd l4 ≤ 1000)):=by
      rw [yx];cases (!(l4.any fun x=>!xo l0 s l4 x)) <;> rfl
     rw [e] at key
     simpa [Pd] using key
    ·refine Ev.step (fun k=>by rw [Ub.l0]) (Ev.neg (by omega) ?_);rw [List.take_length]
     have e:decide ((Pd l4:Int) ≤ 1000)=decide (Pd l4 ≤ 1000):=by
      rw [Bool.eq_iff_iff,decide_eq_true_iff,decide_eq_true_iff];omega
     rw [e];exact Ev.now _
    ·intro i hi hq r hr;refine Ev.step (fun k=>by rw [Ub.l0]) (Ev.pos (by omega) (Ev.pos (by omega) (Ev.pos (by omega) ?_)));unfold Yh.f;have hq':Qj l0.length s l4.length (Sa l4 (i:Int)).f0 (Sa l4 (i:Int)).f1 (Sa l4 (i:Int)).f2 (Sa l4 (i:Int)).f3 (Sa l4 (i:Int)).f4=true:=hq;refine Ev.val (Ev.pos hq' ?_);have h1:=xu l4 i hi;have h2:=rz l4 (i + 1);rw [ql hi,Ke hi (by omega),kg (x:=(Pd (l4.take i):Int) + (l4[i].f0.length:Int)) (by omega) (by omega),show (Pd (l4.take i):Int) + (l4[i].f0.length:Int)=(Pd (l4.take (i + 1)):Int) from by omega];exact hr
    ·intro i hi hq;refine Ev.step (fun k=>by rw [Ub.l0]) (Ev.pos (by omega) (Ev.pos (by omega) (Ev.pos (by omega) ?_)));unfold Yh.f;exact Ev.val (Ev.neg hq (Ev.now _))
theorem nu (h0:l0.length ≤ 1048576) (hl4:l4.length ≤ 1048576) (ht:Pd l4 ≤ 1048576):Ev (fun k=>Ua.f k l0 p v s l4) (yl l0 p v s l4):=by
 unfold Ua.f
 have no:∀ {r:Bool},r=false→Ev (fun k=>Ua.j1 k true l0 p v s l4) r:=by
  intro r hr;subst hr;exact Ev.step (fun k=>by rw [Ua.j1]) (Ev.pos rfl (Ev.now _))
 have key:=yI (n:=l0.length) (R:=Di (l0.length:Int) 1 4 && (Di v 0 20 && (Di p 0 6 && (decide (p ≤ v) && (Di s v 1000 && (Di (l4.length:Int) 1 300 && (!(l4.any fun x=>!xo l0 s l4 x) && decide (Pd l4 ≤ 1000)))))))) (e:=false) (fun i=>Di (l0.getD i 0) 1 16=true) (fun i k=>Ua.l0 k (i:Int) l0 p v s l4) ?_ ?_ ?_
 ·have e:(bif gy l0.length (fun i=>Di (l0.getD i 0) 1 16=true) then (Di (l0.length:Int) 1 4 && (Di v 0 20 && (Di p 0 6 && (decide (p ≤ v) && (Di s v 1000 && (Di (l4.length:Int) 1 300 && (!(l4.any fun x=>!xo l0 s l4 x) && decide (Pd l4 ≤ 1000)))))))) else false)=yl l0 p v s l4:=by
   rw [yx l0 0 (fun x=>Di x 1 16)];unfold yl Kz iu;rw [Bool.eq_iff_iff];cases (!(l0.any fun x=>!Di x 1 16))
   ·simp
   ·simp only [cond_true,Bool.and_eq_true,Di,decide_eq_true_eq,and_assoc,true_and]
    constructor
    ·rintro ⟨h1,h2,h3,h4,h5,h6,h7,h8⟩;refine ⟨h1,h2,h5,?_,h4,h8⟩
     split <;> omega
    ·rintro ⟨h1,h2,h5,h6,h4,h7,h8,h9⟩;refine ⟨h1,h2,?_⟩
     split at h6 <;> exact ⟨by omega,by omega,by omega,by omega,by omega,h7,h8,h9⟩
  rw [e] at key;exact key
 ·refine Ev.step (fun k=>by rw [Ua.l0]) (Ev.neg (by omega) ?_);refine Ev.bind (Rf _ _ _) ?_;cases hb0:Di (l0.length:Int) 1 4 with
  | false=>exact Ev.neg (by simp) (no (by simp))
  | true =>
   refine Ev.pos rfl (Ev.bind (Rf _ _ _) ?_);cases Ap:Di v 0 20 with
   | false=>exact Ev.neg (by simp) (no (by simp))
   | true =>
    refine Ev.pos rfl (Ev.bind (Rf _ _ _) ?_);cases mj:Di p 0 6 with
    | false=>exact Ev.neg (by simp) (no (by simp))
    | true =>
     refine Ev.pos rfl ?_
     by_cases hpv:p > v
     ·refine Ev.pos hpv (no ?_);rw [decide_eq_false (show ¬ p ≤ v from by omega)];simp
     ·refine Ev.neg hpv (Ev.bind (Rf _ _ _) ?_);rw [decide_eq_true (show p ≤ v from by omega)];cases hb3:Di s v 1000 with
      | false=>exact Ev.neg (by simp) (no (by simp))
      | true =>
       refine Ev.pos rfl (Ev.bind (Rf _ _ _) ?_);cases hb4:Di (l4.length:Int) 1 300 with
       | false=>exact no (by simp)
       | true =>
        refine Ev.step (fun k=>by rw [Ua.j1]) (Ev.neg (by simp) ?_);simp only [Bool.true_and];have hs0:0 ≤ s∧s ≤ 1000:=by simp [Di] at Ap hb3;omega
        have key:=mh (r:=true) (n:=l4.length) (fun i=>Pd (l4.take i) ≤ 1000→Ev (fun k=>Ua.l1 k (Pd (l4.take i):Int) (i:Int) l0 p v s l4) (!((l4.drop i).any fun x=>!xo l0 s l4 x) && decide (Pd l4 ≤ 1000))) ?_ ?_ 0 (by omega) (by simp [Pd])
        ·rw [List.drop_zero] at key
         simpa [Pd] using key
        ·intro h;rw [List.take_length] at h;refine Ev.step (fun k=>by rw [Ua.l1]) (Ev.neg (by omega) ?_);rw [List.drop_length,decide_eq_true h];exact Ev.now _
        ·intro i hi ih h;have h1:=xu l4 i hi;have h2:=rz l4 (i + 1);refine Ev.step (fun k=>by rw [Ua.l1]) (Ev.pos (by omega) (Ev.pos (by omega) ?_));rw [ql hi,kg (x:=(Pd (l4.take i):Int) + (l4[i].f0.length:Int)) (by omega) (by omega),show (Pd (l4.take i):Int) + (l4[i].f0.length:Int)=(Pd (l4.take (i + 1)):Int) from by omega]
         have hd:((l4.drop i).any fun x=>!xo l0 s l4 x)=(!xo l0 s l4 l4[i] || (l4.drop (i + 1)).any fun x=>!xo l0 s l4 x):=by
          rw [List.drop_eq_getElem_cons hi,List.any_cons]
         rw [hd]
         by_cases hgt:(Pd (l4.take (i + 1)):Int) > 1000
         ·rw [decide_eq_false (show ¬ Pd l4 ≤ 1000 from by omega),Bool.and_false];exact Ev.pos hgt (Ev.now _)
         ·refine Ev.neg hgt (Ev.bind (xI _ _ _ _ _ hs0.1 hs0.2 h0 hl4 (by omega)) ?_);cases hq:xo l0 s l4 l4[i] with
          | false =>
           have hq':¬ Qj l0.length s l4.length l4[i].f0 l4[i].f1 l4[i].f2 l4[i].f3 l4[i].f4=true:=by
            have e:Qj l0.length s l4.length l4[i].f0 l4[i].f1 l4[i].f2 l4[i].f3 l4[i].f4=false:=hq;rw [e];simp
           exact Ev.neg hq' (Ev.now _)
          | true =>
           have hq':Qj l0.length s l4.length l4[i].f0 l4[i].f1 l4[i].f2 l4[i].f3 l4[i].f4=true:=hq;refine Ev.pos hq' ?_;rw [Ke hi (by omega),Bool.not_true,Bool.false_or];exact ih (by omega)
 ·intro i hi hq r hr;refine Ev.step (fun k=>by rw [Ua.l0]) (Ev.pos (by omega) (Ev.pos (by omega) ?_));refine Ev.bind (Rf _ _ _) (Ev.pos hq ?_);rw [Ke hi (by omega)];exact hr
 ·intro i hi hq;refine Ev.step (fun k=>by rw [Ua.l0]) (Ev.pos (by omega) (Ev.pos (by omega) ?_));exact Ev.bind (Rf _ _ _) (Ev.neg hq (Ev.now _))
end
end Go.Proofs.Ytoomcmaifgkkfaa.P
end
section
namespace Go.Proofs.Ytoomcmaifgkkfaa.P
open Go.RowKit Go.Proofs.Ia.Qb Go.Proofs.Ia.Dd Go.Proofs.Ia.ze
set_option linter.unusedVariables false
set_option linter.unusedSimpArgs false
section
variable {l0:List Int} {p v s:Int} {l4:List jf}
theorem VU (l:List jf) (b:jf) (hb:b ∈ l):b.f0.length ≤ Pd l:=by
 unfold Pd;exact Bz (List.mem_map.mpr ⟨b,hb,rfl⟩)
end
end Go.Proofs.Ytoomcmaifgkkfaa.P
end
section
namespace Go.Proofs.Ytoomcmaifgkkfaa.P
open Go.RowKit Go.Proofs.Ia.Qb Go.Proofs.Ia.Dd Go.Proofs.Ia.ze
set_option linter.unusedVariables false
set_option linter.unusedSimpArgs false
attribute [local go_sem] Eh Ch Ji Ii Jg Ig Dh Bh
def Xd.l0:Nat→List Int→Int→Int→Option (Int)
 | 0,_,_,_=>none
 | k + 1,x0,x1,x5=>if x5 < (x0.length:Int) then (if 0 ≤ x5 then (if (rd x0 x5)=x1 then (Xd.l0 k x0 (wrap64 (x1 + 1)) (wrap64 (x5 + 1))) else (some (-1))) else (none)) else (some x1)
def Xd.f (k:Nat) (l0:List Int) (a1:Int):Option (Int):=Xd.l0 k l0 a1 0
theorem Xd.calls (k:Nat) (A0:Option Addr) (c0:Nat) (l0:List Int) (a1:Int) (r:Int) (w:World) (aj:Kd.C (Kd.int .i64) w A0 l0.length l0) (hc0:l0.length ≤ c0) (h:Xd.f k l0 a1=some r) :
  Calls Try.prog 21 #[.slice A0 l0.length c0,.int .i64 a1] w fun e w'=>e = .returned (.int .i64 r)∧tc w w':=by
 have Pk:=ga.mk aj;have KE:=ga.mk hc0;clear aj hc0;have H:(Xd.l0 k l0 a1 0)=some r:=h;clear h;have H':=ga.mk H;clear H;go_enter Try.func21,Try.ntmps21;go_wp2
 go_loopg [1,5] k (fun kq v1 v5 w'=>∃ (Wd:Int) (Ba:Int),v1 = .int .i64 Wd∧v5 = .int .i64 Ba∧ga (Xd.l0 kq l0 Wd Ba=some r)∧ga (kq ≤ k)∧tc w w')
 case atStart=>exact ⟨(a1),(0),(by first|rfl|(simp;done)|(simp [*];done)),(by first|rfl|(simp;done)|(simp [*];done)),H',⟨Nat.le_refl _⟩,by repeat (first|exact tc.refl _|apply tc.step)⟩
 case round =>
  clear H'
  try clear c2
  try clear p2
  (try clear HA);(try clear Nf);obtain ⟨Wd,Ba,rfl,rfl,HA,Nf,⟨m1,rfl⟩⟩:=hrel;cases gk with
  | zero=>exact absurd HA.out (by simp [Xd.l0])
  | succ k1 =>
   have H:=HA.out;clear HA;simp only [Xd.l0] at H
   by_cases c3:Ba < (l0.length:Int)
   ·rw [if_pos c3] at H;have Gg:decide (Ba < (l0.length:Int))=true:=decide_eq_true c3;clear c3
    by_cases c4:0 ≤ Ba
    ·rw [if_pos c4] at H;have yj:decide (0 ≤ Ba)=true:=decide_eq_true c4;clear c4
     by_cases c5:(rd l0 Ba)=Wd
     ·rw [if_pos c5] at H;have Il:((rd l0 Ba) == Wd)=true:=beq_iff_eq.mpr c5;have sx:((rd l0 Ba) != Wd)=false:=bne_eq_false_iff_eq.mpr c5;clear c5;have H':=ga.mk H;clear H;have lf:0 ≤ (Ba:Int):=of_decide_eq_true (by first|(with_reducible assumption)|assumption);have kf:Ba < (l0.length:Int):=of_decide_eq_true (by first|(with_reducible assumption)|assumption);obtain ⟨ie,Ei,Gd⟩:=Kd.qf Pk.out Ba lf kf;cases Ei;replace lf:=eq_true lf;replace kf:=eq_true kf;go_wp2
      go_roundg k1
      case measure=>have:=Nf.out;omega
      case rel=>exact ⟨(wrap64 (Wd + 1)),(wrap64 (Ba + 1)),(by first|rfl|(simp;done)|(simp [*];done)),(by first|rfl|(simp;done)|(simp [*];done)),H',⟨by have:=Nf.out;omega⟩,by repeat (first|exact tc.refl _|apply tc.step)⟩
     ·rw [if_neg c5] at H;have Il:((rd l0 Ba) == Wd)=false:=beq_eq_false_iff_ne.mpr c5;have sx:((rd l0 Ba) != Wd)=true:=bne_iff_ne.mpr c5;obtain rfl:=Option.some.inj H;have lf:0 ≤ (Ba:Int):=of_decide_eq_true (by first|(with_reducible assumption)|assumption);have kf:Ba < (l0.length:Int):=of_decide_eq_true (by first|(with_reducible assumption)|assumption);obtain ⟨ie,Ei,Gd⟩:=Kd.qf Pk.out Ba lf kf;cases Ei;replace lf:=eq_true lf;replace kf:=eq_true kf;go_wp2;go_ret;exact ⟨by first|rfl|(simp;done)|(simp [*];done),by repeat (first|exact tc.refl _|apply tc.step)⟩
    ·rw [if_neg c4] at H;exact absurd H (by simp)
   ·rw [if_neg c3] at H;have Gg:decide (Ba < (l0.length:Int))=false:=decide_eq_false c3;clear c3;obtain rfl:=Option.some.inj H;go_wp2;go_ret;exact ⟨by first|rfl|(simp;done)|(simp [*];done),by repeat (first|exact tc.refl _|apply tc.step)⟩
theorem Mx (l:List Int) (m:Int) (hm:0 ≤ m) (hl:m + l.length ≤ 4611686018427387904):Ev (fun k=>Qd.f k l m) (m + l.length,iota m l.length):=by
 have key:=mh (r:=(m + (l.length:Int),iota m l.length)) (n:=l.length) (fun i=>Ev (fun k=>Qd.l0 k ((iota m l.length).take i ++ l.drop i) (m + i) (i:Int)) (m + (l.length:Int),iota m l.length)) ?_ ?_ 0 (by omega)
 ·refine Ev.congr (fun k=>?_) key;unfold Qd.f;simp
 ·refine Ev.step (fun k=>by rw [Qd.l0]) ?_;refine Ev.neg (by simp [Yi]) ?_;rw [List.drop_length,List.append_nil,List.take_of_length_le (by rw [Yi];omega)];exact Ev.now _
 ·intro i hi h;refine Ev.step (fun k=>by rw [Qd.l0]) ?_;refine Ev.pos (by simp [Yi];omega) (Ev.pos (by omega) ?_);have h1:m + (i:Int)=(iota m l.length).getD i 0:=(jB hi).symm;rw [Ke hi (by omega),kg (by omega) (by omega),Int.toNat_natCast];rw [show ((iota m l.length).take i ++ l.drop i).set i (m + (i:Int))=(iota m l.length).take (i + 1) ++ l.drop (i + 1) from by rw [h1];exact fF (by rw [Yi]) (by rw [Yi];exact hi)];rw [show m + (i:Int) + 1=m + ((i + 1:Nat):Int) from by omega];exact h
theorem gG (m:Int) (n:Nat) (hm:0 ≤ m) (hl:m + n ≤ 4611686018427387904):Ev (fun k=>Xd.f k (iota m n) m) (m + n):=by
 have key:=mh (r:=m + (n:Int)) (n:=n) (fun i=>Ev (fun k=>Xd.l0 k (iota m n) (m + i) (i:Int)) (m + (n:Int))) ?_ ?_ 0 (by omega)
 ·refine Ev.congr (fun k=>?_) key;unfold Xd.f;simp
 ·refine Ev.step (fun k=>by rw [Xd.l0]) ?_;exact Ev.neg (by rw [Yi];omega) (Ev.now _)
 ·intro i hi h;refine Ev.step (fun k=>by rw [Xd.l0]) ?_;refine Ev.pos (by rw [Yi];omega) (Ev.pos (by omega) (Ev.pos (by rw [JB,jB hi]) ?_));rw [Ke hi (by omega),kg (by omega) (by omega)];rw [show m + (i:Int) + 1=m + ((i + 1:Nat):Int) from by omega];exact h
theorem Rt (a:Int):(strOfNums [a]).size=1:=by
 simp [strOfNums]
 rfl
theorem NB (n:Int) (hn:n ≤ 4611686018427387904):∃ t,Ev (fun k=>Xc.f k n) t:=by
 have key:∀ (d:Nat) (x:Int) (s:ByteArray),0 ≤ x→x < (10 ^ d:Nat)→x ≤ 4611686018427387904→s.size + d ≤ 1000000→∃ t,Ev (fun k=>Xc.l0 k x s) t:=by
  intro d
  induction d with
  | zero =>
   intro x s h0 h1 _ hs;have h1':x < 1:=h1;refine ⟨_,Ev.step (fun k=>by rw [Xc.l0]) (Ev.neg (by omega) (Ev.pos (by omega) (Ev.now _)))⟩
  | succ d ih =>
   intro x s h0 h1 h2 hs
   by_cases hx:x > 0
   ·have e1:Int.tdiv x 10=x / 10:=Int.tdiv_eq_ediv_of_nonneg h0;have e2:wrap64 (x / 10)=x / 10:=kg (by omega) (by omega)
    have h1':x / 10 < (10 ^ d:Nat):=by
     have:((10 ^ (d + 1):Nat):Int)=(10 ^ d:Nat) * 10:=by rw [Nat.pow_succ];simp
     rw [this] at h1;omega
    obtain ⟨t,ht⟩:=ih (x / 10) (strOfNums [(wrap64 (48 + (Int.tmod x 10))) % 256] ++ s) (by omega) h1' (by omega) (by rw [ByteArray.size_append,Rt];omega);refine ⟨t,Ev.step (fun k=>by rw [Xc.l0]) (Ev.pos hx ?_)⟩;simp only [Option.bind_some];refine Ev.pos (by rw [Rt];omega) ?_;rw [e1,e2];exact ht
   ·exact ⟨_,Ev.step (fun k=>by rw [Xc.l0]) (Ev.neg hx (Ev.pos (by omega) (Ev.now _)))⟩
 unfold Xc.f
 by_cases h:n ≤ 0
 ·exact ⟨_,Ev.pos h (Ev.now _)⟩
 ·obtain ⟨t,ht⟩:=key 19 n ⟨#[]⟩ (by omega) (by omega) hn (by decide);exact ⟨t,Ev.neg h ht⟩
def Oh (T:Nat→ByteArray) (m:Int) (n:Nat):List Uc:=(List.range n).map fun (j:Nat)=>(⟨m + 7 * (j:Int),m + 7 * (j:Int) + 1,m + 7 * (j:Int) + 2,m + 7 * (j:Int) + 3,m + 7 * (j:Int) + 4,m + 7 * (j:Int) + 5,T j⟩:Uc)
theorem Nh (T:Nat→ByteArray) (m:Int) (n:Nat):(Oh T m n).length=n:=by simp [Oh]
theorem Ez {T:Nat→ByteArray} {m:Int} {n j:Nat} (h:j < n):(Oh T m n).getD j gj=(⟨m + 7 * (j:Int),m + 7 * (j:Int) + 1,m + 7 * (j:Int) + 2,m + 7 * (j:Int) + 3,m + 7 * (j:Int) + 4,m + 7 * (j:Int) + 5,T j⟩:Uc):=by simp [Oh,List.getD_eq_getElem?_getD,h]
theorem IB {x:List Uc} {i:Nat} (h:i < x.length) (a:Uc):Aa (x.set i a) (i:Int)=a:=by
 simp [Aa,List.getD_eq_getElem?_getD,h]
theorem J4 {a:Int} (h0:0 ≤ a) (h1:a + 7 ≤ 4611686018427387904):wrap64 (a + 1)=a + 1∧wrap64 (a + 1 + 1)=a + 2∧wrap64 (a + 2 + 1)=a + 3∧wrap64 (a + 3 + 1)=a + 4∧wrap64 (a + 4 + 1)=a + 5∧wrap64 (a + 5 + 1)=a + 6∧wrap64 (a + 6 + 1)=a + 7:=by
 refine ⟨?_,?_,?_,?_,?_,?_,?_⟩
 all_goals
  rw [kg (by omega) (by omega)]
  try omega
def dN (l:List jf):Nat:=(l.map fun x=>7 * x.f0.length + 4).sum
theorem Az (x:jf) (l:List jf):dN (x :: l)=7 * x.f0.length + 4 + dN l:=by simp [dN]
theorem K4 {a:Int} (h0:0 ≤ a) (h1:a + 4 ≤ 4611686018427387904):wrap64 (a + 1)=a + 1∧wrap64 (a + 1 + 1)=a + 2∧wrap64 (a + 2 + 1)=a + 3∧wrap64 (a + 3 + 1)=a + 4:=by
 refine ⟨?_,?_,?_,?_⟩
 all_goals
  rw [kg (by omega) (by omega)]
  try omega
theorem OA (l:List Uc) (m:Int) (hm:0 ≤ m) (hl:m + 7 * l.length ≤ 4611686018427387904):∃ ms:List Uc,Ev (fun k=>Lc.f k l m) (m + 7 * l.length,ms):=by
 have hT:∀ j:Nat,∃ t,j < l.length→Ev (fun k=>Xc.f k (m + 7 * (j:Int) + 6)) t:=by
  intro j
  by_cases hj:j < l.length
  ·obtain ⟨t,ht⟩:=NB (m + 7 * (j:Int) + 6) (by omega);exact ⟨t,fun _=>ht⟩
  ·exact ⟨⟨#[]⟩,fun h=>absurd h hj⟩
 obtain ⟨T,hT⟩:=Classical.axiomOfChoice hT;refine ⟨Oh T m l.length,?_⟩
 ·have key:=mh (r:=(m + 7 * (l.length:Int),Oh T m l.length)) (n:=l.length) (fun i=>Ev (fun k=>Lc.l0 k ((Oh T m l.length).take i ++ l.drop i) (m + 7 * i) (i:Int)) (m + 7 * (l.length:Int),Oh T m l.length)) ?_ ?_ 0 (by omega)
  ·refine Ev.congr (fun k=>?_) key;unfold Lc.f;simp
  ·refine Ev.step (fun k=>by rw [Lc.l0]) ?_;refine Ev.neg (by simp [Nh]) ?_;rw [List.drop_length,List.append_nil,List.take_of_length_le (by rw [Nh];omega)];exact Ev.now _
  ·intro i hi h;have hlen:((Oh T m l.length).take i ++ l.drop i).length=l.length:=by simp [Nh];omega
   have ZB:=fF (m:=Oh T m l.length) (l:=l) (z:=gj) (i:=i) (by rw [Nh]) (by rw [Nh];exact hi);rw [Ez hi] at ZB;generalize hx:(Oh T m l.length).take i ++ l.drop i=x at hlen ZB ⊢;refine Ev.step (fun k=>by rw [Lc.l0]) ?_;refine Ev.pos (by omega) (Ev.pos (by omega) ?_);simp only [Int.toNat_natCast,Option.bind_some];have hi1:i < x.length:=by omega
   simp only [IB hi1,List.set_set];obtain ⟨w1,w2,w3,w4,w5,w6,w7⟩:=J4 (a:=m + 7 * (i:Int)) (by omega) (by omega);simp only [w1,w2,w3,w4,w5,w6,w7];refine Ev.bind (hT i hi) ?_;rw [Ke hi (by omega),show m + 7 * (i:Int) + 7=m + 7 * ((i + 1:Nat):Int) from by omega,ZB];exact h
theorem QA (l:List jf):∀ (m:Int),0 ≤ m→m + dN l ≤ 4611686018427387904→∃ ms:List jf,Ev (fun k=>ef.f k l m) (m + dN l,ms):=by
 induction l with
 | nil =>
  intro m hm hl;refine ⟨[],?_⟩;unfold ef.f;simp only [dN,List.map_nil,List.sum_nil,Int.natCast_zero,Int.add_zero];exact Ev.now _
 | cons x l ih =>
  intro m hm hl;rw [Az] at hl;obtain ⟨c,c1⟩:=OA x.f0 m hm (by omega);obtain ⟨ms,m1⟩:=ih (m + 7 * x.f0.length + 4) (by omega) (by omega);obtain ⟨w1,w2,w3,w4⟩:=K4 (a:=m + 7 * (x.f0.length:Int)) (by omega) (by omega);have hv:m + ((7 * x.f0.length + 4 + dN l:Nat):Int)=m + 7 * (x.f0.length:Int) + 4 + dN l:=by omega
  rw [Az,hv];refine ⟨⟨c,m + 7 * x.f0.length,m + 7 * x.f0.length + 1,m + 7 * x.f0.length + 2,m + 7 * x.f0.length + 3⟩ :: ms,?_⟩;unfold ef.f;refine Ev.bind c1 ?_;simp only [w1,w2,w3,w4];exact Ev.bind m1 (Ev.now _)
theorem PA (l0:List Int) (p v s:Int) (l4:List jf) (m:Int) (hm:0 ≤ m) (hl:m + l0.length + dN l4 ≤ 4611686018427387904):∃ ms:List jf,Ev (fun k=>Eg.f k l0 p v s l4 m) (m + l0.length + dN l4,iota m l0.length,ms):=by
 obtain ⟨ms,m1⟩:=QA l4 (m + l0.length) (by omega) (by omega);refine ⟨ms,?_⟩;unfold Eg.f;exact Ev.bind (Mx l0 m hm (by omega)) (Ev.bind m1 (Ev.now _))
theorem kY (l:List jf):dN l ≤ 7 * Pd l + 4 * l.length:=by
 induction l with
 | nil=>simp [dN]
 | cons x l ih =>
  have:Pd (x :: l)=x.f0.length + Pd l:=by simp [Pd]
  rw [Az,this,List.length_cons];omega
theorem sH (l:List Uj):Pd (l.map cg) ≤ VX l:=by
 unfold Pd VX;rw [List.map_map]
 have:∀ l:List Uj,(l.map ((fun (x:jf)=>x.f0.length) ∘ cg)).sum ≤ (l.map fun x=>YL x.f0).sum:=by
  intro l
  induction l with
  | nil=>simp
  | cons a l ih =>
   rw [List.map_cons,List.map_cons,List.sum_cons,List.sum_cons]
   have:((fun (x:jf)=>x.f0.length) ∘ cg) a ≤ YL a.f0:=by
    simp [cg,YL]
   omega
 have:=this l;omega
theorem qI (x:V3) (hf:rP x):∃ t:Int,Ev (fun k=>Gh.f k x.f0 x.f1 x.f2 x.f3 x.f4 1048576) t∧(¬ t < 0→x.f0.length ≤ 1048576∧(x.f4.map cg).length ≤ 1048576∧Pd (x.f4.map cg) ≤ 1048576 ∧
  Ev (fun k=>Dg.f k x.f0 x.f1 x.f2 x.f3 x.f4) (x.f0,x.f1,x.f2,x.f3,x.f4.map cg)∧Ev (fun k=>Xh.f k x.f0 x.f1 x.f2 x.f3 (x.f4.map cg) x.f0 x.f1 x.f2 x.f3 (x.f4.map cg)) true ∧
  ∃ M:Int × List Int × List jf,Ev (fun k=>Eg.f k x.f0 x.f1 x.f2 x.f3 (x.f4.map cg) 1) M∧0 ≤ M.1∧M.1 ≤ 4398046511104):=by
 obtain ⟨h0,_,_,_,h4⟩:=hf;obtain ⟨t,e1,e2,e3⟩:=vI x.f0 x.f1 x.f2 x.f3 x.f4 1048576 (by omega) (by omega) h0.1 h4.1 (fun y hy=>⟨(h4.2 y hy).1.1,fun z hz=>((h4.2 y hy).1.2 z hz).2.2.2.2.2.2⟩);refine ⟨t,e1,fun ht=>?_⟩;have e:=e3 (by omega);obtain ⟨hb4,hbc⟩:=dF (l:=x.f4) (n:=1048576) (by omega);have hl:(x.f4.map cg).length ≤ 1048576:=by rw [List.length_map];exact hb4
 have hst:=sH x.f4;have hm:=kY (x.f4.map cg);obtain ⟨ms,m1⟩:=PA x.f0 x.f1 x.f2 x.f3 (x.f4.map cg) 1 (by omega) (by omega)
 exact ⟨by omega,hl,by omega,uI x.f0 x.f1 x.f2 x.f3 x.f4 (by omega) hb4 hbc,wI x.f0 x.f1 x.f2 x.f3 (x.f4.map cg) (by omega) (by omega) (fun y hy=>by
  have:=VU _ _ hy
  omega),_,m1,by simp only;omega,by simp only;omega⟩
def Kb.l0:Nat→List Int→Int→Int→Int→Option (Int)
 | 0,_,_,_,_=>none
 | k + 1,x0,x1,x7,x8=>if x8 < x7 then (if 0 ≤ x8 then (if x8 < (x0.length:Int) then (if x1=(rd x0 x8) then (some x8) else (Kb.l0 k x0 x1 x7 (wrap64 (x8 + 1)))) else (none)) else (none)) else (some (-1))
def Kb.f (k:Nat) (l0:List Int) (a1:Int):Option (Int):=Kb.l0 k l0 a1 (l0.length:Int) 0
theorem Kb.dr:∀ k,(∀ y0 y1 y2 y3,Lh (Kb.l0 k y0 y1 y2 y3) (Kb.l0 (k + 1) y0 y1 y2 y3))
 | 0=>fun _ _ _ _ r h=>by simp [Kb.l0] at h
 | k + 1=>by
  have pF:=Kb.dr k
  ·intro y0 y1 y2 y3;unfold Kb.l0
   repeat' first
   | (with_reducible exact pF _ _ _ _)
   | (with_reducible exact Lh.refl _)
   | (with_reducible exact Lh.none _)
   | (with_reducible refine Lh.ite ?_ ?_)
   | (with_reducible refine Lh.bind ?_ (fun _=>?_))
   | exact pF _ _ _ _
   | exact Lh.none _
   | refine Lh.ite ?_ ?_
   | refine Lh.bind ?_ (fun _=>?_)
theorem Kb.mono:∀ a0 a1 k,Lh (Kb.f k a0 a1) (Kb.f (k + 1) a0 a1):=by
 intro a0 a1 k;have pF:=Kb.dr k;unfold Kb.f
 repeat' first
   | (with_reducible exact pF _ _ _ _)
   | (with_reducible exact Lh.refl _)
   | (with_reducible exact Lh.none _)
   | (with_reducible refine Lh.ite ?_ ?_)
   | (with_reducible refine Lh.bind ?_ (fun _=>?_))
   | exact pF _ _ _ _
   | exact Lh.none _
   | refine Lh.ite ?_ ?_
   | refine Lh.bind ?_ (fun _=>?_)
theorem Kb.calls (k:Nat) (A0:Option Addr) (c0:Nat) (l0:List Int) (a1:Int) (r:Int) (w:World) (aj:Kd.C (Kd.int .i64) w A0 l0.length l0) (hc0:l0.length ≤ c0) (h:Kb.f k l0 a1=some r) :
  Calls Try.prog 110 #[.slice A0 l0.length c0,.int .i64 a1] w fun e w'=>e = .returned (.int .i64 r)∧tc w w':=by
 have Pk:=ga.mk aj;have KE:=ga.mk hc0;clear aj hc0;have H:(Kb.l0 k l0 a1 (l0.length:Int) 0)=some r:=h;clear h;have H':=ga.mk H;clear H;go_enter Try.func110,Try.ntmps110;go_wp2
 go_loopg [8] k (fun kq v8 w'=>∃ (Vd:Int),v8 = .int .i64 Vd∧ga (Kb.l0 kq l0 a1 (l0.length:Int) Vd=some r)∧ga (kq ≤ k)∧tc w w')
 case atStart=>exact ⟨(0),(by first|rfl|(simp;done)|(simp [*];done)),H',⟨Nat.le_refl _⟩,by repeat (first|exact tc.refl _|apply tc.step)⟩
 case round =>
  clear H'
  try clear c1
  try clear p2
  (try clear HA);(try clear Nf);obtain ⟨Vd,rfl,HA,Nf,⟨m1,rfl⟩⟩:=hrel;cases gk with
  | zero=>exact absurd HA.out (by simp [Kb.l0])
  | succ k1 =>
   have H:=HA.out;clear HA;simp only [Kb.l0] at H
   by_cases c3:Vd < (l0.length:Int)
   ·rw [if_pos c3] at H;have Gg:decide (Vd < (l0.length:Int))=true:=decide_eq_true c3;clear c3
    by_cases c4:0 ≤ Vd
    ·rw [if_pos c4] at H;have yj:decide (0 ≤ Vd)=true:=decide_eq_true c4;clear c4
     by_cases c5:Vd < (l0.length:Int)
     ·rw [if_pos c5] at H;have Il:decide (Vd < (l0.length:Int))=true:=decide_eq_true c5;clear c5
      by_cases c6:a1=(rd l0 Vd)
      ·rw [if_pos c6] at H;have Vm:(a1 == (rd l0 Vd))=true:=beq_iff_eq.mpr c6;have lE:(a1 != (rd l0 Vd))=false:=bne_eq_false_iff_eq.mpr c6;clear c6;obtain rfl:=Option.some.inj H;have lf:0 ≤ (Vd:Int):=of_decide_eq_true (by first|(with_reducible assumption)|assumption);have kf:Vd < (l0.length:Int):=of_decide_eq_true (by first|(with_reducible assumption)|assumption);obtain ⟨ie,Ei,Gd⟩:=Kd.qf Pk.out Vd lf kf;cases Ei;replace lf:=eq_true lf;replace kf:=eq_true kf;go_wp2;go_ret;exact ⟨by first|rfl|(simp;done)|(simp [*];done),by repeat (first|exact tc.refl _|apply tc.step)⟩
      ·rw [if_neg c6] at H;have Vm:(a1 == (rd l0 Vd))=false:=beq_eq_false_iff_ne.mpr c6;have lE:(a1 != (rd l0 Vd))=true:=bne_iff_ne.mpr c6;have H':=ga.mk H;clear H;have lf:0 ≤ (Vd:Int):=of_decide_eq_true (by first|(with_reducible assumption)|assumption);have kf:Vd < (l0.length:Int):=of_decide_eq_true (by first|(with_reducible assumption)|assumption);obtain ⟨ie,Ei,Gd⟩:=Kd.qf Pk.out Vd lf kf;cases Ei;replace lf:=eq_true lf;replace kf:=eq_true kf;go_wp2
       go_roundg k1
       case measure=>have:=Nf.out;omega
       case rel=>exact ⟨(wrap64 (Vd + 1)),(by first|rfl|(simp;done)|(simp [*];done)),H',⟨by have:=Nf.out;omega⟩,by repeat (first|exact tc.refl _|apply tc.step)⟩
     ·rw [if_neg c5] at H;exact absurd H (by simp)
    ·rw [if_neg c4] at H;exact absurd H (by simp)
   ·rw [if_neg c3] at H;have Gg:decide (Vd < (l0.length:Int))=false:=decide_eq_false c3;clear c3;obtain rfl:=Option.some.inj H;go_wp2;go_ret;exact ⟨by first|rfl|(simp;done)|(simp [*];done),by repeat (first|exact tc.refl _|apply tc.step)⟩
def Cc.f (k:Nat) (l0:List Int) (a1:Int):Option (Bool):=(Kb.f k l0 a1).bind fun t101=>(some (decide (t101 ≥ 0)))
theorem Cc.mono:∀ a0 a1 k,Lh (Cc.f k a0 a1) (Cc.f (k + 1) a0 a1):=by
 intro a0 a1 k;unfold Cc.f
 repeat' first
   | (with_reducible exact Kb.mono _ _ _)
   | (with_reducible exact Lh.refl _)
   | (with_reducible exact Lh.none _)
   | (with_reducible refine Lh.ite ?_ ?_)
   | (with_reducible refine Lh.bind ?_ (fun _=>?_))
   | exact Kb.mono _ _ _
   | exact Lh.none _
   | refine Lh.ite ?_ ?_
   | refine Lh.bind ?_ (fun _=>?_)
theorem Cc.calls (k:Nat) (A0:Option Addr) (c0:Nat) (l0:List Int) (a1:Int) (r:Bool) (w:World) (aj:Kd.C (Kd.int .i64) w A0 l0.length l0) (hc0:l0.length ≤ c0) (h:Cc.f k l0 a1=some r) :
  Calls Try.prog 83 #[.slice A0 l0.length c0,.int .i64 a1] w fun e w'=>e = .returned (.bool r)∧tc w w':=by
 have Pk:=ga.mk aj;have KE:=ga.mk hc0;clear aj hc0;have H:((Kb.f k l0 a1).bind fun t101=>(some (decide (t101 ≥ 0))))=some r:=h;clear h;replace H:=Option.bind_eq_some_iff.mp H;obtain ⟨t101,Ux,H⟩:=H;replace H:(some (decide (t101 ≥ 0)))=some r:=H;have A3:=ga.mk Ux;clear Ux;obtain rfl:=Option.some.inj H;go_enter Try.func83,Try.ntmps83;go_wp2_with (first|((with_reducible refine zb (f:=110) rfl ?_);refine Fc (some 7) rfl rfl Try.func110 (by kernel_rfl) rfl #[.slice A0 l0.length c0,.int .i64 a1] rfl (by (try simp only [List.map_toArray,List.map_cons,List.map_nil]);first|done|rfl|(simp only [List.length_drop,List.length_take];rfl)) ?_;(with_reducible refine (Kb.calls k _ _ l0 a1 t101 _ ?Ic ?Gc A3.out).mono ?_);(case Ic=>repeat (first|exact Pk.out|(with_reducible refine Kd.ec ?_ _)|(with_reducible refine Kd.dc ?_ _)|(with_reducible refine Kd.Dc ?_)));(case Gc=>exact KE.out);rintro e w' ⟨rfl,⟨nd,rfl⟩⟩;refine ⟨_,rfl,?_⟩));go_ret;exact ⟨by first|rfl|(simp;done)|(simp [*];done),by repeat (first|exact tc.refl _|apply tc.step)⟩
def Wf.f (Oa:List (Uc)) (Ka:Int) (Pa:Int) (Ja:Int) (jc:Int):Option (List Int):=if Ka=0 then (some (([Ja]:List Int))) else (if Ka=1 then (some (([Ja,jc]:List Int))) else (some ([]:List Int)))
theorem Wf.calls (yb:Option Addr) (xb:Nat) (Oa:List (Uc)) (Ka:Int) (Pa:Int) (Ja:Int) (jc:Int) (r:List Int) (w:World) (fe:Kd.C Cf w yb Oa.length Oa) (Yd:Oa.length ≤ xb) (h:Wf.f Oa Ka Pa Ja jc=some r) :
  Calls Try.prog 75 #[.agg #[.slice yb Oa.length xb,.int .i64 Ka,.int .i64 Pa,.int .i64 Ja,.int .i64 jc]] w fun e w'=>∃ Pm:Value,e = .returned (Pm)∧Kd.R (Kd.int .i64) 3 w' w.heap.size (fun _=>True) Pm r∧Below w.heap.size w w':=by
 have Iz:=Try.underlying83;have Qe:=ga.mk fe;have gf:=ga.mk Yd;clear fe Yd;have HB:=ga.mk (Below.refl w.heap.size w);have H:(if Ka=0 then (some (([Ja]:List Int))) else (if Ka=1 then (some (([Ja,jc]:List Int))) else (some ([]:List Int))))=some r:=h;clear h
 by_cases c2:Ka=0
 ·rw [if_pos c2] at H;have vq:(Ka == 0)=true:=beq_iff_eq.mpr c2;have Lt:(Ka != 0)=false:=bne_eq_false_iff_eq.mpr c2;clear c2;obtain ⟨qe,jg⟩:∃ y_:List Int,y_=(([Ja]:List Int)):=⟨_,rfl⟩;replace H:(some qe)=some r:=by first|(rw [jg];with_reducible exact H)|(have Od:=(Option.bind_some _ _).symm.trans H;rw [jg];with_reducible exact Od)|(have Od:=(Option.bind_some _ _).symm.trans H;with_reducible exact Od)|with_reducible exact H|(rw [jg];exact H)|exact H
  have Aj:=ga.mk jg;clear jg;obtain rfl:=Option.some.inj H;go_enter Try.func75,Try.ntmps75;go_wp2_with (first|((with_reducible refine Db (N:=1) rfl ?_);refine Lb ?hg (N:=1) ?hd (cs:=#[.slice yb Oa.length xb,.int .i64 Ka,.int .i64 Pa,.int .i64 Ja,.int .i64 jc]) (t:=83) ?hr ?_;(case hd=>rfl);(case hg=>rfl);(case hr=>first|(go_simp;done)|(go_simp;rfl));intro za hg w3 Tb hb;have Jb:=ga.mk (Ra (by repeat (first|(with_reducible first|exact HB.out|apply oa|apply ia|apply qa)|exact HB.out)) hb);have Ob:=ga.mk (Tb);have Vb:=ga.mk ((by rw [hg];exact (La (by repeat (first|(with_reducible first|exact HB.out|apply oa|apply ia|apply qa)|exact HB.out))):w.heap.size ≤ za));have uc:=ga.mk ((by rw [hg];exact (La (by repeat (first|(with_reducible first|exact HB.out|apply oa|apply ia|apply qa)|exact HB.out))):w.heap.size ≤ za));clear HB;have HB:=Jb;have ta:=Ob;have ue:=Vb;have Ta:=uc;clear Jb Ob Vb uc hb Tb hg;have jZ:w3.cell? ⟨za,0,none⟩=some (.slice yb Oa.length xb):=(ja ta.out 0).trans rfl;have iZ:w3.cell? ⟨za,1,none⟩=some (.int .i64 Ka):=(ja ta.out 1).trans rfl;have gZ:w3.cell? ⟨za,2,none⟩=some (.int .i64 Pa):=(ja ta.out 2).trans rfl;have fZ:w3.cell? ⟨za,3,none⟩=some (.int .i64 Ja):=(ja ta.out 3).trans rfl;have eZ:w3.cell? ⟨za,4,none⟩=some (.int .i64 jc):=(ja ta.out 4).trans rfl;have PY:=aa ta.out 0;have OY:=aa ta.out 1;have NY:=aa ta.out 2;have MY:=aa ta.out 3;have LY:=aa ta.out 4)|((with_reducible refine Db (N:=9) rfl ?_);refine Kd.Tk (Kd.int .i64) _ 3 ?hg (N:=9) ?hd (xs:=([Ja]:List Int)) (inner:=[.int .i64 Ja]) (ok:=fun _=>True) (Ah:=fun _=>True) ?hr ?hp (fun _ hk=>hk) trivial (Below.refl _ _) (Nat.le_refl _) (by simp) ?_;(case hd=>rfl);(case hg=>rfl);(case hr=>first|(go_simp;done)|(go_simp;rfl));(case hp=>exact (Ld.one (show Kd.M (Kd.int .i64) _ _ _ Ja [.int .i64 Ja] from rfl) (Ld.none _ _)));intro Sh w5 zF hb Um Gf;clear Um Gf;(first|rw [← Aj.out] at zF|(simp only [Int.reduceToNat] at zF;rw [← Aj.out] at zF));have Jb:=ga.mk (Kd.Fe zF (La (by repeat (first|(with_reducible first|exact HB.out|apply oa|apply ia|apply qa|refine ua ?_ Ta.out)|exact HB.out))));have Ob:=ga.mk (Va (g:=za) (o:=.cells #[.slice yb Oa.length xb,.int .i64 Ka,.int .i64 Pa,.int .i64 Ja,.int .i64 jc] 83 (0,0)) (by (with_reducible repeat (first|refine Da ?_ _|refine Ea ?_|refine Ca ?_ _));exact ta.out) hb);have Vb:=ga.mk (Ra (by repeat (first|(with_reducible first|exact HB.out|apply oa|apply ia|apply qa|refine ua ?_ Ta.out)|exact HB.out)) hb);clear ta HB;have dg:=Jb;have ta:=Ob;have HB:=Vb;clear Jb Ob Vb hb zF));go_ret;exact ⟨_,by first|rfl|(simp [Na,Ma] <;> rfl)|(simp [*,Na,Ma] <;> rfl),by (with_reducible repeat (first|apply Kd.Xa|apply Kd.Wa|apply Kd.qb));exact dg.out,by repeat (first|(with_reducible first|exact HB.out|apply oa|apply ia|apply qa|refine ua ?_ Ta.out)|exact HB.out)⟩
 ·rw [if_neg c2] at H;have vq:(Ka == 0)=false:=beq_eq_false_iff_ne.mpr c2;have Lt:(Ka != 0)=true:=bne_iff_ne.mpr c2
  by_cases c7:Ka=1
  ·rw [if_pos c7] at H;have uq:(Ka == 1)=true:=beq_iff_eq.mpr c7;have Xz:(Ka != 1)=false:=bne_eq_false_iff_eq.mpr c7;clear c7;obtain ⟨we,Fg⟩:∃ y_:List Int,y_=(([Ja,jc]:List Int)):=⟨_,rfl⟩;replace H:(some we)=some r:=by first|(rw [Fg];with_reducible exact H)|(have Od:=(Option.bind_some _ _).symm.trans H;rw [Fg];with_reducible exact Od)|(have Od:=(Option.bind_some _ _).symm.trans H;with_reducible exact Od)|with_reducible exact H|(rw [Fg];exact H)|exact H
   have zo:=ga.mk Fg;clear Fg;obtain rfl:=Option.some.inj H;go_enter Try.func75,Try.ntmps75;go_wp2_with (first|((with_reducible refine Db (N:=1) rfl ?_);refine Lb ?hg (N:=1) ?hd (cs:=#[.slice yb Oa.length xb,.int .i64 Ka,.int .i64 Pa,.int .i64 Ja,.int .i64 jc]) (t:=83) ?hr ?_;(case hd=>rfl);(case hg=>rfl);(case hr=>first|(go_simp;done)|(go_simp;rfl));intro za hg w8 Tb hb;have Jb:=ga.mk (Ra (by repeat (first|(with_reducible first|exact HB.out|apply oa|apply ia|apply qa)|exact HB.out)) hb);have Ob:=ga.mk (Tb);have Vb:=ga.mk ((by rw [hg];exact (La (by repeat (first|(with_reducible first|exact HB.out|apply oa|apply ia|apply qa)|exact HB.out))):w.heap.size ≤ za));have uc:=ga.mk ((by rw [hg];exact (La (by repeat (first|(with_reducible first|exact HB.out|apply oa|apply ia|apply qa)|exact HB.out))):w.heap.size ≤ za));clear HB;have HB:=Jb;have ta:=Ob;have ue:=Vb;have Ta:=uc;clear Jb Ob Vb uc hb Tb hg;have Zl:w8.cell? ⟨za,0,none⟩=some (.slice yb Oa.length xb):=(ja ta.out 0).trans rfl;have Yl:w8.cell? ⟨za,1,none⟩=some (.int .i64 Ka):=(ja ta.out 1).trans rfl;have Xl:w8.cell? ⟨za,2,none⟩=some (.int .i64 Pa):=(ja ta.out 2).trans rfl;have Wl:w8.cell? ⟨za,3,none⟩=some (.int .i64 Ja):=(ja ta.out 3).trans rfl;have Vl:w8.cell? ⟨za,4,none⟩=some (.int .i64 jc):=(ja ta.out 4).trans rfl;have Ul:=aa ta.out 0;have Tl:=aa ta.out 1;have Sl:=aa ta.out 2;have Rl:=aa ta.out 3;have Ql:=aa ta.out 4)|((with_reducible refine Db (N:=16) rfl ?_);refine Kd.Tk (Kd.int .i64) _ 3 ?hg (N:=16) ?hd (xs:=([Ja,jc]:List Int)) (inner:=[.int .i64 Ja,.int .i64 jc]) (ok:=fun _=>True) (Ah:=fun _=>True) ?hr ?hp (fun _ hk=>hk) trivial (Below.refl _ _) (Nat.le_refl _) (by simp) ?_;(case hd=>rfl);(case hg=>rfl);(case hr=>first|(go_simp;done)|(go_simp;rfl));(case hp=>exact (Ld.one (show Kd.M (Kd.int .i64) _ _ _ Ja [.int .i64 Ja] from rfl) (Ld.one (show Kd.M (Kd.int .i64) _ _ _ jc [.int .i64 jc] from rfl) (Ld.none _ _))));intro DA Bp Oq hb Um Gf;clear Um Gf;(first|rw [← zo.out] at Oq|(simp only [Int.reduceToNat] at Oq;rw [← zo.out] at Oq));have Jb:=ga.mk (Kd.Fe Oq (La (by repeat (first|(with_reducible first|exact HB.out|apply oa|apply ia|apply qa|refine ua ?_ Ta.out)|exact HB.out))));have Ob:=ga.mk (Va (g:=za) (o:=.cells #[.slice yb Oa.length xb,.int .i64 Ka,.int .i64 Pa,.int .i64 Ja,.int .i64 jc] 83 (0,0)) (by (with_reducible repeat (first|refine Da ?_ _|refine Ea ?_|refine Ca ?_ _));exact ta.out) hb);have Vb:=ga.mk (Ra (by repeat (first|(with_reducible first|exact HB.out|apply oa|apply ia|apply qa|refine ua ?_ Ta.out)|exact HB.out)) hb);clear ta HB;have Zm:=Jb;have ta:=Ob;have HB:=Vb;clear Jb Ob Vb hb Oq));go_ret;exact ⟨_,by first|rfl|(simp [Na,Ma] <;> rfl)|(simp [*,Na,Ma] <;> rfl),by (with_reducible repeat (first|apply Kd.Xa|apply Kd.Wa|apply Kd.qb));exact Zm.out,by repeat (first|(with_reducible first|exact HB.out|apply oa|apply ia|apply qa|refine ua ?_ Ta.out)|exact HB.out)⟩
  ·rw [if_neg c7] at H;have uq:(Ka == 1)=false:=beq_eq_false_iff_ne.mpr c7;have Xz:(Ka != 1)=true:=bne_iff_ne.mpr c7;obtain rfl:=Option.some.inj H;go_enter Try.func75,Try.ntmps75;go_wp2_with (first|((with_reducible refine Db (N:=1) rfl ?_);refine Lb ?hg (N:=1) ?hd (cs:=#[.slice yb Oa.length xb,.int .i64 Ka,.int .i64 Pa,.int .i64 Ja,.int .i64 jc]) (t:=83) ?hr ?_;(case hd=>rfl);(case hg=>rfl);(case hr=>first|(go_simp;done)|(go_simp;rfl));intro za hg zw Tb hb;have Jb:=ga.mk (Ra (by repeat (first|(with_reducible first|exact HB.out|apply oa|apply ia|apply qa)|exact HB.out)) hb);have Ob:=ga.mk (Tb);have Vb:=ga.mk ((by rw [hg];exact (La (by repeat (first|(with_reducible first|exact HB.out|apply oa|apply ia|apply qa)|exact HB.out))):w.heap.size ≤ za));have uc:=ga.mk ((by rw [hg];exact (La (by repeat (first|(with_reducible first|exact HB.out|apply oa|apply ia|apply qa)|exact HB.out))):w.heap.size ≤ za));clear HB;have HB:=Jb;have ta:=Ob;have ue:=Vb;have Ta:=uc;clear Jb Ob Vb uc hb Tb hg;have jq:zw.cell? ⟨za,0,none⟩=some (.slice yb Oa.length xb):=(ja ta.out 0).trans rfl;have iq:zw.cell? ⟨za,1,none⟩=some (.int .i64 Ka):=(ja ta.out 1).trans rfl;have gq:zw.cell? ⟨za,2,none⟩=some (.int .i64 Pa):=(ja ta.out 2).trans rfl;have fq:zw.cell? ⟨za,3,none⟩=some (.int .i64 Ja):=(ja ta.out 3).trans rfl;have cq:zw.cell? ⟨za,4,none⟩=some (.int .i64 jc):=(ja ta.out 4).trans rfl;have Qp:=aa ta.out 0;have Pp:=aa ta.out 1;have Np:=aa ta.out 2;have Mp:=aa ta.out 3;have Lp:=aa ta.out 4));go_ret;exact ⟨_,by first|rfl|(simp [Na,Ma] <;> rfl)|(simp [*,Na,Ma] <;> rfl),by first|exact Kd.Rx _ _ _ _ _|exact Kd.bX _ _ _ _ _|exact Kd.RW _ _ _ _ _|exact Kd.XW _ _ _ _ _|exact Kd.TW _ _ _ _ _,by repeat (first|(with_reducible first|exact HB.out|apply oa|apply ia|apply qa|refine ua ?_ Ta.out)|exact HB.out)⟩
def Ya.l0:Nat→List Int→Int→Int→Option (List Int)
 | 0,_,_,_=>none
 | k + 1,x0,x2,x3=>if x2 < x3 then (if 0 ≤ x3 then (if x3 < (x0.length:Int) then (if 0 ≤ x2 then (if x2 < (x0.length:Int) then (Ya.l0 k ((x0.set (x2:Int).toNat (rd x0 x3)).set (x3:Int).toNat (rd x0 x2)) (wrap64 (x2 + 1)) (wrap64 (x3 - 1))) else (none)) else (none)) else (none)) else (none)) else (some x0)
def Ya.f (k:Nat) (l0:List Int):Option (List Int):=Ya.l0 k l0 0 (wrap64 ((l0.length:Int) - 1))
theorem Ya.dr:∀ k,(∀ y0 y1 y2,Lh (Ya.l0 k y0 y1 y2) (Ya.l0 (k + 1) y0 y1 y2))
 | 0=>fun _ _ _ r h=>by simp [Ya.l0] at h
 | k + 1=>by
  have pF:=Ya.dr k
  ·intro y0 y1 y2;unfold Ya.l0
   repeat' first
   | (with_reducible exact pF _ _ _)
   | (with_reducible exact Lh.refl _)
   | (with_reducible exact Lh.none _)
   | (with_reducible refine Lh.ite ?_ ?_)
   | (with_reducible refine Lh.bind ?_ (fun _=>?_))
   | exact pF _ _ _
   | exact Lh.none _
   | refine Lh.ite ?_ ?_
   | refine Lh.bind ?_ (fun _=>?_)
theorem Ya.mono:∀ a0 k,Lh (Ya.f k a0) (Ya.f (k + 1) a0):=by
 intro a0 k;have pF:=Ya.dr k;unfold Ya.f
 repeat' first
   | (with_reducible exact pF _ _ _)
   | (with_reducible exact Lh.refl _)
   | (with_reducible exact Lh.none _)
   | (with_reducible refine Lh.ite ?_ ?_)
   | (with_reducible refine Lh.bind ?_ (fun _=>?_))
   | exact pF _ _ _
   | exact Lh.none _
   | refine Lh.ite ?_ ?_
   | refine Lh.bind ?_ (fun _=>?_)
def Ya.T3:Bool × List (List Nat × List Nat):=(true,[([],[]),([],[]),([],[]),([],[]),([],[]),([],[]),([4,5],[4,5]),([6],[6]),([],[]),([],[]),([8,9],[8,9]),([10],[10]),([0,1,0,1,4,5,6,7,11],[0,1]),([12,7,0,1,4,5,6,7,11],[7,12]),([2,3,0,1,2,3,4,5,6,7,8,9,10,11,12,13],[2,3]),([14,11,13,0,1,2,3,4,5,6,7,8,9,10,11,12,13],[11,14])])
def Ya.B3:List Nat:=[0,0,0,0,0,0,48,112,0,0,768,1792,4083,8179,16383,32767]
theorem Ya.cal:Wk .any (opsOf Try.f107 3)=Ya.T3:=by kernel_rfl
theorem Ya.Yaa:Yj Ya.T3.2 Ya.B3=true:=by kernel_rfl
theorem Ya.calls (k:Nat) (Wj:Nat→Prop) (bg:Value) (l0:List Int) (r:List Int) (w0 w:World) (hB:Below w0.heap.size w0 w) (qj:Kd.R (Kd.int .i64) 3 w w0.heap.size Wj bg l0) (h:Ya.f k l0=some r) :
  Calls Try.prog 107 #[bg] w fun e w'=>e = .returned (.tuple #[])∧Kd.R (Kd.int .i64) 3 w' w0.heap.size (fun k_=>(Wj k_ ∨ w.heap.size ≤ k_)) bg r∧Below w0.heap.size w0 w'∧Kept w w' (fun k_=>Wj k_):=by
 have Y3:=ga.mk (show Kd.R (Kd.int .i64) 3 w w0.heap.size (fun k_=>(Wj k_ ∨ w.heap.size ≤ k_)) bg l0 from Kd.Bc qj (fun k_ hk=>(.inl hk)));have HK:=ga.mk (Kept.refl w (fun k_=>Wj k_));have HW0:=ga.mk hB.size;have HB:=ga.mk hB;clear hB;have H:(Ya.l0 k l0 0 (wrap64 ((l0.length:Int) - 1)))=some r:=h;clear h;have H':=ga.mk H;clear H;obtain ⟨Ao2,co2,eo2⟩:=Kd.xd Y3.out;subst eo2;go_enter Try.func107,Try.ntmps107;go_wp2
 go_loopg [2,3] k (fun kq v2 v3 w'=>∃ (Md:List Int) (Bl:Int) (Oc:Int),v2 = .int .i64 Bl∧v3 = .int .i64 Oc∧ga (Ya.l0 kq Md Bl Oc=some r)∧ga (kq ≤ k)∧ga (Kd.R (Kd.int .i64) 3 w' w0.heap.size (fun k_=>(Wj k_ ∨ w.heap.size ≤ k_)) (.slice Ao2 l0.length co2) Md)∧ga (Kept w w' (fun k_=>Wj k_))∧ga (Below w0.heap.size w0 w'))
 case atStart=>exact ⟨(l0),(0),(wrap64 ((l0.length:Int) - 1)),(by first|rfl|(simp;done)|(simp [*];done)),(by first|rfl|(simp;done)|(simp [*];done)),H',⟨Nat.le_refl _⟩,⟨by (with_reducible repeat (first|apply Kd.Xa|apply Kd.Wa|apply Kd.qb));exact Y3.out⟩,⟨by repeat (first|(with_reducible first|exact HK.out|apply Kept.alloc|apply Kept.drewN|apply Kept.drew)|exact HK.out)⟩,⟨by repeat (first|(with_reducible first|exact HB.out|apply oa|apply ia|apply qa)|exact HB.out)⟩⟩
 case round =>
  clear H'
  try clear c1
  try clear p2
  (try clear HA);(try clear Nf);(try clear Ee);(try clear HK);(try clear HB);obtain ⟨Md,Bl,Oc,rfl,rfl,HA,Nf,Ee,HK,HB⟩:=hrel;have CF:=(Kd.Fb Ee.out).1;rw [CF] at Ee;(try simp only [CF]);cases gk with
  | zero=>exact absurd HA.out (by simp [Ya.l0])
  | succ k1 =>
   have H:=HA.out;clear HA;simp only [Ya.l0] at H
   by_cases c3:Bl < Oc
   ·rw [if_pos c3] at H;have Gg:decide (Bl < Oc)=true:=decide_eq_true c3;clear c3
    by_cases c4:0 ≤ Oc
    ·rw [if_pos c4] at H;have yj:decide (0 ≤ Oc)=true:=decide_eq_true c4;clear c4
     by_cases c5:Oc < (Md.length:Int)
     ·rw [if_pos c5] at H;have Il:decide (Oc < (Md.length:Int))=true:=decide_eq_true c5;clear c5
      by_cases c6:0 ≤ Bl
      ·rw [if_pos c6] at H;have Vm:decide (0 ≤ Bl)=true:=decide_eq_true c6;clear c6
       by_cases c7:Bl < (Md.length:Int)
       ·rw [if_pos c7] at H;have uq:decide (Bl < (Md.length:Int))=true:=decide_eq_true c7;clear c7;obtain ⟨Zf,Gl⟩:∃ y_:List Int,y_=(Md.set (Bl:Int).toNat (rd Md Oc)):=⟨_,rfl⟩;replace H:(Ya.l0 k1 (Zf.set (Oc:Int).toNat (rd Md Bl)) (wrap64 (Bl + 1)) (wrap64 (Oc - 1)))=some r:=by first|(rw [Gl];with_reducible exact H)|(have Od:=(Option.bind_some _ _).symm.trans H;rw [Gl];with_reducible exact Od)|(have Od:=(Option.bind_some _ _).symm.trans H;with_reducible exact Od)|with_reducible exact H|(rw [Gl];exact H)|exact H
        have AB:=ga.mk Gl;clear Gl;obtain ⟨Af,Fl⟩:∃ y_:List Int,y_=(Zf.set (Oc:Int).toNat (rd Md Bl)):=⟨_,rfl⟩;replace H:(Ya.l0 k1 Af (wrap64 (Bl + 1)) (wrap64 (Oc - 1)))=some r:=by first|(rw [Fl];with_reducible exact H)|(have Od:=(Option.bind_some _ _).symm.trans H;rw [Fl];with_reducible exact Od)|(have Od:=(Option.bind_some _ _).symm.trans H;with_reducible exact Od)|with_reducible exact H|(rw [Fl];exact H)|exact H
        have QG:=ga.mk Fl;clear Fl;have H':=ga.mk H;clear H
        try go_wp2
        have Jb:=ga.mk (Kd.qb Ee.out);have Ob:=ga.mk (Kept.drew HK.out);have Vb:=ga.mk (qa HB.out);clear Ee HK HB;have Ee:=Jb;have HK:=Ob;have HB:=Vb;clear Jb Ob Vb;have lf:0 ≤ (Oc:Int):=of_decide_eq_true (by first|(with_reducible assumption)|assumption);have kf:Oc < (Md.length:Int):=of_decide_eq_true (by first|(with_reducible assumption)|assumption);obtain ⟨ie,Ei,Gd⟩:=Kd.qf (Kd.Fb Ee.out).2.2 Oc lf kf;cases Ei;replace lf:=eq_true lf;replace kf:=eq_true kf;have Ci:0 ≤ (Bl:Int):=of_decide_eq_true (by first|(with_reducible assumption)|assumption);have Bi:Bl < (Md.length:Int):=of_decide_eq_true (by first|(with_reducible assumption)|assumption);obtain ⟨Oe,Gr,Ie⟩:=Kd.qf (Kd.Fb Ee.out).2.2 Bl Ci Bi;obtain rfl:ie=Oe:=(by injection Gr);replace Ci:=eq_true Ci;replace Bi:=eq_true Bi;have p8:0 ≤ (Bl:Int):=of_decide_eq_true (by first|(with_reducible assumption)|assumption);have q8:(Bl:Int) < ((Md.length:Int):Int):=of_decide_eq_true (by first|(with_reducible assumption)|assumption);obtain ⟨go8,co8,eo8,gb8,gl8,cl8,UQ⟩:=Kd.Vj Ee.out (by omega);(first|cases eo8|(injection eo8 with Oj dy ey;(first|subst Oj|(injection Oj with Oj;subst Oj));subst ey;clear dy));have GB8:=ga.mk gb8;have GG8:=ga.mk UQ;clear gb8 gl8 UQ;have xX:=ga.mk (show (Wj go8 ∨ w.heap.size ≤ go8) from (Ee.out.1 _ rfl));(first|simp only [add_plain] at Gd|skip);(first|simp only [add_plain] at Ie|skip);obtain ⟨QV,oW⟩:=Kd.Xg 0 Ee.out (Bl:Int) p8 q8;replace p8:=eq_true p8;replace q8:=eq_true q8;have bJ:=Kd.gQ Ee.out (Bl:Int) (rd Md Oc);rw [← AB.out] at bJ;have EE:=ga.mk bJ;clear bJ;have p9:0 ≤ (Oc:Int):=of_decide_eq_true (by first|(with_reducible assumption)|assumption);have q9:(Oc:Int) < ((Md.length:Int):Int):=of_decide_eq_true (by first|(with_reducible assumption)|assumption);obtain ⟨dO,JO⟩:=Kd.Xg 0 EE.out (Oc:Int) p9 q9;replace p9:=eq_true p9;replace q9:=eq_true q9;have kA:=Kd.gQ EE.out (Oc:Int) (rd Md Bl);rw [← QG.out] at kA;have Xab:=ga.mk kA;clear kA;refine bk (n:=16) (S:=fun w'=>w'.cell? ⟨go8,(Oc).toNat,none⟩=some (.int .i64 (rd Md Oc))∧w'.cell? ⟨go8,(Bl).toNat,none⟩=some (.int .i64 (rd Md Bl))) (ds:=[13,15]) #[false,false,false,false,false,false,false,false,false,false,false,false,false,false,false,false] (by kernel_rfl) rfl rfl ⟨Gd,Ie⟩ (fun hHeld=>?_);refine zh Ya.cal Ya.Yaa (fun zf Bq=>?_);generalize wr.drew=Bp at Ee HK HB GG8 EE Xab oW JO Gd Ie QV dO hHeld ⊢;refine jd (i:=0) (N:=some 14) (v:=?_) (a':=?_) #[true,false,false,false,false,false,false,false,false,false,false,false,false,false,false,false] rfl rfl (qc zf.out (by kernel_rfl)) (fun _ _ _ h=>h) (Or.inl ⟨by rfl,?_⟩) ?_ ?_;rotate_left
        ·intro w';go_simp;with_reducible rfl
        rotate_left
        ·simp only [Act.put,List.setIfInBounds_toArray,List.set_cons_zero,List.set_cons_succ,Yb,Zb]
         rfl
        refine jd (i:=1) (N:=some 15) (v:=?_) (a':=?_) #[true,true,false,false,false,false,false,false,false,false,false,false,false,false,false,false] rfl rfl (qc zf.out (by kernel_rfl)) (fun _ _ _ h=>h) (Or.inl ⟨by rfl,?_⟩) ?_ ?_;rotate_left
        ·intro w';go_simp;with_reducible rfl
        rotate_left
        ·simp only [Act.put,List.setIfInBounds_toArray,List.set_cons_zero,List.set_cons_succ,Yb,Zb]
         rfl
        refine jd (i:=2) (N:=some 16) (v:=?_) (a':=?_) #[true,true,true,false,false,false,false,false,false,false,false,false,false,false,false,false] rfl rfl (qc zf.out (by kernel_rfl)) (fun _ _ _ h=>h) (Or.inl ⟨by rfl,?_⟩) ?_ ?_;rotate_left
        ·intro w';go_simp;with_reducible rfl
        rotate_left
        ·simp only [Act.put,List.setIfInBounds_toArray,List.set_cons_zero,List.set_cons_succ,Yb,Zb]
         rfl
        refine jd (i:=3) (N:=some 17) (v:=?_) (a':=?_) #[true,true,true,true,false,false,false,false,false,false,false,false,false,false,false,false] rfl rfl (qc zf.out (by kernel_rfl)) (fun _ _ _ h=>h) (Or.inl ⟨by rfl,?_⟩) ?_ ?_;rotate_left
        ·intro w';go_simp;with_reducible rfl
        rotate_left
        ·simp only [Act.put,List.setIfInBounds_toArray,List.set_cons_zero,List.set_cons_succ,Yb,Zb]
         rfl
        refine jd (i:=4) (N:=some 18) (v:=?_) (a':=?_) #[true,true,true,true,true,false,false,false,false,false,false,false,false,false,false,false] rfl rfl (qc zf.out (by kernel_rfl)) (fun _ _ _ h=>h) (Or.inl ⟨by rfl,?_⟩) ?_ ?_;rotate_left
        ·intro w';go_simp;with_reducible rfl
        rotate_left
        ·simp only [Act.put,List.setIfInBounds_toArray,List.set_cons_zero,List.set_cons_succ,Yb,Zb]
         rfl
        refine jd (i:=5) (N:=some 19) (v:=?_) (a':=?_) #[true,true,true,true,true,true,false,false,false,false,false,false,false,false,false,false] rfl rfl (qc zf.out (by kernel_rfl)) (fun _ _ _ h=>h) (Or.inl ⟨by rfl,?_⟩) ?_ ?_;rotate_left
        ·intro w';go_simp;with_reducible rfl
        rotate_left
        ·simp only [Act.put,List.setIfInBounds_toArray,List.set_cons_zero,List.set_cons_succ,Yb,Zb]
         rfl
        refine jd (i:=6) (N:=some 20) (v:=?_) (a':=?_) #[true,true,true,true,true,true,true,false,false,false,false,false,false,false,false,false] rfl rfl (qc zf.out (by kernel_rfl)) (fun _ _ _ h=>h) (Or.inl ⟨by rfl,?_⟩) ?_ ?_;rotate_left
        ·intro w';go_simp;with_reducible rfl
        rotate_left
        ·simp only [Act.put,List.setIfInBounds_toArray,List.set_cons_zero,List.set_cons_succ,Yb,Zb]
         rfl
        refine jd (i:=8) (N:=some 22) (v:=?_) (a':=?_) #[true,true,true,true,true,true,true,false,true,false,false,false,false,false,false,false] rfl rfl (qc zf.out (by kernel_rfl)) (fun _ _ _ h=>h) (Or.inl ⟨by rfl,?_⟩) ?_ ?_;rotate_left
        ·intro w';go_simp;with_reducible rfl
        rotate_left
        ·simp only [Act.put,List.setIfInBounds_toArray,List.set_cons_zero,List.set_cons_succ,Yb,Zb]
         rfl
        refine jd (i:=9) (N:=some 23) (v:=?_) (a':=?_) #[true,true,true,true,true,true,true,false,true,true,false,false,false,false,false,false] rfl rfl (qc zf.out (by kernel_rfl)) (fun _ _ _ h=>h) (Or.inl ⟨by rfl,?_⟩) ?_ ?_;rotate_left
        ·intro w';go_simp;with_reducible rfl
        rotate_left
        ·simp only [Act.put,List.setIfInBounds_toArray,List.set_cons_zero,List.set_cons_succ,Yb,Zb]
         rfl
        refine jd (i:=10) (N:=some 24) (v:=?_) (a':=?_) #[true,true,true,true,true,true,true,false,true,true,true,false,false,false,false,false] rfl rfl (qc zf.out (by kernel_rfl)) (fun _ _ _ h=>h) (Or.inl ⟨by rfl,?_⟩) ?_ ?_;rotate_left
        ·intro w';go_simp;with_reducible rfl
        rotate_left
        ·simp only [Act.put,List.setIfInBounds_toArray,List.set_cons_zero,List.set_cons_succ,Yb,Zb]
         rfl
        refine Og (i:=7) (N:=some 21) (v:=?_) (a':=?_) #[true,true,true,true,true,true,true,true,true,true,true,false,false,false,false,false] rfl rfl (Ge zf.out Bq.out (by kernel_rfl)) (fun _ _ _ h=>h) (Or.inl ⟨by rfl,?_⟩) hHeld ?_ ?_;rotate_left
        ·rintro w' ⟨s0,s1⟩;go_simp;with_reducible rfl
        rotate_left
        ·simp only [Act.put,List.setIfInBounds_toArray,List.set_cons_zero,List.set_cons_succ,Yb,Zb]
         rfl
        refine Og (i:=11) (N:=some 25) (v:=?_) (a':=?_) #[true,true,true,true,true,true,true,true,true,true,true,true,false,false,false,false] rfl rfl (Ge zf.out Bq.out (by kernel_rfl)) (fun _ _ _ h=>h) (Or.inl ⟨by rfl,?_⟩) hHeld ?_ ?_;rotate_left
        ·rintro w' ⟨s0,s1⟩;go_simp;with_reducible rfl
        rotate_left
        ·simp only [Act.put,List.setIfInBounds_toArray,List.set_cons_zero,List.set_cons_succ,Yb,Zb]
         rfl
        refine jd (i:=12) (N:=some 26) (v:=?_) (a':=?_) #[true,true,true,true,true,true,true,true,true,true,true,true,true,false,false,false] rfl rfl (qc zf.out (by kernel_rfl)) (fun _ _ _ h=>h) (Or.inl ⟨by rfl,?_⟩) ?_ ?_;rotate_left
        ·intro w';go_simp;with_reducible rfl
        rotate_left
        ·simp only [Act.put,List.setIfInBounds_toArray,List.set_cons_zero,List.set_cons_succ,Yb,Zb]
         rfl
        refine VN (i:=13) (N:=none) #[true,true,true,true,true,true,true,true,true,true,true,true,true,true,false,false] rfl rfl (Ol zf.out (by kernel_rfl)) (by decide) (fun K hK=>?_);refine uN (w1:=?_) (by rfl) rfl ?_ ?_;rotate_left
        ·go_simp
         rfl
        refine hK.out _ _ ?_;clear hK K;refine jd (i:=14) (N:=some 27) (v:=?_) (a':=?_) #[true,true,true,true,true,true,true,true,true,true,true,true,true,true,true,false] rfl rfl (qc zf.out (by kernel_rfl)) (fun _ _ _ h=>h) (Or.inl ⟨by rfl,?_⟩) ?_ ?_;rotate_left
        ·intro w';go_simp;with_reducible rfl
        rotate_left
        ·simp only [Act.put,List.setIfInBounds_toArray,List.set_cons_zero,List.set_cons_succ,Yb,Zb]
         rfl
        refine VN (i:=15) (N:=none) #[true,true,true,true,true,true,true,true,true,true,true,true,true,true,true,true] rfl rfl (Ol zf.out (by kernel_rfl)) (by decide) (fun K hK=>?_);refine uN (w1:=?_) (by rfl) rfl ?_ ?_;rotate_left
        ·go_simp
         rfl
        refine hK.out _ _ ?_;clear hK K;refine uo (Pj zf.out (by kernel_rfl)) ?_
        try go_wp2
        (try simp only [← CF])
        go_roundg k1
        case measure=>have:=Nf.out;omega
        case rel=>exact ⟨(Af),(wrap64 (Bl + 1)),(wrap64 (Oc - 1)),(by first|rfl|(simp;done)|(simp [*];done)),(by first|rfl|(simp;done)|(simp [*];done)),H',⟨by have:=Nf.out;omega⟩,⟨by (try simp only [CF]);(with_reducible repeat (first|apply Kd.Xa|apply Kd.Wa|apply Kd.qb));exact Xab.out⟩,⟨by repeat (first|(with_reducible first|exact HK.out|apply Kept.alloc|apply Kept.drewN|apply Kept.drew|refine Kept.setCell ?_ xX.out _|refine Kept.setCell ?_ xX.out _)|exact HK.out)⟩,⟨by repeat (first|(with_reducible first|exact HB.out|apply oa|apply ia|apply qa|refine ua ?_ GB8.out|refine ua ?_ GB8.out)|exact HB.out)⟩⟩
       ·rw [if_neg c7] at H;exact absurd H (by simp)
      ·rw [if_neg c6] at H;exact absurd H (by simp)
     ·rw [if_neg c5] at H;exact absurd H (by simp)
    ·rw [if_neg c4] at H;exact absurd H (by simp)
   ·rw [if_neg c3] at H;have Gg:decide (Bl < Oc)=false:=decide_eq_false c3;clear c3;obtain rfl:=Option.some.inj H;go_wp2
    first|go_end0|((try simp only [Exit.inBlock,Exit.then]);refine bodyPost_ret (results_none rfl _ _ _) rfl ?_)
    exact ⟨by first|rfl|(simp [Na,Ma] <;> rfl)|(simp [*,Na,Ma] <;> rfl),(by first|exact (by (with_reducible repeat (first|apply Kd.Xa|apply Kd.Wa|apply Kd.qb));exact Ee.out)|(simp only [CF];exact (by (with_reducible repeat (first|apply Kd.Xa|apply Kd.Wa|apply Kd.qb));exact Ee.out))),by repeat (first|(with_reducible first|exact HB.out|apply oa|apply ia|apply qa)|exact HB.out),by repeat (first|(with_reducible first|exact HK.out|apply Kept.alloc|apply Kept.drewN|apply Kept.drew)|exact HK.out)⟩
end Go.Proofs.Ytoomcmaifgkkfaa.P
end
