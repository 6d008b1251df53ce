import Derived.Test.YtoomcmaifgkkfaaQBelow1
import Derived.Test.YtoomcmaifgkkfaaQBelow4
set_option maxHeartbeats 8000000
set_option maxRecDepth 100000
namespace Go.Proofs.Ytoomcmaifgkkfaa.P
open Go.RowKit Go.Proofs.Ia.Qb Go.Proofs.Ia.Dd Go.Proofs.Ia.ze
attribute [local go_sem] Eh Ch Ji Ii Jg Ig Dh Bh
set_option linter.unusedVariables false
set_option linter.unusedSimpArgs false
mutual
def jb.j0:Nat→Bool→Bool→Bool→Bool→List Int→Int→Int→Int→List (jf)→Int→Int→Int→Int→Int→Int→ByteArray→Option (Bool)
 | 0,_,_,_,_,_,_,_,_,_,_,_,_,_,_,_,_=>none
 | k + 1,x5,x6,x7,x8,Sc,Tc,Rc,Qc,Xb,Tf,ij,Cj,Hi,Gi,fl,en=>if Tf=2 then (if Tf=4 then (jb.j1 k x5 x6 x7 x8 false Sc Tc Rc Qc Xb Tf ij Cj Hi Gi fl en) else (jb.j1 k x5 x6 x7 x8 (Gi != 0) Sc Tc Rc Qc Xb Tf ij Cj Hi Gi fl en)) else (if en.toList=([]:List UInt8) then (if Tf=4 then (jb.j1 k x5 x6 x7 x8 false Sc Tc Rc Qc Xb Tf ij Cj Hi Gi fl en) else (jb.j1 k x5 x6 x7 x8 (Gi != 0) Sc Tc Rc Qc Xb Tf ij Cj Hi Gi fl en)) else (jb.j1 k x5 x6 x7 x8 true Sc Tc Rc Qc Xb Tf ij Cj Hi Gi fl en))
def jb.j1:Nat→Bool→Bool→Bool→Bool→Bool→List Int→Int→Int→Int→List (jf)→Int→Int→Int→Int→Int→Int→ByteArray→Option (Bool)
 | 0,_,_,_,_,_,_,_,_,_,_,_,_,_,_,_,_,_=>none
 | k + 1,x5,x6,x7,x8,x62,Sc,Tc,Rc,Qc,Xb,Tf,ij,Cj,Hi,Gi,fl,en=>if x62=true then (some false) else (if Tf=0 then (if x5=true then (if Cj=0 then (some (Hi == 0)) else (some false)) else (some false)) else (if Tf=1 then (if x5=true then (if x6=true then (if Hi=0 then (some (fl == 0)) else (some false)) else (some false)) else (some false)) else (if Tf=2 then (if x5=true then (if x6=true then (if x7=true then (if fl=0 then ((Ae.f k (([(⟨#[61,61]⟩:ByteArray),(⟨#[60]⟩:ByteArray),(⟨#[38]⟩:ByteArray),(⟨#[43]⟩:ByteArray),(⟨#[45]⟩:ByteArray),(⟨#[42]⟩:ByteArray)]:List ByteArray)) en).bind fun t111=>(some t111)) else (some false)) else (some false)) else (some false)) else (some false)) else (if Tf=3 then (if x5=true then (some x8) else (some false)) else (if Tf=4 then (if ij=0 then (if x8=true then ((Za.f Gi 0 (wrap64 (Qc - 1))).bind fun t112=>(some t112)) else (some false)) else (some false)) else (if Tf=5 then (if x5=true then (if Cj=0 then (if Hi=0 then (some (fl == 0)) else (some false)) else (some false)) else (some false)) else (if Tf=6 then (if ij=0 then (if x6=true then (if Hi=0 then (some (fl == 0)) else (some false)) else (some false)) else (some false)) else (some false))))))))
end
def jb.f (k:Nat) (Oa:List Int) (Ka:Int) (Pa:Int) (Ja:Int) (Ga:List (jf)) (Ec:Int) (Sb:Int) (Nb:Int) (Pb:Int) (mc:Int) (Yc:Int) (Bd:ByteArray):Option (Bool):=(Za.f Sb 0 (wrap64 (Ja - 1))).bind fun t103=>((Za.f Nb 0 (wrap64 (Ja - 1))).bind fun t104=>((Za.f Pb 0 (wrap64 (Ja - 1))).bind fun t105=>(if t104=true then (if t105=true then ((Za.f Yc 0 (wrap64 ((Oa.length:Int) - 1))).bind fun t106=>(jb.j0 k t103 t104 t105 t106 Oa Ka Pa Ja Ga Ec Sb Nb Pb mc Yc Bd)) else (jb.j0 k t103 t104 t105 false Oa Ka Pa Ja Ga Ec Sb Nb Pb mc Yc Bd)) else (if Nb=(-1) then (if t105=true then ((Za.f Yc 0 (wrap64 ((Oa.length:Int) - 1))).bind fun t107=>(jb.j0 k t103 t104 t105 t107 Oa Ka Pa Ja Ga Ec Sb Nb Pb mc Yc Bd)) else (jb.j0 k t103 t104 t105 false Oa Ka Pa Ja Ga Ec Sb Nb Pb mc Yc Bd)) else (jb.j0 k t103 t104 t105 false Oa Ka Pa Ja Ga Ec Sb Nb Pb mc Yc Bd)))))
theorem jb.calls (k:Nat) (yb:Option Addr) (xb:Nat) (Oa:List Int) (Ka:Int) (Pa:Int) (Ja:Int) (Rb:Option Addr) (Ib:Nat) (Ga:List (jf)) (Ec:Int) (Sb:Int) (Nb:Int) (Pb:Int) (mc:Int) (Yc:Int) (Bd:ByteArray) (r:Bool) (w:World) (fe:Kd.C (Kd.int .i64) w yb Oa.length Oa) (Yd:Oa.length ≤ xb) (Ff:Kd.C Po w Rb Ga.length Ga) (Hf:Ga.length ≤ Ib) (h:jb.f k Oa Ka Pa Ja Ga Ec Sb Nb Pb mc Yc Bd=some r) :
  Calls Try.prog 121 #[.agg #[.slice yb Oa.length xb,.int .i64 Ka,.int .i64 Pa,.int .i64 Ja,.slice Rb Ga.length Ib],.agg #[.int .i64 Ec,.int .i64 Sb,.int .i64 Nb,.int .i64 Pb,.int .i64 mc,.int .i64 Yc,.string Bd]] w fun e w'=>e = .returned (.bool r)∧Below w.heap.size w w':=by
 have KA:=Try.underlying45;have yF:=Try.underlying122;have Qe:=ga.mk fe;have gf:=ga.mk Yd;clear fe Yd;have ug:=ga.mk Ff;have Kh:=ga.mk Hf;clear Ff Hf;have HB:=ga.mk (Below.refl w.heap.size w);have H:((Za.f Sb 0 (wrap64 (Ja - 1))).bind fun t103=>((Za.f Nb 0 (wrap64 (Ja - 1))).bind fun t104=>((Za.f Pb 0 (wrap64 (Ja - 1))).bind fun t105=>(if t104=true then (if t105=true then ((Za.f Yc 0 (wrap64 ((Oa.length:Int) - 1))).bind fun t106=>(jb.j0 k t103 t104 t105 t106 Oa Ka Pa Ja Ga Ec Sb Nb Pb mc Yc Bd)) else (jb.j0 k t103 t104 t105 false Oa Ka Pa Ja Ga Ec Sb Nb Pb mc Yc Bd)) else (if Nb=(-1) then (if t105=true then ((Za.f Yc 0 (wrap64 ((Oa.length:Int) - 1))).bind fun t107=>(jb.j0 k t103 t104 t105 t107 Oa Ka Pa Ja Ga Ec Sb Nb Pb mc Yc Bd)) else (jb.j0 k t103 t104 t105 false Oa Ka Pa Ja Ga Ec Sb Nb Pb mc Yc Bd)) else (jb.j0 k t103 t104 t105 false Oa Ka Pa Ja Ga Ec Sb Nb Pb mc Yc Bd))))))=some r:=h;clear h;replace H:=Option.bind_eq_some_iff.mp H;obtain ⟨t103,Ux,H⟩:=H;replace H:((Za.f Nb 0 (wrap64 (Ja - 1))).bind fun t104=>((Za.f Pb 0 (wrap64 (Ja - 1))).bind fun t105=>(if t104=true then (if t105=true then ((Za.f Yc 0 (wrap64 ((Oa.length:Int) - 1))).bind fun t106=>(jb.j0 k t103 t104 t105 t106 Oa Ka Pa Ja Ga Ec Sb Nb Pb mc Yc Bd)) else (jb.j0 k t103 t104 t105 false Oa Ka Pa Ja Ga Ec Sb Nb Pb mc Yc Bd)) else (if Nb=(-1) then (if t105=true then ((Za.f Yc 0 (wrap64 ((Oa.length:Int) - 1))).bind fun t107=>(jb.j0 k t103 t104 t105 t107 Oa Ka Pa Ja Ga Ec Sb Nb Pb mc Yc Bd)) else (jb.j0 k t103 t104 t105 false Oa Ka Pa Ja Ga Ec Sb Nb Pb mc Yc Bd)) else (jb.j0 k t103 t104 t105 false Oa Ka Pa Ja Ga Ec Sb Nb Pb mc Yc Bd)))))=some r:=H;have A3:=ga.mk Ux;clear Ux;replace H:=Option.bind_eq_some_iff.mp H;obtain ⟨t104,CQ,H⟩:=H;replace H:((Za.f Pb 0 (wrap64 (Ja - 1))).bind fun t105=>(if t104=true then (if t105=true then ((Za.f Yc 0 (wrap64 ((Oa.length:Int) - 1))).bind fun t106=>(jb.j0 k t103 t104 t105 t106 Oa Ka Pa Ja Ga Ec Sb Nb Pb mc Yc Bd)) else (jb.j0 k t103 t104 t105 false Oa Ka Pa Ja Ga Ec Sb Nb Pb mc Yc Bd)) else (if Nb=(-1) then (if t105=true then ((Za.f Yc 0 (wrap64 ((Oa.length:Int) - 1))).bind fun t107=>(jb.j0 k t103 t104 t105 t107 Oa Ka Pa Ja Ga Ec Sb Nb Pb mc Yc Bd)) else (jb.j0 k t103 t104 t105 false Oa Ka Pa Ja Ga Ec Sb Nb Pb mc Yc Bd)) else (jb.j0 k t103 t104 t105 false Oa Ka Pa Ja Ga Ec Sb Nb Pb mc Yc Bd))))=some r:=H;have A4:=ga.mk CQ;clear CQ;replace H:=Option.bind_eq_some_iff.mp H;obtain ⟨t105,FX,H⟩:=H;replace H:(if t104=true then (if t105=true then ((Za.f Yc 0 (wrap64 ((Oa.length:Int) - 1))).bind fun t106=>(jb.j0 k t103 t104 t105 t106 Oa Ka Pa Ja Ga Ec Sb Nb Pb mc Yc Bd)) else (jb.j0 k t103 t104 t105 false Oa Ka Pa Ja Ga Ec Sb Nb Pb mc Yc Bd)) else (if Nb=(-1) then (if t105=true then ((Za.f Yc 0 (wrap64 ((Oa.length:Int) - 1))).bind fun t107=>(jb.j0 k t103 t104 t105 t107 Oa Ka Pa Ja Ga Ec Sb Nb Pb mc Yc Bd)) else (jb.j0 k t103 t104 t105 false Oa Ka Pa Ja Ga Ec Sb Nb Pb mc Yc Bd)) else (jb.j0 k t103 t104 t105 false Oa Ka Pa Ja Ga Ec Sb Nb Pb mc Yc Bd)))=some r:=H;have A5:=ga.mk FX;clear FX;have HC6:=ga.mk H;clear H;go_enter Try.func121,Try.ntmps121
 go_upto_region 4 with (first|((with_reducible refine Db (N:=2) rfl ?_);(try (refine di (by rfl) ?_;dsimp only));refine Lb ?hg (N:=2) ?hd (cs:=#[.slice yb Oa.length xb,.int .i64 Ka,.int .i64 Pa,.int .i64 Ja,.slice Rb Ga.length Ib]) (t:=45) ?hr ?_;(case hd=>rfl);(case hg=>rfl);(case hr=>first|(go_simp;done)|(go_simp;rfl));intro za hg w7 Tb hb;have Jb:=ga.mk (Ra (by repeat (first|(with_reducible first|exact HB.out|apply oa|apply ia|apply qa)|exact HB.out)) hb);have Ob:=ga.mk (Tb);have Vb:=ga.mk ((by rw [hg];exact (La (by repeat (first|(with_reducible first|exact HB.out|apply oa|apply ia|apply qa)|exact HB.out))):w.heap.size ≤ za));have uc:=ga.mk ((by rw [hg];exact (La (by repeat (first|(with_reducible first|exact HB.out|apply oa|apply ia|apply qa)|exact HB.out))):w.heap.size ≤ za));clear HB;have HB:=Jb;have ta:=Ob;have ue:=Vb;have Ta:=uc;clear Jb Ob Vb uc hb Tb hg)|((with_reducible refine Db (N:=3) rfl ?_);(try (refine di (by rfl) ?_;dsimp only));refine Lb ?hg (N:=3) ?hd (cs:=#[.int .i64 Ec,.int .i64 Sb,.int .i64 Nb,.int .i64 Pb,.int .i64 mc,.int .i64 Yc,.string Bd]) (t:=122) ?hr ?_;(case hd=>rfl);(case hg=>rfl);(case hr=>first|(go_simp;done)|(go_simp;rfl));intro Fa hg w8 Tb hb;have Jb:=ga.mk (Va (g:=za) (o:=.cells #[.slice yb Oa.length xb,.int .i64 Ka,.int .i64 Pa,.int .i64 Ja,.slice Rb Ga.length Ib] 45 (0,0)) (by (with_reducible repeat (first|refine Da ?_ _|refine Ea ?_|refine Ca ?_ _));exact ta.out) hb);have Ob:=ga.mk (Ra (by repeat (first|(with_reducible first|exact HB.out|apply oa|apply ia|apply qa|refine ua ?_ Ta.out)|exact HB.out)) hb);have Vb:=ga.mk (Tb);have uc:=ga.mk ((by rw [hg];exact (La (by repeat (first|(with_reducible first|exact HB.out|apply oa|apply ia|apply qa|refine ua ?_ Ta.out)|exact HB.out))):w.heap.size ≤ Fa));have Be:=ga.mk ((by rw [hg];exact (La (by repeat (first|(with_reducible first|exact HB.out|apply oa|apply ia|apply qa|refine ua ?_ Ta.out)|exact HB.out))):w.heap.size ≤ Fa));have Vf:=ga.mk ((by rw [hg];exact Nat.ne_of_lt (Pc (g:=za) (o:=.cells #[.slice yb Oa.length xb,.int .i64 Ka,.int .i64 Pa,.int .i64 Ja,.slice Rb Ga.length Ib] 45 (0,0)) (by (with_reducible repeat (first|refine Da ?_ _|refine Ea ?_|refine Ca ?_ _));exact ta.out)):za ≠ Fa));have uh:=ga.mk ((by rw [hg];exact Nat.ne_of_gt (Pc (g:=za) (o:=.cells #[.slice yb Oa.length xb,.int .i64 Ka,.int .i64 Pa,.int .i64 Ja,.slice Rb Ga.length Ib] 45 (0,0)) (by (with_reducible repeat (first|refine Da ?_ _|refine Ea ?_|refine Ca ?_ _));exact ta.out)):Fa ≠ za));clear ta HB;have ta:=Jb;have HB:=Ob;have ya:=Vb;have Si:=uc;have nc:=Be;have Cb:=Vf;have Bb:=uh;clear Jb Ob Vb uc Be Vf uh hb Tb hg;have jam:=Bb.out;have Ual:=Cb.out;have Nj:w8.cell? ⟨Fa,0,none⟩=some (.int .i64 Ec):=(ja ya.out 0).trans rfl;have Mj:w8.cell? ⟨Fa,1,none⟩=some (.int .i64 Sb):=(ja ya.out 1).trans rfl;have Lj:w8.cell? ⟨Fa,2,none⟩=some (.int .i64 Nb):=(ja ya.out 2).trans rfl;have Kj:w8.cell? ⟨Fa,3,none⟩=some (.int .i64 Pb):=(ja ya.out 3).trans rfl;have Jj:w8.cell? ⟨Fa,4,none⟩=some (.int .i64 mc):=(ja ya.out 4).trans rfl;have WD:w8.cell? ⟨Fa,5,none⟩=some (.int .i64 Yc):=(ja ya.out 5).trans rfl;have VD:w8.cell? ⟨Fa,6,none⟩=some (.string Bd):=(ja ya.out 6).trans rfl;have Ij:=aa ya.out 0;have Hj:=aa ya.out 1;have Gj:=aa ya.out 2;have Fj:=aa ya.out 3;have Ej:=aa ya.out 4;have XC:=aa ya.out 5;have WC:=aa ya.out 6;have qq:w8.cell? ⟨za,0,none⟩=some (.slice yb Oa.length xb):=(ja ta.out 0).trans rfl;have pq:w8.cell? ⟨za,1,none⟩=some (.int .i64 Ka):=(ja ta.out 1).trans rfl;have oq:w8.cell? ⟨za,2,none⟩=some (.int .i64 Pa):=(ja ta.out 2).trans rfl;have mq:w8.cell? ⟨za,3,none⟩=some (.int .i64 Ja):=(ja ta.out 3).trans rfl;have lq:w8.cell? ⟨za,4,none⟩=some (.slice Rb Ga.length Ib):=(ja ta.out 4).trans rfl;have Wp:=aa ta.out 0;have Vp:=aa ta.out 1;have Tp:=aa ta.out 2;have Sp:=aa ta.out 3;have Rp:=aa ta.out 4)|((with_reducible refine zb (f:=81) rfl ?_);refine Fc (some 14) rfl rfl Try.func81 (by kernel_rfl) rfl #[.int .i64 Sb,.int .i64 0,.int .i64 (wrap64 (Ja - 1))] rfl (by (try simp only [List.map_toArray,List.map_cons,List.map_nil]);first|done|rfl|(simp only [List.length_drop,List.length_take];rfl)) ?_;(with_reducible refine (Za.calls Sb 0 (wrap64 (Ja - 1)) t103 _ A3.out).mono ?_);rintro e w' ⟨rfl,⟨nd,rfl⟩⟩;refine ⟨_,rfl,?_⟩)|((with_reducible refine zb (f:=81) rfl ?_);refine Fc (some 20) rfl rfl Try.func81 (by kernel_rfl) rfl #[.int .i64 Nb,.int .i64 0,.int .i64 (wrap64 (Ja - 1))] rfl (by (try simp only [List.map_toArray,List.map_cons,List.map_nil]);first|done|rfl|(simp only [List.length_drop,List.length_take];rfl)) ?_;(with_reducible refine (Za.calls Nb 0 (wrap64 (Ja - 1)) t104 _ A4.out).mono ?_);rintro e w' ⟨rfl,⟨nd,rfl⟩⟩;refine ⟨_,rfl,?_⟩)|((with_reducible refine zb (f:=81) rfl ?_);refine Fc (some 26) rfl rfl Try.func81 (by kernel_rfl) rfl #[.int .i64 Pb,.int .i64 0,.int .i64 (wrap64 (Ja - 1))] rfl (by (try simp only [List.map_toArray,List.map_cons,List.map_nil]);first|done|rfl|(simp only [List.length_drop,List.length_take];rfl)) ?_;(with_reducible refine (Za.calls Pb 0 (wrap64 (Ja - 1)) t105 _ A5.out).mono ?_);rintro e w' ⟨rfl,⟨nd,rfl⟩⟩;refine ⟨_,rfl,?_⟩))
 (try simp only [Act.put,List.setIfInBounds_toArray,List.set_cons_zero,List.set_cons_succ])
 go_cut [8] (fun v8 wc=>∃ (kq:Nat) (VE:Bool),v8 = .bool VE∧ga (jb.j0 kq t103 t104 t105 VE Oa Ka Pa Ja Ga Ec Sb Nb Pb mc Yc Bd=some r)∧ga (kq ≤ k)∧ga (wc.heap[za]? = some (.cells #[(.slice yb Oa.length xb),.int .i64 Ka,.int .i64 Pa,.int .i64 Ja,(.slice Rb Ga.length Ib)] 45 (0,0)))∧ga (wc.heap[Fa]? = some (.cells #[.int .i64 Ec,.int .i64 Sb,.int .i64 Nb,.int .i64 Pb,.int .i64 mc,.int .i64 Yc,.string Bd] 122 (0,0)))∧ga (Below w.heap.size w wc))
 case first =>
  have H:=HC6.out;clear HC6
  by_cases xw:t104=true
  ·subst xw;have H1:(if t105=true then ((Za.f Yc 0 (wrap64 ((Oa.length:Int) - 1))).bind fun t106=>(jb.j0 k t103 true t105 t106 Oa Ka Pa Ja Ga Ec Sb Nb Pb mc Yc Bd)) else (jb.j0 k t103 true t105 false Oa Ka Pa Ja Ga Ec Sb Nb Pb mc Yc Bd))=some r:=by rw [if_pos rfl] at H;exact H
   clear H;have H:=H1;clear H1
   by_cases xA:t105=true
   ·subst xA;have H1:((Za.f Yc 0 (wrap64 ((Oa.length:Int) - 1))).bind fun t106=>(jb.j0 k t103 true true t106 Oa Ka Pa Ja Ga Ec Sb Nb Pb mc Yc Bd))=some r:=by rw [if_pos rfl] at H;exact H
    clear H;have H:=H1;clear H1;replace H:=Option.bind_eq_some_iff.mp H;obtain ⟨t106,Xac,H⟩:=H;replace H:(jb.j0 k t103 true true t106 Oa Ka Pa Ja Ga Ec Sb Nb Pb mc Yc Bd)=some r:=H;have A14:=ga.mk Xac;clear Xac;have H':=ga.mk H;clear H;have Bar:=Bb.out;have Qaq:=Cb.out;have PD:w8.cell? ⟨Fa,0,none⟩=some (.int .i64 Ec):=(ja ya.out 0).trans rfl;have OD:w8.cell? ⟨Fa,1,none⟩=some (.int .i64 Sb):=(ja ya.out 1).trans rfl;have ND:w8.cell? ⟨Fa,2,none⟩=some (.int .i64 Nb):=(ja ya.out 2).trans rfl;have MD:w8.cell? ⟨Fa,3,none⟩=some (.int .i64 Pb):=(ja ya.out 3).trans rfl;have LD:w8.cell? ⟨Fa,4,none⟩=some (.int .i64 mc):=(ja ya.out 4).trans rfl;have uL:w8.cell? ⟨Fa,5,none⟩=some (.int .i64 Yc):=(ja ya.out 5).trans rfl;have tL:w8.cell? ⟨Fa,6,none⟩=some (.string Bd):=(ja ya.out 6).trans rfl;have QC:=aa ya.out 0;have PC:=aa ya.out 1;have OC:=aa ya.out 2;have NC:=aa ya.out 3;have MC:=aa ya.out 4;have CK:=aa ya.out 5;have BK:=aa ya.out 6;have KD:w8.cell? ⟨za,0,none⟩=some (.slice yb Oa.length xb):=(ja ta.out 0).trans rfl;have JD:w8.cell? ⟨za,1,none⟩=some (.int .i64 Ka):=(ja ta.out 1).trans rfl;have ID:w8.cell? ⟨za,2,none⟩=some (.int .i64 Pa):=(ja ta.out 2).trans rfl;have GD:w8.cell? ⟨za,3,none⟩=some (.int .i64 Ja):=(ja ta.out 3).trans rfl;have FD:w8.cell? ⟨za,4,none⟩=some (.slice Rb Ga.length Ib):=(ja ta.out 4).trans rfl;have LC:=aa ta.out 0;have KC:=aa ta.out 1;have JC:=aa ta.out 2;have IC:=aa ta.out 3;have GC:=aa ta.out 4;go_wp2_with (first|(go_at_call 81;(with_reducible refine (Za.calls Yc 0 (wrap64 ((Oa.length:Int) - 1)) t106 _ A14.out).mono ?_);rintro e w' ⟨rfl,⟨nd,rfl⟩⟩))
    go_meet
    case rel=>exact ⟨_,(t106),(by first|rfl|(simp;done)|(simp [*];done)),H',⟨by first|omega|exact Nat.le_refl _⟩,⟨by (with_reducible repeat (first|refine Da ?_ _|refine Ea ?_|refine Ca ?_ _));exact ta.out⟩,⟨by (with_reducible repeat (first|refine Da ?_ _|refine Ea ?_|refine Ca ?_ _));exact ya.out⟩,⟨by repeat (first|(with_reducible first|exact HB.out|apply oa|apply ia|apply qa|refine ua ?_ Ta.out|refine ua ?_ nc.out)|exact HB.out)⟩⟩
   ·replace xA:=Bool.eq_false_iff.mpr xA;subst xA;have H1:(jb.j0 k t103 true false false Oa Ka Pa Ja Ga Ec Sb Nb Pb mc Yc Bd)=some r:=by rw [if_neg (show ¬ (false=true) by decide)] at H;exact H
    clear H;have H:=H1;clear H1;have H':=ga.mk H;clear H;go_wp2
    go_meet
    case rel=>exact ⟨_,(false),(by first|rfl|(simp;done)|(simp [*];done)),H',⟨by first|omega|exact Nat.le_refl _⟩,⟨by (with_reducible repeat (first|refine Da ?_ _|refine Ea ?_|refine Ca ?_ _));exact ta.out⟩,⟨by (with_reducible repeat (first|refine Da ?_ _|refine Ea ?_|refine Ca ?_ _));exact ya.out⟩,⟨by repeat (first|(with_reducible first|exact HB.out|apply oa|apply ia|apply qa|refine ua ?_ Ta.out|refine ua ?_ nc.out)|exact HB.out)⟩⟩
  ·replace xw:=Bool.eq_false_iff.mpr xw;subst xw;have H1:(if Nb=(-1) then (if t105=true then ((Za.f Yc 0 (wrap64 ((Oa.length:Int) - 1))).bind fun t107=>(jb.j0 k t103 false t105 t107 Oa Ka Pa Ja Ga Ec Sb Nb Pb mc Yc Bd)) else (jb.j0 k t103 false t105 false Oa Ka Pa Ja Ga Ec Sb Nb Pb mc Yc Bd)) else (jb.j0 k t103 false t105 false Oa Ka Pa Ja Ga Ec Sb Nb Pb mc Yc Bd))=some r:=by rw [if_neg (show ¬ (false=true) by decide)] at H;exact H
   clear H;have H:=H1;clear H1
   by_cases Ir:Nb=(-1)
   ·rw [if_pos Ir] at H;have vo:(Nb == (-1))=true:=beq_iff_eq.mpr Ir;have jw:(Nb != (-1))=false:=bne_eq_false_iff_eq.mpr Ir;clear Ir;(first|rw [vo]|(simp only [Yb,Zb];rw [vo])|skip)
    by_cases Mt:t105=true
    ·subst Mt;have H1:((Za.f Yc 0 (wrap64 ((Oa.length:Int) - 1))).bind fun t107=>(jb.j0 k t103 false true t107 Oa Ka Pa Ja Ga Ec Sb Nb Pb mc Yc Bd))=some r:=by rw [if_pos rfl] at H;exact H
     clear H;have H:=H1;clear H1;replace H:=Option.bind_eq_some_iff.mp H;obtain ⟨t107,Tac,H⟩:=H;replace H:(jb.j0 k t103 false true t107 Oa Ka Pa Ja Ga Ec Sb Nb Pb mc Yc Bd)=some r:=H;have bN:=ga.mk Tac;clear Tac;have H':=ga.mk H;clear H;have xar:=Bb.out;have Maq:=Cb.out;have bt:w8.cell? ⟨Fa,0,none⟩=some (.int .i64 Ec):=(ja ya.out 0).trans rfl;have Zs:w8.cell? ⟨Fa,1,none⟩=some (.int .i64 Sb):=(ja ya.out 1).trans rfl;have Ys:w8.cell? ⟨Fa,2,none⟩=some (.int .i64 Nb):=(ja ya.out 2).trans rfl;have Xs:w8.cell? ⟨Fa,3,none⟩=some (.int .i64 Pb):=(ja ya.out 3).trans rfl;have Ws:w8.cell? ⟨Fa,4,none⟩=some (.int .i64 mc):=(ja ya.out 4).trans rfl;have sL:w8.cell? ⟨Fa,5,none⟩=some (.int .i64 Yc):=(ja ya.out 5).trans rfl;have rL:w8.cell? ⟨Fa,6,none⟩=some (.string Bd):=(ja ya.out 6).trans rfl;have Js:=aa ya.out 0;have Hs:=aa ya.out 1;have Gs:=aa ya.out 2;have Fs:=aa ya.out 3;have Es:=aa ya.out 4;have AK:=aa ya.out 5;have zK:=aa ya.out 6;have eo:w8.cell? ⟨za,0,none⟩=some (.slice yb Oa.length xb):=(ja ta.out 0).trans rfl;have Zn:w8.cell? ⟨za,1,none⟩=some (.int .i64 Ka):=(ja ta.out 1).trans rfl;have Yn:w8.cell? ⟨za,2,none⟩=some (.int .i64 Pa):=(ja ta.out 2).trans rfl;have Xn:w8.cell? ⟨za,3,none⟩=some (.int .i64 Ja):=(ja ta.out 3).trans rfl;have Wn:w8.cell? ⟨za,4,none⟩=some (.slice Rb Ga.length Ib):=(ja ta.out 4).trans rfl;have Qn:=aa ta.out 0;have Pn:=aa ta.out 1;have Nn:=aa ta.out 2;have Mn:=aa ta.out 3;have Ln:=aa ta.out 4;go_wp2_with (first|(go_at_call 81;(with_reducible refine (Za.calls Yc 0 (wrap64 ((Oa.length:Int) - 1)) t107 _ bN.out).mono ?_);rintro e w' ⟨rfl,⟨nd,rfl⟩⟩))
     go_meet
     case rel=>exact ⟨_,(t107),(by first|rfl|(simp;done)|(simp [*];done)),H',⟨by first|omega|exact Nat.le_refl _⟩,⟨by (with_reducible repeat (first|refine Da ?_ _|refine Ea ?_|refine Ca ?_ _));exact ta.out⟩,⟨by (with_reducible repeat (first|refine Da ?_ _|refine Ea ?_|refine Ca ?_ _));exact ya.out⟩,⟨by repeat (first|(with_reducible first|exact HB.out|apply oa|apply ia|apply qa|refine ua ?_ Ta.out|refine ua ?_ nc.out)|exact HB.out)⟩⟩
    ·replace Mt:=Bool.eq_false_iff.mpr Mt;subst Mt;have H1:(jb.j0 k t103 false false false Oa Ka Pa Ja Ga Ec Sb Nb Pb mc Yc Bd)=some r:=by rw [if_neg (show ¬ (false=true) by decide)] at H;exact H
     clear H;have H:=H1;clear H1;have H':=ga.mk H;clear H;have W5:=Bb.out;have M5:=Cb.out;have Vs:w8.cell? ⟨Fa,0,none⟩=some (.int .i64 Ec):=(ja ya.out 0).trans rfl;have Us:w8.cell? ⟨Fa,1,none⟩=some (.int .i64 Sb):=(ja ya.out 1).trans rfl;have Ts:w8.cell? ⟨Fa,2,none⟩=some (.int .i64 Nb):=(ja ya.out 2).trans rfl;have Ss:w8.cell? ⟨Fa,3,none⟩=some (.int .i64 Pb):=(ja ya.out 3).trans rfl;have Rs:w8.cell? ⟨Fa,4,none⟩=some (.int .i64 mc):=(ja ya.out 4).trans rfl;have qL:w8.cell? ⟨Fa,5,none⟩=some (.int .i64 Yc):=(ja ya.out 5).trans rfl;have pL:w8.cell? ⟨Fa,6,none⟩=some (.string Bd):=(ja ya.out 6).trans rfl;have Ds:=aa ya.out 0;have Cs:=aa ya.out 1;have Bs:=aa ya.out 2;have js:=aa ya.out 3;have Zr:=aa ya.out 4;have yK:=aa ya.out 5;have xK:=aa ya.out 6;go_wp2
     go_meet
     case rel=>exact ⟨_,(false),(by first|rfl|(simp;done)|(simp [*];done)),H',⟨by first|omega|exact Nat.le_refl _⟩,⟨by (with_reducible repeat (first|refine Da ?_ _|refine Ea ?_|refine Ca ?_ _));exact ta.out⟩,⟨by (with_reducible repeat (first|refine Da ?_ _|refine Ea ?_|refine Ca ?_ _));exact ya.out⟩,⟨by repeat (first|(with_reducible first|exact HB.out|apply oa|apply ia|apply qa|refine ua ?_ Ta.out|refine ua ?_ nc.out)|exact HB.out)⟩⟩
   ·rw [if_neg Ir] at H;have vo:(Nb == (-1))=false:=beq_eq_false_iff_ne.mpr Ir;have jw:(Nb != (-1))=true:=bne_iff_ne.mpr Ir;(first|rw [vo]|(simp only [Yb,Zb];rw [vo])|skip);have H':=ga.mk H;clear H;have war:=Bb.out;have Laq:=Cb.out;have az:w8.cell? ⟨Fa,0,none⟩=some (.int .i64 Ec):=(ja ya.out 0).trans rfl;have Zy:w8.cell? ⟨Fa,1,none⟩=some (.int .i64 Sb):=(ja ya.out 1).trans rfl;have Yy:w8.cell? ⟨Fa,2,none⟩=some (.int .i64 Nb):=(ja ya.out 2).trans rfl;have Xy:w8.cell? ⟨Fa,3,none⟩=some (.int .i64 Pb):=(ja ya.out 3).trans rfl;have Wy:w8.cell? ⟨Fa,4,none⟩=some (.int .i64 mc):=(ja ya.out 4).trans rfl;have oL:w8.cell? ⟨Fa,5,none⟩=some (.int .i64 Yc):=(ja ya.out 5).trans rfl;have nL:w8.cell? ⟨Fa,6,none⟩=some (.string Bd):=(ja ya.out 6).trans rfl;have Ky:=aa ya.out 0;have Jy:=aa ya.out 1;have Iy:=aa ya.out 2;have Hy:=aa ya.out 3;have Gy:=aa ya.out 4;have wK:=aa ya.out 5;have vK:=aa ya.out 6;go_wp2
    go_meet
    case rel=>exact ⟨_,(false),(by first|rfl|(simp;done)|(simp [*];done)),H',⟨by first|omega|exact Nat.le_refl _⟩,⟨by (with_reducible repeat (first|refine Da ?_ _|refine Ea ?_|refine Ca ?_ _));exact ta.out⟩,⟨by (with_reducible repeat (first|refine Da ?_ _|refine Ea ?_|refine Ca ?_ _));exact ya.out⟩,⟨by repeat (first|(with_reducible first|exact HB.out|apply oa|apply ia|apply qa|refine ua ?_ Ta.out|refine ua ?_ nc.out)|exact HB.out)⟩⟩
 case rest =>
  clear HC6
  try clear c1
  try clear c2
  try clear p2
  try clear p6
  try clear c8
  try clear c9
  try clear xw
  try clear xA
  try clear CG
  try clear Ir
  try clear vo
  try clear jw
  try clear Mt
  try clear TA
  try clear CL
  try clear U3
  try clear Nj
  try clear Mj
  try clear Lj
  try clear Kj
  try clear Jj
  try clear WD
  try clear VD
  try clear qq
  try clear pq
  try clear oq
  try clear mq
  try clear lq
  try clear PD
  try clear OD
  try clear ND
  try clear MD
  try clear LD
  try clear uL
  try clear tL
  try clear KD
  try clear JD
  try clear ID
  try clear GD
  try clear FD
  try clear bt
  try clear Zs
  try clear Ys
  try clear Xs
  try clear Ws
  try clear sL
  try clear rL
  try clear eo
  try clear Zn
  try clear Yn
  try clear Xn
  try clear Wn
  try clear Vs
  try clear Us
  try clear Ts
  try clear Ss
  try clear Rs
  try clear qL
  try clear pL
  try clear az
  try clear Zy
  try clear Yy
  try clear Xy
  try clear Wy
  try clear oL
  try clear nL
  try clear Ij
  try clear Hj
  try clear Gj
  try clear Fj
  try clear Ej
  try clear XC
  try clear WC
  try clear Wp
  try clear Vp
  try clear Tp
  try clear Sp
  try clear Rp
  try clear QC
  try clear PC
  try clear OC
  try clear NC
  try clear MC
  try clear CK
  try clear BK
  try clear LC
  try clear KC
  try clear JC
  try clear IC
  try clear GC
  try clear Js
  try clear Hs
  try clear Gs
  try clear Fs
  try clear Es
  try clear AK
  try clear zK
  try clear Qn
  try clear Pn
  try clear Nn
  try clear Mn
  try clear Ln
  try clear Ds
  try clear Cs
  try clear Bs
  try clear js
  try clear Zr
  try clear yK
  try clear xK
  try clear Ky
  try clear Jy
  try clear Iy
  try clear Hy
  try clear Gy
  try clear wK
  try clear vK
  obtain ⟨kq,VE,rfl,HA,HJ5,ta,ya,HB⟩:=hcut;cases kq with
  | zero=>exact absurd HA.out (by simp [jb.j0])
  | succ kj5 =>
   have H:=HA.out;clear HA;simp only [jb.j0] at H;have o3:=ga.mk H;clear H
   go_upto_region 5 with (fail)
   go_cut [62] (fun v62 wc=>∃ (kq:Nat) (CB:Bool),v62 = .bool CB∧ga (jb.j1 kq t103 t104 t105 VE CB Oa Ka Pa Ja Ga Ec Sb Nb Pb mc Yc Bd=some r)∧ga (kq ≤ kj5)∧ga (wc.heap[za]? = some (.cells #[(.slice yb Oa.length xb),.int .i64 Ka,.int .i64 Pa,.int .i64 Ja,(.slice Rb Ga.length Ib)] 45 (0,0)))∧ga (wc.heap[Fa]? = some (.cells #[.int .i64 Ec,.int .i64 Sb,.int .i64 Nb,.int .i64 Pb,.int .i64 mc,.int .i64 Yc,.string Bd] 122 (0,0)))∧ga (Below w.heap.size w wc))
   case first =>
    have H:=o3.out;clear o3
    by_cases cz:Ec=2
    ·rw [if_pos cz] at H;have gw:(Ec == 2)=true:=beq_iff_eq.mpr cz;have MW:(Ec != 2)=false:=bne_eq_false_iff_eq.mpr cz;clear cz;(first|rw [gw]|(simp only [Yb,Zb];rw [gw])|skip)
     by_cases Ox:Ec=4
     ·rw [if_pos Ox] at H;have sB:(Ec == 4)=true:=beq_iff_eq.mpr Ox;have LW:(Ec != 4)=false:=bne_eq_false_iff_eq.mpr Ox;clear Ox;have H':=ga.mk H;clear H;have rar:=Bb.out;have Haq:=Cb.out;have yD:wc.cell? ⟨Fa,0,none⟩=some (.int .i64 Ec):=(ja ya.out 0).trans rfl;have xD:wc.cell? ⟨Fa,1,none⟩=some (.int .i64 Sb):=(ja ya.out 1).trans rfl;have wD:wc.cell? ⟨Fa,2,none⟩=some (.int .i64 Nb):=(ja ya.out 2).trans rfl;have vD:wc.cell? ⟨Fa,3,none⟩=some (.int .i64 Pb):=(ja ya.out 3).trans rfl;have uD:wc.cell? ⟨Fa,4,none⟩=some (.int .i64 mc):=(ja ya.out 4).trans rfl;have vU:wc.cell? ⟨Fa,5,none⟩=some (.int .i64 Yc):=(ja ya.out 5).trans rfl;have uU:wc.cell? ⟨Fa,6,none⟩=some (.string Bd):=(ja ya.out 6).trans rfl;have zC:=aa ya.out 0;have yC:=aa ya.out 1;have xC:=aa ya.out 2;have wC:=aa ya.out 3;have vC:=aa ya.out 4;have WS:=aa ya.out 5;have VS:=aa ya.out 6;go_wp2
      go_meet
      case rel=>exact ⟨_,(false),(by first|rfl|(simp;done)|(simp [*];done)),H',⟨by have:=HJ5.out;first|omega|exact Nat.le_refl _⟩,⟨by (with_reducible repeat (first|refine Da ?_ _|refine Ea ?_|refine Ca ?_ _));exact ta.out⟩,⟨by (with_reducible repeat (first|refine Da ?_ _|refine Ea ?_|refine Ca ?_ _));exact ya.out⟩,⟨by repeat (first|(with_reducible first|exact HB.out|apply oa|apply ia|apply qa|refine ua ?_ Ta.out|refine ua ?_ nc.out)|exact HB.out)⟩⟩
     ·rw [if_neg Ox] at H;have sB:(Ec == 4)=false:=beq_eq_false_iff_ne.mpr Ox;have LW:(Ec != 4)=true:=bne_iff_ne.mpr Ox;have H':=ga.mk H;clear H;have oar:=Bb.out;have Faq:=Cb.out;have fL:wc.cell? ⟨Fa,0,none⟩=some (.int .i64 Ec):=(ja ya.out 0).trans rfl;have dL:wc.cell? ⟨Fa,1,none⟩=some (.int .i64 Sb):=(ja ya.out 1).trans rfl;have cL:wc.cell? ⟨Fa,2,none⟩=some (.int .i64 Nb):=(ja ya.out 2).trans rfl;have bL:wc.cell? ⟨Fa,3,none⟩=some (.int .i64 Pb):=(ja ya.out 3).trans rfl;have ZK:wc.cell? ⟨Fa,4,none⟩=some (.int .i64 mc):=(ja ya.out 4).trans rfl;have YK:wc.cell? ⟨Fa,5,none⟩=some (.int .i64 Yc):=(ja ya.out 5).trans rfl;have XK:wc.cell? ⟨Fa,6,none⟩=some (.string Bd):=(ja ya.out 6).trans rfl;have pK:=aa ya.out 0;have oK:=aa ya.out 1;have nK:=aa ya.out 2;have mK:=aa ya.out 3;have lK:=aa ya.out 4;have kK:=aa ya.out 5;have jK:=aa ya.out 6;go_wp2
      go_meet
      case rel=>exact ⟨_,((mc != 0)),(by first|rfl|(simp;done)|(simp [*];done)),H',⟨by have:=HJ5.out;first|omega|exact Nat.le_refl _⟩,⟨by (with_reducible repeat (first|refine Da ?_ _|refine Ea ?_|refine Ca ?_ _));exact ta.out⟩,⟨by (with_reducible repeat (first|refine Da ?_ _|refine Ea ?_|refine Ca ?_ _));exact ya.out⟩,⟨by repeat (first|(with_reducible first|exact HB.out|apply oa|apply ia|apply qa|refine ua ?_ Ta.out|refine ua ?_ nc.out)|exact HB.out)⟩⟩
    ·rw [if_neg cz] at H;have gw:(Ec == 2)=false:=beq_eq_false_iff_ne.mpr cz;have MW:(Ec != 2)=true:=bne_iff_ne.mpr cz;(first|rw [gw]|(simp only [Yb,Zb];rw [gw])|skip)
     by_cases IW:Bd.toList=([]:List UInt8)
     ·rw [if_pos IW] at H;have GW:(Bd.toList == ([]:List UInt8))=true:=beq_iff_eq.mpr IW;have FW:(Bd.toList != ([]:List UInt8))=false:=bne_eq_false_iff_eq.mpr IW;clear IW
      by_cases EW:Ec=4
      ·rw [if_pos EW] at H;have DW:(Ec == 4)=true:=beq_iff_eq.mpr EW;have CW:(Ec != 4)=false:=bne_eq_false_iff_eq.mpr EW;clear EW;have H':=ga.mk H;clear H;have S5:=Bb.out;have I5:=Cb.out;have nD:wc.cell? ⟨Fa,0,none⟩=some (.int .i64 Ec):=(ja ya.out 0).trans rfl;have mD:wc.cell? ⟨Fa,1,none⟩=some (.int .i64 Sb):=(ja ya.out 1).trans rfl;have lD:wc.cell? ⟨Fa,2,none⟩=some (.int .i64 Nb):=(ja ya.out 2).trans rfl;have kD:wc.cell? ⟨Fa,3,none⟩=some (.int .i64 Pb):=(ja ya.out 3).trans rfl;have jD:wc.cell? ⟨Fa,4,none⟩=some (.int .i64 mc):=(ja ya.out 4).trans rfl;have WK:wc.cell? ⟨Fa,5,none⟩=some (.int .i64 Yc):=(ja ya.out 5).trans rfl;have VK:wc.cell? ⟨Fa,6,none⟩=some (.string Bd):=(ja ya.out 6).trans rfl;have oC:=aa ya.out 0;have nC:=aa ya.out 1;have mC:=aa ya.out 2;have lC:=aa ya.out 3;have kC:=aa ya.out 4;have iK:=aa ya.out 5;have gK:=aa ya.out 6;go_wp2
       go_meet
       case rel=>exact ⟨_,(false),(by first|rfl|(simp;done)|(simp [*];done)),H',⟨by have:=HJ5.out;first|omega|exact Nat.le_refl _⟩,⟨by (with_reducible repeat (first|refine Da ?_ _|refine Ea ?_|refine Ca ?_ _));exact ta.out⟩,⟨by (with_reducible repeat (first|refine Da ?_ _|refine Ea ?_|refine Ca ?_ _));exact ya.out⟩,⟨by repeat (first|(with_reducible first|exact HB.out|apply oa|apply ia|apply qa|refine ua ?_ Ta.out|refine ua ?_ nc.out)|exact HB.out)⟩⟩
      ·rw [if_neg EW] at H;have DW:(Ec == 4)=false:=beq_eq_false_iff_ne.mpr EW;have CW:(Ec != 4)=true:=bne_iff_ne.mpr EW;have H':=ga.mk H;clear H;have R5:=Bb.out;have G5:=Cb.out;have Qy:wc.cell? ⟨Fa,0,none⟩=some (.int .i64 Ec):=(ja ya.out 0).trans rfl;have Py:wc.cell? ⟨Fa,1,none⟩=some (.int .i64 Sb):=(ja ya.out 1).trans rfl;have Oy:wc.cell? ⟨Fa,2,none⟩=some (.int .i64 Nb):=(ja ya.out 2).trans rfl;have Ny:wc.cell? ⟨Fa,3,none⟩=some (.int .i64 Pb):=(ja ya.out 3).trans rfl;have My:wc.cell? ⟨Fa,4,none⟩=some (.int .i64 mc):=(ja ya.out 4).trans rfl;have jU:wc.cell? ⟨Fa,5,none⟩=some (.int .i64 Yc):=(ja ya.out 5).trans rfl;have iU:wc.cell? ⟨Fa,6,none⟩=some (.string Bd):=(ja ya.out 6).trans rfl;have zy:=aa ya.out 0;have yy:=aa ya.out 1;have xy:=aa ya.out 2;have uy:=aa ya.out 3;have sy:=aa ya.out 4;have KS:=aa ya.out 5;have JS:=aa ya.out 6;go_wp2
       go_meet
       case rel=>exact ⟨_,((mc != 0)),(by first|rfl|(simp;done)|(simp [*];done)),H',⟨by have:=HJ5.out;first|omega|exact Nat.le_refl _⟩,⟨by (with_reducible repeat (first|refine Da ?_ _|refine Ea ?_|refine Ca ?_ _));exact ta.out⟩,⟨by (with_reducible repeat (first|refine Da ?_ _|refine Ea ?_|refine Ca ?_ _));exact ya.out⟩,⟨by repeat (first|(with_reducible first|exact HB.out|apply oa|apply ia|apply qa|refine ua ?_ Ta.out|refine ua ?_ nc.out)|exact HB.out)⟩⟩
     ·rw [if_neg IW] at H;have GW:(Bd.toList == ([]:List UInt8))=false:=beq_eq_false_iff_ne.mpr IW;have FW:(Bd.toList != ([]:List UInt8))=true:=bne_iff_ne.mpr IW;have H':=ga.mk H;clear H;have Q5:=Bb.out;have F5:=Cb.out;have PK:wc.cell? ⟨Fa,0,none⟩=some (.int .i64 Ec):=(ja ya.out 0).trans rfl;have OK:wc.cell? ⟨Fa,1,none⟩=some (.int .i64 Sb):=(ja ya.out 1).trans rfl;have NK:wc.cell? ⟨Fa,2,none⟩=some (.int .i64 Nb):=(ja ya.out 2).trans rfl;have MK:wc.cell? ⟨Fa,3,none⟩=some (.int .i64 Pb):=(ja ya.out 3).trans rfl;have LK:wc.cell? ⟨Fa,4,none⟩=some (.int .i64 mc):=(ja ya.out 4).trans rfl;have bU:wc.cell? ⟨Fa,5,none⟩=some (.int .i64 Yc):=(ja ya.out 5).trans rfl;have aU:wc.cell? ⟨Fa,6,none⟩=some (.string Bd):=(ja ya.out 6).trans rfl;have ZJ:=aa ya.out 0;have YJ:=aa ya.out 1;have XJ:=aa ya.out 2;have WJ:=aa ya.out 3;have VJ:=aa ya.out 4;have zS:=aa ya.out 5;have yS:=aa ya.out 6;go_wp2
      go_meet
      case rel=>exact ⟨_,(true),(by first|rfl|(simp;done)|(simp [*];done)),H',⟨by have:=HJ5.out;first|omega|exact Nat.le_refl _⟩,⟨by (with_reducible repeat (first|refine Da ?_ _|refine Ea ?_|refine Ca ?_ _));exact ta.out⟩,⟨by (with_reducible repeat (first|refine Da ?_ _|refine Ea ?_|refine Ca ?_ _));exact ya.out⟩,⟨by repeat (first|(with_reducible first|exact HB.out|apply oa|apply ia|apply qa|refine ua ?_ Ta.out|refine ua ?_ nc.out)|exact HB.out)⟩⟩
   case rest =>
    clear o3
    try clear c1
    try clear c2
    try clear p2
    try clear c3
    try clear c4
    try clear p6
    try clear c8
    try clear c9
    try clear xw
    try clear xA
    try clear CG
    try clear Ir
    try clear vo
    try clear jw
    try clear Mt
    try clear TA
    try clear CL
    try clear U3
    try clear cz
    try clear gw
    try clear MW
    try clear Ox
    try clear sB
    try clear LW
    try clear BL
    try clear zG
    try clear IW
    try clear GW
    try clear FW
    try clear EW
    try clear DW
    try clear CW
    try clear VZ
    try clear c39
    try clear c41
    try clear Nj
    try clear Mj
    try clear Lj
    try clear Kj
    try clear Jj
    try clear WD
    try clear VD
    try clear qq
    try clear pq
    try clear oq
    try clear mq
    try clear lq
    try clear PD
    try clear OD
    try clear ND
    try clear MD
    try clear LD
    try clear uL
    try clear tL
    try clear KD
    try clear JD
    try clear ID
    try clear GD
    try clear FD
    try clear bt
    try clear Zs
    try clear Ys
    try clear Xs
    try clear Ws
    try clear sL
    try clear rL
    try clear eo
    try clear Zn
    try clear Yn
    try clear Xn
    try clear Wn
    try clear Vs
    try clear Us
    try clear Ts
    try clear Ss
    try clear Rs
    try clear qL
    try clear pL
    try clear az
    try clear Zy
    try clear Yy
    try clear Xy
    try clear Wy
    try clear oL
    try clear nL
    try clear yD
    try clear xD
    try clear wD
    try clear vD
    try clear uD
    try clear vU
    try clear uU
    try clear fL
    try clear dL
    try clear cL
    try clear bL
    try clear ZK
    try clear YK
    try clear XK
    try clear nD
    try clear mD
    try clear lD
    try clear kD
    try clear jD
    try clear WK
    try clear VK
    try clear Qy
    try clear Py
    try clear Oy
    try clear Ny
    try clear My
    try clear jU
    try clear iU
    try clear PK
    try clear OK
    try clear NK
    try clear MK
    try clear LK
    try clear bU
    try clear aU
    try clear Ij
    try clear Hj
    try clear Gj
    try clear Fj
    try clear Ej
    try clear XC
    try clear WC
    try clear Wp
    try clear Vp
    try clear Tp
    try clear Sp
    try clear Rp
    try clear QC
    try clear PC
    try clear OC
    try clear NC
    try clear MC
    try clear CK
    try clear BK
    try clear LC
    try clear KC
    try clear JC
    try clear IC
    try clear GC
    try clear Js
    try clear Hs
    try clear Gs
    try clear Fs
    try clear Es
    try clear AK
    try clear zK
    try clear Qn
    try clear Pn
    try clear Nn
    try clear Mn
    try clear Ln
    try clear Ds
    try clear Cs
    try clear Bs
    try clear js
    try clear Zr
    try clear yK
    try clear xK
    try clear Ky
    try clear Jy
    try clear Iy
    try clear Hy
    try clear Gy
    try clear wK
    try clear vK
    try clear zC
    try clear yC
    try clear xC
    try clear wC
    try clear vC
    try clear WS
    try clear VS
    try clear pK
    try clear oK
    try clear nK
    try clear mK
    try clear lK
    try clear kK
    try clear jK
    try clear oC
    try clear nC
    try clear mC
    try clear lC
    try clear kC
    try clear iK
    try clear gK
    try clear zy
    try clear yy
    try clear xy
    try clear uy
    try clear sy
    try clear KS
    try clear JS
    try clear ZJ
    try clear YJ
    try clear XJ
    try clear WJ
    try clear VJ
    try clear zS
    try clear yS
    try clear p2
    try clear p6
    obtain ⟨kq,CB,rfl,HA,Zav,ta,ya,HB⟩:=hcut;cases kq with
    | zero=>exact absurd HA.out (by simp [jb.j1])
    | succ lM =>
     have H:=HA.out;clear HA;simp only [jb.j1] at H
     by_cases AL:CB=true
     ·subst AL;have H1:(some false)=some r:=by rw [if_pos rfl] at H;exact H
      clear H;have H:=H1;clear H1;obtain rfl:=Option.some.inj H;go_wp2;go_ret;exact ⟨by first|rfl|(simp [Na,Ma] <;> rfl)|(simp [*,Na,Ma] <;> rfl),by repeat (first|(with_reducible first|exact HB.out|apply oa|apply ia|apply qa|refine ua ?_ Ta.out|refine ua ?_ nc.out)|exact HB.out)⟩
     ·replace AL:=Bool.eq_false_iff.mpr AL;subst AL;have H1:(if Ec=0 then (if t103=true then (if Nb=0 then (some (Pb == 0)) else (some false)) else (some false)) else (if Ec=1 then (if t103=true then (if t104=true then (if Pb=0 then (some (Yc == 0)) else (some false)) else (some false)) else (some false)) else (if Ec=2 then (if t103=true then (if t104=true then (if t105=true then (if Yc=0 then ((Ae.f lM (([(⟨#[61,61]⟩:ByteArray),(⟨#[60]⟩:ByteArray),(⟨#[38]⟩:ByteArray),(⟨#[43]⟩:ByteArray),(⟨#[45]⟩:ByteArray),(⟨#[42]⟩:ByteArray)]:List ByteArray)) Bd).bind fun t111=>(some t111)) else (some false)) else (some false)) else (some false)) else (some false)) else (if Ec=3 then (if t103=true then (some VE) else (some false)) else (if Ec=4 then (if Sb=0 then (if VE=true then ((Za.f mc 0 (wrap64 (Ja - 1))).bind fun t112=>(some t112)) else (some false)) else (some false)) else (if Ec=5 then (if t103=true then (if Nb=0 then (if Pb=0 then (some (Yc == 0)) else (some false)) else (some false)) else (some false)) else (if Ec=6 then (if Sb=0 then (if t104=true then (if Pb=0 then (some (Yc == 0)) else (some false)) else (some false)) else (some false)) else (some false))))))))=some r:=by rw [if_neg (show ¬ (false=true) by decide)] at H;exact H
      clear H;have H:=H1;clear H1
      by_cases Yz:Ec=0
      ·rw [if_pos Yz] at H;have wG:(Ec == 0)=true:=beq_iff_eq.mpr Yz;have vG:(Ec != 0)=false:=bne_eq_false_iff_eq.mpr Yz;clear Yz
       by_cases mE:t103=true
       ·subst mE;have H1:(if Nb=0 then (some (Pb == 0)) else (some false))=some r:=by rw [if_pos rfl] at H;exact H
        clear H;have H:=H1;clear H1
        by_cases rB:Nb=0
        ·rw [if_pos rB] at H;have zL:(Nb == 0)=true:=beq_iff_eq.mpr rB;have CP:(Nb != 0)=false:=bne_eq_false_iff_eq.mpr rB;clear rB;obtain rfl:=Option.some.inj H;have ZV:=Bb.out;have XV:=Cb.out;have iD:wc.cell? ⟨Fa,0,none⟩=some (.int .i64 Ec):=(ja ya.out 0).trans rfl;have gD:wc.cell? ⟨Fa,1,none⟩=some (.int .i64 Sb):=(ja ya.out 1).trans rfl;have fD:wc.cell? ⟨Fa,2,none⟩=some (.int .i64 Nb):=(ja ya.out 2).trans rfl;have eD:wc.cell? ⟨Fa,3,none⟩=some (.int .i64 Pb):=(ja ya.out 3).trans rfl;have dD:wc.cell? ⟨Fa,4,none⟩=some (.int .i64 mc):=(ja ya.out 4).trans rfl;have OT:wc.cell? ⟨Fa,5,none⟩=some (.int .i64 Yc):=(ja ya.out 5).trans rfl;have NT:wc.cell? ⟨Fa,6,none⟩=some (.string Bd):=(ja ya.out 6).trans rfl;have jC:=aa ya.out 0;have iC:=aa ya.out 1;have fC:=aa ya.out 2;have eC:=aa ya.out 3;have cC:=aa ya.out 4;have lS:=aa ya.out 5;have kS:=aa ya.out 6;go_wp2;go_ret;exact ⟨by first|rfl|(simp [Na,Ma] <;> rfl)|(simp [*,Na,Ma] <;> rfl),by repeat (first|(with_reducible first|exact HB.out|apply oa|apply ia|apply qa|refine ua ?_ Ta.out|refine ua ?_ nc.out)|exact HB.out)⟩
        ·rw [if_neg rB] at H;have zL:(Nb == 0)=false:=beq_eq_false_iff_ne.mpr rB;have CP:(Nb != 0)=true:=bne_iff_ne.mpr rB;obtain rfl:=Option.some.inj H;have jar:=Bb.out;have Aaq:=Cb.out;have DT:wc.cell? ⟨Fa,0,none⟩=some (.int .i64 Ec):=(ja ya.out 0).trans rfl;have CT:wc.cell? ⟨Fa,1,none⟩=some (.int .i64 Sb):=(ja ya.out 1).trans rfl;have zT:wc.cell? ⟨Fa,2,none⟩=some (.int .i64 Nb):=(ja ya.out 2).trans rfl;have yT:wc.cell? ⟨Fa,3,none⟩=some (.int .i64 Pb):=(ja ya.out 3).trans rfl;have xT:wc.cell? ⟨Fa,4,none⟩=some (.int .i64 mc):=(ja ya.out 4).trans rfl;have iaj:wc.cell? ⟨Fa,5,none⟩=some (.int .i64 Yc):=(ja ya.out 5).trans rfl;have gaj:wc.cell? ⟨Fa,6,none⟩=some (.string Bd):=(ja ya.out 6).trans rfl;have dS:=aa ya.out 0;have cS:=aa ya.out 1;have bS:=aa ya.out 2;have ZR:=aa ya.out 3;have YR:=aa ya.out 4;have Maf:=aa ya.out 5;have Laf:=aa ya.out 6;go_wp2;go_ret;exact ⟨by first|rfl|(simp [Na,Ma] <;> rfl)|(simp [*,Na,Ma] <;> rfl),by repeat (first|(with_reducible first|exact HB.out|apply oa|apply ia|apply qa|refine ua ?_ Ta.out|refine ua ?_ nc.out)|exact HB.out)⟩
       ·replace mE:=Bool.eq_false_iff.mpr mE;subst mE;have H1:(some false)=some r:=by rw [if_neg (show ¬ (false=true) by decide)] at H;exact H
        clear H;have H:=H1;clear H1;obtain rfl:=Option.some.inj H;have P5:=Bb.out;have E5:=Cb.out;have KK:wc.cell? ⟨Fa,0,none⟩=some (.int .i64 Ec):=(ja ya.out 0).trans rfl;have JK:wc.cell? ⟨Fa,1,none⟩=some (.int .i64 Sb):=(ja ya.out 1).trans rfl;have IK:wc.cell? ⟨Fa,2,none⟩=some (.int .i64 Nb):=(ja ya.out 2).trans rfl;have GK:wc.cell? ⟨Fa,3,none⟩=some (.int .i64 Pb):=(ja ya.out 3).trans rfl;have EK:wc.cell? ⟨Fa,4,none⟩=some (.int .i64 mc):=(ja ya.out 4).trans rfl;have aaj:wc.cell? ⟨Fa,5,none⟩=some (.int .i64 Yc):=(ja ya.out 5).trans rfl;have Zai:wc.cell? ⟨Fa,6,none⟩=some (.string Bd):=(ja ya.out 6).trans rfl;have UJ:=aa ya.out 0;have TJ:=aa ya.out 1;have SJ:=aa ya.out 2;have RJ:=aa ya.out 3;have QJ:=aa ya.out 4;have Faf:=aa ya.out 5;have Eaf:=aa ya.out 6;go_wp2;go_ret;exact ⟨by first|rfl|(simp [Na,Ma] <;> rfl)|(simp [*,Na,Ma] <;> rfl),by repeat (first|(with_reducible first|exact HB.out|apply oa|apply ia|apply qa|refine ua ?_ Ta.out|refine ua ?_ nc.out)|exact HB.out)⟩
      ·rw [if_neg Yz] at H;have wG:(Ec == 0)=false:=beq_eq_false_iff_ne.mpr Yz;have vG:(Ec != 0)=true:=bne_iff_ne.mpr Yz
       by_cases gN:Ec=1
       ·rw [if_pos gN] at H;have zW:(Ec == 1)=true:=beq_iff_eq.mpr gN;have Daa:(Ec != 1)=false:=bne_eq_false_iff_eq.mpr gN;clear gN
        by_cases c54:t103=true
        ·subst c54;have H1:(if t104=true then (if Pb=0 then (some (Yc == 0)) else (some false)) else (some false))=some r:=by rw [if_pos rfl] at H;exact H
         clear H;have H:=H1;clear H1
         by_cases c55:t104=true
         ·subst c55;have H1:(if Pb=0 then (some (Yc == 0)) else (some false))=some r:=by rw [if_pos rfl] at H;exact H
          clear H;have H:=H1;clear H1
          by_cases UZ:Pb=0
          ·rw [if_pos UZ] at H;have Caa:(Pb == 0)=true:=beq_iff_eq.mpr UZ;have Baa:(Pb != 0)=false:=bne_eq_false_iff_eq.mpr UZ;clear UZ;obtain rfl:=Option.some.inj H;have ear:=Bb.out;have waq:=Cb.out;have wT:wc.cell? ⟨Fa,0,none⟩=some (.int .i64 Ec):=(ja ya.out 0).trans rfl;have vT:wc.cell? ⟨Fa,1,none⟩=some (.int .i64 Sb):=(ja ya.out 1).trans rfl;have uT:wc.cell? ⟨Fa,2,none⟩=some (.int .i64 Nb):=(ja ya.out 2).trans rfl;have rT:wc.cell? ⟨Fa,3,none⟩=some (.int .i64 Pb):=(ja ya.out 3).trans rfl;have qT:wc.cell? ⟨Fa,4,none⟩=some (.int .i64 mc):=(ja ya.out 4).trans rfl;have Eai:wc.cell? ⟨Fa,5,none⟩=some (.int .i64 Yc):=(ja ya.out 5).trans rfl;have Dai:wc.cell? ⟨Fa,6,none⟩=some (.string Bd):=(ja ya.out 6).trans rfl;have XR:=aa ya.out 0;have WR:=aa ya.out 1;have VR:=aa ya.out 2;have UR:=aa ya.out 3;have TR:=aa ya.out 4;have jaf:=aa ya.out 5;have iaf:=aa ya.out 6;go_wp2;go_ret;exact ⟨by first|rfl|(simp [Na,Ma] <;> rfl)|(simp [*,Na,Ma] <;> rfl),by repeat (first|(with_reducible first|exact HB.out|apply oa|apply ia|apply qa|refine ua ?_ Ta.out|refine ua ?_ nc.out)|exact HB.out)⟩
          ·rw [if_neg UZ] at H;have Caa:(Pb == 0)=false:=beq_eq_false_iff_ne.mpr UZ;have Baa:(Pb != 0)=true:=bne_iff_ne.mpr UZ;obtain rfl:=Option.some.inj H;have dar:=Bb.out;have vaq:=Cb.out;have Cai:wc.cell? ⟨Fa,0,none⟩=some (.int .i64 Ec):=(ja ya.out 0).trans rfl;have Bai:wc.cell? ⟨Fa,1,none⟩=some (.int .i64 Sb):=(ja ya.out 1).trans rfl;have Aai:wc.cell? ⟨Fa,2,none⟩=some (.int .i64 Nb):=(ja ya.out 2).trans rfl;have zai:wc.cell? ⟨Fa,3,none⟩=some (.int .i64 Pb):=(ja ya.out 3).trans rfl;have yai:wc.cell? ⟨Fa,4,none⟩=some (.int .i64 mc):=(ja ya.out 4).trans rfl;have xai:wc.cell? ⟨Fa,5,none⟩=some (.int .i64 Yc):=(ja ya.out 5).trans rfl;have wai:wc.cell? ⟨Fa,6,none⟩=some (.string Bd):=(ja ya.out 6).trans rfl;have haf:=aa ya.out 0;have gaf:=aa ya.out 1;have faf:=aa ya.out 2;have eaf:=aa ya.out 3;have daf:=aa ya.out 4;have caf:=aa ya.out 5;have baf:=aa ya.out 6;go_wp2;go_ret;exact ⟨by first|rfl|(simp [Na,Ma] <;> rfl)|(simp [*,Na,Ma] <;> rfl),by repeat (first|(with_reducible first|exact HB.out|apply oa|apply ia|apply qa|refine ua ?_ Ta.out|refine ua ?_ nc.out)|exact HB.out)⟩
         ·replace c55:=Bool.eq_false_iff.mpr c55;subst c55;have H1:(some false)=some r:=by rw [if_neg (show ¬ (false=true) by decide)] at H;exact H
          clear H;have H:=H1;clear H1;obtain rfl:=Option.some.inj H;have car:=Bb.out;have uaq:=Cb.out;have vai:wc.cell? ⟨Fa,0,none⟩=some (.int .i64 Ec):=(ja ya.out 0).trans rfl;have uai:wc.cell? ⟨Fa,1,none⟩=some (.int .i64 Sb):=(ja ya.out 1).trans rfl;have tai:wc.cell? ⟨Fa,2,none⟩=some (.int .i64 Nb):=(ja ya.out 2).trans rfl;have sai:wc.cell? ⟨Fa,3,none⟩=some (.int .i64 Pb):=(ja ya.out 3).trans rfl;have rai:wc.cell? ⟨Fa,4,none⟩=some (.int .i64 mc):=(ja ya.out 4).trans rfl;have qai:wc.cell? ⟨Fa,5,none⟩=some (.int .i64 Yc):=(ja ya.out 5).trans rfl;have pai:wc.cell? ⟨Fa,6,none⟩=some (.string Bd):=(ja ya.out 6).trans rfl;have aaf:=aa ya.out 0;have Zae:=aa ya.out 1;have Yae:=aa ya.out 2;have Xae:=aa ya.out 3;have Wae:=aa ya.out 4;have Vae:=aa ya.out 5;have Uae:=aa ya.out 6;go_wp2;go_ret;exact ⟨by first|rfl|(simp [Na,Ma] <;> rfl)|(simp [*,Na,Ma] <;> rfl),by repeat (first|(with_reducible first|exact HB.out|apply oa|apply ia|apply qa|refine ua ?_ Ta.out|refine ua ?_ nc.out)|exact HB.out)⟩
        ·replace c54:=Bool.eq_false_iff.mpr c54;subst c54;have H1:(some false)=some r:=by rw [if_neg (show ¬ (false=true) by decide)] at H;exact H
         clear H;have H:=H1;clear H1;obtain rfl:=Option.some.inj H;have bar:=Bb.out;have taq:=Cb.out;have oai:wc.cell? ⟨Fa,0,none⟩=some (.int .i64 Ec):=(ja ya.out 0).trans rfl;have nai:wc.cell? ⟨Fa,1,none⟩=some (.int .i64 Sb):=(ja ya.out 1).trans rfl;have mai:wc.cell? ⟨Fa,2,none⟩=some (.int .i64 Nb):=(ja ya.out 2).trans rfl;have lai:wc.cell? ⟨Fa,3,none⟩=some (.int .i64 Pb):=(ja ya.out 3).trans rfl;have kai:wc.cell? ⟨Fa,4,none⟩=some (.int .i64 mc):=(ja ya.out 4).trans rfl;have jai:wc.cell? ⟨Fa,5,none⟩=some (.int .i64 Yc):=(ja ya.out 5).trans rfl;have iai:wc.cell? ⟨Fa,6,none⟩=some (.string Bd):=(ja ya.out 6).trans rfl;have Tae:=aa ya.out 0;have Sae:=aa ya.out 1;have Rae:=aa ya.out 2;have Qae:=aa ya.out 3;have Pae:=aa ya.out 4;have Oae:=aa ya.out 5;have Nae:=aa ya.out 6;go_wp2;go_ret;exact ⟨by first|rfl|(simp [Na,Ma] <;> rfl)|(simp [*,Na,Ma] <;> rfl),by repeat (first|(with_reducible first|exact HB.out|apply oa|apply ia|apply qa|refine ua ?_ Ta.out|refine ua ?_ nc.out)|exact HB.out)⟩
       ·rw [if_neg gN] at H;have zW:(Ec == 1)=false:=beq_eq_false_iff_ne.mpr gN;have Daa:(Ec != 1)=true:=bne_iff_ne.mpr gN
        by_cases TZ:Ec=2
        ·rw [if_pos TZ] at H;have Aaa:(Ec == 2)=true:=beq_iff_eq.mpr TZ;have zaa:(Ec != 2)=false:=bne_eq_false_iff_eq.mpr TZ;clear TZ
         by_cases c66:t103=true
         ·subst c66;have H1:(if t104=true then (if t105=true then (if Yc=0 then ((Ae.f lM (([(⟨#[61,61]⟩:ByteArray),(⟨#[60]⟩:ByteArray),(⟨#[38]⟩:ByteArray),(⟨#[43]⟩:ByteArray),(⟨#[45]⟩:ByteArray),(⟨#[42]⟩:ByteArray)]:List ByteArray)) Bd).bind fun t111=>(some t111)) else (some false)) else (some false)) else (some false))=some r:=by rw [if_pos rfl] at H;exact H
          clear H;have H:=H1;clear H1
          by_cases c67:t104=true
          ·subst c67;have H1:(if t105=true then (if Yc=0 then ((Ae.f lM (([(⟨#[61,61]⟩:ByteArray),(⟨#[60]⟩:ByteArray),(⟨#[38]⟩:ByteArray),(⟨#[43]⟩:ByteArray),(⟨#[45]⟩:ByteArray),(⟨#[42]⟩:ByteArray)]:List ByteArray)) Bd).bind fun t111=>(some t111)) else (some false)) else (some false))=some r:=by rw [if_pos rfl] at H;exact H
           clear H;have H:=H1;clear H1
           by_cases c68:t105=true
           ·subst c68;have H1:(if Yc=0 then ((Ae.f lM (([(⟨#[61,61]⟩:ByteArray),(⟨#[60]⟩:ByteArray),(⟨#[38]⟩:ByteArray),(⟨#[43]⟩:ByteArray),(⟨#[45]⟩:ByteArray),(⟨#[42]⟩:ByteArray)]:List ByteArray)) Bd).bind fun t111=>(some t111)) else (some false))=some r:=by rw [if_pos rfl] at H;exact H
            clear H;have H:=H1;clear H1
            by_cases SZ:Yc=0
            ·rw [if_pos SZ] at H;have yaa:(Yc == 0)=true:=beq_iff_eq.mpr SZ;have xaa:(Yc != 0)=false:=bne_eq_false_iff_eq.mpr SZ;clear SZ;obtain ⟨jz,Zi⟩:∃ y_:List ByteArray,y_=(([(⟨#[61,61]⟩:ByteArray),(⟨#[60]⟩:ByteArray),(⟨#[38]⟩:ByteArray),(⟨#[43]⟩:ByteArray),(⟨#[45]⟩:ByteArray),(⟨#[42]⟩:ByteArray)]:List ByteArray)):=⟨_,rfl⟩;replace H:((Ae.f lM jz Bd).bind fun t111=>(some t111))=some r:=by first|(rw [Zi];with_reducible exact H)|(have Od:=(Option.bind_some _ _).symm.trans H;rw [Zi];with_reducible exact Od)|(have Od:=(Option.bind_some _ _).symm.trans H;with_reducible exact Od)|with_reducible exact H|(rw [Zi];exact H)|exact H
             have Zt:=ga.mk Zi;clear Zi;replace H:=Option.bind_eq_some_iff.mp H;obtain ⟨t111,Mac,H⟩:=H;replace H:(some t111)=some r:=H;have aN:=ga.mk Mac;clear Mac;obtain rfl:=Option.some.inj H;have aar:=Bb.out;have saq:=Cb.out;have gai:wc.cell? ⟨Fa,0,none⟩=some (.int .i64 Ec):=(ja ya.out 0).trans rfl;have fai:wc.cell? ⟨Fa,1,none⟩=some (.int .i64 Sb):=(ja ya.out 1).trans rfl;have eai:wc.cell? ⟨Fa,2,none⟩=some (.int .i64 Nb):=(ja ya.out 2).trans rfl;have dai:wc.cell? ⟨Fa,3,none⟩=some (.int .i64 Pb):=(ja ya.out 3).trans rfl;have cai:wc.cell? ⟨Fa,4,none⟩=some (.int .i64 mc):=(ja ya.out 4).trans rfl;have bai:wc.cell? ⟨Fa,5,none⟩=some (.int .i64 Yc):=(ja ya.out 5).trans rfl;have aai:wc.cell? ⟨Fa,6,none⟩=some (.string Bd):=(ja ya.out 6).trans rfl;have Mae:=aa ya.out 0;have Lae:=aa ya.out 1;have Kae:=aa ya.out 2;have Jae:=aa ya.out 3;have Iae:=aa ya.out 4;have Hae:=aa ya.out 5;have Gae:=aa ya.out 6;go_wp2_with (first|((with_reducible refine Db (N:=109) rfl ?_);(try (refine di (by rfl) ?_;dsimp only));refine Kd.Tk Kd.string _ 9 ?hg (N:=109) ?hd (xs:=([(⟨#[61,61]⟩:ByteArray),(⟨#[60]⟩:ByteArray),(⟨#[38]⟩:ByteArray),(⟨#[43]⟩:ByteArray),(⟨#[45]⟩:ByteArray),(⟨#[42]⟩:ByteArray)]:List ByteArray)) (inner:=[.string (⟨#[61,61]⟩:ByteArray),.string (⟨#[60]⟩:ByteArray),.string (⟨#[38]⟩:ByteArray),.string (⟨#[43]⟩:ByteArray),.string (⟨#[45]⟩:ByteArray),.string (⟨#[42]⟩:ByteArray)]) (ok:=fun _=>True) (Ah:=fun _=>True) ?hr ?hp (fun _ hk=>hk) trivial (Below.refl _ _) (Nat.le_refl _) (by simp) ?_;(case hd=>rfl);(case hg=>rfl);(case hr=>first|(go_simp;done)|(go_simp;rfl));(case hp=>exact (Ld.one (show Kd.M Kd.string _ _ _ (⟨#[61,61]⟩:ByteArray) [.string (⟨#[61,61]⟩:ByteArray)] from rfl) (Ld.one (show Kd.M Kd.string _ _ _ (⟨#[60]⟩:ByteArray) [.string (⟨#[60]⟩:ByteArray)] from rfl) (Ld.one (show Kd.M Kd.string _ _ _ (⟨#[38]⟩:ByteArray) [.string (⟨#[38]⟩:ByteArray)] from rfl) (Ld.one (show Kd.M Kd.string _ _ _ (⟨#[43]⟩:ByteArray) [.string (⟨#[43]⟩:ByteArray)] from rfl) (Ld.one (show Kd.M Kd.string _ _ _ (⟨#[45]⟩:ByteArray) [.string (⟨#[45]⟩:ByteArray)] from rfl) (Ld.one (show Kd.M Kd.string _ _ _ (⟨#[42]⟩:ByteArray) [.string (⟨#[42]⟩:ByteArray)] from rfl) (Ld.none _ _))))))));intro v109 LX uO hb Um Gf;clear Um Gf;(first|rw [← Zt.out] at uO|(simp only [Int.reduceToNat] at uO;rw [← Zt.out] at uO));have Jb:=ga.mk (Kd.Fe uO (La (by repeat (first|(with_reducible first|exact HB.out|apply oa|apply ia|apply qa|refine ua ?_ Ta.out|refine ua ?_ nc.out)|exact HB.out))));have Ob:=ga.mk (Va (g:=za) (o:=.cells #[.slice yb Oa.length xb,.int .i64 Ka,.int .i64 Pa,.int .i64 Ja,.slice Rb Ga.length Ib] 45 (0,0)) (by (with_reducible repeat (first|refine Da ?_ _|refine Ea ?_|refine Ca ?_ _));exact ta.out) hb);have Vb:=ga.mk (Va (g:=Fa) (o:=.cells #[.int .i64 Ec,.int .i64 Sb,.int .i64 Nb,.int .i64 Pb,.int .i64 mc,.int .i64 Yc,.string Bd] 122 (0,0)) (by (with_reducible repeat (first|refine Da ?_ _|refine Ea ?_|refine Ca ?_ _));exact ya.out) hb);have uc:=ga.mk (Ra (by repeat (first|(with_reducible first|exact HB.out|apply oa|apply ia|apply qa|refine ua ?_ Ta.out|refine ua ?_ nc.out)|exact HB.out)) hb);clear ta ya HB;have Kq:=Jb;have ta:=Ob;have ya:=Vb;have HB:=uc;clear Jb Ob Vb uc hb uO;have Zah:LX.cell? ⟨Fa,0,none⟩=some (.int .i64 Ec):=(ja ya.out 0).trans rfl;have Yah:LX.cell? ⟨Fa,1,none⟩=some (.int .i64 Sb):=(ja ya.out 1).trans rfl;have Xah:LX.cell? ⟨Fa,2,none⟩=some (.int .i64 Nb):=(ja ya.out 2).trans rfl;have Wah:LX.cell? ⟨Fa,3,none⟩=some (.int .i64 Pb):=(ja ya.out 3).trans rfl;have Vah:LX.cell? ⟨Fa,4,none⟩=some (.int .i64 mc):=(ja ya.out 4).trans rfl;have Uah:LX.cell? ⟨Fa,5,none⟩=some (.int .i64 Yc):=(ja ya.out 5).trans rfl;have Tah:LX.cell? ⟨Fa,6,none⟩=some (.string Bd):=(ja ya.out 6).trans rfl;have Fae:=aa ya.out 0;have Eae:=aa ya.out 1;have Dae:=aa ya.out 2;have Cae:=aa ya.out 3;have Bae:=aa ya.out 4;have Aae:=aa ya.out 5;have zae:=aa ya.out 6;obtain ⟨paw,pav,Aan⟩:=Kd.xd Kq.out;subst Aan)|(go_at_call 135;(with_reducible refine (Ae.calls lM _ _ jz Bd t111 _ ?Ic ?Gc aN.out).mono ?_);(case Ic=>repeat (first|exact (Kd.Fb Kq.out).2.2|(with_reducible refine Kd.ec ?_ _)|(with_reducible refine Kd.dc ?_ _)|(with_reducible refine Kd.Dc ?_)));(case Gc=>exact (Kd.Fb Kq.out).2.1);rintro e w' ⟨rfl,⟨nd,rfl⟩⟩));go_ret;exact ⟨by first|rfl|(simp [Na,Ma] <;> rfl)|(simp [*,Na,Ma] <;> rfl),by repeat (first|(with_reducible first|exact HB.out|apply oa|apply ia|apply qa|refine ua ?_ Ta.out|refine ua ?_ nc.out)|exact HB.out)⟩
            ·rw [if_neg SZ] at H;have yaa:(Yc == 0)=false:=beq_eq_false_iff_ne.mpr SZ;have xaa:(Yc != 0)=true:=bne_iff_ne.mpr SZ;obtain rfl:=Option.some.inj H;have Zaq:=Bb.out;have raq:=Cb.out;have Sah:wc.cell? ⟨Fa,0,none⟩=some (.int .i64 Ec):=(ja ya.out 0).trans rfl;have Rah:wc.cell? ⟨Fa,1,none⟩=some (.int .i64 Sb):=(ja ya.out 1).trans rfl;have Qah:wc.cell? ⟨Fa,2,none⟩=some (.int .i64 Nb):=(ja ya.out 2).trans rfl;have Pah:wc.cell? ⟨Fa,3,none⟩=some (.int .i64 Pb):=(ja ya.out 3).trans rfl;have Oah:wc.cell? ⟨Fa,4,none⟩=some (.int .i64 mc):=(ja ya.out 4).trans rfl;have Nah:wc.cell? ⟨Fa,5,none⟩=some (.int .i64 Yc):=(ja ya.out 5).trans rfl;have Mah:wc.cell? ⟨Fa,6,none⟩=some (.string Bd):=(ja ya.out 6).trans rfl;have yae:=aa ya.out 0;have xae:=aa ya.out 1;have wae:=aa ya.out 2;have vae:=aa ya.out 3;have uae:=aa ya.out 4;have tae:=aa ya.out 5;have sae:=aa ya.out 6;go_wp2;go_ret;exact ⟨by first|rfl|(simp [Na,Ma] <;> rfl)|(simp [*,Na,Ma] <;> rfl),by repeat (first|(with_reducible first|exact HB.out|apply oa|apply ia|apply qa|refine ua ?_ Ta.out|refine ua ?_ nc.out)|exact HB.out)⟩
           ·replace c68:=Bool.eq_false_iff.mpr c68;subst c68;have H1:(some false)=some r:=by rw [if_neg (show ¬ (false=true) by decide)] at H;exact H
            clear H;have H:=H1;clear H1;obtain rfl:=Option.some.inj H;have Yaq:=Bb.out;have qaq:=Cb.out;have Lah:wc.cell? ⟨Fa,0,none⟩=some (.int .i64 Ec):=(ja ya.out 0).trans rfl;have Kah:wc.cell? ⟨Fa,1,none⟩=some (.int .i64 Sb):=(ja ya.out 1).trans rfl;have Jah:wc.cell? ⟨Fa,2,none⟩=some (.int .i64 Nb):=(ja ya.out 2).trans rfl;have Iah:wc.cell? ⟨Fa,3,none⟩=some (.int .i64 Pb):=(ja ya.out 3).trans rfl;have Hah:wc.cell? ⟨Fa,4,none⟩=some (.int .i64 mc):=(ja ya.out 4).trans rfl;have Gah:wc.cell? ⟨Fa,5,none⟩=some (.int .i64 Yc):=(ja ya.out 5).trans rfl;have Fah:wc.cell? ⟨Fa,6,none⟩=some (.string Bd):=(ja ya.out 6).trans rfl;have rae:=aa ya.out 0;have qae:=aa ya.out 1;have pae:=aa ya.out 2;have oae:=aa ya.out 3;have nae:=aa ya.out 4;have mae:=aa ya.out 5;have lae:=aa ya.out 6;go_wp2;go_ret;exact ⟨by first|rfl|(simp [Na,Ma] <;> rfl)|(simp [*,Na,Ma] <;> rfl),by repeat (first|(with_reducible first|exact HB.out|apply oa|apply ia|apply qa|refine ua ?_ Ta.out|refine ua ?_ nc.out)|exact HB.out)⟩
          ·replace c67:=Bool.eq_false_iff.mpr c67;subst c67;have H1:(some false)=some r:=by rw [if_neg (show ¬ (false=true) by decide)] at H;exact H
           clear H;have H:=H1;clear H1;obtain rfl:=Option.some.inj H;have Xaq:=Bb.out;have paq:=Cb.out;have Eah:wc.cell? ⟨Fa,0,none⟩=some (.int .i64 Ec):=(ja ya.out 0).trans rfl;have Dah:wc.cell? ⟨Fa,1,none⟩=some (.int .i64 Sb):=(ja ya.out 1).trans rfl;have Cah:wc.cell? ⟨Fa,2,none⟩=some (.int .i64 Nb):=(ja ya.out 2).trans rfl;have Bah:wc.cell? ⟨Fa,3,none⟩=some (.int .i64 Pb):=(ja ya.out 3).trans rfl;have Aah:wc.cell? ⟨Fa,4,none⟩=some (.int .i64 mc):=(ja ya.out 4).trans rfl;have zah:wc.cell? ⟨Fa,5,none⟩=some (.int .i64 Yc):=(ja ya.out 5).trans rfl;have yah:wc.cell? ⟨Fa,6,none⟩=some (.string Bd):=(ja ya.out 6).trans rfl;have kae:=aa ya.out 0;have jae:=aa ya.out 1;have iae:=aa ya.out 2;have hae:=aa ya.out 3;have gae:=aa ya.out 4;have fae:=aa ya.out 5;have eae:=aa ya.out 6;go_wp2;go_ret;exact ⟨by first|rfl|(simp [Na,Ma] <;> rfl)|(simp [*,Na,Ma] <;> rfl),by repeat (first|(with_reducible first|exact HB.out|apply oa|apply ia|apply qa|refine ua ?_ Ta.out|refine ua ?_ nc.out)|exact HB.out)⟩
         ·replace c66:=Bool.eq_false_iff.mpr c66;subst c66;have H1:(some false)=some r:=by rw [if_neg (show ¬ (false=true) by decide)] at H;exact H
          clear H;have H:=H1;clear H1;obtain rfl:=Option.some.inj H;have Waq:=Bb.out;have oaq:=Cb.out;have xah:wc.cell? ⟨Fa,0,none⟩=some (.int .i64 Ec):=(ja ya.out 0).trans rfl;have wah:wc.cell? ⟨Fa,1,none⟩=some (.int .i64 Sb):=(ja ya.out 1).trans rfl;have vah:wc.cell? ⟨Fa,2,none⟩=some (.int .i64 Nb):=(ja ya.out 2).trans rfl;have uah:wc.cell? ⟨Fa,3,none⟩=some (.int .i64 Pb):=(ja ya.out 3).trans rfl;have tah:wc.cell? ⟨Fa,4,none⟩=some (.int .i64 mc):=(ja ya.out 4).trans rfl;have sah:wc.cell? ⟨Fa,5,none⟩=some (.int .i64 Yc):=(ja ya.out 5).trans rfl;have rah:wc.cell? ⟨Fa,6,none⟩=some (.string Bd):=(ja ya.out 6).trans rfl;have dae:=aa ya.out 0;have cae:=aa ya.out 1;have bae:=aa ya.out 2;have aae:=aa ya.out 3;have Zad:=aa ya.out 4;have Yad:=aa ya.out 5;have Xad:=aa ya.out 6;go_wp2;go_ret;exact ⟨by first|rfl|(simp [Na,Ma] <;> rfl)|(simp [*,Na,Ma] <;> rfl),by repeat (first|(with_reducible first|exact HB.out|apply oa|apply ia|apply qa|refine ua ?_ Ta.out|refine ua ?_ nc.out)|exact HB.out)⟩
        ·rw [if_neg TZ] at H;have Aaa:(Ec == 2)=false:=beq_eq_false_iff_ne.mpr TZ;have zaa:(Ec != 2)=true:=bne_iff_ne.mpr TZ
         by_cases RZ:Ec=3
         ·rw [if_pos RZ] at H;have waa:(Ec == 3)=true:=beq_iff_eq.mpr RZ;have vaa:(Ec != 3)=false:=bne_eq_false_iff_eq.mpr RZ;clear RZ
          by_cases c86:t103=true
          ·subst c86;have H1:(some VE)=some r:=by rw [if_pos rfl] at H;exact H
           clear H;have H:=H1;clear H1;obtain rfl:=Option.some.inj H;have Vaq:=Bb.out;have naq:=Cb.out;have qah:wc.cell? ⟨Fa,0,none⟩=some (.int .i64 Ec):=(ja ya.out 0).trans rfl;have pah:wc.cell? ⟨Fa,1,none⟩=some (.int .i64 Sb):=(ja ya.out 1).trans rfl;have oah:wc.cell? ⟨Fa,2,none⟩=some (.int .i64 Nb):=(ja ya.out 2).trans rfl;have nah:wc.cell? ⟨Fa,3,none⟩=some (.int .i64 Pb):=(ja ya.out 3).trans rfl;have mah:wc.cell? ⟨Fa,4,none⟩=some (.int .i64 mc):=(ja ya.out 4).trans rfl;have lah:wc.cell? ⟨Fa,5,none⟩=some (.int .i64 Yc):=(ja ya.out 5).trans rfl;have kah:wc.cell? ⟨Fa,6,none⟩=some (.string Bd):=(ja ya.out 6).trans rfl;have Wad:=aa ya.out 0;have Vad:=aa ya.out 1;have Uad:=aa ya.out 2;have Tad:=aa ya.out 3;have Sad:=aa ya.out 4;have Rad:=aa ya.out 5;have Qad:=aa ya.out 6;go_wp2;go_ret;exact ⟨by first|rfl|(simp [Na,Ma] <;> rfl)|(simp [*,Na,Ma] <;> rfl),by repeat (first|(with_reducible first|exact HB.out|apply oa|apply ia|apply qa|refine ua ?_ Ta.out|refine ua ?_ nc.out)|exact HB.out)⟩
          ·replace c86:=Bool.eq_false_iff.mpr c86;subst c86;have H1:(some false)=some r:=by rw [if_neg (show ¬ (false=true) by decide)] at H;exact H
           clear H;have H:=H1;clear H1;obtain rfl:=Option.some.inj H;have Uaq:=Bb.out;have maq:=Cb.out;have jah:wc.cell? ⟨Fa,0,none⟩=some (.int .i64 Ec):=(ja ya.out 0).trans rfl;have iah:wc.cell? ⟨Fa,1,none⟩=some (.int .i64 Sb):=(ja ya.out 1).trans rfl;have hah:wc.cell? ⟨Fa,2,none⟩=some (.int .i64 Nb):=(ja ya.out 2).trans rfl;have gah:wc.cell? ⟨Fa,3,none⟩=some (.int .i64 Pb):=(ja ya.out 3).trans rfl;have fah:wc.cell? ⟨Fa,4,none⟩=some (.int .i64 mc):=(ja ya.out 4).trans rfl;have eah:wc.cell? ⟨Fa,5,none⟩=some (.int .i64 Yc):=(ja ya.out 5).trans rfl;have dah:wc.cell? ⟨Fa,6,none⟩=some (.string Bd):=(ja ya.out 6).trans rfl;have Pad:=aa ya.out 0;have Oad:=aa ya.out 1;have Nad:=aa ya.out 2;have Mad:=aa ya.out 3;have Lad:=aa ya.out 4;have Kad:=aa ya.out 5;have Jad:=aa ya.out 6;go_wp2;go_ret;exact ⟨by first|rfl|(simp [Na,Ma] <;> rfl)|(simp [*,Na,Ma] <;> rfl),by repeat (first|(with_reducible first|exact HB.out|apply oa|apply ia|apply qa|refine ua ?_ Ta.out|refine ua ?_ nc.out)|exact HB.out)⟩
         ·rw [if_neg RZ] at H;have waa:(Ec == 3)=false:=beq_eq_false_iff_ne.mpr RZ;have vaa:(Ec != 3)=true:=bne_iff_ne.mpr RZ
          by_cases QZ:Ec=4
          ·rw [if_pos QZ] at H;have uaa:(Ec == 4)=true:=beq_iff_eq.mpr QZ;have taa:(Ec != 4)=false:=bne_eq_false_iff_eq.mpr QZ;clear QZ
           by_cases PZ:Sb=0
           ·rw [if_pos PZ] at H;have saa:(Sb == 0)=true:=beq_iff_eq.mpr PZ;have raa:(Sb != 0)=false:=bne_eq_false_iff_eq.mpr PZ;clear PZ
            by_cases c93:VE=true
            ·subst c93;have H1:((Za.f mc 0 (wrap64 (Ja - 1))).bind fun t112=>(some t112))=some r:=by rw [if_pos rfl] at H;exact H
             clear H;have H:=H1;clear H1;replace H:=Option.bind_eq_some_iff.mp H;obtain ⟨t112,Lac,H⟩:=H;replace H:(some t112)=some r:=H;have A94:=ga.mk Lac;clear Lac;obtain rfl:=Option.some.inj H;have Taq:=Bb.out;have laq:=Cb.out;have cah:wc.cell? ⟨Fa,0,none⟩=some (.int .i64 Ec):=(ja ya.out 0).trans rfl;have bah:wc.cell? ⟨Fa,1,none⟩=some (.int .i64 Sb):=(ja ya.out 1).trans rfl;have aah:wc.cell? ⟨Fa,2,none⟩=some (.int .i64 Nb):=(ja ya.out 2).trans rfl;have Zag:wc.cell? ⟨Fa,3,none⟩=some (.int .i64 Pb):=(ja ya.out 3).trans rfl;have Yag:wc.cell? ⟨Fa,4,none⟩=some (.int .i64 mc):=(ja ya.out 4).trans rfl;have Xag:wc.cell? ⟨Fa,5,none⟩=some (.int .i64 Yc):=(ja ya.out 5).trans rfl;have Wag:wc.cell? ⟨Fa,6,none⟩=some (.string Bd):=(ja ya.out 6).trans rfl;have Iad:=aa ya.out 0;have Had:=aa ya.out 1;have Gad:=aa ya.out 2;have Fad:=aa ya.out 3;have Ead:=aa ya.out 4;have Dad:=aa ya.out 5;have Cad:=aa ya.out 6;have Vag:wc.cell? ⟨za,0,none⟩=some (.slice yb Oa.length xb):=(ja ta.out 0).trans rfl;have Uag:wc.cell? ⟨za,1,none⟩=some (.int .i64 Ka):=(ja ta.out 1).trans rfl;have Sag:wc.cell? ⟨za,2,none⟩=some (.int .i64 Pa):=(ja ta.out 2).trans rfl;have Rag:wc.cell? ⟨za,3,none⟩=some (.int .i64 Ja):=(ja ta.out 3).trans rfl;have Qag:wc.cell? ⟨za,4,none⟩=some (.slice Rb Ga.length Ib):=(ja ta.out 4).trans rfl;have Bad:=aa ta.out 0;have Aad:=aa ta.out 1;have zad:=aa ta.out 2;have yad:=aa ta.out 3;have xad:=aa ta.out 4;go_wp2_with (first|(go_at_call 81;(with_reducible refine (Za.calls mc 0 (wrap64 (Ja - 1)) t112 _ A94.out).mono ?_);rintro e w' ⟨rfl,⟨nd,rfl⟩⟩));go_ret;exact ⟨by first|rfl|(simp [Na,Ma] <;> rfl)|(simp [*,Na,Ma] <;> rfl),by repeat (first|(with_reducible first|exact HB.out|apply oa|apply ia|apply qa|refine ua ?_ Ta.out|refine ua ?_ nc.out)|exact HB.out)⟩
            ·replace c93:=Bool.eq_false_iff.mpr c93;subst c93;have H1:(some false)=some r:=by rw [if_neg (show ¬ (false=true) by decide)] at H;exact H
             clear H;have H:=H1;clear H1;obtain rfl:=Option.some.inj H;have Saq:=Bb.out;have kaq:=Cb.out;have Pag:wc.cell? ⟨Fa,0,none⟩=some (.int .i64 Ec):=(ja ya.out 0).trans rfl;have Oag:wc.cell? ⟨Fa,1,none⟩=some (.int .i64 Sb):=(ja ya.out 1).trans rfl;have Nag:wc.cell? ⟨Fa,2,none⟩=some (.int .i64 Nb):=(ja ya.out 2).trans rfl;have Mag:wc.cell? ⟨Fa,3,none⟩=some (.int .i64 Pb):=(ja ya.out 3).trans rfl;have Lag:wc.cell? ⟨Fa,4,none⟩=some (.int .i64 mc):=(ja ya.out 4).trans rfl;have Kag:wc.cell? ⟨Fa,5,none⟩=some (.int .i64 Yc):=(ja ya.out 5).trans rfl;have Jag:wc.cell? ⟨Fa,6,none⟩=some (.string Bd):=(ja ya.out 6).trans rfl;have wad:=aa ya.out 0;have vad:=aa ya.out 1;have uad:=aa ya.out 2;have tad:=aa ya.out 3;have sad:=aa ya.out 4;have rad:=aa ya.out 5;have qad:=aa ya.out 6;go_wp2;go_ret;exact ⟨by first|rfl|(simp [Na,Ma] <;> rfl)|(simp [*,Na,Ma] <;> rfl),by repeat (first|(with_reducible first|exact HB.out|apply oa|apply ia|apply qa|refine ua ?_ Ta.out|refine ua ?_ nc.out)|exact HB.out)⟩
           ·rw [if_neg PZ] at H;have saa:(Sb == 0)=false:=beq_eq_false_iff_ne.mpr PZ;have raa:(Sb != 0)=true:=bne_iff_ne.mpr PZ;obtain rfl:=Option.some.inj H;have xam:=Bb.out;have iam:=Cb.out;have I_:wc.cell? ⟨Fa,0,none⟩=some (.int .i64 Ec):=(ja ya.out 0).trans rfl;have H_:wc.cell? ⟨Fa,1,none⟩=some (.int .i64 Sb):=(ja ya.out 1).trans rfl;have G_:wc.cell? ⟨Fa,2,none⟩=some (.int .i64 Nb):=(ja ya.out 2).trans rfl;have F_:wc.cell? ⟨Fa,3,none⟩=some (.int .i64 Pb):=(ja ya.out 3).trans rfl;have E_:wc.cell? ⟨Fa,4,none⟩=some (.int .i64 mc):=(ja ya.out 4).trans rfl;have D_:wc.cell? ⟨Fa,5,none⟩=some (.int .i64 Yc):=(ja ya.out 5).trans rfl;have C_:wc.cell? ⟨Fa,6,none⟩=some (.string Bd):=(ja ya.out 6).trans rfl;have I8:=aa ya.out 0;have H8:=aa ya.out 1;have G8:=aa ya.out 2;have F8:=aa ya.out 3;have E8:=aa ya.out 4;have D8:=aa ya.out 5;have C8:=aa ya.out 6;go_wp2;go_ret;exact ⟨by first|rfl|(simp [Na,Ma] <;> rfl)|(simp [*,Na,Ma] <;> rfl),by repeat (first|(with_reducible first|exact HB.out|apply oa|apply ia|apply qa|refine ua ?_ Ta.out|refine ua ?_ nc.out)|exact HB.out)⟩
          ·rw [if_neg QZ] at H;have uaa:(Ec == 4)=false:=beq_eq_false_iff_ne.mpr QZ;have taa:(Ec != 4)=true:=bne_iff_ne.mpr QZ
           by_cases PI:Ec=5
           ·rw [if_pos PI] at H;have Q0:(Ec == 5)=true:=beq_iff_eq.mpr PI;have P0:(Ec != 5)=false:=bne_eq_false_iff_eq.mpr PI;clear PI
            by_cases aV:t103=true
            ·subst aV;have H1:(if Nb=0 then (if Pb=0 then (some (Yc == 0)) else (some false)) else (some false))=some r:=by rw [if_pos rfl] at H;exact H
             clear H;have H:=H1;clear H1
             by_cases OI:Nb=0
             ·rw [if_pos OI] at H;have M0:(Nb == 0)=true:=beq_iff_eq.mpr OI;have L0:(Nb != 0)=false:=bne_eq_false_iff_eq.mpr OI;clear OI
              by_cases NI:Pb=0
              ·rw [if_pos NI] at H;have K0:(Pb == 0)=true:=beq_iff_eq.mpr NI;have I0:(Pb != 0)=false:=bne_eq_false_iff_eq.mpr NI;clear NI;obtain rfl:=Option.some.inj H;have wam:=Bb.out;have ham:=Cb.out;have B_:wc.cell? ⟨Fa,0,none⟩=some (.int .i64 Ec):=(ja ya.out 0).trans rfl;have A_:wc.cell? ⟨Fa,1,none⟩=some (.int .i64 Sb):=(ja ya.out 1).trans rfl;have z_:wc.cell? ⟨Fa,2,none⟩=some (.int .i64 Nb):=(ja ya.out 2).trans rfl;have x_:wc.cell? ⟨Fa,3,none⟩=some (.int .i64 Pb):=(ja ya.out 3).trans rfl;have w_:wc.cell? ⟨Fa,4,none⟩=some (.int .i64 mc):=(ja ya.out 4).trans rfl;have v_:wc.cell? ⟨Fa,5,none⟩=some (.int .i64 Yc):=(ja ya.out 5).trans rfl;have u_:wc.cell? ⟨Fa,6,none⟩=some (.string Bd):=(ja ya.out 6).trans rfl;have y8:=aa ya.out 0;have r8:=aa ya.out 1;have o8:=aa ya.out 2;have n8:=aa ya.out 3;have l8:=aa ya.out 4;have k8:=aa ya.out 5;have j8:=aa ya.out 6;go_wp2;go_ret;exact ⟨by first|rfl|(simp [Na,Ma] <;> rfl)|(simp [*,Na,Ma] <;> rfl),by repeat (first|(with_reducible first|exact HB.out|apply oa|apply ia|apply qa|refine ua ?_ Ta.out|refine ua ?_ nc.out)|exact HB.out)⟩
              ·rw [if_neg NI] at H;have K0:(Pb == 0)=false:=beq_eq_false_iff_ne.mpr NI;have I0:(Pb != 0)=true:=bne_iff_ne.mpr NI;obtain rfl:=Option.some.inj H;have vam:=Bb.out;have gam:=Cb.out;have t_:wc.cell? ⟨Fa,0,none⟩=some (.int .i64 Ec):=(ja ya.out 0).trans rfl;have r_:wc.cell? ⟨Fa,1,none⟩=some (.int .i64 Sb):=(ja ya.out 1).trans rfl;have q_:wc.cell? ⟨Fa,2,none⟩=some (.int .i64 Nb):=(ja ya.out 2).trans rfl;have p_:wc.cell? ⟨Fa,3,none⟩=some (.int .i64 Pb):=(ja ya.out 3).trans rfl;have o_:wc.cell? ⟨Fa,4,none⟩=some (.int .i64 mc):=(ja ya.out 4).trans rfl;have l_:wc.cell? ⟨Fa,5,none⟩=some (.int .i64 Yc):=(ja ya.out 5).trans rfl;have i_:wc.cell? ⟨Fa,6,none⟩=some (.string Bd):=(ja ya.out 6).trans rfl;have e8:=aa ya.out 0;have Z7:=aa ya.out 1;have Y7:=aa ya.out 2;have X7:=aa ya.out 3;have W7:=aa ya.out 4;have V7:=aa ya.out 5;have U7:=aa ya.out 6;go_wp2;go_ret;exact ⟨by first|rfl|(simp [Na,Ma] <;> rfl)|(simp [*,Na,Ma] <;> rfl),by repeat (first|(with_reducible first|exact HB.out|apply oa|apply ia|apply qa|refine ua ?_ Ta.out|refine ua ?_ nc.out)|exact HB.out)⟩
             ·rw [if_neg OI] at H;have M0:(Nb == 0)=false:=beq_eq_false_iff_ne.mpr OI;have L0:(Nb != 0)=true:=bne_iff_ne.mpr OI;obtain rfl:=Option.some.inj H;have uam:=Bb.out;have fam:=Cb.out;have g_:wc.cell? ⟨Fa,0,none⟩=some (.int .i64 Ec):=(ja ya.out 0).trans rfl;have f_:wc.cell? ⟨Fa,1,none⟩=some (.int .i64 Sb):=(ja ya.out 1).trans rfl;have d_:wc.cell? ⟨Fa,2,none⟩=some (.int .i64 Nb):=(ja ya.out 2).trans rfl;have Z9:wc.cell? ⟨Fa,3,none⟩=some (.int .i64 Pb):=(ja ya.out 3).trans rfl;have Y9:wc.cell? ⟨Fa,4,none⟩=some (.int .i64 mc):=(ja ya.out 4).trans rfl;have X9:wc.cell? ⟨Fa,5,none⟩=some (.int .i64 Yc):=(ja ya.out 5).trans rfl;have W9:wc.cell? ⟨Fa,6,none⟩=some (.string Bd):=(ja ya.out 6).trans rfl;have T7:=aa ya.out 0;have R7:=aa ya.out 1;have Q7:=aa ya.out 2;have P7:=aa ya.out 3;have O7:=aa ya.out 4;have N7:=aa ya.out 5;have M7:=aa ya.out 6;go_wp2;go_ret;exact ⟨by first|rfl|(simp [Na,Ma] <;> rfl)|(simp [*,Na,Ma] <;> rfl),by repeat (first|(with_reducible first|exact HB.out|apply oa|apply ia|apply qa|refine ua ?_ Ta.out|refine ua ?_ nc.out)|exact HB.out)⟩
            ·replace aV:=Bool.eq_false_iff.mpr aV;subst aV;have H1:(some false)=some r:=by rw [if_neg (show ¬ (false=true) by decide)] at H;exact H
             clear H;have H:=H1;clear H1;obtain rfl:=Option.some.inj H;have tam:=Bb.out;have eam:=Cb.out;have V9:wc.cell? ⟨Fa,0,none⟩=some (.int .i64 Ec):=(ja ya.out 0).trans rfl;have U9:wc.cell? ⟨Fa,1,none⟩=some (.int .i64 Sb):=(ja ya.out 1).trans rfl;have T9:wc.cell? ⟨Fa,2,none⟩=some (.int .i64 Nb):=(ja ya.out 2).trans rfl;have S9:wc.cell? ⟨Fa,3,none⟩=some (.int .i64 Pb):=(ja ya.out 3).trans rfl;have R9:wc.cell? ⟨Fa,4,none⟩=some (.int .i64 mc):=(ja ya.out 4).trans rfl;have Q9:wc.cell? ⟨Fa,5,none⟩=some (.int .i64 Yc):=(ja ya.out 5).trans rfl;have P9:wc.cell? ⟨Fa,6,none⟩=some (.string Bd):=(ja ya.out 6).trans rfl;have L7:=aa ya.out 0;have K7:=aa ya.out 1;have J7:=aa ya.out 2;have I7:=aa ya.out 3;have H7:=aa ya.out 4;have G7:=aa ya.out 5;have F7:=aa ya.out 6;go_wp2;go_ret;exact ⟨by first|rfl|(simp [Na,Ma] <;> rfl)|(simp [*,Na,Ma] <;> rfl),by repeat (first|(with_reducible first|exact HB.out|apply oa|apply ia|apply qa|refine ua ?_ Ta.out|refine ua ?_ nc.out)|exact HB.out)⟩
           ·rw [if_neg PI] at H;have Q0:(Ec == 5)=false:=beq_eq_false_iff_ne.mpr PI;have P0:(Ec != 5)=true:=bne_iff_ne.mpr PI
            by_cases MI:Ec=6
            ·rw [if_pos MI] at H;have G0:(Ec == 6)=true:=beq_iff_eq.mpr MI;have C0:(Ec != 6)=false:=bne_eq_false_iff_eq.mpr MI;clear MI
             by_cases LI:Sb=0
             ·rw [if_pos LI] at H;have u0:(Sb == 0)=true:=beq_iff_eq.mpr LI;have ZZ:(Sb != 0)=false:=bne_eq_false_iff_eq.mpr LI;clear LI
              by_cases ZU:t104=true
              ·subst ZU;have H1:(if Pb=0 then (some (Yc == 0)) else (some false))=some r:=by rw [if_pos rfl] at H;exact H
               clear H;have H:=H1;clear H1
               by_cases KI:Pb=0
               ·rw [if_pos KI] at H;have YZ:(Pb == 0)=true:=beq_iff_eq.mpr KI;have XZ:(Pb != 0)=false:=bne_eq_false_iff_eq.mpr KI;clear KI;obtain rfl:=Option.some.inj H;have sam:=Bb.out;have dam:=Cb.out;have O9:wc.cell? ⟨Fa,0,none⟩=some (.int .i64 Ec):=(ja ya.out 0).trans rfl;have N9:wc.cell? ⟨Fa,1,none⟩=some (.int .i64 Sb):=(ja ya.out 1).trans rfl;have M9:wc.cell? ⟨Fa,2,none⟩=some (.int .i64 Nb):=(ja ya.out 2).trans rfl;have L9:wc.cell? ⟨Fa,3,none⟩=some (.int .i64 Pb):=(ja ya.out 3).trans rfl;have K9:wc.cell? ⟨Fa,4,none⟩=some (.int .i64 mc):=(ja ya.out 4).trans rfl;have J9:wc.cell? ⟨Fa,5,none⟩=some (.int .i64 Yc):=(ja ya.out 5).trans rfl;have I9:wc.cell? ⟨Fa,6,none⟩=some (.string Bd):=(ja ya.out 6).trans rfl;have E7:=aa ya.out 0;have D7:=aa ya.out 1;have C7:=aa ya.out 2;have B7:=aa ya.out 3;have y7:=aa ya.out 4;have o7:=aa ya.out 5;have n7:=aa ya.out 6;go_wp2;go_ret;exact ⟨by first|rfl|(simp [Na,Ma] <;> rfl)|(simp [*,Na,Ma] <;> rfl),by repeat (first|(with_reducible first|exact HB.out|apply oa|apply ia|apply qa|refine ua ?_ Ta.out|refine ua ?_ nc.out)|exact HB.out)⟩
               ·rw [if_neg KI] at H;have YZ:(Pb == 0)=false:=beq_eq_false_iff_ne.mpr KI;have XZ:(Pb != 0)=true:=bne_iff_ne.mpr KI;obtain rfl:=Option.some.inj H;have ram:=Bb.out;have cam:=Cb.out;have H9:wc.cell? ⟨Fa,0,none⟩=some (.int .i64 Ec):=(ja ya.out 0).trans rfl;have G9:wc.cell? ⟨Fa,1,none⟩=some (.int .i64 Sb):=(ja ya.out 1).trans rfl;have F9:wc.cell? ⟨Fa,2,none⟩=some (.int .i64 Nb):=(ja ya.out 2).trans rfl;have E9:wc.cell? ⟨Fa,3,none⟩=some (.int .i64 Pb):=(ja ya.out 3).trans rfl;have D9:wc.cell? ⟨Fa,4,none⟩=some (.int .i64 mc):=(ja ya.out 4).trans rfl;have C9:wc.cell? ⟨Fa,5,none⟩=some (.int .i64 Yc):=(ja ya.out 5).trans rfl;have B9:wc.cell? ⟨Fa,6,none⟩=some (.string Bd):=(ja ya.out 6).trans rfl;have l7:=aa ya.out 0;have k7:=aa ya.out 1;have j7:=aa ya.out 2;have e7:=aa ya.out 3;have Z6:=aa ya.out 4;have Y6:=aa ya.out 5;have X6:=aa ya.out 6;go_wp2;go_ret;exact ⟨by first|rfl|(simp [Na,Ma] <;> rfl)|(simp [*,Na,Ma] <;> rfl),by repeat (first|(with_reducible first|exact HB.out|apply oa|apply ia|apply qa|refine ua ?_ Ta.out|refine ua ?_ nc.out)|exact HB.out)⟩
              ·replace ZU:=Bool.eq_false_iff.mpr ZU;subst ZU;have H1:(some false)=some r:=by rw [if_neg (show ¬ (false=true) by decide)] at H;exact H
               clear H;have H:=H1;clear H1;obtain rfl:=Option.some.inj H;have qam:=Bb.out;have bam:=Cb.out;have A9:wc.cell? ⟨Fa,0,none⟩=some (.int .i64 Ec):=(ja ya.out 0).trans rfl;have y9:wc.cell? ⟨Fa,1,none⟩=some (.int .i64 Sb):=(ja ya.out 1).trans rfl;have u9:wc.cell? ⟨Fa,2,none⟩=some (.int .i64 Nb):=(ja ya.out 2).trans rfl;have r9:wc.cell? ⟨Fa,3,none⟩=some (.int .i64 Pb):=(ja ya.out 3).trans rfl;have o9:wc.cell? ⟨Fa,4,none⟩=some (.int .i64 mc):=(ja ya.out 4).trans rfl;have n9:wc.cell? ⟨Fa,5,none⟩=some (.int .i64 Yc):=(ja ya.out 5).trans rfl;have l9:wc.cell? ⟨Fa,6,none⟩=some (.string Bd):=(ja ya.out 6).trans rfl;have W6:=aa ya.out 0;have V6:=aa ya.out 1;have U6:=aa ya.out 2;have S6:=aa ya.out 3;have R6:=aa ya.out 4;have Q6:=aa ya.out 5;have P6:=aa ya.out 6;go_wp2;go_ret;exact ⟨by first|rfl|(simp [Na,Ma] <;> rfl)|(simp [*,Na,Ma] <;> rfl),by repeat (first|(with_reducible first|exact HB.out|apply oa|apply ia|apply qa|refine ua ?_ Ta.out|refine ua ?_ nc.out)|exact HB.out)⟩
             ·rw [if_neg LI] at H;have u0:(Sb == 0)=false:=beq_eq_false_iff_ne.mpr LI;have ZZ:(Sb != 0)=true:=bne_iff_ne.mpr LI;obtain rfl:=Option.some.inj H;have pam:=Bb.out;have aam:=Cb.out;have k9:wc.cell? ⟨Fa,0,none⟩=some (.int .i64 Ec):=(ja ya.out 0).trans rfl;have j9:wc.cell? ⟨Fa,1,none⟩=some (.int .i64 Sb):=(ja ya.out 1).trans rfl;have e9:wc.cell? ⟨Fa,2,none⟩=some (.int .i64 Nb):=(ja ya.out 2).trans rfl;have Z8:wc.cell? ⟨Fa,3,none⟩=some (.int .i64 Pb):=(ja ya.out 3).trans rfl;have Y8:wc.cell? ⟨Fa,4,none⟩=some (.int .i64 mc):=(ja ya.out 4).trans rfl;have X8:wc.cell? ⟨Fa,5,none⟩=some (.int .i64 Yc):=(ja ya.out 5).trans rfl;have W8:wc.cell? ⟨Fa,6,none⟩=some (.string Bd):=(ja ya.out 6).trans rfl;have O6:=aa ya.out 0;have N6:=aa ya.out 1;have M6:=aa ya.out 2;have L6:=aa ya.out 3;have K6:=aa ya.out 4;have J6:=aa ya.out 5;have I6:=aa ya.out 6;go_wp2;go_ret;exact ⟨by first|rfl|(simp [Na,Ma] <;> rfl)|(simp [*,Na,Ma] <;> rfl),by repeat (first|(with_reducible first|exact HB.out|apply oa|apply ia|apply qa|refine ua ?_ Ta.out|refine ua ?_ nc.out)|exact HB.out)⟩
            ·rw [if_neg MI] at H;have G0:(Ec == 6)=false:=beq_eq_false_iff_ne.mpr MI;have C0:(Ec != 6)=true:=bne_iff_ne.mpr MI;obtain rfl:=Option.some.inj H;have oam:=Bb.out;have Zal:=Cb.out;have V8:wc.cell? ⟨Fa,0,none⟩=some (.int .i64 Ec):=(ja ya.out 0).trans rfl;have U8:wc.cell? ⟨Fa,1,none⟩=some (.int .i64 Sb):=(ja ya.out 1).trans rfl;have R8:wc.cell? ⟨Fa,2,none⟩=some (.int .i64 Nb):=(ja ya.out 2).trans rfl;have Q8:wc.cell? ⟨Fa,3,none⟩=some (.int .i64 Pb):=(ja ya.out 3).trans rfl;have P8:wc.cell? ⟨Fa,4,none⟩=some (.int .i64 mc):=(ja ya.out 4).trans rfl;have O8:wc.cell? ⟨Fa,5,none⟩=some (.int .i64 Yc):=(ja ya.out 5).trans rfl;have N8:wc.cell? ⟨Fa,6,none⟩=some (.string Bd):=(ja ya.out 6).trans rfl;have H6:=aa ya.out 0;have G6:=aa ya.out 1;have F6:=aa ya.out 2;have E6:=aa ya.out 3;have D6:=aa ya.out 4;have C6:=aa ya.out 5;have u6:=aa ya.out 6;go_wp2;go_ret;exact ⟨by first|rfl|(simp [Na,Ma] <;> rfl)|(simp [*,Na,Ma] <;> rfl),by repeat (first|(with_reducible first|exact HB.out|apply oa|apply ia|apply qa|refine ua ?_ Ta.out|refine ua ?_ nc.out)|exact HB.out)⟩
end Go.Proofs.Ytoomcmaifgkkfaa.P
