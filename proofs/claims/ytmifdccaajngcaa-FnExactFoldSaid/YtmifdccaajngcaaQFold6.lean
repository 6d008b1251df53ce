import Derived.Test.YtmifdccaajngcaaQFold1
import Derived.Test.YtmifdccaajngcaaQFold5
set_option maxHeartbeats 8000000
set_option maxRecDepth 100000
namespace Go.Proofs.Ytmifdccaajngcaa.P
open Go.RowKit Go.Proofs.Ka.Rb Go.Proofs.Ka.Vd Go.Proofs.Ka.ef
attribute [local go_sem] Ph Nh Oi Ni gh fh Oh Mh
set_option linter.unusedVariables false
set_option linter.unusedSimpArgs false
mutual
def mb.j0:Nat→Bool→Bool→Bool→Bool→List Int→Int→Int→Int→List (lf)→Int→Int→Int→Int→Int→Int→ByteArray→Option (Bool)
 | 0,_,_,_,_,_,_,_,_,_,_,_,_,_,_,_,_=>none
 | k + 1,x5,x6,x7,x8,we,ud,Dd,Xd,yd,yg,Lj,xk,cj,aj,Xl,Tn=>if yg=2 then (if yg=4 then (mb.j1 k x5 x6 x7 x8 false we ud Dd Xd yd yg Lj xk cj aj Xl Tn) else (mb.j1 k x5 x6 x7 x8 (aj != 0) we ud Dd Xd yd yg Lj xk cj aj Xl Tn)) else (if Tn.toList=([]:List UInt8) then (if yg=4 then (mb.j1 k x5 x6 x7 x8 false we ud Dd Xd yd yg Lj xk cj aj Xl Tn) else (mb.j1 k x5 x6 x7 x8 (aj != 0) we ud Dd Xd yd yg Lj xk cj aj Xl Tn)) else (mb.j1 k x5 x6 x7 x8 true we ud Dd Xd yd yg Lj xk cj aj Xl Tn))
def mb.j1:Nat→Bool→Bool→Bool→Bool→Bool→List Int→Int→Int→Int→List (lf)→Int→Int→Int→Int→Int→Int→ByteArray→Option (Bool)
 | 0,_,_,_,_,_,_,_,_,_,_,_,_,_,_,_,_,_=>none
 | k + 1,x5,x6,x7,x8,x62,we,ud,Dd,Xd,yd,yg,Lj,xk,cj,aj,Xl,Tn=>if x62=true then (some false) else (if yg=0 then (if x5=true then (if xk=0 then (some (cj == 0)) else (some false)) else (some false)) else (if yg=1 then (if x5=true then (if x6=true then (if cj=0 then (some (Xl == 0)) else (some false)) else (some false)) else (some false)) else (if yg=2 then (if x5=true then (if x6=true then (if x7=true then (if Xl=0 then ((jf.f k (([(⟨#[61,61]⟩:ByteArray),(⟨#[60]⟩:ByteArray),(⟨#[38]⟩:ByteArray),(⟨#[43]⟩:ByteArray),(⟨#[45]⟩:ByteArray),(⟨#[42]⟩:ByteArray)]:List ByteArray)) Tn).bind fun t111=>(some t111)) else (some false)) else (some false)) else (some false)) else (some false)) else (if yg=3 then (if x5=true then (some x8) else (some false)) else (if yg=4 then (if Lj=0 then (if x8=true then ((Za.f aj 0 (wrap64 (Xd - 1))).bind fun t112=>(some t112)) else (some false)) else (some false)) else (if yg=5 then (if x5=true then (if xk=0 then (if cj=0 then (some (Xl == 0)) else (some false)) else (some false)) else (some false)) else (if yg=6 then (if Lj=0 then (if x6=true then (if cj=0 then (some (Xl == 0)) else (some false)) else (some false)) else (some false)) else (some false))))))))
end
def mb.f (k:Nat) (Ua:List Int) (Ja:Int) (La:Int) (Pa:Int) (Qa:List (lf)) (Uc:Int) (Wb:Int) (Ob:Int) (Qb:Int) (Bc:Int) (Ad:Int) (Rd:ByteArray):Option (Bool):=(Za.f Wb 0 (wrap64 (Pa - 1))).bind fun t103=>((Za.f Ob 0 (wrap64 (Pa - 1))).bind fun t104=>((Za.f Qb 0 (wrap64 (Pa - 1))).bind fun t105=>(if t104=true then (if t105=true then ((Za.f Ad 0 (wrap64 ((Ua.length:Int) - 1))).bind fun t106=>(mb.j0 k t103 t104 t105 t106 Ua Ja La Pa Qa Uc Wb Ob Qb Bc Ad Rd)) else (mb.j0 k t103 t104 t105 false Ua Ja La Pa Qa Uc Wb Ob Qb Bc Ad Rd)) else (if Ob=(-1) then (if t105=true then ((Za.f Ad 0 (wrap64 ((Ua.length:Int) - 1))).bind fun t107=>(mb.j0 k t103 t104 t105 t107 Ua Ja La Pa Qa Uc Wb Ob Qb Bc Ad Rd)) else (mb.j0 k t103 t104 t105 false Ua Ja La Pa Qa Uc Wb Ob Qb Bc Ad Rd)) else (mb.j0 k t103 t104 t105 false Ua Ja La Pa Qa Uc Wb Ob Qb Bc Ad Rd)))))
theorem mb.calls (k:Nat) (zb:Option Addr) (yb:Nat) (Ua:List Int) (Ja:Int) (La:Int) (Pa:Int) (Yb:Option Addr) (Nb:Nat) (Qa:List (lf)) (Uc:Int) (Wb:Int) (Ob:Int) (Qb:Int) (Bc:Int) (Ad:Int) (Rd:ByteArray) (r:Bool) (w:World) (Pf:Kd.C (Kd.int .i64) w zb Ua.length Ua) (Lf:Ua.length ≤ yb) (Ng:Kd.C Ok w Yb Qa.length Qa) (Jg:Qa.length ≤ Nb) (h:mb.f k Ua Ja La Pa Qa Uc Wb Ob Qb Bc Ad Rd=some r) :
  Calls Try.prog 111 #[.agg #[.slice zb Ua.length yb,.int .i64 Ja,.int .i64 La,.int .i64 Pa,.slice Yb Qa.length Nb],.agg #[.int .i64 Uc,.int .i64 Wb,.int .i64 Ob,.int .i64 Qb,.int .i64 Bc,.int .i64 Ad,.string Rd]] w fun e w'=>e = .returned (.bool r)∧Below w.heap.size w w':=by
 have FF:=Try.underlying30;have DF:=Try.underlying70;have kg:=ia.mk Pf;have Hg:=ia.mk Lf;clear Pf Lf;have Sh:=ia.mk Ng;have fk:=ia.mk Jg;clear Ng Jg;have HB:=ia.mk (Below.refl w.heap.size w);have H:((Za.f Wb 0 (wrap64 (Pa - 1))).bind fun t103=>((Za.f Ob 0 (wrap64 (Pa - 1))).bind fun t104=>((Za.f Qb 0 (wrap64 (Pa - 1))).bind fun t105=>(if t104=true then (if t105=true then ((Za.f Ad 0 (wrap64 ((Ua.length:Int) - 1))).bind fun t106=>(mb.j0 k t103 t104 t105 t106 Ua Ja La Pa Qa Uc Wb Ob Qb Bc Ad Rd)) else (mb.j0 k t103 t104 t105 false Ua Ja La Pa Qa Uc Wb Ob Qb Bc Ad Rd)) else (if Ob=(-1) then (if t105=true then ((Za.f Ad 0 (wrap64 ((Ua.length:Int) - 1))).bind fun t107=>(mb.j0 k t103 t104 t105 t107 Ua Ja La Pa Qa Uc Wb Ob Qb Bc Ad Rd)) else (mb.j0 k t103 t104 t105 false Ua Ja La Pa Qa Uc Wb Ob Qb Bc Ad Rd)) else (mb.j0 k t103 t104 t105 false Ua Ja La Pa Qa Uc Wb Ob Qb Bc Ad Rd))))))=some r:=h;clear h;replace H:=Option.bind_eq_some_iff.mp H;obtain ⟨t103,jB,H⟩:=H;replace H:((Za.f Ob 0 (wrap64 (Pa - 1))).bind fun t104=>((Za.f Qb 0 (wrap64 (Pa - 1))).bind fun t105=>(if t104=true then (if t105=true then ((Za.f Ad 0 (wrap64 ((Ua.length:Int) - 1))).bind fun t106=>(mb.j0 k t103 t104 t105 t106 Ua Ja La Pa Qa Uc Wb Ob Qb Bc Ad Rd)) else (mb.j0 k t103 t104 t105 false Ua Ja La Pa Qa Uc Wb Ob Qb Bc Ad Rd)) else (if Ob=(-1) then (if t105=true then ((Za.f Ad 0 (wrap64 ((Ua.length:Int) - 1))).bind fun t107=>(mb.j0 k t103 t104 t105 t107 Ua Ja La Pa Qa Uc Wb Ob Qb Bc Ad Rd)) else (mb.j0 k t103 t104 t105 false Ua Ja La Pa Qa Uc Wb Ob Qb Bc Ad Rd)) else (mb.j0 k t103 t104 t105 false Ua Ja La Pa Qa Uc Wb Ob Qb Bc Ad Rd)))))=some r:=H;have A3:=ia.mk jB;clear jB;replace H:=Option.bind_eq_some_iff.mp H;obtain ⟨t104,A40,H⟩:=H;replace H:((Za.f Qb 0 (wrap64 (Pa - 1))).bind fun t105=>(if t104=true then (if t105=true then ((Za.f Ad 0 (wrap64 ((Ua.length:Int) - 1))).bind fun t106=>(mb.j0 k t103 t104 t105 t106 Ua Ja La Pa Qa Uc Wb Ob Qb Bc Ad Rd)) else (mb.j0 k t103 t104 t105 false Ua Ja La Pa Qa Uc Wb Ob Qb Bc Ad Rd)) else (if Ob=(-1) then (if t105=true then ((Za.f Ad 0 (wrap64 ((Ua.length:Int) - 1))).bind fun t107=>(mb.j0 k t103 t104 t105 t107 Ua Ja La Pa Qa Uc Wb Ob Qb Bc Ad Rd)) else (mb.j0 k t103 t104 t105 false Ua Ja La Pa Qa Uc Wb Ob Qb Bc Ad Rd)) else (mb.j0 k t103 t104 t105 false Ua Ja La Pa Qa Uc Wb Ob Qb Bc Ad Rd))))=some r:=H;have A4:=ia.mk A40;clear A40;replace H:=Option.bind_eq_some_iff.mp H;obtain ⟨t105,YY,H⟩:=H;replace H:(if t104=true then (if t105=true then ((Za.f Ad 0 (wrap64 ((Ua.length:Int) - 1))).bind fun t106=>(mb.j0 k t103 t104 t105 t106 Ua Ja La Pa Qa Uc Wb Ob Qb Bc Ad Rd)) else (mb.j0 k t103 t104 t105 false Ua Ja La Pa Qa Uc Wb Ob Qb Bc Ad Rd)) else (if Ob=(-1) then (if t105=true then ((Za.f Ad 0 (wrap64 ((Ua.length:Int) - 1))).bind fun t107=>(mb.j0 k t103 t104 t105 t107 Ua Ja La Pa Qa Uc Wb Ob Qb Bc Ad Rd)) else (mb.j0 k t103 t104 t105 false Ua Ja La Pa Qa Uc Wb Ob Qb Bc Ad Rd)) else (mb.j0 k t103 t104 t105 false Ua Ja La Pa Qa Uc Wb Ob Qb Bc Ad Rd)))=some r:=H;have A5:=ia.mk YY;clear YY;have HC6:=ia.mk H;clear H;go_enter Try.func111,Try.ntmps111
 go_upto_region 4 with (first|((with_reducible refine Ib (N:=2) rfl ?_);(try (refine Ti (by rfl) ?_;dsimp only));refine Gb ?hg (N:=2) ?hd (cs:=#[.slice zb Ua.length yb,.int .i64 Ja,.int .i64 La,.int .i64 Pa,.slice Yb Qa.length Nb]) (t:=30) ?hr ?_;(case hd=>rfl);(case hg=>rfl);(case hr=>first|(go_simp;done)|(go_simp;rfl));intro Da hg w7 Vb hb;have Kb:=ia.mk (Ra (by repeat (first|(with_reducible first|exact HB.out|apply ta|apply ja|apply ua)|exact HB.out)) hb);have Ub:=ia.mk (Vb);have qc:=ia.mk ((by rw [hg];exact (Sa (by repeat (first|(with_reducible first|exact HB.out|apply ta|apply ja|apply ua)|exact HB.out))):w.heap.size ≤ Da));have Rc:=ia.mk ((by rw [hg];exact (Sa (by repeat (first|(with_reducible first|exact HB.out|apply ta|apply ja|apply ua)|exact HB.out))):w.heap.size ≤ Da));clear HB;have HB:=Kb;have qa:=Ub;have De:=qc;have Wa:=Rc;clear Kb Ub qc Rc hb Vb hg)|((with_reducible refine Ib (N:=3) rfl ?_);(try (refine Ti (by rfl) ?_;dsimp only));refine Gb ?hg (N:=3) ?hd (cs:=#[.int .i64 Uc,.int .i64 Wb,.int .i64 Ob,.int .i64 Qb,.int .i64 Bc,.int .i64 Ad,.string Rd]) (t:=70) ?hr ?_;(case hd=>rfl);(case hg=>rfl);(case hr=>first|(go_simp;done)|(go_simp;rfl));intro Ga hg w8 Vb hb;have Kb:=ia.mk (Ta (g:=Da) (o:=.cells #[.slice zb Ua.length yb,.int .i64 Ja,.int .i64 La,.int .i64 Pa,.slice Yb Qa.length Nb] 30 (0,0)) (by (with_reducible repeat (first|refine za ?_ _|refine Ca ?_|refine ya ?_ _));exact qa.out) hb);have Ub:=ia.mk (Ra (by repeat (first|(with_reducible first|exact HB.out|apply ta|apply ja|apply ua|refine Aa ?_ Wa.out)|exact HB.out)) hb);have qc:=ia.mk (Vb);have Rc:=ia.mk ((by rw [hg];exact (Sa (by repeat (first|(with_reducible first|exact HB.out|apply ta|apply ja|apply ua|refine Aa ?_ Wa.out)|exact HB.out))):w.heap.size ≤ Ga));have Ce:=ia.mk ((by rw [hg];exact (Sa (by repeat (first|(with_reducible first|exact HB.out|apply ta|apply ja|apply ua|refine Aa ?_ Wa.out)|exact HB.out))):w.heap.size ≤ Ga));have Qe:=ia.mk ((by rw [hg];exact Nat.ne_of_lt (jc (g:=Da) (o:=.cells #[.slice zb Ua.length yb,.int .i64 Ja,.int .i64 La,.int .i64 Pa,.slice Yb Qa.length Nb] 30 (0,0)) (by (with_reducible repeat (first|refine za ?_ _|refine Ca ?_|refine ya ?_ _));exact qa.out)):Da ≠ Ga));have qg:=ia.mk ((by rw [hg];exact Nat.ne_of_gt (jc (g:=Da) (o:=.cells #[.slice zb Ua.length yb,.int .i64 Ja,.int .i64 La,.int .i64 Pa,.slice Yb Qa.length Nb] 30 (0,0)) (by (with_reducible repeat (first|refine za ?_ _|refine Ca ?_|refine ya ?_ _));exact qa.out)):Ga ≠ Da));clear qa HB;have qa:=Kb;have HB:=Ub;have Ba:=qc;have Tf:=Rc;have Jb:=Ce;have Xa:=Qe;have Va:=qg;clear Kb Ub qc Rc Ce Qe qg hb Vb hg;have XZ:=Va.out;have VZ:=Xa.out;have Xj:w8.cell? ⟨Ga,0,none⟩=some (.int .i64 Uc):=(ga Ba.out 0).trans rfl;have Wj:w8.cell? ⟨Ga,1,none⟩=some (.int .i64 Wb):=(ga Ba.out 1).trans rfl;have Vj:w8.cell? ⟨Ga,2,none⟩=some (.int .i64 Ob):=(ga Ba.out 2).trans rfl;have Uj:w8.cell? ⟨Ga,3,none⟩=some (.int .i64 Qb):=(ga Ba.out 3).trans rfl;have Tj:w8.cell? ⟨Ga,4,none⟩=some (.int .i64 Bc):=(ga Ba.out 4).trans rfl;have fE:w8.cell? ⟨Ga,5,none⟩=some (.int .i64 Ad):=(ga Ba.out 5).trans rfl;have eE:w8.cell? ⟨Ga,6,none⟩=some (.string Rd):=(ga Ba.out 6).trans rfl;have Sj:=aa Ba.out 0;have Rj:=aa Ba.out 1;have Qj:=aa Ba.out 2;have Pj:=aa Ba.out 3;have Oj:=aa Ba.out 4;have fD:=aa Ba.out 5;have eD:=aa Ba.out 6;have Uo:w8.cell? ⟨Da,0,none⟩=some (.slice zb Ua.length yb):=(ga qa.out 0).trans rfl;have Ro:w8.cell? ⟨Da,1,none⟩=some (.int .i64 Ja):=(ga qa.out 1).trans rfl;have Qo:w8.cell? ⟨Da,2,none⟩=some (.int .i64 La):=(ga qa.out 2).trans rfl;have Po:w8.cell? ⟨Da,3,none⟩=some (.int .i64 Pa):=(ga qa.out 3).trans rfl;have Oo:w8.cell? ⟨Da,4,none⟩=some (.slice Yb Qa.length Nb):=(ga qa.out 4).trans rfl;have Ho:=aa qa.out 0;have Fo:=aa qa.out 1;have Eo:=aa qa.out 2;have Co:=aa qa.out 3;have Bo:=aa qa.out 4)|((with_reducible refine qb (f:=54) rfl ?_);refine Qc (some 14) rfl rfl Try.func54 (by kernel_rfl) rfl #[.int .i64 Wb,.int .i64 0,.int .i64 (wrap64 (Pa - 1))] rfl (by (try simp only [List.map_toArray,List.map_cons,List.map_nil]);first|done|rfl|(simp only [List.length_drop,List.length_take];rfl)) ?_;(with_reducible refine (Za.calls Wb 0 (wrap64 (Pa - 1)) t103 _ A3.out).mono ?_);rintro e w' ⟨rfl,⟨nd,rfl⟩⟩;refine ⟨_,rfl,?_⟩)|((with_reducible refine qb (f:=54) rfl ?_);refine Qc (some 20) rfl rfl Try.func54 (by kernel_rfl) rfl #[.int .i64 Ob,.int .i64 0,.int .i64 (wrap64 (Pa - 1))] rfl (by (try simp only [List.map_toArray,List.map_cons,List.map_nil]);first|done|rfl|(simp only [List.length_drop,List.length_take];rfl)) ?_;(with_reducible refine (Za.calls Ob 0 (wrap64 (Pa - 1)) t104 _ A4.out).mono ?_);rintro e w' ⟨rfl,⟨nd,rfl⟩⟩;refine ⟨_,rfl,?_⟩)|((with_reducible refine qb (f:=54) rfl ?_);refine Qc (some 26) rfl rfl Try.func54 (by kernel_rfl) rfl #[.int .i64 Qb,.int .i64 0,.int .i64 (wrap64 (Pa - 1))] rfl (by (try simp only [List.map_toArray,List.map_cons,List.map_nil]);first|done|rfl|(simp only [List.length_drop,List.length_take];rfl)) ?_;(with_reducible refine (Za.calls Qb 0 (wrap64 (Pa - 1)) t105 _ A5.out).mono ?_);rintro e w' ⟨rfl,⟨nd,rfl⟩⟩;refine ⟨_,rfl,?_⟩))
 (try simp only [Act.put,List.setIfInBounds_toArray,List.set_cons_zero,List.set_cons_succ])
 go_cut [8] (fun v8 wc=>∃ (kq:Nat) (cF:Bool),v8 = .bool cF∧ia (mb.j0 kq t103 t104 t105 cF Ua Ja La Pa Qa Uc Wb Ob Qb Bc Ad Rd=some r)∧ia (kq ≤ k)∧ia (wc.heap[Da]? = some (.cells #[(.slice zb Ua.length yb),.int .i64 Ja,.int .i64 La,.int .i64 Pa,(.slice Yb Qa.length Nb)] 30 (0,0)))∧ia (wc.heap[Ga]? = some (.cells #[.int .i64 Uc,.int .i64 Wb,.int .i64 Ob,.int .i64 Qb,.int .i64 Bc,.int .i64 Ad,.string Rd] 70 (0,0)))∧ia (Below w.heap.size w wc))
 case first =>
  have H:=HC6.out;clear HC6
  by_cases BB:t104=true
  ·subst BB;have H1:(if t105=true then ((Za.f Ad 0 (wrap64 ((Ua.length:Int) - 1))).bind fun t106=>(mb.j0 k t103 true t105 t106 Ua Ja La Pa Qa Uc Wb Ob Qb Bc Ad Rd)) else (mb.j0 k t103 true t105 false Ua Ja La Pa Qa Uc Wb Ob Qb Bc Ad Rd))=some r:=by rw [if_pos rfl] at H;exact H
   clear H;have H:=H1;clear H1
   by_cases ZX:t105=true
   ·subst ZX;have H1:((Za.f Ad 0 (wrap64 ((Ua.length:Int) - 1))).bind fun t106=>(mb.j0 k t103 true true t106 Ua Ja La Pa Qa Uc Wb Ob Qb Bc Ad Rd))=some r:=by rw [if_pos rfl] at H;exact H
    clear H;have H:=H1;clear H1;replace H:=Option.bind_eq_some_iff.mp H;obtain ⟨t106,fah,H⟩:=H;replace H:(mb.j0 k t103 true true t106 Ua Ja La Pa Qa Uc Wb Ob Qb Bc Ad Rd)=some r:=H;have A14:=ia.mk fah;clear fah;have H':=ia.mk H;clear H;have Dav:=Va.out;have Uau:=Xa.out;have gq:w8.cell? ⟨Ga,0,none⟩=some (.int .i64 Uc):=(ga Ba.out 0).trans rfl;have fq:w8.cell? ⟨Ga,1,none⟩=some (.int .i64 Wb):=(ga Ba.out 1).trans rfl;have cq:w8.cell? ⟨Ga,2,none⟩=some (.int .i64 Ob):=(ga Ba.out 2).trans rfl;have bq:w8.cell? ⟨Ga,3,none⟩=some (.int .i64 Qb):=(ga Ba.out 3).trans rfl;have aq:w8.cell? ⟨Ga,4,none⟩=some (.int .i64 Bc):=(ga Ba.out 4).trans rfl;have BL:w8.cell? ⟨Ga,5,none⟩=some (.int .i64 Ad):=(ga Ba.out 5).trans rfl;have AL:w8.cell? ⟨Ga,6,none⟩=some (.string Rd):=(ga Ba.out 6).trans rfl;have Zp:=aa Ba.out 0;have Yp:=aa Ba.out 1;have Xp:=aa Ba.out 2;have Wp:=aa Ba.out 3;have Vp:=aa Ba.out 4;have mK:=aa Ba.out 5;have lK:=aa Ba.out 6;have Bw:w8.cell? ⟨Da,0,none⟩=some (.slice zb Ua.length yb):=(ga qa.out 0).trans rfl;have Aw:w8.cell? ⟨Da,1,none⟩=some (.int .i64 Ja):=(ga qa.out 1).trans rfl;have zw:w8.cell? ⟨Da,2,none⟩=some (.int .i64 La):=(ga qa.out 2).trans rfl;have yw:w8.cell? ⟨Da,3,none⟩=some (.int .i64 Pa):=(ga qa.out 3).trans rfl;have xw:w8.cell? ⟨Da,4,none⟩=some (.slice Yb Qa.length Nb):=(ga qa.out 4).trans rfl;have Uv:=aa qa.out 0;have Tv:=aa qa.out 1;have Sv:=aa qa.out 2;have Rv:=aa qa.out 3;have Qv:=aa qa.out 4;go_wp2_with (first|(go_at_call 54;(with_reducible refine (Za.calls Ad 0 (wrap64 ((Ua.length:Int) - 1)) t106 _ A14.out).mono ?_);rintro e w' ⟨rfl,⟨nd,rfl⟩⟩))
    go_meet
    case rel=>exact ⟨_,(t106),(by first|rfl|(simp;done)|(simp [*];done)),H',⟨by first|omega|exact Nat.le_refl _⟩,⟨by (with_reducible repeat (first|refine za ?_ _|refine Ca ?_|refine ya ?_ _));exact qa.out⟩,⟨by (with_reducible repeat (first|refine za ?_ _|refine Ca ?_|refine ya ?_ _));exact Ba.out⟩,⟨by repeat (first|(with_reducible first|exact HB.out|apply ta|apply ja|apply ua|refine Aa ?_ Wa.out|refine Aa ?_ Jb.out)|exact HB.out)⟩⟩
   ·replace ZX:=Bool.eq_false_iff.mpr ZX;subst ZX;have H1:(mb.j0 k t103 true false false Ua Ja La Pa Qa Uc Wb Ob Qb Bc Ad Rd)=some r:=by rw [if_neg (show ¬ (false=true) by decide)] at H;exact H
    clear H;have H:=H1;clear H1;have H':=ia.mk H;clear H;go_wp2
    go_meet
    case rel=>exact ⟨_,(false),(by first|rfl|(simp;done)|(simp [*];done)),H',⟨by first|omega|exact Nat.le_refl _⟩,⟨by (with_reducible repeat (first|refine za ?_ _|refine Ca ?_|refine ya ?_ _));exact qa.out⟩,⟨by (with_reducible repeat (first|refine za ?_ _|refine Ca ?_|refine ya ?_ _));exact Ba.out⟩,⟨by repeat (first|(with_reducible first|exact HB.out|apply ta|apply ja|apply ua|refine Aa ?_ Wa.out|refine Aa ?_ Jb.out)|exact HB.out)⟩⟩
  ·replace BB:=Bool.eq_false_iff.mpr BB;subst BB;have H1:(if Ob=(-1) then (if t105=true then ((Za.f Ad 0 (wrap64 ((Ua.length:Int) - 1))).bind fun t107=>(mb.j0 k t103 false t105 t107 Ua Ja La Pa Qa Uc Wb Ob Qb Bc Ad Rd)) else (mb.j0 k t103 false t105 false Ua Ja La Pa Qa Uc Wb Ob Qb Bc Ad Rd)) else (mb.j0 k t103 false t105 false Ua Ja La Pa Qa Uc Wb Ob Qb Bc Ad Rd))=some r:=by rw [if_neg (show ¬ (false=true) by decide)] at H;exact H
   clear H;have H:=H1;clear H1
   by_cases RG:Ob=(-1)
   ·rw [if_pos RG] at H;have Iw:(Ob == (-1))=true:=beq_iff_eq.mpr RG;have qQ:(Ob != (-1))=false:=bne_eq_false_iff_eq.mpr RG;clear RG;(first|rw [Iw]|(simp only [Cb,Db];rw [Iw])|skip)
    by_cases Bt:t105=true
    ·subst Bt;have H1:((Za.f Ad 0 (wrap64 ((Ua.length:Int) - 1))).bind fun t107=>(mb.j0 k t103 false true t107 Ua Ja La Pa Qa Uc Wb Ob Qb Bc Ad Rd))=some r:=by rw [if_pos rfl] at H;exact H
     clear H;have H:=H1;clear H1;replace H:=Option.bind_eq_some_iff.mp H;obtain ⟨t107,bah,H⟩:=H;replace H:(mb.j0 k t103 false true t107 Ua Ja La Pa Qa Uc Wb Ob Qb Bc Ad Rd)=some r:=H;have BS:=ia.mk bah;clear bah;have H':=ia.mk H;clear H;have zav:=Va.out;have Qau:=Xa.out;have vw:w8.cell? ⟨Ga,0,none⟩=some (.int .i64 Uc):=(ga Ba.out 0).trans rfl;have uw:w8.cell? ⟨Ga,1,none⟩=some (.int .i64 Wb):=(ga Ba.out 1).trans rfl;have tw:w8.cell? ⟨Ga,2,none⟩=some (.int .i64 Ob):=(ga Ba.out 2).trans rfl;have sw:w8.cell? ⟨Ga,3,none⟩=some (.int .i64 Qb):=(ga Ba.out 3).trans rfl;have qw:w8.cell? ⟨Ga,4,none⟩=some (.int .i64 Bc):=(ga Ba.out 4).trans rfl;have zL:w8.cell? ⟨Ga,5,none⟩=some (.int .i64 Ad):=(ga Ba.out 5).trans rfl;have yL:w8.cell? ⟨Ga,6,none⟩=some (.string Rd):=(ga Ba.out 6).trans rfl;have Pv:=aa Ba.out 0;have Ov:=aa Ba.out 1;have Nv:=aa Ba.out 2;have Mv:=aa Ba.out 3;have Lv:=aa Ba.out 4;have kK:=aa Ba.out 5;have jK:=aa Ba.out 6;have Mo:w8.cell? ⟨Da,0,none⟩=some (.slice zb Ua.length yb):=(ga qa.out 0).trans rfl;have Lo:w8.cell? ⟨Da,1,none⟩=some (.int .i64 Ja):=(ga qa.out 1).trans rfl;have Ko:w8.cell? ⟨Da,2,none⟩=some (.int .i64 La):=(ga qa.out 2).trans rfl;have Jo:w8.cell? ⟨Da,3,none⟩=some (.int .i64 Pa):=(ga qa.out 3).trans rfl;have Io:w8.cell? ⟨Da,4,none⟩=some (.slice Yb Qa.length Nb):=(ga qa.out 4).trans rfl;have Ao:=aa qa.out 0;have zo:=aa qa.out 1;have yo:=aa qa.out 2;have xo:=aa qa.out 3;have wo:=aa qa.out 4;go_wp2_with (first|(go_at_call 54;(with_reducible refine (Za.calls Ad 0 (wrap64 ((Ua.length:Int) - 1)) t107 _ BS.out).mono ?_);rintro e w' ⟨rfl,⟨nd,rfl⟩⟩))
     go_meet
     case rel=>exact ⟨_,(t107),(by first|rfl|(simp;done)|(simp [*];done)),H',⟨by first|omega|exact Nat.le_refl _⟩,⟨by (with_reducible repeat (first|refine za ?_ _|refine Ca ?_|refine ya ?_ _));exact qa.out⟩,⟨by (with_reducible repeat (first|refine za ?_ _|refine Ca ?_|refine ya ?_ _));exact Ba.out⟩,⟨by repeat (first|(with_reducible first|exact HB.out|apply ta|apply ja|apply ua|refine Aa ?_ Wa.out|refine Aa ?_ Jb.out)|exact HB.out)⟩⟩
    ·replace Bt:=Bool.eq_false_iff.mpr Bt;subst Bt;have H1:(mb.j0 k t103 false false false Ua Ja La Pa Qa Uc Wb Ob Qb Bc Ad Rd)=some r:=by rw [if_neg (show ¬ (false=true) by decide)] at H;exact H
     clear H;have H:=H1;clear H1;have H':=ia.mk H;clear H;have kX:=Va.out;have fX:=Xa.out;have Xr:w8.cell? ⟨Ga,0,none⟩=some (.int .i64 Uc):=(ga Ba.out 0).trans rfl;have Wr:w8.cell? ⟨Ga,1,none⟩=some (.int .i64 Wb):=(ga Ba.out 1).trans rfl;have Vr:w8.cell? ⟨Ga,2,none⟩=some (.int .i64 Ob):=(ga Ba.out 2).trans rfl;have Ur:w8.cell? ⟨Ga,3,none⟩=some (.int .i64 Qb):=(ga Ba.out 3).trans rfl;have Tr:w8.cell? ⟨Ga,4,none⟩=some (.int .i64 Bc):=(ga Ba.out 4).trans rfl;have xL:w8.cell? ⟨Ga,5,none⟩=some (.int .i64 Ad):=(ga Ba.out 5).trans rfl;have wL:w8.cell? ⟨Ga,6,none⟩=some (.string Rd):=(ga Ba.out 6).trans rfl;have Ar:=aa Ba.out 0;have vr:=aa Ba.out 1;have ur:=aa Ba.out 2;have tr:=aa Ba.out 3;have sr:=aa Ba.out 4;have iK:=aa Ba.out 5;have gK:=aa Ba.out 6;go_wp2
     go_meet
     case rel=>exact ⟨_,(false),(by first|rfl|(simp;done)|(simp [*];done)),H',⟨by first|omega|exact Nat.le_refl _⟩,⟨by (with_reducible repeat (first|refine za ?_ _|refine Ca ?_|refine ya ?_ _));exact qa.out⟩,⟨by (with_reducible repeat (first|refine za ?_ _|refine Ca ?_|refine ya ?_ _));exact Ba.out⟩,⟨by repeat (first|(with_reducible first|exact HB.out|apply ta|apply ja|apply ua|refine Aa ?_ Wa.out|refine Aa ?_ Jb.out)|exact HB.out)⟩⟩
   ·rw [if_neg RG] at H;have Iw:(Ob == (-1))=false:=beq_eq_false_iff_ne.mpr RG;have qQ:(Ob != (-1))=true:=bne_iff_ne.mpr RG;(first|rw [Iw]|(simp only [Cb,Db];rw [Iw])|skip);have H':=ia.mk H;clear H;have jX:=Va.out;have eX:=Xa.out;have Sr:w8.cell? ⟨Ga,0,none⟩=some (.int .i64 Uc):=(ga Ba.out 0).trans rfl;have Qr:w8.cell? ⟨Ga,1,none⟩=some (.int .i64 Wb):=(ga Ba.out 1).trans rfl;have Pr:w8.cell? ⟨Ga,2,none⟩=some (.int .i64 Ob):=(ga Ba.out 2).trans rfl;have Nr:w8.cell? ⟨Ga,3,none⟩=some (.int .i64 Qb):=(ga Ba.out 3).trans rfl;have Mr:w8.cell? ⟨Ga,4,none⟩=some (.int .i64 Bc):=(ga Ba.out 4).trans rfl;have vL:w8.cell? ⟨Ga,5,none⟩=some (.int .i64 Ad):=(ga Ba.out 5).trans rfl;have uL:w8.cell? ⟨Ga,6,none⟩=some (.string Rd):=(ga Ba.out 6).trans rfl;have nr:=aa Ba.out 0;have kr:=aa Ba.out 1;have jr:=aa Ba.out 2;have ir:=aa Ba.out 3;have gr:=aa Ba.out 4;have fK:=aa Ba.out 5;have eK:=aa Ba.out 6;go_wp2
    go_meet
    case rel=>exact ⟨_,(false),(by first|rfl|(simp;done)|(simp [*];done)),H',⟨by first|omega|exact Nat.le_refl _⟩,⟨by (with_reducible repeat (first|refine za ?_ _|refine Ca ?_|refine ya ?_ _));exact qa.out⟩,⟨by (with_reducible repeat (first|refine za ?_ _|refine Ca ?_|refine ya ?_ _));exact Ba.out⟩,⟨by repeat (first|(with_reducible first|exact HB.out|apply ta|apply ja|apply ua|refine Aa ?_ Wa.out|refine Aa ?_ Jb.out)|exact HB.out)⟩⟩
 case rest =>
  clear HC6
  try clear c1
  try clear c2
  try clear p2
  try clear c5
  try clear p6
  try clear c9
  try clear IA
  try clear BB
  try clear ZX
  try clear j3
  try clear RG
  try clear Iw
  try clear qQ
  try clear Bt
  try clear yt
  try clear U5
  try clear c26
  try clear Xj
  try clear Wj
  try clear Vj
  try clear Uj
  try clear Tj
  try clear fE
  try clear eE
  try clear Uo
  try clear Ro
  try clear Qo
  try clear Po
  try clear Oo
  try clear gq
  try clear fq
  try clear cq
  try clear bq
  try clear aq
  try clear BL
  try clear AL
  try clear Bw
  try clear Aw
  try clear zw
  try clear yw
  try clear xw
  try clear vw
  try clear uw
  try clear tw
  try clear sw
  try clear qw
  try clear zL
  try clear yL
  try clear Mo
  try clear Lo
  try clear Ko
  try clear Jo
  try clear Io
  try clear Xr
  try clear Wr
  try clear Vr
  try clear Ur
  try clear Tr
  try clear xL
  try clear wL
  try clear Sr
  try clear Qr
  try clear Pr
  try clear Nr
  try clear Mr
  try clear vL
  try clear uL
  try clear Sj
  try clear Rj
  try clear Qj
  try clear Pj
  try clear Oj
  try clear fD
  try clear eD
  try clear Ho
  try clear Fo
  try clear Eo
  try clear Co
  try clear Bo
  try clear Zp
  try clear Yp
  try clear Xp
  try clear Wp
  try clear Vp
  try clear mK
  try clear lK
  try clear Uv
  try clear Tv
  try clear Sv
  try clear Rv
  try clear Qv
  try clear Pv
  try clear Ov
  try clear Nv
  try clear Mv
  try clear Lv
  try clear kK
  try clear jK
  try clear Ao
  try clear zo
  try clear yo
  try clear xo
  try clear wo
  try clear Ar
  try clear vr
  try clear ur
  try clear tr
  try clear sr
  try clear iK
  try clear gK
  try clear nr
  try clear kr
  try clear jr
  try clear ir
  try clear gr
  try clear fK
  try clear eK
  obtain ⟨kq,cF,rfl,HA,HJ5,qa,Ba,HB⟩:=hcut;cases kq with
  | zero=>exact absurd HA.out (by simp [mb.j0])
  | succ kj5 =>
   have H:=HA.out;clear HA;simp only [mb.j0] at H;have E5:=ia.mk H;clear H
   go_upto_region 5 with (fail)
   go_cut [62] (fun v62 wc=>∃ (kq:Nat) (WB:Bool),v62 = .bool WB∧ia (mb.j1 kq t103 t104 t105 cF WB Ua Ja La Pa Qa Uc Wb Ob Qb Bc Ad Rd=some r)∧ia (kq ≤ kj5)∧ia (wc.heap[Da]? = some (.cells #[(.slice zb Ua.length yb),.int .i64 Ja,.int .i64 La,.int .i64 Pa,(.slice Yb Qa.length Nb)] 30 (0,0)))∧ia (wc.heap[Ga]? = some (.cells #[.int .i64 Uc,.int .i64 Wb,.int .i64 Ob,.int .i64 Qb,.int .i64 Bc,.int .i64 Ad,.string Rd] 70 (0,0)))∧ia (Below w.heap.size w wc))
   case first =>
    have H:=E5.out;clear E5
    by_cases XM:Uc=2
    ·rw [if_pos XM] at H;have GA:(Uc == 2)=true:=beq_iff_eq.mpr XM;have YX:(Uc != 2)=false:=bne_eq_false_iff_eq.mpr XM;clear XM;(first|rw [GA]|(simp only [Cb,Db];rw [GA])|skip)
     by_cases fI:Uc=4
     ·rw [if_pos fI] at H;have JL:(Uc == 4)=true:=beq_iff_eq.mpr fI;have XX:(Uc != 4)=false:=bne_eq_false_iff_eq.mpr fI;clear fI;have H':=ia.mk H;clear H;have m8:=Va.out;have O7:=Xa.out;have Bz:wc.cell? ⟨Ga,0,none⟩=some (.int .i64 Uc):=(ga Ba.out 0).trans rfl;have Az:wc.cell? ⟨Ga,1,none⟩=some (.int .i64 Wb):=(ga Ba.out 1).trans rfl;have zz:wc.cell? ⟨Ga,2,none⟩=some (.int .i64 Ob):=(ga Ba.out 2).trans rfl;have yz:wc.cell? ⟨Ga,3,none⟩=some (.int .i64 Qb):=(ga Ba.out 3).trans rfl;have xz:wc.cell? ⟨Ga,4,none⟩=some (.int .i64 Bc):=(ga Ba.out 4).trans rfl;have TV:wc.cell? ⟨Ga,5,none⟩=some (.int .i64 Ad):=(ga Ba.out 5).trans rfl;have SV:wc.cell? ⟨Ga,6,none⟩=some (.string Rd):=(ga Ba.out 6).trans rfl;have Sy:=aa Ba.out 0;have Ry:=aa Ba.out 1;have Qy:=aa Ba.out 2;have Py:=aa Ba.out 3;have Oy:=aa Ba.out 4;have vU:=aa Ba.out 5;have uU:=aa Ba.out 6;go_wp2
      go_meet
      case rel=>exact ⟨_,(false),(by first|rfl|(simp;done)|(simp [*];done)),H',⟨by have:=HJ5.out;first|omega|exact Nat.le_refl _⟩,⟨by (with_reducible repeat (first|refine za ?_ _|refine Ca ?_|refine ya ?_ _));exact qa.out⟩,⟨by (with_reducible repeat (first|refine za ?_ _|refine Ca ?_|refine ya ?_ _));exact Ba.out⟩,⟨by repeat (first|(with_reducible first|exact HB.out|apply ta|apply ja|apply ua|refine Aa ?_ Wa.out|refine Aa ?_ Jb.out)|exact HB.out)⟩⟩
     ·rw [if_neg fI] at H;have JL:(Uc == 4)=false:=beq_eq_false_iff_ne.mpr fI;have XX:(Uc != 4)=true:=bne_iff_ne.mpr fI;have H':=ia.mk H;clear H;have wav:=Va.out;have Nau:=Xa.out;have iL:wc.cell? ⟨Ga,0,none⟩=some (.int .i64 Uc):=(ga Ba.out 0).trans rfl;have gL:wc.cell? ⟨Ga,1,none⟩=some (.int .i64 Wb):=(ga Ba.out 1).trans rfl;have fL:wc.cell? ⟨Ga,2,none⟩=some (.int .i64 Ob):=(ga Ba.out 2).trans rfl;have eL:wc.cell? ⟨Ga,3,none⟩=some (.int .i64 Qb):=(ga Ba.out 3).trans rfl;have dL:wc.cell? ⟨Ga,4,none⟩=some (.int .i64 Bc):=(ga Ba.out 4).trans rfl;have cL:wc.cell? ⟨Ga,5,none⟩=some (.int .i64 Ad):=(ga Ba.out 5).trans rfl;have bL:wc.cell? ⟨Ga,6,none⟩=some (.string Rd):=(ga Ba.out 6).trans rfl;have TJ:=aa Ba.out 0;have SJ:=aa Ba.out 1;have RJ:=aa Ba.out 2;have QJ:=aa Ba.out 3;have PJ:=aa Ba.out 4;have OJ:=aa Ba.out 5;have NJ:=aa Ba.out 6;go_wp2
      go_meet
      case rel=>exact ⟨_,((Bc != 0)),(by first|rfl|(simp;done)|(simp [*];done)),H',⟨by have:=HJ5.out;first|omega|exact Nat.le_refl _⟩,⟨by (with_reducible repeat (first|refine za ?_ _|refine Ca ?_|refine ya ?_ _));exact qa.out⟩,⟨by (with_reducible repeat (first|refine za ?_ _|refine Ca ?_|refine ya ?_ _));exact Ba.out⟩,⟨by repeat (first|(with_reducible first|exact HB.out|apply ta|apply ja|apply ua|refine Aa ?_ Wa.out|refine Aa ?_ Jb.out)|exact HB.out)⟩⟩
    ·rw [if_neg XM] at H;have GA:(Uc == 2)=false:=beq_eq_false_iff_ne.mpr XM;have YX:(Uc != 2)=true:=bne_iff_ne.mpr XM;(first|rw [GA]|(simp only [Cb,Db];rw [GA])|skip)
     by_cases VX:Rd.toList=([]:List UInt8)
     ·rw [if_pos VX] at H;have UX:(Rd.toList == ([]:List UInt8))=true:=beq_iff_eq.mpr VX;have SX:(Rd.toList != ([]:List UInt8))=false:=bne_eq_false_iff_eq.mpr VX;clear VX
      by_cases RX:Uc=4
      ·rw [if_pos RX] at H;have QX:(Uc == 4)=true:=beq_iff_eq.mpr RX;have PX:(Uc != 4)=false:=bne_eq_false_iff_eq.mpr RX;clear RX;have H':=ia.mk H;clear H;have k8:=Va.out;have M7:=Xa.out;have Zv:wc.cell? ⟨Ga,0,none⟩=some (.int .i64 Uc):=(ga Ba.out 0).trans rfl;have Yv:wc.cell? ⟨Ga,1,none⟩=some (.int .i64 Wb):=(ga Ba.out 1).trans rfl;have Xv:wc.cell? ⟨Ga,2,none⟩=some (.int .i64 Ob):=(ga Ba.out 2).trans rfl;have Wv:wc.cell? ⟨Ga,3,none⟩=some (.int .i64 Qb):=(ga Ba.out 3).trans rfl;have Vv:wc.cell? ⟨Ga,4,none⟩=some (.int .i64 Bc):=(ga Ba.out 4).trans rfl;have UK:wc.cell? ⟨Ga,5,none⟩=some (.int .i64 Ad):=(ga Ba.out 5).trans rfl;have TK:wc.cell? ⟨Ga,6,none⟩=some (.string Rd):=(ga Ba.out 6).trans rfl;have vv:=aa Ba.out 0;have uv:=aa Ba.out 1;have tv:=aa Ba.out 2;have qv:=aa Ba.out 3;have ov:=aa Ba.out 4;have HJ:=aa Ba.out 5;have GJ:=aa Ba.out 6;go_wp2
       go_meet
       case rel=>exact ⟨_,(false),(by first|rfl|(simp;done)|(simp [*];done)),H',⟨by have:=HJ5.out;first|omega|exact Nat.le_refl _⟩,⟨by (with_reducible repeat (first|refine za ?_ _|refine Ca ?_|refine ya ?_ _));exact qa.out⟩,⟨by (with_reducible repeat (first|refine za ?_ _|refine Ca ?_|refine ya ?_ _));exact Ba.out⟩,⟨by repeat (first|(with_reducible first|exact HB.out|apply ta|apply ja|apply ua|refine Aa ?_ Wa.out|refine Aa ?_ Jb.out)|exact HB.out)⟩⟩
      ·rw [if_neg RX] at H;have QX:(Uc == 4)=false:=beq_eq_false_iff_ne.mpr RX;have PX:(Uc != 4)=true:=bne_iff_ne.mpr RX;have H':=ia.mk H;clear H;have j8:=Va.out;have L7:=Xa.out;have Lr:wc.cell? ⟨Ga,0,none⟩=some (.int .i64 Uc):=(ga Ba.out 0).trans rfl;have Kr:wc.cell? ⟨Ga,1,none⟩=some (.int .i64 Wb):=(ga Ba.out 1).trans rfl;have Jr:wc.cell? ⟨Ga,2,none⟩=some (.int .i64 Ob):=(ga Ba.out 2).trans rfl;have Ir:wc.cell? ⟨Ga,3,none⟩=some (.int .i64 Qb):=(ga Ba.out 3).trans rfl;have Hr:wc.cell? ⟨Ga,4,none⟩=some (.int .i64 Bc):=(ga Ba.out 4).trans rfl;have KD:wc.cell? ⟨Ga,5,none⟩=some (.int .i64 Ad):=(ga Ba.out 5).trans rfl;have JD:wc.cell? ⟨Ga,6,none⟩=some (.string Rd):=(ga Ba.out 6).trans rfl;have er:=aa Ba.out 0;have dr:=aa Ba.out 1;have cr:=aa Ba.out 2;have br:=aa Ba.out 3;have Zq:=aa Ba.out 4;have MC:=aa Ba.out 5;have LC:=aa Ba.out 6;go_wp2
       go_meet
       case rel=>exact ⟨_,((Bc != 0)),(by first|rfl|(simp;done)|(simp [*];done)),H',⟨by have:=HJ5.out;first|omega|exact Nat.le_refl _⟩,⟨by (with_reducible repeat (first|refine za ?_ _|refine Ca ?_|refine ya ?_ _));exact qa.out⟩,⟨by (with_reducible repeat (first|refine za ?_ _|refine Ca ?_|refine ya ?_ _));exact Ba.out⟩,⟨by repeat (first|(with_reducible first|exact HB.out|apply ta|apply ja|apply ua|refine Aa ?_ Wa.out|refine Aa ?_ Jb.out)|exact HB.out)⟩⟩
     ·rw [if_neg VX] at H;have UX:(Rd.toList == ([]:List UInt8))=false:=beq_eq_false_iff_ne.mpr VX;have SX:(Rd.toList != ([]:List UInt8))=true:=bne_iff_ne.mpr VX;have H':=ia.mk H;clear H;have g8:=Va.out;have K7:=Xa.out;have CD:wc.cell? ⟨Ga,0,none⟩=some (.int .i64 Uc):=(ga Ba.out 0).trans rfl;have BD:wc.cell? ⟨Ga,1,none⟩=some (.int .i64 Wb):=(ga Ba.out 1).trans rfl;have zD:wc.cell? ⟨Ga,2,none⟩=some (.int .i64 Ob):=(ga Ba.out 2).trans rfl;have yD:wc.cell? ⟨Ga,3,none⟩=some (.int .i64 Qb):=(ga Ba.out 3).trans rfl;have xD:wc.cell? ⟨Ga,4,none⟩=some (.int .i64 Bc):=(ga Ba.out 4).trans rfl;have GV:wc.cell? ⟨Ga,5,none⟩=some (.int .i64 Ad):=(ga Ba.out 5).trans rfl;have FV:wc.cell? ⟨Ga,6,none⟩=some (.string Rd):=(ga Ba.out 6).trans rfl;have EC:=aa Ba.out 0;have DC:=aa Ba.out 1;have CC:=aa Ba.out 2;have BC:=aa Ba.out 3;have zC:=aa Ba.out 4;have kU:=aa Ba.out 5;have jU:=aa Ba.out 6;go_wp2
      go_meet
      case rel=>exact ⟨_,(true),(by first|rfl|(simp;done)|(simp [*];done)),H',⟨by have:=HJ5.out;first|omega|exact Nat.le_refl _⟩,⟨by (with_reducible repeat (first|refine za ?_ _|refine Ca ?_|refine ya ?_ _));exact qa.out⟩,⟨by (with_reducible repeat (first|refine za ?_ _|refine Ca ?_|refine ya ?_ _));exact Ba.out⟩,⟨by repeat (first|(with_reducible first|exact HB.out|apply ta|apply ja|apply ua|refine Aa ?_ Wa.out|refine Aa ?_ Jb.out)|exact HB.out)⟩⟩
   case rest =>
    clear E5
    try clear c1
    try clear c2
    try clear p2
    try clear c3
    try clear c4
    try clear c5
    try clear p6
    try clear c9
    try clear IA
    try clear BB
    try clear ZX
    try clear j3
    try clear RG
    try clear Iw
    try clear qQ
    try clear Bt
    try clear yt
    try clear U5
    try clear c26
    try clear XM
    try clear GA
    try clear YX
    try clear fI
    try clear JL
    try clear XX
    try clear WX
    try clear c33
    try clear VX
    try clear UX
    try clear SX
    try clear RX
    try clear QX
    try clear PX
    try clear c37
    try clear c39
    try clear c41
    try clear Xj
    try clear Wj
    try clear Vj
    try clear Uj
    try clear Tj
    try clear fE
    try clear eE
    try clear Uo
    try clear Ro
    try clear Qo
    try clear Po
    try clear Oo
    try clear gq
    try clear fq
    try clear cq
    try clear bq
    try clear aq
    try clear BL
    try clear AL
    try clear Bw
    try clear Aw
    try clear zw
    try clear yw
    try clear xw
    try clear vw
    try clear uw
    try clear tw
    try clear sw
    try clear qw
    try clear zL
    try clear yL
    try clear Mo
    try clear Lo
    try clear Ko
    try clear Jo
    try clear Io
    try clear Xr
    try clear Wr
    try clear Vr
    try clear Ur
    try clear Tr
    try clear xL
    try clear wL
    try clear Sr
    try clear Qr
    try clear Pr
    try clear Nr
    try clear Mr
    try clear vL
    try clear uL
    try clear Bz
    try clear Az
    try clear zz
    try clear yz
    try clear xz
    try clear TV
    try clear SV
    try clear iL
    try clear gL
    try clear fL
    try clear eL
    try clear dL
    try clear cL
    try clear bL
    try clear Zv
    try clear Yv
    try clear Xv
    try clear Wv
    try clear Vv
    try clear UK
    try clear TK
    try clear Lr
    try clear Kr
    try clear Jr
    try clear Ir
    try clear Hr
    try clear KD
    try clear JD
    try clear CD
    try clear BD
    try clear zD
    try clear yD
    try clear xD
    try clear GV
    try clear FV
    try clear Sj
    try clear Rj
    try clear Qj
    try clear Pj
    try clear Oj
    try clear fD
    try clear eD
    try clear Ho
    try clear Fo
    try clear Eo
    try clear Co
    try clear Bo
    try clear Zp
    try clear Yp
    try clear Xp
    try clear Wp
    try clear Vp
    try clear mK
    try clear lK
    try clear Uv
    try clear Tv
    try clear Sv
    try clear Rv
    try clear Qv
    try clear Pv
    try clear Ov
    try clear Nv
    try clear Mv
    try clear Lv
    try clear kK
    try clear jK
    try clear Ao
    try clear zo
    try clear yo
    try clear xo
    try clear wo
    try clear Ar
    try clear vr
    try clear ur
    try clear tr
    try clear sr
    try clear iK
    try clear gK
    try clear nr
    try clear kr
    try clear jr
    try clear ir
    try clear gr
    try clear fK
    try clear eK
    try clear Sy
    try clear Ry
    try clear Qy
    try clear Py
    try clear Oy
    try clear vU
    try clear uU
    try clear TJ
    try clear SJ
    try clear RJ
    try clear QJ
    try clear PJ
    try clear OJ
    try clear NJ
    try clear vv
    try clear uv
    try clear tv
    try clear qv
    try clear ov
    try clear HJ
    try clear GJ
    try clear er
    try clear dr
    try clear cr
    try clear br
    try clear Zq
    try clear MC
    try clear LC
    try clear EC
    try clear DC
    try clear CC
    try clear BC
    try clear zC
    try clear kU
    try clear jU
    try clear p2
    try clear p6
    obtain ⟨kq,WB,rfl,HA,oaA,qa,Ba,HB⟩:=hcut;cases kq with
    | zero=>exact absurd HA.out (by simp [mb.j1])
    | succ uM =>
     have H:=HA.out;clear HA;simp only [mb.j1] at H
     by_cases c43:WB=true
     ·subst c43;have H1:(some false)=some r:=by rw [if_pos rfl] at H;exact H
      clear H;have H:=H1;clear H1;obtain rfl:=Option.some.inj H;go_wp2;go_ret;exact ⟨by first|rfl|(simp [Na,Ma] <;> rfl)|(simp [*,Na,Ma] <;> rfl),by repeat (first|(with_reducible first|exact HB.out|apply ta|apply ja|apply ua|refine Aa ?_ Wa.out|refine Aa ?_ Jb.out)|exact HB.out)⟩
     ·replace c43:=Bool.eq_false_iff.mpr c43;subst c43;have H1:(if Uc=0 then (if t103=true then (if Ob=0 then (some (Qb == 0)) else (some false)) else (some false)) else (if Uc=1 then (if t103=true then (if t104=true then (if Qb=0 then (some (Ad == 0)) else (some false)) else (some false)) else (some false)) else (if Uc=2 then (if t103=true then (if t104=true then (if t105=true then (if Ad=0 then ((jf.f uM (([(⟨#[61,61]⟩:ByteArray),(⟨#[60]⟩:ByteArray),(⟨#[38]⟩:ByteArray),(⟨#[43]⟩:ByteArray),(⟨#[45]⟩:ByteArray),(⟨#[42]⟩:ByteArray)]:List ByteArray)) Rd).bind fun t111=>(some t111)) else (some false)) else (some false)) else (some false)) else (some false)) else (if Uc=3 then (if t103=true then (some cF) else (some false)) else (if Uc=4 then (if Wb=0 then (if cF=true then ((Za.f Bc 0 (wrap64 (Pa - 1))).bind fun t112=>(some t112)) else (some false)) else (some false)) else (if Uc=5 then (if t103=true then (if Ob=0 then (if Qb=0 then (some (Ad == 0)) else (some false)) else (some false)) else (some false)) else (if Uc=6 then (if Wb=0 then (if t104=true then (if Qb=0 then (some (Ad == 0)) else (some false)) else (some false)) else (some false)) else (some false))))))))=some r:=by rw [if_neg (show ¬ (false=true) by decide)] at H;exact H
      clear H;have H:=H1;clear H1
      by_cases eI:Uc=0
      ·rw [if_pos eI] at H;have oQ:(Uc == 0)=true:=beq_iff_eq.mpr eI;have nQ:(Uc != 0)=false:=bne_eq_false_iff_eq.mpr eI;clear eI
       by_cases kW:t103=true
       ·subst kW;have H1:(if Ob=0 then (some (Qb == 0)) else (some false))=some r:=by rw [if_pos rfl] at H;exact H
        clear H;have H:=H1;clear H1
        by_cases dI:Ob=0
        ·rw [if_pos dI] at H;have mQ:(Ob == 0)=true:=beq_iff_eq.mpr dI;have lQ:(Ob != 0)=false:=bne_eq_false_iff_eq.mpr dI;clear dI;obtain rfl:=Option.some.inj H;have OO:=Va.out;have LO:=Xa.out;have cz:wc.cell? ⟨Ga,0,none⟩=some (.int .i64 Uc):=(ga Ba.out 0).trans rfl;have bz:wc.cell? ⟨Ga,1,none⟩=some (.int .i64 Wb):=(ga Ba.out 1).trans rfl;have az:wc.cell? ⟨Ga,2,none⟩=some (.int .i64 Ob):=(ga Ba.out 2).trans rfl;have Zy:wc.cell? ⟨Ga,3,none⟩=some (.int .i64 Qb):=(ga Ba.out 3).trans rfl;have Yy:wc.cell? ⟨Ga,4,none⟩=some (.int .i64 Bc):=(ga Ba.out 4).trans rfl;have zV:wc.cell? ⟨Ga,5,none⟩=some (.int .i64 Ad):=(ga Ba.out 5).trans rfl;have yV:wc.cell? ⟨Ga,6,none⟩=some (.string Rd):=(ga Ba.out 6).trans rfl;have xy:=aa Ba.out 0;have uy:=aa Ba.out 1;have sy:=aa Ba.out 2;have ry:=aa Ba.out 3;have qy:=aa Ba.out 4;have dU:=aa Ba.out 5;have cU:=aa Ba.out 6;go_wp2;go_ret;exact ⟨by first|rfl|(simp [Na,Ma] <;> rfl)|(simp [*,Na,Ma] <;> rfl),by repeat (first|(with_reducible first|exact HB.out|apply ta|apply ja|apply ua|refine Aa ?_ Wa.out|refine Aa ?_ Jb.out)|exact HB.out)⟩
        ·rw [if_neg dI] at H;have mQ:(Ob == 0)=false:=beq_eq_false_iff_ne.mpr dI;have lQ:(Ob != 0)=true:=bne_iff_ne.mpr dI;obtain rfl:=Option.some.inj H;have Y7:=Va.out;have H7:=Xa.out;have sV:wc.cell? ⟨Ga,0,none⟩=some (.int .i64 Uc):=(ga Ba.out 0).trans rfl;have rV:wc.cell? ⟨Ga,1,none⟩=some (.int .i64 Wb):=(ga Ba.out 1).trans rfl;have qV:wc.cell? ⟨Ga,2,none⟩=some (.int .i64 Ob):=(ga Ba.out 2).trans rfl;have pV:wc.cell? ⟨Ga,3,none⟩=some (.int .i64 Qb):=(ga Ba.out 3).trans rfl;have oV:wc.cell? ⟨Ga,4,none⟩=some (.int .i64 Bc):=(ga Ba.out 4).trans rfl;have Dan:wc.cell? ⟨Ga,5,none⟩=some (.int .i64 Ad):=(ga Ba.out 5).trans rfl;have Ban:wc.cell? ⟨Ga,6,none⟩=some (.string Rd):=(ga Ba.out 6).trans rfl;have WT:=aa Ba.out 0;have VT:=aa Ba.out 1;have UT:=aa Ba.out 2;have TT:=aa Ba.out 3;have RT:=aa Ba.out 4;have xak:=aa Ba.out 5;have wak:=aa Ba.out 6;go_wp2;go_ret;exact ⟨by first|rfl|(simp [Na,Ma] <;> rfl)|(simp [*,Na,Ma] <;> rfl),by repeat (first|(with_reducible first|exact HB.out|apply ta|apply ja|apply ua|refine Aa ?_ Wa.out|refine Aa ?_ Jb.out)|exact HB.out)⟩
       ·replace kW:=Bool.eq_false_iff.mpr kW;subst kW;have H1:(some false)=some r:=by rw [if_neg (show ¬ (false=true) by decide)] at H;exact H
        clear H;have H:=H1;clear H1;obtain rfl:=Option.some.inj H;have W7:=Va.out;have F7:=Xa.out;have JK:wc.cell? ⟨Ga,0,none⟩=some (.int .i64 Uc):=(ga Ba.out 0).trans rfl;have IK:wc.cell? ⟨Ga,1,none⟩=some (.int .i64 Wb):=(ga Ba.out 1).trans rfl;have GK:wc.cell? ⟨Ga,2,none⟩=some (.int .i64 Ob):=(ga Ba.out 2).trans rfl;have EK:wc.cell? ⟨Ga,3,none⟩=some (.int .i64 Qb):=(ga Ba.out 3).trans rfl;have CK:wc.cell? ⟨Ga,4,none⟩=some (.int .i64 Bc):=(ga Ba.out 4).trans rfl;have Aan:wc.cell? ⟨Ga,5,none⟩=some (.int .i64 Ad):=(ga Ba.out 5).trans rfl;have zan:wc.cell? ⟨Ga,6,none⟩=some (.string Rd):=(ga Ba.out 6).trans rfl;have wJ:=aa Ba.out 0;have vJ:=aa Ba.out 1;have uJ:=aa Ba.out 2;have tJ:=aa Ba.out 3;have sJ:=aa Ba.out 4;have vak:=aa Ba.out 5;have uak:=aa Ba.out 6;go_wp2;go_ret;exact ⟨by first|rfl|(simp [Na,Ma] <;> rfl)|(simp [*,Na,Ma] <;> rfl),by repeat (first|(with_reducible first|exact HB.out|apply ta|apply ja|apply ua|refine Aa ?_ Wa.out|refine Aa ?_ Jb.out)|exact HB.out)⟩
      ·rw [if_neg eI] at H;have oQ:(Uc == 0)=false:=beq_eq_false_iff_ne.mpr eI;have nQ:(Uc != 0)=true:=bne_iff_ne.mpr eI
       by_cases Z2:Uc=1
       ·rw [if_pos Z2] at H;have uaf:(Uc == 1)=true:=beq_iff_eq.mpr Z2;have taf:(Uc != 1)=false:=bne_eq_false_iff_eq.mpr Z2;clear Z2
        by_cases c54:t103=true
        ·subst c54;have H1:(if t104=true then (if Qb=0 then (some (Ad == 0)) else (some false)) else (some false))=some r:=by rw [if_pos rfl] at H;exact H
         clear H;have H:=H1;clear H1
         by_cases c55:t104=true
         ·subst c55;have H1:(if Qb=0 then (some (Ad == 0)) else (some false))=some r:=by rw [if_pos rfl] at H;exact H
          clear H;have H:=H1;clear H1
          by_cases Y2:Qb=0
          ·rw [if_pos Y2] at H;have raf:(Qb == 0)=true:=beq_iff_eq.mpr Y2;have qaf:(Qb != 0)=false:=bne_eq_false_iff_eq.mpr Y2;clear Y2;obtain rfl:=Option.some.inj H;have mav:=Va.out;have Dau:=Xa.out;have rD:wc.cell? ⟨Ga,0,none⟩=some (.int .i64 Uc):=(ga Ba.out 0).trans rfl;have qD:wc.cell? ⟨Ga,1,none⟩=some (.int .i64 Wb):=(ga Ba.out 1).trans rfl;have oD:wc.cell? ⟨Ga,2,none⟩=some (.int .i64 Ob):=(ga Ba.out 2).trans rfl;have nD:wc.cell? ⟨Ga,3,none⟩=some (.int .i64 Qb):=(ga Ba.out 3).trans rfl;have mD:wc.cell? ⟨Ga,4,none⟩=some (.int .i64 Bc):=(ga Ba.out 4).trans rfl;have rK:wc.cell? ⟨Ga,5,none⟩=some (.int .i64 Ad):=(ga Ba.out 5).trans rfl;have qK:wc.cell? ⟨Ga,6,none⟩=some (.string Rd):=(ga Ba.out 6).trans rfl;have tC:=aa Ba.out 0;have sC:=aa Ba.out 1;have rC:=aa Ba.out 2;have qC:=aa Ba.out 3;have oC:=aa Ba.out 4;have hJ:=aa Ba.out 5;have gJ:=aa Ba.out 6;go_wp2;go_ret;exact ⟨by first|rfl|(simp [Na,Ma] <;> rfl)|(simp [*,Na,Ma] <;> rfl),by repeat (first|(with_reducible first|exact HB.out|apply ta|apply ja|apply ua|refine Aa ?_ Wa.out|refine Aa ?_ Jb.out)|exact HB.out)⟩
          ·rw [if_neg Y2] at H;have raf:(Qb == 0)=false:=beq_eq_false_iff_ne.mpr Y2;have qaf:(Qb != 0)=true:=bne_iff_ne.mpr Y2;obtain rfl:=Option.some.inj H;have lav:=Va.out;have Cau:=Xa.out;have lan:wc.cell? ⟨Ga,0,none⟩=some (.int .i64 Uc):=(ga Ba.out 0).trans rfl;have kan:wc.cell? ⟨Ga,1,none⟩=some (.int .i64 Wb):=(ga Ba.out 1).trans rfl;have jan:wc.cell? ⟨Ga,2,none⟩=some (.int .i64 Ob):=(ga Ba.out 2).trans rfl;have ian:wc.cell? ⟨Ga,3,none⟩=some (.int .i64 Qb):=(ga Ba.out 3).trans rfl;have han:wc.cell? ⟨Ga,4,none⟩=some (.int .i64 Bc):=(ga Ba.out 4).trans rfl;have gan:wc.cell? ⟨Ga,5,none⟩=some (.int .i64 Ad):=(ga Ba.out 5).trans rfl;have fan:wc.cell? ⟨Ga,6,none⟩=some (.string Rd):=(ga Ba.out 6).trans rfl;have jak:=aa Ba.out 0;have iak:=aa Ba.out 1;have hak:=aa Ba.out 2;have gak:=aa Ba.out 3;have fak:=aa Ba.out 4;have eak:=aa Ba.out 5;have dak:=aa Ba.out 6;go_wp2;go_ret;exact ⟨by first|rfl|(simp [Na,Ma] <;> rfl)|(simp [*,Na,Ma] <;> rfl),by repeat (first|(with_reducible first|exact HB.out|apply ta|apply ja|apply ua|refine Aa ?_ Wa.out|refine Aa ?_ Jb.out)|exact HB.out)⟩
         ·replace c55:=Bool.eq_false_iff.mpr c55;subst c55;have H1:(some false)=some r:=by rw [if_neg (show ¬ (false=true) by decide)] at H;exact H
          clear H;have H:=H1;clear H1;obtain rfl:=Option.some.inj H;have kav:=Va.out;have Bau:=Xa.out;have ean:wc.cell? ⟨Ga,0,none⟩=some (.int .i64 Uc):=(ga Ba.out 0).trans rfl;have dan:wc.cell? ⟨Ga,1,none⟩=some (.int .i64 Wb):=(ga Ba.out 1).trans rfl;have ban:wc.cell? ⟨Ga,2,none⟩=some (.int .i64 Ob):=(ga Ba.out 2).trans rfl;have aan:wc.cell? ⟨Ga,3,none⟩=some (.int .i64 Qb):=(ga Ba.out 3).trans rfl;have Zam:wc.cell? ⟨Ga,4,none⟩=some (.int .i64 Bc):=(ga Ba.out 4).trans rfl;have Yam:wc.cell? ⟨Ga,5,none⟩=some (.int .i64 Ad):=(ga Ba.out 5).trans rfl;have Xam:wc.cell? ⟨Ga,6,none⟩=some (.string Rd):=(ga Ba.out 6).trans rfl;have cak:=aa Ba.out 0;have bak:=aa Ba.out 1;have aak:=aa Ba.out 2;have Zaj:=aa Ba.out 3;have Yaj:=aa Ba.out 4;have Xaj:=aa Ba.out 5;have Waj:=aa Ba.out 6;go_wp2;go_ret;exact ⟨by first|rfl|(simp [Na,Ma] <;> rfl)|(simp [*,Na,Ma] <;> rfl),by repeat (first|(with_reducible first|exact HB.out|apply ta|apply ja|apply ua|refine Aa ?_ Wa.out|refine Aa ?_ Jb.out)|exact HB.out)⟩
        ·replace c54:=Bool.eq_false_iff.mpr c54;subst c54;have H1:(some false)=some r:=by rw [if_neg (show ¬ (false=true) by decide)] at H;exact H
         clear H;have H:=H1;clear H1;obtain rfl:=Option.some.inj H;have jav:=Va.out;have Aau:=Xa.out;have Wam:wc.cell? ⟨Ga,0,none⟩=some (.int .i64 Uc):=(ga Ba.out 0).trans rfl;have Vam:wc.cell? ⟨Ga,1,none⟩=some (.int .i64 Wb):=(ga Ba.out 1).trans rfl;have Uam:wc.cell? ⟨Ga,2,none⟩=some (.int .i64 Ob):=(ga Ba.out 2).trans rfl;have Tam:wc.cell? ⟨Ga,3,none⟩=some (.int .i64 Qb):=(ga Ba.out 3).trans rfl;have Sam:wc.cell? ⟨Ga,4,none⟩=some (.int .i64 Bc):=(ga Ba.out 4).trans rfl;have Ram:wc.cell? ⟨Ga,5,none⟩=some (.int .i64 Ad):=(ga Ba.out 5).trans rfl;have Qam:wc.cell? ⟨Ga,6,none⟩=some (.string Rd):=(ga Ba.out 6).trans rfl;have Vaj:=aa Ba.out 0;have Uaj:=aa Ba.out 1;have Taj:=aa Ba.out 2;have Saj:=aa Ba.out 3;have Raj:=aa Ba.out 4;have Qaj:=aa Ba.out 5;have Paj:=aa Ba.out 6;go_wp2;go_ret;exact ⟨by first|rfl|(simp [Na,Ma] <;> rfl)|(simp [*,Na,Ma] <;> rfl),by repeat (first|(with_reducible first|exact HB.out|apply ta|apply ja|apply ua|refine Aa ?_ Wa.out|refine Aa ?_ Jb.out)|exact HB.out)⟩
       ·rw [if_neg Z2] at H;have uaf:(Uc == 1)=false:=beq_eq_false_iff_ne.mpr Z2;have taf:(Uc != 1)=true:=bne_iff_ne.mpr Z2
        by_cases VM:Uc=2
        ·rw [if_pos VM] at H;have kQ:(Uc == 2)=true:=beq_iff_eq.mpr VM;have kaf:(Uc != 2)=false:=bne_eq_false_iff_eq.mpr VM;clear VM
         by_cases yS:t103=true
         ·subst yS;have H1:(if t104=true then (if t105=true then (if Ad=0 then ((jf.f uM (([(⟨#[61,61]⟩:ByteArray),(⟨#[60]⟩:ByteArray),(⟨#[38]⟩:ByteArray),(⟨#[43]⟩:ByteArray),(⟨#[45]⟩:ByteArray),(⟨#[42]⟩:ByteArray)]:List ByteArray)) Rd).bind fun t111=>(some t111)) else (some false)) else (some false)) else (some false))=some r:=by rw [if_pos rfl] at H;exact H
          clear H;have H:=H1;clear H1
          by_cases c67:t104=true
          ·subst c67;have H1:(if t105=true then (if Ad=0 then ((jf.f uM (([(⟨#[61,61]⟩:ByteArray),(⟨#[60]⟩:ByteArray),(⟨#[38]⟩:ByteArray),(⟨#[43]⟩:ByteArray),(⟨#[45]⟩:ByteArray),(⟨#[42]⟩:ByteArray)]:List ByteArray)) Rd).bind fun t111=>(some t111)) else (some false)) else (some false))=some r:=by rw [if_pos rfl] at H;exact H
           clear H;have H:=H1;clear H1
           by_cases c68:t105=true
           ·subst c68;have H1:(if Ad=0 then ((jf.f uM (([(⟨#[61,61]⟩:ByteArray),(⟨#[60]⟩:ByteArray),(⟨#[38]⟩:ByteArray),(⟨#[43]⟩:ByteArray),(⟨#[45]⟩:ByteArray),(⟨#[42]⟩:ByteArray)]:List ByteArray)) Rd).bind fun t111=>(some t111)) else (some false))=some r:=by rw [if_pos rfl] at H;exact H
            clear H;have H:=H1;clear H1
            by_cases X2:Ad=0
            ·rw [if_pos X2] at H;have haf:(Ad == 0)=true:=beq_iff_eq.mpr X2;have gaf:(Ad != 0)=false:=bne_eq_false_iff_eq.mpr X2;clear X2;obtain ⟨iM,Iq⟩:∃ y_:List ByteArray,y_=(([(⟨#[61,61]⟩:ByteArray),(⟨#[60]⟩:ByteArray),(⟨#[38]⟩:ByteArray),(⟨#[43]⟩:ByteArray),(⟨#[45]⟩:ByteArray),(⟨#[42]⟩:ByteArray)]:List ByteArray)):=⟨_,rfl⟩;replace H:((jf.f uM iM Rd).bind fun t111=>(some t111))=some r:=by first|(rw [Iq];with_reducible exact H)|(have lg:=(Option.bind_some _ _).symm.trans H;rw [Iq];with_reducible exact lg)|(have lg:=(Option.bind_some _ _).symm.trans H;with_reducible exact lg)|with_reducible exact H|(rw [Iq];exact H)|exact H
             have OL:=ia.mk Iq;clear Iq;replace H:=Option.bind_eq_some_iff.mp H;obtain ⟨t111,Vag,H⟩:=H;replace H:(some t111)=some r:=H;have VG:=ia.mk Vag;clear Vag;obtain rfl:=Option.some.inj H;have gav:=Va.out;have xau:=Xa.out;have Pam:wc.cell? ⟨Ga,0,none⟩=some (.int .i64 Uc):=(ga Ba.out 0).trans rfl;have Oam:wc.cell? ⟨Ga,1,none⟩=some (.int .i64 Wb):=(ga Ba.out 1).trans rfl;have Nam:wc.cell? ⟨Ga,2,none⟩=some (.int .i64 Ob):=(ga Ba.out 2).trans rfl;have Mam:wc.cell? ⟨Ga,3,none⟩=some (.int .i64 Qb):=(ga Ba.out 3).trans rfl;have Lam:wc.cell? ⟨Ga,4,none⟩=some (.int .i64 Bc):=(ga Ba.out 4).trans rfl;have Kam:wc.cell? ⟨Ga,5,none⟩=some (.int .i64 Ad):=(ga Ba.out 5).trans rfl;have Jam:wc.cell? ⟨Ga,6,none⟩=some (.string Rd):=(ga Ba.out 6).trans rfl;have Oaj:=aa Ba.out 0;have Naj:=aa Ba.out 1;have Maj:=aa Ba.out 2;have Laj:=aa Ba.out 3;have Kaj:=aa Ba.out 4;have Jaj:=aa Ba.out 5;have Iaj:=aa Ba.out 6;go_wp2_with (first|((with_reducible refine Ib (N:=109) rfl ?_);(try (refine Ti (by rfl) ?_;dsimp only));refine Kd.Dt Kd.string _ 9 ?hg (N:=109) ?hd (xs:=([(⟨#[61,61]⟩:ByteArray),(⟨#[60]⟩:ByteArray),(⟨#[38]⟩:ByteArray),(⟨#[43]⟩:ByteArray),(⟨#[45]⟩:ByteArray),(⟨#[42]⟩:ByteArray)]:List ByteArray)) (inner:=[.string (⟨#[61,61]⟩:ByteArray),.string (⟨#[60]⟩:ByteArray),.string (⟨#[38]⟩:ByteArray),.string (⟨#[43]⟩:ByteArray),.string (⟨#[45]⟩:ByteArray),.string (⟨#[42]⟩:ByteArray)]) (ok:=fun _=>True) (zk:=fun _=>True) ?hr ?hp (fun _ hk=>hk) trivial (Below.refl _ _) (Nat.le_refl _) (by simp) ?_;(case hd=>rfl);(case hg=>rfl);(case hr=>first|(go_simp;done)|(go_simp;rfl));(case hp=>exact (af.one (show Kd.M Kd.string _ _ _ (⟨#[61,61]⟩:ByteArray) [.string (⟨#[61,61]⟩:ByteArray)] from rfl) (af.one (show Kd.M Kd.string _ _ _ (⟨#[60]⟩:ByteArray) [.string (⟨#[60]⟩:ByteArray)] from rfl) (af.one (show Kd.M Kd.string _ _ _ (⟨#[38]⟩:ByteArray) [.string (⟨#[38]⟩:ByteArray)] from rfl) (af.one (show Kd.M Kd.string _ _ _ (⟨#[43]⟩:ByteArray) [.string (⟨#[43]⟩:ByteArray)] from rfl) (af.one (show Kd.M Kd.string _ _ _ (⟨#[45]⟩:ByteArray) [.string (⟨#[45]⟩:ByteArray)] from rfl) (af.one (show Kd.M Kd.string _ _ _ (⟨#[42]⟩:ByteArray) [.string (⟨#[42]⟩:ByteArray)] from rfl) (af.none _ _))))))));intro uay cZ EO hb jA Fj;clear jA Fj;(first|rw [← OL.out] at EO|(simp only [Int.reduceToNat] at EO;rw [← OL.out] at EO));have Kb:=ia.mk (Kd.xh EO (Sa (by repeat (first|(with_reducible first|exact HB.out|apply ta|apply ja|apply ua|refine Aa ?_ Wa.out|refine Aa ?_ Jb.out)|exact HB.out))));have Ub:=ia.mk (Ta (g:=Da) (o:=.cells #[.slice zb Ua.length yb,.int .i64 Ja,.int .i64 La,.int .i64 Pa,.slice Yb Qa.length Nb] 30 (0,0)) (by (with_reducible repeat (first|refine za ?_ _|refine Ca ?_|refine ya ?_ _));exact qa.out) hb);have qc:=ia.mk (Ta (g:=Ga) (o:=.cells #[.int .i64 Uc,.int .i64 Wb,.int .i64 Ob,.int .i64 Qb,.int .i64 Bc,.int .i64 Ad,.string Rd] 70 (0,0)) (by (with_reducible repeat (first|refine za ?_ _|refine Ca ?_|refine ya ?_ _));exact Ba.out) hb);have Rc:=ia.mk (Ra (by repeat (first|(with_reducible first|exact HB.out|apply ta|apply ja|apply ua|refine Aa ?_ Wa.out|refine Aa ?_ Jb.out)|exact HB.out)) hb);clear qa Ba HB;have dS:=Kb;have qa:=Ub;have Ba:=qc;have HB:=Rc;clear Kb Ub qc Rc hb EO;have Iam:cZ.cell? ⟨Ga,0,none⟩=some (.int .i64 Uc):=(ga Ba.out 0).trans rfl;have Ham:cZ.cell? ⟨Ga,1,none⟩=some (.int .i64 Wb):=(ga Ba.out 1).trans rfl;have Gam:cZ.cell? ⟨Ga,2,none⟩=some (.int .i64 Ob):=(ga Ba.out 2).trans rfl;have Fam:cZ.cell? ⟨Ga,3,none⟩=some (.int .i64 Qb):=(ga Ba.out 3).trans rfl;have Eam:cZ.cell? ⟨Ga,4,none⟩=some (.int .i64 Bc):=(ga Ba.out 4).trans rfl;have Dam:cZ.cell? ⟨Ga,5,none⟩=some (.int .i64 Ad):=(ga Ba.out 5).trans rfl;have Cam:cZ.cell? ⟨Ga,6,none⟩=some (.string Rd):=(ga Ba.out 6).trans rfl;have Haj:=aa Ba.out 0;have Gaj:=aa Ba.out 1;have Faj:=aa Ba.out 2;have Eaj:=aa Ba.out 3;have Daj:=aa Ba.out 4;have Caj:=aa Ba.out 5;have Baj:=aa Ba.out 6;obtain ⟨CaA,Caz,Har⟩:=Kd.Oe dS.out;subst Har)|(go_at_call 128;(with_reducible refine (jf.calls uM _ _ iM Rd t111 _ ?td ?qd VG.out).mono ?_);(case td=>repeat (first|exact (Kd.oc dS.out).2.2|(with_reducible refine Kd.Gc ?_ _)|(with_reducible refine Kd.Fc ?_ _)|(with_reducible refine Kd.xd ?_)));(case qd=>exact (Kd.oc dS.out).2.1);rintro e w' ⟨rfl,⟨nd,rfl⟩⟩));go_ret;exact ⟨by first|rfl|(simp [Na,Ma] <;> rfl)|(simp [*,Na,Ma] <;> rfl),by repeat (first|(with_reducible first|exact HB.out|apply ta|apply ja|apply ua|refine Aa ?_ Wa.out|refine Aa ?_ Jb.out)|exact HB.out)⟩
            ·rw [if_neg X2] at H;have haf:(Ad == 0)=false:=beq_eq_false_iff_ne.mpr X2;have gaf:(Ad != 0)=true:=bne_iff_ne.mpr X2;obtain rfl:=Option.some.inj H;have eav:=Va.out;have vau:=Xa.out;have Bam:wc.cell? ⟨Ga,0,none⟩=some (.int .i64 Uc):=(ga Ba.out 0).trans rfl;have Aam:wc.cell? ⟨Ga,1,none⟩=some (.int .i64 Wb):=(ga Ba.out 1).trans rfl;have zam:wc.cell? ⟨Ga,2,none⟩=some (.int .i64 Ob):=(ga Ba.out 2).trans rfl;have yam:wc.cell? ⟨Ga,3,none⟩=some (.int .i64 Qb):=(ga Ba.out 3).trans rfl;have xam:wc.cell? ⟨Ga,4,none⟩=some (.int .i64 Bc):=(ga Ba.out 4).trans rfl;have wam:wc.cell? ⟨Ga,5,none⟩=some (.int .i64 Ad):=(ga Ba.out 5).trans rfl;have vam:wc.cell? ⟨Ga,6,none⟩=some (.string Rd):=(ga Ba.out 6).trans rfl;have Aaj:=aa Ba.out 0;have zaj:=aa Ba.out 1;have yaj:=aa Ba.out 2;have xaj:=aa Ba.out 3;have waj:=aa Ba.out 4;have vaj:=aa Ba.out 5;have uaj:=aa Ba.out 6;go_wp2;go_ret;exact ⟨by first|rfl|(simp [Na,Ma] <;> rfl)|(simp [*,Na,Ma] <;> rfl),by repeat (first|(with_reducible first|exact HB.out|apply ta|apply ja|apply ua|refine Aa ?_ Wa.out|refine Aa ?_ Jb.out)|exact HB.out)⟩
           ·replace c68:=Bool.eq_false_iff.mpr c68;subst c68;have H1:(some false)=some r:=by rw [if_neg (show ¬ (false=true) by decide)] at H;exact H
            clear H;have H:=H1;clear H1;obtain rfl:=Option.some.inj H;have dav:=Va.out;have uau:=Xa.out;have uam:wc.cell? ⟨Ga,0,none⟩=some (.int .i64 Uc):=(ga Ba.out 0).trans rfl;have tam:wc.cell? ⟨Ga,1,none⟩=some (.int .i64 Wb):=(ga Ba.out 1).trans rfl;have sam:wc.cell? ⟨Ga,2,none⟩=some (.int .i64 Ob):=(ga Ba.out 2).trans rfl;have ram:wc.cell? ⟨Ga,3,none⟩=some (.int .i64 Qb):=(ga Ba.out 3).trans rfl;have qam:wc.cell? ⟨Ga,4,none⟩=some (.int .i64 Bc):=(ga Ba.out 4).trans rfl;have pam:wc.cell? ⟨Ga,5,none⟩=some (.int .i64 Ad):=(ga Ba.out 5).trans rfl;have oam:wc.cell? ⟨Ga,6,none⟩=some (.string Rd):=(ga Ba.out 6).trans rfl;have taj:=aa Ba.out 0;have saj:=aa Ba.out 1;have raj:=aa Ba.out 2;have qaj:=aa Ba.out 3;have paj:=aa Ba.out 4;have oaj:=aa Ba.out 5;have naj:=aa Ba.out 6;go_wp2;go_ret;exact ⟨by first|rfl|(simp [Na,Ma] <;> rfl)|(simp [*,Na,Ma] <;> rfl),by repeat (first|(with_reducible first|exact HB.out|apply ta|apply ja|apply ua|refine Aa ?_ Wa.out|refine Aa ?_ Jb.out)|exact HB.out)⟩
          ·replace c67:=Bool.eq_false_iff.mpr c67;subst c67;have H1:(some false)=some r:=by rw [if_neg (show ¬ (false=true) by decide)] at H;exact H
           clear H;have H:=H1;clear H1;obtain rfl:=Option.some.inj H;have cav:=Va.out;have tau:=Xa.out;have nam:wc.cell? ⟨Ga,0,none⟩=some (.int .i64 Uc):=(ga Ba.out 0).trans rfl;have mam:wc.cell? ⟨Ga,1,none⟩=some (.int .i64 Wb):=(ga Ba.out 1).trans rfl;have kam:wc.cell? ⟨Ga,2,none⟩=some (.int .i64 Ob):=(ga Ba.out 2).trans rfl;have jam:wc.cell? ⟨Ga,3,none⟩=some (.int .i64 Qb):=(ga Ba.out 3).trans rfl;have iam:wc.cell? ⟨Ga,4,none⟩=some (.int .i64 Bc):=(ga Ba.out 4).trans rfl;have ham:wc.cell? ⟨Ga,5,none⟩=some (.int .i64 Ad):=(ga Ba.out 5).trans rfl;have gam:wc.cell? ⟨Ga,6,none⟩=some (.string Rd):=(ga Ba.out 6).trans rfl;have maj:=aa Ba.out 0;have laj:=aa Ba.out 1;have kaj:=aa Ba.out 2;have jaj:=aa Ba.out 3;have iaj:=aa Ba.out 4;have haj:=aa Ba.out 5;have gaj:=aa Ba.out 6;go_wp2;go_ret;exact ⟨by first|rfl|(simp [Na,Ma] <;> rfl)|(simp [*,Na,Ma] <;> rfl),by repeat (first|(with_reducible first|exact HB.out|apply ta|apply ja|apply ua|refine Aa ?_ Wa.out|refine Aa ?_ Jb.out)|exact HB.out)⟩
         ·replace yS:=Bool.eq_false_iff.mpr yS;subst yS;have H1:(some false)=some r:=by rw [if_neg (show ¬ (false=true) by decide)] at H;exact H
          clear H;have H:=H1;clear H1;obtain rfl:=Option.some.inj H;have bav:=Va.out;have sau:=Xa.out;have fam:wc.cell? ⟨Ga,0,none⟩=some (.int .i64 Uc):=(ga Ba.out 0).trans rfl;have eam:wc.cell? ⟨Ga,1,none⟩=some (.int .i64 Wb):=(ga Ba.out 1).trans rfl;have dam:wc.cell? ⟨Ga,2,none⟩=some (.int .i64 Ob):=(ga Ba.out 2).trans rfl;have cam:wc.cell? ⟨Ga,3,none⟩=some (.int .i64 Qb):=(ga Ba.out 3).trans rfl;have bam:wc.cell? ⟨Ga,4,none⟩=some (.int .i64 Bc):=(ga Ba.out 4).trans rfl;have aam:wc.cell? ⟨Ga,5,none⟩=some (.int .i64 Ad):=(ga Ba.out 5).trans rfl;have Zal:wc.cell? ⟨Ga,6,none⟩=some (.string Rd):=(ga Ba.out 6).trans rfl;have faj:=aa Ba.out 0;have eaj:=aa Ba.out 1;have daj:=aa Ba.out 2;have caj:=aa Ba.out 3;have baj:=aa Ba.out 4;have aaj:=aa Ba.out 5;have Zai:=aa Ba.out 6;go_wp2;go_ret;exact ⟨by first|rfl|(simp [Na,Ma] <;> rfl)|(simp [*,Na,Ma] <;> rfl),by repeat (first|(with_reducible first|exact HB.out|apply ta|apply ja|apply ua|refine Aa ?_ Wa.out|refine Aa ?_ Jb.out)|exact HB.out)⟩
        ·rw [if_neg VM] at H;have kQ:(Uc == 2)=false:=beq_eq_false_iff_ne.mpr VM;have kaf:(Uc != 2)=true:=bne_iff_ne.mpr VM
         by_cases V2:Uc=3
         ·rw [if_pos V2] at H;have faf:(Uc == 3)=true:=beq_iff_eq.mpr V2;have eaf:(Uc != 3)=false:=bne_eq_false_iff_eq.mpr V2;clear V2
          by_cases jW:t103=true
          ·subst jW;have H1:(some cF)=some r:=by rw [if_pos rfl] at H;exact H
           clear H;have H:=H1;clear H1;obtain rfl:=Option.some.inj H;have aav:=Va.out;have rau:=Xa.out;have Yal:wc.cell? ⟨Ga,0,none⟩=some (.int .i64 Uc):=(ga Ba.out 0).trans rfl;have Xal:wc.cell? ⟨Ga,1,none⟩=some (.int .i64 Wb):=(ga Ba.out 1).trans rfl;have Wal:wc.cell? ⟨Ga,2,none⟩=some (.int .i64 Ob):=(ga Ba.out 2).trans rfl;have Ual:wc.cell? ⟨Ga,3,none⟩=some (.int .i64 Qb):=(ga Ba.out 3).trans rfl;have Tal:wc.cell? ⟨Ga,4,none⟩=some (.int .i64 Bc):=(ga Ba.out 4).trans rfl;have Sal:wc.cell? ⟨Ga,5,none⟩=some (.int .i64 Ad):=(ga Ba.out 5).trans rfl;have Ral:wc.cell? ⟨Ga,6,none⟩=some (.string Rd):=(ga Ba.out 6).trans rfl;have Yai:=aa Ba.out 0;have Xai:=aa Ba.out 1;have Wai:=aa Ba.out 2;have Vai:=aa Ba.out 3;have Uai:=aa Ba.out 4;have Tai:=aa Ba.out 5;have Sai:=aa Ba.out 6;go_wp2;go_ret;exact ⟨by first|rfl|(simp [Na,Ma] <;> rfl)|(simp [*,Na,Ma] <;> rfl),by repeat (first|(with_reducible first|exact HB.out|apply ta|apply ja|apply ua|refine Aa ?_ Wa.out|refine Aa ?_ Jb.out)|exact HB.out)⟩
          ·replace jW:=Bool.eq_false_iff.mpr jW;subst jW;have H1:(some false)=some r:=by rw [if_neg (show ¬ (false=true) by decide)] at H;exact H
           clear H;have H:=H1;clear H1;obtain rfl:=Option.some.inj H;have Zau:=Va.out;have qau:=Xa.out;have Qal:wc.cell? ⟨Ga,0,none⟩=some (.int .i64 Uc):=(ga Ba.out 0).trans rfl;have Pal:wc.cell? ⟨Ga,1,none⟩=some (.int .i64 Wb):=(ga Ba.out 1).trans rfl;have Oal:wc.cell? ⟨Ga,2,none⟩=some (.int .i64 Ob):=(ga Ba.out 2).trans rfl;have Nal:wc.cell? ⟨Ga,3,none⟩=some (.int .i64 Qb):=(ga Ba.out 3).trans rfl;have Mal:wc.cell? ⟨Ga,4,none⟩=some (.int .i64 Bc):=(ga Ba.out 4).trans rfl;have Lal:wc.cell? ⟨Ga,5,none⟩=some (.int .i64 Ad):=(ga Ba.out 5).trans rfl;have Kal:wc.cell? ⟨Ga,6,none⟩=some (.string Rd):=(ga Ba.out 6).trans rfl;have Rai:=aa Ba.out 0;have Qai:=aa Ba.out 1;have Pai:=aa Ba.out 2;have Oai:=aa Ba.out 3;have Nai:=aa Ba.out 4;have Mai:=aa Ba.out 5;have Lai:=aa Ba.out 6;go_wp2;go_ret;exact ⟨by first|rfl|(simp [Na,Ma] <;> rfl)|(simp [*,Na,Ma] <;> rfl),by repeat (first|(with_reducible first|exact HB.out|apply ta|apply ja|apply ua|refine Aa ?_ Wa.out|refine Aa ?_ Jb.out)|exact HB.out)⟩
         ·rw [if_neg V2] at H;have faf:(Uc == 3)=false:=beq_eq_false_iff_ne.mpr V2;have eaf:(Uc != 3)=true:=bne_iff_ne.mpr V2
          by_cases U2:Uc=4
          ·rw [if_pos U2] at H;have daf:(Uc == 4)=true:=beq_iff_eq.mpr U2;have caf:(Uc != 4)=false:=bne_eq_false_iff_eq.mpr U2;clear U2
           by_cases R2:Wb=0
           ·rw [if_pos R2] at H;have baf:(Wb == 0)=true:=beq_iff_eq.mpr R2;have aaf:(Wb != 0)=false:=bne_eq_false_iff_eq.mpr R2;clear R2
            by_cases c93:cF=true
            ·subst c93;have H1:((Za.f Bc 0 (wrap64 (Pa - 1))).bind fun t112=>(some t112))=some r:=by rw [if_pos rfl] at H;exact H
             clear H;have H:=H1;clear H1;replace H:=Option.bind_eq_some_iff.mp H;obtain ⟨t112,Rag,H⟩:=H;replace H:(some t112)=some r:=H;have A94:=ia.mk Rag;clear Rag;obtain rfl:=Option.some.inj H;have Yau:=Va.out;have pau:=Xa.out;have Jal:wc.cell? ⟨Ga,0,none⟩=some (.int .i64 Uc):=(ga Ba.out 0).trans rfl;have Ial:wc.cell? ⟨Ga,1,none⟩=some (.int .i64 Wb):=(ga Ba.out 1).trans rfl;have Hal:wc.cell? ⟨Ga,2,none⟩=some (.int .i64 Ob):=(ga Ba.out 2).trans rfl;have Gal:wc.cell? ⟨Ga,3,none⟩=some (.int .i64 Qb):=(ga Ba.out 3).trans rfl;have Fal:wc.cell? ⟨Ga,4,none⟩=some (.int .i64 Bc):=(ga Ba.out 4).trans rfl;have Eal:wc.cell? ⟨Ga,5,none⟩=some (.int .i64 Ad):=(ga Ba.out 5).trans rfl;have Dal:wc.cell? ⟨Ga,6,none⟩=some (.string Rd):=(ga Ba.out 6).trans rfl;have Kai:=aa Ba.out 0;have Jai:=aa Ba.out 1;have Iai:=aa Ba.out 2;have Hai:=aa Ba.out 3;have Gai:=aa Ba.out 4;have Fai:=aa Ba.out 5;have Eai:=aa Ba.out 6;have Cal:wc.cell? ⟨Da,0,none⟩=some (.slice zb Ua.length yb):=(ga qa.out 0).trans rfl;have Bal:wc.cell? ⟨Da,1,none⟩=some (.int .i64 Ja):=(ga qa.out 1).trans rfl;have Aal:wc.cell? ⟨Da,2,none⟩=some (.int .i64 La):=(ga qa.out 2).trans rfl;have zal:wc.cell? ⟨Da,3,none⟩=some (.int .i64 Pa):=(ga qa.out 3).trans rfl;have yal:wc.cell? ⟨Da,4,none⟩=some (.slice Yb Qa.length Nb):=(ga qa.out 4).trans rfl;have Dai:=aa qa.out 0;have Cai:=aa qa.out 1;have Bai:=aa qa.out 2;have Aai:=aa qa.out 3;have zai:=aa qa.out 4;go_wp2_with (first|(go_at_call 54;(with_reducible refine (Za.calls Bc 0 (wrap64 (Pa - 1)) t112 _ A94.out).mono ?_);rintro e w' ⟨rfl,⟨nd,rfl⟩⟩));go_ret;exact ⟨by first|rfl|(simp [Na,Ma] <;> rfl)|(simp [*,Na,Ma] <;> rfl),by repeat (first|(with_reducible first|exact HB.out|apply ta|apply ja|apply ua|refine Aa ?_ Wa.out|refine Aa ?_ Jb.out)|exact HB.out)⟩
            ·replace c93:=Bool.eq_false_iff.mpr c93;subst c93;have H1:(some false)=some r:=by rw [if_neg (show ¬ (false=true) by decide)] at H;exact H
             clear H;have H:=H1;clear H1;obtain rfl:=Option.some.inj H;have Wau:=Va.out;have nau:=Xa.out;have pal:wc.cell? ⟨Ga,0,none⟩=some (.int .i64 Uc):=(ga Ba.out 0).trans rfl;have oal:wc.cell? ⟨Ga,1,none⟩=some (.int .i64 Wb):=(ga Ba.out 1).trans rfl;have nal:wc.cell? ⟨Ga,2,none⟩=some (.int .i64 Ob):=(ga Ba.out 2).trans rfl;have mal:wc.cell? ⟨Ga,3,none⟩=some (.int .i64 Qb):=(ga Ba.out 3).trans rfl;have lal:wc.cell? ⟨Ga,4,none⟩=some (.int .i64 Bc):=(ga Ba.out 4).trans rfl;have kal:wc.cell? ⟨Ga,5,none⟩=some (.int .i64 Ad):=(ga Ba.out 5).trans rfl;have jal:wc.cell? ⟨Ga,6,none⟩=some (.string Rd):=(ga Ba.out 6).trans rfl;have rai:=aa Ba.out 0;have qai:=aa Ba.out 1;have pai:=aa Ba.out 2;have oai:=aa Ba.out 3;have nai:=aa Ba.out 4;have mai:=aa Ba.out 5;have lai:=aa Ba.out 6;go_wp2;go_ret;exact ⟨by first|rfl|(simp [Na,Ma] <;> rfl)|(simp [*,Na,Ma] <;> rfl),by repeat (first|(with_reducible first|exact HB.out|apply ta|apply ja|apply ua|refine Aa ?_ Wa.out|refine Aa ?_ Jb.out)|exact HB.out)⟩
           ·rw [if_neg R2] at H;have baf:(Wb == 0)=false:=beq_eq_false_iff_ne.mpr R2;have aaf:(Wb != 0)=true:=bne_iff_ne.mpr R2;obtain rfl:=Option.some.inj H;have xaq:=Va.out;have iaq:=Xa.out;have eae:wc.cell? ⟨Ga,0,none⟩=some (.int .i64 Uc):=(ga Ba.out 0).trans rfl;have dae:wc.cell? ⟨Ga,1,none⟩=some (.int .i64 Wb):=(ga Ba.out 1).trans rfl;have cae:wc.cell? ⟨Ga,2,none⟩=some (.int .i64 Ob):=(ga Ba.out 2).trans rfl;have bae:wc.cell? ⟨Ga,3,none⟩=some (.int .i64 Qb):=(ga Ba.out 3).trans rfl;have aae:wc.cell? ⟨Ga,4,none⟩=some (.int .i64 Bc):=(ga Ba.out 4).trans rfl;have Zad:wc.cell? ⟨Ga,5,none⟩=some (.int .i64 Ad):=(ga Ba.out 5).trans rfl;have Yad:wc.cell? ⟨Ga,6,none⟩=some (.string Rd):=(ga Ba.out 6).trans rfl;have cab:=aa Ba.out 0;have bab:=aa Ba.out 1;have aab:=aa Ba.out 2;have Zaa:=aa Ba.out 3;have Yaa:=aa Ba.out 4;have Xaa:=aa Ba.out 5;have Waa:=aa Ba.out 6;go_wp2;go_ret;exact ⟨by first|rfl|(simp [Na,Ma] <;> rfl)|(simp [*,Na,Ma] <;> rfl),by repeat (first|(with_reducible first|exact HB.out|apply ta|apply ja|apply ua|refine Aa ?_ Wa.out|refine Aa ?_ Jb.out)|exact HB.out)⟩
          ·rw [if_neg U2] at H;have daf:(Uc == 4)=false:=beq_eq_false_iff_ne.mpr U2;have caf:(Uc != 4)=true:=bne_iff_ne.mpr U2
           by_cases nI:Uc=5
           ·rw [if_pos nI] at H;have O3:(Uc == 5)=true:=beq_iff_eq.mpr nI;have N3:(Uc != 5)=false:=bne_eq_false_iff_eq.mpr nI;clear nI
            by_cases rW:t103=true
            ·subst rW;have H1:(if Ob=0 then (if Qb=0 then (some (Ad == 0)) else (some false)) else (some false))=some r:=by rw [if_pos rfl] at H;exact H
             clear H;have H:=H1;clear H1
             by_cases mI:Ob=0
             ·rw [if_pos mI] at H;have L3:(Ob == 0)=true:=beq_iff_eq.mpr mI;have K3:(Ob != 0)=false:=bne_eq_false_iff_eq.mpr mI;clear mI
              by_cases lI:Qb=0
              ·rw [if_pos lI] at H;have J3:(Qb == 0)=true:=beq_iff_eq.mpr lI;have I3:(Qb != 0)=false:=bne_eq_false_iff_eq.mpr lI;clear lI;obtain rfl:=Option.some.inj H;have waq:=Va.out;have haq:=Xa.out;have GP:wc.cell? ⟨Ga,0,none⟩=some (.int .i64 Uc):=(ga Ba.out 0).trans rfl;have FP:wc.cell? ⟨Ga,1,none⟩=some (.int .i64 Wb):=(ga Ba.out 1).trans rfl;have EP:wc.cell? ⟨Ga,2,none⟩=some (.int .i64 Ob):=(ga Ba.out 2).trans rfl;have DP:wc.cell? ⟨Ga,3,none⟩=some (.int .i64 Qb):=(ga Ba.out 3).trans rfl;have CP:wc.cell? ⟨Ga,4,none⟩=some (.int .i64 Bc):=(ga Ba.out 4).trans rfl;have BP:wc.cell? ⟨Ga,5,none⟩=some (.int .i64 Ad):=(ga Ba.out 5).trans rfl;have AP:wc.cell? ⟨Ga,6,none⟩=some (.string Rd):=(ga Ba.out 6).trans rfl;have jP:=aa Ba.out 0;have iP:=aa Ba.out 1;have gP:=aa Ba.out 2;have fP:=aa Ba.out 3;have eP:=aa Ba.out 4;have dP:=aa Ba.out 5;have cP:=aa Ba.out 6;go_wp2;go_ret;exact ⟨by first|rfl|(simp [Na,Ma] <;> rfl)|(simp [*,Na,Ma] <;> rfl),by repeat (first|(with_reducible first|exact HB.out|apply ta|apply ja|apply ua|refine Aa ?_ Wa.out|refine Aa ?_ Jb.out)|exact HB.out)⟩
              ·rw [if_neg lI] at H;have J3:(Qb == 0)=false:=beq_eq_false_iff_ne.mpr lI;have I3:(Qb != 0)=true:=bne_iff_ne.mpr lI;obtain rfl:=Option.some.inj H;have vaq:=Va.out;have gaq:=Xa.out;have Jad:wc.cell? ⟨Ga,0,none⟩=some (.int .i64 Uc):=(ga Ba.out 0).trans rfl;have Iad:wc.cell? ⟨Ga,1,none⟩=some (.int .i64 Wb):=(ga Ba.out 1).trans rfl;have Had:wc.cell? ⟨Ga,2,none⟩=some (.int .i64 Ob):=(ga Ba.out 2).trans rfl;have Gad:wc.cell? ⟨Ga,3,none⟩=some (.int .i64 Qb):=(ga Ba.out 3).trans rfl;have Fad:wc.cell? ⟨Ga,4,none⟩=some (.int .i64 Bc):=(ga Ba.out 4).trans rfl;have Ead:wc.cell? ⟨Ga,5,none⟩=some (.int .i64 Ad):=(ga Ba.out 5).trans rfl;have Dad:wc.cell? ⟨Ga,6,none⟩=some (.string Rd):=(ga Ba.out 6).trans rfl;have Haa:=aa Ba.out 0;have Gaa:=aa Ba.out 1;have Faa:=aa Ba.out 2;have Eaa:=aa Ba.out 3;have Daa:=aa Ba.out 4;have Caa:=aa Ba.out 5;have Baa:=aa Ba.out 6;go_wp2;go_ret;exact ⟨by first|rfl|(simp [Na,Ma] <;> rfl)|(simp [*,Na,Ma] <;> rfl),by repeat (first|(with_reducible first|exact HB.out|apply ta|apply ja|apply ua|refine Aa ?_ Wa.out|refine Aa ?_ Jb.out)|exact HB.out)⟩
             ·rw [if_neg mI] at H;have L3:(Ob == 0)=false:=beq_eq_false_iff_ne.mpr mI;have K3:(Ob != 0)=true:=bne_iff_ne.mpr mI;obtain rfl:=Option.some.inj H;have uaq:=Va.out;have faq:=Xa.out;have Cad:wc.cell? ⟨Ga,0,none⟩=some (.int .i64 Uc):=(ga Ba.out 0).trans rfl;have Bad:wc.cell? ⟨Ga,1,none⟩=some (.int .i64 Wb):=(ga Ba.out 1).trans rfl;have Aad:wc.cell? ⟨Ga,2,none⟩=some (.int .i64 Ob):=(ga Ba.out 2).trans rfl;have zad:wc.cell? ⟨Ga,3,none⟩=some (.int .i64 Qb):=(ga Ba.out 3).trans rfl;have yad:wc.cell? ⟨Ga,4,none⟩=some (.int .i64 Bc):=(ga Ba.out 4).trans rfl;have xad:wc.cell? ⟨Ga,5,none⟩=some (.int .i64 Ad):=(ga Ba.out 5).trans rfl;have wad:wc.cell? ⟨Ga,6,none⟩=some (.string Rd):=(ga Ba.out 6).trans rfl;have Aaa:=aa Ba.out 0;have zaa:=aa Ba.out 1;have yaa:=aa Ba.out 2;have xaa:=aa Ba.out 3;have waa:=aa Ba.out 4;have vaa:=aa Ba.out 5;have uaa:=aa Ba.out 6;go_wp2;go_ret;exact ⟨by first|rfl|(simp [Na,Ma] <;> rfl)|(simp [*,Na,Ma] <;> rfl),by repeat (first|(with_reducible first|exact HB.out|apply ta|apply ja|apply ua|refine Aa ?_ Wa.out|refine Aa ?_ Jb.out)|exact HB.out)⟩
            ·replace rW:=Bool.eq_false_iff.mpr rW;subst rW;have H1:(some false)=some r:=by rw [if_neg (show ¬ (false=true) by decide)] at H;exact H
             clear H;have H:=H1;clear H1;obtain rfl:=Option.some.inj H;have taq:=Va.out;have eaq:=Xa.out;have vad:wc.cell? ⟨Ga,0,none⟩=some (.int .i64 Uc):=(ga Ba.out 0).trans rfl;have uad:wc.cell? ⟨Ga,1,none⟩=some (.int .i64 Wb):=(ga Ba.out 1).trans rfl;have tad:wc.cell? ⟨Ga,2,none⟩=some (.int .i64 Ob):=(ga Ba.out 2).trans rfl;have sad:wc.cell? ⟨Ga,3,none⟩=some (.int .i64 Qb):=(ga Ba.out 3).trans rfl;have rad:wc.cell? ⟨Ga,4,none⟩=some (.int .i64 Bc):=(ga Ba.out 4).trans rfl;have qad:wc.cell? ⟨Ga,5,none⟩=some (.int .i64 Ad):=(ga Ba.out 5).trans rfl;have oad:wc.cell? ⟨Ga,6,none⟩=some (.string Rd):=(ga Ba.out 6).trans rfl;have taa:=aa Ba.out 0;have saa:=aa Ba.out 1;have raa:=aa Ba.out 2;have qaa:=aa Ba.out 3;have paa:=aa Ba.out 4;have oaa:=aa Ba.out 5;have naa:=aa Ba.out 6;go_wp2;go_ret;exact ⟨by first|rfl|(simp [Na,Ma] <;> rfl)|(simp [*,Na,Ma] <;> rfl),by repeat (first|(with_reducible first|exact HB.out|apply ta|apply ja|apply ua|refine Aa ?_ Wa.out|refine Aa ?_ Jb.out)|exact HB.out)⟩
           ·rw [if_neg nI] at H;have O3:(Uc == 5)=false:=beq_eq_false_iff_ne.mpr nI;have N3:(Uc != 5)=true:=bne_iff_ne.mpr nI
            by_cases kI:Uc=6
            ·rw [if_pos kI] at H;have F3:(Uc == 6)=true:=beq_iff_eq.mpr kI;have E3:(Uc != 6)=false:=bne_eq_false_iff_eq.mpr kI;clear kI
             by_cases jI:Wb=0
             ·rw [if_pos jI] at H;have D3:(Wb == 0)=true:=beq_iff_eq.mpr jI;have C3:(Wb != 0)=false:=bne_eq_false_iff_eq.mpr jI;clear jI
              by_cases qW:t104=true
              ·subst qW;have H1:(if Qb=0 then (some (Ad == 0)) else (some false))=some r:=by rw [if_pos rfl] at H;exact H
               clear H;have H:=H1;clear H1
               by_cases iI:Qb=0
               ·rw [if_pos iI] at H;have B3:(Qb == 0)=true:=beq_iff_eq.mpr iI;have n3:(Qb != 0)=false:=bne_eq_false_iff_eq.mpr iI;clear iI;obtain rfl:=Option.some.inj H;have raq:=Va.out;have caq:=Xa.out;have fad:wc.cell? ⟨Ga,0,none⟩=some (.int .i64 Uc):=(ga Ba.out 0).trans rfl;have ead:wc.cell? ⟨Ga,1,none⟩=some (.int .i64 Wb):=(ga Ba.out 1).trans rfl;have dad:wc.cell? ⟨Ga,2,none⟩=some (.int .i64 Ob):=(ga Ba.out 2).trans rfl;have cad:wc.cell? ⟨Ga,3,none⟩=some (.int .i64 Qb):=(ga Ba.out 3).trans rfl;have aad:wc.cell? ⟨Ga,4,none⟩=some (.int .i64 Bc):=(ga Ba.out 4).trans rfl;have Zac:wc.cell? ⟨Ga,5,none⟩=some (.int .i64 Ad):=(ga Ba.out 5).trans rfl;have Yac:wc.cell? ⟨Ga,6,none⟩=some (.string Rd):=(ga Ba.out 6).trans rfl;have faa:=aa Ba.out 0;have eaa:=aa Ba.out 1;have daa:=aa Ba.out 2;have caa:=aa Ba.out 3;have baa:=aa Ba.out 4;have aaa:=aa Ba.out 5;have Z_:=aa Ba.out 6;go_wp2;go_ret;exact ⟨by first|rfl|(simp [Na,Ma] <;> rfl)|(simp [*,Na,Ma] <;> rfl),by repeat (first|(with_reducible first|exact HB.out|apply ta|apply ja|apply ua|refine Aa ?_ Wa.out|refine Aa ?_ Jb.out)|exact HB.out)⟩
               ·rw [if_neg iI] at H;have B3:(Qb == 0)=false:=beq_eq_false_iff_ne.mpr iI;have n3:(Qb != 0)=true:=bne_iff_ne.mpr iI;obtain rfl:=Option.some.inj H;have qaq:=Va.out;have baq:=Xa.out;have zP:wc.cell? ⟨Ga,0,none⟩=some (.int .i64 Uc):=(ga Ba.out 0).trans rfl;have yP:wc.cell? ⟨Ga,1,none⟩=some (.int .i64 Wb):=(ga Ba.out 1).trans rfl;have xP:wc.cell? ⟨Ga,2,none⟩=some (.int .i64 Ob):=(ga Ba.out 2).trans rfl;have wP:wc.cell? ⟨Ga,3,none⟩=some (.int .i64 Qb):=(ga Ba.out 3).trans rfl;have vP:wc.cell? ⟨Ga,4,none⟩=some (.int .i64 Bc):=(ga Ba.out 4).trans rfl;have uP:wc.cell? ⟨Ga,5,none⟩=some (.int .i64 Ad):=(ga Ba.out 5).trans rfl;have tP:wc.cell? ⟨Ga,6,none⟩=some (.string Rd):=(ga Ba.out 6).trans rfl;have bP:=aa Ba.out 0;have ZO:=aa Ba.out 1;have YO:=aa Ba.out 2;have XO:=aa Ba.out 3;have WO:=aa Ba.out 4;have VO:=aa Ba.out 5;have UO:=aa Ba.out 6;go_wp2;go_ret;exact ⟨by first|rfl|(simp [Na,Ma] <;> rfl)|(simp [*,Na,Ma] <;> rfl),by repeat (first|(with_reducible first|exact HB.out|apply ta|apply ja|apply ua|refine Aa ?_ Wa.out|refine Aa ?_ Jb.out)|exact HB.out)⟩
              ·replace qW:=Bool.eq_false_iff.mpr qW;subst qW;have H1:(some false)=some r:=by rw [if_neg (show ¬ (false=true) by decide)] at H;exact H
               clear H;have H:=H1;clear H1;obtain rfl:=Option.some.inj H;have paq:=Va.out;have aaq:=Xa.out;have Qac:wc.cell? ⟨Ga,0,none⟩=some (.int .i64 Uc):=(ga Ba.out 0).trans rfl;have Pac:wc.cell? ⟨Ga,1,none⟩=some (.int .i64 Wb):=(ga Ba.out 1).trans rfl;have Oac:wc.cell? ⟨Ga,2,none⟩=some (.int .i64 Ob):=(ga Ba.out 2).trans rfl;have Nac:wc.cell? ⟨Ga,3,none⟩=some (.int .i64 Qb):=(ga Ba.out 3).trans rfl;have Mac:wc.cell? ⟨Ga,4,none⟩=some (.int .i64 Bc):=(ga Ba.out 4).trans rfl;have Lac:wc.cell? ⟨Ga,5,none⟩=some (.int .i64 Ad):=(ga Ba.out 5).trans rfl;have Kac:wc.cell? ⟨Ga,6,none⟩=some (.string Rd):=(ga Ba.out 6).trans rfl;have Q_:=aa Ba.out 0;have O_:=aa Ba.out 1;have N_:=aa Ba.out 2;have M_:=aa Ba.out 3;have L_:=aa Ba.out 4;have K_:=aa Ba.out 5;have J_:=aa Ba.out 6;go_wp2;go_ret;exact ⟨by first|rfl|(simp [Na,Ma] <;> rfl)|(simp [*,Na,Ma] <;> rfl),by repeat (first|(with_reducible first|exact HB.out|apply ta|apply ja|apply ua|refine Aa ?_ Wa.out|refine Aa ?_ Jb.out)|exact HB.out)⟩
             ·rw [if_neg jI] at H;have D3:(Wb == 0)=false:=beq_eq_false_iff_ne.mpr jI;have C3:(Wb != 0)=true:=bne_iff_ne.mpr jI;obtain rfl:=Option.some.inj H;have oaq:=Va.out;have Zap:=Xa.out;have Jac:wc.cell? ⟨Ga,0,none⟩=some (.int .i64 Uc):=(ga Ba.out 0).trans rfl;have Iac:wc.cell? ⟨Ga,1,none⟩=some (.int .i64 Wb):=(ga Ba.out 1).trans rfl;have Hac:wc.cell? ⟨Ga,2,none⟩=some (.int .i64 Ob):=(ga Ba.out 2).trans rfl;have Gac:wc.cell? ⟨Ga,3,none⟩=some (.int .i64 Qb):=(ga Ba.out 3).trans rfl;have Fac:wc.cell? ⟨Ga,4,none⟩=some (.int .i64 Bc):=(ga Ba.out 4).trans rfl;have Eac:wc.cell? ⟨Ga,5,none⟩=some (.int .i64 Ad):=(ga Ba.out 5).trans rfl;have Dac:wc.cell? ⟨Ga,6,none⟩=some (.string Rd):=(ga Ba.out 6).trans rfl;have I_:=aa Ba.out 0;have H_:=aa Ba.out 1;have G_:=aa Ba.out 2;have F_:=aa Ba.out 3;have E_:=aa Ba.out 4;have D_:=aa Ba.out 5;have C_:=aa Ba.out 6;go_wp2;go_ret;exact ⟨by first|rfl|(simp [Na,Ma] <;> rfl)|(simp [*,Na,Ma] <;> rfl),by repeat (first|(with_reducible first|exact HB.out|apply ta|apply ja|apply ua|refine Aa ?_ Wa.out|refine Aa ?_ Jb.out)|exact HB.out)⟩
            ·rw [if_neg kI] at H;have F3:(Uc == 6)=false:=beq_eq_false_iff_ne.mpr kI;have E3:(Uc != 6)=true:=bne_iff_ne.mpr kI;obtain rfl:=Option.some.inj H;have naq:=Va.out;have Yap:=Xa.out;have Cac:wc.cell? ⟨Ga,0,none⟩=some (.int .i64 Uc):=(ga Ba.out 0).trans rfl;have Bac:wc.cell? ⟨Ga,1,none⟩=some (.int .i64 Wb):=(ga Ba.out 1).trans rfl;have Aac:wc.cell? ⟨Ga,2,none⟩=some (.int .i64 Ob):=(ga Ba.out 2).trans rfl;have zac:wc.cell? ⟨Ga,3,none⟩=some (.int .i64 Qb):=(ga Ba.out 3).trans rfl;have yac:wc.cell? ⟨Ga,4,none⟩=some (.int .i64 Bc):=(ga Ba.out 4).trans rfl;have xac:wc.cell? ⟨Ga,5,none⟩=some (.int .i64 Ad):=(ga Ba.out 5).trans rfl;have wac:wc.cell? ⟨Ga,6,none⟩=some (.string Rd):=(ga Ba.out 6).trans rfl;have B_:=aa Ba.out 0;have A_:=aa Ba.out 1;have z_:=aa Ba.out 2;have x_:=aa Ba.out 3;have w_:=aa Ba.out 4;have v_:=aa Ba.out 5;have u_:=aa Ba.out 6;go_wp2;go_ret;exact ⟨by first|rfl|(simp [Na,Ma] <;> rfl)|(simp [*,Na,Ma] <;> rfl),by repeat (first|(with_reducible first|exact HB.out|apply ta|apply ja|apply ua|refine Aa ?_ Wa.out|refine Aa ?_ Jb.out)|exact HB.out)⟩
end Go.Proofs.Ytmifdccaajngcaa.P
