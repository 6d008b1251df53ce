import Derived.Test.YtmifdccaajngcaaQTwice1
import Derived.Test.YtmifdccaajngcaaQTwice4
set_option maxHeartbeats 8000000
set_option maxRecDepth 100000
namespace Go.Proofs.Ytmifdccaajngcaa.P
open Go.RowKit Go.Proofs.Na.Ec Go.Proofs.Na.gf Go.Proofs.Na.Eg
attribute [local go_sem] Yk Wk Gm Fm tj sj Xk Vk
set_option linter.unusedVariables false
set_option linter.unusedSimpArgs false
mutual
def Cb.j0:Nat→Bool→Bool→Bool→Bool→List Int→Int→Int→Int→List (Vf)→Int→Int→Int→Int→Int→Int→ByteArray→Option (Bool)
 | 0,_,_,_,_,_,_,_,_,_,_,_,_,_,_,_,_=>none
 | k + 1,x5,x6,x7,x8,kf,yf,ef,bf,Ud,Rg,Al,Rl,zk,xk,Mn,bp=>if Rg=2 then (if Rg=4 then (Cb.j1 k x5 x6 x7 x8 false kf yf ef bf Ud Rg Al Rl zk xk Mn bp) else (Cb.j1 k x5 x6 x7 x8 (xk != 0) kf yf ef bf Ud Rg Al Rl zk xk Mn bp)) else (if bp.toList=([]:List UInt8) then (if Rg=4 then (Cb.j1 k x5 x6 x7 x8 false kf yf ef bf Ud Rg Al Rl zk xk Mn bp) else (Cb.j1 k x5 x6 x7 x8 (xk != 0) kf yf ef bf Ud Rg Al Rl zk xk Mn bp)) else (Cb.j1 k x5 x6 x7 x8 true kf yf ef bf Ud Rg Al Rl zk xk Mn bp))
def Cb.j1:Nat→Bool→Bool→Bool→Bool→Bool→List Int→Int→Int→Int→List (Vf)→Int→Int→Int→Int→Int→Int→ByteArray→Option (Bool)
 | 0,_,_,_,_,_,_,_,_,_,_,_,_,_,_,_,_,_=>none
 | k + 1,x5,x6,x7,x8,x62,kf,yf,ef,bf,Ud,Rg,Al,Rl,zk,xk,Mn,bp=>if x62=true then (some false) else (if Rg=0 then (if x5=true then (if Rl=0 then (some (zk == 0)) else (some false)) else (some false)) else (if Rg=1 then (if x5=true then (if x6=true then (if zk=0 then (some (Mn == 0)) else (some false)) else (some false)) else (some false)) else (if Rg=2 then (if x5=true then (if x6=true then (if x7=true then (if Mn=0 then ((Qf.f k (([(⟨#[61,61]⟩:ByteArray),(⟨#[60]⟩:ByteArray),(⟨#[38]⟩:ByteArray),(⟨#[43]⟩:ByteArray),(⟨#[45]⟩:ByteArray),(⟨#[42]⟩:ByteArray)]:List ByteArray)) bp).bind fun t111=>(some t111)) else (some false)) else (some false)) else (some false)) else (some false)) else (if Rg=3 then (if x5=true then (some x8) else (some false)) else (if Rg=4 then (if Al=0 then (if x8=true then ((xb.f xk 0 (wrap64 (bf - 1))).bind fun t112=>(some t112)) else (some false)) else (some false)) else (if Rg=5 then (if x5=true then (if Rl=0 then (if zk=0 then (some (Mn == 0)) else (some false)) else (some false)) else (some false)) else (if Rg=6 then (if Al=0 then (if x6=true then (if zk=0 then (some (Mn == 0)) else (some false)) else (some false)) else (some false)) else (some false))))))))
end
def Cb.f (k:Nat) (Ta:List Int) (Ra:Int) (Qa:Int) (Pa:Int) (La:List (Vf)) (td:Int) (jc:Int) (Yb:Int) (Zb:Int) (Pc:Int) (Rd:Int) (Xd:ByteArray):Option (Bool):=(xb.f jc 0 (wrap64 (Pa - 1))).bind fun t103=>((xb.f Yb 0 (wrap64 (Pa - 1))).bind fun t104=>((xb.f Zb 0 (wrap64 (Pa - 1))).bind fun t105=>(if t104=true then (if t105=true then ((xb.f Rd 0 (wrap64 ((Ta.length:Int) - 1))).bind fun t106=>(Cb.j0 k t103 t104 t105 t106 Ta Ra Qa Pa La td jc Yb Zb Pc Rd Xd)) else (Cb.j0 k t103 t104 t105 false Ta Ra Qa Pa La td jc Yb Zb Pc Rd Xd)) else (if Yb=(-1) then (if t105=true then ((xb.f Rd 0 (wrap64 ((Ta.length:Int) - 1))).bind fun t107=>(Cb.j0 k t103 t104 t105 t107 Ta Ra Qa Pa La td jc Yb Zb Pc Rd Xd)) else (Cb.j0 k t103 t104 t105 false Ta Ra Qa Pa La td jc Yb Zb Pc Rd Xd)) else (Cb.j0 k t103 t104 t105 false Ta Ra Qa Pa La td jc Yb Zb Pc Rd Xd)))))
theorem Cb.calls (k:Nat) (Jb:Option Addr) (Ib:Nat) (Ta:List Int) (Ra:Int) (Qa:Int) (Pa:Int) (nc:Option Addr) (dc:Nat) (La:List (Vf)) (td:Int) (jc:Int) (Yb:Int) (Zb:Int) (Pc:Int) (Rd:Int) (Xd:ByteArray) (r:Bool) (w:World) (pg:Kd.C (Kd.int .i64) w Jb Ta.length Ta) (kg:Ta.length ≤ Ib) (wh:Kd.C dm w nc La.length La) (qh:La.length ≤ dc) (h:Cb.f k Ta Ra Qa Pa La td jc Yb Zb Pc Rd Xd=some r) :
  Calls Try.prog 111 #[.agg #[.slice Jb Ta.length Ib,.int .i64 Ra,.int .i64 Qa,.int .i64 Pa,.slice nc La.length dc],.agg #[.int .i64 td,.int .i64 jc,.int .i64 Yb,.int .i64 Zb,.int .i64 Pc,.int .i64 Rd,.string Xd]] w fun e w'=>e = .returned (.bool r)∧Below w.heap.size w w':=by
 have UD:=Try.underlying30;have TD:=Try.underlying70;have qg:=ia.mk pg;have Jg:=ia.mk kg;clear pg kg;have Qh:=ia.mk wh;have Bj:=ia.mk qh;clear wh qh;have HB:=ia.mk (Below.refl w.heap.size w);have H:((xb.f jc 0 (wrap64 (Pa - 1))).bind fun t103=>((xb.f Yb 0 (wrap64 (Pa - 1))).bind fun t104=>((xb.f Zb 0 (wrap64 (Pa - 1))).bind fun t105=>(if t104=true then (if t105=true then ((xb.f Rd 0 (wrap64 ((Ta.length:Int) - 1))).bind fun t106=>(Cb.j0 k t103 t104 t105 t106 Ta Ra Qa Pa La td jc Yb Zb Pc Rd Xd)) else (Cb.j0 k t103 t104 t105 false Ta Ra Qa Pa La td jc Yb Zb Pc Rd Xd)) else (if Yb=(-1) then (if t105=true then ((xb.f Rd 0 (wrap64 ((Ta.length:Int) - 1))).bind fun t107=>(Cb.j0 k t103 t104 t105 t107 Ta Ra Qa Pa La td jc Yb Zb Pc Rd Xd)) else (Cb.j0 k t103 t104 t105 false Ta Ra Qa Pa La td jc Yb Zb Pc Rd Xd)) else (Cb.j0 k t103 t104 t105 false Ta Ra Qa Pa La td jc Yb Zb Pc Rd Xd))))))=some r:=h;clear h;replace H:=Option.bind_eq_some_iff.mp H;obtain ⟨t103,EC,H⟩:=H;replace H:((xb.f Yb 0 (wrap64 (Pa - 1))).bind fun t104=>((xb.f Zb 0 (wrap64 (Pa - 1))).bind fun t105=>(if t104=true then (if t105=true then ((xb.f Rd 0 (wrap64 ((Ta.length:Int) - 1))).bind fun t106=>(Cb.j0 k t103 t104 t105 t106 Ta Ra Qa Pa La td jc Yb Zb Pc Rd Xd)) else (Cb.j0 k t103 t104 t105 false Ta Ra Qa Pa La td jc Yb Zb Pc Rd Xd)) else (if Yb=(-1) then (if t105=true then ((xb.f Rd 0 (wrap64 ((Ta.length:Int) - 1))).bind fun t107=>(Cb.j0 k t103 t104 t105 t107 Ta Ra Qa Pa La td jc Yb Zb Pc Rd Xd)) else (Cb.j0 k t103 t104 t105 false Ta Ra Qa Pa La td jc Yb Zb Pc Rd Xd)) else (Cb.j0 k t103 t104 t105 false Ta Ra Qa Pa La td jc Yb Zb Pc Rd Xd)))))=some r:=H;have A3:=ia.mk EC;clear EC;replace H:=Option.bind_eq_some_iff.mp H;obtain ⟨t104,A40,H⟩:=H;replace H:((xb.f Zb 0 (wrap64 (Pa - 1))).bind fun t105=>(if t104=true then (if t105=true then ((xb.f Rd 0 (wrap64 ((Ta.length:Int) - 1))).bind fun t106=>(Cb.j0 k t103 t104 t105 t106 Ta Ra Qa Pa La td jc Yb Zb Pc Rd Xd)) else (Cb.j0 k t103 t104 t105 false Ta Ra Qa Pa La td jc Yb Zb Pc Rd Xd)) else (if Yb=(-1) then (if t105=true then ((xb.f Rd 0 (wrap64 ((Ta.length:Int) - 1))).bind fun t107=>(Cb.j0 k t103 t104 t105 t107 Ta Ra Qa Pa La td jc Yb Zb Pc Rd Xd)) else (Cb.j0 k t103 t104 t105 false Ta Ra Qa Pa La td jc Yb Zb Pc Rd Xd)) else (Cb.j0 k t103 t104 t105 false Ta Ra Qa Pa La td jc Yb Zb Pc Rd Xd))))=some r:=H;have A4:=ia.mk A40;clear A40;replace H:=Option.bind_eq_some_iff.mp H;obtain ⟨t105,X0,H⟩:=H;replace H:(if t104=true then (if t105=true then ((xb.f Rd 0 (wrap64 ((Ta.length:Int) - 1))).bind fun t106=>(Cb.j0 k t103 t104 t105 t106 Ta Ra Qa Pa La td jc Yb Zb Pc Rd Xd)) else (Cb.j0 k t103 t104 t105 false Ta Ra Qa Pa La td jc Yb Zb Pc Rd Xd)) else (if Yb=(-1) then (if t105=true then ((xb.f Rd 0 (wrap64 ((Ta.length:Int) - 1))).bind fun t107=>(Cb.j0 k t103 t104 t105 t107 Ta Ra Qa Pa La td jc Yb Zb Pc Rd Xd)) else (Cb.j0 k t103 t104 t105 false Ta Ra Qa Pa La td jc Yb Zb Pc Rd Xd)) else (Cb.j0 k t103 t104 t105 false Ta Ra Qa Pa La td jc Yb Zb Pc Rd Xd)))=some r:=H;have A5:=ia.mk X0;clear X0;have HC6:=ia.mk H;clear H;go_enter Try.func111,Try.ntmps111
 go_upto_region 4 with (first|((with_reducible refine Tb (N:=2) rfl ?_);(try (refine Zj (by rfl) ?_;dsimp only));refine Sb ?hg (N:=2) ?hd (cs:=#[.slice Jb Ta.length Ib,.int .i64 Ra,.int .i64 Qa,.int .i64 Pa,.slice nc La.length dc]) (t:=30) ?hr ?_;(case hd=>rfl);(case hg=>rfl);(case hr=>first|(go_simp;done)|(go_simp;rfl));intro Fa hg w7 ic hb;have Ub:=ia.mk (Oa (by repeat (first|(with_reducible first|exact HB.out|apply qa|apply ja|apply ta)|exact HB.out)) hb);have fc:=ia.mk (ic);have Fc:=ia.mk ((by rw [hg];exact (Ma (by repeat (first|(with_reducible first|exact HB.out|apply qa|apply ja|apply ta)|exact HB.out))):w.heap.size ≤ Fa));have Xc:=ia.mk ((by rw [hg];exact (Ma (by repeat (first|(with_reducible first|exact HB.out|apply qa|apply ja|apply ta)|exact HB.out))):w.heap.size ≤ Fa));clear HB;have HB:=Ub;have ya:=fc;have Kg:=Fc;have Wa:=Xc;clear Ub fc Fc Xc hb ic hg)|((with_reducible refine Tb (N:=3) rfl ?_);(try (refine Zj (by rfl) ?_;dsimp only));refine Sb ?hg (N:=3) ?hd (cs:=#[.int .i64 td,.int .i64 jc,.int .i64 Yb,.int .i64 Zb,.int .i64 Pc,.int .i64 Rd,.string Xd]) (t:=70) ?hr ?_;(case hd=>rfl);(case hg=>rfl);(case hr=>first|(go_simp;done)|(go_simp;rfl));intro Ga hg w8 ic hb;have Ub:=ia.mk (Sa (g:=Fa) (o:=.cells #[.slice Jb Ta.length Ib,.int .i64 Ra,.int .i64 Qa,.int .i64 Pa,.slice nc La.length dc] 30 (0,0)) (by (with_reducible repeat (first|refine Ba ?_ _|refine Ca ?_|refine Aa ?_ _));exact ya.out) hb);have fc:=ia.mk (Oa (by repeat (first|(with_reducible first|exact HB.out|apply qa|apply ja|apply ta|refine ua ?_ Wa.out)|exact HB.out)) hb);have Fc:=ia.mk (ic);have Xc:=ia.mk ((by rw [hg];exact (Ma (by repeat (first|(with_reducible first|exact HB.out|apply qa|apply ja|apply ta|refine ua ?_ Wa.out)|exact HB.out))):w.heap.size ≤ Ga));have Fe:=ia.mk ((by rw [hg];exact (Ma (by repeat (first|(with_reducible first|exact HB.out|apply qa|apply ja|apply ta|refine ua ?_ Wa.out)|exact HB.out))):w.heap.size ≤ Ga));have Ve:=ia.mk ((by rw [hg];exact Nat.ne_of_lt (Mc (g:=Fa) (o:=.cells #[.slice Jb Ta.length Ib,.int .i64 Ra,.int .i64 Qa,.int .i64 Pa,.slice nc La.length dc] 30 (0,0)) (by (with_reducible repeat (first|refine Ba ?_ _|refine Ca ?_|refine Aa ?_ _));exact ya.out)):Fa ≠ Ga));have Gg:=ia.mk ((by rw [hg];exact Nat.ne_of_gt (Mc (g:=Fa) (o:=.cells #[.slice Jb Ta.length Ib,.int .i64 Ra,.int .i64 Qa,.int .i64 Pa,.slice nc La.length dc] 30 (0,0)) (by (with_reducible repeat (first|refine Ba ?_ _|refine Ca ?_|refine Aa ?_ _));exact ya.out)):Ga ≠ Fa));clear ya HB;have ya:=Ub;have HB:=fc;have Ea:=Fc;have xj:=Xc;have Xb:=Fe;have Fb:=Ve;have Eb:=Gg;clear Ub fc Fc Xc Fe Ve Gg hb ic hg;have n3:=Eb.out;have Y2:=Fb.out;have Vi:w8.cell? ⟨Ga,0,none⟩=some (.int .i64 td):=(ga Ea.out 0).trans rfl;have Ui:w8.cell? ⟨Ga,1,none⟩=some (.int .i64 jc):=(ga Ea.out 1).trans rfl;have Ti:w8.cell? ⟨Ga,2,none⟩=some (.int .i64 Yb):=(ga Ea.out 2).trans rfl;have Si:w8.cell? ⟨Ga,3,none⟩=some (.int .i64 Zb):=(ga Ea.out 3).trans rfl;have Ri:w8.cell? ⟨Ga,4,none⟩=some (.int .i64 Pc):=(ga Ea.out 4).trans rfl;have fq:w8.cell? ⟨Ga,5,none⟩=some (.int .i64 Rd):=(ga Ea.out 5).trans rfl;have cq:w8.cell? ⟨Ga,6,none⟩=some (.string Xd):=(ga Ea.out 6).trans rfl;have Qi:=aa Ea.out 0;have Oi:=aa Ea.out 1;have Ni:=aa Ea.out 2;have Mi:=aa Ea.out 3;have Li:=aa Ea.out 4;have Wp:=aa Ea.out 5;have Vp:=aa Ea.out 6;have Yu:w8.cell? ⟨Fa,0,none⟩=some (.slice Jb Ta.length Ib):=(ga ya.out 0).trans rfl;have Xu:w8.cell? ⟨Fa,1,none⟩=some (.int .i64 Ra):=(ga ya.out 1).trans rfl;have Wu:w8.cell? ⟨Fa,2,none⟩=some (.int .i64 Qa):=(ga ya.out 2).trans rfl;have Vu:w8.cell? ⟨Fa,3,none⟩=some (.int .i64 Pa):=(ga ya.out 3).trans rfl;have Uu:w8.cell? ⟨Fa,4,none⟩=some (.slice nc La.length dc):=(ga ya.out 4).trans rfl;have uu:=aa ya.out 0;have tu:=aa ya.out 1;have su:=aa ya.out 2;have ru:=aa ya.out 3;have qu:=aa ya.out 4)|((with_reducible refine Gb (f:=54) rfl ?_);refine Bd (some 14) rfl rfl Try.func54 (by kernel_rfl) rfl #[.int .i64 jc,.int .i64 0,.int .i64 (wrap64 (Pa - 1))] rfl (by (try simp only [List.map_toArray,List.map_cons,List.map_nil]);first|done|rfl|(simp only [List.length_drop,List.length_take];rfl)) ?_;(with_reducible refine (xb.calls jc 0 (wrap64 (Pa - 1)) t103 _ A3.out).mono ?_);rintro e w' ⟨rfl,⟨nd,rfl⟩⟩;refine ⟨_,rfl,?_⟩)|((with_reducible refine Gb (f:=54) rfl ?_);refine Bd (some 20) rfl rfl Try.func54 (by kernel_rfl) rfl #[.int .i64 Yb,.int .i64 0,.int .i64 (wrap64 (Pa - 1))] rfl (by (try simp only [List.map_toArray,List.map_cons,List.map_nil]);first|done|rfl|(simp only [List.length_drop,List.length_take];rfl)) ?_;(with_reducible refine (xb.calls Yb 0 (wrap64 (Pa - 1)) t104 _ A4.out).mono ?_);rintro e w' ⟨rfl,⟨nd,rfl⟩⟩;refine ⟨_,rfl,?_⟩)|((with_reducible refine Gb (f:=54) rfl ?_);refine Bd (some 26) rfl rfl Try.func54 (by kernel_rfl) rfl #[.int .i64 Zb,.int .i64 0,.int .i64 (wrap64 (Pa - 1))] rfl (by (try simp only [List.map_toArray,List.map_cons,List.map_nil]);first|done|rfl|(simp only [List.length_drop,List.length_take];rfl)) ?_;(with_reducible refine (xb.calls Zb 0 (wrap64 (Pa - 1)) t105 _ A5.out).mono ?_);rintro e w' ⟨rfl,⟨nd,rfl⟩⟩;refine ⟨_,rfl,?_⟩))
 (try simp only [Act.put,List.setIfInBounds_toArray,List.set_cons_zero,List.set_cons_succ])
 go_cut [8] (fun v8 wc=>∃ (kq:Nat) (iG:Bool),v8 = .bool iG∧ia (Cb.j0 kq t103 t104 t105 iG Ta Ra Qa Pa La td jc Yb Zb Pc Rd Xd=some r)∧ia (kq ≤ k)∧ia (wc.heap[Fa]? = some (.cells #[(.slice Jb Ta.length Ib),.int .i64 Ra,.int .i64 Qa,.int .i64 Pa,(.slice nc La.length dc)] 30 (0,0)))∧ia (wc.heap[Ga]? = some (.cells #[.int .i64 td,.int .i64 jc,.int .i64 Yb,.int .i64 Zb,.int .i64 Pc,.int .i64 Rd,.string Xd] 70 (0,0)))∧ia (Below w.heap.size w wc))
 case first =>
  have H:=HC6.out;clear HC6
  by_cases XC:t104=true
  ·subst XC;have H1:(if t105=true then ((xb.f Rd 0 (wrap64 ((Ta.length:Int) - 1))).bind fun t106=>(Cb.j0 k t103 true t105 t106 Ta Ra Qa Pa La td jc Yb Zb Pc Rd Xd)) else (Cb.j0 k t103 true t105 false Ta Ra Qa Pa La td jc Yb Zb Pc Rd Xd))=some r:=by rw [if_pos rfl] at H;exact H
   clear H;have H:=H1;clear H1
   by_cases H7:t105=true
   ·subst H7;have H1:((xb.f Rd 0 (wrap64 ((Ta.length:Int) - 1))).bind fun t106=>(Cb.j0 k t103 true true t106 Ta Ra Qa Pa La td jc Yb Zb Pc Rd Xd))=some r:=by rw [if_pos rfl] at H;exact H
    clear H;have H:=H1;clear H1;replace H:=Option.bind_eq_some_iff.mp H;obtain ⟨t106,Sae,H⟩:=H;replace H:(Cb.j0 k t103 true true t106 Ta Ra Qa Pa La td jc Yb Zb Pc Rd Xd)=some r:=H;have A14:=ia.mk Sae;clear Sae;have H':=ia.mk H;clear H;have Sas:=Eb.out;have nas:=Fb.out;have Jr:w8.cell? ⟨Ga,0,none⟩=some (.int .i64 td):=(ga Ea.out 0).trans rfl;have Ir:w8.cell? ⟨Ga,1,none⟩=some (.int .i64 jc):=(ga Ea.out 1).trans rfl;have Hr:w8.cell? ⟨Ga,2,none⟩=some (.int .i64 Yb):=(ga Ea.out 2).trans rfl;have Gr:w8.cell? ⟨Ga,3,none⟩=some (.int .i64 Zb):=(ga Ea.out 3).trans rfl;have Er:w8.cell? ⟨Ga,4,none⟩=some (.int .i64 Pc):=(ga Ea.out 4).trans rfl;have bN:w8.cell? ⟨Ga,5,none⟩=some (.int .i64 Rd):=(ga Ea.out 5).trans rfl;have aN:w8.cell? ⟨Ga,6,none⟩=some (.string Xd):=(ga Ea.out 6).trans rfl;have cr:=aa Ea.out 0;have br:=aa Ea.out 1;have Zq:=aa Ea.out 2;have Yq:=aa Ea.out 3;have Xq:=aa Ea.out 4;have SL:=aa Ea.out 5;have RL:=aa Ea.out 6;have bq:w8.cell? ⟨Fa,0,none⟩=some (.slice Jb Ta.length Ib):=(ga ya.out 0).trans rfl;have aq:w8.cell? ⟨Fa,1,none⟩=some (.int .i64 Ra):=(ga ya.out 1).trans rfl;have Zp:w8.cell? ⟨Fa,2,none⟩=some (.int .i64 Qa):=(ga ya.out 2).trans rfl;have Yp:w8.cell? ⟨Fa,3,none⟩=some (.int .i64 Pa):=(ga ya.out 3).trans rfl;have Xp:w8.cell? ⟨Fa,4,none⟩=some (.slice nc La.length dc):=(ga ya.out 4).trans rfl;have Tp:=aa ya.out 0;have Sp:=aa ya.out 1;have Rp:=aa ya.out 2;have Qp:=aa ya.out 3;have Pp:=aa ya.out 4;go_wp2_with (first|(go_at_call 54;(with_reducible refine (xb.calls Rd 0 (wrap64 ((Ta.length:Int) - 1)) t106 _ A14.out).mono ?_);rintro e w' ⟨rfl,⟨nd,rfl⟩⟩))
    go_meet
    case rel=>exact ⟨_,(t106),(by first|rfl|(simp;done)|(simp [*];done)),H',⟨by first|omega|exact Nat.le_refl _⟩,⟨by (with_reducible repeat (first|refine Ba ?_ _|refine Ca ?_|refine Aa ?_ _));exact ya.out⟩,⟨by (with_reducible repeat (first|refine Ba ?_ _|refine Ca ?_|refine Aa ?_ _));exact Ea.out⟩,⟨by repeat (first|(with_reducible first|exact HB.out|apply qa|apply ja|apply ta|refine ua ?_ Wa.out|refine ua ?_ Xb.out)|exact HB.out)⟩⟩
   ·replace H7:=Bool.eq_false_iff.mpr H7;subst H7;have H1:(Cb.j0 k t103 true false false Ta Ra Qa Pa La td jc Yb Zb Pc Rd Xd)=some r:=by rw [if_neg (show ¬ (false=true) by decide)] at H;exact H
    clear H;have H:=H1;clear H1;have H':=ia.mk H;clear H;go_wp2
    go_meet
    case rel=>exact ⟨_,(false),(by first|rfl|(simp;done)|(simp [*];done)),H',⟨by first|omega|exact Nat.le_refl _⟩,⟨by (with_reducible repeat (first|refine Ba ?_ _|refine Ca ?_|refine Aa ?_ _));exact ya.out⟩,⟨by (with_reducible repeat (first|refine Ba ?_ _|refine Ca ?_|refine Aa ?_ _));exact Ea.out⟩,⟨by repeat (first|(with_reducible first|exact HB.out|apply qa|apply ja|apply ta|refine ua ?_ Wa.out|refine ua ?_ Xb.out)|exact HB.out)⟩⟩
  ·replace XC:=Bool.eq_false_iff.mpr XC;subst XC;have H1:(if Yb=(-1) then (if t105=true then ((xb.f Rd 0 (wrap64 ((Ta.length:Int) - 1))).bind fun t107=>(Cb.j0 k t103 false t105 t107 Ta Ra Qa Pa La td jc Yb Zb Pc Rd Xd)) else (Cb.j0 k t103 false t105 false Ta Ra Qa Pa La td jc Yb Zb Pc Rd Xd)) else (Cb.j0 k t103 false t105 false Ta Ra Qa Pa La td jc Yb Zb Pc Rd Xd))=some r:=by rw [if_neg (show ¬ (false=true) by decide)] at H;exact H
   clear H;have H:=H1;clear H1
   by_cases fI:Yb=(-1)
   ·rw [if_pos fI] at H;have My:(Yb == (-1))=true:=beq_iff_eq.mpr fI;have AR:(Yb != (-1))=false:=bne_eq_false_iff_eq.mpr fI;clear fI;(first|rw [My]|(simp only [jb,mb];rw [My])|skip)
    by_cases wv:t105=true
    ·subst wv;have H1:((xb.f Rd 0 (wrap64 ((Ta.length:Int) - 1))).bind fun t107=>(Cb.j0 k t103 false true t107 Ta Ra Qa Pa La td jc Yb Zb Pc Rd Xd))=some r:=by rw [if_pos rfl] at H;exact H
     clear H;have H:=H1;clear H1;replace H:=Option.bind_eq_some_iff.mp H;obtain ⟨t107,Pae,H⟩:=H;replace H:(Cb.j0 k t103 false true t107 Ta Ra Qa Pa La td jc Yb Zb Pc Rd Xd)=some r:=H;have jP:=ia.mk Pae;clear Pae;have H':=ia.mk H;clear H;have F9:=Eb.out;have j9:=Fb.out;have Dy:w8.cell? ⟨Ga,0,none⟩=some (.int .i64 td):=(ga Ea.out 0).trans rfl;have Cy:w8.cell? ⟨Ga,1,none⟩=some (.int .i64 jc):=(ga Ea.out 1).trans rfl;have Ay:w8.cell? ⟨Ga,2,none⟩=some (.int .i64 Yb):=(ga Ea.out 2).trans rfl;have zy:w8.cell? ⟨Ga,3,none⟩=some (.int .i64 Zb):=(ga Ea.out 3).trans rfl;have yy:w8.cell? ⟨Ga,4,none⟩=some (.int .i64 Pc):=(ga Ea.out 4).trans rfl;have VM:w8.cell? ⟨Ga,5,none⟩=some (.int .i64 Rd):=(ga Ea.out 5).trans rfl;have UM:w8.cell? ⟨Ga,6,none⟩=some (.string Xd):=(ga Ea.out 6).trans rfl;have Wx:=aa Ea.out 0;have Vx:=aa Ea.out 1;have Ux:=aa Ea.out 2;have Tx:=aa Ea.out 3;have Sx:=aa Ea.out 4;have ML:=aa Ea.out 5;have LL:=aa Ea.out 6;have Co:w8.cell? ⟨Fa,0,none⟩=some (.slice Jb Ta.length Ib):=(ga ya.out 0).trans rfl;have Bo:w8.cell? ⟨Fa,1,none⟩=some (.int .i64 Ra):=(ga ya.out 1).trans rfl;have Ao:w8.cell? ⟨Fa,2,none⟩=some (.int .i64 Qa):=(ga ya.out 2).trans rfl;have zo:w8.cell? ⟨Fa,3,none⟩=some (.int .i64 Pa):=(ga ya.out 3).trans rfl;have yo:w8.cell? ⟨Fa,4,none⟩=some (.slice nc La.length dc):=(ga ya.out 4).trans rfl;have xo:=aa ya.out 0;have wo:=aa ya.out 1;have vo:=aa ya.out 2;have uo:=aa ya.out 3;have qo:=aa ya.out 4;go_wp2_with (first|(go_at_call 54;(with_reducible refine (xb.calls Rd 0 (wrap64 ((Ta.length:Int) - 1)) t107 _ jP.out).mono ?_);rintro e w' ⟨rfl,⟨nd,rfl⟩⟩))
     go_meet
     case rel=>exact ⟨_,(t107),(by first|rfl|(simp;done)|(simp [*];done)),H',⟨by first|omega|exact Nat.le_refl _⟩,⟨by (with_reducible repeat (first|refine Ba ?_ _|refine Ca ?_|refine Aa ?_ _));exact ya.out⟩,⟨by (with_reducible repeat (first|refine Ba ?_ _|refine Ca ?_|refine Aa ?_ _));exact Ea.out⟩,⟨by repeat (first|(with_reducible first|exact HB.out|apply qa|apply ja|apply ta|refine ua ?_ Wa.out|refine ua ?_ Xb.out)|exact HB.out)⟩⟩
    ·replace wv:=Bool.eq_false_iff.mpr wv;subst wv;have H1:(Cb.j0 k t103 false false false Ta Ra Qa Pa La td jc Yb Zb Pc Rd Xd)=some r:=by rw [if_neg (show ¬ (false=true) by decide)] at H;exact H
     clear H;have H:=H1;clear H1;have H':=ia.mk H;clear H;have WY:=Eb.out;have MY:=Fb.out;have Ju:w8.cell? ⟨Ga,0,none⟩=some (.int .i64 td):=(ga Ea.out 0).trans rfl;have Iu:w8.cell? ⟨Ga,1,none⟩=some (.int .i64 jc):=(ga Ea.out 1).trans rfl;have Hu:w8.cell? ⟨Ga,2,none⟩=some (.int .i64 Yb):=(ga Ea.out 2).trans rfl;have Gu:w8.cell? ⟨Ga,3,none⟩=some (.int .i64 Zb):=(ga Ea.out 3).trans rfl;have Fu:w8.cell? ⟨Ga,4,none⟩=some (.int .i64 Pc):=(ga Ea.out 4).trans rfl;have SM:w8.cell? ⟨Ga,5,none⟩=some (.int .i64 Rd):=(ga Ea.out 5).trans rfl;have RM:w8.cell? ⟨Ga,6,none⟩=some (.string Xd):=(ga Ea.out 6).trans rfl;have bu:=aa Ea.out 0;have au:=aa Ea.out 1;have Zt:=aa Ea.out 2;have Yt:=aa Ea.out 3;have Xt:=aa Ea.out 4;have KL:=aa Ea.out 5;have JL:=aa Ea.out 6;go_wp2
     go_meet
     case rel=>exact ⟨_,(false),(by first|rfl|(simp;done)|(simp [*];done)),H',⟨by first|omega|exact Nat.le_refl _⟩,⟨by (with_reducible repeat (first|refine Ba ?_ _|refine Ca ?_|refine Aa ?_ _));exact ya.out⟩,⟨by (with_reducible repeat (first|refine Ba ?_ _|refine Ca ?_|refine Aa ?_ _));exact Ea.out⟩,⟨by repeat (first|(with_reducible first|exact HB.out|apply qa|apply ja|apply ta|refine ua ?_ Wa.out|refine ua ?_ Xb.out)|exact HB.out)⟩⟩
   ·rw [if_neg fI] at H;have My:(Yb == (-1))=false:=beq_eq_false_iff_ne.mpr fI;have AR:(Yb != (-1))=true:=bne_iff_ne.mpr fI;(first|rw [My]|(simp only [jb,mb];rw [My])|skip);have H':=ia.mk H;clear H;have VY:=Eb.out;have LY:=Fb.out;have Eu:w8.cell? ⟨Ga,0,none⟩=some (.int .i64 td):=(ga Ea.out 0).trans rfl;have Du:w8.cell? ⟨Ga,1,none⟩=some (.int .i64 jc):=(ga Ea.out 1).trans rfl;have Cu:w8.cell? ⟨Ga,2,none⟩=some (.int .i64 Yb):=(ga Ea.out 2).trans rfl;have Bu:w8.cell? ⟨Ga,3,none⟩=some (.int .i64 Zb):=(ga Ea.out 3).trans rfl;have Au:w8.cell? ⟨Ga,4,none⟩=some (.int .i64 Pc):=(ga Ea.out 4).trans rfl;have QM:w8.cell? ⟨Ga,5,none⟩=some (.int .i64 Rd):=(ga Ea.out 5).trans rfl;have PM:w8.cell? ⟨Ga,6,none⟩=some (.string Xd):=(ga Ea.out 6).trans rfl;have Wt:=aa Ea.out 0;have Vt:=aa Ea.out 1;have Ut:=aa Ea.out 2;have Tt:=aa Ea.out 3;have St:=aa Ea.out 4;have IL:=aa Ea.out 5;have GL:=aa Ea.out 6;go_wp2
    go_meet
    case rel=>exact ⟨_,(false),(by first|rfl|(simp;done)|(simp [*];done)),H',⟨by first|omega|exact Nat.le_refl _⟩,⟨by (with_reducible repeat (first|refine Ba ?_ _|refine Ca ?_|refine Aa ?_ _));exact ya.out⟩,⟨by (with_reducible repeat (first|refine Ba ?_ _|refine Ca ?_|refine Aa ?_ _));exact Ea.out⟩,⟨by repeat (first|(with_reducible first|exact HB.out|apply qa|apply ja|apply ta|refine ua ?_ Wa.out|refine ua ?_ Xb.out)|exact HB.out)⟩⟩
 case rest =>
  clear HC6
  try clear c1
  try clear c2
  try clear p2
  try clear c5
  try clear p6
  try clear c9
  try clear YC
  try clear XC
  try clear H7
  try clear c15
  try clear fI
  try clear My
  try clear AR
  try clear wv
  try clear yt
  try clear G7
  try clear c26
  try clear Vi
  try clear Ui
  try clear Ti
  try clear Si
  try clear Ri
  try clear fq
  try clear cq
  try clear Yu
  try clear Xu
  try clear Wu
  try clear Vu
  try clear Uu
  try clear Jr
  try clear Ir
  try clear Hr
  try clear Gr
  try clear Er
  try clear bN
  try clear aN
  try clear bq
  try clear aq
  try clear Zp
  try clear Yp
  try clear Xp
  try clear Dy
  try clear Cy
  try clear Ay
  try clear zy
  try clear yy
  try clear VM
  try clear UM
  try clear Co
  try clear Bo
  try clear Ao
  try clear zo
  try clear yo
  try clear Ju
  try clear Iu
  try clear Hu
  try clear Gu
  try clear Fu
  try clear SM
  try clear RM
  try clear Eu
  try clear Du
  try clear Cu
  try clear Bu
  try clear Au
  try clear QM
  try clear PM
  try clear Qi
  try clear Oi
  try clear Ni
  try clear Mi
  try clear Li
  try clear Wp
  try clear Vp
  try clear uu
  try clear tu
  try clear su
  try clear ru
  try clear qu
  try clear cr
  try clear br
  try clear Zq
  try clear Yq
  try clear Xq
  try clear SL
  try clear RL
  try clear Tp
  try clear Sp
  try clear Rp
  try clear Qp
  try clear Pp
  try clear Wx
  try clear Vx
  try clear Ux
  try clear Tx
  try clear Sx
  try clear ML
  try clear LL
  try clear xo
  try clear wo
  try clear vo
  try clear uo
  try clear qo
  try clear bu
  try clear au
  try clear Zt
  try clear Yt
  try clear Xt
  try clear KL
  try clear JL
  try clear Wt
  try clear Vt
  try clear Ut
  try clear Tt
  try clear St
  try clear IL
  try clear GL
  obtain ⟨kq,iG,rfl,HA,HJ5,ya,Ea,HB⟩:=hcut;cases kq with
  | zero=>exact absurd HA.out (by simp [Cb.j0])
  | succ kj5 =>
   have H:=HA.out;clear HA;simp only [Cb.j0] at H;have U6:=ia.mk H;clear H
   go_upto_region 5 with (fail)
   go_cut [62] (fun v62 wc=>∃ (kq:Nat) (vD:Bool),v62 = .bool vD∧ia (Cb.j1 kq t103 t104 t105 iG vD Ta Ra Qa Pa La td jc Yb Zb Pc Rd Xd=some r)∧ia (kq ≤ kj5)∧ia (wc.heap[Fa]? = some (.cells #[(.slice Jb Ta.length Ib),.int .i64 Ra,.int .i64 Qa,.int .i64 Pa,(.slice nc La.length dc)] 30 (0,0)))∧ia (wc.heap[Ga]? = some (.cells #[.int .i64 td,.int .i64 jc,.int .i64 Yb,.int .i64 Zb,.int .i64 Pc,.int .i64 Rd,.string Xd] 70 (0,0)))∧ia (Below w.heap.size w wc))
   case first =>
    have H:=U6.out;clear U6
    by_cases QO:td=2
    ·rw [if_pos QO] at H;have iC:(td == 2)=true:=beq_iff_eq.mpr QO;have uZ:(td != 2)=false:=bne_eq_false_iff_eq.mpr QO;clear QO;(first|rw [iC]|(simp only [jb,mb];rw [iC])|skip)
     by_cases pJ:td=4
     ·rw [if_pos pJ] at H;have jN:(td == 4)=true:=beq_iff_eq.mpr pJ;have tZ:(td != 4)=false:=bne_eq_false_iff_eq.mpr pJ;clear pJ;have H':=ia.mk H;clear H;have B9:=Eb.out;have Z8:=Fb.out;have cB:wc.cell? ⟨Ga,0,none⟩=some (.int .i64 td):=(ga Ea.out 0).trans rfl;have bB:wc.cell? ⟨Ga,1,none⟩=some (.int .i64 jc):=(ga Ea.out 1).trans rfl;have ZA:wc.cell? ⟨Ga,2,none⟩=some (.int .i64 Yb):=(ga Ea.out 2).trans rfl;have YA:wc.cell? ⟨Ga,3,none⟩=some (.int .i64 Zb):=(ga Ea.out 3).trans rfl;have XA:wc.cell? ⟨Ga,4,none⟩=some (.int .i64 Pc):=(ga Ea.out 4).trans rfl;have yX:wc.cell? ⟨Ga,5,none⟩=some (.int .i64 Rd):=(ga Ea.out 5).trans rfl;have xX:wc.cell? ⟨Ga,6,none⟩=some (.string Xd):=(ga Ea.out 6).trans rfl;have MA:=aa Ea.out 0;have LA:=aa Ea.out 1;have KA:=aa Ea.out 2;have JA:=aa Ea.out 3;have IA:=aa Ea.out 4;have QV:=aa Ea.out 5;have PV:=aa Ea.out 6;go_wp2
      go_meet
      case rel=>exact ⟨_,(false),(by first|rfl|(simp;done)|(simp [*];done)),H',⟨by have:=HJ5.out;first|omega|exact Nat.le_refl _⟩,⟨by (with_reducible repeat (first|refine Ba ?_ _|refine Ca ?_|refine Aa ?_ _));exact ya.out⟩,⟨by (with_reducible repeat (first|refine Ba ?_ _|refine Ca ?_|refine Aa ?_ _));exact Ea.out⟩,⟨by repeat (first|(with_reducible first|exact HB.out|apply qa|apply ja|apply ta|refine ua ?_ Wa.out|refine ua ?_ Xb.out)|exact HB.out)⟩⟩
     ·rw [if_neg pJ] at H;have jN:(td == 4)=false:=beq_eq_false_iff_ne.mpr pJ;have tZ:(td != 4)=true:=bne_iff_ne.mpr pJ;have H':=ia.mk H;clear H;have Pas:=Eb.out;have kas:=Fb.out;have RE:wc.cell? ⟨Ga,0,none⟩=some (.int .i64 td):=(ga Ea.out 0).trans rfl;have QE:wc.cell? ⟨Ga,1,none⟩=some (.int .i64 jc):=(ga Ea.out 1).trans rfl;have PE:wc.cell? ⟨Ga,2,none⟩=some (.int .i64 Yb):=(ga Ea.out 2).trans rfl;have OE:wc.cell? ⟨Ga,3,none⟩=some (.int .i64 Zb):=(ga Ea.out 3).trans rfl;have ME:wc.cell? ⟨Ga,4,none⟩=some (.int .i64 Pc):=(ga Ea.out 4).trans rfl;have EM:wc.cell? ⟨Ga,5,none⟩=some (.int .i64 Rd):=(ga Ea.out 5).trans rfl;have DM:wc.cell? ⟨Ga,6,none⟩=some (.string Xd):=(ga Ea.out 6).trans rfl;have fE:=aa Ea.out 0;have eE:=aa Ea.out 1;have cE:=aa Ea.out 2;have bE:=aa Ea.out 3;have aE:=aa Ea.out 4;have vL:=aa Ea.out 5;have uL:=aa Ea.out 6;go_wp2
      go_meet
      case rel=>exact ⟨_,((Pc != 0)),(by first|rfl|(simp;done)|(simp [*];done)),H',⟨by have:=HJ5.out;first|omega|exact Nat.le_refl _⟩,⟨by (with_reducible repeat (first|refine Ba ?_ _|refine Ca ?_|refine Aa ?_ _));exact ya.out⟩,⟨by (with_reducible repeat (first|refine Ba ?_ _|refine Ca ?_|refine Aa ?_ _));exact Ea.out⟩,⟨by repeat (first|(with_reducible first|exact HB.out|apply qa|apply ja|apply ta|refine ua ?_ Wa.out|refine ua ?_ Xb.out)|exact HB.out)⟩⟩
    ·rw [if_neg QO] at H;have iC:(td == 2)=false:=beq_eq_false_iff_ne.mpr QO;have uZ:(td != 2)=true:=bne_iff_ne.mpr QO;(first|rw [iC]|(simp only [jb,mb];rw [iC])|skip)
     by_cases rZ:Xd.toList=([]:List UInt8)
     ·rw [if_pos rZ] at H;have qZ:(Xd.toList == ([]:List UInt8))=true:=beq_iff_eq.mpr rZ;have pZ:(Xd.toList != ([]:List UInt8))=false:=bne_eq_false_iff_eq.mpr rZ;clear rZ
      by_cases oJ:td=4
      ·rw [if_pos oJ] at H;have iN:(td == 4)=true:=beq_iff_eq.mpr oJ;have oZ:(td != 4)=false:=bne_eq_false_iff_eq.mpr oJ;clear oJ;have H':=ia.mk H;clear H;have RY:=Eb.out;have IY:=Fb.out;have zu:wc.cell? ⟨Ga,0,none⟩=some (.int .i64 td):=(ga Ea.out 0).trans rfl;have yu:wc.cell? ⟨Ga,1,none⟩=some (.int .i64 jc):=(ga Ea.out 1).trans rfl;have xu:wc.cell? ⟨Ga,2,none⟩=some (.int .i64 Yb):=(ga Ea.out 2).trans rfl;have wu:wc.cell? ⟨Ga,3,none⟩=some (.int .i64 Zb):=(ga Ea.out 3).trans rfl;have vu:wc.cell? ⟨Ga,4,none⟩=some (.int .i64 Pc):=(ga Ea.out 4).trans rfl;have lM:wc.cell? ⟨Ga,5,none⟩=some (.int .i64 Rd):=(ga Ea.out 5).trans rfl;have kM:wc.cell? ⟨Ga,6,none⟩=some (.string Xd):=(ga Ea.out 6).trans rfl;have Rt:=aa Ea.out 0;have Qt:=aa Ea.out 1;have Pt:=aa Ea.out 2;have Ot:=aa Ea.out 3;have Nt:=aa Ea.out 4;have cL:=aa Ea.out 5;have bL:=aa Ea.out 6;go_wp2
       go_meet
       case rel=>exact ⟨_,(false),(by first|rfl|(simp;done)|(simp [*];done)),H',⟨by have:=HJ5.out;first|omega|exact Nat.le_refl _⟩,⟨by (with_reducible repeat (first|refine Ba ?_ _|refine Ca ?_|refine Aa ?_ _));exact ya.out⟩,⟨by (with_reducible repeat (first|refine Ba ?_ _|refine Ca ?_|refine Aa ?_ _));exact Ea.out⟩,⟨by repeat (first|(with_reducible first|exact HB.out|apply qa|apply ja|apply ta|refine ua ?_ Wa.out|refine ua ?_ Xb.out)|exact HB.out)⟩⟩
      ·rw [if_neg oJ] at H;have iN:(td == 4)=false:=beq_eq_false_iff_ne.mpr oJ;have oZ:(td != 4)=true:=bne_iff_ne.mpr oJ;have H':=ia.mk H;clear H;have QY:=Eb.out;have GY:=Fb.out;have fy:wc.cell? ⟨Ga,0,none⟩=some (.int .i64 td):=(ga Ea.out 0).trans rfl;have ey:wc.cell? ⟨Ga,1,none⟩=some (.int .i64 jc):=(ga Ea.out 1).trans rfl;have dy:wc.cell? ⟨Ga,2,none⟩=some (.int .i64 Yb):=(ga Ea.out 2).trans rfl;have cy:wc.cell? ⟨Ga,3,none⟩=some (.int .i64 Zb):=(ga Ea.out 3).trans rfl;have ay:wc.cell? ⟨Ga,4,none⟩=some (.int .i64 Pc):=(ga Ea.out 4).trans rfl;have wX:wc.cell? ⟨Ga,5,none⟩=some (.int .i64 Rd):=(ga Ea.out 5).trans rfl;have vX:wc.cell? ⟨Ga,6,none⟩=some (.string Xd):=(ga Ea.out 6).trans rfl;have Hx:=aa Ea.out 0;have Gx:=aa Ea.out 1;have Fx:=aa Ea.out 2;have Ex:=aa Ea.out 3;have Dx:=aa Ea.out 4;have OV:=aa Ea.out 5;have NV:=aa Ea.out 6;go_wp2
       go_meet
       case rel=>exact ⟨_,((Pc != 0)),(by first|rfl|(simp;done)|(simp [*];done)),H',⟨by have:=HJ5.out;first|omega|exact Nat.le_refl _⟩,⟨by (with_reducible repeat (first|refine Ba ?_ _|refine Ca ?_|refine Aa ?_ _));exact ya.out⟩,⟨by (with_reducible repeat (first|refine Ba ?_ _|refine Ca ?_|refine Aa ?_ _));exact Ea.out⟩,⟨by repeat (first|(with_reducible first|exact HB.out|apply qa|apply ja|apply ta|refine ua ?_ Wa.out|refine ua ?_ Xb.out)|exact HB.out)⟩⟩
     ·rw [if_neg rZ] at H;have qZ:(Xd.toList == ([]:List UInt8))=false:=beq_eq_false_iff_ne.mpr rZ;have pZ:(Xd.toList != ([]:List UInt8))=true:=bne_iff_ne.mpr rZ;have H':=ia.mk H;clear H;have y9:=Eb.out;have W8:=Fb.out;have KE:wc.cell? ⟨Ga,0,none⟩=some (.int .i64 td):=(ga Ea.out 0).trans rfl;have JE:wc.cell? ⟨Ga,1,none⟩=some (.int .i64 jc):=(ga Ea.out 1).trans rfl;have IE:wc.cell? ⟨Ga,2,none⟩=some (.int .i64 Yb):=(ga Ea.out 2).trans rfl;have FE:wc.cell? ⟨Ga,3,none⟩=some (.int .i64 Zb):=(ga Ea.out 3).trans rfl;have EE:wc.cell? ⟨Ga,4,none⟩=some (.int .i64 Pc):=(ga Ea.out 4).trans rfl;have uX:wc.cell? ⟨Ga,5,none⟩=some (.int .i64 Rd):=(ga Ea.out 5).trans rfl;have sX:wc.cell? ⟨Ga,6,none⟩=some (.string Xd):=(ga Ea.out 6).trans rfl;have ZD:=aa Ea.out 0;have YD:=aa Ea.out 1;have XD:=aa Ea.out 2;have WD:=aa Ea.out 3;have VD:=aa Ea.out 4;have MV:=aa Ea.out 5;have LV:=aa Ea.out 6;go_wp2
      go_meet
      case rel=>exact ⟨_,(true),(by first|rfl|(simp;done)|(simp [*];done)),H',⟨by have:=HJ5.out;first|omega|exact Nat.le_refl _⟩,⟨by (with_reducible repeat (first|refine Ba ?_ _|refine Ca ?_|refine Aa ?_ _));exact ya.out⟩,⟨by (with_reducible repeat (first|refine Ba ?_ _|refine Ca ?_|refine Aa ?_ _));exact Ea.out⟩,⟨by repeat (first|(with_reducible first|exact HB.out|apply qa|apply ja|apply ta|refine ua ?_ Wa.out|refine ua ?_ Xb.out)|exact HB.out)⟩⟩
   case rest =>
    clear U6
    try clear c1
    try clear c2
    try clear p2
    try clear c3
    try clear c4
    try clear c5
    try clear p6
    try clear c9
    try clear YC
    try clear XC
    try clear H7
    try clear c15
    try clear fI
    try clear My
    try clear AR
    try clear wv
    try clear yt
    try clear G7
    try clear c26
    try clear QO
    try clear iC
    try clear uZ
    try clear pJ
    try clear jN
    try clear tZ
    try clear sZ
    try clear c33
    try clear rZ
    try clear qZ
    try clear pZ
    try clear oJ
    try clear iN
    try clear oZ
    try clear c37
    try clear c39
    try clear c41
    try clear Vi
    try clear Ui
    try clear Ti
    try clear Si
    try clear Ri
    try clear fq
    try clear cq
    try clear Yu
    try clear Xu
    try clear Wu
    try clear Vu
    try clear Uu
    try clear Jr
    try clear Ir
    try clear Hr
    try clear Gr
    try clear Er
    try clear bN
    try clear aN
    try clear bq
    try clear aq
    try clear Zp
    try clear Yp
    try clear Xp
    try clear Dy
    try clear Cy
    try clear Ay
    try clear zy
    try clear yy
    try clear VM
    try clear UM
    try clear Co
    try clear Bo
    try clear Ao
    try clear zo
    try clear yo
    try clear Ju
    try clear Iu
    try clear Hu
    try clear Gu
    try clear Fu
    try clear SM
    try clear RM
    try clear Eu
    try clear Du
    try clear Cu
    try clear Bu
    try clear Au
    try clear QM
    try clear PM
    try clear cB
    try clear bB
    try clear ZA
    try clear YA
    try clear XA
    try clear yX
    try clear xX
    try clear RE
    try clear QE
    try clear PE
    try clear OE
    try clear ME
    try clear EM
    try clear DM
    try clear zu
    try clear yu
    try clear xu
    try clear wu
    try clear vu
    try clear lM
    try clear kM
    try clear fy
    try clear ey
    try clear dy
    try clear cy
    try clear ay
    try clear wX
    try clear vX
    try clear KE
    try clear JE
    try clear IE
    try clear FE
    try clear EE
    try clear uX
    try clear sX
    try clear Qi
    try clear Oi
    try clear Ni
    try clear Mi
    try clear Li
    try clear Wp
    try clear Vp
    try clear uu
    try clear tu
    try clear su
    try clear ru
    try clear qu
    try clear cr
    try clear br
    try clear Zq
    try clear Yq
    try clear Xq
    try clear SL
    try clear RL
    try clear Tp
    try clear Sp
    try clear Rp
    try clear Qp
    try clear Pp
    try clear Wx
    try clear Vx
    try clear Ux
    try clear Tx
    try clear Sx
    try clear ML
    try clear LL
    try clear xo
    try clear wo
    try clear vo
    try clear uo
    try clear qo
    try clear bu
    try clear au
    try clear Zt
    try clear Yt
    try clear Xt
    try clear KL
    try clear JL
    try clear Wt
    try clear Vt
    try clear Ut
    try clear Tt
    try clear St
    try clear IL
    try clear GL
    try clear MA
    try clear LA
    try clear KA
    try clear JA
    try clear IA
    try clear QV
    try clear PV
    try clear fE
    try clear eE
    try clear cE
    try clear bE
    try clear aE
    try clear vL
    try clear uL
    try clear Rt
    try clear Qt
    try clear Pt
    try clear Ot
    try clear Nt
    try clear cL
    try clear bL
    try clear Hx
    try clear Gx
    try clear Fx
    try clear Ex
    try clear Dx
    try clear OV
    try clear NV
    try clear ZD
    try clear YD
    try clear XD
    try clear WD
    try clear VD
    try clear MV
    try clear LV
    try clear p2
    try clear p6
    obtain ⟨kq,vD,rfl,HA,Zaw,ya,Ea,HB⟩:=hcut;cases kq with
    | zero=>exact absurd HA.out (by simp [Cb.j1])
    | succ jO =>
     have H:=HA.out;clear HA;simp only [Cb.j1] at H
     by_cases c43:vD=true
     ·subst c43;have H1:(some false)=some r:=by rw [if_pos rfl] at H;exact H
      clear H;have H:=H1;clear H1;obtain rfl:=Option.some.inj H;go_wp2;go_ret;exact ⟨by first|rfl|(simp [Ka,Ja] <;> rfl)|(simp [*,Ka,Ja] <;> rfl),by repeat (first|(with_reducible first|exact HB.out|apply qa|apply ja|apply ta|refine ua ?_ Wa.out|refine ua ?_ Xb.out)|exact HB.out)⟩
     ·replace c43:=Bool.eq_false_iff.mpr c43;subst c43;have H1:(if td=0 then (if t103=true then (if Yb=0 then (some (Zb == 0)) else (some false)) else (some false)) else (if td=1 then (if t103=true then (if t104=true then (if Zb=0 then (some (Rd == 0)) else (some false)) else (some false)) else (some false)) else (if td=2 then (if t103=true then (if t104=true then (if t105=true then (if Rd=0 then ((Qf.f jO (([(⟨#[61,61]⟩:ByteArray),(⟨#[60]⟩:ByteArray),(⟨#[38]⟩:ByteArray),(⟨#[43]⟩:ByteArray),(⟨#[45]⟩:ByteArray),(⟨#[42]⟩:ByteArray)]:List ByteArray)) Xd).bind fun t111=>(some t111)) else (some false)) else (some false)) else (some false)) else (some false)) else (if td=3 then (if t103=true then (some iG) else (some false)) else (if td=4 then (if jc=0 then (if iG=true then ((xb.f Pc 0 (wrap64 (Pa - 1))).bind fun t112=>(some t112)) else (some false)) else (some false)) else (if td=5 then (if t103=true then (if Yb=0 then (if Zb=0 then (some (Rd == 0)) else (some false)) else (some false)) else (some false)) else (if td=6 then (if jc=0 then (if t104=true then (if Zb=0 then (some (Rd == 0)) else (some false)) else (some false)) else (some false)) else (some false))))))))=some r:=by rw [if_neg (show ¬ (false=true) by decide)] at H;exact H
      clear H;have H:=H1;clear H1
      by_cases gC:td=0
      ·rw [if_pos gC] at H;have wH:(td == 0)=true:=beq_iff_eq.mpr gC;have vH:(td != 0)=false:=bne_eq_false_iff_eq.mpr gC;clear gC
       by_cases PX:t103=true
       ·subst PX;have H1:(if Yb=0 then (some (Zb == 0)) else (some false))=some r:=by rw [if_pos rfl] at H;exact H
        clear H;have H:=H1;clear H1
        by_cases nJ:Yb=0
        ·rw [if_pos nJ] at H;have yR:(Yb == 0)=true:=beq_iff_eq.mpr nJ;have xR:(Yb != 0)=false:=bne_eq_false_iff_eq.mpr nJ;clear nJ;obtain rfl:=Option.some.inj H;have GQ:=Eb.out;have DQ:=Fb.out;have RA:wc.cell? ⟨Ga,0,none⟩=some (.int .i64 td):=(ga Ea.out 0).trans rfl;have QA:wc.cell? ⟨Ga,1,none⟩=some (.int .i64 jc):=(ga Ea.out 1).trans rfl;have PA:wc.cell? ⟨Ga,2,none⟩=some (.int .i64 Yb):=(ga Ea.out 2).trans rfl;have OA:wc.cell? ⟨Ga,3,none⟩=some (.int .i64 Zb):=(ga Ea.out 3).trans rfl;have NA:wc.cell? ⟨Ga,4,none⟩=some (.int .i64 Pc):=(ga Ea.out 4).trans rfl;have gX:wc.cell? ⟨Ga,5,none⟩=some (.int .i64 Rd):=(ga Ea.out 5).trans rfl;have fX:wc.cell? ⟨Ga,6,none⟩=some (.string Xd):=(ga Ea.out 6).trans rfl;have BA:=aa Ea.out 0;have AA:=aa Ea.out 1;have zA:=aa Ea.out 2;have yA:=aa Ea.out 3;have xA:=aa Ea.out 4;have yV:=aa Ea.out 5;have xV:=aa Ea.out 6;go_wp2;go_ret;exact ⟨by first|rfl|(simp [Ka,Ja] <;> rfl)|(simp [*,Ka,Ja] <;> rfl),by repeat (first|(with_reducible first|exact HB.out|apply qa|apply ja|apply ta|refine ua ?_ Wa.out|refine ua ?_ Xb.out)|exact HB.out)⟩
        ·rw [if_neg nJ] at H;have yR:(Yb == 0)=false:=beq_eq_false_iff_ne.mpr nJ;have xR:(Yb != 0)=true:=bne_iff_ne.mpr nJ;obtain rfl:=Option.some.inj H;have n9:=Eb.out;have T8:=Fb.out;have ZW:wc.cell? ⟨Ga,0,none⟩=some (.int .i64 td):=(ga Ea.out 0).trans rfl;have YW:wc.cell? ⟨Ga,1,none⟩=some (.int .i64 jc):=(ga Ea.out 1).trans rfl;have XW:wc.cell? ⟨Ga,2,none⟩=some (.int .i64 Yb):=(ga Ea.out 2).trans rfl;have WW:wc.cell? ⟨Ga,3,none⟩=some (.int .i64 Zb):=(ga Ea.out 3).trans rfl;have VW:wc.cell? ⟨Ga,4,none⟩=some (.int .i64 Pc):=(ga Ea.out 4).trans rfl;have eal:wc.cell? ⟨Ga,5,none⟩=some (.int .i64 Rd):=(ga Ea.out 5).trans rfl;have dal:wc.cell? ⟨Ga,6,none⟩=some (.string Xd):=(ga Ea.out 6).trans rfl;have rV:=aa Ea.out 0;have qV:=aa Ea.out 1;have pV:=aa Ea.out 2;have oV:=aa Ea.out 3;have nV:=aa Ea.out 4;have Vah:=aa Ea.out 5;have Uah:=aa Ea.out 6;go_wp2;go_ret;exact ⟨by first|rfl|(simp [Ka,Ja] <;> rfl)|(simp [*,Ka,Ja] <;> rfl),by repeat (first|(with_reducible first|exact HB.out|apply qa|apply ja|apply ta|refine ua ?_ Wa.out|refine ua ?_ Xb.out)|exact HB.out)⟩
       ·replace PX:=Bool.eq_false_iff.mpr PX;subst PX;have H1:(some false)=some r:=by rw [if_neg (show ¬ (false=true) by decide)] at H;exact H
        clear H;have H:=H1;clear H1;obtain rfl:=Option.some.inj H;have m9:=Eb.out;have R8:=Fb.out;have YL:wc.cell? ⟨Ga,0,none⟩=some (.int .i64 td):=(ga Ea.out 0).trans rfl;have XL:wc.cell? ⟨Ga,1,none⟩=some (.int .i64 jc):=(ga Ea.out 1).trans rfl;have WL:wc.cell? ⟨Ga,2,none⟩=some (.int .i64 Yb):=(ga Ea.out 2).trans rfl;have VL:wc.cell? ⟨Ga,3,none⟩=some (.int .i64 Zb):=(ga Ea.out 3).trans rfl;have UL:wc.cell? ⟨Ga,4,none⟩=some (.int .i64 Pc):=(ga Ea.out 4).trans rfl;have cal:wc.cell? ⟨Ga,5,none⟩=some (.int .i64 Rd):=(ga Ea.out 5).trans rfl;have bal:wc.cell? ⟨Ga,6,none⟩=some (.string Xd):=(ga Ea.out 6).trans rfl;have PK:=aa Ea.out 0;have OK:=aa Ea.out 1;have NK:=aa Ea.out 2;have MK:=aa Ea.out 3;have LK:=aa Ea.out 4;have Tah:=aa Ea.out 5;have Sah:=aa Ea.out 6;go_wp2;go_ret;exact ⟨by first|rfl|(simp [Ka,Ja] <;> rfl)|(simp [*,Ka,Ja] <;> rfl),by repeat (first|(with_reducible first|exact HB.out|apply qa|apply ja|apply ta|refine ua ?_ Wa.out|refine ua ?_ Xb.out)|exact HB.out)⟩
      ·rw [if_neg gC] at H;have wH:(td == 0)=false:=beq_eq_false_iff_ne.mpr gC;have vH:(td != 0)=true:=bne_iff_ne.mpr gC
       by_cases J5:td=1
       ·rw [if_pos J5] at H;have Hac:(td == 1)=true:=beq_iff_eq.mpr J5;have Gac:(td != 1)=false:=bne_eq_false_iff_eq.mpr J5;clear J5
        by_cases c54:t103=true
        ·subst c54;have H1:(if t104=true then (if Zb=0 then (some (Rd == 0)) else (some false)) else (some false))=some r:=by rw [if_pos rfl] at H;exact H
         clear H;have H:=H1;clear H1
         by_cases c55:t104=true
         ·subst c55;have H1:(if Zb=0 then (some (Rd == 0)) else (some false))=some r:=by rw [if_pos rfl] at H;exact H
          clear H;have H:=H1;clear H1
          by_cases I5:Zb=0
          ·rw [if_pos I5] at H;have Fac:(Zb == 0)=true:=beq_iff_eq.mpr I5;have Eac:(Zb != 0)=false:=bne_eq_false_iff_eq.mpr I5;clear I5;obtain rfl:=Option.some.inj H;have Fas:=Eb.out;have Zar:=Fb.out;have PW:wc.cell? ⟨Ga,0,none⟩=some (.int .i64 td):=(ga Ea.out 0).trans rfl;have OW:wc.cell? ⟨Ga,1,none⟩=some (.int .i64 jc):=(ga Ea.out 1).trans rfl;have NW:wc.cell? ⟨Ga,2,none⟩=some (.int .i64 Yb):=(ga Ea.out 2).trans rfl;have MW:wc.cell? ⟨Ga,3,none⟩=some (.int .i64 Zb):=(ga Ea.out 3).trans rfl;have LW:wc.cell? ⟨Ga,4,none⟩=some (.int .i64 Pc):=(ga Ea.out 4).trans rfl;have Gak:wc.cell? ⟨Ga,5,none⟩=some (.int .i64 Rd):=(ga Ea.out 5).trans rfl;have Fak:wc.cell? ⟨Ga,6,none⟩=some (.string Xd):=(ga Ea.out 6).trans rfl;have gV:=aa Ea.out 0;have fV:=aa Ea.out 1;have eV:=aa Ea.out 2;have dV:=aa Ea.out 3;have cV:=aa Ea.out 4;have xah:=aa Ea.out 5;have wah:=aa Ea.out 6;go_wp2;go_ret;exact ⟨by first|rfl|(simp [Ka,Ja] <;> rfl)|(simp [*,Ka,Ja] <;> rfl),by repeat (first|(with_reducible first|exact HB.out|apply qa|apply ja|apply ta|refine ua ?_ Wa.out|refine ua ?_ Xb.out)|exact HB.out)⟩
          ·rw [if_neg I5] at H;have Fac:(Zb == 0)=false:=beq_eq_false_iff_ne.mpr I5;have Eac:(Zb != 0)=true:=bne_iff_ne.mpr I5;obtain rfl:=Option.some.inj H;have Eas:=Eb.out;have Yar:=Fb.out;have Eak:wc.cell? ⟨Ga,0,none⟩=some (.int .i64 td):=(ga Ea.out 0).trans rfl;have Dak:wc.cell? ⟨Ga,1,none⟩=some (.int .i64 jc):=(ga Ea.out 1).trans rfl;have Cak:wc.cell? ⟨Ga,2,none⟩=some (.int .i64 Yb):=(ga Ea.out 2).trans rfl;have Bak:wc.cell? ⟨Ga,3,none⟩=some (.int .i64 Zb):=(ga Ea.out 3).trans rfl;have Aak:wc.cell? ⟨Ga,4,none⟩=some (.int .i64 Pc):=(ga Ea.out 4).trans rfl;have zak:wc.cell? ⟨Ga,5,none⟩=some (.int .i64 Rd):=(ga Ea.out 5).trans rfl;have yak:wc.cell? ⟨Ga,6,none⟩=some (.string Xd):=(ga Ea.out 6).trans rfl;have vah:=aa Ea.out 0;have uah:=aa Ea.out 1;have tah:=aa Ea.out 2;have sah:=aa Ea.out 3;have rah:=aa Ea.out 4;have qah:=aa Ea.out 5;have pah:=aa Ea.out 6;go_wp2;go_ret;exact ⟨by first|rfl|(simp [Ka,Ja] <;> rfl)|(simp [*,Ka,Ja] <;> rfl),by repeat (first|(with_reducible first|exact HB.out|apply qa|apply ja|apply ta|refine ua ?_ Wa.out|refine ua ?_ Xb.out)|exact HB.out)⟩
         ·replace c55:=Bool.eq_false_iff.mpr c55;subst c55;have H1:(some false)=some r:=by rw [if_neg (show ¬ (false=true) by decide)] at H;exact H
          clear H;have H:=H1;clear H1;obtain rfl:=Option.some.inj H;have Das:=Eb.out;have Xar:=Fb.out;have xak:wc.cell? ⟨Ga,0,none⟩=some (.int .i64 td):=(ga Ea.out 0).trans rfl;have wak:wc.cell? ⟨Ga,1,none⟩=some (.int .i64 jc):=(ga Ea.out 1).trans rfl;have vak:wc.cell? ⟨Ga,2,none⟩=some (.int .i64 Yb):=(ga Ea.out 2).trans rfl;have uak:wc.cell? ⟨Ga,3,none⟩=some (.int .i64 Zb):=(ga Ea.out 3).trans rfl;have tak:wc.cell? ⟨Ga,4,none⟩=some (.int .i64 Pc):=(ga Ea.out 4).trans rfl;have sak:wc.cell? ⟨Ga,5,none⟩=some (.int .i64 Rd):=(ga Ea.out 5).trans rfl;have rak:wc.cell? ⟨Ga,6,none⟩=some (.string Xd):=(ga Ea.out 6).trans rfl;have oah:=aa Ea.out 0;have nah:=aa Ea.out 1;have mah:=aa Ea.out 2;have lah:=aa Ea.out 3;have kah:=aa Ea.out 4;have jah:=aa Ea.out 5;have iah:=aa Ea.out 6;go_wp2;go_ret;exact ⟨by first|rfl|(simp [Ka,Ja] <;> rfl)|(simp [*,Ka,Ja] <;> rfl),by repeat (first|(with_reducible first|exact HB.out|apply qa|apply ja|apply ta|refine ua ?_ Wa.out|refine ua ?_ Xb.out)|exact HB.out)⟩
        ·replace c54:=Bool.eq_false_iff.mpr c54;subst c54;have H1:(some false)=some r:=by rw [if_neg (show ¬ (false=true) by decide)] at H;exact H
         clear H;have H:=H1;clear H1;obtain rfl:=Option.some.inj H;have Cas:=Eb.out;have War:=Fb.out;have qak:wc.cell? ⟨Ga,0,none⟩=some (.int .i64 td):=(ga Ea.out 0).trans rfl;have pak:wc.cell? ⟨Ga,1,none⟩=some (.int .i64 jc):=(ga Ea.out 1).trans rfl;have oak:wc.cell? ⟨Ga,2,none⟩=some (.int .i64 Yb):=(ga Ea.out 2).trans rfl;have nak:wc.cell? ⟨Ga,3,none⟩=some (.int .i64 Zb):=(ga Ea.out 3).trans rfl;have mak:wc.cell? ⟨Ga,4,none⟩=some (.int .i64 Pc):=(ga Ea.out 4).trans rfl;have lak:wc.cell? ⟨Ga,5,none⟩=some (.int .i64 Rd):=(ga Ea.out 5).trans rfl;have kak:wc.cell? ⟨Ga,6,none⟩=some (.string Xd):=(ga Ea.out 6).trans rfl;have hah:=aa Ea.out 0;have gah:=aa Ea.out 1;have fah:=aa Ea.out 2;have eah:=aa Ea.out 3;have dah:=aa Ea.out 4;have cah:=aa Ea.out 5;have bah:=aa Ea.out 6;go_wp2;go_ret;exact ⟨by first|rfl|(simp [Ka,Ja] <;> rfl)|(simp [*,Ka,Ja] <;> rfl),by repeat (first|(with_reducible first|exact HB.out|apply qa|apply ja|apply ta|refine ua ?_ Wa.out|refine ua ?_ Xb.out)|exact HB.out)⟩
       ·rw [if_neg J5] at H;have Hac:(td == 1)=false:=beq_eq_false_iff_ne.mpr J5;have Gac:(td != 1)=true:=bne_iff_ne.mpr J5
        by_cases oP:td=2
        ·rw [if_pos oP] at H;have zac:(td == 2)=true:=beq_iff_eq.mpr oP;have yac:(td != 2)=false:=bne_eq_false_iff_eq.mpr oP;clear oP
         by_cases c66:t103=true
         ·subst c66;have H1:(if t104=true then (if t105=true then (if Rd=0 then ((Qf.f jO (([(⟨#[61,61]⟩:ByteArray),(⟨#[60]⟩:ByteArray),(⟨#[38]⟩:ByteArray),(⟨#[43]⟩:ByteArray),(⟨#[45]⟩:ByteArray),(⟨#[42]⟩:ByteArray)]:List ByteArray)) Xd).bind fun t111=>(some t111)) else (some false)) else (some false)) else (some false))=some r:=by rw [if_pos rfl] at H;exact H
          clear H;have H:=H1;clear H1
          by_cases c67:t104=true
          ·subst c67;have H1:(if t105=true then (if Rd=0 then ((Qf.f jO (([(⟨#[61,61]⟩:ByteArray),(⟨#[60]⟩:ByteArray),(⟨#[38]⟩:ByteArray),(⟨#[43]⟩:ByteArray),(⟨#[45]⟩:ByteArray),(⟨#[42]⟩:ByteArray)]:List ByteArray)) Xd).bind fun t111=>(some t111)) else (some false)) else (some false))=some r:=by rw [if_pos rfl] at H;exact H
           clear H;have H:=H1;clear H1
           by_cases c68:t105=true
           ·subst c68;have H1:(if Rd=0 then ((Qf.f jO (([(⟨#[61,61]⟩:ByteArray),(⟨#[60]⟩:ByteArray),(⟨#[38]⟩:ByteArray),(⟨#[43]⟩:ByteArray),(⟨#[45]⟩:ByteArray),(⟨#[42]⟩:ByteArray)]:List ByteArray)) Xd).bind fun t111=>(some t111)) else (some false))=some r:=by rw [if_pos rfl] at H;exact H
            clear H;have H:=H1;clear H1
            by_cases E5:Rd=0
            ·rw [if_pos E5] at H;have xac:(Rd == 0)=true:=beq_iff_eq.mpr E5;have wac:(Rd != 0)=false:=bne_eq_false_iff_eq.mpr E5;clear E5;obtain ⟨LN,ct⟩:∃ y_:List ByteArray,y_=(([(⟨#[61,61]⟩:ByteArray),(⟨#[60]⟩:ByteArray),(⟨#[38]⟩:ByteArray),(⟨#[43]⟩:ByteArray),(⟨#[45]⟩:ByteArray),(⟨#[42]⟩:ByteArray)]:List ByteArray)):=⟨_,rfl⟩;replace H:((Qf.f jO LN Xd).bind fun t111=>(some t111))=some r:=by first|(rw [ct];with_reducible exact H)|(have sg:=(Option.bind_some _ _).symm.trans H;rw [ct];with_reducible exact sg)|(have sg:=(Option.bind_some _ _).symm.trans H;with_reducible exact sg)|with_reducible exact H|(rw [ct];exact H)|exact H
             have rN:=ia.mk ct;clear ct;replace H:=Option.bind_eq_some_iff.mp H;obtain ⟨t111,Hae,H⟩:=H;replace H:(some t111)=some r:=H;have gI:=ia.mk Hae;clear Hae;obtain rfl:=Option.some.inj H;have Aas:=Eb.out;have Tar:=Fb.out;have Vaj:wc.cell? ⟨Ga,0,none⟩=some (.int .i64 td):=(ga Ea.out 0).trans rfl;have Uaj:wc.cell? ⟨Ga,1,none⟩=some (.int .i64 jc):=(ga Ea.out 1).trans rfl;have Taj:wc.cell? ⟨Ga,2,none⟩=some (.int .i64 Yb):=(ga Ea.out 2).trans rfl;have Saj:wc.cell? ⟨Ga,3,none⟩=some (.int .i64 Zb):=(ga Ea.out 3).trans rfl;have Raj:wc.cell? ⟨Ga,4,none⟩=some (.int .i64 Pc):=(ga Ea.out 4).trans rfl;have Qaj:wc.cell? ⟨Ga,5,none⟩=some (.int .i64 Rd):=(ga Ea.out 5).trans rfl;have Paj:wc.cell? ⟨Ga,6,none⟩=some (.string Xd):=(ga Ea.out 6).trans rfl;have Lag:=aa Ea.out 0;have Kag:=aa Ea.out 1;have Jag:=aa Ea.out 2;have Iag:=aa Ea.out 3;have Hag:=aa Ea.out 4;have Gag:=aa Ea.out 5;have Fag:=aa Ea.out 6;go_wp2_with (first|((with_reducible refine Tb (N:=109) rfl ?_);(try (refine Zj (by rfl) ?_;dsimp only));refine Kd.Gs Kd.string _ 9 ?hg (N:=109) ?hd (xs:=([(⟨#[61,61]⟩:ByteArray),(⟨#[60]⟩:ByteArray),(⟨#[38]⟩:ByteArray),(⟨#[43]⟩:ByteArray),(⟨#[45]⟩:ByteArray),(⟨#[42]⟩:ByteArray)]:List ByteArray)) (inner:=[.string (⟨#[61,61]⟩:ByteArray),.string (⟨#[60]⟩:ByteArray),.string (⟨#[38]⟩:ByteArray),.string (⟨#[43]⟩:ByteArray),.string (⟨#[45]⟩:ByteArray),.string (⟨#[42]⟩:ByteArray)]) (ok:=fun _=>True) (Bl:=fun _=>True) ?hr ?hp (fun _ hk=>hk) trivial (Below.refl _ _) (Nat.le_refl _) (by simp) ?_;(case hd=>rfl);(case hg=>rfl);(case hr=>first|(go_simp;done)|(go_simp;rfl));(case hp=>exact (Gf.one (show Kd.M Kd.string _ _ _ (⟨#[61,61]⟩:ByteArray) [.string (⟨#[61,61]⟩:ByteArray)] from rfl) (Gf.one (show Kd.M Kd.string _ _ _ (⟨#[60]⟩:ByteArray) [.string (⟨#[60]⟩:ByteArray)] from rfl) (Gf.one (show Kd.M Kd.string _ _ _ (⟨#[38]⟩:ByteArray) [.string (⟨#[38]⟩:ByteArray)] from rfl) (Gf.one (show Kd.M Kd.string _ _ _ (⟨#[43]⟩:ByteArray) [.string (⟨#[43]⟩:ByteArray)] from rfl) (Gf.one (show Kd.M Kd.string _ _ _ (⟨#[45]⟩:ByteArray) [.string (⟨#[45]⟩:ByteArray)] from rfl) (Gf.one (show Kd.M Kd.string _ _ _ (⟨#[42]⟩:ByteArray) [.string (⟨#[42]⟩:ByteArray)] from rfl) (Gf.none _ _))))))));intro iav B1 zQ hb kz uj;clear kz uj;(first|rw [← rN.out] at zQ|(simp only [Int.reduceToNat] at zQ;rw [← rN.out] at zQ));have Ub:=ia.mk (Kd.Kh zQ (Ma (by repeat (first|(with_reducible first|exact HB.out|apply qa|apply ja|apply ta|refine ua ?_ Wa.out|refine ua ?_ Xb.out)|exact HB.out))));have fc:=ia.mk (Sa (g:=Fa) (o:=.cells #[.slice Jb Ta.length Ib,.int .i64 Ra,.int .i64 Qa,.int .i64 Pa,.slice nc La.length dc] 30 (0,0)) (by (with_reducible repeat (first|refine Ba ?_ _|refine Ca ?_|refine Aa ?_ _));exact ya.out) hb);have Fc:=ia.mk (Sa (g:=Ga) (o:=.cells #[.int .i64 td,.int .i64 jc,.int .i64 Yb,.int .i64 Zb,.int .i64 Pc,.int .i64 Rd,.string Xd] 70 (0,0)) (by (with_reducible repeat (first|refine Ba ?_ _|refine Ca ?_|refine Aa ?_ _));exact Ea.out) hb);have Xc:=ia.mk (Oa (by repeat (first|(with_reducible first|exact HB.out|apply qa|apply ja|apply ta|refine ua ?_ Wa.out|refine ua ?_ Xb.out)|exact HB.out)) hb);clear ya Ea HB;have CT:=Ub;have ya:=fc;have Ea:=Fc;have HB:=Xc;clear Ub fc Fc Xc hb zQ;have KW:B1.cell? ⟨Ga,0,none⟩=some (.int .i64 td):=(ga Ea.out 0).trans rfl;have JW:B1.cell? ⟨Ga,1,none⟩=some (.int .i64 jc):=(ga Ea.out 1).trans rfl;have IW:B1.cell? ⟨Ga,2,none⟩=some (.int .i64 Yb):=(ga Ea.out 2).trans rfl;have GW:B1.cell? ⟨Ga,3,none⟩=some (.int .i64 Zb):=(ga Ea.out 3).trans rfl;have FW:B1.cell? ⟨Ga,4,none⟩=some (.int .i64 Pc):=(ga Ea.out 4).trans rfl;have EW:B1.cell? ⟨Ga,5,none⟩=some (.int .i64 Rd):=(ga Ea.out 5).trans rfl;have DW:B1.cell? ⟨Ga,6,none⟩=some (.string Xd):=(ga Ea.out 6).trans rfl;have bV:=aa Ea.out 0;have aV:=aa Ea.out 1;have ZU:=aa Ea.out 2;have YU:=aa Ea.out 3;have XU:=aa Ea.out 4;have WU:=aa Ea.out 5;have VU:=aa Ea.out 6;obtain ⟨nax,oaw,oap⟩:=Kd.Ze CT.out;subst oap)|(go_at_call 128;(with_reducible refine (Qf.calls jO _ _ LN Xd t111 _ ?zd ?yd gI.out).mono ?_);(case zd=>repeat (first|exact (Kd.Dc CT.out).2.2|(with_reducible refine Kd.Sc ?_ _)|(with_reducible refine Kd.Rc ?_ _)|(with_reducible refine Kd.Cd ?_)));(case yd=>exact (Kd.Dc CT.out).2.1);rintro e w' ⟨rfl,⟨nd,rfl⟩⟩));go_ret;exact ⟨by first|rfl|(simp [Ka,Ja] <;> rfl)|(simp [*,Ka,Ja] <;> rfl),by repeat (first|(with_reducible first|exact HB.out|apply qa|apply ja|apply ta|refine ua ?_ Wa.out|refine ua ?_ Xb.out)|exact HB.out)⟩
            ·rw [if_neg E5] at H;have xac:(Rd == 0)=false:=beq_eq_false_iff_ne.mpr E5;have wac:(Rd != 0)=true:=bne_iff_ne.mpr E5;obtain rfl:=Option.some.inj H;have yas:=Eb.out;have Rar:=Fb.out;have Haj:wc.cell? ⟨Ga,0,none⟩=some (.int .i64 td):=(ga Ea.out 0).trans rfl;have Gaj:wc.cell? ⟨Ga,1,none⟩=some (.int .i64 jc):=(ga Ea.out 1).trans rfl;have Faj:wc.cell? ⟨Ga,2,none⟩=some (.int .i64 Yb):=(ga Ea.out 2).trans rfl;have Eaj:wc.cell? ⟨Ga,3,none⟩=some (.int .i64 Zb):=(ga Ea.out 3).trans rfl;have Daj:wc.cell? ⟨Ga,4,none⟩=some (.int .i64 Pc):=(ga Ea.out 4).trans rfl;have Caj:wc.cell? ⟨Ga,5,none⟩=some (.int .i64 Rd):=(ga Ea.out 5).trans rfl;have Baj:wc.cell? ⟨Ga,6,none⟩=some (.string Xd):=(ga Ea.out 6).trans rfl;have xag:=aa Ea.out 0;have wag:=aa Ea.out 1;have vag:=aa Ea.out 2;have uag:=aa Ea.out 3;have sag:=aa Ea.out 4;have rag:=aa Ea.out 5;have qag:=aa Ea.out 6;go_wp2;go_ret;exact ⟨by first|rfl|(simp [Ka,Ja] <;> rfl)|(simp [*,Ka,Ja] <;> rfl),by repeat (first|(with_reducible first|exact HB.out|apply qa|apply ja|apply ta|refine ua ?_ Wa.out|refine ua ?_ Xb.out)|exact HB.out)⟩
           ·replace c68:=Bool.eq_false_iff.mpr c68;subst c68;have H1:(some false)=some r:=by rw [if_neg (show ¬ (false=true) by decide)] at H;exact H
            clear H;have H:=H1;clear H1;obtain rfl:=Option.some.inj H;have xas:=Eb.out;have Qar:=Fb.out;have Aaj:wc.cell? ⟨Ga,0,none⟩=some (.int .i64 td):=(ga Ea.out 0).trans rfl;have zaj:wc.cell? ⟨Ga,1,none⟩=some (.int .i64 jc):=(ga Ea.out 1).trans rfl;have yaj:wc.cell? ⟨Ga,2,none⟩=some (.int .i64 Yb):=(ga Ea.out 2).trans rfl;have xaj:wc.cell? ⟨Ga,3,none⟩=some (.int .i64 Zb):=(ga Ea.out 3).trans rfl;have waj:wc.cell? ⟨Ga,4,none⟩=some (.int .i64 Pc):=(ga Ea.out 4).trans rfl;have vaj:wc.cell? ⟨Ga,5,none⟩=some (.int .i64 Rd):=(ga Ea.out 5).trans rfl;have uaj:wc.cell? ⟨Ga,6,none⟩=some (.string Xd):=(ga Ea.out 6).trans rfl;have pag:=aa Ea.out 0;have oag:=aa Ea.out 1;have nag:=aa Ea.out 2;have lag:=aa Ea.out 3;have kag:=aa Ea.out 4;have jag:=aa Ea.out 5;have iag:=aa Ea.out 6;go_wp2;go_ret;exact ⟨by first|rfl|(simp [Ka,Ja] <;> rfl)|(simp [*,Ka,Ja] <;> rfl),by repeat (first|(with_reducible first|exact HB.out|apply qa|apply ja|apply ta|refine ua ?_ Wa.out|refine ua ?_ Xb.out)|exact HB.out)⟩
          ·replace c67:=Bool.eq_false_iff.mpr c67;subst c67;have H1:(some false)=some r:=by rw [if_neg (show ¬ (false=true) by decide)] at H;exact H
           clear H;have H:=H1;clear H1;obtain rfl:=Option.some.inj H;have l9:=Eb.out;have Q8:=Fb.out;have CW:wc.cell? ⟨Ga,0,none⟩=some (.int .i64 td):=(ga Ea.out 0).trans rfl;have AW:wc.cell? ⟨Ga,1,none⟩=some (.int .i64 jc):=(ga Ea.out 1).trans rfl;have zW:wc.cell? ⟨Ga,2,none⟩=some (.int .i64 Yb):=(ga Ea.out 2).trans rfl;have xW:wc.cell? ⟨Ga,3,none⟩=some (.int .i64 Zb):=(ga Ea.out 3).trans rfl;have wW:wc.cell? ⟨Ga,4,none⟩=some (.int .i64 Pc):=(ga Ea.out 4).trans rfl;have vW:wc.cell? ⟨Ga,5,none⟩=some (.int .i64 Rd):=(ga Ea.out 5).trans rfl;have uW:wc.cell? ⟨Ga,6,none⟩=some (.string Xd):=(ga Ea.out 6).trans rfl;have UU:=aa Ea.out 0;have TU:=aa Ea.out 1;have SU:=aa Ea.out 2;have RU:=aa Ea.out 3;have QU:=aa Ea.out 4;have PU:=aa Ea.out 5;have OU:=aa Ea.out 6;go_wp2;go_ret;exact ⟨by first|rfl|(simp [Ka,Ja] <;> rfl)|(simp [*,Ka,Ja] <;> rfl),by repeat (first|(with_reducible first|exact HB.out|apply qa|apply ja|apply ta|refine ua ?_ Wa.out|refine ua ?_ Xb.out)|exact HB.out)⟩
         ·replace c66:=Bool.eq_false_iff.mpr c66;subst c66;have H1:(some false)=some r:=by rw [if_neg (show ¬ (false=true) by decide)] at H;exact H
          clear H;have H:=H1;clear H1;obtain rfl:=Option.some.inj H;have vas:=Eb.out;have Par:=Fb.out;have tW:wc.cell? ⟨Ga,0,none⟩=some (.int .i64 td):=(ga Ea.out 0).trans rfl;have sW:wc.cell? ⟨Ga,1,none⟩=some (.int .i64 jc):=(ga Ea.out 1).trans rfl;have rW:wc.cell? ⟨Ga,2,none⟩=some (.int .i64 Yb):=(ga Ea.out 2).trans rfl;have qW:wc.cell? ⟨Ga,3,none⟩=some (.int .i64 Zb):=(ga Ea.out 3).trans rfl;have pW:wc.cell? ⟨Ga,4,none⟩=some (.int .i64 Pc):=(ga Ea.out 4).trans rfl;have oW:wc.cell? ⟨Ga,5,none⟩=some (.int .i64 Rd):=(ga Ea.out 5).trans rfl;have nW:wc.cell? ⟨Ga,6,none⟩=some (.string Xd):=(ga Ea.out 6).trans rfl;have NU:=aa Ea.out 0;have MU:=aa Ea.out 1;have LU:=aa Ea.out 2;have KU:=aa Ea.out 3;have JU:=aa Ea.out 4;have IU:=aa Ea.out 5;have GU:=aa Ea.out 6;go_wp2;go_ret;exact ⟨by first|rfl|(simp [Ka,Ja] <;> rfl)|(simp [*,Ka,Ja] <;> rfl),by repeat (first|(with_reducible first|exact HB.out|apply qa|apply ja|apply ta|refine ua ?_ Wa.out|refine ua ?_ Xb.out)|exact HB.out)⟩
        ·rw [if_neg oP] at H;have zac:(td == 2)=false:=beq_eq_false_iff_ne.mpr oP;have yac:(td != 2)=true:=bne_iff_ne.mpr oP
         by_cases C5:td=3
         ·rw [if_pos C5] at H;have sac:(td == 3)=true:=beq_iff_eq.mpr C5;have rac:(td != 3)=false:=bne_eq_false_iff_eq.mpr C5;clear C5
          by_cases OX:t103=true
          ·subst OX;have H1:(some iG)=some r:=by rw [if_pos rfl] at H;exact H
           clear H;have H:=H1;clear H1;obtain rfl:=Option.some.inj H;have uas:=Eb.out;have Oar:=Fb.out;have taj:wc.cell? ⟨Ga,0,none⟩=some (.int .i64 td):=(ga Ea.out 0).trans rfl;have saj:wc.cell? ⟨Ga,1,none⟩=some (.int .i64 jc):=(ga Ea.out 1).trans rfl;have raj:wc.cell? ⟨Ga,2,none⟩=some (.int .i64 Yb):=(ga Ea.out 2).trans rfl;have qaj:wc.cell? ⟨Ga,3,none⟩=some (.int .i64 Zb):=(ga Ea.out 3).trans rfl;have paj:wc.cell? ⟨Ga,4,none⟩=some (.int .i64 Pc):=(ga Ea.out 4).trans rfl;have oaj:wc.cell? ⟨Ga,5,none⟩=some (.int .i64 Rd):=(ga Ea.out 5).trans rfl;have naj:wc.cell? ⟨Ga,6,none⟩=some (.string Xd):=(ga Ea.out 6).trans rfl;have hag:=aa Ea.out 0;have gag:=aa Ea.out 1;have fag:=aa Ea.out 2;have eag:=aa Ea.out 3;have dag:=aa Ea.out 4;have cag:=aa Ea.out 5;have bag:=aa Ea.out 6;go_wp2;go_ret;exact ⟨by first|rfl|(simp [Ka,Ja] <;> rfl)|(simp [*,Ka,Ja] <;> rfl),by repeat (first|(with_reducible first|exact HB.out|apply qa|apply ja|apply ta|refine ua ?_ Wa.out|refine ua ?_ Xb.out)|exact HB.out)⟩
          ·replace OX:=Bool.eq_false_iff.mpr OX;subst OX;have H1:(some false)=some r:=by rw [if_neg (show ¬ (false=true) by decide)] at H;exact H
           clear H;have H:=H1;clear H1;obtain rfl:=Option.some.inj H;have sas:=Eb.out;have Mar:=Fb.out;have mW:wc.cell? ⟨Ga,0,none⟩=some (.int .i64 td):=(ga Ea.out 0).trans rfl;have lW:wc.cell? ⟨Ga,1,none⟩=some (.int .i64 jc):=(ga Ea.out 1).trans rfl;have kW:wc.cell? ⟨Ga,2,none⟩=some (.int .i64 Yb):=(ga Ea.out 2).trans rfl;have jW:wc.cell? ⟨Ga,3,none⟩=some (.int .i64 Zb):=(ga Ea.out 3).trans rfl;have iW:wc.cell? ⟨Ga,4,none⟩=some (.int .i64 Pc):=(ga Ea.out 4).trans rfl;have gW:wc.cell? ⟨Ga,5,none⟩=some (.int .i64 Rd):=(ga Ea.out 5).trans rfl;have fW:wc.cell? ⟨Ga,6,none⟩=some (.string Xd):=(ga Ea.out 6).trans rfl;have FU:=aa Ea.out 0;have EU:=aa Ea.out 1;have DU:=aa Ea.out 2;have CU:=aa Ea.out 3;have BU:=aa Ea.out 4;have AU:=aa Ea.out 5;have zU:=aa Ea.out 6;go_wp2;go_ret;exact ⟨by first|rfl|(simp [Ka,Ja] <;> rfl)|(simp [*,Ka,Ja] <;> rfl),by repeat (first|(with_reducible first|exact HB.out|apply qa|apply ja|apply ta|refine ua ?_ Wa.out|refine ua ?_ Xb.out)|exact HB.out)⟩
         ·rw [if_neg C5] at H;have sac:(td == 3)=false:=beq_eq_false_iff_ne.mpr C5;have rac:(td != 3)=true:=bne_iff_ne.mpr C5
          by_cases u5:td=4
          ·rw [if_pos u5] at H;have qac:(td == 4)=true:=beq_iff_eq.mpr u5;have pac:(td != 4)=false:=bne_eq_false_iff_eq.mpr u5;clear u5
           by_cases n5:jc=0
           ·rw [if_pos n5] at H;have oac:(jc == 0)=true:=beq_iff_eq.mpr n5;have nac:(jc != 0)=false:=bne_eq_false_iff_eq.mpr n5;clear n5
            by_cases c93:iG=true
            ·subst c93;have H1:((xb.f Pc 0 (wrap64 (Pa - 1))).bind fun t112=>(some t112))=some r:=by rw [if_pos rfl] at H;exact H
             clear H;have H:=H1;clear H1;replace H:=Option.bind_eq_some_iff.mp H;obtain ⟨t112,Gae,H⟩:=H;replace H:(some t112)=some r:=H;have A94:=ia.mk Gae;clear Gae;obtain rfl:=Option.some.inj H;have ras:=Eb.out;have Lar:=Fb.out;have faj:wc.cell? ⟨Ga,0,none⟩=some (.int .i64 td):=(ga Ea.out 0).trans rfl;have eaj:wc.cell? ⟨Ga,1,none⟩=some (.int .i64 jc):=(ga Ea.out 1).trans rfl;have daj:wc.cell? ⟨Ga,2,none⟩=some (.int .i64 Yb):=(ga Ea.out 2).trans rfl;have caj:wc.cell? ⟨Ga,3,none⟩=some (.int .i64 Zb):=(ga Ea.out 3).trans rfl;have baj:wc.cell? ⟨Ga,4,none⟩=some (.int .i64 Pc):=(ga Ea.out 4).trans rfl;have aaj:wc.cell? ⟨Ga,5,none⟩=some (.int .i64 Rd):=(ga Ea.out 5).trans rfl;have Zai:wc.cell? ⟨Ga,6,none⟩=some (.string Xd):=(ga Ea.out 6).trans rfl;have Taf:=aa Ea.out 0;have Saf:=aa Ea.out 1;have Raf:=aa Ea.out 2;have Qaf:=aa Ea.out 3;have Paf:=aa Ea.out 4;have Oaf:=aa Ea.out 5;have Naf:=aa Ea.out 6;have Yai:wc.cell? ⟨Fa,0,none⟩=some (.slice Jb Ta.length Ib):=(ga ya.out 0).trans rfl;have Xai:wc.cell? ⟨Fa,1,none⟩=some (.int .i64 Ra):=(ga ya.out 1).trans rfl;have Wai:wc.cell? ⟨Fa,2,none⟩=some (.int .i64 Qa):=(ga ya.out 2).trans rfl;have Vai:wc.cell? ⟨Fa,3,none⟩=some (.int .i64 Pa):=(ga ya.out 3).trans rfl;have Uai:wc.cell? ⟨Fa,4,none⟩=some (.slice nc La.length dc):=(ga ya.out 4).trans rfl;have Maf:=aa ya.out 0;have Laf:=aa ya.out 1;have Kaf:=aa ya.out 2;have Jaf:=aa ya.out 3;have Iaf:=aa ya.out 4;go_wp2_with (first|(go_at_call 54;(with_reducible refine (xb.calls Pc 0 (wrap64 (Pa - 1)) t112 _ A94.out).mono ?_);rintro e w' ⟨rfl,⟨nd,rfl⟩⟩));go_ret;exact ⟨by first|rfl|(simp [Ka,Ja] <;> rfl)|(simp [*,Ka,Ja] <;> rfl),by repeat (first|(with_reducible first|exact HB.out|apply qa|apply ja|apply ta|refine ua ?_ Wa.out|refine ua ?_ Xb.out)|exact HB.out)⟩
            ·replace c93:=Bool.eq_false_iff.mpr c93;subst c93;have H1:(some false)=some r:=by rw [if_neg (show ¬ (false=true) by decide)] at H;exact H
             clear H;have H:=H1;clear H1;obtain rfl:=Option.some.inj H;have qas:=Eb.out;have Kar:=Fb.out;have Tai:wc.cell? ⟨Ga,0,none⟩=some (.int .i64 td):=(ga Ea.out 0).trans rfl;have Sai:wc.cell? ⟨Ga,1,none⟩=some (.int .i64 jc):=(ga Ea.out 1).trans rfl;have Rai:wc.cell? ⟨Ga,2,none⟩=some (.int .i64 Yb):=(ga Ea.out 2).trans rfl;have Qai:wc.cell? ⟨Ga,3,none⟩=some (.int .i64 Zb):=(ga Ea.out 3).trans rfl;have Pai:wc.cell? ⟨Ga,4,none⟩=some (.int .i64 Pc):=(ga Ea.out 4).trans rfl;have Oai:wc.cell? ⟨Ga,5,none⟩=some (.int .i64 Rd):=(ga Ea.out 5).trans rfl;have Nai:wc.cell? ⟨Ga,6,none⟩=some (.string Xd):=(ga Ea.out 6).trans rfl;have Haf:=aa Ea.out 0;have Gaf:=aa Ea.out 1;have Faf:=aa Ea.out 2;have Eaf:=aa Ea.out 3;have Daf:=aa Ea.out 4;have Caf:=aa Ea.out 5;have Baf:=aa Ea.out 6;go_wp2;go_ret;exact ⟨by first|rfl|(simp [Ka,Ja] <;> rfl)|(simp [*,Ka,Ja] <;> rfl),by repeat (first|(with_reducible first|exact HB.out|apply qa|apply ja|apply ta|refine ua ?_ Wa.out|refine ua ?_ Xb.out)|exact HB.out)⟩
           ·rw [if_neg n5] at H;have oac:(jc == 0)=false:=beq_eq_false_iff_ne.mpr n5;have nac:(jc != 0)=true:=bne_iff_ne.mpr n5;obtain rfl:=Option.some.inj H;have Zan:=Eb.out;have Nan:=Fb.out;have Nab:wc.cell? ⟨Ga,0,none⟩=some (.int .i64 td):=(ga Ea.out 0).trans rfl;have Mab:wc.cell? ⟨Ga,1,none⟩=some (.int .i64 jc):=(ga Ea.out 1).trans rfl;have Lab:wc.cell? ⟨Ga,2,none⟩=some (.int .i64 Yb):=(ga Ea.out 2).trans rfl;have Kab:wc.cell? ⟨Ga,3,none⟩=some (.int .i64 Zb):=(ga Ea.out 3).trans rfl;have Jab:wc.cell? ⟨Ga,4,none⟩=some (.int .i64 Pc):=(ga Ea.out 4).trans rfl;have Iab:wc.cell? ⟨Ga,5,none⟩=some (.int .i64 Rd):=(ga Ea.out 5).trans rfl;have Hab:wc.cell? ⟨Ga,6,none⟩=some (.string Xd):=(ga Ea.out 6).trans rfl;have paa:=aa Ea.out 0;have oaa:=aa Ea.out 1;have naa:=aa Ea.out 2;have maa:=aa Ea.out 3;have laa:=aa Ea.out 4;have kaa:=aa Ea.out 5;have jaa:=aa Ea.out 6;go_wp2;go_ret;exact ⟨by first|rfl|(simp [Ka,Ja] <;> rfl)|(simp [*,Ka,Ja] <;> rfl),by repeat (first|(with_reducible first|exact HB.out|apply qa|apply ja|apply ta|refine ua ?_ Wa.out|refine ua ?_ Xb.out)|exact HB.out)⟩
          ·rw [if_neg u5] at H;have qac:(td == 4)=false:=beq_eq_false_iff_ne.mpr u5;have pac:(td != 4)=true:=bne_iff_ne.mpr u5
           by_cases vJ:td=5
           ·rw [if_pos vJ] at H;have b6:(td == 5)=true:=beq_iff_eq.mpr vJ;have Y5:(td != 5)=false:=bne_eq_false_iff_eq.mpr vJ;clear vJ
            by_cases RX:t103=true
            ·subst RX;have H1:(if Yb=0 then (if Zb=0 then (some (Rd == 0)) else (some false)) else (some false))=some r:=by rw [if_pos rfl] at H;exact H
             clear H;have H:=H1;clear H1
             by_cases uJ:Yb=0
             ·rw [if_pos uJ] at H;have X5:(Yb == 0)=true:=beq_iff_eq.mpr uJ;have W5:(Yb != 0)=false:=bne_eq_false_iff_eq.mpr uJ;clear uJ
              by_cases tJ:Zb=0
              ·rw [if_pos tJ] at H;have V5:(Zb == 0)=true:=beq_iff_eq.mpr tJ;have U5:(Zb != 0)=false:=bne_eq_false_iff_eq.mpr tJ;clear tJ;obtain rfl:=Option.some.inj H;have Yan:=Eb.out;have Man:=Fb.out;have Gab:wc.cell? ⟨Ga,0,none⟩=some (.int .i64 td):=(ga Ea.out 0).trans rfl;have Fab:wc.cell? ⟨Ga,1,none⟩=some (.int .i64 jc):=(ga Ea.out 1).trans rfl;have Eab:wc.cell? ⟨Ga,2,none⟩=some (.int .i64 Yb):=(ga Ea.out 2).trans rfl;have Dab:wc.cell? ⟨Ga,3,none⟩=some (.int .i64 Zb):=(ga Ea.out 3).trans rfl;have Cab:wc.cell? ⟨Ga,4,none⟩=some (.int .i64 Pc):=(ga Ea.out 4).trans rfl;have Bab:wc.cell? ⟨Ga,5,none⟩=some (.int .i64 Rd):=(ga Ea.out 5).trans rfl;have Aab:wc.cell? ⟨Ga,6,none⟩=some (.string Xd):=(ga Ea.out 6).trans rfl;have iaa:=aa Ea.out 0;have haa:=aa Ea.out 1;have gaa:=aa Ea.out 2;have faa:=aa Ea.out 3;have eaa:=aa Ea.out 4;have daa:=aa Ea.out 5;have caa:=aa Ea.out 6;go_wp2;go_ret;exact ⟨by first|rfl|(simp [Ka,Ja] <;> rfl)|(simp [*,Ka,Ja] <;> rfl),by repeat (first|(with_reducible first|exact HB.out|apply qa|apply ja|apply ta|refine ua ?_ Wa.out|refine ua ?_ Xb.out)|exact HB.out)⟩
              ·rw [if_neg tJ] at H;have V5:(Zb == 0)=false:=beq_eq_false_iff_ne.mpr tJ;have U5:(Zb != 0)=true:=bne_iff_ne.mpr tJ;obtain rfl:=Option.some.inj H;have Xan:=Eb.out;have Lan:=Fb.out;have zab:wc.cell? ⟨Ga,0,none⟩=some (.int .i64 td):=(ga Ea.out 0).trans rfl;have yab:wc.cell? ⟨Ga,1,none⟩=some (.int .i64 jc):=(ga Ea.out 1).trans rfl;have xab:wc.cell? ⟨Ga,2,none⟩=some (.int .i64 Yb):=(ga Ea.out 2).trans rfl;have wab:wc.cell? ⟨Ga,3,none⟩=some (.int .i64 Zb):=(ga Ea.out 3).trans rfl;have vab:wc.cell? ⟨Ga,4,none⟩=some (.int .i64 Pc):=(ga Ea.out 4).trans rfl;have uab:wc.cell? ⟨Ga,5,none⟩=some (.int .i64 Rd):=(ga Ea.out 5).trans rfl;have sab:wc.cell? ⟨Ga,6,none⟩=some (.string Xd):=(ga Ea.out 6).trans rfl;have baa:=aa Ea.out 0;have aaa:=aa Ea.out 1;have Z_:=aa Ea.out 2;have Y_:=aa Ea.out 3;have X_:=aa Ea.out 4;have V_:=aa Ea.out 5;have U_:=aa Ea.out 6;go_wp2;go_ret;exact ⟨by first|rfl|(simp [Ka,Ja] <;> rfl)|(simp [*,Ka,Ja] <;> rfl),by repeat (first|(with_reducible first|exact HB.out|apply qa|apply ja|apply ta|refine ua ?_ Wa.out|refine ua ?_ Xb.out)|exact HB.out)⟩
             ·rw [if_neg uJ] at H;have X5:(Yb == 0)=false:=beq_eq_false_iff_ne.mpr uJ;have W5:(Yb != 0)=true:=bne_iff_ne.mpr uJ;obtain rfl:=Option.some.inj H;have Wan:=Eb.out;have Kan:=Fb.out;have rab:wc.cell? ⟨Ga,0,none⟩=some (.int .i64 td):=(ga Ea.out 0).trans rfl;have qab:wc.cell? ⟨Ga,1,none⟩=some (.int .i64 jc):=(ga Ea.out 1).trans rfl;have pab:wc.cell? ⟨Ga,2,none⟩=some (.int .i64 Yb):=(ga Ea.out 2).trans rfl;have oab:wc.cell? ⟨Ga,3,none⟩=some (.int .i64 Zb):=(ga Ea.out 3).trans rfl;have mab:wc.cell? ⟨Ga,4,none⟩=some (.int .i64 Pc):=(ga Ea.out 4).trans rfl;have lab:wc.cell? ⟨Ga,5,none⟩=some (.int .i64 Rd):=(ga Ea.out 5).trans rfl;have kab:wc.cell? ⟨Ga,6,none⟩=some (.string Xd):=(ga Ea.out 6).trans rfl;have T_:=aa Ea.out 0;have S_:=aa Ea.out 1;have R_:=aa Ea.out 2;have Q_:=aa Ea.out 3;have O_:=aa Ea.out 4;have N_:=aa Ea.out 5;have M_:=aa Ea.out 6;go_wp2;go_ret;exact ⟨by first|rfl|(simp [Ka,Ja] <;> rfl)|(simp [*,Ka,Ja] <;> rfl),by repeat (first|(with_reducible first|exact HB.out|apply qa|apply ja|apply ta|refine ua ?_ Wa.out|refine ua ?_ Xb.out)|exact HB.out)⟩
            ·replace RX:=Bool.eq_false_iff.mpr RX;subst RX;have H1:(some false)=some r:=by rw [if_neg (show ¬ (false=true) by decide)] at H;exact H
             clear H;have H:=H1;clear H1;obtain rfl:=Option.some.inj H;have Van:=Eb.out;have Jan:=Fb.out;have jab:wc.cell? ⟨Ga,0,none⟩=some (.int .i64 td):=(ga Ea.out 0).trans rfl;have iab:wc.cell? ⟨Ga,1,none⟩=some (.int .i64 jc):=(ga Ea.out 1).trans rfl;have gab:wc.cell? ⟨Ga,2,none⟩=some (.int .i64 Yb):=(ga Ea.out 2).trans rfl;have fab:wc.cell? ⟨Ga,3,none⟩=some (.int .i64 Zb):=(ga Ea.out 3).trans rfl;have eab:wc.cell? ⟨Ga,4,none⟩=some (.int .i64 Pc):=(ga Ea.out 4).trans rfl;have dab:wc.cell? ⟨Ga,5,none⟩=some (.int .i64 Rd):=(ga Ea.out 5).trans rfl;have cab:wc.cell? ⟨Ga,6,none⟩=some (.string Xd):=(ga Ea.out 6).trans rfl;have L_:=aa Ea.out 0;have K_:=aa Ea.out 1;have J_:=aa Ea.out 2;have I_:=aa Ea.out 3;have H_:=aa Ea.out 4;have G_:=aa Ea.out 5;have F_:=aa Ea.out 6;go_wp2;go_ret;exact ⟨by first|rfl|(simp [Ka,Ja] <;> rfl)|(simp [*,Ka,Ja] <;> rfl),by repeat (first|(with_reducible first|exact HB.out|apply qa|apply ja|apply ta|refine ua ?_ Wa.out|refine ua ?_ Xb.out)|exact HB.out)⟩
           ·rw [if_neg vJ] at H;have b6:(td == 5)=false:=beq_eq_false_iff_ne.mpr vJ;have Y5:(td != 5)=true:=bne_iff_ne.mpr vJ
            by_cases sJ:td=6
            ·rw [if_pos sJ] at H;have R5:(td == 6)=true:=beq_iff_eq.mpr sJ;have Q5:(td != 6)=false:=bne_eq_false_iff_eq.mpr sJ;clear sJ
             by_cases rJ:jc=0
             ·rw [if_pos rJ] at H;have P5:(jc == 0)=true:=beq_iff_eq.mpr rJ;have O5:(jc != 0)=false:=bne_eq_false_iff_eq.mpr rJ;clear rJ
              by_cases QX:t104=true
              ·subst QX;have H1:(if Zb=0 then (some (Rd == 0)) else (some false))=some r:=by rw [if_pos rfl] at H;exact H
               clear H;have H:=H1;clear H1
               by_cases qJ:Zb=0
               ·rw [if_pos qJ] at H;have N5:(Zb == 0)=true:=beq_iff_eq.mpr qJ;have M5:(Zb != 0)=false:=bne_eq_false_iff_eq.mpr qJ;clear qJ;obtain rfl:=Option.some.inj H;have Uan:=Eb.out;have Ian:=Fb.out;have bab:wc.cell? ⟨Ga,0,none⟩=some (.int .i64 td):=(ga Ea.out 0).trans rfl;have aab:wc.cell? ⟨Ga,1,none⟩=some (.int .i64 jc):=(ga Ea.out 1).trans rfl;have Zaa:wc.cell? ⟨Ga,2,none⟩=some (.int .i64 Yb):=(ga Ea.out 2).trans rfl;have Yaa:wc.cell? ⟨Ga,3,none⟩=some (.int .i64 Zb):=(ga Ea.out 3).trans rfl;have Xaa:wc.cell? ⟨Ga,4,none⟩=some (.int .i64 Pc):=(ga Ea.out 4).trans rfl;have Waa:wc.cell? ⟨Ga,5,none⟩=some (.int .i64 Rd):=(ga Ea.out 5).trans rfl;have Vaa:wc.cell? ⟨Ga,6,none⟩=some (.string Xd):=(ga Ea.out 6).trans rfl;have E_:=aa Ea.out 0;have D_:=aa Ea.out 1;have C_:=aa Ea.out 2;have B_:=aa Ea.out 3;have A_:=aa Ea.out 4;have z_:=aa Ea.out 5;have x_:=aa Ea.out 6;go_wp2;go_ret;exact ⟨by first|rfl|(simp [Ka,Ja] <;> rfl)|(simp [*,Ka,Ja] <;> rfl),by repeat (first|(with_reducible first|exact HB.out|apply qa|apply ja|apply ta|refine ua ?_ Wa.out|refine ua ?_ Xb.out)|exact HB.out)⟩
               ·rw [if_neg qJ] at H;have N5:(Zb == 0)=false:=beq_eq_false_iff_ne.mpr qJ;have M5:(Zb != 0)=true:=bne_iff_ne.mpr qJ;obtain rfl:=Option.some.inj H;have Tan:=Eb.out;have Han:=Fb.out;have Uaa:wc.cell? ⟨Ga,0,none⟩=some (.int .i64 td):=(ga Ea.out 0).trans rfl;have Taa:wc.cell? ⟨Ga,1,none⟩=some (.int .i64 jc):=(ga Ea.out 1).trans rfl;have Saa:wc.cell? ⟨Ga,2,none⟩=some (.int .i64 Yb):=(ga Ea.out 2).trans rfl;have Raa:wc.cell? ⟨Ga,3,none⟩=some (.int .i64 Zb):=(ga Ea.out 3).trans rfl;have Qaa:wc.cell? ⟨Ga,4,none⟩=some (.int .i64 Pc):=(ga Ea.out 4).trans rfl;have Paa:wc.cell? ⟨Ga,5,none⟩=some (.int .i64 Rd):=(ga Ea.out 5).trans rfl;have Oaa:wc.cell? ⟨Ga,6,none⟩=some (.string Xd):=(ga Ea.out 6).trans rfl;have w_:=aa Ea.out 0;have v_:=aa Ea.out 1;have u_:=aa Ea.out 2;have t_:=aa Ea.out 3;have r_:=aa Ea.out 4;have q_:=aa Ea.out 5;have p_:=aa Ea.out 6;go_wp2;go_ret;exact ⟨by first|rfl|(simp [Ka,Ja] <;> rfl)|(simp [*,Ka,Ja] <;> rfl),by repeat (first|(with_reducible first|exact HB.out|apply qa|apply ja|apply ta|refine ua ?_ Wa.out|refine ua ?_ Xb.out)|exact HB.out)⟩
              ·replace QX:=Bool.eq_false_iff.mpr QX;subst QX;have H1:(some false)=some r:=by rw [if_neg (show ¬ (false=true) by decide)] at H;exact H
               clear H;have H:=H1;clear H1;obtain rfl:=Option.some.inj H;have San:=Eb.out;have Gan:=Fb.out;have Naa:wc.cell? ⟨Ga,0,none⟩=some (.int .i64 td):=(ga Ea.out 0).trans rfl;have Maa:wc.cell? ⟨Ga,1,none⟩=some (.int .i64 jc):=(ga Ea.out 1).trans rfl;have Laa:wc.cell? ⟨Ga,2,none⟩=some (.int .i64 Yb):=(ga Ea.out 2).trans rfl;have Kaa:wc.cell? ⟨Ga,3,none⟩=some (.int .i64 Zb):=(ga Ea.out 3).trans rfl;have Jaa:wc.cell? ⟨Ga,4,none⟩=some (.int .i64 Pc):=(ga Ea.out 4).trans rfl;have Iaa:wc.cell? ⟨Ga,5,none⟩=some (.int .i64 Rd):=(ga Ea.out 5).trans rfl;have Haa:wc.cell? ⟨Ga,6,none⟩=some (.string Xd):=(ga Ea.out 6).trans rfl;have o_:=aa Ea.out 0;have l_:=aa Ea.out 1;have j_:=aa Ea.out 2;have i_:=aa Ea.out 3;have g_:=aa Ea.out 4;have f_:=aa Ea.out 5;have d_:=aa Ea.out 6;go_wp2;go_ret;exact ⟨by first|rfl|(simp [Ka,Ja] <;> rfl)|(simp [*,Ka,Ja] <;> rfl),by repeat (first|(with_reducible first|exact HB.out|apply qa|apply ja|apply ta|refine ua ?_ Wa.out|refine ua ?_ Xb.out)|exact HB.out)⟩
             ·rw [if_neg rJ] at H;have P5:(jc == 0)=false:=beq_eq_false_iff_ne.mpr rJ;have O5:(jc != 0)=true:=bne_iff_ne.mpr rJ;obtain rfl:=Option.some.inj H;have Ran:=Eb.out;have Fan:=Fb.out;have Gaa:wc.cell? ⟨Ga,0,none⟩=some (.int .i64 td):=(ga Ea.out 0).trans rfl;have Faa:wc.cell? ⟨Ga,1,none⟩=some (.int .i64 jc):=(ga Ea.out 1).trans rfl;have Eaa:wc.cell? ⟨Ga,2,none⟩=some (.int .i64 Yb):=(ga Ea.out 2).trans rfl;have Daa:wc.cell? ⟨Ga,3,none⟩=some (.int .i64 Zb):=(ga Ea.out 3).trans rfl;have Caa:wc.cell? ⟨Ga,4,none⟩=some (.int .i64 Pc):=(ga Ea.out 4).trans rfl;have Baa:wc.cell? ⟨Ga,5,none⟩=some (.int .i64 Rd):=(ga Ea.out 5).trans rfl;have Aaa:wc.cell? ⟨Ga,6,none⟩=some (.string Xd):=(ga Ea.out 6).trans rfl;have b_:=aa Ea.out 0;have Y9:=aa Ea.out 1;have X9:=aa Ea.out 2;have W9:=aa Ea.out 3;have V9:=aa Ea.out 4;have U9:=aa Ea.out 5;have T9:=aa Ea.out 6;go_wp2;go_ret;exact ⟨by first|rfl|(simp [Ka,Ja] <;> rfl)|(simp [*,Ka,Ja] <;> rfl),by repeat (first|(with_reducible first|exact HB.out|apply qa|apply ja|apply ta|refine ua ?_ Wa.out|refine ua ?_ Xb.out)|exact HB.out)⟩
            ·rw [if_neg sJ] at H;have R5:(td == 6)=false:=beq_eq_false_iff_ne.mpr sJ;have Q5:(td != 6)=true:=bne_iff_ne.mpr sJ;obtain rfl:=Option.some.inj H;have Qan:=Eb.out;have Ean:=Fb.out;have zaa:wc.cell? ⟨Ga,0,none⟩=some (.int .i64 td):=(ga Ea.out 0).trans rfl;have yaa:wc.cell? ⟨Ga,1,none⟩=some (.int .i64 jc):=(ga Ea.out 1).trans rfl;have xaa:wc.cell? ⟨Ga,2,none⟩=some (.int .i64 Yb):=(ga Ea.out 2).trans rfl;have waa:wc.cell? ⟨Ga,3,none⟩=some (.int .i64 Zb):=(ga Ea.out 3).trans rfl;have vaa:wc.cell? ⟨Ga,4,none⟩=some (.int .i64 Pc):=(ga Ea.out 4).trans rfl;have uaa:wc.cell? ⟨Ga,5,none⟩=some (.int .i64 Rd):=(ga Ea.out 5).trans rfl;have taa:wc.cell? ⟨Ga,6,none⟩=some (.string Xd):=(ga Ea.out 6).trans rfl;have S9:=aa Ea.out 0;have R9:=aa Ea.out 1;have Q9:=aa Ea.out 2;have P9:=aa Ea.out 3;have O9:=aa Ea.out 4;have N9:=aa Ea.out 5;have M9:=aa Ea.out 6;go_wp2;go_ret;exact ⟨by first|rfl|(simp [Ka,Ja] <;> rfl)|(simp [*,Ka,Ja] <;> rfl),by repeat (first|(with_reducible first|exact HB.out|apply qa|apply ja|apply ta|refine ua ?_ Wa.out|refine ua ?_ Xb.out)|exact HB.out)⟩
end Go.Proofs.Ytmifdccaajngcaa.P
