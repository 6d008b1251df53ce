import Derived.Test.YtmifdccaajngcaaQCopies1
import Derived.Test.YtmifdccaajngcaaQCopies5
set_option maxHeartbeats 8000000
set_option maxRecDepth 100000
namespace Go.Proofs.Ytmifdccaajngcaa.P
open Go.RowKit Go.Proofs.Oa.Rb Go.Proofs.Oa.Ee Go.Proofs.Oa.Wf
attribute [local go_sem] xj uj Zk Yk ai Zh wj tj
set_option linter.unusedVariables false
set_option linter.unusedSimpArgs false
mutual
def Ya.j0:Nat→Bool→Bool→Bool→Bool→List Int→Int→Int→Int→List (Te)→Int→Int→Int→Int→Int→Int→ByteArray→Option (Bool)
 | 0,_,_,_,_,_,_,_,_,_,_,_,_,_,_,_,_=>none
 | k + 1,x5,x6,x7,x8,Sd,ie,yd,Ld,Fc,ag,Gj,nk,Qi,Oi,Wl,tn=>if ag=2 then (if ag=4 then (Ya.j1 k x5 x6 x7 x8 false Sd ie yd Ld Fc ag Gj nk Qi Oi Wl tn) else (Ya.j1 k x5 x6 x7 x8 (Oi != 0) Sd ie yd Ld Fc ag Gj nk Qi Oi Wl tn)) else (if tn.toList=([]:List UInt8) then (if ag=4 then (Ya.j1 k x5 x6 x7 x8 false Sd ie yd Ld Fc ag Gj nk Qi Oi Wl tn) else (Ya.j1 k x5 x6 x7 x8 (Oi != 0) Sd ie yd Ld Fc ag Gj nk Qi Oi Wl tn)) else (Ya.j1 k x5 x6 x7 x8 true Sd ie yd Ld Fc ag Gj nk Qi Oi Wl tn))
def Ya.j1:Nat→Bool→Bool→Bool→Bool→Bool→List Int→Int→Int→Int→List (Te)→Int→Int→Int→Int→Int→Int→ByteArray→Option (Bool)
 | 0,_,_,_,_,_,_,_,_,_,_,_,_,_,_,_,_,_=>none
 | k + 1,x5,x6,x7,x8,x62,Sd,ie,yd,Ld,Fc,ag,Gj,nk,Qi,Oi,Wl,tn=>if x62=true then (some false) else (if ag=0 then (if x5=true then (if nk=0 then (some (Qi == 0)) else (some false)) else (some false)) else (if ag=1 then (if x5=true then (if x6=true then (if Qi=0 then (some (Wl == 0)) else (some false)) else (some false)) else (some false)) else (if ag=2 then (if x5=true then (if x6=true then (if x7=true then (if Wl=0 then ((Oe.f k (([(⟨#[61,61]⟩:ByteArray),(⟨#[60]⟩:ByteArray),(⟨#[38]⟩:ByteArray),(⟨#[43]⟩:ByteArray),(⟨#[45]⟩:ByteArray),(⟨#[42]⟩:ByteArray)]:List ByteArray)) tn).bind fun t111=>(some t111)) else (some false)) else (some false)) else (some false)) else (some false)) else (if ag=3 then (if x5=true then (some x8) else (some false)) else (if ag=4 then (if Gj=0 then (if x8=true then ((Wa.f Oi 0 (wrap64 (Ld - 1))).bind fun t112=>(some t112)) else (some false)) else (some false)) else (if ag=5 then (if x5=true then (if nk=0 then (if Qi=0 then (some (Wl == 0)) else (some false)) else (some false)) else (some false)) else (if ag=6 then (if Gj=0 then (if x6=true then (if Qi=0 then (some (Wl == 0)) else (some false)) else (some false)) else (some false)) else (some false))))))))
end
def Ya.f (k:Nat) (Sa:List Int) (Pa:Int) (Na:Int) (Ma:Int) (La:List (Te)) (Cc:Int) (Ob:Int) (Gb:Int) (Ib:Int) (fc:Int) (Vc:Int) (Jd:ByteArray):Option (Bool):=(Wa.f Ob 0 (wrap64 (Ma - 1))).bind fun t103=>((Wa.f Gb 0 (wrap64 (Ma - 1))).bind fun t104=>((Wa.f Ib 0 (wrap64 (Ma - 1))).bind fun t105=>(if t104=true then (if t105=true then ((Wa.f Vc 0 (wrap64 ((Sa.length:Int) - 1))).bind fun t106=>(Ya.j0 k t103 t104 t105 t106 Sa Pa Na Ma La Cc Ob Gb Ib fc Vc Jd)) else (Ya.j0 k t103 t104 t105 false Sa Pa Na Ma La Cc Ob Gb Ib fc Vc Jd)) else (if Gb=(-1) then (if t105=true then ((Wa.f Vc 0 (wrap64 ((Sa.length:Int) - 1))).bind fun t107=>(Ya.j0 k t103 t104 t105 t107 Sa Pa Na Ma La Cc Ob Gb Ib fc Vc Jd)) else (Ya.j0 k t103 t104 t105 false Sa Pa Na Ma La Cc Ob Gb Ib fc Vc Jd)) else (Ya.j0 k t103 t104 t105 false Sa Pa Na Ma La Cc Ob Gb Ib fc Vc Jd)))))
theorem Ya.calls (k:Nat) (xb:Option Addr) (qb:Nat) (Sa:List Int) (Pa:Int) (Na:Int) (Ma:Int) (Qb:Option Addr) (Fb:Nat) (La:List (Te)) (Cc:Int) (Ob:Int) (Gb:Int) (Ib:Int) (fc:Int) (Vc:Int) (Jd:ByteArray) (r:Bool) (w:World) (zf:Kd.C (Kd.int .i64) w xb Sa.length Sa) (uf:Sa.length ≤ qb) (Ig:Kd.C Tk w Qb La.length La) (Cg:La.length ≤ Fb) (h:Ya.f k Sa Pa Na Ma La Cc Ob Gb Ib fc Vc Jd=some r) :
  Calls Try.prog 111 #[.agg #[.slice xb Sa.length qb,.int .i64 Pa,.int .i64 Na,.int .i64 Ma,.slice Qb La.length Fb],.agg #[.int .i64 Cc,.int .i64 Ob,.int .i64 Gb,.int .i64 Ib,.int .i64 fc,.int .i64 Vc,.string Jd]] w fun e w'=>e = .returned (.bool r)∧Below w.heap.size w w':=by
 have ME:=Try.underlying30;have JE:=Try.underlying70;have Qf:=ia.mk zf;have sg:=ia.mk uf;clear zf uf;have Dh:=ia.mk Ig;have Xj:=ia.mk Cg;clear Ig Cg;have HB:=ia.mk (Below.refl w.heap.size w);have H:((Wa.f Ob 0 (wrap64 (Ma - 1))).bind fun t103=>((Wa.f Gb 0 (wrap64 (Ma - 1))).bind fun t104=>((Wa.f Ib 0 (wrap64 (Ma - 1))).bind fun t105=>(if t104=true then (if t105=true then ((Wa.f Vc 0 (wrap64 ((Sa.length:Int) - 1))).bind fun t106=>(Ya.j0 k t103 t104 t105 t106 Sa Pa Na Ma La Cc Ob Gb Ib fc Vc Jd)) else (Ya.j0 k t103 t104 t105 false Sa Pa Na Ma La Cc Ob Gb Ib fc Vc Jd)) else (if Gb=(-1) then (if t105=true then ((Wa.f Vc 0 (wrap64 ((Sa.length:Int) - 1))).bind fun t107=>(Ya.j0 k t103 t104 t105 t107 Sa Pa Na Ma La Cc Ob Gb Ib fc Vc Jd)) else (Ya.j0 k t103 t104 t105 false Sa Pa Na Ma La Cc Ob Gb Ib fc Vc Jd)) else (Ya.j0 k t103 t104 t105 false Sa Pa Na Ma La Cc Ob Gb Ib fc Vc Jd))))))=some r:=h;clear h;replace H:=Option.bind_eq_some_iff.mp H;obtain ⟨t103,Zz,H⟩:=H;replace H:((Wa.f Gb 0 (wrap64 (Ma - 1))).bind fun t104=>((Wa.f Ib 0 (wrap64 (Ma - 1))).bind fun t105=>(if t104=true then (if t105=true then ((Wa.f Vc 0 (wrap64 ((Sa.length:Int) - 1))).bind fun t106=>(Ya.j0 k t103 t104 t105 t106 Sa Pa Na Ma La Cc Ob Gb Ib fc Vc Jd)) else (Ya.j0 k t103 t104 t105 false Sa Pa Na Ma La Cc Ob Gb Ib fc Vc Jd)) else (if Gb=(-1) then (if t105=true then ((Wa.f Vc 0 (wrap64 ((Sa.length:Int) - 1))).bind fun t107=>(Ya.j0 k t103 t104 t105 t107 Sa Pa Na Ma La Cc Ob Gb Ib fc Vc Jd)) else (Ya.j0 k t103 t104 t105 false Sa Pa Na Ma La Cc Ob Gb Ib fc Vc Jd)) else (Ya.j0 k t103 t104 t105 false Sa Pa Na Ma La Cc Ob Gb Ib fc Vc Jd)))))=some r:=H;have A3:=ia.mk Zz;clear Zz;replace H:=Option.bind_eq_some_iff.mp H;obtain ⟨t104,T9,H⟩:=H;replace H:((Wa.f Ib 0 (wrap64 (Ma - 1))).bind fun t105=>(if t104=true then (if t105=true then ((Wa.f Vc 0 (wrap64 ((Sa.length:Int) - 1))).bind fun t106=>(Ya.j0 k t103 t104 t105 t106 Sa Pa Na Ma La Cc Ob Gb Ib fc Vc Jd)) else (Ya.j0 k t103 t104 t105 false Sa Pa Na Ma La Cc Ob Gb Ib fc Vc Jd)) else (if Gb=(-1) then (if t105=true then ((Wa.f Vc 0 (wrap64 ((Sa.length:Int) - 1))).bind fun t107=>(Ya.j0 k t103 t104 t105 t107 Sa Pa Na Ma La Cc Ob Gb Ib fc Vc Jd)) else (Ya.j0 k t103 t104 t105 false Sa Pa Na Ma La Cc Ob Gb Ib fc Vc Jd)) else (Ya.j0 k t103 t104 t105 false Sa Pa Na Ma La Cc Ob Gb Ib fc Vc Jd))))=some r:=H;have A4:=ia.mk T9;clear T9;replace H:=Option.bind_eq_some_iff.mp H;obtain ⟨t105,gW,H⟩:=H;replace H:(if t104=true then (if t105=true then ((Wa.f Vc 0 (wrap64 ((Sa.length:Int) - 1))).bind fun t106=>(Ya.j0 k t103 t104 t105 t106 Sa Pa Na Ma La Cc Ob Gb Ib fc Vc Jd)) else (Ya.j0 k t103 t104 t105 false Sa Pa Na Ma La Cc Ob Gb Ib fc Vc Jd)) else (if Gb=(-1) then (if t105=true then ((Wa.f Vc 0 (wrap64 ((Sa.length:Int) - 1))).bind fun t107=>(Ya.j0 k t103 t104 t105 t107 Sa Pa Na Ma La Cc Ob Gb Ib fc Vc Jd)) else (Ya.j0 k t103 t104 t105 false Sa Pa Na Ma La Cc Ob Gb Ib fc Vc Jd)) else (Ya.j0 k t103 t104 t105 false Sa Pa Na Ma La Cc Ob Gb Ib fc Vc Jd)))=some r:=H;have A5:=ia.mk gW;clear gW;have HC6:=ia.mk H;clear H;go_enter Try.func111,Try.ntmps111
 go_upto_region 4 with (first|((with_reducible refine Bb (N:=2) rfl ?_);(try (refine Fi (by rfl) ?_;dsimp only));refine Ab ?hg (N:=2) ?hd (cs:=#[.slice xb Sa.length qb,.int .i64 Pa,.int .i64 Na,.int .i64 Ma,.slice Qb La.length Fb]) (t:=30) ?hr ?_;(case hd=>rfl);(case hg=>rfl);(case hr=>first|(go_simp;done)|(go_simp;rfl));intro Da hg w7 Nb hb;have Kb:=ia.mk (Ra (by repeat (first|(with_reducible first|exact HB.out|apply oa|apply ja|apply qa)|exact HB.out)) hb);have Ub:=ia.mk (Nb);have yc:=ia.mk ((by rw [hg];exact (Qa (by repeat (first|(with_reducible first|exact HB.out|apply oa|apply ja|apply qa)|exact HB.out))):w.heap.size ≤ Da));have Tc:=ia.mk ((by rw [hg];exact (Qa (by repeat (first|(with_reducible first|exact HB.out|apply oa|apply ja|apply qa)|exact HB.out))):w.heap.size ≤ Da));clear HB;have HB:=Kb;have ta:=Ub;have Df:=yc;have Ua:=Tc;clear Kb Ub yc Tc hb Nb hg)|((with_reducible refine Bb (N:=3) rfl ?_);(try (refine Fi (by rfl) ?_;dsimp only));refine Ab ?hg (N:=3) ?hd (cs:=#[.int .i64 Cc,.int .i64 Ob,.int .i64 Gb,.int .i64 Ib,.int .i64 fc,.int .i64 Vc,.string Jd]) (t:=70) ?hr ?_;(case hd=>rfl);(case hg=>rfl);(case hr=>first|(go_simp;done)|(go_simp;rfl));intro Ga hg w8 Nb hb;have Kb:=ia.mk (Ta (g:=Da) (o:=.cells #[.slice xb Sa.length qb,.int .i64 Pa,.int .i64 Na,.int .i64 Ma,.slice Qb La.length Fb] 30 (0,0)) (by (with_reducible repeat (first|refine Aa ?_ _|refine Ca ?_|refine za ?_ _));exact ta.out) hb);have Ub:=ia.mk (Ra (by repeat (first|(with_reducible first|exact HB.out|apply oa|apply ja|apply qa|refine ua ?_ Ua.out)|exact HB.out)) hb);have yc:=ia.mk (Nb);have Tc:=ia.mk ((by rw [hg];exact (Qa (by repeat (first|(with_reducible first|exact HB.out|apply oa|apply ja|apply qa|refine ua ?_ Ua.out)|exact HB.out))):w.heap.size ≤ Ga));have tf:=ia.mk ((by rw [hg];exact (Qa (by repeat (first|(with_reducible first|exact HB.out|apply oa|apply ja|apply qa|refine ua ?_ Ua.out)|exact HB.out))):w.heap.size ≤ Ga));have Tf:=ia.mk ((by rw [hg];exact Nat.ne_of_lt (Wb (g:=Da) (o:=.cells #[.slice xb Sa.length qb,.int .i64 Pa,.int .i64 Na,.int .i64 Ma,.slice Qb La.length Fb] 30 (0,0)) (by (with_reducible repeat (first|refine Aa ?_ _|refine Ca ?_|refine za ?_ _));exact ta.out)):Da ≠ Ga));have cg:=ia.mk ((by rw [hg];exact Nat.ne_of_gt (Wb (g:=Da) (o:=.cells #[.slice xb Sa.length qb,.int .i64 Pa,.int .i64 Na,.int .i64 Ma,.slice Qb La.length Fb] 30 (0,0)) (by (with_reducible repeat (first|refine Aa ?_ _|refine Ca ?_|refine za ?_ _));exact ta.out)):Ga ≠ Da));clear ta HB;have ta:=Kb;have HB:=Ub;have ya:=yc;have ni:=Tc;have Cb:=tf;have Za:=Tf;have Xa:=cg;clear Kb Ub yc Tc tf Tf cg hb Nb hg;have YW:=Xa.out;have WW:=Za.out;have Tj:w8.cell? ⟨Ga,0,none⟩=some (.int .i64 Cc):=(ga ya.out 0).trans rfl;have Sj:w8.cell? ⟨Ga,1,none⟩=some (.int .i64 Ob):=(ga ya.out 1).trans rfl;have Rj:w8.cell? ⟨Ga,2,none⟩=some (.int .i64 Gb):=(ga ya.out 2).trans rfl;have Qj:w8.cell? ⟨Ga,3,none⟩=some (.int .i64 Ib):=(ga ya.out 3).trans rfl;have Pj:w8.cell? ⟨Ga,4,none⟩=some (.int .i64 fc):=(ga ya.out 4).trans rfl;have wD:w8.cell? ⟨Ga,5,none⟩=some (.int .i64 Vc):=(ga ya.out 5).trans rfl;have vD:w8.cell? ⟨Ga,6,none⟩=some (.string Jd):=(ga ya.out 6).trans rfl;have Oj:=aa ya.out 0;have Nj:=aa ya.out 1;have Mj:=aa ya.out 2;have Lj:=aa ya.out 3;have Kj:=aa ya.out 4;have rC:=aa ya.out 5;have qC:=aa ya.out 6;have Yv:w8.cell? ⟨Da,0,none⟩=some (.slice xb Sa.length qb):=(ga ta.out 0).trans rfl;have Xv:w8.cell? ⟨Da,1,none⟩=some (.int .i64 Pa):=(ga ta.out 1).trans rfl;have Wv:w8.cell? ⟨Da,2,none⟩=some (.int .i64 Na):=(ga ta.out 2).trans rfl;have Vv:w8.cell? ⟨Da,3,none⟩=some (.int .i64 Ma):=(ga ta.out 3).trans rfl;have Uv:w8.cell? ⟨Da,4,none⟩=some (.slice Qb La.length Fb):=(ga ta.out 4).trans rfl;have wv:=aa ta.out 0;have vv:=aa ta.out 1;have uv:=aa ta.out 2;have tv:=aa ta.out 3;have qv:=aa ta.out 4)|((with_reducible refine jb (f:=54) rfl ?_);refine Lc (some 14) rfl rfl Try.func54 (by kernel_rfl) rfl #[.int .i64 Ob,.int .i64 0,.int .i64 (wrap64 (Ma - 1))] rfl (by (try simp only [List.map_toArray,List.map_cons,List.map_nil]);first|done|rfl|(simp only [List.length_drop,List.length_take];rfl)) ?_;(with_reducible refine (Wa.calls Ob 0 (wrap64 (Ma - 1)) t103 _ A3.out).mono ?_);rintro e w' ⟨rfl,⟨nd,rfl⟩⟩;refine ⟨_,rfl,?_⟩)|((with_reducible refine jb (f:=54) rfl ?_);refine Lc (some 20) rfl rfl Try.func54 (by kernel_rfl) rfl #[.int .i64 Gb,.int .i64 0,.int .i64 (wrap64 (Ma - 1))] rfl (by (try simp only [List.map_toArray,List.map_cons,List.map_nil]);first|done|rfl|(simp only [List.length_drop,List.length_take];rfl)) ?_;(with_reducible refine (Wa.calls Gb 0 (wrap64 (Ma - 1)) t104 _ A4.out).mono ?_);rintro e w' ⟨rfl,⟨nd,rfl⟩⟩;refine ⟨_,rfl,?_⟩)|((with_reducible refine jb (f:=54) rfl ?_);refine Lc (some 26) rfl rfl Try.func54 (by kernel_rfl) rfl #[.int .i64 Ib,.int .i64 0,.int .i64 (wrap64 (Ma - 1))] rfl (by (try simp only [List.map_toArray,List.map_cons,List.map_nil]);first|done|rfl|(simp only [List.length_drop,List.length_take];rfl)) ?_;(with_reducible refine (Wa.calls Ib 0 (wrap64 (Ma - 1)) t105 _ A5.out).mono ?_);rintro e w' ⟨rfl,⟨nd,rfl⟩⟩;refine ⟨_,rfl,?_⟩))
 (try simp only [Act.put,List.setIfInBounds_toArray,List.set_cons_zero,List.set_cons_succ])
 go_cut [8] (fun v8 wc=>∃ (kq:Nat) (lE:Bool),v8 = .bool lE∧ia (Ya.j0 kq t103 t104 t105 lE Sa Pa Na Ma La Cc Ob Gb Ib fc Vc Jd=some r)∧ia (kq ≤ k)∧ia (wc.heap[Da]? = some (.cells #[(.slice xb Sa.length qb),.int .i64 Pa,.int .i64 Na,.int .i64 Ma,(.slice Qb La.length Fb)] 30 (0,0)))∧ia (wc.heap[Ga]? = some (.cells #[.int .i64 Cc,.int .i64 Ob,.int .i64 Gb,.int .i64 Ib,.int .i64 fc,.int .i64 Vc,.string Jd] 70 (0,0)))∧ia (Below w.heap.size w wc))
 case first =>
  have H:=HC6.out;clear HC6
  by_cases iA:t104=true
  ·subst iA;have H1:(if t105=true then ((Wa.f Vc 0 (wrap64 ((Sa.length:Int) - 1))).bind fun t106=>(Ya.j0 k t103 true t105 t106 Sa Pa Na Ma La Cc Ob Gb Ib fc Vc Jd)) else (Ya.j0 k t103 true t105 false Sa Pa Na Ma La Cc Ob Gb Ib fc Vc Jd))=some r:=by rw [if_pos rfl] at H;exact H
   clear H;have H:=H1;clear H1
   by_cases lZ:t105=true
   ·subst lZ;have H1:((Wa.f Vc 0 (wrap64 ((Sa.length:Int) - 1))).bind fun t106=>(Ya.j0 k t103 true true t106 Sa Pa Na Ma La Cc Ob Gb Ib fc Vc Jd))=some r:=by rw [if_pos rfl] at H;exact H
    clear H;have H:=H1;clear H1;replace H:=Option.bind_eq_some_iff.mp H;obtain ⟨t106,j_,H⟩:=H;replace H:(Ya.j0 k t103 true true t106 Sa Pa Na Ma La Cc Ob Gb Ib fc Vc Jd)=some r:=H;have A14:=ia.mk j_;clear j_;have H':=ia.mk H;clear H;have eal:=Xa.out;have Aak:=Za.out;have Gp:w8.cell? ⟨Ga,0,none⟩=some (.int .i64 Cc):=(ga ya.out 0).trans rfl;have Fp:w8.cell? ⟨Ga,1,none⟩=some (.int .i64 Ob):=(ga ya.out 1).trans rfl;have Ep:w8.cell? ⟨Ga,2,none⟩=some (.int .i64 Gb):=(ga ya.out 2).trans rfl;have Dp:w8.cell? ⟨Ga,3,none⟩=some (.int .i64 Ib):=(ga ya.out 3).trans rfl;have Cp:w8.cell? ⟨Ga,4,none⟩=some (.int .i64 fc):=(ga ya.out 4).trans rfl;have nK:w8.cell? ⟨Ga,5,none⟩=some (.int .i64 Vc):=(ga ya.out 5).trans rfl;have mK:w8.cell? ⟨Ga,6,none⟩=some (.string Jd):=(ga ya.out 6).trans rfl;have vp:=aa ya.out 0;have qp:=aa ya.out 1;have lp:=aa ya.out 2;have ep:=aa ya.out 3;have bp:=aa ya.out 4;have fJ:=aa ya.out 5;have eJ:=aa ya.out 6;have Tv:w8.cell? ⟨Da,0,none⟩=some (.slice xb Sa.length qb):=(ga ta.out 0).trans rfl;have Sv:w8.cell? ⟨Da,1,none⟩=some (.int .i64 Pa):=(ga ta.out 1).trans rfl;have Rv:w8.cell? ⟨Da,2,none⟩=some (.int .i64 Na):=(ga ta.out 2).trans rfl;have Qv:w8.cell? ⟨Da,3,none⟩=some (.int .i64 Ma):=(ga ta.out 3).trans rfl;have Pv:w8.cell? ⟨Da,4,none⟩=some (.slice Qb La.length Fb):=(ga ta.out 4).trans rfl;have ov:=aa ta.out 0;have nv:=aa ta.out 1;have jv:=aa ta.out 2;have gv:=aa ta.out 3;have cv:=aa ta.out 4;go_wp2_with (first|(go_at_call 54;(with_reducible refine (Wa.calls Vc 0 (wrap64 ((Sa.length:Int) - 1)) t106 _ A14.out).mono ?_);rintro e w' ⟨rfl,⟨nd,rfl⟩⟩))
    go_meet
    case rel=>exact ⟨_,(t106),(by first|rfl|(simp;done)|(simp [*];done)),H',⟨by first|omega|exact Nat.le_refl _⟩,⟨by (with_reducible repeat (first|refine Aa ?_ _|refine Ca ?_|refine za ?_ _));exact ta.out⟩,⟨by (with_reducible repeat (first|refine Aa ?_ _|refine Ca ?_|refine za ?_ _));exact ya.out⟩,⟨by repeat (first|(with_reducible first|exact HB.out|apply oa|apply ja|apply qa|refine ua ?_ Ua.out|refine ua ?_ Cb.out)|exact HB.out)⟩⟩
   ·replace lZ:=Bool.eq_false_iff.mpr lZ;subst lZ;have H1:(Ya.j0 k t103 true false false Sa Pa Na Ma La Cc Ob Gb Ib fc Vc Jd)=some r:=by rw [if_neg (show ¬ (false=true) by decide)] at H;exact H
    clear H;have H:=H1;clear H1;have H':=ia.mk H;clear H;go_wp2
    go_meet
    case rel=>exact ⟨_,(false),(by first|rfl|(simp;done)|(simp [*];done)),H',⟨by first|omega|exact Nat.le_refl _⟩,⟨by (with_reducible repeat (first|refine Aa ?_ _|refine Ca ?_|refine za ?_ _));exact ta.out⟩,⟨by (with_reducible repeat (first|refine Aa ?_ _|refine Ca ?_|refine za ?_ _));exact ya.out⟩,⟨by repeat (first|(with_reducible first|exact HB.out|apply oa|apply ja|apply qa|refine ua ?_ Ua.out|refine ua ?_ Cb.out)|exact HB.out)⟩⟩
  ·replace iA:=Bool.eq_false_iff.mpr iA;subst iA;have H1:(if Gb=(-1) then (if t105=true then ((Wa.f Vc 0 (wrap64 ((Sa.length:Int) - 1))).bind fun t107=>(Ya.j0 k t103 false t105 t107 Sa Pa Na Ma La Cc Ob Gb Ib fc Vc Jd)) else (Ya.j0 k t103 false t105 false Sa Pa Na Ma La Cc Ob Gb Ib fc Vc Jd)) else (Ya.j0 k t103 false t105 false Sa Pa Na Ma La Cc Ob Gb Ib fc Vc Jd))=some r:=by rw [if_neg (show ¬ (false=true) by decide)] at H;exact H
   clear H;have H:=H1;clear H1
   by_cases gA:Gb=(-1)
   ·rw [if_pos gA] at H;have zq:(Gb == (-1))=true:=beq_iff_eq.mpr gA;have nO:(Gb != (-1))=false:=bne_eq_false_iff_eq.mpr gA;clear gA;(first|rw [zq]|(simp only [dc,ec];rw [zq])|skip)
    by_cases Rs:t105=true
    ·subst Rs;have H1:((Wa.f Vc 0 (wrap64 ((Sa.length:Int) - 1))).bind fun t107=>(Ya.j0 k t103 false true t107 Sa Pa Na Ma La Cc Ob Gb Ib fc Vc Jd))=some r:=by rw [if_pos rfl] at H;exact H
     clear H;have H:=H1;clear H1;replace H:=Option.bind_eq_some_iff.mp H;obtain ⟨t107,b_,H⟩:=H;replace H:(Ya.j0 k t103 false true t107 Sa Pa Na Ma La Cc Ob Gb Ib fc Vc Jd)=some r:=H;have BQ:=ia.mk b_;clear b_;have H':=ia.mk H;clear H;have Zak:=Xa.out;have vak:=Za.out;have Bp:w8.cell? ⟨Ga,0,none⟩=some (.int .i64 Cc):=(ga ya.out 0).trans rfl;have Ap:w8.cell? ⟨Ga,1,none⟩=some (.int .i64 Ob):=(ga ya.out 1).trans rfl;have zp:w8.cell? ⟨Ga,2,none⟩=some (.int .i64 Gb):=(ga ya.out 2).trans rfl;have yp:w8.cell? ⟨Ga,3,none⟩=some (.int .i64 Ib):=(ga ya.out 3).trans rfl;have xp:w8.cell? ⟨Ga,4,none⟩=some (.int .i64 fc):=(ga ya.out 4).trans rfl;have Ay:w8.cell? ⟨Ga,5,none⟩=some (.int .i64 Vc):=(ga ya.out 5).trans rfl;have zy:w8.cell? ⟨Ga,6,none⟩=some (.string Jd):=(ga ya.out 6).trans rfl;have Zo:=aa ya.out 0;have Yo:=aa ya.out 1;have Xo:=aa ya.out 2;have Wo:=aa ya.out 3;have Vo:=aa ya.out 4;have ay:=aa ya.out 5;have Zx:=aa ya.out 6;have eo:w8.cell? ⟨Da,0,none⟩=some (.slice xb Sa.length qb):=(ga ta.out 0).trans rfl;have Zn:w8.cell? ⟨Da,1,none⟩=some (.int .i64 Pa):=(ga ta.out 1).trans rfl;have Yn:w8.cell? ⟨Da,2,none⟩=some (.int .i64 Na):=(ga ta.out 2).trans rfl;have Xn:w8.cell? ⟨Da,3,none⟩=some (.int .i64 Ma):=(ga ta.out 3).trans rfl;have Wn:w8.cell? ⟨Da,4,none⟩=some (.slice Qb La.length Fb):=(ga ta.out 4).trans rfl;have Vn:=aa ta.out 0;have Un:=aa ta.out 1;have Tn:=aa ta.out 2;have Sn:=aa ta.out 3;have Rn:=aa ta.out 4;go_wp2_with (first|(go_at_call 54;(with_reducible refine (Wa.calls Vc 0 (wrap64 ((Sa.length:Int) - 1)) t107 _ BQ.out).mono ?_);rintro e w' ⟨rfl,⟨nd,rfl⟩⟩))
     go_meet
     case rel=>exact ⟨_,(t107),(by first|rfl|(simp;done)|(simp [*];done)),H',⟨by first|omega|exact Nat.le_refl _⟩,⟨by (with_reducible repeat (first|refine Aa ?_ _|refine Ca ?_|refine za ?_ _));exact ta.out⟩,⟨by (with_reducible repeat (first|refine Aa ?_ _|refine Ca ?_|refine za ?_ _));exact ya.out⟩,⟨by repeat (first|(with_reducible first|exact HB.out|apply oa|apply ja|apply qa|refine ua ?_ Ua.out|refine ua ?_ Cb.out)|exact HB.out)⟩⟩
    ·replace Rs:=Bool.eq_false_iff.mpr Rs;subst Rs;have H1:(Ya.j0 k t103 false false false Sa Pa Na Ma La Cc Ob Gb Ib fc Vc Jd)=some r:=by rw [if_neg (show ¬ (false=true) by decide)] at H;exact H
     clear H;have H:=H1;clear H1;have H':=ia.mk H;clear H;have EU:=Xa.out;have yU:=Za.out;have Ir:w8.cell? ⟨Ga,0,none⟩=some (.int .i64 Cc):=(ga ya.out 0).trans rfl;have Hr:w8.cell? ⟨Ga,1,none⟩=some (.int .i64 Ob):=(ga ya.out 1).trans rfl;have Gr:w8.cell? ⟨Ga,2,none⟩=some (.int .i64 Gb):=(ga ya.out 2).trans rfl;have Er:w8.cell? ⟨Ga,3,none⟩=some (.int .i64 Ib):=(ga ya.out 3).trans rfl;have Dr:w8.cell? ⟨Ga,4,none⟩=some (.int .i64 fc):=(ga ya.out 4).trans rfl;have fK:w8.cell? ⟨Ga,5,none⟩=some (.int .i64 Vc):=(ga ya.out 5).trans rfl;have eK:w8.cell? ⟨Ga,6,none⟩=some (.string Jd):=(ga ya.out 6).trans rfl;have br:=aa ya.out 0;have Zq:=aa ya.out 1;have Yq:=aa ya.out 2;have Xq:=aa ya.out 3;have Wq:=aa ya.out 4;have YI:=aa ya.out 5;have XI:=aa ya.out 6;go_wp2
     go_meet
     case rel=>exact ⟨_,(false),(by first|rfl|(simp;done)|(simp [*];done)),H',⟨by first|omega|exact Nat.le_refl _⟩,⟨by (with_reducible repeat (first|refine Aa ?_ _|refine Ca ?_|refine za ?_ _));exact ta.out⟩,⟨by (with_reducible repeat (first|refine Aa ?_ _|refine Ca ?_|refine za ?_ _));exact ya.out⟩,⟨by repeat (first|(with_reducible first|exact HB.out|apply oa|apply ja|apply qa|refine ua ?_ Ua.out|refine ua ?_ Cb.out)|exact HB.out)⟩⟩
   ·rw [if_neg gA] at H;have zq:(Gb == (-1))=false:=beq_eq_false_iff_ne.mpr gA;have nO:(Gb != (-1))=true:=bne_iff_ne.mpr gA;(first|rw [zq]|(simp only [dc,ec];rw [zq])|skip);have H':=ia.mk H;clear H;have DU:=Xa.out;have xU:=Za.out;have Cr:w8.cell? ⟨Ga,0,none⟩=some (.int .i64 Cc):=(ga ya.out 0).trans rfl;have Br:w8.cell? ⟨Ga,1,none⟩=some (.int .i64 Ob):=(ga ya.out 1).trans rfl;have Ar:w8.cell? ⟨Ga,2,none⟩=some (.int .i64 Gb):=(ga ya.out 2).trans rfl;have vr:w8.cell? ⟨Ga,3,none⟩=some (.int .i64 Ib):=(ga ya.out 3).trans rfl;have ur:w8.cell? ⟨Ga,4,none⟩=some (.int .i64 fc):=(ga ya.out 4).trans rfl;have dK:w8.cell? ⟨Ga,5,none⟩=some (.int .i64 Vc):=(ga ya.out 5).trans rfl;have cK:w8.cell? ⟨Ga,6,none⟩=some (.string Jd):=(ga ya.out 6).trans rfl;have Vq:=aa ya.out 0;have Uq:=aa ya.out 1;have Sq:=aa ya.out 2;have Rq:=aa ya.out 3;have Qq:=aa ya.out 4;have WI:=aa ya.out 5;have VI:=aa ya.out 6;go_wp2
    go_meet
    case rel=>exact ⟨_,(false),(by first|rfl|(simp;done)|(simp [*];done)),H',⟨by first|omega|exact Nat.le_refl _⟩,⟨by (with_reducible repeat (first|refine Aa ?_ _|refine Ca ?_|refine za ?_ _));exact ta.out⟩,⟨by (with_reducible repeat (first|refine Aa ?_ _|refine Ca ?_|refine za ?_ _));exact ya.out⟩,⟨by repeat (first|(with_reducible first|exact HB.out|apply oa|apply ja|apply qa|refine ua ?_ Ua.out|refine ua ?_ Cb.out)|exact HB.out)⟩⟩
 case rest =>
  clear HC6
  try clear c1
  try clear c2
  try clear p2
  try clear c5
  try clear p6
  try clear c9
  try clear fH
  try clear iA
  try clear lZ
  try clear xQ
  try clear gA
  try clear zq
  try clear nO
  try clear Rs
  try clear sx
  try clear bH
  try clear jZ
  try clear Tj
  try clear Sj
  try clear Rj
  try clear Qj
  try clear Pj
  try clear wD
  try clear vD
  try clear Yv
  try clear Xv
  try clear Wv
  try clear Vv
  try clear Uv
  try clear Gp
  try clear Fp
  try clear Ep
  try clear Dp
  try clear Cp
  try clear nK
  try clear mK
  try clear Tv
  try clear Sv
  try clear Rv
  try clear Qv
  try clear Pv
  try clear Bp
  try clear Ap
  try clear zp
  try clear yp
  try clear xp
  try clear Ay
  try clear zy
  try clear eo
  try clear Zn
  try clear Yn
  try clear Xn
  try clear Wn
  try clear Ir
  try clear Hr
  try clear Gr
  try clear Er
  try clear Dr
  try clear fK
  try clear eK
  try clear Cr
  try clear Br
  try clear Ar
  try clear vr
  try clear ur
  try clear dK
  try clear cK
  try clear Oj
  try clear Nj
  try clear Mj
  try clear Lj
  try clear Kj
  try clear rC
  try clear qC
  try clear wv
  try clear vv
  try clear uv
  try clear tv
  try clear qv
  try clear vp
  try clear qp
  try clear lp
  try clear ep
  try clear bp
  try clear fJ
  try clear eJ
  try clear ov
  try clear nv
  try clear jv
  try clear gv
  try clear cv
  try clear Zo
  try clear Yo
  try clear Xo
  try clear Wo
  try clear Vo
  try clear ay
  try clear Zx
  try clear Vn
  try clear Un
  try clear Tn
  try clear Sn
  try clear Rn
  try clear br
  try clear Zq
  try clear Yq
  try clear Xq
  try clear Wq
  try clear YI
  try clear XI
  try clear Vq
  try clear Uq
  try clear Sq
  try clear Rq
  try clear Qq
  try clear WI
  try clear VI
  obtain ⟨kq,lE,rfl,HA,y9,ta,ya,HB⟩:=hcut;cases kq with
  | zero=>exact absurd HA.out (by simp [Ya.j0])
  | succ kj5 =>
   have H:=HA.out;clear HA;simp only [Ya.j0] at H;have VY:=ia.mk H;clear H
   go_upto_region 5 with (fail)
   go_cut [62] (fun v62 wc=>∃ (kq:Nat) (YA:Bool),v62 = .bool YA∧ia (Ya.j1 kq t103 t104 t105 lE YA Sa Pa Na Ma La Cc Ob Gb Ib fc Vc Jd=some r)∧ia (kq ≤ kj5)∧ia (wc.heap[Da]? = some (.cells #[(.slice xb Sa.length qb),.int .i64 Pa,.int .i64 Na,.int .i64 Ma,(.slice Qb La.length Fb)] 30 (0,0)))∧ia (wc.heap[Ga]? = some (.cells #[.int .i64 Cc,.int .i64 Ob,.int .i64 Gb,.int .i64 Ib,.int .i64 fc,.int .i64 Vc,.string Jd] 70 (0,0)))∧ia (Below w.heap.size w wc))
   case first =>
    have H:=VY.out;clear VY
    by_cases jE:Cc=2
    ·rw [if_pos jE] at H;have qx:(Cc == 2)=true:=beq_iff_eq.mpr jE;have gV:(Cc != 2)=false:=bne_eq_false_iff_eq.mpr jE;clear jE;(first|rw [qx]|(simp only [dc,ec];rw [qx])|skip)
     by_cases RA:Cc=4
     ·rw [if_pos RA] at H;have rF:(Cc == 4)=true:=beq_iff_eq.mpr RA;have fV:(Cc != 4)=false:=bne_eq_false_iff_eq.mpr RA;clear RA;have H':=ia.mk H;clear H;have Z0:=Xa.out;have I0:=Za.out;have yy:wc.cell? ⟨Ga,0,none⟩=some (.int .i64 Cc):=(ga ya.out 0).trans rfl;have xy:wc.cell? ⟨Ga,1,none⟩=some (.int .i64 Ob):=(ga ya.out 1).trans rfl;have uy:wc.cell? ⟨Ga,2,none⟩=some (.int .i64 Gb):=(ga ya.out 2).trans rfl;have sy:wc.cell? ⟨Ga,3,none⟩=some (.int .i64 Ib):=(ga ya.out 3).trans rfl;have ry:wc.cell? ⟨Ga,4,none⟩=some (.int .i64 fc):=(ga ya.out 4).trans rfl;have eT:wc.cell? ⟨Ga,5,none⟩=some (.int .i64 Vc):=(ga ya.out 5).trans rfl;have cT:wc.cell? ⟨Ga,6,none⟩=some (.string Jd):=(ga ya.out 6).trans rfl;have Yx:=aa ya.out 0;have Xx:=aa ya.out 1;have Wx:=aa ya.out 2;have Vx:=aa ya.out 3;have Ux:=aa ya.out 4;have WR:=aa ya.out 5;have VR:=aa ya.out 6;go_wp2
      go_meet
      case rel=>exact ⟨_,(false),(by first|rfl|(simp;done)|(simp [*];done)),H',⟨by have:=y9.out;first|omega|exact Nat.le_refl _⟩,⟨by (with_reducible repeat (first|refine Aa ?_ _|refine Ca ?_|refine za ?_ _));exact ta.out⟩,⟨by (with_reducible repeat (first|refine Aa ?_ _|refine Ca ?_|refine za ?_ _));exact ya.out⟩,⟨by repeat (first|(with_reducible first|exact HB.out|apply oa|apply ja|apply qa|refine ua ?_ Ua.out|refine ua ?_ Cb.out)|exact HB.out)⟩⟩
     ·rw [if_neg RA] at H;have rF:(Cc == 4)=false:=beq_eq_false_iff_ne.mpr RA;have fV:(Cc != 4)=true:=bne_iff_ne.mpr RA;have H':=ia.mk H;clear H;have Wak:=Xa.out;have sak:=Za.out;have RJ:wc.cell? ⟨Ga,0,none⟩=some (.int .i64 Cc):=(ga ya.out 0).trans rfl;have QJ:wc.cell? ⟨Ga,1,none⟩=some (.int .i64 Ob):=(ga ya.out 1).trans rfl;have PJ:wc.cell? ⟨Ga,2,none⟩=some (.int .i64 Gb):=(ga ya.out 2).trans rfl;have OJ:wc.cell? ⟨Ga,3,none⟩=some (.int .i64 Ib):=(ga ya.out 3).trans rfl;have NJ:wc.cell? ⟨Ga,4,none⟩=some (.int .i64 fc):=(ga ya.out 4).trans rfl;have MJ:wc.cell? ⟨Ga,5,none⟩=some (.int .i64 Vc):=(ga ya.out 5).trans rfl;have LJ:wc.cell? ⟨Ga,6,none⟩=some (.string Jd):=(ga ya.out 6).trans rfl;have KI:=aa ya.out 0;have JI:=aa ya.out 1;have II:=aa ya.out 2;have GI:=aa ya.out 3;have FI:=aa ya.out 4;have EI:=aa ya.out 5;have DI:=aa ya.out 6;go_wp2
      go_meet
      case rel=>exact ⟨_,((fc != 0)),(by first|rfl|(simp;done)|(simp [*];done)),H',⟨by have:=y9.out;first|omega|exact Nat.le_refl _⟩,⟨by (with_reducible repeat (first|refine Aa ?_ _|refine Ca ?_|refine za ?_ _));exact ta.out⟩,⟨by (with_reducible repeat (first|refine Aa ?_ _|refine Ca ?_|refine za ?_ _));exact ya.out⟩,⟨by repeat (first|(with_reducible first|exact HB.out|apply oa|apply ja|apply qa|refine ua ?_ Ua.out|refine ua ?_ Cb.out)|exact HB.out)⟩⟩
    ·rw [if_neg jE] at H;have qx:(Cc == 2)=false:=beq_eq_false_iff_ne.mpr jE;have gV:(Cc != 2)=true:=bne_iff_ne.mpr jE;(first|rw [qx]|(simp only [dc,ec];rw [qx])|skip)
     by_cases eV:Jd.toList=([]:List UInt8)
     ·rw [if_pos eV] at H;have dV:(Jd.toList == ([]:List UInt8))=true:=beq_iff_eq.mpr eV;have cV:(Jd.toList != ([]:List UInt8))=false:=bne_eq_false_iff_eq.mpr eV;clear eV
      by_cases bV:Cc=4
      ·rw [if_pos bV] at H;have aV:(Cc == 4)=true:=beq_iff_eq.mpr bV;have ZU:(Cc != 4)=false:=bne_eq_false_iff_eq.mpr bV;clear bV;have H':=ia.mk H;clear H;have BU:=Xa.out;have vU:=Za.out;have tr:wc.cell? ⟨Ga,0,none⟩=some (.int .i64 Cc):=(ga ya.out 0).trans rfl;have sr:wc.cell? ⟨Ga,1,none⟩=some (.int .i64 Ob):=(ga ya.out 1).trans rfl;have nr:wc.cell? ⟨Ga,2,none⟩=some (.int .i64 Gb):=(ga ya.out 2).trans rfl;have kr:wc.cell? ⟨Ga,3,none⟩=some (.int .i64 Ib):=(ga ya.out 3).trans rfl;have jr:wc.cell? ⟨Ga,4,none⟩=some (.int .i64 fc):=(ga ya.out 4).trans rfl;have UC:wc.cell? ⟨Ga,5,none⟩=some (.int .i64 Vc):=(ga ya.out 5).trans rfl;have TC:wc.cell? ⟨Ga,6,none⟩=some (.string Jd):=(ga ya.out 6).trans rfl;have Pq:=aa ya.out 0;have Oq:=aa ya.out 1;have Nq:=aa ya.out 2;have Mq:=aa ya.out 3;have Kq:=aa ya.out 4;have NB:=aa ya.out 5;have MB:=aa ya.out 6;go_wp2
       go_meet
       case rel=>exact ⟨_,(false),(by first|rfl|(simp;done)|(simp [*];done)),H',⟨by have:=y9.out;first|omega|exact Nat.le_refl _⟩,⟨by (with_reducible repeat (first|refine Aa ?_ _|refine Ca ?_|refine za ?_ _));exact ta.out⟩,⟨by (with_reducible repeat (first|refine Aa ?_ _|refine Ca ?_|refine za ?_ _));exact ya.out⟩,⟨by repeat (first|(with_reducible first|exact HB.out|apply oa|apply ja|apply qa|refine ua ?_ Ua.out|refine ua ?_ Cb.out)|exact HB.out)⟩⟩
      ·rw [if_neg bV] at H;have aV:(Cc == 4)=false:=beq_eq_false_iff_ne.mpr bV;have ZU:(Cc != 4)=true:=bne_iff_ne.mpr bV;have H':=ia.mk H;clear H;have X0:=Xa.out;have C0:=Za.out;have qy:wc.cell? ⟨Ga,0,none⟩=some (.int .i64 Cc):=(ga ya.out 0).trans rfl;have oy:wc.cell? ⟨Ga,1,none⟩=some (.int .i64 Ob):=(ga ya.out 1).trans rfl;have ny:wc.cell? ⟨Ga,2,none⟩=some (.int .i64 Gb):=(ga ya.out 2).trans rfl;have jy:wc.cell? ⟨Ga,3,none⟩=some (.int .i64 Ib):=(ga ya.out 3).trans rfl;have iy:wc.cell? ⟨Ga,4,none⟩=some (.int .i64 fc):=(ga ya.out 4).trans rfl;have US:wc.cell? ⟨Ga,5,none⟩=some (.int .i64 Vc):=(ga ya.out 5).trans rfl;have TS:wc.cell? ⟨Ga,6,none⟩=some (.string Jd):=(ga ya.out 6).trans rfl;have Tx:=aa ya.out 0;have Sx:=aa ya.out 1;have Rx:=aa ya.out 2;have Qx:=aa ya.out 3;have Px:=aa ya.out 4;have LR:=aa ya.out 5;have KR:=aa ya.out 6;go_wp2
       go_meet
       case rel=>exact ⟨_,((fc != 0)),(by first|rfl|(simp;done)|(simp [*];done)),H',⟨by have:=y9.out;first|omega|exact Nat.le_refl _⟩,⟨by (with_reducible repeat (first|refine Aa ?_ _|refine Ca ?_|refine za ?_ _));exact ta.out⟩,⟨by (with_reducible repeat (first|refine Aa ?_ _|refine Ca ?_|refine za ?_ _));exact ya.out⟩,⟨by repeat (first|(with_reducible first|exact HB.out|apply oa|apply ja|apply qa|refine ua ?_ Ua.out|refine ua ?_ Cb.out)|exact HB.out)⟩⟩
     ·rw [if_neg eV] at H;have dV:(Jd.toList == ([]:List UInt8))=false:=beq_eq_false_iff_ne.mpr eV;have cV:(Jd.toList != ([]:List UInt8))=true:=bne_iff_ne.mpr eV;have H':=ia.mk H;clear H;have V0:=Xa.out;have m0:=Za.out;have IC:wc.cell? ⟨Ga,0,none⟩=some (.int .i64 Cc):=(ga ya.out 0).trans rfl;have GC:wc.cell? ⟨Ga,1,none⟩=some (.int .i64 Ob):=(ga ya.out 1).trans rfl;have FC:wc.cell? ⟨Ga,2,none⟩=some (.int .i64 Gb):=(ga ya.out 2).trans rfl;have EC:wc.cell? ⟨Ga,3,none⟩=some (.int .i64 Ib):=(ga ya.out 3).trans rfl;have DC:wc.cell? ⟨Ga,4,none⟩=some (.int .i64 fc):=(ga ya.out 4).trans rfl;have SS:wc.cell? ⟨Ga,5,none⟩=some (.int .i64 Vc):=(ga ya.out 5).trans rfl;have RS:wc.cell? ⟨Ga,6,none⟩=some (.string Jd):=(ga ya.out 6).trans rfl;have zB:=aa ya.out 0;have yB:=aa ya.out 1;have xB:=aa ya.out 2;have wB:=aa ya.out 3;have vB:=aa ya.out 4;have JR:=aa ya.out 5;have GR:=aa ya.out 6;go_wp2
      go_meet
      case rel=>exact ⟨_,(true),(by first|rfl|(simp;done)|(simp [*];done)),H',⟨by have:=y9.out;first|omega|exact Nat.le_refl _⟩,⟨by (with_reducible repeat (first|refine Aa ?_ _|refine Ca ?_|refine za ?_ _));exact ta.out⟩,⟨by (with_reducible repeat (first|refine Aa ?_ _|refine Ca ?_|refine za ?_ _));exact ya.out⟩,⟨by repeat (first|(with_reducible first|exact HB.out|apply oa|apply ja|apply qa|refine ua ?_ Ua.out|refine ua ?_ Cb.out)|exact HB.out)⟩⟩
   case rest =>
    clear VY
    try clear c1
    try clear c2
    try clear p2
    try clear c3
    try clear c4
    try clear c5
    try clear p6
    try clear c9
    try clear fH
    try clear iA
    try clear lZ
    try clear xQ
    try clear gA
    try clear zq
    try clear nO
    try clear Rs
    try clear sx
    try clear bH
    try clear jZ
    try clear jE
    try clear qx
    try clear gV
    try clear RA
    try clear rF
    try clear fV
    try clear PF
    try clear vQ
    try clear eV
    try clear dV
    try clear cV
    try clear bV
    try clear aV
    try clear ZU
    try clear c37
    try clear c39
    try clear m8
    try clear Tj
    try clear Sj
    try clear Rj
    try clear Qj
    try clear Pj
    try clear wD
    try clear vD
    try clear Yv
    try clear Xv
    try clear Wv
    try clear Vv
    try clear Uv
    try clear Gp
    try clear Fp
    try clear Ep
    try clear Dp
    try clear Cp
    try clear nK
    try clear mK
    try clear Tv
    try clear Sv
    try clear Rv
    try clear Qv
    try clear Pv
    try clear Bp
    try clear Ap
    try clear zp
    try clear yp
    try clear xp
    try clear Ay
    try clear zy
    try clear eo
    try clear Zn
    try clear Yn
    try clear Xn
    try clear Wn
    try clear Ir
    try clear Hr
    try clear Gr
    try clear Er
    try clear Dr
    try clear fK
    try clear eK
    try clear Cr
    try clear Br
    try clear Ar
    try clear vr
    try clear ur
    try clear dK
    try clear cK
    try clear yy
    try clear xy
    try clear uy
    try clear sy
    try clear ry
    try clear eT
    try clear cT
    try clear RJ
    try clear QJ
    try clear PJ
    try clear OJ
    try clear NJ
    try clear MJ
    try clear LJ
    try clear tr
    try clear sr
    try clear nr
    try clear kr
    try clear jr
    try clear UC
    try clear TC
    try clear qy
    try clear oy
    try clear ny
    try clear jy
    try clear iy
    try clear US
    try clear TS
    try clear IC
    try clear GC
    try clear FC
    try clear EC
    try clear DC
    try clear SS
    try clear RS
    try clear Oj
    try clear Nj
    try clear Mj
    try clear Lj
    try clear Kj
    try clear rC
    try clear qC
    try clear wv
    try clear vv
    try clear uv
    try clear tv
    try clear qv
    try clear vp
    try clear qp
    try clear lp
    try clear ep
    try clear bp
    try clear fJ
    try clear eJ
    try clear ov
    try clear nv
    try clear jv
    try clear gv
    try clear cv
    try clear Zo
    try clear Yo
    try clear Xo
    try clear Wo
    try clear Vo
    try clear ay
    try clear Zx
    try clear Vn
    try clear Un
    try clear Tn
    try clear Sn
    try clear Rn
    try clear br
    try clear Zq
    try clear Yq
    try clear Xq
    try clear Wq
    try clear YI
    try clear XI
    try clear Vq
    try clear Uq
    try clear Sq
    try clear Rq
    try clear Qq
    try clear WI
    try clear VI
    try clear Yx
    try clear Xx
    try clear Wx
    try clear Vx
    try clear Ux
    try clear WR
    try clear VR
    try clear KI
    try clear JI
    try clear II
    try clear GI
    try clear FI
    try clear EI
    try clear DI
    try clear Pq
    try clear Oq
    try clear Nq
    try clear Mq
    try clear Kq
    try clear NB
    try clear MB
    try clear Tx
    try clear Sx
    try clear Rx
    try clear Qx
    try clear Px
    try clear LR
    try clear KR
    try clear zB
    try clear yB
    try clear xB
    try clear wB
    try clear vB
    try clear JR
    try clear GR
    try clear p2
    try clear p6
    obtain ⟨kq,YA,rfl,HA,Aao,ta,ya,HB⟩:=hcut;cases kq with
    | zero=>exact absurd HA.out (by simp [Ya.j1])
    | succ jL =>
     have H:=HA.out;clear HA;simp only [Ya.j1] at H
     by_cases c43:YA=true
     ·subst c43;have H1:(some false)=some r:=by rw [if_pos rfl] at H;exact H
      clear H;have H:=H1;clear H1;obtain rfl:=Option.some.inj H;go_wp2;go_ret;exact ⟨by first|rfl|(simp [Ja,Ia] <;> rfl)|(simp [*,Ja,Ia] <;> rfl),by repeat (first|(with_reducible first|exact HB.out|apply oa|apply ja|apply qa|refine ua ?_ Ua.out|refine ua ?_ Cb.out)|exact HB.out)⟩
     ·replace c43:=Bool.eq_false_iff.mpr c43;subst c43;have H1:(if Cc=0 then (if t103=true then (if Gb=0 then (some (Ib == 0)) else (some false)) else (some false)) else (if Cc=1 then (if t103=true then (if t104=true then (if Ib=0 then (some (Vc == 0)) else (some false)) else (some false)) else (some false)) else (if Cc=2 then (if t103=true then (if t104=true then (if t105=true then (if Vc=0 then ((Oe.f jL (([(⟨#[61,61]⟩:ByteArray),(⟨#[60]⟩:ByteArray),(⟨#[38]⟩:ByteArray),(⟨#[43]⟩:ByteArray),(⟨#[45]⟩:ByteArray),(⟨#[42]⟩:ByteArray)]:List ByteArray)) Jd).bind fun t111=>(some t111)) else (some false)) else (some false)) else (some false)) else (some false)) else (if Cc=3 then (if t103=true then (some lE) else (some false)) else (if Cc=4 then (if Ob=0 then (if lE=true then ((Wa.f fc 0 (wrap64 (Ma - 1))).bind fun t112=>(some t112)) else (some false)) else (some false)) else (if Cc=5 then (if t103=true then (if Gb=0 then (if Ib=0 then (some (Vc == 0)) else (some false)) else (some false)) else (some false)) else (if Cc=6 then (if Ob=0 then (if t104=true then (if Ib=0 then (some (Vc == 0)) else (some false)) else (some false)) else (some false)) else (some false))))))))=some r:=by rw [if_neg (show ¬ (false=true) by decide)] at H;exact H
      clear H;have H:=H1;clear H1
      by_cases aH:Cc=0
      ·rw [if_pos aH] at H;have jO:(Cc == 0)=true:=beq_iff_eq.mpr aH;have iO:(Cc != 0)=false:=bne_eq_false_iff_eq.mpr aH;clear aH
       by_cases xT:t103=true
       ·subst xT;have H1:(if Gb=0 then (some (Ib == 0)) else (some false))=some r:=by rw [if_pos rfl] at H;exact H
        clear H;have H:=H1;clear H1
        by_cases ZG:Gb=0
        ·rw [if_pos ZG] at H;have gO:(Gb == 0)=true:=beq_iff_eq.mpr ZG;have fO:(Gb != 0)=false:=bne_eq_false_iff_eq.mpr ZG;clear ZG;obtain rfl:=Option.some.inj H;have xN:=Xa.out;have uN:=Za.out;have Dv:wc.cell? ⟨Ga,0,none⟩=some (.int .i64 Cc):=(ga ya.out 0).trans rfl;have Cv:wc.cell? ⟨Ga,1,none⟩=some (.int .i64 Ob):=(ga ya.out 1).trans rfl;have Bv:wc.cell? ⟨Ga,2,none⟩=some (.int .i64 Gb):=(ga ya.out 2).trans rfl;have Av:wc.cell? ⟨Ga,3,none⟩=some (.int .i64 Ib):=(ga ya.out 3).trans rfl;have zv:wc.cell? ⟨Ga,4,none⟩=some (.int .i64 fc):=(ga ya.out 4).trans rfl;have AJ:wc.cell? ⟨Ga,5,none⟩=some (.int .i64 Vc):=(ga ya.out 5).trans rfl;have zJ:wc.cell? ⟨Ga,6,none⟩=some (.string Jd):=(ga ya.out 6).trans rfl;have Qu:=aa ya.out 0;have Pu:=aa ya.out 1;have Ou:=aa ya.out 2;have Nu:=aa ya.out 3;have Mu:=aa ya.out 4;have rI:=aa ya.out 5;have qI:=aa ya.out 6;go_wp2;go_ret;exact ⟨by first|rfl|(simp [Ja,Ia] <;> rfl)|(simp [*,Ja,Ia] <;> rfl),by repeat (first|(with_reducible first|exact HB.out|apply oa|apply ja|apply qa|refine ua ?_ Ua.out|refine ua ?_ Cb.out)|exact HB.out)⟩
        ·rw [if_neg ZG] at H;have gO:(Gb == 0)=false:=beq_eq_false_iff_ne.mpr ZG;have fO:(Gb != 0)=true:=bne_iff_ne.mpr ZG;obtain rfl:=Option.some.inj H;have zU:=Xa.out;have tU:=Za.out;have yJ:wc.cell? ⟨Ga,0,none⟩=some (.int .i64 Cc):=(ga ya.out 0).trans rfl;have xJ:wc.cell? ⟨Ga,1,none⟩=some (.int .i64 Ob):=(ga ya.out 1).trans rfl;have wJ:wc.cell? ⟨Ga,2,none⟩=some (.int .i64 Gb):=(ga ya.out 2).trans rfl;have vJ:wc.cell? ⟨Ga,3,none⟩=some (.int .i64 Ib):=(ga ya.out 3).trans rfl;have uJ:wc.cell? ⟨Ga,4,none⟩=some (.int .i64 fc):=(ga ya.out 4).trans rfl;have uS:wc.cell? ⟨Ga,5,none⟩=some (.int .i64 Vc):=(ga ya.out 5).trans rfl;have tS:wc.cell? ⟨Ga,6,none⟩=some (.string Jd):=(ga ya.out 6).trans rfl;have pI:=aa ya.out 0;have oI:=aa ya.out 1;have nI:=aa ya.out 2;have mI:=aa ya.out 3;have lI:=aa ya.out 4;have nR:=aa ya.out 5;have mR:=aa ya.out 6;go_wp2;go_ret;exact ⟨by first|rfl|(simp [Ja,Ia] <;> rfl)|(simp [*,Ja,Ia] <;> rfl),by repeat (first|(with_reducible first|exact HB.out|apply oa|apply ja|apply qa|refine ua ?_ Ua.out|refine ua ?_ Cb.out)|exact HB.out)⟩
       ·replace xT:=Bool.eq_false_iff.mpr xT;subst xT;have H1:(some false)=some r:=by rw [if_neg (show ¬ (false=true) by decide)] at H;exact H
        clear H;have H:=H1;clear H1;obtain rfl:=Option.some.inj H;have Q0:=Xa.out;have WZ:=Za.out;have oJ:wc.cell? ⟨Ga,0,none⟩=some (.int .i64 Cc):=(ga ya.out 0).trans rfl;have nJ:wc.cell? ⟨Ga,1,none⟩=some (.int .i64 Ob):=(ga ya.out 1).trans rfl;have mJ:wc.cell? ⟨Ga,2,none⟩=some (.int .i64 Gb):=(ga ya.out 2).trans rfl;have lJ:wc.cell? ⟨Ga,3,none⟩=some (.int .i64 Ib):=(ga ya.out 3).trans rfl;have kJ:wc.cell? ⟨Ga,4,none⟩=some (.int .i64 fc):=(ga ya.out 4).trans rfl;have Qae:wc.cell? ⟨Ga,5,none⟩=some (.int .i64 Vc):=(ga ya.out 5).trans rfl;have Pae:wc.cell? ⟨Ga,6,none⟩=some (.string Jd):=(ga ya.out 6).trans rfl;have eI:=aa ya.out 0;have dI:=aa ya.out 1;have cI:=aa ya.out 2;have bI:=aa ya.out 3;have aI:=aa ya.out 4;have Nab:=aa ya.out 5;have Mab:=aa ya.out 6;go_wp2;go_ret;exact ⟨by first|rfl|(simp [Ja,Ia] <;> rfl)|(simp [*,Ja,Ia] <;> rfl),by repeat (first|(with_reducible first|exact HB.out|apply oa|apply ja|apply qa|refine ua ?_ Ua.out|refine ua ?_ Cb.out)|exact HB.out)⟩
      ·rw [if_neg aH] at H;have jO:(Cc == 0)=false:=beq_eq_false_iff_ne.mpr aH;have iO:(Cc != 0)=true:=bne_iff_ne.mpr aH
       by_cases dY:Cc=1
       ·rw [if_pos dY] at H;have k8:(Cc == 1)=true:=beq_iff_eq.mpr dY;have j8:(Cc != 1)=false:=bne_eq_false_iff_eq.mpr dY;clear dY
        by_cases c54:t103=true
        ·subst c54;have H1:(if t104=true then (if Ib=0 then (some (Vc == 0)) else (some false)) else (some false))=some r:=by rw [if_pos rfl] at H;exact H
         clear H;have H:=H1;clear H1
         by_cases c55:t104=true
         ·subst c55;have H1:(if Ib=0 then (some (Vc == 0)) else (some false))=some r:=by rw [if_pos rfl] at H;exact H
          clear H;have H:=H1;clear H1
          by_cases cY:Ib=0
          ·rw [if_pos cY] at H;have g8:(Ib == 0)=true:=beq_iff_eq.mpr cY;have e8:(Ib != 0)=false:=bne_eq_false_iff_eq.mpr cY;clear cY;obtain rfl:=Option.some.inj H;have Oak:=Xa.out;have kak:=Za.out;have sS:wc.cell? ⟨Ga,0,none⟩=some (.int .i64 Cc):=(ga ya.out 0).trans rfl;have rS:wc.cell? ⟨Ga,1,none⟩=some (.int .i64 Ob):=(ga ya.out 1).trans rfl;have pS:wc.cell? ⟨Ga,2,none⟩=some (.int .i64 Gb):=(ga ya.out 2).trans rfl;have oS:wc.cell? ⟨Ga,3,none⟩=some (.int .i64 Ib):=(ga ya.out 3).trans rfl;have nS:wc.cell? ⟨Ga,4,none⟩=some (.int .i64 fc):=(ga ya.out 4).trans rfl;have uae:wc.cell? ⟨Ga,5,none⟩=some (.int .i64 Vc):=(ga ya.out 5).trans rfl;have tae:wc.cell? ⟨Ga,6,none⟩=some (.string Jd):=(ga ya.out 6).trans rfl;have lR:=aa ya.out 0;have kR:=aa ya.out 1;have jR:=aa ya.out 2;have iR:=aa ya.out 3;have gR:=aa ya.out 4;have qab:=aa ya.out 5;have pab:=aa ya.out 6;go_wp2;go_ret;exact ⟨by first|rfl|(simp [Ja,Ia] <;> rfl)|(simp [*,Ja,Ia] <;> rfl),by repeat (first|(with_reducible first|exact HB.out|apply oa|apply ja|apply qa|refine ua ?_ Ua.out|refine ua ?_ Cb.out)|exact HB.out)⟩
          ·rw [if_neg cY] at H;have g8:(Ib == 0)=false:=beq_eq_false_iff_ne.mpr cY;have e8:(Ib != 0)=true:=bne_iff_ne.mpr cY;obtain rfl:=Option.some.inj H;have Nak:=Xa.out;have jak:=Za.out;have sae:wc.cell? ⟨Ga,0,none⟩=some (.int .i64 Cc):=(ga ya.out 0).trans rfl;have rae:wc.cell? ⟨Ga,1,none⟩=some (.int .i64 Ob):=(ga ya.out 1).trans rfl;have qae:wc.cell? ⟨Ga,2,none⟩=some (.int .i64 Gb):=(ga ya.out 2).trans rfl;have pae:wc.cell? ⟨Ga,3,none⟩=some (.int .i64 Ib):=(ga ya.out 3).trans rfl;have oae:wc.cell? ⟨Ga,4,none⟩=some (.int .i64 fc):=(ga ya.out 4).trans rfl;have nae:wc.cell? ⟨Ga,5,none⟩=some (.int .i64 Vc):=(ga ya.out 5).trans rfl;have mae:wc.cell? ⟨Ga,6,none⟩=some (.string Jd):=(ga ya.out 6).trans rfl;have oab:=aa ya.out 0;have mab:=aa ya.out 1;have lab:=aa ya.out 2;have kab:=aa ya.out 3;have jab:=aa ya.out 4;have iab:=aa ya.out 5;have gab:=aa ya.out 6;go_wp2;go_ret;exact ⟨by first|rfl|(simp [Ja,Ia] <;> rfl)|(simp [*,Ja,Ia] <;> rfl),by repeat (first|(with_reducible first|exact HB.out|apply oa|apply ja|apply qa|refine ua ?_ Ua.out|refine ua ?_ Cb.out)|exact HB.out)⟩
         ·replace c55:=Bool.eq_false_iff.mpr c55;subst c55;have H1:(some false)=some r:=by rw [if_neg (show ¬ (false=true) by decide)] at H;exact H
          clear H;have H:=H1;clear H1;obtain rfl:=Option.some.inj H;have Mak:=Xa.out;have iak:=Za.out;have lae:wc.cell? ⟨Ga,0,none⟩=some (.int .i64 Cc):=(ga ya.out 0).trans rfl;have kae:wc.cell? ⟨Ga,1,none⟩=some (.int .i64 Ob):=(ga ya.out 1).trans rfl;have jae:wc.cell? ⟨Ga,2,none⟩=some (.int .i64 Gb):=(ga ya.out 2).trans rfl;have iae:wc.cell? ⟨Ga,3,none⟩=some (.int .i64 Ib):=(ga ya.out 3).trans rfl;have hae:wc.cell? ⟨Ga,4,none⟩=some (.int .i64 fc):=(ga ya.out 4).trans rfl;have gae:wc.cell? ⟨Ga,5,none⟩=some (.int .i64 Vc):=(ga ya.out 5).trans rfl;have fae:wc.cell? ⟨Ga,6,none⟩=some (.string Jd):=(ga ya.out 6).trans rfl;have fab:=aa ya.out 0;have eab:=aa ya.out 1;have dab:=aa ya.out 2;have cab:=aa ya.out 3;have bab:=aa ya.out 4;have aab:=aa ya.out 5;have Zaa:=aa ya.out 6;go_wp2;go_ret;exact ⟨by first|rfl|(simp [Ja,Ia] <;> rfl)|(simp [*,Ja,Ia] <;> rfl),by repeat (first|(with_reducible first|exact HB.out|apply oa|apply ja|apply qa|refine ua ?_ Ua.out|refine ua ?_ Cb.out)|exact HB.out)⟩
        ·replace c54:=Bool.eq_false_iff.mpr c54;subst c54;have H1:(some false)=some r:=by rw [if_neg (show ¬ (false=true) by decide)] at H;exact H
         clear H;have H:=H1;clear H1;obtain rfl:=Option.some.inj H;have Lak:=Xa.out;have hak:=Za.out;have eae:wc.cell? ⟨Ga,0,none⟩=some (.int .i64 Cc):=(ga ya.out 0).trans rfl;have dae:wc.cell? ⟨Ga,1,none⟩=some (.int .i64 Ob):=(ga ya.out 1).trans rfl;have cae:wc.cell? ⟨Ga,2,none⟩=some (.int .i64 Gb):=(ga ya.out 2).trans rfl;have bae:wc.cell? ⟨Ga,3,none⟩=some (.int .i64 Ib):=(ga ya.out 3).trans rfl;have aae:wc.cell? ⟨Ga,4,none⟩=some (.int .i64 fc):=(ga ya.out 4).trans rfl;have Zad:wc.cell? ⟨Ga,5,none⟩=some (.int .i64 Vc):=(ga ya.out 5).trans rfl;have Yad:wc.cell? ⟨Ga,6,none⟩=some (.string Jd):=(ga ya.out 6).trans rfl;have Yaa:=aa ya.out 0;have Xaa:=aa ya.out 1;have Waa:=aa ya.out 2;have Vaa:=aa ya.out 3;have Uaa:=aa ya.out 4;have Taa:=aa ya.out 5;have Saa:=aa ya.out 6;go_wp2;go_ret;exact ⟨by first|rfl|(simp [Ja,Ia] <;> rfl)|(simp [*,Ja,Ia] <;> rfl),by repeat (first|(with_reducible first|exact HB.out|apply oa|apply ja|apply qa|refine ua ?_ Ua.out|refine ua ?_ Cb.out)|exact HB.out)⟩
       ·rw [if_neg dY] at H;have k8:(Cc == 1)=false:=beq_eq_false_iff_ne.mpr dY;have j8:(Cc != 1)=true:=bne_iff_ne.mpr dY
        by_cases bY:Cc=2
        ·rw [if_pos bY] at H;have b8:(Cc == 2)=true:=beq_iff_eq.mpr bY;have Y7:(Cc != 2)=false:=bne_eq_false_iff_eq.mpr bY;clear bY
         by_cases c66:t103=true
         ·subst c66;have H1:(if t104=true then (if t105=true then (if Vc=0 then ((Oe.f jL (([(⟨#[61,61]⟩:ByteArray),(⟨#[60]⟩:ByteArray),(⟨#[38]⟩:ByteArray),(⟨#[43]⟩:ByteArray),(⟨#[45]⟩:ByteArray),(⟨#[42]⟩:ByteArray)]:List ByteArray)) Jd).bind fun t111=>(some t111)) else (some false)) else (some false)) else (some false))=some r:=by rw [if_pos rfl] at H;exact H
          clear H;have H:=H1;clear H1
          by_cases c67:t104=true
          ·subst c67;have H1:(if t105=true then (if Vc=0 then ((Oe.f jL (([(⟨#[61,61]⟩:ByteArray),(⟨#[60]⟩:ByteArray),(⟨#[38]⟩:ByteArray),(⟨#[43]⟩:ByteArray),(⟨#[45]⟩:ByteArray),(⟨#[42]⟩:ByteArray)]:List ByteArray)) Jd).bind fun t111=>(some t111)) else (some false)) else (some false))=some r:=by rw [if_pos rfl] at H;exact H
           clear H;have H:=H1;clear H1
           by_cases c68:t105=true
           ·subst c68;have H1:(if Vc=0 then ((Oe.f jL (([(⟨#[61,61]⟩:ByteArray),(⟨#[60]⟩:ByteArray),(⟨#[38]⟩:ByteArray),(⟨#[43]⟩:ByteArray),(⟨#[45]⟩:ByteArray),(⟨#[42]⟩:ByteArray)]:List ByteArray)) Jd).bind fun t111=>(some t111)) else (some false))=some r:=by rw [if_pos rfl] at H;exact H
            clear H;have H:=H1;clear H1
            by_cases aY:Vc=0
            ·rw [if_pos aY] at H;have X7:(Vc == 0)=true:=beq_iff_eq.mpr aY;have W7:(Vc != 0)=false:=bne_eq_false_iff_eq.mpr aY;clear aY;obtain ⟨YK,gq⟩:∃ y_:List ByteArray,y_=(([(⟨#[61,61]⟩:ByteArray),(⟨#[60]⟩:ByteArray),(⟨#[38]⟩:ByteArray),(⟨#[43]⟩:ByteArray),(⟨#[45]⟩:ByteArray),(⟨#[42]⟩:ByteArray)]:List ByteArray)):=⟨_,rfl⟩;replace H:((Oe.f jL YK Jd).bind fun t111=>(some t111))=some r:=by first|(rw [gq];with_reducible exact H)|(have Vg:=(Option.bind_some _ _).symm.trans H;rw [gq];with_reducible exact Vg)|(have Vg:=(Option.bind_some _ _).symm.trans H;with_reducible exact Vg)|with_reducible exact H|(rw [gq];exact H)|exact H
             have CK:=ia.mk gq;clear gq;replace H:=Option.bind_eq_some_iff.mp H;obtain ⟨t111,S9,H⟩:=H;replace H:(some t111)=some r:=H;have QF:=ia.mk S9;clear S9;obtain rfl:=Option.some.inj H;have Kak:=Xa.out;have gak:=Za.out;have Xad:wc.cell? ⟨Ga,0,none⟩=some (.int .i64 Cc):=(ga ya.out 0).trans rfl;have Wad:wc.cell? ⟨Ga,1,none⟩=some (.int .i64 Ob):=(ga ya.out 1).trans rfl;have Vad:wc.cell? ⟨Ga,2,none⟩=some (.int .i64 Gb):=(ga ya.out 2).trans rfl;have Uad:wc.cell? ⟨Ga,3,none⟩=some (.int .i64 Ib):=(ga ya.out 3).trans rfl;have Tad:wc.cell? ⟨Ga,4,none⟩=some (.int .i64 fc):=(ga ya.out 4).trans rfl;have Sad:wc.cell? ⟨Ga,5,none⟩=some (.int .i64 Vc):=(ga ya.out 5).trans rfl;have Rad:wc.cell? ⟨Ga,6,none⟩=some (.string Jd):=(ga ya.out 6).trans rfl;have Raa:=aa ya.out 0;have Qaa:=aa ya.out 1;have Paa:=aa ya.out 2;have Oaa:=aa ya.out 3;have Naa:=aa ya.out 4;have Maa:=aa ya.out 5;have Laa:=aa ya.out 6;go_wp2_with (first|((with_reducible refine Bb (N:=109) rfl ?_);(try (refine Fi (by rfl) ?_;dsimp only));refine Kd.Ts Kd.string _ 9 ?hg (N:=109) ?hd (xs:=([(⟨#[61,61]⟩:ByteArray),(⟨#[60]⟩:ByteArray),(⟨#[38]⟩:ByteArray),(⟨#[43]⟩:ByteArray),(⟨#[45]⟩:ByteArray),(⟨#[42]⟩:ByteArray)]:List ByteArray)) (inner:=[.string (⟨#[61,61]⟩:ByteArray),.string (⟨#[60]⟩:ByteArray),.string (⟨#[38]⟩:ByteArray),.string (⟨#[43]⟩:ByteArray),.string (⟨#[45]⟩:ByteArray),.string (⟨#[42]⟩:ByteArray)]) (ok:=fun _=>True) (qk:=fun _=>True) ?hr ?hp (fun _ hk=>hk) trivial (Below.refl _ _) (Nat.le_refl _) (by simp) ?_;(case hd=>rfl);(case hg=>rfl);(case hr=>first|(go_simp;done)|(go_simp;rfl));(case hp=>exact (Me.one (show Kd.M Kd.string _ _ _ (⟨#[61,61]⟩:ByteArray) [.string (⟨#[61,61]⟩:ByteArray)] from rfl) (Me.one (show Kd.M Kd.string _ _ _ (⟨#[60]⟩:ByteArray) [.string (⟨#[60]⟩:ByteArray)] from rfl) (Me.one (show Kd.M Kd.string _ _ _ (⟨#[38]⟩:ByteArray) [.string (⟨#[38]⟩:ByteArray)] from rfl) (Me.one (show Kd.M Kd.string _ _ _ (⟨#[43]⟩:ByteArray) [.string (⟨#[43]⟩:ByteArray)] from rfl) (Me.one (show Kd.M Kd.string _ _ _ (⟨#[45]⟩:ByteArray) [.string (⟨#[45]⟩:ByteArray)] from rfl) (Me.one (show Kd.M Kd.string _ _ _ (⟨#[42]⟩:ByteArray) [.string (⟨#[42]⟩:ByteArray)] from rfl) (Me.none _ _))))))));intro ean iW qN hb pz Bj;clear pz Bj;(first|rw [← CK.out] at qN|(simp only [Int.reduceToNat] at qN;rw [← CK.out] at qN));have Kb:=ia.mk (Kd.Eh qN (Qa (by repeat (first|(with_reducible first|exact HB.out|apply oa|apply ja|apply qa|refine ua ?_ Ua.out|refine ua ?_ Cb.out)|exact HB.out))));have Ub:=ia.mk (Ta (g:=Da) (o:=.cells #[.slice xb Sa.length qb,.int .i64 Pa,.int .i64 Na,.int .i64 Ma,.slice Qb La.length Fb] 30 (0,0)) (by (with_reducible repeat (first|refine Aa ?_ _|refine Ca ?_|refine za ?_ _));exact ta.out) hb);have yc:=ia.mk (Ta (g:=Ga) (o:=.cells #[.int .i64 Cc,.int .i64 Ob,.int .i64 Gb,.int .i64 Ib,.int .i64 fc,.int .i64 Vc,.string Jd] 70 (0,0)) (by (with_reducible repeat (first|refine Aa ?_ _|refine Ca ?_|refine za ?_ _));exact ya.out) hb);have Tc:=ia.mk (Ra (by repeat (first|(with_reducible first|exact HB.out|apply oa|apply ja|apply qa|refine ua ?_ Ua.out|refine ua ?_ Cb.out)|exact HB.out)) hb);clear ta ya HB;have ZP:=Kb;have ta:=Ub;have ya:=yc;have HB:=Tc;clear Kb Ub yc Tc hb qN;have Qad:iW.cell? ⟨Ga,0,none⟩=some (.int .i64 Cc):=(ga ya.out 0).trans rfl;have Pad:iW.cell? ⟨Ga,1,none⟩=some (.int .i64 Ob):=(ga ya.out 1).trans rfl;have Oad:iW.cell? ⟨Ga,2,none⟩=some (.int .i64 Gb):=(ga ya.out 2).trans rfl;have Nad:iW.cell? ⟨Ga,3,none⟩=some (.int .i64 Ib):=(ga ya.out 3).trans rfl;have Mad:iW.cell? ⟨Ga,4,none⟩=some (.int .i64 fc):=(ga ya.out 4).trans rfl;have Lad:iW.cell? ⟨Ga,5,none⟩=some (.int .i64 Vc):=(ga ya.out 5).trans rfl;have Kad:iW.cell? ⟨Ga,6,none⟩=some (.string Jd):=(ga ya.out 6).trans rfl;have Kaa:=aa ya.out 0;have Jaa:=aa ya.out 1;have Iaa:=aa ya.out 2;have Haa:=aa ya.out 3;have Gaa:=aa ya.out 4;have Faa:=aa ya.out 5;have Eaa:=aa ya.out 6;obtain ⟨Jao,Zan,Yah⟩:=Kd.lf ZP.out;subst Yah)|(go_at_call 128;(with_reducible refine (Oe.calls jL _ _ YK Jd t111 _ ?Pc ?Oc QF.out).mono ?_);(case Pc=>repeat (first|exact (Kd.jc ZP.out).2.2|(with_reducible refine Kd.nc ?_ _)|(with_reducible refine Kd.mc ?_ _)|(with_reducible refine Kd.Rc ?_)));(case Oc=>exact (Kd.jc ZP.out).2.1);rintro e w' ⟨rfl,⟨nd,rfl⟩⟩));go_ret;exact ⟨by first|rfl|(simp [Ja,Ia] <;> rfl)|(simp [*,Ja,Ia] <;> rfl),by repeat (first|(with_reducible first|exact HB.out|apply oa|apply ja|apply qa|refine ua ?_ Ua.out|refine ua ?_ Cb.out)|exact HB.out)⟩
            ·rw [if_neg aY] at H;have X7:(Vc == 0)=false:=beq_eq_false_iff_ne.mpr aY;have W7:(Vc != 0)=true:=bne_iff_ne.mpr aY;obtain rfl:=Option.some.inj H;have Jak:=Xa.out;have fak:=Za.out;have Jad:wc.cell? ⟨Ga,0,none⟩=some (.int .i64 Cc):=(ga ya.out 0).trans rfl;have Iad:wc.cell? ⟨Ga,1,none⟩=some (.int .i64 Ob):=(ga ya.out 1).trans rfl;have Had:wc.cell? ⟨Ga,2,none⟩=some (.int .i64 Gb):=(ga ya.out 2).trans rfl;have Gad:wc.cell? ⟨Ga,3,none⟩=some (.int .i64 Ib):=(ga ya.out 3).trans rfl;have Fad:wc.cell? ⟨Ga,4,none⟩=some (.int .i64 fc):=(ga ya.out 4).trans rfl;have Ead:wc.cell? ⟨Ga,5,none⟩=some (.int .i64 Vc):=(ga ya.out 5).trans rfl;have Dad:wc.cell? ⟨Ga,6,none⟩=some (.string Jd):=(ga ya.out 6).trans rfl;have Daa:=aa ya.out 0;have Caa:=aa ya.out 1;have Baa:=aa ya.out 2;have Aaa:=aa ya.out 3;have zaa:=aa ya.out 4;have yaa:=aa ya.out 5;have xaa:=aa ya.out 6;go_wp2;go_ret;exact ⟨by first|rfl|(simp [Ja,Ia] <;> rfl)|(simp [*,Ja,Ia] <;> rfl),by repeat (first|(with_reducible first|exact HB.out|apply oa|apply ja|apply qa|refine ua ?_ Ua.out|refine ua ?_ Cb.out)|exact HB.out)⟩
           ·replace c68:=Bool.eq_false_iff.mpr c68;subst c68;have H1:(some false)=some r:=by rw [if_neg (show ¬ (false=true) by decide)] at H;exact H
            clear H;have H:=H1;clear H1;obtain rfl:=Option.some.inj H;have Iak:=Xa.out;have eak:=Za.out;have Cad:wc.cell? ⟨Ga,0,none⟩=some (.int .i64 Cc):=(ga ya.out 0).trans rfl;have Bad:wc.cell? ⟨Ga,1,none⟩=some (.int .i64 Ob):=(ga ya.out 1).trans rfl;have Aad:wc.cell? ⟨Ga,2,none⟩=some (.int .i64 Gb):=(ga ya.out 2).trans rfl;have zad:wc.cell? ⟨Ga,3,none⟩=some (.int .i64 Ib):=(ga ya.out 3).trans rfl;have yad:wc.cell? ⟨Ga,4,none⟩=some (.int .i64 fc):=(ga ya.out 4).trans rfl;have xad:wc.cell? ⟨Ga,5,none⟩=some (.int .i64 Vc):=(ga ya.out 5).trans rfl;have wad:wc.cell? ⟨Ga,6,none⟩=some (.string Jd):=(ga ya.out 6).trans rfl;have waa:=aa ya.out 0;have vaa:=aa ya.out 1;have uaa:=aa ya.out 2;have taa:=aa ya.out 3;have saa:=aa ya.out 4;have raa:=aa ya.out 5;have qaa:=aa ya.out 6;go_wp2;go_ret;exact ⟨by first|rfl|(simp [Ja,Ia] <;> rfl)|(simp [*,Ja,Ia] <;> rfl),by repeat (first|(with_reducible first|exact HB.out|apply oa|apply ja|apply qa|refine ua ?_ Ua.out|refine ua ?_ Cb.out)|exact HB.out)⟩
          ·replace c67:=Bool.eq_false_iff.mpr c67;subst c67;have H1:(some false)=some r:=by rw [if_neg (show ¬ (false=true) by decide)] at H;exact H
           clear H;have H:=H1;clear H1;obtain rfl:=Option.some.inj H;have Hak:=Xa.out;have dak:=Za.out;have vad:wc.cell? ⟨Ga,0,none⟩=some (.int .i64 Cc):=(ga ya.out 0).trans rfl;have uad:wc.cell? ⟨Ga,1,none⟩=some (.int .i64 Ob):=(ga ya.out 1).trans rfl;have tad:wc.cell? ⟨Ga,2,none⟩=some (.int .i64 Gb):=(ga ya.out 2).trans rfl;have sad:wc.cell? ⟨Ga,3,none⟩=some (.int .i64 Ib):=(ga ya.out 3).trans rfl;have rad:wc.cell? ⟨Ga,4,none⟩=some (.int .i64 fc):=(ga ya.out 4).trans rfl;have qad:wc.cell? ⟨Ga,5,none⟩=some (.int .i64 Vc):=(ga ya.out 5).trans rfl;have oad:wc.cell? ⟨Ga,6,none⟩=some (.string Jd):=(ga ya.out 6).trans rfl;have paa:=aa ya.out 0;have oaa:=aa ya.out 1;have naa:=aa ya.out 2;have maa:=aa ya.out 3;have laa:=aa ya.out 4;have kaa:=aa ya.out 5;have jaa:=aa ya.out 6;go_wp2;go_ret;exact ⟨by first|rfl|(simp [Ja,Ia] <;> rfl)|(simp [*,Ja,Ia] <;> rfl),by repeat (first|(with_reducible first|exact HB.out|apply oa|apply ja|apply qa|refine ua ?_ Ua.out|refine ua ?_ Cb.out)|exact HB.out)⟩
         ·replace c66:=Bool.eq_false_iff.mpr c66;subst c66;have H1:(some false)=some r:=by rw [if_neg (show ¬ (false=true) by decide)] at H;exact H
          clear H;have H:=H1;clear H1;obtain rfl:=Option.some.inj H;have Gak:=Xa.out;have cak:=Za.out;have nad:wc.cell? ⟨Ga,0,none⟩=some (.int .i64 Cc):=(ga ya.out 0).trans rfl;have mad:wc.cell? ⟨Ga,1,none⟩=some (.int .i64 Ob):=(ga ya.out 1).trans rfl;have lad:wc.cell? ⟨Ga,2,none⟩=some (.int .i64 Gb):=(ga ya.out 2).trans rfl;have kad:wc.cell? ⟨Ga,3,none⟩=some (.int .i64 Ib):=(ga ya.out 3).trans rfl;have jad:wc.cell? ⟨Ga,4,none⟩=some (.int .i64 fc):=(ga ya.out 4).trans rfl;have iad:wc.cell? ⟨Ga,5,none⟩=some (.int .i64 Vc):=(ga ya.out 5).trans rfl;have gad:wc.cell? ⟨Ga,6,none⟩=some (.string Jd):=(ga ya.out 6).trans rfl;have iaa:=aa ya.out 0;have haa:=aa ya.out 1;have gaa:=aa ya.out 2;have faa:=aa ya.out 3;have eaa:=aa ya.out 4;have daa:=aa ya.out 5;have caa:=aa ya.out 6;go_wp2;go_ret;exact ⟨by first|rfl|(simp [Ja,Ia] <;> rfl)|(simp [*,Ja,Ia] <;> rfl),by repeat (first|(with_reducible first|exact HB.out|apply oa|apply ja|apply qa|refine ua ?_ Ua.out|refine ua ?_ Cb.out)|exact HB.out)⟩
        ·rw [if_neg bY] at H;have b8:(Cc == 2)=false:=beq_eq_false_iff_ne.mpr bY;have Y7:(Cc != 2)=true:=bne_iff_ne.mpr bY
         by_cases ZX:Cc=3
         ·rw [if_pos ZX] at H;have V7:(Cc == 3)=true:=beq_iff_eq.mpr ZX;have U7:(Cc != 3)=false:=bne_eq_false_iff_eq.mpr ZX;clear ZX
          by_cases c86:t103=true
          ·subst c86;have H1:(some lE)=some r:=by rw [if_pos rfl] at H;exact H
           clear H;have H:=H1;clear H1;obtain rfl:=Option.some.inj H;have Fak:=Xa.out;have bak:=Za.out;have fad:wc.cell? ⟨Ga,0,none⟩=some (.int .i64 Cc):=(ga ya.out 0).trans rfl;have ead:wc.cell? ⟨Ga,1,none⟩=some (.int .i64 Ob):=(ga ya.out 1).trans rfl;have dad:wc.cell? ⟨Ga,2,none⟩=some (.int .i64 Gb):=(ga ya.out 2).trans rfl;have cad:wc.cell? ⟨Ga,3,none⟩=some (.int .i64 Ib):=(ga ya.out 3).trans rfl;have aad:wc.cell? ⟨Ga,4,none⟩=some (.int .i64 fc):=(ga ya.out 4).trans rfl;have Zac:wc.cell? ⟨Ga,5,none⟩=some (.int .i64 Vc):=(ga ya.out 5).trans rfl;have Yac:wc.cell? ⟨Ga,6,none⟩=some (.string Jd):=(ga ya.out 6).trans rfl;have baa:=aa ya.out 0;have aaa:=aa ya.out 1;have Z_:=aa ya.out 2;have Y_:=aa ya.out 3;have X_:=aa ya.out 4;have V_:=aa ya.out 5;have U_:=aa ya.out 6;go_wp2;go_ret;exact ⟨by first|rfl|(simp [Ja,Ia] <;> rfl)|(simp [*,Ja,Ia] <;> rfl),by repeat (first|(with_reducible first|exact HB.out|apply oa|apply ja|apply qa|refine ua ?_ Ua.out|refine ua ?_ Cb.out)|exact HB.out)⟩
          ·replace c86:=Bool.eq_false_iff.mpr c86;subst c86;have H1:(some false)=some r:=by rw [if_neg (show ¬ (false=true) by decide)] at H;exact H
           clear H;have H:=H1;clear H1;obtain rfl:=Option.some.inj H;have Eak:=Xa.out;have aak:=Za.out;have Xac:wc.cell? ⟨Ga,0,none⟩=some (.int .i64 Cc):=(ga ya.out 0).trans rfl;have Wac:wc.cell? ⟨Ga,1,none⟩=some (.int .i64 Ob):=(ga ya.out 1).trans rfl;have Vac:wc.cell? ⟨Ga,2,none⟩=some (.int .i64 Gb):=(ga ya.out 2).trans rfl;have Uac:wc.cell? ⟨Ga,3,none⟩=some (.int .i64 Ib):=(ga ya.out 3).trans rfl;have Tac:wc.cell? ⟨Ga,4,none⟩=some (.int .i64 fc):=(ga ya.out 4).trans rfl;have Sac:wc.cell? ⟨Ga,5,none⟩=some (.int .i64 Vc):=(ga ya.out 5).trans rfl;have Rac:wc.cell? ⟨Ga,6,none⟩=some (.string Jd):=(ga ya.out 6).trans rfl;have T_:=aa ya.out 0;have S_:=aa ya.out 1;have R_:=aa ya.out 2;have Q_:=aa ya.out 3;have O_:=aa ya.out 4;have N_:=aa ya.out 5;have M_:=aa ya.out 6;go_wp2;go_ret;exact ⟨by first|rfl|(simp [Ja,Ia] <;> rfl)|(simp [*,Ja,Ia] <;> rfl),by repeat (first|(with_reducible first|exact HB.out|apply oa|apply ja|apply qa|refine ua ?_ Ua.out|refine ua ?_ Cb.out)|exact HB.out)⟩
         ·rw [if_neg ZX] at H;have V7:(Cc == 3)=false:=beq_eq_false_iff_ne.mpr ZX;have U7:(Cc != 3)=true:=bne_iff_ne.mpr ZX
          by_cases YX:Cc=4
          ·rw [if_pos YX] at H;have T7:(Cc == 4)=true:=beq_iff_eq.mpr YX;have R7:(Cc != 4)=false:=bne_eq_false_iff_eq.mpr YX;clear YX
           by_cases XX:Ob=0
           ·rw [if_pos XX] at H;have Q7:(Ob == 0)=true:=beq_iff_eq.mpr XX;have P7:(Ob != 0)=false:=bne_eq_false_iff_eq.mpr XX;clear XX
            by_cases c93:lE=true
            ·subst c93;have H1:((Wa.f fc 0 (wrap64 (Ma - 1))).bind fun t112=>(some t112))=some r:=by rw [if_pos rfl] at H;exact H
             clear H;have H:=H1;clear H1;replace H:=Option.bind_eq_some_iff.mp H;obtain ⟨t112,R9,H⟩:=H;replace H:(some t112)=some r:=H;have A94:=ia.mk R9;clear R9;obtain rfl:=Option.some.inj H;have Dak:=Xa.out;have Zaj:=Za.out;have Qac:wc.cell? ⟨Ga,0,none⟩=some (.int .i64 Cc):=(ga ya.out 0).trans rfl;have Pac:wc.cell? ⟨Ga,1,none⟩=some (.int .i64 Ob):=(ga ya.out 1).trans rfl;have Oac:wc.cell? ⟨Ga,2,none⟩=some (.int .i64 Gb):=(ga ya.out 2).trans rfl;have Nac:wc.cell? ⟨Ga,3,none⟩=some (.int .i64 Ib):=(ga ya.out 3).trans rfl;have Mac:wc.cell? ⟨Ga,4,none⟩=some (.int .i64 fc):=(ga ya.out 4).trans rfl;have Lac:wc.cell? ⟨Ga,5,none⟩=some (.int .i64 Vc):=(ga ya.out 5).trans rfl;have Kac:wc.cell? ⟨Ga,6,none⟩=some (.string Jd):=(ga ya.out 6).trans rfl;have L_:=aa ya.out 0;have K_:=aa ya.out 1;have J_:=aa ya.out 2;have I_:=aa ya.out 3;have H_:=aa ya.out 4;have G_:=aa ya.out 5;have F_:=aa ya.out 6;have Jac:wc.cell? ⟨Da,0,none⟩=some (.slice xb Sa.length qb):=(ga ta.out 0).trans rfl;have Iac:wc.cell? ⟨Da,1,none⟩=some (.int .i64 Pa):=(ga ta.out 1).trans rfl;have Hac:wc.cell? ⟨Da,2,none⟩=some (.int .i64 Na):=(ga ta.out 2).trans rfl;have Gac:wc.cell? ⟨Da,3,none⟩=some (.int .i64 Ma):=(ga ta.out 3).trans rfl;have Fac:wc.cell? ⟨Da,4,none⟩=some (.slice Qb La.length Fb):=(ga ta.out 4).trans rfl;have E_:=aa ta.out 0;have D_:=aa ta.out 1;have C_:=aa ta.out 2;have B_:=aa ta.out 3;have A_:=aa ta.out 4;go_wp2_with (first|(go_at_call 54;(with_reducible refine (Wa.calls fc 0 (wrap64 (Ma - 1)) t112 _ A94.out).mono ?_);rintro e w' ⟨rfl,⟨nd,rfl⟩⟩));go_ret;exact ⟨by first|rfl|(simp [Ja,Ia] <;> rfl)|(simp [*,Ja,Ia] <;> rfl),by repeat (first|(with_reducible first|exact HB.out|apply oa|apply ja|apply qa|refine ua ?_ Ua.out|refine ua ?_ Cb.out)|exact HB.out)⟩
            ·replace c93:=Bool.eq_false_iff.mpr c93;subst c93;have H1:(some false)=some r:=by rw [if_neg (show ¬ (false=true) by decide)] at H;exact H
             clear H;have H:=H1;clear H1;obtain rfl:=Option.some.inj H;have Cak:=Xa.out;have Yaj:=Za.out;have Eac:wc.cell? ⟨Ga,0,none⟩=some (.int .i64 Cc):=(ga ya.out 0).trans rfl;have Dac:wc.cell? ⟨Ga,1,none⟩=some (.int .i64 Ob):=(ga ya.out 1).trans rfl;have Cac:wc.cell? ⟨Ga,2,none⟩=some (.int .i64 Gb):=(ga ya.out 2).trans rfl;have Bac:wc.cell? ⟨Ga,3,none⟩=some (.int .i64 Ib):=(ga ya.out 3).trans rfl;have Aac:wc.cell? ⟨Ga,4,none⟩=some (.int .i64 fc):=(ga ya.out 4).trans rfl;have zac:wc.cell? ⟨Ga,5,none⟩=some (.int .i64 Vc):=(ga ya.out 5).trans rfl;have yac:wc.cell? ⟨Ga,6,none⟩=some (.string Jd):=(ga ya.out 6).trans rfl;have z_:=aa ya.out 0;have x_:=aa ya.out 1;have w_:=aa ya.out 2;have v_:=aa ya.out 3;have u_:=aa ya.out 4;have t_:=aa ya.out 5;have r_:=aa ya.out 6;go_wp2;go_ret;exact ⟨by first|rfl|(simp [Ja,Ia] <;> rfl)|(simp [*,Ja,Ia] <;> rfl),by repeat (first|(with_reducible first|exact HB.out|apply oa|apply ja|apply qa|refine ua ?_ Ua.out|refine ua ?_ Cb.out)|exact HB.out)⟩
           ·rw [if_neg XX] at H;have Q7:(Ob == 0)=false:=beq_eq_false_iff_ne.mpr XX;have P7:(Ob != 0)=true:=bne_iff_ne.mpr XX;obtain rfl:=Option.some.inj H;have fah:=Xa.out;have Uag:=Za.out;have m7:wc.cell? ⟨Ga,0,none⟩=some (.int .i64 Cc):=(ga ya.out 0).trans rfl;have l7:wc.cell? ⟨Ga,1,none⟩=some (.int .i64 Ob):=(ga ya.out 1).trans rfl;have k7:wc.cell? ⟨Ga,2,none⟩=some (.int .i64 Gb):=(ga ya.out 2).trans rfl;have j7:wc.cell? ⟨Ga,3,none⟩=some (.int .i64 Ib):=(ga ya.out 3).trans rfl;have g7:wc.cell? ⟨Ga,4,none⟩=some (.int .i64 fc):=(ga ya.out 4).trans rfl;have e7:wc.cell? ⟨Ga,5,none⟩=some (.int .i64 Vc):=(ga ya.out 5).trans rfl;have b7:wc.cell? ⟨Ga,6,none⟩=some (.string Jd):=(ga ya.out 6).trans rfl;have Q4:=aa ya.out 0;have P4:=aa ya.out 1;have O4:=aa ya.out 2;have N4:=aa ya.out 3;have M4:=aa ya.out 4;have L4:=aa ya.out 5;have K4:=aa ya.out 6;go_wp2;go_ret;exact ⟨by first|rfl|(simp [Ja,Ia] <;> rfl)|(simp [*,Ja,Ia] <;> rfl),by repeat (first|(with_reducible first|exact HB.out|apply oa|apply ja|apply qa|refine ua ?_ Ua.out|refine ua ?_ Cb.out)|exact HB.out)⟩
          ·rw [if_neg YX] at H;have T7:(Cc == 4)=false:=beq_eq_false_iff_ne.mpr YX;have R7:(Cc != 4)=true:=bne_iff_ne.mpr YX
           by_cases jH:Cc=5
           ·rw [if_pos jH] at H;have rY:(Cc == 5)=true:=beq_iff_eq.mpr jH;have qY:(Cc != 5)=false:=bne_eq_false_iff_eq.mpr jH;clear jH
            by_cases ET:t103=true
            ·subst ET;have H1:(if Gb=0 then (if Ib=0 then (some (Vc == 0)) else (some false)) else (some false))=some r:=by rw [if_pos rfl] at H;exact H
             clear H;have H:=H1;clear H1
             by_cases iH:Gb=0
             ·rw [if_pos iH] at H;have pY:(Gb == 0)=true:=beq_iff_eq.mpr iH;have oY:(Gb != 0)=false:=bne_eq_false_iff_eq.mpr iH;clear iH
              by_cases gH:Ib=0
              ·rw [if_pos gH] at H;have nY:(Ib == 0)=true:=beq_iff_eq.mpr gH;have mY:(Ib != 0)=false:=bne_eq_false_iff_eq.mpr gH;clear gH;obtain rfl:=Option.some.inj H;have eah:=Xa.out;have Sag:=Za.out;have Z6:wc.cell? ⟨Ga,0,none⟩=some (.int .i64 Cc):=(ga ya.out 0).trans rfl;have Y6:wc.cell? ⟨Ga,1,none⟩=some (.int .i64 Ob):=(ga ya.out 1).trans rfl;have X6:wc.cell? ⟨Ga,2,none⟩=some (.int .i64 Gb):=(ga ya.out 2).trans rfl;have V6:wc.cell? ⟨Ga,3,none⟩=some (.int .i64 Ib):=(ga ya.out 3).trans rfl;have U6:wc.cell? ⟨Ga,4,none⟩=some (.int .i64 fc):=(ga ya.out 4).trans rfl;have S6:wc.cell? ⟨Ga,5,none⟩=some (.int .i64 Vc):=(ga ya.out 5).trans rfl;have R6:wc.cell? ⟨Ga,6,none⟩=some (.string Jd):=(ga ya.out 6).trans rfl;have I4:=aa ya.out 0;have G4:=aa ya.out 1;have C4:=aa ya.out 2;have m4:=aa ya.out 3;have e4:=aa ya.out 4;have Z3:=aa ya.out 5;have Y3:=aa ya.out 6;go_wp2;go_ret;exact ⟨by first|rfl|(simp [Ja,Ia] <;> rfl)|(simp [*,Ja,Ia] <;> rfl),by repeat (first|(with_reducible first|exact HB.out|apply oa|apply ja|apply qa|refine ua ?_ Ua.out|refine ua ?_ Cb.out)|exact HB.out)⟩
              ·rw [if_neg gH] at H;have nY:(Ib == 0)=false:=beq_eq_false_iff_ne.mpr gH;have mY:(Ib != 0)=true:=bne_iff_ne.mpr gH;obtain rfl:=Option.some.inj H;have dah:=Xa.out;have Rag:=Za.out;have Q6:wc.cell? ⟨Ga,0,none⟩=some (.int .i64 Cc):=(ga ya.out 0).trans rfl;have P6:wc.cell? ⟨Ga,1,none⟩=some (.int .i64 Ob):=(ga ya.out 1).trans rfl;have O6:wc.cell? ⟨Ga,2,none⟩=some (.int .i64 Gb):=(ga ya.out 2).trans rfl;have N6:wc.cell? ⟨Ga,3,none⟩=some (.int .i64 Ib):=(ga ya.out 3).trans rfl;have M6:wc.cell? ⟨Ga,4,none⟩=some (.int .i64 fc):=(ga ya.out 4).trans rfl;have L6:wc.cell? ⟨Ga,5,none⟩=some (.int .i64 Vc):=(ga ya.out 5).trans rfl;have K6:wc.cell? ⟨Ga,6,none⟩=some (.string Jd):=(ga ya.out 6).trans rfl;have X3:=aa ya.out 0;have W3:=aa ya.out 1;have V3:=aa ya.out 2;have U3:=aa ya.out 3;have T3:=aa ya.out 4;have S3:=aa ya.out 5;have R3:=aa ya.out 6;go_wp2;go_ret;exact ⟨by first|rfl|(simp [Ja,Ia] <;> rfl)|(simp [*,Ja,Ia] <;> rfl),by repeat (first|(with_reducible first|exact HB.out|apply oa|apply ja|apply qa|refine ua ?_ Ua.out|refine ua ?_ Cb.out)|exact HB.out)⟩
             ·rw [if_neg iH] at H;have pY:(Gb == 0)=false:=beq_eq_false_iff_ne.mpr iH;have oY:(Gb != 0)=true:=bne_iff_ne.mpr iH;obtain rfl:=Option.some.inj H;have cah:=Xa.out;have Qag:=Za.out;have J6:wc.cell? ⟨Ga,0,none⟩=some (.int .i64 Cc):=(ga ya.out 0).trans rfl;have I6:wc.cell? ⟨Ga,1,none⟩=some (.int .i64 Ob):=(ga ya.out 1).trans rfl;have H6:wc.cell? ⟨Ga,2,none⟩=some (.int .i64 Gb):=(ga ya.out 2).trans rfl;have G6:wc.cell? ⟨Ga,3,none⟩=some (.int .i64 Ib):=(ga ya.out 3).trans rfl;have F6:wc.cell? ⟨Ga,4,none⟩=some (.int .i64 fc):=(ga ya.out 4).trans rfl;have E6:wc.cell? ⟨Ga,5,none⟩=some (.int .i64 Vc):=(ga ya.out 5).trans rfl;have D6:wc.cell? ⟨Ga,6,none⟩=some (.string Jd):=(ga ya.out 6).trans rfl;have Q3:=aa ya.out 0;have P3:=aa ya.out 1;have O3:=aa ya.out 2;have N3:=aa ya.out 3;have L3:=aa ya.out 4;have K3:=aa ya.out 5;have J3:=aa ya.out 6;go_wp2;go_ret;exact ⟨by first|rfl|(simp [Ja,Ia] <;> rfl)|(simp [*,Ja,Ia] <;> rfl),by repeat (first|(with_reducible first|exact HB.out|apply oa|apply ja|apply qa|refine ua ?_ Ua.out|refine ua ?_ Cb.out)|exact HB.out)⟩
            ·replace ET:=Bool.eq_false_iff.mpr ET;subst ET;have H1:(some false)=some r:=by rw [if_neg (show ¬ (false=true) by decide)] at H;exact H
             clear H;have H:=H1;clear H1;obtain rfl:=Option.some.inj H;have bah:=Xa.out;have Pag:=Za.out;have C6:wc.cell? ⟨Ga,0,none⟩=some (.int .i64 Cc):=(ga ya.out 0).trans rfl;have n6:wc.cell? ⟨Ga,1,none⟩=some (.int .i64 Ob):=(ga ya.out 1).trans rfl;have m6:wc.cell? ⟨Ga,2,none⟩=some (.int .i64 Gb):=(ga ya.out 2).trans rfl;have l6:wc.cell? ⟨Ga,3,none⟩=some (.int .i64 Ib):=(ga ya.out 3).trans rfl;have k6:wc.cell? ⟨Ga,4,none⟩=some (.int .i64 fc):=(ga ya.out 4).trans rfl;have j6:wc.cell? ⟨Ga,5,none⟩=some (.int .i64 Vc):=(ga ya.out 5).trans rfl;have g6:wc.cell? ⟨Ga,6,none⟩=some (.string Jd):=(ga ya.out 6).trans rfl;have I3:=aa ya.out 0;have G3:=aa ya.out 1;have F3:=aa ya.out 2;have E3:=aa ya.out 3;have D3:=aa ya.out 4;have C3:=aa ya.out 5;have B3:=aa ya.out 6;go_wp2;go_ret;exact ⟨by first|rfl|(simp [Ja,Ia] <;> rfl)|(simp [*,Ja,Ia] <;> rfl),by repeat (first|(with_reducible first|exact HB.out|apply oa|apply ja|apply qa|refine ua ?_ Ua.out|refine ua ?_ Cb.out)|exact HB.out)⟩
           ·rw [if_neg jH] at H;have rY:(Cc == 5)=false:=beq_eq_false_iff_ne.mpr jH;have qY:(Cc != 5)=true:=bne_iff_ne.mpr jH
            by_cases eH:Cc=6
            ·rw [if_pos eH] at H;have kY:(Cc == 6)=true:=beq_iff_eq.mpr eH;have jY:(Cc != 6)=false:=bne_eq_false_iff_eq.mpr eH;clear eH
             by_cases dH:Ob=0
             ·rw [if_pos dH] at H;have iY:(Ob == 0)=true:=beq_iff_eq.mpr dH;have hY:(Ob != 0)=false:=bne_eq_false_iff_eq.mpr dH;clear dH
              by_cases DT:t104=true
              ·subst DT;have H1:(if Ib=0 then (some (Vc == 0)) else (some false))=some r:=by rw [if_pos rfl] at H;exact H
               clear H;have H:=H1;clear H1
               by_cases cH:Ib=0
               ·rw [if_pos cH] at H;have gY:(Ib == 0)=true:=beq_iff_eq.mpr cH;have fY:(Ib != 0)=false:=bne_eq_false_iff_eq.mpr cH;clear cH;obtain rfl:=Option.some.inj H;have aah:=Xa.out;have Oag:=Za.out;have Y5:wc.cell? ⟨Ga,0,none⟩=some (.int .i64 Cc):=(ga ya.out 0).trans rfl;have X5:wc.cell? ⟨Ga,1,none⟩=some (.int .i64 Ob):=(ga ya.out 1).trans rfl;have W5:wc.cell? ⟨Ga,2,none⟩=some (.int .i64 Gb):=(ga ya.out 2).trans rfl;have V5:wc.cell? ⟨Ga,3,none⟩=some (.int .i64 Ib):=(ga ya.out 3).trans rfl;have U5:wc.cell? ⟨Ga,4,none⟩=some (.int .i64 fc):=(ga ya.out 4).trans rfl;have T5:wc.cell? ⟨Ga,5,none⟩=some (.int .i64 Vc):=(ga ya.out 5).trans rfl;have S5:wc.cell? ⟨Ga,6,none⟩=some (.string Jd):=(ga ya.out 6).trans rfl;have n3:=aa ya.out 0;have j3:=aa ya.out 1;have Z2:=aa ya.out 2;have Y2:=aa ya.out 3;have X2:=aa ya.out 4;have V2:=aa ya.out 5;have U2:=aa ya.out 6;go_wp2;go_ret;exact ⟨by first|rfl|(simp [Ja,Ia] <;> rfl)|(simp [*,Ja,Ia] <;> rfl),by repeat (first|(with_reducible first|exact HB.out|apply oa|apply ja|apply qa|refine ua ?_ Ua.out|refine ua ?_ Cb.out)|exact HB.out)⟩
               ·rw [if_neg cH] at H;have gY:(Ib == 0)=false:=beq_eq_false_iff_ne.mpr cH;have fY:(Ib != 0)=true:=bne_iff_ne.mpr cH;obtain rfl:=Option.some.inj H;have Zag:=Xa.out;have Nag:=Za.out;have R5:wc.cell? ⟨Ga,0,none⟩=some (.int .i64 Cc):=(ga ya.out 0).trans rfl;have Q5:wc.cell? ⟨Ga,1,none⟩=some (.int .i64 Ob):=(ga ya.out 1).trans rfl;have P5:wc.cell? ⟨Ga,2,none⟩=some (.int .i64 Gb):=(ga ya.out 2).trans rfl;have O5:wc.cell? ⟨Ga,3,none⟩=some (.int .i64 Ib):=(ga ya.out 3).trans rfl;have N5:wc.cell? ⟨Ga,4,none⟩=some (.int .i64 fc):=(ga ya.out 4).trans rfl;have M5:wc.cell? ⟨Ga,5,none⟩=some (.int .i64 Vc):=(ga ya.out 5).trans rfl;have L5:wc.cell? ⟨Ga,6,none⟩=some (.string Jd):=(ga ya.out 6).trans rfl;have T2:=aa ya.out 0;have R2:=aa ya.out 1;have Q2:=aa ya.out 2;have P2:=aa ya.out 3;have O2:=aa ya.out 4;have N2:=aa ya.out 5;have L2:=aa ya.out 6;go_wp2;go_ret;exact ⟨by first|rfl|(simp [Ja,Ia] <;> rfl)|(simp [*,Ja,Ia] <;> rfl),by repeat (first|(with_reducible first|exact HB.out|apply oa|apply ja|apply qa|refine ua ?_ Ua.out|refine ua ?_ Cb.out)|exact HB.out)⟩
              ·replace DT:=Bool.eq_false_iff.mpr DT;subst DT;have H1:(some false)=some r:=by rw [if_neg (show ¬ (false=true) by decide)] at H;exact H
               clear H;have H:=H1;clear H1;obtain rfl:=Option.some.inj H;have Yag:=Xa.out;have Mag:=Za.out;have K5:wc.cell? ⟨Ga,0,none⟩=some (.int .i64 Cc):=(ga ya.out 0).trans rfl;have J5:wc.cell? ⟨Ga,1,none⟩=some (.int .i64 Ob):=(ga ya.out 1).trans rfl;have I5:wc.cell? ⟨Ga,2,none⟩=some (.int .i64 Gb):=(ga ya.out 2).trans rfl;have G5:wc.cell? ⟨Ga,3,none⟩=some (.int .i64 Ib):=(ga ya.out 3).trans rfl;have F5:wc.cell? ⟨Ga,4,none⟩=some (.int .i64 fc):=(ga ya.out 4).trans rfl;have E5:wc.cell? ⟨Ga,5,none⟩=some (.int .i64 Vc):=(ga ya.out 5).trans rfl;have D5:wc.cell? ⟨Ga,6,none⟩=some (.string Jd):=(ga ya.out 6).trans rfl;have K2:=aa ya.out 0;have J2:=aa ya.out 1;have I2:=aa ya.out 2;have G2:=aa ya.out 3;have F2:=aa ya.out 4;have E2:=aa ya.out 5;have D2:=aa ya.out 6;go_wp2;go_ret;exact ⟨by first|rfl|(simp [Ja,Ia] <;> rfl)|(simp [*,Ja,Ia] <;> rfl),by repeat (first|(with_reducible first|exact HB.out|apply oa|apply ja|apply qa|refine ua ?_ Ua.out|refine ua ?_ Cb.out)|exact HB.out)⟩
             ·rw [if_neg dH] at H;have iY:(Ob == 0)=false:=beq_eq_false_iff_ne.mpr dH;have hY:(Ob != 0)=true:=bne_iff_ne.mpr dH;obtain rfl:=Option.some.inj H;have Xag:=Xa.out;have Lag:=Za.out;have C5:wc.cell? ⟨Ga,0,none⟩=some (.int .i64 Cc):=(ga ya.out 0).trans rfl;have B5:wc.cell? ⟨Ga,1,none⟩=some (.int .i64 Ob):=(ga ya.out 1).trans rfl;have u5:wc.cell? ⟨Ga,2,none⟩=some (.int .i64 Gb):=(ga ya.out 2).trans rfl;have n5:wc.cell? ⟨Ga,3,none⟩=some (.int .i64 Ib):=(ga ya.out 3).trans rfl;have m5:wc.cell? ⟨Ga,4,none⟩=some (.int .i64 fc):=(ga ya.out 4).trans rfl;have k5:wc.cell? ⟨Ga,5,none⟩=some (.int .i64 Vc):=(ga ya.out 5).trans rfl;have j5:wc.cell? ⟨Ga,6,none⟩=some (.string Jd):=(ga ya.out 6).trans rfl;have C2:=aa ya.out 0;have B2:=aa ya.out 1;have Z1:=aa ya.out 2;have Y1:=aa ya.out 3;have X1:=aa ya.out 4;have V1:=aa ya.out 5;have U1:=aa ya.out 6;go_wp2;go_ret;exact ⟨by first|rfl|(simp [Ja,Ia] <;> rfl)|(simp [*,Ja,Ia] <;> rfl),by repeat (first|(with_reducible first|exact HB.out|apply oa|apply ja|apply qa|refine ua ?_ Ua.out|refine ua ?_ Cb.out)|exact HB.out)⟩
            ·rw [if_neg eH] at H;have kY:(Cc == 6)=false:=beq_eq_false_iff_ne.mpr eH;have jY:(Cc != 6)=true:=bne_iff_ne.mpr eH;obtain rfl:=Option.some.inj H;have Wag:=Xa.out;have Kag:=Za.out;have e5:wc.cell? ⟨Ga,0,none⟩=some (.int .i64 Cc):=(ga ya.out 0).trans rfl;have b5:wc.cell? ⟨Ga,1,none⟩=some (.int .i64 Ob):=(ga ya.out 1).trans rfl;have Z4:wc.cell? ⟨Ga,2,none⟩=some (.int .i64 Gb):=(ga ya.out 2).trans rfl;have Y4:wc.cell? ⟨Ga,3,none⟩=some (.int .i64 Ib):=(ga ya.out 3).trans rfl;have X4:wc.cell? ⟨Ga,4,none⟩=some (.int .i64 fc):=(ga ya.out 4).trans rfl;have W4:wc.cell? ⟨Ga,5,none⟩=some (.int .i64 Vc):=(ga ya.out 5).trans rfl;have V4:wc.cell? ⟨Ga,6,none⟩=some (.string Jd):=(ga ya.out 6).trans rfl;have T1:=aa ya.out 0;have S1:=aa ya.out 1;have R1:=aa ya.out 2;have Q1:=aa ya.out 3;have P1:=aa ya.out 4;have O1:=aa ya.out 5;have N1:=aa ya.out 6;go_wp2;go_ret;exact ⟨by first|rfl|(simp [Ja,Ia] <;> rfl)|(simp [*,Ja,Ia] <;> rfl),by repeat (first|(with_reducible first|exact HB.out|apply oa|apply ja|apply qa|refine ua ?_ Ua.out|refine ua ?_ Cb.out)|exact HB.out)⟩
end Go.Proofs.Ytmifdccaajngcaa.P
