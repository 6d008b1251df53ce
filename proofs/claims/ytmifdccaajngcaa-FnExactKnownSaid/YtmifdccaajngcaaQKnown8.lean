import Derived.Test.YtmifdccaajngcaaQKnown1
import Derived.Test.YtmifdccaajngcaaQKnown7
namespace Go.Proofs.Ytmifdccaajngcaa.P
open Go.RowKit Go.Proofs.Na.mc Go.Proofs.Na.jf Go.Proofs.Na.xg
attribute [local go_sem] Hj Fj Rk Qk Li Ki Gj Ej
set_option linter.unusedVariables false
set_option linter.unusedSimpArgs false
mutual
def Ya.j0:Nat→Bool→Bool→Bool→Bool→List Int→Int→Int→Int→List (gh)→Int→Int→Int→Int→Int→Int→ByteArray→Option (Bool)
 | 0,_,_,_,_,_,_,_,_,_,_,_,_,_,_,_,_=>none
 | k + 1,x5,x6,x7,x8,x102000,ke,x102002,x102003,x102004,x103000,x103001,x103002,x103003,x103004,x103005,x103006=>if x103000=2 then (if x103000=4 then (Ya.j1 k x5 x6 x7 x8 false x102000 ke x102002 x102003 x102004 x103000 x103001 x103002 x103003 x103004 x103005 x103006) else (Ya.j1 k x5 x6 x7 x8 (x103004 != 0) x102000 ke x102002 x102003 x102004 x103000 x103001 x103002 x103003 x103004 x103005 x103006)) else (if x103006.toList=([]:List UInt8) then (if x103000=4 then (Ya.j1 k x5 x6 x7 x8 false x102000 ke x102002 x102003 x102004 x103000 x103001 x103002 x103003 x103004 x103005 x103006) else (Ya.j1 k x5 x6 x7 x8 (x103004 != 0) x102000 ke x102002 x102003 x102004 x103000 x103001 x103002 x103003 x103004 x103005 x103006)) else (Ya.j1 k x5 x6 x7 x8 true x102000 ke x102002 x102003 x102004 x103000 x103001 x103002 x103003 x103004 x103005 x103006))
def Ya.j1:Nat→Bool→Bool→Bool→Bool→Bool→List Int→Int→Int→Int→List (gh)→Int→Int→Int→Int→Int→Int→ByteArray→Option (Bool)
 | 0,_,_,_,_,_,_,_,_,_,_,_,_,_,_,_,_,_=>none
 | k + 1,x5,x6,x7,x8,x62,x102000,ke,x102002,x102003,x102004,x103000,x103001,x103002,x103003,x103004,x103005,x103006=>if x62=true then (some false) else (if x103000=0 then (if x5=true then (if x103002=0 then (some (x103003 == 0)) else (some false)) else (some false)) else (if x103000=1 then (if x5=true then (if x6=true then (if x103003=0 then (some (x103005 == 0)) else (some false)) else (some false)) else (some false)) else (if x103000=2 then (if x5=true then (if x6=true then (if x7=true then (if x103005=0 then ((Ad.f k (([(⟨#[61,61]⟩:ByteArray),(⟨#[60]⟩:ByteArray),(⟨#[38]⟩:ByteArray),(⟨#[43]⟩:ByteArray),(⟨#[45]⟩:ByteArray),(⟨#[42]⟩:ByteArray)]:List ByteArray)) x103006).bind fun t111=>(some t111)) else (some false)) else (some false)) else (some false)) else (some false)) else (if x103000=3 then (if x5=true then (some x8) else (some false)) else (if x103000=4 then (if x103001=0 then (if x8=true then ((Za.f x103004 0 (wrap64 (x102003 - 1))).bind fun t112=>(some t112)) else (some false)) else (some false)) else (if x103000=5 then (if x5=true then (if x103002=0 then (if x103003=0 then (some (x103005 == 0)) else (some false)) else (some false)) else (some false)) else (if x103000=6 then (if x103001=0 then (if x6=true then (if x103003=0 then (some (x103005 == 0)) else (some false)) else (some false)) else (some false)) else (some false))))))))
end
def Ya.f (k:Nat) (Ta:List Int) (Ma:Int) (Oa:Int) (Pa:Int) (Sa:List (gh)) (qc:Int) (Fb:Int) (Ob:Int) (Rb:Int) (Qc:Int) (Td:Int) (He:ByteArray):Option (Bool):=(Za.f Fb 0 (wrap64 (Pa - 1))).bind fun t103=>((Za.f Ob 0 (wrap64 (Pa - 1))).bind fun t104=>((Za.f Rb 0 (wrap64 (Pa - 1))).bind fun t105=>(if t104=true then (if t105=true then ((Za.f Td 0 (wrap64 ((Ta.length:Int) - 1))).bind fun t106=>(Ya.j0 k t103 t104 t105 t106 Ta Ma Oa Pa Sa qc Fb Ob Rb Qc Td He)) else (Ya.j0 k t103 t104 t105 false Ta Ma Oa Pa Sa qc Fb Ob Rb Qc Td He)) else (if Ob=(-1) then (if t105=true then ((Za.f Td 0 (wrap64 ((Ta.length:Int) - 1))).bind fun t107=>(Ya.j0 k t103 t104 t105 t107 Ta Ma Oa Pa Sa qc Fb Ob Rb Qc Td He)) else (Ya.j0 k t103 t104 t105 false Ta Ma Oa Pa Sa qc Fb Ob Rb Qc Td He)) else (Ya.j0 k t103 t104 t105 false Ta Ma Oa Pa Sa qc Fb Ob Rb Qc Td He)))))
theorem Ya.Sd:∀ k,(∀ y0 y1 y2 y3 y4 y5 y6 y7 y8 y9 dJ DS CS BS zS yS,Lb (Ya.j0 k y0 y1 y2 y3 y4 y5 y6 y7 y8 y9 dJ DS CS BS zS yS) (Ya.j0 (k + 1) y0 y1 y2 y3 y4 y5 y6 y7 y8 y9 dJ DS CS BS zS yS))∧(∀ y0 y1 y2 y3 y4 y5 y6 y7 y8 y9 dJ DS CS BS zS yS y16,Lb (Ya.j1 k y0 y1 y2 y3 y4 y5 y6 y7 y8 y9 dJ DS CS BS zS yS y16) (Ya.j1 (k + 1) y0 y1 y2 y3 y4 y5 y6 y7 y8 y9 dJ DS CS BS zS yS y16))
 | 0=>⟨fun _ _ _ _ _ _ _ _ _ _ _ _ _ _ _ _ r h=>by simp [Ya.j0] at h,fun _ _ _ _ _ _ _ _ _ _ _ _ _ _ _ _ _ r h=>by simp [Ya.j1] at h⟩
 | k + 1=>by
  obtain ⟨Ff,ih1⟩:=Ya.Sd k
  refine ⟨?_,?_⟩
  ·intro y0 y1 y2 y3 y4 y5 y6 y7 y8 y9 dJ DS CS BS zS yS
   unfold Ya.j0
   repeat' first
   | (with_reducible exact Ff _ _ _ _ _ _ _ _ _ _ _ _ _ _ _ _)
   | (with_reducible exact ih1 _ _ _ _ _ _ _ _ _ _ _ _ _ _ _ _ _)
   | (with_reducible exact Ad.mono _ _ _)
   | (with_reducible exact Lb.refl _)
   | (with_reducible exact Lb.none _)
   | (with_reducible refine Lb.ite ?_ ?_)
   | (with_reducible refine Lb.bind ?_ (fun _=>?_))
   | exact Ff _ _ _ _ _ _ _ _ _ _ _ _ _ _ _ _
   | exact ih1 _ _ _ _ _ _ _ _ _ _ _ _ _ _ _ _ _
   | exact Ad.mono _ _ _
   | exact Lb.none _
   | refine Lb.ite ?_ ?_
   | refine Lb.bind ?_ (fun _=>?_)
  ·intro y0 y1 y2 y3 y4 y5 y6 y7 y8 y9 dJ DS CS BS zS yS y16
   unfold Ya.j1
   repeat' first
   | (with_reducible exact Ff _ _ _ _ _ _ _ _ _ _ _ _ _ _ _ _)
   | (with_reducible exact ih1 _ _ _ _ _ _ _ _ _ _ _ _ _ _ _ _ _)
   | (with_reducible exact Ad.mono _ _ _)
   | (with_reducible exact Lb.refl _)
   | (with_reducible exact Lb.none _)
   | (with_reducible refine Lb.ite ?_ ?_)
   | (with_reducible refine Lb.bind ?_ (fun _=>?_))
   | exact Ff _ _ _ _ _ _ _ _ _ _ _ _ _ _ _ _
   | exact ih1 _ _ _ _ _ _ _ _ _ _ _ _ _ _ _ _ _
   | exact Ad.mono _ _ _
   | exact Lb.none _
   | refine Lb.ite ?_ ?_
   | refine Lb.bind ?_ (fun _=>?_)
theorem Ya.mono:∀ a0 a1 a2 a3 a4 a5 a6 a7 a8 a9 a10 a11 k,Lb (Ya.f k a0 a1 a2 a3 a4 a5 a6 a7 a8 a9 a10 a11) (Ya.f (k + 1) a0 a1 a2 a3 a4 a5 a6 a7 a8 a9 a10 a11):=by
 intro a0 a1 a2 a3 a4 a5 a6 a7 a8 a9 a10 a11 k
 obtain ⟨Ff,ih1⟩:=Ya.Sd k
 unfold Ya.f
 repeat' first
   | (with_reducible exact Ff _ _ _ _ _ _ _ _ _ _ _ _ _ _ _ _)
   | (with_reducible exact ih1 _ _ _ _ _ _ _ _ _ _ _ _ _ _ _ _ _)
   | (with_reducible exact Ad.mono _ _ _)
   | (with_reducible exact Lb.refl _)
   | (with_reducible exact Lb.none _)
   | (with_reducible refine Lb.ite ?_ ?_)
   | (with_reducible refine Lb.bind ?_ (fun _=>?_))
   | exact Ff _ _ _ _ _ _ _ _ _ _ _ _ _ _ _ _
   | exact ih1 _ _ _ _ _ _ _ _ _ _ _ _ _ _ _ _ _
   | exact Ad.mono _ _ _
   | exact Lb.none _
   | refine Lb.ite ?_ ?_
   | refine Lb.bind ?_ (fun _=>?_)
set_option maxHeartbeats 8000000 in
set_option maxRecDepth 100000 in
theorem Ya.calls (k:Nat) (Cb:Option Addr) (Bb:Nat) (Ta:List Int) (Ma:Int) (Oa:Int) (Pa:Int) (yc:Option Addr) (Xb:Nat) (Sa:List (gh)) (qc:Int) (Fb:Int) (Ob:Int) (Rb:Int) (Qc:Int) (Td:Int) (He:ByteArray) (r:Bool) (w:World) (Rf:Kd.C (Kd.int .i64) w Cb Ta.length Ta) (Pf:Ta.length ≤ Bb) (Bg:Kd.C Wo w yc Sa.length Sa) (Eg:Sa.length ≤ Xb) (h:Ya.f k Ta Ma Oa Pa Sa qc Fb Ob Rb Qc Td He=some r) :
  Calls Try.prog 111 #[.agg #[.slice Cb Ta.length Bb,.int .i64 Ma,.int .i64 Oa,.int .i64 Pa,.slice yc Sa.length Xb],.agg #[.int .i64 qc,.int .i64 Fb,.int .i64 Ob,.int .i64 Rb,.int .i64 Qc,.int .i64 Td,.string He]] w fun e w'=>e = .returned (.bool r)∧Below w.heap.size w w':=by
 have ZB:=Try.underlying30
 have YB:=Try.underlying70
 have ig:=ja.mk Rf
 have mg:=ja.mk Pf
 clear Rf Pf
 have oh:=ja.mk Bg
 have qj:=ja.mk Eg
 clear Bg Eg
 have HB:=ja.mk (Below.refl w.heap.size w)
 have H:((Za.f Fb 0 (wrap64 (Pa - 1))).bind fun t103=>((Za.f Ob 0 (wrap64 (Pa - 1))).bind fun t104=>((Za.f Rb 0 (wrap64 (Pa - 1))).bind fun t105=>(if t104=true then (if t105=true then ((Za.f Td 0 (wrap64 ((Ta.length:Int) - 1))).bind fun t106=>(Ya.j0 k t103 t104 t105 t106 Ta Ma Oa Pa Sa qc Fb Ob Rb Qc Td He)) else (Ya.j0 k t103 t104 t105 false Ta Ma Oa Pa Sa qc Fb Ob Rb Qc Td He)) else (if Ob=(-1) then (if t105=true then ((Za.f Td 0 (wrap64 ((Ta.length:Int) - 1))).bind fun t107=>(Ya.j0 k t103 t104 t105 t107 Ta Ma Oa Pa Sa qc Fb Ob Rb Qc Td He)) else (Ya.j0 k t103 t104 t105 false Ta Ma Oa Pa Sa qc Fb Ob Rb Qc Td He)) else (Ya.j0 k t103 t104 t105 false Ta Ma Oa Pa Sa qc Fb Ob Rb Qc Td He))))))=some r:=h
 clear h
 replace H:=Option.bind_eq_some_iff.mp H
 obtain ⟨t103,Pv,H⟩:=H
 replace H:((Za.f Ob 0 (wrap64 (Pa - 1))).bind fun t104=>((Za.f Rb 0 (wrap64 (Pa - 1))).bind fun t105=>(if t104=true then (if t105=true then ((Za.f Td 0 (wrap64 ((Ta.length:Int) - 1))).bind fun t106=>(Ya.j0 k t103 t104 t105 t106 Ta Ma Oa Pa Sa qc Fb Ob Rb Qc Td He)) else (Ya.j0 k t103 t104 t105 false Ta Ma Oa Pa Sa qc Fb Ob Rb Qc Td He)) else (if Ob=(-1) then (if t105=true then ((Za.f Td 0 (wrap64 ((Ta.length:Int) - 1))).bind fun t107=>(Ya.j0 k t103 t104 t105 t107 Ta Ma Oa Pa Sa qc Fb Ob Rb Qc Td He)) else (Ya.j0 k t103 t104 t105 false Ta Ma Oa Pa Sa qc Fb Ob Rb Qc Td He)) else (Ya.j0 k t103 t104 t105 false Ta Ma Oa Pa Sa qc Fb Ob Rb Qc Td He)))))=some r:=H
 have A3:=ja.mk Pv
 clear Pv
 replace H:=Option.bind_eq_some_iff.mp H
 obtain ⟨t104,Q6,H⟩:=H
 replace H:((Za.f Rb 0 (wrap64 (Pa - 1))).bind fun t105=>(if t104=true then (if t105=true then ((Za.f Td 0 (wrap64 ((Ta.length:Int) - 1))).bind fun t106=>(Ya.j0 k t103 t104 t105 t106 Ta Ma Oa Pa Sa qc Fb Ob Rb Qc Td He)) else (Ya.j0 k t103 t104 t105 false Ta Ma Oa Pa Sa qc Fb Ob Rb Qc Td He)) else (if Ob=(-1) then (if t105=true then ((Za.f Td 0 (wrap64 ((Ta.length:Int) - 1))).bind fun t107=>(Ya.j0 k t103 t104 t105 t107 Ta Ma Oa Pa Sa qc Fb Ob Rb Qc Td He)) else (Ya.j0 k t103 t104 t105 false Ta Ma Oa Pa Sa qc Fb Ob Rb Qc Td He)) else (Ya.j0 k t103 t104 t105 false Ta Ma Oa Pa Sa qc Fb Ob Rb Qc Td He))))=some r:=H
 have A4:=ja.mk Q6
 clear Q6
 replace H:=Option.bind_eq_some_iff.mp H
 obtain ⟨t105,xS,H⟩:=H
 replace H:(if t104=true then (if t105=true then ((Za.f Td 0 (wrap64 ((Ta.length:Int) - 1))).bind fun t106=>(Ya.j0 k t103 t104 t105 t106 Ta Ma Oa Pa Sa qc Fb Ob Rb Qc Td He)) else (Ya.j0 k t103 t104 t105 false Ta Ma Oa Pa Sa qc Fb Ob Rb Qc Td He)) else (if Ob=(-1) then (if t105=true then ((Za.f Td 0 (wrap64 ((Ta.length:Int) - 1))).bind fun t107=>(Ya.j0 k t103 t104 t105 t107 Ta Ma Oa Pa Sa qc Fb Ob Rb Qc Td He)) else (Ya.j0 k t103 t104 t105 false Ta Ma Oa Pa Sa qc Fb Ob Rb Qc Td He)) else (Ya.j0 k t103 t104 t105 false Ta Ma Oa Pa Sa qc Fb Ob Rb Qc Td He)))=some r:=H
 have A5:=ja.mk xS
 clear xS
 have HC6:=ja.mk H
 clear H
 go_enter Try.func111,Try.ntmps111
 go_upto_region 4 with (first|((with_reducible refine Kb (N:=2) rfl ?_);(try (refine Ch (by rfl) ?_;dsimp only));refine Eb ?hg (N:=2) ?hd (cs:=#[.slice Cb Ta.length Bb,.int .i64 Ma,.int .i64 Oa,.int .i64 Pa,.slice yc Sa.length Xb]) (t:=30) ?hr ?_;(case hd=>rfl);(case hg=>rfl);(case hr=>first|(go_simp;done)|(go_simp;rfl));intro Ea hg w7 Tb hb;have Gb:=ja.mk (Qa (by repeat (first|(with_reducible first|exact HB.out|apply qa|apply ia|apply ua)|exact HB.out)) hb);have Vb:=ja.mk (Tb);have Ac:=ja.mk ((by rw [hg];exact (Ra (by repeat (first|(with_reducible first|exact HB.out|apply qa|apply ia|apply ua)|exact HB.out))):w.heap.size ≤ Ea));have ud:=ja.mk ((by rw [hg];exact (Ra (by repeat (first|(with_reducible first|exact HB.out|apply qa|apply ia|apply ua)|exact HB.out))):w.heap.size ≤ Ea));clear HB;have HB:=Gb;have za:=Vb;have Be:=Ac;have Wa:=ud;clear Gb Vb Ac ud;clear hb Tb hg)|((with_reducible refine Kb (N:=3) rfl ?_);(try (refine Ch (by rfl) ?_;dsimp only));refine Eb ?hg (N:=3) ?hd (cs:=#[.int .i64 qc,.int .i64 Fb,.int .i64 Ob,.int .i64 Rb,.int .i64 Qc,.int .i64 Td,.string He]) (t:=70) ?hr ?_;(case hd=>rfl);(case hg=>rfl);(case hr=>first|(go_simp;done)|(go_simp;rfl));intro Fa hg w8 Tb hb;have Gb:=ja.mk (gb (g:=Ea) (o:=.cells #[.slice Cb Ta.length Bb,.int .i64 Ma,.int .i64 Oa,.int .i64 Pa,.slice yc Sa.length Xb] 30 (0,0)) (by (with_reducible repeat (first|refine Da ?_ _|refine Ga ?_|refine Ca ?_ _));exact za.out) hb);have Vb:=ja.mk (Qa (by repeat (first|(with_reducible first|exact HB.out|apply qa|apply ia|apply ua|refine Aa ?_ Wa.out)|exact HB.out)) hb);have Ac:=ja.mk (Tb);have ud:=ja.mk ((by rw [hg];exact (Ra (by repeat (first|(with_reducible first|exact HB.out|apply qa|apply ia|apply ua|refine Aa ?_ Wa.out)|exact HB.out))):w.heap.size ≤ Fa));have ef:=ja.mk ((by rw [hg];exact (Ra (by repeat (first|(with_reducible first|exact HB.out|apply qa|apply ia|apply ua|refine Aa ?_ Wa.out)|exact HB.out))):w.heap.size ≤ Fa));have Ag:=ja.mk ((by rw [hg];exact Nat.ne_of_lt (Lc (g:=Ea) (o:=.cells #[.slice Cb Ta.length Bb,.int .i64 Ma,.int .i64 Oa,.int .i64 Pa,.slice yc Sa.length Xb] 30 (0,0)) (by (with_reducible repeat (first|refine Da ?_ _|refine Ga ?_|refine Ca ?_ _));exact za.out)):Ea ≠ Fa));have dh:=ja.mk ((by rw [hg];exact Nat.ne_of_gt (Lc (g:=Ea) (o:=.cells #[.slice Cb Ta.length Bb,.int .i64 Ma,.int .i64 Oa,.int .i64 Pa,.slice yc Sa.length Xb] 30 (0,0)) (by (with_reducible repeat (first|refine Da ?_ _|refine Ga ?_|refine Ca ?_ _));exact za.out)):Fa ≠ Ea));clear za;clear HB;have za:=Gb;have HB:=Vb;have Ba:=Ac;have Df:=ud;have Sb:=ef;have Ua:=Ag;have jb:=dh;clear Gb Vb Ac ud ef Ag dh;clear hb Tb hg;have RW:=jb.out;have wW:=Ua.out;have Fk:w8.cell? ⟨Fa,0,none⟩=some (.int .i64 qc):=(ga Ba.out 0).trans rfl;have Ek:w8.cell? ⟨Fa,1,none⟩=some (.int .i64 Fb):=(ga Ba.out 1).trans rfl;have Dk:w8.cell? ⟨Fa,2,none⟩=some (.int .i64 Ob):=(ga Ba.out 2).trans rfl;have Ck:w8.cell? ⟨Fa,3,none⟩=some (.int .i64 Rb):=(ga Ba.out 3).trans rfl;have Bk:w8.cell? ⟨Fa,4,none⟩=some (.int .i64 Qc):=(ga Ba.out 4).trans rfl;have fB:w8.cell? ⟨Fa,5,none⟩=some (.int .i64 Td):=(ga Ba.out 5).trans rfl;have eB:w8.cell? ⟨Fa,6,none⟩=some (.string He):=(ga Ba.out 6).trans rfl;have xk:=aa Ba.out 0;have wk:=aa Ba.out 1;have vk:=aa Ba.out 2;have uk:=aa Ba.out 3;have qk:=aa Ba.out 4;have CA:=aa Ba.out 5;have BA:=aa Ba.out 6;have El:w8.cell? ⟨Ea,0,none⟩=some (.slice Cb Ta.length Bb):=(ga za.out 0).trans rfl;have Dl:w8.cell? ⟨Ea,1,none⟩=some (.int .i64 Ma):=(ga za.out 1).trans rfl;have Bu:w8.cell? ⟨Ea,2,none⟩=some (.int .i64 Oa):=(ga za.out 2).trans rfl;have Au:w8.cell? ⟨Ea,3,none⟩=some (.int .i64 Pa):=(ga za.out 3).trans rfl;have zu:w8.cell? ⟨Ea,4,none⟩=some (.slice yc Sa.length Xb):=(ga za.out 4).trans rfl;have Cl:=aa za.out 0;have Bl:=aa za.out 1;have Zt:=aa za.out 2;have Yt:=aa za.out 3;have Xt:=aa za.out 4)|((with_reducible refine mb (f:=54) rfl ?_);refine yd (some 14) rfl rfl Try.func54 (by kernel_rfl) rfl #[.int .i64 Fb,.int .i64 0,.int .i64 (wrap64 (Pa - 1))] rfl (by (try simp only [List.map_toArray,List.map_cons,List.map_nil]);first|done|rfl|(simp only [List.length_drop,List.length_take];rfl)) ?_;(with_reducible refine (Za.calls Fb 0 (wrap64 (Pa - 1)) t103 _ A3.out).mono ?_);rintro e w' ⟨rfl,⟨nd,rfl⟩⟩;refine ⟨_,rfl,?_⟩)|((with_reducible refine mb (f:=54) rfl ?_);refine yd (some 20) rfl rfl Try.func54 (by kernel_rfl) rfl #[.int .i64 Ob,.int .i64 0,.int .i64 (wrap64 (Pa - 1))] rfl (by (try simp only [List.map_toArray,List.map_cons,List.map_nil]);first|done|rfl|(simp only [List.length_drop,List.length_take];rfl)) ?_;(with_reducible refine (Za.calls Ob 0 (wrap64 (Pa - 1)) t104 _ A4.out).mono ?_);rintro e w' ⟨rfl,⟨nd,rfl⟩⟩;refine ⟨_,rfl,?_⟩)|((with_reducible refine mb (f:=54) rfl ?_);refine yd (some 26) rfl rfl Try.func54 (by kernel_rfl) rfl #[.int .i64 Rb,.int .i64 0,.int .i64 (wrap64 (Pa - 1))] rfl (by (try simp only [List.map_toArray,List.map_cons,List.map_nil]);first|done|rfl|(simp only [List.length_drop,List.length_take];rfl)) ?_;(with_reducible refine (Za.calls Rb 0 (wrap64 (Pa - 1)) t105 _ A5.out).mono ?_);rintro e w' ⟨rfl,⟨nd,rfl⟩⟩;refine ⟨_,rfl,?_⟩))
 (try simp only [Act.put,List.setIfInBounds_toArray,List.set_cons_zero,List.set_cons_succ])
 go_cut [8] (fun v8 wc=>∃ (kq:Nat) (EB:Bool),v8 = .bool EB∧ja (Ya.j0 kq t103 t104 t105 EB Ta Ma Oa Pa Sa qc Fb Ob Rb Qc Td He=some r)∧ja (kq ≤ k)∧ja (wc.heap[Ea]? = some (.cells #[(.slice Cb Ta.length Bb),.int .i64 Ma,.int .i64 Oa,.int .i64 Pa,(.slice yc Sa.length Xb)] 30 (0,0)))∧ja (wc.heap[Fa]? = some (.cells #[.int .i64 qc,.int .i64 Fb,.int .i64 Ob,.int .i64 Rb,.int .i64 Qc,.int .i64 Td,.string He] 70 (0,0)))∧ja (Below w.heap.size w wc))
 case first =>
  have H:=HC6.out
  clear HC6
  by_cases c12:t104=true
  ·subst c12
   have H1:(if t105=true then ((Za.f Td 0 (wrap64 ((Ta.length:Int) - 1))).bind fun t106=>(Ya.j0 k t103 true t105 t106 Ta Ma Oa Pa Sa qc Fb Ob Rb Qc Td He)) else (Ya.j0 k t103 true t105 false Ta Ma Oa Pa Sa qc Fb Ob Rb Qc Td He))=some r:=by rw [if_pos rfl] at H;exact H
   clear H
   have H:=H1
   clear H1
   by_cases c13:t105=true
   ·subst c13
    have H1:((Za.f Td 0 (wrap64 ((Ta.length:Int) - 1))).bind fun t106=>(Ya.j0 k t103 true true t106 Ta Ma Oa Pa Sa qc Fb Ob Rb Qc Td He))=some r:=by rw [if_pos rfl] at H;exact H
    clear H
    have H:=H1
    clear H1
    replace H:=Option.bind_eq_some_iff.mp H
    obtain ⟨t106,j7,H⟩:=H
    replace H:(Ya.j0 k t103 true true t106 Ta Ma Oa Pa Sa qc Fb Ob Rb Qc Td He)=some r:=H
    have A14:=ja.mk j7
    clear j7
    have H':=ja.mk H
    clear H
    have gX:=jb.out
    have OW:=Ua.out
    have sn:w8.cell? ⟨Fa,0,none⟩=some (.int .i64 qc):=(ga Ba.out 0).trans rfl
    have qn:w8.cell? ⟨Fa,1,none⟩=some (.int .i64 Fb):=(ga Ba.out 1).trans rfl
    have Ax:w8.cell? ⟨Fa,2,none⟩=some (.int .i64 Ob):=(ga Ba.out 2).trans rfl
    have zx:w8.cell? ⟨Fa,3,none⟩=some (.int .i64 Rb):=(ga Ba.out 3).trans rfl
    have yx:w8.cell? ⟨Fa,4,none⟩=some (.int .i64 Qc):=(ga Ba.out 4).trans rfl
    have dB:w8.cell? ⟨Fa,5,none⟩=some (.int .i64 Td):=(ga Ba.out 5).trans rfl
    have cB:w8.cell? ⟨Fa,6,none⟩=some (.string He):=(ga Ba.out 6).trans rfl
    have gn:=aa Ba.out 0
    have dn:=aa Ba.out 1
    have Jw:=aa Ba.out 2
    have Iw:=aa Ba.out 3
    have Hw:=aa Ba.out 4
    have AA:=aa Ba.out 5
    have zA:=aa Ba.out 6
    have Gr:w8.cell? ⟨Ea,0,none⟩=some (.slice Cb Ta.length Bb):=(ga za.out 0).trans rfl
    have Er:w8.cell? ⟨Ea,1,none⟩=some (.int .i64 Ma):=(ga za.out 1).trans rfl
    have yu:w8.cell? ⟨Ea,2,none⟩=some (.int .i64 Oa):=(ga za.out 2).trans rfl
    have xu:w8.cell? ⟨Ea,3,none⟩=some (.int .i64 Pa):=(ga za.out 3).trans rfl
    have wu:w8.cell? ⟨Ea,4,none⟩=some (.slice yc Sa.length Xb):=(ga za.out 4).trans rfl
    have er:=aa za.out 0
    have dr:=aa za.out 1
    have Wt:=aa za.out 2
    have Vt:=aa za.out 3
    have Ut:=aa za.out 4
    go_wp2_with (first|(go_at_call 54;(with_reducible refine (Za.calls Td 0 (wrap64 ((Ta.length:Int) - 1)) t106 _ A14.out).mono ?_);rintro e w' ⟨rfl,⟨nd,rfl⟩⟩))
    go_meet
    case rel=>exact ⟨_,(t106),(by first|rfl|(simp;done)|(simp [*];done)),H',⟨by first|omega|exact Nat.le_refl _⟩,⟨by (with_reducible repeat (first|refine Da ?_ _|refine Ga ?_|refine Ca ?_ _));exact za.out⟩,⟨by (with_reducible repeat (first|refine Da ?_ _|refine Ga ?_|refine Ca ?_ _));exact Ba.out⟩,⟨by repeat (first|(with_reducible first|exact HB.out|apply qa|apply ia|apply ua|refine Aa ?_ Wa.out|refine Aa ?_ Sb.out)|exact HB.out)⟩⟩
   ·replace c13:=Bool.eq_false_iff.mpr c13
    subst c13
    have H1:(Ya.j0 k t103 true false false Ta Ma Oa Pa Sa qc Fb Ob Rb Qc Td He)=some r:=by rw [if_neg (show ¬ (false=true) by decide)] at H;exact H
    clear H
    have H:=H1
    clear H1
    have H':=ja.mk H
    clear H
    go_wp2
    go_meet
    case rel=>exact ⟨_,(false),(by first|rfl|(simp;done)|(simp [*];done)),H',⟨by first|omega|exact Nat.le_refl _⟩,⟨by (with_reducible repeat (first|refine Da ?_ _|refine Ga ?_|refine Ca ?_ _));exact za.out⟩,⟨by (with_reducible repeat (first|refine Da ?_ _|refine Ga ?_|refine Ca ?_ _));exact Ba.out⟩,⟨by repeat (first|(with_reducible first|exact HB.out|apply qa|apply ia|apply ua|refine Aa ?_ Wa.out|refine Aa ?_ Sb.out)|exact HB.out)⟩⟩
  ·replace c12:=Bool.eq_false_iff.mpr c12
   subst c12
   have H1:(if Ob=(-1) then (if t105=true then ((Za.f Td 0 (wrap64 ((Ta.length:Int) - 1))).bind fun t107=>(Ya.j0 k t103 false t105 t107 Ta Ma Oa Pa Sa qc Fb Ob Rb Qc Td He)) else (Ya.j0 k t103 false t105 false Ta Ma Oa Pa Sa qc Fb Ob Rb Qc Td He)) else (Ya.j0 k t103 false t105 false Ta Ma Oa Pa Sa qc Fb Ob Rb Qc Td He))=some r:=by rw [if_neg (show ¬ (false=true) by decide)] at H;exact H
   clear H
   have H:=H1
   clear H1
   by_cases c18:Ob=(-1)
   ·rw [if_pos c18] at H
    have Ay:(Ob == (-1))=true:=beq_iff_eq.mpr c18
    have qL:(Ob != (-1))=false:=bne_eq_false_iff_eq.mpr c18
    clear c18
    (first|rw [Ay]|(simp only [Ib,Jb];rw [Ay])|skip)
    by_cases c19:t105=true
    ·subst c19
     have H1:((Za.f Td 0 (wrap64 ((Ta.length:Int) - 1))).bind fun t107=>(Ya.j0 k t103 false true t107 Ta Ma Oa Pa Sa qc Fb Ob Rb Qc Td He))=some r:=by rw [if_pos rfl] at H;exact H
     clear H
     have H:=H1
     clear H1
     replace H:=Option.bind_eq_some_iff.mp H
     obtain ⟨t107,W6,H⟩:=H
     replace H:(Ya.j0 k t103 false true t107 Ta Ma Oa Pa Sa qc Fb Ob Rb Qc Td He)=some r:=H
     have YL:=ja.mk W6
     clear W6
     have H':=ja.mk H
     clear H
     have Gaj:=jb.out
     have Tai:=Ua.out
     have vu:w8.cell? ⟨Fa,0,none⟩=some (.int .i64 qc):=(ga Ba.out 0).trans rfl
     have uu:w8.cell? ⟨Fa,1,none⟩=some (.int .i64 Fb):=(ga Ba.out 1).trans rfl
     have tu:w8.cell? ⟨Fa,2,none⟩=some (.int .i64 Ob):=(ga Ba.out 2).trans rfl
     have su:w8.cell? ⟨Fa,3,none⟩=some (.int .i64 Rb):=(ga Ba.out 3).trans rfl
     have ru:w8.cell? ⟨Fa,4,none⟩=some (.int .i64 Qc):=(ga Ba.out 4).trans rfl
     have BH:w8.cell? ⟨Fa,5,none⟩=some (.int .i64 Td):=(ga Ba.out 5).trans rfl
     have AH:w8.cell? ⟨Fa,6,none⟩=some (.string He):=(ga Ba.out 6).trans rfl
     have Tt:=aa Ba.out 0
     have St:=aa Ba.out 1
     have Rt:=aa Ba.out 2
     have Qt:=aa Ba.out 3
     have Pt:=aa Ba.out 4
     have lG:=aa Ba.out 5
     have kG:=aa Ba.out 6
     have Ak:w8.cell? ⟨Ea,0,none⟩=some (.slice Cb Ta.length Bb):=(ga za.out 0).trans rfl
     have zk:w8.cell? ⟨Ea,1,none⟩=some (.int .i64 Ma):=(ga za.out 1).trans rfl
     have oo:w8.cell? ⟨Ea,2,none⟩=some (.int .i64 Oa):=(ga za.out 2).trans rfl
     have mo:w8.cell? ⟨Ea,3,none⟩=some (.int .i64 Pa):=(ga za.out 3).trans rfl
     have ko:w8.cell? ⟨Ea,4,none⟩=some (.slice yc Sa.length Xb):=(ga za.out 4).trans rfl
     have nk:=aa za.out 0
     have jk:=aa za.out 1
     have Zn:=aa za.out 2
     have Yn:=aa za.out 3
     have Xn:=aa za.out 4
     go_wp2_with (first|(go_at_call 54;(with_reducible refine (Za.calls Td 0 (wrap64 ((Ta.length:Int) - 1)) t107 _ YL.out).mono ?_);rintro e w' ⟨rfl,⟨nd,rfl⟩⟩))
     go_meet
     case rel=>exact ⟨_,(t107),(by first|rfl|(simp;done)|(simp [*];done)),H',⟨by first|omega|exact Nat.le_refl _⟩,⟨by (with_reducible repeat (first|refine Da ?_ _|refine Ga ?_|refine Ca ?_ _));exact za.out⟩,⟨by (with_reducible repeat (first|refine Da ?_ _|refine Ga ?_|refine Ca ?_ _));exact Ba.out⟩,⟨by repeat (first|(with_reducible first|exact HB.out|apply qa|apply ia|apply ua|refine Aa ?_ Wa.out|refine Aa ?_ Sb.out)|exact HB.out)⟩⟩
    ·replace c19:=Bool.eq_false_iff.mpr c19
     subst c19
     have H1:(Ya.j0 k t103 false false false Ta Ma Oa Pa Sa qc Fb Ob Rb Qc Td He)=some r:=by rw [if_neg (show ¬ (false=true) by decide)] at H;exact H
     clear H
     have H:=H1
     clear H1
     have H':=ja.mk H
     clear H
     have eX:=jb.out
     have MW:=Ua.out
     have ur:w8.cell? ⟨Fa,0,none⟩=some (.int .i64 qc):=(ga Ba.out 0).trans rfl
     have tr:w8.cell? ⟨Fa,1,none⟩=some (.int .i64 Fb):=(ga Ba.out 1).trans rfl
     have sr:w8.cell? ⟨Fa,2,none⟩=some (.int .i64 Ob):=(ga Ba.out 2).trans rfl
     have nr:w8.cell? ⟨Fa,3,none⟩=some (.int .i64 Rb):=(ga Ba.out 3).trans rfl
     have kr:w8.cell? ⟨Fa,4,none⟩=some (.int .i64 Qc):=(ga Ba.out 4).trans rfl
     have zH:w8.cell? ⟨Fa,5,none⟩=some (.int .i64 Td):=(ga Ba.out 5).trans rfl
     have yH:w8.cell? ⟨Fa,6,none⟩=some (.string He):=(ga Ba.out 6).trans rfl
     have Wq:=aa Ba.out 0
     have Vq:=aa Ba.out 1
     have Uq:=aa Ba.out 2
     have Sq:=aa Ba.out 3
     have Rq:=aa Ba.out 4
     have jG:=aa Ba.out 5
     have iG:=aa Ba.out 6
     go_wp2
     go_meet
     case rel=>exact ⟨_,(false),(by first|rfl|(simp;done)|(simp [*];done)),H',⟨by first|omega|exact Nat.le_refl _⟩,⟨by (with_reducible repeat (first|refine Da ?_ _|refine Ga ?_|refine Ca ?_ _));exact za.out⟩,⟨by (with_reducible repeat (first|refine Da ?_ _|refine Ga ?_|refine Ca ?_ _));exact Ba.out⟩,⟨by repeat (first|(with_reducible first|exact HB.out|apply qa|apply ia|apply ua|refine Aa ?_ Wa.out|refine Aa ?_ Sb.out)|exact HB.out)⟩⟩
   ·rw [if_neg c18] at H
    have Ay:(Ob == (-1))=false:=beq_eq_false_iff_ne.mpr c18
    have qL:(Ob != (-1))=true:=bne_iff_ne.mpr c18
    (first|rw [Ay]|(simp only [Ib,Jb];rw [Ay])|skip)
    have H':=ja.mk H
    clear H
    have Faj:=jb.out
    have Sai:=Ua.out
    have sx:w8.cell? ⟨Fa,0,none⟩=some (.int .i64 qc):=(ga Ba.out 0).trans rfl
    have qx:w8.cell? ⟨Fa,1,none⟩=some (.int .i64 Fb):=(ga Ba.out 1).trans rfl
    have ox:w8.cell? ⟨Fa,2,none⟩=some (.int .i64 Ob):=(ga Ba.out 2).trans rfl
    have jx:w8.cell? ⟨Fa,3,none⟩=some (.int .i64 Rb):=(ga Ba.out 3).trans rfl
    have gx:w8.cell? ⟨Fa,4,none⟩=some (.int .i64 Qc):=(ga Ba.out 4).trans rfl
    have xH:w8.cell? ⟨Fa,5,none⟩=some (.int .i64 Td):=(ga Ba.out 5).trans rfl
    have wH:w8.cell? ⟨Fa,6,none⟩=some (.string He):=(ga Ba.out 6).trans rfl
    have Ew:=aa Ba.out 0
    have Dw:=aa Ba.out 1
    have Cw:=aa Ba.out 2
    have Bw:=aa Ba.out 3
    have Aw:=aa Ba.out 4
    have gG:=aa Ba.out 5
    have fG:=aa Ba.out 6
    go_wp2
    go_meet
    case rel=>exact ⟨_,(false),(by first|rfl|(simp;done)|(simp [*];done)),H',⟨by first|omega|exact Nat.le_refl _⟩,⟨by (with_reducible repeat (first|refine Da ?_ _|refine Ga ?_|refine Ca ?_ _));exact za.out⟩,⟨by (with_reducible repeat (first|refine Da ?_ _|refine Ga ?_|refine Ca ?_ _));exact Ba.out⟩,⟨by repeat (first|(with_reducible first|exact HB.out|apply qa|apply ia|apply ua|refine Aa ?_ Wa.out|refine Aa ?_ Sb.out)|exact HB.out)⟩⟩
 case rest =>
  clear HC6
  try clear c1
  try clear c2
  try clear p2
  try clear c5
  try clear p6
  try clear c9
  try clear c11
  try clear c12
  try clear c13
  try clear c15
  try clear c18
  try clear Ay
  try clear qL
  try clear c19
  try clear c21
  try clear c24
  try clear c26
  try clear Fk
  try clear Ek
  try clear Dk
  try clear Ck
  try clear Bk
  try clear fB
  try clear eB
  try clear El
  try clear Dl
  try clear Bu
  try clear Au
  try clear zu
  try clear sn
  try clear qn
  try clear Ax
  try clear zx
  try clear yx
  try clear dB
  try clear cB
  try clear Gr
  try clear Er
  try clear yu
  try clear xu
  try clear wu
  try clear vu
  try clear uu
  try clear tu
  try clear su
  try clear ru
  try clear BH
  try clear AH
  try clear Ak
  try clear zk
  try clear oo
  try clear mo
  try clear ko
  try clear ur
  try clear tr
  try clear sr
  try clear nr
  try clear kr
  try clear zH
  try clear yH
  try clear sx
  try clear qx
  try clear ox
  try clear jx
  try clear gx
  try clear xH
  try clear wH
  try clear xk
  try clear wk
  try clear vk
  try clear uk
  try clear qk
  try clear CA
  try clear BA
  try clear Cl
  try clear Bl
  try clear Zt
  try clear Yt
  try clear Xt
  try clear gn
  try clear dn
  try clear Jw
  try clear Iw
  try clear Hw
  try clear AA
  try clear zA
  try clear er
  try clear dr
  try clear Wt
  try clear Vt
  try clear Ut
  try clear Tt
  try clear St
  try clear Rt
  try clear Qt
  try clear Pt
  try clear lG
  try clear kG
  try clear nk
  try clear jk
  try clear Zn
  try clear Yn
  try clear Xn
  try clear Wq
  try clear Vq
  try clear Uq
  try clear Sq
  try clear Rq
  try clear jG
  try clear iG
  try clear Ew
  try clear Dw
  try clear Cw
  try clear Bw
  try clear Aw
  try clear gG
  try clear fG
  obtain ⟨kq,EB,rfl,HA,Q5,za,Ba,HB⟩:=hcut
  cases kq with
  | zero=>exact absurd HA.out (by simp [Ya.j0])
  | succ kj5 =>
   have H:=HA.out
   clear HA
   simp only [Ya.j0] at H
   have sV:=ja.mk H
   clear H
   go_upto_region 5 with (fail)
   go_cut [62] (fun v62 wc=>∃ (kq:Nat) (Kz:Bool),v62 = .bool Kz∧ja (Ya.j1 kq t103 t104 t105 EB Kz Ta Ma Oa Pa Sa qc Fb Ob Rb Qc Td He=some r)∧ja (kq ≤ kj5)∧ja (wc.heap[Ea]? = some (.cells #[(.slice Cb Ta.length Bb),.int .i64 Ma,.int .i64 Oa,.int .i64 Pa,(.slice yc Sa.length Xb)] 30 (0,0)))∧ja (wc.heap[Fa]? = some (.cells #[.int .i64 qc,.int .i64 Fb,.int .i64 Ob,.int .i64 Rb,.int .i64 Qc,.int .i64 Td,.string He] 70 (0,0)))∧ja (Below w.heap.size w wc))
   case first =>
    have H:=sV.out
    clear sV
    by_cases c29:qc=2
    ·rw [if_pos c29] at H
     have zy:(qc == 2)=true:=beq_iff_eq.mpr c29
     have PR:(qc != 2)=false:=bne_eq_false_iff_eq.mpr c29
     clear c29
     (first|rw [zy]|(simp only [Ib,Jb];rw [zy])|skip)
     by_cases c30:qc=4
     ·rw [if_pos c30] at H
      have NH:(qc == 4)=true:=beq_iff_eq.mpr c30
      have NR:(qc != 4)=false:=bne_eq_false_iff_eq.mpr c30
      clear c30
      have H':=ja.mk H
      clear H
      have cX:=jb.out
      have KW:=Ua.out
      have ZA:wc.cell? ⟨Fa,0,none⟩=some (.int .i64 qc):=(ga Ba.out 0).trans rfl
      have YA:wc.cell? ⟨Fa,1,none⟩=some (.int .i64 Fb):=(ga Ba.out 1).trans rfl
      have XA:wc.cell? ⟨Fa,2,none⟩=some (.int .i64 Ob):=(ga Ba.out 2).trans rfl
      have WA:wc.cell? ⟨Fa,3,none⟩=some (.int .i64 Rb):=(ga Ba.out 3).trans rfl
      have VA:wc.cell? ⟨Fa,4,none⟩=some (.int .i64 Qc):=(ga Ba.out 4).trans rfl
      have JP:wc.cell? ⟨Fa,5,none⟩=some (.int .i64 Td):=(ga Ba.out 5).trans rfl
      have IP:wc.cell? ⟨Fa,6,none⟩=some (.string He):=(ga Ba.out 6).trans rfl
      have yA:=aa Ba.out 0
      have xA:=aa Ba.out 1
      have wA:=aa Ba.out 2
      have vA:=aa Ba.out 3
      have uA:=aa Ba.out 4
      have QN:=aa Ba.out 5
      have PN:=aa Ba.out 6
      go_wp2
      go_meet
      case rel=>exact ⟨_,(false),(by first|rfl|(simp;done)|(simp [*];done)),H',⟨by have:=Q5.out;first|omega|exact Nat.le_refl _⟩,⟨by (with_reducible repeat (first|refine Da ?_ _|refine Ga ?_|refine Ca ?_ _));exact za.out⟩,⟨by (with_reducible repeat (first|refine Da ?_ _|refine Ga ?_|refine Ca ?_ _));exact Ba.out⟩,⟨by repeat (first|(with_reducible first|exact HB.out|apply qa|apply ia|apply ua|refine Aa ?_ Wa.out|refine Aa ?_ Sb.out)|exact HB.out)⟩⟩
     ·rw [if_neg c30] at H
      have NH:(qc == 4)=false:=beq_eq_false_iff_ne.mpr c30
      have NR:(qc != 4)=true:=bne_iff_ne.mpr c30
      have H':=ja.mk H
      clear H
      have Caj:=jb.out
      have Pai:=Ua.out
      have sH:wc.cell? ⟨Fa,0,none⟩=some (.int .i64 qc):=(ga Ba.out 0).trans rfl
      have rH:wc.cell? ⟨Fa,1,none⟩=some (.int .i64 Fb):=(ga Ba.out 1).trans rfl
      have qH:wc.cell? ⟨Fa,2,none⟩=some (.int .i64 Ob):=(ga Ba.out 2).trans rfl
      have pH:wc.cell? ⟨Fa,3,none⟩=some (.int .i64 Rb):=(ga Ba.out 3).trans rfl
      have oH:wc.cell? ⟨Fa,4,none⟩=some (.int .i64 Qc):=(ga Ba.out 4).trans rfl
      have nH:wc.cell? ⟨Fa,5,none⟩=some (.int .i64 Td):=(ga Ba.out 5).trans rfl
      have mH:wc.cell? ⟨Fa,6,none⟩=some (.string He):=(ga Ba.out 6).trans rfl
      have bG:=aa Ba.out 0
      have aG:=aa Ba.out 1
      have ZF:=aa Ba.out 2
      have YF:=aa Ba.out 3
      have XF:=aa Ba.out 4
      have VF:=aa Ba.out 5
      have UF:=aa Ba.out 6
      go_wp2
      go_meet
      case rel=>exact ⟨_,((Qc != 0)),(by first|rfl|(simp;done)|(simp [*];done)),H',⟨by have:=Q5.out;first|omega|exact Nat.le_refl _⟩,⟨by (with_reducible repeat (first|refine Da ?_ _|refine Ga ?_|refine Ca ?_ _));exact za.out⟩,⟨by (with_reducible repeat (first|refine Da ?_ _|refine Ga ?_|refine Ca ?_ _));exact Ba.out⟩,⟨by repeat (first|(with_reducible first|exact HB.out|apply qa|apply ia|apply ua|refine Aa ?_ Wa.out|refine Aa ?_ Sb.out)|exact HB.out)⟩⟩
    ·rw [if_neg c29] at H
     have zy:(qc == 2)=false:=beq_eq_false_iff_ne.mpr c29
     have PR:(qc != 2)=true:=bne_iff_ne.mpr c29
     (first|rw [zy]|(simp only [Ib,Jb];rw [zy])|skip)
     by_cases c35:He.toList=([]:List UInt8)
     ·rw [if_pos c35] at H
      have MR:(He.toList == ([]:List UInt8))=true:=beq_iff_eq.mpr c35
      have LR:(He.toList != ([]:List UInt8))=false:=bne_eq_false_iff_eq.mpr c35
      clear c35
      by_cases c36:qc=4
      ·rw [if_pos c36] at H
       have KR:(qc == 4)=true:=beq_iff_eq.mpr c36
       have JR:(qc != 4)=false:=bne_eq_false_iff_eq.mpr c36
       clear c36
       have H':=ja.mk H
       clear H
       have YW:=jb.out
       have FW:=Ua.out
       have UA:wc.cell? ⟨Fa,0,none⟩=some (.int .i64 qc):=(ga Ba.out 0).trans rfl
       have TA:wc.cell? ⟨Fa,1,none⟩=some (.int .i64 Fb):=(ga Ba.out 1).trans rfl
       have SA:wc.cell? ⟨Fa,2,none⟩=some (.int .i64 Ob):=(ga Ba.out 2).trans rfl
       have RA:wc.cell? ⟨Fa,3,none⟩=some (.int .i64 Rb):=(ga Ba.out 3).trans rfl
       have QA:wc.cell? ⟨Fa,4,none⟩=some (.int .i64 Qc):=(ga Ba.out 4).trans rfl
       have eH:wc.cell? ⟨Fa,5,none⟩=some (.int .i64 Td):=(ga Ba.out 5).trans rfl
       have dH:wc.cell? ⟨Fa,6,none⟩=some (.string He):=(ga Ba.out 6).trans rfl
       have tA:=aa Ba.out 0
       have sA:=aa Ba.out 1
       have rA:=aa Ba.out 2
       have qA:=aa Ba.out 3
       have oA:=aa Ba.out 4
       have LF:=aa Ba.out 5
       have KF:=aa Ba.out 6
       go_wp2
       go_meet
       case rel=>exact ⟨_,(false),(by first|rfl|(simp;done)|(simp [*];done)),H',⟨by have:=Q5.out;first|omega|exact Nat.le_refl _⟩,⟨by (with_reducible repeat (first|refine Da ?_ _|refine Ga ?_|refine Ca ?_ _));exact za.out⟩,⟨by (with_reducible repeat (first|refine Da ?_ _|refine Ga ?_|refine Ca ?_ _));exact Ba.out⟩,⟨by repeat (first|(with_reducible first|exact HB.out|apply qa|apply ia|apply ua|refine Aa ?_ Wa.out|refine Aa ?_ Sb.out)|exact HB.out)⟩⟩
      ·rw [if_neg c36] at H
       have KR:(qc == 4)=false:=beq_eq_false_iff_ne.mpr c36
       have JR:(qc != 4)=true:=bne_iff_ne.mpr c36
       have H':=ja.mk H
       clear H
       have gR:=jb.out
       have bR:=Ua.out
       have Vw:wc.cell? ⟨Fa,0,none⟩=some (.int .i64 qc):=(ga Ba.out 0).trans rfl
       have Uw:wc.cell? ⟨Fa,1,none⟩=some (.int .i64 Fb):=(ga Ba.out 1).trans rfl
       have Tw:wc.cell? ⟨Fa,2,none⟩=some (.int .i64 Ob):=(ga Ba.out 2).trans rfl
       have Sw:wc.cell? ⟨Fa,3,none⟩=some (.int .i64 Rb):=(ga Ba.out 3).trans rfl
       have Rw:wc.cell? ⟨Fa,4,none⟩=some (.int .i64 Qc):=(ga Ba.out 4).trans rfl
       have BP:wc.cell? ⟨Fa,5,none⟩=some (.int .i64 Td):=(ga Ba.out 5).trans rfl
       have AP:wc.cell? ⟨Fa,6,none⟩=some (.string He):=(ga Ba.out 6).trans rfl
       have qw:=aa Ba.out 0
       have ow:=aa Ba.out 1
       have nw:=aa Ba.out 2
       have mw:=aa Ba.out 3
       have jw:=aa Ba.out 4
       have HN:=aa Ba.out 5
       have GN:=aa Ba.out 6
       go_wp2
       go_meet
       case rel=>exact ⟨_,((Qc != 0)),(by first|rfl|(simp;done)|(simp [*];done)),H',⟨by have:=Q5.out;first|omega|exact Nat.le_refl _⟩,⟨by (with_reducible repeat (first|refine Da ?_ _|refine Ga ?_|refine Ca ?_ _));exact za.out⟩,⟨by (with_reducible repeat (first|refine Da ?_ _|refine Ga ?_|refine Ca ?_ _));exact Ba.out⟩,⟨by repeat (first|(with_reducible first|exact HB.out|apply qa|apply ia|apply ua|refine Aa ?_ Wa.out|refine Aa ?_ Sb.out)|exact HB.out)⟩⟩
     ·rw [if_neg c35] at H
      have MR:(He.toList == ([]:List UInt8))=false:=beq_eq_false_iff_ne.mpr c35
      have LR:(He.toList != ([]:List UInt8))=true:=bne_iff_ne.mpr c35
      have H':=ja.mk H
      clear H
      have XW:=jb.out
      have EW:=Ua.out
      have XG:wc.cell? ⟨Fa,0,none⟩=some (.int .i64 qc):=(ga Ba.out 0).trans rfl
      have WG:wc.cell? ⟨Fa,1,none⟩=some (.int .i64 Fb):=(ga Ba.out 1).trans rfl
      have VG:wc.cell? ⟨Fa,2,none⟩=some (.int .i64 Ob):=(ga Ba.out 2).trans rfl
      have UG:wc.cell? ⟨Fa,3,none⟩=some (.int .i64 Rb):=(ga Ba.out 3).trans rfl
      have SG:wc.cell? ⟨Fa,4,none⟩=some (.int .i64 Qc):=(ga Ba.out 4).trans rfl
      have wP:wc.cell? ⟨Fa,5,none⟩=some (.int .i64 Td):=(ga Ba.out 5).trans rfl
      have vP:wc.cell? ⟨Fa,6,none⟩=some (.string He):=(ga Ba.out 6).trans rfl
      have CF:=aa Ba.out 0
      have BF:=aa Ba.out 1
      have AF:=aa Ba.out 2
      have zF:=aa Ba.out 3
      have yF:=aa Ba.out 4
      have CN:=aa Ba.out 5
      have BN:=aa Ba.out 6
      go_wp2
      go_meet
      case rel=>exact ⟨_,(true),(by first|rfl|(simp;done)|(simp [*];done)),H',⟨by have:=Q5.out;first|omega|exact Nat.le_refl _⟩,⟨by (with_reducible repeat (first|refine Da ?_ _|refine Ga ?_|refine Ca ?_ _));exact za.out⟩,⟨by (with_reducible repeat (first|refine Da ?_ _|refine Ga ?_|refine Ca ?_ _));exact Ba.out⟩,⟨by repeat (first|(with_reducible first|exact HB.out|apply qa|apply ia|apply ua|refine Aa ?_ Wa.out|refine Aa ?_ Sb.out)|exact HB.out)⟩⟩
   case rest =>
    clear sV
    try clear c1
    try clear c2
    try clear p2
    try clear c3
    try clear c4
    try clear c5
    try clear p6
    try clear c9
    try clear c11
    try clear c12
    try clear c13
    try clear c15
    try clear c18
    try clear Ay
    try clear qL
    try clear c19
    try clear c21
    try clear c24
    try clear c26
    try clear c29
    try clear zy
    try clear PR
    try clear c30
    try clear NH
    try clear NR
    try clear c31
    try clear c33
    try clear c35
    try clear MR
    try clear LR
    try clear c36
    try clear KR
    try clear JR
    try clear c37
    try clear c39
    try clear c41
    try clear Fk
    try clear Ek
    try clear Dk
    try clear Ck
    try clear Bk
    try clear fB
    try clear eB
    try clear El
    try clear Dl
    try clear Bu
    try clear Au
    try clear zu
    try clear sn
    try clear qn
    try clear Ax
    try clear zx
    try clear yx
    try clear dB
    try clear cB
    try clear Gr
    try clear Er
    try clear yu
    try clear xu
    try clear wu
    try clear vu
    try clear uu
    try clear tu
    try clear su
    try clear ru
    try clear BH
    try clear AH
    try clear Ak
    try clear zk
    try clear oo
    try clear mo
    try clear ko
    try clear ur
    try clear tr
    try clear sr
    try clear nr
    try clear kr
    try clear zH
    try clear yH
    try clear sx
    try clear qx
    try clear ox
    try clear jx
    try clear gx
    try clear xH
    try clear wH
    try clear ZA
    try clear YA
    try clear XA
    try clear WA
    try clear VA
    try clear JP
    try clear IP
    try clear sH
    try clear rH
    try clear qH
    try clear pH
    try clear oH
    try clear nH
    try clear mH
    try clear UA
    try clear TA
    try clear SA
    try clear RA
    try clear QA
    try clear eH
    try clear dH
    try clear Vw
    try clear Uw
    try clear Tw
    try clear Sw
    try clear Rw
    try clear BP
    try clear AP
    try clear XG
    try clear WG
    try clear VG
    try clear UG
    try clear SG
    try clear wP
    try clear vP
    try clear xk
    try clear wk
    try clear vk
    try clear uk
    try clear qk
    try clear CA
    try clear BA
    try clear Cl
    try clear Bl
    try clear Zt
    try clear Yt
    try clear Xt
    try clear gn
    try clear dn
    try clear Jw
    try clear Iw
    try clear Hw
    try clear AA
    try clear zA
    try clear er
    try clear dr
    try clear Wt
    try clear Vt
    try clear Ut
    try clear Tt
    try clear St
    try clear Rt
    try clear Qt
    try clear Pt
    try clear lG
    try clear kG
    try clear nk
    try clear jk
    try clear Zn
    try clear Yn
    try clear Xn
    try clear Wq
    try clear Vq
    try clear Uq
    try clear Sq
    try clear Rq
    try clear jG
    try clear iG
    try clear Ew
    try clear Dw
    try clear Cw
    try clear Bw
    try clear Aw
    try clear gG
    try clear fG
    try clear yA
    try clear xA
    try clear wA
    try clear vA
    try clear uA
    try clear QN
    try clear PN
    try clear bG
    try clear aG
    try clear ZF
    try clear YF
    try clear XF
    try clear VF
    try clear UF
    try clear tA
    try clear sA
    try clear rA
    try clear qA
    try clear oA
    try clear LF
    try clear KF
    try clear qw
    try clear ow
    try clear nw
    try clear mw
    try clear jw
    try clear HN
    try clear GN
    try clear CF
    try clear BF
    try clear AF
    try clear zF
    try clear yF
    try clear CN
    try clear BN
    try clear p2
    try clear p6
    obtain ⟨kq,Kz,rfl,HA,Gan,za,Ba,HB⟩:=hcut
    cases kq with
    | zero=>exact absurd HA.out (by simp [Ya.j1])
    | succ kj27 =>
     have H:=HA.out
     clear HA
     simp only [Ya.j1] at H
     by_cases c43:Kz=true
     ·subst c43
      have H1:(some false)=some r:=by rw [if_pos rfl] at H;exact H
      clear H
      have H:=H1
      clear H1
      obtain rfl:=Option.some.inj H
      go_wp2
      go_ret
      exact ⟨by first|rfl|(simp [La,Ka] <;> rfl)|(simp [*,La,Ka] <;> rfl),by repeat (first|(with_reducible first|exact HB.out|apply qa|apply ia|apply ua|refine Aa ?_ Wa.out|refine Aa ?_ Sb.out)|exact HB.out)⟩
     ·replace c43:=Bool.eq_false_iff.mpr c43
      subst c43
      have H1:(if qc=0 then (if t103=true then (if Ob=0 then (some (Rb == 0)) else (some false)) else (some false)) else (if qc=1 then (if t103=true then (if t104=true then (if Rb=0 then (some (Td == 0)) else (some false)) else (some false)) else (some false)) else (if qc=2 then (if t103=true then (if t104=true then (if t105=true then (if Td=0 then ((Ad.f kj27 (([(⟨#[61,61]⟩:ByteArray),(⟨#[60]⟩:ByteArray),(⟨#[38]⟩:ByteArray),(⟨#[43]⟩:ByteArray),(⟨#[45]⟩:ByteArray),(⟨#[42]⟩:ByteArray)]:List ByteArray)) He).bind fun t111=>(some t111)) else (some false)) else (some false)) else (some false)) else (some false)) else (if qc=3 then (if t103=true then (some EB) else (some false)) else (if qc=4 then (if Fb=0 then (if EB=true then ((Za.f Qc 0 (wrap64 (Pa - 1))).bind fun t112=>(some t112)) else (some false)) else (some false)) else (if qc=5 then (if t103=true then (if Ob=0 then (if Rb=0 then (some (Td == 0)) else (some false)) else (some false)) else (some false)) else (if qc=6 then (if Fb=0 then (if t104=true then (if Rb=0 then (some (Td == 0)) else (some false)) else (some false)) else (some false)) else (some false))))))))=some r:=by rw [if_neg (show ¬ (false=true) by decide)] at H;exact H
      clear H
      have H:=H1
      clear H1
      by_cases c44:qc=0
      ·rw [if_pos c44] at H
       have mL:(qc == 0)=true:=beq_iff_eq.mpr c44
       have kL:(qc != 0)=false:=bne_eq_false_iff_eq.mpr c44
       clear c44
       by_cases c45:t103=true
       ·subst c45
        have H1:(if Ob=0 then (some (Rb == 0)) else (some false))=some r:=by rw [if_pos rfl] at H;exact H
        clear H
        have H:=H1
        clear H1
        by_cases c46:Ob=0
        ·rw [if_pos c46] at H
         have MH:(Ob == 0)=true:=beq_iff_eq.mpr c46
         have jL:(Ob != 0)=false:=bne_eq_false_iff_eq.mpr c46
         clear c46
         obtain rfl:=Option.some.inj H
         have fR:=jb.out
         have aR:=Ua.out
         have cu:wc.cell? ⟨Fa,0,none⟩=some (.int .i64 qc):=(ga Ba.out 0).trans rfl
         have bu:wc.cell? ⟨Fa,1,none⟩=some (.int .i64 Fb):=(ga Ba.out 1).trans rfl
         have PA:wc.cell? ⟨Fa,2,none⟩=some (.int .i64 Ob):=(ga Ba.out 2).trans rfl
         have OA:wc.cell? ⟨Fa,3,none⟩=some (.int .i64 Rb):=(ga Ba.out 3).trans rfl
         have NA:wc.cell? ⟨Fa,4,none⟩=some (.int .i64 Qc):=(ga Ba.out 4).trans rfl
         have kP:wc.cell? ⟨Fa,5,none⟩=some (.int .i64 Td):=(ga Ba.out 5).trans rfl
         have jP:wc.cell? ⟨Fa,6,none⟩=some (.string He):=(ga Ba.out 6).trans rfl
         have Dt:=aa Ba.out 0
         have Ct:=aa Ba.out 1
         have nA:=aa Ba.out 2
         have mA:=aa Ba.out 3
         have lA:=aa Ba.out 4
         have pN:=aa Ba.out 5
         have oN:=aa Ba.out 6
         go_wp2
         go_ret
         exact ⟨by first|rfl|(simp [La,Ka] <;> rfl)|(simp [*,La,Ka] <;> rfl),by repeat (first|(with_reducible first|exact HB.out|apply qa|apply ia|apply ua|refine Aa ?_ Wa.out|refine Aa ?_ Sb.out)|exact HB.out)⟩
        ·rw [if_neg c46] at H
         have MH:(Ob == 0)=false:=beq_eq_false_iff_ne.mpr c46
         have jL:(Ob != 0)=true:=bne_iff_ne.mpr c46
         obtain rfl:=Option.some.inj H
         have waj:=jb.out
         have Jai:=Ua.out
         have sad:wc.cell? ⟨Fa,0,none⟩=some (.int .i64 qc):=(ga Ba.out 0).trans rfl
         have rad:wc.cell? ⟨Fa,1,none⟩=some (.int .i64 Fb):=(ga Ba.out 1).trans rfl
         have qad:wc.cell? ⟨Fa,2,none⟩=some (.int .i64 Ob):=(ga Ba.out 2).trans rfl
         have oad:wc.cell? ⟨Fa,3,none⟩=some (.int .i64 Rb):=(ga Ba.out 3).trans rfl
         have nad:wc.cell? ⟨Fa,4,none⟩=some (.int .i64 Qc):=(ga Ba.out 4).trans rfl
         have mad:wc.cell? ⟨Fa,5,none⟩=some (.int .i64 Td):=(ga Ba.out 5).trans rfl
         have lad:wc.cell? ⟨Fa,6,none⟩=some (.string He):=(ga Ba.out 6).trans rfl
         have faa:=aa Ba.out 0
         have eaa:=aa Ba.out 1
         have daa:=aa Ba.out 2
         have caa:=aa Ba.out 3
         have baa:=aa Ba.out 4
         have aaa:=aa Ba.out 5
         have Z_:=aa Ba.out 6
         go_wp2
         go_ret
         exact ⟨by first|rfl|(simp [La,Ka] <;> rfl)|(simp [*,La,Ka] <;> rfl),by repeat (first|(with_reducible first|exact HB.out|apply qa|apply ia|apply ua|refine Aa ?_ Wa.out|refine Aa ?_ Sb.out)|exact HB.out)⟩
       ·replace c45:=Bool.eq_false_iff.mpr c45
        subst c45
        have H1:(some false)=some r:=by rw [if_neg (show ¬ (false=true) by decide)] at H;exact H
        clear H
        have H:=H1
        clear H1
        obtain rfl:=Option.some.inj H
        have ZJ:=jb.out
        have XJ:=Ua.out
        have MA:wc.cell? ⟨Fa,0,none⟩=some (.int .i64 qc):=(ga Ba.out 0).trans rfl
        have LA:wc.cell? ⟨Fa,1,none⟩=some (.int .i64 Fb):=(ga Ba.out 1).trans rfl
        have NG:wc.cell? ⟨Fa,2,none⟩=some (.int .i64 Ob):=(ga Ba.out 2).trans rfl
        have MG:wc.cell? ⟨Fa,3,none⟩=some (.int .i64 Rb):=(ga Ba.out 3).trans rfl
        have LG:wc.cell? ⟨Fa,4,none⟩=some (.int .i64 Qc):=(ga Ba.out 4).trans rfl
        have ead:wc.cell? ⟨Fa,5,none⟩=some (.int .i64 Td):=(ga Ba.out 5).trans rfl
        have dad:wc.cell? ⟨Fa,6,none⟩=some (.string He):=(ga Ba.out 6).trans rfl
        have kA:=aa Ba.out 0
        have jA:=aa Ba.out 1
        have sF:=aa Ba.out 2
        have rF:=aa Ba.out 3
        have qF:=aa Ba.out 4
        have S_:=aa Ba.out 5
        have R_:=aa Ba.out 6
        go_wp2
        go_ret
        exact ⟨by first|rfl|(simp [La,Ka] <;> rfl)|(simp [*,La,Ka] <;> rfl),by repeat (first|(with_reducible first|exact HB.out|apply qa|apply ia|apply ua|refine Aa ?_ Wa.out|refine Aa ?_ Sb.out)|exact HB.out)⟩
      ·rw [if_neg c44] at H
       have mL:(qc == 0)=false:=beq_eq_false_iff_ne.mpr c44
       have kL:(qc != 0)=true:=bne_iff_ne.mpr c44
       by_cases c53:qc=1
       ·rw [if_pos c53] at H
        have j4:(qc == 1)=true:=beq_iff_eq.mpr c53
        have Z3:(qc != 1)=false:=bne_eq_false_iff_eq.mpr c53
        clear c53
        by_cases c54:t103=true
        ·subst c54
         have H1:(if t104=true then (if Rb=0 then (some (Td == 0)) else (some false)) else (some false))=some r:=by rw [if_pos rfl] at H;exact H
         clear H
         have H:=H1
         clear H1
         by_cases c55:t104=true
         ·subst c55
          have H1:(if Rb=0 then (some (Td == 0)) else (some false))=some r:=by rw [if_pos rfl] at H;exact H
          clear H
          have H:=H1
          clear H1
          by_cases c56:Rb=0
          ·rw [if_pos c56] at H
           have Y3:(Rb == 0)=true:=beq_iff_eq.mpr c56
           have X3:(Rb != 0)=false:=bne_eq_false_iff_eq.mpr c56
           clear c56
           obtain rfl:=Option.some.inj H
           have raj:=jb.out
           have Eai:=Ua.out
           have VO:wc.cell? ⟨Fa,0,none⟩=some (.int .i64 qc):=(ga Ba.out 0).trans rfl
           have UO:wc.cell? ⟨Fa,1,none⟩=some (.int .i64 Fb):=(ga Ba.out 1).trans rfl
           have RO:wc.cell? ⟨Fa,2,none⟩=some (.int .i64 Ob):=(ga Ba.out 2).trans rfl
           have QO:wc.cell? ⟨Fa,3,none⟩=some (.int .i64 Rb):=(ga Ba.out 3).trans rfl
           have PO:wc.cell? ⟨Fa,4,none⟩=some (.int .i64 Qc):=(ga Ba.out 4).trans rfl
           have Mac:wc.cell? ⟨Fa,5,none⟩=some (.int .i64 Td):=(ga Ba.out 5).trans rfl
           have Lac:wc.cell? ⟨Fa,6,none⟩=some (.string He):=(ga Ba.out 6).trans rfl
           have cN:=aa Ba.out 0
           have bN:=aa Ba.out 1
           have aN:=aa Ba.out 2
           have ZM:=aa Ba.out 3
           have YM:=aa Ba.out 4
           have B_:=aa Ba.out 5
           have A_:=aa Ba.out 6
           go_wp2
           go_ret
           exact ⟨by first|rfl|(simp [La,Ka] <;> rfl)|(simp [*,La,Ka] <;> rfl),by repeat (first|(with_reducible first|exact HB.out|apply qa|apply ia|apply ua|refine Aa ?_ Wa.out|refine Aa ?_ Sb.out)|exact HB.out)⟩
          ·rw [if_neg c56] at H
           have Y3:(Rb == 0)=false:=beq_eq_false_iff_ne.mpr c56
           have X3:(Rb != 0)=true:=bne_iff_ne.mpr c56
           obtain rfl:=Option.some.inj H
           have paj:=jb.out
           have Cai:=Ua.out
           have OO:wc.cell? ⟨Fa,0,none⟩=some (.int .i64 qc):=(ga Ba.out 0).trans rfl
           have MO:wc.cell? ⟨Fa,1,none⟩=some (.int .i64 Fb):=(ga Ba.out 1).trans rfl
           have Iac:wc.cell? ⟨Fa,2,none⟩=some (.int .i64 Ob):=(ga Ba.out 2).trans rfl
           have Hac:wc.cell? ⟨Fa,3,none⟩=some (.int .i64 Rb):=(ga Ba.out 3).trans rfl
           have Gac:wc.cell? ⟨Fa,4,none⟩=some (.int .i64 Qc):=(ga Ba.out 4).trans rfl
           have Fac:wc.cell? ⟨Fa,5,none⟩=some (.int .i64 Td):=(ga Ba.out 5).trans rfl
           have Eac:wc.cell? ⟨Fa,6,none⟩=some (.string He):=(ga Ba.out 6).trans rfl
           have XM:=aa Ba.out 0
           have WM:=aa Ba.out 1
           have w_:=aa Ba.out 2
           have v_:=aa Ba.out 3
           have u_:=aa Ba.out 4
           have t_:=aa Ba.out 5
           have r_:=aa Ba.out 6
           go_wp2
           go_ret
           exact ⟨by first|rfl|(simp [La,Ka] <;> rfl)|(simp [*,La,Ka] <;> rfl),by repeat (first|(with_reducible first|exact HB.out|apply qa|apply ia|apply ua|refine Aa ?_ Wa.out|refine Aa ?_ Sb.out)|exact HB.out)⟩
         ·replace c55:=Bool.eq_false_iff.mpr c55
          subst c55
          have H1:(some false)=some r:=by rw [if_neg (show ¬ (false=true) by decide)] at H;exact H
          clear H
          have H:=H1
          clear H1
          obtain rfl:=Option.some.inj H
          have oaj:=jb.out
          have Bai:=Ua.out
          have KG:wc.cell? ⟨Fa,0,none⟩=some (.int .i64 qc):=(ga Ba.out 0).trans rfl
          have JG:wc.cell? ⟨Fa,1,none⟩=some (.int .i64 Fb):=(ga Ba.out 1).trans rfl
          have Dac:wc.cell? ⟨Fa,2,none⟩=some (.int .i64 Ob):=(ga Ba.out 2).trans rfl
          have Cac:wc.cell? ⟨Fa,3,none⟩=some (.int .i64 Rb):=(ga Ba.out 3).trans rfl
          have Bac:wc.cell? ⟨Fa,4,none⟩=some (.int .i64 Qc):=(ga Ba.out 4).trans rfl
          have Aac:wc.cell? ⟨Fa,5,none⟩=some (.int .i64 Td):=(ga Ba.out 5).trans rfl
          have zac:wc.cell? ⟨Fa,6,none⟩=some (.string He):=(ga Ba.out 6).trans rfl
          have pF:=aa Ba.out 0
          have oF:=aa Ba.out 1
          have q_:=aa Ba.out 2
          have p_:=aa Ba.out 3
          have o_:=aa Ba.out 4
          have l_:=aa Ba.out 5
          have j_:=aa Ba.out 6
          go_wp2
          go_ret
          exact ⟨by first|rfl|(simp [La,Ka] <;> rfl)|(simp [*,La,Ka] <;> rfl),by repeat (first|(with_reducible first|exact HB.out|apply qa|apply ia|apply ua|refine Aa ?_ Wa.out|refine Aa ?_ Sb.out)|exact HB.out)⟩
        ·replace c54:=Bool.eq_false_iff.mpr c54
         subst c54
         have H1:(some false)=some r:=by rw [if_neg (show ¬ (false=true) by decide)] at H;exact H
         clear H
         have H:=H1
         clear H1
         obtain rfl:=Option.some.inj H
         have UW:=jb.out
         have AW:=Ua.out
         have yac:wc.cell? ⟨Fa,0,none⟩=some (.int .i64 qc):=(ga Ba.out 0).trans rfl
         have xac:wc.cell? ⟨Fa,1,none⟩=some (.int .i64 Fb):=(ga Ba.out 1).trans rfl
         have wac:wc.cell? ⟨Fa,2,none⟩=some (.int .i64 Ob):=(ga Ba.out 2).trans rfl
         have vac:wc.cell? ⟨Fa,3,none⟩=some (.int .i64 Rb):=(ga Ba.out 3).trans rfl
         have uac:wc.cell? ⟨Fa,4,none⟩=some (.int .i64 Qc):=(ga Ba.out 4).trans rfl
         have sac:wc.cell? ⟨Fa,5,none⟩=some (.int .i64 Td):=(ga Ba.out 5).trans rfl
         have rac:wc.cell? ⟨Fa,6,none⟩=some (.string He):=(ga Ba.out 6).trans rfl
         have i_:=aa Ba.out 0
         have g_:=aa Ba.out 1
         have f_:=aa Ba.out 2
         have d_:=aa Ba.out 3
         have b_:=aa Ba.out 4
         have Z9:=aa Ba.out 5
         have Y9:=aa Ba.out 6
         go_wp2
         go_ret
         exact ⟨by first|rfl|(simp [La,Ka] <;> rfl)|(simp [*,La,Ka] <;> rfl),by repeat (first|(with_reducible first|exact HB.out|apply qa|apply ia|apply ua|refine Aa ?_ Wa.out|refine Aa ?_ Sb.out)|exact HB.out)⟩
       ·rw [if_neg c53] at H
        have j4:(qc == 1)=false:=beq_eq_false_iff_ne.mpr c53
        have Z3:(qc != 1)=true:=bne_iff_ne.mpr c53
        by_cases c65:qc=2
        ·rw [if_pos c65] at H
         have iL:(qc == 2)=true:=beq_iff_eq.mpr c65
         have R3:(qc != 2)=false:=bne_eq_false_iff_eq.mpr c65
         clear c65
         by_cases c66:t103=true
         ·subst c66
          have H1:(if t104=true then (if t105=true then (if Td=0 then ((Ad.f kj27 (([(⟨#[61,61]⟩:ByteArray),(⟨#[60]⟩:ByteArray),(⟨#[38]⟩:ByteArray),(⟨#[43]⟩:ByteArray),(⟨#[45]⟩:ByteArray),(⟨#[42]⟩:ByteArray)]:List ByteArray)) He).bind fun t111=>(some t111)) else (some false)) else (some false)) else (some false))=some r:=by rw [if_pos rfl] at H;exact H
          clear H
          have H:=H1
          clear H1
          by_cases c67:t104=true
          ·subst c67
           have H1:(if t105=true then (if Td=0 then ((Ad.f kj27 (([(⟨#[61,61]⟩:ByteArray),(⟨#[60]⟩:ByteArray),(⟨#[38]⟩:ByteArray),(⟨#[43]⟩:ByteArray),(⟨#[45]⟩:ByteArray),(⟨#[42]⟩:ByteArray)]:List ByteArray)) He).bind fun t111=>(some t111)) else (some false)) else (some false))=some r:=by rw [if_pos rfl] at H;exact H
           clear H
           have H:=H1
           clear H1
           by_cases c68:t105=true
           ·subst c68
            have H1:(if Td=0 then ((Ad.f kj27 (([(⟨#[61,61]⟩:ByteArray),(⟨#[60]⟩:ByteArray),(⟨#[38]⟩:ByteArray),(⟨#[43]⟩:ByteArray),(⟨#[45]⟩:ByteArray),(⟨#[42]⟩:ByteArray)]:List ByteArray)) He).bind fun t111=>(some t111)) else (some false))=some r:=by rw [if_pos rfl] at H;exact H
            clear H
            have H:=H1
            clear H1
            by_cases c69:Td=0
            ·rw [if_pos c69] at H
             have P3:(Td == 0)=true:=beq_iff_eq.mpr c69
             have O3:(Td != 0)=false:=bne_eq_false_iff_eq.mpr c69
             clear c69
             obtain ⟨y108,hy108⟩:∃ y_:List ByteArray,y_=(([(⟨#[61,61]⟩:ByteArray),(⟨#[60]⟩:ByteArray),(⟨#[38]⟩:ByteArray),(⟨#[43]⟩:ByteArray),(⟨#[45]⟩:ByteArray),(⟨#[42]⟩:ByteArray)]:List ByteArray)):=⟨_,rfl⟩
             replace H:((Ad.f kj27 y108 He).bind fun t111=>(some t111))=some r:=by first|(rw [hy108];with_reducible exact H)|(have Eh:=(Option.bind_some _ _).symm.trans H;rw [hy108];with_reducible exact Eh)|(have Eh:=(Option.bind_some _ _).symm.trans H;with_reducible exact Eh)|with_reducible exact H|(rw [hy108];exact H)|exact H
             have VH:=ja.mk hy108
             clear hy108
             replace H:=Option.bind_eq_some_iff.mp H
             obtain ⟨t111,O6,H⟩:=H
             replace H:(some t111)=some r:=H
             have AB:=ja.mk O6
             clear O6
             obtain rfl:=Option.some.inj H
             have kaj:=jb.out
             have xai:=Ua.out
             have FG:wc.cell? ⟨Fa,0,none⟩=some (.int .i64 qc):=(ga Ba.out 0).trans rfl
             have EG:wc.cell? ⟨Fa,1,none⟩=some (.int .i64 Fb):=(ga Ba.out 1).trans rfl
             have DG:wc.cell? ⟨Fa,2,none⟩=some (.int .i64 Ob):=(ga Ba.out 2).trans rfl
             have CG:wc.cell? ⟨Fa,3,none⟩=some (.int .i64 Rb):=(ga Ba.out 3).trans rfl
             have BG:wc.cell? ⟨Fa,4,none⟩=some (.int .i64 Qc):=(ga Ba.out 4).trans rfl
             have AG:wc.cell? ⟨Fa,5,none⟩=some (.int .i64 Td):=(ga Ba.out 5).trans rfl
             have zG:wc.cell? ⟨Fa,6,none⟩=some (.string He):=(ga Ba.out 6).trans rfl
             have lF:=aa Ba.out 0
             have kF:=aa Ba.out 1
             have jF:=aa Ba.out 2
             have iF:=aa Ba.out 3
             have gF:=aa Ba.out 4
             have fF:=aa Ba.out 5
             have eF:=aa Ba.out 6
             go_wp2_with (first|((with_reducible refine Kb (N:=109) rfl ?_);(try (refine Ch (by rfl) ?_;dsimp only));refine Kd.Jz Kd.string _ 9 ?hg (N:=109) ?hd (xs:=([(⟨#[61,61]⟩:ByteArray),(⟨#[60]⟩:ByteArray),(⟨#[38]⟩:ByteArray),(⟨#[43]⟩:ByteArray),(⟨#[45]⟩:ByteArray),(⟨#[42]⟩:ByteArray)]:List ByteArray)) (inner:=[.string (⟨#[61,61]⟩:ByteArray),.string (⟨#[60]⟩:ByteArray),.string (⟨#[38]⟩:ByteArray),.string (⟨#[43]⟩:ByteArray),.string (⟨#[45]⟩:ByteArray),.string (⟨#[42]⟩:ByteArray)]) (ok:=fun _=>True) (vp:=fun _=>True) ?hr ?hp (fun _ hk=>hk) trivial (Below.refl _ _) (Nat.le_refl _) (by simp) ?_;(case hd=>rfl);(case hg=>rfl);(case hr=>first|(go_simp;done)|(go_simp;rfl));(case hp=>exact (Tf.one (show Kd.M Kd.string _ _ _ (⟨#[61,61]⟩:ByteArray) [.string (⟨#[61,61]⟩:ByteArray)] from rfl) (Tf.one (show Kd.M Kd.string _ _ _ (⟨#[60]⟩:ByteArray) [.string (⟨#[60]⟩:ByteArray)] from rfl) (Tf.one (show Kd.M Kd.string _ _ _ (⟨#[38]⟩:ByteArray) [.string (⟨#[38]⟩:ByteArray)] from rfl) (Tf.one (show Kd.M Kd.string _ _ _ (⟨#[43]⟩:ByteArray) [.string (⟨#[43]⟩:ByteArray)] from rfl) (Tf.one (show Kd.M Kd.string _ _ _ (⟨#[45]⟩:ByteArray) [.string (⟨#[45]⟩:ByteArray)] from rfl) (Tf.one (show Kd.M Kd.string _ _ _ (⟨#[42]⟩:ByteArray) [.string (⟨#[42]⟩:ByteArray)] from rfl) (Tf.none _ _))))))));intro Wal dM TJ hb CD Jn;clear CD Jn;(first|rw [← VH.out] at TJ|(simp only [Int.reduceToNat] at TJ;rw [← VH.out] at TJ));have Gb:=ja.mk (Kd.zi TJ (Ra (by repeat (first|(with_reducible first|exact HB.out|apply qa|apply ia|apply ua|refine Aa ?_ Wa.out|refine Aa ?_ Sb.out)|exact HB.out))));have Vb:=ja.mk (gb (g:=Ea) (o:=.cells #[.slice Cb Ta.length Bb,.int .i64 Ma,.int .i64 Oa,.int .i64 Pa,.slice yc Sa.length Xb] 30 (0,0)) (by (with_reducible repeat (first|refine Da ?_ _|refine Ga ?_|refine Ca ?_ _));exact za.out) hb);have Ac:=ja.mk (gb (g:=Fa) (o:=.cells #[.int .i64 qc,.int .i64 Fb,.int .i64 Ob,.int .i64 Rb,.int .i64 Qc,.int .i64 Td,.string He] 70 (0,0)) (by (with_reducible repeat (first|refine Da ?_ _|refine Ga ?_|refine Ca ?_ _));exact Ba.out) hb);have ud:=ja.mk (Qa (by repeat (first|(with_reducible first|exact HB.out|apply qa|apply ia|apply ua|refine Aa ?_ Wa.out|refine Aa ?_ Sb.out)|exact HB.out)) hb);clear za;clear Ba;clear HB;have JL:=Gb;have za:=Vb;have Ba:=Ac;have HB:=ud;clear Gb Vb Ac ud;clear hb TJ;have fac:dM.cell? ⟨Fa,0,none⟩=some (.int .i64 qc):=(ga Ba.out 0).trans rfl;have eac:dM.cell? ⟨Fa,1,none⟩=some (.int .i64 Fb):=(ga Ba.out 1).trans rfl;have dac:dM.cell? ⟨Fa,2,none⟩=some (.int .i64 Ob):=(ga Ba.out 2).trans rfl;have cac:dM.cell? ⟨Fa,3,none⟩=some (.int .i64 Rb):=(ga Ba.out 3).trans rfl;have bac:dM.cell? ⟨Fa,4,none⟩=some (.int .i64 Qc):=(ga Ba.out 4).trans rfl;have aac:dM.cell? ⟨Fa,5,none⟩=some (.int .i64 Td):=(ga Ba.out 5).trans rfl;have Zab:dM.cell? ⟨Fa,6,none⟩=some (.string He):=(ga Ba.out 6).trans rfl;have M9:=aa Ba.out 0;have L9:=aa Ba.out 1;have K9:=aa Ba.out 2;have J9:=aa Ba.out 3;have I9:=aa Ba.out 4;have H9:=aa Ba.out 5;have G9:=aa Ba.out 6;obtain ⟨San,Jam,Jag⟩:=Kd.Hf JL.out;subst Jag)|(go_at_call 128;(with_reducible refine (Ad.calls kj27 _ _ y108 He t111 _ ?side1 ?side2 AB.out).mono ?_);(case side1=>repeat (first|exact (Kd.Cc JL.out).2.2|(with_reducible refine Kd.Sc ?_ _)|(with_reducible refine Kd.Rc ?_ _)|(with_reducible refine Kd.Qd ?_)));(case side2=>exact (Kd.Cc JL.out).2.1);rintro e w' ⟨rfl,⟨nd,rfl⟩⟩))
             go_ret
             exact ⟨by first|rfl|(simp [La,Ka] <;> rfl)|(simp [*,La,Ka] <;> rfl),by repeat (first|(with_reducible first|exact HB.out|apply qa|apply ia|apply ua|refine Aa ?_ Wa.out|refine Aa ?_ Sb.out)|exact HB.out)⟩
            ·rw [if_neg c69] at H
             have P3:(Td == 0)=false:=beq_eq_false_iff_ne.mpr c69
             have O3:(Td != 0)=true:=bne_iff_ne.mpr c69
             obtain rfl:=Option.some.inj H
             have gaj:=jb.out
             have tai:=Ua.out
             have Wab:wc.cell? ⟨Fa,0,none⟩=some (.int .i64 qc):=(ga Ba.out 0).trans rfl
             have Vab:wc.cell? ⟨Fa,1,none⟩=some (.int .i64 Fb):=(ga Ba.out 1).trans rfl
             have Uab:wc.cell? ⟨Fa,2,none⟩=some (.int .i64 Ob):=(ga Ba.out 2).trans rfl
             have Tab:wc.cell? ⟨Fa,3,none⟩=some (.int .i64 Rb):=(ga Ba.out 3).trans rfl
             have Sab:wc.cell? ⟨Fa,4,none⟩=some (.int .i64 Qc):=(ga Ba.out 4).trans rfl
             have Rab:wc.cell? ⟨Fa,5,none⟩=some (.int .i64 Td):=(ga Ba.out 5).trans rfl
             have Qab:wc.cell? ⟨Fa,6,none⟩=some (.string He):=(ga Ba.out 6).trans rfl
             have D9:=aa Ba.out 0
             have C9:=aa Ba.out 1
             have z9:=aa Ba.out 2
             have u9:=aa Ba.out 3
             have r9:=aa Ba.out 4
             have o9:=aa Ba.out 5
             have n9:=aa Ba.out 6
             go_wp2
             go_ret
             exact ⟨by first|rfl|(simp [La,Ka] <;> rfl)|(simp [*,La,Ka] <;> rfl),by repeat (first|(with_reducible first|exact HB.out|apply qa|apply ia|apply ua|refine Aa ?_ Wa.out|refine Aa ?_ Sb.out)|exact HB.out)⟩
           ·replace c68:=Bool.eq_false_iff.mpr c68
            subst c68
            have H1:(some false)=some r:=by rw [if_neg (show ¬ (false=true) by decide)] at H;exact H
            clear H
            have H:=H1
            clear H1
            obtain rfl:=Option.some.inj H
            have faj:=jb.out
            have sai:=Ua.out
            have yG:wc.cell? ⟨Fa,0,none⟩=some (.int .i64 qc):=(ga Ba.out 0).trans rfl
            have xG:wc.cell? ⟨Fa,1,none⟩=some (.int .i64 Fb):=(ga Ba.out 1).trans rfl
            have Pab:wc.cell? ⟨Fa,2,none⟩=some (.int .i64 Ob):=(ga Ba.out 2).trans rfl
            have Oab:wc.cell? ⟨Fa,3,none⟩=some (.int .i64 Rb):=(ga Ba.out 3).trans rfl
            have Nab:wc.cell? ⟨Fa,4,none⟩=some (.int .i64 Qc):=(ga Ba.out 4).trans rfl
            have Mab:wc.cell? ⟨Fa,5,none⟩=some (.int .i64 Td):=(ga Ba.out 5).trans rfl
            have Lab:wc.cell? ⟨Fa,6,none⟩=some (.string He):=(ga Ba.out 6).trans rfl
            have dF:=aa Ba.out 0
            have cF:=aa Ba.out 1
            have m9:=aa Ba.out 2
            have l9:=aa Ba.out 3
            have j9:=aa Ba.out 4
            have e9:=aa Ba.out 5
            have Z8:=aa Ba.out 6
            go_wp2
            go_ret
            exact ⟨by first|rfl|(simp [La,Ka] <;> rfl)|(simp [*,La,Ka] <;> rfl),by repeat (first|(with_reducible first|exact HB.out|apply qa|apply ia|apply ua|refine Aa ?_ Wa.out|refine Aa ?_ Sb.out)|exact HB.out)⟩
          ·replace c67:=Bool.eq_false_iff.mpr c67
           subst c67
           have H1:(some false)=some r:=by rw [if_neg (show ¬ (false=true) by decide)] at H;exact H
           clear H
           have H:=H1
           clear H1
           obtain rfl:=Option.some.inj H
           have eaj:=jb.out
           have rai:=Ua.out
           have wG:wc.cell? ⟨Fa,0,none⟩=some (.int .i64 qc):=(ga Ba.out 0).trans rfl
           have vG:wc.cell? ⟨Fa,1,none⟩=some (.int .i64 Fb):=(ga Ba.out 1).trans rfl
           have uG:wc.cell? ⟨Fa,2,none⟩=some (.int .i64 Ob):=(ga Ba.out 2).trans rfl
           have sG:wc.cell? ⟨Fa,3,none⟩=some (.int .i64 Rb):=(ga Ba.out 3).trans rfl
           have rG:wc.cell? ⟨Fa,4,none⟩=some (.int .i64 Qc):=(ga Ba.out 4).trans rfl
           have qG:wc.cell? ⟨Fa,5,none⟩=some (.int .i64 Td):=(ga Ba.out 5).trans rfl
           have pG:wc.cell? ⟨Fa,6,none⟩=some (.string He):=(ga Ba.out 6).trans rfl
           have bF:=aa Ba.out 0
           have ZE:=aa Ba.out 1
           have YE:=aa Ba.out 2
           have XE:=aa Ba.out 3
           have WE:=aa Ba.out 4
           have VE:=aa Ba.out 5
           have UE:=aa Ba.out 6
           go_wp2
           go_ret
           exact ⟨by first|rfl|(simp [La,Ka] <;> rfl)|(simp [*,La,Ka] <;> rfl),by repeat (first|(with_reducible first|exact HB.out|apply qa|apply ia|apply ua|refine Aa ?_ Wa.out|refine Aa ?_ Sb.out)|exact HB.out)⟩
         ·replace c66:=Bool.eq_false_iff.mpr c66
          subst c66
          have H1:(some false)=some r:=by rw [if_neg (show ¬ (false=true) by decide)] at H;exact H
          clear H
          have H:=H1
          clear H1
          obtain rfl:=Option.some.inj H
          have daj:=jb.out
          have qai:=Ua.out
          have Kab:wc.cell? ⟨Fa,0,none⟩=some (.int .i64 qc):=(ga Ba.out 0).trans rfl
          have Jab:wc.cell? ⟨Fa,1,none⟩=some (.int .i64 Fb):=(ga Ba.out 1).trans rfl
          have Iab:wc.cell? ⟨Fa,2,none⟩=some (.int .i64 Ob):=(ga Ba.out 2).trans rfl
          have Hab:wc.cell? ⟨Fa,3,none⟩=some (.int .i64 Rb):=(ga Ba.out 3).trans rfl
          have Gab:wc.cell? ⟨Fa,4,none⟩=some (.int .i64 Qc):=(ga Ba.out 4).trans rfl
          have Fab:wc.cell? ⟨Fa,5,none⟩=some (.int .i64 Td):=(ga Ba.out 5).trans rfl
          have Eab:wc.cell? ⟨Fa,6,none⟩=some (.string He):=(ga Ba.out 6).trans rfl
          have Y8:=aa Ba.out 0
          have X8:=aa Ba.out 1
          have W8:=aa Ba.out 2
          have V8:=aa Ba.out 3
          have U8:=aa Ba.out 4
          have T8:=aa Ba.out 5
          have R8:=aa Ba.out 6
          go_wp2
          go_ret
          exact ⟨by first|rfl|(simp [La,Ka] <;> rfl)|(simp [*,La,Ka] <;> rfl),by repeat (first|(with_reducible first|exact HB.out|apply qa|apply ia|apply ua|refine Aa ?_ Wa.out|refine Aa ?_ Sb.out)|exact HB.out)⟩
        ·rw [if_neg c65] at H
         have iL:(qc == 2)=false:=beq_eq_false_iff_ne.mpr c65
         have R3:(qc != 2)=true:=bne_iff_ne.mpr c65
         by_cases c85:qc=3
         ·rw [if_pos c85] at H
          have N3:(qc == 3)=true:=beq_iff_eq.mpr c85
          have L3:(qc != 3)=false:=bne_eq_false_iff_eq.mpr c85
          clear c85
          by_cases c86:t103=true
          ·subst c86
           have H1:(some EB)=some r:=by rw [if_pos rfl] at H;exact H
           clear H
           have H:=H1
           clear H1
           obtain rfl:=Option.some.inj H
           have caj:=jb.out
           have pai:=Ua.out
           have Dab:wc.cell? ⟨Fa,0,none⟩=some (.int .i64 qc):=(ga Ba.out 0).trans rfl
           have Cab:wc.cell? ⟨Fa,1,none⟩=some (.int .i64 Fb):=(ga Ba.out 1).trans rfl
           have Bab:wc.cell? ⟨Fa,2,none⟩=some (.int .i64 Ob):=(ga Ba.out 2).trans rfl
           have Aab:wc.cell? ⟨Fa,3,none⟩=some (.int .i64 Rb):=(ga Ba.out 3).trans rfl
           have zab:wc.cell? ⟨Fa,4,none⟩=some (.int .i64 Qc):=(ga Ba.out 4).trans rfl
           have yab:wc.cell? ⟨Fa,5,none⟩=some (.int .i64 Td):=(ga Ba.out 5).trans rfl
           have xab:wc.cell? ⟨Fa,6,none⟩=some (.string He):=(ga Ba.out 6).trans rfl
           have Q8:=aa Ba.out 0
           have P8:=aa Ba.out 1
           have O8:=aa Ba.out 2
           have N8:=aa Ba.out 3
           have M8:=aa Ba.out 4
           have L8:=aa Ba.out 5
           have K8:=aa Ba.out 6
           go_wp2
           go_ret
           exact ⟨by first|rfl|(simp [La,Ka] <;> rfl)|(simp [*,La,Ka] <;> rfl),by repeat (first|(with_reducible first|exact HB.out|apply qa|apply ia|apply ua|refine Aa ?_ Wa.out|refine Aa ?_ Sb.out)|exact HB.out)⟩
          ·replace c86:=Bool.eq_false_iff.mpr c86
           subst c86
           have H1:(some false)=some r:=by rw [if_neg (show ¬ (false=true) by decide)] at H;exact H
           clear H
           have H:=H1
           clear H1
           obtain rfl:=Option.some.inj H
           have SW:=jb.out
           have xW:=Ua.out
           have oG:wc.cell? ⟨Fa,0,none⟩=some (.int .i64 qc):=(ga Ba.out 0).trans rfl
           have nG:wc.cell? ⟨Fa,1,none⟩=some (.int .i64 Fb):=(ga Ba.out 1).trans rfl
           have wab:wc.cell? ⟨Fa,2,none⟩=some (.int .i64 Ob):=(ga Ba.out 2).trans rfl
           have vab:wc.cell? ⟨Fa,3,none⟩=some (.int .i64 Rb):=(ga Ba.out 3).trans rfl
           have uab:wc.cell? ⟨Fa,4,none⟩=some (.int .i64 Qc):=(ga Ba.out 4).trans rfl
           have sab:wc.cell? ⟨Fa,5,none⟩=some (.int .i64 Td):=(ga Ba.out 5).trans rfl
           have rab:wc.cell? ⟨Fa,6,none⟩=some (.string He):=(ga Ba.out 6).trans rfl
           have SE:=aa Ba.out 0
           have RE:=aa Ba.out 1
           have J8:=aa Ba.out 2
           have I8:=aa Ba.out 3
           have H8:=aa Ba.out 4
           have G8:=aa Ba.out 5
           have F8:=aa Ba.out 6
           go_wp2
           go_ret
           exact ⟨by first|rfl|(simp [La,Ka] <;> rfl)|(simp [*,La,Ka] <;> rfl),by repeat (first|(with_reducible first|exact HB.out|apply qa|apply ia|apply ua|refine Aa ?_ Wa.out|refine Aa ?_ Sb.out)|exact HB.out)⟩
         ·rw [if_neg c85] at H
          have N3:(qc == 3)=false:=beq_eq_false_iff_ne.mpr c85
          have L3:(qc != 3)=true:=bne_iff_ne.mpr c85
          by_cases c91:qc=4
          ·rw [if_pos c91] at H
           have K3:(qc == 4)=true:=beq_iff_eq.mpr c91
           have J3:(qc != 4)=false:=bne_eq_false_iff_eq.mpr c91
           clear c91
           by_cases c92:Fb=0
           ·rw [if_pos c92] at H
            have Nv:(Fb == 0)=true:=beq_iff_eq.mpr c92
            have LH:(Fb != 0)=false:=bne_eq_false_iff_eq.mpr c92
            clear c92
            by_cases c93:EB=true
            ·subst c93
             have H1:((Za.f Qc 0 (wrap64 (Pa - 1))).bind fun t112=>(some t112))=some r:=by rw [if_pos rfl] at H;exact H
             clear H
             have H:=H1
             clear H1
             replace H:=Option.bind_eq_some_iff.mp H
             obtain ⟨t112,N6,H⟩:=H
             replace H:(some t112)=some r:=H
             have A94:=ja.mk N6
             clear N6
             obtain rfl:=Option.some.inj H
             have baj:=jb.out
             have oai:=Ua.out
             have qab:wc.cell? ⟨Fa,0,none⟩=some (.int .i64 qc):=(ga Ba.out 0).trans rfl
             have pab:wc.cell? ⟨Fa,1,none⟩=some (.int .i64 Fb):=(ga Ba.out 1).trans rfl
             have oab:wc.cell? ⟨Fa,2,none⟩=some (.int .i64 Ob):=(ga Ba.out 2).trans rfl
             have mab:wc.cell? ⟨Fa,3,none⟩=some (.int .i64 Rb):=(ga Ba.out 3).trans rfl
             have lab:wc.cell? ⟨Fa,4,none⟩=some (.int .i64 Qc):=(ga Ba.out 4).trans rfl
             have kab:wc.cell? ⟨Fa,5,none⟩=some (.int .i64 Td):=(ga Ba.out 5).trans rfl
             have jab:wc.cell? ⟨Fa,6,none⟩=some (.string He):=(ga Ba.out 6).trans rfl
             have E8:=aa Ba.out 0
             have D8:=aa Ba.out 1
             have C8:=aa Ba.out 2
             have r8:=aa Ba.out 3
             have o8:=aa Ba.out 4
             have n8:=aa Ba.out 5
             have m8:=aa Ba.out 6
             have iab:wc.cell? ⟨Ea,0,none⟩=some (.slice Cb Ta.length Bb):=(ga za.out 0).trans rfl
             have gab:wc.cell? ⟨Ea,1,none⟩=some (.int .i64 Ma):=(ga za.out 1).trans rfl
             have fab:wc.cell? ⟨Ea,2,none⟩=some (.int .i64 Oa):=(ga za.out 2).trans rfl
             have eab:wc.cell? ⟨Ea,3,none⟩=some (.int .i64 Pa):=(ga za.out 3).trans rfl
             have dab:wc.cell? ⟨Ea,4,none⟩=some (.slice yc Sa.length Xb):=(ga za.out 4).trans rfl
             have l8:=aa za.out 0
             have j8:=aa za.out 1
             have e8:=aa za.out 2
             have Z7:=aa za.out 3
             have Y7:=aa za.out 4
             go_wp2_with (first|(go_at_call 54;(with_reducible refine (Za.calls Qc 0 (wrap64 (Pa - 1)) t112 _ A94.out).mono ?_);rintro e w' ⟨rfl,⟨nd,rfl⟩⟩))
             go_ret
             exact ⟨by first|rfl|(simp [La,Ka] <;> rfl)|(simp [*,La,Ka] <;> rfl),by repeat (first|(with_reducible first|exact HB.out|apply qa|apply ia|apply ua|refine Aa ?_ Wa.out|refine Aa ?_ Sb.out)|exact HB.out)⟩
            ·replace c93:=Bool.eq_false_iff.mpr c93
             subst c93
             have H1:(some false)=some r:=by rw [if_neg (show ¬ (false=true) by decide)] at H;exact H
             clear H
             have H:=H1
             clear H1
             obtain rfl:=Option.some.inj H
             have Zai:=jb.out
             have mai:=Ua.out
             have aab:wc.cell? ⟨Fa,0,none⟩=some (.int .i64 qc):=(ga Ba.out 0).trans rfl
             have Zaa:wc.cell? ⟨Fa,1,none⟩=some (.int .i64 Fb):=(ga Ba.out 1).trans rfl
             have Yaa:wc.cell? ⟨Fa,2,none⟩=some (.int .i64 Ob):=(ga Ba.out 2).trans rfl
             have Xaa:wc.cell? ⟨Fa,3,none⟩=some (.int .i64 Rb):=(ga Ba.out 3).trans rfl
             have Waa:wc.cell? ⟨Fa,4,none⟩=some (.int .i64 Qc):=(ga Ba.out 4).trans rfl
             have Vaa:wc.cell? ⟨Fa,5,none⟩=some (.int .i64 Td):=(ga Ba.out 5).trans rfl
             have Uaa:wc.cell? ⟨Fa,6,none⟩=some (.string He):=(ga Ba.out 6).trans rfl
             have V7:=aa Ba.out 0
             have U7:=aa Ba.out 1
             have T7:=aa Ba.out 2
             have R7:=aa Ba.out 3
             have Q7:=aa Ba.out 4
             have P7:=aa Ba.out 5
             have O7:=aa Ba.out 6
             go_wp2
             go_ret
             exact ⟨by first|rfl|(simp [La,Ka] <;> rfl)|(simp [*,La,Ka] <;> rfl),by repeat (first|(with_reducible first|exact HB.out|apply qa|apply ia|apply ua|refine Aa ?_ Wa.out|refine Aa ?_ Sb.out)|exact HB.out)⟩
           ·rw [if_neg c92] at H
            have Nv:(Fb == 0)=false:=beq_eq_false_iff_ne.mpr c92
            have LH:(Fb != 0)=true:=bne_iff_ne.mpr c92
            obtain rfl:=Option.some.inj H
            have paf:=jb.out
            have caf:=Ua.out
            have KK:wc.cell? ⟨Fa,0,none⟩=some (.int .i64 qc):=(ga Ba.out 0).trans rfl
            have JK:wc.cell? ⟨Fa,1,none⟩=some (.int .i64 Fb):=(ga Ba.out 1).trans rfl
            have W0:wc.cell? ⟨Fa,2,none⟩=some (.int .i64 Ob):=(ga Ba.out 2).trans rfl
            have V0:wc.cell? ⟨Fa,3,none⟩=some (.int .i64 Rb):=(ga Ba.out 3).trans rfl
            have U0:wc.cell? ⟨Fa,4,none⟩=some (.int .i64 Qc):=(ga Ba.out 4).trans rfl
            have S0:wc.cell? ⟨Fa,5,none⟩=some (.int .i64 Td):=(ga Ba.out 5).trans rfl
            have R0:wc.cell? ⟨Fa,6,none⟩=some (.string He):=(ga Ba.out 6).trans rfl
            have lK:=aa Ba.out 0
            have kK:=aa Ba.out 1
            have KY:=aa Ba.out 2
            have JY:=aa Ba.out 3
            have IY:=aa Ba.out 4
            have HY:=aa Ba.out 5
            have GY:=aa Ba.out 6
            go_wp2
            go_ret
            exact ⟨by first|rfl|(simp [La,Ka] <;> rfl)|(simp [*,La,Ka] <;> rfl),by repeat (first|(with_reducible first|exact HB.out|apply qa|apply ia|apply ua|refine Aa ?_ Wa.out|refine Aa ?_ Sb.out)|exact HB.out)⟩
          ·rw [if_neg c91] at H
           have K3:(qc == 4)=false:=beq_eq_false_iff_ne.mpr c91
           have J3:(qc != 4)=true:=bne_iff_ne.mpr c91
           by_cases c102:qc=5
           ·rw [if_pos c102] at H
            have FU:(qc == 5)=true:=beq_iff_eq.mpr c102
            have EU:(qc != 5)=false:=bne_eq_false_iff_eq.mpr c102
            clear c102
            by_cases c103:t103=true
            ·subst c103
             have H1:(if Ob=0 then (if Rb=0 then (some (Td == 0)) else (some false)) else (some false))=some r:=by rw [if_pos rfl] at H;exact H
             clear H
             have H:=H1
             clear H1
             by_cases c104:Ob=0
             ·rw [if_pos c104] at H
              have DU:(Ob == 0)=true:=beq_iff_eq.mpr c104
              have CU:(Ob != 0)=false:=bne_eq_false_iff_eq.mpr c104
              clear c104
              by_cases c105:Rb=0
              ·rw [if_pos c105] at H
               have BU:(Rb == 0)=true:=beq_iff_eq.mpr c105
               have AU:(Rb != 0)=false:=bne_eq_false_iff_eq.mpr c105
               clear c105
               obtain rfl:=Option.some.inj H
               have oaf:=jb.out
               have baf:=Ua.out
               have Q0:wc.cell? ⟨Fa,0,none⟩=some (.int .i64 qc):=(ga Ba.out 0).trans rfl
               have P0:wc.cell? ⟨Fa,1,none⟩=some (.int .i64 Fb):=(ga Ba.out 1).trans rfl
               have O0:wc.cell? ⟨Fa,2,none⟩=some (.int .i64 Ob):=(ga Ba.out 2).trans rfl
               have N0:wc.cell? ⟨Fa,3,none⟩=some (.int .i64 Rb):=(ga Ba.out 3).trans rfl
               have M0:wc.cell? ⟨Fa,4,none⟩=some (.int .i64 Qc):=(ga Ba.out 4).trans rfl
               have L0:wc.cell? ⟨Fa,5,none⟩=some (.int .i64 Td):=(ga Ba.out 5).trans rfl
               have K0:wc.cell? ⟨Fa,6,none⟩=some (.string He):=(ga Ba.out 6).trans rfl
               have FY:=aa Ba.out 0
               have EY:=aa Ba.out 1
               have DY:=aa Ba.out 2
               have CY:=aa Ba.out 3
               have AY:=aa Ba.out 4
               have zY:=aa Ba.out 5
               have yY:=aa Ba.out 6
               go_wp2
               go_ret
               exact ⟨by first|rfl|(simp [La,Ka] <;> rfl)|(simp [*,La,Ka] <;> rfl),by repeat (first|(with_reducible first|exact HB.out|apply qa|apply ia|apply ua|refine Aa ?_ Wa.out|refine Aa ?_ Sb.out)|exact HB.out)⟩
              ·rw [if_neg c105] at H
               have BU:(Rb == 0)=false:=beq_eq_false_iff_ne.mpr c105
               have AU:(Rb != 0)=true:=bne_iff_ne.mpr c105
               obtain rfl:=Option.some.inj H
               have naf:=jb.out
               have aaf:=Ua.out
               have I0:wc.cell? ⟨Fa,0,none⟩=some (.int .i64 qc):=(ga Ba.out 0).trans rfl
               have G0:wc.cell? ⟨Fa,1,none⟩=some (.int .i64 Fb):=(ga Ba.out 1).trans rfl
               have C0:wc.cell? ⟨Fa,2,none⟩=some (.int .i64 Ob):=(ga Ba.out 2).trans rfl
               have ZZ:wc.cell? ⟨Fa,3,none⟩=some (.int .i64 Rb):=(ga Ba.out 3).trans rfl
               have YZ:wc.cell? ⟨Fa,4,none⟩=some (.int .i64 Qc):=(ga Ba.out 4).trans rfl
               have XZ:wc.cell? ⟨Fa,5,none⟩=some (.int .i64 Td):=(ga Ba.out 5).trans rfl
               have WZ:wc.cell? ⟨Fa,6,none⟩=some (.string He):=(ga Ba.out 6).trans rfl
               have xY:=aa Ba.out 0
               have wY:=aa Ba.out 1
               have vY:=aa Ba.out 2
               have uY:=aa Ba.out 3
               have sY:=aa Ba.out 4
               have rY:=aa Ba.out 5
               have qY:=aa Ba.out 6
               go_wp2
               go_ret
               exact ⟨by first|rfl|(simp [La,Ka] <;> rfl)|(simp [*,La,Ka] <;> rfl),by repeat (first|(with_reducible first|exact HB.out|apply qa|apply ia|apply ua|refine Aa ?_ Wa.out|refine Aa ?_ Sb.out)|exact HB.out)⟩
             ·rw [if_neg c104] at H
              have DU:(Ob == 0)=false:=beq_eq_false_iff_ne.mpr c104
              have CU:(Ob != 0)=true:=bne_iff_ne.mpr c104
              obtain rfl:=Option.some.inj H
              have maf:=jb.out
              have Zae:=Ua.out
              have VZ:wc.cell? ⟨Fa,0,none⟩=some (.int .i64 qc):=(ga Ba.out 0).trans rfl
              have UZ:wc.cell? ⟨Fa,1,none⟩=some (.int .i64 Fb):=(ga Ba.out 1).trans rfl
              have TZ:wc.cell? ⟨Fa,2,none⟩=some (.int .i64 Ob):=(ga Ba.out 2).trans rfl
              have SZ:wc.cell? ⟨Fa,3,none⟩=some (.int .i64 Rb):=(ga Ba.out 3).trans rfl
              have RZ:wc.cell? ⟨Fa,4,none⟩=some (.int .i64 Qc):=(ga Ba.out 4).trans rfl
              have QZ:wc.cell? ⟨Fa,5,none⟩=some (.int .i64 Td):=(ga Ba.out 5).trans rfl
              have PZ:wc.cell? ⟨Fa,6,none⟩=some (.string He):=(ga Ba.out 6).trans rfl
              have pY:=aa Ba.out 0
              have oY:=aa Ba.out 1
              have nY:=aa Ba.out 2
              have mY:=aa Ba.out 3
              have lY:=aa Ba.out 4
              have kY:=aa Ba.out 5
              have jY:=aa Ba.out 6
              go_wp2
              go_ret
              exact ⟨by first|rfl|(simp [La,Ka] <;> rfl)|(simp [*,La,Ka] <;> rfl),by repeat (first|(with_reducible first|exact HB.out|apply qa|apply ia|apply ua|refine Aa ?_ Wa.out|refine Aa ?_ Sb.out)|exact HB.out)⟩
            ·replace c103:=Bool.eq_false_iff.mpr c103
             subst c103
             have H1:(some false)=some r:=by rw [if_neg (show ¬ (false=true) by decide)] at H;exact H
             clear H
             have H:=H1
             clear H1
             obtain rfl:=Option.some.inj H
             have laf:=jb.out
             have Yae:=Ua.out
             have OZ:wc.cell? ⟨Fa,0,none⟩=some (.int .i64 qc):=(ga Ba.out 0).trans rfl
             have NZ:wc.cell? ⟨Fa,1,none⟩=some (.int .i64 Fb):=(ga Ba.out 1).trans rfl
             have MZ:wc.cell? ⟨Fa,2,none⟩=some (.int .i64 Ob):=(ga Ba.out 2).trans rfl
             have LZ:wc.cell? ⟨Fa,3,none⟩=some (.int .i64 Rb):=(ga Ba.out 3).trans rfl
             have KZ:wc.cell? ⟨Fa,4,none⟩=some (.int .i64 Qc):=(ga Ba.out 4).trans rfl
             have JZ:wc.cell? ⟨Fa,5,none⟩=some (.int .i64 Td):=(ga Ba.out 5).trans rfl
             have IZ:wc.cell? ⟨Fa,6,none⟩=some (.string He):=(ga Ba.out 6).trans rfl
             have iY:=aa Ba.out 0
             have hY:=aa Ba.out 1
             have gY:=aa Ba.out 2
             have fY:=aa Ba.out 3
             have eY:=aa Ba.out 4
             have dY:=aa Ba.out 5
             have cY:=aa Ba.out 6
             go_wp2
             go_ret
             exact ⟨by first|rfl|(simp [La,Ka] <;> rfl)|(simp [*,La,Ka] <;> rfl),by repeat (first|(with_reducible first|exact HB.out|apply qa|apply ia|apply ua|refine Aa ?_ Wa.out|refine Aa ?_ Sb.out)|exact HB.out)⟩
           ·rw [if_neg c102] at H
            have FU:(qc == 5)=false:=beq_eq_false_iff_ne.mpr c102
            have EU:(qc != 5)=true:=bne_iff_ne.mpr c102
            by_cases c114:qc=6
            ·rw [if_pos c114] at H
             have yU:(qc == 6)=true:=beq_iff_eq.mpr c114
             have xU:(qc != 6)=false:=bne_eq_false_iff_eq.mpr c114
             clear c114
             by_cases c115:Fb=0
             ·rw [if_pos c115] at H
              have wU:(Fb == 0)=true:=beq_iff_eq.mpr c115
              have vU:(Fb != 0)=false:=bne_eq_false_iff_eq.mpr c115
              clear c115
              by_cases c116:t104=true
              ·subst c116
               have H1:(if Rb=0 then (some (Td == 0)) else (some false))=some r:=by rw [if_pos rfl] at H;exact H
               clear H
               have H:=H1
               clear H1
               by_cases c117:Rb=0
               ·rw [if_pos c117] at H
                have uU:(Rb == 0)=true:=beq_iff_eq.mpr c117
                have tU:(Rb != 0)=false:=bne_eq_false_iff_eq.mpr c117
                clear c117
                obtain rfl:=Option.some.inj H
                have kaf:=jb.out
                have Xae:=Ua.out
                have GZ:wc.cell? ⟨Fa,0,none⟩=some (.int .i64 qc):=(ga Ba.out 0).trans rfl
                have FZ:wc.cell? ⟨Fa,1,none⟩=some (.int .i64 Fb):=(ga Ba.out 1).trans rfl
                have EZ:wc.cell? ⟨Fa,2,none⟩=some (.int .i64 Ob):=(ga Ba.out 2).trans rfl
                have DZ:wc.cell? ⟨Fa,3,none⟩=some (.int .i64 Rb):=(ga Ba.out 3).trans rfl
                have CZ:wc.cell? ⟨Fa,4,none⟩=some (.int .i64 Qc):=(ga Ba.out 4).trans rfl
                have BZ:wc.cell? ⟨Fa,5,none⟩=some (.int .i64 Td):=(ga Ba.out 5).trans rfl
                have AZ:wc.cell? ⟨Fa,6,none⟩=some (.string He):=(ga Ba.out 6).trans rfl
                have bY:=aa Ba.out 0
                have aY:=aa Ba.out 1
                have ZX:=aa Ba.out 2
                have YX:=aa Ba.out 3
                have XX:=aa Ba.out 4
                have WX:=aa Ba.out 5
                have VX:=aa Ba.out 6
                go_wp2
                go_ret
                exact ⟨by first|rfl|(simp [La,Ka] <;> rfl)|(simp [*,La,Ka] <;> rfl),by repeat (first|(with_reducible first|exact HB.out|apply qa|apply ia|apply ua|refine Aa ?_ Wa.out|refine Aa ?_ Sb.out)|exact HB.out)⟩
               ·rw [if_neg c117] at H
                have uU:(Rb == 0)=false:=beq_eq_false_iff_ne.mpr c117
                have tU:(Rb != 0)=true:=bne_iff_ne.mpr c117
                obtain rfl:=Option.some.inj H
                have jaf:=jb.out
                have Wae:=Ua.out
                have zZ:wc.cell? ⟨Fa,0,none⟩=some (.int .i64 qc):=(ga Ba.out 0).trans rfl
                have yZ:wc.cell? ⟨Fa,1,none⟩=some (.int .i64 Fb):=(ga Ba.out 1).trans rfl
                have xZ:wc.cell? ⟨Fa,2,none⟩=some (.int .i64 Ob):=(ga Ba.out 2).trans rfl
                have wZ:wc.cell? ⟨Fa,3,none⟩=some (.int .i64 Rb):=(ga Ba.out 3).trans rfl
                have vZ:wc.cell? ⟨Fa,4,none⟩=some (.int .i64 Qc):=(ga Ba.out 4).trans rfl
                have uZ:wc.cell? ⟨Fa,5,none⟩=some (.int .i64 Td):=(ga Ba.out 5).trans rfl
                have tZ:wc.cell? ⟨Fa,6,none⟩=some (.string He):=(ga Ba.out 6).trans rfl
                have UX:=aa Ba.out 0
                have SX:=aa Ba.out 1
                have RX:=aa Ba.out 2
                have QX:=aa Ba.out 3
                have PX:=aa Ba.out 4
                have OX:=aa Ba.out 5
                have NX:=aa Ba.out 6
                go_wp2
                go_ret
                exact ⟨by first|rfl|(simp [La,Ka] <;> rfl)|(simp [*,La,Ka] <;> rfl),by repeat (first|(with_reducible first|exact HB.out|apply qa|apply ia|apply ua|refine Aa ?_ Wa.out|refine Aa ?_ Sb.out)|exact HB.out)⟩
              ·replace c116:=Bool.eq_false_iff.mpr c116
               subst c116
               have H1:(some false)=some r:=by rw [if_neg (show ¬ (false=true) by decide)] at H;exact H
               clear H
               have H:=H1
               clear H1
               obtain rfl:=Option.some.inj H
               have iaf:=jb.out
               have Vae:=Ua.out
               have sZ:wc.cell? ⟨Fa,0,none⟩=some (.int .i64 qc):=(ga Ba.out 0).trans rfl
               have rZ:wc.cell? ⟨Fa,1,none⟩=some (.int .i64 Fb):=(ga Ba.out 1).trans rfl
               have qZ:wc.cell? ⟨Fa,2,none⟩=some (.int .i64 Ob):=(ga Ba.out 2).trans rfl
               have pZ:wc.cell? ⟨Fa,3,none⟩=some (.int .i64 Rb):=(ga Ba.out 3).trans rfl
               have oZ:wc.cell? ⟨Fa,4,none⟩=some (.int .i64 Qc):=(ga Ba.out 4).trans rfl
               have nZ:wc.cell? ⟨Fa,5,none⟩=some (.int .i64 Td):=(ga Ba.out 5).trans rfl
               have mZ:wc.cell? ⟨Fa,6,none⟩=some (.string He):=(ga Ba.out 6).trans rfl
               have MX:=aa Ba.out 0
               have LX:=aa Ba.out 1
               have KX:=aa Ba.out 2
               have JX:=aa Ba.out 3
               have IX:=aa Ba.out 4
               have GX:=aa Ba.out 5
               have FX:=aa Ba.out 6
               go_wp2
               go_ret
               exact ⟨by first|rfl|(simp [La,Ka] <;> rfl)|(simp [*,La,Ka] <;> rfl),by repeat (first|(with_reducible first|exact HB.out|apply qa|apply ia|apply ua|refine Aa ?_ Wa.out|refine Aa ?_ Sb.out)|exact HB.out)⟩
             ·rw [if_neg c115] at H
              have wU:(Fb == 0)=false:=beq_eq_false_iff_ne.mpr c115
              have vU:(Fb != 0)=true:=bne_iff_ne.mpr c115
              obtain rfl:=Option.some.inj H
              have haf:=jb.out
              have Uae:=Ua.out
              have lZ:wc.cell? ⟨Fa,0,none⟩=some (.int .i64 qc):=(ga Ba.out 0).trans rfl
              have kZ:wc.cell? ⟨Fa,1,none⟩=some (.int .i64 Fb):=(ga Ba.out 1).trans rfl
              have jZ:wc.cell? ⟨Fa,2,none⟩=some (.int .i64 Ob):=(ga Ba.out 2).trans rfl
              have iZ:wc.cell? ⟨Fa,3,none⟩=some (.int .i64 Rb):=(ga Ba.out 3).trans rfl
              have gZ:wc.cell? ⟨Fa,4,none⟩=some (.int .i64 Qc):=(ga Ba.out 4).trans rfl
              have fZ:wc.cell? ⟨Fa,5,none⟩=some (.int .i64 Td):=(ga Ba.out 5).trans rfl
              have eZ:wc.cell? ⟨Fa,6,none⟩=some (.string He):=(ga Ba.out 6).trans rfl
              have EX:=aa Ba.out 0
              have DX:=aa Ba.out 1
              have CX:=aa Ba.out 2
              have BX:=aa Ba.out 3
              have AX:=aa Ba.out 4
              have zX:=aa Ba.out 5
              have yX:=aa Ba.out 6
              go_wp2
              go_ret
              exact ⟨by first|rfl|(simp [La,Ka] <;> rfl)|(simp [*,La,Ka] <;> rfl),by repeat (first|(with_reducible first|exact HB.out|apply qa|apply ia|apply ua|refine Aa ?_ Wa.out|refine Aa ?_ Sb.out)|exact HB.out)⟩
            ·rw [if_neg c114] at H
             have yU:(qc == 6)=false:=beq_eq_false_iff_ne.mpr c114
             have xU:(qc != 6)=true:=bne_iff_ne.mpr c114
             obtain rfl:=Option.some.inj H
             have gaf:=jb.out
             have Tae:=Ua.out
             have dZ:wc.cell? ⟨Fa,0,none⟩=some (.int .i64 qc):=(ga Ba.out 0).trans rfl
             have cZ:wc.cell? ⟨Fa,1,none⟩=some (.int .i64 Fb):=(ga Ba.out 1).trans rfl
             have bZ:wc.cell? ⟨Fa,2,none⟩=some (.int .i64 Ob):=(ga Ba.out 2).trans rfl
             have aZ:wc.cell? ⟨Fa,3,none⟩=some (.int .i64 Rb):=(ga Ba.out 3).trans rfl
             have ZY:wc.cell? ⟨Fa,4,none⟩=some (.int .i64 Qc):=(ga Ba.out 4).trans rfl
             have YY:wc.cell? ⟨Fa,5,none⟩=some (.int .i64 Td):=(ga Ba.out 5).trans rfl
             have XY:wc.cell? ⟨Fa,6,none⟩=some (.string He):=(ga Ba.out 6).trans rfl
             have xX:=aa Ba.out 0
             have wX:=aa Ba.out 1
             have vX:=aa Ba.out 2
             have uX:=aa Ba.out 3
             have sX:=aa Ba.out 4
             have rX:=aa Ba.out 5
             have qX:=aa Ba.out 6
             go_wp2
             go_ret
             exact ⟨by first|rfl|(simp [La,Ka] <;> rfl)|(simp [*,La,Ka] <;> rfl),by repeat (first|(with_reducible first|exact HB.out|apply qa|apply ia|apply ua|refine Aa ?_ Wa.out|refine Aa ?_ Sb.out)|exact HB.out)⟩
end Go.Proofs.Ytmifdccaajngcaa.P
