import Derived.Test.YtkigbdceceeenaaQPressure1
set_option maxHeartbeats 8000000
set_option maxRecDepth 100000
namespace Go.Proofs.Ytkigbdceceeenaa.P
open Go.RowKit Go.Proofs.Oa.Wb Go.Proofs.Oa.Vd Go.Proofs.Oa.Xe
attribute [local go_sem] bh Gh Ki Cj Mg Lg Hh Fh
set_option linter.unusedVariables false
set_option linter.unusedSimpArgs false
mutual
def mb.j0:Nat→Bool→Bool→Bool→Bool→List Int→Int→Int→Int→List (Ce)→Int→Int→Int→Int→Int→Int→ByteArray→Option (Bool)
 | 0,_,_,_,_,_,_,_,_,_,_,_,_,_,_,_,_=>none
 | k + 1,x5,x6,x7,x8,fc,Gc,nc,mc,Kb,Ef,Aj,ek,Ji,Ii,vm,Zo=>if Ef=2 then (if Ef=4 then (mb.j1 k x5 x6 x7 x8 false fc Gc nc mc Kb Ef Aj ek Ji Ii vm Zo) else (mb.j1 k x5 x6 x7 x8 (Ii != 0) fc Gc nc mc Kb Ef Aj ek Ji Ii vm Zo)) else (if Zo.toList=([]:List UInt8) then (if Ef=4 then (mb.j1 k x5 x6 x7 x8 false fc Gc nc mc Kb Ef Aj ek Ji Ii vm Zo) else (mb.j1 k x5 x6 x7 x8 (Ii != 0) fc Gc nc mc Kb Ef Aj ek Ji Ii vm Zo)) else (mb.j1 k x5 x6 x7 x8 true fc Gc nc mc Kb Ef Aj ek Ji Ii vm Zo))
def mb.j1:Nat→Bool→Bool→Bool→Bool→Bool→List Int→Int→Int→Int→List (Ce)→Int→Int→Int→Int→Int→Int→ByteArray→Option (Bool)
 | 0,_,_,_,_,_,_,_,_,_,_,_,_,_,_,_,_,_=>none
 | k + 1,x5,x6,x7,x8,x62,fc,Gc,nc,mc,Kb,Ef,Aj,ek,Ji,Ii,vm,Zo=>if x62=true then (some false) else (if Ef=0 then (if x5=true then (if ek=0 then (some (Ji == 0)) else (some false)) else (some false)) else (if Ef=1 then (if x5=true then (if x6=true then (if Ji=0 then (some (vm == 0)) else (some false)) else (some false)) else (some false)) else (if Ef=2 then (if x5=true then (if x6=true then (if x7=true then (if vm=0 then ((me.f k (([(⟨#[61,61]⟩:ByteArray),(⟨#[60]⟩:ByteArray),(⟨#[38]⟩:ByteArray),(⟨#[43]⟩:ByteArray),(⟨#[45]⟩:ByteArray),(⟨#[42]⟩:ByteArray)]:List ByteArray)) Zo).bind fun t111=>(some t111)) else (some false)) else (some false)) else (some false)) else (some false)) else (if Ef=3 then (if x5=true then (some x8) else (some false)) else (if Ef=4 then (if Aj=0 then (if x8=true then ((Xa.f Ii 0 (wrap64 (mc - 1))).bind fun t112=>(some t112)) else (some false)) else (some false)) else (if Ef=5 then (if x5=true then (if ek=0 then (if Ji=0 then (some (vm == 0)) else (some false)) else (some false)) else (some false)) else (if Ef=6 then (if Aj=0 then (if x6=true then (if Ji=0 then (some (vm == 0)) else (some false)) else (some false)) else (some false)) else (some false))))))))
end
def mb.f (k:Nat) (Pa:List Int) (Ka:Int) (Ga:Int) (Ia:Int) (Da:List (Ce)) (Cc:Int) (Ub:Int) (Lb:Int) (Mb:Int) (ec:Int) (Nc:Int) (Tc:ByteArray):Option (Bool):=(Xa.f Ub 0 (wrap64 (Ia - 1))).bind fun t103=>((Xa.f Lb 0 (wrap64 (Ia - 1))).bind fun t104=>((Xa.f Mb 0 (wrap64 (Ia - 1))).bind fun t105=>(if t104=true then (if t105=true then ((Xa.f Nc 0 (wrap64 ((Pa.length:Int) - 1))).bind fun t106=>(mb.j0 k t103 t104 t105 t106 Pa Ka Ga Ia Da Cc Ub Lb Mb ec Nc Tc)) else (mb.j0 k t103 t104 t105 false Pa Ka Ga Ia Da Cc Ub Lb Mb ec Nc Tc)) else (if Lb=(-1) then (if t105=true then ((Xa.f Nc 0 (wrap64 ((Pa.length:Int) - 1))).bind fun t107=>(mb.j0 k t103 t104 t105 t107 Pa Ka Ga Ia Da Cc Ub Lb Mb ec Nc Tc)) else (mb.j0 k t103 t104 t105 false Pa Ka Ga Ia Da Cc Ub Lb Mb ec Nc Tc)) else (mb.j0 k t103 t104 t105 false Pa Ka Ga Ia Da Cc Ub Lb Mb ec Nc Tc)))))
theorem mb.calls (k:Nat) (Ya:Option Addr) (Za:Nat) (Pa:List Int) (Ka:Int) (Ga:Int) (Ia:Int) (Vb:Option Addr) (Jb:Nat) (Da:List (Ce)) (Cc:Int) (Ub:Int) (Lb:Int) (Mb:Int) (ec:Int) (Nc:Int) (Tc:ByteArray) (r:Bool) (w:World) (Wd:Kd.C (Kd.int .i64) w Ya Pa.length Pa) (Sd:Pa.length ≤ Za) (zf:Kd.C Mt w Vb Da.length Da) (uf:Da.length ≤ Jb) (h:mb.f k Pa Ka Ga Ia Da Cc Ub Lb Mb ec Nc Tc=some r) :
  Calls Try.prog 97 #[.agg #[.slice Ya Pa.length Za,.int .i64 Ka,.int .i64 Ga,.int .i64 Ia,.slice Vb Da.length Jb],.agg #[.int .i64 Cc,.int .i64 Ub,.int .i64 Lb,.int .i64 Mb,.int .i64 ec,.int .i64 Nc,.string Tc]] w fun e w'=>e = .returned (.bool r)∧Below w.heap.size w w':=by
 have LD:=Try.underlying30;have ox:=Try.underlying65;have qe:=ja.mk Wd;have Be:=ja.mk Sd;clear Wd Sd;have Hf:=ja.mk zf;have Tg:=ja.mk uf;clear zf uf;have HB:=ja.mk (Below.refl w.heap.size w);have H:((Xa.f Ub 0 (wrap64 (Ia - 1))).bind fun t103=>((Xa.f Lb 0 (wrap64 (Ia - 1))).bind fun t104=>((Xa.f Mb 0 (wrap64 (Ia - 1))).bind fun t105=>(if t104=true then (if t105=true then ((Xa.f Nc 0 (wrap64 ((Pa.length:Int) - 1))).bind fun t106=>(mb.j0 k t103 t104 t105 t106 Pa Ka Ga Ia Da Cc Ub Lb Mb ec Nc Tc)) else (mb.j0 k t103 t104 t105 false Pa Ka Ga Ia Da Cc Ub Lb Mb ec Nc Tc)) else (if Lb=(-1) then (if t105=true then ((Xa.f Nc 0 (wrap64 ((Pa.length:Int) - 1))).bind fun t107=>(mb.j0 k t103 t104 t105 t107 Pa Ka Ga Ia Da Cc Ub Lb Mb ec Nc Tc)) else (mb.j0 k t103 t104 t105 false Pa Ka Ga Ia Da Cc Ub Lb Mb ec Nc Tc)) else (mb.j0 k t103 t104 t105 false Pa Ka Ga Ia Da Cc Ub Lb Mb ec Nc Tc))))))=some r:=h;clear h;replace H:=Option.bind_eq_some_iff.mp H;obtain ⟨t103,dw,H⟩:=H;replace H:((Xa.f Lb 0 (wrap64 (Ia - 1))).bind fun t104=>((Xa.f Mb 0 (wrap64 (Ia - 1))).bind fun t105=>(if t104=true then (if t105=true then ((Xa.f Nc 0 (wrap64 ((Pa.length:Int) - 1))).bind fun t106=>(mb.j0 k t103 t104 t105 t106 Pa Ka Ga Ia Da Cc Ub Lb Mb ec Nc Tc)) else (mb.j0 k t103 t104 t105 false Pa Ka Ga Ia Da Cc Ub Lb Mb ec Nc Tc)) else (if Lb=(-1) then (if t105=true then ((Xa.f Nc 0 (wrap64 ((Pa.length:Int) - 1))).bind fun t107=>(mb.j0 k t103 t104 t105 t107 Pa Ka Ga Ia Da Cc Ub Lb Mb ec Nc Tc)) else (mb.j0 k t103 t104 t105 false Pa Ka Ga Ia Da Cc Ub Lb Mb ec Nc Tc)) else (mb.j0 k t103 t104 t105 false Pa Ka Ga Ia Da Cc Ub Lb Mb ec Nc Tc)))))=some r:=H;have A3:=ja.mk dw;clear dw;replace H:=Option.bind_eq_some_iff.mp H;obtain ⟨t104,oS,H⟩:=H;replace H:((Xa.f Mb 0 (wrap64 (Ia - 1))).bind fun t105=>(if t104=true then (if t105=true then ((Xa.f Nc 0 (wrap64 ((Pa.length:Int) - 1))).bind fun t106=>(mb.j0 k t103 t104 t105 t106 Pa Ka Ga Ia Da Cc Ub Lb Mb ec Nc Tc)) else (mb.j0 k t103 t104 t105 false Pa Ka Ga Ia Da Cc Ub Lb Mb ec Nc Tc)) else (if Lb=(-1) then (if t105=true then ((Xa.f Nc 0 (wrap64 ((Pa.length:Int) - 1))).bind fun t107=>(mb.j0 k t103 t104 t105 t107 Pa Ka Ga Ia Da Cc Ub Lb Mb ec Nc Tc)) else (mb.j0 k t103 t104 t105 false Pa Ka Ga Ia Da Cc Ub Lb Mb ec Nc Tc)) else (mb.j0 k t103 t104 t105 false Pa Ka Ga Ia Da Cc Ub Lb Mb ec Nc Tc))))=some r:=H;have A4:=ja.mk oS;clear oS;replace H:=Option.bind_eq_some_iff.mp H;obtain ⟨t105,A50,H⟩:=H;replace H:(if t104=true then (if t105=true then ((Xa.f Nc 0 (wrap64 ((Pa.length:Int) - 1))).bind fun t106=>(mb.j0 k t103 t104 t105 t106 Pa Ka Ga Ia Da Cc Ub Lb Mb ec Nc Tc)) else (mb.j0 k t103 t104 t105 false Pa Ka Ga Ia Da Cc Ub Lb Mb ec Nc Tc)) else (if Lb=(-1) then (if t105=true then ((Xa.f Nc 0 (wrap64 ((Pa.length:Int) - 1))).bind fun t107=>(mb.j0 k t103 t104 t105 t107 Pa Ka Ga Ia Da Cc Ub Lb Mb ec Nc Tc)) else (mb.j0 k t103 t104 t105 false Pa Ka Ga Ia Da Cc Ub Lb Mb ec Nc Tc)) else (mb.j0 k t103 t104 t105 false Pa Ka Ga Ia Da Cc Ub Lb Mb ec Nc Tc)))=some r:=H;have A5:=ja.mk A50;clear A50;have HC6:=ja.mk H;clear H;go_enter Try.func97,Try.ntmps97
 go_upto_region 4 with (first|((with_reducible refine yb (N:=2) rfl ?_);(try (refine xg (by rfl) ?_;dsimp only));refine Gb ?hg (N:=2) ?hd (cs:=#[.slice Ya Pa.length Za,.int .i64 Ka,.int .i64 Ga,.int .i64 Ia,.slice Vb Da.length Jb]) (t:=30) ?hr ?_;(case hd=>rfl);(case hg=>rfl);(case hr=>first|(go_simp;done)|(go_simp;rfl));intro ya hg w7 Qb hb;have Fb:=ja.mk (Qa (by repeat (first|(with_reducible first|exact HB.out|apply qa|apply ia|apply ta)|exact HB.out)) hb);have Ib:=ja.mk (Qb);have Sb:=ja.mk ((by rw [hg];exact (Fa (by repeat (first|(with_reducible first|exact HB.out|apply qa|apply ia|apply ta)|exact HB.out))):w.heap.size ≤ ya));have Ec:=ja.mk ((by rw [hg];exact (Fa (by repeat (first|(with_reducible first|exact HB.out|apply qa|apply ia|apply ta)|exact HB.out))):w.heap.size ≤ ya));clear HB;have HB:=Fb;have oa:=Ib;have yd:=Sb;have Sa:=Ec;clear Fb Ib Sb Ec hb Qb hg)|((with_reducible refine yb (N:=3) rfl ?_);(try (refine xg (by rfl) ?_;dsimp only));refine Gb ?hg (N:=3) ?hd (cs:=#[.int .i64 Cc,.int .i64 Ub,.int .i64 Lb,.int .i64 Mb,.int .i64 ec,.int .i64 Nc,.string Tc]) (t:=65) ?hr ?_;(case hd=>rfl);(case hg=>rfl);(case hr=>first|(go_simp;done)|(go_simp;rfl));intro Ja hg w8 Qb hb;have Fb:=ja.mk (Ua (g:=ya) (o:=.cells #[.slice Ya Pa.length Za,.int .i64 Ka,.int .i64 Ga,.int .i64 Ia,.slice Vb Da.length Jb] 30 (0,0)) (by (with_reducible repeat (first|refine Ba ?_ _|refine Ea ?_|refine Ca ?_ _));exact oa.out) hb);have Ib:=ja.mk (Qa (by repeat (first|(with_reducible first|exact HB.out|apply qa|apply ia|apply ta|refine ua ?_ Sa.out)|exact HB.out)) hb);have Sb:=ja.mk (Qb);have Ec:=ja.mk ((by rw [hg];exact (Fa (by repeat (first|(with_reducible first|exact HB.out|apply qa|apply ia|apply ta|refine ua ?_ Sa.out)|exact HB.out))):w.heap.size ≤ Ja));have Re:=ja.mk ((by rw [hg];exact (Fa (by repeat (first|(with_reducible first|exact HB.out|apply qa|apply ia|apply ta|refine ua ?_ Sa.out)|exact HB.out))):w.heap.size ≤ Ja));have Gf:=ja.mk ((by rw [hg];exact Nat.ne_of_lt (Jc (g:=ya) (o:=.cells #[.slice Ya Pa.length Za,.int .i64 Ka,.int .i64 Ga,.int .i64 Ia,.slice Vb Da.length Jb] 30 (0,0)) (by (with_reducible repeat (first|refine Ba ?_ _|refine Ea ?_|refine Ca ?_ _));exact oa.out)):ya ≠ Ja));have Yf:=ja.mk ((by rw [hg];exact Nat.ne_of_gt (Jc (g:=ya) (o:=.cells #[.slice Ya Pa.length Za,.int .i64 Ka,.int .i64 Ga,.int .i64 Ia,.slice Vb Da.length Jb] 30 (0,0)) (by (with_reducible repeat (first|refine Ba ?_ _|refine Ea ?_|refine Ca ?_ _));exact oa.out)):Ja ≠ ya));clear oa HB;have oa:=Fb;have HB:=Ib;have za:=Sb;have rj:=Ec;have Bc:=Re;have Db:=Gf;have Cb:=Yf;clear Fb Ib Sb Ec Re Gf Yf hb Qb hg;have vaj:=Cb.out;have haj:=Db.out;have Fk:w8.cell? ⟨Ja,0,none⟩=some (.int .i64 Cc):=(ga za.out 0).trans rfl;have Ek:w8.cell? ⟨Ja,1,none⟩=some (.int .i64 Ub):=(ga za.out 1).trans rfl;have Dk:w8.cell? ⟨Ja,2,none⟩=some (.int .i64 Lb):=(ga za.out 2).trans rfl;have Ck:w8.cell? ⟨Ja,3,none⟩=some (.int .i64 Mb):=(ga za.out 3).trans rfl;have Bk:w8.cell? ⟨Ja,4,none⟩=some (.int .i64 ec):=(ga za.out 4).trans rfl;have Gy:w8.cell? ⟨Ja,5,none⟩=some (.int .i64 Nc):=(ga za.out 5).trans rfl;have Fy:w8.cell? ⟨Ja,6,none⟩=some (.string Tc):=(ga za.out 6).trans rfl;have Ak:=aa za.out 0;have zk:=aa za.out 1;have xk:=aa za.out 2;have vk:=aa za.out 3;have uk:=aa za.out 4;have Xx:=aa za.out 5;have Wx:=aa za.out 6;have Xs:w8.cell? ⟨ya,0,none⟩=some (.slice Ya Pa.length Za):=(ga oa.out 0).trans rfl;have Ws:w8.cell? ⟨ya,1,none⟩=some (.int .i64 Ka):=(ga oa.out 1).trans rfl;have Vs:w8.cell? ⟨ya,2,none⟩=some (.int .i64 Ga):=(ga oa.out 2).trans rfl;have Us:w8.cell? ⟨ya,3,none⟩=some (.int .i64 Ia):=(ga oa.out 3).trans rfl;have Ts:w8.cell? ⟨ya,4,none⟩=some (.slice Vb Da.length Jb):=(ga oa.out 4).trans rfl;have Tr:=aa oa.out 0;have Sr:=aa oa.out 1;have Qr:=aa oa.out 2;have Pr:=aa oa.out 3;have Nr:=aa oa.out 4)|((with_reducible refine jb (f:=53) rfl ?_);refine Fc (some 14) rfl rfl Try.func53 (by kernel_rfl) rfl #[.int .i64 Ub,.int .i64 0,.int .i64 (wrap64 (Ia - 1))] rfl (by (try simp only [List.map_toArray,List.map_cons,List.map_nil]);first|done|rfl|(simp only [List.length_drop,List.length_take];rfl)) ?_;(with_reducible refine (Xa.calls Ub 0 (wrap64 (Ia - 1)) t103 _ A3.out).mono ?_);rintro e w' ⟨rfl,⟨nd,rfl⟩⟩;refine ⟨_,rfl,?_⟩)|((with_reducible refine jb (f:=53) rfl ?_);refine Fc (some 20) rfl rfl Try.func53 (by kernel_rfl) rfl #[.int .i64 Lb,.int .i64 0,.int .i64 (wrap64 (Ia - 1))] rfl (by (try simp only [List.map_toArray,List.map_cons,List.map_nil]);first|done|rfl|(simp only [List.length_drop,List.length_take];rfl)) ?_;(with_reducible refine (Xa.calls Lb 0 (wrap64 (Ia - 1)) t104 _ A4.out).mono ?_);rintro e w' ⟨rfl,⟨nd,rfl⟩⟩;refine ⟨_,rfl,?_⟩)|((with_reducible refine jb (f:=53) rfl ?_);refine Fc (some 26) rfl rfl Try.func53 (by kernel_rfl) rfl #[.int .i64 Mb,.int .i64 0,.int .i64 (wrap64 (Ia - 1))] rfl (by (try simp only [List.map_toArray,List.map_cons,List.map_nil]);first|done|rfl|(simp only [List.length_drop,List.length_take];rfl)) ?_;(with_reducible refine (Xa.calls Mb 0 (wrap64 (Ia - 1)) t105 _ A5.out).mono ?_);rintro e w' ⟨rfl,⟨nd,rfl⟩⟩;refine ⟨_,rfl,?_⟩))
 (try simp only [Act.put,List.setIfInBounds_toArray,List.set_cons_zero,List.set_cons_succ])
 go_cut [8] (fun v8 wc=>∃ (kq:Nat) (jH:Bool),v8 = .bool jH∧ja (mb.j0 kq t103 t104 t105 jH Pa Ka Ga Ia Da Cc Ub Lb Mb ec Nc Tc=some r)∧ja (kq ≤ k)∧ja (wc.heap[ya]? = some (.cells #[(.slice Ya Pa.length Za),.int .i64 Ka,.int .i64 Ga,.int .i64 Ia,(.slice Vb Da.length Jb)] 30 (0,0)))∧ja (wc.heap[Ja]? = some (.cells #[.int .i64 Cc,.int .i64 Ub,.int .i64 Lb,.int .i64 Mb,.int .i64 ec,.int .i64 Nc,.string Tc] 65 (0,0)))∧ja (Below w.heap.size w wc))
 case first =>
  have H:=HC6.out;clear HC6
  by_cases nu:t104=true
  ·subst nu;have H1:(if t105=true then ((Xa.f Nc 0 (wrap64 ((Pa.length:Int) - 1))).bind fun t106=>(mb.j0 k t103 true t105 t106 Pa Ka Ga Ia Da Cc Ub Lb Mb ec Nc Tc)) else (mb.j0 k t103 true t105 false Pa Ka Ga Ia Da Cc Ub Lb Mb ec Nc Tc))=some r:=by rw [if_pos rfl] at H;exact H
   clear H;have H:=H1;clear H1
   by_cases iI:t105=true
   ·subst iI;have H1:((Xa.f Nc 0 (wrap64 ((Pa.length:Int) - 1))).bind fun t106=>(mb.j0 k t103 true true t106 Pa Ka Ga Ia Da Cc Ub Lb Mb ec Nc Tc))=some r:=by rw [if_pos rfl] at H;exact H
    clear H;have H:=H1;clear H1;replace H:=Option.bind_eq_some_iff.mp H;obtain ⟨t106,sD,H⟩:=H;replace H:(mb.j0 k t103 true true t106 Pa Ka Ga Ia Da Cc Ub Lb Mb ec Nc Tc)=some r:=H;have I1:=ja.mk sD;clear sD;have H':=ja.mk H;clear H;have I4:=Cb.out;have Z3:=Db.out;have ji:w8.cell? ⟨Ja,0,none⟩=some (.int .i64 Cc):=(ga za.out 0).trans rfl;have ei:w8.cell? ⟨Ja,1,none⟩=some (.int .i64 Ub):=(ga za.out 1).trans rfl;have di:w8.cell? ⟨Ja,2,none⟩=some (.int .i64 Lb):=(ga za.out 2).trans rfl;have ai:w8.cell? ⟨Ja,3,none⟩=some (.int .i64 Mb):=(ga za.out 3).trans rfl;have Zh:w8.cell? ⟨Ja,4,none⟩=some (.int .i64 ec):=(ga za.out 4).trans rfl;have QB:w8.cell? ⟨Ja,5,none⟩=some (.int .i64 Nc):=(ga za.out 5).trans rfl;have OB:w8.cell? ⟨Ja,6,none⟩=some (.string Tc):=(ga za.out 6).trans rfl;have Yh:=aa za.out 0;have Xh:=aa za.out 1;have Wh:=aa za.out 2;have Vh:=aa za.out 3;have Uh:=aa za.out 4;have eB:=aa za.out 5;have dB:=aa za.out 6;have NB:w8.cell? ⟨ya,0,none⟩=some (.slice Ya Pa.length Za):=(ga oa.out 0).trans rfl;have MB:w8.cell? ⟨ya,1,none⟩=some (.int .i64 Ka):=(ga oa.out 1).trans rfl;have KB:w8.cell? ⟨ya,2,none⟩=some (.int .i64 Ga):=(ga oa.out 2).trans rfl;have JB:w8.cell? ⟨ya,3,none⟩=some (.int .i64 Ia):=(ga oa.out 3).trans rfl;have IB:w8.cell? ⟨ya,4,none⟩=some (.slice Vb Da.length Jb):=(ga oa.out 4).trans rfl;have cB:=aa oa.out 0;have bB:=aa oa.out 1;have ZA:=aa oa.out 2;have YA:=aa oa.out 3;have XA:=aa oa.out 4;go_wp2_with (first|(go_at_call 53;(with_reducible refine (Xa.calls Nc 0 (wrap64 ((Pa.length:Int) - 1)) t106 _ I1.out).mono ?_);rintro e w' ⟨rfl,⟨nd,rfl⟩⟩))
    go_meet
    case rel=>exact ⟨_,(t106),(by first|rfl|(simp;done)|(simp [*];done)),H',⟨by first|omega|exact Nat.le_refl _⟩,⟨by (with_reducible repeat (first|refine Ba ?_ _|refine Ea ?_|refine Ca ?_ _));exact oa.out⟩,⟨by (with_reducible repeat (first|refine Ba ?_ _|refine Ea ?_|refine Ca ?_ _));exact za.out⟩,⟨by repeat (first|(with_reducible first|exact HB.out|apply qa|apply ia|apply ta|refine ua ?_ Sa.out|refine ua ?_ Bc.out)|exact HB.out)⟩⟩
   ·replace iI:=Bool.eq_false_iff.mpr iI;subst iI;have H1:(mb.j0 k t103 true false false Pa Ka Ga Ia Da Cc Ub Lb Mb ec Nc Tc)=some r:=by rw [if_neg (show ¬ (false=true) by decide)] at H;exact H
    clear H;have H:=H1;clear H1;have H':=ja.mk H;clear H;go_wp2
    go_meet
    case rel=>exact ⟨_,(false),(by first|rfl|(simp;done)|(simp [*];done)),H',⟨by first|omega|exact Nat.le_refl _⟩,⟨by (with_reducible repeat (first|refine Ba ?_ _|refine Ea ?_|refine Ca ?_ _));exact oa.out⟩,⟨by (with_reducible repeat (first|refine Ba ?_ _|refine Ea ?_|refine Ca ?_ _));exact za.out⟩,⟨by repeat (first|(with_reducible first|exact HB.out|apply qa|apply ia|apply ta|refine ua ?_ Sa.out|refine ua ?_ Bc.out)|exact HB.out)⟩⟩
  ·replace nu:=Bool.eq_false_iff.mpr nu;subst nu;have H1:(if Lb=(-1) then (if t105=true then ((Xa.f Nc 0 (wrap64 ((Pa.length:Int) - 1))).bind fun t107=>(mb.j0 k t103 false t105 t107 Pa Ka Ga Ia Da Cc Ub Lb Mb ec Nc Tc)) else (mb.j0 k t103 false t105 false Pa Ka Ga Ia Da Cc Ub Lb Mb ec Nc Tc)) else (mb.j0 k t103 false t105 false Pa Ka Ga Ia Da Cc Ub Lb Mb ec Nc Tc))=some r:=by rw [if_neg (show ¬ (false=true) by decide)] at H;exact H
   clear H;have H:=H1;clear H1
   by_cases xq:Lb=(-1)
   ·rw [if_pos xq] at H;have Mo:(Lb == (-1))=true:=beq_iff_eq.mpr xq;have xR:(Lb != (-1))=false:=bne_eq_false_iff_eq.mpr xq;clear xq;(first|rw [Mo]|(simp only [Xb,Yb];rw [Mo])|skip)
    by_cases Xo:t105=true
    ·subst Xo;have H1:((Xa.f Nc 0 (wrap64 ((Pa.length:Int) - 1))).bind fun t107=>(mb.j0 k t103 false true t107 Pa Ka Ga Ia Da Cc Ub Lb Mb ec Nc Tc))=some r:=by rw [if_pos rfl] at H;exact H
     clear H;have H:=H1;clear H1;replace H:=Option.bind_eq_some_iff.mp H;obtain ⟨t107,pS,H⟩:=H;replace H:(mb.j0 k t103 false true t107 Pa Ka Ga Ia Da Cc Ub Lb Mb ec Nc Tc)=some r:=H;have iH:=ja.mk pS;clear pS;have H':=ja.mk H;clear H;have uan:=Cb.out;have Nam:=Db.out;have oy:w8.cell? ⟨Ja,0,none⟩=some (.int .i64 Cc):=(ga za.out 0).trans rfl;have ny:w8.cell? ⟨Ja,1,none⟩=some (.int .i64 Ub):=(ga za.out 1).trans rfl;have jy:w8.cell? ⟨Ja,2,none⟩=some (.int .i64 Lb):=(ga za.out 2).trans rfl;have iy:w8.cell? ⟨Ja,3,none⟩=some (.int .i64 Mb):=(ga za.out 3).trans rfl;have gy:w8.cell? ⟨Ja,4,none⟩=some (.int .i64 ec):=(ga za.out 4).trans rfl;have EN:w8.cell? ⟨Ja,5,none⟩=some (.int .i64 Nc):=(ga za.out 5).trans rfl;have DN:w8.cell? ⟨Ja,6,none⟩=some (.string Tc):=(ga za.out 6).trans rfl;have Lx:=aa za.out 0;have Kx:=aa za.out 1;have Jx:=aa za.out 2;have Ix:=aa za.out 3;have Hx:=aa za.out 4;have xM:=aa za.out 5;have wM:=aa za.out 6;have uo:w8.cell? ⟨ya,0,none⟩=some (.slice Ya Pa.length Za):=(ga oa.out 0).trans rfl;have qo:w8.cell? ⟨ya,1,none⟩=some (.int .i64 Ka):=(ga oa.out 1).trans rfl;have oo:w8.cell? ⟨ya,2,none⟩=some (.int .i64 Ga):=(ga oa.out 2).trans rfl;have mo:w8.cell? ⟨ya,3,none⟩=some (.int .i64 Ia):=(ga oa.out 3).trans rfl;have jo:w8.cell? ⟨ya,4,none⟩=some (.slice Vb Da.length Jb):=(ga oa.out 4).trans rfl;have fo:=aa oa.out 0;have eo:=aa oa.out 1;have Zn:=aa oa.out 2;have Yn:=aa oa.out 3;have Xn:=aa oa.out 4;go_wp2_with (first|(go_at_call 53;(with_reducible refine (Xa.calls Nc 0 (wrap64 ((Pa.length:Int) - 1)) t107 _ iH.out).mono ?_);rintro e w' ⟨rfl,⟨nd,rfl⟩⟩))
     go_meet
     case rel=>exact ⟨_,(t107),(by first|rfl|(simp;done)|(simp [*];done)),H',⟨by first|omega|exact Nat.le_refl _⟩,⟨by (with_reducible repeat (first|refine Ba ?_ _|refine Ea ?_|refine Ca ?_ _));exact oa.out⟩,⟨by (with_reducible repeat (first|refine Ba ?_ _|refine Ea ?_|refine Ca ?_ _));exact za.out⟩,⟨by repeat (first|(with_reducible first|exact HB.out|apply qa|apply ia|apply ta|refine ua ?_ Sa.out|refine ua ?_ Bc.out)|exact HB.out)⟩⟩
    ·replace Xo:=Bool.eq_false_iff.mpr Xo;subst Xo;have H1:(mb.j0 k t103 false false false Pa Ka Ga Ia Da Cc Ub Lb Mb ec Nc Tc)=some r:=by rw [if_neg (show ¬ (false=true) by decide)] at H;exact H
     clear H;have H:=H1;clear H1;have H':=ja.mk H;clear H;have E4:=Cb.out;have W3:=Db.out;have av:w8.cell? ⟨Ja,0,none⟩=some (.int .i64 Cc):=(ga za.out 0).trans rfl;have Zu:w8.cell? ⟨Ja,1,none⟩=some (.int .i64 Ub):=(ga za.out 1).trans rfl;have Yu:w8.cell? ⟨Ja,2,none⟩=some (.int .i64 Lb):=(ga za.out 2).trans rfl;have Xu:w8.cell? ⟨Ja,3,none⟩=some (.int .i64 Mb):=(ga za.out 3).trans rfl;have Wu:w8.cell? ⟨Ja,4,none⟩=some (.int .i64 ec):=(ga za.out 4).trans rfl;have CN:w8.cell? ⟨Ja,5,none⟩=some (.int .i64 Nc):=(ga za.out 5).trans rfl;have BN:w8.cell? ⟨Ja,6,none⟩=some (.string Tc):=(ga za.out 6).trans rfl;have Qu:=aa za.out 0;have Pu:=aa za.out 1;have Ou:=aa za.out 2;have Nu:=aa za.out 3;have Mu:=aa za.out 4;have vM:=aa za.out 5;have uM:=aa za.out 6;go_wp2
     go_meet
     case rel=>exact ⟨_,(false),(by first|rfl|(simp;done)|(simp [*];done)),H',⟨by first|omega|exact Nat.le_refl _⟩,⟨by (with_reducible repeat (first|refine Ba ?_ _|refine Ea ?_|refine Ca ?_ _));exact oa.out⟩,⟨by (with_reducible repeat (first|refine Ba ?_ _|refine Ea ?_|refine Ca ?_ _));exact za.out⟩,⟨by repeat (first|(with_reducible first|exact HB.out|apply qa|apply ia|apply ta|refine ua ?_ Sa.out|refine ua ?_ Bc.out)|exact HB.out)⟩⟩
   ·rw [if_neg xq] at H;have Mo:(Lb == (-1))=false:=beq_eq_false_iff_ne.mpr xq;have xR:(Lb != (-1))=true:=bne_iff_ne.mpr xq;(first|rw [Mo]|(simp only [Xb,Yb];rw [Mo])|skip);have H':=ja.mk H;clear H;have KW:=Cb.out;have EW:=Db.out;have Lm:w8.cell? ⟨Ja,0,none⟩=some (.int .i64 Cc):=(ga za.out 0).trans rfl;have Km:w8.cell? ⟨Ja,1,none⟩=some (.int .i64 Ub):=(ga za.out 1).trans rfl;have Jm:w8.cell? ⟨Ja,2,none⟩=some (.int .i64 Lb):=(ga za.out 2).trans rfl;have Im:w8.cell? ⟨Ja,3,none⟩=some (.int .i64 Mb):=(ga za.out 3).trans rfl;have Gm:w8.cell? ⟨Ja,4,none⟩=some (.int .i64 ec):=(ga za.out 4).trans rfl;have zG:w8.cell? ⟨Ja,5,none⟩=some (.int .i64 Nc):=(ga za.out 5).trans rfl;have yG:w8.cell? ⟨Ja,6,none⟩=some (.string Tc):=(ga za.out 6).trans rfl;have Fm:=aa za.out 0;have Em:=aa za.out 1;have Dm:=aa za.out 2;have Cm:=aa za.out 3;have Bm:=aa za.out 4;have LF:=aa za.out 5;have KF:=aa za.out 6;go_wp2
    go_meet
    case rel=>exact ⟨_,(false),(by first|rfl|(simp;done)|(simp [*];done)),H',⟨by first|omega|exact Nat.le_refl _⟩,⟨by (with_reducible repeat (first|refine Ba ?_ _|refine Ea ?_|refine Ca ?_ _));exact oa.out⟩,⟨by (with_reducible repeat (first|refine Ba ?_ _|refine Ea ?_|refine Ca ?_ _));exact za.out⟩,⟨by repeat (first|(with_reducible first|exact HB.out|apply qa|apply ia|apply ta|refine ua ?_ Sa.out|refine ua ?_ Bc.out)|exact HB.out)⟩⟩
 case rest =>
  clear HC6
  try clear c1
  try clear c2
  try clear p2
  try clear c5
  try clear p6
  try clear c9
  try clear nu
  try clear iI
  try clear gH
  try clear xq
  try clear Mo
  try clear xR
  try clear Xo
  try clear Ky
  try clear nP
  try clear gK
  try clear Fk
  try clear Ek
  try clear Dk
  try clear Ck
  try clear Bk
  try clear Gy
  try clear Fy
  try clear Xs
  try clear Ws
  try clear Vs
  try clear Us
  try clear Ts
  try clear ji
  try clear ei
  try clear di
  try clear ai
  try clear Zh
  try clear QB
  try clear OB
  try clear NB
  try clear MB
  try clear KB
  try clear JB
  try clear IB
  try clear oy
  try clear ny
  try clear jy
  try clear iy
  try clear gy
  try clear EN
  try clear DN
  try clear uo
  try clear qo
  try clear oo
  try clear mo
  try clear jo
  try clear av
  try clear Zu
  try clear Yu
  try clear Xu
  try clear Wu
  try clear CN
  try clear BN
  try clear Lm
  try clear Km
  try clear Jm
  try clear Im
  try clear Gm
  try clear zG
  try clear yG
  try clear Ak
  try clear zk
  try clear xk
  try clear vk
  try clear uk
  try clear Xx
  try clear Wx
  try clear Tr
  try clear Sr
  try clear Qr
  try clear Pr
  try clear Nr
  try clear Yh
  try clear Xh
  try clear Wh
  try clear Vh
  try clear Uh
  try clear eB
  try clear dB
  try clear cB
  try clear bB
  try clear ZA
  try clear YA
  try clear XA
  try clear Lx
  try clear Kx
  try clear Jx
  try clear Ix
  try clear Hx
  try clear xM
  try clear wM
  try clear fo
  try clear eo
  try clear Zn
  try clear Yn
  try clear Xn
  try clear Qu
  try clear Pu
  try clear Ou
  try clear Nu
  try clear Mu
  try clear vM
  try clear uM
  try clear Fm
  try clear Em
  try clear Dm
  try clear Cm
  try clear Bm
  try clear LF
  try clear KF
  obtain ⟨kq,jH,rfl,HA,HJ5,oa,za,HB⟩:=hcut;cases kq with
  | zero=>exact absurd HA.out (by simp [mb.j0])
  | succ kj5 =>
   have H:=HA.out;clear HA;simp only [mb.j0] at H;have CK:=ja.mk H;clear H
   go_upto_region 5 with (fail)
   go_cut [62] (fun v62 wc=>∃ (kq:Nat) (xE:Bool),v62 = .bool xE∧ja (mb.j1 kq t103 t104 t105 jH xE Pa Ka Ga Ia Da Cc Ub Lb Mb ec Nc Tc=some r)∧ja (kq ≤ kj5)∧ja (wc.heap[ya]? = some (.cells #[(.slice Ya Pa.length Za),.int .i64 Ka,.int .i64 Ga,.int .i64 Ia,(.slice Vb Da.length Jb)] 30 (0,0)))∧ja (wc.heap[Ja]? = some (.cells #[.int .i64 Cc,.int .i64 Ub,.int .i64 Lb,.int .i64 Mb,.int .i64 ec,.int .i64 Nc,.string Tc] 65 (0,0)))∧ja (Below w.heap.size w wc))
   case first =>
    have H:=CK.out;clear CK
    by_cases oE:Cc=2
    ·rw [if_pos oE] at H;have ZC:(Cc == 2)=true:=beq_iff_eq.mpr oE;have bX:(Cc != 2)=false:=bne_eq_false_iff_eq.mpr oE;clear oE;(first|rw [ZC]|(simp only [Xb,Yb];rw [ZC])|skip)
     by_cases gI:Cc=4
     ·rw [if_pos gI] at H;have RN:(Cc == 4)=true:=beq_iff_eq.mpr gI;have aX:(Cc != 4)=false:=bne_eq_false_iff_eq.mpr gI;clear gI;have H':=ja.mk H;clear H;have pan:=Cb.out;have Kam:=Db.out;have sG:wc.cell? ⟨Ja,0,none⟩=some (.int .i64 Cc):=(ga za.out 0).trans rfl;have rG:wc.cell? ⟨Ja,1,none⟩=some (.int .i64 Ub):=(ga za.out 1).trans rfl;have qG:wc.cell? ⟨Ja,2,none⟩=some (.int .i64 Lb):=(ga za.out 2).trans rfl;have pG:wc.cell? ⟨Ja,3,none⟩=some (.int .i64 Mb):=(ga za.out 3).trans rfl;have oG:wc.cell? ⟨Ja,4,none⟩=some (.int .i64 ec):=(ga za.out 4).trans rfl;have VU:wc.cell? ⟨Ja,5,none⟩=some (.int .i64 Nc):=(ga za.out 5).trans rfl;have UU:wc.cell? ⟨Ja,6,none⟩=some (.string Tc):=(ga za.out 6).trans rfl;have CF:=aa za.out 0;have BF:=aa za.out 1;have AF:=aa za.out 2;have zF:=aa za.out 3;have yF:=aa za.out 4;have bU:=aa za.out 5;have aU:=aa za.out 6;go_wp2
      go_meet
      case rel=>exact ⟨_,(false),(by first|rfl|(simp;done)|(simp [*];done)),H',⟨by have:=HJ5.out;first|omega|exact Nat.le_refl _⟩,⟨by (with_reducible repeat (first|refine Ba ?_ _|refine Ea ?_|refine Ca ?_ _));exact oa.out⟩,⟨by (with_reducible repeat (first|refine Ba ?_ _|refine Ea ?_|refine Ca ?_ _));exact za.out⟩,⟨by repeat (first|(with_reducible first|exact HB.out|apply qa|apply ia|apply ta|refine ua ?_ Sa.out|refine ua ?_ Bc.out)|exact HB.out)⟩⟩
     ·rw [if_neg gI] at H;have RN:(Cc == 4)=false:=beq_eq_false_iff_ne.mpr gI;have aX:(Cc != 4)=true:=bne_iff_ne.mpr gI;have H':=ja.mk H;clear H;have man:=Cb.out;have Iam:=Db.out;have sN:wc.cell? ⟨Ja,0,none⟩=some (.int .i64 Cc):=(ga za.out 0).trans rfl;have rN:wc.cell? ⟨Ja,1,none⟩=some (.int .i64 Ub):=(ga za.out 1).trans rfl;have qN:wc.cell? ⟨Ja,2,none⟩=some (.int .i64 Lb):=(ga za.out 2).trans rfl;have pN:wc.cell? ⟨Ja,3,none⟩=some (.int .i64 Mb):=(ga za.out 3).trans rfl;have oN:wc.cell? ⟨Ja,4,none⟩=some (.int .i64 ec):=(ga za.out 4).trans rfl;have nN:wc.cell? ⟨Ja,5,none⟩=some (.int .i64 Nc):=(ga za.out 5).trans rfl;have mN:wc.cell? ⟨Ja,6,none⟩=some (.string Tc):=(ga za.out 6).trans rfl;have mM:=aa za.out 0;have lM:=aa za.out 1;have kM:=aa za.out 2;have jM:=aa za.out 3;have iM:=aa za.out 4;have gM:=aa za.out 5;have fM:=aa za.out 6;go_wp2
      go_meet
      case rel=>exact ⟨_,((ec != 0)),(by first|rfl|(simp;done)|(simp [*];done)),H',⟨by have:=HJ5.out;first|omega|exact Nat.le_refl _⟩,⟨by (with_reducible repeat (first|refine Ba ?_ _|refine Ea ?_|refine Ca ?_ _));exact oa.out⟩,⟨by (with_reducible repeat (first|refine Ba ?_ _|refine Ea ?_|refine Ca ?_ _));exact za.out⟩,⟨by repeat (first|(with_reducible first|exact HB.out|apply qa|apply ia|apply ta|refine ua ?_ Sa.out|refine ua ?_ Bc.out)|exact HB.out)⟩⟩
    ·rw [if_neg oE] at H;have ZC:(Cc == 2)=false:=beq_eq_false_iff_ne.mpr oE;have bX:(Cc != 2)=true:=bne_iff_ne.mpr oE;(first|rw [ZC]|(simp only [Xb,Yb];rw [ZC])|skip)
     by_cases fH:Tc.toList=([]:List UInt8)
     ·rw [if_pos fH] at H;have sR:(Tc.toList == ([]:List UInt8))=true:=beq_iff_eq.mpr fH;have XW:(Tc.toList != ([]:List UInt8))=false:=bne_eq_false_iff_eq.mpr fH;clear fH
      by_cases WW:Cc=4
      ·rw [if_pos WW] at H;have VW:(Cc == 4)=true:=beq_iff_eq.mpr WW;have UW:(Cc != 4)=false:=bne_eq_false_iff_eq.mpr WW;clear WW;have H':=ja.mk H;clear H;have q4:=Cb.out;have S3:=Db.out;have iG:wc.cell? ⟨Ja,0,none⟩=some (.int .i64 Cc):=(ga za.out 0).trans rfl;have gG:wc.cell? ⟨Ja,1,none⟩=some (.int .i64 Ub):=(ga za.out 1).trans rfl;have fG:wc.cell? ⟨Ja,2,none⟩=some (.int .i64 Lb):=(ga za.out 2).trans rfl;have eG:wc.cell? ⟨Ja,3,none⟩=some (.int .i64 Mb):=(ga za.out 3).trans rfl;have dG:wc.cell? ⟨Ja,4,none⟩=some (.int .i64 ec):=(ga za.out 4).trans rfl;have aN:wc.cell? ⟨Ja,5,none⟩=some (.int .i64 Nc):=(ga za.out 5).trans rfl;have ZM:wc.cell? ⟨Ja,6,none⟩=some (.string Tc):=(ga za.out 6).trans rfl;have sF:=aa za.out 0;have rF:=aa za.out 1;have qF:=aa za.out 2;have pF:=aa za.out 3;have oF:=aa za.out 4;have UL:=aa za.out 5;have TL:=aa za.out 6;go_wp2
       go_meet
       case rel=>exact ⟨_,(false),(by first|rfl|(simp;done)|(simp [*];done)),H',⟨by have:=HJ5.out;first|omega|exact Nat.le_refl _⟩,⟨by (with_reducible repeat (first|refine Ba ?_ _|refine Ea ?_|refine Ca ?_ _));exact oa.out⟩,⟨by (with_reducible repeat (first|refine Ba ?_ _|refine Ea ?_|refine Ca ?_ _));exact za.out⟩,⟨by repeat (first|(with_reducible first|exact HB.out|apply qa|apply ia|apply ta|refine ua ?_ Sa.out|refine ua ?_ Bc.out)|exact HB.out)⟩⟩
      ·rw [if_neg WW] at H;have VW:(Cc == 4)=false:=beq_eq_false_iff_ne.mpr WW;have UW:(Cc != 4)=true:=bne_iff_ne.mpr WW;have H':=ja.mk H;clear H;have m4:=Cb.out;have Q3:=Db.out;have fy:wc.cell? ⟨Ja,0,none⟩=some (.int .i64 Cc):=(ga za.out 0).trans rfl;have ey:wc.cell? ⟨Ja,1,none⟩=some (.int .i64 Ub):=(ga za.out 1).trans rfl;have dy:wc.cell? ⟨Ja,2,none⟩=some (.int .i64 Lb):=(ga za.out 2).trans rfl;have Zx:wc.cell? ⟨Ja,3,none⟩=some (.int .i64 Mb):=(ga za.out 3).trans rfl;have Yx:wc.cell? ⟨Ja,4,none⟩=some (.int .i64 ec):=(ga za.out 4).trans rfl;have YM:wc.cell? ⟨Ja,5,none⟩=some (.int .i64 Nc):=(ga za.out 5).trans rfl;have XM:wc.cell? ⟨Ja,6,none⟩=some (.string Tc):=(ga za.out 6).trans rfl;have Gx:=aa za.out 0;have Fx:=aa za.out 1;have Ex:=aa za.out 2;have Dx:=aa za.out 3;have Cx:=aa za.out 4;have SL:=aa za.out 5;have RL:=aa za.out 6;go_wp2
       go_meet
       case rel=>exact ⟨_,((ec != 0)),(by first|rfl|(simp;done)|(simp [*];done)),H',⟨by have:=HJ5.out;first|omega|exact Nat.le_refl _⟩,⟨by (with_reducible repeat (first|refine Ba ?_ _|refine Ea ?_|refine Ca ?_ _));exact oa.out⟩,⟨by (with_reducible repeat (first|refine Ba ?_ _|refine Ea ?_|refine Ca ?_ _));exact za.out⟩,⟨by repeat (first|(with_reducible first|exact HB.out|apply qa|apply ia|apply ta|refine ua ?_ Sa.out|refine ua ?_ Bc.out)|exact HB.out)⟩⟩
     ·rw [if_neg fH] at H;have sR:(Tc.toList == ([]:List UInt8))=false:=beq_eq_false_iff_ne.mpr fH;have XW:(Tc.toList != ([]:List UInt8))=true:=bne_iff_ne.mpr fH;have H':=ja.mk H;clear H;have IW:=Cb.out;have CW:=Db.out;have qB:wc.cell? ⟨Ja,0,none⟩=some (.int .i64 Cc):=(ga za.out 0).trans rfl;have oB:wc.cell? ⟨Ja,1,none⟩=some (.int .i64 Ub):=(ga za.out 1).trans rfl;have nB:wc.cell? ⟨Ja,2,none⟩=some (.int .i64 Lb):=(ga za.out 2).trans rfl;have mB:wc.cell? ⟨Ja,3,none⟩=some (.int .i64 Mb):=(ga za.out 3).trans rfl;have lB:wc.cell? ⟨Ja,4,none⟩=some (.int .i64 ec):=(ga za.out 4).trans rfl;have RM:wc.cell? ⟨Ja,5,none⟩=some (.int .i64 Nc):=(ga za.out 5).trans rfl;have QM:wc.cell? ⟨Ja,6,none⟩=some (.string Tc):=(ga za.out 6).trans rfl;have GA:=aa za.out 0;have FA:=aa za.out 1;have EA:=aa za.out 2;have DA:=aa za.out 3;have CA:=aa za.out 4;have LL:=aa za.out 5;have KL:=aa za.out 6;go_wp2
      go_meet
      case rel=>exact ⟨_,(true),(by first|rfl|(simp;done)|(simp [*];done)),H',⟨by have:=HJ5.out;first|omega|exact Nat.le_refl _⟩,⟨by (with_reducible repeat (first|refine Ba ?_ _|refine Ea ?_|refine Ca ?_ _));exact oa.out⟩,⟨by (with_reducible repeat (first|refine Ba ?_ _|refine Ea ?_|refine Ca ?_ _));exact za.out⟩,⟨by repeat (first|(with_reducible first|exact HB.out|apply qa|apply ia|apply ta|refine ua ?_ Sa.out|refine ua ?_ Bc.out)|exact HB.out)⟩⟩
   case rest =>
    clear CK
    try clear c1
    try clear c2
    try clear p2
    try clear c3
    try clear c4
    try clear c5
    try clear p6
    try clear c9
    try clear nu
    try clear iI
    try clear gH
    try clear xq
    try clear Mo
    try clear xR
    try clear Xo
    try clear Ky
    try clear nP
    try clear gK
    try clear oE
    try clear ZC
    try clear bX
    try clear gI
    try clear RN
    try clear aX
    try clear ZW
    try clear fI
    try clear fH
    try clear sR
    try clear XW
    try clear WW
    try clear VW
    try clear UW
    try clear CP
    try clear CS
    try clear c41
    try clear Fk
    try clear Ek
    try clear Dk
    try clear Ck
    try clear Bk
    try clear Gy
    try clear Fy
    try clear Xs
    try clear Ws
    try clear Vs
    try clear Us
    try clear Ts
    try clear ji
    try clear ei
    try clear di
    try clear ai
    try clear Zh
    try clear QB
    try clear OB
    try clear NB
    try clear MB
    try clear KB
    try clear JB
    try clear IB
    try clear oy
    try clear ny
    try clear jy
    try clear iy
    try clear gy
    try clear EN
    try clear DN
    try clear uo
    try clear qo
    try clear oo
    try clear mo
    try clear jo
    try clear av
    try clear Zu
    try clear Yu
    try clear Xu
    try clear Wu
    try clear CN
    try clear BN
    try clear Lm
    try clear Km
    try clear Jm
    try clear Im
    try clear Gm
    try clear zG
    try clear yG
    try clear sG
    try clear rG
    try clear qG
    try clear pG
    try clear oG
    try clear VU
    try clear UU
    try clear sN
    try clear rN
    try clear qN
    try clear pN
    try clear oN
    try clear nN
    try clear mN
    try clear iG
    try clear gG
    try clear fG
    try clear eG
    try clear dG
    try clear aN
    try clear ZM
    try clear fy
    try clear ey
    try clear dy
    try clear Zx
    try clear Yx
    try clear YM
    try clear XM
    try clear qB
    try clear oB
    try clear nB
    try clear mB
    try clear lB
    try clear RM
    try clear QM
    try clear Ak
    try clear zk
    try clear xk
    try clear vk
    try clear uk
    try clear Xx
    try clear Wx
    try clear Tr
    try clear Sr
    try clear Qr
    try clear Pr
    try clear Nr
    try clear Yh
    try clear Xh
    try clear Wh
    try clear Vh
    try clear Uh
    try clear eB
    try clear dB
    try clear cB
    try clear bB
    try clear ZA
    try clear YA
    try clear XA
    try clear Lx
    try clear Kx
    try clear Jx
    try clear Ix
    try clear Hx
    try clear xM
    try clear wM
    try clear fo
    try clear eo
    try clear Zn
    try clear Yn
    try clear Xn
    try clear Qu
    try clear Pu
    try clear Ou
    try clear Nu
    try clear Mu
    try clear vM
    try clear uM
    try clear Fm
    try clear Em
    try clear Dm
    try clear Cm
    try clear Bm
    try clear LF
    try clear KF
    try clear CF
    try clear BF
    try clear AF
    try clear zF
    try clear yF
    try clear bU
    try clear aU
    try clear mM
    try clear lM
    try clear kM
    try clear jM
    try clear iM
    try clear gM
    try clear fM
    try clear sF
    try clear rF
    try clear qF
    try clear pF
    try clear oF
    try clear UL
    try clear TL
    try clear Gx
    try clear Fx
    try clear Ex
    try clear Dx
    try clear Cx
    try clear SL
    try clear RL
    try clear GA
    try clear FA
    try clear EA
    try clear DA
    try clear CA
    try clear LL
    try clear KL
    try clear p2
    try clear p6
    obtain ⟨kq,xE,rfl,HA,XG,oa,za,HB⟩:=hcut;cases kq with
    | zero=>exact absurd HA.out (by simp [mb.j1])
    | succ SE =>
     have H:=HA.out;clear HA;simp only [mb.j1] at H
     by_cases c43:xE=true
     ·subst c43;have H1:(some false)=some r:=by rw [if_pos rfl] at H;exact H
      clear H;have H:=H1;clear H1;obtain rfl:=Option.some.inj H;go_wp2;go_ret;exact ⟨by first|rfl|(simp [Ma,La] <;> rfl)|(simp [*,Ma,La] <;> rfl),by repeat (first|(with_reducible first|exact HB.out|apply qa|apply ia|apply ta|refine ua ?_ Sa.out|refine ua ?_ Bc.out)|exact HB.out)⟩
     ·replace c43:=Bool.eq_false_iff.mpr c43;subst c43;have H1:(if Cc=0 then (if t103=true then (if Lb=0 then (some (Mb == 0)) else (some false)) else (some false)) else (if Cc=1 then (if t103=true then (if t104=true then (if Mb=0 then (some (Nc == 0)) else (some false)) else (some false)) else (some false)) else (if Cc=2 then (if t103=true then (if t104=true then (if t105=true then (if Nc=0 then ((me.f SE (([(⟨#[61,61]⟩:ByteArray),(⟨#[60]⟩:ByteArray),(⟨#[38]⟩:ByteArray),(⟨#[43]⟩:ByteArray),(⟨#[45]⟩:ByteArray),(⟨#[42]⟩:ByteArray)]:List ByteArray)) Tc).bind fun t111=>(some t111)) else (some false)) else (some false)) else (some false)) else (some false)) else (if Cc=3 then (if t103=true then (some jH) else (some false)) else (if Cc=4 then (if Ub=0 then (if jH=true then ((Xa.f ec 0 (wrap64 (Ia - 1))).bind fun t112=>(some t112)) else (some false)) else (some false)) else (if Cc=5 then (if t103=true then (if Lb=0 then (if Mb=0 then (some (Nc == 0)) else (some false)) else (some false)) else (some false)) else (if Cc=6 then (if Ub=0 then (if t104=true then (if Mb=0 then (some (Nc == 0)) else (some false)) else (some false)) else (some false)) else (some false))))))))=some r:=by rw [if_neg (show ¬ (false=true) by decide)] at H;exact H
      clear H;have H:=H1;clear H1
      by_cases fK:Cc=0
      ·rw [if_pos fK] at H;have rR:(Cc == 0)=true:=beq_iff_eq.mpr fK;have qR:(Cc != 0)=false:=bne_eq_false_iff_eq.mpr fK;clear fK
       by_cases yI:t103=true
       ·subst yI;have H1:(if Lb=0 then (some (Mb == 0)) else (some false))=some r:=by rw [if_pos rfl] at H;exact H
        clear H;have H:=H1;clear H1
        by_cases eK:Lb=0
        ·rw [if_pos eK] at H;have pR:(Lb == 0)=true:=beq_iff_eq.mpr eK;have oR:(Lb != 0)=false:=bne_eq_false_iff_eq.mpr eK;clear eK;obtain rfl:=Option.some.inj H;have GW:=Cb.out;have AW:=Db.out;have kB:wc.cell? ⟨Ja,0,none⟩=some (.int .i64 Cc):=(ga za.out 0).trans rfl;have jB:wc.cell? ⟨Ja,1,none⟩=some (.int .i64 Ub):=(ga za.out 1).trans rfl;have iB:wc.cell? ⟨Ja,2,none⟩=some (.int .i64 Lb):=(ga za.out 2).trans rfl;have gB:wc.cell? ⟨Ja,3,none⟩=some (.int .i64 Mb):=(ga za.out 3).trans rfl;have fB:wc.cell? ⟨Ja,4,none⟩=some (.int .i64 ec):=(ga za.out 4).trans rfl;have RU:wc.cell? ⟨Ja,5,none⟩=some (.int .i64 Nc):=(ga za.out 5).trans rfl;have QU:wc.cell? ⟨Ja,6,none⟩=some (.string Tc):=(ga za.out 6).trans rfl;have BA:=aa za.out 0;have AA:=aa za.out 1;have zA:=aa za.out 2;have yA:=aa za.out 3;have xA:=aa za.out 4;have XT:=aa za.out 5;have WT:=aa za.out 6;go_wp2;go_ret;exact ⟨by first|rfl|(simp [Ma,La] <;> rfl)|(simp [*,Ma,La] <;> rfl),by repeat (first|(with_reducible first|exact HB.out|apply qa|apply ia|apply ta|refine ua ?_ Sa.out|refine ua ?_ Bc.out)|exact HB.out)⟩
        ·rw [if_neg eK] at H;have pR:(Lb == 0)=false:=beq_eq_false_iff_ne.mpr eK;have oR:(Lb != 0)=true:=bne_iff_ne.mpr eK;obtain rfl:=Option.some.inj H;have ian:=Cb.out;have Eam:=Db.out;have KU:wc.cell? ⟨Ja,0,none⟩=some (.int .i64 Cc):=(ga za.out 0).trans rfl;have JU:wc.cell? ⟨Ja,1,none⟩=some (.int .i64 Ub):=(ga za.out 1).trans rfl;have IU:wc.cell? ⟨Ja,2,none⟩=some (.int .i64 Lb):=(ga za.out 2).trans rfl;have HU:wc.cell? ⟨Ja,3,none⟩=some (.int .i64 Mb):=(ga za.out 3).trans rfl;have GU:wc.cell? ⟨Ja,4,none⟩=some (.int .i64 ec):=(ga za.out 4).trans rfl;have Vag:wc.cell? ⟨Ja,5,none⟩=some (.int .i64 Nc):=(ga za.out 5).trans rfl;have Uag:wc.cell? ⟨Ja,6,none⟩=some (.string Tc):=(ga za.out 6).trans rfl;have PT:=aa za.out 0;have OT:=aa za.out 1;have NT:=aa za.out 2;have MT:=aa za.out 3;have KT:=aa za.out 4;have Lad:=aa za.out 5;have Kad:=aa za.out 6;go_wp2;go_ret;exact ⟨by first|rfl|(simp [Ma,La] <;> rfl)|(simp [*,Ma,La] <;> rfl),by repeat (first|(with_reducible first|exact HB.out|apply qa|apply ia|apply ta|refine ua ?_ Sa.out|refine ua ?_ Bc.out)|exact HB.out)⟩
       ·replace yI:=Bool.eq_false_iff.mpr yI;subst yI;have H1:(some false)=some r:=by rw [if_neg (show ¬ (false=true) by decide)] at H;exact H
        clear H;have H:=H1;clear H1;obtain rfl:=Option.some.inj H;have j4:=Cb.out;have P3:=Db.out;have UF:wc.cell? ⟨Ja,0,none⟩=some (.int .i64 Cc):=(ga za.out 0).trans rfl;have TF:wc.cell? ⟨Ja,1,none⟩=some (.int .i64 Ub):=(ga za.out 1).trans rfl;have SF:wc.cell? ⟨Ja,2,none⟩=some (.int .i64 Lb):=(ga za.out 2).trans rfl;have RF:wc.cell? ⟨Ja,3,none⟩=some (.int .i64 Mb):=(ga za.out 3).trans rfl;have QF:wc.cell? ⟨Ja,4,none⟩=some (.int .i64 ec):=(ga za.out 4).trans rfl;have Nag:wc.cell? ⟨Ja,5,none⟩=some (.int .i64 Nc):=(ga za.out 5).trans rfl;have Mag:wc.cell? ⟨Ja,6,none⟩=some (.string Tc):=(ga za.out 6).trans rfl;have fF:=aa za.out 0;have eF:=aa za.out 1;have dF:=aa za.out 2;have cF:=aa za.out 3;have bF:=aa za.out 4;have Ead:=aa za.out 5;have Dad:=aa za.out 6;go_wp2;go_ret;exact ⟨by first|rfl|(simp [Ma,La] <;> rfl)|(simp [*,Ma,La] <;> rfl),by repeat (first|(with_reducible first|exact HB.out|apply qa|apply ia|apply ta|refine ua ?_ Sa.out|refine ua ?_ Bc.out)|exact HB.out)⟩
      ·rw [if_neg fK] at H;have rR:(Cc == 0)=false:=beq_eq_false_iff_ne.mpr fK;have qR:(Cc != 0)=true:=bne_iff_ne.mpr fK
       by_cases vZ:Cc=1
       ·rw [if_pos vZ] at H;have U9:(Cc == 1)=true:=beq_iff_eq.mpr vZ;have T9:(Cc != 1)=false:=bne_eq_false_iff_eq.mpr vZ;clear vZ
        by_cases c54:t103=true
        ·subst c54;have H1:(if t104=true then (if Mb=0 then (some (Nc == 0)) else (some false)) else (some false))=some r:=by rw [if_pos rfl] at H;exact H
         clear H;have H:=H1;clear H1
         by_cases c55:t104=true
         ·subst c55;have H1:(if Mb=0 then (some (Nc == 0)) else (some false))=some r:=by rw [if_pos rfl] at H;exact H
          clear H;have H:=H1;clear H1
          by_cases uZ:Mb=0
          ·rw [if_pos uZ] at H;have S9:(Mb == 0)=true:=beq_iff_eq.mpr uZ;have R9:(Mb != 0)=false:=bne_eq_false_iff_eq.mpr uZ;clear uZ;obtain rfl:=Option.some.inj H;have ean:=Cb.out;have Aam:=Db.out;have FU:wc.cell? ⟨Ja,0,none⟩=some (.int .i64 Cc):=(ga za.out 0).trans rfl;have EU:wc.cell? ⟨Ja,1,none⟩=some (.int .i64 Ub):=(ga za.out 1).trans rfl;have DU:wc.cell? ⟨Ja,2,none⟩=some (.int .i64 Lb):=(ga za.out 2).trans rfl;have CU:wc.cell? ⟨Ja,3,none⟩=some (.int .i64 Mb):=(ga za.out 3).trans rfl;have BU:wc.cell? ⟨Ja,4,none⟩=some (.int .i64 ec):=(ga za.out 4).trans rfl;have qag:wc.cell? ⟨Ja,5,none⟩=some (.int .i64 Nc):=(ga za.out 5).trans rfl;have pag:wc.cell? ⟨Ja,6,none⟩=some (.string Tc):=(ga za.out 6).trans rfl;have JT:=aa za.out 0;have FT:=aa za.out 1;have ET:=aa za.out 2;have DT:=aa za.out 3;have CT:=aa za.out 4;have gad:=aa za.out 5;have fad:=aa za.out 6;go_wp2;go_ret;exact ⟨by first|rfl|(simp [Ma,La] <;> rfl)|(simp [*,Ma,La] <;> rfl),by repeat (first|(with_reducible first|exact HB.out|apply qa|apply ia|apply ta|refine ua ?_ Sa.out|refine ua ?_ Bc.out)|exact HB.out)⟩
          ·rw [if_neg uZ] at H;have S9:(Mb == 0)=false:=beq_eq_false_iff_ne.mpr uZ;have R9:(Mb != 0)=true:=bne_iff_ne.mpr uZ;obtain rfl:=Option.some.inj H;have dan:=Cb.out;have zam:=Db.out;have oag:wc.cell? ⟨Ja,0,none⟩=some (.int .i64 Cc):=(ga za.out 0).trans rfl;have nag:wc.cell? ⟨Ja,1,none⟩=some (.int .i64 Ub):=(ga za.out 1).trans rfl;have lag:wc.cell? ⟨Ja,2,none⟩=some (.int .i64 Lb):=(ga za.out 2).trans rfl;have kag:wc.cell? ⟨Ja,3,none⟩=some (.int .i64 Mb):=(ga za.out 3).trans rfl;have jag:wc.cell? ⟨Ja,4,none⟩=some (.int .i64 ec):=(ga za.out 4).trans rfl;have iag:wc.cell? ⟨Ja,5,none⟩=some (.int .i64 Nc):=(ga za.out 5).trans rfl;have hag:wc.cell? ⟨Ja,6,none⟩=some (.string Tc):=(ga za.out 6).trans rfl;have ead:=aa za.out 0;have dad:=aa za.out 1;have cad:=aa za.out 2;have aad:=aa za.out 3;have Zac:=aa za.out 4;have Yac:=aa za.out 5;have Xac:=aa za.out 6;go_wp2;go_ret;exact ⟨by first|rfl|(simp [Ma,La] <;> rfl)|(simp [*,Ma,La] <;> rfl),by repeat (first|(with_reducible first|exact HB.out|apply qa|apply ia|apply ta|refine ua ?_ Sa.out|refine ua ?_ Bc.out)|exact HB.out)⟩
         ·replace c55:=Bool.eq_false_iff.mpr c55;subst c55;have H1:(some false)=some r:=by rw [if_neg (show ¬ (false=true) by decide)] at H;exact H
          clear H;have H:=H1;clear H1;obtain rfl:=Option.some.inj H;have ban:=Cb.out;have yam:=Db.out;have gag:wc.cell? ⟨Ja,0,none⟩=some (.int .i64 Cc):=(ga za.out 0).trans rfl;have fag:wc.cell? ⟨Ja,1,none⟩=some (.int .i64 Ub):=(ga za.out 1).trans rfl;have eag:wc.cell? ⟨Ja,2,none⟩=some (.int .i64 Lb):=(ga za.out 2).trans rfl;have dag:wc.cell? ⟨Ja,3,none⟩=some (.int .i64 Mb):=(ga za.out 3).trans rfl;have cag:wc.cell? ⟨Ja,4,none⟩=some (.int .i64 ec):=(ga za.out 4).trans rfl;have bag:wc.cell? ⟨Ja,5,none⟩=some (.int .i64 Nc):=(ga za.out 5).trans rfl;have aag:wc.cell? ⟨Ja,6,none⟩=some (.string Tc):=(ga za.out 6).trans rfl;have Wac:=aa za.out 0;have Vac:=aa za.out 1;have Uac:=aa za.out 2;have Tac:=aa za.out 3;have Sac:=aa za.out 4;have Rac:=aa za.out 5;have Qac:=aa za.out 6;go_wp2;go_ret;exact ⟨by first|rfl|(simp [Ma,La] <;> rfl)|(simp [*,Ma,La] <;> rfl),by repeat (first|(with_reducible first|exact HB.out|apply qa|apply ia|apply ta|refine ua ?_ Sa.out|refine ua ?_ Bc.out)|exact HB.out)⟩
        ·replace c54:=Bool.eq_false_iff.mpr c54;subst c54;have H1:(some false)=some r:=by rw [if_neg (show ¬ (false=true) by decide)] at H;exact H
         clear H;have H:=H1;clear H1;obtain rfl:=Option.some.inj H;have aan:=Cb.out;have xam:=Db.out;have Zaf:wc.cell? ⟨Ja,0,none⟩=some (.int .i64 Cc):=(ga za.out 0).trans rfl;have Yaf:wc.cell? ⟨Ja,1,none⟩=some (.int .i64 Ub):=(ga za.out 1).trans rfl;have Xaf:wc.cell? ⟨Ja,2,none⟩=some (.int .i64 Lb):=(ga za.out 2).trans rfl;have Waf:wc.cell? ⟨Ja,3,none⟩=some (.int .i64 Mb):=(ga za.out 3).trans rfl;have Vaf:wc.cell? ⟨Ja,4,none⟩=some (.int .i64 ec):=(ga za.out 4).trans rfl;have Uaf:wc.cell? ⟨Ja,5,none⟩=some (.int .i64 Nc):=(ga za.out 5).trans rfl;have Taf:wc.cell? ⟨Ja,6,none⟩=some (.string Tc):=(ga za.out 6).trans rfl;have Pac:=aa za.out 0;have Oac:=aa za.out 1;have Nac:=aa za.out 2;have Mac:=aa za.out 3;have Lac:=aa za.out 4;have Kac:=aa za.out 5;have Jac:=aa za.out 6;go_wp2;go_ret;exact ⟨by first|rfl|(simp [Ma,La] <;> rfl)|(simp [*,Ma,La] <;> rfl),by repeat (first|(with_reducible first|exact HB.out|apply qa|apply ia|apply ta|refine ua ?_ Sa.out|refine ua ?_ Bc.out)|exact HB.out)⟩
       ·rw [if_neg vZ] at H;have U9:(Cc == 1)=false:=beq_eq_false_iff_ne.mpr vZ;have T9:(Cc != 1)=true:=bne_iff_ne.mpr vZ
        by_cases tZ:Cc=2
        ·rw [if_pos tZ] at H;have Q9:(Cc == 2)=true:=beq_iff_eq.mpr tZ;have P9:(Cc != 2)=false:=bne_eq_false_iff_eq.mpr tZ;clear tZ
         by_cases c66:t103=true
         ·subst c66;have H1:(if t104=true then (if t105=true then (if Nc=0 then ((me.f SE (([(⟨#[61,61]⟩:ByteArray),(⟨#[60]⟩:ByteArray),(⟨#[38]⟩:ByteArray),(⟨#[43]⟩:ByteArray),(⟨#[45]⟩:ByteArray),(⟨#[42]⟩:ByteArray)]:List ByteArray)) Tc).bind fun t111=>(some t111)) else (some false)) else (some false)) else (some false))=some r:=by rw [if_pos rfl] at H;exact H
          clear H;have H:=H1;clear H1
          by_cases c67:t104=true
          ·subst c67;have H1:(if t105=true then (if Nc=0 then ((me.f SE (([(⟨#[61,61]⟩:ByteArray),(⟨#[60]⟩:ByteArray),(⟨#[38]⟩:ByteArray),(⟨#[43]⟩:ByteArray),(⟨#[45]⟩:ByteArray),(⟨#[42]⟩:ByteArray)]:List ByteArray)) Tc).bind fun t111=>(some t111)) else (some false)) else (some false))=some r:=by rw [if_pos rfl] at H;exact H
           clear H;have H:=H1;clear H1
           by_cases c68:t105=true
           ·subst c68;have H1:(if Nc=0 then ((me.f SE (([(⟨#[61,61]⟩:ByteArray),(⟨#[60]⟩:ByteArray),(⟨#[38]⟩:ByteArray),(⟨#[43]⟩:ByteArray),(⟨#[45]⟩:ByteArray),(⟨#[42]⟩:ByteArray)]:List ByteArray)) Tc).bind fun t111=>(some t111)) else (some false))=some r:=by rw [if_pos rfl] at H;exact H
            clear H;have H:=H1;clear H1
            by_cases sZ:Nc=0
            ·rw [if_pos sZ] at H;have O9:(Nc == 0)=true:=beq_iff_eq.mpr sZ;have N9:(Nc != 0)=false:=bne_eq_false_iff_eq.mpr sZ;clear sZ;obtain ⟨mg,qf⟩:∃ y_:List ByteArray,y_=(([(⟨#[61,61]⟩:ByteArray),(⟨#[60]⟩:ByteArray),(⟨#[38]⟩:ByteArray),(⟨#[43]⟩:ByteArray),(⟨#[45]⟩:ByteArray),(⟨#[42]⟩:ByteArray)]:List ByteArray)):=⟨_,rfl⟩;replace H:((me.f SE mg Tc).bind fun t111=>(some t111))=some r:=by first|(rw [qf];with_reducible exact H)|(have ue:=(Option.bind_some _ _).symm.trans H;rw [qf];with_reducible exact ue)|(have ue:=(Option.bind_some _ _).symm.trans H;with_reducible exact ue)|with_reducible exact H|(rw [qf];exact H)|exact H
             have Bi:=ja.mk qf;clear qf;replace H:=Option.bind_eq_some_iff.mp H;obtain ⟨t111,Jaa,H⟩:=H;replace H:(some t111)=some r:=H;have CI:=ja.mk Jaa;clear Jaa;obtain rfl:=Option.some.inj H;have Zam:=Cb.out;have wam:=Db.out;have Saf:wc.cell? ⟨Ja,0,none⟩=some (.int .i64 Cc):=(ga za.out 0).trans rfl;have Raf:wc.cell? ⟨Ja,1,none⟩=some (.int .i64 Ub):=(ga za.out 1).trans rfl;have Qaf:wc.cell? ⟨Ja,2,none⟩=some (.int .i64 Lb):=(ga za.out 2).trans rfl;have Paf:wc.cell? ⟨Ja,3,none⟩=some (.int .i64 Mb):=(ga za.out 3).trans rfl;have Oaf:wc.cell? ⟨Ja,4,none⟩=some (.int .i64 ec):=(ga za.out 4).trans rfl;have Naf:wc.cell? ⟨Ja,5,none⟩=some (.int .i64 Nc):=(ga za.out 5).trans rfl;have Maf:wc.cell? ⟨Ja,6,none⟩=some (.string Tc):=(ga za.out 6).trans rfl;have Iac:=aa za.out 0;have Hac:=aa za.out 1;have Gac:=aa za.out 2;have Fac:=aa za.out 3;have Eac:=aa za.out 4;have Dac:=aa za.out 5;have Cac:=aa za.out 6;go_wp2_with (first|((with_reducible refine yb (N:=109) rfl ?_);(try (refine xg (by rfl) ?_;dsimp only));refine Kd.xj Kd.string _ 9 ?hg (N:=109) ?hd (xs:=([(⟨#[61,61]⟩:ByteArray),(⟨#[60]⟩:ByteArray),(⟨#[38]⟩:ByteArray),(⟨#[43]⟩:ByteArray),(⟨#[45]⟩:ByteArray),(⟨#[42]⟩:ByteArray)]:List ByteArray)) (inner:=[.string (⟨#[61,61]⟩:ByteArray),.string (⟨#[60]⟩:ByteArray),.string (⟨#[38]⟩:ByteArray),.string (⟨#[43]⟩:ByteArray),.string (⟨#[45]⟩:ByteArray),.string (⟨#[42]⟩:ByteArray)]) (ok:=fun _=>True) (ri:=fun _=>True) ?hr ?hp (fun _ hk=>hk) trivial (Below.refl _ _) (Nat.le_refl _) (by simp) ?_;(case hd=>rfl);(case hg=>rfl);(case hr=>first|(go_simp;done)|(go_simp;rfl));(case hp=>exact (zd.one (show Kd.M Kd.string _ _ _ (⟨#[61,61]⟩:ByteArray) [.string (⟨#[61,61]⟩:ByteArray)] from rfl) (zd.one (show Kd.M Kd.string _ _ _ (⟨#[60]⟩:ByteArray) [.string (⟨#[60]⟩:ByteArray)] from rfl) (zd.one (show Kd.M Kd.string _ _ _ (⟨#[38]⟩:ByteArray) [.string (⟨#[38]⟩:ByteArray)] from rfl) (zd.one (show Kd.M Kd.string _ _ _ (⟨#[43]⟩:ByteArray) [.string (⟨#[43]⟩:ByteArray)] from rfl) (zd.one (show Kd.M Kd.string _ _ _ (⟨#[45]⟩:ByteArray) [.string (⟨#[45]⟩:ByteArray)] from rfl) (zd.one (show Kd.M Kd.string _ _ _ (⟨#[42]⟩:ByteArray) [.string (⟨#[42]⟩:ByteArray)] from rfl) (zd.none _ _))))))));intro ED FX CQ hb en Ve;clear en Ve;(first|rw [← Bi.out] at CQ|(simp only [Int.reduceToNat] at CQ;rw [← Bi.out] at CQ));have Fb:=ja.mk (Kd.Rd CQ (Fa (by repeat (first|(with_reducible first|exact HB.out|apply qa|apply ia|apply ta|refine ua ?_ Sa.out|refine ua ?_ Bc.out)|exact HB.out))));have Ib:=ja.mk (Ua (g:=ya) (o:=.cells #[.slice Ya Pa.length Za,.int .i64 Ka,.int .i64 Ga,.int .i64 Ia,.slice Vb Da.length Jb] 30 (0,0)) (by (with_reducible repeat (first|refine Ba ?_ _|refine Ea ?_|refine Ca ?_ _));exact oa.out) hb);have Sb:=ja.mk (Ua (g:=Ja) (o:=.cells #[.int .i64 Cc,.int .i64 Ub,.int .i64 Lb,.int .i64 Mb,.int .i64 ec,.int .i64 Nc,.string Tc] 65 (0,0)) (by (with_reducible repeat (first|refine Ba ?_ _|refine Ea ?_|refine Ca ?_ _));exact za.out) hb);have Ec:=ja.mk (Qa (by repeat (first|(with_reducible first|exact HB.out|apply qa|apply ia|apply ta|refine ua ?_ Sa.out|refine ua ?_ Bc.out)|exact HB.out)) hb);clear oa za HB;have yh:=Fb;have oa:=Ib;have za:=Sb;have HB:=Ec;clear Fb Ib Sb Ec hb CQ;have Laf:FX.cell? ⟨Ja,0,none⟩=some (.int .i64 Cc):=(ga za.out 0).trans rfl;have Kaf:FX.cell? ⟨Ja,1,none⟩=some (.int .i64 Ub):=(ga za.out 1).trans rfl;have Jaf:FX.cell? ⟨Ja,2,none⟩=some (.int .i64 Lb):=(ga za.out 2).trans rfl;have Iaf:FX.cell? ⟨Ja,3,none⟩=some (.int .i64 Mb):=(ga za.out 3).trans rfl;have Haf:FX.cell? ⟨Ja,4,none⟩=some (.int .i64 ec):=(ga za.out 4).trans rfl;have Gaf:FX.cell? ⟨Ja,5,none⟩=some (.int .i64 Nc):=(ga za.out 5).trans rfl;have Faf:FX.cell? ⟨Ja,6,none⟩=some (.string Tc):=(ga za.out 6).trans rfl;have Bac:=aa za.out 0;have Aac:=aa za.out 1;have zac:=aa za.out 2;have yac:=aa za.out 3;have xac:=aa za.out 4;have wac:=aa za.out 5;have vac:=aa za.out 6;obtain ⟨nar,naq,uak⟩:=Kd.De yh.out;subst uak)|(go_at_call 113;(with_reducible refine (me.calls SE _ _ mg Tc t111 _ ?yc ?uc CI.out).mono ?_);(case yc=>repeat (first|exact (Kd.Lc yh.out).2.2|(with_reducible refine Kd.Pb ?_ _)|(with_reducible refine Kd.Nb ?_ _)|(with_reducible refine Kd.Zb ?_)));(case uc=>exact (Kd.Lc yh.out).2.1);rintro e w' ⟨rfl,⟨nd,rfl⟩⟩));go_ret;exact ⟨by first|rfl|(simp [Ma,La] <;> rfl)|(simp [*,Ma,La] <;> rfl),by repeat (first|(with_reducible first|exact HB.out|apply qa|apply ia|apply ta|refine ua ?_ Sa.out|refine ua ?_ Bc.out)|exact HB.out)⟩
            ·rw [if_neg sZ] at H;have O9:(Nc == 0)=false:=beq_eq_false_iff_ne.mpr sZ;have N9:(Nc != 0)=true:=bne_iff_ne.mpr sZ;obtain rfl:=Option.some.inj H;have Yam:=Cb.out;have vam:=Db.out;have Eaf:wc.cell? ⟨Ja,0,none⟩=some (.int .i64 Cc):=(ga za.out 0).trans rfl;have Daf:wc.cell? ⟨Ja,1,none⟩=some (.int .i64 Ub):=(ga za.out 1).trans rfl;have Caf:wc.cell? ⟨Ja,2,none⟩=some (.int .i64 Lb):=(ga za.out 2).trans rfl;have Baf:wc.cell? ⟨Ja,3,none⟩=some (.int .i64 Mb):=(ga za.out 3).trans rfl;have Aaf:wc.cell? ⟨Ja,4,none⟩=some (.int .i64 ec):=(ga za.out 4).trans rfl;have zaf:wc.cell? ⟨Ja,5,none⟩=some (.int .i64 Nc):=(ga za.out 5).trans rfl;have yaf:wc.cell? ⟨Ja,6,none⟩=some (.string Tc):=(ga za.out 6).trans rfl;have uac:=aa za.out 0;have sac:=aa za.out 1;have rac:=aa za.out 2;have qac:=aa za.out 3;have pac:=aa za.out 4;have oac:=aa za.out 5;have nac:=aa za.out 6;go_wp2;go_ret;exact ⟨by first|rfl|(simp [Ma,La] <;> rfl)|(simp [*,Ma,La] <;> rfl),by repeat (first|(with_reducible first|exact HB.out|apply qa|apply ia|apply ta|refine ua ?_ Sa.out|refine ua ?_ Bc.out)|exact HB.out)⟩
           ·replace c68:=Bool.eq_false_iff.mpr c68;subst c68;have H1:(some false)=some r:=by rw [if_neg (show ¬ (false=true) by decide)] at H;exact H
            clear H;have H:=H1;clear H1;obtain rfl:=Option.some.inj H;have Xam:=Cb.out;have uam:=Db.out;have xaf:wc.cell? ⟨Ja,0,none⟩=some (.int .i64 Cc):=(ga za.out 0).trans rfl;have waf:wc.cell? ⟨Ja,1,none⟩=some (.int .i64 Ub):=(ga za.out 1).trans rfl;have vaf:wc.cell? ⟨Ja,2,none⟩=some (.int .i64 Lb):=(ga za.out 2).trans rfl;have uaf:wc.cell? ⟨Ja,3,none⟩=some (.int .i64 Mb):=(ga za.out 3).trans rfl;have taf:wc.cell? ⟨Ja,4,none⟩=some (.int .i64 ec):=(ga za.out 4).trans rfl;have saf:wc.cell? ⟨Ja,5,none⟩=some (.int .i64 Nc):=(ga za.out 5).trans rfl;have raf:wc.cell? ⟨Ja,6,none⟩=some (.string Tc):=(ga za.out 6).trans rfl;have mac:=aa za.out 0;have lac:=aa za.out 1;have kac:=aa za.out 2;have jac:=aa za.out 3;have iac:=aa za.out 4;have gac:=aa za.out 5;have fac:=aa za.out 6;go_wp2;go_ret;exact ⟨by first|rfl|(simp [Ma,La] <;> rfl)|(simp [*,Ma,La] <;> rfl),by repeat (first|(with_reducible first|exact HB.out|apply qa|apply ia|apply ta|refine ua ?_ Sa.out|refine ua ?_ Bc.out)|exact HB.out)⟩
          ·replace c67:=Bool.eq_false_iff.mpr c67;subst c67;have H1:(some false)=some r:=by rw [if_neg (show ¬ (false=true) by decide)] at H;exact H
           clear H;have H:=H1;clear H1;obtain rfl:=Option.some.inj H;have Wam:=Cb.out;have tam:=Db.out;have qaf:wc.cell? ⟨Ja,0,none⟩=some (.int .i64 Cc):=(ga za.out 0).trans rfl;have paf:wc.cell? ⟨Ja,1,none⟩=some (.int .i64 Ub):=(ga za.out 1).trans rfl;have oaf:wc.cell? ⟨Ja,2,none⟩=some (.int .i64 Lb):=(ga za.out 2).trans rfl;have naf:wc.cell? ⟨Ja,3,none⟩=some (.int .i64 Mb):=(ga za.out 3).trans rfl;have maf:wc.cell? ⟨Ja,4,none⟩=some (.int .i64 ec):=(ga za.out 4).trans rfl;have laf:wc.cell? ⟨Ja,5,none⟩=some (.int .i64 Nc):=(ga za.out 5).trans rfl;have kaf:wc.cell? ⟨Ja,6,none⟩=some (.string Tc):=(ga za.out 6).trans rfl;have eac:=aa za.out 0;have dac:=aa za.out 1;have cac:=aa za.out 2;have bac:=aa za.out 3;have aac:=aa za.out 4;have Zab:=aa za.out 5;have Yab:=aa za.out 6;go_wp2;go_ret;exact ⟨by first|rfl|(simp [Ma,La] <;> rfl)|(simp [*,Ma,La] <;> rfl),by repeat (first|(with_reducible first|exact HB.out|apply qa|apply ia|apply ta|refine ua ?_ Sa.out|refine ua ?_ Bc.out)|exact HB.out)⟩
         ·replace c66:=Bool.eq_false_iff.mpr c66;subst c66;have H1:(some false)=some r:=by rw [if_neg (show ¬ (false=true) by decide)] at H;exact H
          clear H;have H:=H1;clear H1;obtain rfl:=Option.some.inj H;have Vam:=Cb.out;have sam:=Db.out;have jaf:wc.cell? ⟨Ja,0,none⟩=some (.int .i64 Cc):=(ga za.out 0).trans rfl;have iaf:wc.cell? ⟨Ja,1,none⟩=some (.int .i64 Ub):=(ga za.out 1).trans rfl;have haf:wc.cell? ⟨Ja,2,none⟩=some (.int .i64 Lb):=(ga za.out 2).trans rfl;have gaf:wc.cell? ⟨Ja,3,none⟩=some (.int .i64 Mb):=(ga za.out 3).trans rfl;have faf:wc.cell? ⟨Ja,4,none⟩=some (.int .i64 ec):=(ga za.out 4).trans rfl;have eaf:wc.cell? ⟨Ja,5,none⟩=some (.int .i64 Nc):=(ga za.out 5).trans rfl;have daf:wc.cell? ⟨Ja,6,none⟩=some (.string Tc):=(ga za.out 6).trans rfl;have Xab:=aa za.out 0;have Wab:=aa za.out 1;have Vab:=aa za.out 2;have Uab:=aa za.out 3;have Tab:=aa za.out 4;have Sab:=aa za.out 5;have Rab:=aa za.out 6;go_wp2;go_ret;exact ⟨by first|rfl|(simp [Ma,La] <;> rfl)|(simp [*,Ma,La] <;> rfl),by repeat (first|(with_reducible first|exact HB.out|apply qa|apply ia|apply ta|refine ua ?_ Sa.out|refine ua ?_ Bc.out)|exact HB.out)⟩
        ·rw [if_neg tZ] at H;have Q9:(Cc == 2)=false:=beq_eq_false_iff_ne.mpr tZ;have P9:(Cc != 2)=true:=bne_iff_ne.mpr tZ
         by_cases rZ:Cc=3
         ·rw [if_pos rZ] at H;have M9:(Cc == 3)=true:=beq_iff_eq.mpr rZ;have L9:(Cc != 3)=false:=bne_eq_false_iff_eq.mpr rZ;clear rZ
          by_cases c86:t103=true
          ·subst c86;have H1:(some jH)=some r:=by rw [if_pos rfl] at H;exact H
           clear H;have H:=H1;clear H1;obtain rfl:=Option.some.inj H;have Uam:=Cb.out;have ram:=Db.out;have caf:wc.cell? ⟨Ja,0,none⟩=some (.int .i64 Cc):=(ga za.out 0).trans rfl;have baf:wc.cell? ⟨Ja,1,none⟩=some (.int .i64 Ub):=(ga za.out 1).trans rfl;have aaf:wc.cell? ⟨Ja,2,none⟩=some (.int .i64 Lb):=(ga za.out 2).trans rfl;have Zae:wc.cell? ⟨Ja,3,none⟩=some (.int .i64 Mb):=(ga za.out 3).trans rfl;have Yae:wc.cell? ⟨Ja,4,none⟩=some (.int .i64 ec):=(ga za.out 4).trans rfl;have Xae:wc.cell? ⟨Ja,5,none⟩=some (.int .i64 Nc):=(ga za.out 5).trans rfl;have Wae:wc.cell? ⟨Ja,6,none⟩=some (.string Tc):=(ga za.out 6).trans rfl;have Qab:=aa za.out 0;have Pab:=aa za.out 1;have Oab:=aa za.out 2;have Nab:=aa za.out 3;have Mab:=aa za.out 4;have Lab:=aa za.out 5;have Kab:=aa za.out 6;go_wp2;go_ret;exact ⟨by first|rfl|(simp [Ma,La] <;> rfl)|(simp [*,Ma,La] <;> rfl),by repeat (first|(with_reducible first|exact HB.out|apply qa|apply ia|apply ta|refine ua ?_ Sa.out|refine ua ?_ Bc.out)|exact HB.out)⟩
          ·replace c86:=Bool.eq_false_iff.mpr c86;subst c86;have H1:(some false)=some r:=by rw [if_neg (show ¬ (false=true) by decide)] at H;exact H
           clear H;have H:=H1;clear H1;obtain rfl:=Option.some.inj H;have Tam:=Cb.out;have qam:=Db.out;have Vae:wc.cell? ⟨Ja,0,none⟩=some (.int .i64 Cc):=(ga za.out 0).trans rfl;have Uae:wc.cell? ⟨Ja,1,none⟩=some (.int .i64 Ub):=(ga za.out 1).trans rfl;have Tae:wc.cell? ⟨Ja,2,none⟩=some (.int .i64 Lb):=(ga za.out 2).trans rfl;have Sae:wc.cell? ⟨Ja,3,none⟩=some (.int .i64 Mb):=(ga za.out 3).trans rfl;have Rae:wc.cell? ⟨Ja,4,none⟩=some (.int .i64 ec):=(ga za.out 4).trans rfl;have Qae:wc.cell? ⟨Ja,5,none⟩=some (.int .i64 Nc):=(ga za.out 5).trans rfl;have Pae:wc.cell? ⟨Ja,6,none⟩=some (.string Tc):=(ga za.out 6).trans rfl;have Jab:=aa za.out 0;have Iab:=aa za.out 1;have Hab:=aa za.out 2;have Gab:=aa za.out 3;have Fab:=aa za.out 4;have Eab:=aa za.out 5;have Dab:=aa za.out 6;go_wp2;go_ret;exact ⟨by first|rfl|(simp [Ma,La] <;> rfl)|(simp [*,Ma,La] <;> rfl),by repeat (first|(with_reducible first|exact HB.out|apply qa|apply ia|apply ta|refine ua ?_ Sa.out|refine ua ?_ Bc.out)|exact HB.out)⟩
         ·rw [if_neg rZ] at H;have M9:(Cc == 3)=false:=beq_eq_false_iff_ne.mpr rZ;have L9:(Cc != 3)=true:=bne_iff_ne.mpr rZ
          by_cases qZ:Cc=4
          ·rw [if_pos qZ] at H;have K9:(Cc == 4)=true:=beq_iff_eq.mpr qZ;have J9:(Cc != 4)=false:=bne_eq_false_iff_eq.mpr qZ;clear qZ
           by_cases pZ:Ub=0
           ·rw [if_pos pZ] at H;have I9:(Ub == 0)=true:=beq_iff_eq.mpr pZ;have H9:(Ub != 0)=false:=bne_eq_false_iff_eq.mpr pZ;clear pZ
            by_cases c93:jH=true
            ·subst c93;have H1:((Xa.f ec 0 (wrap64 (Ia - 1))).bind fun t112=>(some t112))=some r:=by rw [if_pos rfl] at H;exact H
             clear H;have H:=H1;clear H1;replace H:=Option.bind_eq_some_iff.mp H;obtain ⟨t112,Iaa,H⟩:=H;replace H:(some t112)=some r:=H;have A94:=ja.mk Iaa;clear Iaa;obtain rfl:=Option.some.inj H;have Sam:=Cb.out;have pam:=Db.out;have Oae:wc.cell? ⟨Ja,0,none⟩=some (.int .i64 Cc):=(ga za.out 0).trans rfl;have Nae:wc.cell? ⟨Ja,1,none⟩=some (.int .i64 Ub):=(ga za.out 1).trans rfl;have Mae:wc.cell? ⟨Ja,2,none⟩=some (.int .i64 Lb):=(ga za.out 2).trans rfl;have Lae:wc.cell? ⟨Ja,3,none⟩=some (.int .i64 Mb):=(ga za.out 3).trans rfl;have Kae:wc.cell? ⟨Ja,4,none⟩=some (.int .i64 ec):=(ga za.out 4).trans rfl;have Jae:wc.cell? ⟨Ja,5,none⟩=some (.int .i64 Nc):=(ga za.out 5).trans rfl;have Iae:wc.cell? ⟨Ja,6,none⟩=some (.string Tc):=(ga za.out 6).trans rfl;have Cab:=aa za.out 0;have Bab:=aa za.out 1;have Aab:=aa za.out 2;have zab:=aa za.out 3;have yab:=aa za.out 4;have xab:=aa za.out 5;have wab:=aa za.out 6;have Hae:wc.cell? ⟨ya,0,none⟩=some (.slice Ya Pa.length Za):=(ga oa.out 0).trans rfl;have Gae:wc.cell? ⟨ya,1,none⟩=some (.int .i64 Ka):=(ga oa.out 1).trans rfl;have Fae:wc.cell? ⟨ya,2,none⟩=some (.int .i64 Ga):=(ga oa.out 2).trans rfl;have Eae:wc.cell? ⟨ya,3,none⟩=some (.int .i64 Ia):=(ga oa.out 3).trans rfl;have Dae:wc.cell? ⟨ya,4,none⟩=some (.slice Vb Da.length Jb):=(ga oa.out 4).trans rfl;have vab:=aa oa.out 0;have uab:=aa oa.out 1;have sab:=aa oa.out 2;have rab:=aa oa.out 3;have qab:=aa oa.out 4;go_wp2_with (first|(go_at_call 53;(with_reducible refine (Xa.calls ec 0 (wrap64 (Ia - 1)) t112 _ A94.out).mono ?_);rintro e w' ⟨rfl,⟨nd,rfl⟩⟩));go_ret;exact ⟨by first|rfl|(simp [Ma,La] <;> rfl)|(simp [*,Ma,La] <;> rfl),by repeat (first|(with_reducible first|exact HB.out|apply qa|apply ia|apply ta|refine ua ?_ Sa.out|refine ua ?_ Bc.out)|exact HB.out)⟩
            ·replace c93:=Bool.eq_false_iff.mpr c93;subst c93;have H1:(some false)=some r:=by rw [if_neg (show ¬ (false=true) by decide)] at H;exact H
             clear H;have H:=H1;clear H1;obtain rfl:=Option.some.inj H;have Ram:=Cb.out;have oam:=Db.out;have Cae:wc.cell? ⟨Ja,0,none⟩=some (.int .i64 Cc):=(ga za.out 0).trans rfl;have Bae:wc.cell? ⟨Ja,1,none⟩=some (.int .i64 Ub):=(ga za.out 1).trans rfl;have Aae:wc.cell? ⟨Ja,2,none⟩=some (.int .i64 Lb):=(ga za.out 2).trans rfl;have zae:wc.cell? ⟨Ja,3,none⟩=some (.int .i64 Mb):=(ga za.out 3).trans rfl;have yae:wc.cell? ⟨Ja,4,none⟩=some (.int .i64 ec):=(ga za.out 4).trans rfl;have xae:wc.cell? ⟨Ja,5,none⟩=some (.int .i64 Nc):=(ga za.out 5).trans rfl;have wae:wc.cell? ⟨Ja,6,none⟩=some (.string Tc):=(ga za.out 6).trans rfl;have pab:=aa za.out 0;have oab:=aa za.out 1;have mab:=aa za.out 2;have lab:=aa za.out 3;have kab:=aa za.out 4;have jab:=aa za.out 5;have iab:=aa za.out 6;go_wp2;go_ret;exact ⟨by first|rfl|(simp [Ma,La] <;> rfl)|(simp [*,Ma,La] <;> rfl),by repeat (first|(with_reducible first|exact HB.out|apply qa|apply ia|apply ta|refine ua ?_ Sa.out|refine ua ?_ Bc.out)|exact HB.out)⟩
           ·rw [if_neg pZ] at H;have I9:(Ub == 0)=false:=beq_eq_false_iff_ne.mpr pZ;have H9:(Ub != 0)=true:=bne_iff_ne.mpr pZ;obtain rfl:=Option.some.inj H;have Iaj:=Cb.out;have uaj:=Db.out;have R8:wc.cell? ⟨Ja,0,none⟩=some (.int .i64 Cc):=(ga za.out 0).trans rfl;have Q8:wc.cell? ⟨Ja,1,none⟩=some (.int .i64 Ub):=(ga za.out 1).trans rfl;have P8:wc.cell? ⟨Ja,2,none⟩=some (.int .i64 Lb):=(ga za.out 2).trans rfl;have O8:wc.cell? ⟨Ja,3,none⟩=some (.int .i64 Mb):=(ga za.out 3).trans rfl;have N8:wc.cell? ⟨Ja,4,none⟩=some (.int .i64 ec):=(ga za.out 4).trans rfl;have M8:wc.cell? ⟨Ja,5,none⟩=some (.int .i64 Nc):=(ga za.out 5).trans rfl;have L8:wc.cell? ⟨Ja,6,none⟩=some (.string Tc):=(ga za.out 6).trans rfl;have X6:=aa za.out 0;have W6:=aa za.out 1;have V6:=aa za.out 2;have U6:=aa za.out 3;have S6:=aa za.out 4;have R6:=aa za.out 5;have Q6:=aa za.out 6;go_wp2;go_ret;exact ⟨by first|rfl|(simp [Ma,La] <;> rfl)|(simp [*,Ma,La] <;> rfl),by repeat (first|(with_reducible first|exact HB.out|apply qa|apply ia|apply ta|refine ua ?_ Sa.out|refine ua ?_ Bc.out)|exact HB.out)⟩
          ·rw [if_neg qZ] at H;have K9:(Cc == 4)=false:=beq_eq_false_iff_ne.mpr qZ;have J9:(Cc != 4)=true:=bne_iff_ne.mpr qZ
           by_cases oK:Cc=5
           ·rw [if_pos oK] at H;have KZ:(Cc == 5)=true:=beq_iff_eq.mpr oK;have JZ:(Cc != 5)=false:=bne_eq_false_iff_eq.mpr oK;clear oK
            by_cases IV:t103=true
            ·subst IV;have H1:(if Lb=0 then (if Mb=0 then (some (Nc == 0)) else (some false)) else (some false))=some r:=by rw [if_pos rfl] at H;exact H
             clear H;have H:=H1;clear H1
             by_cases nK:Lb=0
             ·rw [if_pos nK] at H;have HZ:(Lb == 0)=true:=beq_iff_eq.mpr nK;have GZ:(Lb != 0)=false:=bne_eq_false_iff_eq.mpr nK;clear nK
              by_cases mK:Mb=0
              ·rw [if_pos mK] at H;have FZ:(Mb == 0)=true:=beq_iff_eq.mpr mK;have EZ:(Mb != 0)=false:=bne_eq_false_iff_eq.mpr mK;clear mK;obtain rfl:=Option.some.inj H;have Haj:=Cb.out;have taj:=Db.out;have K8:wc.cell? ⟨Ja,0,none⟩=some (.int .i64 Cc):=(ga za.out 0).trans rfl;have J8:wc.cell? ⟨Ja,1,none⟩=some (.int .i64 Ub):=(ga za.out 1).trans rfl;have I8:wc.cell? ⟨Ja,2,none⟩=some (.int .i64 Lb):=(ga za.out 2).trans rfl;have H8:wc.cell? ⟨Ja,3,none⟩=some (.int .i64 Mb):=(ga za.out 3).trans rfl;have G8:wc.cell? ⟨Ja,4,none⟩=some (.int .i64 ec):=(ga za.out 4).trans rfl;have F8:wc.cell? ⟨Ja,5,none⟩=some (.int .i64 Nc):=(ga za.out 5).trans rfl;have E8:wc.cell? ⟨Ja,6,none⟩=some (.string Tc):=(ga za.out 6).trans rfl;have P6:=aa za.out 0;have O6:=aa za.out 1;have N6:=aa za.out 2;have M6:=aa za.out 3;have L6:=aa za.out 4;have K6:=aa za.out 5;have J6:=aa za.out 6;go_wp2;go_ret;exact ⟨by first|rfl|(simp [Ma,La] <;> rfl)|(simp [*,Ma,La] <;> rfl),by repeat (first|(with_reducible first|exact HB.out|apply qa|apply ia|apply ta|refine ua ?_ Sa.out|refine ua ?_ Bc.out)|exact HB.out)⟩
              ·rw [if_neg mK] at H;have FZ:(Mb == 0)=false:=beq_eq_false_iff_ne.mpr mK;have EZ:(Mb != 0)=true:=bne_iff_ne.mpr mK;obtain rfl:=Option.some.inj H;have Gaj:=Cb.out;have saj:=Db.out;have D8:wc.cell? ⟨Ja,0,none⟩=some (.int .i64 Cc):=(ga za.out 0).trans rfl;have C8:wc.cell? ⟨Ja,1,none⟩=some (.int .i64 Ub):=(ga za.out 1).trans rfl;have B8:wc.cell? ⟨Ja,2,none⟩=some (.int .i64 Lb):=(ga za.out 2).trans rfl;have z8:wc.cell? ⟨Ja,3,none⟩=some (.int .i64 Mb):=(ga za.out 3).trans rfl;have y8:wc.cell? ⟨Ja,4,none⟩=some (.int .i64 ec):=(ga za.out 4).trans rfl;have r8:wc.cell? ⟨Ja,5,none⟩=some (.int .i64 Nc):=(ga za.out 5).trans rfl;have q8:wc.cell? ⟨Ja,6,none⟩=some (.string Tc):=(ga za.out 6).trans rfl;have I6:=aa za.out 0;have H6:=aa za.out 1;have G6:=aa za.out 2;have F6:=aa za.out 3;have E6:=aa za.out 4;have D6:=aa za.out 5;have C6:=aa za.out 6;go_wp2;go_ret;exact ⟨by first|rfl|(simp [Ma,La] <;> rfl)|(simp [*,Ma,La] <;> rfl),by repeat (first|(with_reducible first|exact HB.out|apply qa|apply ia|apply ta|refine ua ?_ Sa.out|refine ua ?_ Bc.out)|exact HB.out)⟩
             ·rw [if_neg nK] at H;have HZ:(Lb == 0)=false:=beq_eq_false_iff_ne.mpr nK;have GZ:(Lb != 0)=true:=bne_iff_ne.mpr nK;obtain rfl:=Option.some.inj H;have Faj:=Cb.out;have raj:=Db.out;have p8:wc.cell? ⟨Ja,0,none⟩=some (.int .i64 Cc):=(ga za.out 0).trans rfl;have o8:wc.cell? ⟨Ja,1,none⟩=some (.int .i64 Ub):=(ga za.out 1).trans rfl;have n8:wc.cell? ⟨Ja,2,none⟩=some (.int .i64 Lb):=(ga za.out 2).trans rfl;have m8:wc.cell? ⟨Ja,3,none⟩=some (.int .i64 Mb):=(ga za.out 3).trans rfl;have l8:wc.cell? ⟨Ja,4,none⟩=some (.int .i64 ec):=(ga za.out 4).trans rfl;have k8:wc.cell? ⟨Ja,5,none⟩=some (.int .i64 Nc):=(ga za.out 5).trans rfl;have j8:wc.cell? ⟨Ja,6,none⟩=some (.string Tc):=(ga za.out 6).trans rfl;have z6:=aa za.out 0;have u6:=aa za.out 1;have q6:=aa za.out 2;have n6:=aa za.out 3;have m6:=aa za.out 4;have l6:=aa za.out 5;have j6:=aa za.out 6;go_wp2;go_ret;exact ⟨by first|rfl|(simp [Ma,La] <;> rfl)|(simp [*,Ma,La] <;> rfl),by repeat (first|(with_reducible first|exact HB.out|apply qa|apply ia|apply ta|refine ua ?_ Sa.out|refine ua ?_ Bc.out)|exact HB.out)⟩
            ·replace IV:=Bool.eq_false_iff.mpr IV;subst IV;have H1:(some false)=some r:=by rw [if_neg (show ¬ (false=true) by decide)] at H;exact H
             clear H;have H:=H1;clear H1;obtain rfl:=Option.some.inj H;have Eaj:=Cb.out;have qaj:=Db.out;have g8:wc.cell? ⟨Ja,0,none⟩=some (.int .i64 Cc):=(ga za.out 0).trans rfl;have e8:wc.cell? ⟨Ja,1,none⟩=some (.int .i64 Ub):=(ga za.out 1).trans rfl;have b8:wc.cell? ⟨Ja,2,none⟩=some (.int .i64 Lb):=(ga za.out 2).trans rfl;have Z7:wc.cell? ⟨Ja,3,none⟩=some (.int .i64 Mb):=(ga za.out 3).trans rfl;have Y7:wc.cell? ⟨Ja,4,none⟩=some (.int .i64 ec):=(ga za.out 4).trans rfl;have X7:wc.cell? ⟨Ja,5,none⟩=some (.int .i64 Nc):=(ga za.out 5).trans rfl;have W7:wc.cell? ⟨Ja,6,none⟩=some (.string Tc):=(ga za.out 6).trans rfl;have e6:=aa za.out 0;have b6:=aa za.out 1;have Z5:=aa za.out 2;have Y5:=aa za.out 3;have X5:=aa za.out 4;have W5:=aa za.out 5;have V5:=aa za.out 6;go_wp2;go_ret;exact ⟨by first|rfl|(simp [Ma,La] <;> rfl)|(simp [*,Ma,La] <;> rfl),by repeat (first|(with_reducible first|exact HB.out|apply qa|apply ia|apply ta|refine ua ?_ Sa.out|refine ua ?_ Bc.out)|exact HB.out)⟩
           ·rw [if_neg oK] at H;have KZ:(Cc == 5)=false:=beq_eq_false_iff_ne.mpr oK;have JZ:(Cc != 5)=true:=bne_iff_ne.mpr oK
            by_cases lK:Cc=6
            ·rw [if_pos lK] at H;have CZ:(Cc == 6)=true:=beq_iff_eq.mpr lK;have BZ:(Cc != 6)=false:=bne_eq_false_iff_eq.mpr lK;clear lK
             by_cases kK:Ub=0
             ·rw [if_pos kK] at H;have AZ:(Ub == 0)=true:=beq_iff_eq.mpr kK;have zZ:(Ub != 0)=false:=bne_eq_false_iff_eq.mpr kK;clear kK
              by_cases GV:t104=true
              ·subst GV;have H1:(if Mb=0 then (some (Nc == 0)) else (some false))=some r:=by rw [if_pos rfl] at H;exact H
               clear H;have H:=H1;clear H1
               by_cases jK:Mb=0
               ·rw [if_pos jK] at H;have yZ:(Mb == 0)=true:=beq_iff_eq.mpr jK;have xZ:(Mb != 0)=false:=bne_eq_false_iff_eq.mpr jK;clear jK;obtain rfl:=Option.some.inj H;have Daj:=Cb.out;have paj:=Db.out;have V7:wc.cell? ⟨Ja,0,none⟩=some (.int .i64 Cc):=(ga za.out 0).trans rfl;have U7:wc.cell? ⟨Ja,1,none⟩=some (.int .i64 Ub):=(ga za.out 1).trans rfl;have T7:wc.cell? ⟨Ja,2,none⟩=some (.int .i64 Lb):=(ga za.out 2).trans rfl;have S7:wc.cell? ⟨Ja,3,none⟩=some (.int .i64 Mb):=(ga za.out 3).trans rfl;have R7:wc.cell? ⟨Ja,4,none⟩=some (.int .i64 ec):=(ga za.out 4).trans rfl;have Q7:wc.cell? ⟨Ja,5,none⟩=some (.int .i64 Nc):=(ga za.out 5).trans rfl;have P7:wc.cell? ⟨Ja,6,none⟩=some (.string Tc):=(ga za.out 6).trans rfl;have U5:=aa za.out 0;have T5:=aa za.out 1;have S5:=aa za.out 2;have R5:=aa za.out 3;have Q5:=aa za.out 4;have P5:=aa za.out 5;have O5:=aa za.out 6;go_wp2;go_ret;exact ⟨by first|rfl|(simp [Ma,La] <;> rfl)|(simp [*,Ma,La] <;> rfl),by repeat (first|(with_reducible first|exact HB.out|apply qa|apply ia|apply ta|refine ua ?_ Sa.out|refine ua ?_ Bc.out)|exact HB.out)⟩
               ·rw [if_neg jK] at H;have yZ:(Mb == 0)=false:=beq_eq_false_iff_ne.mpr jK;have xZ:(Mb != 0)=true:=bne_iff_ne.mpr jK;obtain rfl:=Option.some.inj H;have Caj:=Cb.out;have oaj:=Db.out;have O7:wc.cell? ⟨Ja,0,none⟩=some (.int .i64 Cc):=(ga za.out 0).trans rfl;have N7:wc.cell? ⟨Ja,1,none⟩=some (.int .i64 Ub):=(ga za.out 1).trans rfl;have M7:wc.cell? ⟨Ja,2,none⟩=some (.int .i64 Lb):=(ga za.out 2).trans rfl;have L7:wc.cell? ⟨Ja,3,none⟩=some (.int .i64 Mb):=(ga za.out 3).trans rfl;have K7:wc.cell? ⟨Ja,4,none⟩=some (.int .i64 ec):=(ga za.out 4).trans rfl;have J7:wc.cell? ⟨Ja,5,none⟩=some (.int .i64 Nc):=(ga za.out 5).trans rfl;have I7:wc.cell? ⟨Ja,6,none⟩=some (.string Tc):=(ga za.out 6).trans rfl;have M5:=aa za.out 0;have L5:=aa za.out 1;have K5:=aa za.out 2;have J5:=aa za.out 3;have I5:=aa za.out 4;have G5:=aa za.out 5;have F5:=aa za.out 6;go_wp2;go_ret;exact ⟨by first|rfl|(simp [Ma,La] <;> rfl)|(simp [*,Ma,La] <;> rfl),by repeat (first|(with_reducible first|exact HB.out|apply qa|apply ia|apply ta|refine ua ?_ Sa.out|refine ua ?_ Bc.out)|exact HB.out)⟩
              ·replace GV:=Bool.eq_false_iff.mpr GV;subst GV;have H1:(some false)=some r:=by rw [if_neg (show ¬ (false=true) by decide)] at H;exact H
               clear H;have H:=H1;clear H1;obtain rfl:=Option.some.inj H;have Baj:=Cb.out;have naj:=Db.out;have H7:wc.cell? ⟨Ja,0,none⟩=some (.int .i64 Cc):=(ga za.out 0).trans rfl;have G7:wc.cell? ⟨Ja,1,none⟩=some (.int .i64 Ub):=(ga za.out 1).trans rfl;have F7:wc.cell? ⟨Ja,2,none⟩=some (.int .i64 Lb):=(ga za.out 2).trans rfl;have E7:wc.cell? ⟨Ja,3,none⟩=some (.int .i64 Mb):=(ga za.out 3).trans rfl;have D7:wc.cell? ⟨Ja,4,none⟩=some (.int .i64 ec):=(ga za.out 4).trans rfl;have C7:wc.cell? ⟨Ja,5,none⟩=some (.int .i64 Nc):=(ga za.out 5).trans rfl;have B7:wc.cell? ⟨Ja,6,none⟩=some (.string Tc):=(ga za.out 6).trans rfl;have E5:=aa za.out 0;have D5:=aa za.out 1;have C5:=aa za.out 2;have B5:=aa za.out 3;have z5:=aa za.out 4;have u5:=aa za.out 5;have q5:=aa za.out 6;go_wp2;go_ret;exact ⟨by first|rfl|(simp [Ma,La] <;> rfl)|(simp [*,Ma,La] <;> rfl),by repeat (first|(with_reducible first|exact HB.out|apply qa|apply ia|apply ta|refine ua ?_ Sa.out|refine ua ?_ Bc.out)|exact HB.out)⟩
             ·rw [if_neg kK] at H;have AZ:(Ub == 0)=false:=beq_eq_false_iff_ne.mpr kK;have zZ:(Ub != 0)=true:=bne_iff_ne.mpr kK;obtain rfl:=Option.some.inj H;have Aaj:=Cb.out;have maj:=Db.out;have z7:wc.cell? ⟨Ja,0,none⟩=some (.int .i64 Cc):=(ga za.out 0).trans rfl;have y7:wc.cell? ⟨Ja,1,none⟩=some (.int .i64 Ub):=(ga za.out 1).trans rfl;have u7:wc.cell? ⟨Ja,2,none⟩=some (.int .i64 Lb):=(ga za.out 2).trans rfl;have p7:wc.cell? ⟨Ja,3,none⟩=some (.int .i64 Mb):=(ga za.out 3).trans rfl;have o7:wc.cell? ⟨Ja,4,none⟩=some (.int .i64 ec):=(ga za.out 4).trans rfl;have n7:wc.cell? ⟨Ja,5,none⟩=some (.int .i64 Nc):=(ga za.out 5).trans rfl;have m7:wc.cell? ⟨Ja,6,none⟩=some (.string Tc):=(ga za.out 6).trans rfl;have p5:=aa za.out 0;have n5:=aa za.out 1;have m5:=aa za.out 2;have j5:=aa za.out 3;have b5:=aa za.out 4;have Z4:=aa za.out 5;have Y4:=aa za.out 6;go_wp2;go_ret;exact ⟨by first|rfl|(simp [Ma,La] <;> rfl)|(simp [*,Ma,La] <;> rfl),by repeat (first|(with_reducible first|exact HB.out|apply qa|apply ia|apply ta|refine ua ?_ Sa.out|refine ua ?_ Bc.out)|exact HB.out)⟩
            ·rw [if_neg lK] at H;have CZ:(Cc == 6)=false:=beq_eq_false_iff_ne.mpr lK;have BZ:(Cc != 6)=true:=bne_iff_ne.mpr lK;obtain rfl:=Option.some.inj H;have zaj:=Cb.out;have laj:=Db.out;have l7:wc.cell? ⟨Ja,0,none⟩=some (.int .i64 Cc):=(ga za.out 0).trans rfl;have k7:wc.cell? ⟨Ja,1,none⟩=some (.int .i64 Ub):=(ga za.out 1).trans rfl;have j7:wc.cell? ⟨Ja,2,none⟩=some (.int .i64 Lb):=(ga za.out 2).trans rfl;have g7:wc.cell? ⟨Ja,3,none⟩=some (.int .i64 Mb):=(ga za.out 3).trans rfl;have e7:wc.cell? ⟨Ja,4,none⟩=some (.int .i64 ec):=(ga za.out 4).trans rfl;have b7:wc.cell? ⟨Ja,5,none⟩=some (.int .i64 Nc):=(ga za.out 5).trans rfl;have Z6:wc.cell? ⟨Ja,6,none⟩=some (.string Tc):=(ga za.out 6).trans rfl;have X4:=aa za.out 0;have W4:=aa za.out 1;have V4:=aa za.out 2;have U4:=aa za.out 3;have S4:=aa za.out 4;have R4:=aa za.out 5;have Q4:=aa za.out 6;go_wp2;go_ret;exact ⟨by first|rfl|(simp [Ma,La] <;> rfl)|(simp [*,Ma,La] <;> rfl),by repeat (first|(with_reducible first|exact HB.out|apply qa|apply ia|apply ta|refine ua ?_ Sa.out|refine ua ?_ Bc.out)|exact HB.out)⟩
end Go.Proofs.Ytkigbdceceeenaa.P
