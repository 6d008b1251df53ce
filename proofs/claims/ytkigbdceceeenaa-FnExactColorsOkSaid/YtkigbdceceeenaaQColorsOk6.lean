import Derived.Test.YtkigbdceceeenaaQColorsOk1
import Derived.Test.YtkigbdceceeenaaQColorsOk5
set_option maxHeartbeats 8000000
set_option maxRecDepth 100000
namespace Go.Proofs.Ytkigbdceceeenaa.P
open Go.RowKit Go.Proofs.Pa.Xb Go.Proofs.Pa.Pd Go.Proofs.Pa.Oe
attribute [local go_sem] Bi Xi Jj Ik Uh Th Yi Wi
set_option linter.unusedVariables false
set_option linter.unusedSimpArgs false
mutual
def jb.j0:Nat→Bool→Bool→Bool→Bool→List Int→Int→Int→Int→List (Ke)→Int→Int→Int→Int→Int→Int→ByteArray→Option (Bool)
 | 0,_,_,_,_,_,_,_,_,_,_,_,_,_,_,_,_=>none
 | k + 1,x5,x6,x7,x8,Cc,Uc,Ic,Gc,ec,Rf,Fk,Yk,Ij,Hj,Tm,cq=>if Rf=2 then (if Rf=4 then (jb.j1 k x5 x6 x7 x8 false Cc Uc Ic Gc ec Rf Fk Yk Ij Hj Tm cq) else (jb.j1 k x5 x6 x7 x8 (Hj != 0) Cc Uc Ic Gc ec Rf Fk Yk Ij Hj Tm cq)) else (if cq.toList=([]:List UInt8) then (if Rf=4 then (jb.j1 k x5 x6 x7 x8 false Cc Uc Ic Gc ec Rf Fk Yk Ij Hj Tm cq) else (jb.j1 k x5 x6 x7 x8 (Hj != 0) Cc Uc Ic Gc ec Rf Fk Yk Ij Hj Tm cq)) else (jb.j1 k x5 x6 x7 x8 true Cc Uc Ic Gc ec Rf Fk Yk Ij Hj Tm cq))
def jb.j1:Nat→Bool→Bool→Bool→Bool→Bool→List Int→Int→Int→Int→List (Ke)→Int→Int→Int→Int→Int→Int→ByteArray→Option (Bool)
 | 0,_,_,_,_,_,_,_,_,_,_,_,_,_,_,_,_,_=>none
 | k + 1,x5,x6,x7,x8,x62,Cc,Uc,Ic,Gc,ec,Rf,Fk,Yk,Ij,Hj,Tm,cq=>if x62=true then (some false) else (if Rf=0 then (if x5=true then (if Yk=0 then (some (Ij == 0)) else (some false)) else (some false)) else (if Rf=1 then (if x5=true then (if x6=true then (if Ij=0 then (some (Tm == 0)) else (some false)) else (some false)) else (some false)) else (if Rf=2 then (if x5=true then (if x6=true then (if x7=true then (if Tm=0 then ((Ge.f k (([(⟨#[61,61]⟩:ByteArray),(⟨#[60]⟩:ByteArray),(⟨#[38]⟩:ByteArray),(⟨#[43]⟩:ByteArray),(⟨#[45]⟩:ByteArray),(⟨#[42]⟩:ByteArray)]:List ByteArray)) cq).bind fun t111=>(some t111)) else (some false)) else (some false)) else (some false)) else (some false)) else (if Rf=3 then (if x5=true then (some x8) else (some false)) else (if Rf=4 then (if Fk=0 then (if x8=true then ((Za.f Hj 0 (wrap64 (Gc - 1))).bind fun t112=>(some t112)) else (some false)) else (some false)) else (if Rf=5 then (if x5=true then (if Yk=0 then (if Ij=0 then (some (Tm == 0)) else (some false)) else (some false)) else (some false)) else (if Rf=6 then (if Fk=0 then (if x6=true then (if Ij=0 then (some (Tm == 0)) else (some false)) else (some false)) else (some false)) else (some false))))))))
end
def jb.f (k:Nat) (Oa:List Int) (Ja:Int) (Fa:Int) (Ia:Int) (Ca:List (Ke)) (Bc:Int) (Wb:Int) (Sb:Int) (Tb:Int) (fc:Int) (Pc:Int) (Yc:ByteArray):Option (Bool):=(Za.f Wb 0 (wrap64 (Ia - 1))).bind fun t103=>((Za.f Sb 0 (wrap64 (Ia - 1))).bind fun t104=>((Za.f Tb 0 (wrap64 (Ia - 1))).bind fun t105=>(if t104=true then (if t105=true then ((Za.f Pc 0 (wrap64 ((Oa.length:Int) - 1))).bind fun t106=>(jb.j0 k t103 t104 t105 t106 Oa Ja Fa Ia Ca Bc Wb Sb Tb fc Pc Yc)) else (jb.j0 k t103 t104 t105 false Oa Ja Fa Ia Ca Bc Wb Sb Tb fc Pc Yc)) else (if Sb=(-1) then (if t105=true then ((Za.f Pc 0 (wrap64 ((Oa.length:Int) - 1))).bind fun t107=>(jb.j0 k t103 t104 t105 t107 Oa Ja Fa Ia Ca Bc Wb Sb Tb fc Pc Yc)) else (jb.j0 k t103 t104 t105 false Oa Ja Fa Ia Ca Bc Wb Sb Tb fc Pc Yc)) else (jb.j0 k t103 t104 t105 false Oa Ja Fa Ia Ca Bc Wb Sb Tb fc Pc Yc)))))
theorem jb.calls (k:Nat) (Wa:Option Addr) (Ya:Nat) (Oa:List Int) (Ja:Int) (Fa:Int) (Ia:Int) (Ob:Option Addr) (Cb:Nat) (Ca:List (Ke)) (Bc:Int) (Wb:Int) (Sb:Int) (Tb:Int) (fc:Int) (Pc:Int) (Yc:ByteArray) (r:Bool) (w:World) (Ld:Kd.C (Kd.int .i64) w Wa Oa.length Oa) (Gd:Oa.length ≤ Ya) (Ue:Kd.C Gs w Ob Ca.length Ca) (Qe:Ca.length ≤ Cb) (h:jb.f k Oa Ja Fa Ia Ca Bc Wb Sb Tb fc Pc Yc=some r) :
  Calls Try.prog 97 #[.agg #[.slice Wa Oa.length Ya,.int .i64 Ja,.int .i64 Fa,.int .i64 Ia,.slice Ob Ca.length Cb],.agg #[.int .i64 Bc,.int .i64 Wb,.int .i64 Sb,.int .i64 Tb,.int .i64 fc,.int .i64 Pc,.string Yc]] w fun e w'=>e = .returned (.bool r)∧Below w.heap.size w w':=by
 have gB:=Try.underlying30;have Yz:=Try.underlying65;have Md:=ja.mk Ld;have Rd:=ja.mk Gd;clear Ld Gd;have Ce:=ja.mk Ue;have Ff:=ja.mk Qe;clear Ue Qe;have HB:=ja.mk (Below.refl w.heap.size w);have H:((Za.f Wb 0 (wrap64 (Ia - 1))).bind fun t103=>((Za.f Sb 0 (wrap64 (Ia - 1))).bind fun t104=>((Za.f Tb 0 (wrap64 (Ia - 1))).bind fun t105=>(if t104=true then (if t105=true then ((Za.f Pc 0 (wrap64 ((Oa.length:Int) - 1))).bind fun t106=>(jb.j0 k t103 t104 t105 t106 Oa Ja Fa Ia Ca Bc Wb Sb Tb fc Pc Yc)) else (jb.j0 k t103 t104 t105 false Oa Ja Fa Ia Ca Bc Wb Sb Tb fc Pc Yc)) else (if Sb=(-1) then (if t105=true then ((Za.f Pc 0 (wrap64 ((Oa.length:Int) - 1))).bind fun t107=>(jb.j0 k t103 t104 t105 t107 Oa Ja Fa Ia Ca Bc Wb Sb Tb fc Pc Yc)) else (jb.j0 k t103 t104 t105 false Oa Ja Fa Ia Ca Bc Wb Sb Tb fc Pc Yc)) else (jb.j0 k t103 t104 t105 false Oa Ja Fa Ia Ca Bc Wb Sb Tb fc Pc Yc))))))=some r:=h;clear h;replace H:=Option.bind_eq_some_iff.mp H;obtain ⟨t103,cw,H⟩:=H;replace H:((Za.f Sb 0 (wrap64 (Ia - 1))).bind fun t104=>((Za.f Tb 0 (wrap64 (Ia - 1))).bind fun t105=>(if t104=true then (if t105=true then ((Za.f Pc 0 (wrap64 ((Oa.length:Int) - 1))).bind fun t106=>(jb.j0 k t103 t104 t105 t106 Oa Ja Fa Ia Ca Bc Wb Sb Tb fc Pc Yc)) else (jb.j0 k t103 t104 t105 false Oa Ja Fa Ia Ca Bc Wb Sb Tb fc Pc Yc)) else (if Sb=(-1) then (if t105=true then ((Za.f Pc 0 (wrap64 ((Oa.length:Int) - 1))).bind fun t107=>(jb.j0 k t103 t104 t105 t107 Oa Ja Fa Ia Ca Bc Wb Sb Tb fc Pc Yc)) else (jb.j0 k t103 t104 t105 false Oa Ja Fa Ia Ca Bc Wb Sb Tb fc Pc Yc)) else (jb.j0 k t103 t104 t105 false Oa Ja Fa Ia Ca Bc Wb Sb Tb fc Pc Yc)))))=some r:=H;have A3:=ja.mk cw;clear cw;replace H:=Option.bind_eq_some_iff.mp H;obtain ⟨t104,PZ,H⟩:=H;replace H:((Za.f Tb 0 (wrap64 (Ia - 1))).bind fun t105=>(if t104=true then (if t105=true then ((Za.f Pc 0 (wrap64 ((Oa.length:Int) - 1))).bind fun t106=>(jb.j0 k t103 t104 t105 t106 Oa Ja Fa Ia Ca Bc Wb Sb Tb fc Pc Yc)) else (jb.j0 k t103 t104 t105 false Oa Ja Fa Ia Ca Bc Wb Sb Tb fc Pc Yc)) else (if Sb=(-1) then (if t105=true then ((Za.f Pc 0 (wrap64 ((Oa.length:Int) - 1))).bind fun t107=>(jb.j0 k t103 t104 t105 t107 Oa Ja Fa Ia Ca Bc Wb Sb Tb fc Pc Yc)) else (jb.j0 k t103 t104 t105 false Oa Ja Fa Ia Ca Bc Wb Sb Tb fc Pc Yc)) else (jb.j0 k t103 t104 t105 false Oa Ja Fa Ia Ca Bc Wb Sb Tb fc Pc Yc))))=some r:=H;have A4:=ja.mk PZ;clear PZ;replace H:=Option.bind_eq_some_iff.mp H;obtain ⟨t105,NP,H⟩:=H;replace H:(if t104=true then (if t105=true then ((Za.f Pc 0 (wrap64 ((Oa.length:Int) - 1))).bind fun t106=>(jb.j0 k t103 t104 t105 t106 Oa Ja Fa Ia Ca Bc Wb Sb Tb fc Pc Yc)) else (jb.j0 k t103 t104 t105 false Oa Ja Fa Ia Ca Bc Wb Sb Tb fc Pc Yc)) else (if Sb=(-1) then (if t105=true then ((Za.f Pc 0 (wrap64 ((Oa.length:Int) - 1))).bind fun t107=>(jb.j0 k t103 t104 t105 t107 Oa Ja Fa Ia Ca Bc Wb Sb Tb fc Pc Yc)) else (jb.j0 k t103 t104 t105 false Oa Ja Fa Ia Ca Bc Wb Sb Tb fc Pc Yc)) else (jb.j0 k t103 t104 t105 false Oa Ja Fa Ia Ca Bc Wb Sb Tb fc Pc Yc)))=some r:=H;have A5:=ja.mk NP;clear NP;have HC6:=ja.mk H;clear H;go_enter Try.func97,Try.ntmps97
 go_upto_region 4 with (first|((with_reducible refine qb (N:=2) rfl ?_);(try (refine kg (by rfl) ?_;dsimp only));refine Gb ?hg (N:=2) ?hd (cs:=#[.slice Wa Oa.length Ya,.int .i64 Ja,.int .i64 Fa,.int .i64 Ia,.slice Ob Ca.length Cb]) (t:=30) ?hr ?_;(case hd=>rfl);(case hg=>rfl);(case hr=>first|(go_simp;done)|(go_simp;rfl));intro ya hg w7 Rb hb;have Eb:=ja.mk (Na (by repeat (first|(with_reducible first|exact HB.out|apply qa|apply ia|apply ta)|exact HB.out)) hb);have Jb:=ja.mk (Rb);have Ub:=ja.mk ((by rw [hg];exact (Ga (by repeat (first|(with_reducible first|exact HB.out|apply qa|apply ia|apply ta)|exact HB.out))):w.heap.size ≤ ya));have uc:=ja.mk ((by rw [hg];exact (Ga (by repeat (first|(with_reducible first|exact HB.out|apply qa|apply ia|apply ta)|exact HB.out))):w.heap.size ≤ ya));clear HB;have HB:=Eb;have oa:=Jb;have xd:=Ub;have Ra:=uc;clear Eb Jb Ub uc hb Rb hg)|((with_reducible refine qb (N:=3) rfl ?_);(try (refine kg (by rfl) ?_;dsimp only));refine Gb ?hg (N:=3) ?hd (cs:=#[.int .i64 Bc,.int .i64 Wb,.int .i64 Sb,.int .i64 Tb,.int .i64 fc,.int .i64 Pc,.string Yc]) (t:=65) ?hr ?_;(case hd=>rfl);(case hg=>rfl);(case hr=>first|(go_simp;done)|(go_simp;rfl));intro Ka hg w8 Rb hb;have Eb:=ja.mk (Ta (g:=ya) (o:=.cells #[.slice Wa Oa.length Ya,.int .i64 Ja,.int .i64 Fa,.int .i64 Ia,.slice Ob Ca.length Cb] 30 (0,0)) (by (with_reducible repeat (first|refine Aa ?_ _|refine Da ?_|refine Ba ?_ _));exact oa.out) hb);have Jb:=ja.mk (Na (by repeat (first|(with_reducible first|exact HB.out|apply qa|apply ia|apply ta|refine ua ?_ Ra.out)|exact HB.out)) hb);have Ub:=ja.mk (Rb);have uc:=ja.mk ((by rw [hg];exact (Ga (by repeat (first|(with_reducible first|exact HB.out|apply qa|apply ia|apply ta|refine ua ?_ Ra.out)|exact HB.out))):w.heap.size ≤ Ka));have lf:=ja.mk ((by rw [hg];exact (Ga (by repeat (first|(with_reducible first|exact HB.out|apply qa|apply ia|apply ta|refine ua ?_ Ra.out)|exact HB.out))):w.heap.size ≤ Ka));have Vf:=ja.mk ((by rw [hg];exact Nat.ne_of_lt (Jc (g:=ya) (o:=.cells #[.slice Wa Oa.length Ya,.int .i64 Ja,.int .i64 Fa,.int .i64 Ia,.slice Ob Ca.length Cb] 30 (0,0)) (by (with_reducible repeat (first|refine Aa ?_ _|refine Da ?_|refine Ba ?_ _));exact oa.out)):ya ≠ Ka));have pg:=ja.mk ((by rw [hg];exact Nat.ne_of_gt (Jc (g:=ya) (o:=.cells #[.slice Wa Oa.length Ya,.int .i64 Ja,.int .i64 Fa,.int .i64 Ia,.slice Ob Ca.length Cb] 30 (0,0)) (by (with_reducible repeat (first|refine Aa ?_ _|refine Da ?_|refine Ba ?_ _));exact oa.out)):Ka ≠ ya));clear oa HB;have oa:=Eb;have HB:=Jb;have za:=Ub;have Zj:=uc;have yc:=lf;have Mb:=Vf;have Lb:=pg;clear Eb Jb Ub uc lf Vf pg hb Rb hg;have gam:=Lb.out;have Ral:=Mb.out;have Ah:w8.cell? ⟨Ka,0,none⟩=some (.int .i64 Bc):=(ga za.out 0).trans rfl;have zh:w8.cell? ⟨Ka,1,none⟩=some (.int .i64 Wb):=(ga za.out 1).trans rfl;have yh:w8.cell? ⟨Ka,2,none⟩=some (.int .i64 Sb):=(ga za.out 2).trans rfl;have xh:w8.cell? ⟨Ka,3,none⟩=some (.int .i64 Tb):=(ga za.out 3).trans rfl;have wh:w8.cell? ⟨Ka,4,none⟩=some (.int .i64 fc):=(ga za.out 4).trans rfl;have uz:w8.cell? ⟨Ka,5,none⟩=some (.int .i64 Pc):=(ga za.out 5).trans rfl;have rz:w8.cell? ⟨Ka,6,none⟩=some (.string Yc):=(ga za.out 6).trans rfl;have mh:=aa za.out 0;have jh:=aa za.out 1;have gh:=aa za.out 2;have fh:=aa za.out 3;have dh:=aa za.out 4;have Sy:=aa za.out 5;have Ry:=aa za.out 6;have Nt:w8.cell? ⟨ya,0,none⟩=some (.slice Wa Oa.length Ya):=(ga oa.out 0).trans rfl;have Mt:w8.cell? ⟨ya,1,none⟩=some (.int .i64 Ja):=(ga oa.out 1).trans rfl;have Lt:w8.cell? ⟨ya,2,none⟩=some (.int .i64 Fa):=(ga oa.out 2).trans rfl;have Kt:w8.cell? ⟨ya,3,none⟩=some (.int .i64 Ia):=(ga oa.out 3).trans rfl;have Jt:w8.cell? ⟨ya,4,none⟩=some (.slice Ob Ca.length Cb):=(ga oa.out 4).trans rfl;have yt:=aa oa.out 0;have vt:=aa oa.out 1;have qt:=aa oa.out 2;have ot:=aa oa.out 3;have nt:=aa oa.out 4)|((with_reducible refine mb (f:=53) rfl ?_);refine Mc (some 14) rfl rfl Try.func53 (by kernel_rfl) rfl #[.int .i64 Wb,.int .i64 0,.int .i64 (wrap64 (Ia - 1))] rfl (by (try simp only [List.map_toArray,List.map_cons,List.map_nil]);first|done|rfl|(simp only [List.length_drop,List.length_take];rfl)) ?_;(with_reducible refine (Za.calls Wb 0 (wrap64 (Ia - 1)) t103 _ A3.out).mono ?_);rintro e w' ⟨rfl,⟨nd,rfl⟩⟩;refine ⟨_,rfl,?_⟩)|((with_reducible refine mb (f:=53) rfl ?_);refine Mc (some 20) rfl rfl Try.func53 (by kernel_rfl) rfl #[.int .i64 Sb,.int .i64 0,.int .i64 (wrap64 (Ia - 1))] rfl (by (try simp only [List.map_toArray,List.map_cons,List.map_nil]);first|done|rfl|(simp only [List.length_drop,List.length_take];rfl)) ?_;(with_reducible refine (Za.calls Sb 0 (wrap64 (Ia - 1)) t104 _ A4.out).mono ?_);rintro e w' ⟨rfl,⟨nd,rfl⟩⟩;refine ⟨_,rfl,?_⟩)|((with_reducible refine mb (f:=53) rfl ?_);refine Mc (some 26) rfl rfl Try.func53 (by kernel_rfl) rfl #[.int .i64 Tb,.int .i64 0,.int .i64 (wrap64 (Ia - 1))] rfl (by (try simp only [List.map_toArray,List.map_cons,List.map_nil]);first|done|rfl|(simp only [List.length_drop,List.length_take];rfl)) ?_;(with_reducible refine (Za.calls Tb 0 (wrap64 (Ia - 1)) t105 _ A5.out).mono ?_);rintro e w' ⟨rfl,⟨nd,rfl⟩⟩;refine ⟨_,rfl,?_⟩))
 (try simp only [Act.put,List.setIfInBounds_toArray,List.set_cons_zero,List.set_cons_succ])
 go_cut [8] (fun v8 wc=>∃ (kq:Nat) (II:Bool),v8 = .bool II∧ja (jb.j0 kq t103 t104 t105 II Oa Ja Fa Ia Ca Bc Wb Sb Tb fc Pc Yc=some r)∧ja (kq ≤ k)∧ja (wc.heap[ya]? = some (.cells #[(.slice Wa Oa.length Ya),.int .i64 Ja,.int .i64 Fa,.int .i64 Ia,(.slice Ob Ca.length Cb)] 30 (0,0)))∧ja (wc.heap[Ka]? = some (.cells #[.int .i64 Bc,.int .i64 Wb,.int .i64 Sb,.int .i64 Tb,.int .i64 fc,.int .i64 Pc,.string Yc] 65 (0,0)))∧ja (Below w.heap.size w wc))
 case first =>
  have H:=HC6.out;clear HC6
  by_cases Xr:t104=true
  ·subst Xr;have H1:(if t105=true then ((Za.f Pc 0 (wrap64 ((Oa.length:Int) - 1))).bind fun t106=>(jb.j0 k t103 true t105 t106 Oa Ja Fa Ia Ca Bc Wb Sb Tb fc Pc Yc)) else (jb.j0 k t103 true t105 false Oa Ja Fa Ia Ca Bc Wb Sb Tb fc Pc Yc))=some r:=by rw [if_pos rfl] at H;exact H
   clear H;have H:=H1;clear H1
   by_cases zJ:t105=true
   ·subst zJ;have H1:((Za.f Pc 0 (wrap64 ((Oa.length:Int) - 1))).bind fun t106=>(jb.j0 k t103 true true t106 Oa Ja Fa Ia Ca Bc Wb Sb Tb fc Pc Yc))=some r:=by rw [if_pos rfl] at H;exact H
    clear H;have H:=H1;clear H1;replace H:=Option.bind_eq_some_iff.mp H;obtain ⟨t106,SD,H⟩:=H;replace H:(jb.j0 k t103 true true t106 Oa Ja Fa Ia Ca Bc Wb Sb Tb fc Pc Yc)=some r:=H;have m6:=ja.mk SD;clear SD;have H':=ja.mk H;clear H;have G8:=Lb.out;have o8:=Mb.out;have pn:w8.cell? ⟨Ka,0,none⟩=some (.int .i64 Bc):=(ga za.out 0).trans rfl;have kn:w8.cell? ⟨Ka,1,none⟩=some (.int .i64 Wb):=(ga za.out 1).trans rfl;have jn:w8.cell? ⟨Ka,2,none⟩=some (.int .i64 Sb):=(ga za.out 2).trans rfl;have gn:w8.cell? ⟨Ka,3,none⟩=some (.int .i64 Tb):=(ga za.out 3).trans rfl;have en:w8.cell? ⟨Ka,4,none⟩=some (.int .i64 fc):=(ga za.out 4).trans rfl;have rC:w8.cell? ⟨Ka,5,none⟩=some (.int .i64 Pc):=(ga za.out 5).trans rfl;have qC:w8.cell? ⟨Ka,6,none⟩=some (.string Yc):=(ga za.out 6).trans rfl;have dn:=aa za.out 0;have bn:=aa za.out 1;have Zm:=aa za.out 2;have Ym:=aa za.out 3;have Xm:=aa za.out 4;have SB:=aa za.out 5;have RB:=aa za.out 6;have oC:w8.cell? ⟨ya,0,none⟩=some (.slice Wa Oa.length Ya):=(ga oa.out 0).trans rfl;have nC:w8.cell? ⟨ya,1,none⟩=some (.int .i64 Ja):=(ga oa.out 1).trans rfl;have mC:w8.cell? ⟨ya,2,none⟩=some (.int .i64 Fa):=(ga oa.out 2).trans rfl;have lC:w8.cell? ⟨ya,3,none⟩=some (.int .i64 Ia):=(ga oa.out 3).trans rfl;have kC:w8.cell? ⟨ya,4,none⟩=some (.slice Ob Ca.length Cb):=(ga oa.out 4).trans rfl;have QB:=aa oa.out 0;have OB:=aa oa.out 1;have NB:=aa oa.out 2;have MB:=aa oa.out 3;have KB:=aa oa.out 4;go_wp2_with (first|(go_at_call 53;(with_reducible refine (Za.calls Pc 0 (wrap64 ((Oa.length:Int) - 1)) t106 _ m6.out).mono ?_);rintro e w' ⟨rfl,⟨nd,rfl⟩⟩))
    go_meet
    case rel=>exact ⟨_,(t106),(by first|rfl|(simp;done)|(simp [*];done)),H',⟨by first|omega|exact Nat.le_refl _⟩,⟨by (with_reducible repeat (first|refine Aa ?_ _|refine Da ?_|refine Ba ?_ _));exact oa.out⟩,⟨by (with_reducible repeat (first|refine Aa ?_ _|refine Da ?_|refine Ba ?_ _));exact za.out⟩,⟨by repeat (first|(with_reducible first|exact HB.out|apply qa|apply ia|apply ta|refine ua ?_ Ra.out|refine ua ?_ yc.out)|exact HB.out)⟩⟩
   ·replace zJ:=Bool.eq_false_iff.mpr zJ;subst zJ;have H1:(jb.j0 k t103 true false false Oa Ja Fa Ia Ca Bc Wb Sb Tb fc Pc Yc)=some r:=by rw [if_neg (show ¬ (false=true) by decide)] at H;exact H
    clear H;have H:=H1;clear H1;have H':=ja.mk H;clear H;go_wp2
    go_meet
    case rel=>exact ⟨_,(false),(by first|rfl|(simp;done)|(simp [*];done)),H',⟨by first|omega|exact Nat.le_refl _⟩,⟨by (with_reducible repeat (first|refine Aa ?_ _|refine Da ?_|refine Ba ?_ _));exact oa.out⟩,⟨by (with_reducible repeat (first|refine Aa ?_ _|refine Da ?_|refine Ba ?_ _));exact za.out⟩,⟨by repeat (first|(with_reducible first|exact HB.out|apply qa|apply ia|apply ta|refine ua ?_ Ra.out|refine ua ?_ yc.out)|exact HB.out)⟩⟩
  ·replace Xr:=Bool.eq_false_iff.mpr Xr;subst Xr;have H1:(if Sb=(-1) then (if t105=true then ((Za.f Pc 0 (wrap64 ((Oa.length:Int) - 1))).bind fun t107=>(jb.j0 k t103 false t105 t107 Oa Ja Fa Ia Ca Bc Wb Sb Tb fc Pc Yc)) else (jb.j0 k t103 false t105 false Oa Ja Fa Ia Ca Bc Wb Sb Tb fc Pc Yc)) else (jb.j0 k t103 false t105 false Oa Ja Fa Ia Ca Bc Wb Sb Tb fc Pc Yc))=some r:=by rw [if_neg (show ¬ (false=true) by decide)] at H;exact H
   clear H;have H:=H1;clear H1
   by_cases Zp:Sb=(-1)
   ·rw [if_pos Zp] at H;have Nn:(Sb == (-1))=true:=beq_iff_eq.mpr Zp;have jT:(Sb != (-1))=false:=bne_eq_false_iff_eq.mpr Zp;clear Zp;(first|rw [Nn]|(simp only [ic,jc];rw [Nn])|skip)
    by_cases Xk:t105=true
    ·subst Xk;have H1:((Za.f Pc 0 (wrap64 ((Oa.length:Int) - 1))).bind fun t107=>(jb.j0 k t103 false true t107 Oa Ja Fa Ia Ca Bc Wb Sb Tb fc Pc Yc))=some r:=by rw [if_pos rfl] at H;exact H
     clear H;have H:=H1;clear H1;replace H:=Option.bind_eq_some_iff.mp H;obtain ⟨t107,SJ,H⟩:=H;replace H:(jb.j0 k t103 false true t107 Oa Ja Fa Ia Ca Bc Wb Sb Tb fc Pc Yc)=some r:=H;have OP:=ja.mk SJ;clear SJ;have H':=ja.mk H;clear H;have aar:=Lb.out;have uaq:=Mb.out;have jz:w8.cell? ⟨Ka,0,none⟩=some (.int .i64 Bc):=(ga za.out 0).trans rfl;have iz:w8.cell? ⟨Ka,1,none⟩=some (.int .i64 Wb):=(ga za.out 1).trans rfl;have gz:w8.cell? ⟨Ka,2,none⟩=some (.int .i64 Sb):=(ga za.out 2).trans rfl;have fz:w8.cell? ⟨Ka,3,none⟩=some (.int .i64 Tb):=(ga za.out 3).trans rfl;have ez:w8.cell? ⟨Ka,4,none⟩=some (.int .i64 fc):=(ga za.out 4).trans rfl;have ZO:w8.cell? ⟨Ka,5,none⟩=some (.int .i64 Pc):=(ga za.out 5).trans rfl;have YO:w8.cell? ⟨Ka,6,none⟩=some (.string Yc):=(ga za.out 6).trans rfl;have Ly:=aa za.out 0;have Ky:=aa za.out 1;have Jy:=aa za.out 2;have Iy:=aa za.out 3;have Hy:=aa za.out 4;have XN:=aa za.out 5;have WN:=aa za.out 6;have Wq:w8.cell? ⟨ya,0,none⟩=some (.slice Wa Oa.length Ya):=(ga oa.out 0).trans rfl;have Vq:w8.cell? ⟨ya,1,none⟩=some (.int .i64 Ja):=(ga oa.out 1).trans rfl;have Uq:w8.cell? ⟨ya,2,none⟩=some (.int .i64 Fa):=(ga oa.out 2).trans rfl;have Tq:w8.cell? ⟨ya,3,none⟩=some (.int .i64 Ia):=(ga oa.out 3).trans rfl;have Rq:w8.cell? ⟨ya,4,none⟩=some (.slice Ob Ca.length Cb):=(ga oa.out 4).trans rfl;have zq:=aa oa.out 0;have yq:=aa oa.out 1;have xq:=aa oa.out 2;have wq:=aa oa.out 3;have vq:=aa oa.out 4;go_wp2_with (first|(go_at_call 53;(with_reducible refine (Za.calls Pc 0 (wrap64 ((Oa.length:Int) - 1)) t107 _ OP.out).mono ?_);rintro e w' ⟨rfl,⟨nd,rfl⟩⟩))
     go_meet
     case rel=>exact ⟨_,(t107),(by first|rfl|(simp;done)|(simp [*];done)),H',⟨by first|omega|exact Nat.le_refl _⟩,⟨by (with_reducible repeat (first|refine Aa ?_ _|refine Da ?_|refine Ba ?_ _));exact oa.out⟩,⟨by (with_reducible repeat (first|refine Aa ?_ _|refine Da ?_|refine Ba ?_ _));exact za.out⟩,⟨by repeat (first|(with_reducible first|exact HB.out|apply qa|apply ia|apply ta|refine ua ?_ Ra.out|refine ua ?_ yc.out)|exact HB.out)⟩⟩
    ·replace Xk:=Bool.eq_false_iff.mpr Xk;subst Xk;have H1:(jb.j0 k t103 false false false Oa Ja Fa Ia Ca Bc Wb Sb Tb fc Pc Yc)=some r:=by rw [if_neg (show ¬ (false=true) by decide)] at H;exact H
     clear H;have H:=H1;clear H1;have H':=ja.mk H;clear H;have E8:=Lb.out;have m8:=Mb.out;have Kv:w8.cell? ⟨Ka,0,none⟩=some (.int .i64 Bc):=(ga za.out 0).trans rfl;have Jv:w8.cell? ⟨Ka,1,none⟩=some (.int .i64 Wb):=(ga za.out 1).trans rfl;have Iv:w8.cell? ⟨Ka,2,none⟩=some (.int .i64 Sb):=(ga za.out 2).trans rfl;have Hv:w8.cell? ⟨Ka,3,none⟩=some (.int .i64 Tb):=(ga za.out 3).trans rfl;have Gv:w8.cell? ⟨Ka,4,none⟩=some (.int .i64 fc):=(ga za.out 4).trans rfl;have XO:w8.cell? ⟨Ka,5,none⟩=some (.int .i64 Pc):=(ga za.out 5).trans rfl;have WO:w8.cell? ⟨Ka,6,none⟩=some (.string Yc):=(ga za.out 6).trans rfl;have qv:=aa za.out 0;have ov:=aa za.out 1;have nv:=aa za.out 2;have jv:=aa za.out 3;have gv:=aa za.out 4;have VN:=aa za.out 5;have UN:=aa za.out 6;go_wp2
     go_meet
     case rel=>exact ⟨_,(false),(by first|rfl|(simp;done)|(simp [*];done)),H',⟨by first|omega|exact Nat.le_refl _⟩,⟨by (with_reducible repeat (first|refine Aa ?_ _|refine Da ?_|refine Ba ?_ _));exact oa.out⟩,⟨by (with_reducible repeat (first|refine Aa ?_ _|refine Da ?_|refine Ba ?_ _));exact za.out⟩,⟨by repeat (first|(with_reducible first|exact HB.out|apply qa|apply ia|apply ta|refine ua ?_ Ra.out|refine ua ?_ yc.out)|exact HB.out)⟩⟩
   ·rw [if_neg Zp] at H;have Nn:(Sb == (-1))=false:=beq_eq_false_iff_ne.mpr Zp;have jT:(Sb != (-1))=true:=bne_iff_ne.mpr Zp;(first|rw [Nn]|(simp only [ic,jc];rw [Nn])|skip);have H':=ja.mk H;clear H;have C8:=Lb.out;have k8:=Mb.out;have Fv:w8.cell? ⟨Ka,0,none⟩=some (.int .i64 Bc):=(ga za.out 0).trans rfl;have Dv:w8.cell? ⟨Ka,1,none⟩=some (.int .i64 Wb):=(ga za.out 1).trans rfl;have Cv:w8.cell? ⟨Ka,2,none⟩=some (.int .i64 Sb):=(ga za.out 2).trans rfl;have Bv:w8.cell? ⟨Ka,3,none⟩=some (.int .i64 Tb):=(ga za.out 3).trans rfl;have Av:w8.cell? ⟨Ka,4,none⟩=some (.int .i64 fc):=(ga za.out 4).trans rfl;have MH:w8.cell? ⟨Ka,5,none⟩=some (.int .i64 Pc):=(ga za.out 5).trans rfl;have LH:w8.cell? ⟨Ka,6,none⟩=some (.string Yc):=(ga za.out 6).trans rfl;have cv:=aa za.out 0;have av:=aa za.out 1;have Zu:=aa za.out 2;have Yu:=aa za.out 3;have Xu:=aa za.out 4;have JG:=aa za.out 5;have IG:=aa za.out 6;go_wp2
    go_meet
    case rel=>exact ⟨_,(false),(by first|rfl|(simp;done)|(simp [*];done)),H',⟨by first|omega|exact Nat.le_refl _⟩,⟨by (with_reducible repeat (first|refine Aa ?_ _|refine Da ?_|refine Ba ?_ _));exact oa.out⟩,⟨by (with_reducible repeat (first|refine Aa ?_ _|refine Da ?_|refine Ba ?_ _));exact za.out⟩,⟨by repeat (first|(with_reducible first|exact HB.out|apply qa|apply ia|apply ta|refine ua ?_ Ra.out|refine ua ?_ yc.out)|exact HB.out)⟩⟩
 case rest =>
  clear HC6
  try clear c1
  try clear c2
  try clear p2
  try clear c5
  try clear p6
  try clear c9
  try clear Xr
  try clear zJ
  try clear DI
  try clear Zp
  try clear Nn
  try clear jT
  try clear Xk
  try clear Vr
  try clear zD
  try clear xJ
  try clear Ah
  try clear zh
  try clear yh
  try clear xh
  try clear wh
  try clear uz
  try clear rz
  try clear Nt
  try clear Mt
  try clear Lt
  try clear Kt
  try clear Jt
  try clear pn
  try clear kn
  try clear jn
  try clear gn
  try clear en
  try clear rC
  try clear qC
  try clear oC
  try clear nC
  try clear mC
  try clear lC
  try clear kC
  try clear jz
  try clear iz
  try clear gz
  try clear fz
  try clear ez
  try clear ZO
  try clear YO
  try clear Wq
  try clear Vq
  try clear Uq
  try clear Tq
  try clear Rq
  try clear Kv
  try clear Jv
  try clear Iv
  try clear Hv
  try clear Gv
  try clear XO
  try clear WO
  try clear Fv
  try clear Dv
  try clear Cv
  try clear Bv
  try clear Av
  try clear MH
  try clear LH
  try clear mh
  try clear jh
  try clear gh
  try clear fh
  try clear dh
  try clear Sy
  try clear Ry
  try clear yt
  try clear vt
  try clear qt
  try clear ot
  try clear nt
  try clear dn
  try clear bn
  try clear Zm
  try clear Ym
  try clear Xm
  try clear SB
  try clear RB
  try clear QB
  try clear OB
  try clear NB
  try clear MB
  try clear KB
  try clear Ly
  try clear Ky
  try clear Jy
  try clear Iy
  try clear Hy
  try clear XN
  try clear WN
  try clear zq
  try clear yq
  try clear xq
  try clear wq
  try clear vq
  try clear qv
  try clear ov
  try clear nv
  try clear jv
  try clear gv
  try clear VN
  try clear UN
  try clear cv
  try clear av
  try clear Zu
  try clear Yu
  try clear Xu
  try clear JG
  try clear IG
  obtain ⟨kq,II,rfl,HA,HJ5,oa,za,HB⟩:=hcut;cases kq with
  | zero=>exact absurd HA.out (by simp [jb.j0])
  | succ kj5 =>
   have H:=HA.out;clear HA;simp only [jb.j0] at H;have R5:=ja.mk H;clear H
   go_upto_region 5 with (fail)
   go_cut [62] (fun v62 wc=>∃ (kq:Nat) (jF:Bool),v62 = .bool jF∧ja (jb.j1 kq t103 t104 t105 II jF Oa Ja Fa Ia Ca Bc Wb Sb Tb fc Pc Yc=some r)∧ja (kq ≤ kj5)∧ja (wc.heap[ya]? = some (.cells #[(.slice Wa Oa.length Ya),.int .i64 Ja,.int .i64 Fa,.int .i64 Ia,(.slice Ob Ca.length Cb)] 30 (0,0)))∧ja (wc.heap[Ka]? = some (.cells #[.int .i64 Bc,.int .i64 Wb,.int .i64 Sb,.int .i64 Tb,.int .i64 fc,.int .i64 Pc,.string Yc] 65 (0,0)))∧ja (Below w.heap.size w wc))
   case first =>
    have H:=R5.out;clear R5
    by_cases yD:Bc=2
    ·rw [if_pos yD] at H;have xz:(Bc == 2)=true:=beq_iff_eq.mpr yD;have mZ:(Bc != 2)=false:=bne_eq_false_iff_eq.mpr yD;clear yD;(first|rw [xz]|(simp only [ic,jc];rw [xz])|skip)
     by_cases Sw:Bc=4
     ·rw [if_pos Sw] at H;have UA:(Bc == 4)=true:=beq_iff_eq.mpr Sw;have nP:(Bc != 4)=false:=bne_eq_false_iff_eq.mpr Sw;clear Sw;have H':=ja.mk H;clear H;have Waq:=Lb.out;have qaq:=Mb.out;have KH:wc.cell? ⟨Ka,0,none⟩=some (.int .i64 Bc):=(ga za.out 0).trans rfl;have JH:wc.cell? ⟨Ka,1,none⟩=some (.int .i64 Wb):=(ga za.out 1).trans rfl;have GH:wc.cell? ⟨Ka,2,none⟩=some (.int .i64 Sb):=(ga za.out 2).trans rfl;have FH:wc.cell? ⟨Ka,3,none⟩=some (.int .i64 Tb):=(ga za.out 3).trans rfl;have EH:wc.cell? ⟨Ka,4,none⟩=some (.int .i64 fc):=(ga za.out 4).trans rfl;have XW:wc.cell? ⟨Ka,5,none⟩=some (.int .i64 Pc):=(ga za.out 5).trans rfl;have WW:wc.cell? ⟨Ka,6,none⟩=some (.string Yc):=(ga za.out 6).trans rfl;have HG:=aa za.out 0;have GG:=aa za.out 1;have FG:=aa za.out 2;have EG:=aa za.out 3;have DG:=aa za.out 4;have PV:=aa za.out 5;have OV:=aa za.out 6;go_wp2
      go_meet
      case rel=>exact ⟨_,(false),(by first|rfl|(simp;done)|(simp [*];done)),H',⟨by have:=HJ5.out;first|omega|exact Nat.le_refl _⟩,⟨by (with_reducible repeat (first|refine Aa ?_ _|refine Da ?_|refine Ba ?_ _));exact oa.out⟩,⟨by (with_reducible repeat (first|refine Aa ?_ _|refine Da ?_|refine Ba ?_ _));exact za.out⟩,⟨by repeat (first|(with_reducible first|exact HB.out|apply qa|apply ia|apply ta|refine ua ?_ Ra.out|refine ua ?_ yc.out)|exact HB.out)⟩⟩
     ·rw [if_neg Sw] at H;have UA:(Bc == 4)=false:=beq_eq_false_iff_ne.mpr Sw;have nP:(Bc != 4)=true:=bne_iff_ne.mpr Sw;have H':=ja.mk H;clear H;have Uaq:=Lb.out;have oaq:=Mb.out;have LO:wc.cell? ⟨Ka,0,none⟩=some (.int .i64 Bc):=(ga za.out 0).trans rfl;have KO:wc.cell? ⟨Ka,1,none⟩=some (.int .i64 Wb):=(ga za.out 1).trans rfl;have JO:wc.cell? ⟨Ka,2,none⟩=some (.int .i64 Sb):=(ga za.out 2).trans rfl;have FO:wc.cell? ⟨Ka,3,none⟩=some (.int .i64 Tb):=(ga za.out 3).trans rfl;have EO:wc.cell? ⟨Ka,4,none⟩=some (.int .i64 fc):=(ga za.out 4).trans rfl;have CO:wc.cell? ⟨Ka,5,none⟩=some (.int .i64 Pc):=(ga za.out 5).trans rfl;have BO:wc.cell? ⟨Ka,6,none⟩=some (.string Yc):=(ga za.out 6).trans rfl;have LN:=aa za.out 0;have KN:=aa za.out 1;have JN:=aa za.out 2;have HN:=aa za.out 3;have GN:=aa za.out 4;have FN:=aa za.out 5;have EN:=aa za.out 6;go_wp2
      go_meet
      case rel=>exact ⟨_,((fc != 0)),(by first|rfl|(simp;done)|(simp [*];done)),H',⟨by have:=HJ5.out;first|omega|exact Nat.le_refl _⟩,⟨by (with_reducible repeat (first|refine Aa ?_ _|refine Da ?_|refine Ba ?_ _));exact oa.out⟩,⟨by (with_reducible repeat (first|refine Aa ?_ _|refine Da ?_|refine Ba ?_ _));exact za.out⟩,⟨by repeat (first|(with_reducible first|exact HB.out|apply qa|apply ia|apply ta|refine ua ?_ Ra.out|refine ua ?_ yc.out)|exact HB.out)⟩⟩
    ·rw [if_neg yD] at H;have xz:(Bc == 2)=false:=beq_eq_false_iff_ne.mpr yD;have mZ:(Bc != 2)=true:=bne_iff_ne.mpr yD;(first|rw [xz]|(simp only [ic,jc];rw [xz])|skip)
     by_cases zI:Yc.toList=([]:List UInt8)
     ·rw [if_pos zI] at H;have fT:(Yc.toList == ([]:List UInt8))=true:=beq_iff_eq.mpr zI;have jZ:(Yc.toList != ([]:List UInt8))=false:=bne_eq_false_iff_eq.mpr zI;clear zI
      by_cases iZ:Bc=4
      ·rw [if_pos iZ] at H;have gZ:(Bc == 4)=true:=beq_iff_eq.mpr iZ;have fZ:(Bc != 4)=false:=bne_eq_false_iff_eq.mpr iZ;clear iZ;have H':=ja.mk H;clear H;have QY:=Lb.out;have NY:=Mb.out;have XB:wc.cell? ⟨Ka,0,none⟩=some (.int .i64 Bc):=(ga za.out 0).trans rfl;have WB:wc.cell? ⟨Ka,1,none⟩=some (.int .i64 Wb):=(ga za.out 1).trans rfl;have VB:wc.cell? ⟨Ka,2,none⟩=some (.int .i64 Sb):=(ga za.out 2).trans rfl;have UB:wc.cell? ⟨Ka,3,none⟩=some (.int .i64 Tb):=(ga za.out 3).trans rfl;have TB:wc.cell? ⟨Ka,4,none⟩=some (.int .i64 fc):=(ga za.out 4).trans rfl;have qO:wc.cell? ⟨Ka,5,none⟩=some (.int .i64 Pc):=(ga za.out 5).trans rfl;have pO:wc.cell? ⟨Ka,6,none⟩=some (.string Yc):=(ga za.out 6).trans rfl;have xB:=aa za.out 0;have wB:=aa za.out 1;have vB:=aa za.out 2;have uB:=aa za.out 3;have tB:=aa za.out 4;have sN:=aa za.out 5;have rN:=aa za.out 6;go_wp2
       go_meet
       case rel=>exact ⟨_,(false),(by first|rfl|(simp;done)|(simp [*];done)),H',⟨by have:=HJ5.out;first|omega|exact Nat.le_refl _⟩,⟨by (with_reducible repeat (first|refine Aa ?_ _|refine Da ?_|refine Ba ?_ _));exact oa.out⟩,⟨by (with_reducible repeat (first|refine Aa ?_ _|refine Da ?_|refine Ba ?_ _));exact za.out⟩,⟨by repeat (first|(with_reducible first|exact HB.out|apply qa|apply ia|apply ta|refine ua ?_ Ra.out|refine ua ?_ yc.out)|exact HB.out)⟩⟩
      ·rw [if_neg iZ] at H;have gZ:(Bc == 4)=false:=beq_eq_false_iff_ne.mpr iZ;have fZ:(Bc != 4)=true:=bne_iff_ne.mpr iZ;have H':=ja.mk H;clear H;have y8:=Lb.out;have Z7:=Mb.out;have Xy:wc.cell? ⟨Ka,0,none⟩=some (.int .i64 Bc):=(ga za.out 0).trans rfl;have Wy:wc.cell? ⟨Ka,1,none⟩=some (.int .i64 Wb):=(ga za.out 1).trans rfl;have Vy:wc.cell? ⟨Ka,2,none⟩=some (.int .i64 Sb):=(ga za.out 2).trans rfl;have Uy:wc.cell? ⟨Ka,3,none⟩=some (.int .i64 Tb):=(ga za.out 3).trans rfl;have Ty:wc.cell? ⟨Ka,4,none⟩=some (.int .i64 fc):=(ga za.out 4).trans rfl;have oO:wc.cell? ⟨Ka,5,none⟩=some (.int .i64 Pc):=(ga za.out 5).trans rfl;have nO:wc.cell? ⟨Ka,6,none⟩=some (.string Yc):=(ga za.out 6).trans rfl;have zy:=aa za.out 0;have yy:=aa za.out 1;have xy:=aa za.out 2;have uy:=aa za.out 3;have sy:=aa za.out 4;have qN:=aa za.out 5;have pN:=aa za.out 6;go_wp2
       go_meet
       case rel=>exact ⟨_,((fc != 0)),(by first|rfl|(simp;done)|(simp [*];done)),H',⟨by have:=HJ5.out;first|omega|exact Nat.le_refl _⟩,⟨by (with_reducible repeat (first|refine Aa ?_ _|refine Da ?_|refine Ba ?_ _));exact oa.out⟩,⟨by (with_reducible repeat (first|refine Aa ?_ _|refine Da ?_|refine Ba ?_ _));exact za.out⟩,⟨by repeat (first|(with_reducible first|exact HB.out|apply qa|apply ia|apply ta|refine ua ?_ Ra.out|refine ua ?_ yc.out)|exact HB.out)⟩⟩
     ·rw [if_neg zI] at H;have fT:(Yc.toList == ([]:List UInt8))=false:=beq_eq_false_iff_ne.mpr zI;have jZ:(Yc.toList != ([]:List UInt8))=true:=bne_iff_ne.mpr zI;have H':=ja.mk H;clear H;have r8:=Lb.out;have Y7:=Mb.out;have jH:wc.cell? ⟨Ka,0,none⟩=some (.int .i64 Bc):=(ga za.out 0).trans rfl;have iH:wc.cell? ⟨Ka,1,none⟩=some (.int .i64 Wb):=(ga za.out 1).trans rfl;have gH:wc.cell? ⟨Ka,2,none⟩=some (.int .i64 Sb):=(ga za.out 2).trans rfl;have fH:wc.cell? ⟨Ka,3,none⟩=some (.int .i64 Tb):=(ga za.out 3).trans rfl;have eH:wc.cell? ⟨Ka,4,none⟩=some (.int .i64 fc):=(ga za.out 4).trans rfl;have mO:wc.cell? ⟨Ka,5,none⟩=some (.int .i64 Pc):=(ga za.out 5).trans rfl;have lO:wc.cell? ⟨Ka,6,none⟩=some (.string Yc):=(ga za.out 6).trans rfl;have iG:=aa za.out 0;have gG:=aa za.out 1;have fG:=aa za.out 2;have eG:=aa za.out 3;have dG:=aa za.out 4;have oN:=aa za.out 5;have nN:=aa za.out 6;go_wp2
      go_meet
      case rel=>exact ⟨_,(true),(by first|rfl|(simp;done)|(simp [*];done)),H',⟨by have:=HJ5.out;first|omega|exact Nat.le_refl _⟩,⟨by (with_reducible repeat (first|refine Aa ?_ _|refine Da ?_|refine Ba ?_ _));exact oa.out⟩,⟨by (with_reducible repeat (first|refine Aa ?_ _|refine Da ?_|refine Ba ?_ _));exact za.out⟩,⟨by repeat (first|(with_reducible first|exact HB.out|apply qa|apply ia|apply ta|refine ua ?_ Ra.out|refine ua ?_ yc.out)|exact HB.out)⟩⟩
   case rest =>
    clear R5
    try clear c1
    try clear c2
    try clear p2
    try clear c3
    try clear c4
    try clear c5
    try clear p6
    try clear c9
    try clear Xr
    try clear zJ
    try clear DI
    try clear Zp
    try clear Nn
    try clear jT
    try clear Xk
    try clear Vr
    try clear zD
    try clear xJ
    try clear yD
    try clear xz
    try clear mZ
    try clear Sw
    try clear UA
    try clear nP
    try clear SQ
    try clear kR
    try clear zI
    try clear fT
    try clear jZ
    try clear iZ
    try clear gZ
    try clear fZ
    try clear c37
    try clear vU
    try clear c41
    try clear Ah
    try clear zh
    try clear yh
    try clear xh
    try clear wh
    try clear uz
    try clear rz
    try clear Nt
    try clear Mt
    try clear Lt
    try clear Kt
    try clear Jt
    try clear pn
    try clear kn
    try clear jn
    try clear gn
    try clear en
    try clear rC
    try clear qC
    try clear oC
    try clear nC
    try clear mC
    try clear lC
    try clear kC
    try clear jz
    try clear iz
    try clear gz
    try clear fz
    try clear ez
    try clear ZO
    try clear YO
    try clear Wq
    try clear Vq
    try clear Uq
    try clear Tq
    try clear Rq
    try clear Kv
    try clear Jv
    try clear Iv
    try clear Hv
    try clear Gv
    try clear XO
    try clear WO
    try clear Fv
    try clear Dv
    try clear Cv
    try clear Bv
    try clear Av
    try clear MH
    try clear LH
    try clear KH
    try clear JH
    try clear GH
    try clear FH
    try clear EH
    try clear XW
    try clear WW
    try clear LO
    try clear KO
    try clear JO
    try clear FO
    try clear EO
    try clear CO
    try clear BO
    try clear XB
    try clear WB
    try clear VB
    try clear UB
    try clear TB
    try clear qO
    try clear pO
    try clear Xy
    try clear Wy
    try clear Vy
    try clear Uy
    try clear Ty
    try clear oO
    try clear nO
    try clear jH
    try clear iH
    try clear gH
    try clear fH
    try clear eH
    try clear mO
    try clear lO
    try clear mh
    try clear jh
    try clear gh
    try clear fh
    try clear dh
    try clear Sy
    try clear Ry
    try clear yt
    try clear vt
    try clear qt
    try clear ot
    try clear nt
    try clear dn
    try clear bn
    try clear Zm
    try clear Ym
    try clear Xm
    try clear SB
    try clear RB
    try clear QB
    try clear OB
    try clear NB
    try clear MB
    try clear KB
    try clear Ly
    try clear Ky
    try clear Jy
    try clear Iy
    try clear Hy
    try clear XN
    try clear WN
    try clear zq
    try clear yq
    try clear xq
    try clear wq
    try clear vq
    try clear qv
    try clear ov
    try clear nv
    try clear jv
    try clear gv
    try clear VN
    try clear UN
    try clear cv
    try clear av
    try clear Zu
    try clear Yu
    try clear Xu
    try clear JG
    try clear IG
    try clear HG
    try clear GG
    try clear FG
    try clear EG
    try clear DG
    try clear PV
    try clear OV
    try clear LN
    try clear KN
    try clear JN
    try clear HN
    try clear GN
    try clear FN
    try clear EN
    try clear xB
    try clear wB
    try clear vB
    try clear uB
    try clear tB
    try clear sN
    try clear rN
    try clear zy
    try clear yy
    try clear xy
    try clear uy
    try clear sy
    try clear qN
    try clear pN
    try clear iG
    try clear gG
    try clear fG
    try clear eG
    try clear dG
    try clear oN
    try clear nN
    try clear p2
    try clear p6
    obtain ⟨kq,jF,rfl,HA,Aau,oa,za,HB⟩:=hcut;cases kq with
    | zero=>exact absurd HA.out (by simp [jb.j1])
    | succ mQ =>
     have H:=HA.out;clear HA;simp only [jb.j1] at H
     by_cases c43:jF=true
     ·subst c43;have H1:(some false)=some r:=by rw [if_pos rfl] at H;exact H
      clear H;have H:=H1;clear H1;obtain rfl:=Option.some.inj H;go_wp2;go_ret;exact ⟨by first|rfl|(simp [Ma,La] <;> rfl)|(simp [*,Ma,La] <;> rfl),by repeat (first|(with_reducible first|exact HB.out|apply qa|apply ia|apply ta|refine ua ?_ Ra.out|refine ua ?_ yc.out)|exact HB.out)⟩
     ·replace c43:=Bool.eq_false_iff.mpr c43;subst c43;have H1:(if Bc=0 then (if t103=true then (if Sb=0 then (some (Tb == 0)) else (some false)) else (some false)) else (if Bc=1 then (if t103=true then (if t104=true then (if Tb=0 then (some (Pc == 0)) else (some false)) else (some false)) else (some false)) else (if Bc=2 then (if t103=true then (if t104=true then (if t105=true then (if Pc=0 then ((Ge.f mQ (([(⟨#[61,61]⟩:ByteArray),(⟨#[60]⟩:ByteArray),(⟨#[38]⟩:ByteArray),(⟨#[43]⟩:ByteArray),(⟨#[45]⟩:ByteArray),(⟨#[42]⟩:ByteArray)]:List ByteArray)) Yc).bind fun t111=>(some t111)) else (some false)) else (some false)) else (some false)) else (some false)) else (if Bc=3 then (if t103=true then (some II) else (some false)) else (if Bc=4 then (if Wb=0 then (if II=true then ((Za.f fc 0 (wrap64 (Ia - 1))).bind fun t112=>(some t112)) else (some false)) else (some false)) else (if Bc=5 then (if t103=true then (if Sb=0 then (if Tb=0 then (some (Pc == 0)) else (some false)) else (some false)) else (some false)) else (if Bc=6 then (if Wb=0 then (if t104=true then (if Tb=0 then (some (Pc == 0)) else (some false)) else (some false)) else (some false)) else (some false))))))))=some r:=by rw [if_neg (show ¬ (false=true) by decide)] at H;exact H
      clear H;have H:=H1;clear H1
      by_cases IL:Bc=0
      ·rw [if_pos IL] at H;have eT:(Bc == 0)=true:=beq_iff_eq.mpr IL;have bT:(Bc != 0)=false:=bne_eq_false_iff_eq.mpr IL;clear IL
       by_cases OX:t103=true
       ·subst OX;have H1:(if Sb=0 then (some (Tb == 0)) else (some false))=some r:=by rw [if_pos rfl] at H;exact H
        clear H;have H:=H1;clear H1
        by_cases HL:Sb=0
        ·rw [if_pos HL] at H;have aT:(Sb == 0)=true:=beq_iff_eq.mpr HL;have ZS:(Sb != 0)=false:=bne_eq_false_iff_eq.mpr HL;clear HL;obtain rfl:=Option.some.inj H;have PY:=Lb.out;have MY:=Mb.out;have YG:wc.cell? ⟨Ka,0,none⟩=some (.int .i64 Bc):=(ga za.out 0).trans rfl;have XG:wc.cell? ⟨Ka,1,none⟩=some (.int .i64 Wb):=(ga za.out 1).trans rfl;have WG:wc.cell? ⟨Ka,2,none⟩=some (.int .i64 Sb):=(ga za.out 2).trans rfl;have VG:wc.cell? ⟨Ka,3,none⟩=some (.int .i64 Tb):=(ga za.out 3).trans rfl;have UG:wc.cell? ⟨Ka,4,none⟩=some (.int .i64 fc):=(ga za.out 4).trans rfl;have OW:wc.cell? ⟨Ka,5,none⟩=some (.int .i64 Pc):=(ga za.out 5).trans rfl;have NW:wc.cell? ⟨Ka,6,none⟩=some (.string Yc):=(ga za.out 6).trans rfl;have XF:=aa za.out 0;have VF:=aa za.out 1;have UF:=aa za.out 2;have TF:=aa za.out 3;have SF:=aa za.out 4;have FV:=aa za.out 5;have EV:=aa za.out 6;go_wp2;go_ret;exact ⟨by first|rfl|(simp [Ma,La] <;> rfl)|(simp [*,Ma,La] <;> rfl),by repeat (first|(with_reducible first|exact HB.out|apply qa|apply ia|apply ta|refine ua ?_ Ra.out|refine ua ?_ yc.out)|exact HB.out)⟩
        ·rw [if_neg HL] at H;have aT:(Sb == 0)=false:=beq_eq_false_iff_ne.mpr HL;have ZS:(Sb != 0)=true:=bne_iff_ne.mpr HL;obtain rfl:=Option.some.inj H;have Paq:=Lb.out;have jaq:=Mb.out;have GW:wc.cell? ⟨Ka,0,none⟩=some (.int .i64 Bc):=(ga za.out 0).trans rfl;have FW:wc.cell? ⟨Ka,1,none⟩=some (.int .i64 Wb):=(ga za.out 1).trans rfl;have EW:wc.cell? ⟨Ka,2,none⟩=some (.int .i64 Sb):=(ga za.out 2).trans rfl;have DW:wc.cell? ⟨Ka,3,none⟩=some (.int .i64 Tb):=(ga za.out 3).trans rfl;have CW:wc.cell? ⟨Ka,4,none⟩=some (.int .i64 fc):=(ga za.out 4).trans rfl;have Daj:wc.cell? ⟨Ka,5,none⟩=some (.int .i64 Pc):=(ga za.out 5).trans rfl;have Caj:wc.cell? ⟨Ka,6,none⟩=some (.string Yc):=(ga za.out 6).trans rfl;have yV:=aa za.out 0;have xV:=aa za.out 1;have wV:=aa za.out 2;have vV:=aa za.out 3;have uV:=aa za.out 4;have vag:=aa za.out 5;have uag:=aa za.out 6;go_wp2;go_ret;exact ⟨by first|rfl|(simp [Ma,La] <;> rfl)|(simp [*,Ma,La] <;> rfl),by repeat (first|(with_reducible first|exact HB.out|apply qa|apply ia|apply ta|refine ua ?_ Ra.out|refine ua ?_ yc.out)|exact HB.out)⟩
       ·replace OX:=Bool.eq_false_iff.mpr OX;subst OX;have H1:(some false)=some r:=by rw [if_neg (show ¬ (false=true) by decide)] at H;exact H
        clear H;have H:=H1;clear H1;obtain rfl:=Option.some.inj H;have q8:=Lb.out;have X7:=Mb.out;have RG:wc.cell? ⟨Ka,0,none⟩=some (.int .i64 Bc):=(ga za.out 0).trans rfl;have QG:wc.cell? ⟨Ka,1,none⟩=some (.int .i64 Wb):=(ga za.out 1).trans rfl;have PG:wc.cell? ⟨Ka,2,none⟩=some (.int .i64 Sb):=(ga za.out 2).trans rfl;have OG:wc.cell? ⟨Ka,3,none⟩=some (.int .i64 Tb):=(ga za.out 3).trans rfl;have NG:wc.cell? ⟨Ka,4,none⟩=some (.int .i64 fc):=(ga za.out 4).trans rfl;have waj:wc.cell? ⟨Ka,5,none⟩=some (.int .i64 Pc):=(ga za.out 5).trans rfl;have vaj:wc.cell? ⟨Ka,6,none⟩=some (.string Yc):=(ga za.out 6).trans rfl;have PF:=aa za.out 0;have NF:=aa za.out 1;have MF:=aa za.out 2;have LF:=aa za.out 3;have KF:=aa za.out 4;have nag:=aa za.out 5;have lag:=aa za.out 6;go_wp2;go_ret;exact ⟨by first|rfl|(simp [Ma,La] <;> rfl)|(simp [*,Ma,La] <;> rfl),by repeat (first|(with_reducible first|exact HB.out|apply qa|apply ia|apply ta|refine ua ?_ Ra.out|refine ua ?_ yc.out)|exact HB.out)⟩
      ·rw [if_neg IL] at H;have eT:(Bc == 0)=false:=beq_eq_false_iff_ne.mpr IL;have bT:(Bc != 0)=true:=bne_iff_ne.mpr IL
       by_cases K3:Bc=1
       ·rw [if_pos K3] at H;have Uab:(Bc == 1)=true:=beq_iff_eq.mpr K3;have Tab:(Bc != 1)=false:=bne_eq_false_iff_eq.mpr K3;clear K3
        by_cases c54:t103=true
        ·subst c54;have H1:(if t104=true then (if Tb=0 then (some (Pc == 0)) else (some false)) else (some false))=some r:=by rw [if_pos rfl] at H;exact H
         clear H;have H:=H1;clear H1
         by_cases c55:t104=true
         ·subst c55;have H1:(if Tb=0 then (some (Pc == 0)) else (some false))=some r:=by rw [if_pos rfl] at H;exact H
          clear H;have H:=H1;clear H1
          by_cases J3:Tb=0
          ·rw [if_pos J3] at H;have Sab:(Tb == 0)=true:=beq_iff_eq.mpr J3;have Rab:(Tb != 0)=false:=bne_eq_false_iff_eq.mpr J3;clear J3;obtain rfl:=Option.some.inj H;have Laq:=Lb.out;have faq:=Mb.out;have AW:wc.cell? ⟨Ka,0,none⟩=some (.int .i64 Bc):=(ga za.out 0).trans rfl;have zW:wc.cell? ⟨Ka,1,none⟩=some (.int .i64 Wb):=(ga za.out 1).trans rfl;have xW:wc.cell? ⟨Ka,2,none⟩=some (.int .i64 Sb):=(ga za.out 2).trans rfl;have wW:wc.cell? ⟨Ka,3,none⟩=some (.int .i64 Tb):=(ga za.out 3).trans rfl;have vW:wc.cell? ⟨Ka,4,none⟩=some (.int .i64 fc):=(ga za.out 4).trans rfl;have aaj:wc.cell? ⟨Ka,5,none⟩=some (.int .i64 Pc):=(ga za.out 5).trans rfl;have Zai:wc.cell? ⟨Ka,6,none⟩=some (.string Yc):=(ga za.out 6).trans rfl;have tV:=aa za.out 0;have sV:=aa za.out 1;have rV:=aa za.out 2;have qV:=aa za.out 3;have pV:=aa za.out 4;have Qaf:=aa za.out 5;have Paf:=aa za.out 6;go_wp2;go_ret;exact ⟨by first|rfl|(simp [Ma,La] <;> rfl)|(simp [*,Ma,La] <;> rfl),by repeat (first|(with_reducible first|exact HB.out|apply qa|apply ia|apply ta|refine ua ?_ Ra.out|refine ua ?_ yc.out)|exact HB.out)⟩
          ·rw [if_neg J3] at H;have Sab:(Tb == 0)=false:=beq_eq_false_iff_ne.mpr J3;have Rab:(Tb != 0)=true:=bne_iff_ne.mpr J3;obtain rfl:=Option.some.inj H;have Kaq:=Lb.out;have eaq:=Mb.out;have Yai:wc.cell? ⟨Ka,0,none⟩=some (.int .i64 Bc):=(ga za.out 0).trans rfl;have Xai:wc.cell? ⟨Ka,1,none⟩=some (.int .i64 Wb):=(ga za.out 1).trans rfl;have Wai:wc.cell? ⟨Ka,2,none⟩=some (.int .i64 Sb):=(ga za.out 2).trans rfl;have Vai:wc.cell? ⟨Ka,3,none⟩=some (.int .i64 Tb):=(ga za.out 3).trans rfl;have Uai:wc.cell? ⟨Ka,4,none⟩=some (.int .i64 fc):=(ga za.out 4).trans rfl;have Tai:wc.cell? ⟨Ka,5,none⟩=some (.int .i64 Pc):=(ga za.out 5).trans rfl;have Sai:wc.cell? ⟨Ka,6,none⟩=some (.string Yc):=(ga za.out 6).trans rfl;have Oaf:=aa za.out 0;have Naf:=aa za.out 1;have Maf:=aa za.out 2;have Laf:=aa za.out 3;have Kaf:=aa za.out 4;have Jaf:=aa za.out 5;have Iaf:=aa za.out 6;go_wp2;go_ret;exact ⟨by first|rfl|(simp [Ma,La] <;> rfl)|(simp [*,Ma,La] <;> rfl),by repeat (first|(with_reducible first|exact HB.out|apply qa|apply ia|apply ta|refine ua ?_ Ra.out|refine ua ?_ yc.out)|exact HB.out)⟩
         ·replace c55:=Bool.eq_false_iff.mpr c55;subst c55;have H1:(some false)=some r:=by rw [if_neg (show ¬ (false=true) by decide)] at H;exact H
          clear H;have H:=H1;clear H1;obtain rfl:=Option.some.inj H;have Jaq:=Lb.out;have daq:=Mb.out;have Rai:wc.cell? ⟨Ka,0,none⟩=some (.int .i64 Bc):=(ga za.out 0).trans rfl;have Qai:wc.cell? ⟨Ka,1,none⟩=some (.int .i64 Wb):=(ga za.out 1).trans rfl;have Pai:wc.cell? ⟨Ka,2,none⟩=some (.int .i64 Sb):=(ga za.out 2).trans rfl;have Oai:wc.cell? ⟨Ka,3,none⟩=some (.int .i64 Tb):=(ga za.out 3).trans rfl;have Nai:wc.cell? ⟨Ka,4,none⟩=some (.int .i64 fc):=(ga za.out 4).trans rfl;have Mai:wc.cell? ⟨Ka,5,none⟩=some (.int .i64 Pc):=(ga za.out 5).trans rfl;have Lai:wc.cell? ⟨Ka,6,none⟩=some (.string Yc):=(ga za.out 6).trans rfl;have Haf:=aa za.out 0;have Gaf:=aa za.out 1;have Faf:=aa za.out 2;have Eaf:=aa za.out 3;have Daf:=aa za.out 4;have Caf:=aa za.out 5;have Baf:=aa za.out 6;go_wp2;go_ret;exact ⟨by first|rfl|(simp [Ma,La] <;> rfl)|(simp [*,Ma,La] <;> rfl),by repeat (first|(with_reducible first|exact HB.out|apply qa|apply ia|apply ta|refine ua ?_ Ra.out|refine ua ?_ yc.out)|exact HB.out)⟩
        ·replace c54:=Bool.eq_false_iff.mpr c54;subst c54;have H1:(some false)=some r:=by rw [if_neg (show ¬ (false=true) by decide)] at H;exact H
         clear H;have H:=H1;clear H1;obtain rfl:=Option.some.inj H;have Iaq:=Lb.out;have caq:=Mb.out;have Kai:wc.cell? ⟨Ka,0,none⟩=some (.int .i64 Bc):=(ga za.out 0).trans rfl;have Jai:wc.cell? ⟨Ka,1,none⟩=some (.int .i64 Wb):=(ga za.out 1).trans rfl;have Iai:wc.cell? ⟨Ka,2,none⟩=some (.int .i64 Sb):=(ga za.out 2).trans rfl;have Hai:wc.cell? ⟨Ka,3,none⟩=some (.int .i64 Tb):=(ga za.out 3).trans rfl;have Gai:wc.cell? ⟨Ka,4,none⟩=some (.int .i64 fc):=(ga za.out 4).trans rfl;have Fai:wc.cell? ⟨Ka,5,none⟩=some (.int .i64 Pc):=(ga za.out 5).trans rfl;have Eai:wc.cell? ⟨Ka,6,none⟩=some (.string Yc):=(ga za.out 6).trans rfl;have Aaf:=aa za.out 0;have zaf:=aa za.out 1;have yaf:=aa za.out 2;have xaf:=aa za.out 3;have waf:=aa za.out 4;have vaf:=aa za.out 5;have uaf:=aa za.out 6;go_wp2;go_ret;exact ⟨by first|rfl|(simp [Ma,La] <;> rfl)|(simp [*,Ma,La] <;> rfl),by repeat (first|(with_reducible first|exact HB.out|apply qa|apply ia|apply ta|refine ua ?_ Ra.out|refine ua ?_ yc.out)|exact HB.out)⟩
       ·rw [if_neg K3] at H;have Uab:(Bc == 1)=false:=beq_eq_false_iff_ne.mpr K3;have Tab:(Bc != 1)=true:=bne_iff_ne.mpr K3
        by_cases I3:Bc=2
        ·rw [if_pos I3] at H;have Qab:(Bc == 2)=true:=beq_iff_eq.mpr I3;have Pab:(Bc != 2)=false:=bne_eq_false_iff_eq.mpr I3;clear I3
         by_cases c66:t103=true
         ·subst c66;have H1:(if t104=true then (if t105=true then (if Pc=0 then ((Ge.f mQ (([(⟨#[61,61]⟩:ByteArray),(⟨#[60]⟩:ByteArray),(⟨#[38]⟩:ByteArray),(⟨#[43]⟩:ByteArray),(⟨#[45]⟩:ByteArray),(⟨#[42]⟩:ByteArray)]:List ByteArray)) Yc).bind fun t111=>(some t111)) else (some false)) else (some false)) else (some false))=some r:=by rw [if_pos rfl] at H;exact H
          clear H;have H:=H1;clear H1
          by_cases c67:t104=true
          ·subst c67;have H1:(if t105=true then (if Pc=0 then ((Ge.f mQ (([(⟨#[61,61]⟩:ByteArray),(⟨#[60]⟩:ByteArray),(⟨#[38]⟩:ByteArray),(⟨#[43]⟩:ByteArray),(⟨#[45]⟩:ByteArray),(⟨#[42]⟩:ByteArray)]:List ByteArray)) Yc).bind fun t111=>(some t111)) else (some false)) else (some false))=some r:=by rw [if_pos rfl] at H;exact H
           clear H;have H:=H1;clear H1
           by_cases c68:t105=true
           ·subst c68;have H1:(if Pc=0 then ((Ge.f mQ (([(⟨#[61,61]⟩:ByteArray),(⟨#[60]⟩:ByteArray),(⟨#[38]⟩:ByteArray),(⟨#[43]⟩:ByteArray),(⟨#[45]⟩:ByteArray),(⟨#[42]⟩:ByteArray)]:List ByteArray)) Yc).bind fun t111=>(some t111)) else (some false))=some r:=by rw [if_pos rfl] at H;exact H
            clear H;have H:=H1;clear H1
            by_cases G3:Pc=0
            ·rw [if_pos G3] at H;have Oab:(Pc == 0)=true:=beq_iff_eq.mpr G3;have Nab:(Pc != 0)=false:=bne_eq_false_iff_eq.mpr G3;clear G3;obtain ⟨Fg,Hf⟩:∃ y_:List ByteArray,y_=(([(⟨#[61,61]⟩:ByteArray),(⟨#[60]⟩:ByteArray),(⟨#[38]⟩:ByteArray),(⟨#[43]⟩:ByteArray),(⟨#[45]⟩:ByteArray),(⟨#[42]⟩:ByteArray)]:List ByteArray)):=⟨_,rfl⟩;replace H:((Ge.f mQ Fg Yc).bind fun t111=>(some t111))=some r:=by first|(rw [Hf];with_reducible exact H)|(have Ie:=(Option.bind_some _ _).symm.trans H;rw [Hf];with_reducible exact Ie)|(have Ie:=(Option.bind_some _ _).symm.trans H;with_reducible exact Ie)|with_reducible exact H|(rw [Hf];exact H)|exact H
             have Bj:=ja.mk Hf;clear Hf;replace H:=Option.bind_eq_some_iff.mp H;obtain ⟨t111,Iad,H⟩:=H;replace H:(some t111)=some r:=H;have fR:=ja.mk Iad;clear Iad;obtain rfl:=Option.some.inj H;have Haq:=Lb.out;have baq:=Mb.out;have Dai:wc.cell? ⟨Ka,0,none⟩=some (.int .i64 Bc):=(ga za.out 0).trans rfl;have Cai:wc.cell? ⟨Ka,1,none⟩=some (.int .i64 Wb):=(ga za.out 1).trans rfl;have Bai:wc.cell? ⟨Ka,2,none⟩=some (.int .i64 Sb):=(ga za.out 2).trans rfl;have Aai:wc.cell? ⟨Ka,3,none⟩=some (.int .i64 Tb):=(ga za.out 3).trans rfl;have zai:wc.cell? ⟨Ka,4,none⟩=some (.int .i64 fc):=(ga za.out 4).trans rfl;have yai:wc.cell? ⟨Ka,5,none⟩=some (.int .i64 Pc):=(ga za.out 5).trans rfl;have xai:wc.cell? ⟨Ka,6,none⟩=some (.string Yc):=(ga za.out 6).trans rfl;have taf:=aa za.out 0;have saf:=aa za.out 1;have raf:=aa za.out 2;have qaf:=aa za.out 3;have paf:=aa za.out 4;have oaf:=aa za.out 5;have naf:=aa za.out 6;go_wp2_with (first|((with_reducible refine qb (N:=109) rfl ?_);(try (refine kg (by rfl) ?_;dsimp only));refine Kd.Bk Kd.string _ 9 ?hg (N:=109) ?hd (xs:=([(⟨#[61,61]⟩:ByteArray),(⟨#[60]⟩:ByteArray),(⟨#[38]⟩:ByteArray),(⟨#[43]⟩:ByteArray),(⟨#[45]⟩:ByteArray),(⟨#[42]⟩:ByteArray)]:List ByteArray)) (inner:=[.string (⟨#[61,61]⟩:ByteArray),.string (⟨#[60]⟩:ByteArray),.string (⟨#[38]⟩:ByteArray),.string (⟨#[43]⟩:ByteArray),.string (⟨#[45]⟩:ByteArray),.string (⟨#[42]⟩:ByteArray)]) (ok:=fun _=>True) (Sh:=fun _=>True) ?hr ?hp (fun _ hk=>hk) trivial (Below.refl _ _) (Nat.le_refl _) (by simp) ?_;(case hd=>rfl);(case hg=>rfl);(case hr=>first|(go_simp;done)|(go_simp;rfl));(case hp=>exact (Ed.one (show Kd.M Kd.string _ _ _ (⟨#[61,61]⟩:ByteArray) [.string (⟨#[61,61]⟩:ByteArray)] from rfl) (Ed.one (show Kd.M Kd.string _ _ _ (⟨#[60]⟩:ByteArray) [.string (⟨#[60]⟩:ByteArray)] from rfl) (Ed.one (show Kd.M Kd.string _ _ _ (⟨#[38]⟩:ByteArray) [.string (⟨#[38]⟩:ByteArray)] from rfl) (Ed.one (show Kd.M Kd.string _ _ _ (⟨#[43]⟩:ByteArray) [.string (⟨#[43]⟩:ByteArray)] from rfl) (Ed.one (show Kd.M Kd.string _ _ _ (⟨#[45]⟩:ByteArray) [.string (⟨#[45]⟩:ByteArray)] from rfl) (Ed.one (show Kd.M Kd.string _ _ _ (⟨#[42]⟩:ByteArray) [.string (⟨#[42]⟩:ByteArray)] from rfl) (Ed.none _ _))))))));intro iE WZ oS hb Vn yf;clear Vn yf;(first|rw [← Bj.out] at oS|(simp only [Int.reduceToNat] at oS;rw [← Bj.out] at oS));have Eb:=ja.mk (Kd.Qd oS (Ga (by repeat (first|(with_reducible first|exact HB.out|apply qa|apply ia|apply ta|refine ua ?_ Ra.out|refine ua ?_ yc.out)|exact HB.out))));have Jb:=ja.mk (Ta (g:=ya) (o:=.cells #[.slice Wa Oa.length Ya,.int .i64 Ja,.int .i64 Fa,.int .i64 Ia,.slice Ob Ca.length Cb] 30 (0,0)) (by (with_reducible repeat (first|refine Aa ?_ _|refine Da ?_|refine Ba ?_ _));exact oa.out) hb);have Ub:=ja.mk (Ta (g:=Ka) (o:=.cells #[.int .i64 Bc,.int .i64 Wb,.int .i64 Sb,.int .i64 Tb,.int .i64 fc,.int .i64 Pc,.string Yc] 65 (0,0)) (by (with_reducible repeat (first|refine Aa ?_ _|refine Da ?_|refine Ba ?_ _));exact za.out) hb);have uc:=ja.mk (Na (by repeat (first|(with_reducible first|exact HB.out|apply qa|apply ia|apply ta|refine ua ?_ Ra.out|refine ua ?_ yc.out)|exact HB.out)) hb);clear oa za HB;have Oi:=Eb;have oa:=Jb;have za:=Ub;have HB:=uc;clear Eb Jb Ub uc hb oS;have wai:WZ.cell? ⟨Ka,0,none⟩=some (.int .i64 Bc):=(ga za.out 0).trans rfl;have vai:WZ.cell? ⟨Ka,1,none⟩=some (.int .i64 Wb):=(ga za.out 1).trans rfl;have uai:WZ.cell? ⟨Ka,2,none⟩=some (.int .i64 Sb):=(ga za.out 2).trans rfl;have tai:WZ.cell? ⟨Ka,3,none⟩=some (.int .i64 Tb):=(ga za.out 3).trans rfl;have sai:WZ.cell? ⟨Ka,4,none⟩=some (.int .i64 fc):=(ga za.out 4).trans rfl;have rai:WZ.cell? ⟨Ka,5,none⟩=some (.int .i64 Pc):=(ga za.out 5).trans rfl;have qai:WZ.cell? ⟨Ka,6,none⟩=some (.string Yc):=(ga za.out 6).trans rfl;have maf:=aa za.out 0;have laf:=aa za.out 1;have kaf:=aa za.out 2;have jaf:=aa za.out 3;have iaf:=aa za.out 4;have haf:=aa za.out 5;have gaf:=aa za.out 6;obtain ⟨Yau,Pat,uan⟩:=Kd.ze Oi.out;subst uan)|(go_at_call 113;(with_reducible refine (Ge.calls mQ _ _ Fg Yc t111 _ ?dc ?Zb fR.out).mono ?_);(case dc=>repeat (first|exact (Kd.Wc Oi.out).2.2|(with_reducible refine Kd.Bb ?_ _)|(with_reducible refine Kd.Ab ?_ _)|(with_reducible refine Kd.Qb ?_)));(case Zb=>exact (Kd.Wc Oi.out).2.1);rintro e w' ⟨rfl,⟨nd,rfl⟩⟩));go_ret;exact ⟨by first|rfl|(simp [Ma,La] <;> rfl)|(simp [*,Ma,La] <;> rfl),by repeat (first|(with_reducible first|exact HB.out|apply qa|apply ia|apply ta|refine ua ?_ Ra.out|refine ua ?_ yc.out)|exact HB.out)⟩
            ·rw [if_neg G3] at H;have Oab:(Pc == 0)=false:=beq_eq_false_iff_ne.mpr G3;have Nab:(Pc != 0)=true:=bne_iff_ne.mpr G3;obtain rfl:=Option.some.inj H;have Gaq:=Lb.out;have aaq:=Mb.out;have pai:wc.cell? ⟨Ka,0,none⟩=some (.int .i64 Bc):=(ga za.out 0).trans rfl;have oai:wc.cell? ⟨Ka,1,none⟩=some (.int .i64 Wb):=(ga za.out 1).trans rfl;have nai:wc.cell? ⟨Ka,2,none⟩=some (.int .i64 Sb):=(ga za.out 2).trans rfl;have mai:wc.cell? ⟨Ka,3,none⟩=some (.int .i64 Tb):=(ga za.out 3).trans rfl;have lai:wc.cell? ⟨Ka,4,none⟩=some (.int .i64 fc):=(ga za.out 4).trans rfl;have kai:wc.cell? ⟨Ka,5,none⟩=some (.int .i64 Pc):=(ga za.out 5).trans rfl;have jai:wc.cell? ⟨Ka,6,none⟩=some (.string Yc):=(ga za.out 6).trans rfl;have faf:=aa za.out 0;have eaf:=aa za.out 1;have daf:=aa za.out 2;have caf:=aa za.out 3;have baf:=aa za.out 4;have aaf:=aa za.out 5;have Zae:=aa za.out 6;go_wp2;go_ret;exact ⟨by first|rfl|(simp [Ma,La] <;> rfl)|(simp [*,Ma,La] <;> rfl),by repeat (first|(with_reducible first|exact HB.out|apply qa|apply ia|apply ta|refine ua ?_ Ra.out|refine ua ?_ yc.out)|exact HB.out)⟩
           ·replace c68:=Bool.eq_false_iff.mpr c68;subst c68;have H1:(some false)=some r:=by rw [if_neg (show ¬ (false=true) by decide)] at H;exact H
            clear H;have H:=H1;clear H1;obtain rfl:=Option.some.inj H;have Faq:=Lb.out;have Zap:=Mb.out;have iai:wc.cell? ⟨Ka,0,none⟩=some (.int .i64 Bc):=(ga za.out 0).trans rfl;have hai:wc.cell? ⟨Ka,1,none⟩=some (.int .i64 Wb):=(ga za.out 1).trans rfl;have gai:wc.cell? ⟨Ka,2,none⟩=some (.int .i64 Sb):=(ga za.out 2).trans rfl;have fai:wc.cell? ⟨Ka,3,none⟩=some (.int .i64 Tb):=(ga za.out 3).trans rfl;have eai:wc.cell? ⟨Ka,4,none⟩=some (.int .i64 fc):=(ga za.out 4).trans rfl;have dai:wc.cell? ⟨Ka,5,none⟩=some (.int .i64 Pc):=(ga za.out 5).trans rfl;have cai:wc.cell? ⟨Ka,6,none⟩=some (.string Yc):=(ga za.out 6).trans rfl;have Yae:=aa za.out 0;have Xae:=aa za.out 1;have Wae:=aa za.out 2;have Vae:=aa za.out 3;have Uae:=aa za.out 4;have Tae:=aa za.out 5;have Sae:=aa za.out 6;go_wp2;go_ret;exact ⟨by first|rfl|(simp [Ma,La] <;> rfl)|(simp [*,Ma,La] <;> rfl),by repeat (first|(with_reducible first|exact HB.out|apply qa|apply ia|apply ta|refine ua ?_ Ra.out|refine ua ?_ yc.out)|exact HB.out)⟩
          ·replace c67:=Bool.eq_false_iff.mpr c67;subst c67;have H1:(some false)=some r:=by rw [if_neg (show ¬ (false=true) by decide)] at H;exact H
           clear H;have H:=H1;clear H1;obtain rfl:=Option.some.inj H;have Eaq:=Lb.out;have Yap:=Mb.out;have bai:wc.cell? ⟨Ka,0,none⟩=some (.int .i64 Bc):=(ga za.out 0).trans rfl;have aai:wc.cell? ⟨Ka,1,none⟩=some (.int .i64 Wb):=(ga za.out 1).trans rfl;have Zah:wc.cell? ⟨Ka,2,none⟩=some (.int .i64 Sb):=(ga za.out 2).trans rfl;have Yah:wc.cell? ⟨Ka,3,none⟩=some (.int .i64 Tb):=(ga za.out 3).trans rfl;have Xah:wc.cell? ⟨Ka,4,none⟩=some (.int .i64 fc):=(ga za.out 4).trans rfl;have Wah:wc.cell? ⟨Ka,5,none⟩=some (.int .i64 Pc):=(ga za.out 5).trans rfl;have Vah:wc.cell? ⟨Ka,6,none⟩=some (.string Yc):=(ga za.out 6).trans rfl;have Rae:=aa za.out 0;have Qae:=aa za.out 1;have Pae:=aa za.out 2;have Oae:=aa za.out 3;have Nae:=aa za.out 4;have Mae:=aa za.out 5;have Lae:=aa za.out 6;go_wp2;go_ret;exact ⟨by first|rfl|(simp [Ma,La] <;> rfl)|(simp [*,Ma,La] <;> rfl),by repeat (first|(with_reducible first|exact HB.out|apply qa|apply ia|apply ta|refine ua ?_ Ra.out|refine ua ?_ yc.out)|exact HB.out)⟩
         ·replace c66:=Bool.eq_false_iff.mpr c66;subst c66;have H1:(some false)=some r:=by rw [if_neg (show ¬ (false=true) by decide)] at H;exact H
          clear H;have H:=H1;clear H1;obtain rfl:=Option.some.inj H;have Daq:=Lb.out;have Xap:=Mb.out;have Uah:wc.cell? ⟨Ka,0,none⟩=some (.int .i64 Bc):=(ga za.out 0).trans rfl;have Tah:wc.cell? ⟨Ka,1,none⟩=some (.int .i64 Wb):=(ga za.out 1).trans rfl;have Sah:wc.cell? ⟨Ka,2,none⟩=some (.int .i64 Sb):=(ga za.out 2).trans rfl;have Rah:wc.cell? ⟨Ka,3,none⟩=some (.int .i64 Tb):=(ga za.out 3).trans rfl;have Qah:wc.cell? ⟨Ka,4,none⟩=some (.int .i64 fc):=(ga za.out 4).trans rfl;have Pah:wc.cell? ⟨Ka,5,none⟩=some (.int .i64 Pc):=(ga za.out 5).trans rfl;have Oah:wc.cell? ⟨Ka,6,none⟩=some (.string Yc):=(ga za.out 6).trans rfl;have Kae:=aa za.out 0;have Jae:=aa za.out 1;have Iae:=aa za.out 2;have Hae:=aa za.out 3;have Gae:=aa za.out 4;have Fae:=aa za.out 5;have Eae:=aa za.out 6;go_wp2;go_ret;exact ⟨by first|rfl|(simp [Ma,La] <;> rfl)|(simp [*,Ma,La] <;> rfl),by repeat (first|(with_reducible first|exact HB.out|apply qa|apply ia|apply ta|refine ua ?_ Ra.out|refine ua ?_ yc.out)|exact HB.out)⟩
        ·rw [if_neg I3] at H;have Qab:(Bc == 2)=false:=beq_eq_false_iff_ne.mpr I3;have Pab:(Bc != 2)=true:=bne_iff_ne.mpr I3
         by_cases F3:Bc=3
         ·rw [if_pos F3] at H;have Mab:(Bc == 3)=true:=beq_iff_eq.mpr F3;have Lab:(Bc != 3)=false:=bne_eq_false_iff_eq.mpr F3;clear F3
          by_cases c86:t103=true
          ·subst c86;have H1:(some II)=some r:=by rw [if_pos rfl] at H;exact H
           clear H;have H:=H1;clear H1;obtain rfl:=Option.some.inj H;have Caq:=Lb.out;have Wap:=Mb.out;have Nah:wc.cell? ⟨Ka,0,none⟩=some (.int .i64 Bc):=(ga za.out 0).trans rfl;have Mah:wc.cell? ⟨Ka,1,none⟩=some (.int .i64 Wb):=(ga za.out 1).trans rfl;have Lah:wc.cell? ⟨Ka,2,none⟩=some (.int .i64 Sb):=(ga za.out 2).trans rfl;have Kah:wc.cell? ⟨Ka,3,none⟩=some (.int .i64 Tb):=(ga za.out 3).trans rfl;have Jah:wc.cell? ⟨Ka,4,none⟩=some (.int .i64 fc):=(ga za.out 4).trans rfl;have Iah:wc.cell? ⟨Ka,5,none⟩=some (.int .i64 Pc):=(ga za.out 5).trans rfl;have Hah:wc.cell? ⟨Ka,6,none⟩=some (.string Yc):=(ga za.out 6).trans rfl;have Dae:=aa za.out 0;have Cae:=aa za.out 1;have Bae:=aa za.out 2;have Aae:=aa za.out 3;have zae:=aa za.out 4;have yae:=aa za.out 5;have xae:=aa za.out 6;go_wp2;go_ret;exact ⟨by first|rfl|(simp [Ma,La] <;> rfl)|(simp [*,Ma,La] <;> rfl),by repeat (first|(with_reducible first|exact HB.out|apply qa|apply ia|apply ta|refine ua ?_ Ra.out|refine ua ?_ yc.out)|exact HB.out)⟩
          ·replace c86:=Bool.eq_false_iff.mpr c86;subst c86;have H1:(some false)=some r:=by rw [if_neg (show ¬ (false=true) by decide)] at H;exact H
           clear H;have H:=H1;clear H1;obtain rfl:=Option.some.inj H;have Baq:=Lb.out;have Vap:=Mb.out;have Gah:wc.cell? ⟨Ka,0,none⟩=some (.int .i64 Bc):=(ga za.out 0).trans rfl;have Fah:wc.cell? ⟨Ka,1,none⟩=some (.int .i64 Wb):=(ga za.out 1).trans rfl;have Eah:wc.cell? ⟨Ka,2,none⟩=some (.int .i64 Sb):=(ga za.out 2).trans rfl;have Dah:wc.cell? ⟨Ka,3,none⟩=some (.int .i64 Tb):=(ga za.out 3).trans rfl;have Cah:wc.cell? ⟨Ka,4,none⟩=some (.int .i64 fc):=(ga za.out 4).trans rfl;have Bah:wc.cell? ⟨Ka,5,none⟩=some (.int .i64 Pc):=(ga za.out 5).trans rfl;have Aah:wc.cell? ⟨Ka,6,none⟩=some (.string Yc):=(ga za.out 6).trans rfl;have wae:=aa za.out 0;have vae:=aa za.out 1;have uae:=aa za.out 2;have tae:=aa za.out 3;have sae:=aa za.out 4;have rae:=aa za.out 5;have qae:=aa za.out 6;go_wp2;go_ret;exact ⟨by first|rfl|(simp [Ma,La] <;> rfl)|(simp [*,Ma,La] <;> rfl),by repeat (first|(with_reducible first|exact HB.out|apply qa|apply ia|apply ta|refine ua ?_ Ra.out|refine ua ?_ yc.out)|exact HB.out)⟩
         ·rw [if_neg F3] at H;have Mab:(Bc == 3)=false:=beq_eq_false_iff_ne.mpr F3;have Lab:(Bc != 3)=true:=bne_iff_ne.mpr F3
          by_cases E3:Bc=4
          ·rw [if_pos E3] at H;have Kab:(Bc == 4)=true:=beq_iff_eq.mpr E3;have Jab:(Bc != 4)=false:=bne_eq_false_iff_eq.mpr E3;clear E3
           by_cases D3:Wb=0
           ·rw [if_pos D3] at H;have Iab:(Wb == 0)=true:=beq_iff_eq.mpr D3;have Hab:(Wb != 0)=false:=bne_eq_false_iff_eq.mpr D3;clear D3
            by_cases c93:II=true
            ·subst c93;have H1:((Za.f fc 0 (wrap64 (Ia - 1))).bind fun t112=>(some t112))=some r:=by rw [if_pos rfl] at H;exact H
             clear H;have H:=H1;clear H1;replace H:=Option.bind_eq_some_iff.mp H;obtain ⟨t112,Had,H⟩:=H;replace H:(some t112)=some r:=H;have A94:=ja.mk Had;clear Had;obtain rfl:=Option.some.inj H;have Aaq:=Lb.out;have Uap:=Mb.out;have zah:wc.cell? ⟨Ka,0,none⟩=some (.int .i64 Bc):=(ga za.out 0).trans rfl;have yah:wc.cell? ⟨Ka,1,none⟩=some (.int .i64 Wb):=(ga za.out 1).trans rfl;have xah:wc.cell? ⟨Ka,2,none⟩=some (.int .i64 Sb):=(ga za.out 2).trans rfl;have wah:wc.cell? ⟨Ka,3,none⟩=some (.int .i64 Tb):=(ga za.out 3).trans rfl;have vah:wc.cell? ⟨Ka,4,none⟩=some (.int .i64 fc):=(ga za.out 4).trans rfl;have uah:wc.cell? ⟨Ka,5,none⟩=some (.int .i64 Pc):=(ga za.out 5).trans rfl;have tah:wc.cell? ⟨Ka,6,none⟩=some (.string Yc):=(ga za.out 6).trans rfl;have pae:=aa za.out 0;have oae:=aa za.out 1;have nae:=aa za.out 2;have mae:=aa za.out 3;have lae:=aa za.out 4;have kae:=aa za.out 5;have jae:=aa za.out 6;have sah:wc.cell? ⟨ya,0,none⟩=some (.slice Wa Oa.length Ya):=(ga oa.out 0).trans rfl;have rah:wc.cell? ⟨ya,1,none⟩=some (.int .i64 Ja):=(ga oa.out 1).trans rfl;have qah:wc.cell? ⟨ya,2,none⟩=some (.int .i64 Fa):=(ga oa.out 2).trans rfl;have pah:wc.cell? ⟨ya,3,none⟩=some (.int .i64 Ia):=(ga oa.out 3).trans rfl;have oah:wc.cell? ⟨ya,4,none⟩=some (.slice Ob Ca.length Cb):=(ga oa.out 4).trans rfl;have iae:=aa oa.out 0;have hae:=aa oa.out 1;have gae:=aa oa.out 2;have fae:=aa oa.out 3;have eae:=aa oa.out 4;go_wp2_with (first|(go_at_call 53;(with_reducible refine (Za.calls fc 0 (wrap64 (Ia - 1)) t112 _ A94.out).mono ?_);rintro e w' ⟨rfl,⟨nd,rfl⟩⟩));go_ret;exact ⟨by first|rfl|(simp [Ma,La] <;> rfl)|(simp [*,Ma,La] <;> rfl),by repeat (first|(with_reducible first|exact HB.out|apply qa|apply ia|apply ta|refine ua ?_ Ra.out|refine ua ?_ yc.out)|exact HB.out)⟩
            ·replace c93:=Bool.eq_false_iff.mpr c93;subst c93;have H1:(some false)=some r:=by rw [if_neg (show ¬ (false=true) by decide)] at H;exact H
             clear H;have H:=H1;clear H1;obtain rfl:=Option.some.inj H;have zaq:=Lb.out;have Tap:=Mb.out;have nah:wc.cell? ⟨Ka,0,none⟩=some (.int .i64 Bc):=(ga za.out 0).trans rfl;have mah:wc.cell? ⟨Ka,1,none⟩=some (.int .i64 Wb):=(ga za.out 1).trans rfl;have lah:wc.cell? ⟨Ka,2,none⟩=some (.int .i64 Sb):=(ga za.out 2).trans rfl;have kah:wc.cell? ⟨Ka,3,none⟩=some (.int .i64 Tb):=(ga za.out 3).trans rfl;have jah:wc.cell? ⟨Ka,4,none⟩=some (.int .i64 fc):=(ga za.out 4).trans rfl;have iah:wc.cell? ⟨Ka,5,none⟩=some (.int .i64 Pc):=(ga za.out 5).trans rfl;have hah:wc.cell? ⟨Ka,6,none⟩=some (.string Yc):=(ga za.out 6).trans rfl;have dae:=aa za.out 0;have cae:=aa za.out 1;have bae:=aa za.out 2;have aae:=aa za.out 3;have Zad:=aa za.out 4;have Yad:=aa za.out 5;have Xad:=aa za.out 6;go_wp2;go_ret;exact ⟨by first|rfl|(simp [Ma,La] <;> rfl)|(simp [*,Ma,La] <;> rfl),by repeat (first|(with_reducible first|exact HB.out|apply qa|apply ia|apply ta|refine ua ?_ Ra.out|refine ua ?_ yc.out)|exact HB.out)⟩
           ·rw [if_neg D3] at H;have Iab:(Wb == 0)=false:=beq_eq_false_iff_ne.mpr D3;have Hab:(Wb != 0)=true:=bne_iff_ne.mpr D3;obtain rfl:=Option.some.inj H;have uam:=Lb.out;have fam:=Mb.out;have bab:wc.cell? ⟨Ka,0,none⟩=some (.int .i64 Bc):=(ga za.out 0).trans rfl;have aab:wc.cell? ⟨Ka,1,none⟩=some (.int .i64 Wb):=(ga za.out 1).trans rfl;have Zaa:wc.cell? ⟨Ka,2,none⟩=some (.int .i64 Sb):=(ga za.out 2).trans rfl;have Yaa:wc.cell? ⟨Ka,3,none⟩=some (.int .i64 Tb):=(ga za.out 3).trans rfl;have Xaa:wc.cell? ⟨Ka,4,none⟩=some (.int .i64 fc):=(ga za.out 4).trans rfl;have Waa:wc.cell? ⟨Ka,5,none⟩=some (.int .i64 Pc):=(ga za.out 5).trans rfl;have Vaa:wc.cell? ⟨Ka,6,none⟩=some (.string Yc):=(ga za.out 6).trans rfl;have G_:=aa za.out 0;have F_:=aa za.out 1;have E_:=aa za.out 2;have D_:=aa za.out 3;have C_:=aa za.out 4;have B_:=aa za.out 5;have A_:=aa za.out 6;go_wp2;go_ret;exact ⟨by first|rfl|(simp [Ma,La] <;> rfl)|(simp [*,Ma,La] <;> rfl),by repeat (first|(with_reducible first|exact HB.out|apply qa|apply ia|apply ta|refine ua ?_ Ra.out|refine ua ?_ yc.out)|exact HB.out)⟩
          ·rw [if_neg E3] at H;have Kab:(Bc == 4)=false:=beq_eq_false_iff_ne.mpr E3;have Jab:(Bc != 4)=true:=bne_iff_ne.mpr E3
           by_cases QL:Bc=5
           ·rw [if_pos QL] at H;have j4:(Bc == 5)=true:=beq_iff_eq.mpr QL;have Z3:(Bc != 5)=false:=bne_eq_false_iff_eq.mpr QL;clear QL
            by_cases QX:t103=true
            ·subst QX;have H1:(if Sb=0 then (if Tb=0 then (some (Pc == 0)) else (some false)) else (some false))=some r:=by rw [if_pos rfl] at H;exact H
             clear H;have H:=H1;clear H1
             by_cases PL:Sb=0
             ·rw [if_pos PL] at H;have X3:(Sb == 0)=true:=beq_iff_eq.mpr PL;have W3:(Sb != 0)=false:=bne_eq_false_iff_eq.mpr PL;clear PL
              by_cases OL:Tb=0
              ·rw [if_pos OL] at H;have V3:(Tb == 0)=true:=beq_iff_eq.mpr OL;have U3:(Tb != 0)=false:=bne_eq_false_iff_eq.mpr OL;clear OL;obtain rfl:=Option.some.inj H;have tam:=Lb.out;have eam:=Mb.out;have Uaa:wc.cell? ⟨Ka,0,none⟩=some (.int .i64 Bc):=(ga za.out 0).trans rfl;have Taa:wc.cell? ⟨Ka,1,none⟩=some (.int .i64 Wb):=(ga za.out 1).trans rfl;have Saa:wc.cell? ⟨Ka,2,none⟩=some (.int .i64 Sb):=(ga za.out 2).trans rfl;have Raa:wc.cell? ⟨Ka,3,none⟩=some (.int .i64 Tb):=(ga za.out 3).trans rfl;have Qaa:wc.cell? ⟨Ka,4,none⟩=some (.int .i64 fc):=(ga za.out 4).trans rfl;have Paa:wc.cell? ⟨Ka,5,none⟩=some (.int .i64 Pc):=(ga za.out 5).trans rfl;have Oaa:wc.cell? ⟨Ka,6,none⟩=some (.string Yc):=(ga za.out 6).trans rfl;have z_:=aa za.out 0;have x_:=aa za.out 1;have w_:=aa za.out 2;have v_:=aa za.out 3;have u_:=aa za.out 4;have t_:=aa za.out 5;have r_:=aa za.out 6;go_wp2;go_ret;exact ⟨by first|rfl|(simp [Ma,La] <;> rfl)|(simp [*,Ma,La] <;> rfl),by repeat (first|(with_reducible first|exact HB.out|apply qa|apply ia|apply ta|refine ua ?_ Ra.out|refine ua ?_ yc.out)|exact HB.out)⟩
              ·rw [if_neg OL] at H;have V3:(Tb == 0)=false:=beq_eq_false_iff_ne.mpr OL;have U3:(Tb != 0)=true:=bne_iff_ne.mpr OL;obtain rfl:=Option.some.inj H;have sam:=Lb.out;have dam:=Mb.out;have Naa:wc.cell? ⟨Ka,0,none⟩=some (.int .i64 Bc):=(ga za.out 0).trans rfl;have Maa:wc.cell? ⟨Ka,1,none⟩=some (.int .i64 Wb):=(ga za.out 1).trans rfl;have Laa:wc.cell? ⟨Ka,2,none⟩=some (.int .i64 Sb):=(ga za.out 2).trans rfl;have Kaa:wc.cell? ⟨Ka,3,none⟩=some (.int .i64 Tb):=(ga za.out 3).trans rfl;have Jaa:wc.cell? ⟨Ka,4,none⟩=some (.int .i64 fc):=(ga za.out 4).trans rfl;have Iaa:wc.cell? ⟨Ka,5,none⟩=some (.int .i64 Pc):=(ga za.out 5).trans rfl;have Haa:wc.cell? ⟨Ka,6,none⟩=some (.string Yc):=(ga za.out 6).trans rfl;have q_:=aa za.out 0;have p_:=aa za.out 1;have o_:=aa za.out 2;have l_:=aa za.out 3;have j_:=aa za.out 4;have i_:=aa za.out 5;have g_:=aa za.out 6;go_wp2;go_ret;exact ⟨by first|rfl|(simp [Ma,La] <;> rfl)|(simp [*,Ma,La] <;> rfl),by repeat (first|(with_reducible first|exact HB.out|apply qa|apply ia|apply ta|refine ua ?_ Ra.out|refine ua ?_ yc.out)|exact HB.out)⟩
             ·rw [if_neg PL] at H;have X3:(Sb == 0)=false:=beq_eq_false_iff_ne.mpr PL;have W3:(Sb != 0)=true:=bne_iff_ne.mpr PL;obtain rfl:=Option.some.inj H;have ram:=Lb.out;have cam:=Mb.out;have Gaa:wc.cell? ⟨Ka,0,none⟩=some (.int .i64 Bc):=(ga za.out 0).trans rfl;have Faa:wc.cell? ⟨Ka,1,none⟩=some (.int .i64 Wb):=(ga za.out 1).trans rfl;have Eaa:wc.cell? ⟨Ka,2,none⟩=some (.int .i64 Sb):=(ga za.out 2).trans rfl;have Daa:wc.cell? ⟨Ka,3,none⟩=some (.int .i64 Tb):=(ga za.out 3).trans rfl;have Caa:wc.cell? ⟨Ka,4,none⟩=some (.int .i64 fc):=(ga za.out 4).trans rfl;have Baa:wc.cell? ⟨Ka,5,none⟩=some (.int .i64 Pc):=(ga za.out 5).trans rfl;have Aaa:wc.cell? ⟨Ka,6,none⟩=some (.string Yc):=(ga za.out 6).trans rfl;have f_:=aa za.out 0;have d_:=aa za.out 1;have Z9:=aa za.out 2;have Y9:=aa za.out 3;have X9:=aa za.out 4;have W9:=aa za.out 5;have V9:=aa za.out 6;go_wp2;go_ret;exact ⟨by first|rfl|(simp [Ma,La] <;> rfl)|(simp [*,Ma,La] <;> rfl),by repeat (first|(with_reducible first|exact HB.out|apply qa|apply ia|apply ta|refine ua ?_ Ra.out|refine ua ?_ yc.out)|exact HB.out)⟩
            ·replace QX:=Bool.eq_false_iff.mpr QX;subst QX;have H1:(some false)=some r:=by rw [if_neg (show ¬ (false=true) by decide)] at H;exact H
             clear H;have H:=H1;clear H1;obtain rfl:=Option.some.inj H;have qam:=Lb.out;have bam:=Mb.out;have zaa:wc.cell? ⟨Ka,0,none⟩=some (.int .i64 Bc):=(ga za.out 0).trans rfl;have yaa:wc.cell? ⟨Ka,1,none⟩=some (.int .i64 Wb):=(ga za.out 1).trans rfl;have xaa:wc.cell? ⟨Ka,2,none⟩=some (.int .i64 Sb):=(ga za.out 2).trans rfl;have waa:wc.cell? ⟨Ka,3,none⟩=some (.int .i64 Tb):=(ga za.out 3).trans rfl;have vaa:wc.cell? ⟨Ka,4,none⟩=some (.int .i64 fc):=(ga za.out 4).trans rfl;have uaa:wc.cell? ⟨Ka,5,none⟩=some (.int .i64 Pc):=(ga za.out 5).trans rfl;have taa:wc.cell? ⟨Ka,6,none⟩=some (.string Yc):=(ga za.out 6).trans rfl;have U9:=aa za.out 0;have T9:=aa za.out 1;have S9:=aa za.out 2;have R9:=aa za.out 3;have Q9:=aa za.out 4;have P9:=aa za.out 5;have O9:=aa za.out 6;go_wp2;go_ret;exact ⟨by first|rfl|(simp [Ma,La] <;> rfl)|(simp [*,Ma,La] <;> rfl),by repeat (first|(with_reducible first|exact HB.out|apply qa|apply ia|apply ta|refine ua ?_ Ra.out|refine ua ?_ yc.out)|exact HB.out)⟩
           ·rw [if_neg QL] at H;have j4:(Bc == 5)=false:=beq_eq_false_iff_ne.mpr QL;have Z3:(Bc != 5)=true:=bne_iff_ne.mpr QL
            by_cases ML:Bc=6
            ·rw [if_pos ML] at H;have R3:(Bc == 6)=true:=beq_iff_eq.mpr ML;have Q3:(Bc != 6)=false:=bne_eq_false_iff_eq.mpr ML;clear ML
             by_cases LL:Wb=0
             ·rw [if_pos LL] at H;have P3:(Wb == 0)=true:=beq_iff_eq.mpr LL;have O3:(Wb != 0)=false:=bne_eq_false_iff_eq.mpr LL;clear LL
              by_cases PX:t104=true
              ·subst PX;have H1:(if Tb=0 then (some (Pc == 0)) else (some false))=some r:=by rw [if_pos rfl] at H;exact H
               clear H;have H:=H1;clear H1
               by_cases KL:Tb=0
               ·rw [if_pos KL] at H;have N3:(Tb == 0)=true:=beq_iff_eq.mpr KL;have M3:(Tb != 0)=false:=bne_eq_false_iff_eq.mpr KL;clear KL;obtain rfl:=Option.some.inj H;have pam:=Lb.out;have aam:=Mb.out;have saa:wc.cell? ⟨Ka,0,none⟩=some (.int .i64 Bc):=(ga za.out 0).trans rfl;have raa:wc.cell? ⟨Ka,1,none⟩=some (.int .i64 Wb):=(ga za.out 1).trans rfl;have qaa:wc.cell? ⟨Ka,2,none⟩=some (.int .i64 Sb):=(ga za.out 2).trans rfl;have paa:wc.cell? ⟨Ka,3,none⟩=some (.int .i64 Tb):=(ga za.out 3).trans rfl;have oaa:wc.cell? ⟨Ka,4,none⟩=some (.int .i64 fc):=(ga za.out 4).trans rfl;have naa:wc.cell? ⟨Ka,5,none⟩=some (.int .i64 Pc):=(ga za.out 5).trans rfl;have maa:wc.cell? ⟨Ka,6,none⟩=some (.string Yc):=(ga za.out 6).trans rfl;have N9:=aa za.out 0;have M9:=aa za.out 1;have L9:=aa za.out 2;have K9:=aa za.out 3;have J9:=aa za.out 4;have I9:=aa za.out 5;have G9:=aa za.out 6;go_wp2;go_ret;exact ⟨by first|rfl|(simp [Ma,La] <;> rfl)|(simp [*,Ma,La] <;> rfl),by repeat (first|(with_reducible first|exact HB.out|apply qa|apply ia|apply ta|refine ua ?_ Ra.out|refine ua ?_ yc.out)|exact HB.out)⟩
               ·rw [if_neg KL] at H;have N3:(Tb == 0)=false:=beq_eq_false_iff_ne.mpr KL;have M3:(Tb != 0)=true:=bne_iff_ne.mpr KL;obtain rfl:=Option.some.inj H;have oam:=Lb.out;have Zal:=Mb.out;have laa:wc.cell? ⟨Ka,0,none⟩=some (.int .i64 Bc):=(ga za.out 0).trans rfl;have kaa:wc.cell? ⟨Ka,1,none⟩=some (.int .i64 Wb):=(ga za.out 1).trans rfl;have jaa:wc.cell? ⟨Ka,2,none⟩=some (.int .i64 Sb):=(ga za.out 2).trans rfl;have iaa:wc.cell? ⟨Ka,3,none⟩=some (.int .i64 Tb):=(ga za.out 3).trans rfl;have haa:wc.cell? ⟨Ka,4,none⟩=some (.int .i64 fc):=(ga za.out 4).trans rfl;have gaa:wc.cell? ⟨Ka,5,none⟩=some (.int .i64 Pc):=(ga za.out 5).trans rfl;have faa:wc.cell? ⟨Ka,6,none⟩=some (.string Yc):=(ga za.out 6).trans rfl;have F9:=aa za.out 0;have E9:=aa za.out 1;have D9:=aa za.out 2;have C9:=aa za.out 3;have B9:=aa za.out 4;have A9:=aa za.out 5;have z9:=aa za.out 6;go_wp2;go_ret;exact ⟨by first|rfl|(simp [Ma,La] <;> rfl)|(simp [*,Ma,La] <;> rfl),by repeat (first|(with_reducible first|exact HB.out|apply qa|apply ia|apply ta|refine ua ?_ Ra.out|refine ua ?_ yc.out)|exact HB.out)⟩
              ·replace PX:=Bool.eq_false_iff.mpr PX;subst PX;have H1:(some false)=some r:=by rw [if_neg (show ¬ (false=true) by decide)] at H;exact H
               clear H;have H:=H1;clear H1;obtain rfl:=Option.some.inj H;have nam:=Lb.out;have Yal:=Mb.out;have eaa:wc.cell? ⟨Ka,0,none⟩=some (.int .i64 Bc):=(ga za.out 0).trans rfl;have daa:wc.cell? ⟨Ka,1,none⟩=some (.int .i64 Wb):=(ga za.out 1).trans rfl;have caa:wc.cell? ⟨Ka,2,none⟩=some (.int .i64 Sb):=(ga za.out 2).trans rfl;have baa:wc.cell? ⟨Ka,3,none⟩=some (.int .i64 Tb):=(ga za.out 3).trans rfl;have aaa:wc.cell? ⟨Ka,4,none⟩=some (.int .i64 fc):=(ga za.out 4).trans rfl;have Z_:wc.cell? ⟨Ka,5,none⟩=some (.int .i64 Pc):=(ga za.out 5).trans rfl;have Y_:wc.cell? ⟨Ka,6,none⟩=some (.string Yc):=(ga za.out 6).trans rfl;have y9:=aa za.out 0;have r9:=aa za.out 1;have o9:=aa za.out 2;have n9:=aa za.out 3;have m9:=aa za.out 4;have l9:=aa za.out 5;have k9:=aa za.out 6;go_wp2;go_ret;exact ⟨by first|rfl|(simp [Ma,La] <;> rfl)|(simp [*,Ma,La] <;> rfl),by repeat (first|(with_reducible first|exact HB.out|apply qa|apply ia|apply ta|refine ua ?_ Ra.out|refine ua ?_ yc.out)|exact HB.out)⟩
             ·rw [if_neg LL] at H;have P3:(Wb == 0)=false:=beq_eq_false_iff_ne.mpr LL;have O3:(Wb != 0)=true:=bne_iff_ne.mpr LL;obtain rfl:=Option.some.inj H;have mam:=Lb.out;have Xal:=Mb.out;have X_:wc.cell? ⟨Ka,0,none⟩=some (.int .i64 Bc):=(ga za.out 0).trans rfl;have V_:wc.cell? ⟨Ka,1,none⟩=some (.int .i64 Wb):=(ga za.out 1).trans rfl;have U_:wc.cell? ⟨Ka,2,none⟩=some (.int .i64 Sb):=(ga za.out 2).trans rfl;have T_:wc.cell? ⟨Ka,3,none⟩=some (.int .i64 Tb):=(ga za.out 3).trans rfl;have S_:wc.cell? ⟨Ka,4,none⟩=some (.int .i64 fc):=(ga za.out 4).trans rfl;have R_:wc.cell? ⟨Ka,5,none⟩=some (.int .i64 Pc):=(ga za.out 5).trans rfl;have Q_:wc.cell? ⟨Ka,6,none⟩=some (.string Yc):=(ga za.out 6).trans rfl;have j9:=aa za.out 0;have e9:=aa za.out 1;have b9:=aa za.out 2;have Z8:=aa za.out 3;have Y8:=aa za.out 4;have X8:=aa za.out 5;have W8:=aa za.out 6;go_wp2;go_ret;exact ⟨by first|rfl|(simp [Ma,La] <;> rfl)|(simp [*,Ma,La] <;> rfl),by repeat (first|(with_reducible first|exact HB.out|apply qa|apply ia|apply ta|refine ua ?_ Ra.out|refine ua ?_ yc.out)|exact HB.out)⟩
            ·rw [if_neg ML] at H;have R3:(Bc == 6)=false:=beq_eq_false_iff_ne.mpr ML;have Q3:(Bc != 6)=true:=bne_iff_ne.mpr ML;obtain rfl:=Option.some.inj H;have kam:=Lb.out;have Wal:=Mb.out;have P_:wc.cell? ⟨Ka,0,none⟩=some (.int .i64 Bc):=(ga za.out 0).trans rfl;have O_:wc.cell? ⟨Ka,1,none⟩=some (.int .i64 Wb):=(ga za.out 1).trans rfl;have N_:wc.cell? ⟨Ka,2,none⟩=some (.int .i64 Sb):=(ga za.out 2).trans rfl;have M_:wc.cell? ⟨Ka,3,none⟩=some (.int .i64 Tb):=(ga za.out 3).trans rfl;have L_:wc.cell? ⟨Ka,4,none⟩=some (.int .i64 fc):=(ga za.out 4).trans rfl;have K_:wc.cell? ⟨Ka,5,none⟩=some (.int .i64 Pc):=(ga za.out 5).trans rfl;have J_:wc.cell? ⟨Ka,6,none⟩=some (.string Yc):=(ga za.out 6).trans rfl;have V8:=aa za.out 0;have U8:=aa za.out 1;have T8:=aa za.out 2;have S8:=aa za.out 3;have R8:=aa za.out 4;have Q8:=aa za.out 5;have P8:=aa za.out 6;go_wp2;go_ret;exact ⟨by first|rfl|(simp [Ma,La] <;> rfl)|(simp [*,Ma,La] <;> rfl),by repeat (first|(with_reducible first|exact HB.out|apply qa|apply ia|apply ta|refine ua ?_ Ra.out|refine ua ?_ yc.out)|exact HB.out)⟩
end Go.Proofs.Ytkigbdceceeenaa.P
