import Derived.Test.YtoomcmaifgkkfaaQRuler1
import Derived.Test.YtoomcmaifgkkfaaQRuler5
import Derived.Shelf.Abstract
import Derived.Outline
import Derived.RegionTactic
import Derived.Shelf.Small.Bits
import Derived.Shelf.Small.Wraps
import Derived.Shelf.Strconv.Itoa0
import Derived.Shelf.Sort.Plain
import Derived.Shelf.Slices.Turned
import Derived.Shelf.Slices.Reverse
import Derived.Ground.Names2Prog
import Derived.Shelf.Slices.CompactI
import Derived.Shelf.Slices.SearchI
import Derived.Shelf.Slices.Cells
import Derived.Shelf.Slices.In.SortNone
import Derived.Sort.OwnSortedInts
import Derived.Lib.SliceRun
set_option maxHeartbeats 8000000
set_option maxRecDepth 100000
section
namespace Go.Proofs.Ytoomcmaifgkkfaa.P
open Go.RowKit Go.Proofs.Ia.Pb Go.Proofs.Ia.Ld Go.Proofs.Ia.De
set_option linter.unusedVariables false
set_option linter.unusedSimpArgs false
attribute [local go_sem] Bi zi Fj Ej mh jh Ai si
mutual
def Yb.j0:Nat→Bool→List Int→Int→Int→Int→List (jf)→Option (Bool)
 | 0,_,_,_,_,_,_=>none
 | k + 1,x29,Yc,Zc,Xc,Wc,dc=>if x29=true then (some false) else (Yb.l0 k 0 dc (dc.length:Int) 0 Yc Zc Xc Wc dc)
def Yb.l0:Nat→Int→List (jf)→Int→Int→List Int→Int→Int→Int→List (jf)→Option (Bool)
 | 0,_,_,_,_,_,_,_,_,_=>none
 | k + 1,x3,LX,x32,TS,Yc,Zc,Xc,Wc,dc=>if TS < x32 then (if 0 ≤ TS then (if TS < (LX.length:Int) then ((Xi.f Yc Zc Xc Wc dc ((Ta LX TS).f0) ((Ta LX TS).f1) ((Ta LX TS).f2) ((Ta LX TS).f3) ((Ta LX TS).f4)).bind fun t107=>(if t107=true then (Yb.l0 k (wrap64 (x3 + (((Ta LX TS).f0).length:Int))) LX x32 (wrap64 (TS + 1)) Yc Zc Xc Wc dc) else (some false))) else (none)) else (none)) else (some (decide (x3 ≤ 1000)))
end
def Yb.f (k:Nat) (Ma:List Int) (La:Int) (Na:Int) (Ka:Int) (Fa:List (jf)):Option (Bool):=(Kg.f Ma La Na ([]:List (jz))).bind fun t102=>(if t102=true then ((yh.f Ka Na 1000).bind fun t103=>(if t103=true then ((yh.f (Fa.length:Int) 1 300).bind fun t104=>(Yb.j0 k (!t104) Ma La Na Ka Fa)) else (Yb.j0 k true Ma La Na Ka Fa))) else (Yb.j0 k true Ma La Na Ka Fa))
theorem Yb.calls (k:Nat) (qb:Option Addr) (mb:Nat) (Ma:List Int) (La:Int) (Na:Int) (Ka:Int) (Lb:Option Addr) (Fb:Nat) (Fa:List (jf)) (r:Bool) (w:World) (Ae:Kd.C (Kd.int .i64) w qb Ma.length Ma) (we:Ma.length ≤ mb) (Uf:Kd.C Gp w Lb Fa.length Fa) (Lf:Fa.length ≤ Fb) (h:Yb.f k Ma La Na Ka Fa=some r) :
  Calls Try.prog 71 #[.agg #[.slice qb Ma.length mb,.int .i64 La,.int .i64 Na,.int .i64 Ka,.slice Lb Fa.length Fb]] w fun e w'=>e = .returned (.bool r)∧Below w.heap.size w w':=by
 have Oz:=Try.underlying45;have gas:=Try.underlying100;have BB:=Try.underlying83;have Ke:=ga.mk Ae;have Ve:=ga.mk we;clear Ae we;have kg:=ga.mk Uf;have Tg:=ga.mk Lf;clear Uf Lf;have HB:=ga.mk (Below.refl w.heap.size w);have H:((Kg.f Ma La Na ([]:List (jz))).bind fun t102=>(if t102=true then ((yh.f Ka Na 1000).bind fun t103=>(if t103=true then ((yh.f (Fa.length:Int) 1 300).bind fun t104=>(Yb.j0 k (!t104) Ma La Na Ka Fa)) else (Yb.j0 k true Ma La Na Ka Fa))) else (Yb.j0 k true Ma La Na Ka Fa)))=some r:=h;clear h;have V7:=ga.mk H;clear H;go_enter Try.func71,Try.ntmps71
 go_upto_region 1 with (first|((with_reducible refine Ab (N:=1) rfl ?_);(try (refine Me (by rfl) ?_;dsimp only));refine Kb ?hg (N:=1) ?hd (cs:=#[.slice qb Ma.length mb,.int .i64 La,.int .i64 Na,.int .i64 Ka,.slice Lb Fa.length Fb]) (t:=45) ?hr ?_;(case hd=>rfl);(case hg=>rfl);(case hr=>first|(go_simp;done)|(go_simp;rfl));intro za hg w3 Wb hb;have Eb:=ga.mk (Qa (by repeat (first|(with_reducible first|exact HB.out|apply oa|apply ia|apply qa)|exact HB.out)) hb);have Ib:=ga.mk (Wb);have Sb:=ga.mk ((by rw [hg];exact (Ja (by repeat (first|(with_reducible first|exact HB.out|apply oa|apply ia|apply qa)|exact HB.out))):w.heap.size ≤ za));have yc:=ga.mk ((by rw [hg];exact (Ja (by repeat (first|(with_reducible first|exact HB.out|apply oa|apply ia|apply qa)|exact HB.out))):w.heap.size ≤ za));clear HB;have HB:=Eb;have ta:=Ib;have Be:=Sb;have Sa:=yc;clear Eb Ib Sb yc hb Wb hg))
 (try simp only [Act.put,List.setIfInBounds_toArray,List.set_cons_zero,List.set_cons_succ])
 go_cut [29] (fun v29 wc=>∃ (kq:Nat) (kL:Bool),v29 = .bool kL∧ga (Yb.j0 kq kL Ma La Na Ka Fa=some r)∧ga (kq ≤ k)∧ga (wc.heap[za]? = some (.cells #[(.slice qb Ma.length mb),.int .i64 La,.int .i64 Na,.int .i64 Ka,(.slice Lb Fa.length Fb)] 45 (0,0)))∧ga (Below w.heap.size w wc))
 case first =>
  have H:=V7.out;clear V7;replace H:=Option.bind_eq_some_iff.mp H;obtain ⟨t102,lJ,H⟩:=H;replace H:(if t102=true then ((yh.f Ka Na 1000).bind fun t103=>(if t103=true then ((yh.f (Fa.length:Int) 1 300).bind fun t104=>(Yb.j0 k (!t104) Ma La Na Ka Fa)) else (Yb.j0 k true Ma La Na Ka Fa))) else (Yb.j0 k true Ma La Na Ka Fa))=some r:=H;have A4:=ga.mk lJ;clear lJ
  by_cases c5:t102=true
  ·subst c5;have H1:((yh.f Ka Na 1000).bind fun t103=>(if t103=true then ((yh.f (Fa.length:Int) 1 300).bind fun t104=>(Yb.j0 k (!t104) Ma La Na Ka Fa)) else (Yb.j0 k true Ma La Na Ka Fa)))=some r:=by rw [if_pos rfl] at H;exact H
   clear H;have H:=H1;clear H1;replace H:=Option.bind_eq_some_iff.mp H;obtain ⟨t103,IZ,H⟩:=H;replace H:(if t103=true then ((yh.f (Fa.length:Int) 1 300).bind fun t104=>(Yb.j0 k (!t104) Ma La Na Ka Fa)) else (Yb.j0 k true Ma La Na Ka Fa))=some r:=H;have A6:=ga.mk IZ;clear IZ
   by_cases c7:t103=true
   ·subst c7;have H1:((yh.f (Fa.length:Int) 1 300).bind fun t104=>(Yb.j0 k (!t104) Ma La Na Ka Fa))=some r:=by rw [if_pos rfl] at H;exact H
    clear H;have H:=H1;clear H1;replace H:=Option.bind_eq_some_iff.mp H;obtain ⟨t104,NS,H⟩:=H;replace H:(Yb.j0 k (!t104) Ma La Na Ka Fa)=some r:=H;have A8:=ga.mk NS;clear NS;have H':=ga.mk H;clear H;have Wn:w3.cell? ⟨za,0,none⟩=some (.slice qb Ma.length mb):=(ja ta.out 0).trans rfl;have Vn:w3.cell? ⟨za,1,none⟩=some (.int .i64 La):=(ja ta.out 1).trans rfl;have Un:w3.cell? ⟨za,2,none⟩=some (.int .i64 Na):=(ja ta.out 2).trans rfl;have Tn:w3.cell? ⟨za,3,none⟩=some (.int .i64 Ka):=(ja ta.out 3).trans rfl;have Sn:w3.cell? ⟨za,4,none⟩=some (.slice Lb Fa.length Fb):=(ja ta.out 4).trans rfl;have Rn:=aa ta.out 0;have Qn:=aa ta.out 1;have Pn:=aa ta.out 2;have Nn:=aa ta.out 3;have Mn:=aa ta.out 4;go_wp2_with (first|((with_reducible refine zb (f:=93) rfl ?_);refine Pc (some 13) rfl rfl Try.func93 (by kernel_rfl) rfl #[.agg #[.slice qb Ma.length mb,.int .i64 La,.int .i64 Na,.slice none 0 0]] rfl (by (try simp only [List.map_toArray,List.map_cons,List.map_nil]);first|done|rfl|(simp only [List.length_drop,List.length_take];rfl)) ?_;(refine (Kg.calls _ _ Ma La Na _ _ ([]:List (jz)) true _ ?Fc ?Ec ?Wd ?Vd A4.out).mono ?_);(case Fc=>repeat (first|exact (Kd.Nb Ke.out HB.out)|(with_reducible refine Kd.Ub ?_ _)|(with_reducible refine Kd.Tb ?_ _)|(with_reducible refine Kd.mc ?_)));(case Ec=>exact Ve.out);(case Wd=>exact Kd.YN _ _);(case Vd=>exact Nat.le_refl _);rintro e Xq ⟨rfl,hb⟩;refine ⟨_,rfl,?_⟩;have Eb:=ga.mk (Wa (g:=za) (o:=.cells #[.slice qb Ma.length mb,.int .i64 La,.int .i64 Na,.int .i64 Ka,.slice Lb Fa.length Fb] 45 (0,0)) (by (with_reducible repeat (first|refine Ca ?_ _|refine Ea ?_|refine Da ?_ _));exact ta.out) hb);have Ib:=ga.mk (Qa (by repeat (first|(with_reducible first|exact HB.out|apply oa|apply ia|apply qa|refine ua ?_ Sa.out)|exact HB.out)) hb);clear ta HB;have ta:=Eb;have HB:=Ib;clear Eb Ib;(try clear hb);(try clear Qj);(try clear hk);(try clear hi);have gy:Xq.cell? ⟨za,0,none⟩=some (.slice qb Ma.length mb):=(ja ta.out 0).trans rfl;have fy:Xq.cell? ⟨za,1,none⟩=some (.int .i64 La):=(ja ta.out 1).trans rfl;have ey:Xq.cell? ⟨za,2,none⟩=some (.int .i64 Na):=(ja ta.out 2).trans rfl;have cy:Xq.cell? ⟨za,3,none⟩=some (.int .i64 Ka):=(ja ta.out 3).trans rfl;have ay:Xq.cell? ⟨za,4,none⟩=some (.slice Lb Fa.length Fb):=(ja ta.out 4).trans rfl;have Nx:=aa ta.out 0;have Mx:=aa ta.out 1;have Lx:=aa ta.out 2;have Kx:=aa ta.out 3;have Jx:=aa ta.out 4)|(go_at_call 94;(with_reducible refine (yh.calls Ka Na 1000 true _ A6.out).mono ?_);rintro e w' ⟨rfl,⟨nd,rfl⟩⟩)|(go_at_call 94;(with_reducible refine (yh.calls (Fa.length:Int) 1 300 t104 _ A8.out).mono ?_);rintro e w' ⟨rfl,⟨nd,rfl⟩⟩))
    go_meet
    case rel=>exact ⟨_,(!t104),(by first|rfl|(simp;done)|(simp [*];done)),H',⟨by first|omega|exact Nat.le_refl _⟩,⟨by (with_reducible repeat (first|refine Ca ?_ _|refine Ea ?_|refine Da ?_ _));exact ta.out⟩,⟨by repeat (first|(with_reducible first|exact HB.out|apply oa|apply ia|apply qa|refine ua ?_ Sa.out)|exact HB.out)⟩⟩
   ·replace c7:=Bool.eq_false_iff.mpr c7;subst c7;have H1:(Yb.j0 k true Ma La Na Ka Fa)=some r:=by rw [if_neg (show ¬ (false=true) by decide)] at H;exact H
    clear H;have H:=H1;clear H1;have H':=ga.mk H;clear H;have oq:w3.cell? ⟨za,0,none⟩=some (.slice qb Ma.length mb):=(ja ta.out 0).trans rfl;have mq:w3.cell? ⟨za,1,none⟩=some (.int .i64 La):=(ja ta.out 1).trans rfl;have lq:w3.cell? ⟨za,2,none⟩=some (.int .i64 Na):=(ja ta.out 2).trans rfl;have jq:w3.cell? ⟨za,3,none⟩=some (.int .i64 Ka):=(ja ta.out 3).trans rfl;have iq:w3.cell? ⟨za,4,none⟩=some (.slice Lb Fa.length Fb):=(ja ta.out 4).trans rfl;have Zp:=aa ta.out 0;have Yp:=aa ta.out 1;have Xp:=aa ta.out 2;have Wp:=aa ta.out 3;have Vp:=aa ta.out 4;go_wp2_with (first|((with_reducible refine zb (f:=93) rfl ?_);refine Pc (some 13) rfl rfl Try.func93 (by kernel_rfl) rfl #[.agg #[.slice qb Ma.length mb,.int .i64 La,.int .i64 Na,.slice none 0 0]] rfl (by (try simp only [List.map_toArray,List.map_cons,List.map_nil]);first|done|rfl|(simp only [List.length_drop,List.length_take];rfl)) ?_;(refine (Kg.calls _ _ Ma La Na _ _ ([]:List (jz)) true _ ?Fc ?Ec ?Wd ?Vd A4.out).mono ?_);(case Fc=>repeat (first|exact (Kd.Nb Ke.out HB.out)|(with_reducible refine Kd.Ub ?_ _)|(with_reducible refine Kd.Tb ?_ _)|(with_reducible refine Kd.mc ?_)));(case Ec=>exact Ve.out);(case Wd=>exact Kd.YN _ _);(case Vd=>exact Nat.le_refl _);rintro e eH ⟨rfl,hb⟩;refine ⟨_,rfl,?_⟩;have Eb:=ga.mk (Wa (g:=za) (o:=.cells #[.slice qb Ma.length mb,.int .i64 La,.int .i64 Na,.int .i64 Ka,.slice Lb Fa.length Fb] 45 (0,0)) (by (with_reducible repeat (first|refine Ca ?_ _|refine Ea ?_|refine Da ?_ _));exact ta.out) hb);have Ib:=ga.mk (Qa (by repeat (first|(with_reducible first|exact HB.out|apply oa|apply ia|apply qa|refine ua ?_ Sa.out)|exact HB.out)) hb);clear ta HB;have ta:=Eb;have HB:=Ib;clear Eb Ib;(try clear hb);(try clear Qj);(try clear hk);(try clear hi);have Mr:eH.cell? ⟨za,0,none⟩=some (.slice qb Ma.length mb):=(ja ta.out 0).trans rfl;have Lr:eH.cell? ⟨za,1,none⟩=some (.int .i64 La):=(ja ta.out 1).trans rfl;have Kr:eH.cell? ⟨za,2,none⟩=some (.int .i64 Na):=(ja ta.out 2).trans rfl;have Jr:eH.cell? ⟨za,3,none⟩=some (.int .i64 Ka):=(ja ta.out 3).trans rfl;have Ir:eH.cell? ⟨za,4,none⟩=some (.slice Lb Fa.length Fb):=(ja ta.out 4).trans rfl;have Br:=aa ta.out 0;have vr:=aa ta.out 1;have ur:=aa ta.out 2;have tr:=aa ta.out 3;have sr:=aa ta.out 4)|(go_at_call 94;(with_reducible refine (yh.calls Ka Na 1000 false _ A6.out).mono ?_);rintro e w' ⟨rfl,⟨nd,rfl⟩⟩))
    go_meet
    case rel=>exact ⟨_,(true),(by first|rfl|(simp;done)|(simp [*];done)),H',⟨by first|omega|exact Nat.le_refl _⟩,⟨by (with_reducible repeat (first|refine Ca ?_ _|refine Ea ?_|refine Da ?_ _));exact ta.out⟩,⟨by repeat (first|(with_reducible first|exact HB.out|apply oa|apply ia|apply qa|refine ua ?_ Sa.out)|exact HB.out)⟩⟩
  ·replace c5:=Bool.eq_false_iff.mpr c5;subst c5;have H1:(Yb.j0 k true Ma La Na Ka Fa)=some r:=by rw [if_neg (show ¬ (false=true) by decide)] at H;exact H
   clear H;have H:=H1;clear H1;have H':=ga.mk H;clear H;have mG:w3.cell? ⟨za,0,none⟩=some (.slice qb Ma.length mb):=(ja ta.out 0).trans rfl;have lG:w3.cell? ⟨za,1,none⟩=some (.int .i64 La):=(ja ta.out 1).trans rfl;have kG:w3.cell? ⟨za,2,none⟩=some (.int .i64 Na):=(ja ta.out 2).trans rfl;have jG:w3.cell? ⟨za,3,none⟩=some (.int .i64 Ka):=(ja ta.out 3).trans rfl;have iG:w3.cell? ⟨za,4,none⟩=some (.slice Lb Fa.length Fb):=(ja ta.out 4).trans rfl;have kF:=aa ta.out 0;have jF:=aa ta.out 1;have iF:=aa ta.out 2;have gF:=aa ta.out 3;have fF:=aa ta.out 4;go_wp2_with (first|((with_reducible refine zb (f:=93) rfl ?_);refine Pc (some 13) rfl rfl Try.func93 (by kernel_rfl) rfl #[.agg #[.slice qb Ma.length mb,.int .i64 La,.int .i64 Na,.slice none 0 0]] rfl (by (try simp only [List.map_toArray,List.map_cons,List.map_nil]);first|done|rfl|(simp only [List.length_drop,List.length_take];rfl)) ?_;(refine (Kg.calls _ _ Ma La Na _ _ ([]:List (jz)) false _ ?Fc ?Ec ?Wd ?Vd A4.out).mono ?_);(case Fc=>repeat (first|exact (Kd.Nb Ke.out HB.out)|(with_reducible refine Kd.Ub ?_ _)|(with_reducible refine Kd.Tb ?_ _)|(with_reducible refine Kd.mc ?_)));(case Ec=>exact Ve.out);(case Wd=>exact Kd.YN _ _);(case Vd=>exact Nat.le_refl _);rintro e aD ⟨rfl,hb⟩;refine ⟨_,rfl,?_⟩;have Eb:=ga.mk (Wa (g:=za) (o:=.cells #[.slice qb Ma.length mb,.int .i64 La,.int .i64 Na,.int .i64 Ka,.slice Lb Fa.length Fb] 45 (0,0)) (by (with_reducible repeat (first|refine Ca ?_ _|refine Ea ?_|refine Da ?_ _));exact ta.out) hb);have Ib:=ga.mk (Qa (by repeat (first|(with_reducible first|exact HB.out|apply oa|apply ia|apply qa|refine ua ?_ Sa.out)|exact HB.out)) hb);clear ta HB;have ta:=Eb;have HB:=Ib;clear Eb Ib;(try clear hb);(try clear Qj);(try clear hk);(try clear hi)))
   go_meet
   case rel=>exact ⟨_,(true),(by first|rfl|(simp;done)|(simp [*];done)),H',⟨by first|omega|exact Nat.le_refl _⟩,⟨by (with_reducible repeat (first|refine Ca ?_ _|refine Ea ?_|refine Da ?_ _));exact ta.out⟩,⟨by repeat (first|(with_reducible first|exact HB.out|apply oa|apply ia|apply qa|refine ua ?_ Sa.out)|exact HB.out)⟩⟩
 case rest =>
  clear V7
  try clear p2
  try clear c5
  try clear c7
  try clear c9
  try clear gy
  try clear fy
  try clear ey
  try clear cy
  try clear ay
  try clear oq
  try clear mq
  try clear lq
  try clear jq
  try clear iq
  try clear Mr
  try clear Lr
  try clear Kr
  try clear Jr
  try clear Ir
  try clear mG
  try clear lG
  try clear kG
  try clear jG
  try clear iG
  try clear Wn
  try clear Vn
  try clear Un
  try clear Tn
  try clear Sn
  try clear Nx
  try clear Mx
  try clear Lx
  try clear Kx
  try clear Jx
  try clear Zp
  try clear Yp
  try clear Xp
  try clear Wp
  try clear Vp
  try clear Br
  try clear vr
  try clear ur
  try clear tr
  try clear sr
  try clear kF
  try clear jF
  try clear iF
  try clear gF
  try clear fF
  try clear Rn
  try clear Qn
  try clear Pn
  try clear Nn
  try clear Mn
  obtain ⟨kq,kL,rfl,HA,HJ1,ta,HB⟩:=hcut;cases kq with
  | zero=>exact absurd HA.out (by simp [Yb.j0])
  | succ kj1 =>
   have H:=HA.out;clear HA;simp only [Yb.j0] at H
   by_cases Xu:kL=true
   ·subst Xu;have H1:(some false)=some r:=by rw [if_pos rfl] at H;exact H
    clear H;have H:=H1;clear H1;obtain rfl:=Option.some.inj H;go_wp2;go_ret;exact ⟨by first|rfl|(simp [Pa,Oa] <;> rfl)|(simp [*,Pa,Oa] <;> rfl),by repeat (first|(with_reducible first|exact HB.out|apply oa|apply ia|apply qa|refine ua ?_ Sa.out)|exact HB.out)⟩
   ·replace Xu:=Bool.eq_false_iff.mpr Xu;subst Xu;have H1:(Yb.l0 kj1 0 Fa (Fa.length:Int) 0 Ma La Na Ka Fa)=some r:=by rw [if_neg (show ¬ (false=true) by decide)] at H;exact H
    clear H;have H:=H1;clear H1;have H':=ga.mk H;clear H;have Vu:wc.cell? ⟨za,0,none⟩=some (.slice qb Ma.length mb):=(ja ta.out 0).trans rfl;have Uu:wc.cell? ⟨za,1,none⟩=some (.int .i64 La):=(ja ta.out 1).trans rfl;have Tu:wc.cell? ⟨za,2,none⟩=some (.int .i64 Na):=(ja ta.out 2).trans rfl;have Su:wc.cell? ⟨za,3,none⟩=some (.int .i64 Ka):=(ja ta.out 3).trans rfl;have Ru:wc.cell? ⟨za,4,none⟩=some (.slice Lb Fa.length Fb):=(ja ta.out 4).trans rfl;have Gu:=aa ta.out 0;have Fu:=aa ta.out 1;have Eu:=aa ta.out 2;have Du:=aa ta.out 3;have Cu:=aa ta.out 4;go_wp2
    go_loopg [3,33] kj1 (fun kq v3 v33 w'=>∃ (Rj:Int) (ie:Int),v3 = .int .i64 Rj∧v33 = .int .i64 ie∧ga (Yb.l0 kq Rj Fa (Fa.length:Int) ie Ma La Na Ka Fa=some r)∧ga (kq ≤ kj1)∧ga (w'.heap[za]? = some (.cells #[(.slice qb Ma.length mb),.int .i64 La,.int .i64 Na,.int .i64 Ka,(.slice Lb Fa.length Fb)] 45 (0,0)))∧ga (Below w.heap.size w w'))
    case atStart=>exact ⟨(0),(0),(by first|rfl|(simp;done)|(simp [*];done)),(by first|rfl|(simp;done)|(simp [*];done)),H',⟨Nat.le_refl _⟩,⟨by (with_reducible repeat (first|refine Ca ?_ _|refine Ea ?_|refine Da ?_ _));exact ta.out⟩,⟨by repeat (first|(with_reducible first|exact HB.out|apply oa|apply ia|apply qa|refine ua ?_ Sa.out)|exact HB.out)⟩⟩
    case round =>
     clear H'
     try clear c1
     try clear p2
     try clear c5
     try clear c7
     try clear c9
     try clear Xu
     try clear gy
     try clear fy
     try clear ey
     try clear cy
     try clear ay
     try clear oq
     try clear mq
     try clear lq
     try clear jq
     try clear iq
     try clear Mr
     try clear Lr
     try clear Kr
     try clear Jr
     try clear Ir
     try clear mG
     try clear lG
     try clear kG
     try clear jG
     try clear iG
     try clear Vu
     try clear Uu
     try clear Tu
     try clear Su
     try clear Ru
     try clear Wn
     try clear Vn
     try clear Un
     try clear Tn
     try clear Sn
     try clear Nx
     try clear Mx
     try clear Lx
     try clear Kx
     try clear Jx
     try clear Zp
     try clear Yp
     try clear Xp
     try clear Wp
     try clear Vp
     try clear Br
     try clear vr
     try clear ur
     try clear tr
     try clear sr
     try clear kF
     try clear jF
     try clear iF
     try clear gF
     try clear fF
     try clear Gu
     try clear Fu
     try clear Eu
     try clear Du
     try clear Cu
     try clear Rn
     try clear Qn
     try clear Pn
     try clear Nn
     try clear Mn
     try clear p2
     (try clear HA);(try clear Pj);(try clear ta);(try clear HB);obtain ⟨Rj,ie,rfl,rfl,HA,Pj,ta,HB⟩:=hrel;cases gk with
     | zero=>exact absurd HA.out (by simp [Yb.l0])
     | succ k2 =>
      have H:=HA.out;clear HA;simp only [Yb.l0] at H
      by_cases xp:ie < (Fa.length:Int)
      ·rw [if_pos xp] at H;have Iv:decide (ie < (Fa.length:Int))=true:=decide_eq_true xp;clear xp
       by_cases Jq:0 ≤ ie
       ·rw [if_pos Jq] at H;have wD:decide (0 ≤ ie)=true:=decide_eq_true Jq;clear Jq
        by_cases qt:ie < (Fa.length:Int)
        ·rw [if_pos qt] at H;have vD:decide (ie < (Fa.length:Int))=true:=decide_eq_true qt;clear qt;replace H:=Option.bind_eq_some_iff.mp H;obtain ⟨t107,OS,H⟩:=H;replace H:(if t107=true then (Yb.l0 k2 (wrap64 (Rj + (((Ta Fa ie).f0).length:Int))) Fa (Fa.length:Int) (wrap64 (ie + 1)) Ma La Na Ka Fa) else (some false))=some r:=H;have JZ:=ga.mk OS;clear OS
         by_cases Hv:t107=true
         ·subst Hv;have H1:(Yb.l0 k2 (wrap64 (Rj + (((Ta Fa ie).f0).length:Int))) Fa (Fa.length:Int) (wrap64 (ie + 1)) Ma La Na Ka Fa)=some r:=by rw [if_pos rfl] at H;exact H
          clear H;have H:=H1;clear H1;have H':=ga.mk H;clear H;have RJ:0 ≤ (ie:Int):=of_decide_eq_true (by first|(with_reducible assumption)|assumption);have NJ:ie < (Fa.length:Int):=of_decide_eq_true (by first|(with_reducible assumption)|assumption);obtain ⟨Qq,Lm,Im,Q4,Kw,Jw,Iw,Hw,Gw,ox,xx⟩:=Sk kg.out ie RJ NJ;cases Q4;replace Kw:=Ra HB.out Kw;replace Jw:=Ra HB.out Jw;replace Iw:=Ra HB.out Iw;replace Hw:=Ra HB.out Hw;replace Gw:=Ra HB.out Gw;have SG:=ga.mk xx;have ZG:=ga.mk ox;clear xx ox;replace RJ:=eq_true RJ;replace NJ:=eq_true NJ;go_wp2_with (first|((with_reducible refine Ab (N:=5) rfl ?_);(try (refine Me (by rfl) ?_;dsimp only));refine Kb ?hg (N:=5) ?hd (cs:=#[.slice none 0 0,.int .i64 0,.int .i64 0,.int .i64 0,.int .i64 0]) (t:=83) ?hr ?_;(case hd=>rfl);(case hg=>rfl);(case hr=>first|(go_simp;done)|(go_simp;rfl));intro zk hg AP Wb hb;have Eb:=ga.mk (Wa (g:=za) (o:=.cells #[.slice qb Ma.length mb,.int .i64 La,.int .i64 Na,.int .i64 Ka,.slice (some Qq) Fa.length Fb] 45 (0,0)) (by (with_reducible repeat (first|refine Ca ?_ _|refine Ea ?_|refine Da ?_ _));exact ta.out) hb);have Ib:=ga.mk (Qa (by repeat (first|(with_reducible first|exact HB.out|apply oa|apply ia|apply qa|refine ua ?_ Sa.out)|exact HB.out)) hb);have Sb:=ga.mk (Wb);have yc:=ga.mk ((by rw [hg];exact (Ja (by repeat (first|(with_reducible first|exact HB.out|apply oa|apply ia|apply qa|refine ua ?_ Sa.out)|exact HB.out))):w.heap.size ≤ zk));have Ee:=ga.mk ((by rw [hg];exact (Ja (by repeat (first|(with_reducible first|exact HB.out|apply oa|apply ia|apply qa|refine ua ?_ Sa.out)|exact HB.out))):w.heap.size ≤ zk));have mg:=ga.mk ((by rw [hg];exact Nat.ne_of_lt (Vc (g:=za) (o:=.cells #[.slice qb Ma.length mb,.int .i64 La,.int .i64 Na,.int .i64 Ka,.slice (some Qq) Fa.length Fb] 45 (0,0)) (by (with_reducible repeat (first|refine Ca ?_ _|refine Ea ?_|refine Da ?_ _));exact ta.out)):za ≠ zk));have di:=ga.mk ((by rw [hg];exact Nat.ne_of_gt (Vc (g:=za) (o:=.cells #[.slice qb Ma.length mb,.int .i64 La,.int .i64 Na,.int .i64 Ka,.slice (some Qq) Fa.length Fb] 45 (0,0)) (by (with_reducible repeat (first|refine Ca ?_ _|refine Ea ?_|refine Da ?_ _));exact ta.out)):zk ≠ za));clear ta HB;have ta:=Eb;have HB:=Ib;have Qi:=Sb;have Qae:=yc;have au:=Ee;have Hh:=mg;have mz:=di;clear Eb Ib Sb yc Ee mg di hb Wb hg;have B9:=mz.out;have e9:=Hh.out;have Lu:AP.cell? ⟨zk,0,none⟩=some (.slice none 0 0):=(ja Qi.out 0).trans rfl;have Ku:AP.cell? ⟨zk,1,none⟩=some (.int .i64 0):=(ja Qi.out 1).trans rfl;have Ju:AP.cell? ⟨zk,2,none⟩=some (.int .i64 0):=(ja Qi.out 2).trans rfl;have Iu:AP.cell? ⟨zk,3,none⟩=some (.int .i64 0):=(ja Qi.out 3).trans rfl;have Hu:AP.cell? ⟨zk,4,none⟩=some (.int .i64 0):=(ja Qi.out 4).trans rfl;have wu:=aa Qi.out 0;have vu:=aa Qi.out 1;have uu:=aa Qi.out 2;have tu:=aa Qi.out 3;have su:=aa Qi.out 4;have TA:AP.cell? ⟨za,0,none⟩=some (.slice qb Ma.length mb):=(ja ta.out 0).trans rfl;have SA:AP.cell? ⟨za,1,none⟩=some (.int .i64 La):=(ja ta.out 1).trans rfl;have QA:AP.cell? ⟨za,2,none⟩=some (.int .i64 Na):=(ja ta.out 2).trans rfl;have PA:AP.cell? ⟨za,3,none⟩=some (.int .i64 Ka):=(ja ta.out 3).trans rfl;have OA:AP.cell? ⟨za,4,none⟩=some (.slice (some Qq) Fa.length Fb):=(ja ta.out 4).trans rfl;have xA:=aa ta.out 0;have vA:=aa ta.out 1;have uA:=aa ta.out 2;have tA:=aa ta.out 3;have sA:=aa ta.out 4)|((with_reducible refine zb (f:=104) rfl ?_);refine Pc (some 44) rfl rfl Try.func104 (by kernel_rfl) rfl #[.agg #[.slice qb Ma.length mb,.int .i64 La,.int .i64 Na,.int .i64 Ka,.slice (some Qq) Fa.length Fb],.agg #[.slice Lm ((Ta Fa ie).f0).length Im,.int .i64 ((Ta Fa ie).f1),.int .i64 ((Ta Fa ie).f2),.int .i64 ((Ta Fa ie).f3),.int .i64 ((Ta Fa ie).f4)]] rfl (by (try simp only [List.map_toArray,List.map_cons,List.map_nil]);first|done|rfl|(simp only [List.length_drop,List.length_take];rfl)) ?_;(with_reducible refine (Xi.calls _ _ Ma La Na Ka _ _ Fa _ _ ((Ta Fa ie).f0) ((Ta Fa ie).f1) ((Ta Fa ie).f2) ((Ta Fa ie).f3) ((Ta Fa ie).f4) true _ ?Fc ?Ec ?Wd ?Vd ?xw ?vw JZ.out).mono ?_);(case Fc=>exact Kd.Nb Ke.out (by repeat (first|(with_reducible first|exact HB.out|apply oa|apply ia|apply qa|refine ua ?_ Sa.out|refine ua ?_ au.out)|exact HB.out)));(case Ec=>exact Ve.out);(case Wd=>exact Kd.Nb kg.out (by repeat (first|(with_reducible first|exact HB.out|apply oa|apply ia|apply qa|refine ua ?_ Sa.out|refine ua ?_ au.out)|exact HB.out)));(case Vd=>exact Tg.out);(case xw=>exact Kd.Nb SG.out (by repeat (first|(with_reducible first|exact HB.out|apply oa|apply ia|apply qa|refine ua ?_ Sa.out|refine ua ?_ au.out)|exact HB.out)));(case vw=>exact ZG.out);rintro e oJ ⟨rfl,hb⟩;refine ⟨_,rfl,?_⟩;have Eb:=ga.mk (Wa (g:=za) (o:=.cells #[.slice qb Ma.length mb,.int .i64 La,.int .i64 Na,.int .i64 Ka,.slice (some Qq) Fa.length Fb] 45 (0,0)) (by (with_reducible repeat (first|refine Ca ?_ _|refine Ea ?_|refine Da ?_ _));refine ef ?_ Hh.out _;(with_reducible repeat (first|refine Ca ?_ _|refine Ea ?_|refine Da ?_ _));refine ef ?_ Hh.out _;(with_reducible repeat (first|refine Ca ?_ _|refine Ea ?_|refine Da ?_ _));refine ef ?_ Hh.out _;(with_reducible repeat (first|refine Ca ?_ _|refine Ea ?_|refine Da ?_ _));refine ef ?_ Hh.out _;(with_reducible repeat (first|refine Ca ?_ _|refine Ea ?_|refine Da ?_ _));refine ef ?_ Hh.out _;(with_reducible repeat (first|refine Ca ?_ _|refine Ea ?_|refine Da ?_ _));exact ta.out) hb);have Ib:=ga.mk (Wa (g:=zk) (o:=.cells #[.slice Lm ((Ta Fa ie).f0).length Im,.int .i64 ((Ta Fa ie).f1),.int .i64 ((Ta Fa ie).f2),.int .i64 ((Ta Fa ie).f3),.int .i64 ((Ta Fa ie).f4)] 83 (0,0)) (by (with_reducible repeat (first|refine Ca ?_ _|refine Ea ?_|refine Da ?_ _));refine Ef (cs:=#[.slice Lm ((Ta Fa ie).f0).length Im,.int .i64 ((Ta Fa ie).f1),.int .i64 ((Ta Fa ie).f2),.int .i64 ((Ta Fa ie).f3),.int .i64 0]) ?_ 4 _ rfl;(with_reducible repeat (first|refine Ca ?_ _|refine Ea ?_|refine Da ?_ _));refine Ef (cs:=#[.slice Lm ((Ta Fa ie).f0).length Im,.int .i64 ((Ta Fa ie).f1),.int .i64 ((Ta Fa ie).f2),.int .i64 0,.int .i64 0]) ?_ 3 _ rfl;(with_reducible repeat (first|refine Ca ?_ _|refine Ea ?_|refine Da ?_ _));refine Ef (cs:=#[.slice Lm ((Ta Fa ie).f0).length Im,.int .i64 ((Ta Fa ie).f1),.int .i64 0,.int .i64 0,.int .i64 0]) ?_ 2 _ rfl;(with_reducible repeat (first|refine Ca ?_ _|refine Ea ?_|refine Da ?_ _));refine Ef (cs:=#[.slice Lm ((Ta Fa ie).f0).length Im,.int .i64 0,.int .i64 0,.int .i64 0,.int .i64 0]) ?_ 1 _ rfl;(with_reducible repeat (first|refine Ca ?_ _|refine Ea ?_|refine Da ?_ _));refine Ef (cs:=#[.slice none 0 0,.int .i64 0,.int .i64 0,.int .i64 0,.int .i64 0]) ?_ 0 _ rfl;(with_reducible repeat (first|refine Ca ?_ _|refine Ea ?_|refine Da ?_ _));exact Qi.out) hb);have Sb:=ga.mk (Qa (by repeat (first|(with_reducible first|exact HB.out|apply oa|apply ia|apply qa|refine ua ?_ Sa.out|refine ua ?_ au.out)|exact HB.out)) hb);clear ta Qi HB;have ta:=Eb;have Qi:=Ib;have HB:=Sb;clear Eb Ib Sb;(try clear hb);(try clear Qj);(try clear hk);(try clear hi)))
          go_roundg k2
          case measure=>have:=HJ1.out;have:=Pj.out;omega
          case rel=>exact ⟨(wrap64 (Rj + (((Ta Fa ie).f0).length:Int))),(wrap64 (ie + 1)),(by first|rfl|(simp;done)|(simp [*];done)),(by first|rfl|(simp;done)|(simp [*];done)),H',⟨by have:=HJ1.out;have:=Pj.out;omega⟩,⟨by (with_reducible repeat (first|refine Ca ?_ _|refine Ea ?_|refine Da ?_ _));exact ta.out⟩,⟨by repeat (first|(with_reducible first|exact HB.out|apply oa|apply ia|apply qa|refine ua ?_ Sa.out|refine ua ?_ au.out)|exact HB.out)⟩⟩
         ·replace Hv:=Bool.eq_false_iff.mpr Hv;subst Hv;have H1:(some false)=some r:=by rw [if_neg (show ¬ (false=true) by decide)] at H;exact H
          clear H;have H:=H1;clear H1;obtain rfl:=Option.some.inj H;have RJ:0 ≤ (ie:Int):=of_decide_eq_true (by first|(with_reducible assumption)|assumption);have NJ:ie < (Fa.length:Int):=of_decide_eq_true (by first|(with_reducible assumption)|assumption);obtain ⟨Qq,Lm,Im,Q4,Kw,Jw,Iw,Hw,Gw,ox,xx⟩:=Sk kg.out ie RJ NJ;cases Q4;replace Kw:=Ra HB.out Kw;replace Jw:=Ra HB.out Jw;replace Iw:=Ra HB.out Iw;replace Hw:=Ra HB.out Hw;replace Gw:=Ra HB.out Gw;have SG:=ga.mk xx;have ZG:=ga.mk ox;clear xx ox;replace RJ:=eq_true RJ;replace NJ:=eq_true NJ;go_wp2_with (first|((with_reducible refine Ab (N:=5) rfl ?_);(try (refine Me (by rfl) ?_;dsimp only));refine Kb ?hg (N:=5) ?hd (cs:=#[.slice none 0 0,.int .i64 0,.int .i64 0,.int .i64 0,.int .i64 0]) (t:=83) ?hr ?_;(case hd=>rfl);(case hg=>rfl);(case hr=>first|(go_simp;done)|(go_simp;rfl));intro zk hg nJ Wb hb;have Eb:=ga.mk (Wa (g:=za) (o:=.cells #[.slice qb Ma.length mb,.int .i64 La,.int .i64 Na,.int .i64 Ka,.slice (some Qq) Fa.length Fb] 45 (0,0)) (by (with_reducible repeat (first|refine Ca ?_ _|refine Ea ?_|refine Da ?_ _));exact ta.out) hb);have Ib:=ga.mk (Qa (by repeat (first|(with_reducible first|exact HB.out|apply oa|apply ia|apply qa|refine ua ?_ Sa.out)|exact HB.out)) hb);have Sb:=ga.mk (Wb);have yc:=ga.mk ((by rw [hg];exact (Ja (by repeat (first|(with_reducible first|exact HB.out|apply oa|apply ia|apply qa|refine ua ?_ Sa.out)|exact HB.out))):w.heap.size ≤ zk));have Ee:=ga.mk ((by rw [hg];exact (Ja (by repeat (first|(with_reducible first|exact HB.out|apply oa|apply ia|apply qa|refine ua ?_ Sa.out)|exact HB.out))):w.heap.size ≤ zk));have mg:=ga.mk ((by rw [hg];exact Nat.ne_of_lt (Vc (g:=za) (o:=.cells #[.slice qb Ma.length mb,.int .i64 La,.int .i64 Na,.int .i64 Ka,.slice (some Qq) Fa.length Fb] 45 (0,0)) (by (with_reducible repeat (first|refine Ca ?_ _|refine Ea ?_|refine Da ?_ _));exact ta.out)):za ≠ zk));have di:=ga.mk ((by rw [hg];exact Nat.ne_of_gt (Vc (g:=za) (o:=.cells #[.slice qb Ma.length mb,.int .i64 La,.int .i64 Na,.int .i64 Ka,.slice (some Qq) Fa.length Fb] 45 (0,0)) (by (with_reducible repeat (first|refine Ca ?_ _|refine Ea ?_|refine Da ?_ _));exact ta.out)):zk ≠ za));clear ta HB;have ta:=Eb;have HB:=Ib;have Qi:=Sb;have Qae:=yc;have au:=Ee;have Hh:=mg;have mz:=di;clear Eb Ib Sb yc Ee mg di hb Wb hg;have Dat:=mz.out;have Oas:=Hh.out;have IA:nJ.cell? ⟨zk,0,none⟩=some (.slice none 0 0):=(ja Qi.out 0).trans rfl;have GA:nJ.cell? ⟨zk,1,none⟩=some (.int .i64 0):=(ja Qi.out 1).trans rfl;have FA:nJ.cell? ⟨zk,2,none⟩=some (.int .i64 0):=(ja Qi.out 2).trans rfl;have EA:nJ.cell? ⟨zk,3,none⟩=some (.int .i64 0):=(ja Qi.out 3).trans rfl;have DA:nJ.cell? ⟨zk,4,none⟩=some (.int .i64 0):=(ja Qi.out 4).trans rfl;have kA:=aa Qi.out 0;have jA:=aa Qi.out 1;have iA:=aa Qi.out 2;have gA:=aa Qi.out 3;have fA:=aa Qi.out 4;have VF:nJ.cell? ⟨za,0,none⟩=some (.slice qb Ma.length mb):=(ja ta.out 0).trans rfl;have UF:nJ.cell? ⟨za,1,none⟩=some (.int .i64 La):=(ja ta.out 1).trans rfl;have SF:nJ.cell? ⟨za,2,none⟩=some (.int .i64 Na):=(ja ta.out 2).trans rfl;have RF:nJ.cell? ⟨za,3,none⟩=some (.int .i64 Ka):=(ja ta.out 3).trans rfl;have QF:nJ.cell? ⟨za,4,none⟩=some (.slice (some Qq) Fa.length Fb):=(ja ta.out 4).trans rfl;have SE:=aa ta.out 0;have RE:=aa ta.out 1;have QE:=aa ta.out 2;have PE:=aa ta.out 3;have OE:=aa ta.out 4)|((with_reducible refine zb (f:=104) rfl ?_);refine Pc (some 44) rfl rfl Try.func104 (by kernel_rfl) rfl #[.agg #[.slice qb Ma.length mb,.int .i64 La,.int .i64 Na,.int .i64 Ka,.slice (some Qq) Fa.length Fb],.agg #[.slice Lm ((Ta Fa ie).f0).length Im,.int .i64 ((Ta Fa ie).f1),.int .i64 ((Ta Fa ie).f2),.int .i64 ((Ta Fa ie).f3),.int .i64 ((Ta Fa ie).f4)]] rfl (by (try simp only [List.map_toArray,List.map_cons,List.map_nil]);first|done|rfl|(simp only [List.length_drop,List.length_take];rfl)) ?_;(with_reducible refine (Xi.calls _ _ Ma La Na Ka _ _ Fa _ _ ((Ta Fa ie).f0) ((Ta Fa ie).f1) ((Ta Fa ie).f2) ((Ta Fa ie).f3) ((Ta Fa ie).f4) false _ ?Fc ?Ec ?Wd ?Vd ?xw ?vw JZ.out).mono ?_);(case Fc=>exact Kd.Nb Ke.out (by repeat (first|(with_reducible first|exact HB.out|apply oa|apply ia|apply qa|refine ua ?_ Sa.out|refine ua ?_ au.out)|exact HB.out)));(case Ec=>exact Ve.out);(case Wd=>exact Kd.Nb kg.out (by repeat (first|(with_reducible first|exact HB.out|apply oa|apply ia|apply qa|refine ua ?_ Sa.out|refine ua ?_ au.out)|exact HB.out)));(case Vd=>exact Tg.out);(case xw=>exact Kd.Nb SG.out (by repeat (first|(with_reducible first|exact HB.out|apply oa|apply ia|apply qa|refine ua ?_ Sa.out|refine ua ?_ au.out)|exact HB.out)));(case vw=>exact ZG.out);rintro e nP ⟨rfl,hb⟩;refine ⟨_,rfl,?_⟩;have Eb:=ga.mk (Wa (g:=za) (o:=.cells #[.slice qb Ma.length mb,.int .i64 La,.int .i64 Na,.int .i64 Ka,.slice (some Qq) Fa.length Fb] 45 (0,0)) (by (with_reducible repeat (first|refine Ca ?_ _|refine Ea ?_|refine Da ?_ _));refine ef ?_ Hh.out _;(with_reducible repeat (first|refine Ca ?_ _|refine Ea ?_|refine Da ?_ _));refine ef ?_ Hh.out _;(with_reducible repeat (first|refine Ca ?_ _|refine Ea ?_|refine Da ?_ _));refine ef ?_ Hh.out _;(with_reducible repeat (first|refine Ca ?_ _|refine Ea ?_|refine Da ?_ _));refine ef ?_ Hh.out _;(with_reducible repeat (first|refine Ca ?_ _|refine Ea ?_|refine Da ?_ _));refine ef ?_ Hh.out _;(with_reducible repeat (first|refine Ca ?_ _|refine Ea ?_|refine Da ?_ _));exact ta.out) hb);have Ib:=ga.mk (Wa (g:=zk) (o:=.cells #[.slice Lm ((Ta Fa ie).f0).length Im,.int .i64 ((Ta Fa ie).f1),.int .i64 ((Ta Fa ie).f2),.int .i64 ((Ta Fa ie).f3),.int .i64 ((Ta Fa ie).f4)] 83 (0,0)) (by (with_reducible repeat (first|refine Ca ?_ _|refine Ea ?_|refine Da ?_ _));refine Ef (cs:=#[.slice Lm ((Ta Fa ie).f0).length Im,.int .i64 ((Ta Fa ie).f1),.int .i64 ((Ta Fa ie).f2),.int .i64 ((Ta Fa ie).f3),.int .i64 0]) ?_ 4 _ rfl;(with_reducible repeat (first|refine Ca ?_ _|refine Ea ?_|refine Da ?_ _));refine Ef (cs:=#[.slice Lm ((Ta Fa ie).f0).length Im,.int .i64 ((Ta Fa ie).f1),.int .i64 ((Ta Fa ie).f2),.int .i64 0,.int .i64 0]) ?_ 3 _ rfl;(with_reducible repeat (first|refine Ca ?_ _|refine Ea ?_|refine Da ?_ _));refine Ef (cs:=#[.slice Lm ((Ta Fa ie).f0).length Im,.int .i64 ((Ta Fa ie).f1),.int .i64 0,.int .i64 0,.int .i64 0]) ?_ 2 _ rfl;(with_reducible repeat (first|refine Ca ?_ _|refine Ea ?_|refine Da ?_ _));refine Ef (cs:=#[.slice Lm ((Ta Fa ie).f0).length Im,.int .i64 0,.int .i64 0,.int .i64 0,.int .i64 0]) ?_ 1 _ rfl;(with_reducible repeat (first|refine Ca ?_ _|refine Ea ?_|refine Da ?_ _));refine Ef (cs:=#[.slice none 0 0,.int .i64 0,.int .i64 0,.int .i64 0,.int .i64 0]) ?_ 0 _ rfl;(with_reducible repeat (first|refine Ca ?_ _|refine Ea ?_|refine Da ?_ _));exact Qi.out) hb);have Sb:=ga.mk (Qa (by repeat (first|(with_reducible first|exact HB.out|apply oa|apply ia|apply qa|refine ua ?_ Sa.out|refine ua ?_ au.out)|exact HB.out)) hb);clear ta Qi HB;have ta:=Eb;have Qi:=Ib;have HB:=Sb;clear Eb Ib Sb;(try clear hb);(try clear Qj);(try clear hk);(try clear hi)));go_ret;exact ⟨by first|rfl|(simp [Pa,Oa] <;> rfl)|(simp [*,Pa,Oa] <;> rfl),by repeat (first|(with_reducible first|exact HB.out|apply oa|apply ia|apply qa|refine ua ?_ Sa.out|refine ua ?_ au.out)|exact HB.out)⟩
        ·rw [if_neg qt] at H;exact absurd H (by simp)
       ·rw [if_neg Jq] at H;exact absurd H (by simp)
      ·rw [if_neg xp] at H;have Iv:decide (ie < (Fa.length:Int))=false:=decide_eq_false xp;clear xp;obtain rfl:=Option.some.inj H;go_wp2;go_ret;exact ⟨by first|rfl|(simp [Pa,Oa] <;> rfl)|(simp [*,Pa,Oa] <;> rfl),by repeat (first|(with_reducible first|exact HB.out|apply oa|apply ia|apply qa|refine ua ?_ Sa.out)|exact HB.out)⟩
def wg.f (Ma:List (jd)) (La:Int) (Na:Int) (Ka:Int) (oc:Int):Option (List Int):=if La=0 then (some (([Ka]:List Int))) else (if La=1 then (some (([Ka,oc]:List Int))) else (some ([]:List Int)))
theorem wg.calls (qb:Option Addr) (mb:Nat) (Ma:List (jd)) (La:Int) (Na:Int) (Ka:Int) (oc:Int) (r:List Int) (w:World) (Ae:Kd.C Zf w qb Ma.length Ma) (we:Ma.length ≤ mb) (h:wg.f Ma La Na Ka oc=some r) :
  Calls Try.prog 75 #[.agg #[.slice qb Ma.length mb,.int .i64 La,.int .i64 Na,.int .i64 Ka,.int .i64 oc]] w fun e w'=>∃ Xn:Value,e = .returned (Xn)∧Kd.R (Kd.int .i64) 3 w' w.heap.size (fun _=>True) Xn r∧Below w.heap.size w w':=by
 have BB:=Try.underlying83;have Ke:=ga.mk Ae;have Ve:=ga.mk we;clear Ae we;have HB:=ga.mk (Below.refl w.heap.size w);have H:(if La=0 then (some (([Ka]:List Int))) else (if La=1 then (some (([Ka,oc]:List Int))) else (some ([]:List Int))))=some r:=h;clear h
 by_cases c2:La=0
 ·rw [if_pos c2] at H;have js:(La == 0)=true:=beq_iff_eq.mpr c2;have tv:(La != 0)=false:=bne_eq_false_iff_eq.mpr c2;clear c2;obtain ⟨Xd,lf⟩:∃ y_:List Int,y_=(([Ka]:List Int)):=⟨_,rfl⟩;replace H:(some Xd)=some r:=by first|(rw [lf];with_reducible exact H)|(have Md:=(Option.bind_some _ _).symm.trans H;rw [lf];with_reducible exact Md)|(have Md:=(Option.bind_some _ _).symm.trans H;with_reducible exact Md)|with_reducible exact H|(rw [lf];exact H)|exact H
  have xh:=ga.mk lf;clear lf;obtain rfl:=Option.some.inj H;go_enter Try.func75,Try.ntmps75;go_wp2_with (first|((with_reducible refine Ab (N:=1) rfl ?_);refine Kb ?hg (N:=1) ?hd (cs:=#[.slice qb Ma.length mb,.int .i64 La,.int .i64 Na,.int .i64 Ka,.int .i64 oc]) (t:=83) ?hr ?_;(case hd=>rfl);(case hg=>rfl);(case hr=>first|(go_simp;done)|(go_simp;rfl));intro za hg w3 Wb hb;have Eb:=ga.mk (Qa (by repeat (first|(with_reducible first|exact HB.out|apply oa|apply ia|apply qa)|exact HB.out)) hb);have Ib:=ga.mk (Wb);have Sb:=ga.mk ((by rw [hg];exact (Ja (by repeat (first|(with_reducible first|exact HB.out|apply oa|apply ia|apply qa)|exact HB.out))):w.heap.size ≤ za));have yc:=ga.mk ((by rw [hg];exact (Ja (by repeat (first|(with_reducible first|exact HB.out|apply oa|apply ia|apply qa)|exact HB.out))):w.heap.size ≤ za));clear HB;have HB:=Eb;have ta:=Ib;have Be:=Sb;have Sa:=yc;clear Eb Ib Sb yc hb Wb hg;have Q3:w3.cell? ⟨za,0,none⟩=some (.slice qb Ma.length mb):=(ja ta.out 0).trans rfl;have O3:w3.cell? ⟨za,1,none⟩=some (.int .i64 La):=(ja ta.out 1).trans rfl;have L3:w3.cell? ⟨za,2,none⟩=some (.int .i64 Na):=(ja ta.out 2).trans rfl;have K3:w3.cell? ⟨za,3,none⟩=some (.int .i64 Ka):=(ja ta.out 3).trans rfl;have I3:w3.cell? ⟨za,4,none⟩=some (.int .i64 oc):=(ja ta.out 4).trans rfl;have T2:=aa ta.out 0;have O2:=aa ta.out 1;have L2:=aa ta.out 2;have K2:=aa ta.out 3;have I2:=aa ta.out 4)|((with_reducible refine Ab (N:=9) rfl ?_);refine Kd.vk (Kd.int .i64) _ 3 ?hg (N:=9) ?hd (xs:=([Ka]:List Int)) (inner:=[.int .i64 Ka]) (ok:=fun _=>True) (Jh:=fun _=>True) ?hr ?hp (fun _ hk=>hk) trivial (Below.refl _ _) (Nat.le_refl _) (by simp) ?_;(case hd=>rfl);(case hg=>rfl);(case hr=>first|(go_simp;done)|(go_simp;rfl));(case hp=>exact (Sd.one (show Kd.M (Kd.int .i64) _ _ _ Ka [.int .i64 Ka] from rfl) (Sd.none _ _)));intro ji w5 OH hb Ol Re;clear Ol Re;(first|rw [← xh.out] at OH|(simp only [Int.reduceToNat] at OH;rw [← xh.out] at OH));have Eb:=ga.mk (Kd.Fe OH (Ja (by repeat (first|(with_reducible first|exact HB.out|apply oa|apply ia|apply qa|refine ua ?_ Sa.out)|exact HB.out))));have Ib:=ga.mk (Wa (g:=za) (o:=.cells #[.slice qb Ma.length mb,.int .i64 La,.int .i64 Na,.int .i64 Ka,.int .i64 oc] 83 (0,0)) (by (with_reducible repeat (first|refine Ca ?_ _|refine Ea ?_|refine Da ?_ _));exact ta.out) hb);have Sb:=ga.mk (Qa (by repeat (first|(with_reducible first|exact HB.out|apply oa|apply ia|apply qa|refine ua ?_ Sa.out)|exact HB.out)) hb);clear ta HB;have ke:=Eb;have ta:=Ib;have HB:=Sb;clear Eb Ib Sb hb OH));go_ret;exact ⟨_,by first|rfl|(simp [Pa,Oa] <;> rfl)|(simp [*,Pa,Oa] <;> rfl),by (with_reducible repeat (first|apply Kd.Va|apply Kd.Ua|apply Kd.jb));exact ke.out,by repeat (first|(with_reducible first|exact HB.out|apply oa|apply ia|apply qa|refine ua ?_ Sa.out)|exact HB.out)⟩
 ·rw [if_neg c2] at H;have js:(La == 0)=false:=beq_eq_false_iff_ne.mpr c2;have tv:(La != 0)=true:=bne_iff_ne.mpr c2
  by_cases c7:La=1
  ·rw [if_pos c7] at H;have Zr:(La == 1)=true:=beq_iff_eq.mpr c7;have ZB:(La != 1)=false:=bne_eq_false_iff_eq.mpr c7;clear c7;obtain ⟨Le,bh⟩:∃ y_:List Int,y_=(([Ka,oc]:List Int)):=⟨_,rfl⟩;replace H:(some Le)=some r:=by first|(rw [bh];with_reducible exact H)|(have Md:=(Option.bind_some _ _).symm.trans H;rw [bh];with_reducible exact Md)|(have Md:=(Option.bind_some _ _).symm.trans H;with_reducible exact Md)|with_reducible exact H|(rw [bh];exact H)|exact H
   have vq:=ga.mk bh;clear bh;obtain rfl:=Option.some.inj H;go_enter Try.func75,Try.ntmps75;go_wp2_with (first|((with_reducible refine Ab (N:=1) rfl ?_);refine Kb ?hg (N:=1) ?hd (cs:=#[.slice qb Ma.length mb,.int .i64 La,.int .i64 Na,.int .i64 Ka,.int .i64 oc]) (t:=83) ?hr ?_;(case hd=>rfl);(case hg=>rfl);(case hr=>first|(go_simp;done)|(go_simp;rfl));intro za hg w8 Wb hb;have Eb:=ga.mk (Qa (by repeat (first|(with_reducible first|exact HB.out|apply oa|apply ia|apply qa)|exact HB.out)) hb);have Ib:=ga.mk (Wb);have Sb:=ga.mk ((by rw [hg];exact (Ja (by repeat (first|(with_reducible first|exact HB.out|apply oa|apply ia|apply qa)|exact HB.out))):w.heap.size ≤ za));have yc:=ga.mk ((by rw [hg];exact (Ja (by repeat (first|(with_reducible first|exact HB.out|apply oa|apply ia|apply qa)|exact HB.out))):w.heap.size ≤ za));clear HB;have HB:=Eb;have ta:=Ib;have Be:=Sb;have Sa:=yc;clear Eb Ib Sb yc hb Wb hg;have Wn:w8.cell? ⟨za,0,none⟩=some (.slice qb Ma.length mb):=(ja ta.out 0).trans rfl;have Vn:w8.cell? ⟨za,1,none⟩=some (.int .i64 La):=(ja ta.out 1).trans rfl;have Un:w8.cell? ⟨za,2,none⟩=some (.int .i64 Na):=(ja ta.out 2).trans rfl;have Tn:w8.cell? ⟨za,3,none⟩=some (.int .i64 Ka):=(ja ta.out 3).trans rfl;have Sn:w8.cell? ⟨za,4,none⟩=some (.int .i64 oc):=(ja ta.out 4).trans rfl;have Rn:=aa ta.out 0;have Qn:=aa ta.out 1;have Pn:=aa ta.out 2;have Nn:=aa ta.out 3;have Mn:=aa ta.out 4)|((with_reducible refine Ab (N:=16) rfl ?_);refine Kd.vk (Kd.int .i64) _ 3 ?hg (N:=16) ?hd (xs:=([Ka,oc]:List Int)) (inner:=[.int .i64 Ka,.int .i64 oc]) (ok:=fun _=>True) (Jh:=fun _=>True) ?hr ?hp (fun _ hk=>hk) trivial (Below.refl _ _) (Nat.le_refl _) (by simp) ?_;(case hd=>rfl);(case hg=>rfl);(case hr=>first|(go_simp;done)|(go_simp;rfl));(case hp=>exact (Sd.one (show Kd.M (Kd.int .i64) _ _ _ Ka [.int .i64 Ka] from rfl) (Sd.one (show Kd.M (Kd.int .i64) _ _ _ oc [.int .i64 oc] from rfl) (Sd.none _ _))));intro sw Xq Ys hb Ol Re;clear Ol Re;(first|rw [← vq.out] at Ys|(simp only [Int.reduceToNat] at Ys;rw [← vq.out] at Ys));have Eb:=ga.mk (Kd.Fe Ys (Ja (by repeat (first|(with_reducible first|exact HB.out|apply oa|apply ia|apply qa|refine ua ?_ Sa.out)|exact HB.out))));have Ib:=ga.mk (Wa (g:=za) (o:=.cells #[.slice qb Ma.length mb,.int .i64 La,.int .i64 Na,.int .i64 Ka,.int .i64 oc] 83 (0,0)) (by (with_reducible repeat (first|refine Ca ?_ _|refine Ea ?_|refine Da ?_ _));exact ta.out) hb);have Sb:=ga.mk (Qa (by repeat (first|(with_reducible first|exact HB.out|apply oa|apply ia|apply qa|refine ua ?_ Sa.out)|exact HB.out)) hb);clear ta HB;have wm:=Eb;have ta:=Ib;have HB:=Sb;clear Eb Ib Sb hb Ys));go_ret;exact ⟨_,by first|rfl|(simp [Pa,Oa] <;> rfl)|(simp [*,Pa,Oa] <;> rfl),by (with_reducible repeat (first|apply Kd.Va|apply Kd.Ua|apply Kd.jb));exact wm.out,by repeat (first|(with_reducible first|exact HB.out|apply oa|apply ia|apply qa|refine ua ?_ Sa.out)|exact HB.out)⟩
  ·rw [if_neg c7] at H;have Zr:(La == 1)=false:=beq_eq_false_iff_ne.mpr c7;have ZB:(La != 1)=true:=bne_iff_ne.mpr c7;obtain rfl:=Option.some.inj H;go_enter Try.func75,Try.ntmps75;go_wp2_with (first|((with_reducible refine Ab (N:=1) rfl ?_);refine Kb ?hg (N:=1) ?hd (cs:=#[.slice qb Ma.length mb,.int .i64 La,.int .i64 Na,.int .i64 Ka,.int .i64 oc]) (t:=83) ?hr ?_;(case hd=>rfl);(case hg=>rfl);(case hr=>first|(go_simp;done)|(go_simp;rfl));intro za hg uz Wb hb;have Eb:=ga.mk (Qa (by repeat (first|(with_reducible first|exact HB.out|apply oa|apply ia|apply qa)|exact HB.out)) hb);have Ib:=ga.mk (Wb);have Sb:=ga.mk ((by rw [hg];exact (Ja (by repeat (first|(with_reducible first|exact HB.out|apply oa|apply ia|apply qa)|exact HB.out))):w.heap.size ≤ za));have yc:=ga.mk ((by rw [hg];exact (Ja (by repeat (first|(with_reducible first|exact HB.out|apply oa|apply ia|apply qa)|exact HB.out))):w.heap.size ≤ za));clear HB;have HB:=Eb;have ta:=Ib;have Be:=Sb;have Sa:=yc;clear Eb Ib Sb yc hb Wb hg;have Tr:uz.cell? ⟨za,0,none⟩=some (.slice qb Ma.length mb):=(ja ta.out 0).trans rfl;have Sr:uz.cell? ⟨za,1,none⟩=some (.int .i64 La):=(ja ta.out 1).trans rfl;have Qr:uz.cell? ⟨za,2,none⟩=some (.int .i64 Na):=(ja ta.out 2).trans rfl;have Pr:uz.cell? ⟨za,3,none⟩=some (.int .i64 Ka):=(ja ta.out 3).trans rfl;have Nr:uz.cell? ⟨za,4,none⟩=some (.int .i64 oc):=(ja ta.out 4).trans rfl;have Hr:=aa ta.out 0;have Gr:=aa ta.out 1;have Er:=aa ta.out 2;have Dr:=aa ta.out 3;have Cr:=aa ta.out 4));go_ret;exact ⟨_,by first|rfl|(simp [Pa,Oa] <;> rfl)|(simp [*,Pa,Oa] <;> rfl),by first|exact Kd.Hz _ _ _ _ _|exact Kd.cZ _ _ _ _ _|exact Kd.RY _ _ _ _ _|exact Kd.XY _ _ _ _ _|exact Kd.UY _ _ _ _ _,by repeat (first|(with_reducible first|exact HB.out|apply oa|apply ia|apply qa|refine ua ?_ Sa.out)|exact HB.out)⟩
def Ya.l0:Nat→List Int→Int→Int→Option (List Int)
 | 0,_,_,_=>none
 | k + 1,x0,x2,x3=>if x2 < x3 then (if 0 ≤ x3 then (if x3 < (x0.length:Int) then (if 0 ≤ x2 then (if x2 < (x0.length:Int) then (Ya.l0 k ((x0.set (x2:Int).toNat (rd x0 x3)).set (x3:Int).toNat (rd x0 x2)) (wrap64 (x2 + 1)) (wrap64 (x3 - 1))) else (none)) else (none)) else (none)) else (none)) else (some x0)
def Ya.f (k:Nat) (l0:List Int):Option (List Int):=Ya.l0 k l0 0 (wrap64 ((l0.length:Int) - 1))
theorem Ya.Ht:∀ k,(∀ y0 y1 y2,Oi (Ya.l0 k y0 y1 y2) (Ya.l0 (k + 1) y0 y1 y2))
 | 0=>fun _ _ _ r h=>by simp [Ya.l0] at h
 | k + 1=>by
  have BH:=Ya.Ht k
  ·intro y0 y1 y2;unfold Ya.l0
   repeat' first
   | (with_reducible exact BH _ _ _)
   | (with_reducible exact Oi.refl _)
   | (with_reducible exact Oi.none _)
   | (with_reducible refine Oi.ite ?_ ?_)
   | (with_reducible refine Oi.bind ?_ (fun _=>?_))
   | exact BH _ _ _
   | exact Oi.none _
   | refine Oi.ite ?_ ?_
   | refine Oi.bind ?_ (fun _=>?_)
theorem Ya.mono:∀ a0 k,Oi (Ya.f k a0) (Ya.f (k + 1) a0):=by
 intro a0 k;have BH:=Ya.Ht k;unfold Ya.f
 repeat' first
   | (with_reducible exact BH _ _ _)
   | (with_reducible exact Oi.refl _)
   | (with_reducible exact Oi.none _)
   | (with_reducible refine Oi.ite ?_ ?_)
   | (with_reducible refine Oi.bind ?_ (fun _=>?_))
   | exact BH _ _ _
   | exact Oi.none _
   | refine Oi.ite ?_ ?_
   | refine Oi.bind ?_ (fun _=>?_)
def Ya.T3:Bool × List (List Nat × List Nat):=(true,[([],[]),([],[]),([],[]),([],[]),([],[]),([],[]),([4,5],[4,5]),([6],[6]),([],[]),([],[]),([8,9],[8,9]),([10],[10]),([0,1,0,1,4,5,6,7,11],[0,1]),([12,7,0,1,4,5,6,7,11],[7,12]),([2,3,0,1,2,3,4,5,6,7,8,9,10,11,12,13],[2,3]),([14,11,13,0,1,2,3,4,5,6,7,8,9,10,11,12,13],[11,14])])
def Ya.B3:List Nat:=[0,0,0,0,0,0,48,112,0,0,768,1792,4083,8179,16383,32767]
theorem Ya.lan:Em .any (opsOf Try.f107 3)=Ya.T3:=by kernel_rfl
theorem Ya.gad:Yk Ya.T3.2 Ya.B3=true:=by kernel_rfl
theorem Ya.calls (k:Nat) (Vk:Nat→Prop) (Bg:Value) (l0:List Int) (r:List Int) (w0 w:World) (hB:Below w0.heap.size w0 w) (Ri:Kd.R (Kd.int .i64) 3 w w0.heap.size Vk Bg l0) (h:Ya.f k l0=some r) :
  Calls Try.prog 107 #[Bg] w fun e w'=>e = .returned (.tuple #[])∧Kd.R (Kd.int .i64) 3 w' w0.heap.size (fun k_=>(Vk k_ ∨ w.heap.size ≤ k_)) Bg r∧Below w0.heap.size w0 w'∧Kept w w' (fun k_=>Vk k_):=by
 have R7:=ga.mk (show Kd.R (Kd.int .i64) 3 w w0.heap.size (fun k_=>(Vk k_ ∨ w.heap.size ≤ k_)) Bg l0 from Kd.Mc Ri (fun k_ hk=>(.inl hk)));have HK:=ga.mk (Kept.refl w (fun k_=>Vk k_));have HW0:=ga.mk hB.size;have HB:=ga.mk hB;clear hB;have H:(Ya.l0 k l0 0 (wrap64 ((l0.length:Int) - 1)))=some r:=h;clear h;have H':=ga.mk H;clear H;obtain ⟨Ao2,co2,eo2⟩:=Kd.Nd R7.out;subst eo2;go_enter Try.func107,Try.ntmps107;go_wp2
 go_loopg [2,3] k (fun kq v2 v3 w'=>∃ (Yd:List Int) (Vm:Int) (Cc:Int),v2 = .int .i64 Vm∧v3 = .int .i64 Cc∧ga (Ya.l0 kq Yd Vm Cc=some r)∧ga (kq ≤ k)∧ga (Kd.R (Kd.int .i64) 3 w' w0.heap.size (fun k_=>(Vk k_ ∨ w.heap.size ≤ k_)) (.slice Ao2 l0.length co2) Yd)∧ga (Kept w w' (fun k_=>Vk k_))∧ga (Below w0.heap.size w0 w'))
 case atStart=>exact ⟨(l0),(0),(wrap64 ((l0.length:Int) - 1)),(by first|rfl|(simp;done)|(simp [*];done)),(by first|rfl|(simp;done)|(simp [*];done)),H',⟨Nat.le_refl _⟩,⟨by (with_reducible repeat (first|apply Kd.Va|apply Kd.Ua|apply Kd.jb));exact R7.out⟩,⟨by repeat (first|(with_reducible first|exact HK.out|apply Kept.alloc|apply Kept.drewN|apply Kept.drew)|exact HK.out)⟩,⟨by repeat (first|(with_reducible first|exact HB.out|apply oa|apply ia|apply qa)|exact HB.out)⟩⟩
 case round =>
  clear H'
  try clear c1
  try clear p2
  (try clear HA);(try clear uf);(try clear Xe);(try clear HK);(try clear HB);obtain ⟨Yd,Vm,Cc,rfl,rfl,HA,uf,Xe,HK,HB⟩:=hrel;have RH:=(Kd.Jb Xe.out).1;rw [RH] at Xe;(try simp only [RH]);cases gk with
  | zero=>exact absurd HA.out (by simp [Ya.l0])
  | succ k1 =>
   have H:=HA.out;clear HA;simp only [Ya.l0] at H
   by_cases c3:Vm < Cc
   ·rw [if_pos c3] at H;have dh:decide (Vm < Cc)=true:=decide_eq_true c3;clear c3
    by_cases c4:0 ≤ Cc
    ·rw [if_pos c4] at H;have Dk:decide (0 ≤ Cc)=true:=decide_eq_true c4;clear c4
     by_cases c5:Cc < (Yd.length:Int)
     ·rw [if_pos c5] at H;have qn:decide (Cc < (Yd.length:Int))=true:=decide_eq_true c5;clear c5
      by_cases c6:0 ≤ Vm
      ·rw [if_pos c6] at H;have bp:decide (0 ≤ Vm)=true:=decide_eq_true c6;clear c6
       by_cases c7:Vm < (Yd.length:Int)
       ·rw [if_pos c7] at H;have Zr:decide (Vm < (Yd.length:Int))=true:=decide_eq_true c7;clear c7;obtain ⟨zg,en⟩:∃ y_:List Int,y_=(Yd.set (Vm:Int).toNat (rd Yd Cc)):=⟨_,rfl⟩;replace H:(Ya.l0 k1 (zg.set (Cc:Int).toNat (rd Yd Vm)) (wrap64 (Vm + 1)) (wrap64 (Cc - 1)))=some r:=by first|(rw [en];with_reducible exact H)|(have Md:=(Option.bind_some _ _).symm.trans H;rw [en];with_reducible exact Md)|(have Md:=(Option.bind_some _ _).symm.trans H;with_reducible exact Md)|with_reducible exact H|(rw [en];exact H)|exact H
        have GD:=ga.mk en;clear en;obtain ⟨Xf,dn⟩:∃ y_:List Int,y_=(zg.set (Cc:Int).toNat (rd Yd Vm)):=⟨_,rfl⟩;replace H:(Ya.l0 k1 Xf (wrap64 (Vm + 1)) (wrap64 (Cc - 1)))=some r:=by first|(rw [dn];with_reducible exact H)|(have Md:=(Option.bind_some _ _).symm.trans H;rw [dn];with_reducible exact Md)|(have Md:=(Option.bind_some _ _).symm.trans H;with_reducible exact Md)|with_reducible exact H|(rw [dn];exact H)|exact H
        have bJ:=ga.mk dn;clear dn;have H':=ga.mk H;clear H
        try go_wp2
        have Eb:=ga.mk (Kd.jb Xe.out);have Ib:=ga.mk (Kept.drew HK.out);have Sb:=ga.mk (qa HB.out);clear Xe HK HB;have Xe:=Eb;have HK:=Ib;have HB:=Sb;clear Eb Ib Sb;have Nf:0 ≤ (Cc:Int):=of_decide_eq_true (by first|(with_reducible assumption)|assumption);have Mf:Cc < (Yd.length:Int):=of_decide_eq_true (by first|(with_reducible assumption)|assumption);obtain ⟨Ge,Aj,Ud⟩:=Kd.Te (Kd.Jb Xe.out).2.2 Cc Nf Mf;cases Aj;replace Nf:=eq_true Nf;replace Mf:=eq_true Mf;have zj:0 ≤ (Vm:Int):=of_decide_eq_true (by first|(with_reducible assumption)|assumption);have xj:Vm < (Yd.length:Int):=of_decide_eq_true (by first|(with_reducible assumption)|assumption);obtain ⟨qf,Wt,bf⟩:=Kd.Te (Kd.Jb Xe.out).2.2 Vm zj xj;obtain rfl:Ge=qf:=(by injection Wt);replace zj:=eq_true zj;replace xj:=eq_true xj;have p8:0 ≤ (Vm:Int):=of_decide_eq_true (by first|(with_reducible assumption)|assumption);have q8:(Vm:Int) < ((Yd.length:Int):Int):=of_decide_eq_true (by first|(with_reducible assumption)|assumption);obtain ⟨go8,co8,eo8,gb8,gl8,cl8,fT⟩:=Kd.Uk Xe.out (by omega);(first|cases eo8|(injection eo8 with Si nv ov;(first|subst Si|(injection Si with Si;subst Si));subst ov;clear nv));have GB8:=ga.mk gb8;have GG8:=ga.mk fT;clear gb8 gl8 fT;have yZ:=ga.mk (show (Vk go8 ∨ w.heap.size ≤ go8) from (Xe.out.1 _ rfl));(first|simp only [add_plain] at Ud|skip);(first|simp only [add_plain] at bf|skip);obtain ⟨UX,qY⟩:=Kd.Fh 0 Xe.out (Vm:Int) p8 q8;replace p8:=eq_true p8;replace q8:=eq_true q8;have YK:=Kd.sS Xe.out (Vm:Int) (rd Yd Cc);rw [← GD.out] at YK;have UG:=ga.mk YK;clear YK;have p9:0 ≤ (Cc:Int):=of_decide_eq_true (by first|(with_reducible assumption)|assumption);have q9:(Cc:Int) < ((Yd.length:Int):Int):=of_decide_eq_true (by first|(with_reducible assumption)|assumption);obtain ⟨tQ,WQ⟩:=Kd.Fh 0 UG.out (Cc:Int) p9 q9;replace p9:=eq_true p9;replace q9:=eq_true q9;have qC:=Kd.sS UG.out (Cc:Int) (rd Yd Vm);rw [← bJ.out] at qC;have fae:=ga.mk qC;clear qC;refine cl (n:=16) (S:=fun w'=>w'.cell? ⟨go8,(Cc).toNat,none⟩=some (.int .i64 (rd Yd Cc))∧w'.cell? ⟨go8,(Vm).toNat,none⟩=some (.int .i64 (rd Yd Vm))) (ds:=[13,15]) #[false,false,false,false,false,false,false,false,false,false,false,false,false,false,false,false] (by kernel_rfl) rfl rfl ⟨Ud,bf⟩ (fun hHeld=>?_);refine qi Ya.lan Ya.gad (fun Wf Hs=>?_);generalize wr.drew=Xq at Xe HK HB GG8 UG fae qY WQ Ud bf UX tQ hHeld ⊢;refine Bd (i:=0) (N:=some 14) (v:=?_) (a':=?_) #[true,false,false,false,false,false,false,false,false,false,false,false,false,false,false,false] rfl rfl (Lc Wf.out (by kernel_rfl)) (fun _ _ _ h=>h) (Or.inl ⟨by rfl,?_⟩) ?_ ?_;rotate_left
        ·intro w';go_simp;with_reducible rfl
        rotate_left
        ·simp only [Act.put,List.setIfInBounds_toArray,List.set_cons_zero,List.set_cons_succ,fc,ic]
         rfl
        refine Bd (i:=1) (N:=some 15) (v:=?_) (a':=?_) #[true,true,false,false,false,false,false,false,false,false,false,false,false,false,false,false] rfl rfl (Lc Wf.out (by kernel_rfl)) (fun _ _ _ h=>h) (Or.inl ⟨by rfl,?_⟩) ?_ ?_;rotate_left
        ·intro w';go_simp;with_reducible rfl
        rotate_left
        ·simp only [Act.put,List.setIfInBounds_toArray,List.set_cons_zero,List.set_cons_succ,fc,ic]
         rfl
        refine Bd (i:=2) (N:=some 16) (v:=?_) (a':=?_) #[true,true,true,false,false,false,false,false,false,false,false,false,false,false,false,false] rfl rfl (Lc Wf.out (by kernel_rfl)) (fun _ _ _ h=>h) (Or.inl ⟨by rfl,?_⟩) ?_ ?_;rotate_left
        ·intro w';go_simp;with_reducible rfl
        rotate_left
        ·simp only [Act.put,List.setIfInBounds_toArray,List.set_cons_zero,List.set_cons_succ,fc,ic]
         rfl
        refine Bd (i:=3) (N:=some 17) (v:=?_) (a':=?_) #[true,true,true,true,false,false,false,false,false,false,false,false,false,false,false,false] rfl rfl (Lc Wf.out (by kernel_rfl)) (fun _ _ _ h=>h) (Or.inl ⟨by rfl,?_⟩) ?_ ?_;rotate_left
        ·intro w';go_simp;with_reducible rfl
        rotate_left
        ·simp only [Act.put,List.setIfInBounds_toArray,List.set_cons_zero,List.set_cons_succ,fc,ic]
         rfl
        refine Bd (i:=4) (N:=some 18) (v:=?_) (a':=?_) #[true,true,true,true,true,false,false,false,false,false,false,false,false,false,false,false] rfl rfl (Lc Wf.out (by kernel_rfl)) (fun _ _ _ h=>h) (Or.inl ⟨by rfl,?_⟩) ?_ ?_;rotate_left
        ·intro w';go_simp;with_reducible rfl
        rotate_left
        ·simp only [Act.put,List.setIfInBounds_toArray,List.set_cons_zero,List.set_cons_succ,fc,ic]
         rfl
        refine Bd (i:=5) (N:=some 19) (v:=?_) (a':=?_) #[true,true,true,true,true,true,false,false,false,false,false,false,false,false,false,false] rfl rfl (Lc Wf.out (by kernel_rfl)) (fun _ _ _ h=>h) (Or.inl ⟨by rfl,?_⟩) ?_ ?_;rotate_left
        ·intro w';go_simp;with_reducible rfl
        rotate_left
        ·simp only [Act.put,List.setIfInBounds_toArray,List.set_cons_zero,List.set_cons_succ,fc,ic]
         rfl
        refine Bd (i:=6) (N:=some 20) (v:=?_) (a':=?_) #[true,true,true,true,true,true,true,false,false,false,false,false,false,false,false,false] rfl rfl (Lc Wf.out (by kernel_rfl)) (fun _ _ _ h=>h) (Or.inl ⟨by rfl,?_⟩) ?_ ?_;rotate_left
        ·intro w';go_simp;with_reducible rfl
        rotate_left
        ·simp only [Act.put,List.setIfInBounds_toArray,List.set_cons_zero,List.set_cons_succ,fc,ic]
         rfl
        refine Bd (i:=8) (N:=some 22) (v:=?_) (a':=?_) #[true,true,true,true,true,true,true,false,true,false,false,false,false,false,false,false] rfl rfl (Lc Wf.out (by kernel_rfl)) (fun _ _ _ h=>h) (Or.inl ⟨by rfl,?_⟩) ?_ ?_;rotate_left
        ·intro w';go_simp;with_reducible rfl
        rotate_left
        ·simp only [Act.put,List.setIfInBounds_toArray,List.set_cons_zero,List.set_cons_succ,fc,ic]
         rfl
        refine Bd (i:=9) (N:=some 23) (v:=?_) (a':=?_) #[true,true,true,true,true,true,true,false,true,true,false,false,false,false,false,false] rfl rfl (Lc Wf.out (by kernel_rfl)) (fun _ _ _ h=>h) (Or.inl ⟨by rfl,?_⟩) ?_ ?_;rotate_left
        ·intro w';go_simp;with_reducible rfl
        rotate_left
        ·simp only [Act.put,List.setIfInBounds_toArray,List.set_cons_zero,List.set_cons_succ,fc,ic]
         rfl
        refine Bd (i:=10) (N:=some 24) (v:=?_) (a':=?_) #[true,true,true,true,true,true,true,false,true,true,true,false,false,false,false,false] rfl rfl (Lc Wf.out (by kernel_rfl)) (fun _ _ _ h=>h) (Or.inl ⟨by rfl,?_⟩) ?_ ?_;rotate_left
        ·intro w';go_simp;with_reducible rfl
        rotate_left
        ·simp only [Act.put,List.setIfInBounds_toArray,List.set_cons_zero,List.set_cons_succ,fc,ic]
         rfl
        refine th (i:=7) (N:=some 21) (v:=?_) (a':=?_) #[true,true,true,true,true,true,true,true,true,true,true,false,false,false,false,false] rfl rfl (Ze Wf.out Hs.out (by kernel_rfl)) (fun _ _ _ h=>h) (Or.inl ⟨by rfl,?_⟩) hHeld ?_ ?_;rotate_left
        ·rintro w' ⟨s0,s1⟩;go_simp;with_reducible rfl
        rotate_left
        ·simp only [Act.put,List.setIfInBounds_toArray,List.set_cons_zero,List.set_cons_succ,fc,ic]
         rfl
        refine th (i:=11) (N:=some 25) (v:=?_) (a':=?_) #[true,true,true,true,true,true,true,true,true,true,true,true,false,false,false,false] rfl rfl (Ze Wf.out Hs.out (by kernel_rfl)) (fun _ _ _ h=>h) (Or.inl ⟨by rfl,?_⟩) hHeld ?_ ?_;rotate_left
        ·rintro w' ⟨s0,s1⟩;go_simp;with_reducible rfl
        rotate_left
        ·simp only [Act.put,List.setIfInBounds_toArray,List.set_cons_zero,List.set_cons_succ,fc,ic]
         rfl
        refine Bd (i:=12) (N:=some 26) (v:=?_) (a':=?_) #[true,true,true,true,true,true,true,true,true,true,true,true,true,false,false,false] rfl rfl (Lc Wf.out (by kernel_rfl)) (fun _ _ _ h=>h) (Or.inl ⟨by rfl,?_⟩) ?_ ?_;rotate_left
        ·intro w';go_simp;with_reducible rfl
        rotate_left
        ·simp only [Act.put,List.setIfInBounds_toArray,List.set_cons_zero,List.set_cons_succ,fc,ic]
         rfl
        refine kQ (i:=13) (N:=none) #[true,true,true,true,true,true,true,true,true,true,true,true,true,true,false,false] rfl rfl (Ln Wf.out (by kernel_rfl)) (by decide) (fun K hK=>?_);refine GP (w1:=?_) (by rfl) rfl ?_ ?_;rotate_left
        ·go_simp
         rfl
        refine hK.out _ _ ?_;clear hK K;refine Bd (i:=14) (N:=some 27) (v:=?_) (a':=?_) #[true,true,true,true,true,true,true,true,true,true,true,true,true,true,true,false] rfl rfl (Lc Wf.out (by kernel_rfl)) (fun _ _ _ h=>h) (Or.inl ⟨by rfl,?_⟩) ?_ ?_;rotate_left
        ·intro w';go_simp;with_reducible rfl
        rotate_left
        ·simp only [Act.put,List.setIfInBounds_toArray,List.set_cons_zero,List.set_cons_succ,fc,ic]
         rfl
        refine kQ (i:=15) (N:=none) #[true,true,true,true,true,true,true,true,true,true,true,true,true,true,true,true] rfl rfl (Ln Wf.out (by kernel_rfl)) (by decide) (fun K hK=>?_);refine GP (w1:=?_) (by rfl) rfl ?_ ?_;rotate_left
        ·go_simp
         rfl
        refine hK.out _ _ ?_;clear hK K;refine pq (Jk Wf.out (by kernel_rfl)) ?_
        try go_wp2
        (try simp only [← RH])
        go_roundg k1
        case measure=>have:=uf.out;omega
        case rel=>exact ⟨(Xf),(wrap64 (Vm + 1)),(wrap64 (Cc - 1)),(by first|rfl|(simp;done)|(simp [*];done)),(by first|rfl|(simp;done)|(simp [*];done)),H',⟨by have:=uf.out;omega⟩,⟨by (try simp only [RH]);(with_reducible repeat (first|apply Kd.Va|apply Kd.Ua|apply Kd.jb));exact fae.out⟩,⟨by repeat (first|(with_reducible first|exact HK.out|apply Kept.alloc|apply Kept.drewN|apply Kept.drew|refine Kept.setCell ?_ yZ.out _|refine Kept.setCell ?_ yZ.out _)|exact HK.out)⟩,⟨by repeat (first|(with_reducible first|exact HB.out|apply oa|apply ia|apply qa|refine ua ?_ GB8.out|refine ua ?_ GB8.out)|exact HB.out)⟩⟩
       ·rw [if_neg c7] at H;exact absurd H (by simp)
      ·rw [if_neg c6] at H;exact absurd H (by simp)
     ·rw [if_neg c5] at H;exact absurd H (by simp)
    ·rw [if_neg c4] at H;exact absurd H (by simp)
   ·rw [if_neg c3] at H;have dh:decide (Vm < Cc)=false:=decide_eq_false c3;clear c3;obtain rfl:=Option.some.inj H;go_wp2
    first|go_end0|((try simp only [Exit.inBlock,Exit.then]);refine bodyPost_ret (results_none rfl _ _ _) rfl ?_)
    exact ⟨by first|rfl|(simp [Pa,Oa] <;> rfl)|(simp [*,Pa,Oa] <;> rfl),(by first|exact (by (with_reducible repeat (first|apply Kd.Va|apply Kd.Ua|apply Kd.jb));exact Xe.out)|(simp only [RH];exact (by (with_reducible repeat (first|apply Kd.Va|apply Kd.Ua|apply Kd.jb));exact Xe.out))),by repeat (first|(with_reducible first|exact HB.out|apply oa|apply ia|apply qa)|exact HB.out),by repeat (first|(with_reducible first|exact HK.out|apply Kept.alloc|apply Kept.drewN|apply Kept.drew)|exact HK.out)⟩
def Ad.l0:Nat→List Bool→List Int→List Int→List Int→Int→Int→Int→List (jf)→Option (List Int)
 | 0,_,_,_,_,_,_,_,_=>none
 | k + 1,x3,x4,x5,Yc,Zc,Xc,Wc,dc=>if (x5.length:Int) > 0 then (if 0 ≤ (wrap64 ((x5.length:Int) - 1)) then (if (wrap64 ((x5.length:Int) - 1)) < (x5.length:Int) then (if (wrap64 ((x5.length:Int) - 1)) ≤ (x5.length:Int) then ((some (x5.take ((wrap64 ((x5.length:Int) - 1)):Int).toNat:List Int)).bind fun ei=>(if 0 ≤ (rd x5 (wrap64 ((x5.length:Int) - 1))) then (if (rd x5 (wrap64 ((x5.length:Int) - 1))) < (x3.length:Int) then (if Eg false x3 (rd x5 (wrap64 ((x5.length:Int) - 1)))=true then (Ad.l0 k x3 x4 ei Yc Zc Xc Wc dc) else (if x4.length < 17592186044416 then (if (rd x5 (wrap64 ((x5.length:Int) - 1))) < (dc.length:Int) then ((wg.f ((Ta dc (rd x5 (wrap64 ((x5.length:Int) - 1)))).f0) ((Ta dc (rd x5 (wrap64 ((x5.length:Int) - 1)))).f1) ((Ta dc (rd x5 (wrap64 ((x5.length:Int) - 1)))).f2) ((Ta dc (rd x5 (wrap64 ((x5.length:Int) - 1)))).f3) ((Ta dc (rd x5 (wrap64 ((x5.length:Int) - 1)))).f4)).bind fun t121=>((Ya.f k t121).bind fun t124=>(if ei.length + t124.length < 17592186044416 then (Ad.l0 k (x3.set ((rd x5 (wrap64 ((x5.length:Int) - 1))):Int).toNat true) (x4 ++ [rd x5 (wrap64 ((x5.length:Int) - 1))]) (ei ++ t124) Yc Zc Xc Wc dc) else (none)))) else (none)) else (none))) else (none)) else (none))) else (none)) else (none)) else (none)) else (some x4)
def Ad.f (k:Nat) (Ma:List Int) (La:Int) (Na:Int) (Ka:Int) (Fa:List (jf)):Option (List Int):=if 0 ≤ (Fa.length:Int) then (if ((Fa.length:Int):Int).toNat ≤ 281474976710656 then (Ad.l0 k (List.replicate ((Fa.length:Int):Int).toNat false) (([]:List Int)) (([0]:List Int)) Ma La Na Ka Fa) else (none)) else (none)
theorem Ad.calls (k:Nat) (qb:Option Addr) (mb:Nat) (Ma:List Int) (La:Int) (Na:Int) (Ka:Int) (Lb:Option Addr) (Fb:Nat) (Fa:List (jf)) (r:List Int) (w:World) (Ae:Kd.C (Kd.int .i64) w qb Ma.length Ma) (we:Ma.length ≤ mb) (Uf:Kd.C Gp w Lb Fa.length Fa) (Lf:Fa.length ≤ Fb) (h:Ad.f k Ma La Na Ka Fa=some r) :
  Calls Try.prog 78 #[.agg #[.slice qb Ma.length mb,.int .i64 La,.int .i64 Na,.int .i64 Ka,.slice Lb Fa.length Fb]] w fun e w'=>∃ Xn:Value,e = .returned (Xn)∧Kd.R (Kd.int .i64) 3 w' w.heap.size (fun _=>True) Xn r∧Below w.heap.size w w':=by
 have Oz:=Try.underlying45;have BB:=Try.underlying83;have Ke:=ga.mk Ae;have Ve:=ga.mk we;clear Ae we;have kg:=ga.mk Uf;have Tg:=ga.mk Lf;clear Uf Lf;have HB:=ga.mk (Below.refl w.heap.size w);have H:(if 0 ≤ (Fa.length:Int) then (if ((Fa.length:Int):Int).toNat ≤ 281474976710656 then (Ad.l0 k (List.replicate ((Fa.length:Int):Int).toNat false) (([]:List Int)) (([0]:List Int)) Ma La Na Ka Fa) else (none)) else (none))=some r:=h;clear h
 by_cases c2:0 ≤ (Fa.length:Int)
 ·rw [if_pos c2] at H;have js:=eq_true c2;have tv:decide (0 ≤ (Fa.length:Int))=true:=decide_eq_true c2;clear c2
  by_cases c3:((Fa.length:Int):Int).toNat ≤ 281474976710656
  ·rw [if_pos c3] at H;have dh:=eq_true c3;have gp:decide (((Fa.length:Int):Int).toNat ≤ 281474976710656)=true:=decide_eq_true c3;clear c3;obtain ⟨Xd,lf⟩:∃ y_:List Bool,y_=(List.replicate ((Fa.length:Int):Int).toNat false):=⟨_,rfl⟩;replace H:(Ad.l0 k Xd (([]:List Int)) (([0]:List Int)) Ma La Na Ka Fa)=some r:=by first|(rw [lf];with_reducible exact H)|(have Md:=(Option.bind_some _ _).symm.trans H;rw [lf];with_reducible exact Md)|(have Md:=(Option.bind_some _ _).symm.trans H;with_reducible exact Md)|with_reducible exact H|(rw [lf];exact H)|exact H
   have xh:=ga.mk lf;clear lf;obtain ⟨Le,bh⟩:∃ y_:List Int,y_=(([]:List Int)):=⟨_,rfl⟩;replace H:(Ad.l0 k Xd Le (([0]:List Int)) Ma La Na Ka Fa)=some r:=by first|(rw [bh];with_reducible exact H)|(have Md:=(Option.bind_some _ _).symm.trans H;rw [bh];with_reducible exact Md)|(have Md:=(Option.bind_some _ _).symm.trans H;with_reducible exact Md)|with_reducible exact H|(rw [bh];exact H)|exact H
   have vq:=ga.mk bh;clear bh;obtain ⟨fB,Yj⟩:∃ y_:List Int,y_=(([0]:List Int)):=⟨_,rfl⟩;replace H:(Ad.l0 k Xd Le fB Ma La Na Ka Fa)=some r:=by first|(rw [Yj];with_reducible exact H)|(have Md:=(Option.bind_some _ _).symm.trans H;rw [Yj];with_reducible exact Md)|(have Md:=(Option.bind_some _ _).symm.trans H;with_reducible exact Md)|with_reducible exact H|(rw [Yj];exact H)|exact H
   have Pv:=ga.mk Yj;clear Yj;have H':=ga.mk H;clear H;go_enter Try.func78,Try.ntmps78;go_wp2_with (first|((with_reducible refine Ab (N:=1) rfl ?_);refine Kb ?hg (N:=1) ?hd (cs:=#[.slice qb Ma.length mb,.int .i64 La,.int .i64 Na,.int .i64 Ka,.slice Lb Fa.length Fb]) (t:=45) ?hr ?_;(case hd=>rfl);(case hg=>rfl);(case hr=>first|(go_simp;done)|(go_simp;rfl));intro za hg w4 Wb hb;have Eb:=ga.mk (Qa (by repeat (first|(with_reducible first|exact HB.out|apply oa|apply ia|apply qa)|exact HB.out)) hb);have Ib:=ga.mk (Wb);have Sb:=ga.mk ((by rw [hg];exact (Ja (by repeat (first|(with_reducible first|exact HB.out|apply oa|apply ia|apply qa)|exact HB.out))):w.heap.size ≤ za));have yc:=ga.mk ((by rw [hg];exact (Ja (by repeat (first|(with_reducible first|exact HB.out|apply oa|apply ia|apply qa)|exact HB.out))):w.heap.size ≤ za));clear HB;have HB:=Eb;have ta:=Ib;have Be:=Sb;have Sa:=yc;clear Eb Ib Sb yc hb Wb hg;have nR:w4.cell? ⟨za,0,none⟩=some (.slice qb Ma.length mb):=(ja ta.out 0).trans rfl;have mR:w4.cell? ⟨za,1,none⟩=some (.int .i64 La):=(ja ta.out 1).trans rfl;have lR:w4.cell? ⟨za,2,none⟩=some (.int .i64 Na):=(ja ta.out 2).trans rfl;have kR:w4.cell? ⟨za,3,none⟩=some (.int .i64 Ka):=(ja ta.out 3).trans rfl;have jR:w4.cell? ⟨za,4,none⟩=some (.slice Lb Fa.length Fb):=(ja ta.out 4).trans rfl;have VQ:=aa ta.out 0;have UQ:=aa ta.out 1;have TQ:=aa ta.out 2;have SQ:=aa ta.out 3;have RQ:=aa ta.out 4)|((with_reducible refine Ab (N:=11) rfl ?_);refine Kd.nw Kd.bool _ 4 rfl (N:=11) rfl 73 _ _ rfl (Fa.length:Int) rfl rfl Try.underlying73 (.bool false) 1 wL rfl (by decide) (by omega) false (ok:=fun _=>True) (Jh:=fun _=>True) rfl (fun _ hk=>hk) trivial (of_decide_eq_true (by first|(with_reducible assumption)|assumption)) (Nat.le_trans (Nat.mul_le_mul_right _ (of_decide_eq_true (by first|(with_reducible assumption)|assumption):(Fa.length:Int).toNat ≤ 281474976710656)) (by omega)) (Below.refl _ _) (Nat.le_refl _) ?_;intro ji w6 IQ hb Ol Re;clear Ol Re;(first|rw [← xh.out] at IQ|(simp only [Int.reduceToNat] at IQ;rw [← xh.out] at IQ));have Eb:=ga.mk (Kd.Fe IQ (Ja (by repeat (first|(with_reducible first|exact HB.out|apply oa|apply ia|apply qa|refine ua ?_ Sa.out)|exact HB.out))));have Ib:=ga.mk (Wa (g:=za) (o:=.cells #[.slice qb Ma.length mb,.int .i64 La,.int .i64 Na,.int .i64 Ka,.slice Lb Fa.length Fb] 45 (0,0)) (by (with_reducible repeat (first|refine Ca ?_ _|refine Ea ?_|refine Da ?_ _));exact ta.out) hb);have Sb:=ga.mk (Qa (by repeat (first|(with_reducible first|exact HB.out|apply oa|apply ia|apply qa|refine ua ?_ Sa.out)|exact HB.out)) hb);clear ta HB;have ke:=Eb;have ta:=Ib;have HB:=Sb;clear Eb Ib Sb hb IQ)|((with_reducible refine Ab (N:=12) rfl ?_);refine Kd.vk (Kd.int .i64) _ 3 ?hg (N:=12) ?hd (xs:=([]:List Int)) (inner:=[]) (ok:=fun _=>True) (Jh:=fun _=>True) ?hr ?hp (fun _ hk=>hk) trivial (Below.refl _ _) (Nat.le_refl _) (by simp) ?_;(case hd=>rfl);(case hg=>rfl);(case hr=>first|(go_simp;done)|(go_simp;rfl));(case hp=>exact (Sd.none _ _));intro sw w8 NH hb Ol Re;clear Ol Re;(first|rw [← vq.out] at NH|(simp only [Int.reduceToNat] at NH;rw [← vq.out] at NH));have Eb:=ga.mk (Kd.Dd (by (with_reducible repeat (first|apply Kd.Va|apply Kd.Ua|apply Kd.jb));exact ke.out) hb);have Ib:=ga.mk (Kd.Fe NH (Ja (by repeat (first|(with_reducible first|exact HB.out|apply oa|apply ia|apply qa|refine ua ?_ Sa.out)|exact HB.out))));have Sb:=ga.mk (Wa (g:=za) (o:=.cells #[.slice qb Ma.length mb,.int .i64 La,.int .i64 Na,.int .i64 Ka,.slice Lb Fa.length Fb] 45 (0,0)) (by (with_reducible repeat (first|refine Ca ?_ _|refine Ea ?_|refine Da ?_ _));exact ta.out) hb);have yc:=ga.mk (Qa (by repeat (first|(with_reducible first|exact HB.out|apply oa|apply ia|apply qa|refine ua ?_ Sa.out)|exact HB.out)) hb);clear ke ta HB;have ke:=Eb;have wm:=Ib;have ta:=Sb;have HB:=yc;clear Eb Ib Sb yc hb NH)|((with_reducible refine Ab (N:=13) rfl ?_);refine Kd.vk (Kd.int .i64) _ 3 ?hg (N:=13) ?hd (xs:=([0]:List Int)) (inner:=[.int .i64 0]) (ok:=fun _=>True) (Jh:=fun _=>True) ?hr ?hp (fun _ hk=>hk) trivial (Below.refl _ _) (Nat.le_refl _) (by simp) ?_;(case hd=>rfl);(case hg=>rfl);(case hr=>first|(go_simp;done)|(go_simp;rfl));(case hp=>exact (Sd.one (show Kd.M (Kd.int .i64) _ _ _ 0 [.int .i64 0] from rfl) (Sd.none _ _)));intro v109 Xq Ys hb Ol Re;clear Ol Re;(first|rw [← Pv.out] at Ys|(simp only [Int.reduceToNat] at Ys;rw [← Pv.out] at Ys));have Eb:=ga.mk (Kd.Dd (by (with_reducible repeat (first|apply Kd.Va|apply Kd.Ua|apply Kd.jb));exact ke.out) hb);have Ib:=ga.mk (Kd.mj (by (with_reducible repeat (first|apply Kd.Va|apply Kd.Ua|apply Kd.jb));exact wm.out) (Kd.Mh Ys) hb);have Sb:=ga.mk (Kd.Fe (Kd.qm Ys (Kd.Km (by (with_reducible repeat (first|apply Kd.Va|apply Kd.Ua|apply Kd.jb));exact wm.out))) (Ja (by repeat (first|(with_reducible first|exact HB.out|apply oa|apply ia|apply qa|refine ua ?_ Sa.out)|exact HB.out))));have yc:=ga.mk (Wa (g:=za) (o:=.cells #[.slice qb Ma.length mb,.int .i64 La,.int .i64 Na,.int .i64 Ka,.slice Lb Fa.length Fb] 45 (0,0)) (by (with_reducible repeat (first|refine Ca ?_ _|refine Ea ?_|refine Da ?_ _));exact ta.out) hb);have Ee:=ga.mk (Qa (by repeat (first|(with_reducible first|exact HB.out|apply oa|apply ia|apply qa|refine ua ?_ Sa.out)|exact HB.out)) hb);clear ke wm ta HB;have ke:=Eb;have wm:=Ib;have Us:=Sb;have ta:=yc;have HB:=Ee;clear Eb Ib Sb yc Ee hb Ys))
   go_loopg [4,5] k (fun kq v4 v5 w'=>∃ (Cc:List Bool) (Zb:List Int) (Aa:List Int),ga (Ad.l0 kq Cc Zb Aa Ma La Na Ka Fa=some r)∧ga (kq ≤ k)∧ga (Kd.R Kd.bool 4 w' w.heap.size (fun _=>True) ji Cc)∧ga (Kd.R (Kd.int .i64) 3 w' w.heap.size (fun k_=>some k_ ≠ (v5:Value).ownBlock) v4 Zb)∧ga (Kd.R (Kd.int .i64) 3 w' w.heap.size (fun k_=>some k_ ≠ (v4:Value).ownBlock) v5 Aa)∧ga (w'.heap[za]? = some (.cells #[(.slice qb Ma.length mb),.int .i64 La,.int .i64 Na,.int .i64 Ka,(.slice Lb Fa.length Fb)] 45 (0,0)))∧ga (Below w.heap.size w w'))
   case atStart=>exact ⟨(Xd),(Le),(fB),H',⟨Nat.le_refl _⟩,⟨by (with_reducible repeat (first|apply Kd.Va|apply Kd.Ua|apply Kd.jb));exact ke.out⟩,⟨by (with_reducible repeat (first|apply Kd.Va|apply Kd.Ua|apply Kd.jb));exact Kd.Mc wm.out (fun _ hk=>hk.2)⟩,⟨by (with_reducible repeat (first|apply Kd.Va|apply Kd.Ua|apply Kd.jb));exact Kd.Mc Us.out (fun _ hk=>hk.2)⟩,⟨by (with_reducible repeat (first|refine Ca ?_ _|refine Ea ?_|refine Da ?_ _));exact ta.out⟩,⟨by repeat (first|(with_reducible first|exact HB.out|apply oa|apply ia|apply qa|refine ua ?_ Sa.out)|exact HB.out)⟩⟩
   case round =>
    clear H'
    try clear c2
    try clear js
    try clear tv
    try clear p2
    try clear c3
    try clear dh
    try clear gp
    try clear c7
    try clear nR
    try clear mR
    try clear lR
    try clear kR
    try clear jR
    try clear VQ
    try clear UQ
    try clear TQ
    try clear SQ
    try clear RQ
    (try clear HA);(try clear uf);(try clear qc);(try clear ec);(try clear Zg);(try clear ta);(try clear HB);obtain ⟨Cc,Zb,Aa,HA,uf,qc,ec,Zg,ta,HB⟩:=hrel;cases gk with
    | zero=>exact absurd HA.out (by simp [Ad.l0])
    | succ k1 =>
     have H:=HA.out;clear HA;simp only [Ad.l0] at H
     by_cases Fq:(Aa.length:Int) > 0
     ·rw [if_pos Fq] at H;have Lv:decide (0 < (Aa.length:Int))=true:=decide_eq_true Fq;have Yac:decide (0 < Aa.length)=true:=decide_eq_true (by omega);clear Fq;obtain ⟨Zd,OL⟩:∃ j_:Int,(wrap64 ((Aa.length:Int) - 1))=j_:=⟨_,rfl⟩;replace H:(if 0 ≤ (Zd) then (if (Zd) < (Aa.length:Int) then (if (Zd) ≤ (Aa.length:Int) then ((some (Aa.take ((Zd):Int).toNat:List Int)).bind fun ei=>(if 0 ≤ (rd Aa (Zd)) then (if (rd Aa (Zd)) < (Cc.length:Int) then (if Eg false Cc (rd Aa (Zd))=true then (Ad.l0 k1 Cc Zb ei Ma La Na Ka Fa) else (if Zb.length < 17592186044416 then (if (rd Aa (Zd)) < (Fa.length:Int) then ((wg.f ((Ta Fa (rd Aa (Zd))).f0) ((Ta Fa (rd Aa (Zd))).f1) ((Ta Fa (rd Aa (Zd))).f2) ((Ta Fa (rd Aa (Zd))).f3) ((Ta Fa (rd Aa (Zd))).f4)).bind fun t121=>((Ya.f k1 t121).bind fun t124=>(if ei.length + t124.length < 17592186044416 then (Ad.l0 k1 (Cc.set ((rd Aa (Zd)):Int).toNat true) (Zb ++ [rd Aa (Zd)]) (ei ++ t124) Ma La Na Ka Fa) else (none)))) else (none)) else (none))) else (none)) else (none))) else (none)) else (none)) else (none))=some r:=by first|(rw [OL] at H;exact H)|(simp only [OL] at H ⊢;exact H)
      have Nao:(IntKind.i64.wrap ((Aa.length:Int) - 1))=Zd:=(fc _).trans OL
      by_cases Bs:0 ≤ (Zd)
      ·rw [if_pos Bs] at H;have Jv:decide (0 ≤ (Zd))=true:=decide_eq_true Bs;clear Bs
       by_cases Qz:(Zd) < (Aa.length:Int)
       ·rw [if_pos Qz] at H;have yD:decide ((Zd) < (Aa.length:Int))=true:=decide_eq_true Qz;clear Qz
        by_cases jt:(Zd) ≤ (Aa.length:Int)
        ·rw [if_pos jt] at H;have cC:=eq_true jt;have gav:decide ((Zd) ≤ (Aa.length:Int))=true:=decide_eq_true jt;clear jt;obtain ⟨ei,Xj⟩:∃ y_:List Int,y_=(Aa.take ((Zd):Int).toNat):=⟨_,rfl⟩;replace H:(if 0 ≤ (rd Aa (Zd)) then (if (rd Aa (Zd)) < (Cc.length:Int) then (if Eg false Cc (rd Aa (Zd))=true then (Ad.l0 k1 Cc Zb ei Ma La Na Ka Fa) else (if Zb.length < 17592186044416 then (if (rd Aa (Zd)) < (Fa.length:Int) then ((wg.f ((Ta Fa (rd Aa (Zd))).f0) ((Ta Fa (rd Aa (Zd))).f1) ((Ta Fa (rd Aa (Zd))).f2) ((Ta Fa (rd Aa (Zd))).f3) ((Ta Fa (rd Aa (Zd))).f4)).bind fun t121=>((Ya.f k1 t121).bind fun t124=>(if ei.length + t124.length < 17592186044416 then (Ad.l0 k1 (Cc.set ((rd Aa (Zd)):Int).toNat true) (Zb ++ [rd Aa (Zd)]) (ei ++ t124) Ma La Na Ka Fa) else (none)))) else (none)) else (none))) else (none)) else (none))=some r:=by first|(rw [Xj];with_reducible exact H)|(have Md:=(Option.bind_some _ _).symm.trans H;rw [Xj];with_reducible exact Md)|(have Md:=(Option.bind_some _ _).symm.trans H;with_reducible exact Md)|with_reducible exact H|(rw [Xj];exact H)|exact H
         have Ov:=ga.mk Xj;clear Xj
         by_cases Xu:0 ≤ (rd Aa (Zd))
         ·rw [if_pos Xu] at H;have Xt:decide (0 ≤ (rd Aa (Zd)))=true:=decide_eq_true Xu;clear Xu
          by_cases Bp:(rd Aa (Zd)) < (Cc.length:Int)
          ·rw [if_pos Bp] at H;have vn:decide ((rd Aa (Zd)) < (Cc.length:Int))=true:=decide_eq_true Bp;clear Bp;obtain ⟨ead,zR⟩:∃ b_:Bool,b_=(Eg false Cc (rd Aa (Zd))):=⟨_,rfl⟩;replace H:(if ead=true then (Ad.l0 k1 Cc Zb ei Ma La Na Ka Fa) else (if Zb.length < 17592186044416 then (if (rd Aa (Zd)) < (Fa.length:Int) then ((wg.f ((Ta Fa (rd Aa (Zd))).f0) ((Ta Fa (rd Aa (Zd))).f1) ((Ta Fa (rd Aa (Zd))).f2) ((Ta Fa (rd Aa (Zd))).f3) ((Ta Fa (rd Aa (Zd))).f4)).bind fun t121=>((Ya.f k1 t121).bind fun t124=>(if ei.length + t124.length < 17592186044416 then (Ad.l0 k1 (Cc.set ((rd Aa (Zd)):Int).toNat true) (Zb ++ [rd Aa (Zd)]) (ei ++ t124) Ma La Na Ka Fa) else (none)))) else (none)) else (none)))=some r:=by rw [← zR] at H;exact H
           have bZ:=ga.mk zR;clear zR
           by_cases Jq:ead=true
           ·subst Jq;have H1:(Ad.l0 k1 Cc Zb ei Ma La Na Ka Fa)=some r:=by rw [if_pos rfl] at H;exact H
            clear H;have H:=H1;clear H1;have H':=ga.mk H;clear H;obtain ⟨Jay,oaq,aaq⟩:=Kd.Nd Zg.out;subst aaq;have Gm:0 ≤ ((Zd):Int):=of_decide_eq_true (by first|(with_reducible assumption)|assumption);have Fm:(Zd) < (Aa.length:Int):=of_decide_eq_true (by first|(with_reducible assumption)|assumption);obtain ⟨sq,VB,oo⟩:=Kd.Te (Kd.Jb Zg.out).2.2 (Zd) Gm Fm;cases VB;replace Gm:=eq_true Gm;replace Fm:=eq_true Fm;have zT:((Zd):Int) ≤ ((Aa.length:Int):Int):=of_decide_eq_true (by first|(with_reducible assumption)|assumption);obtain ⟨Ian,SH,_,JL,_⟩:=info_parts info3;have jK:=RR (P:=Try.prog) 22 3 .i64 Try.underlying22 SH (some sq) Aa.length oaq (Zd) (of_decide_eq_true (by first|(with_reducible assumption)|assumption)) zT (Kd.Jb Zg.out).2.1;have LC:=Kd.MG (m:=((Zd):Int).toNat) Zg.out (by omega);have KO:ei.length=((Zd):Int).toNat:=(by rw [Ov.out,List.length_take];omega);rw [← Ov.out] at LC;rw [← KO] at LC jK;clear KO SH JL Zg;have wk:=ga.mk LC;clear LC;replace zT:=eq_true zT;obtain ⟨Waq,naq,K4⟩:=Kd.Nd qc.out;subst K4;have Xv:0 ≤ ((rd Aa (Zd)):Int):=of_decide_eq_true (by first|(with_reducible assumption)|assumption);have Uv:(rd Aa (Zd)) < (Cc.length:Int):=of_decide_eq_true (by first|(with_reducible assumption)|assumption);obtain ⟨RI,wK,ku⟩:=Kd.Lk (Kd.Jb qc.out).2.2 (rd Aa (Zd)) Xv Uv;(try rw [← bZ.out] at ku);cases wK;replace Xv:=eq_true Xv;replace Uv:=eq_true Uv;go_wp2
            go_roundg k1
            case measure=>have:=uf.out;omega
            case rel=>exact ⟨(Cc),(Zb),(ei),H',⟨by have:=uf.out;omega⟩,⟨by (with_reducible repeat (first|apply Kd.Va|apply Kd.Ua|apply Kd.jb));exact qc.out⟩,⟨by (with_reducible repeat (first|apply Kd.Va|apply Kd.Ua|apply Kd.jb));exact ec.out⟩,⟨by (with_reducible repeat (first|apply Kd.Va|apply Kd.Ua|apply Kd.jb));exact wk.out⟩,⟨by (with_reducible repeat (first|refine Ca ?_ _|refine Ea ?_|refine Da ?_ _));exact ta.out⟩,⟨by repeat (first|(with_reducible first|exact HB.out|apply oa|apply ia|apply qa|refine ua ?_ Sa.out)|exact HB.out)⟩⟩
           ·replace Jq:=Bool.eq_false_iff.mpr Jq;subst Jq;have H1:(if Zb.length < 17592186044416 then (if (rd Aa (Zd)) < (Fa.length:Int) then ((wg.f ((Ta Fa (rd Aa (Zd))).f0) ((Ta Fa (rd Aa (Zd))).f1) ((Ta Fa (rd Aa (Zd))).f2) ((Ta Fa (rd Aa (Zd))).f3) ((Ta Fa (rd Aa (Zd))).f4)).bind fun t121=>((Ya.f k1 t121).bind fun t124=>(if ei.length + t124.length < 17592186044416 then (Ad.l0 k1 (Cc.set ((rd Aa (Zd)):Int).toNat true) (Zb ++ [rd Aa (Zd)]) (ei ++ t124) Ma La Na Ka Fa) else (none)))) else (none)) else (none))=some r:=by rw [if_neg (show ¬ (false=true) by decide)] at H;exact H
            clear H;have H:=H1;clear H1;obtain ⟨wJ,GH⟩:∃ y_:List Bool,y_=(Cc.set ((rd Aa (Zd)):Int).toNat true):=⟨_,rfl⟩;replace H:(if Zb.length < 17592186044416 then (if (rd Aa (Zd)) < (Fa.length:Int) then ((wg.f ((Ta Fa (rd Aa (Zd))).f0) ((Ta Fa (rd Aa (Zd))).f1) ((Ta Fa (rd Aa (Zd))).f2) ((Ta Fa (rd Aa (Zd))).f3) ((Ta Fa (rd Aa (Zd))).f4)).bind fun t121=>((Ya.f k1 t121).bind fun t124=>(if ei.length + t124.length < 17592186044416 then (Ad.l0 k1 wJ (Zb ++ [rd Aa (Zd)]) (ei ++ t124) Ma La Na Ka Fa) else (none)))) else (none)) else (none))=some r:=by first|(rw [GH];with_reducible exact H)|(have Md:=(Option.bind_some _ _).symm.trans H;rw [GH];with_reducible exact Md)|(have Md:=(Option.bind_some _ _).symm.trans H;with_reducible exact Md)|with_reducible exact H|(rw [GH];exact H)|exact H
            have Cad:=ga.mk GH;clear GH
            by_cases sP:Zb.length < 17592186044416
            ·rw [if_pos sP] at H;have Kad:=ga.mk sP;clear sP;obtain ⟨dB,Zm⟩:∃ y_:List Int,y_=(Zb ++ [rd Aa (Zd)]):=⟨_,rfl⟩;replace H:(if (rd Aa (Zd)) < (Fa.length:Int) then ((wg.f ((Ta Fa (rd Aa (Zd))).f0) ((Ta Fa (rd Aa (Zd))).f1) ((Ta Fa (rd Aa (Zd))).f2) ((Ta Fa (rd Aa (Zd))).f3) ((Ta Fa (rd Aa (Zd))).f4)).bind fun t121=>((Ya.f k1 t121).bind fun t124=>(if ei.length + t124.length < 17592186044416 then (Ad.l0 k1 wJ dB (ei ++ t124) Ma La Na Ka Fa) else (none)))) else (none))=some r:=by first|(rw [Zm];with_reducible exact H)|(have Md:=(Option.bind_some _ _).symm.trans H;rw [Zm];with_reducible exact Md)|(have Md:=(Option.bind_some _ _).symm.trans H;with_reducible exact Md)|with_reducible exact H|(rw [Zm];exact H)|exact H
             have DD:=ga.mk Zm;clear Zm
             by_cases N7:(rd Aa (Zd)) < (Fa.length:Int)
             ·rw [if_pos N7] at H;have fav:decide ((rd Aa (Zd)) < (Fa.length:Int))=true:=decide_eq_true N7;clear N7;replace H:=Option.bind_eq_some_iff.mp H;obtain ⟨t121,caf,H⟩:=H;replace H:((Ya.f k1 t121).bind fun t124=>(if ei.length + t124.length < 17592186044416 then (Ad.l0 k1 wJ dB (ei ++ t124) Ma La Na Ka Fa) else (none)))=some r:=H;have E7:=ga.mk caf;clear caf;replace H:=Option.bind_eq_some_iff.mp H;obtain ⟨t124,baf,H⟩:=H;replace H:(if ei.length + t124.length < 17592186044416 then (Ad.l0 k1 wJ dB (ei ++ t124) Ma La Na Ka Fa) else (none))=some r:=H;have A28:=ga.mk baf;clear baf
              by_cases VA:ei.length + t124.length < 17592186044416
              ·rw [if_pos VA] at H;have Jad:=ga.mk VA;clear VA;obtain ⟨ZN,Kt⟩:∃ y_:List Int,y_=(ei ++ t124):=⟨_,rfl⟩;replace H:(Ad.l0 k1 wJ dB ZN Ma La Na Ka Fa)=some r:=by first|(rw [Kt];with_reducible exact H)|(have Md:=(Option.bind_some _ _).symm.trans H;rw [Kt];with_reducible exact Md)|(have Md:=(Option.bind_some _ _).symm.trans H;with_reducible exact Md)|with_reducible exact H|(rw [Kt];exact H)|exact H
               have wS:=ga.mk Kt;clear Kt;have H':=ga.mk H;clear H;obtain ⟨Fay,XW,Xap⟩:=Kd.Nd Zg.out;subst Xap;have Gm:0 ≤ ((Zd):Int):=of_decide_eq_true (by first|(with_reducible assumption)|assumption);have Fm:(Zd) < (Aa.length:Int):=of_decide_eq_true (by first|(with_reducible assumption)|assumption);obtain ⟨sq,VB,oo⟩:=Kd.Te (Kd.Jb Zg.out).2.2 (Zd) Gm Fm;cases VB;replace Gm:=eq_true Gm;replace Fm:=eq_true Fm;have q31:((Zd):Int) ≤ ((Aa.length:Int):Int):=of_decide_eq_true (by first|(with_reducible assumption)|assumption);obtain ⟨Faw,gY,_,L8,_⟩:=info_parts info3;have R3:=RR (P:=Try.prog) 22 3 .i64 Try.underlying22 gY (some sq) Aa.length XW (Zd) (of_decide_eq_true (by first|(with_reducible assumption)|assumption)) q31 (Kd.Jb Zg.out).2.1;have dU:=Kd.MG (m:=((Zd):Int).toNat) Zg.out (by omega);have I8:ei.length=((Zd):Int).toNat:=(by rw [Ov.out,List.length_take];omega);rw [← Ov.out] at dU;rw [← I8] at dU R3;clear I8 gY L8 Zg;have wk:=ga.mk dU;clear dU;replace q31:=eq_true q31;obtain ⟨Eay,Z4,Wap⟩:=Kd.Nd qc.out;subst Wap;have Xv:0 ≤ ((rd Aa (Zd)):Int):=of_decide_eq_true (by first|(with_reducible assumption)|assumption);have Uv:(rd Aa (Zd)) < (Cc.length:Int):=of_decide_eq_true (by first|(with_reducible assumption)|assumption);obtain ⟨RI,wK,ku⟩:=Kd.Lk (Kd.Jb qc.out).2.2 (rd Aa (Zd)) Xv Uv;(try rw [← bZ.out] at ku);cases wK;replace Xv:=eq_true Xv;replace Uv:=eq_true Uv;have p24:0 ≤ ((rd Aa (Zd)):Int):=of_decide_eq_true (by first|(with_reducible assumption)|assumption);have q24:((rd Aa (Zd)):Int) < ((Cc.length:Int):Int):=of_decide_eq_true (by first|(with_reducible assumption)|assumption);obtain ⟨CR,TR,RW,gac,Hap,Cax,Cae⟩:=Kd.Uk qc.out (by omega);(first|cases RW|(injection RW with Si nv ov;(first|subst Si|(injection Si with Si;subst Si));subst ov;clear nv));have Saq:=ga.mk gac;have oay:=ga.mk Cae;clear gac Hap Cae;(first|simp only [add_plain] at ku|skip);obtain ⟨Pan,Yao⟩:=Kd.Fh false qc.out ((rd Aa (Zd)):Int) p24 q24;replace p24:=eq_true p24;replace q24:=eq_true q24;have R6:=Kd.Jm qc.out ((rd Aa (Zd)):Int) true;go_wp2_with (first|((with_reducible refine gf (t:=4) (p:=34) rfl ?_);refine Ie (t:=4) (p:=34) (v:=?Xam) (w1:=(wr.setCell ⟨CR,((rd Aa (Zd)):Int).toNat,none⟩ (.bool true))) ?hg ?ho ?hn ?hr ?_;(case ho=>rfl);(case hg=>rfl);(case hn=>rfl);(case hr=>first|(go_simp;done)|(go_simp;rfl));intro mL hw;have hg:wr.grownBy mL (some CR):=(by rw [hw];exact R6.2);have Hl:Kd.R Kd.bool 4 mL w.heap.size (fun _=>True) (.slice (some ⟨CR,0,none⟩) Cc.length Z4) wJ:=(by rw [hw,Cad.out];exact R6.1);clear R6;have Eb:=ga.mk (Hl);have Ib:=ga.mk (Kd.Nk (v:=(.slice (some ⟨CR,0,none⟩) Cc.length Z4)) (by (with_reducible repeat (first|apply Kd.Va|apply Kd.Ua|apply Kd.jb));exact ec.out) (Kd.Mk qc.out) (by decide) hg);have Sb:=ga.mk (Kd.Nk (v:=(.slice (some ⟨CR,0,none⟩) Cc.length Z4)) (by (with_reducible repeat (first|apply Kd.Va|apply Kd.Ua|apply Kd.jb));exact wk.out) (Kd.Mk qc.out) (by decide) hg);have yc:=ga.mk (Kf (g:=za) (o:=.cells #[.slice qb Ma.length mb,.int .i64 La,.int .i64 Na,.int .i64 Ka,.slice Lb Fa.length Fb] 45 (0,0)) (by (with_reducible repeat (first|refine Ca ?_ _|refine Ea ?_|refine Da ?_ _));exact ta.out) hg (Kd.Rq qc.out ta.out (by decide)));have Ee:=ga.mk ((by rw [hw];exact ua (HB.out) Saq.out:Below w.heap.size w mL));clear qc ec wk ta HB;have qc:=Eb;have ec:=Ib;have wk:=Sb;have ta:=yc;have HB:=Ee;clear Eb Ib Sb yc Ee hg hw Hl)|((with_reducible refine lg (b:=.append) (xs:=#[.tmp 35,.tmp 37]) rfl ?_);at_builtin;refine Kd.um (Kd.int .i64) (w0:=w) w.heap.size rfl (.tmp 35) (.tmp 37) 22 3 (.int .i64 0) 8 rfl Try.underlying22 info3 rfl (by decide) (by omega) u4 Zb (rd Aa (Zd)) [.int .i64 (rd Aa (Zd))] (fun k_=>some k_ ≠ (.slice (some sq) ei.length XW:Value).ownBlock) (fun _=>False) rfl rfl ?aP (fun _ hk=>hk.elim) ?aF ?aO ?aB ?aS ?aL ?_;(case aP=>exact rfl);(case aB=>exact (by repeat (first|(with_reducible first|exact HB.out|apply oa|apply ia|apply qa|refine ua ?_ Sa.out)|exact HB.out)));(case aF=>exact (fun k_ hk=>Kd.fresh' (Kd.Km (by (with_reducible repeat (first|apply Kd.Va|apply Kd.Ua|apply Kd.jb));exact wk.out)) k_ hk));(case aO=>exact (by (with_reducible repeat (first|apply Kd.Va|apply Kd.Ua|apply Kd.jb));exact ec.out));(case aS=>exact (Ja (by repeat (first|(with_reducible first|exact HB.out|apply oa|apply ia|apply qa|refine ua ?_ Sa.out)|exact HB.out))));(case aL=>have:=Kad.out;omega);intro RD PZ ho hb hg hat;rw [← DD.out] at ho;have Eb:=ga.mk (Kd.Nk (by (with_reducible repeat (first|apply Kd.Va|apply Kd.Ua|apply Kd.jb));exact qc.out) (Kd.Mk (by (with_reducible repeat (first|apply Kd.Va|apply Kd.Ua|apply Kd.jb));exact ec.out)) (by decide) hg);have Ib:=ga.mk (Kd.Yg (ok:=(fun _=>True)) (by (with_reducible repeat (first|apply Kd.Va|apply Kd.Ua|apply Kd.jb));exact Kd.Mc wk.out (fun _ hk=>⟨trivial,hk⟩)) hg hat);have Sb:=ga.mk (Kf (g:=za) (o:=.cells #[.slice qb Ma.length mb,.int .i64 La,.int .i64 Na,.int .i64 Ka,.slice Lb Fa.length Fb] 45 (0,0)) (by (with_reducible repeat (first|refine Ca ?_ _|refine Ea ?_|refine Da ?_ _));exact ta.out) hg (Kd.Rq ec.out ta.out (by decide)));have yc:=ga.mk (hb);have Ee:=ga.mk (ho);clear qc wk ta HB ec;have qc:=Eb;have wk:=Ib;have ta:=Sb;have HB:=yc;have fo:=Ee;clear Eb Ib Sb yc Ee ho hb hg hat;have PF:PZ.cell? ⟨za,0,none⟩=some (.slice qb Ma.length mb):=(ja ta.out 0).trans rfl;have NF:PZ.cell? ⟨za,1,none⟩=some (.int .i64 La):=(ja ta.out 1).trans rfl;have MF:PZ.cell? ⟨za,2,none⟩=some (.int .i64 Na):=(ja ta.out 2).trans rfl;have LF:PZ.cell? ⟨za,3,none⟩=some (.int .i64 Ka):=(ja ta.out 3).trans rfl;have KF:PZ.cell? ⟨za,4,none⟩=some (.slice Lb Fa.length Fb):=(ja ta.out 4).trans rfl;have ME:=aa ta.out 0;have KE:=aa ta.out 1;have JE:=aa ta.out 2;have IE:=aa ta.out 3;have FE:=aa ta.out 4;have Wv:0 ≤ ((rd Aa (Zd)):Int):=of_decide_eq_true (by first|(with_reducible assumption)|assumption);have Tv:(rd Aa (Zd)) < (Fa.length:Int):=of_decide_eq_true (by first|(with_reducible assumption)|assumption);obtain ⟨Yn,F7,I5,vK,Sm,AL,zL,yL,xL,KL,PL⟩:=Sk kg.out (rd Aa (Zd)) Wv Tv;cases vK;replace Sm:=Ra HB.out Sm;replace AL:=Ra HB.out AL;replace zL:=Ra HB.out zL;replace yL:=Ra HB.out yL;replace xL:=Ra HB.out xL;have xX:=ga.mk PL;have EX:=ga.mk KL;clear PL KL;replace Wv:=eq_true Wv;replace Tv:=eq_true Tv)|((with_reducible refine zb (f:=75) rfl ?_);refine Pc (some 44) rfl rfl Try.func75 (by kernel_rfl) rfl #[.agg #[.slice F7 ((Ta Fa (rd Aa (Zd))).f0).length I5,.int .i64 ((Ta Fa (rd Aa (Zd))).f1),.int .i64 ((Ta Fa (rd Aa (Zd))).f2),.int .i64 ((Ta Fa (rd Aa (Zd))).f3),.int .i64 ((Ta Fa (rd Aa (Zd))).f4)]] rfl (by (try simp only [List.map_toArray,List.map_cons,List.map_nil]);first|done|(simp only [OL];rfl)|rfl|(simp only [List.length_drop,List.length_take];rfl)) ?_;(with_reducible refine (wg.calls _ _ ((Ta Fa (rd Aa (Zd))).f0) ((Ta Fa (rd Aa (Zd))).f1) ((Ta Fa (rd Aa (Zd))).f2) ((Ta Fa (rd Aa (Zd))).f3) ((Ta Fa (rd Aa (Zd))).f4) t121 _ ?Fc ?Ec E7.out).mono ?_);(case Fc=>repeat (first|exact (Kd.Nb xX.out HB.out)|(with_reducible refine Kd.Ub ?_ _)|(with_reducible refine Kd.Tb ?_ _)|(with_reducible refine Kd.mc ?_)));(case Ec=>exact EX.out);rintro e OZ ⟨uaw,rfl,Ri,hb⟩;refine ⟨_,rfl,?_⟩;have Eb:=ga.mk (Kd.Dd (by (with_reducible repeat (first|apply Kd.Va|apply Kd.Ua|apply Kd.jb));exact qc.out) hb);have Ib:=ga.mk (Kd.mj (by (with_reducible repeat (first|apply Kd.Va|apply Kd.Ua|apply Kd.jb));exact wk.out) (Kd.Mh Ri) hb);have Sb:=ga.mk (Kd.mj (by (with_reducible repeat (first|apply Kd.Va|apply Kd.Ua|apply Kd.jb));exact fo.out) (Kd.Mh Ri) hb);have yc:=ga.mk (Kd.Fe (Kd.qm (Kd.qm Ri (Kd.Km (by (with_reducible repeat (first|apply Kd.Va|apply Kd.Ua|apply Kd.jb));exact wk.out))) (Kd.Km (by (with_reducible repeat (first|apply Kd.Va|apply Kd.Ua|apply Kd.jb));exact fo.out))) (Ja (by repeat (first|(with_reducible first|exact HB.out|apply oa|apply ia|apply qa|refine ua ?_ Sa.out)|exact HB.out))));have Ee:=ga.mk (Wa (g:=za) (o:=.cells #[.slice qb Ma.length mb,.int .i64 La,.int .i64 Na,.int .i64 Ka,.slice (some Yn) Fa.length Fb] 45 (0,0)) (by (with_reducible repeat (first|refine Ca ?_ _|refine Ea ?_|refine Da ?_ _));exact ta.out) hb);have mg:=ga.mk (Qa (by repeat (first|(with_reducible first|exact HB.out|apply oa|apply ia|apply qa|refine ua ?_ Sa.out)|exact HB.out)) hb);clear qc wk fo ta HB;have qc:=Eb;have wk:=Ib;have fo:=Sb;have xq:=yc;have ta:=Ee;have HB:=mg;clear Eb Ib Sb yc Ee mg;(try clear hb);(try clear Qj);(try clear hk);(try clear hi);(try clear Ri);obtain ⟨kJ,EI,G4⟩:=Kd.Nd xq.out;subst G4)|((with_reducible refine zb (f:=107) rfl ?_);refine Pc (some 46) rfl rfl Try.func107 (by kernel_rfl) rfl #[.slice kJ t121.length EI] rfl (by (try simp only [List.map_toArray,List.map_cons,List.map_nil]);first|done|rfl|(simp only [List.length_drop,List.length_take];rfl)) ?_;(with_reducible refine (Ya.calls k1 (fun k_=>some k_=(.slice kJ t121.length EI:Value).ownBlock) (.slice kJ t121.length EI) t121 t124 w _ ?Fc ?Ec A28.out).mono ?_);(case Fc=>repeat (first|(with_reducible first|exact HB.out|apply oa|apply ia|apply qa|refine ua ?_ Sa.out)|exact HB.out));(case Ec=>exact Kd.Fs rfl xq.out);rintro e w39 ⟨rfl,hy0,hb,hkp⟩;refine ⟨_,rfl,?_⟩;have Eb:=ga.mk (Kd.Mc (vp:=fun k_=>True) (Kd.XA ((Kd.qp qc.out (Kd.Mk xq.out) (by decide))) hkp (fun k_ sx hs_=>(sx.2) hs_)) (fun k_ sx=>trivial));have Ib:=ga.mk (Kd.Mc (vp:=fun k_=>some k_ ≠ (RD:Value).ownBlock∧some k_ ≠ (.slice kJ t121.length EI:Value).ownBlock) (Kd.XA (wk.out) hkp (fun k_ sx hs_=>(sx.2) hs_)) (fun k_ sx=>⟨sx.1.1.2,sx.1.2⟩));have Sb:=ga.mk (Fi (by (with_reducible repeat (first|refine Ca ?_ _|refine Ea ?_|refine Da ?_ _));exact ta.out) hkp (fun hs_=>(fun e_=>(Kd.Rq xq.out ta.out (by decide)) e_) hs_));have yc:=ga.mk (Kd.Mc (vp:=fun k_=>some k_ ≠ (.slice (some sq) ei.length XW:Value).ownBlock∧some k_ ≠ (.slice kJ t121.length EI:Value).ownBlock) (Kd.XA (fo.out) hkp (fun k_ sx hs_=>(sx.2) hs_)) (fun k_ sx=>⟨sx.1.1,sx.1.2⟩));have Ee:=ga.mk (Kd.rS rfl hy0 (fun k_ e_=>xq.out.1 k_ e_));have mg:=ga.mk (hb);clear qc wk ta fo xq HB;have qc:=Eb;have wk:=Ib;have ta:=Sb;have fo:=yc;have xq:=Ee;have HB:=mg;clear Eb Ib Sb yc Ee mg;(try clear hb);(try clear hkp);(try clear hy0))|((with_reducible refine lg (b:=.append) (xs:=#[.tmp 47,.tmp 48]) rfl ?_);at_builtin;refine Kd.Nv (Kd.int .i64) (w0:=w) w.heap.size rfl (.tmp 47) (.tmp 48) 22 3 (.int .i64 0) 8 rfl Try.underlying22 info3 rfl (by decide) (by omega) (.slice (some sq) ei.length XW) ei t124 _ _ _ (fun k_=>some k_ ≠ (RD:Value).ownBlock∧some k_ ≠ (.slice kJ t121.length EI:Value).ownBlock) (fun _=>False) rfl rfl ?aO ?aR (fun _ _ h=>h) (fun _ h=>h.elim) ?aF ?aB ?aS ?aL ?_;(case aR=>rw [show t121.length=t124.length from (Kd.Jb xq.out).1];repeat (first|exact (Kd.Jb xq.out).2.2|(with_reducible refine Kd.Ub ?_ _)|(with_reducible refine Kd.Tb ?_ _)|(with_reducible refine Kd.mc ?_)));(case aB=>exact (by repeat (first|(with_reducible first|exact HB.out|apply oa|apply ia|apply qa|refine ua ?_ Sa.out)|exact HB.out)));(case aF=>exact (fun k_ hk=>⟨Kd.fresh' (Kd.Km (by (with_reducible repeat (first|apply Kd.Va|apply Kd.Ua|apply Kd.jb));exact fo.out)) k_ hk,Kd.fresh' (Kd.Km (by (with_reducible repeat (first|apply Kd.Va|apply Kd.Ua|apply Kd.jb));exact xq.out)) k_ hk⟩));(case aO=>exact (by (with_reducible repeat (first|apply Kd.Va|apply Kd.Ua|apply Kd.jb));exact wk.out));(case aS=>exact (Ja (by repeat (first|(with_reducible first|exact HB.out|apply oa|apply ia|apply qa|refine ua ?_ Sa.out)|exact HB.out))));(case aL=>have:=Jad.out;have Uaw:=(Kd.Jb xq.out).1;omega);intro taw w40 ho hb hg hat;rw [← wS.out] at ho;have Eb:=ga.mk (Kd.Nk (by (with_reducible repeat (first|apply Kd.Va|apply Kd.Ua|apply Kd.jb));exact qc.out) (Kd.Mk (by (with_reducible repeat (first|apply Kd.Va|apply Kd.Ua|apply Kd.jb));exact wk.out)) (by decide) hg);have Ib:=ga.mk (Kf (g:=za) (o:=.cells #[.slice qb Ma.length mb,.int .i64 La,.int .i64 Na,.int .i64 Ka,.slice (some Yn) Fa.length Fb] 45 (0,0)) (by (with_reducible repeat (first|refine Ca ?_ _|refine Ea ?_|refine Da ?_ _));exact ta.out) hg (Kd.Rq wk.out ta.out (by decide)));have Sb:=ga.mk (Kd.Yg (ok:=(fun k_=>some k_ ≠ (.slice kJ t121.length EI:Value).ownBlock)) (by (with_reducible repeat (first|apply Kd.Va|apply Kd.Ua|apply Kd.jb));exact Kd.Mc fo.out (fun _ hk=>⟨hk.2,hk.1⟩)) hg hat);have yc:=ga.mk (Kd.Yg (ok:=(fun k_=>some k_ ≠ (RD:Value).ownBlock)) (by (with_reducible repeat (first|apply Kd.Va|apply Kd.Ua|apply Kd.jb));exact Kd.Mc xq.out (fun _ hk=>⟨hk.2,hk.1.2⟩)) hg hat);have Ee:=ga.mk (hb);have mg:=ga.mk (ho);clear qc ta fo xq HB wk;have qc:=Eb;have ta:=Ib;have fo:=Sb;have xq:=yc;have HB:=Ee;have nae:=mg;clear Eb Ib Sb yc Ee mg ho hb hg hat))
               go_roundg k1
               case measure=>have:=uf.out;omega
               case rel=>exact ⟨(wJ),(dB),(ZN),H',⟨by have:=uf.out;omega⟩,⟨by (with_reducible repeat (first|apply Kd.Va|apply Kd.Ua|apply Kd.jb));exact qc.out⟩,⟨by (with_reducible repeat (first|apply Kd.Va|apply Kd.Ua|apply Kd.jb));exact Kd.Mc fo.out (fun _ hk=>hk.2)⟩,⟨by (with_reducible repeat (first|apply Kd.Va|apply Kd.Ua|apply Kd.jb));exact Kd.Mc nae.out (fun _ hk=>hk.1)⟩,⟨by (with_reducible repeat (first|refine Ca ?_ _|refine Ea ?_|refine Da ?_ _));exact ta.out⟩,⟨by repeat (first|(with_reducible first|exact HB.out|apply oa|apply ia|apply qa|refine ua ?_ Sa.out)|exact HB.out)⟩⟩
              ·rw [if_neg VA] at H;exact absurd H (by simp)
             ·rw [if_neg N7] at H;exact absurd H (by simp)
            ·rw [if_neg sP] at H;exact absurd H (by simp)
          ·rw [if_neg Bp] at H;exact absurd H (by simp)
         ·rw [if_neg Xu] at H;exact absurd H (by simp)
        ·rw [if_neg jt] at H;exact absurd H (by simp)
       ·rw [if_neg Qz] at H;exact absurd H (by simp)
      ·rw [if_neg Bs] at H;exact absurd H (by simp)
     ·rw [if_neg Fq] at H;have Lv:decide (0 < (Aa.length:Int))=false:=decide_eq_false Fq;have Yac:decide (0 < Aa.length)=false:=decide_eq_false (by omega);clear Fq;obtain rfl:=Option.some.inj H;obtain ⟨Uaq,kaq,D4⟩:=Kd.Nd Zg.out;subst D4;go_wp2;go_ret;exact ⟨_,by first|rfl|(simp [Pa,Oa] <;> rfl)|(simp [*,Pa,Oa] <;> rfl),by (with_reducible repeat (first|apply Kd.Va|apply Kd.Ua|apply Kd.jb));exact Kd.Mc ec.out (fun _ hk=>trivial),by repeat (first|(with_reducible first|exact HB.out|apply oa|apply ia|apply qa|refine ua ?_ Sa.out)|exact HB.out)⟩
  ·rw [if_neg c3] at H;exact absurd H (by simp)
 ·rw [if_neg c2] at H;exact absurd H (by simp)
theorem NN {α:Type} (d:Kd α) (e:Nat) (w:World) (base:Nat) (h:base ≤ w.heap.size):d.R e (w.alloc (.cells #[] e (0,0))) base (fun _=>True) (.slice (some ⟨w.heap.size,0,none⟩) 0 0) []:=by
 refine ⟨fun _ _=>trivial,[],?_,⟨by simp,fun i p hp=>by simp at hp⟩⟩;have h2:=World.ownsRow_lit (base:=base) (e:=e) (size:=d.sz) w #[] 0 h (by simp [maxLen]) (by simp)
 simpa using h2
theorem BJ {α:Type} {d:Kd α} {e B:Nat} {ok:Nat→Prop} {W w':World} {v:Value} {xs:List α} (h:d.R e w' W.heap.size ok v xs) (hB:B ≤ W.heap.size):d.R e w' B (fun k=>W.heap.size ≤ k∧k < w'.heap.size) v xs :=
 Kd.Fe (Kd.Mc (Kd.Gi h) (fun _ hk=>⟨hk.2.1,hk.2.2.1⟩)) hB
theorem VZ {α:Type} {d:Kd α} {e B:Nat} {ok:Nat→Prop} {W w':World} {v:Value} {xs:List α} (h:Kd.S d e w' W.heap.size ok v xs) (hB:B ≤ W.heap.size):Kd.S d e w' B (fun k=>W.heap.size ≤ k∧k < w'.heap.size) v xs :=
 Kd.om (Kd.Gf (Kd.Zu h) (fun _ hk=>⟨hk.2.1,hk.2.2.1⟩)) hB
theorem uad {e:Nat} (w:World) (base:Nat) (n:Int) (h:base ≤ w.heap.size):Kd.R (Kd.int .i64) e (w.alloc (.cells #[.int .i64 n] e (0,0))) base (fun _=>True) (.slice (some ⟨w.heap.size,0,none⟩) 1 1) [n]:=by
 refine ⟨fun _ _=>trivial,[.int .i64 n],?_,⟨rfl,fun i p hp=>?_⟩⟩
 ·have h2:=World.ownsRow_lit (base:=base) (e:=e) (size:=1) w #[.int .i64 n] 1 h (by simp [maxLen]) (by simp);exact h2
 ·cases i with
  | zero =>
   simp at hp;subst hp
   rfl
  | succ i=>simp at hp
end Go.Proofs.Ytoomcmaifgkkfaa.P
end
section
namespace Go.Proofs.Ytoomcmaifgkkfaa.P
open Go.RowKit Go.Proofs.Ia.Pb Go.Proofs.Ia.Ld Go.Proofs.Ia.De
set_option linter.unusedVariables false
set_option linter.unusedSimpArgs false
open Go.Shelf
def yw:Go.Shelf.Ren:=⟨fun | 189=>112 | 125=>129 | 257=>128 | 128=>150 | 129=>151 | 294=>141 | 295=>142 | 296=>143 | 297=>144 | 298=>145 | 299=>146 | 216=>147 | 300=>148 | 301=>149 | 328=>155 | 329=>156 | 330=>157 | 331=>158 | 332=>159 | 215=>160 | 343=>162|n=>n,fun | 28=>22 | 3=>3 | 46=>130 | 0=>0 | 51=>159 | 53=>161 | 4=>4 | 183=>151 | 182=>150 | 131=>156 | 5=>5 | 9=>9 | 218=>163 | 222=>167 | 228=>170 | 229=>171|n=>n,fun|n=>n⟩
theorem Bv:Go.Proofs.Lays.n189 Try.prog yw:={
 mixed:=by kernel_rfl
 f125:=Try.func129.trans (congrArg some (by kernel_rfl))
 f128:=Try.func150.trans (congrArg some (by kernel_rfl))
 f129:=Try.func151.trans (congrArg some (by kernel_rfl))
 f189:=Try.func112.trans (congrArg some (by kernel_rfl))
 f215:=Try.func160.trans (congrArg some (by kernel_rfl))
 f216:=Try.func147.trans (congrArg some (by kernel_rfl))
 f257:=Try.func128.trans (congrArg some (by kernel_rfl))
 f294:=Try.func141.trans (congrArg some (by kernel_rfl))
 f295:=Try.func142.trans (congrArg some (by kernel_rfl))
 f296:=Try.func143.trans (congrArg some (by kernel_rfl))
 f297:=Try.func144.trans (congrArg some (by kernel_rfl))
 f298:=Try.func145.trans (congrArg some (by kernel_rfl))
 f299:=Try.func146.trans (congrArg some (by kernel_rfl))
 f300:=Try.func148.trans (congrArg some (by kernel_rfl))
 f301:=Try.func149.trans (congrArg some (by kernel_rfl))
 f328:=Try.func155.trans (congrArg some (by kernel_rfl))
 f329:=Try.func156.trans (congrArg some (by kernel_rfl))
 f330:=Try.func157.trans (congrArg some (by kernel_rfl))
 f331:=Try.func158.trans (congrArg some (by kernel_rfl))
 f332:=Try.func159.trans (congrArg some (by kernel_rfl))
 f343:=Try.func162.trans (congrArg some (by kernel_rfl))
 t0:=Try.underlying0
 a0:=Try.isAgg0
 z0:=Try.sizeOf0
 v0:=Try.zeroValue0
 t3:=Try.underlying3
 a3:=Try.isAgg3
 z3:=Try.sizeOf3
 v3:=Try.zeroValue3
 t4:=Try.underlying4
 a4:=Try.isAgg4
 z4:=Try.sizeOf4
 v4:=Try.zeroValue4
 t5:=Try.underlying5
 a5:=Try.isAgg5
 z5:=Try.sizeOf5
 v5:=Try.zeroValue5
 t9:=Try.underlying9
 a9:=Try.isAgg9
 z9:=Try.sizeOf9
 v9:=Try.zeroValue9
 t28:=Try.underlying22
 a28:=Try.isAgg22
 z28:=Try.sizeOf22
 v28:=Try.zeroValue22
 t46:=Try.underlying130
 a46:=Try.isAgg130
 z46:=Try.sizeOf130
 v46:=Try.zeroValue130
 t51:=Try.underlying159
 a51:=Try.isAgg159
 z51:=Try.sizeOf159
 v51:=Try.zeroValue159
 t53:=Try.underlying161
 a53:=Try.isAgg161
 z53:=Try.sizeOf161
 v53:=Try.zeroValue161
 t131:=Try.underlying156
 a131:=Try.isAgg156
 z131:=Try.sizeOf156
 v131:=Try.zeroValue156
 t182:=Try.underlying150
 a182:=Try.isAgg150
 z182:=Try.sizeOf150
 v182:=Try.zeroValue150
 t183:=Try.underlying151
 a183:=Try.isAgg151
 z183:=Try.sizeOf151
 v183:=Try.zeroValue151
 t218:=Try.underlying163
 a218:=Try.isAgg163
 z218:=Try.sizeOf163
 v218:=Try.zeroValue163
 t222:=Try.underlying167
 a222:=Try.isAgg167
 z222:=Try.sizeOf167
 v222:=Try.zeroValue167
 t228:=Try.underlying170
 a228:=Try.isAgg170
 z228:=Try.sizeOf170
 v228:=Try.zeroValue170
 t229:=Try.underlying171
 a229:=Try.isAgg171
 z229:=Try.sizeOf171
 v229:=Try.zeroValue171 }
open Go.Sort Go.RowKit in
theorem Xs (blk off cap:Nat) (zs:List Int) (w:World) (hH:Holds (Value.int .i64) w blk off zs.toArray) (hblk:blk < w.heap.size) (hsz:zs.length < 4611686018427387904) :
  Calls Try.prog 112 #[.slice (some ⟨blk,off,none⟩) zs.length cap] w fun e w' =>
   e = .returned (.tuple #[])∧∃ n os,w' = grow (putRow (Value.int .i64) (Sort.ahead w n) blk off (zs.mergeSort fun x y=>decide (x ≤ y)).toArray) os:=Any.slices_Sort_int Bv blk off cap zs w hH hblk hsz
def cv:Go.Shelf.Ren:=⟨fun | 20=>113|n=>n,fun | 22=>22 | 3=>3 | 4=>4 | 0=>0|n=>n,fun|n=>n⟩
theorem Ss:Go.Proofs.Lays2.n20 Try.prog cv:={
 mixed:=by kernel_rfl
 f20:=Try.func113.trans (congrArg some (by kernel_rfl))
 t0:=Try.underlying0
 a0:=Try.isAgg0
 z0:=Try.sizeOf0
 v0:=Try.zeroValue0
 t3:=Try.underlying3
 a3:=Try.isAgg3
 z3:=Try.sizeOf3
 v3:=Try.zeroValue3
 t4:=Try.underlying4
 a4:=Try.isAgg4
 z4:=Try.sizeOf4
 v4:=Try.zeroValue4
 t22:=Try.underlying22
 a22:=Try.isAgg22
 z22:=Try.sizeOf22
 v22:=Try.zeroValue22
 i3:=by kernel_rfl }
open Go.RowKit Go.Lib Go.Sort in
theorem Aq (blk off cap:Nat) (zs:List Int) (w:World) (hH:Holds (Value.int .i64) w blk off zs.toArray) (hsz:zs.length ≤ 9223372036854775807) (hcap:zs.length ≤ cap) :
  Calls Try.prog 113 #[.slice (some ⟨blk,off,none⟩) zs.length cap] w fun e w'=>e = .returned (.slice (some ⟨blk,off,none⟩) (Lib.compact zs).length cap)∧∃ q,w' = putRow (Value.int .i64) (Sort.ahead w q) blk off (Lib.compact zs ++ List.replicate (zs.length - (Lib.compact zs).length) 0).toArray:=Any.slices_Compact_int Ss blk off cap zs w hH hsz hcap
open Go.RowKit Go.Lib Go.Sort in
theorem Dm (a:Option Addr) (cap:Nat) (w:World) :
  Calls Try.prog 113 #[.slice a 0 cap] w fun e w'=>e = .returned (.slice a 0 cap)∧w' = w:=Any.slices_Compact_int_empty Ss a cap w
open Go.RowKit Go.Sort in
theorem Ro (p:Option Addr) (cap:Nat) (w:World) :
  Calls Try.prog 112 #[.slice p 0 cap] w fun e w'=>e = .returned (.tuple #[])∧w' = w:=Any.slices_Sort_int_none Bv p cap w
end Go.Proofs.Ytoomcmaifgkkfaa.P
end
section
namespace Go.Proofs.Ytoomcmaifgkkfaa.P
open Go.RowKit Go.Proofs.Ia.Pb Go.Proofs.Ia.Ld Go.Proofs.Ia.De
set_option linter.unusedVariables false
set_option linter.unusedSimpArgs false
def KG (l:List Int):List Int:=Go.Lib.compact (l.mergeSort fun x y=>decide (x ≤ y))
def Mi.f (l0:List Int):Option (List Int):=if l0.length ≤ 4398046511104 then some (KG l0) else none
theorem CI (zs:List Int):(Go.Lib.compact zs).length ≤ zs.length:=by
 unfold Go.Lib.compact Go.Lib.compactUpTo;rw [List.length_map];have:=List.length_filter_le (Go.Lib.keeps zs.toArray) (List.range zs.length)
 rwa [List.length_range] at this
open Go.RowKit Go.Lib Go.Sort in
theorem dX (B g n c:Nat) (P:Nat→Prop) (l0:List Int) (w:World) (hn:l0.length=n) (hgB:B ≤ g) (hP:P g) (hl:n ≤ 4398046511104) (hown:w.ownsRow B 3 1 (.slice (some ⟨g,0,none⟩) n c) n (Ap (Value.int .i64) l0)) :
  Calls Try.prog 86 #[.slice (some ⟨g,0,none⟩) n c] w fun e w'=>∃ Xn:Value,e = .returned Xn∧Kd.R (Kd.int .i64) 3 w' B P Xn (KG l0)∧w.grownBy w' (some g):=by
 obtain ⟨cur,hb,h1,h2,h3,h4⟩:∃ cur,w.heap[g]? = some (.cells cur 3 (0,0))∧n ≤ c∧c ≤ maxLen∧cur.size=c * 1∧cur.toList.take (n * 1)=Ap (Value.int .i64) l0:=by
  rcases hown.2 with ⟨h0,_⟩|⟨g',cap',cur,hv,_,hh,a1,a2,a3,a4⟩
  ·cases h0
  ·cases hv;exact ⟨cur,hh,a1,a2,a3,a4⟩
 subst hn;rw [Nat.mul_one] at h4;have HH:=ga.mk (holds_of_blockI (ss:=l0) hb (by rw [h4];rfl));have HG:=ga.mk (Array.getElem?_eq_some_iff.1 hb).1;have HB:=ga.mk hb;have H1:=ga.mk h1;have H2:=ga.mk h2;have H3:=ga.mk h3;have H4:=ga.mk h4;clear hown hb h1 h2 h3 h4;obtain ⟨s,hs⟩:∃ s:List Int,s=l0.mergeSort fun x y=>decide (x ≤ y):=⟨_,rfl⟩
 have J7:s.length=l0.length:=by rw [hs];exact List.length_mergeSort l0
 have HS:=ga.mk hs;have P7:=ga.mk J7;clear hs J7;go_enter Try.func86,Try.ntmps86
 go_upto_region 2 with (go_at_call 112;(with_reducible refine (Xs g 0 c l0 w HH.out HG.out (by omega)).mono ?_);rintro e w1 ⟨rfl,m,os,hw1⟩;have HW1:=ga.mk hw1;clear hw1)
 have ZC:=ga.mk (show w1.heap[g]? = some (.cells (putCells (Value.int .i64) 0 s.toArray cur) 3 (0,0)) from by rw [HW1.out,← HS.out];exact heap_sortedI _ HB.out);have bL:=ga.mk (show w.grownBy w1 (some g) from by rw [HW1.out];exact grownBy_sortedI _);have HH1:=ga.mk (holds_of_blockI (ss:=s) ZC.out (take_putCellsI cur s (by have:=H3.out;have:=H1.out;have:=P7.out;omega)));have hcp:(Go.Lib.compact s).length ≤ s.length:=CI s;have HCP:=ga.mk hcp;clear hcp;have HL:=ga.mk hl;clear hl;have HCC:=ga.mk (Aq g 0 c s w1 HH1.out (by have:=HL.out;have:=P7.out;omega) (by have:=H1.out;have:=P7.out;omega));rw [P7.out] at HCC;go_wp2_with (go_at_call 113;(refine HCC.out.mono ?_);rintro e w2 ⟨rfl,q,hw2⟩;have HW2:=ga.mk hw2;clear hw2);go_ret
 have hz:(Go.Lib.compact s ++ List.replicate (l0.length - (Go.Lib.compact s).length) 0).length=s.length:=by
  rw [List.length_append,List.length_replicate];have:=HCP.out;have:=P7.out;omega
 refine ⟨_,rfl,?_,?_⟩
 ·have hr:=ownsRow_sortedI (w:=w1) (base:=B) (n:=q) (os:=#[]) (ss:=s) (ts:=Go.Lib.compact s ++ List.replicate (l0.length - (Go.Lib.compact s).length) 0) hz hgB ZC.out (by rw [P7.out];exact H1.out) H2.out (by simp [putCells,H3.out]);rw [grow_empty,← HW2.out] at hr
  have hR:Kd.R (Kd.int .i64) 3 w2 B P (.slice (some ⟨g,0,none⟩) s.length c) (Go.Lib.compact s ++ List.replicate (l0.length - (Go.Lib.compact s).length) 0):=Kd.VI (by rw [hz];exact hr) (fun k hk=>by
   have:g=k:=by simpa [Value.ownBlock] using hk
   subst this
   exact hP)
  have ht:=Kd.MG (m:=(Go.Lib.compact s).length) hR (by rw [hz];exact HCP.out);rw [List.take_left] at ht;unfold KG;rw [← HS.out];exact ht
 ·have h2:=grownBy_sortedI (w:=w1) (g:=g) (n:=q) (os:=#[]) (Go.Lib.compact s ++ List.replicate (l0.length - (Go.Lib.compact s).length) 0).toArray;rw [grow_empty,← HW2.out] at h2;exact bL.out.trans h2
theorem Mi.calls (Vk:Nat→Prop) (Bg:Value) (l0:List Int) (r:List Int) (w0 w:World) (hB:Below w0.heap.size w0 w) (Ri:Kd.R (Kd.int .i64) 3 w w0.heap.size Vk Bg l0) (h:Mi.f l0=some r) :
  Calls Try.prog 86 #[Bg] w fun e w'=>∃ Xn:Value,e = .returned (Xn)∧Kd.R (Kd.int .i64) 3 w' w0.heap.size (fun k_=>(Vk k_ ∨ w.heap.size ≤ k_)) Xn r∧Below w0.heap.size w0 w'∧Kept w w' (fun k_=>Vk k_):=by
 unfold Mi.f at h;have hl:l0.length ≤ 4398046511104:=Decidable.byContradiction fun hn=>by rw [if_neg hn] at h;cases h
 rw [if_pos hl] at h;obtain rfl:=Option.some.inj h;have ho:=Kd.Cw Ri;have hbase:=Kd.Mh Ri;have hP:=Ri.1
 rcases ho.2 with ⟨rfl,h0⟩|⟨g,cap,cur,rfl,hg,_⟩
 ·obtain rfl:l0=[]:=List.eq_nil_of_length_eq_zero h0;clear ho Ri hbase hP h;have HB:=ga.mk hB;clear hB;go_enter Try.func86,Try.ntmps86
  go_upto_region 2 with (go_at_call 112;(with_reducible refine (Ro none 0 w).mono ?_);rintro e w1 ⟨rfl,rfl⟩)
  go_wp2_with (go_at_call 113;(with_reducible refine (Dm none 0 _).mono ?_);rintro e w2 ⟨rfl,rfl⟩);go_ret;exact ⟨_,rfl,by rw [show KG []=[] from by simp [KG,Go.Lib.compact,Go.Lib.compactUpTo]];exact Kd.Hz _ _ _ _ _,HB.out,Kept.refl _ _⟩
 ·have hPg:=hP g rfl;refine (dX w0.heap.size g l0.length cap (fun k_=>(Vk k_ ∨ w.heap.size ≤ k_)) l0 w rfl hg (Or.inl hPg) hl ho).mono ?_;rintro e w' ⟨v,he,hr,hgw⟩;exact ⟨v,he,hr,Dt hB _ hB.size hgw (fun k hk=>by cases hk;exact hg),Kept.Sg hgw (Kept.refl _ _) (fun k hk=>by cases hk;exact Or.inl hPg)⟩
theorem jX {base g n cap:Nat} {ok:Nat→Prop} (m:Nat):∀ (W:World) (xs:List Int) (i:Nat),i + m=xs.length→Kd.R (Kd.int .i64) 3 W base ok (.slice (some ⟨g,0,none⟩) n cap) xs →
  Kd.R (Kd.int .i64) 3 (W.setCells g i (List.replicate m (.int .i64 0))) base ok (.slice (some ⟨g,0,none⟩) n cap) (xs.take i ++ List.replicate m 0)∧W.grownBy (W.setCells g i (List.replicate m (.int .i64 0))) (some g):=by
 induction m with
 | zero =>
  intro W xs i hi h;rw [List.take_of_length_le (by omega)];simp only [List.replicate_zero,List.append_nil];exact ⟨h,World.grownBy.refl _ _⟩
 | succ m ih =>
  intro W xs i hi h;obtain ⟨h2,h3⟩:=Kd.Jm (enc:=Value.int .i64) (h1:=fun _=>rfl) h (i:Int) 0;rw [Int.toNat_natCast] at h2 h3;obtain ⟨h4,h5⟩:=ih _ _ (i + 1) (by rw [List.length_set];omega) h2;have e:W.setCells g i (List.replicate (m + 1) (.int .i64 0))=(W.setCell ⟨g,i,none⟩ (.int .i64 0)).setCells g (i + 1) (List.replicate m (.int .i64 0)):=rfl;rw [e];refine ⟨?_,h3.trans h5⟩
  have e2:(xs.set i 0).take (i + 1) ++ List.replicate m 0=xs.take i ++ List.replicate (m + 1) 0:=by
   rw [List.take_set,List.replicate_succ,List.take_succ_eq_append_getElem (by omega),List.set_append_right _ _ (by rw [List.length_take];omega),List.length_take,Nat.min_eq_left (by omega),Nat.sub_self,List.set_cons_zero,List.append_assoc]
   rfl
  rw [← e2];exact h4
theorem eE (g:Nat) (lb:Array Value) (p:Int→Bool) (eg:∀ args w,(callFunc g args).run Try.prog w = .ok (.enter g args) w) (A0:Option Addr) (c0:Nat) (l0:List Int) (w:World) (Zj:Kd.C (Kd.int .i64) w A0 l0.length l0) (hc0:l0.length ≤ c0)
  (hp:∀ (W:World) (x:Int),Below w.heap.size w W→Calls Try.prog g (#[(.int .i64 x)] ++ lb) W fun e w'=>e = .returned (.bool (p x))∧Below W.heap.size W w') :
  Calls Try.prog 105 #[.slice A0 l0.length c0,.func (.func g) #[] lb] w fun e w'=>(e = .returned (.int .i64 (-1))∧l0.any p=false ∨ ∃ i:Nat,i < l0.length∧e = .returned (.int .i64 i)∧p (rd l0 (i:Int))=true∧(l0.take i).any p=false)∧Below w.heap.size w w':=by
 have F9:=Zj.2.1;have Dn:=ga.mk Zj;have bH:=ga.mk hc0;have HP:=ga.mk hp;clear Zj hc0 hp;go_enter Try.func105,Try.ntmps105;go_wp2
 go_loopg [5,8] l0.length (fun gg _ s8 wr=>∃ kk:Nat,kk ≤ l0.length∧l0.length - kk ≤ gg∧s8 = .int .i64 kk∧ga (Below w.heap.size w wr)∧ga ((l0.take kk).any p=false))
 case atStart=>exact ⟨0,Nat.zero_le _,by omega,rfl,⟨Below.refl _ w⟩,⟨by simp⟩⟩
 case round =>
  (try clear BW);(try clear HA);obtain ⟨kk,hkk,hg,rfl,BW,HA⟩:=hrel
  by_cases hlt:kk < l0.length
  ·have p1:0 ≤ (kk:Int):=by omega
   have q1:(kk:Int) < (l0.length:Int):=by omega
   obtain ⟨ad,e1,hx0⟩:=Kd.Te Dn.out (kk:Int) p1 q1;cases e1;simp only [Int.toNat_natCast] at hx0;replace hx0:=(BW.out.cell (World.block_lt_of_cell? w _ hx0)).trans hx0;have hcall:=HP.out wr (rd l0 (kk:Int)) BW.out;cases hq:p (rd l0 (kk:Int)) with
   | true =>
    rw [hq] at hcall;have HQ:=ga.mk hq;clear hq;go_wp2_with (go_at_fn g;refine hcall.mono ?_;rintro e w1 ⟨rfl,Wq⟩);go_ret;exact ⟨Or.inr ⟨kk,hlt,rfl,HQ.out,HA.out⟩,BW.out.trans (Wq.mono BW.out.size)⟩
   | false =>
    rw [hq] at hcall;go_wp2_with (go_at_fn g;refine hcall.mono ?_;rintro e w1 ⟨rfl,Wq⟩)
    go_roundg (l0.length - (kk + 1))
    case measure=>omega
    case rel=>exact ⟨kk + 1,by omega,by omega,by go_num,⟨BW.out.trans (Wq.mono BW.out.size)⟩,⟨Gq (d:=0) hlt HA.out hq⟩⟩
  ·have E2:¬ (kk:Int) < (l0.length:Int):=by omega
   have he:kk=l0.length:=by omega
   subst he;go_wp2;go_ret;exact ⟨Or.inl ⟨rfl,by have h_:=HA.out;rw [List.take_length] at h_;simpa using h_⟩,BW.out⟩
def gT (l xs:List Int) (p:Int→Bool) (i j:Nat):Prop:=i < j∧j ≤ l.length∧xs.length=l.length∧xs.take i=(l.take j).filter (fun x=>!p x)∧xs.drop j=l.drop j
theorem Sj {l:List Int} {j:Nat} (hj:j < l.length):rd l (j:Int)=l[j]:=by simp [rd,List.getD_eq_getElem?_getD,hj]
theorem gT.keep {l xs:List Int} {p:Int→Bool} {i j:Nat} (h:gT l xs p i j) (hj:j < l.length) (hp:p (rd l (j:Int))=false):gT l (xs.set i (rd l (j:Int))) p (i + 1) (j + 1):=by
 obtain ⟨h1,h2,h3,h4,h5⟩:=h;rw [Sj hj] at hp ⊢;refine ⟨by omega,by omega,by rw [List.length_set];exact h3,?_,?_⟩
 ·rw [List.take_succ_eq_append_getElem (show j < l.length from hj),List.filter_append,← h4];rw [List.take_set,List.take_succ_eq_append_getElem (by omega),List.set_append_right _ _ (by rw [List.length_take];omega),List.length_take,Nat.min_eq_left (by omega),Nat.sub_self,List.set_cons_zero];simp [hp]
 ·rw [List.drop_set_of_lt (by omega)];have e1:xs.drop (j + 1)=(xs.drop j).drop 1:=by rw [List.drop_drop]
  have e2:l.drop (j + 1)=(l.drop j).drop 1:=by rw [List.drop_drop]
  rw [e1,e2,h5]
theorem gT.skip {l xs:List Int} {p:Int→Bool} {i j:Nat} (h:gT l xs p i j) (hj:j < l.length) (hp:p (rd l (j:Int))=true):gT l xs p i (j + 1):=by
 obtain ⟨h1,h2,h3,h4,h5⟩:=h;rw [Sj hj] at hp;refine ⟨by omega,by omega,h3,?_,?_⟩
 ·rw [List.take_succ_eq_append_getElem (show j < l.length from hj),List.filter_append,← h4];simp [hp]
 ·have e1:xs.drop (j + 1)=(xs.drop j).drop 1:=by rw [List.drop_drop]
  have e2:l.drop (j + 1)=(l.drop j).drop 1:=by rw [List.drop_drop]
  rw [e1,e2,h5]
theorem gT.at_ {l xs:List Int} {p:Int→Bool} {i j:Nat} (h:gT l xs p i j) (hj:j < l.length):Eg 0 xs (j:Int)=rd l (j:Int):=by
 obtain ⟨h1,h2,h3,h4,h5⟩:=h;have:=congrArg List.head? h5;rw [List.head?_drop,List.head?_drop] at this;simp [rd,Eg,List.getD_eq_getElem?_getD,this]
theorem iy {l:List Int} {p:Int→Bool} (h:l.any p=false):l.filter (fun x=>!p x)=l:=by
 rw [List.filter_eq_self];intro x hx;have:=List.any_eq_false.1 h x hx
 simpa using this
theorem zI (g:Nat) (lb:Array Value) (p:Int→Bool) (eg:∀ args w,(callFunc g args).run Try.prog w = .ok (.enter g args) w) (P_:Nat→Prop) (A:Option Addr) (c:Nat) (l:List Int) (base:Nat) (w0 w:World) (hB:Below base w0 w) (hbs:base ≤ w.heap.size) (ho:Kd.R (Kd.int .i64) 3 w base P_ (.slice A l.length c) l)
  (hp:∀ (W:World) (x:Int),Kept w W P_→Calls Try.prog g (#[(.int .i64 x)] ++ lb) W fun e w'=>e = .returned (.bool (p x))∧Below W.heap.size W w') :
  Calls Try.prog 74 #[.slice A l.length c,.func (.func g) #[] lb] w fun e w'=>e = .returned (.slice A (l.filter (fun x=>!p x)).length c)∧Kd.R (Kd.int .i64) 3 w' base P_ (.slice A (l.filter (fun x=>!p x)).length c) (l.filter (fun x=>!p x))∧Below base w0 w'∧Kept w w' P_:=by
 obtain ⟨hn,hnc,hC⟩:=Kd.Jb ho;have F9:=hC.2.1;have HP:=ga.mk hp;have HI:=ga.mk (eE g lb p eg A c l w hC hnc (fun W x hb=>hp W x (Kept.Wo hb P_)));have HO:=ga.mk ho;have HB:=ga.mk hB;have HBS:=ga.mk hbs;clear hp hC ho hB hn;go_enter Try.func74,Try.ntmps74
 go_upto_region 2 with (go_at_call 105;refine HI.out.mono ?_;rintro e w1 ⟨hi,Wq⟩;have ZC:=ga.mk Wq;clear Wq;(rcases hi with ⟨rfl,BR⟩|⟨i0,hi0,rfl,hpi,BR⟩))
 ·have HN:=ga.mk (iy BR);clear BR;go_wp2;go_ret;rw [HN.out];exact ⟨rfl,Kd.Dd HO.out ZC.out,HB.out.trans (ZC.out.mono hbs),Kept.Wo ZC.out P_⟩
 ·have dao:((i0:Int) == -1)=false:=beq_eq_false_iff_ne.2 (by omega)
  have HD0:=ga.mk (show gT l l p i0 (i0 + 1) from ⟨by omega,by omega,rfl,by
   rw [Sj hi0] at hpi;rw [List.take_succ_eq_append_getElem hi0,List.filter_append,iy BR]
   simp [hpi],rfl⟩)
  have HO1:=ga.mk (Kd.Dd HO.out ZC.out);have vt:=ga.mk (HB.out.trans (ZC.out.mono hbs));have uf:=ga.mk (Kept.Wo ZC.out P_);clear hpi BR HI HO HB ZC;go_wp2
  go_loopg [5,6] l.length (fun gg v5 v6 wr=>∃ (i j:Nat) (xs:List Int),v5 = .int .i64 i∧v6 = .int .i64 j∧l.length - j ≤ gg∧ga (gT l xs p i j)∧ga (Kd.R (Kd.int .i64) 3 wr base P_ (.slice A l.length c) xs)∧ga (Below base w0 wr)∧ga (Kept w wr P_))
  case atStart=>exact ⟨i0,i0 + 1,l,rfl,by go_num,by omega,HD0,HO1,vt,uf⟩
  case round =>
   clear HD0 HO1 vt uf dao hi0;(try clear HD);(try clear HO);(try clear HB);(try clear HK);obtain ⟨i,j,xs,rfl,rfl,hg,HD,HO,HB,HK⟩:=hrel;obtain ⟨d1,d2,d3,_,_⟩:=HD.out;have HXL:=ga.mk d3;clear d3
   by_cases hlt:j < l.length
   ·have p1:0 ≤ (j:Int):=by omega
    have p2:(j:Int) < (l.length:Int):=by omega
    have dK:decide ((j:Int) < (l.length:Int))=true:=decide_eq_true p2;obtain ⟨gb,cb,he,-⟩:=Kd.Uk (by exact HO.out) (by have:=HXL.out;omega);have he2:A=some ⟨gb,0,none⟩:=by injection he
    subst he2;clear he;obtain ⟨hx0,-⟩:=Kd.Fh (enc:=Value.int .i64) (h1:=fun _=>rfl) 0 HO.out (j:Int) p1 (by omega);rw [HD.out.at_ hlt,Int.toNat_natCast] at hx0;have hcall:=HP.out wr (rd l (j:Int)) HK.out;cases hq:p (rd l (j:Int)) with
    | true =>
     rw [hq] at hcall;have U7:=ga.mk (HD.out.skip hlt hq);clear hq;go_wp2_with (go_at_fn g;refine hcall.mono ?_;rintro e w7 ⟨rfl,MW⟩;have Q7:=ga.mk (Kd.Dd HO.out MW);have X7:=ga.mk (HB.out.trans (MW.mono (Nat.le_trans HBS.out HK.out.1)));have HK7:=ga.mk (HK.out.below MW);clear MW)
     go_roundg (l.length - (j + 1))
     case measure=>omega
     case rel=>exact ⟨i,j + 1,xs,rfl,by go_num,by omega,U7,Q7,X7,HK7⟩
    | false =>
     rw [hq] at hcall;have U7:=ga.mk (HD.out.keep hlt hq);clear hq
     go_upto_region 9 with (go_at_fn g;refine hcall.mono ?_;rintro e w7 ⟨rfl,MW⟩;have Q7:=ga.mk (Kd.Dd HO.out MW);have X7:=ga.mk (HB.out.trans (MW.mono (Nat.le_trans HBS.out HK.out.1)));have HK7:=ga.mk (HK.out.below MW);clear MW hx0)
     obtain ⟨Zj,hf0⟩:=Kd.Fh (enc:=Value.int .i64) (h1:=fun _=>rfl) 0 Q7.out (i:Int) (by omega) (by omega);have hbg:=(Kd.Mh Q7.out) gb rfl;have hpg:=Q7.out.1 gb rfl;have DX:=ga.mk (And.intro hbg hpg);have vX:=ga.mk (Kd.Jm (enc:=Value.int .i64) (h1:=fun _=>rfl) Q7.out (i:Int) (rd l (j:Int)));simp only [Int.toNat_natCast] at Zj hf0;rw [Int.toNat_natCast] at vX;clear hbg hpg;go_wp2
     go_roundg (l.length - (j + 1))
     case measure=>omega
     case rel =>
      exact ⟨i + 1,j + 1,_,by go_num,by go_num,by omega,U7,⟨vX.out.1⟩,⟨X7.out.grown vX.out.2 (Nat.le_trans HBS.out HK7.out.1) (fun k_ e=>by injection e with e;rw [← e];exact DX.out.1)⟩,⟨Kept.Sg vX.out.2 HK7.out (fun k_ e=>Or.inl (by injection e with e;rw [← e];exact DX.out.2))⟩⟩
   ·obtain rfl:j=l.length:=by omega
    have E2:decide ((l.length:Int) < (l.length:Int))=false:=decide_eq_false (by omega);obtain ⟨A',c',he,_⟩:=Kd.Uk (by exact HO.out) (by have:=HXL.out;omega);have he2:A=some ⟨A',0,none⟩:=by injection he
    subst he2;clear he;have hic:¬ c=i:=by omega
    have aT:¬ i=c:=by omega
    have NC:∀ ty,(Builtin.clear_ #[22] ty #[.slice (some ⟨A',i,none⟩) (l.length - i) (c - i)]).run Try.prog wr = .ok (.tuple #[]) (wr.setCells A' i (List.replicate (l.length - i) (.int .i64 0))) :=
     fun ty=>Go.Lib.run_clear_slice wr 22 3 ty (.int .i64 0) Try.underlying22 (fun w=>by go_simp) rfl rfl A' i _ _ (by omega) (fun t ht=>by
      have:=(Kd.Fh (enc:=Value.int .i64) (h1:=fun _=>rfl) 0 HO.out ((i + t:Nat):Int) (by omega) (by omega)).1;rw [Int.toNat_natCast] at this;rw [this]
      rfl) (fun t ht=>by
      have:=(Kd.Fh (enc:=Value.int .i64) (h1:=fun _=>rfl) 0 HO.out ((i + t:Nat):Int) (by omega) (by omega)).2
      rwa [Int.toNat_natCast] at this)
    have HZR:=ga.mk (jX (l.length - i) wr xs i (by have:=HXL.out;omega) HO.out);have DX:=ga.mk (And.intro ((Kd.Mh HO.out) A' rfl) (HO.out.1 A' rfl));go_wp2;go_ret;obtain ⟨e1,e2,e3,e4,e5⟩:=HD.out;rw [List.take_length] at e4;have e6:(l.filter (fun x=>!p x)).length=i:=by rw [← e4,List.length_take];omega
    rw [e6];refine ⟨rfl,?_,HB.out.grown HZR.out.2 (Nat.le_trans HBS.out HK.out.1) (fun k_ e=>by injection e with e;rw [← e];exact DX.out.1),Kept.Sg HZR.out.2 HK.out (fun k_ e=>Or.inl (by injection e with e;rw [← e];exact DX.out.2))⟩;have h:=Kd.MG HZR.out.1 (m:=i) (by rw [List.length_append,List.length_take];omega)
    rwa [List.take_append_of_le_length (by rw [List.length_take];omega),List.take_take,Nat.min_self,e4] at h
inductive Bn (nx:Nat→List Int):Nat→Prop
 | zero:Bn nx 0
 | step {i:Nat} {j:Int}:Bn nx i→j ∈ nx i→Bn nx j.toNat
def seen (s:List Bool) (j:Nat):Bool:=s.getD j false
theorem gj {s:List Bool} {i j:Nat} (hi:i < s.length):seen (s.set i true) j=(decide (i=j) || seen s j):=by
 unfold seen;rw [List.getD_eq_getElem?_getD,List.getD_eq_getElem?_getD,List.getElem?_set]
 by_cases h:i=j
 ·simp [h];subst h;simp [hi]
 ·simp [h]
def news (s:List Bool):Nat:=s.count false
theorem Ew {s:List Bool} {i:Nat} (hi:i < s.length) (h:seen s i=false):news (s.set i true) + 1=news s:=by
 unfold news;rw [List.count_set hi];unfold seen at h;rw [List.getD_eq_getElem?_getD,List.getElem?_eq_getElem hi] at h;have h':s[i]=false:=by simpa using h
 have hp:0 < s.count false:=List.count_pos_iff.mpr (h' ▸ List.getElem_mem hi);simp [h'];omega
def Qf (p:List Bool × List Int) (j:Int):List Bool × List Int:=if seen p.1 j.toNat=true then p else (p.1.set j.toNat true,p.2 ++ [j])
structure XC (n:Nat) (nx:Nat→List Int) (s:List Bool) (q:List Int):Prop where
 len:s.length=n
 JP:∀ j ∈ q,0 ≤ j∧j < n∧seen s j.toNat=true
 qJ:∀ j,seen s j=true→Bn nx j
 cap:q.length + news s ≤ n
 jT:seen s 0=true
def Shut (nx:Nat→List Int) (s:List Bool) (q:List Int) (i:Nat):Prop:=∀ j,seen s j=true→(j:Int) ∉ q→j ≠ i→∀ m ∈ nx j,seen s m.toNat=true
theorem SP {n:Nat} {nx:Nat→List Int} {s:List Bool} {q:List Int} {i:Nat} (h:XC n nx s q) (hs:Shut nx s q i) {j:Int} (h0:0 ≤ j) (h1:j < n) (hr:Bn nx j.toNat) :
  XC n nx (Qf (s,q) j).1 (Qf (s,q) j).2∧Shut nx (Qf (s,q) j).1 (Qf (s,q) j).2 i∧seen (Qf (s,q) j).1 j.toNat=true∧(∀ m,seen s m=true→seen (Qf (s,q) j).1 m=true)∧2 * news (Qf (s,q) j).1 + (Qf (s,q) j).2.length ≤ 2 * news s + q.length:=by
 have hl:j.toNat < s.length:=by rw [h.len];omega
 unfold Qf
 by_cases hc:seen s j.toNat=true
 ·simp only [if_pos hc];exact ⟨h,hs,hc,fun m hm=>hm,Nat.le_refl _⟩
 ·simp only [if_neg hc];have hf:seen s j.toNat=false:=by simpa using hc
  have hn:=Ew hl hf;have hk:∀ m,seen s m=true→seen (s.set j.toNat true) m=true:=fun m hm=>by rw [gj hl,hm,Bool.or_true]
  refine ⟨⟨?_,?_,?_,?_,?_⟩,?_,?_,hk,?_⟩
  ·rw [List.length_set];exact h.len
  ·intro m hm
   rcases List.mem_append.mp hm with hm|hm
   ·obtain ⟨a,b,c⟩:=h.JP m hm;exact ⟨a,b,hk _ c⟩
   ·rw [List.mem_singleton] at hm;subst hm;refine ⟨h0,h1,?_⟩;rw [gj hl];simp
  ·intro m hm;rw [gj hl] at hm
   by_cases e:j.toNat=m
   ·rw [← e];exact hr
   ·simp [e] at hm;exact h.qJ m hm
  ·have:=h.cap;rw [List.length_append,List.length_singleton];omega
  ·exact hk _ h.jT
  ·intro a ha hq hi m hm;rw [gj hl] at ha
   have hq':(a:Int) ∉ q∧(a:Int) ≠ j:=by
    rw [List.mem_append,List.mem_singleton] at hq;exact ⟨fun x=>hq (Or.inl x),fun x=>hq (Or.inr x)⟩
   have e:j.toNat ≠ a:=fun e=>hq'.2 (by omega)
   simp [e] at ha;exact hk _ (hs a ha hq'.1 hi m hm)
  ·rw [gj hl];simp
  ·rw [List.length_append,List.length_singleton];omega
theorem wH {n:Nat} {nx:Nat→List Int} {i:Nat} (hi:Bn nx i):∀ (l:List Int) (s:List Bool) (q:List Int),XC n nx s q→Shut nx s q i→(∀ j ∈ l,0 ≤ j∧j < n∧j ∈ nx i) →
  XC n nx (l.foldl Qf (s,q)).1 (l.foldl Qf (s,q)).2∧Shut nx (l.foldl Qf (s,q)).1 (l.foldl Qf (s,q)).2 i∧(∀ j ∈ l,seen (l.foldl Qf (s,q)).1 j.toNat=true)∧(∀ m,seen s m=true→seen (l.foldl Qf (s,q)).1 m=true)∧2 * news (l.foldl Qf (s,q)).1 + (l.foldl Qf (s,q)).2.length ≤ 2 * news s + q.length:=by
 intro l
 induction l with
 | nil=>intro s q h hs _;exact ⟨h,hs,fun j hj=>absurd hj (by simp),fun m hm=>hm,Nat.le_refl _⟩
 | cons j l ih =>
  intro s q h hs hl;obtain ⟨a,b,c⟩:=hl j (by simp);obtain ⟨p1,p2,p3,p4,p5⟩:=SP h hs a b (Bn.step hi c);obtain ⟨q1,q2,q3,q4,q5⟩:=ih _ _ p1 p2 (fun m hm=>hl m (by simp [hm]));refine ⟨q1,q2,?_,fun m hm=>q4 m (p4 m hm),Nat.le_trans q5 p5⟩;intro m hm
  rcases List.mem_cons.mp hm with e|hm
  ·subst e;exact q4 _ p3
  ·exact q3 m hm
structure Sz (n:Nat) (nx:Nat→List Int) (s:List Bool) (q:List Int):Prop where
 len:s.length=n
 JP:∀ j ∈ q,0 ≤ j∧j < n∧Bn nx j.toNat
 qJ:∀ j,seen s j=true→Bn nx j
 cap:q.length + 2 * news s ≤ 1 + 2 * n
 jT:seen s 0=true ∨ (0:Int) ∈ q
 shut:∀ j,seen s j=true→∀ m ∈ nx j,seen s m.toNat=true ∨ m ∈ q
theorem BP {n:Nat} {nx:Nat→List Int} {s:List Bool} {i:Int} {q:List Int} (hn:∀ a,a < n→(nx a).length ≤ 2∧∀ j ∈ nx a,0 ≤ j∧j < n) (h:Sz n nx s (i :: q)) (hf:seen s i.toNat=false):Sz n nx (s.set i.toNat true) (q ++ nx i.toNat):=by
 obtain ⟨h0,h1,hr⟩:=h.JP i (by simp);have hl:i.toNat < s.length:=by rw [h.len];omega
 obtain ⟨n1,n2⟩:=hn i.toNat (by omega);have hw:=Ew hl hf;refine ⟨by rw [List.length_set];exact h.len,?_,?_,?_,?_,?_⟩
 ·intro j hj
  rcases List.mem_append.mp hj with hj|hj
  ·exact h.JP j (by simp [hj])
  ·exact ⟨(n2 j hj).1,(n2 j hj).2,Bn.step hr hj⟩
 ·intro m hm;rw [gj hl] at hm
  by_cases e:i.toNat=m
  ·rw [← e];exact hr
  ·simp [e] at hm;exact h.qJ m hm
 ·have:=h.cap;rw [List.length_cons] at this;rw [List.length_append];omega
 ·rw [gj hl]
  rcases h.jT with z|z
  ·left;rw [z,Bool.or_true]
  ·rcases List.mem_cons.mp z with z|z
   ·left
    rw [← z];simp
   ·right
    exact List.mem_append.mpr (Or.inl z)
 ·intro j hj m hm;rw [gj hl] at hj
  by_cases e:i.toNat=j
  ·right
   rw [← e] at hm;exact List.mem_append.mpr (Or.inr hm)
  ·simp [e] at hj;rw [gj hl]
   rcases h.shut j hj m hm with z|z
   ·left;rw [z,Bool.or_true]
   ·rcases List.mem_cons.mp z with z|z
    ·left
     rw [z];simp
    ·right
     exact List.mem_append.mpr (Or.inl z)
theorem FP {n:Nat} {nx:Nat→List Int} {s:List Bool} {i:Int} {q:List Int} (h:Sz n nx s (i :: q)) (hf:seen s i.toNat=true):Sz n nx s q:=by
 refine ⟨h.len,fun j hj=>h.JP j (by simp [hj]),h.qJ,?_,?_,?_⟩
 ·have:=h.cap;rw [List.length_cons] at this;omega
 ·rcases h.jT with z|z
  ·left;exact z
  ·rcases List.mem_cons.mp z with z|z
   ·left
    rw [← z] at hf;exact hf
   ·right;exact z
 ·intro j hj m hm
  rcases h.shut j hj m hm with z|z
  ·left;exact z
  ·rcases List.mem_cons.mp z with z|z
   ·left;rw [z];exact hf
   ·right;exact z
theorem SW {n:Nat} {nx:Nat→List Int} {s:List Bool} (h:XC n nx s []) (hs:∀ j,seen s j=true→∀ m ∈ nx j,seen s m.toNat=true):∀ j,seen s j=true ↔ Bn nx j:=by
 intro j;refine ⟨h.qJ j,fun r=>?_⟩
 induction r with
 | zero=>exact h.jT
 | step _ hm ih=>exact hs _ ih _ hm
theorem TW {n:Nat} {nx:Nat→List Int} {s:List Bool} (h:Sz n nx s []):∀ j,seen s j=true ↔ Bn nx j:=by
 intro j;refine ⟨h.qJ j,fun r=>?_⟩
 induction r with
 | zero=>exact h.jT.resolve_right (by simp)
 | step _ hm ih=>exact (h.shut _ ih _ hm).resolve_right (by simp)
theorem YD:∀ (l1 l2:List Int),l1.Pairwise (· < ·)→l2.Pairwise (· < ·)→(∀ x,x ∈ l1 ↔ x ∈ l2)→l1=l2:=by
 intro l1
 induction l1 with
 | nil =>
  intro l2 _ _ h;cases l2 with
  | nil=>rfl
  | cons y l2=>exact absurd ((h y).2 (by simp)) (by simp)
 | cons x l1 ih =>
  intro l2 h1 h2 h;cases l2 with
  | nil=>exact absurd ((h x).1 (by simp)) (by simp)
  | cons y l2 =>
   obtain ⟨a1,a2⟩:=List.pairwise_cons.1 h1;obtain ⟨b1,b2⟩:=List.pairwise_cons.1 h2
   have e:x=y:=by
    rcases List.mem_cons.1 ((h x).1 (by simp)) with e|e
    ·exact e
    ·rcases List.mem_cons.1 ((h y).2 (by simp)) with e2|e2
     ·exact e2.symm
     ·have:=a1 y e2;have:=b1 x e;omega
   subst e
   congr 1
   refine ih l2 a2 b2 (fun z=>?_)
   constructor
   ·intro hz
    rcases List.mem_cons.1 ((h z).1 (List.mem_cons_of_mem _ hz)) with e|e
    ·have:=a1 z hz;omega
    ·exact e
   ·intro hz
    rcases List.mem_cons.1 ((h z).2 (List.mem_cons_of_mem _ hz)) with e|e
    ·have:=b1 z hz;omega
    ·exact e
theorem XB (d:Array Int) (hd:∀ i j:Nat,i ≤ j→j < d.size→d[i]! ≤ d[j]!):∀ m:Nat,m ≤ d.size→(Go.Lib.compactUpTo d m).Pairwise (· < ·)∧∀ x,x ∈ Go.Lib.compactUpTo d m ↔ ∃ j,j < m∧d[j]! = x:=by
 intro m
 induction m with
 | zero =>
  intro _;simp [Go.Lib.compactUpTo]
 | succ m ih =>
  intro hm;obtain ⟨h1,h2⟩:=ih (by omega);rw [Go.Lib.compactUpTo_succ]
  by_cases hk:Go.Lib.keeps d m=true
  ·rw [if_pos hk];have hk2:m=0 ∨ d[m]! ≠ d[m - 1]!:=by simpa [Go.Lib.keeps] using hk
   refine ⟨List.pairwise_append.2 ⟨h1,by simp,fun a ha b hb=>?_⟩,fun x=>?_⟩
   ·rw [List.mem_singleton] at hb;subst hb;obtain ⟨j,hj,rfl⟩:=(h2 a).1 ha;have e1:=hd j (m - 1) (by omega) (by omega);have e2:=hd (m - 1) m (by omega) (by omega)
    rcases hk2 with e|e
    ·omega
    ·omega
   ·rw [List.mem_append,h2,List.mem_singleton]
    constructor
    ·rintro (⟨j,hj,e⟩|e)
     ·exact ⟨j,by omega,e⟩
     ·exact ⟨m,by omega,e.symm⟩
    ·rintro ⟨j,hj,e⟩
     by_cases hjm:j=m
     ·subst hjm;exact Or.inr e.symm
     ·exact Or.inl ⟨j,by omega,e⟩
  ·rw [if_neg hk,List.append_nil];refine ⟨h1,fun x=>?_⟩;rw [h2]
   have hk2:m ≠ 0∧d[m]! = d[m - 1]!:=by
    have:¬ (m=0 ∨ d[m]! ≠ d[m - 1]!):=by simpa [Go.Lib.keeps] using hk
    exact ⟨fun e=>this (Or.inl e),Decidable.byContradiction fun e=>this (Or.inr e)⟩
   constructor
   ·rintro ⟨j,hj,e⟩;exact ⟨j,by omega,e⟩
   ·rintro ⟨j,hj,e⟩
    by_cases hjm:j=m
    ·subst hjm;exact ⟨j - 1,by omega,by rw [← hk2.2];exact e⟩
    ·exact ⟨j,by omega,e⟩
theorem PI (l:List Int):(KG l).Pairwise (· < ·)∧∀ x,x ∈ KG l ↔ x ∈ l:=by
 have hp:(l.mergeSort fun x y=>decide (x ≤ y)).Pairwise (fun a b=>decide (a ≤ b)=true):=List.pairwise_mergeSort (le:=fun x y:Int=>decide (x ≤ y)) (fun a b c h1 h2=>by simp at h1 h2 ⊢;omega) (fun a b=>by simp;omega) l;have hm:∀ x,x ∈ (l.mergeSort fun x y=>decide (x ≤ y)) ↔ x ∈ l:=fun x=>List.mem_mergeSort
 unfold KG;generalize (l.mergeSort fun x y=>decide (x ≤ y))=s at hp hm
 have hd:∀ i j:Nat,i ≤ j→j < s.toArray.size→s.toArray[i]! ≤ s.toArray[j]!:=by
  intro i j hij hj;have hj':j < s.length:=by simpa using hj
  rcases Nat.lt_or_ge i j with h|h
  ·have:=List.pairwise_iff_getElem.1 hp i j (by omega) hj' h
   simpa [show i < s.length by omega,hj'] using this
  ·obtain rfl:i=j:=by omega
   exact Int.le_refl _
 obtain ⟨h1,h2⟩:=XB s.toArray hd s.length (by simp);refine ⟨h1,fun x=>?_⟩;rw [← hm];refine (h2 x).trans ?_;rw [List.mem_iff_getElem]
 constructor
 ·rintro ⟨j,hj,e⟩;exact ⟨j,hj,by simpa [hj] using e⟩
 ·rintro ⟨j,hj,e⟩;exact ⟨j,hj,by simpa [hj] using e⟩
end Go.Proofs.Ytoomcmaifgkkfaa.P
end
