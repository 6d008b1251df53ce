import Derived.Test.YtoomcmaifgkkfaaQAims1
import Derived.Shelf.Abstract
import Derived.Outline
import Derived.RegionTactic
import Derived.Shelf.Small.Bits
import Derived.Shelf.Small.Wraps
import Derived.Shelf.Strconv.Itoa0
import Derived.Shelf.Sort.Plain
import Derived.Shelf.Slices.Turned
import Derived.Shelf.Slices.Reverse
import Derived.Ground.Names2Prog
import Derived.Shelf.Slices.CompactI
import Derived.Shelf.Slices.SearchI
import Derived.Shelf.Slices.Cells
import Derived.Shelf.Slices.In.SortNone
import Derived.Sort.OwnSortedInts
set_option maxHeartbeats 8000000
set_option maxRecDepth 100000
section
namespace Go.Proofs.Ytoomcmaifgkkfaa.P
open Go.RowKit Go.Proofs.Da.qb Go.Proofs.Da.Jd Go.Proofs.Da.Gf
set_option linter.unusedVariables false
set_option linter.unusedSimpArgs false
attribute [local go_sem] Aj yj Nk Mk si qi zj xj
mutual
def Pa.l0:Nat→Int→List Int→Int→Int→List (ld)→Option (Bool)
 | 0,_,_,_,_,_=>none
 | k + 1,x3,Tc,Zc,Yc,Ub=>if x3 < (Tc.length:Int) then (if 0 ≤ x3 then ((Ya.f (rd Tc x3) 1 16).bind fun t103=>(if t103=true then (Pa.l0 k (wrap64 (x3 + 1)) Tc Zc Yc Ub) else (some false))) else (none)) else ((Ya.f (Tc.length:Int) 1 4).bind fun t104=>(if t104=true then ((Ya.f Zc 0 6).bind fun t105=>(if t105=true then ((Ya.f Yc Zc 1000).bind fun t106=>(if t106=true then ((Ya.f (Ub.length:Int) 1 6000).bind fun t107=>(Pa.j1 k (Ub.length:Int) (!t107) Tc Zc Yc Ub)) else (Pa.j1 k (Ub.length:Int) true Tc Zc Yc Ub))) else (Pa.j1 k (Ub.length:Int) true Tc Zc Yc Ub))) else (Pa.j1 k (Ub.length:Int) true Tc Zc Yc Ub)))
def Pa.j1:Nat→Int→Bool→List Int→Int→Int→List (ld)→Option (Bool)
 | 0,_,_,_,_,_,_=>none
 | k + 1,x4,AQ,Tc,Zc,Yc,Ub=>if AQ=true then (some false) else (Pa.l1 k x4 0 Tc Zc Yc Ub)
def Pa.l1:Nat→Int→Int→List Int→Int→Int→List (ld)→Option (Bool)
 | 0,_,_,_,_,_,_=>none
 | k + 1,x4,x5,Tc,Zc,Yc,Ub=>if x5 < x4 then (if 0 ≤ x5 then (if x5 < (Ub.length:Int) then ((Va.f k Tc Zc Yc Ub ((ya Ub x5).f0) ((ya Ub x5).f1) ((ya Ub x5).f2) ((ya Ub x5).f3) ((ya Ub x5).f4)).bind fun t109=>(if t109=true then (Pa.l1 k x4 (wrap64 (x5 + 1)) Tc Zc Yc Ub) else (some false))) else (none)) else (none)) else (if 0 ≤ (wrap64 (x4 - 1)) then (if (wrap64 (x4 - 1)) < (Ub.length:Int) then (if ((ya Ub (wrap64 (x4 - 1))).f0)=10 then (some true) else (some (((ya Ub (wrap64 (x4 - 1))).f0) == 8))) else (none)) else (none))
end
def Pa.f (k:Nat) (Na:List Int) (La:Int) (Ma:Int) (Ea:List (ld)):Option (Bool):=Pa.l0 k 0 Na La Ma Ea
def Pa.lQ:Bool × List (List Nat × List Nat):=(true,[([],[]),([],[]),([1],[1]),([],[]),([2,3],[2,3]),([4],[4]),([0,5],[0,5]),([6],[6])])
def Pa.YR:List Nat:=[0,0,2,0,14,30,63,127]
theorem Pa.zB:Dh .any (opsOf Try.f53 12)=Pa.lQ:=by kernel_rfl
theorem Pa.Wx:Ij Pa.lQ.2 Pa.YR=true:=by kernel_rfl
theorem Pa.calls (k:Nat) (zb:Option Addr) (yb:Nat) (Na:List Int) (La:Int) (Ma:Int) (Eb:Option Addr) (Ab:Nat) (Ea:List (ld)) (r:Bool) (w:World) (Ze:Kd.C (Kd.int .i64) w zb Na.length Na) (Fe:Na.length ≤ yb) (Ye:Kd.C ug w Eb Ea.length Ea) (Ee:Ea.length ≤ Ab) (h:Pa.f k Na La Ma Ea=some r) :
  Calls Try.prog 53 #[.agg #[.slice zb Na.length yb,.int .i64 La,.int .i64 Ma,.slice Eb Ea.length Ab]] w fun e w'=>e = .returned (.bool r)∧Below w.heap.size w w':=by
 have js:=Try.underlying30;have Zr:=Try.underlying67;have Be:=ga.mk Ze;have Te:=ga.mk Fe;clear Ze Fe;have Yd:=ga.mk Ye;have Ff:=ga.mk Ee;clear Ye Ee;have HB:=ga.mk (Below.refl w.heap.size w);have H:(Pa.l0 k 0 Na La Ma Ea)=some r:=h;clear h;have H':=ga.mk H;clear H;go_enter Try.func53,Try.ntmps53;go_wp2_with (first|((with_reducible refine Jb (N:=1) rfl ?_);refine Db ?hg (N:=1) ?hd (cs:=#[.slice zb Na.length yb,.int .i64 La,.int .i64 Ma,.slice Eb Ea.length Ab]) (t:=30) ?hr ?_;(case hd=>rfl);(case hg=>rfl);(case hr=>first|(go_simp;done)|(go_simp;rfl));intro Ba hg w2 Rb hb;have Nb:=ga.mk (Ra (by repeat (first|(with_reducible first|exact HB.out|apply ia|apply aa|apply oa)|exact HB.out)) hb);have Qb:=ga.mk (Rb);have fc:=ga.mk ((by rw [hg];exact (Ja (by repeat (first|(with_reducible first|exact HB.out|apply ia|apply aa|apply oa)|exact HB.out))):w.heap.size ≤ Ba));have Ec:=ga.mk ((by rw [hg];exact (Ja (by repeat (first|(with_reducible first|exact HB.out|apply ia|apply aa|apply oa)|exact HB.out))):w.heap.size ≤ Ba));clear HB;have HB:=Nb;have ua:=Qb;have Ue:=fc;have Sa:=Ec;clear Nb Qb fc Ec hb Rb hg))
 go_loopg [3] k (fun kq v3 w'=>∃ (Rc:Int),v3 = .int .i64 Rc∧ga (Pa.l0 kq Rc Na La Ma Ea=some r)∧ga (kq ≤ k)∧ga (w'.heap[Ba]? = some (.cells #[(.slice zb Na.length yb),.int .i64 La,.int .i64 Ma,(.slice Eb Ea.length Ab)] 30 (0,0)))∧ga (Below w.heap.size w w'))
 case atStart=>exact ⟨(0),(by first|rfl|(simp;done)|(simp [*];done)),H',⟨Nat.le_refl _⟩,⟨by (with_reducible repeat (first|refine za ?_ _|refine Ca ?_|refine Aa ?_ _));exact ua.out⟩,⟨by repeat (first|(with_reducible first|exact HB.out|apply ia|apply aa|apply oa|refine ta ?_ Sa.out)|exact HB.out)⟩⟩
 case round =>
  clear H'
  try clear p2
  (try clear HA);(try clear Qg);(try clear ua);(try clear HB);obtain ⟨Rc,rfl,HA,Qg,ua,HB⟩:=hrel;cases gk with
  | zero=>exact absurd HA.out (by simp [Pa.l0])
  | succ k1 =>
   have H:=HA.out;clear HA;simp only [Pa.l0] at H
   by_cases c3:Rc < (Na.length:Int)
   ·rw [if_pos c3] at H;have Gg:decide (Rc < (Na.length:Int))=true:=decide_eq_true c3;clear c3
    by_cases c4:0 ≤ Rc
    ·rw [if_pos c4] at H;have Fj:decide (0 ≤ Rc)=true:=decide_eq_true c4;clear c4;replace H:=Option.bind_eq_some_iff.mp H;obtain ⟨t103,xQ,H⟩:=H;replace H:(if t103=true then (Pa.l0 k1 (wrap64 (Rc + 1)) Na La Ma Ea) else (some false))=some r:=H;have A5:=ga.mk xQ;clear xQ
     by_cases c6:t103=true
     ·subst c6;have H1:(Pa.l0 k1 (wrap64 (Rc + 1)) Na La Ma Ea)=some r:=by rw [if_pos rfl] at H;exact H
      clear H;have H:=H1;clear H1;have H':=ga.mk H;clear H;have Zt:wr.cell? ⟨Ba,0,none⟩=some (.slice zb Na.length yb):=(qa ua.out 0).trans rfl;have Yt:wr.cell? ⟨Ba,1,none⟩=some (.int .i64 La):=(qa ua.out 1).trans rfl;have Xt:wr.cell? ⟨Ba,2,none⟩=some (.int .i64 Ma):=(qa ua.out 2).trans rfl;have Wt:wr.cell? ⟨Ba,3,none⟩=some (.slice Eb Ea.length Ab):=(qa ua.out 3).trans rfl;have Ut:=ja ua.out 0;have Tt:=ja ua.out 1;have St:=ja ua.out 2;have Rt:=ja ua.out 3;have Vg:0 ≤ (Rc:Int):=of_decide_eq_true (by first|(with_reducible assumption)|assumption);have Ug:Rc < (Na.length:Int):=of_decide_eq_true (by first|(with_reducible assumption)|assumption);obtain ⟨Vf,Lo,ue⟩:=Kd.Hg Be.out Rc Vg Ug;cases Lo;replace ue:=Qa HB.out ue;replace Vg:=eq_true Vg;replace Ug:=eq_true Ug;go_wp2_with (first|((with_reducible refine jb (f:=81) rfl ?_);refine Lc (some 18) rfl rfl Try.func81 (by kernel_rfl) rfl #[.int .i64 (rd Na Rc),.int .i64 1,.int .i64 16] rfl (by (try simp only [List.map_toArray,List.map_cons,List.map_nil]);first|done|rfl|(simp only [List.length_drop,List.length_take];rfl)) ?_;(with_reducible refine (Ya.calls (rd Na Rc) 1 16 true _ A5.out).mono ?_);rintro e w' ⟨rfl,⟨nd,rfl⟩⟩;refine ⟨_,rfl,?_⟩))
      go_roundg k1
      case measure=>have:=Qg.out;omega
      case rel=>exact ⟨(wrap64 (Rc + 1)),(by first|rfl|(simp;done)|(simp [*];done)),H',⟨by have:=Qg.out;omega⟩,⟨by (with_reducible repeat (first|refine za ?_ _|refine Ca ?_|refine Aa ?_ _));exact ua.out⟩,⟨by repeat (first|(with_reducible first|exact HB.out|apply ia|apply aa|apply oa|refine ta ?_ Sa.out)|exact HB.out)⟩⟩
     ·replace c6:=Bool.eq_false_iff.mpr c6;subst c6;have H1:(some false)=some r:=by rw [if_neg (show ¬ (false=true) by decide)] at H;exact H
      clear H;have H:=H1;clear H1;obtain rfl:=Option.some.inj H;have Om:wr.cell? ⟨Ba,0,none⟩=some (.slice zb Na.length yb):=(qa ua.out 0).trans rfl;have Mm:wr.cell? ⟨Ba,1,none⟩=some (.int .i64 La):=(qa ua.out 1).trans rfl;have Lm:wr.cell? ⟨Ba,2,none⟩=some (.int .i64 Ma):=(qa ua.out 2).trans rfl;have Km:wr.cell? ⟨Ba,3,none⟩=some (.slice Eb Ea.length Ab):=(qa ua.out 3).trans rfl;have Em:=ja ua.out 0;have Dm:=ja ua.out 1;have Cm:=ja ua.out 2;have Bm:=ja ua.out 3;have Vg:0 ≤ (Rc:Int):=of_decide_eq_true (by first|(with_reducible assumption)|assumption);have Ug:Rc < (Na.length:Int):=of_decide_eq_true (by first|(with_reducible assumption)|assumption);obtain ⟨Vf,Lo,ue⟩:=Kd.Hg Be.out Rc Vg Ug;cases Lo;replace ue:=Qa HB.out ue;replace Vg:=eq_true Vg;replace Ug:=eq_true Ug;go_wp2_with (first|((with_reducible refine jb (f:=81) rfl ?_);refine Lc (some 18) rfl rfl Try.func81 (by kernel_rfl) rfl #[.int .i64 (rd Na Rc),.int .i64 1,.int .i64 16] rfl (by (try simp only [List.map_toArray,List.map_cons,List.map_nil]);first|done|rfl|(simp only [List.length_drop,List.length_take];rfl)) ?_;(with_reducible refine (Ya.calls (rd Na Rc) 1 16 false _ A5.out).mono ?_);rintro e w' ⟨rfl,⟨nd,rfl⟩⟩;refine ⟨_,rfl,?_⟩));go_ret;exact ⟨by first|rfl|(simp [Ia,Ga] <;> rfl)|(simp [*,Ia,Ga] <;> rfl),by repeat (first|(with_reducible first|exact HB.out|apply ia|apply aa|apply oa|refine ta ?_ Sa.out)|exact HB.out)⟩
    ·rw [if_neg c4] at H;exact absurd H (by simp)
   ·rw [if_neg c3] at H;have Gg:decide (Rc < (Na.length:Int))=false:=decide_eq_false c3;clear c3;have bN:=ga.mk H;clear H;have cj:wr.cell? ⟨Ba,0,none⟩=some (.slice zb Na.length yb):=(qa ua.out 0).trans rfl;have aj:wr.cell? ⟨Ba,1,none⟩=some (.int .i64 La):=(qa ua.out 1).trans rfl;have Zi:wr.cell? ⟨Ba,2,none⟩=some (.int .i64 Ma):=(qa ua.out 2).trans rfl;have Yi:wr.cell? ⟨Ba,3,none⟩=some (.slice Eb Ea.length Ab):=(qa ua.out 3).trans rfl;have Si:=ja ua.out 0;have Ri:=ja ua.out 1;have Qi:=ja ua.out 2;have Oi:=ja ua.out 3
    go_upto_region 7 with (fail)
    go_cut [46] (fun v46 wc=>∃ (kq:Nat) (vu:Bool),v46 = .bool vu∧ga (Pa.j1 kq (Ea.length:Int) vu Na La Ma Ea=some r)∧ga (kq ≤ k1)∧ga (wc.heap[Ba]? = some (.cells #[(.slice zb Na.length yb),.int .i64 La,.int .i64 Ma,(.slice Eb Ea.length Ab)] 30 (0,0)))∧ga (Below w.heap.size w wc))
    case first =>
     have H:=bN.out;clear bN;replace H:=Option.bind_eq_some_iff.mp H;obtain ⟨t104,Fy,H⟩:=H;replace H:(if t104=true then ((Ya.f La 0 6).bind fun t105=>(if t105=true then ((Ya.f Ma La 1000).bind fun t106=>(if t106=true then ((Ya.f (Ea.length:Int) 1 6000).bind fun t107=>(Pa.j1 k1 (Ea.length:Int) (!t107) Na La Ma Ea)) else (Pa.j1 k1 (Ea.length:Int) true Na La Ma Ea))) else (Pa.j1 k1 (Ea.length:Int) true Na La Ma Ea))) else (Pa.j1 k1 (Ea.length:Int) true Na La Ma Ea))=some r:=H;have DE:=ga.mk Fy;clear Fy
     by_cases Zs:t104=true
     ·subst Zs;have H1:((Ya.f La 0 6).bind fun t105=>(if t105=true then ((Ya.f Ma La 1000).bind fun t106=>(if t106=true then ((Ya.f (Ea.length:Int) 1 6000).bind fun t107=>(Pa.j1 k1 (Ea.length:Int) (!t107) Na La Ma Ea)) else (Pa.j1 k1 (Ea.length:Int) true Na La Ma Ea))) else (Pa.j1 k1 (Ea.length:Int) true Na La Ma Ea)))=some r:=by rw [if_pos rfl] at H;exact H
      clear H;have H:=H1;clear H1;replace H:=Option.bind_eq_some_iff.mp H;obtain ⟨t105,Ey,H⟩:=H;replace H:(if t105=true then ((Ya.f Ma La 1000).bind fun t106=>(if t106=true then ((Ya.f (Ea.length:Int) 1 6000).bind fun t107=>(Pa.j1 k1 (Ea.length:Int) (!t107) Na La Ma Ea)) else (Pa.j1 k1 (Ea.length:Int) true Na La Ma Ea))) else (Pa.j1 k1 (Ea.length:Int) true Na La Ma Ea))=some r:=H;have kH:=ga.mk Ey;clear Ey
      by_cases zE:t105=true
      ·subst zE;have H1:((Ya.f Ma La 1000).bind fun t106=>(if t106=true then ((Ya.f (Ea.length:Int) 1 6000).bind fun t107=>(Pa.j1 k1 (Ea.length:Int) (!t107) Na La Ma Ea)) else (Pa.j1 k1 (Ea.length:Int) true Na La Ma Ea)))=some r:=by rw [if_pos rfl] at H;exact H
       clear H;have H:=H1;clear H1;replace H:=Option.bind_eq_some_iff.mp H;obtain ⟨t106,jH,H⟩:=H;replace H:(if t106=true then ((Ya.f (Ea.length:Int) 1 6000).bind fun t107=>(Pa.j1 k1 (Ea.length:Int) (!t107) Na La Ma Ea)) else (Pa.j1 k1 (Ea.length:Int) true Na La Ma Ea))=some r:=H;have zQ:=ga.mk jH;clear jH
       by_cases kr:t106=true
       ·subst kr;have H1:((Ya.f (Ea.length:Int) 1 6000).bind fun t107=>(Pa.j1 k1 (Ea.length:Int) (!t107) Na La Ma Ea))=some r:=by rw [if_pos rfl] at H;exact H
        clear H;have H:=H1;clear H1;replace H:=Option.bind_eq_some_iff.mp H;obtain ⟨t107,iH,H⟩:=H;replace H:(Pa.j1 k1 (Ea.length:Int) (!t107) Na La Ma Ea)=some r:=H;have kS:=ga.mk iH;clear iH;have H':=ga.mk H;clear H;have Vh:wr.cell? ⟨Ba,0,none⟩=some (.slice zb Na.length yb):=(qa ua.out 0).trans rfl;have Uh:wr.cell? ⟨Ba,1,none⟩=some (.int .i64 La):=(qa ua.out 1).trans rfl;have Th:wr.cell? ⟨Ba,2,none⟩=some (.int .i64 Ma):=(qa ua.out 2).trans rfl;have Sh:wr.cell? ⟨Ba,3,none⟩=some (.slice Eb Ea.length Ab):=(qa ua.out 3).trans rfl;have Rh:=ja ua.out 0;have Qh:=ja ua.out 1;have Ph:=ja ua.out 2;have Oh:=ja ua.out 3;go_wp2_with (first|((with_reducible refine jb (f:=81) rfl ?_);refine Lc (some 26) rfl rfl Try.func81 (by kernel_rfl) rfl #[.int .i64 (Na.length:Int),.int .i64 1,.int .i64 4] rfl (by (try simp only [List.map_toArray,List.map_cons,List.map_nil]);first|done|rfl|(simp only [List.length_drop,List.length_take];rfl)) ?_;(with_reducible refine (Ya.calls (Na.length:Int) 1 4 true _ DE.out).mono ?_);rintro e w' ⟨rfl,⟨nd,rfl⟩⟩;refine ⟨_,rfl,?_⟩)|(go_at_call 81;(with_reducible refine (Ya.calls La 0 6 true _ kH.out).mono ?_);rintro e w' ⟨rfl,⟨nd,rfl⟩⟩)|(go_at_call 81;(with_reducible refine (Ya.calls Ma La 1000 true _ zQ.out).mono ?_);rintro e w' ⟨rfl,⟨nd,rfl⟩⟩)|(go_at_call 81;(with_reducible refine (Ya.calls (Ea.length:Int) 1 6000 t107 _ kS.out).mono ?_);rintro e w' ⟨rfl,⟨nd,rfl⟩⟩))
        go_meet
        case rel=>exact ⟨_,(!t107),(by first|rfl|(simp;done)|(simp [*];done)),H',⟨by have:=Qg.out;first|omega|exact Nat.le_refl _⟩,⟨by (with_reducible repeat (first|refine za ?_ _|refine Ca ?_|refine Aa ?_ _));exact ua.out⟩,⟨by repeat (first|(with_reducible first|exact HB.out|apply ia|apply aa|apply oa|refine ta ?_ Sa.out)|exact HB.out)⟩⟩
       ·replace kr:=Bool.eq_false_iff.mpr kr;subst kr;have H1:(Pa.j1 k1 (Ea.length:Int) true Na La Ma Ea)=some r:=by rw [if_neg (show ¬ (false=true) by decide)] at H;exact H
        clear H;have H:=H1;clear H1;have H':=ga.mk H;clear H;have Sl:wr.cell? ⟨Ba,0,none⟩=some (.slice zb Na.length yb):=(qa ua.out 0).trans rfl;have Rl:wr.cell? ⟨Ba,1,none⟩=some (.int .i64 La):=(qa ua.out 1).trans rfl;have Ql:wr.cell? ⟨Ba,2,none⟩=some (.int .i64 Ma):=(qa ua.out 2).trans rfl;have Ol:wr.cell? ⟨Ba,3,none⟩=some (.slice Eb Ea.length Ab):=(qa ua.out 3).trans rfl;have Il:=ja ua.out 0;have Hl:=ja ua.out 1;have Gl:=ja ua.out 2;have Fl:=ja ua.out 3;go_wp2_with (first|((with_reducible refine jb (f:=81) rfl ?_);refine Lc (some 26) rfl rfl Try.func81 (by kernel_rfl) rfl #[.int .i64 (Na.length:Int),.int .i64 1,.int .i64 4] rfl (by (try simp only [List.map_toArray,List.map_cons,List.map_nil]);first|done|rfl|(simp only [List.length_drop,List.length_take];rfl)) ?_;(with_reducible refine (Ya.calls (Na.length:Int) 1 4 true _ DE.out).mono ?_);rintro e w' ⟨rfl,⟨nd,rfl⟩⟩;refine ⟨_,rfl,?_⟩)|(go_at_call 81;(with_reducible refine (Ya.calls La 0 6 true _ kH.out).mono ?_);rintro e w' ⟨rfl,⟨nd,rfl⟩⟩)|(go_at_call 81;(with_reducible refine (Ya.calls Ma La 1000 false _ zQ.out).mono ?_);rintro e w' ⟨rfl,⟨nd,rfl⟩⟩))
        go_meet
        case rel=>exact ⟨_,(true),(by first|rfl|(simp;done)|(simp [*];done)),H',⟨by have:=Qg.out;first|omega|exact Nat.le_refl _⟩,⟨by (with_reducible repeat (first|refine za ?_ _|refine Ca ?_|refine Aa ?_ _));exact ua.out⟩,⟨by repeat (first|(with_reducible first|exact HB.out|apply ia|apply aa|apply oa|refine ta ?_ Sa.out)|exact HB.out)⟩⟩
      ·replace zE:=Bool.eq_false_iff.mpr zE;subst zE;have H1:(Pa.j1 k1 (Ea.length:Int) true Na La Ma Ea)=some r:=by rw [if_neg (show ¬ (false=true) by decide)] at H;exact H
       clear H;have H:=H1;clear H1;have H':=ga.mk H;clear H;have Wj:wr.cell? ⟨Ba,0,none⟩=some (.slice zb Na.length yb):=(qa ua.out 0).trans rfl;have Vj:wr.cell? ⟨Ba,1,none⟩=some (.int .i64 La):=(qa ua.out 1).trans rfl;have Uj:wr.cell? ⟨Ba,2,none⟩=some (.int .i64 Ma):=(qa ua.out 2).trans rfl;have Tj:wr.cell? ⟨Ba,3,none⟩=some (.slice Eb Ea.length Ab):=(qa ua.out 3).trans rfl;have Sj:=ja ua.out 0;have Rj:=ja ua.out 1;have Qj:=ja ua.out 2;have Pj:=ja ua.out 3;go_wp2_with (first|((with_reducible refine jb (f:=81) rfl ?_);refine Lc (some 26) rfl rfl Try.func81 (by kernel_rfl) rfl #[.int .i64 (Na.length:Int),.int .i64 1,.int .i64 4] rfl (by (try simp only [List.map_toArray,List.map_cons,List.map_nil]);first|done|rfl|(simp only [List.length_drop,List.length_take];rfl)) ?_;(with_reducible refine (Ya.calls (Na.length:Int) 1 4 true _ DE.out).mono ?_);rintro e w' ⟨rfl,⟨nd,rfl⟩⟩;refine ⟨_,rfl,?_⟩)|(go_at_call 81;(with_reducible refine (Ya.calls La 0 6 false _ kH.out).mono ?_);rintro e w' ⟨rfl,⟨nd,rfl⟩⟩))
       go_meet
       case rel=>exact ⟨_,(true),(by first|rfl|(simp;done)|(simp [*];done)),H',⟨by have:=Qg.out;first|omega|exact Nat.le_refl _⟩,⟨by (with_reducible repeat (first|refine za ?_ _|refine Ca ?_|refine Aa ?_ _));exact ua.out⟩,⟨by repeat (first|(with_reducible first|exact HB.out|apply ia|apply aa|apply oa|refine ta ?_ Sa.out)|exact HB.out)⟩⟩
     ·replace Zs:=Bool.eq_false_iff.mpr Zs;subst Zs;have H1:(Pa.j1 k1 (Ea.length:Int) true Na La Ma Ea)=some r:=by rw [if_neg (show ¬ (false=true) by decide)] at H;exact H
      clear H;have H:=H1;clear H1;have H':=ga.mk H;clear H;have Xq:wr.cell? ⟨Ba,0,none⟩=some (.slice zb Na.length yb):=(qa ua.out 0).trans rfl;have Wq:wr.cell? ⟨Ba,1,none⟩=some (.int .i64 La):=(qa ua.out 1).trans rfl;have Vq:wr.cell? ⟨Ba,2,none⟩=some (.int .i64 Ma):=(qa ua.out 2).trans rfl;have Uq:wr.cell? ⟨Ba,3,none⟩=some (.slice Eb Ea.length Ab):=(qa ua.out 3).trans rfl;have Fq:=ja ua.out 0;have Dq:=ja ua.out 1;have Cq:=ja ua.out 2;have Bq:=ja ua.out 3;go_wp2_with (first|((with_reducible refine jb (f:=81) rfl ?_);refine Lc (some 26) rfl rfl Try.func81 (by kernel_rfl) rfl #[.int .i64 (Na.length:Int),.int .i64 1,.int .i64 4] rfl (by (try simp only [List.map_toArray,List.map_cons,List.map_nil]);first|done|rfl|(simp only [List.length_drop,List.length_take];rfl)) ?_;(with_reducible refine (Ya.calls (Na.length:Int) 1 4 false _ DE.out).mono ?_);rintro e w' ⟨rfl,⟨nd,rfl⟩⟩;refine ⟨_,rfl,?_⟩))
      go_meet
      case rel=>exact ⟨_,(true),(by first|rfl|(simp;done)|(simp [*];done)),H',⟨by have:=Qg.out;first|omega|exact Nat.le_refl _⟩,⟨by (with_reducible repeat (first|refine za ?_ _|refine Ca ?_|refine Aa ?_ _));exact ua.out⟩,⟨by repeat (first|(with_reducible first|exact HB.out|apply ia|apply aa|apply oa|refine ta ?_ Sa.out)|exact HB.out)⟩⟩
    case rest =>
     clear bN
     try clear c1
     try clear p1
     try clear q1
     try clear hx1
     try clear p2
     try clear c3
     try clear Gg
     try clear c4
     try clear Fj
     try clear c5
     try clear c6
     try clear p6
     try clear c8
     try clear uE
     try clear tE
     try clear IL
     try clear Zs
     try clear zE
     try clear kr
     try clear cj
     try clear aj
     try clear Zi
     try clear Yi
     try clear Vh
     try clear Uh
     try clear Th
     try clear Sh
     try clear Sl
     try clear Rl
     try clear Ql
     try clear Ol
     try clear Wj
     try clear Vj
     try clear Uj
     try clear Tj
     try clear Xq
     try clear Wq
     try clear Vq
     try clear Uq
     try clear Zt
     try clear Yt
     try clear Xt
     try clear Wt
     try clear Om
     try clear Mm
     try clear Lm
     try clear Km
     try clear Si
     try clear Ri
     try clear Qi
     try clear Oi
     try clear Rh
     try clear Qh
     try clear Ph
     try clear Oh
     try clear Il
     try clear Hl
     try clear Gl
     try clear Fl
     try clear Sj
     try clear Rj
     try clear Qj
     try clear Pj
     try clear Fq
     try clear Dq
     try clear Cq
     try clear Bq
     try clear Ut
     try clear Tt
     try clear St
     try clear Rt
     try clear Em
     try clear Dm
     try clear Cm
     try clear Bm
     try clear ue
     try clear Vg
     try clear p2
     try clear Ug
     obtain ⟨kq,vu,rfl,HA,pQ,ua,HB⟩:=hcut;cases kq with
     | zero=>exact absurd HA.out (by simp [Pa.j1])
     | succ BL =>
      have H:=HA.out;clear HA;simp only [Pa.j1] at H
      by_cases vw:vu=true
      ·subst vw;have H1:(some false)=some r:=by rw [if_pos rfl] at H;exact H
       clear H;have H:=H1;clear H1;obtain rfl:=Option.some.inj H;go_wp2;go_ret;exact ⟨by first|rfl|(simp [Ia,Ga] <;> rfl)|(simp [*,Ia,Ga] <;> rfl),by repeat (first|(with_reducible first|exact HB.out|apply ia|apply aa|apply oa|refine ta ?_ Sa.out)|exact HB.out)⟩
      ·replace vw:=Bool.eq_false_iff.mpr vw;subst vw;have H1:(Pa.l1 BL (Ea.length:Int) 0 Na La Ma Ea)=some r:=by rw [if_neg (show ¬ (false=true) by decide)] at H;exact H
       clear H;have H:=H1;clear H1;have H':=ga.mk H;clear H;go_wp2
       go_loopg [5] BL (fun kq v5 w'=>∃ (Cd:Int),v5 = .int .i64 Cd∧ga (Pa.l1 kq (Ea.length:Int) Cd Na La Ma Ea=some r)∧ga (kq ≤ BL)∧ga (w'.heap[Ba]? = some (.cells #[(.slice zb Na.length yb),.int .i64 La,.int .i64 Ma,(.slice Eb Ea.length Ab)] 30 (0,0)))∧ga (Below w.heap.size w w'))
       case atStart=>exact ⟨(0),(by first|rfl|(simp;done)|(simp [*];done)),H',⟨Nat.le_refl _⟩,⟨by (with_reducible repeat (first|refine za ?_ _|refine Ca ?_|refine Aa ?_ _));exact ua.out⟩,⟨by repeat (first|(with_reducible first|exact HB.out|apply ia|apply aa|apply oa|refine ta ?_ Sa.out)|exact HB.out)⟩⟩
       case round =>
        clear H'
        try clear c1
        try clear p1
        try clear q1
        try clear hx1
        try clear c2
        try clear p2
        try clear c3
        try clear Gg
        try clear c4
        try clear Fj
        try clear c5
        try clear c6
        try clear p6
        try clear c8
        try clear uE
        try clear tE
        try clear IL
        try clear Zs
        try clear zE
        try clear kr
        try clear vw
        try clear cj
        try clear aj
        try clear Zi
        try clear Yi
        try clear Vh
        try clear Uh
        try clear Th
        try clear Sh
        try clear Sl
        try clear Rl
        try clear Ql
        try clear Ol
        try clear Wj
        try clear Vj
        try clear Uj
        try clear Tj
        try clear Xq
        try clear Wq
        try clear Vq
        try clear Uq
        try clear Zt
        try clear Yt
        try clear Xt
        try clear Wt
        try clear Om
        try clear Mm
        try clear Lm
        try clear Km
        try clear Si
        try clear Ri
        try clear Qi
        try clear Oi
        try clear Rh
        try clear Qh
        try clear Ph
        try clear Oh
        try clear Il
        try clear Hl
        try clear Gl
        try clear Fl
        try clear Sj
        try clear Rj
        try clear Qj
        try clear Pj
        try clear Fq
        try clear Dq
        try clear Cq
        try clear Bq
        try clear Ut
        try clear Tt
        try clear St
        try clear Rt
        try clear Em
        try clear Dm
        try clear Cm
        try clear Bm
        try clear ue
        try clear p1
        try clear uE
        try clear Vg
        try clear p2
        try clear p6
        try clear q1
        try clear tE
        try clear Ug
        (try clear HA);(try clear aN);(try clear ua);(try clear HB);obtain ⟨Cd,rfl,HA,aN,ua,HB⟩:=hrel;cases gk with
        | zero=>exact absurd HA.out (by simp [Pa.l1])
        | succ k3 =>
         have H:=HA.out;clear HA;simp only [Pa.l1] at H
         by_cases Aw:Cd < (Ea.length:Int)
         ·rw [if_pos Aw] at H;have sC:decide (Cd < (Ea.length:Int))=true:=decide_eq_true Aw;clear Aw
          by_cases lu:0 ≤ Cd
          ·rw [if_pos lu] at H;have dm:decide (0 ≤ Cd)=true:=decide_eq_true lu;clear lu
           by_cases Vx:Cd < (Ea.length:Int)
           ·rw [if_pos Vx] at H;have cQ:decide (Cd < (Ea.length:Int))=true:=decide_eq_true Vx;clear Vx;replace H:=Option.bind_eq_some_iff.mp H;obtain ⟨t109,zy,H⟩:=H;replace H:(if t109=true then (Pa.l1 k3 (Ea.length:Int) (wrap64 (Cd + 1)) Na La Ma Ea) else (some false))=some r:=H;have oL:=ga.mk zy;clear zy
            by_cases Ys:t109=true
            ·subst Ys;have H1:(Pa.l1 k3 (Ea.length:Int) (wrap64 (Cd + 1)) Na La Ma Ea)=some r:=by rw [if_pos rfl] at H;exact H
             clear H;have H:=H1;clear H1;have H':=ga.mk H;clear H
             try go_wp2
             have Nb:=ga.mk (Ca ua.out);have Qb:=ga.mk (oa HB.out);clear ua HB;have ua:=Nb;have HB:=Qb;clear Nb Qb;have wo:0 ≤ (Cd:Int):=of_decide_eq_true (by first|(with_reducible assumption)|assumption);have oo:Cd < (Ea.length:Int):=of_decide_eq_true (by first|(with_reducible assumption)|assumption);obtain ⟨gf,Hx,ng,mg,lg,kg,jg⟩:=Uf Yd.out Cd wo oo;have bl:=jg;have cl:=kg;have fl:=lg;have gl:=mg;have jl:=ng;cases Hx;replace ng:=Qa HB.out ng;replace mg:=Qa HB.out mg;replace lg:=Qa HB.out lg;replace kg:=Qa HB.out kg;replace jg:=Qa HB.out jg;replace wo:=eq_true wo;replace oo:=eq_true oo;refine sk (n:=8) (S:=fun w'=>w'.cell? ⟨Ba,0,none⟩=some (.slice zb Na.length yb)∧w'.cell? ⟨Ba,1,none⟩=some (.int .i64 La)∧w'.cell? ⟨Ba,2,none⟩=some (.int .i64 Ma)∧w'.cell? ⟨Ba,3,none⟩=some (.slice (some gf) Ea.length Ab)∧w'.cell? (gf.add ((Cd).toNat * 5))=some (.int .i64 ((ya Ea Cd).f0))∧w'.cell? ⟨(gf.add ((Cd).toNat * 5)).block,(gf.add ((Cd).toNat * 5)).off + 1,none⟩=some (.int .i64 ((ya Ea Cd).f1))∧w'.cell? ⟨(gf.add ((Cd).toNat * 5)).block,(gf.add ((Cd).toNat * 5)).off + 2,none⟩=some (.int .i64 ((ya Ea Cd).f2))∧w'.cell? ⟨(gf.add ((Cd).toNat * 5)).block,(gf.add ((Cd).toNat * 5)).off + 3,none⟩=some (.int .i64 ((ya Ea Cd).f3))∧w'.cell? ⟨(gf.add ((Cd).toNat * 5)).block,(gf.add ((Cd).toNat * 5)).off + 4,none⟩=some (.int .i64 ((ya Ea Cd).f4))) (ds:=[]) #[false,false,false,false,false,false,false,false] (by kernel_rfl) rfl rfl ⟨(qa ua.out 0).trans rfl,(qa ua.out 1).trans rfl,(qa ua.out 2).trans rfl,(qa ua.out 3).trans rfl,(Qa HB.out jl),(Qa HB.out gl),(Qa HB.out fl),(Qa HB.out cl),(Qa HB.out bl)⟩ (fun hHeld=>?_);refine Hj Pa.zB Pa.Wx (fun ji zw=>?_);generalize wr.drew=CQ at ua HB ng mg lg kg jg hHeld ⊢;refine Sd (i:=1) (N:=some 53) (v:=?_) (a':=?_) #[false,true,false,false,false,false,false,false] rfl rfl (Je ji.out (by kernel_rfl)) (fun _ _ _ h=>h) (Or.inl ⟨by rfl,?_⟩) ?_ ?_;rotate_left
             ·intro w';go_simp;with_reducible rfl
             rotate_left
             ·simp only [Act.put,List.setIfInBounds_toArray,List.set_cons_zero,List.set_cons_succ,Tb,Vb]
              rfl
             refine Sd (i:=3) (N:=some 55) (v:=?_) (a':=?_) #[false,true,false,true,false,false,false,false] rfl rfl (Je ji.out (by kernel_rfl)) (fun _ _ _ h=>h) (Or.inl ⟨by rfl,?_⟩) ?_ ?_;rotate_left
             ·intro w';go_simp;with_reducible rfl
             rotate_left
             ·simp only [Act.put,List.setIfInBounds_toArray,List.set_cons_zero,List.set_cons_succ,Tb,Vb]
              rfl
             refine Fh (i:=0) (N:=some 52) (v:=?_) (a':=?_) #[true,true,false,true,false,false,false,false] rfl rfl (dg ji.out zw.out (by kernel_rfl)) (fun _ _ _ h=>h) (Or.inl ⟨by rfl,?_⟩) hHeld ?_ ?_;rotate_left
             ·rintro w' ⟨s0,s1,s2,s3,s4,s5,s6,s7,s8⟩;go_simp;with_reducible rfl
             rotate_left
             ·simp only [Act.put,List.setIfInBounds_toArray,List.set_cons_zero,List.set_cons_succ,Tb,Vb]
              rfl
             refine Fh (i:=2) (N:=some 54) (v:=?_) (a':=?_) #[true,true,true,true,false,false,false,false] rfl rfl (dg ji.out zw.out (by kernel_rfl)) (fun _ _ _ h=>h) (Or.inl ⟨by rfl,?_⟩) hHeld ?_ ?_;rotate_left
             ·rintro w' ⟨s0,s1,s2,s3,s4,s5,s6,s7,s8⟩;go_simp;with_reducible rfl
             rotate_left
             ·simp only [Act.put,List.setIfInBounds_toArray,List.set_cons_zero,List.set_cons_succ,Tb,Vb]
              rfl
             refine Sd (i:=4) (N:=some 56) (v:=?_) (a':=?_) #[true,true,true,true,true,false,false,false] rfl rfl (Je ji.out (by kernel_rfl)) (fun _ _ _ h=>h) (Or.inl ⟨by rfl,?_⟩) ?_ ?_;rotate_left
             ·intro w';go_simp;with_reducible rfl
             rotate_left
             ·simp only [Act.put,List.setIfInBounds_toArray,List.set_cons_zero,List.set_cons_succ,Tb,Vb]
              rfl
             refine Fh (i:=5) (N:=some 57) (v:=?_) (a':=?_) #[true,true,true,true,true,true,false,false] rfl rfl (dg ji.out zw.out (by kernel_rfl)) (fun _ _ _ h=>h) (Or.inl ⟨by rfl,?_⟩) hHeld ?_ ?_;rotate_left
             ·rintro w' ⟨s0,s1,s2,s3,s4,s5,s6,s7,s8⟩;go_simp;with_reducible rfl
             rotate_left
             ·simp only [Act.put,List.setIfInBounds_toArray,List.set_cons_zero,List.set_cons_succ,Tb,Vb]
              rfl
             refine nj (i:=6) (N:=some 58) #[true,true,true,true,true,true,true,false] rfl rfl (jq ji.out (by kernel_rfl)) (by decide) (fun K hK=>?_);refine Lp Try.func91 (by kernel_rfl) rfl #[.agg #[.slice zb Na.length yb,.int .i64 La,.int .i64 Ma,.slice (some gf) Ea.length Ab],.agg #[.int .i64 ((ya Ea Cd).f0),.int .i64 ((ya Ea Cd).f1),.int .i64 ((ya Ea Cd).f2),.int .i64 ((ya Ea Cd).f3),.int .i64 ((ya Ea Cd).f4)]] (by rfl) rfl rfl (by (try simp only [List.map_toArray,List.map_cons,List.map_nil]);first|done|rfl|(simp only [List.length_drop,List.length_take];rfl)) ?_;with_reducible refine (Va.calls k3 _ _ Na La Ma _ _ Ea ((ya Ea Cd).f0) ((ya Ea Cd).f1) ((ya Ea Cd).f2) ((ya Ea Cd).f3) ((ya Ea Cd).f4) true _ ?Zb ?Yb ?Uc ?Xc oL.out).mono ?_
             (case Zb=>repeat (first|exact (Kd.Fb Be.out HB.out)|(with_reducible refine Kd.Lb ?_ _)|(with_reducible refine Kd.Kb ?_ _)|(with_reducible refine Kd.ec ?_)))
             (case Yb=>exact Te.out)
             (case Uc=>repeat (first|exact (Kd.Fb Yd.out HB.out)|(with_reducible refine Kd.Lb ?_ _)|(with_reducible refine Kd.Kb ?_ _)|(with_reducible refine Kd.ec ?_)))
             (case Xc=>exact Ff.out)
             rintro e Cw ⟨rfl,hb⟩;refine ⟨_,rfl,?_⟩;have Nb:=ga.mk (mb (g:=Ba) (o:=.cells #[.slice zb Na.length yb,.int .i64 La,.int .i64 Ma,.slice (some gf) Ea.length Ab] 30 (0,0)) (by (with_reducible repeat (first|refine za ?_ _|refine Ca ?_|refine Aa ?_ _));exact ua.out) hb);have Qb:=ga.mk (Ra (by repeat (first|(with_reducible first|exact HB.out|apply ia|apply aa|apply oa|refine ta ?_ Sa.out)|exact HB.out)) hb);clear ua HB;have ua:=Nb;have HB:=Qb;clear Nb Qb;(try clear hb);(try clear Ak);(try clear hk);(try clear hi);refine hK.out _ _ ⟨(qa ua.out 0).trans rfl,(qa ua.out 1).trans rfl,(qa ua.out 2).trans rfl,(qa ua.out 3).trans rfl,(Qa HB.out jl),(Qa HB.out gl),(Qa HB.out fl),(Qa HB.out cl),(Qa HB.out bl)⟩ (fun hHeld=>?_);clear hK K;refine je (a':=?_) ?_ ?_;rotate_left
             ·show Act.put _ (some 58) _=_
              simp only [Act.put,List.setIfInBounds_toArray,List.set_cons_zero,List.set_cons_succ,Tb,Vb]
              rfl
             refine Sd (i:=7) (N:=some 59) (v:=?_) (a':=?_) #[true,true,true,true,true,true,true,true] rfl rfl (Je ji.out (by kernel_rfl)) (fun _ _ _ h=>h) (Or.inl ⟨by rfl,?_⟩) ?_ ?_;rotate_left
             ·intro w';go_simp;with_reducible rfl
             rotate_left
             ·simp only [Act.put,List.setIfInBounds_toArray,List.set_cons_zero,List.set_cons_succ,Tb,Vb]
              rfl
             refine Oo (Wn ji.out (by kernel_rfl)) ?_
             try go_wp2
             go_roundg k3
             case measure=>have:=Qg.out;have:=pQ.out;have:=aN.out;omega
             case rel=>exact ⟨(wrap64 (Cd + 1)),(by first|rfl|(simp;done)|(simp [*];done)),H',⟨by have:=Qg.out;have:=pQ.out;have:=aN.out;omega⟩,⟨by (with_reducible repeat (first|refine za ?_ _|refine Ca ?_|refine Aa ?_ _));exact ua.out⟩,⟨by repeat (first|(with_reducible first|exact HB.out|apply ia|apply aa|apply oa|refine ta ?_ Sa.out)|exact HB.out)⟩⟩
            ·replace Ys:=Bool.eq_false_iff.mpr Ys;subst Ys;have H1:(some false)=some r:=by rw [if_neg (show ¬ (false=true) by decide)] at H;exact H
             clear H;have H:=H1;clear H1;obtain rfl:=Option.some.inj H
             try go_wp2
             have Nb:=ga.mk (Ca ua.out);have Qb:=ga.mk (oa HB.out);clear ua HB;have ua:=Nb;have HB:=Qb;clear Nb Qb;have wo:0 ≤ (Cd:Int):=of_decide_eq_true (by first|(with_reducible assumption)|assumption);have oo:Cd < (Ea.length:Int):=of_decide_eq_true (by first|(with_reducible assumption)|assumption);obtain ⟨gf,Hx,ng,mg,lg,kg,jg⟩:=Uf Yd.out Cd wo oo;have bl:=jg;have cl:=kg;have fl:=lg;have gl:=mg;have jl:=ng;cases Hx;replace ng:=Qa HB.out ng;replace mg:=Qa HB.out mg;replace lg:=Qa HB.out lg;replace kg:=Qa HB.out kg;replace jg:=Qa HB.out jg;replace wo:=eq_true wo;replace oo:=eq_true oo;refine sk (n:=8) (S:=fun w'=>w'.cell? ⟨Ba,0,none⟩=some (.slice zb Na.length yb)∧w'.cell? ⟨Ba,1,none⟩=some (.int .i64 La)∧w'.cell? ⟨Ba,2,none⟩=some (.int .i64 Ma)∧w'.cell? ⟨Ba,3,none⟩=some (.slice (some gf) Ea.length Ab)∧w'.cell? (gf.add ((Cd).toNat * 5))=some (.int .i64 ((ya Ea Cd).f0))∧w'.cell? ⟨(gf.add ((Cd).toNat * 5)).block,(gf.add ((Cd).toNat * 5)).off + 1,none⟩=some (.int .i64 ((ya Ea Cd).f1))∧w'.cell? ⟨(gf.add ((Cd).toNat * 5)).block,(gf.add ((Cd).toNat * 5)).off + 2,none⟩=some (.int .i64 ((ya Ea Cd).f2))∧w'.cell? ⟨(gf.add ((Cd).toNat * 5)).block,(gf.add ((Cd).toNat * 5)).off + 3,none⟩=some (.int .i64 ((ya Ea Cd).f3))∧w'.cell? ⟨(gf.add ((Cd).toNat * 5)).block,(gf.add ((Cd).toNat * 5)).off + 4,none⟩=some (.int .i64 ((ya Ea Cd).f4))) (ds:=[]) #[false,false,false,false,false,false,false,false] (by kernel_rfl) rfl rfl ⟨(qa ua.out 0).trans rfl,(qa ua.out 1).trans rfl,(qa ua.out 2).trans rfl,(qa ua.out 3).trans rfl,(Qa HB.out jl),(Qa HB.out gl),(Qa HB.out fl),(Qa HB.out cl),(Qa HB.out bl)⟩ (fun hHeld=>?_);refine Hj Pa.zB Pa.Wx (fun ji zw=>?_);generalize wr.drew=vS at ua HB ng mg lg kg jg hHeld ⊢;refine Sd (i:=1) (N:=some 53) (v:=?_) (a':=?_) #[false,true,false,false,false,false,false,false] rfl rfl (Je ji.out (by kernel_rfl)) (fun _ _ _ h=>h) (Or.inl ⟨by rfl,?_⟩) ?_ ?_;rotate_left
             ·intro w';go_simp;with_reducible rfl
             rotate_left
             ·simp only [Act.put,List.setIfInBounds_toArray,List.set_cons_zero,List.set_cons_succ,Tb,Vb]
              rfl
             refine Sd (i:=3) (N:=some 55) (v:=?_) (a':=?_) #[false,true,false,true,false,false,false,false] rfl rfl (Je ji.out (by kernel_rfl)) (fun _ _ _ h=>h) (Or.inl ⟨by rfl,?_⟩) ?_ ?_;rotate_left
             ·intro w';go_simp;with_reducible rfl
             rotate_left
             ·simp only [Act.put,List.setIfInBounds_toArray,List.set_cons_zero,List.set_cons_succ,Tb,Vb]
              rfl
             refine Fh (i:=0) (N:=some 52) (v:=?_) (a':=?_) #[true,true,false,true,false,false,false,false] rfl rfl (dg ji.out zw.out (by kernel_rfl)) (fun _ _ _ h=>h) (Or.inl ⟨by rfl,?_⟩) hHeld ?_ ?_;rotate_left
             ·rintro w' ⟨s0,s1,s2,s3,s4,s5,s6,s7,s8⟩;go_simp;with_reducible rfl
             rotate_left
             ·simp only [Act.put,List.setIfInBounds_toArray,List.set_cons_zero,List.set_cons_succ,Tb,Vb]
              rfl
             refine Fh (i:=2) (N:=some 54) (v:=?_) (a':=?_) #[true,true,true,true,false,false,false,false] rfl rfl (dg ji.out zw.out (by kernel_rfl)) (fun _ _ _ h=>h) (Or.inl ⟨by rfl,?_⟩) hHeld ?_ ?_;rotate_left
             ·rintro w' ⟨s0,s1,s2,s3,s4,s5,s6,s7,s8⟩;go_simp;with_reducible rfl
             rotate_left
             ·simp only [Act.put,List.setIfInBounds_toArray,List.set_cons_zero,List.set_cons_succ,Tb,Vb]
              rfl
             refine Sd (i:=4) (N:=some 56) (v:=?_) (a':=?_) #[true,true,true,true,true,false,false,false] rfl rfl (Je ji.out (by kernel_rfl)) (fun _ _ _ h=>h) (Or.inl ⟨by rfl,?_⟩) ?_ ?_;rotate_left
             ·intro w';go_simp;with_reducible rfl
             rotate_left
             ·simp only [Act.put,List.setIfInBounds_toArray,List.set_cons_zero,List.set_cons_succ,Tb,Vb]
              rfl
             refine Fh (i:=5) (N:=some 57) (v:=?_) (a':=?_) #[true,true,true,true,true,true,false,false] rfl rfl (dg ji.out zw.out (by kernel_rfl)) (fun _ _ _ h=>h) (Or.inl ⟨by rfl,?_⟩) hHeld ?_ ?_;rotate_left
             ·rintro w' ⟨s0,s1,s2,s3,s4,s5,s6,s7,s8⟩;go_simp;with_reducible rfl
             rotate_left
             ·simp only [Act.put,List.setIfInBounds_toArray,List.set_cons_zero,List.set_cons_succ,Tb,Vb]
              rfl
             refine nj (i:=6) (N:=some 58) #[true,true,true,true,true,true,true,false] rfl rfl (jq ji.out (by kernel_rfl)) (by decide) (fun K hK=>?_);refine Lp Try.func91 (by kernel_rfl) rfl #[.agg #[.slice zb Na.length yb,.int .i64 La,.int .i64 Ma,.slice (some gf) Ea.length Ab],.agg #[.int .i64 ((ya Ea Cd).f0),.int .i64 ((ya Ea Cd).f1),.int .i64 ((ya Ea Cd).f2),.int .i64 ((ya Ea Cd).f3),.int .i64 ((ya Ea Cd).f4)]] (by rfl) rfl rfl (by (try simp only [List.map_toArray,List.map_cons,List.map_nil]);first|done|rfl|(simp only [List.length_drop,List.length_take];rfl)) ?_;with_reducible refine (Va.calls k3 _ _ Na La Ma _ _ Ea ((ya Ea Cd).f0) ((ya Ea Cd).f1) ((ya Ea Cd).f2) ((ya Ea Cd).f3) ((ya Ea Cd).f4) false _ ?Zb ?Yb ?Uc ?Xc oL.out).mono ?_
             (case Zb=>repeat (first|exact (Kd.Fb Be.out HB.out)|(with_reducible refine Kd.Lb ?_ _)|(with_reducible refine Kd.Kb ?_ _)|(with_reducible refine Kd.ec ?_)))
             (case Yb=>exact Te.out)
             (case Uc=>repeat (first|exact (Kd.Fb Yd.out HB.out)|(with_reducible refine Kd.Lb ?_ _)|(with_reducible refine Kd.Kb ?_ _)|(with_reducible refine Kd.ec ?_)))
             (case Xc=>exact Ff.out)
             rintro e sE ⟨rfl,hb⟩;refine ⟨_,rfl,?_⟩;have Nb:=ga.mk (mb (g:=Ba) (o:=.cells #[.slice zb Na.length yb,.int .i64 La,.int .i64 Ma,.slice (some gf) Ea.length Ab] 30 (0,0)) (by (with_reducible repeat (first|refine za ?_ _|refine Ca ?_|refine Aa ?_ _));exact ua.out) hb);have Qb:=ga.mk (Ra (by repeat (first|(with_reducible first|exact HB.out|apply ia|apply aa|apply oa|refine ta ?_ Sa.out)|exact HB.out)) hb);clear ua HB;have ua:=Nb;have HB:=Qb;clear Nb Qb;(try clear hb);(try clear Ak);(try clear hk);(try clear hi);refine hK.out _ _ ⟨(qa ua.out 0).trans rfl,(qa ua.out 1).trans rfl,(qa ua.out 2).trans rfl,(qa ua.out 3).trans rfl,(Qa HB.out jl),(Qa HB.out gl),(Qa HB.out fl),(Qa HB.out cl),(Qa HB.out bl)⟩ (fun hHeld=>?_);clear hK K;refine je (a':=?_) ?_ ?_;rotate_left
             ·show Act.put _ (some 58) _=_
              simp only [Act.put,List.setIfInBounds_toArray,List.set_cons_zero,List.set_cons_succ,Tb,Vb]
              rfl
             refine Sd (i:=7) (N:=some 59) (v:=?_) (a':=?_) #[true,true,true,true,true,true,true,true] rfl rfl (Je ji.out (by kernel_rfl)) (fun _ _ _ h=>h) (Or.inl ⟨by rfl,?_⟩) ?_ ?_;rotate_left
             ·intro w';go_simp;with_reducible rfl
             rotate_left
             ·simp only [Act.put,List.setIfInBounds_toArray,List.set_cons_zero,List.set_cons_succ,Tb,Vb]
              rfl
             refine Oo (Wn ji.out (by kernel_rfl)) ?_
             try go_wp2
             go_ret;exact ⟨by first|rfl|(simp [Ia,Ga] <;> rfl)|(simp [*,Ia,Ga] <;> rfl),by repeat (first|(with_reducible first|exact HB.out|apply ia|apply aa|apply oa|refine ta ?_ Sa.out)|exact HB.out)⟩
           ·rw [if_neg Vx] at H;exact absurd H (by simp)
          ·rw [if_neg lu] at H;exact absurd H (by simp)
         ·rw [if_neg Aw] at H;have sC:decide (Cd < (Ea.length:Int))=false:=decide_eq_false Aw;clear Aw;obtain ⟨Ah,Bs⟩:∃ j_:Int,(wrap64 ((Ea.length:Int) - 1))=j_:=⟨_,rfl⟩;replace H:(if 0 ≤ (Ah) then (if (Ah) < (Ea.length:Int) then (if ((ya Ea (Ah)).f0)=10 then (some true) else (some (((ya Ea (Ah)).f0) == 8))) else (none)) else (none))=some r:=by first|(rw [Bs] at H;exact H)|(simp only [Bs] at H ⊢;exact H)
          have QL:(IntKind.i64.wrap ((Ea.length:Int) - 1))=Ah:=(Tb _).trans Bs
          by_cases Px:0 ≤ (Ah)
          ·rw [if_pos Px] at H;have YP:decide (0 ≤ (Ah))=true:=decide_eq_true Px;clear Px
           by_cases Ox:(Ah) < (Ea.length:Int)
           ·rw [if_pos Ox] at H;have XP:decide ((Ah) < (Ea.length:Int))=true:=decide_eq_true Ox;clear Ox
            by_cases ND:((ya Ea (Ah)).f0)=10
            ·rw [if_pos ND] at H;have kG:(((ya Ea (Ah)).f0) == 10)=true:=beq_iff_eq.mpr ND;have jG:(((ya Ea (Ah)).f0) != 10)=false:=bne_eq_false_iff_eq.mpr ND;clear ND;obtain rfl:=Option.some.inj H;have MA:wr.cell? ⟨Ba,0,none⟩=some (.slice zb Na.length yb):=(qa ua.out 0).trans rfl;have LA:wr.cell? ⟨Ba,1,none⟩=some (.int .i64 La):=(qa ua.out 1).trans rfl;have KA:wr.cell? ⟨Ba,2,none⟩=some (.int .i64 Ma):=(qa ua.out 2).trans rfl;have JA:wr.cell? ⟨Ba,3,none⟩=some (.slice Eb Ea.length Ab):=(qa ua.out 3).trans rfl;have Lz:=ja ua.out 0;have Kz:=ja ua.out 1;have Jz:=ja ua.out 2;have Iz:=ja ua.out 3;have Bt:0 ≤ ((Ah):Int):=of_decide_eq_true (by first|(with_reducible assumption)|assumption);have qt:(Ah) < (Ea.length:Int):=of_decide_eq_true (by first|(with_reducible assumption)|assumption);obtain ⟨wC,zD,Tk,Sk,Rk,Qk,Pk⟩:=Uf Yd.out (Ah) Bt qt;cases zD;replace Tk:=Qa HB.out Tk;replace Sk:=Qa HB.out Sk;replace Rk:=Qa HB.out Rk;replace Qk:=Qa HB.out Qk;replace Pk:=Qa HB.out Pk;replace Bt:=eq_true Bt;replace qt:=eq_true qt;go_wp2;go_ret;exact ⟨by first|rfl|(simp [Ia,Ga] <;> rfl)|(simp only [← Bs];first|rfl|(simp [Ia,Ga] <;> rfl))|(simp [*,Ia,Ga] <;> rfl),by repeat (first|(with_reducible first|exact HB.out|apply ia|apply aa|apply oa|refine ta ?_ Sa.out)|exact HB.out)⟩
            ·rw [if_neg ND] at H;have kG:(((ya Ea (Ah)).f0) == 10)=false:=beq_eq_false_iff_ne.mpr ND;have jG:(((ya Ea (Ah)).f0) != 10)=true:=bne_iff_ne.mpr ND;obtain rfl:=Option.some.inj H;have IA:wr.cell? ⟨Ba,0,none⟩=some (.slice zb Na.length yb):=(qa ua.out 0).trans rfl;have GA:wr.cell? ⟨Ba,1,none⟩=some (.int .i64 La):=(qa ua.out 1).trans rfl;have FA:wr.cell? ⟨Ba,2,none⟩=some (.int .i64 Ma):=(qa ua.out 2).trans rfl;have EA:wr.cell? ⟨Ba,3,none⟩=some (.slice Eb Ea.length Ab):=(qa ua.out 3).trans rfl;have Hz:=ja ua.out 0;have Gz:=ja ua.out 1;have Fz:=ja ua.out 2;have Ez:=ja ua.out 3;have Bt:0 ≤ ((Ah):Int):=of_decide_eq_true (by first|(with_reducible assumption)|assumption);have qt:(Ah) < (Ea.length:Int):=of_decide_eq_true (by first|(with_reducible assumption)|assumption);obtain ⟨wC,zD,Tk,Sk,Rk,Qk,Pk⟩:=Uf Yd.out (Ah) Bt qt;cases zD;replace Tk:=Qa HB.out Tk;replace Sk:=Qa HB.out Sk;replace Rk:=Qa HB.out Rk;replace Qk:=Qa HB.out Qk;replace Pk:=Qa HB.out Pk;replace Bt:=eq_true Bt;replace qt:=eq_true qt;have NC:0 ≤ ((Ah):Int):=of_decide_eq_true (by first|(with_reducible assumption)|assumption);have MC:(Ah) < (Ea.length:Int):=of_decide_eq_true (by first|(with_reducible assumption)|assumption);obtain ⟨nG,PM,Eu,Du,Cu,Bu,Au⟩:=Uf Yd.out (Ah) NC MC;obtain rfl:wC=nG:=(by injection PM);replace Eu:=Qa HB.out Eu;replace Du:=Qa HB.out Du;replace Cu:=Qa HB.out Cu;replace Bu:=Qa HB.out Bu;replace Au:=Qa HB.out Au;replace NC:=eq_true NC;replace MC:=eq_true MC;go_wp2;go_ret;exact ⟨by first|rfl|(simp [Ia,Ga] <;> rfl)|(simp only [← Bs];first|rfl|(simp [Ia,Ga] <;> rfl))|(simp [*,Ia,Ga] <;> rfl),by repeat (first|(with_reducible first|exact HB.out|apply ia|apply aa|apply oa|refine ta ?_ Sa.out)|exact HB.out)⟩
           ·rw [if_neg Ox] at H;exact absurd H (by simp)
          ·rw [if_neg Px] at H;exact absurd H (by simp)
def qf.f (jd:Int) (La:Int) (Ma:Int) (Nd:Int) (Pd:Int):Option (Bool):=if jd=8 then (some true) else (some (jd == 9))
theorem qf.calls (jd:Int) (La:Int) (Ma:Int) (Nd:Int) (Pd:Int) (r:Bool) (w:World) (h:qf.f jd La Ma Nd Pd=some r) :
  Calls Try.prog 54 #[.agg #[.int .i64 jd,.int .i64 La,.int .i64 Ma,.int .i64 Nd,.int .i64 Pd]] w fun e w'=>e = .returned (.bool r)∧Below w.heap.size w w':=by
 have Zr:=Try.underlying67;have HB:=ga.mk (Below.refl w.heap.size w);have H:(if jd=8 then (some true) else (some (jd == 9)))=some r:=h;clear h
 by_cases c2:jd=8
 ·rw [if_pos c2] at H;have Ux:(jd == 8)=true:=beq_iff_eq.mpr c2;have Tx:(jd != 8)=false:=bne_eq_false_iff_eq.mpr c2;clear c2;obtain rfl:=Option.some.inj H;go_enter Try.func54,Try.ntmps54;go_wp2_with (first|((with_reducible refine Jb (N:=1) rfl ?_);refine Db ?hg (N:=1) ?hd (cs:=#[.int .i64 jd,.int .i64 La,.int .i64 Ma,.int .i64 Nd,.int .i64 Pd]) (t:=67) ?hr ?_;(case hd=>rfl);(case hg=>rfl);(case hr=>first|(go_simp;done)|(go_simp;rfl));intro Ba hg w3 Rb hb;have Nb:=ga.mk (Ra (by repeat (first|(with_reducible first|exact HB.out|apply ia|apply aa|apply oa)|exact HB.out)) hb);have Qb:=ga.mk (Rb);have fc:=ga.mk ((by rw [hg];exact (Ja (by repeat (first|(with_reducible first|exact HB.out|apply ia|apply aa|apply oa)|exact HB.out))):w.heap.size ≤ Ba));have Ec:=ga.mk ((by rw [hg];exact (Ja (by repeat (first|(with_reducible first|exact HB.out|apply ia|apply aa|apply oa)|exact HB.out))):w.heap.size ≤ Ba));clear HB;have HB:=Nb;have ua:=Qb;have Ue:=fc;have Sa:=Ec;clear Nb Qb fc Ec hb Rb hg;have lM:w3.cell? ⟨Ba,0,none⟩=some (.int .i64 jd):=(qa ua.out 0).trans rfl;have kM:w3.cell? ⟨Ba,1,none⟩=some (.int .i64 La):=(qa ua.out 1).trans rfl;have jM:w3.cell? ⟨Ba,2,none⟩=some (.int .i64 Ma):=(qa ua.out 2).trans rfl;have iM:w3.cell? ⟨Ba,3,none⟩=some (.int .i64 Nd):=(qa ua.out 3).trans rfl;have gM:w3.cell? ⟨Ba,4,none⟩=some (.int .i64 Pd):=(qa ua.out 4).trans rfl;have XL:=ja ua.out 0;have WL:=ja ua.out 1;have VL:=ja ua.out 2;have UL:=ja ua.out 3;have TL:=ja ua.out 4));go_ret;exact ⟨by first|rfl|(simp [Ia,Ga] <;> rfl)|(simp [*,Ia,Ga] <;> rfl),by repeat (first|(with_reducible first|exact HB.out|apply ia|apply aa|apply oa|refine ta ?_ Sa.out)|exact HB.out)⟩
 ·rw [if_neg c2] at H;have Ux:(jd == 8)=false:=beq_eq_false_iff_ne.mpr c2;have Tx:(jd != 8)=true:=bne_iff_ne.mpr c2;obtain rfl:=Option.some.inj H;go_enter Try.func54,Try.ntmps54;go_wp2_with (first|((with_reducible refine Jb (N:=1) rfl ?_);refine Db ?hg (N:=1) ?hd (cs:=#[.int .i64 jd,.int .i64 La,.int .i64 Ma,.int .i64 Nd,.int .i64 Pd]) (t:=67) ?hr ?_;(case hd=>rfl);(case hg=>rfl);(case hr=>first|(go_simp;done)|(go_simp;rfl));intro Ba hg w5 Rb hb;have Nb:=ga.mk (Ra (by repeat (first|(with_reducible first|exact HB.out|apply ia|apply aa|apply oa)|exact HB.out)) hb);have Qb:=ga.mk (Rb);have fc:=ga.mk ((by rw [hg];exact (Ja (by repeat (first|(with_reducible first|exact HB.out|apply ia|apply aa|apply oa)|exact HB.out))):w.heap.size ≤ Ba));have Ec:=ga.mk ((by rw [hg];exact (Ja (by repeat (first|(with_reducible first|exact HB.out|apply ia|apply aa|apply oa)|exact HB.out))):w.heap.size ≤ Ba));clear HB;have HB:=Nb;have ua:=Qb;have Ue:=fc;have Sa:=Ec;clear Nb Qb fc Ec hb Rb hg;have ox:w5.cell? ⟨Ba,0,none⟩=some (.int .i64 jd):=(qa ua.out 0).trans rfl;have nx:w5.cell? ⟨Ba,1,none⟩=some (.int .i64 La):=(qa ua.out 1).trans rfl;have jx:w5.cell? ⟨Ba,2,none⟩=some (.int .i64 Ma):=(qa ua.out 2).trans rfl;have gx:w5.cell? ⟨Ba,3,none⟩=some (.int .i64 Nd):=(qa ua.out 3).trans rfl;have fM:w5.cell? ⟨Ba,4,none⟩=some (.int .i64 Pd):=(qa ua.out 4).trans rfl;have Zw:=ja ua.out 0;have Yw:=ja ua.out 1;have Xw:=ja ua.out 2;have Ww:=ja ua.out 3;have SL:=ja ua.out 4));go_ret;exact ⟨by first|rfl|(simp [Ia,Ga] <;> rfl)|(simp [*,Ia,Ga] <;> rfl),by repeat (first|(with_reducible first|exact HB.out|apply ia|apply aa|apply oa|refine ta ?_ Sa.out)|exact HB.out)⟩
theorem mm {α:Type} (d:Kd α) (e:Nat) (w:World) (base:Nat) (h:base ≤ w.heap.size):d.R e (w.alloc (.cells #[] e (0,0))) base (fun _=>True) (.slice (some ⟨w.heap.size,0,none⟩) 0 0) []:=by
 refine ⟨fun _ _=>trivial,[],?_,⟨by simp,fun i p hp=>by simp at hp⟩⟩;have h2:=World.ownsRow_lit (base:=base) (e:=e) (size:=d.sz) w #[] 0 h (by simp [maxLen]) (by simp)
 simpa using h2
def Bj (l:List Int) (n:Int):Nat:=(l.takeWhile (fun x=>decide (x < n))).length
def zi (l:List Int) (n:Int):List Int:=if Bj l n < l.length∧rd l (Bj l n:Int)=n then l else l.take (Bj l n) ++ [n] ++ l.drop (Bj l n)
theorem Gi (x:Int) (l:List Int) (j:Nat):rd (x :: l) ((j + 1:Nat):Int)=rd l (j:Int):=by
 simp [rd]
theorem Yy (l:List Int) (n:Int):∀ i:Nat,i ≤ l.length→(∀ j:Nat,j < i→rd l (j:Int) < n)→(i=l.length ∨ ¬ rd l (i:Int) < n)→Bj l n=i:=by
 induction l with
 | nil =>
  intro i hi _ _;simp at hi;simp [Bj,hi]
 | cons x l ih =>
  intro i hi ha hb;cases i with
  | zero =>
   have hx:¬ x < n:=by
    rcases hb with h|h
    ·simp at h
    ·simpa [rd] using h
   simp [Bj,hx]
  | succ i =>
   have hx:x < n:=by simpa [rd] using ha 0 (by omega)
   have h:=ih i (by simpa using hi) (fun j hj=>by have:=ha (j + 1) (by omega);rwa [Gi] at this) (by
    rcases hb with h|h
    ·exact Or.inl (by simpa using h)
    ·rw [Gi] at h
     exact Or.inr h)
   unfold Bj at h ⊢;simp [List.takeWhile_cons,hx,h]
def Td.f (l0:List Int) (a1:Int):Option (List Int):=if l0.length ≤ 4398046511104 then some (zi l0 a1) else none
theorem Ts {e:Nat} {W:World} {base:Nat} (h:base ≤ W.heap.size) (n:Int) (t:Nat):Kd.R (Kd.int .i64) e ((W.alloc (.cells #[.int .i64 n] t (0,0))).alloc (.cells #[] e (0,0))) base (fun _=>True) (.slice (some ⟨W.heap.size + 1,0,none⟩) 0 0) []:=by
 have h2:=mm (Kd.int .i64) e (W.alloc (.cells #[.int .i64 n] t (0,0))) base (by simp;omega)
 simpa using h2
theorem Wp {e:Nat} (w:World) (base:Nat) (n:Int) (h:base ≤ w.heap.size):Kd.R (Kd.int .i64) e (w.alloc (.cells #[.int .i64 n] e (0,0))) base (fun _=>True) (.slice (some ⟨w.heap.size,0,none⟩) 1 1) [n]:=by
 refine ⟨fun _ _=>trivial,[.int .i64 n],?_,⟨rfl,fun i p hp=>?_⟩⟩
 ·have h2:=World.ownsRow_lit (base:=base) (e:=e) (size:=1) w #[.int .i64 n] 1 h (by simp [maxLen]) (by simp);exact h2
 ·cases i with
  | zero =>
   simp at hp;subst hp
   rfl
  | succ i=>simp at hp
theorem Td.calls (ei:Nat→Prop) (Ge:Value) (l0:List Int) (a1:Int) (r:List Int) (w0 w:World) (hB:Below w0.heap.size w0 w) (Yf:Kd.R (Kd.int .i64) 3 w w0.heap.size ei Ge l0) (h:Td.f l0 a1=some r) :
  Calls Try.prog 55 #[Ge,.int .i64 a1] w fun e w'=>∃ Wm:Value,e = .returned (Wm)∧Kd.R (Kd.int .i64) 3 w' w0.heap.size (fun k_=>(ei k_ ∨ w.heap.size ≤ k_)) Wm r∧Below w0.heap.size w0 w'∧Kept w w' (fun k_=>ei k_):=by
 unfold Td.f at h;have hl:l0.length ≤ 4398046511104:=Decidable.byContradiction fun hn=>by rw [if_neg hn] at h;cases h
 rw [if_pos hl] at h;obtain rfl:=Option.some.inj h;obtain ⟨A,c,rfl⟩:=Kd.Vd Yf;obtain ⟨_,hnc,hC⟩:=Kd.Bb Yf;have HO:=ga.mk Yf;have TG:=ga.mk hB;have ry:=ga.mk hC;have HL:=ga.mk hl;have zS:l0.length ≤ 9223372036854775807:=by omega
 clear Yf hB hC h hl;go_enter Try.func55,Try.ntmps55;go_wp2
 go_loopg [5] l0.length (fun gg v5 wr=>∃ i:Nat,i ≤ l0.length∧l0.length - i ≤ gg∧v5 = .int .i64 i∧ga (∀ j:Nat,j < i→rd l0 (j:Int) < a1)∧ga (Below w.heap.size w wr))
 case atStart=>exact ⟨0,Nat.zero_le _,by omega,rfl,⟨fun j hj=>absurd hj (by omega)⟩,⟨Below.refl _ _⟩⟩
 case round =>
  (try clear HA);(try clear My);obtain ⟨i,hi,hg,rfl,HA,My⟩:=hrel;have key:∀ hstop:(i=l0.length ∨ ¬ rd l0 (i:Int) < a1),Bj l0 a1=i:=fun hstop=>Yy l0 a1 i hi HA.out hstop
  have HKEY:=ga.mk key;clear key
  by_cases hgo:i < l0.length∧rd l0 (i:Int) < a1
  case pos =>
   obtain ⟨hlt,hc⟩:=hgo;have iD:decide ((i:Int) < (l0.length:Int))=true:=decide_eq_true (by omega);have p1:0 ≤ (i:Int):=by omega
   have p2:(i:Int) < (l0.length:Int):=by omega
   obtain ⟨ad,e1,hx⟩:=Kd.Hg (Kd.Fb ry.out My.out) (i:Int) p1 p2;subst e1;simp only [Int.toNat_natCast] at hx;have hcb:decide (rd l0 (i:Int) < a1)=true:=decide_eq_true hc;have HC:=ga.mk hc;clear hc;go_wp2
   go_roundg (l0.length - (i + 1))
   case measure=>omega
   case rel=>exact ⟨i + 1,by omega,by omega,by go_num,⟨fun j hj=>by by_cases e:j=i;(rw [e];exact HC.out);(exact HA.out j (by omega))⟩,My⟩
  have PG:=ga.mk (HKEY.out (by by_cases h:i < l0.length;(exact Or.inr (fun hc=>hgo ⟨h,hc⟩));(exact Or.inl (by omega))))
  by_cases uH:i < l0.length∧rd l0 (i:Int)=a1
  case pos =>
   obtain ⟨hlt,he⟩:=uH;have iD:decide ((i:Int) < (l0.length:Int))=true:=decide_eq_true (by omega);have p1:0 ≤ (i:Int):=by omega
   have p2:(i:Int) < (l0.length:Int):=by omega
   obtain ⟨ad,e1,hx⟩:=Kd.Hg (Kd.Fb ry.out My.out) (i:Int) p1 p2;subst e1;simp only [Int.toNat_natCast] at hx;have hcb:decide (rd l0 (i:Int) < a1)=false:=decide_eq_false (by omega);have rR:(rd l0 (i:Int) == a1)=true:=beq_iff_eq.2 he;have HE:=ga.mk (show zi l0 a1=l0 from by unfold zi;rw [PG.out,if_pos ⟨hlt,he⟩]);clear he hgo;go_wp2;go_ret;exact ⟨_,rfl,by rw [HE.out];exact Kd.yc (Kd.Qc HO.out My.out) (fun _ hk=>Or.inl hk),Ra TG.out My.out,Kept.uj My.out _⟩
  have HE:=ga.mk (show zi l0 a1=l0.take i ++ [a1] ++ l0.drop i from by unfold zi;rw [PG.out,if_neg uH]);have p1:0 ≤ (i:Int):=by omega
  have p3:(i:Int) ≤ (l0.length:Int):=by omega
  have hi0:=info3;obtain ⟨i0,hi1,hi2⟩:=Option.map_eq_some_iff.1 hi0;have eP:i0.size=1:=by simp only [Prod.mk.injEq] at hi2;exact hi2.2.1
  have uF:=DD 22 3 .i64 Try.underlying22 hi1 A l0.length c (i:Int) p1 p3 hnc;have tF:=Jx 22 3 .i64 Try.underlying22 hi1 1 eP A l0.length c (i:Int) p1 p3;simp only [Int.toNat_natCast,Nat.mul_one] at uF tF;clear hi0 hi2 eP
  have XE:(decide ((i:Int) < (l0.length:Int))=false∧¬ i < l0.length) ∨ (decide ((i:Int) < (l0.length:Int))=true∧i < l0.length∧(i:Int) < (l0.length:Int)∧decide (rd l0 (i:Int) < a1)=false∧(rd l0 (i:Int) == a1)=false):=by
   by_cases h:i < l0.length
   ·exact Or.inr ⟨decide_eq_true (by omega),h,by omega,decide_eq_false (fun hc=>hgo ⟨h,hc⟩),beq_eq_false_iff_ne.2 (fun hc=>uH ⟨h,hc⟩)⟩
   ·exact Or.inl ⟨decide_eq_false (by omega),h⟩
  clear hgo uH
  rcases XE with ⟨iD,hlt⟩|⟨iD,hlt,p2,hcb,rR⟩
  ·go_upto_region 6 with (fail)
   have vk:=ga.mk (oa My.out);refine sk (n:=13) (S:=fun w'=>True) (ds:=[]) #[false,false,false,false,false,false,false,false,false,false,false,false,false] (by kernel_rfl) rfl rfl trivial (fun hHeld=>?_);generalize wr.drew=wd at vk hHeld ⊢;refine Sd (i:=1) (N:=some 34) (v:=?_) (a':=?_) #[false,true,false,false,false,false,false,false,false,false,false,false,false] rfl rfl (by kernel_rfl) (fun _ _ _ h=>h) (Or.inl ⟨by rfl,?_⟩) ?_ ?_;rotate_left
   ·intro w';go_simp;with_reducible rfl
   rotate_left
   ·simp only [Act.put,List.setIfInBounds_toArray,List.set_cons_zero,List.set_cons_succ,Tb,Vb]
    rfl
   refine Sd (i:=2) (N:=some 35) (v:=?_) (a':=?_) #[false,true,true,false,false,false,false,false,false,false,false,false,false] rfl rfl (by kernel_rfl) (fun _ _ _ h=>h) (Or.inl ⟨by rfl,?_⟩) ?_ ?_;rotate_left
   ·intro w';go_simp;with_reducible rfl
   rotate_left
   ·simp only [Act.put,List.setIfInBounds_toArray,List.set_cons_zero,List.set_cons_succ,Tb,Vb]
    rfl
   refine Sd (i:=3) (N:=some 36) (v:=?_) (a':=?_) #[false,true,true,true,false,false,false,false,false,false,false,false,false] rfl rfl (by kernel_rfl) (fun _ _ _ h=>h) (Or.inl ⟨by rfl,?_⟩) ?_ ?_;rotate_left
   ·intro w';go_simp;with_reducible rfl
   rotate_left
   ·simp only [Act.put,List.setIfInBounds_toArray,List.set_cons_zero,List.set_cons_succ,Tb,Vb]
    rfl
   refine Sd (i:=5) (N:=some 38) (v:=?_) (a':=?_) #[false,true,true,true,false,true,false,false,false,false,false,false,false] rfl rfl (by kernel_rfl) (fun _ _ _ h=>h) (Or.inl ⟨by rfl,?_⟩) ?_ ?_;rotate_left
   ·intro w';go_simp;with_reducible rfl
   rotate_left
   ·simp only [Act.put,List.setIfInBounds_toArray,List.set_cons_zero,List.set_cons_succ,Tb,Vb]
    rfl
   refine Sd (i:=8) (N:=some 41) (v:=?_) (a':=?_) #[false,true,true,true,false,true,false,false,true,false,false,false,false] rfl rfl (by kernel_rfl) (fun _ _ _ h=>h) (Or.inl ⟨by rfl,?_⟩) ?_ ?_;rotate_left
   ·intro w';go_simp;with_reducible rfl
   rotate_left
   ·simp only [Act.put,List.setIfInBounds_toArray,List.set_cons_zero,List.set_cons_succ,Tb,Vb]
    rfl
   refine Sd (i:=9) (N:=some 42) (v:=?_) (a':=?_) #[false,true,true,true,false,true,false,false,true,true,false,false,false] rfl rfl (by kernel_rfl) (fun _ _ _ h=>h) (Or.inl ⟨by rfl,?_⟩) ?_ ?_;rotate_left
   ·intro w';go_simp;with_reducible rfl
   rotate_left
   ·simp only [Act.put,List.setIfInBounds_toArray,List.set_cons_zero,List.set_cons_succ,Tb,Vb]
    rfl
   refine Sd (i:=10) (N:=some 43) (v:=?_) (a':=?_) #[false,true,true,true,false,true,false,false,true,true,true,false,false] rfl rfl (by kernel_rfl) (fun _ _ _ h=>h) (Or.inl ⟨by rfl,?_⟩) ?_ ?_;rotate_left
   ·intro w';go_simp;with_reducible rfl
   rotate_left
   ·simp only [Act.put,List.setIfInBounds_toArray,List.set_cons_zero,List.set_cons_succ,Tb,Vb]
    rfl
   refine BB (σ:=Nat × Value × Nat) 3 #[true,true,true,true,true,true,true,false,true,true,true,false,false] (fun s=>[(33,.slice (some ⟨s.1,0,none⟩) 0 0),(37,s.2.1),(39,.slice (some ⟨s.2.2,0,none⟩) 1 1)]) (fun s w'=>Below w.heap.size w w'∧Kd.R (Kd.int .i64) 3 w' w.heap.size (fun _=>True) s.2.1 (l0.take i)∧Kd.R (Kd.int .i64) 3 w' w.heap.size (fun _=>True) (.slice (some ⟨s.2.2,0,none⟩) 1 1) [a1]) ?_ ?_;rotate_left
   ·intro Ho;refine Py (i:=0) (j:=6) (Ni:=some 33) (Nj:=some 39) #[true,true,true,true,false,true,false,false,true,true,true,false,false] #[false,true,true,true,false,true,true,false,true,true,true,false,false] rfl rfl rfl rfl (by kernel_rfl) (by decide) (by decide) (fun K hK=>?_) (fun K hK=>?_)
    ·skip
     refine Zh (w1:=?_) (v:=?_) (by rfl) rfl ?_ ?_;rotate_left 2
     ·go_simp
      constructor
      ·rfl
      ·rfl
     refine hK.out _ _ trivial (fun hHeld=>?_);clear hK K;refine je (a':=?_) ?_ ?_;rotate_left
     ·show Act.put _ (some 33) _=_
      simp only [Act.put,List.setIfInBounds_toArray,List.set_cons_zero,List.set_cons_succ,Tb,Vb]
      rfl
     refine Py (i:=4) (j:=6) (Ni:=some 37) (Nj:=some 39) #[true,true,true,true,true,true,false,false,true,true,true,false,false] #[true,true,true,true,false,true,true,false,true,true,true,false,false] rfl rfl rfl rfl (by kernel_rfl) (by decide) (by decide) (fun K hK=>?_) (fun K hK=>?_)
     ·skip
      refine Kd.Oc (Kd.int .i64) (w0:=w) w.heap.size (by rfl) (.tmp 33) (.tmp 36) 22 3 (.int .i64 0) 8 rfl Try.underlying22 info3 rfl (by decide) (by omega) (.slice (some ⟨wd.heap.size,0,none⟩) 0 0) [] (l0.take i) A i c (fun _=>True) (fun _=>False) rfl rfl (mm (Kd.int .i64) 3 wd w.heap.size vk.out.size) ?aR (fun _ _ h=>h) (fun _ hk=>hk.elim) (fun _ _=>trivial) (ia vk.out _) (ia vk.out _).size (by simp;have:=HL.out;omega) ?_
      (case aR=>have h:=Kd.Vm (m:=i) (Kd.Fb (w1:=wd.alloc (.cells #[] 3 (0,0))) ry.out (ia vk.out _)) (by omega);rw [List.length_take,Nat.min_eq_left (by omega)] at h;exact h)
      intro v1 w1 ho hb hg hat;have oy:=ga.mk ho;have bt:=ga.mk hb;clear ho hb hg hat;refine hK.out _ _ trivial (fun hHeld=>?_);clear hK K;refine je (a':=?_) ?_ ?_;rotate_left
      ·show Act.put _ (some 37) _=_
       simp only [Act.put,List.setIfInBounds_toArray,List.set_cons_zero,List.set_cons_succ,Tb,Vb]
       rfl
      refine nj (i:=6) (N:=some 39) #[true,true,true,true,true,true,true,false,true,true,true,false,false] rfl rfl (by kernel_rfl) (by decide) (fun K hK=>?_);refine Zh (w1:=?_) (v:=?_) (by rfl) rfl ?_ ?_;rotate_left 2
      ·go_simp
       constructor
       ·rfl
       ·rfl
      refine hK.out _ _ trivial (fun hHeld=>?_);clear hK K;refine je (a':=?_) ?_ ?_;rotate_left
      ·show Act.put _ (some 39) _=_
       simp only [Act.put,List.setIfInBounds_toArray,List.set_cons_zero,List.set_cons_succ,Tb,Vb]
       rfl
      exact je (by simp only [xh,Act.put,List.setIfInBounds_toArray,List.set_cons_zero,List.set_cons_succ]) (Ho (wd.heap.size,v1,w1.heap.size) _ ⟨ia bt.out _,Kd.Ta oy.out _,Wp w1 w.heap.size a1 bt.out.size⟩)
     ·skip
      refine Zh (w1:=?_) (v:=?_) (by rfl) rfl ?_ ?_;rotate_left 2
      ·go_simp
       constructor
       ·rfl
       ·rfl
      refine hK.out _ _ trivial (fun hHeld=>?_);clear hK K;refine je (a':=?_) ?_ ?_;rotate_left
      ·show Act.put _ (some 39) _=_
       simp only [Act.put,List.setIfInBounds_toArray,List.set_cons_zero,List.set_cons_succ,Tb,Vb]
       rfl
      refine nj (i:=4) (N:=some 37) #[true,true,true,true,true,true,true,false,true,true,true,false,false] rfl rfl (by kernel_rfl) (by decide) (fun K hK=>?_);refine Kd.Oc (Kd.int .i64) (w0:=w) w.heap.size (by rfl) (.tmp 33) (.tmp 36) 22 3 (.int .i64 0) 8 rfl Try.underlying22 info3 rfl (by decide) (by omega) (.slice (some ⟨wd.heap.size,0,none⟩) 0 0) [] (l0.take i) A i c (fun _=>True) (fun _=>False) rfl rfl (Kd.Ta (mm (Kd.int .i64) 3 wd w.heap.size vk.out.size) _) ?aR (fun _ _ h=>h) (fun _ hk=>hk.elim) (fun _ _=>trivial) (ia (ia vk.out _) _) (ia (ia vk.out _) _).size (by simp;have:=HL.out;omega) ?_
      (case aR=>have h:=Kd.Vm (m:=i) (Kd.Fb (w1:=((wd.alloc (.cells #[] 3 (0,0))).alloc (.cells #[.int .i64 a1] 3 (0,0)))) ry.out (ia (ia vk.out _) _)) (by omega);rw [List.length_take,Nat.min_eq_left (by omega)] at h;exact h)
      intro v1 w1 ho hb hg hat;have oy:=ga.mk ho;have bt:=ga.mk hb;have fE:=ga.mk (Kd.yc (Kd.Yn (Kd.pg rfl (show Kd.R (Kd.int .i64) 3 ((wd.alloc (.cells #[] 3 (0,0))).alloc (.cells #[.int .i64 a1] 3 (0,0))) w.heap.size (fun _=>True) (.slice (some ⟨wd.heap.size + 1,0,none⟩) 1 1) [a1] from by have h:=Wp (e:=3) (wd.alloc (.cells #[] 3 (0,0))) w.heap.size a1 (by simp;have:=vk.out.size;omega);simpa using h)) hg (fun k_ hk e=>by simp [Value.ownBlock] at hk e;omega)) (fun _ _=>(trivial:True)));clear ho hb hg hat;refine hK.out _ _ trivial (fun hHeld=>?_);clear hK K;refine je (a':=?_) ?_ ?_;rotate_left
      ·show Act.put _ (some 37) _=_
       simp only [Act.put,List.setIfInBounds_toArray,List.set_cons_zero,List.set_cons_succ,Tb,Vb]
       rfl
      exact je (by simp only [xh,Act.put,List.setIfInBounds_toArray,List.set_cons_zero,List.set_cons_succ]) (Ho (wd.heap.size,v1,wd.heap.size + 1) _ ⟨bt.out,oy.out,fE.out⟩)
    ·skip
     refine Zh (w1:=?_) (v:=?_) (by rfl) rfl ?_ ?_;rotate_left 2
     ·go_simp
      constructor
      ·rfl
      ·rfl
     refine hK.out _ _ trivial (fun hHeld=>?_);clear hK K;refine je (a':=?_) ?_ ?_;rotate_left
     ·show Act.put _ (some 39) _=_
      simp only [Act.put,List.setIfInBounds_toArray,List.set_cons_zero,List.set_cons_succ,Tb,Vb]
      rfl
     refine nj (i:=0) (N:=some 33) #[true,true,true,true,false,true,true,false,true,true,true,false,false] rfl rfl (by kernel_rfl) (by decide) (fun K hK=>?_);refine Zh (w1:=?_) (v:=?_) (by rfl) rfl ?_ ?_;rotate_left 2
     ·go_simp
      constructor
      ·rfl
      ·rfl
     refine hK.out _ _ trivial (fun hHeld=>?_);clear hK K;refine je (a':=?_) ?_ ?_;rotate_left
     ·show Act.put _ (some 33) _=_
      simp only [Act.put,List.setIfInBounds_toArray,List.set_cons_zero,List.set_cons_succ,Tb,Vb]
      rfl
     refine nj (i:=4) (N:=some 37) #[true,true,true,true,true,true,true,false,true,true,true,false,false] rfl rfl (by kernel_rfl) (by decide) (fun K hK=>?_);refine Kd.Oc (Kd.int .i64) (w0:=w) w.heap.size (by rfl) (.tmp 33) (.tmp 36) 22 3 (.int .i64 0) 8 rfl Try.underlying22 info3 rfl (by decide) (by omega) (.slice (some ⟨wd.heap.size + 1,0,none⟩) 0 0) [] (l0.take i) A i c (fun _=>True) (fun _=>False) rfl rfl (Ts vk.out.size a1 3) ?aR (fun _ _ h=>h) (fun _ hk=>hk.elim) (fun _ _=>trivial) (ia (ia vk.out _) _) (ia (ia vk.out _) _).size (by simp;have:=HL.out;omega) ?_
     (case aR=>have h:=Kd.Vm (m:=i) (Kd.Fb (w1:=((wd.alloc (.cells #[.int .i64 a1] 3 (0,0))).alloc (.cells #[] 3 (0,0)))) ry.out (ia (ia vk.out _) _)) (by omega);rw [List.length_take,Nat.min_eq_left (by omega)] at h;exact h)
     intro v1 w1 ho hb hg hat;have oy:=ga.mk ho;have bt:=ga.mk hb;have fE:=ga.mk (Kd.yc (Kd.Yn (Kd.pg rfl (show Kd.R (Kd.int .i64) 3 ((wd.alloc (.cells #[.int .i64 a1] 3 (0,0))).alloc (.cells #[] 3 (0,0))) w.heap.size (fun _=>True) (.slice (some ⟨wd.heap.size,0,none⟩) 1 1) [a1] from Kd.Ta (Wp wd w.heap.size a1 vk.out.size) _)) hg (fun k_ hk e=>by simp [Value.ownBlock] at hk e;omega)) (fun _ _=>(trivial:True)));clear ho hb hg hat;refine hK.out _ _ trivial (fun hHeld=>?_);clear hK K;refine je (a':=?_) ?_ ?_;rotate_left
     ·show Act.put _ (some 37) _=_
      simp only [Act.put,List.setIfInBounds_toArray,List.set_cons_zero,List.set_cons_succ,Tb,Vb]
      rfl
     exact je (by simp only [xh,Act.put,List.setIfInBounds_toArray,List.set_cons_zero,List.set_cons_succ]) (Ho (wd.heap.size + 1,v1,wd.heap.size) _ ⟨bt.out,oy.out,fE.out⟩)
   rintro ⟨s1,s2,s3⟩ W3 ⟨UB,ZE,Oj⟩;have hHeld:=trivial;have sB:=ga.mk UB;have JG:=ga.mk ZE;have NG:=ga.mk Oj;clear UB ZE Oj;refine je (a':=?_) ?_ ?_;rotate_left
   ·simp only [xh,Act.put,List.setIfInBounds_toArray,List.set_cons_zero,List.set_cons_succ]
    rfl
   refine nj (i:=7) (N:=some 40) #[true,true,true,true,true,true,true,true,true,true,true,false,false] rfl rfl (by kernel_rfl) (by decide) (fun K hK=>?_);refine Kd.Oc (Kd.int .i64) (w0:=w) w.heap.size (by rfl) (.tmp 37) (.tmp 39) 22 3 (.int .i64 0) 8 rfl Try.underlying22 info3 rfl (by decide) (by omega) s2 (l0.take i) [a1] (some ⟨s3,0,none⟩) 1 1 (fun _=>True) (fun _=>False) rfl rfl JG.out ?aR (fun _ _ h=>h) (fun _ hk=>hk.elim) (fun _ _=>trivial) sB.out sB.out.size (by rw [List.length_take];have:=HL.out;omega) ?_
   (case aR=>exact (Kd.Bb NG.out).2.2)
   intro v4 w4 ho hb hg hat;have YM:=ga.mk ho;have mE:=ga.mk hb;clear ho hb hg hat JG sB NG;refine hK.out _ _ trivial (fun hHeld=>?_);clear hK K;refine je (a':=?_) ?_ ?_;rotate_left
   ·show Act.put _ (some 40) _=_
    simp only [Act.put,List.setIfInBounds_toArray,List.set_cons_zero,List.set_cons_succ,Tb,Vb]
    rfl
   refine nj (i:=11) (N:=some 44) #[true,true,true,true,true,true,true,true,true,true,true,true,false] rfl rfl (by kernel_rfl) (by decide) (fun K hK=>?_);refine Kd.Oc (Kd.int .i64) (w0:=w) w.heap.size (by rfl) (.tmp 40) (.tmp 43) 22 3 (.int .i64 0) 8 rfl Try.underlying22 info3 rfl (by decide) (by omega) v4 (l0.take i ++ [a1]) (l0.drop i) _ (l0.length - i) (c - i) (fun _=>True) (fun _=>False) rfl rfl YM.out ?VM (fun _ _ h=>h) (fun _ hk=>hk.elim) (fun _ _=>trivial) mE.out mE.out.size (by rw [List.length_append,List.length_take,List.length_singleton];have:=HL.out;omega) ?_
   (case VM=>have h:=Kd.uy (m:=i) (c:=c) (Kd.Fb ry.out mE.out) (by omega) hnc;rw [List.length_drop] at h;simp only [show (Kd.int .i64).sz=1 from rfl,Nat.mul_one,Option.map_some] at h;exact h)
   intro v5 w5 ho hb hg hat;have XM:=ga.mk ho;have SG:=ga.mk hb;clear ho hb hg hat;refine hK.out _ _ trivial (fun hHeld=>?_);clear hK K;refine je (a':=?_) ?_ ?_;rotate_left
   ·show Act.put _ (some 44) _=_
    simp only [Act.put,List.setIfInBounds_toArray,List.set_cons_zero,List.set_cons_succ,Tb,Vb]
    rfl
   refine Sd (i:=12) (N:=some 4) (v:=?_) (a':=?_) #[true,true,true,true,true,true,true,true,true,true,true,true,true] rfl rfl (by kernel_rfl) (fun _ _ _ h=>h) (Or.inl ⟨by rfl,?_⟩) ?_ ?_;rotate_left
   ·intro w';go_simp;with_reducible rfl
   rotate_left
   ·simp only [Act.put,List.setIfInBounds_toArray,List.set_cons_zero,List.set_cons_succ,Tb,Vb]
    rfl
   refine Oo (by kernel_rfl) ?_;clear hHeld;go_wp2
   all_goals (go_ret;exact ⟨_,rfl,by rw [HE.out];exact Kd.ee (Kd.yc (Kd.oh XM.out) (fun _ hk=>Or.inr hk.2.1)) TG.out.size,Ra TG.out SG.out,Kept.uj SG.out _⟩)
  ·obtain ⟨ad,e1,hx⟩:=Kd.Hg (Kd.Fb ry.out My.out) (i:Int) p1 p2;subst e1;simp only [Int.toNat_natCast] at hx
   go_upto_region 6 with (fail)
   have vk:=ga.mk (oa My.out);refine sk (n:=13) (S:=fun w'=>True) (ds:=[]) #[false,false,false,false,false,false,false,false,false,false,false,false,false] (by kernel_rfl) rfl rfl trivial (fun hHeld=>?_);generalize wr.drew=wd at vk hHeld ⊢;refine Sd (i:=1) (N:=some 34) (v:=?_) (a':=?_) #[false,true,false,false,false,false,false,false,false,false,false,false,false] rfl rfl (by kernel_rfl) (fun _ _ _ h=>h) (Or.inl ⟨by rfl,?_⟩) ?_ ?_;rotate_left
   ·intro w';go_simp;with_reducible rfl
   rotate_left
   ·simp only [Act.put,List.setIfInBounds_toArray,List.set_cons_zero,List.set_cons_succ,Tb,Vb]
    rfl
   refine Sd (i:=2) (N:=some 35) (v:=?_) (a':=?_) #[false,true,true,false,false,false,false,false,false,false,false,false,false] rfl rfl (by kernel_rfl) (fun _ _ _ h=>h) (Or.inl ⟨by rfl,?_⟩) ?_ ?_;rotate_left
   ·intro w';go_simp;with_reducible rfl
   rotate_left
   ·simp only [Act.put,List.setIfInBounds_toArray,List.set_cons_zero,List.set_cons_succ,Tb,Vb]
    rfl
   refine Sd (i:=3) (N:=some 36) (v:=?_) (a':=?_) #[false,true,true,true,false,false,false,false,false,false,false,false,false] rfl rfl (by kernel_rfl) (fun _ _ _ h=>h) (Or.inl ⟨by rfl,?_⟩) ?_ ?_;rotate_left
   ·intro w';go_simp;with_reducible rfl
   rotate_left
   ·simp only [Act.put,List.setIfInBounds_toArray,List.set_cons_zero,List.set_cons_succ,Tb,Vb]
    rfl
   refine Sd (i:=5) (N:=some 38) (v:=?_) (a':=?_) #[false,true,true,true,false,true,false,false,false,false,false,false,false] rfl rfl (by kernel_rfl) (fun _ _ _ h=>h) (Or.inl ⟨by rfl,?_⟩) ?_ ?_;rotate_left
   ·intro w';go_simp;with_reducible rfl
   rotate_left
   ·simp only [Act.put,List.setIfInBounds_toArray,List.set_cons_zero,List.set_cons_succ,Tb,Vb]
    rfl
   refine Sd (i:=8) (N:=some 41) (v:=?_) (a':=?_) #[false,true,true,true,false,true,false,false,true,false,false,false,false] rfl rfl (by kernel_rfl) (fun _ _ _ h=>h) (Or.inl ⟨by rfl,?_⟩) ?_ ?_;rotate_left
   ·intro w';go_simp;with_reducible rfl
   rotate_left
   ·simp only [Act.put,List.setIfInBounds_toArray,List.set_cons_zero,List.set_cons_succ,Tb,Vb]
    rfl
   refine Sd (i:=9) (N:=some 42) (v:=?_) (a':=?_) #[false,true,true,true,false,true,false,false,true,true,false,false,false] rfl rfl (by kernel_rfl) (fun _ _ _ h=>h) (Or.inl ⟨by rfl,?_⟩) ?_ ?_;rotate_left
   ·intro w';go_simp;with_reducible rfl
   rotate_left
   ·simp only [Act.put,List.setIfInBounds_toArray,List.set_cons_zero,List.set_cons_succ,Tb,Vb]
    rfl
   refine Sd (i:=10) (N:=some 43) (v:=?_) (a':=?_) #[false,true,true,true,false,true,false,false,true,true,true,false,false] rfl rfl (by kernel_rfl) (fun _ _ _ h=>h) (Or.inl ⟨by rfl,?_⟩) ?_ ?_;rotate_left
   ·intro w';go_simp;with_reducible rfl
   rotate_left
   ·simp only [Act.put,List.setIfInBounds_toArray,List.set_cons_zero,List.set_cons_succ,Tb,Vb]
    rfl
   refine BB (σ:=Nat × Value × Nat) 3 #[true,true,true,true,true,true,true,false,true,true,true,false,false] (fun s=>[(33,.slice (some ⟨s.1,0,none⟩) 0 0),(37,s.2.1),(39,.slice (some ⟨s.2.2,0,none⟩) 1 1)]) (fun s w'=>Below w.heap.size w w'∧Kd.R (Kd.int .i64) 3 w' w.heap.size (fun _=>True) s.2.1 (l0.take i)∧Kd.R (Kd.int .i64) 3 w' w.heap.size (fun _=>True) (.slice (some ⟨s.2.2,0,none⟩) 1 1) [a1]) ?_ ?_;rotate_left
   ·intro Ho;refine Py (i:=0) (j:=6) (Ni:=some 33) (Nj:=some 39) #[true,true,true,true,false,true,false,false,true,true,true,false,false] #[false,true,true,true,false,true,true,false,true,true,true,false,false] rfl rfl rfl rfl (by kernel_rfl) (by decide) (by decide) (fun K hK=>?_) (fun K hK=>?_)
    ·skip
     refine Zh (w1:=?_) (v:=?_) (by rfl) rfl ?_ ?_;rotate_left 2
     ·go_simp
      constructor
      ·rfl
      ·rfl
     refine hK.out _ _ trivial (fun hHeld=>?_);clear hK K;refine je (a':=?_) ?_ ?_;rotate_left
     ·show Act.put _ (some 33) _=_
      simp only [Act.put,List.setIfInBounds_toArray,List.set_cons_zero,List.set_cons_succ,Tb,Vb]
      rfl
     refine Py (i:=4) (j:=6) (Ni:=some 37) (Nj:=some 39) #[true,true,true,true,true,true,false,false,true,true,true,false,false] #[true,true,true,true,false,true,true,false,true,true,true,false,false] rfl rfl rfl rfl (by kernel_rfl) (by decide) (by decide) (fun K hK=>?_) (fun K hK=>?_)
     ·skip
      refine Kd.Oc (Kd.int .i64) (w0:=w) w.heap.size (by rfl) (.tmp 33) (.tmp 36) 22 3 (.int .i64 0) 8 rfl Try.underlying22 info3 rfl (by decide) (by omega) (.slice (some ⟨wd.heap.size,0,none⟩) 0 0) [] (l0.take i) (some ad) i c (fun _=>True) (fun _=>False) rfl rfl (mm (Kd.int .i64) 3 wd w.heap.size vk.out.size) ?aR (fun _ _ h=>h) (fun _ hk=>hk.elim) (fun _ _=>trivial) (ia vk.out _) (ia vk.out _).size (by simp;have:=HL.out;omega) ?_
      (case aR=>have h:=Kd.Vm (m:=i) (Kd.Fb (w1:=wd.alloc (.cells #[] 3 (0,0))) ry.out (ia vk.out _)) (by omega);rw [List.length_take,Nat.min_eq_left (by omega)] at h;exact h)
      intro v1 w1 ho hb hg hat;have oy:=ga.mk ho;have bt:=ga.mk hb;clear ho hb hg hat;refine hK.out _ _ trivial (fun hHeld=>?_);clear hK K;refine je (a':=?_) ?_ ?_;rotate_left
      ·show Act.put _ (some 37) _=_
       simp only [Act.put,List.setIfInBounds_toArray,List.set_cons_zero,List.set_cons_succ,Tb,Vb]
       rfl
      refine nj (i:=6) (N:=some 39) #[true,true,true,true,true,true,true,false,true,true,true,false,false] rfl rfl (by kernel_rfl) (by decide) (fun K hK=>?_);refine Zh (w1:=?_) (v:=?_) (by rfl) rfl ?_ ?_;rotate_left 2
      ·go_simp
       constructor
       ·rfl
       ·rfl
      refine hK.out _ _ trivial (fun hHeld=>?_);clear hK K;refine je (a':=?_) ?_ ?_;rotate_left
      ·show Act.put _ (some 39) _=_
       simp only [Act.put,List.setIfInBounds_toArray,List.set_cons_zero,List.set_cons_succ,Tb,Vb]
       rfl
      exact je (by simp only [xh,Act.put,List.setIfInBounds_toArray,List.set_cons_zero,List.set_cons_succ]) (Ho (wd.heap.size,v1,w1.heap.size) _ ⟨ia bt.out _,Kd.Ta oy.out _,Wp w1 w.heap.size a1 bt.out.size⟩)
     ·skip
      refine Zh (w1:=?_) (v:=?_) (by rfl) rfl ?_ ?_;rotate_left 2
      ·go_simp
       constructor
       ·rfl
       ·rfl
      refine hK.out _ _ trivial (fun hHeld=>?_);clear hK K;refine je (a':=?_) ?_ ?_;rotate_left
      ·show Act.put _ (some 39) _=_
       simp only [Act.put,List.setIfInBounds_toArray,List.set_cons_zero,List.set_cons_succ,Tb,Vb]
       rfl
      refine nj (i:=4) (N:=some 37) #[true,true,true,true,true,true,true,false,true,true,true,false,false] rfl rfl (by kernel_rfl) (by decide) (fun K hK=>?_);refine Kd.Oc (Kd.int .i64) (w0:=w) w.heap.size (by rfl) (.tmp 33) (.tmp 36) 22 3 (.int .i64 0) 8 rfl Try.underlying22 info3 rfl (by decide) (by omega) (.slice (some ⟨wd.heap.size,0,none⟩) 0 0) [] (l0.take i) (some ad) i c (fun _=>True) (fun _=>False) rfl rfl (Kd.Ta (mm (Kd.int .i64) 3 wd w.heap.size vk.out.size) _) ?aR (fun _ _ h=>h) (fun _ hk=>hk.elim) (fun _ _=>trivial) (ia (ia vk.out _) _) (ia (ia vk.out _) _).size (by simp;have:=HL.out;omega) ?_
      (case aR=>have h:=Kd.Vm (m:=i) (Kd.Fb (w1:=((wd.alloc (.cells #[] 3 (0,0))).alloc (.cells #[.int .i64 a1] 3 (0,0)))) ry.out (ia (ia vk.out _) _)) (by omega);rw [List.length_take,Nat.min_eq_left (by omega)] at h;exact h)
      intro v1 w1 ho hb hg hat;have oy:=ga.mk ho;have bt:=ga.mk hb;have fE:=ga.mk (Kd.yc (Kd.Yn (Kd.pg rfl (show Kd.R (Kd.int .i64) 3 ((wd.alloc (.cells #[] 3 (0,0))).alloc (.cells #[.int .i64 a1] 3 (0,0))) w.heap.size (fun _=>True) (.slice (some ⟨wd.heap.size + 1,0,none⟩) 1 1) [a1] from by have h:=Wp (e:=3) (wd.alloc (.cells #[] 3 (0,0))) w.heap.size a1 (by simp;have:=vk.out.size;omega);simpa using h)) hg (fun k_ hk e=>by simp [Value.ownBlock] at hk e;omega)) (fun _ _=>(trivial:True)));clear ho hb hg hat;refine hK.out _ _ trivial (fun hHeld=>?_);clear hK K;refine je (a':=?_) ?_ ?_;rotate_left
      ·show Act.put _ (some 37) _=_
       simp only [Act.put,List.setIfInBounds_toArray,List.set_cons_zero,List.set_cons_succ,Tb,Vb]
       rfl
      exact je (by simp only [xh,Act.put,List.setIfInBounds_toArray,List.set_cons_zero,List.set_cons_succ]) (Ho (wd.heap.size,v1,wd.heap.size + 1) _ ⟨bt.out,oy.out,fE.out⟩)
    ·skip
     refine Zh (w1:=?_) (v:=?_) (by rfl) rfl ?_ ?_;rotate_left 2
     ·go_simp
      constructor
      ·rfl
      ·rfl
     refine hK.out _ _ trivial (fun hHeld=>?_);clear hK K;refine je (a':=?_) ?_ ?_;rotate_left
     ·show Act.put _ (some 39) _=_
      simp only [Act.put,List.setIfInBounds_toArray,List.set_cons_zero,List.set_cons_succ,Tb,Vb]
      rfl
     refine nj (i:=0) (N:=some 33) #[true,true,true,true,false,true,true,false,true,true,true,false,false] rfl rfl (by kernel_rfl) (by decide) (fun K hK=>?_);refine Zh (w1:=?_) (v:=?_) (by rfl) rfl ?_ ?_;rotate_left 2
     ·go_simp
      constructor
      ·rfl
      ·rfl
     refine hK.out _ _ trivial (fun hHeld=>?_);clear hK K;refine je (a':=?_) ?_ ?_;rotate_left
     ·show Act.put _ (some 33) _=_
      simp only [Act.put,List.setIfInBounds_toArray,List.set_cons_zero,List.set_cons_succ,Tb,Vb]
      rfl
     refine nj (i:=4) (N:=some 37) #[true,true,true,true,true,true,true,false,true,true,true,false,false] rfl rfl (by kernel_rfl) (by decide) (fun K hK=>?_);refine Kd.Oc (Kd.int .i64) (w0:=w) w.heap.size (by rfl) (.tmp 33) (.tmp 36) 22 3 (.int .i64 0) 8 rfl Try.underlying22 info3 rfl (by decide) (by omega) (.slice (some ⟨wd.heap.size + 1,0,none⟩) 0 0) [] (l0.take i) (some ad) i c (fun _=>True) (fun _=>False) rfl rfl (Ts vk.out.size a1 3) ?aR (fun _ _ h=>h) (fun _ hk=>hk.elim) (fun _ _=>trivial) (ia (ia vk.out _) _) (ia (ia vk.out _) _).size (by simp;have:=HL.out;omega) ?_
     (case aR=>have h:=Kd.Vm (m:=i) (Kd.Fb (w1:=((wd.alloc (.cells #[.int .i64 a1] 3 (0,0))).alloc (.cells #[] 3 (0,0)))) ry.out (ia (ia vk.out _) _)) (by omega);rw [List.length_take,Nat.min_eq_left (by omega)] at h;exact h)
     intro v1 w1 ho hb hg hat;have oy:=ga.mk ho;have bt:=ga.mk hb;have fE:=ga.mk (Kd.yc (Kd.Yn (Kd.pg rfl (show Kd.R (Kd.int .i64) 3 ((wd.alloc (.cells #[.int .i64 a1] 3 (0,0))).alloc (.cells #[] 3 (0,0))) w.heap.size (fun _=>True) (.slice (some ⟨wd.heap.size,0,none⟩) 1 1) [a1] from Kd.Ta (Wp wd w.heap.size a1 vk.out.size) _)) hg (fun k_ hk e=>by simp [Value.ownBlock] at hk e;omega)) (fun _ _=>(trivial:True)));clear ho hb hg hat;refine hK.out _ _ trivial (fun hHeld=>?_);clear hK K;refine je (a':=?_) ?_ ?_;rotate_left
     ·show Act.put _ (some 37) _=_
      simp only [Act.put,List.setIfInBounds_toArray,List.set_cons_zero,List.set_cons_succ,Tb,Vb]
      rfl
     exact je (by simp only [xh,Act.put,List.setIfInBounds_toArray,List.set_cons_zero,List.set_cons_succ]) (Ho (wd.heap.size + 1,v1,wd.heap.size) _ ⟨bt.out,oy.out,fE.out⟩)
   rintro ⟨s1,s2,s3⟩ W3 ⟨UB,ZE,Oj⟩;have hHeld:=trivial;have sB:=ga.mk UB;have JG:=ga.mk ZE;have NG:=ga.mk Oj;clear UB ZE Oj;refine je (a':=?_) ?_ ?_;rotate_left
   ·simp only [xh,Act.put,List.setIfInBounds_toArray,List.set_cons_zero,List.set_cons_succ]
    rfl
   refine nj (i:=7) (N:=some 40) #[true,true,true,true,true,true,true,true,true,true,true,false,false] rfl rfl (by kernel_rfl) (by decide) (fun K hK=>?_);refine Kd.Oc (Kd.int .i64) (w0:=w) w.heap.size (by rfl) (.tmp 37) (.tmp 39) 22 3 (.int .i64 0) 8 rfl Try.underlying22 info3 rfl (by decide) (by omega) s2 (l0.take i) [a1] (some ⟨s3,0,none⟩) 1 1 (fun _=>True) (fun _=>False) rfl rfl JG.out ?aR (fun _ _ h=>h) (fun _ hk=>hk.elim) (fun _ _=>trivial) sB.out sB.out.size (by rw [List.length_take];have:=HL.out;omega) ?_
   (case aR=>exact (Kd.Bb NG.out).2.2)
   intro v4 w4 ho hb hg hat;have YM:=ga.mk ho;have mE:=ga.mk hb;clear ho hb hg hat JG sB NG;refine hK.out _ _ trivial (fun hHeld=>?_);clear hK K;refine je (a':=?_) ?_ ?_;rotate_left
   ·show Act.put _ (some 40) _=_
    simp only [Act.put,List.setIfInBounds_toArray,List.set_cons_zero,List.set_cons_succ,Tb,Vb]
    rfl
   refine nj (i:=11) (N:=some 44) #[true,true,true,true,true,true,true,true,true,true,true,true,false] rfl rfl (by kernel_rfl) (by decide) (fun K hK=>?_);refine Kd.Oc (Kd.int .i64) (w0:=w) w.heap.size (by rfl) (.tmp 40) (.tmp 43) 22 3 (.int .i64 0) 8 rfl Try.underlying22 info3 rfl (by decide) (by omega) v4 (l0.take i ++ [a1]) (l0.drop i) _ (l0.length - i) (c - i) (fun _=>True) (fun _=>False) rfl rfl YM.out ?VM (fun _ _ h=>h) (fun _ hk=>hk.elim) (fun _ _=>trivial) mE.out mE.out.size (by rw [List.length_append,List.length_take,List.length_singleton];have:=HL.out;omega) ?_
   (case VM=>have h:=Kd.uy (m:=i) (c:=c) (Kd.Fb ry.out mE.out) (by omega) hnc;rw [List.length_drop] at h;simp only [show (Kd.int .i64).sz=1 from rfl,Nat.mul_one,Option.map_some] at h;exact h)
   intro v5 w5 ho hb hg hat;have XM:=ga.mk ho;have SG:=ga.mk hb;clear ho hb hg hat;refine hK.out _ _ trivial (fun hHeld=>?_);clear hK K;refine je (a':=?_) ?_ ?_;rotate_left
   ·show Act.put _ (some 44) _=_
    simp only [Act.put,List.setIfInBounds_toArray,List.set_cons_zero,List.set_cons_succ,Tb,Vb]
    rfl
   refine Sd (i:=12) (N:=some 4) (v:=?_) (a':=?_) #[true,true,true,true,true,true,true,true,true,true,true,true,true] rfl rfl (by kernel_rfl) (fun _ _ _ h=>h) (Or.inl ⟨by rfl,?_⟩) ?_ ?_;rotate_left
   ·intro w';go_simp;with_reducible rfl
   rotate_left
   ·simp only [Act.put,List.setIfInBounds_toArray,List.set_cons_zero,List.set_cons_succ,Tb,Vb]
    rfl
   refine Oo (by kernel_rfl) ?_;clear hHeld;go_wp2
   all_goals (go_ret;exact ⟨_,rfl,by rw [HE.out];exact Kd.ee (Kd.yc (Kd.oh XM.out) (fun _ hk=>Or.inr hk.2.1)) TG.out.size,Ra TG.out SG.out,Kept.uj SG.out _⟩)
mutual
def Mb.l0:Nat→List Int→Int→List Int→Int→Int→List (ld)→Option (List Int)
 | 0,_,_,_,_,_,_=>none
 | k + 1,x3,x4,Tc,Zc,Yc,Ub=>if x4 < (Ub.length:Int) then ((Pa.f k Tc Zc Yc Ub).bind fun t105=>(Mb.j1 k x3 x4 t105 Tc Zc Yc Ub)) else (Mb.j1 k x3 x4 false Tc Zc Yc Ub)
def Mb.j1:Nat→List Int→Int→Bool→List Int→Int→Int→List (ld)→Option (List Int)
 | 0,_,_,_,_,_,_,_=>none
 | k + 1,x3,x4,BQ,Tc,Zc,Yc,Ub=>if BQ=true then (if 0 ≤ x4 then (if x4 < (Ub.length:Int) then ((qf.f ((ya Ub x4).f0) ((ya Ub x4).f1) ((ya Ub x4).f2) ((ya Ub x4).f3) ((ya Ub x4).f4)).bind fun t107=>(if t107=true then ((Td.f x3 ((ya Ub x4).f4)).bind fun t109=>(Mb.l0 k t109 (wrap64 (x4 + 1)) Tc Zc Yc Ub)) else (Mb.l0 k x3 (wrap64 (x4 + 1)) Tc Zc Yc Ub))) else (none)) else (none)) else (some x3)
end
def Mb.f (k:Nat) (Na:List Int) (La:Int) (Ma:Int) (Ea:List (ld)):Option (List Int):=Mb.l0 k (([]:List Int)) 0 Na La Ma Ea
theorem Mb.calls (k:Nat) (zb:Option Addr) (yb:Nat) (Na:List Int) (La:Int) (Ma:Int) (Eb:Option Addr) (Ab:Nat) (Ea:List (ld)) (r:List Int) (w:World) (Ze:Kd.C (Kd.int .i64) w zb Na.length Na) (Fe:Na.length ≤ yb) (Ye:Kd.C ug w Eb Ea.length Ea) (Ee:Ea.length ≤ Ab) (h:Mb.f k Na La Ma Ea=some r) :
  Calls Try.prog 14 #[.agg #[.slice zb Na.length yb,.int .i64 La,.int .i64 Ma,.slice Eb Ea.length Ab]] w fun e w'=>∃ Wm:Value,e = .returned (Wm)∧Kd.R (Kd.int .i64) 3 w' w.heap.size (fun _=>True) Wm r∧Below w.heap.size w w':=by
 have js:=Try.underlying30;have Zr:=Try.underlying67;have Be:=ga.mk Ze;have Te:=ga.mk Fe;clear Ze Fe;have Yd:=ga.mk Ye;have Ff:=ga.mk Ee;clear Ye Ee;have HB:=ga.mk (Below.refl w.heap.size w);have H:(Mb.l0 k (([]:List Int)) 0 Na La Ma Ea)=some r:=h;clear h;obtain ⟨We,Og⟩:∃ y_:List Int,y_=(([]:List Int)):=⟨_,rfl⟩;replace H:(Mb.l0 k We 0 Na La Ma Ea)=some r:=by first|(rw [Og];with_reducible exact H)|(have Jg:=(Option.bind_some _ _).symm.trans H;rw [Og];with_reducible exact Jg)|(have Jg:=(Option.bind_some _ _).symm.trans H;with_reducible exact Jg)|with_reducible exact H|(rw [Og];exact H)|exact H
 have Zo:=ga.mk Og;clear Og;have H':=ga.mk H;clear H;go_enter Try.func14,Try.ntmps14;go_wp2_with (first|((with_reducible refine Jb (N:=1) rfl ?_);refine Db ?hg (N:=1) ?hd (cs:=#[.slice zb Na.length yb,.int .i64 La,.int .i64 Ma,.slice Eb Ea.length Ab]) (t:=30) ?hr ?_;(case hd=>rfl);(case hg=>rfl);(case hr=>first|(go_simp;done)|(go_simp;rfl));intro Ba hg w2 Rb hb;have Nb:=ga.mk (Ra (by repeat (first|(with_reducible first|exact HB.out|apply ia|apply aa|apply oa)|exact HB.out)) hb);have Qb:=ga.mk (Rb);have fc:=ga.mk ((by rw [hg];exact (Ja (by repeat (first|(with_reducible first|exact HB.out|apply ia|apply aa|apply oa)|exact HB.out))):w.heap.size ≤ Ba));have Ec:=ga.mk ((by rw [hg];exact (Ja (by repeat (first|(with_reducible first|exact HB.out|apply ia|apply aa|apply oa)|exact HB.out))):w.heap.size ≤ Ba));clear HB;have HB:=Nb;have ua:=Qb;have Ue:=fc;have Sa:=Ec;clear Nb Qb fc Ec hb Rb hg)|((with_reducible refine Jb (N:=5) rfl ?_);refine Kd.dy (Kd.int .i64) _ 3 ?hg (N:=5) ?hd (xs:=([]:List Int)) (inner:=[]) (ok:=fun _=>True) (zk:=fun _=>True) ?hr ?hp (fun _ hk=>hk) trivial (Below.refl _ _) (Nat.le_refl _) (by simp) ?_;(case hd=>rfl);(case hg=>rfl);(case hr=>first|(go_simp;done)|(go_simp;rfl));(case hp=>exact (yd.none _ _));intro AL w3 Vw hb jD Bo;clear jD Bo;(first|rw [← Zo.out] at Vw|(simp only [Int.reduceToNat] at Vw;rw [← Zo.out] at Vw));have Nb:=ga.mk (Kd.ee Vw (Ja (by repeat (first|(with_reducible first|exact HB.out|apply ia|apply aa|apply oa|refine ta ?_ Sa.out)|exact HB.out))));have Qb:=ga.mk (mb (g:=Ba) (o:=.cells #[.slice zb Na.length yb,.int .i64 La,.int .i64 Ma,.slice Eb Ea.length Ab] 30 (0,0)) (by (with_reducible repeat (first|refine za ?_ _|refine Ca ?_|refine Aa ?_ _));exact ua.out) hb);have fc:=ga.mk (Ra (by repeat (first|(with_reducible first|exact HB.out|apply ia|apply aa|apply oa|refine ta ?_ Sa.out)|exact HB.out)) hb);clear ua HB;have jy:=Nb;have ua:=Qb;have HB:=fc;clear Nb Qb fc hb Vw))
 go_loopg [3,4] k (fun kq v3 v4 w'=>∃ (Rc:List Int) (Ob:Int),v4 = .int .i64 Ob∧ga (Mb.l0 kq Rc Ob Na La Ma Ea=some r)∧ga (kq ≤ k)∧ga (Kd.R (Kd.int .i64) 3 w' w.heap.size (fun _=>True) v3 Rc)∧ga (w'.heap[Ba]? = some (.cells #[(.slice zb Na.length yb),.int .i64 La,.int .i64 Ma,(.slice Eb Ea.length Ab)] 30 (0,0)))∧ga (Below w.heap.size w w'))
 case atStart=>exact ⟨(We),(0),(by first|rfl|(simp;done)|(simp [*];done)),H',⟨Nat.le_refl _⟩,⟨by (with_reducible repeat (first|apply Kd.Ta|apply Kd.Ua|apply Kd.Za));exact jy.out⟩,⟨by (with_reducible repeat (first|refine za ?_ _|refine Ca ?_|refine Aa ?_ _));exact ua.out⟩,⟨by repeat (first|(with_reducible first|exact HB.out|apply ia|apply aa|apply oa|refine ta ?_ Sa.out)|exact HB.out)⟩⟩
 case round =>
  clear H'
  try clear c1
  try clear p2
  (try clear HA);(try clear Qg);(try clear Gd);(try clear ua);(try clear HB);obtain ⟨Rc,Ob,rfl,HA,Qg,Gd,ua,HB⟩:=hrel;cases gk with
  | zero=>exact absurd HA.out (by simp [Mb.l0])
  | succ k1 =>
   have H:=HA.out;clear HA;simp only [Mb.l0] at H;have jE:=ga.mk H;clear H
   go_upto_region 3 with (fail)
   go_cut [14] (fun KQ wc=>∃ (kq:Nat) (wu:Bool),KQ = .bool wu∧ga (Mb.j1 kq Rc Ob wu Na La Ma Ea=some r)∧ga (kq ≤ k1)∧ga (Kd.R (Kd.int .i64) 3 wc w.heap.size (fun _=>True) u3 Rc)∧ga (wc.heap[Ba]? = some (.cells #[(.slice zb Na.length yb),.int .i64 La,.int .i64 Ma,(.slice Eb Ea.length Ab)] 30 (0,0)))∧ga (Below w.heap.size w wc))
   case first =>
    have H:=jE.out;clear jE
    by_cases c6:Ob < (Ea.length:Int)
    ·rw [if_pos c6] at H;have tj:decide (Ob < (Ea.length:Int))=true:=decide_eq_true c6;clear c6;(first|rw [tj]|(simp only [Tb,Vb];rw [tj])|skip);replace H:=Option.bind_eq_some_iff.mp H;obtain ⟨t105,Lv,H⟩:=H;replace H:(Mb.j1 k1 Rc Ob t105 Na La Ma Ea)=some r:=H;have A7:=ga.mk Lv;clear Lv;have H':=ga.mk H;clear H;have Om:wr.cell? ⟨Ba,0,none⟩=some (.slice zb Na.length yb):=(qa ua.out 0).trans rfl;have Mm:wr.cell? ⟨Ba,1,none⟩=some (.int .i64 La):=(qa ua.out 1).trans rfl;have Lm:wr.cell? ⟨Ba,2,none⟩=some (.int .i64 Ma):=(qa ua.out 2).trans rfl;have Km:wr.cell? ⟨Ba,3,none⟩=some (.slice Eb Ea.length Ab):=(qa ua.out 3).trans rfl;have Em:=ja ua.out 0;have Dm:=ja ua.out 1;have Cm:=ja ua.out 2;have Bm:=ja ua.out 3;go_wp2_with (first|(go_at_call 53;(with_reducible refine (Pa.calls k1 _ _ Na La Ma _ _ Ea t105 _ ?Zb ?Yb ?Uc ?Xc A7.out).mono ?_);(case Zb=>repeat (first|exact (Kd.Fb Be.out HB.out)|(with_reducible refine Kd.Lb ?_ _)|(with_reducible refine Kd.Kb ?_ _)|(with_reducible refine Kd.ec ?_)));(case Yb=>exact Te.out);(case Uc=>repeat (first|exact (Kd.Fb Yd.out HB.out)|(with_reducible refine Kd.Lb ?_ _)|(with_reducible refine Kd.Kb ?_ _)|(with_reducible refine Kd.ec ?_)));(case Xc=>exact Ff.out);rintro e w9 ⟨rfl,hb⟩;have Nb:=ga.mk (Kd.Qc (by (with_reducible repeat (first|apply Kd.Ta|apply Kd.Ua|apply Kd.Za));exact Gd.out) hb);have Qb:=ga.mk (mb (g:=Ba) (o:=.cells #[.slice zb Na.length yb,.int .i64 La,.int .i64 Ma,.slice Eb Ea.length Ab] 30 (0,0)) (by (with_reducible repeat (first|refine za ?_ _|refine Ca ?_|refine Aa ?_ _));exact ua.out) hb);have fc:=ga.mk (Ra (by repeat (first|(with_reducible first|exact HB.out|apply ia|apply aa|apply oa|refine ta ?_ Sa.out)|exact HB.out)) hb);clear Gd ua HB;have Gd:=Nb;have ua:=Qb;have HB:=fc;clear Nb Qb fc;(try clear hb);(try clear Ak);(try clear hk);(try clear hi)))
     go_meet
     case rel=>exact ⟨_,(t105),(by first|rfl|(simp;done)|(simp [*];done)),H',⟨by have:=Qg.out;first|omega|exact Nat.le_refl _⟩,⟨by (with_reducible repeat (first|apply Kd.Ta|apply Kd.Ua|apply Kd.Za));exact Gd.out⟩,⟨by (with_reducible repeat (first|refine za ?_ _|refine Ca ?_|refine Aa ?_ _));exact ua.out⟩,⟨by repeat (first|(with_reducible first|exact HB.out|apply ia|apply aa|apply oa|refine ta ?_ Sa.out)|exact HB.out)⟩⟩
    ·rw [if_neg c6] at H;have tj:decide (Ob < (Ea.length:Int))=false:=decide_eq_false c6;clear c6;(first|rw [tj]|(simp only [Tb,Vb];rw [tj])|skip);have H':=ga.mk H;clear H;have cj:wr.cell? ⟨Ba,0,none⟩=some (.slice zb Na.length yb):=(qa ua.out 0).trans rfl;have aj:wr.cell? ⟨Ba,1,none⟩=some (.int .i64 La):=(qa ua.out 1).trans rfl;have Zi:wr.cell? ⟨Ba,2,none⟩=some (.int .i64 Ma):=(qa ua.out 2).trans rfl;have Yi:wr.cell? ⟨Ba,3,none⟩=some (.slice Eb Ea.length Ab):=(qa ua.out 3).trans rfl;have Si:=ja ua.out 0;have Ri:=ja ua.out 1;have Qi:=ja ua.out 2;have Oi:=ja ua.out 3;go_wp2
     go_meet
     case rel=>exact ⟨_,(false),(by first|rfl|(simp;done)|(simp [*];done)),H',⟨by have:=Qg.out;first|omega|exact Nat.le_refl _⟩,⟨by (with_reducible repeat (first|apply Kd.Ta|apply Kd.Ua|apply Kd.Za));exact Gd.out⟩,⟨by (with_reducible repeat (first|refine za ?_ _|refine Ca ?_|refine Aa ?_ _));exact ua.out⟩,⟨by repeat (first|(with_reducible first|exact HB.out|apply ia|apply aa|apply oa|refine ta ?_ Sa.out)|exact HB.out)⟩⟩
   case rest =>
    clear jE
    try clear c1
    try clear p2
    try clear c6
    try clear tj
    try clear cj
    try clear aj
    try clear Zi
    try clear Yi
    try clear Om
    try clear Mm
    try clear Lm
    try clear Km
    try clear Si
    try clear Ri
    try clear Qi
    try clear Oi
    try clear Em
    try clear Dm
    try clear Cm
    try clear Bm
    try clear p2
    obtain ⟨kq,wu,rfl,HA,Bw,Gd,ua,HB⟩:=hcut;cases kq with
    | zero=>exact absurd HA.out (by simp [Mb.j1])
    | succ Pw =>
     have H:=HA.out;clear HA;simp only [Mb.j1] at H
     by_cases uC:wu=true
     ·subst uC;have H1:(if 0 ≤ Ob then (if Ob < (Ea.length:Int) then ((qf.f ((ya Ea Ob).f0) ((ya Ea Ob).f1) ((ya Ea Ob).f2) ((ya Ea Ob).f3) ((ya Ea Ob).f4)).bind fun t107=>(if t107=true then ((Td.f Rc ((ya Ea Ob).f4)).bind fun t109=>(Mb.l0 Pw t109 (wrap64 (Ob + 1)) Na La Ma Ea)) else (Mb.l0 Pw Rc (wrap64 (Ob + 1)) Na La Ma Ea))) else (none)) else (none))=some r:=by rw [if_pos rfl] at H;exact H
      clear H;have H:=H1;clear H1
      by_cases Zs:0 ≤ Ob
      ·rw [if_pos Zs] at H;have jQ:decide (0 ≤ Ob)=true:=decide_eq_true Zs;clear Zs
       by_cases tC:Ob < (Ea.length:Int)
       ·rw [if_pos tC] at H;have iQ:decide (Ob < (Ea.length:Int))=true:=decide_eq_true tC;clear tC;replace H:=Option.bind_eq_some_iff.mp H;obtain ⟨t107,Dy,H⟩:=H;replace H:(if t107=true then ((Td.f Rc ((ya Ea Ob).f4)).bind fun t109=>(Mb.l0 Pw t109 (wrap64 (Ob + 1)) Na La Ma Ea)) else (Mb.l0 Pw Rc (wrap64 (Ob + 1)) Na La Ma Ea))=some r:=H;have pL:=ga.mk Dy;clear Dy
        by_cases um:t107=true
        ·subst um;have H1:((Td.f Rc ((ya Ea Ob).f4)).bind fun t109=>(Mb.l0 Pw t109 (wrap64 (Ob + 1)) Na La Ma Ea))=some r:=by rw [if_pos rfl] at H;exact H
         clear H;have H:=H1;clear H1;replace H:=Option.bind_eq_some_iff.mp H;obtain ⟨t109,Cy,H⟩:=H;replace H:(Mb.l0 Pw t109 (wrap64 (Ob + 1)) Na La Ma Ea)=some r:=H;have iN:=ga.mk Cy;clear Cy;have H':=ga.mk H;clear H;have uv:wc.cell? ⟨Ba,0,none⟩=some (.slice zb Na.length yb):=(qa ua.out 0).trans rfl;have tv:wc.cell? ⟨Ba,1,none⟩=some (.int .i64 La):=(qa ua.out 1).trans rfl;have qv:wc.cell? ⟨Ba,2,none⟩=some (.int .i64 Ma):=(qa ua.out 2).trans rfl;have ov:wc.cell? ⟨Ba,3,none⟩=some (.slice Eb Ea.length Ab):=(qa ua.out 3).trans rfl;have Tu:=ja ua.out 0;have Su:=ja ua.out 1;have Ru:=ja ua.out 2;have Qu:=ja ua.out 3;have Ct:0 ≤ (Ob:Int):=of_decide_eq_true (by first|(with_reducible assumption)|assumption);have vt:Ob < (Ea.length:Int):=of_decide_eq_true (by first|(with_reducible assumption)|assumption);obtain ⟨Qs,BD,Yk,Xk,Wk,Vk,Uk⟩:=Uf Yd.out Ob Ct vt;cases BD;replace Yk:=Qa HB.out Yk;replace Xk:=Qa HB.out Xk;replace Wk:=Qa HB.out Wk;replace Vk:=Qa HB.out Vk;replace Uk:=Qa HB.out Uk;replace Ct:=eq_true Ct;replace vt:=eq_true vt;go_wp2_with (first|((with_reducible refine jb (f:=54) rfl ?_);refine Lc (some 22) rfl rfl Try.func54 (by kernel_rfl) rfl #[.agg #[.int .i64 ((ya Ea Ob).f0),.int .i64 ((ya Ea Ob).f1),.int .i64 ((ya Ea Ob).f2),.int .i64 ((ya Ea Ob).f3),.int .i64 ((ya Ea Ob).f4)]] rfl (by (try simp only [List.map_toArray,List.map_cons,List.map_nil]);first|done|rfl|(simp only [List.length_drop,List.length_take];rfl)) ?_;(with_reducible refine (qf.calls ((ya Ea Ob).f0) ((ya Ea Ob).f1) ((ya Ea Ob).f2) ((ya Ea Ob).f3) ((ya Ea Ob).f4) true _ pL.out).mono ?_);rintro e lp ⟨rfl,hb⟩;refine ⟨_,rfl,?_⟩;have Nb:=ga.mk (Kd.Qc (by (with_reducible repeat (first|apply Kd.Ta|apply Kd.Ua|apply Kd.Za));exact Gd.out) hb);have Qb:=ga.mk (mb (g:=Ba) (o:=.cells #[.slice zb Na.length yb,.int .i64 La,.int .i64 Ma,.slice (some Qs) Ea.length Ab] 30 (0,0)) (by (with_reducible repeat (first|refine za ?_ _|refine Ca ?_|refine Aa ?_ _));exact ua.out) hb);have fc:=ga.mk (Ra (by repeat (first|(with_reducible first|exact HB.out|apply ia|apply aa|apply oa|refine ta ?_ Sa.out)|exact HB.out)) hb);clear Gd ua HB;have Gd:=Nb;have ua:=Qb;have HB:=fc;clear Nb Qb fc;(try clear hb);(try clear Ak);(try clear hk);(try clear hi);have Sl:lp.cell? ⟨Ba,0,none⟩=some (.slice zb Na.length yb):=(qa ua.out 0).trans rfl;have Rl:lp.cell? ⟨Ba,1,none⟩=some (.int .i64 La):=(qa ua.out 1).trans rfl;have Ql:lp.cell? ⟨Ba,2,none⟩=some (.int .i64 Ma):=(qa ua.out 2).trans rfl;have Ol:lp.cell? ⟨Ba,3,none⟩=some (.slice (some Qs) Ea.length Ab):=(qa ua.out 3).trans rfl;have Il:=ja ua.out 0;have Hl:=ja ua.out 1;have Gl:=ja ua.out 2;have Fl:=ja ua.out 3;have wo:0 ≤ (Ob:Int):=of_decide_eq_true (by first|(with_reducible assumption)|assumption);have oo:Ob < (Ea.length:Int):=of_decide_eq_true (by first|(with_reducible assumption)|assumption);obtain ⟨gf,Hx,ng,mg,lg,kg,jg⟩:=Uf Yd.out Ob wo oo;obtain rfl:Qs=gf:=(by injection Hx);replace ng:=Qa HB.out ng;replace mg:=Qa HB.out mg;replace lg:=Qa HB.out lg;replace kg:=Qa HB.out kg;replace jg:=Qa HB.out jg;replace wo:=eq_true wo;replace oo:=eq_true oo;obtain ⟨rE,FD,MM⟩:=Kd.Vd Gd.out;subst MM)|((with_reducible refine jb (f:=55) rfl ?_);refine Lc (some 30) rfl rfl Try.func55 (by kernel_rfl) rfl #[.slice rE Rc.length FD,.int .i64 ((ya Ea Ob).f4)] rfl (by (try simp only [List.map_toArray,List.map_cons,List.map_nil]);first|done|rfl|(simp only [List.length_drop,List.length_take];rfl)) ?_;(with_reducible refine (Td.calls (fun k_=>some k_=(.slice rE Rc.length FD:Value).ownBlock) (.slice rE Rc.length FD) Rc ((ya Ea Ob).f4) t109 w _ ?Zb ?Yb iN.out).mono ?_);(case Zb=>repeat (first|(with_reducible first|exact HB.out|apply ia|apply aa|apply oa|refine ta ?_ Sa.out)|exact HB.out));(case Yb=>exact Kd.pg rfl Gd.out);rintro e IC ⟨TQ,rfl,Yf,hb,hkp⟩;refine ⟨_,rfl,?_⟩;have Nb:=ga.mk (Pg (by (with_reducible repeat (first|refine za ?_ _|refine Ca ?_|refine Aa ?_ _));exact ua.out) hkp (fun hs_=>(fun e_=>(Kd.jm Gd.out ua.out (by decide)) e_) hs_));have Qb:=ga.mk (Kd.yc (qj:=fun k_=>True) Yf (fun k_ ye=>trivial));have fc:=ga.mk (hb);clear ua HB Gd;have ua:=Nb;have MG:=Qb;have HB:=fc;clear Nb Qb fc;(try clear hb);(try clear hkp);(try clear Yf)))
         go_roundg Pw
         case measure=>have:=Qg.out;have:=Bw.out;omega
         case rel=>exact ⟨(t109),(wrap64 (Ob + 1)),(by first|rfl|(simp;done)|(simp [*];done)),H',⟨by have:=Qg.out;have:=Bw.out;omega⟩,⟨by (with_reducible repeat (first|apply Kd.Ta|apply Kd.Ua|apply Kd.Za));exact MG.out⟩,⟨by (with_reducible repeat (first|refine za ?_ _|refine Ca ?_|refine Aa ?_ _));exact ua.out⟩,⟨by repeat (first|(with_reducible first|exact HB.out|apply ia|apply aa|apply oa|refine ta ?_ Sa.out)|exact HB.out)⟩⟩
        ·replace um:=Bool.eq_false_iff.mpr um;subst um;have H1:(Mb.l0 Pw Rc (wrap64 (Ob + 1)) Na La Ma Ea)=some r:=by rw [if_neg (show ¬ (false=true) by decide)] at H;exact H
         clear H;have H:=H1;clear H1;have H':=ga.mk H;clear H;have YA:wc.cell? ⟨Ba,0,none⟩=some (.slice zb Na.length yb):=(qa ua.out 0).trans rfl;have XA:wc.cell? ⟨Ba,1,none⟩=some (.int .i64 La):=(qa ua.out 1).trans rfl;have WA:wc.cell? ⟨Ba,2,none⟩=some (.int .i64 Ma):=(qa ua.out 2).trans rfl;have VA:wc.cell? ⟨Ba,3,none⟩=some (.slice Eb Ea.length Ab):=(qa ua.out 3).trans rfl;have Xz:=ja ua.out 0;have Wz:=ja ua.out 1;have Vz:=ja ua.out 2;have Uz:=ja ua.out 3;have Ct:0 ≤ (Ob:Int):=of_decide_eq_true (by first|(with_reducible assumption)|assumption);have vt:Ob < (Ea.length:Int):=of_decide_eq_true (by first|(with_reducible assumption)|assumption);obtain ⟨Qs,BD,Yk,Xk,Wk,Vk,Uk⟩:=Uf Yd.out Ob Ct vt;cases BD;replace Yk:=Qa HB.out Yk;replace Xk:=Qa HB.out Xk;replace Wk:=Qa HB.out Wk;replace Vk:=Qa HB.out Vk;replace Uk:=Qa HB.out Uk;replace Ct:=eq_true Ct;replace vt:=eq_true vt;go_wp2_with (first|((with_reducible refine jb (f:=54) rfl ?_);refine Lc (some 22) rfl rfl Try.func54 (by kernel_rfl) rfl #[.agg #[.int .i64 ((ya Ea Ob).f0),.int .i64 ((ya Ea Ob).f1),.int .i64 ((ya Ea Ob).f2),.int .i64 ((ya Ea Ob).f3),.int .i64 ((ya Ea Ob).f4)]] rfl (by (try simp only [List.map_toArray,List.map_cons,List.map_nil]);first|done|rfl|(simp only [List.length_drop,List.length_take];rfl)) ?_;(with_reducible refine (qf.calls ((ya Ea Ob).f0) ((ya Ea Ob).f1) ((ya Ea Ob).f2) ((ya Ea Ob).f3) ((ya Ea Ob).f4) false _ pL.out).mono ?_);rintro e FQ ⟨rfl,hb⟩;refine ⟨_,rfl,?_⟩;have Nb:=ga.mk (Kd.Qc (by (with_reducible repeat (first|apply Kd.Ta|apply Kd.Ua|apply Kd.Za));exact Gd.out) hb);have Qb:=ga.mk (mb (g:=Ba) (o:=.cells #[.slice zb Na.length yb,.int .i64 La,.int .i64 Ma,.slice (some Qs) Ea.length Ab] 30 (0,0)) (by (with_reducible repeat (first|refine za ?_ _|refine Ca ?_|refine Aa ?_ _));exact ua.out) hb);have fc:=ga.mk (Ra (by repeat (first|(with_reducible first|exact HB.out|apply ia|apply aa|apply oa|refine ta ?_ Sa.out)|exact HB.out)) hb);clear Gd ua HB;have Gd:=Nb;have ua:=Qb;have HB:=fc;clear Nb Qb fc;(try clear hb);(try clear Ak);(try clear hk);(try clear hi)))
         go_roundg Pw
         case measure=>have:=Qg.out;have:=Bw.out;omega
         case rel=>exact ⟨(Rc),(wrap64 (Ob + 1)),(by first|rfl|(simp;done)|(simp [*];done)),H',⟨by have:=Qg.out;have:=Bw.out;omega⟩,⟨by (with_reducible repeat (first|apply Kd.Ta|apply Kd.Ua|apply Kd.Za));exact Gd.out⟩,⟨by (with_reducible repeat (first|refine za ?_ _|refine Ca ?_|refine Aa ?_ _));exact ua.out⟩,⟨by repeat (first|(with_reducible first|exact HB.out|apply ia|apply aa|apply oa|refine ta ?_ Sa.out)|exact HB.out)⟩⟩
       ·rw [if_neg tC] at H;exact absurd H (by simp)
      ·rw [if_neg Zs] at H;exact absurd H (by simp)
     ·replace uC:=Bool.eq_false_iff.mpr uC;subst uC;have H1:(some Rc)=some r:=by rw [if_neg (show ¬ (false=true) by decide)] at H;exact H
      clear H;have H:=H1;clear H1;obtain rfl:=Option.some.inj H;go_wp2;go_ret;exact ⟨_,by first|rfl|(simp [Ia,Ga] <;> rfl)|(simp [*,Ia,Ga] <;> rfl),by (with_reducible repeat (first|apply Kd.Ta|apply Kd.Ua|apply Kd.Za));exact Gd.out,by repeat (first|(with_reducible first|exact HB.out|apply ia|apply aa|apply oa|refine ta ?_ Sa.out)|exact HB.out)⟩
end Go.Proofs.Ytoomcmaifgkkfaa.P
end
section
namespace Go.Proofs.Ytoomcmaifgkkfaa.P
open Go.RowKit Go.Proofs.Da.qb Go.Proofs.Da.Jd Go.Proofs.Da.Gf
set_option linter.unusedVariables false
set_option linter.unusedSimpArgs false
open Go.Shelf
def Dk:Go.Shelf.Ren:=⟨fun | 189=>112 | 125=>129 | 257=>128 | 128=>150 | 129=>151 | 294=>141 | 295=>142 | 296=>143 | 297=>144 | 298=>145 | 299=>146 | 216=>147 | 300=>148 | 301=>149 | 328=>155 | 329=>156 | 330=>157 | 331=>158 | 332=>159 | 215=>160 | 343=>162|n=>n,fun | 28=>22 | 3=>3 | 46=>130 | 0=>0 | 51=>159 | 53=>161 | 4=>4 | 183=>151 | 182=>150 | 131=>156 | 5=>5 | 9=>9 | 218=>163 | 222=>167 | 228=>170 | 229=>171|n=>n,fun|n=>n⟩
theorem ek:Go.Proofs.Lays.n189 Try.prog Dk:={
 mixed:=by kernel_rfl
 f125:=Try.func129.trans (congrArg some (by kernel_rfl))
 f128:=Try.func150.trans (congrArg some (by kernel_rfl))
 f129:=Try.func151.trans (congrArg some (by kernel_rfl))
 f189:=Try.func112.trans (congrArg some (by kernel_rfl))
 f215:=Try.func160.trans (congrArg some (by kernel_rfl))
 f216:=Try.func147.trans (congrArg some (by kernel_rfl))
 f257:=Try.func128.trans (congrArg some (by kernel_rfl))
 f294:=Try.func141.trans (congrArg some (by kernel_rfl))
 f295:=Try.func142.trans (congrArg some (by kernel_rfl))
 f296:=Try.func143.trans (congrArg some (by kernel_rfl))
 f297:=Try.func144.trans (congrArg some (by kernel_rfl))
 f298:=Try.func145.trans (congrArg some (by kernel_rfl))
 f299:=Try.func146.trans (congrArg some (by kernel_rfl))
 f300:=Try.func148.trans (congrArg some (by kernel_rfl))
 f301:=Try.func149.trans (congrArg some (by kernel_rfl))
 f328:=Try.func155.trans (congrArg some (by kernel_rfl))
 f329:=Try.func156.trans (congrArg some (by kernel_rfl))
 f330:=Try.func157.trans (congrArg some (by kernel_rfl))
 f331:=Try.func158.trans (congrArg some (by kernel_rfl))
 f332:=Try.func159.trans (congrArg some (by kernel_rfl))
 f343:=Try.func162.trans (congrArg some (by kernel_rfl))
 t0:=Try.underlying0
 a0:=Try.isAgg0
 z0:=Try.sizeOf0
 v0:=Try.zeroValue0
 t3:=Try.underlying3
 a3:=Try.isAgg3
 z3:=Try.sizeOf3
 v3:=Try.zeroValue3
 t4:=Try.underlying4
 a4:=Try.isAgg4
 z4:=Try.sizeOf4
 v4:=Try.zeroValue4
 t5:=Try.underlying5
 a5:=Try.isAgg5
 z5:=Try.sizeOf5
 v5:=Try.zeroValue5
 t9:=Try.underlying9
 a9:=Try.isAgg9
 z9:=Try.sizeOf9
 v9:=Try.zeroValue9
 t28:=Try.underlying22
 a28:=Try.isAgg22
 z28:=Try.sizeOf22
 v28:=Try.zeroValue22
 t46:=Try.underlying130
 a46:=Try.isAgg130
 z46:=Try.sizeOf130
 v46:=Try.zeroValue130
 t51:=Try.underlying159
 a51:=Try.isAgg159
 z51:=Try.sizeOf159
 v51:=Try.zeroValue159
 t53:=Try.underlying161
 a53:=Try.isAgg161
 z53:=Try.sizeOf161
 v53:=Try.zeroValue161
 t131:=Try.underlying156
 a131:=Try.isAgg156
 z131:=Try.sizeOf156
 v131:=Try.zeroValue156
 t182:=Try.underlying150
 a182:=Try.isAgg150
 z182:=Try.sizeOf150
 v182:=Try.zeroValue150
 t183:=Try.underlying151
 a183:=Try.isAgg151
 z183:=Try.sizeOf151
 v183:=Try.zeroValue151
 t218:=Try.underlying163
 a218:=Try.isAgg163
 z218:=Try.sizeOf163
 v218:=Try.zeroValue163
 t222:=Try.underlying167
 a222:=Try.isAgg167
 z222:=Try.sizeOf167
 v222:=Try.zeroValue167
 t228:=Try.underlying170
 a228:=Try.isAgg170
 z228:=Try.sizeOf170
 v228:=Try.zeroValue170
 t229:=Try.underlying171
 a229:=Try.isAgg171
 z229:=Try.sizeOf171
 v229:=Try.zeroValue171 }
open Go.Sort Go.RowKit in
theorem mj (blk off cap:Nat) (zs:List Int) (w:World) (hH:Holds (Value.int .i64) w blk off zs.toArray) (hblk:blk < w.heap.size) (hsz:zs.length < 4611686018427387904) :
  Calls Try.prog 112 #[.slice (some ⟨blk,off,none⟩) zs.length cap] w fun e w' =>
   e = .returned (.tuple #[])∧∃ n os,w' = grow (putRow (Value.int .i64) (Sort.ahead w n) blk off (zs.mergeSort fun x y=>decide (x ≤ y)).toArray) os:=Any.slices_Sort_int ek blk off cap zs w hH hblk hsz
def Yj:Go.Shelf.Ren:=⟨fun | 20=>113|n=>n,fun | 22=>22 | 3=>3 | 4=>4 | 0=>0|n=>n,fun|n=>n⟩
theorem jj:Go.Proofs.Lays2.n20 Try.prog Yj:={
 mixed:=by kernel_rfl
 f20:=Try.func113.trans (congrArg some (by kernel_rfl))
 t0:=Try.underlying0
 a0:=Try.isAgg0
 z0:=Try.sizeOf0
 v0:=Try.zeroValue0
 t3:=Try.underlying3
 a3:=Try.isAgg3
 z3:=Try.sizeOf3
 v3:=Try.zeroValue3
 t4:=Try.underlying4
 a4:=Try.isAgg4
 z4:=Try.sizeOf4
 v4:=Try.zeroValue4
 t22:=Try.underlying22
 a22:=Try.isAgg22
 z22:=Try.sizeOf22
 v22:=Try.zeroValue22
 i3:=by kernel_rfl }
open Go.RowKit Go.Lib Go.Sort in
theorem ai (blk off cap:Nat) (zs:List Int) (w:World) (hH:Holds (Value.int .i64) w blk off zs.toArray) (hsz:zs.length ≤ 9223372036854775807) (hcap:zs.length ≤ cap) :
  Calls Try.prog 113 #[.slice (some ⟨blk,off,none⟩) zs.length cap] w fun e w'=>e = .returned (.slice (some ⟨blk,off,none⟩) (Lib.compact zs).length cap)∧∃ q,w' = putRow (Value.int .i64) (Sort.ahead w q) blk off (Lib.compact zs ++ List.replicate (zs.length - (Lib.compact zs).length) 0).toArray:=Any.slices_Compact_int jj blk off cap zs w hH hsz hcap
open Go.RowKit Go.Lib Go.Sort in
theorem Fg (a:Option Addr) (cap:Nat) (w:World) :
  Calls Try.prog 113 #[.slice a 0 cap] w fun e w'=>e = .returned (.slice a 0 cap)∧w' = w:=Any.slices_Compact_int_empty jj a cap w
open Go.RowKit Go.Sort in
theorem uh (p:Option Addr) (cap:Nat) (w:World) :
  Calls Try.prog 112 #[.slice p 0 cap] w fun e w'=>e = .returned (.tuple #[])∧w' = w:=Any.slices_Sort_int_none ek p cap w
end Go.Proofs.Ytoomcmaifgkkfaa.P
end
section
namespace Go.Proofs.Ytoomcmaifgkkfaa.P
open Go.RowKit Go.Proofs.Da.qb Go.Proofs.Da.Jd Go.Proofs.Da.Gf
set_option linter.unusedVariables false
set_option linter.unusedSimpArgs false
def ak (l:List Int):List Int:=Go.Lib.compact (l.mergeSort fun x y=>decide (x ≤ y))
def Ae.f (l0:List Int):Option (List Int):=if l0.length ≤ 4398046511104 then some (ak l0) else none
theorem en (zs:List Int):(Go.Lib.compact zs).length ≤ zs.length:=by
 unfold Go.Lib.compact Go.Lib.compactUpTo;rw [List.length_map];have:=List.length_filter_le (Go.Lib.keeps zs.toArray) (List.range zs.length)
 rwa [List.length_range] at this
open Go.RowKit Go.Lib Go.Sort in
theorem nB (B g n c:Nat) (P:Nat→Prop) (l0:List Int) (w:World) (hn:l0.length=n) (nR:B ≤ g) (hP:P g) (hl:n ≤ 4398046511104) (hown:w.ownsRow B 3 1 (.slice (some ⟨g,0,none⟩) n c) n (Eh (Value.int .i64) l0)) :
  Calls Try.prog 86 #[.slice (some ⟨g,0,none⟩) n c] w fun e w'=>∃ Wm:Value,e = .returned Wm∧Kd.R (Kd.int .i64) 3 w' B P Wm (ak l0)∧w.grownBy w' (some g):=by
 obtain ⟨cur,hb,h1,h2,h3,h4⟩:∃ cur,w.heap[g]? = some (.cells cur 3 (0,0))∧n ≤ c∧c ≤ maxLen∧cur.size=c * 1∧cur.toList.take (n * 1)=Eh (Value.int .i64) l0:=by
  rcases hown.2 with ⟨h0,_⟩|⟨g',cap',cur,hv,_,hh,a1,a2,a3,a4⟩
  ·cases h0
  ·cases hv;exact ⟨cur,hh,a1,a2,a3,a4⟩
 subst hn;rw [Nat.mul_one] at h4;have HH:=ga.mk (holds_of_blockI (ss:=l0) hb (by rw [h4];rfl));have HG:=ga.mk (Array.getElem?_eq_some_iff.1 hb).1;have HB:=ga.mk hb;have H1:=ga.mk h1;have H2:=ga.mk h2;have H3:=ga.mk h3;have H4:=ga.mk h4;clear hown hb h1 h2 h3 h4;obtain ⟨s,hs⟩:∃ s:List Int,s=l0.mergeSort fun x y=>decide (x ≤ y):=⟨_,rfl⟩
 have PN:s.length=l0.length:=by rw [hs];exact List.length_mergeSort l0
 have HS:=ga.mk hs;have AE:=ga.mk PN;clear hs PN;go_enter Try.func86,Try.ntmps86
 go_upto_region 2 with (go_at_call 112;(with_reducible refine (mj g 0 c l0 w HH.out HG.out (by omega)).mono ?_);rintro e w1 ⟨rfl,m,os,hw1⟩;have nQ:=ga.mk hw1;clear hw1)
 have bt:=ga.mk (show w1.heap[g]? = some (.cells (putCells (Value.int .i64) 0 s.toArray cur) 3 (0,0)) from by rw [nQ.out,← HS.out];exact heap_sortedI _ HB.out);have TR:=ga.mk (show w.grownBy w1 (some g) from by rw [nQ.out];exact grownBy_sortedI _);have SR:=ga.mk (holds_of_blockI (ss:=s) bt.out (take_putCellsI cur s (by have:=H3.out;have:=H1.out;have:=AE.out;omega)));have FP:(Go.Lib.compact s).length ≤ s.length:=en s;have rQ:=ga.mk FP;clear FP;have HL:=ga.mk hl;clear hl;have sQ:=ga.mk (ai g 0 c s w1 SR.out (by have:=HL.out;have:=AE.out;omega) (by have:=H1.out;have:=AE.out;omega));rw [AE.out] at sQ;go_wp2_with (go_at_call 113;(refine sQ.out.mono ?_);rintro e w2 ⟨rfl,q,hw2⟩;have mQ:=ga.mk hw2;clear hw2);go_ret
 have hz:(Go.Lib.compact s ++ List.replicate (l0.length - (Go.Lib.compact s).length) 0).length=s.length:=by
  rw [List.length_append,List.length_replicate];have:=rQ.out;have:=AE.out;omega
 refine ⟨_,rfl,?_,?_⟩
 ·have hr:=ownsRow_sortedI (w:=w1) (base:=B) (n:=q) (os:=#[]) (ss:=s) (ts:=Go.Lib.compact s ++ List.replicate (l0.length - (Go.Lib.compact s).length) 0) hz nR bt.out (by rw [AE.out];exact H1.out) H2.out (by simp [putCells,H3.out]);rw [grow_empty,← mQ.out] at hr
  have hR:Kd.R (Kd.int .i64) 3 w2 B P (.slice (some ⟨g,0,none⟩) s.length c) (Go.Lib.compact s ++ List.replicate (l0.length - (Go.Lib.compact s).length) 0):=Kd.Rs (by rw [hz];exact hr) (fun k hk=>by
   have:g=k:=by simpa [Value.ownBlock] using hk
   subst this
   exact hP)
  have ht:=Kd.SD (m:=(Go.Lib.compact s).length) hR (by rw [hz];exact rQ.out);rw [List.take_left] at ht;unfold ak;rw [← HS.out];exact ht
 ·have h2:=grownBy_sortedI (w:=w1) (g:=g) (n:=q) (os:=#[]) (Go.Lib.compact s ++ List.replicate (l0.length - (Go.Lib.compact s).length) 0).toArray;rw [grow_empty,← mQ.out] at h2;exact TR.out.trans h2
theorem Ae.calls (ei:Nat→Prop) (Ge:Value) (l0:List Int) (r:List Int) (w0 w:World) (hB:Below w0.heap.size w0 w) (Yf:Kd.R (Kd.int .i64) 3 w w0.heap.size ei Ge l0) (h:Ae.f l0=some r) :
  Calls Try.prog 86 #[Ge] w fun e w'=>∃ Wm:Value,e = .returned (Wm)∧Kd.R (Kd.int .i64) 3 w' w0.heap.size (fun k_=>(ei k_ ∨ w.heap.size ≤ k_)) Wm r∧Below w0.heap.size w0 w'∧Kept w w' (fun k_=>ei k_):=by
 unfold Ae.f at h;have hl:l0.length ≤ 4398046511104:=Decidable.byContradiction fun hn=>by rw [if_neg hn] at h;cases h
 rw [if_pos hl] at h;obtain rfl:=Option.some.inj h;have ho:=Kd.yo Yf;have hbase:=Kd.Ud Yf;have hP:=Yf.1
 rcases ho.2 with ⟨rfl,h0⟩|⟨g,cap,cur,rfl,hg,_⟩
 ·obtain rfl:l0=[]:=List.eq_nil_of_length_eq_zero h0;clear ho Yf hbase hP h;have HB:=ga.mk hB;clear hB;go_enter Try.func86,Try.ntmps86
  go_upto_region 2 with (go_at_call 112;(with_reducible refine (uh none 0 w).mono ?_);rintro e w1 ⟨rfl,rfl⟩)
  go_wp2_with (go_at_call 113;(with_reducible refine (Fg none 0 _).mono ?_);rintro e w2 ⟨rfl,rfl⟩);go_ret;exact ⟨_,rfl,by rw [show ak []=[] from by simp [ak,Go.Lib.compact,Go.Lib.compactUpTo]];exact Kd.Ss _ _ _ _ _,HB.out,Kept.refl _ _⟩
 ·have IP:=hP g rfl;refine (nB w0.heap.size g l0.length cap (fun k_=>(ei k_ ∨ w.heap.size ≤ k_)) l0 w rfl hg (Or.inl IP) hl ho).mono ?_;rintro e w' ⟨v,he,hr,fP⟩;exact ⟨v,he,hr,uo hB _ hB.size fP (fun k hk=>by cases hk;exact hg),Kept.Lg fP (Kept.refl _ _) (fun k hk=>by cases hk;exact Or.inl IP)⟩
end Go.Proofs.Ytoomcmaifgkkfaa.P
end
