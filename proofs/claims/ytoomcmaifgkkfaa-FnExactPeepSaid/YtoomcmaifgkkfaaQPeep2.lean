import Derived.Test.YtoomcmaifgkkfaaQPeep1
set_option maxHeartbeats 8000000
set_option maxRecDepth 100000
section
namespace Go.Proofs.Ytoomcmaifgkkfaa.P
open Go.RowKit Go.Proofs.La.Zb Go.Proofs.La.Me Go.Proofs.La.Ig
set_option linter.unusedVariables false
set_option linter.unusedSimpArgs false
attribute [local go_sem] Kj Ij Vk Uk Mi Li Jj Hj
mutual
def mb.l0:Nat→Int→List Int→Int→Int→List (Wc)→Option (Bool)
 | 0,_,_,_,_,_=>none
 | k + 1,x3,ye,Ee,De,Vb=>if x3 < (ye.length:Int) then (if 0 ≤ x3 then ((Eb.f (rd ye x3) 1 16).bind fun t103=>(if t103=true then (mb.l0 k (wrap64 (x3 + 1)) ye Ee De Vb) else (some false))) else (none)) else ((Eb.f (ye.length:Int) 1 4).bind fun t104=>(if t104=true then ((Eb.f Ee 0 6).bind fun t105=>(if t105=true then ((Eb.f De Ee 1000).bind fun t106=>(if t106=true then ((Eb.f (Vb.length:Int) 1 6000).bind fun t107=>(mb.j1 k (Vb.length:Int) (!t107) ye Ee De Vb)) else (mb.j1 k (Vb.length:Int) true ye Ee De Vb))) else (mb.j1 k (Vb.length:Int) true ye Ee De Vb))) else (mb.j1 k (Vb.length:Int) true ye Ee De Vb)))
def mb.j1:Nat→Int→Bool→List Int→Int→Int→List (Wc)→Option (Bool)
 | 0,_,_,_,_,_,_=>none
 | k + 1,x4,x46,ye,Ee,De,Vb=>if x46=true then (some false) else (mb.l1 k x4 0 ye Ee De Vb)
def mb.l1:Nat→Int→Int→List Int→Int→Int→List (Wc)→Option (Bool)
 | 0,_,_,_,_,_,_=>none
 | k + 1,x4,x5,ye,Ee,De,Vb=>if x5 < x4 then (if 0 ≤ x5 then (if x5 < (Vb.length:Int) then ((Bb.f k ye Ee De Vb ((ta Vb x5).f0) ((ta Vb x5).f1) ((ta Vb x5).f2) ((ta Vb x5).f3) ((ta Vb x5).f4)).bind fun t109=>(if t109=true then (mb.l1 k x4 (wrap64 (x5 + 1)) ye Ee De Vb) else (some false))) else (none)) else (none)) else (if 0 ≤ (wrap64 (x4 - 1)) then (if (wrap64 (x4 - 1)) < (Vb.length:Int) then (if ((ta Vb (wrap64 (x4 - 1))).f0)=10 then (some true) else (some (((ta Vb (wrap64 (x4 - 1))).f0) == 8))) else (none)) else (none))
end
def mb.f (k:Nat) (Sa:List Int) (Qa:Int) (Ra:Int) (Ca:List (Wc)):Option (Bool):=mb.l0 k 0 Sa Qa Ra Ca
def mb.T12:Bool × List (List Nat × List Nat):=(true,[([],[]),([],[]),([1],[1]),([],[]),([2,3],[2,3]),([4],[4]),([0,5],[0,5]),([6],[6])])
def mb.B12:List Nat:=[0,0,2,0,14,30,63,127]
theorem mb.XL:Sl .any (opsOf Try.f53 12)=mb.T12:=by kernel_rfl
theorem mb.uH:oo mb.T12.2 mb.B12=true:=by kernel_rfl
theorem mb.calls (k:Nat) (zb:Option Addr) (yb:Nat) (Sa:List Int) (Qa:Int) (Ra:Int) (Kb:Option Addr) (Ab:Nat) (Ca:List (Wc)) (r:Bool) (w:World) (Ef:Kd.C (Kd.int .i64) w zb Sa.length Sa) (uf:Sa.length ≤ yb) (Df:Kd.C bg w Kb Ca.length Ca) (tf:Ca.length ≤ Ab) (h:mb.f k Sa Qa Ra Ca=some r) :
  Calls Try.prog 53 #[.agg #[.slice zb Sa.length yb,.int .i64 Qa,.int .i64 Ra,.slice Kb Ca.length Ab]] w fun e w'=>e = .returned (.bool r)∧Below w.heap.size w w':=by
 have su:=Try.underlying30;have dz:=Try.underlying67;have Ff:=aa.mk Ef;have Xf:=aa.mk uf;clear Ef uf;have Je:=aa.mk Df;have Pg:=aa.mk tf;clear Df tf;have HB:=aa.mk (Below.refl w.heap.size w);have H:(mb.l0 k 0 Sa Qa Ra Ca)=some r:=h;clear h;have H':=aa.mk H;clear H;go_enter Try.func53,Try.ntmps53;go_wp2_with (first|((with_reducible refine Rb (N:=1) rfl ?_);refine Pb ?hg (N:=1) ?hd (cs:=#[.slice zb Sa.length yb,.int .i64 Qa,.int .i64 Ra,.slice Kb Ca.length Ab]) (t:=30) ?hr ?_;(case hd=>rfl);(case hg=>rfl);(case hr=>first|(go_simp;done)|(go_simp;rfl));intro Fa hg w2 ec hb;have Ub:=aa.mk (Va (by repeat (first|(with_reducible first|exact HB.out|apply ua|apply ga|apply Aa)|exact HB.out)) hb);have Wb:=aa.mk (ec);have ic:=aa.mk ((by rw [hg];exact (Ka (by repeat (first|(with_reducible first|exact HB.out|apply ua|apply ga|apply Aa)|exact HB.out))):w.heap.size ≤ Fa));have mc:=aa.mk ((by rw [hg];exact (Ka (by repeat (first|(with_reducible first|exact HB.out|apply ua|apply ga|apply Aa)|exact HB.out))):w.heap.size ≤ Fa));clear HB;have HB:=Ub;have Ba:=Wb;have qg:=ic;have Ua:=mc;clear Ub Wb ic mc hb ec hg))
 go_loopg [3] k (fun kq v3 w'=>∃ (kf:Int),v3 = .int .i64 kf∧aa (mb.l0 kq kf Sa Qa Ra Ca=some r)∧aa (kq ≤ k)∧aa (w'.heap[Fa]? = some (.cells #[(.slice zb Sa.length yb),.int .i64 Qa,.int .i64 Ra,(.slice Kb Ca.length Ab)] 30 (0,0)))∧aa (Below w.heap.size w w'))
 case atStart=>exact ⟨(0),(by first|rfl|(simp;done)|(simp [*];done)),H',⟨Nat.le_refl _⟩,⟨by (with_reducible repeat (first|refine oa ?_ _|refine za ?_|refine qa ?_ _));exact Ba.out⟩,⟨by repeat (first|(with_reducible first|exact HB.out|apply ua|apply ga|apply Aa|refine ja ?_ Ua.out)|exact HB.out)⟩⟩
 case round =>
  clear H'
  try clear p2
  (try clear HA);(try clear si);(try clear Ba);(try clear HB);obtain ⟨kf,rfl,HA,si,Ba,HB⟩:=hrel;cases gk with
  | zero=>exact absurd HA.out (by simp [mb.l0])
  | succ k1 =>
   have H:=HA.out;clear HA;simp only [mb.l0] at H
   by_cases c3:kf < (Sa.length:Int)
   ·rw [if_pos c3] at H;have qj:decide (kf < (Sa.length:Int))=true:=decide_eq_true c3;clear c3
    by_cases c4:0 ≤ kf
    ·rw [if_pos c4] at H;have qm:decide (0 ≤ kf)=true:=decide_eq_true c4;clear c4;replace H:=Option.bind_eq_some_iff.mp H;obtain ⟨t103,A50,H⟩:=H;replace H:(if t103=true then (mb.l0 k1 (wrap64 (kf + 1)) Sa Qa Ra Ca) else (some false))=some r:=H;have A5:=aa.mk A50;clear A50
     by_cases c6:t103=true
     ·subst c6;have H1:(mb.l0 k1 (wrap64 (kf + 1)) Sa Qa Ra Ca)=some r:=by rw [if_pos rfl] at H;exact H
      clear H;have H:=H1;clear H1;have H':=aa.mk H;clear H;have ax:wr.cell? ⟨Fa,0,none⟩=some (.slice zb Sa.length yb):=(ya Ba.out 0).trans rfl;have Zw:wr.cell? ⟨Fa,1,none⟩=some (.int .i64 Qa):=(ya Ba.out 1).trans rfl;have Yw:wr.cell? ⟨Fa,2,none⟩=some (.int .i64 Ra):=(ya Ba.out 2).trans rfl;have Xw:wr.cell? ⟨Fa,3,none⟩=some (.slice Kb Ca.length Ab):=(ya Ba.out 3).trans rfl;have zw:=ia Ba.out 0;have yw:=ia Ba.out 1;have xw:=ia Ba.out 2;have vw:=ia Ba.out 3;have Wg:0 ≤ (kf:Int):=of_decide_eq_true (by first|(with_reducible assumption)|assumption);have Vg:kf < (Sa.length:Int):=of_decide_eq_true (by first|(with_reducible assumption)|assumption);obtain ⟨wg,om,Af⟩:=Kd.Wj Ff.out kf Wg Vg;cases om;replace Af:=Ya HB.out Af;replace Wg:=eq_true Wg;replace Vg:=eq_true Vg;go_wp2_with (first|((with_reducible refine Xb (f:=81) rfl ?_);refine je (some 18) rfl rfl Try.func81 (by kernel_rfl) rfl #[.int .i64 (rd Sa kf),.int .i64 1,.int .i64 16] rfl (by (try simp only [List.map_toArray,List.map_cons,List.map_nil]);first|done|rfl|(simp only [List.length_drop,List.length_take];rfl)) ?_;(with_reducible refine (Eb.calls (rd Sa kf) 1 16 true _ A5.out).mono ?_);rintro e w' ⟨rfl,⟨nd,rfl⟩⟩;refine ⟨_,rfl,?_⟩))
      go_roundg k1
      case measure=>have:=si.out;omega
      case rel=>exact ⟨(wrap64 (kf + 1)),(by first|rfl|(simp;done)|(simp [*];done)),H',⟨by have:=si.out;omega⟩,⟨by (with_reducible repeat (first|refine oa ?_ _|refine za ?_|refine qa ?_ _));exact Ba.out⟩,⟨by repeat (first|(with_reducible first|exact HB.out|apply ua|apply ga|apply Aa|refine ja ?_ Ua.out)|exact HB.out)⟩⟩
     ·replace c6:=Bool.eq_false_iff.mpr c6;subst c6;have H1:(some false)=some r:=by rw [if_neg (show ¬ (false=true) by decide)] at H;exact H
      clear H;have H:=H1;clear H1;obtain rfl:=Option.some.inj H;have CA:wr.cell? ⟨Fa,0,none⟩=some (.slice zb Sa.length yb):=(ya Ba.out 0).trans rfl;have BA:wr.cell? ⟨Fa,1,none⟩=some (.int .i64 Qa):=(ya Ba.out 1).trans rfl;have AA:wr.cell? ⟨Fa,2,none⟩=some (.int .i64 Ra):=(ya Ba.out 2).trans rfl;have zA:wr.cell? ⟨Fa,3,none⟩=some (.slice Kb Ca.length Ab):=(ya Ba.out 3).trans rfl;have sA:=ia Ba.out 0;have rA:=ia Ba.out 1;have qA:=ia Ba.out 2;have oA:=ia Ba.out 3;have Wg:0 ≤ (kf:Int):=of_decide_eq_true (by first|(with_reducible assumption)|assumption);have Vg:kf < (Sa.length:Int):=of_decide_eq_true (by first|(with_reducible assumption)|assumption);obtain ⟨wg,om,Af⟩:=Kd.Wj Ff.out kf Wg Vg;cases om;replace Af:=Ya HB.out Af;replace Wg:=eq_true Wg;replace Vg:=eq_true Vg;go_wp2_with (first|((with_reducible refine Xb (f:=81) rfl ?_);refine je (some 18) rfl rfl Try.func81 (by kernel_rfl) rfl #[.int .i64 (rd Sa kf),.int .i64 1,.int .i64 16] rfl (by (try simp only [List.map_toArray,List.map_cons,List.map_nil]);first|done|rfl|(simp only [List.length_drop,List.length_take];rfl)) ?_;(with_reducible refine (Eb.calls (rd Sa kf) 1 16 false _ A5.out).mono ?_);rintro e w' ⟨rfl,⟨nd,rfl⟩⟩;refine ⟨_,rfl,?_⟩));go_ret;exact ⟨by first|rfl|(simp [Xa,Wa] <;> rfl)|(simp [*,Xa,Wa] <;> rfl),by repeat (first|(with_reducible first|exact HB.out|apply ua|apply ga|apply Aa|refine ja ?_ Ua.out)|exact HB.out)⟩
    ·rw [if_neg c4] at H;exact absurd H (by simp)
   ·rw [if_neg c3] at H;have qj:decide (kf < (Sa.length:Int))=false:=decide_eq_false c3;clear c3;have U6:=aa.mk H;clear H;have Ek:wr.cell? ⟨Fa,0,none⟩=some (.slice zb Sa.length yb):=(ya Ba.out 0).trans rfl;have Dk:wr.cell? ⟨Fa,1,none⟩=some (.int .i64 Qa):=(ya Ba.out 1).trans rfl;have Ck:wr.cell? ⟨Fa,2,none⟩=some (.int .i64 Ra):=(ya Ba.out 2).trans rfl;have Bk:wr.cell? ⟨Fa,3,none⟩=some (.slice Kb Ca.length Ab):=(ya Ba.out 3).trans rfl;have Ak:=ia Ba.out 0;have zk:=ia Ba.out 1;have xk:=ia Ba.out 2;have wk:=ia Ba.out 3
    go_upto_region 7 with (fail)
    go_cut [46] (fun v46 wc=>∃ (kq:Nat) (bB:Bool),v46 = .bool bB∧aa (mb.j1 kq (Ca.length:Int) bB Sa Qa Ra Ca=some r)∧aa (kq ≤ k1)∧aa (wc.heap[Fa]? = some (.cells #[(.slice zb Sa.length yb),.int .i64 Qa,.int .i64 Ra,(.slice Kb Ca.length Ab)] 30 (0,0)))∧aa (Below w.heap.size w wc))
    case first =>
     have H:=U6.out;clear U6;replace H:=Option.bind_eq_some_iff.mp H;obtain ⟨t104,QH,H⟩:=H;replace H:(if t104=true then ((Eb.f Qa 0 6).bind fun t105=>(if t105=true then ((Eb.f Ra Qa 1000).bind fun t106=>(if t106=true then ((Eb.f (Ca.length:Int) 1 6000).bind fun t107=>(mb.j1 k1 (Ca.length:Int) (!t107) Sa Qa Ra Ca)) else (mb.j1 k1 (Ca.length:Int) true Sa Qa Ra Ca))) else (mb.j1 k1 (Ca.length:Int) true Sa Qa Ra Ca))) else (mb.j1 k1 (Ca.length:Int) true Sa Qa Ra Ca))=some r:=H;have aQ:=aa.mk QH;clear QH
     by_cases iE:t104=true
     ·subst iE;have H1:((Eb.f Qa 0 6).bind fun t105=>(if t105=true then ((Eb.f Ra Qa 1000).bind fun t106=>(if t106=true then ((Eb.f (Ca.length:Int) 1 6000).bind fun t107=>(mb.j1 k1 (Ca.length:Int) (!t107) Sa Qa Ra Ca)) else (mb.j1 k1 (Ca.length:Int) true Sa Qa Ra Ca))) else (mb.j1 k1 (Ca.length:Int) true Sa Qa Ra Ca)))=some r:=by rw [if_pos rfl] at H;exact H
      clear H;have H:=H1;clear H1;replace H:=Option.bind_eq_some_iff.mp H;obtain ⟨t105,OH,H⟩:=H;replace H:(if t105=true then ((Eb.f Ra Qa 1000).bind fun t106=>(if t106=true then ((Eb.f (Ca.length:Int) 1 6000).bind fun t107=>(mb.j1 k1 (Ca.length:Int) (!t107) Sa Qa Ra Ca)) else (mb.j1 k1 (Ca.length:Int) true Sa Qa Ra Ca))) else (mb.j1 k1 (Ca.length:Int) true Sa Qa Ra Ca))=some r:=H;have lV:=aa.mk OH;clear OH
      by_cases zL:t105=true
      ·subst zL;have H1:((Eb.f Ra Qa 1000).bind fun t106=>(if t106=true then ((Eb.f (Ca.length:Int) 1 6000).bind fun t107=>(mb.j1 k1 (Ca.length:Int) (!t107) Sa Qa Ra Ca)) else (mb.j1 k1 (Ca.length:Int) true Sa Qa Ra Ca)))=some r:=by rw [if_pos rfl] at H;exact H
       clear H;have H:=H1;clear H1;replace H:=Option.bind_eq_some_iff.mp H;obtain ⟨t106,iV,H⟩:=H;replace H:(if t106=true then ((Eb.f (Ca.length:Int) 1 6000).bind fun t107=>(mb.j1 k1 (Ca.length:Int) (!t107) Sa Qa Ra Ca)) else (mb.j1 k1 (Ca.length:Int) true Sa Qa Ra Ca))=some r:=H;have A15:=aa.mk iV;clear iV
       by_cases Wx:t106=true
       ·subst Wx;have H1:((Eb.f (Ca.length:Int) 1 6000).bind fun t107=>(mb.j1 k1 (Ca.length:Int) (!t107) Sa Qa Ra Ca))=some r:=by rw [if_pos rfl] at H;exact H
        clear H;have H:=H1;clear H1;replace H:=Option.bind_eq_some_iff.mp H;obtain ⟨t107,fV,H⟩:=H;replace H:(mb.j1 k1 (Ca.length:Int) (!t107) Sa Qa Ra Ca)=some r:=H;have A17:=aa.mk fV;clear fV;have H':=aa.mk H;clear H;have Vi:wr.cell? ⟨Fa,0,none⟩=some (.slice zb Sa.length yb):=(ya Ba.out 0).trans rfl;have Ui:wr.cell? ⟨Fa,1,none⟩=some (.int .i64 Qa):=(ya Ba.out 1).trans rfl;have Ti:wr.cell? ⟨Fa,2,none⟩=some (.int .i64 Ra):=(ya Ba.out 2).trans rfl;have Si:wr.cell? ⟨Fa,3,none⟩=some (.slice Kb Ca.length Ab):=(ya Ba.out 3).trans rfl;have Ri:=ia Ba.out 0;have Qi:=ia Ba.out 1;have Oi:=ia Ba.out 2;have Ni:=ia Ba.out 3;go_wp2_with (first|((with_reducible refine Xb (f:=81) rfl ?_);refine je (some 26) rfl rfl Try.func81 (by kernel_rfl) rfl #[.int .i64 (Sa.length:Int),.int .i64 1,.int .i64 4] rfl (by (try simp only [List.map_toArray,List.map_cons,List.map_nil]);first|done|rfl|(simp only [List.length_drop,List.length_take];rfl)) ?_;(with_reducible refine (Eb.calls (Sa.length:Int) 1 4 true _ aQ.out).mono ?_);rintro e w' ⟨rfl,⟨nd,rfl⟩⟩;refine ⟨_,rfl,?_⟩)|(go_at_call 81;(with_reducible refine (Eb.calls Qa 0 6 true _ lV.out).mono ?_);rintro e w' ⟨rfl,⟨nd,rfl⟩⟩)|(go_at_call 81;(with_reducible refine (Eb.calls Ra Qa 1000 true _ A15.out).mono ?_);rintro e w' ⟨rfl,⟨nd,rfl⟩⟩)|(go_at_call 81;(with_reducible refine (Eb.calls (Ca.length:Int) 1 6000 t107 _ A17.out).mono ?_);rintro e w' ⟨rfl,⟨nd,rfl⟩⟩))
        go_meet
        case rel=>exact ⟨_,(!t107),(by first|rfl|(simp;done)|(simp [*];done)),H',⟨by have:=si.out;first|omega|exact Nat.le_refl _⟩,⟨by (with_reducible repeat (first|refine oa ?_ _|refine za ?_|refine qa ?_ _));exact Ba.out⟩,⟨by repeat (first|(with_reducible first|exact HB.out|apply ua|apply ga|apply Aa|refine ja ?_ Ua.out)|exact HB.out)⟩⟩
       ·replace Wx:=Bool.eq_false_iff.mpr Wx;subst Wx;have H1:(mb.j1 k1 (Ca.length:Int) true Sa Qa Ra Ca)=some r:=by rw [if_neg (show ¬ (false=true) by decide)] at H;exact H
        clear H;have H:=H1;clear H1;have H':=aa.mk H;clear H;have cr:wr.cell? ⟨Fa,0,none⟩=some (.slice zb Sa.length yb):=(ya Ba.out 0).trans rfl;have br:wr.cell? ⟨Fa,1,none⟩=some (.int .i64 Qa):=(ya Ba.out 1).trans rfl;have Zq:wr.cell? ⟨Fa,2,none⟩=some (.int .i64 Ra):=(ya Ba.out 2).trans rfl;have Yq:wr.cell? ⟨Fa,3,none⟩=some (.slice Kb Ca.length Ab):=(ya Ba.out 3).trans rfl;have Oq:=ia Ba.out 0;have Nq:=ia Ba.out 1;have Mq:=ia Ba.out 2;have Kq:=ia Ba.out 3;go_wp2_with (first|((with_reducible refine Xb (f:=81) rfl ?_);refine je (some 26) rfl rfl Try.func81 (by kernel_rfl) rfl #[.int .i64 (Sa.length:Int),.int .i64 1,.int .i64 4] rfl (by (try simp only [List.map_toArray,List.map_cons,List.map_nil]);first|done|rfl|(simp only [List.length_drop,List.length_take];rfl)) ?_;(with_reducible refine (Eb.calls (Sa.length:Int) 1 4 true _ aQ.out).mono ?_);rintro e w' ⟨rfl,⟨nd,rfl⟩⟩;refine ⟨_,rfl,?_⟩)|(go_at_call 81;(with_reducible refine (Eb.calls Qa 0 6 true _ lV.out).mono ?_);rintro e w' ⟨rfl,⟨nd,rfl⟩⟩)|(go_at_call 81;(with_reducible refine (Eb.calls Ra Qa 1000 false _ A15.out).mono ?_);rintro e w' ⟨rfl,⟨nd,rfl⟩⟩))
        go_meet
        case rel=>exact ⟨_,(true),(by first|rfl|(simp;done)|(simp [*];done)),H',⟨by have:=si.out;first|omega|exact Nat.le_refl _⟩,⟨by (with_reducible repeat (first|refine oa ?_ _|refine za ?_|refine qa ?_ _));exact Ba.out⟩,⟨by repeat (first|(with_reducible first|exact HB.out|apply ua|apply ga|apply Aa|refine ja ?_ Ua.out)|exact HB.out)⟩⟩
      ·replace zL:=Bool.eq_false_iff.mpr zL;subst zL;have H1:(mb.j1 k1 (Ca.length:Int) true Sa Qa Ra Ca)=some r:=by rw [if_neg (show ¬ (false=true) by decide)] at H;exact H
       clear H;have H:=H1;clear H1;have H':=aa.mk H;clear H;have Uj:wr.cell? ⟨Fa,0,none⟩=some (.slice zb Sa.length yb):=(ya Ba.out 0).trans rfl;have Tj:wr.cell? ⟨Fa,1,none⟩=some (.int .i64 Qa):=(ya Ba.out 1).trans rfl;have Sj:wr.cell? ⟨Fa,2,none⟩=some (.int .i64 Ra):=(ya Ba.out 2).trans rfl;have Rj:wr.cell? ⟨Fa,3,none⟩=some (.slice Kb Ca.length Ab):=(ya Ba.out 3).trans rfl;have Qj:=ia Ba.out 0;have Pj:=ia Ba.out 1;have Oj:=ia Ba.out 2;have Nj:=ia Ba.out 3;go_wp2_with (first|((with_reducible refine Xb (f:=81) rfl ?_);refine je (some 26) rfl rfl Try.func81 (by kernel_rfl) rfl #[.int .i64 (Sa.length:Int),.int .i64 1,.int .i64 4] rfl (by (try simp only [List.map_toArray,List.map_cons,List.map_nil]);first|done|rfl|(simp only [List.length_drop,List.length_take];rfl)) ?_;(with_reducible refine (Eb.calls (Sa.length:Int) 1 4 true _ aQ.out).mono ?_);rintro e w' ⟨rfl,⟨nd,rfl⟩⟩;refine ⟨_,rfl,?_⟩)|(go_at_call 81;(with_reducible refine (Eb.calls Qa 0 6 false _ lV.out).mono ?_);rintro e w' ⟨rfl,⟨nd,rfl⟩⟩))
       go_meet
       case rel=>exact ⟨_,(true),(by first|rfl|(simp;done)|(simp [*];done)),H',⟨by have:=si.out;first|omega|exact Nat.le_refl _⟩,⟨by (with_reducible repeat (first|refine oa ?_ _|refine za ?_|refine qa ?_ _));exact Ba.out⟩,⟨by repeat (first|(with_reducible first|exact HB.out|apply ua|apply ga|apply Aa|refine ja ?_ Ua.out)|exact HB.out)⟩⟩
     ·replace iE:=Bool.eq_false_iff.mpr iE;subst iE;have H1:(mb.j1 k1 (Ca.length:Int) true Sa Qa Ra Ca)=some r:=by rw [if_neg (show ¬ (false=true) by decide)] at H;exact H
      clear H;have H:=H1;clear H1;have H':=aa.mk H;clear H;have Hx:wr.cell? ⟨Fa,0,none⟩=some (.slice zb Sa.length yb):=(ya Ba.out 0).trans rfl;have Gx:wr.cell? ⟨Fa,1,none⟩=some (.int .i64 Qa):=(ya Ba.out 1).trans rfl;have Fx:wr.cell? ⟨Fa,2,none⟩=some (.int .i64 Ra):=(ya Ba.out 2).trans rfl;have Ex:wr.cell? ⟨Fa,3,none⟩=some (.slice Kb Ca.length Ab):=(ya Ba.out 3).trans rfl;have Tw:=ia Ba.out 0;have Sw:=ia Ba.out 1;have Rw:=ia Ba.out 2;have Qw:=ia Ba.out 3;go_wp2_with (first|((with_reducible refine Xb (f:=81) rfl ?_);refine je (some 26) rfl rfl Try.func81 (by kernel_rfl) rfl #[.int .i64 (Sa.length:Int),.int .i64 1,.int .i64 4] rfl (by (try simp only [List.map_toArray,List.map_cons,List.map_nil]);first|done|rfl|(simp only [List.length_drop,List.length_take];rfl)) ?_;(with_reducible refine (Eb.calls (Sa.length:Int) 1 4 false _ aQ.out).mono ?_);rintro e w' ⟨rfl,⟨nd,rfl⟩⟩;refine ⟨_,rfl,?_⟩))
      go_meet
      case rel=>exact ⟨_,(true),(by first|rfl|(simp;done)|(simp [*];done)),H',⟨by have:=si.out;first|omega|exact Nat.le_refl _⟩,⟨by (with_reducible repeat (first|refine oa ?_ _|refine za ?_|refine qa ?_ _));exact Ba.out⟩,⟨by repeat (first|(with_reducible first|exact HB.out|apply ua|apply ga|apply Aa|refine ja ?_ Ua.out)|exact HB.out)⟩⟩
    case rest =>
     clear U6
     try clear c1
     try clear p1
     try clear q1
     try clear hx1
     try clear p2
     try clear c3
     try clear qj
     try clear c4
     try clear qm
     try clear c5
     try clear c6
     try clear p6
     try clear c8
     try clear JP
     try clear IP
     try clear C1
     try clear iE
     try clear zL
     try clear Wx
     try clear Ek
     try clear Dk
     try clear Ck
     try clear Bk
     try clear Vi
     try clear Ui
     try clear Ti
     try clear Si
     try clear cr
     try clear br
     try clear Zq
     try clear Yq
     try clear Uj
     try clear Tj
     try clear Sj
     try clear Rj
     try clear Hx
     try clear Gx
     try clear Fx
     try clear Ex
     try clear ax
     try clear Zw
     try clear Yw
     try clear Xw
     try clear CA
     try clear BA
     try clear AA
     try clear zA
     try clear Ak
     try clear zk
     try clear xk
     try clear wk
     try clear Ri
     try clear Qi
     try clear Oi
     try clear Ni
     try clear Oq
     try clear Nq
     try clear Mq
     try clear Kq
     try clear Qj
     try clear Pj
     try clear Oj
     try clear Nj
     try clear Tw
     try clear Sw
     try clear Rw
     try clear Qw
     try clear zw
     try clear yw
     try clear xw
     try clear vw
     try clear sA
     try clear rA
     try clear qA
     try clear oA
     try clear Af
     try clear Wg
     try clear p2
     try clear Vg
     obtain ⟨kq,bB,rfl,HA,HJ8,Ba,HB⟩:=hcut;cases kq with
     | zero=>exact absurd HA.out (by simp [mb.j1])
     | succ I0 =>
      have H:=HA.out;clear HA;simp only [mb.j1] at H
      by_cases Mz:bB=true
      ·subst Mz;have H1:(some false)=some r:=by rw [if_pos rfl] at H;exact H
       clear H;have H:=H1;clear H1;obtain rfl:=Option.some.inj H;go_wp2;go_ret;exact ⟨by first|rfl|(simp [Xa,Wa] <;> rfl)|(simp [*,Xa,Wa] <;> rfl),by repeat (first|(with_reducible first|exact HB.out|apply ua|apply ga|apply Aa|refine ja ?_ Ua.out)|exact HB.out)⟩
      ·replace Mz:=Bool.eq_false_iff.mpr Mz;subst Mz;have H1:(mb.l1 I0 (Ca.length:Int) 0 Sa Qa Ra Ca)=some r:=by rw [if_neg (show ¬ (false=true) by decide)] at H;exact H
       clear H;have H:=H1;clear H1;have H':=aa.mk H;clear H;go_wp2
       go_loopg [5] I0 (fun kq v5 w'=>∃ (bf:Int),v5 = .int .i64 bf∧aa (mb.l1 kq (Ca.length:Int) bf Sa Qa Ra Ca=some r)∧aa (kq ≤ I0)∧aa (w'.heap[Fa]? = some (.cells #[(.slice zb Sa.length yb),.int .i64 Qa,.int .i64 Ra,(.slice Kb Ca.length Ab)] 30 (0,0)))∧aa (Below w.heap.size w w'))
       case atStart=>exact ⟨(0),(by first|rfl|(simp;done)|(simp [*];done)),H',⟨Nat.le_refl _⟩,⟨by (with_reducible repeat (first|refine oa ?_ _|refine za ?_|refine qa ?_ _));exact Ba.out⟩,⟨by repeat (first|(with_reducible first|exact HB.out|apply ua|apply ga|apply Aa|refine ja ?_ Ua.out)|exact HB.out)⟩⟩
       case round =>
        clear H'
        try clear c1
        try clear p1
        try clear q1
        try clear hx1
        try clear c2
        try clear p2
        try clear c3
        try clear qj
        try clear c4
        try clear qm
        try clear c5
        try clear c6
        try clear p6
        try clear c8
        try clear JP
        try clear IP
        try clear C1
        try clear iE
        try clear zL
        try clear Wx
        try clear Mz
        try clear Ek
        try clear Dk
        try clear Ck
        try clear Bk
        try clear Vi
        try clear Ui
        try clear Ti
        try clear Si
        try clear cr
        try clear br
        try clear Zq
        try clear Yq
        try clear Uj
        try clear Tj
        try clear Sj
        try clear Rj
        try clear Hx
        try clear Gx
        try clear Fx
        try clear Ex
        try clear ax
        try clear Zw
        try clear Yw
        try clear Xw
        try clear CA
        try clear BA
        try clear AA
        try clear zA
        try clear Ak
        try clear zk
        try clear xk
        try clear wk
        try clear Ri
        try clear Qi
        try clear Oi
        try clear Ni
        try clear Oq
        try clear Nq
        try clear Mq
        try clear Kq
        try clear Qj
        try clear Pj
        try clear Oj
        try clear Nj
        try clear Tw
        try clear Sw
        try clear Rw
        try clear Qw
        try clear zw
        try clear yw
        try clear xw
        try clear vw
        try clear sA
        try clear rA
        try clear qA
        try clear oA
        try clear Af
        try clear p1
        try clear JP
        try clear Wg
        try clear p2
        try clear p6
        try clear q1
        try clear IP
        try clear Vg
        (try clear HA);(try clear NL);(try clear Ba);(try clear HB);obtain ⟨bf,rfl,HA,NL,Ba,HB⟩:=hrel;cases gk with
        | zero=>exact absurd HA.out (by simp [mb.l1])
        | succ k3 =>
         have H:=HA.out;clear HA;simp only [mb.l1] at H
         by_cases ov:bf < (Ca.length:Int)
         ·rw [if_pos ov] at H;have Lv:decide (bf < (Ca.length:Int))=true:=decide_eq_true ov;clear ov
          by_cases Xu:0 ≤ bf
          ·rw [if_pos Xu] at H;have Bn:decide (0 ≤ bf)=true:=decide_eq_true Xu;clear Xu
           by_cases qH:bf < (Ca.length:Int)
           ·rw [if_pos qH] at H;have waa:decide (bf < (Ca.length:Int))=true:=decide_eq_true qH;clear qH;replace H:=Option.bind_eq_some_iff.mp H;obtain ⟨t109,LH,H⟩:=H;replace H:(if t109=true then (mb.l1 k3 (Ca.length:Int) (wrap64 (bf + 1)) Sa Qa Ra Ca) else (some false))=some r:=H;have RZ:=aa.mk LH;clear LH
            by_cases Mu:t109=true
            ·subst Mu;have H1:(mb.l1 k3 (Ca.length:Int) (wrap64 (bf + 1)) Sa Qa Ra Ca)=some r:=by rw [if_pos rfl] at H;exact H
             clear H;have H:=H1;clear H1;have H':=aa.mk H;clear H
             try go_wp2
             have Ub:=aa.mk (za Ba.out);have Wb:=aa.mk (Aa HB.out);clear Ba HB;have Ba:=Ub;have HB:=Wb;clear Ub Wb;have Xz:0 ≤ (bf:Int):=of_decide_eq_true (by first|(with_reducible assumption)|assumption);have Uz:bf < (Ca.length:Int):=of_decide_eq_true (by first|(with_reducible assumption)|assumption);obtain ⟨Th,KO,cl,bl,Zk,Yk,Xk⟩:=Yd Je.out bf Xz Uz;have jq:=Xk;have lq:=Yk;have mq:=Zk;have oq:=bl;have pq:=cl;cases KO;replace cl:=Ya HB.out cl;replace bl:=Ya HB.out bl;replace Zk:=Ya HB.out Zk;replace Yk:=Ya HB.out Yk;replace Xk:=Ya HB.out Xk;replace Xz:=eq_true Xz;replace Uz:=eq_true Uz;refine au (n:=8) (S:=fun w'=>w'.cell? ⟨Fa,0,none⟩=some (.slice zb Sa.length yb)∧w'.cell? ⟨Fa,1,none⟩=some (.int .i64 Qa)∧w'.cell? ⟨Fa,2,none⟩=some (.int .i64 Ra)∧w'.cell? ⟨Fa,3,none⟩=some (.slice (some Th) Ca.length Ab)∧w'.cell? (Th.add ((bf).toNat * 5))=some (.int .i64 ((ta Ca bf).f0))∧w'.cell? ⟨(Th.add ((bf).toNat * 5)).block,(Th.add ((bf).toNat * 5)).off + 1,none⟩=some (.int .i64 ((ta Ca bf).f1))∧w'.cell? ⟨(Th.add ((bf).toNat * 5)).block,(Th.add ((bf).toNat * 5)).off + 2,none⟩=some (.int .i64 ((ta Ca bf).f2))∧w'.cell? ⟨(Th.add ((bf).toNat * 5)).block,(Th.add ((bf).toNat * 5)).off + 3,none⟩=some (.int .i64 ((ta Ca bf).f3))∧w'.cell? ⟨(Th.add ((bf).toNat * 5)).block,(Th.add ((bf).toNat * 5)).off + 4,none⟩=some (.int .i64 ((ta Ca bf).f4))) (ds:=[]) #[false,false,false,false,false,false,false,false] (by kernel_rfl) rfl rfl ⟨(ya Ba.out 0).trans rfl,(ya Ba.out 1).trans rfl,(ya Ba.out 2).trans rfl,(ya Ba.out 3).trans rfl,(Ya HB.out pq),(Ya HB.out oq),(Ya HB.out mq),(Ya HB.out lq),(Ya HB.out jq)⟩ (fun hHeld=>?_);refine mo mb.XL mb.uH (fun vm XD=>?_);generalize wr.drew=w28 at Ba HB cl bl Zk Yk Xk hHeld ⊢;refine Ai (i:=1) (N:=some 53) (v:=?_) (a':=?_) #[false,true,false,false,false,false,false,false] rfl rfl (Zg vm.out (by kernel_rfl)) (fun _ _ _ h=>h) (Or.inl ⟨by rfl,?_⟩) ?_ ?_;rotate_left
             ·intro w';go_simp;with_reducible rfl
             rotate_left
             ·simp only [Act.put,List.setIfInBounds_toArray,List.set_cons_zero,List.set_cons_succ,He,Pe]
              rfl
             refine Ai (i:=3) (N:=some 55) (v:=?_) (a':=?_) #[false,true,false,true,false,false,false,false] rfl rfl (Zg vm.out (by kernel_rfl)) (fun _ _ _ h=>h) (Or.inl ⟨by rfl,?_⟩) ?_ ?_;rotate_left
             ·intro w';go_simp;with_reducible rfl
             rotate_left
             ·simp only [Act.put,List.setIfInBounds_toArray,List.set_cons_zero,List.set_cons_succ,He,Pe]
              rfl
             refine Vl (i:=0) (N:=some 52) (v:=?_) (a':=?_) #[true,true,false,true,false,false,false,false] rfl rfl (gj vm.out XD.out (by kernel_rfl)) (fun _ _ _ h=>h) (Or.inl ⟨by rfl,?_⟩) hHeld ?_ ?_;rotate_left
             ·rintro w' ⟨s0,s1,s2,s3,s4,s5,s6,s7,s8⟩;go_simp;with_reducible rfl
             rotate_left
             ·simp only [Act.put,List.setIfInBounds_toArray,List.set_cons_zero,List.set_cons_succ,He,Pe]
              rfl
             refine Vl (i:=2) (N:=some 54) (v:=?_) (a':=?_) #[true,true,true,true,false,false,false,false] rfl rfl (gj vm.out XD.out (by kernel_rfl)) (fun _ _ _ h=>h) (Or.inl ⟨by rfl,?_⟩) hHeld ?_ ?_;rotate_left
             ·rintro w' ⟨s0,s1,s2,s3,s4,s5,s6,s7,s8⟩;go_simp;with_reducible rfl
             rotate_left
             ·simp only [Act.put,List.setIfInBounds_toArray,List.set_cons_zero,List.set_cons_succ,He,Pe]
              rfl
             refine Ai (i:=4) (N:=some 56) (v:=?_) (a':=?_) #[true,true,true,true,true,false,false,false] rfl rfl (Zg vm.out (by kernel_rfl)) (fun _ _ _ h=>h) (Or.inl ⟨by rfl,?_⟩) ?_ ?_;rotate_left
             ·intro w';go_simp;with_reducible rfl
             rotate_left
             ·simp only [Act.put,List.setIfInBounds_toArray,List.set_cons_zero,List.set_cons_succ,He,Pe]
              rfl
             refine Vl (i:=5) (N:=some 57) (v:=?_) (a':=?_) #[true,true,true,true,true,true,false,false] rfl rfl (gj vm.out XD.out (by kernel_rfl)) (fun _ _ _ h=>h) (Or.inl ⟨by rfl,?_⟩) hHeld ?_ ?_;rotate_left
             ·rintro w' ⟨s0,s1,s2,s3,s4,s5,s6,s7,s8⟩;go_simp;with_reducible rfl
             rotate_left
             ·simp only [Act.put,List.setIfInBounds_toArray,List.set_cons_zero,List.set_cons_succ,He,Pe]
              rfl
             refine gD (i:=6) (N:=some 58) #[true,true,true,true,true,true,true,false] rfl rfl (dw vm.out (by kernel_rfl)) (by decide) (fun K hK=>?_);refine Hv Try.func91 (by kernel_rfl) rfl #[.agg #[.slice zb Sa.length yb,.int .i64 Qa,.int .i64 Ra,.slice (some Th) Ca.length Ab],.agg #[.int .i64 ((ta Ca bf).f0),.int .i64 ((ta Ca bf).f1),.int .i64 ((ta Ca bf).f2),.int .i64 ((ta Ca bf).f3),.int .i64 ((ta Ca bf).f4)]] (by rfl) rfl rfl (by (try simp only [List.map_toArray,List.map_cons,List.map_nil]);first|done|rfl|(simp only [List.length_drop,List.length_take];rfl)) ?_;with_reducible refine (Bb.calls k3 _ _ Sa Qa Ra _ _ Ca ((ta Ca bf).f0) ((ta Ca bf).f1) ((ta Ca bf).f2) ((ta Ca bf).f3) ((ta Ca bf).f4) true _ ?Oc ?Nc ?we ?Ce RZ.out).mono ?_
             (case Oc=>repeat (first|exact (Kd.jc Ff.out HB.out)|(with_reducible refine Kd.yc ?_ _)|(with_reducible refine Kd.uc ?_ _)|(with_reducible refine Kd.Uc ?_)))
             (case Nc=>exact Xf.out)
             (case we=>repeat (first|exact (Kd.jc Je.out HB.out)|(with_reducible refine Kd.yc ?_ _)|(with_reducible refine Kd.uc ?_ _)|(with_reducible refine Kd.Uc ?_)))
             (case Ce=>exact Pg.out)
             rintro e lE ⟨rfl,hb⟩;refine ⟨_,rfl,?_⟩;have Ub:=aa.mk (Oa (g:=Fa) (o:=.cells #[.slice zb Sa.length yb,.int .i64 Qa,.int .i64 Ra,.slice (some Th) Ca.length Ab] 30 (0,0)) (by (with_reducible repeat (first|refine oa ?_ _|refine za ?_|refine qa ?_ _));exact Ba.out) hb);have Wb:=aa.mk (Va (by repeat (first|(with_reducible first|exact HB.out|apply ua|apply ga|apply Aa|refine ja ?_ Ua.out)|exact HB.out)) hb);clear Ba HB;have Ba:=Ub;have HB:=Wb;clear Ub Wb;(try clear hb);(try clear Fk);(try clear hk);(try clear hi);refine hK.out _ _ ⟨(ya Ba.out 0).trans rfl,(ya Ba.out 1).trans rfl,(ya Ba.out 2).trans rfl,(ya Ba.out 3).trans rfl,(Ya HB.out pq),(Ya HB.out oq),(Ya HB.out mq),(Ya HB.out lq),(Ya HB.out jq)⟩ (fun hHeld=>?_);clear hK K;refine vv (a':=?_) ?_ ?_;rotate_left
             ·show Act.put _ (some 58) _=_
              simp only [Act.put,List.setIfInBounds_toArray,List.set_cons_zero,List.set_cons_succ,He,Pe]
              rfl
             refine Ai (i:=7) (N:=some 59) (v:=?_) (a':=?_) #[true,true,true,true,true,true,true,true] rfl rfl (Zg vm.out (by kernel_rfl)) (fun _ _ _ h=>h) (Or.inl ⟨by rfl,?_⟩) ?_ ?_;rotate_left
             ·intro w';go_simp;with_reducible rfl
             rotate_left
             ·simp only [Act.put,List.setIfInBounds_toArray,List.set_cons_zero,List.set_cons_succ,He,Pe]
              rfl
             refine pz (Ut vm.out (by kernel_rfl)) ?_
             try go_wp2
             go_roundg k3
             case measure=>have:=si.out;have:=HJ8.out;have:=NL.out;omega
             case rel=>exact ⟨(wrap64 (bf + 1)),(by first|rfl|(simp;done)|(simp [*];done)),H',⟨by have:=si.out;have:=HJ8.out;have:=NL.out;omega⟩,⟨by (with_reducible repeat (first|refine oa ?_ _|refine za ?_|refine qa ?_ _));exact Ba.out⟩,⟨by repeat (first|(with_reducible first|exact HB.out|apply ua|apply ga|apply Aa|refine ja ?_ Ua.out)|exact HB.out)⟩⟩
            ·replace Mu:=Bool.eq_false_iff.mpr Mu;subst Mu;have H1:(some false)=some r:=by rw [if_neg (show ¬ (false=true) by decide)] at H;exact H
             clear H;have H:=H1;clear H1;obtain rfl:=Option.some.inj H
             try go_wp2
             have Ub:=aa.mk (za Ba.out);have Wb:=aa.mk (Aa HB.out);clear Ba HB;have Ba:=Ub;have HB:=Wb;clear Ub Wb;have Xz:0 ≤ (bf:Int):=of_decide_eq_true (by first|(with_reducible assumption)|assumption);have Uz:bf < (Ca.length:Int):=of_decide_eq_true (by first|(with_reducible assumption)|assumption);obtain ⟨Th,KO,cl,bl,Zk,Yk,Xk⟩:=Yd Je.out bf Xz Uz;have jq:=Xk;have lq:=Yk;have mq:=Zk;have oq:=bl;have pq:=cl;cases KO;replace cl:=Ya HB.out cl;replace bl:=Ya HB.out bl;replace Zk:=Ya HB.out Zk;replace Yk:=Ya HB.out Yk;replace Xk:=Ya HB.out Xk;replace Xz:=eq_true Xz;replace Uz:=eq_true Uz;refine au (n:=8) (S:=fun w'=>w'.cell? ⟨Fa,0,none⟩=some (.slice zb Sa.length yb)∧w'.cell? ⟨Fa,1,none⟩=some (.int .i64 Qa)∧w'.cell? ⟨Fa,2,none⟩=some (.int .i64 Ra)∧w'.cell? ⟨Fa,3,none⟩=some (.slice (some Th) Ca.length Ab)∧w'.cell? (Th.add ((bf).toNat * 5))=some (.int .i64 ((ta Ca bf).f0))∧w'.cell? ⟨(Th.add ((bf).toNat * 5)).block,(Th.add ((bf).toNat * 5)).off + 1,none⟩=some (.int .i64 ((ta Ca bf).f1))∧w'.cell? ⟨(Th.add ((bf).toNat * 5)).block,(Th.add ((bf).toNat * 5)).off + 2,none⟩=some (.int .i64 ((ta Ca bf).f2))∧w'.cell? ⟨(Th.add ((bf).toNat * 5)).block,(Th.add ((bf).toNat * 5)).off + 3,none⟩=some (.int .i64 ((ta Ca bf).f3))∧w'.cell? ⟨(Th.add ((bf).toNat * 5)).block,(Th.add ((bf).toNat * 5)).off + 4,none⟩=some (.int .i64 ((ta Ca bf).f4))) (ds:=[]) #[false,false,false,false,false,false,false,false] (by kernel_rfl) rfl rfl ⟨(ya Ba.out 0).trans rfl,(ya Ba.out 1).trans rfl,(ya Ba.out 2).trans rfl,(ya Ba.out 3).trans rfl,(Ya HB.out pq),(Ya HB.out oq),(Ya HB.out mq),(Ya HB.out lq),(Ya HB.out jq)⟩ (fun hHeld=>?_);refine mo mb.XL mb.uH (fun vm XD=>?_);generalize wr.drew=w30 at Ba HB cl bl Zk Yk Xk hHeld ⊢;refine Ai (i:=1) (N:=some 53) (v:=?_) (a':=?_) #[false,true,false,false,false,false,false,false] rfl rfl (Zg vm.out (by kernel_rfl)) (fun _ _ _ h=>h) (Or.inl ⟨by rfl,?_⟩) ?_ ?_;rotate_left
             ·intro w';go_simp;with_reducible rfl
             rotate_left
             ·simp only [Act.put,List.setIfInBounds_toArray,List.set_cons_zero,List.set_cons_succ,He,Pe]
              rfl
             refine Ai (i:=3) (N:=some 55) (v:=?_) (a':=?_) #[false,true,false,true,false,false,false,false] rfl rfl (Zg vm.out (by kernel_rfl)) (fun _ _ _ h=>h) (Or.inl ⟨by rfl,?_⟩) ?_ ?_;rotate_left
             ·intro w';go_simp;with_reducible rfl
             rotate_left
             ·simp only [Act.put,List.setIfInBounds_toArray,List.set_cons_zero,List.set_cons_succ,He,Pe]
              rfl
             refine Vl (i:=0) (N:=some 52) (v:=?_) (a':=?_) #[true,true,false,true,false,false,false,false] rfl rfl (gj vm.out XD.out (by kernel_rfl)) (fun _ _ _ h=>h) (Or.inl ⟨by rfl,?_⟩) hHeld ?_ ?_;rotate_left
             ·rintro w' ⟨s0,s1,s2,s3,s4,s5,s6,s7,s8⟩;go_simp;with_reducible rfl
             rotate_left
             ·simp only [Act.put,List.setIfInBounds_toArray,List.set_cons_zero,List.set_cons_succ,He,Pe]
              rfl
             refine Vl (i:=2) (N:=some 54) (v:=?_) (a':=?_) #[true,true,true,true,false,false,false,false] rfl rfl (gj vm.out XD.out (by kernel_rfl)) (fun _ _ _ h=>h) (Or.inl ⟨by rfl,?_⟩) hHeld ?_ ?_;rotate_left
             ·rintro w' ⟨s0,s1,s2,s3,s4,s5,s6,s7,s8⟩;go_simp;with_reducible rfl
             rotate_left
             ·simp only [Act.put,List.setIfInBounds_toArray,List.set_cons_zero,List.set_cons_succ,He,Pe]
              rfl
             refine Ai (i:=4) (N:=some 56) (v:=?_) (a':=?_) #[true,true,true,true,true,false,false,false] rfl rfl (Zg vm.out (by kernel_rfl)) (fun _ _ _ h=>h) (Or.inl ⟨by rfl,?_⟩) ?_ ?_;rotate_left
             ·intro w';go_simp;with_reducible rfl
             rotate_left
             ·simp only [Act.put,List.setIfInBounds_toArray,List.set_cons_zero,List.set_cons_succ,He,Pe]
              rfl
             refine Vl (i:=5) (N:=some 57) (v:=?_) (a':=?_) #[true,true,true,true,true,true,false,false] rfl rfl (gj vm.out XD.out (by kernel_rfl)) (fun _ _ _ h=>h) (Or.inl ⟨by rfl,?_⟩) hHeld ?_ ?_;rotate_left
             ·rintro w' ⟨s0,s1,s2,s3,s4,s5,s6,s7,s8⟩;go_simp;with_reducible rfl
             rotate_left
             ·simp only [Act.put,List.setIfInBounds_toArray,List.set_cons_zero,List.set_cons_succ,He,Pe]
              rfl
             refine gD (i:=6) (N:=some 58) #[true,true,true,true,true,true,true,false] rfl rfl (dw vm.out (by kernel_rfl)) (by decide) (fun K hK=>?_);refine Hv Try.func91 (by kernel_rfl) rfl #[.agg #[.slice zb Sa.length yb,.int .i64 Qa,.int .i64 Ra,.slice (some Th) Ca.length Ab],.agg #[.int .i64 ((ta Ca bf).f0),.int .i64 ((ta Ca bf).f1),.int .i64 ((ta Ca bf).f2),.int .i64 ((ta Ca bf).f3),.int .i64 ((ta Ca bf).f4)]] (by rfl) rfl rfl (by (try simp only [List.map_toArray,List.map_cons,List.map_nil]);first|done|rfl|(simp only [List.length_drop,List.length_take];rfl)) ?_;with_reducible refine (Bb.calls k3 _ _ Sa Qa Ra _ _ Ca ((ta Ca bf).f0) ((ta Ca bf).f1) ((ta Ca bf).f2) ((ta Ca bf).f3) ((ta Ca bf).f4) false _ ?Oc ?Nc ?we ?Ce RZ.out).mono ?_
             (case Oc=>repeat (first|exact (Kd.jc Ff.out HB.out)|(with_reducible refine Kd.yc ?_ _)|(with_reducible refine Kd.uc ?_ _)|(with_reducible refine Kd.Uc ?_)))
             (case Nc=>exact Xf.out)
             (case we=>repeat (first|exact (Kd.jc Je.out HB.out)|(with_reducible refine Kd.yc ?_ _)|(with_reducible refine Kd.uc ?_ _)|(with_reducible refine Kd.Uc ?_)))
             (case Ce=>exact Pg.out)
             rintro e GP ⟨rfl,hb⟩;refine ⟨_,rfl,?_⟩;have Ub:=aa.mk (Oa (g:=Fa) (o:=.cells #[.slice zb Sa.length yb,.int .i64 Qa,.int .i64 Ra,.slice (some Th) Ca.length Ab] 30 (0,0)) (by (with_reducible repeat (first|refine oa ?_ _|refine za ?_|refine qa ?_ _));exact Ba.out) hb);have Wb:=aa.mk (Va (by repeat (first|(with_reducible first|exact HB.out|apply ua|apply ga|apply Aa|refine ja ?_ Ua.out)|exact HB.out)) hb);clear Ba HB;have Ba:=Ub;have HB:=Wb;clear Ub Wb;(try clear hb);(try clear Fk);(try clear hk);(try clear hi);refine hK.out _ _ ⟨(ya Ba.out 0).trans rfl,(ya Ba.out 1).trans rfl,(ya Ba.out 2).trans rfl,(ya Ba.out 3).trans rfl,(Ya HB.out pq),(Ya HB.out oq),(Ya HB.out mq),(Ya HB.out lq),(Ya HB.out jq)⟩ (fun hHeld=>?_);clear hK K;refine vv (a':=?_) ?_ ?_;rotate_left
             ·show Act.put _ (some 58) _=_
              simp only [Act.put,List.setIfInBounds_toArray,List.set_cons_zero,List.set_cons_succ,He,Pe]
              rfl
             refine Ai (i:=7) (N:=some 59) (v:=?_) (a':=?_) #[true,true,true,true,true,true,true,true] rfl rfl (Zg vm.out (by kernel_rfl)) (fun _ _ _ h=>h) (Or.inl ⟨by rfl,?_⟩) ?_ ?_;rotate_left
             ·intro w';go_simp;with_reducible rfl
             rotate_left
             ·simp only [Act.put,List.setIfInBounds_toArray,List.set_cons_zero,List.set_cons_succ,He,Pe]
              rfl
             refine pz (Ut vm.out (by kernel_rfl)) ?_
             try go_wp2
             go_ret;exact ⟨by first|rfl|(simp [Xa,Wa] <;> rfl)|(simp [*,Xa,Wa] <;> rfl),by repeat (first|(with_reducible first|exact HB.out|apply ua|apply ga|apply Aa|refine ja ?_ Ua.out)|exact HB.out)⟩
           ·rw [if_neg qH] at H;exact absurd H (by simp)
          ·rw [if_neg Xu] at H;exact absurd H (by simp)
         ·rw [if_neg ov] at H;have Lv:decide (bf < (Ca.length:Int))=false:=decide_eq_false ov;clear ov;obtain ⟨Fl,fz⟩:∃ j_:Int,(wrap64 ((Ca.length:Int) - 1))=j_:=⟨_,rfl⟩;replace H:(if 0 ≤ (Fl) then (if (Fl) < (Ca.length:Int) then (if ((ta Ca (Fl)).f0)=10 then (some true) else (some (((ta Ca (Fl)).f0) == 8))) else (none)) else (none))=some r:=by first|(rw [fz] at H;exact H)|(simp only [fz] at H ⊢;exact H)
          have p4:(IntKind.i64.wrap ((Ca.length:Int) - 1))=Fl:=(He _).trans fz
          by_cases lH:0 ≤ (Fl)
          ·rw [if_pos lH] at H;have saa:decide (0 ≤ (Fl))=true:=decide_eq_true lH;clear lH
           by_cases kH:(Fl) < (Ca.length:Int)
           ·rw [if_pos kH] at H;have raa:decide ((Fl) < (Ca.length:Int))=true:=decide_eq_true kH;clear kH
            by_cases XO:((ta Ca (Fl)).f0)=10
            ·rw [if_pos XO] at H;have dU:(((ta Ca (Fl)).f0) == 10)=true:=beq_iff_eq.mpr XO;have cU:(((ta Ca (Fl)).f0) != 10)=false:=bne_eq_false_iff_eq.mpr XO;clear XO;obtain rfl:=Option.some.inj H;have dL:wr.cell? ⟨Fa,0,none⟩=some (.slice zb Sa.length yb):=(ya Ba.out 0).trans rfl;have cL:wr.cell? ⟨Fa,1,none⟩=some (.int .i64 Qa):=(ya Ba.out 1).trans rfl;have bL:wr.cell? ⟨Fa,2,none⟩=some (.int .i64 Ra):=(ya Ba.out 2).trans rfl;have ZK:wr.cell? ⟨Fa,3,none⟩=some (.slice Kb Ca.length Ab):=(ya Ba.out 3).trans rfl;have FJ:=ia Ba.out 0;have EJ:=ia Ba.out 1;have DJ:=ia Ba.out 2;have CJ:=ia Ba.out 3;have Wz:0 ≤ ((Fl):Int):=of_decide_eq_true (by first|(with_reducible assumption)|assumption);have Tz:(Fl) < (Ca.length:Int):=of_decide_eq_true (by first|(with_reducible assumption)|assumption);obtain ⟨YM,JO,bq,aq,Zp,Yp,Xp⟩:=Yd Je.out (Fl) Wz Tz;cases JO;replace bq:=Ya HB.out bq;replace aq:=Ya HB.out aq;replace Zp:=Ya HB.out Zp;replace Yp:=Ya HB.out Yp;replace Xp:=Ya HB.out Xp;replace Wz:=eq_true Wz;replace Tz:=eq_true Tz;go_wp2;go_ret;exact ⟨by first|rfl|(simp [Xa,Wa] <;> rfl)|(simp only [← fz];first|rfl|(simp [Xa,Wa] <;> rfl))|(simp [*,Xa,Wa] <;> rfl),by repeat (first|(with_reducible first|exact HB.out|apply ua|apply ga|apply Aa|refine ja ?_ Ua.out)|exact HB.out)⟩
            ·rw [if_neg XO] at H;have dU:(((ta Ca (Fl)).f0) == 10)=false:=beq_eq_false_iff_ne.mpr XO;have cU:(((ta Ca (Fl)).f0) != 10)=true:=bne_iff_ne.mpr XO;obtain rfl:=Option.some.inj H;have YK:wr.cell? ⟨Fa,0,none⟩=some (.slice zb Sa.length yb):=(ya Ba.out 0).trans rfl;have XK:wr.cell? ⟨Fa,1,none⟩=some (.int .i64 Qa):=(ya Ba.out 1).trans rfl;have WK:wr.cell? ⟨Fa,2,none⟩=some (.int .i64 Ra):=(ya Ba.out 2).trans rfl;have VK:wr.cell? ⟨Fa,3,none⟩=some (.slice Kb Ca.length Ab):=(ya Ba.out 3).trans rfl;have BJ:=ia Ba.out 0;have AJ:=ia Ba.out 1;have zJ:=ia Ba.out 2;have yJ:=ia Ba.out 3;have Wz:0 ≤ ((Fl):Int):=of_decide_eq_true (by first|(with_reducible assumption)|assumption);have Tz:(Fl) < (Ca.length:Int):=of_decide_eq_true (by first|(with_reducible assumption)|assumption);obtain ⟨YM,JO,bq,aq,Zp,Yp,Xp⟩:=Yd Je.out (Fl) Wz Tz;cases JO;replace bq:=Ya HB.out bq;replace aq:=Ya HB.out aq;replace Zp:=Ya HB.out Zp;replace Yp:=Ya HB.out Yp;replace Xp:=Ya HB.out Xp;replace Wz:=eq_true Wz;replace Tz:=eq_true Tz;have KN:0 ≤ ((Fl):Int):=of_decide_eq_true (by first|(with_reducible assumption)|assumption);have EN:(Fl) < (Ca.length:Int):=of_decide_eq_true (by first|(with_reducible assumption)|assumption);obtain ⟨jU,r6,qB,oB,nB,mB,lB⟩:=Yd Je.out (Fl) KN EN;obtain rfl:YM=jU:=(by injection r6);replace qB:=Ya HB.out qB;replace oB:=Ya HB.out oB;replace nB:=Ya HB.out nB;replace mB:=Ya HB.out mB;replace lB:=Ya HB.out lB;replace KN:=eq_true KN;replace EN:=eq_true EN;go_wp2;go_ret;exact ⟨by first|rfl|(simp [Xa,Wa] <;> rfl)|(simp only [← fz];first|rfl|(simp [Xa,Wa] <;> rfl))|(simp [*,Xa,Wa] <;> rfl),by repeat (first|(with_reducible first|exact HB.out|apply ua|apply ga|apply Aa|refine ja ?_ Ua.out)|exact HB.out)⟩
           ·rw [if_neg kH] at H;exact absurd H (by simp)
          ·rw [if_neg lH] at H;exact absurd H (by simp)
def Zf.f (Le:Int) (Qa:Int) (Ra:Int) (qf:Int) (zf:Int):Option (Bool):=if Le=8 then (some true) else (some (Le == 9))
theorem Zf.calls (Le:Int) (Qa:Int) (Ra:Int) (qf:Int) (zf:Int) (r:Bool) (w:World) (h:Zf.f Le Qa Ra qf zf=some r) :
  Calls Try.prog 54 #[.agg #[.int .i64 Le,.int .i64 Qa,.int .i64 Ra,.int .i64 qf,.int .i64 zf]] w fun e w'=>e = .returned (.bool r)∧Below w.heap.size w w':=by
 have dz:=Try.underlying67;have HB:=aa.mk (Below.refl w.heap.size w);have H:(if Le=8 then (some true) else (some (Le == 9)))=some r:=h;clear h
 by_cases c2:Le=8
 ·rw [if_pos c2] at H;have pH:(Le == 8)=true:=beq_iff_eq.mpr c2;have oH:(Le != 8)=false:=bne_eq_false_iff_eq.mpr c2;clear c2;obtain rfl:=Option.some.inj H;go_enter Try.func54,Try.ntmps54;go_wp2_with (first|((with_reducible refine Rb (N:=1) rfl ?_);refine Pb ?hg (N:=1) ?hd (cs:=#[.int .i64 Le,.int .i64 Qa,.int .i64 Ra,.int .i64 qf,.int .i64 zf]) (t:=67) ?hr ?_;(case hd=>rfl);(case hg=>rfl);(case hr=>first|(go_simp;done)|(go_simp;rfl));intro Fa hg w3 ec hb;have Ub:=aa.mk (Va (by repeat (first|(with_reducible first|exact HB.out|apply ua|apply ga|apply Aa)|exact HB.out)) hb);have Wb:=aa.mk (ec);have ic:=aa.mk ((by rw [hg];exact (Ka (by repeat (first|(with_reducible first|exact HB.out|apply ua|apply ga|apply Aa)|exact HB.out))):w.heap.size ≤ Fa));have mc:=aa.mk ((by rw [hg];exact (Ka (by repeat (first|(with_reducible first|exact HB.out|apply ua|apply ga|apply Aa)|exact HB.out))):w.heap.size ≤ Fa));clear HB;have HB:=Ub;have Ba:=Wb;have qg:=ic;have Ua:=mc;clear Ub Wb ic mc hb ec hg;have X4:w3.cell? ⟨Fa,0,none⟩=some (.int .i64 Le):=(ya Ba.out 0).trans rfl;have W4:w3.cell? ⟨Fa,1,none⟩=some (.int .i64 Qa):=(ya Ba.out 1).trans rfl;have V4:w3.cell? ⟨Fa,2,none⟩=some (.int .i64 Ra):=(ya Ba.out 2).trans rfl;have U4:w3.cell? ⟨Fa,3,none⟩=some (.int .i64 qf):=(ya Ba.out 3).trans rfl;have T4:w3.cell? ⟨Fa,4,none⟩=some (.int .i64 zf):=(ya Ba.out 4).trans rfl;have I4:=ia Ba.out 0;have G4:=ia Ba.out 1;have F4:=ia Ba.out 2;have E4:=ia Ba.out 3;have D4:=ia Ba.out 4));go_ret;exact ⟨by first|rfl|(simp [Xa,Wa] <;> rfl)|(simp [*,Xa,Wa] <;> rfl),by repeat (first|(with_reducible first|exact HB.out|apply ua|apply ga|apply Aa|refine ja ?_ Ua.out)|exact HB.out)⟩
 ·rw [if_neg c2] at H;have pH:(Le == 8)=false:=beq_eq_false_iff_ne.mpr c2;have oH:(Le != 8)=true:=bne_iff_ne.mpr c2;obtain rfl:=Option.some.inj H;go_enter Try.func54,Try.ntmps54;go_wp2_with (first|((with_reducible refine Rb (N:=1) rfl ?_);refine Pb ?hg (N:=1) ?hd (cs:=#[.int .i64 Le,.int .i64 Qa,.int .i64 Ra,.int .i64 qf,.int .i64 zf]) (t:=67) ?hr ?_;(case hd=>rfl);(case hg=>rfl);(case hr=>first|(go_simp;done)|(go_simp;rfl));intro Fa hg w5 ec hb;have Ub:=aa.mk (Va (by repeat (first|(with_reducible first|exact HB.out|apply ua|apply ga|apply Aa)|exact HB.out)) hb);have Wb:=aa.mk (ec);have ic:=aa.mk ((by rw [hg];exact (Ka (by repeat (first|(with_reducible first|exact HB.out|apply ua|apply ga|apply Aa)|exact HB.out))):w.heap.size ≤ Fa));have mc:=aa.mk ((by rw [hg];exact (Ka (by repeat (first|(with_reducible first|exact HB.out|apply ua|apply ga|apply Aa)|exact HB.out))):w.heap.size ≤ Fa));clear HB;have HB:=Ub;have Ba:=Wb;have qg:=ic;have Ua:=mc;clear Ub Wb ic mc hb ec hg;have GA:w5.cell? ⟨Fa,0,none⟩=some (.int .i64 Le):=(ya Ba.out 0).trans rfl;have FA:w5.cell? ⟨Fa,1,none⟩=some (.int .i64 Qa):=(ya Ba.out 1).trans rfl;have EA:w5.cell? ⟨Fa,2,none⟩=some (.int .i64 Ra):=(ya Ba.out 2).trans rfl;have DA:w5.cell? ⟨Fa,3,none⟩=some (.int .i64 qf):=(ya Ba.out 3).trans rfl;have S4:w5.cell? ⟨Fa,4,none⟩=some (.int .i64 zf):=(ya Ba.out 4).trans rfl;have xA:=ia Ba.out 0;have wA:=ia Ba.out 1;have vA:=ia Ba.out 2;have uA:=ia Ba.out 3;have C4:=ia Ba.out 4));go_ret;exact ⟨by first|rfl|(simp [Xa,Wa] <;> rfl)|(simp [*,Xa,Wa] <;> rfl),by repeat (first|(with_reducible first|exact HB.out|apply ua|apply ga|apply Aa|refine ja ?_ Ua.out)|exact HB.out)⟩
def dh.f (Sa:List Int) (Qa:Int) (Ra:Int) (Ca:List (Wc)):Option (List Int × Int × Int × (List (Wc))):=(some (([]:List Int):List Int)).bind fun Bf=>(if Bf.length + Sa.length < 17592186044416 then ((some (([]:List (Wc)):List (Wc))).bind fun Tk=>(if Tk.length + Ca.length < 3518437208883 then (some ((Bf ++ Sa),Qa,Ra,(Tk ++ Ca))) else (none))) else (none))
theorem dh.calls (zb:Option Addr) (yb:Nat) (Sa:List Int) (Qa:Int) (Ra:Int) (Kb:Option Addr) (Ab:Nat) (Ca:List (Wc)) (r1:List Int) (r2:Int) (r3:Int) (r4:List (Wc)) (w:World) (Ef:Kd.C (Kd.int .i64) w zb Sa.length Sa) (uf:Sa.length ≤ yb) (Df:Kd.C bg w Kb Ca.length Ca) (tf:Ca.length ≤ Ab) (h:dh.f Sa Qa Ra Ca=some (r1,r2,r3,r4)) :
  Calls Try.prog 62 #[.agg #[.slice zb Sa.length yb,.int .i64 Qa,.int .i64 Ra,.slice Kb Ca.length Ab]] w fun e w'=>∃ qp yy:Value,e = .returned (.agg #[qp,.int .i64 r2,.int .i64 r3,yy])∧Kd.R (Kd.int .i64) 3 w' w.heap.size (fun _=>True) qp r1∧Kd.R bg 67 w' w.heap.size (fun _=>True) yy r4∧Below w.heap.size w w':=by
 have su:=Try.underlying30;have Ff:=aa.mk Ef;have Xf:=aa.mk uf;clear Ef uf;have Je:=aa.mk Df;have Pg:=aa.mk tf;clear Df tf;have HB:=aa.mk (Below.refl w.heap.size w);have H:((some (([]:List Int):List Int)).bind fun Bf=>(if Bf.length + Sa.length < 17592186044416 then ((some (([]:List (Wc)):List (Wc))).bind fun Tk=>(if Tk.length + Ca.length < 3518437208883 then (some ((Bf ++ Sa),Qa,Ra,(Tk ++ Ca))) else (none))) else (none)))=some (r1,r2,r3,r4):=h;clear h;obtain ⟨Bf,Rn⟩:∃ y_:List Int,y_=(([]:List Int)):=⟨_,rfl⟩;replace H:(if Bf.length + Sa.length < 17592186044416 then ((some (([]:List (Wc)):List (Wc))).bind fun Tk=>(if Tk.length + Ca.length < 3518437208883 then (some ((Bf ++ Sa),Qa,Ra,(Tk ++ Ca))) else (none))) else (none))=some (r1,r2,r3,r4):=by first|(rw [Rn];with_reducible exact H)|(have Cf:=(Option.bind_some _ _).symm.trans H;rw [Rn];with_reducible exact Cf)|(have Cf:=(Option.bind_some _ _).symm.trans H;with_reducible exact Cf)|with_reducible exact H|(rw [Rn];exact H)|exact H
 have QC:=aa.mk Rn;clear Rn
 by_cases c2:Bf.length + Sa.length < 17592186044416
 ·rw [if_pos c2] at H;have kP:=aa.mk c2;clear c2;obtain ⟨Ro,Pn⟩:∃ y_:List Int,y_=(Bf ++ Sa):=⟨_,rfl⟩;replace H:((some (([]:List (Wc)):List (Wc))).bind fun Tk=>(if Tk.length + Ca.length < 3518437208883 then (some (Ro,Qa,Ra,(Tk ++ Ca))) else (none)))=some (r1,r2,r3,r4):=by first|(rw [Pn];with_reducible exact H)|(have Cf:=(Option.bind_some _ _).symm.trans H;rw [Pn];with_reducible exact Cf)|(have Cf:=(Option.bind_some _ _).symm.trans H;with_reducible exact Cf)|with_reducible exact H|(rw [Pn];exact H)|exact H
  have yH:=aa.mk Pn;clear Pn;obtain ⟨Tk,Lk⟩:∃ y_:List (Wc),y_=(([]:List (Wc))):=⟨_,rfl⟩;replace H:(if Tk.length + Ca.length < 3518437208883 then (some (Ro,Qa,Ra,(Tk ++ Ca))) else (none))=some (r1,r2,r3,r4):=by first|(rw [Lk];with_reducible exact H)|(have Cf:=(Option.bind_some _ _).symm.trans H;rw [Lk];with_reducible exact Cf)|(have Cf:=(Option.bind_some _ _).symm.trans H;with_reducible exact Cf)|with_reducible exact H|(rw [Lk];exact H)|exact H
  have Qv:=aa.mk Lk;clear Lk
  by_cases c3:Tk.length + Ca.length < 3518437208883
  ·rw [if_pos c3] at H;have jP:=aa.mk c3;clear c3;obtain ⟨Sv,Nn⟩:∃ y_:List (Wc),y_=(Tk ++ Ca):=⟨_,rfl⟩;replace H:(some (Ro,Qa,Ra,Sv))=some (r1,r2,r3,r4):=by first|(rw [Nn];with_reducible exact H)|(have Cf:=(Option.bind_some _ _).symm.trans H;rw [Nn];with_reducible exact Cf)|(have Cf:=(Option.bind_some _ _).symm.trans H;with_reducible exact Cf)|with_reducible exact H|(rw [Nn];exact H)|exact H
   have PC:=aa.mk Nn;clear Nn;simp only [Option.some.injEq,Prod.mk.injEq] at H;obtain ⟨rfl,rfl,rfl,rfl⟩:=H;go_enter Try.func62,Try.ntmps62;go_wp2_with (first|((with_reducible refine Rb (N:=1) rfl ?_);refine Pb ?hg (N:=1) ?hd (cs:=#[.slice zb Sa.length yb,.int .i64 Qa,.int .i64 Ra,.slice Kb Ca.length Ab]) (t:=30) ?hr ?_;(case hd=>rfl);(case hg=>rfl);(case hr=>first|(go_simp;done)|(go_simp;rfl));intro Fa hg w4 ec hb;have Ub:=aa.mk (Va (by repeat (first|(with_reducible first|exact HB.out|apply ua|apply ga|apply Aa)|exact HB.out)) hb);have Wb:=aa.mk (ec);have ic:=aa.mk ((by rw [hg];exact (Ka (by repeat (first|(with_reducible first|exact HB.out|apply ua|apply ga|apply Aa)|exact HB.out))):w.heap.size ≤ Fa));have mc:=aa.mk ((by rw [hg];exact (Ka (by repeat (first|(with_reducible first|exact HB.out|apply ua|apply ga|apply Aa)|exact HB.out))):w.heap.size ≤ Fa));clear HB;have HB:=Ub;have Ba:=Wb;have qg:=ic;have Ua:=mc;clear Ub Wb ic mc hb ec hg)|((with_reducible refine Rb (N:=2) rfl ?_);refine Pb ?hg (N:=2) ?hd (cs:=#[.slice none 0 0,.int .i64 0,.int .i64 0,.slice none 0 0]) (t:=30) ?hr ?_;(case hd=>rfl);(case hg=>rfl);(case hr=>first|(go_simp;done)|(go_simp;rfl));intro Ma hg w5 ec hb;have Ub:=aa.mk (Oa (g:=Fa) (o:=.cells #[.slice zb Sa.length yb,.int .i64 Qa,.int .i64 Ra,.slice Kb Ca.length Ab] 30 (0,0)) (by (with_reducible repeat (first|refine oa ?_ _|refine za ?_|refine qa ?_ _));exact Ba.out) hb);have Wb:=aa.mk (Va (by repeat (first|(with_reducible first|exact HB.out|apply ua|apply ga|apply Aa|refine ja ?_ Ua.out)|exact HB.out)) hb);have ic:=aa.mk (ec);have mc:=aa.mk ((by rw [hg];exact (Ka (by repeat (first|(with_reducible first|exact HB.out|apply ua|apply ga|apply Aa|refine ja ?_ Ua.out)|exact HB.out))):w.heap.size ≤ Ma));have Xc:=aa.mk ((by rw [hg];exact (Ka (by repeat (first|(with_reducible first|exact HB.out|apply ua|apply ga|apply Aa|refine ja ?_ Ua.out)|exact HB.out))):w.heap.size ≤ Ma));have yd:=aa.mk ((by rw [hg];exact Nat.ne_of_lt (Nb (g:=Fa) (o:=.cells #[.slice zb Sa.length yb,.int .i64 Qa,.int .i64 Ra,.slice Kb Ca.length Ab] 30 (0,0)) (by (with_reducible repeat (first|refine oa ?_ _|refine za ?_|refine qa ?_ _));exact Ba.out)):Fa ≠ Ma));have Gd:=aa.mk ((by rw [hg];exact Nat.ne_of_gt (Nb (g:=Fa) (o:=.cells #[.slice zb Sa.length yb,.int .i64 Qa,.int .i64 Ra,.slice Kb Ca.length Ab] 30 (0,0)) (by (with_reducible repeat (first|refine oa ?_ _|refine za ?_|refine qa ?_ _));exact Ba.out)):Ma ≠ Fa));clear Ba HB;have Ba:=Ub;have HB:=Wb;have Ia:=ic;have Yj:=mc;have Ib:=Xc;have Tb:=yd;have Sb:=Gd;clear Ub Wb ic mc Xc yd Gd hb ec hg;have V2:=Tb.out;have K1:=Sb.out;have ax:w5.cell? ⟨Fa,0,none⟩=some (.slice zb Sa.length yb):=(ya Ba.out 0).trans rfl;have Zw:w5.cell? ⟨Fa,1,none⟩=some (.int .i64 Qa):=(ya Ba.out 1).trans rfl;have Yw:w5.cell? ⟨Fa,2,none⟩=some (.int .i64 Ra):=(ya Ba.out 2).trans rfl;have Xw:w5.cell? ⟨Fa,3,none⟩=some (.slice Kb Ca.length Ab):=(ya Ba.out 3).trans rfl;have zw:=ia Ba.out 0;have yw:=ia Ba.out 1;have xw:=ia Ba.out 2;have vw:=ia Ba.out 3)|((with_reducible refine Rb (N:=3) rfl ?_);refine Pb ?hg (N:=3) ?hd (cs:=#[.slice none 0 0,.int .i64 0,.int .i64 0,.slice none 0 0]) (t:=30) ?hr ?_;(case hd=>rfl);(case hg=>rfl);(case hr=>first|(go_simp;done)|(go_simp;rfl));intro ze hg w8 ec hb;have Ub:=aa.mk (Oa (g:=Fa) (o:=.cells #[.slice zb Sa.length yb,.int .i64 Qa,.int .i64 Ra,.slice Kb Ca.length Ab] 30 (0,0)) (by (with_reducible repeat (first|refine oa ?_ _|refine za ?_|refine qa ?_ _));exact Ba.out) hb);have Wb:=aa.mk (Oa (g:=Ma) (o:=.cells #[.slice none 0 0,.int .i64 0,.int .i64 0,.slice none 0 0] 30 (0,0)) (by (with_reducible repeat (first|refine oa ?_ _|refine za ?_|refine qa ?_ _));exact Ia.out) hb);have ic:=aa.mk (Va (by repeat (first|(with_reducible first|exact HB.out|apply ua|apply ga|apply Aa|refine ja ?_ Ua.out|refine ja ?_ Ib.out)|exact HB.out)) hb);have mc:=aa.mk (ec);have Xc:=aa.mk ((by rw [hg];exact (Ka (by repeat (first|(with_reducible first|exact HB.out|apply ua|apply ga|apply Aa|refine ja ?_ Ua.out|refine ja ?_ Ib.out)|exact HB.out))):w.heap.size ≤ ze));have yd:=aa.mk ((by rw [hg];exact (Ka (by repeat (first|(with_reducible first|exact HB.out|apply ua|apply ga|apply Aa|refine ja ?_ Ua.out|refine ja ?_ Ib.out)|exact HB.out))):w.heap.size ≤ ze));have Gd:=aa.mk ((by rw [hg];exact Nat.ne_of_lt (Nb (g:=Fa) (o:=.cells #[.slice zb Sa.length yb,.int .i64 Qa,.int .i64 Ra,.slice Kb Ca.length Ab] 30 (0,0)) (by (with_reducible repeat (first|refine oa ?_ _|refine za ?_|refine qa ?_ _));exact Ba.out)):Fa ≠ ze));have Xe:=aa.mk ((by rw [hg];exact Nat.ne_of_gt (Nb (g:=Fa) (o:=.cells #[.slice zb Sa.length yb,.int .i64 Qa,.int .i64 Ra,.slice Kb Ca.length Ab] 30 (0,0)) (by (with_reducible repeat (first|refine oa ?_ _|refine za ?_|refine qa ?_ _));exact Ba.out)):ze ≠ Fa));have Pf:=aa.mk ((by rw [hg];exact Nat.ne_of_lt (Nb (g:=Ma) (o:=.cells #[.slice none 0 0,.int .i64 0,.int .i64 0,.slice none 0 0] 30 (0,0)) (by (with_reducible repeat (first|refine oa ?_ _|refine za ?_|refine qa ?_ _));exact Ia.out)):Ma ≠ ze));have cg:=aa.mk ((by rw [hg];exact Nat.ne_of_gt (Nb (g:=Ma) (o:=.cells #[.slice none 0 0,.int .i64 0,.int .i64 0,.slice none 0 0] 30 (0,0)) (by (with_reducible repeat (first|refine oa ?_ _|refine za ?_|refine qa ?_ _));exact Ia.out)):ze ≠ Ma));clear Ba Ia HB;have Ba:=Ub;have Ia:=Wb;have HB:=ic;have xd:=mc;have mN:=Xc;have Zj:=yd;have Lg:=Gd;have Jm:=Xe;have Qe:=Pf;have Im:=cg;clear Ub Wb ic mc Xc yd Gd Xe Pf cg hb ec hg;have U2:=Jm.out;have I1:=Lg.out;have xR:=Im.out;have iR:=Qe.out;have oL:w8.cell? ⟨ze,0,none⟩=some (.slice none 0 0):=(ya xd.out 0).trans rfl;have nL:w8.cell? ⟨ze,1,none⟩=some (.int .i64 0):=(ya xd.out 1).trans rfl;have mL:w8.cell? ⟨ze,2,none⟩=some (.int .i64 0):=(ya xd.out 2).trans rfl;have kL:w8.cell? ⟨ze,3,none⟩=some (.slice none 0 0):=(ya xd.out 3).trans rfl;have NJ:=ia xd.out 0;have MJ:=ia xd.out 1;have LJ:=ia xd.out 2;have KJ:=ia xd.out 3)|((with_reducible refine Rb (N:=5) rfl ?_);refine Kd.js (Kd.int .i64) _ 3 ?hg (N:=5) ?hd (xs:=([]:List Int)) (inner:=[]) (ok:=fun _=>True) (tn:=fun _=>True) ?hr ?hp (fun _ hk=>hk) trivial (Below.refl _ _) (Nat.le_refl _) (by simp) ?_;(case hd=>rfl);(case hg=>rfl);(case hr=>first|(go_simp;done)|(go_simp;rfl));(case hp=>exact (Ue.none _ _));intro v105 wm SE hb uw Mj;clear uw Mj;(first|rw [← QC.out] at SE|(simp only [Int.reduceToNat] at SE;rw [← QC.out] at SE));have Ub:=aa.mk (Kd.ke SE (Ka (by repeat (first|(with_reducible first|exact HB.out|apply ua|apply ga|apply Aa|refine ja ?_ Ua.out|refine ja ?_ Ib.out|refine ja ?_ Zj.out)|exact HB.out))));have Wb:=aa.mk (Oa (g:=Fa) (o:=.cells #[.slice zb Sa.length yb,.int .i64 Qa,.int .i64 Ra,.slice Kb Ca.length Ab] 30 (0,0)) (by (with_reducible repeat (first|refine oa ?_ _|refine za ?_|refine qa ?_ _));refine Za ?_ Lg.out _;(with_reducible repeat (first|refine oa ?_ _|refine za ?_|refine qa ?_ _));refine Za ?_ Lg.out _;(with_reducible repeat (first|refine oa ?_ _|refine za ?_|refine qa ?_ _));refine Za ?_ Lg.out _;(with_reducible repeat (first|refine oa ?_ _|refine za ?_|refine qa ?_ _));refine Za ?_ Lg.out _;(with_reducible repeat (first|refine oa ?_ _|refine za ?_|refine qa ?_ _));exact Ba.out) hb);have ic:=aa.mk (Oa (g:=Ma) (o:=.cells #[.slice none 0 0,.int .i64 0,.int .i64 0,.slice none 0 0] 30 (0,0)) (by (with_reducible repeat (first|refine oa ?_ _|refine za ?_|refine qa ?_ _));refine Za ?_ Qe.out _;(with_reducible repeat (first|refine oa ?_ _|refine za ?_|refine qa ?_ _));refine Za ?_ Qe.out _;(with_reducible repeat (first|refine oa ?_ _|refine za ?_|refine qa ?_ _));refine Za ?_ Qe.out _;(with_reducible repeat (first|refine oa ?_ _|refine za ?_|refine qa ?_ _));refine Za ?_ Qe.out _;(with_reducible repeat (first|refine oa ?_ _|refine za ?_|refine qa ?_ _));exact Ia.out) hb);have mc:=aa.mk (Oa (g:=ze) (o:=.cells #[.slice zb Sa.length yb,.int .i64 Qa,.int .i64 Ra,.slice Kb Ca.length Ab] 30 (0,0)) (by (with_reducible repeat (first|refine oa ?_ _|refine za ?_|refine qa ?_ _));refine Ob (cs:=#[.slice zb Sa.length yb,.int .i64 Qa,.int .i64 Ra,.slice none 0 0]) ?_ 3 _ rfl;(with_reducible repeat (first|refine oa ?_ _|refine za ?_|refine qa ?_ _));refine Ob (cs:=#[.slice zb Sa.length yb,.int .i64 Qa,.int .i64 0,.slice none 0 0]) ?_ 2 _ rfl;(with_reducible repeat (first|refine oa ?_ _|refine za ?_|refine qa ?_ _));refine Ob (cs:=#[.slice zb Sa.length yb,.int .i64 0,.int .i64 0,.slice none 0 0]) ?_ 1 _ rfl;(with_reducible repeat (first|refine oa ?_ _|refine za ?_|refine qa ?_ _));refine Ob (cs:=#[.slice none 0 0,.int .i64 0,.int .i64 0,.slice none 0 0]) ?_ 0 _ rfl;(with_reducible repeat (first|refine oa ?_ _|refine za ?_|refine qa ?_ _));exact xd.out) hb);have Xc:=aa.mk (Va (by repeat (first|(with_reducible first|exact HB.out|apply ua|apply ga|apply Aa|refine ja ?_ Ua.out|refine ja ?_ Ib.out|refine ja ?_ Zj.out)|exact HB.out)) hb);clear Ba Ia xd HB;have ko:=Ub;have Ba:=Wb;have Ia:=ic;have xd:=mc;have HB:=Xc;clear Ub Wb ic mc Xc hb SE;have Oo:wm.cell? ⟨Fa,0,none⟩=some (.slice zb Sa.length yb):=(ya Ba.out 0).trans rfl;have Mo:wm.cell? ⟨Fa,1,none⟩=some (.int .i64 Qa):=(ya Ba.out 1).trans rfl;have Lo:wm.cell? ⟨Fa,2,none⟩=some (.int .i64 Ra):=(ya Ba.out 2).trans rfl;have Ko:wm.cell? ⟨Fa,3,none⟩=some (.slice Kb Ca.length Ab):=(ya Ba.out 3).trans rfl;have Jo:=ia Ba.out 0;have Io:=ia Ba.out 1;have Ho:=ia Ba.out 2;have Fo:=ia Ba.out 3)|((with_reducible refine Ge (b:=.append) (xs:=#[.tmp 5,.tmp 7]) rfl ?_);at_builtin;refine Kd.Gk (Kd.int .i64) (w0:=w) w.heap.size rfl (.tmp 5) (.tmp 7) 22 3 (.int .i64 0) 8 rfl Try.underlying22 info3 rfl (by decide) (by omega) v105 Bf Sa _ _ _ (fun _=>True) (fun _=>False) rfl rfl ?aO ?aR (fun _ _ h=>h) (fun _ h=>h.elim) ?aF ?aB ?aS ?aL ?_;(case aR=>repeat (first|exact (Kd.jc Ff.out HB.out)|(with_reducible refine Kd.yc ?_ _)|(with_reducible refine Kd.uc ?_ _)|(with_reducible refine Kd.Uc ?_)));(case aB=>exact (by repeat (first|(with_reducible first|exact HB.out|apply ua|apply ga|apply Aa|refine ja ?_ Ua.out|refine ja ?_ Ib.out|refine ja ?_ Zj.out)|exact HB.out)));(case aF=>exact (fun _ _=>trivial));(case aO=>exact (by (with_reducible repeat (first|apply Kd.Ea|apply Kd.Da|apply Kd.Ga));exact ko.out));(case aS=>exact (Ka (by repeat (first|(with_reducible first|exact HB.out|apply ua|apply ga|apply Aa|refine ja ?_ Ua.out|refine ja ?_ Ib.out|refine ja ?_ Zj.out)|exact HB.out))));(case aL=>have:=kP.out;omega);intro oQ uy ho hb hg hat;rw [← yH.out] at ho;have Ub:=aa.mk (fc (g:=Fa) (o:=.cells #[.slice zb Sa.length yb,.int .i64 Qa,.int .i64 Ra,.slice Kb Ca.length Ab] 30 (0,0)) (by (with_reducible repeat (first|refine oa ?_ _|refine za ?_|refine qa ?_ _));exact Ba.out) hg (Kd.Ve ko.out Ba.out (by decide)));have Wb:=aa.mk (fc (g:=Ma) (o:=.cells #[.slice none 0 0,.int .i64 0,.int .i64 0,.slice none 0 0] 30 (0,0)) (by (with_reducible repeat (first|refine oa ?_ _|refine za ?_|refine qa ?_ _));exact Ia.out) hg (Kd.Ve ko.out Ia.out (by decide)));have ic:=aa.mk (fc (g:=ze) (o:=.cells #[.slice zb Sa.length yb,.int .i64 Qa,.int .i64 Ra,.slice Kb Ca.length Ab] 30 (0,0)) (by (with_reducible repeat (first|refine oa ?_ _|refine za ?_|refine qa ?_ _));exact xd.out) hg (Kd.Ve ko.out xd.out (by decide)));have mc:=aa.mk (hb);have Xc:=aa.mk (ho);clear Ba Ia xd HB ko;have Ba:=Ub;have Ia:=Wb;have xd:=ic;have HB:=mc;have Pm:=Xc;clear Ub Wb ic mc Xc ho hb hg hat;obtain ⟨bp,Vo,AO⟩:=Kd.Ic Pm.out;subst AO;have DC:uy.cell? ⟨ze,0,none⟩=some (.slice zb Sa.length yb):=(ya xd.out 0).trans rfl;have CC:uy.cell? ⟨ze,1,none⟩=some (.int .i64 Qa):=(ya xd.out 1).trans rfl;have BC:uy.cell? ⟨ze,2,none⟩=some (.int .i64 Ra):=(ya xd.out 2).trans rfl;have zC:uy.cell? ⟨ze,3,none⟩=some (.slice Kb Ca.length Ab):=(ya xd.out 3).trans rfl;have TB:=ia xd.out 0;have SB:=ia xd.out 1;have RB:=ia xd.out 2;have QB:=ia xd.out 3)|((with_reducible refine Rb (N:=10) rfl ?_);refine Kd.js bg _ 67 ?hg (N:=10) ?hd (xs:=([]:List (Wc))) (inner:=[]) (ok:=fun _=>True) (tn:=fun _=>True) ?hr ?hp (fun _ hk=>hk) trivial (Below.refl _ _) (Nat.le_refl _) (by simp) ?_;(case hd=>rfl);(case hg=>rfl);(case hr=>first|(go_simp;done)|(go_simp;rfl));(case hp=>exact (Ue.none _ _));intro nQ Wu QE hb uw Mj;clear uw Mj;(first|rw [← Qv.out] at QE|(simp only [Int.reduceToNat] at QE;rw [← Qv.out] at QE));have Ub:=aa.mk (Kd.gb (by (with_reducible repeat (first|apply Kd.Ea|apply Kd.Da|apply Kd.Ga));exact (Kd.jb (Kd.Ja (p:=⟨ze,0,none⟩) (Kd.Cb Pm.out xd.out (by decide)) (fun _ hk=>hk.2) (.slice bp Ro.length Vo)) (fun _ h_=>h_.1))) hb);have Wb:=aa.mk (Kd.ke QE (Ka (by repeat (first|(with_reducible first|exact HB.out|apply ua|apply ga|apply Aa|refine ja ?_ Ua.out|refine ja ?_ Ib.out|refine ja ?_ Zj.out)|exact HB.out))));have ic:=aa.mk (Oa (g:=Fa) (o:=.cells #[.slice zb Sa.length yb,.int .i64 Qa,.int .i64 Ra,.slice Kb Ca.length Ab] 30 (0,0)) (by (with_reducible repeat (first|refine oa ?_ _|refine za ?_|refine qa ?_ _));refine Za ?_ Lg.out _;(with_reducible repeat (first|refine oa ?_ _|refine za ?_|refine qa ?_ _));exact Ba.out) hb);have mc:=aa.mk (Oa (g:=Ma) (o:=.cells #[.slice none 0 0,.int .i64 0,.int .i64 0,.slice none 0 0] 30 (0,0)) (by (with_reducible repeat (first|refine oa ?_ _|refine za ?_|refine qa ?_ _));refine Za ?_ Qe.out _;(with_reducible repeat (first|refine oa ?_ _|refine za ?_|refine qa ?_ _));exact Ia.out) hb);have Xc:=aa.mk (Oa (g:=ze) (o:=.cells #[.slice bp Ro.length Vo,.int .i64 Qa,.int .i64 Ra,.slice Kb Ca.length Ab] 30 (0,0)) (by (with_reducible repeat (first|refine oa ?_ _|refine za ?_|refine qa ?_ _));refine Ob (cs:=#[.slice zb Sa.length yb,.int .i64 Qa,.int .i64 Ra,.slice Kb Ca.length Ab]) ?_ 0 _ rfl;(with_reducible repeat (first|refine oa ?_ _|refine za ?_|refine qa ?_ _));exact xd.out) hb);have yd:=aa.mk (Va (by repeat (first|(with_reducible first|exact HB.out|apply ua|apply ga|apply Aa|refine ja ?_ Ua.out|refine ja ?_ Ib.out|refine ja ?_ Zj.out)|exact HB.out)) hb);clear Pm Ba Ia xd HB;have Pm:=Ub;have Bs:=Wb;have Ba:=ic;have Ia:=mc;have xd:=Xc;have HB:=yd;clear Ub Wb ic mc Xc yd hb QE;have Uj:Wu.cell? ⟨Fa,0,none⟩=some (.slice zb Sa.length yb):=(ya Ba.out 0).trans rfl;have Tj:Wu.cell? ⟨Fa,1,none⟩=some (.int .i64 Qa):=(ya Ba.out 1).trans rfl;have Sj:Wu.cell? ⟨Fa,2,none⟩=some (.int .i64 Ra):=(ya Ba.out 2).trans rfl;have Rj:Wu.cell? ⟨Fa,3,none⟩=some (.slice Kb Ca.length Ab):=(ya Ba.out 3).trans rfl;have Qj:=ia Ba.out 0;have Pj:=ia Ba.out 1;have Oj:=ia Ba.out 2;have Nj:=ia Ba.out 3)|((with_reducible refine Ge (b:=.append) (xs:=#[.tmp 10,.tmp 12]) rfl ?_);at_builtin;refine Kd.Gk bg (w0:=w) w.heap.size rfl (.tmp 10) (.tmp 12) 28 67 (.agg #[(.int .i64 0),(.int .i64 0),(.int .i64 0),(.int .i64 0),(.int .i64 0)]) 40 rfl Try.underlying28 Gl rfl (by decide) (by omega) nQ Tk Ca _ _ _ (fun _=>True) (fun _=>False) rfl rfl ?aO ?aR (fun _ _ h=>h) (fun _ h=>h.elim) ?aF ?aB ?aS ?aL ?_;(case aR=>repeat (first|exact (Kd.jc Je.out HB.out)|(with_reducible refine Kd.yc ?_ _)|(with_reducible refine Kd.uc ?_ _)|(with_reducible refine Kd.Uc ?_)));(case aB=>exact (by repeat (first|(with_reducible first|exact HB.out|apply ua|apply ga|apply Aa|refine ja ?_ Ua.out|refine ja ?_ Ib.out|refine ja ?_ Zj.out)|exact HB.out)));(case aF=>exact (fun _ _=>trivial));(case aO=>exact (by (with_reducible repeat (first|apply Kd.Ea|apply Kd.Da|apply Kd.Ga));exact Bs.out));(case aS=>exact (Ka (by repeat (first|(with_reducible first|exact HB.out|apply ua|apply ga|apply Aa|refine ja ?_ Ua.out|refine ja ?_ Ib.out|refine ja ?_ Zj.out)|exact HB.out))));(case aL=>have:=jP.out;omega);intro aI Kz ho hb hg hat;rw [← PC.out] at ho;have Ub:=aa.mk (fc (g:=Fa) (o:=.cells #[.slice zb Sa.length yb,.int .i64 Qa,.int .i64 Ra,.slice Kb Ca.length Ab] 30 (0,0)) (by (with_reducible repeat (first|refine oa ?_ _|refine za ?_|refine qa ?_ _));exact Ba.out) hg (Kd.Ve Bs.out Ba.out (by decide)));have Wb:=aa.mk (fc (g:=Ma) (o:=.cells #[.slice none 0 0,.int .i64 0,.int .i64 0,.slice none 0 0] 30 (0,0)) (by (with_reducible repeat (first|refine oa ?_ _|refine za ?_|refine qa ?_ _));exact Ia.out) hg (Kd.Ve Bs.out Ia.out (by decide)));have ic:=aa.mk (fc (g:=ze) (o:=.cells #[.slice bp Ro.length Vo,.int .i64 Qa,.int .i64 Ra,.slice Kb Ca.length Ab] 30 (0,0)) (by (with_reducible repeat (first|refine oa ?_ _|refine za ?_|refine qa ?_ _));exact xd.out) hg (Kd.Ve Bs.out xd.out (by decide)));have mc:=aa.mk (Kd.Qd (by (with_reducible repeat (first|apply Kd.Ea|apply Kd.Da|apply Kd.Ga));exact Pm.out) (Kd.Dc (by (with_reducible repeat (first|apply Kd.Ea|apply Kd.Da|apply Kd.Ga));exact Bs.out)) (by decide) hg);have Xc:=aa.mk (hb);have yd:=aa.mk (ho);clear Ba Ia xd Pm HB Bs;have Ba:=Ub;have Ia:=Wb;have xd:=ic;have Pm:=mc;have HB:=Xc;have Rv:=yd;clear Ub Wb ic mc Xc yd ho hb hg hat;obtain ⟨JH,cH,Z5⟩:=Kd.Ic Rv.out;subst Z5;have Xq:Kz.cell? ⟨ze,0,none⟩=some (.slice bp Ro.length Vo):=(ya xd.out 0).trans rfl;have Wq:Kz.cell? ⟨ze,1,none⟩=some (.int .i64 Qa):=(ya xd.out 1).trans rfl;have Vq:Kz.cell? ⟨ze,2,none⟩=some (.int .i64 Ra):=(ya xd.out 2).trans rfl;have Uq:Kz.cell? ⟨ze,3,none⟩=some (.slice Kb Ca.length Ab):=(ya xd.out 3).trans rfl;have Jq:=ia xd.out 0;have Iq:=ia xd.out 1;have Hq:=ia xd.out 2;have Gq:=ia xd.out 3;have jL:Kz.cell? ⟨Ma,0,none⟩=some (.slice none 0 0):=(ya Ia.out 0).trans rfl;have iL:Kz.cell? ⟨Ma,1,none⟩=some (.int .i64 0):=(ya Ia.out 1).trans rfl;have gL:Kz.cell? ⟨Ma,2,none⟩=some (.int .i64 0):=(ya Ia.out 2).trans rfl;have fL:Kz.cell? ⟨Ma,3,none⟩=some (.slice none 0 0):=(ya Ia.out 3).trans rfl;have JJ:=ia Ia.out 0;have IJ:=ia Ia.out 1;have HJ:=ia Ia.out 2;have GJ:=ia Ia.out 3));refine bodyPost_ret (results_cell_row rfl _ _ Ma 30 #[.slice bp Ro.length Vo,.int .i64 Qa,.int .i64 Ra,.slice JH Sv.length cH] (0,0) _ rfl (by (with_reducible repeat (first|refine oa ?_ _|refine za ?_|refine qa ?_ _));refine Ob (cs:=#[.slice bp Ro.length Vo,.int .i64 Qa,.int .i64 Ra,.slice none 0 0]) ?_ 3 _ rfl;(with_reducible repeat (first|refine oa ?_ _|refine za ?_|refine qa ?_ _));refine Ob (cs:=#[.slice bp Ro.length Vo,.int .i64 Qa,.int .i64 0,.slice none 0 0]) ?_ 2 _ rfl;(with_reducible repeat (first|refine oa ?_ _|refine za ?_|refine qa ?_ _));refine Ob (cs:=#[.slice bp Ro.length Vo,.int .i64 0,.int .i64 0,.slice none 0 0]) ?_ 1 _ rfl;(with_reducible repeat (first|refine oa ?_ _|refine za ?_|refine qa ?_ _));refine Ob (cs:=#[.slice none 0 0,.int .i64 0,.int .i64 0,.slice none 0 0]) ?_ 0 _ rfl;(with_reducible repeat (first|refine oa ?_ _|refine za ?_|refine qa ?_ _));refine Za ?_ Qe.out _;(with_reducible repeat (first|refine oa ?_ _|refine za ?_|refine qa ?_ _));exact Ia.out) Try.underlying30 rfl (by kernel_rfl)) rfl ?_;exact ⟨_,_,by first|rfl|(simp [Xa,Wa] <;> rfl)|(simp [*,Xa,Wa] <;> rfl),by (with_reducible repeat (first|apply Kd.Ea|apply Kd.Da|apply Kd.Ga));exact Kd.jb (Kd.Ja (p:=⟨Ma,3,none⟩) (Kd.Ja (p:=⟨Ma,2,none⟩) (Kd.Ja (p:=⟨Ma,1,none⟩) (Kd.Ja (p:=⟨Ma,0,none⟩) (Kd.Ja (p:=⟨ze,3,none⟩) (Kd.Cb (Kd.Cb Pm.out xd.out (by decide)) Ia.out (by decide)) (fun _ hk=>hk.1.2) (.slice JH Sv.length cH)) (fun _ hk=>hk.2) (.slice bp Ro.length Vo)) (fun _ hk=>hk.2) (.int .i64 Qa)) (fun _ hk=>hk.2) (.int .i64 Ra)) (fun _ hk=>hk.2) (.slice JH Sv.length cH)) (fun _ hk=>trivial),by (with_reducible repeat (first|apply Kd.Ea|apply Kd.Da|apply Kd.Ga));exact Kd.jb (Kd.Ja (p:=⟨Ma,3,none⟩) (Kd.Ja (p:=⟨Ma,2,none⟩) (Kd.Ja (p:=⟨Ma,1,none⟩) (Kd.Ja (p:=⟨Ma,0,none⟩) (Kd.Ja (p:=⟨ze,3,none⟩) (Kd.Cb (Kd.Cb Rv.out xd.out (by decide)) Ia.out (by decide)) (fun _ hk=>hk.1.2) (.slice JH Sv.length cH)) (fun _ hk=>hk.2) (.slice bp Ro.length Vo)) (fun _ hk=>hk.2) (.int .i64 Qa)) (fun _ hk=>hk.2) (.int .i64 Ra)) (fun _ hk=>hk.2) (.slice JH Sv.length cH)) (fun _ hk=>trivial),by repeat (first|(with_reducible first|exact HB.out|apply ua|apply ga|apply Aa|refine ja ?_ Ua.out|refine ja ?_ Ib.out|refine ja ?_ Zj.out)|exact HB.out)⟩
  ·rw [if_neg c3] at H;exact absurd H (by simp)
 ·rw [if_neg c2] at H;exact absurd H (by simp)
theorem vM (d:Nat) (w:World) (x0 y0:Int) (x1 y1:Int) (x2 y2:Int) (x3 y3:Int) (x4 y4:Int) :
  (Op.equalIn (d + 2) 67 (.agg #[.int .i64 x0,.int .i64 x1,.int .i64 x2,.int .i64 x3,.int .i64 x4]) (.agg #[.int .i64 y0,.int .i64 y1,.int .i64 y2,.int .i64 y3,.int .i64 y4])).run Try.prog w = .ok (x0 == y0 && (x1 == y1 && (x2 == y2 && (x3 == y3 && (x4 == y4))))) w:=by
 refine wO Try.underlying67 (by kernel_rfl) ?_;refine gr (by rfl) (by go_simp;rfl) (by go_simp;rfl) (by go_simp) ?_;refine gr (by rfl) (by go_simp;rfl) (by go_simp;rfl) (by go_simp) ?_;refine gr (by rfl) (by go_simp;rfl) (by go_simp;rfl) (by go_simp) ?_;refine gr (by rfl) (by go_simp;rfl) (by go_simp;rfl) (by go_simp) ?_;exact WG (by rfl) (by go_simp;rfl) (by go_simp;rfl) (by go_simp)
end Go.Proofs.Ytoomcmaifgkkfaa.P
end
