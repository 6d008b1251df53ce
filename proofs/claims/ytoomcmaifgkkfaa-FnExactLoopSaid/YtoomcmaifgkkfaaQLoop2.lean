import Derived.Test.YtoomcmaifgkkfaaQLoop1
set_option maxHeartbeats 8000000
set_option maxRecDepth 100000
section
namespace Go.Proofs.Ytoomcmaifgkkfaa.P
open Go.RowKit Go.Proofs.Aa.Db Go.Proofs.Aa.Tc Go.Proofs.Aa.ke
set_option linter.unusedVariables false
set_option linter.unusedSimpArgs false
attribute [local go_sem] fh bh Zh Yh mg lg dh ah
mutual
def ic.j0:Nat→Bool→List Int→Int→Int→Int→List (Wd)→Option (Bool)
 | 0,_,_,_,_,_,_=>none
 | k + 1,x29,Fc,Ec,Dc,Cc,Lb=>if x29=true then (some false) else (ic.l0 k 0 Lb (Lb.length:Int) 0 Fc Ec Dc Cc Lb)
def ic.l0:Nat→Int→List (Wd)→Int→Int→List Int→Int→Int→Int→List (Wd)→Option (Bool)
 | 0,_,_,_,_,_,_,_,_,_=>none
 | k + 1,x3,sO,TH,mE,Fc,Ec,Dc,Cc,Lb=>if mE < TH then (if 0 ≤ mE then (if mE < (sO.length:Int) then ((Mh.f Fc Ec Dc Cc Lb ((Ea sO mE).f0) ((Ea sO mE).f1) ((Ea sO mE).f2) ((Ea sO mE).f3) ((Ea sO mE).f4)).bind fun t107=>(if t107=true then (ic.l0 k (wrap64 (x3 + (((Ea sO mE).f0).length:Int))) sO TH (wrap64 (mE + 1)) Fc Ec Dc Cc Lb) else (some false))) else (none)) else (none)) else (some (decide (x3 ≤ 1000)))
end
def ic.f (k:Nat) (Ma:List Int) (Oa:Int) (Pa:Int) (Na:Int) (oa:List (Wd)):Option (Bool):=(Pf.f Ma Oa Pa ([]:List (Cu))).bind fun t102=>(if t102=true then ((Gi.f Na Pa 1000).bind fun t103=>(if t103=true then ((Gi.f (oa.length:Int) 1 300).bind fun t104=>(ic.j0 k (!t104) Ma Oa Pa Na oa)) else (ic.j0 k true Ma Oa Pa Na oa))) else (ic.j0 k true Ma Oa Pa Na oa))
theorem ic.calls (k:Nat) (zb:Option Addr) (yb:Nat) (Ma:List Int) (Oa:Int) (Pa:Int) (Na:Int) (Ob:Option Addr) (Fb:Nat) (oa:List (Wd)) (r:Bool) (w:World) (qd:Kd.C (Kd.int .i64) w zb Ma.length Ma) (Ad:Ma.length ≤ yb) (fe:Kd.C Km w Ob oa.length oa) (Fe:oa.length ≤ Fb) (h:ic.f k Ma Oa Pa Na oa=some r) :
  Calls Try.prog 71 #[.agg #[.slice zb Ma.length yb,.int .i64 Oa,.int .i64 Pa,.int .i64 Na,.slice Ob oa.length Fb]] w fun e w'=>e = .returned (.bool r)∧Below w.heap.size w w':=by
 have gD:=Try.underlying45;have Lab:=Try.underlying100;have Sy:=Try.underlying83;have Ng:=aa.mk qd;have Pg:=aa.mk Ad;clear qd Ad;have Dh:=aa.mk fe;have bk:=aa.mk Fe;clear fe Fe;have HB:=aa.mk (Below.refl w.heap.size w);have H:((Pf.f Ma Oa Pa ([]:List (Cu))).bind fun t102=>(if t102=true then ((Gi.f Na Pa 1000).bind fun t103=>(if t103=true then ((Gi.f (oa.length:Int) 1 300).bind fun t104=>(ic.j0 k (!t104) Ma Oa Pa Na oa)) else (ic.j0 k true Ma Oa Pa Na oa))) else (ic.j0 k true Ma Oa Pa Na oa)))=some r:=h;clear h;have PU:=aa.mk H;clear H;go_enter Try.func71,Try.ntmps71
 go_upto_region 1 with (first|((with_reducible refine Qb (N:=1) rfl ?_);(try (refine xm (by rfl) ?_;dsimp only));refine Ic ?hg (N:=1) ?hd (cs:=#[.slice zb Ma.length yb,.int .i64 Oa,.int .i64 Pa,.int .i64 Na,.slice Ob oa.length Fb]) (t:=45) ?hr ?_;(case hd|hg=>rfl);(case hr=>exact jaj);intro Ka hg w3 Bd hb;have Pb:=aa.mk (Ga maj hb);have Rb:=aa.mk (Bd);have Yb:=aa.mk ((by rw [hg];exact (Qa maj):w.heap.size ≤ Ka));have Vc:=aa.mk ((by rw [hg];exact (Qa maj):w.heap.size ≤ Ka));clear HB;have HB:=Pb;have qa:=Rb;have Vf:=Yb;have Xa:=Vc;clear Pb Rb Yb Vc hb Bd hg))
 (try simp only [Act.put,List.setIfInBounds_toArray,List.set_cons_zero,List.set_cons_succ])
 go_cut [29] (fun v29 wc=>∃ (kq:Nat) (nE:Bool),v29 = .bool nE∧aa (ic.j0 kq nE Ma Oa Pa Na oa=some r)∧aa (kq ≤ k)∧aa (wc.heap[Ka]? = some (.cells #[(.slice zb Ma.length yb),.int .i64 Oa,.int .i64 Pa,.int .i64 Na,(.slice Ob oa.length Fb)] 45 (0,0)))∧aa (Below w.heap.size w wc))
 case first =>
  have H:=PU.out;clear PU;replace H:=Option.bind_eq_some_iff.mp H;obtain ⟨t102,uQ,H⟩:=H
  try dsimp only at H
  have A4:=aa.mk uQ;clear uQ
  by_cases c5:t102=true
  ·subst c5;rw [if_pos rfl] at H;replace H:=Option.bind_eq_some_iff.mp H;obtain ⟨t103,tQ,H⟩:=H
   try dsimp only at H
   have A6:=aa.mk tQ;clear tQ
   by_cases c7:t103=true
   ·subst c7;rw [if_pos rfl] at H;replace H:=Option.bind_eq_some_iff.mp H;obtain ⟨t104,sQ,H⟩:=H
    try dsimp only at H
    have A8:=aa.mk sQ;clear sQ;have H':=aa.mk H;clear H;obtain ⟨Bl,Al,zl,yl,xl,vl,ql,jl,gl,fl⟩:=Gz qa.out;go_wp2_with (first|((with_reducible refine Kb (f:=93) rfl ?_);refine ie (some 13) rfl rfl Try.func93 (by kernel_rfl) rfl #[.agg #[.slice zb Ma.length yb,.int .i64 Oa,.int .i64 Pa,.slice none 0 0]] rfl paj ?_;(refine (Pf.calls _ _ Ma Oa Pa _ _ ([]:List (Cu)) true _ ?Oc ?Nc ?Si ?Ri A4.out).mono ?_);(case Oc=>repeat (first|exact (Kd.Za Ng.out HB.out)|(with_reducible refine Kd.Gd ?_ _)|(with_reducible refine Kd.Ed ?_ _)|(with_reducible refine Kd.He ?_)));(case Nc=>exact Pg.out);(case Si=>exact Kd.rG _ _);(case Ri=>exact Nat.le_refl _);rintro e wv ⟨rfl,hb⟩;refine ⟨_,rfl,?_⟩;have Pb:=aa.mk (Ta (g:=Ka) (o:=.cells #[.slice zb Ma.length yb,.int .i64 Oa,.int .i64 Pa,.int .i64 Na,.slice Ob oa.length Fb] 45 (0,0)) naj hb);have Rb:=aa.mk (Ga laj hb);clear qa HB;have qa:=Pb;have HB:=Rb;clear Pb Rb;(try clear hb);(try clear Cl);(try clear hk);(try clear hi);have MF:wv.cell? ⟨Ka,0,none⟩=some (.slice zb Ma.length yb):=(ya qa.out 0).trans rfl;have LF:wv.cell? ⟨Ka,1,none⟩=some (.int .i64 Oa):=(ya qa.out 1).trans rfl;have KF:wv.cell? ⟨Ka,2,none⟩=some (.int .i64 Pa):=(ya qa.out 2).trans rfl;have JF:wv.cell? ⟨Ka,3,none⟩=some (.int .i64 Na):=(ya qa.out 3).trans rfl;have GF:wv.cell? ⟨Ka,4,none⟩=some (.slice Ob oa.length Fb):=(ya qa.out 4).trans rfl;have uF:=za qa.out 0;have sF:=za qa.out 1;have rF:=za qa.out 2;have qF:=za qa.out 3;have pF:=za qa.out 4)|(go_at_call 94;(with_reducible refine (Gi.calls Na Pa 1000 true _ A6.out).mono ?_);rintro e w' ⟨rfl,⟨nd,rfl⟩⟩)|(go_at_call 94;(with_reducible refine (Gi.calls (oa.length:Int) 1 300 t104 _ A8.out).mono ?_);rintro e w' ⟨rfl,⟨nd,rfl⟩⟩))
    go_meet
    case rel=>exact ⟨_,(!t104),raj,H',⟨by first|omega|exact Nat.le_refl _⟩,⟨saj⟩,⟨oaj⟩⟩
   ·replace c7:=Bool.eq_false_iff.mpr c7;subst c7;rw [if_neg (show ¬ (false=true) by decide)] at H;have H':=aa.mk H;clear H;obtain ⟨Rj,Qj,Pj,Oj,Mj,Lj,Kj,Jj,Ij,Hj⟩:=Gz qa.out;go_wp2_with (first|((with_reducible refine Kb (f:=93) rfl ?_);refine ie (some 13) rfl rfl Try.func93 (by kernel_rfl) rfl #[.agg #[.slice zb Ma.length yb,.int .i64 Oa,.int .i64 Pa,.slice none 0 0]] rfl paj ?_;(refine (Pf.calls _ _ Ma Oa Pa _ _ ([]:List (Cu)) true _ ?Oc ?Nc ?Si ?Ri A4.out).mono ?_);(case Oc=>repeat (first|exact (Kd.Za Ng.out HB.out)|(with_reducible refine Kd.Gd ?_ _)|(with_reducible refine Kd.Ed ?_ _)|(with_reducible refine Kd.He ?_)));(case Nc=>exact Pg.out);(case Si=>exact Kd.rG _ _);(case Ri=>exact Nat.le_refl _);rintro e jA ⟨rfl,hb⟩;refine ⟨_,rfl,?_⟩;have Pb:=aa.mk (Ta (g:=Ka) (o:=.cells #[.slice zb Ma.length yb,.int .i64 Oa,.int .i64 Pa,.int .i64 Na,.slice Ob oa.length Fb] 45 (0,0)) naj hb);have Rb:=aa.mk (Ga laj hb);clear qa HB;have qa:=Pb;have HB:=Rb;clear Pb Rb;(try clear hb);(try clear Cl);(try clear hk);(try clear hi);have Kv:jA.cell? ⟨Ka,0,none⟩=some (.slice zb Ma.length yb):=(ya qa.out 0).trans rfl;have Jv:jA.cell? ⟨Ka,1,none⟩=some (.int .i64 Oa):=(ya qa.out 1).trans rfl;have Iv:jA.cell? ⟨Ka,2,none⟩=some (.int .i64 Pa):=(ya qa.out 2).trans rfl;have Hv:jA.cell? ⟨Ka,3,none⟩=some (.int .i64 Na):=(ya qa.out 3).trans rfl;have Gv:jA.cell? ⟨Ka,4,none⟩=some (.slice Ob oa.length Fb):=(ya qa.out 4).trans rfl;have Fv:=za qa.out 0;have Dv:=za qa.out 1;have Cv:=za qa.out 2;have Bv:=za qa.out 3;have Av:=za qa.out 4)|(go_at_call 94;(with_reducible refine (Gi.calls Na Pa 1000 false _ A6.out).mono ?_);rintro e w' ⟨rfl,⟨nd,rfl⟩⟩))
    go_meet
    case rel=>exact ⟨_,(true),raj,H',⟨by first|omega|exact Nat.le_refl _⟩,⟨saj⟩,⟨oaj⟩⟩
  ·replace c5:=Bool.eq_false_iff.mpr c5;subst c5;rw [if_neg (show ¬ (false=true) by decide)] at H;have H':=aa.mk H;clear H;obtain ⟨FF,EF,DF,CF,BF,oF,nF,mF,lF,kF⟩:=Gz qa.out;go_wp2_with (first|((with_reducible refine Kb (f:=93) rfl ?_);refine ie (some 13) rfl rfl Try.func93 (by kernel_rfl) rfl #[.agg #[.slice zb Ma.length yb,.int .i64 Oa,.int .i64 Pa,.slice none 0 0]] rfl paj ?_;(refine (Pf.calls _ _ Ma Oa Pa _ _ ([]:List (Cu)) false _ ?Oc ?Nc ?Si ?Ri A4.out).mono ?_);(case Oc=>repeat (first|exact (Kd.Za Ng.out HB.out)|(with_reducible refine Kd.Gd ?_ _)|(with_reducible refine Kd.Ed ?_ _)|(with_reducible refine Kd.He ?_)));(case Nc=>exact Pg.out);(case Si=>exact Kd.rG _ _);(case Ri=>exact Nat.le_refl _);rintro e E5 ⟨rfl,hb⟩;refine ⟨_,rfl,?_⟩;have Pb:=aa.mk (Ta (g:=Ka) (o:=.cells #[.slice zb Ma.length yb,.int .i64 Oa,.int .i64 Pa,.int .i64 Na,.slice Ob oa.length Fb] 45 (0,0)) naj hb);have Rb:=aa.mk (Ga laj hb);clear qa HB;have qa:=Pb;have HB:=Rb;clear Pb Rb;(try clear hb);(try clear Cl);(try clear hk);(try clear hi)))
   go_meet
   case rel=>exact ⟨_,(true),raj,H',⟨by first|omega|exact Nat.le_refl _⟩,⟨saj⟩,⟨oaj⟩⟩
 case rest =>
  clear PU
  try clear p2
  try clear c5
  try clear c7
  try clear c9
  try clear MF
  try clear LF
  try clear KF
  try clear JF
  try clear GF
  try clear Rj
  try clear Qj
  try clear Pj
  try clear Oj
  try clear Mj
  try clear Kv
  try clear Jv
  try clear Iv
  try clear Hv
  try clear Gv
  try clear FF
  try clear EF
  try clear DF
  try clear CF
  try clear BF
  try clear Bl
  try clear Al
  try clear zl
  try clear yl
  try clear xl
  try clear uF
  try clear sF
  try clear rF
  try clear qF
  try clear pF
  try clear Lj
  try clear Kj
  try clear Jj
  try clear Ij
  try clear Hj
  try clear Fv
  try clear Dv
  try clear Cv
  try clear Bv
  try clear Av
  try clear oF
  try clear nF
  try clear mF
  try clear lF
  try clear kF
  try clear vl
  try clear ql
  try clear jl
  try clear gl
  try clear fl
  obtain ⟨kq,nE,rfl,HA,HJ1,qa,HB⟩:=hcut;cases kq with
  | zero=>exact absurd HA.out (by simp [ic.j0])
  | succ kj1 =>
   have H:=HA.out;clear HA;simp only [ic.j0] at H
   by_cases Yw:nE=true
   ·subst Yw;rw [if_pos rfl] at H;obtain rfl:=Option.some.inj H;go_wp2;go_ret;exact ⟨taj,oaj⟩
   ·replace Yw:=Bool.eq_false_iff.mpr Yw;subst Yw;rw [if_neg (show ¬ (false=true) by decide)] at H;have H':=aa.mk H;clear H;obtain ⟨AF,zF,yF,xF,wF,jF,iF,gF,fF,eF⟩:=Gz qa.out;go_wp2
    go_loopg [3,33] kj1 (fun kq v3 v33 w'=>∃ (jj:Int) (xd:Int),v3 = .int .i64 jj∧v33 = .int .i64 xd∧aa (ic.l0 kq jj oa (oa.length:Int) xd Ma Oa Pa Na oa=some r)∧aa (kq ≤ kj1)∧aa (w'.heap[Ka]? = some (.cells #[(.slice zb Ma.length yb),.int .i64 Oa,.int .i64 Pa,.int .i64 Na,(.slice Ob oa.length Fb)] 45 (0,0)))∧aa (Below w.heap.size w w'))
    case atStart=>exact ⟨(0),(0),raj,raj,H',⟨Nat.le_refl _⟩,⟨saj⟩,⟨oaj⟩⟩
    case round =>
     clear H'
     try clear c1
     try clear p2
     try clear c5
     try clear c7
     try clear c9
     try clear Yw
     try clear MF
     try clear LF
     try clear KF
     try clear JF
     try clear GF
     try clear Rj
     try clear Qj
     try clear Pj
     try clear Oj
     try clear Mj
     try clear Kv
     try clear Jv
     try clear Iv
     try clear Hv
     try clear Gv
     try clear FF
     try clear EF
     try clear DF
     try clear CF
     try clear BF
     try clear AF
     try clear zF
     try clear yF
     try clear xF
     try clear wF
     try clear Bl
     try clear Al
     try clear zl
     try clear yl
     try clear xl
     try clear uF
     try clear sF
     try clear rF
     try clear qF
     try clear pF
     try clear Lj
     try clear Kj
     try clear Jj
     try clear Ij
     try clear Hj
     try clear Fv
     try clear Dv
     try clear Cv
     try clear Bv
     try clear Av
     try clear oF
     try clear nF
     try clear mF
     try clear lF
     try clear kF
     try clear jF
     try clear iF
     try clear gF
     try clear fF
     try clear eF
     try clear vl
     try clear ql
     try clear jl
     try clear gl
     try clear fl
     try clear p2
     (try clear HA);(try clear aj);(try clear qa);(try clear HB);obtain ⟨jj,xd,rfl,rfl,HA,aj,qa,HB⟩:=hrel;cases gk with
     | zero=>exact absurd HA.out (by simp [ic.l0])
     | succ k2 =>
      have H:=HA.out;clear HA;simp only [ic.l0] at H
      by_cases Hz:xd < (oa.length:Int)
      ·rw [if_pos Hz] at H;have VF:decide (xd < (oa.length:Int))=true:=decide_eq_true Hz;clear Hz
       by_cases DC:0 ≤ xd
       ·rw [if_pos DC] at H;have kK:decide (0 ≤ xd)=true:=decide_eq_true DC;clear DC
        by_cases qA:xd < (oa.length:Int)
        ·rw [if_pos qA] at H;have UB:decide (xd < (oa.length:Int))=true:=decide_eq_true qA;clear qA;replace H:=Option.bind_eq_some_iff.mp H;obtain ⟨t107,fL,H⟩:=H
         try dsimp only at H
         have vQ:=aa.mk fL;clear fL
         by_cases Qn:t107=true
         ·subst Qn;rw [if_pos rfl] at H;have H':=aa.mk H;clear H;have YC:0 ≤ (xd:Int):=Ja;have VC:xd < (oa.length:Int):=Ja;obtain ⟨eo,wk,uk,aT,Ks,Js,Hs,Gs,Fs,Xs,jt⟩:=Vj Dh.out xd YC VC;cases aT;replace Ks:=Jb HB.out Ks;replace Js:=Jb HB.out Js;replace Hs:=Jb HB.out Hs;replace Gs:=Jb HB.out Gs;replace Fs:=Jb HB.out Fs;have Zz:=aa.mk jt;have eA:=aa.mk Xs;clear jt Xs;replace YC:=eq_true YC;replace VC:=eq_true VC;go_wp2_with (first|((with_reducible refine Qb (N:=5) rfl ?_);(try (refine xm (by rfl) ?_;dsimp only));refine Ic ?hg (N:=5) ?hd (cs:=#[.slice none 0 0,.int .i64 0,.int .i64 0,.int .i64 0,.int .i64 0]) (t:=83) ?hr ?_;(case hd|hg=>rfl);(case hr=>exact jaj);intro Ui hg kL Bd hb;have Pb:=aa.mk (Ta (g:=Ka) (o:=.cells #[.slice zb Ma.length yb,.int .i64 Oa,.int .i64 Pa,.int .i64 Na,.slice (some eo) oa.length Fb] 45 (0,0)) naj hb);have Rb:=aa.mk (Ga laj hb);have Yb:=aa.mk (Bd);have Vc:=aa.mk ((by rw [hg];exact (Qa laj):w.heap.size ≤ Ui));have Df:=aa.mk ((by rw [hg];exact (Qa laj):w.heap.size ≤ Ui));have Qg:=aa.mk ((by rw [hg];exact Nat.ne_of_lt (Te (g:=Ka) (o:=.cells #[.slice zb Ma.length yb,.int .i64 Oa,.int .i64 Pa,.int .i64 Na,.slice (some eo) oa.length Fb] 45 (0,0)) naj):Ka ≠ Ui));have dr:=aa.mk ((by rw [hg];exact Nat.ne_of_gt (Te (g:=Ka) (o:=.cells #[.slice zb Ma.length yb,.int .i64 Oa,.int .i64 Pa,.int .i64 Na,.slice (some eo) oa.length Fb] 45 (0,0)) naj):Ui ≠ Ka));clear qa HB;have qa:=Pb;have HB:=Rb;have Eh:=Yb;have eZ:=Vc;have lq:=Df;have Hg:=Qg;have Fu:=dr;clear Pb Rb Yb Vc Df Qg dr hb Bd hg;have bac:=Fu.out;have Vab:=Hg.out;have C3:kL.cell? ⟨Ui,0,none⟩=some (.slice none 0 0):=(ya Eh.out 0).trans rfl;have o3:kL.cell? ⟨Ui,1,none⟩=some (.int .i64 0):=(ya Eh.out 1).trans rfl;have j3:kL.cell? ⟨Ui,2,none⟩=some (.int .i64 0):=(ya Eh.out 2).trans rfl;have Z2:kL.cell? ⟨Ui,3,none⟩=some (.int .i64 0):=(ya Eh.out 3).trans rfl;have Y2:kL.cell? ⟨Ui,4,none⟩=some (.int .i64 0):=(ya Eh.out 4).trans rfl;have W0:=za Eh.out 0;have V0:=za Eh.out 1;have U0:=za Eh.out 2;have S0:=za Eh.out 3;have Q0:=za Eh.out 4;have X2:kL.cell? ⟨Ka,0,none⟩=some (.slice zb Ma.length yb):=(ya qa.out 0).trans rfl;have V2:kL.cell? ⟨Ka,1,none⟩=some (.int .i64 Oa):=(ya qa.out 1).trans rfl;have U2:kL.cell? ⟨Ka,2,none⟩=some (.int .i64 Pa):=(ya qa.out 2).trans rfl;have O2:kL.cell? ⟨Ka,3,none⟩=some (.int .i64 Na):=(ya qa.out 3).trans rfl;have N2:kL.cell? ⟨Ka,4,none⟩=some (.slice (some eo) oa.length Fb):=(ya qa.out 4).trans rfl;have P0:=za qa.out 0;have O0:=za qa.out 1;have N0:=za qa.out 2;have M0:=za qa.out 3;have L0:=za qa.out 4)|((with_reducible refine Kb (f:=104) rfl ?_);refine ie (some 44) rfl rfl Try.func104 (by kernel_rfl) rfl #[.agg #[.slice zb Ma.length yb,.int .i64 Oa,.int .i64 Pa,.int .i64 Na,.slice (some eo) oa.length Fb],.agg #[.slice wk ((Ea oa xd).f0).length uk,.int .i64 ((Ea oa xd).f1),.int .i64 ((Ea oa xd).f2),.int .i64 ((Ea oa xd).f3),.int .i64 ((Ea oa xd).f4)]] rfl paj ?_;(with_reducible refine (Mh.calls _ _ Ma Oa Pa Na _ _ oa _ _ ((Ea oa xd).f0) ((Ea oa xd).f1) ((Ea oa xd).f2) ((Ea oa xd).f3) ((Ea oa xd).f4) true _ ?Oc ?Nc ?Si ?Ri ?IA ?GA vQ.out).mono ?_);(case Oc=>exact Kd.Za Ng.out Eaj);(case Nc=>exact Pg.out);(case Si=>exact Kd.Za Dh.out Eaj);(case Ri=>exact bk.out);(case IA=>exact Kd.Za Zz.out Eaj);(case GA=>exact eA.out);rintro e uZ ⟨rfl,hb⟩;refine ⟨_,rfl,?_⟩;have Pb:=aa.mk (Ta (g:=Ka) (o:=.cells #[.slice zb Ma.length yb,.int .i64 Oa,.int .i64 Pa,.int .i64 Na,.slice (some eo) oa.length Fb] 45 (0,0)) Qaj hb);have Rb:=aa.mk (Ta (g:=Ui) (o:=.cells #[.slice wk ((Ea oa xd).f0).length uk,.int .i64 ((Ea oa xd).f1),.int .i64 ((Ea oa xd).f2),.int .i64 ((Ea oa xd).f3),.int .i64 ((Ea oa xd).f4)] 83 (0,0)) zaj hb);have Yb:=aa.mk (Ga Eaj hb);clear qa Eh HB;have qa:=Pb;have Eh:=Rb;have HB:=Yb;clear Pb Rb Yb;(try clear hb);(try clear Cl);(try clear hk);(try clear hi)))
          go_roundg k2
          case measure=>have:=HJ1.out;have:=aj.out;omega
          case rel=>exact ⟨(wrap64 (jj + (((Ea oa xd).f0).length:Int))),(wrap64 (xd + 1)),raj,raj,H',⟨by have:=HJ1.out;have:=aj.out;omega⟩,⟨saj⟩,⟨by repeat (first|(with_reducible first|exact HB.out|apply ia|apply ga|apply ja|refine ta ?_ Xa.out|refine ta ?_ lq.out)|exact HB.out)⟩⟩
         ·replace Qn:=Bool.eq_false_iff.mpr Qn;subst Qn;rw [if_neg (show ¬ (false=true) by decide)] at H;obtain rfl:=Option.some.inj H;have YC:0 ≤ (xd:Int):=Ja;have VC:xd < (oa.length:Int):=Ja;obtain ⟨eo,wk,uk,aT,Ks,Js,Hs,Gs,Fs,Xs,jt⟩:=Vj Dh.out xd YC VC;cases aT;replace Ks:=Jb HB.out Ks;replace Js:=Jb HB.out Js;replace Hs:=Jb HB.out Hs;replace Gs:=Jb HB.out Gs;replace Fs:=Jb HB.out Fs;have Zz:=aa.mk jt;have eA:=aa.mk Xs;clear jt Xs;replace YC:=eq_true YC;replace VC:=eq_true VC;go_wp2_with (first|((with_reducible refine Qb (N:=5) rfl ?_);(try (refine xm (by rfl) ?_;dsimp only));refine Ic ?hg (N:=5) ?hd (cs:=#[.slice none 0 0,.int .i64 0,.int .i64 0,.int .i64 0,.int .i64 0]) (t:=83) ?hr ?_;(case hd|hg=>rfl);(case hr=>exact jaj);intro Ui hg jL Bd hb;have Pb:=aa.mk (Ta (g:=Ka) (o:=.cells #[.slice zb Ma.length yb,.int .i64 Oa,.int .i64 Pa,.int .i64 Na,.slice (some eo) oa.length Fb] 45 (0,0)) naj hb);have Rb:=aa.mk (Ga laj hb);have Yb:=aa.mk (Bd);have Vc:=aa.mk ((by rw [hg];exact (Qa laj):w.heap.size ≤ Ui));have Df:=aa.mk ((by rw [hg];exact (Qa laj):w.heap.size ≤ Ui));have Qg:=aa.mk ((by rw [hg];exact Nat.ne_of_lt (Te (g:=Ka) (o:=.cells #[.slice zb Ma.length yb,.int .i64 Oa,.int .i64 Pa,.int .i64 Na,.slice (some eo) oa.length Fb] 45 (0,0)) naj):Ka ≠ Ui));have dr:=aa.mk ((by rw [hg];exact Nat.ne_of_gt (Te (g:=Ka) (o:=.cells #[.slice zb Ma.length yb,.int .i64 Oa,.int .i64 Pa,.int .i64 Na,.slice (some eo) oa.length Fb] 45 (0,0)) naj):Ui ≠ Ka));clear qa HB;have qa:=Pb;have HB:=Rb;have Eh:=Yb;have eZ:=Vc;have lq:=Df;have Hg:=Qg;have Fu:=dr;clear Pb Rb Yb Vc Df Qg dr hb Bd hg;have aac:=Fu.out;have Uab:=Hg.out;have L2:jL.cell? ⟨Ui,0,none⟩=some (.slice none 0 0):=(ya Eh.out 0).trans rfl;have J2:jL.cell? ⟨Ui,1,none⟩=some (.int .i64 0):=(ya Eh.out 1).trans rfl;have I2:jL.cell? ⟨Ui,2,none⟩=some (.int .i64 0):=(ya Eh.out 2).trans rfl;have G2:jL.cell? ⟨Ui,3,none⟩=some (.int .i64 0):=(ya Eh.out 3).trans rfl;have F2:jL.cell? ⟨Ui,4,none⟩=some (.int .i64 0):=(ya Eh.out 4).trans rfl;have K0:=za Eh.out 0;have J0:=za Eh.out 1;have I0:=za Eh.out 2;have G0:=za Eh.out 3;have C0:=za Eh.out 4;have IM:jL.cell? ⟨Ka,0,none⟩=some (.slice zb Ma.length yb):=(ya qa.out 0).trans rfl;have GM:jL.cell? ⟨Ka,1,none⟩=some (.int .i64 Oa):=(ya qa.out 1).trans rfl;have FM:jL.cell? ⟨Ka,2,none⟩=some (.int .i64 Pa):=(ya qa.out 2).trans rfl;have EM:jL.cell? ⟨Ka,3,none⟩=some (.int .i64 Na):=(ya qa.out 3).trans rfl;have DM:jL.cell? ⟨Ka,4,none⟩=some (.slice (some eo) oa.length Fb):=(ya qa.out 4).trans rfl;have oM:=za qa.out 0;have nM:=za qa.out 1;have mM:=za qa.out 2;have lM:=za qa.out 3;have kM:=za qa.out 4)|((with_reducible refine Kb (f:=104) rfl ?_);refine ie (some 44) rfl rfl Try.func104 (by kernel_rfl) rfl #[.agg #[.slice zb Ma.length yb,.int .i64 Oa,.int .i64 Pa,.int .i64 Na,.slice (some eo) oa.length Fb],.agg #[.slice wk ((Ea oa xd).f0).length uk,.int .i64 ((Ea oa xd).f1),.int .i64 ((Ea oa xd).f2),.int .i64 ((Ea oa xd).f3),.int .i64 ((Ea oa xd).f4)]] rfl paj ?_;(with_reducible refine (Mh.calls _ _ Ma Oa Pa Na _ _ oa _ _ ((Ea oa xd).f0) ((Ea oa xd).f1) ((Ea oa xd).f2) ((Ea oa xd).f3) ((Ea oa xd).f4) false _ ?Oc ?Nc ?Si ?Ri ?IA ?GA vQ.out).mono ?_);(case Oc=>exact Kd.Za Ng.out Eaj);(case Nc=>exact Pg.out);(case Si=>exact Kd.Za Dh.out Eaj);(case Ri=>exact bk.out);(case IA=>exact Kd.Za Zz.out Eaj);(case GA=>exact eA.out);rintro e w33 ⟨rfl,hb⟩;refine ⟨_,rfl,?_⟩;have Pb:=aa.mk (Ta (g:=Ka) (o:=.cells #[.slice zb Ma.length yb,.int .i64 Oa,.int .i64 Pa,.int .i64 Na,.slice (some eo) oa.length Fb] 45 (0,0)) Qaj hb);have Rb:=aa.mk (Ta (g:=Ui) (o:=.cells #[.slice wk ((Ea oa xd).f0).length uk,.int .i64 ((Ea oa xd).f1),.int .i64 ((Ea oa xd).f2),.int .i64 ((Ea oa xd).f3),.int .i64 ((Ea oa xd).f4)] 83 (0,0)) zaj hb);have Yb:=aa.mk (Ga Eaj hb);clear qa Eh HB;have qa:=Pb;have Eh:=Rb;have HB:=Yb;clear Pb Rb Yb;(try clear hb);(try clear Cl);(try clear hk);(try clear hi)));go_ret;exact ⟨taj,by repeat (first|(with_reducible first|exact HB.out|apply ia|apply ga|apply ja|refine ta ?_ Xa.out|refine ta ?_ lq.out)|exact HB.out)⟩
        ·rw [if_neg qA] at H;exact absurd H (by simp)
       ·rw [if_neg DC] at H;exact absurd H (by simp)
      ·rw [if_neg Hz] at H;have VF:decide (xd < (oa.length:Int))=false:=decide_eq_false Hz;clear Hz;obtain rfl:=Option.some.inj H;go_wp2;go_ret;exact ⟨taj,oaj⟩
end Go.Proofs.Ytoomcmaifgkkfaa.P
end
section
namespace Go.Proofs.Ytoomcmaifgkkfaa.P
open Go.RowKit Go.Proofs.Aa.Db Go.Proofs.Aa.Tc Go.Proofs.Aa.ke
set_option linter.unusedVariables false
set_option linter.unusedSimpArgs false
open Classical in
noncomputable def Ex (n:Nat) (p:Nat→Prop):Bool:=decide (∀ j,j < n→p j)
open Classical in
theorem uH {n:Nat} {p:Nat→Prop} (h:∀ j,j < n→p j):Ex n p=true:=by
 unfold Ex;exact decide_eq_true h
open Classical in
theorem aC {n:Nat} {p:Nat→Prop}:Ex n p=true ↔ ∀ j,j < n→p j:=by
 unfold Ex;exact decide_eq_true_iff
theorem SD {n i:Nat} {p:Nat→Prop} (hi:i < n) (h:¬ p i):Ex n p=false:=by
 cases e:Ex n p with
 | false=>rfl
 | true=>exact absurd (aC.mp e i hi) h
theorem KS {ρ:Type} {n:Nat} {R e:ρ} (p:Nat→Prop) (f:Nat→Nat→Option ρ) (hend:Ev (f n) R) (hyes:∀ i,i < n→p i→∀ r,Ev (f (i + 1)) r→Ev (f i) r) (hno:∀ i,i < n→¬ p i→Ev (f i) e):Ev (f 0) (bif Ex n p then R else e):=by
 have key:∀ d i,i + d=n→(∀ j,j < i→p j)→Ev (f i) (bif Ex n p then R else e):=by
  intro d
  induction d with
  | zero =>
   intro i hi h;have:i=n:=by omega
   subst this;rw [uH h];exact hend
  | succ d ih =>
   intro i hi h
   by_cases hp:p i
   ·refine hyes i (by omega) hp _ (ih (i + 1) (by omega) ?_);intro j hj
    by_cases hji:j=i
    ·rw [hji];exact hp
    ·exact h j (by omega)
   ·rw [SD (by omega) hp];exact hno i (by omega) hp
 exact key n 0 (by omega) (fun j hj=>absurd hj (by omega))
theorem vH {α:Type} (l:List α) (z:α) (q:α→Bool):Ex l.length (fun j=>q (l.getD j z)=true) = !(l.any fun x=>!q x):=by
 rw [Bool.eq_iff_iff,aC];simp only [Bool.not_eq_true',List.any_eq_false,Bool.not_eq_true',Bool.not_eq_false]
 constructor
 ·intro h x hx;obtain ⟨j,hj,rfl⟩:=List.mem_iff_getElem.mp hx;have:=h j hj;rw [List.getD_eq_getElem?_getD,List.getElem?_eq_getElem hj] at this
  simpa using this
 ·intro h j hj;have:=h l[j] (List.getElem_mem hj);rw [List.getD_eq_getElem?_getD,List.getElem?_eq_getElem hj]
  simpa using this
end Go.Proofs.Ytoomcmaifgkkfaa.P
end
section
namespace Go.Proofs.Ytoomcmaifgkkfaa.P
open Go.RowKit Go.Proofs.Aa.Db Go.Proofs.Aa.Tc Go.Proofs.Aa.ke
set_option linter.unusedVariables false
set_option linter.unusedSimpArgs false
attribute [local go_sem] fh bh Zh Yh mg lg dh ah
def Kh.f (fk:Int) (Oa:Int) (Pa:Int) (Na:Int) (Xd:Int) (Dm:Int) (Wj:ByteArray) (a1:Int):Option (Int):=if (wrap64 (a1 - (Wj.size:Int))) < 0 then (some (-1)) else (some (wrap64 (a1 - (Wj.size:Int))))
theorem Kh.calls (fk:Int) (Oa:Int) (Pa:Int) (Na:Int) (Xd:Int) (Dm:Int) (Wj:ByteArray) (a1:Int) (r:Int) (w:World) (h:Kh.f fk Oa Pa Na Xd Dm Wj a1=some r) :
  Calls Try.prog 134 #[.agg #[.int .i64 fk,.int .i64 Oa,.int .i64 Pa,.int .i64 Na,.int .i64 Xd,.int .i64 Dm,.string Wj],.int .i64 a1] w fun e w'=>e = .returned (.int .i64 r)∧Below w.heap.size w w':=by
 have PI:=Try.underlying141;have HB:=aa.mk (Below.refl w.heap.size w);have H:(if (wrap64 (a1 - (Wj.size:Int))) < 0 then (some (-1)) else (some (wrap64 (a1 - (Wj.size:Int)))))=some r:=h;clear h
 by_cases c3:(wrap64 (a1 - (Wj.size:Int))) < 0
 ·rw [if_pos c3] at H;have Ah:decide ((wrap64 (a1 - (Wj.size:Int))) < 0)=true:=decide_eq_true c3;clear c3;obtain rfl:=Option.some.inj H;go_enter Try.func134,Try.ntmps134;go_wp2_with (first|((with_reducible refine Qb (N:=2) rfl ?_);refine Ic ?hg (N:=2) ?hd (cs:=#[.int .i64 fk,.int .i64 Oa,.int .i64 Pa,.int .i64 Na,.int .i64 Xd,.int .i64 Dm,.string Wj]) (t:=141) ?hr ?_;(case hd|hg=>rfl);(case hr=>exact jaj);intro Ka hg w4 Bd hb;have Pb:=aa.mk (Ga maj hb);have Rb:=aa.mk (Bd);have Yb:=aa.mk ((by rw [hg];exact (Qa maj):w.heap.size ≤ Ka));have Vc:=aa.mk ((by rw [hg];exact (Qa maj):w.heap.size ≤ Ka));clear HB;have HB:=Pb;have qa:=Rb;have Vf:=Yb;have Xa:=Vc;clear Pb Rb Yb Vc hb Bd hg;have wJ:w4.cell? ⟨Ka,0,none⟩=some (.int .i64 fk):=(ya qa.out 0).trans rfl;have vJ:w4.cell? ⟨Ka,1,none⟩=some (.int .i64 Oa):=(ya qa.out 1).trans rfl;have uJ:w4.cell? ⟨Ka,2,none⟩=some (.int .i64 Pa):=(ya qa.out 2).trans rfl;have tJ:w4.cell? ⟨Ka,3,none⟩=some (.int .i64 Na):=(ya qa.out 3).trans rfl;have sJ:w4.cell? ⟨Ka,4,none⟩=some (.int .i64 Xd):=(ya qa.out 4).trans rfl;have Q8:w4.cell? ⟨Ka,5,none⟩=some (.int .i64 Dm):=(ya qa.out 5).trans rfl;have P8:w4.cell? ⟨Ka,6,none⟩=some (.string Wj):=(ya qa.out 6).trans rfl;have gJ:=za qa.out 0;have fJ:=za qa.out 1;have dJ:=za qa.out 2;have cJ:=za qa.out 3;have bJ:=za qa.out 4;have o8:=za qa.out 5;have l8:=za qa.out 6));go_ret;exact ⟨taj,oaj⟩
 ·rw [if_neg c3] at H;have Ah:decide ((wrap64 (a1 - (Wj.size:Int))) < 0)=false:=decide_eq_false c3;clear c3;obtain rfl:=Option.some.inj H;go_enter Try.func134,Try.ntmps134;go_wp2_with (first|((with_reducible refine Qb (N:=2) rfl ?_);refine Ic ?hg (N:=2) ?hd (cs:=#[.int .i64 fk,.int .i64 Oa,.int .i64 Pa,.int .i64 Na,.int .i64 Xd,.int .i64 Dm,.string Wj]) (t:=141) ?hr ?_;(case hd|hg=>rfl);(case hr=>exact jaj);intro Ka hg w6 Bd hb;have Pb:=aa.mk (Ga maj hb);have Rb:=aa.mk (Bd);have Yb:=aa.mk ((by rw [hg];exact (Qa maj):w.heap.size ≤ Ka));have Vc:=aa.mk ((by rw [hg];exact (Qa maj):w.heap.size ≤ Ka));clear HB;have HB:=Pb;have qa:=Rb;have Vf:=Yb;have Xa:=Vc;clear Pb Rb Yb Vc hb Bd hg;have lS:w6.cell? ⟨Ka,0,none⟩=some (.int .i64 fk):=(ya qa.out 0).trans rfl;have kS:w6.cell? ⟨Ka,1,none⟩=some (.int .i64 Oa):=(ya qa.out 1).trans rfl;have jS:w6.cell? ⟨Ka,2,none⟩=some (.int .i64 Pa):=(ya qa.out 2).trans rfl;have iS:w6.cell? ⟨Ka,3,none⟩=some (.int .i64 Na):=(ya qa.out 3).trans rfl;have gS:w6.cell? ⟨Ka,4,none⟩=some (.int .i64 Xd):=(ya qa.out 4).trans rfl;have fS:w6.cell? ⟨Ka,5,none⟩=some (.int .i64 Dm):=(ya qa.out 5).trans rfl;have eS:w6.cell? ⟨Ka,6,none⟩=some (.string Wj):=(ya qa.out 6).trans rfl;have KR:=za qa.out 0;have JR:=za qa.out 1;have GR:=za qa.out 2;have FR:=za qa.out 3;have ER:=za qa.out 4;have DR:=za qa.out 5;have CR:=za qa.out 6));go_ret;exact ⟨taj,oaj⟩
def Yc.l0:Nat→List (Rk)→Int→Int→Option (Int)
 | 0,_,_,_=>none
 | k + 1,x0,x1,x5=>if x5 < (x0.length:Int) then (if 0 ≤ x5 then ((Kh.f ((Ub x0 x5).f0) ((Ub x0 x5).f1) ((Ub x0 x5).f2) ((Ub x0 x5).f3) ((Ub x0 x5).f4) ((Ub x0 x5).f5) ((Ub x0 x5).f6) x1).bind fun t102=>(if t102 < 0 then (some (-1)) else (Yc.l0 k x0 t102 (wrap64 (x5 + 1))))) else (none)) else (some x1)
def Yc.f (k:Nat) (l0:List (Rk)) (a1:Int):Option (Int):=if (wrap64 (a1 - (l0.length:Int))) < 0 then (some (-1)) else (Yc.l0 k l0 (wrap64 (a1 - (l0.length:Int))) 0)
theorem Yc.calls (k:Nat) (A0:Option Addr) (c0:Nat) (l0:List (Rk)) (a1:Int) (r:Int) (w:World) (Hi:Kd.C ow w A0 l0.length l0) (hc0:l0.length ≤ c0) (h:Yc.f k l0 a1=some r) :
  Calls Try.prog 120 #[.slice A0 l0.length c0,.int .i64 a1] w fun e w'=>e = .returned (.int .i64 r)∧Below w.heap.size w w':=by
 have PI:=Try.underlying141;have ak:=aa.mk Hi;have oy:=aa.mk hc0;clear Hi hc0;have HB:=aa.mk (Below.refl w.heap.size w);have H:(if (wrap64 (a1 - (l0.length:Int))) < 0 then (some (-1)) else (Yc.l0 k l0 (wrap64 (a1 - (l0.length:Int))) 0))=some r:=h;clear h
 by_cases c3:(wrap64 (a1 - (l0.length:Int))) < 0
 ·rw [if_pos c3] at H;have Ah:decide ((wrap64 (a1 - (l0.length:Int))) < 0)=true:=decide_eq_true c3;clear c3;obtain rfl:=Option.some.inj H;go_enter Try.func120,Try.ntmps120;go_wp2;go_ret;exact ⟨taj,qaj⟩
 ·rw [if_neg c3] at H;have Ah:decide ((wrap64 (a1 - (l0.length:Int))) < 0)=false:=decide_eq_false c3;clear c3;have H':=aa.mk H;clear H;go_enter Try.func120,Try.ntmps120;go_wp2
  go_loopg [1,5] k (fun kq v1 v5 w'=>∃ (Md:Int) (Da:Int),v1 = .int .i64 Md∧v5 = .int .i64 Da∧aa (Yc.l0 kq l0 Md Da=some r)∧aa (kq ≤ k)∧aa (Below w.heap.size w w'))
  case atStart=>exact ⟨(wrap64 (a1 - (l0.length:Int))),(0),raj,raj,H',⟨Nat.le_refl _⟩,⟨qaj⟩⟩
  case round =>
   clear H'
   try clear c1
   try clear p2
   try clear c3
   try clear Ah
   (try clear HA);(try clear Kf);(try clear HB);obtain ⟨Md,Da,rfl,rfl,HA,Kf,HB⟩:=hrel;cases gk with
   | zero=>exact absurd HA.out (by simp [Yc.l0])
   | succ k1 =>
    have H:=HA.out;clear HA;simp only [Yc.l0] at H
    by_cases c4:Da < (l0.length:Int)
    ·rw [if_pos c4] at H;have zm:decide (Da < (l0.length:Int))=true:=decide_eq_true c4;clear c4
     by_cases c5:0 ≤ Da
     ·rw [if_pos c5] at H;have Rq:decide (0 ≤ Da)=true:=decide_eq_true c5;clear c5;replace H:=Option.bind_eq_some_iff.mp H;obtain ⟨t102,tQ,H⟩:=H
      try dsimp only at H
      have A6:=aa.mk tQ;clear tQ
      by_cases c7:t102 < 0
      ·rw [if_pos c7] at H;have yu:decide (t102 < 0)=true:=decide_eq_true c7;clear c7;obtain rfl:=Option.some.inj H;have Mf:0 ≤ (Da:Int):=Ja;have Lf:Da < (l0.length:Int):=Ja;obtain ⟨Cm,Sj,Cf,Fj,Ej,Dj,Cj,Ts,Ss⟩:=Lz ak.out Da Mf Lf;cases Sj;replace Cf:=Jb HB.out Cf;replace Fj:=Jb HB.out Fj;replace Ej:=Jb HB.out Ej;replace Dj:=Jb HB.out Dj;replace Cj:=Jb HB.out Cj;replace Ts:=Jb HB.out Ts;replace Ss:=Jb HB.out Ss;replace Mf:=eq_true Mf;replace Lf:=eq_true Lf;go_wp2_with (first|((with_reducible refine Kb (f:=134) rfl ?_);refine ie (some 23) rfl rfl Try.func134 (by kernel_rfl) rfl #[.agg #[.int .i64 ((Ub l0 Da).f0),.int .i64 ((Ub l0 Da).f1),.int .i64 ((Ub l0 Da).f2),.int .i64 ((Ub l0 Da).f3),.int .i64 ((Ub l0 Da).f4),.int .i64 ((Ub l0 Da).f5),.string ((Ub l0 Da).f6)],.int .i64 Md] rfl paj ?_;(with_reducible refine (Kh.calls ((Ub l0 Da).f0) ((Ub l0 Da).f1) ((Ub l0 Da).f2) ((Ub l0 Da).f3) ((Ub l0 Da).f4) ((Ub l0 Da).f5) ((Ub l0 Da).f6) Md t102 _ A6.out).mono ?_);rintro e w8 ⟨rfl,hb⟩;refine ⟨_,rfl,?_⟩;have Pb:=aa.mk (Ga maj hb);clear HB;have HB:=Pb;clear Pb;(try clear hb);(try clear Cl);(try clear hk);(try clear hi)));go_ret;exact ⟨taj,qaj⟩
      ·rw [if_neg c7] at H;have yu:decide (t102 < 0)=false:=decide_eq_false c7;clear c7;have H':=aa.mk H;clear H;have Mf:0 ≤ (Da:Int):=Ja;have Lf:Da < (l0.length:Int):=Ja;obtain ⟨Cm,Sj,Cf,Fj,Ej,Dj,Cj,Ts,Ss⟩:=Lz ak.out Da Mf Lf;cases Sj;replace Cf:=Jb HB.out Cf;replace Fj:=Jb HB.out Fj;replace Ej:=Jb HB.out Ej;replace Dj:=Jb HB.out Dj;replace Cj:=Jb HB.out Cj;replace Ts:=Jb HB.out Ts;replace Ss:=Jb HB.out Ss;replace Mf:=eq_true Mf;replace Lf:=eq_true Lf;go_wp2_with (first|((with_reducible refine Kb (f:=134) rfl ?_);refine ie (some 23) rfl rfl Try.func134 (by kernel_rfl) rfl #[.agg #[.int .i64 ((Ub l0 Da).f0),.int .i64 ((Ub l0 Da).f1),.int .i64 ((Ub l0 Da).f2),.int .i64 ((Ub l0 Da).f3),.int .i64 ((Ub l0 Da).f4),.int .i64 ((Ub l0 Da).f5),.string ((Ub l0 Da).f6)],.int .i64 Md] rfl paj ?_;(with_reducible refine (Kh.calls ((Ub l0 Da).f0) ((Ub l0 Da).f1) ((Ub l0 Da).f2) ((Ub l0 Da).f3) ((Ub l0 Da).f4) ((Ub l0 Da).f5) ((Ub l0 Da).f6) Md t102 _ A6.out).mono ?_);rintro e w9 ⟨rfl,hb⟩;refine ⟨_,rfl,?_⟩;have Pb:=aa.mk (Ga maj hb);clear HB;have HB:=Pb;clear Pb;(try clear hb);(try clear Cl);(try clear hk);(try clear hi)))
       go_roundg k1
       case measure=>have:=Kf.out;omega
       case rel=>exact ⟨(t102),(wrap64 (Da + 1)),raj,raj,H',⟨by have:=Kf.out;omega⟩,⟨qaj⟩⟩
     ·rw [if_neg c5] at H;exact absurd H (by simp)
    ·rw [if_neg c4] at H;have zm:decide (Da < (l0.length:Int))=false:=decide_eq_false c4;clear c4;obtain rfl:=Option.some.inj H;go_wp2;go_ret;exact ⟨taj,qaj⟩
def Lh.f (k:Nat) (Ma:List (Rk)) (Oa:Int) (Pa:Int) (Na:Int) (Xd:Int) (a1:Int):Option (Int):=(Yc.f k Ma a1).bind fun t102=>(if t102 < 0 then (some (-1)) else (some t102))
theorem Lh.calls (k:Nat) (zb:Option Addr) (yb:Nat) (Ma:List (Rk)) (Oa:Int) (Pa:Int) (Na:Int) (Xd:Int) (a1:Int) (r:Int) (w:World) (qd:Kd.C ow w zb Ma.length Ma) (Ad:Ma.length ≤ yb) (h:Lh.f k Ma Oa Pa Na Xd a1=some r) :
  Calls Try.prog 100 #[.agg #[.slice zb Ma.length yb,.int .i64 Oa,.int .i64 Pa,.int .i64 Na,.int .i64 Xd],.int .i64 a1] w fun e w'=>e = .returned (.int .i64 r)∧Below w.heap.size w w':=by
 have QI:=Try.underlying106;have Ng:=aa.mk qd;have Pg:=aa.mk Ad;clear qd Ad;have HB:=aa.mk (Below.refl w.heap.size w);have H:((Yc.f k Ma a1).bind fun t102=>(if t102 < 0 then (some (-1)) else (some t102)))=some r:=h;clear h;replace H:=Option.bind_eq_some_iff.mp H;obtain ⟨t102,sG,H⟩:=H
 try dsimp only at H
 have A3:=aa.mk sG;clear sG
 by_cases c4:t102 < 0
 ·rw [if_pos c4] at H;have zm:decide (t102 < 0)=true:=decide_eq_true c4;clear c4;obtain rfl:=Option.some.inj H;go_enter Try.func100,Try.ntmps100;go_wp2_with (first|((with_reducible refine Qb (N:=2) rfl ?_);refine Ic ?hg (N:=2) ?hd (cs:=#[.slice zb Ma.length yb,.int .i64 Oa,.int .i64 Pa,.int .i64 Na,.int .i64 Xd]) (t:=106) ?hr ?_;(case hd|hg=>rfl);(case hr=>exact jaj);intro Ka hg w5 Bd hb;have Pb:=aa.mk (Ga maj hb);have Rb:=aa.mk (Bd);have Yb:=aa.mk ((by rw [hg];exact (Qa maj):w.heap.size ≤ Ka));have Vc:=aa.mk ((by rw [hg];exact (Qa maj):w.heap.size ≤ Ka));clear HB;have HB:=Pb;have qa:=Rb;have Vf:=Yb;have Xa:=Vc;clear Pb Rb Yb Vc hb Bd hg;have uu:w5.cell? ⟨Ka,0,none⟩=some (.slice zb Ma.length yb):=(ya qa.out 0).trans rfl;have tu:w5.cell? ⟨Ka,1,none⟩=some (.int .i64 Oa):=(ya qa.out 1).trans rfl;have su:w5.cell? ⟨Ka,2,none⟩=some (.int .i64 Pa):=(ya qa.out 2).trans rfl;have ru:w5.cell? ⟨Ka,3,none⟩=some (.int .i64 Na):=(ya qa.out 3).trans rfl;have qu:w5.cell? ⟨Ka,4,none⟩=some (.int .i64 Xd):=(ya qa.out 4).trans rfl;have nu:=za qa.out 0;have lu:=za qa.out 1;have ku:=za qa.out 2;have ju:=za qa.out 3;have iu:=za qa.out 4)|((with_reducible refine Kb (f:=120) rfl ?_);refine ie (some 8) rfl rfl Try.func120 (by kernel_rfl) rfl #[.slice zb Ma.length yb,.int .i64 a1] rfl paj ?_;(with_reducible refine (Yc.calls k _ _ Ma a1 t102 _ ?Oc ?Nc A3.out).mono ?_);(case Oc=>repeat (first|exact (Kd.Za Ng.out HB.out)|(with_reducible refine Kd.Gd ?_ _)|(with_reducible refine Kd.Ed ?_ _)|(with_reducible refine Kd.He ?_)));(case Nc=>exact Pg.out);rintro e w7 ⟨rfl,hb⟩;refine ⟨_,rfl,?_⟩;have Pb:=aa.mk (Ta (g:=Ka) (o:=.cells #[.slice zb Ma.length yb,.int .i64 Oa,.int .i64 Pa,.int .i64 Na,.int .i64 Xd] 106 (0,0)) naj hb);have Rb:=aa.mk (Ga laj hb);clear qa HB;have qa:=Pb;have HB:=Rb;clear Pb Rb;(try clear hb);(try clear Cl);(try clear hk);(try clear hi)));go_ret;exact ⟨taj,oaj⟩
 ·rw [if_neg c4] at H;have zm:decide (t102 < 0)=false:=decide_eq_false c4;clear c4;obtain rfl:=Option.some.inj H;go_enter Try.func100,Try.ntmps100;go_wp2_with (first|((with_reducible refine Qb (N:=2) rfl ?_);refine Ic ?hg (N:=2) ?hd (cs:=#[.slice zb Ma.length yb,.int .i64 Oa,.int .i64 Pa,.int .i64 Na,.int .i64 Xd]) (t:=106) ?hr ?_;(case hd|hg=>rfl);(case hr=>exact jaj);intro Ka hg w8 Bd hb;have Pb:=aa.mk (Ga maj hb);have Rb:=aa.mk (Bd);have Yb:=aa.mk ((by rw [hg];exact (Qa maj):w.heap.size ≤ Ka));have Vc:=aa.mk ((by rw [hg];exact (Qa maj):w.heap.size ≤ Ka));clear HB;have HB:=Pb;have qa:=Rb;have Vf:=Yb;have Xa:=Vc;clear Pb Rb Yb Vc hb Bd hg;have Bl:w8.cell? ⟨Ka,0,none⟩=some (.slice zb Ma.length yb):=(ya qa.out 0).trans rfl;have Al:w8.cell? ⟨Ka,1,none⟩=some (.int .i64 Oa):=(ya qa.out 1).trans rfl;have zl:w8.cell? ⟨Ka,2,none⟩=some (.int .i64 Pa):=(ya qa.out 2).trans rfl;have yl:w8.cell? ⟨Ka,3,none⟩=some (.int .i64 Na):=(ya qa.out 3).trans rfl;have xl:w8.cell? ⟨Ka,4,none⟩=some (.int .i64 Xd):=(ya qa.out 4).trans rfl;have vl:=za qa.out 0;have ql:=za qa.out 1;have jl:=za qa.out 2;have gl:=za qa.out 3;have fl:=za qa.out 4)|((with_reducible refine Kb (f:=120) rfl ?_);refine ie (some 8) rfl rfl Try.func120 (by kernel_rfl) rfl #[.slice zb Ma.length yb,.int .i64 a1] rfl paj ?_;(with_reducible refine (Yc.calls k _ _ Ma a1 t102 _ ?Oc ?Nc A3.out).mono ?_);(case Oc=>repeat (first|exact (Kd.Za Ng.out HB.out)|(with_reducible refine Kd.Gd ?_ _)|(with_reducible refine Kd.Ed ?_ _)|(with_reducible refine Kd.He ?_)));(case Nc=>exact Pg.out);rintro e wv ⟨rfl,hb⟩;refine ⟨_,rfl,?_⟩;have Pb:=aa.mk (Ta (g:=Ka) (o:=.cells #[.slice zb Ma.length yb,.int .i64 Oa,.int .i64 Pa,.int .i64 Na,.int .i64 Xd] 106 (0,0)) naj hb);have Rb:=aa.mk (Ga laj hb);clear qa HB;have qa:=Pb;have HB:=Rb;clear Pb Rb;(try clear hb);(try clear Cl);(try clear hk);(try clear hi)));go_ret;exact ⟨taj,oaj⟩
def yj.f (fk:Int) (Oa:Int) (Pa:Int) (Na:Int) (Xd:Int) (Dm:Int) (Wj:ByteArray):Option (Int × Int × Int × Int × Int × Int × ByteArray):=some (fk,Oa,Pa,Na,Xd,Dm,Wj)
theorem yj.calls (fk:Int) (Oa:Int) (Pa:Int) (Na:Int) (Xd:Int) (Dm:Int) (Wj:ByteArray) (r1:Int) (r2:Int) (r3:Int) (r4:Int) (r5:Int) (r6:Int) (r7:ByteArray) (w:World) (h:yj.f fk Oa Pa Na Xd Dm Wj=some (r1,r2,r3,r4,r5,r6,r7)) :
  Calls Try.prog 136 #[.agg #[.int .i64 fk,.int .i64 Oa,.int .i64 Pa,.int .i64 Na,.int .i64 Xd,.int .i64 Dm,.string Wj]] w fun e w'=>e = .returned (.agg #[.int .i64 r1,.int .i64 r2,.int .i64 r3,.int .i64 r4,.int .i64 r5,.int .i64 r6,.string r7])∧Below w.heap.size w w':=by
 have PI:=Try.underlying141;have rV:=Try.underlying122;have HB:=aa.mk (Below.refl w.heap.size w);have H:(some (fk,Oa,Pa,Na,Xd,Dm,Wj))=some (r1,r2,r3,r4,r5,r6,r7):=h;clear h;simp only [Option.some.injEq,Prod.mk.injEq] at H;obtain ⟨rfl,rfl,rfl,rfl,rfl,rfl,rfl⟩:=H;go_enter Try.func136,Try.ntmps136;go_wp2_with (first|((with_reducible refine Qb (N:=1) rfl ?_);refine Ic ?hg (N:=1) ?hd (cs:=#[.int .i64 fk,.int .i64 Oa,.int .i64 Pa,.int .i64 Na,.int .i64 Xd,.int .i64 Dm,.string Wj]) (t:=141) ?hr ?_;(case hd|hg=>rfl);(case hr=>exact jaj);intro Ka hg w2 Bd hb;have Pb:=aa.mk (Ga maj hb);have Rb:=aa.mk (Bd);have Yb:=aa.mk ((by rw [hg];exact (Qa maj):w.heap.size ≤ Ka));have Vc:=aa.mk ((by rw [hg];exact (Qa maj):w.heap.size ≤ Ka));clear HB;have HB:=Pb;have qa:=Rb;have Vf:=Yb;have Xa:=Vc;clear Pb Rb Yb Vc hb Bd hg)|((with_reducible refine Qb (N:=2) rfl ?_);refine Ic ?hg (N:=2) ?hd (cs:=#[.int .i64 0,.int .i64 0,.int .i64 0,.int .i64 0,.int .i64 0,.int .i64 0,.string (⟨#[]⟩:ByteArray)]) (t:=122) ?hr ?_;(case hd|hg=>rfl);(case hr=>exact jaj);intro Cd hg w3 Bd hb;have Pb:=aa.mk (Ta (g:=Ka) (o:=.cells #[.int .i64 fk,.int .i64 Oa,.int .i64 Pa,.int .i64 Na,.int .i64 Xd,.int .i64 Dm,.string Wj] 141 (0,0)) naj hb);have Rb:=aa.mk (Ga laj hb);have Yb:=aa.mk (Bd);have Vc:=aa.mk ((by rw [hg];exact (Qa laj):w.heap.size ≤ Cd));have Df:=aa.mk ((by rw [hg];exact (Qa laj):w.heap.size ≤ Cd));have Qg:=aa.mk ((by rw [hg];exact Nat.ne_of_lt (Te (g:=Ka) (o:=.cells #[.int .i64 fk,.int .i64 Oa,.int .i64 Pa,.int .i64 Na,.int .i64 Xd,.int .i64 Dm,.string Wj] 141 (0,0)) naj):Ka ≠ Cd));have dr:=aa.mk ((by rw [hg];exact Nat.ne_of_gt (Te (g:=Ka) (o:=.cells #[.int .i64 fk,.int .i64 Oa,.int .i64 Pa,.int .i64 Na,.int .i64 Xd,.int .i64 Dm,.string Wj] 141 (0,0)) naj):Cd ≠ Ka));clear qa HB;have qa:=Pb;have HB:=Rb;have Dd:=Yb;have rQ:=Vc;have cj:=Df;have qo:=Qg;have oo:=dr;clear Pb Rb Yb Vc Df Qg dr hb Bd hg)|((with_reducible refine Qb (N:=3) rfl ?_);refine Ic ?hg (N:=3) ?hd (cs:=#[.int .i64 0,.int .i64 0,.int .i64 0,.int .i64 0,.int .i64 0,.int .i64 0,.string (⟨#[]⟩:ByteArray)]) (t:=122) ?hr ?_;(case hd|hg=>rfl);(case hr=>exact jaj);intro we hg w4 Bd hb;have Pb:=aa.mk (Ta (g:=Ka) (o:=.cells #[.int .i64 fk,.int .i64 Oa,.int .i64 Pa,.int .i64 Na,.int .i64 Xd,.int .i64 Dm,.string Wj] 141 (0,0)) naj hb);have Rb:=aa.mk (Ta (g:=Cd) (o:=.cells #[.int .i64 0,.int .i64 0,.int .i64 0,.int .i64 0,.int .i64 0,.int .i64 0,.string (⟨#[]⟩:ByteArray)] 122 (0,0)) Jaj hb);have Yb:=aa.mk (Ga Caj hb);have Vc:=aa.mk (Bd);have Df:=aa.mk ((by rw [hg];exact (Qa Caj):w.heap.size ≤ we));have Qg:=aa.mk ((by rw [hg];exact (Qa Caj):w.heap.size ≤ we));have dr:=aa.mk ((by rw [hg];exact Nat.ne_of_lt (Te (g:=Ka) (o:=.cells #[.int .i64 fk,.int .i64 Oa,.int .i64 Pa,.int .i64 Na,.int .i64 Xd,.int .i64 Dm,.string Wj] 141 (0,0)) naj):Ka ≠ we));have yE:=aa.mk ((by rw [hg];exact Nat.ne_of_gt (Te (g:=Ka) (o:=.cells #[.int .i64 fk,.int .i64 Oa,.int .i64 Pa,.int .i64 Na,.int .i64 Xd,.int .i64 Dm,.string Wj] 141 (0,0)) naj):we ≠ Ka));have xE:=aa.mk ((by rw [hg];exact Nat.ne_of_lt (Te (g:=Cd) (o:=.cells #[.int .i64 0,.int .i64 0,.int .i64 0,.int .i64 0,.int .i64 0,.int .i64 0,.string (⟨#[]⟩:ByteArray)] 122 (0,0)) Jaj):Cd ≠ we));have uO:=aa.mk ((by rw [hg];exact Nat.ne_of_gt (Te (g:=Cd) (o:=.cells #[.int .i64 0,.int .i64 0,.int .i64 0,.int .i64 0,.int .i64 0,.int .i64 0,.string (⟨#[]⟩:ByteArray)] 122 (0,0)) Jaj):we ≠ Cd));clear qa Dd HB;have qa:=Pb;have Dd:=Rb;have HB:=Yb;have Zd:=Vc;have qQ:=Df;have gp:=Qg;have Ki:=dr;have mo:=yE;have Ge:=xE;have jo:=uO;clear Pb Rb Yb Vc Df Qg dr yE xE uO hb Bd hg;have Gaf:=qo.out;have Eaf:=oo.out;have K7:=Ki.out;have H7:=mo.out;have lS:w4.cell? ⟨Ka,0,none⟩=some (.int .i64 fk):=(ya qa.out 0).trans rfl;have kS:w4.cell? ⟨Ka,1,none⟩=some (.int .i64 Oa):=(ya qa.out 1).trans rfl;have jS:w4.cell? ⟨Ka,2,none⟩=some (.int .i64 Pa):=(ya qa.out 2).trans rfl;have iS:w4.cell? ⟨Ka,3,none⟩=some (.int .i64 Na):=(ya qa.out 3).trans rfl;have gS:w4.cell? ⟨Ka,4,none⟩=some (.int .i64 Xd):=(ya qa.out 4).trans rfl;have fS:w4.cell? ⟨Ka,5,none⟩=some (.int .i64 Dm):=(ya qa.out 5).trans rfl;have eS:w4.cell? ⟨Ka,6,none⟩=some (.string Wj):=(ya qa.out 6).trans rfl;have KR:=za qa.out 0;have JR:=za qa.out 1;have GR:=za qa.out 2;have FR:=za qa.out 3;have ER:=za qa.out 4;have DR:=za qa.out 5;have CR:=za qa.out 6;have I7:=jo.out;have F7:=Ge.out;have Bl:w4.cell? ⟨we,0,none⟩=some (.int .i64 0):=(ya Zd.out 0).trans rfl;have Al:w4.cell? ⟨we,1,none⟩=some (.int .i64 0):=(ya Zd.out 1).trans rfl;have zl:w4.cell? ⟨we,2,none⟩=some (.int .i64 0):=(ya Zd.out 2).trans rfl;have yl:w4.cell? ⟨we,3,none⟩=some (.int .i64 0):=(ya Zd.out 3).trans rfl;have xl:w4.cell? ⟨we,4,none⟩=some (.int .i64 0):=(ya Zd.out 4).trans rfl;have J8:w4.cell? ⟨we,5,none⟩=some (.int .i64 0):=(ya Zd.out 5).trans rfl;have I8:w4.cell? ⟨we,6,none⟩=some (.string (⟨#[]⟩:ByteArray)):=(ya Zd.out 6).trans rfl;have vl:=za Zd.out 0;have ql:=za Zd.out 1;have jl:=za Zd.out 2;have gl:=za Zd.out 3;have fl:=za Zd.out 4;have W7:=za Zd.out 5;have V7:=za Zd.out 6;have Wl:w4.cell? ⟨Cd,0,none⟩=some (.int .i64 0):=(ya Dd.out 0).trans rfl;have Vl:w4.cell? ⟨Cd,1,none⟩=some (.int .i64 0):=(ya Dd.out 1).trans rfl;have Ul:w4.cell? ⟨Cd,2,none⟩=some (.int .i64 0):=(ya Dd.out 2).trans rfl;have Tl:w4.cell? ⟨Cd,3,none⟩=some (.int .i64 0):=(ya Dd.out 3).trans rfl;have Sl:w4.cell? ⟨Cd,4,none⟩=some (.int .i64 0):=(ya Dd.out 4).trans rfl;have K3:w4.cell? ⟨Cd,5,none⟩=some (.int .i64 0):=(ya Dd.out 5).trans rfl;have J3:w4.cell? ⟨Cd,6,none⟩=some (.string (⟨#[]⟩:ByteArray)):=(ya Dd.out 6).trans rfl;have Rl:=za Dd.out 0;have Ql:=za Dd.out 1;have Ol:=za Dd.out 2;have Nl:=za Dd.out 3;have Ml:=za Dd.out 4;have G1:=za Dd.out 5;have E1:=za Dd.out 6));refine bodyPost_ret (results_cell_row rfl _ _ Cd 122 #[.int .i64 fk,.int .i64 Oa,.int .i64 Pa,.int .i64 Na,.int .i64 Xd,.int .i64 Dm,.string Wj] (0,0) _ rfl (by (with_reducible repeat (first|refine Ca ?_ _|refine Fa ?_|refine Ba ?_ _));refine ud (cs:=#[.int .i64 fk,.int .i64 Oa,.int .i64 Pa,.int .i64 Na,.int .i64 Xd,.int .i64 Dm,.string (⟨#[]⟩:ByteArray)]) ?_ 6 _ rfl;(with_reducible repeat (first|refine Ca ?_ _|refine Fa ?_|refine Ba ?_ _));refine ud (cs:=#[.int .i64 fk,.int .i64 Oa,.int .i64 Pa,.int .i64 Na,.int .i64 Xd,.int .i64 0,.string (⟨#[]⟩:ByteArray)]) ?_ 5 _ rfl;(with_reducible repeat (first|refine Ca ?_ _|refine Fa ?_|refine Ba ?_ _));refine ud (cs:=#[.int .i64 fk,.int .i64 Oa,.int .i64 Pa,.int .i64 Na,.int .i64 0,.int .i64 0,.string (⟨#[]⟩:ByteArray)]) ?_ 4 _ rfl;(with_reducible repeat (first|refine Ca ?_ _|refine Fa ?_|refine Ba ?_ _));refine ud (cs:=#[.int .i64 fk,.int .i64 Oa,.int .i64 Pa,.int .i64 0,.int .i64 0,.int .i64 0,.string (⟨#[]⟩:ByteArray)]) ?_ 3 _ rfl;(with_reducible repeat (first|refine Ca ?_ _|refine Fa ?_|refine Ba ?_ _));refine ud (cs:=#[.int .i64 fk,.int .i64 Oa,.int .i64 0,.int .i64 0,.int .i64 0,.int .i64 0,.string (⟨#[]⟩:ByteArray)]) ?_ 2 _ rfl;(with_reducible repeat (first|refine Ca ?_ _|refine Fa ?_|refine Ba ?_ _));refine ud (cs:=#[.int .i64 fk,.int .i64 0,.int .i64 0,.int .i64 0,.int .i64 0,.int .i64 0,.string (⟨#[]⟩:ByteArray)]) ?_ 1 _ rfl;(with_reducible repeat (first|refine Ca ?_ _|refine Fa ?_|refine Ba ?_ _));refine ud (cs:=#[.int .i64 0,.int .i64 0,.int .i64 0,.int .i64 0,.int .i64 0,.int .i64 0,.string (⟨#[]⟩:ByteArray)]) ?_ 0 _ rfl;(with_reducible repeat (first|refine Ca ?_ _|refine Fa ?_|refine Ba ?_ _));refine ld ?_ Ge.out _;(with_reducible repeat (first|refine Ca ?_ _|refine Fa ?_|refine Ba ?_ _));refine ld ?_ Ge.out _;(with_reducible repeat (first|refine Ca ?_ _|refine Fa ?_|refine Ba ?_ _));refine ld ?_ Ge.out _;(with_reducible repeat (first|refine Ca ?_ _|refine Fa ?_|refine Ba ?_ _));refine ld ?_ Ge.out _;(with_reducible repeat (first|refine Ca ?_ _|refine Fa ?_|refine Ba ?_ _));refine ld ?_ Ge.out _;(with_reducible repeat (first|refine Ca ?_ _|refine Fa ?_|refine Ba ?_ _));refine ld ?_ Ge.out _;(with_reducible repeat (first|refine Ca ?_ _|refine Fa ?_|refine Ba ?_ _));refine ld ?_ Ge.out _;(with_reducible repeat (first|refine Ca ?_ _|refine Fa ?_|refine Ba ?_ _));exact Dd.out) Try.underlying122 rfl (by kernel_rfl)) rfl ?_;exact ⟨taj,dak⟩
def Lc.l0:Nat→List (Rk)→List (oc)→Int→Option ((List (oc)))
 | 0,_,_,_=>none
 | k + 1,x0,x3,x4=>if x4 < (x0.length:Int) then (if 0 ≤ x4 then ((yj.f ((Ub x0 x4).f0) ((Ub x0 x4).f1) ((Ub x0 x4).f2) ((Ub x0 x4).f3) ((Ub x0 x4).f4) ((Ub x0 x4).f5) ((Ub x0 x4).f6)).bind fun Xn=>(if x4 < (x3.length:Int) then (Lc.l0 k x0 (x3.set (x4:Int).toNat (⟨Xn.1,Xn.2.1,Xn.2.2.1,Xn.2.2.2.1,Xn.2.2.2.2.1,Xn.2.2.2.2.2.1,Xn.2.2.2.2.2.2⟩:oc)) (wrap64 (x4 + 1))) else (none))) else (none)) else (some x3)
def Lc.f (k:Nat) (l0:List (Rk)):Option ((List (oc))):=if 0 ≤ (l0.length:Int) then (if ((l0.length:Int):Int).toNat ≤ 4398046511104 then (Lc.l0 k l0 (List.replicate ((l0.length:Int):Int).toNat Qi) 0) else (none)) else (none)
theorem Lc.calls (k:Nat) (A0:Option Addr) (c0:Nat) (l0:List (Rk)) (r:List (oc)) (w:World) (Hi:Kd.C ow w A0 l0.length l0) (hc0:l0.length ≤ c0) (h:Lc.f k l0=some r) :
  Calls Try.prog 122 #[.slice A0 l0.length c0] w fun e w'=>∃ Di:Value,e = .returned (Di)∧Kd.R Je 122 w' w.heap.size (fun _=>True) Di r∧Below w.heap.size w w':=by
 have PI:=Try.underlying141;have rV:=Try.underlying122;have ak:=aa.mk Hi;have oy:=aa.mk hc0;clear Hi hc0;have HB:=aa.mk (Below.refl w.heap.size w);have H:(if 0 ≤ (l0.length:Int) then (if ((l0.length:Int):Int).toNat ≤ 4398046511104 then (Lc.l0 k l0 (List.replicate ((l0.length:Int):Int).toNat Qi) 0) else (none)) else (none))=some r:=h;clear h
 by_cases c2:0 ≤ (l0.length:Int)
 ·rw [if_pos c2] at H;have Mo:=eq_true c2;have Sq:decide (0 ≤ (l0.length:Int))=true:=decide_eq_true c2;clear c2
  by_cases c3:((l0.length:Int):Int).toNat ≤ 4398046511104
  ·rw [if_pos c3] at H;have Ah:=eq_true c3;have Kr:decide (((l0.length:Int):Int).toNat ≤ 4398046511104)=true:=decide_eq_true c3;clear c3;obtain ⟨Re,Ye⟩:∃ y_:List (oc),y_=(List.replicate ((l0.length:Int):Int).toNat Qi):=⟨_,rfl⟩;replace H:(Lc.l0 k l0 Re 0)=some r:=by first|(rw [Ye];with_reducible exact H)|(have Qc:=(Option.bind_some _ _).symm.trans H;rw [Ye];with_reducible exact Qc)|(have Qc:=(Option.bind_some _ _).symm.trans H;with_reducible exact Qc)|with_reducible exact H|(rw [Ye];exact H)|exact H
   have Zi:=aa.mk Ye;clear Ye;have H':=aa.mk H;clear H;go_enter Try.func122,Try.ntmps122;go_wp2_with (first|((with_reducible refine Qb (N:=7) rfl ?_);refine Kd.Mr Je _ 122 rfl (N:=7) rfl 81 _ _ rfl (l0.length:Int) rfl rfl Try.underlying81 (.agg #[(.int .i64 0),(.int .i64 0),(.int .i64 0),(.int .i64 0),(.int .i64 0),(.int .i64 0),(.string ⟨#[]⟩)]) 64 aM rfl (by decide) (by omega) Qi (ok:=fun _=>True) (Yg:=fun _=>True) (Aj _ _ _ Qi ) (fun _ hk=>hk) trivial (Ja) (Nat.le_trans (Nat.mul_le_mul_right _ (Ja:(l0.length:Int).toNat ≤ 4398046511104)) (by omega)) (Below.refl _ _) (Nat.le_refl _) ?_;intro yA w4 eB hb Ll Pe;clear Ll Pe;(first|rw [← Zi.out] at eB|(simp only [Int.reduceToNat] at eB;rw [← Zi.out] at eB));have Pb:=aa.mk (Kd.Xc eB (Qa maj));have Rb:=aa.mk (Ga maj hb);clear HB;have uo:=Pb;have HB:=Rb;clear Pb Rb hb eB))
   go_loopg [4] k (fun kq v4 w'=>∃ (uc:List (oc)) (Ib:Int),v4 = .int .i64 Ib∧aa (Lc.l0 kq l0 uc Ib=some r)∧aa (kq ≤ k)∧aa (Kd.R Je 122 w' w.heap.size (fun _=>True) yA uc)∧aa (Below w.heap.size w w'))
   case atStart=>exact ⟨(Re),(0),raj,H',⟨Nat.le_refl _⟩,⟨by (with_reducible repeat (first|apply Kd.Ia|apply Kd.La|apply Kd.Ra));exact uo.out⟩,⟨qaj⟩⟩
   case round =>
    clear H'
    try clear c1
    try clear c2
    try clear Mo
    try clear Sq
    try clear p2
    try clear c3
    try clear Ah
    try clear Kr
    (try clear HA);(try clear Kf);(try clear jc);(try clear HB);obtain ⟨uc,Ib,rfl,HA,Kf,jc,HB⟩:=hrel;cases gk with
    | zero=>exact absurd HA.out (by simp [Lc.l0])
    | succ k1 =>
     have H:=HA.out;clear HA;simp only [Lc.l0] at H
     by_cases c6:Ib < (l0.length:Int)
     ·rw [if_pos c6] at H;have Gt:decide (Ib < (l0.length:Int))=true:=decide_eq_true c6;clear c6
      by_cases c7:0 ≤ Ib
      ·rw [if_pos c7] at H;have yu:decide (0 ≤ Ib)=true:=decide_eq_true c7;clear c7;replace H:=Option.bind_eq_some_iff.mp H;obtain ⟨⟨t105,t106,t107,t108,t109,t110,t111⟩,sQ,H⟩:=H;replace H:(if Ib < (uc.length:Int) then (Lc.l0 k1 l0 (uc.set (Ib:Int).toNat (⟨t105,t106,t107,t108,t109,t110,t111⟩:oc)) (wrap64 (Ib + 1))) else (none))=some r:=H;have A8:=aa.mk sQ;clear sQ
       by_cases c9:Ib < (uc.length:Int)
       ·rw [if_pos c9] at H;have pN:decide (Ib < (uc.length:Int))=true:=decide_eq_true c9;clear c9;obtain ⟨Xf,zi⟩:∃ y_:List (oc),y_=(uc.set (Ib:Int).toNat (⟨t105,t106,t107,t108,t109,t110,t111⟩:oc)):=⟨_,rfl⟩;replace H:(Lc.l0 k1 l0 Xf (wrap64 (Ib + 1)))=some r:=by first|(rw [zi];with_reducible exact H)|(have Qc:=(Option.bind_some _ _).symm.trans H;rw [zi];with_reducible exact Qc)|(have Qc:=(Option.bind_some _ _).symm.trans H;with_reducible exact Qc)|with_reducible exact H|(rw [zi];exact H)|exact H
        have fo:=aa.mk zi;clear zi;have H':=aa.mk H;clear H;have iw:0 ≤ (Ib:Int):=Ja;have dw:Ib < (l0.length:Int):=Ja;obtain ⟨BP,YJ,Zm,Qs,Ns,Ms,Ls,ME,KE⟩:=Lz ak.out Ib iw dw;cases YJ;replace Zm:=Jb HB.out Zm;replace Qs:=Jb HB.out Qs;replace Ns:=Jb HB.out Ns;replace Ms:=Jb HB.out Ms;replace Ls:=Jb HB.out Ls;replace ME:=Jb HB.out ME;replace KE:=Jb HB.out KE;replace iw:=eq_true iw;replace dw:=eq_true dw;go_wp2_with (first|((with_reducible refine Kb (f:=136) rfl ?_);refine ie (some 20) rfl rfl Try.func136 (by kernel_rfl) rfl #[.agg #[.int .i64 ((Ub l0 Ib).f0),.int .i64 ((Ub l0 Ib).f1),.int .i64 ((Ub l0 Ib).f2),.int .i64 ((Ub l0 Ib).f3),.int .i64 ((Ub l0 Ib).f4),.int .i64 ((Ub l0 Ib).f5),.string ((Ub l0 Ib).f6)]] rfl paj ?_;(with_reducible refine (yj.calls ((Ub l0 Ib).f0) ((Ub l0 Ib).f1) ((Ub l0 Ib).f2) ((Ub l0 Ib).f3) ((Ub l0 Ib).f4) ((Ub l0 Ib).f5) ((Ub l0 Ib).f6) t105 t106 t107 t108 t109 t110 t111 _ A8.out).mono ?_);rintro e Dl ⟨rfl,hb⟩;refine ⟨_,rfl,?_⟩;have Pb:=aa.mk (Kd.ec Baj hb);have Rb:=aa.mk (Ga maj hb);clear jc HB;have jc:=Pb;have HB:=Rb;clear Pb Rb;(try clear hb);(try clear Cl);(try clear hk);(try clear hi);have mA:0 ≤ (Ib:Int):=Ja;have kA:(Ib:Int) < ((uc.length:Int):Int):=Ja;obtain ⟨Sg,xu,zD,OJ,JS,H_,Gu⟩:=Kd.qj jc.out (by omega);(first|cases zD|(injection zD with ej qv tv;(first|subst ej|(injection ej with ej;subst ej));subst tv;clear qv));have Hu:=aa.mk OJ;have saa:=aa.mk Gu;clear OJ JS Gu;obtain ⟨xW,rB,zB,ji,ei⟩:=Kd.Ci jc.out Qi (Ib:Int) mA kA;obtain rfl:=gf zB;have OI:Dl.cell? ⟨Sg,(Ib:Int).toNat * 7,none⟩=some (.int .i64 ((ua uc Ib).f0)):=ji 0 _ rfl;have NI:Dl.cell? ⟨Sg,(Ib:Int).toNat * 7 + 1,none⟩=some (.int .i64 ((ua uc Ib).f1)):=ji 1 _ rfl;have MI:Dl.cell? ⟨Sg,(Ib:Int).toNat * 7 + 2,none⟩=some (.int .i64 ((ua uc Ib).f2)):=ji 2 _ rfl;have LI:Dl.cell? ⟨Sg,(Ib:Int).toNat * 7 + 3,none⟩=some (.int .i64 ((ua uc Ib).f3)):=ji 3 _ rfl;have KI:Dl.cell? ⟨Sg,(Ib:Int).toNat * 7 + 4,none⟩=some (.int .i64 ((ua uc Ib).f4)):=ji 4 _ rfl;have rR:Dl.cell? ⟨Sg,(Ib:Int).toNat * 7 + 5,none⟩=some (.int .i64 ((ua uc Ib).f5)):=ji 5 _ rfl;have qR:Dl.cell? ⟨Sg,(Ib:Int).toNat * 7 + 6,none⟩=some (.string ((ua uc Ib).f6)):=ji 6 _ rfl;have rJ:Dl.frozen? ⟨Sg,(Ib:Int).toNat * 7,none⟩=false:=ei 0;have qJ:Dl.frozen? ⟨Sg,(Ib:Int).toNat * 7 + 1,none⟩=false:=ei 1;have pJ:Dl.frozen? ⟨Sg,(Ib:Int).toNat * 7 + 2,none⟩=false:=ei 2;have oJ:Dl.frozen? ⟨Sg,(Ib:Int).toNat * 7 + 3,none⟩=false:=ei 3;have nJ:Dl.frozen? ⟨Sg,(Ib:Int).toNat * 7 + 4,none⟩=false:=ei 4;have dS:Dl.frozen? ⟨Sg,(Ib:Int).toNat * 7 + 5,none⟩=false:=ei 5;have bS:Dl.frozen? ⟨Sg,(Ib:Int).toNat * 7 + 6,none⟩=false:=ei 6;clear rB ji ei zB;replace mA:=eq_true mA;replace kA:=eq_true kA;have LN:=aa.mk (show Kd.R Je 122 Dl w.heap.size (fun _=>True) (.slice (some ⟨Sg,0,none⟩) uc.length xu) uc from Baj);obtain ⟨wW,Rx,yB,Th,di⟩:=Kd.Ci LN.out Qi (Ib:Int) (Ja) (by have h_:(Ib:Int) < ((uc.length:Int):Int):=Ja;first|exact h_|(have e_:=(Kd.Ua jc.out).1;omega)|simpa using h_);obtain rfl:=gf yB;have Ww:=Kd.Lt LN.out (Ib:Int) (Ja) (by have h_:(Ib:Int) < ((uc.length:Int):Int):=Ja;first|exact h_|(have e_:=(Kd.Ua jc.out).1;omega)|simpa using h_) (seg:=[.int .i64 t105,.int .i64 t106,.int .i64 t107,.int .i64 t108,.int .i64 t109,.int .i64 t110,.string t111]) (j:=0) Rx Th (show 7 ≤ 7 from by decide) (x':=(⟨t105,t106,t107,t108,t109,t110,t111⟩:oc)) (Aj _ _ _ (⟨t105,t106,t107,t108,t109,t110,t111⟩:oc) ) (fun _ hk=>hk);have Qy:=Th 0 _ rfl;(try simp only [show (Je).sz=7 from rfl,Nat.mul_one,Nat.add_zero] at Qy);have ez:=di 0;(try simp only [show (Je).sz=7 from rfl,Nat.mul_one,Nat.add_zero] at ez);have Py:=Th 1 _ rfl;(try simp only [show (Je).sz=7 from rfl,Nat.mul_one,Nat.add_zero] at Py);have dz:=di 1;(try simp only [show (Je).sz=7 from rfl,Nat.mul_one,Nat.add_zero] at dz);have Oy:=Th 2 _ rfl;(try simp only [show (Je).sz=7 from rfl,Nat.mul_one,Nat.add_zero] at Oy);have cz:=di 2;(try simp only [show (Je).sz=7 from rfl,Nat.mul_one,Nat.add_zero] at cz);have Ny:=Th 3 _ rfl;(try simp only [show (Je).sz=7 from rfl,Nat.mul_one,Nat.add_zero] at Ny);have bz:=di 3;(try simp only [show (Je).sz=7 from rfl,Nat.mul_one,Nat.add_zero] at bz);have My:=Th 4 _ rfl;(try simp only [show (Je).sz=7 from rfl,Nat.mul_one,Nat.add_zero] at My);have az:=di 4;(try simp only [show (Je).sz=7 from rfl,Nat.mul_one,Nat.add_zero] at az);have JI:=Th 5 _ rfl;(try simp only [show (Je).sz=7 from rfl,Nat.mul_one,Nat.add_zero] at JI);have mJ:=di 5;(try simp only [show (Je).sz=7 from rfl,Nat.mul_one,Nat.add_zero] at mJ);have II:=Th 6 _ rfl;(try simp only [show (Je).sz=7 from rfl,Nat.mul_one,Nat.add_zero] at II);have lJ:=di 6;(try simp only [show (Je).sz=7 from rfl,Nat.mul_one,Nat.add_zero] at lJ);clear Rx Th di yB)|((with_reducible refine Ce (t:=122) (p:=21) rfl ?_);refine Sd (t:=122) (p:=21) (v:=?zQ) (w1:=(((((((Dl.setCell ⟨Sg,(Ib:Int).toNat * 7,none⟩ (.int .i64 t105)).setCell ⟨Sg,(Ib:Int).toNat * 7 + 1,none⟩ (.int .i64 t106)).setCell ⟨Sg,(Ib:Int).toNat * 7 + 2,none⟩ (.int .i64 t107)).setCell ⟨Sg,(Ib:Int).toNat * 7 + 3,none⟩ (.int .i64 t108)).setCell ⟨Sg,(Ib:Int).toNat * 7 + 4,none⟩ (.int .i64 t109)).setCell ⟨Sg,(Ib:Int).toNat * 7 + 5,none⟩ (.int .i64 t110)).setCell ⟨Sg,(Ib:Int).toNat * 7 + 6,none⟩ (.string t111))) ?hg ?ho ?hn ?hr ?_;(case ho=>rfl);(case hg=>rfl);(case hn=>rfl);(case hr=>exact jaj);intro jA hw;have hg:Dl.grownBy jA (some Sg):=(by rw [hw];exact Ww.2);have Gj:Kd.R Je 122 jA w.heap.size (fun _=>True) (.slice (some ⟨Sg,0,none⟩) uc.length xu) Xf:=(by rw [hw,fo.out];exact Ww.1);clear Ww;have Pb:=aa.mk (Gj);have Rb:=aa.mk ((by rw [hw];exact ta (ta (ta (ta (ta (ta (ta (HB.out) Hu.out) Hu.out) Hu.out) Hu.out) Hu.out) Hu.out) Hu.out:Below w.heap.size w jA));clear jc HB;have jc:=Pb;have HB:=Rb;clear Pb Rb hg hw Gj))
        go_roundg k1
        case measure=>have:=Kf.out;omega
        case rel=>exact ⟨(Xf),(wrap64 (Ib + 1)),raj,H',⟨by have:=Kf.out;omega⟩,⟨Uaj⟩,⟨qaj⟩⟩
       ·rw [if_neg c9] at H;exact absurd H (by simp)
      ·rw [if_neg c7] at H;exact absurd H (by simp)
     ·rw [if_neg c6] at H;have Gt:decide (Ib < (l0.length:Int))=false:=decide_eq_false c6;clear c6;obtain rfl:=Option.some.inj H;go_wp2;go_ret;exact ⟨_,taj,Uaj,qaj⟩
  ·rw [if_neg c3] at H;exact absurd H (by simp)
 ·rw [if_neg c2] at H;exact absurd H (by simp)
def zj.f (k:Nat) (Ma:List (Rk)) (Oa:Int) (Pa:Int) (Na:Int) (Xd:Int):Option ((List (oc)) × Int × Int × Int × Int):=(Lc.f k Ma).bind fun t104=>(some (t104,Oa,Pa,Na,Xd))
theorem zj.calls (k:Nat) (zb:Option Addr) (yb:Nat) (Ma:List (Rk)) (Oa:Int) (Pa:Int) (Na:Int) (Xd:Int) (r1:List (oc)) (r2:Int) (r3:Int) (r4:Int) (r5:Int) (w:World) (qd:Kd.C ow w zb Ma.length Ma) (Ad:Ma.length ≤ yb) (h:zj.f k Ma Oa Pa Na Xd=some (r1,r2,r3,r4,r5)) :
  Calls Try.prog 103 #[.agg #[.slice zb Ma.length yb,.int .i64 Oa,.int .i64 Pa,.int .i64 Na,.int .i64 Xd]] w fun e w'=>∃ Di:Value,e = .returned (.agg #[Di,.int .i64 r2,.int .i64 r3,.int .i64 r4,.int .i64 r5])∧Kd.R Je 122 w' w.heap.size (fun _=>True) Di r1∧Below w.heap.size w w':=by
 have QI:=Try.underlying106;have Sy:=Try.underlying83;have Ng:=aa.mk qd;have Pg:=aa.mk Ad;clear qd Ad;have HB:=aa.mk (Below.refl w.heap.size w);have H:((Lc.f k Ma).bind fun t104=>(some (t104,Oa,Pa,Na,Xd)))=some (r1,r2,r3,r4,r5):=h;clear h;replace H:=Option.bind_eq_some_iff.mp H;obtain ⟨t104,gL,H⟩:=H
 try dsimp only at H
 have A2:=aa.mk gL;clear gL;simp only [Option.some.injEq,Prod.mk.injEq] at H;obtain ⟨rfl,rfl,rfl,rfl,rfl⟩:=H;go_enter Try.func103,Try.ntmps103;go_wp2_with (first|((with_reducible refine Qb (N:=1) rfl ?_);refine Ic ?hg (N:=1) ?hd (cs:=#[.slice zb Ma.length yb,.int .i64 Oa,.int .i64 Pa,.int .i64 Na,.int .i64 Xd]) (t:=106) ?hr ?_;(case hd|hg=>rfl);(case hr=>exact jaj);intro Ka hg w3 Bd hb;have Pb:=aa.mk (Ga maj hb);have Rb:=aa.mk (Bd);have Yb:=aa.mk ((by rw [hg];exact (Qa maj):w.heap.size ≤ Ka));have Vc:=aa.mk ((by rw [hg];exact (Qa maj):w.heap.size ≤ Ka));clear HB;have HB:=Pb;have qa:=Rb;have Vf:=Yb;have Xa:=Vc;clear Pb Rb Yb Vc hb Bd hg)|((with_reducible refine Qb (N:=2) rfl ?_);refine Ic ?hg (N:=2) ?hd (cs:=#[.slice none 0 0,.int .i64 0,.int .i64 0,.int .i64 0,.int .i64 0]) (t:=83) ?hr ?_;(case hd|hg=>rfl);(case hr=>exact jaj);intro Cd hg w4 Bd hb;have Pb:=aa.mk (Ta (g:=Ka) (o:=.cells #[.slice zb Ma.length yb,.int .i64 Oa,.int .i64 Pa,.int .i64 Na,.int .i64 Xd] 106 (0,0)) naj hb);have Rb:=aa.mk (Ga laj hb);have Yb:=aa.mk (Bd);have Vc:=aa.mk ((by rw [hg];exact (Qa laj):w.heap.size ≤ Cd));have Df:=aa.mk ((by rw [hg];exact (Qa laj):w.heap.size ≤ Cd));have Qg:=aa.mk ((by rw [hg];exact Nat.ne_of_lt (Te (g:=Ka) (o:=.cells #[.slice zb Ma.length yb,.int .i64 Oa,.int .i64 Pa,.int .i64 Na,.int .i64 Xd] 106 (0,0)) naj):Ka ≠ Cd));have dr:=aa.mk ((by rw [hg];exact Nat.ne_of_gt (Te (g:=Ka) (o:=.cells #[.slice zb Ma.length yb,.int .i64 Oa,.int .i64 Pa,.int .i64 Na,.int .i64 Xd] 106 (0,0)) naj):Cd ≠ Ka));clear qa HB;have qa:=Pb;have HB:=Rb;have Dd:=Yb;have rQ:=Vc;have cj:=Df;have qo:=Qg;have oo:=dr;clear Pb Rb Yb Vc Df Qg dr hb Bd hg)|((with_reducible refine Qb (N:=3) rfl ?_);refine Ic ?hg (N:=3) ?hd (cs:=#[.slice none 0 0,.int .i64 0,.int .i64 0,.int .i64 0,.int .i64 0]) (t:=83) ?hr ?_;(case hd|hg=>rfl);(case hr=>exact jaj);intro we hg w5 Bd hb;have Pb:=aa.mk (Ta (g:=Ka) (o:=.cells #[.slice zb Ma.length yb,.int .i64 Oa,.int .i64 Pa,.int .i64 Na,.int .i64 Xd] 106 (0,0)) naj hb);have Rb:=aa.mk (Ta (g:=Cd) (o:=.cells #[.slice none 0 0,.int .i64 0,.int .i64 0,.int .i64 0,.int .i64 0] 83 (0,0)) Jaj hb);have Yb:=aa.mk (Ga Caj hb);have Vc:=aa.mk (Bd);have Df:=aa.mk ((by rw [hg];exact (Qa Caj):w.heap.size ≤ we));have Qg:=aa.mk ((by rw [hg];exact (Qa Caj):w.heap.size ≤ we));have dr:=aa.mk ((by rw [hg];exact Nat.ne_of_lt (Te (g:=Ka) (o:=.cells #[.slice zb Ma.length yb,.int .i64 Oa,.int .i64 Pa,.int .i64 Na,.int .i64 Xd] 106 (0,0)) naj):Ka ≠ we));have yE:=aa.mk ((by rw [hg];exact Nat.ne_of_gt (Te (g:=Ka) (o:=.cells #[.slice zb Ma.length yb,.int .i64 Oa,.int .i64 Pa,.int .i64 Na,.int .i64 Xd] 106 (0,0)) naj):we ≠ Ka));have xE:=aa.mk ((by rw [hg];exact Nat.ne_of_lt (Te (g:=Cd) (o:=.cells #[.slice none 0 0,.int .i64 0,.int .i64 0,.int .i64 0,.int .i64 0] 83 (0,0)) Jaj):Cd ≠ we));have uO:=aa.mk ((by rw [hg];exact Nat.ne_of_gt (Te (g:=Cd) (o:=.cells #[.slice none 0 0,.int .i64 0,.int .i64 0,.int .i64 0,.int .i64 0] 83 (0,0)) Jaj):we ≠ Cd));clear qa Dd HB;have qa:=Pb;have Dd:=Rb;have HB:=Yb;have Zd:=Vc;have qQ:=Df;have gp:=Qg;have Ki:=dr;have mo:=yE;have Ge:=xE;have jo:=uO;clear Pb Rb Yb Vc Df Qg dr yE xE uO hb Bd hg;have K7:=qo.out;have H7:=oo.out;have J7:=Ki.out;have G7:=mo.out;have O8:w5.cell? ⟨Ka,0,none⟩=some (.slice zb Ma.length yb):=(ya qa.out 0).trans rfl;have N8:w5.cell? ⟨Ka,1,none⟩=some (.int .i64 Oa):=(ya qa.out 1).trans rfl;have M8:w5.cell? ⟨Ka,2,none⟩=some (.int .i64 Pa):=(ya qa.out 2).trans rfl;have L8:w5.cell? ⟨Ka,3,none⟩=some (.int .i64 Na):=(ya qa.out 3).trans rfl;have K8:w5.cell? ⟨Ka,4,none⟩=some (.int .i64 Xd):=(ya qa.out 4).trans rfl;have k8:=za qa.out 0;have j8:=za qa.out 1;have Z7:=za qa.out 2;have Y7:=za qa.out 3;have X7:=za qa.out 4)|((with_reducible refine Kb (f:=122) rfl ?_);refine ie (some 6) rfl rfl Try.func122 (by kernel_rfl) rfl #[.slice zb Ma.length yb] rfl paj ?_;(with_reducible refine (Lc.calls k _ _ Ma t104 _ ?Oc ?Nc A2.out).mono ?_);(case Oc=>repeat (first|exact (Kd.Za Ng.out HB.out)|(with_reducible refine Kd.Gd ?_ _)|(with_reducible refine Kd.Ed ?_ _)|(with_reducible refine Kd.He ?_)));(case Nc=>exact Pg.out);rintro e w9 ⟨v105,rfl,Rg,hb⟩;refine ⟨_,rfl,?_⟩;have Pb:=aa.mk (Kd.Xc Rg (Qa Haj));have Rb:=aa.mk (Ta (g:=Ka) (o:=.cells #[.slice zb Ma.length yb,.int .i64 Oa,.int .i64 Pa,.int .i64 Na,.int .i64 Xd] 106 (0,0)) naj hb);have Yb:=aa.mk (Ta (g:=Cd) (o:=.cells #[.slice none 0 0,.int .i64 0,.int .i64 0,.int .i64 0,.int .i64 0] 83 (0,0)) Jaj hb);have Vc:=aa.mk (Ta (g:=we) (o:=.cells #[.slice none 0 0,.int .i64 0,.int .i64 0,.int .i64 0,.int .i64 0] 83 (0,0)) (by (with_reducible repeat (first|refine Ca ?_ _|refine Fa ?_|refine Ba ?_ _));exact Zd.out) hb);have Df:=aa.mk (Ga Haj hb);clear qa Dd Zd HB;have jr:=Pb;have qa:=Rb;have Dd:=Yb;have Zd:=Vc;have HB:=Df;clear Pb Rb Yb Vc Df;(try clear hb);(try clear Cl);(try clear hk);(try clear hi);(try clear Rg);obtain ⟨kE,xu,zD⟩:=Kd.Vb jr.out;subst zD;have dac:=jo.out;have Xab:=Ge.out;have Rj:w9.cell? ⟨we,0,none⟩=some (.slice none 0 0):=(ya Zd.out 0).trans rfl;have Qj:w9.cell? ⟨we,1,none⟩=some (.int .i64 0):=(ya Zd.out 1).trans rfl;have Pj:w9.cell? ⟨we,2,none⟩=some (.int .i64 0):=(ya Zd.out 2).trans rfl;have Oj:w9.cell? ⟨we,3,none⟩=some (.int .i64 0):=(ya Zd.out 3).trans rfl;have Mj:w9.cell? ⟨we,4,none⟩=some (.int .i64 0):=(ya Zd.out 4).trans rfl;have Lj:=za Zd.out 0;have Kj:=za Zd.out 1;have Jj:=za Zd.out 2;have Ij:=za Zd.out 3;have Hj:=za Zd.out 4;have Bn:w9.cell? ⟨Ka,0,none⟩=some (.slice zb Ma.length yb):=(ya qa.out 0).trans rfl;have zn:w9.cell? ⟨Ka,1,none⟩=some (.int .i64 Oa):=(ya qa.out 1).trans rfl;have vn:w9.cell? ⟨Ka,2,none⟩=some (.int .i64 Pa):=(ya qa.out 2).trans rfl;have qn:w9.cell? ⟨Ka,3,none⟩=some (.int .i64 Na):=(ya qa.out 3).trans rfl;have pn:w9.cell? ⟨Ka,4,none⟩=some (.int .i64 Xd):=(ya qa.out 4).trans rfl;have kn:=za qa.out 0;have gn:=za qa.out 1;have en:=za qa.out 2;have dn:=za qa.out 3;have bn:=za qa.out 4;have Kv:w9.cell? ⟨Cd,0,none⟩=some (.slice none 0 0):=(ya Dd.out 0).trans rfl;have Jv:w9.cell? ⟨Cd,1,none⟩=some (.int .i64 0):=(ya Dd.out 1).trans rfl;have Iv:w9.cell? ⟨Cd,2,none⟩=some (.int .i64 0):=(ya Dd.out 2).trans rfl;have Hv:w9.cell? ⟨Cd,3,none⟩=some (.int .i64 0):=(ya Dd.out 3).trans rfl;have Gv:w9.cell? ⟨Cd,4,none⟩=some (.int .i64 0):=(ya Dd.out 4).trans rfl;have Fv:=za Dd.out 0;have Dv:=za Dd.out 1;have Cv:=za Dd.out 2;have Bv:=za Dd.out 3;have Av:=za Dd.out 4));refine bodyPost_ret (results_cell_row rfl _ _ Cd 83 #[.slice kE t104.length xu,.int .i64 Oa,.int .i64 Pa,.int .i64 Na,.int .i64 Xd] (0,0) _ rfl (by (with_reducible repeat (first|refine Ca ?_ _|refine Fa ?_|refine Ba ?_ _));refine ud (cs:=#[.slice kE t104.length xu,.int .i64 Oa,.int .i64 Pa,.int .i64 Na,.int .i64 0]) ?_ 4 _ rfl;(with_reducible repeat (first|refine Ca ?_ _|refine Fa ?_|refine Ba ?_ _));refine ud (cs:=#[.slice kE t104.length xu,.int .i64 Oa,.int .i64 Pa,.int .i64 0,.int .i64 0]) ?_ 3 _ rfl;(with_reducible repeat (first|refine Ca ?_ _|refine Fa ?_|refine Ba ?_ _));refine ud (cs:=#[.slice kE t104.length xu,.int .i64 Oa,.int .i64 0,.int .i64 0,.int .i64 0]) ?_ 2 _ rfl;(with_reducible repeat (first|refine Ca ?_ _|refine Fa ?_|refine Ba ?_ _));refine ud (cs:=#[.slice kE t104.length xu,.int .i64 0,.int .i64 0,.int .i64 0,.int .i64 0]) ?_ 1 _ rfl;(with_reducible repeat (first|refine Ca ?_ _|refine Fa ?_|refine Ba ?_ _));refine ud (cs:=#[.slice none 0 0,.int .i64 0,.int .i64 0,.int .i64 0,.int .i64 0]) ?_ 0 _ rfl;(with_reducible repeat (first|refine Ca ?_ _|refine Fa ?_|refine Ba ?_ _));refine ld ?_ Ge.out _;(with_reducible repeat (first|refine Ca ?_ _|refine Fa ?_|refine Ba ?_ _));refine ld ?_ Ge.out _;(with_reducible repeat (first|refine Ca ?_ _|refine Fa ?_|refine Ba ?_ _));refine ld ?_ Ge.out _;(with_reducible repeat (first|refine Ca ?_ _|refine Fa ?_|refine Ba ?_ _));refine ld ?_ Ge.out _;(with_reducible repeat (first|refine Ca ?_ _|refine Fa ?_|refine Ba ?_ _));refine ld ?_ Ge.out _;(with_reducible repeat (first|refine Ca ?_ _|refine Fa ?_|refine Ba ?_ _));exact Dd.out) Try.underlying83 rfl (by kernel_rfl)) rfl ?_;exact ⟨_,taj,by (with_reducible repeat (first|apply Kd.Ia|apply Kd.La|apply Kd.Ra));exact Kd.Eb (Kd.Jf (p:=⟨Cd,4,none⟩) (Kd.Jf (p:=⟨Cd,3,none⟩) (Kd.Jf (p:=⟨Cd,2,none⟩) (Kd.Jf (p:=⟨Cd,1,none⟩) (Kd.Jf (p:=⟨Cd,0,none⟩) (Kd.Jf (p:=⟨we,4,none⟩) (Kd.Jf (p:=⟨we,3,none⟩) (Kd.Jf (p:=⟨we,2,none⟩) (Kd.Jf (p:=⟨we,1,none⟩) (Kd.Jf (p:=⟨we,0,none⟩) (Kd.Xj (Kd.Xj jr.out Zd.out (by decide)) Dd.out (by decide)) (fun _ hk=>hk.1.2) (.slice kE t104.length xu)) (fun _ hk=>hk.1.2) (.int .i64 Oa)) (fun _ hk=>hk.1.2) (.int .i64 Pa)) (fun _ hk=>hk.1.2) (.int .i64 Na)) (fun _ hk=>hk.1.2) (.int .i64 Xd)) (fun _ hk=>hk.2) (.slice kE t104.length xu)) (fun _ hk=>hk.2) (.int .i64 Oa)) (fun _ hk=>hk.2) (.int .i64 Pa)) (fun _ hk=>hk.2) (.int .i64 Na)) (fun _ hk=>hk.2) (.int .i64 Xd)) (fun _ hk=>trivial),dak⟩
def gh.f (l0:List Int) (a1:Int):Option (Int):=if (wrap64 (a1 - (l0.length:Int))) < 0 then (some (-1)) else (some (wrap64 (a1 - (l0.length:Int))))
theorem gh.calls (A0:Option Addr) (c0:Nat) (l0:List Int) (a1:Int) (r:Int) (w:World) (Hi:Kd.C (Kd.int .i64) w A0 l0.length l0) (hc0:l0.length ≤ c0) (h:gh.f l0 a1=some r) :
  Calls Try.prog 51 #[.slice A0 l0.length c0,.int .i64 a1] w fun e w'=>e = .returned (.int .i64 r)∧Sb w w':=by
 have ak:=aa.mk Hi;have oy:=aa.mk hc0;clear Hi hc0;have H:(if (wrap64 (a1 - (l0.length:Int))) < 0 then (some (-1)) else (some (wrap64 (a1 - (l0.length:Int)))))=some r:=h;clear h
 by_cases c3:(wrap64 (a1 - (l0.length:Int))) < 0
 ·rw [if_pos c3] at H;have Ah:decide ((wrap64 (a1 - (l0.length:Int))) < 0)=true:=decide_eq_true c3;clear c3;obtain rfl:=Option.some.inj H;go_enter Try.func51,Try.ntmps51;go_wp2;go_ret;exact ⟨Naj,xaj⟩
 ·rw [if_neg c3] at H;have Ah:decide ((wrap64 (a1 - (l0.length:Int))) < 0)=false:=decide_eq_false c3;clear c3;obtain rfl:=Option.some.inj H;go_enter Try.func51,Try.ntmps51;go_wp2;go_ret;exact ⟨Naj,xaj⟩
def Zc.l0:Nat→List (nj)→Int→Int→Option (Int)
 | 0,_,_,_=>none
 | k + 1,x0,x1,x5=>if x5 < (x0.length:Int) then (if 0 ≤ x5 then ((Lh.f k ((yc x0 x5).f0) ((yc x0 x5).f1) ((yc x0 x5).f2) ((yc x0 x5).f3) ((yc x0 x5).f4) x1).bind fun t102=>(if t102 < 0 then (some (-1)) else (Zc.l0 k x0 t102 (wrap64 (x5 + 1))))) else (none)) else (some x1)
def Zc.f (k:Nat) (l0:List (nj)) (a1:Int):Option (Int):=if (wrap64 (a1 - (l0.length:Int))) < 0 then (some (-1)) else (Zc.l0 k l0 (wrap64 (a1 - (l0.length:Int))) 0)
theorem Zc.calls (k:Nat) (A0:Option Addr) (c0:Nat) (l0:List (nj)) (a1:Int) (r:Int) (w:World) (Hi:Kd.C qw w A0 l0.length l0) (hc0:l0.length ≤ c0) (h:Zc.f k l0 a1=some r) :
  Calls Try.prog 65 #[.slice A0 l0.length c0,.int .i64 a1] w fun e w'=>e = .returned (.int .i64 r)∧Below w.heap.size w w':=by
 have QI:=Try.underlying106;have ak:=aa.mk Hi;have oy:=aa.mk hc0;clear Hi hc0;have HB:=aa.mk (Below.refl w.heap.size w);have H:(if (wrap64 (a1 - (l0.length:Int))) < 0 then (some (-1)) else (Zc.l0 k l0 (wrap64 (a1 - (l0.length:Int))) 0))=some r:=h;clear h
 by_cases c3:(wrap64 (a1 - (l0.length:Int))) < 0
 ·rw [if_pos c3] at H;have Ah:decide ((wrap64 (a1 - (l0.length:Int))) < 0)=true:=decide_eq_true c3;clear c3;obtain rfl:=Option.some.inj H;go_enter Try.func65,Try.ntmps65;go_wp2;go_ret;exact ⟨taj,qaj⟩
 ·rw [if_neg c3] at H;have Ah:decide ((wrap64 (a1 - (l0.length:Int))) < 0)=false:=decide_eq_false c3;clear c3;have H':=aa.mk H;clear H;go_enter Try.func65,Try.ntmps65;go_wp2
  go_loopg [1,5] k (fun kq v1 v5 w'=>∃ (Md:Int) (Da:Int),v1 = .int .i64 Md∧v5 = .int .i64 Da∧aa (Zc.l0 kq l0 Md Da=some r)∧aa (kq ≤ k)∧aa (Below w.heap.size w w'))
  case atStart=>exact ⟨(wrap64 (a1 - (l0.length:Int))),(0),raj,raj,H',⟨Nat.le_refl _⟩,⟨qaj⟩⟩
  case round =>
   clear H'
   try clear p2
   try clear c3
   try clear Ah
   (try clear HA);(try clear Kf);(try clear HB);obtain ⟨Md,Da,rfl,rfl,HA,Kf,HB⟩:=hrel;cases gk with
   | zero=>exact absurd HA.out (by simp [Zc.l0])
   | succ k1 =>
    have H:=HA.out;clear HA;simp only [Zc.l0] at H
    by_cases c4:Da < (l0.length:Int)
    ·rw [if_pos c4] at H;have zm:decide (Da < (l0.length:Int))=true:=decide_eq_true c4;clear c4
     by_cases c5:0 ≤ Da
     ·rw [if_pos c5] at H;have Rq:decide (0 ≤ Da)=true:=decide_eq_true c5;clear c5;replace H:=Option.bind_eq_some_iff.mp H;obtain ⟨t102,tQ,H⟩:=H
      try dsimp only at H
      have A6:=aa.mk tQ;clear tQ
      by_cases c7:t102 < 0
      ·rw [if_pos c7] at H;have yu:decide (t102 < 0)=true:=decide_eq_true c7;clear c7;obtain rfl:=Option.some.inj H;have Mf:0 ≤ (Da:Int):=Ja;have Lf:Da < (l0.length:Int):=Ja;obtain ⟨Cm,lE,ND,Sj,Cf,Fj,Ej,Dj,Cj,Ys,nt⟩:=Mz ak.out Da Mf Lf;cases Sj;replace Cf:=Jb HB.out Cf;replace Fj:=Jb HB.out Fj;replace Ej:=Jb HB.out Ej;replace Dj:=Jb HB.out Dj;replace Cj:=Jb HB.out Cj;have aA:=aa.mk nt;have fA:=aa.mk Ys;clear nt Ys;replace Mf:=eq_true Mf;replace Lf:=eq_true Lf;go_wp2_with (first|((with_reducible refine Kb (f:=100) rfl ?_);refine ie (some 23) rfl rfl Try.func100 (by kernel_rfl) rfl #[.agg #[.slice lE ((yc l0 Da).f0).length ND,.int .i64 ((yc l0 Da).f1),.int .i64 ((yc l0 Da).f2),.int .i64 ((yc l0 Da).f3),.int .i64 ((yc l0 Da).f4)],.int .i64 Md] rfl paj ?_;(with_reducible refine (Lh.calls k1 _ _ ((yc l0 Da).f0) ((yc l0 Da).f1) ((yc l0 Da).f2) ((yc l0 Da).f3) ((yc l0 Da).f4) Md t102 _ ?Oc ?Nc A6.out).mono ?_);(case Oc=>repeat (first|exact (Kd.Za aA.out HB.out)|(with_reducible refine Kd.Gd ?_ _)|(with_reducible refine Kd.Ed ?_ _)|(with_reducible refine Kd.He ?_)));(case Nc=>exact fA.out);rintro e w8 ⟨rfl,hb⟩;refine ⟨_,rfl,?_⟩;have Pb:=aa.mk (Ga maj hb);clear HB;have HB:=Pb;clear Pb;(try clear hb);(try clear Cl);(try clear hk);(try clear hi)));go_ret;exact ⟨taj,qaj⟩
      ·rw [if_neg c7] at H;have yu:decide (t102 < 0)=false:=decide_eq_false c7;clear c7;have H':=aa.mk H;clear H;have Mf:0 ≤ (Da:Int):=Ja;have Lf:Da < (l0.length:Int):=Ja;obtain ⟨Cm,lE,ND,Sj,Cf,Fj,Ej,Dj,Cj,Ys,nt⟩:=Mz ak.out Da Mf Lf;cases Sj;replace Cf:=Jb HB.out Cf;replace Fj:=Jb HB.out Fj;replace Ej:=Jb HB.out Ej;replace Dj:=Jb HB.out Dj;replace Cj:=Jb HB.out Cj;have aA:=aa.mk nt;have fA:=aa.mk Ys;clear nt Ys;replace Mf:=eq_true Mf;replace Lf:=eq_true Lf;go_wp2_with (first|((with_reducible refine Kb (f:=100) rfl ?_);refine ie (some 23) rfl rfl Try.func100 (by kernel_rfl) rfl #[.agg #[.slice lE ((yc l0 Da).f0).length ND,.int .i64 ((yc l0 Da).f1),.int .i64 ((yc l0 Da).f2),.int .i64 ((yc l0 Da).f3),.int .i64 ((yc l0 Da).f4)],.int .i64 Md] rfl paj ?_;(with_reducible refine (Lh.calls k1 _ _ ((yc l0 Da).f0) ((yc l0 Da).f1) ((yc l0 Da).f2) ((yc l0 Da).f3) ((yc l0 Da).f4) Md t102 _ ?Oc ?Nc A6.out).mono ?_);(case Oc=>repeat (first|exact (Kd.Za aA.out HB.out)|(with_reducible refine Kd.Gd ?_ _)|(with_reducible refine Kd.Ed ?_ _)|(with_reducible refine Kd.He ?_)));(case Nc=>exact fA.out);rintro e w9 ⟨rfl,hb⟩;refine ⟨_,rfl,?_⟩;have Pb:=aa.mk (Ga maj hb);clear HB;have HB:=Pb;clear Pb;(try clear hb);(try clear Cl);(try clear hk);(try clear hi)))
       go_roundg k1
       case measure=>have:=Kf.out;omega
       case rel=>exact ⟨(t102),(wrap64 (Da + 1)),raj,raj,H',⟨by have:=Kf.out;omega⟩,⟨qaj⟩⟩
     ·rw [if_neg c5] at H;exact absurd H (by simp)
    ·rw [if_neg c4] at H;have zm:decide (Da < (l0.length:Int))=false:=decide_eq_false c4;clear c4;obtain rfl:=Option.some.inj H;go_wp2;go_ret;exact ⟨taj,qaj⟩
def jh.f (k:Nat) (Ma:List Int) (Oa:Int) (Pa:Int) (Na:Int) (oa:List (nj)) (a1:Int):Option (Int):=(gh.f Ma a1).bind fun t102=>(if t102 < 0 then (some (-1)) else ((Zc.f k oa t102).bind fun t103=>(if t103 < 0 then (some (-1)) else (some t103))))
theorem jh.calls (k:Nat) (zb:Option Addr) (yb:Nat) (Ma:List Int) (Oa:Int) (Pa:Int) (Na:Int) (Ob:Option Addr) (Fb:Nat) (oa:List (nj)) (a1:Int) (r:Int) (w:World) (qd:Kd.C (Kd.int .i64) w zb Ma.length Ma) (Ad:Ma.length ≤ yb) (fe:Kd.C qw w Ob oa.length oa) (Fe:oa.length ≤ Fb) (h:jh.f k Ma Oa Pa Na oa a1=some r) :
  Calls Try.prog 25 #[.agg #[.slice zb Ma.length yb,.int .i64 Oa,.int .i64 Pa,.int .i64 Na,.slice Ob oa.length Fb],.int .i64 a1] w fun e w'=>e = .returned (.int .i64 r)∧Below w.heap.size w w':=by
 have j7:=Try.underlying40;have Ng:=aa.mk qd;have Pg:=aa.mk Ad;clear qd Ad;have Dh:=aa.mk fe;have bk:=aa.mk Fe;clear fe Fe;have HB:=aa.mk (Below.refl w.heap.size w);have H:((gh.f Ma a1).bind fun t102=>(if t102 < 0 then (some (-1)) else ((Zc.f k oa t102).bind fun t103=>(if t103 < 0 then (some (-1)) else (some t103)))))=some r:=h;clear h;replace H:=Option.bind_eq_some_iff.mp H;obtain ⟨t102,sG,H⟩:=H
 try dsimp only at H
 have A3:=aa.mk sG;clear sG
 by_cases c4:t102 < 0
 ·rw [if_pos c4] at H;have zm:decide (t102 < 0)=true:=decide_eq_true c4;clear c4;obtain rfl:=Option.some.inj H;go_enter Try.func25,Try.ntmps25;go_wp2_with (first|((with_reducible refine Qb (N:=2) rfl ?_);refine Ic ?hg (N:=2) ?hd (cs:=#[.slice zb Ma.length yb,.int .i64 Oa,.int .i64 Pa,.int .i64 Na,.slice Ob oa.length Fb]) (t:=40) ?hr ?_;(case hd|hg=>rfl);(case hr=>exact jaj);intro Ka hg w5 Bd hb;have Pb:=aa.mk (Ga maj hb);have Rb:=aa.mk (Bd);have Yb:=aa.mk ((by rw [hg];exact (Qa maj):w.heap.size ≤ Ka));have Vc:=aa.mk ((by rw [hg];exact (Qa maj):w.heap.size ≤ Ka));clear HB;have HB:=Pb;have qa:=Rb;have Vf:=Yb;have Xa:=Vc;clear Pb Rb Yb Vc hb Bd hg;have uu:w5.cell? ⟨Ka,0,none⟩=some (.slice zb Ma.length yb):=(ya qa.out 0).trans rfl;have tu:w5.cell? ⟨Ka,1,none⟩=some (.int .i64 Oa):=(ya qa.out 1).trans rfl;have su:w5.cell? ⟨Ka,2,none⟩=some (.int .i64 Pa):=(ya qa.out 2).trans rfl;have ru:w5.cell? ⟨Ka,3,none⟩=some (.int .i64 Na):=(ya qa.out 3).trans rfl;have qu:w5.cell? ⟨Ka,4,none⟩=some (.slice Ob oa.length Fb):=(ya qa.out 4).trans rfl;have nu:=za qa.out 0;have lu:=za qa.out 1;have ku:=za qa.out 2;have ju:=za qa.out 3;have iu:=za qa.out 4)|((with_reducible refine Kb (f:=51) rfl ?_);refine ie (some 8) rfl rfl Try.func51 (by kernel_rfl) rfl #[.slice zb Ma.length yb,.int .i64 a1] rfl paj ?_;(with_reducible refine (gh.calls _ _ Ma a1 t102 _ ?Oc ?Nc A3.out).mono ?_);(case Oc=>repeat (first|exact (Kd.Za Ng.out HB.out)|(with_reducible refine Kd.Gd ?_ _)|(with_reducible refine Kd.Ed ?_ _)|(with_reducible refine Kd.He ?_)));(case Nc=>exact Pg.out);rintro e w' ⟨rfl,⟨nd,rfl⟩⟩;refine ⟨_,rfl,?_⟩));go_ret;exact ⟨taj,oaj⟩
 ·rw [if_neg c4] at H;have zm:decide (t102 < 0)=false:=decide_eq_false c4;clear c4;replace H:=Option.bind_eq_some_iff.mp H;obtain ⟨t103,kZ,H⟩:=H
  try dsimp only at H
  have A7:=aa.mk kZ;clear kZ
  by_cases c8:t103 < 0
  ·rw [if_pos c8] at H;have nT:decide (t103 < 0)=true:=decide_eq_true c8;clear c8;obtain rfl:=Option.some.inj H;go_enter Try.func25,Try.ntmps25;go_wp2_with (first|((with_reducible refine Qb (N:=2) rfl ?_);refine Ic ?hg (N:=2) ?hd (cs:=#[.slice zb Ma.length yb,.int .i64 Oa,.int .i64 Pa,.int .i64 Na,.slice Ob oa.length Fb]) (t:=40) ?hr ?_;(case hd|hg=>rfl);(case hr=>exact jaj);intro Ka hg w9 Bd hb;have Pb:=aa.mk (Ga maj hb);have Rb:=aa.mk (Bd);have Yb:=aa.mk ((by rw [hg];exact (Qa maj):w.heap.size ≤ Ka));have Vc:=aa.mk ((by rw [hg];exact (Qa maj):w.heap.size ≤ Ka));clear HB;have HB:=Pb;have qa:=Rb;have Vf:=Yb;have Xa:=Vc;clear Pb Rb Yb Vc hb Bd hg;have Wl:w9.cell? ⟨Ka,0,none⟩=some (.slice zb Ma.length yb):=(ya qa.out 0).trans rfl;have Vl:w9.cell? ⟨Ka,1,none⟩=some (.int .i64 Oa):=(ya qa.out 1).trans rfl;have Ul:w9.cell? ⟨Ka,2,none⟩=some (.int .i64 Pa):=(ya qa.out 2).trans rfl;have Tl:w9.cell? ⟨Ka,3,none⟩=some (.int .i64 Na):=(ya qa.out 3).trans rfl;have Sl:w9.cell? ⟨Ka,4,none⟩=some (.slice Ob oa.length Fb):=(ya qa.out 4).trans rfl;have Rl:=za qa.out 0;have Ql:=za qa.out 1;have Ol:=za qa.out 2;have Nl:=za qa.out 3;have Ml:=za qa.out 4)|((with_reducible refine Kb (f:=51) rfl ?_);refine ie (some 8) rfl rfl Try.func51 (by kernel_rfl) rfl #[.slice zb Ma.length yb,.int .i64 a1] rfl paj ?_;(with_reducible refine (gh.calls _ _ Ma a1 t102 _ ?Oc ?Nc A3.out).mono ?_);(case Oc=>repeat (first|exact (Kd.Za Ng.out HB.out)|(with_reducible refine Kd.Gd ?_ _)|(with_reducible refine Kd.Ed ?_ _)|(with_reducible refine Kd.He ?_)));(case Nc=>exact Pg.out);rintro e w' ⟨rfl,⟨nd,rfl⟩⟩;refine ⟨_,rfl,?_⟩)|((with_reducible refine Kb (f:=65) rfl ?_);refine ie (some 14) rfl rfl Try.func65 (by kernel_rfl) rfl #[.slice Ob oa.length Fb,.int .i64 t102] rfl paj ?_;(with_reducible refine (Zc.calls k _ _ oa t102 t103 _ ?Oc ?Nc A7.out).mono ?_);(case Oc=>repeat (first|exact (Kd.Za Dh.out laj)|(with_reducible refine Kd.Gd ?_ _)|(with_reducible refine Kd.Ed ?_ _)|(with_reducible refine Kd.He ?_)));(case Nc=>exact bk.out);rintro e Dl ⟨rfl,hb⟩;refine ⟨_,rfl,?_⟩;have Pb:=aa.mk (Ta (g:=Ka) (o:=.cells #[.slice zb Ma.length yb,.int .i64 Oa,.int .i64 Pa,.int .i64 Na,.slice Ob oa.length Fb] 40 (0,0)) naj hb);have Rb:=aa.mk (Ga laj hb);clear qa HB;have qa:=Pb;have HB:=Rb;clear Pb Rb;(try clear hb);(try clear Cl);(try clear hk);(try clear hi)));go_ret;exact ⟨taj,oaj⟩
  ·rw [if_neg c8] at H;have nT:decide (t103 < 0)=false:=decide_eq_false c8;clear c8;obtain rfl:=Option.some.inj H;go_enter Try.func25,Try.ntmps25;go_wp2_with (first|((with_reducible refine Qb (N:=2) rfl ?_);refine Ic ?hg (N:=2) ?hd (cs:=#[.slice zb Ma.length yb,.int .i64 Oa,.int .i64 Pa,.int .i64 Na,.slice Ob oa.length Fb]) (t:=40) ?hr ?_;(case hd|hg=>rfl);(case hr=>exact jaj);intro Ka hg Vv Bd hb;have Pb:=aa.mk (Ga maj hb);have Rb:=aa.mk (Bd);have Yb:=aa.mk ((by rw [hg];exact (Qa maj):w.heap.size ≤ Ka));have Vc:=aa.mk ((by rw [hg];exact (Qa maj):w.heap.size ≤ Ka));clear HB;have HB:=Pb;have qa:=Rb;have Vf:=Yb;have Xa:=Vc;clear Pb Rb Yb Vc hb Bd hg;have Bn:Vv.cell? ⟨Ka,0,none⟩=some (.slice zb Ma.length yb):=(ya qa.out 0).trans rfl;have zn:Vv.cell? ⟨Ka,1,none⟩=some (.int .i64 Oa):=(ya qa.out 1).trans rfl;have vn:Vv.cell? ⟨Ka,2,none⟩=some (.int .i64 Pa):=(ya qa.out 2).trans rfl;have qn:Vv.cell? ⟨Ka,3,none⟩=some (.int .i64 Na):=(ya qa.out 3).trans rfl;have pn:Vv.cell? ⟨Ka,4,none⟩=some (.slice Ob oa.length Fb):=(ya qa.out 4).trans rfl;have kn:=za qa.out 0;have gn:=za qa.out 1;have en:=za qa.out 2;have dn:=za qa.out 3;have bn:=za qa.out 4)|((with_reducible refine Kb (f:=51) rfl ?_);refine ie (some 8) rfl rfl Try.func51 (by kernel_rfl) rfl #[.slice zb Ma.length yb,.int .i64 a1] rfl paj ?_;(with_reducible refine (gh.calls _ _ Ma a1 t102 _ ?Oc ?Nc A3.out).mono ?_);(case Oc=>repeat (first|exact (Kd.Za Ng.out HB.out)|(with_reducible refine Kd.Gd ?_ _)|(with_reducible refine Kd.Ed ?_ _)|(with_reducible refine Kd.He ?_)));(case Nc=>exact Pg.out);rintro e w' ⟨rfl,⟨nd,rfl⟩⟩;refine ⟨_,rfl,?_⟩)|((with_reducible refine Kb (f:=65) rfl ?_);refine ie (some 14) rfl rfl Try.func65 (by kernel_rfl) rfl #[.slice Ob oa.length Fb,.int .i64 t102] rfl paj ?_;(with_reducible refine (Zc.calls k _ _ oa t102 t103 _ ?Oc ?Nc A7.out).mono ?_);(case Oc=>repeat (first|exact (Kd.Za Dh.out laj)|(with_reducible refine Kd.Gd ?_ _)|(with_reducible refine Kd.Ed ?_ _)|(with_reducible refine Kd.He ?_)));(case Nc=>exact bk.out);rintro e xU ⟨rfl,hb⟩;refine ⟨_,rfl,?_⟩;have Pb:=aa.mk (Ta (g:=Ka) (o:=.cells #[.slice zb Ma.length yb,.int .i64 Oa,.int .i64 Pa,.int .i64 Na,.slice Ob oa.length Fb] 40 (0,0)) naj hb);have Rb:=aa.mk (Ga laj hb);clear qa HB;have qa:=Pb;have HB:=Rb;clear Pb Rb;(try clear hb);(try clear Cl);(try clear hk);(try clear hi)));go_ret;exact ⟨taj,oaj⟩
def Td.l0:Nat→List Int→List Int→Int→Option (List Int)
 | 0,_,_,_=>none
 | k + 1,x0,x3,x4=>if x4 < (x0.length:Int) then (if 0 ≤ x4 then (if x4 < (x3.length:Int) then (Td.l0 k x0 (x3.set (x4:Int).toNat (rd x0 x4)) (wrap64 (x4 + 1))) else (none)) else (none)) else (some x3)
def Td.f (k:Nat) (l0:List Int):Option (List Int):=if 0 ≤ (l0.length:Int) then (if ((l0.length:Int):Int).toNat ≤ 35184372088832 then (Td.l0 k l0 (List.replicate ((l0.length:Int):Int).toNat 0) 0) else (none)) else (none)
theorem Td.calls (k:Nat) (A0:Option Addr) (c0:Nat) (l0:List Int) (r:List Int) (w:World) (Hi:Kd.C (Kd.int .i64) w A0 l0.length l0) (hc0:l0.length ≤ c0) (h:Td.f k l0=some r) :
  Calls Try.prog 56 #[.slice A0 l0.length c0] w fun e w'=>∃ Di:Value,e = .returned (Di)∧Kd.R (Kd.int .i64) 3 w' w.heap.size (fun _=>True) Di r∧Below w.heap.size w w':=by
 have ak:=aa.mk Hi;have oy:=aa.mk hc0;clear Hi hc0;have HB:=aa.mk (Below.refl w.heap.size w);have H:(if 0 ≤ (l0.length:Int) then (if ((l0.length:Int):Int).toNat ≤ 35184372088832 then (Td.l0 k l0 (List.replicate ((l0.length:Int):Int).toNat 0) 0) else (none)) else (none))=some r:=h;clear h
 by_cases c2:0 ≤ (l0.length:Int)
 ·rw [if_pos c2] at H;have Mo:=eq_true c2;have Sq:decide (0 ≤ (l0.length:Int))=true:=decide_eq_true c2;clear c2
  by_cases c3:((l0.length:Int):Int).toNat ≤ 35184372088832
  ·rw [if_pos c3] at H;have Ah:=eq_true c3;have Kr:decide (((l0.length:Int):Int).toNat ≤ 35184372088832)=true:=decide_eq_true c3;clear c3;obtain ⟨Re,Ye⟩:∃ y_:List Int,y_=(List.replicate ((l0.length:Int):Int).toNat 0):=⟨_,rfl⟩;replace H:(Td.l0 k l0 Re 0)=some r:=by first|(rw [Ye];with_reducible exact H)|(have Qc:=(Option.bind_some _ _).symm.trans H;rw [Ye];with_reducible exact Qc)|(have Qc:=(Option.bind_some _ _).symm.trans H;with_reducible exact Qc)|with_reducible exact H|(rw [Ye];exact H)|exact H
   have Zi:=aa.mk Ye;clear Ye;have H':=aa.mk H;clear H;go_enter Try.func56,Try.ntmps56;go_wp2_with (first|((with_reducible refine Qb (N:=7) rfl ?_);refine Kd.Mr (Kd.int .i64) _ 3 rfl (N:=7) rfl 22 _ _ rfl (l0.length:Int) rfl rfl Try.underlying22 (.int .i64 0) 8 info3 rfl (by decide) (by omega) 0 (ok:=fun _=>True) (Yg:=fun _=>True) rfl (fun _ hk=>hk) trivial (Ja) (Nat.le_trans (Nat.mul_le_mul_right _ (Ja:(l0.length:Int).toNat ≤ 35184372088832)) (by omega)) (Below.refl _ _) (Nat.le_refl _) ?_;intro yA w4 eB hb Ll Pe;clear Ll Pe;(first|rw [← Zi.out] at eB|(simp only [Int.reduceToNat] at eB;rw [← Zi.out] at eB));have Pb:=aa.mk (Kd.Xc eB (Qa maj));have Rb:=aa.mk (Ga maj hb);clear HB;have uo:=Pb;have HB:=Rb;clear Pb Rb hb eB))
   go_loopg [4] k (fun kq v4 w'=>∃ (uc:List Int) (Ib:Int),v4 = .int .i64 Ib∧aa (Td.l0 kq l0 uc Ib=some r)∧aa (kq ≤ k)∧aa (Kd.R (Kd.int .i64) 3 w' w.heap.size (fun _=>True) yA uc)∧aa (Below w.heap.size w w'))
   case atStart=>exact ⟨(Re),(0),raj,H',⟨Nat.le_refl _⟩,⟨by (with_reducible repeat (first|apply Kd.Ia|apply Kd.La|apply Kd.Ra));exact uo.out⟩,⟨qaj⟩⟩
   case round =>
    clear H'
    try clear c2
    try clear Mo
    try clear Sq
    try clear p2
    try clear c3
    try clear Ah
    try clear Kr
    try clear c5
    (try clear HA);(try clear Kf);(try clear jc);(try clear HB);obtain ⟨uc,Ib,rfl,HA,Kf,jc,HB⟩:=hrel;cases gk with
    | zero=>exact absurd HA.out (by simp [Td.l0])
    | succ k1 =>
     have H:=HA.out;clear HA;simp only [Td.l0] at H
     by_cases c6:Ib < (l0.length:Int)
     ·rw [if_pos c6] at H;have Gt:decide (Ib < (l0.length:Int))=true:=decide_eq_true c6;clear c6
      by_cases c7:0 ≤ Ib
      ·rw [if_pos c7] at H;have yu:decide (0 ≤ Ib)=true:=decide_eq_true c7;clear c7
       by_cases c8:Ib < (uc.length:Int)
       ·rw [if_pos c8] at H;have nT:decide (Ib < (uc.length:Int))=true:=decide_eq_true c8;clear c8;obtain ⟨Pd,Hf⟩:∃ y_:List Int,y_=(uc.set (Ib:Int).toNat (rd l0 Ib)):=⟨_,rfl⟩;replace H:(Td.l0 k1 l0 Pd (wrap64 (Ib + 1)))=some r:=by first|(rw [Hf];with_reducible exact H)|(have Qc:=(Option.bind_some _ _).symm.trans H;rw [Hf];with_reducible exact Qc)|(have Qc:=(Option.bind_some _ _).symm.trans H;with_reducible exact Qc)|with_reducible exact H|(rw [Hf];exact H)|exact H
        have Tk:=aa.mk Hf;clear Hf;have H':=aa.mk H;clear H;have iw:0 ≤ (Ib:Int):=Ja;have dw:Ib < (l0.length:Int):=Ja;obtain ⟨BP,YJ,Zm⟩:=Kd.Ld ak.out Ib iw dw;cases YJ;replace Zm:=Jb HB.out Zm;replace iw:=eq_true iw;replace dw:=eq_true dw;have p9:0 ≤ (Ib:Int):=Ja;have q9:(Ib:Int) < ((uc.length:Int):Int):=Ja;obtain ⟨F9,co9,V3,gb9,gl9,cl9,mQ⟩:=Kd.qj jc.out (by omega);(first|cases V3|(injection V3 with ej qv tv;(first|subst ej|(injection ej with ej;subst ej));subst tv;clear qv));have GB9:=aa.mk gb9;have GG9:=aa.mk mQ;clear gb9 gl9 mQ;obtain ⟨FI,jJ⟩:=Kd.Dg 0 jc.out (Ib:Int) p9 q9;replace p9:=eq_true p9;replace q9:=eq_true q9;have jU:=Kd.vk jc.out (Ib:Int) (rd l0 Ib);go_wp2_with (first|((with_reducible refine Ce (t:=3) (p:=20) rfl ?_);refine Sd (t:=3) (p:=20) (v:=?U5) (w1:=(wr.setCell ⟨F9,(Ib:Int).toNat,none⟩ (.int .i64 (rd l0 Ib)))) ?hg ?ho ?hn ?hr ?_;(case ho=>rfl);(case hg=>rfl);(case hn=>rfl);(case hr=>exact jaj);intro Dl hw;have hg:wr.grownBy Dl (some F9):=(by rw [hw];exact jU.2);have Gj:Kd.R (Kd.int .i64) 3 Dl w.heap.size (fun _=>True) (.slice (some ⟨F9,0,none⟩) uc.length co9) Pd:=(by rw [hw,Tk.out];exact jU.1);clear jU;have Pb:=aa.mk (Gj);have Rb:=aa.mk ((by rw [hw];exact ta (HB.out) GB9.out:Below w.heap.size w Dl));clear jc HB;have jc:=Pb;have HB:=Rb;clear Pb Rb hg hw Gj))
        go_roundg k1
        case measure=>have:=Kf.out;omega
        case rel=>exact ⟨(Pd),(wrap64 (Ib + 1)),raj,H',⟨by have:=Kf.out;omega⟩,⟨Uaj⟩,⟨qaj⟩⟩
       ·rw [if_neg c8] at H;exact absurd H (by simp)
      ·rw [if_neg c7] at H;exact absurd H (by simp)
     ·rw [if_neg c6] at H;have Gt:decide (Ib < (l0.length:Int))=false:=decide_eq_false c6;clear c6;obtain rfl:=Option.some.inj H;go_wp2;go_ret;exact ⟨_,taj,Uaj,qaj⟩
  ·rw [if_neg c3] at H;exact absurd H (by simp)
 ·rw [if_neg c2] at H;exact absurd H (by simp)
end Go.Proofs.Ytoomcmaifgkkfaa.P
end
