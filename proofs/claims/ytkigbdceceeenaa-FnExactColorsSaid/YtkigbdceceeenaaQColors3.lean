import Derived.Test.YtkigbdceceeenaaQColors1
set_option maxHeartbeats 8000000
set_option maxRecDepth 100000
section
namespace Go.Proofs.Ytkigbdceceeenaa.P
open Go.RowKit Go.Proofs.Ma.Tb Go.Proofs.Ma.Gd Go.Proofs.Ma.De
set_option linter.unusedVariables false
set_option linter.unusedSimpArgs false
attribute [local go_sem] Rh si wj Nj qh oh zi ri
mutual
def mc.l0:Nat→List Bool→List Int→Int→List Bool→Int→Option (Int)
 | 0,_,_,_,_,_=>none
 | k + 1,x0,x1,x2,x7,x8=>if x8 < (x1.length:Int) then (if 0 ≤ x8 then (if x8 < (x0.length:Int) then (if Vf false x0 x8=true then (if (rd x1 x8) ≥ 0 then (if 0 ≤ (rd x1 x8) then (if (rd x1 x8) < (x7.length:Int) then (mc.l0 k x0 x1 x2 (x7.set ((rd x1 x8):Int).toNat true) (wrap64 (x8 + 1))) else (none)) else (none)) else (mc.l0 k x0 x1 x2 x7 (wrap64 (x8 + 1)))) else (mc.l0 k x0 x1 x2 x7 (wrap64 (x8 + 1)))) else (none)) else (none)) else (mc.l1 k x2 x7 0)
def mc.l1:Nat→Int→List Bool→Int→Option (Int)
 | 0,_,_,_=>none
 | k + 1,x2,x7,x9=>if x9 < x2 then (if 0 ≤ x9 then (if x9 < (x7.length:Int) then (if Vf false x7 x9=true then (mc.l1 k x2 x7 (wrap64 (x9 + 1))) else (some x9)) else (none)) else (none)) else (some (-1))
end
def mc.f (k:Nat) (l0:List Bool) (l1:List Int) (a2:Int):Option (Int):=if 12 ≤ 281474976710656 then (mc.l0 k l0 l1 a2 (List.replicate 12 false) 0) else (none)
theorem mc.calls (k:Nat) (A0:Option Addr) (c0:Nat) (l0:List Bool) (A1:Option Addr) (c1:Nat) (l1:List Int) (a2:Int) (r:Int) (w:World) (Ul:Kd.C Kd.bool w A0 l0.length l0) (hc0:l0.length ≤ c0) (Zs:Kd.C (Kd.int .i64) w A1 l1.length l1) (xm:l1.length ≤ c1) (h:mc.f k l0 l1 a2=some r) :
  Calls Try.prog 61 #[.slice A0 l0.length c0,.slice A1 l1.length c1,.int .i64 a2] w fun e w'=>e = .returned (.int .i64 r)∧Below w.heap.size w w':=by
 have ym:=ga.mk Ul;have eL:=ga.mk hc0;clear Ul hc0;have NB:=ga.mk Zs;have jU:=ga.mk xm;clear Zs xm;have HB:=ga.mk (Below.refl w.heap.size w);have H:(if 12 ≤ 281474976710656 then (mc.l0 k l0 l1 a2 (List.replicate 12 false) 0) else (none))=some r:=h;clear h
 by_cases c4:12 ≤ 281474976710656
 ·rw [if_pos c4] at H;have jk:=eq_true c4;have zO:decide (12 ≤ 281474976710656)=true:=decide_eq_true c4;clear c4;obtain ⟨Yf,Hf⟩:∃ y_:List Bool,y_=(List.replicate 12 false):=⟨_,rfl⟩;replace H:(mc.l0 k l0 l1 a2 Yf 0)=some r:=by first|(rw [Hf];with_reducible exact H)|(have Ed:=(Option.bind_some _ _).symm.trans H;rw [Hf];with_reducible exact Ed)|(have Ed:=(Option.bind_some _ _).symm.trans H;with_reducible exact Ed)|with_reducible exact H|(rw [Hf];exact H)|exact H
  have Tk:=ga.mk Hf;clear Hf;have H':=ga.mk H;clear H;go_enter Try.func61,Try.ntmps61;go_wp2_with (first|((with_reducible refine Ab (N:=10) rfl ?_);refine Kd.jr Kd.bool _ 4 rfl (N:=10) rfl 60 _ _ rfl 12 rfl rfl Try.underlying60 (.bool false) 1 Ir rfl (by decide) (by omega) false (ok:=fun _=>True) (Dh:=fun _=>True) rfl (fun _ hk=>hk) trivial (by omega) (by omega) (Below.refl _ _) (Nat.le_refl _) ?_;intro fF w5 NA hb gm Pe;clear gm Pe;(first|rw [← Tk.out] at NA|(simp only [Int.reduceToNat] at NA;rw [← Tk.out] at NA));have Eb:=ga.mk (Kd.Nd NA (La uaH));have Fb:=ga.mk (Ra uaH hb);clear HB;have nr:=Eb;have HB:=Fb;clear Eb Fb hb NA))
  go_loopg [8] k (fun kq v8 w'=>∃ (Fj:List Bool) (Df:Int),v8 = .int .i64 Df∧ga (mc.l0 kq l0 l1 a2 Fj Df=some r)∧ga (kq ≤ k)∧ga (Kd.R Kd.bool 4 w' w.heap.size (fun _=>True) fF Fj)∧ga (Below w.heap.size w w'))
  case atStart=>exact ⟨(Yf),(0),AaH,H',⟨Nat.le_refl _⟩,⟨saI⟩,⟨BaH⟩⟩
  case round =>
   clear H'
   try clear c1
   try clear p2
   try clear c4
   try clear jk
   try clear zO
   try clear c6
   (try clear HA);(try clear wg);(try clear yg);(try clear HB);obtain ⟨Fj,Df,rfl,HA,wg,yg,HB⟩:=hrel;cases gk with
   | zero=>exact absurd HA.out (by simp [mc.l0])
   | succ k1 =>
    have H:=HA.out;clear HA;simp only [mc.l0] at H
    by_cases c7:Df < (l1.length:Int)
    ·rw [if_pos c7] at H;have Xk:decide (Df < (l1.length:Int))=true:=decide_eq_true c7;clear c7
     by_cases c8:0 ≤ Df
     ·rw [if_pos c8] at H;have Zq:decide (0 ≤ Df)=true:=decide_eq_true c8;clear c8
      by_cases c9:Df < (l0.length:Int)
      ·rw [if_pos c9] at H;have Pv:decide (Df < (l0.length:Int))=true:=decide_eq_true c9;clear c9;obtain ⟨Kaj,NX⟩:∃ b_:Bool,b_=(Vf false l0 Df):=⟨_,rfl⟩;replace H:(if Kaj=true then (if (rd l1 Df) ≥ 0 then (if 0 ≤ (rd l1 Df) then (if (rd l1 Df) < (Fj.length:Int) then (mc.l0 k1 l0 l1 a2 (Fj.set ((rd l1 Df):Int).toNat true) (wrap64 (Df + 1))) else (none)) else (none)) else (mc.l0 k1 l0 l1 a2 Fj (wrap64 (Df + 1)))) else (mc.l0 k1 l0 l1 a2 Fj (wrap64 (Df + 1))))=some r:=by rw [← NX] at H;exact H
       have VY:=ga.mk NX;clear NX
       by_cases zB:Kaj=true
       ·subst zB;have H1:(if (rd l1 Df) ≥ 0 then (if 0 ≤ (rd l1 Df) then (if (rd l1 Df) < (Fj.length:Int) then (mc.l0 k1 l0 l1 a2 (Fj.set ((rd l1 Df):Int).toNat true) (wrap64 (Df + 1))) else (none)) else (none)) else (mc.l0 k1 l0 l1 a2 Fj (wrap64 (Df + 1))))=some r:=by rw [if_pos rfl] at H;exact H
        clear H;have H:=H1;clear H1
        by_cases Ss:(rd l1 Df) ≥ 0
        ·rw [if_pos Ss] at H;have EH:decide (0 ≤ (rd l1 Df))=true:=decide_eq_true Ss;clear Ss
         by_cases KD:0 ≤ (rd l1 Df)
         ·rw [if_pos KD] at H;have j9:decide (0 ≤ (rd l1 Df))=true:=decide_eq_true KD;clear KD
          by_cases cL:(rd l1 Df) < (Fj.length:Int)
          ·rw [if_pos cL] at H;have Caj:decide ((rd l1 Df) < (Fj.length:Int))=true:=decide_eq_true cL;clear cL;obtain ⟨YE,Zo⟩:∃ y_:List Bool,y_=(Fj.set ((rd l1 Df):Int).toNat true):=⟨_,rfl⟩;replace H:(mc.l0 k1 l0 l1 a2 YE (wrap64 (Df + 1)))=some r:=by first|(rw [Zo];with_reducible exact H)|(have Ed:=(Option.bind_some _ _).symm.trans H;rw [Zo];with_reducible exact Ed)|(have Ed:=(Option.bind_some _ _).symm.trans H;with_reducible exact Ed)|with_reducible exact H|(rw [Zo];exact H)|exact H
           have LH:=ga.mk Zo;clear Zo;have H':=ga.mk H;clear H;have Rl:0 ≤ (Df:Int):=Ua;have Ql:Df < (l0.length:Int):=Ua;obtain ⟨iG,zz,ig⟩:=Kd.lg ym.out Df Rl Ql;(try rw [← VY.out] at ig);cases zz;replace ig:=Sa HB.out ig;replace Rl:=eq_true Rl;replace Ql:=eq_true Ql;have Mj:0 ≤ (Df:Int):=Ua;have Lj:Df < (l1.length:Int):=Ua;obtain ⟨wh,uw,Xf⟩:=Kd.Bi NB.out Df Mj Lj;cases uw;replace Xf:=Sa HB.out Xf;replace Mj:=eq_true Mj;replace Lj:=eq_true Lj;have rL:0 ≤ (Df:Int):=Ua;have pL:Df < (l1.length:Int):=Ua;obtain ⟨o9,xab,Qw⟩:=Kd.Bi NB.out Df rL pL;obtain rfl:wh=o9:=(by injection xab);replace Qw:=Sa HB.out Qw;replace rL:=eq_true rL;replace pL:=eq_true pL;have p15:0 ≤ ((rd l1 Df):Int):=Ua;have q15:((rd l1 Df):Int) < ((Fj.length:Int):Int):=Ua;obtain ⟨gab,dY,V5,Mai,iaw,NaE,cH⟩:=Kd.Xj yg.out (by omega);(first|cases V5|(injection V5 with qj sw tw;(first|subst qj|(injection qj with qj;subst qj));subst tw;clear sw));have Vax:=ga.mk Mai;have VaF:=ga.mk cH;clear Mai iaw cH;obtain ⟨paa,Iav⟩:=Kd.Yh false yg.out ((rd l1 Df):Int) p15 q15;replace p15:=eq_true p15;replace q15:=eq_true q15;have iP:=Kd.Ml yg.out ((rd l1 Df):Int) true;go_wp2_with (first|((with_reducible refine Ke (t:=4) (p:=33) rfl ?_);refine me (t:=4) (p:=33) (v:=?I_) (w1:=(wr.setCell ⟨gab,((rd l1 Df):Int).toNat,none⟩ (.bool true))) ?hg ?ho ?hn ?hr ?_;(case ho=>rfl);(case hg=>rfl);(case hn=>rfl);(case hr=>first|(go_simp;done)|(go_simp;rfl));intro zo hw;have hg:wr.grownBy zo (some gab):=(by rw [hw];exact iP.2);have Il:Kd.R Kd.bool 4 zo w.heap.size (fun _=>True) (.slice (some ⟨gab,0,none⟩) Fj.length dY) YE:=(by rw [hw,LH.out];exact iP.1);clear iP;have Eb:=ga.mk (Il);have Fb:=ga.mk ((by rw [hw];exact ua (HB.out) Vax.out:Below w.heap.size w zo));clear yg HB;have yg:=Eb;have HB:=Fb;clear Eb Fb hg hw Il))
           go_roundg k1
           case measure=>have:=wg.out;omega
           case rel=>exact ⟨(YE),(wrap64 (Df + 1)),AaH,H',⟨by have:=wg.out;omega⟩,⟨RaH⟩,⟨BaH⟩⟩
          ·rw [if_neg cL] at H;exact absurd H (by simp)
         ·rw [if_neg KD] at H;exact absurd H (by simp)
        ·rw [if_neg Ss] at H;have EH:decide (0 ≤ (rd l1 Df))=false:=decide_eq_false Ss;clear Ss;have H':=ga.mk H;clear H;have Rl:0 ≤ (Df:Int):=Ua;have Ql:Df < (l0.length:Int):=Ua;obtain ⟨iG,zz,ig⟩:=Kd.lg ym.out Df Rl Ql;(try rw [← VY.out] at ig);cases zz;replace ig:=Sa HB.out ig;replace Rl:=eq_true Rl;replace Ql:=eq_true Ql;have Mj:0 ≤ (Df:Int):=Ua;have Lj:Df < (l1.length:Int):=Ua;obtain ⟨wh,uw,Xf⟩:=Kd.Bi NB.out Df Mj Lj;cases uw;replace Xf:=Sa HB.out Xf;replace Mj:=eq_true Mj;replace Lj:=eq_true Lj;go_wp2
         go_roundg k1
         case measure=>have:=wg.out;omega
         case rel=>exact ⟨(Fj),(wrap64 (Df + 1)),AaH,H',⟨by have:=wg.out;omega⟩,⟨RaH⟩,⟨BaH⟩⟩
       ·replace zB:=Bool.eq_false_iff.mpr zB;subst zB;have H1:(mc.l0 k1 l0 l1 a2 Fj (wrap64 (Df + 1)))=some r:=by rw [if_neg (show ¬ (false=true) by decide)] at H;exact H
        clear H;have H:=H1;clear H1;have H':=ga.mk H;clear H;have Rl:0 ≤ (Df:Int):=Ua;have Ql:Df < (l0.length:Int):=Ua;obtain ⟨iG,zz,ig⟩:=Kd.lg ym.out Df Rl Ql;(try rw [← VY.out] at ig);cases zz;replace ig:=Sa HB.out ig;replace Rl:=eq_true Rl;replace Ql:=eq_true Ql;go_wp2
        go_roundg k1
        case measure=>have:=wg.out;omega
        case rel=>exact ⟨(Fj),(wrap64 (Df + 1)),AaH,H',⟨by have:=wg.out;omega⟩,⟨RaH⟩,⟨BaH⟩⟩
      ·rw [if_neg c9] at H;exact absurd H (by simp)
     ·rw [if_neg c8] at H;exact absurd H (by simp)
    ·rw [if_neg c7] at H;have Xk:decide (Df < (l1.length:Int))=false:=decide_eq_false c7;clear c7;have H':=ga.mk H;clear H;go_wp2
     go_loopg [9] k1 (fun kq v9 w'=>∃ (vr:Int),v9 = .int .i64 vr∧ga (mc.l1 kq a2 Fj vr=some r)∧ga (kq ≤ k1)∧ga (Kd.R Kd.bool 4 w' w.heap.size (fun _=>True) fF Fj)∧ga (Below w.heap.size w w'))
     case atStart=>exact ⟨(0),AaH,H',⟨Nat.le_refl _⟩,⟨RaH⟩,⟨BaH⟩⟩
     case round =>
      clear H'
      try clear c1
      try clear p1
      try clear q1
      try clear hx1
      try clear p2
      try clear c4
      try clear jk
      try clear zO
      try clear c6
      try clear p6
      try clear c7
      try clear Xk
      try clear c8
      try clear Zq
      try clear c9
      try clear Pv
      try clear fI
      try clear cI
      try clear MW
      try clear zB
      try clear Ss
      try clear EH
      try clear KD
      try clear j9
      try clear cL
      try clear Caj
      try clear p15
      try clear q15
      try clear BaD
      try clear caE
      try clear ig
      try clear Xf
      try clear Qw
      try clear paa
      try clear Rl
      try clear Mj
      try clear rL
      try clear p15
      try clear p2
      try clear Ql
      try clear Lj
      try clear pL
      try clear q15
      (try clear HA);(try clear zl);(try clear yg);(try clear HB);obtain ⟨vr,rfl,HA,zl,yg,HB⟩:=hrel;cases gk with
      | zero=>exact absurd HA.out (by simp [mc.l1])
      | succ k2 =>
       have H:=HA.out;clear HA;simp only [mc.l1] at H
       by_cases dr:vr < a2
       ·rw [if_pos dr] at H;have qp:decide (vr < a2)=true:=decide_eq_true dr;clear dr
        by_cases lp:0 ≤ vr
        ·rw [if_pos lp] at H;have yw:decide (0 ≤ vr)=true:=decide_eq_true lp;clear lp
         by_cases tr:vr < (Fj.length:Int)
         ·rw [if_pos tr] at H;have Zy:decide (vr < (Fj.length:Int))=true:=decide_eq_true tr;clear tr;obtain ⟨Jaj,MX⟩:∃ b_:Bool,b_=(Vf false Fj vr):=⟨_,rfl⟩;replace H:(if Jaj=true then (mc.l1 k2 a2 Fj (wrap64 (vr + 1))) else (some vr))=some r:=by rw [← MX] at H;exact H
          have D9:=ga.mk MX;clear MX
          by_cases VB:Jaj=true
          ·subst VB;have H1:(mc.l1 k2 a2 Fj (wrap64 (vr + 1)))=some r:=by rw [if_pos rfl] at H;exact H
           clear H;have H:=H1;clear H1;have H':=ga.mk H;clear H;obtain ⟨aay,W5,fV⟩:=Kd.od yg.out;subst fV;have GD:0 ≤ (vr:Int):=Ua;have FD:vr < (Fj.length:Int):=Ua;obtain ⟨zw,aY,Ut⟩:=Kd.lg (Kd.Rb yg.out).2.2 vr GD FD;(try rw [← D9.out] at Ut);cases aY;replace GD:=eq_true GD;replace FD:=eq_true FD;go_wp2
           go_roundg k2
           case measure=>have:=wg.out;have:=zl.out;omega
           case rel=>exact ⟨(wrap64 (vr + 1)),AaH,H',⟨by have:=wg.out;have:=zl.out;omega⟩,⟨RaH⟩,⟨BaH⟩⟩
          ·replace VB:=Bool.eq_false_iff.mpr VB;subst VB;have H1:(some vr)=some r:=by rw [if_neg (show ¬ (false=true) by decide)] at H;exact H
           clear H;have H:=H1;clear H1;obtain rfl:=Option.some.inj H;obtain ⟨Jal,aaj,sab⟩:=Kd.od yg.out;subst sab;have GD:0 ≤ (vr:Int):=Ua;have FD:vr < (Fj.length:Int):=Ua;obtain ⟨zw,aY,Ut⟩:=Kd.lg (Kd.Rb yg.out).2.2 vr GD FD;(try rw [← D9.out] at Ut);cases aY;replace GD:=eq_true GD;replace FD:=eq_true FD;go_wp2;go_ret;exact ⟨by first|rfl|(simp [Pa,Oa] <;> rfl)|(simp [*,Pa,Oa] <;> rfl),BaH⟩
         ·rw [if_neg tr] at H;exact absurd H (by simp)
        ·rw [if_neg lp] at H;exact absurd H (by simp)
       ·rw [if_neg dr] at H;have qp:decide (vr < a2)=false:=decide_eq_false dr;clear dr;obtain rfl:=Option.some.inj H;go_wp2;go_ret;exact ⟨by first|rfl|(simp [Pa,Oa] <;> rfl)|(simp [*,Pa,Oa] <;> rfl),BaH⟩
 ·rw [if_neg c4] at H;exact absurd H (by simp)
def Ig.f (Qa:List (He)) (Ja:Int) (Ga:Int) (Ia:Int) (Db:Int) (l1:List Bool):Option (List Bool):=(some (([]:List Bool):List Bool)).bind fun ud=>(if ud.length + l1.length < 140737488355328 then ((some (ud ++ l1:List Bool)).bind fun Wd=>(if Ja=0 then (some Wd) else (if 0 ≤ Ga then (if Ga < (Wd.length:Int) then (some (Wd.set (Ga:Int).toNat true)) else (none)) else (none)))) else (none))
theorem Ig.calls (Ya:Option Addr) (Za:Nat) (Qa:List (He)) (Ja:Int) (Ga:Int) (Ia:Int) (Db:Int) (A1:Option Addr) (c1:Nat) (l1:List Bool) (r:List Bool) (w:World) (Ud:Kd.C Bk w Ya Qa.length Qa) (Rd:Qa.length ≤ Za) (Zs:Kd.C Kd.bool w A1 l1.length l1) (xm:l1.length ≤ c1) (h:Ig.f Qa Ja Ga Ia Db l1=some r) :
  Calls Try.prog 42 #[.agg #[.slice Ya Qa.length Za,.int .i64 Ja,.int .i64 Ga,.int .i64 Ia,.int .i64 Db],.slice A1 l1.length c1] w fun e w'=>∃ Nl:Value,e = .returned (Nl)∧Kd.R Kd.bool 4 w' w.heap.size (fun _=>True) Nl r∧Below w.heap.size w w':=by
 have kC:=Try.underlying59;have Ze:=ga.mk Ud;have Af:=ga.mk Rd;clear Ud Rd;have NB:=ga.mk Zs;have jU:=ga.mk xm;clear Zs xm;have HB:=ga.mk (Below.refl w.heap.size w);have H:((some (([]:List Bool):List Bool)).bind fun ud=>(if ud.length + l1.length < 140737488355328 then ((some (ud ++ l1:List Bool)).bind fun Wd=>(if Ja=0 then (some Wd) else (if 0 ≤ Ga then (if Ga < (Wd.length:Int) then (some (Wd.set (Ga:Int).toNat true)) else (none)) else (none)))) else (none)))=some r:=h;clear h;obtain ⟨ud,jf⟩:∃ y_:List Bool,y_=(([]:List Bool)):=⟨_,rfl⟩;replace H:(if ud.length + l1.length < 140737488355328 then ((some (ud ++ l1:List Bool)).bind fun Wd=>(if Ja=0 then (some Wd) else (if 0 ≤ Ga then (if Ga < (Wd.length:Int) then (some (Wd.set (Ga:Int).toNat true)) else (none)) else (none)))) else (none))=some r:=by first|(rw [jf];with_reducible exact H)|(have Ed:=(Option.bind_some _ _).symm.trans H;rw [jf];with_reducible exact Ed)|(have Ed:=(Option.bind_some _ _).symm.trans H;with_reducible exact Ed)|with_reducible exact H|(rw [jf];exact H)|exact H
 have ei:=ga.mk jf;clear jf
 by_cases c3:ud.length + l1.length < 140737488355328
 ·rw [if_pos c3] at H;have gak:=ga.mk c3;clear c3;obtain ⟨Wd,Gf⟩:∃ y_:List Bool,y_=(ud ++ l1):=⟨_,rfl⟩;replace H:(if Ja=0 then (some Wd) else (if 0 ≤ Ga then (if Ga < (Wd.length:Int) then (some (Wd.set (Ga:Int).toNat true)) else (none)) else (none)))=some r:=by first|(rw [Gf];with_reducible exact H)|(have Ed:=(Option.bind_some _ _).symm.trans H;rw [Gf];with_reducible exact Ed)|(have Ed:=(Option.bind_some _ _).symm.trans H;with_reducible exact Ed)|with_reducible exact H|(rw [Gf];exact H)|exact H
  have Jl:=ga.mk Gf;clear Gf
  by_cases c4:Ja=0
  ·rw [if_pos c4] at H;have jk:(Ja == 0)=true:=beq_iff_eq.mpr c4;have zO:(Ja != 0)=false:=bne_eq_false_iff_eq.mpr c4;clear c4;obtain rfl:=Option.some.inj H;go_enter Try.func42,Try.ntmps42;go_wp2_with (first|((with_reducible refine Ab (N:=2) rfl ?_);refine Lb ?hg (N:=2) ?hd (cs:=#[.slice Ya Qa.length Za,.int .i64 Ja,.int .i64 Ga,.int .i64 Ia,.int .i64 Db]) (t:=59) ?hr ?_;(case hd=>rfl);(case hg=>rfl);(case hr=>first|(go_simp;done)|(go_simp;rfl));intro ya hg w5 Sb hb;have Eb:=ga.mk (Ra uaH hb);have Fb:=ga.mk (Sb);have Ob:=ga.mk ((by rw [hg];exact (La uaH):w.heap.size ≤ ya));have Ec:=ga.mk ((by rw [hg];exact (La uaH):w.heap.size ≤ ya));clear HB;have HB:=Eb;have oa:=Fb;have Vd:=Ob;have Ta:=Ec;clear Eb Fb Ob Ec hb Sb hg)|((with_reducible refine Ab (N:=6) rfl ?_);refine Kd.Hj Kd.bool _ 4 ?hg (N:=6) ?hd (xs:=([]:List Bool)) (inner:=[]) (ok:=fun _=>True) (Dh:=fun _=>True) ?hr ?hp (fun _ hk=>hk) trivial (Below.refl _ _) (Nat.le_refl _) (by simp) ?_;(case hd=>rfl);(case hg=>rfl);(case hr=>first|(go_simp;done)|(go_simp;rfl));(case hp=>exact (Pd.none _ _));intro wm w6 SW hb gm Pe;clear gm Pe;(first|rw [← ei.out] at SW|(simp only [Int.reduceToNat] at SW;rw [← ei.out] at SW));have Eb:=ga.mk (Kd.Nd SW (La taH));have Fb:=ga.mk (Va (g:=ya) (o:=.cells #[.slice Ya Qa.length Za,.int .i64 Ja,.int .i64 Ga,.int .i64 Ia,.int .i64 Db] 59 (0,0)) vaH hb);have Ob:=ga.mk (Ra taH hb);clear oa HB;have Sg:=Eb;have oa:=Fb;have HB:=Ob;clear Eb Fb Ob hb SW)|((with_reducible refine Jd (b:=.append) (xs:=#[.tmp 6,.tmp 7]) rfl ?_);at_builtin;refine Kd.vk Kd.bool (w0:=w) w.heap.size rfl (.tmp 6) (.tmp 7) 60 4 (.bool false) 1 rfl Try.underlying60 Ir rfl (by decide) (by omega) wm ud l1 _ _ _ (fun _=>True) (fun _=>False) rfl rfl ?aO ?aR (fun _ _ h=>h) (fun _ h=>h.elim) ?aF ?aB ?aS ?aL ?_;(case aR=>repeat (first|exact (Kd.Nb NB.out HB.out)|(with_reducible refine Kd.dc ?_ _)|(with_reducible refine Kd.Zb ?_ _)|(with_reducible refine Kd.Fc ?_)));(case aB=>exact taH);(case aF=>exact (fun _ _=>trivial));(case aO=>exact faI);(case aS=>exact (La taH));(case aL=>have:=gak.out;omega);intro XB w8 ho hb hg hat;rw [← Jl.out] at ho;have Eb:=ga.mk (Vc (g:=ya) (o:=.cells #[.slice Ya Qa.length Za,.int .i64 Ja,.int .i64 Ga,.int .i64 Ia,.int .i64 Db] 59 (0,0)) vaH hg (Kd.tj Sg.out oa.out (by decide)));have Fb:=ga.mk (hb);have Ob:=ga.mk (ho);clear oa HB Sg;have oa:=Eb;have HB:=Fb;have nj:=Ob;clear Eb Fb Ob ho hb hg hat;have Ln:w8.cell? ⟨ya,0,none⟩=some (.slice Ya Qa.length Za):=(ia oa.out 0).trans rfl;have Kn:w8.cell? ⟨ya,1,none⟩=some (.int .i64 Ja):=(ia oa.out 1).trans rfl;have Jn:w8.cell? ⟨ya,2,none⟩=some (.int .i64 Ga):=(ia oa.out 2).trans rfl;have Gn:w8.cell? ⟨ya,3,none⟩=some (.int .i64 Ia):=(ia oa.out 3).trans rfl;have En:w8.cell? ⟨ya,4,none⟩=some (.int .i64 Db):=(ia oa.out 4).trans rfl;have gn:=aa oa.out 0;have en:=aa oa.out 1;have dn:=aa oa.out 2;have bn:=aa oa.out 3;have Zm:=aa oa.out 4));go_ret;exact ⟨_,by first|rfl|(simp [Pa,Oa] <;> rfl)|(simp [*,Pa,Oa] <;> rfl),baI,xaH⟩
  ·rw [if_neg c4] at H;have jk:(Ja == 0)=false:=beq_eq_false_iff_ne.mpr c4;have zO:(Ja != 0)=true:=bne_iff_ne.mpr c4
   by_cases Ts:0 ≤ Ga
   ·rw [if_pos Ts] at H;have Bt:decide (0 ≤ Ga)=true:=decide_eq_true Ts;clear Ts
    by_cases zB:Ga < (Wd.length:Int)
    ·rw [if_pos zB] at H;have vM:decide (Ga < (Wd.length:Int))=true:=decide_eq_true zB;clear zB;obtain ⟨Yg,Ff⟩:∃ y_:List Bool,y_=(Wd.set (Ga:Int).toNat true):=⟨_,rfl⟩;replace H:(some Yg)=some r:=by first|(rw [Ff];with_reducible exact H)|(have Ed:=(Option.bind_some _ _).symm.trans H;rw [Ff];with_reducible exact Ed)|(have Ed:=(Option.bind_some _ _).symm.trans H;with_reducible exact Ed)|with_reducible exact H|(rw [Ff];exact H)|exact H
     have Ej:=ga.mk Ff;clear Ff;obtain rfl:=Option.some.inj H;go_enter Try.func42,Try.ntmps42;go_wp2_with (first|((with_reducible refine Ab (N:=2) rfl ?_);refine Lb ?hg (N:=2) ?hd (cs:=#[.slice Ya Qa.length Za,.int .i64 Ja,.int .i64 Ga,.int .i64 Ia,.int .i64 Db]) (t:=59) ?hr ?_;(case hd=>rfl);(case hg=>rfl);(case hr=>first|(go_simp;done)|(go_simp;rfl));intro ya hg sr Sb hb;have Eb:=ga.mk (Ra uaH hb);have Fb:=ga.mk (Sb);have Ob:=ga.mk ((by rw [hg];exact (La uaH):w.heap.size ≤ ya));have Ec:=ga.mk ((by rw [hg];exact (La uaH):w.heap.size ≤ ya));clear HB;have HB:=Eb;have oa:=Fb;have Vd:=Ob;have Ta:=Ec;clear Eb Fb Ob Ec hb Sb hg)|((with_reducible refine Ab (N:=6) rfl ?_);refine Kd.Hj Kd.bool _ 4 ?hg (N:=6) ?hd (xs:=([]:List Bool)) (inner:=[]) (ok:=fun _=>True) (Dh:=fun _=>True) ?hr ?hp (fun _ hk=>hk) trivial (Below.refl _ _) (Nat.le_refl _) (by simp) ?_;(case hd=>rfl);(case hg=>rfl);(case hr=>first|(go_simp;done)|(go_simp;rfl));(case hp=>exact (Pd.none _ _));intro wm dz KF hb gm Pe;clear gm Pe;(first|rw [← ei.out] at KF|(simp only [Int.reduceToNat] at KF;rw [← ei.out] at KF));have Eb:=ga.mk (Kd.Nd KF (La taH));have Fb:=ga.mk (Va (g:=ya) (o:=.cells #[.slice Ya Qa.length Za,.int .i64 Ja,.int .i64 Ga,.int .i64 Ia,.int .i64 Db] 59 (0,0)) vaH hb);have Ob:=ga.mk (Ra taH hb);clear oa HB;have Sg:=Eb;have oa:=Fb;have HB:=Ob;clear Eb Fb Ob hb KF)|((with_reducible refine Jd (b:=.append) (xs:=#[.tmp 6,.tmp 7]) rfl ?_);at_builtin;refine Kd.vk Kd.bool (w0:=w) w.heap.size rfl (.tmp 6) (.tmp 7) 60 4 (.bool false) 1 rfl Try.underlying60 Ir rfl (by decide) (by omega) wm ud l1 _ _ _ (fun _=>True) (fun _=>False) rfl rfl ?aO ?aR (fun _ _ h=>h) (fun _ h=>h.elim) ?aF ?aB ?aS ?aL ?_;(case aR=>repeat (first|exact (Kd.Nb NB.out HB.out)|(with_reducible refine Kd.dc ?_ _)|(with_reducible refine Kd.Zb ?_ _)|(with_reducible refine Kd.Fc ?_)));(case aB=>exact taH);(case aF=>exact (fun _ _=>trivial));(case aO=>exact faI);(case aS=>exact (La taH));(case aL=>have:=gak.out;omega);intro XB Hz ho hb hg hat;rw [← Jl.out] at ho;have Eb:=ga.mk (Vc (g:=ya) (o:=.cells #[.slice Ya Qa.length Za,.int .i64 Ja,.int .i64 Ga,.int .i64 Ia,.int .i64 Db] 59 (0,0)) vaH hg (Kd.tj Sg.out oa.out (by decide)));have Fb:=ga.mk (hb);have Ob:=ga.mk (ho);clear oa HB Sg;have oa:=Eb;have HB:=Fb;have nj:=Ob;clear Eb Fb Ob ho hb hg hat;have yy:Hz.cell? ⟨ya,0,none⟩=some (.slice Ya Qa.length Za):=(ia oa.out 0).trans rfl;have xy:Hz.cell? ⟨ya,1,none⟩=some (.int .i64 Ja):=(ia oa.out 1).trans rfl;have uy:Hz.cell? ⟨ya,2,none⟩=some (.int .i64 Ga):=(ia oa.out 2).trans rfl;have sy:Hz.cell? ⟨ya,3,none⟩=some (.int .i64 Ia):=(ia oa.out 3).trans rfl;have ry:Hz.cell? ⟨ya,4,none⟩=some (.int .i64 Db):=(ia oa.out 4).trans rfl;have Jx:=aa oa.out 0;have Ix:=aa oa.out 1;have Hx:=aa oa.out 2;have Gx:=aa oa.out 3;have Fx:=aa oa.out 4;have Z_:0 ≤ (Ga:Int):=Ua;have Y_:(Ga:Int) < ((Wd.length:Int):Int):=Ua;obtain ⟨iab,Naw,Vai,Nai,jaw,OaE,lZ⟩:=Kd.Xj nj.out (by omega);(first|cases Vai|(injection Vai with qj sw tw;(first|subst qj|(injection qj with qj;subst qj));subst tw;clear sw));have Wax:=ga.mk Nai;have WaF:=ga.mk lZ;clear Nai jaw lZ;obtain ⟨EF,LF⟩:=Kd.Yh false nj.out (Ga:Int) Z_ Y_;replace Z_:=eq_true Z_;replace Y_:=eq_true Y_;obtain ⟨May,Iay⟩:=Kd.Yh false nj.out (Ga:Int) (Ua) (Ua);have gP:=Kd.Ml nj.out (Ga:Int) true)|((with_reducible refine Ke (t:=4) (p:=15) rfl ?_);refine me (t:=4) (p:=15) (v:=?H_) (w1:=(Hz.setCell ⟨iab,(Ga:Int).toNat,none⟩ (.bool true))) ?hg ?ho ?hn ?hr ?_;(case ho=>rfl);(case hg=>rfl);(case hn=>rfl);(case hr=>first|(go_simp;done)|(go_simp;rfl));intro Jt hw;have hg:Hz.grownBy Jt (some iab):=(by rw [hw];exact gP.2);have Il:Kd.R Kd.bool 4 Jt w.heap.size (fun _=>True) (.slice (some ⟨iab,0,none⟩) Wd.length Naw) Yg:=(by rw [hw,Ej.out];exact gP.1);clear gP;have Eb:=ga.mk (Vc (g:=ya) (o:=.cells #[.slice Ya Qa.length Za,.int .i64 Ja,.int .i64 Ga,.int .i64 Ia,.int .i64 Db] 59 (0,0)) vaH hg (Kd.tj nj.out oa.out (by decide)));have Fb:=ga.mk (Il);have Ob:=ga.mk ((by rw [hw];exact ua (HB.out) Wax.out:Below w.heap.size w Jt));clear oa nj HB;have oa:=Eb;have nj:=Fb;have HB:=Ob;clear Eb Fb Ob hg hw Il));go_ret;exact ⟨_,by first|rfl|(simp [Pa,Oa] <;> rfl)|(simp [*,Pa,Oa] <;> rfl),baI,xaH⟩
    ·rw [if_neg zB] at H;exact absurd H (by simp)
   ·rw [if_neg Ts] at H;exact absurd H (by simp)
 ·rw [if_neg c3] at H;exact absurd H (by simp)
def Eg.f (Kb:Int) (Ja:Int) (Ga:Int) (Ia:Int) (Db:Int) (Bc:Int) (tc:ByteArray):Option (Bool):=if Kb=4 then (some false) else (some (Kb != 6))
theorem Eg.calls (Kb:Int) (Ja:Int) (Ga:Int) (Ia:Int) (Db:Int) (Bc:Int) (tc:ByteArray) (r:Bool) (w:World) (h:Eg.f Kb Ja Ga Ia Db Bc tc=some r) :
  Calls Try.prog 73 #[.agg #[.int .i64 Kb,.int .i64 Ja,.int .i64 Ga,.int .i64 Ia,.int .i64 Db,.int .i64 Bc,.string tc]] w fun e w'=>e = .returned (.bool r)∧Below w.heap.size w w':=by
 have MA:=Try.underlying65;have HB:=ga.mk (Below.refl w.heap.size w);have H:(if Kb=4 then (some false) else (some (Kb != 6)))=some r:=h;clear h
 by_cases c2:Kb=4
 ·rw [if_pos c2] at H;have vt:(Kb == 4)=true:=beq_iff_eq.mpr c2;have xw:(Kb != 4)=false:=bne_eq_false_iff_eq.mpr c2;clear c2;obtain rfl:=Option.some.inj H;go_enter Try.func73,Try.ntmps73;go_wp2_with (first|((with_reducible refine Ab (N:=1) rfl ?_);refine Lb ?hg (N:=1) ?hd (cs:=#[.int .i64 Kb,.int .i64 Ja,.int .i64 Ga,.int .i64 Ia,.int .i64 Db,.int .i64 Bc,.string tc]) (t:=65) ?hr ?_;(case hd=>rfl);(case hg=>rfl);(case hr=>first|(go_simp;done)|(go_simp;rfl));intro ya hg w3 Sb hb;have Eb:=ga.mk (Ra uaH hb);have Fb:=ga.mk (Sb);have Ob:=ga.mk ((by rw [hg];exact (La uaH):w.heap.size ≤ ya));have Ec:=ga.mk ((by rw [hg];exact (La uaH):w.heap.size ≤ ya));clear HB;have HB:=Eb;have oa:=Fb;have Vd:=Ob;have Ta:=Ec;clear Eb Fb Ob Ec hb Sb hg;have MC:w3.cell? ⟨ya,0,none⟩=some (.int .i64 Kb):=(ia oa.out 0).trans rfl;have LC:w3.cell? ⟨ya,1,none⟩=some (.int .i64 Ja):=(ia oa.out 1).trans rfl;have KC:w3.cell? ⟨ya,2,none⟩=some (.int .i64 Ga):=(ia oa.out 2).trans rfl;have JC:w3.cell? ⟨ya,3,none⟩=some (.int .i64 Ia):=(ia oa.out 3).trans rfl;have IC:w3.cell? ⟨ya,4,none⟩=some (.int .i64 Db):=(ia oa.out 4).trans rfl;have BJ:w3.cell? ⟨ya,5,none⟩=some (.int .i64 Bc):=(ia oa.out 5).trans rfl;have AJ:w3.cell? ⟨ya,6,none⟩=some (.string tc):=(ia oa.out 6).trans rfl;have yC:=aa oa.out 0;have xC:=aa oa.out 1;have wC:=aa oa.out 2;have vC:=aa oa.out 3;have uC:=aa oa.out 4;have LI:=aa oa.out 5;have KI:=aa oa.out 6));go_ret;exact ⟨by first|rfl|(simp [Pa,Oa] <;> rfl)|(simp [*,Pa,Oa] <;> rfl),xaH⟩
 ·rw [if_neg c2] at H;have vt:(Kb == 4)=false:=beq_eq_false_iff_ne.mpr c2;have xw:(Kb != 4)=true:=bne_iff_ne.mpr c2;obtain rfl:=Option.some.inj H;go_enter Try.func73,Try.ntmps73;go_wp2_with (first|((with_reducible refine Ab (N:=1) rfl ?_);refine Lb ?hg (N:=1) ?hd (cs:=#[.int .i64 Kb,.int .i64 Ja,.int .i64 Ga,.int .i64 Ia,.int .i64 Db,.int .i64 Bc,.string tc]) (t:=65) ?hr ?_;(case hd=>rfl);(case hg=>rfl);(case hr=>first|(go_simp;done)|(go_simp;rfl));intro ya hg w5 Sb hb;have Eb:=ga.mk (Ra uaH hb);have Fb:=ga.mk (Sb);have Ob:=ga.mk ((by rw [hg];exact (La uaH):w.heap.size ≤ ya));have Ec:=ga.mk ((by rw [hg];exact (La uaH):w.heap.size ≤ ya));clear HB;have HB:=Eb;have oa:=Fb;have Vd:=Ob;have Ta:=Ec;clear Eb Fb Ob Ec hb Sb hg;have Uq:w5.cell? ⟨ya,0,none⟩=some (.int .i64 Kb):=(ia oa.out 0).trans rfl;have Rq:w5.cell? ⟨ya,1,none⟩=some (.int .i64 Ja):=(ia oa.out 1).trans rfl;have Qq:w5.cell? ⟨ya,2,none⟩=some (.int .i64 Ga):=(ia oa.out 2).trans rfl;have Pq:w5.cell? ⟨ya,3,none⟩=some (.int .i64 Ia):=(ia oa.out 3).trans rfl;have Oq:w5.cell? ⟨ya,4,none⟩=some (.int .i64 Db):=(ia oa.out 4).trans rfl;have Ju:w5.cell? ⟨ya,5,none⟩=some (.int .i64 Bc):=(ia oa.out 5).trans rfl;have Iu:w5.cell? ⟨ya,6,none⟩=some (.string tc):=(ia oa.out 6).trans rfl;have Nq:=aa oa.out 0;have Mq:=aa oa.out 1;have Kq:=aa oa.out 2;have Jq:=aa oa.out 3;have Iq:=aa oa.out 4;have bu:=aa oa.out 5;have au:=aa oa.out 6));go_ret;exact ⟨by first|rfl|(simp [Pa,Oa] <;> rfl)|(simp [*,Pa,Oa] <;> rfl),xaH⟩
mutual
def Ge.j0:Nat→Int→Bool→Int→Int→Int→Int→Int→Int→ByteArray→Option (List Int)
 | 0,_,_,_,_,_,_,_,_,_=>none
 | k + 1,x5,x6,yc,Qc,Gc,Dc,Yb,Cm,Bm=>if x6=true then (some (([Gc]:List Int))) else (if x5=2 then (some (([Gc,Dc]:List Int))) else (if x5=3 then (Ge.j1 k (x5 == 3) yc Qc Gc Dc Yb Cm Bm) else (Ge.j1 k (x5 == 4) yc Qc Gc Dc Yb Cm Bm)))
def Ge.j1:Nat→Bool→Int→Int→Int→Int→Int→Int→ByteArray→Option (List Int)
 | 0,_,_,_,_,_,_,_,_=>none
 | k + 1,x19,yc,Qc,Gc,Dc,Yb,Cm,Bm=>if x19=true then ((some (([Dc]:List Int):List Int)).bind fun Yg=>(if Gc ≥ 0 then (if Yg.length < 17592186044416 then ((some (Yg ++ [Gc]:List Int)).bind fun Bq=>(if yc=4 then (if Bq.length < 17592186044416 then (some (Bq ++ [Yb])) else (none)) else (some Bq))) else (none)) else (if yc=4 then (if Yg.length < 17592186044416 then (some (Yg ++ [Yb])) else (none)) else (some Yg)))) else (some (([]:List Int)))
end
def Ge.f (k:Nat) (Kb:Int) (Ja:Int) (Ga:Int) (Ia:Int) (Db:Int) (Bc:Int) (tc:ByteArray):Option (List Int):=if Kb=1 then (Ge.j0 k Kb (Kb == 1) Kb Ja Ga Ia Db Bc tc) else (Ge.j0 k Kb (Kb == 6) Kb Ja Ga Ia Db Bc tc)
theorem Ge.calls (k:Nat) (Kb:Int) (Ja:Int) (Ga:Int) (Ia:Int) (Db:Int) (Bc:Int) (tc:ByteArray) (r:List Int) (w:World) (h:Ge.f k Kb Ja Ga Ia Db Bc tc=some r) :
  Calls Try.prog 74 #[.agg #[.int .i64 Kb,.int .i64 Ja,.int .i64 Ga,.int .i64 Ia,.int .i64 Db,.int .i64 Bc,.string tc]] w fun e w'=>∃ Nl:Value,e = .returned (Nl)∧Kd.R (Kd.int .i64) 3 w' w.heap.size (fun _=>True) Nl r∧Below w.heap.size w w':=by
 have MA:=Try.underlying65;have HB:=ga.mk (Below.refl w.heap.size w);have H:(if Kb=1 then (Ge.j0 k Kb (Kb == 1) Kb Ja Ga Ia Db Bc tc) else (Ge.j0 k Kb (Kb == 6) Kb Ja Ga Ia Db Bc tc))=some r:=h;clear h;have iU:=ga.mk H;clear H;go_enter Try.func74,Try.ntmps74
 go_upto_if 6 with (first|((with_reducible refine Ab (N:=1) rfl ?_);refine Lb ?hg (N:=1) ?hd (cs:=#[.int .i64 Kb,.int .i64 Ja,.int .i64 Ga,.int .i64 Ia,.int .i64 Db,.int .i64 Bc,.string tc]) (t:=65) ?hr ?_;(case hd=>rfl);(case hg=>rfl);(case hr=>first|(go_simp;done)|(go_simp;rfl));intro ya hg w3 Sb hb;have Eb:=ga.mk (Ra uaH hb);have Fb:=ga.mk (Sb);have Ob:=ga.mk ((by rw [hg];exact (La uaH):w.heap.size ≤ ya));have Ec:=ga.mk ((by rw [hg];exact (La uaH):w.heap.size ≤ ya));clear HB;have HB:=Eb;have oa:=Fb;have Vd:=Ob;have Ta:=Ec;clear Eb Fb Ob Ec hb Sb hg;have MC:w3.cell? ⟨ya,0,none⟩=some (.int .i64 Kb):=(ia oa.out 0).trans rfl;have LC:w3.cell? ⟨ya,1,none⟩=some (.int .i64 Ja):=(ia oa.out 1).trans rfl;have KC:w3.cell? ⟨ya,2,none⟩=some (.int .i64 Ga):=(ia oa.out 2).trans rfl;have JC:w3.cell? ⟨ya,3,none⟩=some (.int .i64 Ia):=(ia oa.out 3).trans rfl;have IC:w3.cell? ⟨ya,4,none⟩=some (.int .i64 Db):=(ia oa.out 4).trans rfl;have BJ:w3.cell? ⟨ya,5,none⟩=some (.int .i64 Bc):=(ia oa.out 5).trans rfl;have AJ:w3.cell? ⟨ya,6,none⟩=some (.string tc):=(ia oa.out 6).trans rfl;have yC:=aa oa.out 0;have xC:=aa oa.out 1;have wC:=aa oa.out 2;have vC:=aa oa.out 3;have uC:=aa oa.out 4;have LI:=aa oa.out 5;have KI:=aa oa.out 6))
 (try simp only [Act.put,List.setIfInBounds_toArray,List.set_cons_zero,List.set_cons_succ])
 go_cut [6] (fun v6 wc=>∃ (kq:Nat) (Al:Bool),v6 = .bool Al∧ga (Ge.j0 kq Kb Al Kb Ja Ga Ia Db Bc tc=some r)∧ga (kq ≤ k)∧ga (wc.heap[ya]? = some (.cells #[.int .i64 Kb,.int .i64 Ja,.int .i64 Ga,.int .i64 Ia,.int .i64 Db,.int .i64 Bc,.string tc] 65 (0,0)))∧ga (Below w.heap.size w wc))
 case first =>
  have H:=iU.out;clear iU
  by_cases c5:Kb=1
  ·rw [if_pos c5] at H;have fk:(Kb == 1)=true:=beq_iff_eq.mpr c5;have Dz:(Kb != 1)=false:=bne_eq_false_iff_eq.mpr c5;clear c5;(first|rw [fk]|(simp only [nc,oc];rw [fk])|skip);have H':=ga.mk H;clear H;go_wp2
   go_meet
   case rel=>exact ⟨_,((Kb == 1)),AaH,H',⟨by first|omega|exact Nat.le_refl _⟩,⟨zaH⟩,⟨xaH⟩⟩
  ·rw [if_neg c5] at H;have fk:(Kb == 1)=false:=beq_eq_false_iff_ne.mpr c5;have Dz:(Kb != 1)=true:=bne_iff_ne.mpr c5;(first|rw [fk]|(simp only [nc,oc];rw [fk])|skip);have H':=ga.mk H;clear H;go_wp2
   go_meet
   case rel=>exact ⟨_,((Kb == 6)),AaH,H',⟨by first|omega|exact Nat.le_refl _⟩,⟨zaH⟩,⟨xaH⟩⟩
 case rest =>
  clear iU
  try clear p2
  try clear c5
  try clear fk
  try clear Dz
  try clear MC
  try clear LC
  try clear KC
  try clear JC
  try clear IC
  try clear BJ
  try clear AJ
  try clear yC
  try clear xC
  try clear wC
  try clear vC
  try clear uC
  try clear LI
  try clear KI
  obtain ⟨kq,Al,rfl,HA,g_,oa,HB⟩:=hcut;cases kq with
  | zero=>exact absurd HA.out (by simp [Ge.j0])
  | succ rW =>
   have H:=HA.out;clear HA;simp only [Ge.j0] at H
   by_cases c6:Al=true
   ·subst c6;have H1:(some (([Ga]:List Int)))=some r:=by rw [if_pos rfl] at H;exact H
    clear H;have H:=H1;clear H1;obtain ⟨ud,jf⟩:∃ y_:List Int,y_=(([Ga]:List Int)):=⟨_,rfl⟩;replace H:(some ud)=some r:=by first|(rw [jf];with_reducible exact H)|(have Ed:=(Option.bind_some _ _).symm.trans H;rw [jf];with_reducible exact Ed)|(have Ed:=(Option.bind_some _ _).symm.trans H;with_reducible exact Ed)|with_reducible exact H|(rw [jf];exact H)|exact H
    have ei:=ga.mk jf;clear jf;obtain rfl:=Option.some.inj H;have Hu:wc.cell? ⟨ya,0,none⟩=some (.int .i64 Kb):=(ia oa.out 0).trans rfl;have Gu:wc.cell? ⟨ya,1,none⟩=some (.int .i64 Ja):=(ia oa.out 1).trans rfl;have Fu:wc.cell? ⟨ya,2,none⟩=some (.int .i64 Ga):=(ia oa.out 2).trans rfl;have Eu:wc.cell? ⟨ya,3,none⟩=some (.int .i64 Ia):=(ia oa.out 3).trans rfl;have Du:wc.cell? ⟨ya,4,none⟩=some (.int .i64 Db):=(ia oa.out 4).trans rfl;have uJ:wc.cell? ⟨ya,5,none⟩=some (.int .i64 Bc):=(ia oa.out 5).trans rfl;have tJ:wc.cell? ⟨ya,6,none⟩=some (.string tc):=(ia oa.out 6).trans rfl;have Zt:=aa oa.out 0;have Yt:=aa oa.out 1;have Xt:=aa oa.out 2;have Wt:=aa oa.out 3;have Vt:=aa oa.out 4;have DI:=aa oa.out 5;have CI:=aa oa.out 6;go_wp2_with (first|((with_reducible refine Ab (N:=11) rfl ?_);refine Kd.Hj (Kd.int .i64) _ 3 ?hg (N:=11) ?hd (xs:=([Ga]:List Int)) (inner:=[.int .i64 Ga]) (ok:=fun _=>True) (Dh:=fun _=>True) ?hr ?hp (fun _ hk=>hk) trivial (Below.refl _ _) (Nat.le_refl _) (by simp) ?_;(case hd=>rfl);(case hg=>rfl);(case hr=>first|(go_simp;done)|(go_simp;rfl));(case hp=>exact (Pd.one (show Kd.M (Kd.int .i64) _ _ _ Ga [.int .i64 Ga] from rfl) (Pd.none _ _)));intro wm w8 ho9 hb gm Pe;clear gm Pe;(first|rw [← ei.out] at ho9|(simp only [Int.reduceToNat] at ho9;rw [← ei.out] at ho9));have Eb:=ga.mk (Kd.Nd ho9 (La taH));have Fb:=ga.mk (Va (g:=ya) (o:=.cells #[.int .i64 Kb,.int .i64 Ja,.int .i64 Ga,.int .i64 Ia,.int .i64 Db,.int .i64 Bc,.string tc] 65 (0,0)) vaH hb);have Ob:=ga.mk (Ra taH hb);clear oa HB;have Sg:=Eb;have oa:=Fb;have HB:=Ob;clear Eb Fb Ob hb ho9));go_ret;exact ⟨_,by first|rfl|(simp [Pa,Oa] <;> rfl)|(simp [*,Pa,Oa] <;> rfl),SaH,xaH⟩
   ·replace c6:=Bool.eq_false_iff.mpr c6;subst c6;have H1:(if Kb=2 then (some (([Ga,Ia]:List Int))) else (if Kb=3 then (Ge.j1 rW (Kb == 3) Kb Ja Ga Ia Db Bc tc) else (Ge.j1 rW (Kb == 4) Kb Ja Ga Ia Db Bc tc)))=some r:=by rw [if_neg (show ¬ (false=true) by decide)] at H;exact H
    clear H;have H:=H1;clear H1
    by_cases Ts:Kb=2
    ·rw [if_pos Ts] at H;have Bt:(Kb == 2)=true:=beq_iff_eq.mpr Ts;have l9:(Kb != 2)=false:=bne_eq_false_iff_eq.mpr Ts;clear Ts;obtain ⟨Wd,Gf⟩:∃ y_:List Int,y_=(([Ga,Ia]:List Int)):=⟨_,rfl⟩;replace H:(some Wd)=some r:=by first|(rw [Gf];with_reducible exact H)|(have Ed:=(Option.bind_some _ _).symm.trans H;rw [Gf];with_reducible exact Ed)|(have Ed:=(Option.bind_some _ _).symm.trans H;with_reducible exact Ed)|with_reducible exact H|(rw [Gf];exact H)|exact H
     have Jl:=ga.mk Gf;clear Gf;obtain rfl:=Option.some.inj H;have jv:wc.cell? ⟨ya,0,none⟩=some (.int .i64 Kb):=(ia oa.out 0).trans rfl;have gv:wc.cell? ⟨ya,1,none⟩=some (.int .i64 Ja):=(ia oa.out 1).trans rfl;have cv:wc.cell? ⟨ya,2,none⟩=some (.int .i64 Ga):=(ia oa.out 2).trans rfl;have av:wc.cell? ⟨ya,3,none⟩=some (.int .i64 Ia):=(ia oa.out 3).trans rfl;have Zu:wc.cell? ⟨ya,4,none⟩=some (.int .i64 Db):=(ia oa.out 4).trans rfl;have I5:wc.cell? ⟨ya,5,none⟩=some (.int .i64 Bc):=(ia oa.out 5).trans rfl;have G5:wc.cell? ⟨ya,6,none⟩=some (.string tc):=(ia oa.out 6).trans rfl;have Cu:=aa oa.out 0;have Bu:=aa oa.out 1;have zu:=aa oa.out 2;have yu:=aa oa.out 3;have xu:=aa oa.out 4;have L3:=aa oa.out 5;have K3:=aa oa.out 6;go_wp2_with (first|((with_reducible refine Ab (N:=18) rfl ?_);refine Kd.Hj (Kd.int .i64) _ 3 ?hg (N:=18) ?hd (xs:=([Ga,Ia]:List Int)) (inner:=[.int .i64 Ga,.int .i64 Ia]) (ok:=fun _=>True) (Dh:=fun _=>True) ?hr ?hp (fun _ hk=>hk) trivial (Below.refl _ _) (Nat.le_refl _) (by simp) ?_;(case hd=>rfl);(case hg=>rfl);(case hr=>first|(go_simp;done)|(go_simp;rfl));(case hp=>exact (Pd.one (show Kd.M (Kd.int .i64) _ _ _ Ga [.int .i64 Ga] from rfl) (Pd.one (show Kd.M (Kd.int .i64) _ _ _ Ia [.int .i64 Ia] from rfl) (Pd.none _ _))));intro XB Ks aX hb gm Pe;clear gm Pe;(first|rw [← Jl.out] at aX|(simp only [Int.reduceToNat] at aX;rw [← Jl.out] at aX));have Eb:=ga.mk (Kd.Nd aX (La taH));have Fb:=ga.mk (Va (g:=ya) (o:=.cells #[.int .i64 Kb,.int .i64 Ja,.int .i64 Ga,.int .i64 Ia,.int .i64 Db,.int .i64 Bc,.string tc] 65 (0,0)) vaH hb);have Ob:=ga.mk (Ra taH hb);clear oa HB;have nj:=Eb;have oa:=Fb;have HB:=Ob;clear Eb Fb Ob hb aX));go_ret;exact ⟨_,by first|rfl|(simp [Pa,Oa] <;> rfl)|(simp [*,Pa,Oa] <;> rfl),baI,xaH⟩
    ·rw [if_neg Ts] at H;have Bt:(Kb == 2)=false:=beq_eq_false_iff_ne.mpr Ts;have l9:(Kb != 2)=true:=bne_iff_ne.mpr Ts;have mad:=ga.mk H;clear H
     go_upto_if 19 with (fail)
     go_cut [19] (fun v19 wc=>∃ (kq:Nat) (VH:Bool),v19 = .bool VH∧ga (Ge.j1 kq VH Kb Ja Ga Ia Db Bc tc=some r)∧ga (kq ≤ rW)∧ga (wc.heap[ya]? = some (.cells #[.int .i64 Kb,.int .i64 Ja,.int .i64 Ga,.int .i64 Ia,.int .i64 Db,.int .i64 Bc,.string tc] 65 (0,0)))∧ga (Below w.heap.size w wc))
     case first =>
      have H:=mad.out;clear mad
      by_cases vD:Kb=3
      ·rw [if_pos vD] at H;have yB:(Kb == 3)=true:=beq_iff_eq.mpr vD;have e9:(Kb != 3)=false:=bne_eq_false_iff_eq.mpr vD;clear vD;(first|rw [yB]|(simp only [nc,oc];rw [yB])|skip);have H':=ga.mk H;clear H;go_wp2
       go_meet
       case rel=>exact ⟨_,((Kb == 3)),AaH,H',⟨by have:=g_.out;first|omega|exact Nat.le_refl _⟩,⟨zaH⟩,⟨xaH⟩⟩
      ·rw [if_neg vD] at H;have yB:(Kb == 3)=false:=beq_eq_false_iff_ne.mpr vD;have e9:(Kb != 3)=true:=bne_iff_ne.mpr vD;(first|rw [yB]|(simp only [nc,oc];rw [yB])|skip);have H':=ga.mk H;clear H;go_wp2
       go_meet
       case rel=>exact ⟨_,((Kb == 4)),AaH,H',⟨by have:=g_.out;first|omega|exact Nat.le_refl _⟩,⟨zaH⟩,⟨xaH⟩⟩
     case rest =>
      clear mad
      try clear c1
      try clear p2
      try clear c5
      try clear fk
      try clear Dz
      try clear c6
      try clear c7
      try clear Ts
      try clear Bt
      try clear l9
      try clear vD
      try clear yB
      try clear e9
      try clear jv
      try clear gv
      try clear cv
      try clear av
      try clear Zu
      try clear I5
      try clear G5
      try clear MC
      try clear LC
      try clear KC
      try clear JC
      try clear IC
      try clear BJ
      try clear AJ
      try clear Hu
      try clear Gu
      try clear Fu
      try clear Eu
      try clear Du
      try clear uJ
      try clear tJ
      try clear Cu
      try clear Bu
      try clear zu
      try clear yu
      try clear xu
      try clear L3
      try clear K3
      try clear yC
      try clear xC
      try clear wC
      try clear vC
      try clear uC
      try clear LI
      try clear KI
      try clear Zt
      try clear Yt
      try clear Xt
      try clear Wt
      try clear Vt
      try clear DI
      try clear CI
      try clear p2
      obtain ⟨kq,VH,rfl,HA,xaF,oa,HB⟩:=hcut;cases kq with
      | zero=>exact absurd HA.out (by simp [Ge.j1])
      | succ zaD =>
       have H:=HA.out;clear HA;simp only [Ge.j1] at H
       by_cases uM:VH=true
       ·subst uM;have H1:((some (([Ia]:List Int):List Int)).bind fun Yg=>(if Ga ≥ 0 then (if Yg.length < 17592186044416 then ((some (Yg ++ [Ga]:List Int)).bind fun Bq=>(if Kb=4 then (if Bq.length < 17592186044416 then (some (Bq ++ [Db])) else (none)) else (some Bq))) else (none)) else (if Kb=4 then (if Yg.length < 17592186044416 then (some (Yg ++ [Db])) else (none)) else (some Yg))))=some r:=by rw [if_pos rfl] at H;exact H
        clear H;have H:=H1;clear H1;obtain ⟨Yg,Ff⟩:∃ y_:List Int,y_=(([Ia]:List Int)):=⟨_,rfl⟩;replace H:(if Ga ≥ 0 then (if Yg.length < 17592186044416 then ((some (Yg ++ [Ga]:List Int)).bind fun Bq=>(if Kb=4 then (if Bq.length < 17592186044416 then (some (Bq ++ [Db])) else (none)) else (some Bq))) else (none)) else (if Kb=4 then (if Yg.length < 17592186044416 then (some (Yg ++ [Db])) else (none)) else (some Yg)))=some r:=by first|(rw [Ff];with_reducible exact H)|(have Ed:=(Option.bind_some _ _).symm.trans H;rw [Ff];with_reducible exact Ed)|(have Ed:=(Option.bind_some _ _).symm.trans H;with_reducible exact Ed)|with_reducible exact H|(rw [Ff];exact H)|exact H
        have Ej:=ga.mk Ff;clear Ff
        by_cases yt:Ga ≥ 0
        ·rw [if_pos yt] at H;have Hp:decide (0 ≤ Ga)=true:=decide_eq_true yt;clear yt
         by_cases dr:Yg.length < 17592186044416
         ·rw [if_pos dr] at H;have I9:=ga.mk dr;clear dr;obtain ⟨Bq,Yo⟩:∃ y_:List Int,y_=(Yg ++ [Ga]):=⟨_,rfl⟩;replace H:(if Kb=4 then (if Bq.length < 17592186044416 then (some (Bq ++ [Db])) else (none)) else (some Bq))=some r:=by first|(rw [Yo];with_reducible exact H)|(have Ed:=(Option.bind_some _ _).symm.trans H;rw [Yo];with_reducible exact Ed)|(have Ed:=(Option.bind_some _ _).symm.trans H;with_reducible exact Ed)|with_reducible exact H|(rw [Yo];exact H)|exact H
          have KH:=ga.mk Yo;clear Yo
          by_cases lp:Kb=4
          ·rw [if_pos lp] at H;have yw:(Kb == 4)=true:=beq_iff_eq.mpr lp;have nY:(Kb != 4)=false:=bne_eq_false_iff_eq.mpr lp;clear lp
           by_cases tr:Bq.length < 17592186044416
           ·rw [if_pos tr] at H;have jak:=ga.mk tr;clear tr;obtain ⟨Ll,fl⟩:∃ y_:List Int,y_=(Bq ++ [Db]):=⟨_,rfl⟩;replace H:(some Ll)=some r:=by first|(rw [fl];with_reducible exact H)|(have Ed:=(Option.bind_some _ _).symm.trans H;rw [fl];with_reducible exact Ed)|(have Ed:=(Option.bind_some _ _).symm.trans H;with_reducible exact Ed)|with_reducible exact H|(rw [fl];exact H)|exact H
            have Cw:=ga.mk fl;clear fl;obtain rfl:=Option.some.inj H;have JE:wc.cell? ⟨ya,0,none⟩=some (.int .i64 Kb):=(ia oa.out 0).trans rfl;have IE:wc.cell? ⟨ya,1,none⟩=some (.int .i64 Ja):=(ia oa.out 1).trans rfl;have FE:wc.cell? ⟨ya,2,none⟩=some (.int .i64 Ga):=(ia oa.out 2).trans rfl;have EE:wc.cell? ⟨ya,3,none⟩=some (.int .i64 Ia):=(ia oa.out 3).trans rfl;have DE:wc.cell? ⟨ya,4,none⟩=some (.int .i64 Db):=(ia oa.out 4).trans rfl;have Aas:wc.cell? ⟨ya,5,none⟩=some (.int .i64 Bc):=(ia oa.out 5).trans rfl;have zas:wc.cell? ⟨ya,6,none⟩=some (.string tc):=(ia oa.out 6).trans rfl;have mE:=aa oa.out 0;have lE:=aa oa.out 1;have kE:=aa oa.out 2;have jE:=aa oa.out 3;have iE:=aa oa.out 4;have rap:=aa oa.out 5;have qap:=aa oa.out 6;go_wp2_with (first|((with_reducible refine Ab (N:=24) rfl ?_);refine Kd.Hj (Kd.int .i64) _ 3 ?hg (N:=24) ?hd (xs:=([Ia]:List Int)) (inner:=[.int .i64 Ia]) (ok:=fun _=>True) (Dh:=fun _=>True) ?hr ?hp (fun _ hk=>hk) trivial (Below.refl _ _) (Nat.le_refl _) (by simp) ?_;(case hd=>rfl);(case hg=>rfl);(case hr=>first|(go_simp;done)|(go_simp;rfl));(case hp=>exact (Pd.one (show Kd.M (Kd.int .i64) _ _ _ Ia [.int .i64 Ia] from rfl) (Pd.none _ _)));intro IG fH XW hb gm Pe;clear gm Pe;(first|rw [← Ej.out] at XW|(simp only [Int.reduceToNat] at XW;rw [← Ej.out] at XW));have Eb:=ga.mk (Kd.Nd XW (La taH));have Fb:=ga.mk (Va (g:=ya) (o:=.cells #[.int .i64 Kb,.int .i64 Ja,.int .i64 Ga,.int .i64 Ia,.int .i64 Db,.int .i64 Bc,.string tc] 65 (0,0)) vaH hb);have Ob:=ga.mk (Ra taH hb);clear oa HB;have uj:=Eb;have oa:=Fb;have HB:=Ob;clear Eb Fb Ob hb XW;have Ou:fH.cell? ⟨ya,0,none⟩=some (.int .i64 Kb):=(ia oa.out 0).trans rfl;have Nu:fH.cell? ⟨ya,1,none⟩=some (.int .i64 Ja):=(ia oa.out 1).trans rfl;have Mu:fH.cell? ⟨ya,2,none⟩=some (.int .i64 Ga):=(ia oa.out 2).trans rfl;have Lu:fH.cell? ⟨ya,3,none⟩=some (.int .i64 Ia):=(ia oa.out 3).trans rfl;have Ku:fH.cell? ⟨ya,4,none⟩=some (.int .i64 Db):=(ia oa.out 4).trans rfl;have j5:fH.cell? ⟨ya,5,none⟩=some (.int .i64 Bc):=(ia oa.out 5).trans rfl;have b5:fH.cell? ⟨ya,6,none⟩=some (.string tc):=(ia oa.out 6).trans rfl;have ju:=aa oa.out 0;have iu:=aa oa.out 1;have gu:=aa oa.out 2;have fu:=aa oa.out 3;have eu:=aa oa.out 4;have B3:=aa oa.out 5;have n3:=aa oa.out 6)|((with_reducible refine Jd (b:=.append) (xs:=#[.tmp 28,.tmp 31]) rfl ?_);at_builtin;refine Kd.Rg (Kd.int .i64) (w0:=w) w.heap.size rfl (.tmp 28) (.tmp 31) 22 3 (.int .i64 0) 8 rfl Try.underlying22 info3 rfl (by decide) (by omega) IG Yg Ga [.int .i64 Ga] (fun _=>True) (fun _=>False) rfl rfl ?aP (fun _ hk=>hk.elim) ?aF ?aO ?aB ?aS ?aL ?_;(case aP=>exact rfl);(case aB=>exact taH);(case aF=>exact (fun _ _=>trivial));(case aO=>exact jaI);(case aS=>exact (La taH));(case aL=>have:=I9.out;omega);intro N_ Pz ho hb hg hat;rw [← KH.out] at ho;have Eb:=ga.mk (Vc (g:=ya) (o:=.cells #[.int .i64 Kb,.int .i64 Ja,.int .i64 Ga,.int .i64 Ia,.int .i64 Db,.int .i64 Bc,.string tc] 65 (0,0)) vaH hg (Kd.tj uj.out oa.out (by decide)));have Fb:=ga.mk (hb);have Ob:=ga.mk (ho);clear oa HB uj;have oa:=Eb;have HB:=Fb;have qG:=Ob;clear Eb Fb Ob ho hb hg hat;have Yx:Pz.cell? ⟨ya,0,none⟩=some (.int .i64 Kb):=(ia oa.out 0).trans rfl;have Xx:Pz.cell? ⟨ya,1,none⟩=some (.int .i64 Ja):=(ia oa.out 1).trans rfl;have Wx:Pz.cell? ⟨ya,2,none⟩=some (.int .i64 Ga):=(ia oa.out 2).trans rfl;have Vx:Pz.cell? ⟨ya,3,none⟩=some (.int .i64 Ia):=(ia oa.out 3).trans rfl;have Ux:Pz.cell? ⟨ya,4,none⟩=some (.int .i64 Db):=(ia oa.out 4).trans rfl;have vas:Pz.cell? ⟨ya,5,none⟩=some (.int .i64 Bc):=(ia oa.out 5).trans rfl;have uas:Pz.cell? ⟨ya,6,none⟩=some (.string tc):=(ia oa.out 6).trans rfl;have ox:=aa oa.out 0;have jx:=aa oa.out 1;have gx:=aa oa.out 2;have dx:=aa oa.out 3;have bx:=aa oa.out 4;have lap:=aa oa.out 5;have kap:=aa oa.out 6)|((with_reducible refine Jd (b:=.append) (xs:=#[.tmp 36,.tmp 39]) rfl ?_);at_builtin;refine Kd.Rg (Kd.int .i64) (w0:=w) w.heap.size rfl (.tmp 36) (.tmp 39) 22 3 (.int .i64 0) 8 rfl Try.underlying22 info3 rfl (by decide) (by omega) N_ Bq Db [.int .i64 Db] (fun _=>True) (fun _=>False) rfl rfl ?aP (fun _ hk=>hk.elim) ?aF ?aO ?aB ?aS ?aL ?_;(case aP=>exact rfl);(case aB=>exact taH);(case aF=>exact (fun _ _=>trivial));(case aO=>exact (by (with_reducible repeat (first|apply Kd.Xa|apply Kd.Wa|apply Kd.gb));exact qG.out));(case aS=>exact (La taH));(case aL=>have:=jak.out;omega);intro fz w27 ho hb hg hat;rw [← Cw.out] at ho;have Eb:=ga.mk (Vc (g:=ya) (o:=.cells #[.int .i64 Kb,.int .i64 Ja,.int .i64 Ga,.int .i64 Ia,.int .i64 Db,.int .i64 Bc,.string tc] 65 (0,0)) vaH hg (Kd.tj qG.out oa.out (by decide)));have Fb:=ga.mk (hb);have Ob:=ga.mk (ho);clear oa HB qG;have oa:=Eb;have HB:=Fb;have yp:=Ob;clear Eb Fb Ob ho hb hg hat));go_ret;exact ⟨_,by first|rfl|(simp [Pa,Oa] <;> rfl)|(simp [*,Pa,Oa] <;> rfl),by (with_reducible repeat (first|apply Kd.Xa|apply Kd.Wa|apply Kd.gb));exact yp.out,xaH⟩
           ·rw [if_neg tr] at H;exact absurd H (by simp)
          ·rw [if_neg lp] at H;have yw:(Kb == 4)=false:=beq_eq_false_iff_ne.mpr lp;have nY:(Kb != 4)=true:=bne_iff_ne.mpr lp;obtain rfl:=Option.some.inj H;have gT:wc.cell? ⟨ya,0,none⟩=some (.int .i64 Kb):=(ia oa.out 0).trans rfl;have fT:wc.cell? ⟨ya,1,none⟩=some (.int .i64 Ja):=(ia oa.out 1).trans rfl;have eT:wc.cell? ⟨ya,2,none⟩=some (.int .i64 Ga):=(ia oa.out 2).trans rfl;have bT:wc.cell? ⟨ya,3,none⟩=some (.int .i64 Ia):=(ia oa.out 3).trans rfl;have aT:wc.cell? ⟨ya,4,none⟩=some (.int .i64 Db):=(ia oa.out 4).trans rfl;have Z4:wc.cell? ⟨ya,5,none⟩=some (.int .i64 Bc):=(ia oa.out 5).trans rfl;have Y4:wc.cell? ⟨ya,6,none⟩=some (.string tc):=(ia oa.out 6).trans rfl;have LR:=aa oa.out 0;have KR:=aa oa.out 1;have JR:=aa oa.out 2;have GR:=aa oa.out 3;have FR:=aa oa.out 4;have m3:=aa oa.out 5;have j3:=aa oa.out 6;go_wp2_with (first|((with_reducible refine Ab (N:=24) rfl ?_);refine Kd.Hj (Kd.int .i64) _ 3 ?hg (N:=24) ?hd (xs:=([Ia]:List Int)) (inner:=[.int .i64 Ia]) (ok:=fun _=>True) (Dh:=fun _=>True) ?hr ?hp (fun _ hk=>hk) trivial (Below.refl _ _) (Nat.le_refl _) (by simp) ?_;(case hd=>rfl);(case hg=>rfl);(case hr=>first|(go_simp;done)|(go_simp;rfl));(case hp=>exact (Pd.one (show Kd.M (Kd.int .i64) _ _ _ Ia [.int .i64 Ia] from rfl) (Pd.none _ _)));intro IG SK WW hb gm Pe;clear gm Pe;(first|rw [← Ej.out] at WW|(simp only [Int.reduceToNat] at WW;rw [← Ej.out] at WW));have Eb:=ga.mk (Kd.Nd WW (La taH));have Fb:=ga.mk (Va (g:=ya) (o:=.cells #[.int .i64 Kb,.int .i64 Ja,.int .i64 Ga,.int .i64 Ia,.int .i64 Db,.int .i64 Bc,.string tc] 65 (0,0)) vaH hb);have Ob:=ga.mk (Ra taH hb);clear oa HB;have uj:=Eb;have oa:=Fb;have HB:=Ob;clear Eb Fb Ob hb WW;have nB:SK.cell? ⟨ya,0,none⟩=some (.int .i64 Kb):=(ia oa.out 0).trans rfl;have mB:SK.cell? ⟨ya,1,none⟩=some (.int .i64 Ja):=(ia oa.out 1).trans rfl;have lB:SK.cell? ⟨ya,2,none⟩=some (.int .i64 Ga):=(ia oa.out 2).trans rfl;have kB:SK.cell? ⟨ya,3,none⟩=some (.int .i64 Ia):=(ia oa.out 3).trans rfl;have jB:SK.cell? ⟨ya,4,none⟩=some (.int .i64 Db):=(ia oa.out 4).trans rfl;have P4:SK.cell? ⟨ya,5,none⟩=some (.int .i64 Bc):=(ia oa.out 5).trans rfl;have O4:SK.cell? ⟨ya,6,none⟩=some (.string tc):=(ia oa.out 6).trans rfl;have YA:=aa oa.out 0;have XA:=aa oa.out 1;have WA:=aa oa.out 2;have VA:=aa oa.out 3;have UA:=aa oa.out 4;have Q2:=aa oa.out 5;have P2:=aa oa.out 6)|((with_reducible refine Jd (b:=.append) (xs:=#[.tmp 28,.tmp 31]) rfl ?_);at_builtin;refine Kd.Rg (Kd.int .i64) (w0:=w) w.heap.size rfl (.tmp 28) (.tmp 31) 22 3 (.int .i64 0) 8 rfl Try.underlying22 info3 rfl (by decide) (by omega) IG Yg Ga [.int .i64 Ga] (fun _=>True) (fun _=>False) rfl rfl ?aP (fun _ hk=>hk.elim) ?aF ?aO ?aB ?aS ?aL ?_;(case aP=>exact rfl);(case aB=>exact taH);(case aF=>exact (fun _ _=>trivial));(case aO=>exact jaI);(case aS=>exact (La taH));(case aL=>have:=I9.out;omega);intro N_ XM ho hb hg hat;rw [← KH.out] at ho;have Eb:=ga.mk (Vc (g:=ya) (o:=.cells #[.int .i64 Kb,.int .i64 Ja,.int .i64 Ga,.int .i64 Ia,.int .i64 Db,.int .i64 Bc,.string tc] 65 (0,0)) vaH hg (Kd.tj uj.out oa.out (by decide)));have Fb:=ga.mk (hb);have Ob:=ga.mk (ho);clear oa HB uj;have oa:=Eb;have HB:=Fb;have qG:=Ob;clear Eb Fb Ob ho hb hg hat;have ZS:XM.cell? ⟨ya,0,none⟩=some (.int .i64 Kb):=(ia oa.out 0).trans rfl;have YS:XM.cell? ⟨ya,1,none⟩=some (.int .i64 Ja):=(ia oa.out 1).trans rfl;have XS:XM.cell? ⟨ya,2,none⟩=some (.int .i64 Ga):=(ia oa.out 2).trans rfl;have WS:XM.cell? ⟨ya,3,none⟩=some (.int .i64 Ia):=(ia oa.out 3).trans rfl;have VS:XM.cell? ⟨ya,4,none⟩=some (.int .i64 Db):=(ia oa.out 4).trans rfl;have US:XM.cell? ⟨ya,5,none⟩=some (.int .i64 Bc):=(ia oa.out 5).trans rfl;have TS:XM.cell? ⟨ya,6,none⟩=some (.string tc):=(ia oa.out 6).trans rfl;have ER:=aa oa.out 0;have DR:=aa oa.out 1;have CR:=aa oa.out 2;have BR:=aa oa.out 3;have AR:=aa oa.out 4;have zR:=aa oa.out 5;have yR:=aa oa.out 6));go_ret;exact ⟨_,by first|rfl|(simp [Pa,Oa] <;> rfl)|(simp [*,Pa,Oa] <;> rfl),by (with_reducible repeat (first|apply Kd.Xa|apply Kd.Wa|apply Kd.gb));exact qG.out,xaH⟩
         ·rw [if_neg dr] at H;exact absurd H (by simp)
        ·rw [if_neg yt] at H;have Hp:decide (0 ≤ Ga)=false:=decide_eq_false yt;clear yt
         by_cases Iz:Kb=4
         ·rw [if_pos Iz] at H;have AH:(Kb == 4)=true:=beq_iff_eq.mpr Iz;have waj:(Kb != 4)=false:=bne_eq_false_iff_eq.mpr Iz;clear Iz
          by_cases UB:Yg.length < 17592186044416
          ·rw [if_pos UB] at H;have WY:=ga.mk UB;clear UB;obtain ⟨Ws,jw⟩:∃ y_:List Int,y_=(Yg ++ [Db]):=⟨_,rfl⟩;replace H:(some Ws)=some r:=by first|(rw [jw];with_reducible exact H)|(have Ed:=(Option.bind_some _ _).symm.trans H;rw [jw];with_reducible exact Ed)|(have Ed:=(Option.bind_some _ _).symm.trans H;with_reducible exact Ed)|with_reducible exact H|(rw [jw];exact H)|exact H
           have PT:=ga.mk jw;clear jw;obtain rfl:=Option.some.inj H;have zE:wc.cell? ⟨ya,0,none⟩=some (.int .i64 Kb):=(ia oa.out 0).trans rfl;have yE:wc.cell? ⟨ya,1,none⟩=some (.int .i64 Ja):=(ia oa.out 1).trans rfl;have xE:wc.cell? ⟨ya,2,none⟩=some (.int .i64 Ga):=(ia oa.out 2).trans rfl;have wE:wc.cell? ⟨ya,3,none⟩=some (.int .i64 Ia):=(ia oa.out 3).trans rfl;have vE:wc.cell? ⟨ya,4,none⟩=some (.int .i64 Db):=(ia oa.out 4).trans rfl;have ras:wc.cell? ⟨ya,5,none⟩=some (.int .i64 Bc):=(ia oa.out 5).trans rfl;have qas:wc.cell? ⟨ya,6,none⟩=some (.string tc):=(ia oa.out 6).trans rfl;have eE:=aa oa.out 0;have cE:=aa oa.out 1;have bE:=aa oa.out 2;have aE:=aa oa.out 3;have ZD:=aa oa.out 4;have eap:=aa oa.out 5;have dap:=aa oa.out 6;go_wp2_with (first|((with_reducible refine Ab (N:=24) rfl ?_);refine Kd.Hj (Kd.int .i64) _ 3 ?hg (N:=24) ?hd (xs:=([Ia]:List Int)) (inner:=[.int .i64 Ia]) (ok:=fun _=>True) (Dh:=fun _=>True) ?hr ?hp (fun _ hk=>hk) trivial (Below.refl _ _) (Nat.le_refl _) (by simp) ?_;(case hd=>rfl);(case hg=>rfl);(case hr=>first|(go_simp;done)|(go_simp;rfl));(case hp=>exact (Pd.one (show Kd.M (Kd.int .i64) _ _ _ Ia [.int .i64 Ia] from rfl) (Pd.none _ _)));intro IG VZ VW hb gm Pe;clear gm Pe;(first|rw [← Ej.out] at VW|(simp only [Int.reduceToNat] at VW;rw [← Ej.out] at VW));have Eb:=ga.mk (Kd.Nd VW (La taH));have Fb:=ga.mk (Va (g:=ya) (o:=.cells #[.int .i64 Kb,.int .i64 Ja,.int .i64 Ga,.int .i64 Ia,.int .i64 Db,.int .i64 Bc,.string tc] 65 (0,0)) vaH hb);have Ob:=ga.mk (Ra taH hb);clear oa HB;have uj:=Eb;have oa:=Fb;have HB:=Ob;clear Eb Fb Ob hb VW;have uE:VZ.cell? ⟨ya,0,none⟩=some (.int .i64 Kb):=(ia oa.out 0).trans rfl;have sE:VZ.cell? ⟨ya,1,none⟩=some (.int .i64 Ja):=(ia oa.out 1).trans rfl;have rE:VZ.cell? ⟨ya,2,none⟩=some (.int .i64 Ga):=(ia oa.out 2).trans rfl;have qE:VZ.cell? ⟨ya,3,none⟩=some (.int .i64 Ia):=(ia oa.out 3).trans rfl;have pE:VZ.cell? ⟨ya,4,none⟩=some (.int .i64 Db):=(ia oa.out 4).trans rfl;have L4:VZ.cell? ⟨ya,5,none⟩=some (.int .i64 Bc):=(ia oa.out 5).trans rfl;have K4:VZ.cell? ⟨ya,6,none⟩=some (.string tc):=(ia oa.out 6).trans rfl;have YD:=aa oa.out 0;have XD:=aa oa.out 1;have WD:=aa oa.out 2;have VD:=aa oa.out 3;have UD:=aa oa.out 4;have L2:=aa oa.out 5;have K2:=aa oa.out 6)|((with_reducible refine Jd (b:=.append) (xs:=#[.tmp 36,.tmp 39]) rfl ?_);at_builtin;refine Kd.Rg (Kd.int .i64) (w0:=w) w.heap.size rfl (.tmp 36) (.tmp 39) 22 3 (.int .i64 0) 8 rfl Try.underlying22 info3 rfl (by decide) (by omega) IG Yg Db [.int .i64 Db] (fun _=>True) (fun _=>False) rfl rfl ?aP (fun _ hk=>hk.elim) ?aF ?aO ?aB ?aS ?aL ?_;(case aP=>exact rfl);(case aB=>exact taH);(case aF=>exact (fun _ _=>trivial));(case aO=>exact jaI);(case aS=>exact (La taH));(case aL=>have:=WY.out;omega);intro M_ w40 ho hb hg hat;rw [← PT.out] at ho;have Eb:=ga.mk (Vc (g:=ya) (o:=.cells #[.int .i64 Kb,.int .i64 Ja,.int .i64 Ga,.int .i64 Ia,.int .i64 Db,.int .i64 Bc,.string tc] 65 (0,0)) vaH hg (Kd.tj uj.out oa.out (by decide)));have Fb:=ga.mk (hb);have Ob:=ga.mk (ho);clear oa HB uj;have oa:=Eb;have HB:=Fb;have pG:=Ob;clear Eb Fb Ob ho hb hg hat));go_ret;exact ⟨_,by first|rfl|(simp [Pa,Oa] <;> rfl)|(simp [*,Pa,Oa] <;> rfl),by (with_reducible repeat (first|apply Kd.Xa|apply Kd.Wa|apply Kd.gb));exact pG.out,xaH⟩
          ·rw [if_neg UB] at H;exact absurd H (by simp)
         ·rw [if_neg Iz] at H;have AH:(Kb == 4)=false:=beq_eq_false_iff_ne.mpr Iz;have waj:(Kb != 4)=true:=bne_iff_ne.mpr Iz;obtain rfl:=Option.some.inj H;have vS:wc.cell? ⟨ya,0,none⟩=some (.int .i64 Kb):=(ia oa.out 0).trans rfl;have uS:wc.cell? ⟨ya,1,none⟩=some (.int .i64 Ja):=(ia oa.out 1).trans rfl;have tS:wc.cell? ⟨ya,2,none⟩=some (.int .i64 Ga):=(ia oa.out 2).trans rfl;have sS:wc.cell? ⟨ya,3,none⟩=some (.int .i64 Ia):=(ia oa.out 3).trans rfl;have rS:wc.cell? ⟨ya,4,none⟩=some (.int .i64 Db):=(ia oa.out 4).trans rfl;have nas:wc.cell? ⟨ya,5,none⟩=some (.int .i64 Bc):=(ia oa.out 5).trans rfl;have mas:wc.cell? ⟨ya,6,none⟩=some (.string tc):=(ia oa.out 6).trans rfl;have dR:=aa oa.out 0;have cR:=aa oa.out 1;have bR:=aa oa.out 2;have ZQ:=aa oa.out 3;have YQ:=aa oa.out 4;have Zao:=aa oa.out 5;have Yao:=aa oa.out 6;go_wp2_with (first|((with_reducible refine Ab (N:=24) rfl ?_);refine Kd.Hj (Kd.int .i64) _ 3 ?hg (N:=24) ?hd (xs:=([Ia]:List Int)) (inner:=[.int .i64 Ia]) (ok:=fun _=>True) (Dh:=fun _=>True) ?hr ?hp (fun _ hk=>hk) trivial (Below.refl _ _) (Nat.le_refl _) (by simp) ?_;(case hd=>rfl);(case hg=>rfl);(case hr=>first|(go_simp;done)|(go_simp;rfl));(case hp=>exact (Pd.one (show Kd.M (Kd.int .i64) _ _ _ Ia [.int .i64 Ia] from rfl) (Pd.none _ _)));intro IG AG UW hb gm Pe;clear gm Pe;(first|rw [← Ej.out] at UW|(simp only [Int.reduceToNat] at UW;rw [← Ej.out] at UW));have Eb:=ga.mk (Kd.Nd UW (La taH));have Fb:=ga.mk (Va (g:=ya) (o:=.cells #[.int .i64 Kb,.int .i64 Ja,.int .i64 Ga,.int .i64 Ia,.int .i64 Db,.int .i64 Bc,.string tc] 65 (0,0)) vaH hb);have Ob:=ga.mk (Ra taH hb);clear oa HB;have uj:=Eb;have oa:=Fb;have HB:=Ob;clear Eb Fb Ob hb UW;have LJ:AG.cell? ⟨ya,0,none⟩=some (.int .i64 Kb):=(ia oa.out 0).trans rfl;have KJ:AG.cell? ⟨ya,1,none⟩=some (.int .i64 Ja):=(ia oa.out 1).trans rfl;have JJ:AG.cell? ⟨ya,2,none⟩=some (.int .i64 Ga):=(ia oa.out 2).trans rfl;have IJ:AG.cell? ⟨ya,3,none⟩=some (.int .i64 Ia):=(ia oa.out 3).trans rfl;have HJ:AG.cell? ⟨ya,4,none⟩=some (.int .i64 Db):=(ia oa.out 4).trans rfl;have iS:AG.cell? ⟨ya,5,none⟩=some (.int .i64 Bc):=(ia oa.out 5).trans rfl;have gS:AG.cell? ⟨ya,6,none⟩=some (.string tc):=(ia oa.out 6).trans rfl;have VI:=aa oa.out 0;have UI:=aa oa.out 1;have TI:=aa oa.out 2;have SI:=aa oa.out 3;have RI:=aa oa.out 4;have OQ:=aa oa.out 5;have NQ:=aa oa.out 6));go_ret;exact ⟨_,by first|rfl|(simp [Pa,Oa] <;> rfl)|(simp [*,Pa,Oa] <;> rfl),by (with_reducible repeat (first|apply Kd.Xa|apply Kd.Wa|apply Kd.gb));exact uj.out,xaH⟩
       ·replace uM:=Bool.eq_false_iff.mpr uM;subst uM;have H1:(some (([]:List Int)))=some r:=by rw [if_neg (show ¬ (false=true) by decide)] at H;exact H
        clear H;have H:=H1;clear H1;obtain ⟨C_,gw⟩:∃ y_:List Int,y_=(([]:List Int)):=⟨_,rfl⟩;replace H:(some C_)=some r:=by first|(rw [gw];with_reducible exact H)|(have Ed:=(Option.bind_some _ _).symm.trans H;rw [gw];with_reducible exact Ed)|(have Ed:=(Option.bind_some _ _).symm.trans H;with_reducible exact Ed)|with_reducible exact H|(rw [gw];exact H)|exact H
        have OT:=ga.mk gw;clear gw;obtain rfl:=Option.some.inj H;go_wp2_with (first|((with_reducible refine Ab (N:=42) rfl ?_);refine Kd.Hj (Kd.int .i64) _ 3 ?hg (N:=42) ?hd (xs:=([]:List Int)) (inner:=[]) (ok:=fun _=>True) (Dh:=fun _=>True) ?hr ?hp (fun _ hk=>hk) trivial (Below.refl _ _) (Nat.le_refl _) (by simp) ?_;(case hd=>rfl);(case hg=>rfl);(case hr=>first|(go_simp;done)|(go_simp;rfl));(case hp=>exact (Pd.none _ _));intro Qat UZ TW hb gm Pe;clear gm Pe;(first|rw [← OT.out] at TW|(simp only [Int.reduceToNat] at TW;rw [← OT.out] at TW));have Eb:=ga.mk (Kd.Nd TW (La taH));have Fb:=ga.mk (Va (g:=ya) (o:=.cells #[.int .i64 Kb,.int .i64 Ja,.int .i64 Ga,.int .i64 Ia,.int .i64 Db,.int .i64 Bc,.string tc] 65 (0,0)) vaH hb);have Ob:=ga.mk (Ra taH hb);clear oa HB;have gZ:=Eb;have oa:=Fb;have HB:=Ob;clear Eb Fb Ob hb TW));go_ret;exact ⟨_,by first|rfl|(simp [Pa,Oa] <;> rfl)|(simp [*,Pa,Oa] <;> rfl),by (with_reducible repeat (first|apply Kd.Xa|apply Kd.Wa|apply Kd.gb));exact gZ.out,xaH⟩
mutual
def Lc.j0:Nat→List Bool→Int→Int→Int→Int→Int→Int→ByteArray→Option (List Bool)
 | 0,_,_,_,_,_,_,_,_=>none
 | k + 1,x1,yc,Qc,Gc,Dc,Yb,Cm,Bm=>(Ge.f k yc Qc Gc Dc Yb Cm Bm).bind fun t104=>(Lc.l0 k x1 t104 0)
def Lc.l0:Nat→List Bool→List Int→Int→Option (List Bool)
 | 0,_,_,_=>none
 | k + 1,x1,x4,x5=>if x5 < (x4.length:Int) then (if 0 ≤ x5 then (if 0 ≤ (rd x4 x5) then (if (rd x4 x5) < (x1.length:Int) then (Lc.l0 k (x1.set ((rd x4 x5):Int).toNat true) x4 (wrap64 (x5 + 1))) else (none)) else (none)) else (none)) else (some x1)
end
def Lc.f (k:Nat) (Kb:Int) (Ja:Int) (Ga:Int) (Ia:Int) (Db:Int) (Bc:Int) (tc:ByteArray) (l1:List Bool):Option (List Bool):=(Eg.f Kb Ja Ga Ia Db Bc tc).bind fun t102=>(if t102=true then (if 0 ≤ Ja then (if Ja < (l1.length:Int) then (Lc.j0 k (l1.set (Ja:Int).toNat false) Kb Ja Ga Ia Db Bc tc) else (none)) else (none)) else (Lc.j0 k l1 Kb Ja Ga Ia Db Bc tc))
theorem Lc.calls (k:Nat) (Kb:Int) (Ja:Int) (Ga:Int) (Ia:Int) (Db:Int) (Bc:Int) (tc:ByteArray) (CG:Nat→Prop) (Bg:Value) (l1:List Bool) (r:List Bool) (w0 w:World) (hB:Below w0.heap.size w0 w) (ho1:Kd.R Kd.bool 4 w w0.heap.size CG Bg l1) (h:Lc.f k Kb Ja Ga Ia Db Bc tc l1=some r) :
  Calls Try.prog 44 #[.agg #[.int .i64 Kb,.int .i64 Ja,.int .i64 Ga,.int .i64 Ia,.int .i64 Db,.int .i64 Bc,.string tc],Bg] w fun e w'=>e = .returned (.tuple #[])∧Kd.R Kd.bool 4 w' w0.heap.size (fun k_=>(CG k_ ∨ w.heap.size ≤ k_)) Bg r∧Below w0.heap.size w0 w'∧Kept w w' (fun k_=>CG k_):=by
 have MA:=Try.underlying65;have iN:=ga.mk (show Kd.R Kd.bool 4 w w0.heap.size (fun k_=>(CG k_ ∨ w.heap.size ≤ k_)) Bg l1 from Kd.xd ho1 (fun k_ hk=>(.inl hk)));have HK:=ga.mk (Kept.refl w (fun k_=>CG k_));have HW0:=ga.mk hB.size;have HB:=ga.mk hB;clear hB;have H:((Eg.f Kb Ja Ga Ia Db Bc tc).bind fun t102=>(if t102=true then (if 0 ≤ Ja then (if Ja < (l1.length:Int) then (Lc.j0 k (l1.set (Ja:Int).toNat false) Kb Ja Ga Ia Db Bc tc) else (none)) else (none)) else (Lc.j0 k l1 Kb Ja Ga Ia Db Bc tc)))=some r:=h;clear h;replace H:=Option.bind_eq_some_iff.mp H;obtain ⟨t102,Kz,H⟩:=H;replace H:(if t102=true then (if 0 ≤ Ja then (if Ja < (l1.length:Int) then (Lc.j0 k (l1.set (Ja:Int).toNat false) Kb Ja Ga Ia Db Bc tc) else (none)) else (none)) else (Lc.j0 k l1 Kb Ja Ga Ia Db Bc tc))=some r:=H;have A3:=ga.mk Kz;clear Kz;have PZ:=ga.mk H;clear H;go_enter Try.func44,Try.ntmps44
 go_upto_if 7 with (first|((with_reducible refine Ab (N:=2) rfl ?_);refine Lb ?hg (N:=2) ?hd (cs:=#[.int .i64 Kb,.int .i64 Ja,.int .i64 Ga,.int .i64 Ia,.int .i64 Db,.int .i64 Bc,.string tc]) (t:=65) ?hr ?_;(case hd=>rfl);(case hg=>rfl);(case hr=>first|(go_simp;done)|(go_simp;rfl));intro ya hg w5 Sb hb;have Eb:=ga.mk (Kd.ld (by (with_reducible repeat (first|apply Kd.Xa|apply Kd.Wa|apply Kd.gb));exact iN.out) hb);have Fb:=ga.mk (Kept.below (S:=(fun k_=>CG k_)) IaH hb);have Ob:=ga.mk (Ra uaH hb);have Ec:=ga.mk (Sb);have gf:=ga.mk ((by rw [hg];exact (by first|exact HK.out.1|exact (show Kept w _ (fun k_=>CG k_) from by repeat (first|(with_reducible first|exact HK.out|apply Kept.alloc|apply Kept.drewN|apply Kept.drew)|exact HK.out)).1):w.heap.size ≤ ya));have Zf:=ga.mk ((by rw [hg];exact (La uaH):w0.heap.size ≤ ya));clear iN HK HB;have iN:=Eb;have HK:=Fb;have HB:=Ob;have oa:=Ec;have Vd:=gf;have Ta:=Zf;clear Eb Fb Ob Ec gf Zf hb Sb hg;have Uq:w5.cell? ⟨ya,0,none⟩=some (.int .i64 Kb):=(ia oa.out 0).trans rfl;have Rq:w5.cell? ⟨ya,1,none⟩=some (.int .i64 Ja):=(ia oa.out 1).trans rfl;have Qq:w5.cell? ⟨ya,2,none⟩=some (.int .i64 Ga):=(ia oa.out 2).trans rfl;have Pq:w5.cell? ⟨ya,3,none⟩=some (.int .i64 Ia):=(ia oa.out 3).trans rfl;have Oq:w5.cell? ⟨ya,4,none⟩=some (.int .i64 Db):=(ia oa.out 4).trans rfl;have Ju:w5.cell? ⟨ya,5,none⟩=some (.int .i64 Bc):=(ia oa.out 5).trans rfl;have Iu:w5.cell? ⟨ya,6,none⟩=some (.string tc):=(ia oa.out 6).trans rfl;have Nq:=aa oa.out 0;have Mq:=aa oa.out 1;have Kq:=aa oa.out 2;have Jq:=aa oa.out 3;have Iq:=aa oa.out 4;have bu:=aa oa.out 5;have au:=aa oa.out 6)|((with_reducible refine yb (f:=73) rfl ?_);refine Pc (some 7) rfl rfl Try.func73 (by kernel_rfl) rfl #[.agg #[.int .i64 Kb,.int .i64 Ja,.int .i64 Ga,.int .i64 Ia,.int .i64 Db,.int .i64 Bc,.string tc]] rfl waH ?_;(with_reducible refine (Eg.calls Kb Ja Ga Ia Db Bc tc t102 _ A3.out).mono ?_);rintro e w7 ⟨rfl,hb⟩;refine ⟨_,rfl,?_⟩;have Eb:=ga.mk (Kd.ld (by (with_reducible repeat (first|apply Kd.Xa|apply Kd.Wa|apply Kd.gb));exact iN.out) hb);have Fb:=ga.mk (Va (g:=ya) (o:=.cells #[.int .i64 Kb,.int .i64 Ja,.int .i64 Ga,.int .i64 Ia,.int .i64 Db,.int .i64 Bc,.string tc] 65 (0,0)) vaH hb);have Ob:=ga.mk (Kept.below (S:=(fun k_=>CG k_)) LaH hb);have Ec:=ga.mk (Ra taH hb);clear iN oa HK HB;have iN:=Eb;have oa:=Fb;have HK:=Ob;have HB:=Ec;clear Eb Fb Ob Ec;(try clear hb);(try clear Uj);(try clear hk);(try clear hi)))
 (try simp only [Act.put,List.setIfInBounds_toArray,List.set_cons_zero,List.set_cons_succ])
 go_cut [] (fun wc=>∃ (kq:Nat) (LV:List Bool),ga (Lc.j0 kq LV Kb Ja Ga Ia Db Bc tc=some r)∧ga (kq ≤ k)∧ga (Kd.R Kd.bool 4 wc w0.heap.size (fun k_=>(CG k_ ∨ w.heap.size ≤ k_)) Bg LV)∧ga (wc.heap[ya]? = some (.cells #[.int .i64 Kb,.int .i64 Ja,.int .i64 Ga,.int .i64 Ia,.int .i64 Db,.int .i64 Bc,.string tc] 65 (0,0)))∧ga (Kept w wc (fun k_=>CG k_))∧ga (Below w0.heap.size w0 wc))
 case first =>
  have H:=PZ.out;clear PZ
  by_cases c8:t102=true
  ·subst c8;have H1:(if 0 ≤ Ja then (if Ja < (l1.length:Int) then (Lc.j0 k (l1.set (Ja:Int).toNat false) Kb Ja Ga Ia Db Bc tc) else (none)) else (none))=some r:=by rw [if_pos rfl] at H;exact H
   clear H;have H:=H1;clear H1
   by_cases c9:0 ≤ Ja
   ·rw [if_pos c9] at H;have Pv:decide (0 ≤ Ja)=true:=decide_eq_true c9;clear c9;(first|rw [Pv]|(simp only [nc,oc];rw [Pv])|skip)
    by_cases Ts:Ja < (l1.length:Int)
    ·rw [if_pos Ts] at H;have Bt:decide (Ja < (l1.length:Int))=true:=decide_eq_true Ts;clear Ts;obtain ⟨Ag,bp⟩:∃ y_:List Bool,y_=(l1.set (Ja:Int).toNat false):=⟨_,rfl⟩;replace H:(Lc.j0 k Ag Kb Ja Ga Ia Db Bc tc)=some r:=by first|(rw [bp];with_reducible exact H)|(have Ed:=(Option.bind_some _ _).symm.trans H;rw [bp];with_reducible exact Ed)|(have Ed:=(Option.bind_some _ _).symm.trans H;with_reducible exact Ed)|with_reducible exact H|(rw [bp];exact H)|exact H
     have IM:=ga.mk bp;clear bp;have H':=ga.mk H;clear H;have Wn:w7.cell? ⟨ya,0,none⟩=some (.int .i64 Kb):=(ia oa.out 0).trans rfl;have Vn:w7.cell? ⟨ya,1,none⟩=some (.int .i64 Ja):=(ia oa.out 1).trans rfl;have Un:w7.cell? ⟨ya,2,none⟩=some (.int .i64 Ga):=(ia oa.out 2).trans rfl;have Tn:w7.cell? ⟨ya,3,none⟩=some (.int .i64 Ia):=(ia oa.out 3).trans rfl;have Sn:w7.cell? ⟨ya,4,none⟩=some (.int .i64 Db):=(ia oa.out 4).trans rfl;have nT:w7.cell? ⟨ya,5,none⟩=some (.int .i64 Bc):=(ia oa.out 5).trans rfl;have mT:w7.cell? ⟨ya,6,none⟩=some (.string tc):=(ia oa.out 6).trans rfl;have Dn:=aa oa.out 0;have Cn:=aa oa.out 1;have Bn:=aa oa.out 2;have zn:=aa oa.out 3;have vn:=aa oa.out 4;have TR:=aa oa.out 5;have SR:=aa oa.out 6;have KG:0 ≤ (Ja:Int):=Ua;have JG:(Ja:Int) < ((l1.length:Int):Int):=Ua;obtain ⟨QF,vw,oO,PX,jab,Oaw,dD⟩:=Kd.Xj iN.out (by omega);(first|cases oO|(injection oO with qj sw tw;(first|subst qj|(injection qj with qj;subst qj));subst tw;clear sw));have rad:=ga.mk PX;have Kax:=ga.mk dD;clear PX jab dD;have Zac:=ga.mk (show (CG QF ∨ w.heap.size ≤ QF) from (iN.out.1 _ rfl));obtain ⟨FF,Maa⟩:=Kd.Yh false iN.out (Ja:Int) KG JG;replace KG:=eq_true KG;replace JG:=eq_true JG;have Vac:=Kd.Ml iN.out (Ja:Int) false;go_wp2_with (first|((with_reducible refine Ke (t:=4) (p:=11) rfl ?_);refine me (t:=4) (p:=11) (v:=?Kat) (w1:=(w7.setCell ⟨QF,(Ja:Int).toNat,none⟩ (.bool false))) ?hg ?ho ?hn ?hr ?_;(case ho=>rfl);(case hg=>rfl);(case hn=>rfl);(case hr=>first|(go_simp;done)|(go_simp;rfl));intro dz hw;have hg:w7.grownBy dz (some QF):=(by rw [hw];exact Vac.2);have Il:Kd.R Kd.bool 4 dz w0.heap.size (fun k_=>(CG k_ ∨ w.heap.size ≤ k_)) (.slice (some ⟨QF,0,none⟩) l1.length vw) Ag:=(by rw [hw,IM.out];exact Vac.1);clear Vac;have Eb:=ga.mk (Il);have Fb:=ga.mk (Vc (g:=ya) (o:=.cells #[.int .i64 Kb,.int .i64 Ja,.int .i64 Ga,.int .i64 Ia,.int .i64 Db,.int .i64 Bc,.string tc] 65 (0,0)) vaH hg (Kd.tj iN.out oa.out (by decide)));have Ob:=ga.mk ((by rw [hw];exact ua (HB.out) rad.out:Below w0.heap.size w0 dz));have Ec:=ga.mk (Kept.Ki (S:=(fun k_=>CG k_)) hg LaH (fun k_ e_=>(iN.out.1 k_ e_)));clear iN oa HB HK;have iN:=Eb;have oa:=Fb;have HB:=Ob;have HK:=Ec;clear Eb Fb Ob Ec hg hw Il))
     go_meet
     case rel=>exact ⟨_,(Ag),H',⟨by first|omega|exact Nat.le_refl _⟩,⟨by (with_reducible repeat (first|apply Kd.Xa|apply Kd.Wa|apply Kd.gb));exact iN.out⟩,⟨zaH⟩,⟨EaH⟩,⟨xaH⟩⟩
    ·rw [if_neg Ts] at H;exact absurd H (by simp)
   ·rw [if_neg c9] at H;exact absurd H (by simp)
  ·replace c8:=Bool.eq_false_iff.mpr c8;subst c8;have H1:(Lc.j0 k l1 Kb Ja Ga Ia Db Bc tc)=some r:=by rw [if_neg (show ¬ (false=true) by decide)] at H;exact H
   clear H;have H:=H1;clear H1;have H':=ga.mk H;clear H;go_wp2
   go_meet
   case rel=>exact ⟨_,(l1),H',⟨by first|omega|exact Nat.le_refl _⟩,⟨by (with_reducible repeat (first|apply Kd.Xa|apply Kd.Wa|apply Kd.gb));exact iN.out⟩,⟨zaH⟩,⟨EaH⟩,⟨xaH⟩⟩
 case rest =>
  clear PZ
  try clear c1
  try clear p1
  try clear q1
  try clear hx1
  try clear p2
  try clear c4
  try clear c7
  try clear c8
  try clear c9
  try clear Pv
  try clear Ts
  try clear Bt
  try clear KG
  try clear JG
  try clear LN
  try clear Naa
  try clear Wn
  try clear Vn
  try clear Un
  try clear Tn
  try clear Sn
  try clear nT
  try clear mT
  try clear Uq
  try clear Rq
  try clear Qq
  try clear Pq
  try clear Oq
  try clear Ju
  try clear Iu
  try clear Dn
  try clear Cn
  try clear Bn
  try clear zn
  try clear vn
  try clear TR
  try clear SR
  try clear Nq
  try clear Mq
  try clear Kq
  try clear Jq
  try clear Iq
  try clear bu
  try clear au
  try clear FF
  try clear KG
  try clear JG
  obtain ⟨kq,LV,HA,HJ3,Dw,oa,HK,HB⟩:=hcut;cases kq with
  | zero=>exact absurd HA.out (by simp [Lc.j0])
  | succ F1 =>
   have H:=HA.out;clear HA;simp only [Lc.j0] at H;replace H:=Option.bind_eq_some_iff.mp H;obtain ⟨t104,SM,H⟩:=H;replace H:(Lc.l0 F1 LV t104 0)=some r:=H;have A_:=ga.mk SM;clear SM;have H':=ga.mk H;clear H;have Po:wc.cell? ⟨ya,0,none⟩=some (.int .i64 Kb):=(ia oa.out 0).trans rfl;have Oo:wc.cell? ⟨ya,1,none⟩=some (.int .i64 Ja):=(ia oa.out 1).trans rfl;have Mo:wc.cell? ⟨ya,2,none⟩=some (.int .i64 Ga):=(ia oa.out 2).trans rfl;have Lo:wc.cell? ⟨ya,3,none⟩=some (.int .i64 Ia):=(ia oa.out 3).trans rfl;have Ko:wc.cell? ⟨ya,4,none⟩=some (.int .i64 Db):=(ia oa.out 4).trans rfl;have ME:wc.cell? ⟨ya,5,none⟩=some (.int .i64 Bc):=(ia oa.out 5).trans rfl;have KE:wc.cell? ⟨ya,6,none⟩=some (.string tc):=(ia oa.out 6).trans rfl;have Jo:=aa oa.out 0;have Io:=aa oa.out 1;have Ho:=aa oa.out 2;have Fo:=aa oa.out 3;have Eo:=aa oa.out 4;have oE:=aa oa.out 5;have nE:=aa oa.out 6;go_wp2_with (first|((with_reducible refine yb (f:=74) rfl ?_);refine Pc (some 13) rfl rfl Try.func74 (by kernel_rfl) rfl #[.agg #[.int .i64 Kb,.int .i64 Ja,.int .i64 Ga,.int .i64 Ia,.int .i64 Db,.int .i64 Bc,.string tc]] rfl waH ?_;(with_reducible refine (Ge.calls F1 Kb Ja Ga Ia Db Bc tc t104 _ A_.out).mono ?_);rintro e zo ⟨gz,rfl,Lk,hb⟩;refine ⟨_,rfl,?_⟩;have Eb:=ga.mk (Kd.ld (by (with_reducible repeat (first|apply Kd.Xa|apply Kd.Wa|apply Kd.gb));exact Dw.out) hb);have Fb:=ga.mk (Kd.Nd (Kd.MY (M:=fun k_=>(CG k_ ∨ w.heap.size ≤ k_)) Lk (by first|exact HK.out.1|exact (show Kept w _ (fun k_=>CG k_) from by repeat (first|(with_reducible first|exact HK.out|apply Kept.alloc|apply Kept.drewN|apply Kept.drew|refine Kept.setCell ?_ (.inr Vd.out) _)|exact HK.out)).1) (fun k_ h_=>.inr h_)) (La taH));have Ob:=ga.mk (Va (g:=ya) (o:=.cells #[.int .i64 Kb,.int .i64 Ja,.int .i64 Ga,.int .i64 Ia,.int .i64 Db,.int .i64 Bc,.string tc] 65 (0,0)) vaH hb);have Ec:=ga.mk (Kept.below (S:=(fun k_=>CG k_)) LaH hb);have gf:=ga.mk (Ra taH hb);clear Dw oa HK HB;have Dw:=Eb;have Kl:=Fb;have oa:=Ob;have HK:=Ec;have HB:=gf;clear Eb Fb Ob Ec gf;(try clear hb);(try clear Uj);(try clear hk);(try clear hi);(try clear Lk)))
   go_loopg [5] F1 (fun kq v5 w'=>∃ (UH:List Bool) (Me:Int),v5 = .int .i64 Me∧ga (Lc.l0 kq UH t104 Me=some r)∧ga (kq ≤ F1)∧ga (Kd.R Kd.bool 4 w' w0.heap.size (fun k_=>(CG k_ ∨ w.heap.size ≤ k_)) Bg UH)∧ga (Kd.R (Kd.int .i64) 3 w' w0.heap.size (fun k_=>(CG k_ ∨ w.heap.size ≤ k_)) gz t104)∧ga (w'.heap[ya]? = some (.cells #[.int .i64 Kb,.int .i64 Ja,.int .i64 Ga,.int .i64 Ia,.int .i64 Db,.int .i64 Bc,.string tc] 65 (0,0)))∧ga (Kept w w' (fun k_=>CG k_))∧ga (Below w0.heap.size w0 w'))
   case atStart=>exact ⟨(LV),(0),AaH,H',⟨Nat.le_refl _⟩,⟨by (with_reducible repeat (first|apply Kd.Xa|apply Kd.Wa|apply Kd.gb));exact Dw.out⟩,⟨by (with_reducible repeat (first|apply Kd.Xa|apply Kd.Wa|apply Kd.gb));exact Kd.xd Kl.out (fun _ hk=>hk.1)⟩,⟨zaH⟩,⟨EaH⟩,⟨xaH⟩⟩
   case round =>
    clear H'
    try clear c1
    try clear p1
    try clear q1
    try clear hx1
    try clear p2
    try clear c4
    try clear c7
    try clear c8
    try clear c9
    try clear Pv
    try clear Ts
    try clear Bt
    try clear KG
    try clear JG
    try clear LN
    try clear Naa
    try clear Wn
    try clear Vn
    try clear Un
    try clear Tn
    try clear Sn
    try clear nT
    try clear mT
    try clear Po
    try clear Oo
    try clear Mo
    try clear Lo
    try clear Ko
    try clear ME
    try clear KE
    try clear Uq
    try clear Rq
    try clear Qq
    try clear Pq
    try clear Oq
    try clear Ju
    try clear Iu
    try clear Dn
    try clear Cn
    try clear Bn
    try clear zn
    try clear vn
    try clear TR
    try clear SR
    try clear Jo
    try clear Io
    try clear Ho
    try clear Fo
    try clear Eo
    try clear oE
    try clear nE
    try clear Nq
    try clear Mq
    try clear Kq
    try clear Jq
    try clear Iq
    try clear bu
    try clear au
    try clear FF
    try clear p1
    try clear KG
    try clear p2
    try clear q1
    try clear JG
    (try clear HA);(try clear zl);(try clear Dw);(try clear LM);(try clear oa);(try clear HK);(try clear HB);obtain ⟨UH,Me,rfl,HA,zl,Dw,LM,oa,HK,HB⟩:=hrel;cases gk with
    | zero=>exact absurd HA.out (by simp [Lc.l0])
    | succ k2 =>
     have H:=HA.out;clear HA;simp only [Lc.l0] at H
     by_cases dr:Me < (t104.length:Int)
     ·rw [if_pos dr] at H;have qp:decide (Me < (t104.length:Int))=true:=decide_eq_true dr;clear dr
      by_cases lp:0 ≤ Me
      ·rw [if_pos lp] at H;have yw:decide (0 ≤ Me)=true:=decide_eq_true lp;clear lp
       by_cases tr:0 ≤ (rd t104 Me)
       ·rw [if_pos tr] at H;have Zy:decide (0 ≤ (rd t104 Me))=true:=decide_eq_true tr;clear tr
        by_cases Hs:(rd t104 Me) < (UH.length:Int)
        ·rw [if_pos Hs] at H;have DH:decide ((rd t104 Me) < (UH.length:Int))=true:=decide_eq_true Hs;clear Hs;obtain ⟨Yg,Ff⟩:∃ y_:List Bool,y_=(UH.set ((rd t104 Me):Int).toNat true):=⟨_,rfl⟩;replace H:(Lc.l0 k2 Yg t104 (wrap64 (Me + 1)))=some r:=by first|(rw [Ff];with_reducible exact H)|(have Ed:=(Option.bind_some _ _).symm.trans H;rw [Ff];with_reducible exact Ed)|(have Ed:=(Option.bind_some _ _).symm.trans H;with_reducible exact Ed)|with_reducible exact H|(rw [Ff];exact H)|exact H
         have Ej:=ga.mk Ff;clear Ff;have H':=ga.mk H;clear H;obtain ⟨aay,W5,fV⟩:=Kd.od LM.out;subst fV;have BN:0 ≤ (Me:Int):=Ua;have xN:Me < (t104.length:Int):=Ua;obtain ⟨Oaj,wab,I1⟩:=Kd.Bi (Kd.Rb LM.out).2.2 Me BN xN;cases wab;replace BN:=eq_true BN;replace xN:=eq_true xN;have p22:0 ≤ ((rd t104 Me):Int):=Ua;have q22:((rd t104 Me):Int) < ((UH.length:Int):Int):=Ua;obtain ⟨ZU,baj,Tai,Kai,gaw,LaE,qal⟩:=Kd.Xj Dw.out (by omega);(first|cases Tai|(injection Tai with qj sw tw;(first|subst qj|(injection qj with qj;subst qj));subst tw;clear sw));have Tax:=ga.mk Kai;have TaF:=ga.mk qal;clear Kai gaw qal;have rax:=ga.mk (show (CG ZU ∨ w.heap.size ≤ ZU) from (Dw.out.1 _ rfl));obtain ⟨vau,Gav⟩:=Kd.Yh false Dw.out ((rd t104 Me):Int) p22 q22;replace p22:=eq_true p22;replace q22:=eq_true q22;have nG:=Kd.Ml Dw.out ((rd t104 Me):Int) true;go_wp2_with (first|((with_reducible refine Ke (t:=4) (p:=25) rfl ?_);refine me (t:=4) (p:=25) (v:=?PV) (w1:=(wr.setCell ⟨ZU,((rd t104 Me):Int).toNat,none⟩ (.bool true))) ?hg ?ho ?hn ?hr ?_;(case ho=>rfl);(case hg=>rfl);(case hn=>rfl);(case hr=>first|(go_simp;done)|(go_simp;rfl));intro Pz hw;have hg:wr.grownBy Pz (some ZU):=(by rw [hw];exact nG.2);have Il:Kd.R Kd.bool 4 Pz w0.heap.size (fun k_=>(CG k_ ∨ w.heap.size ≤ k_)) (.slice (some ⟨ZU,0,none⟩) UH.length baj) Yg:=(by rw [hw,Ej.out];exact nG.1);clear nG;have Eb:=ga.mk (Il);have Fb:=ga.mk (Kd.mj (v:=(.slice (some ⟨ZU,0,none⟩) UH.length baj)) (by (with_reducible repeat (first|apply Kd.Xa|apply Kd.Wa|apply Kd.gb));exact LM.out) (Kd.mh Dw.out) (by decide) hg);have Ob:=ga.mk (Vc (g:=ya) (o:=.cells #[.int .i64 Kb,.int .i64 Ja,.int .i64 Ga,.int .i64 Ia,.int .i64 Db,.int .i64 Bc,.string tc] 65 (0,0)) vaH hg (Kd.tj Dw.out oa.out (by decide)));have Ec:=ga.mk ((by rw [hw];exact ua (HB.out) Tax.out:Below w0.heap.size w0 Pz));have gf:=ga.mk (Kept.Ki (S:=(fun k_=>CG k_)) hg LaH (fun k_ e_=>(Dw.out.1 k_ e_)));clear Dw LM oa HB HK;have Dw:=Eb;have LM:=Fb;have oa:=Ob;have HB:=Ec;have HK:=gf;clear Eb Fb Ob Ec gf hg hw Il))
         go_roundg k2
         case measure=>have:=HJ3.out;have:=zl.out;omega
         case rel=>exact ⟨(Yg),(wrap64 (Me + 1)),AaH,H',⟨by have:=HJ3.out;have:=zl.out;omega⟩,⟨by (with_reducible repeat (first|apply Kd.Xa|apply Kd.Wa|apply Kd.gb));exact Dw.out⟩,⟨by (with_reducible repeat (first|apply Kd.Xa|apply Kd.Wa|apply Kd.gb));exact LM.out⟩,⟨zaH⟩,⟨EaH⟩,⟨xaH⟩⟩
        ·rw [if_neg Hs] at H;exact absurd H (by simp)
       ·rw [if_neg tr] at H;exact absurd H (by simp)
      ·rw [if_neg lp] at H;exact absurd H (by simp)
     ·rw [if_neg dr] at H;have qp:decide (Me < (t104.length:Int))=false:=decide_eq_false dr;clear dr;obtain rfl:=Option.some.inj H;obtain ⟨laG,DaE,zaw⟩:=Kd.od LM.out;subst zaw;go_wp2
      first|go_end0|((try simp only [Exit.inBlock,Exit.then]);refine bodyPost_ret (results_none rfl _ _ _) rfl ?_)
      exact ⟨by first|rfl|(simp [Pa,Oa] <;> rfl)|(simp [*,Pa,Oa] <;> rfl),by (with_reducible repeat (first|apply Kd.Xa|apply Kd.Wa|apply Kd.gb));exact Dw.out,xaH,EaH⟩
def cg.l0:Nat→List Bool→Int→List (He)→Int→Int→Int→Int→Option (List Bool)
 | 0,_,_,_,_,_,_,_=>none
 | k + 1,x5,x6,yc,Qc,Gc,Dc,Yb=>if x6 ≥ 0 then (if 0 ≤ x6 then (if x6 < (yc.length:Int) then ((Lc.f k ((Ea yc x6).f0) ((Ea yc x6).f1) ((Ea yc x6).f2) ((Ea yc x6).f3) ((Ea yc x6).f4) ((Ea yc x6).f5) ((Ea yc x6).f6) x5).bind fun t106=>(cg.l0 k t106 (wrap64 (x6 - 1)) yc Qc Gc Dc Yb)) else (none)) else (none)) else (some x5)
def cg.f (k:Nat) (Qa:List (He)) (Ja:Int) (Ga:Int) (Ia:Int) (Db:Int) (l1:List Bool):Option (List Bool):=(Ig.f Qa Ja Ga Ia Db l1).bind fun t102=>(cg.l0 k t102 (wrap64 ((Qa.length:Int) - 1)) Qa Ja Ga Ia Db)
theorem cg.calls (k:Nat) (Ya:Option Addr) (Za:Nat) (Qa:List (He)) (Ja:Int) (Ga:Int) (Ia:Int) (Db:Int) (A1:Option Addr) (c1:Nat) (l1:List Bool) (r:List Bool) (w:World) (Ud:Kd.C Bk w Ya Qa.length Qa) (Rd:Qa.length ≤ Za) (Zs:Kd.C Kd.bool w A1 l1.length l1) (xm:l1.length ≤ c1) (h:cg.f k Qa Ja Ga Ia Db l1=some r) :
  Calls Try.prog 54 #[.agg #[.slice Ya Qa.length Za,.int .i64 Ja,.int .i64 Ga,.int .i64 Ia,.int .i64 Db],.slice A1 l1.length c1] w fun e w'=>∃ Nl:Value,e = .returned (Nl)∧Kd.R Kd.bool 4 w' w.heap.size (fun _=>True) Nl r∧Below w.heap.size w w':=by
 have kC:=Try.underlying59;have MA:=Try.underlying65;have Ze:=ga.mk Ud;have Af:=ga.mk Rd;clear Ud Rd;have NB:=ga.mk Zs;have jU:=ga.mk xm;clear Zs xm;have HB:=ga.mk (Below.refl w.heap.size w);have H:((Ig.f Qa Ja Ga Ia Db l1).bind fun t102=>(cg.l0 k t102 (wrap64 ((Qa.length:Int) - 1)) Qa Ja Ga Ia Db))=some r:=h;clear h;replace H:=Option.bind_eq_some_iff.mp H;obtain ⟨t102,Kz,H⟩:=H;replace H:(cg.l0 k t102 (wrap64 ((Qa.length:Int) - 1)) Qa Ja Ga Ia Db)=some r:=H;have A3:=ga.mk Kz;clear Kz;have H':=ga.mk H;clear H;go_enter Try.func54,Try.ntmps54;go_wp2_with (first|((with_reducible refine Ab (N:=2) rfl ?_);refine Lb ?hg (N:=2) ?hd (cs:=#[.slice Ya Qa.length Za,.int .i64 Ja,.int .i64 Ga,.int .i64 Ia,.int .i64 Db]) (t:=59) ?hr ?_;(case hd=>rfl);(case hg=>rfl);(case hr=>first|(go_simp;done)|(go_simp;rfl));intro ya hg w4 Sb hb;have Eb:=ga.mk (Ra uaH hb);have Fb:=ga.mk (Sb);have Ob:=ga.mk ((by rw [hg];exact (La uaH):w.heap.size ≤ ya));have Ec:=ga.mk ((by rw [hg];exact (La uaH):w.heap.size ≤ ya));clear HB;have HB:=Eb;have oa:=Fb;have Vd:=Ob;have Ta:=Ec;clear Eb Fb Ob Ec hb Sb hg;have GC:w4.cell? ⟨ya,0,none⟩=some (.slice Ya Qa.length Za):=(ia oa.out 0).trans rfl;have FC:w4.cell? ⟨ya,1,none⟩=some (.int .i64 Ja):=(ia oa.out 1).trans rfl;have EC:w4.cell? ⟨ya,2,none⟩=some (.int .i64 Ga):=(ia oa.out 2).trans rfl;have DC:w4.cell? ⟨ya,3,none⟩=some (.int .i64 Ia):=(ia oa.out 3).trans rfl;have CC:w4.cell? ⟨ya,4,none⟩=some (.int .i64 Db):=(ia oa.out 4).trans rfl;have tC:=aa oa.out 0;have sC:=aa oa.out 1;have rC:=aa oa.out 2;have qC:=aa oa.out 3;have oC:=aa oa.out 4)|((with_reducible refine yb (f:=42) rfl ?_);refine Pc (some 9) rfl rfl Try.func42 (by kernel_rfl) rfl #[.agg #[.slice Ya Qa.length Za,.int .i64 Ja,.int .i64 Ga,.int .i64 Ia,.int .i64 Db],.slice A1 l1.length c1] rfl waH ?_;(with_reducible refine (Ig.calls _ _ Qa Ja Ga Ia Db _ _ l1 t102 _ ?Uc ?Tc ?we ?ue A3.out).mono ?_);(case Uc=>repeat (first|exact (Kd.Nb Ze.out HB.out)|(with_reducible refine Kd.dc ?_ _)|(with_reducible refine Kd.Zb ?_ _)|(with_reducible refine Kd.Fc ?_)));(case Tc=>exact Af.out);(case we=>repeat (first|exact (Kd.Nb NB.out HB.out)|(with_reducible refine Kd.dc ?_ _)|(with_reducible refine Kd.Zb ?_ _)|(with_reducible refine Kd.Fc ?_)));(case ue=>exact jU.out);rintro e w6 ⟨wm,rfl,Lk,hb⟩;refine ⟨_,rfl,?_⟩;have Eb:=ga.mk (Kd.Nd Lk (La taH));have Fb:=ga.mk (Va (g:=ya) (o:=.cells #[.slice Ya Qa.length Za,.int .i64 Ja,.int .i64 Ga,.int .i64 Ia,.int .i64 Db] 59 (0,0)) vaH hb);have Ob:=ga.mk (Ra taH hb);clear oa HB;have Sg:=Eb;have oa:=Fb;have HB:=Ob;clear Eb Fb Ob;(try clear hb);(try clear Uj);(try clear hk);(try clear hi);(try clear Lk);have Hu:w6.cell? ⟨ya,0,none⟩=some (.slice Ya Qa.length Za):=(ia oa.out 0).trans rfl;have Gu:w6.cell? ⟨ya,1,none⟩=some (.int .i64 Ja):=(ia oa.out 1).trans rfl;have Fu:w6.cell? ⟨ya,2,none⟩=some (.int .i64 Ga):=(ia oa.out 2).trans rfl;have Eu:w6.cell? ⟨ya,3,none⟩=some (.int .i64 Ia):=(ia oa.out 3).trans rfl;have Du:w6.cell? ⟨ya,4,none⟩=some (.int .i64 Db):=(ia oa.out 4).trans rfl;have Zt:=aa oa.out 0;have Yt:=aa oa.out 1;have Xt:=aa oa.out 2;have Wt:=aa oa.out 3;have Vt:=aa oa.out 4))
 go_loopg [6] k (fun kq v6 w'=>∃ (Ka:List Bool) (Al:Int),v6 = .int .i64 Al∧ga (cg.l0 kq Ka Al Qa Ja Ga Ia Db=some r)∧ga (kq ≤ k)∧ga (Kd.R Kd.bool 4 w' w.heap.size (fun _=>True) wm Ka)∧ga (w'.heap[ya]? = some (.cells #[(.slice Ya Qa.length Za),.int .i64 Ja,.int .i64 Ga,.int .i64 Ia,.int .i64 Db] 59 (0,0)))∧ga (Below w.heap.size w w'))
 case atStart=>exact ⟨(t102),(wrap64 ((Qa.length:Int) - 1)),AaH,H',⟨Nat.le_refl _⟩,⟨SaH⟩,⟨zaH⟩,⟨xaH⟩⟩
 case round =>
  clear H'
  try clear c1
  try clear p2
  try clear c4
  try clear c5
  try clear p6
  try clear GC
  try clear FC
  try clear EC
  try clear DC
  try clear CC
  try clear Hu
  try clear Gu
  try clear Fu
  try clear Eu
  try clear Du
  try clear tC
  try clear sC
  try clear rC
  try clear qC
  try clear oC
  try clear Zt
  try clear Yt
  try clear Xt
  try clear Wt
  try clear Vt
  (try clear HA);(try clear wg);(try clear jg);(try clear oa);(try clear HB);obtain ⟨Ka,Al,rfl,HA,wg,jg,oa,HB⟩:=hrel;cases gk with
  | zero=>exact absurd HA.out (by simp [cg.l0])
  | succ k1 =>
   have H:=HA.out;clear HA;simp only [cg.l0] at H
   by_cases c8:Al ≥ 0
   ·rw [if_pos c8] at H;have Zq:decide (0 ≤ Al)=true:=decide_eq_true c8;clear c8
    by_cases c9:0 ≤ Al
    ·rw [if_pos c9] at H;have Pv:decide (0 ≤ Al)=true:=decide_eq_true c9;clear c9
     by_cases Ts:Al < (Qa.length:Int)
     ·rw [if_pos Ts] at H;have Bt:decide (Al < (Qa.length:Int))=true:=decide_eq_true Ts;clear Ts;replace H:=Option.bind_eq_some_iff.mp H;obtain ⟨t106,UM,H⟩:=H;replace H:(cg.l0 k1 t106 (wrap64 (Al - 1)) Qa Ja Ga Ia Db)=some r:=H;have KV:=ga.mk UM;clear UM;have H':=ga.mk H;clear H;have Wn:wr.cell? ⟨ya,0,none⟩=some (.slice Ya Qa.length Za):=(ia oa.out 0).trans rfl;have Vn:wr.cell? ⟨ya,1,none⟩=some (.int .i64 Ja):=(ia oa.out 1).trans rfl;have Un:wr.cell? ⟨ya,2,none⟩=some (.int .i64 Ga):=(ia oa.out 2).trans rfl;have Tn:wr.cell? ⟨ya,3,none⟩=some (.int .i64 Ia):=(ia oa.out 3).trans rfl;have Sn:wr.cell? ⟨ya,4,none⟩=some (.int .i64 Db):=(ia oa.out 4).trans rfl;have Dn:=aa oa.out 0;have Cn:=aa oa.out 1;have Bn:=aa oa.out 2;have zn:=aa oa.out 3;have vn:=aa oa.out 4;have Mj:0 ≤ (Al:Int):=Ua;have Lj:Al < (Qa.length:Int):=Ua;obtain ⟨wh,uw,Xf,Si,Ri,Qi,Oi,bQ,aQ⟩:=jm Ze.out Al Mj Lj;cases uw;replace Xf:=Sa HB.out Xf;replace Si:=Sa HB.out Si;replace Ri:=Sa HB.out Ri;replace Qi:=Sa HB.out Qi;replace Oi:=Sa HB.out Oi;replace bQ:=Sa HB.out bQ;replace aQ:=Sa HB.out aQ;replace Mj:=eq_true Mj;replace Lj:=eq_true Lj;obtain ⟨nP,Rs,XX⟩:=Kd.od jg.out;subst XX;go_wp2_with (first|((with_reducible refine yb (f:=44) rfl ?_);refine Pc (some 24) rfl rfl Try.func44 (by kernel_rfl) rfl #[.agg #[.int .i64 ((Ea Qa Al).f0),.int .i64 ((Ea Qa Al).f1),.int .i64 ((Ea Qa Al).f2),.int .i64 ((Ea Qa Al).f3),.int .i64 ((Ea Qa Al).f4),.int .i64 ((Ea Qa Al).f5),.string ((Ea Qa Al).f6)],.slice nP Ka.length Rs] rfl waH ?_;(with_reducible refine (Lc.calls k1 ((Ea Qa Al).f0) ((Ea Qa Al).f1) ((Ea Qa Al).f2) ((Ea Qa Al).f3) ((Ea Qa Al).f4) ((Ea Qa Al).f5) ((Ea Qa Al).f6) (fun k_=>some k_=(.slice nP Ka.length Rs:Value).ownBlock) (.slice nP Ka.length Rs) Ka t106 w _ ?Uc ?Tc KV.out).mono ?_);(case Uc=>repeat (first|(with_reducible first|exact HB.out|apply qa|apply ja|apply ta|refine ua ?_ Ta.out)|exact HB.out));(case Tc=>exact Kd.Fy rfl jg.out);rintro e dz ⟨rfl,hy0,hb,hkp⟩;refine ⟨_,rfl,?_⟩;have Eb:=ga.mk (Kd.KY rfl hy0 (fun k_ e_=>jg.out.1 k_ e_));have Fb:=ga.mk (Ve vaH hkp (fun hs_=>(fun e_=>(Kd.tj jg.out oa.out (by decide)) e_) hs_));have Ob:=ga.mk (hb);clear jg oa HB;have jg:=Eb;have oa:=Fb;have HB:=Ob;clear Eb Fb Ob;(try clear hb);(try clear hkp);(try clear hy0)))
      go_roundg k1
      case measure=>have:=wg.out;omega
      case rel=>exact ⟨(t106),(wrap64 (Al - 1)),AaH,H',⟨by have:=wg.out;omega⟩,⟨UaH⟩,⟨zaH⟩,⟨xaH⟩⟩
     ·rw [if_neg Ts] at H;exact absurd H (by simp)
    ·rw [if_neg c9] at H;exact absurd H (by simp)
   ·rw [if_neg c8] at H;have Zq:decide (0 ≤ Al)=false:=decide_eq_false c8;clear c8;obtain rfl:=Option.some.inj H;go_wp2;go_ret;exact ⟨_,by first|rfl|(simp [Pa,Oa] <;> rfl)|(simp [*,Pa,Oa] <;> rfl),UaH,xaH⟩
def Cl.f (Qa:List (He)) (Ja:Int) (Ga:Int) (Ia:Int) (Db:Int):Option (List Int):=if Ja=0 then (some (([Ia]:List Int))) else (if Ja=1 then (some (([Ia,Db]:List Int))) else (some (([]:List Int))))
theorem Cl.calls (Ya:Option Addr) (Za:Nat) (Qa:List (He)) (Ja:Int) (Ga:Int) (Ia:Int) (Db:Int) (r:List Int) (w:World) (Ud:Kd.C Bk w Ya Qa.length Qa) (Rd:Qa.length ≤ Za) (h:Cl.f Qa Ja Ga Ia Db=some r) :
  Calls Try.prog 72 #[.agg #[.slice Ya Qa.length Za,.int .i64 Ja,.int .i64 Ga,.int .i64 Ia,.int .i64 Db]] w fun e w'=>∃ Nl:Value,e = .returned (Nl)∧Kd.R (Kd.int .i64) 3 w' w.heap.size (fun _=>True) Nl r∧Below w.heap.size w w':=by
 have kC:=Try.underlying59;have Ze:=ga.mk Ud;have Af:=ga.mk Rd;clear Ud Rd;have HB:=ga.mk (Below.refl w.heap.size w);have H:(if Ja=0 then (some (([Ia]:List Int))) else (if Ja=1 then (some (([Ia,Db]:List Int))) else (some (([]:List Int)))))=some r:=h;clear h
 by_cases c2:Ja=0
 ·rw [if_pos c2] at H;have vt:(Ja == 0)=true:=beq_iff_eq.mpr c2;have xw:(Ja != 0)=false:=bne_eq_false_iff_eq.mpr c2;clear c2;obtain ⟨ud,jf⟩:∃ y_:List Int,y_=(([Ia]:List Int)):=⟨_,rfl⟩;replace H:(some ud)=some r:=by first|(rw [jf];with_reducible exact H)|(have Ed:=(Option.bind_some _ _).symm.trans H;rw [jf];with_reducible exact Ed)|(have Ed:=(Option.bind_some _ _).symm.trans H;with_reducible exact Ed)|with_reducible exact H|(rw [jf];exact H)|exact H
  have ei:=ga.mk jf;clear jf;obtain rfl:=Option.some.inj H;go_enter Try.func72,Try.ntmps72;go_wp2_with (first|((with_reducible refine Ab (N:=1) rfl ?_);refine Lb ?hg (N:=1) ?hd (cs:=#[.slice Ya Qa.length Za,.int .i64 Ja,.int .i64 Ga,.int .i64 Ia,.int .i64 Db]) (t:=59) ?hr ?_;(case hd=>rfl);(case hg=>rfl);(case hr=>first|(go_simp;done)|(go_simp;rfl));intro ya hg w3 Sb hb;have Eb:=ga.mk (Ra uaH hb);have Fb:=ga.mk (Sb);have Ob:=ga.mk ((by rw [hg];exact (La uaH):w.heap.size ≤ ya));have Ec:=ga.mk ((by rw [hg];exact (La uaH):w.heap.size ≤ ya));clear HB;have HB:=Eb;have oa:=Fb;have Vd:=Ob;have Ta:=Ec;clear Eb Fb Ob Ec hb Sb hg;have MC:w3.cell? ⟨ya,0,none⟩=some (.slice Ya Qa.length Za):=(ia oa.out 0).trans rfl;have LC:w3.cell? ⟨ya,1,none⟩=some (.int .i64 Ja):=(ia oa.out 1).trans rfl;have KC:w3.cell? ⟨ya,2,none⟩=some (.int .i64 Ga):=(ia oa.out 2).trans rfl;have JC:w3.cell? ⟨ya,3,none⟩=some (.int .i64 Ia):=(ia oa.out 3).trans rfl;have IC:w3.cell? ⟨ya,4,none⟩=some (.int .i64 Db):=(ia oa.out 4).trans rfl;have yC:=aa oa.out 0;have xC:=aa oa.out 1;have wC:=aa oa.out 2;have vC:=aa oa.out 3;have uC:=aa oa.out 4)|((with_reducible refine Ab (N:=9) rfl ?_);refine Kd.Hj (Kd.int .i64) _ 3 ?hg (N:=9) ?hd (xs:=([Ia]:List Int)) (inner:=[.int .i64 Ia]) (ok:=fun _=>True) (Dh:=fun _=>True) ?hr ?hp (fun _ hk=>hk) trivial (Below.refl _ _) (Nat.le_refl _) (by simp) ?_;(case hd=>rfl);(case hg=>rfl);(case hr=>first|(go_simp;done)|(go_simp;rfl));(case hp=>exact (Pd.one (show Kd.M (Kd.int .i64) _ _ _ Ia [.int .i64 Ia] from rfl) (Pd.none _ _)));intro wm w5 NA hb gm Pe;clear gm Pe;(first|rw [← ei.out] at NA|(simp only [Int.reduceToNat] at NA;rw [← ei.out] at NA));have Eb:=ga.mk (Kd.Nd NA (La taH));have Fb:=ga.mk (Va (g:=ya) (o:=.cells #[.slice Ya Qa.length Za,.int .i64 Ja,.int .i64 Ga,.int .i64 Ia,.int .i64 Db] 59 (0,0)) vaH hb);have Ob:=ga.mk (Ra taH hb);clear oa HB;have Sg:=Eb;have oa:=Fb;have HB:=Ob;clear Eb Fb Ob hb NA));go_ret;exact ⟨_,by first|rfl|(simp [Pa,Oa] <;> rfl)|(simp [*,Pa,Oa] <;> rfl),SaH,xaH⟩
 ·rw [if_neg c2] at H;have vt:(Ja == 0)=false:=beq_eq_false_iff_ne.mpr c2;have xw:(Ja != 0)=true:=bne_iff_ne.mpr c2
  by_cases c7:Ja=1
  ·rw [if_pos c7] at H;have Xk:(Ja == 1)=true:=beq_iff_eq.mpr c7;have qt:(Ja != 1)=false:=bne_eq_false_iff_eq.mpr c7;clear c7;obtain ⟨Wd,Gf⟩:∃ y_:List Int,y_=(([Ia,Db]:List Int)):=⟨_,rfl⟩;replace H:(some Wd)=some r:=by first|(rw [Gf];with_reducible exact H)|(have Ed:=(Option.bind_some _ _).symm.trans H;rw [Gf];with_reducible exact Ed)|(have Ed:=(Option.bind_some _ _).symm.trans H;with_reducible exact Ed)|with_reducible exact H|(rw [Gf];exact H)|exact H
   have Jl:=ga.mk Gf;clear Gf;obtain rfl:=Option.some.inj H;go_enter Try.func72,Try.ntmps72;go_wp2_with (first|((with_reducible refine Ab (N:=1) rfl ?_);refine Lb ?hg (N:=1) ?hd (cs:=#[.slice Ya Qa.length Za,.int .i64 Ja,.int .i64 Ga,.int .i64 Ia,.int .i64 Db]) (t:=59) ?hr ?_;(case hd=>rfl);(case hg=>rfl);(case hr=>first|(go_simp;done)|(go_simp;rfl));intro ya hg w8 Sb hb;have Eb:=ga.mk (Ra uaH hb);have Fb:=ga.mk (Sb);have Ob:=ga.mk ((by rw [hg];exact (La uaH):w.heap.size ≤ ya));have Ec:=ga.mk ((by rw [hg];exact (La uaH):w.heap.size ≤ ya));clear HB;have HB:=Eb;have oa:=Fb;have Vd:=Ob;have Ta:=Ec;clear Eb Fb Ob Ec hb Sb hg;have Ln:w8.cell? ⟨ya,0,none⟩=some (.slice Ya Qa.length Za):=(ia oa.out 0).trans rfl;have Kn:w8.cell? ⟨ya,1,none⟩=some (.int .i64 Ja):=(ia oa.out 1).trans rfl;have Jn:w8.cell? ⟨ya,2,none⟩=some (.int .i64 Ga):=(ia oa.out 2).trans rfl;have Gn:w8.cell? ⟨ya,3,none⟩=some (.int .i64 Ia):=(ia oa.out 3).trans rfl;have En:w8.cell? ⟨ya,4,none⟩=some (.int .i64 Db):=(ia oa.out 4).trans rfl;have gn:=aa oa.out 0;have en:=aa oa.out 1;have dn:=aa oa.out 2;have bn:=aa oa.out 3;have Zm:=aa oa.out 4)|((with_reducible refine Ab (N:=16) rfl ?_);refine Kd.Hj (Kd.int .i64) _ 3 ?hg (N:=16) ?hd (xs:=([Ia,Db]:List Int)) (inner:=[.int .i64 Ia,.int .i64 Db]) (ok:=fun _=>True) (Dh:=fun _=>True) ?hr ?hp (fun _ hk=>hk) trivial (Below.refl _ _) (Nat.le_refl _) (by simp) ?_;(case hd=>rfl);(case hg=>rfl);(case hr=>first|(go_simp;done)|(go_simp;rfl));(case hp=>exact (Pd.one (show Kd.M (Kd.int .i64) _ _ _ Ia [.int .i64 Ia] from rfl) (Pd.one (show Kd.M (Kd.int .i64) _ _ _ Db [.int .i64 Db] from rfl) (Pd.none _ _))));intro XB Us fq hb gm Pe;clear gm Pe;(first|rw [← Jl.out] at fq|(simp only [Int.reduceToNat] at fq;rw [← Jl.out] at fq));have Eb:=ga.mk (Kd.Nd fq (La taH));have Fb:=ga.mk (Va (g:=ya) (o:=.cells #[.slice Ya Qa.length Za,.int .i64 Ja,.int .i64 Ga,.int .i64 Ia,.int .i64 Db] 59 (0,0)) vaH hb);have Ob:=ga.mk (Ra taH hb);clear oa HB;have nj:=Eb;have oa:=Fb;have HB:=Ob;clear Eb Fb Ob hb fq));go_ret;exact ⟨_,by first|rfl|(simp [Pa,Oa] <;> rfl)|(simp [*,Pa,Oa] <;> rfl),baI,xaH⟩
  ·rw [if_neg c7] at H;have Xk:(Ja == 1)=false:=beq_eq_false_iff_ne.mpr c7;have qt:(Ja != 1)=true:=bne_iff_ne.mpr c7;obtain ⟨Yg,Ff⟩:∃ y_:List Int,y_=(([]:List Int)):=⟨_,rfl⟩;replace H:(some Yg)=some r:=by first|(rw [Ff];with_reducible exact H)|(have Ed:=(Option.bind_some _ _).symm.trans H;rw [Ff];with_reducible exact Ed)|(have Ed:=(Option.bind_some _ _).symm.trans H;with_reducible exact Ed)|with_reducible exact H|(rw [Ff];exact H)|exact H
   have Ej:=ga.mk Ff;clear Ff;obtain rfl:=Option.some.inj H;go_enter Try.func72,Try.ntmps72;go_wp2_with (first|((with_reducible refine Ab (N:=1) rfl ?_);refine Lb ?hg (N:=1) ?hd (cs:=#[.slice Ya Qa.length Za,.int .i64 Ja,.int .i64 Ga,.int .i64 Ia,.int .i64 Db]) (t:=59) ?hr ?_;(case hd=>rfl);(case hg=>rfl);(case hr=>first|(go_simp;done)|(go_simp;rfl));intro ya hg Ks Sb hb;have Eb:=ga.mk (Ra uaH hb);have Fb:=ga.mk (Sb);have Ob:=ga.mk ((by rw [hg];exact (La uaH):w.heap.size ≤ ya));have Ec:=ga.mk ((by rw [hg];exact (La uaH):w.heap.size ≤ ya));clear HB;have HB:=Eb;have oa:=Fb;have Vd:=Ob;have Ta:=Ec;clear Eb Fb Ob Ec hb Sb hg;have Gs:Ks.cell? ⟨ya,0,none⟩=some (.slice Ya Qa.length Za):=(ia oa.out 0).trans rfl;have Fs:Ks.cell? ⟨ya,1,none⟩=some (.int .i64 Ja):=(ia oa.out 1).trans rfl;have Es:Ks.cell? ⟨ya,2,none⟩=some (.int .i64 Ga):=(ia oa.out 2).trans rfl;have Ds:Ks.cell? ⟨ya,3,none⟩=some (.int .i64 Ia):=(ia oa.out 3).trans rfl;have Cs:Ks.cell? ⟨ya,4,none⟩=some (.int .i64 Db):=(ia oa.out 4).trans rfl;have Wr:=aa oa.out 0;have Vr:=aa oa.out 1;have Ur:=aa oa.out 2;have Tr:=aa oa.out 3;have Sr:=aa oa.out 4)|((with_reducible refine Ab (N:=17) rfl ?_);refine Kd.Hj (Kd.int .i64) _ 3 ?hg (N:=17) ?hd (xs:=([]:List Int)) (inner:=[]) (ok:=fun _=>True) (Dh:=fun _=>True) ?hr ?hp (fun _ hk=>hk) trivial (Below.refl _ _) (Nat.le_refl _) (by simp) ?_;(case hd=>rfl);(case hg=>rfl);(case hr=>first|(go_simp;done)|(go_simp;rfl));(case hp=>exact (Pd.none _ _));intro IG dz KF hb gm Pe;clear gm Pe;(first|rw [← Ej.out] at KF|(simp only [Int.reduceToNat] at KF;rw [← Ej.out] at KF));have Eb:=ga.mk (Kd.Nd KF (La taH));have Fb:=ga.mk (Va (g:=ya) (o:=.cells #[.slice Ya Qa.length Za,.int .i64 Ja,.int .i64 Ga,.int .i64 Ia,.int .i64 Db] 59 (0,0)) vaH hb);have Ob:=ga.mk (Ra taH hb);clear oa HB;have uj:=Eb;have oa:=Fb;have HB:=Ob;clear Eb Fb Ob hb KF));go_ret;exact ⟨_,by first|rfl|(simp [Pa,Oa] <;> rfl)|(simp [*,Pa,Oa] <;> rfl),by (with_reducible repeat (first|apply Kd.Xa|apply Kd.Wa|apply Kd.gb));exact uj.out,xaH⟩
end Go.Proofs.Ytkigbdceceeenaa.P
end
