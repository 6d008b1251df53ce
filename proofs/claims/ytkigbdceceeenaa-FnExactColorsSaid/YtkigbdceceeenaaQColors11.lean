import Derived.Test.YtkigbdceceeenaaQColors1
import Derived.Test.YtkigbdceceeenaaQColors8
set_option maxHeartbeats 8000000
set_option maxRecDepth 100000
namespace Go.Proofs.Ytkigbdceceeenaa.P
open Go.RowKit Go.Proofs.Ma.Tb Go.Proofs.Ma.Gd Go.Proofs.Ma.De
attribute [local go_sem] Rh si wj Nj qh oh zi ri
set_option linter.unusedVariables false
set_option linter.unusedSimpArgs false
mutual
def ec.l0:Nat→List Bool→List (Je)→Int→Int→Option (List Bool)
 | 0,_,_,_,_=>none
 | k + 1,x3,ZE,tU,WB=>if WB < tU then (if 0 ≤ WB then (if WB < (ZE.length:Int) then (ec.l1 k x3 ZE tU WB ((za ZE WB).f0) (((za ZE WB).f0).length:Int) 0 ((za ZE WB).f0) ((za ZE WB).f1) ((za ZE WB).f2) ((za ZE WB).f3) ((za ZE WB).f4)) else (none)) else (none)) else (some x3)
def ec.l1:Nat→List Bool→List (Je)→Int→Int→List (He)→Int→Int→List (He)→Int→Int→Int→Int→Option (List Bool)
 | 0,_,_,_,_,_,_,_,_,_,_,_,_=>none
 | k + 1,x3,ZE,tU,WB,dH,x23,OD,Oz,Gw,Cr,Nz,Mz=>if OD < x23 then (if 0 ≤ OD then (if OD < (dH.length:Int) then ((Dd.f k ((Ea dH OD).f0) ((Ea dH OD).f1) ((Ea dH OD).f2) ((Ea dH OD).f3) ((Ea dH OD).f4) ((Ea dH OD).f5) ((Ea dH OD).f6)).bind fun t110=>(ec.l2 k x3 ZE tU WB dH x23 OD t110 (t110.length:Int) 0 Oz Gw Cr Nz Mz ((Ea dH OD).f0) ((Ea dH OD).f1) ((Ea dH OD).f2) ((Ea dH OD).f3) ((Ea dH OD).f4) ((Ea dH OD).f5) ((Ea dH OD).f6))) else (none)) else (none)) else (if Gw=0 then (ec.l0 k x3 ZE tU (wrap64 (WB + 1))) else (if 0 ≤ Cr then (if Cr < (x3.length:Int) then (ec.l0 k (x3.set (Cr:Int).toNat true) ZE tU (wrap64 (WB + 1))) else (none)) else (none)))
def ec.l2:Nat→List Bool→List (Je)→Int→Int→List (He)→Int→Int→List Int→Int→Int→List (He)→Int→Int→Int→Int→Int→Int→Int→Int→Int→Int→ByteArray→Option (List Bool)
 | 0,_,_,_,_,_,_,_,_,_,_,_,_,_,_,_,_,_,_,_,_,_,_=>none
 | k + 1,x3,ZE,tU,WB,dH,x23,OD,D_,x30,VM,Oz,Gw,Cr,Nz,Mz,zP,yP,xP,wP,vP,uP,tP=>if VM < x30 then (if 0 ≤ VM then (if VM < (D_.length:Int) then (if 0 ≤ (rd D_ VM) then (if (rd D_ VM) < (x3.length:Int) then (ec.l2 k (x3.set ((rd D_ VM):Int).toNat true) ZE tU WB dH x23 OD D_ x30 (wrap64 (VM + 1)) Oz Gw Cr Nz Mz zP yP xP wP vP uP tP) else (none)) else (none)) else (none)) else (none)) else ((th.f zP yP xP wP vP uP tP).bind fun t115=>(if t115 ≥ 0 then (if 0 ≤ t115 then (if t115 < (x3.length:Int) then (ec.l1 k (x3.set (t115:Int).toNat true) ZE tU WB dH x23 (wrap64 (OD + 1)) Oz Gw Cr Nz Mz) else (none)) else (none)) else (ec.l1 k x3 ZE tU WB dH x23 (wrap64 (OD + 1)) Oz Gw Cr Nz Mz)))
end
def ec.f (k:Nat) (Qa:List Int) (Ja:Int) (Ga:Int) (Ia:Int) (Aa:List (Je)):Option (List Bool):=if 0 ≤ Ia then (if (Ia:Int).toNat ≤ 281474976710656 then (ec.l0 k (List.replicate (Ia:Int).toNat false) Aa (Aa.length:Int) 0) else (none)) else (none)
theorem ec.calls (k:Nat) (Ya:Option Addr) (Za:Nat) (Qa:List Int) (Ja:Int) (Ga:Int) (Ia:Int) (Mb:Option Addr) (Cb:Nat) (Aa:List (Je)) (r:List Bool) (w:World) (Ud:Kd.C (Kd.int .i64) w Ya Qa.length Qa) (Rd:Qa.length ≤ Za) (yf:Kd.C Fq w Mb Aa.length Aa) (kf:Aa.length ≤ Cb) (h:ec.f k Qa Ja Ga Ia Aa=some r) :
  Calls Try.prog 62 #[.agg #[.slice Ya Qa.length Za,.int .i64 Ja,.int .i64 Ga,.int .i64 Ia,.slice Mb Aa.length Cb]] w fun e w'=>∃ Nl:Value,e = .returned (Nl)∧Kd.R Kd.bool 4 w' w.heap.size (fun _=>True) Nl r∧Below w.heap.size w w':=by
 have GF:=Try.underlying30;have kC:=Try.underlying59;have MA:=Try.underlying65;have Ze:=ga.mk Ud;have Af:=ga.mk Rd;clear Ud Rd;have xg:=ga.mk yf;have ki:=ga.mk kf;clear yf kf;have HB:=ga.mk (Below.refl w.heap.size w);have H:(if 0 ≤ Ia then (if (Ia:Int).toNat ≤ 281474976710656 then (ec.l0 k (List.replicate (Ia:Int).toNat false) Aa (Aa.length:Int) 0) else (none)) else (none))=some r:=h;clear h
 by_cases c2:0 ≤ Ia
 ·rw [if_pos c2] at H;have vt:=eq_true c2;have xw:decide (0 ≤ Ia)=true:=decide_eq_true c2;clear c2
  by_cases c3:(Ia:Int).toNat ≤ 281474976710656
  ·rw [if_pos c3] at H;have Xh:=eq_true c3;have br:decide ((Ia:Int).toNat ≤ 281474976710656)=true:=decide_eq_true c3;clear c3;obtain ⟨ud,jf⟩:∃ y_:List Bool,y_=(List.replicate (Ia:Int).toNat false):=⟨_,rfl⟩;replace H:(ec.l0 k ud Aa (Aa.length:Int) 0)=some r:=by first|(rw [jf];with_reducible exact H)|(have Ed:=(Option.bind_some _ _).symm.trans H;rw [jf];with_reducible exact Ed)|(have Ed:=(Option.bind_some _ _).symm.trans H;with_reducible exact Ed)|with_reducible exact H|(rw [jf];exact H)|exact H
   have ei:=ga.mk jf;clear jf;have H':=ga.mk H;clear H;go_enter Try.func62,Try.ntmps62;go_wp2_with (first|((with_reducible refine Ab (N:=1) rfl ?_);refine Lb ?hg (N:=1) ?hd (cs:=#[.slice Ya Qa.length Za,.int .i64 Ja,.int .i64 Ga,.int .i64 Ia,.slice Mb Aa.length Cb]) (t:=30) ?hr ?_;(case hd=>rfl);(case hg=>rfl);(case hr=>first|(go_simp;done)|(go_simp;rfl));intro ya hg w4 Sb hb;have Eb:=ga.mk (Ra uaH hb);have Fb:=ga.mk (Sb);have Ob:=ga.mk ((by rw [hg];exact (La uaH):w.heap.size ≤ ya));have Ec:=ga.mk ((by rw [hg];exact (La uaH):w.heap.size ≤ ya));clear HB;have HB:=Eb;have oa:=Fb;have Vd:=Ob;have Ta:=Ec;clear Eb Fb Ob Ec hb Sb hg;have GC:w4.cell? ⟨ya,0,none⟩=some (.slice Ya Qa.length Za):=(ia oa.out 0).trans rfl;have FC:w4.cell? ⟨ya,1,none⟩=some (.int .i64 Ja):=(ia oa.out 1).trans rfl;have EC:w4.cell? ⟨ya,2,none⟩=some (.int .i64 Ga):=(ia oa.out 2).trans rfl;have DC:w4.cell? ⟨ya,3,none⟩=some (.int .i64 Ia):=(ia oa.out 3).trans rfl;have CC:w4.cell? ⟨ya,4,none⟩=some (.slice Mb Aa.length Cb):=(ia oa.out 4).trans rfl;have tC:=aa oa.out 0;have sC:=aa oa.out 1;have rC:=aa oa.out 2;have qC:=aa oa.out 3;have oC:=aa oa.out 4)|((with_reducible refine Ab (N:=13) rfl ?_);refine Kd.jr Kd.bool _ 4 rfl (N:=13) rfl 60 _ _ rfl Ia rfl rfl Try.underlying60 (.bool false) 1 Ir rfl (by decide) (by omega) false (ok:=fun _=>True) (Dh:=fun _=>True) rfl (fun _ hk=>hk) trivial (Ua) (Nat.le_trans (Nat.mul_le_mul_right _ (Ua:Ia.toNat ≤ 281474976710656)) (by omega)) (Below.refl _ _) (Nat.le_refl _) ?_;intro wm w6 SW hb gm Pe;clear gm Pe;(first|rw [← ei.out] at SW|(simp only [Int.reduceToNat] at SW;rw [← ei.out] at SW));have Eb:=ga.mk (Kd.Nd SW (La taH));have Fb:=ga.mk (Va (g:=ya) (o:=.cells #[.slice Ya Qa.length Za,.int .i64 Ja,.int .i64 Ga,.int .i64 Ia,.slice Mb Aa.length Cb] 30 (0,0)) vaH hb);have Ob:=ga.mk (Ra taH hb);clear oa HB;have Sg:=Eb;have oa:=Fb;have HB:=Ob;clear Eb Fb Ob hb SW;have Rn:w6.cell? ⟨ya,0,none⟩=some (.slice Ya Qa.length Za):=(ia oa.out 0).trans rfl;have Qn:w6.cell? ⟨ya,1,none⟩=some (.int .i64 Ja):=(ia oa.out 1).trans rfl;have Pn:w6.cell? ⟨ya,2,none⟩=some (.int .i64 Ga):=(ia oa.out 2).trans rfl;have Nn:w6.cell? ⟨ya,3,none⟩=some (.int .i64 Ia):=(ia oa.out 3).trans rfl;have Mn:w6.cell? ⟨ya,4,none⟩=some (.slice Mb Aa.length Cb):=(ia oa.out 4).trans rfl;have sn:=aa oa.out 0;have qn:=aa oa.out 1;have pn:=aa oa.out 2;have kn:=aa oa.out 3;have jn:=aa oa.out 4))
   go_loopg [17] k (fun kq v17 w'=>∃ (ie:List Bool) (jb:Int),v17 = .int .i64 jb∧ga (ec.l0 kq ie Aa (Aa.length:Int) jb=some r)∧ga (kq ≤ k)∧ga (Kd.R Kd.bool 4 w' w.heap.size (fun _=>True) wm ie)∧ga (w'.heap[ya]? = some (.cells #[(.slice Ya Qa.length Za),.int .i64 Ja,.int .i64 Ga,.int .i64 Ia,(.slice Mb Aa.length Cb)] 30 (0,0)))∧ga (Below w.heap.size w w'))
   case atStart=>exact ⟨(ud),(0),AaH,H',⟨Nat.le_refl _⟩,⟨SaH⟩,⟨zaH⟩,⟨xaH⟩⟩
   case round =>
    clear H'
    try clear c2
    try clear vt
    try clear xw
    try clear p2
    try clear c3
    try clear Xh
    try clear br
    try clear c6
    try clear GC
    try clear FC
    try clear EC
    try clear DC
    try clear CC
    try clear Rn
    try clear Qn
    try clear Pn
    try clear Nn
    try clear Mn
    try clear tC
    try clear sC
    try clear rC
    try clear qC
    try clear oC
    try clear sn
    try clear qn
    try clear pn
    try clear kn
    try clear jn
    (try clear HA);(try clear wg);(try clear Oc);(try clear oa);(try clear HB);obtain ⟨ie,jb,rfl,HA,wg,Oc,oa,HB⟩:=hrel;cases gk with
    | zero=>exact absurd HA.out (by simp [ec.l0])
    | succ k1 =>
     have H:=HA.out;clear HA;simp only [ec.l0] at H
     by_cases c9:jb < (Aa.length:Int)
     ·rw [if_pos c9] at H;have Pv:decide (jb < (Aa.length:Int))=true:=decide_eq_true c9;clear c9
      by_cases Ts:0 ≤ jb
      ·rw [if_pos Ts] at H;have Bt:decide (0 ≤ jb)=true:=decide_eq_true Ts;clear Ts
       by_cases zB:jb < (Aa.length:Int)
       ·rw [if_pos zB] at H;have vM:decide (jb < (Aa.length:Int))=true:=decide_eq_true zB;clear zB;have H':=ga.mk H;clear H;have Mj:0 ≤ (jb:Int):=Ua;have Lj:jb < (Aa.length:Int):=Ua;obtain ⟨wh,Bh,pg,uw,Xf,Si,Ri,Qi,Oi,Ti,Ui⟩:=sj xg.out jb Mj Lj;cases uw;replace Xf:=Sa HB.out Xf;replace Si:=Sa HB.out Si;replace Ri:=Sa HB.out Ri;replace Qi:=Sa HB.out Qi;replace Oi:=Sa HB.out Oi;have fo:=ga.mk Ui;have Cv:=ga.mk Ti;clear Ui Ti;replace Mj:=eq_true Mj;replace Lj:=eq_true Lj;go_wp2_with (first|((with_reducible refine Ab (N:=5) rfl ?_);refine Lb ?hg (N:=5) ?hd (cs:=#[.slice none 0 0,.int .i64 0,.int .i64 0,.int .i64 0,.int .i64 0]) (t:=59) ?hr ?_;(case hd=>rfl);(case hg=>rfl);(case hr=>first|(go_simp;done)|(go_simp;rfl));intro lf hg Ks Sb hb;have Eb:=ga.mk (Kd.ld NaH hb);have Fb:=ga.mk (Va (g:=ya) (o:=.cells #[.slice Ya Qa.length Za,.int .i64 Ja,.int .i64 Ga,.int .i64 Ia,.slice (some wh) Aa.length Cb] 30 (0,0)) vaH hb);have Ob:=ga.mk (Ra taH hb);have Ec:=ga.mk (Sb);have gf:=ga.mk ((by rw [hg];exact (La taH):w.heap.size ≤ lf));have Zf:=ga.mk ((by rw [hg];exact (La taH):w.heap.size ≤ lf));have gh:=ga.mk ((by rw [hg];exact Nat.ne_of_lt (Nc (g:=ya) (o:=.cells #[.slice Ya Qa.length Za,.int .i64 Ja,.int .i64 Ga,.int .i64 Ia,.slice (some wh) Aa.length Cb] 30 (0,0)) vaH):ya ≠ lf));have lD:=ga.mk ((by rw [hg];exact Nat.ne_of_gt (Nc (g:=ya) (o:=.cells #[.slice Ya Qa.length Za,.int .i64 Ja,.int .i64 Ga,.int .i64 Ia,.slice (some wh) Aa.length Cb] 30 (0,0)) vaH):lf ≠ ya));clear Oc oa HB;have Oc:=Eb;have oa:=Fb;have HB:=Ob;have Ad:=Ec;have t_:=gf;have Ij:=Zf;have Lf:=gh;have xo:=lD;clear Eb Fb Ob Ec gf Zf gh lD hb Sb hg;have kaf:=xo.out;have Vae:=Lf.out;have ij:Ks.cell? ⟨lf,0,none⟩=some (.slice none 0 0):=(ia Ad.out 0).trans rfl;have fj:Ks.cell? ⟨lf,1,none⟩=some (.int .i64 0):=(ia Ad.out 1).trans rfl;have ej:Ks.cell? ⟨lf,2,none⟩=some (.int .i64 0):=(ia Ad.out 2).trans rfl;have cj:Ks.cell? ⟨lf,3,none⟩=some (.int .i64 0):=(ia Ad.out 3).trans rfl;have aj:Ks.cell? ⟨lf,4,none⟩=some (.int .i64 0):=(ia Ad.out 4).trans rfl;have Zi:=aa Ad.out 0;have Yi:=aa Ad.out 1;have Xi:=aa Ad.out 2;have Wi:=aa Ad.out 3;have Vi:=aa Ad.out 4))
        go_loopg [24] k1 (fun kq v24 w'=>∃ (Bp:List Bool) (Xb:Int),v24 = .int .i64 Xb∧ga (ec.l1 kq Bp Aa (Aa.length:Int) jb ((za Aa jb).f0) (((za Aa jb).f0).length:Int) Xb ((za Aa jb).f0) ((za Aa jb).f1) ((za Aa jb).f2) ((za Aa jb).f3) ((za Aa jb).f4)=some r)∧ga (kq ≤ k1)∧ga (Kd.R Kd.bool 4 w' w.heap.size (fun _=>True) wm Bp)∧ga (w'.heap[ya]? = some (.cells #[(.slice Ya Qa.length Za),.int .i64 Ja,.int .i64 Ga,.int .i64 Ia,(.slice (some wh) Aa.length Cb)] 30 (0,0)))∧ga (w'.heap[lf]? = some (.cells #[(.slice Bh ((za Aa jb).f0).length pg),.int .i64 ((za Aa jb).f1),.int .i64 ((za Aa jb).f2),.int .i64 ((za Aa jb).f3),.int .i64 ((za Aa jb).f4)] 59 (0,0)))∧ga (Below w.heap.size w w'))
        case atStart=>exact ⟨(ie),(0),AaH,H',⟨Nat.le_refl _⟩,⟨by (with_reducible repeat (first|apply Kd.Xa|apply Kd.Wa|apply Kd.gb));exact Kd.xd (Kd.Kg (p:=⟨lf,4,none⟩) (Kd.Kg (p:=⟨lf,3,none⟩) (Kd.Kg (p:=⟨lf,2,none⟩) (Kd.Kg (p:=⟨lf,1,none⟩) (Kd.Kg (p:=⟨lf,0,none⟩) (Kd.Uo Oc.out Ad.out (by decide)) (fun _ hk=>hk.2) (.slice Bh ((za Aa jb).f0).length pg)) (fun _ hk=>hk.2) (.int .i64 ((za Aa jb).f1))) (fun _ hk=>hk.2) (.int .i64 ((za Aa jb).f2))) (fun _ hk=>hk.2) (.int .i64 ((za Aa jb).f3))) (fun _ hk=>hk.2) (.int .i64 ((za Aa jb).f4))) (fun _ hk=>trivial)⟩,⟨by (with_reducible repeat (first|refine Ca ?_ _|refine Fa ?_|refine Da ?_ _));refine Bd ?_ Lf.out _;(with_reducible repeat (first|refine Ca ?_ _|refine Fa ?_|refine Da ?_ _));refine Bd ?_ Lf.out _;(with_reducible repeat (first|refine Ca ?_ _|refine Fa ?_|refine Da ?_ _));refine Bd ?_ Lf.out _;(with_reducible repeat (first|refine Ca ?_ _|refine Fa ?_|refine Da ?_ _));refine Bd ?_ Lf.out _;(with_reducible repeat (first|refine Ca ?_ _|refine Fa ?_|refine Da ?_ _));refine Bd ?_ Lf.out _;(with_reducible repeat (first|refine Ca ?_ _|refine Fa ?_|refine Da ?_ _));exact oa.out⟩,⟨by (with_reducible repeat (first|refine Ca ?_ _|refine Fa ?_|refine Da ?_ _));refine Qd (cs:=#[.slice Bh ((za Aa jb).f0).length pg,.int .i64 ((za Aa jb).f1),.int .i64 ((za Aa jb).f2),.int .i64 ((za Aa jb).f3),.int .i64 0]) ?_ 4 _ rfl;(with_reducible repeat (first|refine Ca ?_ _|refine Fa ?_|refine Da ?_ _));refine Qd (cs:=#[.slice Bh ((za Aa jb).f0).length pg,.int .i64 ((za Aa jb).f1),.int .i64 ((za Aa jb).f2),.int .i64 0,.int .i64 0]) ?_ 3 _ rfl;(with_reducible repeat (first|refine Ca ?_ _|refine Fa ?_|refine Da ?_ _));refine Qd (cs:=#[.slice Bh ((za Aa jb).f0).length pg,.int .i64 ((za Aa jb).f1),.int .i64 0,.int .i64 0,.int .i64 0]) ?_ 2 _ rfl;(with_reducible repeat (first|refine Ca ?_ _|refine Fa ?_|refine Da ?_ _));refine Qd (cs:=#[.slice Bh ((za Aa jb).f0).length pg,.int .i64 0,.int .i64 0,.int .i64 0,.int .i64 0]) ?_ 1 _ rfl;(with_reducible repeat (first|refine Ca ?_ _|refine Fa ?_|refine Da ?_ _));refine Qd (cs:=#[.slice none 0 0,.int .i64 0,.int .i64 0,.int .i64 0,.int .i64 0]) ?_ 0 _ rfl;(with_reducible repeat (first|refine Ca ?_ _|refine Fa ?_|refine Da ?_ _));exact Ad.out⟩,⟨aaI⟩⟩
        case round =>
         clear H'
         try clear c1
         try clear p1
         try clear q1
         try clear hx1
         try clear c2
         try clear vt
         try clear xw
         try clear p2
         try clear c3
         try clear Xh
         try clear br
         try clear c6
         try clear c9
         try clear Pv
         try clear Ts
         try clear Bt
         try clear fI
         try clear cI
         try clear MW
         try clear zB
         try clear vM
         try clear KD
         try clear ij
         try clear fj
         try clear ej
         try clear cj
         try clear aj
         try clear GC
         try clear FC
         try clear EC
         try clear DC
         try clear CC
         try clear Rn
         try clear Qn
         try clear Pn
         try clear Nn
         try clear Mn
         try clear Zi
         try clear Yi
         try clear Xi
         try clear Wi
         try clear Vi
         try clear tC
         try clear sC
         try clear rC
         try clear qC
         try clear oC
         try clear sn
         try clear qn
         try clear pn
         try clear kn
         try clear jn
         try clear Xf
         try clear Si
         try clear Ri
         try clear Qi
         try clear Oi
         try clear Mj
         try clear p2
         try clear Lj
         (try clear HA);(try clear zl);(try clear Oc);(try clear oa);(try clear Ad);(try clear HB);obtain ⟨Bp,Xb,rfl,HA,zl,Oc,oa,Ad,HB⟩:=hrel;cases gk with
         | zero=>exact absurd HA.out (by simp [ec.l1])
         | succ k2 =>
          have H:=HA.out;clear HA;simp only [ec.l1] at H
          by_cases vD:Xb < (((za Aa jb).f0).length:Int)
          ·rw [if_pos vD] at H;have yB:decide (Xb < (((za Aa jb).f0).length:Int))=true:=decide_eq_true vD;clear vD
           by_cases uM:0 ≤ Xb
           ·rw [if_pos uM] at H;have Baj:decide (0 ≤ Xb)=true:=decide_eq_true uM;clear uM
            by_cases yt:Xb < (((za Aa jb).f0).length:Int)
            ·rw [if_pos yt] at H;have Hp:decide (Xb < (((za Aa jb).f0).length:Int))=true:=decide_eq_true yt;clear yt;replace H:=Option.bind_eq_some_iff.mp H;obtain ⟨t110,tZ,H⟩:=H;replace H:(ec.l2 k2 Bp Aa (Aa.length:Int) jb ((za Aa jb).f0) (((za Aa jb).f0).length:Int) Xb t110 (t110.length:Int) 0 ((za Aa jb).f0) ((za Aa jb).f1) ((za Aa jb).f2) ((za Aa jb).f3) ((za Aa jb).f4) ((Ea ((za Aa jb).f0) Xb).f0) ((Ea ((za Aa jb).f0) Xb).f1) ((Ea ((za Aa jb).f0) Xb).f2) ((Ea ((za Aa jb).f0) Xb).f3) ((Ea ((za Aa jb).f0) Xb).f4) ((Ea ((za Aa jb).f0) Xb).f5) ((Ea ((za Aa jb).f0) Xb).f6))=some r:=H;have JV:=ga.mk tZ;clear tZ;have H':=ga.mk H;clear H;have GD:0 ≤ (Xb:Int):=Ua;have FD:Xb < (((za Aa jb).f0).length:Int):=Ua;obtain ⟨zw,aY,Ut,BI,zI,yI,xI,wI,vI⟩:=jm fo.out Xb GD FD;cases aY;replace Ut:=Sa HB.out Ut;replace BI:=Sa HB.out BI;replace zI:=Sa HB.out zI;replace yI:=Sa HB.out yI;replace xI:=Sa HB.out xI;replace wI:=Sa HB.out wI;replace vI:=Sa HB.out vI;replace GD:=eq_true GD;replace FD:=eq_true FD;go_wp2_with (first|((with_reducible refine Ab (N:=7) rfl ?_);refine Lb ?hg (N:=7) ?hd (cs:=#[.int .i64 0,.int .i64 0,.int .i64 0,.int .i64 0,.int .i64 0,.int .i64 0,.string (⟨#[]⟩:ByteArray)]) (t:=65) ?hr ?_;(case hd=>rfl);(case hg=>rfl);(case hr=>first|(go_simp;done)|(go_simp;rfl));intro Wg hg Jt Sb hb;have Eb:=ga.mk (Kd.ld NaH hb);have Fb:=ga.mk (Va (g:=ya) (o:=.cells #[.slice Ya Qa.length Za,.int .i64 Ja,.int .i64 Ga,.int .i64 Ia,.slice (some wh) Aa.length Cb] 30 (0,0)) vaH hb);have Ob:=ga.mk (Va (g:=lf) (o:=.cells #[.slice (some zw) ((za Aa jb).f0).length pg,.int .i64 ((za Aa jb).f1),.int .i64 ((za Aa jb).f2),.int .i64 ((za Aa jb).f3),.int .i64 ((za Aa jb).f4)] 59 (0,0)) VaH hb);have Ec:=ga.mk (Ra FaH hb);have gf:=ga.mk (Sb);have Zf:=ga.mk ((by rw [hg];exact (La FaH):w.heap.size ≤ Wg));have gh:=ga.mk ((by rw [hg];exact (La FaH):w.heap.size ≤ Wg));have lD:=ga.mk ((by rw [hg];exact Nat.ne_of_lt (Nc (g:=ya) (o:=.cells #[.slice Ya Qa.length Za,.int .i64 Ja,.int .i64 Ga,.int .i64 Ia,.slice (some wh) Aa.length Cb] 30 (0,0)) vaH):ya ≠ Wg));have oW:=ga.mk ((by rw [hg];exact Nat.ne_of_gt (Nc (g:=ya) (o:=.cells #[.slice Ya Qa.length Za,.int .i64 Ja,.int .i64 Ga,.int .i64 Ia,.slice (some wh) Aa.length Cb] 30 (0,0)) vaH):Wg ≠ ya));have LP:=ga.mk ((by rw [hg];exact Nat.ne_of_lt (Nc (g:=lf) (o:=.cells #[.slice (some zw) ((za Aa jb).f0).length pg,.int .i64 ((za Aa jb).f1),.int .i64 ((za Aa jb).f2),.int .i64 ((za Aa jb).f3),.int .i64 ((za Aa jb).f4)] 59 (0,0)) VaH):lf ≠ Wg));have vae:=ga.mk ((by rw [hg];exact Nat.ne_of_gt (Nc (g:=lf) (o:=.cells #[.slice (some zw) ((za Aa jb).f0).length pg,.int .i64 ((za Aa jb).f1),.int .i64 ((za Aa jb).f2),.int .i64 ((za Aa jb).f3),.int .i64 ((za Aa jb).f4)] 59 (0,0)) VaH):Wg ≠ lf));clear Oc oa Ad HB;have Oc:=Eb;have oa:=Fb;have Ad:=Ob;have HB:=Ec;have Oe:=gf;have RaC:=Zf;have xD:=gh;have zk:=lD;have bD:=oW;have xk:=LP;have aD:=vae;clear Eb Fb Ob Ec gf Zf gh lD oW LP vae hb Sb hg;have QaA:=bD.out;have jaA:=zk.out;have iaf:=aD.out;have Tae:=xk.out;have Tu:Jt.cell? ⟨Wg,0,none⟩=some (.int .i64 0):=(ia Oe.out 0).trans rfl;have Su:Jt.cell? ⟨Wg,1,none⟩=some (.int .i64 0):=(ia Oe.out 1).trans rfl;have Ru:Jt.cell? ⟨Wg,2,none⟩=some (.int .i64 0):=(ia Oe.out 2).trans rfl;have Qu:Jt.cell? ⟨Wg,3,none⟩=some (.int .i64 0):=(ia Oe.out 3).trans rfl;have Pu:Jt.cell? ⟨Wg,4,none⟩=some (.int .i64 0):=(ia Oe.out 4).trans rfl;have CE:Jt.cell? ⟨Wg,5,none⟩=some (.int .i64 0):=(ia Oe.out 5).trans rfl;have AE:Jt.cell? ⟨Wg,6,none⟩=some (.string (⟨#[]⟩:ByteArray)):=(ia Oe.out 6).trans rfl;have ru:=aa Oe.out 0;have qu:=aa Oe.out 1;have ou:=aa Oe.out 2;have nu:=aa Oe.out 3;have lu:=aa Oe.out 4;have gE:=aa Oe.out 5;have fE:=aa Oe.out 6)|((with_reducible refine yb (f:=88) rfl ?_);refine Pc (some 29) rfl rfl Try.func88 (by kernel_rfl) rfl #[.agg #[.int .i64 ((Ea ((za Aa jb).f0) Xb).f0),.int .i64 ((Ea ((za Aa jb).f0) Xb).f1),.int .i64 ((Ea ((za Aa jb).f0) Xb).f2),.int .i64 ((Ea ((za Aa jb).f0) Xb).f3),.int .i64 ((Ea ((za Aa jb).f0) Xb).f4),.int .i64 ((Ea ((za Aa jb).f0) Xb).f5),.string ((Ea ((za Aa jb).f0) Xb).f6)]] rfl waH ?_;(with_reducible refine (Dd.calls k2 ((Ea ((za Aa jb).f0) Xb).f0) ((Ea ((za Aa jb).f0) Xb).f1) ((Ea ((za Aa jb).f0) Xb).f2) ((Ea ((za Aa jb).f0) Xb).f3) ((Ea ((za Aa jb).f0) Xb).f4) ((Ea ((za Aa jb).f0) Xb).f5) ((Ea ((za Aa jb).f0) Xb).f6) t110 _ JV.out).mono ?_);rintro e Mt ⟨XZ,rfl,Lk,hb⟩;refine ⟨_,rfl,?_⟩;have Eb:=ga.mk (Kd.ld (by (with_reducible repeat (first|apply Kd.Xa|apply Kd.Wa|apply Kd.gb));exact (Kd.xd (Kd.Kg (p:=⟨Wg,6,none⟩) (Kd.Kg (p:=⟨Wg,5,none⟩) (Kd.Kg (p:=⟨Wg,4,none⟩) (Kd.Kg (p:=⟨Wg,3,none⟩) (Kd.Kg (p:=⟨Wg,2,none⟩) (Kd.Kg (p:=⟨Wg,1,none⟩) (Kd.Kg (p:=⟨Wg,0,none⟩) (Kd.Uo Oc.out Oe.out (by decide)) (fun _ hk=>hk.2) (.int .i64 ((Ea ((za Aa jb).f0) Xb).f0))) (fun _ hk=>hk.2) (.int .i64 ((Ea ((za Aa jb).f0) Xb).f1))) (fun _ hk=>hk.2) (.int .i64 ((Ea ((za Aa jb).f0) Xb).f2))) (fun _ hk=>hk.2) (.int .i64 ((Ea ((za Aa jb).f0) Xb).f3))) (fun _ hk=>hk.2) (.int .i64 ((Ea ((za Aa jb).f0) Xb).f4))) (fun _ hk=>hk.2) (.int .i64 ((Ea ((za Aa jb).f0) Xb).f5))) (fun _ hk=>hk.2) (.string ((Ea ((za Aa jb).f0) Xb).f6))) (fun _ h_=>h_.1))) hb);have Fb:=ga.mk (Kd.Nd Lk (La daI));have Ob:=ga.mk (Va (g:=ya) (o:=.cells #[.slice Ya Qa.length Za,.int .i64 Ja,.int .i64 Ga,.int .i64 Ia,.slice (some wh) Aa.length Cb] 30 (0,0)) (by (with_reducible repeat (first|refine Ca ?_ _|refine Fa ?_|refine Da ?_ _));refine Bd ?_ zk.out _;(with_reducible repeat (first|refine Ca ?_ _|refine Fa ?_|refine Da ?_ _));refine Bd ?_ zk.out _;(with_reducible repeat (first|refine Ca ?_ _|refine Fa ?_|refine Da ?_ _));refine Bd ?_ zk.out _;(with_reducible repeat (first|refine Ca ?_ _|refine Fa ?_|refine Da ?_ _));refine Bd ?_ zk.out _;(with_reducible repeat (first|refine Ca ?_ _|refine Fa ?_|refine Da ?_ _));refine Bd ?_ zk.out _;(with_reducible repeat (first|refine Ca ?_ _|refine Fa ?_|refine Da ?_ _));refine Bd ?_ zk.out _;(with_reducible repeat (first|refine Ca ?_ _|refine Fa ?_|refine Da ?_ _));refine Bd ?_ zk.out _;(with_reducible repeat (first|refine Ca ?_ _|refine Fa ?_|refine Da ?_ _));exact oa.out) hb);have Ec:=ga.mk (Va (g:=lf) (o:=.cells #[.slice (some zw) ((za Aa jb).f0).length pg,.int .i64 ((za Aa jb).f1),.int .i64 ((za Aa jb).f2),.int .i64 ((za Aa jb).f3),.int .i64 ((za Aa jb).f4)] 59 (0,0)) (by (with_reducible repeat (first|refine Ca ?_ _|refine Fa ?_|refine Da ?_ _));refine Bd ?_ xk.out _;(with_reducible repeat (first|refine Ca ?_ _|refine Fa ?_|refine Da ?_ _));refine Bd ?_ xk.out _;(with_reducible repeat (first|refine Ca ?_ _|refine Fa ?_|refine Da ?_ _));refine Bd ?_ xk.out _;(with_reducible repeat (first|refine Ca ?_ _|refine Fa ?_|refine Da ?_ _));refine Bd ?_ xk.out _;(with_reducible repeat (first|refine Ca ?_ _|refine Fa ?_|refine Da ?_ _));refine Bd ?_ xk.out _;(with_reducible repeat (first|refine Ca ?_ _|refine Fa ?_|refine Da ?_ _));refine Bd ?_ xk.out _;(with_reducible repeat (first|refine Ca ?_ _|refine Fa ?_|refine Da ?_ _));refine Bd ?_ xk.out _;(with_reducible repeat (first|refine Ca ?_ _|refine Fa ?_|refine Da ?_ _));exact Ad.out) hb);have gf:=ga.mk (Va (g:=Wg) (o:=.cells #[.int .i64 ((Ea ((za Aa jb).f0) Xb).f0),.int .i64 ((Ea ((za Aa jb).f0) Xb).f1),.int .i64 ((Ea ((za Aa jb).f0) Xb).f2),.int .i64 ((Ea ((za Aa jb).f0) Xb).f3),.int .i64 ((Ea ((za Aa jb).f0) Xb).f4),.int .i64 ((Ea ((za Aa jb).f0) Xb).f5),.string ((Ea ((za Aa jb).f0) Xb).f6)] 65 (0,0)) (by (with_reducible repeat (first|refine Ca ?_ _|refine Fa ?_|refine Da ?_ _));refine Qd (cs:=#[.int .i64 ((Ea ((za Aa jb).f0) Xb).f0),.int .i64 ((Ea ((za Aa jb).f0) Xb).f1),.int .i64 ((Ea ((za Aa jb).f0) Xb).f2),.int .i64 ((Ea ((za Aa jb).f0) Xb).f3),.int .i64 ((Ea ((za Aa jb).f0) Xb).f4),.int .i64 ((Ea ((za Aa jb).f0) Xb).f5),.string (⟨#[]⟩:ByteArray)]) ?_ 6 _ rfl;(with_reducible repeat (first|refine Ca ?_ _|refine Fa ?_|refine Da ?_ _));refine Qd (cs:=#[.int .i64 ((Ea ((za Aa jb).f0) Xb).f0),.int .i64 ((Ea ((za Aa jb).f0) Xb).f1),.int .i64 ((Ea ((za Aa jb).f0) Xb).f2),.int .i64 ((Ea ((za Aa jb).f0) Xb).f3),.int .i64 ((Ea ((za Aa jb).f0) Xb).f4),.int .i64 0,.string (⟨#[]⟩:ByteArray)]) ?_ 5 _ rfl;(with_reducible repeat (first|refine Ca ?_ _|refine Fa ?_|refine Da ?_ _));refine Qd (cs:=#[.int .i64 ((Ea ((za Aa jb).f0) Xb).f0),.int .i64 ((Ea ((za Aa jb).f0) Xb).f1),.int .i64 ((Ea ((za Aa jb).f0) Xb).f2),.int .i64 ((Ea ((za Aa jb).f0) Xb).f3),.int .i64 0,.int .i64 0,.string (⟨#[]⟩:ByteArray)]) ?_ 4 _ rfl;(with_reducible repeat (first|refine Ca ?_ _|refine Fa ?_|refine Da ?_ _));refine Qd (cs:=#[.int .i64 ((Ea ((za Aa jb).f0) Xb).f0),.int .i64 ((Ea ((za Aa jb).f0) Xb).f1),.int .i64 ((Ea ((za Aa jb).f0) Xb).f2),.int .i64 0,.int .i64 0,.int .i64 0,.string (⟨#[]⟩:ByteArray)]) ?_ 3 _ rfl;(with_reducible repeat (first|refine Ca ?_ _|refine Fa ?_|refine Da ?_ _));refine Qd (cs:=#[.int .i64 ((Ea ((za Aa jb).f0) Xb).f0),.int .i64 ((Ea ((za Aa jb).f0) Xb).f1),.int .i64 0,.int .i64 0,.int .i64 0,.int .i64 0,.string (⟨#[]⟩:ByteArray)]) ?_ 2 _ rfl;(with_reducible repeat (first|refine Ca ?_ _|refine Fa ?_|refine Da ?_ _));refine Qd (cs:=#[.int .i64 ((Ea ((za Aa jb).f0) Xb).f0),.int .i64 0,.int .i64 0,.int .i64 0,.int .i64 0,.int .i64 0,.string (⟨#[]⟩:ByteArray)]) ?_ 1 _ rfl;(with_reducible repeat (first|refine Ca ?_ _|refine Fa ?_|refine Da ?_ _));refine Qd (cs:=#[.int .i64 0,.int .i64 0,.int .i64 0,.int .i64 0,.int .i64 0,.int .i64 0,.string (⟨#[]⟩:ByteArray)]) ?_ 0 _ rfl;(with_reducible repeat (first|refine Ca ?_ _|refine Fa ?_|refine Da ?_ _));exact Oe.out) hb);have Zf:=ga.mk (Ra daI hb);clear Oc oa Ad Oe HB;have Oc:=Eb;have rG:=Fb;have oa:=Ob;have Ad:=Ec;have Oe:=gf;have HB:=Zf;clear Eb Fb Ob Ec gf Zf;(try clear hb);(try clear Uj);(try clear hk);(try clear hi);(try clear Lk);obtain ⟨Jal,aaj,sab⟩:=Kd.od rG.out;subst sab))
             go_loopg [31] k2 (fun kq v31 w'=>∃ (Vo:List Bool) (ak:Int),v31 = .int .i64 ak∧ga (ec.l2 kq Vo Aa (Aa.length:Int) jb ((za Aa jb).f0) (((za Aa jb).f0).length:Int) Xb t110 (t110.length:Int) ak ((za Aa jb).f0) ((za Aa jb).f1) ((za Aa jb).f2) ((za Aa jb).f3) ((za Aa jb).f4) ((Ea ((za Aa jb).f0) Xb).f0) ((Ea ((za Aa jb).f0) Xb).f1) ((Ea ((za Aa jb).f0) Xb).f2) ((Ea ((za Aa jb).f0) Xb).f3) ((Ea ((za Aa jb).f0) Xb).f4) ((Ea ((za Aa jb).f0) Xb).f5) ((Ea ((za Aa jb).f0) Xb).f6)=some r)∧ga (kq ≤ k2)∧ga (Kd.R Kd.bool 4 w' w.heap.size (fun _=>True) wm Vo)∧ga (Kd.R (Kd.int .i64) 3 w' w.heap.size (fun _=>True) (.slice Jal t110.length aaj) t110)∧ga (w'.heap[ya]? = some (.cells #[(.slice Ya Qa.length Za),.int .i64 Ja,.int .i64 Ga,.int .i64 Ia,(.slice (some wh) Aa.length Cb)] 30 (0,0)))∧ga (w'.heap[lf]? = some (.cells #[(.slice (some zw) ((za Aa jb).f0).length pg),.int .i64 ((za Aa jb).f1),.int .i64 ((za Aa jb).f2),.int .i64 ((za Aa jb).f3),.int .i64 ((za Aa jb).f4)] 59 (0,0)))∧ga (w'.heap[Wg]? = some (.cells #[.int .i64 ((Ea ((za Aa jb).f0) Xb).f0),.int .i64 ((Ea ((za Aa jb).f0) Xb).f1),.int .i64 ((Ea ((za Aa jb).f0) Xb).f2),.int .i64 ((Ea ((za Aa jb).f0) Xb).f3),.int .i64 ((Ea ((za Aa jb).f0) Xb).f4),.int .i64 ((Ea ((za Aa jb).f0) Xb).f5),.string ((Ea ((za Aa jb).f0) Xb).f6)] 65 (0,0)))∧ga (Below w.heap.size w w'))
             case atStart=>exact ⟨(Bp),(0),AaH,H',⟨Nat.le_refl _⟩,⟨HaH⟩,⟨by (with_reducible repeat (first|apply Kd.Xa|apply Kd.Wa|apply Kd.gb));exact rG.out⟩,⟨zaH⟩,⟨naI⟩,⟨by (with_reducible repeat (first|refine Ca ?_ _|refine Fa ?_|refine Da ?_ _));exact Oe.out⟩,⟨eaI⟩⟩
             case round =>
              clear H'
              try clear c1
              try clear p1
              try clear q1
              try clear hx1
              try clear c2
              try clear vt
              try clear xw
              try clear p2
              try clear c3
              try clear Xh
              try clear br
              try clear c6
              try clear c8
              try clear c9
              try clear Pv
              try clear Ts
              try clear Bt
              try clear fI
              try clear cI
              try clear MW
              try clear zB
              try clear vM
              try clear KD
              try clear vD
              try clear yB
              try clear uM
              try clear Baj
              try clear yt
              try clear Hp
              try clear tr
              try clear Hs
              try clear ij
              try clear fj
              try clear ej
              try clear cj
              try clear aj
              try clear Tu
              try clear Su
              try clear Ru
              try clear Qu
              try clear Pu
              try clear CE
              try clear AE
              try clear GC
              try clear FC
              try clear EC
              try clear DC
              try clear CC
              try clear Rn
              try clear Qn
              try clear Pn
              try clear Nn
              try clear Mn
              try clear Zi
              try clear Yi
              try clear Xi
              try clear Wi
              try clear Vi
              try clear ru
              try clear qu
              try clear ou
              try clear nu
              try clear lu
              try clear gE
              try clear fE
              try clear tC
              try clear sC
              try clear rC
              try clear qC
              try clear oC
              try clear sn
              try clear qn
              try clear pn
              try clear kn
              try clear jn
              try clear Xf
              try clear Si
              try clear Ri
              try clear Qi
              try clear Oi
              try clear Ut
              try clear BI
              try clear zI
              try clear yI
              try clear xI
              try clear wI
              try clear vI
              try clear p1
              try clear fI
              try clear Mj
              try clear GD
              try clear p2
              try clear q1
              try clear cI
              try clear Lj
              try clear FD
              (try clear HA);(try clear Aq);(try clear Oc);(try clear kr);(try clear oa);(try clear Ad);(try clear Oe);(try clear HB);obtain ⟨Vo,ak,rfl,HA,Aq,Oc,kr,oa,Ad,Oe,HB⟩:=hrel;cases gk with
              | zero=>exact absurd HA.out (by simp [ec.l2])
              | succ k3 =>
               have H:=HA.out;clear HA;simp only [ec.l2] at H
               by_cases JD:ak < (t110.length:Int)
               ·rw [if_pos JD] at H;have rM:decide (ak < (t110.length:Int))=true:=decide_eq_true JD;clear JD
                by_cases Jz:0 ≤ ak
                ·rw [if_pos Jz] at H;have BH:decide (0 ≤ ak)=true:=decide_eq_true Jz;clear Jz
                 by_cases PE:ak < (t110.length:Int)
                 ·rw [if_pos PE] at H;have qM:decide (ak < (t110.length:Int))=true:=decide_eq_true PE;clear PE
                  by_cases dN:0 ≤ (rd t110 ak)
                  ·rw [if_pos dN] at H;have X8:decide (0 ≤ (rd t110 ak))=true:=decide_eq_true dN;clear dN
                   by_cases bL:(rd t110 ak) < (Vo.length:Int)
                   ·rw [if_pos bL] at H;have tD:decide ((rd t110 ak) < (Vo.length:Int))=true:=decide_eq_true bL;clear bL;obtain ⟨Ll,fl⟩:∃ y_:List Bool,y_=(Vo.set ((rd t110 ak):Int).toNat true):=⟨_,rfl⟩;replace H:(ec.l2 k3 Ll Aa (Aa.length:Int) jb ((za Aa jb).f0) (((za Aa jb).f0).length:Int) Xb t110 (t110.length:Int) (wrap64 (ak + 1)) ((za Aa jb).f0) ((za Aa jb).f1) ((za Aa jb).f2) ((za Aa jb).f3) ((za Aa jb).f4) ((Ea ((za Aa jb).f0) Xb).f0) ((Ea ((za Aa jb).f0) Xb).f1) ((Ea ((za Aa jb).f0) Xb).f2) ((Ea ((za Aa jb).f0) Xb).f3) ((Ea ((za Aa jb).f0) Xb).f4) ((Ea ((za Aa jb).f0) Xb).f5) ((Ea ((za Aa jb).f0) Xb).f6))=some r:=by first|(rw [fl];with_reducible exact H)|(have Ed:=(Option.bind_some _ _).symm.trans H;rw [fl];with_reducible exact Ed)|(have Ed:=(Option.bind_some _ _).symm.trans H;with_reducible exact Ed)|with_reducible exact H|(rw [fl];exact H)|exact H
                    have Cw:=ga.mk fl;clear fl;have H':=ga.mk H;clear H;have Nv:0 ≤ (ak:Int):=Ua;have Lv:ak < (t110.length:Int):=Ua;obtain ⟨yM,vO,Kr⟩:=Kd.Bi (Kd.Rb kr.out).2.2 ak Nv Lv;cases vO;replace Nv:=eq_true Nv;replace Lv:=eq_true Lv;have p30:0 ≤ ((rd t110 ak):Int):=Ua;have q30:((rd t110 ak):Int) < ((Vo.length:Int):Int):=Ua;obtain ⟨R5,VG,eV,Iai,eaw,JaE,oal⟩:=Kd.Xj Oc.out (by omega);(first|cases eV|(injection eV with qj sw tw;(first|subst qj|(injection qj with qj;subst qj));subst tw;clear sw));have Rax:=ga.mk Iai;have RaF:=ga.mk oal;clear Iai eaw oal;obtain ⟨tau,Eav⟩:=Kd.Yh false Oc.out ((rd t110 ak):Int) p30 q30;replace p30:=eq_true p30;replace q30:=eq_true q30;have Pac:=Kd.Ml Oc.out ((rd t110 ak):Int) true;go_wp2_with (first|((with_reducible refine Ke (t:=4) (p:=37) rfl ?_);refine me (t:=4) (p:=37) (v:=?Fat) (w1:=(wr.setCell ⟨R5,((rd t110 ak):Int).toNat,none⟩ (.bool true))) ?hg ?ho ?hn ?hr ?_;(case ho=>rfl);(case hg=>rfl);(case hn=>rfl);(case hr=>first|(go_simp;done)|(go_simp;rfl));intro XM hw;have hg:wr.grownBy XM (some R5):=(by rw [hw];exact Pac.2);have Il:Kd.R Kd.bool 4 XM w.heap.size (fun _=>True) (.slice (some ⟨R5,0,none⟩) Vo.length VG) Ll:=(by rw [hw,Cw.out];exact Pac.1);clear Pac;have Eb:=ga.mk (Il);have Fb:=ga.mk (Kd.mj (v:=(.slice (some ⟨R5,0,none⟩) Vo.length VG)) qaI (Kd.mh Oc.out) (by decide) hg);have Ob:=ga.mk (Vc (g:=ya) (o:=.cells #[.slice Ya Qa.length Za,.int .i64 Ja,.int .i64 Ga,.int .i64 Ia,.slice (some wh) Aa.length Cb] 30 (0,0)) vaH hg (Kd.tj Oc.out oa.out (by decide)));have Ec:=ga.mk (Vc (g:=lf) (o:=.cells #[.slice (some zw) ((za Aa jb).f0).length pg,.int .i64 ((za Aa jb).f1),.int .i64 ((za Aa jb).f2),.int .i64 ((za Aa jb).f3),.int .i64 ((za Aa jb).f4)] 59 (0,0)) VaH hg (Kd.tj Oc.out Ad.out (by decide)));have gf:=ga.mk (Vc (g:=Wg) (o:=.cells #[.int .i64 ((Ea ((za Aa jb).f0) Xb).f0),.int .i64 ((Ea ((za Aa jb).f0) Xb).f1),.int .i64 ((Ea ((za Aa jb).f0) Xb).f2),.int .i64 ((Ea ((za Aa jb).f0) Xb).f3),.int .i64 ((Ea ((za Aa jb).f0) Xb).f4),.int .i64 ((Ea ((za Aa jb).f0) Xb).f5),.string ((Ea ((za Aa jb).f0) Xb).f6)] 65 (0,0)) maI hg (Kd.tj Oc.out Oe.out (by decide)));have Zf:=ga.mk ((by rw [hw];exact ua (HB.out) Rax.out:Below w.heap.size w XM));clear Oc kr oa Ad Oe HB;have Oc:=Eb;have kr:=Fb;have oa:=Ob;have Ad:=Ec;have Oe:=gf;have HB:=Zf;clear Eb Fb Ob Ec gf Zf hg hw Il))
                    go_roundg k3
                    case measure=>have:=wg.out;have:=zl.out;have:=Aq.out;omega
                    case rel=>exact ⟨(Ll),(wrap64 (ak + 1)),AaH,H',⟨by have:=wg.out;have:=zl.out;have:=Aq.out;omega⟩,⟨HaH⟩,⟨by (with_reducible repeat (first|apply Kd.Xa|apply Kd.Wa|apply Kd.gb));exact kr.out⟩,⟨zaH⟩,⟨naI⟩,⟨by (with_reducible repeat (first|refine Ca ?_ _|refine Fa ?_|refine Da ?_ _));exact Oe.out⟩,⟨eaI⟩⟩
                   ·rw [if_neg bL] at H;exact absurd H (by simp)
                  ·rw [if_neg dN] at H;exact absurd H (by simp)
                 ·rw [if_neg PE] at H;exact absurd H (by simp)
                ·rw [if_neg Jz] at H;exact absurd H (by simp)
               ·rw [if_neg JD] at H;have rM:decide (ak < (t110.length:Int))=false:=decide_eq_false JD;clear JD;replace H:=Option.bind_eq_some_iff.mp H;obtain ⟨t115,rZ,H⟩:=H;replace H:(if t115 ≥ 0 then (if 0 ≤ t115 then (if t115 < (Vo.length:Int) then (ec.l1 k3 (Vo.set (t115:Int).toNat true) Aa (Aa.length:Int) jb ((za Aa jb).f0) (((za Aa jb).f0).length:Int) (wrap64 (Xb + 1)) ((za Aa jb).f0) ((za Aa jb).f1) ((za Aa jb).f2) ((za Aa jb).f3) ((za Aa jb).f4)) else (none)) else (none)) else (ec.l1 k3 Vo Aa (Aa.length:Int) jb ((za Aa jb).f0) (((za Aa jb).f0).length:Int) (wrap64 (Xb + 1)) ((za Aa jb).f0) ((za Aa jb).f1) ((za Aa jb).f2) ((za Aa jb).f3) ((za Aa jb).f4)))=some r:=H;have A33:=ga.mk rZ;clear rZ
                by_cases Iz:t115 ≥ 0
                ·rw [if_pos Iz] at H;have AH:decide (0 ≤ t115)=true:=decide_eq_true Iz;clear Iz
                 by_cases UB:0 ≤ t115
                 ·rw [if_pos UB] at H;have wT:decide (0 ≤ t115)=true:=decide_eq_true UB;clear UB
                  by_cases wK:t115 < (Vo.length:Int)
                  ·rw [if_pos wK] at H;have lY:decide (t115 < (Vo.length:Int))=true:=decide_eq_true wK;clear wK;obtain ⟨qU,mw⟩:∃ y_:List Bool,y_=(Vo.set (t115:Int).toNat true):=⟨_,rfl⟩;replace H:(ec.l1 k3 qU Aa (Aa.length:Int) jb ((za Aa jb).f0) (((za Aa jb).f0).length:Int) (wrap64 (Xb + 1)) ((za Aa jb).f0) ((za Aa jb).f1) ((za Aa jb).f2) ((za Aa jb).f3) ((za Aa jb).f4))=some r:=by first|(rw [mw];with_reducible exact H)|(have Ed:=(Option.bind_some _ _).symm.trans H;rw [mw];with_reducible exact Ed)|(have Ed:=(Option.bind_some _ _).symm.trans H;with_reducible exact Ed)|with_reducible exact H|(rw [mw];exact H)|exact H
                   have RY:=ga.mk mw;clear mw;have H':=ga.mk H;clear H;have aaf:=bD.out;have Lae:=zk.out;have X7:=aD.out;have U7:=xk.out;have Ox:wr.cell? ⟨Wg,0,none⟩=some (.int .i64 ((Ea ((za Aa jb).f0) Xb).f0)):=(ia Oe.out 0).trans rfl;have Nx:wr.cell? ⟨Wg,1,none⟩=some (.int .i64 ((Ea ((za Aa jb).f0) Xb).f1)):=(ia Oe.out 1).trans rfl;have Mx:wr.cell? ⟨Wg,2,none⟩=some (.int .i64 ((Ea ((za Aa jb).f0) Xb).f2)):=(ia Oe.out 2).trans rfl;have Lx:wr.cell? ⟨Wg,3,none⟩=some (.int .i64 ((Ea ((za Aa jb).f0) Xb).f3)):=(ia Oe.out 3).trans rfl;have Kx:wr.cell? ⟨Wg,4,none⟩=some (.int .i64 ((Ea ((za Aa jb).f0) Xb).f4)):=(ia Oe.out 4).trans rfl;have SJ:wr.cell? ⟨Wg,5,none⟩=some (.int .i64 ((Ea ((za Aa jb).f0) Xb).f5)):=(ia Oe.out 5).trans rfl;have RJ:wr.cell? ⟨Wg,6,none⟩=some (.string ((Ea ((za Aa jb).f0) Xb).f6)):=(ia Oe.out 6).trans rfl;have Vw:=aa Oe.out 0;have Uw:=aa Oe.out 1;have Tw:=aa Oe.out 2;have Sw:=aa Oe.out 3;have Rw:=aa Oe.out 4;have cJ:=aa Oe.out 5;have bJ:=aa Oe.out 6;go_wp2_with (first|((with_reducible refine yb (f:=87) rfl ?_);refine Pc (some 40) rfl rfl Try.func87 (by kernel_rfl) rfl #[.agg #[.int .i64 ((Ea ((za Aa jb).f0) Xb).f0),.int .i64 ((Ea ((za Aa jb).f0) Xb).f1),.int .i64 ((Ea ((za Aa jb).f0) Xb).f2),.int .i64 ((Ea ((za Aa jb).f0) Xb).f3),.int .i64 ((Ea ((za Aa jb).f0) Xb).f4),.int .i64 ((Ea ((za Aa jb).f0) Xb).f5),.string ((Ea ((za Aa jb).f0) Xb).f6)]] rfl waH ?_;(with_reducible refine (th.calls ((Ea ((za Aa jb).f0) Xb).f0) ((Ea ((za Aa jb).f0) Xb).f1) ((Ea ((za Aa jb).f0) Xb).f2) ((Ea ((za Aa jb).f0) Xb).f3) ((Ea ((za Aa jb).f0) Xb).f4) ((Ea ((za Aa jb).f0) Xb).f5) ((Ea ((za Aa jb).f0) Xb).f6) t115 _ A33.out).mono ?_);rintro e jD ⟨rfl,hb⟩;refine ⟨_,rfl,?_⟩;have Eb:=ga.mk (Kd.ld NaH hb);have Fb:=ga.mk (Kd.ld qaI hb);have Ob:=ga.mk (Va (g:=ya) (o:=.cells #[.slice Ya Qa.length Za,.int .i64 Ja,.int .i64 Ga,.int .i64 Ia,.slice (some wh) Aa.length Cb] 30 (0,0)) vaH hb);have Ec:=ga.mk (Va (g:=lf) (o:=.cells #[.slice (some zw) ((za Aa jb).f0).length pg,.int .i64 ((za Aa jb).f1),.int .i64 ((za Aa jb).f2),.int .i64 ((za Aa jb).f3),.int .i64 ((za Aa jb).f4)] 59 (0,0)) VaH hb);have gf:=ga.mk (Va (g:=Wg) (o:=.cells #[.int .i64 ((Ea ((za Aa jb).f0) Xb).f0),.int .i64 ((Ea ((za Aa jb).f0) Xb).f1),.int .i64 ((Ea ((za Aa jb).f0) Xb).f2),.int .i64 ((Ea ((za Aa jb).f0) Xb).f3),.int .i64 ((Ea ((za Aa jb).f0) Xb).f4),.int .i64 ((Ea ((za Aa jb).f0) Xb).f5),.string ((Ea ((za Aa jb).f0) Xb).f6)] 65 (0,0)) maI hb);have Zf:=ga.mk (Ra daI hb);clear Oc kr oa Ad Oe HB;have Oc:=Eb;have kr:=Fb;have oa:=Ob;have Ad:=Ec;have Oe:=gf;have HB:=Zf;clear Eb Fb Ob Ec gf Zf;(try clear hb);(try clear Uj);(try clear hk);(try clear hi);have p37:0 ≤ (t115:Int):=Ua;have q37:(t115:Int) < ((Vo.length:Int):Int):=Ua;obtain ⟨Q5,zab,T5,Hai,daw,IaE,nal⟩:=Kd.Xj Oc.out (by omega);(first|cases T5|(injection T5 with qj sw tw;(first|subst qj|(injection qj with qj;subst qj));subst tw;clear sw));have Qax:=ga.mk Hai;have QaF:=ga.mk nal;clear Hai daw nal;obtain ⟨sau,Dav⟩:=Kd.Yh false Oc.out (t115:Int) p37 q37;replace p37:=eq_true p37;replace q37:=eq_true q37;obtain ⟨Kay,Gay⟩:=Kd.Yh false Oc.out (t115:Int) (Ua) (Ua);have Nac:=Kd.Ml Oc.out (t115:Int) true)|((with_reducible refine Ke (t:=4) (p:=45) rfl ?_);refine me (t:=4) (p:=45) (v:=?Dat) (w1:=(jD.setCell ⟨Q5,(t115:Int).toNat,none⟩ (.bool true))) ?hg ?ho ?hn ?hr ?_;(case ho=>rfl);(case hg=>rfl);(case hn=>rfl);(case hr=>first|(go_simp;done)|(go_simp;rfl));intro w43 hw;have hg:jD.grownBy w43 (some Q5):=(by rw [hw];exact Nac.2);have Il:Kd.R Kd.bool 4 w43 w.heap.size (fun _=>True) (.slice (some ⟨Q5,0,none⟩) Vo.length zab) qU:=(by rw [hw,RY.out];exact Nac.1);clear Nac;have Eb:=ga.mk (Il);have Fb:=ga.mk (Kd.mj (v:=(.slice (some ⟨Q5,0,none⟩) Vo.length zab)) qaI (Kd.mh Oc.out) (by decide) hg);have Ob:=ga.mk (Vc (g:=ya) (o:=.cells #[.slice Ya Qa.length Za,.int .i64 Ja,.int .i64 Ga,.int .i64 Ia,.slice (some wh) Aa.length Cb] 30 (0,0)) vaH hg (Kd.tj Oc.out oa.out (by decide)));have Ec:=ga.mk (Vc (g:=lf) (o:=.cells #[.slice (some zw) ((za Aa jb).f0).length pg,.int .i64 ((za Aa jb).f1),.int .i64 ((za Aa jb).f2),.int .i64 ((za Aa jb).f3),.int .i64 ((za Aa jb).f4)] 59 (0,0)) VaH hg (Kd.tj Oc.out Ad.out (by decide)));have gf:=ga.mk (Vc (g:=Wg) (o:=.cells #[.int .i64 ((Ea ((za Aa jb).f0) Xb).f0),.int .i64 ((Ea ((za Aa jb).f0) Xb).f1),.int .i64 ((Ea ((za Aa jb).f0) Xb).f2),.int .i64 ((Ea ((za Aa jb).f0) Xb).f3),.int .i64 ((Ea ((za Aa jb).f0) Xb).f4),.int .i64 ((Ea ((za Aa jb).f0) Xb).f5),.string ((Ea ((za Aa jb).f0) Xb).f6)] 65 (0,0)) maI hg (Kd.tj Oc.out Oe.out (by decide)));have Zf:=ga.mk ((by rw [hw];exact ua (HB.out) Qax.out:Below w.heap.size w w43));clear Oc kr oa Ad Oe HB;have Oc:=Eb;have kr:=Fb;have oa:=Ob;have Ad:=Ec;have Oe:=gf;have HB:=Zf;clear Eb Fb Ob Ec gf Zf hg hw Il))
                   go_roundg k3
                   case measure=>have:=wg.out;have:=zl.out;have:=Aq.out;omega
                   case rel=>exact ⟨(qU),(wrap64 (Xb + 1)),AaH,H',⟨by have:=wg.out;have:=zl.out;have:=Aq.out;omega⟩,⟨HaH⟩,⟨zaH⟩,⟨naI⟩,⟨eaI⟩⟩
                  ·rw [if_neg wK] at H;exact absurd H (by simp)
                 ·rw [if_neg UB] at H;exact absurd H (by simp)
                ·rw [if_neg Iz] at H;have AH:decide (0 ≤ t115)=false:=decide_eq_false Iz;clear Iz;have H':=ga.mk H;clear H;have GaA:=bD.out;have Zaz:=zk.out;have FaA:=aD.out;have Yaz:=xk.out;have fS:wr.cell? ⟨Wg,0,none⟩=some (.int .i64 ((Ea ((za Aa jb).f0) Xb).f0)):=(ia Oe.out 0).trans rfl;have eS:wr.cell? ⟨Wg,1,none⟩=some (.int .i64 ((Ea ((za Aa jb).f0) Xb).f1)):=(ia Oe.out 1).trans rfl;have dS:wr.cell? ⟨Wg,2,none⟩=some (.int .i64 ((Ea ((za Aa jb).f0) Xb).f2)):=(ia Oe.out 2).trans rfl;have cS:wr.cell? ⟨Wg,3,none⟩=some (.int .i64 ((Ea ((za Aa jb).f0) Xb).f3)):=(ia Oe.out 3).trans rfl;have bS:wr.cell? ⟨Wg,4,none⟩=some (.int .i64 ((Ea ((za Aa jb).f0) Xb).f4)):=(ia Oe.out 4).trans rfl;have J4:wr.cell? ⟨Wg,5,none⟩=some (.int .i64 ((Ea ((za Aa jb).f0) Xb).f5)):=(ia Oe.out 5).trans rfl;have I4:wr.cell? ⟨Wg,6,none⟩=some (.string ((Ea ((za Aa jb).f0) Xb).f6)):=(ia Oe.out 6).trans rfl;have MQ:=aa Oe.out 0;have LQ:=aa Oe.out 1;have KQ:=aa Oe.out 2;have JQ:=aa Oe.out 3;have IQ:=aa Oe.out 4;have J2:=aa Oe.out 5;have I2:=aa Oe.out 6;go_wp2_with (first|((with_reducible refine yb (f:=87) rfl ?_);refine Pc (some 40) rfl rfl Try.func87 (by kernel_rfl) rfl #[.agg #[.int .i64 ((Ea ((za Aa jb).f0) Xb).f0),.int .i64 ((Ea ((za Aa jb).f0) Xb).f1),.int .i64 ((Ea ((za Aa jb).f0) Xb).f2),.int .i64 ((Ea ((za Aa jb).f0) Xb).f3),.int .i64 ((Ea ((za Aa jb).f0) Xb).f4),.int .i64 ((Ea ((za Aa jb).f0) Xb).f5),.string ((Ea ((za Aa jb).f0) Xb).f6)]] rfl waH ?_;(with_reducible refine (th.calls ((Ea ((za Aa jb).f0) Xb).f0) ((Ea ((za Aa jb).f0) Xb).f1) ((Ea ((za Aa jb).f0) Xb).f2) ((Ea ((za Aa jb).f0) Xb).f3) ((Ea ((za Aa jb).f0) Xb).f4) ((Ea ((za Aa jb).f0) Xb).f5) ((Ea ((za Aa jb).f0) Xb).f6) t115 _ A33.out).mono ?_);rintro e w47 ⟨rfl,hb⟩;refine ⟨_,rfl,?_⟩;have Eb:=ga.mk (Kd.ld NaH hb);have Fb:=ga.mk (Kd.ld qaI hb);have Ob:=ga.mk (Va (g:=ya) (o:=.cells #[.slice Ya Qa.length Za,.int .i64 Ja,.int .i64 Ga,.int .i64 Ia,.slice (some wh) Aa.length Cb] 30 (0,0)) vaH hb);have Ec:=ga.mk (Va (g:=lf) (o:=.cells #[.slice (some zw) ((za Aa jb).f0).length pg,.int .i64 ((za Aa jb).f1),.int .i64 ((za Aa jb).f2),.int .i64 ((za Aa jb).f3),.int .i64 ((za Aa jb).f4)] 59 (0,0)) VaH hb);have gf:=ga.mk (Va (g:=Wg) (o:=.cells #[.int .i64 ((Ea ((za Aa jb).f0) Xb).f0),.int .i64 ((Ea ((za Aa jb).f0) Xb).f1),.int .i64 ((Ea ((za Aa jb).f0) Xb).f2),.int .i64 ((Ea ((za Aa jb).f0) Xb).f3),.int .i64 ((Ea ((za Aa jb).f0) Xb).f4),.int .i64 ((Ea ((za Aa jb).f0) Xb).f5),.string ((Ea ((za Aa jb).f0) Xb).f6)] 65 (0,0)) maI hb);have Zf:=ga.mk (Ra daI hb);clear Oc kr oa Ad Oe HB;have Oc:=Eb;have kr:=Fb;have oa:=Ob;have Ad:=Ec;have Oe:=gf;have HB:=Zf;clear Eb Fb Ob Ec gf Zf;(try clear hb);(try clear Uj);(try clear hk);(try clear hi)))
                 go_roundg k3
                 case measure=>have:=wg.out;have:=zl.out;have:=Aq.out;omega
                 case rel=>exact ⟨(Vo),(wrap64 (Xb + 1)),AaH,H',⟨by have:=wg.out;have:=zl.out;have:=Aq.out;omega⟩,⟨HaH⟩,⟨zaH⟩,⟨naI⟩,⟨eaI⟩⟩
            ·rw [if_neg yt] at H;exact absurd H (by simp)
           ·rw [if_neg uM] at H;exact absurd H (by simp)
          ·rw [if_neg vD] at H;have yB:decide (Xb < (((za Aa jb).f0).length:Int))=false:=decide_eq_false vD;clear vD
           by_cases AO:((za Aa jb).f1)=0
           ·rw [if_pos AO] at H;have fY:(((za Aa jb).f1) == 0)=true:=beq_iff_eq.mpr AO;have eY:(((za Aa jb).f1) != 0)=false:=bne_eq_false_iff_eq.mpr AO;clear AO;have H':=ga.mk H;clear H;have Yae:=xo.out;have Jae:=Lf.out;have ZR:wr.cell? ⟨lf,0,none⟩=some (.slice Bh ((za Aa jb).f0).length pg):=(ia Ad.out 0).trans rfl;have YR:wr.cell? ⟨lf,1,none⟩=some (.int .i64 ((za Aa jb).f1)):=(ia Ad.out 1).trans rfl;have XR:wr.cell? ⟨lf,2,none⟩=some (.int .i64 ((za Aa jb).f2)):=(ia Ad.out 2).trans rfl;have WR:wr.cell? ⟨lf,3,none⟩=some (.int .i64 ((za Aa jb).f3)):=(ia Ad.out 3).trans rfl;have VR:wr.cell? ⟨lf,4,none⟩=some (.int .i64 ((za Aa jb).f4)):=(ia Ad.out 4).trans rfl;have GQ:=aa Ad.out 0;have FQ:=aa Ad.out 1;have DQ:=aa Ad.out 2;have CQ:=aa Ad.out 3;have BQ:=aa Ad.out 4;go_wp2
            go_roundg k2
            case measure=>have:=wg.out;have:=zl.out;omega
            case rel=>exact ⟨(Bp),(wrap64 (jb + 1)),AaH,H',⟨by have:=wg.out;have:=zl.out;omega⟩,⟨HaH⟩,⟨zaH⟩,⟨aaI⟩⟩
           ·rw [if_neg AO] at H;have fY:(((za Aa jb).f1) == 0)=false:=beq_eq_false_iff_ne.mpr AO;have eY:(((za Aa jb).f1) != 0)=true:=bne_iff_ne.mpr AO
            by_cases c51:0 ≤ ((za Aa jb).f2)
            ·rw [if_pos c51] at H;have jaC:decide (0 ≤ ((za Aa jb).f2))=true:=decide_eq_true c51;clear c51
             by_cases Z5:((za Aa jb).f2) < (Bp.length:Int)
             ·rw [if_pos Z5] at H;have uaj:decide (((za Aa jb).f2) < (Bp.length:Int))=true:=decide_eq_true Z5;clear Z5;obtain ⟨YE,Zo⟩:∃ y_:List Bool,y_=(Bp.set (((za Aa jb).f2):Int).toNat true):=⟨_,rfl⟩;replace H:(ec.l0 k2 YE Aa (Aa.length:Int) (wrap64 (jb + 1)))=some r:=by first|(rw [Zo];with_reducible exact H)|(have Ed:=(Option.bind_some _ _).symm.trans H;rw [Zo];with_reducible exact Ed)|(have Ed:=(Option.bind_some _ _).symm.trans H;with_reducible exact Ed)|with_reducible exact H|(rw [Zo];exact H)|exact H
              have LH:=ga.mk Zo;clear Zo;have H':=ga.mk H;clear H;have BaA:=xo.out;have Vaz:=Lf.out;have Y3:wr.cell? ⟨lf,0,none⟩=some (.slice Bh ((za Aa jb).f0).length pg):=(ia Ad.out 0).trans rfl;have X3:wr.cell? ⟨lf,1,none⟩=some (.int .i64 ((za Aa jb).f1)):=(ia Ad.out 1).trans rfl;have W3:wr.cell? ⟨lf,2,none⟩=some (.int .i64 ((za Aa jb).f2)):=(ia Ad.out 2).trans rfl;have V3:wr.cell? ⟨lf,3,none⟩=some (.int .i64 ((za Aa jb).f3)):=(ia Ad.out 3).trans rfl;have U3:wr.cell? ⟨lf,4,none⟩=some (.int .i64 ((za Aa jb).f4)):=(ia Ad.out 4).trans rfl;have Y1:=aa Ad.out 0;have X1:=aa Ad.out 1;have V1:=aa Ad.out 2;have U1:=aa Ad.out 3;have T1:=aa Ad.out 4;have p53:0 ≤ (((za Aa jb).f2):Int):=Ua;have q53:(((za Aa jb).f2):Int) < ((Bp.length:Int):Int):=Ua;obtain ⟨eab,Wai,S5,Dai,Zav,EaE,kal⟩:=Kd.Xj Oc.out (by omega);(first|cases S5|(injection S5 with qj sw tw;(first|subst qj|(injection qj with qj;subst qj));subst tw;clear sw));have Nax:=ga.mk Dai;have MaF:=ga.mk kal;clear Dai Zav kal;obtain ⟨qau,Aav⟩:=Kd.Yh false Oc.out (((za Aa jb).f2):Int) p53 q53;replace p53:=eq_true p53;replace q53:=eq_true q53;have Lac:=Kd.Ml Oc.out (((za Aa jb).f2):Int) true;go_wp2_with (first|((with_reducible refine Ke (t:=4) (p:=53) rfl ?_);refine me (t:=4) (p:=53) (v:=?Bat) (w1:=(wr.setCell ⟨eab,(((za Aa jb).f2):Int).toNat,none⟩ (.bool true))) ?hg ?ho ?hn ?hr ?_;(case ho=>rfl);(case hg=>rfl);(case hn=>rfl);(case hr=>first|(go_simp;done)|(go_simp;rfl));intro w57 hw;have hg:wr.grownBy w57 (some eab):=(by rw [hw];exact Lac.2);have Il:Kd.R Kd.bool 4 w57 w.heap.size (fun _=>True) (.slice (some ⟨eab,0,none⟩) Bp.length Wai) YE:=(by rw [hw,LH.out];exact Lac.1);clear Lac;have Eb:=ga.mk (Il);have Fb:=ga.mk (Vc (g:=ya) (o:=.cells #[.slice Ya Qa.length Za,.int .i64 Ja,.int .i64 Ga,.int .i64 Ia,.slice (some wh) Aa.length Cb] 30 (0,0)) vaH hg (Kd.tj Oc.out oa.out (by decide)));have Ob:=ga.mk (Vc (g:=lf) (o:=.cells #[.slice Bh ((za Aa jb).f0).length pg,.int .i64 ((za Aa jb).f1),.int .i64 ((za Aa jb).f2),.int .i64 ((za Aa jb).f3),.int .i64 ((za Aa jb).f4)] 59 (0,0)) VaH hg (Kd.tj Oc.out Ad.out (by decide)));have Ec:=ga.mk ((by rw [hw];exact ua (HB.out) Nax.out:Below w.heap.size w w57));clear Oc oa Ad HB;have Oc:=Eb;have oa:=Fb;have Ad:=Ob;have HB:=Ec;clear Eb Fb Ob Ec hg hw Il))
              go_roundg k2
              case measure=>have:=wg.out;have:=zl.out;omega
              case rel=>exact ⟨(YE),(wrap64 (jb + 1)),AaH,H',⟨by have:=wg.out;have:=zl.out;omega⟩,⟨HaH⟩,⟨zaH⟩,⟨aaI⟩⟩
             ·rw [if_neg Z5] at H;exact absurd H (by simp)
            ·rw [if_neg c51] at H;exact absurd H (by simp)
       ·rw [if_neg zB] at H;exact absurd H (by simp)
      ·rw [if_neg Ts] at H;exact absurd H (by simp)
     ·rw [if_neg c9] at H;have Pv:decide (jb < (Aa.length:Int))=false:=decide_eq_false c9;clear c9;obtain rfl:=Option.some.inj H;go_wp2;go_ret;exact ⟨_,by first|rfl|(simp [Pa,Oa] <;> rfl)|(simp [*,Pa,Oa] <;> rfl),HaH,xaH⟩
  ·rw [if_neg c3] at H;exact absurd H (by simp)
 ·rw [if_neg c2] at H;exact absurd H (by simp)
end Go.Proofs.Ytkigbdceceeenaa.P
