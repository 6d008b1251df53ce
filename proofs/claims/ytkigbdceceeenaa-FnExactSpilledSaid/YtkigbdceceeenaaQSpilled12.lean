import Derived.Test.YtkigbdceceeenaaQSpilled1
import Derived.Test.YtkigbdceceeenaaQSpilled8
import Derived.Test.YtkigbdceceeenaaQSpilled11
import Derived.Test.YtkigbdceceeenaaQSpilled2
import Derived.Test.YtkigbdceceeenaaQSpilled10
import Derived.Test.YtkigbdceceeenaaQSpilled7
import Derived.Test.YtkigbdceceeenaaQSpilled9
set_option maxHeartbeats 8000000
set_option maxRecDepth 100000
section
namespace Go.Proofs.Ytkigbdceceeenaa.P
open Go.RowKit Go.Proofs.Ma.Wb Go.Proofs.Ma.Jd Go.Proofs.Ma.Fe
set_option linter.unusedVariables false
set_option linter.unusedSimpArgs false
attribute [local go_sem] Gi Xi Jj ak Sh Rh Yi Wi
mutual
def fc.l0:Nat→List Bool→List (He)→Int→Int→Option (List Bool)
 | 0,_,_,_,_=>none
 | k + 1,x3,vB,qD,kz=>if kz < qD then (if 0 ≤ kz then (if kz < (vB.length:Int) then (fc.l1 k x3 vB qD kz ((za vB kz).f0) (((za vB kz).f0).length:Int) 0 ((za vB kz).f0) ((za vB kz).f1) ((za vB kz).f2) ((za vB kz).f3) ((za vB kz).f4)) else (none)) else (none)) else (some x3)
def fc.l1:Nat→List Bool→List (He)→Int→Int→List (Le)→Int→Int→List (Le)→Int→Int→Int→Int→Option (List Bool)
 | 0,_,_,_,_,_,_,_,_,_,_,_,_=>none
 | k + 1,x3,vB,qD,kz,dw,x23,oD,pz,Fw,Yr,oz,mz=>if oD < x23 then (if 0 ≤ oD then (if oD < (dw.length:Int) then ((Gd.f k ((Ea dw oD).f0) ((Ea dw oD).f1) ((Ea dw oD).f2) ((Ea dw oD).f3) ((Ea dw oD).f4) ((Ea dw oD).f5) ((Ea dw oD).f6)).bind fun t110=>(fc.l2 k x3 vB qD kz dw x23 oD t110 (t110.length:Int) 0 pz Fw Yr oz mz ((Ea dw oD).f0) ((Ea dw oD).f1) ((Ea dw oD).f2) ((Ea dw oD).f3) ((Ea dw oD).f4) ((Ea dw oD).f5) ((Ea dw oD).f6))) else (none)) else (none)) else (if Fw=0 then (fc.l0 k x3 vB qD (wrap64 (kz + 1))) else (if 0 ≤ Yr then (if Yr < (x3.length:Int) then (fc.l0 k (x3.set (Yr:Int).toNat true) vB qD (wrap64 (kz + 1))) else (none)) else (none)))
def fc.l2:Nat→List Bool→List (He)→Int→Int→List (Le)→Int→Int→List Int→Int→Int→List (Le)→Int→Int→Int→Int→Int→Int→Int→Int→Int→Int→ByteArray→Option (List Bool)
 | 0,_,_,_,_,_,_,_,_,_,_,_,_,_,_,_,_,_,_,_,_,_,_=>none
 | k + 1,x3,vB,qD,kz,dw,x23,oD,x29,x30,nN,pz,Fw,Yr,oz,mz,LP,KP,JP,IP,GP,FP,EP=>if nN < x30 then (if 0 ≤ nN then (if nN < (x29.length:Int) then (if 0 ≤ (rd x29 nN) then (if (rd x29 nN) < (x3.length:Int) then (fc.l2 k (x3.set ((rd x29 nN):Int).toNat true) vB qD kz dw x23 oD x29 x30 (wrap64 (nN + 1)) pz Fw Yr oz mz LP KP JP IP GP FP EP) else (none)) else (none)) else (none)) else (none)) else ((Th.f LP KP JP IP GP FP EP).bind fun t115=>(if t115 ≥ 0 then (if 0 ≤ t115 then (if t115 < (x3.length:Int) then (fc.l1 k (x3.set (t115:Int).toNat true) vB qD kz dw x23 (wrap64 (oD + 1)) pz Fw Yr oz mz) else (none)) else (none)) else (fc.l1 k x3 vB qD kz dw x23 (wrap64 (oD + 1)) pz Fw Yr oz mz)))
end
def fc.f (k:Nat) (Qa:List Int) (Ja:Int) (Ga:Int) (Ia:Int) (Aa:List (He)):Option (List Bool):=if 0 ≤ Ia then (if (Ia:Int).toNat ≤ 281474976710656 then (fc.l0 k (List.replicate (Ia:Int).toNat false) Aa (Aa.length:Int) 0) else (none)) else (none)
theorem fc.calls (k:Nat) (Wa:Option Addr) (Xa:Nat) (Qa:List Int) (Ja:Int) (Ga:Int) (Ia:Int) (Jb:Option Addr) (yb:Nat) (Aa:List (He)) (r:List Bool) (w:World) (Od:Kd.C (Kd.int .i64) w Wa Qa.length Qa) (Md:Qa.length ≤ Xa) (Re:Kd.C iq w Jb Aa.length Aa) (Qe:Aa.length ≤ yb) (h:fc.f k Qa Ja Ga Ia Aa=some r) :
  Calls Try.prog 62 #[.agg #[.slice Wa Qa.length Xa,.int .i64 Ja,.int .i64 Ga,.int .i64 Ia,.slice Jb Aa.length yb]] w fun e w'=>∃ wm:Value,e = .returned (wm)∧Kd.R Kd.bool 4 w' w.heap.size (fun _=>True) wm r∧Below w.heap.size w w':=by
 have KB:=Try.underlying30;have JB:=Try.underlying59;have kA:=Try.underlying65;have fe:=ga.mk Od;have ye:=ga.mk Md;clear Od Md;have We:=ga.mk Re;have Xf:=ga.mk Qe;clear Re Qe;have HB:=ga.mk (Below.refl w.heap.size w);have H:(if 0 ≤ Ia then (if (Ia:Int).toNat ≤ 281474976710656 then (fc.l0 k (List.replicate (Ia:Int).toNat false) Aa (Aa.length:Int) 0) else (none)) else (none))=some r:=h;clear h
 by_cases c2:0 ≤ Ia
 ·rw [if_pos c2] at H;have fu:=eq_true c2;have yw:decide (0 ≤ Ia)=true:=decide_eq_true c2;clear c2
  by_cases c3:(Ia:Int).toNat ≤ 281474976710656
  ·rw [if_pos c3] at H;have Qi:=eq_true c3;have Hr:decide ((Ia:Int).toNat ≤ 281474976710656)=true:=decide_eq_true c3;clear c3;obtain ⟨Dd,kf⟩:∃ y_:List Bool,y_=(List.replicate (Ia:Int).toNat false):=⟨_,rfl⟩;replace H:(fc.l0 k Dd Aa (Aa.length:Int) 0)=some r:=by first|(rw [kf];with_reducible exact H)|(have Td:=(Option.bind_some _ _).symm.trans H;rw [kf];with_reducible exact Td)|(have Td:=(Option.bind_some _ _).symm.trans H;with_reducible exact Td)|with_reducible exact H|(rw [kf];exact H)|exact H
   have Ci:=ga.mk kf;clear kf;have H':=ga.mk H;clear H;go_enter Try.func62,Try.ntmps62;go_wp2_with (first|((with_reducible refine qb (N:=1) rfl ?_);refine Ib ?hg (N:=1) ?hd (cs:=#[.slice Wa Qa.length Xa,.int .i64 Ja,.int .i64 Ga,.int .i64 Ia,.slice Jb Aa.length yb]) (t:=30) ?hr ?_;(case hd=>rfl);(case hg=>rfl);(case hr=>first|(go_simp;done)|(go_simp;rfl));intro ya hg w4 Sb hb;have Cb:=ga.mk (Na CaH hb);have Eb:=ga.mk (Sb);have Rb:=ga.mk ((by rw [hg];exact (La CaH):w.heap.size ≤ ya));have Gc:=ga.mk ((by rw [hg];exact (La CaH):w.heap.size ≤ ya));clear HB;have HB:=Cb;have oa:=Eb;have Nd:=Rb;have Ta:=Gc;clear Cb Eb Rb Gc hb Sb hg;have gC:w4.cell? ⟨ya,0,none⟩=some (.slice Wa Qa.length Xa):=(ia oa.out 0).trans rfl;have fC:w4.cell? ⟨ya,1,none⟩=some (.int .i64 Ja):=(ia oa.out 1).trans rfl;have eC:w4.cell? ⟨ya,2,none⟩=some (.int .i64 Ga):=(ia oa.out 2).trans rfl;have cC:w4.cell? ⟨ya,3,none⟩=some (.int .i64 Ia):=(ia oa.out 3).trans rfl;have bC:w4.cell? ⟨ya,4,none⟩=some (.slice Jb Aa.length yb):=(ia oa.out 4).trans rfl;have UB:=aa oa.out 0;have SB:=aa oa.out 1;have RB:=aa oa.out 2;have QB:=aa oa.out 3;have OB:=aa oa.out 4)|((with_reducible refine qb (N:=13) rfl ?_);refine Kd.Kv Kd.bool _ 4 rfl (N:=13) rfl 60 _ _ rfl Ia rfl rfl Try.underlying60 (.bool false) 1 Qv rfl (by decide) (by omega) false (ok:=fun _=>True) (Di:=fun _=>True) rfl (fun _ hk=>hk) trivial (Ua) (Nat.le_trans (Nat.mul_le_mul_right _ (Ua:Ia.toNat ≤ 281474976710656)) (by omega)) (Below.refl _ _) (Nat.le_refl _) ?_;intro Sm w6 QW hb Wm Ye;clear Wm Ye;(first|rw [← Ci.out] at QW|(simp only [Int.reduceToNat] at QW;rw [← Ci.out] at QW));have Cb:=ga.mk (Kd.Wd QW (La BaH));have Eb:=ga.mk (Va (g:=ya) (o:=.cells #[.slice Wa Qa.length Xa,.int .i64 Ja,.int .i64 Ga,.int .i64 Ia,.slice Jb Aa.length yb] 30 (0,0)) DaH hb);have Rb:=ga.mk (Na BaH hb);clear oa HB;have Cg:=Cb;have oa:=Eb;have HB:=Rb;clear Cb Eb Rb hb QW;have Yu:w6.cell? ⟨ya,0,none⟩=some (.slice Wa Qa.length Xa):=(ia oa.out 0).trans rfl;have Xu:w6.cell? ⟨ya,1,none⟩=some (.int .i64 Ja):=(ia oa.out 1).trans rfl;have Wu:w6.cell? ⟨ya,2,none⟩=some (.int .i64 Ga):=(ia oa.out 2).trans rfl;have Vu:w6.cell? ⟨ya,3,none⟩=some (.int .i64 Ia):=(ia oa.out 3).trans rfl;have Uu:w6.cell? ⟨ya,4,none⟩=some (.slice Jb Aa.length yb):=(ia oa.out 4).trans rfl;have Hu:=aa oa.out 0;have Gu:=aa oa.out 1;have Fu:=aa oa.out 2;have Eu:=aa oa.out 3;have Du:=aa oa.out 4))
   go_loopg [17] k (fun kq v17 w'=>∃ (xe:List Bool) (Za:Int),v17 = .int .i64 Za∧ga (fc.l0 kq xe Aa (Aa.length:Int) Za=some r)∧ga (kq ≤ k)∧ga (Kd.R Kd.bool 4 w' w.heap.size (fun _=>True) Sm xe)∧ga (w'.heap[ya]? = some (.cells #[(.slice Wa Qa.length Xa),.int .i64 Ja,.int .i64 Ga,.int .i64 Ia,(.slice Jb Aa.length yb)] 30 (0,0)))∧ga (Below w.heap.size w w'))
   case atStart=>exact ⟨(Dd),(0),IaH,H',⟨Nat.le_refl _⟩,⟨XaH⟩,⟨HaH⟩,⟨EaH⟩⟩
   case round =>
    clear H'
    try clear c2
    try clear fu
    try clear yw
    try clear p2
    try clear c3
    try clear Qi
    try clear Hr
    try clear c6
    try clear gC
    try clear fC
    try clear eC
    try clear cC
    try clear bC
    try clear Yu
    try clear Xu
    try clear Wu
    try clear Vu
    try clear Uu
    try clear UB
    try clear SB
    try clear RB
    try clear QB
    try clear OB
    try clear Hu
    try clear Gu
    try clear Fu
    try clear Eu
    try clear Du
    (try clear HA);(try clear pg);(try clear Qc);(try clear oa);(try clear HB);obtain ⟨xe,Za,rfl,HA,pg,Qc,oa,HB⟩:=hrel;cases gk with
    | zero=>exact absurd HA.out (by simp [fc.l0])
    | succ k1 =>
     have H:=HA.out;clear HA;simp only [fc.l0] at H
     by_cases c9:Za < (Aa.length:Int)
     ·rw [if_pos c9] at H;have gy:decide (Za < (Aa.length:Int))=true:=decide_eq_true c9;clear c9
      by_cases Gt:0 ≤ Za
      ·rw [if_pos Gt] at H;have iu:decide (0 ≤ Za)=true:=decide_eq_true Gt;clear Gt
       by_cases zG:Za < (Aa.length:Int)
       ·rw [if_pos zG] at H;have KM:decide (Za < (Aa.length:Int))=true:=decide_eq_true zG;clear zG;have H':=ga.mk H;clear H;have Vm:0 ≤ (Za:Int):=Ua;have Um:Za < (Aa.length:Int):=Ua;obtain ⟨Ii,Yh,yg,sC,qh,xj,wj,uj,tj,yj,zj⟩:=Fj We.out Za Vm Um;cases sC;replace qh:=Sa HB.out qh;replace xj:=Sa HB.out xj;replace wj:=Sa HB.out wj;replace uj:=Sa HB.out uj;replace tj:=Sa HB.out tj;have Bo:=ga.mk zj;have Mv:=ga.mk yj;clear zj yj;replace Vm:=eq_true Vm;replace Um:=eq_true Um;go_wp2_with (first|((with_reducible refine qb (N:=5) rfl ?_);refine Ib ?hg (N:=5) ?hd (cs:=#[.slice none 0 0,.int .i64 0,.int .i64 0,.int .i64 0,.int .i64 0]) (t:=59) ?hr ?_;(case hd=>rfl);(case hg=>rfl);(case hr=>first|(go_simp;done)|(go_simp;rfl));intro lf hg Xr Sb hb;have Cb:=ga.mk (Kd.oc TaH hb);have Eb:=ga.mk (Va (g:=ya) (o:=.cells #[.slice Wa Qa.length Xa,.int .i64 Ja,.int .i64 Ga,.int .i64 Ia,.slice (some Ii) Aa.length yb] 30 (0,0)) DaH hb);have Rb:=ga.mk (Na BaH hb);have Gc:=ga.mk (Sb);have kg:=ga.mk ((by rw [hg];exact (La BaH):w.heap.size ≤ lf));have Rg:=ga.mk ((by rw [hg];exact (La BaH):w.heap.size ≤ lf));have Vh:=ga.mk ((by rw [hg];exact Nat.ne_of_lt (Pc (g:=ya) (o:=.cells #[.slice Wa Qa.length Xa,.int .i64 Ja,.int .i64 Ga,.int .i64 Ia,.slice (some Ii) Aa.length yb] 30 (0,0)) DaH):ya ≠ lf));have SE:=ga.mk ((by rw [hg];exact Nat.ne_of_gt (Pc (g:=ya) (o:=.cells #[.slice Wa Qa.length Xa,.int .i64 Ja,.int .i64 Ga,.int .i64 Ia,.slice (some Ii) Aa.length yb] 30 (0,0)) DaH):lf ≠ ya));clear Qc oa HB;have Qc:=Cb;have oa:=Eb;have HB:=Rb;have Cd:=Gc;have haa:=kg;have Zj:=Rg;have Jf:=Vh;have Ro:=SE;clear Cb Eb Rb Gc kg Rg Vh SE hb Sb hg;have Faf:=Ro.out;have qaf:=Jf.out;have Eh:Xr.cell? ⟨lf,0,none⟩=some (.slice none 0 0):=(ia Cd.out 0).trans rfl;have Dh:Xr.cell? ⟨lf,1,none⟩=some (.int .i64 0):=(ia Cd.out 1).trans rfl;have Ch:Xr.cell? ⟨lf,2,none⟩=some (.int .i64 0):=(ia Cd.out 2).trans rfl;have Bh:Xr.cell? ⟨lf,3,none⟩=some (.int .i64 0):=(ia Cd.out 3).trans rfl;have Ah:Xr.cell? ⟨lf,4,none⟩=some (.int .i64 0):=(ia Cd.out 4).trans rfl;have zh:=aa Cd.out 0;have yh:=aa Cd.out 1;have xh:=aa Cd.out 2;have wh:=aa Cd.out 3;have uh:=aa Cd.out 4))
        go_loopg [24] k1 (fun kq v24 w'=>∃ (Tp:List Bool) (ec:Int),v24 = .int .i64 ec∧ga (fc.l1 kq Tp Aa (Aa.length:Int) Za ((za Aa Za).f0) (((za Aa Za).f0).length:Int) ec ((za Aa Za).f0) ((za Aa Za).f1) ((za Aa Za).f2) ((za Aa Za).f3) ((za Aa Za).f4)=some r)∧ga (kq ≤ k1)∧ga (Kd.R Kd.bool 4 w' w.heap.size (fun _=>True) Sm Tp)∧ga (w'.heap[ya]? = some (.cells #[(.slice Wa Qa.length Xa),.int .i64 Ja,.int .i64 Ga,.int .i64 Ia,(.slice (some Ii) Aa.length yb)] 30 (0,0)))∧ga (w'.heap[lf]? = some (.cells #[(.slice Yh ((za Aa Za).f0).length yg),.int .i64 ((za Aa Za).f1),.int .i64 ((za Aa Za).f2),.int .i64 ((za Aa Za).f3),.int .i64 ((za Aa Za).f4)] 59 (0,0)))∧ga (Below w.heap.size w w'))
        case atStart=>exact ⟨(xe),(0),IaH,H',⟨Nat.le_refl _⟩,⟨by (with_reducible repeat (first|apply Kd.mb|apply Kd.jb|apply Kd.Gb));exact Kd.Xd (Kd.Tg (p:=⟨lf,4,none⟩) (Kd.Tg (p:=⟨lf,3,none⟩) (Kd.Tg (p:=⟨lf,2,none⟩) (Kd.Tg (p:=⟨lf,1,none⟩) (Kd.Tg (p:=⟨lf,0,none⟩) (Kd.Dp Qc.out Cd.out (by decide)) (fun _ hk=>hk.2) (.slice Yh ((za Aa Za).f0).length yg)) (fun _ hk=>hk.2) (.int .i64 ((za Aa Za).f1))) (fun _ hk=>hk.2) (.int .i64 ((za Aa Za).f2))) (fun _ hk=>hk.2) (.int .i64 ((za Aa Za).f3))) (fun _ hk=>hk.2) (.int .i64 ((za Aa Za).f4))) (fun _ hk=>trivial)⟩,⟨by (with_reducible repeat (first|refine Ba ?_ _|refine Fa ?_|refine Ca ?_ _));refine Ed ?_ Jf.out _;(with_reducible repeat (first|refine Ba ?_ _|refine Fa ?_|refine Ca ?_ _));refine Ed ?_ Jf.out _;(with_reducible repeat (first|refine Ba ?_ _|refine Fa ?_|refine Ca ?_ _));refine Ed ?_ Jf.out _;(with_reducible repeat (first|refine Ba ?_ _|refine Fa ?_|refine Ca ?_ _));refine Ed ?_ Jf.out _;(with_reducible repeat (first|refine Ba ?_ _|refine Fa ?_|refine Ca ?_ _));refine Ed ?_ Jf.out _;(with_reducible repeat (first|refine Ba ?_ _|refine Fa ?_|refine Ca ?_ _));exact oa.out⟩,⟨by (with_reducible repeat (first|refine Ba ?_ _|refine Fa ?_|refine Ca ?_ _));refine Vd (cs:=#[.slice Yh ((za Aa Za).f0).length yg,.int .i64 ((za Aa Za).f1),.int .i64 ((za Aa Za).f2),.int .i64 ((za Aa Za).f3),.int .i64 0]) ?_ 4 _ rfl;(with_reducible repeat (first|refine Ba ?_ _|refine Fa ?_|refine Ca ?_ _));refine Vd (cs:=#[.slice Yh ((za Aa Za).f0).length yg,.int .i64 ((za Aa Za).f1),.int .i64 ((za Aa Za).f2),.int .i64 0,.int .i64 0]) ?_ 3 _ rfl;(with_reducible repeat (first|refine Ba ?_ _|refine Fa ?_|refine Ca ?_ _));refine Vd (cs:=#[.slice Yh ((za Aa Za).f0).length yg,.int .i64 ((za Aa Za).f1),.int .i64 0,.int .i64 0,.int .i64 0]) ?_ 2 _ rfl;(with_reducible repeat (first|refine Ba ?_ _|refine Fa ?_|refine Ca ?_ _));refine Vd (cs:=#[.slice Yh ((za Aa Za).f0).length yg,.int .i64 0,.int .i64 0,.int .i64 0,.int .i64 0]) ?_ 1 _ rfl;(with_reducible repeat (first|refine Ba ?_ _|refine Fa ?_|refine Ca ?_ _));refine Vd (cs:=#[.slice none 0 0,.int .i64 0,.int .i64 0,.int .i64 0,.int .i64 0]) ?_ 0 _ rfl;(with_reducible repeat (first|refine Ba ?_ _|refine Fa ?_|refine Ca ?_ _));exact Cd.out⟩,⟨eaI⟩⟩
        case round =>
         clear H'
         try clear c1
         try clear p1
         try clear q1
         try clear hx1
         try clear c2
         try clear fu
         try clear yw
         try clear p2
         try clear c3
         try clear Qi
         try clear Hr
         try clear c6
         try clear c9
         try clear gy
         try clear Gt
         try clear iu
         try clear LG
         try clear JG
         try clear SU
         try clear zG
         try clear KM
         try clear VC
         try clear Eh
         try clear Dh
         try clear Ch
         try clear Bh
         try clear Ah
         try clear gC
         try clear fC
         try clear eC
         try clear cC
         try clear bC
         try clear Yu
         try clear Xu
         try clear Wu
         try clear Vu
         try clear Uu
         try clear zh
         try clear yh
         try clear xh
         try clear wh
         try clear uh
         try clear UB
         try clear SB
         try clear RB
         try clear QB
         try clear OB
         try clear Hu
         try clear Gu
         try clear Fu
         try clear Eu
         try clear Du
         try clear qh
         try clear xj
         try clear wj
         try clear uj
         try clear tj
         try clear Vm
         try clear p2
         try clear Um
         (try clear HA);(try clear Cm);(try clear Qc);(try clear oa);(try clear Cd);(try clear HB);obtain ⟨Tp,ec,rfl,HA,Cm,Qc,oa,Cd,HB⟩:=hrel;cases gk with
         | zero=>exact absurd HA.out (by simp [fc.l1])
         | succ k2 =>
          have H:=HA.out;clear HA;simp only [fc.l1] at H
          by_cases Yv:ec < (((za Aa Za).f0).length:Int)
          ·rw [if_pos Yv] at H;have zw:decide (ec < (((za Aa Za).f0).length:Int))=true:=decide_eq_true Yv;clear Yv
           by_cases iz:0 ≤ ec
           ·rw [if_pos iz] at H;have JM:decide (0 ≤ ec)=true:=decide_eq_true iz;clear iz
            by_cases Ym:ec < (((za Aa Za).f0).length:Int)
            ·rw [if_pos Ym] at H;have zm:decide (ec < (((za Aa Za).f0).length:Int))=true:=decide_eq_true Ym;clear Ym;replace H:=Option.bind_eq_some_iff.mp H;obtain ⟨t110,iN,H⟩:=H;replace H:(fc.l2 k2 Tp Aa (Aa.length:Int) Za ((za Aa Za).f0) (((za Aa Za).f0).length:Int) ec t110 (t110.length:Int) 0 ((za Aa Za).f0) ((za Aa Za).f1) ((za Aa Za).f2) ((za Aa Za).f3) ((za Aa Za).f4) ((Ea ((za Aa Za).f0) ec).f0) ((Ea ((za Aa Za).f0) ec).f1) ((Ea ((za Aa Za).f0) ec).f2) ((Ea ((za Aa Za).f0) ec).f3) ((Ea ((za Aa Za).f0) ec).f4) ((Ea ((za Aa Za).f0) ec).f5) ((Ea ((za Aa Za).f0) ec).f6))=some r:=H;have cL:=ga.mk iN;clear iN;have H':=ga.mk H;clear H;have cq:0 ≤ (ec:Int):=Ua;have bq:ec < (((za Aa Za).f0).length:Int):=Ua;obtain ⟨ou,lK,Bn,YH,XH,WH,VH,UH,TH⟩:=Jm Bo.out ec cq bq;cases lK;replace Bn:=Sa HB.out Bn;replace YH:=Sa HB.out YH;replace XH:=Sa HB.out XH;replace WH:=Sa HB.out WH;replace VH:=Sa HB.out VH;replace UH:=Sa HB.out UH;replace TH:=Sa HB.out TH;replace cq:=eq_true cq;replace bq:=eq_true bq;go_wp2_with (first|((with_reducible refine qb (N:=7) rfl ?_);refine Ib ?hg (N:=7) ?hd (cs:=#[.int .i64 0,.int .i64 0,.int .i64 0,.int .i64 0,.int .i64 0,.int .i64 0,.string (⟨#[]⟩:ByteArray)]) (t:=65) ?hr ?_;(case hd=>rfl);(case hg=>rfl);(case hr=>first|(go_simp;done)|(go_simp;rfl));intro dh hg Ut Sb hb;have Cb:=ga.mk (Kd.oc TaH hb);have Eb:=ga.mk (Va (g:=ya) (o:=.cells #[.slice Wa Qa.length Xa,.int .i64 Ja,.int .i64 Ga,.int .i64 Ia,.slice (some Ii) Aa.length yb] 30 (0,0)) DaH hb);have Rb:=ga.mk (Va (g:=lf) (o:=.cells #[.slice (some ou) ((za Aa Za).f0).length yg,.int .i64 ((za Aa Za).f1),.int .i64 ((za Aa Za).f2),.int .i64 ((za Aa Za).f3),.int .i64 ((za Aa Za).f4)] 59 (0,0)) ZaH hb);have Gc:=ga.mk (Na NaH hb);have kg:=ga.mk (Sb);have Rg:=ga.mk ((by rw [hg];exact (La NaH):w.heap.size ≤ dh));have Vh:=ga.mk ((by rw [hg];exact (La NaH):w.heap.size ≤ dh));have SE:=ga.mk ((by rw [hg];exact Nat.ne_of_lt (Pc (g:=ya) (o:=.cells #[.slice Wa Qa.length Xa,.int .i64 Ja,.int .i64 Ga,.int .i64 Ia,.slice (some Ii) Aa.length yb] 30 (0,0)) DaH):ya ≠ dh));have mW:=ga.mk ((by rw [hg];exact Nat.ne_of_gt (Pc (g:=ya) (o:=.cells #[.slice Wa Qa.length Xa,.int .i64 Ja,.int .i64 Ga,.int .i64 Ia,.slice (some Ii) Aa.length yb] 30 (0,0)) DaH):dh ≠ ya));have lW:=ga.mk ((by rw [hg];exact Nat.ne_of_lt (Pc (g:=lf) (o:=.cells #[.slice (some ou) ((za Aa Za).f0).length yg,.int .i64 ((za Aa Za).f1),.int .i64 ((za Aa Za).f2),.int .i64 ((za Aa Za).f3),.int .i64 ((za Aa Za).f4)] 59 (0,0)) ZaH):lf ≠ dh));have Qae:=ga.mk ((by rw [hg];exact Nat.ne_of_gt (Pc (g:=lf) (o:=.cells #[.slice (some ou) ((za Aa Za).f0).length yg,.int .i64 ((za Aa Za).f1),.int .i64 ((za Aa Za).f2),.int .i64 ((za Aa Za).f3),.int .i64 ((za Aa Za).f4)] 59 (0,0)) ZaH):dh ≠ lf));clear Qc oa Cd HB;have Qc:=Cb;have oa:=Eb;have Cd:=Rb;have HB:=Gc;have Te:=kg;have kaD:=Rg;have ZC:=Vh;have Vk:=SE;have FC:=mW;have Uk:=lW;have EC:=Qae;clear Cb Eb Rb Gc kg Rg Vh SE mW lW Qae hb Sb hg;have qaB:=FC.out;have KaA:=Vk.out;have Daf:=EC.out;have oaf:=Uk.out;have wv:Ut.cell? ⟨dh,0,none⟩=some (.int .i64 0):=(ia Te.out 0).trans rfl;have vv:Ut.cell? ⟨dh,1,none⟩=some (.int .i64 0):=(ia Te.out 1).trans rfl;have uv:Ut.cell? ⟨dh,2,none⟩=some (.int .i64 0):=(ia Te.out 2).trans rfl;have tv:Ut.cell? ⟨dh,3,none⟩=some (.int .i64 0):=(ia Te.out 3).trans rfl;have qv:Ut.cell? ⟨dh,4,none⟩=some (.int .i64 0):=(ia Te.out 4).trans rfl;have cE:Ut.cell? ⟨dh,5,none⟩=some (.int .i64 0):=(ia Te.out 5).trans rfl;have bE:Ut.cell? ⟨dh,6,none⟩=some (.string (⟨#[]⟩:ByteArray)):=(ia Te.out 6).trans rfl;have Tu:=aa Te.out 0;have Su:=aa Te.out 1;have Ru:=aa Te.out 2;have Qu:=aa Te.out 3;have Pu:=aa Te.out 4;have JD:=aa Te.out 5;have ID:=aa Te.out 6)|((with_reducible refine Bb (f:=88) rfl ?_);refine Tc (some 29) rfl rfl Try.func88 (by kernel_rfl) rfl #[.agg #[.int .i64 ((Ea ((za Aa Za).f0) ec).f0),.int .i64 ((Ea ((za Aa Za).f0) ec).f1),.int .i64 ((Ea ((za Aa Za).f0) ec).f2),.int .i64 ((Ea ((za Aa Za).f0) ec).f3),.int .i64 ((Ea ((za Aa Za).f0) ec).f4),.int .i64 ((Ea ((za Aa Za).f0) ec).f5),.string ((Ea ((za Aa Za).f0) ec).f6)]] rfl FaH ?_;(with_reducible refine (Gd.calls k2 ((Ea ((za Aa Za).f0) ec).f0) ((Ea ((za Aa Za).f0) ec).f1) ((Ea ((za Aa Za).f0) ec).f2) ((Ea ((za Aa Za).f0) ec).f3) ((Ea ((za Aa Za).f0) ec).f4) ((Ea ((za Aa Za).f0) ec).f5) ((Ea ((za Aa Za).f0) ec).f6) t110 _ cL.out).mono ?_);rintro e Qq ⟨MaD,rfl,Hi,hb⟩;refine ⟨_,rfl,?_⟩;have Cb:=ga.mk (Kd.oc (by (with_reducible repeat (first|apply Kd.mb|apply Kd.jb|apply Kd.Gb));exact (Kd.Xd (Kd.Tg (p:=⟨dh,6,none⟩) (Kd.Tg (p:=⟨dh,5,none⟩) (Kd.Tg (p:=⟨dh,4,none⟩) (Kd.Tg (p:=⟨dh,3,none⟩) (Kd.Tg (p:=⟨dh,2,none⟩) (Kd.Tg (p:=⟨dh,1,none⟩) (Kd.Tg (p:=⟨dh,0,none⟩) (Kd.Dp Qc.out Te.out (by decide)) (fun _ hk=>hk.2) (.int .i64 ((Ea ((za Aa Za).f0) ec).f0))) (fun _ hk=>hk.2) (.int .i64 ((Ea ((za Aa Za).f0) ec).f1))) (fun _ hk=>hk.2) (.int .i64 ((Ea ((za Aa Za).f0) ec).f2))) (fun _ hk=>hk.2) (.int .i64 ((Ea ((za Aa Za).f0) ec).f3))) (fun _ hk=>hk.2) (.int .i64 ((Ea ((za Aa Za).f0) ec).f4))) (fun _ hk=>hk.2) (.int .i64 ((Ea ((za Aa Za).f0) ec).f5))) (fun _ hk=>hk.2) (.string ((Ea ((za Aa Za).f0) ec).f6))) (fun _ h_=>h_.1))) hb);have Eb:=ga.mk (Kd.Wd Hi (La kaI));have Rb:=ga.mk (Va (g:=ya) (o:=.cells #[.slice Wa Qa.length Xa,.int .i64 Ja,.int .i64 Ga,.int .i64 Ia,.slice (some Ii) Aa.length yb] 30 (0,0)) (by (with_reducible repeat (first|refine Ba ?_ _|refine Fa ?_|refine Ca ?_ _));refine Ed ?_ Vk.out _;(with_reducible repeat (first|refine Ba ?_ _|refine Fa ?_|refine Ca ?_ _));refine Ed ?_ Vk.out _;(with_reducible repeat (first|refine Ba ?_ _|refine Fa ?_|refine Ca ?_ _));refine Ed ?_ Vk.out _;(with_reducible repeat (first|refine Ba ?_ _|refine Fa ?_|refine Ca ?_ _));refine Ed ?_ Vk.out _;(with_reducible repeat (first|refine Ba ?_ _|refine Fa ?_|refine Ca ?_ _));refine Ed ?_ Vk.out _;(with_reducible repeat (first|refine Ba ?_ _|refine Fa ?_|refine Ca ?_ _));refine Ed ?_ Vk.out _;(with_reducible repeat (first|refine Ba ?_ _|refine Fa ?_|refine Ca ?_ _));refine Ed ?_ Vk.out _;(with_reducible repeat (first|refine Ba ?_ _|refine Fa ?_|refine Ca ?_ _));exact oa.out) hb);have Gc:=ga.mk (Va (g:=lf) (o:=.cells #[.slice (some ou) ((za Aa Za).f0).length yg,.int .i64 ((za Aa Za).f1),.int .i64 ((za Aa Za).f2),.int .i64 ((za Aa Za).f3),.int .i64 ((za Aa Za).f4)] 59 (0,0)) (by (with_reducible repeat (first|refine Ba ?_ _|refine Fa ?_|refine Ca ?_ _));refine Ed ?_ Uk.out _;(with_reducible repeat (first|refine Ba ?_ _|refine Fa ?_|refine Ca ?_ _));refine Ed ?_ Uk.out _;(with_reducible repeat (first|refine Ba ?_ _|refine Fa ?_|refine Ca ?_ _));refine Ed ?_ Uk.out _;(with_reducible repeat (first|refine Ba ?_ _|refine Fa ?_|refine Ca ?_ _));refine Ed ?_ Uk.out _;(with_reducible repeat (first|refine Ba ?_ _|refine Fa ?_|refine Ca ?_ _));refine Ed ?_ Uk.out _;(with_reducible repeat (first|refine Ba ?_ _|refine Fa ?_|refine Ca ?_ _));refine Ed ?_ Uk.out _;(with_reducible repeat (first|refine Ba ?_ _|refine Fa ?_|refine Ca ?_ _));refine Ed ?_ Uk.out _;(with_reducible repeat (first|refine Ba ?_ _|refine Fa ?_|refine Ca ?_ _));exact Cd.out) hb);have kg:=ga.mk (Va (g:=dh) (o:=.cells #[.int .i64 ((Ea ((za Aa Za).f0) ec).f0),.int .i64 ((Ea ((za Aa Za).f0) ec).f1),.int .i64 ((Ea ((za Aa Za).f0) ec).f2),.int .i64 ((Ea ((za Aa Za).f0) ec).f3),.int .i64 ((Ea ((za Aa Za).f0) ec).f4),.int .i64 ((Ea ((za Aa Za).f0) ec).f5),.string ((Ea ((za Aa Za).f0) ec).f6)] 65 (0,0)) (by (with_reducible repeat (first|refine Ba ?_ _|refine Fa ?_|refine Ca ?_ _));refine Vd (cs:=#[.int .i64 ((Ea ((za Aa Za).f0) ec).f0),.int .i64 ((Ea ((za Aa Za).f0) ec).f1),.int .i64 ((Ea ((za Aa Za).f0) ec).f2),.int .i64 ((Ea ((za Aa Za).f0) ec).f3),.int .i64 ((Ea ((za Aa Za).f0) ec).f4),.int .i64 ((Ea ((za Aa Za).f0) ec).f5),.string (⟨#[]⟩:ByteArray)]) ?_ 6 _ rfl;(with_reducible repeat (first|refine Ba ?_ _|refine Fa ?_|refine Ca ?_ _));refine Vd (cs:=#[.int .i64 ((Ea ((za Aa Za).f0) ec).f0),.int .i64 ((Ea ((za Aa Za).f0) ec).f1),.int .i64 ((Ea ((za Aa Za).f0) ec).f2),.int .i64 ((Ea ((za Aa Za).f0) ec).f3),.int .i64 ((Ea ((za Aa Za).f0) ec).f4),.int .i64 0,.string (⟨#[]⟩:ByteArray)]) ?_ 5 _ rfl;(with_reducible repeat (first|refine Ba ?_ _|refine Fa ?_|refine Ca ?_ _));refine Vd (cs:=#[.int .i64 ((Ea ((za Aa Za).f0) ec).f0),.int .i64 ((Ea ((za Aa Za).f0) ec).f1),.int .i64 ((Ea ((za Aa Za).f0) ec).f2),.int .i64 ((Ea ((za Aa Za).f0) ec).f3),.int .i64 0,.int .i64 0,.string (⟨#[]⟩:ByteArray)]) ?_ 4 _ rfl;(with_reducible repeat (first|refine Ba ?_ _|refine Fa ?_|refine Ca ?_ _));refine Vd (cs:=#[.int .i64 ((Ea ((za Aa Za).f0) ec).f0),.int .i64 ((Ea ((za Aa Za).f0) ec).f1),.int .i64 ((Ea ((za Aa Za).f0) ec).f2),.int .i64 0,.int .i64 0,.int .i64 0,.string (⟨#[]⟩:ByteArray)]) ?_ 3 _ rfl;(with_reducible repeat (first|refine Ba ?_ _|refine Fa ?_|refine Ca ?_ _));refine Vd (cs:=#[.int .i64 ((Ea ((za Aa Za).f0) ec).f0),.int .i64 ((Ea ((za Aa Za).f0) ec).f1),.int .i64 0,.int .i64 0,.int .i64 0,.int .i64 0,.string (⟨#[]⟩:ByteArray)]) ?_ 2 _ rfl;(with_reducible repeat (first|refine Ba ?_ _|refine Fa ?_|refine Ca ?_ _));refine Vd (cs:=#[.int .i64 ((Ea ((za Aa Za).f0) ec).f0),.int .i64 0,.int .i64 0,.int .i64 0,.int .i64 0,.int .i64 0,.string (⟨#[]⟩:ByteArray)]) ?_ 1 _ rfl;(with_reducible repeat (first|refine Ba ?_ _|refine Fa ?_|refine Ca ?_ _));refine Vd (cs:=#[.int .i64 0,.int .i64 0,.int .i64 0,.int .i64 0,.int .i64 0,.int .i64 0,.string (⟨#[]⟩:ByteArray)]) ?_ 0 _ rfl;(with_reducible repeat (first|refine Ba ?_ _|refine Fa ?_|refine Ca ?_ _));exact Te.out) hb);have Rg:=ga.mk (Na kaI hb);clear Qc oa Cd Te HB;have Qc:=Cb;have P_:=Eb;have oa:=Rb;have Cd:=Gc;have Te:=kg;have HB:=Rg;clear Cb Eb Rb Gc kg Rg;(try clear hb);(try clear jj);(try clear hk);(try clear hi);(try clear Hi);obtain ⟨May,pax,bax⟩:=Kd.Bd P_.out;subst bax))
             go_loopg [31] k2 (fun kq v31 w'=>∃ (Ep:List Bool) (Lk:Int),v31 = .int .i64 Lk∧ga (fc.l2 kq Ep Aa (Aa.length:Int) Za ((za Aa Za).f0) (((za Aa Za).f0).length:Int) ec t110 (t110.length:Int) Lk ((za Aa Za).f0) ((za Aa Za).f1) ((za Aa Za).f2) ((za Aa Za).f3) ((za Aa Za).f4) ((Ea ((za Aa Za).f0) ec).f0) ((Ea ((za Aa Za).f0) ec).f1) ((Ea ((za Aa Za).f0) ec).f2) ((Ea ((za Aa Za).f0) ec).f3) ((Ea ((za Aa Za).f0) ec).f4) ((Ea ((za Aa Za).f0) ec).f5) ((Ea ((za Aa Za).f0) ec).f6)=some r)∧ga (kq ≤ k2)∧ga (Kd.R Kd.bool 4 w' w.heap.size (fun _=>True) Sm Ep)∧ga (Kd.R (Kd.int .i64) 3 w' w.heap.size (fun _=>True) (.slice May t110.length pax) t110)∧ga (w'.heap[ya]? = some (.cells #[(.slice Wa Qa.length Xa),.int .i64 Ja,.int .i64 Ga,.int .i64 Ia,(.slice (some Ii) Aa.length yb)] 30 (0,0)))∧ga (w'.heap[lf]? = some (.cells #[(.slice (some ou) ((za Aa Za).f0).length yg),.int .i64 ((za Aa Za).f1),.int .i64 ((za Aa Za).f2),.int .i64 ((za Aa Za).f3),.int .i64 ((za Aa Za).f4)] 59 (0,0)))∧ga (w'.heap[dh]? = some (.cells #[.int .i64 ((Ea ((za Aa Za).f0) ec).f0),.int .i64 ((Ea ((za Aa Za).f0) ec).f1),.int .i64 ((Ea ((za Aa Za).f0) ec).f2),.int .i64 ((Ea ((za Aa Za).f0) ec).f3),.int .i64 ((Ea ((za Aa Za).f0) ec).f4),.int .i64 ((Ea ((za Aa Za).f0) ec).f5),.string ((Ea ((za Aa Za).f0) ec).f6)] 65 (0,0)))∧ga (Below w.heap.size w w'))
             case atStart=>exact ⟨(Tp),(0),IaH,H',⟨Nat.le_refl _⟩,⟨PaH⟩,⟨by (with_reducible repeat (first|apply Kd.mb|apply Kd.jb|apply Kd.Gb));exact P_.out⟩,⟨HaH⟩,⟨raI⟩,⟨by (with_reducible repeat (first|refine Ba ?_ _|refine Fa ?_|refine Ca ?_ _));exact Te.out⟩,⟨laI⟩⟩
             case round =>
              clear H'
              try clear c1
              try clear p1
              try clear q1
              try clear hx1
              try clear c2
              try clear fu
              try clear yw
              try clear p2
              try clear c3
              try clear Qi
              try clear Hr
              try clear c6
              try clear c8
              try clear c9
              try clear gy
              try clear Gt
              try clear iu
              try clear LG
              try clear JG
              try clear SU
              try clear zG
              try clear KM
              try clear VC
              try clear Yv
              try clear zw
              try clear iz
              try clear JM
              try clear Ym
              try clear zm
              try clear vm
              try clear Ir
              try clear Eh
              try clear Dh
              try clear Ch
              try clear Bh
              try clear Ah
              try clear wv
              try clear vv
              try clear uv
              try clear tv
              try clear qv
              try clear cE
              try clear bE
              try clear gC
              try clear fC
              try clear eC
              try clear cC
              try clear bC
              try clear Yu
              try clear Xu
              try clear Wu
              try clear Vu
              try clear Uu
              try clear zh
              try clear yh
              try clear xh
              try clear wh
              try clear uh
              try clear Tu
              try clear Su
              try clear Ru
              try clear Qu
              try clear Pu
              try clear JD
              try clear ID
              try clear UB
              try clear SB
              try clear RB
              try clear QB
              try clear OB
              try clear Hu
              try clear Gu
              try clear Fu
              try clear Eu
              try clear Du
              try clear qh
              try clear xj
              try clear wj
              try clear uj
              try clear tj
              try clear Bn
              try clear YH
              try clear XH
              try clear WH
              try clear VH
              try clear UH
              try clear TH
              try clear p1
              try clear LG
              try clear Vm
              try clear cq
              try clear p2
              try clear q1
              try clear JG
              try clear Um
              try clear bq
              (try clear HA);(try clear Rp);(try clear Qc);(try clear Pr);(try clear oa);(try clear Cd);(try clear Te);(try clear HB);obtain ⟨Ep,Lk,rfl,HA,Rp,Qc,Pr,oa,Cd,Te,HB⟩:=hrel;cases gk with
              | zero=>exact absurd HA.out (by simp [fc.l2])
              | succ k3 =>
               have H:=HA.out;clear HA;simp only [fc.l2] at H
               by_cases kD:Lk < (t110.length:Int)
               ·rw [if_pos kD] at H;have aH:decide (Lk < (t110.length:Int))=true:=decide_eq_true kD;clear kD
                by_cases gG:0 ≤ Lk
                ·rw [if_pos gG] at H;have X9:decide (0 ≤ Lk)=true:=decide_eq_true gG;clear gG
                 by_cases UC:Lk < (t110.length:Int)
                 ·rw [if_pos UC] at H;have YX:decide (Lk < (t110.length:Int))=true:=decide_eq_true UC;clear UC
                  by_cases yF:0 ≤ (rd t110 Lk)
                  ·rw [if_pos yF] at H;have FM:decide (0 ≤ (rd t110 Lk))=true:=decide_eq_true yF;clear yF
                   by_cases wB:(rd t110 Lk) < (Ep.length:Int)
                   ·rw [if_pos wB] at H;have Cy:decide ((rd t110 Lk) < (Ep.length:Int))=true:=decide_eq_true wB;clear wB;obtain ⟨Rm,Jp⟩:∃ y_:List Bool,y_=(Ep.set ((rd t110 Lk):Int).toNat true):=⟨_,rfl⟩;replace H:(fc.l2 k3 Rm Aa (Aa.length:Int) Za ((za Aa Za).f0) (((za Aa Za).f0).length:Int) ec t110 (t110.length:Int) (wrap64 (Lk + 1)) ((za Aa Za).f0) ((za Aa Za).f1) ((za Aa Za).f2) ((za Aa Za).f3) ((za Aa Za).f4) ((Ea ((za Aa Za).f0) ec).f0) ((Ea ((za Aa Za).f0) ec).f1) ((Ea ((za Aa Za).f0) ec).f2) ((Ea ((za Aa Za).f0) ec).f3) ((Ea ((za Aa Za).f0) ec).f4) ((Ea ((za Aa Za).f0) ec).f5) ((Ea ((za Aa Za).f0) ec).f6))=some r:=by first|(rw [Jp];with_reducible exact H)|(have Td:=(Option.bind_some _ _).symm.trans H;rw [Jp];with_reducible exact Td)|(have Td:=(Option.bind_some _ _).symm.trans H;with_reducible exact Td)|with_reducible exact H|(rw [Jp];exact H)|exact H
                    have WC:=ga.mk Jp;clear Jp;have H':=ga.mk H;clear H;have Laa:0 ≤ (Lk:Int):=Ua;have Jaa:Lk < (t110.length:Int):=Ua;obtain ⟨MaC,kax,ram⟩:=Kd.Rf (Kd.Vb Pr.out).2.2 Lk Laa Jaa;cases kax;replace Laa:=eq_true Laa;replace Jaa:=eq_true Jaa;have p30:0 ≤ ((rd t110 Lk):Int):=Ua;have q30:((rd t110 Lk):Int) < ((Ep.length:Int):Int):=Ua;obtain ⟨Y6,raj,maj,caj,Haw,eaF,Ial⟩:=Kd.Ul Qc.out (by omega);(first|cases maj|(injection maj with Kk Xy Yy;(first|subst Kk|(injection Kk with Kk;subst Kk));subst Yy;clear Xy));have Fay:=ga.mk caj;have jaG:=ga.mk Ial;clear caj Haw Ial;obtain ⟨Vau,gaw⟩:=Kd.Cj false Qc.out ((rd t110 Lk):Int) p30 q30;replace p30:=eq_true p30;replace q30:=eq_true q30;have uad:=Kd.yo Qc.out ((rd t110 Lk):Int) true;go_wp2_with (first|((with_reducible refine af (t:=4) (p:=37) rfl ?_);refine Ie (t:=4) (p:=37) (v:=?kau) (w1:=(wr.setCell ⟨Y6,((rd t110 Lk):Int).toNat,none⟩ (.bool true))) ?hg ?ho ?hn ?hr ?_;(case ho=>rfl);(case hg=>rfl);(case hn=>rfl);(case hr=>first|(go_simp;done)|(go_simp;rfl));intro oN hw;have hg:wr.grownBy oN (some Y6):=(by rw [hw];exact uad.2);have Pm:Kd.R Kd.bool 4 oN w.heap.size (fun _=>True) (.slice (some ⟨Y6,0,none⟩) Ep.length raj) Rm:=(by rw [hw,WC.out];exact uad.1);clear uad;have Cb:=ga.mk (Pm);have Eb:=ga.mk (Kd.Jv (v:=(.slice (some ⟨Y6,0,none⟩) Ep.length raj)) uaI (Kd.Ht Qc.out) (by decide) hg);have Rb:=ga.mk (xd (g:=ya) (o:=.cells #[.slice Wa Qa.length Xa,.int .i64 Ja,.int .i64 Ga,.int .i64 Ia,.slice (some Ii) Aa.length yb] 30 (0,0)) DaH hg (Kd.Fk Qc.out oa.out (by decide)));have Gc:=ga.mk (xd (g:=lf) (o:=.cells #[.slice (some ou) ((za Aa Za).f0).length yg,.int .i64 ((za Aa Za).f1),.int .i64 ((za Aa Za).f2),.int .i64 ((za Aa Za).f3),.int .i64 ((za Aa Za).f4)] 59 (0,0)) ZaH hg (Kd.Fk Qc.out Cd.out (by decide)));have kg:=ga.mk (xd (g:=dh) (o:=.cells #[.int .i64 ((Ea ((za Aa Za).f0) ec).f0),.int .i64 ((Ea ((za Aa Za).f0) ec).f1),.int .i64 ((Ea ((za Aa Za).f0) ec).f2),.int .i64 ((Ea ((za Aa Za).f0) ec).f3),.int .i64 ((Ea ((za Aa Za).f0) ec).f4),.int .i64 ((Ea ((za Aa Za).f0) ec).f5),.string ((Ea ((za Aa Za).f0) ec).f6)] 65 (0,0)) qaI hg (Kd.Fk Qc.out Te.out (by decide)));have Rg:=ga.mk ((by rw [hw];exact ua (HB.out) Fay.out:Below w.heap.size w oN));clear Qc Pr oa Cd Te HB;have Qc:=Cb;have Pr:=Eb;have oa:=Rb;have Cd:=Gc;have Te:=kg;have HB:=Rg;clear Cb Eb Rb Gc kg Rg hg hw Pm))
                    go_roundg k3
                    case measure=>have:=pg.out;have:=Cm.out;have:=Rp.out;omega
                    case rel=>exact ⟨(Rm),(wrap64 (Lk + 1)),IaH,H',⟨by have:=pg.out;have:=Cm.out;have:=Rp.out;omega⟩,⟨PaH⟩,⟨by (with_reducible repeat (first|apply Kd.mb|apply Kd.jb|apply Kd.Gb));exact Pr.out⟩,⟨HaH⟩,⟨raI⟩,⟨by (with_reducible repeat (first|refine Ba ?_ _|refine Fa ?_|refine Ca ?_ _));exact Te.out⟩,⟨laI⟩⟩
                   ·rw [if_neg wB] at H;exact absurd H (by simp)
                  ·rw [if_neg yF] at H;exact absurd H (by simp)
                 ·rw [if_neg UC] at H;exact absurd H (by simp)
                ·rw [if_neg gG] at H;exact absurd H (by simp)
               ·rw [if_neg kD] at H;have aH:decide (Lk < (t110.length:Int))=false:=decide_eq_false kD;clear kD;replace H:=Option.bind_eq_some_iff.mp H;obtain ⟨t115,PZ,H⟩:=H;replace H:(if t115 ≥ 0 then (if 0 ≤ t115 then (if t115 < (Ep.length:Int) then (fc.l1 k3 (Ep.set (t115:Int).toNat true) Aa (Aa.length:Int) Za ((za Aa Za).f0) (((za Aa Za).f0).length:Int) (wrap64 (ec + 1)) ((za Aa Za).f0) ((za Aa Za).f1) ((za Aa Za).f2) ((za Aa Za).f3) ((za Aa Za).f4)) else (none)) else (none)) else (fc.l1 k3 Ep Aa (Aa.length:Int) Za ((za Aa Za).f0) (((za Aa Za).f0).length:Int) (wrap64 (ec + 1)) ((za Aa Za).f0) ((za Aa Za).f1) ((za Aa Za).f2) ((za Aa Za).f3) ((za Aa Za).f4)))=some r:=H;have A33:=ga.mk PZ;clear PZ
                by_cases nE:t115 ≥ 0
                ·rw [if_pos nE] at H;have qT:decide (0 ≤ t115)=true:=decide_eq_true nE;clear nE
                 by_cases xF:0 ≤ t115
                 ·rw [if_pos xF] at H;have pT:decide (0 ≤ t115)=true:=decide_eq_true xF;clear xF
                  by_cases eV:t115 < (Ep.length:Int)
                  ·rw [if_pos eV] at H;have XX:decide (t115 < (Ep.length:Int))=true:=decide_eq_true eV;clear eV;obtain ⟨paa,LL⟩:∃ y_:List Bool,y_=(Ep.set (t115:Int).toNat true):=⟨_,rfl⟩;replace H:(fc.l1 k3 paa Aa (Aa.length:Int) Za ((za Aa Za).f0) (((za Aa Za).f0).length:Int) (wrap64 (ec + 1)) ((za Aa Za).f0) ((za Aa Za).f1) ((za Aa Za).f2) ((za Aa Za).f3) ((za Aa Za).f4))=some r:=by first|(rw [LL];with_reducible exact H)|(have Td:=(Option.bind_some _ _).symm.trans H;rw [LL];with_reducible exact Td)|(have Td:=(Option.bind_some _ _).symm.trans H;with_reducible exact Td)|with_reducible exact H|(rw [LL];exact H)|exact H
                   have tak:=ga.mk LL;clear LL;have H':=ga.mk H;clear H;have vaf:=FC.out;have gaf:=Vk.out;have e9:=EC.out;have Y8:=Uk.out;have Cx:wr.cell? ⟨dh,0,none⟩=some (.int .i64 ((Ea ((za Aa Za).f0) ec).f0)):=(ia Te.out 0).trans rfl;have Bx:wr.cell? ⟨dh,1,none⟩=some (.int .i64 ((Ea ((za Aa Za).f0) ec).f1)):=(ia Te.out 1).trans rfl;have zx:wr.cell? ⟨dh,2,none⟩=some (.int .i64 ((Ea ((za Aa Za).f0) ec).f2)):=(ia Te.out 2).trans rfl;have yx:wr.cell? ⟨dh,3,none⟩=some (.int .i64 ((Ea ((za Aa Za).f0) ec).f3)):=(ia Te.out 3).trans rfl;have xx:wr.cell? ⟨dh,4,none⟩=some (.int .i64 ((Ea ((za Aa Za).f0) ec).f4)):=(ia Te.out 4).trans rfl;have DJ:wr.cell? ⟨dh,5,none⟩=some (.int .i64 ((Ea ((za Aa Za).f0) ec).f5)):=(ia Te.out 5).trans rfl;have CJ:wr.cell? ⟨dh,6,none⟩=some (.string ((Ea ((za Aa Za).f0) ec).f6)):=(ia Te.out 6).trans rfl;have Sw:=aa Te.out 0;have Rw:=aa Te.out 1;have Qw:=aa Te.out 2;have Pw:=aa Te.out 3;have Ow:=aa Te.out 4;have BI:=aa Te.out 5;have zI:=aa Te.out 6;go_wp2_with (first|((with_reducible refine Bb (f:=87) rfl ?_);refine Tc (some 40) rfl rfl Try.func87 (by kernel_rfl) rfl #[.agg #[.int .i64 ((Ea ((za Aa Za).f0) ec).f0),.int .i64 ((Ea ((za Aa Za).f0) ec).f1),.int .i64 ((Ea ((za Aa Za).f0) ec).f2),.int .i64 ((Ea ((za Aa Za).f0) ec).f3),.int .i64 ((Ea ((za Aa Za).f0) ec).f4),.int .i64 ((Ea ((za Aa Za).f0) ec).f5),.string ((Ea ((za Aa Za).f0) ec).f6)]] rfl FaH ?_;(with_reducible refine (Th.calls ((Ea ((za Aa Za).f0) ec).f0) ((Ea ((za Aa Za).f0) ec).f1) ((Ea ((za Aa Za).f0) ec).f2) ((Ea ((za Aa Za).f0) ec).f3) ((Ea ((za Aa Za).f0) ec).f4) ((Ea ((za Aa Za).f0) ec).f5) ((Ea ((za Aa Za).f0) ec).f6) t115 _ A33.out).mono ?_);rintro e MC ⟨rfl,hb⟩;refine ⟨_,rfl,?_⟩;have Cb:=ga.mk (Kd.oc TaH hb);have Eb:=ga.mk (Kd.oc uaI hb);have Rb:=ga.mk (Va (g:=ya) (o:=.cells #[.slice Wa Qa.length Xa,.int .i64 Ja,.int .i64 Ga,.int .i64 Ia,.slice (some Ii) Aa.length yb] 30 (0,0)) DaH hb);have Gc:=ga.mk (Va (g:=lf) (o:=.cells #[.slice (some ou) ((za Aa Za).f0).length yg,.int .i64 ((za Aa Za).f1),.int .i64 ((za Aa Za).f2),.int .i64 ((za Aa Za).f3),.int .i64 ((za Aa Za).f4)] 59 (0,0)) ZaH hb);have kg:=ga.mk (Va (g:=dh) (o:=.cells #[.int .i64 ((Ea ((za Aa Za).f0) ec).f0),.int .i64 ((Ea ((za Aa Za).f0) ec).f1),.int .i64 ((Ea ((za Aa Za).f0) ec).f2),.int .i64 ((Ea ((za Aa Za).f0) ec).f3),.int .i64 ((Ea ((za Aa Za).f0) ec).f4),.int .i64 ((Ea ((za Aa Za).f0) ec).f5),.string ((Ea ((za Aa Za).f0) ec).f6)] 65 (0,0)) qaI hb);have Rg:=ga.mk (Na kaI hb);clear Qc Pr oa Cd Te HB;have Qc:=Cb;have Pr:=Eb;have oa:=Rb;have Cd:=Gc;have Te:=kg;have HB:=Rg;clear Cb Eb Rb Gc kg Rg;(try clear hb);(try clear jj);(try clear hk);(try clear hi);have p37:0 ≤ (t115:Int):=Ua;have q37:(t115:Int) < ((Ep.length:Int):Int):=Ua;obtain ⟨X6,qaj,laj,baj,Gaw,daF,Hal⟩:=Kd.Ul Qc.out (by omega);(first|cases laj|(injection laj with Kk Xy Yy;(first|subst Kk|(injection Kk with Kk;subst Kk));subst Yy;clear Xy));have Eay:=ga.mk baj;have iaG:=ga.mk Hal;clear baj Gaw Hal;obtain ⟨Uau,faw⟩:=Kd.Cj false Qc.out (t115:Int) p37 q37;replace p37:=eq_true p37;replace q37:=eq_true q37;obtain ⟨maz,iaz⟩:=Kd.Cj false Qc.out (t115:Int) (Ua) (Ua);have tad:=Kd.yo Qc.out (t115:Int) true)|((with_reducible refine af (t:=4) (p:=45) rfl ?_);refine Ie (t:=4) (p:=45) (v:=?jau) (w1:=(MC.setCell ⟨X6,(t115:Int).toNat,none⟩ (.bool true))) ?hg ?ho ?hn ?hr ?_;(case ho=>rfl);(case hg=>rfl);(case hn=>rfl);(case hr=>first|(go_simp;done)|(go_simp;rfl));intro w43 hw;have hg:MC.grownBy w43 (some X6):=(by rw [hw];exact tad.2);have Pm:Kd.R Kd.bool 4 w43 w.heap.size (fun _=>True) (.slice (some ⟨X6,0,none⟩) Ep.length qaj) paa:=(by rw [hw,tak.out];exact tad.1);clear tad;have Cb:=ga.mk (Pm);have Eb:=ga.mk (Kd.Jv (v:=(.slice (some ⟨X6,0,none⟩) Ep.length qaj)) uaI (Kd.Ht Qc.out) (by decide) hg);have Rb:=ga.mk (xd (g:=ya) (o:=.cells #[.slice Wa Qa.length Xa,.int .i64 Ja,.int .i64 Ga,.int .i64 Ia,.slice (some Ii) Aa.length yb] 30 (0,0)) DaH hg (Kd.Fk Qc.out oa.out (by decide)));have Gc:=ga.mk (xd (g:=lf) (o:=.cells #[.slice (some ou) ((za Aa Za).f0).length yg,.int .i64 ((za Aa Za).f1),.int .i64 ((za Aa Za).f2),.int .i64 ((za Aa Za).f3),.int .i64 ((za Aa Za).f4)] 59 (0,0)) ZaH hg (Kd.Fk Qc.out Cd.out (by decide)));have kg:=ga.mk (xd (g:=dh) (o:=.cells #[.int .i64 ((Ea ((za Aa Za).f0) ec).f0),.int .i64 ((Ea ((za Aa Za).f0) ec).f1),.int .i64 ((Ea ((za Aa Za).f0) ec).f2),.int .i64 ((Ea ((za Aa Za).f0) ec).f3),.int .i64 ((Ea ((za Aa Za).f0) ec).f4),.int .i64 ((Ea ((za Aa Za).f0) ec).f5),.string ((Ea ((za Aa Za).f0) ec).f6)] 65 (0,0)) qaI hg (Kd.Fk Qc.out Te.out (by decide)));have Rg:=ga.mk ((by rw [hw];exact ua (HB.out) Eay.out:Below w.heap.size w w43));clear Qc Pr oa Cd Te HB;have Qc:=Cb;have Pr:=Eb;have oa:=Rb;have Cd:=Gc;have Te:=kg;have HB:=Rg;clear Cb Eb Rb Gc kg Rg hg hw Pm))
                   go_roundg k3
                   case measure=>have:=pg.out;have:=Cm.out;have:=Rp.out;omega
                   case rel=>exact ⟨(paa),(wrap64 (ec + 1)),IaH,H',⟨by have:=pg.out;have:=Cm.out;have:=Rp.out;omega⟩,⟨PaH⟩,⟨HaH⟩,⟨raI⟩,⟨laI⟩⟩
                  ·rw [if_neg eV] at H;exact absurd H (by simp)
                 ·rw [if_neg xF] at H;exact absurd H (by simp)
                ·rw [if_neg nE] at H;have qT:decide (0 ≤ t115)=false:=decide_eq_false nE;clear nE;have H':=ga.mk H;clear H;have gaB:=FC.out;have zaA:=Vk.out;have faB:=EC.out;have yaA:=Uk.out;have iS:wr.cell? ⟨dh,0,none⟩=some (.int .i64 ((Ea ((za Aa Za).f0) ec).f0)):=(ia Te.out 0).trans rfl;have gS:wr.cell? ⟨dh,1,none⟩=some (.int .i64 ((Ea ((za Aa Za).f0) ec).f1)):=(ia Te.out 1).trans rfl;have fS:wr.cell? ⟨dh,2,none⟩=some (.int .i64 ((Ea ((za Aa Za).f0) ec).f2)):=(ia Te.out 2).trans rfl;have eS:wr.cell? ⟨dh,3,none⟩=some (.int .i64 ((Ea ((za Aa Za).f0) ec).f3)):=(ia Te.out 3).trans rfl;have dS:wr.cell? ⟨dh,4,none⟩=some (.int .i64 ((Ea ((za Aa Za).f0) ec).f4)):=(ia Te.out 4).trans rfl;have L5:wr.cell? ⟨dh,5,none⟩=some (.int .i64 ((Ea ((za Aa Za).f0) ec).f5)):=(ia Te.out 5).trans rfl;have K5:wr.cell? ⟨dh,6,none⟩=some (.string ((Ea ((za Aa Za).f0) ec).f6)):=(ia Te.out 6).trans rfl;have VQ:=aa Te.out 0;have UQ:=aa Te.out 1;have TQ:=aa Te.out 2;have SQ:=aa Te.out 3;have RQ:=aa Te.out 4;have K3:=aa Te.out 5;have J3:=aa Te.out 6;go_wp2_with (first|((with_reducible refine Bb (f:=87) rfl ?_);refine Tc (some 40) rfl rfl Try.func87 (by kernel_rfl) rfl #[.agg #[.int .i64 ((Ea ((za Aa Za).f0) ec).f0),.int .i64 ((Ea ((za Aa Za).f0) ec).f1),.int .i64 ((Ea ((za Aa Za).f0) ec).f2),.int .i64 ((Ea ((za Aa Za).f0) ec).f3),.int .i64 ((Ea ((za Aa Za).f0) ec).f4),.int .i64 ((Ea ((za Aa Za).f0) ec).f5),.string ((Ea ((za Aa Za).f0) ec).f6)]] rfl FaH ?_;(with_reducible refine (Th.calls ((Ea ((za Aa Za).f0) ec).f0) ((Ea ((za Aa Za).f0) ec).f1) ((Ea ((za Aa Za).f0) ec).f2) ((Ea ((za Aa Za).f0) ec).f3) ((Ea ((za Aa Za).f0) ec).f4) ((Ea ((za Aa Za).f0) ec).f5) ((Ea ((za Aa Za).f0) ec).f6) t115 _ A33.out).mono ?_);rintro e w47 ⟨rfl,hb⟩;refine ⟨_,rfl,?_⟩;have Cb:=ga.mk (Kd.oc TaH hb);have Eb:=ga.mk (Kd.oc uaI hb);have Rb:=ga.mk (Va (g:=ya) (o:=.cells #[.slice Wa Qa.length Xa,.int .i64 Ja,.int .i64 Ga,.int .i64 Ia,.slice (some Ii) Aa.length yb] 30 (0,0)) DaH hb);have Gc:=ga.mk (Va (g:=lf) (o:=.cells #[.slice (some ou) ((za Aa Za).f0).length yg,.int .i64 ((za Aa Za).f1),.int .i64 ((za Aa Za).f2),.int .i64 ((za Aa Za).f3),.int .i64 ((za Aa Za).f4)] 59 (0,0)) ZaH hb);have kg:=ga.mk (Va (g:=dh) (o:=.cells #[.int .i64 ((Ea ((za Aa Za).f0) ec).f0),.int .i64 ((Ea ((za Aa Za).f0) ec).f1),.int .i64 ((Ea ((za Aa Za).f0) ec).f2),.int .i64 ((Ea ((za Aa Za).f0) ec).f3),.int .i64 ((Ea ((za Aa Za).f0) ec).f4),.int .i64 ((Ea ((za Aa Za).f0) ec).f5),.string ((Ea ((za Aa Za).f0) ec).f6)] 65 (0,0)) qaI hb);have Rg:=ga.mk (Na kaI hb);clear Qc Pr oa Cd Te HB;have Qc:=Cb;have Pr:=Eb;have oa:=Rb;have Cd:=Gc;have Te:=kg;have HB:=Rg;clear Cb Eb Rb Gc kg Rg;(try clear hb);(try clear jj);(try clear hk);(try clear hi)))
                 go_roundg k3
                 case measure=>have:=pg.out;have:=Cm.out;have:=Rp.out;omega
                 case rel=>exact ⟨(Ep),(wrap64 (ec + 1)),IaH,H',⟨by have:=pg.out;have:=Cm.out;have:=Rp.out;omega⟩,⟨PaH⟩,⟨HaH⟩,⟨raI⟩,⟨laI⟩⟩
            ·rw [if_neg Ym] at H;exact absurd H (by simp)
           ·rw [if_neg iz] at H;exact absurd H (by simp)
          ·rw [if_neg Yv] at H;have zw:decide (ec < (((za Aa Za).f0).length:Int))=false:=decide_eq_false Yv;clear Yv
           by_cases c48:((za Aa Za).f1)=0
           ·rw [if_pos c48] at H;have Oaj:(((za Aa Za).f1) == 0)=true:=beq_iff_eq.mpr c48;have Naj:(((za Aa Za).f1) != 0)=false:=bne_eq_false_iff_eq.mpr c48;clear c48;have H':=ga.mk H;clear H;have taf:=Ro.out;have eaf:=Jf.out;have cS:wr.cell? ⟨lf,0,none⟩=some (.slice Yh ((za Aa Za).f0).length yg):=(ia Cd.out 0).trans rfl;have bS:wr.cell? ⟨lf,1,none⟩=some (.int .i64 ((za Aa Za).f1)):=(ia Cd.out 1).trans rfl;have ZR:wr.cell? ⟨lf,2,none⟩=some (.int .i64 ((za Aa Za).f2)):=(ia Cd.out 2).trans rfl;have YR:wr.cell? ⟨lf,3,none⟩=some (.int .i64 ((za Aa Za).f3)):=(ia Cd.out 3).trans rfl;have XR:wr.cell? ⟨lf,4,none⟩=some (.int .i64 ((za Aa Za).f4)):=(ia Cd.out 4).trans rfl;have OQ:=aa Cd.out 0;have NQ:=aa Cd.out 1;have MQ:=aa Cd.out 2;have LQ:=aa Cd.out 3;have KQ:=aa Cd.out 4;go_wp2
            go_roundg k2
            case measure=>have:=pg.out;have:=Cm.out;omega
            case rel=>exact ⟨(Tp),(wrap64 (Za + 1)),IaH,H',⟨by have:=pg.out;have:=Cm.out;omega⟩,⟨PaH⟩,⟨HaH⟩,⟨eaI⟩⟩
           ·rw [if_neg c48] at H;have Oaj:(((za Aa Za).f1) == 0)=false:=beq_eq_false_iff_ne.mpr c48;have Naj:(((za Aa Za).f1) != 0)=true:=bne_iff_ne.mpr c48
            by_cases c51:0 ≤ ((za Aa Za).f2)
            ·rw [if_pos c51] at H;have IaC:decide (0 ≤ ((za Aa Za).f2))=true:=decide_eq_true c51;clear c51
             by_cases c52:((za Aa Za).f2) < (Tp.length:Int)
             ·rw [if_pos c52] at H;have HaC:decide (((za Aa Za).f2) < (Tp.length:Int))=true:=decide_eq_true c52;clear c52;obtain ⟨qaa,ML⟩:∃ y_:List Bool,y_=(Tp.set (((za Aa Za).f2):Int).toNat true):=⟨_,rfl⟩;replace H:(fc.l0 k2 qaa Aa (Aa.length:Int) (wrap64 (Za + 1)))=some r:=by first|(rw [ML];with_reducible exact H)|(have Td:=(Option.bind_some _ _).symm.trans H;rw [ML];with_reducible exact Td)|(have Td:=(Option.bind_some _ _).symm.trans H;with_reducible exact Td)|with_reducible exact H|(rw [ML];exact H)|exact H
              have uak:=ga.mk ML;clear ML;have H':=ga.mk H;clear H;have caB:=Ro.out;have vaA:=Jf.out;have B5:wr.cell? ⟨lf,0,none⟩=some (.slice Yh ((za Aa Za).f0).length yg):=(ia Cd.out 0).trans rfl;have n5:wr.cell? ⟨lf,1,none⟩=some (.int .i64 ((za Aa Za).f1)):=(ia Cd.out 1).trans rfl;have m5:wr.cell? ⟨lf,2,none⟩=some (.int .i64 ((za Aa Za).f2)):=(ia Cd.out 2).trans rfl;have j5:wr.cell? ⟨lf,3,none⟩=some (.int .i64 ((za Aa Za).f3)):=(ia Cd.out 3).trans rfl;have b5:wr.cell? ⟨lf,4,none⟩=some (.int .i64 ((za Aa Za).f4)):=(ia Cd.out 4).trans rfl;have n3:=aa Cd.out 0;have m3:=aa Cd.out 1;have j3:=aa Cd.out 2;have Z2:=aa Cd.out 3;have Y2:=aa Cd.out 4;have p53:0 ≤ (((za Aa Za).f2):Int):=Ua;have q53:(((za Aa Za).f2):Int) < ((Tp.length:Int):Int):=Ua;obtain ⟨Oab,paj,Z6,Yai,Daw,aaF,Eal⟩:=Kd.Ul Qc.out (by omega);(first|cases Z6|(injection Z6 with Kk Xy Yy;(first|subst Kk|(injection Kk with Kk;subst Kk));subst Yy;clear Xy));have Bay:=ga.mk Yai;have faG:=ga.mk Eal;clear Yai Daw Eal;obtain ⟨Sau,daw⟩:=Kd.Cj false Qc.out (((za Aa Za).f2):Int) p53 q53;replace p53:=eq_true p53;replace q53:=eq_true q53;have qad:=Kd.yo Qc.out (((za Aa Za).f2):Int) true;go_wp2_with (first|((with_reducible refine af (t:=4) (p:=53) rfl ?_);refine Ie (t:=4) (p:=53) (v:=?hau) (w1:=(wr.setCell ⟨Oab,(((za Aa Za).f2):Int).toNat,none⟩ (.bool true))) ?hg ?ho ?hn ?hr ?_;(case ho=>rfl);(case hg=>rfl);(case hn=>rfl);(case hr=>first|(go_simp;done)|(go_simp;rfl));intro w57 hw;have hg:wr.grownBy w57 (some Oab):=(by rw [hw];exact qad.2);have Pm:Kd.R Kd.bool 4 w57 w.heap.size (fun _=>True) (.slice (some ⟨Oab,0,none⟩) Tp.length paj) qaa:=(by rw [hw,uak.out];exact qad.1);clear qad;have Cb:=ga.mk (Pm);have Eb:=ga.mk (xd (g:=ya) (o:=.cells #[.slice Wa Qa.length Xa,.int .i64 Ja,.int .i64 Ga,.int .i64 Ia,.slice (some Ii) Aa.length yb] 30 (0,0)) DaH hg (Kd.Fk Qc.out oa.out (by decide)));have Rb:=ga.mk (xd (g:=lf) (o:=.cells #[.slice Yh ((za Aa Za).f0).length yg,.int .i64 ((za Aa Za).f1),.int .i64 ((za Aa Za).f2),.int .i64 ((za Aa Za).f3),.int .i64 ((za Aa Za).f4)] 59 (0,0)) ZaH hg (Kd.Fk Qc.out Cd.out (by decide)));have Gc:=ga.mk ((by rw [hw];exact ua (HB.out) Bay.out:Below w.heap.size w w57));clear Qc oa Cd HB;have Qc:=Cb;have oa:=Eb;have Cd:=Rb;have HB:=Gc;clear Cb Eb Rb Gc hg hw Pm))
              go_roundg k2
              case measure=>have:=pg.out;have:=Cm.out;omega
              case rel=>exact ⟨(qaa),(wrap64 (Za + 1)),IaH,H',⟨by have:=pg.out;have:=Cm.out;omega⟩,⟨PaH⟩,⟨HaH⟩,⟨eaI⟩⟩
             ·rw [if_neg c52] at H;exact absurd H (by simp)
            ·rw [if_neg c51] at H;exact absurd H (by simp)
       ·rw [if_neg zG] at H;exact absurd H (by simp)
      ·rw [if_neg Gt] at H;exact absurd H (by simp)
     ·rw [if_neg c9] at H;have gy:decide (Za < (Aa.length:Int))=false:=decide_eq_false c9;clear c9;obtain rfl:=Option.some.inj H;go_wp2;go_ret;exact ⟨_,by first|rfl|(simp [Pa,Oa] <;> rfl)|(simp [*,Pa,Oa] <;> rfl),PaH,EaH⟩
  ·rw [if_neg c3] at H;exact absurd H (by simp)
 ·rw [if_neg c2] at H;exact absurd H (by simp)
noncomputable def ld.l0:Nat→List Int→List Int→List Bool→Int→Int→Option (List Int)
 | 0,_,_,_,_,_=>none
 | k + 1,x1,x5,x14,vB,qD=>if qD < vB then (if 0 ≤ qD then (if qD < (x14.length:Int) then (if sg false x14 qD=true then (if qD < (x1.length:Int) then (if (rd x1 qD) < 0 then (if x5.length < 17592186044416 then (ld.l0 k x1 (x5 ++ [qD]) x14 vB (wrap64 (qD + 1))) else (none)) else (ld.l0 k x1 x5 x14 vB (wrap64 (qD + 1)))) else (none)) else (ld.l0 k x1 x5 x14 vB (wrap64 (qD + 1)))) else (none)) else (none)) else (some x5)
noncomputable def ld.f (k:Nat) (Qa:List Int) (Ja:Int) (Ga:Int) (Ia:Int) (Aa:List (He)) (l1:List Int):Option (List Int):=(Fb.f k Qa Ja Ga Ia Aa l1).bind fun t102=>(if t102=true then ((fc.f k Qa Ja Ga Ia Aa).bind fun t106=>(ld.l0 k l1 (([]:List Int)) t106 (t106.length:Int) 0)) else (some ([]:List Int)))
theorem ld.calls (k:Nat) (Wa:Option Addr) (Xa:Nat) (Qa:List Int) (Ja:Int) (Ga:Int) (Ia:Int) (Jb:Option Addr) (yb:Nat) (Aa:List (He)) (A1:Option Addr) (c1:Nat) (l1:List Int) (r:List Int) (w:World) (Od:Kd.C (Kd.int .i64) w Wa Qa.length Qa) (Md:Qa.length ≤ Xa) (Re:Kd.C iq w Jb Aa.length Aa) (Qe:Aa.length ≤ yb) (Kp:Kd.C (Kd.int .i64) w A1 l1.length l1) (Xk:l1.length ≤ c1) (h:ld.f k Qa Ja Ga Ia Aa l1=some r) :
  Calls Try.prog 32 #[.agg #[.slice Wa Qa.length Xa,.int .i64 Ja,.int .i64 Ga,.int .i64 Ia,.slice Jb Aa.length yb],.slice A1 l1.length c1] w fun e w'=>∃ wm:Value,e = .returned (wm)∧Kd.R (Kd.int .i64) 3 w' w.heap.size (fun _=>True) wm r∧Below w.heap.size w w':=by
 have KB:=Try.underlying30;have fe:=ga.mk Od;have ye:=ga.mk Md;clear Od Md;have We:=ga.mk Re;have Xf:=ga.mk Qe;clear Re Qe;have Uo:=ga.mk Kp;have FG:=ga.mk Xk;clear Kp Xk;have HB:=ga.mk (Below.refl w.heap.size w);have H:((Fb.f k Qa Ja Ga Ia Aa l1).bind fun t102=>(if t102=true then ((fc.f k Qa Ja Ga Ia Aa).bind fun t106=>(ld.l0 k l1 (([]:List Int)) t106 (t106.length:Int) 0)) else (some ([]:List Int))))=some r:=h;clear h;replace H:=Option.bind_eq_some_iff.mp H;obtain ⟨t102,Zv,H⟩:=H;replace H:(if t102=true then ((fc.f k Qa Ja Ga Ia Aa).bind fun t106=>(ld.l0 k l1 (([]:List Int)) t106 (t106.length:Int) 0)) else (some ([]:List Int)))=some r:=H;have A3:=ga.mk Zv;clear Zv
 by_cases c4:t102=true
 ·subst c4;have H1:((fc.f k Qa Ja Ga Ia Aa).bind fun t106=>(ld.l0 k l1 (([]:List Int)) t106 (t106.length:Int) 0))=some r:=by rw [if_pos rfl] at H;exact H
  clear H;have H:=H1;clear H1;obtain ⟨qg,Ql⟩:∃ y_:List Int,y_=(([]:List Int)):=⟨_,rfl⟩;replace H:((fc.f k Qa Ja Ga Ia Aa).bind fun t106=>(ld.l0 k l1 qg t106 (t106.length:Int) 0))=some r:=by first|(rw [Ql];with_reducible exact H)|(have Td:=(Option.bind_some _ _).symm.trans H;rw [Ql];with_reducible exact Td)|(have Td:=(Option.bind_some _ _).symm.trans H;with_reducible exact Td)|with_reducible exact H|(rw [Ql];exact H)|exact H
  have XC:=ga.mk Ql;clear Ql;replace H:=Option.bind_eq_some_iff.mp H;obtain ⟨t106,gN,H⟩:=H;replace H:(ld.l0 k l1 qg t106 (t106.length:Int) 0)=some r:=H;have A5:=ga.mk gN;clear gN;have H':=ga.mk H;clear H;go_enter Try.func32,Try.ntmps32;go_wp2_with (first|((with_reducible refine qb (N:=2) rfl ?_);refine Ib ?hg (N:=2) ?hd (cs:=#[.slice Wa Qa.length Xa,.int .i64 Ja,.int .i64 Ga,.int .i64 Ia,.slice Jb Aa.length yb]) (t:=30) ?hr ?_;(case hd=>rfl);(case hg=>rfl);(case hr=>first|(go_simp;done)|(go_simp;rfl));intro ya hg w6 Sb hb;have Cb:=ga.mk (Na CaH hb);have Eb:=ga.mk (Sb);have Rb:=ga.mk ((by rw [hg];exact (La CaH):w.heap.size ≤ ya));have Gc:=ga.mk ((by rw [hg];exact (La CaH):w.heap.size ≤ ya));clear HB;have HB:=Cb;have oa:=Eb;have Nd:=Rb;have Ta:=Gc;clear Cb Eb Rb Gc hb Sb hg;have Dk:w6.cell? ⟨ya,0,none⟩=some (.slice Wa Qa.length Xa):=(ia oa.out 0).trans rfl;have Ck:w6.cell? ⟨ya,1,none⟩=some (.int .i64 Ja):=(ia oa.out 1).trans rfl;have Bk:w6.cell? ⟨ya,2,none⟩=some (.int .i64 Ga):=(ia oa.out 2).trans rfl;have Ak:w6.cell? ⟨ya,3,none⟩=some (.int .i64 Ia):=(ia oa.out 3).trans rfl;have zk:w6.cell? ⟨ya,4,none⟩=some (.slice Jb Aa.length yb):=(ia oa.out 4).trans rfl;have xk:=aa oa.out 0;have vk:=aa oa.out 1;have uk:=aa oa.out 2;have sk:=aa oa.out 3;have qk:=aa oa.out 4)|((with_reducible refine Bb (f:=58) rfl ?_);refine Tc (some 10) rfl rfl Try.func58 (by kernel_rfl) rfl #[.agg #[.slice Wa Qa.length Xa,.int .i64 Ja,.int .i64 Ga,.int .i64 Ia,.slice Jb Aa.length yb],.slice A1 l1.length c1] rfl FaH ?_;(with_reducible refine (Fb.calls k _ _ Qa Ja Ga Ia _ _ Aa _ _ l1 true _ ?yc ?uc ?td ?qd ?Hp ?Gp A3.out).mono ?_);(case yc=>repeat (first|exact (Kd.Ab fe.out HB.out)|(with_reducible refine Kd.Lb ?_ _)|(with_reducible refine Kd.Kb ?_ _)|(with_reducible refine Kd.Xb ?_)));(case uc=>exact ye.out);(case td=>repeat (first|exact (Kd.Ab We.out HB.out)|(with_reducible refine Kd.Lb ?_ _)|(with_reducible refine Kd.Kb ?_ _)|(with_reducible refine Kd.Xb ?_)));(case qd=>exact Xf.out);(case Hp=>repeat (first|exact (Kd.Ab Uo.out HB.out)|(with_reducible refine Kd.Lb ?_ _)|(with_reducible refine Kd.Kb ?_ _)|(with_reducible refine Kd.Xb ?_)));(case Gp=>exact FG.out);rintro e w8 ⟨rfl,hb⟩;refine ⟨_,rfl,?_⟩;have Cb:=ga.mk (Va (g:=ya) (o:=.cells #[.slice Wa Qa.length Xa,.int .i64 Ja,.int .i64 Ga,.int .i64 Ia,.slice Jb Aa.length yb] 30 (0,0)) DaH hb);have Eb:=ga.mk (Na BaH hb);clear oa HB;have oa:=Cb;have HB:=Eb;clear Cb Eb;(try clear hb);(try clear jj);(try clear hk);(try clear hi))|((with_reducible refine qb (N:=12) rfl ?_);refine Kd.Vj (Kd.int .i64) _ 3 ?hg (N:=12) ?hd (xs:=([]:List Int)) (inner:=[]) (ok:=fun _=>True) (Di:=fun _=>True) ?hr ?hp (fun _ hk=>hk) trivial (Below.refl _ _) (Nat.le_refl _) (by simp) ?_;(case hd=>rfl);(case hg=>rfl);(case hr=>first|(go_simp;done)|(go_simp;rfl));(case hp=>exact (Sd.none _ _));intro tL w9 ZW hb Wm Ye;clear Wm Ye;(first|rw [← XC.out] at ZW|(simp only [Int.reduceToNat] at ZW;rw [← XC.out] at ZW));have Cb:=ga.mk (Kd.Wd ZW (La BaH));have Eb:=ga.mk (Va (g:=ya) (o:=.cells #[.slice Wa Qa.length Xa,.int .i64 Ja,.int .i64 Ga,.int .i64 Ia,.slice Jb Aa.length yb] 30 (0,0)) DaH hb);have Rb:=ga.mk (Na BaH hb);clear oa HB;have Sr:=Cb;have oa:=Eb;have HB:=Rb;clear Cb Eb Rb hb ZW;have qo:w9.cell? ⟨ya,0,none⟩=some (.slice Wa Qa.length Xa):=(ia oa.out 0).trans rfl;have oo:w9.cell? ⟨ya,1,none⟩=some (.int .i64 Ja):=(ia oa.out 1).trans rfl;have mo:w9.cell? ⟨ya,2,none⟩=some (.int .i64 Ga):=(ia oa.out 2).trans rfl;have jo:w9.cell? ⟨ya,3,none⟩=some (.int .i64 Ia):=(ia oa.out 3).trans rfl;have fo:w9.cell? ⟨ya,4,none⟩=some (.slice Jb Aa.length yb):=(ia oa.out 4).trans rfl;have eo:=aa oa.out 0;have Zn:=aa oa.out 1;have Yn:=aa oa.out 2;have Xn:=aa oa.out 3;have Wn:=aa oa.out 4)|((with_reducible refine Bb (f:=62) rfl ?_);refine Tc (some 14) rfl rfl Try.func62 (by kernel_rfl) rfl #[.agg #[.slice Wa Qa.length Xa,.int .i64 Ja,.int .i64 Ga,.int .i64 Ia,.slice Jb Aa.length yb]] rfl FaH ?_;(with_reducible refine (fc.calls k _ _ Qa Ja Ga Ia _ _ Aa t106 _ ?yc ?uc ?td ?qd A5.out).mono ?_);(case yc=>repeat (first|exact (Kd.Ab fe.out HB.out)|(with_reducible refine Kd.Lb ?_ _)|(with_reducible refine Kd.Kb ?_ _)|(with_reducible refine Kd.Xb ?_)));(case uc=>exact ye.out);(case td=>repeat (first|exact (Kd.Ab We.out HB.out)|(with_reducible refine Kd.Lb ?_ _)|(with_reducible refine Kd.Kb ?_ _)|(with_reducible refine Kd.Xb ?_)));(case qd=>exact Xf.out);rintro e Xr ⟨NV,rfl,Hi,hb⟩;refine ⟨_,rfl,?_⟩;have Cb:=ga.mk (Kd.oc (by (with_reducible repeat (first|apply Kd.mb|apply Kd.jb|apply Kd.Gb));exact Sr.out) hb);have Eb:=ga.mk (Kd.Wd Hi (La BaH));have Rb:=ga.mk (Va (g:=ya) (o:=.cells #[.slice Wa Qa.length Xa,.int .i64 Ja,.int .i64 Ga,.int .i64 Ia,.slice Jb Aa.length yb] 30 (0,0)) DaH hb);have Gc:=ga.mk (Na BaH hb);clear Sr oa HB;have Sr:=Cb;have Ok:=Eb;have oa:=Rb;have HB:=Gc;clear Cb Eb Rb Gc;(try clear hb);(try clear jj);(try clear hk);(try clear hi);(try clear Hi);obtain ⟨bL,Er,zO⟩:=Kd.Bd Ok.out;subst zO))
  go_loopg [5,16] k (fun kq v5 v16 w'=>∃ (Ka:List Int) (Wf:Int),v16 = .int .i64 Wf∧ga (ld.l0 kq l1 Ka t106 (t106.length:Int) Wf=some r)∧ga (kq ≤ k)∧ga (Kd.R (Kd.int .i64) 3 w' w.heap.size (fun _=>True) v5 Ka)∧ga (Kd.R Kd.bool 4 w' w.heap.size (fun _=>True) (.slice bL t106.length Er) t106)∧ga (w'.heap[ya]? = some (.cells #[(.slice Wa Qa.length Xa),.int .i64 Ja,.int .i64 Ga,.int .i64 Ia,(.slice Jb Aa.length yb)] 30 (0,0)))∧ga (Below w.heap.size w w'))
  case atStart=>exact ⟨(qg),(0),IaH,H',⟨Nat.le_refl _⟩,⟨by (with_reducible repeat (first|apply Kd.mb|apply Kd.jb|apply Kd.Gb));exact Sr.out⟩,⟨by (with_reducible repeat (first|apply Kd.mb|apply Kd.jb|apply Kd.Gb));exact Ok.out⟩,⟨HaH⟩,⟨EaH⟩⟩
  case round =>
   clear H'
   try clear c1
   try clear p2
   try clear c3
   try clear c4
   try clear c5
   try clear c6
   try clear qo
   try clear oo
   try clear mo
   try clear jo
   try clear fo
   try clear Dk
   try clear Ck
   try clear Bk
   try clear Ak
   try clear zk
   try clear eo
   try clear Zn
   try clear Yn
   try clear Xn
   try clear Wn
   try clear xk
   try clear vk
   try clear uk
   try clear sk
   try clear qk
   (try clear HA);(try clear pg);(try clear Zh);(try clear Iy);(try clear oa);(try clear HB);obtain ⟨Ka,Wf,rfl,HA,pg,Zh,Iy,oa,HB⟩:=hrel;cases gk with
   | zero=>exact absurd HA.out (by simp [ld.l0])
   | succ k1 =>
    have H:=HA.out;clear HA;simp only [ld.l0] at H
    by_cases nL:Wf < (t106.length:Int)
    ·rw [if_pos nL] at H;have d_:decide (Wf < (t106.length:Int))=true:=decide_eq_true nL;clear nL
     by_cases Yv:0 ≤ Wf
     ·rw [if_pos Yv] at H;have zw:decide (0 ≤ Wf)=true:=decide_eq_true Yv;clear Yv
      by_cases iz:Wf < (t106.length:Int)
      ·rw [if_pos iz] at H;have JM:decide (Wf < (t106.length:Int))=true:=decide_eq_true iz;clear iz;obtain ⟨dak,FX⟩:∃ b_:Bool,b_=(sg false t106 Wf):=⟨_,rfl⟩;replace H:(if dak=true then (if Wf < (l1.length:Int) then (if (rd l1 Wf) < 0 then (if Ka.length < 17592186044416 then (ld.l0 k1 l1 (Ka ++ [Wf]) t106 (t106.length:Int) (wrap64 (Wf + 1))) else (none)) else (ld.l0 k1 l1 Ka t106 (t106.length:Int) (wrap64 (Wf + 1)))) else (none)) else (ld.l0 k1 l1 Ka t106 (t106.length:Int) (wrap64 (Wf + 1))))=some r:=by rw [← FX] at H;exact H
       have EY:=ga.mk FX;clear FX
       by_cases Ko:dak=true
       ·subst Ko;have H1:(if Wf < (l1.length:Int) then (if (rd l1 Wf) < 0 then (if Ka.length < 17592186044416 then (ld.l0 k1 l1 (Ka ++ [Wf]) t106 (t106.length:Int) (wrap64 (Wf + 1))) else (none)) else (ld.l0 k1 l1 Ka t106 (t106.length:Int) (wrap64 (Wf + 1)))) else (none))=some r:=by rw [if_pos rfl] at H;exact H
        clear H;have H:=H1;clear H1
        by_cases Ll:Wf < (l1.length:Int)
        ·rw [if_pos Ll] at H;have Kr:decide (Wf < (l1.length:Int))=true:=decide_eq_true Ll;clear Ll
         by_cases vm:(rd l1 Wf) < 0
         ·rw [if_pos vm] at H;have Jr:decide ((rd l1 Wf) < 0)=true:=decide_eq_true vm;clear vm
          by_cases Ir:Ka.length < 17592186044416
          ·rw [if_pos Ir] at H;have Dak:=ga.mk Ir;clear Ir;obtain ⟨Zm,sj⟩:∃ y_:List Int,y_=(Ka ++ [Wf]):=⟨_,rfl⟩;replace H:(ld.l0 k1 l1 Zm t106 (t106.length:Int) (wrap64 (Wf + 1)))=some r:=by first|(rw [sj];with_reducible exact H)|(have Td:=(Option.bind_some _ _).symm.trans H;rw [sj];with_reducible exact Td)|(have Td:=(Option.bind_some _ _).symm.trans H;with_reducible exact Td)|with_reducible exact H|(rw [sj];exact H)|exact H
           have Hy:=ga.mk sj;clear sj;have H':=ga.mk H;clear H;have cg:0 ≤ (Wf:Int):=Ua;have bg:Wf < (t106.length:Int):=Ua;obtain ⟨Tf,Yk,Pd⟩:=Kd.Mg (Kd.Vb Iy.out).2.2 Wf cg bg;(try rw [← EY.out] at Pd);cases Yk;replace cg:=eq_true cg;replace bg:=eq_true bg;have Vi:0 ≤ (Wf:Int):=Ua;have Ui:Wf < (l1.length:Int):=Ua;obtain ⟨xo,Cr,Oe⟩:=Kd.Rf Uo.out Wf Vi Ui;cases Cr;replace Oe:=Sa HB.out Oe;replace Vi:=eq_true Vi;replace Ui:=eq_true Ui;go_wp2_with (first|((with_reducible refine we (b:=.append) (xs:=#[.tmp 29,.tmp 31]) rfl ?_);at_builtin;refine Kd.Xh (Kd.int .i64) (w0:=w) w.heap.size rfl (.tmp 29) (.tmp 31) 22 3 (.int .i64 0) 8 rfl Try.underlying22 info3 rfl (by decide) (by omega) u5 Ka Wf [.int .i64 Wf] (fun _=>True) (fun _=>False) rfl rfl ?aP (fun _ hk=>hk.elim) ?aF ?aO ?aB ?aS ?aL ?_;(case aP=>exact rfl);(case aB=>exact BaH);(case aF=>exact (fun _ _=>trivial));(case aO=>exact taI);(case aS=>exact (La BaH));(case aL=>have:=Dak.out;omega);intro MV CE ho hb hg hat;rw [← Hy.out] at ho;have Cb:=ga.mk (Kd.Jv (by (with_reducible repeat (first|apply Kd.mb|apply Kd.jb|apply Kd.Gb));exact Iy.out) (Kd.Ht taI) (by decide) hg);have Eb:=ga.mk (xd (g:=ya) (o:=.cells #[.slice Wa Qa.length Xa,.int .i64 Ja,.int .i64 Ga,.int .i64 Ia,.slice Jb Aa.length yb] 30 (0,0)) DaH hg (Kd.Fk Zh.out oa.out (by decide)));have Rb:=ga.mk (hb);have Gc:=ga.mk (ho);clear Iy oa HB Zh;have Iy:=Cb;have oa:=Eb;have HB:=Rb;have Bw:=Gc;clear Cb Eb Rb Gc ho hb hg hat))
           go_roundg k1
           case measure=>have:=pg.out;omega
           case rel=>exact ⟨(Zm),(wrap64 (Wf + 1)),IaH,H',⟨by have:=pg.out;omega⟩,⟨by (with_reducible repeat (first|apply Kd.mb|apply Kd.jb|apply Kd.Gb));exact Bw.out⟩,⟨by (with_reducible repeat (first|apply Kd.mb|apply Kd.jb|apply Kd.Gb));exact Iy.out⟩,⟨HaH⟩,⟨EaH⟩⟩
          ·rw [if_neg Ir] at H;exact absurd H (by simp)
         ·rw [if_neg vm] at H;have Jr:decide ((rd l1 Wf) < 0)=false:=decide_eq_false vm;clear vm;have H':=ga.mk H;clear H;have cg:0 ≤ (Wf:Int):=Ua;have bg:Wf < (t106.length:Int):=Ua;obtain ⟨Tf,Yk,Pd⟩:=Kd.Mg (Kd.Vb Iy.out).2.2 Wf cg bg;(try rw [← EY.out] at Pd);cases Yk;replace cg:=eq_true cg;replace bg:=eq_true bg;have Vi:0 ≤ (Wf:Int):=Ua;have Ui:Wf < (l1.length:Int):=Ua;obtain ⟨xo,Cr,Oe⟩:=Kd.Rf Uo.out Wf Vi Ui;cases Cr;replace Oe:=Sa HB.out Oe;replace Vi:=eq_true Vi;replace Ui:=eq_true Ui;go_wp2
          go_roundg k1
          case measure=>have:=pg.out;omega
          case rel=>exact ⟨(Ka),(wrap64 (Wf + 1)),IaH,H',⟨by have:=pg.out;omega⟩,⟨daI⟩,⟨by (with_reducible repeat (first|apply Kd.mb|apply Kd.jb|apply Kd.Gb));exact Iy.out⟩,⟨HaH⟩,⟨EaH⟩⟩
        ·rw [if_neg Ll] at H;exact absurd H (by simp)
       ·replace Ko:=Bool.eq_false_iff.mpr Ko;subst Ko;have H1:(ld.l0 k1 l1 Ka t106 (t106.length:Int) (wrap64 (Wf + 1)))=some r:=by rw [if_neg (show ¬ (false=true) by decide)] at H;exact H
        clear H;have H:=H1;clear H1;have H':=ga.mk H;clear H;have cg:0 ≤ (Wf:Int):=Ua;have bg:Wf < (t106.length:Int):=Ua;obtain ⟨Tf,Yk,Pd⟩:=Kd.Mg (Kd.Vb Iy.out).2.2 Wf cg bg;(try rw [← EY.out] at Pd);cases Yk;replace cg:=eq_true cg;replace bg:=eq_true bg;go_wp2
        go_roundg k1
        case measure=>have:=pg.out;omega
        case rel=>exact ⟨(Ka),(wrap64 (Wf + 1)),IaH,H',⟨by have:=pg.out;omega⟩,⟨daI⟩,⟨by (with_reducible repeat (first|apply Kd.mb|apply Kd.jb|apply Kd.Gb));exact Iy.out⟩,⟨HaH⟩,⟨EaH⟩⟩
      ·rw [if_neg iz] at H;exact absurd H (by simp)
     ·rw [if_neg Yv] at H;exact absurd H (by simp)
    ·rw [if_neg nL] at H;have d_:decide (Wf < (t106.length:Int))=false:=decide_eq_false nL;clear nL;obtain rfl:=Option.some.inj H;go_wp2;go_ret;exact ⟨_,by first|rfl|(simp [Pa,Oa] <;> rfl)|(simp [*,Pa,Oa] <;> rfl),daI,EaH⟩
 ·replace c4:=Bool.eq_false_iff.mpr c4;subst c4;have H1:(some ([]:List Int))=some r:=by rw [if_neg (show ¬ (false=true) by decide)] at H;exact H
  clear H;have H:=H1;clear H1;obtain rfl:=Option.some.inj H;go_enter Try.func32,Try.ntmps32;go_wp2_with (first|((with_reducible refine qb (N:=2) rfl ?_);refine Ib ?hg (N:=2) ?hd (cs:=#[.slice Wa Qa.length Xa,.int .i64 Ja,.int .i64 Ga,.int .i64 Ia,.slice Jb Aa.length yb]) (t:=30) ?hr ?_;(case hd=>rfl);(case hg=>rfl);(case hr=>first|(go_simp;done)|(go_simp;rfl));intro ya hg Qq Sb hb;have Cb:=ga.mk (Na CaH hb);have Eb:=ga.mk (Sb);have Rb:=ga.mk ((by rw [hg];exact (La CaH):w.heap.size ≤ ya));have Gc:=ga.mk ((by rw [hg];exact (La CaH):w.heap.size ≤ ya));clear HB;have HB:=Cb;have oa:=Eb;have Nd:=Rb;have Ta:=Gc;clear Cb Eb Rb Gc hb Sb hg;have Nq:Qq.cell? ⟨ya,0,none⟩=some (.slice Wa Qa.length Xa):=(ia oa.out 0).trans rfl;have Mq:Qq.cell? ⟨ya,1,none⟩=some (.int .i64 Ja):=(ia oa.out 1).trans rfl;have Kq:Qq.cell? ⟨ya,2,none⟩=some (.int .i64 Ga):=(ia oa.out 2).trans rfl;have Jq:Qq.cell? ⟨ya,3,none⟩=some (.int .i64 Ia):=(ia oa.out 3).trans rfl;have Iq:Qq.cell? ⟨ya,4,none⟩=some (.slice Jb Aa.length yb):=(ia oa.out 4).trans rfl;have Hq:=aa oa.out 0;have Gq:=aa oa.out 1;have Fq:=aa oa.out 2;have Dq:=aa oa.out 3;have Cq:=aa oa.out 4)|((with_reducible refine Bb (f:=58) rfl ?_);refine Tc (some 10) rfl rfl Try.func58 (by kernel_rfl) rfl #[.agg #[.slice Wa Qa.length Xa,.int .i64 Ja,.int .i64 Ga,.int .i64 Ia,.slice Jb Aa.length yb],.slice A1 l1.length c1] rfl FaH ?_;(with_reducible refine (Fb.calls k _ _ Qa Ja Ga Ia _ _ Aa _ _ l1 false _ ?yc ?uc ?td ?qd ?Hp ?Gp A3.out).mono ?_);(case yc=>repeat (first|exact (Kd.Ab fe.out HB.out)|(with_reducible refine Kd.Lb ?_ _)|(with_reducible refine Kd.Kb ?_ _)|(with_reducible refine Kd.Xb ?_)));(case uc=>exact ye.out);(case td=>repeat (first|exact (Kd.Ab We.out HB.out)|(with_reducible refine Kd.Lb ?_ _)|(with_reducible refine Kd.Kb ?_ _)|(with_reducible refine Kd.Xb ?_)));(case qd=>exact Xf.out);(case Hp=>repeat (first|exact (Kd.Ab Uo.out HB.out)|(with_reducible refine Kd.Lb ?_ _)|(with_reducible refine Kd.Kb ?_ _)|(with_reducible refine Kd.Xb ?_)));(case Gp=>exact FG.out);rintro e Jy ⟨rfl,hb⟩;refine ⟨_,rfl,?_⟩;have Cb:=ga.mk (Va (g:=ya) (o:=.cells #[.slice Wa Qa.length Xa,.int .i64 Ja,.int .i64 Ga,.int .i64 Ia,.slice Jb Aa.length yb] 30 (0,0)) DaH hb);have Eb:=ga.mk (Na BaH hb);clear oa HB;have oa:=Cb;have HB:=Eb;clear Cb Eb;(try clear hb);(try clear jj);(try clear hk);(try clear hi)));go_ret;exact ⟨_,by first|rfl|(simp [Pa,Oa] <;> rfl)|(simp [*,Pa,Oa] <;> rfl),by first|exact Kd.eH _ _ _ _ _|exact Kd.t_ _ _ _ _ _|exact Kd.o_ _ _ _ _ _|exact Kd.r_ _ _ _ _ _|exact Kd.OM _ _ _ _ _,EaH⟩
section
variable {n:Nat} {T:List (List Bool)} {R:List (List Int)}
end
theorem nW {l0:List Int} {p v:Int} {n:Nat} {bs:List He} (hO:Lm bs n):Ej.f l0 p v (n:Int) bs=some (kn bs n):=by
 unfold Ej.f;rw [if_pos ⟨by omega,by rw [Int.toNat_natCast];exact hO⟩,Int.toNat_natCast]
theorem QV {l0:List Int} {p v:Int} {n:Nat} {bs:List He} (hO:Lm bs n):jh.f l0 p v (n:Int) bs=some (kn bs n):=by
 unfold jh.f;rw [if_pos ⟨by omega,by rw [Int.toNat_natCast];exact hO⟩,Int.toNat_natCast]
end Go.Proofs.Ytkigbdceceeenaa.P
end
section
namespace Go.Proofs.Ytkigbdceceeenaa.P
open Go.RowKit Go.Proofs.Ma.Wb Go.Proofs.Ma.Jd Go.Proofs.Ma.Fe
set_option linter.unusedVariables false
set_option linter.unusedSimpArgs false
def P8 (T:List (List Bool)) (cs:List Int) (a b:Nat):Prop:=seen (Be T a) b=true→rd cs (a:Int) ≥ 0→¬ rd cs (a:Int)=rd cs (b:Int)
section
variable {n:Nat} {T:List (List Bool)} {cs:List Int}
theorem uM {a:Nat} {Q:Prop} (hc:cs.length=n) (hT:T.length=n) (hr:(Be T a).length=n) (ha:a < n) (hn:n ≤ 1048576) (m:Int)
  (hK:∃ r,Ev (fun k=>Fb.l0 k cs T m ((a + 1:Nat):Int)) r∧(r=true ↔ Q)) :
  ∀ (d b:Nat),b + d=n→∃ r,Ev (fun k=>Fb.l1 k cs (a:Int) T m (a:Int) (Be T a) (n:Int) (b:Int)) r∧(r=true ↔ (∀ j,b ≤ j→j < n→P8 T cs a j)∧Q):=by
 intro d
 induction d with
 | zero =>
  intro b hb;obtain rfl:b=n:=by omega
  obtain ⟨r,r1,r2⟩:=hK;refine ⟨r,Ev.step (fun k=>by rw [Fb.l1]) ?_,r2.trans ⟨fun h=>⟨fun j h1 h2=>by omega,h⟩,fun h=>h.2⟩⟩;rw [Rd ha (by omega)];exact Ev.neg (by omega) r1
 | succ d ih =>
  intro b hb;have O9:b < n:=by omega
  obtain ⟨r,r1,r2⟩:=ih (b + 1) (by omega)
  have more:P8 T cs a b→(r=true ↔ (∀ j,b ≤ j→j < n→P8 T cs a j)∧Q):=fun h=>r2.trans ⟨fun h2=>⟨fun j h3 h4=>by
   by_cases e:j=b
   ·subst e;exact h
   ·exact h2.1 j (by omega) h4,h2.2⟩,fun h2=>⟨fun j h3 h4=>h2.1 j (by omega) h4,h2.2⟩⟩
  by_cases hs:seen (Be T a) b=true
  ·by_cases h0:rd cs (a:Int) ≥ 0
   ·by_cases he:rd cs (a:Int)=rd cs (b:Int)
    ·refine ⟨false,Ev.step (fun k=>by rw [Fb.l1]) ?_,⟨fun h=>(by cases h),fun h=>absurd he (h.1 b (Nat.le_refl _) O9 hs h0)⟩⟩;refine Ev.pos (by omega) (Ev.pos (by omega) (Ev.pos (by omega) ?_));rw [Oj];exact Ev.pos hs (Ev.pos (by omega) (Ev.pos (by omega) (Ev.pos h0 (Ev.pos (by omega) (Ev.pos he (Ev.now _))))))
    ·refine ⟨r,Ev.step (fun k=>by rw [Fb.l1]) ?_,more (fun _ _=>he)⟩;refine Ev.pos (by omega) (Ev.pos (by omega) (Ev.pos (by omega) ?_));rw [Oj,Rd O9 (by omega)];exact Ev.pos hs (Ev.pos (by omega) (Ev.pos (by omega) (Ev.pos h0 (Ev.pos (by omega) (Ev.neg he r1)))))
   ·refine ⟨r,Ev.step (fun k=>by rw [Fb.l1]) ?_,more (fun _ h=>absurd h h0)⟩;refine Ev.pos (by omega) (Ev.pos (by omega) (Ev.pos (by omega) ?_));rw [Oj,Rd O9 (by omega)];exact Ev.pos hs (Ev.pos (by omega) (Ev.pos (by omega) (Ev.neg h0 r1)))
  ·refine ⟨r,Ev.step (fun k=>by rw [Fb.l1]) ?_,more (fun h=>absurd h hs)⟩;refine Ev.pos (by omega) (Ev.pos (by omega) (Ev.pos (by omega) ?_));rw [Oj,Rd O9 (by omega)];exact Ev.neg hs r1
theorem vM (hc:cs.length=n) (hT:T.length=n) (hr:∀ a,a < n→(Be T a).length=n) (hn:n ≤ 1048576) :
  ∀ (d a:Nat),a + d=n→∃ r,Ev (fun k=>Fb.l0 k cs T (n:Int) (a:Int)) r∧(r=true ↔ ∀ i,a ≤ i→i < n→mm (rd cs (i:Int)) (-1) 11=true∧∀ j,j < n→P8 T cs i j):=by
 intro d
 induction d with
 | zero =>
  intro a ha;obtain rfl:a=n:=by omega
  refine ⟨true,Ev.step (fun k=>by rw [Fb.l0]) ?_,⟨fun _ i h1 h2=>by omega,fun _=>rfl⟩⟩;exact Ev.neg (by omega) (Ev.now _)
 | succ d ih =>
  intro a ha;have K0:a < n:=by omega
  have hl:=uM hc hT (hr a K0) K0 hn (n:Int) (ih (a + 1) (by omega)) n 0 (by omega);have hin:=dF (rd cs (a:Int)) (-1) 11
  by_cases hb:mm (rd cs (a:Int)) (-1) 11=true
  ·obtain ⟨r,r1,r2⟩:=hl;refine ⟨r,Ev.step (fun k=>by rw [Fb.l0]) ?_,r2.trans ⟨fun h i h1 h2=>?_,fun h=>⟨fun j _ hj=>(h a (Nat.le_refl _) K0).2 j hj,fun i h1 h2=>h i (by omega) h2⟩⟩⟩
   ·refine Ev.pos (by omega) (Ev.pos (by omega) (Ev.pos (by omega) (Ev.pos (by omega) (Ev.bind (Ev.here hin) (Ev.pos hb ?_)))));rw [wu,hr a K0];exact r1
   ·by_cases e:i=a
    ·subst e;exact ⟨hb,fun j hj=>h.1 j (Nat.zero_le _) hj⟩
    ·exact h.2 i (by omega) h2
  ·refine ⟨false,Ev.step (fun k=>by rw [Fb.l0]) ?_,⟨fun h=>(by cases h),fun h=>absurd (h a (Nat.le_refl _) K0).1 hb⟩⟩;exact Ev.pos (by omega) (Ev.pos (by omega) (Ev.pos (by omega) (Ev.pos (by omega) (Ev.bind (Ev.here hin) (Ev.neg hb (Ev.now _))))))
theorem mM {a:Nat} {Q:Prop} (hc:cs.length=n) (hT:T.length=n) (hr:(Be T a).length=n) (ha:a < n) (hn:n ≤ 1048576)
  (hK:∃ r,Ev (fun k=>Mb.l0 k cs T ((a + 1:Nat):Int)) r∧(r=true ↔ Q)) :
  ∀ (d b:Nat),b + d=a→∃ r,Ev (fun k=>Mb.l1 k cs T (a:Int) (b:Int)) r∧(r=true ↔ (∀ j,b ≤ j→j < a→P8 T cs a j)∧Q):=by
 intro d
 induction d with
 | zero =>
  intro b hb;obtain rfl:b=a:=by omega
  obtain ⟨r,r1,r2⟩:=hK;refine ⟨r,Ev.step (fun k=>by rw [Mb.l1]) ?_,r2.trans ⟨fun h=>⟨fun j h1 h2=>by omega,h⟩,fun h=>h.2⟩⟩;rw [Rd ha (by omega)];exact Ev.neg (by omega) r1
 | succ d ih =>
  intro b hb;have O9:b < n:=by omega
  obtain ⟨r,r1,r2⟩:=ih (b + 1) (by omega)
  have more:P8 T cs a b→(r=true ↔ (∀ j,b ≤ j→j < a→P8 T cs a j)∧Q):=fun h=>r2.trans ⟨fun h2=>⟨fun j h3 h4=>by
   by_cases e:j=b
   ·subst e;exact h
   ·exact h2.1 j (by omega) h4,h2.2⟩,fun h2=>⟨fun j h3 h4=>h2.1 j (by omega) h4,h2.2⟩⟩
  by_cases hs:seen (Be T a) b=true
  ·by_cases h0:rd cs (a:Int) ≥ 0
   ·by_cases he:rd cs (a:Int)=rd cs (b:Int)
    ·refine ⟨false,Ev.step (fun k=>by rw [Mb.l1]) ?_,⟨fun h=>(by cases h),fun h=>absurd he (h.1 b (Nat.le_refl _) (by omega) hs h0)⟩⟩;rw [wu];refine Ev.pos (by omega) (Ev.pos (by omega) (Ev.pos (by omega) (Ev.pos (by omega) (Ev.pos (by omega) ?_))));rw [Oj];exact Ev.pos hs (Ev.pos (by omega) (Ev.pos h0 (Ev.pos (by omega) (Ev.pos he (Ev.now _)))))
    ·refine ⟨r,Ev.step (fun k=>by rw [Mb.l1]) ?_,more (fun _ _=>he)⟩;rw [wu];refine Ev.pos (by omega) (Ev.pos (by omega) (Ev.pos (by omega) (Ev.pos (by omega) (Ev.pos (by omega) ?_))));rw [Oj,Rd O9 (by omega)];exact Ev.pos hs (Ev.pos (by omega) (Ev.pos h0 (Ev.pos (by omega) (Ev.neg he r1))))
   ·refine ⟨r,Ev.step (fun k=>by rw [Mb.l1]) ?_,more (fun _ h=>absurd h h0)⟩;rw [wu];refine Ev.pos (by omega) (Ev.pos (by omega) (Ev.pos (by omega) (Ev.pos (by omega) (Ev.pos (by omega) ?_))));rw [Oj,Rd O9 (by omega)];exact Ev.pos hs (Ev.pos (by omega) (Ev.neg h0 r1))
  ·refine ⟨r,Ev.step (fun k=>by rw [Mb.l1]) ?_,more (fun h=>absurd h hs)⟩;rw [wu];refine Ev.pos (by omega) (Ev.pos (by omega) (Ev.pos (by omega) (Ev.pos (by omega) (Ev.pos (by omega) ?_))));rw [Oj,Rd O9 (by omega)];exact Ev.neg hs r1
theorem nM (hc:cs.length=n) (hT:T.length=n) (hr:∀ a,a < n→(Be T a).length=n) (hn:n ≤ 1048576) :
  ∀ (d a:Nat),a + d=n→∃ r,Ev (fun k=>Mb.l0 k cs T (a:Int)) r∧(r=true ↔ ∀ i,a ≤ i→i < n→mm (rd cs (i:Int)) (-1) 11=true∧∀ j,j < i→P8 T cs i j):=by
 intro d
 induction d with
 | zero =>
  intro a ha;obtain rfl:a=n:=by omega
  refine ⟨true,Ev.step (fun k=>by rw [Mb.l0]) ?_,⟨fun _ i h1 h2=>by omega,fun _=>rfl⟩⟩;exact Ev.neg (by omega) (Ev.now _)
 | succ d ih =>
  intro a ha;have K0:a < n:=by omega
  have hl:=mM hc hT (hr a K0) K0 hn (ih (a + 1) (by omega)) a 0 (by omega);have hin:=GL (rd cs (a:Int)) (-1) 11
  by_cases hb:mm (rd cs (a:Int)) (-1) 11=true
  ·obtain ⟨r,r1,r2⟩:=hl;refine ⟨r,Ev.step (fun k=>by rw [Mb.l0]) ?_,r2.trans ⟨fun h i h1 h2=>?_,fun h=>⟨fun j _ hj=>(h a (Nat.le_refl _) K0).2 j hj,fun i h1 h2=>h i (by omega) h2⟩⟩⟩
   ·exact Ev.pos (by omega) (Ev.pos (by omega) (Ev.bind (Ev.here hin) (Ev.pos hb r1)))
   ·by_cases e:i=a
    ·subst e;exact ⟨hb,fun j hj=>h.1 j (Nat.zero_le _) hj⟩
    ·exact h.2 i (by omega) h2
  ·refine ⟨false,Ev.step (fun k=>by rw [Mb.l0]) ?_,⟨fun h=>(by cases h),fun h=>absurd (h a (Nat.le_refl _) K0).1 hb⟩⟩;exact Ev.pos (by omega) (Ev.pos (by omega) (Ev.bind (Ev.here hin) (Ev.neg hb (Ev.now _))))
end
theorem zM (l0:List Int) (p v s:Int) (bs:List He) (cs:List Int) (h0:l0.length ≤ 1048576) (hl:bs.length ≤ 1048576) (ht:Ae bs ≤ 1048576) :
  ∃ r:Bool,Ev (fun k=>Mb.f k l0 p v s bs cs) r∧Ev (fun k=>Fb.f k l0 p v s bs cs) r∧(r=true→Fm l0 p v s bs=true∧(cs.length:Int)=s∧∀ i:Nat,i < cs.length→-1 ≤ rd cs (i:Int)∧rd cs (i:Int) ≤ 11):=by
 by_cases hok:Fm l0 p v s bs=true
 ·have hh:=ux (zv hok).1;obtain ⟨n,rfl⟩:∃ n:Nat,s=(n:Int):=⟨s.toNat,by omega⟩
  by_cases hlen:(cs.length:Int)=(n:Int)
  ·have hO:=bQ hok ht;have hn:=hO.2.1;have hc:cs.length=n:=by omega
   have hT:=QG bs n;have hr:∀ i,i < n→(Be (kn bs n) i).length=n:=fun i hi=>CU hi
   obtain ⟨r1,e1,q1⟩:=nM hc hT hr hn n 0 (by omega);obtain ⟨r2,e2,q2⟩:=vM hc hT hr hn n 0 (by omega)
   have hrr:r1=r2:=by
    rw [Bool.eq_iff_iff,q1,q2]
    constructor
    ·intro h i m9 hi;refine ⟨(h i m9 hi).1,fun j hj=>?_⟩
     rcases Nat.lt_or_ge j i with e|e
     ·exact (h i m9 hi).2 j e
     ·by_cases e2:j=i
      ·subst e2;intro hs;rw [DU hi] at hs;cases hs
      ·intro hs hc0 hce;refine (h j (Nat.zero_le _) hj).2 i (by omega) ?_ ?_ hce.symm
       ·rw [BU hj hi];exact hs
       ·rw [← hce];exact hc0
    ·intro h i m9 hi;exact ⟨(h i m9 hi).1,fun j hj=>(h i m9 hi).2 j (by omega)⟩
   subst hrr;refine ⟨r1,?_,?_,fun h=>⟨hok,hlen,fun i hi=>?_⟩⟩
   ·unfold Mb.f;refine Ev.bind (Wy h0 hl ht) (Ev.pos hok ?_);refine Ev.step (fun k=>by rw [Mb.j0]) ?_;exact Ev.neg (by simp [hlen]) (Ev.bind (Ev.here (QV hO)) e1)
   ·unfold Fb.f;refine Ev.bind (Vy h0 hl ht) (Ev.pos hok ?_);refine Ev.step (fun k=>by rw [Fb.j0]) ?_;refine Ev.neg (by simp [hlen]) (Ev.bind (Ev.here (nW hO)) ?_);rw [hT];exact e2
   ·have h2:=(q1.1 h i (Nat.zero_le _) (by omega)).1;unfold mm at h2;simp only [Bool.and_eq_true,decide_eq_true_eq] at h2;exact h2
  ·refine ⟨false,?_,?_,fun h=>by cases h⟩
   ·unfold Mb.f;refine Ev.bind (Wy h0 hl ht) (Ev.pos hok ?_);refine Ev.step (fun k=>by rw [Mb.j0]) ?_;exact Ev.pos (by simpa using hlen) (Ev.now _)
   ·unfold Fb.f;refine Ev.bind (Vy h0 hl ht) (Ev.pos hok ?_);refine Ev.step (fun k=>by rw [Fb.j0]) ?_;exact Ev.pos (by simpa using hlen) (Ev.now _)
 ·refine ⟨false,?_,?_,fun h=>by cases h⟩
  ·unfold Mb.f;refine Ev.bind (Wy h0 hl ht) (Ev.neg hok ?_);refine Ev.step (fun k=>by rw [Mb.j0]) ?_;exact Ev.pos rfl (Ev.now _)
  ·unfold Fb.f;refine Ev.bind (Vy h0 hl ht) (Ev.neg hok ?_);refine Ev.step (fun k=>by rw [Fb.j0]) ?_;exact Ev.pos rfl (Ev.now _)
end Go.Proofs.Ytkigbdceceeenaa.P
end
section
namespace Go.Proofs.Ytkigbdceceeenaa.P
open Go.RowKit Go.Proofs.Ma.Wb Go.Proofs.Ma.Jd Go.Proofs.Ma.Fe
set_option linter.unusedVariables false
set_option linter.unusedSimpArgs false
def thC (b:He):List Int:=b.f0.flatMap tl ++ jl b
theorem M8 {n:Nat} {x:Le} (hx:Wt n x):∀ u ∈ tl x,0 ≤ u∧u < (n:Int):=by
 intro u hu;unfold tl at hu
 rcases List.mem_append.1 hu with h|h
 ·exact hx.1 u h
 ·by_cases hm:Xm x ≥ 0
  ·rw [if_pos hm,List.mem_singleton] at h;have:=OG hx hm;omega
  ·rw [if_neg hm] at h;cases h
theorem R8 {n:Nat} {b:He} (hb:lu n b):∀ u ∈ jl b,0 ≤ u∧u < (n:Int):=by
 intro u hu;unfold jl at hu
 by_cases hf:b.f1=0
 ·rw [if_pos hf] at hu;cases hu
 ·rw [if_neg hf,List.mem_singleton] at hu;rw [hu];exact hb.2.1 hf
theorem Caa {bs:List He} {n:Nat} (hO:Lm bs n):(bs.flatMap thC).foldl Vg (List.replicate n false)=YZ bs n:=by
 have hc:∀ u ∈ bs.flatMap thC,0 ≤ u∧u < ((List.replicate n false).length:Int):=fun u hu=>by
  rw [List.length_replicate];obtain ⟨b,hb,hu⟩:=List.mem_flatMap.1 hu
  rcases List.mem_append.1 hu with h|h
  ·obtain ⟨x,hx,h⟩:=List.mem_flatMap.1 h;exact M8 ((hO.2.2 b hb).2.2 x hx) u h
  ·exact R8 (hO.2.2 b hb) u h
 have hb:∀ u ∈ bs.flatMap qU,0 ≤ u∧u < ((List.replicate n false).length:Int):=fun u hu=>by
  rw [List.length_replicate];obtain ⟨b,hb,hu⟩:=List.mem_flatMap.1 hu
  rcases List.mem_append.1 hu with h|h
  ·exact R8 (hO.2.2 b hb) u h
  ·obtain ⟨x,hx,h⟩:=List.mem_flatMap.1 h;exact M8 ((hO.2.2 b hb).2.2 x hx) u h
 unfold YZ;refine Bz (by rw [Si,Si]) (fun u=>?_);rw [gn _ _ _ hc,gn _ _ _ hb]
 have hm:(u:Int) ∈ bs.flatMap thC ↔ (u:Int) ∈ bs.flatMap qU:=by
  rw [List.mem_flatMap,List.mem_flatMap];unfold thC qU;exact ⟨fun ⟨b,h1,h2⟩=>⟨b,h1,by rw [List.mem_append] at h2 ⊢;exact h2.symm⟩,fun ⟨b,h1,h2⟩=>⟨b,h1,by rw [List.mem_append] at h2 ⊢;exact h2.symm⟩⟩
 rw [decide_eq_decide.2 hm]
section
variable {bs:List He} {n:Nat} {R:List Bool}
theorem oM {b:He} {x:Le} {k:Nat} (m i:Int) (us:List Int) (hx:Wt n x) (C0:us.length ≤ 1048576) (hus:∀ u ∈ us,0 ≤ u∧u < (n:Int)) (s0:List Bool) (hs0:s0.length=n)
  (hK:Ev (fun q=>fc.l1 q ((if Xm x ≥ 0 then [Xm x] else []).foldl Vg (us.foldl Vg s0)) bs m i b.f0 (b.f0.length:Int) (wrap64 ((k:Int) + 1)) b.f0 b.f1 b.f2 b.f3 b.f4) R) :
  ∀ (d j:Nat) (s:List Bool),j + d=us.length→s.length=n→(us.drop j).foldl Vg s=us.foldl Vg s0→Ev (fun q=>fc.l2 q s bs m i b.f0 (b.f0.length:Int) (k:Int) us (us.length:Int) (j:Int) b.f0 b.f1 b.f2 b.f3 b.f4 x.f0 x.f1 x.f2 x.f3 x.f4 x.f5 x.f6) R:=by
 intro d
 induction d with
 | zero =>
  intro j s hj hs he;rw [List.drop_eq_nil_of_le (by omega),List.foldl_nil] at he;rw [← he] at hK;refine Ev.step (fun q=>by rw [fc.l2]) ?_;refine Ev.neg (by omega) (Ev.bind (Ev.here (CL x)) ?_)
  by_cases hm:Xm x ≥ 0
  ·have:=OG hx hm;rw [if_pos hm] at hK;exact Ev.pos hm (Ev.pos hm (Ev.pos (by omega) hK))
  ·rw [if_neg hm] at hK;exact Ev.neg hm hK
 | succ d ih =>
  intro j s hj hs he;have hjl:j < us.length:=by omega
  have h:=hus _ (List.getElem_mem hjl);rw [List.drop_eq_getElem_cons hjl,List.foldl_cons] at he;refine Ev.step (fun q=>by rw [fc.l2]) ?_;rw [Oo hjl,Rd hjl (by omega)];exact Ev.pos (by omega) (Ev.pos (by omega) (Ev.pos (by omega) (Ev.pos h.1 (Ev.pos (by omega) (ih (j + 1) _ (by omega) (by rw [List.length_set];exact hs) he)))))
theorem pM {b:He} {i:Nat} (m:Int) (hb:lu n b) (s0:List Bool) (hs0:s0.length=n)
  (hK:Ev (fun q=>fc.l0 q ((thC b).foldl Vg s0) bs m (wrap64 ((i:Int) + 1))) R) :
  ∀ (d k:Nat) (s:List Bool),k + d=b.f0.length→s.length=n→((b.f0.drop k).flatMap tl).foldl Vg s=(b.f0.flatMap tl).foldl Vg s0→Ev (fun q=>fc.l1 q s bs m (i:Int) b.f0 (b.f0.length:Int) (k:Int) b.f0 b.f1 b.f2 b.f3 b.f4) R:=by
 intro d
 induction d with
 | zero =>
  intro k s hk hs he;rw [List.drop_eq_nil_of_le (by omega),List.flatMap_nil,List.foldl_nil] at he;unfold thC jl at hK;rw [List.foldl_append,← he] at hK;refine Ev.step (fun q=>by rw [fc.l1]) ?_;refine Ev.neg (by omega) ?_
  by_cases hf:b.f1=0
  ·rw [if_pos hf] at hK;exact Ev.pos hf hK
  ·have:=hb.2.1 hf;rw [if_neg hf] at hK;exact Ev.neg hf (Ev.pos (by omega) (Ev.pos (by omega) hK))
 | succ d ih =>
  intro k s hk hs he;have qN:k < b.f0.length:=by omega
  have Xv:=hb.1;have hix:=jw hb qN;rw [List.drop_eq_getElem_cons qN,List.flatMap_cons,List.foldl_append,← Rk qN] at he;have C0:=Vt (Ea b.f0 (k:Int));refine Ev.step (fun q=>by rw [fc.l1]) ?_;refine Ev.pos (by omega) (Ev.pos (by omega) (Ev.pos (by omega) (Ev.bind (XG _) ?_)));refine oM m (i:Int) _ hix (by omega) hix.1 s hs ?_ _ 0 s (Nat.zero_add _) hs rfl;rw [Rd qN (by omega)];refine ih (k + 1) _ (by omega) (by rw [Si,Si];exact hs) ?_;unfold tl at he;rw [List.foldl_append] at he;exact he
theorem qM (hO:Lm bs n):∀ (d i:Nat) (s:List Bool),i + d=bs.length→s.length=n→Ev (fun q=>fc.l0 q s bs (bs.length:Int) (i:Int)) (((bs.drop i).flatMap thC).foldl Vg s):=by
 have hl:=hO.1.2.1;intro d
 induction d with
 | zero =>
  intro i s hi hs;rw [List.drop_eq_nil_of_le (by omega),List.flatMap_nil,List.foldl_nil];refine Ev.step (fun q=>by rw [fc.l0]) ?_;exact Ev.neg (by omega) (Ev.now _)
 | succ d ih =>
  intro i s hi hs;have hil:i < bs.length:=by omega
  have hb:=Ot hO hil;rw [List.drop_eq_getElem_cons hil,List.flatMap_cons,List.foldl_append,← mh hil];refine Ev.step (fun q=>by rw [fc.l0]) ?_;refine Ev.pos (by omega) (Ev.pos (by omega) (Ev.pos (by omega) ?_));refine pM (bs.length:Int) hb s hs ?_ _ 0 s (Nat.zero_add _) hs rfl;rw [Rd hil (by omega)];exact ih (i + 1) _ (by omega) (by rw [Si];exact hs)
end
theorem mO {bs:List He} {n:Nat} (hO:Lm bs n) (l0:List Int) (p v:Int):Ev (fun q=>fc.f q l0 p v (n:Int) bs) (YZ bs n):=by
 have hn:=hO.2.1;have h:=qM hO bs.length 0 (List.replicate n false) (by omega) (by simp);rw [List.drop_zero,Caa hO] at h;unfold fc.f;refine Ev.pos (by omega) (Ev.pos (by omega) ?_);rw [Int.toNat_natCast];exact h
theorem OV {l0:List Int} {p v:Int} {n:Nat} {bs:List He} (hO:Lm bs n):Pg.f l0 p v (n:Int) bs=some (YZ bs n):=by
 unfold Pg.f;rw [if_pos ⟨by omega,by rw [Int.toNat_natCast];exact hO⟩,Int.toNat_natCast]
end Go.Proofs.Ytkigbdceceeenaa.P
end
section
namespace Go.Proofs.Ytkigbdceceeenaa.P
open Go.RowKit Go.Proofs.Ma.Wb Go.Proofs.Ma.Jd Go.Proofs.Ma.Fe
set_option linter.unusedVariables false
set_option linter.unusedSimpArgs false
def sU (nm:List Bool) (cs:List Int) (m:Nat):List Int:=((List.range m).filter (fun s=>seen nm s && decide (rd cs (s:Int) < 0))).map (fun (s:Nat)=>(s:Int))
theorem SP {nm:List Bool} {cs:List Int} {m:Nat} (h1:seen nm m=true) (h2:rd cs (m:Int) < 0):sU nm cs (m + 1)=sU nm cs m ++ [(m:Int)]:=by
 unfold sU;rw [List.range_succ,List.filter_append,List.map_append];simp [h1,h2]
theorem rD {nm:List Bool} {cs:List Int} {m:Nat} (h:¬ (seen nm m=true∧rd cs (m:Int) < 0)):sU nm cs (m + 1)=sU nm cs m:=by
 unfold sU;rw [List.range_succ,List.filter_append,List.map_append];have:¬ (seen nm m && decide (rd cs (m:Int) < 0))=true:=by rw [Bool.and_eq_true,decide_eq_true_eq];exact h
 simp [this]
theorem vH (nm:List Bool) (cs:List Int) (m:Nat):(sU nm cs m).length ≤ m:=by
 unfold sU;rw [List.length_map];exact Nat.le_trans (List.length_filter_le _ _) (Nat.le_of_eq List.length_range)
section
variable {n:Nat} {nm:List Bool} {cs:List Int}
theorem iD (hnm:nm.length=n) (hc:cs.length=n) (hn:n ≤ 1048576):∀ (d s:Nat),s + d=n→Ev (fun q=>ld.l0 q cs (sU nm cs s) nm (n:Int) (s:Int)) (sU nm cs n):=by
 intro d
 induction d with
 | zero =>
  intro s hs;obtain rfl:s=n:=by omega
  refine Ev.step (fun q=>by rw [ld.l0]) ?_;exact Ev.neg (by omega) (Ev.now _)
 | succ d ih =>
  intro s hs;have hsn:s < n:=by omega
  have hl:=vH nm cs s;have h:=ih (s + 1) (by omega);refine Ev.step (fun q=>by rw [ld.l0]) ?_;refine Ev.pos (by omega) (Ev.pos (by omega) (Ev.pos (by omega) ?_));rw [Oj,Rd hsn (by omega)]
  by_cases h1:seen nm s=true
  ·by_cases h2:rd cs (s:Int) < 0
   ·rw [SP h1 h2] at h;exact Ev.pos h1 (Ev.pos (by omega) (Ev.pos h2 (Ev.pos (by omega) h)))
   ·rw [rD (fun h=>h2 h.2)] at h;exact Ev.pos h1 (Ev.pos (by omega) (Ev.neg h2 h))
  ·rw [rD (fun h=>h1 h.1)] at h;exact Ev.neg h1 h
theorem gD {l0:List Int} {p v:Int} {bs:List He} (hnm:nm.length=n) (hc:cs.length=n) (hn:n ≤ 1048576) (hlo:∀ i:Nat,i < cs.length→-1 ≤ rd cs (i:Int)∧rd cs (i:Int) ≤ 11):∀ (d s:Nat),s + d=n→Ev (fun q=>ud.l0 q cs (sU nm cs s) nm (s:Int) l0 p v (n:Int) bs) (sU nm cs n):=by
 intro d
 induction d with
 | zero =>
  intro s hs;obtain rfl:s=n:=by omega
  refine Ev.step (fun q=>by rw [ud.l0]) ?_;exact Ev.neg (by omega) (Ev.now _)
 | succ d ih =>
  intro s hs;have hsn:s < n:=by omega
  have hl:=vH nm cs s;have hb:=hlo s (by omega);have h:=ih (s + 1) (by omega);refine Ev.step (fun q=>by rw [ud.l0]) ?_;refine Ev.pos (by omega) (Ev.pos (by omega) (Ev.pos (by omega) ?_));rw [Oj,Rd hsn (by omega)]
  by_cases h1:seen nm s=true
  ·by_cases h2:rd cs (s:Int) < 0
   ·rw [SP h1 h2] at h;exact Ev.pos h1 (Ev.pos (by omega) (Ev.pos (by omega) (Ev.pos (by omega) h)))
   ·rw [rD (fun h=>h2 h.2)] at h;exact Ev.pos h1 (Ev.pos (by omega) (Ev.neg (by omega) h))
  ·rw [rD (fun h=>h1 h.1)] at h;exact Ev.neg h1 h
end
theorem sO (l0:List Int) (p v s:Int) (bs:List He) (cs:List Int) (h0:l0.length ≤ 1048576) (hl:bs.length ≤ 1048576) (ht:Ae bs ≤ 1048576) :
  ∃ r:List Int,Ev (fun q=>ud.f q l0 p v s bs cs) r∧Ev (fun q=>ld.f q l0 p v s bs cs) r∧r.length ≤ 1048576:=by
 obtain ⟨b,b1,b2,b3⟩:=zM l0 p v s bs cs h0 hl ht;cases b with
 | true =>
  obtain ⟨hok,hlen,hlo⟩:=b3 rfl;have hh:=ux (zv hok).1;obtain ⟨n,rfl⟩:∃ n:Nat,s=(n:Int):=⟨s.toNat,by omega⟩;have hO:=bQ hok ht;have hn:=hO.2.1;have hnl:=E1 bs n;refine ⟨sU (YZ bs n) cs n,?_,?_,Nat.le_trans (vH _ _ _) hn⟩
  ·unfold ud.f;exact Ev.val (Ev.bind b1 (Ev.pos rfl (Ev.bind (Ev.here (OV hO)) (gD hnl (by omega) hn hlo n 0 (by omega)))))
  ·unfold ld.f;refine Ev.bind b2 (Ev.pos rfl (Ev.bind (mO hO l0 p v) ?_));rw [hnl];exact iD hnl (by omega) hn n 0 (by omega)
 | false =>
  refine ⟨[],?_,?_,Nat.zero_le _⟩
  ·unfold ud.f;exact Ev.val (Ev.bind b1 (Ev.neg (by simp) (Ev.now _)))
  ·unfold ld.f;exact Ev.bind b2 (Ev.neg (by simp) (Ev.now _))
end Go.Proofs.Ytkigbdceceeenaa.P
end
section
namespace Go.Proofs.Ytkigbdceceeenaa.P
open Go.RowKit Go.Proofs.Ma.Wb Go.Proofs.Ma.Jd Go.Proofs.Ma.Fe
set_option linter.unusedVariables false
set_option linter.unusedSimpArgs false
attribute [local go_sem] Gi Xi Jj ak Sh Rh Yi Wi
def ee.l0:Nat→List Int→Int→Int→Option (Int × List Int)
 | 0,_,_,_=>none
 | k + 1,x0,x1,x5=>if x5 < (x0.length:Int) then (if 0 ≤ x5 then (ee.l0 k (x0.set (x5:Int).toNat x1) (wrap64 (x1 + 1)) (wrap64 (x5 + 1))) else (none)) else (some (x1,x0))
def ee.f (k:Nat) (l0:List Int) (a1:Int):Option (Int × List Int):=ee.l0 k l0 a1 0
theorem ee.calls (k:Nat) (Ml:Nat→Prop) (Eg:Value) (l0:List Int) (a1:Int) (r1:Int) (r2:List Int) (w0 w:World) (hB:Below w0.heap.size w0 w) (Hi:Kd.R (Kd.int .i64) 3 w w0.heap.size Ml Eg l0) (h:ee.f k l0 a1=some (r1,r2)) :
  Calls Try.prog 19 #[Eg,.int .i64 a1] w fun e w'=>e = .returned (.int .i64 r1)∧Kd.R (Kd.int .i64) 3 w' w0.heap.size (fun k_=>(Ml k_ ∨ w.heap.size ≤ k_)) Eg r2∧Below w0.heap.size w0 w'∧Kept w w' (fun k_=>Ml k_):=by
 have jH:=ga.mk (show Kd.R (Kd.int .i64) 3 w w0.heap.size (fun k_=>(Ml k_ ∨ w.heap.size ≤ k_)) Eg l0 from Kd.Xd Hi (fun k_ hk=>(.inl hk)));have HK:=ga.mk (Kept.refl w (fun k_=>Ml k_));have HW0:=ga.mk hB.size;have HB:=ga.mk hB;clear hB;have H:(ee.l0 k l0 a1 0)=some (r1,r2):=h;clear h;have H':=ga.mk H;clear H;go_enter Try.func19,Try.ntmps19;go_wp2
 go_loopg [1,5] k (fun kq v1 v5 w'=>∃ (Xe:List Int) (Me:Int) (Ka:Int),v1 = .int .i64 Me∧v5 = .int .i64 Ka∧ga (ee.l0 kq Xe Me Ka=some (r1,r2))∧ga (kq ≤ k)∧ga (Kd.R (Kd.int .i64) 3 w' w0.heap.size (fun k_=>(Ml k_ ∨ w.heap.size ≤ k_)) Eg Xe)∧ga (Kept w w' (fun k_=>Ml k_))∧ga (Below w0.heap.size w0 w'))
 case atStart=>exact ⟨(l0),(a1),(0),IaH,IaH,H',⟨Nat.le_refl _⟩,⟨vaI⟩,⟨baI⟩,⟨JaH⟩⟩
 case round =>
  clear H'
  try clear c1
  try clear p2
  (try clear HA);(try clear pg);(try clear gf);(try clear HK);(try clear HB);obtain ⟨Xe,Me,Ka,rfl,rfl,HA,pg,gf,HK,HB⟩:=hrel;cases gk with
  | zero=>exact absurd HA.out (by simp [ee.l0])
  | succ k1 =>
   have H:=HA.out;clear HA;simp only [ee.l0] at H
   by_cases c3:Ka < (Xe.length:Int)
   ·rw [if_pos c3] at H;have Qi:decide (Ka < (Xe.length:Int))=true:=decide_eq_true c3;clear c3
    by_cases c4:0 ≤ Ka
    ·rw [if_pos c4] at H;have Tl:decide (0 ≤ Ka)=true:=decide_eq_true c4;clear c4;obtain ⟨mg,xg⟩:∃ y_:List Int,y_=(Xe.set (Ka:Int).toNat Me):=⟨_,rfl⟩;replace H:(ee.l0 k1 mg (wrap64 (Me + 1)) (wrap64 (Ka + 1)))=some (r1,r2):=by first|(rw [xg];with_reducible exact H)|(have Td:=(Option.bind_some _ _).symm.trans H;rw [xg];with_reducible exact Td)|(have Td:=(Option.bind_some _ _).symm.trans H;with_reducible exact Td)|with_reducible exact H|(rw [xg];exact H)|exact H
     have Am:=ga.mk xg;clear xg;have H':=ga.mk H;clear H;obtain ⟨Ao6,co6,eo6⟩:=Kd.Bd gf.out;subst eo6;have p5:0 ≤ (Ka:Int):=Ua;have q5:(Ka:Int) < ((Xe.length:Int):Int):=Ua;obtain ⟨Lg,co5,eo5,gb5,gl5,cl5,HG5⟩:=Kd.Ul gf.out (by omega);(first|cases eo5|(injection eo5 with Kk Xy Yy;(first|subst Kk|(injection Kk with Kk;subst Kk));subst Yy;clear Xy));have J8:=ga.mk gb5;have GG5:=ga.mk HG5;clear gb5 gl5 HG5;have kal:=ga.mk (show (Ml Lg ∨ w.heap.size ≤ Lg) from (gf.out.1 _ rfl));obtain ⟨Uae,nah⟩:=Kd.Cj 0 gf.out (Ka:Int) p5 q5;replace p5:=eq_true p5;replace q5:=eq_true q5;have HP7:=Kd.yo gf.out (Ka:Int) Me;go_wp2_with (first|((with_reducible refine af (t:=3) (p:=15) rfl ?_);refine Ie (t:=3) (p:=15) (v:=?Xay) (w1:=(wr.setCell ⟨Lg,(Ka:Int).toNat,none⟩ (.int .i64 Me))) ?hg ?ho ?hn ?hr ?_;(case ho=>rfl);(case hg=>rfl);(case hn=>rfl);(case hr=>first|(go_simp;done)|(go_simp;rfl));intro w8 hw;have hg:wr.grownBy w8 (some Lg):=(by rw [hw];exact HP7.2);have Pm:Kd.R (Kd.int .i64) 3 w8 w0.heap.size (fun k_=>(Ml k_ ∨ w.heap.size ≤ k_)) (.slice (some ⟨Lg,0,none⟩) Xe.length co6) mg:=(by rw [hw,Am.out];exact HP7.1);clear HP7;have Cb:=ga.mk (Pm);have Eb:=ga.mk ((by rw [hw];exact ua (HB.out) J8.out:Below w0.heap.size w0 w8));have Rb:=ga.mk (Kept.mj (S:=(fun k_=>Ml k_)) hg QaH (fun k_ e_=>(gf.out.1 k_ e_)));clear gf HB HK;have gf:=Cb;have HB:=Eb;have HK:=Rb;clear Cb Eb Rb hg hw Pm))
     go_roundg k1
     case measure=>have:=pg.out;omega
     case rel=>exact ⟨(mg),(wrap64 (Me + 1)),(wrap64 (Ka + 1)),IaH,IaH,H',⟨by have:=pg.out;omega⟩,⟨iaI⟩,⟨baI⟩,⟨JaH⟩⟩
    ·rw [if_neg c4] at H;exact absurd H (by simp)
   ·rw [if_neg c3] at H;have Qi:decide (Ka < (Xe.length:Int))=false:=decide_eq_false c3;clear c3;simp only [Option.some.injEq,Prod.mk.injEq] at H;obtain ⟨rfl,rfl⟩:=H;obtain ⟨Ao9,co9,eo9⟩:=Kd.Bd gf.out;subst eo9;go_wp2;go_ret;exact ⟨by first|rfl|(simp [Pa,Oa] <;> rfl)|(simp [*,Pa,Oa] <;> rfl),iaI,JaH,baI⟩
def Ad.l0:Nat→Int→ByteArray→Option (ByteArray)
 | 0,_,_=>none
 | k + 1,x0,x3=>if x0 > 0 then ((some (([(wrap64 (48 + (Int.tmod x0 10))) % 256]:List Int):List Int)).bind fun mg=>(if (strOfNums mg).size + x3.size ≤ 9223372036854775807 then (Ad.l0 k (wrap64 (Int.tdiv x0 10)) ((strOfNums mg) ++ x3)) else (none))) else (if 1 + x3.size ≤ 9223372036854775807 then (some ((⟨#[109]⟩:ByteArray) ++ x3)) else (none))
def Ad.f (k:Nat) (a0:Int):Option (ByteArray):=if a0 ≤ 0 then (some (⟨#[109,48]⟩:ByteArray)) else (Ad.l0 k a0 (⟨#[]⟩:ByteArray))
theorem Ad.calls (k:Nat) (a0:Int) (r:ByteArray) (w:World) (h:Ad.f k a0=some r) :
  Calls Try.prog 106 #[.int .i64 a0] w fun e w'=>e = .returned (.string r)∧Below w.heap.size w w':=by
 have HB:=ga.mk (Below.refl w.heap.size w);have H:(if a0 ≤ 0 then (some (⟨#[109,48]⟩:ByteArray)) else (Ad.l0 k a0 (⟨#[]⟩:ByteArray)))=some r:=h;clear h
 by_cases c2:a0 ≤ 0
 ·rw [if_pos c2] at H;have fu:decide (a0 ≤ 0)=true:=decide_eq_true c2;clear c2;obtain rfl:=Option.some.inj H;go_enter Try.func106,Try.ntmps106;go_wp2;go_ret;exact ⟨by first|rfl|(simp [Pa,Oa] <;> rfl)|(simp [*,Pa,Oa] <;> rfl),JaH⟩
 ·rw [if_neg c2] at H;have fu:decide (a0 ≤ 0)=false:=decide_eq_false c2;clear c2;have H':=ga.mk H;clear H;go_enter Try.func106,Try.ntmps106;go_wp2
  go_loopg [0,3] k (fun kq v0 v3 w'=>∃ (Xe:Int) (xe:ByteArray),v0 = .int .i64 Xe∧v3 = .string xe∧ga (Ad.l0 kq Xe xe=some r)∧ga (kq ≤ k)∧ga (Below w.heap.size w w'))
  case atStart=>exact ⟨(a0),((⟨#[]⟩:ByteArray)),IaH,IaH,H',⟨Nat.le_refl _⟩,⟨JaH⟩⟩
  case round =>
   clear H'
   try clear c1
   try clear c2
   try clear fu
   try clear p2
   (try clear HA);(try clear pg);(try clear HB);obtain ⟨Xe,xe,rfl,rfl,HA,pg,HB⟩:=hrel;cases gk with
   | zero=>exact absurd HA.out (by simp [Ad.l0])
   | succ k1 =>
    have H:=HA.out;clear HA;simp only [Ad.l0] at H
    by_cases c3:Xe > 0
    ·rw [if_pos c3] at H;have Qi:decide (0 < Xe)=true:=decide_eq_true c3;clear c3;obtain ⟨mg,xg⟩:∃ y_:List Int,y_=(([(wrap64 (48 + (Int.tmod Xe 10))) % 256]:List Int)):=⟨_,rfl⟩;replace H:(if (strOfNums mg).size + xe.size ≤ 9223372036854775807 then (Ad.l0 k1 (wrap64 (Int.tdiv Xe 10)) ((strOfNums mg) ++ xe)) else (none))=some r:=by first|(rw [xg];with_reducible exact H)|(have Td:=(Option.bind_some _ _).symm.trans H;rw [xg];with_reducible exact Td)|(have Td:=(Option.bind_some _ _).symm.trans H;with_reducible exact Td)|with_reducible exact H|(rw [xg];exact H)|exact H
     have Am:=ga.mk xg;clear xg
     by_cases c4:(strOfNums mg).size + xe.size ≤ 9223372036854775807
     ·rw [if_pos c4] at H;have Tl:=eq_true c4;have n7:decide ((strOfNums mg).size + xe.size ≤ 9223372036854775807)=true:=decide_eq_true c4
      try have saF:(9223372036854775807 < (strOfNums mg).size + xe.size)=False:=eq_false (Nat.not_lt.2 c4)
      have H':=ga.mk H;clear H;go_wp2_with (first|((with_reducible refine qb (N:=12) rfl ?_);refine Kd.Vj (Kd.int .u8) _ 5 ?hg (N:=12) ?hd (xs:=([(wrap64 (48 + (Int.tmod Xe 10))) % 256]:List Int)) (inner:=[.int .u8 ((wrap64 (48 + (Int.tmod Xe 10))) % 256)]) (ok:=fun _=>True) (Di:=fun _=>True) ?hr ?hp (fun _ hk=>hk) trivial (Below.refl _ _) (Nat.le_refl _) (by simp) ?_;(case hd=>rfl);(case hg=>rfl);(case hr=>first|(go_simp;done)|(go_simp;rfl));(case hp=>exact (Sd.one (show Kd.M (Kd.int .u8) _ _ _ ((wrap64 (48 + (Int.tmod Xe 10))) % 256) [.int .u8 ((wrap64 (48 + (Int.tmod Xe 10))) % 256)] from rfl) (Sd.none _ _)));intro uL w5 OL hb Wm Ye;clear Wm Ye;(first|rw [← Am.out] at OL|(simp only [Int.reduceToNat] at OL;rw [← Am.out] at OL));have Cb:=ga.mk (Kd.Wd OL (La CaH));have Eb:=ga.mk (Na CaH hb);clear HB;have tu:=Cb;have HB:=Eb;clear Cb Eb hb OL;have waE:=NN (P:=Try.prog) Try.underlying140 Try.underlying5 Try.underlying9 (Kd.RE tu.out)))
      go_roundg k1
      case measure=>have:=pg.out;omega
      case rel=>exact ⟨(wrap64 (Int.tdiv Xe 10)),((strOfNums mg) ++ xe),IaH,IaH,H',⟨by have:=pg.out;omega⟩,⟨JaH⟩⟩
     ·rw [if_neg c4] at H;exact absurd H (by simp)
    ·rw [if_neg c3] at H;have Qi:decide (0 < Xe)=false:=decide_eq_false c3;clear c3
     by_cases c8:1 + xe.size ≤ 9223372036854775807
     ·rw [if_pos c8] at H;have Qt:=eq_true c8;have EM:decide (1 + xe.size ≤ 9223372036854775807)=true:=decide_eq_true c8
      try have Caj:(9223372036854775807 < 1 + xe.size)=False:=eq_false (Nat.not_lt.2 c8)
      obtain rfl:=Option.some.inj H;go_wp2;go_ret;exact ⟨by first|rfl|(simp [Pa,Oa] <;> rfl)|(simp [*,Pa,Oa] <;> rfl),JaH⟩
     ·rw [if_neg c8] at H;exact absurd H (by simp)
end Go.Proofs.Ytkigbdceceeenaa.P
end
