import Derived.Test.YtkigbdceceeenaaQSpilled1
set_option maxHeartbeats 8000000
set_option maxRecDepth 100000
section
namespace Go.Proofs.Ytkigbdceceeenaa.P
open Go.RowKit Go.Proofs.Ma.Wb Go.Proofs.Ma.Jd Go.Proofs.Ma.Fe
set_option linter.unusedVariables false
set_option linter.unusedSimpArgs false
attribute [local go_sem] Gi Xi Jj ak Sh Rh Yi Wi
def Cc.l0:Nat→Int→List Int→Int→Int→Int→List (He)→List (Le)→Int→Int→Int→Int→Option (Bool)
 | 0,_,_,_,_,_,_,_,_,_,_,_=>none
 | k + 1,x5,Fc,Uc,Mc,Ic,jc,Hg,Xl,Dm,fl,cl=>if x5 < (Hg.length:Int) then (if 0 ≤ x5 then ((zb.f k Fc Uc Mc Ic jc ((Ea Hg x5).f0) ((Ea Hg x5).f1) ((Ea Hg x5).f2) ((Ea Hg x5).f3) ((Ea Hg x5).f4) ((Ea Hg x5).f5) ((Ea Hg x5).f6)).bind fun t104=>(if t104=true then (Cc.l0 k (wrap64 (x5 + 1)) Fc Uc Mc Ic jc Hg Xl Dm fl cl) else (some false))) else (none)) else ((gb.f fl 0 (wrap64 ((jc.length:Int) - 1))).bind fun t105=>((gb.f Dm 0 (wrap64 (Ic - 1))).bind fun t106=>(if Xl=0 then (if t105=true then (if Dm=0 then (some (cl == 0)) else (some false)) else (some false)) else (if Xl=1 then (if t105=true then (if t106=true then ((gb.f cl 0 (wrap64 ((jc.length:Int) - 1))).bind fun t107=>(some t107)) else (some false)) else (some false)) else (if Xl=2 then (if t106=true then (if fl=0 then (some (cl == 0)) else (some false)) else (some false)) else (some false))))))
def Cc.f (k:Nat) (Qa:List Int) (Ja:Int) (Ga:Int) (Ia:Int) (Aa:List (He)) (Yc:List (Le)) (Zb:Int) (Tb:Int) (Ub:Int) (nc:Int):Option (Bool):=Cc.l0 k 0 Qa Ja Ga Ia Aa Yc Zb Tb Ub nc
def Cc.T4:Bool × List (List Nat × List Nat):=(true,[([],[]),([],[]),([1],[1]),([],[]),([2,3],[2,3]),([4],[4]),([0,5],[0,5]),([6],[6])])
def Cc.B4:List Nat:=[0,0,2,0,14,30,63,127]
theorem Cc.Fae:Wp .any (opsOf Try.f71 4)=Cc.T4:=by kernel_rfl
theorem Cc.j_:aq Cc.T4.2 Cc.B4=true:=by kernel_rfl
theorem Cc.calls (k:Nat) (Wa:Option Addr) (Xa:Nat) (Qa:List Int) (Ja:Int) (Ga:Int) (Ia:Int) (Jb:Option Addr) (yb:Nat) (Aa:List (He)) (ig:Option Addr) (Qf:Nat) (Yc:List (Le)) (Zb:Int) (Tb:Int) (Ub:Int) (nc:Int) (r:Bool) (w:World) (Od:Kd.C (Kd.int .i64) w Wa Qa.length Qa) (Md:Qa.length ≤ Xa) (Re:Kd.C iq w Jb Aa.length Aa) (Qe:Aa.length ≤ yb) (uy:Kd.C Wk w ig Yc.length Yc) (yy:Yc.length ≤ Qf) (h:Cc.f k Qa Ja Ga Ia Aa Yc Zb Tb Ub nc=some r) :
  Calls Try.prog 71 #[.agg #[.slice Wa Qa.length Xa,.int .i64 Ja,.int .i64 Ga,.int .i64 Ia,.slice Jb Aa.length yb],.agg #[.slice ig Yc.length Qf,.int .i64 Zb,.int .i64 Tb,.int .i64 Ub,.int .i64 nc]] w fun e w'=>e = .returned (.bool r)∧Below w.heap.size w w':=by
 have KB:=Try.underlying30;have JB:=Try.underlying59;have kA:=Try.underlying65;have fe:=ga.mk Od;have ye:=ga.mk Md;clear Od Md;have We:=ga.mk Re;have Xf:=ga.mk Qe;clear Re Qe;have Zp:=ga.mk uy;have Kt:=ga.mk yy;clear uy yy;have HB:=ga.mk (Below.refl w.heap.size w);have H:(Cc.l0 k 0 Qa Ja Ga Ia Aa Yc Zb Tb Ub nc)=some r:=h;clear h;have H':=ga.mk H;clear H;go_enter Try.func71,Try.ntmps71;go_wp2_with (first|((with_reducible refine qb (N:=2) rfl ?_);(try (refine Wg (by rfl) ?_;dsimp only));refine Ib ?hg (N:=2) ?hd (cs:=#[.slice Wa Qa.length Xa,.int .i64 Ja,.int .i64 Ga,.int .i64 Ia,.slice Jb Aa.length yb]) (t:=30) ?hr ?_;(case hd=>rfl);(case hg=>rfl);(case hr=>first|(go_simp;done)|(go_simp;rfl));intro ya hg w3 Sb hb;have Cb:=ga.mk (Na CaH hb);have Eb:=ga.mk (Sb);have Rb:=ga.mk ((by rw [hg];exact (La CaH):w.heap.size ≤ ya));have Gc:=ga.mk ((by rw [hg];exact (La CaH):w.heap.size ≤ ya));clear HB;have HB:=Cb;have oa:=Eb;have Nd:=Rb;have Ta:=Gc;clear Cb Eb Rb Gc hb Sb hg)|((with_reducible refine qb (N:=3) rfl ?_);(try (refine Wg (by rfl) ?_;dsimp only));refine Ib ?hg (N:=3) ?hd (cs:=#[.slice ig Yc.length Qf,.int .i64 Zb,.int .i64 Tb,.int .i64 Ub,.int .i64 nc]) (t:=59) ?hr ?_;(case hd=>rfl);(case hg=>rfl);(case hr=>first|(go_simp;done)|(go_simp;rfl));intro Ra hg w4 Sb hb;have Cb:=ga.mk (Va (g:=ya) (o:=.cells #[.slice Wa Qa.length Xa,.int .i64 Ja,.int .i64 Ga,.int .i64 Ia,.slice Jb Aa.length yb] 30 (0,0)) DaH hb);have Eb:=ga.mk (Na BaH hb);have Rb:=ga.mk (Sb);have Gc:=ga.mk ((by rw [hg];exact (La BaH):w.heap.size ≤ Ra));have kg:=ga.mk ((by rw [hg];exact (La BaH):w.heap.size ≤ Ra));have Rg:=ga.mk ((by rw [hg];exact Nat.ne_of_lt (Pc (g:=ya) (o:=.cells #[.slice Wa Qa.length Xa,.int .i64 Ja,.int .i64 Ga,.int .i64 Ia,.slice Jb Aa.length yb] 30 (0,0)) DaH):ya ≠ Ra));have Vh:=ga.mk ((by rw [hg];exact Nat.ne_of_gt (Pc (g:=ya) (o:=.cells #[.slice Wa Qa.length Xa,.int .i64 Ja,.int .i64 Ga,.int .i64 Ia,.slice Jb Aa.length yb] 30 (0,0)) DaH):Ra ≠ ya));clear oa HB;have oa:=Cb;have HB:=Eb;have Da:=Rb;have Kl:=Gc;have Jc:=kg;have Pb:=Rg;have Ob:=Vh;clear Cb Eb Rb Gc kg Rg Vh hb Sb hg))
 go_loopg [5] k (fun kq v5 w'=>∃ (Ka:Int),v5 = .int .i64 Ka∧ga (Cc.l0 kq Ka Qa Ja Ga Ia Aa Yc Zb Tb Ub nc=some r)∧ga (kq ≤ k)∧ga (w'.heap[ya]? = some (.cells #[(.slice Wa Qa.length Xa),.int .i64 Ja,.int .i64 Ga,.int .i64 Ia,(.slice Jb Aa.length yb)] 30 (0,0)))∧ga (w'.heap[Ra]? = some (.cells #[(.slice ig Yc.length Qf),.int .i64 Zb,.int .i64 Tb,.int .i64 Ub,.int .i64 nc] 59 (0,0)))∧ga (Below w.heap.size w w'))
 case atStart=>exact ⟨(0),IaH,H',⟨Nat.le_refl _⟩,⟨HaH⟩,⟨UaH⟩,⟨GaH⟩⟩
 case round =>
  clear H'
  try clear c1
  try clear p2
  (try clear HA);(try clear pg);(try clear oa);(try clear Da);(try clear HB);obtain ⟨Ka,rfl,HA,pg,oa,Da,HB⟩:=hrel;cases gk with
  | zero=>exact absurd HA.out (by simp [Cc.l0])
  | succ k1 =>
   have H:=HA.out;clear HA;simp only [Cc.l0] at H
   by_cases c5:Ka < (Yc.length:Int)
   ·rw [if_pos c5] at H;have Nk:decide (Ka < (Yc.length:Int))=true:=decide_eq_true c5;clear c5
    by_cases c6:0 ≤ Ka
    ·rw [if_pos c6] at H;have Mp:decide (0 ≤ Ka)=true:=decide_eq_true c6;clear c6;replace H:=Option.bind_eq_some_iff.mp H;obtain ⟨t104,tV,H⟩:=H;replace H:(if t104=true then (Cc.l0 k1 (wrap64 (Ka + 1)) Qa Ja Ga Ia Aa Yc Zb Tb Ub nc) else (some false))=some r:=H;have A7:=ga.mk tV;clear tV
     by_cases c8:t104=true
     ·subst c8;have H1:(Cc.l0 k1 (wrap64 (Ka + 1)) Qa Ja Ga Ia Aa Yc Zb Tb Ub nc)=some r:=by rw [if_pos rfl] at H;exact H
      clear H;have H:=H1;clear H1;have H':=ga.mk H;clear H;have zav:=Ob.out;have lav:=Pb.out;have Ai:wr.cell? ⟨Ra,0,none⟩=some (.slice ig Yc.length Qf):=(ia Da.out 0).trans rfl;have zi:wr.cell? ⟨Ra,1,none⟩=some (.int .i64 Zb):=(ia Da.out 1).trans rfl;have si:wr.cell? ⟨Ra,2,none⟩=some (.int .i64 Tb):=(ia Da.out 2).trans rfl;have ri:wr.cell? ⟨Ra,3,none⟩=some (.int .i64 Ub):=(ia Da.out 3).trans rfl;have qi:wr.cell? ⟨Ra,4,none⟩=some (.int .i64 nc):=(ia Da.out 4).trans rfl;have ni:=aa Da.out 0;have ki:=aa Da.out 1;have ji:=aa Da.out 2;have ei:=aa Da.out 3;have di:=aa Da.out 4
      try go_wp2
      have Cb:=ga.mk (Fa oa.out);have Eb:=ga.mk (Fa Da.out);have Rb:=ga.mk (ta HB.out);clear oa Da HB;have oa:=Cb;have Da:=Eb;have HB:=Rb;clear Cb Eb Rb;have LN:0 ≤ (Ka:Int):=Ua;have JN:Ka < (Yc.length:Int):=Ua;obtain ⟨aj,aac,yq,xq,wq,vq,uq,rq,qq⟩:=Jm Zp.out Ka LN JN;have Uz:=qq;have Vz:=rq;have Wz:=uq;have Xz:=vq;have Yz:=wq;have Zz:=xq;have aA:=yq;cases aac;replace yq:=Sa HB.out yq;replace xq:=Sa HB.out xq;replace wq:=Sa HB.out wq;replace vq:=Sa HB.out vq;replace uq:=Sa HB.out uq;replace rq:=Sa HB.out rq;replace qq:=Sa HB.out qq;replace LN:=eq_true LN;replace JN:=eq_true JN;refine Mo (n:=8) (S:=fun w'=>w'.cell? ⟨ya,0,none⟩=some (.slice Wa Qa.length Xa)∧w'.cell? ⟨ya,1,none⟩=some (.int .i64 Ja)∧w'.cell? ⟨ya,2,none⟩=some (.int .i64 Ga)∧w'.cell? ⟨ya,3,none⟩=some (.int .i64 Ia)∧w'.cell? ⟨ya,4,none⟩=some (.slice Jb Aa.length yb)∧w'.cell? ⟨Ra,0,none⟩=some (.slice (some aj) Yc.length Qf)∧w'.cell? ⟨Ra,1,none⟩=some (.int .i64 Zb)∧w'.cell? ⟨Ra,2,none⟩=some (.int .i64 Tb)∧w'.cell? ⟨Ra,3,none⟩=some (.int .i64 Ub)∧w'.cell? ⟨Ra,4,none⟩=some (.int .i64 nc)∧w'.cell? (aj.add ((Ka).toNat * 7))=some (.int .i64 ((Ea Yc Ka).f0))∧w'.cell? ⟨(aj.add ((Ka).toNat * 7)).block,(aj.add ((Ka).toNat * 7)).off + 1,none⟩=some (.int .i64 ((Ea Yc Ka).f1))∧w'.cell? ⟨(aj.add ((Ka).toNat * 7)).block,(aj.add ((Ka).toNat * 7)).off + 2,none⟩=some (.int .i64 ((Ea Yc Ka).f2))∧w'.cell? ⟨(aj.add ((Ka).toNat * 7)).block,(aj.add ((Ka).toNat * 7)).off + 3,none⟩=some (.int .i64 ((Ea Yc Ka).f3))∧w'.cell? ⟨(aj.add ((Ka).toNat * 7)).block,(aj.add ((Ka).toNat * 7)).off + 4,none⟩=some (.int .i64 ((Ea Yc Ka).f4))∧w'.cell? ⟨(aj.add ((Ka).toNat * 7)).block,(aj.add ((Ka).toNat * 7)).off + 5,none⟩=some (.int .i64 ((Ea Yc Ka).f5))∧w'.cell? ⟨(aj.add ((Ka).toNat * 7)).block,(aj.add ((Ka).toNat * 7)).off + 6,none⟩=some (.string ((Ea Yc Ka).f6))) (ds:=[]) #[false,false,false,false,false,false,false,false] (by kernel_rfl) rfl rfl ⟨(ia oa.out 0).trans rfl,(ia oa.out 1).trans rfl,(ia oa.out 2).trans rfl,(ia oa.out 3).trans rfl,(ia oa.out 4).trans rfl,(ia Da.out 0).trans rfl,(ia Da.out 1).trans rfl,(ia Da.out 2).trans rfl,(ia Da.out 3).trans rfl,(ia Da.out 4).trans rfl,(Sa HB.out aA),(Sa HB.out Zz),(Sa HB.out Yz),(Sa HB.out Xz),(Sa HB.out Wz),(Sa HB.out Vz),(Sa HB.out Uz)⟩ (fun hHeld=>?_);refine Qk Cc.Fae Cc.j_ (fun Ug Wx=>?_);generalize wr.drew=Xj at oa Da HB yq xq wq vq uq rq qq hHeld ⊢;refine Ud (i:=1) (N:=some 16) (v:=?_) (a':=?_) #[false,true,false,false,false,false,false,false] rfl rfl (yd Ug.out (by kernel_rfl)) (fun _ _ _ h=>h) (Or.inl ⟨by rfl,?_⟩) ?_ ?_;rotate_left
      ·intro w';go_simp;with_reducible rfl
      rotate_left
      ·simp only [Act.put,List.setIfInBounds_toArray,List.set_cons_zero,List.set_cons_succ,qc,tc]
       rfl
      refine Ud (i:=3) (N:=some 18) (v:=?_) (a':=?_) #[false,true,false,true,false,false,false,false] rfl rfl (yd Ug.out (by kernel_rfl)) (fun _ _ _ h=>h) (Or.inl ⟨by rfl,?_⟩) ?_ ?_;rotate_left
      ·intro w';go_simp;with_reducible rfl
      rotate_left
      ·simp only [Act.put,List.setIfInBounds_toArray,List.set_cons_zero,List.set_cons_succ,qc,tc]
       rfl
      refine Fi (i:=0) (N:=some 15) (v:=?_) (a':=?_) #[true,true,false,true,false,false,false,false] rfl rfl (Uf Ug.out Wx.out (by kernel_rfl)) (fun _ _ _ h=>h) (Or.inl ⟨by rfl,?_⟩) hHeld ?_ ?_;rotate_left
      ·rintro w' ⟨s0,s1,s2,s3,s4,s5,s6,s7,s8,s9,XP,VP,TP,O1,s14,s15,s16⟩;go_simp;with_reducible rfl
      rotate_left
      ·simp only [Act.put,List.setIfInBounds_toArray,List.set_cons_zero,List.set_cons_succ,qc,tc]
       rfl
      refine Fi (i:=2) (N:=some 17) (v:=?_) (a':=?_) #[true,true,true,true,false,false,false,false] rfl rfl (Uf Ug.out Wx.out (by kernel_rfl)) (fun _ _ _ h=>h) (Or.inl ⟨by rfl,?_⟩) hHeld ?_ ?_;rotate_left
      ·rintro w' ⟨s0,s1,s2,s3,s4,s5,s6,s7,s8,s9,XP,VP,TP,O1,s14,s15,s16⟩;go_simp;with_reducible rfl
      rotate_left
      ·simp only [Act.put,List.setIfInBounds_toArray,List.set_cons_zero,List.set_cons_succ,qc,tc]
       rfl
      refine Ud (i:=4) (N:=some 19) (v:=?_) (a':=?_) #[true,true,true,true,true,false,false,false] rfl rfl (yd Ug.out (by kernel_rfl)) (fun _ _ _ h=>h) (Or.inl ⟨by rfl,?_⟩) ?_ ?_;rotate_left
      ·intro w';go_simp;with_reducible rfl
      rotate_left
      ·simp only [Act.put,List.setIfInBounds_toArray,List.set_cons_zero,List.set_cons_succ,qc,tc]
       rfl
      refine Fi (i:=5) (N:=some 20) (v:=?_) (a':=?_) #[true,true,true,true,true,true,false,false] rfl rfl (Uf Ug.out Wx.out (by kernel_rfl)) (fun _ _ _ h=>h) (Or.inl ⟨by rfl,?_⟩) hHeld ?_ ?_;rotate_left
      ·rintro w' ⟨s0,s1,s2,s3,s4,s5,s6,s7,s8,s9,XP,VP,TP,O1,s14,s15,s16⟩;go_simp;with_reducible rfl
      rotate_left
      ·simp only [Act.put,List.setIfInBounds_toArray,List.set_cons_zero,List.set_cons_succ,qc,tc]
       rfl
      refine Qy (i:=6) (N:=some 21) #[true,true,true,true,true,true,true,false] rfl rfl (Bu Ug.out (by kernel_rfl)) (by decide) (fun K hK=>?_);refine Rv Try.func97 (by kernel_rfl) rfl #[.agg #[.slice Wa Qa.length Xa,.int .i64 Ja,.int .i64 Ga,.int .i64 Ia,.slice Jb Aa.length yb],.agg #[.int .i64 ((Ea Yc Ka).f0),.int .i64 ((Ea Yc Ka).f1),.int .i64 ((Ea Yc Ka).f2),.int .i64 ((Ea Yc Ka).f3),.int .i64 ((Ea Yc Ka).f4),.int .i64 ((Ea Yc Ka).f5),.string ((Ea Yc Ka).f6)]] (by rfl) rfl rfl FaH ?_;with_reducible refine (zb.calls k1 _ _ Qa Ja Ga Ia _ _ Aa ((Ea Yc Ka).f0) ((Ea Yc Ka).f1) ((Ea Yc Ka).f2) ((Ea Yc Ka).f3) ((Ea Yc Ka).f4) ((Ea Yc Ka).f5) ((Ea Yc Ka).f6) true _ ?yc ?uc ?td ?qd A7.out).mono ?_
      (case yc=>repeat (first|exact (Kd.Ab fe.out HB.out)|(with_reducible refine Kd.Lb ?_ _)|(with_reducible refine Kd.Kb ?_ _)|(with_reducible refine Kd.Xb ?_)))
      (case uc=>exact ye.out)
      (case td=>repeat (first|exact (Kd.Ab We.out HB.out)|(with_reducible refine Kd.Lb ?_ _)|(with_reducible refine Kd.Kb ?_ _)|(with_reducible refine Kd.Xb ?_)))
      (case qd=>exact Xf.out)
      rintro e Xr ⟨rfl,hb⟩;refine ⟨_,rfl,?_⟩;have Cb:=ga.mk (Va (g:=ya) (o:=.cells #[.slice Wa Qa.length Xa,.int .i64 Ja,.int .i64 Ga,.int .i64 Ia,.slice Jb Aa.length yb] 30 (0,0)) DaH hb);have Eb:=ga.mk (Va (g:=Ra) (o:=.cells #[.slice (some aj) Yc.length Qf,.int .i64 Zb,.int .i64 Tb,.int .i64 Ub,.int .i64 nc] 59 (0,0)) LaH hb);have Rb:=ga.mk (Na KaH hb);clear oa Da HB;have oa:=Cb;have Da:=Eb;have HB:=Rb;clear Cb Eb Rb;(try clear hb);(try clear jj);(try clear hk);(try clear hi);refine hK.out _ _ ⟨(ia oa.out 0).trans rfl,(ia oa.out 1).trans rfl,(ia oa.out 2).trans rfl,(ia oa.out 3).trans rfl,(ia oa.out 4).trans rfl,(ia Da.out 0).trans rfl,(ia Da.out 1).trans rfl,(ia Da.out 2).trans rfl,(ia Da.out 3).trans rfl,(ia Da.out 4).trans rfl,(Sa HB.out aA),(Sa HB.out Zz),(Sa HB.out Yz),(Sa HB.out Xz),(Sa HB.out Wz),(Sa HB.out Vz),(Sa HB.out Uz)⟩ (fun hHeld=>?_);clear hK K;refine Zq (a':=?_) ?_ ?_;rotate_left
      ·show Act.put _ (some 21) _=_
       simp only [Act.put,List.setIfInBounds_toArray,List.set_cons_zero,List.set_cons_succ,qc,tc]
       rfl
      refine Ud (i:=7) (N:=some 22) (v:=?_) (a':=?_) #[true,true,true,true,true,true,true,true] rfl rfl (yd Ug.out (by kernel_rfl)) (fun _ _ _ h=>h) (Or.inl ⟨by rfl,?_⟩) ?_ ?_;rotate_left
      ·intro w';go_simp;with_reducible rfl
      rotate_left
      ·simp only [Act.put,List.setIfInBounds_toArray,List.set_cons_zero,List.set_cons_succ,qc,tc]
       rfl
      refine bu (Bp Ug.out (by kernel_rfl)) ?_
      try go_wp2
      go_roundg k1
      case measure=>have:=pg.out;omega
      case rel=>exact ⟨(wrap64 (Ka + 1)),IaH,H',⟨by have:=pg.out;omega⟩,⟨HaH⟩,⟨UaH⟩,⟨GaH⟩⟩
     ·replace c8:=Bool.eq_false_iff.mpr c8;subst c8;have H1:(some false)=some r:=by rw [if_neg (show ¬ (false=true) by decide)] at H;exact H
      clear H;have H:=H1;clear H1;obtain rfl:=Option.some.inj H;have Faf:=Ob.out;have qaf:=Pb.out;have Eh:wr.cell? ⟨Ra,0,none⟩=some (.slice ig Yc.length Qf):=(ia Da.out 0).trans rfl;have Dh:wr.cell? ⟨Ra,1,none⟩=some (.int .i64 Zb):=(ia Da.out 1).trans rfl;have Ch:wr.cell? ⟨Ra,2,none⟩=some (.int .i64 Tb):=(ia Da.out 2).trans rfl;have Bh:wr.cell? ⟨Ra,3,none⟩=some (.int .i64 Ub):=(ia Da.out 3).trans rfl;have Ah:wr.cell? ⟨Ra,4,none⟩=some (.int .i64 nc):=(ia Da.out 4).trans rfl;have zh:=aa Da.out 0;have yh:=aa Da.out 1;have xh:=aa Da.out 2;have wh:=aa Da.out 3;have uh:=aa Da.out 4
      try go_wp2
      have Cb:=ga.mk (Fa oa.out);have Eb:=ga.mk (Fa Da.out);have Rb:=ga.mk (ta HB.out);clear oa Da HB;have oa:=Cb;have Da:=Eb;have HB:=Rb;clear Cb Eb Rb;have LN:0 ≤ (Ka:Int):=Ua;have JN:Ka < (Yc.length:Int):=Ua;obtain ⟨aj,aac,yq,xq,wq,vq,uq,rq,qq⟩:=Jm Zp.out Ka LN JN;have Uz:=qq;have Vz:=rq;have Wz:=uq;have Xz:=vq;have Yz:=wq;have Zz:=xq;have aA:=yq;cases aac;replace yq:=Sa HB.out yq;replace xq:=Sa HB.out xq;replace wq:=Sa HB.out wq;replace vq:=Sa HB.out vq;replace uq:=Sa HB.out uq;replace rq:=Sa HB.out rq;replace qq:=Sa HB.out qq;replace LN:=eq_true LN;replace JN:=eq_true JN;refine Mo (n:=8) (S:=fun w'=>w'.cell? ⟨ya,0,none⟩=some (.slice Wa Qa.length Xa)∧w'.cell? ⟨ya,1,none⟩=some (.int .i64 Ja)∧w'.cell? ⟨ya,2,none⟩=some (.int .i64 Ga)∧w'.cell? ⟨ya,3,none⟩=some (.int .i64 Ia)∧w'.cell? ⟨ya,4,none⟩=some (.slice Jb Aa.length yb)∧w'.cell? ⟨Ra,0,none⟩=some (.slice (some aj) Yc.length Qf)∧w'.cell? ⟨Ra,1,none⟩=some (.int .i64 Zb)∧w'.cell? ⟨Ra,2,none⟩=some (.int .i64 Tb)∧w'.cell? ⟨Ra,3,none⟩=some (.int .i64 Ub)∧w'.cell? ⟨Ra,4,none⟩=some (.int .i64 nc)∧w'.cell? (aj.add ((Ka).toNat * 7))=some (.int .i64 ((Ea Yc Ka).f0))∧w'.cell? ⟨(aj.add ((Ka).toNat * 7)).block,(aj.add ((Ka).toNat * 7)).off + 1,none⟩=some (.int .i64 ((Ea Yc Ka).f1))∧w'.cell? ⟨(aj.add ((Ka).toNat * 7)).block,(aj.add ((Ka).toNat * 7)).off + 2,none⟩=some (.int .i64 ((Ea Yc Ka).f2))∧w'.cell? ⟨(aj.add ((Ka).toNat * 7)).block,(aj.add ((Ka).toNat * 7)).off + 3,none⟩=some (.int .i64 ((Ea Yc Ka).f3))∧w'.cell? ⟨(aj.add ((Ka).toNat * 7)).block,(aj.add ((Ka).toNat * 7)).off + 4,none⟩=some (.int .i64 ((Ea Yc Ka).f4))∧w'.cell? ⟨(aj.add ((Ka).toNat * 7)).block,(aj.add ((Ka).toNat * 7)).off + 5,none⟩=some (.int .i64 ((Ea Yc Ka).f5))∧w'.cell? ⟨(aj.add ((Ka).toNat * 7)).block,(aj.add ((Ka).toNat * 7)).off + 6,none⟩=some (.string ((Ea Yc Ka).f6))) (ds:=[]) #[false,false,false,false,false,false,false,false] (by kernel_rfl) rfl rfl ⟨(ia oa.out 0).trans rfl,(ia oa.out 1).trans rfl,(ia oa.out 2).trans rfl,(ia oa.out 3).trans rfl,(ia oa.out 4).trans rfl,(ia Da.out 0).trans rfl,(ia Da.out 1).trans rfl,(ia Da.out 2).trans rfl,(ia Da.out 3).trans rfl,(ia Da.out 4).trans rfl,(Sa HB.out aA),(Sa HB.out Zz),(Sa HB.out Yz),(Sa HB.out Xz),(Sa HB.out Wz),(Sa HB.out Vz),(Sa HB.out Uz)⟩ (fun hHeld=>?_);refine Qk Cc.Fae Cc.j_ (fun Ug Wx=>?_);generalize wr.drew=um at oa Da HB yq xq wq vq uq rq qq hHeld ⊢;refine Ud (i:=1) (N:=some 16) (v:=?_) (a':=?_) #[false,true,false,false,false,false,false,false] rfl rfl (yd Ug.out (by kernel_rfl)) (fun _ _ _ h=>h) (Or.inl ⟨by rfl,?_⟩) ?_ ?_;rotate_left
      ·intro w';go_simp;with_reducible rfl
      rotate_left
      ·simp only [Act.put,List.setIfInBounds_toArray,List.set_cons_zero,List.set_cons_succ,qc,tc]
       rfl
      refine Ud (i:=3) (N:=some 18) (v:=?_) (a':=?_) #[false,true,false,true,false,false,false,false] rfl rfl (yd Ug.out (by kernel_rfl)) (fun _ _ _ h=>h) (Or.inl ⟨by rfl,?_⟩) ?_ ?_;rotate_left
      ·intro w';go_simp;with_reducible rfl
      rotate_left
      ·simp only [Act.put,List.setIfInBounds_toArray,List.set_cons_zero,List.set_cons_succ,qc,tc]
       rfl
      refine Fi (i:=0) (N:=some 15) (v:=?_) (a':=?_) #[true,true,false,true,false,false,false,false] rfl rfl (Uf Ug.out Wx.out (by kernel_rfl)) (fun _ _ _ h=>h) (Or.inl ⟨by rfl,?_⟩) hHeld ?_ ?_;rotate_left
      ·rintro w' ⟨s0,s1,s2,s3,s4,s5,s6,s7,s8,s9,XP,VP,TP,O1,s14,s15,s16⟩;go_simp;with_reducible rfl
      rotate_left
      ·simp only [Act.put,List.setIfInBounds_toArray,List.set_cons_zero,List.set_cons_succ,qc,tc]
       rfl
      refine Fi (i:=2) (N:=some 17) (v:=?_) (a':=?_) #[true,true,true,true,false,false,false,false] rfl rfl (Uf Ug.out Wx.out (by kernel_rfl)) (fun _ _ _ h=>h) (Or.inl ⟨by rfl,?_⟩) hHeld ?_ ?_;rotate_left
      ·rintro w' ⟨s0,s1,s2,s3,s4,s5,s6,s7,s8,s9,XP,VP,TP,O1,s14,s15,s16⟩;go_simp;with_reducible rfl
      rotate_left
      ·simp only [Act.put,List.setIfInBounds_toArray,List.set_cons_zero,List.set_cons_succ,qc,tc]
       rfl
      refine Ud (i:=4) (N:=some 19) (v:=?_) (a':=?_) #[true,true,true,true,true,false,false,false] rfl rfl (yd Ug.out (by kernel_rfl)) (fun _ _ _ h=>h) (Or.inl ⟨by rfl,?_⟩) ?_ ?_;rotate_left
      ·intro w';go_simp;with_reducible rfl
      rotate_left
      ·simp only [Act.put,List.setIfInBounds_toArray,List.set_cons_zero,List.set_cons_succ,qc,tc]
       rfl
      refine Fi (i:=5) (N:=some 20) (v:=?_) (a':=?_) #[true,true,true,true,true,true,false,false] rfl rfl (Uf Ug.out Wx.out (by kernel_rfl)) (fun _ _ _ h=>h) (Or.inl ⟨by rfl,?_⟩) hHeld ?_ ?_;rotate_left
      ·rintro w' ⟨s0,s1,s2,s3,s4,s5,s6,s7,s8,s9,XP,VP,TP,O1,s14,s15,s16⟩;go_simp;with_reducible rfl
      rotate_left
      ·simp only [Act.put,List.setIfInBounds_toArray,List.set_cons_zero,List.set_cons_succ,qc,tc]
       rfl
      refine Qy (i:=6) (N:=some 21) #[true,true,true,true,true,true,true,false] rfl rfl (Bu Ug.out (by kernel_rfl)) (by decide) (fun K hK=>?_);refine Rv Try.func97 (by kernel_rfl) rfl #[.agg #[.slice Wa Qa.length Xa,.int .i64 Ja,.int .i64 Ga,.int .i64 Ia,.slice Jb Aa.length yb],.agg #[.int .i64 ((Ea Yc Ka).f0),.int .i64 ((Ea Yc Ka).f1),.int .i64 ((Ea Yc Ka).f2),.int .i64 ((Ea Yc Ka).f3),.int .i64 ((Ea Yc Ka).f4),.int .i64 ((Ea Yc Ka).f5),.string ((Ea Yc Ka).f6)]] (by rfl) rfl rfl FaH ?_;with_reducible refine (zb.calls k1 _ _ Qa Ja Ga Ia _ _ Aa ((Ea Yc Ka).f0) ((Ea Yc Ka).f1) ((Ea Yc Ka).f2) ((Ea Yc Ka).f3) ((Ea Yc Ka).f4) ((Ea Yc Ka).f5) ((Ea Yc Ka).f6) false _ ?yc ?uc ?td ?qd A7.out).mono ?_
      (case yc=>repeat (first|exact (Kd.Ab fe.out HB.out)|(with_reducible refine Kd.Lb ?_ _)|(with_reducible refine Kd.Kb ?_ _)|(with_reducible refine Kd.Xb ?_)))
      (case uc=>exact ye.out)
      (case td=>repeat (first|exact (Kd.Ab We.out HB.out)|(with_reducible refine Kd.Lb ?_ _)|(with_reducible refine Kd.Kb ?_ _)|(with_reducible refine Kd.Xb ?_)))
      (case qd=>exact Xf.out)
      rintro e qz ⟨rfl,hb⟩;refine ⟨_,rfl,?_⟩;have Cb:=ga.mk (Va (g:=ya) (o:=.cells #[.slice Wa Qa.length Xa,.int .i64 Ja,.int .i64 Ga,.int .i64 Ia,.slice Jb Aa.length yb] 30 (0,0)) DaH hb);have Eb:=ga.mk (Va (g:=Ra) (o:=.cells #[.slice (some aj) Yc.length Qf,.int .i64 Zb,.int .i64 Tb,.int .i64 Ub,.int .i64 nc] 59 (0,0)) LaH hb);have Rb:=ga.mk (Na KaH hb);clear oa Da HB;have oa:=Cb;have Da:=Eb;have HB:=Rb;clear Cb Eb Rb;(try clear hb);(try clear jj);(try clear hk);(try clear hi);refine hK.out _ _ ⟨(ia oa.out 0).trans rfl,(ia oa.out 1).trans rfl,(ia oa.out 2).trans rfl,(ia oa.out 3).trans rfl,(ia oa.out 4).trans rfl,(ia Da.out 0).trans rfl,(ia Da.out 1).trans rfl,(ia Da.out 2).trans rfl,(ia Da.out 3).trans rfl,(ia Da.out 4).trans rfl,(Sa HB.out aA),(Sa HB.out Zz),(Sa HB.out Yz),(Sa HB.out Xz),(Sa HB.out Wz),(Sa HB.out Vz),(Sa HB.out Uz)⟩ (fun hHeld=>?_);clear hK K;refine Zq (a':=?_) ?_ ?_;rotate_left
      ·show Act.put _ (some 21) _=_
       simp only [Act.put,List.setIfInBounds_toArray,List.set_cons_zero,List.set_cons_succ,qc,tc]
       rfl
      refine Ud (i:=7) (N:=some 22) (v:=?_) (a':=?_) #[true,true,true,true,true,true,true,true] rfl rfl (yd Ug.out (by kernel_rfl)) (fun _ _ _ h=>h) (Or.inl ⟨by rfl,?_⟩) ?_ ?_;rotate_left
      ·intro w';go_simp;with_reducible rfl
      rotate_left
      ·simp only [Act.put,List.setIfInBounds_toArray,List.set_cons_zero,List.set_cons_succ,qc,tc]
       rfl
      refine bu (Bp Ug.out (by kernel_rfl)) ?_
      try go_wp2
      go_ret;exact ⟨by first|rfl|(simp [Pa,Oa] <;> rfl)|(simp [*,Pa,Oa] <;> rfl),GaH⟩
    ·rw [if_neg c6] at H;exact absurd H (by simp)
   ·rw [if_neg c5] at H;have Nk:decide (Ka < (Yc.length:Int))=false:=decide_eq_false c5;clear c5;replace H:=Option.bind_eq_some_iff.mp H;obtain ⟨t105,gam,H⟩:=H;replace H:((gb.f Tb 0 (wrap64 (Ia - 1))).bind fun t106=>(if Zb=0 then (if t105=true then (if Tb=0 then (some (nc == 0)) else (some false)) else (some false)) else (if Zb=1 then (if t105=true then (if t106=true then ((gb.f nc 0 (wrap64 ((Aa.length:Int) - 1))).bind fun t107=>(some t107)) else (some false)) else (some false)) else (if Zb=2 then (if t106=true then (if Ub=0 then (some (nc == 0)) else (some false)) else (some false)) else (some false)))))=some r:=H;have U0:=ga.mk gam;clear gam;replace H:=Option.bind_eq_some_iff.mp H;obtain ⟨t106,iN,H⟩:=H;replace H:(if Zb=0 then (if t105=true then (if Tb=0 then (some (nc == 0)) else (some false)) else (some false)) else (if Zb=1 then (if t105=true then (if t106=true then ((gb.f nc 0 (wrap64 ((Aa.length:Int) - 1))).bind fun t107=>(some t107)) else (some false)) else (some false)) else (if Zb=2 then (if t106=true then (if Ub=0 then (some (nc == 0)) else (some false)) else (some false)) else (some false))))=some r:=H;have cL:=ga.mk iN;clear iN
    by_cases Ll:Zb=0
    ·rw [if_pos Ll] at H;have Kr:(Zb == 0)=true:=beq_iff_eq.mpr Ll;have IM:(Zb != 0)=false:=bne_eq_false_iff_eq.mpr Ll;clear Ll
     by_cases vm:t105=true
     ·subst vm;have H1:(if Tb=0 then (some (nc == 0)) else (some false))=some r:=by rw [if_pos rfl] at H;exact H
      clear H;have H:=H1;clear H1
      by_cases Ir:Tb=0
      ·rw [if_pos Ir] at H;have GM:(Tb == 0)=true:=beq_iff_eq.mpr Ir;have Yaj:(Tb != 0)=false:=bne_eq_false_iff_eq.mpr Ir;clear Ir;obtain rfl:=Option.some.inj H;have Caf:=Ob.out;have naf:=Pb.out;have jt:wr.cell? ⟨Ra,0,none⟩=some (.slice ig Yc.length Qf):=(ia Da.out 0).trans rfl;have ct:wr.cell? ⟨Ra,1,none⟩=some (.int .i64 Zb):=(ia Da.out 1).trans rfl;have bt:wr.cell? ⟨Ra,2,none⟩=some (.int .i64 Tb):=(ia Da.out 2).trans rfl;have Zs:wr.cell? ⟨Ra,3,none⟩=some (.int .i64 Ub):=(ia Da.out 3).trans rfl;have Ys:wr.cell? ⟨Ra,4,none⟩=some (.int .i64 nc):=(ia Da.out 4).trans rfl;have Ls:=aa Da.out 0;have Ks:=aa Da.out 1;have Js:=aa Da.out 2;have Hs:=aa Da.out 3;have Gs:=aa Da.out 4;have Nq:wr.cell? ⟨ya,0,none⟩=some (.slice Wa Qa.length Xa):=(ia oa.out 0).trans rfl;have Mq:wr.cell? ⟨ya,1,none⟩=some (.int .i64 Ja):=(ia oa.out 1).trans rfl;have Kq:wr.cell? ⟨ya,2,none⟩=some (.int .i64 Ga):=(ia oa.out 2).trans rfl;have Jq:wr.cell? ⟨ya,3,none⟩=some (.int .i64 Ia):=(ia oa.out 3).trans rfl;have Iq:wr.cell? ⟨ya,4,none⟩=some (.slice Jb Aa.length yb):=(ia oa.out 4).trans rfl;have Hq:=aa oa.out 0;have Gq:=aa oa.out 1;have Fq:=aa oa.out 2;have Dq:=aa oa.out 3;have Cq:=aa oa.out 4;go_wp2_with (first|((with_reducible refine Bb (f:=53) rfl ?_);refine Tc (some 29) rfl rfl Try.func53 (by kernel_rfl) rfl #[.int .i64 Ub,.int .i64 0,.int .i64 (wrap64 ((Aa.length:Int) - 1))] rfl FaH ?_;(with_reducible refine (gb.calls Ub 0 (wrap64 ((Aa.length:Int) - 1)) true _ U0.out).mono ?_);rintro e w' ⟨rfl,⟨nd,rfl⟩⟩;refine ⟨_,rfl,?_⟩)|((with_reducible refine Bb (f:=53) rfl ?_);refine Tc (some 35) rfl rfl Try.func53 (by kernel_rfl) rfl #[.int .i64 Tb,.int .i64 0,.int .i64 (wrap64 (Ia - 1))] rfl FaH ?_;(with_reducible refine (gb.calls Tb 0 (wrap64 (Ia - 1)) t106 _ cL.out).mono ?_);rintro e w' ⟨rfl,⟨nd,rfl⟩⟩;refine ⟨_,rfl,?_⟩));go_ret;exact ⟨by first|rfl|(simp [Pa,Oa] <;> rfl)|(simp [*,Pa,Oa] <;> rfl),GaH⟩
      ·rw [if_neg Ir] at H;have GM:(Tb == 0)=false:=beq_eq_false_iff_ne.mpr Ir;have Yaj:(Tb != 0)=true:=bne_iff_ne.mpr Ir;obtain rfl:=Option.some.inj H;have Aaf:=Ob.out;have laf:=Pb.out;have ov:wr.cell? ⟨Ra,0,none⟩=some (.slice ig Yc.length Qf):=(ia Da.out 0).trans rfl;have nv:wr.cell? ⟨Ra,1,none⟩=some (.int .i64 Zb):=(ia Da.out 1).trans rfl;have jv:wr.cell? ⟨Ra,2,none⟩=some (.int .i64 Tb):=(ia Da.out 2).trans rfl;have gv:wr.cell? ⟨Ra,3,none⟩=some (.int .i64 Ub):=(ia Da.out 3).trans rfl;have cv:wr.cell? ⟨Ra,4,none⟩=some (.int .i64 nc):=(ia Da.out 4).trans rfl;have Ou:=aa Da.out 0;have Nu:=aa Da.out 1;have Mu:=aa Da.out 2;have Lu:=aa Da.out 3;have Ku:=aa Da.out 4;have Hx:wr.cell? ⟨ya,0,none⟩=some (.slice Wa Qa.length Xa):=(ia oa.out 0).trans rfl;have Gx:wr.cell? ⟨ya,1,none⟩=some (.int .i64 Ja):=(ia oa.out 1).trans rfl;have Fx:wr.cell? ⟨ya,2,none⟩=some (.int .i64 Ga):=(ia oa.out 2).trans rfl;have Ex:wr.cell? ⟨ya,3,none⟩=some (.int .i64 Ia):=(ia oa.out 3).trans rfl;have Dx:wr.cell? ⟨ya,4,none⟩=some (.slice Jb Aa.length yb):=(ia oa.out 4).trans rfl;have Xw:=aa oa.out 0;have Ww:=aa oa.out 1;have Vw:=aa oa.out 2;have Uw:=aa oa.out 3;have Tw:=aa oa.out 4;go_wp2_with (first|((with_reducible refine Bb (f:=53) rfl ?_);refine Tc (some 29) rfl rfl Try.func53 (by kernel_rfl) rfl #[.int .i64 Ub,.int .i64 0,.int .i64 (wrap64 ((Aa.length:Int) - 1))] rfl FaH ?_;(with_reducible refine (gb.calls Ub 0 (wrap64 ((Aa.length:Int) - 1)) true _ U0.out).mono ?_);rintro e w' ⟨rfl,⟨nd,rfl⟩⟩;refine ⟨_,rfl,?_⟩)|((with_reducible refine Bb (f:=53) rfl ?_);refine Tc (some 35) rfl rfl Try.func53 (by kernel_rfl) rfl #[.int .i64 Tb,.int .i64 0,.int .i64 (wrap64 (Ia - 1))] rfl FaH ?_;(with_reducible refine (gb.calls Tb 0 (wrap64 (Ia - 1)) t106 _ cL.out).mono ?_);rintro e w' ⟨rfl,⟨nd,rfl⟩⟩;refine ⟨_,rfl,?_⟩));go_ret;exact ⟨by first|rfl|(simp [Pa,Oa] <;> rfl)|(simp [*,Pa,Oa] <;> rfl),GaH⟩
     ·replace vm:=Bool.eq_false_iff.mpr vm;subst vm;have H1:(some false)=some r:=by rw [if_neg (show ¬ (false=true) by decide)] at H;exact H
      clear H;have H:=H1;clear H1;obtain rfl:=Option.some.inj H;have paB:=Ob.out;have JaA:=Pb.out;have aE:wr.cell? ⟨Ra,0,none⟩=some (.slice ig Yc.length Qf):=(ia Da.out 0).trans rfl;have ZD:wr.cell? ⟨Ra,1,none⟩=some (.int .i64 Zb):=(ia Da.out 1).trans rfl;have YD:wr.cell? ⟨Ra,2,none⟩=some (.int .i64 Tb):=(ia Da.out 2).trans rfl;have XD:wr.cell? ⟨Ra,3,none⟩=some (.int .i64 Ub):=(ia Da.out 3).trans rfl;have WD:wr.cell? ⟨Ra,4,none⟩=some (.int .i64 nc):=(ia Da.out 4).trans rfl;have GD:=aa Da.out 0;have FD:=aa Da.out 1;have ED:=aa Da.out 2;have DD:=aa Da.out 3;have CD:=aa Da.out 4;have X5:wr.cell? ⟨ya,0,none⟩=some (.slice Wa Qa.length Xa):=(ia oa.out 0).trans rfl;have W5:wr.cell? ⟨ya,1,none⟩=some (.int .i64 Ja):=(ia oa.out 1).trans rfl;have V5:wr.cell? ⟨ya,2,none⟩=some (.int .i64 Ga):=(ia oa.out 2).trans rfl;have U5:wr.cell? ⟨ya,3,none⟩=some (.int .i64 Ia):=(ia oa.out 3).trans rfl;have T5:wr.cell? ⟨ya,4,none⟩=some (.slice Jb Aa.length yb):=(ia oa.out 4).trans rfl;have W3:=aa oa.out 0;have V3:=aa oa.out 1;have U3:=aa oa.out 2;have T3:=aa oa.out 3;have S3:=aa oa.out 4;go_wp2_with (first|((with_reducible refine Bb (f:=53) rfl ?_);refine Tc (some 29) rfl rfl Try.func53 (by kernel_rfl) rfl #[.int .i64 Ub,.int .i64 0,.int .i64 (wrap64 ((Aa.length:Int) - 1))] rfl FaH ?_;(with_reducible refine (gb.calls Ub 0 (wrap64 ((Aa.length:Int) - 1)) false _ U0.out).mono ?_);rintro e w' ⟨rfl,⟨nd,rfl⟩⟩;refine ⟨_,rfl,?_⟩)|((with_reducible refine Bb (f:=53) rfl ?_);refine Tc (some 35) rfl rfl Try.func53 (by kernel_rfl) rfl #[.int .i64 Tb,.int .i64 0,.int .i64 (wrap64 (Ia - 1))] rfl FaH ?_;(with_reducible refine (gb.calls Tb 0 (wrap64 (Ia - 1)) t106 _ cL.out).mono ?_);rintro e w' ⟨rfl,⟨nd,rfl⟩⟩;refine ⟨_,rfl,?_⟩));go_ret;exact ⟨by first|rfl|(simp [Pa,Oa] <;> rfl)|(simp [*,Pa,Oa] <;> rfl),GaH⟩
    ·rw [if_neg Ll] at H;have Kr:(Zb == 0)=false:=beq_eq_false_iff_ne.mpr Ll;have IM:(Zb != 0)=true:=bne_iff_ne.mpr Ll
     by_cases fV:Zb=1
     ·rw [if_pos fV] at H;have V9:(Zb == 1)=true:=beq_iff_eq.mpr fV;have Vaj:(Zb != 1)=false:=bne_eq_false_iff_eq.mpr fV;clear fV
      by_cases AV:t105=true
      ·subst AV;have H1:(if t106=true then ((gb.f nc 0 (wrap64 ((Aa.length:Int) - 1))).bind fun t107=>(some t107)) else (some false))=some r:=by rw [if_pos rfl] at H;exact H
       clear H;have H:=H1;clear H1
       by_cases zV:t106=true
       ·subst zV;have H1:((gb.f nc 0 (wrap64 ((Aa.length:Int) - 1))).bind fun t107=>(some t107))=some r:=by rw [if_pos rfl] at H;exact H
        clear H;have H:=H1;clear H1;replace H:=Option.bind_eq_some_iff.mp H;obtain ⟨t107,bam,H⟩:=H;replace H:(some t107)=some r:=H;have A34:=ga.mk bam;clear bam;obtain rfl:=Option.some.inj H;have xaf:=Ob.out;have iaf:=Pb.out;have SJ:wr.cell? ⟨Ra,0,none⟩=some (.slice ig Yc.length Qf):=(ia Da.out 0).trans rfl;have RJ:wr.cell? ⟨Ra,1,none⟩=some (.int .i64 Zb):=(ia Da.out 1).trans rfl;have QJ:wr.cell? ⟨Ra,2,none⟩=some (.int .i64 Tb):=(ia Da.out 2).trans rfl;have PJ:wr.cell? ⟨Ra,3,none⟩=some (.int .i64 Ub):=(ia Da.out 3).trans rfl;have OJ:wr.cell? ⟨Ra,4,none⟩=some (.int .i64 nc):=(ia Da.out 4).trans rfl;have RI:=aa Da.out 0;have QI:=aa Da.out 1;have PI:=aa Da.out 2;have OI:=aa Da.out 3;have NI:=aa Da.out 4;have GS:wr.cell? ⟨ya,0,none⟩=some (.slice Wa Qa.length Xa):=(ia oa.out 0).trans rfl;have ES:wr.cell? ⟨ya,1,none⟩=some (.int .i64 Ja):=(ia oa.out 1).trans rfl;have DS:wr.cell? ⟨ya,2,none⟩=some (.int .i64 Ga):=(ia oa.out 2).trans rfl;have CS:wr.cell? ⟨ya,3,none⟩=some (.int .i64 Ia):=(ia oa.out 3).trans rfl;have BS:wr.cell? ⟨ya,4,none⟩=some (.slice Jb Aa.length yb):=(ia oa.out 4).trans rfl;have sR:=aa oa.out 0;have rR:=aa oa.out 1;have qR:=aa oa.out 2;have pR:=aa oa.out 3;have oR:=aa oa.out 4;go_wp2_with (first|((with_reducible refine Bb (f:=53) rfl ?_);refine Tc (some 29) rfl rfl Try.func53 (by kernel_rfl) rfl #[.int .i64 Ub,.int .i64 0,.int .i64 (wrap64 ((Aa.length:Int) - 1))] rfl FaH ?_;(with_reducible refine (gb.calls Ub 0 (wrap64 ((Aa.length:Int) - 1)) true _ U0.out).mono ?_);rintro e w' ⟨rfl,⟨nd,rfl⟩⟩;refine ⟨_,rfl,?_⟩)|((with_reducible refine Bb (f:=53) rfl ?_);refine Tc (some 35) rfl rfl Try.func53 (by kernel_rfl) rfl #[.int .i64 Tb,.int .i64 0,.int .i64 (wrap64 (Ia - 1))] rfl FaH ?_;(with_reducible refine (gb.calls Tb 0 (wrap64 (Ia - 1)) true _ cL.out).mono ?_);rintro e w' ⟨rfl,⟨nd,rfl⟩⟩;refine ⟨_,rfl,?_⟩)|(go_at_call 53;(with_reducible refine (gb.calls nc 0 (wrap64 ((Aa.length:Int) - 1)) t107 _ A34.out).mono ?_);rintro e w' ⟨rfl,⟨nd,rfl⟩⟩));go_ret;exact ⟨by first|rfl|(simp [Pa,Oa] <;> rfl)|(simp [*,Pa,Oa] <;> rfl),GaH⟩
       ·replace zV:=Bool.eq_false_iff.mpr zV;subst zV;have H1:(some false)=some r:=by rw [if_neg (show ¬ (false=true) by decide)] at H;exact H
        clear H;have H:=H1;clear H1;obtain rfl:=Option.some.inj H;have vaf:=Ob.out;have gaf:=Pb.out;have IJ:wr.cell? ⟨Ra,0,none⟩=some (.slice ig Yc.length Qf):=(ia Da.out 0).trans rfl;have HJ:wr.cell? ⟨Ra,1,none⟩=some (.int .i64 Zb):=(ia Da.out 1).trans rfl;have GJ:wr.cell? ⟨Ra,2,none⟩=some (.int .i64 Tb):=(ia Da.out 2).trans rfl;have FJ:wr.cell? ⟨Ra,3,none⟩=some (.int .i64 Ub):=(ia Da.out 3).trans rfl;have EJ:wr.cell? ⟨Ra,4,none⟩=some (.int .i64 nc):=(ia Da.out 4).trans rfl;have GI:=aa Da.out 0;have FI:=aa Da.out 1;have EI:=aa Da.out 2;have DI:=aa Da.out 3;have CI:=aa Da.out 4;have Cx:wr.cell? ⟨ya,0,none⟩=some (.slice Wa Qa.length Xa):=(ia oa.out 0).trans rfl;have Bx:wr.cell? ⟨ya,1,none⟩=some (.int .i64 Ja):=(ia oa.out 1).trans rfl;have zx:wr.cell? ⟨ya,2,none⟩=some (.int .i64 Ga):=(ia oa.out 2).trans rfl;have yx:wr.cell? ⟨ya,3,none⟩=some (.int .i64 Ia):=(ia oa.out 3).trans rfl;have xx:wr.cell? ⟨ya,4,none⟩=some (.slice Jb Aa.length yb):=(ia oa.out 4).trans rfl;have Sw:=aa oa.out 0;have Rw:=aa oa.out 1;have Qw:=aa oa.out 2;have Pw:=aa oa.out 3;have Ow:=aa oa.out 4;go_wp2_with (first|((with_reducible refine Bb (f:=53) rfl ?_);refine Tc (some 29) rfl rfl Try.func53 (by kernel_rfl) rfl #[.int .i64 Ub,.int .i64 0,.int .i64 (wrap64 ((Aa.length:Int) - 1))] rfl FaH ?_;(with_reducible refine (gb.calls Ub 0 (wrap64 ((Aa.length:Int) - 1)) true _ U0.out).mono ?_);rintro e w' ⟨rfl,⟨nd,rfl⟩⟩;refine ⟨_,rfl,?_⟩)|((with_reducible refine Bb (f:=53) rfl ?_);refine Tc (some 35) rfl rfl Try.func53 (by kernel_rfl) rfl #[.int .i64 Tb,.int .i64 0,.int .i64 (wrap64 (Ia - 1))] rfl FaH ?_;(with_reducible refine (gb.calls Tb 0 (wrap64 (Ia - 1)) false _ cL.out).mono ?_);rintro e w' ⟨rfl,⟨nd,rfl⟩⟩;refine ⟨_,rfl,?_⟩));go_ret;exact ⟨by first|rfl|(simp [Pa,Oa] <;> rfl)|(simp [*,Pa,Oa] <;> rfl),GaH⟩
      ·replace AV:=Bool.eq_false_iff.mpr AV;subst AV;have H1:(some false)=some r:=by rw [if_neg (show ¬ (false=true) by decide)] at H;exact H
       clear H;have H:=H1;clear H1;obtain rfl:=Option.some.inj H;have uaf:=Ob.out;have faf:=Pb.out;have BJ:wr.cell? ⟨Ra,0,none⟩=some (.slice ig Yc.length Qf):=(ia Da.out 0).trans rfl;have AJ:wr.cell? ⟨Ra,1,none⟩=some (.int .i64 Zb):=(ia Da.out 1).trans rfl;have zJ:wr.cell? ⟨Ra,2,none⟩=some (.int .i64 Tb):=(ia Da.out 2).trans rfl;have yJ:wr.cell? ⟨Ra,3,none⟩=some (.int .i64 Ub):=(ia Da.out 3).trans rfl;have xJ:wr.cell? ⟨Ra,4,none⟩=some (.int .i64 nc):=(ia Da.out 4).trans rfl;have yI:=aa Da.out 0;have xI:=aa Da.out 1;have wI:=aa Da.out 2;have vI:=aa Da.out 3;have uI:=aa Da.out 4;have pS:wr.cell? ⟨ya,0,none⟩=some (.slice Wa Qa.length Xa):=(ia oa.out 0).trans rfl;have oS:wr.cell? ⟨ya,1,none⟩=some (.int .i64 Ja):=(ia oa.out 1).trans rfl;have nS:wr.cell? ⟨ya,2,none⟩=some (.int .i64 Ga):=(ia oa.out 2).trans rfl;have mS:wr.cell? ⟨ya,3,none⟩=some (.int .i64 Ia):=(ia oa.out 3).trans rfl;have lS:wr.cell? ⟨ya,4,none⟩=some (.slice Jb Aa.length yb):=(ia oa.out 4).trans rfl;have dR:=aa oa.out 0;have cR:=aa oa.out 1;have bR:=aa oa.out 2;have ZQ:=aa oa.out 3;have YQ:=aa oa.out 4;go_wp2_with (first|((with_reducible refine Bb (f:=53) rfl ?_);refine Tc (some 29) rfl rfl Try.func53 (by kernel_rfl) rfl #[.int .i64 Ub,.int .i64 0,.int .i64 (wrap64 ((Aa.length:Int) - 1))] rfl FaH ?_;(with_reducible refine (gb.calls Ub 0 (wrap64 ((Aa.length:Int) - 1)) false _ U0.out).mono ?_);rintro e w' ⟨rfl,⟨nd,rfl⟩⟩;refine ⟨_,rfl,?_⟩)|((with_reducible refine Bb (f:=53) rfl ?_);refine Tc (some 35) rfl rfl Try.func53 (by kernel_rfl) rfl #[.int .i64 Tb,.int .i64 0,.int .i64 (wrap64 (Ia - 1))] rfl FaH ?_;(with_reducible refine (gb.calls Tb 0 (wrap64 (Ia - 1)) t106 _ cL.out).mono ?_);rintro e w' ⟨rfl,⟨nd,rfl⟩⟩;refine ⟨_,rfl,?_⟩));go_ret;exact ⟨by first|rfl|(simp [Pa,Oa] <;> rfl)|(simp [*,Pa,Oa] <;> rfl),GaH⟩
     ·rw [if_neg fV] at H;have V9:(Zb == 1)=false:=beq_eq_false_iff_ne.mpr fV;have Vaj:(Zb != 1)=true:=bne_iff_ne.mpr fV
      by_cases MO:Zb=2
      ·rw [if_pos MO] at H;have WX:(Zb == 2)=true:=beq_iff_eq.mpr MO;have VX:(Zb != 2)=false:=bne_eq_false_iff_eq.mpr MO;clear MO
       by_cases o7:t106=true
       ·subst o7;have H1:(if Ub=0 then (some (nc == 0)) else (some false))=some r:=by rw [if_pos rfl] at H;exact H
        clear H;have H:=H1;clear H1
        by_cases LO:Ub=0
        ·rw [if_pos LO] at H;have UX:(Ub == 0)=true:=beq_iff_eq.mpr LO;have SX:(Ub != 0)=false:=bne_eq_false_iff_eq.mpr LO;clear LO;obtain rfl:=Option.some.inj H;have b9:=Ob.out;have X8:=Pb.out;have rJ:wr.cell? ⟨Ra,0,none⟩=some (.slice ig Yc.length Qf):=(ia Da.out 0).trans rfl;have qJ:wr.cell? ⟨Ra,1,none⟩=some (.int .i64 Zb):=(ia Da.out 1).trans rfl;have pJ:wr.cell? ⟨Ra,2,none⟩=some (.int .i64 Tb):=(ia Da.out 2).trans rfl;have oJ:wr.cell? ⟨Ra,3,none⟩=some (.int .i64 Ub):=(ia Da.out 3).trans rfl;have nJ:wr.cell? ⟨Ra,4,none⟩=some (.int .i64 nc):=(ia Da.out 4).trans rfl;have oI:=aa Da.out 0;have nI:=aa Da.out 1;have mI:=aa Da.out 2;have lI:=aa Da.out 3;have kI:=aa Da.out 4;have G5:wr.cell? ⟨ya,0,none⟩=some (.slice Wa Qa.length Xa):=(ia oa.out 0).trans rfl;have F5:wr.cell? ⟨ya,1,none⟩=some (.int .i64 Ja):=(ia oa.out 1).trans rfl;have E5:wr.cell? ⟨ya,2,none⟩=some (.int .i64 Ga):=(ia oa.out 2).trans rfl;have D5:wr.cell? ⟨ya,3,none⟩=some (.int .i64 Ia):=(ia oa.out 3).trans rfl;have C5:wr.cell? ⟨ya,4,none⟩=some (.slice Jb Aa.length yb):=(ia oa.out 4).trans rfl;have F3:=aa oa.out 0;have E3:=aa oa.out 1;have D3:=aa oa.out 2;have C3:=aa oa.out 3;have B3:=aa oa.out 4;go_wp2_with (first|((with_reducible refine Bb (f:=53) rfl ?_);refine Tc (some 29) rfl rfl Try.func53 (by kernel_rfl) rfl #[.int .i64 Ub,.int .i64 0,.int .i64 (wrap64 ((Aa.length:Int) - 1))] rfl FaH ?_;(with_reducible refine (gb.calls Ub 0 (wrap64 ((Aa.length:Int) - 1)) t105 _ U0.out).mono ?_);rintro e w' ⟨rfl,⟨nd,rfl⟩⟩;refine ⟨_,rfl,?_⟩)|((with_reducible refine Bb (f:=53) rfl ?_);refine Tc (some 35) rfl rfl Try.func53 (by kernel_rfl) rfl #[.int .i64 Tb,.int .i64 0,.int .i64 (wrap64 (Ia - 1))] rfl FaH ?_;(with_reducible refine (gb.calls Tb 0 (wrap64 (Ia - 1)) true _ cL.out).mono ?_);rintro e w' ⟨rfl,⟨nd,rfl⟩⟩;refine ⟨_,rfl,?_⟩));go_ret;exact ⟨by first|rfl|(simp [Pa,Oa] <;> rfl)|(simp [*,Pa,Oa] <;> rfl),GaH⟩
        ·rw [if_neg LO] at H;have UX:(Ub == 0)=false:=beq_eq_false_iff_ne.mpr LO;have SX:(Ub != 0)=true:=bne_iff_ne.mpr LO;obtain rfl:=Option.some.inj H;have eaB:=Ob.out;have xaA:=Pb.out;have eas:wr.cell? ⟨Ra,0,none⟩=some (.slice ig Yc.length Qf):=(ia Da.out 0).trans rfl;have das:wr.cell? ⟨Ra,1,none⟩=some (.int .i64 Zb):=(ia Da.out 1).trans rfl;have cas:wr.cell? ⟨Ra,2,none⟩=some (.int .i64 Tb):=(ia Da.out 2).trans rfl;have bas:wr.cell? ⟨Ra,3,none⟩=some (.int .i64 Ub):=(ia Da.out 3).trans rfl;have aas:wr.cell? ⟨Ra,4,none⟩=some (.int .i64 nc):=(ia Da.out 4).trans rfl;have Sao:=aa Da.out 0;have Rao:=aa Da.out 1;have Qao:=aa Da.out 2;have Pao:=aa Da.out 3;have Oao:=aa Da.out 4;have kJ:wr.cell? ⟨ya,0,none⟩=some (.slice Wa Qa.length Xa):=(ia oa.out 0).trans rfl;have jJ:wr.cell? ⟨ya,1,none⟩=some (.int .i64 Ja):=(ia oa.out 1).trans rfl;have iJ:wr.cell? ⟨ya,2,none⟩=some (.int .i64 Ga):=(ia oa.out 2).trans rfl;have hJ:wr.cell? ⟨ya,3,none⟩=some (.int .i64 Ia):=(ia oa.out 3).trans rfl;have gJ:wr.cell? ⟨ya,4,none⟩=some (.slice Jb Aa.length yb):=(ia oa.out 4).trans rfl;have gI:=aa oa.out 0;have fI:=aa oa.out 1;have eI:=aa oa.out 2;have dI:=aa oa.out 3;have cI:=aa oa.out 4;go_wp2_with (first|((with_reducible refine Bb (f:=53) rfl ?_);refine Tc (some 29) rfl rfl Try.func53 (by kernel_rfl) rfl #[.int .i64 Ub,.int .i64 0,.int .i64 (wrap64 ((Aa.length:Int) - 1))] rfl FaH ?_;(with_reducible refine (gb.calls Ub 0 (wrap64 ((Aa.length:Int) - 1)) t105 _ U0.out).mono ?_);rintro e w' ⟨rfl,⟨nd,rfl⟩⟩;refine ⟨_,rfl,?_⟩)|((with_reducible refine Bb (f:=53) rfl ?_);refine Tc (some 35) rfl rfl Try.func53 (by kernel_rfl) rfl #[.int .i64 Tb,.int .i64 0,.int .i64 (wrap64 (Ia - 1))] rfl FaH ?_;(with_reducible refine (gb.calls Tb 0 (wrap64 (Ia - 1)) true _ cL.out).mono ?_);rintro e w' ⟨rfl,⟨nd,rfl⟩⟩;refine ⟨_,rfl,?_⟩));go_ret;exact ⟨by first|rfl|(simp [Pa,Oa] <;> rfl)|(simp [*,Pa,Oa] <;> rfl),GaH⟩
       ·replace o7:=Bool.eq_false_iff.mpr o7;subst o7;have H1:(some false)=some r:=by rw [if_neg (show ¬ (false=true) by decide)] at H;exact H
        clear H;have H:=H1;clear H1;obtain rfl:=Option.some.inj H;have daB:=Ob.out;have waA:=Pb.out;have Rar:wr.cell? ⟨Ra,0,none⟩=some (.slice ig Yc.length Qf):=(ia Da.out 0).trans rfl;have Qar:wr.cell? ⟨Ra,1,none⟩=some (.int .i64 Zb):=(ia Da.out 1).trans rfl;have Par:wr.cell? ⟨Ra,2,none⟩=some (.int .i64 Tb):=(ia Da.out 2).trans rfl;have Oar:wr.cell? ⟨Ra,3,none⟩=some (.int .i64 Ub):=(ia Da.out 3).trans rfl;have Nar:wr.cell? ⟨Ra,4,none⟩=some (.int .i64 nc):=(ia Da.out 4).trans rfl;have Gao:=aa Da.out 0;have Fao:=aa Da.out 1;have Eao:=aa Da.out 2;have Dao:=aa Da.out 3;have Cao:=aa Da.out 4;have B5:wr.cell? ⟨ya,0,none⟩=some (.slice Wa Qa.length Xa):=(ia oa.out 0).trans rfl;have n5:wr.cell? ⟨ya,1,none⟩=some (.int .i64 Ja):=(ia oa.out 1).trans rfl;have m5:wr.cell? ⟨ya,2,none⟩=some (.int .i64 Ga):=(ia oa.out 2).trans rfl;have j5:wr.cell? ⟨ya,3,none⟩=some (.int .i64 Ia):=(ia oa.out 3).trans rfl;have b5:wr.cell? ⟨ya,4,none⟩=some (.slice Jb Aa.length yb):=(ia oa.out 4).trans rfl;have n3:=aa oa.out 0;have m3:=aa oa.out 1;have j3:=aa oa.out 2;have Z2:=aa oa.out 3;have Y2:=aa oa.out 4;go_wp2_with (first|((with_reducible refine Bb (f:=53) rfl ?_);refine Tc (some 29) rfl rfl Try.func53 (by kernel_rfl) rfl #[.int .i64 Ub,.int .i64 0,.int .i64 (wrap64 ((Aa.length:Int) - 1))] rfl FaH ?_;(with_reducible refine (gb.calls Ub 0 (wrap64 ((Aa.length:Int) - 1)) t105 _ U0.out).mono ?_);rintro e w' ⟨rfl,⟨nd,rfl⟩⟩;refine ⟨_,rfl,?_⟩)|((with_reducible refine Bb (f:=53) rfl ?_);refine Tc (some 35) rfl rfl Try.func53 (by kernel_rfl) rfl #[.int .i64 Tb,.int .i64 0,.int .i64 (wrap64 (Ia - 1))] rfl FaH ?_;(with_reducible refine (gb.calls Tb 0 (wrap64 (Ia - 1)) false _ cL.out).mono ?_);rintro e w' ⟨rfl,⟨nd,rfl⟩⟩;refine ⟨_,rfl,?_⟩));go_ret;exact ⟨by first|rfl|(simp [Pa,Oa] <;> rfl)|(simp [*,Pa,Oa] <;> rfl),GaH⟩
      ·rw [if_neg MO] at H;have WX:(Zb == 2)=false:=beq_eq_false_iff_ne.mpr MO;have VX:(Zb != 2)=true:=bne_iff_ne.mpr MO;obtain rfl:=Option.some.inj H;have baB:=Ob.out;have uaA:=Pb.out;have Mar:wr.cell? ⟨Ra,0,none⟩=some (.slice ig Yc.length Qf):=(ia Da.out 0).trans rfl;have Lar:wr.cell? ⟨Ra,1,none⟩=some (.int .i64 Zb):=(ia Da.out 1).trans rfl;have Kar:wr.cell? ⟨Ra,2,none⟩=some (.int .i64 Tb):=(ia Da.out 2).trans rfl;have Jar:wr.cell? ⟨Ra,3,none⟩=some (.int .i64 Ub):=(ia Da.out 3).trans rfl;have Iar:wr.cell? ⟨Ra,4,none⟩=some (.int .i64 nc):=(ia Da.out 4).trans rfl;have Bao:=aa Da.out 0;have Aao:=aa Da.out 1;have zao:=aa Da.out 2;have yao:=aa Da.out 3;have xao:=aa Da.out 4;have Z4:wr.cell? ⟨ya,0,none⟩=some (.slice Wa Qa.length Xa):=(ia oa.out 0).trans rfl;have Y4:wr.cell? ⟨ya,1,none⟩=some (.int .i64 Ja):=(ia oa.out 1).trans rfl;have X4:wr.cell? ⟨ya,2,none⟩=some (.int .i64 Ga):=(ia oa.out 2).trans rfl;have W4:wr.cell? ⟨ya,3,none⟩=some (.int .i64 Ia):=(ia oa.out 3).trans rfl;have V4:wr.cell? ⟨ya,4,none⟩=some (.slice Jb Aa.length yb):=(ia oa.out 4).trans rfl;have X2:=aa oa.out 0;have V2:=aa oa.out 1;have U2:=aa oa.out 2;have T2:=aa oa.out 3;have R2:=aa oa.out 4;go_wp2_with (first|((with_reducible refine Bb (f:=53) rfl ?_);refine Tc (some 29) rfl rfl Try.func53 (by kernel_rfl) rfl #[.int .i64 Ub,.int .i64 0,.int .i64 (wrap64 ((Aa.length:Int) - 1))] rfl FaH ?_;(with_reducible refine (gb.calls Ub 0 (wrap64 ((Aa.length:Int) - 1)) t105 _ U0.out).mono ?_);rintro e w' ⟨rfl,⟨nd,rfl⟩⟩;refine ⟨_,rfl,?_⟩)|((with_reducible refine Bb (f:=53) rfl ?_);refine Tc (some 35) rfl rfl Try.func53 (by kernel_rfl) rfl #[.int .i64 Tb,.int .i64 0,.int .i64 (wrap64 (Ia - 1))] rfl FaH ?_;(with_reducible refine (gb.calls Tb 0 (wrap64 (Ia - 1)) t106 _ cL.out).mono ?_);rintro e w' ⟨rfl,⟨nd,rfl⟩⟩;refine ⟨_,rfl,?_⟩));go_ret;exact ⟨by first|rfl|(simp [Pa,Oa] <;> rfl)|(simp [*,Pa,Oa] <;> rfl),GaH⟩
mutual
def Ya.l0:Nat→Int→List Int→Int→Int→Int→List (He)→Option (Bool)
 | 0,_,_,_,_,_,_=>none
 | k + 1,x3,Fc,Uc,Mc,Ic,jc=>if x3 < (Fc.length:Int) then (if 0 ≤ x3 then ((gb.f (rd Fc x3) 1 16).bind fun t103=>(if t103=true then (Ya.l0 k (wrap64 (x3 + 1)) Fc Uc Mc Ic jc) else (some false))) else (none)) else ((gb.f (Fc.length:Int) 1 4).bind fun t104=>(if t104=true then ((gb.f Mc 0 20).bind fun t105=>(if t105=true then ((gb.f Uc 0 6).bind fun t106=>(if t106=true then (if Uc > Mc then (Ya.j1 k true Fc Uc Mc Ic jc) else ((gb.f Ic Mc 1000).bind fun t107=>(if t107=true then ((gb.f (jc.length:Int) 1 300).bind fun t108=>(Ya.j1 k (!t108) Fc Uc Mc Ic jc)) else (Ya.j1 k true Fc Uc Mc Ic jc)))) else (Ya.j1 k true Fc Uc Mc Ic jc))) else (Ya.j1 k true Fc Uc Mc Ic jc))) else (Ya.j1 k true Fc Uc Mc Ic jc)))
def Ya.j1:Nat→Bool→List Int→Int→Int→Int→List (He)→Option (Bool)
 | 0,_,_,_,_,_,_=>none
 | k + 1,x58,Fc,Uc,Mc,Ic,jc=>if x58=true then (some false) else (Ya.l1 k 0 0 Fc Uc Mc Ic jc)
def Ya.l1:Nat→Int→Int→List Int→Int→Int→Int→List (He)→Option (Bool)
 | 0,_,_,_,_,_,_,_=>none
 | k + 1,x4,x5,Fc,Uc,Mc,Ic,jc=>if x5 < (jc.length:Int) then (if 0 ≤ x5 then (if (wrap64 (x4 + (((za jc x5).f0).length:Int))) > 1000 then (some false) else ((Cc.f k Fc Uc Mc Ic jc ((za jc x5).f0) ((za jc x5).f1) ((za jc x5).f2) ((za jc x5).f3) ((za jc x5).f4)).bind fun t111=>(if t111=true then (Ya.l1 k (wrap64 (x4 + (((za jc x5).f0).length:Int))) (wrap64 (x5 + 1)) Fc Uc Mc Ic jc) else (some false)))) else (none)) else (some true)
end
def Ya.f (k:Nat) (Qa:List Int) (Ja:Int) (Ga:Int) (Ia:Int) (Aa:List (He)):Option (Bool):=Ya.l0 k 0 Qa Ja Ga Ia Aa
def Ya.T13:Bool × List (List Nat × List Nat):=(true,[([],[]),([0],[0]),([1],[1]),([2],[2]),([2],[2]),([4,2],[2,4]),([2],[2]),([5,6,2],[2,5,6]),([7,2],[2,7]),([3,8,2,2],[2,3,8]),([9,2],[2,9]),([2,10],[2,10])])
def Ya.B13:List Nat:=[0,1,3,7,7,23,7,119,247,511,1023,2047]
theorem Ya.SV:Wp .any (opsOf Try.f40 13)=Ya.T13:=by kernel_rfl
theorem Ya.YO:aq Ya.T13.2 Ya.B13=true:=by kernel_rfl
theorem Ya.calls (k:Nat) (Wa:Option Addr) (Xa:Nat) (Qa:List Int) (Ja:Int) (Ga:Int) (Ia:Int) (Jb:Option Addr) (yb:Nat) (Aa:List (He)) (r:Bool) (w:World) (Od:Kd.C (Kd.int .i64) w Wa Qa.length Qa) (Md:Qa.length ≤ Xa) (Re:Kd.C iq w Jb Aa.length Aa) (Qe:Aa.length ≤ yb) (h:Ya.f k Qa Ja Ga Ia Aa=some r) :
  Calls Try.prog 40 #[.agg #[.slice Wa Qa.length Xa,.int .i64 Ja,.int .i64 Ga,.int .i64 Ia,.slice Jb Aa.length yb]] w fun e w'=>e = .returned (.bool r)∧Below w.heap.size w w':=by
 have KB:=Try.underlying30;have JB:=Try.underlying59;have fe:=ga.mk Od;have ye:=ga.mk Md;clear Od Md;have We:=ga.mk Re;have Xf:=ga.mk Qe;clear Re Qe;have HB:=ga.mk (Below.refl w.heap.size w);have H:(Ya.l0 k 0 Qa Ja Ga Ia Aa)=some r:=h;clear h;have H':=ga.mk H;clear H;go_enter Try.func40,Try.ntmps40;go_wp2_with (first|((with_reducible refine qb (N:=1) rfl ?_);(try (refine Wg (by rfl) ?_;dsimp only));refine Ib ?hg (N:=1) ?hd (cs:=#[.slice Wa Qa.length Xa,.int .i64 Ja,.int .i64 Ga,.int .i64 Ia,.slice Jb Aa.length yb]) (t:=30) ?hr ?_;(case hd=>rfl);(case hg=>rfl);(case hr=>first|(go_simp;done)|(go_simp;rfl));intro ya hg w2 Sb hb;have Cb:=ga.mk (Na CaH hb);have Eb:=ga.mk (Sb);have Rb:=ga.mk ((by rw [hg];exact (La CaH):w.heap.size ≤ ya));have Gc:=ga.mk ((by rw [hg];exact (La CaH):w.heap.size ≤ ya));clear HB;have HB:=Cb;have oa:=Eb;have Nd:=Rb;have Ta:=Gc;clear Cb Eb Rb Gc hb Sb hg))
 go_loopg [3] k (fun kq v3 w'=>∃ (xe:Int),v3 = .int .i64 xe∧ga (Ya.l0 kq xe Qa Ja Ga Ia Aa=some r)∧ga (kq ≤ k)∧ga (w'.heap[ya]? = some (.cells #[(.slice Wa Qa.length Xa),.int .i64 Ja,.int .i64 Ga,.int .i64 Ia,(.slice Jb Aa.length yb)] 30 (0,0)))∧ga (Below w.heap.size w w'))
 case atStart=>exact ⟨(0),IaH,H',⟨Nat.le_refl _⟩,⟨HaH⟩,⟨EaH⟩⟩
 case round =>
  clear H'
  try clear p2
  (try clear HA);(try clear pg);(try clear oa);(try clear HB);obtain ⟨xe,rfl,HA,pg,oa,HB⟩:=hrel;cases gk with
  | zero=>exact absurd HA.out (by simp [Ya.l0])
  | succ k1 =>
   have H:=HA.out;clear HA;simp only [Ya.l0] at H
   by_cases c3:xe < (Qa.length:Int)
   ·rw [if_pos c3] at H;have Qi:decide (xe < (Qa.length:Int))=true:=decide_eq_true c3;clear c3
    by_cases c4:0 ≤ xe
    ·rw [if_pos c4] at H;have Tl:decide (0 ≤ xe)=true:=decide_eq_true c4;clear c4;replace H:=Option.bind_eq_some_iff.mp H;obtain ⟨t103,gN,H⟩:=H;replace H:(if t103=true then (Ya.l0 k1 (wrap64 (xe + 1)) Qa Ja Ga Ia Aa) else (some false))=some r:=H;have A5:=ga.mk gN;clear gN
     by_cases c6:t103=true
     ·subst c6;have H1:(Ya.l0 k1 (wrap64 (xe + 1)) Qa Ja Ga Ia Aa)=some r:=by rw [if_pos rfl] at H;exact H
      clear H;have H:=H1;clear H1;have H':=ga.mk H;clear H;have Dk:wr.cell? ⟨ya,0,none⟩=some (.slice Wa Qa.length Xa):=(ia oa.out 0).trans rfl;have Ck:wr.cell? ⟨ya,1,none⟩=some (.int .i64 Ja):=(ia oa.out 1).trans rfl;have Bk:wr.cell? ⟨ya,2,none⟩=some (.int .i64 Ga):=(ia oa.out 2).trans rfl;have Ak:wr.cell? ⟨ya,3,none⟩=some (.int .i64 Ia):=(ia oa.out 3).trans rfl;have zk:wr.cell? ⟨ya,4,none⟩=some (.slice Jb Aa.length yb):=(ia oa.out 4).trans rfl;have xk:=aa oa.out 0;have vk:=aa oa.out 1;have uk:=aa oa.out 2;have sk:=aa oa.out 3;have qk:=aa oa.out 4;have Qj:0 ≤ (xe:Int):=Ua;have Pj:xe < (Qa.length:Int):=Ua;obtain ⟨Gf,Dv,Kf⟩:=Kd.Rf fe.out xe Qj Pj;cases Dv;replace Kf:=Sa HB.out Kf;replace Qj:=eq_true Qj;replace Pj:=eq_true Pj;go_wp2_with (first|((with_reducible refine Bb (f:=53) rfl ?_);refine Tc (some 18) rfl rfl Try.func53 (by kernel_rfl) rfl #[.int .i64 (rd Qa xe),.int .i64 1,.int .i64 16] rfl FaH ?_;(with_reducible refine (gb.calls (rd Qa xe) 1 16 true _ A5.out).mono ?_);rintro e w' ⟨rfl,⟨nd,rfl⟩⟩;refine ⟨_,rfl,?_⟩))
      go_roundg k1
      case measure=>have:=pg.out;omega
      case rel=>exact ⟨(wrap64 (xe + 1)),IaH,H',⟨by have:=pg.out;omega⟩,⟨HaH⟩,⟨EaH⟩⟩
     ·replace c6:=Bool.eq_false_iff.mpr c6;subst c6;have H1:(some false)=some r:=by rw [if_neg (show ¬ (false=true) by decide)] at H;exact H
      clear H;have H:=H1;clear H1;obtain rfl:=Option.some.inj H;have Yu:wr.cell? ⟨ya,0,none⟩=some (.slice Wa Qa.length Xa):=(ia oa.out 0).trans rfl;have Xu:wr.cell? ⟨ya,1,none⟩=some (.int .i64 Ja):=(ia oa.out 1).trans rfl;have Wu:wr.cell? ⟨ya,2,none⟩=some (.int .i64 Ga):=(ia oa.out 2).trans rfl;have Vu:wr.cell? ⟨ya,3,none⟩=some (.int .i64 Ia):=(ia oa.out 3).trans rfl;have Uu:wr.cell? ⟨ya,4,none⟩=some (.slice Jb Aa.length yb):=(ia oa.out 4).trans rfl;have Hu:=aa oa.out 0;have Gu:=aa oa.out 1;have Fu:=aa oa.out 2;have Eu:=aa oa.out 3;have Du:=aa oa.out 4;have Qj:0 ≤ (xe:Int):=Ua;have Pj:xe < (Qa.length:Int):=Ua;obtain ⟨Gf,Dv,Kf⟩:=Kd.Rf fe.out xe Qj Pj;cases Dv;replace Kf:=Sa HB.out Kf;replace Qj:=eq_true Qj;replace Pj:=eq_true Pj;go_wp2_with (first|((with_reducible refine Bb (f:=53) rfl ?_);refine Tc (some 18) rfl rfl Try.func53 (by kernel_rfl) rfl #[.int .i64 (rd Qa xe),.int .i64 1,.int .i64 16] rfl FaH ?_;(with_reducible refine (gb.calls (rd Qa xe) 1 16 false _ A5.out).mono ?_);rintro e w' ⟨rfl,⟨nd,rfl⟩⟩;refine ⟨_,rfl,?_⟩));go_ret;exact ⟨by first|rfl|(simp [Pa,Oa] <;> rfl)|(simp [*,Pa,Oa] <;> rfl),EaH⟩
    ·rw [if_neg c4] at H;exact absurd H (by simp)
   ·rw [if_neg c3] at H;have Qi:decide (xe < (Qa.length:Int))=false:=decide_eq_false c3;clear c3;have HC9:=ga.mk H;clear H;have Ai:wr.cell? ⟨ya,0,none⟩=some (.slice Wa Qa.length Xa):=(ia oa.out 0).trans rfl;have zi:wr.cell? ⟨ya,1,none⟩=some (.int .i64 Ja):=(ia oa.out 1).trans rfl;have si:wr.cell? ⟨ya,2,none⟩=some (.int .i64 Ga):=(ia oa.out 2).trans rfl;have ri:wr.cell? ⟨ya,3,none⟩=some (.int .i64 Ia):=(ia oa.out 3).trans rfl;have qi:wr.cell? ⟨ya,4,none⟩=some (.slice Jb Aa.length yb):=(ia oa.out 4).trans rfl;have ni:=aa oa.out 0;have ki:=aa oa.out 1;have ji:=aa oa.out 2;have ei:=aa oa.out 3;have di:=aa oa.out 4
    go_upto_region 6 with (fail)
    go_cut [58] (fun v58 wc=>∃ (kq:Nat) (BP:Bool),v58 = .bool BP∧ga (Ya.j1 kq BP Qa Ja Ga Ia Aa=some r)∧ga (kq ≤ k1)∧ga (wc.heap[ya]? = some (.cells #[(.slice Wa Qa.length Xa),.int .i64 Ja,.int .i64 Ga,.int .i64 Ia,(.slice Jb Aa.length yb)] 30 (0,0)))∧ga (Below w.heap.size w wc))
    case first =>
     have H:=HC9.out;clear HC9;replace H:=Option.bind_eq_some_iff.mp H;obtain ⟨t104,lN,H⟩:=H;replace H:(if t104=true then ((gb.f Ga 0 20).bind fun t105=>(if t105=true then ((gb.f Ja 0 6).bind fun t106=>(if t106=true then (if Ja > Ga then (Ya.j1 k1 true Qa Ja Ga Ia Aa) else ((gb.f Ia Ga 1000).bind fun t107=>(if t107=true then ((gb.f (Aa.length:Int) 1 300).bind fun t108=>(Ya.j1 k1 (!t108) Qa Ja Ga Ia Aa)) else (Ya.j1 k1 true Qa Ja Ga Ia Aa)))) else (Ya.j1 k1 true Qa Ja Ga Ia Aa))) else (Ya.j1 k1 true Qa Ja Ga Ia Aa))) else (Ya.j1 k1 true Qa Ja Ga Ia Aa))=some r:=H;have FV:=ga.mk lN;clear lN
     by_cases gu:t104=true
     ·subst gu;have H1:((gb.f Ga 0 20).bind fun t105=>(if t105=true then ((gb.f Ja 0 6).bind fun t106=>(if t106=true then (if Ja > Ga then (Ya.j1 k1 true Qa Ja Ga Ia Aa) else ((gb.f Ia Ga 1000).bind fun t107=>(if t107=true then ((gb.f (Aa.length:Int) 1 300).bind fun t108=>(Ya.j1 k1 (!t108) Qa Ja Ga Ia Aa)) else (Ya.j1 k1 true Qa Ja Ga Ia Aa)))) else (Ya.j1 k1 true Qa Ja Ga Ia Aa))) else (Ya.j1 k1 true Qa Ja Ga Ia Aa)))=some r:=by rw [if_pos rfl] at H;exact H
      clear H;have H:=H1;clear H1;replace H:=Option.bind_eq_some_iff.mp H;obtain ⟨t105,kN,H⟩:=H;replace H:(if t105=true then ((gb.f Ja 0 6).bind fun t106=>(if t106=true then (if Ja > Ga then (Ya.j1 k1 true Qa Ja Ga Ia Aa) else ((gb.f Ia Ga 1000).bind fun t107=>(if t107=true then ((gb.f (Aa.length:Int) 1 300).bind fun t108=>(Ya.j1 k1 (!t108) Qa Ja Ga Ia Aa)) else (Ya.j1 k1 true Qa Ja Ga Ia Aa)))) else (Ya.j1 k1 true Qa Ja Ga Ia Aa))) else (Ya.j1 k1 true Qa Ja Ga Ia Aa))=some r:=H;have uV:=ga.mk kN;clear kN
      by_cases nL:t105=true
      ·subst nL;have H1:((gb.f Ja 0 6).bind fun t106=>(if t106=true then (if Ja > Ga then (Ya.j1 k1 true Qa Ja Ga Ia Aa) else ((gb.f Ia Ga 1000).bind fun t107=>(if t107=true then ((gb.f (Aa.length:Int) 1 300).bind fun t108=>(Ya.j1 k1 (!t108) Qa Ja Ga Ia Aa)) else (Ya.j1 k1 true Qa Ja Ga Ia Aa)))) else (Ya.j1 k1 true Qa Ja Ga Ia Aa)))=some r:=by rw [if_pos rfl] at H;exact H
       clear H;have H:=H1;clear H1;replace H:=Option.bind_eq_some_iff.mp H;obtain ⟨t106,SZ,H⟩:=H;replace H:(if t106=true then (if Ja > Ga then (Ya.j1 k1 true Qa Ja Ga Ia Aa) else ((gb.f Ia Ga 1000).bind fun t107=>(if t107=true then ((gb.f (Aa.length:Int) 1 300).bind fun t108=>(Ya.j1 k1 (!t108) Qa Ja Ga Ia Aa)) else (Ya.j1 k1 true Qa Ja Ga Ia Aa)))) else (Ya.j1 k1 true Qa Ja Ga Ia Aa))=some r:=H;have A15:=ga.mk SZ;clear SZ
       by_cases iz:t106=true
       ·subst iz;have H1:(if Ja > Ga then (Ya.j1 k1 true Qa Ja Ga Ia Aa) else ((gb.f Ia Ga 1000).bind fun t107=>(if t107=true then ((gb.f (Aa.length:Int) 1 300).bind fun t108=>(Ya.j1 k1 (!t108) Qa Ja Ga Ia Aa)) else (Ya.j1 k1 true Qa Ja Ga Ia Aa))))=some r:=by rw [if_pos rfl] at H;exact H
        clear H;have H:=H1;clear H1
        by_cases Ym:Ja > Ga
        ·rw [if_pos Ym] at H;have zm:decide (Ga < Ja)=true:=decide_eq_true Ym;clear Ym;(first|rw [zm]|(simp only [qc,tc];rw [zm])|skip);have H':=ga.mk H;clear H;have Rx:wr.cell? ⟨ya,0,none⟩=some (.slice Wa Qa.length Xa):=(ia oa.out 0).trans rfl;have Qx:wr.cell? ⟨ya,1,none⟩=some (.int .i64 Ja):=(ia oa.out 1).trans rfl;have Px:wr.cell? ⟨ya,2,none⟩=some (.int .i64 Ga):=(ia oa.out 2).trans rfl;have Ox:wr.cell? ⟨ya,3,none⟩=some (.int .i64 Ia):=(ia oa.out 3).trans rfl;have Nx:wr.cell? ⟨ya,4,none⟩=some (.slice Jb Aa.length yb):=(ia oa.out 4).trans rfl;have sx:=aa oa.out 0;have qx:=aa oa.out 1;have ox:=aa oa.out 2;have jx:=aa oa.out 3;have gx:=aa oa.out 4;go_wp2_with (first|((with_reducible refine Bb (f:=53) rfl ?_);refine Tc (some 23) rfl rfl Try.func53 (by kernel_rfl) rfl #[.int .i64 (Qa.length:Int),.int .i64 1,.int .i64 4] rfl FaH ?_;(with_reducible refine (gb.calls (Qa.length:Int) 1 4 true _ FV.out).mono ?_);rintro e w' ⟨rfl,⟨nd,rfl⟩⟩;refine ⟨_,rfl,?_⟩)|(go_at_call 53;(with_reducible refine (gb.calls Ga 0 20 true _ uV.out).mono ?_);rintro e w' ⟨rfl,⟨nd,rfl⟩⟩)|(go_at_call 53;(with_reducible refine (gb.calls Ja 0 6 true _ A15.out).mono ?_);rintro e w' ⟨rfl,⟨nd,rfl⟩⟩))
         go_meet
         case rel=>exact ⟨_,(true),IaH,H',⟨by have:=pg.out;first|omega|exact Nat.le_refl _⟩,⟨HaH⟩,⟨EaH⟩⟩
        ·rw [if_neg Ym] at H;have zm:decide (Ga < Ja)=false:=decide_eq_false Ym;clear Ym;(first|rw [zm]|(simp only [qc,tc];rw [zm])|skip);replace H:=Option.bind_eq_some_iff.mp H;obtain ⟨t107,fam,H⟩:=H;replace H:(if t107=true then ((gb.f (Aa.length:Int) 1 300).bind fun t108=>(Ya.j1 k1 (!t108) Qa Ja Ga Ia Aa)) else (Ya.j1 k1 true Qa Ja Ga Ia Aa))=some r:=H;have A19:=ga.mk fam;clear fam
         by_cases vm:t107=true
         ·subst vm;have H1:((gb.f (Aa.length:Int) 1 300).bind fun t108=>(Ya.j1 k1 (!t108) Qa Ja Ga Ia Aa))=some r:=by rw [if_pos rfl] at H;exact H
          clear H;have H:=H1;clear H1;replace H:=Option.bind_eq_some_iff.mp H;obtain ⟨t108,QZ,H⟩:=H;replace H:(Ya.j1 k1 (!t108) Qa Ja Ga Ia Aa)=some r:=H;have zP:=ga.mk QZ;clear QZ;have H':=ga.mk H;clear H;have wv:wr.cell? ⟨ya,0,none⟩=some (.slice Wa Qa.length Xa):=(ia oa.out 0).trans rfl;have vv:wr.cell? ⟨ya,1,none⟩=some (.int .i64 Ja):=(ia oa.out 1).trans rfl;have uv:wr.cell? ⟨ya,2,none⟩=some (.int .i64 Ga):=(ia oa.out 2).trans rfl;have tv:wr.cell? ⟨ya,3,none⟩=some (.int .i64 Ia):=(ia oa.out 3).trans rfl;have qv:wr.cell? ⟨ya,4,none⟩=some (.slice Jb Aa.length yb):=(ia oa.out 4).trans rfl;have Tu:=aa oa.out 0;have Su:=aa oa.out 1;have Ru:=aa oa.out 2;have Qu:=aa oa.out 3;have Pu:=aa oa.out 4;go_wp2_with (first|((with_reducible refine Bb (f:=53) rfl ?_);refine Tc (some 23) rfl rfl Try.func53 (by kernel_rfl) rfl #[.int .i64 (Qa.length:Int),.int .i64 1,.int .i64 4] rfl FaH ?_;(with_reducible refine (gb.calls (Qa.length:Int) 1 4 true _ FV.out).mono ?_);rintro e w' ⟨rfl,⟨nd,rfl⟩⟩;refine ⟨_,rfl,?_⟩)|(go_at_call 53;(with_reducible refine (gb.calls Ga 0 20 true _ uV.out).mono ?_);rintro e w' ⟨rfl,⟨nd,rfl⟩⟩)|(go_at_call 53;(with_reducible refine (gb.calls Ja 0 6 true _ A15.out).mono ?_);rintro e w' ⟨rfl,⟨nd,rfl⟩⟩)|(go_at_call 53;(with_reducible refine (gb.calls Ia Ga 1000 true _ A19.out).mono ?_);rintro e w' ⟨rfl,⟨nd,rfl⟩⟩)|(go_at_call 53;(with_reducible refine (gb.calls (Aa.length:Int) 1 300 t108 _ zP.out).mono ?_);rintro e w' ⟨rfl,⟨nd,rfl⟩⟩))
          go_meet
          case rel=>exact ⟨_,(!t108),IaH,H',⟨by have:=pg.out;first|omega|exact Nat.le_refl _⟩,⟨HaH⟩,⟨EaH⟩⟩
         ·replace vm:=Bool.eq_false_iff.mpr vm;subst vm;have H1:(Ya.j1 k1 true Qa Ja Ga Ia Aa)=some r:=by rw [if_neg (show ¬ (false=true) by decide)] at H;exact H
          clear H;have H:=H1;clear H1;have H':=ga.mk H;clear H;have jt:wr.cell? ⟨ya,0,none⟩=some (.slice Wa Qa.length Xa):=(ia oa.out 0).trans rfl;have ct:wr.cell? ⟨ya,1,none⟩=some (.int .i64 Ja):=(ia oa.out 1).trans rfl;have bt:wr.cell? ⟨ya,2,none⟩=some (.int .i64 Ga):=(ia oa.out 2).trans rfl;have Zs:wr.cell? ⟨ya,3,none⟩=some (.int .i64 Ia):=(ia oa.out 3).trans rfl;have Ys:wr.cell? ⟨ya,4,none⟩=some (.slice Jb Aa.length yb):=(ia oa.out 4).trans rfl;have Ls:=aa oa.out 0;have Ks:=aa oa.out 1;have Js:=aa oa.out 2;have Hs:=aa oa.out 3;have Gs:=aa oa.out 4;go_wp2_with (first|((with_reducible refine Bb (f:=53) rfl ?_);refine Tc (some 23) rfl rfl Try.func53 (by kernel_rfl) rfl #[.int .i64 (Qa.length:Int),.int .i64 1,.int .i64 4] rfl FaH ?_;(with_reducible refine (gb.calls (Qa.length:Int) 1 4 true _ FV.out).mono ?_);rintro e w' ⟨rfl,⟨nd,rfl⟩⟩;refine ⟨_,rfl,?_⟩)|(go_at_call 53;(with_reducible refine (gb.calls Ga 0 20 true _ uV.out).mono ?_);rintro e w' ⟨rfl,⟨nd,rfl⟩⟩)|(go_at_call 53;(with_reducible refine (gb.calls Ja 0 6 true _ A15.out).mono ?_);rintro e w' ⟨rfl,⟨nd,rfl⟩⟩)|(go_at_call 53;(with_reducible refine (gb.calls Ia Ga 1000 false _ A19.out).mono ?_);rintro e w' ⟨rfl,⟨nd,rfl⟩⟩))
          go_meet
          case rel=>exact ⟨_,(true),IaH,H',⟨by have:=pg.out;first|omega|exact Nat.le_refl _⟩,⟨HaH⟩,⟨EaH⟩⟩
       ·replace iz:=Bool.eq_false_iff.mpr iz;subst iz;have H1:(Ya.j1 k1 true Qa Ja Ga Ia Aa)=some r:=by rw [if_neg (show ¬ (false=true) by decide)] at H;exact H
        clear H;have H:=H1;clear H1;have H':=ga.mk H;clear H;have Nq:wr.cell? ⟨ya,0,none⟩=some (.slice Wa Qa.length Xa):=(ia oa.out 0).trans rfl;have Mq:wr.cell? ⟨ya,1,none⟩=some (.int .i64 Ja):=(ia oa.out 1).trans rfl;have Kq:wr.cell? ⟨ya,2,none⟩=some (.int .i64 Ga):=(ia oa.out 2).trans rfl;have Jq:wr.cell? ⟨ya,3,none⟩=some (.int .i64 Ia):=(ia oa.out 3).trans rfl;have Iq:wr.cell? ⟨ya,4,none⟩=some (.slice Jb Aa.length yb):=(ia oa.out 4).trans rfl;have Hq:=aa oa.out 0;have Gq:=aa oa.out 1;have Fq:=aa oa.out 2;have Dq:=aa oa.out 3;have Cq:=aa oa.out 4;go_wp2_with (first|((with_reducible refine Bb (f:=53) rfl ?_);refine Tc (some 23) rfl rfl Try.func53 (by kernel_rfl) rfl #[.int .i64 (Qa.length:Int),.int .i64 1,.int .i64 4] rfl FaH ?_;(with_reducible refine (gb.calls (Qa.length:Int) 1 4 true _ FV.out).mono ?_);rintro e w' ⟨rfl,⟨nd,rfl⟩⟩;refine ⟨_,rfl,?_⟩)|(go_at_call 53;(with_reducible refine (gb.calls Ga 0 20 true _ uV.out).mono ?_);rintro e w' ⟨rfl,⟨nd,rfl⟩⟩)|(go_at_call 53;(with_reducible refine (gb.calls Ja 0 6 false _ A15.out).mono ?_);rintro e w' ⟨rfl,⟨nd,rfl⟩⟩))
        go_meet
        case rel=>exact ⟨_,(true),IaH,H',⟨by have:=pg.out;first|omega|exact Nat.le_refl _⟩,⟨HaH⟩,⟨EaH⟩⟩
      ·replace nL:=Bool.eq_false_iff.mpr nL;subst nL;have H1:(Ya.j1 k1 true Qa Ja Ga Ia Aa)=some r:=by rw [if_neg (show ¬ (false=true) by decide)] at H;exact H
       clear H;have H:=H1;clear H1;have H':=ga.mk H;clear H;have Mx:wr.cell? ⟨ya,0,none⟩=some (.slice Wa Qa.length Xa):=(ia oa.out 0).trans rfl;have Lx:wr.cell? ⟨ya,1,none⟩=some (.int .i64 Ja):=(ia oa.out 1).trans rfl;have Kx:wr.cell? ⟨ya,2,none⟩=some (.int .i64 Ga):=(ia oa.out 2).trans rfl;have Jx:wr.cell? ⟨ya,3,none⟩=some (.int .i64 Ia):=(ia oa.out 3).trans rfl;have Ix:wr.cell? ⟨ya,4,none⟩=some (.slice Jb Aa.length yb):=(ia oa.out 4).trans rfl;have dx:=aa oa.out 0;have bx:=aa oa.out 1;have ax:=aa oa.out 2;have Zw:=aa oa.out 3;have Yw:=aa oa.out 4;go_wp2_with (first|((with_reducible refine Bb (f:=53) rfl ?_);refine Tc (some 23) rfl rfl Try.func53 (by kernel_rfl) rfl #[.int .i64 (Qa.length:Int),.int .i64 1,.int .i64 4] rfl FaH ?_;(with_reducible refine (gb.calls (Qa.length:Int) 1 4 true _ FV.out).mono ?_);rintro e w' ⟨rfl,⟨nd,rfl⟩⟩;refine ⟨_,rfl,?_⟩)|(go_at_call 53;(with_reducible refine (gb.calls Ga 0 20 false _ uV.out).mono ?_);rintro e w' ⟨rfl,⟨nd,rfl⟩⟩))
       go_meet
       case rel=>exact ⟨_,(true),IaH,H',⟨by have:=pg.out;first|omega|exact Nat.le_refl _⟩,⟨HaH⟩,⟨EaH⟩⟩
     ·replace gu:=Bool.eq_false_iff.mpr gu;subst gu;have H1:(Ya.j1 k1 true Qa Ja Ga Ia Aa)=some r:=by rw [if_neg (show ¬ (false=true) by decide)] at H;exact H
      clear H;have H:=H1;clear H1;have H':=ga.mk H;clear H;have ov:wr.cell? ⟨ya,0,none⟩=some (.slice Wa Qa.length Xa):=(ia oa.out 0).trans rfl;have nv:wr.cell? ⟨ya,1,none⟩=some (.int .i64 Ja):=(ia oa.out 1).trans rfl;have jv:wr.cell? ⟨ya,2,none⟩=some (.int .i64 Ga):=(ia oa.out 2).trans rfl;have gv:wr.cell? ⟨ya,3,none⟩=some (.int .i64 Ia):=(ia oa.out 3).trans rfl;have cv:wr.cell? ⟨ya,4,none⟩=some (.slice Jb Aa.length yb):=(ia oa.out 4).trans rfl;have Ou:=aa oa.out 0;have Nu:=aa oa.out 1;have Mu:=aa oa.out 2;have Lu:=aa oa.out 3;have Ku:=aa oa.out 4;go_wp2_with (first|((with_reducible refine Bb (f:=53) rfl ?_);refine Tc (some 23) rfl rfl Try.func53 (by kernel_rfl) rfl #[.int .i64 (Qa.length:Int),.int .i64 1,.int .i64 4] rfl FaH ?_;(with_reducible refine (gb.calls (Qa.length:Int) 1 4 false _ FV.out).mono ?_);rintro e w' ⟨rfl,⟨nd,rfl⟩⟩;refine ⟨_,rfl,?_⟩))
      go_meet
      case rel=>exact ⟨_,(true),IaH,H',⟨by have:=pg.out;first|omega|exact Nat.le_refl _⟩,⟨HaH⟩,⟨EaH⟩⟩
    case rest =>
     clear HC9
     try clear c1
     try clear p1
     try clear q1
     try clear hx1
     try clear c2
     try clear p2
     try clear c3
     try clear Qi
     try clear c4
     try clear Tl
     try clear c5
     try clear c6
     try clear p6
     try clear LG
     try clear JG
     try clear SU
     try clear gu
     try clear nL
     try clear iz
     try clear Ym
     try clear zm
     try clear vm
     try clear Ai
     try clear zi
     try clear si
     try clear ri
     try clear qi
     try clear Rx
     try clear Qx
     try clear Px
     try clear Ox
     try clear Nx
     try clear wv
     try clear vv
     try clear uv
     try clear tv
     try clear qv
     try clear jt
     try clear ct
     try clear bt
     try clear Zs
     try clear Ys
     try clear Nq
     try clear Mq
     try clear Kq
     try clear Jq
     try clear Iq
     try clear Mx
     try clear Lx
     try clear Kx
     try clear Jx
     try clear Ix
     try clear ov
     try clear nv
     try clear jv
     try clear gv
     try clear cv
     try clear Dk
     try clear Ck
     try clear Bk
     try clear Ak
     try clear zk
     try clear Yu
     try clear Xu
     try clear Wu
     try clear Vu
     try clear Uu
     try clear ni
     try clear ki
     try clear ji
     try clear ei
     try clear di
     try clear sx
     try clear qx
     try clear ox
     try clear jx
     try clear gx
     try clear Tu
     try clear Su
     try clear Ru
     try clear Qu
     try clear Pu
     try clear Ls
     try clear Ks
     try clear Js
     try clear Hs
     try clear Gs
     try clear Hq
     try clear Gq
     try clear Fq
     try clear Dq
     try clear Cq
     try clear dx
     try clear bx
     try clear ax
     try clear Zw
     try clear Yw
     try clear Ou
     try clear Nu
     try clear Mu
     try clear Lu
     try clear Ku
     try clear xk
     try clear vk
     try clear uk
     try clear sk
     try clear qk
     try clear Hu
     try clear Gu
     try clear Fu
     try clear Eu
     try clear Du
     try clear Kf
     try clear Qj
     try clear p2
     try clear Pj
     obtain ⟨kq,BP,rfl,HA,HJ8,oa,HB⟩:=hcut;cases kq with
     | zero=>exact absurd HA.out (by simp [Ya.j1])
     | succ kj8 =>
      have H:=HA.out;clear HA;simp only [Ya.j1] at H
      by_cases UC:BP=true
      ·subst UC;have H1:(some false)=some r:=by rw [if_pos rfl] at H;exact H
       clear H;have H:=H1;clear H1;obtain rfl:=Option.some.inj H;go_wp2;go_ret;exact ⟨by first|rfl|(simp [Pa,Oa] <;> rfl)|(simp [*,Pa,Oa] <;> rfl),EaH⟩
      ·replace UC:=Bool.eq_false_iff.mpr UC;subst UC;have H1:(Ya.l1 kj8 0 0 Qa Ja Ga Ia Aa)=some r:=by rw [if_neg (show ¬ (false=true) by decide)] at H;exact H
       clear H;have H:=H1;clear H1;have H':=ga.mk H;clear H;go_wp2
       go_loopg [4,5] kj8 (fun kq v4 v5 w'=>∃ (lH:Int) (Af:Int),v4 = .int .i64 lH∧v5 = .int .i64 Af∧ga (Ya.l1 kq lH Af Qa Ja Ga Ia Aa=some r)∧ga (kq ≤ kj8)∧ga (w'.heap[ya]? = some (.cells #[(.slice Wa Qa.length Xa),.int .i64 Ja,.int .i64 Ga,.int .i64 Ia,(.slice Jb Aa.length yb)] 30 (0,0)))∧ga (Below w.heap.size w w'))
       case atStart=>exact ⟨(0),(0),IaH,IaH,H',⟨Nat.le_refl _⟩,⟨HaH⟩,⟨EaH⟩⟩
       case round =>
        clear H'
        try clear c1
        try clear p1
        try clear q1
        try clear hx1
        try clear c2
        try clear p2
        try clear c3
        try clear Qi
        try clear c4
        try clear Tl
        try clear c5
        try clear c6
        try clear p6
        try clear LG
        try clear JG
        try clear SU
        try clear gu
        try clear nL
        try clear iz
        try clear Ym
        try clear zm
        try clear vm
        try clear UC
        try clear Ai
        try clear zi
        try clear si
        try clear ri
        try clear qi
        try clear Rx
        try clear Qx
        try clear Px
        try clear Ox
        try clear Nx
        try clear wv
        try clear vv
        try clear uv
        try clear tv
        try clear qv
        try clear jt
        try clear ct
        try clear bt
        try clear Zs
        try clear Ys
        try clear Nq
        try clear Mq
        try clear Kq
        try clear Jq
        try clear Iq
        try clear Mx
        try clear Lx
        try clear Kx
        try clear Jx
        try clear Ix
        try clear ov
        try clear nv
        try clear jv
        try clear gv
        try clear cv
        try clear Dk
        try clear Ck
        try clear Bk
        try clear Ak
        try clear zk
        try clear Yu
        try clear Xu
        try clear Wu
        try clear Vu
        try clear Uu
        try clear ni
        try clear ki
        try clear ji
        try clear ei
        try clear di
        try clear sx
        try clear qx
        try clear ox
        try clear jx
        try clear gx
        try clear Tu
        try clear Su
        try clear Ru
        try clear Qu
        try clear Pu
        try clear Ls
        try clear Ks
        try clear Js
        try clear Hs
        try clear Gs
        try clear Hq
        try clear Gq
        try clear Fq
        try clear Dq
        try clear Cq
        try clear dx
        try clear bx
        try clear ax
        try clear Zw
        try clear Yw
        try clear Ou
        try clear Nu
        try clear Mu
        try clear Lu
        try clear Ku
        try clear xk
        try clear vk
        try clear uk
        try clear sk
        try clear qk
        try clear Hu
        try clear Gu
        try clear Fu
        try clear Eu
        try clear Du
        try clear Kf
        try clear p1
        try clear LG
        try clear Qj
        try clear p2
        try clear p6
        try clear q1
        try clear JG
        try clear Pj
        (try clear HA);(try clear Rp);(try clear oa);(try clear HB);obtain ⟨lH,Af,rfl,rfl,HA,Rp,oa,HB⟩:=hrel;cases gk with
        | zero=>exact absurd HA.out (by simp [Ya.l1])
        | succ k3 =>
         have H:=HA.out;clear HA;simp only [Ya.l1] at H
         by_cases yF:Af < (Aa.length:Int)
         ·rw [if_pos yF] at H;have FM:decide (Af < (Aa.length:Int))=true:=decide_eq_true yF;clear yF
          by_cases wB:0 ≤ Af
          ·rw [if_pos wB] at H;have Cy:decide (0 ≤ Af)=true:=decide_eq_true wB;clear wB
           by_cases dz:(wrap64 (lH + (((za Aa Af).f0).length:Int))) > 1000
           ·rw [if_pos dz] at H;have TC:decide (1000 < (wrap64 (lH + (((za Aa Af).f0).length:Int))))=true:=decide_eq_true dz;clear dz;obtain rfl:=Option.some.inj H;have RA:wr.cell? ⟨ya,0,none⟩=some (.slice Wa Qa.length Xa):=(ia oa.out 0).trans rfl;have QA:wr.cell? ⟨ya,1,none⟩=some (.int .i64 Ja):=(ia oa.out 1).trans rfl;have PA:wr.cell? ⟨ya,2,none⟩=some (.int .i64 Ga):=(ia oa.out 2).trans rfl;have OA:wr.cell? ⟨ya,3,none⟩=some (.int .i64 Ia):=(ia oa.out 3).trans rfl;have NA:wr.cell? ⟨ya,4,none⟩=some (.slice Jb Aa.length yb):=(ia oa.out 4).trans rfl;have yA:=aa oa.out 0;have xA:=aa oa.out 1;have wA:=aa oa.out 2;have vA:=aa oa.out 3;have uA:=aa oa.out 4;have cg:0 ≤ (Af:Int):=Ua;have bg:Af < (Aa.length:Int):=Ua;obtain ⟨Tf,Co,uo,Yk,Pd,zl,vl,ql,gl,Cl,Dl⟩:=Fj We.out Af cg bg;cases Yk;replace Pd:=Sa HB.out Pd;replace zl:=Sa HB.out zl;replace vl:=Sa HB.out vl;replace ql:=Sa HB.out ql;replace gl:=Sa HB.out gl;have uE:=ga.mk Dl;have wE:=ga.mk Cl;clear Dl Cl;replace cg:=eq_true cg;replace bg:=eq_true bg
            try go_wp2
            have Cb:=ga.mk (Fa oa.out);have Eb:=ga.mk (ta HB.out);clear oa HB;have oa:=Cb;have HB:=Eb;clear Cb Eb;refine Mo (n:=12) (S:=fun w'=>True) (ds:=[]) #[false,false,false,false,false,false,false,false,false,false,false,false] (by kernel_rfl) rfl rfl trivial (fun hHeld=>?_);refine Qk Ya.SV Ya.YO (fun Ug Wx=>?_);generalize wr.drew=oN at oa HB hHeld ⊢;refine Ud (i:=0) (N:=some 75) (v:=?_) (a':=?_) #[true,false,false,false,false,false,false,false,false,false,false,false] rfl rfl (yd Ug.out (by kernel_rfl)) (fun _ _ _ h=>h) (Or.inl ⟨by rfl,?_⟩) ?_ ?_;rotate_left
            ·intro w';go_simp;with_reducible rfl
            rotate_left
            ·simp only [Act.put,List.setIfInBounds_toArray,List.set_cons_zero,List.set_cons_succ,qc,tc]
             rfl
            refine Ud (i:=1) (N:=some 76) (v:=?_) (a':=?_) #[true,true,false,false,false,false,false,false,false,false,false,false] rfl rfl (yd Ug.out (by kernel_rfl)) (fun _ _ _ h=>h) (Or.inl ⟨by rfl,?_⟩) ?_ ?_;rotate_left
            ·intro w';go_simp;with_reducible rfl
            rotate_left
            ·simp only [Act.put,List.setIfInBounds_toArray,List.set_cons_zero,List.set_cons_succ,qc,tc]
             rfl
            refine Ud (i:=2) (N:=some 77) (v:=?_) (a':=?_) #[true,true,true,false,false,false,false,false,false,false,false,false] rfl rfl (yd Ug.out (by kernel_rfl)) (fun _ _ _ h=>h) (Or.inl ⟨by rfl,?_⟩) ?_ ?_;rotate_left
            ·intro w';go_simp;with_reducible rfl
            rotate_left
            ·simp only [Act.put,List.setIfInBounds_toArray,List.set_cons_zero,List.set_cons_succ,qc,tc]
             rfl
            refine Ud (i:=3) (N:=some 78) (v:=undef) (a':=?_) #[true,true,true,true,false,false,false,false,false,false,false,false] rfl rfl (yd Ug.out (by kernel_rfl)) (fun _ _ _ h=>h) (Or.inr ⟨by rfl,rfl⟩) ?_ ?_;rotate_left
            ·simp only [Act.put,List.setIfInBounds_toArray,List.set_cons_zero,List.set_cons_succ,qc,tc]
             rfl
            refine Ud (i:=4) (N:=some 79) (v:=undef) (a':=?_) #[true,true,true,true,true,false,false,false,false,false,false,false] rfl rfl (yd Ug.out (by kernel_rfl)) (fun _ _ _ h=>h) (Or.inr ⟨by rfl,rfl⟩) ?_ ?_;rotate_left
            ·simp only [Act.put,List.setIfInBounds_toArray,List.set_cons_zero,List.set_cons_succ,qc,tc]
             rfl
            refine Ud (i:=5) (N:=some 80) (v:=undef) (a':=?_) #[true,true,true,true,true,true,false,false,false,false,false,false] rfl rfl (yd Ug.out (by kernel_rfl)) (fun _ _ _ h=>h) (Or.inr ⟨by rfl,rfl⟩) ?_ ?_;rotate_left
            ·simp only [Act.put,List.setIfInBounds_toArray,List.set_cons_zero,List.set_cons_succ,qc,tc]
             rfl
            refine Ud (i:=6) (N:=some 81) (v:=undef) (a':=?_) #[true,true,true,true,true,true,true,false,false,false,false,false] rfl rfl (yd Ug.out (by kernel_rfl)) (fun _ _ _ h=>h) (Or.inr ⟨by rfl,rfl⟩) ?_ ?_;rotate_left
            ·simp only [Act.put,List.setIfInBounds_toArray,List.set_cons_zero,List.set_cons_succ,qc,tc]
             rfl
            refine Ud (i:=7) (N:=some 82) (v:=undef) (a':=?_) #[true,true,true,true,true,true,true,true,false,false,false,false] rfl rfl (yd Ug.out (by kernel_rfl)) (fun _ _ _ h=>h) (Or.inr ⟨by rfl,rfl⟩) ?_ ?_;rotate_left
            ·simp only [Act.put,List.setIfInBounds_toArray,List.set_cons_zero,List.set_cons_succ,qc,tc]
             rfl
            refine Ud (i:=8) (N:=some 83) (v:=undef) (a':=?_) #[true,true,true,true,true,true,true,true,true,false,false,false] rfl rfl (yd Ug.out (by kernel_rfl)) (fun _ _ _ h=>h) (Or.inr ⟨by rfl,rfl⟩) ?_ ?_;rotate_left
            ·simp only [Act.put,List.setIfInBounds_toArray,List.set_cons_zero,List.set_cons_succ,qc,tc]
             rfl
            refine Ud (i:=9) (N:=some 84) (v:=undef) (a':=?_) #[true,true,true,true,true,true,true,true,true,true,false,false] rfl rfl (yd Ug.out (by kernel_rfl)) (fun _ _ _ h=>h) (Or.inr ⟨by rfl,rfl⟩) ?_ ?_;rotate_left
            ·simp only [Act.put,List.setIfInBounds_toArray,List.set_cons_zero,List.set_cons_succ,qc,tc]
             rfl
            refine Ud (i:=10) (N:=some 85) (v:=undef) (a':=?_) #[true,true,true,true,true,true,true,true,true,true,true,false] rfl rfl (yd Ug.out (by kernel_rfl)) (fun _ _ _ h=>h) (Or.inr ⟨by rfl,rfl⟩) ?_ ?_;rotate_left
            ·simp only [Act.put,List.setIfInBounds_toArray,List.set_cons_zero,List.set_cons_succ,qc,tc]
             rfl
            refine Ud (i:=11) (N:=some 86) (v:=?_) (a':=?_) #[true,true,true,true,true,true,true,true,true,true,true,true] rfl rfl (yd Ug.out (by kernel_rfl)) (fun _ _ _ h=>h) (Or.inl ⟨by rfl,?_⟩) ?_ ?_;rotate_left
            ·intro w';go_simp;with_reducible rfl
            rotate_left
            ·simp only [Act.put,List.setIfInBounds_toArray,List.set_cons_zero,List.set_cons_succ,qc,tc]
             rfl
            refine bu (Bp Ug.out (by kernel_rfl)) ?_
            try go_wp2
            go_ret;exact ⟨by first|rfl|(simp [Pa,Oa] <;> rfl)|(simp [*,Pa,Oa] <;> rfl),EaH⟩
           ·rw [if_neg dz] at H;have TC:decide (1000 < (wrap64 (lH + (((za Aa Af).f0).length:Int))))=false:=decide_eq_false dz;clear dz;replace H:=Option.bind_eq_some_iff.mp H;obtain ⟨t111,PZ,H⟩:=H;replace H:(if t111=true then (Ya.l1 k3 (wrap64 (lH + (((za Aa Af).f0).length:Int))) (wrap64 (Af + 1)) Qa Ja Ga Ia Aa) else (some false))=some r:=H;have A33:=ga.mk PZ;clear PZ
            by_cases nE:t111=true
            ·subst nE;have H1:(Ya.l1 k3 (wrap64 (lH + (((za Aa Af).f0).length:Int))) (wrap64 (Af + 1)) Qa Ja Ga Ia Aa)=some r:=by rw [if_pos rfl] at H;exact H
             clear H;have H:=H1;clear H1;have H':=ga.mk H;clear H;have NS:wr.cell? ⟨ya,0,none⟩=some (.slice Wa Qa.length Xa):=(ia oa.out 0).trans rfl;have MS:wr.cell? ⟨ya,1,none⟩=some (.int .i64 Ja):=(ia oa.out 1).trans rfl;have LS:wr.cell? ⟨ya,2,none⟩=some (.int .i64 Ga):=(ia oa.out 2).trans rfl;have KS:wr.cell? ⟨ya,3,none⟩=some (.int .i64 Ia):=(ia oa.out 3).trans rfl;have JS:wr.cell? ⟨ya,4,none⟩=some (.slice Jb Aa.length yb):=(ia oa.out 4).trans rfl;have xR:=aa oa.out 0;have wR:=aa oa.out 1;have vR:=aa oa.out 2;have uR:=aa oa.out 3;have tR:=aa oa.out 4;have cg:0 ≤ (Af:Int):=Ua;have bg:Af < (Aa.length:Int):=Ua;obtain ⟨Tf,Co,uo,Yk,Pd,zl,vl,ql,gl,Cl,Dl⟩:=Fj We.out Af cg bg;cases Yk;replace Pd:=Sa HB.out Pd;replace zl:=Sa HB.out zl;replace vl:=Sa HB.out vl;replace ql:=Sa HB.out ql;replace gl:=Sa HB.out gl;have uE:=ga.mk Dl;have wE:=ga.mk Cl;clear Dl Cl;replace cg:=eq_true cg;replace bg:=eq_true bg
             try go_wp2
             have Cb:=ga.mk (Fa oa.out);have Eb:=ga.mk (ta HB.out);clear oa HB;have oa:=Cb;have HB:=Eb;clear Cb Eb;have Vi:0 ≤ (Af:Int):=Ua;have Ui:Af < (Aa.length:Int):=Ua;obtain ⟨xo,eG,BF,Cr,Oe,oq,mq,lq,jq,mA,rA⟩:=Fj We.out Af Vi Ui;have Pz:=jq;have Qz:=lq;have Rz:=mq;have Sz:=oq;have Tz:=Oe;obtain rfl:Tf=xo:=(by injection Cr);replace Oe:=Sa HB.out Oe;replace oq:=Sa HB.out oq;replace mq:=Sa HB.out mq;replace lq:=Sa HB.out lq;replace jq:=Sa HB.out jq;have nB:=ga.mk rA;have UK:=ga.mk mA;clear rA mA;replace Vi:=eq_true Vi;replace Ui:=eq_true Ui;refine Mo (n:=12) (S:=fun w'=>w'.cell? ⟨ya,0,none⟩=some (.slice Wa Qa.length Xa)∧w'.cell? ⟨ya,1,none⟩=some (.int .i64 Ja)∧w'.cell? ⟨ya,2,none⟩=some (.int .i64 Ga)∧w'.cell? ⟨ya,3,none⟩=some (.int .i64 Ia)∧w'.cell? ⟨ya,4,none⟩=some (.slice (some Tf) Aa.length yb)∧w'.cell? (Tf.add ((Af).toNat * 5))=some (.slice eG ((za Aa Af).f0).length BF)∧w'.cell? ⟨(Tf.add ((Af).toNat * 5)).block,(Tf.add ((Af).toNat * 5)).off + 1,none⟩=some (.int .i64 ((za Aa Af).f1))∧w'.cell? ⟨(Tf.add ((Af).toNat * 5)).block,(Tf.add ((Af).toNat * 5)).off + 2,none⟩=some (.int .i64 ((za Aa Af).f2))∧w'.cell? ⟨(Tf.add ((Af).toNat * 5)).block,(Tf.add ((Af).toNat * 5)).off + 3,none⟩=some (.int .i64 ((za Aa Af).f3))∧w'.cell? ⟨(Tf.add ((Af).toNat * 5)).block,(Tf.add ((Af).toNat * 5)).off + 4,none⟩=some (.int .i64 ((za Aa Af).f4))) (ds:=[]) #[false,false,false,false,false,false,false,false,false,false,false,false] (by kernel_rfl) rfl rfl ⟨(ia oa.out 0).trans rfl,(ia oa.out 1).trans rfl,(ia oa.out 2).trans rfl,(ia oa.out 3).trans rfl,(ia oa.out 4).trans rfl,(Sa HB.out Tz),(Sa HB.out Sz),(Sa HB.out Rz),(Sa HB.out Qz),(Sa HB.out Pz)⟩ (fun hHeld=>?_);refine Qk Ya.SV Ya.YO (fun Ug Wx=>?_);generalize wr.drew=AE at oa HB nB Oe oq mq lq jq hHeld ⊢;refine Ud (i:=0) (N:=some 75) (v:=?_) (a':=?_) #[true,false,false,false,false,false,false,false,false,false,false,false] rfl rfl (yd Ug.out (by kernel_rfl)) (fun _ _ _ h=>h) (Or.inl ⟨by rfl,?_⟩) ?_ ?_;rotate_left
             ·intro w';go_simp;with_reducible rfl
             rotate_left
             ·simp only [Act.put,List.setIfInBounds_toArray,List.set_cons_zero,List.set_cons_succ,qc,tc]
              rfl
             refine Ud (i:=1) (N:=some 76) (v:=?_) (a':=?_) #[true,true,false,false,false,false,false,false,false,false,false,false] rfl rfl (yd Ug.out (by kernel_rfl)) (fun _ _ _ h=>h) (Or.inl ⟨by rfl,?_⟩) ?_ ?_;rotate_left
             ·intro w';go_simp;with_reducible rfl
             rotate_left
             ·simp only [Act.put,List.setIfInBounds_toArray,List.set_cons_zero,List.set_cons_succ,qc,tc]
              rfl
             refine Ud (i:=2) (N:=some 77) (v:=?_) (a':=?_) #[true,true,true,false,false,false,false,false,false,false,false,false] rfl rfl (yd Ug.out (by kernel_rfl)) (fun _ _ _ h=>h) (Or.inl ⟨by rfl,?_⟩) ?_ ?_;rotate_left
             ·intro w';go_simp;with_reducible rfl
             rotate_left
             ·simp only [Act.put,List.setIfInBounds_toArray,List.set_cons_zero,List.set_cons_succ,qc,tc]
              rfl
             refine Ud (i:=4) (N:=some 79) (v:=?_) (a':=?_) #[true,true,true,false,true,false,false,false,false,false,false,false] rfl rfl (yd Ug.out (by kernel_rfl)) (fun _ _ _ h=>h) (Or.inl ⟨by rfl,?_⟩) ?_ ?_;rotate_left
             ·intro w';go_simp;with_reducible rfl
             rotate_left
             ·simp only [Act.put,List.setIfInBounds_toArray,List.set_cons_zero,List.set_cons_succ,qc,tc]
              rfl
             refine Ud (i:=6) (N:=some 81) (v:=?_) (a':=?_) #[true,true,true,false,true,false,true,false,false,false,false,false] rfl rfl (yd Ug.out (by kernel_rfl)) (fun _ _ _ h=>h) (Or.inl ⟨by rfl,?_⟩) ?_ ?_;rotate_left
             ·intro w';go_simp;with_reducible rfl
             rotate_left
             ·simp only [Act.put,List.setIfInBounds_toArray,List.set_cons_zero,List.set_cons_succ,qc,tc]
              rfl
             refine Fi (i:=3) (N:=some 78) (v:=?_) (a':=?_) #[true,true,true,true,true,false,true,false,false,false,false,false] rfl rfl (Uf Ug.out Wx.out (by kernel_rfl)) (fun _ _ _ h=>h) (Or.inl ⟨by rfl,?_⟩) hHeld ?_ ?_;rotate_left
             ·rintro w' ⟨s0,s1,s2,s3,s4,s5,s6,s7,s8,s9⟩;go_simp;with_reducible rfl
             rotate_left
             ·simp only [Act.put,List.setIfInBounds_toArray,List.set_cons_zero,List.set_cons_succ,qc,tc]
              rfl
             refine Fi (i:=5) (N:=some 80) (v:=?_) (a':=?_) #[true,true,true,true,true,true,true,false,false,false,false,false] rfl rfl (Uf Ug.out Wx.out (by kernel_rfl)) (fun _ _ _ h=>h) (Or.inl ⟨by rfl,?_⟩) hHeld ?_ ?_;rotate_left
             ·rintro w' ⟨s0,s1,s2,s3,s4,s5,s6,s7,s8,s9⟩;go_simp;with_reducible rfl
             rotate_left
             ·simp only [Act.put,List.setIfInBounds_toArray,List.set_cons_zero,List.set_cons_succ,qc,tc]
              rfl
             refine Ud (i:=7) (N:=some 82) (v:=?_) (a':=?_) #[true,true,true,true,true,true,true,true,false,false,false,false] rfl rfl (yd Ug.out (by kernel_rfl)) (fun _ _ _ h=>h) (Or.inl ⟨by rfl,?_⟩) ?_ ?_;rotate_left
             ·intro w';go_simp;with_reducible rfl
             rotate_left
             ·simp only [Act.put,List.setIfInBounds_toArray,List.set_cons_zero,List.set_cons_succ,qc,tc]
              rfl
             refine Fi (i:=8) (N:=some 83) (v:=?_) (a':=?_) #[true,true,true,true,true,true,true,true,true,false,false,false] rfl rfl (Uf Ug.out Wx.out (by kernel_rfl)) (fun _ _ _ h=>h) (Or.inl ⟨by rfl,?_⟩) hHeld ?_ ?_;rotate_left
             ·rintro w' ⟨s0,s1,s2,s3,s4,s5,s6,s7,s8,s9⟩;go_simp;with_reducible rfl
             rotate_left
             ·simp only [Act.put,List.setIfInBounds_toArray,List.set_cons_zero,List.set_cons_succ,qc,tc]
              rfl
             refine Qy (i:=9) (N:=some 84) #[true,true,true,true,true,true,true,true,true,true,false,false] rfl rfl (Bu Ug.out (by kernel_rfl)) (by decide) (fun K hK=>?_);refine Rv Try.func71 (by kernel_rfl) rfl #[.agg #[.slice Wa Qa.length Xa,.int .i64 Ja,.int .i64 Ga,.int .i64 Ia,.slice (some Tf) Aa.length yb],.agg #[.slice eG ((za Aa Af).f0).length BF,.int .i64 ((za Aa Af).f1),.int .i64 ((za Aa Af).f2),.int .i64 ((za Aa Af).f3),.int .i64 ((za Aa Af).f4)]] (by rfl) rfl rfl FaH ?_;with_reducible refine (Cc.calls k3 _ _ Qa Ja Ga Ia _ _ Aa _ _ ((za Aa Af).f0) ((za Aa Af).f1) ((za Aa Af).f2) ((za Aa Af).f3) ((za Aa Af).f4) true _ ?yc ?uc ?td ?qd ?Hp ?Gp A33.out).mono ?_
             (case yc=>repeat (first|exact (Kd.Ab fe.out HB.out)|(with_reducible refine Kd.Lb ?_ _)|(with_reducible refine Kd.Kb ?_ _)|(with_reducible refine Kd.Xb ?_)))
             (case uc=>exact ye.out)
             (case td=>repeat (first|exact (Kd.Ab We.out HB.out)|(with_reducible refine Kd.Lb ?_ _)|(with_reducible refine Kd.Kb ?_ _)|(with_reducible refine Kd.Xb ?_)))
             (case qd=>exact Xf.out)
             (case Hp=>repeat (first|exact (Kd.Ab nB.out HB.out)|(with_reducible refine Kd.Lb ?_ _)|(with_reducible refine Kd.Kb ?_ _)|(with_reducible refine Kd.Xb ?_)))
             (case Gp=>exact UK.out)
             rintro e Z0 ⟨rfl,hb⟩;refine ⟨_,rfl,?_⟩;have Cb:=ga.mk (Va (g:=ya) (o:=.cells #[.slice Wa Qa.length Xa,.int .i64 Ja,.int .i64 Ga,.int .i64 Ia,.slice (some Tf) Aa.length yb] 30 (0,0)) DaH hb);have Eb:=ga.mk (Na BaH hb);clear oa HB;have oa:=Cb;have HB:=Eb;clear Cb Eb;(try clear hb);(try clear jj);(try clear hk);(try clear hi);refine hK.out _ _ ⟨(ia oa.out 0).trans rfl,(ia oa.out 1).trans rfl,(ia oa.out 2).trans rfl,(ia oa.out 3).trans rfl,(ia oa.out 4).trans rfl,(Sa HB.out Tz),(Sa HB.out Sz),(Sa HB.out Rz),(Sa HB.out Qz),(Sa HB.out Pz)⟩ (fun hHeld=>?_);clear hK K;refine Zq (a':=?_) ?_ ?_;rotate_left
             ·show Act.put _ (some 84) _=_
              simp only [Act.put,List.setIfInBounds_toArray,List.set_cons_zero,List.set_cons_succ,qc,tc]
              rfl
             refine Ud (i:=10) (N:=some 85) (v:=?_) (a':=?_) #[true,true,true,true,true,true,true,true,true,true,true,false] rfl rfl (yd Ug.out (by kernel_rfl)) (fun _ _ _ h=>h) (Or.inl ⟨by rfl,?_⟩) ?_ ?_;rotate_left
             ·intro w';go_simp;with_reducible rfl
             rotate_left
             ·simp only [Act.put,List.setIfInBounds_toArray,List.set_cons_zero,List.set_cons_succ,qc,tc]
              rfl
             refine Ud (i:=11) (N:=some 86) (v:=?_) (a':=?_) #[true,true,true,true,true,true,true,true,true,true,true,true] rfl rfl (yd Ug.out (by kernel_rfl)) (fun _ _ _ h=>h) (Or.inl ⟨by rfl,?_⟩) ?_ ?_;rotate_left
             ·intro w';go_simp;with_reducible rfl
             rotate_left
             ·simp only [Act.put,List.setIfInBounds_toArray,List.set_cons_zero,List.set_cons_succ,qc,tc]
              rfl
             refine bu (Bp Ug.out (by kernel_rfl)) ?_
             try go_wp2
             go_roundg k3
             case measure=>have:=pg.out;have:=HJ8.out;have:=Rp.out;omega
             case rel=>exact ⟨(wrap64 (lH + (((za Aa Af).f0).length:Int))),(wrap64 (Af + 1)),IaH,IaH,H',⟨by have:=pg.out;have:=HJ8.out;have:=Rp.out;omega⟩,⟨HaH⟩,⟨EaH⟩⟩
            ·replace nE:=Bool.eq_false_iff.mpr nE;subst nE;have H1:(some false)=some r:=by rw [if_neg (show ¬ (false=true) by decide)] at H;exact H
             clear H;have H:=H1;clear H1;obtain rfl:=Option.some.inj H;have NJ:wr.cell? ⟨ya,0,none⟩=some (.slice Wa Qa.length Xa):=(ia oa.out 0).trans rfl;have MJ:wr.cell? ⟨ya,1,none⟩=some (.int .i64 Ja):=(ia oa.out 1).trans rfl;have LJ:wr.cell? ⟨ya,2,none⟩=some (.int .i64 Ga):=(ia oa.out 2).trans rfl;have KJ:wr.cell? ⟨ya,3,none⟩=some (.int .i64 Ia):=(ia oa.out 3).trans rfl;have JJ:wr.cell? ⟨ya,4,none⟩=some (.slice Jb Aa.length yb):=(ia oa.out 4).trans rfl;have MI:=aa oa.out 0;have LI:=aa oa.out 1;have KI:=aa oa.out 2;have JI:=aa oa.out 3;have II:=aa oa.out 4;have cg:0 ≤ (Af:Int):=Ua;have bg:Af < (Aa.length:Int):=Ua;obtain ⟨Tf,Co,uo,Yk,Pd,zl,vl,ql,gl,Cl,Dl⟩:=Fj We.out Af cg bg;cases Yk;replace Pd:=Sa HB.out Pd;replace zl:=Sa HB.out zl;replace vl:=Sa HB.out vl;replace ql:=Sa HB.out ql;replace gl:=Sa HB.out gl;have uE:=ga.mk Dl;have wE:=ga.mk Cl;clear Dl Cl;replace cg:=eq_true cg;replace bg:=eq_true bg
             try go_wp2
             have Cb:=ga.mk (Fa oa.out);have Eb:=ga.mk (ta HB.out);clear oa HB;have oa:=Cb;have HB:=Eb;clear Cb Eb;have Vi:0 ≤ (Af:Int):=Ua;have Ui:Af < (Aa.length:Int):=Ua;obtain ⟨xo,eG,BF,Cr,Oe,oq,mq,lq,jq,mA,rA⟩:=Fj We.out Af Vi Ui;have Pz:=jq;have Qz:=lq;have Rz:=mq;have Sz:=oq;have Tz:=Oe;obtain rfl:Tf=xo:=(by injection Cr);replace Oe:=Sa HB.out Oe;replace oq:=Sa HB.out oq;replace mq:=Sa HB.out mq;replace lq:=Sa HB.out lq;replace jq:=Sa HB.out jq;have nB:=ga.mk rA;have UK:=ga.mk mA;clear rA mA;replace Vi:=eq_true Vi;replace Ui:=eq_true Ui;refine Mo (n:=12) (S:=fun w'=>w'.cell? ⟨ya,0,none⟩=some (.slice Wa Qa.length Xa)∧w'.cell? ⟨ya,1,none⟩=some (.int .i64 Ja)∧w'.cell? ⟨ya,2,none⟩=some (.int .i64 Ga)∧w'.cell? ⟨ya,3,none⟩=some (.int .i64 Ia)∧w'.cell? ⟨ya,4,none⟩=some (.slice (some Tf) Aa.length yb)∧w'.cell? (Tf.add ((Af).toNat * 5))=some (.slice eG ((za Aa Af).f0).length BF)∧w'.cell? ⟨(Tf.add ((Af).toNat * 5)).block,(Tf.add ((Af).toNat * 5)).off + 1,none⟩=some (.int .i64 ((za Aa Af).f1))∧w'.cell? ⟨(Tf.add ((Af).toNat * 5)).block,(Tf.add ((Af).toNat * 5)).off + 2,none⟩=some (.int .i64 ((za Aa Af).f2))∧w'.cell? ⟨(Tf.add ((Af).toNat * 5)).block,(Tf.add ((Af).toNat * 5)).off + 3,none⟩=some (.int .i64 ((za Aa Af).f3))∧w'.cell? ⟨(Tf.add ((Af).toNat * 5)).block,(Tf.add ((Af).toNat * 5)).off + 4,none⟩=some (.int .i64 ((za Aa Af).f4))) (ds:=[]) #[false,false,false,false,false,false,false,false,false,false,false,false] (by kernel_rfl) rfl rfl ⟨(ia oa.out 0).trans rfl,(ia oa.out 1).trans rfl,(ia oa.out 2).trans rfl,(ia oa.out 3).trans rfl,(ia oa.out 4).trans rfl,(Sa HB.out Tz),(Sa HB.out Sz),(Sa HB.out Rz),(Sa HB.out Qz),(Sa HB.out Pz)⟩ (fun hHeld=>?_);refine Qk Ya.SV Ya.YO (fun Ug Wx=>?_);generalize wr.drew=w39 at oa HB nB Oe oq mq lq jq hHeld ⊢;refine Ud (i:=0) (N:=some 75) (v:=?_) (a':=?_) #[true,false,false,false,false,false,false,false,false,false,false,false] rfl rfl (yd Ug.out (by kernel_rfl)) (fun _ _ _ h=>h) (Or.inl ⟨by rfl,?_⟩) ?_ ?_;rotate_left
             ·intro w';go_simp;with_reducible rfl
             rotate_left
             ·simp only [Act.put,List.setIfInBounds_toArray,List.set_cons_zero,List.set_cons_succ,qc,tc]
              rfl
             refine Ud (i:=1) (N:=some 76) (v:=?_) (a':=?_) #[true,true,false,false,false,false,false,false,false,false,false,false] rfl rfl (yd Ug.out (by kernel_rfl)) (fun _ _ _ h=>h) (Or.inl ⟨by rfl,?_⟩) ?_ ?_;rotate_left
             ·intro w';go_simp;with_reducible rfl
             rotate_left
             ·simp only [Act.put,List.setIfInBounds_toArray,List.set_cons_zero,List.set_cons_succ,qc,tc]
              rfl
             refine Ud (i:=2) (N:=some 77) (v:=?_) (a':=?_) #[true,true,true,false,false,false,false,false,false,false,false,false] rfl rfl (yd Ug.out (by kernel_rfl)) (fun _ _ _ h=>h) (Or.inl ⟨by rfl,?_⟩) ?_ ?_;rotate_left
             ·intro w';go_simp;with_reducible rfl
             rotate_left
             ·simp only [Act.put,List.setIfInBounds_toArray,List.set_cons_zero,List.set_cons_succ,qc,tc]
              rfl
             refine Ud (i:=4) (N:=some 79) (v:=?_) (a':=?_) #[true,true,true,false,true,false,false,false,false,false,false,false] rfl rfl (yd Ug.out (by kernel_rfl)) (fun _ _ _ h=>h) (Or.inl ⟨by rfl,?_⟩) ?_ ?_;rotate_left
             ·intro w';go_simp;with_reducible rfl
             rotate_left
             ·simp only [Act.put,List.setIfInBounds_toArray,List.set_cons_zero,List.set_cons_succ,qc,tc]
              rfl
             refine Ud (i:=6) (N:=some 81) (v:=?_) (a':=?_) #[true,true,true,false,true,false,true,false,false,false,false,false] rfl rfl (yd Ug.out (by kernel_rfl)) (fun _ _ _ h=>h) (Or.inl ⟨by rfl,?_⟩) ?_ ?_;rotate_left
             ·intro w';go_simp;with_reducible rfl
             rotate_left
             ·simp only [Act.put,List.setIfInBounds_toArray,List.set_cons_zero,List.set_cons_succ,qc,tc]
              rfl
             refine Fi (i:=3) (N:=some 78) (v:=?_) (a':=?_) #[true,true,true,true,true,false,true,false,false,false,false,false] rfl rfl (Uf Ug.out Wx.out (by kernel_rfl)) (fun _ _ _ h=>h) (Or.inl ⟨by rfl,?_⟩) hHeld ?_ ?_;rotate_left
             ·rintro w' ⟨s0,s1,s2,s3,s4,s5,s6,s7,s8,s9⟩;go_simp;with_reducible rfl
             rotate_left
             ·simp only [Act.put,List.setIfInBounds_toArray,List.set_cons_zero,List.set_cons_succ,qc,tc]
              rfl
             refine Fi (i:=5) (N:=some 80) (v:=?_) (a':=?_) #[true,true,true,true,true,true,true,false,false,false,false,false] rfl rfl (Uf Ug.out Wx.out (by kernel_rfl)) (fun _ _ _ h=>h) (Or.inl ⟨by rfl,?_⟩) hHeld ?_ ?_;rotate_left
             ·rintro w' ⟨s0,s1,s2,s3,s4,s5,s6,s7,s8,s9⟩;go_simp;with_reducible rfl
             rotate_left
             ·simp only [Act.put,List.setIfInBounds_toArray,List.set_cons_zero,List.set_cons_succ,qc,tc]
              rfl
             refine Ud (i:=7) (N:=some 82) (v:=?_) (a':=?_) #[true,true,true,true,true,true,true,true,false,false,false,false] rfl rfl (yd Ug.out (by kernel_rfl)) (fun _ _ _ h=>h) (Or.inl ⟨by rfl,?_⟩) ?_ ?_;rotate_left
             ·intro w';go_simp;with_reducible rfl
             rotate_left
             ·simp only [Act.put,List.setIfInBounds_toArray,List.set_cons_zero,List.set_cons_succ,qc,tc]
              rfl
             refine Fi (i:=8) (N:=some 83) (v:=?_) (a':=?_) #[true,true,true,true,true,true,true,true,true,false,false,false] rfl rfl (Uf Ug.out Wx.out (by kernel_rfl)) (fun _ _ _ h=>h) (Or.inl ⟨by rfl,?_⟩) hHeld ?_ ?_;rotate_left
             ·rintro w' ⟨s0,s1,s2,s3,s4,s5,s6,s7,s8,s9⟩;go_simp;with_reducible rfl
             rotate_left
             ·simp only [Act.put,List.setIfInBounds_toArray,List.set_cons_zero,List.set_cons_succ,qc,tc]
              rfl
             refine Qy (i:=9) (N:=some 84) #[true,true,true,true,true,true,true,true,true,true,false,false] rfl rfl (Bu Ug.out (by kernel_rfl)) (by decide) (fun K hK=>?_);refine Rv Try.func71 (by kernel_rfl) rfl #[.agg #[.slice Wa Qa.length Xa,.int .i64 Ja,.int .i64 Ga,.int .i64 Ia,.slice (some Tf) Aa.length yb],.agg #[.slice eG ((za Aa Af).f0).length BF,.int .i64 ((za Aa Af).f1),.int .i64 ((za Aa Af).f2),.int .i64 ((za Aa Af).f3),.int .i64 ((za Aa Af).f4)]] (by rfl) rfl rfl FaH ?_;with_reducible refine (Cc.calls k3 _ _ Qa Ja Ga Ia _ _ Aa _ _ ((za Aa Af).f0) ((za Aa Af).f1) ((za Aa Af).f2) ((za Aa Af).f3) ((za Aa Af).f4) false _ ?yc ?uc ?td ?qd ?Hp ?Gp A33.out).mono ?_
             (case yc=>repeat (first|exact (Kd.Ab fe.out HB.out)|(with_reducible refine Kd.Lb ?_ _)|(with_reducible refine Kd.Kb ?_ _)|(with_reducible refine Kd.Xb ?_)))
             (case uc=>exact ye.out)
             (case td=>repeat (first|exact (Kd.Ab We.out HB.out)|(with_reducible refine Kd.Lb ?_ _)|(with_reducible refine Kd.Kb ?_ _)|(with_reducible refine Kd.Xb ?_)))
             (case qd=>exact Xf.out)
             (case Hp=>repeat (first|exact (Kd.Ab nB.out HB.out)|(with_reducible refine Kd.Lb ?_ _)|(with_reducible refine Kd.Kb ?_ _)|(with_reducible refine Kd.Xb ?_)))
             (case Gp=>exact UK.out)
             rintro e w40 ⟨rfl,hb⟩;refine ⟨_,rfl,?_⟩;have Cb:=ga.mk (Va (g:=ya) (o:=.cells #[.slice Wa Qa.length Xa,.int .i64 Ja,.int .i64 Ga,.int .i64 Ia,.slice (some Tf) Aa.length yb] 30 (0,0)) DaH hb);have Eb:=ga.mk (Na BaH hb);clear oa HB;have oa:=Cb;have HB:=Eb;clear Cb Eb;(try clear hb);(try clear jj);(try clear hk);(try clear hi);refine hK.out _ _ ⟨(ia oa.out 0).trans rfl,(ia oa.out 1).trans rfl,(ia oa.out 2).trans rfl,(ia oa.out 3).trans rfl,(ia oa.out 4).trans rfl,(Sa HB.out Tz),(Sa HB.out Sz),(Sa HB.out Rz),(Sa HB.out Qz),(Sa HB.out Pz)⟩ (fun hHeld=>?_);clear hK K;refine Zq (a':=?_) ?_ ?_;rotate_left
             ·show Act.put _ (some 84) _=_
              simp only [Act.put,List.setIfInBounds_toArray,List.set_cons_zero,List.set_cons_succ,qc,tc]
              rfl
             refine Ud (i:=10) (N:=some 85) (v:=?_) (a':=?_) #[true,true,true,true,true,true,true,true,true,true,true,false] rfl rfl (yd Ug.out (by kernel_rfl)) (fun _ _ _ h=>h) (Or.inl ⟨by rfl,?_⟩) ?_ ?_;rotate_left
             ·intro w';go_simp;with_reducible rfl
             rotate_left
             ·simp only [Act.put,List.setIfInBounds_toArray,List.set_cons_zero,List.set_cons_succ,qc,tc]
              rfl
             refine Ud (i:=11) (N:=some 86) (v:=?_) (a':=?_) #[true,true,true,true,true,true,true,true,true,true,true,true] rfl rfl (yd Ug.out (by kernel_rfl)) (fun _ _ _ h=>h) (Or.inl ⟨by rfl,?_⟩) ?_ ?_;rotate_left
             ·intro w';go_simp;with_reducible rfl
             rotate_left
             ·simp only [Act.put,List.setIfInBounds_toArray,List.set_cons_zero,List.set_cons_succ,qc,tc]
              rfl
             refine bu (Bp Ug.out (by kernel_rfl)) ?_
             try go_wp2
             go_ret;exact ⟨by first|rfl|(simp [Pa,Oa] <;> rfl)|(simp [*,Pa,Oa] <;> rfl),EaH⟩
          ·rw [if_neg wB] at H;exact absurd H (by simp)
         ·rw [if_neg yF] at H;have FM:decide (Af < (Aa.length:Int))=false:=decide_eq_false yF;clear yF;obtain rfl:=Option.some.inj H;have xS:wr.cell? ⟨ya,0,none⟩=some (.slice Wa Qa.length Xa):=(ia oa.out 0).trans rfl;have wS:wr.cell? ⟨ya,1,none⟩=some (.int .i64 Ja):=(ia oa.out 1).trans rfl;have vS:wr.cell? ⟨ya,2,none⟩=some (.int .i64 Ga):=(ia oa.out 2).trans rfl;have uS:wr.cell? ⟨ya,3,none⟩=some (.int .i64 Ia):=(ia oa.out 3).trans rfl;have tS:wr.cell? ⟨ya,4,none⟩=some (.slice Jb Aa.length yb):=(ia oa.out 4).trans rfl;have lR:=aa oa.out 0;have kR:=aa oa.out 1;have jR:=aa oa.out 2;have iR:=aa oa.out 3;have gR:=aa oa.out 4;go_wp2;go_ret;exact ⟨by first|rfl|(simp [Pa,Oa] <;> rfl)|(simp [*,Pa,Oa] <;> rfl),EaH⟩
end Go.Proofs.Ytkigbdceceeenaa.P
end
