import Derived.Test.YtkigbdceceeenaaQCode1
set_option maxHeartbeats 8000000
set_option maxRecDepth 100000
namespace Go.Proofs.Ytkigbdceceeenaa.P
open Go.RowKit Go.Proofs.Oa.Rb Go.Proofs.Oa.Pd Go.Proofs.Oa.Re
attribute [local go_sem] Mh ki rj Kj th qh ni ji
set_option linter.unusedVariables false
set_option linter.unusedSimpArgs false
mutual
def mc.j0:Nat→Bool→Bool→Bool→Bool→List Int→Int→Int→Int→List (Ff)→Int→Int→Int→Int→Int→Int→ByteArray→Option (Bool)
 | 0,_,_,_,_,_,_,_,_,_,_,_,_,_,_,_,_=>none
 | k + 1,x5,x6,x7,x8,qe,Ie,Wd,me,Qc,Gg,Al,gm,uk,sk,Ln,Vp=>if Gg=2 then (if Gg=4 then (mc.j1 k x5 x6 x7 x8 false qe Ie Wd me Qc Gg Al gm uk sk Ln Vp) else (mc.j1 k x5 x6 x7 x8 (sk != 0) qe Ie Wd me Qc Gg Al gm uk sk Ln Vp)) else (if Vp.toList=([]:List UInt8) then (if Gg=4 then (mc.j1 k x5 x6 x7 x8 false qe Ie Wd me Qc Gg Al gm uk sk Ln Vp) else (mc.j1 k x5 x6 x7 x8 (sk != 0) qe Ie Wd me Qc Gg Al gm uk sk Ln Vp)) else (mc.j1 k x5 x6 x7 x8 true qe Ie Wd me Qc Gg Al gm uk sk Ln Vp))
def mc.j1:Nat→Bool→Bool→Bool→Bool→Bool→List Int→Int→Int→Int→List (Ff)→Int→Int→Int→Int→Int→Int→ByteArray→Option (Bool)
 | 0,_,_,_,_,_,_,_,_,_,_,_,_,_,_,_,_,_=>none
 | k + 1,x5,x6,x7,x8,x62,qe,Ie,Wd,me,Qc,Gg,Al,gm,uk,sk,Ln,Vp=>if x62=true then (some false) else (if Gg=0 then (if x5=true then (if gm=0 then (some (uk == 0)) else (some false)) else (some false)) else (if Gg=1 then (if x5=true then (if x6=true then (if uk=0 then (some (Ln == 0)) else (some false)) else (some false)) else (some false)) else (if Gg=2 then (if x5=true then (if x6=true then (if x7=true then (if Ln=0 then ((xg.f k (([(⟨#[61,61]⟩:ByteArray),(⟨#[60]⟩:ByteArray),(⟨#[38]⟩:ByteArray),(⟨#[43]⟩:ByteArray),(⟨#[45]⟩:ByteArray),(⟨#[42]⟩:ByteArray)]:List ByteArray)) Vp).bind fun t111=>(some t111)) else (some false)) else (some false)) else (some false)) else (some false)) else (if Gg=3 then (if x5=true then (some x8) else (some false)) else (if Gg=4 then (if Al=0 then (if x8=true then ((Ob.f sk 0 (wrap64 (me - 1))).bind fun t112=>(some t112)) else (some false)) else (some false)) else (if Gg=5 then (if x5=true then (if gm=0 then (if uk=0 then (some (Ln == 0)) else (some false)) else (some false)) else (some false)) else (if Gg=6 then (if Al=0 then (if x6=true then (if uk=0 then (some (Ln == 0)) else (some false)) else (some false)) else (some false)) else (some false))))))))
end
def mc.f (k:Nat) (Ua:List Int) (Pa:Int) (Ra:Int) (Sa:Int) (Fa:List (Ff)) (kf:Int) (Oc:Int) (Bc:Int) (Nc:Int) (Ed:Int) (qg:Int) (Ag:ByteArray):Option (Bool):=(Ob.f Oc 0 (wrap64 (Sa - 1))).bind fun t103=>((Ob.f Bc 0 (wrap64 (Sa - 1))).bind fun t104=>((Ob.f Nc 0 (wrap64 (Sa - 1))).bind fun t105=>(if t104=true then (if t105=true then ((Ob.f qg 0 (wrap64 ((Ua.length:Int) - 1))).bind fun t106=>(mc.j0 k t103 t104 t105 t106 Ua Pa Ra Sa Fa kf Oc Bc Nc Ed qg Ag)) else (mc.j0 k t103 t104 t105 false Ua Pa Ra Sa Fa kf Oc Bc Nc Ed qg Ag)) else (if Bc=(-1) then (if t105=true then ((Ob.f qg 0 (wrap64 ((Ua.length:Int) - 1))).bind fun t107=>(mc.j0 k t103 t104 t105 t107 Ua Pa Ra Sa Fa kf Oc Bc Nc Ed qg Ag)) else (mc.j0 k t103 t104 t105 false Ua Pa Ra Sa Fa kf Oc Bc Nc Ed qg Ag)) else (mc.j0 k t103 t104 t105 false Ua Pa Ra Sa Fa kf Oc Bc Nc Ed qg Ag)))))
theorem mc.calls (k:Nat) (yb:Option Addr) (zb:Nat) (Ua:List Int) (Pa:Int) (Ra:Int) (Sa:Int) (fc:Option Addr) (Qb:Nat) (Fa:List (Ff)) (kf:Int) (Oc:Int) (Bc:Int) (Nc:Int) (Ed:Int) (qg:Int) (Ag:ByteArray) (r:Bool) (w:World) (jf:Kd.C (Kd.int .i64) w yb Ua.length Ua) (Ze:Ua.length ≤ zb) (Lg:Kd.C Wr w fc Fa.length Fa) (Ig:Fa.length ≤ Qb) (h:mc.f k Ua Pa Ra Sa Fa kf Oc Bc Nc Ed qg Ag=some r) :
  Calls Try.prog 97 #[.agg #[.slice yb Ua.length zb,.int .i64 Pa,.int .i64 Ra,.int .i64 Sa,.slice fc Fa.length Qb],.agg #[.int .i64 kf,.int .i64 Oc,.int .i64 Bc,.int .i64 Nc,.int .i64 Ed,.int .i64 qg,.string Ag]] w fun e w'=>e = .returned (.bool r)∧Below w.heap.size w w':=by
 have uI:=Try.underlying30;have CC:=Try.underlying65;have lf:=aa.mk jf;have Df:=aa.mk Ze;clear jf Ze;have Tg:=aa.mk Lg;have Ej:=aa.mk Ig;clear Lg Ig;have HB:=aa.mk (Below.refl w.heap.size w);have H:((Ob.f Oc 0 (wrap64 (Sa - 1))).bind fun t103=>((Ob.f Bc 0 (wrap64 (Sa - 1))).bind fun t104=>((Ob.f Nc 0 (wrap64 (Sa - 1))).bind fun t105=>(if t104=true then (if t105=true then ((Ob.f qg 0 (wrap64 ((Ua.length:Int) - 1))).bind fun t106=>(mc.j0 k t103 t104 t105 t106 Ua Pa Ra Sa Fa kf Oc Bc Nc Ed qg Ag)) else (mc.j0 k t103 t104 t105 false Ua Pa Ra Sa Fa kf Oc Bc Nc Ed qg Ag)) else (if Bc=(-1) then (if t105=true then ((Ob.f qg 0 (wrap64 ((Ua.length:Int) - 1))).bind fun t107=>(mc.j0 k t103 t104 t105 t107 Ua Pa Ra Sa Fa kf Oc Bc Nc Ed qg Ag)) else (mc.j0 k t103 t104 t105 false Ua Pa Ra Sa Fa kf Oc Bc Nc Ed qg Ag)) else (mc.j0 k t103 t104 t105 false Ua Pa Ra Sa Fa kf Oc Bc Nc Ed qg Ag))))))=some r:=h;clear h;replace H:=Option.bind_eq_some_iff.mp H;obtain ⟨t103,Qx,H⟩:=H
 try dsimp only at H
 have A3:=aa.mk Qx;clear Qx;replace H:=Option.bind_eq_some_iff.mp H;obtain ⟨t104,bY,H⟩:=H
 try dsimp only at H
 have A4:=aa.mk bY;clear bY;replace H:=Option.bind_eq_some_iff.mp H;obtain ⟨t105,A50,H⟩:=H
 try dsimp only at H
 have A5:=aa.mk A50;clear A50;have HC6:=aa.mk H;clear H;go_enter Try.func97,Try.ntmps97
 go_upto_region 4 with (first|((with_reducible refine Za (N:=2) rfl ?_);(try (refine Vj (by rfl) ?_;dsimp only));refine Ab ?hg (N:=2) ?hd (cs:=#[.slice yb Ua.length zb,.int .i64 Pa,.int .i64 Ra,.int .i64 Sa,.slice fc Fa.length Qb]) (t:=30) ?hr ?_;(case hd|hg=>rfl);(case hr=>exact gaK);intro ya hg w7 Fb hb;have Bb:=aa.mk (Ma jaK hb);have Db:=aa.mk (Fb);have Ib:=aa.mk ((by rw [hg];exact (Da jaK):w.heap.size ≤ ya));have Xb:=aa.mk ((by rw [hg];exact (Da jaK):w.heap.size ≤ ya));clear HB;have HB:=Bb;have ta:=Db;have Jd:=Ib;have Qa:=Xb;clear Bb Db Ib Xb hb Fb hg)|((with_reducible refine Za (N:=3) rfl ?_);(try (refine Vj (by rfl) ?_;dsimp only));refine Ab ?hg (N:=3) ?hd (cs:=#[.int .i64 kf,.int .i64 Oc,.int .i64 Bc,.int .i64 Nc,.int .i64 Ed,.int .i64 qg,.string Ag]) (t:=65) ?hr ?_;(case hd|hg=>rfl);(case hr=>exact gaK);intro Ta hg w8 Fb hb;have Bb:=aa.mk (Na (g:=ya) (o:=.cells #[.slice yb Ua.length zb,.int .i64 Pa,.int .i64 Ra,.int .i64 Sa,.slice fc Fa.length Qb] 30 (0,0)) kaK hb);have Db:=aa.mk (Ma iaK hb);have Ib:=aa.mk (Fb);have Xb:=aa.mk ((by rw [hg];exact (Da iaK):w.heap.size ≤ Ta));have De:=aa.mk ((by rw [hg];exact (Da iaK):w.heap.size ≤ Ta));have ef:=aa.mk ((by rw [hg];exact Nat.ne_of_lt (Tb (g:=ya) (o:=.cells #[.slice yb Ua.length zb,.int .i64 Pa,.int .i64 Ra,.int .i64 Sa,.slice fc Fa.length Qb] 30 (0,0)) kaK):ya ≠ Ta));have Cf:=aa.mk ((by rw [hg];exact Nat.ne_of_gt (Tb (g:=ya) (o:=.cells #[.slice yb Ua.length zb,.int .i64 Pa,.int .i64 Ra,.int .i64 Sa,.slice fc Fa.length Qb] 30 (0,0)) kaK):Ta ≠ ya));clear ta HB;have ta:=Bb;have HB:=Db;have Ea:=Ib;have bh:=Xb;have Lb:=De;have xb:=ef;have qb:=Cf;clear Bb Db Ib Xb De ef Cf hb Fb hg;have tay:=qb.out;have eay:=xb.out;have Qk:w8.cell? ⟨Ta,0,none⟩=some (.int .i64 kf):=(ja Ea.out 0).trans rfl;have Pk:w8.cell? ⟨Ta,1,none⟩=some (.int .i64 Oc):=(ja Ea.out 1).trans rfl;have Ok:w8.cell? ⟨Ta,2,none⟩=some (.int .i64 Bc):=(ja Ea.out 2).trans rfl;have Nk:w8.cell? ⟨Ta,3,none⟩=some (.int .i64 Nc):=(ja Ea.out 3).trans rfl;have rm:w8.cell? ⟨Ta,4,none⟩=some (.int .i64 Ed):=(ja Ea.out 4).trans rfl;have DA:w8.cell? ⟨Ta,5,none⟩=some (.int .i64 qg):=(ja Ea.out 5).trans rfl;have CA:w8.cell? ⟨Ta,6,none⟩=some (.string Ag):=(ja Ea.out 6).trans rfl;have Kk:=qa Ea.out 0;have Jk:=qa Ea.out 1;have Ik:=qa Ea.out 2;have Gk:=qa Ea.out 3;have qm:=qa Ea.out 4;have rA:=qa Ea.out 5;have qA:=qa Ea.out 6;have tr:w8.cell? ⟨ya,0,none⟩=some (.slice yb Ua.length zb):=(ja ta.out 0).trans rfl;have sr:w8.cell? ⟨ya,1,none⟩=some (.int .i64 Pa):=(ja ta.out 1).trans rfl;have nr:w8.cell? ⟨ya,2,none⟩=some (.int .i64 Ra):=(ja ta.out 2).trans rfl;have kr:w8.cell? ⟨ya,3,none⟩=some (.int .i64 Sa):=(ja ta.out 3).trans rfl;have jr:w8.cell? ⟨ya,4,none⟩=some (.slice fc Fa.length Qb):=(ja ta.out 4).trans rfl;have Kq:=qa ta.out 0;have Jq:=qa ta.out 1;have Iq:=qa ta.out 2;have Hq:=qa ta.out 3;have Gq:=qa ta.out 4)|((with_reducible refine Cb (f:=53) rfl ?_);refine Jc (some 14) rfl rfl Try.func53 (by kernel_rfl) rfl #[.int .i64 Oc,.int .i64 0,.int .i64 (wrap64 (Sa - 1))] rfl laK ?_;(with_reducible refine (Ob.calls Oc 0 (wrap64 (Sa - 1)) t103 _ A3.out).mono ?_);rintro e w' ⟨rfl,⟨nd,rfl⟩⟩;refine ⟨_,rfl,?_⟩)|((with_reducible refine Cb (f:=53) rfl ?_);refine Jc (some 20) rfl rfl Try.func53 (by kernel_rfl) rfl #[.int .i64 Bc,.int .i64 0,.int .i64 (wrap64 (Sa - 1))] rfl laK ?_;(with_reducible refine (Ob.calls Bc 0 (wrap64 (Sa - 1)) t104 _ A4.out).mono ?_);rintro e w' ⟨rfl,⟨nd,rfl⟩⟩;refine ⟨_,rfl,?_⟩)|((with_reducible refine Cb (f:=53) rfl ?_);refine Jc (some 26) rfl rfl Try.func53 (by kernel_rfl) rfl #[.int .i64 Nc,.int .i64 0,.int .i64 (wrap64 (Sa - 1))] rfl laK ?_;(with_reducible refine (Ob.calls Nc 0 (wrap64 (Sa - 1)) t105 _ A5.out).mono ?_);rintro e w' ⟨rfl,⟨nd,rfl⟩⟩;refine ⟨_,rfl,?_⟩))
 (try simp only [Act.put,List.setIfInBounds_toArray,List.set_cons_zero,List.set_cons_succ])
 go_cut [8] (fun v8 wc=>∃ (kq:Nat) (FT:Bool),v8 = .bool FT∧aa (mc.j0 kq t103 t104 t105 FT Ua Pa Ra Sa Fa kf Oc Bc Nc Ed qg Ag=some r)∧aa (kq ≤ k)∧aa (wc.heap[ya]? = some (.cells #[(.slice yb Ua.length zb),.int .i64 Pa,.int .i64 Ra,.int .i64 Sa,(.slice fc Fa.length Qb)] 30 (0,0)))∧aa (wc.heap[Ta]? = some (.cells #[.int .i64 kf,.int .i64 Oc,.int .i64 Bc,.int .i64 Nc,.int .i64 Ed,.int .i64 qg,.string Ag] 65 (0,0)))∧aa (Below w.heap.size w wc))
 case first =>
  have H:=HC6.out;clear HC6
  by_cases uo:t104=true
  ·subst uo;rw [if_pos rfl] at H
   by_cases ZF:t105=true
   ·subst ZF;rw [if_pos rfl] at H;replace H:=Option.bind_eq_some_iff.mp H;obtain ⟨t106,KM,H⟩:=H
    try dsimp only at H
    have A14:=aa.mk KM;clear KM;have H':=aa.mk H;clear H;have e8:=qb.out;have P7:=xb.out;obtain ⟨Cx,Bx,zx,yx,xx,XQ,WQ,Mw,Lw,Kw,Jw,Iw,gQ,fQ⟩:=kj Ea.out;obtain ⟨ux,sx,qx,ox,jx,Hw,Gw,Fw,Ew,Dw⟩:=ri ta.out;go_wp2_with (first|(go_at_call 53;(with_reducible refine (Ob.calls qg 0 (wrap64 ((Ua.length:Int) - 1)) t106 _ A14.out).mono ?_);rintro e w' ⟨rfl,⟨nd,rfl⟩⟩))
    go_meet
    case rel=>exact ⟨_,(t106),saK,H',⟨ZaK⟩,⟨taK⟩,⟨xaK⟩,⟨maK⟩⟩
   ·replace ZF:=Bool.eq_false_iff.mpr ZF;subst ZF;rw [if_neg (show ¬ (false=true) by decide)] at H;have H':=aa.mk H;clear H;go_wp2
    go_meet
    case rel=>exact ⟨_,(false),saK,H',⟨ZaK⟩,⟨taK⟩,⟨xaK⟩,⟨maK⟩⟩
  ·replace uo:=Bool.eq_false_iff.mpr uo;subst uo;rw [if_neg (show ¬ (false=true) by decide)] at H
   by_cases BG:Bc=(-1)
   ·rw [if_pos BG] at H;have gy:=beq_iff_eq.mpr BG;have XV:=bne_eq_false_iff_eq.mpr BG;clear BG;(first|rw [gy]|(simp only [jb,mb];rw [gy])|skip)
    by_cases iC:t105=true
    ·subst iC;rw [if_pos rfl] at H;replace H:=Option.bind_eq_some_iff.mp H;obtain ⟨t107,Nan,H⟩:=H
     try dsimp only at H
     have uC:=aa.mk Nan;clear Nan;have H':=aa.mk H;clear H;have saD:=qb.out;have JaC:=xb.out;obtain ⟨dx,bx,ax,Zw,Yw,OQ,NQ,Bw,Aw,zw,yw,xw,YP,XP⟩:=kj Ea.out;obtain ⟨cr,br,Zq,Yq,Xq,Aq,zq,yq,xq,vq⟩:=ri ta.out;go_wp2_with (first|(go_at_call 53;(with_reducible refine (Ob.calls qg 0 (wrap64 ((Ua.length:Int) - 1)) t107 _ uC.out).mono ?_);rintro e w' ⟨rfl,⟨nd,rfl⟩⟩))
     go_meet
     case rel=>exact ⟨_,(t107),saK,H',⟨ZaK⟩,⟨taK⟩,⟨xaK⟩,⟨maK⟩⟩
    ·replace iC:=Bool.eq_false_iff.mpr iC;subst iC;rw [if_neg (show ¬ (false=true) by decide)] at H;have H':=aa.mk H;clear H;have zag:=qb.out;have iag:=xb.out;obtain ⟨au,Zt,Yt,Xt,Xw,MQ,LQ,yt,vt,qt,ot,vw,VP,TP⟩:=kj Ea.out;go_wp2
     go_meet
     case rel=>exact ⟨_,(false),saK,H',⟨ZaK⟩,⟨taK⟩,⟨xaK⟩,⟨maK⟩⟩
   ·rw [if_neg BG] at H;have gy:=beq_eq_false_iff_ne.mpr BG;have XV:=bne_iff_ne.mpr BG;(first|rw [gy]|(simp only [jb,mb];rw [gy])|skip);have H':=aa.mk H;clear H;have b8:=qb.out;have O7:=xb.out;obtain ⟨Wt,Vt,Ut,Tt,Rt,IJ,HJ,nt,jt,ct,bt,Zs,YI,XI⟩:=kj Ea.out;go_wp2
    go_meet
    case rel=>exact ⟨_,(false),saK,H',⟨ZaK⟩,⟨taK⟩,⟨xaK⟩,⟨maK⟩⟩
 case rest =>
  clear HC6
  try clear c1
  try clear c2
  try clear p2
  try clear c5
  try clear p6
  try clear c9
  try clear uo
  try clear ZF
  try clear c15
  try clear BG
  try clear gy
  try clear XV
  try clear iC
  try clear iE
  try clear VM
  try clear c26
  try clear Qk
  try clear Pk
  try clear Ok
  try clear Nk
  try clear rm
  try clear DA
  try clear CA
  try clear tr
  try clear sr
  try clear nr
  try clear kr
  try clear jr
  try clear Cx
  try clear Bx
  try clear zx
  try clear yx
  try clear xx
  try clear XQ
  try clear WQ
  try clear ux
  try clear sx
  try clear qx
  try clear ox
  try clear jx
  try clear dx
  try clear bx
  try clear ax
  try clear Zw
  try clear Yw
  try clear OQ
  try clear NQ
  try clear cr
  try clear br
  try clear Zq
  try clear Yq
  try clear Xq
  try clear au
  try clear Zt
  try clear Yt
  try clear Xt
  try clear Xw
  try clear MQ
  try clear LQ
  try clear Wt
  try clear Vt
  try clear Ut
  try clear Tt
  try clear Rt
  try clear IJ
  try clear HJ
  try clear Kk
  try clear Jk
  try clear Ik
  try clear Gk
  try clear qm
  try clear rA
  try clear qA
  try clear Kq
  try clear Jq
  try clear Iq
  try clear Hq
  try clear Gq
  try clear Mw
  try clear Lw
  try clear Kw
  try clear Jw
  try clear Iw
  try clear gQ
  try clear fQ
  try clear Hw
  try clear Gw
  try clear Fw
  try clear Ew
  try clear Dw
  try clear Bw
  try clear Aw
  try clear zw
  try clear yw
  try clear xw
  try clear YP
  try clear XP
  try clear Aq
  try clear zq
  try clear yq
  try clear xq
  try clear vq
  try clear yt
  try clear vt
  try clear qt
  try clear ot
  try clear vw
  try clear VP
  try clear TP
  try clear nt
  try clear jt
  try clear ct
  try clear bt
  try clear Zs
  try clear YI
  try clear XI
  obtain ⟨kq,FT,rfl,HA,HJ5,ta,Ea,HB⟩:=hcut;cases kq with
  | zero=>exact absurd HA.out (by simp [mc.j0])
  | succ kj5 =>
   have H:=HA.out;clear HA;simp only [mc.j0] at H;have aae:=aa.mk H;clear H
   go_upto_region 5 with (fail)
   go_cut [62] (fun v62 wc=>∃ (kq:Nat) (pH:Bool),v62 = .bool pH∧aa (mc.j1 kq t103 t104 t105 FT pH Ua Pa Ra Sa Fa kf Oc Bc Nc Ed qg Ag=some r)∧aa (kq ≤ kj5)∧aa (wc.heap[ya]? = some (.cells #[(.slice yb Ua.length zb),.int .i64 Pa,.int .i64 Ra,.int .i64 Sa,(.slice fc Fa.length Qb)] 30 (0,0)))∧aa (wc.heap[Ta]? = some (.cells #[.int .i64 kf,.int .i64 Oc,.int .i64 Bc,.int .i64 Nc,.int .i64 Ed,.int .i64 qg,.string Ag] 65 (0,0)))∧aa (Below w.heap.size w wc))
   case first =>
    have H:=aae.out;clear aae
    by_cases kR:kf=2
    ·rw [if_pos kR] at H;have qF:=beq_iff_eq.mpr kR;have I9:=bne_eq_false_iff_eq.mpr kR;clear kR;(first|rw [qF]|(simp only [jb,mb];rw [qF])|skip)
     by_cases UM:kf=4
     ·rw [if_pos UM] at H;have jR:=beq_iff_eq.mpr UM;have G9:=bne_eq_false_iff_eq.mpr UM;clear UM;have H':=aa.mk H;clear H;have qaD:=qb.out;have HaC:=xb.out;obtain ⟨VD,UD,TD,SD,RD,J4,I4,kD,jD,iD,hD,gD,F1,E1⟩:=kj Ea.out;go_wp2
      go_meet
      case rel=>exact ⟨_,(false),saK,H',⟨by have:=HJ5.out;first|omega|exact Nat.le_refl _⟩,⟨taK⟩,⟨xaK⟩,⟨maK⟩⟩
     ·rw [if_neg UM] at H;have jR:=beq_eq_false_iff_ne.mpr UM;have G9:=bne_iff_ne.mpr UM;have H':=aa.mk H;clear H;have vag:=qb.out;have eag:=xb.out;obtain ⟨FJ,EJ,DJ,CJ,KQ,JQ,IQ,VI,UI,TI,SI,SP,RP,OP⟩:=kj Ea.out;go_wp2
      go_meet
      case rel=>exact ⟨_,((Ed != 0)),saK,H',⟨by have:=HJ5.out;first|omega|exact Nat.le_refl _⟩,⟨taK⟩,⟨xaK⟩,⟨maK⟩⟩
    ·rw [if_neg kR] at H;have qF:=beq_eq_false_iff_ne.mpr kR;have I9:=bne_iff_ne.mpr kR;(first|rw [qF]|(simp only [jb,mb];rw [qF])|skip)
     by_cases SM:Ag.toList=([]:List UInt8)
     ·rw [if_pos SM] at H;have iM:=beq_iff_eq.mpr SM;have D9:=bne_eq_false_iff_eq.mpr SM;clear SM
      by_cases iR:kf=4
      ·rw [if_pos iR] at H;have SV:=beq_iff_eq.mpr iR;have C9:=bne_eq_false_iff_eq.mpr iR;clear iR;have H':=aa.mk H;clear H;have uag:=qb.out;have dag:=xb.out;obtain ⟨wJ,uJ,tJ,sJ,rJ,FQ,DQ,NI,MI,LI,KI,JI,MP,LP⟩:=kj Ea.out;go_wp2
       go_meet
       case rel=>exact ⟨_,(false),saK,H',⟨by have:=HJ5.out;first|omega|exact Nat.le_refl _⟩,⟨taK⟩,⟨xaK⟩,⟨maK⟩⟩
      ·rw [if_neg iR] at H;have SV:=beq_eq_false_iff_ne.mpr iR;have C9:=bne_iff_ne.mpr iR;have H':=aa.mk H;clear H;have W7:=qb.out;have L7:=xb.out;obtain ⟨wA,vA,uA,tA,sA,xQ,wQ,jA,iA,gA,fA,eA,EP,DP⟩:=kj Ea.out;go_wp2
       go_meet
       case rel=>exact ⟨_,((Ed != 0)),saK,H',⟨by have:=HJ5.out;first|omega|exact Nat.le_refl _⟩,⟨taK⟩,⟨xaK⟩,⟨maK⟩⟩
     ·rw [if_neg SM] at H;have iM:=beq_eq_false_iff_ne.mpr SM;have D9:=bne_iff_ne.mpr SM;have H':=aa.mk H;clear H;have sag:=qb.out;have cag:=xb.out;obtain ⟨FD,ED,DD,CD,BD,rQ,qQ,VC,UC,TC,SC,RC,CP,BP⟩:=kj Ea.out;go_wp2
      go_meet
      case rel=>exact ⟨_,(true),saK,H',⟨by have:=HJ5.out;first|omega|exact Nat.le_refl _⟩,⟨taK⟩,⟨xaK⟩,⟨maK⟩⟩
   case rest =>
    clear aae
    try clear c1
    try clear c2
    try clear p2
    try clear c3
    try clear c4
    try clear c5
    try clear p6
    try clear c9
    try clear uo
    try clear ZF
    try clear c15
    try clear BG
    try clear gy
    try clear XV
    try clear iC
    try clear iE
    try clear VM
    try clear c26
    try clear kR
    try clear qF
    try clear I9
    try clear UM
    try clear jR
    try clear G9
    try clear F9
    try clear fK
    try clear SM
    try clear iM
    try clear D9
    try clear iR
    try clear SV
    try clear C9
    try clear c37
    try clear c39
    try clear c41
    try clear Qk
    try clear Pk
    try clear Ok
    try clear Nk
    try clear rm
    try clear DA
    try clear CA
    try clear tr
    try clear sr
    try clear nr
    try clear kr
    try clear jr
    try clear Cx
    try clear Bx
    try clear zx
    try clear yx
    try clear xx
    try clear XQ
    try clear WQ
    try clear ux
    try clear sx
    try clear qx
    try clear ox
    try clear jx
    try clear dx
    try clear bx
    try clear ax
    try clear Zw
    try clear Yw
    try clear OQ
    try clear NQ
    try clear cr
    try clear br
    try clear Zq
    try clear Yq
    try clear Xq
    try clear au
    try clear Zt
    try clear Yt
    try clear Xt
    try clear Xw
    try clear MQ
    try clear LQ
    try clear Wt
    try clear Vt
    try clear Ut
    try clear Tt
    try clear Rt
    try clear IJ
    try clear HJ
    try clear VD
    try clear UD
    try clear TD
    try clear SD
    try clear RD
    try clear J4
    try clear I4
    try clear FJ
    try clear EJ
    try clear DJ
    try clear CJ
    try clear KQ
    try clear JQ
    try clear IQ
    try clear wJ
    try clear uJ
    try clear tJ
    try clear sJ
    try clear rJ
    try clear FQ
    try clear DQ
    try clear wA
    try clear vA
    try clear uA
    try clear tA
    try clear sA
    try clear xQ
    try clear wQ
    try clear FD
    try clear ED
    try clear DD
    try clear CD
    try clear BD
    try clear rQ
    try clear qQ
    try clear Kk
    try clear Jk
    try clear Ik
    try clear Gk
    try clear qm
    try clear rA
    try clear qA
    try clear Kq
    try clear Jq
    try clear Iq
    try clear Hq
    try clear Gq
    try clear Mw
    try clear Lw
    try clear Kw
    try clear Jw
    try clear Iw
    try clear gQ
    try clear fQ
    try clear Hw
    try clear Gw
    try clear Fw
    try clear Ew
    try clear Dw
    try clear Bw
    try clear Aw
    try clear zw
    try clear yw
    try clear xw
    try clear YP
    try clear XP
    try clear Aq
    try clear zq
    try clear yq
    try clear xq
    try clear vq
    try clear yt
    try clear vt
    try clear qt
    try clear ot
    try clear vw
    try clear VP
    try clear TP
    try clear nt
    try clear jt
    try clear ct
    try clear bt
    try clear Zs
    try clear YI
    try clear XI
    try clear kD
    try clear jD
    try clear iD
    try clear hD
    try clear gD
    try clear F1
    try clear E1
    try clear VI
    try clear UI
    try clear TI
    try clear SI
    try clear SP
    try clear RP
    try clear OP
    try clear NI
    try clear MI
    try clear LI
    try clear KI
    try clear JI
    try clear MP
    try clear LP
    try clear jA
    try clear iA
    try clear gA
    try clear fA
    try clear eA
    try clear EP
    try clear DP
    try clear VC
    try clear UC
    try clear TC
    try clear SC
    try clear RC
    try clear CP
    try clear BP
    try clear p2
    try clear p6
    obtain ⟨kq,pH,rfl,HA,taI,ta,Ea,HB⟩:=hcut;cases kq with
    | zero=>exact absurd HA.out (by simp [mc.j1])
    | succ oaf =>
     have H:=HA.out;clear HA;simp only [mc.j1] at H
     by_cases c43:pH=true
     ·subst c43;rw [if_pos rfl] at H;obtain rfl:=Option.some.inj H;go_wp2;go_ret;exact ⟨naK,maK⟩
     ·replace c43:=Bool.eq_false_iff.mpr c43;subst c43;rw [if_neg (show ¬ (false=true) by decide)] at H
      by_cases pF:kf=0
      ·rw [if_pos pF] at H;have gM:=beq_iff_eq.mpr pF;have fM:=bne_eq_false_iff_eq.mpr pF;clear pF
       by_cases N5:t103=true
       ·subst N5;rw [if_pos rfl] at H
        by_cases gO:Bc=0
        ·rw [if_pos gO] at H;have RV:=beq_iff_eq.mpr gO;have QV:=bne_eq_false_iff_eq.mpr gO;clear gO;obtain rfl:=Option.some.inj H;have V7:=qb.out;have K7:=xb.out;obtain ⟨pJ,oJ,nJ,mJ,lJ,I3,G3,CI,BI,zI,yI,xI,YZ,XZ⟩:=kj Ea.out;go_wp2;go_ret;exact ⟨naK,maK⟩
        ·rw [if_neg gO] at H;have RV:=beq_eq_false_iff_ne.mpr gO;have QV:=bne_iff_ne.mpr gO;obtain rfl:=Option.some.inj H;have jaD:=qb.out;have AaC:=xb.out;obtain ⟨X2,V2,U2,T2,R2,Q2,P2,RZ,QZ,PZ,OZ,NZ,MZ,LZ⟩:=kj Ea.out;go_wp2;go_ret;exact ⟨naK,maK⟩
       ·replace N5:=Bool.eq_false_iff.mpr N5;subst N5;rw [if_neg (show ¬ (false=true) by decide)] at H;obtain rfl:=Option.some.inj H;have U7:=qb.out;have J7:=xb.out;obtain ⟨zD,yD,xD,wD,vD,bav,aav,QC,OC,NC,MC,LC,oar,nar⟩:=kj Ea.out;go_wp2;go_ret;exact ⟨naK,maK⟩
      ·rw [if_neg pF] at H;have gM:=beq_eq_false_iff_ne.mpr pF;have fM:=bne_iff_ne.mpr pF
       by_cases c53:kf=1
       ·rw [if_pos c53] at H;have nal:=beq_iff_eq.mpr c53;have mal:=bne_eq_false_iff_eq.mpr c53;clear c53
        by_cases c54:t103=true
        ·subst c54;rw [if_pos rfl] at H
         by_cases c55:t104=true
         ·subst c55;rw [if_pos rfl] at H
          by_cases c56:Nc=0
          ·rw [if_pos c56] at H;have lal:=beq_iff_eq.mpr c56;have kal:=bne_eq_false_iff_eq.mpr c56;clear c56;obtain rfl:=Option.some.inj H;have gaD:=qb.out;have xaC:=xb.out;obtain ⟨O2,N2,K2,J2,I2,Fau,Eau,KZ,JZ,IZ,GZ,FZ,Raq,Qaq⟩:=kj Ea.out;go_wp2;go_ret;exact ⟨naK,maK⟩
          ·rw [if_neg c56] at H;have lal:=beq_eq_false_iff_ne.mpr c56;have kal:=bne_iff_ne.mpr c56;obtain rfl:=Option.some.inj H;have qag:=qb.out;have aag:=xb.out;obtain ⟨Dau,Cau,Bau,Aau,zau,yau,xau,Paq,Oaq,Naq,Maq,Laq,Kaq,Jaq⟩:=kj Ea.out;go_wp2;go_ret;exact ⟨naK,maK⟩
         ·replace c55:=Bool.eq_false_iff.mpr c55;subst c55;rw [if_neg (show ¬ (false=true) by decide)] at H;obtain rfl:=Option.some.inj H;have eaD:=qb.out;have vaC:=xb.out;obtain ⟨wau,vau,uau,tau,sau,rau,qau,Iaq,Haq,Gaq,Faq,Eaq,Daq,Caq⟩:=kj Ea.out;go_wp2;go_ret;exact ⟨naK,maK⟩
        ·replace c54:=Bool.eq_false_iff.mpr c54;subst c54;rw [if_neg (show ¬ (false=true) by decide)] at H;obtain rfl:=Option.some.inj H;have daD:=qb.out;have uaC:=xb.out;obtain ⟨pau,oau,nau,mau,lau,kau,jau,Baq,Aaq,zaq,yaq,xaq,waq,vaq⟩:=kj Ea.out;go_wp2;go_ret;exact ⟨naK,maK⟩
       ·rw [if_neg c53] at H;have nal:=beq_eq_false_iff_ne.mpr c53;have mal:=bne_iff_ne.mpr c53
        by_cases uT:kf=2
        ·rw [if_pos uT] at H;have ial:=beq_iff_eq.mpr uT;have hal:=bne_eq_false_iff_eq.mpr uT;clear uT
         by_cases L5:t103=true
         ·subst L5;rw [if_pos rfl] at H
          by_cases K5:t104=true
          ·subst K5;rw [if_pos rfl] at H
           by_cases c68:t105=true
           ·subst c68;rw [if_pos rfl] at H
            by_cases c69:qg=0
            ·rw [if_pos c69] at H;have gal:=beq_iff_eq.mpr c69;have fal:=bne_eq_false_iff_eq.mpr c69;clear c69;obtain ⟨tj,Dh⟩:∃ y_:List ByteArray,y_=(([(⟨#[61,61]⟩:ByteArray),(⟨#[60]⟩:ByteArray),(⟨#[38]⟩:ByteArray),(⟨#[43]⟩:ByteArray),(⟨#[45]⟩:ByteArray),(⟨#[42]⟩:ByteArray)]:List ByteArray)):=⟨_,rfl⟩;replace H:((xg.f oaf tj Ag).bind fun t111=>(some t111))=some r:=by first|(rw [Dh];with_reducible exact H)|(have Ld:=(Option.bind_some _ _).symm.trans H;rw [Dh];with_reducible exact Ld)|(have Ld:=(Option.bind_some _ _).symm.trans H;with_reducible exact Ld)|with_reducible exact H|(rw [Dh];exact H)|exact H
             have Ko:=aa.mk Dh;clear Dh;replace H:=Option.bind_eq_some_iff.mp H;obtain ⟨t111,Fan,H⟩:=H
             try dsimp only at H
             have cG:=aa.mk Fan;clear Fan;obtain rfl:=Option.some.inj H;have aaD:=qb.out;have raC:=xb.out;obtain ⟨eau,dau,cau,bau,aau,Zat,Yat,qaq,paq,oaq,naq,maq,laq,kaq⟩:=kj Ea.out;go_wp2_with (first|((with_reducible refine Za (N:=109) rfl ?_);(try (refine Vj (by rfl) ?_;dsimp only));refine Kd.Ei Kd.string _ 9 ?hg (N:=109) ?hd (xs:=([(⟨#[61,61]⟩:ByteArray),(⟨#[60]⟩:ByteArray),(⟨#[38]⟩:ByteArray),(⟨#[43]⟩:ByteArray),(⟨#[45]⟩:ByteArray),(⟨#[42]⟩:ByteArray)]:List ByteArray)) (inner:=[.string (⟨#[61,61]⟩:ByteArray),.string (⟨#[60]⟩:ByteArray),.string (⟨#[38]⟩:ByteArray),.string (⟨#[43]⟩:ByteArray),.string (⟨#[45]⟩:ByteArray),.string (⟨#[42]⟩:ByteArray)]) (ok:=fun _=>True) (Sh:=fun _=>True) ?hr ?hp (fun _ hk=>hk) trivial (Below.refl _ _) (Nat.le_refl _) (by simp) ?_;(case hd|hg=>rfl);(case hr=>exact gaK);(case hp=>exact (Wc.one (show Kd.M Kd.string _ _ _ (⟨#[61,61]⟩:ByteArray) [.string (⟨#[61,61]⟩:ByteArray)] from rfl) (Wc.one (show Kd.M Kd.string _ _ _ (⟨#[60]⟩:ByteArray) [.string (⟨#[60]⟩:ByteArray)] from rfl) (Wc.one (show Kd.M Kd.string _ _ _ (⟨#[38]⟩:ByteArray) [.string (⟨#[38]⟩:ByteArray)] from rfl) (Wc.one (show Kd.M Kd.string _ _ _ (⟨#[43]⟩:ByteArray) [.string (⟨#[43]⟩:ByteArray)] from rfl) (Wc.one (show Kd.M Kd.string _ _ _ (⟨#[45]⟩:ByteArray) [.string (⟨#[45]⟩:ByteArray)] from rfl) (Wc.one (show Kd.M Kd.string _ _ _ (⟨#[42]⟩:ByteArray) [.string (⟨#[42]⟩:ByteArray)] from rfl) (Wc.none _ _))))))));intro JY GY KU hb bk xe;clear bk xe;(first|rw [← Ko.out] at KU|(simp only [Int.reduceToNat] at KU;rw [← Ko.out] at KU));have Bb:=aa.mk (Kd.td KU (Da paK));have Db:=aa.mk (Na (g:=ya) (o:=.cells #[.slice yb Ua.length zb,.int .i64 Pa,.int .i64 Ra,.int .i64 Sa,.slice fc Fa.length Qb] 30 (0,0)) kaK hb);have Ib:=aa.mk (Na (g:=Ta) (o:=.cells #[.int .i64 kf,.int .i64 Oc,.int .i64 Bc,.int .i64 Nc,.int .i64 Ed,.int .i64 qg,.string Ag] 65 (0,0)) qaK hb);have Xb:=aa.mk (Ma paK hb);clear ta Ea HB;have Fi:=Bb;have ta:=Db;have Ea:=Ib;have HB:=Xb;clear Bb Db Ib Xb hb KU;have Xat:GY.cell? ⟨Ta,0,none⟩=some (.int .i64 kf):=(ja Ea.out 0).trans rfl;have Wat:GY.cell? ⟨Ta,1,none⟩=some (.int .i64 Oc):=(ja Ea.out 1).trans rfl;have Vat:GY.cell? ⟨Ta,2,none⟩=some (.int .i64 Bc):=(ja Ea.out 2).trans rfl;have Uat:GY.cell? ⟨Ta,3,none⟩=some (.int .i64 Nc):=(ja Ea.out 3).trans rfl;have Tat:GY.cell? ⟨Ta,4,none⟩=some (.int .i64 Ed):=(ja Ea.out 4).trans rfl;have Qat:GY.cell? ⟨Ta,5,none⟩=some (.int .i64 qg):=(ja Ea.out 5).trans rfl;have Pat:GY.cell? ⟨Ta,6,none⟩=some (.string Ag):=(ja Ea.out 6).trans rfl;have jaq:=qa Ea.out 0;have iaq:=qa Ea.out 1;have haq:=qa Ea.out 2;have gaq:=qa Ea.out 3;have faq:=qa Ea.out 4;have eaq:=qa Ea.out 5;have daq:=qa Ea.out 6;obtain ⟨PaI,jaH,xaz⟩:=Kd.Lc Fi.out;subst xaz)|(go_at_call 113;(with_reducible refine (xg.calls oaf _ _ tj Ag t111 _ ?Ic ?Gc cG.out).mono ?_);(case Ic=>repeat (first|exact (Kd.Jb Fi.out).2.2|(with_reducible refine Kd.Vb ?_ _)|(with_reducible refine Kd.Ub ?_ _)|(with_reducible refine Kd.tc ?_)));(case Gc=>exact (Kd.Jb Fi.out).2.1);rintro e w' ⟨rfl,⟨nd,rfl⟩⟩));go_ret;exact ⟨naK,maK⟩
            ·rw [if_neg c69] at H;have gal:=beq_eq_false_iff_ne.mpr c69;have fal:=bne_iff_ne.mpr c69;obtain rfl:=Option.some.inj H;have nag:=qb.out;have Xaf:=xb.out;obtain ⟨Oat,Mat,Lat,Kat,Jat,Iat,Hat,caq,baq,aaq,Zap,Yap,Xap,Wap⟩:=kj Ea.out;go_wp2;go_ret;exact ⟨naK,maK⟩
           ·replace c68:=Bool.eq_false_iff.mpr c68;subst c68;rw [if_neg (show ¬ (false=true) by decide)] at H;obtain rfl:=Option.some.inj H;have YaC:=qb.out;have paC:=xb.out;obtain ⟨Cat,Bat,Aat,zat,yat,xat,wat,Rap,Qap,Pap,Oap,Nap,Lap,Kap⟩:=kj Ea.out;go_wp2;go_ret;exact ⟨naK,maK⟩
          ·replace K5:=Bool.eq_false_iff.mpr K5;subst K5;rw [if_neg (show ¬ (false=true) by decide)] at H;obtain rfl:=Option.some.inj H;have XaC:=qb.out;have oaC:=xb.out;obtain ⟨vat,uat,tat,qat,oat,mat,lat,Jap,Iap,Hap,Gap,Fap,Eap,Dap⟩:=kj Ea.out;go_wp2;go_ret;exact ⟨naK,maK⟩
         ·replace L5:=Bool.eq_false_iff.mpr L5;subst L5;rw [if_neg (show ¬ (false=true) by decide)] at H;obtain rfl:=Option.some.inj H;have lag:=qb.out;have Waf:=xb.out;obtain ⟨B2,Z1,Y1,X1,kat,jat,iat,zZ,yZ,xZ,wZ,Bap,Aap,zap⟩:=kj Ea.out;go_wp2;go_ret;exact ⟨naK,maK⟩
        ·rw [if_neg uT] at H;have ial:=beq_eq_false_iff_ne.mpr uT;have hal:=bne_iff_ne.mpr uT
         by_cases c85:kf=3
         ·rw [if_pos c85] at H;have eal:=beq_iff_eq.mpr c85;have dal:=bne_eq_false_iff_eq.mpr c85;clear c85
          by_cases c86:t103=true
          ·subst c86;rw [if_pos rfl] at H;obtain rfl:=Option.some.inj H;have UaC:=qb.out;have laC:=xb.out;obtain ⟨aat,Zas,Yas,Xas,Was,Vas,Uas,uap,tap,sap,rap,qap,oap,nap⟩:=kj Ea.out;go_wp2;go_ret;exact ⟨naK,maK⟩
          ·replace c86:=Bool.eq_false_iff.mpr c86;subst c86;rw [if_neg (show ¬ (false=true) by decide)] at H;obtain rfl:=Option.some.inj H;have TaC:=qb.out;have kaC:=xb.out;obtain ⟨Tas,Sas,Ras,Qas,Pas,Oas,Nas,lap,kap,jap,iap,eap,dap,bap⟩:=kj Ea.out;go_wp2;go_ret;exact ⟨naK,maK⟩
         ·rw [if_neg c85] at H;have eal:=beq_eq_false_iff_ne.mpr c85;have dal:=bne_iff_ne.mpr c85
          by_cases c91:kf=4
          ·rw [if_pos c91] at H;have bal:=beq_iff_eq.mpr c91;have aal:=bne_eq_false_iff_eq.mpr c91;clear c91
           by_cases c92:Oc=0
           ·rw [if_pos c92] at H;have Zak:=beq_iff_eq.mpr c92;have Yak:=bne_eq_false_iff_eq.mpr c92;clear c92
            by_cases c93:FT=true
            ·subst c93;rw [if_pos rfl] at H;replace H:=Option.bind_eq_some_iff.mp H;obtain ⟨t112,Ean,H⟩:=H
             try dsimp only at H
             have A94:=aa.mk Ean;clear Ean;obtain rfl:=Option.some.inj H;have RaC:=qb.out;have iaC:=xb.out;obtain ⟨Cas,Bas,Aas,zas,yas,xas,vas,Rao,Qao,Pao,Oao,Nao,Mao,Lao⟩:=kj Ea.out;obtain ⟨uas,tas,sas,ras,qas,Kao,Jao,Iao,Hao,Gao⟩:=ri ta.out;go_wp2_with (first|(go_at_call 53;(with_reducible refine (Ob.calls Ed 0 (wrap64 (Sa - 1)) t112 _ A94.out).mono ?_);rintro e w' ⟨rfl,⟨nd,rfl⟩⟩));go_ret;exact ⟨naK,maK⟩
            ·replace c93:=Bool.eq_false_iff.mpr c93;subst c93;rw [if_neg (show ¬ (false=true) by decide)] at H;obtain rfl:=Option.some.inj H;have QaC:=qb.out;have haC:=xb.out;obtain ⟨pas,oas,nas,mas,las,kas,jas,Fao,Eao,Dao,Cao,Bao,Aao,zao⟩:=kj Ea.out;go_wp2;go_ret;exact ⟨naK,maK⟩
           ·rw [if_neg c92] at H;have Zak:=beq_eq_false_iff_ne.mpr c92;have Yak:=bne_iff_ne.mpr c92;obtain rfl:=Option.some.inj H;have Gay:=qb.out;have ray:=xb.out;obtain ⟨Taj,Saj,Raj,Qaj,Paj,Oaj,Naj,aai,Zah,Yah,Xah,Wah,Vah,Uah⟩:=kj Ea.out;go_wp2;go_ret;exact ⟨naK,maK⟩
          ·rw [if_neg c91] at H;have bal:=beq_eq_false_iff_ne.mpr c91;have aal:=bne_iff_ne.mpr c91
           by_cases oO:kf=5
           ·rw [if_pos oO] at H;have Uac:=beq_iff_eq.mpr oO;have Tac:=bne_eq_false_iff_eq.mpr oO;clear oO
            by_cases P5:t103=true
            ·subst P5;rw [if_pos rfl] at H
             by_cases nO:Bc=0
             ·rw [if_pos nO] at H;have Rac:=beq_iff_eq.mpr nO;have Qac:=bne_eq_false_iff_eq.mpr nO;clear nO
              by_cases mO:Nc=0
              ·rw [if_pos mO] at H;have Pac:=beq_iff_eq.mpr mO;have Oac:=bne_eq_false_iff_eq.mpr mO;clear mO;obtain rfl:=Option.some.inj H;have Fay:=qb.out;have qay:=xb.out;obtain ⟨Maj,Laj,Kaj,Jaj,Iaj,Haj,Gaj,Tah,Sah,Rah,Qah,Pah,Oah,Nah⟩:=kj Ea.out;go_wp2;go_ret;exact ⟨naK,maK⟩
              ·rw [if_neg mO] at H;have Pac:=beq_eq_false_iff_ne.mpr mO;have Oac:=bne_iff_ne.mpr mO;obtain rfl:=Option.some.inj H;have Eay:=qb.out;have pay:=xb.out;obtain ⟨Faj,Eaj,Daj,Caj,Baj,Aaj,zaj,Mah,Lah,Kah,Jah,Iah,Hah,Gah⟩:=kj Ea.out;go_wp2;go_ret;exact ⟨naK,maK⟩
             ·rw [if_neg nO] at H;have Rac:=beq_eq_false_iff_ne.mpr nO;have Qac:=bne_iff_ne.mpr nO;obtain rfl:=Option.some.inj H;have Cay:=qb.out;have oay:=xb.out;obtain ⟨yaj,xaj,waj,vaj,uaj,taj,saj,Fah,Eah,Dah,Cah,Bah,Aah,zah⟩:=kj Ea.out;go_wp2;go_ret;exact ⟨naK,maK⟩
            ·replace P5:=Bool.eq_false_iff.mpr P5;subst P5;rw [if_neg (show ¬ (false=true) by decide)] at H;obtain rfl:=Option.some.inj H;have Bay:=qb.out;have nay:=xb.out;obtain ⟨raj,qaj,paj,oaj,naj,maj,laj,yah,xah,wah,vah,uah,tah,sah⟩:=kj Ea.out;go_wp2;go_ret;exact ⟨naK,maK⟩
           ·rw [if_neg oO] at H;have Uac:=beq_eq_false_iff_ne.mpr oO;have Tac:=bne_iff_ne.mpr oO
            by_cases lO:kf=6
            ·rw [if_pos lO] at H;have Nac:=beq_iff_eq.mpr lO;have Mac:=bne_eq_false_iff_eq.mpr lO;clear lO
             by_cases kO:Oc=0
             ·rw [if_pos kO] at H;have Lac:=beq_iff_eq.mpr kO;have Kac:=bne_eq_false_iff_eq.mpr kO;clear kO
              by_cases O5:t104=true
              ·subst O5;rw [if_pos rfl] at H
               by_cases jO:Nc=0
               ·rw [if_pos jO] at H;have Iac:=beq_iff_eq.mpr jO;have Hac:=bne_eq_false_iff_eq.mpr jO;clear jO;obtain rfl:=Option.some.inj H;have Aay:=qb.out;have kay:=xb.out;obtain ⟨kaj,jaj,iaj,haj,gaj,faj,eaj,rah,qah,pah,oah,nah,mah,lah⟩:=kj Ea.out;go_wp2;go_ret;exact ⟨naK,maK⟩
               ·rw [if_neg jO] at H;have Iac:=beq_eq_false_iff_ne.mpr jO;have Hac:=bne_iff_ne.mpr jO;obtain rfl:=Option.some.inj H;have zay:=qb.out;have jay:=xb.out;obtain ⟨daj,caj,baj,aaj,Zai,Yai,Xai,kah,jah,iah,hah,gah,fah,eah⟩:=kj Ea.out;go_wp2;go_ret;exact ⟨naK,maK⟩
              ·replace O5:=Bool.eq_false_iff.mpr O5;subst O5;rw [if_neg (show ¬ (false=true) by decide)] at H;obtain rfl:=Option.some.inj H;have yay:=qb.out;have iay:=xb.out;obtain ⟨Wai,Vai,Uai,Tai,Sai,Rai,Qai,dah,cah,bah,aah,Zag,Yag,Xag⟩:=kj Ea.out;go_wp2;go_ret;exact ⟨naK,maK⟩
             ·rw [if_neg kO] at H;have Lac:=beq_eq_false_iff_ne.mpr kO;have Kac:=bne_iff_ne.mpr kO;obtain rfl:=Option.some.inj H;have xay:=qb.out;have hay:=xb.out;obtain ⟨Pai,Oai,Nai,Mai,Lai,Kai,Jai,Wag,Vag,Uag,Sag,Rag,Qag,Pag⟩:=kj Ea.out;go_wp2;go_ret;exact ⟨naK,maK⟩
            ·rw [if_neg lO] at H;have Nac:=beq_eq_false_iff_ne.mpr lO;have Mac:=bne_iff_ne.mpr lO;obtain rfl:=Option.some.inj H;have vay:=qb.out;have gay:=xb.out;obtain ⟨Iai,Hai,Gai,Fai,Eai,Dai,Cai,Oag,Nag,Mag,Lag,Kag,Jag,Iag⟩:=kj Ea.out;go_wp2;go_ret;exact ⟨naK,maK⟩
end Go.Proofs.Ytkigbdceceeenaa.P
