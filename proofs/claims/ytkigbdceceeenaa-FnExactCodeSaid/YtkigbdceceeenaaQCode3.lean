import Derived.Test.YtkigbdceceeenaaQCode1
import Derived.Test.YtkigbdceceeenaaQCode2
set_option maxHeartbeats 8000000
set_option maxRecDepth 100000
section
namespace Go.Proofs.Ytkigbdceceeenaa.P
open Go.RowKit Go.Proofs.Oa.Rb Go.Proofs.Oa.Pd Go.Proofs.Oa.Re
set_option linter.unusedVariables false
set_option linter.unusedSimpArgs false
attribute [local go_sem] Mh ki rj Kj th qh ni ji
def Dc.l0:Nat→Int→List Int→Int→Int→Int→List (Ff)→List (tf)→Int→Int→Int→Int→Option (Bool)
 | 0,_,_,_,_,_,_,_,_,_,_,_=>none
 | k + 1,x5,qe,Ie,Wd,me,Qc,Gg,Al,gm,uk,sk=>if x5 < (Gg.length:Int) then (if 0 ≤ x5 then ((mc.f k qe Ie Wd me Qc ((Ga Gg x5).f0) ((Ga Gg x5).f1) ((Ga Gg x5).f2) ((Ga Gg x5).f3) ((Ga Gg x5).f4) ((Ga Gg x5).f5) ((Ga Gg x5).f6)).bind fun t104=>(if t104=true then (Dc.l0 k (wrap64 (x5 + 1)) qe Ie Wd me Qc Gg Al gm uk sk) else (some false))) else (none)) else ((Ob.f uk 0 (wrap64 ((Qc.length:Int) - 1))).bind fun t105=>((Ob.f gm 0 (wrap64 (me - 1))).bind fun t106=>(if Al=0 then (if t105=true then (if gm=0 then (some (sk == 0)) else (some false)) else (some false)) else (if Al=1 then (if t105=true then (if t106=true then ((Ob.f sk 0 (wrap64 ((Qc.length:Int) - 1))).bind fun t107=>(some t107)) else (some false)) else (some false)) else (if Al=2 then (if t106=true then (if uk=0 then (some (sk == 0)) else (some false)) else (some false)) else (some false))))))
def Dc.f (k:Nat) (Ua:List Int) (Pa:Int) (Ra:Int) (Sa:Int) (Fa:List (Ff)) (Pc:List (tf)) (Oc:Int) (Bc:Int) (Nc:Int) (Ed:Int):Option (Bool):=Dc.l0 k 0 Ua Pa Ra Sa Fa Pc Oc Bc Nc Ed
def Dc.T4:Bool × List (List Nat × List Nat):=(true,[([],[]),([],[]),([1],[1]),([],[]),([2,3],[2,3]),([4],[4]),([0,5],[0,5]),([6],[6])])
def Dc.B4:List Nat:=[0,0,2,0,14,30,63,127]
theorem Dc.gaf:Ql .any (opsOf Try.f71 4)=Dc.T4:=by kernel_rfl
theorem Dc.J9:nj Dc.T4.2 Dc.B4=true:=by kernel_rfl
theorem Dc.calls (k:Nat) (yb:Option Addr) (zb:Nat) (Ua:List Int) (Pa:Int) (Ra:Int) (Sa:Int) (fc:Option Addr) (Qb:Nat) (Fa:List (Ff)) (Wf:Option Addr) (Gf:Nat) (Pc:List (tf)) (Oc:Int) (Bc:Int) (Nc:Int) (Ed:Int) (r:Bool) (w:World) (jf:Kd.C (Kd.int .i64) w yb Ua.length Ua) (Ze:Ua.length ≤ zb) (Lg:Kd.C Wr w fc Fa.length Fa) (Ig:Fa.length ≤ Qb) (Xr:Kd.C Xk w Wf Pc.length Pc) (Zr:Pc.length ≤ Gf) (h:Dc.f k Ua Pa Ra Sa Fa Pc Oc Bc Nc Ed=some r) :
  Calls Try.prog 71 #[.agg #[.slice yb Ua.length zb,.int .i64 Pa,.int .i64 Ra,.int .i64 Sa,.slice fc Fa.length Qb],.agg #[.slice Wf Pc.length Gf,.int .i64 Oc,.int .i64 Bc,.int .i64 Nc,.int .i64 Ed]] w fun e w'=>e = .returned (.bool r)∧Below w.heap.size w w':=by
 have uI:=Try.underlying30;have oG:=Try.underlying59;have CC:=Try.underlying65;have lf:=aa.mk jf;have Df:=aa.mk Ze;clear jf Ze;have Tg:=aa.mk Lg;have Ej:=aa.mk Ig;clear Lg Ig;have Nl:=aa.mk Xr;have Lm:=aa.mk Zr;clear Xr Zr;have HB:=aa.mk (Below.refl w.heap.size w);have H:(Dc.l0 k 0 Ua Pa Ra Sa Fa Pc Oc Bc Nc Ed)=some r:=h;clear h;have H':=aa.mk H;clear H;go_enter Try.func71,Try.ntmps71;go_wp2_with (first|((with_reducible refine Za (N:=2) rfl ?_);(try (refine Vj (by rfl) ?_;dsimp only));refine Ab ?hg (N:=2) ?hd (cs:=#[.slice yb Ua.length zb,.int .i64 Pa,.int .i64 Ra,.int .i64 Sa,.slice fc Fa.length Qb]) (t:=30) ?hr ?_;(case hd|hg=>rfl);(case hr=>exact gaK);intro ya hg w3 Fb hb;have Bb:=aa.mk (Ma jaK hb);have Db:=aa.mk (Fb);have Ib:=aa.mk ((by rw [hg];exact (Da jaK):w.heap.size ≤ ya));have Xb:=aa.mk ((by rw [hg];exact (Da jaK):w.heap.size ≤ ya));clear HB;have HB:=Bb;have ta:=Db;have Jd:=Ib;have Qa:=Xb;clear Bb Db Ib Xb hb Fb hg)|((with_reducible refine Za (N:=3) rfl ?_);(try (refine Vj (by rfl) ?_;dsimp only));refine Ab ?hg (N:=3) ?hd (cs:=#[.slice Wf Pc.length Gf,.int .i64 Oc,.int .i64 Bc,.int .i64 Nc,.int .i64 Ed]) (t:=59) ?hr ?_;(case hd|hg=>rfl);(case hr=>exact gaK);intro Ta hg w4 Fb hb;have Bb:=aa.mk (Na (g:=ya) (o:=.cells #[.slice yb Ua.length zb,.int .i64 Pa,.int .i64 Ra,.int .i64 Sa,.slice fc Fa.length Qb] 30 (0,0)) kaK hb);have Db:=aa.mk (Ma iaK hb);have Ib:=aa.mk (Fb);have Xb:=aa.mk ((by rw [hg];exact (Da iaK):w.heap.size ≤ Ta));have De:=aa.mk ((by rw [hg];exact (Da iaK):w.heap.size ≤ Ta));have ef:=aa.mk ((by rw [hg];exact Nat.ne_of_lt (Tb (g:=ya) (o:=.cells #[.slice yb Ua.length zb,.int .i64 Pa,.int .i64 Ra,.int .i64 Sa,.slice fc Fa.length Qb] 30 (0,0)) kaK):ya ≠ Ta));have Cf:=aa.mk ((by rw [hg];exact Nat.ne_of_gt (Tb (g:=ya) (o:=.cells #[.slice yb Ua.length zb,.int .i64 Pa,.int .i64 Ra,.int .i64 Sa,.slice fc Fa.length Qb] 30 (0,0)) kaK):Ta ≠ ya));clear ta HB;have ta:=Bb;have HB:=Db;have Ea:=Ib;have bh:=Xb;have Lb:=De;have xb:=ef;have qb:=Cf;clear Bb Db Ib Xb De ef Cf hb Fb hg))
 go_loopg [5] k (fun kq v5 w'=>∃ (Ca:Int),v5 = .int .i64 Ca∧aa (Dc.l0 kq Ca Ua Pa Ra Sa Fa Pc Oc Bc Nc Ed=some r)∧aa (kq ≤ k)∧aa (w'.heap[ya]? = some (.cells #[(.slice yb Ua.length zb),.int .i64 Pa,.int .i64 Ra,.int .i64 Sa,(.slice fc Fa.length Qb)] 30 (0,0)))∧aa (w'.heap[Ta]? = some (.cells #[(.slice Wf Pc.length Gf),.int .i64 Oc,.int .i64 Bc,.int .i64 Nc,.int .i64 Ed] 59 (0,0)))∧aa (Below w.heap.size w w'))
 case atStart=>exact ⟨(0),saK,H',⟨Nat.le_refl _⟩,⟨taK⟩,⟨xaK⟩,⟨maK⟩⟩
 case round =>
  clear H'
  try clear c1
  try clear p2
  (try clear HA);(try clear Vg);(try clear ta);(try clear Ea);(try clear HB);obtain ⟨Ca,rfl,HA,Vg,ta,Ea,HB⟩:=hrel;cases gk with
  | zero=>exact absurd HA.out (by simp [Dc.l0])
  | succ k1 =>
   have H:=HA.out;clear HA;simp only [Dc.l0] at H
   by_cases c5:Ca < (Pc.length:Int)
   ·rw [if_pos c5] at H;have Tl:decide (Ca < (Pc.length:Int))=true:=decide_eq_true c5;clear c5
    by_cases c6:0 ≤ Ca
    ·rw [if_pos c6] at H;have vn:decide (0 ≤ Ca)=true:=decide_eq_true c6;clear c6;replace H:=Option.bind_eq_some_iff.mp H;obtain ⟨t104,cG,H⟩:=H
     try dsimp only at H
     have A7:=aa.mk cG;clear cG
     by_cases c8:t104=true
     ·subst c8;rw [if_pos rfl] at H;have H':=aa.mk H;clear H;have tay:=qb.out;have eay:=xb.out;obtain ⟨Qk,Pk,Ok,Nk,rm,Kk,Jk,Ik,Gk,qm⟩:=ri Ea.out
      try go_wp2
      have Bb:=aa.mk (Ba ta.out);have Db:=aa.mk (Ba Ea.out);have Ib:=aa.mk (oa HB.out);clear ta Ea HB;have ta:=Bb;have Ea:=Db;have HB:=Ib;clear Bb Db Ib;have Jp:0 ≤ (Ca:Int):=Va;have Hp:Ca < (Pc.length:Int):=Va;obtain ⟨ah,mF,Ll,Kl,Jl,Il,Hl,gp,ep⟩:=Mp Nl.out Ca Jp Hp;have Nz:=ep;have Oz:=gp;have Pz:=Hl;have Qz:=Il;have Rz:=Jl;have Sz:=Kl;have Tz:=Ll;cases mF;replace Ll:=Ja HB.out Ll;replace Kl:=Ja HB.out Kl;replace Jl:=Ja HB.out Jl;replace Il:=Ja HB.out Il;replace Hl:=Ja HB.out Hl;replace gp:=Ja HB.out gp;replace ep:=Ja HB.out ep;replace Jp:=eq_true Jp;replace Hp:=eq_true Hp;refine Gh (n:=8) (S:=fun w'=>w'.cell? ⟨ya,0,none⟩=some (.slice yb Ua.length zb)∧w'.cell? ⟨ya,1,none⟩=some (.int .i64 Pa)∧w'.cell? ⟨ya,2,none⟩=some (.int .i64 Ra)∧w'.cell? ⟨ya,3,none⟩=some (.int .i64 Sa)∧w'.cell? ⟨ya,4,none⟩=some (.slice fc Fa.length Qb)∧w'.cell? ⟨Ta,0,none⟩=some (.slice (some ah) Pc.length Gf)∧w'.cell? ⟨Ta,1,none⟩=some (.int .i64 Oc)∧w'.cell? ⟨Ta,2,none⟩=some (.int .i64 Bc)∧w'.cell? ⟨Ta,3,none⟩=some (.int .i64 Nc)∧w'.cell? ⟨Ta,4,none⟩=some (.int .i64 Ed)∧w'.cell? (ah.add ((Ca).toNat * 7))=some (.int .i64 ((Ga Pc Ca).f0))∧w'.cell? ⟨(ah.add ((Ca).toNat * 7)).block,(ah.add ((Ca).toNat * 7)).off + 1,none⟩=some (.int .i64 ((Ga Pc Ca).f1))∧w'.cell? ⟨(ah.add ((Ca).toNat * 7)).block,(ah.add ((Ca).toNat * 7)).off + 2,none⟩=some (.int .i64 ((Ga Pc Ca).f2))∧w'.cell? ⟨(ah.add ((Ca).toNat * 7)).block,(ah.add ((Ca).toNat * 7)).off + 3,none⟩=some (.int .i64 ((Ga Pc Ca).f3))∧w'.cell? ⟨(ah.add ((Ca).toNat * 7)).block,(ah.add ((Ca).toNat * 7)).off + 4,none⟩=some (.int .i64 ((Ga Pc Ca).f4))∧w'.cell? ⟨(ah.add ((Ca).toNat * 7)).block,(ah.add ((Ca).toNat * 7)).off + 5,none⟩=some (.int .i64 ((Ga Pc Ca).f5))∧w'.cell? ⟨(ah.add ((Ca).toNat * 7)).block,(ah.add ((Ca).toNat * 7)).off + 6,none⟩=some (.string ((Ga Pc Ca).f6))) (ds:=[]) #[false,false,false,false,false,false,false,false] (by kernel_rfl) rfl rfl ⟨(ja ta.out 0).trans rfl,(ja ta.out 1).trans rfl,(ja ta.out 2).trans rfl,(ja ta.out 3).trans rfl,(ja ta.out 4).trans rfl,(ja Ea.out 0).trans rfl,(ja Ea.out 1).trans rfl,(ja Ea.out 2).trans rfl,(ja Ea.out 3).trans rfl,(ja Ea.out 4).trans rfl,(Ja HB.out Tz),(Ja HB.out Sz),(Ja HB.out Rz),(Ja HB.out Qz),(Ja HB.out Pz),(Ja HB.out Oz),(Ja HB.out Nz)⟩ (fun hHeld=>?_);refine Jg Dc.gaf Dc.J9 (fun Vd dm=>?_);generalize wr.drew=Zj at ta Ea HB Ll Kl Jl Il Hl gp ep hHeld ⊢;refine ec (i:=1) (N:=some 16) (v:=?_) (a':=?_) #[false,true,false,false,false,false,false,false] rfl rfl (dc Vd.out (by kernel_rfl)) (fun _ _ _ h=>h) (Or.inl ⟨by rfl,?_⟩) ?_ ?_;rotate_left
      ·exact XaJ
      rotate_left
      ·exact WaJ
      refine ec (i:=3) (N:=some 18) (v:=?_) (a':=?_) #[false,true,false,true,false,false,false,false] rfl rfl (dc Vd.out (by kernel_rfl)) (fun _ _ _ h=>h) (Or.inl ⟨by rfl,?_⟩) ?_ ?_;rotate_left
      ·exact XaJ
      rotate_left
      ·exact WaJ
      refine Pe (i:=0) (N:=some 15) (v:=?_) (a':=?_) #[true,true,false,true,false,false,false,false] rfl rfl (Ad Vd.out dm.out (by kernel_rfl)) (fun _ _ _ h=>h) (Or.inl ⟨by rfl,?_⟩) hHeld ?_ ?_;rotate_left
      ·exact ZaJ
      rotate_left
      ·exact WaJ
      refine Pe (i:=2) (N:=some 17) (v:=?_) (a':=?_) #[true,true,true,true,false,false,false,false] rfl rfl (Ad Vd.out dm.out (by kernel_rfl)) (fun _ _ _ h=>h) (Or.inl ⟨by rfl,?_⟩) hHeld ?_ ?_;rotate_left
      ·exact ZaJ
      rotate_left
      ·exact WaJ
      refine ec (i:=4) (N:=some 19) (v:=?_) (a':=?_) #[true,true,true,true,true,false,false,false] rfl rfl (dc Vd.out (by kernel_rfl)) (fun _ _ _ h=>h) (Or.inl ⟨by rfl,?_⟩) ?_ ?_;rotate_left
      ·exact XaJ
      rotate_left
      ·exact WaJ
      refine Pe (i:=5) (N:=some 20) (v:=?_) (a':=?_) #[true,true,true,true,true,true,false,false] rfl rfl (Ad Vd.out dm.out (by kernel_rfl)) (fun _ _ _ h=>h) (Or.inl ⟨by rfl,?_⟩) hHeld ?_ ?_;rotate_left
      ·exact ZaJ
      rotate_left
      ·exact WaJ
      refine Gi (i:=6) (N:=some 21) #[true,true,true,true,true,true,true,false] rfl rfl (Wg Vd.out (by kernel_rfl)) (by decide) (fun K hK=>?_);refine Hj Try.func97 (by kernel_rfl) rfl #[.agg #[.slice yb Ua.length zb,.int .i64 Pa,.int .i64 Ra,.int .i64 Sa,.slice fc Fa.length Qb],.agg #[.int .i64 ((Ga Pc Ca).f0),.int .i64 ((Ga Pc Ca).f1),.int .i64 ((Ga Pc Ca).f2),.int .i64 ((Ga Pc Ca).f3),.int .i64 ((Ga Pc Ca).f4),.int .i64 ((Ga Pc Ca).f5),.string ((Ga Pc Ca).f6)]] (by rfl) rfl rfl laK ?_;with_reducible refine (mc.calls k1 _ _ Ua Pa Ra Sa _ _ Fa ((Ga Pc Ca).f0) ((Ga Pc Ca).f1) ((Ga Pc Ca).f2) ((Ga Pc Ca).f3) ((Ga Pc Ca).f4) ((Ga Pc Ca).f5) ((Ga Pc Ca).f6) true _ ?Ic ?Gc ?Ae ?ze A7.out).mono ?_
      (case Ic=>repeat (first|exact (Kd.Kb lf.out HB.out)|(with_reducible refine Kd.Vb ?_ _)|(with_reducible refine Kd.Ub ?_ _)|(with_reducible refine Kd.tc ?_)))
      (case Gc=>exact Df.out)
      (case Ae=>repeat (first|exact (Kd.Kb Tg.out HB.out)|(with_reducible refine Kd.Vb ?_ _)|(with_reducible refine Kd.Ub ?_ _)|(with_reducible refine Kd.tc ?_)))
      (case ze=>exact Ej.out)
      rintro e Ao ⟨rfl,hb⟩;refine ⟨_,rfl,?_⟩;have Bb:=aa.mk (Na (g:=ya) (o:=.cells #[.slice yb Ua.length zb,.int .i64 Pa,.int .i64 Ra,.int .i64 Sa,.slice fc Fa.length Qb] 30 (0,0)) kaK hb);have Db:=aa.mk (Na (g:=Ta) (o:=.cells #[.slice (some ah) Pc.length Gf,.int .i64 Oc,.int .i64 Bc,.int .i64 Nc,.int .i64 Ed] 59 (0,0)) qaK hb);have Ib:=aa.mk (Ma paK hb);clear ta Ea HB;have ta:=Bb;have Ea:=Db;have HB:=Ib;clear Bb Db Ib;(try clear hb);(try clear ek);(try clear hk);(try clear hi);refine hK.out _ _ ⟨(ja ta.out 0).trans rfl,(ja ta.out 1).trans rfl,(ja ta.out 2).trans rfl,(ja ta.out 3).trans rfl,(ja ta.out 4).trans rfl,(ja Ea.out 0).trans rfl,(ja Ea.out 1).trans rfl,(ja Ea.out 2).trans rfl,(ja Ea.out 3).trans rfl,(ja Ea.out 4).trans rfl,(Ja HB.out Tz),(Ja HB.out Sz),(Ja HB.out Rz),(Ja HB.out Qz),(Ja HB.out Pz),(Ja HB.out Oz),(Ja HB.out Nz)⟩ (fun hHeld=>?_);clear hK K;refine Be (a':=?_) ?_ ?_;rotate_left
      ·show Act.put _ (some 21) _=_
       exact WaJ
      refine ec (i:=7) (N:=some 22) (v:=?_) (a':=?_) #[true,true,true,true,true,true,true,true] rfl rfl (dc Vd.out (by kernel_rfl)) (fun _ _ _ h=>h) (Or.inl ⟨by rfl,?_⟩) ?_ ?_;rotate_left
      ·exact XaJ
      rotate_left
      ·exact WaJ
      refine fk (si Vd.out (by kernel_rfl)) ?_
      try go_wp2
      go_roundg k1
      case measure=>have:=Vg.out;omega
      case rel=>exact ⟨(wrap64 (Ca + 1)),saK,H',⟨by have:=Vg.out;omega⟩,⟨taK⟩,⟨xaK⟩,⟨maK⟩⟩
     ·replace c8:=Bool.eq_false_iff.mpr c8;subst c8;rw [if_neg (show ¬ (false=true) by decide)] at H;obtain rfl:=Option.some.inj H;have xaD:=qb.out;have OaC:=xb.out;obtain ⟨Xn,Wn,Vn,Un,Tn,Sn,Rn,Qn,Pn,Nn⟩:=ri Ea.out
      try go_wp2
      have Bb:=aa.mk (Ba ta.out);have Db:=aa.mk (Ba Ea.out);have Ib:=aa.mk (oa HB.out);clear ta Ea HB;have ta:=Bb;have Ea:=Db;have HB:=Ib;clear Bb Db Ib;have Jp:0 ≤ (Ca:Int):=Va;have Hp:Ca < (Pc.length:Int):=Va;obtain ⟨ah,mF,Ll,Kl,Jl,Il,Hl,gp,ep⟩:=Mp Nl.out Ca Jp Hp;have Nz:=ep;have Oz:=gp;have Pz:=Hl;have Qz:=Il;have Rz:=Jl;have Sz:=Kl;have Tz:=Ll;cases mF;replace Ll:=Ja HB.out Ll;replace Kl:=Ja HB.out Kl;replace Jl:=Ja HB.out Jl;replace Il:=Ja HB.out Il;replace Hl:=Ja HB.out Hl;replace gp:=Ja HB.out gp;replace ep:=Ja HB.out ep;replace Jp:=eq_true Jp;replace Hp:=eq_true Hp;refine Gh (n:=8) (S:=fun w'=>w'.cell? ⟨ya,0,none⟩=some (.slice yb Ua.length zb)∧w'.cell? ⟨ya,1,none⟩=some (.int .i64 Pa)∧w'.cell? ⟨ya,2,none⟩=some (.int .i64 Ra)∧w'.cell? ⟨ya,3,none⟩=some (.int .i64 Sa)∧w'.cell? ⟨ya,4,none⟩=some (.slice fc Fa.length Qb)∧w'.cell? ⟨Ta,0,none⟩=some (.slice (some ah) Pc.length Gf)∧w'.cell? ⟨Ta,1,none⟩=some (.int .i64 Oc)∧w'.cell? ⟨Ta,2,none⟩=some (.int .i64 Bc)∧w'.cell? ⟨Ta,3,none⟩=some (.int .i64 Nc)∧w'.cell? ⟨Ta,4,none⟩=some (.int .i64 Ed)∧w'.cell? (ah.add ((Ca).toNat * 7))=some (.int .i64 ((Ga Pc Ca).f0))∧w'.cell? ⟨(ah.add ((Ca).toNat * 7)).block,(ah.add ((Ca).toNat * 7)).off + 1,none⟩=some (.int .i64 ((Ga Pc Ca).f1))∧w'.cell? ⟨(ah.add ((Ca).toNat * 7)).block,(ah.add ((Ca).toNat * 7)).off + 2,none⟩=some (.int .i64 ((Ga Pc Ca).f2))∧w'.cell? ⟨(ah.add ((Ca).toNat * 7)).block,(ah.add ((Ca).toNat * 7)).off + 3,none⟩=some (.int .i64 ((Ga Pc Ca).f3))∧w'.cell? ⟨(ah.add ((Ca).toNat * 7)).block,(ah.add ((Ca).toNat * 7)).off + 4,none⟩=some (.int .i64 ((Ga Pc Ca).f4))∧w'.cell? ⟨(ah.add ((Ca).toNat * 7)).block,(ah.add ((Ca).toNat * 7)).off + 5,none⟩=some (.int .i64 ((Ga Pc Ca).f5))∧w'.cell? ⟨(ah.add ((Ca).toNat * 7)).block,(ah.add ((Ca).toNat * 7)).off + 6,none⟩=some (.string ((Ga Pc Ca).f6))) (ds:=[]) #[false,false,false,false,false,false,false,false] (by kernel_rfl) rfl rfl ⟨(ja ta.out 0).trans rfl,(ja ta.out 1).trans rfl,(ja ta.out 2).trans rfl,(ja ta.out 3).trans rfl,(ja ta.out 4).trans rfl,(ja Ea.out 0).trans rfl,(ja Ea.out 1).trans rfl,(ja Ea.out 2).trans rfl,(ja Ea.out 3).trans rfl,(ja Ea.out 4).trans rfl,(Ja HB.out Tz),(Ja HB.out Sz),(Ja HB.out Rz),(Ja HB.out Qz),(Ja HB.out Pz),(Ja HB.out Oz),(Ja HB.out Nz)⟩ (fun hHeld=>?_);refine Jg Dc.gaf Dc.J9 (fun Vd dm=>?_);generalize wr.drew=Ho at ta Ea HB Ll Kl Jl Il Hl gp ep hHeld ⊢;refine ec (i:=1) (N:=some 16) (v:=?_) (a':=?_) #[false,true,false,false,false,false,false,false] rfl rfl (dc Vd.out (by kernel_rfl)) (fun _ _ _ h=>h) (Or.inl ⟨by rfl,?_⟩) ?_ ?_;rotate_left
      ·exact XaJ
      rotate_left
      ·exact WaJ
      refine ec (i:=3) (N:=some 18) (v:=?_) (a':=?_) #[false,true,false,true,false,false,false,false] rfl rfl (dc Vd.out (by kernel_rfl)) (fun _ _ _ h=>h) (Or.inl ⟨by rfl,?_⟩) ?_ ?_;rotate_left
      ·exact XaJ
      rotate_left
      ·exact WaJ
      refine Pe (i:=0) (N:=some 15) (v:=?_) (a':=?_) #[true,true,false,true,false,false,false,false] rfl rfl (Ad Vd.out dm.out (by kernel_rfl)) (fun _ _ _ h=>h) (Or.inl ⟨by rfl,?_⟩) hHeld ?_ ?_;rotate_left
      ·exact ZaJ
      rotate_left
      ·exact WaJ
      refine Pe (i:=2) (N:=some 17) (v:=?_) (a':=?_) #[true,true,true,true,false,false,false,false] rfl rfl (Ad Vd.out dm.out (by kernel_rfl)) (fun _ _ _ h=>h) (Or.inl ⟨by rfl,?_⟩) hHeld ?_ ?_;rotate_left
      ·exact ZaJ
      rotate_left
      ·exact WaJ
      refine ec (i:=4) (N:=some 19) (v:=?_) (a':=?_) #[true,true,true,true,true,false,false,false] rfl rfl (dc Vd.out (by kernel_rfl)) (fun _ _ _ h=>h) (Or.inl ⟨by rfl,?_⟩) ?_ ?_;rotate_left
      ·exact XaJ
      rotate_left
      ·exact WaJ
      refine Pe (i:=5) (N:=some 20) (v:=?_) (a':=?_) #[true,true,true,true,true,true,false,false] rfl rfl (Ad Vd.out dm.out (by kernel_rfl)) (fun _ _ _ h=>h) (Or.inl ⟨by rfl,?_⟩) hHeld ?_ ?_;rotate_left
      ·exact ZaJ
      rotate_left
      ·exact WaJ
      refine Gi (i:=6) (N:=some 21) #[true,true,true,true,true,true,true,false] rfl rfl (Wg Vd.out (by kernel_rfl)) (by decide) (fun K hK=>?_);refine Hj Try.func97 (by kernel_rfl) rfl #[.agg #[.slice yb Ua.length zb,.int .i64 Pa,.int .i64 Ra,.int .i64 Sa,.slice fc Fa.length Qb],.agg #[.int .i64 ((Ga Pc Ca).f0),.int .i64 ((Ga Pc Ca).f1),.int .i64 ((Ga Pc Ca).f2),.int .i64 ((Ga Pc Ca).f3),.int .i64 ((Ga Pc Ca).f4),.int .i64 ((Ga Pc Ca).f5),.string ((Ga Pc Ca).f6)]] (by rfl) rfl rfl laK ?_;with_reducible refine (mc.calls k1 _ _ Ua Pa Ra Sa _ _ Fa ((Ga Pc Ca).f0) ((Ga Pc Ca).f1) ((Ga Pc Ca).f2) ((Ga Pc Ca).f3) ((Ga Pc Ca).f4) ((Ga Pc Ca).f5) ((Ga Pc Ca).f6) false _ ?Ic ?Gc ?Ae ?ze A7.out).mono ?_
      (case Ic=>repeat (first|exact (Kd.Kb lf.out HB.out)|(with_reducible refine Kd.Vb ?_ _)|(with_reducible refine Kd.Ub ?_ _)|(with_reducible refine Kd.tc ?_)))
      (case Gc=>exact Df.out)
      (case Ae=>repeat (first|exact (Kd.Kb Tg.out HB.out)|(with_reducible refine Kd.Vb ?_ _)|(with_reducible refine Kd.Ub ?_ _)|(with_reducible refine Kd.tc ?_)))
      (case ze=>exact Ej.out)
      rintro e um ⟨rfl,hb⟩;refine ⟨_,rfl,?_⟩;have Bb:=aa.mk (Na (g:=ya) (o:=.cells #[.slice yb Ua.length zb,.int .i64 Pa,.int .i64 Ra,.int .i64 Sa,.slice fc Fa.length Qb] 30 (0,0)) kaK hb);have Db:=aa.mk (Na (g:=Ta) (o:=.cells #[.slice (some ah) Pc.length Gf,.int .i64 Oc,.int .i64 Bc,.int .i64 Nc,.int .i64 Ed] 59 (0,0)) qaK hb);have Ib:=aa.mk (Ma paK hb);clear ta Ea HB;have ta:=Bb;have Ea:=Db;have HB:=Ib;clear Bb Db Ib;(try clear hb);(try clear ek);(try clear hk);(try clear hi);refine hK.out _ _ ⟨(ja ta.out 0).trans rfl,(ja ta.out 1).trans rfl,(ja ta.out 2).trans rfl,(ja ta.out 3).trans rfl,(ja ta.out 4).trans rfl,(ja Ea.out 0).trans rfl,(ja Ea.out 1).trans rfl,(ja Ea.out 2).trans rfl,(ja Ea.out 3).trans rfl,(ja Ea.out 4).trans rfl,(Ja HB.out Tz),(Ja HB.out Sz),(Ja HB.out Rz),(Ja HB.out Qz),(Ja HB.out Pz),(Ja HB.out Oz),(Ja HB.out Nz)⟩ (fun hHeld=>?_);clear hK K;refine Be (a':=?_) ?_ ?_;rotate_left
      ·show Act.put _ (some 21) _=_
       exact WaJ
      refine ec (i:=7) (N:=some 22) (v:=?_) (a':=?_) #[true,true,true,true,true,true,true,true] rfl rfl (dc Vd.out (by kernel_rfl)) (fun _ _ _ h=>h) (Or.inl ⟨by rfl,?_⟩) ?_ ?_;rotate_left
      ·exact XaJ
      rotate_left
      ·exact WaJ
      refine fk (si Vd.out (by kernel_rfl)) ?_
      try go_wp2
      go_ret;exact ⟨naK,maK⟩
    ·rw [if_neg c6] at H;exact absurd H (by simp)
   ·rw [if_neg c5] at H;have Tl:decide (Ca < (Pc.length:Int))=false:=decide_eq_false c5;clear c5;replace H:=Option.bind_eq_some_iff.mp H;obtain ⟨t105,Qan,H⟩:=H
    try dsimp only at H
    have DY:=aa.mk Qan;clear Qan;replace H:=Option.bind_eq_some_iff.mp H;obtain ⟨t106,Pan,H⟩:=H
    try dsimp only at H
    have CY:=aa.mk Pan;clear Pan
    by_cases iC:Oc=0
    ·rw [if_pos iC] at H;have nR:=beq_iff_eq.mpr iC;have Dal:=bne_eq_false_iff_eq.mpr iC;clear iC
     by_cases Tp:t105=true
     ·subst Tp;rw [if_pos rfl] at H
      by_cases iE:Bc=0
      ·rw [if_pos iE] at H;have WV:=beq_iff_eq.mpr iE;have Cal:=bne_eq_false_iff_eq.mpr iE;clear iE;obtain rfl:=Option.some.inj H;have Aag:=qb.out;have jag:=xb.out;obtain ⟨cr,br,Zq,Yq,Xq,Aq,zq,yq,xq,vq⟩:=ri Ea.out;obtain ⟨Wq,Vq,Uq,Rq,bu,uq,rq,qq,oq,Bt⟩:=ri ta.out;go_wp2_with (first|((with_reducible refine Cb (f:=53) rfl ?_);refine Jc (some 29) rfl rfl Try.func53 (by kernel_rfl) rfl #[.int .i64 Nc,.int .i64 0,.int .i64 (wrap64 ((Fa.length:Int) - 1))] rfl laK ?_;(with_reducible refine (Ob.calls Nc 0 (wrap64 ((Fa.length:Int) - 1)) true _ DY.out).mono ?_);rintro e w' ⟨rfl,⟨nd,rfl⟩⟩;refine ⟨_,rfl,?_⟩)|((with_reducible refine Cb (f:=53) rfl ?_);refine Jc (some 35) rfl rfl Try.func53 (by kernel_rfl) rfl #[.int .i64 Bc,.int .i64 0,.int .i64 (wrap64 (Sa - 1))] rfl laK ?_;(with_reducible refine (Ob.calls Bc 0 (wrap64 (Sa - 1)) t106 _ CY.out).mono ?_);rintro e w' ⟨rfl,⟨nd,rfl⟩⟩;refine ⟨_,rfl,?_⟩));go_ret;exact ⟨naK,maK⟩
      ·rw [if_neg iE] at H;have WV:=beq_eq_false_iff_ne.mpr iE;have Cal:=bne_iff_ne.mpr iE;obtain rfl:=Option.some.inj H;have ZU:=qb.out;have YU:=xb.out;obtain ⟨Qq,Pq,Oq,Nq,Mq,mq,lq,jq,iq,gq⟩:=ri Ea.out;obtain ⟨Wt,Vt,Ut,Tt,Rt,nt,jt,ct,bt,Zs⟩:=ri ta.out;go_wp2_with (first|((with_reducible refine Cb (f:=53) rfl ?_);refine Jc (some 29) rfl rfl Try.func53 (by kernel_rfl) rfl #[.int .i64 Nc,.int .i64 0,.int .i64 (wrap64 ((Fa.length:Int) - 1))] rfl laK ?_;(with_reducible refine (Ob.calls Nc 0 (wrap64 ((Fa.length:Int) - 1)) true _ DY.out).mono ?_);rintro e w' ⟨rfl,⟨nd,rfl⟩⟩;refine ⟨_,rfl,?_⟩)|((with_reducible refine Cb (f:=53) rfl ?_);refine Jc (some 35) rfl rfl Try.func53 (by kernel_rfl) rfl #[.int .i64 Bc,.int .i64 0,.int .i64 (wrap64 (Sa - 1))] rfl laK ?_;(with_reducible refine (Ob.calls Bc 0 (wrap64 (Sa - 1)) t106 _ CY.out).mono ?_);rintro e w' ⟨rfl,⟨nd,rfl⟩⟩;refine ⟨_,rfl,?_⟩));go_ret;exact ⟨naK,maK⟩
     ·replace Tp:=Bool.eq_false_iff.mpr Tp;subst Tp;rw [if_neg (show ¬ (false=true) by decide)] at H;obtain rfl:=Option.some.inj H;have yag:=qb.out;have hag:=xb.out;obtain ⟨AA,zA,yA,xA,aE,nA,mA,lA,kA,qD⟩:=ri Ea.out;obtain ⟨ZD,YD,XD,WD,K4,oD,nD,mD,lD,G1⟩:=ri ta.out;go_wp2_with (first|((with_reducible refine Cb (f:=53) rfl ?_);refine Jc (some 29) rfl rfl Try.func53 (by kernel_rfl) rfl #[.int .i64 Nc,.int .i64 0,.int .i64 (wrap64 ((Fa.length:Int) - 1))] rfl laK ?_;(with_reducible refine (Ob.calls Nc 0 (wrap64 ((Fa.length:Int) - 1)) false _ DY.out).mono ?_);rintro e w' ⟨rfl,⟨nd,rfl⟩⟩;refine ⟨_,rfl,?_⟩)|((with_reducible refine Cb (f:=53) rfl ?_);refine Jc (some 35) rfl rfl Try.func53 (by kernel_rfl) rfl #[.int .i64 Bc,.int .i64 0,.int .i64 (wrap64 (Sa - 1))] rfl laK ?_;(with_reducible refine (Ob.calls Bc 0 (wrap64 (Sa - 1)) t106 _ CY.out).mono ?_);rintro e w' ⟨rfl,⟨nd,rfl⟩⟩;refine ⟨_,rfl,?_⟩));go_ret;exact ⟨naK,maK⟩
    ·rw [if_neg iC] at H;have nR:=beq_eq_false_iff_ne.mpr iC;have Dal:=bne_iff_ne.mpr iC
     by_cases F9:Oc=1
     ·rw [if_pos F9] at H;have xal:=beq_iff_eq.mpr F9;have wal:=bne_eq_false_iff_eq.mpr F9;clear F9
      by_cases vT:t105=true
      ·subst vT;rw [if_pos rfl] at H
       by_cases fK:t106=true
       ·subst fK;rw [if_pos rfl] at H;replace H:=Option.bind_eq_some_iff.mp H;obtain ⟨t107,Kan,H⟩:=H
        try dsimp only at H
        have A34:=aa.mk Kan;clear Kan;obtain rfl:=Option.some.inj H;have X7:=qb.out;have M7:=xb.out;obtain ⟨QD,PD,OD,ND,MD,fD,eD,dD,cD,bD⟩:=ri Ea.out;obtain ⟨LD,KD,JD,ID,GD,aD,ZC,YC,XC,WC⟩:=ri ta.out;go_wp2_with (first|((with_reducible refine Cb (f:=53) rfl ?_);refine Jc (some 29) rfl rfl Try.func53 (by kernel_rfl) rfl #[.int .i64 Nc,.int .i64 0,.int .i64 (wrap64 ((Fa.length:Int) - 1))] rfl laK ?_;(with_reducible refine (Ob.calls Nc 0 (wrap64 ((Fa.length:Int) - 1)) true _ DY.out).mono ?_);rintro e w' ⟨rfl,⟨nd,rfl⟩⟩;refine ⟨_,rfl,?_⟩)|((with_reducible refine Cb (f:=53) rfl ?_);refine Jc (some 35) rfl rfl Try.func53 (by kernel_rfl) rfl #[.int .i64 Bc,.int .i64 0,.int .i64 (wrap64 (Sa - 1))] rfl laK ?_;(with_reducible refine (Ob.calls Bc 0 (wrap64 (Sa - 1)) true _ CY.out).mono ?_);rintro e w' ⟨rfl,⟨nd,rfl⟩⟩;refine ⟨_,rfl,?_⟩)|(go_at_call 53;(with_reducible refine (Ob.calls Ed 0 (wrap64 ((Fa.length:Int) - 1)) t107 _ A34.out).mono ?_);rintro e w' ⟨rfl,⟨nd,rfl⟩⟩));go_ret;exact ⟨naK,maK⟩
       ·replace fK:=Bool.eq_false_iff.mpr fK;subst fK;rw [if_neg (show ¬ (false=true) by decide)] at H;obtain rfl:=Option.some.inj H;have naD:=qb.out;have EaC:=xb.out;obtain ⟨CQ,BQ,AQ,zQ,yQ,KP,JP,IP,GP,FP⟩:=ri Ea.out;obtain ⟨wA,vA,uA,tA,sA,jA,iA,gA,fA,eA⟩:=ri ta.out;go_wp2_with (first|((with_reducible refine Cb (f:=53) rfl ?_);refine Jc (some 29) rfl rfl Try.func53 (by kernel_rfl) rfl #[.int .i64 Nc,.int .i64 0,.int .i64 (wrap64 ((Fa.length:Int) - 1))] rfl laK ?_;(with_reducible refine (Ob.calls Nc 0 (wrap64 ((Fa.length:Int) - 1)) true _ DY.out).mono ?_);rintro e w' ⟨rfl,⟨nd,rfl⟩⟩;refine ⟨_,rfl,?_⟩)|((with_reducible refine Cb (f:=53) rfl ?_);refine Jc (some 35) rfl rfl Try.func53 (by kernel_rfl) rfl #[.int .i64 Bc,.int .i64 0,.int .i64 (wrap64 (Sa - 1))] rfl laK ?_;(with_reducible refine (Ob.calls Bc 0 (wrap64 (Sa - 1)) false _ CY.out).mono ?_);rintro e w' ⟨rfl,⟨nd,rfl⟩⟩;refine ⟨_,rfl,?_⟩));go_ret;exact ⟨naK,maK⟩
      ·replace vT:=Bool.eq_false_iff.mpr vT;subst vT;rw [if_neg (show ¬ (false=true) by decide)] at H;obtain rfl:=Option.some.inj H;have sag:=qb.out;have cag:=xb.out;obtain ⟨FD,ED,DD,CD,BD,VC,UC,TC,SC,RC⟩:=ri Ea.out;obtain ⟨Z3,Y3,X3,V3,U3,S0,R0,Q0,P0,O0⟩:=ri ta.out;go_wp2_with (first|((with_reducible refine Cb (f:=53) rfl ?_);refine Jc (some 29) rfl rfl Try.func53 (by kernel_rfl) rfl #[.int .i64 Nc,.int .i64 0,.int .i64 (wrap64 ((Fa.length:Int) - 1))] rfl laK ?_;(with_reducible refine (Ob.calls Nc 0 (wrap64 ((Fa.length:Int) - 1)) false _ DY.out).mono ?_);rintro e w' ⟨rfl,⟨nd,rfl⟩⟩;refine ⟨_,rfl,?_⟩)|((with_reducible refine Cb (f:=53) rfl ?_);refine Jc (some 35) rfl rfl Try.func53 (by kernel_rfl) rfl #[.int .i64 Bc,.int .i64 0,.int .i64 (wrap64 (Sa - 1))] rfl laK ?_;(with_reducible refine (Ob.calls Bc 0 (wrap64 (Sa - 1)) t106 _ CY.out).mono ?_);rintro e w' ⟨rfl,⟨nd,rfl⟩⟩;refine ⟨_,rfl,?_⟩));go_ret;exact ⟨naK,maK⟩
     ·rw [if_neg F9] at H;have xal:=beq_eq_false_iff_ne.mpr F9;have wal:=bne_iff_ne.mpr F9
      by_cases pF:Oc=2
      ·rw [if_pos pF] at H;have gM:=beq_iff_eq.mpr pF;have fM:=bne_eq_false_iff_eq.mpr pF;clear pF
       by_cases N5:t106=true
       ·subst N5;rw [if_pos rfl] at H
        by_cases gO:Nc=0
        ·rw [if_pos gO] at H;have RV:=beq_iff_eq.mpr gO;have QV:=bne_eq_false_iff_eq.mpr gO;clear gO;obtain rfl:=Option.some.inj H;have V7:=qb.out;have K7:=xb.out;obtain ⟨pJ,oJ,nJ,mJ,lJ,CI,BI,zI,yI,xI⟩:=ri Ea.out;obtain ⟨F3,C3,j3,Z2,Y2,WZ,VZ,UZ,TZ,SZ⟩:=ri ta.out;go_wp2_with (first|((with_reducible refine Cb (f:=53) rfl ?_);refine Jc (some 29) rfl rfl Try.func53 (by kernel_rfl) rfl #[.int .i64 Nc,.int .i64 0,.int .i64 (wrap64 ((Fa.length:Int) - 1))] rfl laK ?_;(with_reducible refine (Ob.calls Nc 0 (wrap64 ((Fa.length:Int) - 1)) t105 _ DY.out).mono ?_);rintro e w' ⟨rfl,⟨nd,rfl⟩⟩;refine ⟨_,rfl,?_⟩)|((with_reducible refine Cb (f:=53) rfl ?_);refine Jc (some 35) rfl rfl Try.func53 (by kernel_rfl) rfl #[.int .i64 Bc,.int .i64 0,.int .i64 (wrap64 (Sa - 1))] rfl laK ?_;(with_reducible refine (Ob.calls Bc 0 (wrap64 (Sa - 1)) true _ CY.out).mono ?_);rintro e w' ⟨rfl,⟨nd,rfl⟩⟩;refine ⟨_,rfl,?_⟩));go_ret;exact ⟨naK,maK⟩
        ·rw [if_neg gO] at H;have RV:=beq_eq_false_iff_ne.mpr gO;have QV:=bne_iff_ne.mpr gO;obtain rfl:=Option.some.inj H;have rag:=qb.out;have bag:=xb.out;obtain ⟨gav,fav,eav,dav,cav,uar,tar,sar,rar,qar⟩:=ri Ea.out;obtain ⟨zD,yD,xD,wD,vD,QC,OC,NC,MC,LC⟩:=ri ta.out;go_wp2_with (first|((with_reducible refine Cb (f:=53) rfl ?_);refine Jc (some 29) rfl rfl Try.func53 (by kernel_rfl) rfl #[.int .i64 Nc,.int .i64 0,.int .i64 (wrap64 ((Fa.length:Int) - 1))] rfl laK ?_;(with_reducible refine (Ob.calls Nc 0 (wrap64 ((Fa.length:Int) - 1)) t105 _ DY.out).mono ?_);rintro e w' ⟨rfl,⟨nd,rfl⟩⟩;refine ⟨_,rfl,?_⟩)|((with_reducible refine Cb (f:=53) rfl ?_);refine Jc (some 35) rfl rfl Try.func53 (by kernel_rfl) rfl #[.int .i64 Bc,.int .i64 0,.int .i64 (wrap64 (Sa - 1))] rfl laK ?_;(with_reducible refine (Ob.calls Bc 0 (wrap64 (Sa - 1)) true _ CY.out).mono ?_);rintro e w' ⟨rfl,⟨nd,rfl⟩⟩;refine ⟨_,rfl,?_⟩));go_ret;exact ⟨naK,maK⟩
       ·replace N5:=Bool.eq_false_iff.mpr N5;subst N5;rw [if_neg (show ¬ (false=true) by decide)] at H;obtain rfl:=Option.some.inj H;have iaD:=qb.out;have zaC:=xb.out;obtain ⟨Uau,Tau,Sau,Rau,Qau,har,gar,ear,dar,car⟩:=ri Ea.out;obtain ⟨Pau,Oau,Nau,Mau,Lau,bar,aar,Zaq,Yaq,Xaq⟩:=ri ta.out;go_wp2_with (first|((with_reducible refine Cb (f:=53) rfl ?_);refine Jc (some 29) rfl rfl Try.func53 (by kernel_rfl) rfl #[.int .i64 Nc,.int .i64 0,.int .i64 (wrap64 ((Fa.length:Int) - 1))] rfl laK ?_;(with_reducible refine (Ob.calls Nc 0 (wrap64 ((Fa.length:Int) - 1)) t105 _ DY.out).mono ?_);rintro e w' ⟨rfl,⟨nd,rfl⟩⟩;refine ⟨_,rfl,?_⟩)|((with_reducible refine Cb (f:=53) rfl ?_);refine Jc (some 35) rfl rfl Try.func53 (by kernel_rfl) rfl #[.int .i64 Bc,.int .i64 0,.int .i64 (wrap64 (Sa - 1))] rfl laK ?_;(with_reducible refine (Ob.calls Bc 0 (wrap64 (Sa - 1)) false _ CY.out).mono ?_);rintro e w' ⟨rfl,⟨nd,rfl⟩⟩;refine ⟨_,rfl,?_⟩));go_ret;exact ⟨naK,maK⟩
      ·rw [if_neg pF] at H;have gM:=beq_eq_false_iff_ne.mpr pF;have fM:=bne_iff_ne.mpr pF;obtain rfl:=Option.some.inj H;have haD:=qb.out;have yaC:=xb.out;obtain ⟨Kau,Jau,Iau,Hau,Gau,Waq,Vaq,Uaq,Taq,Saq⟩:=ri Ea.out;obtain ⟨O2,N2,K2,J2,I2,KZ,JZ,IZ,GZ,FZ⟩:=ri ta.out;go_wp2_with (first|((with_reducible refine Cb (f:=53) rfl ?_);refine Jc (some 29) rfl rfl Try.func53 (by kernel_rfl) rfl #[.int .i64 Nc,.int .i64 0,.int .i64 (wrap64 ((Fa.length:Int) - 1))] rfl laK ?_;(with_reducible refine (Ob.calls Nc 0 (wrap64 ((Fa.length:Int) - 1)) t105 _ DY.out).mono ?_);rintro e w' ⟨rfl,⟨nd,rfl⟩⟩;refine ⟨_,rfl,?_⟩)|((with_reducible refine Cb (f:=53) rfl ?_);refine Jc (some 35) rfl rfl Try.func53 (by kernel_rfl) rfl #[.int .i64 Bc,.int .i64 0,.int .i64 (wrap64 (Sa - 1))] rfl laK ?_;(with_reducible refine (Ob.calls Bc 0 (wrap64 (Sa - 1)) t106 _ CY.out).mono ?_);rintro e w' ⟨rfl,⟨nd,rfl⟩⟩;refine ⟨_,rfl,?_⟩));go_ret;exact ⟨naK,maK⟩
mutual
def Sb.l0:Nat→Int→List Int→Int→Int→Int→List (Ff)→Option (Bool)
 | 0,_,_,_,_,_,_=>none
 | k + 1,x3,qe,Ie,Wd,me,Qc=>if x3 < (qe.length:Int) then (if 0 ≤ x3 then ((Ob.f (rd qe x3) 1 16).bind fun t103=>(if t103=true then (Sb.l0 k (wrap64 (x3 + 1)) qe Ie Wd me Qc) else (some false))) else (none)) else ((Ob.f (qe.length:Int) 1 4).bind fun t104=>(if t104=true then ((Ob.f Wd 0 20).bind fun t105=>(if t105=true then ((Ob.f Ie 0 6).bind fun t106=>(if t106=true then (if Ie > Wd then (Sb.j1 k true qe Ie Wd me Qc) else ((Ob.f me Wd 1000).bind fun t107=>(if t107=true then ((Ob.f (Qc.length:Int) 1 300).bind fun t108=>(Sb.j1 k (!t108) qe Ie Wd me Qc)) else (Sb.j1 k true qe Ie Wd me Qc)))) else (Sb.j1 k true qe Ie Wd me Qc))) else (Sb.j1 k true qe Ie Wd me Qc))) else (Sb.j1 k true qe Ie Wd me Qc)))
def Sb.j1:Nat→Bool→List Int→Int→Int→Int→List (Ff)→Option (Bool)
 | 0,_,_,_,_,_,_=>none
 | k + 1,x58,qe,Ie,Wd,me,Qc=>if x58=true then (some false) else (Sb.l1 k 0 0 qe Ie Wd me Qc)
def Sb.l1:Nat→Int→Int→List Int→Int→Int→Int→List (Ff)→Option (Bool)
 | 0,_,_,_,_,_,_,_=>none
 | k + 1,x4,x5,qe,Ie,Wd,me,Qc=>if x5 < (Qc.length:Int) then (if 0 ≤ x5 then (if (wrap64 (x4 + (((Ia Qc x5).f0).length:Int))) > 1000 then (some false) else ((Dc.f k qe Ie Wd me Qc ((Ia Qc x5).f0) ((Ia Qc x5).f1) ((Ia Qc x5).f2) ((Ia Qc x5).f3) ((Ia Qc x5).f4)).bind fun t111=>(if t111=true then (Sb.l1 k (wrap64 (x4 + (((Ia Qc x5).f0).length:Int))) (wrap64 (x5 + 1)) qe Ie Wd me Qc) else (some false)))) else (none)) else (some true)
end
def Sb.f (k:Nat) (Ua:List Int) (Pa:Int) (Ra:Int) (Sa:Int) (Fa:List (Ff)):Option (Bool):=Sb.l0 k 0 Ua Pa Ra Sa Fa
def Sb.T13:Bool × List (List Nat × List Nat):=(true,[([],[]),([0],[0]),([1],[1]),([2],[2]),([2],[2]),([4,2],[2,4]),([2],[2]),([5,6,2],[2,5,6]),([7,2],[2,7]),([3,8,2,2],[2,3,8]),([9,2],[2,9]),([2,10],[2,10])])
def Sb.B13:List Nat:=[0,1,3,7,7,23,7,119,247,511,1023,2047]
theorem Sb.eL:Ql .any (opsOf Try.f40 13)=Sb.T13:=by kernel_rfl
theorem Sb.vF:nj Sb.T13.2 Sb.B13=true:=by kernel_rfl
theorem Sb.calls (k:Nat) (yb:Option Addr) (zb:Nat) (Ua:List Int) (Pa:Int) (Ra:Int) (Sa:Int) (fc:Option Addr) (Qb:Nat) (Fa:List (Ff)) (r:Bool) (w:World) (jf:Kd.C (Kd.int .i64) w yb Ua.length Ua) (Ze:Ua.length ≤ zb) (Lg:Kd.C Wr w fc Fa.length Fa) (Ig:Fa.length ≤ Qb) (h:Sb.f k Ua Pa Ra Sa Fa=some r) :
  Calls Try.prog 40 #[.agg #[.slice yb Ua.length zb,.int .i64 Pa,.int .i64 Ra,.int .i64 Sa,.slice fc Fa.length Qb]] w fun e w'=>e = .returned (.bool r)∧Below w.heap.size w w':=by
 have uI:=Try.underlying30;have oG:=Try.underlying59;have lf:=aa.mk jf;have Df:=aa.mk Ze;clear jf Ze;have Tg:=aa.mk Lg;have Ej:=aa.mk Ig;clear Lg Ig;have HB:=aa.mk (Below.refl w.heap.size w);have H:(Sb.l0 k 0 Ua Pa Ra Sa Fa)=some r:=h;clear h;have H':=aa.mk H;clear H;go_enter Try.func40,Try.ntmps40;go_wp2_with (first|((with_reducible refine Za (N:=1) rfl ?_);(try (refine Vj (by rfl) ?_;dsimp only));refine Ab ?hg (N:=1) ?hd (cs:=#[.slice yb Ua.length zb,.int .i64 Pa,.int .i64 Ra,.int .i64 Sa,.slice fc Fa.length Qb]) (t:=30) ?hr ?_;(case hd|hg=>rfl);(case hr=>exact gaK);intro ya hg w2 Fb hb;have Bb:=aa.mk (Ma jaK hb);have Db:=aa.mk (Fb);have Ib:=aa.mk ((by rw [hg];exact (Da jaK):w.heap.size ≤ ya));have Xb:=aa.mk ((by rw [hg];exact (Da jaK):w.heap.size ≤ ya));clear HB;have HB:=Bb;have ta:=Db;have Jd:=Ib;have Qa:=Xb;clear Bb Db Ib Xb hb Fb hg))
 go_loopg [3] k (fun kq v3 w'=>∃ (We:Int),v3 = .int .i64 We∧aa (Sb.l0 kq We Ua Pa Ra Sa Fa=some r)∧aa (kq ≤ k)∧aa (w'.heap[ya]? = some (.cells #[(.slice yb Ua.length zb),.int .i64 Pa,.int .i64 Ra,.int .i64 Sa,(.slice fc Fa.length Qb)] 30 (0,0)))∧aa (Below w.heap.size w w'))
 case atStart=>exact ⟨(0),saK,H',⟨Nat.le_refl _⟩,⟨taK⟩,⟨oaK⟩⟩
 case round =>
  clear H'
  try clear p2
  (try clear HA);(try clear Vg);(try clear ta);(try clear HB);obtain ⟨We,rfl,HA,Vg,ta,HB⟩:=hrel;cases gk with
  | zero=>exact absurd HA.out (by simp [Sb.l0])
  | succ k1 =>
   have H:=HA.out;clear HA;simp only [Sb.l0] at H
   by_cases c3:We < (Ua.length:Int)
   ·rw [if_pos c3] at H;have jh:decide (We < (Ua.length:Int))=true:=decide_eq_true c3;clear c3
    by_cases c4:0 ≤ We
    ·rw [if_pos c4] at H;have mj:decide (0 ≤ We)=true:=decide_eq_true c4;clear c4;replace H:=Option.bind_eq_some_iff.mp H;obtain ⟨t103,A50,H⟩:=H
     try dsimp only at H
     have A5:=aa.mk A50;clear A50
     by_cases c6:t103=true
     ·subst c6;rw [if_pos rfl] at H;have H':=aa.mk H;clear H;obtain ⟨Nv,Mv,Lv,Kv,Jv,Bv,Av,zv,wv,vv⟩:=ri ta.out;have Dg:0 ≤ (We:Int):=Va;have Cg:We < (Ua.length:Int):=Va;obtain ⟨Td,Sl,ue⟩:=Kd.Bm lf.out We Dg Cg;cases Sl;replace ue:=Ja HB.out ue;replace Dg:=eq_true Dg;replace Cg:=eq_true Cg;go_wp2_with (first|((with_reducible refine Cb (f:=53) rfl ?_);refine Jc (some 18) rfl rfl Try.func53 (by kernel_rfl) rfl #[.int .i64 (rd Ua We),.int .i64 1,.int .i64 16] rfl laK ?_;(with_reducible refine (Ob.calls (rd Ua We) 1 16 true _ A5.out).mono ?_);rintro e w' ⟨rfl,⟨nd,rfl⟩⟩;refine ⟨_,rfl,?_⟩))
      go_roundg k1
      case measure=>have:=Vg.out;omega
      case rel=>exact ⟨(wrap64 (We + 1)),saK,H',⟨by have:=Vg.out;omega⟩,⟨taK⟩,⟨oaK⟩⟩
     ·replace c6:=Bool.eq_false_iff.mpr c6;subst c6;rw [if_neg (show ¬ (false=true) by decide)] at H;obtain rfl:=Option.some.inj H;obtain ⟨Pr,Nr,Mr,Lr,Mt,Kr,Jr,Ir,Hr,Us⟩:=ri ta.out;have Dg:0 ≤ (We:Int):=Va;have Cg:We < (Ua.length:Int):=Va;obtain ⟨Td,Sl,ue⟩:=Kd.Bm lf.out We Dg Cg;cases Sl;replace ue:=Ja HB.out ue;replace Dg:=eq_true Dg;replace Cg:=eq_true Cg;go_wp2_with (first|((with_reducible refine Cb (f:=53) rfl ?_);refine Jc (some 18) rfl rfl Try.func53 (by kernel_rfl) rfl #[.int .i64 (rd Ua We),.int .i64 1,.int .i64 16] rfl laK ?_;(with_reducible refine (Ob.calls (rd Ua We) 1 16 false _ A5.out).mono ?_);rintro e w' ⟨rfl,⟨nd,rfl⟩⟩;refine ⟨_,rfl,?_⟩));go_ret;exact ⟨naK,oaK⟩
    ·rw [if_neg c4] at H;exact absurd H (by simp)
   ·rw [if_neg c3] at H;have jh:decide (We < (Ua.length:Int))=false:=decide_eq_false c3;clear c3;have HC9:=aa.mk H;clear H;obtain ⟨Qk,Pk,Ok,Nk,rm,Kk,Jk,Ik,Gk,qm⟩:=ri ta.out
    go_upto_region 6 with (fail)
    go_cut [58] (fun v58 wc=>∃ (kq:Nat) (RO:Bool),v58 = .bool RO∧aa (Sb.j1 kq RO Ua Pa Ra Sa Fa=some r)∧aa (kq ≤ k1)∧aa (wc.heap[ya]? = some (.cells #[(.slice yb Ua.length zb),.int .i64 Pa,.int .i64 Ra,.int .i64 Sa,(.slice fc Fa.length Qb)] 30 (0,0)))∧aa (Below w.heap.size w wc))
    case first =>
     have H:=HC9.out;clear HC9;replace H:=Option.bind_eq_some_iff.mp H;obtain ⟨t104,kY,H⟩:=H
     try dsimp only at H
     have Y_:=aa.mk kY;clear kY
     by_cases uo:t104=true
     ·subst uo;rw [if_pos rfl] at H;replace H:=Option.bind_eq_some_iff.mp H;obtain ⟨t105,iY,H⟩:=H
      try dsimp only at H
      have A13:=aa.mk iY;clear iY
      by_cases c14:t105=true
      ·subst c14;rw [if_pos rfl] at H;replace H:=Option.bind_eq_some_iff.mp H;obtain ⟨t106,fY,H⟩:=H
       try dsimp only at H
       have A15:=aa.mk fY;clear fY
       by_cases c16:t106=true
       ·subst c16;rw [if_pos rfl] at H
        by_cases iK:Pa > Ra
        ·rw [if_pos iK] at H;have jC:decide (Ra < Pa)=true:=decide_eq_true iK;clear iK;(first|rw [jC]|(simp only [jb,mb];rw [jC])|skip);have H':=aa.mk H;clear H;obtain ⟨gu,fu,eu,cu,gx,Ft,Et,Dt,Ct,Cw⟩:=ri ta.out;go_wp2_with (first|((with_reducible refine Cb (f:=53) rfl ?_);refine Jc (some 23) rfl rfl Try.func53 (by kernel_rfl) rfl #[.int .i64 (Ua.length:Int),.int .i64 1,.int .i64 4] rfl laK ?_;(with_reducible refine (Ob.calls (Ua.length:Int) 1 4 true _ Y_.out).mono ?_);rintro e w' ⟨rfl,⟨nd,rfl⟩⟩;refine ⟨_,rfl,?_⟩)|(go_at_call 53;(with_reducible refine (Ob.calls Ra 0 20 true _ A13.out).mono ?_);rintro e w' ⟨rfl,⟨nd,rfl⟩⟩)|(go_at_call 53;(with_reducible refine (Ob.calls Pa 0 6 true _ A15.out).mono ?_);rintro e w' ⟨rfl,⟨nd,rfl⟩⟩))
         go_meet
         case rel=>exact ⟨_,(true),saK,H',⟨by have:=Vg.out;first|omega|exact Nat.le_refl _⟩,⟨taK⟩,⟨oaK⟩⟩
        ·rw [if_neg iK] at H;have jC:decide (Ra < Pa)=false:=decide_eq_false iK;clear iK;(first|rw [jC]|(simp only [jb,mb];rw [jC])|skip);replace H:=Option.bind_eq_some_iff.mp H;obtain ⟨t107,Oan,H⟩:=H
         try dsimp only at H
         have A19:=aa.mk Oan;clear Oan
         by_cases Tp:t107=true
         ·subst Tp;rw [if_pos rfl] at H;replace H:=Option.bind_eq_some_iff.mp H;obtain ⟨t108,eY,H⟩:=H
          try dsimp only at H
          have A21:=aa.mk eY;clear eY;have H':=aa.mk H;clear H;obtain ⟨dx,bx,ax,Zw,Yw,Bw,Aw,zw,yw,xw⟩:=ri ta.out;go_wp2_with (first|((with_reducible refine Cb (f:=53) rfl ?_);refine Jc (some 23) rfl rfl Try.func53 (by kernel_rfl) rfl #[.int .i64 (Ua.length:Int),.int .i64 1,.int .i64 4] rfl laK ?_;(with_reducible refine (Ob.calls (Ua.length:Int) 1 4 true _ Y_.out).mono ?_);rintro e w' ⟨rfl,⟨nd,rfl⟩⟩;refine ⟨_,rfl,?_⟩)|(go_at_call 53;(with_reducible refine (Ob.calls Ra 0 20 true _ A13.out).mono ?_);rintro e w' ⟨rfl,⟨nd,rfl⟩⟩)|(go_at_call 53;(with_reducible refine (Ob.calls Pa 0 6 true _ A15.out).mono ?_);rintro e w' ⟨rfl,⟨nd,rfl⟩⟩)|(go_at_call 53;(with_reducible refine (Ob.calls Sa Ra 1000 true _ A19.out).mono ?_);rintro e w' ⟨rfl,⟨nd,rfl⟩⟩)|(go_at_call 53;(with_reducible refine (Ob.calls (Fa.length:Int) 1 300 t108 _ A21.out).mono ?_);rintro e w' ⟨rfl,⟨nd,rfl⟩⟩))
          go_meet
          case rel=>exact ⟨_,(!t108),saK,H',⟨by have:=Vg.out;first|omega|exact Nat.le_refl _⟩,⟨taK⟩,⟨oaK⟩⟩
         ·replace Tp:=Bool.eq_false_iff.mpr Tp;subst Tp;rw [if_neg (show ¬ (false=true) by decide)] at H;have H':=aa.mk H;clear H;obtain ⟨cr,br,Zq,Yq,Xq,Aq,zq,yq,xq,vq⟩:=ri ta.out;go_wp2_with (first|((with_reducible refine Cb (f:=53) rfl ?_);refine Jc (some 23) rfl rfl Try.func53 (by kernel_rfl) rfl #[.int .i64 (Ua.length:Int),.int .i64 1,.int .i64 4] rfl laK ?_;(with_reducible refine (Ob.calls (Ua.length:Int) 1 4 true _ Y_.out).mono ?_);rintro e w' ⟨rfl,⟨nd,rfl⟩⟩;refine ⟨_,rfl,?_⟩)|(go_at_call 53;(with_reducible refine (Ob.calls Ra 0 20 true _ A13.out).mono ?_);rintro e w' ⟨rfl,⟨nd,rfl⟩⟩)|(go_at_call 53;(with_reducible refine (Ob.calls Pa 0 6 true _ A15.out).mono ?_);rintro e w' ⟨rfl,⟨nd,rfl⟩⟩)|(go_at_call 53;(with_reducible refine (Ob.calls Sa Ra 1000 false _ A19.out).mono ?_);rintro e w' ⟨rfl,⟨nd,rfl⟩⟩))
          go_meet
          case rel=>exact ⟨_,(true),saK,H',⟨by have:=Vg.out;first|omega|exact Nat.le_refl _⟩,⟨taK⟩,⟨oaK⟩⟩
       ·replace c16:=Bool.eq_false_iff.mpr c16;subst c16;rw [if_neg (show ¬ (false=true) by decide)] at H;have H':=aa.mk H;clear H;obtain ⟨Wq,Vq,Uq,Rq,bu,uq,rq,qq,oq,Bt⟩:=ri ta.out;go_wp2_with (first|((with_reducible refine Cb (f:=53) rfl ?_);refine Jc (some 23) rfl rfl Try.func53 (by kernel_rfl) rfl #[.int .i64 (Ua.length:Int),.int .i64 1,.int .i64 4] rfl laK ?_;(with_reducible refine (Ob.calls (Ua.length:Int) 1 4 true _ Y_.out).mono ?_);rintro e w' ⟨rfl,⟨nd,rfl⟩⟩;refine ⟨_,rfl,?_⟩)|(go_at_call 53;(with_reducible refine (Ob.calls Ra 0 20 true _ A13.out).mono ?_);rintro e w' ⟨rfl,⟨nd,rfl⟩⟩)|(go_at_call 53;(with_reducible refine (Ob.calls Pa 0 6 false _ A15.out).mono ?_);rintro e w' ⟨rfl,⟨nd,rfl⟩⟩))
        go_meet
        case rel=>exact ⟨_,(true),saK,H',⟨by have:=Vg.out;first|omega|exact Nat.le_refl _⟩,⟨taK⟩,⟨oaK⟩⟩
      ·replace c14:=Bool.eq_false_iff.mpr c14;subst c14;rw [if_neg (show ¬ (false=true) by decide)] at H;have H':=aa.mk H;clear H;obtain ⟨au,Zt,Yt,Xt,Xw,yt,vt,qt,ot,vw⟩:=ri ta.out;go_wp2_with (first|((with_reducible refine Cb (f:=53) rfl ?_);refine Jc (some 23) rfl rfl Try.func53 (by kernel_rfl) rfl #[.int .i64 (Ua.length:Int),.int .i64 1,.int .i64 4] rfl laK ?_;(with_reducible refine (Ob.calls (Ua.length:Int) 1 4 true _ Y_.out).mono ?_);rintro e w' ⟨rfl,⟨nd,rfl⟩⟩;refine ⟨_,rfl,?_⟩)|(go_at_call 53;(with_reducible refine (Ob.calls Ra 0 20 false _ A13.out).mono ?_);rintro e w' ⟨rfl,⟨nd,rfl⟩⟩))
       go_meet
       case rel=>exact ⟨_,(true),saK,H',⟨by have:=Vg.out;first|omega|exact Nat.le_refl _⟩,⟨taK⟩,⟨oaK⟩⟩
     ·replace uo:=Bool.eq_false_iff.mpr uo;subst uo;rw [if_neg (show ¬ (false=true) by decide)] at H;have H':=aa.mk H;clear H;obtain ⟨Qq,Pq,Oq,Nq,Mq,mq,lq,jq,iq,gq⟩:=ri ta.out;go_wp2_with (first|((with_reducible refine Cb (f:=53) rfl ?_);refine Jc (some 23) rfl rfl Try.func53 (by kernel_rfl) rfl #[.int .i64 (Ua.length:Int),.int .i64 1,.int .i64 4] rfl laK ?_;(with_reducible refine (Ob.calls (Ua.length:Int) 1 4 false _ Y_.out).mono ?_);rintro e w' ⟨rfl,⟨nd,rfl⟩⟩;refine ⟨_,rfl,?_⟩))
      go_meet
      case rel=>exact ⟨_,(true),saK,H',⟨by have:=Vg.out;first|omega|exact Nat.le_refl _⟩,⟨taK⟩,⟨oaK⟩⟩
    case rest =>
     clear HC9
     try clear c1
     try clear p1
     try clear q1
     try clear hx1
     try clear c2
     try clear p2
     try clear c3
     try clear jh
     try clear c4
     try clear mj
     try clear c5
     try clear c6
     try clear p6
     try clear sN
     try clear pN
     try clear Naf
     try clear uo
     try clear c14
     try clear c16
     try clear iK
     try clear jC
     try clear Tp
     try clear Qk
     try clear Pk
     try clear Ok
     try clear Nk
     try clear rm
     try clear gu
     try clear fu
     try clear eu
     try clear cu
     try clear gx
     try clear dx
     try clear bx
     try clear ax
     try clear Zw
     try clear Yw
     try clear cr
     try clear br
     try clear Zq
     try clear Yq
     try clear Xq
     try clear Wq
     try clear Vq
     try clear Uq
     try clear Rq
     try clear bu
     try clear au
     try clear Zt
     try clear Yt
     try clear Xt
     try clear Xw
     try clear Qq
     try clear Pq
     try clear Oq
     try clear Nq
     try clear Mq
     try clear Nv
     try clear Mv
     try clear Lv
     try clear Kv
     try clear Jv
     try clear Pr
     try clear Nr
     try clear Mr
     try clear Lr
     try clear Mt
     try clear Kk
     try clear Jk
     try clear Ik
     try clear Gk
     try clear qm
     try clear Ft
     try clear Et
     try clear Dt
     try clear Ct
     try clear Cw
     try clear Bw
     try clear Aw
     try clear zw
     try clear yw
     try clear xw
     try clear Aq
     try clear zq
     try clear yq
     try clear xq
     try clear vq
     try clear uq
     try clear rq
     try clear qq
     try clear oq
     try clear Bt
     try clear yt
     try clear vt
     try clear qt
     try clear ot
     try clear vw
     try clear mq
     try clear lq
     try clear jq
     try clear iq
     try clear gq
     try clear Bv
     try clear Av
     try clear zv
     try clear wv
     try clear vv
     try clear Kr
     try clear Jr
     try clear Ir
     try clear Hr
     try clear Us
     try clear ue
     try clear Dg
     try clear p2
     try clear Cg
     obtain ⟨kq,RO,rfl,HA,HJ8,ta,HB⟩:=hcut;cases kq with
     | zero=>exact absurd HA.out (by simp [Sb.j1])
     | succ kj8 =>
      have H:=HA.out;clear HA;simp only [Sb.j1] at H
      by_cases c27:RO=true
      ·subst c27;rw [if_pos rfl] at H;obtain rfl:=Option.some.inj H;go_wp2;go_ret;exact ⟨naK,oaK⟩
      ·replace c27:=Bool.eq_false_iff.mpr c27;subst c27;rw [if_neg (show ¬ (false=true) by decide)] at H;have H':=aa.mk H;clear H;go_wp2
       go_loopg [4,5] kj8 (fun kq v4 v5 w'=>∃ (aN:Int) (mg:Int),v4 = .int .i64 aN∧v5 = .int .i64 mg∧aa (Sb.l1 kq aN mg Ua Pa Ra Sa Fa=some r)∧aa (kq ≤ kj8)∧aa (w'.heap[ya]? = some (.cells #[(.slice yb Ua.length zb),.int .i64 Pa,.int .i64 Ra,.int .i64 Sa,(.slice fc Fa.length Qb)] 30 (0,0)))∧aa (Below w.heap.size w w'))
       case atStart=>exact ⟨(0),(0),saK,saK,H',⟨Nat.le_refl _⟩,⟨taK⟩,⟨oaK⟩⟩
       case round =>
        clear H'
        try clear c1
        try clear p1
        try clear q1
        try clear hx1
        try clear c2
        try clear p2
        try clear c3
        try clear jh
        try clear c4
        try clear mj
        try clear c5
        try clear c6
        try clear p6
        try clear sN
        try clear pN
        try clear Naf
        try clear uo
        try clear c14
        try clear c16
        try clear iK
        try clear jC
        try clear Tp
        try clear c27
        try clear Qk
        try clear Pk
        try clear Ok
        try clear Nk
        try clear rm
        try clear gu
        try clear fu
        try clear eu
        try clear cu
        try clear gx
        try clear dx
        try clear bx
        try clear ax
        try clear Zw
        try clear Yw
        try clear cr
        try clear br
        try clear Zq
        try clear Yq
        try clear Xq
        try clear Wq
        try clear Vq
        try clear Uq
        try clear Rq
        try clear bu
        try clear au
        try clear Zt
        try clear Yt
        try clear Xt
        try clear Xw
        try clear Qq
        try clear Pq
        try clear Oq
        try clear Nq
        try clear Mq
        try clear Nv
        try clear Mv
        try clear Lv
        try clear Kv
        try clear Jv
        try clear Pr
        try clear Nr
        try clear Mr
        try clear Lr
        try clear Mt
        try clear Kk
        try clear Jk
        try clear Ik
        try clear Gk
        try clear qm
        try clear Ft
        try clear Et
        try clear Dt
        try clear Ct
        try clear Cw
        try clear Bw
        try clear Aw
        try clear zw
        try clear yw
        try clear xw
        try clear Aq
        try clear zq
        try clear yq
        try clear xq
        try clear vq
        try clear uq
        try clear rq
        try clear qq
        try clear oq
        try clear Bt
        try clear yt
        try clear vt
        try clear qt
        try clear ot
        try clear vw
        try clear mq
        try clear lq
        try clear jq
        try clear iq
        try clear gq
        try clear Bv
        try clear Av
        try clear zv
        try clear wv
        try clear vv
        try clear Kr
        try clear Jr
        try clear Ir
        try clear Hr
        try clear Us
        try clear ue
        try clear p1
        try clear sN
        try clear Dg
        try clear p2
        try clear p6
        try clear q1
        try clear pN
        try clear Cg
        (try clear HA);(try clear HK3);(try clear ta);(try clear HB);obtain ⟨aN,mg,rfl,rfl,HA,HK3,ta,HB⟩:=hrel;cases gk with
        | zero=>exact absurd HA.out (by simp [Sb.l1])
        | succ k3 =>
         have H:=HA.out;clear HA;simp only [Sb.l1] at H
         by_cases c28:mg < (Fa.length:Int)
         ·rw [if_pos c28] at H;have yal:decide (mg < (Fa.length:Int))=true:=decide_eq_true c28;clear c28
          by_cases kR:0 ≤ mg
          ·rw [if_pos kR] at H;have qF:decide (0 ≤ mg)=true:=decide_eq_true kR;clear kR
           by_cases UM:(wrap64 (aN + (((Ia Fa mg).f0).length:Int))) > 1000
           ·rw [if_pos UM] at H;have jR:decide (1000 < (wrap64 (aN + (((Ia Fa mg).f0).length:Int))))=true:=decide_eq_true UM;clear UM;obtain rfl:=Option.some.inj H;obtain ⟨Ww,Vw,Uw,Tw,Sw,uw,tw,sw,qw,ow⟩:=ri ta.out;have Qs:0 ≤ (mg:Int):=Va;have Ms:mg < (Fa.length:Int):=Va;obtain ⟨mh,pn,bn,aK,Bk,Ak,zk,xk,vk,Ck,Ek⟩:=Bj Tg.out mg Qs Ms;cases aK;replace Bk:=Ja HB.out Bk;replace Ak:=Ja HB.out Ak;replace zk:=Ja HB.out zk;replace xk:=Ja HB.out xk;replace vk:=Ja HB.out vk;have oE:=aa.mk Ek;have qE:=aa.mk Ck;clear Ek Ck;replace Qs:=eq_true Qs;replace Ms:=eq_true Ms
            try go_wp2
            have Bb:=aa.mk (Ba ta.out);have Db:=aa.mk (oa HB.out);clear ta HB;have ta:=Bb;have HB:=Db;clear Bb Db;refine Gh (n:=12) (S:=fun w'=>True) (ds:=[]) #[false,false,false,false,false,false,false,false,false,false,false,false] (by kernel_rfl) rfl rfl trivial (fun hHeld=>?_);refine Jg Sb.eL Sb.vF (fun Vd dm=>?_);generalize wr.drew=WO at ta HB hHeld ⊢;refine ec (i:=0) (N:=some 75) (v:=?_) (a':=?_) #[true,false,false,false,false,false,false,false,false,false,false,false] rfl rfl (dc Vd.out (by kernel_rfl)) (fun _ _ _ h=>h) (Or.inl ⟨by rfl,?_⟩) ?_ ?_;rotate_left
            ·exact XaJ
            rotate_left
            ·exact WaJ
            refine ec (i:=1) (N:=some 76) (v:=?_) (a':=?_) #[true,true,false,false,false,false,false,false,false,false,false,false] rfl rfl (dc Vd.out (by kernel_rfl)) (fun _ _ _ h=>h) (Or.inl ⟨by rfl,?_⟩) ?_ ?_;rotate_left
            ·exact XaJ
            rotate_left
            ·exact WaJ
            refine ec (i:=2) (N:=some 77) (v:=?_) (a':=?_) #[true,true,true,false,false,false,false,false,false,false,false,false] rfl rfl (dc Vd.out (by kernel_rfl)) (fun _ _ _ h=>h) (Or.inl ⟨by rfl,?_⟩) ?_ ?_;rotate_left
            ·exact XaJ
            rotate_left
            ·exact WaJ
            refine ec (i:=3) (N:=some 78) (v:=undef) (a':=?_) #[true,true,true,true,false,false,false,false,false,false,false,false] rfl rfl (dc Vd.out (by kernel_rfl)) (fun _ _ _ h=>h) (Or.inr ⟨by rfl,rfl⟩) ?_ ?_;rotate_left
            ·exact WaJ
            refine ec (i:=4) (N:=some 79) (v:=undef) (a':=?_) #[true,true,true,true,true,false,false,false,false,false,false,false] rfl rfl (dc Vd.out (by kernel_rfl)) (fun _ _ _ h=>h) (Or.inr ⟨by rfl,rfl⟩) ?_ ?_;rotate_left
            ·exact WaJ
            refine ec (i:=5) (N:=some 80) (v:=undef) (a':=?_) #[true,true,true,true,true,true,false,false,false,false,false,false] rfl rfl (dc Vd.out (by kernel_rfl)) (fun _ _ _ h=>h) (Or.inr ⟨by rfl,rfl⟩) ?_ ?_;rotate_left
            ·exact WaJ
            refine ec (i:=6) (N:=some 81) (v:=undef) (a':=?_) #[true,true,true,true,true,true,true,false,false,false,false,false] rfl rfl (dc Vd.out (by kernel_rfl)) (fun _ _ _ h=>h) (Or.inr ⟨by rfl,rfl⟩) ?_ ?_;rotate_left
            ·exact WaJ
            refine ec (i:=7) (N:=some 82) (v:=undef) (a':=?_) #[true,true,true,true,true,true,true,true,false,false,false,false] rfl rfl (dc Vd.out (by kernel_rfl)) (fun _ _ _ h=>h) (Or.inr ⟨by rfl,rfl⟩) ?_ ?_;rotate_left
            ·exact WaJ
            refine ec (i:=8) (N:=some 83) (v:=undef) (a':=?_) #[true,true,true,true,true,true,true,true,true,false,false,false] rfl rfl (dc Vd.out (by kernel_rfl)) (fun _ _ _ h=>h) (Or.inr ⟨by rfl,rfl⟩) ?_ ?_;rotate_left
            ·exact WaJ
            refine ec (i:=9) (N:=some 84) (v:=undef) (a':=?_) #[true,true,true,true,true,true,true,true,true,true,false,false] rfl rfl (dc Vd.out (by kernel_rfl)) (fun _ _ _ h=>h) (Or.inr ⟨by rfl,rfl⟩) ?_ ?_;rotate_left
            ·exact WaJ
            refine ec (i:=10) (N:=some 85) (v:=undef) (a':=?_) #[true,true,true,true,true,true,true,true,true,true,true,false] rfl rfl (dc Vd.out (by kernel_rfl)) (fun _ _ _ h=>h) (Or.inr ⟨by rfl,rfl⟩) ?_ ?_;rotate_left
            ·exact WaJ
            refine ec (i:=11) (N:=some 86) (v:=?_) (a':=?_) #[true,true,true,true,true,true,true,true,true,true,true,true] rfl rfl (dc Vd.out (by kernel_rfl)) (fun _ _ _ h=>h) (Or.inl ⟨by rfl,?_⟩) ?_ ?_;rotate_left
            ·exact XaJ
            rotate_left
            ·exact WaJ
            refine fk (si Vd.out (by kernel_rfl)) ?_
            try go_wp2
            go_ret;exact ⟨naK,oaK⟩
           ·rw [if_neg UM] at H;have jR:decide (1000 < (wrap64 (aN + (((Ia Fa mg).f0).length:Int))))=false:=decide_eq_false UM;clear UM;replace H:=Option.bind_eq_some_iff.mp H;obtain ⟨t111,dY,H⟩:=H
            try dsimp only at H
            have A33:=aa.mk dY;clear dY
            by_cases iO:t111=true
            ·subst iO;rw [if_pos rfl] at H;have H':=aa.mk H;clear H;obtain ⟨BJ,zJ,yJ,xJ,GQ,RI,QI,PI,OI,NP⟩:=ri ta.out;have Qs:0 ≤ (mg:Int):=Va;have Ms:mg < (Fa.length:Int):=Va;obtain ⟨mh,pn,bn,aK,Bk,Ak,zk,xk,vk,Ck,Ek⟩:=Bj Tg.out mg Qs Ms;cases aK;replace Bk:=Ja HB.out Bk;replace Ak:=Ja HB.out Ak;replace zk:=Ja HB.out zk;replace xk:=Ja HB.out xk;replace vk:=Ja HB.out vk;have oE:=aa.mk Ek;have qE:=aa.mk Ck;clear Ek Ck;replace Qs:=eq_true Qs;replace Ms:=eq_true Ms
             try go_wp2
             have Bb:=aa.mk (Ba ta.out);have Db:=aa.mk (oa HB.out);clear ta HB;have ta:=Bb;have HB:=Db;clear Bb Db;have rN:0 ≤ (mg:Int):=Va;have oN:mg < (Fa.length:Int):=Va;obtain ⟨gW,UF,rF,pac,bp,Zo,Yo,Xo,Wo,Zz,cA⟩:=Bj Tg.out mg rN oN;have Iz:=Wo;have Jz:=Xo;have Kz:=Yo;have Lz:=Zo;have Mz:=bp;obtain rfl:mh=gW:=(by injection pac);replace bp:=Ja HB.out bp;replace Zo:=Ja HB.out Zo;replace Yo:=Ja HB.out Yo;replace Xo:=Ja HB.out Xo;replace Wo:=Ja HB.out Wo;have RA:=aa.mk cA;have MK:=aa.mk Zz;clear cA Zz;replace rN:=eq_true rN;replace oN:=eq_true oN;refine Gh (n:=12) (S:=fun w'=>w'.cell? ⟨ya,0,none⟩=some (.slice yb Ua.length zb)∧w'.cell? ⟨ya,1,none⟩=some (.int .i64 Pa)∧w'.cell? ⟨ya,2,none⟩=some (.int .i64 Ra)∧w'.cell? ⟨ya,3,none⟩=some (.int .i64 Sa)∧w'.cell? ⟨ya,4,none⟩=some (.slice (some mh) Fa.length Qb)∧w'.cell? (mh.add ((mg).toNat * 5))=some (.slice UF ((Ia Fa mg).f0).length rF)∧w'.cell? ⟨(mh.add ((mg).toNat * 5)).block,(mh.add ((mg).toNat * 5)).off + 1,none⟩=some (.int .i64 ((Ia Fa mg).f1))∧w'.cell? ⟨(mh.add ((mg).toNat * 5)).block,(mh.add ((mg).toNat * 5)).off + 2,none⟩=some (.int .i64 ((Ia Fa mg).f2))∧w'.cell? ⟨(mh.add ((mg).toNat * 5)).block,(mh.add ((mg).toNat * 5)).off + 3,none⟩=some (.int .i64 ((Ia Fa mg).f3))∧w'.cell? ⟨(mh.add ((mg).toNat * 5)).block,(mh.add ((mg).toNat * 5)).off + 4,none⟩=some (.int .i64 ((Ia Fa mg).f4))) (ds:=[]) #[false,false,false,false,false,false,false,false,false,false,false,false] (by kernel_rfl) rfl rfl ⟨(ja ta.out 0).trans rfl,(ja ta.out 1).trans rfl,(ja ta.out 2).trans rfl,(ja ta.out 3).trans rfl,(ja ta.out 4).trans rfl,(Ja HB.out Mz),(Ja HB.out Lz),(Ja HB.out Kz),(Ja HB.out Jz),(Ja HB.out Iz)⟩ (fun hHeld=>?_);refine Jg Sb.eL Sb.vF (fun Vd dm=>?_);generalize wr.drew=wE at ta HB RA bp Zo Yo Xo Wo hHeld ⊢;refine ec (i:=0) (N:=some 75) (v:=?_) (a':=?_) #[true,false,false,false,false,false,false,false,false,false,false,false] rfl rfl (dc Vd.out (by kernel_rfl)) (fun _ _ _ h=>h) (Or.inl ⟨by rfl,?_⟩) ?_ ?_;rotate_left
             ·exact XaJ
             rotate_left
             ·exact WaJ
             refine ec (i:=1) (N:=some 76) (v:=?_) (a':=?_) #[true,true,false,false,false,false,false,false,false,false,false,false] rfl rfl (dc Vd.out (by kernel_rfl)) (fun _ _ _ h=>h) (Or.inl ⟨by rfl,?_⟩) ?_ ?_;rotate_left
             ·exact XaJ
             rotate_left
             ·exact WaJ
             refine ec (i:=2) (N:=some 77) (v:=?_) (a':=?_) #[true,true,true,false,false,false,false,false,false,false,false,false] rfl rfl (dc Vd.out (by kernel_rfl)) (fun _ _ _ h=>h) (Or.inl ⟨by rfl,?_⟩) ?_ ?_;rotate_left
             ·exact XaJ
             rotate_left
             ·exact WaJ
             refine ec (i:=4) (N:=some 79) (v:=?_) (a':=?_) #[true,true,true,false,true,false,false,false,false,false,false,false] rfl rfl (dc Vd.out (by kernel_rfl)) (fun _ _ _ h=>h) (Or.inl ⟨by rfl,?_⟩) ?_ ?_;rotate_left
             ·exact XaJ
             rotate_left
             ·exact WaJ
             refine ec (i:=6) (N:=some 81) (v:=?_) (a':=?_) #[true,true,true,false,true,false,true,false,false,false,false,false] rfl rfl (dc Vd.out (by kernel_rfl)) (fun _ _ _ h=>h) (Or.inl ⟨by rfl,?_⟩) ?_ ?_;rotate_left
             ·exact XaJ
             rotate_left
             ·exact WaJ
             refine Pe (i:=3) (N:=some 78) (v:=?_) (a':=?_) #[true,true,true,true,true,false,true,false,false,false,false,false] rfl rfl (Ad Vd.out dm.out (by kernel_rfl)) (fun _ _ _ h=>h) (Or.inl ⟨by rfl,?_⟩) hHeld ?_ ?_;rotate_left
             ·exact baK
             rotate_left
             ·exact WaJ
             refine Pe (i:=5) (N:=some 80) (v:=?_) (a':=?_) #[true,true,true,true,true,true,true,false,false,false,false,false] rfl rfl (Ad Vd.out dm.out (by kernel_rfl)) (fun _ _ _ h=>h) (Or.inl ⟨by rfl,?_⟩) hHeld ?_ ?_;rotate_left
             ·exact baK
             rotate_left
             ·exact WaJ
             refine ec (i:=7) (N:=some 82) (v:=?_) (a':=?_) #[true,true,true,true,true,true,true,true,false,false,false,false] rfl rfl (dc Vd.out (by kernel_rfl)) (fun _ _ _ h=>h) (Or.inl ⟨by rfl,?_⟩) ?_ ?_;rotate_left
             ·exact XaJ
             rotate_left
             ·exact WaJ
             refine Pe (i:=8) (N:=some 83) (v:=?_) (a':=?_) #[true,true,true,true,true,true,true,true,true,false,false,false] rfl rfl (Ad Vd.out dm.out (by kernel_rfl)) (fun _ _ _ h=>h) (Or.inl ⟨by rfl,?_⟩) hHeld ?_ ?_;rotate_left
             ·exact baK
             rotate_left
             ·exact WaJ
             refine Gi (i:=9) (N:=some 84) #[true,true,true,true,true,true,true,true,true,true,false,false] rfl rfl (Wg Vd.out (by kernel_rfl)) (by decide) (fun K hK=>?_);refine Hj Try.func71 (by kernel_rfl) rfl #[.agg #[.slice yb Ua.length zb,.int .i64 Pa,.int .i64 Ra,.int .i64 Sa,.slice (some mh) Fa.length Qb],.agg #[.slice UF ((Ia Fa mg).f0).length rF,.int .i64 ((Ia Fa mg).f1),.int .i64 ((Ia Fa mg).f2),.int .i64 ((Ia Fa mg).f3),.int .i64 ((Ia Fa mg).f4)]] (by rfl) rfl rfl laK ?_;with_reducible refine (Dc.calls k3 _ _ Ua Pa Ra Sa _ _ Fa _ _ ((Ia Fa mg).f0) ((Ia Fa mg).f1) ((Ia Fa mg).f2) ((Ia Fa mg).f3) ((Ia Fa mg).f4) true _ ?Ic ?Gc ?Ae ?ze ?Su ?Ru A33.out).mono ?_
             (case Ic=>repeat (first|exact (Kd.Kb lf.out HB.out)|(with_reducible refine Kd.Vb ?_ _)|(with_reducible refine Kd.Ub ?_ _)|(with_reducible refine Kd.tc ?_)))
             (case Gc=>exact Df.out)
             (case Ae=>repeat (first|exact (Kd.Kb Tg.out HB.out)|(with_reducible refine Kd.Vb ?_ _)|(with_reducible refine Kd.Ub ?_ _)|(with_reducible refine Kd.tc ?_)))
             (case ze=>exact Ej.out)
             (case Su=>repeat (first|exact (Kd.Kb RA.out HB.out)|(with_reducible refine Kd.Vb ?_ _)|(with_reducible refine Kd.Ub ?_ _)|(with_reducible refine Kd.tc ?_)))
             (case Ru=>exact MK.out)
             rintro e w37 ⟨rfl,hb⟩;refine ⟨_,rfl,?_⟩;have Bb:=aa.mk (Na (g:=ya) (o:=.cells #[.slice yb Ua.length zb,.int .i64 Pa,.int .i64 Ra,.int .i64 Sa,.slice (some mh) Fa.length Qb] 30 (0,0)) kaK hb);have Db:=aa.mk (Ma iaK hb);clear ta HB;have ta:=Bb;have HB:=Db;clear Bb Db;(try clear hb);(try clear ek);(try clear hk);(try clear hi);refine hK.out _ _ ⟨(ja ta.out 0).trans rfl,(ja ta.out 1).trans rfl,(ja ta.out 2).trans rfl,(ja ta.out 3).trans rfl,(ja ta.out 4).trans rfl,(Ja HB.out Mz),(Ja HB.out Lz),(Ja HB.out Kz),(Ja HB.out Jz),(Ja HB.out Iz)⟩ (fun hHeld=>?_);clear hK K;refine Be (a':=?_) ?_ ?_;rotate_left
             ·show Act.put _ (some 84) _=_
              exact WaJ
             refine ec (i:=10) (N:=some 85) (v:=?_) (a':=?_) #[true,true,true,true,true,true,true,true,true,true,true,false] rfl rfl (dc Vd.out (by kernel_rfl)) (fun _ _ _ h=>h) (Or.inl ⟨by rfl,?_⟩) ?_ ?_;rotate_left
             ·exact XaJ
             rotate_left
             ·exact WaJ
             refine ec (i:=11) (N:=some 86) (v:=?_) (a':=?_) #[true,true,true,true,true,true,true,true,true,true,true,true] rfl rfl (dc Vd.out (by kernel_rfl)) (fun _ _ _ h=>h) (Or.inl ⟨by rfl,?_⟩) ?_ ?_;rotate_left
             ·exact XaJ
             rotate_left
             ·exact WaJ
             refine fk (si Vd.out (by kernel_rfl)) ?_
             try go_wp2
             go_roundg k3
             case measure=>have:=Vg.out;have:=HJ8.out;have:=HK3.out;omega
             case rel=>exact ⟨(wrap64 (aN + (((Ia Fa mg).f0).length:Int))),(wrap64 (mg + 1)),saK,saK,H',⟨by have:=Vg.out;have:=HJ8.out;have:=HK3.out;omega⟩,⟨taK⟩,⟨oaK⟩⟩
            ·replace iO:=Bool.eq_false_iff.mpr iO;subst iO;rw [if_neg (show ¬ (false=true) by decide)] at H;obtain rfl:=Option.some.inj H;obtain ⟨wJ,uJ,tJ,sJ,rJ,NI,MI,LI,KI,JI⟩:=ri ta.out;have Qs:0 ≤ (mg:Int):=Va;have Ms:mg < (Fa.length:Int):=Va;obtain ⟨mh,pn,bn,aK,Bk,Ak,zk,xk,vk,Ck,Ek⟩:=Bj Tg.out mg Qs Ms;cases aK;replace Bk:=Ja HB.out Bk;replace Ak:=Ja HB.out Ak;replace zk:=Ja HB.out zk;replace xk:=Ja HB.out xk;replace vk:=Ja HB.out vk;have oE:=aa.mk Ek;have qE:=aa.mk Ck;clear Ek Ck;replace Qs:=eq_true Qs;replace Ms:=eq_true Ms
             try go_wp2
             have Bb:=aa.mk (Ba ta.out);have Db:=aa.mk (oa HB.out);clear ta HB;have ta:=Bb;have HB:=Db;clear Bb Db;have rN:0 ≤ (mg:Int):=Va;have oN:mg < (Fa.length:Int):=Va;obtain ⟨gW,UF,rF,pac,bp,Zo,Yo,Xo,Wo,Zz,cA⟩:=Bj Tg.out mg rN oN;have Iz:=Wo;have Jz:=Xo;have Kz:=Yo;have Lz:=Zo;have Mz:=bp;obtain rfl:mh=gW:=(by injection pac);replace bp:=Ja HB.out bp;replace Zo:=Ja HB.out Zo;replace Yo:=Ja HB.out Yo;replace Xo:=Ja HB.out Xo;replace Wo:=Ja HB.out Wo;have RA:=aa.mk cA;have MK:=aa.mk Zz;clear cA Zz;replace rN:=eq_true rN;replace oN:=eq_true oN;refine Gh (n:=12) (S:=fun w'=>w'.cell? ⟨ya,0,none⟩=some (.slice yb Ua.length zb)∧w'.cell? ⟨ya,1,none⟩=some (.int .i64 Pa)∧w'.cell? ⟨ya,2,none⟩=some (.int .i64 Ra)∧w'.cell? ⟨ya,3,none⟩=some (.int .i64 Sa)∧w'.cell? ⟨ya,4,none⟩=some (.slice (some mh) Fa.length Qb)∧w'.cell? (mh.add ((mg).toNat * 5))=some (.slice UF ((Ia Fa mg).f0).length rF)∧w'.cell? ⟨(mh.add ((mg).toNat * 5)).block,(mh.add ((mg).toNat * 5)).off + 1,none⟩=some (.int .i64 ((Ia Fa mg).f1))∧w'.cell? ⟨(mh.add ((mg).toNat * 5)).block,(mh.add ((mg).toNat * 5)).off + 2,none⟩=some (.int .i64 ((Ia Fa mg).f2))∧w'.cell? ⟨(mh.add ((mg).toNat * 5)).block,(mh.add ((mg).toNat * 5)).off + 3,none⟩=some (.int .i64 ((Ia Fa mg).f3))∧w'.cell? ⟨(mh.add ((mg).toNat * 5)).block,(mh.add ((mg).toNat * 5)).off + 4,none⟩=some (.int .i64 ((Ia Fa mg).f4))) (ds:=[]) #[false,false,false,false,false,false,false,false,false,false,false,false] (by kernel_rfl) rfl rfl ⟨(ja ta.out 0).trans rfl,(ja ta.out 1).trans rfl,(ja ta.out 2).trans rfl,(ja ta.out 3).trans rfl,(ja ta.out 4).trans rfl,(Ja HB.out Mz),(Ja HB.out Lz),(Ja HB.out Kz),(Ja HB.out Jz),(Ja HB.out Iz)⟩ (fun hHeld=>?_);refine Jg Sb.eL Sb.vF (fun Vd dm=>?_);generalize wr.drew=w39 at ta HB RA bp Zo Yo Xo Wo hHeld ⊢;refine ec (i:=0) (N:=some 75) (v:=?_) (a':=?_) #[true,false,false,false,false,false,false,false,false,false,false,false] rfl rfl (dc Vd.out (by kernel_rfl)) (fun _ _ _ h=>h) (Or.inl ⟨by rfl,?_⟩) ?_ ?_;rotate_left
             ·exact XaJ
             rotate_left
             ·exact WaJ
             refine ec (i:=1) (N:=some 76) (v:=?_) (a':=?_) #[true,true,false,false,false,false,false,false,false,false,false,false] rfl rfl (dc Vd.out (by kernel_rfl)) (fun _ _ _ h=>h) (Or.inl ⟨by rfl,?_⟩) ?_ ?_;rotate_left
             ·exact XaJ
             rotate_left
             ·exact WaJ
             refine ec (i:=2) (N:=some 77) (v:=?_) (a':=?_) #[true,true,true,false,false,false,false,false,false,false,false,false] rfl rfl (dc Vd.out (by kernel_rfl)) (fun _ _ _ h=>h) (Or.inl ⟨by rfl,?_⟩) ?_ ?_;rotate_left
             ·exact XaJ
             rotate_left
             ·exact WaJ
             refine ec (i:=4) (N:=some 79) (v:=?_) (a':=?_) #[true,true,true,false,true,false,false,false,false,false,false,false] rfl rfl (dc Vd.out (by kernel_rfl)) (fun _ _ _ h=>h) (Or.inl ⟨by rfl,?_⟩) ?_ ?_;rotate_left
             ·exact XaJ
             rotate_left
             ·exact WaJ
             refine ec (i:=6) (N:=some 81) (v:=?_) (a':=?_) #[true,true,true,false,true,false,true,false,false,false,false,false] rfl rfl (dc Vd.out (by kernel_rfl)) (fun _ _ _ h=>h) (Or.inl ⟨by rfl,?_⟩) ?_ ?_;rotate_left
             ·exact XaJ
             rotate_left
             ·exact WaJ
             refine Pe (i:=3) (N:=some 78) (v:=?_) (a':=?_) #[true,true,true,true,true,false,true,false,false,false,false,false] rfl rfl (Ad Vd.out dm.out (by kernel_rfl)) (fun _ _ _ h=>h) (Or.inl ⟨by rfl,?_⟩) hHeld ?_ ?_;rotate_left
             ·exact baK
             rotate_left
             ·exact WaJ
             refine Pe (i:=5) (N:=some 80) (v:=?_) (a':=?_) #[true,true,true,true,true,true,true,false,false,false,false,false] rfl rfl (Ad Vd.out dm.out (by kernel_rfl)) (fun _ _ _ h=>h) (Or.inl ⟨by rfl,?_⟩) hHeld ?_ ?_;rotate_left
             ·exact baK
             rotate_left
             ·exact WaJ
             refine ec (i:=7) (N:=some 82) (v:=?_) (a':=?_) #[true,true,true,true,true,true,true,true,false,false,false,false] rfl rfl (dc Vd.out (by kernel_rfl)) (fun _ _ _ h=>h) (Or.inl ⟨by rfl,?_⟩) ?_ ?_;rotate_left
             ·exact XaJ
             rotate_left
             ·exact WaJ
             refine Pe (i:=8) (N:=some 83) (v:=?_) (a':=?_) #[true,true,true,true,true,true,true,true,true,false,false,false] rfl rfl (Ad Vd.out dm.out (by kernel_rfl)) (fun _ _ _ h=>h) (Or.inl ⟨by rfl,?_⟩) hHeld ?_ ?_;rotate_left
             ·exact baK
             rotate_left
             ·exact WaJ
             refine Gi (i:=9) (N:=some 84) #[true,true,true,true,true,true,true,true,true,true,false,false] rfl rfl (Wg Vd.out (by kernel_rfl)) (by decide) (fun K hK=>?_);refine Hj Try.func71 (by kernel_rfl) rfl #[.agg #[.slice yb Ua.length zb,.int .i64 Pa,.int .i64 Ra,.int .i64 Sa,.slice (some mh) Fa.length Qb],.agg #[.slice UF ((Ia Fa mg).f0).length rF,.int .i64 ((Ia Fa mg).f1),.int .i64 ((Ia Fa mg).f2),.int .i64 ((Ia Fa mg).f3),.int .i64 ((Ia Fa mg).f4)]] (by rfl) rfl rfl laK ?_;with_reducible refine (Dc.calls k3 _ _ Ua Pa Ra Sa _ _ Fa _ _ ((Ia Fa mg).f0) ((Ia Fa mg).f1) ((Ia Fa mg).f2) ((Ia Fa mg).f3) ((Ia Fa mg).f4) false _ ?Ic ?Gc ?Ae ?ze ?Su ?Ru A33.out).mono ?_
             (case Ic=>repeat (first|exact (Kd.Kb lf.out HB.out)|(with_reducible refine Kd.Vb ?_ _)|(with_reducible refine Kd.Ub ?_ _)|(with_reducible refine Kd.tc ?_)))
             (case Gc=>exact Df.out)
             (case Ae=>repeat (first|exact (Kd.Kb Tg.out HB.out)|(with_reducible refine Kd.Vb ?_ _)|(with_reducible refine Kd.Ub ?_ _)|(with_reducible refine Kd.tc ?_)))
             (case ze=>exact Ej.out)
             (case Su=>repeat (first|exact (Kd.Kb RA.out HB.out)|(with_reducible refine Kd.Vb ?_ _)|(with_reducible refine Kd.Ub ?_ _)|(with_reducible refine Kd.tc ?_)))
             (case Ru=>exact MK.out)
             rintro e X6 ⟨rfl,hb⟩;refine ⟨_,rfl,?_⟩;have Bb:=aa.mk (Na (g:=ya) (o:=.cells #[.slice yb Ua.length zb,.int .i64 Pa,.int .i64 Ra,.int .i64 Sa,.slice (some mh) Fa.length Qb] 30 (0,0)) kaK hb);have Db:=aa.mk (Ma iaK hb);clear ta HB;have ta:=Bb;have HB:=Db;clear Bb Db;(try clear hb);(try clear ek);(try clear hk);(try clear hi);refine hK.out _ _ ⟨(ja ta.out 0).trans rfl,(ja ta.out 1).trans rfl,(ja ta.out 2).trans rfl,(ja ta.out 3).trans rfl,(ja ta.out 4).trans rfl,(Ja HB.out Mz),(Ja HB.out Lz),(Ja HB.out Kz),(Ja HB.out Jz),(Ja HB.out Iz)⟩ (fun hHeld=>?_);clear hK K;refine Be (a':=?_) ?_ ?_;rotate_left
             ·show Act.put _ (some 84) _=_
              exact WaJ
             refine ec (i:=10) (N:=some 85) (v:=?_) (a':=?_) #[true,true,true,true,true,true,true,true,true,true,true,false] rfl rfl (dc Vd.out (by kernel_rfl)) (fun _ _ _ h=>h) (Or.inl ⟨by rfl,?_⟩) ?_ ?_;rotate_left
             ·exact XaJ
             rotate_left
             ·exact WaJ
             refine ec (i:=11) (N:=some 86) (v:=?_) (a':=?_) #[true,true,true,true,true,true,true,true,true,true,true,true] rfl rfl (dc Vd.out (by kernel_rfl)) (fun _ _ _ h=>h) (Or.inl ⟨by rfl,?_⟩) ?_ ?_;rotate_left
             ·exact XaJ
             rotate_left
             ·exact WaJ
             refine fk (si Vd.out (by kernel_rfl)) ?_
             try go_wp2
             go_ret;exact ⟨naK,oaK⟩
          ·rw [if_neg kR] at H;exact absurd H (by simp)
         ·rw [if_neg c28] at H;have yal:decide (mg < (Fa.length:Int))=false:=decide_eq_false c28;clear c28;obtain rfl:=Option.some.inj H;obtain ⟨vQ,uQ,tQ,sQ,qJ,II,GI,FI,EI,DI⟩:=ri ta.out;go_wp2;go_ret;exact ⟨naK,oaK⟩
def Af.l0:Nat→List ByteArray→ByteArray→Int→Option (Int)
 | 0,_,_,_=>none
 | k + 1,x0,x1,x5=>if x5 < (x0.length:Int) then (if 0 ≤ x5 then (if (Kg ByteArray.empty x0 x5).toList=x1.toList then (some x5) else (Af.l0 k x0 x1 (wrap64 (x5 + 1)))) else (none)) else (some (-1))
def Af.f (k:Nat) (l0:List ByteArray) (a1:ByteArray):Option (Int):=Af.l0 k l0 a1 0
theorem Af.calls (k:Nat) (A0:Option Addr) (c0:Nat) (l0:List ByteArray) (a1:ByteArray) (r:Int) (w:World) (Tk:Kd.C Kd.string w A0 l0.length l0) (hc0:l0.length ≤ c0) (h:Af.f k l0 a1=some r) :
  Calls Try.prog 107 #[.slice A0 l0.length c0,.string a1] w fun e w'=>e = .returned (.int .i64 r)∧nc w w':=by
 have ij:=aa.mk Tk;have nH:=aa.mk hc0;clear Tk hc0;have H:(Af.l0 k l0 a1 0)=some r:=h;clear h;have H':=aa.mk H;clear H;go_enter Try.func107,Try.ntmps107;go_wp2
 go_loopg [5] k (fun kq v5 w'=>∃ (Ca:Int),v5 = .int .i64 Ca∧aa (Af.l0 kq l0 a1 Ca=some r)∧aa (kq ≤ k)∧nc w w')
 case atStart=>exact ⟨(0),saK,H',⟨Nat.le_refl _⟩,vaK⟩
 case round =>
  clear H'
  try clear c1
  try clear p2
  (try clear HA);(try clear Vg);obtain ⟨Ca,rfl,HA,Vg,⟨m1,rfl⟩⟩:=hrel;cases gk with
  | zero=>exact absurd HA.out (by simp [Af.l0])
  | succ k1 =>
   have H:=HA.out;clear HA;simp only [Af.l0] at H
   by_cases c3:Ca < (l0.length:Int)
   ·rw [if_pos c3] at H;have jh:decide (Ca < (l0.length:Int))=true:=decide_eq_true c3;clear c3
    by_cases c4:0 ≤ Ca
    ·rw [if_pos c4] at H;have mj:decide (0 ≤ Ca)=true:=decide_eq_true c4;clear c4
     by_cases c5:(Kg ByteArray.empty l0 Ca).toList=a1.toList
     ·rw [if_pos c5] at H;have Tl:=beq_iff_eq.mpr c5;have tu:=bne_eq_false_iff_eq.mpr c5;clear c5;obtain rfl:=Option.some.inj H;have Ge:0 ≤ (Ca:Int):=Va;have Fe:Ca < (l0.length:Int):=Va;obtain ⟨od,xh,yd⟩:=Kd.Gp ij.out Ca Ge Fe;cases xh;replace Ge:=eq_true Ge;replace Fe:=eq_true Fe;go_wp2;go_ret;exact ⟨DaK,vaK⟩
     ·rw [if_neg c5] at H;have Tl:=beq_eq_false_iff_ne.mpr c5;have tu:=bne_iff_ne.mpr c5;have H':=aa.mk H;clear H;have Ge:0 ≤ (Ca:Int):=Va;have Fe:Ca < (l0.length:Int):=Va;obtain ⟨od,xh,yd⟩:=Kd.Gp ij.out Ca Ge Fe;cases xh;replace Ge:=eq_true Ge;replace Fe:=eq_true Fe;go_wp2
      go_roundg k1
      case measure=>have:=Vg.out;omega
      case rel=>exact ⟨(wrap64 (Ca + 1)),saK,H',⟨by have:=Vg.out;omega⟩,vaK⟩
    ·rw [if_neg c4] at H;exact absurd H (by simp)
   ·rw [if_neg c3] at H;have jh:decide (Ca < (l0.length:Int))=false:=decide_eq_false c3;clear c3;obtain rfl:=Option.some.inj H;go_wp2;go_ret;exact ⟨DaK,vaK⟩
def Ij.f (k:Nat) (a0:ByteArray):Option (Int):=(Af.f k (([(⟨#[43]⟩:ByteArray),(⟨#[45]⟩:ByteArray),(⟨#[42]⟩:ByteArray),(⟨#[38]⟩:ByteArray),(⟨#[61,61]⟩:ByteArray),(⟨#[60]⟩:ByteArray)]:List ByteArray)) a0).bind fun t104=>(some t104)
theorem Ij.calls (k:Nat) (a0:ByteArray) (r:Int) (w:World) (h:Ij.f k a0=some r) :
  Calls Try.prog 89 #[.string a0] w fun e w'=>e = .returned (.int .i64 r)∧Below w.heap.size w w':=by
 have HB:=aa.mk (Below.refl w.heap.size w);have H:((Af.f k (([(⟨#[43]⟩:ByteArray),(⟨#[45]⟩:ByteArray),(⟨#[42]⟩:ByteArray),(⟨#[38]⟩:ByteArray),(⟨#[61,61]⟩:ByteArray),(⟨#[60]⟩:ByteArray)]:List ByteArray)) a0).bind fun t104=>(some t104))=some r:=h;clear h;obtain ⟨Ee,gf⟩:∃ y_:List ByteArray,y_=(([(⟨#[43]⟩:ByteArray),(⟨#[45]⟩:ByteArray),(⟨#[42]⟩:ByteArray),(⟨#[38]⟩:ByteArray),(⟨#[61,61]⟩:ByteArray),(⟨#[60]⟩:ByteArray)]:List ByteArray)):=⟨_,rfl⟩;replace H:((Af.f k Ee a0).bind fun t104=>(some t104))=some r:=by first|(rw [gf];with_reducible exact H)|(have Ld:=(Option.bind_some _ _).symm.trans H;rw [gf];with_reducible exact Ld)|(have Ld:=(Option.bind_some _ _).symm.trans H;with_reducible exact Ld)|with_reducible exact H|(rw [gf];exact H)|exact H
 have cj:=aa.mk gf;clear gf;replace H:=Option.bind_eq_some_iff.mp H;obtain ⟨t104,uC,H⟩:=H
 try dsimp only at H
 have A2:=aa.mk uC;clear uC;obtain rfl:=Option.some.inj H;go_enter Try.func89,Try.ntmps89;go_wp2_with (first|((with_reducible refine Za (N:=3) rfl ?_);refine Kd.Ei Kd.string _ 9 ?hg (N:=3) ?hd (xs:=([(⟨#[43]⟩:ByteArray),(⟨#[45]⟩:ByteArray),(⟨#[42]⟩:ByteArray),(⟨#[38]⟩:ByteArray),(⟨#[61,61]⟩:ByteArray),(⟨#[60]⟩:ByteArray)]:List ByteArray)) (inner:=[.string (⟨#[43]⟩:ByteArray),.string (⟨#[45]⟩:ByteArray),.string (⟨#[42]⟩:ByteArray),.string (⟨#[38]⟩:ByteArray),.string (⟨#[61,61]⟩:ByteArray),.string (⟨#[60]⟩:ByteArray)]) (ok:=fun _=>True) (Sh:=fun _=>True) ?hr ?hp (fun _ hk=>hk) trivial (Below.refl _ _) (Nat.le_refl _) (by simp) ?_;(case hd|hg=>rfl);(case hr=>exact gaK);(case hp=>exact (Wc.one (show Kd.M Kd.string _ _ _ (⟨#[43]⟩:ByteArray) [.string (⟨#[43]⟩:ByteArray)] from rfl) (Wc.one (show Kd.M Kd.string _ _ _ (⟨#[45]⟩:ByteArray) [.string (⟨#[45]⟩:ByteArray)] from rfl) (Wc.one (show Kd.M Kd.string _ _ _ (⟨#[42]⟩:ByteArray) [.string (⟨#[42]⟩:ByteArray)] from rfl) (Wc.one (show Kd.M Kd.string _ _ _ (⟨#[38]⟩:ByteArray) [.string (⟨#[38]⟩:ByteArray)] from rfl) (Wc.one (show Kd.M Kd.string _ _ _ (⟨#[61,61]⟩:ByteArray) [.string (⟨#[61,61]⟩:ByteArray)] from rfl) (Wc.one (show Kd.M Kd.string _ _ _ (⟨#[60]⟩:ByteArray) [.string (⟨#[60]⟩:ByteArray)] from rfl) (Wc.none _ _))))))));intro jG w3 oB hb bk xe;clear bk xe;(first|rw [← cj.out] at oB|(simp only [Int.reduceToNat] at oB;rw [← cj.out] at oB));have Bb:=aa.mk (Kd.td oB (Da jaK));have Db:=aa.mk (Ma jaK hb);clear HB;have kn:=Bb;have HB:=Db;clear Bb Db hb oB;obtain ⟨AY,YS,dR⟩:=Kd.Lc kn.out;subst dR)|((with_reducible refine Cb (f:=107) rfl ?_);refine Jc (some 5) rfl rfl Try.func107 (by kernel_rfl) rfl #[.slice AY Ee.length YS,.string a0] rfl laK ?_;(with_reducible refine (Af.calls k _ _ Ee a0 t104 _ ?Ic ?Gc A2.out).mono ?_);(case Ic=>repeat (first|exact (Kd.Jb kn.out).2.2|(with_reducible refine Kd.Vb ?_ _)|(with_reducible refine Kd.Ub ?_ _)|(with_reducible refine Kd.tc ?_)));(case Gc=>exact (Kd.Jb kn.out).2.1);rintro e w' ⟨rfl,⟨nd,rfl⟩⟩;refine ⟨_,rfl,?_⟩));go_ret;exact ⟨naK,raK⟩
end Go.Proofs.Ytkigbdceceeenaa.P
end
